/- The law FnHolonomy is true for every input: there is a bad loop exactly if there is no potential, its sum is that along it, and without the least edges there is a potential. -/
import Derived.Test.YtdjamhallkijmaaPhHp
import Derived.Test.YtdjamhallkijmaaPhDi
import Derived.Test.YtdjamhallkijmaaSrP
import Derived.Test.YtdjamhallkijmaaSrB
namespace Go.AG
open Go.Proofs Go.Proofs.Ytdjamhallkijmaa
set_option linter.unusedSimpArgs false
set_option linter.unusedVariables false
set_option maxRecDepth 4000
theorem Ph.valid_ok {x : Ph} (hv : x.valid) : x.ok := by
  obtain ⟨h1, h2, h3, h4, h5, h6⟩ := hv
  refine ⟨⟨by omega, by omega⟩, ⟨by omega, by omega⟩, fun t ht => ?_⟩
  obtain ⟨j, hj, rfl⟩ := List.mem_iff_getElem.1 ht
  have := (h5 j hj hj).1
  unfold Ph.el at this
  exact ⟨⟨by omega, by omega⟩, ⟨by omega, by omega⟩, ⟨by omega, by omega⟩⟩
theorem frz2 {P : Program} {g : FuncId} {args : List AV} {res : List Int} {c : Int} (H : ACalls P g args [] (fun v h' => ∃ w, v = .tup [w, .int .i64 c] ∧ OwnL iv 1 w res h')) (h : Heap) : ACalls P g args h (fun v h' => v = .tup [.snap 1 (res.map iv), .int .i64 c] ∧ h' = h) := by
  refine ACalls.post ((ACalls.gives (h := h) [] (by simp) H fun v h' ⟨w, e, o⟩ => ?_).mono ?_)
  · have := o.own own_iv1
    subst e
    exact ⟨by simp [own, owns, this.1], this.2⟩
  · rintro v h'' ⟨h', ⟨w, rfl, o⟩, _, rfl⟩
    refine Post.lend ?_
    rw [lend1_tup2, lend1_cold h' (x := .int .i64 c) rfl]
    exact .wk (.tup (.cons o.lent.wk (.cons (.refl _) .nil))) (.base ⟨rfl, rfl⟩)
theorem lend1_tup3 (L : Heap) (a b c : AV) : lend1 L (.tup [a, b, c]) = .tup [lend1 L a, lend1 L b, lend1 L c] := by
  induction L generalizing a b c with
  | nil => rfl
  | cons p L ih => simp only [lend1, fz, fzs]; exact ih _ _ _
theorem frz3 {P : Program} {g : FuncId} {args : List AV} {res : List Int} {c d : Int} (H : ACalls P g args [] (fun v h' => ∃ w, v = .tup [w, .int .i64 c, .int .i64 d] ∧ OwnL iv 1 w res h')) (h : Heap) : ACalls P g args h (fun v h' => v = .tup [.snap 1 (res.map iv), .int .i64 c, .int .i64 d] ∧ h' = h) := by
  refine ACalls.post ((ACalls.gives (h := h) [] (by simp) H fun v h' ⟨w, e, o⟩ => ?_).mono ?_)
  · have := o.own own_iv1
    subst e
    exact ⟨by simp [own, owns, this.1], this.2⟩
  · rintro v h'' ⟨h', ⟨w, rfl, o⟩, _, rfl⟩
    refine Post.lend ?_
    rw [lend1_tup3, lend1_cold h' (x := .int .i64 c) rfl, lend1_cold h' (x := .int .i64 d) rfl]
    exact .wk (.tup (.cons o.lent.wk (.cons (.refl _) (.cons (.refl _) .nil)))) (.base ⟨rfl, rfl⟩)
/-- What a block holds, told less exactly. -/
theorem Run2.wkB {C : Cx} {sk : List AItem} {e : Env} {R : AV → Heap → Prop} {g rest : Heap} {id sz : Nat} {l l' : List AV} (hw : ∀ w D b o, Elems w D sz l b o → Elems w D sz l' b o) (k : Run2 C sk e (g ++ (id, ⟨sz, l'⟩) :: rest) R) : Run2 C sk e (g ++ (id, ⟨sz, l⟩) :: rest) R := by
  unfold Run2 at k ⊢
  intro kk tmps w cs w0 D0 hk S
  have hd : dom (g ++ (id, (⟨sz, l'⟩ : Blk)) :: rest) = dom (g ++ (id, ⟨sz, l⟩) :: rest) := by simp [dom]
  refine k kk tmps w cs w0 D0 hk ⟨by rw [hd]; exact S.env, S.size, ⟨by rw [hd]; exact S.heap.nd, fun p hp => ?_, by rw [hd]; exact S.heap.fix⟩, by rw [hd]; exact S.ev⟩
  rw [hd]
  rcases List.mem_append.1 hp with hp | hp
  · exact S.heap.all p (List.mem_append_left _ hp)
  · rcases List.mem_cons.1 hp with rfl | hp
    · obtain ⟨c, el, e1, hE⟩ := S.heap.all (id, ⟨sz, l⟩) (List.mem_append_right _ (List.mem_cons_self ..))
      exact ⟨c, el, e1, hw _ _ _ _ hE⟩
    · exact S.heap.all p (List.mem_append_right _ (List.mem_cons_of_mem _ hp))
theorem wk_less (n m : Int) {u u' : AV} (hu : Wk u u') : ∀ w D b o, Elems w D 3 [.agg [.int .i64 n, .int .i64 m, u]] b o → Elems w D 3 [.agg [.int .i64 n, .int .i64 m, u']] b o := by
  intro w D b o ⟨⟨h1, h2, h3, ⟨v, h4, h5, h6⟩, h7⟩, h8⟩
  exact ⟨⟨rfl, h2, h3, ⟨v, h4, h5, hu _ _ _ h6⟩, h7⟩, h8⟩
abbrev k12_o0 : List AJ := [.o ⟨(some 4), none, false, .mv (.c (.bool false)), (some [0, 1])⟩]
abbrev k12_o1 : List AJ := [.o ⟨(some 5), none, false, .mv (.c (.int .i64 0)), (some [0, 1, 5])⟩]
abbrev k12_o2 : List AJ := [.o ⟨(some 6), none, false, .mv (.t 5), none⟩, .o ⟨(some 7), none, false, .mv (.t 0), none⟩, .o ⟨(some 8), none, false, .len (.t 7), none⟩, .o ⟨(some 9), none, false, .bin .lss (.t 6) (.t 8), (some [0, 1, 5, 9])⟩]
def k12_3 : ACode := .cond (.t 9) .skip (.exit 0)
def k12_4 : ACode := .seq (.region k12_o2) k12_3
abbrev k12_o3 : List AJ := [.o ⟨(some 12), none, false, .mv (.t 0), none⟩, .o ⟨(some 13), none, false, .mv (.t 5), none⟩, .o ⟨(some 14), none, false, .idxA 1 (.t 12) (.t 13), none⟩, .o ⟨(some 15), none, false, .load 1 false (.t 14), none⟩, .o ⟨(some 16), none, false, .mv (.t 1), none⟩, .o ⟨(some 17), none, false, .bin .eql (.t 15) (.t 16), (some [0, 1, 5, 17])⟩]
abbrev k12_o4 : List AJ := [.o ⟨(some 4), none, false, .mv (.c (.bool true)), (some [4])⟩]
def k12_7 : ACode := .seq (.region k12_o4) .ret
def k12_8 : ACode := .cond (.t 17) k12_7 .skip
def k12_9 : ACode := .seq (.region k12_o3) k12_8
abbrev k12_o5 : List AJ := [.o ⟨(some 10), none, false, .mv (.t 5), none⟩, .o ⟨(some 11), none, true, .bin .add (.t 10) (.c (.int .i64 1)), none⟩, .o ⟨(some 5), none, false, .mv (.t 11), (some [0, 1, 5])⟩]
def k12_11 : ACode := .region k12_o5
def k12_12 : ACode := .seq (.block 1 k12_9) k12_11
def k12_13 : ACode := .seq k12_4 k12_12
def k12_14 : ACode := .loop k12_13
def k12_15 : ACode := .block 0 k12_14
def k12_16 : ACode := .seq (.region k12_o1) k12_15
abbrev k12_o6 : List AJ := [.o ⟨(some 4), none, false, .mv (.c (.bool false)), (some [4])⟩]
def k12_18 : ACode := .seq (.region k12_o6) .ret
def k12_19 : ACode := .seq k12_16 k12_18
def k12_20 : ACode := .seq (.region k12_o0) k12_19
@[simp, simp ↓] theorem k12_3r : rC k12_3 (.t 9) .skip (.exit 0) := zC rfl
@[simp, simp ↓] theorem k12_4r : sR k12_4 k12_o2 k12_3 := yR rfl
@[simp, simp ↓] theorem k12_7r : sR k12_7 k12_o4 .ret := yR rfl
@[simp, simp ↓] theorem k12_8r : rC k12_8 (.t 17) k12_7 .skip := zC rfl
@[simp, simp ↓] theorem k12_9r : sR k12_9 k12_o3 k12_8 := yR rfl
@[simp, simp ↓] theorem k12_11r : rR k12_11 k12_o5 := zR rfl
@[simp, simp ↓] theorem k12_12r : sB k12_12 1 k12_9 k12_11 := yB rfl
@[simp, simp ↓] theorem k12_13r : rS k12_13 k12_4 k12_12 := zS rfl
@[simp, simp ↓] theorem k12_14r : rL k12_14 k12_13 := zL rfl
@[simp, simp ↓] theorem k12_15r : rB k12_15 0 k12_14 := zB rfl
@[simp, simp ↓] theorem k12_16r : sR k12_16 k12_o1 k12_15 := yR rfl
@[simp, simp ↓] theorem k12_18r : sR k12_18 k12_o6 .ret := yR rfl
@[simp, simp ↓] theorem k12_19r : rS k12_19 k12_16 k12_18 := zS rfl
@[simp, simp ↓] theorem k12_20r : sR k12_20 k12_o0 k12_19 := yR rfl
noncomputable abbrev k12_C : Orc → Cx := mkC Try.prog [] 12 18 [.tmp 4]
theorem k12_of0 : OfP0 Try.prog Try.f12 12 18 k12_C k12_20 := @ofP0 _ _ _ _ _ _ _ _ Try.func12 (by decide +kernel) rfl (by kernel_rfl) rfl (by kernel_rfl)
theorem r8Has_s (l : List Int) (n : Int) (h : Heap) (hl : l.length ≤ 1048576) : ACalls Try.prog 12 [.snap 1 (l.map iv), .int .i64 n] h (fun v h' => v = .bool (decide (n ∈ l)) ∧ h' = h) := by
  refine k12_of0 rfl noPure fun I => ?_
  refine Run2.of I 1000 ?_
  simp -implicitDefEqProofs
  refine Run2.loopE (fun i => [(0, .snap 1 (l.map iv)), (1, .int .i64 n), (5, .int .i64 (i : Nat))]) (fun i => h) (fun i => l.length - i) (fun i => i ≤ l.length ∧ n ∉ l.take i) 0 (by simp) rfl (by simp) fun i hi ih => ?_
  by_cases hlt : i < l.length
  · have hin : l[i] = n → n ∈ l := fun h => h ▸ List.getElem_mem hlt
    have go := fun (h1 : ¬ l[i] = n) => ih (i + 1) ⟨by omega, by rw [List.take_succ_eq_append_getElem hlt, List.mem_append, List.mem_singleton]; rintro (h | h); exact hi.2 h; exact h1 h.symm⟩ (by omega)
    clear ih
    refine Run2.of I 1000 ?_
    simp -implicitDefEqProofs [hlt]
    exact ⟨fun h => hin h, fun h => ⟨by omega, by simpa using go h⟩⟩
  · obtain rfl : i = l.length := by omega
    have h2 := hi.2
    rw [List.take_length] at h2
    refine Run2.of I 1000 ?_
    simp -implicitDefEqProofs
    exact h2
noncomputable def o_r8Has : List AV → Option (Prop × AV) := tab (fun (x : List Int × Int) => match x with | (l, n) => [.snap 1 (l.map iv), .int .i64 n]) (fun x => match x with | (l, n) => l.length ≤ 1048576) (fun x => match x with | (l, n) => .bool (decide (n ∈ l)))
@[simp] theorem o_r8Has_e (l : List Int) (n : Int) : o_r8Has [.snap 1 (l.map iv), .int .i64 n] = some (l.length ≤ 1048576, .bool (decide (n ∈ l))) := tab_at (enc := fun (x : List Int × Int) => match x with | (l, n) => [.snap 1 (l.map iv), .int .i64 n]) (fun x y h => by
  obtain ⟨l1, n1⟩ := x; obtain ⟨l2, n2⟩ := y; simp at h; simp [h] <;> omega) _ _ (l, n)
theorem o_r8Has_k : Knows Try.prog 12 o_r8Has := tab_knows fun x hx h => by
  obtain ⟨l, n⟩ := x; exact r8Has_s l n h hx
noncomputable def o_potF : List AV → Option (Prop × AV) := tab (fun (x : Int × Int × List T) => match x with | (n, m, ts) => [.agg [.int .i64 n, .int .i64 m, .snap 3 (ts.map T.av)]]) (fun x => match x with | (n, m, ts) => (Ph.valid ⟨n, m, ts⟩)) (fun x => match x with | (n, m, ts) => .tup [.snap 1 ((Ph.pres ⟨n, m, ts⟩).map iv), .int .i64 (Ph.pcode ⟨n, m, ts⟩)])
@[simp] theorem o_potF_e (n : Int) (m : Int) (ts : List T) : o_potF [.agg [.int .i64 n, .int .i64 m, .snap 3 (ts.map T.av)]] = some ((Ph.valid ⟨n, m, ts⟩), .tup [.snap 1 ((Ph.pres ⟨n, m, ts⟩).map iv), .int .i64 (Ph.pcode ⟨n, m, ts⟩)]) := tab_at (enc := fun (x : Int × Int × List T) => match x with | (n, m, ts) => [.agg [.int .i64 n, .int .i64 m, .snap 3 (ts.map T.av)]]) (fun x y h => by
  obtain ⟨n1, m1, ts1⟩ := x; obtain ⟨n2, m2, ts2⟩ := y; simp at h; simp [h] <;> omega) _ _ (n, m, ts)
theorem o_potF_k : Knows Try.prog 7 o_potF := tab_knows fun x hx h => by
  obtain ⟨n, m, ts⟩ := x; exact frz2 (implPot_o ⟨n, m, ts⟩ (Ph.valid_ok hx) (by have := hx.2.2.2.2.2; omega)) h
noncomputable def o_loopF : List AV → Option (Prop × AV) := tab (fun (x : Int × Int × List T) => match x with | (n, m, ts) => [.agg [.int .i64 n, .int .i64 m, .snap 3 (ts.map T.av)]]) (fun x => match x with | (n, m, ts) => (Ph.valid ⟨n, m, ts⟩)) (fun x => match x with | (n, m, ts) => .tup [.snap 1 ((Ph.lres ⟨n, m, ts⟩).map iv), .int .i64 (Ph.lsum ⟨n, m, ts⟩), .int .i64 (Ph.lcode ⟨n, m, ts⟩)])
@[simp] theorem o_loopF_e (n : Int) (m : Int) (ts : List T) : o_loopF [.agg [.int .i64 n, .int .i64 m, .snap 3 (ts.map T.av)]] = some ((Ph.valid ⟨n, m, ts⟩), .tup [.snap 1 ((Ph.lres ⟨n, m, ts⟩).map iv), .int .i64 (Ph.lsum ⟨n, m, ts⟩), .int .i64 (Ph.lcode ⟨n, m, ts⟩)]) := tab_at (enc := fun (x : Int × Int × List T) => match x with | (n, m, ts) => [.agg [.int .i64 n, .int .i64 m, .snap 3 (ts.map T.av)]]) (fun x y h => by
  obtain ⟨n1, m1, ts1⟩ := x; obtain ⟨n2, m2, ts2⟩ := y; simp at h; simp [h] <;> omega) _ _ (n, m, ts)
theorem o_loopF_k : Knows Try.prog 8 o_loopF := tab_knows fun x hx h => by
  obtain ⟨n, m, ts⟩ := x; exact frz3 (implLoop_o ⟨n, m, ts⟩ (Ph.valid_ok hx) (by have := hx.2.2.2.2.2; omega)) h
noncomputable def o_dropF : List AV → Option (Prop × AV) := tab (fun (x : Int × Int × List T × Int) => match x with | (n, m, ts, B) => [.agg [.int .i64 n, .int .i64 m, .snap 3 (ts.map T.av)], .int .i64 B]) (fun x => match x with | (n, m, ts, B) => (Ph.valid ⟨n, m, ts⟩)) (fun x => match x with | (n, m, ts, B) => .tup [.snap 1 ((Ph.dres ⟨n, m, ts⟩ B).map iv), .int .i64 (Ph.dcode ⟨n, m, ts⟩ B)])
@[simp] theorem o_dropF_e (n : Int) (m : Int) (ts : List T) (B : Int) : o_dropF [.agg [.int .i64 n, .int .i64 m, .snap 3 (ts.map T.av)], .int .i64 B] = some ((Ph.valid ⟨n, m, ts⟩), .tup [.snap 1 ((Ph.dres ⟨n, m, ts⟩ B).map iv), .int .i64 (Ph.dcode ⟨n, m, ts⟩ B)]) := tab_at (enc := fun (x : Int × Int × List T × Int) => match x with | (n, m, ts, B) => [.agg [.int .i64 n, .int .i64 m, .snap 3 (ts.map T.av)], .int .i64 B]) (fun x y h => by
  obtain ⟨n1, m1, ts1, B1⟩ := x; obtain ⟨n2, m2, ts2, B2⟩ := y; simp at h; simp [h] <;> omega) _ _ (n, m, ts, B)
theorem o_dropF_k : Knows Try.prog 9 o_dropF := tab_knows fun x hx h => by
  obtain ⟨n, m, ts, B⟩ := x; exact frz2 (implDrops_o ⟨n, m, ts⟩ B (Ph.valid_ok hx) (by have := hx.2.2.2.2.2; omega)) h
noncomputable def o_forF : List AV → Option (Prop × AV) := tab (fun (x : Int × Int × List T) => match x with | (n, m, ts) => [.agg [.int .i64 n, .int .i64 m, .snap 3 (ts.map T.av)]]) (fun x => match x with | (n, m, ts) => (Ph.valid ⟨n, m, ts⟩)) (fun x => match x with | (n, m, ts) => .tup [.snap 1 ((Ph.fres ⟨n, m, ts⟩).map iv), .int .i64 (Ph.fcode ⟨n, m, ts⟩)])
@[simp] theorem o_forF_e (n : Int) (m : Int) (ts : List T) : o_forF [.agg [.int .i64 n, .int .i64 m, .snap 3 (ts.map T.av)]] = some ((Ph.valid ⟨n, m, ts⟩), .tup [.snap 1 ((Ph.fres ⟨n, m, ts⟩).map iv), .int .i64 (Ph.fcode ⟨n, m, ts⟩)]) := tab_at (enc := fun (x : Int × Int × List T) => match x with | (n, m, ts) => [.agg [.int .i64 n, .int .i64 m, .snap 3 (ts.map T.av)]]) (fun x y h => by
  obtain ⟨n1, m1, ts1⟩ := x; obtain ⟨n2, m2, ts2⟩ := y; simp at h; simp [h] <;> omega) _ _ (n, m, ts)
theorem o_forF_k : Knows Try.prog 10 o_forF := tab_knows fun x hx h => by
  obtain ⟨n, m, ts⟩ := x; exact frz2 (implForest_o ⟨n, m, ts⟩ (Ph.valid_ok hx) (by have := hx.2.2.2.2.2; omega)) h
noncomputable def o_holF : List AV → Option (Prop × AV) := tab (fun (x : Int × Int × List T × List Int) => match x with | (n, m, ts, p) => [.agg [.int .i64 n, .int .i64 m, .snap 3 (ts.map T.av)], .snap 1 (p.map iv)]) (fun x => match x with | (n, m, ts, p) => (Ph.valid ⟨n, m, ts⟩ ∧ p.length ≤ 1048576)) (fun x => match x with | (n, m, ts, p) => .tup [.int .i64 (Ph.hol2 ⟨n, m, ts⟩ p).1, .int .i64 (Ph.hol2 ⟨n, m, ts⟩ p).2])
@[simp] theorem o_holF_e (n : Int) (m : Int) (ts : List T) (p : List Int) : o_holF [.agg [.int .i64 n, .int .i64 m, .snap 3 (ts.map T.av)], .snap 1 (p.map iv)] = some ((Ph.valid ⟨n, m, ts⟩ ∧ p.length ≤ 1048576), .tup [.int .i64 (Ph.hol2 ⟨n, m, ts⟩ p).1, .int .i64 (Ph.hol2 ⟨n, m, ts⟩ p).2]) := tab_at (enc := fun (x : Int × Int × List T × List Int) => match x with | (n, m, ts, p) => [.agg [.int .i64 n, .int .i64 m, .snap 3 (ts.map T.av)], .snap 1 (p.map iv)]) (fun x y h => by
  obtain ⟨n1, m1, ts1, p1⟩ := x; obtain ⟨n2, m2, ts2, p2⟩ := y; simp at h; simp [h] <;> omega) _ _ (n, m, ts, p)
theorem o_holF_k : Knows Try.prog 11 o_holF := tab_knows fun x hx h => by
  obtain ⟨n, m, ts, p⟩ := x; exact specHol_c ⟨n, m, ts⟩ p h (Ph.valid_ok hx.1) (by have := hx.1.2.2.2.2.2; omega) hx.2
noncomputable def orcHl : List (Nat × (List AV → Option (Prop × AV))) := (7, o_potF) :: (8, o_loopF) :: (9, o_dropF) :: (10, o_forF) :: (11, o_holF) :: (12, o_r8Has) :: []
theorem orcHl_p : Pure Try.prog (lk orcHl) := (lk_pure o_potF_k (lk_pure o_loopF_k (lk_pure o_dropF_k (lk_pure o_forF_k (lk_pure o_holF_k (lk_pure o_r8Has_k lk_pure0))))))
@[simp] theorem orcHl_l (b : Bool) (g : FuncId) (l : List AV) : lk orcHl b g l = if g = 7 then o_potF l else if g = 8 then o_loopF l else if g = 9 then o_dropF l else if g = 10 then o_forF l else if g = 11 then o_holF l else if g = 12 then o_r8Has l else none := nr rfl
abbrev k3_o0 : List AJ := [.o ⟨(some 2), none, false, .mv (.c (.bool false)), (some [0])⟩]
abbrev k3_o1 : List AJ := [.o ⟨(some 19), none, false, .mv (.t 0), none⟩, .o ⟨(some 20), none, false, .len (.t 19), none⟩, .o ⟨(some 21), none, false, .bin .gtr (.t 20) (.c (.int .i64 1048576)), (some [0, 21])⟩]
abbrev k3_o2 : List AJ := [.o ⟨(some 2), none, false, .mv (.c (.bool true)), (some [2])⟩]
def k3_3 : ACode := .seq (.region k3_o2) .ret
def k3_4 : ACode := .cond (.t 21) k3_3 .skip
def k3_5 : ACode := .seq (.region k3_o1) k3_4
abbrev k3_o3 : List AJ := [.o ⟨(some 22), none, false, .mv (.t 0), none⟩, .o ⟨(some 23), none, false, .call 6 [(.t 22)], none⟩, .v 3 3 (.agg [(.int .i64 0), (.int .i64 0), .nilsl]) [] (.t 23) (some [3])]
abbrev k3_o4 : List AJ := [.o ⟨(some 25), none, false, .load 3 true (.t 3), none⟩, .o ⟨(some 26), none, false, .call 7 [(.t 25)], none⟩, .o ⟨(some 24), none, false, .mv (.t 26), none⟩, .o ⟨(some 27), none, false, .extract (.t 24) 0, none⟩, .o ⟨(some 28), none, false, .extract (.t 24) 1, none⟩, .o ⟨(some 4), none, false, .mv (.t 27), none⟩, .o ⟨(some 5), none, false, .mv (.t 28), (some [3, 5])⟩]
abbrev k3_o5 : List AJ := [.o ⟨(some 30), none, false, .load 3 true (.t 3), none⟩, .o ⟨(some 31), none, false, .call 8 [(.t 30)], none⟩, .o ⟨(some 29), none, false, .mv (.t 31), none⟩, .o ⟨(some 32), none, false, .extract (.t 29) 0, none⟩, .o ⟨(some 33), none, false, .extract (.t 29) 1, none⟩, .o ⟨(some 34), none, false, .extract (.t 29) 2, none⟩, .o ⟨(some 6), none, false, .mv (.t 32), none⟩, .o ⟨(some 7), none, false, .mv (.t 33), none⟩, .o ⟨(some 8), none, false, .mv (.t 34), (some [3, 5, 6, 7, 8])⟩]
abbrev k3_o6 : List AJ := [.o ⟨(some 36), none, false, .load 3 true (.t 3), none⟩, .o ⟨(some 37), none, false, .call 9 [(.t 36), (.c (.int .i64 3000))], none⟩, .o ⟨(some 35), none, false, .mv (.t 37), none⟩, .o ⟨(some 38), none, false, .extract (.t 35) 0, none⟩, .o ⟨(some 39), none, false, .extract (.t 35) 1, none⟩, .o ⟨(some 9), none, false, .mv (.t 38), none⟩, .o ⟨(some 10), none, false, .mv (.t 39), (some [3, 5, 6, 7, 8, 9, 10])⟩]
abbrev k3_o7 : List AJ := [.o ⟨(some 41), none, false, .load 3 true (.t 3), none⟩, .o ⟨(some 42), none, false, .call 10 [(.t 41)], none⟩, .o ⟨(some 40), none, false, .mv (.t 42), none⟩, .o ⟨(some 43), none, false, .extract (.t 40) 0, none⟩, .o ⟨(some 44), none, false, .extract (.t 40) 1, none⟩, .o ⟨(some 11), none, false, .mv (.t 43), none⟩, .o ⟨(some 12), none, false, .mv (.t 44), (some [3, 5, 6, 7, 8, 9, 10, 11, 12])⟩]
abbrev k3_o8 : List AJ := [.o ⟨(some 45), none, false, .mv (.t 5), none⟩, .o ⟨(some 46), none, false, .bin .eql (.t 45) (.c (.int .i64 0)), none⟩, .o ⟨(some 47), none, false, .mv (.t 8), none⟩, .o ⟨(some 48), none, false, .bin .eql (.t 47) (.c (.int .i64 3)), none⟩, .o ⟨(some 49), none, false, .beq true (.t 46) (.t 48), none⟩, .o ⟨(some 50), none, false, .mv (.t 49), none⟩, .o ⟨(some 51), (some (50, false)), false, .mv (.t 10), none⟩, .o ⟨(some 52), (some (50, false)), false, .bin .neq (.t 51) (.c (.int .i64 0)), none⟩, .o ⟨(some 53), (some (50, false)), false, .mv (.t 52), none⟩, .o ⟨(some 54), (some (53, true)), false, .mv (.t 10), (some [3, 5, 6, 7, 8, 9, 10, 11, 12, 50, 53, 54])⟩, .o ⟨(some 55), (some (53, true)), false, .bin .neq (.t 54) (.c (.int .i64 5)), none⟩, .o ⟨(some 56), (some (50, false)), false, .pick (.t 53) (.t 55) (.c (.bool false)), none⟩, .o ⟨(some 57), none, false, .pick (.t 50) (.c (.bool true)) (.t 56), none⟩, .o ⟨(some 58), none, false, .mv (.t 57), none⟩, .o ⟨(some 59), (some (58, false)), false, .mv (.t 12), none⟩, .o ⟨(some 60), (some (58, false)), false, .bin .neq (.t 59) (.c (.int .i64 0)), none⟩, .o ⟨(some 61), none, false, .pick (.t 58) (.c (.bool true)) (.t 60), none⟩, .o ⟨(some 62), none, false, .mv (.t 61), none⟩, .o ⟨(some 63), (some (62, false)), false, .mv (.t 11), (some [3, 5, 6, 7, 8, 9, 10, 11, 62, 63])⟩, .o ⟨(some 64), (some (62, false)), false, .len (.t 63), none⟩, .o ⟨(some 65), (some (62, false)), false, .fieldA 0 (.t 3), none⟩, .o ⟨(some 66), (some (62, false)), false, .load 1 false (.t 65), none⟩, .o ⟨(some 67), (some (62, false)), false, .bin .geq (.t 64) (.t 66), none⟩, .o ⟨(some 68), none, false, .pick (.t 62) (.c (.bool true)) (.t 67), (some [3, 5, 6, 7, 8, 9, 10, 11, 68])⟩]
abbrev k3_o9 : List AJ := [.o ⟨(some 2), none, false, .mv (.c (.bool false)), (some [2])⟩]
def k3_13 : ACode := .seq (.region k3_o9) .ret
def k3_14 : ACode := .cond (.t 68) k3_13 .skip
def k3_15 : ACode := .seq (.region k3_o8) k3_14
abbrev k3_o10 : List AJ := [.o ⟨(some 69), none, false, .mv (.t 8), none⟩, .o ⟨(some 70), none, false, .bin .eql (.t 69) (.c (.int .i64 0)), (some [3, 5, 6, 7, 8, 9, 10, 11, 70])⟩]
abbrev k3_o11 : List AJ := [.o ⟨(some 72), none, false, .load 3 true (.t 3), none⟩, .o ⟨(some 73), none, false, .mv (.t 6), none⟩, .o ⟨(some 74), none, false, .call 11 [(.t 72), (.t 73)], none⟩, .o ⟨(some 71), none, false, .mv (.t 74), none⟩, .o ⟨(some 75), none, false, .extract (.t 71) 0, none⟩, .o ⟨(some 76), none, false, .extract (.t 71) 1, none⟩, .o ⟨(some 13), none, false, .mv (.t 75), none⟩, .o ⟨(some 14), none, false, .mv (.t 76), (some [3, 5, 6, 7, 9, 10, 11, 13, 14])⟩]
abbrev k3_o12 : List AI := [⟨(some 77), none, false, .mv (.t 14), none⟩, ⟨(some 78), none, false, .bin .neq (.t 77) (.c (.int .i64 0)), none⟩, ⟨(some 79), none, false, .mv (.t 78), none⟩, ⟨(some 80), (some (79, false)), false, .mv (.t 13), none⟩, ⟨(some 81), (some (79, false)), false, .mv (.t 7), none⟩, ⟨(some 82), (some (79, false)), false, .bin .neq (.t 80) (.t 81), none⟩, ⟨(some 83), none, false, .pick (.t 79) (.c (.bool true)) (.t 82), none⟩, ⟨(some 84), none, false, .mv (.t 83), none⟩, ⟨(some 85), (some (84, false)), false, .mv (.t 7), none⟩, ⟨(some 86), (some (84, false)), false, .bin .eql (.t 85) (.c (.int .i64 0)), (some [3, 5, 6, 9, 10, 11, 84, 86])⟩, ⟨(some 87), none, false, .pick (.t 84) (.c (.bool true)) (.t 86), none⟩, ⟨(some 88), none, false, .mv (.t 87), none⟩, ⟨(some 89), (some (88, false)), false, .mv (.t 6), none⟩, ⟨(some 90), (some (88, false)), false, .len (.t 89), none⟩, ⟨(some 91), (some (88, false)), false, .bin .lss (.t 90) (.c (.int .i64 4)), none⟩, ⟨(some 92), none, false, .pick (.t 88) (.c (.bool true)) (.t 91), none⟩, ⟨(some 93), none, false, .mv (.t 92), none⟩, ⟨(some 94), (some (93, false)), false, .mv (.t 6), none⟩, ⟨(some 95), (some (93, false)), false, .idxA 1 (.t 94) (.c (.int .i64 0)), (some [3, 5, 6, 9, 10, 11, 93, 95])⟩, ⟨(some 96), (some (93, false)), false, .load 1 false (.t 95), none⟩, ⟨(some 97), (some (93, false)), false, .mv (.t 6), none⟩, ⟨(some 98), (some (93, false)), false, .mv (.t 6), none⟩, ⟨(some 99), (some (93, false)), false, .len (.t 98), none⟩, ⟨(some 100), (some (93, false)), true, .bin .sub (.t 99) (.c (.int .i64 1)), none⟩, ⟨(some 101), (some (93, false)), false, .idxA 1 (.t 97) (.t 100), none⟩, ⟨(some 102), (some (93, false)), false, .load 1 false (.t 101), (some [3, 5, 9, 10, 11, 93, 96, 102])⟩, ⟨(some 103), (some (93, false)), false, .bin .neq (.t 96) (.t 102), none⟩, ⟨(some 104), none, false, .pick (.t 93) (.c (.bool true)) (.t 103), (some [3, 5, 9, 10, 11, 104])⟩]
abbrev k3_o13 : List AJ := [.o ⟨(some 2), none, false, .mv (.c (.bool false)), (some [2])⟩]
def k3_20 : ACode := .seq (.region k3_o13) .ret
def k3_21 : ACode := .cond (.t 104) k3_20 .skip
def k3_22 : ACode := .seq (.draw k3_o12 [] rfl) k3_21
def k3_23 : ACode := .seq (.region k3_o11) k3_22
abbrev k3_o14 : List AJ := [.o ⟨(some 105), none, false, .mv (.t 8), none⟩, .o ⟨(some 106), none, false, .bin .neq (.t 105) (.c (.int .i64 3)), (some [3, 5, 9, 10, 11, 106])⟩]
abbrev k3_o15 : List AJ := [.o ⟨(some 2), none, false, .mv (.c (.bool false)), (some [2])⟩]
def k3_26 : ACode := .seq (.region k3_o15) .ret
def k3_27 : ACode := .cond (.t 106) k3_26 .skip
def k3_28 : ACode := .seq (.region k3_o14) k3_27
def k3_29 : ACode := .cond (.t 70) k3_23 k3_28
def k3_30 : ACode := .seq (.region k3_o10) k3_29
abbrev k3_o16 : List AJ := [.o ⟨(some 107), none, false, .mv (.t 10), none⟩, .o ⟨(some 108), none, false, .bin .neq (.t 107) (.c (.int .i64 0)), (some [3, 5, 9, 11, 108])⟩]
abbrev k3_o17 : List AJ := [.o ⟨(some 2), none, false, .mv (.c (.bool true)), (some [2])⟩]
def k3_33 : ACode := .seq (.region k3_o17) .ret
def k3_34 : ACode := .cond (.t 108) k3_33 .skip
def k3_35 : ACode := .seq (.region k3_o16) k3_34
abbrev k3_o18 : List AJ := [.o ⟨(some 109), none, false, .fieldA 0 (.t 3), none⟩, .o ⟨(some 110), none, false, .load 1 false (.t 109), none⟩, .o ⟨(some 111), none, false, .fieldA 1 (.t 3), none⟩, .o ⟨(some 112), none, false, .load 1 false (.t 111), none⟩, .o ⟨(some 113), none, false, .build [(.int .i64 0), (.int .i64 0), .nilsl] [(0, 1, (.t 110)), (1, 1, (.t 112))], none⟩, .o ⟨(some 15), none, false, .alloc true 3 (.agg [(.int .i64 0), (.int .i64 0), .nilsl]), none⟩, .o ⟨none, none, false, .store 3 (.t 15) (.t 113), (some [3, 5, 9, 11, 15])⟩]
abbrev k3_o19 : List AJ := [.o ⟨(some 16), none, false, .mv (.c (.int .i64 0)), (some [3, 5, 9, 11, 15, 16])⟩]
abbrev k3_o20 : List AJ := [.o ⟨(some 114), none, false, .mv (.t 16), none⟩, .o ⟨(some 115), none, false, .fieldA 2 (.t 3), none⟩, .o ⟨(some 116), none, false, .load 1 false (.t 115), none⟩, .o ⟨(some 117), none, false, .len (.t 116), none⟩, .o ⟨(some 118), none, false, .bin .lss (.t 114) (.t 117), (some [3, 5, 9, 11, 15, 16, 118])⟩]
def k3_39 : ACode := .cond (.t 118) .skip (.exit 0)
def k3_40 : ACode := .seq (.region k3_o20) k3_39
abbrev k3_o21 : List AJ := [.o ⟨(some 121), none, false, .mv (.t 9), none⟩, .o ⟨(some 122), none, false, .mv (.t 16), none⟩, .o ⟨(some 123), none, false, .call 12 [(.t 121), (.t 122)], none⟩, .o ⟨(some 124), none, false, .un .not (.t 123), (some [3, 5, 9, 11, 15, 16, 124])⟩]
abbrev k3_o22 : List AI := [⟨(some 125), none, false, .fieldA 2 (.t 15), none⟩, ⟨(some 126), none, false, .load 1 false (.t 125), none⟩, ⟨(some 127), none, false, .fieldA 2 (.t 3), none⟩, ⟨(some 128), none, false, .load 1 false (.t 127), none⟩, ⟨(some 129), none, false, .mv (.t 16), none⟩, ⟨(some 130), none, false, .idxA 3 (.t 128) (.t 129), none⟩, ⟨(some 131), none, false, .load 3 true (.t 130), none⟩, ⟨(some 132), none, false, .bsl false 3 [(.t 131)], (some [3, 5, 9, 11, 15, 16, 126, 132])⟩]
abbrev k3_o23 : List AJ := [.o ⟨(some 133), none, false, .append 3 24 (.t 126) (.t 132), none⟩, .o ⟨(some 134), none, false, .fieldA 2 (.t 15), none⟩, .o ⟨none, none, false, .store 1 (.t 134) (.t 133), (some [3, 5, 9, 11, 15, 16])⟩]
def k3_42 : ACode := .draw k3_o22 k3_o23 rfl
def k3_43 : ACode := .cond (.t 124) k3_42 .skip
def k3_44 : ACode := .seq (.region k3_o21) k3_43
abbrev k3_o24 : List AJ := [.o ⟨(some 119), none, false, .mv (.t 16), none⟩, .o ⟨(some 120), none, true, .bin .add (.t 119) (.c (.int .i64 1)), none⟩, .o ⟨(some 16), none, false, .mv (.t 120), (some [3, 5, 9, 11, 15, 16])⟩]
def k3_46 : ACode := .region k3_o24
def k3_47 : ACode := .seq (.block 1 k3_44) k3_46
def k3_48 : ACode := .seq k3_40 k3_47
def k3_49 : ACode := .loop k3_48
def k3_50 : ACode := .block 0 k3_49
def k3_51 : ACode := .seq (.region k3_o19) k3_50
abbrev k3_o25 : List AJ := [.o ⟨(some 136), none, false, .load 3 true (.t 15), none⟩, .o ⟨(some 137), none, false, .call 7 [(.t 136)], none⟩, .o ⟨(some 135), none, false, .mv (.t 137), none⟩, .o ⟨(some 138), none, false, .extract (.t 135) 0, none⟩, .o ⟨(some 139), none, false, .extract (.t 135) 1, none⟩, .o ⟨(some 17), none, false, .mv (.t 138), none⟩, .o ⟨(some 18), none, false, .mv (.t 139), (some [3, 5, 9, 11, 15, 18])⟩]
abbrev k3_o26 : List AJ := [.o ⟨(some 140), none, false, .mv (.t 18), none⟩, .o ⟨(some 141), none, false, .bin .eql (.t 140) (.c (.int .i64 0)), none⟩, .o ⟨(some 142), none, false, .mv (.t 141), none⟩, .o ⟨(some 143), (some (142, true)), false, .mv (.t 9), none⟩, .o ⟨(some 144), (some (142, true)), false, .len (.t 143), none⟩, .o ⟨(some 145), (some (142, true)), false, .bin .eql (.t 144) (.c (.int .i64 0)), none⟩, .o ⟨(some 146), (some (142, true)), false, .mv (.t 5), none⟩, .o ⟨(some 147), (some (142, true)), false, .bin .eql (.t 146) (.c (.int .i64 0)), none⟩, .o ⟨(some 148), (some (142, true)), false, .beq false (.t 145) (.t 147), (some [3, 9, 11, 15, 142, 148])⟩, .o ⟨(some 149), none, false, .pick (.t 142) (.t 148) (.c (.bool false)), none⟩, .o ⟨(some 150), none, false, .mv (.t 149), none⟩, .o ⟨(some 151), (some (150, true)), false, .mv (.t 9), none⟩, .o ⟨(some 152), (some (150, true)), false, .len (.t 151), none⟩, .o ⟨(some 153), (some (150, true)), false, .fieldA 2 (.t 3), none⟩, .o ⟨(some 154), (some (150, true)), false, .load 1 false (.t 153), none⟩, .o ⟨(some 155), (some (150, true)), false, .len (.t 154), none⟩, .o ⟨(some 156), (some (150, true)), false, .mv (.t 11), (some [3, 9, 15, 150, 152, 155, 156])⟩, .o ⟨(some 157), (some (150, true)), false, .len (.t 156), none⟩, .o ⟨(some 158), (some (150, true)), true, .bin .sub (.t 155) (.t 157), none⟩, .o ⟨(some 159), (some (150, true)), false, .bin .leq (.t 152) (.t 158), none⟩, .o ⟨(some 160), none, false, .pick (.t 150) (.t 159) (.c (.bool false)), none⟩, .o ⟨(some 161), none, false, .mv (.t 160), none⟩, .o ⟨(some 162), (some (161, true)), false, .fieldA 2 (.t 15), none⟩, .o ⟨(some 163), (some (161, true)), false, .load 1 false (.t 162), none⟩, .o ⟨(some 164), (some (161, true)), false, .len (.t 163), (some [3, 9, 161, 164])⟩, .o ⟨(some 165), (some (161, true)), false, .mv (.t 9), none⟩, .o ⟨(some 166), (some (161, true)), false, .len (.t 165), none⟩, .o ⟨(some 167), (some (161, true)), true, .bin .add (.t 164) (.t 166), none⟩, .o ⟨(some 168), (some (161, true)), false, .fieldA 2 (.t 3), none⟩, .o ⟨(some 169), (some (161, true)), false, .load 1 false (.t 168), none⟩, .o ⟨(some 170), (some (161, true)), false, .len (.t 169), none⟩, .o ⟨(some 171), (some (161, true)), false, .bin .eql (.t 167) (.t 170), (some [161, 171])⟩, .o ⟨(some 172), none, false, .pick (.t 161) (.t 171) (.c (.bool false)), none⟩, .o ⟨(some 2), none, false, .mv (.t 172), (some [2])⟩]
def k3_54 : ACode := .seq (.region k3_o26) .ret
def k3_55 : ACode := .seq (.region k3_o25) k3_54
def k3_56 : ACode := .seq k3_51 k3_55
def k3_57 : ACode := .seq (.region k3_o18) k3_56
def k3_58 : ACode := .seq k3_35 k3_57
def k3_59 : ACode := .seq k3_30 k3_58
def k3_60 : ACode := .seq k3_15 k3_59
def k3_61 : ACode := .seq (.region k3_o7) k3_60
def k3_62 : ACode := .seq (.region k3_o6) k3_61
def k3_63 : ACode := .seq (.region k3_o5) k3_62
def k3_64 : ACode := .seq (.region k3_o4) k3_63
def k3_65 : ACode := .seq (.region k3_o3) k3_64
def k3_66 : ACode := .seq k3_5 k3_65
def k3_67 : ACode := .seq (.region k3_o0) k3_66
@[simp, simp ↓] theorem k3_3r : sR k3_3 k3_o2 .ret := yR rfl
@[simp, simp ↓] theorem k3_4r : rC k3_4 (.t 21) k3_3 .skip := zC rfl
@[simp, simp ↓] theorem k3_5r : sR k3_5 k3_o1 k3_4 := yR rfl
@[simp, simp ↓] theorem k3_13r : sR k3_13 k3_o9 .ret := yR rfl
@[simp, simp ↓] theorem k3_14r : rC k3_14 (.t 68) k3_13 .skip := zC rfl
@[simp, simp ↓] theorem k3_15r : sR k3_15 k3_o8 k3_14 := yR rfl
@[simp, simp ↓] theorem k3_20r : sR k3_20 k3_o13 .ret := yR rfl
@[simp, simp ↓] theorem k3_21r : rC k3_21 (.t 104) k3_20 .skip := zC rfl
@[simp, simp ↓] theorem k3_22r : sD k3_22 k3_o12 [] k3_21 := yD rfl
@[simp, simp ↓] theorem k3_23r : sR k3_23 k3_o11 k3_22 := yR rfl
@[simp, simp ↓] theorem k3_26r : sR k3_26 k3_o15 .ret := yR rfl
@[simp, simp ↓] theorem k3_27r : rC k3_27 (.t 106) k3_26 .skip := zC rfl
@[simp, simp ↓] theorem k3_28r : sR k3_28 k3_o14 k3_27 := yR rfl
@[simp, simp ↓] theorem k3_29r : rC k3_29 (.t 70) k3_23 k3_28 := zC rfl
@[simp, simp ↓] theorem k3_30r : sR k3_30 k3_o10 k3_29 := yR rfl
@[simp, simp ↓] theorem k3_33r : sR k3_33 k3_o17 .ret := yR rfl
@[simp, simp ↓] theorem k3_34r : rC k3_34 (.t 108) k3_33 .skip := zC rfl
@[simp, simp ↓] theorem k3_35r : sR k3_35 k3_o16 k3_34 := yR rfl
@[simp, simp ↓] theorem k3_39r : rC k3_39 (.t 118) .skip (.exit 0) := zC rfl
@[simp, simp ↓] theorem k3_40r : sR k3_40 k3_o20 k3_39 := yR rfl
@[simp, simp ↓] theorem k3_42r : rD k3_42 k3_o22 k3_o23 := zD rfl
@[simp, simp ↓] theorem k3_43r : rC k3_43 (.t 124) k3_42 .skip := zC rfl
@[simp, simp ↓] theorem k3_44r : sR k3_44 k3_o21 k3_43 := yR rfl
@[simp, simp ↓] theorem k3_46r : rR k3_46 k3_o24 := zR rfl
@[simp, simp ↓] theorem k3_47r : sB k3_47 1 k3_44 k3_46 := yB rfl
@[simp, simp ↓] theorem k3_48r : rS k3_48 k3_40 k3_47 := zS rfl
@[simp, simp ↓] theorem k3_49r : rL k3_49 k3_48 := zL rfl
@[simp, simp ↓] theorem k3_50r : rB k3_50 0 k3_49 := zB rfl
@[simp, simp ↓] theorem k3_51r : sR k3_51 k3_o19 k3_50 := yR rfl
@[simp, simp ↓] theorem k3_54r : sR k3_54 k3_o26 .ret := yR rfl
@[simp, simp ↓] theorem k3_55r : sR k3_55 k3_o25 k3_54 := yR rfl
@[simp, simp ↓] theorem k3_56r : rS k3_56 k3_51 k3_55 := zS rfl
@[simp, simp ↓] theorem k3_57r : sR k3_57 k3_o18 k3_56 := yR rfl
@[simp, simp ↓] theorem k3_58r : rS k3_58 k3_35 k3_57 := zS rfl
@[simp, simp ↓] theorem k3_59r : rS k3_59 k3_30 k3_58 := zS rfl
@[simp, simp ↓] theorem k3_60r : rS k3_60 k3_15 k3_59 := zS rfl
@[simp, simp ↓] theorem k3_61r : sR k3_61 k3_o7 k3_60 := yR rfl
@[simp, simp ↓] theorem k3_62r : sR k3_62 k3_o6 k3_61 := yR rfl
@[simp, simp ↓] theorem k3_63r : sR k3_63 k3_o5 k3_62 := yR rfl
@[simp, simp ↓] theorem k3_64r : sR k3_64 k3_o4 k3_63 := yR rfl
@[simp, simp ↓] theorem k3_65r : sR k3_65 k3_o3 k3_64 := yR rfl
@[simp, simp ↓] theorem k3_66r : rS k3_66 k3_5 k3_65 := zS rfl
@[simp, simp ↓] theorem k3_67r : sR k3_67 k3_o0 k3_66 := yR rfl
noncomputable abbrev k3_C : Orc → Cx := mkC Try.prog [3, 15] 3 173 [.tmp 2]
theorem k3_of : OfP Try.prog Try.f3 3 173 k3_C k3_67 := @ofP _ _ _ _ _ _ _ _ Try.func3 (by decide +kernel) rfl (by kernel_rfl) rfl (by kernel_rfl)
theorem holonomy_law (code : List UInt8) (hc : wfY code) : ACalls Try.prog 3 [.snap 1 (code.map bv)] [] (fun v h' => v = .bool true ∧ h' = []) := by
  refine k3_of rfl orcHl_p fun I => ?_
  refine Run2.of I 1000 ?_
  simp -implicitDefEqProofs
  refine ⟨fun _ => .base ⟨rfl, rfl⟩, fun hlen => ?_⟩
  have hlen : code.length ≤ 1048576 := by omega
  refine (R8Phases_c code [] hlen).mono ?_
  rintro v h' ⟨x, hv, rfl, rfl⟩
  have hvv : Ph.valid ⟨x.n, x.m, x.ts⟩ := hv
  have hE := hv.2.2.2.2.2
  have hn12 := hv.2.1
  have hfl := Ph.forest_lt hv
  have e1 : x.fres = x.forest := by simp [Ph.fres, hv]
  have e2 : x.fcode = 0 := by simp [Ph.fcode, hv]
  have hdl := x.dres_len 3000
  have hp : x.pcode = if x.wrong = [] then 0 else 3 := by simp [Ph.pcode, hv]
  have hl : x.lcode = if x.wrong = [] then 3 else 0 := by simp [Ph.lcode, hv]
  have hd : x.dcode 3000 = 0 ∨ x.dcode 3000 = 5 := by
    unfold Ph.dcode
    rw [if_pos hv, if_pos (by omega)]
    split <;> simp
  have hnf : ¬ x.n ≤ (x.forest.length : Int) := by omega
  have tail : x.dcode 3000 = 0 → ∀ (id : Nat) (c : Int), (c = 0 ↔ x.wrong = []) → Run2 (k3_C (lk orcHl)) [.code k3_48, .inLoop k3_48, .inBlock 0, .code k3_55]
      [(3, .ip [.int .i64 x.n, .int .i64 x.m, .snap 3 (x.ts.map T.av)]), (5, .int .i64 c), (9, .snap 1 ((x.dres 3000).map iv)), (11, .snap 1 (x.forest.map iv)), (15, .ptr id 3 0 0), (16, .int .i64 0)]
      [(id, ⟨3, [.agg [.int .i64 x.n, .int .i64 x.m, .nilsl]]⟩)] (Post fun v h' => v = .bool true ∧ h' = []) := by
    intro hd0 id c hcw
    obtain ⟨d1, d2, d3, d4⟩ := Ph.drops_ok hv (B := 3000) (by omega) hd0
    generalize hD : x.dres 3000 = D at *
    refine Run2.loopE (α := Nat × AV × Heap) (fun s => [(3, .ip [.int .i64 x.n, .int .i64 x.m, .snap 3 (x.ts.map T.av)]), (5, .int .i64 c), (9, .snap 1 (D.map iv)), (11, .snap 1 (x.forest.map iv)), (15, .ptr id 3 0 0), (16, .int .i64 (s.1 : Nat))]) (fun s => s.2.2 ++ [(id, ⟨3, [.agg [.int .i64 x.n, .int .i64 x.m, s.2.1]]⟩)]) (fun s => x.ts.length - s.1)
      (fun s => s.1 ≤ x.ts.length ∧ Grow 3 s.2.1 ((lessTo x.ts D s.1).map T.av) s.2.2 ∧ id ∉ dom s.2.2) (0, .nilsl, []) (by simp) (by simp) ⟨Nat.zero_le _, by simpa [lessTo] using Grow.nil, by simp [dom]⟩ ?_
    rintro ⟨i, u, gu⟩ ⟨hi, hg, hid⟩ ih
    simp only at hi hg hid ih ⊢
    have huc := hg.cell
    by_cases hlt : i < x.ts.length
    · have hs := lessTo_succ x.ts D hlt
      have hsl := lessTo_len x.ts D i
      have go := fun u' g' a b => ih (i + 1, u', g') ⟨by simp; omega, a, b⟩ (by simp; omega)
      clear ih
      by_cases hm : (i : Int) ∈ D
      · rw [if_pos hm, List.append_nil] at hs
        have := go u gu (by simp only; rw [hs]; exact hg) hid
        refine Run2.of I 1000 ?_
        simp -implicitDefEqProofs [hlt, hm, show D.length ≤ 1048576 by omega]
        exact ⟨by omega, by simpa using this⟩
      · rw [if_neg hm] at hs
        refine Run2.of I 1000 ?_
        simp -implicitDefEqProofs [hlt, hm, show D.length ≤ 1048576 by omega, hget_app hid, hset_app hid, huc]
        refine Grow.app_mid (pre := []) (post := [(id, ⟨3, [.agg [.int .i64 x.n, .int .i64 x.m, u]]⟩)]) hg (fun j hj => by simp [dom]) (by simp; omega) (by simp) fun w' g' hg' hf => ?_
        have hid' : id ∉ dom g' := fun e => hf id e (by simp [dom])
        have hwc := hg'.cell
        simp -implicitDefEqProofs [hget_app hid', hset_app hid', hwc, cells_of hwc, stor_of hwc]
        refine ⟨by omega, ?_⟩
        have := go w' g' (by simp only; rw [hs]; simpa using hg') hid'
        simpa using this
    · obtain rfl : i = x.ts.length := by omega
      clear ih
      have hlv := Ph.less_valid hv D
      have hlvv : Ph.valid ⟨x.n, x.m, (x.less D).ts⟩ := hlv
      have hlp : Ph.pcode ⟨x.n, x.m, (x.less D).ts⟩ = 0 := by
        have : (Ph.mk x.n x.m (x.less D).ts).wrong = [] := d1
        simp [Ph.pcode, hlvv, this]
      have fin : Run2 (k3_C (lk orcHl)) [.code k3_48, .inLoop k3_48, .inBlock 0, .code k3_55]
          [(3, .ip [.int .i64 x.n, .int .i64 x.m, .snap 3 (x.ts.map T.av)]), (5, .int .i64 c), (9, .snap 1 (D.map iv)), (11, .snap 1 (x.forest.map iv)), (15, .ptr id 3 0 0), (16, .int .i64 x.ts.length)]
          [(id, ⟨3, [.agg [.int .i64 x.n, .int .i64 x.m, .snap 3 ((x.less D).ts.map T.av)]]⟩)] (Post fun v h' => v = .bool true ∧ h' = []) := by
        refine Run2.of I 1000 ?_
        simp -implicitDefEqProofs [hlvv, hlp]
        refine ⟨fun h1 => ⟨by omega, fun h2 => ⟨by omega, .drop id (.base ⟨?_, by simp [hdel]⟩)⟩, fun h2 => by omega⟩, fun h1 => absurd (d2.trans hcw.symm) h1⟩
        have : ((x.less D).ts.length : Int) + D.length = x.ts.length := by omega
        simp [this]
      have hg2 : Grow 3 u ((x.less D).ts.map T.av) gu := hg
      generalize hLL : (x.less D).ts.map T.av = LL at hg2 fin
      cases hg2 with
      | nil => exact Run2.wkB (g := []) (rest := []) (wk_less x.n x.m (Wk.nil 3)) fin
      | emp => exact Run2.wkB (g := []) (rest := []) (wk_less x.n x.m (Wk.emp 3)) fin
      | sl idu _ nn hnn =>
        refine Run2.frz1 (gq := []) (rest := []) (by simp [dom]) ?_
        subst hnn
        have : fzs idu ⟨3, LL⟩ [.agg [.int .i64 x.n, .int .i64 x.m, .sl idu 3 0 LL.length none]] = [.agg [.int .i64 x.n, .int .i64 x.m, .snap 3 LL]] := by simp [fzs, fz]
        rw [this]
        exact fin
  by_cases hw : x.wrong = []
  · rw [if_pos hw] at hp hl
    rcases hd with hd | hd
    · refine gK.go ?_
      simp -implicitDefEqProofs [hvv, e1, e2, hp, hl, hd, hnf]
      exact fun id => tail hd id 0 (by simp [hw])
    · refine gK.go ?_
      simp -implicitDefEqProofs [hvv, e1, e2, hp, hl, hd, hnf]
      exact .base ⟨rfl, rfl⟩
  · rw [if_neg hw] at hp hl
    obtain ⟨f, mid, l1, l2, l3, l4, l5, l6⟩ := Ph.loop_ok hv hw
    have hlr : x.lres = f :: (mid ++ [f]) := by simp [Ph.lres, hv, hw, l1]
    have hll : x.loop = x.lres := by rw [hlr, l1]; rfl
    rw [hll] at l3 l4
    have l41 : (x.hol2 x.lres).1 = x.lsum := by rw [l4]
    have l42 : (x.hol2 x.lres).2 = 0 := by rw [l4]
    have l3 : (f :: (mid ++ [f])).length ≤ 13 := hlr ▸ l3
    simp only [List.length_cons, List.length_append, List.length_nil] at l3
    have k1 : x.lres.length = mid.length + 2 := by rw [hlr]; simp
    have k2 : x.lres[0]? = some f := by rw [hlr]; rfl
    have k3 : x.lres[mid.length + 1]? = some f := by rw [hlr]; simp
    rcases hd with hd | hd
    · refine gK.go ?_
      simp -implicitDefEqProofs [hvv, e1, e2, hp, hl, hd, hnf, l41, l42, l5, k1, k2, k3]
      refine ⟨by omega, fun h4 => ⟨by omega, by omega, ?_⟩, fun h4 => by omega⟩
      have k4 : x.lres[((mid.length : Int) + 2).toNat - 1]? = some f := by rw [show ((mid.length : Int) + 2).toNat - 1 = mid.length + 1 by omega]; exact k3
      have k5 : x.lres[0]'(by omega) = f := (List.getElem?_eq_some_iff.1 k2).2
      simp -implicitDefEqProofs [k4, k5, hd]
      exact fun id => tail hd id 3 (by simp [hw])
    · refine gK.go ?_
      simp -implicitDefEqProofs [hvv, e1, e2, hp, hl, hd, hnf, l41, l42, l5, k1, k2, k3]
      refine ⟨by omega, fun h4 => ⟨by omega, by omega, ?_⟩, fun h4 => by omega⟩
      have k4 : x.lres[((mid.length : Int) + 2).toNat - 1]? = some f := by rw [show ((mid.length : Int) + 2).toNat - 1 = mid.length + 1 by omega]; exact k3
      have k5 : x.lres[0]'(by omega) = f := (List.getElem?_eq_some_iff.1 k2).2
      simp -implicitDefEqProofs [k4, k5, hd]
      exact .base ⟨rfl, rfl⟩
end Go.AG
namespace Go.Proofs.Ytdjamhallkijmaa
open Go.ChangeShapes Go.WideShapes Go.ChangeAt Go.RowKit Go.AG
theorem own : ownKnob Try.prog.godebug = none := by kernel_rfl
theorem laidOut : laidOutB Try.prog = true := by kernel_rfl
set_option maxRecDepth 100000 in
theorem fnHolonomy_lifted (os : Os) (started : os.Started) (H : Type) (enc : TypeId × Value → H) :
    ReturnsInHanded {} Try.checked os 3 .any (Rows.fnHolonomySpec.pre6 enc Try.prog Try.f3 Rows.fnHolonomyRow.domain false) (Rows.fnHolonomySpec.post enc Try.prog Try.f3 false true false false) := by
  refine returnsInHanded_of_change (C := Try.checked) own started (by kernel_rfl) Try.func3
    (ChangeSpec.witness6 (enc := enc) (C := Try.checked) false ⟨#[], #[.slice none 0 0], []⟩ 8 (by kernel_rfl) (by kernel_rfl) (by kernel_rfl) (by kernel_rfl)) ?_
  intro W base args ds gs before hval0 hW _ _
  have hval : ∀ (j : Nat) t v, Try.f3.params[j]? = some t → args[j]? = some v → Value.okWide Try.prog W .any base t v := hval0
  refine law_post (tys := [(.slice (.int .u8))]) (tb := 4) laidOut rfl (by kernel_rfl) (by kernel_rfl) (by kernel_rfl) (by kernel_rfl) hval hW ?_ ?_ ⟨fun p hp => by simp [laidV] at hp, fun p hp => by simp [laidS] at hp⟩
  · intro ds h
    match ds, h with
    | [a0], _ => rfl
  · rintro xs ⟨x0, r0, rfl, h0, hr⟩
    have hr0 : r0 = [] := hr
    subst hr0
    obtain ⟨p0, rfl, q0⟩ := Bytes_of_shape h0
    exact holonomy_law p0 q0
theorem fnHolonomy_holds : Rows.FnHolonomySaid :=
  OpenClaim.holds_of_wide 3 Try.f3 rfl rfl rfl rfl rfl rfl rfl ⟨rfl, rfl, rfl, rfl, rfl⟩ rfl rfl rfl rfl rfl (by kernel_rfl) Try.func3 (by kernel_rfl)
    (of_decide_eq_true (by kernel_rfl)) (by unfold Func.isWrapper; first | (rw [if_pos (by decide +kernel)]; kernel_rfl) | (rw [if_neg (by decide +kernel)]; exact ⟨rfl, rfl⟩))
    (fun os started H enc _ => fnHolonomy_lifted os started H enc)
end Go.Proofs.Ytdjamhallkijmaa
