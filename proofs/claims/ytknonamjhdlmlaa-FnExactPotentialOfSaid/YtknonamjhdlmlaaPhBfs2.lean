/- The program's phases along a forest. No statement is made here. -/
import Derived.Test.YtknonamjhdlmlaaPhPotL
namespace Go.AG
open Go.Proofs Go.Proofs.Ytknonamjhdlmlaa
set_option linter.unusedSimpArgs false
set_option linter.unusedVariables false
set_option maxRecDepth 4000
theorem Wk.cap (id sz off len : Nat) (c : Option Nat) : Wk (.sl id sz off len c) (.sl id sz off len none) := fun w D v ⟨A, c, e, h1, h2, _⟩ => ⟨A, c, e, h1, h2, fun k h => by cases h⟩
theorem Run2.wk {C : Cx} {sk : List AItem} {e e' : Env} {h : Heap} {R : AV → Heap → Prop} (he : ∀ t, Wk (eget e t) (eget e' t)) (g : Run2 C sk e' h R) : Run2 C sk e h R := by
  unfold Run2 at g ⊢
  intro k tmps w cs w0 D0 hk S
  exact g k tmps w cs w0 D0 hk ⟨fun t => he t _ _ _ (S.env t), S.size, S.heap, S.ev⟩
theorem Run2.freezeS {C : Cx} {sk : List AItem} {e e' : Env} {h h' : Heap} {R : AV → Heap → Prop} (id : Nat) {b : Blk} (hb : hget h id = some b) (hd : dom h' = dom (hdel h id)) (hs : ∀ p ∈ h', p ∈ hdel h id ∨ ∃ c, (p.1, c) ∈ hdel h id ∧ p.2 = ⟨c.sz, fzs id b c.l⟩)
    (he : ∀ t, eget e' t = eget e t ∨ eget e' t = fz id b (eget e t)) (g : Run2 C sk e' h' R) : Run2 C sk e h R := by
  unfold Run2 at g ⊢
  intro k tmps w cs w0 D0 hk S
  obtain ⟨H', Ev⟩ := S.heap.del id
  have hd2 : Held w (dom (hdel h id)) id b := S.heap.held hb (fun _ => dom_hdel_sub) (hdel_out S.heap.nd)
  refine g k tmps w cs w0 D0 hk ⟨fun t => ?_, S.size, ⟨by rw [hd]; exact H'.nd, fun p hp => ?_⟩, by rw [hd]; exact S.ev.trans Ev⟩
  · have := Rep.mono Ev.keeps _ _ (S.env t)
    rw [hd]
    rcases he t with h1 | h1
    · rw [h1]; exact this
    · rw [h1]; exact Rep.fz hd2 _ _ this
  · rw [hd]
    rcases hs p hp with h1 | ⟨c, h1, h2⟩
    · exact H'.all p h1
    · obtain ⟨cs', el, e1, hE⟩ := H'.all _ h1
      refine ⟨cs', el, e1, ?_⟩
      rw [h2]
      exact Elems.fz hd2 _ _ _ _ hE
/-- A block that only the next one holds is not written any more. -/
theorem Run2.frz1 {C : Cx} {sk : List AItem} {e : Env} {R : AV → Heap → Prop} {gq rest : Heap} {idc idp sz : Nat} {B : Blk} {l : List AV} (hn : idc ∉ dom gq) (g : Run2 C sk e (gq ++ ((idp, ⟨sz, fzs idc B l⟩) :: rest)) R) : Run2 C sk e (gq ++ ((idc, B) :: (idp, ⟨sz, l⟩) :: rest)) R := by
  have hdl : hdel (gq ++ ((idc, B) :: (idp, ⟨sz, l⟩) :: rest)) idc = gq ++ ((idp, ⟨sz, l⟩) :: rest) := by rw [hdel_app hn]; simp [hdel]
  refine Run2.freezeS idc (b := B) (by rw [hget_app hn]; simp [hget]) (by rw [hdl]; simp [dom]) (fun p hp => ?_) (fun t => .inl rfl) g
  rw [hdl]
  rcases List.mem_append.1 hp with hp | hp
  · exact .inl (List.mem_append_left _ hp)
  · rcases List.mem_cons.1 hp with rfl | hp
    · exact .inr ⟨⟨sz, l⟩, List.mem_append_right _ (List.mem_cons_self ..), rfl⟩
    · exact .inl (List.mem_append_right _ (List.mem_cons_of_mem _ hp))
def pav (p : List Int) : AV := if p = [] then .nilsl else .snap 1 (p.map iv)
theorem fz_pav (id : Nat) (b : Blk) (p : List Int) : fz id b (pav p) = pav p := by
  unfold pav
  split
  · rfl
  · simp only [fz]; rw [fzs_iv]
theorem fzs_paths {id n : Nat} {q : List Int} (hn : n = q.length) (hq : q ≠ []) : ∀ (ps : List (List Int)) (b : Nat), fzs id ⟨1, q.map iv⟩ ((ps.map pav).set b (.sl id 1 0 n none)) = (ps.set b q).map pav
  | [], _ => rfl
  | p :: ps, 0 => by
    simp only [List.map_cons, List.set_cons_zero, fzs]
    congr 1
    · subst hn
      simp [fz, pav, hq]
      exact List.take_of_length_le (by simp)
    · have : ∀ l : List (List Int), fzs id ⟨1, q.map iv⟩ (l.map pav) = l.map pav := fun l => by
        induction l with
        | nil => rfl
        | cons p l ih => simp only [List.map_cons, fzs]; rw [ih, fz_pav]
      exact this ps
  | p :: ps, b + 1 => by
    simp only [List.map_cons, List.set_cons_succ, fzs]
    rw [fz_pav, fzs_paths hn hq ps b]
noncomputable def o_forestOf : List AV → Option (Prop × AV) := tab (fun (x : Int × Int × List T) => match x with | (n, m, ts) => [.agg [.int .i64 n, .int .i64 m, .snap 3 (ts.map T.av)]]) (fun x => match x with | (n, m, ts) => (Ph.valid ⟨n, m, ts⟩)) (fun x => match x with | (n, m, ts) => .snap 1 ((Ph.forest ⟨n, m, ts⟩).map iv))
@[simp] theorem o_forestOf_e (n : Int) (m : Int) (ts : List T) : o_forestOf [.agg [.int .i64 n, .int .i64 m, .snap 3 (ts.map T.av)]] = some ((Ph.valid ⟨n, m, ts⟩), .snap 1 ((Ph.forest ⟨n, m, ts⟩).map iv)) := tab_at (enc := fun (x : Int × Int × List T) => match x with | (n, m, ts) => [.agg [.int .i64 n, .int .i64 m, .snap 3 (ts.map T.av)]]) (fun x y h => by
  obtain ⟨n1, m1, ts1⟩ := x; obtain ⟨n2, m2, ts2⟩ := y; simp at h; simp [h]) _ _ (n, m, ts)
theorem o_forestOf_k : Knows Try.prog 68 o_forestOf := tab_knows fun x hx h => by
  obtain ⟨n, m, ts⟩ := x; exact forestOf_c ⟨n, m, ts⟩ h hx
noncomputable def orcB3 : List (Nat × (List AV → Option (Prop × AV))) := (68, o_forestOf) :: (92, o_shiftB) :: orcB2
theorem orcB3_p : Pure Try.prog (lk orcB3) := (lk_pure o_forestOf_k (lk_pure o_shiftB_k orcB2_p))
@[simp] theorem orcB3_l (g : FuncId) (l : List AV) : lk orcB3 g l = if g = 68 then o_forestOf l else if g = 92 then o_shiftB l else lk orcB2 g l := nr rfl
abbrev c_impl_forestPhases_o0 : List AJ := [.o ⟨(some 1), none, false, .box false 3 (.t 0), none⟩, .o ⟨(some 2), none, false, .mv (.c .nilsl), none⟩, .o ⟨(some 3), none, false, .mv (.c .nilsl), (some [1])⟩]
def c_impl_forestPhases_0 : ACode := .region c_impl_forestPhases_o0
abbrev c_impl_forestPhases_o1 : List AJ := [.o ⟨(some 15), none, false, .load 3 true (.t 1), none⟩, .o ⟨(some 16), none, false, .call 68 [(.t 15)], none⟩, .v 4 1 .nilsl [] (.t 16) (some [1, 4])]
def c_impl_forestPhases_1 : ACode := .region c_impl_forestPhases_o1
abbrev c_impl_forestPhases_o2 : List AJ := [.o ⟨(some 17), none, false, .load 3 true (.t 1), none⟩, .o ⟨(some 18), none, false, .mkfn 96 [(.t 4)], none⟩, .o ⟨(some 19), none, false, .call 80 [(.t 17), (.t 18)], none⟩, .v 5 3 (.agg [(.int .i64 0), (.int .i64 0), .nilsl]) [] (.t 19) (some [1, 5])]
def c_impl_forestPhases_2 : ACode := .region c_impl_forestPhases_o2
abbrev c_impl_forestPhases_o3 : List AJ := [.o ⟨(some 20), none, false, .fieldA 0 (.t 1), none⟩, .o ⟨(some 21), none, false, .load 1 false (.t 20), none⟩, .o ⟨(some 22), none, false, .mksl 1 8 (.int .i64 0) (.t 21) (.t 21), none⟩, .o ⟨(some 23), none, false, .fieldA 0 (.t 1), none⟩, .o ⟨(some 24), none, false, .load 1 false (.t 23), none⟩, .o ⟨(some 25), none, false, .mksl 1 24 .nilsl (.t 24) (.t 24), none⟩, .o ⟨(some 6), none, false, .mv (.t 22), none⟩, .o ⟨(some 7), none, false, .mv (.t 25), (some [1, 5, 6, 7])⟩]
def c_impl_forestPhases_3 : ACode := .drawT false c_impl_forestPhases_o3 rfl
abbrev c_impl_forestPhases_o4 : List AJ := [.o ⟨(some 26), none, false, .fieldA 0 (.t 1), none⟩, .o ⟨(some 27), none, false, .load 1 false (.t 26), none⟩, .o ⟨(some 28), none, false, .mv (.c (.int .i64 0)), (some [1, 5, 6, 7, 27, 28])⟩]
def c_impl_forestPhases_4 : ACode := .region c_impl_forestPhases_o4
abbrev c_impl_forestPhases_o5 : List AJ := [.o ⟨(some 29), none, false, .bin .lss (.t 28) (.t 27), (some [1, 5, 6, 7, 27, 28, 29])⟩]
def c_impl_forestPhases_5 : ACode := .region c_impl_forestPhases_o5
def c_impl_forestPhases_6 : ACode := .cond (.t 29) .skip (.exit 0)
abbrev c_impl_forestPhases_o6 : List AJ := [.o ⟨(some 30), none, false, .mv (.t 28), none⟩, .o ⟨(some 8), none, false, .mv (.t 30), (some [1, 5, 6, 7, 8, 27, 28])⟩]
def c_impl_forestPhases_7 : ACode := .region c_impl_forestPhases_o6
abbrev c_impl_forestPhases_o7 : List AJ := [.o ⟨(some 31), none, false, .mv (.t 7), none⟩, .o ⟨(some 32), none, false, .mv (.t 8), none⟩, .o ⟨(some 33), none, false, .idxA 1 (.t 31) (.t 32), none⟩, .o ⟨(some 34), none, false, .load 1 false (.t 33), none⟩, .o ⟨(some 35), none, false, .eqn 0 true (.t 34), (some [1, 5, 6, 7, 8, 27, 28, 35])⟩]
def c_impl_forestPhases_8 : ACode := .region c_impl_forestPhases_o7
def c_impl_forestPhases_9 : ACode := .cond (.t 35) (.exit 1) .skip
def c_impl_forestPhases_10 : ACode := .seq c_impl_forestPhases_8 c_impl_forestPhases_9
abbrev c_impl_forestPhases_o8 : List AJ := [.o ⟨(some 36), none, false, .mv (.t 7), none⟩, .o ⟨(some 37), none, false, .mv (.t 8), none⟩, .o ⟨(some 38), none, false, .mv (.t 8), none⟩, .o ⟨(some 39), none, false, .bsl false 1 [(.t 38)], none⟩, .o ⟨(some 40), none, false, .idxA 1 (.t 36) (.t 37), none⟩, .o ⟨none, none, false, .store 1 (.t 40) (.t 39), (some [1, 5, 6, 7, 8, 27, 28])⟩]
def c_impl_forestPhases_11 : ACode := .region c_impl_forestPhases_o8
abbrev c_impl_forestPhases_o9 : List AJ := [.o ⟨(some 41), none, false, .mv (.t 8), none⟩, .o ⟨(some 42), none, false, .bsl true 1 [(.t 41)], none⟩, .o ⟨(some 9), none, false, .mv (.t 42), (some [1, 5, 6, 7, 9, 27, 28])⟩]
def c_impl_forestPhases_12 : ACode := .region c_impl_forestPhases_o9
abbrev c_impl_forestPhases_o10 : List AJ := [.o ⟨(some 10), none, false, .mv (.c (.int .i64 0)), (some [1, 5, 6, 7, 9, 10, 27, 28])⟩]
def c_impl_forestPhases_13 : ACode := .region c_impl_forestPhases_o10
abbrev c_impl_forestPhases_o11 : List AJ := [.o ⟨(some 43), none, false, .mv (.t 10), none⟩, .o ⟨(some 44), none, false, .mv (.t 9), none⟩, .o ⟨(some 45), none, false, .len (.t 44), none⟩, .o ⟨(some 46), none, false, .bin .lss (.t 43) (.t 45), (some [1, 5, 6, 7, 9, 10, 27, 28, 46])⟩]
def c_impl_forestPhases_14 : ACode := .region c_impl_forestPhases_o11
def c_impl_forestPhases_15 : ACode := .cond (.t 46) .skip (.exit 2)
def c_impl_forestPhases_16 : ACode := .seq c_impl_forestPhases_14 c_impl_forestPhases_15
abbrev c_impl_forestPhases_o12 : List AJ := [.o ⟨(some 49), none, false, .mv (.t 9), none⟩, .o ⟨(some 50), none, false, .mv (.t 10), none⟩, .o ⟨(some 51), none, false, .idxA 1 (.t 49) (.t 50), none⟩, .o ⟨(some 52), none, false, .load 1 false (.t 51), none⟩, .o ⟨(some 11), none, false, .mv (.t 52), (some [1, 5, 6, 7, 9, 10, 11, 27, 28])⟩]
def c_impl_forestPhases_17 : ACode := .region c_impl_forestPhases_o12
abbrev c_impl_forestPhases_o13 : List AJ := [.o ⟨(some 53), none, false, .fieldA 0 (.t 1), none⟩, .o ⟨(some 54), none, false, .load 1 false (.t 53), none⟩, .o ⟨(some 55), none, false, .mv (.c (.int .i64 0)), (some [1, 5, 6, 7, 9, 10, 11, 27, 28, 54, 55])⟩]
def c_impl_forestPhases_18 : ACode := .region c_impl_forestPhases_o13
abbrev c_impl_forestPhases_o14 : List AJ := [.o ⟨(some 56), none, false, .bin .lss (.t 55) (.t 54), (some [1, 5, 6, 7, 9, 10, 11, 27, 28, 54, 55, 56])⟩]
def c_impl_forestPhases_19 : ACode := .region c_impl_forestPhases_o14
def c_impl_forestPhases_20 : ACode := .cond (.t 56) .skip (.exit 4)
abbrev c_impl_forestPhases_o15 : List AJ := [.o ⟨(some 57), none, false, .mv (.t 55), none⟩, .o ⟨(some 12), none, false, .mv (.t 57), (some [1, 5, 6, 7, 9, 10, 11, 12, 27, 28, 54, 55])⟩]
def c_impl_forestPhases_21 : ACode := .region c_impl_forestPhases_o15
abbrev c_impl_forestPhases_o16 : List AJ := [.o ⟨(some 59), none, false, .load 3 true (.t 5), none⟩, .o ⟨(some 60), none, false, .mv (.t 11), none⟩, .o ⟨(some 61), none, false, .mv (.t 12), none⟩, .o ⟨(some 62), none, false, .call 92 [(.t 59), (.t 60), (.t 61)], none⟩, .o ⟨(some 58), none, false, .mv (.t 62), none⟩, .o ⟨(some 63), none, false, .extract (.t 58) 0, none⟩, .o ⟨(some 64), none, false, .extract (.t 58) 1, none⟩, .o ⟨(some 13), none, false, .mv (.t 63), none⟩, .o ⟨(some 14), none, false, .mv (.t 64), (some [1, 5, 6, 7, 9, 10, 11, 12, 13, 14, 27, 28, 54, 55])⟩]
def c_impl_forestPhases_22 : ACode := .region c_impl_forestPhases_o16
abbrev c_impl_forestPhases_o17 : List AJ := [.o ⟨(some 65), none, false, .mv (.t 14), none⟩, .o ⟨(some 66), none, false, .mv (.t 65), none⟩, .o ⟨(some 67), (some (66, true)), false, .mv (.t 7), none⟩, .o ⟨(some 68), (some (66, true)), false, .mv (.t 12), none⟩, .o ⟨(some 69), (some (66, true)), false, .idxA 1 (.t 67) (.t 68), none⟩, .o ⟨(some 70), (some (66, true)), false, .load 1 false (.t 69), none⟩, .o ⟨(some 71), (some (66, true)), false, .eqn 0 false (.t 70), none⟩, .o ⟨(some 72), none, false, .pick (.t 66) (.t 71) (.c (.bool false)), (some [1, 5, 6, 7, 9, 10, 11, 12, 13, 27, 28, 54, 55, 72])⟩]
def c_impl_forestPhases_23 : ACode := .region c_impl_forestPhases_o17
abbrev c_impl_forestPhases_o18 : List AI := [⟨(some 73), none, false, .mv (.t 6), none⟩, ⟨(some 74), none, false, .mv (.t 12), none⟩, ⟨(some 75), none, false, .mv (.t 6), none⟩, ⟨(some 76), none, false, .mv (.t 11), none⟩, ⟨(some 77), none, false, .idxA 1 (.t 75) (.t 76), none⟩, ⟨(some 78), none, false, .load 1 false (.t 77), none⟩, ⟨(some 79), none, false, .mv (.t 13), none⟩, ⟨(some 80), none, true, .bin .add (.t 78) (.t 79), none⟩, ⟨(some 81), none, false, .fieldA 1 (.t 1), none⟩, ⟨(some 82), none, false, .load 1 false (.t 81), none⟩, ⟨(some 83), none, false, .bin .rem (.t 80) (.t 82), none⟩, ⟨(some 84), none, false, .idxA 1 (.t 73) (.t 74), (some [1, 5, 6, 7, 9, 10, 11, 12, 27, 28, 54, 55, 83, 84])⟩]
abbrev c_impl_forestPhases_o19 : List AJ := [.o ⟨none, none, false, .store 1 (.t 84) (.t 83), (some [1, 5, 6, 7, 9, 10, 11, 12, 27, 28, 54, 55])⟩]
def c_impl_forestPhases_24 : ACode := .draw c_impl_forestPhases_o18 c_impl_forestPhases_o19 rfl
abbrev c_impl_forestPhases_o20 : List AJ := [.o ⟨(some 85), none, false, .mv (.t 7), none⟩, .o ⟨(some 86), none, false, .mv (.t 12), none⟩, .o ⟨(some 87), none, false, .mv (.t 7), none⟩, .o ⟨(some 88), none, false, .mv (.t 11), none⟩, .o ⟨(some 89), none, false, .idxA 1 (.t 87) (.t 88), none⟩, .o ⟨(some 90), none, false, .load 1 false (.t 89), none⟩, .o ⟨(some 91), none, false, .call 71 [(.t 90)], none⟩, .o ⟨(some 92), none, false, .mv (.t 12), none⟩, .o ⟨(some 93), none, false, .bsl false 1 [(.t 92)], none⟩, .o ⟨(some 94), none, false, .append 1 8 (.t 91) (.t 93), none⟩, .o ⟨(some 95), none, false, .idxA 1 (.t 85) (.t 86), none⟩, .o ⟨none, none, false, .store 1 (.t 95) (.t 94), (some [1, 5, 6, 7, 9, 10, 11, 12, 27, 28, 54, 55])⟩]
def c_impl_forestPhases_25 : ACode := .region c_impl_forestPhases_o20
abbrev c_impl_forestPhases_o21 : List AJ := [.o ⟨(some 96), none, false, .mv (.t 9), none⟩, .o ⟨(some 97), none, false, .mv (.t 12), none⟩, .o ⟨(some 98), none, false, .bsl false 1 [(.t 97)], none⟩, .o ⟨(some 99), none, false, .append 1 8 (.t 96) (.t 98), none⟩, .o ⟨(some 9), none, false, .mv (.t 99), (some [1, 5, 6, 7, 9, 10, 11, 27, 28, 54, 55])⟩]
def c_impl_forestPhases_26 : ACode := .region c_impl_forestPhases_o21
def c_impl_forestPhases_27 : ACode := .seq c_impl_forestPhases_25 c_impl_forestPhases_26
def c_impl_forestPhases_28 : ACode := .seq c_impl_forestPhases_24 c_impl_forestPhases_27
def c_impl_forestPhases_29 : ACode := .cond (.t 72) c_impl_forestPhases_28 .skip
def c_impl_forestPhases_30 : ACode := .seq c_impl_forestPhases_23 c_impl_forestPhases_29
def c_impl_forestPhases_31 : ACode := .seq c_impl_forestPhases_22 c_impl_forestPhases_30
def c_impl_forestPhases_32 : ACode := .seq c_impl_forestPhases_21 c_impl_forestPhases_31
def c_impl_forestPhases_33 : ACode := .block 5 c_impl_forestPhases_32
abbrev c_impl_forestPhases_o22 : List AJ := [.o ⟨(some 100), none, true, .bin .add (.t 55) (.c (.int .i64 1)), none⟩, .o ⟨(some 55), none, false, .mv (.t 100), (some [1, 5, 6, 7, 9, 10, 11, 27, 28, 54, 55])⟩]
def c_impl_forestPhases_34 : ACode := .region c_impl_forestPhases_o22
def c_impl_forestPhases_35 : ACode := .seq c_impl_forestPhases_33 c_impl_forestPhases_34
def c_impl_forestPhases_36 : ACode := .seq c_impl_forestPhases_20 c_impl_forestPhases_35
def c_impl_forestPhases_37 : ACode := .seq c_impl_forestPhases_19 c_impl_forestPhases_36
def c_impl_forestPhases_38 : ACode := .loop c_impl_forestPhases_37
def c_impl_forestPhases_39 : ACode := .block 4 c_impl_forestPhases_38
def c_impl_forestPhases_40 : ACode := .seq c_impl_forestPhases_18 c_impl_forestPhases_39
def c_impl_forestPhases_41 : ACode := .seq c_impl_forestPhases_17 c_impl_forestPhases_40
def c_impl_forestPhases_42 : ACode := .block 3 c_impl_forestPhases_41
abbrev c_impl_forestPhases_o23 : List AJ := [.o ⟨(some 47), none, false, .mv (.t 10), none⟩, .o ⟨(some 48), none, true, .bin .add (.t 47) (.c (.int .i64 1)), none⟩, .o ⟨(some 10), none, false, .mv (.t 48), (some [1, 5, 6, 7, 9, 10, 27, 28])⟩]
def c_impl_forestPhases_43 : ACode := .region c_impl_forestPhases_o23
def c_impl_forestPhases_44 : ACode := .seq c_impl_forestPhases_42 c_impl_forestPhases_43
def c_impl_forestPhases_45 : ACode := .seq c_impl_forestPhases_16 c_impl_forestPhases_44
def c_impl_forestPhases_46 : ACode := .loop c_impl_forestPhases_45
def c_impl_forestPhases_47 : ACode := .block 2 c_impl_forestPhases_46
def c_impl_forestPhases_48 : ACode := .seq c_impl_forestPhases_13 c_impl_forestPhases_47
def c_impl_forestPhases_49 : ACode := .seq c_impl_forestPhases_12 c_impl_forestPhases_48
def c_impl_forestPhases_50 : ACode := .seq c_impl_forestPhases_11 c_impl_forestPhases_49
def c_impl_forestPhases_51 : ACode := .seq c_impl_forestPhases_10 c_impl_forestPhases_50
def c_impl_forestPhases_52 : ACode := .seq c_impl_forestPhases_7 c_impl_forestPhases_51
def c_impl_forestPhases_53 : ACode := .block 1 c_impl_forestPhases_52
abbrev c_impl_forestPhases_o24 : List AJ := [.o ⟨(some 101), none, true, .bin .add (.t 28) (.c (.int .i64 1)), none⟩, .o ⟨(some 28), none, false, .mv (.t 101), (some [1, 5, 6, 7, 27, 28])⟩]
def c_impl_forestPhases_54 : ACode := .region c_impl_forestPhases_o24
def c_impl_forestPhases_55 : ACode := .seq c_impl_forestPhases_53 c_impl_forestPhases_54
def c_impl_forestPhases_56 : ACode := .seq c_impl_forestPhases_6 c_impl_forestPhases_55
def c_impl_forestPhases_57 : ACode := .seq c_impl_forestPhases_5 c_impl_forestPhases_56
def c_impl_forestPhases_58 : ACode := .loop c_impl_forestPhases_57
def c_impl_forestPhases_59 : ACode := .block 0 c_impl_forestPhases_58
def c_impl_forestPhases_60 : ACode := .seq c_impl_forestPhases_4 c_impl_forestPhases_59
abbrev c_impl_forestPhases_o25 : List AJ := [.o ⟨(some 102), none, false, .mv (.t 6), none⟩, .o ⟨(some 103), none, false, .mv (.t 7), none⟩, .o ⟨(some 2), none, false, .mv (.t 102), none⟩, .o ⟨(some 3), none, false, .mv (.t 103), (some [2, 3])⟩]
def c_impl_forestPhases_61 : ACode := .region c_impl_forestPhases_o25
def c_impl_forestPhases_62 : ACode := .seq c_impl_forestPhases_61 .ret
def c_impl_forestPhases_63 : ACode := .seq c_impl_forestPhases_60 c_impl_forestPhases_62
def c_impl_forestPhases_64 : ACode := .seq c_impl_forestPhases_3 c_impl_forestPhases_63
def c_impl_forestPhases_65 : ACode := .seq c_impl_forestPhases_2 c_impl_forestPhases_64
def c_impl_forestPhases_66 : ACode := .seq c_impl_forestPhases_1 c_impl_forestPhases_65
def c_impl_forestPhases_67 : ACode := .seq c_impl_forestPhases_0 c_impl_forestPhases_66
section
variable (C : Cx) (n : Nat) (sk : List AItem) (e : Env) (h : Heap) (R : AV → Heap → Prop)
@[simp, simp ↓] theorem c_impl_forestPhases_0_r : vc2 C (n + 1) [] (.code c_impl_forestPhases_0 :: sk) e h R = (vc2 C n c_impl_forestPhases_o0 sk e h R) := nr rfl
@[simp, simp ↓] theorem c_impl_forestPhases_1_r : vc2 C (n + 1) [] (.code c_impl_forestPhases_1 :: sk) e h R = (vc2 C n c_impl_forestPhases_o1 sk e h R) := nr rfl
@[simp, simp ↓] theorem c_impl_forestPhases_2_r : vc2 C (n + 1) [] (.code c_impl_forestPhases_2 :: sk) e h R = (vc2 C n c_impl_forestPhases_o2 sk e h R) := nr rfl
@[simp, simp ↓] theorem c_impl_forestPhases_3_r : vc2 C (n + 1) [] (.code c_impl_forestPhases_3 :: sk) e h R = (200 ≤ n ∧ vc2 C n c_impl_forestPhases_o3 sk e h R) := nr rfl
@[simp, simp ↓] theorem c_impl_forestPhases_4_r : vc2 C (n + 1) [] (.code c_impl_forestPhases_4 :: sk) e h R = (vc2 C n c_impl_forestPhases_o4 sk e h R) := nr rfl
@[simp, simp ↓] theorem c_impl_forestPhases_5_r : vc2 C (n + 1) [] (.code c_impl_forestPhases_5 :: sk) e h R = (vc2 C n c_impl_forestPhases_o5 sk e h R) := nr rfl
@[simp, simp ↓] theorem c_impl_forestPhases_6_r : vc2 C (n + 1) [] (.code c_impl_forestPhases_6 :: sk) e h R = (condK (ev e (.t 29)) (vc2 C n [] (.code .skip :: sk) e h R) (vc2 C n [] (.code (.exit 0) :: sk) e h R)) := nr rfl
@[simp, simp ↓] theorem c_impl_forestPhases_7_r : vc2 C (n + 1) [] (.code c_impl_forestPhases_7 :: sk) e h R = (vc2 C n c_impl_forestPhases_o6 sk e h R) := nr rfl
@[simp, simp ↓] theorem c_impl_forestPhases_8_r : vc2 C (n + 1) [] (.code c_impl_forestPhases_8 :: sk) e h R = (vc2 C n c_impl_forestPhases_o7 sk e h R) := nr rfl
@[simp, simp ↓] theorem c_impl_forestPhases_9_r : vc2 C (n + 1) [] (.code c_impl_forestPhases_9 :: sk) e h R = (condK (ev e (.t 35)) (vc2 C n [] (.code (.exit 1) :: sk) e h R) (vc2 C n [] (.code .skip :: sk) e h R)) := nr rfl
@[simp, simp ↓] theorem c_impl_forestPhases_10_r : vc2 C (n + 1) [] (.code c_impl_forestPhases_10 :: sk) e h R = (vc2 C n [] (.code c_impl_forestPhases_8 :: .code c_impl_forestPhases_9 :: sk) e h R) := nr rfl
@[simp, simp ↓] theorem c_impl_forestPhases_11_r : vc2 C (n + 1) [] (.code c_impl_forestPhases_11 :: sk) e h R = (vc2 C n c_impl_forestPhases_o8 sk e h R) := nr rfl
@[simp, simp ↓] theorem c_impl_forestPhases_12_r : vc2 C (n + 1) [] (.code c_impl_forestPhases_12 :: sk) e h R = (vc2 C n c_impl_forestPhases_o9 sk e h R) := nr rfl
@[simp, simp ↓] theorem c_impl_forestPhases_13_r : vc2 C (n + 1) [] (.code c_impl_forestPhases_13 :: sk) e h R = (vc2 C n c_impl_forestPhases_o10 sk e h R) := nr rfl
@[simp, simp ↓] theorem c_impl_forestPhases_14_r : vc2 C (n + 1) [] (.code c_impl_forestPhases_14 :: sk) e h R = (vc2 C n c_impl_forestPhases_o11 sk e h R) := nr rfl
@[simp, simp ↓] theorem c_impl_forestPhases_15_r : vc2 C (n + 1) [] (.code c_impl_forestPhases_15 :: sk) e h R = (condK (ev e (.t 46)) (vc2 C n [] (.code .skip :: sk) e h R) (vc2 C n [] (.code (.exit 2) :: sk) e h R)) := nr rfl
@[simp, simp ↓] theorem c_impl_forestPhases_16_r : vc2 C (n + 1) [] (.code c_impl_forestPhases_16 :: sk) e h R = (vc2 C n [] (.code c_impl_forestPhases_14 :: .code c_impl_forestPhases_15 :: sk) e h R) := nr rfl
@[simp, simp ↓] theorem c_impl_forestPhases_17_r : vc2 C (n + 1) [] (.code c_impl_forestPhases_17 :: sk) e h R = (vc2 C n c_impl_forestPhases_o12 sk e h R) := nr rfl
@[simp, simp ↓] theorem c_impl_forestPhases_18_r : vc2 C (n + 1) [] (.code c_impl_forestPhases_18 :: sk) e h R = (vc2 C n c_impl_forestPhases_o13 sk e h R) := nr rfl
@[simp, simp ↓] theorem c_impl_forestPhases_19_r : vc2 C (n + 1) [] (.code c_impl_forestPhases_19 :: sk) e h R = (vc2 C n c_impl_forestPhases_o14 sk e h R) := nr rfl
@[simp, simp ↓] theorem c_impl_forestPhases_20_r : vc2 C (n + 1) [] (.code c_impl_forestPhases_20 :: sk) e h R = (condK (ev e (.t 56)) (vc2 C n [] (.code .skip :: sk) e h R) (vc2 C n [] (.code (.exit 4) :: sk) e h R)) := nr rfl
@[simp, simp ↓] theorem c_impl_forestPhases_21_r : vc2 C (n + 1) [] (.code c_impl_forestPhases_21 :: sk) e h R = (vc2 C n c_impl_forestPhases_o15 sk e h R) := nr rfl
@[simp, simp ↓] theorem c_impl_forestPhases_22_r : vc2 C (n + 1) [] (.code c_impl_forestPhases_22 :: sk) e h R = (vc2 C n c_impl_forestPhases_o16 sk e h R) := nr rfl
@[simp, simp ↓] theorem c_impl_forestPhases_23_r : vc2 C (n + 1) [] (.code c_impl_forestPhases_23 :: sk) e h R = (vc2 C n c_impl_forestPhases_o17 sk e h R) := nr rfl
@[simp, simp ↓] theorem c_impl_forestPhases_24_r : vc2 C (n + 1) [] (.code c_impl_forestPhases_24 :: sk) e h R = (draw2 C h (vK C n c_impl_forestPhases_o19 sk R h) c_impl_forestPhases_o18 e) := nr rfl
@[simp, simp ↓] theorem c_impl_forestPhases_25_r : vc2 C (n + 1) [] (.code c_impl_forestPhases_25 :: sk) e h R = (vc2 C n c_impl_forestPhases_o20 sk e h R) := nr rfl
@[simp, simp ↓] theorem c_impl_forestPhases_26_r : vc2 C (n + 1) [] (.code c_impl_forestPhases_26 :: sk) e h R = (vc2 C n c_impl_forestPhases_o21 sk e h R) := nr rfl
@[simp, simp ↓] theorem c_impl_forestPhases_27_r : vc2 C (n + 1) [] (.code c_impl_forestPhases_27 :: sk) e h R = (vc2 C n [] (.code c_impl_forestPhases_25 :: .code c_impl_forestPhases_26 :: sk) e h R) := nr rfl
@[simp, simp ↓] theorem c_impl_forestPhases_28_r : vc2 C (n + 1) [] (.code c_impl_forestPhases_28 :: sk) e h R = (vc2 C n [] (.code c_impl_forestPhases_24 :: .code c_impl_forestPhases_27 :: sk) e h R) := nr rfl
@[simp, simp ↓] theorem c_impl_forestPhases_29_r : vc2 C (n + 1) [] (.code c_impl_forestPhases_29 :: sk) e h R = (condK (ev e (.t 72)) (vc2 C n [] (.code c_impl_forestPhases_28 :: sk) e h R) (vc2 C n [] (.code .skip :: sk) e h R)) := nr rfl
@[simp, simp ↓] theorem c_impl_forestPhases_30_r : vc2 C (n + 1) [] (.code c_impl_forestPhases_30 :: sk) e h R = (vc2 C n [] (.code c_impl_forestPhases_23 :: .code c_impl_forestPhases_29 :: sk) e h R) := nr rfl
@[simp, simp ↓] theorem c_impl_forestPhases_31_r : vc2 C (n + 1) [] (.code c_impl_forestPhases_31 :: sk) e h R = (vc2 C n [] (.code c_impl_forestPhases_22 :: .code c_impl_forestPhases_30 :: sk) e h R) := nr rfl
@[simp, simp ↓] theorem c_impl_forestPhases_32_r : vc2 C (n + 1) [] (.code c_impl_forestPhases_32 :: sk) e h R = (vc2 C n [] (.code c_impl_forestPhases_21 :: .code c_impl_forestPhases_31 :: sk) e h R) := nr rfl
@[simp, simp ↓] theorem c_impl_forestPhases_33_r : vc2 C (n + 1) [] (.code c_impl_forestPhases_33 :: sk) e h R = (vc2 C n [] (.code c_impl_forestPhases_32 :: .inBlock 5 :: sk) e h R) := nr rfl
@[simp, simp ↓] theorem c_impl_forestPhases_34_r : vc2 C (n + 1) [] (.code c_impl_forestPhases_34 :: sk) e h R = (vc2 C n c_impl_forestPhases_o22 sk e h R) := nr rfl
@[simp, simp ↓] theorem c_impl_forestPhases_35_r : vc2 C (n + 1) [] (.code c_impl_forestPhases_35 :: sk) e h R = (vc2 C n [] (.code c_impl_forestPhases_33 :: .code c_impl_forestPhases_34 :: sk) e h R) := nr rfl
@[simp, simp ↓] theorem c_impl_forestPhases_36_r : vc2 C (n + 1) [] (.code c_impl_forestPhases_36 :: sk) e h R = (vc2 C n [] (.code c_impl_forestPhases_20 :: .code c_impl_forestPhases_35 :: sk) e h R) := nr rfl
@[simp, simp ↓] theorem c_impl_forestPhases_37_r : vc2 C (n + 1) [] (.code c_impl_forestPhases_37 :: sk) e h R = (vc2 C n [] (.code c_impl_forestPhases_19 :: .code c_impl_forestPhases_36 :: sk) e h R) := nr rfl
@[simp, simp ↓] theorem c_impl_forestPhases_38_r : vc2 C (n + 1) [] (.code c_impl_forestPhases_38 :: sk) e h R = (Run2 C (.code c_impl_forestPhases_37 :: .inLoop c_impl_forestPhases_37 :: sk) e h R) := nr rfl
@[simp, simp ↓] theorem c_impl_forestPhases_39_r : vc2 C (n + 1) [] (.code c_impl_forestPhases_39 :: sk) e h R = (vc2 C n [] (.code c_impl_forestPhases_38 :: .inBlock 4 :: sk) e h R) := nr rfl
@[simp, simp ↓] theorem c_impl_forestPhases_40_r : vc2 C (n + 1) [] (.code c_impl_forestPhases_40 :: sk) e h R = (vc2 C n [] (.code c_impl_forestPhases_18 :: .code c_impl_forestPhases_39 :: sk) e h R) := nr rfl
@[simp, simp ↓] theorem c_impl_forestPhases_41_r : vc2 C (n + 1) [] (.code c_impl_forestPhases_41 :: sk) e h R = (vc2 C n [] (.code c_impl_forestPhases_17 :: .code c_impl_forestPhases_40 :: sk) e h R) := nr rfl
@[simp, simp ↓] theorem c_impl_forestPhases_42_r : vc2 C (n + 1) [] (.code c_impl_forestPhases_42 :: sk) e h R = (vc2 C n [] (.code c_impl_forestPhases_41 :: .inBlock 3 :: sk) e h R) := nr rfl
@[simp, simp ↓] theorem c_impl_forestPhases_43_r : vc2 C (n + 1) [] (.code c_impl_forestPhases_43 :: sk) e h R = (vc2 C n c_impl_forestPhases_o23 sk e h R) := nr rfl
@[simp, simp ↓] theorem c_impl_forestPhases_44_r : vc2 C (n + 1) [] (.code c_impl_forestPhases_44 :: sk) e h R = (vc2 C n [] (.code c_impl_forestPhases_42 :: .code c_impl_forestPhases_43 :: sk) e h R) := nr rfl
@[simp, simp ↓] theorem c_impl_forestPhases_45_r : vc2 C (n + 1) [] (.code c_impl_forestPhases_45 :: sk) e h R = (vc2 C n [] (.code c_impl_forestPhases_16 :: .code c_impl_forestPhases_44 :: sk) e h R) := nr rfl
@[simp, simp ↓] theorem c_impl_forestPhases_46_r : vc2 C (n + 1) [] (.code c_impl_forestPhases_46 :: sk) e h R = (Run2 C (.code c_impl_forestPhases_45 :: .inLoop c_impl_forestPhases_45 :: sk) e h R) := nr rfl
@[simp, simp ↓] theorem c_impl_forestPhases_47_r : vc2 C (n + 1) [] (.code c_impl_forestPhases_47 :: sk) e h R = (vc2 C n [] (.code c_impl_forestPhases_46 :: .inBlock 2 :: sk) e h R) := nr rfl
@[simp, simp ↓] theorem c_impl_forestPhases_48_r : vc2 C (n + 1) [] (.code c_impl_forestPhases_48 :: sk) e h R = (vc2 C n [] (.code c_impl_forestPhases_13 :: .code c_impl_forestPhases_47 :: sk) e h R) := nr rfl
@[simp, simp ↓] theorem c_impl_forestPhases_49_r : vc2 C (n + 1) [] (.code c_impl_forestPhases_49 :: sk) e h R = (vc2 C n [] (.code c_impl_forestPhases_12 :: .code c_impl_forestPhases_48 :: sk) e h R) := nr rfl
@[simp, simp ↓] theorem c_impl_forestPhases_50_r : vc2 C (n + 1) [] (.code c_impl_forestPhases_50 :: sk) e h R = (vc2 C n [] (.code c_impl_forestPhases_11 :: .code c_impl_forestPhases_49 :: sk) e h R) := nr rfl
@[simp, simp ↓] theorem c_impl_forestPhases_51_r : vc2 C (n + 1) [] (.code c_impl_forestPhases_51 :: sk) e h R = (vc2 C n [] (.code c_impl_forestPhases_10 :: .code c_impl_forestPhases_50 :: sk) e h R) := nr rfl
@[simp, simp ↓] theorem c_impl_forestPhases_52_r : vc2 C (n + 1) [] (.code c_impl_forestPhases_52 :: sk) e h R = (vc2 C n [] (.code c_impl_forestPhases_7 :: .code c_impl_forestPhases_51 :: sk) e h R) := nr rfl
@[simp, simp ↓] theorem c_impl_forestPhases_53_r : vc2 C (n + 1) [] (.code c_impl_forestPhases_53 :: sk) e h R = (vc2 C n [] (.code c_impl_forestPhases_52 :: .inBlock 1 :: sk) e h R) := nr rfl
@[simp, simp ↓] theorem c_impl_forestPhases_54_r : vc2 C (n + 1) [] (.code c_impl_forestPhases_54 :: sk) e h R = (vc2 C n c_impl_forestPhases_o24 sk e h R) := nr rfl
@[simp, simp ↓] theorem c_impl_forestPhases_55_r : vc2 C (n + 1) [] (.code c_impl_forestPhases_55 :: sk) e h R = (vc2 C n [] (.code c_impl_forestPhases_53 :: .code c_impl_forestPhases_54 :: sk) e h R) := nr rfl
@[simp, simp ↓] theorem c_impl_forestPhases_56_r : vc2 C (n + 1) [] (.code c_impl_forestPhases_56 :: sk) e h R = (vc2 C n [] (.code c_impl_forestPhases_6 :: .code c_impl_forestPhases_55 :: sk) e h R) := nr rfl
@[simp, simp ↓] theorem c_impl_forestPhases_57_r : vc2 C (n + 1) [] (.code c_impl_forestPhases_57 :: sk) e h R = (vc2 C n [] (.code c_impl_forestPhases_5 :: .code c_impl_forestPhases_56 :: sk) e h R) := nr rfl
@[simp, simp ↓] theorem c_impl_forestPhases_58_r : vc2 C (n + 1) [] (.code c_impl_forestPhases_58 :: sk) e h R = (Run2 C (.code c_impl_forestPhases_57 :: .inLoop c_impl_forestPhases_57 :: sk) e h R) := nr rfl
@[simp, simp ↓] theorem c_impl_forestPhases_59_r : vc2 C (n + 1) [] (.code c_impl_forestPhases_59 :: sk) e h R = (vc2 C n [] (.code c_impl_forestPhases_58 :: .inBlock 0 :: sk) e h R) := nr rfl
@[simp, simp ↓] theorem c_impl_forestPhases_60_r : vc2 C (n + 1) [] (.code c_impl_forestPhases_60 :: sk) e h R = (vc2 C n [] (.code c_impl_forestPhases_4 :: .code c_impl_forestPhases_59 :: sk) e h R) := nr rfl
@[simp, simp ↓] theorem c_impl_forestPhases_61_r : vc2 C (n + 1) [] (.code c_impl_forestPhases_61 :: sk) e h R = (vc2 C n c_impl_forestPhases_o25 sk e h R) := nr rfl
@[simp, simp ↓] theorem c_impl_forestPhases_62_r : vc2 C (n + 1) [] (.code c_impl_forestPhases_62 :: sk) e h R = (vc2 C n [] (.code c_impl_forestPhases_61 :: .code .ret :: sk) e h R) := nr rfl
@[simp, simp ↓] theorem c_impl_forestPhases_63_r : vc2 C (n + 1) [] (.code c_impl_forestPhases_63 :: sk) e h R = (vc2 C n [] (.code c_impl_forestPhases_60 :: .code c_impl_forestPhases_62 :: sk) e h R) := nr rfl
@[simp, simp ↓] theorem c_impl_forestPhases_64_r : vc2 C (n + 1) [] (.code c_impl_forestPhases_64 :: sk) e h R = (vc2 C n [] (.code c_impl_forestPhases_3 :: .code c_impl_forestPhases_63 :: sk) e h R) := nr rfl
@[simp, simp ↓] theorem c_impl_forestPhases_65_r : vc2 C (n + 1) [] (.code c_impl_forestPhases_65 :: sk) e h R = (vc2 C n [] (.code c_impl_forestPhases_2 :: .code c_impl_forestPhases_64 :: sk) e h R) := nr rfl
@[simp, simp ↓] theorem c_impl_forestPhases_66_r : vc2 C (n + 1) [] (.code c_impl_forestPhases_66 :: sk) e h R = (vc2 C n [] (.code c_impl_forestPhases_1 :: .code c_impl_forestPhases_65 :: sk) e h R) := nr rfl
@[simp, simp ↓] theorem c_impl_forestPhases_67_r : vc2 C (n + 1) [] (.code c_impl_forestPhases_67 :: sk) e h R = (vc2 C n [] (.code c_impl_forestPhases_0 :: .code c_impl_forestPhases_66 :: sk) e h R) := nr rfl
end
noncomputable def c_impl_forestPhases_C (orc : Orc) : Cx := ⟨Try.prog, [4, 5, 42], 69, 104, [.tmp 2, .tmp 3], orc⟩
@[simp] theorem c_impl_forestPhases_C_P (orc : Orc) : (c_impl_forestPhases_C orc).P = Try.prog := nr rfl
@[simp] theorem c_impl_forestPhases_C_o (orc : Orc) : (c_impl_forestPhases_C orc).orc = orc := nr rfl
@[simp] theorem c_impl_forestPhases_C_r (orc : Orc) : (c_impl_forestPhases_C orc).res = [.tmp 2, .tmp 3] := nr rfl
theorem c_impl_forestPhases_of {args : List AV} {h : Heap} {R : AV → Heap → Prop} {k : Nat} (ha : args.length = k) {orc : Orc} (hp : Pure Try.prog orc) (hk : Is (c_impl_forestPhases_C orc) Try.f69 → Run2 (c_impl_forestPhases_C orc) [.code c_impl_forestPhases_67] (argEnv 0 args) h (Post R)) (hle : k ≤ 104 := by simp) : ACalls Try.prog 69 args h R :=
  contract2 [4, 5, 42] c_impl_forestPhases_67 [.tmp 2, .tmp 3] Try.func69 (by decide +kernel) rfl (by kernel_rfl) (by rw [ha]; exact hle) (by kernel_rfl) hp hk
theorem c_impl_forestPhases_of0 {args : List AV} {h : Heap} {R : AV → Heap → Prop} {k : Nat} (ha : args.length = k) {orc : Orc} (hp : Pure Try.prog orc) (hk : Is (c_impl_forestPhases_C orc) Try.f69 → Run2 (c_impl_forestPhases_C orc) [.code c_impl_forestPhases_67] (argEnv 0 args) h R) (hle : k ≤ 104 := by simp) : ACalls Try.prog 69 args h R :=
  contract20 [4, 5, 42] c_impl_forestPhases_67 [.tmp 2, .tmp 3] Try.func69 (by decide +kernel) rfl (by kernel_rfl) (by rw [ha]; exact hle) (by kernel_rfl) hp hk
noncomputable abbrev BpC : Cx := c_impl_forestPhases_C (lk orcB3)
theorem bfs_inner (I : Is BpC Try.f69) {x : Ph} (hv : x.valid) {PQ : Nat → List Int → Prop} (hQ1 : ∀ (a b : Nat) (l : List Int) (d : Int), PQ a l → l ≠ [] → x.fgraph.step a b = some d → (b : Int) ∉ l → PQ b (l ++ [(b : Int)])) {h : Heap} {R : AV → Heap → Prop} {sk : List AItem} {N : Nat} (hNx : x.n = (N : Int)) {idf idp : Nat} (hne : ¬ idp = idf) {k a v : Nat} {ph0 : List Int} {ps0 : List (List Int)} {Q0 : List Int} {wq0 : AV} {gq0 : Heap}
    (hBI : BI x PQ ph0 ps0) (hQI : QI x v Q0 ps0) (hCL : CL x k Q0 ps0) (hg : Grow 1 wq0 (Q0.map iv) gq0) (hpq : idp ∉ dom gq0) (hfq : idf ∉ dom gq0) (hdq : ∀ j ∈ dom gq0, j ∉ dom h) (hka : Q0[k]? = some (a : Int))
    (go : ∀ ph ps Q wq gq, BI x PQ ph ps → QI x v Q ps → CL x (k + 1) Q ps → Grow 1 wq (Q.map iv) gq → idp ∉ dom gq → idf ∉ dom gq → (∀ j ∈ dom gq, j ∉ dom h) → k < Q.length → vc2 BpC 994 [] sk [(1, .ip [.int .i64 x.n, .int .i64 x.m, .snap 3 (x.ts.map T.av)]), (5, .ip [.int .i64 x.fgraph.n, .int .i64 x.fgraph.m, .snap 3 (x.fgraph.ts.map T.av)]), (6, .sl idf 1 0 N (some N)), (7, .sl idp 1 0 N (some N)), (9, wq), (10, .int .i64 (k : Nat)), (11, .int .i64 (a : Nat)), (27, .int .i64 x.n), (28, .int .i64 (v : Nat)), (54, .int .i64 x.n), (55, .int .i64 (N : Nat)), (56, .bool false)] (gq ++ ((idp, ⟨1, ps.map pav⟩) :: (idf, ⟨1, ph.map iv⟩) :: h)) R) :
    Run2 BpC (.code c_impl_forestPhases_37 :: .inLoop c_impl_forestPhases_37 :: .inBlock 4 :: sk) [(1, .ip [.int .i64 x.n, .int .i64 x.m, .snap 3 (x.ts.map T.av)]), (5, .ip [.int .i64 x.fgraph.n, .int .i64 x.fgraph.m, .snap 3 (x.fgraph.ts.map T.av)]), (6, .sl idf 1 0 N (some N)), (7, .sl idp 1 0 N (some N)), (9, wq0), (10, .int .i64 (k : Nat)), (11, .int .i64 (a : Nat)), (27, .int .i64 x.n), (28, .int .i64 (v : Nat)), (54, .int .i64 x.n), (55, .int .i64 0)] (gq0 ++ ((idp, ⟨1, ps0.map pav⟩) :: (idf, ⟨1, ph0.map iv⟩) :: h)) R := by
  have hn1 := hv.1
  have hn2 := hv.2.1
  have hm1 := hv.2.2.1
  have hm2 := hv.2.2.2.1
  have hl2 := hv.2.2.2.2.2
  have hbnd : Ph.bnd ⟨x.fgraph.n, x.fgraph.m, x.fgraph.ts⟩ := Ph.kept_bnd hv fun k => decide (k ∈ x.forest)
  have hNt : x.n.toNat = N := by omega
  refine Run2.loopE (α := Nat × List Int × List (List Int) × List Int × AV × Heap) (fun s => [(1, .ip [.int .i64 x.n, .int .i64 x.m, .snap 3 (x.ts.map T.av)]), (5, .ip [.int .i64 x.fgraph.n, .int .i64 x.fgraph.m, .snap 3 (x.fgraph.ts.map T.av)]), (6, .sl idf 1 0 N (some N)), (7, .sl idp 1 0 N (some N)), (9, s.2.2.2.2.1), (10, .int .i64 (k : Nat)), (11, .int .i64 (a : Nat)), (27, .int .i64 x.n), (28, .int .i64 (v : Nat)), (54, .int .i64 x.n), (55, .int .i64 (s.1 : Nat))]) (fun s => s.2.2.2.2.2 ++ ((idp, ⟨1, s.2.2.1.map pav⟩) :: (idf, ⟨1, s.2.1.map iv⟩) :: h)) (fun s => N - s.1)
    (fun s => s.1 ≤ N ∧ BI x PQ s.2.1 s.2.2.1 ∧ QI x v s.2.2.2.1 s.2.2.1 ∧ CL x k s.2.2.2.1 s.2.2.1 ∧ (∀ b', b' < s.1 → ∀ d, x.fgraph.step a b' = some d → Vis s.2.2.1 b') ∧ Grow 1 s.2.2.2.2.1 (s.2.2.2.1.map iv) s.2.2.2.2.2 ∧ idp ∉ dom s.2.2.2.2.2 ∧ idf ∉ dom s.2.2.2.2.2 ∧ (∀ j ∈ dom s.2.2.2.2.2, j ∉ dom h) ∧ s.2.2.2.1[k]? = some (a : Int))
    (0, ph0, ps0, Q0, wq0, gq0) (by simp) rfl ⟨Nat.zero_le _, hBI, hQI, hCL, fun b' hb => by omega, hg, hpq, hfq, hdq, hka⟩ ?_
  clear hBI hQI hCL hg hpq hfq hdq hka
  rintro ⟨b, ph, ps, Q, wq, gq⟩ ⟨hi, hBI, hQI, hCL, hdone, hg, hpq, hfq, hdq, hka⟩ ih
  simp only at hi hBI hQI hCL hdone hg hpq hfq hdq hka ih ⊢
  have b1 := hBI.l1
  have b2 := hBI.l2
  rw [hNt] at b1 b2
  have hkQ : k < Q.length := (List.getElem?_eq_some_iff.1 hka).1
  have haV : Vis ps a := by have := hQI.q (a : Int) (List.mem_of_getElem? hka); simpa using this.2
  have haN : a < N := by have := haV.lt; omega
  by_cases hlt : b < N
  · have hlt' : (b : Int) < x.n := by omega
    have go1 := fun ph ps Q wq gq c1 c2 c3 c4 c5 c6 c7 c8 c9 => ih (b + 1, ph, ps, Q, wq, gq) ⟨by simp; omega, c1, c2, c3, c4, c5, c6, c7, c8, c9⟩ (by simp; omega)
    clear ih go
    have hb1 : b < ph.length := by omega
    have hb2 : b < ps.length := by omega
    have ha1 : a < ph.length := by omega
    have ha2 : a < ps.length := by omega
    cases hst : x.fgraph.step a b with
    | none =>
      have hst' : Ph.step ⟨x.fgraph.n, x.fgraph.m, x.fgraph.ts⟩ a b = none := hst
      refine Run2.of I 1000 ?_
      simp -implicitDefEqProofs [hlt', hbnd, hst']
      refine ⟨by omega, ?_⟩
      have := go1 ph ps Q wq gq hBI hQI hCL (fun b' hb' d' hd' => by
        rcases Nat.lt_or_ge b' b with h1 | h1
        · exact hdone b' h1 d' hd'
        · obtain rfl : b' = b := by omega
          rw [hst] at hd'; cases hd') hg hpq hfq hdq hka
      simpa using this
    | some d =>
      have hst' : Ph.step ⟨x.fgraph.n, x.fgraph.m, x.fgraph.ts⟩ a b = some d := hst
      by_cases hV : Vis ps b
      · obtain ⟨c, l, hcl⟩ : ∃ c l, ps[b] = c :: l := by
          have : ps[b] ≠ [] := by simpa [Vis, hb2] using hV
          cases hp : ps[b] with
          | nil => exact absurd hp this
          | cons c l => exact ⟨c, l, rfl⟩
        have hpv : pav ps[b] = .snap 1 (.int .i64 c :: l.map iv) := by rw [hcl]; rfl
        refine Run2.of I 1000 ?_
        simp -implicitDefEqProofs [hlt, hlt', hbnd, hst', hget_app hpq, hget_app hfq, hne, hb1, hb2, hpv]
        refine ⟨by omega, ?_⟩
        have := go1 ph ps Q wq gq hBI hQI hCL (fun b' hb' d' hd' => by
        rcases Nat.lt_or_ge b' b with h1 | h1
        · exact hdone b' h1 d' hd'
        · obtain rfl : b' = b := by omega
          exact hV) hg hpq hfq hdq hka
        simpa using this
      · have hpv : pav ps[b] = .nilsl := by
          have : ps[b] = [] := by simpa [Vis, hb2] using hV
          rw [this]; rfl
        have hpa : pav ps[a] = .snap 1 (ps[a].map iv) := by
          have : ps[a] ≠ [] := by simpa [Vis, ha2] using haV
          simp [pav, this]
        refine Run2.of I 1000 ?_
        simp -implicitDefEqProofs [hlt, hlt', haN, hbnd, hst', hget_app hpq, hget_app hfq, hset_app hpq, hset_app hfq, hne, Ne.symm hne, hb1, hb2, ha1, ha2, hpv, hpa]
        have hpha : ph[a] = x.pots.getD a 0 := by have := hBI.eq a haV; simpa [ha1] using this
        have hpb := Ph.pots_b hv (v := a) (by omega)
        have hda : 0 ≤ d ∧ d ≤ x.m := by
          obtain ⟨j, hj, _, hh⟩ := Ph.fg_step hv hst
          obtain ⟨_, _, _, q4, q5⟩ := Ph.edge hv hj
          rcases hh with ⟨_, _, rfl⟩ | ⟨_, _, rfl⟩ <;> omega
        have hnew : (ph[a] + d).tmod x.m = x.pots.getD b 0 := by
          rw [Int.tmod_eq_emod_of_nonneg (by omega), hpha]
          simpa using Ph.pots_step hv hst
        have hlen : ps[a].length + cntE ps ≤ N := by have := hBI.sz a ha2; rw [hNt] at this; simpa [ha2] using this
        refine ⟨by omega, by omega, ?_⟩
        refine (Clone_w ps[a] _ (by omega)).mono ?_
        rintro wc h' ⟨gc, hgc, hdc, rfl⟩
        refine gK.go ?_
        simp -implicitDefEqProofs
        refine Grow.app_mid (pre := []) hgc (fun j hj => by simp [dom]) (by simp; omega) (by simp) fun wc' gc' hgc' hfc => ?_
        generalize hL : ps[a].map iv ++ [.int .i64 (b : Int)] = L at hgc'
        cases hgc' with
        | nil => have := congrArg List.length hL; simp at this
        | emp => have := congrArg List.length hL; simp at this
        | sl idc _ nc hnc =>
        have f1 : ¬ idc = idp := fun hh => hfc idc (by simp [dom]) (by simp [dom, hh])
        have f2 : ¬ idc = idf := fun hh => hfc idc (by simp [dom]) (by simp [dom, hh])
        have f3 : idc ∉ dom gq := fun hh => hfc idc (by simp [dom]) (by simp [hh])
        have f4 : idc ∉ dom h := fun hh => hfc idc (by simp [dom]) (by simp [hh])
        simp -implicitDefEqProofs [hlt, hget_app hpq, hget_app hfq, hset_app hpq, hset_app hfq, hne, Ne.symm hne, hb1, hb2, f1, f2, Ne.symm f1, Ne.symm f2]
        have hqc := hQI.cnt
        refine Grow.app_mid (pre := [(idc, _)]) hg (fun j hj => by simp [dom]; rintro rfl; exact f3 hj) (by simp; omega) (by simp) fun wq' gq' hg' hfq' => ?_
        have g1 : idp ∉ dom gq' := fun hh => hfq' idp hh (by simp [dom])
        have g2 : idf ∉ dom gq' := fun hh => hfq' idf hh (by simp [dom])
        have g3 : idc ∉ dom gq' := fun hh => hfq' idc hh (by simp [dom])
        have g4 : ∀ j ∈ dom gq', j ∉ dom h := fun j hj hj2 => hfq' j hj (by simp [dom] at hj2 ⊢; exact .inr (.inr (.inr hj2)))
        simp -implicitDefEqProofs
        refine ⟨by omega, ?_⟩
        rw [hnew]
        have hq0 : ps[a] ++ [(b : Int)] ≠ [] := by simp
        have hVn : (ps[a] ++ [(b : Int)]).map iv = L := by rw [← hL]; simp
        refine Run2.frz1 g3 ?_
        rw [← hVn, fzs_paths (by rw [hnc, ← hVn]; simp) hq0]
        have hnb : ∀ c ∈ ps[a], 0 ≤ c ∧ Vis ps c.toNat := fun c hc => hBI.nd a haV c (by simpa [ha2] using hc)
        have hpaD : ps.getD a [] = ps[a] := by simp [ha2]
        have hBI' := hBI.put (b := b) (p := x.pots.getD b 0) (l := ps[a] ++ [(b : Int)]) (by omega) hV hq0 rfl
          (hQ1 a b ps[a] d (by have := hBI.pq a haV; rwa [hpaD] at this) (by simpa [Vis, ha2] using haV) hst (fun hm => hV (by simpa using (hnb _ hm).2)))
          (fun c hc => by
            rcases List.mem_append.1 hc with hc | hc
            · exact ⟨(hnb c hc).1, .inl (hnb c hc).2⟩
            · rw [List.mem_singleton] at hc; subst hc; exact ⟨by omega, .inr (by simp)⟩) (by simp; omega)
        have hset : (ph.map iv).set b (.int .i64 (x.pots.getD b 0)) = (ph.set b (x.pots.getD b 0)).map iv := by rw [List.map_set]; rfl
        have := go1 _ _ _ wq' gq' hBI' (hQI.put hb2 hV hq0) (hCL.put (by omega) hb2 hq0) (fun b' hb' d' hd' => (vis_set hb2 hq0 b').2 (by
          rcases Nat.lt_or_ge b' b with h1 | h1
          · exact .inl (hdone b' h1 d' hd')
          · exact .inr (by omega))) (by simpa using hg') g1 g2 g4 (by rw [List.getElem?_append_left hkQ]; exact hka)
        rw [hset]
        simpa using this
  · obtain rfl : b = N := by omega
    have hlt' : ¬ (b : Int) < x.n := by omega
    refine Run2.of I 1000 ?_
    simp -implicitDefEqProofs [hlt']
    refine go ph ps Q wq gq hBI hQI (hCL.next hkQ fun a' ha' b' d' hd' => ?_) hg hpq hfq hdq hkQ
    have haa : a' = a := by
      rw [List.getElem?_eq_getElem hkQ] at hka
      have : Q[k] = (a : Int) := by simpa using hka
      omega
    subst haa
    refine hdone b' ?_ d' hd'
    obtain ⟨j, hj, _, hh⟩ := Ph.fg_step hv hd'
    obtain ⟨_, _, _, _, _⟩ := Ph.edge hv hj
    rcases hh with ⟨_, _, _⟩ | ⟨_, _, _⟩ <;> omega
theorem bfs_mid (I : Is BpC Try.f69) {x : Ph} (hv : x.valid) {PQ : Nat → List Int → Prop} (hQ1 : ∀ (a b : Nat) (l : List Int) (d : Int), PQ a l → l ≠ [] → x.fgraph.step a b = some d → (b : Int) ∉ l → PQ b (l ++ [(b : Int)])) {h : Heap} {R : AV → Heap → Prop} {sk : List AItem} {N : Nat} (hNx : x.n = (N : Int)) {idf idp : Nat} (hne : ¬ idp = idf) {v : Nat} {ph0 : List Int} {ps0 : List (List Int)} {Q0 : List Int} {wq0 : AV} {gq0 : Heap}
    (hBI : BI x PQ ph0 ps0) (hQI : QI x v Q0 ps0) (hCL : CL x 0 Q0 ps0) (hg : Grow 1 wq0 (Q0.map iv) gq0) (hpq : idp ∉ dom gq0) (hfq : idf ∉ dom gq0) (hdq : ∀ j ∈ dom gq0, j ∉ dom h) 
    (go : ∀ ph ps Q wq gq (k : Nat), BI x PQ ph ps → QI x v Q ps → CL x Q.length Q ps → Grow 1 wq (Q.map iv) gq → idp ∉ dom gq → idf ∉ dom gq → (∀ j ∈ dom gq, j ∉ dom h) → vc2 BpC 991 [] sk [(1, .ip [.int .i64 x.n, .int .i64 x.m, .snap 3 (x.ts.map T.av)]), (5, .ip [.int .i64 x.fgraph.n, .int .i64 x.fgraph.m, .snap 3 (x.fgraph.ts.map T.av)]), (6, .sl idf 1 0 N (some N)), (7, .sl idp 1 0 N (some N)), (9, wq), (10, .int .i64 (Q.length : Nat)), (27, .int .i64 x.n), (28, .int .i64 (v : Nat)), (46, .bool false)] (gq ++ ((idp, ⟨1, ps.map pav⟩) :: (idf, ⟨1, ph.map iv⟩) :: h)) R) :
    Run2 BpC (.code c_impl_forestPhases_45 :: .inLoop c_impl_forestPhases_45 :: .inBlock 2 :: sk) [(1, .ip [.int .i64 x.n, .int .i64 x.m, .snap 3 (x.ts.map T.av)]), (5, .ip [.int .i64 x.fgraph.n, .int .i64 x.fgraph.m, .snap 3 (x.fgraph.ts.map T.av)]), (6, .sl idf 1 0 N (some N)), (7, .sl idp 1 0 N (some N)), (9, wq0), (10, .int .i64 0), (27, .int .i64 x.n), (28, .int .i64 (v : Nat))] (gq0 ++ ((idp, ⟨1, ps0.map pav⟩) :: (idf, ⟨1, ph0.map iv⟩) :: h)) R := by
  have hn1 := hv.1
  have hn2 := hv.2.1
  have hNt : x.n.toNat = N := by omega
  refine Run2.loopE (α := Nat × List Int × List (List Int) × List Int × AV × Heap) (fun s => [(1, .ip [.int .i64 x.n, .int .i64 x.m, .snap 3 (x.ts.map T.av)]), (5, .ip [.int .i64 x.fgraph.n, .int .i64 x.fgraph.m, .snap 3 (x.fgraph.ts.map T.av)]), (6, .sl idf 1 0 N (some N)), (7, .sl idp 1 0 N (some N)), (9, s.2.2.2.2.1), (10, .int .i64 (s.1 : Nat)), (27, .int .i64 x.n), (28, .int .i64 (v : Nat))]) (fun s => s.2.2.2.2.2 ++ ((idp, ⟨1, s.2.2.1.map pav⟩) :: (idf, ⟨1, s.2.1.map iv⟩) :: h)) (fun s => N - s.1)
    (fun s => s.1 ≤ s.2.2.2.1.length ∧ BI x PQ s.2.1 s.2.2.1 ∧ QI x v s.2.2.2.1 s.2.2.1 ∧ CL x s.1 s.2.2.2.1 s.2.2.1 ∧ Grow 1 s.2.2.2.2.1 (s.2.2.2.1.map iv) s.2.2.2.2.2 ∧ idp ∉ dom s.2.2.2.2.2 ∧ idf ∉ dom s.2.2.2.2.2 ∧ (∀ j ∈ dom s.2.2.2.2.2, j ∉ dom h))
    (0, ph0, ps0, Q0, wq0, gq0) (by simp) rfl ⟨Nat.zero_le _, hBI, hQI, hCL, hg, hpq, hfq, hdq⟩ ?_
  clear hBI hQI hCL hg hpq hfq hdq
  rintro ⟨k, ph, ps, Q, wq, gq⟩ ⟨hi, hBI, hQI, hCL, hg, hpq, hfq, hdq⟩ ih
  simp only at hi hBI hQI hCL hg hpq hfq hdq ih ⊢
  have hlen := hg.len
  simp only [List.length_map] at hlen
  have hqc := hQI.cnt
  rw [hNt] at hqc
  by_cases hlt : k < Q.length
  · have go1 := fun ph ps Q wq gq c0 c1 c2 c3 c4 c5 c6 c7 => ih (k + 1, ph, ps, Q, wq, gq) ⟨c0, c1, c2, c3, c4, c5, c6, c7⟩ (by simp; omega)
    clear ih go
    obtain ⟨q1, q2⟩ := hQI.q _ (List.getElem_mem hlt)
    obtain ⟨a, ha⟩ : ∃ a : Nat, Q[k] = (a : Int) := ⟨Q[k].toNat, by omega⟩
    have hka : Q[k]? = some (a : Int) := by rw [List.getElem?_eq_getElem hlt, ha]
    have hg0 := hg
    generalize hL : Q.map iv = L at hg
    cases hg with
    | nil => simp at hL; rw [hL] at hlt; simp at hlt
    | emp => simp at hL; rw [hL] at hlt; simp at hlt
    | sl idq _ nq hnq =>
    obtain rfl : nq = Q.length := by rw [hnq, ← hL]; simp
    subst hL
    refine Run2.of I 1000 ?_
    simp -implicitDefEqProofs [hlt, ha]
    refine bfs_inner (k := k) (a := a) I hv hQ1 hNx hne hBI hQI hCL hg0 hpq hfq hdq hka fun ph ps Q wq gq c1 c2 c3 c4 c5 c6 c7 c8 => ?_
    simp -implicitDefEqProofs
    refine ⟨by omega, ?_⟩
    have := go1 ph ps Q wq gq (by simp only; omega) c1 c2 c3 c4 c5 c6 c7
    simpa using this
  · obtain rfl : k = Q.length := by omega
    refine Run2.of I 1000 ?_
    simp -implicitDefEqProofs [hlen]
    exact go ph ps Q wq gq 0 hBI hQI hCL hg hpq hfq hdq
theorem forestPhases_w (x : Ph) (PQ : Nat → List Int → Prop) (hQ0 : ∀ v, v < x.n.toNat → fsti x.parts v = v → PQ v [(v : Int)]) (hQ1 : ∀ (a b : Nat) (l : List Int) (d : Int), PQ a l → l ≠ [] → x.fgraph.step a b = some d → (b : Int) ∉ l → PQ b (l ++ [(b : Int)])) (h : Heap) (hv : x.valid) :
    ACalls Try.prog 69 [x.av] h (fun v h' => ∃ idf ps, idf ∉ dom h ∧ ps.length = x.n.toNat ∧ (∀ u, u < x.n.toNat → Vis ps u ∧ PQ u (ps.getD u [])) ∧ v = .tup [.sl idf 1 0 x.n.toNat (some x.n.toNat), .snap 1 (ps.map fun p => .snap 1 (p.map iv))] ∧ h' = (idf, ⟨1, x.pots.map iv⟩) :: h) := by
  have hn1 := hv.1
  have hn2 := hv.2.1
  have hm1 := hv.2.2.1
  have hm2 := hv.2.2.2.1
  have hl2 := hv.2.2.2.2.2
  have hvv : Ph.valid ⟨x.n, x.m, x.ts⟩ := hv
  have hbnd := Ph.kept_bnd hv fun k => decide (k ∈ x.forest)
  obtain ⟨N, hN⟩ : ∃ N : Nat, x.n.toNat = N := ⟨_, rfl⟩
  have hNx : x.n = (N : Int) := by omega
  have hN12 : N ≤ 12 := by omega
  refine c_impl_forestPhases_of rfl orcB3_p fun I => ?_
  generalize hR : (fun (v : AV) (h' : Heap) => ∃ idf ps, idf ∉ dom h ∧ ps.length = x.n.toNat ∧ (∀ u, u < x.n.toNat → Vis ps u ∧ PQ u (ps.getD u [])) ∧ v = .tup [.sl idf 1 0 x.n.toNat (some x.n.toNat), .snap 1 (ps.map fun p => .snap 1 (p.map iv))] ∧ h' = (idf, ⟨1, x.pots.map iv⟩) :: h) = R
  have leaf : ∀ idf ps, idf ∉ dom h → ps.length = N → (∀ u, u < N → Vis ps u ∧ PQ u (ps.getD u [])) → R (.tup [.sl idf 1 0 N (some N), .snap 1 (ps.map fun p => .snap 1 (p.map iv))]) ((idf, ⟨1, x.pots.map iv⟩) :: h) := by
    intro idf ps c1 c2 c3
    subst hR
    rw [hN]
    exact ⟨idf, ps, c1, c2, c3, rfl, rfl⟩
  clear hR
  refine Run2.of I 1000 ?_
  simp -implicitDefEqProofs [hvv]
  refine (fgraph_c x _ hl2).mono ?_
  rintro v h' ⟨rfl, rfl⟩
  refine gK.go ?_
  simp -implicitDefEqProofs
  refine ⟨by omega, by omega, fun idf hf => ⟨by omega, by omega, fun idp hne hp => ?_⟩⟩
  refine gK.go ?_
  simp -implicitDefEqProofs [hN]
  refine Run2.loopE (α := Nat × List Int × List (List Int)) (fun s => [(1, .ip [.int .i64 x.n, .int .i64 x.m, .snap 3 (x.ts.map T.av)]), (5, .ip [.int .i64 x.fgraph.n, .int .i64 x.fgraph.m, .snap 3 (x.fgraph.ts.map T.av)]), (6, .sl idf 1 0 N (some N)), (7, .sl idp 1 0 N (some N)), (27, .int .i64 x.n), (28, .int .i64 (s.1 : Nat))]) (fun s => (idp, ⟨1, s.2.2.map pav⟩) :: (idf, ⟨1, s.2.1.map iv⟩) :: h') (fun s => N - s.1)
    (fun s => s.1 ≤ N ∧ BI x PQ s.2.1 s.2.2 ∧ (∀ u, u < s.1 → Vis s.2.2 u) ∧ (∀ (a b : Nat) d, Vis s.2.2 a → x.fgraph.step a b = some d → Vis s.2.2 b)) (0, List.replicate N 0, List.replicate N []) (by simp) (by simp [pav]) ⟨Nat.zero_le _, ?_, fun u hu => by simp at hu, fun a b d ha => absurd ha (by unfold Vis; by_cases h : a < N <;> simp [h])⟩ ?_
  · have hnv : ∀ u, ¬ Vis (List.replicate N []) u := fun u => by
      unfold Vis
      by_cases h : u < N <;> simp [h]
    exact ⟨by simp [hN], by simp [hN], fun u hu => absurd hu (hnv u), fun u hu => absurd hu (hnv u), fun u hu => absurd hu (hnv u), fun u hu => by have := cntE_le (List.replicate N []); simp at this hu; simp [hu, hN]; exact this, fun u _ => by by_cases h : u < N <;> simp [h]⟩
  rintro ⟨v, ph, ps⟩ ⟨hi, hBI, hlow, hcl⟩ ih
  simp only at hi hBI hlow hcl ih ⊢
  have b1 := hBI.l1
  have b2 := hBI.l2
  rw [hN] at b1 b2
  by_cases hlt : v < N
  · have hlt' : (v : Int) < x.n := by omega
    have go1 := fun ph ps c1 c2 c3 => ih (v + 1, ph, ps) ⟨by simp; omega, c1, c2, c3⟩ (by simp; omega)
    clear ih
    have hb2 : v < ps.length := by omega
    by_cases hV : Vis ps v
    · obtain ⟨c, l, hcl2⟩ : ∃ c l, ps[v] = c :: l := by
        have : ps[v] ≠ [] := by simpa [Vis, hb2] using hV
        cases hp : ps[v] with
        | nil => exact absurd hp this
        | cons c l => exact ⟨c, l, rfl⟩
      have hpv : pav ps[v] = .snap 1 (.int .i64 c :: l.map iv) := by rw [hcl2]; rfl
      refine Run2.of I 1000 ?_
      simp -implicitDefEqProofs [hlt, hlt', hne, hb2, hpv]
      refine ⟨by omega, ?_⟩
      have := go1 ph ps hBI (fun u hu => by
        rcases Nat.lt_or_ge u v with h1 | h1
        · exact hlow u h1
        · obtain rfl : u = v := by omega
          exact hV) hcl
      simpa using this
    · have hpv : pav ps[v] = .nilsl := by
        have : ps[v] = [] := by simpa [Vis, hb2] using hV
        rw [this]; rfl
      refine Run2.of I 1000 ?_
      simp -implicitDefEqProofs [hlt, hlt', hne, Ne.symm hne, hb2, hpv]
      intro idq f1 f2 f3
      refine gK.go ?_
      simp -implicitDefEqProofs
      refine Run2.wk (e' := [(1, .ip [.int .i64 x.n, .int .i64 x.m, .snap 3 (x.ts.map T.av)]), (5, .ip [.int .i64 x.fgraph.n, .int .i64 x.fgraph.m, .snap 3 (x.fgraph.ts.map T.av)]), (6, .sl idf 1 0 N (some N)), (7, .sl idp 1 0 N (some N)), (9, .sl idq 1 0 1 none), (10, .int .i64 0), (27, .int .i64 x.n), (28, .int .i64 (v : Nat))]) (fun t => ?_) ?_
      · simp only [eget]
        repeat' split
        all_goals first | exact Wk.refl _ | exact Wk.cap _ _ _ _ _
      have hroot := Ph.root_of hv (Vis ps) hcl (by omega) hlow hV
      have hpot := Ph.pots_root hv (v := v) (by omega) hroot
      have hl : [(v : Int)] ≠ [] := by simp
      have hcle := cntE_le ps
      have hcs := cntE_set hb2 hV hl
      have hvs := vis_set hb2 hl
      have hBI' := hBI.put (b := v) (p := x.pots.getD v 0) (l := [(v : Int)]) (by omega) hV hl rfl (hQ0 v (by omega) hroot) (fun c hc => by rw [List.mem_singleton] at hc; subst hc; exact ⟨by omega, .inr (by simp)⟩) (by simp; omega)
      have hph : ph.set v (x.pots.getD v 0) = ph := by
        have hz := hBI.z v hV
        have hv1 : v < ph.length := by omega
        rw [hpot]
        apply List.ext_getElem?
        intro j
        by_cases hj : v = j
        · subst hj; simp [hv1] at hz ⊢; exact hz.symm
        · simp [List.getElem?_set, hj]
      rw [hph] at hBI'
      have hps : (ps.map pav).set v (.snap 1 [.int .i64 (v : Int)]) = (ps.set v [(v : Int)]).map pav := by rw [List.map_set]; rfl
      rw [hps]
      refine bfs_mid (gq0 := [(idq, ⟨1, [.int .i64 (v : Int)]⟩)]) (Q0 := [(v : Int)]) I hv hQ1 hNx hne hBI' ⟨fun c hc => ?_, fun u hu => ?_, by simp; omega⟩ (fun a ha => ?_) (.sl idq _ 1 rfl) (by simp [dom]; exact Ne.symm f1) (by simp [dom]; exact Ne.symm f2) (fun j hj => by simp [dom] at hj; subst hj; exact f3) fun ph ps Q wq gq k c1 c2 c3 c4 c5 c6 c7 => ?_
      · rw [List.mem_singleton] at hc; subst hc; exact ⟨by omega, (hvs _).2 (.inr (by simp))⟩
      · rcases Nat.lt_or_ge u v with h1 | h1
        · exact (hvs u).2 (.inl (hlow u h1))
        · exact (hvs u).2 (.inr (by omega))
      · rcases (hvs a).1 ha with h1 | h1
        · exact .inr fun b d hd => (hvs b).2 (.inl (hcl a b d h1 hd))
        · subst h1; exact .inl ⟨0, Nat.le_refl _, rfl⟩
      simp -implicitDefEqProofs
      refine ⟨by omega, Run2.sub (h' := (idp, ⟨1, ps.map pav⟩) :: (idf, ⟨1, ph.map iv⟩) :: h') (fun p hp => List.mem_append_right _ hp) (fun nd => by rw [dom_app] at nd; exact (List.nodup_append.1 nd).2.1) ?_⟩
      have := go1 ph ps c1 (fun u hu => c2.low u hu) (c3.all (Nat.le_refl _))
      simpa using this
  · obtain rfl : v = N := by omega
    have hlt' : ¬ (v : Int) < x.n := by omega
    refine Run2.of I 1000 ?_
    simp -implicitDefEqProofs [hlt']
    have hall : ∀ u, u < v → Vis ps u := hlow
    have hph : ph = x.pots := by
      have pl := Ph.pots_len hv
      apply List.ext_getElem?
      intro j
      by_cases hj : j < v
      · have := hBI.eq j (hall j hj)
        have h1 : j < ph.length := by omega
        have h2 : j < x.pots.length := by omega
        simpa [h1, h2] using this
      · rw [List.getElem?_eq_none (by omega), List.getElem?_eq_none (by omega)]
    have hpm : ps.map pav = ps.map fun p => AV.snap 1 (p.map iv) := by
      apply List.map_congr_left
      intro p hp
      obtain ⟨j, hj, rfl⟩ := List.mem_iff_getElem.1 hp
      have := hall j (by omega)
      have h1 : ps[j] ≠ [] := by simpa [Vis, hj] using this
      simp [pav, h1]
    have lf := leaf idf ps hf b2 fun u hu => ⟨hall u hu, hBI.pq u (hall u hu)⟩
    subst hph
    rw [hpm]
    refine .freeze idp (by simp [hget]; rfl) (.base ?_)
    simp [hdel, hne, Ne.symm hne, b2]
    rw [List.take_of_length_le (by simp [b2])]
    exact lf
end Go.AG
