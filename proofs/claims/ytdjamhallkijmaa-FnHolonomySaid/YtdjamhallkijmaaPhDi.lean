/- LeastDrops: what the program's function gives. No statement is made here. -/
import Derived.Test.YtdjamhallkijmaaPhDr
namespace Go.AG
open Go.Proofs Go.Proofs.Ytdjamhallkijmaa
set_option linter.unusedSimpArgs false
set_option linter.unusedVariables false
set_option maxRecDepth 4000
theorem Wk.ip1' {a b : AV} (h : Wk a b) : Wk (.ip [a]) (.ip [b]) := fun w D v ⟨bl, o, e, h1, h2, ⟨⟨u, q1, q2, q3⟩, q4⟩⟩ => ⟨bl, o, e, h1, h2, ⟨⟨u, q1, q2, h w D u q3⟩, q4⟩⟩
theorem Wk.fn {f : FuncId} {xs ys : List AV} (h : Wks xs ys) : Wk (.fn f xs) (.fn f ys) := fun w D _ ⟨vs, e, h1⟩ => ⟨vs, e, h w D vs h1⟩
theorem lend1_fnip (L : Heap) (f : FuncId) (a : AV) : lend1 L (.fn f [.ip [a]]) = .fn f [.ip [lend1 L a]] := by
  induction L generalizing a with
  | nil => rfl
  | cons p L ih => simp only [lend1, fz, fzs]; exact ih _
abbrev k36_o0 : List AJ := [.o ⟨(some 3), none, false, .mv (.c (.bool false)), (some [0, 1])⟩]
abbrev k36_o1 : List AJ := [.o ⟨(some 4), none, false, .load 1 false (.t 1), none⟩, .o ⟨(some 5), none, false, .mv (.t 0), none⟩, .o ⟨(some 6), none, false, .call 37 [(.t 4), (.t 5)], none⟩, .o ⟨(some 7), none, false, .un .not (.t 6), none⟩, .o ⟨(some 3), none, false, .mv (.t 7), (some [3])⟩]
def k36_2 : ACode := .seq (.region k36_o1) .ret
def k36_3 : ACode := .seq (.region k36_o0) k36_2
@[simp, simp ↓] theorem k36_2r : sR k36_2 k36_o1 .ret := yR rfl
@[simp, simp ↓] theorem k36_3r : sR k36_3 k36_o0 k36_2 := yR rfl
noncomputable abbrev k36_C : Orc → Cx := mkC Try.prog [] 36 8 [.tmp 3]
theorem k36_of0 : OfP0 Try.prog Try.f36 36 8 k36_C k36_3 := @ofP0 _ _ _ _ _ _ _ _ Try.func36 (by decide +kernel) rfl (by kernel_rfl) rfl (by kernel_rfl)
theorem ld1_c (k : Int) (l : List Int) (h : Heap) (hl : l.length ≤ 1048576) : ACalls Try.prog 36 [.int .i64 k, .ip [.snap 1 (l.map iv)]] h (fun v h' => v = .bool (!decide (k ∈ l)) ∧ h' = h) := by
  refine k36_of0 rfl orcB2_p fun I => ?_
  refine Run2.of I 1000 ?_
  simp -implicitDefEqProofs [hl]
theorem left_c (x : Ph) (hv : x.valid) {u : AV} {l : List Int} {gl : Heap} (hg : Grow 1 u (l.map iv) gl) (ida : Nat) (H : Heap) (hs : ∀ p ∈ (ida, (⟨1, [u]⟩ : Blk)) :: gl, p ∈ H) (hl : l.length ≤ 24) :
    ACalls Try.prog 35 [x.av, .fn 36 [.ptr ida 1 0 0]] H (fun v h' => v = (x.less l).av ∧ h' = H) := by
  have hl2 := hv.2.2.2.2.2
  refine ACalls.post ((ACalls.gives ((ida, ⟨1, [u]⟩) :: gl) hs (S := fun v h' => ∃ w, v = .agg [.int .i64 x.n, .int .i64 x.m, w] ∧ Grow 3 w ((x.less l).ts.map T.av) h') ?_ ?_).mono ?_)
  · have e1 : lend1 ((ida, (⟨1, [u]⟩ : Blk)) :: gl) (.fn 36 [.ptr ida 1 0 0]) = .fn 36 [.ip [lend1 gl u]] := by
      have e0 : fz ida ⟨1, [u]⟩ (.fn 36 [.ptr ida 1 0 0]) = .fn 36 [.ip [u]] := by
        simp [fz, fzs, cells_of hg.cell]
      simp only [lend1, e0]
      exact lend1_fnip gl _ u
    rw [lend_cons, lend_cons, lend_nil', lend1_cold _ x.is.cold, e1]
    refine ACalls.wk (.cons (.refl _) (.cons (Wk.fn (.cons (Wk.ip1' hg.own.lent.wk) .nil)) .nil)) ?_
    exact (onlyTurns_w x _ _ (fun k => !decide (k ∈ l)) [] (by omega) fun k h _ => ld1_c k l h (by omega)).mono fun v h' ⟨w, hp, e, hg, e2⟩ => ⟨w, e, by rw [List.append_nil] at e2; subst e2; exact hg⟩
  · rintro v h' ⟨w, e, hw⟩
    exact OwnPh.own (x := x.less l) ⟨w, e, hw.own⟩
  · rintro v h'' ⟨h', ⟨w, rfl, hw⟩, _, rfl⟩
    exact Grow.froze hw (fun u => .agg [.int .i64 x.n, .int .i64 x.m, u]) (fun id b u => by simp [fz]) (fun _ _ h => .agg (.cons (.refl _) (.cons (.refl _) (.cons h .nil)))) (.base ⟨rfl, rfl⟩)
theorem nextChoice_l {u : AV} {l : List Int} {gl : Heap} (hg : Grow 1 u (l.map iv) gl) (E : Int) (H : Heap) (hs : ∀ p ∈ gl, p ∈ H) (hl : l.length ≤ 24) (hE : 0 ≤ E ∧ E ≤ 24) (hr : ∀ c ∈ l, 0 ≤ c ∧ c ≤ 24) :
    ACalls Try.prog 38 [u, .int .i64 E] H (fun v h' => ∃ u hp, v = .tup [u, .bool (nxr E l).isSome] ∧ Grow 1 u (((nxr E l).getD []).map iv) hp ∧ (∀ j ∈ dom hp, j ∉ dom H) ∧ h' = hp ++ H) := by
  refine (ACalls.gives gl hs (S := fun v h' => ∃ u, v = .tup [u, .bool (nxr E l).isSome] ∧ Grow 1 u (((nxr E l).getD []).map iv) h') ?_ ?_).mono ?_
  · rw [lend_cons, lend_cons, lend_nil', lend1_cold gl (x := .int .i64 E) rfl]
    refine ACalls.wk (.cons hg.own.lent.wk (.refl _)) ?_
    exact (nextChoice_w l E [] hl hE hr).mono fun v h' ⟨u, hp, e, hg, _, e2⟩ => ⟨u, e, by rw [List.append_nil] at e2; subst e2; exact hg⟩
  · rintro v h' ⟨w, e, hw⟩
    have := (Grow.own (enc := iv) hw).own own_iv1
    subst e
    exact ⟨by simp [own, owns, this.1], this.2⟩
  · rintro v h'' ⟨h', ⟨w, rfl, hw⟩, hd, rfl⟩
    exact ⟨w, h', rfl, hw, hd, rfl⟩
theorem ACallsPostAll {R : AV → Heap → Prop} {L : Heap} {c : Int} (hk : R (.tup [.nilsl, .int .i64 c]) []) : Post R (.tup [.nilsl, .int .i64 c]) L := by
  have := Post.dropAll (R := R) (L := L) (h := []) (v := .tup [.nilsl, .int .i64 c]) (by simp [cold, colds]) (.base hk)
  simpa using this
noncomputable def orcD : List (Nat × (List AV → Option (Prop × AV))) := (31, o_isBudget) :: (24, o_valid) :: orcF
theorem orcD_p : Pure Try.prog (lk orcD) := (lk_pure o_isBudget_k (lk_pure o_valid_k orcF_p))
@[simp] theorem orcD_l (b : Bool) (g : FuncId) (l : List AV) : lk orcD b g l = if g = 31 then o_isBudget l else if g = 24 then o_valid l else lk orcF b g l := nr rfl
abbrev k9_o0 : List AJ := [.o ⟨(some 2), none, false, .box false 3 (.t 0), none⟩, .o ⟨(some 4), none, false, .mv (.c .nilsl), none⟩, .o ⟨(some 5), none, false, .mv (.c (.int .i64 0)), (some [1, 2])⟩]
abbrev k9_o1 : List AJ := [.o ⟨(some 14), none, false, .load 3 true (.t 2), none⟩, .o ⟨(some 15), none, false, .call 24 [(.t 14)], none⟩, .o ⟨(some 16), none, false, .un .not (.t 15), (some [1, 2, 16])⟩]
abbrev k9_o2 : List AJ := [.o ⟨(some 4), none, false, .mv (.c .nilsl), none⟩, .o ⟨(some 5), none, false, .mv (.c (.int .i64 1)), (some [4, 5])⟩]
def k9_3 : ACode := .seq (.region k9_o2) .ret
def k9_4 : ACode := .cond (.t 16) k9_3 .skip
def k9_5 : ACode := .seq (.region k9_o1) k9_4
abbrev k9_o3 : List AJ := [.o ⟨(some 17), none, false, .mv (.t 1), none⟩, .o ⟨(some 18), none, false, .call 31 [(.t 17)], none⟩, .o ⟨(some 19), none, false, .un .not (.t 18), (some [1, 2, 19])⟩]
abbrev k9_o4 : List AJ := [.o ⟨(some 4), none, false, .mv (.c .nilsl), none⟩, .o ⟨(some 5), none, false, .mv (.c (.int .i64 2)), (some [4, 5])⟩]
def k9_8 : ACode := .seq (.region k9_o4) .ret
def k9_9 : ACode := .cond (.t 19) k9_8 .skip
def k9_10 : ACode := .seq (.region k9_o3) k9_9
abbrev k9_o5 : List AJ := [.o ⟨(some 20), none, false, .mv (.t 1), none⟩, .o ⟨(some 21), none, false, .build [(.int .i64 0), (.bool false)] [(0, 1, (.t 20))], none⟩, .o ⟨(some 6), none, false, .alloc true 2 (.agg [(.int .i64 0), (.bool false)]), none⟩, .o ⟨none, none, false, .store 2 (.t 6) (.t 21), (some [2, 6])⟩]
abbrev k9_o6 : List AJ := [.o ⟨(some 22), none, false, .fieldA 2 (.t 2), none⟩, .o ⟨(some 23), none, false, .load 1 false (.t 22), none⟩, .o ⟨(some 24), none, false, .call 32 [(.t 23)], none⟩, .o ⟨(some 7), none, false, .mv (.t 24), (some [2, 6, 7])⟩]
abbrev k9_o7 : List AJ := [.o ⟨(some 25), none, false, .mv (.t 7), none⟩, .o ⟨(some 26), none, true, .bin .add (.t 25) (.c (.int .i64 1)), none⟩, .o ⟨(some 27), none, false, .mv (.c (.int .i64 0)), (some [2, 6, 7, 26, 27])⟩]
abbrev k9_o8 : List AJ := [.o ⟨(some 28), none, false, .bin .lss (.t 27) (.t 26), (some [2, 6, 7, 26, 27, 28])⟩]
abbrev k9_o9 : List AJ := [.o ⟨(some 29), none, false, .mv (.t 27), none⟩, .o ⟨(some 8), none, false, .mv (.t 29), (some [2, 6, 7, 8, 26, 27])⟩]
abbrev k9_o10 : List AJ := [.o ⟨(some 30), none, false, .mv (.t 8), none⟩, .o ⟨(some 31), none, false, .call 33 [(.t 30)], none⟩, .o ⟨(some 9), none, false, .alloc true 1 .nilsl, none⟩, .o ⟨none, none, false, .store 1 (.t 9) (.t 31), none⟩, .o ⟨(some 10), none, false, .mv (.c (.bool true)), (some [2, 6, 7, 9, 10, 26, 27])⟩]
abbrev k9_o11 : List AJ := [.o ⟨(some 32), none, false, .mv (.t 10), (some [2, 6, 7, 9, 26, 27, 32])⟩]
def k9_19 : ACode := .cond (.t 32) .skip (.exit 2)
def k9_20 : ACode := .seq (.region k9_o11) k9_19
abbrev k9_o12 : List AJ := [.o ⟨(some 33), none, false, .call 34 [(.t 6)], none⟩, .o ⟨(some 34), none, false, .un .not (.t 33), (some [2, 6, 7, 9, 26, 27, 34])⟩]
abbrev k9_o13 : List AJ := [.o ⟨(some 4), none, false, .mv (.c .nilsl), none⟩, .o ⟨(some 5), none, false, .mv (.c (.int .i64 5)), (some [4, 5])⟩]
def k9_23 : ACode := .seq (.region k9_o13) .ret
def k9_24 : ACode := .cond (.t 34) k9_23 .skip
def k9_25 : ACode := .seq (.region k9_o12) k9_24
abbrev k9_o14 : List AJ := [.o ⟨(some 35), none, false, .load 3 true (.t 2), none⟩, .o ⟨(some 36), none, false, .mkfn 36 [(.t 9)], none⟩, .o ⟨(some 37), none, false, .call 35 [(.t 35), (.t 36)], none⟩, .v 11 3 (.agg [(.int .i64 0), (.int .i64 0), .nilsl]) [] (.t 37) (some [2, 6, 7, 9, 11, 26, 27])]
abbrev k9_o15 : List AJ := [.o ⟨(some 39), none, false, .load 3 true (.t 11), none⟩, .o ⟨(some 40), none, false, .call 25 [(.t 39)], none⟩, .o ⟨(some 38), none, false, .mv (.t 40), none⟩, .o ⟨(some 41), none, false, .extract (.t 38) 0, none⟩, .o ⟨(some 42), none, false, .extract (.t 38) 1, none⟩, .o ⟨(some 12), none, false, .mv (.t 41), none⟩, .o ⟨(some 13), none, false, .mv (.t 42), (some [2, 6, 7, 9, 11, 12, 26, 27])⟩]
abbrev k9_o16 : List AJ := [.o ⟨(some 43), none, false, .load 3 true (.t 11), none⟩, .o ⟨(some 44), none, false, .mv (.t 12), none⟩, .o ⟨(some 45), none, false, .call 26 [(.t 43), (.t 44)], none⟩, .o ⟨(some 46), none, false, .len (.t 45), none⟩, .o ⟨(some 47), none, false, .bin .eql (.t 46) (.c (.int .i64 0)), (some [2, 6, 7, 9, 26, 27, 47])⟩]
abbrev k9_o17 : List AJ := [.o ⟨(some 48), none, false, .load 1 false (.t 9), none⟩, .o ⟨(some 4), none, false, .mv (.t 48), none⟩, .o ⟨(some 5), none, false, .mv (.c (.int .i64 0)), (some [4, 5])⟩]
def k9_30 : ACode := .seq (.region k9_o17) .ret
def k9_31 : ACode := .cond (.t 47) k9_30 .skip
def k9_32 : ACode := .seq (.region k9_o16) k9_31
def k9_33 : ACode := .seq (.region k9_o15) k9_32
abbrev k9_o18 : List AJ := [.o ⟨(some 50), none, false, .load 1 false (.t 9), none⟩, .o ⟨(some 51), none, false, .mv (.t 7), none⟩, .o ⟨(some 52), none, false, .call 38 [(.t 50), (.t 51)], none⟩, .o ⟨(some 49), none, false, .mv (.t 52), none⟩, .o ⟨(some 53), none, false, .extract (.t 49) 0, none⟩, .o ⟨(some 54), none, false, .extract (.t 49) 1, none⟩, .o ⟨none, none, false, .store 1 (.t 9) (.t 53), none⟩, .o ⟨(some 10), none, false, .mv (.t 54), (some [2, 6, 7, 9, 10, 26, 27])⟩]
def k9_34 : ACode := .region k9_o18
def k9_35 : ACode := .seq k9_33 k9_34
def k9_36 : ACode := .seq (.region k9_o14) k9_35
def k9_37 : ACode := .seq k9_25 k9_36
def k9_38 : ACode := .block 3 k9_37
def k9_39 : ACode := .seq k9_20 k9_38
def k9_40 : ACode := .loop k9_39
def k9_41 : ACode := .block 2 k9_40
def k9_42 : ACode := .seq (.region k9_o10) k9_41
def k9_43 : ACode := .seq (.region k9_o9) k9_42
abbrev k9_o19 : List AJ := [.o ⟨(some 55), none, true, .bin .add (.t 27) (.c (.int .i64 1)), none⟩, .o ⟨(some 27), none, false, .mv (.t 55), (some [2, 6, 7, 26, 27])⟩]
def k9_45 : ACode := .region k9_o19
def k9_46 : ACode := .seq (.block 1 k9_43) k9_45
def k9_47 : ACode := .seq (.cond (.t 28) .skip (.exit 0)) k9_46
def k9_48 : ACode := .seq (.region k9_o8) k9_47
def k9_49 : ACode := .loop k9_48
def k9_50 : ACode := .block 0 k9_49
def k9_51 : ACode := .seq (.region k9_o7) k9_50
abbrev k9_o20 : List AJ := [.o ⟨(some 4), none, false, .mv (.c .nilsl), none⟩, .o ⟨(some 5), none, false, .mv (.c (.int .i64 3)), (some [4, 5])⟩]
def k9_53 : ACode := .seq (.region k9_o20) .ret
def k9_54 : ACode := .seq k9_51 k9_53
def k9_55 : ACode := .seq (.region k9_o6) k9_54
def k9_56 : ACode := .seq (.region k9_o5) k9_55
def k9_57 : ACode := .seq k9_10 k9_56
def k9_58 : ACode := .seq k9_5 k9_57
def k9_59 : ACode := .seq (.region k9_o0) k9_58
@[simp, simp ↓] theorem k9_3r : sR k9_3 k9_o2 .ret := yR rfl
@[simp, simp ↓] theorem k9_4r : rC k9_4 (.t 16) k9_3 .skip := zC rfl
@[simp, simp ↓] theorem k9_5r : sR k9_5 k9_o1 k9_4 := yR rfl
@[simp, simp ↓] theorem k9_8r : sR k9_8 k9_o4 .ret := yR rfl
@[simp, simp ↓] theorem k9_9r : rC k9_9 (.t 19) k9_8 .skip := zC rfl
@[simp, simp ↓] theorem k9_10r : sR k9_10 k9_o3 k9_9 := yR rfl
@[simp, simp ↓] theorem k9_19r : rC k9_19 (.t 32) .skip (.exit 2) := zC rfl
@[simp, simp ↓] theorem k9_20r : sR k9_20 k9_o11 k9_19 := yR rfl
@[simp, simp ↓] theorem k9_23r : sR k9_23 k9_o13 .ret := yR rfl
@[simp, simp ↓] theorem k9_24r : rC k9_24 (.t 34) k9_23 .skip := zC rfl
@[simp, simp ↓] theorem k9_25r : sR k9_25 k9_o12 k9_24 := yR rfl
@[simp, simp ↓] theorem k9_30r : sR k9_30 k9_o17 .ret := yR rfl
@[simp, simp ↓] theorem k9_31r : rC k9_31 (.t 47) k9_30 .skip := zC rfl
@[simp, simp ↓] theorem k9_32r : sR k9_32 k9_o16 k9_31 := yR rfl
@[simp, simp ↓] theorem k9_33r : sR k9_33 k9_o15 k9_32 := yR rfl
@[simp, simp ↓] theorem k9_34r : rR k9_34 k9_o18 := zR rfl
@[simp, simp ↓] theorem k9_35r : rS k9_35 k9_33 k9_34 := zS rfl
@[simp, simp ↓] theorem k9_36r : sR k9_36 k9_o14 k9_35 := yR rfl
@[simp, simp ↓] theorem k9_37r : rS k9_37 k9_25 k9_36 := zS rfl
@[simp, simp ↓] theorem k9_38r : rB k9_38 3 k9_37 := zB rfl
@[simp, simp ↓] theorem k9_39r : rS k9_39 k9_20 k9_38 := zS rfl
@[simp, simp ↓] theorem k9_40r : rL k9_40 k9_39 := zL rfl
@[simp, simp ↓] theorem k9_41r : rB k9_41 2 k9_40 := zB rfl
@[simp, simp ↓] theorem k9_42r : sR k9_42 k9_o10 k9_41 := yR rfl
@[simp, simp ↓] theorem k9_43r : sR k9_43 k9_o9 k9_42 := yR rfl
@[simp, simp ↓] theorem k9_45r : rR k9_45 k9_o19 := zR rfl
@[simp, simp ↓] theorem k9_46r : sB k9_46 1 k9_43 k9_45 := yB rfl
@[simp, simp ↓] theorem k9_47r : sC k9_47 (.t 28) .skip (.exit 0) k9_46 := yC rfl
@[simp, simp ↓] theorem k9_48r : sR k9_48 k9_o8 k9_47 := yR rfl
@[simp, simp ↓] theorem k9_49r : rL k9_49 k9_48 := zL rfl
@[simp, simp ↓] theorem k9_50r : rB k9_50 0 k9_49 := zB rfl
@[simp, simp ↓] theorem k9_51r : sR k9_51 k9_o7 k9_50 := yR rfl
@[simp, simp ↓] theorem k9_53r : sR k9_53 k9_o20 .ret := yR rfl
@[simp, simp ↓] theorem k9_54r : rS k9_54 k9_51 k9_53 := zS rfl
@[simp, simp ↓] theorem k9_55r : sR k9_55 k9_o6 k9_54 := yR rfl
@[simp, simp ↓] theorem k9_56r : sR k9_56 k9_o5 k9_55 := yR rfl
@[simp, simp ↓] theorem k9_57r : rS k9_57 k9_10 k9_56 := zS rfl
@[simp, simp ↓] theorem k9_58r : rS k9_58 k9_5 k9_57 := zS rfl
@[simp, simp ↓] theorem k9_59r : sR k9_59 k9_o0 k9_58 := yR rfl
noncomputable abbrev k9_C : Orc → Cx := mkC Try.prog [6, 9, 11] 9 56 [.tmp 4, .tmp 5]
theorem k9_of : OfP Try.prog Try.f9 9 56 k9_C k9_59 := @ofP _ _ _ _ _ _ _ _ Try.func9 (by decide +kernel) rfl (by kernel_rfl) rfl (by kernel_rfl)
theorem implDrops_o (x : Ph) (B : Int) (ok : x.ok) (hl : x.ts.length ≤ 1048576) : ACalls Try.prog 9 [x.av, .int .i64 B] [] (fun v h' => ∃ w, v = .tup [w, .int .i64 (x.dcode B)] ∧ OwnL iv 1 w (x.dres B) h') := by
  refine k9_of rfl orcD_p fun I => ?_
  refine Run2.of I 1000 ?_
  simp -implicitDefEqProofs [ok, hl]
  refine ⟨fun hv => .base ?_, fun hv => ⟨fun hb => .base ?_, fun hb1 hb2 idc => ?_⟩⟩
  · simp [Ph.dres, Ph.dcode, hv]
    exact .nil
  · have hb' : ¬ (1 ≤ B ∧ B ≤ 20000) := by omega
    have e1 : x.dres B = [] := if_neg fun h => hb' ⟨h.2.1, h.2.2.1⟩
    have e2 : x.dcode B = 2 := by simp [Ph.dcode, hv, hb']
    rw [e1, e2]
    exact ⟨_, rfl, .nil⟩
  have hE := hv.2.2.2.2.2
  have hds : x.dscan B = scan x.gd B (tot x.ts.length 0) 0 := rfl
  have hres : ∀ (w : List Int) (k : Int), x.dscan B = (some w, k) → (¬ k > B → x.dres B = w ∧ x.dcode B = 0) ∧ (k > B → x.dres B = [] ∧ x.dcode B = 5) := fun w k e => by
    unfold Ph.dres Ph.dcode
    rw [e]
    exact ⟨fun h => ⟨by rw [if_pos ⟨hv, hb1, hb2, h⟩]; rfl, by rw [if_pos hv, if_pos ⟨hb1, hb2⟩, if_neg h]⟩, fun h => ⟨if_neg fun g => g.2.2.2 h, by rw [if_pos hv, if_pos ⟨hb1, hb2⟩, if_pos h]⟩⟩
  obtain ⟨w0, k0, hw0⟩ := scan_tot (B := B) x.gd_all x.ts.length 0 0 rfl (Nat.zero_le _)
  generalize hEE : x.ts.length = E at *
  refine (sizeT_c 0 x.ts _ (by omega)).mono ?_
  rintro v h' ⟨rfl, rfl⟩
  refine gK.go ?_
  simp -implicitDefEqProofs [hEE]
  refine ⟨by omega, ?_⟩
  refine Run2.loopE (α := Nat × Int) (fun s => [(2, .ip [.int .i64 x.n, .int .i64 x.m, .snap 3 (x.ts.map T.av)]), (6, .ptr idc 2 0 0), (7, .int .i64 E), (26, .int .i64 ((E : Int) + 1)), (27, .int .i64 (s.1 : Nat))]) (fun s => [(idc, ⟨2, [.agg [.int .i64 (B - s.2), .bool false]]⟩)]) (fun s => E + 1 - s.1)
    (fun s => s.1 ≤ E + 1 ∧ 0 ≤ s.2 ∧ s.2 ≤ B ∧ x.dscan B = scan x.gd B (tot E s.1) s.2) (0, 0) (by simp) (by simp) ⟨Nat.zero_le _, by simp, by simp; omega, hds⟩ ?_
  rintro ⟨n, k⟩ ⟨hn, hk0, hkB, hd⟩ ih
  simp only at hn hk0 hkB hd ih ⊢
  by_cases hlt : n ≤ E
  · have hlt' : (n : Int) < (E : Int) + 1 := by omega
    rw [tot_step hlt] at hd
    obtain ⟨L, hL⟩ := cb_head E n 0 hlt
    have hLk := cb_lk E n 0
    have hlen := cb_len E n 0
    have hrng := cb_rng E n 0
    simp only [Nat.zero_add] at hLk hrng
    rw [hL] at hd hLk hlen hrng
    have go := fun k' h1 h2 h3 => ih (n + 1, k') ⟨by simp; omega, h1, h2, h3⟩ (by simp; omega)
    clear ih
    refine Run2.of I 1000 ?_
    simp -implicitDefEqProofs [hlt']
    refine (firstChoice_w n _ (by omega)).mono ?_
    rintro u h' ⟨gl, hgl, hdl, rfl⟩
    have hul := hgl.cell
    refine gK.go ?_
    simp -implicitDefEqProofs [hul]
    intro ida a1 a2
    refine gK.go ?_
    simp -implicitDefEqProofs [hul, cells_of hul, stor_of hul]
    have hup : up ((0 : Nat) : Int) n = (List.range n).map Int.ofNat := by unfold up; apply List.map_congr_left; intro i _; simp
    refine Run2.loopE (α := List (List Int) × Int × AV × Heap) (fun s => [(2, .ip [.int .i64 x.n, .int .i64 x.m, .snap 3 (x.ts.map T.av)]), (6, .ptr idc 2 0 0), (7, .int .i64 E), (9, .ptr ida 1 0 0), (10, .bool (!s.1.isEmpty)), (26, .int .i64 ((E : Int) + 1)), (27, .int .i64 (n : Nat))])
      (fun s => (ida, ⟨1, [s.2.2.1]⟩) :: (s.2.2.2 ++ [(idc, ⟨2, [.agg [.int .i64 (B - s.2.1), .bool false]]⟩)])) (fun s => s.1.length)
      (fun s => Lk E s.1 none ∧ (∀ w ∈ s.1, w.length = n) ∧ (∀ w ∈ s.1, ∀ c ∈ w, (0 : Int) ≤ c ∧ c < (E : Int)) ∧ 0 ≤ s.2.1 ∧ s.2.1 ≤ B ∧ x.dscan B = scan x.gd B (s.1 ++ tot E (n + 1)) s.2.1 ∧ Grow 1 s.2.2.1 ((s.1.headD []).map iv) s.2.2.2 ∧ ida ∉ dom s.2.2.2 ∧ idc ∉ dom s.2.2.2) (up (0 : Nat) n :: L, k, u, gl) (by simp) (by simp) ⟨hLk, hlen, hrng, hk0, hkB, hd, by simp only [List.headD_cons, hup]; simpa using hgl, a1, fun h => hdl _ h (by simp [dom])⟩ ?_
    clear hLk hlen hrng hd hgl hdl a1 hul hL
    rintro ⟨M, k, u, gl⟩ ⟨hLk, hlen, hrng, hk0, hkB, hd, hgl, a1, a3⟩ ih
    simp only at hLk hlen hrng hk0 hkB hd hgl a1 a3 ih ⊢
    have hul := hgl.cell
    cases M with
    | nil =>
      have go := go k hk0 hkB hd
      clear ih
      refine Run2.of I 1000 ?_
      simp -implicitDefEqProofs
      refine ⟨by omega, Run2.sub (h' := [(idc, ⟨2, [.agg [.int .i64 (B - k), .bool false]]⟩)]) (by simp) (by simp [dom]) ?_⟩
      simpa using go
    | cons w M =>
      have hwl : w.length = n := hlen w (by simp)
      have hwr := hrng w (by simp)
      have hgl : Grow 1 u (w.map iv) gl := hgl
      rw [List.cons_append] at hd
      clear go
      refine Run2.of I 1000 ?_
      simp -implicitDefEqProofs
      have hnode := node_w idc (B - k) false ((ida, ⟨1, [u]⟩) :: gl) [] (by simp only [dom, List.map_cons, List.mem_cons, not_or]; exact ⟨Ne.symm a2, a3⟩) (by omega)
      refine hnode.mono ?_
      clear hnode
      rintro v h' ⟨rfl, rfl⟩
      by_cases hkk : B - k = 0
      · obtain ⟨_, r2⟩ := hres w (k + 1) (by rw [hd]; simp only [scan]; rw [if_pos (.inl (by omega))])
        obtain ⟨r3, r4⟩ := r2 (by omega)
        refine gK.go ?_
        simp -implicitDefEqProofs [hkk]
        refine ACallsPostAll ?_
        rw [r3, r4]
        exact ⟨_, rfl, .nil⟩
      · have hkk' : ¬ k + 1 > B := by omega
        refine gK.go ?_
        simp -implicitDefEqProofs [hkk]
        refine (left_c x hv hgl ida _ (fun p hp => by simp only [List.mem_append, List.mem_cons] at hp ⊢; rcases hp with rfl | hp <;> simp_all) (by omega)).mono ?_
        rintro v h' ⟨rfl, rfl⟩
        refine gK.go ?_
        simp -implicitDefEqProofs
        have hlv := Ph.less_valid hv w
        refine (forestPhases_w (x.less w) (fun _ _ => True) (fun _ _ _ => trivial) (fun _ _ _ _ _ _ _ _ => trivial) _ hlv).mono ?_
        rintro v h' ⟨idf, ps, hf, hps, _, rfl, rfl⟩
        refine gK.go ?_
        simp -implicitDefEqProofs
        refine (errorsOf_l (x.less w) idf _ hlv).mono ?_
        rintro uw h' ⟨hpw, hgw, hdw, rfl⟩
        have hlw := hgw.len
        simp only [List.length_map] at hlw
        have hfa : ¬ idf = ida := fun e => hf (by simp [dom, e])
        have hfc : ¬ idf = idc := fun e => hf (by simp [dom, e])
        have hfg : idf ∉ dom gl := fun e => hf (by simp [dom] at e ⊢; exact .inr (.inl e))
        have hpa : ida ∉ dom hpw := fun e => hdw ida e (by simp [dom])
        refine gK.go ?_
        simp -implicitDefEqProofs [hlw, hget_app hpa, Ne.symm hfa, hfa]
        by_cases hgd : (x.less w).wrong = []
        · obtain ⟨r1, _⟩ := hres w (k + 1) (by rw [hd]; simp only [scan]; rw [if_pos (.inr (by unfold Ph.gd; rw [hgd]; rfl))])
          obtain ⟨r3, r4⟩ := r1 (by omega)
          simp -implicitDefEqProofs [hgd, hul, cells_of hul]
          refine Grow.dropped hgw (.drop idf ?_)
          rw [show hdel ((idf, (⟨1, (x.less w).pots.map iv⟩ : Blk)) :: (ida, ⟨1, [u]⟩) :: (gl ++ [(idc, ⟨2, [.agg [.int .i64 (B - k - 1), .bool false]]⟩)])) idf = (ida, ⟨1, [u]⟩) :: (gl ++ [(idc, ⟨2, [.agg [.int .i64 (B - k - 1), .bool false]]⟩)]) by simp [hdel]]
          refine .drop ida ?_
          rw [show hdel ((ida, (⟨1, [u]⟩ : Blk)) :: (gl ++ [(idc, ⟨2, [.agg [.int .i64 (B - k - 1), .bool false]]⟩)])) ida = gl ++ [(idc, ⟨2, [.agg [.int .i64 (B - k - 1), .bool false]]⟩)] by simp [hdel]]
          refine .drop idc ?_
          rw [hdel_app a3, show hdel [(idc, (⟨2, [.agg [.int .i64 (B - k - 1), .bool false]]⟩ : Blk))] idc = [] by simp [hdel], List.append_nil]
          refine .base ?_
          rw [r3, r4]
          exact ⟨u, rfl, hgl.own⟩
        · have hgd' : ¬ (k + 1 > B ∨ x.gd w = true) := by
            rintro (h | h)
            · exact hkk' h
            · exact hgd (by unfold Ph.gd at h; exact List.isEmpty_iff.1 h)
          have hd' : x.dscan B = scan x.gd B (M ++ tot E (n + 1)) (k + 1) := by rw [hd]; simp only [scan]; rw [if_neg hgd']
          have hnx : nxr (E : Int) w = M.head? ∧ Lk E M none := by
            cases M with
            | nil => exact ⟨hLk, trivial⟩
            | cons w' M => exact ⟨hLk.1, hLk.2⟩
          simp -implicitDefEqProofs [hgd, hul, cells_of hul]
          refine (nextChoice_l hgl E _ (fun p hp => by simp [hp]) (by omega) (by omega) (fun c hc => by have := hwr c hc; omega)).mono ?_
          rintro v h' ⟨u', gl', rfl, hgl', hdl', rfl⟩
          have hul' := hgl'.cell
          have hal : ida ∉ dom gl' := fun e => hdl' ida e (by simp [dom])
          have hcl : idc ∉ dom gl' := fun e => hdl' idc e (by simp [dom])
          refine gK.go ?_
          simp -implicitDefEqProofs [hul', cells_of hul', stor_of hul', hget_app hal, hset_app hal, hget_app hpa, hset_app hpa, hfa, Ne.symm hfa]
          refine Run2.nd fun nd => ?_
          refine Run2.sub (h' := (ida, ⟨1, [u']⟩) :: (gl' ++ [(idc, ⟨2, [.agg [.int .i64 (B - k - 1), .bool false]]⟩)])) ?_ ?_ ?_
          · intro p hp
            simp only [List.mem_cons, List.mem_append, List.not_mem_nil, or_false] at hp ⊢
            rcases hp with rfl | hp | rfl
            · exact .inr (.inr (.inr (.inl rfl)))
            · exact .inl hp
            · exact .inr (.inr (.inr (.inr (.inr rfl))))
          · intro _
            have h1 : (dom gl').Nodup := by rw [dom_app] at nd; exact (List.nodup_append.1 nd).1
            simp only [dom, List.map_cons, List.map_append, List.map_nil, List.nodup_cons, List.mem_append, List.mem_singleton, not_or]
            refine ⟨⟨hal, a2⟩, List.nodup_append.2 ⟨h1, by simp, fun a ha b hb => by simp at hb; subst hb; rintro rfl; exact hcl ha⟩⟩
          have := ih (M, k + 1, u', gl') ⟨hnx.2, fun w' hw' => hlen w' (List.mem_cons_of_mem _ hw'), fun w' hw' => hrng w' (List.mem_cons_of_mem _ hw'), by simp only; omega, by simp only; omega, hd', by rw [hnx.1] at hgl'; cases M <;> exact hgl', hal, hcl⟩ (by simp)
          rw [hnx.1, show B - k - 1 = B - (k + 1) by omega]
          cases M <;> simpa using this
  · obtain rfl : n = E + 1 := by omega
    rw [tot_end] at hd
    rw [hd] at hds
    simp only [scan] at hds
    rw [hw0] at hds
    cases hds
end Go.AG