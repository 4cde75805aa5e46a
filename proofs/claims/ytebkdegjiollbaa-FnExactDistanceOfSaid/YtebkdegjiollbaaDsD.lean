/- The distance of bars, as the program finds it. No statement is made here. -/
import Derived.Test.YtebkdegjiollbaaDsC
import Derived.Test.YtebkdegjiollbaaAGLists2
namespace Go.AG
open Go.Proofs Go.Proofs.Ytebkdegjiollbaa
set_option linter.unusedSimpArgs false
set_option linter.unusedVariables false
set_option maxRecDepth 4000
/-- The bars of a degree that die, or that do not. -/
def fnB (l : List T) (d : Int) : List T := l.filter fun x => decide (x.f = d) && !decide (x.s = -1)
def fvB (l : List T) (d : Int) : List T := l.filter fun x => decide (x.f = d) && decide (x.s = -1)
/-- The first number from one on that is good. -/
def lst (p : Int → Bool) : Nat → Int → Int
  | 0, m => m
  | n + 1, m => if p m = true then m else lst p n (m + 1)
theorem lst_eq {p : Int → Bool} {r : Int} (hr : p r = true) : ∀ (n : Nat) (m : Int), m ≤ r → r ≤ m + n → (∀ k, m ≤ k → k < r → p k = false) → lst p n m = r
  | 0, m, h1, h2, h3 => by simp only [lst]; omega
  | n + 1, m, h1, h2, h3 => by
    rw [lst]
    by_cases h : m = r
    · subst h; rw [if_pos hr]
    · rw [if_neg (by rw [h3 m (Int.le_refl _) (by omega)]; simp)]
      exact lst_eq hr n (m + 1) (by omega) (by omega) fun k a b => h3 k (by omega) b
def lowB (x y : List T) : Nat → Int
  | 0 => 0
  | n + 1 => max (lowB x y n) (2 * absI ((x.getD n T0).t - (y.getD n T0).t))
def canP (u v : List T) (m : Int) : Bool := canM u v m && canM v u m
noncomputable def dsC (a b : List T) (d : Int) : Int := if validB a ∧ validB b then if 0 ≤ d ∧ d ≤ 3 then if (fvB a d).length = (fvB b d).length then 0 else 3 else 2 else 1
noncomputable def dsN (a b : List T) (d : Int) : Int := if dsC a b d = 0 then lst (canP (fnB a d) (fnB b d)) 4000 (lowB (fvB a d) (fvB b d) (fvB a d).length) else 0
theorem T.el_in {x : T} (h : x.el) : 0 ≤ x.t ∧ x.t ≤ 1000 ∧ -1 ≤ x.s ∧ x.s ≤ 1000 := by
  unfold T.el at h; omega
theorem fnB_ok {l : List T} (h : validB l) (d : Int) : finU (fnB l d) := by
  refine ⟨Nat.le_trans (List.length_filter_le ..) h.2, fun x hx => ?_⟩
  obtain ⟨h1, h2⟩ := List.mem_filter.1 hx
  have := T.el_in (h.el h1)
  have h3 : ¬ x.s = -1 := by
    simp only [Bool.and_eq_true, Bool.not_eq_true', decide_eq_false_iff_not] at h2
    exact h2.2
  omega
theorem fvB_ok {l : List T} (h : validB l) (d : Int) : (fvB l d).length ≤ 24 ∧ ∀ x ∈ fvB l d, 0 ≤ x.t ∧ x.t ≤ 1000 := by
  refine ⟨Nat.le_trans (List.length_filter_le ..) h.2, fun x hx => ?_⟩
  have := T.el_in (h.el (List.mem_filter.1 hx).1)
  omega
theorem lowB_in {x y : List T} (hx : ∀ a ∈ x, 0 ≤ a.t ∧ a.t ≤ 1000) (hy : ∀ a ∈ y, 0 ≤ a.t ∧ a.t ≤ 1000) : ∀ n, 0 ≤ lowB x y n ∧ lowB x y n ≤ 2000
  | 0 => by simp [lowB]
  | n + 1 => by
    have ih := lowB_in hx hy n
    have g : ∀ l : List T, (∀ a ∈ l, 0 ≤ a.t ∧ a.t ≤ 1000) → 0 ≤ (l.getD n T0).t ∧ (l.getD n T0).t ≤ 1000 := fun l hl => by
      by_cases h : n < l.length
      · rw [show l.getD n T0 = l[n] by simp [h]]
        exact hl _ (List.getElem_mem h)
      · rw [show l.getD n T0 = T0 by simp [h]]
        simp [T0]
    have h1 := g x hx
    have h2 := g y hy
    have := absI_le (n := (x.getD n T0).t - (y.getD n T0).t) (a := 1000) (by omega) (by omega)
    unfold lowB
    omega
theorem canM_big {u v : List T} (hu : finU u) {m : Int} (hm : 1000 ≤ m) : canM u v m = true := by
  have : (List.range u.length).filter (lg u m) = [] := by
    rw [List.filter_eq_nil_iff]
    intro i hi
    have hi := List.mem_range.1 hi
    have hb := hu.2 _ (List.getElem_mem hi)
    unfold lg
    rw [show u.getD i T0 = u[i] by simp [hi]]
    simp only [decide_eq_true_eq]
    omega
  unfold canM
  rw [this, kAll]
theorem canP_big {u v : List T} (hu : finU u) (hv : finU v) {m : Int} (hm : 1000 ≤ m) : canP u v m = true := by
  unfold canP; rw [canM_big hu hm, canM_big hv hm]; rfl
theorem ofDegree_f (l : List T) (d : Int) (g : Nat) (h : Heap) (hl : l.length ≤ 1048576) (hg : g = 74 ∨ g = 76) : ACalls Try.prog 73 [.snap 3 (l.map T.av), .int .i64 d, .fn g []] h (fun v h' => v = .snap 3 ((if g = 74 then fvB l d else fnB l d).map T.av) ∧ h' = h) := by
  rcases hg with rfl | rfl
  · refine ACalls.post ((ofDegree_w l d h hl isForever_t).mono ?_)
    rintro v h' ⟨g, o, _, rfl⟩
    refine Post.lend ?_
    exact .wk o.lent.wk (.base ⟨by rw [if_pos rfl]; rfl, rfl⟩)
  · refine ACalls.post ((ofDegree_w l d h hl isFinite_t).mono ?_)
    rintro v h' ⟨g, o, _, rfl⟩
    refine Post.lend ?_
    exact .wk o.lent.wk (.base ⟨by rw [if_neg (by decide)]; rfl, rfl⟩)
noncomputable def o_ofDeg : List AV → Option (Prop × AV) := tab (fun (x : List T × Int × Nat) => match x with | (l, d, g) => [.snap 3 (l.map T.av), .int .i64 d, .fn g []]) (fun x => match x with | (l, d, g) => (l.length ≤ 1048576 ∧ (g = 74 ∨ g = 76))) (fun x => match x with | (l, d, g) => .snap 3 ((if g = 74 then fvB l d else fnB l d).map T.av))
@[simp] theorem o_ofDeg_e (l : List T) (d : Int) (g : Nat) : o_ofDeg [.snap 3 (l.map T.av), .int .i64 d, .fn g []] = some ((l.length ≤ 1048576 ∧ (g = 74 ∨ g = 76)), .snap 3 ((if g = 74 then fvB l d else fnB l d).map T.av)) := tab_at (enc := fun (x : List T × Int × Nat) => match x with | (l, d, g) => [.snap 3 (l.map T.av), .int .i64 d, .fn g []]) (fun x y h => by
  obtain ⟨l1, d1, g1⟩ := x; obtain ⟨l2, d2, g2⟩ := y; simp at h; simp [h] <;> omega) _ _ (l, d, g)
theorem o_ofDeg_k : Knows Try.prog 73 o_ofDeg := tab_knows fun x hx h => by
  obtain ⟨l, d, g⟩ := x; exact ofDegree_f l d g h hx.1 hx.2
noncomputable instance (u : List T) : Decidable (finU u) := Classical.propDecidable _
noncomputable def o_canM : List AV → Option (Prop × AV) := tab (fun (x : List T × List T × Int) => match x with | (u, v, m) => [.snap 3 (u.map T.av), .snap 3 (v.map T.av), .int .i64 m]) (fun x => match x with | (u, v, m) => ((finU u ∧ finU v) ∧ 0 ≤ m ∧ m ≤ 10000)) (fun x => match x with | (u, v, m) => .bool (canM u v m))
@[simp] theorem o_canM_e (u : List T) (v : List T) (m : Int) : o_canM [.snap 3 (u.map T.av), .snap 3 (v.map T.av), .int .i64 m] = some (((finU u ∧ finU v) ∧ 0 ≤ m ∧ m ≤ 10000), .bool (canM u v m)) := tab_at (enc := fun (x : List T × List T × Int) => match x with | (u, v, m) => [.snap 3 (u.map T.av), .snap 3 (v.map T.av), .int .i64 m]) (fun x y h => by
  obtain ⟨u1, v1, m1⟩ := x; obtain ⟨u2, v2, m2⟩ := y; simp at h; simp [h] <;> omega) _ _ (u, v, m)
theorem o_canM_k : Knows Try.prog 77 o_canM := tab_knows fun x hx h => by
  obtain ⟨u, v, m⟩ := x; exact canMatch_s u v hx.1.1 hx.1.2 m hx.2 h
noncomputable def orcDs2 : List (Nat × (List AV → Option (Prop × AV))) := (71, o_valid) :: (72, o_isDimension) :: (73, o_ofDeg) :: (75, o_abs) :: (77, o_canM) :: []
theorem orcDs2_p : Pure Try.prog (lk orcDs2) := (lk_pure o_valid_k (lk_pure o_isDimension_k (lk_pure o_ofDeg_k (lk_pure o_abs_k (lk_pure o_canM_k lk_pure0)))))
@[simp] theorem orcDs2_l (b : Bool) (g : FuncId) (l : List AV) : lk orcDs2 b g l = if g = 71 then o_valid l else if g = 72 then o_isDimension l else if g = 73 then o_ofDeg l else if g = 75 then o_abs l else if g = 77 then o_canM l else none := nr rfl
abbrev k34_o0 : List AJ := [.o ⟨(some 6), none, false, .mv (.c (.int .i64 0)), none⟩, .o ⟨(some 7), none, false, .mv (.c (.int .i64 0)), (some [0, 1, 2])⟩]
abbrev k34_o1 : List AJ := [.o ⟨(some 15), none, false, .mv (.t 0), none⟩, .o ⟨(some 16), none, false, .call 71 [(.t 15)], none⟩, .o ⟨(some 17), none, false, .un .not (.t 16), none⟩, .o ⟨(some 18), none, false, .mv (.t 17), none⟩, .o ⟨(some 19), (some (18, false)), false, .mv (.t 1), none⟩, .o ⟨(some 20), (some (18, false)), false, .call 71 [(.t 19)], none⟩, .o ⟨(some 21), (some (18, false)), false, .un .not (.t 20), none⟩, .o ⟨(some 22), none, false, .pick (.t 18) (.c (.bool true)) (.t 21), none⟩, .o ⟨(some 14), none, false, .mv (.t 22), (some [0, 1, 2, 14])⟩]
abbrev k34_o2 : List AJ := [.o ⟨(some 6), none, false, .mv (.c (.int .i64 0)), none⟩, .o ⟨(some 7), none, false, .mv (.c (.int .i64 1)), (some [6, 7])⟩]
def k34_3 : ACode := .seq (.region k34_o2) .ret
abbrev k34_o3 : List AJ := [.o ⟨(some 24), none, false, .mv (.t 2), none⟩, .o ⟨(some 25), none, false, .call 72 [(.t 24)], none⟩, .o ⟨(some 26), none, false, .un .not (.t 25), none⟩, .o ⟨(some 23), none, false, .mv (.t 26), (some [0, 1, 2, 23])⟩]
abbrev k34_o4 : List AJ := [.o ⟨(some 6), none, false, .mv (.c (.int .i64 0)), none⟩, .o ⟨(some 7), none, false, .mv (.c (.int .i64 2)), (some [6, 7])⟩]
def k34_6 : ACode := .seq (.region k34_o4) .ret
def k34_7 : ACode := .cond (.t 23) k34_6 .skip
def k34_8 : ACode := .seq (.region k34_o3) k34_7
def k34_9 : ACode := .cond (.t 14) k34_3 k34_8
def k34_10 : ACode := .seq (.region k34_o1) k34_9
abbrev k34_o5 : List AJ := [.o ⟨(some 27), none, false, .mv (.t 0), none⟩, .o ⟨(some 28), none, false, .mv (.t 2), none⟩, .o ⟨(some 29), none, false, .call 73 [(.t 27), (.t 28), (.c (.fn 74 []))], none⟩, .o ⟨(some 30), none, false, .mv (.t 1), none⟩, .o ⟨(some 31), none, false, .mv (.t 2), none⟩, .o ⟨(some 32), none, false, .call 73 [(.t 30), (.t 31), (.c (.fn 74 []))], none⟩, .o ⟨(some 8), none, false, .mv (.t 29), none⟩, .o ⟨(some 9), none, false, .mv (.t 32), (some [0, 1, 2, 8, 9])⟩]
abbrev k34_o6 : List AJ := [.o ⟨(some 33), none, false, .mv (.t 8), none⟩, .o ⟨(some 34), none, false, .len (.t 33), none⟩, .o ⟨(some 35), none, false, .mv (.t 9), none⟩, .o ⟨(some 36), none, false, .len (.t 35), none⟩, .o ⟨(some 37), none, false, .bin .neq (.t 34) (.t 36), (some [0, 1, 2, 8, 9, 37])⟩]
abbrev k34_o7 : List AJ := [.o ⟨(some 6), none, false, .mv (.c (.int .i64 0)), none⟩, .o ⟨(some 7), none, false, .mv (.c (.int .i64 3)), (some [6, 7])⟩]
def k34_15 : ACode := .seq (.region k34_o7) .ret
def k34_16 : ACode := .cond (.t 37) k34_15 .skip
def k34_17 : ACode := .seq (.region k34_o6) k34_16
abbrev k34_o8 : List AJ := [.o ⟨(some 10), none, false, .mv (.c (.int .i64 0)), (some [0, 1, 2, 8, 9, 10])⟩]
abbrev k34_o9 : List AJ := [.o ⟨(some 38), none, false, .mv (.t 8), none⟩, .o ⟨(some 39), none, false, .len (.t 38), none⟩, .o ⟨(some 40), none, false, .mv (.c (.int .i64 0)), (some [0, 1, 2, 8, 9, 10, 39, 40])⟩]
abbrev k34_o10 : List AJ := [.o ⟨(some 41), none, false, .bin .lss (.t 40) (.t 39), (some [0, 1, 2, 8, 9, 10, 39, 40, 41])⟩]
abbrev k34_o11 : List AJ := [.o ⟨(some 42), none, false, .mv (.t 40), none⟩, .o ⟨(some 11), none, false, .mv (.t 42), (some [0, 1, 2, 8, 9, 10, 11, 39, 40])⟩]
abbrev k34_o12 : List AI := [⟨(some 43), none, false, .mv (.t 10), none⟩, ⟨(some 44), none, false, .mv (.t 8), none⟩, ⟨(some 45), none, false, .mv (.t 11), none⟩, ⟨(some 46), none, false, .idxA 3 (.t 44) (.t 45), none⟩, ⟨(some 47), none, false, .fieldA 1 (.t 46), none⟩, ⟨(some 48), none, false, .load 1 false (.t 47), none⟩, ⟨(some 49), none, false, .mv (.t 9), none⟩, ⟨(some 50), none, false, .mv (.t 11), none⟩, ⟨(some 51), none, false, .idxA 3 (.t 49) (.t 50), none⟩, ⟨(some 52), none, false, .fieldA 1 (.t 51), none⟩, ⟨(some 53), none, false, .load 1 false (.t 52), none⟩, ⟨(some 54), none, true, .bin .sub (.t 48) (.t 53), none⟩, ⟨(some 55), none, false, .call 75 [(.t 54)], none⟩, ⟨(some 56), none, true, .bin .mul (.c (.int .i64 2)) (.t 55), (some [0, 1, 2, 8, 9, 39, 40, 43, 56])⟩, ⟨(some 57), none, false, .mx true [(.t 43), (.t 56)], none⟩, ⟨(some 10), none, false, .mv (.t 57), (some [0, 1, 2, 8, 9, 10, 39, 40])⟩]
def k34_23 : ACode := .draw k34_o12 [] rfl
def k34_24 : ACode := .seq (.region k34_o11) k34_23
abbrev k34_o13 : List AJ := [.o ⟨(some 58), none, true, .bin .add (.t 40) (.c (.int .i64 1)), none⟩, .o ⟨(some 40), none, false, .mv (.t 58), (some [0, 1, 2, 8, 9, 10, 39, 40])⟩]
def k34_26 : ACode := .region k34_o13
def k34_27 : ACode := .seq (.block 2 k34_24) k34_26
def k34_28 : ACode := .seq (.cond (.t 41) .skip (.exit 1)) k34_27
def k34_29 : ACode := .seq (.region k34_o10) k34_28
def k34_30 : ACode := .loop k34_29
def k34_31 : ACode := .block 1 k34_30
def k34_32 : ACode := .seq (.region k34_o9) k34_31
abbrev k34_o14 : List AJ := [.o ⟨(some 59), none, false, .mv (.t 0), none⟩, .o ⟨(some 60), none, false, .mv (.t 2), none⟩, .o ⟨(some 61), none, false, .call 73 [(.t 59), (.t 60), (.c (.fn 76 []))], none⟩, .o ⟨(some 62), none, false, .mv (.t 1), none⟩, .o ⟨(some 63), none, false, .mv (.t 2), none⟩, .o ⟨(some 64), none, false, .call 73 [(.t 62), (.t 63), (.c (.fn 76 []))], none⟩, .o ⟨(some 12), none, false, .mv (.t 61), none⟩, .o ⟨(some 13), none, false, .mv (.t 64), (some [10, 12, 13])⟩]
abbrev k34_o15 : List AJ := [.o ⟨(some 65), none, false, .mv (.t 12), none⟩, .o ⟨(some 66), none, false, .mv (.t 13), none⟩, .o ⟨(some 67), none, false, .mv (.t 10), none⟩, .o ⟨(some 68), none, false, .call 77 [(.t 65), (.t 66), (.t 67)], none⟩, .o ⟨(some 69), none, false, .un .not (.t 68), none⟩, .o ⟨(some 70), none, false, .mv (.t 69), none⟩, .o ⟨(some 71), (some (70, false)), false, .mv (.t 13), none⟩, .o ⟨(some 72), (some (70, false)), false, .mv (.t 12), none⟩, .o ⟨(some 73), (some (70, false)), false, .mv (.t 10), none⟩, .o ⟨(some 74), (some (70, false)), false, .call 77 [(.t 71), (.t 72), (.t 73)], (some [10, 12, 13, 70, 74])⟩, .o ⟨(some 75), (some (70, false)), false, .un .not (.t 74), none⟩, .o ⟨(some 76), none, false, .pick (.t 70) (.c (.bool true)) (.t 75), (some [10, 12, 13, 76])⟩]
def k34_35 : ACode := .cond (.t 76) .skip (.exit 3)
def k34_36 : ACode := .seq (.region k34_o15) k34_35
abbrev k34_o16 : List AJ := [.o ⟨(some 77), none, false, .mv (.t 10), none⟩, .o ⟨(some 78), none, true, .bin .add (.t 77) (.c (.int .i64 1)), none⟩, .o ⟨(some 10), none, false, .mv (.t 78), (some [10, 12, 13])⟩]
def k34_37 : ACode := .region k34_o16
def k34_38 : ACode := .block 4 k34_37
def k34_39 : ACode := .seq k34_36 k34_38
def k34_40 : ACode := .loop k34_39
abbrev k34_o17 : List AJ := [.o ⟨(some 79), none, false, .mv (.t 10), none⟩, .o ⟨(some 6), none, false, .mv (.t 79), none⟩, .o ⟨(some 7), none, false, .mv (.c (.int .i64 0)), (some [6, 7])⟩]
def k34_43 : ACode := .seq (.region k34_o17) .ret
def k34_44 : ACode := .seq (.block 3 k34_40) k34_43
def k34_45 : ACode := .seq (.region k34_o14) k34_44
def k34_46 : ACode := .seq k34_32 k34_45
def k34_47 : ACode := .seq (.region k34_o8) k34_46
def k34_48 : ACode := .seq k34_17 k34_47
def k34_49 : ACode := .seq (.region k34_o5) k34_48
def k34_50 : ACode := .seq (.block 0 k34_10) k34_49
def k34_51 : ACode := .seq (.region k34_o0) k34_50
@[simp, simp ↓] theorem k34_3r : sR k34_3 k34_o2 .ret := yR rfl
@[simp, simp ↓] theorem k34_6r : sR k34_6 k34_o4 .ret := yR rfl
@[simp, simp ↓] theorem k34_7r : rC k34_7 (.t 23) k34_6 .skip := zC rfl
@[simp, simp ↓] theorem k34_8r : sR k34_8 k34_o3 k34_7 := yR rfl
@[simp, simp ↓] theorem k34_9r : rC k34_9 (.t 14) k34_3 k34_8 := zC rfl
@[simp, simp ↓] theorem k34_10r : sR k34_10 k34_o1 k34_9 := yR rfl
@[simp, simp ↓] theorem k34_15r : sR k34_15 k34_o7 .ret := yR rfl
@[simp, simp ↓] theorem k34_16r : rC k34_16 (.t 37) k34_15 .skip := zC rfl
@[simp, simp ↓] theorem k34_17r : sR k34_17 k34_o6 k34_16 := yR rfl
@[simp, simp ↓] theorem k34_23r : rD k34_23 k34_o12 [] := zD rfl
@[simp, simp ↓] theorem k34_24r : sR k34_24 k34_o11 k34_23 := yR rfl
@[simp, simp ↓] theorem k34_26r : rR k34_26 k34_o13 := zR rfl
@[simp, simp ↓] theorem k34_27r : sB k34_27 2 k34_24 k34_26 := yB rfl
@[simp, simp ↓] theorem k34_28r : sC k34_28 (.t 41) .skip (.exit 1) k34_27 := yC rfl
@[simp, simp ↓] theorem k34_29r : sR k34_29 k34_o10 k34_28 := yR rfl
@[simp, simp ↓] theorem k34_30r : rL k34_30 k34_29 := zL rfl
@[simp, simp ↓] theorem k34_31r : rB k34_31 1 k34_30 := zB rfl
@[simp, simp ↓] theorem k34_32r : sR k34_32 k34_o9 k34_31 := yR rfl
@[simp, simp ↓] theorem k34_35r : rC k34_35 (.t 76) .skip (.exit 3) := zC rfl
@[simp, simp ↓] theorem k34_36r : sR k34_36 k34_o15 k34_35 := yR rfl
@[simp, simp ↓] theorem k34_37r : rR k34_37 k34_o16 := zR rfl
@[simp, simp ↓] theorem k34_38r : rB k34_38 4 k34_37 := zB rfl
@[simp, simp ↓] theorem k34_39r : rS k34_39 k34_36 k34_38 := zS rfl
@[simp, simp ↓] theorem k34_40r : rL k34_40 k34_39 := zL rfl
@[simp, simp ↓] theorem k34_43r : sR k34_43 k34_o17 .ret := yR rfl
@[simp, simp ↓] theorem k34_44r : sB k34_44 3 k34_40 k34_43 := yB rfl
@[simp, simp ↓] theorem k34_45r : sR k34_45 k34_o14 k34_44 := yR rfl
@[simp, simp ↓] theorem k34_46r : rS k34_46 k34_32 k34_45 := zS rfl
@[simp, simp ↓] theorem k34_47r : sR k34_47 k34_o8 k34_46 := yR rfl
@[simp, simp ↓] theorem k34_48r : rS k34_48 k34_17 k34_47 := zS rfl
@[simp, simp ↓] theorem k34_49r : sR k34_49 k34_o5 k34_48 := yR rfl
@[simp, simp ↓] theorem k34_50r : sB k34_50 0 k34_10 k34_49 := yB rfl
@[simp, simp ↓] theorem k34_51r : sR k34_51 k34_o0 k34_50 := yR rfl
noncomputable abbrev k34_C : Orc → Cx := mkC Try.prog [] 34 80 [.tmp 6, .tmp 7]
theorem k34_of0 : OfP0 Try.prog Try.f34 34 80 k34_C k34_51 := @ofP0 _ _ _ _ _ _ _ _ Try.func34 (by decide +kernel) rfl (by kernel_rfl) rfl (by kernel_rfl)
theorem implDs_s (a b : List T) (d : Int) (h : Heap) (ha : a.length ≤ 1048576) (hb : b.length ≤ 1048576) (oa : okB a) (ob : okB b) : ACalls Try.prog 34 [.snap 3 (a.map T.av), .snap 3 (b.map T.av), .int .i64 d] h (fun v h' => v = .tup [.int .i64 (dsN a b d), .int .i64 (dsC a b d)] ∧ h' = h) := by
  refine k34_of0 rfl orcDs2_p fun I => ?_
  by_cases h1 : validB a ∧ validB b
  · by_cases h2 : 0 ≤ d ∧ d ≤ 3
    · have hx := fvB_ok h1.1 d
      have hy := fvB_ok h1.2 d
      have hu := fnB_ok h1.1 d
      have hv := fnB_ok h1.2 d
      by_cases h3 : (fvB a d).length = (fvB b d).length
      · have hc : dsC a b d = 0 := by unfold dsC; rw [if_pos h1, if_pos h2, if_pos h3]
        have hN : dsN a b d = lst (canP (fnB a d) (fnB b d)) 4000 (lowB (fvB a d) (fvB b d) (fvB a d).length) := by unfold dsN; rw [if_pos hc]
        rw [hc, hN]
        refine Run2.of I 1000 ?_
        simp -implicitDefEqProofs [ha, hb, oa, ob, h1.1, h1.2, h2.1, h2.2, h3]
        generalize fvB a d = x at *
        generalize fvB b d = y at *
        refine Run2.loopE (fun (i : Nat) => [(0, .snap 3 (a.map T.av)), (1, .snap 3 (b.map T.av)), (2, .int .i64 d), (8, .snap 3 (x.map T.av)), (9, .snap 3 (y.map T.av)), (10, .int .i64 (lowB x y i)), (39, .int .i64 y.length), (40, .int .i64 i)]) (fun _ => h) (fun i => y.length - i) (fun i => i ≤ y.length) 0 (by simp [lowB]) rfl (Nat.zero_le _) fun i hi ih => ?_
        have hlw := lowB_in hx.2 hy.2 i
        by_cases hlt : i < y.length
        · have go := ih (i + 1) hlt (by omega)
          clear ih
          have hlx : i < x.length := by omega
          have hb1 := hx.2 _ (List.getElem_mem hlx)
          have hb2 := hy.2 _ (List.getElem_mem hlt)
          have hab := absI_le (n := x[i].t - y[i].t) (a := 1000) (by omega) (by omega)
          rw [lowB, show x.getD i T0 = x[i] by simp [hlx], show y.getD i T0 = y[i] by simp [hlt]] at go
          generalize lowB x y i = L at *
          refine Run2.of I 1000 ?_
          simp -implicitDefEqProofs [hlt, hlx]
          exact ⟨by omega, by omega, by omega, by omega, by simpa using go⟩
        · obtain rfl : i = y.length := by omega
          clear ih
          refine Run2.of I 1000 ?_
          simp -implicitDefEqProofs [hlt]
          refine ⟨ha, hb, ?_⟩
          generalize fnB a d = u at *
          generalize fnB b d = w at *
          generalize lowB x y y.length = L at *
          obtain ⟨D, hD⟩ : ∃ D, D = lst (canP u w) 4000 L := ⟨_, rfl⟩
          rw [← hD]
          refine Run2.loopE (fun (i : Nat) => [(10, .int .i64 (L + i)), (12, .snap 3 (u.map T.av)), (13, .snap 3 (w.map T.av))]) (fun _ => h) (fun i => 3000 - i) (fun i => i ≤ 2000 ∧ D = lst (canP u w) (4000 - i) (L + i)) 0 (by simp) rfl ⟨Nat.zero_le _, by simpa using hD⟩ fun i hi ih => ?_
          obtain ⟨hi1, hi2⟩ := hi
          have hbig := fun h => canP_big (u := u) (v := w) hu hv (m := L + i) h
          obtain ⟨n, hn⟩ : ∃ n, 4000 - i = n + 1 := ⟨3999 - i, by omega⟩
          rw [hn, lst] at hi2
          by_cases hp : canP u w (L + i) = true
          · rw [if_pos hp] at hi2
            have hp1 : canM u w (L + i) = true ∧ canM w u (L + i) = true := by simpa [canP] using hp
            refine Run2.of I 1000 ?_
            simp -implicitDefEqProofs [hu, hv, hp1.1, hp1.2]
            exact ⟨by omega, hi2.symm⟩
          · rw [if_neg hp] at hi2
            have hlt : L + i < 1000 := Classical.byContradiction fun h => hp (hbig (by omega))
            have go := ih (i + 1) ⟨by omega, by rw [hi2]; congr 1 <;> omega⟩ (by omega)
            by_cases hp1 : canM u w (L + i) = true
            · have hp2 : canM w u (L + i) = false := by
                unfold canP at hp
                rw [hp1] at hp
                simpa using hp
              refine Run2.of I 1000 ?_
              simp -implicitDefEqProofs [hu, hv, hp1, hp2]
              rw [show L + ((i + 1 : Nat) : Int) = L + i + 1 by omega] at go
              exact ⟨by omega, by omega, go⟩
            · have hp1 : canM u w (L + i) = false := by simpa using hp1
              refine Run2.of I 1000 ?_
              simp -implicitDefEqProofs [hu, hv, hp1]
              rw [show L + ((i + 1 : Nat) : Int) = L + i + 1 by omega] at go
              exact ⟨by omega, by omega, go⟩
      · have hc : dsC a b d = 3 := by unfold dsC; rw [if_pos h1, if_pos h2, if_neg h3]
        have hN : dsN a b d = 0 := by unfold dsN; rw [hc]; rfl
        rw [hc, hN]
        have h3' : ¬ ((fvB a d).length : Int) = (fvB b d).length := by omega
        refine Run2.of I 1000 ?_
        simp -implicitDefEqProofs [ha, hb, oa, ob, h1.1, h1.2, h2.1, h2.2, h3, h3']
    · have hc : dsC a b d = 2 := by unfold dsC; rw [if_pos h1, if_neg h2]
      have hN : dsN a b d = 0 := by unfold dsN; rw [hc]; rfl
      rw [hc, hN]
      refine Run2.of I 1000 ?_
      simp -implicitDefEqProofs [ha, hb, oa, ob, h1.1, h1.2]
      exact fun q1 q2 => absurd ⟨q1, q2⟩ h2
  · have hc : dsC a b d = 1 := by unfold dsC; rw [if_neg h1]
    have hN : dsN a b d = 0 := by unfold dsN; rw [hc]; rfl
    rw [hc, hN]
    by_cases h4 : validB a
    · have h5 : ¬ validB b := fun h => h1 ⟨h4, h⟩
      refine Run2.of I 1000 ?_
      simp -implicitDefEqProofs [ha, hb, oa, ob, h4, h5]
    · refine Run2.of I 1000 ?_
      simp -implicitDefEqProofs [ha, hb, oa, ob, h4]
end Go.AG
