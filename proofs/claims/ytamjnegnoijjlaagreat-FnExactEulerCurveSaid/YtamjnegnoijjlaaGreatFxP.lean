/- All different times of a filtration: the program and the reference. No statement is made here. -/
import Derived.Test.YtamjnegnoijjlaaGreatFxO
namespace Go.AG
open Go.Proofs Go.Proofs.YtamjnegnoijjlaaGreat
set_option linter.unusedSimpArgs false
set_option linter.unusedVariables false
set_option maxRecDepth 4000
theorem putS_len (n : Int) (l : List Int) : (l.foldl (putS n) (false, [])).2.length ≤ 2 * l.length := by
  suffices h : ∀ s : Bool × List Int, (l.foldl (putS n) s).2.length ≤ s.2.length + 2 * l.length by simpa using h (false, [])
  induction l with
  | nil => intro s; simp
  | cons a t ih =>
    intro s
    rw [List.foldl_cons]
    have h1 := ih (putS n s a)
    have h2 : (putS n s a).2.length ≤ s.2.length + 2 := by
      unfold putS
      split
      · split <;> simp
      · simp
    rw [List.length_cons]; omega
abbrev k75_o0 : List AJ := [.o ⟨(some 4), none, false, .mv (.c .nilsl), (some [0, 1])⟩]
abbrev k75_o1 : List AJ := [.e 8 1 none, .o ⟨(some 5), none, false, .mv (.t 8), (some [0, 1, 5])⟩]
abbrev k75_o2 : List AJ := [.o ⟨(some 6), none, false, .mv (.c (.bool false)), (some [0, 1, 5, 6])⟩]
abbrev k75_o3 : List AJ := [.o ⟨(some 7), none, false, .mv (.c (.int .i64 0)), (some [0, 1, 5, 6, 7])⟩]
abbrev k75_o4 : List AJ := [.o ⟨(some 9), none, false, .mv (.t 7), none⟩, .o ⟨(some 10), none, false, .mv (.t 0), none⟩, .o ⟨(some 11), none, false, .len (.t 10), none⟩, .o ⟨(some 12), none, false, .bin .lss (.t 9) (.t 11), (some [0, 1, 5, 6, 7, 12])⟩]
def k75_5 : ACode := .cond (.t 12) .skip (.exit 0)
def k75_6 : ACode := .seq (.region k75_o4) k75_5
abbrev k75_o5 : List AJ := [.o ⟨(some 15), none, false, .mv (.t 6), none⟩, .o ⟨(some 16), none, false, .un .not (.t 15), none⟩, .o ⟨(some 17), none, false, .mv (.t 16), none⟩, .o ⟨(some 18), (some (17, true)), false, .mv (.t 0), none⟩, .o ⟨(some 19), (some (17, true)), false, .mv (.t 7), none⟩, .o ⟨(some 20), (some (17, true)), false, .idxA 1 (.t 18) (.t 19), none⟩, .o ⟨(some 21), (some (17, true)), false, .load 1 false (.t 20), none⟩, .o ⟨(some 22), (some (17, true)), false, .mv (.t 1), none⟩, .o ⟨(some 23), (some (17, true)), false, .bin .geq (.t 21) (.t 22), (some [0, 1, 5, 6, 7, 17, 23])⟩, .o ⟨(some 24), none, false, .pick (.t 17) (.t 23) (.c (.bool false)), (some [0, 1, 5, 6, 7, 24])⟩]
abbrev k75_o6 : List AJ := [.o ⟨(some 6), none, false, .mv (.c (.bool true)), (some [0, 1, 5, 6, 7])⟩]
abbrev k75_o7 : List AJ := [.o ⟨(some 25), none, false, .mv (.t 0), none⟩, .o ⟨(some 26), none, false, .mv (.t 7), none⟩, .o ⟨(some 27), none, false, .idxA 1 (.t 25) (.t 26), none⟩, .o ⟨(some 28), none, false, .load 1 false (.t 27), none⟩, .o ⟨(some 29), none, false, .mv (.t 1), none⟩, .o ⟨(some 30), none, false, .bin .gtr (.t 28) (.t 29), (some [0, 1, 5, 6, 7, 30])⟩]
abbrev k75_o8 : List AJ := [.o ⟨(some 31), none, false, .mv (.t 5), none⟩, .o ⟨(some 32), none, false, .mv (.t 1), none⟩, .o ⟨(some 33), none, false, .bsl false 1 [(.t 32)], none⟩, .o ⟨(some 34), none, false, .append 1 8 (.t 31) (.t 33), none⟩, .o ⟨(some 5), none, false, .mv (.t 34), (some [0, 1, 5, 6, 7])⟩]
def k75_10 : ACode := .region k75_o8
def k75_11 : ACode := .cond (.t 30) k75_10 .skip
def k75_12 : ACode := .seq (.region k75_o7) k75_11
def k75_13 : ACode := .seq (.region k75_o6) k75_12
def k75_14 : ACode := .cond (.t 24) k75_13 .skip
def k75_15 : ACode := .seq (.region k75_o5) k75_14
abbrev k75_o9 : List AJ := [.o ⟨(some 35), none, false, .mv (.t 5), none⟩, .o ⟨(some 36), none, false, .mv (.t 0), none⟩, .o ⟨(some 37), none, false, .mv (.t 7), none⟩, .o ⟨(some 38), none, false, .idxA 1 (.t 36) (.t 37), none⟩, .o ⟨(some 39), none, false, .load 1 false (.t 38), none⟩, .o ⟨(some 40), none, false, .bsl false 1 [(.t 39)], none⟩, .o ⟨(some 41), none, false, .append 1 8 (.t 35) (.t 40), none⟩, .o ⟨(some 5), none, false, .mv (.t 41), (some [0, 1, 5, 6, 7])⟩]
def k75_16 : ACode := .region k75_o9
def k75_17 : ACode := .seq k75_15 k75_16
abbrev k75_o10 : List AJ := [.o ⟨(some 13), none, false, .mv (.t 7), none⟩, .o ⟨(some 14), none, true, .bin .add (.t 13) (.c (.int .i64 1)), none⟩, .o ⟨(some 7), none, false, .mv (.t 14), (some [0, 1, 5, 6, 7])⟩]
def k75_19 : ACode := .region k75_o10
def k75_20 : ACode := .seq (.block 1 k75_17) k75_19
def k75_21 : ACode := .seq k75_6 k75_20
def k75_22 : ACode := .loop k75_21
def k75_23 : ACode := .block 0 k75_22
def k75_24 : ACode := .seq (.region k75_o3) k75_23
abbrev k75_o11 : List AJ := [.o ⟨(some 42), none, false, .mv (.t 6), none⟩, .o ⟨(some 43), none, false, .un .not (.t 42), (some [1, 5, 43])⟩]
abbrev k75_o12 : List AJ := [.o ⟨(some 44), none, false, .mv (.t 5), none⟩, .o ⟨(some 45), none, false, .mv (.t 1), none⟩, .o ⟨(some 46), none, false, .bsl false 1 [(.t 45)], none⟩, .o ⟨(some 47), none, false, .append 1 8 (.t 44) (.t 46), none⟩, .o ⟨(some 5), none, false, .mv (.t 47), (some [5])⟩]
def k75_26 : ACode := .region k75_o12
def k75_27 : ACode := .cond (.t 43) k75_26 .skip
def k75_28 : ACode := .seq (.region k75_o11) k75_27
abbrev k75_o13 : List AJ := [.o ⟨(some 48), none, false, .mv (.t 5), none⟩, .o ⟨(some 4), none, false, .mv (.t 48), (some [4])⟩]
def k75_30 : ACode := .seq (.region k75_o13) .ret
def k75_31 : ACode := .seq k75_28 k75_30
def k75_32 : ACode := .seq k75_24 k75_31
def k75_33 : ACode := .seq (.region k75_o2) k75_32
def k75_34 : ACode := .seq (.region k75_o1) k75_33
def k75_35 : ACode := .seq (.region k75_o0) k75_34
@[simp, simp ↓] theorem k75_5r : rC k75_5 (.t 12) .skip (.exit 0) := zC rfl
@[simp, simp ↓] theorem k75_6r : sR k75_6 k75_o4 k75_5 := yR rfl
@[simp, simp ↓] theorem k75_10r : rR k75_10 k75_o8 := zR rfl
@[simp, simp ↓] theorem k75_11r : rC k75_11 (.t 30) k75_10 .skip := zC rfl
@[simp, simp ↓] theorem k75_12r : sR k75_12 k75_o7 k75_11 := yR rfl
@[simp, simp ↓] theorem k75_13r : sR k75_13 k75_o6 k75_12 := yR rfl
@[simp, simp ↓] theorem k75_14r : rC k75_14 (.t 24) k75_13 .skip := zC rfl
@[simp, simp ↓] theorem k75_15r : sR k75_15 k75_o5 k75_14 := yR rfl
@[simp, simp ↓] theorem k75_16r : rR k75_16 k75_o9 := zR rfl
@[simp, simp ↓] theorem k75_17r : rS k75_17 k75_15 k75_16 := zS rfl
@[simp, simp ↓] theorem k75_19r : rR k75_19 k75_o10 := zR rfl
@[simp, simp ↓] theorem k75_20r : sB k75_20 1 k75_17 k75_19 := yB rfl
@[simp, simp ↓] theorem k75_21r : rS k75_21 k75_6 k75_20 := zS rfl
@[simp, simp ↓] theorem k75_22r : rL k75_22 k75_21 := zL rfl
@[simp, simp ↓] theorem k75_23r : rB k75_23 0 k75_22 := zB rfl
@[simp, simp ↓] theorem k75_24r : sR k75_24 k75_o3 k75_23 := yR rfl
@[simp, simp ↓] theorem k75_26r : rR k75_26 k75_o12 := zR rfl
@[simp, simp ↓] theorem k75_27r : rC k75_27 (.t 43) k75_26 .skip := zC rfl
@[simp, simp ↓] theorem k75_28r : sR k75_28 k75_o11 k75_27 := yR rfl
@[simp, simp ↓] theorem k75_30r : sR k75_30 k75_o13 .ret := yR rfl
@[simp, simp ↓] theorem k75_31r : rS k75_31 k75_28 k75_30 := zS rfl
@[simp, simp ↓] theorem k75_32r : rS k75_32 k75_24 k75_31 := zS rfl
@[simp, simp ↓] theorem k75_33r : sR k75_33 k75_o2 k75_32 := yR rfl
@[simp, simp ↓] theorem k75_34r : sR k75_34 k75_o1 k75_33 := yR rfl
@[simp, simp ↓] theorem k75_35r : sR k75_35 k75_o0 k75_34 := yR rfl
noncomputable abbrev k75_C : Orc → Cx := mkC Tryz.prog [8] 75 49 [.tmp 4]
theorem k75_of : OfP Tryz.prog Tryz.f75 75 49 k75_C k75_35 := @ofP _ _ _ _ _ _ _ _ Tryz.func75 (by decide +kernel) rfl (by kernel_rfl) rfl (by kernel_rfl)
theorem l00Put_s (l : List Int) (n : Int) {u : AV} (hu : u = .snap 1 (l.map iv) ∨ u = .emp ∧ l = []) (h : Heap) (hl : l.length ≤ 1048576) : ACalls Tryz.prog 75 [u, .int .i64 n] h (fun v h' => v = .snap 1 ((insI n l).map iv) ∧ h' = h) := by
  refine k75_of rfl noPure fun I => ?_
  have hlu : lenR u = .val (.int .i64 l.length) := by rcases hu with rfl | ⟨rfl, rfl⟩ <;> simp
  have hcu : isCell u = true := by rcases hu with rfl | ⟨rfl, rfl⟩ <;> rfl
  have hins : insI n l = putE n (l.foldl (putS n) (false, [])) := by rw [putE_eq]; simp
  rw [hins]
  refine Run2.of I 1000 ?_
  simp -implicitDefEqProofs [hcu]
  refine Run2.loopE (α := Nat × AV × Heap) (fun p => [(0, u), (1, .int .i64 n), (5, p.2.1), (6, .bool ((l.take p.1).foldl (putS n) (false, [])).1), (7, .int .i64 (p.1 : Nat))]) (fun p => p.2.2 ++ h) (fun p => l.length - p.1) (fun p => p.1 ≤ l.length ∧ Grow 1 p.2.1 (((l.take p.1).foldl (putS n) (false, [])).2.map iv) p.2.2) (0, .emp, []) (by simp) rfl ⟨Nat.zero_le _, by simpa using Grow.emp⟩ ?_
  rintro ⟨i, w, hp⟩ ⟨hi, hg⟩ ih
  simp only at hi hg
  have hcell := hg.cell
  have hsl := putS_len n (l.take i)
  rw [List.length_take] at hsl
  by_cases hlt : i < l.length
  · obtain rfl : u = .snap 1 (l.map iv) := by
      rcases hu with h | ⟨_, h⟩
      · exact h
      · subst h; simp at hlt
    have hstep : (l.take (i + 1)).foldl (putS n) (false, []) = putS n ((l.take i).foldl (putS n) (false, [])) l[i] := by
      rw [List.take_succ_eq_append_getElem hlt, List.foldl_append]; rfl
    have go := fun w' hp' => ih (i + 1, w', hp')
    simp only [hstep] at go
    clear ih
    generalize (l.take i).foldl (putS n) (false, []) = S at *
    obtain ⟨d, o⟩ := S
    simp only at hg hsl go ⊢
    by_cases hd : d = false ∧ n ≤ l[i]
    · obtain ⟨rfl, hna⟩ := hd
      by_cases hlt2 : n < l[i]
      · have hp : putS n (false, o) l[i] = (true, o ++ [n] ++ [l[i]]) := by simp [putS, hna, hlt2]
        rw [hp] at go
        refine Run2.of I 1000 ?_
        simp -implicitDefEqProofs [hlt, hcell, hna, hlt2]
        refine hg.app (by simp; omega) (by simp) fun w' hp' hg' => ?_
        have hcell' := hg'.cell
        simp -implicitDefEqProofs [hlt, hcell', hna, hlt2]
        refine hg'.app (by simp; omega) (by simp) fun w2 hp2 hg2 => ?_
        have hcell2 := hg2.cell
        have := go w2 hp2 ⟨hlt, by simpa using hg2⟩ (by omega)
        simp -implicitDefEqProofs [hlt, hcell2]
        exact ⟨by omega, by simpa using this⟩
      · have hp : putS n (false, o) l[i] = (true, o ++ [l[i]]) := by simp [putS, hna, hlt2]
        rw [hp] at go
        refine Run2.of I 1000 ?_
        simp -implicitDefEqProofs [hlt, hcell, hna, hlt2]
        refine hg.app (by simp; omega) (by simp) fun w2 hp2 hg2 => ?_
        have hcell2 := hg2.cell
        have := go w2 hp2 ⟨hlt, by simpa using hg2⟩ (by omega)
        simp -implicitDefEqProofs [hlt, hcell2]
        exact ⟨by omega, by simpa using this⟩
    · have hp : putS n (d, o) l[i] = (d, o ++ [l[i]]) := by unfold putS; rw [if_neg hd]
      rw [hp] at go
      cases d
      · have hna : ¬ n ≤ l[i] := fun h => hd ⟨rfl, h⟩
        refine Run2.of I 1000 ?_
        simp -implicitDefEqProofs [hlt, hcell, hna]
        refine hg.app (by simp; omega) (by simp) fun w2 hp2 hg2 => ?_
        have hcell2 := hg2.cell
        have := go w2 hp2 ⟨hlt, by simpa using hg2⟩ (by omega)
        simp -implicitDefEqProofs [hlt, hcell2]
        exact ⟨by omega, by simpa using this⟩
      · refine Run2.of I 1000 ?_
        simp -implicitDefEqProofs [hlt, hcell]
        refine hg.app (by simp; omega) (by simp) fun w2 hp2 hg2 => ?_
        have hcell2 := hg2.cell
        have := go w2 hp2 ⟨hlt, by simpa using hg2⟩ (by omega)
        simp -implicitDefEqProofs [hlt, hcell2]
        exact ⟨by omega, by simpa using this⟩
  · obtain rfl : i = l.length := by omega
    rw [List.take_length] at *
    unfold putE
    generalize l.foldl (putS n) (false, []) = S at *
    obtain ⟨d, o⟩ := S
    simp only at hg hsl ⊢
    cases d
    · refine Run2.of I 1000 ?_
      simp -implicitDefEqProofs [hlt, hcell, hlu]
      refine hg.app (by simp; omega) (by simp) fun w2 hp2 hg2 => ?_
      have hcell2 := hg2.cell
      simp -implicitDefEqProofs [hcell2]
      exact hg2.froze (fun x => x) (fun _ _ _ => rfl) (fun _ _ h => h) (.base ⟨rfl, rfl⟩)
    · refine Run2.of I 1000 ?_
      simp -implicitDefEqProofs [hlt, hcell, hlu]
      exact hg.froze (fun x => x) (fun _ _ _ => rfl) (fun _ _ h => h) (.base ⟨rfl, rfl⟩)
theorem insI_len (n : Int) : ∀ l : List Int, (insI n l).length ≤ l.length + 1
  | [] => by simp [insI]
  | a :: t => by
    have := insI_len n t
    unfold insI
    split
    · simp
    · split <;> simp <;> omega
theorem putAll_len (l : List Int) : (putAll l).length ≤ l.length := by
  suffices h : ∀ o : List Int, (l.foldl (fun o a => insI a o) o).length ≤ o.length + l.length by simpa [putAll] using h []
  induction l with
  | nil => intro o; simp
  | cons a t ih =>
    intro o
    have h1 := ih (insI a o)
    have h2 := insI_len a o
    rw [List.foldl_cons, List.length_cons]; omega
noncomputable def o_l00Put : List AV → Option (Prop × AV) := tab (fun (x : List Int × Int) => match x with | (l, n) => [.snap 1 (l.map iv), .int .i64 n]) (fun x => match x with | (l, n) => l.length ≤ 1048576) (fun x => match x with | (l, n) => .snap 1 ((insI n l).map iv))
@[simp] theorem o_l00Put_e (l : List Int) (n : Int) : o_l00Put [.snap 1 (l.map iv), .int .i64 n] = some (l.length ≤ 1048576, .snap 1 ((insI n l).map iv)) := tab_at (enc := fun (x : List Int × Int) => match x with | (l, n) => [.snap 1 (l.map iv), .int .i64 n]) (fun x y h => by
  obtain ⟨l1, n1⟩ := x; obtain ⟨l2, n2⟩ := y; simp at h; simp [h] <;> omega) _ _ (l, n)
theorem o_l00Put_k : Knows Tryz.prog 75 o_l00Put := tab_knows fun x hx h => by
  obtain ⟨l, n⟩ := x; exact l00Put_s l n (.inl rfl) h hx
noncomputable def orcP : List (Nat × (List AV → Option (Prop × AV))) := (75, o_l00Put) :: (25, o_l21Ok) :: []
theorem orcP_p : Pure Tryz.prog (lk orcP) := (lk_pure o_l00Put_k (lk_pure o_l21Ok_k lk_pure0))
@[simp] theorem orcP_l (b : Bool) (g : FuncId) (l : List AV) : lk orcP b g l = if g = 75 then o_l00Put l else if g = 25 then o_l21Ok l else none := nr rfl
abbrev k47_o0 : List AJ := [.o ⟨(some 2), none, false, .mv (.c .nilsl), (some [0])⟩]
abbrev k47_o1 : List AJ := [.o ⟨(some 5), none, false, .bsl false 1 [], none⟩, .o ⟨(some 3), none, false, .mv (.t 5), (some [0, 3])⟩]
abbrev k47_o2 : List AJ := [.o ⟨(some 4), none, false, .mv (.c (.int .i64 0)), (some [0, 3, 4])⟩]
abbrev k47_o3 : List AJ := [.o ⟨(some 6), none, false, .mv (.t 4), none⟩, .o ⟨(some 7), none, false, .mv (.t 0), none⟩, .o ⟨(some 8), none, false, .nilchk (.t 7), none⟩, .o ⟨(some 9), none, false, .fieldA 1 (.t 8), none⟩, .o ⟨(some 10), none, false, .load 1 false (.t 9), none⟩, .o ⟨(some 11), none, false, .len (.t 10), none⟩, .o ⟨(some 12), none, false, .bin .lss (.t 6) (.t 11), (some [0, 3, 4, 12])⟩]
def k47_4 : ACode := .cond (.t 12) .skip (.exit 0)
def k47_5 : ACode := .seq (.region k47_o3) k47_4
abbrev k47_o4 : List AJ := [.o ⟨(some 15), none, false, .mv (.t 3), none⟩, .o ⟨(some 16), none, false, .mv (.t 0), none⟩, .o ⟨(some 17), none, false, .nilchk (.t 16), none⟩, .o ⟨(some 18), none, false, .fieldA 1 (.t 17), none⟩, .o ⟨(some 19), none, false, .load 1 false (.t 18), none⟩, .o ⟨(some 20), none, false, .mv (.t 4), none⟩, .o ⟨(some 21), none, false, .idxA 1 (.t 19) (.t 20), none⟩, .o ⟨(some 22), none, false, .load 1 false (.t 21), none⟩, .o ⟨(some 23), none, false, .call 75 [(.t 15), (.t 22)], none⟩, .o ⟨(some 3), none, false, .mv (.t 23), (some [0, 3, 4])⟩]
def k47_6 : ACode := .region k47_o4
abbrev k47_o5 : List AJ := [.o ⟨(some 13), none, false, .mv (.t 4), none⟩, .o ⟨(some 14), none, true, .bin .add (.t 13) (.c (.int .i64 1)), none⟩, .o ⟨(some 4), none, false, .mv (.t 14), (some [0, 3, 4])⟩]
def k47_8 : ACode := .region k47_o5
def k47_9 : ACode := .seq (.block 1 k47_6) k47_8
def k47_10 : ACode := .seq k47_5 k47_9
def k47_11 : ACode := .loop k47_10
def k47_12 : ACode := .block 0 k47_11
def k47_13 : ACode := .seq (.region k47_o2) k47_12
abbrev k47_o6 : List AJ := [.o ⟨(some 24), none, false, .mv (.t 3), none⟩, .o ⟨(some 2), none, false, .mv (.t 24), (some [2])⟩]
def k47_15 : ACode := .seq (.region k47_o6) .ret
def k47_16 : ACode := .seq k47_13 k47_15
def k47_17 : ACode := .seq (.region k47_o1) k47_16
def k47_18 : ACode := .seq (.region k47_o0) k47_17
@[simp, simp ↓] theorem k47_4r : rC k47_4 (.t 12) .skip (.exit 0) := zC rfl
@[simp, simp ↓] theorem k47_5r : sR k47_5 k47_o3 k47_4 := yR rfl
@[simp, simp ↓] theorem k47_6r : rR k47_6 k47_o4 := zR rfl
@[simp, simp ↓] theorem k47_8r : rR k47_8 k47_o5 := zR rfl
@[simp, simp ↓] theorem k47_9r : sB k47_9 1 k47_6 k47_8 := yB rfl
@[simp, simp ↓] theorem k47_10r : rS k47_10 k47_5 k47_9 := zS rfl
@[simp, simp ↓] theorem k47_11r : rL k47_11 k47_10 := zL rfl
@[simp, simp ↓] theorem k47_12r : rB k47_12 0 k47_11 := zB rfl
@[simp, simp ↓] theorem k47_13r : sR k47_13 k47_o2 k47_12 := yR rfl
@[simp, simp ↓] theorem k47_15r : sR k47_15 k47_o6 .ret := yR rfl
@[simp, simp ↓] theorem k47_16r : rS k47_16 k47_13 k47_15 := zS rfl
@[simp, simp ↓] theorem k47_17r : sR k47_17 k47_o1 k47_16 := yR rfl
@[simp, simp ↓] theorem k47_18r : sR k47_18 k47_o0 k47_17 := yR rfl
noncomputable abbrev k47_C : Orc → Cx := mkC Tryz.prog [] 47 25 [.tmp 2]
theorem k47_of0 : OfP0 Tryz.prog Tryz.f47 47 25 k47_C k47_18 := @ofP0 _ _ _ _ _ _ _ _ Tryz.func47 (by decide +kernel) rfl (by kernel_rfl) rfl (by kernel_rfl)
theorem l22Times_s (x : Fil) (h : Heap) (hl : x.tot ≤ 1048576) : ACalls Tryz.prog 47 [.ip [.snap 1 (x.rs.map il), .snap 1 (x.ts.map iv)]] h (fun v h' => v = .snap 1 ((critL x.ts).map iv) ∧ h' = h) := by
  obtain ⟨hl1, hl2⟩ := x.lens hl
  rw [← putAll_crit]
  refine k47_of0 rfl orcP_p fun I => ?_
  refine Run2.of I 1000 ?_
  simp -implicitDefEqProofs
  refine Run2.loopE (fun (i : Nat) => [(0, .ip [.snap 1 (x.rs.map il), .snap 1 (x.ts.map iv)]), (3, .snap 1 ((putAll (x.ts.take i)).map iv)), (4, .int .i64 i)]) (fun _ => h) (fun i => x.ts.length - i) (fun i => i ≤ x.ts.length) 0 (by simp [putAll]) rfl (Nat.zero_le _) fun i hi ih => ?_
  have hpl := putAll_len (x.ts.take i)
  rw [List.length_take] at hpl
  by_cases hlt : i < x.ts.length
  · have hstep : putAll (x.ts.take (i + 1)) = insI x.ts[i] (putAll (x.ts.take i)) := by
      rw [List.take_succ_eq_append_getElem hlt]; unfold putAll; rw [List.foldl_append]; rfl
    have go := ih (i + 1) hlt (by omega)
    rw [hstep] at go
    clear ih
    generalize putAll (x.ts.take i) = S at *
    have hS : S.length ≤ 1048576 := by omega
    refine Run2.of I 1000 ?_
    simp -implicitDefEqProofs [hlt, hS]
    exact ⟨by omega, by simpa using go⟩
  · obtain rfl : i = x.ts.length := by omega
    rw [List.take_length]
    refine Run2.of I 1000 ?_
    simp -implicitDefEqProofs [hlt]
noncomputable def Fil.ctL (x : Fil) : List Int := if x.valid then critL x.ts else []
noncomputable def Fil.ctC (x : Fil) : Int := if x.valid then 0 else 1
theorem Fil.ctL_len (x : Fil) : x.ctL.length ≤ x.ts.length := by
  unfold Fil.ctL
  split
  · exact critL_len _
  · simp
noncomputable def o_l22Times : List AV → Option (Prop × AV) := tab (fun (x : LS × List Int) => match x with | (rs, ts) => [.ip [.snap 1 (rs.map il), .snap 1 (ts.map iv)]]) (fun x => match x with | (rs, ts) => (⟨rs, ts⟩ : Fil).tot ≤ 1048576) (fun x => match x with | (rs, ts) => .snap 1 ((critL ts).map iv))
@[simp] theorem o_l22Times_e (rs : LS) (ts : List Int) : o_l22Times [.ip [.snap 1 (rs.map il), .snap 1 (ts.map iv)]] = some ((⟨rs, ts⟩ : Fil).tot ≤ 1048576, .snap 1 ((critL ts).map iv)) := tab_at (enc := fun (x : LS × List Int) => match x with | (rs, ts) => [.ip [.snap 1 (rs.map il), .snap 1 (ts.map iv)]]) (fun x y h => by
  obtain ⟨rs1, ts1⟩ := x; obtain ⟨rs2, ts2⟩ := y; simp at h; simp [h] <;> omega) _ _ (rs, ts)
theorem o_l22Times_k : Knows Tryz.prog 47 o_l22Times := tab_knows fun x hx h => by
  obtain ⟨rs, ts⟩ := x; exact l22Times_s ⟨rs, ts⟩ h hx
noncomputable def orcP2 : List (Nat × (List AV → Option (Prop × AV))) := (47, o_l22Times) :: (25, o_l21Ok) :: []
theorem orcP2_p : Pure Tryz.prog (lk orcP2) := (lk_pure o_l22Times_k (lk_pure o_l21Ok_k lk_pure0))
@[simp] theorem orcP2_l (b : Bool) (g : FuncId) (l : List AV) : lk orcP2 b g l = if g = 47 then o_l22Times l else if g = 25 then o_l21Ok l else none := nr rfl
end Go.AG
