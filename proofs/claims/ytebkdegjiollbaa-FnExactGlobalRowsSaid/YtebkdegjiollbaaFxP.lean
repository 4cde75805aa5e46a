/- All different times of a filtration: the program and the reference. No statement is made here. -/
import Derived.Test.YtebkdegjiollbaaFxO
namespace Go.AG
open Go.Proofs Go.Proofs.Ytebkdegjiollbaa
set_option linter.unusedSimpArgs false
set_option linter.unusedVariables false
set_option maxRecDepth 4000
theorem putS_len (n : Int) (l : List Int) : (l.foldl (putS n) (false, [])).2.length ≤ 2 * l.length := by
  suffices h : ∀ s : Bool × List Int, (l.foldl (putS n) s).2.length ≤ s.2.length + 2 * l.length by simpa using h (false, [])
  induction l with
  | nil => intro s; simp
  | cons a t ih =>
    intro s
    rw [List.foldl_cons]
    have h1 := ih (putS n s a)
    have h2 : (putS n s a).2.length ≤ s.2.length + 2 := by
      unfold putS
      split
      · split <;> simp
      · simp
    rw [List.length_cons]; omega
abbrev k147_o0 : List AJ := [.o ⟨(some 4), none, false, .mv (.c .nilsl), (some [0, 1])⟩]
abbrev k147_o1 : List AJ := [.e 8 1 none, .o ⟨(some 5), none, false, .mv (.t 8), (some [0, 1, 5])⟩]
abbrev k147_o2 : List AJ := [.o ⟨(some 6), none, false, .mv (.c (.bool false)), (some [0, 1, 5, 6])⟩]
abbrev k147_o3 : List AJ := [.o ⟨(some 7), none, false, .mv (.c (.int .i64 0)), (some [0, 1, 5, 6, 7])⟩]
abbrev k147_o4 : List AJ := [.o ⟨(some 9), none, false, .mv (.t 7), none⟩, .o ⟨(some 10), none, false, .mv (.t 0), none⟩, .o ⟨(some 11), none, false, .len (.t 10), none⟩, .o ⟨(some 12), none, false, .bin .lss (.t 9) (.t 11), (some [0, 1, 5, 6, 7, 12])⟩]
def k147_5 : ACode := .cond (.t 12) .skip (.exit 0)
def k147_6 : ACode := .seq (.region k147_o4) k147_5
abbrev k147_o5 : List AJ := [.o ⟨(some 15), none, false, .mv (.t 6), none⟩, .o ⟨(some 16), none, false, .un .not (.t 15), none⟩, .o ⟨(some 17), none, false, .mv (.t 16), none⟩, .o ⟨(some 18), (some (17, true)), false, .mv (.t 0), none⟩, .o ⟨(some 19), (some (17, true)), false, .mv (.t 7), none⟩, .o ⟨(some 20), (some (17, true)), false, .idxA 1 (.t 18) (.t 19), none⟩, .o ⟨(some 21), (some (17, true)), false, .load 1 false (.t 20), none⟩, .o ⟨(some 22), (some (17, true)), false, .mv (.t 1), none⟩, .o ⟨(some 23), (some (17, true)), false, .bin .geq (.t 21) (.t 22), (some [0, 1, 5, 6, 7, 17, 23])⟩, .o ⟨(some 24), none, false, .pick (.t 17) (.t 23) (.c (.bool false)), (some [0, 1, 5, 6, 7, 24])⟩]
abbrev k147_o6 : List AJ := [.o ⟨(some 6), none, false, .mv (.c (.bool true)), (some [0, 1, 5, 6, 7])⟩]
abbrev k147_o7 : List AJ := [.o ⟨(some 25), none, false, .mv (.t 0), none⟩, .o ⟨(some 26), none, false, .mv (.t 7), none⟩, .o ⟨(some 27), none, false, .idxA 1 (.t 25) (.t 26), none⟩, .o ⟨(some 28), none, false, .load 1 false (.t 27), none⟩, .o ⟨(some 29), none, false, .mv (.t 1), none⟩, .o ⟨(some 30), none, false, .bin .gtr (.t 28) (.t 29), (some [0, 1, 5, 6, 7, 30])⟩]
abbrev k147_o8 : List AJ := [.o ⟨(some 31), none, false, .mv (.t 5), none⟩, .o ⟨(some 32), none, false, .mv (.t 1), none⟩, .o ⟨(some 33), none, false, .bsl false 1 [(.t 32)], none⟩, .o ⟨(some 34), none, false, .append 1 8 (.t 31) (.t 33), none⟩, .o ⟨(some 5), none, false, .mv (.t 34), (some [0, 1, 5, 6, 7])⟩]
def k147_10 : ACode := .region k147_o8
def k147_11 : ACode := .cond (.t 30) k147_10 .skip
def k147_12 : ACode := .seq (.region k147_o7) k147_11
def k147_13 : ACode := .seq (.region k147_o6) k147_12
def k147_14 : ACode := .cond (.t 24) k147_13 .skip
def k147_15 : ACode := .seq (.region k147_o5) k147_14
abbrev k147_o9 : List AJ := [.o ⟨(some 35), none, false, .mv (.t 5), none⟩, .o ⟨(some 36), none, false, .mv (.t 0), none⟩, .o ⟨(some 37), none, false, .mv (.t 7), none⟩, .o ⟨(some 38), none, false, .idxA 1 (.t 36) (.t 37), none⟩, .o ⟨(some 39), none, false, .load 1 false (.t 38), none⟩, .o ⟨(some 40), none, false, .bsl false 1 [(.t 39)], none⟩, .o ⟨(some 41), none, false, .append 1 8 (.t 35) (.t 40), none⟩, .o ⟨(some 5), none, false, .mv (.t 41), (some [0, 1, 5, 6, 7])⟩]
def k147_16 : ACode := .region k147_o9
def k147_17 : ACode := .seq k147_15 k147_16
abbrev k147_o10 : List AJ := [.o ⟨(some 13), none, false, .mv (.t 7), none⟩, .o ⟨(some 14), none, true, .bin .add (.t 13) (.c (.int .i64 1)), none⟩, .o ⟨(some 7), none, false, .mv (.t 14), (some [0, 1, 5, 6, 7])⟩]
def k147_19 : ACode := .region k147_o10
def k147_20 : ACode := .seq (.block 1 k147_17) k147_19
def k147_21 : ACode := .seq k147_6 k147_20
def k147_22 : ACode := .loop k147_21
def k147_23 : ACode := .block 0 k147_22
def k147_24 : ACode := .seq (.region k147_o3) k147_23
abbrev k147_o11 : List AJ := [.o ⟨(some 42), none, false, .mv (.t 6), none⟩, .o ⟨(some 43), none, false, .un .not (.t 42), (some [1, 5, 43])⟩]
abbrev k147_o12 : List AJ := [.o ⟨(some 44), none, false, .mv (.t 5), none⟩, .o ⟨(some 45), none, false, .mv (.t 1), none⟩, .o ⟨(some 46), none, false, .bsl false 1 [(.t 45)], none⟩, .o ⟨(some 47), none, false, .append 1 8 (.t 44) (.t 46), none⟩, .o ⟨(some 5), none, false, .mv (.t 47), (some [5])⟩]
def k147_26 : ACode := .region k147_o12
def k147_27 : ACode := .cond (.t 43) k147_26 .skip
def k147_28 : ACode := .seq (.region k147_o11) k147_27
abbrev k147_o13 : List AJ := [.o ⟨(some 48), none, false, .mv (.t 5), none⟩, .o ⟨(some 4), none, false, .mv (.t 48), (some [4])⟩]
def k147_30 : ACode := .seq (.region k147_o13) .ret
def k147_31 : ACode := .seq k147_28 k147_30
def k147_32 : ACode := .seq k147_24 k147_31
def k147_33 : ACode := .seq (.region k147_o2) k147_32
def k147_34 : ACode := .seq (.region k147_o1) k147_33
def k147_35 : ACode := .seq (.region k147_o0) k147_34
@[simp, simp ↓] theorem k147_5r : rC k147_5 (.t 12) .skip (.exit 0) := zC rfl
@[simp, simp ↓] theorem k147_6r : sR k147_6 k147_o4 k147_5 := yR rfl
@[simp, simp ↓] theorem k147_10r : rR k147_10 k147_o8 := zR rfl
@[simp, simp ↓] theorem k147_11r : rC k147_11 (.t 30) k147_10 .skip := zC rfl
@[simp, simp ↓] theorem k147_12r : sR k147_12 k147_o7 k147_11 := yR rfl
@[simp, simp ↓] theorem k147_13r : sR k147_13 k147_o6 k147_12 := yR rfl
@[simp, simp ↓] theorem k147_14r : rC k147_14 (.t 24) k147_13 .skip := zC rfl
@[simp, simp ↓] theorem k147_15r : sR k147_15 k147_o5 k147_14 := yR rfl
@[simp, simp ↓] theorem k147_16r : rR k147_16 k147_o9 := zR rfl
@[simp, simp ↓] theorem k147_17r : rS k147_17 k147_15 k147_16 := zS rfl
@[simp, simp ↓] theorem k147_19r : rR k147_19 k147_o10 := zR rfl
@[simp, simp ↓] theorem k147_20r : sB k147_20 1 k147_17 k147_19 := yB rfl
@[simp, simp ↓] theorem k147_21r : rS k147_21 k147_6 k147_20 := zS rfl
@[simp, simp ↓] theorem k147_22r : rL k147_22 k147_21 := zL rfl
@[simp, simp ↓] theorem k147_23r : rB k147_23 0 k147_22 := zB rfl
@[simp, simp ↓] theorem k147_24r : sR k147_24 k147_o3 k147_23 := yR rfl
@[simp, simp ↓] theorem k147_26r : rR k147_26 k147_o12 := zR rfl
@[simp, simp ↓] theorem k147_27r : rC k147_27 (.t 43) k147_26 .skip := zC rfl
@[simp, simp ↓] theorem k147_28r : sR k147_28 k147_o11 k147_27 := yR rfl
@[simp, simp ↓] theorem k147_30r : sR k147_30 k147_o13 .ret := yR rfl
@[simp, simp ↓] theorem k147_31r : rS k147_31 k147_28 k147_30 := zS rfl
@[simp, simp ↓] theorem k147_32r : rS k147_32 k147_24 k147_31 := zS rfl
@[simp, simp ↓] theorem k147_33r : sR k147_33 k147_o2 k147_32 := yR rfl
@[simp, simp ↓] theorem k147_34r : sR k147_34 k147_o1 k147_33 := yR rfl
@[simp, simp ↓] theorem k147_35r : sR k147_35 k147_o0 k147_34 := yR rfl
noncomputable abbrev k147_C : Orc → Cx := mkC Try.prog [8] 147 49 [.tmp 4]
theorem k147_of : OfP Try.prog Try.f147 147 49 k147_C k147_35 := @ofP _ _ _ _ _ _ _ _ Try.func147 (by decide +kernel) rfl (by kernel_rfl) rfl (by kernel_rfl)
theorem l00Put_s (l : List Int) (n : Int) {u : AV} (hu : u = .snap 1 (l.map iv) ∨ u = .emp ∧ l = []) (h : Heap) (hl : l.length ≤ 1048576) : ACalls Try.prog 147 [u, .int .i64 n] h (fun v h' => v = .snap 1 ((insI n l).map iv) ∧ h' = h) := by
  refine k147_of rfl noPure fun I => ?_
  have hlu : lenR u = .val (.int .i64 l.length) := by rcases hu with rfl | ⟨rfl, rfl⟩ <;> simp
  have hcu : isCell u = true := by rcases hu with rfl | ⟨rfl, rfl⟩ <;> rfl
  have hins : insI n l = putE n (l.foldl (putS n) (false, [])) := by rw [putE_eq]; simp
  rw [hins]
  refine Run2.of I 1000 ?_
  simp -implicitDefEqProofs [hcu]
  refine Run2.loopE (α := Nat × AV × Heap) (fun p => [(0, u), (1, .int .i64 n), (5, p.2.1), (6, .bool ((l.take p.1).foldl (putS n) (false, [])).1), (7, .int .i64 (p.1 : Nat))]) (fun p => p.2.2 ++ h) (fun p => l.length - p.1) (fun p => p.1 ≤ l.length ∧ Grow 1 p.2.1 (((l.take p.1).foldl (putS n) (false, [])).2.map iv) p.2.2) (0, .emp, []) (by simp) rfl ⟨Nat.zero_le _, by simpa using Grow.emp⟩ ?_
  rintro ⟨i, w, hp⟩ ⟨hi, hg⟩ ih
  simp only at hi hg
  have hcell := hg.cell
  have hsl := putS_len n (l.take i)
  rw [List.length_take] at hsl
  by_cases hlt : i < l.length
  · obtain rfl : u = .snap 1 (l.map iv) := by
      rcases hu with h | ⟨_, h⟩
      · exact h
      · subst h; simp at hlt
    have hstep : (l.take (i + 1)).foldl (putS n) (false, []) = putS n ((l.take i).foldl (putS n) (false, [])) l[i] := by
      rw [List.take_succ_eq_append_getElem hlt, List.foldl_append]; rfl
    have go := fun w' hp' => ih (i + 1, w', hp')
    simp only [hstep] at go
    clear ih
    generalize (l.take i).foldl (putS n) (false, []) = S at *
    obtain ⟨d, o⟩ := S
    simp only at hg hsl go ⊢
    by_cases hd : d = false ∧ n ≤ l[i]
    · obtain ⟨rfl, hna⟩ := hd
      by_cases hlt2 : n < l[i]
      · have hp : putS n (false, o) l[i] = (true, o ++ [n] ++ [l[i]]) := by simp [putS, hna, hlt2]
        rw [hp] at go
        refine Run2.of I 1000 ?_
        simp -implicitDefEqProofs [hlt, hcell, hna, hlt2]
        refine hg.app (by simp; omega) (by simp) fun w' hp' hg' => ?_
        have hcell' := hg'.cell
        simp -implicitDefEqProofs [hlt, hcell', hna, hlt2]
        refine hg'.app (by simp; omega) (by simp) fun w2 hp2 hg2 => ?_
        have hcell2 := hg2.cell
        have := go w2 hp2 ⟨hlt, by simpa using hg2⟩ (by omega)
        simp -implicitDefEqProofs [hlt, hcell2]
        exact ⟨by omega, by simpa using this⟩
      · have hp : putS n (false, o) l[i] = (true, o ++ [l[i]]) := by simp [putS, hna, hlt2]
        rw [hp] at go
        refine Run2.of I 1000 ?_
        simp -implicitDefEqProofs [hlt, hcell, hna, hlt2]
        refine hg.app (by simp; omega) (by simp) fun w2 hp2 hg2 => ?_
        have hcell2 := hg2.cell
        have := go w2 hp2 ⟨hlt, by simpa using hg2⟩ (by omega)
        simp -implicitDefEqProofs [hlt, hcell2]
        exact ⟨by omega, by simpa using this⟩
    · have hp : putS n (d, o) l[i] = (d, o ++ [l[i]]) := by unfold putS; rw [if_neg hd]
      rw [hp] at go
      cases d
      · have hna : ¬ n ≤ l[i] := fun h => hd ⟨rfl, h⟩
        refine Run2.of I 1000 ?_
        simp -implicitDefEqProofs [hlt, hcell, hna]
        refine hg.app (by simp; omega) (by simp) fun w2 hp2 hg2 => ?_
        have hcell2 := hg2.cell
        have := go w2 hp2 ⟨hlt, by simpa using hg2⟩ (by omega)
        simp -implicitDefEqProofs [hlt, hcell2]
        exact ⟨by omega, by simpa using this⟩
      · refine Run2.of I 1000 ?_
        simp -implicitDefEqProofs [hlt, hcell]
        refine hg.app (by simp; omega) (by simp) fun w2 hp2 hg2 => ?_
        have hcell2 := hg2.cell
        have := go w2 hp2 ⟨hlt, by simpa using hg2⟩ (by omega)
        simp -implicitDefEqProofs [hlt, hcell2]
        exact ⟨by omega, by simpa using this⟩
  · obtain rfl : i = l.length := by omega
    rw [List.take_length] at *
    unfold putE
    generalize l.foldl (putS n) (false, []) = S at *
    obtain ⟨d, o⟩ := S
    simp only at hg hsl ⊢
    cases d
    · refine Run2.of I 1000 ?_
      simp -implicitDefEqProofs [hlt, hcell, hlu]
      refine hg.app (by simp; omega) (by simp) fun w2 hp2 hg2 => ?_
      have hcell2 := hg2.cell
      simp -implicitDefEqProofs [hcell2]
      exact hg2.froze (fun x => x) (fun _ _ _ => rfl) (fun _ _ h => h) (.base ⟨rfl, rfl⟩)
    · refine Run2.of I 1000 ?_
      simp -implicitDefEqProofs [hlt, hcell, hlu]
      exact hg.froze (fun x => x) (fun _ _ _ => rfl) (fun _ _ h => h) (.base ⟨rfl, rfl⟩)
theorem insI_len (n : Int) : ∀ l : List Int, (insI n l).length ≤ l.length + 1
  | [] => by simp [insI]
  | a :: t => by
    have := insI_len n t
    unfold insI
    split
    · simp
    · split <;> simp <;> omega
theorem putAll_len (l : List Int) : (putAll l).length ≤ l.length := by
  suffices h : ∀ o : List Int, (l.foldl (fun o a => insI a o) o).length ≤ o.length + l.length by simpa [putAll] using h []
  induction l with
  | nil => intro o; simp
  | cons a t ih =>
    intro o
    have h1 := ih (insI a o)
    have h2 := insI_len a o
    rw [List.foldl_cons, List.length_cons]; omega
noncomputable def o_l00Put : List AV → Option (Prop × AV) := tab (fun (x : List Int × Int) => match x with | (l, n) => [.snap 1 (l.map iv), .int .i64 n]) (fun x => match x with | (l, n) => l.length ≤ 1048576) (fun x => match x with | (l, n) => .snap 1 ((insI n l).map iv))
@[simp] theorem o_l00Put_e (l : List Int) (n : Int) : o_l00Put [.snap 1 (l.map iv), .int .i64 n] = some (l.length ≤ 1048576, .snap 1 ((insI n l).map iv)) := tab_at (enc := fun (x : List Int × Int) => match x with | (l, n) => [.snap 1 (l.map iv), .int .i64 n]) (fun x y h => by
  obtain ⟨l1, n1⟩ := x; obtain ⟨l2, n2⟩ := y; simp at h; simp [h] <;> omega) _ _ (l, n)
theorem o_l00Put_k : Knows Try.prog 147 o_l00Put := tab_knows fun x hx h => by
  obtain ⟨l, n⟩ := x; exact l00Put_s l n (.inl rfl) h hx
noncomputable def orcP : List (Nat × (List AV → Option (Prop × AV))) := (147, o_l00Put) :: []
theorem orcP_p : Pure Try.prog (lk orcP) := (lk_pure o_l00Put_k lk_pure0)
@[simp] theorem orcP_l (b : Bool) (g : FuncId) (l : List AV) : lk orcP b g l = if g = 147 then o_l00Put l else none := nr rfl
noncomputable def Fil.ctL (x : Fil) : List Int := if x.valid then critL x.ts else []
noncomputable def Fil.ctC (x : Fil) : Int := if x.valid then 0 else 1
theorem Fil.ctL_len (x : Fil) : x.ctL.length ≤ x.ts.length := by
  unfold Fil.ctL
  split
  · exact critL_len _
  · simp

noncomputable def orcP2 : List (Nat × (List AV → Option (Prop × AV))) := []
theorem orcP2_p : Pure Try.prog (lk orcP2) := lk_pure0
@[simp] theorem orcP2_l (b : Bool) (g : FuncId) (l : List AV) : lk orcP2 b g l = none := nr rfl
end Go.AG
