/- Matchings of bars: the program's search for partners. No statement is made here. -/
import Derived.Test.YtebkdegjiollbaaDsB
import Derived.Test.YtebkdegjiollbaaBrDel
namespace Go.AG
open Go.Proofs Go.Proofs.Ytebkdegjiollbaa
set_option linter.unusedSimpArgs false
set_option linter.unusedVariables false
set_option maxRecDepth 4000
def absI (n : Int) : Int := if n < 0 then -n else n
theorem absI_le {n a : Int} (h1 : -a ≤ n) (h2 : n ≤ a) : 0 ≤ absI n ∧ absI n ≤ a := by unfold absI; split <;> omega
theorem absI_neg (n : Int) : absI (-n) = absI n := by unfold absI; split <;> split <;> omega
def T0 : T := ⟨0, 0, 0⟩
/-- Near enough. -/
def cl (u v : List T) (m : Int) (i k : Nat) : Bool := decide (2 * max (absI ((u.getD i T0).t - (v.getD k T0).t)) (absI ((u.getD i T0).s - (v.getD k T0).s)) ≤ m)
/-- Too long for none. -/
def lg (u : List T) (m : Int) (i : Nat) : Bool := decide (m < (u.getD i T0).s - (u.getD i T0).t)
theorem cl_swap (u v : List T) (m : Int) (i k : Nat) : cl u v m i k = cl v u m k i := by
  unfold cl
  have e : ∀ a b : Int, absI (a - b) = absI (b - a) := fun a b => by rw [← absI_neg (b - a)]; congr 1; omega
  rw [e (u.getD i T0).t, e (u.getD i T0).s]
def finU (u : List T) : Prop := u.length ≤ 24 ∧ ∀ x ∈ u, (0 ≤ x.t ∧ x.t ≤ 1000) ∧ 0 ≤ x.s ∧ x.s ≤ 1000
abbrev k75_o0 : List AJ := [.o ⟨(some 2), none, false, .mv (.c (.int .i64 0)), (some [0])⟩]
abbrev k75_o1 : List AJ := [.o ⟨(some 3), none, false, .mv (.t 0), none⟩, .o ⟨(some 4), none, false, .bin .lss (.t 3) (.c (.int .i64 0)), (some [0, 4])⟩]
abbrev k75_o2 : List AJ := [.o ⟨(some 5), none, false, .mv (.t 0), none⟩, .o ⟨(some 6), none, false, .un .neg (.t 5), none⟩, .o ⟨(some 2), none, false, .mv (.t 6), (some [2])⟩]
def k75_3 : ACode := .seq (.region k75_o2) .ret
def k75_4 : ACode := .cond (.t 4) k75_3 .skip
def k75_5 : ACode := .seq (.region k75_o1) k75_4
abbrev k75_o3 : List AJ := [.o ⟨(some 7), none, false, .mv (.t 0), none⟩, .o ⟨(some 2), none, false, .mv (.t 7), (some [2])⟩]
def k75_7 : ACode := .seq (.region k75_o3) .ret
def k75_8 : ACode := .seq k75_5 k75_7
def k75_9 : ACode := .seq (.region k75_o0) k75_8
@[simp, simp ↓] theorem k75_3r : sR k75_3 k75_o2 .ret := yR rfl
@[simp, simp ↓] theorem k75_4r : rC k75_4 (.t 4) k75_3 .skip := zC rfl
@[simp, simp ↓] theorem k75_5r : sR k75_5 k75_o1 k75_4 := yR rfl
@[simp, simp ↓] theorem k75_7r : sR k75_7 k75_o3 .ret := yR rfl
@[simp, simp ↓] theorem k75_8r : rS k75_8 k75_5 k75_7 := zS rfl
@[simp, simp ↓] theorem k75_9r : sR k75_9 k75_o0 k75_8 := yR rfl
noncomputable abbrev k75_C : Orc → Cx := mkC Try.prog [] 75 8 [.tmp 2]
theorem k75_of0 : OfP0 Try.prog Try.f75 75 8 k75_C k75_9 := @ofP0 _ _ _ _ _ _ _ _ Try.func75 (by decide +kernel) rfl (by kernel_rfl) rfl (by kernel_rfl)
theorem abs_c (n : Int) (h : Heap) (hn : -1000000 ≤ n ∧ n ≤ 1000000) : ACalls Try.prog 75 [.int .i64 n] h (fun v h' => v = .int .i64 (absI n) ∧ h' = h) := by
  refine k75_of0 rfl noPure fun I => ?_
  unfold absI
  refine Run2.of I 1000 ?_
  simp -implicitDefEqProofs
  exact ⟨fun h => by rw [if_pos h, w64 (by omega)], fun h1 h2 => by omega⟩
noncomputable def o_abs : List AV → Option (Prop × AV) := tab (fun (x : Int) => match x with | n => [.int .i64 n]) (fun x => match x with | n => (-1000000 ≤ n ∧ n ≤ 1000000)) (fun x => match x with | n => .int .i64 (absI n))
@[simp] theorem o_abs_e (n : Int) : o_abs [.int .i64 n] = some ((-1000000 ≤ n ∧ n ≤ 1000000), .int .i64 (absI n)) := tab_at (enc := fun (x : Int) => match x with | n => [.int .i64 n]) (fun x y h => by
  simp at h; simp [h] <;> omega) _ _ n
theorem o_abs_k : Knows Try.prog 75 o_abs := tab_knows fun x hx h => by
  exact abs_c x h hx
noncomputable def orcDs1 : List (Nat × (List AV → Option (Prop × AV))) := (75, o_abs) :: []
theorem orcDs1_p : Pure Try.prog (lk orcDs1) := (lk_pure o_abs_k lk_pure0)
@[simp] theorem orcDs1_l (b : Bool) (g : FuncId) (l : List AV) : lk orcDs1 b g l = if g = 75 then o_abs l else none := nr rfl
abbrev k125_o0 : List AJ := [.o ⟨(some 12), none, false, .mv (.c (.bool false)), (some [0, 1, 2, 3, 4, 5])⟩]
abbrev k125_o1 : List AJ := [.o ⟨(some 15), none, false, .mv (.t 1), none⟩, .o ⟨(some 16), none, false, .len (.t 15), none⟩, .o ⟨(some 17), none, false, .mv (.c (.int .i64 0)), (some [0, 1, 2, 3, 4, 5, 15, 16, 17])⟩]
abbrev k125_o2 : List AJ := [.o ⟨(some 18), none, false, .bin .lss (.t 17) (.t 16), (some [0, 1, 2, 3, 4, 5, 15, 16, 17, 18])⟩]
abbrev k125_o3 : List AJ := [.o ⟨(some 19), none, false, .mv (.t 17), none⟩, .o ⟨(some 20), none, false, .idxA 3 (.t 15) (.t 17), none⟩, .o ⟨(some 21), none, false, .load 3 true (.t 20), none⟩, .v 14 3 (.agg [(.int .i64 0), (.int .i64 0), (.int .i64 0)]) [(13, (.t 19))] (.t 21) (some [0, 1, 2, 3, 4, 5, 13, 14, 15, 16, 17])]
abbrev k125_o4 : List AI := [⟨(some 22), none, false, .mv (.t 5), none⟩, ⟨(some 23), none, false, .mv (.t 13), none⟩, ⟨(some 24), none, false, .idxA 1 (.t 22) (.t 23), none⟩, ⟨(some 25), none, false, .load 1 false (.t 24), none⟩, ⟨(some 26), none, false, .mv (.t 25), none⟩, ⟨(some 27), (some (26, false)), false, .mv (.t 0), none⟩, ⟨(some 28), (some (26, false)), false, .mv (.t 2), none⟩, ⟨(some 29), (some (26, false)), false, .idxA 3 (.t 27) (.t 28), none⟩, ⟨(some 30), (some (26, false)), false, .fieldA 1 (.t 29), none⟩, ⟨(some 31), (some (26, false)), false, .load 1 false (.t 30), (some [0, 1, 2, 3, 4, 5, 13, 14, 15, 16, 17, 26, 31])⟩, ⟨(some 32), (some (26, false)), false, .fieldA 1 (.t 14), none⟩, ⟨(some 33), (some (26, false)), false, .load 1 false (.t 32), none⟩, ⟨(some 34), (some (26, false)), true, .bin .sub (.t 31) (.t 33), none⟩, ⟨(some 35), (some (26, false)), false, .call 75 [(.t 34)], none⟩, ⟨(some 36), (some (26, false)), false, .mv (.t 0), none⟩, ⟨(some 37), (some (26, false)), false, .mv (.t 2), none⟩, ⟨(some 38), (some (26, false)), false, .idxA 3 (.t 36) (.t 37), (some [0, 1, 2, 3, 4, 5, 13, 14, 15, 16, 17, 26, 35, 38])⟩, ⟨(some 39), (some (26, false)), false, .fieldA 2 (.t 38), none⟩, ⟨(some 40), (some (26, false)), false, .load 1 false (.t 39), none⟩, ⟨(some 41), (some (26, false)), false, .fieldA 2 (.t 14), none⟩, ⟨(some 42), (some (26, false)), false, .load 1 false (.t 41), none⟩, ⟨(some 43), (some (26, false)), true, .bin .sub (.t 40) (.t 42), none⟩, ⟨(some 44), (some (26, false)), false, .call 75 [(.t 43)], none⟩, ⟨(some 45), (some (26, false)), false, .mx true [(.t 35), (.t 44)], (some [0, 1, 2, 3, 4, 5, 13, 15, 16, 17, 26, 45])⟩, ⟨(some 46), (some (26, false)), true, .bin .mul (.c (.int .i64 2)) (.t 45), none⟩, ⟨(some 47), (some (26, false)), false, .mv (.t 3), none⟩, ⟨(some 48), (some (26, false)), false, .bin .gtr (.t 46) (.t 47), none⟩, ⟨(some 49), none, false, .pick (.t 26) (.c (.bool true)) (.t 48), (some [0, 1, 2, 3, 4, 5, 13, 15, 16, 17, 49])⟩]
def k125_6 : ACode := .cond (.t 49) (.exit 1) .skip
def k125_7 : ACode := .seq (.draw k125_o4 [] rfl) k125_6
abbrev k125_o5 : List AJ := [.o ⟨(some 50), none, false, .mv (.t 5), none⟩, .o ⟨(some 51), none, false, .mv (.t 13), none⟩, .o ⟨(some 52), none, false, .idxA 1 (.t 50) (.t 51), none⟩, .o ⟨none, none, false, .store 1 (.t 52) (.c (.bool true)), (some [0, 1, 2, 3, 4, 5, 13, 15, 16, 17])⟩]
abbrev k125_o6 : List AJ := [.o ⟨(some 53), none, false, .mv (.t 4), none⟩, .o ⟨(some 54), none, false, .mv (.t 13), none⟩, .o ⟨(some 55), none, false, .idxA 1 (.t 53) (.t 54), none⟩, .o ⟨(some 56), none, false, .load 1 false (.t 55), none⟩, .o ⟨(some 57), none, false, .bin .lss (.t 56) (.c (.int .i64 0)), none⟩, .o ⟨(some 58), none, false, .mv (.t 57), none⟩, .o ⟨(some 59), (some (58, false)), false, .mv (.t 0), none⟩, .o ⟨(some 60), (some (58, false)), false, .mv (.t 1), none⟩, .o ⟨(some 61), (some (58, false)), false, .mv (.t 4), none⟩, .o ⟨(some 62), (some (58, false)), false, .mv (.t 13), (some [0, 1, 2, 3, 4, 5, 13, 15, 16, 17, 58, 59, 60, 61, 62])⟩, .o ⟨(some 63), (some (58, false)), false, .idxA 1 (.t 61) (.t 62), none⟩, .o ⟨(some 64), (some (58, false)), false, .load 1 false (.t 63), none⟩, .o ⟨(some 65), (some (58, false)), false, .mv (.t 3), none⟩, .o ⟨(some 66), (some (58, false)), false, .mv (.t 4), none⟩, .o ⟨(some 67), (some (58, false)), false, .mv (.t 5), none⟩, .o ⟨(some 68), (some (58, false)), false, .call 125 [(.t 59), (.t 60), (.t 64), (.t 65), (.t 66), (.t 67)], none⟩, .o ⟨(some 69), none, false, .pick (.t 58) (.c (.bool true)) (.t 68), (some [0, 1, 2, 3, 4, 5, 13, 15, 16, 17, 69])⟩]
abbrev k125_o7 : List AJ := [.o ⟨(some 70), none, false, .mv (.t 4), none⟩, .o ⟨(some 71), none, false, .mv (.t 13), none⟩, .o ⟨(some 72), none, false, .mv (.t 2), none⟩, .o ⟨(some 73), none, false, .idxA 1 (.t 70) (.t 71), none⟩, .o ⟨none, none, false, .store 1 (.t 73) (.t 72), (some [])⟩]
abbrev k125_o8 : List AJ := [.o ⟨(some 12), none, false, .mv (.c (.bool true)), (some [12])⟩]
def k125_12 : ACode := .seq (.region k125_o8) .ret
def k125_13 : ACode := .seq (.region k125_o7) k125_12
def k125_14 : ACode := .cond (.t 69) k125_13 .skip
def k125_15 : ACode := .seq (.region k125_o6) k125_14
def k125_16 : ACode := .seq (.region k125_o5) k125_15
def k125_17 : ACode := .seq k125_7 k125_16
def k125_18 : ACode := .seq (.region k125_o3) k125_17
abbrev k125_o9 : List AJ := [.o ⟨(some 74), none, true, .bin .add (.t 17) (.c (.int .i64 1)), none⟩, .o ⟨(some 17), none, false, .mv (.t 74), (some [0, 1, 2, 3, 4, 5, 15, 16, 17])⟩]
def k125_20 : ACode := .region k125_o9
def k125_21 : ACode := .seq (.block 1 k125_18) k125_20
def k125_22 : ACode := .seq (.cond (.t 18) .skip (.exit 0)) k125_21
def k125_23 : ACode := .seq (.region k125_o2) k125_22
def k125_24 : ACode := .loop k125_23
def k125_25 : ACode := .block 0 k125_24
def k125_26 : ACode := .seq (.region k125_o1) k125_25
abbrev k125_o10 : List AJ := [.o ⟨(some 12), none, false, .mv (.c (.bool false)), (some [12])⟩]
def k125_28 : ACode := .seq (.region k125_o10) .ret
def k125_29 : ACode := .seq k125_26 k125_28
def k125_30 : ACode := .seq (.region k125_o0) k125_29
@[simp, simp ↓] theorem k125_6r : rC k125_6 (.t 49) (.exit 1) .skip := zC rfl
@[simp, simp ↓] theorem k125_7r : sD k125_7 k125_o4 [] k125_6 := yD rfl
@[simp, simp ↓] theorem k125_12r : sR k125_12 k125_o8 .ret := yR rfl
@[simp, simp ↓] theorem k125_13r : sR k125_13 k125_o7 k125_12 := yR rfl
@[simp, simp ↓] theorem k125_14r : rC k125_14 (.t 69) k125_13 .skip := zC rfl
@[simp, simp ↓] theorem k125_15r : sR k125_15 k125_o6 k125_14 := yR rfl
@[simp, simp ↓] theorem k125_16r : sR k125_16 k125_o5 k125_15 := yR rfl
@[simp, simp ↓] theorem k125_17r : rS k125_17 k125_7 k125_16 := zS rfl
@[simp, simp ↓] theorem k125_18r : sR k125_18 k125_o3 k125_17 := yR rfl
@[simp, simp ↓] theorem k125_20r : rR k125_20 k125_o9 := zR rfl
@[simp, simp ↓] theorem k125_21r : sB k125_21 1 k125_18 k125_20 := yB rfl
@[simp, simp ↓] theorem k125_22r : sC k125_22 (.t 18) .skip (.exit 0) k125_21 := yC rfl
@[simp, simp ↓] theorem k125_23r : sR k125_23 k125_o2 k125_22 := yR rfl
@[simp, simp ↓] theorem k125_24r : rL k125_24 k125_23 := zL rfl
@[simp, simp ↓] theorem k125_25r : rB k125_25 0 k125_24 := zB rfl
@[simp, simp ↓] theorem k125_26r : sR k125_26 k125_o1 k125_25 := yR rfl
@[simp, simp ↓] theorem k125_28r : sR k125_28 k125_o10 .ret := yR rfl
@[simp, simp ↓] theorem k125_29r : rS k125_29 k125_26 k125_28 := zS rfl
@[simp, simp ↓] theorem k125_30r : sR k125_30 k125_o0 k125_29 := yR rfl
noncomputable abbrev k125_C : Orc → Cx := mkC Try.prog [14] 125 75 [.tmp 12]
theorem k125_of0 : OfP0 Try.prog Try.f125 125 75 k125_C k125_30 := @ofP0 _ _ _ _ _ _ _ _ Try.func125 (by decide +kernel) rfl (by kernel_rfl) rfl (by kernel_rfl)
theorem partner_w (u v : List T) (hu : finU u) (hv : finU v) (m : Int) (hm : 0 ≤ m ∧ m ≤ 10000) (ido idt : Nat) (hne : ¬ idt = ido) (h : Heap) : ∀ (n k : Nat) (o : List Int) (t : List Bool), k < u.length → o.length = v.length → t.length = v.length → (∀ x ∈ o, x < (u.length : Int)) → fls t < n →
    ACalls Try.prog 125 [.snap 3 (u.map T.av), .snap 3 (v.map T.av), .int .i64 k, .int .i64 m, .sl ido 1 0 v.length (some v.length), .sl idt 1 0 v.length (some v.length)] ((idt, ⟨1, t.map AV.bool⟩) :: (ido, ⟨1, o.map iv⟩) :: h)
      (fun w h' => w = .bool (kt (cl u v m) v.length n k (o, t)).1 ∧ h' = (idt, ⟨1, (kt (cl u v m) v.length n k (o, t)).2.2.map AV.bool⟩) :: (ido, ⟨1, (kt (cl u v m) v.length n k (o, t)).2.1.map iv⟩) :: h) := by
  have hu24 := hu.1
  have hv24 := hv.1
  have hne' : ¬ ido = idt := fun e => hne e.symm
  intro n
  induction n with
  | zero => intro k o t _ _ _ _ hf; omega
  | succ n ihn =>
    intro k o t hk ho ht hox hf
    obtain ⟨F, hF⟩ : ∃ F, F = kLoop (cl u v m) (kt (cl u v m) v.length n) k (List.range v.length) (o, t) := ⟨_, rfl⟩
    have hkt : kt (cl u v m) v.length (n + 1) k (o, t) = F := by rw [hF]; rfl
    rw [hkt]
    obtain ⟨R, hR⟩ : ∃ R, R = fun (w : AV) (h' : Heap) => w = .bool F.1 ∧ h' = (idt, ⟨1, F.2.2.map AV.bool⟩) :: (ido, ⟨1, F.2.1.map iv⟩) :: h := ⟨_, rfl⟩
    rw [← hR]
    have fin : ∀ (b : Bool) (s : KS), F = (b, s) → R (.bool b) ((idt, ⟨1, s.2.map AV.bool⟩) :: (ido, ⟨1, s.1.map iv⟩) :: h) := fun b s e => by rw [hR, e]; exact ⟨rfl, rfl⟩
    clear hR
    refine k125_of0 rfl orcDs1_p fun I => ?_
    refine Run2.of I 1000 ?_
    simp -implicitDefEqProofs
    refine Run2.loopE (α := Nat × List Bool) (fun s => [(0, .snap 3 (u.map T.av)), (1, .snap 3 (v.map T.av)), (2, .int .i64 k), (3, .int .i64 m), (4, .sl ido 1 0 v.length (some v.length)), (5, .sl idt 1 0 v.length (some v.length)), (15, .snap 3 (v.map T.av)), (16, .int .i64 v.length), (17, .int .i64 (s.1 : Nat))])
      (fun s => (idt, ⟨1, s.2.map AV.bool⟩) :: (ido, ⟨1, o.map iv⟩) :: h) (fun s => v.length - s.1)
      (fun s => s.1 ≤ v.length ∧ s.2.length = v.length ∧ fls s.2 ≤ n ∧ F = kLoop (cl u v m) (kt (cl u v m) v.length n) k ((List.range v.length).drop s.1) (o, s.2))
      (0, t) (by simp) (by simp) ⟨Nat.zero_le _, ht, by simp only; omega, by simpa using hF⟩ ?_
    clear hF ht hf hkt
    rintro ⟨j, t⟩ ⟨hj, ht, hf, hF⟩ ih
    simp only at hj ht hf hF ih ⊢
    by_cases hlt : j < v.length
    · have hdrop : (List.range v.length).drop j = j :: (List.range v.length).drop (j + 1) := by
        rw [List.drop_eq_getElem_cons (by simpa using hlt)]; simp
      rw [hdrop] at hF
      have hjt : j < t.length := by omega
      have hjo : j < o.length := by omega
      have htg : t.getD j true = t[j] := by simp [hjt]
      have hog : o.getD j 0 = o[j] := by simp [hjo]
      have hbu := hu.2 _ (List.getElem_mem hk)
      have hbv := hv.2 _ (List.getElem_mem hlt)
      have hb1 := absI_le (n := u[k].t - v[j].t) (a := 1000) (by omega) (by omega)
      have hb2 := absI_le (n := u[k].s - v[j].s) (a := 1000) (by omega) (by omega)
      have hcl : cl u v m k j = decide (2 * max (absI (u[k].t - v[j].t)) (absI (u[k].s - v[j].s)) ≤ m) := by
        unfold cl
        rw [show u.getD k T0 = u[k] by simp [hk], show v.getD j T0 = v[j] by simp [hlt]]
      have go := fun (t' : List Bool) (h1 : t'.length = v.length) (h2 : fls t' ≤ n) (h3 : F = kLoop (cl u v m) (kt (cl u v m) v.length n) k ((List.range v.length).drop (j + 1)) (o, t')) => ih (j + 1, t') ⟨hlt, h1, h2, h3⟩ (by simp; omega)
      clear ih
      simp only at go
      by_cases htj : t[j] = true
      · rw [kLoop_skip (.inl (by simp only; rw [htg]; exact htj))] at hF
        have go := go t ht hf hF
        refine Run2.of I 1000 ?_
        simp -implicitDefEqProofs [hlt, hne, hne', hjt, hjo, hk, htj]
        exact ⟨by omega, by simpa using go⟩
      · have htf : t[j] = false := by simpa using htj
        by_cases hc : cl u v m k j = true
        · have hc1 : 2 * max (absI (u[k].t - v[j].t)) (absI (u[k].s - v[j].s)) ≤ m := by rw [hcl] at hc; simpa using hc
          have hc2 : ¬ m < 2 * max (absI (u[k].t - v[j].t)) (absI (u[k].s - v[j].s)) := by omega
          have hns : ¬ ((o, t).2.getD j true = true ∨ cl u v m k j = false) := by
            simp only
            rw [htg, htf, hc]; simp
          have hset : (t.map AV.bool).set j (.bool true) = (t.set j true).map AV.bool := by rw [List.map_set]
          have hoset : ∀ q : List Int, (q.map iv).set j (.int .i64 k) = (q.set j (k : Int)).map iv := fun q => by rw [List.map_set]; rfl
          by_cases ho0 : o[j] < 0
          · rw [kLoop_free hns (by simp only; rw [hog]; exact ho0)] at hF
            have fin := fin _ _ hF
            clear go
            refine Run2.of I 1000 ?_
            simp -implicitDefEqProofs [hlt, hne, hne', hjt, hjo, hk, htf, hc1, hc2, ho0]
            refine ⟨by omega, by omega, by omega, by omega, by omega, ?_⟩
            simpa [List.map_set, iv] using fin
          · rw [kLoop_go hns (by simp only; rw [hog]; exact ho0)] at hF
            simp only at hF
            rw [hog] at hF
            have hfs := fls_set t j (by rw [htg.symm] at htf; exact htf)
            have hox' := hox _ (List.getElem_mem hjo)
            have hcall := ihn o[j].toNat o (t.set j true) (by omega) ho (by simpa using ht) hox (by omega)
            have hsp := kt_spec (cl u v m) v.length n o[j].toNat (o, t.set j true) ⟨ho, by simpa using ht⟩ (by simp only; omega)
            rw [show ((o[j].toNat : Nat) : Int) = o[j] by omega] at hcall
            generalize kt (cl u v m) v.length n o[j].toNat (o, t.set j true) = G at *
            obtain ⟨b, o2, t2⟩ := G
            simp only at hcall hsp
            refine Run2.of I 1000 ?_
            simp -implicitDefEqProofs [hlt, hne, hne', hjt, hjo, hk, htf, hc1, hc2, ho0]
            simp only [List.map_set] at hcall
            refine ⟨by omega, by omega, by omega, by omega, by omega, hcall.mono ?_⟩
            rintro w h' ⟨rfl, rfl⟩
            cases b with
            | true =>
              have hs := hsp.1 rfl
              have h2 := hs.ok.1
              have fin := fin _ _ hF
              clear go
              simp only at h2
              have hj2 : j < o2.length := by omega
              refine gK.go ?_
              simp -implicitDefEqProofs [hne, hne', hj2]
              exact ⟨hlt, by simpa [List.map_set, iv] using fin⟩
            | false =>
              obtain ⟨hs, _, hfl⟩ := hsp.2 rfl
              have h2 := hs.ok.2
              have h3 := hs.same
              simp only at h2 h3 hfl
              subst h3
              have go := go t2 h2 (by omega) hF
              refine gK.go ?_
              simp -implicitDefEqProofs
              exact ⟨by omega, by simpa using go⟩
        · have hc : cl u v m k j = false := by simpa using hc
          have hc1 : m < 2 * max (absI (u[k].t - v[j].t)) (absI (u[k].s - v[j].s)) := by rw [hcl] at hc; simpa using hc
          rw [kLoop_skip (.inr hc)] at hF
          have go := go t ht hf hF
          refine Run2.of I 1000 ?_
          simp -implicitDefEqProofs [hlt, hne, hne', hjt, hjo, hk, htf, hc1]
          exact ⟨by omega, by omega, by omega, by omega, by omega, by omega, by simpa using go⟩
    · have hjn : j = v.length := by omega
      rw [List.drop_of_length_le (by simp; omega)] at hF
      have fin := fin _ _ hF
      refine Run2.of I 1000 ?_
      simp -implicitDefEqProofs [hlt]
      exact fin
/-- All that are too long for none get a partner. -/
def canM (u v : List T) (m : Int) : Bool := kAll (cl u v m) v.length ((List.range u.length).filter (lg u m)) (List.replicate v.length (-1))
theorem KSucc.lt {adj : Nat → Nat → Bool} {R k A : Nat} {s s' : KS} (h : KSucc adj R k s s') (hk : k < A) (ho : ∀ x ∈ s.1, x < (A : Int)) : ∀ x ∈ s'.1, x < (A : Int) := fun x hx => by
  by_cases h0 : x < 0
  · omega
  · have hc := h.cnt x.toNat
    rw [show ((x.toNat : Nat) : Int) = x by omega] at hc
    have := List.count_pos_iff.2 hx
    by_cases hxk : x.toNat = k
    · omega
    · rw [if_neg hxk] at hc
      exact ho x (List.count_pos_iff.1 (by omega))
abbrev k77_o0 : List AJ := [.o ⟨(some 6), none, false, .mv (.c (.bool false)), (some [0, 1, 2])⟩]
abbrev k77_o1 : List AJ := [.o ⟨(some 11), none, false, .mv (.t 1), none⟩, .o ⟨(some 12), none, false, .len (.t 11), none⟩, .o ⟨(some 13), none, false, .mksl 1 8 (.int .i64 0) (.t 12) (.t 12), none⟩, .o ⟨(some 7), none, false, .mv (.t 13), (some [0, 1, 2, 7])⟩]
abbrev k77_o2 : List AJ := [.o ⟨(some 14), none, false, .mv (.t 7), none⟩, .o ⟨(some 15), none, false, .len (.t 14), none⟩, .o ⟨(some 16), none, false, .mv (.c (.int .i64 0)), (some [0, 1, 2, 7, 15, 16])⟩]
abbrev k77_o3 : List AJ := [.o ⟨(some 17), none, false, .bin .lss (.t 16) (.t 15), (some [0, 1, 2, 7, 15, 16, 17])⟩]
abbrev k77_o4 : List AJ := [.o ⟨(some 18), none, false, .mv (.t 16), none⟩, .o ⟨(some 8), none, false, .mv (.t 18), (some [0, 1, 2, 7, 8, 15, 16])⟩]
abbrev k77_o5 : List AJ := [.o ⟨(some 19), none, false, .mv (.t 7), none⟩, .o ⟨(some 20), none, false, .mv (.t 8), none⟩, .o ⟨(some 21), none, false, .idxA 1 (.t 19) (.t 20), none⟩, .o ⟨none, none, false, .store 1 (.t 21) (.c (.int .i64 (-1))), (some [0, 1, 2, 7, 15, 16])⟩]
def k77_6 : ACode := .region k77_o5
def k77_7 : ACode := .seq (.region k77_o4) k77_6
abbrev k77_o6 : List AJ := [.o ⟨(some 22), none, true, .bin .add (.t 16) (.c (.int .i64 1)), none⟩, .o ⟨(some 16), none, false, .mv (.t 22), (some [0, 1, 2, 7, 15, 16])⟩]
def k77_9 : ACode := .region k77_o6
def k77_10 : ACode := .seq (.block 1 k77_7) k77_9
def k77_11 : ACode := .seq (.cond (.t 17) .skip (.exit 0)) k77_10
def k77_12 : ACode := .seq (.region k77_o3) k77_11
def k77_13 : ACode := .loop k77_12
def k77_14 : ACode := .block 0 k77_13
def k77_15 : ACode := .seq (.region k77_o2) k77_14
abbrev k77_o7 : List AJ := [.o ⟨(some 23), none, false, .mv (.t 0), none⟩, .o ⟨(some 24), none, false, .len (.t 23), none⟩, .o ⟨(some 25), none, false, .mv (.c (.int .i64 0)), (some [0, 1, 2, 7, 23, 24, 25])⟩]
abbrev k77_o8 : List AJ := [.o ⟨(some 26), none, false, .bin .lss (.t 25) (.t 24), (some [0, 1, 2, 7, 23, 24, 25, 26])⟩]
abbrev k77_o9 : List AJ := [.o ⟨(some 27), none, false, .mv (.t 25), none⟩, .o ⟨(some 28), none, false, .idxA 3 (.t 23) (.t 25), none⟩, .o ⟨(some 29), none, false, .load 3 true (.t 28), none⟩, .v 10 3 (.agg [(.int .i64 0), (.int .i64 0), (.int .i64 0)]) [(9, (.t 27))] (.t 29) (some [0, 1, 2, 7, 9, 10, 23, 24, 25])]
abbrev k77_o10 : List AJ := [.o ⟨(some 30), none, false, .fieldA 2 (.t 10), none⟩, .o ⟨(some 31), none, false, .load 1 false (.t 30), none⟩, .o ⟨(some 32), none, false, .fieldA 1 (.t 10), none⟩, .o ⟨(some 33), none, false, .load 1 false (.t 32), none⟩, .o ⟨(some 34), none, true, .bin .sub (.t 31) (.t 33), none⟩, .o ⟨(some 35), none, false, .mv (.t 2), none⟩, .o ⟨(some 36), none, false, .bin .gtr (.t 34) (.t 35), none⟩, .o ⟨(some 37), none, false, .mv (.t 36), none⟩, .o ⟨(some 38), (some (37, true)), false, .mv (.t 0), none⟩, .o ⟨(some 39), (some (37, true)), false, .mv (.t 1), none⟩, .o ⟨(some 40), (some (37, true)), false, .mv (.t 9), (some [0, 1, 2, 7, 23, 24, 25, 37, 38, 39, 40])⟩, .o ⟨(some 41), (some (37, true)), false, .mv (.t 2), none⟩, .o ⟨(some 42), (some (37, true)), false, .mv (.t 7), none⟩, .o ⟨(some 43), (some (37, true)), false, .mv (.t 1), none⟩, .o ⟨(some 44), (some (37, true)), false, .len (.t 43), none⟩, .o ⟨(some 45), (some (37, true)), false, .mksl 1 1 (.bool false) (.t 44) (.t 44), none⟩, .o ⟨(some 46), (some (37, true)), false, .call 125 [(.t 38), (.t 39), (.t 40), (.t 41), (.t 42), (.t 45)], none⟩, .o ⟨(some 47), (some (37, true)), false, .un .not (.t 46), (some [0, 1, 2, 7, 23, 24, 25, 37, 47])⟩, .o ⟨(some 48), none, false, .pick (.t 37) (.t 47) (.c (.bool false)), (some [0, 1, 2, 7, 23, 24, 25, 48])⟩]
abbrev k77_o11 : List AJ := [.o ⟨(some 6), none, false, .mv (.c (.bool false)), (some [6])⟩]
def k77_22 : ACode := .seq (.region k77_o11) .ret
def k77_23 : ACode := .cond (.t 48) k77_22 .skip
def k77_24 : ACode := .seq (.region k77_o10) k77_23
def k77_25 : ACode := .seq (.region k77_o9) k77_24
abbrev k77_o12 : List AJ := [.o ⟨(some 49), none, true, .bin .add (.t 25) (.c (.int .i64 1)), none⟩, .o ⟨(some 25), none, false, .mv (.t 49), (some [0, 1, 2, 7, 23, 24, 25])⟩]
def k77_27 : ACode := .region k77_o12
def k77_28 : ACode := .seq (.block 3 k77_25) k77_27
def k77_29 : ACode := .seq (.cond (.t 26) .skip (.exit 2)) k77_28
def k77_30 : ACode := .seq (.region k77_o8) k77_29
def k77_31 : ACode := .loop k77_30
def k77_32 : ACode := .block 2 k77_31
def k77_33 : ACode := .seq (.region k77_o7) k77_32
abbrev k77_o13 : List AJ := [.o ⟨(some 6), none, false, .mv (.c (.bool true)), (some [6])⟩]
def k77_35 : ACode := .seq (.region k77_o13) .ret
def k77_36 : ACode := .seq k77_33 k77_35
def k77_37 : ACode := .seq k77_15 k77_36
def k77_38 : ACode := .seq (.region k77_o1) k77_37
def k77_39 : ACode := .seq (.region k77_o0) k77_38
@[simp, simp ↓] theorem k77_6r : rR k77_6 k77_o5 := zR rfl
@[simp, simp ↓] theorem k77_7r : sR k77_7 k77_o4 k77_6 := yR rfl
@[simp, simp ↓] theorem k77_9r : rR k77_9 k77_o6 := zR rfl
@[simp, simp ↓] theorem k77_10r : sB k77_10 1 k77_7 k77_9 := yB rfl
@[simp, simp ↓] theorem k77_11r : sC k77_11 (.t 17) .skip (.exit 0) k77_10 := yC rfl
@[simp, simp ↓] theorem k77_12r : sR k77_12 k77_o3 k77_11 := yR rfl
@[simp, simp ↓] theorem k77_13r : rL k77_13 k77_12 := zL rfl
@[simp, simp ↓] theorem k77_14r : rB k77_14 0 k77_13 := zB rfl
@[simp, simp ↓] theorem k77_15r : sR k77_15 k77_o2 k77_14 := yR rfl
@[simp, simp ↓] theorem k77_22r : sR k77_22 k77_o11 .ret := yR rfl
@[simp, simp ↓] theorem k77_23r : rC k77_23 (.t 48) k77_22 .skip := zC rfl
@[simp, simp ↓] theorem k77_24r : sR k77_24 k77_o10 k77_23 := yR rfl
@[simp, simp ↓] theorem k77_25r : sR k77_25 k77_o9 k77_24 := yR rfl
@[simp, simp ↓] theorem k77_27r : rR k77_27 k77_o12 := zR rfl
@[simp, simp ↓] theorem k77_28r : sB k77_28 3 k77_25 k77_27 := yB rfl
@[simp, simp ↓] theorem k77_29r : sC k77_29 (.t 26) .skip (.exit 2) k77_28 := yC rfl
@[simp, simp ↓] theorem k77_30r : sR k77_30 k77_o8 k77_29 := yR rfl
@[simp, simp ↓] theorem k77_31r : rL k77_31 k77_30 := zL rfl
@[simp, simp ↓] theorem k77_32r : rB k77_32 2 k77_31 := zB rfl
@[simp, simp ↓] theorem k77_33r : sR k77_33 k77_o7 k77_32 := yR rfl
@[simp, simp ↓] theorem k77_35r : sR k77_35 k77_o13 .ret := yR rfl
@[simp, simp ↓] theorem k77_36r : rS k77_36 k77_33 k77_35 := zS rfl
@[simp, simp ↓] theorem k77_37r : rS k77_37 k77_15 k77_36 := zS rfl
@[simp, simp ↓] theorem k77_38r : sR k77_38 k77_o1 k77_37 := yR rfl
@[simp, simp ↓] theorem k77_39r : sR k77_39 k77_o0 k77_38 := yR rfl
noncomputable abbrev k77_C : Orc → Cx := mkC Try.prog [10] 77 50 [.tmp 6]
theorem k77_of : OfP Try.prog Try.f77 77 50 k77_C k77_39 := @ofP _ _ _ _ _ _ _ _ Try.func77 (by decide +kernel) rfl (by kernel_rfl) rfl (by kernel_rfl)
theorem canMatch_s (u v : List T) (hu : finU u) (hv : finU v) (m : Int) (hm : 0 ≤ m ∧ m ≤ 10000) (h : Heap) : ACalls Try.prog 77 [.snap 3 (u.map T.av), .snap 3 (v.map T.av), .int .i64 m] h (fun w h' => w = .bool (canM u v m) ∧ h' = h) := by
  have hu24 := hu.1
  have hv24 := hv.1
  refine k77_of rfl noPure fun I => ?_
  refine Run2.of I 1000 ?_
  simp -implicitDefEqProofs
  refine ⟨by omega, fun ido hido => ?_⟩
  refine Run2.loopE (fun (i : Nat) => [(0, .snap 3 (u.map T.av)), (1, .snap 3 (v.map T.av)), (2, .int .i64 m), (7, .sl ido 1 0 v.length (some v.length)), (15, .int .i64 v.length), (16, .int .i64 i)])
    (fun i => (ido, ⟨1, (List.replicate i (-1 : Int) ++ List.replicate (v.length - i) 0).map iv⟩) :: h) (fun i => v.length - i) (fun i => i ≤ v.length) 0 (by simp) (by simp [iv]) (Nat.zero_le _) fun i hi ih => ?_
  by_cases hlt : i < v.length
  · have go := ih (i + 1) hlt (by omega)
    clear ih
    have hset : ((List.replicate i (-1 : Int) ++ List.replicate (v.length - i) 0).map iv).set i (.int .i64 (-1)) = (List.replicate (i + 1) (-1 : Int) ++ List.replicate (v.length - (i + 1)) 0).map iv := by
      have : (List.replicate i (-1 : Int) ++ List.replicate (v.length - i) 0).set i (-1) = List.replicate (i + 1) (-1 : Int) ++ List.replicate (v.length - (i + 1)) 0 := by
        obtain ⟨d, hd⟩ : ∃ d, v.length - i = d + 1 := ⟨v.length - i - 1, by omega⟩
        rw [hd, show v.length - (i + 1) = d by omega, List.set_append_right _ _ (by simp), List.length_replicate, Nat.sub_self, List.replicate_succ (n := d), List.set_cons_zero, List.replicate_succ' (n := i), List.append_assoc, List.singleton_append]
      rw [← this, List.map_set]; rfl
    have hlen : ((List.replicate i (-1 : Int) ++ List.replicate (v.length - i) 0).map iv).length = v.length := by simp; omega
    generalize (List.replicate i (-1 : Int) ++ List.replicate (v.length - i) 0).map iv = X at *
    refine Run2.of I 1000 ?_
    simp -implicitDefEqProofs [hlt, hlen, hset]
    exact ⟨by omega, by simpa using go⟩
  · obtain rfl : i = v.length := by omega
    rw [Nat.sub_self, List.replicate_zero, List.append_nil]
    clear ih
    refine Run2.of I 1000 ?_
    simp -implicitDefEqProofs
    obtain ⟨F, hF⟩ : ∃ F, F = canM u v m := ⟨_, rfl⟩
    rw [← hF]
    refine Run2.loopE (α := Nat × List Int) (fun s => [(0, .snap 3 (u.map T.av)), (1, .snap 3 (v.map T.av)), (2, .int .i64 m), (7, .sl ido 1 0 v.length (some v.length)), (23, .snap 3 (u.map T.av)), (24, .int .i64 u.length), (25, .int .i64 (s.1 : Nat))])
      (fun s => (ido, ⟨1, s.2.map iv⟩) :: h) (fun s => u.length - s.1) (fun s => s.1 ≤ u.length ∧ s.2.length = v.length ∧ (∀ x ∈ s.2, x < (u.length : Int)) ∧ F = kAll (cl u v m) v.length (((List.range u.length).drop s.1).filter (lg u m)) s.2)
      (0, List.replicate v.length (-1)) (by simp) (by simp) ⟨Nat.zero_le _, by simp, fun x hx => by have := List.eq_of_mem_replicate hx; omega, by simpa [canM] using hF⟩ ?_
    clear hF hi
    rintro ⟨k, o⟩ ⟨hk, ho, hox, hF⟩ ih
    replace hk : k ≤ u.length := hk
    simp only at ho hox hF ih ⊢
    by_cases hlt : k < u.length
    · have hdrop : (List.range u.length).drop k = k :: (List.range u.length).drop (k + 1) := by
        rw [List.drop_eq_getElem_cons (by simpa using hlt)]; simp
      rw [hdrop, List.filter_cons] at hF
      have hbu := hu.2 _ (List.getElem_mem hlt)
      have hlg : lg u m k = decide (m < u[k].s - u[k].t) := by
        unfold lg
        rw [show u.getD k T0 = u[k] by simp [hlt]]
      have go := fun (o' : List Int) (h1 : o'.length = v.length) (h2 : ∀ x ∈ o', x < (u.length : Int)) (h3 : F = kAll (cl u v m) v.length (((List.range u.length).drop (k + 1)).filter (lg u m)) o') => ih (k + 1, o') ⟨hlt, h1, h2, h3⟩ (by simp; omega)
      clear ih
      simp only at go
      by_cases hl : m < u[k].s - u[k].t
      · rw [hlg, if_pos (by simpa using hl), kAll] at hF
        refine Run2.of I 1000 ?_
        simp -implicitDefEqProofs [hlt, hl]
        refine ⟨by omega, by omega, fun idt hidt hid2 => ?_⟩
        have hcall := partner_w u v hu hv m hm ido idt hidt h (v.length + 1) k o (List.replicate v.length false) hlt ho (by simp) hox (by rw [fls_rep]; omega)
        have hsp := kt_spec (cl u v m) v.length (v.length + 1) k (o, List.replicate v.length false) ⟨ho, by simp⟩ (by simp only; rw [fls_rep]; omega)
        generalize kt (cl u v m) v.length (v.length + 1) k (o, List.replicate v.length false) = G at *
        obtain ⟨b, o2, t2⟩ := G
        simp only [List.map_replicate] at hcall hsp
        refine gK.go ?_
        simp -implicitDefEqProofs
        refine hcall.mono ?_
        rintro w h' ⟨rfl, rfl⟩
        cases b with
        | true =>
          have hs := hsp.1 rfl
          have go := go o2 hs.ok.1 (hs.lt hlt hox) hF
          refine gK.go ?_
          simp -implicitDefEqProofs
          refine ⟨by omega, Run2.sub (h' := (ido, ⟨1, o2.map iv⟩) :: h) (fun p hp => List.mem_cons_of_mem _ hp) (fun nd => ?_) (by simpa using go)⟩
          simp only [dom, List.map_cons, List.nodup_cons] at nd ⊢
          exact nd.2
        | false =>
          replace hF : F = false := hF
          refine gK.go ?_
          simp -implicitDefEqProofs
          refine .drop idt (.drop ido (.base ⟨by rw [hF], ?_⟩))
          simp [hdel]
      · rw [hlg, if_neg (by simpa using hl)] at hF
        have go := go o ho hox hF
        refine Run2.of I 1000 ?_
        simp -implicitDefEqProofs [hlt, hl]
        exact ⟨by omega, by omega, by simpa using go⟩
    · rw [List.drop_of_length_le (by simp; omega)] at hF
      replace hF : F = true := by simpa [kAll] using hF
      refine Run2.of I 1000 ?_
      simp -implicitDefEqProofs [hlt]
      exact .drop ido (.base ⟨by rw [hF], by simp [hdel]⟩)
end Go.AG
