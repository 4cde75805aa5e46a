/- Exchanges, one round after the other. No statement is made here. -/
import Derived.Test.YtpndpligcphonaaCtS
namespace Go.AG
open Go.Proofs Go.Proofs.Ytpndpligcphonaa
set_option linter.unusedSimpArgs false
set_option linter.unusedVariables false
set_option maxRecDepth 4000
section
variable {α : Type} (x : Gr) (step : α → T → α)
def runR (a : α) (r : List Int) : α := r.foldl (fun a k => step a (x.e k)) a
def runT (rs : List (List Int)) (a : α) (t : Nat) : α := if rs = [] then a else (List.range t).foldl (fun a i => runR x step a (rs.getD (i % rs.length) [])) a
theorem runR_succ (a : α) (r : List Int) {j : Nat} (h : j < r.length) : runR x step a (r.take (j + 1)) = step (runR x step a (r.take j)) (x.e r[j]) := by
  unfold runR
  rw [List.take_succ_eq_append_getElem h, List.foldl_append]; rfl
theorem runT_succ {rs : List (List Int)} (hne : rs ≠ []) (a : α) (t : Nat) : runT x step rs a (t + 1) = runR x step (runT x step rs a t) (rs.getD (t % rs.length) []) := by
  unfold runT
  rw [if_neg hne, if_neg hne, List.range_succ, List.foldl_append]; rfl
theorem runT_nil (a : α) (t : Nat) : runT x step [] a t = a := rfl
theorem runT_zero (rs : List (List Int)) (a : α) : runT x step rs a 0 = a := by
  unfold runT; split <;> rfl
theorem runR_inv {Inv : α → Prop} (hf : ∀ a e, e ∈ x.ts → Inv a → Inv (step a e)) {r : List Int} (hr : ∀ k ∈ r, x.inR k) {a : α} (ha : Inv a) : Inv (runR x step a r) := by
  induction r generalizing a with
  | nil => exact ha
  | cons k r ih =>
    obtain ⟨h1, h2⟩ := Gr.e_at (hr k (List.mem_cons_self ..))
    exact ih (fun k hk => hr k (List.mem_cons_of_mem _ hk)) (hf a _ (by rw [h2]; exact List.getElem_mem h1) ha)
theorem runT_inv {Inv : α → Prop} (hf : ∀ a e, e ∈ x.ts → Inv a → Inv (step a e)) {rs : List (List Int)} (hr : ∀ r ∈ rs, ∀ k ∈ r, x.inR k) {a : α} (ha : Inv a) : ∀ t, Inv (runT x step rs a t)
  | 0 => by rw [runT_zero]; exact ha
  | t + 1 => by
    by_cases hne : rs = []
    · subst hne; exact ha
    · rw [runT_succ x step hne]
      refine runR_inv x step hf ?_ (runT_inv hf hr ha t)
      have hlt : t % rs.length < rs.length := Nat.mod_lt _ (List.length_pos_iff.2 hne)
      have : rs.getD (t % rs.length) [] = rs[t % rs.length] := by simp [hlt]
      rw [this]
      exact hr _ (List.getElem_mem hlt)
end
abbrev k34_o0 : List AJ := [.o ⟨(some 4), none, false, .box false 2 (.t 0), (some [1, 2, 3, 4])⟩]
abbrev k34_o1 : List AJ := [.o ⟨(some 8), none, false, .mv (.c (.int .i64 0)), (some [1, 2, 3, 4, 8])⟩]
abbrev k34_o2 : List AJ := [.o ⟨(some 11), none, false, .mv (.t 8), none⟩, .o ⟨(some 12), none, false, .mv (.t 2), none⟩, .o ⟨(some 13), none, false, .bin .lss (.t 11) (.t 12), none⟩, .o ⟨(some 14), none, false, .mv (.t 13), none⟩, .o ⟨(some 15), (some (14, true)), false, .mv (.t 1), none⟩, .o ⟨(some 16), (some (14, true)), false, .len (.t 15), none⟩, .o ⟨(some 17), (some (14, true)), false, .bin .gtr (.t 16) (.c (.int .i64 0)), none⟩, .o ⟨(some 18), none, false, .pick (.t 14) (.t 17) (.c (.bool false)), (some [1, 2, 3, 4, 8, 18])⟩]
def k34_3 : ACode := .cond (.t 18) .skip (.exit 0)
def k34_4 : ACode := .seq (.region k34_o2) k34_3
abbrev k34_o3 : List AJ := [.o ⟨(some 21), none, false, .mv (.t 1), none⟩, .o ⟨(some 22), none, false, .mv (.t 8), none⟩, .o ⟨(some 23), none, false, .mv (.t 1), none⟩, .o ⟨(some 24), none, false, .call 50 [(.t 23)], none⟩, .o ⟨(some 25), none, false, .bin .rem (.t 22) (.t 24), none⟩, .o ⟨(some 26), none, false, .idxA 1 (.t 21) (.t 25), none⟩, .o ⟨(some 27), none, false, .load 1 false (.t 26), none⟩, .o ⟨(some 28), none, false, .len (.t 27), none⟩, .o ⟨(some 29), none, false, .mv (.c (.int .i64 0)), (some [1, 2, 3, 4, 8, 27, 28, 29])⟩]
abbrev k34_o4 : List AJ := [.o ⟨(some 30), none, false, .bin .lss (.t 29) (.t 28), (some [1, 2, 3, 4, 8, 27, 28, 29, 30])⟩]
abbrev k34_o5 : List AJ := [.o ⟨(some 31), none, false, .idxA 1 (.t 27) (.t 29), none⟩, .o ⟨(some 32), none, false, .load 1 false (.t 31), none⟩, .o ⟨(some 10), none, false, .mv (.t 32), (some [1, 2, 3, 4, 8, 10, 27, 28, 29])⟩]
abbrev k34_o6 : List AJ := [.o ⟨(some 33), none, false, .mv (.t 3), none⟩, .o ⟨(some 34), none, false, .fieldA 1 (.t 4), none⟩, .o ⟨(some 35), none, false, .load 1 false (.t 34), none⟩, .o ⟨(some 36), none, false, .mv (.t 10), none⟩, .o ⟨(some 37), none, false, .idxA 3 (.t 35) (.t 36), none⟩, .o ⟨(some 38), none, false, .load 3 true (.t 37), none⟩, .o ⟨(some 39), none, false, .callv (.t 33) [(.t 38)], (some [1, 2, 3, 4, 8, 27, 28, 29])⟩]
def k34_9 : ACode := .region k34_o6
def k34_10 : ACode := .seq (.region k34_o5) k34_9
abbrev k34_o7 : List AJ := [.o ⟨(some 40), none, true, .bin .add (.t 29) (.c (.int .i64 1)), none⟩, .o ⟨(some 29), none, false, .mv (.t 40), (some [1, 2, 3, 4, 8, 27, 28, 29])⟩]
def k34_12 : ACode := .region k34_o7
def k34_13 : ACode := .seq (.block 3 k34_10) k34_12
def k34_14 : ACode := .seq (.cond (.t 30) .skip (.exit 2)) k34_13
def k34_15 : ACode := .seq (.region k34_o4) k34_14
def k34_16 : ACode := .loop k34_15
def k34_17 : ACode := .block 2 k34_16
def k34_18 : ACode := .seq (.region k34_o3) k34_17
abbrev k34_o8 : List AJ := [.o ⟨(some 19), none, false, .mv (.t 8), none⟩, .o ⟨(some 20), none, true, .bin .add (.t 19) (.c (.int .i64 1)), none⟩, .o ⟨(some 8), none, false, .mv (.t 20), (some [1, 2, 3, 4, 8])⟩]
def k34_20 : ACode := .region k34_o8
def k34_21 : ACode := .seq (.block 1 k34_18) k34_20
def k34_22 : ACode := .seq k34_4 k34_21
def k34_23 : ACode := .loop k34_22
def k34_24 : ACode := .block 0 k34_23
def k34_25 : ACode := .seq (.region k34_o1) k34_24
def k34_26 : ACode := .seq (.region k34_o0) k34_25
@[simp, simp ↓] theorem k34_3r : rC k34_3 (.t 18) .skip (.exit 0) := zC rfl
@[simp, simp ↓] theorem k34_4r : sR k34_4 k34_o2 k34_3 := yR rfl
@[simp, simp ↓] theorem k34_9r : rR k34_9 k34_o6 := zR rfl
@[simp, simp ↓] theorem k34_10r : sR k34_10 k34_o5 k34_9 := yR rfl
@[simp, simp ↓] theorem k34_12r : rR k34_12 k34_o7 := zR rfl
@[simp, simp ↓] theorem k34_13r : sB k34_13 3 k34_10 k34_12 := yB rfl
@[simp, simp ↓] theorem k34_14r : sC k34_14 (.t 30) .skip (.exit 2) k34_13 := yC rfl
@[simp, simp ↓] theorem k34_15r : sR k34_15 k34_o4 k34_14 := yR rfl
@[simp, simp ↓] theorem k34_16r : rL k34_16 k34_15 := zL rfl
@[simp, simp ↓] theorem k34_17r : rB k34_17 2 k34_16 := zB rfl
@[simp, simp ↓] theorem k34_18r : sR k34_18 k34_o3 k34_17 := yR rfl
@[simp, simp ↓] theorem k34_20r : rR k34_20 k34_o8 := zR rfl
@[simp, simp ↓] theorem k34_21r : sB k34_21 1 k34_18 k34_20 := yB rfl
@[simp, simp ↓] theorem k34_22r : rS k34_22 k34_4 k34_21 := zS rfl
@[simp, simp ↓] theorem k34_23r : rL k34_23 k34_22 := zL rfl
@[simp, simp ↓] theorem k34_24r : rB k34_24 0 k34_23 := zB rfl
@[simp, simp ↓] theorem k34_25r : sR k34_25 k34_o1 k34_24 := yR rfl
@[simp, simp ↓] theorem k34_26r : sR k34_26 k34_o0 k34_25 := yR rfl
noncomputable abbrev k34_C : Orc → Cx := mkC Try.prog [] 34 41 []
theorem k34_of0 : OfP0 Try.prog Try.f34 34 41 k34_C k34_26 := @ofP0 _ _ _ _ _ _ _ _ Try.func34 (by decide +kernel) rfl (by kernel_rfl) rfl (by kernel_rfl)
theorem exchanges_w {α : Type} (H : α → Heap) (step : α → T → α) (Inv : α → Prop) (x : Gr) (rs : List (List Int)) (times : Int) (g : FuncId) (caps : List AV) (a0 : α) (h0 : Inv a0) (hr : ssTot rs ≤ 1048576) (hin : ∀ r ∈ rs, ∀ k ∈ r, x.inR k) (ht : 0 ≤ times ∧ times ≤ 1073741824)
    (hf : ∀ a (e : T), e ∈ x.ts → Inv a → ACalls Try.prog g (e.av :: caps) (H a) (fun v h' => v = .tup [] ∧ h' = H (step a e)) ∧ Inv (step a e)) :
    ACalls Try.prog 34 [x.av, .snap 1 (rs.map il), .int .i64 times, .fn g caps] (H a0) (fun v h' => v = .tup [] ∧ h' = H (runT x step rs a0 times.toNat)) := by
  have hn := (fit_of_tot hr).1
  refine k34_of0 rfl noPure fun I => ?_
  refine Run2.of I 1000 ?_
  simp -implicitDefEqProofs
  by_cases hne : rs = []
  · subst hne
    rw [runT_nil]
    refine Run2.loopE (α := Unit) (fun _ => [(1, .snap 1 []), (2, .int .i64 times), (3, .fn g caps), (4, .ip [.int .i64 x.n, .snap 3 (x.ts.map T.av)]), (8, .int .i64 0)]) (fun _ => H a0) (fun _ => 0) (fun _ => True) () (by simp) rfl trivial fun _ _ _ => ?_
    refine Run2.of I 1000 ?_
    simp -implicitDefEqProofs
  have hpos : 0 < rs.length := List.length_pos_iff.2 hne
  refine Run2.loopE (fun (i : Nat) => [(1, .snap 1 (rs.map il)), (2, .int .i64 times), (3, .fn g caps), (4, .ip [.int .i64 x.n, .snap 3 (x.ts.map T.av)]), (8, .int .i64 i)]) (fun i => H (runT x step rs a0 i)) (fun i => times.toNat - i) (fun i => i ≤ times.toNat) 0 (by simp) (by rw [runT_zero]) (Nat.zero_le _) fun i hi ih => ?_
  have hInv := runT_inv x step (fun a e he ha => (hf a e he ha).2) hin h0 i
  by_cases hlt : i < times.toNat
  · have hlt' : (i : Int) < times := by omega
    have hm : i % rs.length < rs.length := Nat.mod_lt _ hpos
    have htm : (i : Int).tmod rs.length = ((i % rs.length : Nat) : Int) := by rw [Int.tmod_eq_emod_of_nonneg (by omega)]; rfl
    have go := ih (i + 1) (by omega) (by omega)
    rw [runT_succ x step hne] at go
    have hgd : rs.getD (i % rs.length) [] = rs[i % rs.length] := by simp [hm]
    have hrl := (fit_of_tot hr).2 _ (List.getElem_mem hm)
    have hri := hin _ (List.getElem_mem hm)
    rw [hgd] at go
    clear ih
    generalize hr0 : rs[i % rs.length] = r at *
    generalize hA : runT x step rs a0 i = a at *
    refine Run2.of I 1000 ?_
    have htn : ((i : Int) % (rs.length : Int)).toNat = i % rs.length := by
      rw [show ((i : Int) % (rs.length : Int)) = ((i % rs.length : Nat) : Int) from rfl]; rfl
    simp -implicitDefEqProofs [hlt', hpos, hne]
    refine (sizeLL_s rs _).mono ?_
    rintro v h' ⟨rfl, rfl⟩
    refine gK.go ?_
    simp -implicitDefEqProofs [hlt', hpos, htm, htn, hm, hr0, hne]
    refine ⟨by omega, ?_⟩
    refine Run2.loopE (fun (j : Nat) => [(1, .snap 1 (rs.map il)), (2, .int .i64 times), (3, .fn g caps), (4, .ip [.int .i64 x.n, .snap 3 (x.ts.map T.av)]), (8, .int .i64 i), (27, .snap 1 (r.map iv)), (28, .int .i64 r.length), (29, .int .i64 j)]) (fun j => H (runR x step a (r.take j))) (fun j => r.length - j) (fun j => j ≤ r.length) 0 (by simp) (by simp [runR]) (Nat.zero_le _) fun j hj ihj => ?_
    by_cases hlt2 : j < r.length
    · have goj := ihj (j + 1) (by omega) (by omega)
      rw [runR_succ x step a r hlt2] at goj
      have hInvj := runR_inv x step (fun a e he ha => (hf a e he ha).2) (r := r.take j) (fun k hk => hri k (List.mem_of_mem_take hk)) hInv
      have hk := hri _ (List.getElem_mem hlt2)
      obtain ⟨e1, e2⟩ := Gr.e_at hk
      have e0 := hk.1
      have hcall := (hf _ _ (List.getElem_mem e1) hInvj).1
      rw [e2] at goj
      clear ihj
      refine Run2.of I 1000 ?_
      simp -implicitDefEqProofs [hlt2, e0, e1]
      refine ACalls.mono (by simpa using hcall) ?_
      rintro v h' ⟨rfl, rfl⟩
      refine gK.go ?_
      simp -implicitDefEqProofs
      refine ⟨by omega, ?_⟩
      simpa using goj
    · obtain rfl : j = r.length := by omega
      rw [List.take_length]
      refine Run2.of I 1000 ?_
      simp -implicitDefEqProofs
      refine ⟨by omega, ?_⟩
      simpa using go
  · have hie : i = times.toNat := by omega
    subst hie
    have hlt' : ¬ ((times.toNat : Int) < times) := by omega
    refine Run2.of I 1000 ?_
    simp -implicitDefEqProofs [hlt']
    intro h1
    exfalso; omega
end Go.AG
