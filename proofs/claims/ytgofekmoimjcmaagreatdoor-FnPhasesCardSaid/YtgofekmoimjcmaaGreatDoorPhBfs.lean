/- The program's phases along a forest: the functions that it calls. No statement is made here. -/
import Derived.Test.YtgofekmoimjcmaaGreatDoorPhFor2
import Derived.Test.YtgofekmoimjcmaaGreatDoorPhHolA
namespace Go.AG.P
open Go.Proofs Go.Proofs.YtgofekmoimjcmaaGreatDoor
set_option linter.unusedSimpArgs false
set_option linter.unusedVariables false
set_option maxRecDepth 4000
noncomputable def Ph.fres (x : Ph) : List Int := if x.valid then x.forest else []
noncomputable def Ph.fcode (x : Ph) : Int := if x.valid then 0 else 1
theorem Ph.fres_len (x : Ph) : x.fres.length ≤ x.ts.length := by
  unfold Ph.fres
  split
  · exact fstate_len x _
  · simp
abbrev k68_o0 : List AJ := [.o ⟨(some 2), none, false, .mv (.c .nilsl), (some [0])⟩]
abbrev k68_o1 : List AJ := [.o ⟨(some 3), none, false, .mv (.c .nilsl), (some [0, 3])⟩]
abbrev k68_o2 : List AJ := [.o ⟨(some 5), none, false, .mv (.t 0), none⟩, .o ⟨(some 6), none, false, .mv (.c (.int .i64 0)), (some [3, 5, 6])⟩]
abbrev k68_o3 : List AJ := [.o ⟨(some 7), none, false, .bin .lss (.t 6) (.t 5), (some [3, 5, 6, 7])⟩]
abbrev k68_o4 : List AJ := [.o ⟨(some 8), none, false, .mv (.t 6), none⟩, .o ⟨(some 4), none, false, .mv (.t 8), (some [3, 4, 5, 6])⟩]
abbrev k68_o5 : List AJ := [.o ⟨(some 9), none, false, .mv (.t 3), none⟩, .o ⟨(some 10), none, false, .mv (.t 4), none⟩, .o ⟨(some 11), none, false, .bsl false 1 [(.t 10)], none⟩, .o ⟨(some 12), none, false, .append 1 8 (.t 9) (.t 11), none⟩, .o ⟨(some 3), none, false, .mv (.t 12), (some [3, 5, 6])⟩]
def k68_6 : ACode := .region k68_o5
def k68_7 : ACode := .seq (.region k68_o4) k68_6
abbrev k68_o6 : List AJ := [.o ⟨(some 13), none, true, .bin .add (.t 6) (.c (.int .i64 1)), none⟩, .o ⟨(some 6), none, false, .mv (.t 13), (some [3, 5, 6])⟩]
def k68_9 : ACode := .region k68_o6
def k68_10 : ACode := .seq (.block 1 k68_7) k68_9
def k68_11 : ACode := .seq (.cond (.t 7) .skip (.exit 0)) k68_10
def k68_12 : ACode := .seq (.region k68_o3) k68_11
def k68_13 : ACode := .loop k68_12
def k68_14 : ACode := .block 0 k68_13
def k68_15 : ACode := .seq (.region k68_o2) k68_14
abbrev k68_o7 : List AJ := [.o ⟨(some 14), none, false, .mv (.t 3), none⟩, .o ⟨(some 2), none, false, .mv (.t 14), (some [2])⟩]
def k68_17 : ACode := .seq (.region k68_o7) .ret
def k68_18 : ACode := .seq k68_15 k68_17
def k68_19 : ACode := .seq (.region k68_o1) k68_18
def k68_20 : ACode := .seq (.region k68_o0) k68_19
@[simp, simp ↓] theorem k68_6r : rR k68_6 k68_o5 := zR rfl
@[simp, simp ↓] theorem k68_7r : sR k68_7 k68_o4 k68_6 := yR rfl
@[simp, simp ↓] theorem k68_9r : rR k68_9 k68_o6 := zR rfl
@[simp, simp ↓] theorem k68_10r : sB k68_10 1 k68_7 k68_9 := yB rfl
@[simp, simp ↓] theorem k68_11r : sC k68_11 (.t 7) .skip (.exit 0) k68_10 := yC rfl
@[simp, simp ↓] theorem k68_12r : sR k68_12 k68_o3 k68_11 := yR rfl
@[simp, simp ↓] theorem k68_13r : rL k68_13 k68_12 := zL rfl
@[simp, simp ↓] theorem k68_14r : rB k68_14 0 k68_13 := zB rfl
@[simp, simp ↓] theorem k68_15r : sR k68_15 k68_o2 k68_14 := yR rfl
@[simp, simp ↓] theorem k68_17r : sR k68_17 k68_o7 .ret := yR rfl
@[simp, simp ↓] theorem k68_18r : rS k68_18 k68_15 k68_17 := zS rfl
@[simp, simp ↓] theorem k68_19r : sR k68_19 k68_o1 k68_18 := yR rfl
@[simp, simp ↓] theorem k68_20r : sR k68_20 k68_o0 k68_19 := yR rfl
noncomputable abbrev k68_C : Orc → Cx := mkC Tryz.prog [] 68 15 [.tmp 2]
theorem k68_of0 : OfP0 Tryz.prog Tryz.f68 68 15 k68_C k68_20 := @ofP0 _ _ _ _ _ _ _ _ Tryz.func68 (by decide +kernel) rfl (by kernel_rfl) rfl (by kernel_rfl)
theorem firstChoice_w (n : Int) (h : Heap) (hn : n ≤ 1048576) : ACalls Tryz.prog 68 [.int .i64 n] h (fun v h' => ∃ hp, Grow 1 v (((List.range n.toNat).map Int.ofNat).map iv) hp ∧ (∀ j ∈ dom hp, j ∉ dom h) ∧ h' = hp ++ h) := by
  refine k68_of0 rfl noPure fun I => ?_
  refine Run2.of I 1000 ?_
  simp -implicitDefEqProofs
  obtain ⟨N, hN⟩ : ∃ N : Nat, n.toNat = N := ⟨_, rfl⟩
  rw [hN]
  refine Run2.loopE (α := Nat × AV × Heap) (fun s => [(3, s.2.1), (5, .int .i64 n), (6, .int .i64 (s.1 : Nat))]) (fun s => s.2.2 ++ h) (fun s => N - s.1) (fun s => s.1 ≤ N ∧ Grow 1 s.2.1 (((List.range s.1).map Int.ofNat).map iv) s.2.2 ∧ (∀ j ∈ dom s.2.2, j ∉ dom h)) (0, .nilsl, []) (by simp) rfl ⟨Nat.zero_le _, by simpa using Grow.nil, by simp [dom]⟩ ?_
  rintro ⟨i, w, hp⟩ ⟨hi, hg, hd⟩ ih
  simp only at hi hg hd ih ⊢
  by_cases hlt : i < N
  · have hlt' : (i : Int) < n := by omega
    have go := fun w' hp' a b => ih (i + 1, w', hp') ⟨by simp; omega, a, b⟩ (by simp; omega)
    clear ih
    refine Run2.of I 1000 ?_
    simp -implicitDefEqProofs [hlt']
    refine Grow.app_mid (pre := []) (post := h) hg (fun j hj => by simp [dom]) (by simp; omega) (by simp) fun w' hp' hg' hf => ?_
    simp -implicitDefEqProofs
    refine ⟨by omega, ?_⟩
    have := go w' hp' (by simpa [List.range_succ] using hg') (by simpa using hf)
    simpa using this
  · obtain rfl : i = N := by omega
    have hlt' : ¬ (i : Int) < n := by omega
    refine Run2.of I 1000 ?_
    simp -implicitDefEqProofs [hlt']
    exact ⟨by simpa using hg, hd⟩
abbrev k46_o0 : List AJ := [.o ⟨(some 1), none, false, .box false 3 (.t 0), none⟩, .o ⟨(some 2), none, false, .mv (.c .nilsl), (some [1])⟩]
abbrev k46_o1 : List AJ := [.o ⟨(some 10), none, false, .fieldA 0 (.t 1), none⟩, .o ⟨(some 11), none, false, .load 1 false (.t 10), none⟩, .o ⟨(some 12), none, false, .call 68 [(.t 11)], none⟩, .o ⟨(some 3), none, false, .mv (.t 12), (some [1, 3])⟩]
abbrev k46_o2 : List AJ := [.o ⟨(some 4), none, false, .mv (.c .nilsl), (some [1, 3, 4])⟩]
abbrev k46_o3 : List AJ := [.o ⟨(some 13), none, false, .fieldA 2 (.t 1), none⟩, .o ⟨(some 14), none, false, .load 1 false (.t 13), none⟩, .o ⟨(some 15), none, false, .len (.t 14), none⟩, .o ⟨(some 16), none, false, .mv (.c (.int .i64 0)), (some [3, 4, 14, 15, 16])⟩]
abbrev k46_o4 : List AJ := [.o ⟨(some 17), none, false, .bin .lss (.t 16) (.t 15), (some [3, 4, 14, 15, 16, 17])⟩]
abbrev k46_o5 : List AJ := [.o ⟨(some 18), none, false, .mv (.t 16), none⟩, .o ⟨(some 19), none, false, .idxA 3 (.t 14) (.t 16), none⟩, .o ⟨(some 20), none, false, .load 3 true (.t 19), none⟩, .v 6 3 (.agg [(.int .i64 0), (.int .i64 0), (.int .i64 0)]) [(5, (.t 18))] (.t 20) (some [3, 4, 5, 6, 14, 15, 16])]
abbrev k46_o6 : List AI := [⟨(some 21), none, false, .mv (.t 3), none⟩, ⟨(some 22), none, false, .fieldA 0 (.t 6), none⟩, ⟨(some 23), none, false, .load 1 false (.t 22), none⟩, ⟨(some 24), none, false, .idxA 1 (.t 21) (.t 23), none⟩, ⟨(some 25), none, false, .load 1 false (.t 24), none⟩, ⟨(some 26), none, false, .mv (.t 3), none⟩, ⟨(some 27), none, false, .fieldA 1 (.t 6), none⟩, ⟨(some 28), none, false, .load 1 false (.t 27), none⟩, ⟨(some 29), none, false, .idxA 1 (.t 26) (.t 28), none⟩, ⟨(some 30), none, false, .load 1 false (.t 29), none⟩, ⟨(some 7), none, false, .mv (.t 25), none⟩, ⟨(some 8), none, false, .mv (.t 30), (some [3, 4, 5, 7, 8, 14, 15, 16])⟩]
abbrev k46_o7 : List AJ := [.o ⟨(some 31), none, false, .mv (.t 7), none⟩, .o ⟨(some 32), none, false, .mv (.t 8), none⟩, .o ⟨(some 33), none, false, .bin .eql (.t 31) (.t 32), (some [3, 4, 5, 7, 8, 14, 15, 16, 33])⟩]
def k46_9 : ACode := .cond (.t 33) (.exit 1) .skip
def k46_10 : ACode := .seq (.region k46_o7) k46_9
abbrev k46_o8 : List AJ := [.o ⟨(some 34), none, false, .mv (.t 4), none⟩, .o ⟨(some 35), none, false, .mv (.t 5), none⟩, .o ⟨(some 36), none, false, .bsl false 1 [(.t 35)], none⟩, .o ⟨(some 37), none, false, .append 1 8 (.t 34) (.t 36), none⟩, .o ⟨(some 4), none, false, .mv (.t 37), (some [3, 4, 7, 8, 14, 15, 16])⟩]
abbrev k46_o9 : List AJ := [.o ⟨(some 38), none, false, .mv (.t 3), none⟩, .o ⟨(some 39), none, false, .len (.t 38), none⟩, .o ⟨(some 40), none, false, .mv (.c (.int .i64 0)), (some [3, 4, 7, 8, 14, 15, 16, 39, 40])⟩]
abbrev k46_o10 : List AJ := [.o ⟨(some 41), none, false, .bin .lss (.t 40) (.t 39), (some [3, 4, 7, 8, 14, 15, 16, 39, 40, 41])⟩]
abbrev k46_o11 : List AJ := [.o ⟨(some 42), none, false, .mv (.t 40), none⟩, .o ⟨(some 9), none, false, .mv (.t 42), (some [3, 4, 7, 8, 9, 14, 15, 16, 39, 40])⟩]
abbrev k46_o12 : List AJ := [.o ⟨(some 43), none, false, .mv (.t 3), none⟩, .o ⟨(some 44), none, false, .mv (.t 9), none⟩, .o ⟨(some 45), none, false, .idxA 1 (.t 43) (.t 44), none⟩, .o ⟨(some 46), none, false, .load 1 false (.t 45), none⟩, .o ⟨(some 47), none, false, .mv (.t 8), none⟩, .o ⟨(some 48), none, false, .bin .eql (.t 46) (.t 47), (some [3, 4, 7, 8, 9, 14, 15, 16, 39, 40, 48])⟩]
abbrev k46_o13 : List AJ := [.o ⟨(some 49), none, false, .mv (.t 3), none⟩, .o ⟨(some 50), none, false, .mv (.t 9), none⟩, .o ⟨(some 51), none, false, .mv (.t 7), none⟩, .o ⟨(some 52), none, false, .idxA 1 (.t 49) (.t 50), none⟩, .o ⟨none, none, false, .store 1 (.t 52) (.t 51), (some [3, 4, 7, 8, 14, 15, 16, 39, 40])⟩]
def k46_17 : ACode := .region k46_o13
def k46_18 : ACode := .cond (.t 48) k46_17 .skip
def k46_19 : ACode := .seq (.region k46_o12) k46_18
def k46_20 : ACode := .seq (.region k46_o11) k46_19
abbrev k46_o14 : List AJ := [.o ⟨(some 53), none, true, .bin .add (.t 40) (.c (.int .i64 1)), none⟩, .o ⟨(some 40), none, false, .mv (.t 53), (some [3, 4, 7, 8, 14, 15, 16, 39, 40])⟩]
def k46_22 : ACode := .region k46_o14
def k46_23 : ACode := .seq (.block 3 k46_20) k46_22
def k46_24 : ACode := .seq (.cond (.t 41) .skip (.exit 2)) k46_23
def k46_25 : ACode := .seq (.region k46_o10) k46_24
def k46_26 : ACode := .loop k46_25
def k46_27 : ACode := .block 2 k46_26
def k46_28 : ACode := .seq (.region k46_o9) k46_27
def k46_29 : ACode := .seq (.region k46_o8) k46_28
def k46_30 : ACode := .seq k46_10 k46_29
def k46_31 : ACode := .seq (.draw k46_o6 [] rfl) k46_30
def k46_32 : ACode := .seq (.region k46_o5) k46_31
abbrev k46_o15 : List AJ := [.o ⟨(some 54), none, true, .bin .add (.t 16) (.c (.int .i64 1)), none⟩, .o ⟨(some 16), none, false, .mv (.t 54), (some [3, 4, 14, 15, 16])⟩]
def k46_34 : ACode := .region k46_o15
def k46_35 : ACode := .seq (.block 1 k46_32) k46_34
def k46_36 : ACode := .seq (.cond (.t 17) .skip (.exit 0)) k46_35
def k46_37 : ACode := .seq (.region k46_o4) k46_36
def k46_38 : ACode := .loop k46_37
def k46_39 : ACode := .block 0 k46_38
def k46_40 : ACode := .seq (.region k46_o3) k46_39
abbrev k46_o16 : List AJ := [.o ⟨(some 55), none, false, .mv (.t 4), none⟩, .o ⟨(some 2), none, false, .mv (.t 55), (some [2])⟩]
def k46_42 : ACode := .seq (.region k46_o16) .ret
def k46_43 : ACode := .seq k46_40 k46_42
def k46_44 : ACode := .seq (.region k46_o2) k46_43
def k46_45 : ACode := .seq (.region k46_o1) k46_44
def k46_46 : ACode := .seq (.region k46_o0) k46_45
@[simp, simp ↓] theorem k46_9r : rC k46_9 (.t 33) (.exit 1) .skip := zC rfl
@[simp, simp ↓] theorem k46_10r : sR k46_10 k46_o7 k46_9 := yR rfl
@[simp, simp ↓] theorem k46_17r : rR k46_17 k46_o13 := zR rfl
@[simp, simp ↓] theorem k46_18r : rC k46_18 (.t 48) k46_17 .skip := zC rfl
@[simp, simp ↓] theorem k46_19r : sR k46_19 k46_o12 k46_18 := yR rfl
@[simp, simp ↓] theorem k46_20r : sR k46_20 k46_o11 k46_19 := yR rfl
@[simp, simp ↓] theorem k46_22r : rR k46_22 k46_o14 := zR rfl
@[simp, simp ↓] theorem k46_23r : sB k46_23 3 k46_20 k46_22 := yB rfl
@[simp, simp ↓] theorem k46_24r : sC k46_24 (.t 41) .skip (.exit 2) k46_23 := yC rfl
@[simp, simp ↓] theorem k46_25r : sR k46_25 k46_o10 k46_24 := yR rfl
@[simp, simp ↓] theorem k46_26r : rL k46_26 k46_25 := zL rfl
@[simp, simp ↓] theorem k46_27r : rB k46_27 2 k46_26 := zB rfl
@[simp, simp ↓] theorem k46_28r : sR k46_28 k46_o9 k46_27 := yR rfl
@[simp, simp ↓] theorem k46_29r : sR k46_29 k46_o8 k46_28 := yR rfl
@[simp, simp ↓] theorem k46_30r : rS k46_30 k46_10 k46_29 := zS rfl
@[simp, simp ↓] theorem k46_31r : sD k46_31 k46_o6 [] k46_30 := yD rfl
@[simp, simp ↓] theorem k46_32r : sR k46_32 k46_o5 k46_31 := yR rfl
@[simp, simp ↓] theorem k46_34r : rR k46_34 k46_o15 := zR rfl
@[simp, simp ↓] theorem k46_35r : sB k46_35 1 k46_32 k46_34 := yB rfl
@[simp, simp ↓] theorem k46_36r : sC k46_36 (.t 17) .skip (.exit 0) k46_35 := yC rfl
@[simp, simp ↓] theorem k46_37r : sR k46_37 k46_o4 k46_36 := yR rfl
@[simp, simp ↓] theorem k46_38r : rL k46_38 k46_37 := zL rfl
@[simp, simp ↓] theorem k46_39r : rB k46_39 0 k46_38 := zB rfl
@[simp, simp ↓] theorem k46_40r : sR k46_40 k46_o3 k46_39 := yR rfl
@[simp, simp ↓] theorem k46_42r : sR k46_42 k46_o16 .ret := yR rfl
@[simp, simp ↓] theorem k46_43r : rS k46_43 k46_40 k46_42 := zS rfl
@[simp, simp ↓] theorem k46_44r : sR k46_44 k46_o2 k46_43 := yR rfl
@[simp, simp ↓] theorem k46_45r : sR k46_45 k46_o1 k46_44 := yR rfl
@[simp, simp ↓] theorem k46_46r : sR k46_46 k46_o0 k46_45 := yR rfl
noncomputable abbrev k46_C : Orc → Cx := mkC Tryz.prog [6] 46 56 [.tmp 2]
theorem k46_of : OfP Tryz.prog Tryz.f46 46 56 k46_C k46_46 := @ofP _ _ _ _ _ _ _ _ Tryz.func46 (by decide +kernel) rfl (by kernel_rfl) rfl (by kernel_rfl)
noncomputable abbrev FiC : Cx := k46_C (lk orcF)
theorem forI_inner (I : Is FiC Tryz.f46) {h : Heap} {R : AV → Heap → Prop} {sk : List AItem} {L : AV} {P P' : List Int} {a b M : Int} {i : Nat} {u : AV} {ga : Heap} {idp : Nat} {N : Nat} (hp : idp ∉ dom ga)
    (l1 : P.length = N) (l3 : P'.length = N) (hP : ∀ (v : Nat) (h1 : v < P.length) (h2 : v < P'.length), P'[v] = if P[v] = b then a else P[v]) (hN : N ≤ 12)
    (go : vc2 FiC 994 [] sk [(3, .sl idp 1 0 N none), (4, u), (7, .int .i64 a), (8, .int .i64 b), (14, L), (15, .int .i64 M), (16, .int .i64 (i : Nat)), (39, .int .i64 (N : Nat)), (40, .int .i64 (N : Nat)), (41, .bool false)] (ga ++ ((idp, ⟨1, P'.map iv⟩) :: h)) R) :
    Run2 FiC (.code k46_25 :: .inLoop k46_25 :: .inBlock 2 :: sk) [(3, .sl idp 1 0 N none), (4, u), (7, .int .i64 a), (8, .int .i64 b), (14, L), (15, .int .i64 M), (16, .int .i64 (i : Nat)), (39, .int .i64 (N : Nat)), (40, .int .i64 0)] (ga ++ ((idp, ⟨1, P.map iv⟩) :: h)) R := by
  rw [show P.map iv = inpl (P.map iv) (P'.map iv) 0 by simp]
  refine Run2.loopE (fun v => [(3, .sl idp 1 0 N none), (4, u), (7, .int .i64 a), (8, .int .i64 b), (14, L), (15, .int .i64 M), (16, .int .i64 (i : Nat)), (39, .int .i64 (N : Nat)), (40, .int .i64 (v : Nat))])
    (fun v => ga ++ ((idp, ⟨1, inpl (P.map iv) (P'.map iv) v⟩) :: h)) (fun v => N - v) (fun v => v ≤ N) 0 (by simp) rfl (Nat.zero_le _) fun v hv ih => ?_
  have n2 := inpl_len (l := P.map iv) (l' := P'.map iv) (v := v) (by simp; omega)
  by_cases hlt : v < N
  · have go1 := ih (v + 1) (by omega) (by omega)
    clear ih
    have g2 := inpl_get (l := P.map iv) (l' := P'.map iv) (v := v) (by simp; omega) (by simp; omega) (by rw [n2]; simp; omega)
    have s2 := inpl_set (l := P.map iv) (l' := P'.map iv) (v := v) (by simp; omega) (by simp; omega)
    have k2 := inpl_keep (l := P.map iv) (l' := P'.map iv) (v := v) (by simp; omega) (by simp; omega)
    simp only [List.getElem_map] at g2 s2 k2
    have hP := hP v (by omega) (by omega)
    rw [hP] at s2 k2
    generalize hY : inpl (P.map iv) (P'.map iv) = Y at *
    have m2 : v < (Y v).length := by rw [n2]; simp; omega
    refine Run2.of I 1000 ?_
    simp -implicitDefEqProofs [hlt, hget_app hp, hset_app hp, m2, g2]
    refine ⟨fun h1 => ⟨by omega, ?_⟩, fun h1 => ⟨by omega, ?_⟩⟩
    · simp only [iv, if_pos h1] at s2
      rw [s2]
      simpa using go1
    · simp only [iv, if_neg h1, forall_const] at k2
      rw [k2]
      simpa using go1
  · obtain rfl : v = N := by omega
    have e2 : inpl (P.map iv) (P'.map iv) v = P'.map iv := by have := inpl_end (l := P.map iv) (l' := P'.map iv) (by simp; omega); simpa [l1] using this
    refine Run2.of I 1000 ?_
    simp -implicitDefEqProofs
    rw [e2]
    exact go
theorem forestOf_w (x : Ph) (h : Heap) (hv : x.valid) : ACalls Tryz.prog 46 [x.av] h (fun v h' => ∃ hp, Grow 1 v (x.forest.map iv) hp ∧ (∀ j ∈ dom hp, j ∉ dom h) ∧ h' = hp ++ h) := by
  have hn1 := hv.1
  have hn2 := hv.2.1
  have hm1 := hv.2.2.1
  have hl2 := hv.2.2.2.2.2
  refine k46_of rfl orcF_p fun I => ?_
  refine Run2.of I 1000 ?_
  simp -implicitDefEqProofs
  have fo := fstate_ok (x := x) hm1
  have fl := fstate_len x
  have f0 : fstate x 0 = ((List.range x.n.toNat).map Int.ofNat, List.replicate x.n.toNat 0, []) := rfl
  refine (firstChoice_w x.n _ (by omega)).mono ?_
  rintro wp h' ⟨gp, hgp, hd1, rfl⟩
  obtain ⟨N, hN⟩ : ∃ N : Nat, x.n.toNat = N := ⟨_, rfl⟩
  have hNx : x.n = (N : Int) := by omega
  have foP := fun i => (fo i).p
  have foF := fun i => (fo i).f
  simp only [hN] at foP foF f0 hgp
  have hN12 : N ≤ 12 := by omega
  generalize hLp : ((List.range N).map Int.ofNat).map iv = Lp at hgp
  cases hgp with
  | nil => have := congrArg List.length hLp; simp at this; omega
  | emp => have := congrArg List.length hLp; simp at this; omega
  | sl idp _ np hnp =>
  obtain rfl : N = np := by rw [hnp, ← hLp]; simp
  subst hLp
  have hph : idp ∉ dom h := hd1 idp (by simp [dom])
  clear hd1 hnp
  refine gK.go ?_
  simp -implicitDefEqProofs
  refine Run2.loopE (α := Nat × AV × Heap) (fun s => [(3, .sl idp 1 0 N none), (4, s.2.1), (14, .snap 3 (x.ts.map T.av)), (15, .int .i64 x.ts.length), (16, .int .i64 (s.1 : Nat))])
    (fun s => s.2.2 ++ ((idp, ⟨1, (fstate x s.1).1.map iv⟩) :: h)) (fun s => x.ts.length - s.1) (fun s => s.1 ≤ x.ts.length ∧ Grow 1 s.2.1 ((fstate x s.1).2.2.map iv) s.2.2 ∧ idp ∉ dom s.2.2 ∧ (∀ j ∈ dom s.2.2, j ∉ dom h)) (0, .nilsl, []) (by simp) (by simp [f0]) ⟨Nat.zero_le _, by simpa [f0] using Grow.nil, by simp [dom], by simp [dom]⟩ ?_
  rintro ⟨i, u, ga⟩ ⟨hi2, hg, hpa, hda⟩ ih
  simp only at hi2 hg hpa hda ih ⊢
  have foP := foP i
  have foF := foF i
  have fl := fl i
  by_cases hlt2 : i < x.ts.length
  · have go := fun w' ga' a b c => ih (i + 1, w', ga') ⟨by simp; omega, a, b, c⟩ (by simp; omega)
    clear ih
    have hst : fstate x (i + 1) = fstep x i (fstate x i) := rfl
    generalize hS : fstate x i = S at *
    obtain ⟨P, F, out⟩ := S
    simp only at foP foF hg fl
    obtain ⟨e1, e2, e3, e4, e5⟩ := Ph.edge hv hlt2
    have ef : x.ts[i].f.toNat < P.length := by omega
    have et : x.ts[i].t.toNat < P.length := by omega
    have ef' : x.ts[i].f.toNat < F.length := by omega
    have et' : x.ts[i].t.toNat < F.length := by omega
    have e6 : 0 ≤ x.ts[i].t := by omega
    have evf : x.ts[i].f.toNat < N := by omega
    have evt : x.ts[i].t.toNat < N := by omega
    have hs2 : fstep x i (P, F, out) = if P[x.ts[i].f.toNat] = P[x.ts[i].t.toNat] then (P, F, out) else
        (P.map fun c => if c = P[x.ts[i].t.toNat] then P[x.ts[i].f.toNat] else c, List.zipWith (fun c q => if c = P[x.ts[i].t.toNat] then (q + (F[x.ts[i].f.toNat] + x.ts[i].s - F[x.ts[i].t.toNat]) % x.m) % x.m else q) P F, out ++ [(i : Int)]) := by
      unfold fstep
      simp [hlt2, ef, et, ef', et']
    by_cases hab : P[x.ts[i].f.toNat] = P[x.ts[i].t.toNat]
    · rw [if_pos hab] at hs2
      refine Run2.of I 1000 ?_
      simp -implicitDefEqProofs [hlt2, hget_app hpa, e1, e6, ef, et, evf, evt, hab]
      refine ⟨by omega, ?_⟩
      have := go u ga (by simp only [hst, hs2]; exact hg) hpa hda
      simp only [hst, hs2] at this
      simpa using this
    · rw [if_neg hab] at hs2
      refine Run2.of I 1000 ?_
      simp -implicitDefEqProofs [hlt2, hget_app hpa, e1, e6, ef, et, evf, evt, hab]
      refine Grow.app_mid (pre := []) hg (fun j hj => by simp [dom]) (by simp; omega) (by simp) fun w' ga' hg' hf => ?_
      have hpb : idp ∉ dom ga' := fun h => hf idp h (by simp [dom])
      simp -implicitDefEqProofs [hget_app hpb, e1, e6, evf, evt]
      have go := go w' ga' (by simp only [hst, hs2]; simpa using hg') hpb (fun j hj hj2 => hf j hj (by simp [dom] at hj2 ⊢; exact .inr hj2))
      simp only [hst, hs2] at go
      refine forI_inner (P' := P.map fun c => if c = P[x.ts[i].t.toNat] then P[x.ts[i].f.toNat] else c) I hpb foP (by simp [foP]) (fun v h1 h2 => by simp) hN12 ?_
      simp -implicitDefEqProofs
      refine ⟨by omega, ?_⟩
      simpa using go
  · obtain rfl : i = x.ts.length := by omega
    clear ih
    refine Run2.of I 1000 ?_
    simp -implicitDefEqProofs
    refine .drop idp (.base ?_)
    rw [hdel_app hpa]
    simp [hdel]
    exact ⟨hg, hda⟩
end Go.AG.P
namespace Go.AG.P
open Go.Proofs Go.Proofs.YtgofekmoimjcmaaGreatDoor
set_option linter.unusedSimpArgs false
set_option linter.unusedVariables false
set_option maxRecDepth 4000
def Ph.bnd (x : Ph) : Prop := 2 ≤ x.m ∧ x.m ≤ 360 ∧ x.ts.length ≤ 24 ∧ ∀ (i : Nat) (hi : i < x.ts.length), 0 ≤ x.ts[i].s ∧ x.ts[i].s < x.m
noncomputable def o_shiftB : List AV → Option (Prop × AV) := tab (fun (x : Int × Int × List T × Int × Int) => match x with | (n, m, ts, a, b) => [.agg [.int .i64 n, .int .i64 m, .snap 3 (ts.map T.av)], .int .i64 a, .int .i64 b]) (fun x => match x with | (n, m, ts, a, b) => (Ph.bnd ⟨n, m, ts⟩)) (fun x => match x with | (n, m, ts, a, b) => stepAV (Ph.step ⟨n, m, ts⟩ a b))
@[simp] theorem o_shiftB_e (n : Int) (m : Int) (ts : List T) (a : Int) (b : Int) : o_shiftB [.agg [.int .i64 n, .int .i64 m, .snap 3 (ts.map T.av)], .int .i64 a, .int .i64 b] = some ((Ph.bnd ⟨n, m, ts⟩), stepAV (Ph.step ⟨n, m, ts⟩ a b)) := tab_at (enc := fun (x : Int × Int × List T × Int × Int) => match x with | (n, m, ts, a, b) => [.agg [.int .i64 n, .int .i64 m, .snap 3 (ts.map T.av)], .int .i64 a, .int .i64 b]) (fun x y h => by
  obtain ⟨n1, m1, ts1, a1, b1⟩ := x; obtain ⟨n2, m2, ts2, a2, b2⟩ := y; simp at h; simp [h] <;> omega) _ _ (n, m, ts, a, b)
theorem o_shiftB_k : Knows Tryz.prog 50 o_shiftB := tab_knows fun x hx h => by
  obtain ⟨n, m, ts, a, b⟩ := x; exact shiftBetween_w ⟨n, m, ts⟩ a b h hx.1 hx.2.1 hx.2.2.1 hx.2.2.2
abbrev k69_o0 : List AJ := [.o ⟨(some 4), none, false, .mv (.c (.int .i64 0)), (some [0, 1])⟩]
abbrev k69_o1 : List AJ := [.o ⟨(some 6), none, false, .mv (.t 0), none⟩, .o ⟨(some 7), none, false, .len (.t 6), none⟩, .o ⟨(some 8), none, false, .mv (.c (.int .i64 0)), (some [0, 1, 7, 8])⟩]
abbrev k69_o2 : List AJ := [.o ⟨(some 9), none, false, .bin .lss (.t 8) (.t 7), (some [0, 1, 7, 8, 9])⟩]
abbrev k69_o3 : List AJ := [.o ⟨(some 10), none, false, .mv (.t 8), none⟩, .o ⟨(some 5), none, false, .mv (.t 10), (some [0, 1, 5, 7, 8])⟩]
abbrev k69_o4 : List AJ := [.o ⟨(some 11), none, false, .mv (.t 1), none⟩, .o ⟨(some 12), none, false, .mv (.t 0), none⟩, .o ⟨(some 13), none, false, .mv (.t 5), none⟩, .o ⟨(some 14), none, false, .idxA 1 (.t 12) (.t 13), none⟩, .o ⟨(some 15), none, false, .load 1 false (.t 14), none⟩, .o ⟨(some 16), none, false, .bin .eql (.t 11) (.t 15), (some [0, 1, 5, 7, 8, 16])⟩]
abbrev k69_o5 : List AJ := [.o ⟨(some 17), none, false, .mv (.t 5), none⟩, .o ⟨(some 4), none, false, .mv (.t 17), (some [4])⟩]
def k69_7 : ACode := .seq (.region k69_o5) .ret
def k69_8 : ACode := .cond (.t 16) k69_7 .skip
def k69_9 : ACode := .seq (.region k69_o4) k69_8
def k69_10 : ACode := .seq (.region k69_o3) k69_9
abbrev k69_o6 : List AJ := [.o ⟨(some 18), none, true, .bin .add (.t 8) (.c (.int .i64 1)), none⟩, .o ⟨(some 8), none, false, .mv (.t 18), (some [0, 1, 7, 8])⟩]
def k69_12 : ACode := .region k69_o6
def k69_13 : ACode := .seq (.block 1 k69_10) k69_12
def k69_14 : ACode := .seq (.cond (.t 9) .skip (.exit 0)) k69_13
def k69_15 : ACode := .seq (.region k69_o2) k69_14
def k69_16 : ACode := .loop k69_15
def k69_17 : ACode := .block 0 k69_16
def k69_18 : ACode := .seq (.region k69_o1) k69_17
abbrev k69_o7 : List AJ := [.o ⟨(some 4), none, false, .mv (.c (.int .i64 (-1))), (some [4])⟩]
def k69_20 : ACode := .seq (.region k69_o7) .ret
def k69_21 : ACode := .seq k69_18 k69_20
def k69_22 : ACode := .seq (.region k69_o0) k69_21
@[simp, simp ↓] theorem k69_7r : sR k69_7 k69_o5 .ret := yR rfl
@[simp, simp ↓] theorem k69_8r : rC k69_8 (.t 16) k69_7 .skip := zC rfl
@[simp, simp ↓] theorem k69_9r : sR k69_9 k69_o4 k69_8 := yR rfl
@[simp, simp ↓] theorem k69_10r : sR k69_10 k69_o3 k69_9 := yR rfl
@[simp, simp ↓] theorem k69_12r : rR k69_12 k69_o6 := zR rfl
@[simp, simp ↓] theorem k69_13r : sB k69_13 1 k69_10 k69_12 := yB rfl
@[simp, simp ↓] theorem k69_14r : sC k69_14 (.t 9) .skip (.exit 0) k69_13 := yC rfl
@[simp, simp ↓] theorem k69_15r : sR k69_15 k69_o2 k69_14 := yR rfl
@[simp, simp ↓] theorem k69_16r : rL k69_16 k69_15 := zL rfl
@[simp, simp ↓] theorem k69_17r : rB k69_17 0 k69_16 := zB rfl
@[simp, simp ↓] theorem k69_18r : sR k69_18 k69_o1 k69_17 := yR rfl
@[simp, simp ↓] theorem k69_20r : sR k69_20 k69_o7 .ret := yR rfl
@[simp, simp ↓] theorem k69_21r : rS k69_21 k69_18 k69_20 := zS rfl
@[simp, simp ↓] theorem k69_22r : sR k69_22 k69_o0 k69_21 := yR rfl
noncomputable abbrev k69_C : Orc → Cx := mkC Tryz.prog [] 69 19 [.tmp 4]
theorem k69_of0 : OfP0 Tryz.prog Tryz.f69 69 19 k69_C k69_22 := @ofP0 _ _ _ _ _ _ _ _ Tryz.func69 (by decide +kernel) rfl (by kernel_rfl) rfl (by kernel_rfl)
theorem Index_c (l : List Int) (n : Int) (h : Heap) (hl : l.length ≤ 1048576) : ACalls Tryz.prog 69 [.snap 1 (l.map iv), .int .i64 n] h (fun v h' => v = .int .i64 (idxf (fun c => decide (n = c)) l) ∧ h' = h) := by
  refine k69_of0 rfl noPure fun I => ?_
  refine Run2.of I 1000 ?_
  simp -implicitDefEqProofs
  refine Run2.loopE (fun i => [(0, .snap 1 (l.map iv)), (1, .int .i64 n), (7, .int .i64 l.length), (8, .int .i64 (i : Nat))]) (fun i => h) (fun i => l.length - i) (fun i => i ≤ l.length ∧ ∀ j (hj : j < l.length), j < i → ¬ n = l[j]) 0 (by simp) rfl (by simp) fun i hi ih => ?_
  by_cases hlt : i < l.length
  · have go := fun (h1 : ¬ n = l[i]) => ih (i + 1) ⟨by omega, fun j hj hji => by
      rcases Nat.lt_or_ge j i with h' | h'
      · exact hi.2 j hj h'
      · obtain rfl : j = i := by omega
        exact h1⟩ (by omega)
    have ht := fun (h1 : n = l[i]) => idxf_at (q := fun c => decide (n = c)) hlt (fun j hj hji => by simpa using hi.2 j hj hji) (by simpa using h1)
    clear ih
    refine Run2.of I 1000 ?_
    simp -implicitDefEqProofs [hlt]
    exact ⟨fun h1 => (ht h1).symm, fun h1 => ⟨by omega, by simpa using go h1⟩⟩
  · obtain rfl : i = l.length := by omega
    have := idxf_none (q := fun c => decide (n = c)) (l := l) fun j hj => by simpa using hi.2 j hj hj
    refine Run2.of I 1000 ?_
    simp -implicitDefEqProofs [this]
noncomputable def o_Index : List AV → Option (Prop × AV) := tab (fun (x : List Int × Int) => match x with | (l, n) => [.snap 1 (l.map iv), .int .i64 n]) (fun x => match x with | (l, n) => l.length ≤ 1048576) (fun x => match x with | (l, n) => .int .i64 (idxf (fun c => decide (n = c)) l))
@[simp] theorem o_Index_e (l : List Int) (n : Int) : o_Index [.snap 1 (l.map iv), .int .i64 n] = some (l.length ≤ 1048576, .int .i64 (idxf (fun c => decide (n = c)) l)) := tab_at (enc := fun (x : List Int × Int) => match x with | (l, n) => [.snap 1 (l.map iv), .int .i64 n]) (fun x y h => by
  obtain ⟨l1, n1⟩ := x; obtain ⟨l2, n2⟩ := y; simp at h; simp [h] <;> omega) _ _ (l, n)
theorem o_Index_k : Knows Tryz.prog 69 o_Index := tab_knows fun x hx h => by
  obtain ⟨l, n⟩ := x; exact Index_c l n h hx
noncomputable def orcB1 : List (Nat × (List AV → Option (Prop × AV))) := (69, o_Index) :: orcF
theorem orcB1_p : Pure Tryz.prog (lk orcB1) := (lk_pure o_Index_k orcF_p)
@[simp] theorem orcB1_l (b : Bool) (g : FuncId) (l : List AV) : lk orcB1 b g l = if g = 69 then o_Index l else lk orcF b g l := nr rfl
abbrev k49_o0 : List AJ := [.o ⟨(some 4), none, false, .mv (.c (.bool false)), (some [0, 1])⟩]
abbrev k49_o1 : List AJ := [.o ⟨(some 5), none, false, .mv (.t 0), none⟩, .o ⟨(some 6), none, false, .mv (.t 1), none⟩, .o ⟨(some 7), none, false, .call 69 [(.t 5), (.t 6)], none⟩, .o ⟨(some 8), none, false, .bin .geq (.t 7) (.c (.int .i64 0)), none⟩, .o ⟨(some 4), none, false, .mv (.t 8), (some [4])⟩]
def k49_2 : ACode := .seq (.region k49_o1) .ret
def k49_3 : ACode := .seq (.region k49_o0) k49_2
@[simp, simp ↓] theorem k49_2r : sR k49_2 k49_o1 .ret := yR rfl
@[simp, simp ↓] theorem k49_3r : sR k49_3 k49_o0 k49_2 := yR rfl
noncomputable abbrev k49_C : Orc → Cx := mkC Tryz.prog [] 49 9 [.tmp 4]
theorem k49_of0 : OfP0 Tryz.prog Tryz.f49 49 9 k49_C k49_3 := @ofP0 _ _ _ _ _ _ _ _ Tryz.func49 (by decide +kernel) rfl (by kernel_rfl) rfl (by kernel_rfl)
theorem Contains_c (l : List Int) (n : Int) (h : Heap) (hl : l.length ≤ 1048576) : ACalls Tryz.prog 49 [.snap 1 (l.map iv), .int .i64 n] h (fun v h' => v = .bool (decide (n ∈ l)) ∧ h' = h) := by
  have hi := idxf_ge (fun c => decide (n = c)) l
  simp only [decide_eq_true_eq] at hi
  refine k49_of0 rfl orcB1_p fun I => ?_
  refine Run2.of I 1000 ?_
  simp -implicitDefEqProofs [hl, hi]
noncomputable def o_Contains : List AV → Option (Prop × AV) := tab (fun (x : List Int × Int) => match x with | (l, n) => [.snap 1 (l.map iv), .int .i64 n]) (fun x => match x with | (l, n) => l.length ≤ 1048576) (fun x => match x with | (l, n) => .bool (decide (n ∈ l)))
@[simp] theorem o_Contains_e (l : List Int) (n : Int) : o_Contains [.snap 1 (l.map iv), .int .i64 n] = some (l.length ≤ 1048576, .bool (decide (n ∈ l))) := tab_at (enc := fun (x : List Int × Int) => match x with | (l, n) => [.snap 1 (l.map iv), .int .i64 n]) (fun x y h => by
  obtain ⟨l1, n1⟩ := x; obtain ⟨l2, n2⟩ := y; simp at h; simp [h] <;> omega) _ _ (l, n)
theorem o_Contains_k : Knows Tryz.prog 49 o_Contains := tab_knows fun x hx h => by
  obtain ⟨l, n⟩ := x; exact Contains_c l n h hx
noncomputable def orcB2 : List (Nat × (List AV → Option (Prop × AV))) := (49, o_Contains) :: orcB1
theorem orcB2_p : Pure Tryz.prog (lk orcB2) := (lk_pure o_Contains_k orcB1_p)
@[simp] theorem orcB2_l (b : Bool) (g : FuncId) (l : List AV) : lk orcB2 b g l = if g = 49 then o_Contains l else lk orcB1 b g l := nr rfl
abbrev k48_o0 : List AJ := [.o ⟨(some 3), none, false, .mv (.c (.bool false)), (some [0, 1])⟩]
abbrev k48_o1 : List AJ := [.o ⟨(some 4), none, false, .load 1 false (.t 1), none⟩, .o ⟨(some 5), none, false, .mv (.t 0), none⟩, .o ⟨(some 6), none, false, .call 49 [(.t 4), (.t 5)], none⟩, .o ⟨(some 3), none, false, .mv (.t 6), (some [3])⟩]
def k48_2 : ACode := .seq (.region k48_o1) .ret
def k48_3 : ACode := .seq (.region k48_o0) k48_2
@[simp, simp ↓] theorem k48_2r : sR k48_2 k48_o1 .ret := yR rfl
@[simp, simp ↓] theorem k48_3r : sR k48_3 k48_o0 k48_2 := yR rfl
noncomputable abbrev k48_C : Orc → Cx := mkC Tryz.prog [] 48 7 [.tmp 3]
theorem k48_of0 : OfP0 Tryz.prog Tryz.f48 48 7 k48_C k48_3 := @ofP0 _ _ _ _ _ _ _ _ Tryz.func48 (by decide +kernel) rfl (by kernel_rfl) rfl (by kernel_rfl)
theorem fp1_c (k : Int) (l : List Int) (h : Heap) (hl : l.length ≤ 1048576) : ACalls Tryz.prog 48 [.int .i64 k, .ip [.snap 1 (l.map iv)]] h (fun v h' => v = .bool (decide (k ∈ l)) ∧ h' = h) := by
  refine k48_of0 rfl orcB2_p fun I => ?_
  refine Run2.of I 1000 ?_
  simp -implicitDefEqProofs [hl]
abbrev k51_o0 : List AJ := [.o ⟨(some 2), none, false, .mv (.c .nilsl), (some [0])⟩]
abbrev k51_o1 : List AJ := [.o ⟨(some 3), none, false, .mv (.t 0), none⟩, .o ⟨(some 4), none, false, .eqn 0 false (.t 3), (some [0, 4])⟩]
abbrev k51_o2 : List AJ := [.o ⟨(some 2), none, false, .mv (.c .nilsl), (some [2])⟩]
def k51_3 : ACode := .seq (.region k51_o2) .ret
def k51_4 : ACode := .cond (.t 4) k51_3 .skip
def k51_5 : ACode := .seq (.region k51_o1) k51_4
abbrev k51_o3 : List AJ := [.e 5 1 none, .o ⟨(some 6), none, false, .mv (.t 0), none⟩, .o ⟨(some 7), none, false, .append 1 8 (.t 5) (.t 6), none⟩, .o ⟨(some 2), none, false, .mv (.t 7), (some [2])⟩]
def k51_7 : ACode := .seq (.region k51_o3) .ret
def k51_8 : ACode := .seq k51_5 k51_7
def k51_9 : ACode := .seq (.region k51_o0) k51_8
@[simp, simp ↓] theorem k51_3r : sR k51_3 k51_o2 .ret := yR rfl
@[simp, simp ↓] theorem k51_4r : rC k51_4 (.t 4) k51_3 .skip := zC rfl
@[simp, simp ↓] theorem k51_5r : sR k51_5 k51_o1 k51_4 := yR rfl
@[simp, simp ↓] theorem k51_7r : sR k51_7 k51_o3 .ret := yR rfl
@[simp, simp ↓] theorem k51_8r : rS k51_8 k51_5 k51_7 := zS rfl
@[simp, simp ↓] theorem k51_9r : sR k51_9 k51_o0 k51_8 := yR rfl
noncomputable abbrev k51_C : Orc → Cx := mkC Tryz.prog [5] 51 8 [.tmp 2]
theorem k51_of0 : OfP0 Tryz.prog Tryz.f51 51 8 k51_C k51_9 := @ofP0 _ _ _ _ _ _ _ _ Tryz.func51 (by decide +kernel) rfl (by kernel_rfl) rfl (by kernel_rfl)
theorem Clone_w (l : List Int) (h : Heap) (hl : l.length ≤ 1048576) : ACalls Tryz.prog 51 [.snap 1 (l.map iv)] h (fun v h' => ∃ hp, Grow 1 v (l.map iv) hp ∧ (∀ j ∈ dom hp, j ∉ dom h) ∧ h' = hp ++ h) := by
  refine k51_of0 rfl noPure fun I => ?_
  refine Run2.of I 1000 ?_
  cases l with
  | nil =>
    simp -implicitDefEqProofs
    exact ⟨.nil, .emp⟩
  | cons a l =>
    simp at hl
    simp -implicitDefEqProofs
    exact ⟨by omega, fun id hid => ⟨[(id, ⟨1, _⟩)], .sl id _ _ (by simp), fun j hj => by simp only [dom, List.map_cons, List.map_nil, List.mem_singleton] at hj; subst hj; exact hid, rfl⟩⟩
def keptTo (ts : List T) (q : Int → Bool) (i : Nat) : List T := ((List.range i).filter fun (k : Nat) => q k).map fun k => ts.getD k default
theorem keptTo_succ (ts : List T) (q : Int → Bool) {i : Nat} (hi : i < ts.length) : keptTo ts q (i + 1) = keptTo ts q i ++ if q i then [ts[i]] else [] := by
  unfold keptTo
  rw [List.range_succ, List.filter_append, List.map_append]
  congr 1
  simp only [List.filter_cons, List.filter_nil]
  split <;> simp_all
theorem keptTo_len (ts : List T) (q : Int → Bool) (i : Nat) : (keptTo ts q i).length ≤ i := by
  unfold keptTo
  rw [List.length_map]
  exact Nat.le_trans (List.length_filter_le _ _) (by simp)
def Ph.kept (x : Ph) (q : Int → Bool) : Ph := ⟨x.n, x.m, keptTo x.ts q x.ts.length⟩
abbrev k47_o0 : List AJ := [.o ⟨(some 2), none, false, .box false 3 (.t 0), none⟩, .o ⟨(some 4), none, false, .alloc true 3 (.agg [(.int .i64 0), (.int .i64 0), .nilsl]), (some [1, 2, 4])⟩]
abbrev k47_o1 : List AJ := [.o ⟨(some 8), none, false, .fieldA 0 (.t 2), none⟩, .o ⟨(some 9), none, false, .load 1 false (.t 8), none⟩, .o ⟨(some 10), none, false, .fieldA 1 (.t 2), none⟩, .o ⟨(some 11), none, false, .load 1 false (.t 10), none⟩, .o ⟨(some 12), none, false, .build [(.int .i64 0), (.int .i64 0), .nilsl] [(0, 1, (.t 9)), (1, 1, (.t 11))], none⟩, .o ⟨(some 5), none, false, .alloc true 3 (.agg [(.int .i64 0), (.int .i64 0), .nilsl]), none⟩, .o ⟨none, none, false, .store 3 (.t 5) (.t 12), (some [1, 2, 4, 5])⟩]
abbrev k47_o2 : List AJ := [.o ⟨(some 13), none, false, .fieldA 2 (.t 2), none⟩, .o ⟨(some 14), none, false, .load 1 false (.t 13), none⟩, .o ⟨(some 15), none, false, .len (.t 14), none⟩, .o ⟨(some 16), none, false, .mv (.c (.int .i64 0)), (some [1, 4, 5, 14, 15, 16])⟩]
abbrev k47_o3 : List AJ := [.o ⟨(some 17), none, false, .bin .lss (.t 16) (.t 15), (some [1, 4, 5, 14, 15, 16, 17])⟩]
abbrev k47_o4 : List AJ := [.o ⟨(some 18), none, false, .mv (.t 16), none⟩, .o ⟨(some 19), none, false, .idxA 3 (.t 14) (.t 16), none⟩, .o ⟨(some 20), none, false, .load 3 true (.t 19), none⟩, .v 7 3 (.agg [(.int .i64 0), (.int .i64 0), (.int .i64 0)]) [(6, (.t 18))] (.t 20) (some [1, 4, 5, 6, 7, 14, 15, 16])]
abbrev k47_o5 : List AJ := [.o ⟨(some 21), none, false, .mv (.t 1), none⟩, .o ⟨(some 22), none, false, .mv (.t 6), none⟩, .o ⟨(some 23), none, false, .callv (.t 21) [(.t 22)], (some [1, 4, 5, 7, 14, 15, 16, 23])⟩]
abbrev k47_o6 : List AJ := [.o ⟨(some 24), none, false, .fieldA 2 (.t 5), none⟩, .o ⟨(some 25), none, false, .load 1 false (.t 24), none⟩, .o ⟨(some 26), none, false, .load 3 true (.t 7), none⟩, .o ⟨(some 27), none, false, .bsl false 3 [(.t 26)], none⟩, .o ⟨(some 28), none, false, .append 3 24 (.t 25) (.t 27), none⟩, .o ⟨(some 29), none, false, .fieldA 2 (.t 5), none⟩, .o ⟨none, none, false, .store 1 (.t 29) (.t 28), (some [1, 4, 5, 14, 15, 16])⟩]
def k47_7 : ACode := .region k47_o6
def k47_8 : ACode := .cond (.t 23) k47_7 .skip
def k47_9 : ACode := .seq (.region k47_o5) k47_8
def k47_10 : ACode := .seq (.region k47_o4) k47_9
abbrev k47_o7 : List AJ := [.o ⟨(some 30), none, true, .bin .add (.t 16) (.c (.int .i64 1)), none⟩, .o ⟨(some 16), none, false, .mv (.t 30), (some [1, 4, 5, 14, 15, 16])⟩]
def k47_12 : ACode := .region k47_o7
def k47_13 : ACode := .seq (.block 1 k47_10) k47_12
def k47_14 : ACode := .seq (.cond (.t 17) .skip (.exit 0)) k47_13
def k47_15 : ACode := .seq (.region k47_o3) k47_14
def k47_16 : ACode := .loop k47_15
def k47_17 : ACode := .block 0 k47_16
def k47_18 : ACode := .seq (.region k47_o2) k47_17
abbrev k47_o8 : List AJ := [.o ⟨(some 31), none, false, .load 3 true (.t 5), none⟩, .o ⟨none, none, false, .store 3 (.t 4) (.t 31), (some [4])⟩]
def k47_20 : ACode := .seq (.region k47_o8) .ret
def k47_21 : ACode := .seq k47_18 k47_20
def k47_22 : ACode := .seq (.region k47_o1) k47_21
def k47_23 : ACode := .seq (.region k47_o0) k47_22
@[simp, simp ↓] theorem k47_7r : rR k47_7 k47_o6 := zR rfl
@[simp, simp ↓] theorem k47_8r : rC k47_8 (.t 23) k47_7 .skip := zC rfl
@[simp, simp ↓] theorem k47_9r : sR k47_9 k47_o5 k47_8 := yR rfl
@[simp, simp ↓] theorem k47_10r : sR k47_10 k47_o4 k47_9 := yR rfl
@[simp, simp ↓] theorem k47_12r : rR k47_12 k47_o7 := zR rfl
@[simp, simp ↓] theorem k47_13r : sB k47_13 1 k47_10 k47_12 := yB rfl
@[simp, simp ↓] theorem k47_14r : sC k47_14 (.t 17) .skip (.exit 0) k47_13 := yC rfl
@[simp, simp ↓] theorem k47_15r : sR k47_15 k47_o3 k47_14 := yR rfl
@[simp, simp ↓] theorem k47_16r : rL k47_16 k47_15 := zL rfl
@[simp, simp ↓] theorem k47_17r : rB k47_17 0 k47_16 := zB rfl
@[simp, simp ↓] theorem k47_18r : sR k47_18 k47_o2 k47_17 := yR rfl
@[simp, simp ↓] theorem k47_20r : sR k47_20 k47_o8 .ret := yR rfl
@[simp, simp ↓] theorem k47_21r : rS k47_21 k47_18 k47_20 := zS rfl
@[simp, simp ↓] theorem k47_22r : sR k47_22 k47_o1 k47_21 := yR rfl
@[simp, simp ↓] theorem k47_23r : sR k47_23 k47_o0 k47_22 := yR rfl
noncomputable abbrev k47_C : Orc → Cx := mkC Tryz.prog [4, 5, 7] 47 32 [.cell 4 3 true]
theorem k47_of : OfP Tryz.prog Tryz.f47 47 32 k47_C k47_23 := @ofP _ _ _ _ _ _ _ _ Tryz.func47 (by decide +kernel) rfl (by kernel_rfl) rfl (by kernel_rfl)
theorem onlyTurns_w (x : Ph) (g : FuncId) (caps : List AV) (q : Int → Bool) (h : Heap) (hl : x.ts.length ≤ 1048576) (hq : ∀ (k : Nat) (h : Heap), k < x.ts.length → ACalls Tryz.prog g (.int .i64 k :: caps) h (fun v h' => v = .bool (q k) ∧ h' = h)) :
    ACalls Tryz.prog 47 [x.av, .fn g caps] h (fun v h' => ∃ u hp, v = .agg [.int .i64 x.n, .int .i64 x.m, u] ∧ Grow 3 u ((x.kept q).ts.map T.av) hp ∧ h' = hp ++ h) := by
  refine k47_of rfl noPure fun I => ?_
  refine Run2.of I 1000 ?_
  simp -implicitDefEqProofs
  intro a ha b hba hb
  refine gK.go ?_
  simp -implicitDefEqProofs [hba]
  refine Run2.loopE (α := Nat × AV × Heap) (fun s => [(1, .fn g caps), (4, .ptr a 3 0 0), (5, .ptr b 3 0 0), (14, .snap 3 (x.ts.map T.av)), (15, .int .i64 x.ts.length), (16, .int .i64 (s.1 : Nat))])
    (fun s => s.2.2 ++ ((b, ⟨3, [.agg [.int .i64 x.n, .int .i64 x.m, s.2.1]]⟩) :: (a, ⟨3, [.agg [.int .i64 0, .int .i64 0, .nilsl]]⟩) :: h)) (fun s => x.ts.length - s.1) (fun s => s.1 ≤ x.ts.length ∧ Grow 3 s.2.1 ((keptTo x.ts q s.1).map T.av) s.2.2 ∧ b ∉ dom s.2.2 ∧ a ∉ dom s.2.2) (0, .nilsl, []) (by simp) rfl ⟨Nat.zero_le _, by simpa [keptTo] using Grow.nil, by simp [dom], by simp [dom]⟩ ?_
  rintro ⟨i, u, hp'⟩ ⟨hi, hg, hpb, hpa⟩ ih
  simp only at hi hg hpb hpa ih ⊢
  have hcw := hg.cell
  by_cases hlt : i < x.ts.length
  · have hs := keptTo_succ x.ts q hlt
    have hsl := keptTo_len x.ts q i
    have go := fun w' hp'' hg' hb' ha' => ih (i + 1, w', hp'') ⟨by simp; omega, hg', hb', ha'⟩ (by simp; omega)
    clear ih
    refine Run2.of I 1000 ?_
    simp -implicitDefEqProofs [hlt]
    refine (hq i _ hlt).mono ?_
    rintro v h' ⟨rfl, rfl⟩
    refine gK.go ?_
    simp -implicitDefEqProofs [hlt, hget_app hpb, hget_app hpa]
    refine ⟨fun h1 => ?_, fun h1 => ⟨by omega, ?_⟩⟩
    · rw [if_pos h1] at hs
      refine Grow.app_mid (pre := []) hg (fun j hj => by simp [dom]) (by simp; omega) (by simp) fun w' hp2 hg' hf => ?_
      have hfb : b ∉ dom hp2 := fun h => hf b h (by simp [dom])
      have hfa : a ∉ dom hp2 := fun h => hf a h (by simp [dom])
      simp -implicitDefEqProofs [hcw, hg'.cell, cells_of hg'.cell, stor_of hg'.cell, hget_app hfb, hset_app hfb]
      refine ⟨by omega, ?_⟩
      have := go w' hp2 (by simp only; rw [hs]; simpa using hg') hfb hfa
      simpa using this
    · rw [if_neg (by simp [h1])] at hs
      have := go u hp' (by simp only; rw [hs]; simpa using hg) hpb hpa
      simpa using this
  · obtain rfl : i = x.ts.length := by omega
    refine Run2.of I 1000 ?_
    simp -implicitDefEqProofs [hget_app hpb, hget_app hpa, hset_app hpa, hba, Ne.symm hba, hcw]
    refine .drop a (.drop b (.base ?_))
    rw [hdel_app hpa, hdel_app hpb]
    simp [hdel, hba]
    exact hg
theorem forestOf_c (x : Ph) (h : Heap) (hv : x.valid) : ACalls Tryz.prog 46 [x.av] h (fun v h' => v = .snap 1 (x.forest.map iv) ∧ h' = h) :=
  ACalls.post ((forestOf_w x h hv).mono fun v h' ⟨hp, hg, hd, e⟩ => by subst e; exact Grow.froze hg (fun w => w) (fun _ _ _ => rfl) (fun _ _ h => h) (.base ⟨rfl, rfl⟩))
theorem onlyTurns_c (x : Ph) (g : FuncId) (caps : List AV) (q : Int → Bool) (h : Heap) (hl : x.ts.length ≤ 1048576) (hq : ∀ (k : Nat) (h : Heap), k < x.ts.length → ACalls Tryz.prog g (.int .i64 k :: caps) h (fun v h' => v = .bool (q k) ∧ h' = h)) :
    ACalls Tryz.prog 47 [x.av, .fn g caps] h (fun v h' => v = (x.kept q).av ∧ h' = h) :=
  ACalls.post ((onlyTurns_w x g caps q h hl hq).mono fun v h' ⟨u, hp, e1, hg, e⟩ => by
    subst e; subst e1
    exact Grow.froze hg (fun u => .agg [.int .i64 x.n, .int .i64 x.m, u]) (fun id b u => by simp [fz]) (fun _ _ h => .agg (.cons (.refl _) (.cons (.refl _) (.cons h .nil)))) (.base ⟨rfl, rfl⟩))
/-- The graph of the forest's edges. -/
def Ph.fgraph (x : Ph) : Ph := x.kept fun k => decide (k ∈ x.forest)
theorem fgraph_c (x : Ph) (h : Heap) (hl : x.ts.length ≤ 24) : ACalls Tryz.prog 47 [x.av, .fn 48 [.ip [.snap 1 (x.forest.map iv)]]] h (fun v h' => v = x.fgraph.av ∧ h' = h) :=
  onlyTurns_c x _ _ _ h (by omega) fun k h _ => fp1_c k x.forest h (by have := fstate_len x x.ts.length; unfold Ph.forest; omega)
theorem kept_mem {ts : List T} {q : Int → Bool} {t : T} {n : Nat} (hn : n ≤ ts.length) : t ∈ keptTo ts q n ↔ ∃ (k : Nat) (hk : k < ts.length), k < n ∧ q k = true ∧ t = ts[k] := by
  unfold keptTo
  simp only [List.mem_map, List.mem_filter, List.mem_range]
  constructor
  · rintro ⟨k, ⟨h1, h2⟩, rfl⟩
    exact ⟨k, by omega, h1, h2, by simp [show k < ts.length by omega]⟩
  · rintro ⟨k, hk, h1, h2, rfl⟩
    exact ⟨k, ⟨h1, h2⟩, by simp [hk]⟩
theorem Ph.kept_bnd {x : Ph} (hv : x.valid) (q : Int → Bool) : (x.kept q).bnd := by
  refine ⟨hv.2.2.1, hv.2.2.2.1, ?_, fun i hi => ?_⟩
  · have := keptTo_len x.ts q x.ts.length
    have := hv.2.2.2.2.2
    simp only [Ph.kept]; omega
  · obtain ⟨k, hk, _, _, e⟩ := (kept_mem (ts := x.ts) (q := q) (Nat.le_refl _)).1 (List.getElem_mem hi)
    simp only [Ph.kept] at e ⊢
    rw [e]
    exact (Ph.edge hv hk).2.2.2
end Go.AG.P
