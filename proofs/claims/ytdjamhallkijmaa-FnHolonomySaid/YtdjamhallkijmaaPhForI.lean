/- ForestOf: what the program's and the reference's functions give. No statement is made here. -/
import Derived.Test.YtdjamhallkijmaaPhFor2
namespace Go.AG
open Go.Proofs Go.Proofs.Ytdjamhallkijmaa
set_option linter.unusedSimpArgs false
set_option linter.unusedVariables false
set_option maxRecDepth 4000
noncomputable def Ph.fres (x : Ph) : List Int := if x.valid then x.forest else []
noncomputable def Ph.fcode (x : Ph) : Int := if x.valid then 0 else 1
theorem Ph.fres_len (x : Ph) : x.fres.length ≤ x.ts.length := by
  unfold Ph.fres
  split
  · exact fstate_len x _
  · simp
abbrev k33_o0 : List AJ := [.o ⟨(some 2), none, false, .mv (.c .nilsl), (some [0])⟩]
abbrev k33_o1 : List AJ := [.o ⟨(some 3), none, false, .mv (.c .nilsl), (some [0, 3])⟩]
abbrev k33_o2 : List AJ := [.o ⟨(some 5), none, false, .mv (.t 0), none⟩, .o ⟨(some 6), none, false, .mv (.c (.int .i64 0)), (some [3, 5, 6])⟩]
abbrev k33_o3 : List AJ := [.o ⟨(some 7), none, false, .bin .lss (.t 6) (.t 5), (some [3, 5, 6, 7])⟩]
abbrev k33_o4 : List AJ := [.o ⟨(some 8), none, false, .mv (.t 6), none⟩, .o ⟨(some 4), none, false, .mv (.t 8), (some [3, 4, 5, 6])⟩]
abbrev k33_o5 : List AJ := [.o ⟨(some 9), none, false, .mv (.t 3), none⟩, .o ⟨(some 10), none, false, .mv (.t 4), none⟩, .o ⟨(some 11), none, false, .bsl false 1 [(.t 10)], none⟩, .o ⟨(some 12), none, false, .append 1 8 (.t 9) (.t 11), none⟩, .o ⟨(some 3), none, false, .mv (.t 12), (some [3, 5, 6])⟩]
def k33_6 : ACode := .region k33_o5
def k33_7 : ACode := .seq (.region k33_o4) k33_6
abbrev k33_o6 : List AJ := [.o ⟨(some 13), none, true, .bin .add (.t 6) (.c (.int .i64 1)), none⟩, .o ⟨(some 6), none, false, .mv (.t 13), (some [3, 5, 6])⟩]
def k33_9 : ACode := .region k33_o6
def k33_10 : ACode := .seq (.block 1 k33_7) k33_9
def k33_11 : ACode := .seq (.cond (.t 7) .skip (.exit 0)) k33_10
def k33_12 : ACode := .seq (.region k33_o3) k33_11
def k33_13 : ACode := .loop k33_12
def k33_14 : ACode := .block 0 k33_13
def k33_15 : ACode := .seq (.region k33_o2) k33_14
abbrev k33_o7 : List AJ := [.o ⟨(some 14), none, false, .mv (.t 3), none⟩, .o ⟨(some 2), none, false, .mv (.t 14), (some [2])⟩]
def k33_17 : ACode := .seq (.region k33_o7) .ret
def k33_18 : ACode := .seq k33_15 k33_17
def k33_19 : ACode := .seq (.region k33_o1) k33_18
def k33_20 : ACode := .seq (.region k33_o0) k33_19
@[simp, simp ↓] theorem k33_6r : rR k33_6 k33_o5 := zR rfl
@[simp, simp ↓] theorem k33_7r : sR k33_7 k33_o4 k33_6 := yR rfl
@[simp, simp ↓] theorem k33_9r : rR k33_9 k33_o6 := zR rfl
@[simp, simp ↓] theorem k33_10r : sB k33_10 1 k33_7 k33_9 := yB rfl
@[simp, simp ↓] theorem k33_11r : sC k33_11 (.t 7) .skip (.exit 0) k33_10 := yC rfl
@[simp, simp ↓] theorem k33_12r : sR k33_12 k33_o3 k33_11 := yR rfl
@[simp, simp ↓] theorem k33_13r : rL k33_13 k33_12 := zL rfl
@[simp, simp ↓] theorem k33_14r : rB k33_14 0 k33_13 := zB rfl
@[simp, simp ↓] theorem k33_15r : sR k33_15 k33_o2 k33_14 := yR rfl
@[simp, simp ↓] theorem k33_17r : sR k33_17 k33_o7 .ret := yR rfl
@[simp, simp ↓] theorem k33_18r : rS k33_18 k33_15 k33_17 := zS rfl
@[simp, simp ↓] theorem k33_19r : sR k33_19 k33_o1 k33_18 := yR rfl
@[simp, simp ↓] theorem k33_20r : sR k33_20 k33_o0 k33_19 := yR rfl
noncomputable abbrev k33_C : Orc → Cx := mkC Try.prog [] 33 15 [.tmp 2]
theorem k33_of0 : OfP0 Try.prog Try.f33 33 15 k33_C k33_20 := @ofP0 _ _ _ _ _ _ _ _ Try.func33 (by decide +kernel) rfl (by kernel_rfl) rfl (by kernel_rfl)
theorem firstChoice_w (n : Int) (h : Heap) (hn : n ≤ 1048576) : ACalls Try.prog 33 [.int .i64 n] h (fun v h' => ∃ hp, Grow 1 v (((List.range n.toNat).map Int.ofNat).map iv) hp ∧ (∀ j ∈ dom hp, j ∉ dom h) ∧ h' = hp ++ h) := by
  refine k33_of0 rfl noPure fun I => ?_
  refine Run2.of I 1000 ?_
  simp -implicitDefEqProofs
  obtain ⟨N, hN⟩ : ∃ N : Nat, n.toNat = N := ⟨_, rfl⟩
  rw [hN]
  refine Run2.loopE (α := Nat × AV × Heap) (fun s => [(3, s.2.1), (5, .int .i64 n), (6, .int .i64 (s.1 : Nat))]) (fun s => s.2.2 ++ h) (fun s => N - s.1) (fun s => s.1 ≤ N ∧ Grow 1 s.2.1 (((List.range s.1).map Int.ofNat).map iv) s.2.2 ∧ (∀ j ∈ dom s.2.2, j ∉ dom h)) (0, .nilsl, []) (by simp) rfl ⟨Nat.zero_le _, by simpa using Grow.nil, by simp [dom]⟩ ?_
  rintro ⟨i, w, hp⟩ ⟨hi, hg, hd⟩ ih
  simp only at hi hg hd ih ⊢
  by_cases hlt : i < N
  · have hlt' : (i : Int) < n := by omega
    have go := fun w' hp' a b => ih (i + 1, w', hp') ⟨by simp; omega, a, b⟩ (by simp; omega)
    clear ih
    refine Run2.of I 1000 ?_
    simp -implicitDefEqProofs [hlt']
    refine Grow.app_mid (pre := []) (post := h) hg (fun j hj => by simp [dom]) (by simp; omega) (by simp) fun w' hp' hg' hf => ?_
    simp -implicitDefEqProofs
    refine ⟨by omega, ?_⟩
    have := go w' hp' (by simpa [List.range_succ] using hg') (by simpa using hf)
    simpa using this
  · obtain rfl : i = N := by omega
    have hlt' : ¬ (i : Int) < n := by omega
    refine Run2.of I 1000 ?_
    simp -implicitDefEqProofs [hlt']
    exact ⟨by simpa using hg, hd⟩
abbrev k39_o0 : List AJ := [.o ⟨(some 1), none, false, .box false 3 (.t 0), none⟩, .o ⟨(some 2), none, false, .mv (.c .nilsl), (some [1])⟩]
abbrev k39_o1 : List AJ := [.o ⟨(some 10), none, false, .fieldA 0 (.t 1), none⟩, .o ⟨(some 11), none, false, .load 1 false (.t 10), none⟩, .o ⟨(some 12), none, false, .call 33 [(.t 11)], none⟩, .o ⟨(some 3), none, false, .mv (.t 12), (some [1, 3])⟩]
abbrev k39_o2 : List AJ := [.o ⟨(some 4), none, false, .mv (.c .nilsl), (some [1, 3, 4])⟩]
abbrev k39_o3 : List AJ := [.o ⟨(some 13), none, false, .fieldA 2 (.t 1), none⟩, .o ⟨(some 14), none, false, .load 1 false (.t 13), none⟩, .o ⟨(some 15), none, false, .len (.t 14), none⟩, .o ⟨(some 16), none, false, .mv (.c (.int .i64 0)), (some [3, 4, 14, 15, 16])⟩]
abbrev k39_o4 : List AJ := [.o ⟨(some 17), none, false, .bin .lss (.t 16) (.t 15), (some [3, 4, 14, 15, 16, 17])⟩]
abbrev k39_o5 : List AJ := [.o ⟨(some 18), none, false, .mv (.t 16), none⟩, .o ⟨(some 19), none, false, .idxA 3 (.t 14) (.t 16), none⟩, .o ⟨(some 20), none, false, .load 3 true (.t 19), none⟩, .v 6 3 (.agg [(.int .i64 0), (.int .i64 0), (.int .i64 0)]) [(5, (.t 18))] (.t 20) (some [3, 4, 5, 6, 14, 15, 16])]
abbrev k39_o6 : List AI := [⟨(some 21), none, false, .mv (.t 3), none⟩, ⟨(some 22), none, false, .fieldA 0 (.t 6), none⟩, ⟨(some 23), none, false, .load 1 false (.t 22), none⟩, ⟨(some 24), none, false, .idxA 1 (.t 21) (.t 23), none⟩, ⟨(some 25), none, false, .load 1 false (.t 24), none⟩, ⟨(some 26), none, false, .mv (.t 3), none⟩, ⟨(some 27), none, false, .fieldA 1 (.t 6), none⟩, ⟨(some 28), none, false, .load 1 false (.t 27), none⟩, ⟨(some 29), none, false, .idxA 1 (.t 26) (.t 28), none⟩, ⟨(some 30), none, false, .load 1 false (.t 29), none⟩, ⟨(some 7), none, false, .mv (.t 25), none⟩, ⟨(some 8), none, false, .mv (.t 30), (some [3, 4, 5, 7, 8, 14, 15, 16])⟩]
abbrev k39_o7 : List AJ := [.o ⟨(some 31), none, false, .mv (.t 7), none⟩, .o ⟨(some 32), none, false, .mv (.t 8), none⟩, .o ⟨(some 33), none, false, .bin .eql (.t 31) (.t 32), (some [3, 4, 5, 7, 8, 14, 15, 16, 33])⟩]
def k39_9 : ACode := .cond (.t 33) (.exit 1) .skip
def k39_10 : ACode := .seq (.region k39_o7) k39_9
abbrev k39_o8 : List AJ := [.o ⟨(some 34), none, false, .mv (.t 4), none⟩, .o ⟨(some 35), none, false, .mv (.t 5), none⟩, .o ⟨(some 36), none, false, .bsl false 1 [(.t 35)], none⟩, .o ⟨(some 37), none, false, .append 1 8 (.t 34) (.t 36), none⟩, .o ⟨(some 4), none, false, .mv (.t 37), (some [3, 4, 7, 8, 14, 15, 16])⟩]
abbrev k39_o9 : List AJ := [.o ⟨(some 38), none, false, .mv (.t 3), none⟩, .o ⟨(some 39), none, false, .len (.t 38), none⟩, .o ⟨(some 40), none, false, .mv (.c (.int .i64 0)), (some [3, 4, 7, 8, 14, 15, 16, 39, 40])⟩]
abbrev k39_o10 : List AJ := [.o ⟨(some 41), none, false, .bin .lss (.t 40) (.t 39), (some [3, 4, 7, 8, 14, 15, 16, 39, 40, 41])⟩]
abbrev k39_o11 : List AJ := [.o ⟨(some 42), none, false, .mv (.t 40), none⟩, .o ⟨(some 9), none, false, .mv (.t 42), (some [3, 4, 7, 8, 9, 14, 15, 16, 39, 40])⟩]
abbrev k39_o12 : List AJ := [.o ⟨(some 43), none, false, .mv (.t 3), none⟩, .o ⟨(some 44), none, false, .mv (.t 9), none⟩, .o ⟨(some 45), none, false, .idxA 1 (.t 43) (.t 44), none⟩, .o ⟨(some 46), none, false, .load 1 false (.t 45), none⟩, .o ⟨(some 47), none, false, .mv (.t 8), none⟩, .o ⟨(some 48), none, false, .bin .eql (.t 46) (.t 47), (some [3, 4, 7, 8, 9, 14, 15, 16, 39, 40, 48])⟩]
abbrev k39_o13 : List AJ := [.o ⟨(some 49), none, false, .mv (.t 3), none⟩, .o ⟨(some 50), none, false, .mv (.t 9), none⟩, .o ⟨(some 51), none, false, .mv (.t 7), none⟩, .o ⟨(some 52), none, false, .idxA 1 (.t 49) (.t 50), none⟩, .o ⟨none, none, false, .store 1 (.t 52) (.t 51), (some [3, 4, 7, 8, 14, 15, 16, 39, 40])⟩]
def k39_17 : ACode := .region k39_o13
def k39_18 : ACode := .cond (.t 48) k39_17 .skip
def k39_19 : ACode := .seq (.region k39_o12) k39_18
def k39_20 : ACode := .seq (.region k39_o11) k39_19
abbrev k39_o14 : List AJ := [.o ⟨(some 53), none, true, .bin .add (.t 40) (.c (.int .i64 1)), none⟩, .o ⟨(some 40), none, false, .mv (.t 53), (some [3, 4, 7, 8, 14, 15, 16, 39, 40])⟩]
def k39_22 : ACode := .region k39_o14
def k39_23 : ACode := .seq (.block 3 k39_20) k39_22
def k39_24 : ACode := .seq (.cond (.t 41) .skip (.exit 2)) k39_23
def k39_25 : ACode := .seq (.region k39_o10) k39_24
def k39_26 : ACode := .loop k39_25
def k39_27 : ACode := .block 2 k39_26
def k39_28 : ACode := .seq (.region k39_o9) k39_27
def k39_29 : ACode := .seq (.region k39_o8) k39_28
def k39_30 : ACode := .seq k39_10 k39_29
def k39_31 : ACode := .seq (.draw k39_o6 [] rfl) k39_30
def k39_32 : ACode := .seq (.region k39_o5) k39_31
abbrev k39_o15 : List AJ := [.o ⟨(some 54), none, true, .bin .add (.t 16) (.c (.int .i64 1)), none⟩, .o ⟨(some 16), none, false, .mv (.t 54), (some [3, 4, 14, 15, 16])⟩]
def k39_34 : ACode := .region k39_o15
def k39_35 : ACode := .seq (.block 1 k39_32) k39_34
def k39_36 : ACode := .seq (.cond (.t 17) .skip (.exit 0)) k39_35
def k39_37 : ACode := .seq (.region k39_o4) k39_36
def k39_38 : ACode := .loop k39_37
def k39_39 : ACode := .block 0 k39_38
def k39_40 : ACode := .seq (.region k39_o3) k39_39
abbrev k39_o16 : List AJ := [.o ⟨(some 55), none, false, .mv (.t 4), none⟩, .o ⟨(some 2), none, false, .mv (.t 55), (some [2])⟩]
def k39_42 : ACode := .seq (.region k39_o16) .ret
def k39_43 : ACode := .seq k39_40 k39_42
def k39_44 : ACode := .seq (.region k39_o2) k39_43
def k39_45 : ACode := .seq (.region k39_o1) k39_44
def k39_46 : ACode := .seq (.region k39_o0) k39_45
@[simp, simp ↓] theorem k39_9r : rC k39_9 (.t 33) (.exit 1) .skip := zC rfl
@[simp, simp ↓] theorem k39_10r : sR k39_10 k39_o7 k39_9 := yR rfl
@[simp, simp ↓] theorem k39_17r : rR k39_17 k39_o13 := zR rfl
@[simp, simp ↓] theorem k39_18r : rC k39_18 (.t 48) k39_17 .skip := zC rfl
@[simp, simp ↓] theorem k39_19r : sR k39_19 k39_o12 k39_18 := yR rfl
@[simp, simp ↓] theorem k39_20r : sR k39_20 k39_o11 k39_19 := yR rfl
@[simp, simp ↓] theorem k39_22r : rR k39_22 k39_o14 := zR rfl
@[simp, simp ↓] theorem k39_23r : sB k39_23 3 k39_20 k39_22 := yB rfl
@[simp, simp ↓] theorem k39_24r : sC k39_24 (.t 41) .skip (.exit 2) k39_23 := yC rfl
@[simp, simp ↓] theorem k39_25r : sR k39_25 k39_o10 k39_24 := yR rfl
@[simp, simp ↓] theorem k39_26r : rL k39_26 k39_25 := zL rfl
@[simp, simp ↓] theorem k39_27r : rB k39_27 2 k39_26 := zB rfl
@[simp, simp ↓] theorem k39_28r : sR k39_28 k39_o9 k39_27 := yR rfl
@[simp, simp ↓] theorem k39_29r : sR k39_29 k39_o8 k39_28 := yR rfl
@[simp, simp ↓] theorem k39_30r : rS k39_30 k39_10 k39_29 := zS rfl
@[simp, simp ↓] theorem k39_31r : sD k39_31 k39_o6 [] k39_30 := yD rfl
@[simp, simp ↓] theorem k39_32r : sR k39_32 k39_o5 k39_31 := yR rfl
@[simp, simp ↓] theorem k39_34r : rR k39_34 k39_o15 := zR rfl
@[simp, simp ↓] theorem k39_35r : sB k39_35 1 k39_32 k39_34 := yB rfl
@[simp, simp ↓] theorem k39_36r : sC k39_36 (.t 17) .skip (.exit 0) k39_35 := yC rfl
@[simp, simp ↓] theorem k39_37r : sR k39_37 k39_o4 k39_36 := yR rfl
@[simp, simp ↓] theorem k39_38r : rL k39_38 k39_37 := zL rfl
@[simp, simp ↓] theorem k39_39r : rB k39_39 0 k39_38 := zB rfl
@[simp, simp ↓] theorem k39_40r : sR k39_40 k39_o3 k39_39 := yR rfl
@[simp, simp ↓] theorem k39_42r : sR k39_42 k39_o16 .ret := yR rfl
@[simp, simp ↓] theorem k39_43r : rS k39_43 k39_40 k39_42 := zS rfl
@[simp, simp ↓] theorem k39_44r : sR k39_44 k39_o2 k39_43 := yR rfl
@[simp, simp ↓] theorem k39_45r : sR k39_45 k39_o1 k39_44 := yR rfl
@[simp, simp ↓] theorem k39_46r : sR k39_46 k39_o0 k39_45 := yR rfl
noncomputable abbrev k39_C : Orc → Cx := mkC Try.prog [6] 39 56 [.tmp 2]
theorem k39_of : OfP Try.prog Try.f39 39 56 k39_C k39_46 := @ofP _ _ _ _ _ _ _ _ Try.func39 (by decide +kernel) rfl (by kernel_rfl) rfl (by kernel_rfl)
noncomputable abbrev FiC : Cx := k39_C (lk orcF)
theorem forI_inner (I : Is FiC Try.f39) {h : Heap} {R : AV → Heap → Prop} {sk : List AItem} {L : AV} {P P' : List Int} {a b M : Int} {i : Nat} {u : AV} {ga : Heap} {idp : Nat} {N : Nat} (hp : idp ∉ dom ga)
    (l1 : P.length = N) (l3 : P'.length = N) (hP : ∀ (v : Nat) (h1 : v < P.length) (h2 : v < P'.length), P'[v] = if P[v] = b then a else P[v]) (hN : N ≤ 12)
    (go : vc2 FiC 994 [] sk [(3, .sl idp 1 0 N none), (4, u), (7, .int .i64 a), (8, .int .i64 b), (14, L), (15, .int .i64 M), (16, .int .i64 (i : Nat)), (39, .int .i64 (N : Nat)), (40, .int .i64 (N : Nat)), (41, .bool false)] (ga ++ ((idp, ⟨1, P'.map iv⟩) :: h)) R) :
    Run2 FiC (.code k39_25 :: .inLoop k39_25 :: .inBlock 2 :: sk) [(3, .sl idp 1 0 N none), (4, u), (7, .int .i64 a), (8, .int .i64 b), (14, L), (15, .int .i64 M), (16, .int .i64 (i : Nat)), (39, .int .i64 (N : Nat)), (40, .int .i64 0)] (ga ++ ((idp, ⟨1, P.map iv⟩) :: h)) R := by
  rw [show P.map iv = inpl (P.map iv) (P'.map iv) 0 by simp]
  refine Run2.loopE (fun v => [(3, .sl idp 1 0 N none), (4, u), (7, .int .i64 a), (8, .int .i64 b), (14, L), (15, .int .i64 M), (16, .int .i64 (i : Nat)), (39, .int .i64 (N : Nat)), (40, .int .i64 (v : Nat))])
    (fun v => ga ++ ((idp, ⟨1, inpl (P.map iv) (P'.map iv) v⟩) :: h)) (fun v => N - v) (fun v => v ≤ N) 0 (by simp) rfl (Nat.zero_le _) fun v hv ih => ?_
  have n2 := inpl_len (l := P.map iv) (l' := P'.map iv) (v := v) (by simp; omega)
  by_cases hlt : v < N
  · have go1 := ih (v + 1) (by omega) (by omega)
    clear ih
    have g2 := inpl_get (l := P.map iv) (l' := P'.map iv) (v := v) (by simp; omega) (by simp; omega) (by rw [n2]; simp; omega)
    have s2 := inpl_set (l := P.map iv) (l' := P'.map iv) (v := v) (by simp; omega) (by simp; omega)
    have k2 := inpl_keep (l := P.map iv) (l' := P'.map iv) (v := v) (by simp; omega) (by simp; omega)
    simp only [List.getElem_map] at g2 s2 k2
    have hP := hP v (by omega) (by omega)
    rw [hP] at s2 k2
    generalize hY : inpl (P.map iv) (P'.map iv) = Y at *
    have m2 : v < (Y v).length := by rw [n2]; simp; omega
    refine Run2.of I 1000 ?_
    simp -implicitDefEqProofs [hlt, hget_app hp, hset_app hp, m2, g2]
    refine ⟨fun h1 => ⟨by omega, ?_⟩, fun h1 => ⟨by omega, ?_⟩⟩
    · simp only [iv, if_pos h1] at s2
      rw [s2]
      simpa using go1
    · simp only [iv, if_neg h1, forall_const] at k2
      rw [k2]
      simpa using go1
  · obtain rfl : v = N := by omega
    have e2 : inpl (P.map iv) (P'.map iv) v = P'.map iv := by have := inpl_end (l := P.map iv) (l' := P'.map iv) (by simp; omega); simpa [l1] using this
    refine Run2.of I 1000 ?_
    simp -implicitDefEqProofs
    rw [e2]
    exact go
theorem forestOf_w (x : Ph) (h : Heap) (hv : x.valid) : ACalls Try.prog 39 [x.av] h (fun v h' => ∃ hp, Grow 1 v (x.forest.map iv) hp ∧ (∀ j ∈ dom hp, j ∉ dom h) ∧ h' = hp ++ h) := by
  have hn1 := hv.1
  have hn2 := hv.2.1
  have hm1 := hv.2.2.1
  have hl2 := hv.2.2.2.2.2
  refine k39_of rfl orcF_p fun I => ?_
  refine Run2.of I 1000 ?_
  simp -implicitDefEqProofs
  have fo := fstate_ok (x := x) hm1
  have fl := fstate_len x
  have f0 : fstate x 0 = ((List.range x.n.toNat).map Int.ofNat, List.replicate x.n.toNat 0, []) := rfl
  refine (firstChoice_w x.n _ (by omega)).mono ?_
  rintro wp h' ⟨gp, hgp, hd1, rfl⟩
  obtain ⟨N, hN⟩ : ∃ N : Nat, x.n.toNat = N := ⟨_, rfl⟩
  have hNx : x.n = (N : Int) := by omega
  have foP := fun i => (fo i).p
  have foF := fun i => (fo i).f
  simp only [hN] at foP foF f0 hgp
  have hN12 : N ≤ 12 := by omega
  generalize hLp : ((List.range N).map Int.ofNat).map iv = Lp at hgp
  cases hgp with
  | nil => have := congrArg List.length hLp; simp at this; omega
  | emp => have := congrArg List.length hLp; simp at this; omega
  | sl idp _ np hnp =>
  obtain rfl : N = np := by rw [hnp, ← hLp]; simp
  subst hLp
  have hph : idp ∉ dom h := hd1 idp (by simp [dom])
  clear hd1 hnp
  refine gK.go ?_
  simp -implicitDefEqProofs
  refine Run2.loopE (α := Nat × AV × Heap) (fun s => [(3, .sl idp 1 0 N none), (4, s.2.1), (14, .snap 3 (x.ts.map T.av)), (15, .int .i64 x.ts.length), (16, .int .i64 (s.1 : Nat))])
    (fun s => s.2.2 ++ ((idp, ⟨1, (fstate x s.1).1.map iv⟩) :: h)) (fun s => x.ts.length - s.1) (fun s => s.1 ≤ x.ts.length ∧ Grow 1 s.2.1 ((fstate x s.1).2.2.map iv) s.2.2 ∧ idp ∉ dom s.2.2 ∧ (∀ j ∈ dom s.2.2, j ∉ dom h)) (0, .nilsl, []) (by simp) (by simp [f0]) ⟨Nat.zero_le _, by simpa [f0] using Grow.nil, by simp [dom], by simp [dom]⟩ ?_
  rintro ⟨i, u, ga⟩ ⟨hi2, hg, hpa, hda⟩ ih
  simp only at hi2 hg hpa hda ih ⊢
  have foP := foP i
  have foF := foF i
  have fl := fl i
  by_cases hlt2 : i < x.ts.length
  · have go := fun w' ga' a b c => ih (i + 1, w', ga') ⟨by simp; omega, a, b, c⟩ (by simp; omega)
    clear ih
    have hst : fstate x (i + 1) = fstep x i (fstate x i) := rfl
    generalize hS : fstate x i = S at *
    obtain ⟨P, F, out⟩ := S
    simp only at foP foF hg fl
    obtain ⟨e1, e2, e3, e4, e5⟩ := Ph.edge hv hlt2
    have ef : x.ts[i].f.toNat < P.length := by omega
    have et : x.ts[i].t.toNat < P.length := by omega
    have ef' : x.ts[i].f.toNat < F.length := by omega
    have et' : x.ts[i].t.toNat < F.length := by omega
    have e6 : 0 ≤ x.ts[i].t := by omega
    have evf : x.ts[i].f.toNat < N := by omega
    have evt : x.ts[i].t.toNat < N := by omega
    have hs2 : fstep x i (P, F, out) = if P[x.ts[i].f.toNat] = P[x.ts[i].t.toNat] then (P, F, out) else
        (P.map fun c => if c = P[x.ts[i].t.toNat] then P[x.ts[i].f.toNat] else c, List.zipWith (fun c q => if c = P[x.ts[i].t.toNat] then (q + (F[x.ts[i].f.toNat] + x.ts[i].s - F[x.ts[i].t.toNat]) % x.m) % x.m else q) P F, out ++ [(i : Int)]) := by
      unfold fstep
      simp [hlt2, ef, et, ef', et']
    by_cases hab : P[x.ts[i].f.toNat] = P[x.ts[i].t.toNat]
    · rw [if_pos hab] at hs2
      refine Run2.of I 1000 ?_
      simp -implicitDefEqProofs [hlt2, hget_app hpa, e1, e6, ef, et, evf, evt, hab]
      refine ⟨by omega, ?_⟩
      have := go u ga (by simp only [hst, hs2]; exact hg) hpa hda
      simp only [hst, hs2] at this
      simpa using this
    · rw [if_neg hab] at hs2
      refine Run2.of I 1000 ?_
      simp -implicitDefEqProofs [hlt2, hget_app hpa, e1, e6, ef, et, evf, evt, hab]
      refine Grow.app_mid (pre := []) hg (fun j hj => by simp [dom]) (by simp; omega) (by simp) fun w' ga' hg' hf => ?_
      have hpb : idp ∉ dom ga' := fun h => hf idp h (by simp [dom])
      simp -implicitDefEqProofs [hget_app hpb, e1, e6, evf, evt]
      have go := go w' ga' (by simp only [hst, hs2]; simpa using hg') hpb (fun j hj hj2 => hf j hj (by simp [dom] at hj2 ⊢; exact .inr hj2))
      simp only [hst, hs2] at go
      refine forI_inner (P' := P.map fun c => if c = P[x.ts[i].t.toNat] then P[x.ts[i].f.toNat] else c) I hpb foP (by simp [foP]) (fun v h1 h2 => by simp) hN12 ?_
      simp -implicitDefEqProofs
      refine ⟨by omega, ?_⟩
      simpa using go
  · obtain rfl : i = x.ts.length := by omega
    clear ih
    refine Run2.of I 1000 ?_
    simp -implicitDefEqProofs
    refine .drop idp (.base ?_)
    rw [hdel_app hpa]
    simp [hdel]
    exact ⟨hg, hda⟩
abbrev k10_o0 : List AJ := [.o ⟨(some 1), none, false, .box false 3 (.t 0), none⟩, .o ⟨(some 2), none, false, .mv (.c .nilsl), none⟩, .o ⟨(some 3), none, false, .mv (.c (.int .i64 0)), (some [1])⟩]
abbrev k10_o1 : List AJ := [.o ⟨(some 4), none, false, .load 3 true (.t 1), none⟩, .o ⟨(some 5), none, false, .call 24 [(.t 4)], none⟩, .o ⟨(some 6), none, false, .un .not (.t 5), (some [1, 6])⟩]
abbrev k10_o2 : List AJ := [.o ⟨(some 2), none, false, .mv (.c .nilsl), none⟩, .o ⟨(some 3), none, false, .mv (.c (.int .i64 1)), (some [2, 3])⟩]
def k10_3 : ACode := .seq (.region k10_o2) .ret
def k10_4 : ACode := .cond (.t 6) k10_3 .skip
def k10_5 : ACode := .seq (.region k10_o1) k10_4
abbrev k10_o3 : List AJ := [.o ⟨(some 7), none, false, .load 3 true (.t 1), none⟩, .o ⟨(some 8), none, false, .call 39 [(.t 7)], none⟩, .o ⟨(some 2), none, false, .mv (.t 8), none⟩, .o ⟨(some 3), none, false, .mv (.c (.int .i64 0)), (some [2, 3])⟩]
def k10_7 : ACode := .seq (.region k10_o3) .ret
def k10_8 : ACode := .seq k10_5 k10_7
def k10_9 : ACode := .seq (.region k10_o0) k10_8
@[simp, simp ↓] theorem k10_3r : sR k10_3 k10_o2 .ret := yR rfl
@[simp, simp ↓] theorem k10_4r : rC k10_4 (.t 6) k10_3 .skip := zC rfl
@[simp, simp ↓] theorem k10_5r : sR k10_5 k10_o1 k10_4 := yR rfl
@[simp, simp ↓] theorem k10_7r : sR k10_7 k10_o3 .ret := yR rfl
@[simp, simp ↓] theorem k10_8r : rS k10_8 k10_5 k10_7 := zS rfl
@[simp, simp ↓] theorem k10_9r : sR k10_9 k10_o0 k10_8 := yR rfl
noncomputable abbrev k10_C : Orc → Cx := mkC Try.prog [] 10 9 [.tmp 2, .tmp 3]
theorem k10_of : OfP Try.prog Try.f10 10 9 k10_C k10_9 := @ofP _ _ _ _ _ _ _ _ Try.func10 (by decide +kernel) rfl (by kernel_rfl) rfl (by kernel_rfl)
theorem implForest_o (x : Ph) (ok : x.ok) (hl : x.ts.length ≤ 1048576) : ACalls Try.prog 10 [x.av] [] (fun v h' => ∃ w, v = .tup [w, .int .i64 x.fcode] ∧ OwnL iv 1 w x.fres h') := by
  refine k10_of rfl orcF_p fun I => ?_
  refine Run2.of I 1000 ?_
  simp -implicitDefEqProofs [ok, hl]
  refine ⟨fun hv => .base ?_, fun hv => ?_⟩
  · simp [Ph.fres, Ph.fcode, hv]
    exact .nil
  refine (forestOf_w x _ hv).mono ?_
  rintro w h' ⟨hp, hg, hd, rfl⟩
  refine gK.go ?_
  simp -implicitDefEqProofs
  refine .base ?_
  simp [Ph.fres, Ph.fcode, hv]
  exact hg.own
end Go.AG
