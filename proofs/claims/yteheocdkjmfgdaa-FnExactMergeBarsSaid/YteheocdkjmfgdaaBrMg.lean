/- Lists of bars joined: the library's slices.Concat. No statement is made here. -/
import Derived.Test.YteheocdkjmfgdaaBrVal
import Derived.Test.YteheocdkjmfgdaaAGLists2
namespace Go.AG
open Go.Proofs Go.Proofs.Yteheocdkjmfgdaa
set_option linter.unusedSimpArgs false
set_option linter.unusedVariables false
set_option maxRecDepth 4000
/-- A slice that is only appended to, with room behind it. -/
inductive GrowX (sz : Nat) : AV → List AV → Heap → Prop
  | nil : GrowX sz .nilsl [] []
  | sl (id : Nat) (l ex : List AV) (n : Nat) (hn : n = l.length) : GrowX sz (.sl id sz 0 n none) l [(id, ⟨sz, l ++ ex⟩)]
theorem GrowX.cell {sz : Nat} {w : AV} {l : List AV} {hp : Heap} (h : GrowX sz w l hp) : isCell w = true := by cases h <;> rfl
theorem GrowX.app {sz : Nat} {w : AV} {l new : List AV} {hp h : Heap} {C : Cx} {n : Nat} {d : Option Nat} {ks : Option (List Nat)} {is : List AJ} {sk : List AItem} {R : AV → Heap → Prop} {e : Env} {bytes : Nat} (g : GrowX sz w l hp) (hb : (2 * (l.length + new.length)) * bytes ≤ 281474976710656)
    (k : ∀ w' hp', GrowX sz w' (l ++ new) hp' → vc2 C n is sk (kp (put e d w') ks) (hp' ++ h) R) : resK C n d ks is sk R e (hp ++ h) (appR (hp ++ h) sz bytes w new) := by
  cases g with
  | nil =>
    simp only [appR_n, List.nil_append]
    refine ⟨fun he => ?_, fun _ => ⟨by simpa using hb, fun id _ => ?_⟩⟩
    · have : new = [] := by cases new <;> simp_all
      subst this
      exact k _ _ .nil
    · have := k _ _ (.sl id new [] new.length rfl)
      simpa using this
  | sl id l ex m hm =>
    subst hm
    have hd : hdel ((id, ⟨sz, l ++ ex⟩) :: h) id = h := by simp [hdel]
    rw [appR_ln]
    refine ⟨rfl, ⟨sz, l ++ ex⟩, by simp [hget], rfl, by simp, rfl, hb, fun id' _ => ?_⟩
    have := k _ _ (.sl id' (l ++ new) [] (l.length + new.length) (by simp))
    simpa [hd] using this
/-- Less of a block is told. -/
theorem HRel.trim {w : World} {b sz : Nat} {l ex : List AV} {h : Heap} (H : HRel w ((b, ⟨sz, l ++ ex⟩) :: h)) : HRel w ((b, ⟨sz, l⟩) :: h) := by
  refine ⟨H.nd, fun p hp => ?_, H.fix⟩
  rcases List.mem_cons.1 hp with rfl | hp
  · obtain ⟨c, el, e, hE⟩ := H.all (b, ⟨sz, l ++ ex⟩) (List.mem_cons_self ..)
    refine ⟨c, el, e, ?_⟩
    simp only at hE ⊢
    rw [Elems_iff] at hE ⊢
    intro i x hx
    have hi := (List.getElem?_eq_some_iff.1 hx).1
    exact hE i x (by rw [List.getElem?_append_left hi]; exact hx)
  · exact H.all p (List.mem_cons_of_mem _ hp)
theorem GrowX.trim {P : Program} {g : FuncId} {args : List AV} {h h0 : Heap} {l : List AV} {sz : Nat} (H : ACalls P g args h fun v h' => ∃ hp, GrowX sz v l hp ∧ h' = hp ++ h0) : ACalls P g args h fun v h' => ∃ hp, Grow sz v l hp ∧ h' = hp ++ h0 :=
  ⟨H.1, fun w vs hw hv => (H.2 w vs hw hv).mono fun _ w' ⟨cv, v, h', e1, e2, e3, e4, hp, e5, e6⟩ => by
    cases e5 with
    | nil => exact ⟨cv, _, h', e1, e2, e3, e4, [], .nil, e6⟩
    | sl id l ex n hn =>
      subst e6
      exact ⟨cv, _, (id, ⟨sz, l⟩) :: h0, e1, e2, e3.trim, e4, [(id, ⟨sz, l⟩)], .sl id l n hn, rfl⟩⟩
abbrev k25_o0 : List AJ := [.o ⟨(some 4), none, false, .mv (.c .nilsl), (some [0, 1])⟩]
abbrev k25_o1 : List AJ := [.o ⟨(some 5), none, false, .mv (.t 1), none⟩, .o ⟨(some 6), none, false, .bin .lss (.t 5) (.c (.int .i64 0)), (some [0, 1, 6])⟩]
def k25_2 : ACode := .cond (.t 6) .bad .skip
def k25_3 : ACode := .seq (.region k25_o1) k25_2
abbrev k25_o2 : List AJ := [.o ⟨(some 8), none, false, .mv (.t 1), none⟩, .o ⟨(some 9), none, false, .mv (.t 0), none⟩, .o ⟨(some 10), none, false, .capk (.t 9), none⟩, .o ⟨(some 11), none, false, .mv (.t 0), none⟩, .o ⟨(some 12), none, false, .len (.t 11), none⟩, .o ⟨(some 13), none, true, .bin .sub (.t 10) (.t 12), none⟩, .o ⟨(some 14), none, true, .bin .sub (.t 8) (.t 13), none⟩, .o ⟨(some 1), none, false, .mv (.t 14), (some [0, 1])⟩]
abbrev k25_o3 : List AJ := [.o ⟨(some 15), none, false, .mv (.t 1), none⟩, .o ⟨(some 16), none, false, .bin .gtr (.t 15) (.c (.int .i64 0)), (some [0, 1, 16])⟩]
abbrev k25_o4 : List AJ := [.o ⟨(some 17), none, false, .mv (.t 0), none⟩, .o ⟨(some 18), none, false, .mv (.t 0), none⟩, .o ⟨(some 19), none, false, .capk (.t 18), none⟩, .o ⟨(some 20), none, false, .slice 3 (.t 17) none (some (.t 19)) none, none⟩, .o ⟨(some 21), none, false, .mv (.t 1), none⟩, .o ⟨(some 22), none, false, .appendz 3 24 (.agg [(.int .i64 0), (.int .i64 0), (.int .i64 0)]) (.t 20) (.t 21), none⟩, .o ⟨(some 23), none, false, .mv (.t 0), none⟩, .o ⟨(some 24), none, false, .len (.t 23), none⟩, .o ⟨(some 25), none, false, .slice 3 (.t 22) none (some (.t 24)) none, none⟩, .o ⟨(some 0), none, false, .mv (.t 25), (some [0])⟩]
def k25_6 : ACode := .region k25_o4
def k25_7 : ACode := .cond (.t 16) k25_6 .skip
def k25_8 : ACode := .seq (.region k25_o3) k25_7
def k25_9 : ACode := .seq (.region k25_o2) k25_8
abbrev k25_o5 : List AJ := [.o ⟨(some 26), none, false, .mv (.t 0), none⟩, .o ⟨(some 4), none, false, .mv (.t 26), (some [4])⟩]
def k25_11 : ACode := .seq (.region k25_o5) .ret
def k25_12 : ACode := .seq k25_9 k25_11
def k25_13 : ACode := .seq k25_3 k25_12
def k25_14 : ACode := .seq (.region k25_o0) k25_13
@[simp, simp ↓] theorem k25_2r : rC k25_2 (.t 6) .bad .skip := zC rfl
@[simp, simp ↓] theorem k25_3r : sR k25_3 k25_o1 k25_2 := yR rfl
@[simp, simp ↓] theorem k25_6r : rR k25_6 k25_o4 := zR rfl
@[simp, simp ↓] theorem k25_7r : rC k25_7 (.t 16) k25_6 .skip := zC rfl
@[simp, simp ↓] theorem k25_8r : sR k25_8 k25_o3 k25_7 := yR rfl
@[simp, simp ↓] theorem k25_9r : sR k25_9 k25_o2 k25_8 := yR rfl
@[simp, simp ↓] theorem k25_11r : sR k25_11 k25_o5 .ret := yR rfl
@[simp, simp ↓] theorem k25_12r : rS k25_12 k25_9 k25_11 := zS rfl
@[simp, simp ↓] theorem k25_13r : rS k25_13 k25_3 k25_12 := zS rfl
@[simp, simp ↓] theorem k25_14r : sR k25_14 k25_o0 k25_13 := yR rfl
noncomputable abbrev k25_C : Orc → Cx := mkC Try.prog [] 25 27 [.tmp 4]
theorem k25_of0 : OfP0 Try.prog Try.f25 25 27 k25_C k25_14 := @ofP0 _ _ _ _ _ _ _ _ Try.func25 (by decide +kernel) rfl (by kernel_rfl) rfl (by kernel_rfl)
theorem GrowB_g (n : Nat) (h : Heap) (hn : n ≤ 1048576) : ACalls Try.prog 25 [.nilsl, .int .i64 n] h (fun v h' => ∃ hp, GrowX 3 v [] hp ∧ h' = hp ++ h) := by
  refine k25_of0 rfl noPure fun I => ?_
  refine Run2.of I 1000 ?_
  simp -implicitDefEqProofs
  refine ⟨by omega, fun h1 => ⟨h1, by omega, fun id _ => ⟨[(id, ⟨3, [] ++ List.replicate n (.agg [.int .i64 0, .int .i64 0, .int .i64 0])⟩)], .sl id [] _ 0 rfl, by simp⟩⟩, fun _ => .nil⟩
abbrev k15_o0 : List AJ := [.o ⟨(some 2), none, false, .mv (.c .nilsl), (some [0])⟩]
abbrev k15_o1 : List AJ := [.o ⟨(some 3), none, false, .mv (.c (.int .i64 0)), (some [0, 3])⟩]
abbrev k15_o2 : List AJ := [.o ⟨(some 9), none, false, .mv (.t 0), none⟩, .o ⟨(some 10), none, false, .len (.t 9), none⟩, .o ⟨(some 11), none, false, .mv (.c (.int .i64 0)), (some [0, 3, 9, 10, 11])⟩]
abbrev k15_o3 : List AJ := [.o ⟨(some 12), none, false, .bin .lss (.t 11) (.t 10), (some [0, 3, 9, 10, 11, 12])⟩]
abbrev k15_o4 : List AJ := [.o ⟨(some 13), none, false, .idxA 1 (.t 9) (.t 11), none⟩, .o ⟨(some 14), none, false, .load 1 false (.t 13), none⟩, .o ⟨(some 5), none, false, .mv (.t 14), (some [0, 3, 5, 9, 10, 11])⟩]
abbrev k15_o5 : List AJ := [.o ⟨(some 15), none, false, .mv (.t 3), none⟩, .o ⟨(some 16), none, false, .mv (.t 5), none⟩, .o ⟨(some 17), none, false, .len (.t 16), none⟩, .o ⟨(some 18), none, true, .bin .add (.t 15) (.t 17), none⟩, .o ⟨(some 3), none, false, .mv (.t 18), (some [0, 3, 9, 10, 11])⟩]
abbrev k15_o6 : List AJ := [.o ⟨(some 19), none, false, .mv (.t 3), none⟩, .o ⟨(some 20), none, false, .bin .lss (.t 19) (.c (.int .i64 0)), (some [0, 3, 9, 10, 11, 20])⟩]
def k15_8 : ACode := .cond (.t 20) .bad .skip
def k15_9 : ACode := .seq (.region k15_o6) k15_8
def k15_10 : ACode := .seq (.region k15_o5) k15_9
def k15_11 : ACode := .seq (.region k15_o4) k15_10
abbrev k15_o7 : List AJ := [.o ⟨(some 22), none, true, .bin .add (.t 11) (.c (.int .i64 1)), none⟩, .o ⟨(some 11), none, false, .mv (.t 22), (some [0, 3, 9, 10, 11])⟩]
def k15_13 : ACode := .region k15_o7
def k15_14 : ACode := .seq (.block 1 k15_11) k15_13
def k15_15 : ACode := .seq (.cond (.t 12) .skip (.exit 0)) k15_14
def k15_16 : ACode := .seq (.region k15_o3) k15_15
def k15_17 : ACode := .loop k15_16
def k15_18 : ACode := .block 0 k15_17
def k15_19 : ACode := .seq (.region k15_o2) k15_18
abbrev k15_o8 : List AJ := [.o ⟨(some 23), none, false, .mv (.t 3), none⟩, .o ⟨(some 24), none, false, .call 25 [(.c .nilsl), (.t 23)], none⟩, .o ⟨(some 6), none, false, .mv (.t 24), (some [0, 6])⟩]
abbrev k15_o9 : List AJ := [.o ⟨(some 25), none, false, .mv (.t 0), none⟩, .o ⟨(some 26), none, false, .len (.t 25), none⟩, .o ⟨(some 27), none, false, .mv (.c (.int .i64 0)), (some [6, 25, 26, 27])⟩]
abbrev k15_o10 : List AJ := [.o ⟨(some 28), none, false, .bin .lss (.t 27) (.t 26), (some [6, 25, 26, 27, 28])⟩]
abbrev k15_o11 : List AJ := [.o ⟨(some 29), none, false, .idxA 1 (.t 25) (.t 27), none⟩, .o ⟨(some 30), none, false, .load 1 false (.t 29), none⟩, .o ⟨(some 8), none, false, .mv (.t 30), (some [6, 8, 25, 26, 27])⟩]
abbrev k15_o12 : List AJ := [.o ⟨(some 31), none, false, .mv (.t 6), none⟩, .o ⟨(some 32), none, false, .mv (.t 8), none⟩, .o ⟨(some 33), none, false, .append 3 24 (.t 31) (.t 32), none⟩, .o ⟨(some 6), none, false, .mv (.t 33), (some [6, 25, 26, 27])⟩]
def k15_25 : ACode := .region k15_o12
def k15_26 : ACode := .seq (.region k15_o11) k15_25
abbrev k15_o13 : List AJ := [.o ⟨(some 34), none, true, .bin .add (.t 27) (.c (.int .i64 1)), none⟩, .o ⟨(some 27), none, false, .mv (.t 34), (some [6, 25, 26, 27])⟩]
def k15_28 : ACode := .region k15_o13
def k15_29 : ACode := .seq (.block 3 k15_26) k15_28
def k15_30 : ACode := .seq (.cond (.t 28) .skip (.exit 2)) k15_29
def k15_31 : ACode := .seq (.region k15_o10) k15_30
def k15_32 : ACode := .loop k15_31
def k15_33 : ACode := .block 2 k15_32
def k15_34 : ACode := .seq (.region k15_o9) k15_33
abbrev k15_o14 : List AJ := [.o ⟨(some 35), none, false, .mv (.t 6), none⟩, .o ⟨(some 2), none, false, .mv (.t 35), (some [2])⟩]
def k15_36 : ACode := .seq (.region k15_o14) .ret
def k15_37 : ACode := .seq k15_34 k15_36
def k15_38 : ACode := .seq (.region k15_o8) k15_37
def k15_39 : ACode := .seq k15_19 k15_38
def k15_40 : ACode := .seq (.region k15_o1) k15_39
def k15_41 : ACode := .seq (.region k15_o0) k15_40
@[simp, simp ↓] theorem k15_8r : rC k15_8 (.t 20) .bad .skip := zC rfl
@[simp, simp ↓] theorem k15_9r : sR k15_9 k15_o6 k15_8 := yR rfl
@[simp, simp ↓] theorem k15_10r : sR k15_10 k15_o5 k15_9 := yR rfl
@[simp, simp ↓] theorem k15_11r : sR k15_11 k15_o4 k15_10 := yR rfl
@[simp, simp ↓] theorem k15_13r : rR k15_13 k15_o7 := zR rfl
@[simp, simp ↓] theorem k15_14r : sB k15_14 1 k15_11 k15_13 := yB rfl
@[simp, simp ↓] theorem k15_15r : sC k15_15 (.t 12) .skip (.exit 0) k15_14 := yC rfl
@[simp, simp ↓] theorem k15_16r : sR k15_16 k15_o3 k15_15 := yR rfl
@[simp, simp ↓] theorem k15_17r : rL k15_17 k15_16 := zL rfl
@[simp, simp ↓] theorem k15_18r : rB k15_18 0 k15_17 := zB rfl
@[simp, simp ↓] theorem k15_19r : sR k15_19 k15_o2 k15_18 := yR rfl
@[simp, simp ↓] theorem k15_25r : rR k15_25 k15_o12 := zR rfl
@[simp, simp ↓] theorem k15_26r : sR k15_26 k15_o11 k15_25 := yR rfl
@[simp, simp ↓] theorem k15_28r : rR k15_28 k15_o13 := zR rfl
@[simp, simp ↓] theorem k15_29r : sB k15_29 3 k15_26 k15_28 := yB rfl
@[simp, simp ↓] theorem k15_30r : sC k15_30 (.t 28) .skip (.exit 2) k15_29 := yC rfl
@[simp, simp ↓] theorem k15_31r : sR k15_31 k15_o10 k15_30 := yR rfl
@[simp, simp ↓] theorem k15_32r : rL k15_32 k15_31 := zL rfl
@[simp, simp ↓] theorem k15_33r : rB k15_33 2 k15_32 := zB rfl
@[simp, simp ↓] theorem k15_34r : sR k15_34 k15_o9 k15_33 := yR rfl
@[simp, simp ↓] theorem k15_36r : sR k15_36 k15_o14 .ret := yR rfl
@[simp, simp ↓] theorem k15_37r : rS k15_37 k15_34 k15_36 := zS rfl
@[simp, simp ↓] theorem k15_38r : sR k15_38 k15_o8 k15_37 := yR rfl
@[simp, simp ↓] theorem k15_39r : rS k15_39 k15_19 k15_38 := zS rfl
@[simp, simp ↓] theorem k15_40r : sR k15_40 k15_o1 k15_39 := yR rfl
@[simp, simp ↓] theorem k15_41r : sR k15_41 k15_o0 k15_40 := yR rfl
noncomputable abbrev k15_C : Orc → Cx := mkC Try.prog [] 15 36 [.tmp 2]
theorem k15_of0 : OfP0 Try.prog Try.f15 15 36 k15_C k15_41 := @ofP0 _ _ _ _ _ _ _ _ Try.func15 (by decide +kernel) rfl (by kernel_rfl) rfl (by kernel_rfl)
theorem ConcatB_g (parts : List (List AV)) (h : Heap) (hl : parts.length ≤ 1048576) (ht : parts.flatten.length ≤ 1048576) : ACalls Try.prog 15 [.snap 1 (parts.map (.snap 3))] h (fun v h' => ∃ hp, GrowX 3 v parts.flatten hp ∧ h' = hp ++ h) := by
  have hfl : ∀ i, (parts.take i).flatten.length ≤ parts.flatten.length := fun i => by
    conv => rhs; rw [← List.take_append_drop i parts]
    rw [List.flatten_append, List.length_append]; omega
  have hfs : ∀ i (hi : i < parts.length), (parts.take (i + 1)).flatten = (parts.take i).flatten ++ parts[i] := fun i hi => by
    rw [List.take_succ_eq_append_getElem hi, List.flatten_append]; simp
  refine k15_of0 rfl noPure fun I => ?_
  refine Run2.of I 1000 ?_
  simp -implicitDefEqProofs
  refine Run2.loopE (fun (i : Nat) => [(0, .snap 1 (parts.map (.snap 3))), (3, .int .i64 ((parts.take i).flatten.length : Nat)), (9, .snap 1 (parts.map (.snap 3))), (10, .int .i64 parts.length), (11, .int .i64 i)]) (fun i => h) (fun i => parts.length - i) (fun i => i ≤ parts.length) 0 (by simp) rfl (Nat.zero_le _) fun i hi ih => ?_
  by_cases hlt : i < parts.length
  · have go := ih (i + 1) (by omega) (by omega)
    have h1 := hfl (i + 1)
    rw [hfs i hlt, List.length_append] at go h1
    clear ih
    generalize hL : (parts.take i).flatten.length = L at *
    generalize hP : parts[i] = p at *
    refine Run2.of I 1000 ?_
    simp -implicitDefEqProofs [hlt, hP]
    refine ⟨by omega, by omega, fun _ => ⟨by omega, ?_⟩⟩
    simpa using go
  · obtain rfl : i = parts.length := by omega
    rw [List.take_length]
    refine Run2.of I 1000 ?_
    simp -implicitDefEqProofs
    have hS : (parts.map List.length).sum ≤ 1048576 := by rw [← List.length_flatten]; exact ht
    refine (GrowB_g _ h hS).mono ?_
    rintro v h' ⟨hp0, g0, rfl⟩
    have hcell0 := g0.cell
    refine gK.go ?_
    simp -implicitDefEqProofs [hcell0]
    refine Run2.loopE (α := Nat × AV × Heap) (fun s => [(6, s.2.1), (25, .snap 1 (parts.map (.snap 3))), (26, .int .i64 parts.length), (27, .int .i64 (s.1 : Nat))]) (fun s => s.2.2 ++ h) (fun s => parts.length - s.1) (fun s => s.1 ≤ parts.length ∧ GrowX 3 s.2.1 (parts.take s.1).flatten s.2.2) (0, v, hp0) (by simp) rfl ⟨Nat.zero_le _, by simpa using g0⟩ ?_
    rintro ⟨i, w, hp⟩ ⟨hi2, hg⟩ ih2
    simp only at hi2 hg
    have hcell := hg.cell
    by_cases hlt : i < parts.length
    · have go := fun w' hp' (g : GrowX 3 w' ((parts.take i).flatten ++ parts[i]) hp') => ih2 (i + 1, w', hp') ⟨hlt, by simp only; rw [hfs i hlt]; exact g⟩ (by simp; omega)
      have h1 := hfl (i + 1)
      rw [hfs i hlt, List.length_append] at h1
      clear ih2
      generalize hP : parts[i] = p at *
      refine Run2.of I 1000 ?_
      simp -implicitDefEqProofs [hlt, hP, hcell]
      refine hg.app (by omega) fun w' hp' hg' => ?_
      have hcell' := hg'.cell
      simp -implicitDefEqProofs [hcell']
      refine ⟨by omega, ?_⟩
      simpa using go w' hp' hg'
    · obtain rfl : i = parts.length := by omega
      rw [List.take_length] at hg
      refine Run2.of I 1000 ?_
      simp -implicitDefEqProofs [hcell]
      exact hg
theorem Concat2_g (a b : List T) (h : Heap) (hl : a.length + b.length ≤ 1048576) : ACalls Try.prog 15 [.snap 1 [.snap 3 (a.map T.av), .snap 3 (b.map T.av)]] h (fun v h' => ∃ hp, Grow 3 v ((a ++ b).map T.av) hp ∧ h' = hp ++ h) := by
  have := GrowX.trim (ConcatB_g [a.map T.av, b.map T.av] h (by simp) (by simpa using hl))
  simpa using this
end Go.AG
