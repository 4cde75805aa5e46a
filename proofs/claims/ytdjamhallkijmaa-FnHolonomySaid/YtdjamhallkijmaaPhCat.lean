/- Lists joined, copied and turned round: the library's slices.Concat and slices.Reverse. No statement is made here. -/
import Derived.Test.YtdjamhallkijmaaPhBfs
import Derived.Test.YtdjamhallkijmaaAGGrX
namespace Go.AG
open Go.Proofs Go.Proofs.Ytdjamhallkijmaa
set_option linter.unusedSimpArgs false
set_option linter.unusedVariables false
set_option maxRecDepth 4000
abbrev k62_o0 : List AJ := [.o ⟨(some 4), none, false, .mv (.c .nilsl), (some [0, 1])⟩]
abbrev k62_o1 : List AJ := [.o ⟨(some 5), none, false, .mv (.t 1), none⟩, .o ⟨(some 6), none, false, .bin .lss (.t 5) (.c (.int .i64 0)), (some [0, 1, 6])⟩]
def k62_2 : ACode := .cond (.t 6) .bad .skip
def k62_3 : ACode := .seq (.region k62_o1) k62_2
abbrev k62_o2 : List AJ := [.o ⟨(some 8), none, false, .mv (.t 1), none⟩, .o ⟨(some 9), none, false, .mv (.t 0), none⟩, .o ⟨(some 10), none, false, .capk (.t 9), none⟩, .o ⟨(some 11), none, false, .mv (.t 0), none⟩, .o ⟨(some 12), none, false, .len (.t 11), none⟩, .o ⟨(some 13), none, true, .bin .sub (.t 10) (.t 12), none⟩, .o ⟨(some 14), none, true, .bin .sub (.t 8) (.t 13), none⟩, .o ⟨(some 1), none, false, .mv (.t 14), (some [0, 1])⟩]
abbrev k62_o3 : List AJ := [.o ⟨(some 15), none, false, .mv (.t 1), none⟩, .o ⟨(some 16), none, false, .bin .gtr (.t 15) (.c (.int .i64 0)), (some [0, 1, 16])⟩]
abbrev k62_o4 : List AJ := [.o ⟨(some 17), none, false, .mv (.t 0), none⟩, .o ⟨(some 18), none, false, .mv (.t 0), none⟩, .o ⟨(some 19), none, false, .capk (.t 18), none⟩, .o ⟨(some 20), none, false, .slice 1 (.t 17) none (some (.t 19)) none, none⟩, .o ⟨(some 21), none, false, .mv (.t 1), none⟩, .o ⟨(some 22), none, false, .appendz 1 8 (.int .i64 0) (.t 20) (.t 21), none⟩, .o ⟨(some 23), none, false, .mv (.t 0), none⟩, .o ⟨(some 24), none, false, .len (.t 23), none⟩, .o ⟨(some 25), none, false, .slice 1 (.t 22) none (some (.t 24)) none, none⟩, .o ⟨(some 0), none, false, .mv (.t 25), (some [0])⟩]
def k62_6 : ACode := .region k62_o4
def k62_7 : ACode := .cond (.t 16) k62_6 .skip
def k62_8 : ACode := .seq (.region k62_o3) k62_7
def k62_9 : ACode := .seq (.region k62_o2) k62_8
abbrev k62_o5 : List AJ := [.o ⟨(some 26), none, false, .mv (.t 0), none⟩, .o ⟨(some 4), none, false, .mv (.t 26), (some [4])⟩]
def k62_11 : ACode := .seq (.region k62_o5) .ret
def k62_12 : ACode := .seq k62_9 k62_11
def k62_13 : ACode := .seq k62_3 k62_12
def k62_14 : ACode := .seq (.region k62_o0) k62_13
@[simp, simp ↓] theorem k62_2r : rC k62_2 (.t 6) .bad .skip := zC rfl
@[simp, simp ↓] theorem k62_3r : sR k62_3 k62_o1 k62_2 := yR rfl
@[simp, simp ↓] theorem k62_6r : rR k62_6 k62_o4 := zR rfl
@[simp, simp ↓] theorem k62_7r : rC k62_7 (.t 16) k62_6 .skip := zC rfl
@[simp, simp ↓] theorem k62_8r : sR k62_8 k62_o3 k62_7 := yR rfl
@[simp, simp ↓] theorem k62_9r : sR k62_9 k62_o2 k62_8 := yR rfl
@[simp, simp ↓] theorem k62_11r : sR k62_11 k62_o5 .ret := yR rfl
@[simp, simp ↓] theorem k62_12r : rS k62_12 k62_9 k62_11 := zS rfl
@[simp, simp ↓] theorem k62_13r : rS k62_13 k62_3 k62_12 := zS rfl
@[simp, simp ↓] theorem k62_14r : sR k62_14 k62_o0 k62_13 := yR rfl
noncomputable abbrev k62_C : Orc → Cx := mkC Try.prog [] 62 27 [.tmp 4]
theorem k62_of0 : OfP0 Try.prog Try.f62 62 27 k62_C k62_14 := @ofP0 _ _ _ _ _ _ _ _ Try.func62 (by decide +kernel) rfl (by kernel_rfl) rfl (by kernel_rfl)
theorem GrowI_g (n : Nat) (h : Heap) (hn : n ≤ 1048576) : ACalls Try.prog 62 [.nilsl, .int .i64 n] h (fun v h' => ∃ hp, GrowX 1 v [] hp ∧ h' = hp ++ h) := by
  refine k62_of0 rfl noPure fun I => ?_
  refine Run2.of I 1000 ?_
  simp -implicitDefEqProofs
  refine ⟨by omega, fun h1 => ⟨h1, by omega, fun id _ => ⟨[(id, ⟨1, [] ++ List.replicate n (.int .i64 0)⟩)], .sl id [] _ 0 rfl, by simp⟩⟩, fun _ => .nil⟩
abbrev k29_o0 : List AJ := [.o ⟨(some 2), none, false, .mv (.c .nilsl), (some [0])⟩]
abbrev k29_o1 : List AJ := [.o ⟨(some 3), none, false, .mv (.c (.int .i64 0)), (some [0, 3])⟩]
abbrev k29_o2 : List AJ := [.o ⟨(some 9), none, false, .mv (.t 0), none⟩, .o ⟨(some 10), none, false, .len (.t 9), none⟩, .o ⟨(some 11), none, false, .mv (.c (.int .i64 0)), (some [0, 3, 9, 10, 11])⟩]
abbrev k29_o3 : List AJ := [.o ⟨(some 12), none, false, .bin .lss (.t 11) (.t 10), (some [0, 3, 9, 10, 11, 12])⟩]
abbrev k29_o4 : List AJ := [.o ⟨(some 13), none, false, .idxA 1 (.t 9) (.t 11), none⟩, .o ⟨(some 14), none, false, .load 1 false (.t 13), none⟩, .o ⟨(some 5), none, false, .mv (.t 14), (some [0, 3, 5, 9, 10, 11])⟩]
abbrev k29_o5 : List AJ := [.o ⟨(some 15), none, false, .mv (.t 3), none⟩, .o ⟨(some 16), none, false, .mv (.t 5), none⟩, .o ⟨(some 17), none, false, .len (.t 16), none⟩, .o ⟨(some 18), none, true, .bin .add (.t 15) (.t 17), none⟩, .o ⟨(some 3), none, false, .mv (.t 18), (some [0, 3, 9, 10, 11])⟩]
abbrev k29_o6 : List AJ := [.o ⟨(some 19), none, false, .mv (.t 3), none⟩, .o ⟨(some 20), none, false, .bin .lss (.t 19) (.c (.int .i64 0)), (some [0, 3, 9, 10, 11, 20])⟩]
def k29_8 : ACode := .cond (.t 20) .bad .skip
def k29_9 : ACode := .seq (.region k29_o6) k29_8
def k29_10 : ACode := .seq (.region k29_o5) k29_9
def k29_11 : ACode := .seq (.region k29_o4) k29_10
abbrev k29_o7 : List AJ := [.o ⟨(some 22), none, true, .bin .add (.t 11) (.c (.int .i64 1)), none⟩, .o ⟨(some 11), none, false, .mv (.t 22), (some [0, 3, 9, 10, 11])⟩]
def k29_13 : ACode := .region k29_o7
def k29_14 : ACode := .seq (.block 1 k29_11) k29_13
def k29_15 : ACode := .seq (.cond (.t 12) .skip (.exit 0)) k29_14
def k29_16 : ACode := .seq (.region k29_o3) k29_15
def k29_17 : ACode := .loop k29_16
def k29_18 : ACode := .block 0 k29_17
def k29_19 : ACode := .seq (.region k29_o2) k29_18
abbrev k29_o8 : List AJ := [.o ⟨(some 23), none, false, .mv (.t 3), none⟩, .o ⟨(some 24), none, false, .call 62 [(.c .nilsl), (.t 23)], none⟩, .o ⟨(some 6), none, false, .mv (.t 24), (some [0, 6])⟩]
abbrev k29_o9 : List AJ := [.o ⟨(some 25), none, false, .mv (.t 0), none⟩, .o ⟨(some 26), none, false, .len (.t 25), none⟩, .o ⟨(some 27), none, false, .mv (.c (.int .i64 0)), (some [6, 25, 26, 27])⟩]
abbrev k29_o10 : List AJ := [.o ⟨(some 28), none, false, .bin .lss (.t 27) (.t 26), (some [6, 25, 26, 27, 28])⟩]
abbrev k29_o11 : List AJ := [.o ⟨(some 29), none, false, .idxA 1 (.t 25) (.t 27), none⟩, .o ⟨(some 30), none, false, .load 1 false (.t 29), none⟩, .o ⟨(some 8), none, false, .mv (.t 30), (some [6, 8, 25, 26, 27])⟩]
abbrev k29_o12 : List AJ := [.o ⟨(some 31), none, false, .mv (.t 6), none⟩, .o ⟨(some 32), none, false, .mv (.t 8), none⟩, .o ⟨(some 33), none, false, .append 1 8 (.t 31) (.t 32), none⟩, .o ⟨(some 6), none, false, .mv (.t 33), (some [6, 25, 26, 27])⟩]
def k29_25 : ACode := .region k29_o12
def k29_26 : ACode := .seq (.region k29_o11) k29_25
abbrev k29_o13 : List AJ := [.o ⟨(some 34), none, true, .bin .add (.t 27) (.c (.int .i64 1)), none⟩, .o ⟨(some 27), none, false, .mv (.t 34), (some [6, 25, 26, 27])⟩]
def k29_28 : ACode := .region k29_o13
def k29_29 : ACode := .seq (.block 3 k29_26) k29_28
def k29_30 : ACode := .seq (.cond (.t 28) .skip (.exit 2)) k29_29
def k29_31 : ACode := .seq (.region k29_o10) k29_30
def k29_32 : ACode := .loop k29_31
def k29_33 : ACode := .block 2 k29_32
def k29_34 : ACode := .seq (.region k29_o9) k29_33
abbrev k29_o14 : List AJ := [.o ⟨(some 35), none, false, .mv (.t 6), none⟩, .o ⟨(some 2), none, false, .mv (.t 35), (some [2])⟩]
def k29_36 : ACode := .seq (.region k29_o14) .ret
def k29_37 : ACode := .seq k29_34 k29_36
def k29_38 : ACode := .seq (.region k29_o8) k29_37
def k29_39 : ACode := .seq k29_19 k29_38
def k29_40 : ACode := .seq (.region k29_o1) k29_39
def k29_41 : ACode := .seq (.region k29_o0) k29_40
@[simp, simp ↓] theorem k29_8r : rC k29_8 (.t 20) .bad .skip := zC rfl
@[simp, simp ↓] theorem k29_9r : sR k29_9 k29_o6 k29_8 := yR rfl
@[simp, simp ↓] theorem k29_10r : sR k29_10 k29_o5 k29_9 := yR rfl
@[simp, simp ↓] theorem k29_11r : sR k29_11 k29_o4 k29_10 := yR rfl
@[simp, simp ↓] theorem k29_13r : rR k29_13 k29_o7 := zR rfl
@[simp, simp ↓] theorem k29_14r : sB k29_14 1 k29_11 k29_13 := yB rfl
@[simp, simp ↓] theorem k29_15r : sC k29_15 (.t 12) .skip (.exit 0) k29_14 := yC rfl
@[simp, simp ↓] theorem k29_16r : sR k29_16 k29_o3 k29_15 := yR rfl
@[simp, simp ↓] theorem k29_17r : rL k29_17 k29_16 := zL rfl
@[simp, simp ↓] theorem k29_18r : rB k29_18 0 k29_17 := zB rfl
@[simp, simp ↓] theorem k29_19r : sR k29_19 k29_o2 k29_18 := yR rfl
@[simp, simp ↓] theorem k29_25r : rR k29_25 k29_o12 := zR rfl
@[simp, simp ↓] theorem k29_26r : sR k29_26 k29_o11 k29_25 := yR rfl
@[simp, simp ↓] theorem k29_28r : rR k29_28 k29_o13 := zR rfl
@[simp, simp ↓] theorem k29_29r : sB k29_29 3 k29_26 k29_28 := yB rfl
@[simp, simp ↓] theorem k29_30r : sC k29_30 (.t 28) .skip (.exit 2) k29_29 := yC rfl
@[simp, simp ↓] theorem k29_31r : sR k29_31 k29_o10 k29_30 := yR rfl
@[simp, simp ↓] theorem k29_32r : rL k29_32 k29_31 := zL rfl
@[simp, simp ↓] theorem k29_33r : rB k29_33 2 k29_32 := zB rfl
@[simp, simp ↓] theorem k29_34r : sR k29_34 k29_o9 k29_33 := yR rfl
@[simp, simp ↓] theorem k29_36r : sR k29_36 k29_o14 .ret := yR rfl
@[simp, simp ↓] theorem k29_37r : rS k29_37 k29_34 k29_36 := zS rfl
@[simp, simp ↓] theorem k29_38r : sR k29_38 k29_o8 k29_37 := yR rfl
@[simp, simp ↓] theorem k29_39r : rS k29_39 k29_19 k29_38 := zS rfl
@[simp, simp ↓] theorem k29_40r : sR k29_40 k29_o1 k29_39 := yR rfl
@[simp, simp ↓] theorem k29_41r : sR k29_41 k29_o0 k29_40 := yR rfl
noncomputable abbrev k29_C : Orc → Cx := mkC Try.prog [] 29 36 [.tmp 2]
theorem k29_of0 : OfP0 Try.prog Try.f29 29 36 k29_C k29_41 := @ofP0 _ _ _ _ _ _ _ _ Try.func29 (by decide +kernel) rfl (by kernel_rfl) rfl (by kernel_rfl)
theorem ConcatI_g (parts : List (List AV)) (h : Heap) (hl : parts.length ≤ 1048576) (ht : parts.flatten.length ≤ 1048576) : ACalls Try.prog 29 [.snap 1 (parts.map (.snap 1))] h (fun v h' => ∃ hp, GrowX 1 v parts.flatten hp ∧ h' = hp ++ h) := by
  have hfl : ∀ i, (parts.take i).flatten.length ≤ parts.flatten.length := fun i => by
    conv => rhs; rw [← List.take_append_drop i parts]
    rw [List.flatten_append, List.length_append]; omega
  have hfs : ∀ i (hi : i < parts.length), (parts.take (i + 1)).flatten = (parts.take i).flatten ++ parts[i] := fun i hi => by
    rw [List.take_succ_eq_append_getElem hi, List.flatten_append]; simp
  refine k29_of0 rfl noPure fun I => ?_
  refine Run2.of I 1000 ?_
  simp -implicitDefEqProofs
  refine Run2.loopE (fun (i : Nat) => [(0, .snap 1 (parts.map (.snap 1))), (3, .int .i64 ((parts.take i).flatten.length : Nat)), (9, .snap 1 (parts.map (.snap 1))), (10, .int .i64 parts.length), (11, .int .i64 i)]) (fun i => h) (fun i => parts.length - i) (fun i => i ≤ parts.length) 0 (by simp) rfl (Nat.zero_le _) fun i hi ih => ?_
  by_cases hlt : i < parts.length
  · have go := ih (i + 1) (by omega) (by omega)
    have h1 := hfl (i + 1)
    rw [hfs i hlt, List.length_append] at go h1
    clear ih
    generalize hL : (parts.take i).flatten.length = L at *
    generalize hP : parts[i] = p at *
    refine Run2.of I 1000 ?_
    simp -implicitDefEqProofs [hlt, hP]
    refine ⟨by omega, by omega, fun _ => ⟨by omega, ?_⟩⟩
    simpa using go
  · obtain rfl : i = parts.length := by omega
    rw [List.take_length]
    refine Run2.of I 1000 ?_
    simp -implicitDefEqProofs
    have hS : (parts.map List.length).sum ≤ 1048576 := by rw [← List.length_flatten]; exact ht
    refine (GrowI_g _ h hS).mono ?_
    rintro v h' ⟨hp0, g0, rfl⟩
    have hcell0 := g0.cell
    refine gK.go ?_
    simp -implicitDefEqProofs [hcell0]
    refine Run2.loopE (α := Nat × AV × Heap) (fun s => [(6, s.2.1), (25, .snap 1 (parts.map (.snap 1))), (26, .int .i64 parts.length), (27, .int .i64 (s.1 : Nat))]) (fun s => s.2.2 ++ h) (fun s => parts.length - s.1) (fun s => s.1 ≤ parts.length ∧ GrowX 1 s.2.1 (parts.take s.1).flatten s.2.2) (0, v, hp0) (by simp) rfl ⟨Nat.zero_le _, by simpa using g0⟩ ?_
    rintro ⟨i, w, hp⟩ ⟨hi2, hg⟩ ih2
    simp only at hi2 hg
    have hcell := hg.cell
    by_cases hlt : i < parts.length
    · have go := fun w' hp' (g : GrowX 1 w' ((parts.take i).flatten ++ parts[i]) hp') => ih2 (i + 1, w', hp') ⟨hlt, by simp only; rw [hfs i hlt]; exact g⟩ (by simp; omega)
      have h1 := hfl (i + 1)
      rw [hfs i hlt, List.length_append] at h1
      clear ih2
      generalize hP : parts[i] = p at *
      refine Run2.of I 1000 ?_
      simp -implicitDefEqProofs [hlt, hP, hcell]
      refine hg.app (by omega) fun w' hp' hg' => ?_
      have hcell' := hg'.cell
      simp -implicitDefEqProofs [hcell']
      refine ⟨by omega, ?_⟩
      simpa using go w' hp' hg'
    · obtain rfl : i = parts.length := by omega
      rw [List.take_length] at hg
      refine Run2.of I 1000 ?_
      simp -implicitDefEqProofs [hcell]
      exact hg
theorem Concat3_g {u : AV} {gu : Heap} (l1 l2 l3 : List Int) (hg : Grow 1 u (l2.map iv) gu) (h : Heap) (hl : l1.length + l2.length + l3.length ≤ 1048576) :
    ACalls Try.prog 29 [.snap 1 [.snap 1 (l1.map iv), u, .snap 1 (l3.map iv)]] (gu ++ h) (fun v h' => ∃ hp, Grow 1 v ((l1 ++ l2 ++ l3).map iv) hp ∧ (∀ j ∈ dom hp, j ∉ dom (gu ++ h)) ∧ h' = hp ++ (gu ++ h)) := by
  refine (ACalls.gives gu (fun p hp => List.mem_append_left _ hp) (S := fun v h' => Grow 1 v ((l1 ++ l2 ++ l3).map iv) h') ?_ ?_).mono ?_
  · have hw : Wk (lend1 gu u) (.snap 1 (l2.map iv)) := hg.own.lent.wk
    have hc : isCell (lend1 gu u) = true := hg.own.lent.cell
    rw [lend_cons, lend_nil', lend1_snap]
    simp only [List.map_cons, List.map_nil]
    rw [lend1_cold gu (x := .snap 1 (l1.map iv)) ((IsL.snap l1 : IsL iv 1 _ l1).cold fun _ => rfl), lend1_cold gu (x := .snap 1 (l3.map iv)) ((IsL.snap l3 : IsL iv 1 _ l3).cold fun _ => rfl)]
    refine ACalls.wk (.cons (Wk.snap1 (.cons ⟨.refl _, rfl, rfl⟩ (.cons ⟨hw, hc, rfl⟩ (.cons ⟨.refl _, rfl, rfl⟩ .nil)))) .nil) ?_
    have := GrowX.trim (ConcatI_g [l1.map iv, l2.map iv, l3.map iv] [] (by simp) (by simp; omega))
    exact this.mono fun v h' ⟨hp, g, e⟩ => by rw [List.append_nil] at e; subst e; simpa using g
  · intro v h' hg
    exact (Grow.own (enc := iv) hg).own own_iv1
  · rintro v h'' ⟨h', hg, hd, rfl⟩
    exact ⟨h', hg, hd, rfl⟩
/-- The first i and the last i places exchanged. -/
def rvl (l : List Int) (i : Nat) : List Int := (List.range l.length).map fun k => if k < i ∨ l.length - i ≤ k then l.getD (l.length - 1 - k) 0 else l.getD k 0
theorem rvl_len (l : List Int) (i : Nat) : (rvl l i).length = l.length := by simp [rvl]
theorem rvl_get (l : List Int) (i : Nat) {k : Nat} (h : k < (rvl l i).length) : (rvl l i)[k] = if k < i ∨ l.length - i ≤ k then l.getD (l.length - 1 - k) 0 else l.getD k 0 := by simp [rvl]
theorem rvl_zero (l : List Int) : rvl l 0 = l := by
  refine List.ext_getElem (rvl_len l 0) fun k h1 h2 => ?_
  rw [rvl_get, if_neg (by omega)]
  simp [h2]
theorem rvl_rev (l : List Int) {i : Nat} (h : l.length ≤ 2 * i + 1) : rvl l i = l.reverse := by
  refine List.ext_getElem (by simp [rvl_len]) fun k h1 h2 => ?_
  have hk : k < l.length := by rw [rvl_len] at h1; exact h1
  rw [rvl_get, List.getElem_reverse]
  split
  · simp [show l.length - 1 - k < l.length by omega]
  · rw [List.getD_eq_getElem?_getD, List.getElem?_eq_getElem hk, Option.getD_some]
    congr 1; omega
theorem rvl_set (l : List Int) {i j : Nat} (hj : i + j + 1 = l.length) (hij : i < j) (h1 : i < (rvl l i).length) (h2 : j < (rvl l i).length) : ((rvl l i).set i (rvl l i)[j]).set j (rvl l i)[i] = rvl l (i + 1) := by
  refine List.ext_getElem (by simp [rvl_len]) fun k g1 g2 => ?_
  rw [rvl_len] at g2
  simp only [List.getElem_set, rvl_get]
  split
  · subst k
    rw [if_neg (by omega), if_pos (by omega)]
    congr 1; omega
  split
  · subst k
    rw [if_neg (by omega), if_pos (by omega)]
    congr 1; omega
  by_cases h : k < i ∨ l.length - i ≤ k
  · rw [if_pos h, if_pos (by omega)]
  · rw [if_neg h, if_neg (by omega)]
abbrev k28_o0 : List AJ := [.o ⟨(some 4), none, false, .mv (.t 0), none⟩, .o ⟨(some 5), none, false, .len (.t 4), none⟩, .o ⟨(some 6), none, true, .bin .sub (.t 5) (.c (.int .i64 1)), none⟩, .o ⟨(some 2), none, false, .mv (.c (.int .i64 0)), none⟩, .o ⟨(some 3), none, false, .mv (.t 6), (some [0, 2, 3])⟩]
abbrev k28_o1 : List AJ := [.o ⟨(some 7), none, false, .mv (.t 2), none⟩, .o ⟨(some 8), none, false, .mv (.t 3), none⟩, .o ⟨(some 9), none, false, .bin .lss (.t 7) (.t 8), (some [0, 2, 3, 9])⟩]
def k28_2 : ACode := .cond (.t 9) .skip (.exit 0)
def k28_3 : ACode := .seq (.region k28_o1) k28_2
abbrev k28_o2 : List AJ := [.o ⟨(some 14), none, false, .mv (.t 0), none⟩, .o ⟨(some 15), none, false, .mv (.t 2), none⟩, .o ⟨(some 16), none, false, .mv (.t 0), none⟩, .o ⟨(some 17), none, false, .mv (.t 3), none⟩, .o ⟨(some 18), none, false, .mv (.t 0), none⟩, .o ⟨(some 19), none, false, .mv (.t 3), none⟩, .o ⟨(some 20), none, false, .idxA 1 (.t 18) (.t 19), none⟩, .o ⟨(some 21), none, false, .load 1 false (.t 20), none⟩, .o ⟨(some 22), none, false, .mv (.t 0), none⟩, .o ⟨(some 23), none, false, .mv (.t 2), none⟩, .o ⟨(some 24), none, false, .idxA 1 (.t 22) (.t 23), none⟩, .o ⟨(some 25), none, false, .load 1 false (.t 24), none⟩, .o ⟨(some 26), none, false, .idxA 1 (.t 14) (.t 15), none⟩, .o ⟨none, none, false, .store 1 (.t 26) (.t 21), (some [0, 2, 3, 16, 17, 25])⟩, .o ⟨(some 27), none, false, .idxA 1 (.t 16) (.t 17), none⟩, .o ⟨none, none, false, .store 1 (.t 27) (.t 25), (some [0, 2, 3])⟩]
def k28_4 : ACode := .drawT 0 k28_o2 rfl
abbrev k28_o3 : List AJ := [.o ⟨(some 10), none, false, .mv (.t 2), none⟩, .o ⟨(some 11), none, true, .bin .add (.t 10) (.c (.int .i64 1)), none⟩, .o ⟨(some 12), none, false, .mv (.t 3), none⟩, .o ⟨(some 13), none, true, .bin .sub (.t 12) (.c (.int .i64 1)), none⟩, .o ⟨(some 2), none, false, .mv (.t 11), none⟩, .o ⟨(some 3), none, false, .mv (.t 13), (some [0, 2, 3])⟩]
def k28_6 : ACode := .region k28_o3
def k28_7 : ACode := .seq (.block 1 k28_4) k28_6
def k28_8 : ACode := .seq k28_3 k28_7
def k28_9 : ACode := .loop k28_8
def k28_10 : ACode := .block 0 k28_9
def k28_11 : ACode := .seq (.region k28_o0) k28_10
@[simp, simp ↓] theorem k28_2r : rC k28_2 (.t 9) .skip (.exit 0) := zC rfl
@[simp, simp ↓] theorem k28_3r : sR k28_3 k28_o1 k28_2 := yR rfl
@[simp, simp ↓] theorem k28_4r : rT k28_4 k28_o2 := zT rfl
@[simp, simp ↓] theorem k28_6r : rR k28_6 k28_o3 := zR rfl
@[simp, simp ↓] theorem k28_7r : sB k28_7 1 k28_4 k28_6 := yB rfl
@[simp, simp ↓] theorem k28_8r : rS k28_8 k28_3 k28_7 := zS rfl
@[simp, simp ↓] theorem k28_9r : rL k28_9 k28_8 := zL rfl
@[simp, simp ↓] theorem k28_10r : rB k28_10 0 k28_9 := zB rfl
@[simp, simp ↓] theorem k28_11r : sR k28_11 k28_o0 k28_10 := yR rfl
noncomputable abbrev k28_C : Orc → Cx := mkC Try.prog [] 28 28 []
theorem k28_of0 : OfP0 Try.prog Try.f28 28 28 k28_C k28_11 := @ofP0 _ _ _ _ _ _ _ _ Try.func28 (by decide +kernel) rfl (by kernel_rfl) rfl (by kernel_rfl)
theorem Reverse_g {u : AV} {gu : Heap} (l : List Int) (hg : Grow 1 u (l.map iv) gu) (h : Heap) (hl : l.length ≤ 1048576) :
    ACalls Try.prog 28 [u] (gu ++ h) (fun v h' => ∃ gu', Grow 1 u (l.reverse.map iv) gu' ∧ dom gu' = dom gu ∧ h' = gu' ++ h) := by
  generalize hL : l.map iv = L at hg
  cases hg with
  | nil =>
    have h0 : l = [] := by simpa using hL
    refine k28_of0 rfl noPure fun I => ?_
    refine Run2.of I 1000 ?_
    simp -implicitDefEqProofs
    refine Run2.of I 1000 ?_
    simp -implicitDefEqProofs
    subst h0; exact .nil
  | emp =>
    have h0 : l = [] := by simpa using hL
    refine k28_of0 rfl noPure fun I => ?_
    refine Run2.of I 1000 ?_
    simp -implicitDefEqProofs
    refine Run2.of I 1000 ?_
    simp -implicitDefEqProofs
    subst h0; exact .emp
  | sl id _ n hn =>
    obtain rfl : n = l.length := by rw [hn, ← hL]; simp
    subst hL
    refine k28_of0 rfl noPure fun I => ?_
    refine Run2.of I 1000 ?_
    simp -implicitDefEqProofs
    refine ⟨by omega, ?_⟩
    have e0 : (id, (⟨1, l.map iv⟩ : Blk)) :: h = (id, ⟨1, (rvl l 0).map iv⟩) :: h := by rw [rvl_zero]
    rw [e0]
    refine Run2.loopE (fun i => [(0, .sl id 1 0 l.length none), (2, .int .i64 (i : Nat)), (3, .int .i64 ((l.length : Int) - 1 - (i : Nat)))]) (fun i => (id, ⟨1, (rvl l i).map iv⟩) :: h) (fun i => l.length - i) (fun i => 2 * i ≤ l.length + 1) 0 (by simp) rfl (by omega) fun i hi ih => ?_
    have hrl := rvl_len l i
    by_cases hlt : (i : Int) < (l.length : Int) - 1 - i
    · obtain ⟨j, hj⟩ : ∃ j : Nat, (l.length : Int) - 1 - i = (j : Int) := ⟨l.length - 1 - i, by omega⟩
      have h1 : i < (rvl l i).length := by omega
      have h2 : j < (rvl l i).length := by omega
      have hs := rvl_set l (i := i) (j := j) (by omega) (by omega) h1 h2
      have go := ih (i + 1) (by omega) (by omega)
      rw [← hs] at go
      clear ih hs
      rw [hj] at hlt ⊢
      have hil : i < l.length := by omega
      have hjl : j < l.length := by omega
      generalize rvl l i = X at *
      refine Run2.of I 1000 ?_
      simp -implicitDefEqProofs [hlt, h1, h2, hil, hjl]
      refine ⟨by omega, by omega, ?_⟩
      have e : (l.length : Int) - 1 - ((i + 1 : Nat) : Int) = (j : Int) - 1 := by omega
      rw [e] at go
      simpa [List.map_set] using go
    · have e := rvl_rev l (i := i) (by omega)
      refine Run2.of I 1000 ?_
      simp -implicitDefEqProofs [hlt]
      rw [e]
      exact ⟨[(id, ⟨1, l.reverse.map iv⟩)], by simpa using Grow.sl (sz := 1) id (l.reverse.map iv) l.length (by simp), by simp [dom], rfl⟩
end Go.AG
