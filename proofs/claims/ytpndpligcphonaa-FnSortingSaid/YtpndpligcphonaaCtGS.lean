/- Rounds one edge after the other, as the reference finds them. No statement is made here. -/
import Derived.Test.YtpndpligcphonaaCtG
namespace Go.AG
open Go.Proofs Go.Proofs.Ytpndpligcphonaa
set_option linter.unusedSimpArgs false
set_option linter.unusedVariables false
set_option maxRecDepth 4000
abbrev k26_o0 : List AJ := [.o ⟨(some 2), none, false, .mv (.c .nilsl), (some [0])⟩]
abbrev k26_o1 : List AJ := [.e 6 1 none, .o ⟨(some 3), none, false, .mv (.t 6), (some [0, 3])⟩]
abbrev k26_o2 : List AJ := [.o ⟨(some 4), none, false, .mv (.c (.int .i64 0)), (some [0, 3, 4])⟩]
abbrev k26_o3 : List AJ := [.o ⟨(some 7), none, false, .mv (.t 4), none⟩, .o ⟨(some 8), none, false, .mv (.t 0), none⟩, .o ⟨(some 9), none, false, .nilchk (.t 8), none⟩, .o ⟨(some 10), none, false, .fieldA 1 (.t 9), none⟩, .o ⟨(some 11), none, false, .load 1 false (.t 10), none⟩, .o ⟨(some 12), none, false, .len (.t 11), none⟩, .o ⟨(some 13), none, false, .bin .lss (.t 7) (.t 12), (some [0, 3, 4, 13])⟩]
def k26_4 : ACode := .cond (.t 13) .skip (.exit 0)
def k26_5 : ACode := .seq (.region k26_o3) k26_4
abbrev k26_o4 : List AJ := [.o ⟨(some 5), none, false, .mv (.c (.int .i64 0)), (some [0, 3, 4, 5])⟩]
abbrev k26_o5 : List AJ := [.o ⟨(some 16), none, false, .mv (.t 5), none⟩, .o ⟨(some 17), none, false, .mv (.t 3), none⟩, .o ⟨(some 18), none, false, .len (.t 17), none⟩, .o ⟨(some 19), none, false, .bin .lss (.t 16) (.t 18), none⟩, .o ⟨(some 20), none, false, .mv (.t 19), none⟩, .o ⟨(some 21), (some (20, true)), false, .mv (.t 0), none⟩, .o ⟨(some 22), (some (20, true)), false, .mv (.t 3), none⟩, .o ⟨(some 23), (some (20, true)), false, .mv (.t 5), none⟩, .o ⟨(some 24), (some (20, true)), false, .idxA 1 (.t 22) (.t 23), none⟩, .o ⟨(some 25), (some (20, true)), false, .load 1 false (.t 24), (some [0, 3, 4, 5, 20, 21, 25])⟩, .o ⟨(some 26), (some (20, true)), false, .mv (.t 4), none⟩, .o ⟨(some 27), (some (20, true)), false, .call 40 [(.t 21), (.t 25), (.t 26)], none⟩, .o ⟨(some 28), (some (20, true)), false, .un .not (.t 27), none⟩, .o ⟨(some 29), none, false, .pick (.t 20) (.t 28) (.c (.bool false)), (some [0, 3, 4, 5, 29])⟩]
def k26_8 : ACode := .cond (.t 29) .skip (.exit 2)
def k26_9 : ACode := .seq (.region k26_o5) k26_8
abbrev k26_o6 : List AJ := [.o ⟨(some 30), none, false, .mv (.t 5), none⟩, .o ⟨(some 31), none, true, .bin .add (.t 30) (.c (.int .i64 1)), none⟩, .o ⟨(some 5), none, false, .mv (.t 31), (some [0, 3, 4, 5])⟩]
def k26_10 : ACode := .region k26_o6
def k26_11 : ACode := .block 3 k26_10
def k26_12 : ACode := .seq k26_9 k26_11
def k26_13 : ACode := .loop k26_12
abbrev k26_o7 : List AJ := [.o ⟨(some 32), none, false, .mv (.t 5), none⟩, .o ⟨(some 33), none, false, .mv (.t 3), none⟩, .o ⟨(some 34), none, false, .len (.t 33), none⟩, .o ⟨(some 35), none, false, .bin .eql (.t 32) (.t 34), (some [0, 3, 4, 5, 35])⟩]
abbrev k26_o8 : List AJ := [.o ⟨(some 36), none, false, .mv (.t 3), none⟩, .e 37 1 none, .o ⟨(some 38), none, false, .bsl false 1 [(.t 37)], none⟩, .o ⟨(some 39), none, false, .append 1 24 (.t 36) (.t 38), none⟩, .o ⟨(some 3), none, false, .mv (.t 39), (some [0, 3, 4, 5])⟩]
def k26_16 : ACode := .region k26_o8
def k26_17 : ACode := .cond (.t 35) k26_16 .skip
def k26_18 : ACode := .seq (.region k26_o7) k26_17
abbrev k26_o9 : List AJ := [.o ⟨(some 40), none, false, .mv (.t 3), none⟩, .o ⟨(some 41), none, false, .mv (.t 5), none⟩, .o ⟨(some 42), none, false, .mv (.t 3), none⟩, .o ⟨(some 43), none, false, .mv (.t 5), none⟩, .o ⟨(some 44), none, false, .idxA 1 (.t 42) (.t 43), none⟩, .o ⟨(some 45), none, false, .load 1 false (.t 44), none⟩, .o ⟨(some 46), none, false, .mv (.t 4), none⟩, .o ⟨(some 47), none, false, .bsl false 1 [(.t 46)], none⟩, .o ⟨(some 48), none, false, .append 1 8 (.t 45) (.t 47), none⟩, .o ⟨(some 49), none, false, .idxA 1 (.t 40) (.t 41), none⟩, .o ⟨none, none, false, .store 1 (.t 49) (.t 48), (some [0, 3, 4])⟩]
def k26_19 : ACode := .region k26_o9
def k26_20 : ACode := .seq k26_18 k26_19
def k26_21 : ACode := .seq (.block 2 k26_13) k26_20
def k26_22 : ACode := .seq (.region k26_o4) k26_21
abbrev k26_o10 : List AJ := [.o ⟨(some 14), none, false, .mv (.t 4), none⟩, .o ⟨(some 15), none, true, .bin .add (.t 14) (.c (.int .i64 1)), none⟩, .o ⟨(some 4), none, false, .mv (.t 15), (some [0, 3, 4])⟩]
def k26_24 : ACode := .region k26_o10
def k26_25 : ACode := .seq (.block 1 k26_22) k26_24
def k26_26 : ACode := .seq k26_5 k26_25
def k26_27 : ACode := .loop k26_26
def k26_28 : ACode := .block 0 k26_27
def k26_29 : ACode := .seq (.region k26_o2) k26_28
abbrev k26_o11 : List AJ := [.o ⟨(some 50), none, false, .mv (.t 3), none⟩, .o ⟨(some 2), none, false, .mv (.t 50), (some [2])⟩]
def k26_31 : ACode := .seq (.region k26_o11) .ret
def k26_32 : ACode := .seq k26_29 k26_31
def k26_33 : ACode := .seq (.region k26_o1) k26_32
def k26_34 : ACode := .seq (.region k26_o0) k26_33
@[simp, simp ↓] theorem k26_4r : rC k26_4 (.t 13) .skip (.exit 0) := zC rfl
@[simp, simp ↓] theorem k26_5r : sR k26_5 k26_o3 k26_4 := yR rfl
@[simp, simp ↓] theorem k26_8r : rC k26_8 (.t 29) .skip (.exit 2) := zC rfl
@[simp, simp ↓] theorem k26_9r : sR k26_9 k26_o5 k26_8 := yR rfl
@[simp, simp ↓] theorem k26_10r : rR k26_10 k26_o6 := zR rfl
@[simp, simp ↓] theorem k26_11r : rB k26_11 3 k26_10 := zB rfl
@[simp, simp ↓] theorem k26_12r : rS k26_12 k26_9 k26_11 := zS rfl
@[simp, simp ↓] theorem k26_13r : rL k26_13 k26_12 := zL rfl
@[simp, simp ↓] theorem k26_16r : rR k26_16 k26_o8 := zR rfl
@[simp, simp ↓] theorem k26_17r : rC k26_17 (.t 35) k26_16 .skip := zC rfl
@[simp, simp ↓] theorem k26_18r : sR k26_18 k26_o7 k26_17 := yR rfl
@[simp, simp ↓] theorem k26_19r : rR k26_19 k26_o9 := zR rfl
@[simp, simp ↓] theorem k26_20r : rS k26_20 k26_18 k26_19 := zS rfl
@[simp, simp ↓] theorem k26_21r : sB k26_21 2 k26_13 k26_20 := yB rfl
@[simp, simp ↓] theorem k26_22r : sR k26_22 k26_o4 k26_21 := yR rfl
@[simp, simp ↓] theorem k26_24r : rR k26_24 k26_o10 := zR rfl
@[simp, simp ↓] theorem k26_25r : sB k26_25 1 k26_22 k26_24 := yB rfl
@[simp, simp ↓] theorem k26_26r : rS k26_26 k26_5 k26_25 := zS rfl
@[simp, simp ↓] theorem k26_27r : rL k26_27 k26_26 := zL rfl
@[simp, simp ↓] theorem k26_28r : rB k26_28 0 k26_27 := zB rfl
@[simp, simp ↓] theorem k26_29r : sR k26_29 k26_o2 k26_28 := yR rfl
@[simp, simp ↓] theorem k26_31r : sR k26_31 k26_o11 .ret := yR rfl
@[simp, simp ↓] theorem k26_32r : rS k26_32 k26_29 k26_31 := zS rfl
@[simp, simp ↓] theorem k26_33r : sR k26_33 k26_o1 k26_32 := yR rfl
@[simp, simp ↓] theorem k26_34r : sR k26_34 k26_o0 k26_33 := yR rfl
noncomputable abbrev k26_C : Orc → Cx := mkC Try.prog [6, 37] 26 51 [.tmp 2]
theorem k26_of0 : OfP0 Try.prog Try.f26 26 51 k26_C k26_34 := @ofP0 _ _ _ _ _ _ _ _ Try.func26 (by decide +kernel) rfl (by kernel_rfl) rfl (by kernel_rfl)
theorem l24Greedy_g (x : Gr) (h24 : x.ts.length ≤ 24) : ACalls Try.prog 26 [.ip [.int .i64 x.n, .snap 3 (x.ts.map T.av)]] [] (fun v h' => ∃ us hp hi, Grow 1 v us hp ∧ GrowLs us (x.greedy x.ts.length) hi ∧ (∀ i ∈ dom hp, i ∉ dom hi) ∧ h' = hp ++ hi) := by
  refine k26_of0 rfl noPure fun I => ?_
  refine Run2.of I 1000 ?_
  simp -implicitDefEqProofs
  refine Run2.loopE (α := Nat × AV × List AV × Heap × Heap) (fun s => [(0, .ip [.int .i64 x.n, .snap 3 (x.ts.map T.av)]), (3, s.2.1), (4, .int .i64 (s.1 : Nat))]) (fun s => s.2.2.2.1 ++ s.2.2.2.2) (fun s => x.ts.length - s.1) (fun s => s.1 ≤ x.ts.length ∧ Grow 1 s.2.1 s.2.2.1 s.2.2.2.1 ∧ GrowLs s.2.2.1 (x.greedy s.1) s.2.2.2.2 ∧ ∀ i ∈ dom s.2.2.2.1, i ∉ dom s.2.2.2.2) (0, .emp, [], [], []) (by simp) rfl ⟨Nat.zero_le _, .emp, .nil, by simp [dom]⟩ ?_
  rintro ⟨k, w, us, hp, hi⟩ ⟨hk, hg, ho, hd⟩ ih
  simp only at hk hg ho hd
  have hcell := hg.cell
  obtain ⟨i1, i2, i3⟩ := x.greedy_inv k
  have oLL := OwnLL.of_grow' hg ho.own hd
  by_cases hlt : k < x.ts.length
  · have hkin : x.inR k := ⟨by omega, by omega⟩
    have hul := ho.own.len
    have nd := oLL.nodup
    have hstep : x.greedy (k + 1) = x.gStep (x.greedy k) k := rfl
    unfold Gr.gStep at hstep
    simp only at hstep
    generalize hG : x.greedy k = G at *
    have hcall := fun (i : Nat) (hi' : i < G.length) => ACalls.reads (h := hp ++ hi) (hp ++ hi) (fun p hp => hp) (P := Try.prog) (g := 40) (args := [.ip [.int .i64 x.n, .snap 3 (x.ts.map T.av)], us[i]'(by omega), .int .i64 k]) (v0 := .bool (decide (x.free G[i] k))) (by
      rw [lend_cons, lend_cons, lend_cons, lend_nil', lend1_cold _ (x := .ip [.int .i64 x.n, .snap 3 (x.ts.map T.av)]) (by simp [cold, colds, colds_T]), lend1_cold _ (x := .int .i64 k) rfl]
      obtain ⟨hu, h1, g, h2, e, o1, o2, o3⟩ := ho.own.split hi'
      refine ACalls.wk (.cons (.refl _) (.cons (o2.lentIn (L := hp ++ hi) cold_iv1 (fun p hp => by rw [e]; simp [hp]) nd).wk (.refl _))) (l24Free_s x G[i] k [] (by have := len_sumL (List.getElem_mem hi'); omega) (fun b hb => by have := i3 _ (List.getElem_mem hi') b hb; exact ⟨this.1, by omega⟩) hkin)) rfl
    refine Run2.of I 1000 ?_
    simp -implicitDefEqProofs [hlt]
    refine Run2.loopE (fun (j : Nat) => [(0, .ip [.int .i64 x.n, .snap 3 (x.ts.map T.av)]), (3, w), (4, .int .i64 k), (5, .int .i64 (j : Nat))]) (fun _ => hp ++ hi) (fun j => G.length - j) (fun j => j ≤ G.length ∧ ∀ j' (h : j' < G.length), j' < j → ¬ x.free G[j'] k) 0 (by simp) rfl ⟨Nat.zero_le _, fun _ _ h => absurd h (Nat.not_lt_zero _)⟩ fun j hj ihj => ?_
    have hlw := hg.len
    by_cases hj2 : j < G.length
    · by_cases hf : x.free G[j] k
      · have hA : G.findIdx (fun r => decide (x.free r k)) = j := (List.findIdx_eq hj2).2 ⟨by simpa using hf, fun j' hj' => by simpa using hj.2 j' (by omega) hj'⟩
        rw [hA, if_pos hj2] at hstep
        replace hcall := hcall j hj2
        obtain ⟨hu, h1, g, h2, rfl, o1, o2, o3⟩ := ho.split hj2
        have hbl : G[j].length ≤ 1048576 := by have := len_sumL (List.getElem_mem hj2); omega
        have hgd : G.getD j [] = G[j] := by simp [hj2]
        rw [hgd] at hstep
        cases hg with
        | nil => simp at hu
        | emp => simp at hu
        | sl idw us n hn =>
          subst hn
          have pm : ([(idw, (⟨1, us⟩ : Blk))] ++ (h1 ++ (g ++ h2))).Perm ((idw, ⟨1, us⟩) :: (g ++ (h1 ++ h2))) := by
            simpa using List.perm_append_comm_assoc h1 g h2
          have nd2 := nodup_perm pm nd
          simp only [dom_cons, dom_append, List.nodup_cons, List.nodup_append, List.mem_append, not_or] at nd2
          obtain ⟨⟨n1, n2, n3⟩, n4, ⟨n5, n6, n7⟩, n8⟩ := nd2
          have hus : us[j]? = some us[j] := by simp [hu]
          generalize hU : us[j] = u at *
          have hucell := o2.cell
          have go := fun (u' : AV) (g' : Heap) (G' : Grow 1 u' ((G[j] ++ [(k : Int)]).map iv) g') (d' : ∀ i ∈ dom g', i ∉ dom ([(idw, (⟨1, us⟩ : Blk))] ++ (h1 ++ h2))) => ih (k + 1, .sl idw 1 0 us.length none, us.set j u', [(idw, ⟨1, us.set j u'⟩)], h1 ++ (g' ++ h2)) ⟨by omega, .sl idw _ _ (by simp), by
              simp only
              rw [hstep]
              refine GrowLs.put hu hj2 o1 G' o3 (fun j h1 h2 => n7 j h1 j h2 rfl) fun j hj hm => d' j hj ?_
              simp only [dom_append] at hm ⊢
              exact List.mem_append_right _ hm, by
              intro i hi
              simp [dom] at hi
              subst hi
              simp only [dom_append, List.mem_append, not_or]
              refine ⟨n2, fun hm => d' _ hm (by simp [dom]), n3⟩⟩ (by simp; omega)
          clear ih ihj hG
          refine Run2.of I 1000 ?_
          simp -implicitDefEqProofs [hj2, hu, hU, hus, hucell, cells_of hucell, stor_of hucell]
          refine hcall.mono ?_
          rintro v h' ⟨rfl, rfl⟩
          refine gK.go ?_
          have hne : ¬ ((j : Int) = us.length) := by omega
          simp -implicitDefEqProofs [hf, hne, hu, hU, hucell, cells_of hucell, stor_of hucell]
          refine o2.app_mid (pre := (idw, ⟨1, us⟩) :: h1) (post := h2) (by intro i hi hm; simp [dom_cons] at hm; exact hm.elim (fun e => by subst e; first | exact n1 hi | exact n3 hi | exact n2 hi) fun hm => by first | exact n8 _ hi _ (.inl hm) rfl | exact n8 _ hi _ hm rfl) (by simp; omega) (by simp) fun u' g' G' d' => ?_
          have n1' : idw ∉ dom g' := fun hm => d' _ hm (by simp [dom])
          have hc' := G'.cell
          replace go := go u' g' (by simpa using G') (by simpa using d')
          simp -implicitDefEqProofs [hget_app n1', hset_app n1', hc', cells_of hc', stor_of hc', hu]
          refine ⟨by omega, Run2.perm (h' := [(idw, ⟨1, us.set j u'⟩)] ++ (h1 ++ (g' ++ h2))) (List.perm_middle.trans (.cons _ (List.perm_append_comm_assoc g' h1 h2))) (by simpa using go)⟩
      · replace hcall := hcall j hj2
        have go := ihj (j + 1) ⟨by omega, fun j' h1 h2 => by
          rcases Nat.lt_or_ge j' j with h | h
          · exact hj.2 j' h1 h
          · obtain rfl : j' = j := by omega
            exact hf⟩ (by omega)
        have hu : j < us.length := by omega
        have hus : us[j]? = some us[j] := by simp [hu]
        generalize hU : us[j] = u at *
        have hucell : isCell u = true := by rw [← hU]; exact ho.own.cell _ (List.getElem_mem hu)
        cases hg with
        | nil => simp at hu
        | emp => simp at hu
        | sl idw us n hn =>
          subst hn
          clear ih ihj
          refine Run2.of I 1000 ?_
          simp -implicitDefEqProofs [hj2, hu, hU, hus, hucell, cells_of hucell, stor_of hucell]
          refine hcall.mono ?_
          rintro v h' ⟨rfl, rfl⟩
          refine gK.go ?_
          simp -implicitDefEqProofs [hf]
          refine ⟨by omega, ?_⟩
          simpa using go
    · obtain rfl : j = G.length := by omega
      have hA : G.findIdx (fun r => decide (x.free r k)) = G.length := List.findIdx_eq_length.2 fun a ha => by
        obtain ⟨j, hj', rfl⟩ := List.mem_iff_getElem.1 ha
        simpa using hj.2 j hj' hj'
      rw [hA, if_neg (by omega)] at hstep
      have go := fun (w' : AV) (u' : AV) (hp' g' : Heap) (G' : Grow 1 u' ([(k : Int)].map iv) g') (W : Grow 1 w' (us ++ [u']) hp') (d1 : ∀ i ∈ dom g', i ∉ dom hi) (d2 : ∀ i ∈ dom hp', i ∉ dom (hi ++ g')) => ih (k + 1, w', us ++ [u'], hp', hi ++ g') ⟨by omega, W, by
          simp only
          rw [hstep]
          refine ho.append (us' := [u']) (rs' := [[(k : Int)]]) (hp' := g') ?_ fun j h1 h2 => d1 j h2 h1
          have := GrowLs.cons G' .nil (by simp [dom])
          simpa using this, d2⟩ (by simp; omega)
      clear ih ihj hG
      refine Run2.of I 1000 ?_
      simp -implicitDefEqProofs [hlw, hul, hcell]
      refine hg.app_mid (pre := []) (post := hi) (by simp [dom]) (by simp; omega) (by simp) fun w' hp' hg' hd' => ?_
      obtain ⟨idw, rfl, rfl⟩ := hg'.ne (by simp)
      simp -implicitDefEqProofs [hul]
      intro id m1 m2
      have m3 : ¬ idw = id := fun e => m1 e.symm
      refine gK.go ?_
      simp -implicitDefEqProofs [m1, m3, hul]
      refine ⟨by omega, ?_⟩
      have hd2 : idw ∉ dom hi := hd' _ (by simp [dom])
      replace go := go (.sl idw 1 0 (us.length + 1) none) (.sl id 1 0 1 none) [(idw, ⟨1, us ++ [.sl id 1 0 1 none]⟩)] [(id, ⟨1, [iv k]⟩)] (.sl id _ _ rfl) (.sl idw _ _ (by simp)) (by simpa [dom] using m2) (by
        intro i hi
        simp [dom] at hi
        subst hi
        rw [dom_append]
        simp only [List.mem_append, not_or]
        exact ⟨hd2, by simpa [dom] using m3⟩)
      refine Run2.perm (h' := [(idw, ⟨1, us ++ [.sl id 1 0 1 none]⟩)] ++ (hi ++ [(id, ⟨1, [iv k]⟩)])) ?_ (by simpa [hul] using go)
      refine (List.Perm.swap ..).trans (.cons _ ?_)
      exact List.perm_append_comm (l₁ := [(id, _)])
  · obtain rfl : k = x.ts.length := by omega
    refine Run2.of I 1000 ?_
    simp -implicitDefEqProofs [hcell]
    exact ⟨us, hp, hg, hi, ho, hd, rfl⟩
theorem l24Greedy_o (x : Gr) (h24 : x.ts.length ≤ 24) : ACalls Try.prog 26 [.ip [.int .i64 x.n, .snap 3 (x.ts.map T.av)]] [] (fun v h' => OwnLL v (x.greedy x.ts.length) h') :=
  (l24Greedy_g x h24).mono fun v h' ⟨us, hp, hi, hg, ho, hd, e⟩ => by
    subst e
    exact OwnLL.of_grow' hg ho.own hd
end Go.AG
