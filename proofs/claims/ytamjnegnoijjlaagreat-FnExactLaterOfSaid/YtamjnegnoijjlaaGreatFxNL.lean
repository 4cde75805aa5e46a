/- The later one of two filtrations. No statement is made here. -/
import Derived.Test.YtamjnegnoijjlaaGreatFxN
namespace Go.AG
open Go.Proofs Go.Proofs.YtamjnegnoijjlaaGreat
set_option linter.unusedSimpArgs false
set_option linter.unusedVariables false
set_option maxRecDepth 4000
abbrev k44_o0 : List AJ := [.o ⟨(some 4), none, false, .mv (.c (.int .i64 0)), (some [0, 1])⟩]
abbrev k44_o1 : List AJ := [.o ⟨(some 5), none, false, .mv (.t 0), none⟩, .o ⟨(some 6), none, false, .mv (.t 1), none⟩, .o ⟨(some 7), none, false, .mx true [(.t 5), (.t 6)], none⟩, .o ⟨(some 4), none, false, .mv (.t 7), (some [4])⟩]
def k44_2 : ACode := .seq (.region k44_o1) .ret
def k44_3 : ACode := .seq (.region k44_o0) k44_2
@[simp, simp ↓] theorem k44_2r : sR k44_2 k44_o1 .ret := yR rfl
@[simp, simp ↓] theorem k44_3r : sR k44_3 k44_o0 k44_2 := yR rfl
noncomputable abbrev k44_C : Orc → Cx := mkC Tryz.prog [] 44 8 [.tmp 4]
theorem k44_of0 : OfP0 Tryz.prog Tryz.f44 44 8 k44_C k44_3 := @ofP0 _ _ _ _ _ _ _ _ Tryz.func44 (by decide +kernel) rfl (by kernel_rfl) rfl (by kernel_rfl)
theorem later1_c (a b : Int) (h : Heap) : ACalls Tryz.prog 44 [.int .i64 a, .int .i64 b] h (fun v h' => v = .int .i64 (max a b) ∧ h' = h) := by
  refine k44_of0 rfl noPure fun I => ?_
  refine Run2.of I 1000 ?_
  simp -implicitDefEqProofs
abbrev k15_o0 : List AJ := [.o ⟨(some 2), none, false, .box false 2 (.t 0), none⟩, .o ⟨(some 3), none, false, .box false 2 (.t 1), none⟩, .o ⟨(some 4), none, false, .alloc true 2 (.agg [.nilsl, .nilsl]), none⟩, .o ⟨(some 5), none, false, .mv (.c (.int .i64 0)), (some [2, 3, 4])⟩]
abbrev k15_o1 : List AJ := [.o ⟨(some 6), none, false, .load 2 true (.t 2), none⟩, .o ⟨(some 7), none, false, .load 2 true (.t 3), none⟩, .o ⟨(some 8), none, false, .call 43 [(.t 6), (.t 7), (.c (.fn 44 []))], none⟩, .o ⟨(some 9), none, false, .extract (.t 8) 0, none⟩, .o ⟨(some 10), none, false, .extract (.t 8) 1, none⟩, .o ⟨none, none, false, .store 2 (.t 4) (.t 9), none⟩, .o ⟨(some 5), none, false, .mv (.t 10), (some [4, 5])⟩]
def k15_2 : ACode := .seq (.region k15_o1) .ret
def k15_3 : ACode := .seq (.region k15_o0) k15_2
@[simp, simp ↓] theorem k15_2r : sR k15_2 k15_o1 .ret := yR rfl
@[simp, simp ↓] theorem k15_3r : sR k15_3 k15_o0 k15_2 := yR rfl
noncomputable abbrev k15_C : Orc → Cx := mkC Tryz.prog [4] 15 11 [.cell 4 2 true, .tmp 5]
theorem k15_of : OfP Tryz.prog Tryz.f15 15 11 k15_C k15_3 := @ofP _ _ _ _ _ _ _ _ Tryz.func15 (by decide +kernel) rfl (by kernel_rfl) rfl (by kernel_rfl)
theorem implLa_o (x y : Fil) (hl : x.tot ≤ 1048576) (hy : y.tot ≤ 1048576) : ACalls Tryz.prog 15 [x.av, y.av] [] (fun v h' => ∃ w, v = .tup [w, .int .i64 (x.coCode y)] ∧ OwnFil w (Fil.coF max x y) h') := by
  refine k15_of rfl noPure fun I => ?_
  have hcm := comb_o x y (g := 44) later1_c hl hy
  refine Run2.of I 1000 ?_
  simp -implicitDefEqProofs
  intro b
  refine (ACalls.gives [] (by simp) hcm ?_).mono ?_
  · rintro v h' ⟨w, rfl, o⟩
    have := o.own
    exact ⟨by simp [own, owns, this.1], this.2⟩
  rintro v h' ⟨g, ⟨w, rfl, o⟩, hd, rfl⟩
  obtain ⟨qu, qw, qa, qb, rfl, ou, ow, hdis, rfl⟩ := id o
  have cu := ou.cell
  have cw := ow.cell
  have hb1 : b ∉ dom qa := fun hm => hd b (by rw [dom_append]; exact List.mem_append_left _ hm) (by simp [dom])
  have hb2 : b ∉ dom qb := fun hm => hd b (by rw [dom_append]; exact List.mem_append_right _ hm) (by simp [dom])
  have gA : ∀ z, hget (qa ++ z) b = hget z b := fun z => hget_app hb1
  have gB : ∀ z, hget (qb ++ z) b = hget z b := fun z => hget_app hb2
  have sA : ∀ z y, hset (qa ++ z) b y = qa ++ hset z b y := fun z y => hset_app hb1
  have sB : ∀ z y, hset (qb ++ z) b y = qb ++ hset z b y := fun z y => hset_app hb2
  refine gK.go ?_
  simp -implicitDefEqProofs [cu, cw, gA, gB, sA, sB]
  rw [← List.append_assoc]
  refine Post.dropR (fun i hi hm => ?_) (.base ⟨_, rfl, o⟩)
  simp only [dom, List.map_cons, List.map_nil, List.mem_singleton] at hi
  subst hi
  rw [dom_append, List.mem_append] at hm
  exact hm.elim hb1 hb2
abbrev k30_o0 : List AJ := [.o ⟨(some 4), none, false, .mv (.c (.int .i64 0)), (some [0, 1])⟩]
abbrev k30_o1 : List AJ := [.o ⟨(some 5), none, false, .mv (.t 0), none⟩, .o ⟨(some 6), none, false, .mv (.t 1), none⟩, .o ⟨(some 7), none, false, .bin .gtr (.t 5) (.t 6), (some [0, 1, 7])⟩]
abbrev k30_o2 : List AJ := [.o ⟨(some 8), none, false, .mv (.t 0), none⟩, .o ⟨(some 4), none, false, .mv (.t 8), (some [4])⟩]
def k30_3 : ACode := .seq (.region k30_o2) .ret
def k30_4 : ACode := .cond (.t 7) k30_3 .skip
def k30_5 : ACode := .seq (.region k30_o1) k30_4
abbrev k30_o3 : List AJ := [.o ⟨(some 9), none, false, .mv (.t 1), none⟩, .o ⟨(some 4), none, false, .mv (.t 9), (some [4])⟩]
def k30_7 : ACode := .seq (.region k30_o3) .ret
def k30_8 : ACode := .seq k30_5 k30_7
def k30_9 : ACode := .seq (.region k30_o0) k30_8
@[simp, simp ↓] theorem k30_3r : sR k30_3 k30_o2 .ret := yR rfl
@[simp, simp ↓] theorem k30_4r : rC k30_4 (.t 7) k30_3 .skip := zC rfl
@[simp, simp ↓] theorem k30_5r : sR k30_5 k30_o1 k30_4 := yR rfl
@[simp, simp ↓] theorem k30_7r : sR k30_7 k30_o3 .ret := yR rfl
@[simp, simp ↓] theorem k30_8r : rS k30_8 k30_5 k30_7 := zS rfl
@[simp, simp ↓] theorem k30_9r : sR k30_9 k30_o0 k30_8 := yR rfl
noncomputable abbrev k30_C : Orc → Cx := mkC Tryz.prog [] 30 10 [.tmp 4]
theorem k30_of0 : OfP0 Tryz.prog Tryz.f30 30 10 k30_C k30_9 := @ofP0 _ _ _ _ _ _ _ _ Tryz.func30 (by decide +kernel) rfl (by kernel_rfl) rfl (by kernel_rfl)
theorem l00Max_c (a b : Int) (h : Heap) : ACalls Tryz.prog 30 [.int .i64 a, .int .i64 b] h (fun v h' => v = .int .i64 (max a b) ∧ h' = h) := by
  refine k30_of0 rfl noPure fun I => ?_
  refine Run2.of I 1000 ?_
  simp -implicitDefEqProofs
  omega
noncomputable def o_l00Max : List AV → Option (Prop × AV) := tab (fun (x : Int × Int) => match x with | (a, b) => [.int .i64 a, .int .i64 b]) (fun x => match x with | (a, b) => True) (fun x => match x with | (a, b) => .int .i64 (max a b))
@[simp] theorem o_l00Max_e (a : Int) (b : Int) : o_l00Max [.int .i64 a, .int .i64 b] = some (True, .int .i64 (max a b)) := tab_at (enc := fun (x : Int × Int) => match x with | (a, b) => [.int .i64 a, .int .i64 b]) (fun x y h => by
  obtain ⟨a1, b1⟩ := x; obtain ⟨a2, b2⟩ := y; simp at h; simp [h] <;> omega) _ _ (a, b)
theorem o_l00Max_k : Knows Tryz.prog 30 o_l00Max := tab_knows fun x hx h => by
  obtain ⟨a, b⟩ := x; exact l00Max_c _ _ h
noncomputable def orcNL : List (Nat × (List AV → Option (Prop × AV))) := (42, o_l22Two) :: (30, o_l00Max) :: []
theorem orcNL_p : Pure Tryz.prog (lk orcNL) := (lk_pure o_l22Two_k (lk_pure o_l00Max_k lk_pure0))
@[simp] theorem orcNL_l (b : Bool) (g : FuncId) (l : List AV) : lk orcNL b g l = if g = 42 then o_l22Two l else if g = 30 then o_l00Max l else none := nr rfl
abbrev k14_o0 : List AJ := [.o ⟨(some 2), none, false, .box false 2 (.t 0), none⟩, .o ⟨(some 3), none, false, .box false 2 (.t 1), none⟩, .o ⟨(some 4), none, false, .alloc true 2 (.agg [.nilsl, .nilsl]), none⟩, .o ⟨(some 5), none, false, .mv (.c (.int .i64 0)), (some [2, 3, 4])⟩]
abbrev k14_o1 : List AJ := [.o ⟨(some 9), none, false, .call 42 [(.t 2), (.t 3)], none⟩, .o ⟨(some 6), none, false, .mv (.t 9), (some [2, 3, 4, 6])⟩]
abbrev k14_o2 : List AJ := [.o ⟨(some 10), none, false, .mv (.t 6), none⟩, .o ⟨(some 11), none, false, .bin .neq (.t 10) (.c (.int .i64 0)), (some [2, 3, 4, 6, 11])⟩]
abbrev k14_o3 : List AJ := [.o ⟨(some 12), none, false, .build [.nilsl, .nilsl] [], none⟩, .o ⟨(some 13), none, false, .mv (.t 6), none⟩, .o ⟨none, none, false, .store 2 (.t 4) (.t 12), none⟩, .o ⟨(some 5), none, false, .mv (.t 13), (some [4, 5])⟩]
def k14_4 : ACode := .seq (.region k14_o3) .ret
def k14_5 : ACode := .cond (.t 11) k14_4 .skip
def k14_6 : ACode := .seq (.region k14_o2) k14_5
abbrev k14_o4 : List AJ := [.o ⟨(some 14), none, false, .call 28 [(.t 2)], none⟩, .v 7 2 (.agg [.nilsl, .nilsl]) [] (.t 14) (some [3, 4, 7])]
abbrev k14_o5 : List AJ := [.o ⟨(some 8), none, false, .mv (.c (.int .i64 0)), (some [3, 4, 7, 8])⟩]
abbrev k14_o6 : List AJ := [.o ⟨(some 15), none, false, .mv (.t 8), none⟩, .o ⟨(some 16), none, false, .fieldA 1 (.t 7), none⟩, .o ⟨(some 17), none, false, .load 1 false (.t 16), none⟩, .o ⟨(some 18), none, false, .len (.t 17), none⟩, .o ⟨(some 19), none, false, .bin .lss (.t 15) (.t 18), (some [3, 4, 7, 8, 19])⟩]
def k14_10 : ACode := .cond (.t 19) .skip (.exit 0)
def k14_11 : ACode := .seq (.region k14_o6) k14_10
abbrev k14_o7 : List AI := [⟨(some 22), none, false, .fieldA 1 (.t 7), none⟩, ⟨(some 23), none, false, .load 1 false (.t 22), none⟩, ⟨(some 24), none, false, .mv (.t 8), none⟩, ⟨(some 25), none, false, .fieldA 1 (.t 7), none⟩, ⟨(some 26), none, false, .load 1 false (.t 25), none⟩, ⟨(some 27), none, false, .mv (.t 8), none⟩, ⟨(some 28), none, false, .idxA 1 (.t 26) (.t 27), none⟩, ⟨(some 29), none, false, .load 1 false (.t 28), none⟩, ⟨(some 30), none, false, .fieldA 1 (.t 3), none⟩, ⟨(some 31), none, false, .load 1 false (.t 30), none⟩, ⟨(some 32), none, false, .mv (.t 8), none⟩, ⟨(some 33), none, false, .idxA 1 (.t 31) (.t 32), none⟩, ⟨(some 34), none, false, .load 1 false (.t 33), none⟩, ⟨(some 35), none, false, .call 30 [(.t 29), (.t 34)], (some [3, 4, 7, 8, 23, 24, 35])⟩, ⟨(some 36), none, false, .idxA 1 (.t 23) (.t 24), (some [3, 4, 7, 8, 35, 36])⟩]
abbrev k14_o8 : List AJ := [.o ⟨none, none, false, .store 1 (.t 36) (.t 35), (some [3, 4, 7, 8])⟩]
def k14_12 : ACode := .draw k14_o7 k14_o8 rfl
abbrev k14_o9 : List AJ := [.o ⟨(some 20), none, false, .mv (.t 8), none⟩, .o ⟨(some 21), none, true, .bin .add (.t 20) (.c (.int .i64 1)), none⟩, .o ⟨(some 8), none, false, .mv (.t 21), (some [3, 4, 7, 8])⟩]
def k14_14 : ACode := .region k14_o9
def k14_15 : ACode := .seq (.block 1 k14_12) k14_14
def k14_16 : ACode := .seq k14_11 k14_15
def k14_17 : ACode := .loop k14_16
def k14_18 : ACode := .block 0 k14_17
def k14_19 : ACode := .seq (.region k14_o5) k14_18
abbrev k14_o10 : List AJ := [.o ⟨(some 37), none, false, .load 2 true (.t 7), none⟩, .o ⟨none, none, false, .store 2 (.t 4) (.t 37), none⟩, .o ⟨(some 5), none, false, .mv (.c (.int .i64 0)), (some [4, 5])⟩]
def k14_21 : ACode := .seq (.region k14_o10) .ret
def k14_22 : ACode := .seq k14_19 k14_21
def k14_23 : ACode := .seq (.region k14_o4) k14_22
def k14_24 : ACode := .seq k14_6 k14_23
def k14_25 : ACode := .seq (.region k14_o1) k14_24
def k14_26 : ACode := .seq (.region k14_o0) k14_25
@[simp, simp ↓] theorem k14_4r : sR k14_4 k14_o3 .ret := yR rfl
@[simp, simp ↓] theorem k14_5r : rC k14_5 (.t 11) k14_4 .skip := zC rfl
@[simp, simp ↓] theorem k14_6r : sR k14_6 k14_o2 k14_5 := yR rfl
@[simp, simp ↓] theorem k14_10r : rC k14_10 (.t 19) .skip (.exit 0) := zC rfl
@[simp, simp ↓] theorem k14_11r : sR k14_11 k14_o6 k14_10 := yR rfl
@[simp, simp ↓] theorem k14_12r : rD k14_12 k14_o7 k14_o8 := zD rfl
@[simp, simp ↓] theorem k14_14r : rR k14_14 k14_o9 := zR rfl
@[simp, simp ↓] theorem k14_15r : sB k14_15 1 k14_12 k14_14 := yB rfl
@[simp, simp ↓] theorem k14_16r : rS k14_16 k14_11 k14_15 := zS rfl
@[simp, simp ↓] theorem k14_17r : rL k14_17 k14_16 := zL rfl
@[simp, simp ↓] theorem k14_18r : rB k14_18 0 k14_17 := zB rfl
@[simp, simp ↓] theorem k14_19r : sR k14_19 k14_o5 k14_18 := yR rfl
@[simp, simp ↓] theorem k14_21r : sR k14_21 k14_o10 .ret := yR rfl
@[simp, simp ↓] theorem k14_22r : rS k14_22 k14_19 k14_21 := zS rfl
@[simp, simp ↓] theorem k14_23r : sR k14_23 k14_o4 k14_22 := yR rfl
@[simp, simp ↓] theorem k14_24r : rS k14_24 k14_6 k14_23 := zS rfl
@[simp, simp ↓] theorem k14_25r : sR k14_25 k14_o1 k14_24 := yR rfl
@[simp, simp ↓] theorem k14_26r : sR k14_26 k14_o0 k14_25 := yR rfl
noncomputable abbrev k14_C : Orc → Cx := mkC Tryz.prog [4, 7] 14 38 [.cell 4 2 true, .tmp 5]
theorem k14_of : OfP Tryz.prog Tryz.f14 14 38 k14_C k14_26 := @ofP _ _ _ _ _ _ _ _ Tryz.func14 (by decide +kernel) rfl (by kernel_rfl) rfl (by kernel_rfl)
theorem specLa_c (x y : Fil) (h : Heap) (hl : x.tot ≤ 1048576) (hy : y.tot ≤ 1048576) : ACalls Tryz.prog 14 [x.av, y.av] h (fun v h' => v = .tup [(Fil.coF max x y).av, .int .i64 (x.coCode y)] ∧ h' = h) := by
  obtain ⟨hl1, hl2⟩ := x.lens hl
  refine k14_of rfl orcNL_p fun I => ?_
  by_cases hcd : x.coCode y = 0
  · have hf : Fil.coF max x y = Fil.coT max x y := by unfold Fil.coF; rw [if_pos hcd]
    have hvv : x.valid ∧ y.valid ∧ x.rs = y.rs := by
      unfold Fil.coCode at hcd
      split at hcd
      · rename_i h1
        split at hcd
        · rename_i h2; exact ⟨h1.1, h1.2, h2⟩
        · omega
      · omega
    obtain ⟨hv, hv2, hrs⟩ := hvv
    have hlm : x.ts.length = y.ts.length := by
      have h1 := hv.2.1.1
      have h2 := hv2.2.1.1
      rw [h1, h2, hrs]
    have hcp := fun h => l22Own_g x h hl hv
    rw [hf, hcd]
    refine Run2.of I 1000 ?_
    simp -implicitDefEqProofs [hl, hy, hcd]
    intro b hb
    refine (hcp _).monoN ?_
    rintro v h' ⟨u, hp, rfl, G, rfl⟩ nd
    have cu := G.cell
    have lu := G.len
    have su := stor_of cu
    have clu := cells_of cu
    refine gK.go ?_
    simp -implicitDefEqProofs [cu, lu, su, clu]
    have og : OwnL iv 1 u x.ts hp := G.own
    have done : ∀ (w : AV) (g : Heap), OwnL iv 1 w (List.zipWith max x.ts y.ts) g → b ∉ dom g → Post (fun v h' => v = .tup [.agg [.snap 1 ((Fil.coT max x y).rs.map il), .snap 1 ((Fil.coT max x y).ts.map iv)], .int .i64 0] ∧ h' = h) (.tup [.agg [.snap 1 (x.rs.map il), w], .int .i64 0]) (g ++ ((b, ⟨2, [.agg [.snap 1 (x.rs.map il), w]]⟩) :: h)) := by
      intro w g o hb2
      refine Post.lend ?_
      rw [lend1_tup2, lend1_cold g (x := .int .i64 0) rfl, lend1_agg, lend1_cold g (x := .snap 1 (x.rs.map il)) (by simp [cold])]
      refine .drop b (.wk (Wk.tup (.cons (Wk.agg (.cons (.refl _) (.cons o.lent.wk .nil))) (.cons (.refl _) .nil))) (.base ⟨rfl, by simp [hdel]⟩))
    have hzl : (List.zipWith max x.ts y.ts).length = x.ts.length := by simp [hlm]
    rcases og.split with ⟨hw, hnil, rfl⟩ | ⟨id, cap, ex, rfl, rfl, hex⟩
    · have := done u [] (by rw [hnil]; exact hw.elim (fun e => e ▸ OwnL.nil) (fun e => e ▸ OwnL.emp)) (by simp [dom])
      have hll : lenR u = .val (.int .i64 0) := by rcases hw with rfl | rfl <;> simp
      refine Run2.loopE (fun (_ : Unit) => [(3, .ip [.snap 1 (y.rs.map il), .snap 1 (y.ts.map iv)]), (4, .ptr b 2 0 0), (7, .ip [.snap 1 (x.rs.map il), u]), (8, .int .i64 0)]) (fun _ => [] ++ ((b, ⟨2, [.agg [.nilsl, .nilsl]]⟩) :: h)) (fun _ => 0) (fun _ => True) () (by simp) rfl trivial fun _ _ _ => ?_
      refine Run2.of I 1000 ?_
      simp -implicitDefEqProofs [hll, cu, su, clu]
      simpa using this
    · have hidb : ¬ id = b := fun e => by simp [dom, e] at nd
      refine Run2.loopE (fun (i : Nat) => [(3, .ip [.snap 1 (y.rs.map il), .snap 1 (y.ts.map iv)]), (4, .ptr b 2 0 0), (7, .ip [.snap 1 (x.rs.map il), .sl id 1 0 x.ts.length cap]), (8, .int .i64 i)]) (fun i => [(id, ⟨1, (inpl x.ts (List.zipWith max x.ts y.ts) i).map iv ++ ex⟩)] ++ ((b, ⟨2, [.agg [.nilsl, .nilsl]]⟩) :: h)) (fun i => x.ts.length - i) (fun i => i ≤ x.ts.length) 0 (by simp) (by simp) (Nat.zero_le _) fun i hi ih => ?_
      have hil := inpl_len (l := x.ts) (l' := List.zipWith max x.ts y.ts) (v := i) hzl
      by_cases hlt : i < x.ts.length
      · have hlt2 : i < y.ts.length := by omega
        have go := ih (i + 1) hlt (by omega)
        have hlF : i < (inpl x.ts (List.zipWith max x.ts y.ts) i).length := by omega
        have hg := inpl_get (l := x.ts) (l' := List.zipWith max x.ts y.ts) (v := i) hzl hlt hlF
        have hsx := inpl_set (l := x.ts) (l' := List.zipWith max x.ts y.ts) (v := i) hzl hlt
        clear ih
        rw [show (List.zipWith max x.ts y.ts)[i]'(hzl ▸ hlt) = max x.ts[i] y.ts[i] by simp] at hsx
        rw [← hsx] at go
        generalize inpl x.ts (List.zipWith max x.ts y.ts) i = F at *
        have hge : (List.map iv F ++ ex)[i]? = some (.int .i64 x.ts[i]) := by rw [List.getElem?_append_left (by simpa using hlF)]; simp [hlF, hg]
        have hlF2 : i < F.length + ex.length := by omega
        refine Run2.of I 1000 ?_
        simp -implicitDefEqProofs [hlt, hlt2, hlF, hg, hge, hlF2, hidb]
        rw [show (List.map iv F).set i (AV.int .i64 (max x.ts[i] y.ts[i])) = (F.set i (max x.ts[i] y.ts[i])).map iv by rw [List.map_set]; rfl]
        refine ⟨by omega, by simpa using go⟩
      · obtain rfl : i = x.ts.length := by omega
        rw [inpl_end hzl]
        have := done (.sl id 1 0 x.ts.length cap) [(id, ⟨1, (List.zipWith max x.ts y.ts).map iv ++ ex⟩)] (by have := OwnL.sl (enc := iv) (sz := 1) (l := List.zipWith max x.ts y.ts) id cap ex hex; rwa [hzl] at this) (by simp [dom, Ne.symm hidb])
        refine Run2.of I 1000 ?_
        simp -implicitDefEqProofs [hlt, hidb, Ne.symm hidb]
        simpa using this
  · have hf : Fil.coF max x y = ⟨[], []⟩ := by unfold Fil.coF; rw [if_neg hcd]
    rw [hf]
    refine Run2.of I 1000 ?_
    simp -implicitDefEqProofs [hl, hy, hcd]
    intro b hb
    exact .drop b (.wk (Wk.tup (.cons (Wk.agg (.cons (Wk.nil 1) (.cons (Wk.nil 1) .nil))) (.cons (.refl _) .nil))) (.base ⟨rfl, by simp [hdel]⟩))
end Go.AG
