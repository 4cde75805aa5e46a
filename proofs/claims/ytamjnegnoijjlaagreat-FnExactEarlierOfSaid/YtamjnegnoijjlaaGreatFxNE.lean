/- The earlier one of two filtrations. No statement is made here. -/
import Derived.Test.YtamjnegnoijjlaaGreatFxN
namespace Go.AG
open Go.Proofs Go.Proofs.YtamjnegnoijjlaaGreat
set_option linter.unusedSimpArgs false
set_option linter.unusedVariables false
set_option maxRecDepth 4000
abbrev k46_o0 : List AJ := [.o ⟨(some 4), none, false, .mv (.c (.int .i64 0)), (some [0, 1])⟩]
abbrev k46_o1 : List AJ := [.o ⟨(some 5), none, false, .mv (.t 0), none⟩, .o ⟨(some 6), none, false, .mv (.t 1), none⟩, .o ⟨(some 7), none, false, .mx false [(.t 5), (.t 6)], none⟩, .o ⟨(some 4), none, false, .mv (.t 7), (some [4])⟩]
def k46_2 : ACode := .seq (.region k46_o1) .ret
def k46_3 : ACode := .seq (.region k46_o0) k46_2
@[simp, simp ↓] theorem k46_2r : sR k46_2 k46_o1 .ret := yR rfl
@[simp, simp ↓] theorem k46_3r : sR k46_3 k46_o0 k46_2 := yR rfl
noncomputable abbrev k46_C : Orc → Cx := mkC Tryz.prog [] 46 8 [.tmp 4]
theorem k46_of0 : OfP0 Tryz.prog Tryz.f46 46 8 k46_C k46_3 := @ofP0 _ _ _ _ _ _ _ _ Tryz.func46 (by decide +kernel) rfl (by kernel_rfl) rfl (by kernel_rfl)
theorem early1_c (a b : Int) (h : Heap) : ACalls Tryz.prog 46 [.int .i64 a, .int .i64 b] h (fun v h' => v = .int .i64 (min a b) ∧ h' = h) := by
  refine k46_of0 rfl noPure fun I => ?_
  refine Run2.of I 1000 ?_
  simp -implicitDefEqProofs
abbrev k17_o0 : List AJ := [.o ⟨(some 2), none, false, .box false 2 (.t 0), none⟩, .o ⟨(some 3), none, false, .box false 2 (.t 1), none⟩, .o ⟨(some 4), none, false, .alloc true 2 (.agg [.nilsl, .nilsl]), none⟩, .o ⟨(some 5), none, false, .mv (.c (.int .i64 0)), (some [2, 3, 4])⟩]
abbrev k17_o1 : List AJ := [.o ⟨(some 6), none, false, .load 2 true (.t 2), none⟩, .o ⟨(some 7), none, false, .load 2 true (.t 3), none⟩, .o ⟨(some 8), none, false, .call 43 [(.t 6), (.t 7), (.c (.fn 46 []))], none⟩, .o ⟨(some 9), none, false, .extract (.t 8) 0, none⟩, .o ⟨(some 10), none, false, .extract (.t 8) 1, none⟩, .o ⟨none, none, false, .store 2 (.t 4) (.t 9), none⟩, .o ⟨(some 5), none, false, .mv (.t 10), (some [4, 5])⟩]
def k17_2 : ACode := .seq (.region k17_o1) .ret
def k17_3 : ACode := .seq (.region k17_o0) k17_2
@[simp, simp ↓] theorem k17_2r : sR k17_2 k17_o1 .ret := yR rfl
@[simp, simp ↓] theorem k17_3r : sR k17_3 k17_o0 k17_2 := yR rfl
noncomputable abbrev k17_C : Orc → Cx := mkC Tryz.prog [4] 17 11 [.cell 4 2 true, .tmp 5]
theorem k17_of : OfP Tryz.prog Tryz.f17 17 11 k17_C k17_3 := @ofP _ _ _ _ _ _ _ _ Tryz.func17 (by decide +kernel) rfl (by kernel_rfl) rfl (by kernel_rfl)
theorem implEa_o (x y : Fil) (hl : x.tot ≤ 1048576) (hy : y.tot ≤ 1048576) : ACalls Tryz.prog 17 [x.av, y.av] [] (fun v h' => ∃ w, v = .tup [w, .int .i64 (x.coCode y)] ∧ OwnFil w (Fil.coF min x y) h') := by
  refine k17_of rfl noPure fun I => ?_
  have hcm := comb_o x y (g := 46) early1_c hl hy
  refine Run2.of I 1000 ?_
  simp -implicitDefEqProofs
  intro b
  refine (ACalls.gives [] (by simp) hcm ?_).mono ?_
  · rintro v h' ⟨w, rfl, o⟩
    have := o.own
    exact ⟨by simp [own, owns, this.1], this.2⟩
  rintro v h' ⟨g, ⟨w, rfl, o⟩, hd, rfl⟩
  obtain ⟨qu, qw, qa, qb, rfl, ou, ow, hdis, rfl⟩ := id o
  have cu := ou.cell
  have cw := ow.cell
  have hb1 : b ∉ dom qa := fun hm => hd b (by rw [dom_append]; exact List.mem_append_left _ hm) (by simp [dom])
  have hb2 : b ∉ dom qb := fun hm => hd b (by rw [dom_append]; exact List.mem_append_right _ hm) (by simp [dom])
  have gA : ∀ z, hget (qa ++ z) b = hget z b := fun z => hget_app hb1
  have gB : ∀ z, hget (qb ++ z) b = hget z b := fun z => hget_app hb2
  have sA : ∀ z y, hset (qa ++ z) b y = qa ++ hset z b y := fun z y => hset_app hb1
  have sB : ∀ z y, hset (qb ++ z) b y = qb ++ hset z b y := fun z y => hset_app hb2
  refine gK.go ?_
  simp -implicitDefEqProofs [cu, cw, gA, gB, sA, sB]
  rw [← List.append_assoc]
  refine Post.dropR (fun i hi hm => ?_) (.base ⟨_, rfl, o⟩)
  simp only [dom, List.map_cons, List.map_nil, List.mem_singleton] at hi
  subst hi
  rw [dom_append, List.mem_append] at hm
  exact hm.elim hb1 hb2
abbrev k45_o0 : List AJ := [.o ⟨(some 4), none, false, .mv (.c (.int .i64 0)), (some [0, 1])⟩]
abbrev k45_o1 : List AJ := [.o ⟨(some 5), none, false, .mv (.t 0), none⟩, .o ⟨(some 6), none, false, .mv (.t 1), none⟩, .o ⟨(some 7), none, false, .bin .lss (.t 5) (.t 6), (some [0, 1, 7])⟩]
abbrev k45_o2 : List AJ := [.o ⟨(some 8), none, false, .mv (.t 0), none⟩, .o ⟨(some 4), none, false, .mv (.t 8), (some [4])⟩]
def k45_3 : ACode := .seq (.region k45_o2) .ret
def k45_4 : ACode := .cond (.t 7) k45_3 .skip
def k45_5 : ACode := .seq (.region k45_o1) k45_4
abbrev k45_o3 : List AJ := [.o ⟨(some 9), none, false, .mv (.t 1), none⟩, .o ⟨(some 4), none, false, .mv (.t 9), (some [4])⟩]
def k45_7 : ACode := .seq (.region k45_o3) .ret
def k45_8 : ACode := .seq k45_5 k45_7
def k45_9 : ACode := .seq (.region k45_o0) k45_8
@[simp, simp ↓] theorem k45_3r : sR k45_3 k45_o2 .ret := yR rfl
@[simp, simp ↓] theorem k45_4r : rC k45_4 (.t 7) k45_3 .skip := zC rfl
@[simp, simp ↓] theorem k45_5r : sR k45_5 k45_o1 k45_4 := yR rfl
@[simp, simp ↓] theorem k45_7r : sR k45_7 k45_o3 .ret := yR rfl
@[simp, simp ↓] theorem k45_8r : rS k45_8 k45_5 k45_7 := zS rfl
@[simp, simp ↓] theorem k45_9r : sR k45_9 k45_o0 k45_8 := yR rfl
noncomputable abbrev k45_C : Orc → Cx := mkC Tryz.prog [] 45 10 [.tmp 4]
theorem k45_of0 : OfP0 Tryz.prog Tryz.f45 45 10 k45_C k45_9 := @ofP0 _ _ _ _ _ _ _ _ Tryz.func45 (by decide +kernel) rfl (by kernel_rfl) rfl (by kernel_rfl)
theorem l00Min_c (a b : Int) (h : Heap) : ACalls Tryz.prog 45 [.int .i64 a, .int .i64 b] h (fun v h' => v = .int .i64 (min a b) ∧ h' = h) := by
  refine k45_of0 rfl noPure fun I => ?_
  refine Run2.of I 1000 ?_
  simp -implicitDefEqProofs
  omega
noncomputable def o_l00Min : List AV → Option (Prop × AV) := tab (fun (x : Int × Int) => match x with | (a, b) => [.int .i64 a, .int .i64 b]) (fun x => match x with | (a, b) => True) (fun x => match x with | (a, b) => .int .i64 (min a b))
@[simp] theorem o_l00Min_e (a : Int) (b : Int) : o_l00Min [.int .i64 a, .int .i64 b] = some (True, .int .i64 (min a b)) := tab_at (enc := fun (x : Int × Int) => match x with | (a, b) => [.int .i64 a, .int .i64 b]) (fun x y h => by
  obtain ⟨a1, b1⟩ := x; obtain ⟨a2, b2⟩ := y; simp at h; simp [h] <;> omega) _ _ (a, b)
theorem o_l00Min_k : Knows Tryz.prog 45 o_l00Min := tab_knows fun x hx h => by
  obtain ⟨a, b⟩ := x; exact l00Min_c _ _ h
noncomputable def orcNE : List (Nat × (List AV → Option (Prop × AV))) := (42, o_l22Two) :: (45, o_l00Min) :: []
theorem orcNE_p : Pure Tryz.prog (lk orcNE) := (lk_pure o_l22Two_k (lk_pure o_l00Min_k lk_pure0))
@[simp] theorem orcNE_l (b : Bool) (g : FuncId) (l : List AV) : lk orcNE b g l = if g = 42 then o_l22Two l else if g = 45 then o_l00Min l else none := nr rfl
abbrev k16_o0 : List AJ := [.o ⟨(some 2), none, false, .box false 2 (.t 0), none⟩, .o ⟨(some 3), none, false, .box false 2 (.t 1), none⟩, .o ⟨(some 4), none, false, .alloc true 2 (.agg [.nilsl, .nilsl]), none⟩, .o ⟨(some 5), none, false, .mv (.c (.int .i64 0)), (some [2, 3, 4])⟩]
abbrev k16_o1 : List AJ := [.o ⟨(some 9), none, false, .call 42 [(.t 2), (.t 3)], none⟩, .o ⟨(some 6), none, false, .mv (.t 9), (some [2, 3, 4, 6])⟩]
abbrev k16_o2 : List AJ := [.o ⟨(some 10), none, false, .mv (.t 6), none⟩, .o ⟨(some 11), none, false, .bin .neq (.t 10) (.c (.int .i64 0)), (some [2, 3, 4, 6, 11])⟩]
abbrev k16_o3 : List AJ := [.o ⟨(some 12), none, false, .build [.nilsl, .nilsl] [], none⟩, .o ⟨(some 13), none, false, .mv (.t 6), none⟩, .o ⟨none, none, false, .store 2 (.t 4) (.t 12), none⟩, .o ⟨(some 5), none, false, .mv (.t 13), (some [4, 5])⟩]
def k16_4 : ACode := .seq (.region k16_o3) .ret
def k16_5 : ACode := .cond (.t 11) k16_4 .skip
def k16_6 : ACode := .seq (.region k16_o2) k16_5
abbrev k16_o4 : List AJ := [.o ⟨(some 14), none, false, .call 28 [(.t 2)], none⟩, .v 7 2 (.agg [.nilsl, .nilsl]) [] (.t 14) (some [3, 4, 7])]
abbrev k16_o5 : List AJ := [.o ⟨(some 8), none, false, .mv (.c (.int .i64 0)), (some [3, 4, 7, 8])⟩]
abbrev k16_o6 : List AJ := [.o ⟨(some 15), none, false, .mv (.t 8), none⟩, .o ⟨(some 16), none, false, .fieldA 1 (.t 7), none⟩, .o ⟨(some 17), none, false, .load 1 false (.t 16), none⟩, .o ⟨(some 18), none, false, .len (.t 17), none⟩, .o ⟨(some 19), none, false, .bin .lss (.t 15) (.t 18), (some [3, 4, 7, 8, 19])⟩]
def k16_10 : ACode := .cond (.t 19) .skip (.exit 0)
def k16_11 : ACode := .seq (.region k16_o6) k16_10
abbrev k16_o7 : List AI := [⟨(some 22), none, false, .fieldA 1 (.t 7), none⟩, ⟨(some 23), none, false, .load 1 false (.t 22), none⟩, ⟨(some 24), none, false, .mv (.t 8), none⟩, ⟨(some 25), none, false, .fieldA 1 (.t 7), none⟩, ⟨(some 26), none, false, .load 1 false (.t 25), none⟩, ⟨(some 27), none, false, .mv (.t 8), none⟩, ⟨(some 28), none, false, .idxA 1 (.t 26) (.t 27), none⟩, ⟨(some 29), none, false, .load 1 false (.t 28), none⟩, ⟨(some 30), none, false, .fieldA 1 (.t 3), none⟩, ⟨(some 31), none, false, .load 1 false (.t 30), none⟩, ⟨(some 32), none, false, .mv (.t 8), none⟩, ⟨(some 33), none, false, .idxA 1 (.t 31) (.t 32), none⟩, ⟨(some 34), none, false, .load 1 false (.t 33), none⟩, ⟨(some 35), none, false, .call 45 [(.t 29), (.t 34)], (some [3, 4, 7, 8, 23, 24, 35])⟩, ⟨(some 36), none, false, .idxA 1 (.t 23) (.t 24), (some [3, 4, 7, 8, 35, 36])⟩]
abbrev k16_o8 : List AJ := [.o ⟨none, none, false, .store 1 (.t 36) (.t 35), (some [3, 4, 7, 8])⟩]
def k16_12 : ACode := .draw k16_o7 k16_o8 rfl
abbrev k16_o9 : List AJ := [.o ⟨(some 20), none, false, .mv (.t 8), none⟩, .o ⟨(some 21), none, true, .bin .add (.t 20) (.c (.int .i64 1)), none⟩, .o ⟨(some 8), none, false, .mv (.t 21), (some [3, 4, 7, 8])⟩]
def k16_14 : ACode := .region k16_o9
def k16_15 : ACode := .seq (.block 1 k16_12) k16_14
def k16_16 : ACode := .seq k16_11 k16_15
def k16_17 : ACode := .loop k16_16
def k16_18 : ACode := .block 0 k16_17
def k16_19 : ACode := .seq (.region k16_o5) k16_18
abbrev k16_o10 : List AJ := [.o ⟨(some 37), none, false, .load 2 true (.t 7), none⟩, .o ⟨none, none, false, .store 2 (.t 4) (.t 37), none⟩, .o ⟨(some 5), none, false, .mv (.c (.int .i64 0)), (some [4, 5])⟩]
def k16_21 : ACode := .seq (.region k16_o10) .ret
def k16_22 : ACode := .seq k16_19 k16_21
def k16_23 : ACode := .seq (.region k16_o4) k16_22
def k16_24 : ACode := .seq k16_6 k16_23
def k16_25 : ACode := .seq (.region k16_o1) k16_24
def k16_26 : ACode := .seq (.region k16_o0) k16_25
@[simp, simp ↓] theorem k16_4r : sR k16_4 k16_o3 .ret := yR rfl
@[simp, simp ↓] theorem k16_5r : rC k16_5 (.t 11) k16_4 .skip := zC rfl
@[simp, simp ↓] theorem k16_6r : sR k16_6 k16_o2 k16_5 := yR rfl
@[simp, simp ↓] theorem k16_10r : rC k16_10 (.t 19) .skip (.exit 0) := zC rfl
@[simp, simp ↓] theorem k16_11r : sR k16_11 k16_o6 k16_10 := yR rfl
@[simp, simp ↓] theorem k16_12r : rD k16_12 k16_o7 k16_o8 := zD rfl
@[simp, simp ↓] theorem k16_14r : rR k16_14 k16_o9 := zR rfl
@[simp, simp ↓] theorem k16_15r : sB k16_15 1 k16_12 k16_14 := yB rfl
@[simp, simp ↓] theorem k16_16r : rS k16_16 k16_11 k16_15 := zS rfl
@[simp, simp ↓] theorem k16_17r : rL k16_17 k16_16 := zL rfl
@[simp, simp ↓] theorem k16_18r : rB k16_18 0 k16_17 := zB rfl
@[simp, simp ↓] theorem k16_19r : sR k16_19 k16_o5 k16_18 := yR rfl
@[simp, simp ↓] theorem k16_21r : sR k16_21 k16_o10 .ret := yR rfl
@[simp, simp ↓] theorem k16_22r : rS k16_22 k16_19 k16_21 := zS rfl
@[simp, simp ↓] theorem k16_23r : sR k16_23 k16_o4 k16_22 := yR rfl
@[simp, simp ↓] theorem k16_24r : rS k16_24 k16_6 k16_23 := zS rfl
@[simp, simp ↓] theorem k16_25r : sR k16_25 k16_o1 k16_24 := yR rfl
@[simp, simp ↓] theorem k16_26r : sR k16_26 k16_o0 k16_25 := yR rfl
noncomputable abbrev k16_C : Orc → Cx := mkC Tryz.prog [4, 7] 16 38 [.cell 4 2 true, .tmp 5]
theorem k16_of : OfP Tryz.prog Tryz.f16 16 38 k16_C k16_26 := @ofP _ _ _ _ _ _ _ _ Tryz.func16 (by decide +kernel) rfl (by kernel_rfl) rfl (by kernel_rfl)
theorem specEa_c (x y : Fil) (h : Heap) (hl : x.tot ≤ 1048576) (hy : y.tot ≤ 1048576) : ACalls Tryz.prog 16 [x.av, y.av] h (fun v h' => v = .tup [(Fil.coF min x y).av, .int .i64 (x.coCode y)] ∧ h' = h) := by
  obtain ⟨hl1, hl2⟩ := x.lens hl
  refine k16_of rfl orcNE_p fun I => ?_
  by_cases hcd : x.coCode y = 0
  · have hf : Fil.coF min x y = Fil.coT min x y := by unfold Fil.coF; rw [if_pos hcd]
    have hvv : x.valid ∧ y.valid ∧ x.rs = y.rs := by
      unfold Fil.coCode at hcd
      split at hcd
      · rename_i h1
        split at hcd
        · rename_i h2; exact ⟨h1.1, h1.2, h2⟩
        · omega
      · omega
    obtain ⟨hv, hv2, hrs⟩ := hvv
    have hlm : x.ts.length = y.ts.length := by
      have h1 := hv.2.1.1
      have h2 := hv2.2.1.1
      rw [h1, h2, hrs]
    have hcp := fun h => l22Own_g x h hl hv
    rw [hf, hcd]
    refine Run2.of I 1000 ?_
    simp -implicitDefEqProofs [hl, hy, hcd]
    intro b hb
    refine (hcp _).monoN ?_
    rintro v h' ⟨u, hp, rfl, G, rfl⟩ nd
    have cu := G.cell
    have lu := G.len
    have su := stor_of cu
    have clu := cells_of cu
    refine gK.go ?_
    simp -implicitDefEqProofs [cu, lu, su, clu]
    have og : OwnL iv 1 u x.ts hp := G.own
    have done : ∀ (w : AV) (g : Heap), OwnL iv 1 w (List.zipWith min x.ts y.ts) g → b ∉ dom g → Post (fun v h' => v = .tup [.agg [.snap 1 ((Fil.coT min x y).rs.map il), .snap 1 ((Fil.coT min x y).ts.map iv)], .int .i64 0] ∧ h' = h) (.tup [.agg [.snap 1 (x.rs.map il), w], .int .i64 0]) (g ++ ((b, ⟨2, [.agg [.snap 1 (x.rs.map il), w]]⟩) :: h)) := by
      intro w g o hb2
      refine Post.lend ?_
      rw [lend1_tup2, lend1_cold g (x := .int .i64 0) rfl, lend1_agg, lend1_cold g (x := .snap 1 (x.rs.map il)) (by simp [cold])]
      refine .drop b (.wk (Wk.tup (.cons (Wk.agg (.cons (.refl _) (.cons o.lent.wk .nil))) (.cons (.refl _) .nil))) (.base ⟨rfl, by simp [hdel]⟩))
    have hzl : (List.zipWith min x.ts y.ts).length = x.ts.length := by simp [hlm]
    rcases og.split with ⟨hw, hnil, rfl⟩ | ⟨id, cap, ex, rfl, rfl, hex⟩
    · have := done u [] (by rw [hnil]; exact hw.elim (fun e => e ▸ OwnL.nil) (fun e => e ▸ OwnL.emp)) (by simp [dom])
      have hll : lenR u = .val (.int .i64 0) := by rcases hw with rfl | rfl <;> simp
      refine Run2.loopE (fun (_ : Unit) => [(3, .ip [.snap 1 (y.rs.map il), .snap 1 (y.ts.map iv)]), (4, .ptr b 2 0 0), (7, .ip [.snap 1 (x.rs.map il), u]), (8, .int .i64 0)]) (fun _ => [] ++ ((b, ⟨2, [.agg [.nilsl, .nilsl]]⟩) :: h)) (fun _ => 0) (fun _ => True) () (by simp) rfl trivial fun _ _ _ => ?_
      refine Run2.of I 1000 ?_
      simp -implicitDefEqProofs [hll, cu, su, clu]
      simpa using this
    · have hidb : ¬ id = b := fun e => by simp [dom, e] at nd
      refine Run2.loopE (fun (i : Nat) => [(3, .ip [.snap 1 (y.rs.map il), .snap 1 (y.ts.map iv)]), (4, .ptr b 2 0 0), (7, .ip [.snap 1 (x.rs.map il), .sl id 1 0 x.ts.length cap]), (8, .int .i64 i)]) (fun i => [(id, ⟨1, (inpl x.ts (List.zipWith min x.ts y.ts) i).map iv ++ ex⟩)] ++ ((b, ⟨2, [.agg [.nilsl, .nilsl]]⟩) :: h)) (fun i => x.ts.length - i) (fun i => i ≤ x.ts.length) 0 (by simp) (by simp) (Nat.zero_le _) fun i hi ih => ?_
      have hil := inpl_len (l := x.ts) (l' := List.zipWith min x.ts y.ts) (v := i) hzl
      by_cases hlt : i < x.ts.length
      · have hlt2 : i < y.ts.length := by omega
        have go := ih (i + 1) hlt (by omega)
        have hlF : i < (inpl x.ts (List.zipWith min x.ts y.ts) i).length := by omega
        have hg := inpl_get (l := x.ts) (l' := List.zipWith min x.ts y.ts) (v := i) hzl hlt hlF
        have hsx := inpl_set (l := x.ts) (l' := List.zipWith min x.ts y.ts) (v := i) hzl hlt
        clear ih
        rw [show (List.zipWith min x.ts y.ts)[i]'(hzl ▸ hlt) = min x.ts[i] y.ts[i] by simp] at hsx
        rw [← hsx] at go
        generalize inpl x.ts (List.zipWith min x.ts y.ts) i = F at *
        have hge : (List.map iv F ++ ex)[i]? = some (.int .i64 x.ts[i]) := by rw [List.getElem?_append_left (by simpa using hlF)]; simp [hlF, hg]
        have hlF2 : i < F.length + ex.length := by omega
        refine Run2.of I 1000 ?_
        simp -implicitDefEqProofs [hlt, hlt2, hlF, hg, hge, hlF2, hidb]
        rw [show (List.map iv F).set i (AV.int .i64 (min x.ts[i] y.ts[i])) = (F.set i (min x.ts[i] y.ts[i])).map iv by rw [List.map_set]; rfl]
        refine ⟨by omega, by simpa using go⟩
      · obtain rfl : i = x.ts.length := by omega
        rw [inpl_end hzl]
        have := done (.sl id 1 0 x.ts.length cap) [(id, ⟨1, (List.zipWith min x.ts y.ts).map iv ++ ex⟩)] (by have := OwnL.sl (enc := iv) (sz := 1) (l := List.zipWith min x.ts y.ts) id cap ex hex; rwa [hzl] at this) (by simp [dom, Ne.symm hidb])
        refine Run2.of I 1000 ?_
        simp -implicitDefEqProofs [hlt, hidb, Ne.symm hidb]
        simpa using this
  · have hf : Fil.coF min x y = ⟨[], []⟩ := by unfold Fil.coF; rw [if_neg hcd]
    rw [hf]
    refine Run2.of I 1000 ?_
    simp -implicitDefEqProofs [hl, hy, hcd]
    intro b hb
    exact .drop b (.wk (Wk.tup (.cons (Wk.agg (.cons (Wk.nil 1) (.cons (Wk.nil 1) .nil))) (.cons (.refl _) .nil))) (.base ⟨rfl, by simp [hdel]⟩))
end Go.AG
