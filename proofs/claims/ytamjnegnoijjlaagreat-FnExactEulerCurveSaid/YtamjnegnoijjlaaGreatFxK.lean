/- A filtration, copied. No statement is made here. -/
import Derived.Test.YtamjnegnoijjlaaGreatFxJ
import Derived.Test.YtamjnegnoijjlaaGreatInpl
namespace Go.AG
open Go.Proofs Go.Proofs.YtamjnegnoijjlaaGreat
set_option linter.unusedSimpArgs false
set_option linter.unusedVariables false
set_option maxRecDepth 4000
abbrev k37_o0 : List AJ := [.o ⟨(some 1), none, false, .box false 2 (.t 0), none⟩, .o ⟨(some 2), none, false, .alloc true 2 (.agg [.nilsl, .nilsl]), (some [1, 2])⟩]
abbrev k37_o1 : List AJ := [.o ⟨(some 3), none, false, .fieldA 0 (.t 1), none⟩, .o ⟨(some 4), none, false, .fieldA 0 (.t 3), none⟩, .o ⟨(some 5), none, true, .load 1 false (.t 4), none⟩, .o ⟨(some 6), none, false, .call 67 [(.t 5)], none⟩, .o ⟨(some 7), none, false, .fieldA 1 (.t 1), none⟩, .o ⟨(some 8), none, true, .load 1 false (.t 7), none⟩, .o ⟨(some 9), none, false, .call 68 [(.t 8)], none⟩, .o ⟨(some 10), none, false, .build [.nilsl, .nilsl] [(0, 1, (.t 6)), (1, 1, (.t 9))], none⟩, .o ⟨none, none, false, .store 2 (.t 2) (.t 10), (some [2])⟩]
def k37_2 : ACode := .seq (.drawT 3 k37_o1 rfl) .ret
def k37_3 : ACode := .seq (.region k37_o0) k37_2
@[simp, simp ↓] theorem k37_2r : sT k37_2 k37_o1 .ret := yT rfl
@[simp, simp ↓] theorem k37_3r : sR k37_3 k37_o0 k37_2 := yR rfl
noncomputable abbrev k37_C : Orc → Cx := mkC Tryz.prog [2] 37 11 [.cell 2 2 true]
theorem k37_of : OfP Tryz.prog Tryz.f37 37 11 k37_C k37_3 := @ofP _ _ _ _ _ _ _ _ Tryz.func37 (by decide +kernel) rfl (by kernel_rfl) rfl (by kernel_rfl)
theorem copyFil_o (x : Fil) (hl : x.tot ≤ 1048576) (hv : x.valid) : ACalls Tryz.prog 37 [x.av] [] (fun v h' => OwnFil v x h') := by
  obtain ⟨hl1, hl2⟩ := x.lens hl
  refine ACalls.permR ?_
  refine k37_of rfl noPure fun I => ?_
  refine Run2.of I 1000 ?_
  simp -implicitDefEqProofs
  intro b
  refine (ACalls.gives [] (by simp) (inOrder_o x.rs hl1 hv.1.2 hv.1.sort) fun v h' o => o.own).mono ?_
  rintro v h' ⟨g, ⟨u, rfl, o⟩, hd, rfl⟩
  have hcell := o.cell
  refine gK.go ?_
  simp -implicitDefEqProofs [hcell]
  refine (Clone_w x.ts _ hl2).monoN ?_
  rintro v h' ⟨hp, G, rfl⟩ nd
  have hcell2 := G.cell
  simp only [dom_append, List.nodup_append, List.mem_append] at nd
  have hb : b ∉ dom g := fun hm => hd b hm (by simp [dom])
  have hb2 : b ∉ dom hp := fun hm => nd.2.2 b hm b (.inr (by simp [dom])) rfl
  have hdis : ∀ i ∈ dom g, i ∉ dom hp := fun i hi hm => nd.2.2 i hm i (.inl hi) rfl
  have g1 : ∀ z, hget (g ++ z) b = hget z b := fun z => hget_app hb
  have g2 : ∀ z, hget (hp ++ z) b = hget z b := fun z => hget_app hb2
  have s1 : ∀ z c, hset (g ++ z) b c = g ++ hset z b c := fun z c => hset_app hb
  have s2 : ∀ z c, hset (hp ++ z) b c = hp ++ hset z b c := fun z c => hset_app hb2
  refine gK.go ?_
  have st2 := stor_of hcell2
  have cl2 := cells_of hcell2
  simp -implicitDefEqProofs [hcell, hcell2, st2, cl2, g1, g2, s1, s2]
  rw [← List.append_assoc]
  refine Post.dropR (fun i hi hm => ?_) (.base ?_)
  · simp only [dom, List.map_cons, List.map_nil, List.mem_singleton] at hi
    subst hi
    rw [dom_append, List.mem_append] at hm
    exact hm.elim hb2 hb
  · exact fun _ => ⟨g ++ hp, List.perm_append_comm, _, _, g, hp, rfl, o, G.own, hdis, rfl⟩
noncomputable def orcK : List (Nat × (List AV → Option (Prop × AV))) := (57, o_closure) :: []
theorem orcK_p : Pure Tryz.prog (lk orcK) := (lk_pure o_closure_k lk_pure0)
@[simp] theorem orcK_l (b : Bool) (g : FuncId) (l : List AV) : lk orcK b g l = if g = 57 then o_closure l else none := nr rfl
abbrev k28_o0 : List AJ := [.o ⟨(some 2), none, false, .alloc true 2 (.agg [.nilsl, .nilsl]), (some [0, 2])⟩]
abbrev k28_o1 : List AJ := [.o ⟨(some 3), none, false, .mv (.t 0), none⟩, .o ⟨(some 4), none, false, .nilchk (.t 3), none⟩, .o ⟨(some 5), none, false, .fieldA 0 (.t 4), none⟩, .o ⟨(some 6), none, false, .fieldA 0 (.t 5), none⟩, .o ⟨(some 7), none, true, .load 1 false (.t 6), none⟩, .o ⟨(some 8), none, false, .call 57 [(.t 7)], none⟩, .o ⟨(some 9), none, false, .mv (.t 0), none⟩, .o ⟨(some 10), none, false, .nilchk (.t 9), none⟩, .o ⟨(some 11), none, false, .fieldA 1 (.t 10), none⟩, .o ⟨(some 12), none, true, .load 1 false (.t 11), none⟩, .o ⟨(some 13), none, false, .call 58 [(.t 12)], none⟩, .o ⟨(some 14), none, false, .build [.nilsl, .nilsl] [(0, 1, (.t 8)), (1, 1, (.t 13))], none⟩, .o ⟨none, none, false, .store 2 (.t 2) (.t 14), (some [2])⟩]
def k28_2 : ACode := .seq (.drawT 3 k28_o1 rfl) .ret
def k28_3 : ACode := .seq (.region k28_o0) k28_2
@[simp, simp ↓] theorem k28_2r : sT k28_2 k28_o1 .ret := yT rfl
@[simp, simp ↓] theorem k28_3r : sR k28_3 k28_o0 k28_2 := yR rfl
noncomputable abbrev k28_C : Orc → Cx := mkC Tryz.prog [2] 28 15 [.cell 2 2 true]
theorem k28_of : OfP Tryz.prog Tryz.f28 28 15 k28_C k28_3 := @ofP _ _ _ _ _ _ _ _ Tryz.func28 (by decide +kernel) rfl (by kernel_rfl) rfl (by kernel_rfl)
theorem l22Own_g (x : Fil) (h : Heap) (hl : x.tot ≤ 1048576) (hv : x.valid) : ACalls Tryz.prog 28 [.ip [.snap 1 (x.rs.map il), .snap 1 (x.ts.map iv)]] h (fun v h' => ∃ u hp, v = .agg [.snap 1 (x.rs.map il), u] ∧ Grow 1 u (x.ts.map iv) hp ∧ h' = hp ++ h) := by
  obtain ⟨hl1, hl2⟩ := x.lens hl
  have hc := hv.1
  refine k28_of rfl orcK_p fun I => ?_
  refine Run2.of I 1000 ?_
  simp -implicitDefEqProofs [hc, hl1]
  intro b hb0
  refine (l00Own_g x.ts _ hl2).monoN ?_
  rintro v h' ⟨hp, G, rfl⟩ nd
  have hcell2 := G.cell
  simp only [dom_append, List.nodup_append] at nd
  have hb : b ∉ dom hp := fun hm => nd.2.2 b hm b (by simp [dom]) rfl
  have g2 : ∀ z, hget (hp ++ z) b = hget z b := fun z => hget_app hb
  have s2 : ∀ z c, hset (hp ++ z) b c = hp ++ hset z b c := fun z c => hset_app hb
  refine gK.go ?_
  have st2 := stor_of hcell2
  have cl2 := cells_of hcell2
  simp -implicitDefEqProofs [hcell2, st2, cl2, g2, s2]
  refine .drop b (.base ⟨_, rfl, hp, G, ?_⟩)
  rw [hdel_app hb]
  simp [hdel]
theorem validFil_own {v : AV} {x : Fil} {g h : Heap} (o : OwnFil v x g) (hs : ∀ p ∈ g, p ∈ h) (hl : x.tot ≤ 1048576) : ACalls Tryz.prog 33 [v] h (fun r h' => r = .bool (decide x.valid) ∧ h' = h) := by
  refine ACalls.reads g hs ?_ rfl
  rw [lend_cons, lend_nil']
  exact ACalls.wk (.cons (o.lent o.nodup).wk .nil) (validFil_s x [] hl)
end Go.AG
