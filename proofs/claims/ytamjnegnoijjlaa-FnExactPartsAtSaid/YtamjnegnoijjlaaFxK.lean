/- A filtration, copied. No statement is made here. -/
import Derived.Test.YtamjnegnoijjlaaFxJ
import Derived.Test.YtamjnegnoijjlaaInpl
namespace Go.AG
open Go.Proofs Go.Proofs.Ytamjnegnoijjlaa
set_option linter.unusedSimpArgs false
set_option linter.unusedVariables false
set_option maxRecDepth 4000
abbrev k70_o0 : List AJ := [.o ⟨(some 1), none, false, .box false 2 (.t 0), none⟩, .o ⟨(some 2), none, false, .alloc true 2 (.agg [.nilsl, .nilsl]), (some [1, 2])⟩]
abbrev k70_o1 : List AJ := [.o ⟨(some 3), none, false, .fieldA 0 (.t 1), none⟩, .o ⟨(some 4), none, false, .fieldA 0 (.t 3), none⟩, .o ⟨(some 5), none, true, .load 1 false (.t 4), none⟩, .o ⟨(some 6), none, false, .call 75 [(.t 5)], none⟩, .o ⟨(some 7), none, false, .fieldA 1 (.t 1), none⟩, .o ⟨(some 8), none, true, .load 1 false (.t 7), none⟩, .o ⟨(some 9), none, false, .call 109 [(.t 8)], none⟩, .o ⟨(some 10), none, false, .build [.nilsl, .nilsl] [(0, 1, (.t 6)), (1, 1, (.t 9))], none⟩, .o ⟨none, none, false, .store 2 (.t 2) (.t 10), (some [2])⟩]
def k70_2 : ACode := .seq (.drawT 3 k70_o1 rfl) .ret
def k70_3 : ACode := .seq (.region k70_o0) k70_2
@[simp, simp ↓] theorem k70_2r : sT k70_2 k70_o1 .ret := yT rfl
@[simp, simp ↓] theorem k70_3r : sR k70_3 k70_o0 k70_2 := yR rfl
noncomputable abbrev k70_C : Orc → Cx := mkC Try.prog [2] 70 11 [.cell 2 2 true]
theorem k70_of : OfP Try.prog Try.f70 70 11 k70_C k70_3 := @ofP _ _ _ _ _ _ _ _ Try.func70 (by decide +kernel) rfl (by kernel_rfl) rfl (by kernel_rfl)
theorem copyFil_o (x : Fil) (hl : x.tot ≤ 1048576) (hv : x.valid) : ACalls Try.prog 70 [x.av] [] (fun v h' => OwnFil v x h') := by
  obtain ⟨hl1, hl2⟩ := x.lens hl
  refine ACalls.permR ?_
  refine k70_of rfl noPure fun I => ?_
  refine Run2.of I 1000 ?_
  simp -implicitDefEqProofs
  intro b
  refine (ACalls.gives [] (by simp) (inOrder_o x.rs hl1 hv.1.2 hv.1.sort) fun v h' o => o.own).mono ?_
  rintro v h' ⟨g, ⟨u, rfl, o⟩, hd, rfl⟩
  have hcell := o.cell
  refine gK.go ?_
  simp -implicitDefEqProofs [hcell]
  refine (Clone_w x.ts _ hl2).monoN ?_
  rintro v h' ⟨hp, G, rfl⟩ nd
  have hcell2 := G.cell
  simp only [dom_append, List.nodup_append, List.mem_append] at nd
  have hb : b ∉ dom g := fun hm => hd b hm (by simp [dom])
  have hb2 : b ∉ dom hp := fun hm => nd.2.2 b hm b (.inr (by simp [dom])) rfl
  have hdis : ∀ i ∈ dom g, i ∉ dom hp := fun i hi hm => nd.2.2 i hm i (.inl hi) rfl
  have g1 : ∀ z, hget (g ++ z) b = hget z b := fun z => hget_app hb
  have g2 : ∀ z, hget (hp ++ z) b = hget z b := fun z => hget_app hb2
  have s1 : ∀ z c, hset (g ++ z) b c = g ++ hset z b c := fun z c => hset_app hb
  have s2 : ∀ z c, hset (hp ++ z) b c = hp ++ hset z b c := fun z c => hset_app hb2
  refine gK.go ?_
  have st2 := stor_of hcell2
  have cl2 := cells_of hcell2
  simp -implicitDefEqProofs [hcell, hcell2, st2, cl2, g1, g2, s1, s2]
  rw [← List.append_assoc]
  refine Post.dropR (fun i hi hm => ?_) (.base ?_)
  · simp only [dom, List.map_cons, List.map_nil, List.mem_singleton] at hi
    subst hi
    rw [dom_append, List.mem_append] at hm
    exact hm.elim hb2 hb
  · exact fun _ => ⟨g ++ hp, List.perm_append_comm, _, _, g, hp, rfl, o, G.own, hdis, rfl⟩
noncomputable def orcK : List (Nat × (List AV → Option (Prop × AV))) := (72, o_closure) :: []
theorem orcK_p : Pure Try.prog (lk orcK) := (lk_pure o_closure_k lk_pure0)
@[simp] theorem orcK_l (b : Bool) (g : FuncId) (l : List AV) : lk orcK b g l = if g = 72 then o_closure l else none := nr rfl
abbrev k68_o0 : List AJ := [.o ⟨(some 2), none, false, .alloc true 2 (.agg [.nilsl, .nilsl]), (some [0, 2])⟩]
abbrev k68_o1 : List AJ := [.o ⟨(some 3), none, false, .mv (.t 0), none⟩, .o ⟨(some 4), none, false, .nilchk (.t 3), none⟩, .o ⟨(some 5), none, false, .fieldA 0 (.t 4), none⟩, .o ⟨(some 6), none, false, .fieldA 0 (.t 5), none⟩, .o ⟨(some 7), none, true, .load 1 false (.t 6), none⟩, .o ⟨(some 8), none, false, .call 72 [(.t 7)], none⟩, .o ⟨(some 9), none, false, .mv (.t 0), none⟩, .o ⟨(some 10), none, false, .nilchk (.t 9), none⟩, .o ⟨(some 11), none, false, .fieldA 1 (.t 10), none⟩, .o ⟨(some 12), none, true, .load 1 false (.t 11), none⟩, .o ⟨(some 13), none, false, .call 89 [(.t 12)], none⟩, .o ⟨(some 14), none, false, .build [.nilsl, .nilsl] [(0, 1, (.t 8)), (1, 1, (.t 13))], none⟩, .o ⟨none, none, false, .store 2 (.t 2) (.t 14), (some [2])⟩]
def k68_2 : ACode := .seq (.drawT 3 k68_o1 rfl) .ret
def k68_3 : ACode := .seq (.region k68_o0) k68_2
@[simp, simp ↓] theorem k68_2r : sT k68_2 k68_o1 .ret := yT rfl
@[simp, simp ↓] theorem k68_3r : sR k68_3 k68_o0 k68_2 := yR rfl
noncomputable abbrev k68_C : Orc → Cx := mkC Try.prog [2] 68 15 [.cell 2 2 true]
theorem k68_of : OfP Try.prog Try.f68 68 15 k68_C k68_3 := @ofP _ _ _ _ _ _ _ _ Try.func68 (by decide +kernel) rfl (by kernel_rfl) rfl (by kernel_rfl)
theorem l22Own_g (x : Fil) (h : Heap) (hl : x.tot ≤ 1048576) (hv : x.valid) : ACalls Try.prog 68 [.ip [.snap 1 (x.rs.map il), .snap 1 (x.ts.map iv)]] h (fun v h' => ∃ u hp, v = .agg [.snap 1 (x.rs.map il), u] ∧ Grow 1 u (x.ts.map iv) hp ∧ h' = hp ++ h) := by
  obtain ⟨hl1, hl2⟩ := x.lens hl
  have hc := hv.1
  refine k68_of rfl orcK_p fun I => ?_
  refine Run2.of I 1000 ?_
  simp -implicitDefEqProofs [hc, hl1]
  intro b hb0
  refine (l00Own_g x.ts _ hl2).monoN ?_
  rintro v h' ⟨hp, G, rfl⟩ nd
  have hcell2 := G.cell
  simp only [dom_append, List.nodup_append] at nd
  have hb : b ∉ dom hp := fun hm => nd.2.2 b hm b (by simp [dom]) rfl
  have g2 : ∀ z, hget (hp ++ z) b = hget z b := fun z => hget_app hb
  have s2 : ∀ z c, hset (hp ++ z) b c = hp ++ hset z b c := fun z c => hset_app hb
  refine gK.go ?_
  have st2 := stor_of hcell2
  have cl2 := cells_of hcell2
  simp -implicitDefEqProofs [hcell2, st2, cl2, g2, s2]
  refine .drop b (.base ⟨_, rfl, hp, G, ?_⟩)
  rw [hdel_app hb]
  simp [hdel]
theorem validFil_own {v : AV} {x : Fil} {g h : Heap} (o : OwnFil v x g) (hs : ∀ p ∈ g, p ∈ h) (hl : x.tot ≤ 1048576) : ACalls Try.prog 16 [v] h (fun r h' => r = .bool (decide x.valid) ∧ h' = h) := by
  refine ACalls.reads g hs ?_ rfl
  rw [lend_cons, lend_nil']
  exact ACalls.wk (.cons (o.lent o.nodup).wk .nil) (validFil_s x [] hl)
/-! ## All times moved -/
noncomputable def Fil.shCode (x : Fil) (k : Int) : Int := if x.valid then if -1000 ≤ k ∧ k ≤ 1000 then if (⟨x.rs, x.ts.map (· + k)⟩ : Fil).valid then 0 else 6 else 2 else 1
noncomputable def Fil.shF (x : Fil) (k : Int) : Fil := if x.shCode k = 0 then ⟨x.rs, x.ts.map (· + k)⟩ else ⟨[], []⟩
noncomputable def orcK1 : List (Nat × (List AV → Option (Prop × AV))) := (69, o_within) :: (53, o_l21Ok) :: (67, o_l00In) :: (63, o_l21Time) :: []
theorem orcK1_p : Pure Try.prog (lk orcK1) := (lk_pure o_within_k (lk_pure o_l21Ok_k (lk_pure o_l00In_k (lk_pure o_l21Time_k lk_pure0))))
@[simp] theorem orcK1_l (b : Bool) (g : FuncId) (l : List AV) : lk orcK1 b g l = if g = 69 then o_within l else if g = 53 then o_l21Ok l else if g = 67 then o_l00In l else if g = 63 then o_l21Time l else none := nr rfl
abbrev k30_o0 : List AJ := [.o ⟨(some 2), none, false, .box false 2 (.t 0), none⟩, .o ⟨(some 4), none, false, .alloc true 2 (.agg [.nilsl, .nilsl]), none⟩, .o ⟨(some 5), none, false, .mv (.c (.int .i64 0)), (some [1, 2, 4])⟩]
abbrev k30_o1 : List AJ := [.o ⟨(some 8), none, false, .load 2 true (.t 2), none⟩, .o ⟨(some 9), none, false, .call 16 [(.t 8)], none⟩, .o ⟨(some 10), none, false, .un .not (.t 9), (some [1, 2, 4, 10])⟩]
abbrev k30_o2 : List AJ := [.o ⟨(some 11), none, false, .build [.nilsl, .nilsl] [], none⟩, .o ⟨none, none, false, .store 2 (.t 4) (.t 11), none⟩, .o ⟨(some 5), none, false, .mv (.c (.int .i64 1)), (some [4, 5])⟩]
def k30_3 : ACode := .seq (.region k30_o2) .ret
def k30_4 : ACode := .cond (.t 10) k30_3 .skip
def k30_5 : ACode := .seq (.region k30_o1) k30_4
abbrev k30_o3 : List AJ := [.o ⟨(some 12), none, false, .mv (.t 1), none⟩, .o ⟨(some 13), none, false, .call 69 [(.t 12), (.c (.int .i64 (-1000))), (.c (.int .i64 1000))], none⟩, .o ⟨(some 14), none, false, .un .not (.t 13), (some [1, 2, 4, 14])⟩]
abbrev k30_o4 : List AJ := [.o ⟨(some 15), none, false, .build [.nilsl, .nilsl] [], none⟩, .o ⟨none, none, false, .store 2 (.t 4) (.t 15), none⟩, .o ⟨(some 5), none, false, .mv (.c (.int .i64 2)), (some [4, 5])⟩]
def k30_8 : ACode := .seq (.region k30_o4) .ret
def k30_9 : ACode := .cond (.t 14) k30_8 .skip
def k30_10 : ACode := .seq (.region k30_o3) k30_9
abbrev k30_o5 : List AJ := [.o ⟨(some 16), none, false, .load 2 true (.t 2), none⟩, .o ⟨(some 17), none, false, .call 70 [(.t 16)], none⟩, .v 6 2 (.agg [.nilsl, .nilsl]) [] (.t 17) (some [1, 4, 6])]
abbrev k30_o6 : List AJ := [.o ⟨(some 18), none, false, .fieldA 1 (.t 6), none⟩, .o ⟨(some 19), none, false, .load 1 false (.t 18), none⟩, .o ⟨(some 20), none, false, .len (.t 19), none⟩, .o ⟨(some 21), none, false, .mv (.c (.int .i64 0)), (some [1, 4, 6, 20, 21])⟩]
abbrev k30_o7 : List AJ := [.o ⟨(some 22), none, false, .bin .lss (.t 21) (.t 20), (some [1, 4, 6, 20, 21, 22])⟩]
abbrev k30_o8 : List AJ := [.o ⟨(some 23), none, false, .mv (.t 21), none⟩, .o ⟨(some 7), none, false, .mv (.t 23), (some [1, 4, 6, 7, 20, 21])⟩]
abbrev k30_o9 : List AJ := [.o ⟨(some 24), none, false, .fieldA 1 (.t 6), none⟩, .o ⟨(some 25), none, false, .load 1 false (.t 24), none⟩, .o ⟨(some 26), none, false, .mv (.t 7), none⟩, .o ⟨(some 27), none, false, .idxA 1 (.t 25) (.t 26), none⟩, .o ⟨(some 28), none, false, .load 1 false (.t 27), none⟩, .o ⟨(some 29), none, false, .mv (.t 1), none⟩, .o ⟨(some 30), none, true, .bin .add (.t 28) (.t 29), none⟩, .o ⟨(some 31), none, false, .idxA 1 (.t 25) (.t 26), none⟩, .o ⟨none, none, false, .store 1 (.t 31) (.t 30), (some [1, 4, 6, 20, 21])⟩]
def k30_16 : ACode := .region k30_o9
def k30_17 : ACode := .seq (.region k30_o8) k30_16
abbrev k30_o10 : List AJ := [.o ⟨(some 32), none, true, .bin .add (.t 21) (.c (.int .i64 1)), none⟩, .o ⟨(some 21), none, false, .mv (.t 32), (some [1, 4, 6, 20, 21])⟩]
def k30_19 : ACode := .region k30_o10
def k30_20 : ACode := .seq (.block 1 k30_17) k30_19
def k30_21 : ACode := .seq (.cond (.t 22) .skip (.exit 0)) k30_20
def k30_22 : ACode := .seq (.region k30_o7) k30_21
def k30_23 : ACode := .loop k30_22
def k30_24 : ACode := .block 0 k30_23
def k30_25 : ACode := .seq (.region k30_o6) k30_24
abbrev k30_o11 : List AJ := [.o ⟨(some 33), none, false, .load 2 true (.t 6), none⟩, .o ⟨(some 34), none, false, .call 16 [(.t 33)], none⟩, .o ⟨(some 35), none, false, .un .not (.t 34), (some [4, 6, 35])⟩]
abbrev k30_o12 : List AJ := [.o ⟨(some 36), none, false, .build [.nilsl, .nilsl] [], none⟩, .o ⟨none, none, false, .store 2 (.t 4) (.t 36), none⟩, .o ⟨(some 5), none, false, .mv (.c (.int .i64 6)), (some [4, 5])⟩]
def k30_28 : ACode := .seq (.region k30_o12) .ret
def k30_29 : ACode := .cond (.t 35) k30_28 .skip
def k30_30 : ACode := .seq (.region k30_o11) k30_29
abbrev k30_o13 : List AJ := [.o ⟨(some 37), none, false, .load 2 true (.t 6), none⟩, .o ⟨none, none, false, .store 2 (.t 4) (.t 37), none⟩, .o ⟨(some 5), none, false, .mv (.c (.int .i64 0)), (some [4, 5])⟩]
def k30_32 : ACode := .seq (.region k30_o13) .ret
def k30_33 : ACode := .seq k30_30 k30_32
def k30_34 : ACode := .seq k30_25 k30_33
def k30_35 : ACode := .seq (.region k30_o5) k30_34
def k30_36 : ACode := .seq k30_10 k30_35
def k30_37 : ACode := .seq k30_5 k30_36
def k30_38 : ACode := .seq (.region k30_o0) k30_37
@[simp, simp ↓] theorem k30_3r : sR k30_3 k30_o2 .ret := yR rfl
@[simp, simp ↓] theorem k30_4r : rC k30_4 (.t 10) k30_3 .skip := zC rfl
@[simp, simp ↓] theorem k30_5r : sR k30_5 k30_o1 k30_4 := yR rfl
@[simp, simp ↓] theorem k30_8r : sR k30_8 k30_o4 .ret := yR rfl
@[simp, simp ↓] theorem k30_9r : rC k30_9 (.t 14) k30_8 .skip := zC rfl
@[simp, simp ↓] theorem k30_10r : sR k30_10 k30_o3 k30_9 := yR rfl
@[simp, simp ↓] theorem k30_16r : rR k30_16 k30_o9 := zR rfl
@[simp, simp ↓] theorem k30_17r : sR k30_17 k30_o8 k30_16 := yR rfl
@[simp, simp ↓] theorem k30_19r : rR k30_19 k30_o10 := zR rfl
@[simp, simp ↓] theorem k30_20r : sB k30_20 1 k30_17 k30_19 := yB rfl
@[simp, simp ↓] theorem k30_21r : sC k30_21 (.t 22) .skip (.exit 0) k30_20 := yC rfl
@[simp, simp ↓] theorem k30_22r : sR k30_22 k30_o7 k30_21 := yR rfl
@[simp, simp ↓] theorem k30_23r : rL k30_23 k30_22 := zL rfl
@[simp, simp ↓] theorem k30_24r : rB k30_24 0 k30_23 := zB rfl
@[simp, simp ↓] theorem k30_25r : sR k30_25 k30_o6 k30_24 := yR rfl
@[simp, simp ↓] theorem k30_28r : sR k30_28 k30_o12 .ret := yR rfl
@[simp, simp ↓] theorem k30_29r : rC k30_29 (.t 35) k30_28 .skip := zC rfl
@[simp, simp ↓] theorem k30_30r : sR k30_30 k30_o11 k30_29 := yR rfl
@[simp, simp ↓] theorem k30_32r : sR k30_32 k30_o13 .ret := yR rfl
@[simp, simp ↓] theorem k30_33r : rS k30_33 k30_30 k30_32 := zS rfl
@[simp, simp ↓] theorem k30_34r : rS k30_34 k30_25 k30_33 := zS rfl
@[simp, simp ↓] theorem k30_35r : sR k30_35 k30_o5 k30_34 := yR rfl
@[simp, simp ↓] theorem k30_36r : rS k30_36 k30_10 k30_35 := zS rfl
@[simp, simp ↓] theorem k30_37r : rS k30_37 k30_5 k30_36 := zS rfl
@[simp, simp ↓] theorem k30_38r : sR k30_38 k30_o0 k30_37 := yR rfl
noncomputable abbrev k30_C : Orc → Cx := mkC Try.prog [4, 6] 30 38 [.cell 4 2 true, .tmp 5]
theorem k30_of : OfP Try.prog Try.f30 30 38 k30_C k30_38 := @ofP _ _ _ _ _ _ _ _ Try.func30 (by decide +kernel) rfl (by kernel_rfl) rfl (by kernel_rfl)
theorem sh_loop (I : Is (k30_C (lk orcK1)) Try.f30) {k : Int} (hk : -1000 ≤ k ∧ k ≤ 1000) {l : List Int} (hts : ∀ t ∈ l, 0 ≤ t ∧ t ≤ 1000) (hl : l.length ≤ 1048576) {u w p : AV} {g1 g2 tl : Heap} {sk : List AItem} {R : AV → Heap → Prop} (ow : OwnL iv 1 w l g2) (hd : ∀ i ∈ dom g1, i ∉ dom g2)
    (go : ∀ g3, OwnL iv 1 w (l.map (· + k)) g3 → dom g3 = dom g2 → vc2 (k30_C (lk orcK1)) 994 [] sk [(1, .int .i64 k), (4, p), (6, .ip [u, w]), (20, .int .i64 l.length), (21, .int .i64 l.length), (22, .bool false)] (g1 ++ (g3 ++ tl)) R) :
    Run2 (k30_C (lk orcK1)) (.code k30_22 :: .inLoop k30_22 :: .inBlock 0 :: sk) [(1, .int .i64 k), (4, p), (6, .ip [u, w]), (20, .int .i64 l.length), (21, .int .i64 0)] (g1 ++ (g2 ++ tl)) R := by
  rcases ow.split with ⟨hw, rfl, rfl⟩ | ⟨id, cap, ex, rfl, rfl, hex⟩
  · have go := go [] (hw.elim (fun e => e ▸ OwnL.nil) (fun e => e ▸ OwnL.emp)) rfl
    refine Run2.loopE (fun (_ : Unit) => [(1, .int .i64 k), (4, p), (6, .ip [u, w]), (20, .int .i64 0), (21, .int .i64 0)]) (fun _ => g1 ++ ([] ++ tl)) (fun _ => 0) (fun _ => True) () (by simp) rfl trivial fun _ _ _ => ?_
    refine Run2.of I 1000 ?_
    simp -implicitDefEqProofs
    exact go
  · have hid : id ∉ dom g1 := fun hm => hd id hm (by simp [dom])
    refine Run2.loopE (fun (i : Nat) => [(1, .int .i64 k), (4, p), (6, .ip [u, .sl id 1 0 l.length cap]), (20, .int .i64 l.length), (21, .int .i64 i)]) (fun i => g1 ++ ([(id, ⟨1, (inpl l (l.map (· + k)) i).map iv ++ ex⟩)] ++ tl)) (fun i => l.length - i) (fun i => i ≤ l.length) 0 (by simp) (by simp) (Nat.zero_le _) fun i hi ih => ?_
    have hil := inpl_len (l := l) (l' := l.map (· + k)) (v := i) (by simp)
    by_cases hlt : i < l.length
    · have go := ih (i + 1) hlt (by omega)
      have ht := hts _ (List.getElem_mem hlt)
      have hlF : i < (inpl l (l.map (· + k)) i).length := by omega
      have hg := inpl_get (l := l) (l' := l.map (· + k)) (v := i) (by simp) hlt hlF
      have hsx := inpl_set (l := l) (l' := l.map (· + k)) (v := i) (by simp) hlt
      have gA : ∀ z, hget (g1 ++ z) id = hget z id := fun z => hget_app hid
      have sA : ∀ z c, hset (g1 ++ z) id c = g1 ++ hset z id c := fun z c => hset_app hid
      clear ih
      simp only [List.getElem_map] at hsx
      rw [← hsx] at go
      generalize inpl l (l.map (· + k)) i = F at *
      refine Run2.of I 1000 ?_
      have hge : (List.map iv F ++ ex)[i]? = some (.int .i64 l[i]) := by rw [List.getElem?_append_left (by simpa using hlF)]; simp [hlF, hg]
      have hlF2 : i < F.length + ex.length := by omega
      have hse : ∀ z : Int, (List.map iv F ++ ex).set i (.int .i64 z) = (F.set i z).map iv ++ ex := fun z => by
        rw [List.set_append_left _ _ (by simpa using hlF), List.map_set]; rfl
      simp -implicitDefEqProofs [hlt, gA, sA, hlF, hg, hge, hlF2]
      rw [show (List.map iv F).set i (AV.int .i64 (l[i] + k)) = (F.set i (l[i] + k)).map iv by rw [List.map_set]; rfl]
      refine ⟨by omega, by omega, by simpa using go⟩
    · obtain rfl : i = l.length := by omega
      rw [inpl_end (by simp)]
      have := go [(id, ⟨1, (l.map (· + k)).map iv ++ ex⟩)] (by have := OwnL.sl (enc := iv) (sz := 1) (l := l.map (· + k)) id cap ex hex; simpa using this) (by simp [dom])
      refine Run2.of I 1000 ?_
      simp -implicitDefEqProofs [hlt]
      simpa using this
theorem implSh_o (x : Fil) (k : Int) (hl : x.tot ≤ 1048576) : ACalls Try.prog 30 [x.av, .int .i64 k] [] (fun v h' => ∃ w, v = .tup [w, .int .i64 (x.shCode k)] ∧ OwnFil w (x.shF k) h') := by
  obtain ⟨hl1, hl2⟩ := x.lens hl
  refine k30_of rfl orcK1_p fun I => ?_
  by_cases hv : x.valid
  · by_cases hk : -1000 ≤ k ∧ k ≤ 1000
    · have hcp := copyFil_o x hl hv
      refine Run2.of I 1000 ?_
      simp -implicitDefEqProofs
      intro b
      refine (validFil_s x _ hl).mono ?_
      rintro v h' ⟨rfl, rfl⟩
      refine gK.go ?_
      simp -implicitDefEqProofs [hv, hk.1, hk.2]
      refine (ACalls.gives [] (by simp) hcp fun v h' o => o.own).mono ?_
      rintro v h' ⟨g, ⟨u, w, g1, g2, rfl, ou, ow, hdis, rfl⟩, hd, rfl⟩
      have cu := ou.cell
      have cw := ow.cell
      have su := stor_of cu
      have sw := stor_of cw
      have lu := cells_of cu
      have lw := cells_of cw
      refine gK.go ?_
      have ll := ow.len
      simp -implicitDefEqProofs [cu, cw, su, sw, lu, lw, ll]
      have hb1 : b ∉ dom g1 := fun hm => hd b (by rw [dom_append]; exact List.mem_append_left _ hm) (by simp [dom])
      have hb2 : b ∉ dom g2 := fun hm => hd b (by rw [dom_append]; exact List.mem_append_right _ hm) (by simp [dom])
      refine sh_loop I hk hv.2.1.2 hl2 ow hdis fun g3 ow3 hd3 => ?_
      have hb3 : b ∉ dom g3 := by rw [hd3]; exact hb2
      have gA : ∀ z, hget (g1 ++ z) b = hget z b := fun z => hget_app hb1
      have gB : ∀ z, hget (g3 ++ z) b = hget z b := fun z => hget_app hb3
      have sA : ∀ z c, hset (g1 ++ z) b c = g1 ++ hset z b c := fun z c => hset_app hb1
      have sB : ∀ z c, hset (g3 ++ z) b c = g3 ++ hset z b c := fun z c => hset_app hb3
      have oF : OwnFil (.agg [u, w]) ⟨x.rs, x.ts.map (· + k)⟩ (g1 ++ g3) := ⟨u, w, g1, g3, rfl, ou, ow3, fun i hi hm => hdis i hi (by rw [← hd3]; exact hm), rfl⟩
      have hvo := validFil_own oF (h := g1 ++ (g3 ++ [(b, ⟨2, [.agg [.nilsl, .nilsl]]⟩)])) (fun p hp => by
        rw [← List.append_assoc]; exact List.mem_append_left _ hp) (by unfold Fil.tot at hl ⊢; simpa using hl)
      simp -implicitDefEqProofs [cu, cw, su, sw, lu, lw]
      refine hvo.mono ?_
      rintro v h' ⟨rfl, rfl⟩
      by_cases h6 : (⟨x.rs, x.ts.map (· + k)⟩ : Fil).valid
      · have hc : x.shCode k = 0 := by simp only [Fil.shCode, if_pos hv, if_pos hk, if_pos h6]
        have hf : x.shF k = ⟨x.rs, x.ts.map (· + k)⟩ := by unfold Fil.shF; rw [if_pos hc]
        rw [hc, hf]
        refine gK.go ?_
        simp -implicitDefEqProofs [cu, cw, su, sw, lu, lw, gA, gB, sA, sB, h6]
        rw [← List.append_assoc]
        refine Post.dropR (fun i hi hm => ?_) (.base ⟨_, rfl, oF⟩)
        simp only [dom, List.map_cons, List.map_nil, List.mem_singleton] at hi
        subst hi
        rw [dom_append, List.mem_append] at hm
        exact hm.elim hb1 hb3
      · have hc : x.shCode k = 6 := by simp only [Fil.shCode, if_pos hv, if_pos hk, if_neg h6]
        have hf : x.shF k = ⟨[], []⟩ := by unfold Fil.shF; rw [if_neg (by omega)]
        rw [hc, hf]
        refine gK.go ?_
        simp -implicitDefEqProofs [cu, cw, su, sw, lu, lw, gA, gB, sA, sB, h6]
        exact Post.dropR (g := []) (fun i hi => by simp [dom]) (.base ⟨_, rfl, .nilsl, .nilsl, [], [], rfl, .nil, .nil, by simp [dom], rfl⟩)
    · have hc : x.shCode k = 2 := by simp only [Fil.shCode, if_pos hv, if_neg hk]
      have hf : x.shF k = ⟨[], []⟩ := by unfold Fil.shF; rw [if_neg (by omega)]
      have hk' : (decide (-1000 ≤ k) && decide (k ≤ 1000)) = false := by rw [Bool.eq_false_iff]; simpa using hk
      rw [hc, hf]
      refine Run2.of I 1000 ?_
      simp -implicitDefEqProofs
      intro b
      refine (validFil_s x _ hl).mono ?_
      rintro v h' ⟨rfl, rfl⟩
      refine gK.go ?_
      simp -implicitDefEqProofs [hv, hk']
      exact .drop b (.base ⟨_, rfl, .nilsl, .nilsl, [], [], rfl, .nil, .nil, by simp [dom], by simp [hdel]⟩)
  · have hc : x.shCode k = 1 := by simp only [Fil.shCode, if_neg hv]
    have hf : x.shF k = ⟨[], []⟩ := by unfold Fil.shF; rw [if_neg (by omega)]
    rw [hc, hf]
    refine Run2.of I 1000 ?_
    simp -implicitDefEqProofs
    intro b
    refine (validFil_s x _ hl).mono ?_
    rintro v h' ⟨rfl, rfl⟩
    refine gK.go ?_
    simp -implicitDefEqProofs [hv]
    exact .drop b (.base ⟨_, rfl, .nilsl, .nilsl, [], [], rfl, .nil, .nil, by simp [dom], by simp [hdel]⟩)
theorem shift_valid {x : Fil} (hv : x.valid) (k : Int) : (⟨x.rs, x.ts.map (· + k)⟩ : Fil).valid ↔ ∀ t ∈ x.ts, 0 ≤ t + k ∧ t + k ≤ 1000 := by
  constructor
  · intro h t ht
    exact h.2.1.2 (t + k) (List.mem_map.2 ⟨t, ht, rfl⟩)
  · intro h
    refine ⟨hv.1, ⟨by simpa using hv.2.1.1, fun t ht => ?_⟩, fun i hi f hf => ?_⟩
    · obtain ⟨s, hs, rfl⟩ := List.mem_map.1 ht
      exact h s hs
    · have h1 := hv.2.2 i hi f hf
      obtain ⟨j, hj, _, hx⟩ := ixS_mem ((hv.1.1 i hi).2.2 f hf)
      have htl := hv.2.1.1
      simp only at hi hx h1 ⊢
      rw [hx] at h1 ⊢
      simp only [Int.toNat_natCast] at h1 ⊢
      have e : ∀ m, m < x.rs.length → (x.ts.map (· + k)).getD m 0 = x.ts.getD m 0 + k := fun m hm => by
        have : m < x.ts.length := by omega
        simp [this]
      rw [e j hj, e i hi]
      omega
abbrev k29_o0 : List AJ := [.o ⟨(some 2), none, false, .box false 2 (.t 0), none⟩, .o ⟨(some 4), none, false, .alloc true 2 (.agg [.nilsl, .nilsl]), none⟩, .o ⟨(some 5), none, false, .mv (.c (.int .i64 0)), (some [1, 2, 4])⟩]
abbrev k29_o1 : List AJ := [.o ⟨(some 8), none, false, .call 53 [(.t 2)], none⟩, .o ⟨(some 9), none, false, .un .not (.t 8), (some [1, 2, 4, 9])⟩]
abbrev k29_o2 : List AJ := [.o ⟨(some 10), none, false, .build [.nilsl, .nilsl] [], none⟩, .o ⟨none, none, false, .store 2 (.t 4) (.t 10), none⟩, .o ⟨(some 5), none, false, .mv (.c (.int .i64 1)), (some [4, 5])⟩]
def k29_3 : ACode := .seq (.region k29_o2) .ret
def k29_4 : ACode := .cond (.t 9) k29_3 .skip
def k29_5 : ACode := .seq (.region k29_o1) k29_4
abbrev k29_o3 : List AJ := [.o ⟨(some 11), none, false, .mv (.t 1), none⟩, .o ⟨(some 12), none, false, .call 67 [(.t 11), (.c (.int .i64 (-1000))), (.c (.int .i64 1000))], none⟩, .o ⟨(some 13), none, false, .un .not (.t 12), (some [1, 2, 4, 13])⟩]
abbrev k29_o4 : List AJ := [.o ⟨(some 14), none, false, .build [.nilsl, .nilsl] [], none⟩, .o ⟨none, none, false, .store 2 (.t 4) (.t 14), none⟩, .o ⟨(some 5), none, false, .mv (.c (.int .i64 2)), (some [4, 5])⟩]
def k29_8 : ACode := .seq (.region k29_o4) .ret
def k29_9 : ACode := .cond (.t 13) k29_8 .skip
def k29_10 : ACode := .seq (.region k29_o3) k29_9
abbrev k29_o5 : List AJ := [.o ⟨(some 15), none, false, .call 68 [(.t 2)], none⟩, .v 6 2 (.agg [.nilsl, .nilsl]) [] (.t 15) (some [1, 4, 6])]
abbrev k29_o6 : List AJ := [.o ⟨(some 7), none, false, .mv (.c (.int .i64 0)), (some [1, 4, 6, 7])⟩]
abbrev k29_o7 : List AJ := [.o ⟨(some 16), none, false, .mv (.t 7), none⟩, .o ⟨(some 17), none, false, .fieldA 1 (.t 6), none⟩, .o ⟨(some 18), none, false, .load 1 false (.t 17), none⟩, .o ⟨(some 19), none, false, .len (.t 18), none⟩, .o ⟨(some 20), none, false, .bin .lss (.t 16) (.t 19), (some [1, 4, 6, 7, 20])⟩]
def k29_14 : ACode := .cond (.t 20) .skip (.exit 0)
def k29_15 : ACode := .seq (.region k29_o7) k29_14
abbrev k29_o8 : List AJ := [.o ⟨(some 23), none, false, .fieldA 1 (.t 6), none⟩, .o ⟨(some 24), none, false, .load 1 false (.t 23), none⟩, .o ⟨(some 25), none, false, .mv (.t 7), none⟩, .o ⟨(some 26), none, false, .idxA 1 (.t 24) (.t 25), none⟩, .o ⟨(some 27), none, false, .load 1 false (.t 26), none⟩, .o ⟨(some 28), none, false, .mv (.t 1), none⟩, .o ⟨(some 29), none, true, .bin .add (.t 27) (.t 28), none⟩, .o ⟨(some 30), none, false, .idxA 1 (.t 24) (.t 25), none⟩, .o ⟨none, none, false, .store 1 (.t 30) (.t 29), (some [1, 4, 6, 7])⟩]
abbrev k29_o9 : List AJ := [.o ⟨(some 31), none, false, .fieldA 1 (.t 6), none⟩, .o ⟨(some 32), none, false, .load 1 false (.t 31), none⟩, .o ⟨(some 33), none, false, .mv (.t 7), none⟩, .o ⟨(some 34), none, false, .idxA 1 (.t 32) (.t 33), none⟩, .o ⟨(some 35), none, false, .load 1 false (.t 34), none⟩, .o ⟨(some 36), none, false, .call 63 [(.t 35)], none⟩, .o ⟨(some 37), none, false, .un .not (.t 36), (some [1, 4, 6, 7, 37])⟩]
abbrev k29_o10 : List AJ := [.o ⟨(some 38), none, false, .build [.nilsl, .nilsl] [], none⟩, .o ⟨none, none, false, .store 2 (.t 4) (.t 38), none⟩, .o ⟨(some 5), none, false, .mv (.c (.int .i64 6)), (some [4, 5])⟩]
def k29_19 : ACode := .seq (.region k29_o10) .ret
def k29_20 : ACode := .cond (.t 37) k29_19 .skip
def k29_21 : ACode := .seq (.region k29_o9) k29_20
def k29_22 : ACode := .seq (.region k29_o8) k29_21
abbrev k29_o11 : List AJ := [.o ⟨(some 21), none, false, .mv (.t 7), none⟩, .o ⟨(some 22), none, true, .bin .add (.t 21) (.c (.int .i64 1)), none⟩, .o ⟨(some 7), none, false, .mv (.t 22), (some [1, 4, 6, 7])⟩]
def k29_24 : ACode := .region k29_o11
def k29_25 : ACode := .seq (.block 1 k29_22) k29_24
def k29_26 : ACode := .seq k29_15 k29_25
def k29_27 : ACode := .loop k29_26
def k29_28 : ACode := .block 0 k29_27
def k29_29 : ACode := .seq (.region k29_o6) k29_28
abbrev k29_o12 : List AJ := [.o ⟨(some 39), none, false, .load 2 true (.t 6), none⟩, .o ⟨none, none, false, .store 2 (.t 4) (.t 39), none⟩, .o ⟨(some 5), none, false, .mv (.c (.int .i64 0)), (some [4, 5])⟩]
def k29_31 : ACode := .seq (.region k29_o12) .ret
def k29_32 : ACode := .seq k29_29 k29_31
def k29_33 : ACode := .seq (.region k29_o5) k29_32
def k29_34 : ACode := .seq k29_10 k29_33
def k29_35 : ACode := .seq k29_5 k29_34
def k29_36 : ACode := .seq (.region k29_o0) k29_35
@[simp, simp ↓] theorem k29_3r : sR k29_3 k29_o2 .ret := yR rfl
@[simp, simp ↓] theorem k29_4r : rC k29_4 (.t 9) k29_3 .skip := zC rfl
@[simp, simp ↓] theorem k29_5r : sR k29_5 k29_o1 k29_4 := yR rfl
@[simp, simp ↓] theorem k29_8r : sR k29_8 k29_o4 .ret := yR rfl
@[simp, simp ↓] theorem k29_9r : rC k29_9 (.t 13) k29_8 .skip := zC rfl
@[simp, simp ↓] theorem k29_10r : sR k29_10 k29_o3 k29_9 := yR rfl
@[simp, simp ↓] theorem k29_14r : rC k29_14 (.t 20) .skip (.exit 0) := zC rfl
@[simp, simp ↓] theorem k29_15r : sR k29_15 k29_o7 k29_14 := yR rfl
@[simp, simp ↓] theorem k29_19r : sR k29_19 k29_o10 .ret := yR rfl
@[simp, simp ↓] theorem k29_20r : rC k29_20 (.t 37) k29_19 .skip := zC rfl
@[simp, simp ↓] theorem k29_21r : sR k29_21 k29_o9 k29_20 := yR rfl
@[simp, simp ↓] theorem k29_22r : sR k29_22 k29_o8 k29_21 := yR rfl
@[simp, simp ↓] theorem k29_24r : rR k29_24 k29_o11 := zR rfl
@[simp, simp ↓] theorem k29_25r : sB k29_25 1 k29_22 k29_24 := yB rfl
@[simp, simp ↓] theorem k29_26r : rS k29_26 k29_15 k29_25 := zS rfl
@[simp, simp ↓] theorem k29_27r : rL k29_27 k29_26 := zL rfl
@[simp, simp ↓] theorem k29_28r : rB k29_28 0 k29_27 := zB rfl
@[simp, simp ↓] theorem k29_29r : sR k29_29 k29_o6 k29_28 := yR rfl
@[simp, simp ↓] theorem k29_31r : sR k29_31 k29_o12 .ret := yR rfl
@[simp, simp ↓] theorem k29_32r : rS k29_32 k29_29 k29_31 := zS rfl
@[simp, simp ↓] theorem k29_33r : sR k29_33 k29_o5 k29_32 := yR rfl
@[simp, simp ↓] theorem k29_34r : rS k29_34 k29_10 k29_33 := zS rfl
@[simp, simp ↓] theorem k29_35r : rS k29_35 k29_5 k29_34 := zS rfl
@[simp, simp ↓] theorem k29_36r : sR k29_36 k29_o0 k29_35 := yR rfl
noncomputable abbrev k29_C : Orc → Cx := mkC Try.prog [4, 6] 29 40 [.cell 4 2 true, .tmp 5]
theorem k29_of : OfP Try.prog Try.f29 29 40 k29_C k29_36 := @ofP _ _ _ _ _ _ _ _ Try.func29 (by decide +kernel) rfl (by kernel_rfl) rfl (by kernel_rfl)
theorem specSh_c (x : Fil) (k : Int) (h : Heap) (hl : x.tot ≤ 1048576) : ACalls Try.prog 29 [x.av, .int .i64 k] h (fun v h' => v = .tup [(x.shF k).av, .int .i64 (x.shCode k)] ∧ h' = h) := by
  obtain ⟨hl1, hl2⟩ := x.lens hl
  refine k29_of rfl orcK1_p fun I => ?_
  by_cases hv : x.valid
  · by_cases hk : -1000 ≤ k ∧ k ≤ 1000
    · have hcp := fun h => l22Own_g x h hl hv
      refine Run2.of I 1000 ?_
      simp -implicitDefEqProofs [hl, hv, hk.1, hk.2]
      intro b hb
      refine (hcp _).monoN ?_
      rintro v h' ⟨u, hp, rfl, G, rfl⟩ nd
      have cu := G.cell
      have lu := G.len
      have su := stor_of cu
      have clu := cells_of cu
      refine gK.go ?_
      simp -implicitDefEqProofs [cu, lu, su, clu]
      have hsv := shift_valid hv k
      have done : ∀ (w : AV) (g : Heap), (∀ t ∈ x.ts, 0 ≤ t + k ∧ t + k ≤ 1000) → OwnL iv 1 w (x.ts.map (· + k)) g → b ∉ dom g → Post (fun v h' => v = .tup [.agg [.snap 1 ((x.shF k).rs.map il), .snap 1 ((x.shF k).ts.map iv)], .int .i64 (x.shCode k)] ∧ h' = h) (.tup [.agg [.snap 1 (x.rs.map il), w], .int .i64 0]) (g ++ ((b, ⟨2, [.agg [.snap 1 (x.rs.map il), w]]⟩) :: h)) := by
        intro w g hall o hb2
        have hc : x.shCode k = 0 := by simp only [Fil.shCode, if_pos hv, if_pos hk, if_pos (hsv.2 hall)]
        have hf : x.shF k = ⟨x.rs, x.ts.map (· + k)⟩ := by unfold Fil.shF; rw [if_pos hc]
        rw [hc, hf]
        refine Post.lend ?_
        rw [lend1_tup2, lend1_cold g (x := .int .i64 0) rfl, lend1_agg, lend1_cold g (x := .snap 1 (x.rs.map il)) (by simp [cold])]
        refine .drop b (.wk (Wk.tup (.cons (Wk.agg (.cons (.refl _) (.cons o.lent.wk .nil))) (.cons (.refl _) .nil))) (.base ⟨rfl, by simp [hdel]⟩))
      have bad : ∀ (g : Heap) (z : Blk), (∃ t ∈ x.ts, ¬ (0 ≤ t + k ∧ t + k ≤ 1000)) → b ∉ dom g → Post (fun v h' => v = .tup [.agg [.snap 1 ((x.shF k).rs.map il), .snap 1 ((x.shF k).ts.map iv)], .int .i64 (x.shCode k)] ∧ h' = h) (.tup [.agg [.nilsl, .nilsl], .int .i64 6]) (g ++ ((b, z) :: h)) := by
        rintro g z ⟨t, ht, hno⟩ hb2
        have hc : x.shCode k = 6 := by simp only [Fil.shCode, if_pos hv, if_pos hk, if_neg (fun h => hno (hsv.1 h t ht))]
        have hf : x.shF k = ⟨[], []⟩ := by unfold Fil.shF; rw [if_neg (by omega)]
        rw [hc, hf]
        refine Post.lend ?_
        rw [lend1_cold g (x := .tup [.agg [.nilsl, .nilsl], .int .i64 6]) rfl]
        exact .drop b (.wk (Wk.tup (.cons (Wk.agg (.cons (Wk.nil 1) (.cons (Wk.nil 1) .nil))) (.cons (.refl _) .nil))) (.base ⟨rfl, by simp [hdel]⟩))
      have hts := hv.2.1.2
      have og : OwnL iv 1 u x.ts hp := G.own
      rcases og.split with ⟨hw, hnil, rfl⟩ | ⟨id, cap, ex, rfl, rfl, hex⟩
      · have := done u [] (by rw [hnil]; simp) (by rw [hnil]; exact hw.elim (fun e => e ▸ OwnL.nil) (fun e => e ▸ OwnL.emp)) (by simp [dom])
        have hll : lenR u = .val (.int .i64 0) := by rcases hw with rfl | rfl <;> simp
        refine Run2.loopE (fun (_ : Unit) => [(1, .int .i64 k), (4, .ptr b 2 0 0), (6, .ip [.snap 1 (x.rs.map il), u]), (7, .int .i64 0)]) (fun _ => [] ++ ((b, ⟨2, [.agg [.nilsl, .nilsl]]⟩) :: h)) (fun _ => 0) (fun _ => True) () (by simp) rfl trivial fun _ _ _ => ?_
        refine Run2.of I 1000 ?_
        simp -implicitDefEqProofs [hll, cu, su, clu]
        simpa using this
      · have hidb : ¬ id = b := fun e => by simp [dom, e] at nd
        refine Run2.loopE (fun (i : Nat) => [(1, .int .i64 k), (4, .ptr b 2 0 0), (6, .ip [.snap 1 (x.rs.map il), .sl id 1 0 x.ts.length cap]), (7, .int .i64 i)]) (fun i => [(id, ⟨1, (inpl x.ts (x.ts.map (· + k)) i).map iv ++ ex⟩)] ++ ((b, ⟨2, [.agg [.nilsl, .nilsl]]⟩) :: h)) (fun i => x.ts.length - i) (fun i => i ≤ x.ts.length ∧ ∀ j (hj : j < x.ts.length), j < i → 0 ≤ x.ts[j] + k ∧ x.ts[j] + k ≤ 1000) 0 (by simp) (by simp) ⟨Nat.zero_le _, fun _ _ h => by omega⟩ fun i hi ih => ?_
        have hil := inpl_len (l := x.ts) (l' := x.ts.map (· + k)) (v := i) (by simp)
        by_cases hlt : i < x.ts.length
        · have go := fun (h1 : 0 ≤ x.ts[i] + k ∧ x.ts[i] + k ≤ 1000) => ih (i + 1) ⟨hlt, fun j hj hji => by
            rcases Nat.lt_or_ge j i with h | h
            · exact hi.2 j hj h
            · obtain rfl : j = i := by omega
              exact h1⟩ (by omega)
          have ht := hts _ (List.getElem_mem hlt)
          have hlF : i < (inpl x.ts (x.ts.map (· + k)) i).length := by omega
          have hg := inpl_get (l := x.ts) (l' := x.ts.map (· + k)) (v := i) (by simp) hlt hlF
          have hsx := inpl_set (l := x.ts) (l' := x.ts.map (· + k)) (v := i) (by simp) hlt
          clear ih
          simp only [List.getElem_map] at hsx
          rw [← hsx] at go
          generalize inpl x.ts (x.ts.map (· + k)) i = F at *
          have hge : (List.map iv F ++ ex)[i]? = some (.int .i64 x.ts[i]) := by rw [List.getElem?_append_left (by simpa using hlF)]; simp [hlF, hg]
          have hlF2 : i < F.length + ex.length := by omega
          have hse : ∀ z : Int, ((List.map iv F).set i (.int .i64 z) ++ ex)[i]? = some (.int .i64 z) := fun z => by
            rw [List.getElem?_append_left (by simpa using hlF)]; simp [hlF]
          refine Run2.of I 1000 ?_
          by_cases h1 : 0 ≤ x.ts[i] + k ∧ x.ts[i] + k ≤ 1000
          · have h1' : (decide (0 ≤ x.ts[i] + k) && decide (x.ts[i] + k ≤ 1000)) = true := by simpa using h1
            have go := go h1
            simp -implicitDefEqProofs [hlt, hlF, hg, hge, hlF2, hse, h1']
            rw [show (List.map iv F).set i (AV.int .i64 (x.ts[i] + k)) = (F.set i (x.ts[i] + k)).map iv by rw [List.map_set]; rfl]
            refine ⟨by omega, by omega, by simpa using go⟩
          · have h1' : (decide (0 ≤ x.ts[i] + k) && decide (x.ts[i] + k ≤ 1000)) = false := by rw [Bool.eq_false_iff]; simpa using h1
            simp -implicitDefEqProofs [hlt, hlF, hg, hge, hlF2, hse, h1', hidb, Ne.symm hidb]
            refine ⟨by omega, ?_⟩
            exact bad [(id, _)] _ ⟨_, List.getElem_mem hlt, h1⟩ (by simp [dom, Ne.symm hidb])
        · obtain rfl : i = x.ts.length := by omega
          rw [inpl_end (by simp)]
          have := done (.sl id 1 0 x.ts.length cap) [(id, ⟨1, (x.ts.map (· + k)).map iv ++ ex⟩)] (fun t ht => by
            obtain ⟨j, hj, rfl⟩ := List.mem_iff_getElem.1 ht
            exact hi.2 j hj hj) (by have := OwnL.sl (enc := iv) (sz := 1) (l := x.ts.map (· + k)) id cap ex hex; simpa using this) (by simp [dom, Ne.symm hidb])
          refine Run2.of I 1000 ?_
          simp -implicitDefEqProofs [hlt, hidb, Ne.symm hidb]
          simpa using this
    · have hc : x.shCode k = 2 := by simp only [Fil.shCode, if_pos hv, if_neg hk]
      have hf : x.shF k = ⟨[], []⟩ := by unfold Fil.shF; rw [if_neg (by omega)]
      have hk' : (decide (-1000 ≤ k) && decide (k ≤ 1000)) = false := by rw [Bool.eq_false_iff]; simpa using hk
      rw [hc, hf]
      refine Run2.of I 1000 ?_
      simp -implicitDefEqProofs [hl, hv, hk']
      intro b hb
      exact .drop b (.wk (Wk.tup (.cons (Wk.agg (.cons (Wk.nil 1) (.cons (Wk.nil 1) .nil))) (.cons (.refl _) .nil))) (.base ⟨rfl, by simp [hdel]⟩))
  · have hc : x.shCode k = 1 := by simp only [Fil.shCode, if_neg hv]
    have hf : x.shF k = ⟨[], []⟩ := by unfold Fil.shF; rw [if_neg (by omega)]
    rw [hc, hf]
    refine Run2.of I 1000 ?_
    simp -implicitDefEqProofs [hl, hv]
    intro b hb
    exact .drop b (.wk (Wk.tup (.cons (Wk.agg (.cons (Wk.nil 1) (.cons (Wk.nil 1) .nil))) (.cons (.refl _) .nil))) (.base ⟨rfl, by simp [hdel]⟩))
theorem Fil.shF_tot (x : Fil) (k : Int) : (x.shF k).tot ≤ x.tot := by
  unfold Fil.shF
  split
  · simp [Fil.tot]
  · simp [Fil.tot, ssTot, sumL]
end Go.AG
