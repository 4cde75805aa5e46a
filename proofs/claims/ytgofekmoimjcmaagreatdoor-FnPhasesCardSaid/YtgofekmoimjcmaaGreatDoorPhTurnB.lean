/- Graphs whose differences are turned: what the program's and the reference's functions give. No statement is made here. -/
import Derived.Test.YtgofekmoimjcmaaGreatDoorPhC
namespace Go.AG.P
open Go.Proofs Go.Proofs.YtgofekmoimjcmaaGreatDoor
set_option linter.unusedSimpArgs false
set_option linter.unusedVariables false
set_option maxRecDepth 4000
def Ph.turn1 (x : Ph) (p : List Int) (t : T) : T := ⟨t.f, t.t, (t.s + p.getD t.t.toNat 0 - p.getD t.f.toNat 0) % x.m⟩
abbrev k25_o0 : List AJ := [.o ⟨(some 4), none, false, .mv (.c (.int .i64 0)), (some [0, 1])⟩]
abbrev k25_o1 : List AJ := [.o ⟨(some 5), none, false, .mv (.t 0), none⟩, .o ⟨(some 6), none, false, .mv (.t 1), none⟩, .o ⟨(some 7), none, false, .bin .rem (.t 5) (.t 6), none⟩, .o ⟨(some 8), none, false, .mv (.t 1), none⟩, .o ⟨(some 9), none, true, .bin .add (.t 7) (.t 8), none⟩, .o ⟨(some 10), none, false, .mv (.t 1), none⟩, .o ⟨(some 11), none, false, .bin .rem (.t 9) (.t 10), none⟩, .o ⟨(some 4), none, false, .mv (.t 11), (some [4])⟩]
def k25_2 : ACode := .seq (.region k25_o1) .ret
def k25_3 : ACode := .seq (.region k25_o0) k25_2
@[simp, simp ↓] theorem k25_2r : sR k25_2 k25_o1 .ret := yR rfl
@[simp, simp ↓] theorem k25_3r : sR k25_3 k25_o0 k25_2 := yR rfl
noncomputable abbrev k25_C : Orc → Cx := mkC Tryz.prog [] 25 12 [.tmp 4]
theorem k25_of0 : OfP0 Tryz.prog Tryz.f25 25 12 k25_C k25_3 := @ofP0 _ _ _ _ _ _ _ _ Tryz.func25 (by decide +kernel) rfl (by kernel_rfl) rfl (by kernel_rfl)
theorem reduce_c (n p : Int) (h : Heap) (hp : 0 < p ∧ p ≤ 1073741824) : ACalls Tryz.prog 25 [.int .i64 n, .int .i64 p] h (fun v h' => v = .int .i64 (n % p) ∧ h' = h) := by
  have h1 := Int.tmod_lt_of_pos n hp.1
  have h2 := Int.tmod_lt_of_pos (-n) hp.1
  rw [Int.neg_tmod] at h2
  refine k25_of0 rfl noPure fun I => ?_
  refine Run2.of I 1000 ?_
  simp -implicitDefEqProofs [mod_go hp.1]
  omega
noncomputable def o_reduce : List AV → Option (Prop × AV) := tab (fun (x : Int × Int) => match x with | (n, p) => [.int .i64 n, .int .i64 p]) (fun x => match x with | (n, p) => (0 < p ∧ p ≤ 1073741824)) (fun x => match x with | (n, p) => .int .i64 (n % p))
@[simp] theorem o_reduce_e (n : Int) (p : Int) : o_reduce [.int .i64 n, .int .i64 p] = some ((0 < p ∧ p ≤ 1073741824), .int .i64 (n % p)) := tab_at (enc := fun (x : Int × Int) => match x with | (n, p) => [.int .i64 n, .int .i64 p]) (fun x y h => by
  obtain ⟨n1, p1⟩ := x; obtain ⟨n2, p2⟩ := y; simp at h; simp [h] <;> omega) _ _ (n, p)
theorem o_reduce_k : Knows Tryz.prog 25 o_reduce := tab_knows fun x hx h => by
  obtain ⟨n, p⟩ := x; exact reduce_c n p h hx
noncomputable def orcT : List (Nat × (List AV → Option (Prop × AV))) := (25, o_reduce) :: orcF
theorem orcT_p : Pure Tryz.prog (lk orcT) := (lk_pure o_reduce_k orcF_p)
@[simp] theorem orcT_l (b : Bool) (g : FuncId) (l : List AV) : lk orcT b g l = if g = 25 then o_reduce l else lk orcF b g l := nr rfl
abbrev k8_o0 : List AJ := [.o ⟨(some 2), none, false, .box false 3 (.t 0), none⟩, .o ⟨(some 4), none, false, .alloc true 3 (.agg [(.int .i64 0), (.int .i64 0), .nilsl]), none⟩, .o ⟨(some 5), none, false, .mv (.c (.int .i64 0)), (some [1, 2, 4])⟩]
abbrev k8_o1 : List AJ := [.o ⟨(some 9), none, false, .load 3 true (.t 2), none⟩, .o ⟨(some 10), none, false, .call 21 [(.t 9)], none⟩, .o ⟨(some 11), none, false, .un .not (.t 10), (some [1, 2, 4, 11])⟩]
abbrev k8_o2 : List AJ := [.o ⟨(some 12), none, false, .build [(.int .i64 0), (.int .i64 0), .nilsl] [], none⟩, .o ⟨none, none, false, .store 3 (.t 4) (.t 12), none⟩, .o ⟨(some 5), none, false, .mv (.c (.int .i64 1)), (some [4, 5])⟩]
def k8_3 : ACode := .seq (.region k8_o2) .ret
def k8_4 : ACode := .cond (.t 11) k8_3 .skip
def k8_5 : ACode := .seq (.region k8_o1) k8_4
abbrev k8_o3 : List AJ := [.o ⟨(some 13), none, false, .load 3 true (.t 2), none⟩, .o ⟨(some 14), none, false, .mv (.t 1), none⟩, .o ⟨(some 15), none, false, .call 24 [(.t 13), (.t 14)], none⟩, .o ⟨(some 16), none, false, .un .not (.t 15), (some [1, 2, 4, 16])⟩]
abbrev k8_o4 : List AJ := [.o ⟨(some 17), none, false, .build [(.int .i64 0), (.int .i64 0), .nilsl] [], none⟩, .o ⟨none, none, false, .store 3 (.t 4) (.t 17), none⟩, .o ⟨(some 5), none, false, .mv (.c (.int .i64 7)), (some [4, 5])⟩]
def k8_8 : ACode := .seq (.region k8_o4) .ret
def k8_9 : ACode := .cond (.t 16) k8_8 .skip
def k8_10 : ACode := .seq (.region k8_o3) k8_9
abbrev k8_o5 : List AJ := [.o ⟨(some 18), none, false, .fieldA 0 (.t 2), none⟩, .o ⟨(some 19), none, false, .load 1 false (.t 18), none⟩, .o ⟨(some 20), none, false, .fieldA 1 (.t 2), none⟩, .o ⟨(some 21), none, false, .load 1 false (.t 20), none⟩, .o ⟨(some 22), none, false, .build [(.int .i64 0), (.int .i64 0), .nilsl] [(0, 1, (.t 19)), (1, 1, (.t 21))], none⟩, .o ⟨(some 6), none, false, .alloc true 3 (.agg [(.int .i64 0), (.int .i64 0), .nilsl]), none⟩, .o ⟨none, none, false, .store 3 (.t 6) (.t 22), (some [1, 2, 4, 6])⟩]
abbrev k8_o6 : List AJ := [.o ⟨(some 23), none, false, .fieldA 2 (.t 2), none⟩, .o ⟨(some 24), none, false, .load 1 false (.t 23), none⟩, .o ⟨(some 25), none, false, .len (.t 24), none⟩, .o ⟨(some 26), none, false, .mv (.c (.int .i64 0)), (some [1, 2, 4, 6, 24, 25, 26])⟩]
abbrev k8_o7 : List AJ := [.o ⟨(some 27), none, false, .bin .lss (.t 26) (.t 25), (some [1, 2, 4, 6, 24, 25, 26, 27])⟩]
abbrev k8_o8 : List AJ := [.o ⟨(some 28), none, false, .idxA 3 (.t 24) (.t 26), none⟩, .o ⟨(some 29), none, false, .load 3 true (.t 28), none⟩, .o ⟨(some 8), none, false, .alloc true 3 (.agg [(.int .i64 0), (.int .i64 0), (.int .i64 0)]), none⟩, .o ⟨none, none, false, .store 3 (.t 8) (.t 29), (some [1, 2, 4, 6, 8, 24, 25, 26])⟩]
abbrev k8_o9 : List AI := [⟨(some 30), none, false, .fieldA 2 (.t 8), none⟩, ⟨(some 31), none, false, .load 1 false (.t 30), none⟩, ⟨(some 32), none, false, .mv (.t 1), none⟩, ⟨(some 33), none, false, .fieldA 1 (.t 8), none⟩, ⟨(some 34), none, false, .load 1 false (.t 33), none⟩, ⟨(some 35), none, false, .idxA 1 (.t 32) (.t 34), none⟩, ⟨(some 36), none, false, .load 1 false (.t 35), none⟩, ⟨(some 37), none, true, .bin .add (.t 31) (.t 36), none⟩, ⟨(some 38), none, false, .mv (.t 1), none⟩, ⟨(some 39), none, false, .fieldA 0 (.t 8), none⟩, ⟨(some 40), none, false, .load 1 false (.t 39), none⟩, ⟨(some 41), none, false, .idxA 1 (.t 38) (.t 40), none⟩, ⟨(some 42), none, false, .load 1 false (.t 41), none⟩, ⟨(some 43), none, true, .bin .sub (.t 37) (.t 42), (some [1, 2, 4, 6, 8, 24, 25, 26, 43])⟩, ⟨(some 44), none, false, .fieldA 1 (.t 2), none⟩, ⟨(some 45), none, false, .load 1 false (.t 44), none⟩, ⟨(some 46), none, false, .call 25 [(.t 43), (.t 45)], none⟩, ⟨(some 47), none, false, .fieldA 2 (.t 8), (some [1, 2, 4, 6, 8, 24, 25, 26, 46, 47])⟩]
abbrev k8_o10 : List AJ := [.o ⟨none, none, false, .store 1 (.t 47) (.t 46), (some [1, 2, 4, 6, 8, 24, 25, 26])⟩]
abbrev k8_o11 : List AJ := [.o ⟨(some 48), none, false, .fieldA 2 (.t 6), none⟩, .o ⟨(some 49), none, false, .load 1 false (.t 48), none⟩, .o ⟨(some 50), none, false, .load 3 true (.t 8), none⟩, .o ⟨(some 51), none, false, .bsl false 3 [(.t 50)], none⟩, .o ⟨(some 52), none, false, .append 3 24 (.t 49) (.t 51), none⟩, .o ⟨(some 53), none, false, .fieldA 2 (.t 6), none⟩, .o ⟨none, none, false, .store 1 (.t 53) (.t 52), (some [1, 2, 4, 6, 24, 25, 26])⟩]
def k8_17 : ACode := .region k8_o11
def k8_18 : ACode := .seq (.draw k8_o9 k8_o10 rfl) k8_17
def k8_19 : ACode := .seq (.region k8_o8) k8_18
abbrev k8_o12 : List AJ := [.o ⟨(some 54), none, true, .bin .add (.t 26) (.c (.int .i64 1)), none⟩, .o ⟨(some 26), none, false, .mv (.t 54), (some [1, 2, 4, 6, 24, 25, 26])⟩]
def k8_21 : ACode := .region k8_o12
def k8_22 : ACode := .seq (.block 1 k8_19) k8_21
def k8_23 : ACode := .seq (.cond (.t 27) .skip (.exit 0)) k8_22
def k8_24 : ACode := .seq (.region k8_o7) k8_23
def k8_25 : ACode := .loop k8_24
def k8_26 : ACode := .block 0 k8_25
def k8_27 : ACode := .seq (.region k8_o6) k8_26
abbrev k8_o13 : List AJ := [.o ⟨(some 55), none, false, .load 3 true (.t 6), none⟩, .o ⟨none, none, false, .store 3 (.t 4) (.t 55), none⟩, .o ⟨(some 5), none, false, .mv (.c (.int .i64 0)), (some [4, 5])⟩]
def k8_29 : ACode := .seq (.region k8_o13) .ret
def k8_30 : ACode := .seq k8_27 k8_29
def k8_31 : ACode := .seq (.region k8_o5) k8_30
def k8_32 : ACode := .seq k8_10 k8_31
def k8_33 : ACode := .seq k8_5 k8_32
def k8_34 : ACode := .seq (.region k8_o0) k8_33
@[simp, simp ↓] theorem k8_3r : sR k8_3 k8_o2 .ret := yR rfl
@[simp, simp ↓] theorem k8_4r : rC k8_4 (.t 11) k8_3 .skip := zC rfl
@[simp, simp ↓] theorem k8_5r : sR k8_5 k8_o1 k8_4 := yR rfl
@[simp, simp ↓] theorem k8_8r : sR k8_8 k8_o4 .ret := yR rfl
@[simp, simp ↓] theorem k8_9r : rC k8_9 (.t 16) k8_8 .skip := zC rfl
@[simp, simp ↓] theorem k8_10r : sR k8_10 k8_o3 k8_9 := yR rfl
@[simp, simp ↓] theorem k8_17r : rR k8_17 k8_o11 := zR rfl
@[simp, simp ↓] theorem k8_18r : sD k8_18 k8_o9 k8_o10 k8_17 := yD rfl
@[simp, simp ↓] theorem k8_19r : sR k8_19 k8_o8 k8_18 := yR rfl
@[simp, simp ↓] theorem k8_21r : rR k8_21 k8_o12 := zR rfl
@[simp, simp ↓] theorem k8_22r : sB k8_22 1 k8_19 k8_21 := yB rfl
@[simp, simp ↓] theorem k8_23r : sC k8_23 (.t 27) .skip (.exit 0) k8_22 := yC rfl
@[simp, simp ↓] theorem k8_24r : sR k8_24 k8_o7 k8_23 := yR rfl
@[simp, simp ↓] theorem k8_25r : rL k8_25 k8_24 := zL rfl
@[simp, simp ↓] theorem k8_26r : rB k8_26 0 k8_25 := zB rfl
@[simp, simp ↓] theorem k8_27r : sR k8_27 k8_o6 k8_26 := yR rfl
@[simp, simp ↓] theorem k8_29r : sR k8_29 k8_o13 .ret := yR rfl
@[simp, simp ↓] theorem k8_30r : rS k8_30 k8_27 k8_29 := zS rfl
@[simp, simp ↓] theorem k8_31r : sR k8_31 k8_o5 k8_30 := yR rfl
@[simp, simp ↓] theorem k8_32r : rS k8_32 k8_10 k8_31 := zS rfl
@[simp, simp ↓] theorem k8_33r : rS k8_33 k8_5 k8_32 := zS rfl
@[simp, simp ↓] theorem k8_34r : sR k8_34 k8_o0 k8_33 := yR rfl
noncomputable abbrev k8_C : Orc → Cx := mkC Tryz.prog [4, 6, 8] 8 56 [.cell 4 3 true, .tmp 5]
theorem k8_of : OfP Tryz.prog Tryz.f8 8 56 k8_C k8_34 := @ofP _ _ _ _ _ _ _ _ Tryz.func8 (by decide +kernel) rfl (by kernel_rfl) rfl (by kernel_rfl)
noncomputable def Ph.turned (x : Ph) (p : List Int) : Ph := if x.valid ∧ vec p x.n x.m then ⟨x.n, x.m, x.ts.map (x.turn1 p)⟩ else ⟨0, 0, []⟩
theorem implTurn_o (x : Ph) (p : List Int) (ok : x.ok) (hl : x.ts.length ≤ 1048576) (hp : p.length ≤ 1048576) : ACalls Tryz.prog 8 [x.av, .snap 1 (p.map iv)] [] (fun v h' => ∃ w, v = .tup [w, .int .i64 (x.ecode p)] ∧ OwnPh w (x.turned p) h') := by
  refine k8_of rfl orcT_p fun I => ?_
  refine Run2.of I 1000 ?_
  simp -implicitDefEqProofs [ok, hl, hp]
  intro a
  refine ⟨fun hv => ?_, fun hv => ⟨Ph.valid_m hv, fun h2 => ?_, fun h2 b hb => ?_⟩⟩
  · refine .drop a (.base ?_)
    simp
    exact ⟨_, ⟨rfl, by simp [Ph.ecode, hv]⟩, _, by simp [Ph.turned, hv]; rfl, by simp [Ph.turned, hv]; exact .nil⟩
  · refine .drop a (.base ?_)
    simp
    exact ⟨_, ⟨rfl, by simp [Ph.ecode, hv, h2]⟩, _, by simp [Ph.turned, h2]; rfl, by simp [Ph.turned, h2]; exact .nil⟩
  have hm1 := hv.2.2.1
  have hm2 := hv.2.2.2.1
  have hl := hv.2.2.2.2.2
  refine gK.go ?_
  simp -implicitDefEqProofs [hb]
  refine Run2.loopE (α := Nat × AV × Heap) (fun s => [(1, .snap 1 (p.map iv)), (2, .ip [.int .i64 x.n, .int .i64 x.m, .snap 3 (x.ts.map T.av)]), (4, .ptr a 3 0 0), (6, .ptr b 3 0 0), (24, .snap 3 (x.ts.map T.av)), (25, .int .i64 x.ts.length), (26, .int .i64 (s.1 : Nat))])
    (fun s => s.2.2 ++ [(b, ⟨3, [.agg [.int .i64 x.n, .int .i64 x.m, s.2.1]]⟩), (a, ⟨3, [.agg [.int .i64 0, .int .i64 0, .nilsl]]⟩)]) (fun s => x.ts.length - s.1) (fun s => s.1 ≤ x.ts.length ∧ Grow 3 s.2.1 (((x.ts.map (x.turn1 p)).take s.1).map T.av) s.2.2 ∧ b ∉ dom s.2.2 ∧ a ∉ dom s.2.2) (0, .nilsl, []) (by simp) rfl ⟨Nat.zero_le _, by simpa using Grow.nil, by simp [dom], by simp [dom]⟩ ?_
  rintro ⟨i, w, hp'⟩ ⟨hi, hg, hpb, hpa⟩ ih
  simp only at hi hg hpb hpa ih ⊢
  have hcw := hg.cell
  by_cases hlt : i < x.ts.length
  · obtain ⟨h1', h2', e1, e2, e3, e4, e5, e6, _⟩ := Ph.ends hv h2 hlt
    have htk : (x.ts.map (x.turn1 p)).take (i + 1) = (x.ts.map (x.turn1 p)).take i ++ [x.turn1 p x.ts[i]] := by
      rw [List.take_succ_eq_append_getElem (by simpa using hlt)]; simp
    have ht1 : x.turn1 p x.ts[i] = ⟨x.ts[i].f, x.ts[i].t, (x.ts[i].s + p[x.ts[i].t.toNat] - p[x.ts[i].f.toNat]) % x.m⟩ := by
      simp [Ph.turn1, h1', h2']
    have go := fun w' hp'' hg' hb' ha' => ih (i + 1, w', hp'') ⟨by simp; omega, hg', hb', ha'⟩ (by simp; omega)
    clear ih
    refine Run2.of I 1000 ?_
    simp -implicitDefEqProofs [hlt, h1', h2', e1, e2]
    intro c hc hcb hca
    refine gK.go ?_
    simp -implicitDefEqProofs [hlt, h1', h2', e1, e2, hc, hcb, hca, hget_app hpb, hget_app hpa]
    refine ⟨by omega, by omega, by omega, ?_⟩
    refine Grow.app_mid (pre := [(c, _)]) hg (fun j hj => by simp [dom]; rintro rfl; exact hc hj) (by simp; omega) (by simp) fun w' hp2 hg' hf => ?_
    have hfc : c ∉ dom hp2 := fun h => hf c h (by simp [dom])
    have hfb : b ∉ dom hp2 := fun h => hf b h (by simp [dom])
    have hfa : a ∉ dom hp2 := fun h => hf a h (by simp [dom])
    simp -implicitDefEqProofs [hcb, hcw, hg'.cell, cells_of hg'.cell, stor_of hg'.cell, hget_app hfb, hset_app hfb]
    refine ⟨by omega, Run2.sub (h' := hp2 ++ [(b, ⟨3, [.agg [.int .i64 x.n, .int .i64 x.m, w']]⟩), (a, ⟨3, [.agg [.int .i64 0, .int .i64 0, .nilsl]]⟩)]) ?_ ?_ ?_⟩
    · simp
      grind
    · simp [dom, List.nodup_append]
      grind
    · have := go w' hp2 (by simp only; rw [htk, ht1]; simpa using hg') hfb hfa
      simpa using this
  · obtain rfl : i = x.ts.length := by omega
    refine Run2.of I 1000 ?_
    simp -implicitDefEqProofs [hget_app hpb, hget_app hpa, hset_app hpa, hb, Ne.symm hb, hcw]
    refine .drop a (.drop b (.base ?_))
    rw [hdel_app hpa, hdel_app hpb]
    simp [hdel, hb]
    refine ⟨_, ⟨rfl, by simp [Ph.ecode, hv, h2]⟩, _, by simp [Ph.turned, hv, h2]; rfl, ?_⟩
    rw [List.take_of_length_le (by simp)] at hg
    simpa [Ph.turned, hv, h2] using hg.own

noncomputable def orcT2 : List (Nat × (List AV → Option (Prop × AV))) := orcC3
theorem orcT2_p : Pure Tryz.prog (lk orcT2) := orcC3_p
@[simp] theorem orcT2_l (b : Bool) (g : FuncId) (l : List AV) : lk orcT2 b g l = lk orcC3 b g l := nr rfl
/-- The edges whose numbers are not among these. -/
def lessTo (ts : List T) (w : List Int) (i : Nat) : List T := ((List.range i).filter fun (k : Nat) => !decide ((k : Int) ∈ w)).map fun k => ts.getD k default
theorem lessTo_succ (ts : List T) (w : List Int) {i : Nat} (hi : i < ts.length) : lessTo ts w (i + 1) = lessTo ts w i ++ if (i : Int) ∈ w then [] else [ts[i]] := by
  unfold lessTo
  rw [List.range_succ, List.filter_append, List.map_append]
  congr 1
  simp only [List.filter_cons, List.filter_nil]
  split <;> simp_all
theorem lessTo_len (ts : List T) (w : List Int) (i : Nat) : (lessTo ts w i).length ≤ i := by
  unfold lessTo
  rw [List.length_map]
  exact Nat.le_trans (List.length_filter_le _ _) (by simp)
def Ph.less (x : Ph) (w : List Int) : Ph := ⟨x.n, x.m, lessTo x.ts w x.ts.length⟩
theorem lessTo_all (ts : List T) : ∀ i, i ≤ ts.length → lessTo ts [] i = ts.take i
  | 0, _ => rfl
  | i + 1, h => by rw [lessTo_succ ts [] (by omega), lessTo_all ts i (by omega), List.take_succ_eq_append_getElem (by omega)]; simp
theorem Ph.less_nil (x : Ph) : x.less [] = x := by
  unfold Ph.less
  rw [lessTo_all _ _ (Nat.le_refl _), List.take_length]
end Go.AG.P
