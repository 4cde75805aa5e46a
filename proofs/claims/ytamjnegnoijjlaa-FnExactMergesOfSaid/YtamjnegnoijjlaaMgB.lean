/- Merges of parts: what the program's helpers give. No statement is made here. -/
import Derived.Test.YtamjnegnoijjlaaSoI
import Derived.Test.YtamjnegnoijjlaaFxPd
namespace Go.AG
open Go.Proofs Go.Proofs.Ytamjnegnoijjlaa
set_option linter.unusedSimpArgs false
set_option linter.unusedVariables false
set_option maxRecDepth 4000
/-- The later of two elders gives way to the other. -/
def lat (born : Int → Int) (a b : Int) : Int := if born a < born b ∨ born a = born b ∧ a < b then b else a
def oth (born : Int → Int) (a b : Int) : Int := if born a < born b ∨ born a = born b ∧ a < b then a else b
def rep1 (L : Int → Int) (x y : Int) : Int → Int := fun v => if L v = x then y else L v
def mgL (born : Int → Int) (e : Int × Int) (L : Int → Int) : Int → Int := if L e.1 = L e.2 then L else rep1 L (lat born (L e.1) (L e.2)) (oth born (L e.1) (L e.2))
def mgR (born : Int → Int) (t : Int) (e : Int × Int) (L : Int → Int) : List (List Int) := if L e.1 = L e.2 then [] else [[t, lat born (L e.1) (L e.2), oth born (L e.1) (L e.2)]]
def bornF (rs : List (List Int)) (ts : List Int) (v : Int) : Int := keyT ts (ixS rs [v])
def mg1 (rs : List (List Int)) (ts : List Int) (st : (Int → Int) × List (List Int)) (k : Int) : (Int → Int) × List (List Int) := (mgL (bornF rs ts) (edge rs k.toNat) st.1, st.2 ++ mgR (bornF rs ts) (keyT ts k) (edge rs k.toNat) st.1)
def mgF (rs : List (List Int)) (ts : List Int) (ks : List Int) : (Int → Int) × List (List Int) := ks.foldl (mg1 rs ts) (_root_.id, [])
theorem mgF_snoc (rs : List (List Int)) (ts ks : List Int) (k : Int) : mgF rs ts (ks ++ [k]) = mg1 rs ts (mgF rs ts ks) k := by simp [mgF]
theorem mgF_take (rs : List (List Int)) (ts : List Int) {ks : List Int} {i : Nat} (hi : i < ks.length) : mgF rs ts (ks.take (i + 1)) = mg1 rs ts (mgF rs ts (ks.take i)) ks[i] := by
  rw [List.take_succ_eq_append_getElem hi, mgF_snoc]
theorem mgF_len (rs : List (List Int)) (ts : List Int) : ∀ (ks : List Int) (st : (Int → Int) × List (List Int)), (ks.foldl (mg1 rs ts) st).2.length ≤ st.2.length + ks.length ∧ sumL (ks.foldl (mg1 rs ts) st).2 ≤ sumL st.2 + 3 * ks.length := by
  intro ks
  induction ks with
  | nil => intro st; simp
  | cons k ks ih =>
    intro st
    obtain ⟨h1, h2⟩ := ih (mg1 rs ts st k)
    have h3 : (mg1 rs ts st k).2.length ≤ st.2.length + 1 ∧ sumL (mg1 rs ts st k).2 ≤ sumL st.2 + 3 := by
      simp only [mg1, mgR]
      split
      · simp
      · simp [sumL]
    simp only [List.foldl_cons, List.length_cons]
    omega
theorem mgF_tot (rs : List (List Int)) (ts ks : List Int) : ssTot (mgF rs ts ks).2 ≤ 4 * ks.length := by
  obtain ⟨h1, h2⟩ := mgF_len rs ts ks (_root_.id, [])
  unfold ssTot mgF
  simp [sumL] at h1 h2 ⊢
  omega
theorem lat_or (born : Int → Int) (a b : Int) : (lat born a b = a ∧ oth born a b = b) ∨ (lat born a b = b ∧ oth born a b = a) := by
  unfold lat oth
  split <;> simp
theorem mgL_in {born : Int → Int} {e : Int × Int} {L : Int → Int} {vs : List Int} (h : ∀ v ∈ vs, L v ∈ vs) (h1 : e.1 ∈ vs) (h2 : e.2 ∈ vs) : ∀ v ∈ vs, mgL born e L v ∈ vs := by
  intro v hv
  unfold mgL
  split
  · exact h v hv
  · show (if L v = _ then _ else _) ∈ vs
    split
    · rcases lat_or born (L e.1) (L e.2) with ⟨_, q⟩ | ⟨_, q⟩ <;> rw [q]
      · exact h _ h2
      · exact h _ h1
    · exact h v hv
theorem mgF_in {rs : List (List Int)} (ts : List Int) (hc : cxOk rs) : ∀ (ks : List Int) (st : (Int → Int) × List (List Int)), (∀ k ∈ ks, k.toNat ∈ edD rs 1 rs.length) → (∀ v ∈ vt rs, st.1 v ∈ vt rs) → ∀ v ∈ vt rs, (ks.foldl (mg1 rs ts) st).1 v ∈ vt rs := by
  intro ks
  induction ks with
  | nil => intro st _ h; exact h
  | cons k ks ih =>
    intro st hk h
    obtain ⟨a, b, _, _, _, _, e, h1, h2⟩ := edge_at hc (hk k (List.mem_cons_self ..))
    refine ih _ (fun q hq => hk q (List.mem_cons_of_mem _ hq)) ?_
    simp only [mg1]
    refine mgL_in h ?_ ?_ <;> rw [e] <;> assumption
theorem born_vl {rs : List (List Int)} {ts : List Int} (hc : cxOk rs) (hts : ts.length = rs.length) {v : Int} (hv : v ∈ vt rs) : vl (vt rs) (ts.take (vt rs).length) v = bornF rs ts v := by
  obtain ⟨k, hk, e1, e2⟩ := vt_at hc hv
  have hvl := vt_len rs
  have hlen : (ts.take (vt rs).length).length = (vt rs).length := by rw [List.length_take]; omega
  obtain ⟨k', hk', hx, e3, e4, e5⟩ := vl_at hlen hv
  obtain rfl := nodup_ix (vt_nodup hc) hk hk' (by rw [e2, e4])
  rw [← e5]
  unfold bornF keyT
  rw [e1]
  simp
  rw [List.getElem?_eq_getElem (by omega)]
  rfl
theorem ord_filter (rs : List (List Int)) (key : Int → Int) : (ordL key rs.length).filter (fun k => decide (((rs.getD k.toNat []).length : Int) = 2)) = ordG key ((edD rs 1 rs.length).map fun k : Nat => (k : Int)) := by
  refine lt2_ext ((ordL_srt key rs.length).filter _) (ordG_srt key ?_) fun a => ?_
  · rw [List.pairwise_map]
    unfold edD
    refine List.Pairwise.imp (fun {a b} h => ?_) (List.Pairwise.filter _ List.pairwise_lt_range)
    omega
  · rw [(ordG_perm key _).mem_iff, List.mem_filter, ordL_mem, List.mem_map]
    unfold edD
    constructor
    · rintro ⟨⟨h1, h2⟩, h3⟩
      refine ⟨a.toNat, List.mem_filter.2 ⟨List.mem_range.2 (by omega), ?_⟩, by omega⟩
      simpa using h3
    · rintro ⟨k, hk, rfl⟩
      obtain ⟨h1, h2⟩ := List.mem_filter.1 hk
      have := List.mem_range.1 h1
      exact ⟨⟨by omega, by omega⟩, by simpa using h2⟩
theorem edI_rise (rs : List (List Int)) : ((edD rs 1 rs.length).map fun k : Nat => (k : Int)).Pairwise (· < ·) := by
  rw [List.pairwise_map]
  unfold edD
  exact List.Pairwise.imp (fun {a b} h => by omega) (List.Pairwise.filter _ List.pairwise_lt_range)
/-- The edges in the order in which they come. -/
def eOrd (rs : List (List Int)) (ts : List Int) : List Int := ordG (keyT ts) ((edD rs 1 rs.length).map fun k : Nat => (k : Int))
theorem eOrd_len (rs : List (List Int)) (ts : List Int) : (eOrd rs ts).length ≤ rs.length := by
  unfold eOrd
  rw [ordG_len, List.length_map]
  exact edD_len rs 1 rs.length
theorem eOrd_mem {rs : List (List Int)} {ts : List Int} {k : Int} (h : k ∈ eOrd rs ts) : ∃ n : Nat, k = n ∧ n ∈ edD rs 1 rs.length := by
  unfold eOrd at h
  rw [(ordG_perm _ _).mem_iff] at h
  obtain ⟨n, h1, rfl⟩ := List.mem_map.1 h
  exact ⟨n, rfl, h1⟩
noncomputable def Fil.mgs (x : Fil) : List (List Int) := if x.valid then (mgF x.rs x.ts (eOrd x.rs x.ts)).2 else []
theorem Fil.mgs_tot (x : Fil) : ssTot x.mgs ≤ 4 * x.rs.length := by
  unfold Fil.mgs
  split
  · have := mgF_tot x.rs x.ts (eOrd x.rs x.ts)
    have := eOrd_len x.rs x.ts
    omega
  · simp [ssTot, sumL]
@[simp] theorem o_indexOf_1 (rs : LS) (x : Int) : o_indexOf [.agg [.snap 1 (rs.map il)], .snap 1 [.int .i64 x]] = some (ssTot rs ≤ 1048576 ∧ sortS rs, .int .i64 (ixS rs [x])) := by simpa using o_indexOf_e rs [x]
noncomputable def orcMg0 : List (Nat × (List AV → Option (Prop × AV))) := (76, o_indexOf) :: []
theorem orcMg0_p : Pure Try.prog (lk orcMg0) := (lk_pure o_indexOf_k lk_pure0)
@[simp] theorem orcMg0_l (b : Bool) (g : FuncId) (l : List AV) : lk orcMg0 b g l = if g = 76 then o_indexOf l else none := nr rfl
abbrev k90_o0 : List AJ := [.o ⟨(some 3), none, false, .mv (.c (.int .i64 0)), (some [0, 1])⟩]
abbrev k90_o1 : List AI := [⟨(some 4), none, false, .fieldA 1 (.t 1), none⟩, ⟨(some 5), none, false, .load 1 false (.t 4), none⟩, ⟨(some 6), none, false, .fieldA 0 (.t 1), none⟩, ⟨(some 7), none, false, .load 1 true (.t 6), none⟩, ⟨(some 8), none, false, .mv (.t 0), none⟩, ⟨(some 9), none, false, .bsl false 1 [(.t 8)], none⟩, ⟨(some 10), none, false, .call 76 [(.t 7), (.t 9)], none⟩, ⟨(some 11), none, false, .idxA 1 (.t 5) (.t 10), none⟩, ⟨(some 12), none, false, .load 1 false (.t 11), none⟩, ⟨(some 3), none, false, .mv (.t 12), (some [3])⟩]
def k90_2 : ACode := .seq (.draw k90_o1 [] rfl) .ret
def k90_3 : ACode := .seq (.region k90_o0) k90_2
@[simp, simp ↓] theorem k90_2r : sD k90_2 k90_o1 [] .ret := yD rfl
@[simp, simp ↓] theorem k90_3r : sR k90_3 k90_o0 k90_2 := yR rfl
noncomputable abbrev k90_C : Orc → Cx := mkC Try.prog [] 90 13 [.tmp 3]
theorem k90_of0 : OfP0 Try.prog Try.f90 90 13 k90_C k90_3 := @ofP0 _ _ _ _ _ _ _ _ Try.func90 (by decide +kernel) rfl (by kernel_rfl) rfl (by kernel_rfl)
theorem born1_s (rs : List (List Int)) (ts : List Int) (v : Int) (h : Heap) (hl : ssTot rs ≤ 1048576) (hc : cxOk rs) (hts : ts.length = rs.length) (hv : v ∈ vt rs) : ACalls Try.prog 90 [.int .i64 v, .ip [.snap 1 (rs.map il), .snap 1 (ts.map iv)]] h (fun r h' => r = .int .i64 (bornF rs ts v) ∧ h' = h) := by
  obtain ⟨k, hk, e1, e2⟩ := vt_at hc hv
  have hvl := vt_len rs
  have hk2 : k < ts.length := by omega
  have hb : bornF rs ts v = ts[k] := by unfold bornF keyT; rw [e1]; simp [hk2]
  have hso := hc.sort
  refine k90_of0 rfl orcMg0_p fun I => ?_
  refine Run2.of I 1000 ?_
  simp -implicitDefEqProofs [hl, hso, e1, hk2, hb]
noncomputable def o_born1 : List AV → Option (Prop × AV) := tab (fun (x : LS × List Int × Int) => match x with | (rs, ts, v) => [.int .i64 v, .ip [.snap 1 (rs.map il), .snap 1 (ts.map iv)]]) (fun x => match x with | (rs, ts, v) => ((ssTot rs ≤ 1048576 ∧ cxOk rs) ∧ ts.length = rs.length ∧ v ∈ vt rs)) (fun x => match x with | (rs, ts, v) => .int .i64 (bornF rs ts v))
@[simp] theorem o_born1_e (rs : LS) (ts : List Int) (v : Int) : o_born1 [.int .i64 v, .ip [.snap 1 (rs.map il), .snap 1 (ts.map iv)]] = some (((ssTot rs ≤ 1048576 ∧ cxOk rs) ∧ ts.length = rs.length ∧ v ∈ vt rs), .int .i64 (bornF rs ts v)) := tab_at (enc := fun (x : LS × List Int × Int) => match x with | (rs, ts, v) => [.int .i64 v, .ip [.snap 1 (rs.map il), .snap 1 (ts.map iv)]]) (fun x y h => by
  obtain ⟨rs1, ts1, v1⟩ := x; obtain ⟨rs2, ts2, v2⟩ := y; simp at h; simp [h] <;> omega) _ _ (rs, ts, v)
theorem o_born1_k : Knows Try.prog 90 o_born1 := tab_knows fun x hx h => by
  obtain ⟨rs, ts, v⟩ := x; exact born1_s rs ts v h hx.1.1 hx.1.2 hx.2.1 hx.2.2
theorem comingE_o (x : Fil) (h : Heap) (hl : x.tot ≤ 1048576) (hn : x.ts.length ≤ 48) (hlen : x.ts.length = x.rs.length) : ACalls Try.prog 86 [x.av, .snap 1 ((edD x.rs 1 x.rs.length).map nvI)] h (fun v h' => v = .snap 1 ((eOrd x.rs x.ts).map iv) ∧ h' = h) := by
  have hed := edD_len x.rs 1 x.rs.length
  have hm : (edD x.rs 1 x.rs.length).map nvI = ((edD x.rs 1 x.rs.length).map fun k : Nat => (k : Int)).map iv := by simp [nvI]
  rw [hm]
  refine k86_of rfl noPure fun I => ?_
  have c0 := Clone_w ((edD x.rs 1 x.rs.length).map fun k : Nat => (k : Int)) h (by rw [List.length_map]; omega)
  have c1 := fun (v : AV) (hp : Heap) (G : Grow 1 v (((edD x.rs 1 x.rs.length).map fun k : Nat => (k : Int)).map iv) hp) => sortSt_g (h := h) (cm_ok x) (edI_rise x.rs) (by rw [List.length_map]; omega) (fun a ha => by
    obtain ⟨k, hk, rfl⟩ := List.mem_map.1 ha
    obtain ⟨h1, _⟩ := edD_mem hk
    exact ⟨by omega, by omega⟩) G
  rw [show ordG (keyT x.ts) ((edD x.rs 1 x.rs.length).map fun k : Nat => (k : Int)) = eOrd x.rs x.ts from rfl] at c1
  generalize (edD x.rs 1 x.rs.length).map (fun k : Nat => (k : Int)) = ks at *
  refine Run2.of I 1000 ?_
  simp -implicitDefEqProofs
  refine c0.mono ?_
  rintro v h' ⟨hp, G, rfl⟩
  have hcell := G.cell
  have hst := stor_of hcell
  have hcl := cells_of hcell
  refine gK.go ?_
  simp -implicitDefEqProofs [hcell, hst, hcl]
  refine (c1 v hp G).mono ?_
  rintro r h' ⟨rfl, hp', o, hd, rfl⟩
  refine gK.go ?_
  simp -implicitDefEqProofs [hcell]
  refine Post.lend ?_
  exact .wk o.lent.wk (.base ⟨rfl, rfl⟩)
noncomputable def o_comingE : List AV → Option (Prop × AV) := tab (fun (x : LS × List Int) => match x with | (rs, ts) => [.agg [.snap 1 (rs.map il), .snap 1 (ts.map iv)], .snap 1 ((edD rs 1 rs.length).map nvI)]) (fun x => match x with | (rs, ts) => ((⟨rs, ts⟩ : Fil).tot ≤ 1048576 ∧ ts.length ≤ 48 ∧ ts.length = rs.length)) (fun x => match x with | (rs, ts) => .snap 1 ((eOrd rs ts).map iv))
@[simp] theorem o_comingE_e (rs : LS) (ts : List Int) : o_comingE [.agg [.snap 1 (rs.map il), .snap 1 (ts.map iv)], .snap 1 ((edD rs 1 rs.length).map nvI)] = some (((⟨rs, ts⟩ : Fil).tot ≤ 1048576 ∧ ts.length ≤ 48 ∧ ts.length = rs.length), .snap 1 ((eOrd rs ts).map iv)) := tab_at (enc := fun (x : LS × List Int) => match x with | (rs, ts) => [.agg [.snap 1 (rs.map il), .snap 1 (ts.map iv)], .snap 1 ((edD rs 1 rs.length).map nvI)]) (fun x y h => by
  obtain ⟨rs1, ts1⟩ := x; obtain ⟨rs2, ts2⟩ := y; simp at h; simp [h] <;> omega) _ _ (rs, ts)
theorem o_comingE_k : Knows Try.prog 86 o_comingE := tab_knows fun x hx h => by
  obtain ⟨rs, ts⟩ := x; exact comingE_o ⟨rs, ts⟩ h hx.1 hx.2.1 hx.2.2
/-! ## Lists that are changed place by place -/
def mixT {α : Type} (A B : List α) (j : Nat) : List α := A.take j ++ B.drop j
theorem mixT_zero {α : Type} (A B : List α) : mixT A B 0 = B := by simp [mixT]
theorem mixT_len {α : Type} (A B : List α) (h : A.length = B.length) : mixT A B A.length = A := by
  unfold mixT
  rw [List.take_length, List.drop_of_length_le (by omega), List.append_nil]
theorem mixT_length {α : Type} (A B : List α) (h : A.length = B.length) (j : Nat) : (mixT A B j).length = A.length := by simp [mixT]; omega
theorem mixT_get {α : Type} {A B : List α} (h : A.length = B.length) {j : Nat} (hj : j < B.length) (h2 : j < (mixT A B j).length) : (mixT A B j)[j] = B[j] := by
  simp only [mixT]
  rw [List.getElem_append_right (by simp; omega)]
  simp only [List.getElem_drop, List.length_take]
  congr 1
  omega
theorem mixT_at {α : Type} {A B : List α} (h : A.length = B.length) (j i : Nat) : (mixT A B j)[i]? = if i < j then A[i]? else B[i]? := by
  unfold mixT
  rw [List.getElem?_append, List.length_take, List.getElem?_take, List.getElem?_drop]
  split
  · rw [if_pos (by omega), if_pos (by omega)]
  · split
    · rw [List.getElem?_eq_none (by omega), List.getElem?_eq_none (by omega)]
    · by_cases hA : j ≤ A.length
      · rw [show j + (i - min j A.length) = i by omega]
      · rw [List.getElem?_eq_none (by omega), List.getElem?_eq_none (by omega)]
theorem mixT_set {α : Type} {A B : List α} (h : A.length = B.length) {j : Nat} (hj : j < A.length) : (mixT A B j).set j A[j] = mixT A B (j + 1) := by
  apply List.ext_getElem?
  intro i
  rw [List.getElem?_set, mixT_at h, mixT_at h, mixT_length A B h]
  by_cases hij : j = i
  · subst hij; simp [hj]
  · rw [if_neg hij]
    by_cases hl : i < j
    · rw [if_pos hl, if_pos (by omega)]
    · rw [if_neg hl, if_neg (by omega)]
theorem mixT_same {α : Type} {A B : List α} (h : A.length = B.length) {j : Nat} (hj : j < A.length) (e : A[j] = B[j]) : mixT A B (j + 1) = mixT A B j := by
  rw [← mixT_set h hj]
  have hB : j < B.length := by omega
  rw [e, ← mixT_get h hB (by rw [mixT_length A B h]; omega), List.set_getElem_self]
theorem lab_lenT (L : Int → Int) : (lab L).length = 10 := by simp [lab]
theorem upto_lab : upto 10 = lab _root_.id := by simp [upto, lab]
end Go.AG
