/- Lists of phases, and at which edges they are wrong: what the program's and the reference's functions give. No statement is made here. -/
import Derived.Test.YtgofekmoimjcmaaGreatDoorPhVal
import Derived.Test.YtgofekmoimjcmaaGreatDoorIntS
namespace Go.AG.P
open Go.Proofs Go.Proofs.YtgofekmoimjcmaaGreatDoor
set_option linter.unusedSimpArgs false
set_option linter.unusedVariables false
set_option maxRecDepth 4000
/-- The least number that is not negative and is n modulo p. -/
theorem mod_go {n p : Int} (hp : 0 < p) : (n.tmod p + p).tmod p = n % p := by
  have h1 := Int.tmod_lt_of_pos n hp
  have h2 : -p < n.tmod p := by
    have := Int.tmod_lt_of_pos (-n) hp
    rw [Int.neg_tmod] at this
    omega
  rw [Int.tmod_eq_emod_of_nonneg (by omega), Int.add_emod_right, Int.tmod_eq_emod]
  split
  · simp
  · rw [Int.sub_emod]
    have : (p.natAbs : Int) = p := by omega
    simp [this]
abbrev k39_o0 : List AJ := [.o ⟨(some 4), none, false, .mv (.c (.int .i64 0)), (some [0, 1])⟩]
abbrev k39_o1 : List AJ := [.o ⟨(some 5), none, false, .mv (.t 0), none⟩, .o ⟨(some 6), none, false, .mv (.t 1), none⟩, .o ⟨(some 7), none, false, .bin .rem (.t 5) (.t 6), none⟩, .o ⟨(some 8), none, false, .mv (.t 1), none⟩, .o ⟨(some 9), none, true, .bin .add (.t 7) (.t 8), none⟩, .o ⟨(some 10), none, false, .mv (.t 1), none⟩, .o ⟨(some 11), none, false, .bin .rem (.t 9) (.t 10), none⟩, .o ⟨(some 4), none, false, .mv (.t 11), (some [4])⟩]
def k39_2 : ACode := .seq (.region k39_o1) .ret
def k39_3 : ACode := .seq (.region k39_o0) k39_2
@[simp, simp ↓] theorem k39_2r : sR k39_2 k39_o1 .ret := yR rfl
@[simp, simp ↓] theorem k39_3r : sR k39_3 k39_o0 k39_2 := yR rfl
noncomputable abbrev k39_C : Orc → Cx := mkC Tryz.prog [] 39 12 [.tmp 4]
theorem k39_of0 : OfP0 Tryz.prog Tryz.f39 39 12 k39_C k39_3 := @ofP0 _ _ _ _ _ _ _ _ Tryz.func39 (by decide +kernel) rfl (by kernel_rfl) rfl (by kernel_rfl)
theorem l03Mod_c (n p : Int) (h : Heap) (hp : 0 < p ∧ p ≤ 1073741824) : ACalls Tryz.prog 39 [.int .i64 n, .int .i64 p] h (fun v h' => v = .int .i64 (n % p) ∧ h' = h) := by
  have h1 := Int.tmod_lt_of_pos n hp.1
  have h2 := Int.tmod_lt_of_pos (-n) hp.1
  rw [Int.neg_tmod] at h2
  refine k39_of0 rfl noPure fun I => ?_
  refine Run2.of I 1000 ?_
  simp -implicitDefEqProofs [mod_go hp.1]
  omega
noncomputable def o_l03Mod : List AV → Option (Prop × AV) := tab (fun (x : Int × Int) => match x with | (n, p) => [.int .i64 n, .int .i64 p]) (fun x => match x with | (n, p) => (0 < p ∧ p ≤ 1073741824)) (fun x => match x with | (n, p) => .int .i64 (n % p))
@[simp] theorem o_l03Mod_e (n : Int) (p : Int) : o_l03Mod [.int .i64 n, .int .i64 p] = some ((0 < p ∧ p ≤ 1073741824), .int .i64 (n % p)) := tab_at (enc := fun (x : Int × Int) => match x with | (n, p) => [.int .i64 n, .int .i64 p]) (fun x y h => by
  obtain ⟨n1, p1⟩ := x; obtain ⟨n2, p2⟩ := y; simp at h; simp [h] <;> omega) _ _ (n, p)
theorem o_l03Mod_k : Knows Tryz.prog 39 o_l03Mod := tab_knows fun x hx h => by
  obtain ⟨n, p⟩ := x; exact l03Mod_c n p h hx
/-- A list with n numbers modulo m. -/
def vec (l : List Int) (n m : Int) : Prop := l.length = n ∧ ∀ a ∈ l, 0 ≤ a ∧ a < m
instance (l : List Int) (n m : Int) : Decidable (vec l n m) := by unfold vec; infer_instance
theorem take_all {α : Type} {l : List α} {i : Nat} (P : α → Prop) (h : i < l.length) : (∀ a ∈ l.take (i + 1), P a) ↔ (∀ a ∈ l.take i, P a) ∧ P l[i] := by
  rw [List.take_succ_eq_append_getElem h]
  simp only [List.mem_append, List.mem_singleton]
  exact ⟨fun H => ⟨fun a ha => H a (.inl ha), H _ (.inr rfl)⟩, fun H a ha => ha.elim (H.1 a) fun e => e ▸ H.2⟩
noncomputable def orcC : List (Nat × (List AV → Option (Prop × AV))) := (39, o_l03Mod) :: orcV
theorem orcC_p : Pure Tryz.prog (lk orcC) := (lk_pure o_l03Mod_k orcV_p)
@[simp] theorem orcC_l (b : Bool) (g : FuncId) (l : List AV) : lk orcC b g l = if g = 39 then o_l03Mod l else lk orcV b g l := nr rfl
abbrev k65_o0 : List AJ := [.o ⟨(some 6), none, false, .mv (.c (.bool false)), (some [0, 1, 2])⟩]
abbrev k65_o1 : List AJ := [.o ⟨(some 7), none, false, .mv (.c (.int .i64 0)), (some [0, 1, 2, 7])⟩]
abbrev k65_o2 : List AJ := [.o ⟨(some 8), none, false, .mv (.t 7), none⟩, .o ⟨(some 9), none, false, .mv (.t 0), none⟩, .o ⟨(some 10), none, false, .len (.t 9), none⟩, .o ⟨(some 11), none, false, .bin .lss (.t 8) (.t 10), (some [0, 1, 2, 7, 11])⟩]
def k65_3 : ACode := .cond (.t 11) .skip (.exit 0)
def k65_4 : ACode := .seq (.region k65_o2) k65_3
abbrev k65_o3 : List AJ := [.o ⟨(some 14), none, false, .mv (.t 0), none⟩, .o ⟨(some 15), none, false, .mv (.t 7), none⟩, .o ⟨(some 16), none, false, .idxA 1 (.t 14) (.t 15), none⟩, .o ⟨(some 17), none, false, .load 1 false (.t 16), none⟩, .o ⟨(some 18), none, false, .mv (.t 2), none⟩, .o ⟨(some 19), none, true, .bin .sub (.t 18) (.c (.int .i64 1)), none⟩, .o ⟨(some 20), none, false, .call 64 [(.t 17), (.c (.int .i64 0)), (.t 19)], none⟩, .o ⟨(some 21), none, false, .un .not (.t 20), (some [0, 1, 2, 7, 21])⟩]
abbrev k65_o4 : List AJ := [.o ⟨(some 6), none, false, .mv (.c (.bool false)), (some [6])⟩]
def k65_7 : ACode := .seq (.region k65_o4) .ret
def k65_8 : ACode := .cond (.t 21) k65_7 .skip
def k65_9 : ACode := .seq (.region k65_o3) k65_8
abbrev k65_o5 : List AJ := [.o ⟨(some 12), none, false, .mv (.t 7), none⟩, .o ⟨(some 13), none, true, .bin .add (.t 12) (.c (.int .i64 1)), none⟩, .o ⟨(some 7), none, false, .mv (.t 13), (some [0, 1, 2, 7])⟩]
def k65_11 : ACode := .region k65_o5
def k65_12 : ACode := .seq (.block 1 k65_9) k65_11
def k65_13 : ACode := .seq k65_4 k65_12
def k65_14 : ACode := .loop k65_13
def k65_15 : ACode := .block 0 k65_14
def k65_16 : ACode := .seq (.region k65_o1) k65_15
abbrev k65_o6 : List AJ := [.o ⟨(some 22), none, false, .mv (.t 0), none⟩, .o ⟨(some 23), none, false, .len (.t 22), none⟩, .o ⟨(some 24), none, false, .mv (.t 1), none⟩, .o ⟨(some 25), none, false, .bin .eql (.t 23) (.t 24), none⟩, .o ⟨(some 6), none, false, .mv (.t 25), (some [6])⟩]
def k65_18 : ACode := .seq (.region k65_o6) .ret
def k65_19 : ACode := .seq k65_16 k65_18
def k65_20 : ACode := .seq (.region k65_o0) k65_19
@[simp, simp ↓] theorem k65_3r : rC k65_3 (.t 11) .skip (.exit 0) := zC rfl
@[simp, simp ↓] theorem k65_4r : sR k65_4 k65_o2 k65_3 := yR rfl
@[simp, simp ↓] theorem k65_7r : sR k65_7 k65_o4 .ret := yR rfl
@[simp, simp ↓] theorem k65_8r : rC k65_8 (.t 21) k65_7 .skip := zC rfl
@[simp, simp ↓] theorem k65_9r : sR k65_9 k65_o3 k65_8 := yR rfl
@[simp, simp ↓] theorem k65_11r : rR k65_11 k65_o5 := zR rfl
@[simp, simp ↓] theorem k65_12r : sB k65_12 1 k65_9 k65_11 := yB rfl
@[simp, simp ↓] theorem k65_13r : rS k65_13 k65_4 k65_12 := zS rfl
@[simp, simp ↓] theorem k65_14r : rL k65_14 k65_13 := zL rfl
@[simp, simp ↓] theorem k65_15r : rB k65_15 0 k65_14 := zB rfl
@[simp, simp ↓] theorem k65_16r : sR k65_16 k65_o1 k65_15 := yR rfl
@[simp, simp ↓] theorem k65_18r : sR k65_18 k65_o6 .ret := yR rfl
@[simp, simp ↓] theorem k65_19r : rS k65_19 k65_16 k65_18 := zS rfl
@[simp, simp ↓] theorem k65_20r : sR k65_20 k65_o0 k65_19 := yR rfl
noncomputable abbrev k65_C : Orc → Cx := mkC Tryz.prog [] 65 26 [.tmp 6]
theorem k65_of0 : OfP0 Tryz.prog Tryz.f65 65 26 k65_C k65_20 := @ofP0 _ _ _ _ _ _ _ _ Tryz.func65 (by decide +kernel) rfl (by kernel_rfl) rfl (by kernel_rfl)
theorem l03Column_s (l : List Int) (n m : Int) (h : Heap) (hl : l.length ≤ 1048576) (hm : 0 < m ∧ m ≤ 1073741824) : ACalls Tryz.prog 65 [.snap 1 (l.map iv), .int .i64 n, .int .i64 m] h (fun v h' => v = .bool (decide (vec l n m)) ∧ h' = h) := by
  refine k65_of0 rfl orcC_p fun I => ?_
  refine Run2.of I 1000 ?_
  simp -implicitDefEqProofs
  refine Run2.loopE (fun i => [(0, .snap 1 (l.map iv)), (1, .int .i64 n), (2, .int .i64 m), (7, .int .i64 (i : Nat))]) (fun i => h) (fun i => l.length - i) (fun i => i ≤ l.length ∧ ∀ a ∈ l.take i, 0 ≤ a ∧ a < m) 0 (by simp) rfl (by simp) fun i hi ih => ?_
  by_cases hlt : i < l.length
  · have hbad : ¬ (0 ≤ l[i] ∧ l[i] < m) → ¬ vec l n m := fun h1 h2 => h1 (h2.2 _ (List.getElem_mem hlt))
    have go := fun (h1 : 0 ≤ l[i] ∧ l[i] < m) => ih (i + 1) ⟨by omega, (take_all _ hlt).2 ⟨hi.2, h1⟩⟩ (by omega)
    clear ih
    refine Run2.of I 1000 ?_
    simp -implicitDefEqProofs [hlt]
    simp at go
    repeat' (first | refine And.intro ?_ ?_ | intro _)
    all_goals first | omega | grind
  · obtain rfl : i = l.length := by omega
    have h2 := hi.2
    rw [List.take_length] at h2
    refine Run2.of I 1000 ?_
    simp -implicitDefEqProofs
    exact ⟨fun h => ⟨h, h2⟩, fun h => h.1⟩
theorem l03Column_c (u : AV) (n m : Int) (h : Heap) (hu : isInts u) (hl : (intsOf u).length ≤ 1048576) (hm : 0 < m ∧ m ≤ 1073741824) : ACalls Tryz.prog 65 [u, .int .i64 n, .int .i64 m] h (fun v h' => v = .bool (decide (vec (intsOf u) n m)) ∧ h' = h) :=
  (l03Column_s _ n m h hl hm).wk (.cons (.ints hu) (.refl _))
noncomputable def o_l03Column : List AV → Option (Prop × AV) := tab (fun (x : AV × Int × Int) => match x with | (u, n, m) => [u, .int .i64 n, .int .i64 m]) (fun x => match x with | (u, n, m) => (isInts u ∧ (intsOf u).length ≤ 1048576 ∧ (0 < m ∧ m ≤ 1073741824))) (fun x => match x with | (u, n, m) => .bool (decide (vec (intsOf u) n m)))
@[simp] theorem o_l03Column_e (u : AV) (n : Int) (m : Int) : o_l03Column [u, .int .i64 n, .int .i64 m] = some ((isInts u ∧ (intsOf u).length ≤ 1048576 ∧ (0 < m ∧ m ≤ 1073741824)), .bool (decide (vec (intsOf u) n m))) := tab_at (enc := fun (x : AV × Int × Int) => match x with | (u, n, m) => [u, .int .i64 n, .int .i64 m]) (fun x y h => by
  obtain ⟨u1, n1, m1⟩ := x; obtain ⟨u2, n2, m2⟩ := y; simp at h; simp [h] <;> omega) _ _ (u, n, m)
theorem o_l03Column_k : Knows Tryz.prog 65 o_l03Column := tab_knows fun x hx h => by
  obtain ⟨u, n, m⟩ := x; exact l03Column_c u n m h hx.1 hx.2.1 hx.2.2
noncomputable def orcC2 : List (Nat × (List AV → Option (Prop × AV))) := (65, o_l03Column) :: orcC
theorem orcC2_p : Pure Tryz.prog (lk orcC2) := (lk_pure o_l03Column_k orcC_p)
@[simp] theorem orcC2_l (b : Bool) (g : FuncId) (l : List AV) : lk orcC2 b g l = if g = 65 then o_l03Column l else lk orcC b g l := nr rfl
abbrev k34_o0 : List AJ := [.o ⟨(some 4), none, false, .mv (.c (.bool false)), (some [0, 1])⟩]
abbrev k34_o1 : List AI := [⟨(some 5), none, false, .mv (.t 1), none⟩, ⟨(some 6), none, false, .mv (.t 0), none⟩, ⟨(some 7), none, false, .nilchk (.t 6), none⟩, ⟨(some 8), none, false, .fieldA 0 (.t 7), none⟩, ⟨(some 9), none, false, .load 1 false (.t 8), none⟩, ⟨(some 10), none, false, .mv (.t 0), none⟩, ⟨(some 11), none, false, .nilchk (.t 10), none⟩, ⟨(some 12), none, false, .fieldA 1 (.t 11), none⟩, ⟨(some 13), none, false, .load 1 false (.t 12), none⟩, ⟨(some 14), none, false, .call 65 [(.t 5), (.t 9), (.t 13)], none⟩, ⟨(some 4), none, false, .mv (.t 14), (some [4])⟩]
def k34_2 : ACode := .seq (.draw k34_o1 [] rfl) .ret
def k34_3 : ACode := .seq (.region k34_o0) k34_2
@[simp, simp ↓] theorem k34_2r : sD k34_2 k34_o1 [] .ret := yD rfl
@[simp, simp ↓] theorem k34_3r : sR k34_3 k34_o0 k34_2 := yR rfl
noncomputable abbrev k34_C : Orc → Cx := mkC Tryz.prog [] 34 15 [.tmp 4]
theorem k34_of0 : OfP0 Tryz.prog Tryz.f34 34 15 k34_C k34_3 := @ofP0 _ _ _ _ _ _ _ _ Tryz.func34 (by decide +kernel) rfl (by kernel_rfl) rfl (by kernel_rfl)
theorem l23List_c (n m : Int) (ts : AV) (u : AV) (h : Heap) (hu : isInts u) (hl : (intsOf u).length ≤ 1048576) (hm : 0 < m ∧ m ≤ 1073741824) : ACalls Tryz.prog 34 [.ip [.int .i64 n, .int .i64 m, ts], u] h (fun v h' => v = .bool (decide (vec (intsOf u) n m)) ∧ h' = h) := by
  refine k34_of0 rfl orcC2_p fun I => ?_
  refine Run2.of I 1000 ?_
  simp -implicitDefEqProofs [hu, hl, hm.1, hm.2]
noncomputable def o_l23List : List AV → Option (Prop × AV) := tab (fun (x : Int × Int × AV × AV) => match x with | (n, m, ts, u) => [.ip [.int .i64 n, .int .i64 m, ts], u]) (fun x => match x with | (n, m, ts, u) => (isInts u ∧ (intsOf u).length ≤ 1048576 ∧ (0 < m ∧ m ≤ 1073741824))) (fun x => match x with | (n, m, ts, u) => .bool (decide (vec (intsOf u) n m)))
@[simp] theorem o_l23List_e (n : Int) (m : Int) (ts : AV) (u : AV) : o_l23List [.ip [.int .i64 n, .int .i64 m, ts], u] = some ((isInts u ∧ (intsOf u).length ≤ 1048576 ∧ (0 < m ∧ m ≤ 1073741824)), .bool (decide (vec (intsOf u) n m))) := tab_at (enc := fun (x : Int × Int × AV × AV) => match x with | (n, m, ts, u) => [.ip [.int .i64 n, .int .i64 m, ts], u]) (fun x y h => by
  obtain ⟨n1, m1, ts1, u1⟩ := x; obtain ⟨n2, m2, ts2, u2⟩ := y; simp at h; simp [h] <;> omega) _ _ (n, m, ts, u)
theorem o_l23List_k : Knows Tryz.prog 34 o_l23List := tab_knows fun x hx h => by
  obtain ⟨n, m, ts, u⟩ := x; exact l23List_c n m ts u h hx.1 hx.2.1 hx.2.2
/-! ## Where phases are wrong -/
def Ph.bad (x : Ph) (p : List Int) (t : T) : Bool := decide ((p.getD t.f.toNat 0 + t.s) % x.m ≠ p.getD t.t.toNat 0)
def Ph.wr (x : Ph) (p : List Int) (i : Nat) : List Int := ((List.range i).filter fun k => x.bad p (x.ts.getD k default)).map Int.ofNat
theorem Ph.wr_succ (x : Ph) (p : List Int) {i : Nat} (hi : i < x.ts.length) : x.wr p (i + 1) = x.wr p i ++ if x.bad p x.ts[i] then [(i : Int)] else [] := by
  unfold Ph.wr
  have : x.ts.getD i default = x.ts[i] := by simp [hi]
  rw [List.range_succ, List.filter_append, List.map_append]
  congr 1
  simp only [List.filter_cons, List.filter_nil, this]
  split <;> simp_all
theorem Ph.wr_len (x : Ph) (p : List Int) (i : Nat) : (x.wr p i).length ≤ i := by
  unfold Ph.wr
  rw [List.length_map]
  exact Nat.le_trans (List.length_filter_le _ _) (by simp)
theorem Ph.edge {x : Ph} (hv : x.valid) {i : Nat} (hi : i < x.ts.length) : x.el x.ts[i] := (hv.2.2.2.2.1 i hi hi).1
/-- What is known of an edge's ends in a list of phases. -/
theorem Ph.ends {x : Ph} (hv : x.valid) {p : List Int} (hp : vec p x.n x.m) {i : Nat} (hi : i < x.ts.length) :
    ∃ (h1 : x.ts[i].f.toNat < p.length) (h2 : x.ts[i].t.toNat < p.length), 0 ≤ x.ts[i].f ∧ 0 ≤ x.ts[i].t ∧ 0 ≤ x.ts[i].s ∧ x.ts[i].s < x.m ∧ (0 ≤ p[x.ts[i].f.toNat] ∧ p[x.ts[i].f.toNat] < x.m) ∧ (0 ≤ p[x.ts[i].t.toNat] ∧ p[x.ts[i].t.toNat] < x.m) ∧
      x.bad p x.ts[i] = decide ((p[x.ts[i].f.toNat] + x.ts[i].s) % x.m ≠ p[x.ts[i].t.toNat]) := by
  obtain ⟨e1, e2, e3, e4, e5⟩ := Ph.edge hv hi
  have hn := hp.1
  have h1 : x.ts[i].f.toNat < p.length := by omega
  have h2 : x.ts[i].t.toNat < p.length := by omega
  refine ⟨h1, h2, e1, by omega, e4, e5, hp.2 _ (List.getElem_mem h1), hp.2 _ (List.getElem_mem h2), ?_⟩
  unfold Ph.bad
  simp [h1, h2]
theorem bad_iff {a b s m : Int} (hb : 0 ≤ b ∧ b < m) : (b - a - s) % m = 0 ↔ (a + s) % m = b := by
  have : (b - a - s) = b - (a + s) := by omega
  rw [this, Int.sub_emod, Int.emod_eq_of_lt hb.1 hb.2]
  have h1 := Int.emod_nonneg (a + s) (show m ≠ 0 by omega)
  have h2 := Int.emod_lt_of_pos (a + s) (show 0 < m by omega)
  constructor
  · intro h
    rcases Int.lt_trichotomy (b - (a + s) % m) 0 with hlt | heq | hgt
    · have : (b - (a + s) % m) % m = b - (a + s) % m + m := by
        rw [← Int.add_emod_right, Int.emod_eq_of_lt (by omega) (by omega)]
      omega
    · omega
    · rw [Int.emod_eq_of_lt (by omega) (by omega)] at h; omega
  · intro h; rw [h]; simp
abbrev k35_o0 : List AJ := [.o ⟨(some 4), none, false, .mv (.c .nilsl), (some [0, 1])⟩]
abbrev k35_o1 : List AJ := [.e 8 1 none, .o ⟨(some 5), none, false, .mv (.t 8), (some [0, 1, 5])⟩]
abbrev k35_o2 : List AJ := [.o ⟨(some 6), none, false, .mv (.c (.int .i64 0)), (some [0, 1, 5, 6])⟩]
abbrev k35_o3 : List AJ := [.o ⟨(some 9), none, false, .mv (.t 6), none⟩, .o ⟨(some 10), none, false, .mv (.t 0), none⟩, .o ⟨(some 11), none, false, .nilchk (.t 10), none⟩, .o ⟨(some 12), none, false, .fieldA 2 (.t 11), none⟩, .o ⟨(some 13), none, false, .load 1 false (.t 12), none⟩, .o ⟨(some 14), none, false, .len (.t 13), none⟩, .o ⟨(some 15), none, false, .bin .lss (.t 9) (.t 14), (some [0, 1, 5, 6, 15])⟩]
def k35_4 : ACode := .cond (.t 15) .skip (.exit 0)
def k35_5 : ACode := .seq (.region k35_o3) k35_4
abbrev k35_o4 : List AJ := [.o ⟨(some 18), none, false, .mv (.t 0), none⟩, .o ⟨(some 19), none, false, .nilchk (.t 18), none⟩, .o ⟨(some 20), none, false, .fieldA 2 (.t 19), none⟩, .o ⟨(some 21), none, false, .load 1 false (.t 20), none⟩, .o ⟨(some 22), none, false, .mv (.t 6), none⟩, .o ⟨(some 23), none, false, .idxA 3 (.t 21) (.t 22), none⟩, .o ⟨(some 24), none, false, .load 3 true (.t 23), none⟩, .v 7 3 (.agg [(.int .i64 0), (.int .i64 0), (.int .i64 0)]) [] (.t 24) (some [0, 1, 5, 6, 7])]
abbrev k35_o5 : List AI := [⟨(some 25), none, false, .mv (.t 1), none⟩, ⟨(some 26), none, false, .fieldA 1 (.t 7), none⟩, ⟨(some 27), none, false, .load 1 false (.t 26), none⟩, ⟨(some 28), none, false, .idxA 1 (.t 25) (.t 27), none⟩, ⟨(some 29), none, false, .load 1 false (.t 28), none⟩, ⟨(some 30), none, false, .mv (.t 1), none⟩, ⟨(some 31), none, false, .fieldA 0 (.t 7), none⟩, ⟨(some 32), none, false, .load 1 false (.t 31), none⟩, ⟨(some 33), none, false, .idxA 1 (.t 30) (.t 32), none⟩, ⟨(some 34), none, false, .load 1 false (.t 33), none⟩, ⟨(some 35), none, true, .bin .sub (.t 29) (.t 34), none⟩, ⟨(some 36), none, false, .fieldA 2 (.t 7), none⟩, ⟨(some 37), none, false, .load 1 false (.t 36), none⟩, ⟨(some 38), none, true, .bin .sub (.t 35) (.t 37), (some [0, 1, 5, 6, 38])⟩, ⟨(some 39), none, false, .mv (.t 0), none⟩, ⟨(some 40), none, false, .nilchk (.t 39), none⟩, ⟨(some 41), none, false, .fieldA 1 (.t 40), none⟩, ⟨(some 42), none, false, .load 1 false (.t 41), none⟩, ⟨(some 43), none, false, .call 39 [(.t 38), (.t 42)], none⟩, ⟨(some 44), none, false, .bin .neq (.t 43) (.c (.int .i64 0)), (some [0, 1, 5, 6, 44])⟩]
abbrev k35_o6 : List AJ := [.o ⟨(some 45), none, false, .mv (.t 5), none⟩, .o ⟨(some 46), none, false, .mv (.t 6), none⟩, .o ⟨(some 47), none, false, .bsl false 1 [(.t 46)], none⟩, .o ⟨(some 48), none, false, .append 1 8 (.t 45) (.t 47), none⟩, .o ⟨(some 5), none, false, .mv (.t 48), (some [0, 1, 5, 6])⟩]
def k35_8 : ACode := .region k35_o6
def k35_9 : ACode := .cond (.t 44) k35_8 .skip
def k35_10 : ACode := .seq (.draw k35_o5 [] rfl) k35_9
def k35_11 : ACode := .seq (.region k35_o4) k35_10
abbrev k35_o7 : List AJ := [.o ⟨(some 16), none, false, .mv (.t 6), none⟩, .o ⟨(some 17), none, true, .bin .add (.t 16) (.c (.int .i64 1)), none⟩, .o ⟨(some 6), none, false, .mv (.t 17), (some [0, 1, 5, 6])⟩]
def k35_13 : ACode := .region k35_o7
def k35_14 : ACode := .seq (.block 1 k35_11) k35_13
def k35_15 : ACode := .seq k35_5 k35_14
def k35_16 : ACode := .loop k35_15
def k35_17 : ACode := .block 0 k35_16
def k35_18 : ACode := .seq (.region k35_o2) k35_17
abbrev k35_o8 : List AJ := [.o ⟨(some 49), none, false, .mv (.t 5), none⟩, .o ⟨(some 4), none, false, .mv (.t 49), (some [4])⟩]
def k35_20 : ACode := .seq (.region k35_o8) .ret
def k35_21 : ACode := .seq k35_18 k35_20
def k35_22 : ACode := .seq (.region k35_o1) k35_21
def k35_23 : ACode := .seq (.region k35_o0) k35_22
@[simp, simp ↓] theorem k35_4r : rC k35_4 (.t 15) .skip (.exit 0) := zC rfl
@[simp, simp ↓] theorem k35_5r : sR k35_5 k35_o3 k35_4 := yR rfl
@[simp, simp ↓] theorem k35_8r : rR k35_8 k35_o6 := zR rfl
@[simp, simp ↓] theorem k35_9r : rC k35_9 (.t 44) k35_8 .skip := zC rfl
@[simp, simp ↓] theorem k35_10r : sD k35_10 k35_o5 [] k35_9 := yD rfl
@[simp, simp ↓] theorem k35_11r : sR k35_11 k35_o4 k35_10 := yR rfl
@[simp, simp ↓] theorem k35_13r : rR k35_13 k35_o7 := zR rfl
@[simp, simp ↓] theorem k35_14r : sB k35_14 1 k35_11 k35_13 := yB rfl
@[simp, simp ↓] theorem k35_15r : rS k35_15 k35_5 k35_14 := zS rfl
@[simp, simp ↓] theorem k35_16r : rL k35_16 k35_15 := zL rfl
@[simp, simp ↓] theorem k35_17r : rB k35_17 0 k35_16 := zB rfl
@[simp, simp ↓] theorem k35_18r : sR k35_18 k35_o2 k35_17 := yR rfl
@[simp, simp ↓] theorem k35_20r : sR k35_20 k35_o8 .ret := yR rfl
@[simp, simp ↓] theorem k35_21r : rS k35_21 k35_18 k35_20 := zS rfl
@[simp, simp ↓] theorem k35_22r : sR k35_22 k35_o1 k35_21 := yR rfl
@[simp, simp ↓] theorem k35_23r : sR k35_23 k35_o0 k35_22 := yR rfl
noncomputable abbrev k35_C : Orc → Cx := mkC Tryz.prog [7, 8] 35 50 [.tmp 4]
theorem k35_of : OfP Tryz.prog Tryz.f35 35 50 k35_C k35_23 := @ofP _ _ _ _ _ _ _ _ Tryz.func35 (by decide +kernel) rfl (by kernel_rfl) rfl (by kernel_rfl)
theorem l23Wrong_c (x : Ph) (p : List Int) (h : Heap) (hv : x.valid) (hp : vec p x.n x.m) : ACalls Tryz.prog 35 [.ip [.int .i64 x.n, .int .i64 x.m, .snap 3 (x.ts.map T.av)], .snap 1 (p.map iv)] h (fun v h' => v = .snap 1 ((x.wr p x.ts.length).map iv) ∧ h' = h) := by
  have hm1 := hv.2.2.1
  have hm2 := hv.2.2.2.1
  have hl := hv.2.2.2.2.2
  refine k35_of rfl orcC_p fun I => ?_
  refine Run2.of I 1000 ?_
  simp -implicitDefEqProofs
  refine Run2.loopE (α := Nat × AV × Heap) (fun s => [(0, .ip [.int .i64 x.n, .int .i64 x.m, .snap 3 (x.ts.map T.av)]), (1, .snap 1 (p.map iv)), (5, s.2.1), (6, .int .i64 (s.1 : Nat))]) (fun s => s.2.2 ++ h) (fun s => x.ts.length - s.1) (fun s => s.1 ≤ x.ts.length ∧ Grow 1 s.2.1 ((x.wr p s.1).map iv) s.2.2) (0, .emp, []) (by simp) rfl ⟨Nat.zero_le _, by simpa [Ph.wr] using Grow.emp⟩ ?_
  rintro ⟨i, w, hp'⟩ ⟨hi, hg⟩ ih
  by_cases hlt : i < x.ts.length
  · obtain ⟨h1, h2, e1, e2, e3, e4, e5, e6, hb⟩ := Ph.ends hv hp hlt
    have hbi := bad_iff (a := p[x.ts[i].f.toNat]) (s := x.ts[i].s) e6
    have hw := x.wr_succ p hlt
    have hwl := x.wr_len p i
    have go := fun w' hp'' hg' => ih (i + 1, w', hp'') ⟨by simp; omega, hg'⟩ (by simp; omega)
    clear ih
    refine Run2.of I 1000 ?_
    simp -implicitDefEqProofs [hlt, h1, h2, e1, e2]
    repeat' (first | refine And.intro ?_ ?_ | intro _)
    all_goals first | omega | skip
    · rename_i hne
      refine Grow.app hg (by simp; omega) (by simp) fun w' hp'' hg' => ?_
      simp -implicitDefEqProofs
      rw [hb, if_pos (by simpa using fun h => hne (hbi.2 h))] at hw
      exact ⟨by omega, go w' hp'' (by rw [hw]; simpa using hg')⟩
    · rename_i hne
      rw [hb, if_neg (by simpa using hbi.1 hne), List.append_nil] at hw
      exact go w hp' (by rw [hw]; exact hg)
  · obtain rfl : i = x.ts.length := by simp at hi hlt; omega
    refine Run2.of I 1000 ?_
    simp -implicitDefEqProofs
    exact hg.froze (fun v => v) (fun _ _ _ => rfl) (fun _ _ h => h) (.base ⟨rfl, rfl⟩)
noncomputable def o_l23Wrong : List AV → Option (Prop × AV) := tab (fun (x : Int × Int × List T × List Int) => match x with | (n, m, ts, p) => [.ip [.int .i64 n, .int .i64 m, .snap 3 (ts.map T.av)], .snap 1 (p.map iv)]) (fun x => match x with | (n, m, ts, p) => (Ph.valid ⟨n, m, ts⟩ ∧ vec p n m)) (fun x => match x with | (n, m, ts, p) => .snap 1 ((Ph.wr ⟨n, m, ts⟩ p ts.length).map iv))
@[simp] theorem o_l23Wrong_e (n : Int) (m : Int) (ts : List T) (p : List Int) : o_l23Wrong [.ip [.int .i64 n, .int .i64 m, .snap 3 (ts.map T.av)], .snap 1 (p.map iv)] = some ((Ph.valid ⟨n, m, ts⟩ ∧ vec p n m), .snap 1 ((Ph.wr ⟨n, m, ts⟩ p ts.length).map iv)) := tab_at (enc := fun (x : Int × Int × List T × List Int) => match x with | (n, m, ts, p) => [.ip [.int .i64 n, .int .i64 m, .snap 3 (ts.map T.av)], .snap 1 (p.map iv)]) (fun x y h => by
  obtain ⟨n1, m1, ts1, p1⟩ := x; obtain ⟨n2, m2, ts2, p2⟩ := y; simp at h; simp [h] <;> omega) _ _ (n, m, ts, p)
theorem o_l23Wrong_k : Knows Tryz.prog 35 o_l23Wrong := tab_knows fun x hx h => by
  obtain ⟨n, m, ts, p⟩ := x; exact l23Wrong_c ⟨n, m, ts⟩ p h hx.1 hx.2
noncomputable def orcC3 : List (Nat × (List AV → Option (Prop × AV))) := (35, o_l23Wrong) :: (34, o_l23List) :: orcC
theorem orcC3_p : Pure Tryz.prog (lk orcC3) := (lk_pure o_l23Wrong_k (lk_pure o_l23List_k orcC_p))
@[simp] theorem orcC3_l (b : Bool) (g : FuncId) (l : List AV) : lk orcC3 b g l = if g = 35 then o_l23Wrong l else if g = 34 then o_l23List l else lk orcC b g l := nr rfl
/-- What ErrorsOf gives: a list and a code. -/
noncomputable def Ph.eres (x : Ph) (p : List Int) : List Int := if x.valid ∧ vec p x.n x.m then x.wr p x.ts.length else []
noncomputable def Ph.ecode (x : Ph) (p : List Int) : Int := if x.valid then (if vec p x.n x.m then 0 else 7) else 1
noncomputable def Ph.eav (x : Ph) (p : List Int) : AV := if x.valid ∧ vec p x.n x.m then .snap 1 ((x.wr p x.ts.length).map iv) else .nilsl
theorem Ph.eav_is (x : Ph) (p : List Int) : IsL iv 1 (x.eav p) (x.eres p) := by
  unfold Ph.eav Ph.eres
  split
  · exact .snap _
  · exact .nil
theorem Ph.valid_m {x : Ph} (h : x.valid) : 0 < x.m ∧ x.m ≤ 1073741824 := by
  have := h.2.2.1; have := h.2.2.2.1; omega
theorem Ph.eres_len (x : Ph) (p : List Int) : (x.eres p).length ≤ 24 := by
  unfold Ph.eres
  split
  · rename_i h
    exact Nat.le_trans (x.wr_len p _) h.1.2.2.2.2.2
  · simp
abbrev k12_o0 : List AJ := [.o ⟨(some 2), none, false, .box false 3 (.t 0), none⟩, .o ⟨(some 4), none, false, .mv (.c (.bool false)), (some [1, 2])⟩]
abbrev k12_o1 : List AJ := [.o ⟨(some 5), none, false, .call 33 [(.t 2)], none⟩, .o ⟨(some 6), none, false, .mv (.t 5), none⟩, .o ⟨(some 7), (some (6, true)), false, .mv (.t 1), none⟩, .o ⟨(some 8), (some (6, true)), false, .call 34 [(.t 2), (.t 7)], none⟩, .o ⟨(some 9), none, false, .pick (.t 6) (.t 8) (.c (.bool false)), none⟩, .o ⟨(some 10), none, false, .mv (.t 9), none⟩, .o ⟨(some 11), (some (10, true)), false, .mv (.t 1), none⟩, .o ⟨(some 12), (some (10, true)), false, .call 35 [(.t 2), (.t 11)], none⟩, .o ⟨(some 13), (some (10, true)), false, .len (.t 12), (some [10, 13])⟩, .o ⟨(some 14), (some (10, true)), false, .bin .eql (.t 13) (.c (.int .i64 0)), none⟩, .o ⟨(some 15), none, false, .pick (.t 10) (.t 14) (.c (.bool false)), none⟩, .o ⟨(some 4), none, false, .mv (.t 15), (some [4])⟩]
def k12_2 : ACode := .seq (.region k12_o1) .ret
def k12_3 : ACode := .seq (.region k12_o0) k12_2
@[simp, simp ↓] theorem k12_2r : sR k12_2 k12_o1 .ret := yR rfl
@[simp, simp ↓] theorem k12_3r : sR k12_3 k12_o0 k12_2 := yR rfl
noncomputable abbrev k12_C : Orc → Cx := mkC Tryz.prog [] 12 16 [.tmp 4]
theorem k12_of0 : OfP0 Tryz.prog Tryz.f12 12 16 k12_C k12_3 := @ofP0 _ _ _ _ _ _ _ _ Tryz.func12 (by decide +kernel) rfl (by kernel_rfl) rfl (by kernel_rfl)
theorem specIsPot_c (x : Ph) (p : List Int) (h : Heap) (ok : x.ok) (hl : x.ts.length ≤ 1048576) (hp : p.length ≤ 1048576) : ACalls Tryz.prog 12 [x.av, .snap 1 (p.map iv)] h (fun v h' => v = .bool (decide (x.valid ∧ vec p x.n x.m ∧ x.wr p x.ts.length = [])) ∧ h' = h) := by
  refine k12_of0 rfl orcC3_p fun I => ?_
  refine Run2.of I 1000 ?_
  simp -implicitDefEqProofs [ok, hl, hp]
  refine ⟨fun h => ⟨Ph.valid_m h, fun h2 => ⟨⟨h, h2⟩, by simp [h, h2]⟩, fun h2 _ h3 => absurd h3 h2⟩, fun h h2 => absurd h2 h⟩
/-! ## The program's functions -/
abbrev k70_o0 : List AJ := [.o ⟨(some 2), none, false, .mv (.c (.int .i64 0)), (some [0])⟩]
abbrev k70_o1 : List AJ := [.o ⟨(some 3), none, false, .mv (.t 0), none⟩, .o ⟨(some 4), none, false, .len (.t 3), none⟩, .o ⟨(some 2), none, false, .mv (.t 4), (some [2])⟩]
def k70_2 : ACode := .seq (.region k70_o1) .ret
def k70_3 : ACode := .seq (.region k70_o0) k70_2
@[simp, simp ↓] theorem k70_2r : sR k70_2 k70_o1 .ret := yR rfl
@[simp, simp ↓] theorem k70_3r : sR k70_3 k70_o0 k70_2 := yR rfl
noncomputable abbrev k70_C : Orc → Cx := mkC Tryz.prog [] 70 5 [.tmp 2]
theorem k70_of0 : OfP0 Tryz.prog Tryz.f70 70 5 k70_C k70_3 := @ofP0 _ _ _ _ _ _ _ _ Tryz.func70 (by decide +kernel) rfl (by kernel_rfl) rfl (by kernel_rfl)
theorem size_c (u : AV) (h : Heap) (hu : isInts u) (hl : (intsOf u).length ≤ 1048576) : ACalls Tryz.prog 70 [u] h (fun v h' => v = .int .i64 (intsOf u).length ∧ h' = h) := by
  refine ACalls.wk (.cons (.ints hu) .nil) ?_
  refine k70_of0 rfl noPure fun I => ?_
  refine Run2.of I 1000 ?_
  simp -implicitDefEqProofs
noncomputable def o_size : List AV → Option (Prop × AV) := tab (fun (x : AV) => match x with | u => [u]) (fun x => match x with | u => (isInts u ∧ (intsOf u).length ≤ 1048576)) (fun x => match x with | u => .int .i64 (intsOf u).length)
@[simp] theorem o_size_e (u : AV) : o_size [u] = some ((isInts u ∧ (intsOf u).length ≤ 1048576), .int .i64 (intsOf u).length) := tab_at (enc := fun (x : AV) => match x with | u => [u]) (fun x y h => by
  simp at h; simp [h] <;> omega) _ _ u
theorem o_size_k : Knows Tryz.prog 70 o_size := tab_knows fun x hx h => by
  exact size_c x h hx.1 hx.2
abbrev k66_o0 : List AJ := [.o ⟨(some 3), none, false, .mv (.c (.bool false)), (some [0, 1])⟩]
abbrev k66_o1 : List AJ := [.o ⟨(some 4), none, false, .mv (.t 0), none⟩, .o ⟨(some 5), none, false, .load 1 false (.t 1), none⟩, .o ⟨(some 6), none, false, .call 42 [(.t 4), (.t 5)], none⟩, .o ⟨(some 7), none, false, .un .not (.t 6), none⟩, .o ⟨(some 3), none, false, .mv (.t 7), (some [3])⟩]
def k66_2 : ACode := .seq (.region k66_o1) .ret
def k66_3 : ACode := .seq (.region k66_o0) k66_2
@[simp, simp ↓] theorem k66_2r : sR k66_2 k66_o1 .ret := yR rfl
@[simp, simp ↓] theorem k66_3r : sR k66_3 k66_o0 k66_2 := yR rfl
noncomputable abbrev k66_C : Orc → Cx := mkC Tryz.prog [] 66 8 [.tmp 3]
theorem k66_of0 : OfP0 Tryz.prog Tryz.f66 66 8 k66_C k66_3 := @ofP0 _ _ _ _ _ _ _ _ Tryz.func66 (by decide +kernel) rfl (by kernel_rfl) rfl (by kernel_rfl)
theorem areElements1_c (a p : Int) (h : Heap) (hp : 0 < p ∧ p ≤ 1073741824) : ACalls Tryz.prog 66 [.int .i64 a, .ip [.int .i64 p]] h (fun v h' => v = .bool (!decide (0 ≤ a ∧ a < p)) ∧ h' = h) := by
  refine k66_of0 rfl orc2_p fun I => ?_
  refine Run2.of I 1000 ?_
  simp -implicitDefEqProofs [wrap_m1 (n := p) (by omega)]
  grind
/-- The first place where q holds. -/
def idxf (q : Int → Bool) (l : List Int) : Int := match l.findIdx? q with
  | some i => i
  | none => -1
theorem idxf_at {q : Int → Bool} {l : List Int} {i : Nat} (h : i < l.length) (hb : ∀ j (hj : j < l.length), j < i → q l[j] = false) (ht : q l[i] = true) : idxf q l = i := by
  have : l.findIdx? q = some i := List.findIdx?_eq_some_iff_getElem.2 ⟨h, ht, fun j hj => by simp [hb j (by omega) hj]⟩
  unfold idxf; rw [this]
theorem idxf_none {q : Int → Bool} {l : List Int} (hb : ∀ j (hj : j < l.length), q l[j] = false) : idxf q l = -1 := by
  have : l.findIdx? q = none := List.findIdx?_eq_none_iff.2 fun a ha => by
    obtain ⟨j, hj, rfl⟩ := List.mem_iff_getElem.1 ha
    simp [hb j hj]
  unfold idxf; rw [this]
theorem idxf_ge (q : Int → Bool) (l : List Int) : (0 ≤ idxf q l) ↔ ∃ a ∈ l, q a = true := by
  unfold idxf
  cases h : l.findIdx? q with
  | none =>
    rw [List.findIdx?_eq_none_iff] at h
    simp only [show ¬ (0 : Int) ≤ -1 by omega, false_iff]
    rintro ⟨a, ha, hq⟩
    have := h a ha
    rw [hq] at this; cases this
  | some i =>
    obtain ⟨hi, hq, _⟩ := List.findIdx?_eq_some_iff_getElem.1 h
    simp only [Int.natCast_nonneg, true_iff]
    exact ⟨_, List.getElem_mem hi, hq⟩
abbrev k79_o0 : List AJ := [.o ⟨(some 4), none, false, .mv (.c (.int .i64 0)), (some [0, 1])⟩]
abbrev k79_o1 : List AJ := [.o ⟨(some 6), none, false, .mv (.t 0), none⟩, .o ⟨(some 7), none, false, .len (.t 6), none⟩, .o ⟨(some 8), none, false, .mv (.c (.int .i64 0)), (some [0, 1, 7, 8])⟩]
abbrev k79_o2 : List AJ := [.o ⟨(some 9), none, false, .bin .lss (.t 8) (.t 7), (some [0, 1, 7, 8, 9])⟩]
abbrev k79_o3 : List AJ := [.o ⟨(some 10), none, false, .mv (.t 8), none⟩, .o ⟨(some 5), none, false, .mv (.t 10), (some [0, 1, 5, 7, 8])⟩]
abbrev k79_o4 : List AJ := [.o ⟨(some 11), none, false, .mv (.t 1), none⟩, .o ⟨(some 12), none, false, .mv (.t 0), none⟩, .o ⟨(some 13), none, false, .mv (.t 5), none⟩, .o ⟨(some 14), none, false, .idxA 1 (.t 12) (.t 13), none⟩, .o ⟨(some 15), none, false, .load 1 false (.t 14), none⟩, .o ⟨(some 16), none, false, .callv (.t 11) [(.t 15)], (some [0, 1, 5, 7, 8, 16])⟩]
abbrev k79_o5 : List AJ := [.o ⟨(some 17), none, false, .mv (.t 5), none⟩, .o ⟨(some 4), none, false, .mv (.t 17), (some [4])⟩]
def k79_7 : ACode := .seq (.region k79_o5) .ret
def k79_8 : ACode := .cond (.t 16) k79_7 .skip
def k79_9 : ACode := .seq (.region k79_o4) k79_8
def k79_10 : ACode := .seq (.region k79_o3) k79_9
abbrev k79_o6 : List AJ := [.o ⟨(some 18), none, true, .bin .add (.t 8) (.c (.int .i64 1)), none⟩, .o ⟨(some 8), none, false, .mv (.t 18), (some [0, 1, 7, 8])⟩]
def k79_12 : ACode := .region k79_o6
def k79_13 : ACode := .seq (.block 1 k79_10) k79_12
def k79_14 : ACode := .seq (.cond (.t 9) .skip (.exit 0)) k79_13
def k79_15 : ACode := .seq (.region k79_o2) k79_14
def k79_16 : ACode := .loop k79_15
def k79_17 : ACode := .block 0 k79_16
def k79_18 : ACode := .seq (.region k79_o1) k79_17
abbrev k79_o7 : List AJ := [.o ⟨(some 4), none, false, .mv (.c (.int .i64 (-1))), (some [4])⟩]
def k79_20 : ACode := .seq (.region k79_o7) .ret
def k79_21 : ACode := .seq k79_18 k79_20
def k79_22 : ACode := .seq (.region k79_o0) k79_21
@[simp, simp ↓] theorem k79_7r : sR k79_7 k79_o5 .ret := yR rfl
@[simp, simp ↓] theorem k79_8r : rC k79_8 (.t 16) k79_7 .skip := zC rfl
@[simp, simp ↓] theorem k79_9r : sR k79_9 k79_o4 k79_8 := yR rfl
@[simp, simp ↓] theorem k79_10r : sR k79_10 k79_o3 k79_9 := yR rfl
@[simp, simp ↓] theorem k79_12r : rR k79_12 k79_o6 := zR rfl
@[simp, simp ↓] theorem k79_13r : sB k79_13 1 k79_10 k79_12 := yB rfl
@[simp, simp ↓] theorem k79_14r : sC k79_14 (.t 9) .skip (.exit 0) k79_13 := yC rfl
@[simp, simp ↓] theorem k79_15r : sR k79_15 k79_o2 k79_14 := yR rfl
@[simp, simp ↓] theorem k79_16r : rL k79_16 k79_15 := zL rfl
@[simp, simp ↓] theorem k79_17r : rB k79_17 0 k79_16 := zB rfl
@[simp, simp ↓] theorem k79_18r : sR k79_18 k79_o1 k79_17 := yR rfl
@[simp, simp ↓] theorem k79_20r : sR k79_20 k79_o7 .ret := yR rfl
@[simp, simp ↓] theorem k79_21r : rS k79_21 k79_18 k79_20 := zS rfl
@[simp, simp ↓] theorem k79_22r : sR k79_22 k79_o0 k79_21 := yR rfl
noncomputable abbrev k79_C : Orc → Cx := mkC Tryz.prog [] 79 19 [.tmp 4]
theorem k79_of0 : OfP0 Tryz.prog Tryz.f79 79 19 k79_C k79_22 := @ofP0 _ _ _ _ _ _ _ _ Tryz.func79 (by decide +kernel) rfl (by kernel_rfl) rfl (by kernel_rfl)
theorem IndexFunc_s (l : List Int) (g : FuncId) (caps : List AV) (q : Int → Bool) (h : Heap) (hl : l.length ≤ 1048576) (hq : ∀ a ∈ l, ACalls Tryz.prog g (.int .i64 a :: caps) h (fun v h' => v = .bool (q a) ∧ h' = h)) :
    ACalls Tryz.prog 79 [.snap 1 (l.map iv), .fn g caps] h (fun v h' => v = .int .i64 (idxf q l) ∧ h' = h) := by
  refine k79_of0 rfl noPure fun I => ?_
  refine Run2.of I 1000 ?_
  simp -implicitDefEqProofs
  refine Run2.loopE (fun i => [(0, .snap 1 (l.map iv)), (1, .fn g caps), (7, .int .i64 l.length), (8, .int .i64 (i : Nat))]) (fun i => h) (fun i => l.length - i) (fun i => i ≤ l.length ∧ ∀ j (hj : j < l.length), j < i → q l[j] = false) 0 (by simp) rfl ⟨Nat.zero_le _, fun _ _ h => absurd h (Nat.not_lt_zero _)⟩ fun i hi ih => ?_
  by_cases hlt : i < l.length
  · have go := fun (h1 : q l[i] = false) => ih (i + 1) ⟨by omega, fun j hj hji => by
      rcases Nat.lt_or_ge j i with h | h
      · exact hi.2 j hj h
      · obtain rfl : j = i := by omega
        exact h1⟩ (by omega)
    have hat := idxf_at (q := q) hlt hi.2
    clear ih
    refine Run2.of I 1000 ?_
    simp -implicitDefEqProofs [hlt]
    refine (hq _ (List.getElem_mem hlt)).mono ?_
    rintro v h' ⟨rfl, rfl⟩
    refine gK.go ?_
    simp -implicitDefEqProofs
    refine ⟨fun h => (hat h).symm, fun h => ⟨by omega, ?_⟩⟩
    simpa using go h
  · obtain rfl : i = l.length := by omega
    have := idxf_none (q := q) (l := l) fun j hj => hi.2 j hj hj
    refine Run2.of I 1000 ?_
    simp -implicitDefEqProofs
    exact this.symm
abbrev k58_o0 : List AJ := [.o ⟨(some 4), none, false, .mv (.c (.bool false)), (some [0, 1])⟩]
abbrev k58_o1 : List AJ := [.o ⟨(some 5), none, false, .mv (.t 0), none⟩, .o ⟨(some 6), none, false, .mv (.t 1), none⟩, .o ⟨(some 7), none, false, .call 79 [(.t 5), (.t 6)], none⟩, .o ⟨(some 8), none, false, .bin .geq (.t 7) (.c (.int .i64 0)), none⟩, .o ⟨(some 4), none, false, .mv (.t 8), (some [4])⟩]
def k58_2 : ACode := .seq (.region k58_o1) .ret
def k58_3 : ACode := .seq (.region k58_o0) k58_2
@[simp, simp ↓] theorem k58_2r : sR k58_2 k58_o1 .ret := yR rfl
@[simp, simp ↓] theorem k58_3r : sR k58_3 k58_o0 k58_2 := yR rfl
noncomputable abbrev k58_C : Orc → Cx := mkC Tryz.prog [] 58 9 [.tmp 4]
theorem k58_of0 : OfP0 Tryz.prog Tryz.f58 58 9 k58_C k58_3 := @ofP0 _ _ _ _ _ _ _ _ Tryz.func58 (by decide +kernel) rfl (by kernel_rfl) rfl (by kernel_rfl)
theorem ContainsFunc_s (l : List Int) (g : FuncId) (caps : List AV) (q : Int → Bool) (h : Heap) (hl : l.length ≤ 1048576) (hq : ∀ a ∈ l, ACalls Tryz.prog g (.int .i64 a :: caps) h (fun v h' => v = .bool (q a) ∧ h' = h)) :
    ACalls Tryz.prog 58 [.snap 1 (l.map iv), .fn g caps] h (fun v h' => v = .bool (l.any q) ∧ h' = h) := by
  refine k58_of0 rfl noPure fun I => ?_
  refine Run2.of I 1000 ?_
  simp -implicitDefEqProofs
  refine (IndexFunc_s l g caps q h hl hq).mono ?_
  rintro v h' ⟨rfl, rfl⟩
  refine gK.go ?_
  simp -implicitDefEqProofs [idxf_ge]
  rw [Bool.eq_iff_iff]
  simp
abbrev k36_o0 : List AJ := [.o ⟨(some 3), none, false, .box false 1 (.t 1), none⟩, .o ⟨(some 4), none, false, .mv (.c (.bool false)), (some [0, 3])⟩]
abbrev k36_o1 : List AJ := [.o ⟨(some 5), none, false, .mv (.t 0), none⟩, .o ⟨(some 6), none, false, .mkfn 66 [(.t 3)], none⟩, .o ⟨(some 7), none, false, .call 58 [(.t 5), (.t 6)], none⟩, .o ⟨(some 8), none, false, .un .not (.t 7), none⟩, .o ⟨(some 4), none, false, .mv (.t 8), (some [4])⟩]
def k36_2 : ACode := .seq (.region k36_o1) .ret
def k36_3 : ACode := .seq (.region k36_o0) k36_2
@[simp, simp ↓] theorem k36_2r : sR k36_2 k36_o1 .ret := yR rfl
@[simp, simp ↓] theorem k36_3r : sR k36_3 k36_o0 k36_2 := yR rfl
noncomputable abbrev k36_C : Orc → Cx := mkC Tryz.prog [] 36 9 [.tmp 4]
theorem k36_of0 : OfP0 Tryz.prog Tryz.f36 36 9 k36_C k36_3 := @ofP0 _ _ _ _ _ _ _ _ Tryz.func36 (by decide +kernel) rfl (by kernel_rfl) rfl (by kernel_rfl)
theorem areElements_c (u : AV) (p : Int) (h : Heap) (hu : isInts u) (hl : (intsOf u).length ≤ 1048576) (hp : 0 < p ∧ p ≤ 1073741824) : ACalls Tryz.prog 36 [u, .int .i64 p] h (fun v h' => v = .bool (decide (∀ a ∈ intsOf u, 0 ≤ a ∧ a < p)) ∧ h' = h) := by
  refine ACalls.wk (.cons (.ints hu) (.refl _)) ?_
  refine k36_of0 rfl noPure fun I => ?_
  refine Run2.of I 1000 ?_
  simp -implicitDefEqProofs
  refine (ContainsFunc_s _ _ _ (fun a => !decide (0 ≤ a ∧ a < p)) h hl fun a _ => areElements1_c a p h hp).mono ?_
  rintro v h' ⟨rfl, rfl⟩
  refine gK.go ?_
  simp -implicitDefEqProofs
  rw [Bool.eq_iff_iff]
  simp
  constructor <;> rintro ⟨a, ha, h⟩ <;> exact ⟨a, ha, by omega⟩
noncomputable def o_areElements : List AV → Option (Prop × AV) := tab (fun (x : AV × Int) => match x with | (u, p) => [u, .int .i64 p]) (fun x => match x with | (u, p) => (isInts u ∧ (intsOf u).length ≤ 1048576 ∧ (0 < p ∧ p ≤ 1073741824))) (fun x => match x with | (u, p) => .bool (decide (∀ a ∈ intsOf u, 0 ≤ a ∧ a < p)))
@[simp] theorem o_areElements_e (u : AV) (p : Int) : o_areElements [u, .int .i64 p] = some ((isInts u ∧ (intsOf u).length ≤ 1048576 ∧ (0 < p ∧ p ≤ 1073741824)), .bool (decide (∀ a ∈ intsOf u, 0 ≤ a ∧ a < p))) := tab_at (enc := fun (x : AV × Int) => match x with | (u, p) => [u, .int .i64 p]) (fun x y h => by
  obtain ⟨u1, p1⟩ := x; obtain ⟨u2, p2⟩ := y; simp at h; simp [h] <;> omega) _ _ (u, p)
theorem o_areElements_k : Knows Tryz.prog 36 o_areElements := tab_knows fun x hx h => by
  obtain ⟨u, p⟩ := x; exact areElements_c u p h hx.1 hx.2.1 hx.2.2
noncomputable def orcE : List (Nat × (List AV → Option (Prop × AV))) := (70, o_size) :: (36, o_areElements) :: orcC3
theorem orcE_p : Pure Tryz.prog (lk orcE) := (lk_pure o_size_k (lk_pure o_areElements_k orcC3_p))
@[simp] theorem orcE_l (b : Bool) (g : FuncId) (l : List AV) : lk orcE b g l = if g = 70 then o_size l else if g = 36 then o_areElements l else lk orcC3 b g l := nr rfl
abbrev k52_o0 : List AJ := [.o ⟨(some 6), none, false, .mv (.c (.bool false)), (some [0, 1, 2])⟩]
abbrev k52_o1 : List AJ := [.o ⟨(some 7), none, false, .mv (.t 0), none⟩, .o ⟨(some 8), none, false, .call 70 [(.t 7)], none⟩, .o ⟨(some 9), none, false, .mv (.t 1), none⟩, .o ⟨(some 10), none, false, .bin .eql (.t 8) (.t 9), none⟩, .o ⟨(some 11), none, false, .mv (.t 10), none⟩, .o ⟨(some 12), (some (11, true)), false, .mv (.t 0), none⟩, .o ⟨(some 13), (some (11, true)), false, .mv (.t 2), none⟩, .o ⟨(some 14), (some (11, true)), false, .call 36 [(.t 12), (.t 13)], none⟩, .o ⟨(some 15), none, false, .pick (.t 11) (.t 14) (.c (.bool false)), none⟩, .o ⟨(some 6), none, false, .mv (.t 15), (some [6])⟩]
def k52_2 : ACode := .seq (.region k52_o1) .ret
def k52_3 : ACode := .seq (.region k52_o0) k52_2
@[simp, simp ↓] theorem k52_2r : sR k52_2 k52_o1 .ret := yR rfl
@[simp, simp ↓] theorem k52_3r : sR k52_3 k52_o0 k52_2 := yR rfl
noncomputable abbrev k52_C : Orc → Cx := mkC Tryz.prog [] 52 16 [.tmp 6]
theorem k52_of0 : OfP0 Tryz.prog Tryz.f52 52 16 k52_C k52_3 := @ofP0 _ _ _ _ _ _ _ _ Tryz.func52 (by decide +kernel) rfl (by kernel_rfl) rfl (by kernel_rfl)
theorem isVector_c (u : AV) (n p : Int) (h : Heap) (hu : isInts u) (hl : (intsOf u).length ≤ 1048576) (hp : 0 < p ∧ p ≤ 1073741824) : ACalls Tryz.prog 52 [u, .int .i64 n, .int .i64 p] h (fun v h' => v = .bool (decide (vec (intsOf u) n p)) ∧ h' = h) := by
  refine k52_of0 rfl orcE_p fun I => ?_
  refine Run2.of I 1000 ?_
  simp -implicitDefEqProofs [hu, hl, hp.1, hp.2]
  unfold vec
  grind
noncomputable def o_isVector : List AV → Option (Prop × AV) := tab (fun (x : AV × Int × Int) => match x with | (u, n, p) => [u, .int .i64 n, .int .i64 p]) (fun x => match x with | (u, n, p) => (isInts u ∧ (intsOf u).length ≤ 1048576 ∧ (0 < p ∧ p ≤ 1073741824))) (fun x => match x with | (u, n, p) => .bool (decide (vec (intsOf u) n p)))
@[simp] theorem o_isVector_e (u : AV) (n : Int) (p : Int) : o_isVector [u, .int .i64 n, .int .i64 p] = some ((isInts u ∧ (intsOf u).length ≤ 1048576 ∧ (0 < p ∧ p ≤ 1073741824)), .bool (decide (vec (intsOf u) n p))) := tab_at (enc := fun (x : AV × Int × Int) => match x with | (u, n, p) => [u, .int .i64 n, .int .i64 p]) (fun x y h => by
  obtain ⟨u1, n1, p1⟩ := x; obtain ⟨u2, n2, p2⟩ := y; simp at h; simp [h] <;> omega) _ _ (u, n, p)
theorem o_isVector_k : Knows Tryz.prog 52 o_isVector := tab_knows fun x hx h => by
  obtain ⟨u, n, p⟩ := x; exact isVector_c u n p h hx.1 hx.2.1 hx.2.2
noncomputable def orcE2 : List (Nat × (List AV → Option (Prop × AV))) := (52, o_isVector) :: orcE
theorem orcE2_p : Pure Tryz.prog (lk orcE2) := (lk_pure o_isVector_k orcE_p)
@[simp] theorem orcE2_l (b : Bool) (g : FuncId) (l : List AV) : lk orcE2 b g l = if g = 52 then o_isVector l else lk orcE b g l := nr rfl
abbrev k24_o0 : List AJ := [.o ⟨(some 2), none, false, .box false 3 (.t 0), none⟩, .o ⟨(some 4), none, false, .mv (.c (.bool false)), (some [1, 2])⟩]
abbrev k24_o1 : List AJ := [.o ⟨(some 5), none, false, .mv (.t 1), none⟩, .o ⟨(some 6), none, false, .fieldA 0 (.t 2), none⟩, .o ⟨(some 7), none, false, .load 1 false (.t 6), none⟩, .o ⟨(some 8), none, false, .fieldA 1 (.t 2), none⟩, .o ⟨(some 9), none, false, .load 1 false (.t 8), none⟩, .o ⟨(some 10), none, false, .call 52 [(.t 5), (.t 7), (.t 9)], none⟩, .o ⟨(some 4), none, false, .mv (.t 10), (some [4])⟩]
def k24_2 : ACode := .seq (.region k24_o1) .ret
def k24_3 : ACode := .seq (.region k24_o0) k24_2
@[simp, simp ↓] theorem k24_2r : sR k24_2 k24_o1 .ret := yR rfl
@[simp, simp ↓] theorem k24_3r : sR k24_3 k24_o0 k24_2 := yR rfl
noncomputable abbrev k24_C : Orc → Cx := mkC Tryz.prog [] 24 11 [.tmp 4]
theorem k24_of0 : OfP0 Tryz.prog Tryz.f24 24 11 k24_C k24_3 := @ofP0 _ _ _ _ _ _ _ _ Tryz.func24 (by decide +kernel) rfl (by kernel_rfl) rfl (by kernel_rfl)
theorem arePhases_c (n p : Int) (ts u : AV) (h : Heap) (hts : isCell ts = true) (hu : isInts u) (hl : (intsOf u).length ≤ 1048576) (hp : 0 < p ∧ p ≤ 1073741824) : ACalls Tryz.prog 24 [.agg [.int .i64 n, .int .i64 p, ts], u] h (fun v h' => v = .bool (decide (vec (intsOf u) n p)) ∧ h' = h) := by
  refine k24_of0 rfl orcE2_p fun I => ?_
  refine Run2.of I 1000 ?_
  simp -implicitDefEqProofs [hu, hl, hp.1, hp.2, hts]
noncomputable def o_arePhases : List AV → Option (Prop × AV) := tab (fun (x : Int × Int × AV × AV) => match x with | (n, p, ts, u) => [.agg [.int .i64 n, .int .i64 p, ts], u]) (fun x => match x with | (n, p, ts, u) => (isCell ts = true ∧ isInts u ∧ (intsOf u).length ≤ 1048576 ∧ (0 < p ∧ p ≤ 1073741824))) (fun x => match x with | (n, p, ts, u) => .bool (decide (vec (intsOf u) n p)))
@[simp] theorem o_arePhases_e (n : Int) (p : Int) (ts : AV) (u : AV) : o_arePhases [.agg [.int .i64 n, .int .i64 p, ts], u] = some ((isCell ts = true ∧ isInts u ∧ (intsOf u).length ≤ 1048576 ∧ (0 < p ∧ p ≤ 1073741824)), .bool (decide (vec (intsOf u) n p))) := tab_at (enc := fun (x : Int × Int × AV × AV) => match x with | (n, p, ts, u) => [.agg [.int .i64 n, .int .i64 p, ts], u]) (fun x y h => by
  obtain ⟨n1, p1, ts1, u1⟩ := x; obtain ⟨n2, p2, ts2, u2⟩ := y; simp at h; simp [h] <;> omega) _ _ (n, p, ts, u)
theorem o_arePhases_k : Knows Tryz.prog 24 o_arePhases := tab_knows fun x hx h => by
  obtain ⟨n, p, ts, u⟩ := x; exact arePhases_c n p ts u h hx.1 hx.2.1 hx.2.2.1 hx.2.2.2
abbrev k23_o0 : List AJ := [.o ⟨(some 2), none, false, .box false 3 (.t 0), none⟩, .o ⟨(some 4), none, false, .mv (.c .nilsl), (some [1, 2])⟩]
abbrev k23_o1 : List AJ := [.o ⟨(some 5), none, false, .mv (.c .nilsl), (some [1, 2, 5])⟩]
abbrev k23_o2 : List AJ := [.o ⟨(some 8), none, false, .fieldA 2 (.t 2), none⟩, .o ⟨(some 9), none, false, .load 1 false (.t 8), none⟩, .o ⟨(some 10), none, false, .len (.t 9), none⟩, .o ⟨(some 11), none, false, .mv (.c (.int .i64 0)), (some [1, 2, 5, 9, 10, 11])⟩]
abbrev k23_o3 : List AJ := [.o ⟨(some 12), none, false, .bin .lss (.t 11) (.t 10), (some [1, 2, 5, 9, 10, 11, 12])⟩]
abbrev k23_o4 : List AJ := [.o ⟨(some 13), none, false, .mv (.t 11), none⟩, .o ⟨(some 14), none, false, .idxA 3 (.t 9) (.t 11), none⟩, .o ⟨(some 15), none, false, .load 3 true (.t 14), none⟩, .v 7 3 (.agg [(.int .i64 0), (.int .i64 0), (.int .i64 0)]) [(6, (.t 13))] (.t 15) (some [1, 2, 5, 6, 7, 9, 10, 11])]
abbrev k23_o5 : List AI := [⟨(some 16), none, false, .mv (.t 1), none⟩, ⟨(some 17), none, false, .fieldA 0 (.t 7), none⟩, ⟨(some 18), none, false, .load 1 false (.t 17), none⟩, ⟨(some 19), none, false, .idxA 1 (.t 16) (.t 18), none⟩, ⟨(some 20), none, false, .load 1 false (.t 19), none⟩, ⟨(some 21), none, false, .fieldA 2 (.t 7), none⟩, ⟨(some 22), none, false, .load 1 false (.t 21), none⟩, ⟨(some 23), none, true, .bin .add (.t 20) (.t 22), none⟩, ⟨(some 24), none, false, .fieldA 1 (.t 2), none⟩, ⟨(some 25), none, false, .load 1 false (.t 24), none⟩, ⟨(some 26), none, false, .bin .rem (.t 23) (.t 25), none⟩, ⟨(some 27), none, false, .mv (.t 1), none⟩, ⟨(some 28), none, false, .fieldA 1 (.t 7), none⟩, ⟨(some 29), none, false, .load 1 false (.t 28), (some [1, 2, 5, 6, 9, 10, 11, 26, 27, 29])⟩, ⟨(some 30), none, false, .idxA 1 (.t 27) (.t 29), none⟩, ⟨(some 31), none, false, .load 1 false (.t 30), none⟩, ⟨(some 32), none, false, .bin .neq (.t 26) (.t 31), (some [1, 2, 5, 6, 9, 10, 11, 32])⟩]
abbrev k23_o6 : List AJ := [.o ⟨(some 33), none, false, .mv (.t 5), none⟩, .o ⟨(some 34), none, false, .mv (.t 6), none⟩, .o ⟨(some 35), none, false, .bsl false 1 [(.t 34)], none⟩, .o ⟨(some 36), none, false, .append 1 8 (.t 33) (.t 35), none⟩, .o ⟨(some 5), none, false, .mv (.t 36), (some [1, 2, 5, 9, 10, 11])⟩]
def k23_7 : ACode := .region k23_o6
def k23_8 : ACode := .cond (.t 32) k23_7 .skip
def k23_9 : ACode := .seq (.draw k23_o5 [] rfl) k23_8
def k23_10 : ACode := .seq (.region k23_o4) k23_9
abbrev k23_o7 : List AJ := [.o ⟨(some 37), none, true, .bin .add (.t 11) (.c (.int .i64 1)), none⟩, .o ⟨(some 11), none, false, .mv (.t 37), (some [1, 2, 5, 9, 10, 11])⟩]
def k23_12 : ACode := .region k23_o7
def k23_13 : ACode := .seq (.block 1 k23_10) k23_12
def k23_14 : ACode := .seq (.cond (.t 12) .skip (.exit 0)) k23_13
def k23_15 : ACode := .seq (.region k23_o3) k23_14
def k23_16 : ACode := .loop k23_15
def k23_17 : ACode := .block 0 k23_16
def k23_18 : ACode := .seq (.region k23_o2) k23_17
abbrev k23_o8 : List AJ := [.o ⟨(some 38), none, false, .mv (.t 5), none⟩, .o ⟨(some 4), none, false, .mv (.t 38), (some [4])⟩]
def k23_20 : ACode := .seq (.region k23_o8) .ret
def k23_21 : ACode := .seq k23_18 k23_20
def k23_22 : ACode := .seq (.region k23_o1) k23_21
def k23_23 : ACode := .seq (.region k23_o0) k23_22
@[simp, simp ↓] theorem k23_7r : rR k23_7 k23_o6 := zR rfl
@[simp, simp ↓] theorem k23_8r : rC k23_8 (.t 32) k23_7 .skip := zC rfl
@[simp, simp ↓] theorem k23_9r : sD k23_9 k23_o5 [] k23_8 := yD rfl
@[simp, simp ↓] theorem k23_10r : sR k23_10 k23_o4 k23_9 := yR rfl
@[simp, simp ↓] theorem k23_12r : rR k23_12 k23_o7 := zR rfl
@[simp, simp ↓] theorem k23_13r : sB k23_13 1 k23_10 k23_12 := yB rfl
@[simp, simp ↓] theorem k23_14r : sC k23_14 (.t 12) .skip (.exit 0) k23_13 := yC rfl
@[simp, simp ↓] theorem k23_15r : sR k23_15 k23_o3 k23_14 := yR rfl
@[simp, simp ↓] theorem k23_16r : rL k23_16 k23_15 := zL rfl
@[simp, simp ↓] theorem k23_17r : rB k23_17 0 k23_16 := zB rfl
@[simp, simp ↓] theorem k23_18r : sR k23_18 k23_o2 k23_17 := yR rfl
@[simp, simp ↓] theorem k23_20r : sR k23_20 k23_o8 .ret := yR rfl
@[simp, simp ↓] theorem k23_21r : rS k23_21 k23_18 k23_20 := zS rfl
@[simp, simp ↓] theorem k23_22r : sR k23_22 k23_o1 k23_21 := yR rfl
@[simp, simp ↓] theorem k23_23r : sR k23_23 k23_o0 k23_22 := yR rfl
noncomputable abbrev k23_C : Orc → Cx := mkC Tryz.prog [7] 23 39 [.tmp 4]
theorem k23_of0 : OfP0 Tryz.prog Tryz.f23 23 39 k23_C k23_23 := @ofP0 _ _ _ _ _ _ _ _ Tryz.func23 (by decide +kernel) rfl (by kernel_rfl) rfl (by kernel_rfl)
theorem errorsOf_w (x : Ph) (p : List Int) (h : Heap) (hv : x.valid) (hp : vec p x.n x.m) : ACalls Tryz.prog 23 [x.av, .snap 1 (p.map iv)] h (fun v h' => ∃ hp, Grow 1 v ((x.wr p x.ts.length).map iv) hp ∧ h' = hp ++ h) := by
  have hm1 := hv.2.2.1
  have hm2 := hv.2.2.2.1
  have hl := hv.2.2.2.2.2
  refine k23_of0 rfl noPure fun I => ?_
  refine Run2.of I 1000 ?_
  simp -implicitDefEqProofs
  refine Run2.loopE (α := Nat × AV × Heap) (fun s => [(1, .snap 1 (p.map iv)), (2, .ip [.int .i64 x.n, .int .i64 x.m, .snap 3 (x.ts.map T.av)]), (5, s.2.1), (9, .snap 3 (x.ts.map T.av)), (10, .int .i64 x.ts.length), (11, .int .i64 (s.1 : Nat))]) (fun s => s.2.2 ++ h) (fun s => x.ts.length - s.1) (fun s => s.1 ≤ x.ts.length ∧ Grow 1 s.2.1 ((x.wr p s.1).map iv) s.2.2) (0, .nilsl, []) (by simp) rfl ⟨Nat.zero_le _, by simpa [Ph.wr] using Grow.nil⟩ ?_
  rintro ⟨i, w, hp'⟩ ⟨hi, hg⟩ ih
  by_cases hlt : i < x.ts.length
  · obtain ⟨h1, h2, e1, e2, e3, e4, e5, e6, hb⟩ := Ph.ends hv hp hlt
    have hw := x.wr_succ p hlt
    have hwl := x.wr_len p i
    have htm : (p[x.ts[i].f.toNat] + x.ts[i].s).tmod x.m = (p[x.ts[i].f.toNat] + x.ts[i].s) % x.m := Int.tmod_eq_emod_of_nonneg (by omega)
    have go := fun w' hp'' hg' => ih (i + 1, w', hp'') ⟨by simp; omega, hg'⟩ (by simp; omega)
    clear ih
    refine Run2.of I 1000 ?_
    simp -implicitDefEqProofs [hlt, h1, h2, e1, e2, htm]
    repeat' (first | refine And.intro ?_ ?_ | intro _)
    all_goals first | omega | skip
    · rename_i hne
      refine Grow.app hg (by simp; omega) (by simp) fun w' hp'' hg' => ?_
      simp -implicitDefEqProofs
      rw [hb, if_pos (by simpa using hne)] at hw
      exact ⟨by omega, go w' hp'' (by rw [hw]; simpa using hg')⟩
    · rename_i hne
      rw [hb, if_neg (by simpa using hne), List.append_nil] at hw
      exact go w hp' (by rw [hw]; exact hg)
  · obtain rfl : i = x.ts.length := by simp at hi hlt; omega
    refine Run2.of I 1000 ?_
    simp -implicitDefEqProofs
    exact hg
noncomputable def orcF : List (Nat × (List AV → Option (Prop × AV))) := (21, o_valid) :: (24, o_arePhases) :: orcE2
theorem orcF_p : Pure Tryz.prog (lk orcF) := (lk_pure o_valid_k (lk_pure o_arePhases_k orcE2_p))
@[simp] theorem orcF_l (b : Bool) (g : FuncId) (l : List AV) : lk orcF b g l = if g = 21 then o_valid l else if g = 24 then o_arePhases l else lk orcE2 b g l := nr rfl
abbrev k9_o0 : List AJ := [.o ⟨(some 2), none, false, .box false 3 (.t 0), none⟩, .o ⟨(some 4), none, false, .mv (.c .nilsl), none⟩, .o ⟨(some 5), none, false, .mv (.c (.int .i64 0)), (some [1, 2])⟩]
abbrev k9_o1 : List AJ := [.o ⟨(some 6), none, false, .load 3 true (.t 2), none⟩, .o ⟨(some 7), none, false, .call 21 [(.t 6)], none⟩, .o ⟨(some 8), none, false, .un .not (.t 7), (some [1, 2, 8])⟩]
abbrev k9_o2 : List AJ := [.o ⟨(some 4), none, false, .mv (.c .nilsl), none⟩, .o ⟨(some 5), none, false, .mv (.c (.int .i64 1)), (some [4, 5])⟩]
def k9_3 : ACode := .seq (.region k9_o2) .ret
def k9_4 : ACode := .cond (.t 8) k9_3 .skip
def k9_5 : ACode := .seq (.region k9_o1) k9_4
abbrev k9_o3 : List AJ := [.o ⟨(some 9), none, false, .load 3 true (.t 2), none⟩, .o ⟨(some 10), none, false, .mv (.t 1), none⟩, .o ⟨(some 11), none, false, .call 24 [(.t 9), (.t 10)], none⟩, .o ⟨(some 12), none, false, .un .not (.t 11), (some [1, 2, 12])⟩]
abbrev k9_o4 : List AJ := [.o ⟨(some 4), none, false, .mv (.c .nilsl), none⟩, .o ⟨(some 5), none, false, .mv (.c (.int .i64 7)), (some [4, 5])⟩]
def k9_8 : ACode := .seq (.region k9_o4) .ret
def k9_9 : ACode := .cond (.t 12) k9_8 .skip
def k9_10 : ACode := .seq (.region k9_o3) k9_9
abbrev k9_o5 : List AJ := [.o ⟨(some 13), none, false, .load 3 true (.t 2), none⟩, .o ⟨(some 14), none, false, .mv (.t 1), none⟩, .o ⟨(some 15), none, false, .call 23 [(.t 13), (.t 14)], none⟩, .o ⟨(some 4), none, false, .mv (.t 15), none⟩, .o ⟨(some 5), none, false, .mv (.c (.int .i64 0)), (some [4, 5])⟩]
def k9_12 : ACode := .seq (.region k9_o5) .ret
def k9_13 : ACode := .seq k9_10 k9_12
def k9_14 : ACode := .seq k9_5 k9_13
def k9_15 : ACode := .seq (.region k9_o0) k9_14
@[simp, simp ↓] theorem k9_3r : sR k9_3 k9_o2 .ret := yR rfl
@[simp, simp ↓] theorem k9_4r : rC k9_4 (.t 8) k9_3 .skip := zC rfl
@[simp, simp ↓] theorem k9_5r : sR k9_5 k9_o1 k9_4 := yR rfl
@[simp, simp ↓] theorem k9_8r : sR k9_8 k9_o4 .ret := yR rfl
@[simp, simp ↓] theorem k9_9r : rC k9_9 (.t 12) k9_8 .skip := zC rfl
@[simp, simp ↓] theorem k9_10r : sR k9_10 k9_o3 k9_9 := yR rfl
@[simp, simp ↓] theorem k9_12r : sR k9_12 k9_o5 .ret := yR rfl
@[simp, simp ↓] theorem k9_13r : rS k9_13 k9_10 k9_12 := zS rfl
@[simp, simp ↓] theorem k9_14r : rS k9_14 k9_5 k9_13 := zS rfl
@[simp, simp ↓] theorem k9_15r : sR k9_15 k9_o0 k9_14 := yR rfl
noncomputable abbrev k9_C : Orc → Cx := mkC Tryz.prog [] 9 16 [.tmp 4, .tmp 5]
theorem k9_of0 : OfP0 Tryz.prog Tryz.f9 9 16 k9_C k9_15 := @ofP0 _ _ _ _ _ _ _ _ Tryz.func9 (by decide +kernel) rfl (by kernel_rfl) rfl (by kernel_rfl)
theorem implErrors_w (x : Ph) (p : List Int) (h : Heap) (ok : x.ok) (hl : x.ts.length ≤ 1048576) (hp : p.length ≤ 1048576) : ACalls Tryz.prog 9 [x.av, .snap 1 (p.map iv)] h (fun v h' => ∃ w hp, v = .tup [w, .int .i64 (x.ecode p)] ∧ Grow 1 w ((x.eres p).map iv) hp ∧ h' = hp ++ h) := by
  refine k9_of0 rfl orcF_p fun I => ?_
  refine Run2.of I 1000 ?_
  simp -implicitDefEqProofs [ok, hl, hp]
  unfold Ph.eres Ph.ecode
  refine ⟨fun hv => ?_, fun hv => ⟨Ph.valid_m hv, fun h2 => ?_, fun h2 => ?_⟩⟩
  · exact ⟨_, ⟨rfl, by simp [hv]⟩, by simpa [hv] using Grow.nil⟩
  · exact ⟨_, ⟨rfl, by simp [hv, h2]⟩, by simpa [hv, h2] using Grow.nil⟩
  · refine (errorsOf_w x p h hv h2).mono ?_
    rintro v h' ⟨hp', hg, rfl⟩
    refine gK.go ?_
    simp -implicitDefEqProofs
    refine ⟨_, ⟨rfl, by simp [hv, h2]⟩, ?_⟩
    rw [if_pos ⟨hv, h2⟩]; exact hg
theorem implErrors_o (x : Ph) (p : List Int) (ok : x.ok) (hl : x.ts.length ≤ 1048576) (hp : p.length ≤ 1048576) : ACalls Tryz.prog 9 [x.av, .snap 1 (p.map iv)] [] (fun v h' => ∃ w, v = .tup [w, .int .i64 (x.ecode p)] ∧ OwnL iv 1 w (x.eres p) h') :=
  (implErrors_w x p [] ok hl hp).mono fun v h' ⟨w, hq, e, hg, e2⟩ => ⟨w, e, by rw [e2]; simpa using hg.own⟩
abbrev k14_o0 : List AJ := [.o ⟨(some 2), none, false, .box false 3 (.t 0), none⟩, .o ⟨(some 4), none, false, .mv (.c (.bool false)), (some [1, 2])⟩]
abbrev k14_o1 : List AJ := [.o ⟨(some 8), none, false, .load 3 true (.t 2), none⟩, .o ⟨(some 9), none, false, .mv (.t 1), none⟩, .o ⟨(some 10), none, false, .call 9 [(.t 8), (.t 9)], none⟩, .o ⟨(some 7), none, false, .mv (.t 10), none⟩, .o ⟨(some 11), none, false, .extract (.t 7) 0, none⟩, .o ⟨(some 12), none, false, .extract (.t 7) 1, none⟩, .o ⟨(some 5), none, false, .mv (.t 11), none⟩, .o ⟨(some 6), none, false, .mv (.t 12), (some [5, 6])⟩]
abbrev k14_o2 : List AJ := [.o ⟨(some 13), none, false, .mv (.t 6), none⟩, .o ⟨(some 14), none, false, .bin .eql (.t 13) (.c (.int .i64 0)), none⟩, .o ⟨(some 15), none, false, .mv (.t 14), none⟩, .o ⟨(some 16), (some (15, true)), false, .mv (.t 5), none⟩, .o ⟨(some 17), (some (15, true)), false, .len (.t 16), none⟩, .o ⟨(some 18), (some (15, true)), false, .bin .eql (.t 17) (.c (.int .i64 0)), none⟩, .o ⟨(some 19), none, false, .pick (.t 15) (.t 18) (.c (.bool false)), none⟩, .o ⟨(some 4), none, false, .mv (.t 19), (some [4])⟩]
def k14_3 : ACode := .seq (.region k14_o2) .ret
def k14_4 : ACode := .seq (.region k14_o1) k14_3
def k14_5 : ACode := .seq (.region k14_o0) k14_4
@[simp, simp ↓] theorem k14_3r : sR k14_3 k14_o2 .ret := yR rfl
@[simp, simp ↓] theorem k14_4r : sR k14_4 k14_o1 k14_3 := yR rfl
@[simp, simp ↓] theorem k14_5r : sR k14_5 k14_o0 k14_4 := yR rfl
noncomputable abbrev k14_C : Orc → Cx := mkC Tryz.prog [] 14 20 [.tmp 4]
theorem k14_of : OfP Tryz.prog Tryz.f14 14 20 k14_C k14_5 := @ofP _ _ _ _ _ _ _ _ Tryz.func14 (by decide +kernel) rfl (by kernel_rfl) rfl (by kernel_rfl)
theorem implIsPot_c (x : Ph) (p : List Int) (h : Heap) (ok : x.ok) (hl : x.ts.length ≤ 1048576) (hp : p.length ≤ 1048576) : ACalls Tryz.prog 14 [x.av, .snap 1 (p.map iv)] h (fun v h' => v = .bool (decide (x.valid ∧ vec p x.n x.m ∧ x.wr p x.ts.length = [])) ∧ h' = h) := by
  refine k14_of rfl orcF_p fun I => ?_
  refine Run2.of I 1000 ?_
  simp -implicitDefEqProofs
  refine (implErrors_w x p h ok hl hp).mono ?_
  rintro v h' ⟨w, hp', rfl, hg, rfl⟩
  have hlen := hg.len
  refine gK.go ?_
  simp -implicitDefEqProofs [hlen]
  refine ⟨fun h1 => hg.dropped (.base ⟨?_, rfl⟩), fun h1 => hg.dropped (.base ⟨?_, rfl⟩)⟩
  all_goals (by_cases h2 : x.valid <;> by_cases h3 : vec p x.n x.m <;> simp_all [Ph.ecode, Ph.eres])
end Go.AG.P
