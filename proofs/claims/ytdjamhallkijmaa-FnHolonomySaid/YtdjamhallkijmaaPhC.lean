/- Lists of phases, and at which edges they are wrong: what the program's and the reference's functions give. No statement is made here. -/
import Derived.Test.YtdjamhallkijmaaPhVal
import Derived.Test.YtdjamhallkijmaaIntS
namespace Go.AG
open Go.Proofs Go.Proofs.Ytdjamhallkijmaa
set_option linter.unusedSimpArgs false
set_option linter.unusedVariables false
set_option maxRecDepth 4000
/-- The least number that is not negative and is n modulo p. -/
theorem mod_go {n p : Int} (hp : 0 < p) : (n.tmod p + p).tmod p = n % p := by
  have h1 := Int.tmod_lt_of_pos n hp
  have h2 : -p < n.tmod p := by
    have := Int.tmod_lt_of_pos (-n) hp
    rw [Int.neg_tmod] at this
    omega
  rw [Int.tmod_eq_emod_of_nonneg (by omega), Int.add_emod_right, Int.tmod_eq_emod]
  split
  · simp
  · rw [Int.sub_emod]
    have : (p.natAbs : Int) = p := by omega
    simp [this]
abbrev k54_o0 : List AJ := [.o ⟨(some 4), none, false, .mv (.c (.int .i64 0)), (some [0, 1])⟩]
abbrev k54_o1 : List AJ := [.o ⟨(some 5), none, false, .mv (.t 0), none⟩, .o ⟨(some 6), none, false, .mv (.t 1), none⟩, .o ⟨(some 7), none, false, .bin .rem (.t 5) (.t 6), none⟩, .o ⟨(some 8), none, false, .mv (.t 1), none⟩, .o ⟨(some 9), none, true, .bin .add (.t 7) (.t 8), none⟩, .o ⟨(some 10), none, false, .mv (.t 1), none⟩, .o ⟨(some 11), none, false, .bin .rem (.t 9) (.t 10), none⟩, .o ⟨(some 4), none, false, .mv (.t 11), (some [4])⟩]
def k54_2 : ACode := .seq (.region k54_o1) .ret
def k54_3 : ACode := .seq (.region k54_o0) k54_2
@[simp, simp ↓] theorem k54_2r : sR k54_2 k54_o1 .ret := yR rfl
@[simp, simp ↓] theorem k54_3r : sR k54_3 k54_o0 k54_2 := yR rfl
noncomputable abbrev k54_C : Orc → Cx := mkC Try.prog [] 54 12 [.tmp 4]
theorem k54_of0 : OfP0 Try.prog Try.f54 54 12 k54_C k54_3 := @ofP0 _ _ _ _ _ _ _ _ Try.func54 (by decide +kernel) rfl (by kernel_rfl) rfl (by kernel_rfl)
theorem l03Mod_c (n p : Int) (h : Heap) (hp : 0 < p ∧ p ≤ 1073741824) : ACalls Try.prog 54 [.int .i64 n, .int .i64 p] h (fun v h' => v = .int .i64 (n % p) ∧ h' = h) := by
  have h1 := Int.tmod_lt_of_pos n hp.1
  have h2 := Int.tmod_lt_of_pos (-n) hp.1
  rw [Int.neg_tmod] at h2
  refine k54_of0 rfl noPure fun I => ?_
  refine Run2.of I 1000 ?_
  simp -implicitDefEqProofs [mod_go hp.1]
  omega
noncomputable def o_l03Mod : List AV → Option (Prop × AV) := tab (fun (x : Int × Int) => match x with | (n, p) => [.int .i64 n, .int .i64 p]) (fun x => match x with | (n, p) => (0 < p ∧ p ≤ 1073741824)) (fun x => match x with | (n, p) => .int .i64 (n % p))
@[simp] theorem o_l03Mod_e (n : Int) (p : Int) : o_l03Mod [.int .i64 n, .int .i64 p] = some ((0 < p ∧ p ≤ 1073741824), .int .i64 (n % p)) := tab_at (enc := fun (x : Int × Int) => match x with | (n, p) => [.int .i64 n, .int .i64 p]) (fun x y h => by
  obtain ⟨n1, p1⟩ := x; obtain ⟨n2, p2⟩ := y; simp at h; simp [h] <;> omega) _ _ (n, p)
theorem o_l03Mod_k : Knows Try.prog 54 o_l03Mod := tab_knows fun x hx h => by
  obtain ⟨n, p⟩ := x; exact l03Mod_c n p h hx
/-- A list with n numbers modulo m. -/
def vec (l : List Int) (n m : Int) : Prop := l.length = n ∧ ∀ a ∈ l, 0 ≤ a ∧ a < m
instance (l : List Int) (n m : Int) : Decidable (vec l n m) := by unfold vec; infer_instance
theorem take_all {α : Type} {l : List α} {i : Nat} (P : α → Prop) (h : i < l.length) : (∀ a ∈ l.take (i + 1), P a) ↔ (∀ a ∈ l.take i, P a) ∧ P l[i] := by
  rw [List.take_succ_eq_append_getElem h]
  simp only [List.mem_append, List.mem_singleton]
  exact ⟨fun H => ⟨fun a ha => H a (.inl ha), H _ (.inr rfl)⟩, fun H a ha => ha.elim (H.1 a) fun e => e ▸ H.2⟩
noncomputable def orcC : List (Nat × (List AV → Option (Prop × AV))) := (54, o_l03Mod) :: orcV
theorem orcC_p : Pure Try.prog (lk orcC) := (lk_pure o_l03Mod_k orcV_p)
@[simp] theorem orcC_l (b : Bool) (g : FuncId) (l : List AV) : lk orcC b g l = if g = 54 then o_l03Mod l else lk orcV b g l := nr rfl
noncomputable def orcC2 : List (Nat × (List AV → Option (Prop × AV))) := orcC
theorem orcC2_p : Pure Try.prog (lk orcC2) := orcC_p
@[simp] theorem orcC2_l (b : Bool) (g : FuncId) (l : List AV) : lk orcC2 b g l = lk orcC b g l := nr rfl
/-! ## Where phases are wrong -/
def Ph.bad (x : Ph) (p : List Int) (t : T) : Bool := decide ((p.getD t.f.toNat 0 + t.s) % x.m ≠ p.getD t.t.toNat 0)
def Ph.wr (x : Ph) (p : List Int) (i : Nat) : List Int := ((List.range i).filter fun k => x.bad p (x.ts.getD k default)).map Int.ofNat
theorem Ph.wr_succ (x : Ph) (p : List Int) {i : Nat} (hi : i < x.ts.length) : x.wr p (i + 1) = x.wr p i ++ if x.bad p x.ts[i] then [(i : Int)] else [] := by
  unfold Ph.wr
  have : x.ts.getD i default = x.ts[i] := by simp [hi]
  rw [List.range_succ, List.filter_append, List.map_append]
  congr 1
  simp only [List.filter_cons, List.filter_nil, this]
  split <;> simp_all
theorem Ph.wr_len (x : Ph) (p : List Int) (i : Nat) : (x.wr p i).length ≤ i := by
  unfold Ph.wr
  rw [List.length_map]
  exact Nat.le_trans (List.length_filter_le _ _) (by simp)
theorem Ph.edge {x : Ph} (hv : x.valid) {i : Nat} (hi : i < x.ts.length) : x.el x.ts[i] := (hv.2.2.2.2.1 i hi hi).1
/-- What is known of an edge's ends in a list of phases. -/
theorem Ph.ends {x : Ph} (hv : x.valid) {p : List Int} (hp : vec p x.n x.m) {i : Nat} (hi : i < x.ts.length) :
    ∃ (h1 : x.ts[i].f.toNat < p.length) (h2 : x.ts[i].t.toNat < p.length), 0 ≤ x.ts[i].f ∧ 0 ≤ x.ts[i].t ∧ 0 ≤ x.ts[i].s ∧ x.ts[i].s < x.m ∧ (0 ≤ p[x.ts[i].f.toNat] ∧ p[x.ts[i].f.toNat] < x.m) ∧ (0 ≤ p[x.ts[i].t.toNat] ∧ p[x.ts[i].t.toNat] < x.m) ∧
      x.bad p x.ts[i] = decide ((p[x.ts[i].f.toNat] + x.ts[i].s) % x.m ≠ p[x.ts[i].t.toNat]) := by
  obtain ⟨e1, e2, e3, e4, e5⟩ := Ph.edge hv hi
  have hn := hp.1
  have h1 : x.ts[i].f.toNat < p.length := by omega
  have h2 : x.ts[i].t.toNat < p.length := by omega
  refine ⟨h1, h2, e1, by omega, e4, e5, hp.2 _ (List.getElem_mem h1), hp.2 _ (List.getElem_mem h2), ?_⟩
  unfold Ph.bad
  simp [h1, h2]
theorem bad_iff {a b s m : Int} (hb : 0 ≤ b ∧ b < m) : (b - a - s) % m = 0 ↔ (a + s) % m = b := by
  have : (b - a - s) = b - (a + s) := by omega
  rw [this, Int.sub_emod, Int.emod_eq_of_lt hb.1 hb.2]
  have h1 := Int.emod_nonneg (a + s) (show m ≠ 0 by omega)
  have h2 := Int.emod_lt_of_pos (a + s) (show 0 < m by omega)
  constructor
  · intro h
    rcases Int.lt_trichotomy (b - (a + s) % m) 0 with hlt | heq | hgt
    · have : (b - (a + s) % m) % m = b - (a + s) % m + m := by
        rw [← Int.add_emod_right, Int.emod_eq_of_lt (by omega) (by omega)]
      omega
    · omega
    · rw [Int.emod_eq_of_lt (by omega) (by omega)] at h; omega
  · intro h; rw [h]; simp
abbrev k50_o0 : List AJ := [.o ⟨(some 4), none, false, .mv (.c .nilsl), (some [0, 1])⟩]
abbrev k50_o1 : List AJ := [.e 8 1 none, .o ⟨(some 5), none, false, .mv (.t 8), (some [0, 1, 5])⟩]
abbrev k50_o2 : List AJ := [.o ⟨(some 6), none, false, .mv (.c (.int .i64 0)), (some [0, 1, 5, 6])⟩]
abbrev k50_o3 : List AJ := [.o ⟨(some 9), none, false, .mv (.t 6), none⟩, .o ⟨(some 10), none, false, .mv (.t 0), none⟩, .o ⟨(some 11), none, false, .nilchk (.t 10), none⟩, .o ⟨(some 12), none, false, .fieldA 2 (.t 11), none⟩, .o ⟨(some 13), none, false, .load 1 false (.t 12), none⟩, .o ⟨(some 14), none, false, .len (.t 13), none⟩, .o ⟨(some 15), none, false, .bin .lss (.t 9) (.t 14), (some [0, 1, 5, 6, 15])⟩]
def k50_4 : ACode := .cond (.t 15) .skip (.exit 0)
def k50_5 : ACode := .seq (.region k50_o3) k50_4
abbrev k50_o4 : List AJ := [.o ⟨(some 18), none, false, .mv (.t 0), none⟩, .o ⟨(some 19), none, false, .nilchk (.t 18), none⟩, .o ⟨(some 20), none, false, .fieldA 2 (.t 19), none⟩, .o ⟨(some 21), none, false, .load 1 false (.t 20), none⟩, .o ⟨(some 22), none, false, .mv (.t 6), none⟩, .o ⟨(some 23), none, false, .idxA 3 (.t 21) (.t 22), none⟩, .o ⟨(some 24), none, false, .load 3 true (.t 23), none⟩, .v 7 3 (.agg [(.int .i64 0), (.int .i64 0), (.int .i64 0)]) [] (.t 24) (some [0, 1, 5, 6, 7])]
abbrev k50_o5 : List AI := [⟨(some 25), none, false, .mv (.t 1), none⟩, ⟨(some 26), none, false, .fieldA 1 (.t 7), none⟩, ⟨(some 27), none, false, .load 1 false (.t 26), none⟩, ⟨(some 28), none, false, .idxA 1 (.t 25) (.t 27), none⟩, ⟨(some 29), none, false, .load 1 false (.t 28), none⟩, ⟨(some 30), none, false, .mv (.t 1), none⟩, ⟨(some 31), none, false, .fieldA 0 (.t 7), none⟩, ⟨(some 32), none, false, .load 1 false (.t 31), none⟩, ⟨(some 33), none, false, .idxA 1 (.t 30) (.t 32), none⟩, ⟨(some 34), none, false, .load 1 false (.t 33), none⟩, ⟨(some 35), none, true, .bin .sub (.t 29) (.t 34), none⟩, ⟨(some 36), none, false, .fieldA 2 (.t 7), none⟩, ⟨(some 37), none, false, .load 1 false (.t 36), none⟩, ⟨(some 38), none, true, .bin .sub (.t 35) (.t 37), (some [0, 1, 5, 6, 38])⟩, ⟨(some 39), none, false, .mv (.t 0), none⟩, ⟨(some 40), none, false, .nilchk (.t 39), none⟩, ⟨(some 41), none, false, .fieldA 1 (.t 40), none⟩, ⟨(some 42), none, false, .load 1 false (.t 41), none⟩, ⟨(some 43), none, false, .call 54 [(.t 38), (.t 42)], none⟩, ⟨(some 44), none, false, .bin .neq (.t 43) (.c (.int .i64 0)), (some [0, 1, 5, 6, 44])⟩]
abbrev k50_o6 : List AJ := [.o ⟨(some 45), none, false, .mv (.t 5), none⟩, .o ⟨(some 46), none, false, .mv (.t 6), none⟩, .o ⟨(some 47), none, false, .bsl false 1 [(.t 46)], none⟩, .o ⟨(some 48), none, false, .append 1 8 (.t 45) (.t 47), none⟩, .o ⟨(some 5), none, false, .mv (.t 48), (some [0, 1, 5, 6])⟩]
def k50_8 : ACode := .region k50_o6
def k50_9 : ACode := .cond (.t 44) k50_8 .skip
def k50_10 : ACode := .seq (.draw k50_o5 [] rfl) k50_9
def k50_11 : ACode := .seq (.region k50_o4) k50_10
abbrev k50_o7 : List AJ := [.o ⟨(some 16), none, false, .mv (.t 6), none⟩, .o ⟨(some 17), none, true, .bin .add (.t 16) (.c (.int .i64 1)), none⟩, .o ⟨(some 6), none, false, .mv (.t 17), (some [0, 1, 5, 6])⟩]
def k50_13 : ACode := .region k50_o7
def k50_14 : ACode := .seq (.block 1 k50_11) k50_13
def k50_15 : ACode := .seq k50_5 k50_14
def k50_16 : ACode := .loop k50_15
def k50_17 : ACode := .block 0 k50_16
def k50_18 : ACode := .seq (.region k50_o2) k50_17
abbrev k50_o8 : List AJ := [.o ⟨(some 49), none, false, .mv (.t 5), none⟩, .o ⟨(some 4), none, false, .mv (.t 49), (some [4])⟩]
def k50_20 : ACode := .seq (.region k50_o8) .ret
def k50_21 : ACode := .seq k50_18 k50_20
def k50_22 : ACode := .seq (.region k50_o1) k50_21
def k50_23 : ACode := .seq (.region k50_o0) k50_22
@[simp, simp ↓] theorem k50_4r : rC k50_4 (.t 15) .skip (.exit 0) := zC rfl
@[simp, simp ↓] theorem k50_5r : sR k50_5 k50_o3 k50_4 := yR rfl
@[simp, simp ↓] theorem k50_8r : rR k50_8 k50_o6 := zR rfl
@[simp, simp ↓] theorem k50_9r : rC k50_9 (.t 44) k50_8 .skip := zC rfl
@[simp, simp ↓] theorem k50_10r : sD k50_10 k50_o5 [] k50_9 := yD rfl
@[simp, simp ↓] theorem k50_11r : sR k50_11 k50_o4 k50_10 := yR rfl
@[simp, simp ↓] theorem k50_13r : rR k50_13 k50_o7 := zR rfl
@[simp, simp ↓] theorem k50_14r : sB k50_14 1 k50_11 k50_13 := yB rfl
@[simp, simp ↓] theorem k50_15r : rS k50_15 k50_5 k50_14 := zS rfl
@[simp, simp ↓] theorem k50_16r : rL k50_16 k50_15 := zL rfl
@[simp, simp ↓] theorem k50_17r : rB k50_17 0 k50_16 := zB rfl
@[simp, simp ↓] theorem k50_18r : sR k50_18 k50_o2 k50_17 := yR rfl
@[simp, simp ↓] theorem k50_20r : sR k50_20 k50_o8 .ret := yR rfl
@[simp, simp ↓] theorem k50_21r : rS k50_21 k50_18 k50_20 := zS rfl
@[simp, simp ↓] theorem k50_22r : sR k50_22 k50_o1 k50_21 := yR rfl
@[simp, simp ↓] theorem k50_23r : sR k50_23 k50_o0 k50_22 := yR rfl
noncomputable abbrev k50_C : Orc → Cx := mkC Try.prog [7, 8] 50 50 [.tmp 4]
theorem k50_of : OfP Try.prog Try.f50 50 50 k50_C k50_23 := @ofP _ _ _ _ _ _ _ _ Try.func50 (by decide +kernel) rfl (by kernel_rfl) rfl (by kernel_rfl)
theorem l23Wrong_c (x : Ph) (p : List Int) (h : Heap) (hv : x.valid) (hp : vec p x.n x.m) : ACalls Try.prog 50 [.ip [.int .i64 x.n, .int .i64 x.m, .snap 3 (x.ts.map T.av)], .snap 1 (p.map iv)] h (fun v h' => v = .snap 1 ((x.wr p x.ts.length).map iv) ∧ h' = h) := by
  have hm1 := hv.2.2.1
  have hm2 := hv.2.2.2.1
  have hl := hv.2.2.2.2.2
  refine k50_of rfl orcC_p fun I => ?_
  refine Run2.of I 1000 ?_
  simp -implicitDefEqProofs
  refine Run2.loopE (α := Nat × AV × Heap) (fun s => [(0, .ip [.int .i64 x.n, .int .i64 x.m, .snap 3 (x.ts.map T.av)]), (1, .snap 1 (p.map iv)), (5, s.2.1), (6, .int .i64 (s.1 : Nat))]) (fun s => s.2.2 ++ h) (fun s => x.ts.length - s.1) (fun s => s.1 ≤ x.ts.length ∧ Grow 1 s.2.1 ((x.wr p s.1).map iv) s.2.2) (0, .emp, []) (by simp) rfl ⟨Nat.zero_le _, by simpa [Ph.wr] using Grow.emp⟩ ?_
  rintro ⟨i, w, hp'⟩ ⟨hi, hg⟩ ih
  by_cases hlt : i < x.ts.length
  · obtain ⟨h1, h2, e1, e2, e3, e4, e5, e6, hb⟩ := Ph.ends hv hp hlt
    have hbi := bad_iff (a := p[x.ts[i].f.toNat]) (s := x.ts[i].s) e6
    have hw := x.wr_succ p hlt
    have hwl := x.wr_len p i
    have go := fun w' hp'' hg' => ih (i + 1, w', hp'') ⟨by simp; omega, hg'⟩ (by simp; omega)
    clear ih
    refine Run2.of I 1000 ?_
    simp -implicitDefEqProofs [hlt, h1, h2, e1, e2]
    repeat' (first | refine And.intro ?_ ?_ | intro _)
    all_goals first | omega | skip
    · rename_i hne
      refine Grow.app hg (by simp; omega) (by simp) fun w' hp'' hg' => ?_
      simp -implicitDefEqProofs
      rw [hb, if_pos (by simpa using fun h => hne (hbi.2 h))] at hw
      exact ⟨by omega, go w' hp'' (by rw [hw]; simpa using hg')⟩
    · rename_i hne
      rw [hb, if_neg (by simpa using hbi.1 hne), List.append_nil] at hw
      exact go w hp' (by rw [hw]; exact hg)
  · obtain rfl : i = x.ts.length := by simp at hi hlt; omega
    refine Run2.of I 1000 ?_
    simp -implicitDefEqProofs
    exact hg.froze (fun v => v) (fun _ _ _ => rfl) (fun _ _ h => h) (.base ⟨rfl, rfl⟩)
noncomputable def o_l23Wrong : List AV → Option (Prop × AV) := tab (fun (x : Int × Int × List T × List Int) => match x with | (n, m, ts, p) => [.ip [.int .i64 n, .int .i64 m, .snap 3 (ts.map T.av)], .snap 1 (p.map iv)]) (fun x => match x with | (n, m, ts, p) => (Ph.valid ⟨n, m, ts⟩ ∧ vec p n m)) (fun x => match x with | (n, m, ts, p) => .snap 1 ((Ph.wr ⟨n, m, ts⟩ p ts.length).map iv))
@[simp] theorem o_l23Wrong_e (n : Int) (m : Int) (ts : List T) (p : List Int) : o_l23Wrong [.ip [.int .i64 n, .int .i64 m, .snap 3 (ts.map T.av)], .snap 1 (p.map iv)] = some ((Ph.valid ⟨n, m, ts⟩ ∧ vec p n m), .snap 1 ((Ph.wr ⟨n, m, ts⟩ p ts.length).map iv)) := tab_at (enc := fun (x : Int × Int × List T × List Int) => match x with | (n, m, ts, p) => [.ip [.int .i64 n, .int .i64 m, .snap 3 (ts.map T.av)], .snap 1 (p.map iv)]) (fun x y h => by
  obtain ⟨n1, m1, ts1, p1⟩ := x; obtain ⟨n2, m2, ts2, p2⟩ := y; simp at h; simp [h] <;> omega) _ _ (n, m, ts, p)
theorem o_l23Wrong_k : Knows Try.prog 50 o_l23Wrong := tab_knows fun x hx h => by
  obtain ⟨n, m, ts, p⟩ := x; exact l23Wrong_c ⟨n, m, ts⟩ p h hx.1 hx.2
noncomputable def orcC3 : List (Nat × (List AV → Option (Prop × AV))) := (50, o_l23Wrong) :: orcC
theorem orcC3_p : Pure Try.prog (lk orcC3) := (lk_pure o_l23Wrong_k orcC_p)
@[simp] theorem orcC3_l (b : Bool) (g : FuncId) (l : List AV) : lk orcC3 b g l = if g = 50 then o_l23Wrong l else lk orcC b g l := nr rfl
/-- What ErrorsOf gives: a list and a code. -/
noncomputable def Ph.eres (x : Ph) (p : List Int) : List Int := if x.valid ∧ vec p x.n x.m then x.wr p x.ts.length else []
noncomputable def Ph.ecode (x : Ph) (p : List Int) : Int := if x.valid then (if vec p x.n x.m then 0 else 7) else 1
noncomputable def Ph.eav (x : Ph) (p : List Int) : AV := if x.valid ∧ vec p x.n x.m then .snap 1 ((x.wr p x.ts.length).map iv) else .nilsl
theorem Ph.eav_is (x : Ph) (p : List Int) : IsL iv 1 (x.eav p) (x.eres p) := by
  unfold Ph.eav Ph.eres
  split
  · exact .snap _
  · exact .nil
theorem Ph.valid_m {x : Ph} (h : x.valid) : 0 < x.m ∧ x.m ≤ 1073741824 := by
  have := h.2.2.1; have := h.2.2.2.1; omega
theorem Ph.eres_len (x : Ph) (p : List Int) : (x.eres p).length ≤ 24 := by
  unfold Ph.eres
  split
  · rename_i h
    exact Nat.le_trans (x.wr_len p _) h.1.2.2.2.2.2
  · simp
/-! ## The program's functions -/
abbrev k64_o0 : List AJ := [.o ⟨(some 2), none, false, .mv (.c (.int .i64 0)), (some [0])⟩]
abbrev k64_o1 : List AJ := [.o ⟨(some 3), none, false, .mv (.t 0), none⟩, .o ⟨(some 4), none, false, .len (.t 3), none⟩, .o ⟨(some 2), none, false, .mv (.t 4), (some [2])⟩]
def k64_2 : ACode := .seq (.region k64_o1) .ret
def k64_3 : ACode := .seq (.region k64_o0) k64_2
@[simp, simp ↓] theorem k64_2r : sR k64_2 k64_o1 .ret := yR rfl
@[simp, simp ↓] theorem k64_3r : sR k64_3 k64_o0 k64_2 := yR rfl
noncomputable abbrev k64_C : Orc → Cx := mkC Try.prog [] 64 5 [.tmp 2]
theorem k64_of0 : OfP0 Try.prog Try.f64 64 5 k64_C k64_3 := @ofP0 _ _ _ _ _ _ _ _ Try.func64 (by decide +kernel) rfl (by kernel_rfl) rfl (by kernel_rfl)
theorem size_c (u : AV) (h : Heap) (hu : isInts u) (hl : (intsOf u).length ≤ 1048576) : ACalls Try.prog 64 [u] h (fun v h' => v = .int .i64 (intsOf u).length ∧ h' = h) := by
  refine ACalls.wk (.cons (.ints hu) .nil) ?_
  refine k64_of0 rfl noPure fun I => ?_
  refine Run2.of I 1000 ?_
  simp -implicitDefEqProofs
noncomputable def o_size : List AV → Option (Prop × AV) := tab (fun (x : AV) => match x with | u => [u]) (fun x => match x with | u => (isInts u ∧ (intsOf u).length ≤ 1048576)) (fun x => match x with | u => .int .i64 (intsOf u).length)
@[simp] theorem o_size_e (u : AV) : o_size [u] = some ((isInts u ∧ (intsOf u).length ≤ 1048576), .int .i64 (intsOf u).length) := tab_at (enc := fun (x : AV) => match x with | u => [u]) (fun x y h => by
  simp at h; simp [h] <;> omega) _ _ u
theorem o_size_k : Knows Try.prog 64 o_size := tab_knows fun x hx h => by
  exact size_c x h hx.1 hx.2
/-- The first place where q holds. -/
def idxf (q : Int → Bool) (l : List Int) : Int := match l.findIdx? q with
  | some i => i
  | none => -1
theorem idxf_at {q : Int → Bool} {l : List Int} {i : Nat} (h : i < l.length) (hb : ∀ j (hj : j < l.length), j < i → q l[j] = false) (ht : q l[i] = true) : idxf q l = i := by
  have : l.findIdx? q = some i := List.findIdx?_eq_some_iff_getElem.2 ⟨h, ht, fun j hj => by simp [hb j (by omega) hj]⟩
  unfold idxf; rw [this]
theorem idxf_none {q : Int → Bool} {l : List Int} (hb : ∀ j (hj : j < l.length), q l[j] = false) : idxf q l = -1 := by
  have : l.findIdx? q = none := List.findIdx?_eq_none_iff.2 fun a ha => by
    obtain ⟨j, hj, rfl⟩ := List.mem_iff_getElem.1 ha
    simp [hb j hj]
  unfold idxf; rw [this]
theorem idxf_ge (q : Int → Bool) (l : List Int) : (0 ≤ idxf q l) ↔ ∃ a ∈ l, q a = true := by
  unfold idxf
  cases h : l.findIdx? q with
  | none =>
    rw [List.findIdx?_eq_none_iff] at h
    simp only [show ¬ (0 : Int) ≤ -1 by omega, false_iff]
    rintro ⟨a, ha, hq⟩
    have := h a ha
    rw [hq] at this; cases this
  | some i =>
    obtain ⟨hi, hq, _⟩ := List.findIdx?_eq_some_iff_getElem.1 h
    simp only [Int.natCast_nonneg, true_iff]
    exact ⟨_, List.getElem_mem hi, hq⟩
noncomputable def orcE : List (Nat × (List AV → Option (Prop × AV))) := (64, o_size) :: orcC3
theorem orcE_p : Pure Try.prog (lk orcE) := (lk_pure o_size_k orcC3_p)
@[simp] theorem orcE_l (b : Bool) (g : FuncId) (l : List AV) : lk orcE b g l = if g = 64 then o_size l else lk orcC3 b g l := nr rfl
noncomputable def orcE2 : List (Nat × (List AV → Option (Prop × AV))) := orcE
theorem orcE2_p : Pure Try.prog (lk orcE2) := orcE_p
@[simp] theorem orcE2_l (b : Bool) (g : FuncId) (l : List AV) : lk orcE2 b g l = lk orcE b g l := nr rfl
abbrev k26_o0 : List AJ := [.o ⟨(some 2), none, false, .box false 3 (.t 0), none⟩, .o ⟨(some 4), none, false, .mv (.c .nilsl), (some [1, 2])⟩]
abbrev k26_o1 : List AJ := [.o ⟨(some 5), none, false, .mv (.c .nilsl), (some [1, 2, 5])⟩]
abbrev k26_o2 : List AJ := [.o ⟨(some 8), none, false, .fieldA 2 (.t 2), none⟩, .o ⟨(some 9), none, false, .load 1 false (.t 8), none⟩, .o ⟨(some 10), none, false, .len (.t 9), none⟩, .o ⟨(some 11), none, false, .mv (.c (.int .i64 0)), (some [1, 2, 5, 9, 10, 11])⟩]
abbrev k26_o3 : List AJ := [.o ⟨(some 12), none, false, .bin .lss (.t 11) (.t 10), (some [1, 2, 5, 9, 10, 11, 12])⟩]
abbrev k26_o4 : List AJ := [.o ⟨(some 13), none, false, .mv (.t 11), none⟩, .o ⟨(some 14), none, false, .idxA 3 (.t 9) (.t 11), none⟩, .o ⟨(some 15), none, false, .load 3 true (.t 14), none⟩, .v 7 3 (.agg [(.int .i64 0), (.int .i64 0), (.int .i64 0)]) [(6, (.t 13))] (.t 15) (some [1, 2, 5, 6, 7, 9, 10, 11])]
abbrev k26_o5 : List AI := [⟨(some 16), none, false, .mv (.t 1), none⟩, ⟨(some 17), none, false, .fieldA 0 (.t 7), none⟩, ⟨(some 18), none, false, .load 1 false (.t 17), none⟩, ⟨(some 19), none, false, .idxA 1 (.t 16) (.t 18), none⟩, ⟨(some 20), none, false, .load 1 false (.t 19), none⟩, ⟨(some 21), none, false, .fieldA 2 (.t 7), none⟩, ⟨(some 22), none, false, .load 1 false (.t 21), none⟩, ⟨(some 23), none, true, .bin .add (.t 20) (.t 22), none⟩, ⟨(some 24), none, false, .fieldA 1 (.t 2), none⟩, ⟨(some 25), none, false, .load 1 false (.t 24), none⟩, ⟨(some 26), none, false, .bin .rem (.t 23) (.t 25), none⟩, ⟨(some 27), none, false, .mv (.t 1), none⟩, ⟨(some 28), none, false, .fieldA 1 (.t 7), none⟩, ⟨(some 29), none, false, .load 1 false (.t 28), (some [1, 2, 5, 6, 9, 10, 11, 26, 27, 29])⟩, ⟨(some 30), none, false, .idxA 1 (.t 27) (.t 29), none⟩, ⟨(some 31), none, false, .load 1 false (.t 30), none⟩, ⟨(some 32), none, false, .bin .neq (.t 26) (.t 31), (some [1, 2, 5, 6, 9, 10, 11, 32])⟩]
abbrev k26_o6 : List AJ := [.o ⟨(some 33), none, false, .mv (.t 5), none⟩, .o ⟨(some 34), none, false, .mv (.t 6), none⟩, .o ⟨(some 35), none, false, .bsl false 1 [(.t 34)], none⟩, .o ⟨(some 36), none, false, .append 1 8 (.t 33) (.t 35), none⟩, .o ⟨(some 5), none, false, .mv (.t 36), (some [1, 2, 5, 9, 10, 11])⟩]
def k26_7 : ACode := .region k26_o6
def k26_8 : ACode := .cond (.t 32) k26_7 .skip
def k26_9 : ACode := .seq (.draw k26_o5 [] rfl) k26_8
def k26_10 : ACode := .seq (.region k26_o4) k26_9
abbrev k26_o7 : List AJ := [.o ⟨(some 37), none, true, .bin .add (.t 11) (.c (.int .i64 1)), none⟩, .o ⟨(some 11), none, false, .mv (.t 37), (some [1, 2, 5, 9, 10, 11])⟩]
def k26_12 : ACode := .region k26_o7
def k26_13 : ACode := .seq (.block 1 k26_10) k26_12
def k26_14 : ACode := .seq (.cond (.t 12) .skip (.exit 0)) k26_13
def k26_15 : ACode := .seq (.region k26_o3) k26_14
def k26_16 : ACode := .loop k26_15
def k26_17 : ACode := .block 0 k26_16
def k26_18 : ACode := .seq (.region k26_o2) k26_17
abbrev k26_o8 : List AJ := [.o ⟨(some 38), none, false, .mv (.t 5), none⟩, .o ⟨(some 4), none, false, .mv (.t 38), (some [4])⟩]
def k26_20 : ACode := .seq (.region k26_o8) .ret
def k26_21 : ACode := .seq k26_18 k26_20
def k26_22 : ACode := .seq (.region k26_o1) k26_21
def k26_23 : ACode := .seq (.region k26_o0) k26_22
@[simp, simp ↓] theorem k26_7r : rR k26_7 k26_o6 := zR rfl
@[simp, simp ↓] theorem k26_8r : rC k26_8 (.t 32) k26_7 .skip := zC rfl
@[simp, simp ↓] theorem k26_9r : sD k26_9 k26_o5 [] k26_8 := yD rfl
@[simp, simp ↓] theorem k26_10r : sR k26_10 k26_o4 k26_9 := yR rfl
@[simp, simp ↓] theorem k26_12r : rR k26_12 k26_o7 := zR rfl
@[simp, simp ↓] theorem k26_13r : sB k26_13 1 k26_10 k26_12 := yB rfl
@[simp, simp ↓] theorem k26_14r : sC k26_14 (.t 12) .skip (.exit 0) k26_13 := yC rfl
@[simp, simp ↓] theorem k26_15r : sR k26_15 k26_o3 k26_14 := yR rfl
@[simp, simp ↓] theorem k26_16r : rL k26_16 k26_15 := zL rfl
@[simp, simp ↓] theorem k26_17r : rB k26_17 0 k26_16 := zB rfl
@[simp, simp ↓] theorem k26_18r : sR k26_18 k26_o2 k26_17 := yR rfl
@[simp, simp ↓] theorem k26_20r : sR k26_20 k26_o8 .ret := yR rfl
@[simp, simp ↓] theorem k26_21r : rS k26_21 k26_18 k26_20 := zS rfl
@[simp, simp ↓] theorem k26_22r : sR k26_22 k26_o1 k26_21 := yR rfl
@[simp, simp ↓] theorem k26_23r : sR k26_23 k26_o0 k26_22 := yR rfl
noncomputable abbrev k26_C : Orc → Cx := mkC Try.prog [7] 26 39 [.tmp 4]
theorem k26_of0 : OfP0 Try.prog Try.f26 26 39 k26_C k26_23 := @ofP0 _ _ _ _ _ _ _ _ Try.func26 (by decide +kernel) rfl (by kernel_rfl) rfl (by kernel_rfl)
theorem errorsOf_w (x : Ph) (p : List Int) (h : Heap) (hv : x.valid) (hp : vec p x.n x.m) : ACalls Try.prog 26 [x.av, .snap 1 (p.map iv)] h (fun v h' => ∃ hp, Grow 1 v ((x.wr p x.ts.length).map iv) hp ∧ h' = hp ++ h) := by
  have hm1 := hv.2.2.1
  have hm2 := hv.2.2.2.1
  have hl := hv.2.2.2.2.2
  refine k26_of0 rfl noPure fun I => ?_
  refine Run2.of I 1000 ?_
  simp -implicitDefEqProofs
  refine Run2.loopE (α := Nat × AV × Heap) (fun s => [(1, .snap 1 (p.map iv)), (2, .ip [.int .i64 x.n, .int .i64 x.m, .snap 3 (x.ts.map T.av)]), (5, s.2.1), (9, .snap 3 (x.ts.map T.av)), (10, .int .i64 x.ts.length), (11, .int .i64 (s.1 : Nat))]) (fun s => s.2.2 ++ h) (fun s => x.ts.length - s.1) (fun s => s.1 ≤ x.ts.length ∧ Grow 1 s.2.1 ((x.wr p s.1).map iv) s.2.2) (0, .nilsl, []) (by simp) rfl ⟨Nat.zero_le _, by simpa [Ph.wr] using Grow.nil⟩ ?_
  rintro ⟨i, w, hp'⟩ ⟨hi, hg⟩ ih
  by_cases hlt : i < x.ts.length
  · obtain ⟨h1, h2, e1, e2, e3, e4, e5, e6, hb⟩ := Ph.ends hv hp hlt
    have hw := x.wr_succ p hlt
    have hwl := x.wr_len p i
    have htm : (p[x.ts[i].f.toNat] + x.ts[i].s).tmod x.m = (p[x.ts[i].f.toNat] + x.ts[i].s) % x.m := Int.tmod_eq_emod_of_nonneg (by omega)
    have go := fun w' hp'' hg' => ih (i + 1, w', hp'') ⟨by simp; omega, hg'⟩ (by simp; omega)
    clear ih
    refine Run2.of I 1000 ?_
    simp -implicitDefEqProofs [hlt, h1, h2, e1, e2, htm]
    repeat' (first | refine And.intro ?_ ?_ | intro _)
    all_goals first | omega | skip
    · rename_i hne
      refine Grow.app hg (by simp; omega) (by simp) fun w' hp'' hg' => ?_
      simp -implicitDefEqProofs
      rw [hb, if_pos (by simpa using hne)] at hw
      exact ⟨by omega, go w' hp'' (by rw [hw]; simpa using hg')⟩
    · rename_i hne
      rw [hb, if_neg (by simpa using hne), List.append_nil] at hw
      exact go w hp' (by rw [hw]; exact hg)
  · obtain rfl : i = x.ts.length := by simp at hi hlt; omega
    refine Run2.of I 1000 ?_
    simp -implicitDefEqProofs
    exact hg
noncomputable def orcF : List (Nat × (List AV → Option (Prop × AV))) := (24, o_valid) :: orcE2
theorem orcF_p : Pure Try.prog (lk orcF) := (lk_pure o_valid_k orcE2_p)
@[simp] theorem orcF_l (b : Bool) (g : FuncId) (l : List AV) : lk orcF b g l = if g = 24 then o_valid l else lk orcE2 b g l := nr rfl
end Go.AG
