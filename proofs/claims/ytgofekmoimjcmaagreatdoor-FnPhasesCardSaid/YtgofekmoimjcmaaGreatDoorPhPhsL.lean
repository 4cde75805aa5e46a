/- The law FnPhases is true for every input: potentials have the differences, adding phases keeps the sums along loops, and phases are restored from their texts. The listed package-level variables (tables and errors of the library) read as the program's text lays them. -/
import Derived.Test.YtgofekmoimjcmaaGreatDoorPhPl
import Derived.Test.YtgofekmoimjcmaaGreatDoorRdPs
import Derived.Test.YtgofekmoimjcmaaGreatDoorSrP
import Derived.Test.YtgofekmoimjcmaaGreatDoorSrA
import Derived.Test.YtgofekmoimjcmaaGreatDoorAGHand
import Derived.Test.YtgofekmoimjcmaaGreatDoorCards
import Derived.Test.YtgofekmoimjcmaaGreatDoorTie
import Derived.ProofKit
import Derived.LaidMore
import Derived.OpenShut
import Derived.Stop.Joined
import Derived.Stop.LaidErr
namespace Go.AG.P
open Go.Proofs Go.Proofs.YtgofekmoimjcmaaGreatDoor
set_option linter.unusedSimpArgs false
set_option linter.unusedVariables false
set_option maxRecDepth 4000
theorem lend1_tup2b (L : Heap) (a : AV) (b : Bool) : lend1 L (.tup [a, .bool b]) = .tup [lend1 L a, .bool b] := by
  induction L generalizing a with
  | nil => rfl
  | cons p L ih => simp only [lend1, fz, fzs]; exact ih _
theorem frzP {P : Program} {g : FuncId} {args : List AV} {y : Ph} {c : Int} (H : ACalls P g args [] (fun v h' => ∃ w, v = .tup [w, .int .i64 c] ∧ OwnPh w y h')) (h : Heap) : ACalls P g args h (fun v h' => v = .tup [y.av, .int .i64 c] ∧ h' = h) := by
  refine ACalls.post ((ACalls.gives (h := h) [] (by simp) H fun v h' ⟨w, e, o⟩ => ?_).mono ?_)
  · have := o.own
    subst e
    exact ⟨by simp [own, owns, this.1], this.2⟩
  · rintro v h'' ⟨h', ⟨w, rfl, o⟩, _, rfl⟩
    refine Post.lend ?_
    rw [lend1_tup2, lend1_cold h' (x := .int .i64 c) rfl]
    exact .wk (.tup (.cons o.lent.wk (.cons (.refl _) .nil))) (.base ⟨rfl, rfl⟩)
theorem frzPb {P : Program} {g : FuncId} {args : List AV} {y : Ph} {c : Bool} (H : ACalls P g args [] (fun v h' => ∃ w, v = .tup [w, .bool c] ∧ OwnPh w y h')) (h : Heap) : ACalls P g args h (fun v h' => v = .tup [y.av, .bool c] ∧ h' = h) := by
  refine ACalls.post ((ACalls.gives (h := h) [] (by simp) H fun v h' ⟨w, e, o⟩ => ?_).mono ?_)
  · have := o.own
    subst e
    exact ⟨by simp [own, owns, this.1], this.2⟩
  · rintro v h'' ⟨h', ⟨w, rfl, o⟩, _, rfl⟩
    refine Post.lend ?_
    rw [lend1_tup2b]
    exact .wk (.tup (.cons o.lent.wk (.cons (.refl _) .nil))) (.base ⟨rfl, rfl⟩)
/-- What is printed is read again. -/
theorem rp_text {x : Ph} (hv : x.valid) : rpX (phT x) = x ∧ rpO (phT x) = true := by
  have hs : spl 32 (phT x) = phH x :: x.ts.map tT := by
    unfold phT
    rw [if_pos hv]
    refine join_spl 32 _ (by simp) fun w hw => ?_
    rcases List.mem_cons.1 hw with rfl | hw
    · exact phH_32 _
    · obtain ⟨t, _, rfl⟩ := List.mem_map.1 hw
      exact tT_32 t
  have hn : in18 x.n ∧ in18 x.m := by
    obtain ⟨v1, v2, v3, v4, _⟩ := hv
    unfold in18; omega
  have r1 : rd (Lib.itoa x.n) = (x.n, true) := rd_some rfl hn.1
  have r2 : rd (Lib.itoa x.m) = (x.m, true) := rd_some rfl hn.2
  have hw : ∀ t ∈ x.ts, rlL (tT t) = [t.f, t.t, t.s] := fun t ht => rl_tT (valid_el hv ht)
  have e : ((x.ts.map tT).map fun w => t3 (rlL w)) = x.ts := by
    rw [List.map_map]
    conv => rhs; rw [← List.map_id x.ts]
    exact List.map_congr_left fun t ht => by simp only [Function.comp_apply]; rw [hw t ht]; rfl
  have key := rp_good hs (two_spl (it37 x.n) (it37 x.m)) (by rw [r1]) (by rw [r2]) (fun w hm => by
    obtain ⟨t, ht, rfl⟩ := List.mem_map.1 hm
    rw [hw t ht]; rfl) (by rw [e, r1, r2]; exact hv)
  rw [e, r1, r2] at key
  exact key
theorem phT_len {x : Ph} (hv : x.valid) : (phT x).length ≤ 2000 := by
  unfold phT
  rw [if_pos hv]
  have := ph_takeL hv x.ts.length (Nat.le_refl _)
  rwa [List.take_length] at this
abbrev k4_o0 : List AJ := [.o ⟨(some 4), none, false, .mv (.c (.bool false)), (some [0, 1])⟩]
abbrev k4_o1 : List AJ := [.o ⟨(some 5), none, false, .mv (.t 0), none⟩, .o ⟨(some 6), none, false, .len (.t 5), none⟩, .o ⟨(some 7), none, false, .bin .gtr (.t 6) (.c (.int .i64 1048576)), none⟩, .o ⟨(some 8), none, false, .mv (.t 7), none⟩, .o ⟨(some 9), (some (8, false)), false, .mv (.t 1), none⟩, .o ⟨(some 10), (some (8, false)), false, .len (.t 9), none⟩, .o ⟨(some 11), (some (8, false)), false, .bin .gtr (.t 10) (.c (.int .i64 1048576)), none⟩, .o ⟨(some 12), none, false, .pick (.t 8) (.c (.bool true)) (.t 11), none⟩, .o ⟨(some 4), none, false, .mv (.t 12), (some [4])⟩]
def k4_2 : ACode := .seq (.region k4_o1) .ret
def k4_3 : ACode := .seq (.region k4_o0) k4_2
@[simp, simp ↓] theorem k4_2r : sR k4_2 k4_o1 .ret := yR rfl
@[simp, simp ↓] theorem k4_3r : sR k4_3 k4_o0 k4_2 := yR rfl
noncomputable abbrev k4_C : Orc → Cx := mkC Tryz.prog [] 4 13 [.tmp 4]
theorem k4_of0 : OfP0 Tryz.prog Tryz.f4 4 13 k4_C k4_3 := @ofP0 _ _ _ _ _ _ _ _ Tryz.func4 (by decide +kernel) rfl (by kernel_rfl) rfl (by kernel_rfl)
theorem r8Long_c (a b : List UInt8) (h : Heap) : ACalls Tryz.prog 4 [.snap 1 (a.map bv), .snap 1 (b.map bv)] h (fun v h' => v = .bool (decide (1048576 < a.length) || decide (1048576 < b.length)) ∧ h' = h) := by
  refine k4_of0 rfl noPure fun I => ?_
  refine Run2.of I 1000 ?_
  simp -implicitDefEqProofs
  refine ⟨fun h1 => ?_, fun h1 => .inl (by omega)⟩
  rw [Bool.eq_iff_iff]
  simp
  omega
abbrev k13_o0 : List AJ := [.o ⟨(some 1), none, false, .box false 3 (.t 0), none⟩, .o ⟨(some 2), none, false, .mv (.c (.bool false)), (some [1])⟩]
abbrev k13_o1 : List AJ := [.o ⟨(some 3), none, false, .call 33 [(.t 1)], none⟩, .o ⟨(some 2), none, false, .mv (.t 3), (some [2])⟩]
def k13_2 : ACode := .seq (.region k13_o1) .ret
def k13_3 : ACode := .seq (.region k13_o0) k13_2
@[simp, simp ↓] theorem k13_2r : sR k13_2 k13_o1 .ret := yR rfl
@[simp, simp ↓] theorem k13_3r : sR k13_3 k13_o0 k13_2 := yR rfl
noncomputable abbrev k13_C : Orc → Cx := mkC Tryz.prog [] 13 4 [.tmp 2]
theorem k13_of0 : OfP0 Tryz.prog Tryz.f13 13 4 k13_C k13_3 := @ofP0 _ _ _ _ _ _ _ _ Tryz.func13 (by decide +kernel) rfl (by kernel_rfl) rfl (by kernel_rfl)
theorem specValid_c (x : Ph) (h : Heap) (hl : x.ts.length ≤ 1048576) (ok : x.ok) : ACalls Tryz.prog 13 [x.av] h (fun v h' => v = .bool (decide x.valid) ∧ h' = h) := by
  refine k13_of0 rfl orcV_p fun I => ?_
  refine Run2.of I 1000 ?_
  simp -implicitDefEqProofs [hl, ok]
abbrev k15_o0 : List AJ := [.o ⟨(some 2), none, false, .box false 3 (.t 0), none⟩, .o ⟨(some 3), none, false, .box false 3 (.t 1), none⟩, .o ⟨(some 4), none, false, .mv (.c (.bool false)), (some [2, 3])⟩]
abbrev k15_o1 : List AJ := [.o ⟨(some 6), none, false, .fieldA 0 (.t 2), none⟩, .o ⟨(some 7), none, false, .load 1 false (.t 6), none⟩, .o ⟨(some 8), none, false, .fieldA 0 (.t 3), none⟩, .o ⟨(some 9), none, false, .load 1 false (.t 8), none⟩, .o ⟨(some 10), none, false, .bin .neq (.t 7) (.t 9), none⟩, .o ⟨(some 11), none, false, .mv (.t 10), none⟩, .o ⟨(some 12), (some (11, false)), false, .fieldA 1 (.t 2), none⟩, .o ⟨(some 13), (some (11, false)), false, .load 1 false (.t 12), none⟩, .o ⟨(some 14), (some (11, false)), false, .fieldA 1 (.t 3), none⟩, .o ⟨(some 15), (some (11, false)), false, .load 1 false (.t 14), (some [2, 3, 11, 13, 15])⟩, .o ⟨(some 16), (some (11, false)), false, .bin .neq (.t 13) (.t 15), none⟩, .o ⟨(some 17), none, false, .pick (.t 11) (.c (.bool true)) (.t 16), none⟩, .o ⟨(some 18), none, false, .mv (.t 17), none⟩, .o ⟨(some 19), (some (18, false)), false, .fieldA 2 (.t 2), none⟩, .o ⟨(some 20), (some (18, false)), false, .load 1 false (.t 19), none⟩, .o ⟨(some 21), (some (18, false)), false, .len (.t 20), none⟩, .o ⟨(some 22), (some (18, false)), false, .fieldA 2 (.t 3), none⟩, .o ⟨(some 23), (some (18, false)), false, .load 1 false (.t 22), (some [2, 3, 18, 21, 23])⟩, .o ⟨(some 24), (some (18, false)), false, .len (.t 23), none⟩, .o ⟨(some 25), (some (18, false)), false, .bin .neq (.t 21) (.t 24), none⟩, .o ⟨(some 26), none, false, .pick (.t 18) (.c (.bool true)) (.t 25), (some [2, 3, 26])⟩]
abbrev k15_o2 : List AJ := [.o ⟨(some 4), none, false, .mv (.c (.bool false)), (some [4])⟩]
def k15_3 : ACode := .seq (.region k15_o2) .ret
def k15_4 : ACode := .cond (.t 26) k15_3 .skip
def k15_5 : ACode := .seq (.region k15_o1) k15_4
abbrev k15_o3 : List AJ := [.o ⟨(some 5), none, false, .mv (.c (.int .i64 0)), (some [2, 3, 5])⟩]
abbrev k15_o4 : List AJ := [.o ⟨(some 27), none, false, .mv (.t 5), none⟩, .o ⟨(some 28), none, false, .fieldA 2 (.t 2), none⟩, .o ⟨(some 29), none, false, .load 1 false (.t 28), none⟩, .o ⟨(some 30), none, false, .len (.t 29), none⟩, .o ⟨(some 31), none, false, .bin .lss (.t 27) (.t 30), (some [2, 3, 5, 31])⟩]
def k15_8 : ACode := .cond (.t 31) .skip (.exit 0)
def k15_9 : ACode := .seq (.region k15_o4) k15_8
abbrev k15_o5 : List AI := [⟨(some 34), none, false, .fieldA 2 (.t 2), none⟩, ⟨(some 35), none, false, .load 1 false (.t 34), none⟩, ⟨(some 36), none, false, .mv (.t 5), none⟩, ⟨(some 37), none, false, .idxA 3 (.t 35) (.t 36), none⟩, ⟨(some 38), none, false, .load 3 true (.t 37), none⟩, ⟨(some 39), none, false, .fieldA 2 (.t 3), none⟩, ⟨(some 40), none, false, .load 1 false (.t 39), none⟩, ⟨(some 41), none, false, .mv (.t 5), none⟩, ⟨(some 42), none, false, .idxA 3 (.t 40) (.t 41), none⟩, ⟨(some 43), none, false, .load 3 true (.t 42), none⟩, ⟨(some 44), none, false, .eqs [0, 0, 0] true (.t 38) (.t 43), (some [2, 3, 5, 44])⟩]
abbrev k15_o6 : List AJ := [.o ⟨(some 4), none, false, .mv (.c (.bool false)), (some [4])⟩]
def k15_12 : ACode := .seq (.region k15_o6) .ret
def k15_13 : ACode := .cond (.t 44) k15_12 .skip
def k15_14 : ACode := .seq (.draw k15_o5 [] rfl) k15_13
abbrev k15_o7 : List AJ := [.o ⟨(some 32), none, false, .mv (.t 5), none⟩, .o ⟨(some 33), none, true, .bin .add (.t 32) (.c (.int .i64 1)), none⟩, .o ⟨(some 5), none, false, .mv (.t 33), (some [2, 3, 5])⟩]
def k15_16 : ACode := .region k15_o7
def k15_17 : ACode := .seq (.block 1 k15_14) k15_16
def k15_18 : ACode := .seq k15_9 k15_17
def k15_19 : ACode := .loop k15_18
def k15_20 : ACode := .block 0 k15_19
def k15_21 : ACode := .seq (.region k15_o3) k15_20
abbrev k15_o8 : List AJ := [.o ⟨(some 4), none, false, .mv (.c (.bool true)), (some [4])⟩]
def k15_23 : ACode := .seq (.region k15_o8) .ret
def k15_24 : ACode := .seq k15_21 k15_23
def k15_25 : ACode := .seq k15_5 k15_24
def k15_26 : ACode := .seq (.region k15_o0) k15_25
@[simp, simp ↓] theorem k15_3r : sR k15_3 k15_o2 .ret := yR rfl
@[simp, simp ↓] theorem k15_4r : rC k15_4 (.t 26) k15_3 .skip := zC rfl
@[simp, simp ↓] theorem k15_5r : sR k15_5 k15_o1 k15_4 := yR rfl
@[simp, simp ↓] theorem k15_8r : rC k15_8 (.t 31) .skip (.exit 0) := zC rfl
@[simp, simp ↓] theorem k15_9r : sR k15_9 k15_o4 k15_8 := yR rfl
@[simp, simp ↓] theorem k15_12r : sR k15_12 k15_o6 .ret := yR rfl
@[simp, simp ↓] theorem k15_13r : rC k15_13 (.t 44) k15_12 .skip := zC rfl
@[simp, simp ↓] theorem k15_14r : sD k15_14 k15_o5 [] k15_13 := yD rfl
@[simp, simp ↓] theorem k15_16r : rR k15_16 k15_o7 := zR rfl
@[simp, simp ↓] theorem k15_17r : sB k15_17 1 k15_14 k15_16 := yB rfl
@[simp, simp ↓] theorem k15_18r : rS k15_18 k15_9 k15_17 := zS rfl
@[simp, simp ↓] theorem k15_19r : rL k15_19 k15_18 := zL rfl
@[simp, simp ↓] theorem k15_20r : rB k15_20 0 k15_19 := zB rfl
@[simp, simp ↓] theorem k15_21r : sR k15_21 k15_o3 k15_20 := yR rfl
@[simp, simp ↓] theorem k15_23r : sR k15_23 k15_o8 .ret := yR rfl
@[simp, simp ↓] theorem k15_24r : rS k15_24 k15_21 k15_23 := zS rfl
@[simp, simp ↓] theorem k15_25r : rS k15_25 k15_5 k15_24 := zS rfl
@[simp, simp ↓] theorem k15_26r : sR k15_26 k15_o0 k15_25 := yR rfl
noncomputable abbrev k15_C : Orc → Cx := mkC Tryz.prog [] 15 45 [.tmp 4]
theorem k15_of0 : OfP0 Tryz.prog Tryz.f15 15 45 k15_C k15_26 := @ofP0 _ _ _ _ _ _ _ _ Tryz.func15 (by decide +kernel) rfl (by kernel_rfl) rfl (by kernel_rfl)
theorem specSame1_c (x : Ph) (h : Heap) (hl : x.ts.length ≤ 1048576) : ACalls Tryz.prog 15 [x.av, x.av] h (fun v h' => v = .bool true ∧ h' = h) := by
  refine k15_of0 rfl noPure fun I => ?_
  refine Run2.of I 1000 ?_
  simp -implicitDefEqProofs
  refine Run2.loopE (fun i => [(2, .ip [.int .i64 x.n, .int .i64 x.m, .snap 3 (x.ts.map T.av)]), (3, .ip [.int .i64 x.n, .int .i64 x.m, .snap 3 (x.ts.map T.av)]), (5, .int .i64 (i : Nat))]) (fun i => h) (fun i => x.ts.length - i) (fun i => i ≤ x.ts.length) 0 (by simp) rfl (Nat.zero_le _) fun i hi ih => ?_
  by_cases hlt : i < x.ts.length
  · have go := ih (i + 1) (by omega) (by omega)
    clear ih
    refine Run2.of I 1000 ?_
    simp -implicitDefEqProofs [hlt]
    exact ⟨by omega, by simpa using go⟩
  · obtain rfl : i = x.ts.length := by omega
    refine Run2.of I 1000 ?_
    simp -implicitDefEqProofs
theorem Ph.ec0 {x : Ph} (hv : x.valid) {p : List Int} (hp : vec p x.n x.m) : x.ecode p = 0 := by simp [Ph.ecode, hv, hp]
theorem Ph.er0 {x : Ph} (hv : x.valid) {p : List Int} (hp : vec p x.n x.m) : x.eres p = x.wr p x.ts.length := by simp [Ph.eres, hv, hp]
theorem Ph.vlen {x : Ph} (hv : x.valid) {p : List Int} (hp : vec p x.n x.m) : p.length ≤ 1048576 := by
  have := hp.1; have := hv.2.1; omega
theorem Ph.tlen {x : Ph} (hv : x.valid) : x.ts.length ≤ 1048576 := by have := hv.2.2.2.2.2; omega
theorem turnF_c (x : Ph) (p : List Int) (h : Heap) (hv : x.valid) (hp : vec p x.n x.m) : ACalls Tryz.prog 8 [x.av, .snap 1 (p.map iv)] h (fun v h' => v = .tup [(x.tn p).av, .int .i64 0] ∧ h' = h) := by
  have := frzP (implTurn_o x p (Ph.valid_ok hv) (Ph.tlen hv) (Ph.vlen hv hp)) h
  rwa [Ph.turned_tn hv hp, Ph.ec0 hv hp] at this
theorem errF_c (x : Ph) (p : List Int) (h : Heap) (hv : x.valid) (hp : vec p x.n x.m) : ACalls Tryz.prog 9 [x.av, .snap 1 (p.map iv)] h (fun v h' => v = .tup [.snap 1 ((x.wr p x.ts.length).map iv), .int .i64 0] ∧ h' = h) := by
  have := frz2 (implErrors_o x p (Ph.valid_ok hv) (Ph.tlen hv) (Ph.vlen hv hp)) h
  rwa [Ph.er0 hv hp, Ph.ec0 hv hp] at this
noncomputable def o_potF : List AV → Option (Prop × AV) := tab (fun (x : Int × Int × List T) => match x with | (n, m, ts) => [.agg [.int .i64 n, .int .i64 m, .snap 3 (ts.map T.av)]]) (fun x => match x with | (n, m, ts) => (Ph.valid ⟨n, m, ts⟩)) (fun x => match x with | (n, m, ts) => .tup [.snap 1 ((Ph.pres ⟨n, m, ts⟩).map iv), .int .i64 (Ph.pcode ⟨n, m, ts⟩)])
@[simp] theorem o_potF_e (n : Int) (m : Int) (ts : List T) : o_potF [.agg [.int .i64 n, .int .i64 m, .snap 3 (ts.map T.av)]] = some ((Ph.valid ⟨n, m, ts⟩), .tup [.snap 1 ((Ph.pres ⟨n, m, ts⟩).map iv), .int .i64 (Ph.pcode ⟨n, m, ts⟩)]) := tab_at (enc := fun (x : Int × Int × List T) => match x with | (n, m, ts) => [.agg [.int .i64 n, .int .i64 m, .snap 3 (ts.map T.av)]]) (fun x y h => by
  obtain ⟨n1, m1, ts1⟩ := x; obtain ⟨n2, m2, ts2⟩ := y; simp at h; simp [h] <;> omega) _ _ (n, m, ts)
theorem o_potF_k : Knows Tryz.prog 7 o_potF := tab_knows fun x hx h => by
  obtain ⟨n, m, ts⟩ := x; exact frz2 (implPot_o ⟨n, m, ts⟩ (Ph.valid_ok hx) (Ph.tlen hx)) h
noncomputable def o_turnF : List AV → Option (Prop × AV) := tab (fun (x : Int × Int × List T × List Int) => match x with | (n, m, ts, p) => [.agg [.int .i64 n, .int .i64 m, .snap 3 (ts.map T.av)], .snap 1 (p.map iv)]) (fun x => match x with | (n, m, ts, p) => (Ph.valid ⟨n, m, ts⟩ ∧ vec p n m)) (fun x => match x with | (n, m, ts, p) => .tup [.agg [.int .i64 (Ph.tn ⟨n, m, ts⟩ p).n, .int .i64 (Ph.tn ⟨n, m, ts⟩ p).m, .snap 3 ((Ph.tn ⟨n, m, ts⟩ p).ts.map T.av)], .int .i64 0])
@[simp] theorem o_turnF_e (n : Int) (m : Int) (ts : List T) (p : List Int) : o_turnF [.agg [.int .i64 n, .int .i64 m, .snap 3 (ts.map T.av)], .snap 1 (p.map iv)] = some ((Ph.valid ⟨n, m, ts⟩ ∧ vec p n m), .tup [.agg [.int .i64 (Ph.tn ⟨n, m, ts⟩ p).n, .int .i64 (Ph.tn ⟨n, m, ts⟩ p).m, .snap 3 ((Ph.tn ⟨n, m, ts⟩ p).ts.map T.av)], .int .i64 0]) := tab_at (enc := fun (x : Int × Int × List T × List Int) => match x with | (n, m, ts, p) => [.agg [.int .i64 n, .int .i64 m, .snap 3 (ts.map T.av)], .snap 1 (p.map iv)]) (fun x y h => by
  obtain ⟨n1, m1, ts1, p1⟩ := x; obtain ⟨n2, m2, ts2, p2⟩ := y; simp at h; simp [h] <;> omega) _ _ (n, m, ts, p)
theorem o_turnF_k : Knows Tryz.prog 8 o_turnF := tab_knows fun x hx h => by
  obtain ⟨n, m, ts, p⟩ := x; exact turnF_c ⟨n, m, ts⟩ p h hx.1 hx.2
noncomputable def o_errF : List AV → Option (Prop × AV) := tab (fun (x : Int × Int × List T × List Int) => match x with | (n, m, ts, p) => [.agg [.int .i64 n, .int .i64 m, .snap 3 (ts.map T.av)], .snap 1 (p.map iv)]) (fun x => match x with | (n, m, ts, p) => (Ph.valid ⟨n, m, ts⟩ ∧ vec p n m)) (fun x => match x with | (n, m, ts, p) => .tup [.snap 1 ((Ph.wr ⟨n, m, ts⟩ p ts.length).map iv), .int .i64 0])
@[simp] theorem o_errF_e (n : Int) (m : Int) (ts : List T) (p : List Int) : o_errF [.agg [.int .i64 n, .int .i64 m, .snap 3 (ts.map T.av)], .snap 1 (p.map iv)] = some ((Ph.valid ⟨n, m, ts⟩ ∧ vec p n m), .tup [.snap 1 ((Ph.wr ⟨n, m, ts⟩ p ts.length).map iv), .int .i64 0]) := tab_at (enc := fun (x : Int × Int × List T × List Int) => match x with | (n, m, ts, p) => [.agg [.int .i64 n, .int .i64 m, .snap 3 (ts.map T.av)], .snap 1 (p.map iv)]) (fun x y h => by
  obtain ⟨n1, m1, ts1, p1⟩ := x; obtain ⟨n2, m2, ts2, p2⟩ := y; simp at h; simp [h] <;> omega) _ _ (n, m, ts, p)
theorem o_errF_k : Knows Tryz.prog 9 o_errF := tab_knows fun x hx h => by
  obtain ⟨n, m, ts, p⟩ := x; exact errF_c ⟨n, m, ts⟩ p h hx.1 hx.2
noncomputable def o_readF : List AV → Option (Prop × AV) := tab (fun (x : Txt) => match x with | s => [.str s]) (fun x => match x with | s => (s.length ≤ 1048576)) (fun x => match x with | s => .tup [.agg [.int .i64 (rpX s).n, .int .i64 (rpX s).m, .snap 3 ((rpX s).ts.map T.av)], .bool (rpO s)])
@[simp] theorem o_readF_e (s : Txt) : o_readF [.str s] = some ((s.length ≤ 1048576), .tup [.agg [.int .i64 (rpX s).n, .int .i64 (rpX s).m, .snap 3 ((rpX s).ts.map T.av)], .bool (rpO s)]) := tab_at (enc := fun (x : Txt) => match x with | s => [.str s]) (fun x y h => by
  simp at h; simp [h] <;> omega) _ _ s
theorem o_readF_k : Knows Tryz.prog 10 o_readF := tab_knows fun x hx h => by
  exact frzPb (implRP_o x hx) h
noncomputable def o_textF : List AV → Option (Prop × AV) := tab (fun (x : Int × Int × List T) => match x with | (n, m, ts) => [.agg [.int .i64 n, .int .i64 m, .snap 3 (ts.map T.av)]]) (fun x => match x with | (n, m, ts) => (Ph.valid ⟨n, m, ts⟩)) (fun x => match x with | (n, m, ts) => .str (phT ⟨n, m, ts⟩))
@[simp] theorem o_textF_e (n : Int) (m : Int) (ts : List T) : o_textF [.agg [.int .i64 n, .int .i64 m, .snap 3 (ts.map T.av)]] = some ((Ph.valid ⟨n, m, ts⟩), .str (phT ⟨n, m, ts⟩)) := tab_at (enc := fun (x : Int × Int × List T) => match x with | (n, m, ts) => [.agg [.int .i64 n, .int .i64 m, .snap 3 (ts.map T.av)]]) (fun x y h => by
  obtain ⟨n1, m1, ts1⟩ := x; obtain ⟨n2, m2, ts2⟩ := y; simp at h; simp [h] <;> omega) _ _ (n, m, ts)
theorem o_textF_k : Knows Tryz.prog 11 o_textF := tab_knows fun x hx h => by
  obtain ⟨n, m, ts⟩ := x; exact implPT_c ⟨n, m, ts⟩ h (Ph.tlen hx) (Ph.valid_ok hx)
noncomputable def o_sIsPot : List AV → Option (Prop × AV) := tab (fun (x : Int × Int × List T × List Int) => match x with | (n, m, ts, p) => [.agg [.int .i64 n, .int .i64 m, .snap 3 (ts.map T.av)], .snap 1 (p.map iv)]) (fun x => match x with | (n, m, ts, p) => (Ph.valid ⟨n, m, ts⟩ ∧ p.length ≤ 1048576)) (fun x => match x with | (n, m, ts, p) => .bool (decide (Ph.valid ⟨n, m, ts⟩ ∧ vec p n m ∧ Ph.wr ⟨n, m, ts⟩ p ts.length = [])))
@[simp] theorem o_sIsPot_e (n : Int) (m : Int) (ts : List T) (p : List Int) : o_sIsPot [.agg [.int .i64 n, .int .i64 m, .snap 3 (ts.map T.av)], .snap 1 (p.map iv)] = some ((Ph.valid ⟨n, m, ts⟩ ∧ p.length ≤ 1048576), .bool (decide (Ph.valid ⟨n, m, ts⟩ ∧ vec p n m ∧ Ph.wr ⟨n, m, ts⟩ p ts.length = []))) := tab_at (enc := fun (x : Int × Int × List T × List Int) => match x with | (n, m, ts, p) => [.agg [.int .i64 n, .int .i64 m, .snap 3 (ts.map T.av)], .snap 1 (p.map iv)]) (fun x y h => by
  obtain ⟨n1, m1, ts1, p1⟩ := x; obtain ⟨n2, m2, ts2, p2⟩ := y; simp at h; simp [h] <;> omega) _ _ (n, m, ts, p)
theorem o_sIsPot_k : Knows Tryz.prog 12 o_sIsPot := tab_knows fun x hx h => by
  obtain ⟨n, m, ts, p⟩ := x; exact specIsPot_c ⟨n, m, ts⟩ p h (Ph.valid_ok hx.1) (Ph.tlen hx.1) hx.2
noncomputable def o_iIsPot : List AV → Option (Prop × AV) := tab (fun (x : Int × Int × List T × List Int) => match x with | (n, m, ts, p) => [.agg [.int .i64 n, .int .i64 m, .snap 3 (ts.map T.av)], .snap 1 (p.map iv)]) (fun x => match x with | (n, m, ts, p) => (Ph.valid ⟨n, m, ts⟩ ∧ p.length ≤ 1048576)) (fun x => match x with | (n, m, ts, p) => .bool (decide (Ph.valid ⟨n, m, ts⟩ ∧ vec p n m ∧ Ph.wr ⟨n, m, ts⟩ p ts.length = [])))
@[simp] theorem o_iIsPot_e (n : Int) (m : Int) (ts : List T) (p : List Int) : o_iIsPot [.agg [.int .i64 n, .int .i64 m, .snap 3 (ts.map T.av)], .snap 1 (p.map iv)] = some ((Ph.valid ⟨n, m, ts⟩ ∧ p.length ≤ 1048576), .bool (decide (Ph.valid ⟨n, m, ts⟩ ∧ vec p n m ∧ Ph.wr ⟨n, m, ts⟩ p ts.length = []))) := tab_at (enc := fun (x : Int × Int × List T × List Int) => match x with | (n, m, ts, p) => [.agg [.int .i64 n, .int .i64 m, .snap 3 (ts.map T.av)], .snap 1 (p.map iv)]) (fun x y h => by
  obtain ⟨n1, m1, ts1, p1⟩ := x; obtain ⟨n2, m2, ts2, p2⟩ := y; simp at h; simp [h] <;> omega) _ _ (n, m, ts, p)
theorem o_iIsPot_k : Knows Tryz.prog 14 o_iIsPot := tab_knows fun x hx h => by
  obtain ⟨n, m, ts, p⟩ := x; exact implIsPot_c ⟨n, m, ts⟩ p h (Ph.valid_ok hx.1) (Ph.tlen hx.1) hx.2
noncomputable def o_sValid : List AV → Option (Prop × AV) := tab (fun (x : Int × Int × List T) => match x with | (n, m, ts) => [.agg [.int .i64 n, .int .i64 m, .snap 3 (ts.map T.av)]]) (fun x => match x with | (n, m, ts) => (Ph.valid ⟨n, m, ts⟩)) (fun x => match x with | (n, m, ts) => .bool true)
@[simp] theorem o_sValid_e (n : Int) (m : Int) (ts : List T) : o_sValid [.agg [.int .i64 n, .int .i64 m, .snap 3 (ts.map T.av)]] = some ((Ph.valid ⟨n, m, ts⟩), .bool true) := tab_at (enc := fun (x : Int × Int × List T) => match x with | (n, m, ts) => [.agg [.int .i64 n, .int .i64 m, .snap 3 (ts.map T.av)]]) (fun x y h => by
  obtain ⟨n1, m1, ts1⟩ := x; obtain ⟨n2, m2, ts2⟩ := y; simp at h; simp [h] <;> omega) _ _ (n, m, ts)
theorem o_sValid_k : Knows Tryz.prog 13 o_sValid := tab_knows fun x hx h => by
  obtain ⟨n, m, ts⟩ := x; exact (by have := specValid_c ⟨n, m, ts⟩ h (Ph.tlen hx) (Ph.valid_ok hx); rwa [decide_eq_true hx] at this)
noncomputable def o_sSame : List AV → Option (Prop × AV) := tab (fun (x : Int × Int × List T × Int × Int × List T) => match x with | (n, m, ts, n', m', ts') => [.agg [.int .i64 n, .int .i64 m, .snap 3 (ts.map T.av)], .agg [.int .i64 n', .int .i64 m', .snap 3 (ts'.map T.av)]]) (fun x => match x with | (n, m, ts, n', m', ts') => (Ph.mk n m ts = Ph.mk n' m' ts' ∧ ts.length ≤ 1048576)) (fun x => match x with | (n, m, ts, n', m', ts') => .bool true)
@[simp] theorem o_sSame_e (n : Int) (m : Int) (ts : List T) (n' : Int) (m' : Int) (ts' : List T) : o_sSame [.agg [.int .i64 n, .int .i64 m, .snap 3 (ts.map T.av)], .agg [.int .i64 n', .int .i64 m', .snap 3 (ts'.map T.av)]] = some ((Ph.mk n m ts = Ph.mk n' m' ts' ∧ ts.length ≤ 1048576), .bool true) := tab_at (enc := fun (x : Int × Int × List T × Int × Int × List T) => match x with | (n, m, ts, n', m', ts') => [.agg [.int .i64 n, .int .i64 m, .snap 3 (ts.map T.av)], .agg [.int .i64 n', .int .i64 m', .snap 3 (ts'.map T.av)]]) (fun x y h => by
  obtain ⟨n1, m1, ts1, n'1, m'1, ts'1⟩ := x; obtain ⟨n2, m2, ts2, n'2, m'2, ts'2⟩ := y; simp at h; simp [h] <;> omega) _ _ (n, m, ts, n', m', ts')
theorem o_sSame_k : Knows Tryz.prog 15 o_sSame := tab_knows fun x hx h => by
  obtain ⟨n, m, ts, n', m', ts'⟩ := x; exact (by obtain ⟨h1, h2⟩ := hx; injection h1 with h3 h4 h5; subst h3; subst h4; subst h5; exact specSame1_c ⟨n, m, ts⟩ h h2)
noncomputable def o_holI : List AV → Option (Prop × AV) := tab (fun (x : Int × Int × List T × List Int) => match x with | (n, m, ts, p) => [.agg [.int .i64 n, .int .i64 m, .snap 3 (ts.map T.av)], .snap 1 (p.map iv)]) (fun x => match x with | (n, m, ts, p) => (Ph.valid ⟨n, m, ts⟩ ∧ p.length ≤ 1048576)) (fun x => match x with | (n, m, ts, p) => .tup [.int .i64 (Ph.hol2 ⟨n, m, ts⟩ p).1, .int .i64 (Ph.hol2 ⟨n, m, ts⟩ p).2])
@[simp] theorem o_holI_e (n : Int) (m : Int) (ts : List T) (p : List Int) : o_holI [.agg [.int .i64 n, .int .i64 m, .snap 3 (ts.map T.av)], .snap 1 (p.map iv)] = some ((Ph.valid ⟨n, m, ts⟩ ∧ p.length ≤ 1048576), .tup [.int .i64 (Ph.hol2 ⟨n, m, ts⟩ p).1, .int .i64 (Ph.hol2 ⟨n, m, ts⟩ p).2]) := tab_at (enc := fun (x : Int × Int × List T × List Int) => match x with | (n, m, ts, p) => [.agg [.int .i64 n, .int .i64 m, .snap 3 (ts.map T.av)], .snap 1 (p.map iv)]) (fun x y h => by
  obtain ⟨n1, m1, ts1, p1⟩ := x; obtain ⟨n2, m2, ts2, p2⟩ := y; simp at h; simp [h] <;> omega) _ _ (n, m, ts, p)
theorem o_holI_k : Knows Tryz.prog 17 o_holI := tab_knows fun x hx h => by
  obtain ⟨n, m, ts, p⟩ := x; exact implHol_c ⟨n, m, ts⟩ p h (Ph.valid_ok hx.1) (Ph.tlen hx.1) hx.2
noncomputable def o_r8Long : List AV → Option (Prop × AV) := tab (fun (x : List UInt8 × List UInt8) => match x with | (a, b) => [.snap 1 (a.map bv), .snap 1 (b.map bv)]) (fun x => match x with | (a, b) => True) (fun x => match x with | (a, b) => .bool (or (decide (1048576 < a.length)) (decide (1048576 < b.length))))
@[simp] theorem o_r8Long_e (a : List UInt8) (b : List UInt8) : o_r8Long [.snap 1 (a.map bv), .snap 1 (b.map bv)] = some (True, .bool (or (decide (1048576 < a.length)) (decide (1048576 < b.length)))) := tab_at (enc := fun (x : List UInt8 × List UInt8) => match x with | (a, b) => [.snap 1 (a.map bv), .snap 1 (b.map bv)]) (fun x y h => by
  obtain ⟨a1, b1⟩ := x; obtain ⟨a2, b2⟩ := y; simp at h; simp [h] <;> omega) _ _ (a, b)
theorem o_r8Long_k : Knows Tryz.prog 4 o_r8Long := tab_knows fun x hx h => by
  obtain ⟨a, b⟩ := x; exact r8Long_c a b h
noncomputable def orcPp : List (Nat × (List AV → Option (Prop × AV))) := (7, o_potF) :: (8, o_turnF) :: (9, o_errF) :: (10, o_readF) :: (11, o_textF) :: (12, o_sIsPot) :: (14, o_iIsPot) :: (13, o_sValid) :: (15, o_sSame) :: (17, o_holI) :: (4, o_r8Long) :: (16, o_r8At) :: []
theorem orcPp_p : Pure Tryz.prog (lk orcPp) := (lk_pure o_potF_k (lk_pure o_turnF_k (lk_pure o_errF_k (lk_pure o_readF_k (lk_pure o_textF_k (lk_pure o_sIsPot_k (lk_pure o_iIsPot_k (lk_pure o_sValid_k (lk_pure o_sSame_k (lk_pure o_holI_k (lk_pure o_r8Long_k (lk_pure o_r8At_k lk_pure0))))))))))))
@[simp] theorem orcPp_l (b : Bool) (g : FuncId) (l : List AV) : lk orcPp b g l = if g = 7 then o_potF l else if g = 8 then o_turnF l else if g = 9 then o_errF l else if g = 10 then o_readF l else if g = 11 then o_textF l else if g = 12 then o_sIsPot l else if g = 14 then o_iIsPot l else if g = 13 then o_sValid l else if g = 15 then o_sSame l else if g = 17 then o_holI l else if g = 4 then o_r8Long l else if g = 16 then o_r8At l else none := nr rfl
end Go.AG.P
namespace Go.AG.P
open Go.Proofs Go.Proofs.YtgofekmoimjcmaaGreatDoor
set_option linter.unusedSimpArgs false
set_option linter.unusedVariables false
set_option maxRecDepth 4000
abbrev k3_o0 : List AJ := [.o ⟨(some 4), none, false, .mv (.c (.bool false)), (some [0, 1])⟩]
abbrev k3_o1 : List AJ := [.o ⟨(some 27), none, false, .mv (.t 0), none⟩, .o ⟨(some 28), none, false, .mv (.t 1), none⟩, .o ⟨(some 29), none, false, .call 4 [(.t 27), (.t 28)], (some [0, 1, 29])⟩]
abbrev k3_o2 : List AJ := [.o ⟨(some 4), none, false, .mv (.c (.bool true)), (some [4])⟩]
def k3_3 : ACode := .seq (.region k3_o2) .ret
def k3_4 : ACode := .cond (.t 29) k3_3 .skip
def k3_5 : ACode := .seq (.region k3_o1) k3_4
abbrev k3_o3 : List AJ := [.o ⟨(some 30), none, false, .mv (.t 0), none⟩, .o ⟨(some 31), none, false, .call 5 [(.t 30)], none⟩, .v 5 3 (.agg [(.int .i64 0), (.int .i64 0), .nilsl]) [] (.t 31) (some [1, 5])]
abbrev k3_o4 : List AJ := [.o ⟨(some 32), none, false, .mv (.t 1), none⟩, .o ⟨(some 33), none, false, .fieldA 0 (.t 5), none⟩, .o ⟨(some 34), none, false, .load 1 false (.t 33), none⟩, .o ⟨(some 35), none, false, .fieldA 1 (.t 5), none⟩, .o ⟨(some 36), none, false, .load 1 false (.t 35), none⟩, .o ⟨(some 37), none, false, .call 6 [(.t 32), (.t 34), (.t 36)], none⟩, .o ⟨(some 6), none, false, .mv (.t 37), (some [1, 5, 6])⟩]
abbrev k3_o5 : List AJ := [.o ⟨(some 39), none, false, .load 3 true (.t 5), none⟩, .o ⟨(some 40), none, false, .call 7 [(.t 39)], none⟩, .o ⟨(some 38), none, false, .mv (.t 40), none⟩, .o ⟨(some 41), none, false, .extract (.t 38) 0, none⟩, .o ⟨(some 42), none, false, .extract (.t 38) 1, none⟩, .o ⟨(some 7), none, false, .mv (.t 41), none⟩, .o ⟨(some 8), none, false, .mv (.t 42), (some [1, 5, 6, 7, 8])⟩]
abbrev k3_o6 : List AJ := [.o ⟨(some 44), none, false, .load 3 true (.t 5), none⟩, .o ⟨(some 45), none, false, .mv (.t 6), none⟩, .o ⟨(some 46), none, false, .call 8 [(.t 44), (.t 45)], none⟩, .o ⟨(some 43), none, false, .mv (.t 46), none⟩, .o ⟨(some 47), none, false, .extract (.t 43) 0, none⟩, .o ⟨(some 48), none, false, .extract (.t 43) 1, none⟩, .v 9 3 (.agg [(.int .i64 0), (.int .i64 0), .nilsl]) [] (.t 47) none, .o ⟨(some 10), none, false, .mv (.t 48), (some [1, 5, 6, 7, 8, 9, 10])⟩]
abbrev k3_o7 : List AJ := [.o ⟨(some 50), none, false, .load 3 true (.t 9), none⟩, .o ⟨(some 51), none, false, .call 7 [(.t 50)], none⟩, .o ⟨(some 49), none, false, .mv (.t 51), none⟩, .o ⟨(some 52), none, false, .extract (.t 49) 0, none⟩, .o ⟨(some 53), none, false, .extract (.t 49) 1, none⟩, .o ⟨(some 11), none, false, .mv (.t 52), none⟩, .o ⟨(some 12), none, false, .mv (.t 53), (some [1, 5, 6, 7, 8, 9, 10, 12])⟩]
abbrev k3_o8 : List AJ := [.o ⟨(some 55), none, false, .load 3 true (.t 5), none⟩, .o ⟨(some 56), none, false, .mv (.t 6), none⟩, .o ⟨(some 57), none, false, .call 9 [(.t 55), (.t 56)], none⟩, .o ⟨(some 54), none, false, .mv (.t 57), none⟩, .o ⟨(some 58), none, false, .extract (.t 54) 0, none⟩, .o ⟨(some 59), none, false, .extract (.t 54) 1, none⟩, .o ⟨(some 13), none, false, .mv (.t 58), none⟩, .o ⟨(some 14), none, false, .mv (.t 59), (some [1, 5, 6, 7, 8, 9, 10, 12, 13, 14])⟩]
abbrev k3_o9 : List AJ := [.o ⟨(some 61), none, false, .load 3 true (.t 5), none⟩, .o ⟨(some 62), none, false, .call 11 [(.t 61)], none⟩, .o ⟨(some 63), none, false, .call 10 [(.t 62)], none⟩, .o ⟨(some 60), none, false, .mv (.t 63), none⟩, .o ⟨(some 64), none, false, .extract (.t 60) 0, none⟩, .o ⟨(some 65), none, false, .extract (.t 60) 1, none⟩, .v 15 3 (.agg [(.int .i64 0), (.int .i64 0), .nilsl]) [] (.t 64) none, .o ⟨(some 16), none, false, .mv (.t 65), (some [1, 5, 6, 7, 8, 9, 10, 12, 13, 14, 15, 16])⟩]
abbrev k3_o10 : List AJ := [.o ⟨(some 66), none, false, .mv (.t 8), none⟩, .o ⟨(some 67), none, false, .bin .neq (.t 66) (.c (.int .i64 0)), none⟩, .o ⟨(some 68), none, false, .mv (.t 67), none⟩, .o ⟨(some 69), (some (68, true)), false, .mv (.t 8), none⟩, .o ⟨(some 70), (some (68, true)), false, .bin .neq (.t 69) (.c (.int .i64 3)), none⟩, .o ⟨(some 71), none, false, .pick (.t 68) (.t 70) (.c (.bool false)), none⟩, .o ⟨(some 72), none, false, .mv (.t 71), none⟩, .o ⟨(some 73), (some (72, false)), false, .mv (.t 8), none⟩, .o ⟨(some 74), (some (72, false)), false, .bin .eql (.t 73) (.c (.int .i64 0)), none⟩, .o ⟨(some 75), (some (72, false)), false, .mv (.t 74), (some [1, 5, 6, 7, 8, 9, 10, 12, 13, 14, 15, 16, 72, 75])⟩, .o ⟨(some 76), (some (75, true)), false, .load 3 true (.t 5), none⟩, .o ⟨(some 77), (some (75, true)), false, .mv (.t 7), none⟩, .o ⟨(some 78), (some (75, true)), false, .call 12 [(.t 76), (.t 77)], none⟩, .o ⟨(some 79), (some (75, true)), false, .un .not (.t 78), none⟩, .o ⟨(some 80), (some (72, false)), false, .pick (.t 75) (.t 79) (.c (.bool false)), none⟩, .o ⟨(some 81), none, false, .pick (.t 72) (.c (.bool true)) (.t 80), none⟩, .o ⟨(some 82), none, false, .mv (.t 81), none⟩, .o ⟨(some 83), (some (82, false)), false, .mv (.t 10), (some [1, 5, 6, 8, 9, 12, 13, 14, 15, 16, 82, 83])⟩, .o ⟨(some 84), (some (82, false)), false, .bin .neq (.t 83) (.c (.int .i64 0)), none⟩, .o ⟨(some 85), none, false, .pick (.t 82) (.c (.bool true)) (.t 84), none⟩, .o ⟨(some 86), none, false, .mv (.t 85), none⟩, .o ⟨(some 87), (some (86, false)), false, .load 3 true (.t 9), none⟩, .o ⟨(some 88), (some (86, false)), false, .call 13 [(.t 87)], none⟩, .o ⟨(some 89), (some (86, false)), false, .un .not (.t 88), none⟩, .o ⟨(some 90), none, false, .pick (.t 86) (.c (.bool true)) (.t 89), none⟩, .o ⟨(some 91), none, false, .mv (.t 90), none⟩, .o ⟨(some 92), (some (91, false)), false, .mv (.t 12), (some [1, 5, 6, 8, 9, 13, 14, 15, 16, 91, 92])⟩, .o ⟨(some 93), (some (91, false)), false, .mv (.t 8), none⟩, .o ⟨(some 94), (some (91, false)), false, .bin .neq (.t 92) (.t 93), none⟩, .o ⟨(some 95), none, false, .pick (.t 91) (.c (.bool true)) (.t 94), none⟩, .o ⟨(some 96), none, false, .mv (.t 95), none⟩, .o ⟨(some 97), (some (96, false)), false, .mv (.t 14), none⟩, .o ⟨(some 98), (some (96, false)), false, .bin .neq (.t 97) (.c (.int .i64 0)), none⟩, .o ⟨(some 99), none, false, .pick (.t 96) (.c (.bool true)) (.t 98), none⟩, .o ⟨(some 100), none, false, .mv (.t 99), none⟩, .o ⟨(some 101), (some (100, false)), false, .load 3 true (.t 5), (some [1, 5, 6, 9, 13, 15, 16, 100, 101])⟩, .o ⟨(some 102), (some (100, false)), false, .mv (.t 6), none⟩, .o ⟨(some 103), (some (100, false)), false, .call 14 [(.t 101), (.t 102)], none⟩, .o ⟨(some 104), (some (100, false)), false, .mv (.t 13), none⟩, .o ⟨(some 105), (some (100, false)), false, .len (.t 104), none⟩, .o ⟨(some 106), (some (100, false)), false, .bin .eql (.t 105) (.c (.int .i64 0)), none⟩, .o ⟨(some 107), (some (100, false)), false, .beq true (.t 103) (.t 106), none⟩, .o ⟨(some 108), none, false, .pick (.t 100) (.c (.bool true)) (.t 107), none⟩, .o ⟨(some 109), none, false, .mv (.t 108), (some [1, 5, 6, 9, 15, 16, 109])⟩, .o ⟨(some 110), (some (109, false)), false, .mv (.t 16), none⟩, .o ⟨(some 111), (some (109, false)), false, .un .not (.t 110), none⟩, .o ⟨(some 112), none, false, .pick (.t 109) (.c (.bool true)) (.t 111), none⟩, .o ⟨(some 113), none, false, .mv (.t 112), none⟩, .o ⟨(some 114), (some (113, false)), false, .load 3 true (.t 15), none⟩, .o ⟨(some 115), (some (113, false)), false, .load 3 true (.t 5), none⟩, .o ⟨(some 116), (some (113, false)), false, .call 15 [(.t 114), (.t 115)], none⟩, .o ⟨(some 117), (some (113, false)), false, .un .not (.t 116), (some [1, 5, 6, 9, 113, 117])⟩, .o ⟨(some 118), none, false, .pick (.t 113) (.c (.bool true)) (.t 117), (some [1, 5, 6, 9, 118])⟩]
abbrev k3_o11 : List AJ := [.o ⟨(some 4), none, false, .mv (.c (.bool false)), (some [4])⟩]
def k3_15 : ACode := .seq (.region k3_o11) .ret
def k3_16 : ACode := .cond (.t 118) k3_15 .skip
def k3_17 : ACode := .seq (.region k3_o10) k3_16
abbrev k3_o12 : List AJ := [.o ⟨(some 119), none, false, .mv (.t 1), none⟩, .o ⟨(some 120), none, false, .fieldA 0 (.t 5), none⟩, .o ⟨(some 121), none, false, .load 1 false (.t 120), none⟩, .o ⟨(some 122), none, false, .call 16 [(.t 119), (.c (.int .i64 0)), (.t 121)], none⟩, .o ⟨(some 123), none, false, .bsl true 1 [(.t 122)], none⟩, .o ⟨(some 17), none, false, .mv (.t 123), (some [1, 5, 6, 9, 17])⟩]
abbrev k3_o13 : List AJ := [.o ⟨(some 18), none, false, .mv (.c (.int .i64 1)), (some [1, 5, 6, 9, 17, 18])⟩]
abbrev k3_o14 : List AJ := [.o ⟨(some 124), none, false, .mv (.t 18), none⟩, .o ⟨(some 125), none, false, .bin .lss (.t 124) (.c (.int .i64 20)), none⟩, .o ⟨(some 126), none, false, .mv (.t 125), none⟩, .o ⟨(some 127), (some (126, true)), false, .fieldA 2 (.t 5), none⟩, .o ⟨(some 128), (some (126, true)), false, .load 1 false (.t 127), none⟩, .o ⟨(some 129), (some (126, true)), false, .len (.t 128), none⟩, .o ⟨(some 130), (some (126, true)), false, .bin .gtr (.t 129) (.c (.int .i64 0)), none⟩, .o ⟨(some 131), none, false, .pick (.t 126) (.t 130) (.c (.bool false)), (some [1, 5, 6, 9, 17, 18, 131])⟩]
def k3_21 : ACode := .cond (.t 131) .skip (.exit 0)
def k3_22 : ACode := .seq (.region k3_o14) k3_21
abbrev k3_o15 : List AJ := [.o ⟨(some 134), none, false, .fieldA 2 (.t 5), none⟩, .o ⟨(some 135), none, false, .load 1 false (.t 134), none⟩, .o ⟨(some 136), none, false, .mv (.t 1), none⟩, .o ⟨(some 137), none, false, .mv (.t 18), none⟩, .o ⟨(some 138), none, false, .fieldA 2 (.t 5), none⟩, .o ⟨(some 139), none, false, .load 1 false (.t 138), none⟩, .o ⟨(some 140), none, false, .len (.t 139), none⟩, .o ⟨(some 141), none, true, .call 16 [(.t 136), (.t 137), (.t 140)], none⟩, .o ⟨(some 142), none, false, .idxA 3 (.t 135) (.t 141), none⟩, .o ⟨(some 143), none, false, .load 3 true (.t 142), none⟩, .v 19 3 (.agg [(.int .i64 0), (.int .i64 0), (.int .i64 0)]) [] (.t 143) (some [1, 5, 6, 9, 17, 18, 19])]
abbrev k3_o16 : List AJ := [.o ⟨(some 144), none, false, .mv (.t 17), none⟩, .o ⟨(some 145), none, false, .mv (.t 17), none⟩, .o ⟨(some 146), none, false, .len (.t 145), none⟩, .o ⟨(some 147), none, true, .bin .sub (.t 146) (.c (.int .i64 1)), none⟩, .o ⟨(some 148), none, false, .idxA 1 (.t 144) (.t 147), none⟩, .o ⟨(some 149), none, false, .load 1 false (.t 148), none⟩, .o ⟨(some 20), none, false, .mv (.t 149), (some [1, 5, 6, 9, 17, 18, 19, 20])⟩]
abbrev k3_o17 : List AJ := [.o ⟨(some 150), none, false, .fieldA 0 (.t 19), none⟩, .o ⟨(some 151), none, false, .load 1 false (.t 150), none⟩, .o ⟨(some 152), none, false, .mv (.t 20), none⟩, .o ⟨(some 153), none, false, .bin .eql (.t 151) (.t 152), (some [1, 5, 6, 9, 17, 18, 19, 20, 153])⟩]
abbrev k3_o18 : List AJ := [.o ⟨(some 154), none, false, .mv (.t 17), none⟩, .o ⟨(some 155), none, false, .fieldA 1 (.t 19), none⟩, .o ⟨(some 156), none, false, .load 1 false (.t 155), none⟩, .o ⟨(some 157), none, false, .bsl false 1 [(.t 156)], none⟩, .o ⟨(some 158), none, false, .append 1 8 (.t 154) (.t 157), none⟩, .o ⟨(some 17), none, false, .mv (.t 158), (some [1, 5, 6, 9, 17, 18])⟩]
def k3_26 : ACode := .region k3_o18
abbrev k3_o19 : List AJ := [.o ⟨(some 159), none, false, .fieldA 1 (.t 19), none⟩, .o ⟨(some 160), none, false, .load 1 false (.t 159), none⟩, .o ⟨(some 161), none, false, .mv (.t 20), none⟩, .o ⟨(some 162), none, false, .bin .eql (.t 160) (.t 161), (some [1, 5, 6, 9, 17, 18, 19, 162])⟩]
abbrev k3_o20 : List AJ := [.o ⟨(some 163), none, false, .mv (.t 17), none⟩, .o ⟨(some 164), none, false, .fieldA 0 (.t 19), none⟩, .o ⟨(some 165), none, false, .load 1 false (.t 164), none⟩, .o ⟨(some 166), none, false, .bsl false 1 [(.t 165)], none⟩, .o ⟨(some 167), none, false, .append 1 8 (.t 163) (.t 166), none⟩, .o ⟨(some 17), none, false, .mv (.t 167), (some [1, 5, 6, 9, 17, 18])⟩]
def k3_28 : ACode := .region k3_o20
def k3_29 : ACode := .cond (.t 162) k3_28 .skip
def k3_30 : ACode := .seq (.region k3_o19) k3_29
def k3_31 : ACode := .cond (.t 153) k3_26 k3_30
def k3_32 : ACode := .seq (.region k3_o17) k3_31
def k3_33 : ACode := .seq (.region k3_o16) k3_32
def k3_34 : ACode := .seq (.drawT 1 k3_o15 rfl) k3_33
abbrev k3_o21 : List AJ := [.o ⟨(some 132), none, false, .mv (.t 18), none⟩, .o ⟨(some 133), none, true, .bin .add (.t 132) (.c (.int .i64 1)), none⟩, .o ⟨(some 18), none, false, .mv (.t 133), (some [1, 5, 6, 9, 17, 18])⟩]
def k3_36 : ACode := .region k3_o21
def k3_37 : ACode := .seq (.block 1 k3_34) k3_36
def k3_38 : ACode := .seq k3_22 k3_37
def k3_39 : ACode := .loop k3_38
def k3_40 : ACode := .block 0 k3_39
def k3_41 : ACode := .seq (.region k3_o13) k3_40
abbrev k3_o22 : List AJ := [.o ⟨(some 169), none, false, .load 3 true (.t 5), none⟩, .o ⟨(some 170), none, false, .mv (.t 17), none⟩, .o ⟨(some 171), none, false, .call 17 [(.t 169), (.t 170)], none⟩, .o ⟨(some 168), none, false, .mv (.t 171), none⟩, .o ⟨(some 172), none, false, .extract (.t 168) 0, none⟩, .o ⟨(some 173), none, false, .extract (.t 168) 1, none⟩, .o ⟨(some 21), none, false, .mv (.t 172), none⟩, .o ⟨(some 22), none, false, .mv (.t 173), (some [5, 6, 9, 17, 21, 22])⟩]
abbrev k3_o23 : List AJ := [.o ⟨(some 175), none, false, .load 3 true (.t 9), none⟩, .o ⟨(some 176), none, false, .mv (.t 17), none⟩, .o ⟨(some 177), none, false, .call 17 [(.t 175), (.t 176)], none⟩, .o ⟨(some 174), none, false, .mv (.t 177), none⟩, .o ⟨(some 178), none, false, .extract (.t 174) 0, none⟩, .o ⟨(some 179), none, false, .extract (.t 174) 1, none⟩, .o ⟨(some 23), none, false, .mv (.t 178), none⟩, .o ⟨(some 24), none, false, .mv (.t 179), (some [5, 6, 17, 21, 22, 23, 24])⟩]
abbrev k3_o24 : List AJ := [.o ⟨(some 180), none, false, .mv (.t 6), none⟩, .o ⟨(some 181), none, false, .mv (.t 17), none⟩, .o ⟨(some 182), none, false, .idxA 1 (.t 181) (.c (.int .i64 0)), none⟩, .o ⟨(some 183), none, false, .load 1 false (.t 182), none⟩, .o ⟨(some 184), none, false, .idxA 1 (.t 180) (.t 183), none⟩, .o ⟨(some 185), none, false, .load 1 false (.t 184), none⟩, .o ⟨(some 25), none, false, .mv (.t 185), (some [5, 6, 17, 21, 22, 23, 24, 25])⟩]
abbrev k3_o25 : List AJ := [.o ⟨(some 186), none, false, .mv (.t 6), none⟩, .o ⟨(some 187), none, false, .mv (.t 17), none⟩, .o ⟨(some 188), none, false, .mv (.t 17), none⟩, .o ⟨(some 189), none, false, .len (.t 188), none⟩, .o ⟨(some 190), none, true, .bin .sub (.t 189) (.c (.int .i64 1)), none⟩, .o ⟨(some 191), none, false, .idxA 1 (.t 187) (.t 190), none⟩, .o ⟨(some 192), none, false, .load 1 false (.t 191), none⟩, .o ⟨(some 193), none, false, .idxA 1 (.t 186) (.t 192), none⟩, .o ⟨(some 194), none, false, .load 1 false (.t 193), none⟩, .o ⟨(some 26), none, false, .mv (.t 194), (some [5, 21, 22, 23, 24, 25, 26])⟩]
abbrev k3_o26 : List AJ := [.o ⟨(some 195), none, false, .mv (.t 22), none⟩, .o ⟨(some 196), none, false, .bin .eql (.t 195) (.c (.int .i64 0)), none⟩, .o ⟨(some 197), none, false, .mv (.t 196), none⟩, .o ⟨(some 198), (some (197, true)), false, .mv (.t 24), none⟩, .o ⟨(some 199), (some (197, true)), false, .bin .eql (.t 198) (.c (.int .i64 0)), none⟩, .o ⟨(some 200), none, false, .pick (.t 197) (.t 199) (.c (.bool false)), none⟩, .o ⟨(some 201), none, false, .mv (.t 200), none⟩, .o ⟨(some 202), (some (201, true)), false, .mv (.t 21), none⟩, .o ⟨(some 203), (some (201, true)), false, .bin .geq (.t 202) (.c (.int .i64 0)), none⟩, .o ⟨(some 204), none, false, .pick (.t 201) (.t 203) (.c (.bool false)), (some [5, 21, 23, 25, 26, 204])⟩, .o ⟨(some 205), none, false, .mv (.t 204), none⟩, .o ⟨(some 206), (some (205, true)), false, .mv (.t 21), none⟩, .o ⟨(some 207), (some (205, true)), false, .fieldA 1 (.t 5), none⟩, .o ⟨(some 208), (some (205, true)), false, .load 1 false (.t 207), none⟩, .o ⟨(some 209), (some (205, true)), false, .bin .lss (.t 206) (.t 208), none⟩, .o ⟨(some 210), none, false, .pick (.t 205) (.t 209) (.c (.bool false)), none⟩, .o ⟨(some 211), none, false, .mv (.t 210), none⟩, .o ⟨(some 212), (some (211, true)), false, .mv (.t 21), none⟩, .o ⟨(some 213), (some (211, true)), false, .mv (.t 26), (some [5, 23, 25, 211, 212, 213])⟩, .o ⟨(some 214), (some (211, true)), true, .bin .add (.t 212) (.t 213), none⟩, .o ⟨(some 215), (some (211, true)), false, .mv (.t 25), none⟩, .o ⟨(some 216), (some (211, true)), true, .bin .sub (.t 214) (.t 215), none⟩, .o ⟨(some 217), (some (211, true)), false, .fieldA 1 (.t 5), none⟩, .o ⟨(some 218), (some (211, true)), false, .load 1 false (.t 217), none⟩, .o ⟨(some 219), (some (211, true)), true, .bin .add (.t 216) (.t 218), none⟩, .o ⟨(some 220), (some (211, true)), false, .fieldA 1 (.t 5), (some [23, 211, 219, 220])⟩, .o ⟨(some 221), (some (211, true)), false, .load 1 false (.t 220), none⟩, .o ⟨(some 222), (some (211, true)), false, .bin .rem (.t 219) (.t 221), none⟩, .o ⟨(some 223), (some (211, true)), false, .mv (.t 23), none⟩, .o ⟨(some 224), (some (211, true)), false, .bin .eql (.t 222) (.t 223), none⟩, .o ⟨(some 225), none, false, .pick (.t 211) (.t 224) (.c (.bool false)), none⟩, .o ⟨(some 4), none, false, .mv (.t 225), (some [4])⟩]
def k3_47 : ACode := .seq (.region k3_o26) .ret
def k3_48 : ACode := .seq (.region k3_o25) k3_47
def k3_49 : ACode := .seq (.region k3_o24) k3_48
def k3_50 : ACode := .seq (.region k3_o23) k3_49
def k3_51 : ACode := .seq (.region k3_o22) k3_50
def k3_52 : ACode := .seq k3_41 k3_51
def k3_53 : ACode := .seq (.region k3_o12) k3_52
def k3_54 : ACode := .seq k3_17 k3_53
def k3_55 : ACode := .seq (.region k3_o9) k3_54
def k3_56 : ACode := .seq (.region k3_o8) k3_55
def k3_57 : ACode := .seq (.region k3_o7) k3_56
def k3_58 : ACode := .seq (.region k3_o6) k3_57
def k3_59 : ACode := .seq (.region k3_o5) k3_58
def k3_60 : ACode := .seq (.region k3_o4) k3_59
def k3_61 : ACode := .seq (.region k3_o3) k3_60
def k3_62 : ACode := .seq k3_5 k3_61
def k3_63 : ACode := .seq (.region k3_o0) k3_62
@[simp, simp ↓] theorem k3_3r : sR k3_3 k3_o2 .ret := yR rfl
@[simp, simp ↓] theorem k3_4r : rC k3_4 (.t 29) k3_3 .skip := zC rfl
@[simp, simp ↓] theorem k3_5r : sR k3_5 k3_o1 k3_4 := yR rfl
@[simp, simp ↓] theorem k3_15r : sR k3_15 k3_o11 .ret := yR rfl
@[simp, simp ↓] theorem k3_16r : rC k3_16 (.t 118) k3_15 .skip := zC rfl
@[simp, simp ↓] theorem k3_17r : sR k3_17 k3_o10 k3_16 := yR rfl
@[simp, simp ↓] theorem k3_21r : rC k3_21 (.t 131) .skip (.exit 0) := zC rfl
@[simp, simp ↓] theorem k3_22r : sR k3_22 k3_o14 k3_21 := yR rfl
@[simp, simp ↓] theorem k3_26r : rR k3_26 k3_o18 := zR rfl
@[simp, simp ↓] theorem k3_28r : rR k3_28 k3_o20 := zR rfl
@[simp, simp ↓] theorem k3_29r : rC k3_29 (.t 162) k3_28 .skip := zC rfl
@[simp, simp ↓] theorem k3_30r : sR k3_30 k3_o19 k3_29 := yR rfl
@[simp, simp ↓] theorem k3_31r : rC k3_31 (.t 153) k3_26 k3_30 := zC rfl
@[simp, simp ↓] theorem k3_32r : sR k3_32 k3_o17 k3_31 := yR rfl
@[simp, simp ↓] theorem k3_33r : sR k3_33 k3_o16 k3_32 := yR rfl
@[simp, simp ↓] theorem k3_34r : sT k3_34 k3_o15 k3_33 := yT rfl
@[simp, simp ↓] theorem k3_36r : rR k3_36 k3_o21 := zR rfl
@[simp, simp ↓] theorem k3_37r : sB k3_37 1 k3_34 k3_36 := yB rfl
@[simp, simp ↓] theorem k3_38r : rS k3_38 k3_22 k3_37 := zS rfl
@[simp, simp ↓] theorem k3_39r : rL k3_39 k3_38 := zL rfl
@[simp, simp ↓] theorem k3_40r : rB k3_40 0 k3_39 := zB rfl
@[simp, simp ↓] theorem k3_41r : sR k3_41 k3_o13 k3_40 := yR rfl
@[simp, simp ↓] theorem k3_47r : sR k3_47 k3_o26 .ret := yR rfl
@[simp, simp ↓] theorem k3_48r : sR k3_48 k3_o25 k3_47 := yR rfl
@[simp, simp ↓] theorem k3_49r : sR k3_49 k3_o24 k3_48 := yR rfl
@[simp, simp ↓] theorem k3_50r : sR k3_50 k3_o23 k3_49 := yR rfl
@[simp, simp ↓] theorem k3_51r : sR k3_51 k3_o22 k3_50 := yR rfl
@[simp, simp ↓] theorem k3_52r : rS k3_52 k3_41 k3_51 := zS rfl
@[simp, simp ↓] theorem k3_53r : sR k3_53 k3_o12 k3_52 := yR rfl
@[simp, simp ↓] theorem k3_54r : rS k3_54 k3_17 k3_53 := zS rfl
@[simp, simp ↓] theorem k3_55r : sR k3_55 k3_o9 k3_54 := yR rfl
@[simp, simp ↓] theorem k3_56r : sR k3_56 k3_o8 k3_55 := yR rfl
@[simp, simp ↓] theorem k3_57r : sR k3_57 k3_o7 k3_56 := yR rfl
@[simp, simp ↓] theorem k3_58r : sR k3_58 k3_o6 k3_57 := yR rfl
@[simp, simp ↓] theorem k3_59r : sR k3_59 k3_o5 k3_58 := yR rfl
@[simp, simp ↓] theorem k3_60r : sR k3_60 k3_o4 k3_59 := yR rfl
@[simp, simp ↓] theorem k3_61r : sR k3_61 k3_o3 k3_60 := yR rfl
@[simp, simp ↓] theorem k3_62r : rS k3_62 k3_5 k3_61 := zS rfl
@[simp, simp ↓] theorem k3_63r : sR k3_63 k3_o0 k3_62 := yR rfl
noncomputable abbrev k3_C : Orc → Cx := mkC Tryz.prog [5, 9, 15, 19, 123] 3 226 [.tmp 4]
theorem k3_of : OfP Tryz.prog Tryz.f3 3 226 k3_C k3_63 := @ofP _ _ _ _ _ _ _ _ Tryz.func3 (by decide +kernel) rfl (by kernel_rfl) rfl (by kernel_rfl)
theorem phases_law (code : List UInt8) (hc : wfY code) (more : List UInt8) (hm : wfY more) : ACalls Tryz.prog 3 [.snap 1 (code.map bv), .snap 1 (more.map bv)] [] (fun v h' => v = .bool true ∧ h' = []) := by
  refine k3_of rfl orcPp_p fun I => ?_
  refine Run2.of I 1000 ?_
  simp -implicitDefEqProofs
  refine ⟨fun _ => .base ⟨rfl, rfl⟩, fun hl1 hl2 => ?_⟩
  refine (R8Phases_c code [] hl1).mono ?_
  rintro v h' ⟨x, hv, rfl, rfl⟩
  have hvv : Ph.valid ⟨x.n, x.m, x.ts⟩ := hv
  have hn1 := hv.1
  have hn2 := hv.2.1
  have hm1 := hv.2.2.1
  have hm2 := hv.2.2.2.1
  have hE := hv.2.2.2.2.2
  refine gK.go ?_
  simp -implicitDefEqProofs
  refine (R8List_c more x.n x.m [] hl2 (by omega) (by omega)).mono ?_
  rintro v h' ⟨l, hvl, rfl, rfl⟩
  have hll : l.length ≤ 1048576 := Ph.vlen hv hvl
  have hv2 := Ph.tn_valid hv l
  have hv2' : Ph.valid ⟨(x.tn l).n, (x.tn l).m, (x.tn l).ts⟩ := hv2
  obtain ⟨rt1, rt2⟩ := rp_text hv
  have rt3 : (phT x).length ≤ 1048576 := by have := phT_len hv; omega
  have hp : x.pcode = if x.wrong = [] then 0 else 3 := by simp [Ph.pcode, hv]
  have hp2 : (x.tn l).pcode = x.pcode := by
    unfold Ph.pcode
    rw [if_pos hv, if_pos hv2]
    simp only [Ph.tn_wrong hv l]
  have hrl : (Ph.pres x).length ≤ 1048576 := by have := x.pres_len; omega
  have tail : ∀ id : Nat, Run2 (k3_C (lk orcPp)) [.code k3_38, .inLoop k3_38, .inBlock 0, .code k3_51]
      [(1, .snap 1 (more.map bv)), (5, .ip [.int .i64 x.n, .int .i64 x.m, .snap 3 (x.ts.map T.av)]), (6, .snap 1 (l.map iv)), (9, .ip [.int .i64 (x.tn l).n, .int .i64 (x.tn l).m, .snap 3 ((x.tn l).ts.map T.av)]), (17, .sl id 1 0 1 (some 1)), (18, .int .i64 1)]
      [(id, ⟨1, [.int .i64 (r8v more 0 x.n)]⟩)] (Post fun v h' => v = .bool true ∧ h' = []) := by
    intro id
    refine Run2.wk (e' := [(1, .snap 1 (more.map bv)), (5, .ip [.int .i64 x.n, .int .i64 x.m, .snap 3 (x.ts.map T.av)]), (6, .snap 1 (l.map iv)), (9, .ip [.int .i64 (x.tn l).n, .int .i64 (x.tn l).m, .snap 3 ((x.tn l).ts.map T.av)]), (17, .sl id 1 0 1 none), (18, .int .i64 1)]) (fun t => ?_) ?_
    · simp only [eget]
      repeat' split
      all_goals first | exact Wk.refl _ | exact Wk.cap _ _ _ _ _
    have h0 := r8v_rng more 0 x.n hn1
    refine Run2.loopE (α := Nat × List Int × AV × Heap) (fun s => [(1, .snap 1 (more.map bv)), (5, .ip [.int .i64 x.n, .int .i64 x.m, .snap 3 (x.ts.map T.av)]), (6, .snap 1 (l.map iv)), (9, .ip [.int .i64 (x.tn l).n, .int .i64 (x.tn l).m, .snap 3 ((x.tn l).ts.map T.av)]), (17, s.2.2.1), (18, .int .i64 (s.1 : Nat))]) (fun s => s.2.2.2) (fun s => 20 - s.1)
      (fun s => (1 ≤ s.1 ∧ s.1 ≤ 20) ∧ x.walk s.2.1 ∧ s.2.1.length ≤ s.1 ∧ Grow 1 s.2.2.1 (s.2.1.map iv) s.2.2.2) (1, [r8v more 0 x.n], .sl id 1 0 1 none, [(id, ⟨1, [.int .i64 (r8v more 0 x.n)]⟩)]) (by simp) (by simp) ⟨by simp, h0, by simp, .sl id _ 1 rfl⟩ ?_
    rintro ⟨i, p, up, gp⟩ ⟨hi, hwp, hpl, hgp⟩ ih
    simp only at hi hwp hpl hgp ih ⊢
    have hpn : p ≠ [] := fun e => by rw [e] at hwp; exact hwp
    have hp1 : 1 ≤ p.length := List.length_pos_iff.2 hpn
    obtain ⟨idp, rfl, rfl⟩ := hgp.ne (by simpa using hpn)
    by_cases hgo : i < 20 ∧ 0 < x.ts.length
    · obtain ⟨k, hk⟩ : ∃ k : Nat, r8v more i x.ts.length = (k : Int) := ⟨(r8v more i x.ts.length).toNat, by have := r8v_rng more i x.ts.length (by omega); omega⟩
      have hkl : k < x.ts.length := by have := r8v_rng more i x.ts.length (by omega); omega
      obtain ⟨q1, q2, q3, q4, q5⟩ := Ph.edge hv hkl
      obtain ⟨z, hz⟩ : ∃ z, p[p.length - 1]? = some z := ⟨p[p.length - 1]'(by omega), List.getElem?_eq_getElem (by omega)⟩
      have hzl : p.getLast? = some z := by rw [List.getLast?_eq_getElem?]; exact hz
      have go := fun p' u' g' a b c => ih (i + 1, p', u', g') ⟨by simp only; omega, a, b, c⟩ (by simp only; omega)
      clear ih
      have hi20 : (i : Int) < 20 := by omega
      have hz2 : p[p.length - 1]'(by omega) = z := (List.getElem?_eq_some_iff.1 hz).2
      by_cases h1 : x.ts[k].f = z
      · have hwk := Ph.walk_snoc hv hwp hzl (b := x.ts[k].t) ⟨k, hkl, .inl ⟨h1, rfl⟩⟩
        refine Run2.of I 1000 ?_
        simp -implicitDefEqProofs [hi20, hgo.2, hk, hkl, hl2, hz, hz2, h1]
        refine ⟨by omega, by omega, by omega, by omega, by omega, fun id2 => ⟨by omega, ?_⟩⟩
        have e : List.take p.length (p.map iv) ++ [AV.int .i64 x.ts[k].t] = (p ++ [x.ts[k].t]).map iv := by rw [List.take_of_length_le (by simp)]; simp [iv]
        rw [e]
        have := go (p ++ [x.ts[k].t]) (.sl id2 1 0 (p.length + 1) none) [(id2, ⟨1, (p ++ [x.ts[k].t]).map iv⟩)] hwk (by simp only [List.length_append, List.length_singleton]; omega) (.sl id2 _ _ (by simp))
        simpa using this
      · by_cases h2 : x.ts[k].t = z
        · have hwk := Ph.walk_snoc hv hwp hzl (b := x.ts[k].f) ⟨k, hkl, .inr ⟨rfl, h2⟩⟩
          refine Run2.of I 1000 ?_
          simp -implicitDefEqProofs [hi20, hgo.2, hk, hkl, hl2, hz, hz2, h1, h2]
          refine ⟨by omega, by omega, by omega, by omega, by omega, fun id2 => ⟨by omega, ?_⟩⟩
          have e : List.take p.length (p.map iv) ++ [AV.int .i64 x.ts[k].f] = (p ++ [x.ts[k].f]).map iv := by rw [List.take_of_length_le (by simp)]; simp [iv]
          rw [e]
          have := go (p ++ [x.ts[k].f]) (.sl id2 1 0 (p.length + 1) none) [(id2, ⟨1, (p ++ [x.ts[k].f]).map iv⟩)] hwk (by simp only [List.length_append, List.length_singleton]; omega) (.sl id2 _ _ (by simp))
          simpa using this
        · have := go p _ _ hwp (by simp only; omega) hgp
          refine Run2.of I 1000 ?_
          simp -implicitDefEqProofs [hi20, hgo.2, hk, hkl, hl2, hz, hz2, h1, h2]
          refine ⟨by omega, by omega, by omega, by omega, by omega, ?_⟩
          simpa using this
    · clear ih
      have hnx : ¬ ((i : Int) < 20) ∨ x.ts.length = 0 := by omega
      refine Run2.freezeS (e' := [(1, .snap 1 (more.map bv)), (5, .ip [.int .i64 x.n, .int .i64 x.m, .snap 3 (x.ts.map T.av)]), (6, .snap 1 (l.map iv)), (9, .ip [.int .i64 (x.tn l).n, .int .i64 (x.tn l).m, .snap 3 ((x.tn l).ts.map T.av)]), (17, .snap 1 (p.map iv)), (18, .int .i64 (i : Nat))]) (h' := []) idp (by simp [hget]; rfl) (by simp [hdel, dom]) (by simp) (fun t => ?_) ?_
      · simp only [eget]
        repeat' split
        all_goals first | exact .inl rfl | (right; simp [fz]; exact (List.take_of_length_le (by simp)).symm)
      obtain ⟨a, ha⟩ : ∃ a, p.head? = some a := by cases p with
        | nil => exact absurd rfl hpn
        | cons a r => exact ⟨a, rfl⟩
      obtain ⟨b, hb⟩ : ∃ b, p.getLast? = some b := ⟨p.getLast hpn, List.getLast?_eq_some_getLast hpn⟩
      obtain ⟨s, s', g1, g2, g3, g4, g5⟩ := Ph.tn_sum hv (l := l) hwp ha hb (by omega)
      have f1 : (x.hol2 p).1 = s := by rw [g1]
      have f2 : (x.hol2 p).2 = 0 := by rw [g1]
      have f3 : ((x.tn l).hol2 p).1 = s' := by rw [g2]
      have f4 : ((x.tn l).hol2 p).2 = 0 := by rw [g2]
      have hall := Ph.walk_rng hv hwp
      have hra := hall a (by cases p with
        | nil => cases ha
        | cons c r => simp at ha; subst ha; simp)
      have hrb := hall b (List.mem_of_getLast? hb)
      have a0 : p[0]? = some a := by rw [← List.head?_eq_getElem?]; exact ha
      have b0 : p[p.length - 1]? = some b := by rw [← List.getLast?_eq_getElem?]; exact hb
      have hal : a.toNat < l.length := by have := hvl.1; omega
      have hbl : b.toNat < l.length := by have := hvl.1; omega
      have hga : l.getD a.toNat 0 = l[a.toNat] := by simp [hal]
      have hgb : l.getD b.toNat 0 = l[b.toNat] := by simp [hbl]
      have hla := hvl.2 l[a.toNat] (List.getElem_mem hal)
      have hlb := hvl.2 l[b.toNat] (List.getElem_mem hbl)
      rw [hga, hgb] at g5
      have htm : (s + l[b.toNat] - l[a.toNat] + x.m).tmod x.m = s' := by rw [Int.tmod_eq_emod_of_nonneg (by omega)]; exact g5
      rcases hnx with hnx | hnx
      · refine Run2.of I 1000 ?_
        simp -implicitDefEqProofs [hnx, hvv, hv2', f1, f2, f3, f4, a0, b0, hal, hbl, hra.1, hrb.1, htm]
        exact ⟨by omega, by omega, by omega, fun _ => ⟨fun _ => ⟨by omega, by omega, by omega, by omega, .base ⟨rfl, rfl⟩⟩, fun h => by omega⟩, fun h => by omega⟩
      · refine Run2.of I 1000 ?_
        simp -implicitDefEqProofs [hnx, hvv, hv2', f1, f2, f3, f4, a0, b0, hal, hbl, hra.1, hrb.1, htm]
        exact ⟨fun _ => ⟨by omega, by omega, by omega, fun _ => ⟨fun _ => ⟨by omega, by omega, by omega, by omega, .base ⟨rfl, rfl⟩⟩, fun h => by omega⟩, fun h => by omega⟩, fun _ => ⟨by omega, by omega, by omega, fun _ => ⟨fun _ => ⟨by omega, by omega, by omega, by omega, .base ⟨rfl, rfl⟩⟩, fun h => by omega⟩, fun h => by omega⟩⟩
  by_cases hw : x.wrong = []
  · have e1 : x.pres = x.pots := by simp [Ph.pres, hv, hw]
    have e2 := Ph.pots_vec hv
    have e3 : x.wr x.pots x.ts.length = [] := hw
    rw [if_pos hw] at hp
    refine gK.go ?_
    simp -implicitDefEqProofs [hvv, hv2', hvl, rt1, rt2, rt3, hp, hp2, hrl, hll, e1, e2, e3]
    exact ⟨by have := Ph.vlen hv e2; omega, by omega, by omega, tail⟩
  · rw [if_neg hw] at hp
    refine gK.go ?_
    simp -implicitDefEqProofs [hvv, hv2', hvl, rt1, rt2, rt3, hp, hp2, hrl, hll]
    exact ⟨by omega, by omega, tail⟩
end Go.AG.P
namespace Go.Proofs.YtgofekmoimjcmaaGreatDoor
open Go.ChangeShapes Go.WideShapes Go.ChangeAt Go.RowKit Go.AG Go.AG.P
theorem own : ownKnob Tryz.prog.godebug = none := by kernel_rfl
theorem laidOut : laidOutB Tryz.prog = true := by kernel_rfl
theorem row_err (u : TypeId) (h : Tryz.prog.typeName? 3 u = some "*errors.errorString") : u = 150 :=
  typeName_ptr_named (nm := "errors.errorString") (by rw [show "*" ++ "errors.errorString" = "*errors.errorString" by decide]; kernel_rfl) (by kernel_rfl) (by decide) u (by rw [show "*" ++ "errors.errorString" = "*errors.errorString" by decide]; exact h)
theorem fix_of {W : World} (hs : W.ShapedOpen Tryz.prog) (h : laidMetH Tryz.prog Rows.fnPhasesRow.laid W) : Fix W [] := by
  rw [MakeChecks.laidMetH_plain _ _ _ (by kernel_rfl)] at h
  have h2 : laidMet Tryz.prog (("internal/strconv.uint64pow10", Lib.tabData .u64 Lib.pow10Tab) :: Rows.fnPhasesRow.laid.drop 3) W := h.tail.tail
  have ht := Lib.tabIs_of_head (g := 3) (t := 142) (e := 72) (n := 20) (by kernel_rfl) (by kernel_rfl) Tryz.underlying142 Tryz.underlying72 (by kernel_rfl) (by kernel_rfl) h2
  have sent : ∀ {n : String} {g : Nat} {text : List UInt8} {r : List (String × DataW Unit)}, laidMet Tryz.prog ((n, .iface "*errors.errorString" (.ptr (.agg [.lit (.string text)]))) :: r) W → Tryz.prog.globalNamed n = some g → (Tryz.prog.globals[g]?).map (·.type) = some 90 → ∃ v, W.cell? ⟨g, 0, none⟩ = some v ∧ okS false v := fun hl hg ht => by
    obtain ⟨a, s, hv, _⟩ := laid_sentinel hl hg ht Tryz.underlying90 row_err Tryz.underlying150 Tryz.underlying152 rfl rfl Tryz.underlying9 (by kernel_rfl) (by kernel_rfl)
    exact ⟨_, by simpa using World.var?_cell hg hv 0, by simp [okS]⟩
  refine ⟨?_, fun p hp => ?_⟩
  rotate_left
  · have e1 := sent (show laidMet Tryz.prog (("strconv.ErrSyntax", .iface "*errors.errorString" (.ptr (.agg [.lit (.string [105, 110, 118, 97, 108, 105, 100, 32, 115, 121, 110, 116, 97, 120])]))) :: Rows.fnPhasesRow.laid.drop 6) W from h.tail.tail.tail.tail.tail) (g := 1) (by kernel_rfl) (by kernel_rfl)
    have e2 := sent (show laidMet Tryz.prog (("strconv.ErrRange", .iface "*errors.errorString" (.ptr (.agg [.lit (.string [118, 97, 108, 117, 101, 32, 111, 117, 116, 32, 111, 102, 32, 114, 97, 110, 103, 101])]))) :: Rows.fnPhasesRow.laid.drop 5) W from h.tail.tail.tail.tail) (g := 2) (by kernel_rfl) (by kernel_rfl)
    obtain ⟨m, hm⟩ := Tryz.layCut.s1_3 W hs
    refine ⟨by simp, ?_⟩
    have hc : p = (0, true) ∨ p = (1, false) ∨ p = (2, false) := by simpa [laidS] using hp
    rcases hc with rfl | rfl | rfl
    · exact ⟨_, hm, by simp [okS]⟩
    · exact e1
    · exact e2
  intro p hp
  obtain rfl := List.mem_singleton.1 hp
  refine ⟨by simp, ?_⟩
  unfold Lib.TabIs World.var? at ht
  rw [show Tryz.prog.globalNamed "internal/strconv.uint64pow10" = some 3 by kernel_rfl] at ht
  simp only [Option.bind_some] at ht
  split at ht
  · rename_i cs el fz e
    exact ⟨el, fz, by rw [e]; rw [Option.some.inj ht]⟩
  · cases ht
set_option maxRecDepth 100000 in
theorem fnPhases_lifted (os : Os) (started : os.Started) (H : Type) (enc : TypeId × Value → H) :
    ReturnsInHanded {} Tryz.checked os 3 .any (fun w args => (Rows.fnPhasesSpec.pre enc Tryz.prog Tryz.f3 [] false w args ∧ laidMetH Tryz.prog Rows.fnPhasesRow.laid w) ∧ sizedMet enc Tryz.prog Tryz.f3 (OpenSpec.ofChange Rows.fnPhasesSpec) false w args)
      (Rows.fnPhasesSpec.post enc Tryz.prog Tryz.f3 false true false false) := by
  refine returnsInHanded_shaped_and (C := Tryz.checked) (X := fun w _ => laidMetH Tryz.prog Rows.fnPhasesRow.laid w) (fun _ _ _ hh h => h.of_heap hh) own started (by kernel_rfl) Tryz.func3
    (ChangeSpec.witness_shaped (enc := enc) (C := Tryz.checked) (os := os) (X := fun w _ => laidMetH Tryz.prog Rows.fnPhasesRow.laid w) false (World.laidAll Tryz.prog os Rows.fnPhasesRow.laid) #[.slice none 0 0, .slice none 0 0] 8 (World.laidAll_os _ _ _) (World.shaped_of_ZipB (by kernel_rfl) (by kernel_rfl)) (by kernel_rfl) (by kernel_rfl) (by kernel_rfl) (by rw [MakeChecks.laidMetH_plain _ _ _ (by kernel_rfl)]; exact laidMet_laidAll _ (by kernel_rfl) (by kernel_rfl))) ?_
  intro W base args ds gs before hval0 hW hL hS
  have hval : ∀ (j : Nat) t v, Tryz.f3.params[j]? = some t → args[j]? = some v → Value.okWide Tryz.prog W .any base t v := hval0
  refine law_post (tys := [(.slice (.int .u8)), (.slice (.int .u8))]) (tb := 4) laidOut rfl (by kernel_rfl) (by kernel_rfl) (by kernel_rfl) (by kernel_rfl) hval hW ?_ ?_ (fix_of hS hL)
  · intro ds h
    match ds, h with
    | [a0, a1], _ => rfl
  · rintro xs ⟨x0, r0, rfl, h0, x1, r1, rfl, h1, hr⟩
    have hr0 : r1 = [] := hr
    subst hr0
    obtain ⟨p0, rfl, q0⟩ := Bytes_of_shape h0
    obtain ⟨p1, rfl, q1⟩ := Bytes_of_shape h1
    exact phases_law p0 q0 p1 q1
theorem fnPhases_row : Rows.FnPhasesSaid :=
  OpenClaim.holds_of_wide 3 Tryz.f3 rfl rfl rfl rfl rfl rfl rfl ⟨rfl, rfl, rfl, rfl, rfl⟩ rfl rfl rfl rfl rfl (by kernel_rfl) Tryz.func3 (by kernel_rfl)
    (of_decide_eq_true (by kernel_rfl)) (by unfold Func.isWrapper; first | (rw [if_pos (by decide +kernel)]; kernel_rfl) | (rw [if_neg (by decide +kernel)]; exact ⟨rfl, rfl⟩))
    (fun os started H enc _ => fnPhases_lifted os started H enc)
theorem fnPhases_holds : Rows.FnPhasesCardSaid :=
  Claim7.holds_tied_plain_at .later [] [.data, .data, .data, .data, .sentinel, .sentinel, .pinned] true (true, "f92949256ae0e54b4b97e1bf21bc99ea9099f570605ea53c943e147030aa094c") true
    fnPhases_row (fun _ h => by cases h) (by kernel_rfl) (fun _ h => by cases h) fnPhases_row_tie rfl ⟨rfl, rfl⟩ (by kernel_rfl) rfl
    (fun f fn hf hfn => by
      obtain rfl : f = 3 := Option.some.inj ((show Tryz.prog.funcNamed "loop.example/g01005/laws.FnPhases" = some 3 by kernel_rfl).symm.trans hf) |>.symm
      obtain rfl : fn = Tryz.f3 := (Option.some.inj (Tryz.func3.symm.trans hfn)).symm
      exact ⟨by kernel_rfl, fun j t ht => by
        have hm : t ∈ Tryz.f3.params.toList := by simpa using Array.mem_of_getElem? ht
        have hall : (Tryz.f3.params.toList.all fun u => !Tryz.prog.wantsStandIn u) = true := by kernel_rfl
        exact (show Tryz.prog.wantsStandIn t = false by simpa using List.all_eq_true.1 hall t hm)⟩)
    (by kernel_rfl)
end Go.Proofs.YtgofekmoimjcmaaGreatDoor
