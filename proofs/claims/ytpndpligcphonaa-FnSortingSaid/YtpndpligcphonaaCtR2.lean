/- Rounds of a graph: what the reference asks of them, and what ValidRounds gives. No statement is made here. -/
import Derived.Test.YtpndpligcphonaaCtR
namespace Go.AG
open Go.Proofs Go.Proofs.Ytpndpligcphonaa
set_option linter.unusedSimpArgs false
set_option linter.unusedVariables false
set_option maxRecDepth 4000
theorem flatten_pre (rs : List (List Int)) {i : Nat} (hi : i < rs.length) (j : Nat) : ∃ z, rs.flatten = ((rs.take i).flatten ++ rs[i].take j) ++ z := by
  refine ⟨rs[i].drop j ++ (rs.drop (i + 1)).flatten, ?_⟩
  conv => lhs; rw [← List.take_append_drop i rs, List.drop_eq_getElem_cons hi]
  rw [List.flatten_append, List.flatten_cons]
  conv => lhs; rw [← List.take_append_drop j rs[i]]
  simp [List.append_assoc]
  rw [← List.append_assoc, List.take_append_drop]

noncomputable def o_areRounds : List AV → Option (Prop × AV) := tab (fun (x : Int × List T × LS) => match x with | (n, ts, rs) => [.agg [.int .i64 n, .snap 3 (ts.map T.av)], .snap 1 (rs.map il)]) (fun x => match x with | (n, ts, rs) => (ts.length ≤ 24 ∧ ssTot rs ≤ 1048576)) (fun x => match x with | (n, ts, rs) => .bool (decide (Gr.rsOk ⟨n, ts⟩ rs)))
@[simp] theorem o_areRounds_e (n : Int) (ts : List T) (rs : LS) : o_areRounds [.agg [.int .i64 n, .snap 3 (ts.map T.av)], .snap 1 (rs.map il)] = some ((ts.length ≤ 24 ∧ ssTot rs ≤ 1048576), .bool (decide (Gr.rsOk ⟨n, ts⟩ rs))) := tab_at (enc := fun (x : Int × List T × LS) => match x with | (n, ts, rs) => [.agg [.int .i64 n, .snap 3 (ts.map T.av)], .snap 1 (rs.map il)]) (fun x y h => by
  obtain ⟨n1, ts1, rs1⟩ := x; obtain ⟨n2, ts2, rs2⟩ := y; simp at h; simp [h] <;> omega) _ _ (n, ts, rs)
theorem o_areRounds_k : Knows Try.prog 28 o_areRounds := tab_knows fun x hx h => by
  obtain ⟨n, ts, rs⟩ := x; exact areRounds_c ⟨n, ts⟩ rs h hx.1 hx.2
noncomputable def orcS : List (Nat × (List AV → Option (Prop × AV))) := (28, o_areRounds) :: orcV
theorem orcS_p : Pure Try.prog (lk orcS) := (lk_pure o_areRounds_k orcV_p)
@[simp] theorem orcS_l (b : Bool) (g : FuncId) (l : List AV) : lk orcS b g l = if g = 28 then o_areRounds l else lk orcV b g l := nr rfl
theorem Gr.valid.le {x : Gr} (h : x.valid) : x.ts.length ≤ 24 := h.2.2.2
noncomputable def Gr.sCode (x : Gr) (rs : List (List Int)) : Int := if x.valid then if x.rsOk rs then 0 else 2 else 1
abbrev k16_o0 : List AJ := [.o ⟨(some 2), none, false, .box false 2 (.t 0), none⟩, .o ⟨(some 4), none, false, .mv (.c (.int .i64 0)), (some [1, 2])⟩]
abbrev k16_o1 : List AJ := [.o ⟨(some 6), none, false, .load 2 true (.t 2), none⟩, .o ⟨(some 7), none, false, .call 27 [(.t 6)], none⟩, .o ⟨(some 8), none, false, .un .not (.t 7), none⟩, .o ⟨(some 5), none, false, .mv (.t 8), (some [1, 2, 5])⟩]
abbrev k16_o2 : List AJ := [.o ⟨(some 4), none, false, .mv (.c (.int .i64 1)), (some [4])⟩]
def k16_3 : ACode := .seq (.region k16_o2) .ret
abbrev k16_o3 : List AJ := [.o ⟨(some 10), none, false, .load 2 true (.t 2), none⟩, .o ⟨(some 11), none, false, .mv (.t 1), none⟩, .o ⟨(some 12), none, false, .call 28 [(.t 10), (.t 11)], none⟩, .o ⟨(some 13), none, false, .un .not (.t 12), none⟩, .o ⟨(some 9), none, false, .mv (.t 13), (some [9])⟩]
abbrev k16_o4 : List AJ := [.o ⟨(some 4), none, false, .mv (.c (.int .i64 2)), (some [4])⟩]
def k16_6 : ACode := .seq (.region k16_o4) .ret
def k16_7 : ACode := .cond (.t 9) k16_6 .skip
def k16_8 : ACode := .seq (.region k16_o3) k16_7
def k16_9 : ACode := .cond (.t 5) k16_3 k16_8
def k16_10 : ACode := .seq (.region k16_o1) k16_9
abbrev k16_o5 : List AJ := [.o ⟨(some 4), none, false, .mv (.c (.int .i64 0)), (some [4])⟩]
def k16_13 : ACode := .seq (.region k16_o5) .ret
def k16_14 : ACode := .seq (.block 0 k16_10) k16_13
def k16_15 : ACode := .seq (.region k16_o0) k16_14
@[simp, simp ↓] theorem k16_3r : sR k16_3 k16_o2 .ret := yR rfl
@[simp, simp ↓] theorem k16_6r : sR k16_6 k16_o4 .ret := yR rfl
@[simp, simp ↓] theorem k16_7r : rC k16_7 (.t 9) k16_6 .skip := zC rfl
@[simp, simp ↓] theorem k16_8r : sR k16_8 k16_o3 k16_7 := yR rfl
@[simp, simp ↓] theorem k16_9r : rC k16_9 (.t 5) k16_3 k16_8 := zC rfl
@[simp, simp ↓] theorem k16_10r : sR k16_10 k16_o1 k16_9 := yR rfl
@[simp, simp ↓] theorem k16_13r : sR k16_13 k16_o5 .ret := yR rfl
@[simp, simp ↓] theorem k16_14r : sB k16_14 0 k16_10 k16_13 := yB rfl
@[simp, simp ↓] theorem k16_15r : sR k16_15 k16_o0 k16_14 := yR rfl
noncomputable abbrev k16_C : Orc → Cx := mkC Try.prog [] 16 14 [.tmp 4]
theorem k16_of0 : OfP0 Try.prog Try.f16 16 14 k16_C k16_15 := @ofP0 _ _ _ _ _ _ _ _ Try.func16 (by decide +kernel) rfl (by kernel_rfl) rfl (by kernel_rfl)
theorem scheduled_c (x : Gr) (rs : List (List Int)) (h : Heap) (hl : x.ts.length ≤ 1048576) (ok : x.ok) (hr : ssTot rs ≤ 1048576) : ACalls Try.prog 16 [x.av, .snap 1 (rs.map il)] h (fun v h' => v = .int .i64 (x.sCode rs) ∧ h' = h) := by
  refine k16_of0 rfl orcS_p fun I => ?_
  unfold Gr.sCode
  by_cases hv : x.valid
  · have h24 := hv.le
    by_cases hk : x.rsOk rs
    · refine Run2.of I 1000 ?_
      simp -implicitDefEqProofs [hl, ok, hv, h24, hr, hk]
    · refine Run2.of I 1000 ?_
      simp -implicitDefEqProofs [hl, ok, hv, h24, hr, hk]
  · refine Run2.of I 1000 ?_
    simp -implicitDefEqProofs [hl, ok, hv]
noncomputable def o_scheduled : List AV → Option (Prop × AV) := tab (fun (x : Int × List T × LS) => match x with | (n, ts, rs) => [.agg [.int .i64 n, .snap 3 (ts.map T.av)], .snap 1 (rs.map il)]) (fun x => match x with | (n, ts, rs) => (ts.length ≤ 1048576 ∧ Gr.ok ⟨n, ts⟩ ∧ ssTot rs ≤ 1048576)) (fun x => match x with | (n, ts, rs) => .int .i64 (Gr.sCode ⟨n, ts⟩ rs))
@[simp] theorem o_scheduled_e (n : Int) (ts : List T) (rs : LS) : o_scheduled [.agg [.int .i64 n, .snap 3 (ts.map T.av)], .snap 1 (rs.map il)] = some ((ts.length ≤ 1048576 ∧ Gr.ok ⟨n, ts⟩ ∧ ssTot rs ≤ 1048576), .int .i64 (Gr.sCode ⟨n, ts⟩ rs)) := tab_at (enc := fun (x : Int × List T × LS) => match x with | (n, ts, rs) => [.agg [.int .i64 n, .snap 3 (ts.map T.av)], .snap 1 (rs.map il)]) (fun x y h => by
  obtain ⟨n1, ts1, rs1⟩ := x; obtain ⟨n2, ts2, rs2⟩ := y; simp at h; simp [h] <;> omega) _ _ (n, ts, rs)
theorem o_scheduled_k : Knows Try.prog 16 o_scheduled := tab_knows fun x hx h => by
  obtain ⟨n, ts, rs⟩ := x; exact scheduled_c ⟨n, ts⟩ rs h hx.1 hx.2.1 hx.2.2

end Go.AG
