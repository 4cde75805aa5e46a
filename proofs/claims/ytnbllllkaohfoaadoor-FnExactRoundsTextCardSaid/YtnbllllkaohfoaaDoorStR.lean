/- The text of rounds: the program and the reference. No statement is made here. -/
import Derived.Test.YtnbllllkaohfoaaDoorStB
namespace Go.AG
open Go.Proofs Go.Proofs.YtnbllllkaohfoaaDoor
set_option linter.unusedSimpArgs false
set_option linter.unusedVariables false
set_option maxRecDepth 4000
def allIn (l : List Int) (p : Int) : Prop := ∀ a ∈ l, 0 ≤ a ∧ a < p
noncomputable instance (l : List Int) (p : Int) : Decidable (allIn l p) := Classical.propDecidable _
abbrev k60_o0 : List AJ := [.o ⟨(some 4), none, false, .mv (.c (.bool false)), (some [0, 1])⟩]
abbrev k60_o1 : List AJ := [.o ⟨(some 5), none, false, .mv (.t 0), none⟩, .o ⟨(some 6), none, false, .mv (.t 1), none⟩, .o ⟨(some 7), none, false, .bin .sub (.t 6) (.c (.int .i64 1)), none⟩, .o ⟨(some 8), none, false, .call 72 [(.t 5), (.c (.int .i64 0)), (.t 7)], none⟩, .o ⟨(some 4), none, false, .mv (.t 8), (some [4])⟩]
def k60_2 : ACode := .seq (.region k60_o1) .ret
def k60_3 : ACode := .seq (.region k60_o0) k60_2
@[simp, simp ↓] theorem k60_2r : sR k60_2 k60_o1 .ret := yR rfl
@[simp, simp ↓] theorem k60_3r : sR k60_3 k60_o0 k60_2 := yR rfl
noncomputable abbrev k60_C : Orc → Cx := mkC Tryd.prog [] 60 9 [.tmp 4]
theorem k60_of0 : OfP0 Tryd.prog Tryd.f60 60 9 k60_C k60_3 := @ofP0 _ _ _ _ _ _ _ _ Tryd.func60 (by decide +kernel) rfl (by kernel_rfl) rfl (by kernel_rfl)
theorem isElement_c (a p : Int) (h : Heap) : ACalls Tryd.prog 60 [.int .i64 a, .int .i64 p] h (fun v h' => v = .bool (decide (0 ≤ a) && decide (a ≤ IntKind.i64.wrap (p - 1))) ∧ h' = h) := by
  refine k60_of0 rfl orc1_p fun I => ?_
  refine Run2.of I 1000 ?_
  simp -implicitDefEqProofs
noncomputable def o_isElement : List AV → Option (Prop × AV) := tab (fun (x : Int × Int) => match x with | (a, p) => [.int .i64 a, .int .i64 p]) (fun x => match x with | (a, p) => True) (fun x => match x with | (a, p) => .bool (decide (0 ≤ a) && decide (a ≤ IntKind.i64.wrap (p - 1))))
@[simp] theorem o_isElement_e (a : Int) (p : Int) : o_isElement [.int .i64 a, .int .i64 p] = some (True, .bool (decide (0 ≤ a) && decide (a ≤ IntKind.i64.wrap (p - 1)))) := tab_at (enc := fun (x : Int × Int) => match x with | (a, p) => [.int .i64 a, .int .i64 p]) (fun x y h => by
  obtain ⟨a1, p1⟩ := x; obtain ⟨a2, p2⟩ := y; simp at h; simp [h] <;> omega) _ _ (a, p)
theorem o_isElement_k : Knows Tryd.prog 60 o_isElement := tab_knows fun x hx h => by
  obtain ⟨a, p⟩ := x; exact isElement_c _ _ h
abbrev k59_o0 : List AJ := [.o ⟨(some 3), none, false, .mv (.c (.bool false)), (some [0, 1])⟩]
abbrev k59_o1 : List AJ := [.o ⟨(some 4), none, false, .mv (.t 0), none⟩, .o ⟨(some 5), none, false, .load 1 false (.t 1), none⟩, .o ⟨(some 6), none, false, .call 60 [(.t 4), (.t 5)], none⟩, .o ⟨(some 7), none, false, .un .not (.t 6), none⟩, .o ⟨(some 3), none, false, .mv (.t 7), (some [3])⟩]
def k59_2 : ACode := .seq (.region k59_o1) .ret
def k59_3 : ACode := .seq (.region k59_o0) k59_2
@[simp, simp ↓] theorem k59_2r : sR k59_2 k59_o1 .ret := yR rfl
@[simp, simp ↓] theorem k59_3r : sR k59_3 k59_o0 k59_2 := yR rfl
noncomputable abbrev k59_C : Orc → Cx := mkC Tryd.prog [] 59 8 [.tmp 3]
theorem k59_of0 : OfP0 Tryd.prog Tryd.f59 59 8 k59_C k59_3 := @ofP0 _ _ _ _ _ _ _ _ Tryd.func59 (by decide +kernel) rfl (by kernel_rfl) rfl (by kernel_rfl)
theorem areElements1_c (a p : Int) (h : Heap) (hp : 0 ≤ p ∧ p ≤ 1073741824) : ACalls Tryd.prog 59 [.int .i64 a, .ip [.int .i64 p]] h (fun v h' => v = .bool (!decide (0 ≤ a ∧ a < p)) ∧ h' = h) := by
  have hw : IntKind.i64.wrap (p - 1) = p - 1 := w64 (by omega)
  refine k59_of0 rfl (lk_pure o_isElement_k lk_pure0) fun I => ?_
  refine Run2.of I 1000 ?_
  simp -implicitDefEqProofs [hw]
  grind
abbrev k32_o0 : List AJ := [.o ⟨(some 3), none, false, .box false 1 (.t 1), none⟩, .o ⟨(some 4), none, false, .mv (.c (.bool false)), (some [0, 3])⟩]
abbrev k32_o1 : List AJ := [.o ⟨(some 5), none, false, .mv (.t 0), none⟩, .o ⟨(some 6), none, false, .mkfn 59 [(.t 3)], none⟩, .o ⟨(some 7), none, false, .call 58 [(.t 5), (.t 6)], none⟩, .o ⟨(some 8), none, false, .un .not (.t 7), none⟩, .o ⟨(some 4), none, false, .mv (.t 8), (some [4])⟩]
def k32_2 : ACode := .seq (.region k32_o1) .ret
def k32_3 : ACode := .seq (.region k32_o0) k32_2
@[simp, simp ↓] theorem k32_2r : sR k32_2 k32_o1 .ret := yR rfl
@[simp, simp ↓] theorem k32_3r : sR k32_3 k32_o0 k32_2 := yR rfl
noncomputable abbrev k32_C : Orc → Cx := mkC Tryd.prog [] 32 9 [.tmp 4]
theorem k32_of0 : OfP0 Tryd.prog Tryd.f32 32 9 k32_C k32_3 := @ofP0 _ _ _ _ _ _ _ _ Tryd.func32 (by decide +kernel) rfl (by kernel_rfl) rfl (by kernel_rfl)
theorem areElements_s (l : List Int) (p : Int) (h : Heap) (hl : l.length ≤ 1048576) (hp : 0 ≤ p ∧ p ≤ 1073741824) : ACalls Tryd.prog 32 [.snap 1 (l.map iv), .int .i64 p] h (fun v h' => v = .bool (decide (allIn l p)) ∧ h' = h) := by
  refine k32_of0 rfl noPure fun I => ?_
  refine Run2.of I 1000 ?_
  simp -implicitDefEqProofs
  refine (ContainsFunc_s _ _ _ (fun a => !decide (0 ≤ a ∧ a < p)) h hl fun a _ => areElements1_c a p h hp).mono ?_
  rintro v h' ⟨rfl, rfl⟩
  refine gK.go ?_
  simp -implicitDefEqProofs
  rw [Bool.eq_iff_iff]
  simp [allIn]
  grind
noncomputable def o_areElements : List AV → Option (Prop × AV) := tab (fun (x : List Int × Int) => match x with | (l, p) => [.snap 1 (l.map iv), .int .i64 p]) (fun x => match x with | (l, p) => (l.length ≤ 1048576 ∧ 0 ≤ p ∧ p ≤ 1073741824)) (fun x => match x with | (l, p) => .bool (decide (allIn l p)))
@[simp] theorem o_areElements_e (l : List Int) (p : Int) : o_areElements [.snap 1 (l.map iv), .int .i64 p] = some ((l.length ≤ 1048576 ∧ 0 ≤ p ∧ p ≤ 1073741824), .bool (decide (allIn l p))) := tab_at (enc := fun (x : List Int × Int) => match x with | (l, p) => [.snap 1 (l.map iv), .int .i64 p]) (fun x y h => by
  obtain ⟨l1, p1⟩ := x; obtain ⟨l2, p2⟩ := y; simp at h; simp [h] <;> omega) _ _ (l, p)
theorem o_areElements_k : Knows Tryd.prog 32 o_areElements := tab_knows fun x hx h => by
  obtain ⟨l, p⟩ := x; exact areElements_s l p h hx.1 hx.2
theorem rise_at {r : List Int} (h : riseS r) (h0 : ∀ a ∈ r, 0 ≤ a) : ∀ (j : Nat) (hj : j < r.length), (j : Int) ≤ r[j]
  | 0, hj => h0 _ (List.getElem_mem hj)
  | j + 1, hj => by
    have := rise_at h h0 j (by omega)
    have := h j hj
    omega
theorem rise_len {r : List Int} {p : Nat} (h : riseS r) (h0 : allIn r p) : r.length ≤ p := by
  apply Classical.byContradiction
  intro hn
  have hp : p < r.length := by omega
  have h1 := rise_at h (fun a ha => (h0 a ha).1) p hp
  have h2 := (h0 _ (List.getElem_mem hp)).2
  omega
def rOk (r : List Int) : Prop := r ≠ [] ∧ riseS r ∧ allIn r 24
def rdOk (rs : List (List Int)) : Prop := rs.length ≤ 24 ∧ ∀ r ∈ rs, rOk r
noncomputable instance (r : List Int) : Decidable (rOk r) := Classical.propDecidable _
noncomputable instance (rs : List (List Int)) : Decidable (rdOk rs) := Classical.propDecidable _
noncomputable def rdT (rs : List (List Int)) : List UInt8 := if rdOk rs then Lib.join (rs.map lstT) [47] else []
theorem rOk_len {r : List Int} (h : rOk r) : r.length ≤ 24 := rise_len (p := 24) h.2.1 h.2.2
theorem rOk_val {r : List Int} (h : rOk r) : ∀ n ∈ r, valI n := fun n hn => by have := h.2.2 n hn; unfold valI; omega
theorem rOk_in {r : List Int} (h : rOk r) : ∀ n ∈ r, in64 n := fun n hn => valI_in (rOk_val h n hn)
theorem rOk_lst {r : List Int} (h : rOk r) : (lstT r).length ≤ 600 := by
  have h1 := lstT_len (rOk_in h)
  have h2 := rOk_len h
  omega
theorem btw_all (r : List Int) : btw r 0 23 ∧ riseS r ↔ allIn r 24 ∧ riseS r := by
  unfold btw allIn
  constructor
  · rintro ⟨h1, h2⟩; exact ⟨fun a ha => by have := h1 a ha; omega, h2⟩
  · rintro ⟨h1, h2⟩; exact ⟨fun a ha => by have := h1 a ha; omega, h2⟩
noncomputable def o_ListText : List AV → Option (Prop × AV) := tab (fun (x : List Int) => match x with | l => [.snap 1 (l.map iv)]) (fun x => match x with | l => (l.length ≤ 64 ∧ ∀ n ∈ l, valI n)) (fun x => match x with | l => .str (lstT l))
@[simp] theorem o_ListText_e (l : List Int) : o_ListText [.snap 1 (l.map iv)] = some ((l.length ≤ 64 ∧ ∀ n ∈ l, valI n), .str (lstT l)) := tab_at (enc := fun (x : List Int) => match x with | l => [.snap 1 (l.map iv)]) (fun x y h => by
  simp at h; simp [h] <;> omega) _ _ l
theorem o_ListText_k : Knows Tryd.prog 33 o_ListText := tab_knows fun x hx h => by
  exact ListText_c x h hx.1 hx.2
noncomputable def o_l01List : List AV → Option (Prop × AV) := tab (fun (x : List Int) => match x with | l => [.snap 1 (l.map iv)]) (fun x => match x with | l => (l.length ≤ 1048576 ∧ ∀ n ∈ l, in64 n)) (fun x => match x with | l => .str (lstT l))
@[simp] theorem o_l01List_e (l : List Int) : o_l01List [.snap 1 (l.map iv)] = some ((l.length ≤ 1048576 ∧ ∀ n ∈ l, in64 n), .str (lstT l)) := tab_at (enc := fun (x : List Int) => match x with | l => [.snap 1 (l.map iv)]) (fun x y h => by
  simp at h; simp [h] <;> omega) _ _ l
theorem o_l01List_k : Knows Tryd.prog 57 o_l01List := tab_knows fun x hx h => by
  exact l01List_c x h hx.1 hx.2
noncomputable def orcR1 : List (Nat × (List AV → Option (Prop × AV))) := (31, o_isRising) :: (32, o_areElements) :: (33, o_ListText) :: []
theorem orcR1_p : Pure Tryd.prog (lk orcR1) := (lk_pure o_isRising_k (lk_pure o_areElements_k (lk_pure o_ListText_k lk_pure0)))
@[simp] theorem orcR1_l (b : Bool) (g : FuncId) (l : List AV) : lk orcR1 b g l = if g = 31 then o_isRising l else if g = 32 then o_areElements l else if g = 33 then o_ListText l else none := nr rfl
abbrev k10_o0 : List AJ := [.o ⟨(some 2), none, false, .mv (.c (.str [])), (some [0])⟩]
abbrev k10_o1 : List AJ := [.o ⟨(some 6), none, false, .mv (.t 0), none⟩, .o ⟨(some 7), none, false, .len (.t 6), none⟩, .o ⟨(some 8), none, false, .bin .gtr (.t 7) (.c (.int .i64 24)), (some [0, 8])⟩]
abbrev k10_o2 : List AJ := [.o ⟨(some 2), none, false, .mv (.c (.str [])), (some [2])⟩]
def k10_3 : ACode := .seq (.region k10_o2) .ret
def k10_4 : ACode := .cond (.t 8) k10_3 .skip
def k10_5 : ACode := .seq (.region k10_o1) k10_4
abbrev k10_o3 : List AJ := [.o ⟨(some 3), none, false, .mv (.c .nilsl), (some [0, 3])⟩]
abbrev k10_o4 : List AJ := [.o ⟨(some 9), none, false, .mv (.t 0), none⟩, .o ⟨(some 10), none, false, .len (.t 9), none⟩, .o ⟨(some 11), none, false, .mv (.c (.int .i64 0)), (some [3, 9, 10, 11])⟩]
abbrev k10_o5 : List AJ := [.o ⟨(some 12), none, false, .bin .lss (.t 11) (.t 10), (some [3, 9, 10, 11, 12])⟩]
abbrev k10_o6 : List AJ := [.o ⟨(some 13), none, false, .idxA 1 (.t 9) (.t 11), none⟩, .o ⟨(some 14), none, false, .load 1 false (.t 13), none⟩, .o ⟨(some 5), none, false, .mv (.t 14), (some [3, 5, 9, 10, 11])⟩]
abbrev k10_o7 : List AJ := [.o ⟨(some 15), none, false, .mv (.t 5), none⟩, .o ⟨(some 16), none, false, .len (.t 15), none⟩, .o ⟨(some 17), none, false, .bin .eql (.t 16) (.c (.int .i64 0)), none⟩, .o ⟨(some 18), none, false, .mv (.t 17), none⟩, .o ⟨(some 19), (some (18, false)), false, .mv (.t 5), none⟩, .o ⟨(some 20), (some (18, false)), false, .call 31 [(.t 19)], none⟩, .o ⟨(some 21), (some (18, false)), false, .un .not (.t 20), none⟩, .o ⟨(some 22), none, false, .pick (.t 18) (.c (.bool true)) (.t 21), none⟩, .o ⟨(some 23), none, false, .mv (.t 22), none⟩, .o ⟨(some 24), (some (23, false)), false, .mv (.t 5), (some [3, 5, 9, 10, 11, 23, 24])⟩, .o ⟨(some 25), (some (23, false)), false, .call 32 [(.t 24), (.c (.int .i64 24))], none⟩, .o ⟨(some 26), (some (23, false)), false, .un .not (.t 25), none⟩, .o ⟨(some 27), none, false, .pick (.t 23) (.c (.bool true)) (.t 26), (some [3, 5, 9, 10, 11, 27])⟩]
abbrev k10_o8 : List AJ := [.o ⟨(some 2), none, false, .mv (.c (.str [])), (some [2])⟩]
def k10_13 : ACode := .seq (.region k10_o8) .ret
def k10_14 : ACode := .cond (.t 27) k10_13 .skip
def k10_15 : ACode := .seq (.region k10_o7) k10_14
abbrev k10_o9 : List AJ := [.o ⟨(some 28), none, false, .mv (.t 3), none⟩, .o ⟨(some 29), none, false, .mv (.t 5), none⟩, .o ⟨(some 30), none, false, .call 33 [(.t 29)], none⟩, .o ⟨(some 31), none, false, .bsl false 1 [(.t 30)], none⟩, .o ⟨(some 32), none, false, .append 1 16 (.t 28) (.t 31), none⟩, .o ⟨(some 3), none, false, .mv (.t 32), (some [3, 9, 10, 11])⟩]
def k10_16 : ACode := .region k10_o9
def k10_17 : ACode := .seq k10_15 k10_16
def k10_18 : ACode := .seq (.region k10_o6) k10_17
abbrev k10_o10 : List AJ := [.o ⟨(some 33), none, true, .bin .add (.t 11) (.c (.int .i64 1)), none⟩, .o ⟨(some 11), none, false, .mv (.t 33), (some [3, 9, 10, 11])⟩]
def k10_20 : ACode := .region k10_o10
def k10_21 : ACode := .seq (.block 1 k10_18) k10_20
def k10_22 : ACode := .seq (.cond (.t 12) .skip (.exit 0)) k10_21
def k10_23 : ACode := .seq (.region k10_o5) k10_22
def k10_24 : ACode := .loop k10_23
def k10_25 : ACode := .block 0 k10_24
def k10_26 : ACode := .seq (.region k10_o4) k10_25
abbrev k10_o11 : List AJ := [.o ⟨(some 34), none, false, .mv (.t 3), none⟩, .o ⟨(some 35), none, false, .call 34 [(.t 34), (.c (.str [47]))], none⟩, .o ⟨(some 2), none, false, .mv (.t 35), (some [2])⟩]
def k10_28 : ACode := .seq (.region k10_o11) .ret
def k10_29 : ACode := .seq k10_26 k10_28
def k10_30 : ACode := .seq (.region k10_o3) k10_29
def k10_31 : ACode := .seq k10_5 k10_30
def k10_32 : ACode := .seq (.region k10_o0) k10_31
@[simp, simp ↓] theorem k10_3r : sR k10_3 k10_o2 .ret := yR rfl
@[simp, simp ↓] theorem k10_4r : rC k10_4 (.t 8) k10_3 .skip := zC rfl
@[simp, simp ↓] theorem k10_5r : sR k10_5 k10_o1 k10_4 := yR rfl
@[simp, simp ↓] theorem k10_13r : sR k10_13 k10_o8 .ret := yR rfl
@[simp, simp ↓] theorem k10_14r : rC k10_14 (.t 27) k10_13 .skip := zC rfl
@[simp, simp ↓] theorem k10_15r : sR k10_15 k10_o7 k10_14 := yR rfl
@[simp, simp ↓] theorem k10_16r : rR k10_16 k10_o9 := zR rfl
@[simp, simp ↓] theorem k10_17r : rS k10_17 k10_15 k10_16 := zS rfl
@[simp, simp ↓] theorem k10_18r : sR k10_18 k10_o6 k10_17 := yR rfl
@[simp, simp ↓] theorem k10_20r : rR k10_20 k10_o10 := zR rfl
@[simp, simp ↓] theorem k10_21r : sB k10_21 1 k10_18 k10_20 := yB rfl
@[simp, simp ↓] theorem k10_22r : sC k10_22 (.t 12) .skip (.exit 0) k10_21 := yC rfl
@[simp, simp ↓] theorem k10_23r : sR k10_23 k10_o5 k10_22 := yR rfl
@[simp, simp ↓] theorem k10_24r : rL k10_24 k10_23 := zL rfl
@[simp, simp ↓] theorem k10_25r : rB k10_25 0 k10_24 := zB rfl
@[simp, simp ↓] theorem k10_26r : sR k10_26 k10_o4 k10_25 := yR rfl
@[simp, simp ↓] theorem k10_28r : sR k10_28 k10_o11 .ret := yR rfl
@[simp, simp ↓] theorem k10_29r : rS k10_29 k10_26 k10_28 := zS rfl
@[simp, simp ↓] theorem k10_30r : sR k10_30 k10_o3 k10_29 := yR rfl
@[simp, simp ↓] theorem k10_31r : rS k10_31 k10_5 k10_30 := zS rfl
@[simp, simp ↓] theorem k10_32r : sR k10_32 k10_o0 k10_31 := yR rfl
noncomputable abbrev k10_C : Orc → Cx := mkC Tryd.prog [] 10 36 [.tmp 2]
theorem k10_of : OfP Tryd.prog Tryd.f10 10 36 k10_C k10_32 := @ofP _ _ _ _ _ _ _ _ Tryd.func10 (by decide +kernel) rfl (by kernel_rfl) rfl (by kernel_rfl)
theorem implRT_c (rs : List (List Int)) (h : Heap) (hr : ssTot rs ≤ 1048576) : ACalls Tryd.prog 10 [.snap 1 (rs.map il)] h (fun v h' => v = .str (rdT rs) ∧ h' = h) := by
  have hf := fit_of_tot hr
  have hn := hf.1
  refine k10_of rfl orcR1_p fun I => ?_
  by_cases h24 : rs.length ≤ 24
  · have h24' : ¬ (24 : Int) < rs.length := by omega
    refine Run2.of I 1000 ?_
    simp -implicitDefEqProofs [h24']
    refine Run2.loopE (α := Nat × AV × Heap) (fun p => [(3, p.2.1), (9, .snap 1 (rs.map il)), (10, .int .i64 rs.length), (11, .int .i64 (p.1 : Nat))]) (fun p => p.2.2 ++ h) (fun p => rs.length - p.1) (fun p => p.1 ≤ rs.length ∧ Grow 1 p.2.1 (((rs.take p.1).map lstT).map sv) p.2.2 ∧ ∀ r ∈ rs.take p.1, rOk r) (0, .nilsl, []) (by simp) rfl ⟨Nat.zero_le _, by simpa using Grow.nil, by simp⟩ ?_
    rintro ⟨i, w, hp⟩ ⟨hi, hg, hok⟩ ih
    simp only at hi hg hok
    have hcell := hg.cell
    by_cases hlt : i < rs.length
    · have hrl := hf.2 _ (List.getElem_mem hlt)
      by_cases hro : rOk rs[i]
      · have go := fun w' hp' => ih (i + 1, w', hp')
        simp only [List.take_succ_eq_append_getElem hlt, List.map_append, List.map_cons, List.map_nil] at go
        have hl1 := rOk_len hro
        have hl2 := rOk_val hro
        have hok2 : ∀ r ∈ rs.take i ++ [rs[i]], rOk r := fun r hr => by
          rcases List.mem_append.1 hr with hr | hr
          · exact hok r hr
          · rw [List.mem_singleton] at hr; rw [hr]; exact hro
        obtain ⟨hr1, hr2, hr3⟩ := hro
        have hl64 : rs[i].length ≤ 64 := by omega
        clear ih
        generalize hre : rs[i] = r at *
        refine Run2.of I 1000 ?_
        simp -implicitDefEqProofs [hlt, hre, hr1, hr2, hr3, hrl, hcell, hl64, hl2]
        refine ⟨hl2, ?_⟩
        refine hg.app (by simp; omega) (by simp) fun w2 hp2 hg2 => ?_
        have hcell2 := hg2.cell
        have := go w2 hp2 ⟨hlt, by simpa using hg2, hok2⟩ (by omega)
        simp -implicitDefEqProofs [hcell2]
        exact ⟨by omega, by simpa using this⟩
      · have hT : rdT rs = [] := by unfold rdT; rw [if_neg fun h => hro (h.2 _ (List.getElem_mem hlt))]
        rw [hT]
        clear ih
        unfold rOk at hro
        by_cases hr1 : rs[i] = []
        · have hr0 : rs[i].length = 0 := by rw [hr1]; rfl
          generalize hre : rs[i] = r at *
          refine Run2.of I 1000 ?_
          simp -implicitDefEqProofs [hlt, hre, hr0, hr1, hcell]
          exact Post.dropAll rfl (.base ⟨rfl, rfl⟩)
        · by_cases hr2 : riseS rs[i]
          · have hr3 : ¬ allIn rs[i] 24 := fun h => hro ⟨hr1, hr2, h⟩
            generalize hre : rs[i] = r at *
            refine Run2.of I 1000 ?_
            simp -implicitDefEqProofs [hlt, hre, hr1, hr2, hr3, hrl, hcell]
            exact Post.dropAll rfl (.base ⟨rfl, rfl⟩)
          · generalize hre : rs[i] = r at *
            refine Run2.of I 1000 ?_
            simp -implicitDefEqProofs [hlt, hre, hr1, hr2, hrl, hcell]
            exact Post.dropAll rfl (.base ⟨rfl, rfl⟩)
    · obtain rfl : i = rs.length := by omega
      rw [List.take_length] at hg hok
      have hT : rdT rs = Lib.join (rs.map lstT) [47] := by unfold rdT; rw [if_pos ⟨h24, hok⟩]
      have hlen := join_lenL (rs.map lstT) [47] 600 (fun x hx => by
        obtain ⟨r, hr, rfl⟩ := List.mem_map.1 hx
        exact rOk_lst (hok r hr))
      simp at hlen
      clear ih
      rw [hT]
      refine Run2.of I 1000 ?_
      simp -implicitDefEqProofs [hlt, hcell]
      refine (join_g hg [47] h (by simp; omega) (by omega)).mono ?_
      rintro v2 h2 ⟨e1, e2⟩
      rw [e1, e2]
      refine gK.go ?_
      simp -implicitDefEqProofs
      exact Post.dropAll rfl (.base ⟨rfl, rfl⟩)
  · have h24' : (24 : Int) < rs.length := by omega
    have hT : rdT rs = [] := by unfold rdT; rw [if_neg fun h => h24 h.1]
    rw [hT]
    refine Run2.of I 1000 ?_
    simp -implicitDefEqProofs [h24']
    exact .base ⟨rfl, rfl⟩
noncomputable def orcR2 : List (Nat × (List AV → Option (Prop × AV))) := (56, o_l00Rises) :: []
theorem orcR2_p : Pure Tryd.prog (lk orcR2) := (lk_pure o_l00Rises_k lk_pure0)
@[simp] theorem orcR2_l (b : Bool) (g : FuncId) (l : List AV) : lk orcR2 b g l = if g = 56 then o_l00Rises l else none := nr rfl
abbrev k28_o0 : List AJ := [.o ⟨(some 2), none, false, .mv (.c (.bool false)), (some [0])⟩]
abbrev k28_o1 : List AJ := [.o ⟨(some 3), none, false, .mv (.c (.int .i64 0)), (some [0, 3])⟩]
abbrev k28_o2 : List AJ := [.o ⟨(some 4), none, false, .mv (.t 3), none⟩, .o ⟨(some 5), none, false, .mv (.t 0), none⟩, .o ⟨(some 6), none, false, .len (.t 5), none⟩, .o ⟨(some 7), none, false, .bin .lss (.t 4) (.t 6), (some [0, 3, 7])⟩]
def k28_3 : ACode := .cond (.t 7) .skip (.exit 0)
def k28_4 : ACode := .seq (.region k28_o2) k28_3
abbrev k28_o3 : List AJ := [.o ⟨(some 10), none, false, .mv (.t 0), none⟩, .o ⟨(some 11), none, false, .mv (.t 3), none⟩, .o ⟨(some 12), none, false, .idxA 1 (.t 10) (.t 11), none⟩, .o ⟨(some 13), none, false, .load 1 false (.t 12), none⟩, .o ⟨(some 14), none, false, .len (.t 13), none⟩, .o ⟨(some 15), none, false, .bin .eql (.t 14) (.c (.int .i64 0)), none⟩, .o ⟨(some 16), none, false, .mv (.t 15), none⟩, .o ⟨(some 17), (some (16, false)), false, .mv (.t 0), none⟩, .o ⟨(some 18), (some (16, false)), false, .mv (.t 3), none⟩, .o ⟨(some 19), (some (16, false)), false, .idxA 1 (.t 17) (.t 18), none⟩, .o ⟨(some 20), (some (16, false)), false, .load 1 false (.t 19), (some [0, 3, 16, 20])⟩, .o ⟨(some 21), (some (16, false)), false, .call 56 [(.t 20), (.c (.int .i64 0)), (.c (.int .i64 23))], none⟩, .o ⟨(some 22), (some (16, false)), false, .un .not (.t 21), none⟩, .o ⟨(some 23), none, false, .pick (.t 16) (.c (.bool true)) (.t 22), (some [0, 3, 23])⟩]
abbrev k28_o4 : List AJ := [.o ⟨(some 2), none, false, .mv (.c (.bool false)), (some [2])⟩]
def k28_7 : ACode := .seq (.region k28_o4) .ret
def k28_8 : ACode := .cond (.t 23) k28_7 .skip
def k28_9 : ACode := .seq (.region k28_o3) k28_8
abbrev k28_o5 : List AJ := [.o ⟨(some 8), none, false, .mv (.t 3), none⟩, .o ⟨(some 9), none, true, .bin .add (.t 8) (.c (.int .i64 1)), none⟩, .o ⟨(some 3), none, false, .mv (.t 9), (some [0, 3])⟩]
def k28_11 : ACode := .region k28_o5
def k28_12 : ACode := .seq (.block 1 k28_9) k28_11
def k28_13 : ACode := .seq k28_4 k28_12
def k28_14 : ACode := .loop k28_13
def k28_15 : ACode := .block 0 k28_14
def k28_16 : ACode := .seq (.region k28_o1) k28_15
abbrev k28_o6 : List AJ := [.o ⟨(some 24), none, false, .mv (.t 0), none⟩, .o ⟨(some 25), none, false, .len (.t 24), none⟩, .o ⟨(some 26), none, false, .bin .leq (.t 25) (.c (.int .i64 24)), none⟩, .o ⟨(some 2), none, false, .mv (.t 26), (some [2])⟩]
def k28_18 : ACode := .seq (.region k28_o6) .ret
def k28_19 : ACode := .seq k28_16 k28_18
def k28_20 : ACode := .seq (.region k28_o0) k28_19
@[simp, simp ↓] theorem k28_3r : rC k28_3 (.t 7) .skip (.exit 0) := zC rfl
@[simp, simp ↓] theorem k28_4r : sR k28_4 k28_o2 k28_3 := yR rfl
@[simp, simp ↓] theorem k28_7r : sR k28_7 k28_o4 .ret := yR rfl
@[simp, simp ↓] theorem k28_8r : rC k28_8 (.t 23) k28_7 .skip := zC rfl
@[simp, simp ↓] theorem k28_9r : sR k28_9 k28_o3 k28_8 := yR rfl
@[simp, simp ↓] theorem k28_11r : rR k28_11 k28_o5 := zR rfl
@[simp, simp ↓] theorem k28_12r : sB k28_12 1 k28_9 k28_11 := yB rfl
@[simp, simp ↓] theorem k28_13r : rS k28_13 k28_4 k28_12 := zS rfl
@[simp, simp ↓] theorem k28_14r : rL k28_14 k28_13 := zL rfl
@[simp, simp ↓] theorem k28_15r : rB k28_15 0 k28_14 := zB rfl
@[simp, simp ↓] theorem k28_16r : sR k28_16 k28_o1 k28_15 := yR rfl
@[simp, simp ↓] theorem k28_18r : sR k28_18 k28_o6 .ret := yR rfl
@[simp, simp ↓] theorem k28_19r : rS k28_19 k28_16 k28_18 := zS rfl
@[simp, simp ↓] theorem k28_20r : sR k28_20 k28_o0 k28_19 := yR rfl
noncomputable abbrev k28_C : Orc → Cx := mkC Tryd.prog [] 28 27 [.tmp 2]
theorem k28_of0 : OfP0 Tryd.prog Tryd.f28 28 27 k28_C k28_20 := @ofP0 _ _ _ _ _ _ _ _ Tryd.func28 (by decide +kernel) rfl (by kernel_rfl) rfl (by kernel_rfl)
theorem l24Form_c (rs : List (List Int)) (h : Heap) (hr : ssTot rs ≤ 1048576) : ACalls Tryd.prog 28 [.snap 1 (rs.map il)] h (fun v h' => v = .bool (decide (rdOk rs)) ∧ h' = h) := by
  have hf := fit_of_tot hr
  have hn := hf.1
  refine k28_of0 rfl orcR2_p fun I => ?_
  refine Run2.of I 1000 ?_
  simp -implicitDefEqProofs
  refine Run2.loopE (fun (i : Nat) => [(0, .snap 1 (rs.map il)), (3, .int .i64 i)]) (fun _ => h) (fun i => rs.length - i) (fun i => i ≤ rs.length ∧ ∀ r ∈ rs.take i, rOk r) 0 (by simp) rfl ⟨Nat.zero_le _, by simp⟩ fun i hi ih => ?_
  obtain ⟨hi, hok⟩ := hi
  by_cases hlt : i < rs.length
  · have hrl := hf.2 _ (List.getElem_mem hlt)
    by_cases hro : rOk rs[i]
    · have go := ih (i + 1) ⟨hlt, fun r hr => by
        rw [List.take_succ_eq_append_getElem hlt] at hr
        rcases List.mem_append.1 hr with hr | hr
        · exact hok r hr
        · rw [List.mem_singleton] at hr; rw [hr]; exact hro⟩ (by omega)
      clear ih
      obtain ⟨hr1, hr2, hr3⟩ := hro
      have hb := (btw_all rs[i]).2 ⟨hr3, hr2⟩
      generalize hre : rs[i] = r at *
      refine Run2.of I 1000 ?_
      simp -implicitDefEqProofs [hlt, hre, hr1, hb.1, hb.2, hrl]
      exact ⟨by omega, by simpa using go⟩
    · have hT : ¬ rdOk rs := fun h => hro (h.2 _ (List.getElem_mem hlt))
      clear ih
      unfold rOk at hro
      by_cases hr1 : rs[i] = []
      · have hr0 : rs[i].length = 0 := by rw [hr1]; rfl
        generalize hre : rs[i] = r at *
        refine Run2.of I 1000 ?_
        simp -implicitDefEqProofs [hlt, hre, hr0, hr1, hT]
      · have hb : ¬ (btw rs[i] 0 23 ∧ riseS rs[i]) := fun h => by
          have := (btw_all rs[i]).1 h
          exact hro ⟨hr1, this.2, this.1⟩
        generalize hre : rs[i] = r at *
        refine Run2.of I 1000 ?_
        simp -implicitDefEqProofs [hlt, hre, hr1, hb, hrl, hT]
  · obtain rfl : i = rs.length := by omega
    rw [List.take_length] at hok
    have hT : rdOk rs ↔ rs.length ≤ 24 := ⟨fun h => h.1, fun h => ⟨h, hok⟩⟩
    clear ih
    refine Run2.of I 1000 ?_
    simp -implicitDefEqProofs [hlt, hT]
    try omega
noncomputable def orcR3 : List (Nat × (List AV → Option (Prop × AV))) := (57, o_l01List) :: []
theorem orcR3_p : Pure Tryd.prog (lk orcR3) := (lk_pure o_l01List_k lk_pure0)
@[simp] theorem orcR3_l (b : Bool) (g : FuncId) (l : List AV) : lk orcR3 b g l = if g = 57 then o_l01List l else none := nr rfl
abbrev k29_o0 : List AJ := [.o ⟨(some 2), none, false, .mv (.c (.str [])), (some [0])⟩]
abbrev k29_o1 : List AJ := [.o ⟨(some 3), none, false, .mv (.c (.str [])), (some [0, 3])⟩]
abbrev k29_o2 : List AJ := [.o ⟨(some 4), none, false, .mv (.c (.int .i64 0)), (some [0, 3, 4])⟩]
abbrev k29_o3 : List AJ := [.o ⟨(some 5), none, false, .mv (.t 4), none⟩, .o ⟨(some 6), none, false, .mv (.t 0), none⟩, .o ⟨(some 7), none, false, .len (.t 6), none⟩, .o ⟨(some 8), none, false, .bin .lss (.t 5) (.t 7), (some [0, 3, 4, 8])⟩]
def k29_4 : ACode := .cond (.t 8) .skip (.exit 0)
def k29_5 : ACode := .seq (.region k29_o3) k29_4
abbrev k29_o4 : List AJ := [.o ⟨(some 11), none, false, .mv (.t 4), none⟩, .o ⟨(some 12), none, false, .bin .gtr (.t 11) (.c (.int .i64 0)), (some [0, 3, 4, 12])⟩]
abbrev k29_o5 : List AJ := [.o ⟨(some 13), none, false, .mv (.t 3), none⟩, .o ⟨(some 14), none, true, .bin .add (.t 13) (.c (.str [47])), none⟩, .o ⟨(some 3), none, false, .mv (.t 14), (some [0, 3, 4])⟩]
def k29_7 : ACode := .region k29_o5
def k29_8 : ACode := .cond (.t 12) k29_7 .skip
def k29_9 : ACode := .seq (.region k29_o4) k29_8
abbrev k29_o6 : List AJ := [.o ⟨(some 15), none, false, .mv (.t 3), none⟩, .o ⟨(some 16), none, false, .mv (.t 0), none⟩, .o ⟨(some 17), none, false, .mv (.t 4), none⟩, .o ⟨(some 18), none, false, .idxA 1 (.t 16) (.t 17), none⟩, .o ⟨(some 19), none, false, .load 1 false (.t 18), none⟩, .o ⟨(some 20), none, false, .call 57 [(.t 19)], none⟩, .o ⟨(some 21), none, true, .bin .add (.t 15) (.t 20), none⟩, .o ⟨(some 3), none, false, .mv (.t 21), (some [0, 3, 4])⟩]
def k29_10 : ACode := .region k29_o6
def k29_11 : ACode := .seq k29_9 k29_10
abbrev k29_o7 : List AJ := [.o ⟨(some 9), none, false, .mv (.t 4), none⟩, .o ⟨(some 10), none, true, .bin .add (.t 9) (.c (.int .i64 1)), none⟩, .o ⟨(some 4), none, false, .mv (.t 10), (some [0, 3, 4])⟩]
def k29_13 : ACode := .region k29_o7
def k29_14 : ACode := .seq (.block 1 k29_11) k29_13
def k29_15 : ACode := .seq k29_5 k29_14
def k29_16 : ACode := .loop k29_15
def k29_17 : ACode := .block 0 k29_16
def k29_18 : ACode := .seq (.region k29_o2) k29_17
abbrev k29_o8 : List AJ := [.o ⟨(some 22), none, false, .mv (.t 3), none⟩, .o ⟨(some 2), none, false, .mv (.t 22), (some [2])⟩]
def k29_20 : ACode := .seq (.region k29_o8) .ret
def k29_21 : ACode := .seq k29_18 k29_20
def k29_22 : ACode := .seq (.region k29_o1) k29_21
def k29_23 : ACode := .seq (.region k29_o0) k29_22
@[simp, simp ↓] theorem k29_4r : rC k29_4 (.t 8) .skip (.exit 0) := zC rfl
@[simp, simp ↓] theorem k29_5r : sR k29_5 k29_o3 k29_4 := yR rfl
@[simp, simp ↓] theorem k29_7r : rR k29_7 k29_o5 := zR rfl
@[simp, simp ↓] theorem k29_8r : rC k29_8 (.t 12) k29_7 .skip := zC rfl
@[simp, simp ↓] theorem k29_9r : sR k29_9 k29_o4 k29_8 := yR rfl
@[simp, simp ↓] theorem k29_10r : rR k29_10 k29_o6 := zR rfl
@[simp, simp ↓] theorem k29_11r : rS k29_11 k29_9 k29_10 := zS rfl
@[simp, simp ↓] theorem k29_13r : rR k29_13 k29_o7 := zR rfl
@[simp, simp ↓] theorem k29_14r : sB k29_14 1 k29_11 k29_13 := yB rfl
@[simp, simp ↓] theorem k29_15r : rS k29_15 k29_5 k29_14 := zS rfl
@[simp, simp ↓] theorem k29_16r : rL k29_16 k29_15 := zL rfl
@[simp, simp ↓] theorem k29_17r : rB k29_17 0 k29_16 := zB rfl
@[simp, simp ↓] theorem k29_18r : sR k29_18 k29_o2 k29_17 := yR rfl
@[simp, simp ↓] theorem k29_20r : sR k29_20 k29_o8 .ret := yR rfl
@[simp, simp ↓] theorem k29_21r : rS k29_21 k29_18 k29_20 := zS rfl
@[simp, simp ↓] theorem k29_22r : sR k29_22 k29_o1 k29_21 := yR rfl
@[simp, simp ↓] theorem k29_23r : sR k29_23 k29_o0 k29_22 := yR rfl
noncomputable abbrev k29_C : Orc → Cx := mkC Tryd.prog [] 29 23 [.tmp 2]
theorem k29_of0 : OfP0 Tryd.prog Tryd.f29 29 23 k29_C k29_23 := @ofP0 _ _ _ _ _ _ _ _ Tryd.func29 (by decide +kernel) rfl (by kernel_rfl) rfl (by kernel_rfl)
theorem l24Text_c (rs : List (List Int)) (h : Heap) (hr : rdOk rs) : ACalls Tryd.prog 29 [.snap 1 (rs.map il)] h (fun v h' => v = .str (Lib.join (rs.map lstT) [47]) ∧ h' = h) := by
  have hn := hr.1
  refine k29_of0 rfl orcR3_p fun I => ?_
  refine Run2.of I 1000 ?_
  simp -implicitDefEqProofs
  refine Run2.loopE (fun (i : Nat) => [(0, .snap 1 (rs.map il)), (3, .str (Lib.join ((rs.take i).map lstT) [47])), (4, .int .i64 i)]) (fun _ => h) (fun i => rs.length - i) (fun i => i ≤ rs.length) 0 (by simp [join_none']) rfl (Nat.zero_le _) fun i hi ih => ?_
  by_cases hlt : i < rs.length
  · have go := ih (i + 1) hlt (by omega)
    rw [join_take _ _ hlt] at go
    have hro := hr.2 _ (List.getElem_mem hlt)
    have hl1 : rs[i].length ≤ 1048576 := by have := rOk_len hro; omega
    have hl2 := rOk_in hro
    have hil := rOk_lst hro
    have hlen := join_takeL lstT [47] rs i 600 fun r hr' => rOk_lst (hr.2 r hr')
    clear ih
    by_cases hi0 : i = 0
    · subst hi0
      rw [if_pos rfl] at go
      generalize hre : rs[0] = r at *
      refine Run2.of I 1000 ?_
      simp -implicitDefEqProofs [hlt, hre, hl1, hl2, join_none']
      exact ⟨hl2, by omega, by simpa using go⟩
    · rw [if_neg hi0] at go
      generalize Lib.join ((rs.take i).map lstT) [47] = S at *
      have hip : 0 < i := by omega
      simp at hlen
      generalize hre : rs[i] = r at *
      refine Run2.of I 1000 ?_
      simp -implicitDefEqProofs [hlt, hre, hl1, hl2, hip]
      repeat (first | refine ⟨by omega, ?_⟩ | refine ⟨hl2, ?_⟩)
      simpa using go
  · obtain rfl : i = rs.length := by omega
    rw [List.take_length]
    refine Run2.of I 1000 ?_
    simp -implicitDefEqProofs [hlt]
noncomputable def o_l24Form : List AV → Option (Prop × AV) := tab (fun (x : LS) => match x with | rs => [.snap 1 (rs.map il)]) (fun x => match x with | rs => ssTot rs ≤ 1048576) (fun x => match x with | rs => .bool (decide (rdOk rs)))
@[simp] theorem o_l24Form_e (rs : LS) : o_l24Form [.snap 1 (rs.map il)] = some (ssTot rs ≤ 1048576, .bool (decide (rdOk rs))) := tab_at (enc := fun (x : LS) => match x with | rs => [.snap 1 (rs.map il)]) (fun x y h => by
  simp at h; simp [h] <;> omega) _ _ rs
theorem o_l24Form_k : Knows Tryd.prog 28 o_l24Form := tab_knows fun x hx h => by
  exact l24Form_c x h hx
noncomputable def o_l24Text : List AV → Option (Prop × AV) := tab (fun (x : LS) => match x with | rs => [.snap 1 (rs.map il)]) (fun x => match x with | rs => rdOk rs) (fun x => match x with | rs => .str (Lib.join (rs.map lstT) [47]))
@[simp] theorem o_l24Text_e (rs : LS) : o_l24Text [.snap 1 (rs.map il)] = some (rdOk rs, .str (Lib.join (rs.map lstT) [47])) := tab_at (enc := fun (x : LS) => match x with | rs => [.snap 1 (rs.map il)]) (fun x y h => by
  simp at h; simp [h] <;> omega) _ _ rs
theorem o_l24Text_k : Knows Tryd.prog 29 o_l24Text := tab_knows fun x hx h => by
  exact l24Text_c x h hx
noncomputable def orcR4 : List (Nat × (List AV → Option (Prop × AV))) := (28, o_l24Form) :: (29, o_l24Text) :: []
theorem orcR4_p : Pure Tryd.prog (lk orcR4) := (lk_pure o_l24Form_k (lk_pure o_l24Text_k lk_pure0))
@[simp] theorem orcR4_l (b : Bool) (g : FuncId) (l : List AV) : lk orcR4 b g l = if g = 28 then o_l24Form l else if g = 29 then o_l24Text l else none := nr rfl
abbrev k8_o0 : List AJ := [.o ⟨(some 2), none, false, .mv (.c (.str [])), (some [0])⟩]
abbrev k8_o1 : List AJ := [.o ⟨(some 3), none, false, .mv (.t 0), none⟩, .o ⟨(some 4), none, false, .call 28 [(.t 3)], none⟩, .o ⟨(some 5), none, false, .un .not (.t 4), (some [0, 5])⟩]
abbrev k8_o2 : List AJ := [.o ⟨(some 2), none, false, .mv (.c (.str [])), (some [2])⟩]
def k8_3 : ACode := .seq (.region k8_o2) .ret
def k8_4 : ACode := .cond (.t 5) k8_3 .skip
def k8_5 : ACode := .seq (.region k8_o1) k8_4
abbrev k8_o3 : List AJ := [.o ⟨(some 6), none, false, .mv (.t 0), none⟩, .o ⟨(some 7), none, false, .call 29 [(.t 6)], none⟩, .o ⟨(some 2), none, false, .mv (.t 7), (some [2])⟩]
def k8_7 : ACode := .seq (.region k8_o3) .ret
def k8_8 : ACode := .seq k8_5 k8_7
def k8_9 : ACode := .seq (.region k8_o0) k8_8
@[simp, simp ↓] theorem k8_3r : sR k8_3 k8_o2 .ret := yR rfl
@[simp, simp ↓] theorem k8_4r : rC k8_4 (.t 5) k8_3 .skip := zC rfl
@[simp, simp ↓] theorem k8_5r : sR k8_5 k8_o1 k8_4 := yR rfl
@[simp, simp ↓] theorem k8_7r : sR k8_7 k8_o3 .ret := yR rfl
@[simp, simp ↓] theorem k8_8r : rS k8_8 k8_5 k8_7 := zS rfl
@[simp, simp ↓] theorem k8_9r : sR k8_9 k8_o0 k8_8 := yR rfl
noncomputable abbrev k8_C : Orc → Cx := mkC Tryd.prog [] 8 8 [.tmp 2]
theorem k8_of0 : OfP0 Tryd.prog Tryd.f8 8 8 k8_C k8_9 := @ofP0 _ _ _ _ _ _ _ _ Tryd.func8 (by decide +kernel) rfl (by kernel_rfl) rfl (by kernel_rfl)
theorem specRT_c (rs : List (List Int)) (h : Heap) (hr : ssTot rs ≤ 1048576) : ACalls Tryd.prog 8 [.snap 1 (rs.map il)] h (fun v h' => v = .str (rdT rs) ∧ h' = h) := by
  refine k8_of0 rfl orcR4_p fun I => ?_
  unfold rdT
  by_cases hok : rdOk rs
  · rw [if_pos hok]
    refine Run2.of I 1000 ?_
    simp -implicitDefEqProofs [hr, hok]
  · rw [if_neg hok]
    refine Run2.of I 1000 ?_
    simp -implicitDefEqProofs [hr, hok]
end Go.AG
