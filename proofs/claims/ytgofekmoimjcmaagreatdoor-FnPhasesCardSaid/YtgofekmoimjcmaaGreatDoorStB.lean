/- Texts of lists of numbers: the program and the reference. No statement is made here. -/
import Derived.Test.YtgofekmoimjcmaaGreatDoorStF
import Derived.Test.YtgofekmoimjcmaaGreatDoorAGLists2
import Derived.Test.YtgofekmoimjcmaaGreatDoorIntS
import Derived.Test.YtgofekmoimjcmaaGreatDoorFxB0
namespace Go.AG
open Go.Proofs Go.Proofs.YtgofekmoimjcmaaGreatDoor
set_option linter.unusedSimpArgs false
set_option linter.unusedVariables false
set_option maxRecDepth 4000
abbrev k30_o0 : List AJ := [.o ⟨(some 2), none, false, .mv (.c (.str [])), (some [0])⟩]
abbrev k30_o1 : List AJ := [.o ⟨(some 3), none, false, .mv (.t 0), none⟩, .o ⟨(some 4), none, false, .call 57 [(.t 3), (.c (.int .i64 10))], none⟩, .o ⟨(some 2), none, false, .mv (.t 4), (some [2])⟩]
def k30_2 : ACode := .seq (.region k30_o1) .ret
def k30_3 : ACode := .seq (.region k30_o0) k30_2
@[simp, simp ↓] theorem k30_2r : sR k30_2 k30_o1 .ret := yR rfl
@[simp, simp ↓] theorem k30_3r : sR k30_3 k30_o0 k30_2 := yR rfl
noncomputable abbrev k30_C : Orc → Cx := mkC Tryz.prog [] 30 5 [.tmp 2]
theorem k30_of0 : OfP0 Tryz.prog Tryz.f30 30 5 k30_C k30_3 := @ofP0 _ _ _ _ _ _ _ _ Tryz.func30 (by decide +kernel) rfl (by kernel_rfl) rfl (by kernel_rfl)
theorem Decimal_c (n : Int) (h : Heap) (hn : in64 n) : ACalls Tryz.prog 30 [.int .i64 n] h (fun v h' => v = .str (Lib.itoa n) ∧ h' = h) := by
  refine k30_of0 rfl noPure fun I => ?_
  refine Run2.of I 1000 ?_
  simp -implicitDefEqProofs
  refine (fmt10_c n h (by have := hn; unfold in64 at this; omega) (by have := hn; unfold in64 at this; omega)).mono ?_
  rintro v h' ⟨rfl, rfl⟩
  refine gK.go ?_
  simp -implicitDefEqProofs
noncomputable def o_Decimal : List AV → Option (Prop × AV) := tab (fun (x : Int) => match x with | n => [.int .i64 n]) (fun x => match x with | n => in64 n) (fun x => match x with | n => .str (Lib.itoa n))
@[simp] theorem o_Decimal_e (n : Int) : o_Decimal [.int .i64 n] = some (in64 n, .str (Lib.itoa n)) := tab_at (enc := fun (x : Int) => match x with | n => [.int .i64 n]) (fun x y h => by
  simp at h; simp [h] <;> omega) _ _ n
theorem o_Decimal_k : Knows Tryz.prog 30 o_Decimal := tab_knows fun x hx h => by
  exact Decimal_c x h hx
end Go.AG
namespace Go.AG
open Go.Proofs Go.Proofs.YtgofekmoimjcmaaGreatDoor
set_option linter.unusedSimpArgs false
set_option linter.unusedVariables false
set_option maxRecDepth 4000
theorem join_cc (a b : List UInt8) (r : List (List UInt8)) (s : List UInt8) : Lib.join (a :: b :: r) s = a ++ (s ++ Lib.join (b :: r) s) := by simp [Lib.join, List.intercalate, List.intersperse]
theorem join_one' (a : List UInt8) (s : List UInt8) : Lib.join [a] s = a := by simp [Lib.join, List.intercalate, List.intersperse]
theorem join_none' (s : List UInt8) : Lib.join [] s = [] := rfl
theorem join_snoc : ∀ (xs : List (List UInt8)) (y s : List UInt8), xs ≠ [] → Lib.join (xs ++ [y]) s = Lib.join xs s ++ (s ++ y)
  | [], _, _, h => absurd rfl h
  | [a], y, s, _ => by rw [List.singleton_append, join_cc, join_one', join_one']
  | a :: b :: r, y, s, _ => by
    have := join_snoc (b :: r) y s (by simp)
    rw [List.cons_append, List.cons_append, join_cc, join_cc, ← List.cons_append, this]
    simp
theorem join_lenL : ∀ (xs : List (List UInt8)) (s : List UInt8) (k : Nat), (∀ x ∈ xs, x.length ≤ k) → (Lib.join xs s).length ≤ xs.length * (k + s.length)
  | [], _, _, _ => by simp [join_none']
  | [a], s, k, h => by
    rw [join_one']
    have := h a (by simp)
    simp
    omega
  | a :: b :: r, s, k, h => by
    have h1 := h a (by simp)
    have h2 := join_lenL (b :: r) s k fun x hx => h x (List.mem_cons_of_mem _ hx)
    rw [join_cc]
    simp only [List.length_append, List.length_cons] at h2 ⊢
    rw [Nat.succ_mul (r.length + 1)]
    omega
/-- A list as text. -/
def lstT (l : List Int) : List UInt8 := if l = [] then [45] else Lib.join (l.map Lib.itoa) [44]
theorem itoas_len {l : List Int} (h : ∀ n ∈ l, in64 n) : ∀ x ∈ l.map Lib.itoa, x.length ≤ 21 := fun x hx => by
  obtain ⟨n, hn, rfl⟩ := List.mem_map.1 hx
  exact itoa_len (h n hn).1 (h n hn).2
theorem lstT_len {l : List Int} (h : ∀ n ∈ l, in64 n) : (lstT l).length ≤ 22 * l.length + 1 := by
  unfold lstT
  split
  · simp
  · have := join_lenL _ [44] 21 (itoas_len h)
    simp at this
    omega
theorem join_take {α : Type} (f : α → List UInt8) (s : List UInt8) {l : List α} {i : Nat} (hi : i < l.length) : Lib.join ((l.take (i + 1)).map f) s = if i = 0 then f l[i] else Lib.join ((l.take i).map f) s ++ (s ++ f l[i]) := by
  rw [List.take_succ_eq_append_getElem hi, List.map_append]
  split
  · rename_i h; subst h; rw [List.take_zero]; exact join_one' _ _
  · rename_i h
    exact join_snoc _ _ _ (by
      rw [ne_eq, List.map_eq_nil_iff, List.take_eq_nil_iff]
      rintro (h1 | h1)
      · exact h h1
      · subst h1; simp at hi)
theorem join_takeL {α : Type} (f : α → List UInt8) (s : List UInt8) (l : List α) (i : Nat) (k : Nat) (h : ∀ n ∈ l, (f n).length ≤ k) : (Lib.join ((l.take i).map f) s).length ≤ i * (k + s.length) := by
  have h1 := join_lenL ((l.take i).map f) s k fun x hx => by
    obtain ⟨n, hn, rfl⟩ := List.mem_map.1 hx
    exact h n (List.mem_of_mem_take hn)
  have h2 : ((l.take i).map f).length ≤ i := by rw [List.length_map, List.length_take]; omega
  exact Nat.le_trans h1 (Nat.mul_le_mul_right _ h2)
theorem Grow.lentWkS {sz : Nat} {w : AV} {l : List AV} {hp : Heap} (G : Grow sz w l hp) : Wk (lend1 hp w) (.snap sz l) := by
  cases G with
  | nil => exact Wk.nil sz
  | emp => exact Wk.emp sz
  | sl id l n hn =>
    subst hn
    have : lend1 [(id, (⟨sz, l⟩ : Blk))] (.sl id sz 0 l.length none) = .snap sz l := by simp [lend1, fz]
    rw [this]
    exact Wk.refl _
theorem join_g {w : AV} {xs : List (List UInt8)} {hp : Heap} (G : Grow 1 w (xs.map sv) hp) (sep : List UInt8) (h : Heap) (hl : xs.length ≤ 1099511627776) (hj : (Lib.join xs sep).length ≤ 140737488355328) : ACalls Tryz.prog 32 [w, .str sep] (hp ++ h) (fun v h' => v = .str (Lib.join xs sep) ∧ h' = hp ++ h) := by
  refine ACalls.reads hp (fun p hp' => List.mem_append_left _ hp') ?_ rfl
  rw [lend_cons, lend_cons, lend_nil', lend1_cold hp (x := .str sep) rfl]
  exact ACalls.wk (.cons G.lentWkS (.cons (.refl _) .nil)) (join_c xs sep [] hl hj)
theorem Run2.wkS {C : Cx} {sk : List AItem} {e e' : Env} {h : Heap} {R : AV → Heap → Prop} (he : ∀ t, Wk (eget e t) (eget e' t)) (g : Run2 C sk e' h R) : Run2 C sk e h R := by
  unfold Run2 at g ⊢
  intro k tmps w cs w0 D0 hk S
  exact g k tmps w cs w0 D0 hk ⟨fun t => he t _ _ _ (S.env t), S.size, S.heap, S.ev⟩
theorem Wk.capNone (id sz off len : Nat) (c : Option Nat) : Wk (.sl id sz off len c) (.sl id sz off len none) := fun w D v ⟨A, k, e, h1, h2, h3⟩ => ⟨A, k, e, h1, h2, fun k hk => by cases hk⟩
def valI (n : Int) : Prop := -1000000000000 ≤ n ∧ n ≤ 1000000000000
theorem valI_in {n : Int} (h : valI n) : in64 n := by unfold valI at h; unfold in64; omega
noncomputable def orcSb0 : List (Nat × (List AV → Option (Prop × AV))) := (45, o_within) :: []
theorem orcSb0_p : Pure Tryz.prog (lk orcSb0) := (lk_pure o_within_k lk_pure0)
@[simp] theorem orcSb0_l (b : Bool) (g : FuncId) (l : List AV) : lk orcSb0 b g l = if g = 45 then o_within l else none := nr rfl
abbrev k60_o0 : List AJ := [.o ⟨(some 2), none, false, .mv (.c (.bool false)), (some [0])⟩]
abbrev k60_o1 : List AJ := [.o ⟨(some 3), none, false, .mv (.t 0), none⟩, .o ⟨(some 4), none, false, .call 45 [(.t 3), (.c (.int .i64 (-1000000000000))), (.c (.int .i64 1000000000000))], none⟩, .o ⟨(some 2), none, false, .mv (.t 4), (some [2])⟩]
def k60_2 : ACode := .seq (.region k60_o1) .ret
def k60_3 : ACode := .seq (.region k60_o0) k60_2
@[simp, simp ↓] theorem k60_2r : sR k60_2 k60_o1 .ret := yR rfl
@[simp, simp ↓] theorem k60_3r : sR k60_3 k60_o0 k60_2 := yR rfl
noncomputable abbrev k60_C : Orc → Cx := mkC Tryz.prog [] 60 5 [.tmp 2]
theorem k60_of0 : OfP0 Tryz.prog Tryz.f60 60 5 k60_C k60_3 := @ofP0 _ _ _ _ _ _ _ _ Tryz.func60 (by decide +kernel) rfl (by kernel_rfl) rfl (by kernel_rfl)
theorem isValue_c (n : Int) (h : Heap) : ACalls Tryz.prog 60 [.int .i64 n] h (fun v h' => v = .bool (decide (-1000000000000 ≤ n) && decide (n ≤ 1000000000000)) ∧ h' = h) := by
  refine k60_of0 rfl orcSb0_p fun I => ?_
  refine Run2.of I 1000 ?_
  simp -implicitDefEqProofs
noncomputable def o_isValue : List AV → Option (Prop × AV) := tab (fun (x : Int) => match x with | n => [.int .i64 n]) (fun x => match x with | n => True) (fun x => match x with | n => .bool (decide (-1000000000000 ≤ n) && decide (n ≤ 1000000000000)))
@[simp] theorem o_isValue_e (n : Int) : o_isValue [.int .i64 n] = some (True, .bool (decide (-1000000000000 ≤ n) && decide (n ≤ 1000000000000))) := tab_at (enc := fun (x : Int) => match x with | n => [.int .i64 n]) (fun x y h => by
  simp at h; simp [h] <;> omega) _ _ n
theorem o_isValue_k : Knows Tryz.prog 60 o_isValue := tab_knows fun x hx h => by
  exact isValue_c _ h
noncomputable def orcSb2 : List (Nat × (List AV → Option (Prop × AV))) := (60, o_isValue) :: []
theorem orcSb2_p : Pure Tryz.prog (lk orcSb2) := (lk_pure o_isValue_k lk_pure0)
@[simp] theorem orcSb2_l (b : Bool) (g : FuncId) (l : List AV) : lk orcSb2 b g l = if g = 60 then o_isValue l else none := nr rfl
abbrev k59_o0 : List AJ := [.o ⟨(some 2), none, false, .mv (.c (.bool false)), (some [0])⟩]
abbrev k59_o1 : List AJ := [.o ⟨(some 3), none, false, .mv (.t 0), none⟩, .o ⟨(some 4), none, false, .call 60 [(.t 3)], none⟩, .o ⟨(some 5), none, false, .un .not (.t 4), none⟩, .o ⟨(some 2), none, false, .mv (.t 5), (some [2])⟩]
def k59_2 : ACode := .seq (.region k59_o1) .ret
def k59_3 : ACode := .seq (.region k59_o0) k59_2
@[simp, simp ↓] theorem k59_2r : sR k59_2 k59_o1 .ret := yR rfl
@[simp, simp ↓] theorem k59_3r : sR k59_3 k59_o0 k59_2 := yR rfl
noncomputable abbrev k59_C : Orc → Cx := mkC Tryz.prog [] 59 6 [.tmp 2]
theorem k59_of0 : OfP0 Tryz.prog Tryz.f59 59 6 k59_C k59_3 := @ofP0 _ _ _ _ _ _ _ _ Tryz.func59 (by decide +kernel) rfl (by kernel_rfl) rfl (by kernel_rfl)
theorem ListText1_c (n : Int) (h : Heap) : ACalls Tryz.prog 59 [.int .i64 n] h (fun v h' => v = .bool (!(decide (-1000000000000 ≤ n) && decide (n ≤ 1000000000000))) ∧ h' = h) := by
  refine k59_of0 rfl orcSb2_p fun I => ?_
  refine Run2.of I 1000 ?_
  simp -implicitDefEqProofs
noncomputable def orcSb3 : List (Nat × (List AV → Option (Prop × AV))) := (30, o_Decimal) :: []
theorem orcSb3_p : Pure Tryz.prog (lk orcSb3) := (lk_pure o_Decimal_k lk_pure0)
@[simp] theorem orcSb3_l (b : Bool) (g : FuncId) (l : List AV) : lk orcSb3 b g l = if g = 30 then o_Decimal l else none := nr rfl
abbrev k31_o0 : List AJ := [.o ⟨(some 2), none, false, .mv (.c (.str [])), (some [0])⟩]
abbrev k31_o1 : List AJ := [.o ⟨(some 6), none, false, .mv (.t 0), none⟩, .o ⟨(some 7), none, false, .len (.t 6), none⟩, .o ⟨(some 8), none, false, .bin .gtr (.t 7) (.c (.int .i64 64)), none⟩, .o ⟨(some 9), none, false, .mv (.t 8), none⟩, .o ⟨(some 10), (some (9, false)), false, .mv (.t 0), none⟩, .o ⟨(some 11), (some (9, false)), false, .call 58 [(.t 10), (.c (.fn 59 []))], none⟩, .o ⟨(some 12), none, false, .pick (.t 9) (.c (.bool true)) (.t 11), (some [0, 12])⟩]
abbrev k31_o2 : List AJ := [.o ⟨(some 2), none, false, .mv (.c (.str [])), (some [2])⟩]
def k31_3 : ACode := .seq (.region k31_o2) .ret
def k31_4 : ACode := .cond (.t 12) k31_3 .skip
def k31_5 : ACode := .seq (.region k31_o1) k31_4
abbrev k31_o3 : List AJ := [.o ⟨(some 13), none, false, .mv (.t 0), none⟩, .o ⟨(some 14), none, false, .len (.t 13), none⟩, .o ⟨(some 15), none, false, .bin .eql (.t 14) (.c (.int .i64 0)), (some [0, 15])⟩]
abbrev k31_o4 : List AJ := [.o ⟨(some 2), none, false, .mv (.c (.str [45])), (some [2])⟩]
def k31_8 : ACode := .seq (.region k31_o4) .ret
def k31_9 : ACode := .cond (.t 15) k31_8 .skip
def k31_10 : ACode := .seq (.region k31_o3) k31_9
abbrev k31_o5 : List AJ := [.o ⟨(some 3), none, false, .mv (.c .nilsl), (some [0, 3])⟩]
abbrev k31_o6 : List AJ := [.o ⟨(some 16), none, false, .mv (.t 0), none⟩, .o ⟨(some 17), none, false, .len (.t 16), none⟩, .o ⟨(some 18), none, false, .mv (.c (.int .i64 0)), (some [3, 16, 17, 18])⟩]
abbrev k31_o7 : List AJ := [.o ⟨(some 19), none, false, .bin .lss (.t 18) (.t 17), (some [3, 16, 17, 18, 19])⟩]
abbrev k31_o8 : List AJ := [.o ⟨(some 20), none, false, .idxA 1 (.t 16) (.t 18), none⟩, .o ⟨(some 21), none, false, .load 1 false (.t 20), none⟩, .o ⟨(some 5), none, false, .mv (.t 21), (some [3, 5, 16, 17, 18])⟩]
abbrev k31_o9 : List AJ := [.o ⟨(some 22), none, false, .mv (.t 3), none⟩, .o ⟨(some 23), none, false, .mv (.t 5), none⟩, .o ⟨(some 24), none, false, .call 30 [(.t 23)], none⟩, .o ⟨(some 25), none, false, .bsl false 1 [(.t 24)], none⟩, .o ⟨(some 26), none, false, .append 1 16 (.t 22) (.t 25), none⟩, .o ⟨(some 3), none, false, .mv (.t 26), (some [3, 16, 17, 18])⟩]
def k31_16 : ACode := .region k31_o9
def k31_17 : ACode := .seq (.region k31_o8) k31_16
abbrev k31_o10 : List AJ := [.o ⟨(some 27), none, true, .bin .add (.t 18) (.c (.int .i64 1)), none⟩, .o ⟨(some 18), none, false, .mv (.t 27), (some [3, 16, 17, 18])⟩]
def k31_19 : ACode := .region k31_o10
def k31_20 : ACode := .seq (.block 1 k31_17) k31_19
def k31_21 : ACode := .seq (.cond (.t 19) .skip (.exit 0)) k31_20
def k31_22 : ACode := .seq (.region k31_o7) k31_21
def k31_23 : ACode := .loop k31_22
def k31_24 : ACode := .block 0 k31_23
def k31_25 : ACode := .seq (.region k31_o6) k31_24
abbrev k31_o11 : List AJ := [.o ⟨(some 28), none, false, .mv (.t 3), none⟩, .o ⟨(some 29), none, false, .call 32 [(.t 28), (.c (.str [44]))], none⟩, .o ⟨(some 2), none, false, .mv (.t 29), (some [2])⟩]
def k31_27 : ACode := .seq (.region k31_o11) .ret
def k31_28 : ACode := .seq k31_25 k31_27
def k31_29 : ACode := .seq (.region k31_o5) k31_28
def k31_30 : ACode := .seq k31_10 k31_29
def k31_31 : ACode := .seq k31_5 k31_30
def k31_32 : ACode := .seq (.region k31_o0) k31_31
@[simp, simp ↓] theorem k31_3r : sR k31_3 k31_o2 .ret := yR rfl
@[simp, simp ↓] theorem k31_4r : rC k31_4 (.t 12) k31_3 .skip := zC rfl
@[simp, simp ↓] theorem k31_5r : sR k31_5 k31_o1 k31_4 := yR rfl
@[simp, simp ↓] theorem k31_8r : sR k31_8 k31_o4 .ret := yR rfl
@[simp, simp ↓] theorem k31_9r : rC k31_9 (.t 15) k31_8 .skip := zC rfl
@[simp, simp ↓] theorem k31_10r : sR k31_10 k31_o3 k31_9 := yR rfl
@[simp, simp ↓] theorem k31_16r : rR k31_16 k31_o9 := zR rfl
@[simp, simp ↓] theorem k31_17r : sR k31_17 k31_o8 k31_16 := yR rfl
@[simp, simp ↓] theorem k31_19r : rR k31_19 k31_o10 := zR rfl
@[simp, simp ↓] theorem k31_20r : sB k31_20 1 k31_17 k31_19 := yB rfl
@[simp, simp ↓] theorem k31_21r : sC k31_21 (.t 19) .skip (.exit 0) k31_20 := yC rfl
@[simp, simp ↓] theorem k31_22r : sR k31_22 k31_o7 k31_21 := yR rfl
@[simp, simp ↓] theorem k31_23r : rL k31_23 k31_22 := zL rfl
@[simp, simp ↓] theorem k31_24r : rB k31_24 0 k31_23 := zB rfl
@[simp, simp ↓] theorem k31_25r : sR k31_25 k31_o6 k31_24 := yR rfl
@[simp, simp ↓] theorem k31_27r : sR k31_27 k31_o11 .ret := yR rfl
@[simp, simp ↓] theorem k31_28r : rS k31_28 k31_25 k31_27 := zS rfl
@[simp, simp ↓] theorem k31_29r : sR k31_29 k31_o5 k31_28 := yR rfl
@[simp, simp ↓] theorem k31_30r : rS k31_30 k31_10 k31_29 := zS rfl
@[simp, simp ↓] theorem k31_31r : rS k31_31 k31_5 k31_30 := zS rfl
@[simp, simp ↓] theorem k31_32r : sR k31_32 k31_o0 k31_31 := yR rfl
noncomputable abbrev k31_C : Orc → Cx := mkC Tryz.prog [] 31 30 [.tmp 2]
theorem k31_of : OfP Tryz.prog Tryz.f31 31 30 k31_C k31_32 := @ofP _ _ _ _ _ _ _ _ Tryz.func31 (by decide +kernel) rfl (by kernel_rfl) rfl (by kernel_rfl)
theorem ListText_c (l : List Int) (h : Heap) (hl : l.length ≤ 64) (hv : ∀ n ∈ l, valI n) : ACalls Tryz.prog 31 [.snap 1 (l.map iv)] h (fun v h' => v = .str (lstT l) ∧ h' = h) := by
  refine k31_of rfl orcSb3_p fun I => ?_
  have hcf := fun H => ContainsFunc_s l 59 [] (fun n => !(decide (-1000000000000 ≤ n) && decide (n ≤ 1000000000000))) H (by omega) fun a _ => ListText1_c a H
  have hno : (l.any fun n => !(decide (-1000000000000 ≤ n) && decide (n ≤ 1000000000000))) = false := by
    rw [List.any_eq_false]
    intro n hn
    have := hv n hn
    unfold valI at this
    simp [this]
  unfold lstT
  have hl64 : ¬ (64 : Int) < l.length := by omega
  refine Run2.of I 1000 ?_
  simp -implicitDefEqProofs [hl64]
  refine (hcf _).mono ?_
  rw [hno]
  rintro v h' ⟨e1, e2⟩
  rw [e1, e2]
  clear hcf hno e1 e2
  refine gK.go ?_
  by_cases h0 : l = []
  · subst h0
    simp -implicitDefEqProofs [hl64]
    exact .base ⟨rfl, rfl⟩
  · rw [if_neg h0]
    simp -implicitDefEqProofs [hl64, h0]
    refine Run2.loopE (α := Nat × AV × Heap) (fun p => [(3, p.2.1), (16, .snap 1 (l.map iv)), (17, .int .i64 l.length), (18, .int .i64 (p.1 : Nat))]) (fun p => p.2.2 ++ h) (fun p => l.length - p.1) (fun p => p.1 ≤ l.length ∧ Grow 1 p.2.1 (((l.take p.1).map Lib.itoa).map sv) p.2.2) (0, .nilsl, []) (by simp) rfl ⟨Nat.zero_le _, by simpa using Grow.nil⟩ ?_
    rintro ⟨i, w, hp⟩ ⟨hi, hg⟩ ih
    simp only at hi hg
    have hcell := hg.cell
    by_cases hlt : i < l.length
    · have go := fun w' hp' => ih (i + 1, w', hp')
      simp only [List.take_succ_eq_append_getElem hlt, List.map_append, List.map_cons, List.map_nil] at go
      obtain ⟨hn1, hn2⟩ := valI_in (hv _ (List.getElem_mem hlt))
      clear ih
      refine Run2.of I 1000 ?_
      simp -implicitDefEqProofs [hlt, hcell, hn1, hn2]
      refine hg.app (by simp; omega) (by simp) fun w2 hp2 hg2 => ?_
      have hcell2 := hg2.cell
      have := go w2 hp2 ⟨hlt, by simpa using hg2⟩ (by omega)
      simp -implicitDefEqProofs [hcell2]
      exact ⟨by omega, by simpa using this⟩
    · obtain rfl : i = l.length := by omega
      rw [List.take_length] at hg
      clear ih
      refine Run2.of I 1000 ?_
      simp -implicitDefEqProofs [hlt, hcell]
      have hlen := join_lenL (l.map Lib.itoa) [44] 21 (itoas_len fun n hn => valI_in (hv n hn))
      simp at hlen
      refine (join_g hg [44] h (by simp; omega) (by omega)).mono ?_
      rintro v2 h2 ⟨e1, e2⟩
      rw [e1, e2]
      refine gK.go ?_
      simp -implicitDefEqProofs
      exact Post.dropAll rfl (.base ⟨rfl, rfl⟩)
noncomputable def o_ListText : List AV → Option (Prop × AV) := tab (fun (x : List Int) => match x with | l => [.snap 1 (l.map iv)]) (fun x => match x with | l => (l.length ≤ 64 ∧ ∀ n ∈ l, valI n)) (fun x => match x with | l => .str (lstT l))
@[simp] theorem o_ListText_e (l : List Int) : o_ListText [.snap 1 (l.map iv)] = some ((l.length ≤ 64 ∧ ∀ n ∈ l, valI n), .str (lstT l)) := tab_at (enc := fun (x : List Int) => match x with | l => [.snap 1 (l.map iv)]) (fun x y h => by
  simp at h; simp [h] <;> omega) _ _ l
theorem o_ListText_k : Knows Tryz.prog 31 o_ListText := tab_knows fun x hx h => by
  exact ListText_c x h hx.1 hx.2
@[simp] theorem o_ListText_3 (a b c : Int) : o_ListText [.snap 1 [.int .i64 a, .int .i64 b, .int .i64 c]] = some ([a, b, c].length ≤ 64 ∧ ∀ n ∈ [a, b, c], valI n, .str (lstT [a, b, c])) := by simpa using o_ListText_e [a, b, c]
end Go.AG
