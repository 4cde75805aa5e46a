/- Texts of lists of numbers: the program and the reference. No statement is made here. -/
import Derived.Test.YtiahlbbljmngnaaDoorStA
import Derived.Test.YtiahlbbljmngnaaDoorFxB0
namespace Go.AG
open Go.Proofs Go.Proofs.YtiahlbbljmngnaaDoor
set_option linter.unusedSimpArgs false
set_option linter.unusedVariables false
set_option maxRecDepth 4000
theorem join_cc (a b : List UInt8) (r : List (List UInt8)) (s : List UInt8) : Lib.join (a :: b :: r) s = a ++ (s ++ Lib.join (b :: r) s) := by simp [Lib.join, List.intercalate, List.intersperse]
theorem join_one' (a : List UInt8) (s : List UInt8) : Lib.join [a] s = a := by simp [Lib.join, List.intercalate, List.intersperse]
theorem join_none' (s : List UInt8) : Lib.join [] s = [] := rfl
theorem join_snoc : ∀ (xs : List (List UInt8)) (y s : List UInt8), xs ≠ [] → Lib.join (xs ++ [y]) s = Lib.join xs s ++ (s ++ y)
  | [], _, _, h => absurd rfl h
  | [a], y, s, _ => by rw [List.singleton_append, join_cc, join_one', join_one']
  | a :: b :: r, y, s, _ => by
    have := join_snoc (b :: r) y s (by simp)
    rw [List.cons_append, List.cons_append, join_cc, join_cc, ← List.cons_append, this]
    simp
theorem join_lenL : ∀ (xs : List (List UInt8)) (s : List UInt8) (k : Nat), (∀ x ∈ xs, x.length ≤ k) → (Lib.join xs s).length ≤ xs.length * (k + s.length)
  | [], _, _, _ => by simp [join_none']
  | [a], s, k, h => by
    rw [join_one']
    have := h a (by simp)
    simp
    omega
  | a :: b :: r, s, k, h => by
    have h1 := h a (by simp)
    have h2 := join_lenL (b :: r) s k fun x hx => h x (List.mem_cons_of_mem _ hx)
    rw [join_cc]
    simp only [List.length_append, List.length_cons] at h2 ⊢
    rw [Nat.succ_mul (r.length + 1)]
    omega
/-- A list as text. -/
def lstT (l : List Int) : List UInt8 := if l = [] then [45] else Lib.join (l.map Lib.itoa) [44]
theorem itoas_len {l : List Int} (h : ∀ n ∈ l, in64 n) : ∀ x ∈ l.map Lib.itoa, x.length ≤ 21 := fun x hx => by
  obtain ⟨n, hn, rfl⟩ := List.mem_map.1 hx
  exact itoa_len (h n hn).1 (h n hn).2
theorem lstT_len {l : List Int} (h : ∀ n ∈ l, in64 n) : (lstT l).length ≤ 22 * l.length + 1 := by
  unfold lstT
  split
  · simp
  · have := join_lenL _ [44] 21 (itoas_len h)
    simp at this
    omega
theorem join_take {α : Type} (f : α → List UInt8) (s : List UInt8) {l : List α} {i : Nat} (hi : i < l.length) : Lib.join ((l.take (i + 1)).map f) s = if i = 0 then f l[i] else Lib.join ((l.take i).map f) s ++ (s ++ f l[i]) := by
  rw [List.take_succ_eq_append_getElem hi, List.map_append]
  split
  · rename_i h; subst h; rw [List.take_zero]; exact join_one' _ _
  · rename_i h
    exact join_snoc _ _ _ (by
      rw [ne_eq, List.map_eq_nil_iff, List.take_eq_nil_iff]
      rintro (h1 | h1)
      · exact h h1
      · subst h1; simp at hi)
theorem join_takeL {α : Type} (f : α → List UInt8) (s : List UInt8) (l : List α) (i : Nat) (k : Nat) (h : ∀ n ∈ l, (f n).length ≤ k) : (Lib.join ((l.take i).map f) s).length ≤ i * (k + s.length) := by
  have h1 := join_lenL ((l.take i).map f) s k fun x hx => by
    obtain ⟨n, hn, rfl⟩ := List.mem_map.1 hx
    exact h n (List.mem_of_mem_take hn)
  have h2 : ((l.take i).map f).length ≤ i := by rw [List.length_map, List.length_take]; omega
  exact Nat.le_trans h1 (Nat.mul_le_mul_right _ h2)
theorem Grow.lentWkS {sz : Nat} {w : AV} {l : List AV} {hp : Heap} (G : Grow sz w l hp) : Wk (lend1 hp w) (.snap sz l) := by
  cases G with
  | nil => exact Wk.nil sz
  | emp => exact Wk.emp sz
  | sl id l n hn =>
    subst hn
    have : lend1 [(id, (⟨sz, l⟩ : Blk))] (.sl id sz 0 l.length none) = .snap sz l := by simp [lend1, fz]
    rw [this]
    exact Wk.refl _
theorem join_g {w : AV} {xs : List (List UInt8)} {hp : Heap} (G : Grow 1 w (xs.map sv) hp) (sep : List UInt8) (h : Heap) (hl : xs.length ≤ 1099511627776) (hj : (Lib.join xs sep).length ≤ 140737488355328) : ACalls Tryd.prog 47 [w, .str sep] (hp ++ h) (fun v h' => v = .str (Lib.join xs sep) ∧ h' = hp ++ h) := by
  refine ACalls.reads hp (fun p hp' => List.mem_append_left _ hp') ?_ rfl
  rw [lend_cons, lend_cons, lend_nil', lend1_cold hp (x := .str sep) rfl]
  exact ACalls.wk (.cons G.lentWkS (.cons (.refl _) .nil)) (join_c xs sep [] hl hj)
theorem Run2.wkS {C : Cx} {sk : List AItem} {e e' : Env} {h : Heap} {R : AV → Heap → Prop} (he : ∀ t, Wk (eget e t) (eget e' t)) (g : Run2 C sk e' h R) : Run2 C sk e h R := by
  unfold Run2 at g ⊢
  intro k tmps w cs w0 D0 hk S
  exact g k tmps w cs w0 D0 hk ⟨fun t => he t _ _ _ (S.env t), S.size, S.heap, S.ev⟩
theorem Wk.capNone (id sz off len : Nat) (c : Option Nat) : Wk (.sl id sz off len c) (.sl id sz off len none) := fun w D v ⟨A, k, e, h1, h2, h3⟩ => ⟨A, k, e, h1, h2, fun k hk => by cases hk⟩
def valI (n : Int) : Prop := -1000000000000 ≤ n ∧ n ≤ 1000000000000
theorem valI_in {n : Int} (h : valI n) : in64 n := by unfold valI at h; unfold in64; omega
noncomputable def orcSb0 : List (Nat × (List AV → Option (Prop × AV))) := (44, o_within) :: []
theorem orcSb0_p : Pure Tryd.prog (lk orcSb0) := (lk_pure o_within_k lk_pure0)
@[simp] theorem orcSb0_l (b : Bool) (g : FuncId) (l : List AV) : lk orcSb0 b g l = if g = 44 then o_within l else none := nr rfl
abbrev k68_o0 : List AJ := [.o ⟨(some 2), none, false, .mv (.c (.bool false)), (some [0])⟩]
abbrev k68_o1 : List AJ := [.o ⟨(some 3), none, false, .mv (.t 0), none⟩, .o ⟨(some 4), none, false, .call 44 [(.t 3), (.c (.int .i64 (-1000000000000))), (.c (.int .i64 1000000000000))], none⟩, .o ⟨(some 2), none, false, .mv (.t 4), (some [2])⟩]
def k68_2 : ACode := .seq (.region k68_o1) .ret
def k68_3 : ACode := .seq (.region k68_o0) k68_2
@[simp, simp ↓] theorem k68_2r : sR k68_2 k68_o1 .ret := yR rfl
@[simp, simp ↓] theorem k68_3r : sR k68_3 k68_o0 k68_2 := yR rfl
noncomputable abbrev k68_C : Orc → Cx := mkC Tryd.prog [] 68 5 [.tmp 2]
theorem k68_of0 : OfP0 Tryd.prog Tryd.f68 68 5 k68_C k68_3 := @ofP0 _ _ _ _ _ _ _ _ Tryd.func68 (by decide +kernel) rfl (by kernel_rfl) rfl (by kernel_rfl)
theorem isValue_c (n : Int) (h : Heap) : ACalls Tryd.prog 68 [.int .i64 n] h (fun v h' => v = .bool (decide (-1000000000000 ≤ n) && decide (n ≤ 1000000000000)) ∧ h' = h) := by
  refine k68_of0 rfl orcSb0_p fun I => ?_
  refine Run2.of I 1000 ?_
  simp -implicitDefEqProofs
noncomputable def o_isValue : List AV → Option (Prop × AV) := tab (fun (x : Int) => match x with | n => [.int .i64 n]) (fun x => match x with | n => True) (fun x => match x with | n => .bool (decide (-1000000000000 ≤ n) && decide (n ≤ 1000000000000)))
@[simp] theorem o_isValue_e (n : Int) : o_isValue [.int .i64 n] = some (True, .bool (decide (-1000000000000 ≤ n) && decide (n ≤ 1000000000000))) := tab_at (enc := fun (x : Int) => match x with | n => [.int .i64 n]) (fun x y h => by
  simp at h; simp [h] <;> omega) _ _ n
theorem o_isValue_k : Knows Tryd.prog 68 o_isValue := tab_knows fun x hx h => by
  exact isValue_c _ h
noncomputable def orcSb2 : List (Nat × (List AV → Option (Prop × AV))) := (68, o_isValue) :: []
theorem orcSb2_p : Pure Tryd.prog (lk orcSb2) := (lk_pure o_isValue_k lk_pure0)
@[simp] theorem orcSb2_l (b : Bool) (g : FuncId) (l : List AV) : lk orcSb2 b g l = if g = 68 then o_isValue l else none := nr rfl
abbrev k67_o0 : List AJ := [.o ⟨(some 2), none, false, .mv (.c (.bool false)), (some [0])⟩]
abbrev k67_o1 : List AJ := [.o ⟨(some 3), none, false, .mv (.t 0), none⟩, .o ⟨(some 4), none, false, .call 68 [(.t 3)], none⟩, .o ⟨(some 5), none, false, .un .not (.t 4), none⟩, .o ⟨(some 2), none, false, .mv (.t 5), (some [2])⟩]
def k67_2 : ACode := .seq (.region k67_o1) .ret
def k67_3 : ACode := .seq (.region k67_o0) k67_2
@[simp, simp ↓] theorem k67_2r : sR k67_2 k67_o1 .ret := yR rfl
@[simp, simp ↓] theorem k67_3r : sR k67_3 k67_o0 k67_2 := yR rfl
noncomputable abbrev k67_C : Orc → Cx := mkC Tryd.prog [] 67 6 [.tmp 2]
theorem k67_of0 : OfP0 Tryd.prog Tryd.f67 67 6 k67_C k67_3 := @ofP0 _ _ _ _ _ _ _ _ Tryd.func67 (by decide +kernel) rfl (by kernel_rfl) rfl (by kernel_rfl)
theorem ListText1_c (n : Int) (h : Heap) : ACalls Tryd.prog 67 [.int .i64 n] h (fun v h' => v = .bool (!(decide (-1000000000000 ≤ n) && decide (n ≤ 1000000000000))) ∧ h' = h) := by
  refine k67_of0 rfl orcSb2_p fun I => ?_
  refine Run2.of I 1000 ?_
  simp -implicitDefEqProofs
noncomputable def orcSb3 : List (Nat × (List AV → Option (Prop × AV))) := (41, o_Decimal) :: []
theorem orcSb3_p : Pure Tryd.prog (lk orcSb3) := (lk_pure o_Decimal_k lk_pure0)
@[simp] theorem orcSb3_l (b : Bool) (g : FuncId) (l : List AV) : lk orcSb3 b g l = if g = 41 then o_Decimal l else none := nr rfl
abbrev k49_o0 : List AJ := [.o ⟨(some 2), none, false, .mv (.c (.str [])), (some [0])⟩]
abbrev k49_o1 : List AJ := [.o ⟨(some 6), none, false, .mv (.t 0), none⟩, .o ⟨(some 7), none, false, .len (.t 6), none⟩, .o ⟨(some 8), none, false, .bin .gtr (.t 7) (.c (.int .i64 64)), none⟩, .o ⟨(some 9), none, false, .mv (.t 8), none⟩, .o ⟨(some 10), (some (9, false)), false, .mv (.t 0), none⟩, .o ⟨(some 11), (some (9, false)), false, .call 66 [(.t 10), (.c (.fn 67 []))], none⟩, .o ⟨(some 12), none, false, .pick (.t 9) (.c (.bool true)) (.t 11), (some [0, 12])⟩]
abbrev k49_o2 : List AJ := [.o ⟨(some 2), none, false, .mv (.c (.str [])), (some [2])⟩]
def k49_3 : ACode := .seq (.region k49_o2) .ret
def k49_4 : ACode := .cond (.t 12) k49_3 .skip
def k49_5 : ACode := .seq (.region k49_o1) k49_4
abbrev k49_o3 : List AJ := [.o ⟨(some 13), none, false, .mv (.t 0), none⟩, .o ⟨(some 14), none, false, .len (.t 13), none⟩, .o ⟨(some 15), none, false, .bin .eql (.t 14) (.c (.int .i64 0)), (some [0, 15])⟩]
abbrev k49_o4 : List AJ := [.o ⟨(some 2), none, false, .mv (.c (.str [45])), (some [2])⟩]
def k49_8 : ACode := .seq (.region k49_o4) .ret
def k49_9 : ACode := .cond (.t 15) k49_8 .skip
def k49_10 : ACode := .seq (.region k49_o3) k49_9
abbrev k49_o5 : List AJ := [.o ⟨(some 3), none, false, .mv (.c .nilsl), (some [0, 3])⟩]
abbrev k49_o6 : List AJ := [.o ⟨(some 16), none, false, .mv (.t 0), none⟩, .o ⟨(some 17), none, false, .len (.t 16), none⟩, .o ⟨(some 18), none, false, .mv (.c (.int .i64 0)), (some [3, 16, 17, 18])⟩]
abbrev k49_o7 : List AJ := [.o ⟨(some 19), none, false, .bin .lss (.t 18) (.t 17), (some [3, 16, 17, 18, 19])⟩]
abbrev k49_o8 : List AJ := [.o ⟨(some 20), none, false, .idxA 1 (.t 16) (.t 18), none⟩, .o ⟨(some 21), none, false, .load 1 false (.t 20), none⟩, .o ⟨(some 5), none, false, .mv (.t 21), (some [3, 5, 16, 17, 18])⟩]
abbrev k49_o9 : List AJ := [.o ⟨(some 22), none, false, .mv (.t 3), none⟩, .o ⟨(some 23), none, false, .mv (.t 5), none⟩, .o ⟨(some 24), none, false, .call 41 [(.t 23)], none⟩, .o ⟨(some 25), none, false, .bsl false 1 [(.t 24)], none⟩, .o ⟨(some 26), none, false, .append 1 16 (.t 22) (.t 25), none⟩, .o ⟨(some 3), none, false, .mv (.t 26), (some [3, 16, 17, 18])⟩]
def k49_16 : ACode := .region k49_o9
def k49_17 : ACode := .seq (.region k49_o8) k49_16
abbrev k49_o10 : List AJ := [.o ⟨(some 27), none, true, .bin .add (.t 18) (.c (.int .i64 1)), none⟩, .o ⟨(some 18), none, false, .mv (.t 27), (some [3, 16, 17, 18])⟩]
def k49_19 : ACode := .region k49_o10
def k49_20 : ACode := .seq (.block 1 k49_17) k49_19
def k49_21 : ACode := .seq (.cond (.t 19) .skip (.exit 0)) k49_20
def k49_22 : ACode := .seq (.region k49_o7) k49_21
def k49_23 : ACode := .loop k49_22
def k49_24 : ACode := .block 0 k49_23
def k49_25 : ACode := .seq (.region k49_o6) k49_24
abbrev k49_o11 : List AJ := [.o ⟨(some 28), none, false, .mv (.t 3), none⟩, .o ⟨(some 29), none, false, .call 47 [(.t 28), (.c (.str [44]))], none⟩, .o ⟨(some 2), none, false, .mv (.t 29), (some [2])⟩]
def k49_27 : ACode := .seq (.region k49_o11) .ret
def k49_28 : ACode := .seq k49_25 k49_27
def k49_29 : ACode := .seq (.region k49_o5) k49_28
def k49_30 : ACode := .seq k49_10 k49_29
def k49_31 : ACode := .seq k49_5 k49_30
def k49_32 : ACode := .seq (.region k49_o0) k49_31
@[simp, simp ↓] theorem k49_3r : sR k49_3 k49_o2 .ret := yR rfl
@[simp, simp ↓] theorem k49_4r : rC k49_4 (.t 12) k49_3 .skip := zC rfl
@[simp, simp ↓] theorem k49_5r : sR k49_5 k49_o1 k49_4 := yR rfl
@[simp, simp ↓] theorem k49_8r : sR k49_8 k49_o4 .ret := yR rfl
@[simp, simp ↓] theorem k49_9r : rC k49_9 (.t 15) k49_8 .skip := zC rfl
@[simp, simp ↓] theorem k49_10r : sR k49_10 k49_o3 k49_9 := yR rfl
@[simp, simp ↓] theorem k49_16r : rR k49_16 k49_o9 := zR rfl
@[simp, simp ↓] theorem k49_17r : sR k49_17 k49_o8 k49_16 := yR rfl
@[simp, simp ↓] theorem k49_19r : rR k49_19 k49_o10 := zR rfl
@[simp, simp ↓] theorem k49_20r : sB k49_20 1 k49_17 k49_19 := yB rfl
@[simp, simp ↓] theorem k49_21r : sC k49_21 (.t 19) .skip (.exit 0) k49_20 := yC rfl
@[simp, simp ↓] theorem k49_22r : sR k49_22 k49_o7 k49_21 := yR rfl
@[simp, simp ↓] theorem k49_23r : rL k49_23 k49_22 := zL rfl
@[simp, simp ↓] theorem k49_24r : rB k49_24 0 k49_23 := zB rfl
@[simp, simp ↓] theorem k49_25r : sR k49_25 k49_o6 k49_24 := yR rfl
@[simp, simp ↓] theorem k49_27r : sR k49_27 k49_o11 .ret := yR rfl
@[simp, simp ↓] theorem k49_28r : rS k49_28 k49_25 k49_27 := zS rfl
@[simp, simp ↓] theorem k49_29r : sR k49_29 k49_o5 k49_28 := yR rfl
@[simp, simp ↓] theorem k49_30r : rS k49_30 k49_10 k49_29 := zS rfl
@[simp, simp ↓] theorem k49_31r : rS k49_31 k49_5 k49_30 := zS rfl
@[simp, simp ↓] theorem k49_32r : sR k49_32 k49_o0 k49_31 := yR rfl
noncomputable abbrev k49_C : Orc → Cx := mkC Tryd.prog [] 49 30 [.tmp 2]
theorem k49_of : OfP Tryd.prog Tryd.f49 49 30 k49_C k49_32 := @ofP _ _ _ _ _ _ _ _ Tryd.func49 (by decide +kernel) rfl (by kernel_rfl) rfl (by kernel_rfl)
theorem ListText_c (l : List Int) (h : Heap) (hl : l.length ≤ 64) (hv : ∀ n ∈ l, valI n) : ACalls Tryd.prog 49 [.snap 1 (l.map iv)] h (fun v h' => v = .str (lstT l) ∧ h' = h) := by
  refine k49_of rfl orcSb3_p fun I => ?_
  have hcf := fun H => ContainsFunc_s l 67 [] (fun n => !(decide (-1000000000000 ≤ n) && decide (n ≤ 1000000000000))) H (by omega) fun a _ => ListText1_c a H
  have hno : (l.any fun n => !(decide (-1000000000000 ≤ n) && decide (n ≤ 1000000000000))) = false := by
    rw [List.any_eq_false]
    intro n hn
    have := hv n hn
    unfold valI at this
    simp [this]
  unfold lstT
  have hl64 : ¬ (64 : Int) < l.length := by omega
  refine Run2.of I 1000 ?_
  simp -implicitDefEqProofs [hl64]
  refine (hcf _).mono ?_
  rw [hno]
  rintro v h' ⟨e1, e2⟩
  rw [e1, e2]
  clear hcf hno e1 e2
  refine gK.go ?_
  by_cases h0 : l = []
  · subst h0
    simp -implicitDefEqProofs [hl64]
    exact .base ⟨rfl, rfl⟩
  · rw [if_neg h0]
    simp -implicitDefEqProofs [hl64, h0]
    refine Run2.loopE (α := Nat × AV × Heap) (fun p => [(3, p.2.1), (16, .snap 1 (l.map iv)), (17, .int .i64 l.length), (18, .int .i64 (p.1 : Nat))]) (fun p => p.2.2 ++ h) (fun p => l.length - p.1) (fun p => p.1 ≤ l.length ∧ Grow 1 p.2.1 (((l.take p.1).map Lib.itoa).map sv) p.2.2) (0, .nilsl, []) (by simp) rfl ⟨Nat.zero_le _, by simpa using Grow.nil⟩ ?_
    rintro ⟨i, w, hp⟩ ⟨hi, hg⟩ ih
    simp only at hi hg
    have hcell := hg.cell
    by_cases hlt : i < l.length
    · have go := fun w' hp' => ih (i + 1, w', hp')
      simp only [List.take_succ_eq_append_getElem hlt, List.map_append, List.map_cons, List.map_nil] at go
      obtain ⟨hn1, hn2⟩ := valI_in (hv _ (List.getElem_mem hlt))
      clear ih
      refine Run2.of I 1000 ?_
      simp -implicitDefEqProofs [hlt, hcell, hn1, hn2]
      refine hg.app (by simp; omega) (by simp) fun w2 hp2 hg2 => ?_
      have hcell2 := hg2.cell
      have := go w2 hp2 ⟨hlt, by simpa using hg2⟩ (by omega)
      simp -implicitDefEqProofs [hcell2]
      exact ⟨by omega, by simpa using this⟩
    · obtain rfl : i = l.length := by omega
      rw [List.take_length] at hg
      clear ih
      refine Run2.of I 1000 ?_
      simp -implicitDefEqProofs [hlt, hcell]
      have hlen := join_lenL (l.map Lib.itoa) [44] 21 (itoas_len fun n hn => valI_in (hv n hn))
      simp at hlen
      refine (join_g hg [44] h (by simp; omega) (by omega)).mono ?_
      rintro v2 h2 ⟨e1, e2⟩
      rw [e1, e2]
      refine gK.go ?_
      simp -implicitDefEqProofs
      exact Post.dropAll rfl (.base ⟨rfl, rfl⟩)
noncomputable def o_ListText : List AV → Option (Prop × AV) := tab (fun (x : List Int) => match x with | l => [.snap 1 (l.map iv)]) (fun x => match x with | l => (l.length ≤ 64 ∧ ∀ n ∈ l, valI n)) (fun x => match x with | l => .str (lstT l))
@[simp] theorem o_ListText_e (l : List Int) : o_ListText [.snap 1 (l.map iv)] = some ((l.length ≤ 64 ∧ ∀ n ∈ l, valI n), .str (lstT l)) := tab_at (enc := fun (x : List Int) => match x with | l => [.snap 1 (l.map iv)]) (fun x y h => by
  simp at h; simp [h] <;> omega) _ _ l
theorem o_ListText_k : Knows Tryd.prog 49 o_ListText := tab_knows fun x hx h => by
  exact ListText_c x h hx.1 hx.2
@[simp] theorem o_ListText_3 (a b c : Int) : o_ListText [.snap 1 [.int .i64 a, .int .i64 b, .int .i64 c]] = some ([a, b, c].length ≤ 64 ∧ ∀ n ∈ [a, b, c], valI n, .str (lstT [a, b, c])) := by simpa using o_ListText_e [a, b, c]
end Go.AG
