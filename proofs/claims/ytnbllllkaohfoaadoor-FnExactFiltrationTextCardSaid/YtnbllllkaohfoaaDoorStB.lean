/- Texts of lists of numbers: the program and the reference. No statement is made here. -/
import Derived.Test.YtnbllllkaohfoaaDoorStA
import Derived.Test.YtnbllllkaohfoaaDoorFxB
namespace Go.AG
open Go.Proofs Go.Proofs.YtnbllllkaohfoaaDoor
set_option linter.unusedSimpArgs false
set_option linter.unusedVariables false
set_option maxRecDepth 4000
theorem join_cc (a b : List UInt8) (r : List (List UInt8)) (s : List UInt8) : Lib.join (a :: b :: r) s = a ++ (s ++ Lib.join (b :: r) s) := by simp [Lib.join, List.intercalate, List.intersperse]
theorem join_one' (a : List UInt8) (s : List UInt8) : Lib.join [a] s = a := by simp [Lib.join, List.intercalate, List.intersperse]
theorem join_none' (s : List UInt8) : Lib.join [] s = [] := rfl
theorem join_snoc : ∀ (xs : List (List UInt8)) (y s : List UInt8), xs ≠ [] → Lib.join (xs ++ [y]) s = Lib.join xs s ++ (s ++ y)
  | [], _, _, h => absurd rfl h
  | [a], y, s, _ => by rw [List.singleton_append, join_cc, join_one', join_one']
  | a :: b :: r, y, s, _ => by
    have := join_snoc (b :: r) y s (by simp)
    rw [List.cons_append, List.cons_append, join_cc, join_cc, ← List.cons_append, this]
    simp
theorem join_lenL : ∀ (xs : List (List UInt8)) (s : List UInt8) (k : Nat), (∀ x ∈ xs, x.length ≤ k) → (Lib.join xs s).length ≤ xs.length * (k + s.length)
  | [], _, _, _ => by simp [join_none']
  | [a], s, k, h => by
    rw [join_one']
    have := h a (by simp)
    simp
    omega
  | a :: b :: r, s, k, h => by
    have h1 := h a (by simp)
    have h2 := join_lenL (b :: r) s k fun x hx => h x (List.mem_cons_of_mem _ hx)
    rw [join_cc]
    simp only [List.length_append, List.length_cons] at h2 ⊢
    rw [Nat.succ_mul (r.length + 1)]
    omega
/-- A list as text. -/
def lstT (l : List Int) : List UInt8 := if l = [] then [45] else Lib.join (l.map Lib.itoa) [44]
theorem itoas_len {l : List Int} (h : ∀ n ∈ l, in64 n) : ∀ x ∈ l.map Lib.itoa, x.length ≤ 21 := fun x hx => by
  obtain ⟨n, hn, rfl⟩ := List.mem_map.1 hx
  exact itoa_len (h n hn).1 (h n hn).2
theorem lstT_len {l : List Int} (h : ∀ n ∈ l, in64 n) : (lstT l).length ≤ 22 * l.length + 1 := by
  unfold lstT
  split
  · simp
  · have := join_lenL _ [44] 21 (itoas_len h)
    simp at this
    omega
theorem join_take {α : Type} (f : α → List UInt8) (s : List UInt8) {l : List α} {i : Nat} (hi : i < l.length) : Lib.join ((l.take (i + 1)).map f) s = if i = 0 then f l[i] else Lib.join ((l.take i).map f) s ++ (s ++ f l[i]) := by
  rw [List.take_succ_eq_append_getElem hi, List.map_append]
  split
  · rename_i h; subst h; rw [List.take_zero]; exact join_one' _ _
  · rename_i h
    exact join_snoc _ _ _ (by
      rw [ne_eq, List.map_eq_nil_iff, List.take_eq_nil_iff]
      rintro (h1 | h1)
      · exact h h1
      · subst h1; simp at hi)
theorem join_takeL {α : Type} (f : α → List UInt8) (s : List UInt8) (l : List α) (i : Nat) (k : Nat) (h : ∀ n ∈ l, (f n).length ≤ k) : (Lib.join ((l.take i).map f) s).length ≤ i * (k + s.length) := by
  have h1 := join_lenL ((l.take i).map f) s k fun x hx => by
    obtain ⟨n, hn, rfl⟩ := List.mem_map.1 hx
    exact h n (List.mem_of_mem_take hn)
  have h2 : ((l.take i).map f).length ≤ i := by rw [List.length_map, List.length_take]; omega
  exact Nat.le_trans h1 (Nat.mul_le_mul_right _ h2)
noncomputable def o_l01Dec : List AV → Option (Prop × AV) := tab (fun (x : Int) => match x with | n => [.int .i64 n]) (fun x => match x with | n => in64 n) (fun x => match x with | n => .str (Lib.itoa n))
@[simp] theorem o_l01Dec_e (n : Int) : o_l01Dec [.int .i64 n] = some (in64 n, .str (Lib.itoa n)) := tab_at (enc := fun (x : Int) => match x with | n => [.int .i64 n]) (fun x y h => by
  simp at h; simp [h] <;> omega) _ _ n
theorem o_l01Dec_k : Knows Tryd.prog 69 o_l01Dec := tab_knows fun x hx h => by
  exact l01Dec_c x h hx
noncomputable def orcSb1 : List (Nat × (List AV → Option (Prop × AV))) := (69, o_l01Dec) :: (40, o_Decimal) :: (72, o_within) :: []
theorem orcSb1_p : Pure Tryd.prog (lk orcSb1) := (lk_pure o_l01Dec_k (lk_pure o_Decimal_k (lk_pure o_within_k lk_pure0)))
@[simp] theorem orcSb1_l (b : Bool) (g : FuncId) (l : List AV) : lk orcSb1 b g l = if g = 69 then o_l01Dec l else if g = 40 then o_Decimal l else if g = 72 then o_within l else none := nr rfl
abbrev k57_o0 : List AJ := [.o ⟨(some 2), none, false, .mv (.c (.str [])), (some [0])⟩]
abbrev k57_o1 : List AJ := [.o ⟨(some 5), none, false, .mv (.t 0), none⟩, .o ⟨(some 6), none, false, .len (.t 5), none⟩, .o ⟨(some 7), none, false, .bin .eql (.t 6) (.c (.int .i64 0)), (some [0, 7])⟩]
abbrev k57_o2 : List AJ := [.o ⟨(some 2), none, false, .mv (.c (.str [45])), (some [2])⟩]
def k57_3 : ACode := .seq (.region k57_o2) .ret
def k57_4 : ACode := .cond (.t 7) k57_3 .skip
def k57_5 : ACode := .seq (.region k57_o1) k57_4
abbrev k57_o3 : List AJ := [.o ⟨(some 3), none, false, .mv (.c (.str [])), (some [0, 3])⟩]
abbrev k57_o4 : List AJ := [.o ⟨(some 4), none, false, .mv (.c (.int .i64 0)), (some [0, 3, 4])⟩]
abbrev k57_o5 : List AJ := [.o ⟨(some 8), none, false, .mv (.t 4), none⟩, .o ⟨(some 9), none, false, .mv (.t 0), none⟩, .o ⟨(some 10), none, false, .len (.t 9), none⟩, .o ⟨(some 11), none, false, .bin .lss (.t 8) (.t 10), (some [0, 3, 4, 11])⟩]
def k57_9 : ACode := .cond (.t 11) .skip (.exit 0)
def k57_10 : ACode := .seq (.region k57_o5) k57_9
abbrev k57_o6 : List AJ := [.o ⟨(some 14), none, false, .mv (.t 4), none⟩, .o ⟨(some 15), none, false, .bin .gtr (.t 14) (.c (.int .i64 0)), (some [0, 3, 4, 15])⟩]
abbrev k57_o7 : List AJ := [.o ⟨(some 16), none, false, .mv (.t 3), none⟩, .o ⟨(some 17), none, true, .bin .add (.t 16) (.c (.str [44])), none⟩, .o ⟨(some 3), none, false, .mv (.t 17), (some [0, 3, 4])⟩]
def k57_12 : ACode := .region k57_o7
def k57_13 : ACode := .cond (.t 15) k57_12 .skip
def k57_14 : ACode := .seq (.region k57_o6) k57_13
abbrev k57_o8 : List AJ := [.o ⟨(some 18), none, false, .mv (.t 3), none⟩, .o ⟨(some 19), none, false, .mv (.t 0), none⟩, .o ⟨(some 20), none, false, .mv (.t 4), none⟩, .o ⟨(some 21), none, false, .idxA 1 (.t 19) (.t 20), none⟩, .o ⟨(some 22), none, false, .load 1 false (.t 21), none⟩, .o ⟨(some 23), none, false, .call 69 [(.t 22)], none⟩, .o ⟨(some 24), none, true, .bin .add (.t 18) (.t 23), none⟩, .o ⟨(some 3), none, false, .mv (.t 24), (some [0, 3, 4])⟩]
def k57_15 : ACode := .region k57_o8
def k57_16 : ACode := .seq k57_14 k57_15
abbrev k57_o9 : List AJ := [.o ⟨(some 12), none, false, .mv (.t 4), none⟩, .o ⟨(some 13), none, true, .bin .add (.t 12) (.c (.int .i64 1)), none⟩, .o ⟨(some 4), none, false, .mv (.t 13), (some [0, 3, 4])⟩]
def k57_18 : ACode := .region k57_o9
def k57_19 : ACode := .seq (.block 1 k57_16) k57_18
def k57_20 : ACode := .seq k57_10 k57_19
def k57_21 : ACode := .loop k57_20
def k57_22 : ACode := .block 0 k57_21
def k57_23 : ACode := .seq (.region k57_o4) k57_22
abbrev k57_o10 : List AJ := [.o ⟨(some 25), none, false, .mv (.t 3), none⟩, .o ⟨(some 2), none, false, .mv (.t 25), (some [2])⟩]
def k57_25 : ACode := .seq (.region k57_o10) .ret
def k57_26 : ACode := .seq k57_23 k57_25
def k57_27 : ACode := .seq (.region k57_o3) k57_26
def k57_28 : ACode := .seq k57_5 k57_27
def k57_29 : ACode := .seq (.region k57_o0) k57_28
@[simp, simp ↓] theorem k57_3r : sR k57_3 k57_o2 .ret := yR rfl
@[simp, simp ↓] theorem k57_4r : rC k57_4 (.t 7) k57_3 .skip := zC rfl
@[simp, simp ↓] theorem k57_5r : sR k57_5 k57_o1 k57_4 := yR rfl
@[simp, simp ↓] theorem k57_9r : rC k57_9 (.t 11) .skip (.exit 0) := zC rfl
@[simp, simp ↓] theorem k57_10r : sR k57_10 k57_o5 k57_9 := yR rfl
@[simp, simp ↓] theorem k57_12r : rR k57_12 k57_o7 := zR rfl
@[simp, simp ↓] theorem k57_13r : rC k57_13 (.t 15) k57_12 .skip := zC rfl
@[simp, simp ↓] theorem k57_14r : sR k57_14 k57_o6 k57_13 := yR rfl
@[simp, simp ↓] theorem k57_15r : rR k57_15 k57_o8 := zR rfl
@[simp, simp ↓] theorem k57_16r : rS k57_16 k57_14 k57_15 := zS rfl
@[simp, simp ↓] theorem k57_18r : rR k57_18 k57_o9 := zR rfl
@[simp, simp ↓] theorem k57_19r : sB k57_19 1 k57_16 k57_18 := yB rfl
@[simp, simp ↓] theorem k57_20r : rS k57_20 k57_10 k57_19 := zS rfl
@[simp, simp ↓] theorem k57_21r : rL k57_21 k57_20 := zL rfl
@[simp, simp ↓] theorem k57_22r : rB k57_22 0 k57_21 := zB rfl
@[simp, simp ↓] theorem k57_23r : sR k57_23 k57_o4 k57_22 := yR rfl
@[simp, simp ↓] theorem k57_25r : sR k57_25 k57_o10 .ret := yR rfl
@[simp, simp ↓] theorem k57_26r : rS k57_26 k57_23 k57_25 := zS rfl
@[simp, simp ↓] theorem k57_27r : sR k57_27 k57_o3 k57_26 := yR rfl
@[simp, simp ↓] theorem k57_28r : rS k57_28 k57_5 k57_27 := zS rfl
@[simp, simp ↓] theorem k57_29r : sR k57_29 k57_o0 k57_28 := yR rfl
noncomputable abbrev k57_C : Orc → Cx := mkC Tryd.prog [] 57 26 [.tmp 2]
theorem k57_of0 : OfP0 Tryd.prog Tryd.f57 57 26 k57_C k57_29 := @ofP0 _ _ _ _ _ _ _ _ Tryd.func57 (by decide +kernel) rfl (by kernel_rfl) rfl (by kernel_rfl)
theorem l01List_c (l : List Int) (h : Heap) (hl : l.length ≤ 1048576) (hv : ∀ n ∈ l, in64 n) : ACalls Tryd.prog 57 [.snap 1 (l.map iv)] h (fun v h' => v = .str (lstT l) ∧ h' = h) := by
  refine k57_of0 rfl orcSb1_p fun I => ?_
  unfold lstT
  by_cases h0 : l = []
  · subst h0
    refine Run2.of I 1000 ?_
    simp -implicitDefEqProofs
  · rw [if_neg h0]
    have hpos : 0 < l.length := List.length_pos_iff.2 h0
    refine Run2.of I 1000 ?_
    simp -implicitDefEqProofs [h0]
    refine Run2.loopE (fun (i : Nat) => [(0, .snap 1 (l.map iv)), (3, .str (Lib.join ((l.take i).map Lib.itoa) [44])), (4, .int .i64 i)]) (fun _ => h) (fun i => l.length - i) (fun i => i ≤ l.length) 0 (by simp [join_none']) rfl (Nat.zero_le _) fun i hi ih => ?_
    by_cases hlt : i < l.length
    · have go := ih (i + 1) hlt (by omega)
      rw [join_take _ _ hlt] at go
      have hn := hv _ (List.getElem_mem hlt)
      have hlen := join_takeL Lib.itoa [44] l i 21 fun n hn => itoa_len (hv n hn).1 (hv n hn).2
      have hil := itoa_len hn.1 hn.2
      obtain ⟨hn1, hn2⟩ := hn
      clear ih
      by_cases hi0 : i = 0
      · subst hi0
        rw [if_pos rfl] at go
        refine Run2.of I 1000 ?_
        simp -implicitDefEqProofs [hlt, hn1, hn2, join_none']
        exact ⟨by omega, by simpa using go⟩
      · rw [if_neg hi0] at go
        generalize Lib.join ((l.take i).map Lib.itoa) [44] = S at *
        have hip : 0 < i := by omega
        simp at hlen
        refine Run2.of I 1000 ?_
        simp -implicitDefEqProofs [hlt, hn1, hn2, hip]
        repeat' (first | refine And.intro ?_ ?_ | intro _)
        all_goals first | omega | (simpa using go)
    · obtain rfl : i = l.length := by omega
      rw [List.take_length]
      refine Run2.of I 1000 ?_
      simp -implicitDefEqProofs [hlt]
theorem Grow.lentWkS {sz : Nat} {w : AV} {l : List AV} {hp : Heap} (G : Grow sz w l hp) : Wk (lend1 hp w) (.snap sz l) := by
  cases G with
  | nil => exact Wk.nil sz
  | emp => exact Wk.emp sz
  | sl id l n hn =>
    subst hn
    have : lend1 [(id, (⟨sz, l⟩ : Blk))] (.sl id sz 0 l.length none) = .snap sz l := by simp [lend1, fz]
    rw [this]
    exact Wk.refl _
theorem join_g {w : AV} {xs : List (List UInt8)} {hp : Heap} (G : Grow 1 w (xs.map sv) hp) (sep : List UInt8) (h : Heap) (hl : xs.length ≤ 1099511627776) (hj : (Lib.join xs sep).length ≤ 140737488355328) : ACalls Tryd.prog 34 [w, .str sep] (hp ++ h) (fun v h' => v = .str (Lib.join xs sep) ∧ h' = hp ++ h) := by
  refine ACalls.reads hp (fun p hp' => List.mem_append_left _ hp') ?_ rfl
  rw [lend_cons, lend_cons, lend_nil', lend1_cold hp (x := .str sep) rfl]
  exact ACalls.wk (.cons G.lentWkS (.cons (.refl _) .nil)) (join_c xs sep [] hl hj)
theorem Run2.wkS {C : Cx} {sk : List AItem} {e e' : Env} {h : Heap} {R : AV → Heap → Prop} (he : ∀ t, Wk (eget e t) (eget e' t)) (g : Run2 C sk e' h R) : Run2 C sk e h R := by
  unfold Run2 at g ⊢
  intro k tmps w cs w0 D0 hk S
  exact g k tmps w cs w0 D0 hk ⟨fun t => he t _ _ _ (S.env t), S.size, S.heap, S.ev⟩
theorem Wk.capNone (id sz off len : Nat) (c : Option Nat) : Wk (.sl id sz off len c) (.sl id sz off len none) := fun w D v ⟨A, k, e, h1, h2, h3⟩ => ⟨A, k, e, h1, h2, fun k hk => by cases hk⟩
def valI (n : Int) : Prop := -1000000000000 ≤ n ∧ n ≤ 1000000000000
theorem valI_in {n : Int} (h : valI n) : in64 n := by unfold valI at h; unfold in64; omega
abbrev k62_o0 : List AJ := [.o ⟨(some 2), none, false, .mv (.c (.bool false)), (some [0])⟩]
abbrev k62_o1 : List AJ := [.o ⟨(some 3), none, false, .mv (.t 0), none⟩, .o ⟨(some 4), none, false, .call 72 [(.t 3), (.c (.int .i64 (-1000000000000))), (.c (.int .i64 1000000000000))], none⟩, .o ⟨(some 2), none, false, .mv (.t 4), (some [2])⟩]
def k62_2 : ACode := .seq (.region k62_o1) .ret
def k62_3 : ACode := .seq (.region k62_o0) k62_2
@[simp, simp ↓] theorem k62_2r : sR k62_2 k62_o1 .ret := yR rfl
@[simp, simp ↓] theorem k62_3r : sR k62_3 k62_o0 k62_2 := yR rfl
noncomputable abbrev k62_C : Orc → Cx := mkC Tryd.prog [] 62 5 [.tmp 2]
theorem k62_of0 : OfP0 Tryd.prog Tryd.f62 62 5 k62_C k62_3 := @ofP0 _ _ _ _ _ _ _ _ Tryd.func62 (by decide +kernel) rfl (by kernel_rfl) rfl (by kernel_rfl)
theorem isValue_c (n : Int) (h : Heap) : ACalls Tryd.prog 62 [.int .i64 n] h (fun v h' => v = .bool (decide (-1000000000000 ≤ n) && decide (n ≤ 1000000000000)) ∧ h' = h) := by
  refine k62_of0 rfl orcSb1_p fun I => ?_
  refine Run2.of I 1000 ?_
  simp -implicitDefEqProofs
noncomputable def o_isValue : List AV → Option (Prop × AV) := tab (fun (x : Int) => match x with | n => [.int .i64 n]) (fun x => match x with | n => True) (fun x => match x with | n => .bool (decide (-1000000000000 ≤ n) && decide (n ≤ 1000000000000)))
@[simp] theorem o_isValue_e (n : Int) : o_isValue [.int .i64 n] = some (True, .bool (decide (-1000000000000 ≤ n) && decide (n ≤ 1000000000000))) := tab_at (enc := fun (x : Int) => match x with | n => [.int .i64 n]) (fun x y h => by
  simp at h; simp [h] <;> omega) _ _ n
theorem o_isValue_k : Knows Tryd.prog 62 o_isValue := tab_knows fun x hx h => by
  exact isValue_c _ h
noncomputable def orcSb2 : List (Nat × (List AV → Option (Prop × AV))) := (62, o_isValue) :: []
theorem orcSb2_p : Pure Tryd.prog (lk orcSb2) := (lk_pure o_isValue_k lk_pure0)
@[simp] theorem orcSb2_l (b : Bool) (g : FuncId) (l : List AV) : lk orcSb2 b g l = if g = 62 then o_isValue l else none := nr rfl
abbrev k61_o0 : List AJ := [.o ⟨(some 2), none, false, .mv (.c (.bool false)), (some [0])⟩]
abbrev k61_o1 : List AJ := [.o ⟨(some 3), none, false, .mv (.t 0), none⟩, .o ⟨(some 4), none, false, .call 62 [(.t 3)], none⟩, .o ⟨(some 5), none, false, .un .not (.t 4), none⟩, .o ⟨(some 2), none, false, .mv (.t 5), (some [2])⟩]
def k61_2 : ACode := .seq (.region k61_o1) .ret
def k61_3 : ACode := .seq (.region k61_o0) k61_2
@[simp, simp ↓] theorem k61_2r : sR k61_2 k61_o1 .ret := yR rfl
@[simp, simp ↓] theorem k61_3r : sR k61_3 k61_o0 k61_2 := yR rfl
noncomputable abbrev k61_C : Orc → Cx := mkC Tryd.prog [] 61 6 [.tmp 2]
theorem k61_of0 : OfP0 Tryd.prog Tryd.f61 61 6 k61_C k61_3 := @ofP0 _ _ _ _ _ _ _ _ Tryd.func61 (by decide +kernel) rfl (by kernel_rfl) rfl (by kernel_rfl)
theorem ListText1_c (n : Int) (h : Heap) : ACalls Tryd.prog 61 [.int .i64 n] h (fun v h' => v = .bool (!(decide (-1000000000000 ≤ n) && decide (n ≤ 1000000000000))) ∧ h' = h) := by
  refine k61_of0 rfl orcSb2_p fun I => ?_
  refine Run2.of I 1000 ?_
  simp -implicitDefEqProofs
noncomputable def orcSb3 : List (Nat × (List AV → Option (Prop × AV))) := (40, o_Decimal) :: []
theorem orcSb3_p : Pure Tryd.prog (lk orcSb3) := (lk_pure o_Decimal_k lk_pure0)
@[simp] theorem orcSb3_l (b : Bool) (g : FuncId) (l : List AV) : lk orcSb3 b g l = if g = 40 then o_Decimal l else none := nr rfl
abbrev k33_o0 : List AJ := [.o ⟨(some 2), none, false, .mv (.c (.str [])), (some [0])⟩]
abbrev k33_o1 : List AJ := [.o ⟨(some 6), none, false, .mv (.t 0), none⟩, .o ⟨(some 7), none, false, .len (.t 6), none⟩, .o ⟨(some 8), none, false, .bin .gtr (.t 7) (.c (.int .i64 64)), none⟩, .o ⟨(some 9), none, false, .mv (.t 8), none⟩, .o ⟨(some 10), (some (9, false)), false, .mv (.t 0), none⟩, .o ⟨(some 11), (some (9, false)), false, .call 58 [(.t 10), (.c (.fn 61 []))], none⟩, .o ⟨(some 12), none, false, .pick (.t 9) (.c (.bool true)) (.t 11), (some [0, 12])⟩]
abbrev k33_o2 : List AJ := [.o ⟨(some 2), none, false, .mv (.c (.str [])), (some [2])⟩]
def k33_3 : ACode := .seq (.region k33_o2) .ret
def k33_4 : ACode := .cond (.t 12) k33_3 .skip
def k33_5 : ACode := .seq (.region k33_o1) k33_4
abbrev k33_o3 : List AJ := [.o ⟨(some 13), none, false, .mv (.t 0), none⟩, .o ⟨(some 14), none, false, .len (.t 13), none⟩, .o ⟨(some 15), none, false, .bin .eql (.t 14) (.c (.int .i64 0)), (some [0, 15])⟩]
abbrev k33_o4 : List AJ := [.o ⟨(some 2), none, false, .mv (.c (.str [45])), (some [2])⟩]
def k33_8 : ACode := .seq (.region k33_o4) .ret
def k33_9 : ACode := .cond (.t 15) k33_8 .skip
def k33_10 : ACode := .seq (.region k33_o3) k33_9
abbrev k33_o5 : List AJ := [.o ⟨(some 3), none, false, .mv (.c .nilsl), (some [0, 3])⟩]
abbrev k33_o6 : List AJ := [.o ⟨(some 16), none, false, .mv (.t 0), none⟩, .o ⟨(some 17), none, false, .len (.t 16), none⟩, .o ⟨(some 18), none, false, .mv (.c (.int .i64 0)), (some [3, 16, 17, 18])⟩]
abbrev k33_o7 : List AJ := [.o ⟨(some 19), none, false, .bin .lss (.t 18) (.t 17), (some [3, 16, 17, 18, 19])⟩]
abbrev k33_o8 : List AJ := [.o ⟨(some 20), none, false, .idxA 1 (.t 16) (.t 18), none⟩, .o ⟨(some 21), none, false, .load 1 false (.t 20), none⟩, .o ⟨(some 5), none, false, .mv (.t 21), (some [3, 5, 16, 17, 18])⟩]
abbrev k33_o9 : List AJ := [.o ⟨(some 22), none, false, .mv (.t 3), none⟩, .o ⟨(some 23), none, false, .mv (.t 5), none⟩, .o ⟨(some 24), none, false, .call 40 [(.t 23)], none⟩, .o ⟨(some 25), none, false, .bsl false 1 [(.t 24)], none⟩, .o ⟨(some 26), none, false, .append 1 16 (.t 22) (.t 25), none⟩, .o ⟨(some 3), none, false, .mv (.t 26), (some [3, 16, 17, 18])⟩]
def k33_16 : ACode := .region k33_o9
def k33_17 : ACode := .seq (.region k33_o8) k33_16
abbrev k33_o10 : List AJ := [.o ⟨(some 27), none, true, .bin .add (.t 18) (.c (.int .i64 1)), none⟩, .o ⟨(some 18), none, false, .mv (.t 27), (some [3, 16, 17, 18])⟩]
def k33_19 : ACode := .region k33_o10
def k33_20 : ACode := .seq (.block 1 k33_17) k33_19
def k33_21 : ACode := .seq (.cond (.t 19) .skip (.exit 0)) k33_20
def k33_22 : ACode := .seq (.region k33_o7) k33_21
def k33_23 : ACode := .loop k33_22
def k33_24 : ACode := .block 0 k33_23
def k33_25 : ACode := .seq (.region k33_o6) k33_24
abbrev k33_o11 : List AJ := [.o ⟨(some 28), none, false, .mv (.t 3), none⟩, .o ⟨(some 29), none, false, .call 34 [(.t 28), (.c (.str [44]))], none⟩, .o ⟨(some 2), none, false, .mv (.t 29), (some [2])⟩]
def k33_27 : ACode := .seq (.region k33_o11) .ret
def k33_28 : ACode := .seq k33_25 k33_27
def k33_29 : ACode := .seq (.region k33_o5) k33_28
def k33_30 : ACode := .seq k33_10 k33_29
def k33_31 : ACode := .seq k33_5 k33_30
def k33_32 : ACode := .seq (.region k33_o0) k33_31
@[simp, simp ↓] theorem k33_3r : sR k33_3 k33_o2 .ret := yR rfl
@[simp, simp ↓] theorem k33_4r : rC k33_4 (.t 12) k33_3 .skip := zC rfl
@[simp, simp ↓] theorem k33_5r : sR k33_5 k33_o1 k33_4 := yR rfl
@[simp, simp ↓] theorem k33_8r : sR k33_8 k33_o4 .ret := yR rfl
@[simp, simp ↓] theorem k33_9r : rC k33_9 (.t 15) k33_8 .skip := zC rfl
@[simp, simp ↓] theorem k33_10r : sR k33_10 k33_o3 k33_9 := yR rfl
@[simp, simp ↓] theorem k33_16r : rR k33_16 k33_o9 := zR rfl
@[simp, simp ↓] theorem k33_17r : sR k33_17 k33_o8 k33_16 := yR rfl
@[simp, simp ↓] theorem k33_19r : rR k33_19 k33_o10 := zR rfl
@[simp, simp ↓] theorem k33_20r : sB k33_20 1 k33_17 k33_19 := yB rfl
@[simp, simp ↓] theorem k33_21r : sC k33_21 (.t 19) .skip (.exit 0) k33_20 := yC rfl
@[simp, simp ↓] theorem k33_22r : sR k33_22 k33_o7 k33_21 := yR rfl
@[simp, simp ↓] theorem k33_23r : rL k33_23 k33_22 := zL rfl
@[simp, simp ↓] theorem k33_24r : rB k33_24 0 k33_23 := zB rfl
@[simp, simp ↓] theorem k33_25r : sR k33_25 k33_o6 k33_24 := yR rfl
@[simp, simp ↓] theorem k33_27r : sR k33_27 k33_o11 .ret := yR rfl
@[simp, simp ↓] theorem k33_28r : rS k33_28 k33_25 k33_27 := zS rfl
@[simp, simp ↓] theorem k33_29r : sR k33_29 k33_o5 k33_28 := yR rfl
@[simp, simp ↓] theorem k33_30r : rS k33_30 k33_10 k33_29 := zS rfl
@[simp, simp ↓] theorem k33_31r : rS k33_31 k33_5 k33_30 := zS rfl
@[simp, simp ↓] theorem k33_32r : sR k33_32 k33_o0 k33_31 := yR rfl
noncomputable abbrev k33_C : Orc → Cx := mkC Tryd.prog [] 33 30 [.tmp 2]
theorem k33_of : OfP Tryd.prog Tryd.f33 33 30 k33_C k33_32 := @ofP _ _ _ _ _ _ _ _ Tryd.func33 (by decide +kernel) rfl (by kernel_rfl) rfl (by kernel_rfl)
theorem ListText_c (l : List Int) (h : Heap) (hl : l.length ≤ 64) (hv : ∀ n ∈ l, valI n) : ACalls Tryd.prog 33 [.snap 1 (l.map iv)] h (fun v h' => v = .str (lstT l) ∧ h' = h) := by
  refine k33_of rfl orcSb3_p fun I => ?_
  have hcf := fun H => ContainsFunc_s l 61 [] (fun n => !(decide (-1000000000000 ≤ n) && decide (n ≤ 1000000000000))) H (by omega) fun a _ => ListText1_c a H
  have hno : (l.any fun n => !(decide (-1000000000000 ≤ n) && decide (n ≤ 1000000000000))) = false := by
    rw [List.any_eq_false]
    intro n hn
    have := hv n hn
    unfold valI at this
    simp [this]
  unfold lstT
  have hl64 : ¬ (64 : Int) < l.length := by omega
  refine Run2.of I 1000 ?_
  simp -implicitDefEqProofs [hl64]
  refine (hcf _).mono ?_
  rw [hno]
  rintro v h' ⟨e1, e2⟩
  rw [e1, e2]
  clear hcf hno e1 e2
  refine gK.go ?_
  by_cases h0 : l = []
  · subst h0
    simp -implicitDefEqProofs [hl64]
    exact .base ⟨rfl, rfl⟩
  · rw [if_neg h0]
    simp -implicitDefEqProofs [hl64, h0]
    refine Run2.loopE (α := Nat × AV × Heap) (fun p => [(3, p.2.1), (16, .snap 1 (l.map iv)), (17, .int .i64 l.length), (18, .int .i64 (p.1 : Nat))]) (fun p => p.2.2 ++ h) (fun p => l.length - p.1) (fun p => p.1 ≤ l.length ∧ Grow 1 p.2.1 (((l.take p.1).map Lib.itoa).map sv) p.2.2) (0, .nilsl, []) (by simp) rfl ⟨Nat.zero_le _, by simpa using Grow.nil⟩ ?_
    rintro ⟨i, w, hp⟩ ⟨hi, hg⟩ ih
    simp only at hi hg
    have hcell := hg.cell
    by_cases hlt : i < l.length
    · have go := fun w' hp' => ih (i + 1, w', hp')
      simp only [List.take_succ_eq_append_getElem hlt, List.map_append, List.map_cons, List.map_nil] at go
      obtain ⟨hn1, hn2⟩ := valI_in (hv _ (List.getElem_mem hlt))
      clear ih
      refine Run2.of I 1000 ?_
      simp -implicitDefEqProofs [hlt, hcell, hn1, hn2]
      refine hg.app (by simp; omega) (by simp) fun w2 hp2 hg2 => ?_
      have hcell2 := hg2.cell
      have := go w2 hp2 ⟨hlt, by simpa using hg2⟩ (by omega)
      simp -implicitDefEqProofs [hcell2]
      exact ⟨by omega, by simpa using this⟩
    · obtain rfl : i = l.length := by omega
      rw [List.take_length] at hg
      clear ih
      refine Run2.of I 1000 ?_
      simp -implicitDefEqProofs [hlt, hcell]
      have hlen := join_lenL (l.map Lib.itoa) [44] 21 (itoas_len fun n hn => valI_in (hv n hn))
      simp at hlen
      refine (join_g hg [44] h (by simp; omega) (by omega)).mono ?_
      rintro v2 h2 ⟨e1, e2⟩
      rw [e1, e2]
      refine gK.go ?_
      simp -implicitDefEqProofs
      exact Post.dropAll rfl (.base ⟨rfl, rfl⟩)
noncomputable def o_ListText : List AV → Option (Prop × AV) := tab (fun (x : List Int) => match x with | l => [.snap 1 (l.map iv)]) (fun x => match x with | l => (l.length ≤ 64 ∧ ∀ n ∈ l, valI n)) (fun x => match x with | l => .str (lstT l))
@[simp] theorem o_ListText_e (l : List Int) : o_ListText [.snap 1 (l.map iv)] = some ((l.length ≤ 64 ∧ ∀ n ∈ l, valI n), .str (lstT l)) := tab_at (enc := fun (x : List Int) => match x with | l => [.snap 1 (l.map iv)]) (fun x y h => by
  simp at h; simp [h] <;> omega) _ _ l
theorem o_ListText_k : Knows Tryd.prog 33 o_ListText := tab_knows fun x hx h => by
  exact ListText_c x h hx.1 hx.2
noncomputable def o_l01List : List AV → Option (Prop × AV) := tab (fun (x : List Int) => match x with | l => [.snap 1 (l.map iv)]) (fun x => match x with | l => (l.length ≤ 1048576 ∧ ∀ n ∈ l, in64 n)) (fun x => match x with | l => .str (lstT l))
@[simp] theorem o_l01List_e (l : List Int) : o_l01List [.snap 1 (l.map iv)] = some ((l.length ≤ 1048576 ∧ ∀ n ∈ l, in64 n), .str (lstT l)) := tab_at (enc := fun (x : List Int) => match x with | l => [.snap 1 (l.map iv)]) (fun x y h => by
  simp at h; simp [h] <;> omega) _ _ l
theorem o_l01List_k : Knows Tryd.prog 57 o_l01List := tab_knows fun x hx h => by
  exact l01List_c x h hx.1 hx.2
@[simp] theorem o_ListText_3 (a b c : Int) : o_ListText [.snap 1 [.int .i64 a, .int .i64 b, .int .i64 c]] = some ([a, b, c].length ≤ 64 ∧ ∀ n ∈ [a, b, c], valI n, .str (lstT [a, b, c])) := by simpa using o_ListText_e [a, b, c]
@[simp] theorem o_l01List_3 (a b c : Int) : o_l01List [.snap 1 [.int .i64 a, .int .i64 b, .int .i64 c]] = some ([a, b, c].length ≤ 1048576 ∧ ∀ n ∈ [a, b, c], in64 n, .str (lstT [a, b, c])) := by simpa using o_l01List_e [a, b, c]
end Go.AG
