/- The law FnSorting is true for every input: exchanges keep all values, and rounds that sort all values of two kinds sort all. -/
import Derived.Test.YtpndpligcphonaaSgG
import Derived.Test.YtpndpligcphonaaSgA
namespace Go.AG
open Go.Proofs Go.Proofs.Ytpndpligcphonaa
set_option linter.unusedSimpArgs false
set_option linter.unusedVariables false
set_option maxRecDepth 4000
theorem runT_perm {x : Gr} {rs : List (List Int)} {v : List Int} {t : Nat} (hx : x.valid) (hok : x.rsOk rs) (hv : (v.length : Int) = x.n) : (runT x exch rs v t).Perm v := by
  have hn := hx.2.1
  have hr : ∀ r ∈ rs, ∀ k ∈ r, x.inR k := fun r hr k hk => (hok.1 r hr).2.2.1 k hk
  have := runT_inv x exch (Inv := fun l : List Int => l.Perm v) (fun a e he ha => by
    have hl := ha.length_eq
    have hel := hx.el he
    unfold Gr.el at hel
    exact (exch_perm a e (by omega) (by omega)).trans ha) hr (List.Perm.refl v) t
  exact this
theorem sum_bnd {B : Int} (hB : 0 ≤ B) : ∀ l : List Int, (∀ a ∈ l, -B ≤ a ∧ a ≤ B) → -(B * l.length) ≤ l.sum ∧ l.sum ≤ B * l.length
  | [], _ => by simp
  | a :: l, h => by
    obtain ⟨h1, h2⟩ := sum_bnd hB l fun b hb => h b (List.mem_cons_of_mem _ hb)
    obtain ⟨h3, h4⟩ := h a (List.mem_cons_self ..)
    have e : B * ((a :: l).length : Int) = B * l.length + B := by rw [List.length_cons, Int.natCast_add, Int.mul_add]; simp
    rw [e, List.sum_cons]
    omega
theorem sum_app (l m : List Int) : (l ++ m).sum = l.sum + m.sum := by
  induction l with
  | nil => simp
  | cons a l ih => simp only [List.cons_append, List.sum_cons, ih]; omega
theorem perm_sum {l m : List Int} (p : l.Perm m) : l.sum = m.sum := by
  induction p with
  | nil => rfl
  | cons a _ ih => simp [ih]
  | swap a b l => simp only [List.sum_cons]; omega
  | trans _ _ i1 i2 => exact i1.trans i2
abbrev k4_o0 : List AJ := [.o ⟨(some 2), none, false, .mv (.c (.bool false)), (some [0])⟩]
abbrev k4_o1 : List AJ := [.o ⟨(some 3), none, false, .mv (.t 0), none⟩, .o ⟨(some 4), none, false, .len (.t 3), none⟩, .o ⟨(some 5), none, false, .bin .gtr (.t 4) (.c (.int .i64 1048576)), none⟩, .o ⟨(some 2), none, false, .mv (.t 5), (some [2])⟩]
def k4_2 : ACode := .seq (.region k4_o1) .ret
def k4_3 : ACode := .seq (.region k4_o0) k4_2
@[simp, simp ↓] theorem k4_2r : sR k4_2 k4_o1 .ret := yR rfl
@[simp, simp ↓] theorem k4_3r : sR k4_3 k4_o0 k4_2 := yR rfl
noncomputable abbrev k4_C : Orc → Cx := mkC Try.prog [] 4 6 [.tmp 2]
theorem k4_of0 : OfP0 Try.prog Try.f4 4 6 k4_C k4_3 := @ofP0 _ _ _ _ _ _ _ _ Try.func4 (by decide +kernel) rfl (by kernel_rfl) rfl (by kernel_rfl)
theorem b10Long_c (code : List UInt8) (h : Heap) : ACalls Try.prog 4 [.snap 1 (code.map bv)] h (fun v h' => v = .bool (decide ((1048576 : Int) < code.length)) ∧ h' = h) := by
  refine k4_of0 rfl noPure fun I => ?_
  refine Run2.of I 1000 ?_
  simp -implicitDefEqProofs
abbrev k7_o0 : List AJ := [.o ⟨(some 2), none, false, .mv (.c (.int .i64 0)), (some [0])⟩]
abbrev k7_o1 : List AJ := [.o ⟨(some 3), none, false, .mv (.c (.int .i64 0)), (some [0, 3])⟩]
abbrev k7_o2 : List AJ := [.o ⟨(some 4), none, false, .mv (.c (.int .i64 0)), (some [0, 3, 4])⟩]
abbrev k7_o3 : List AJ := [.o ⟨(some 5), none, false, .mv (.t 4), none⟩, .o ⟨(some 6), none, false, .mv (.t 0), none⟩, .o ⟨(some 7), none, false, .len (.t 6), none⟩, .o ⟨(some 8), none, false, .bin .lss (.t 5) (.t 7), (some [0, 3, 4, 8])⟩]
def k7_4 : ACode := .cond (.t 8) .skip (.exit 0)
def k7_5 : ACode := .seq (.region k7_o3) k7_4
abbrev k7_o4 : List AJ := [.o ⟨(some 11), none, false, .mv (.t 3), none⟩, .o ⟨(some 12), none, false, .mv (.t 0), none⟩, .o ⟨(some 13), none, false, .mv (.t 4), none⟩, .o ⟨(some 14), none, false, .idxA 1 (.t 12) (.t 13), none⟩, .o ⟨(some 15), none, false, .load 1 false (.t 14), none⟩, .o ⟨(some 16), none, true, .bin .add (.t 11) (.t 15), none⟩, .o ⟨(some 3), none, false, .mv (.t 16), (some [0, 3, 4])⟩]
def k7_6 : ACode := .region k7_o4
abbrev k7_o5 : List AJ := [.o ⟨(some 9), none, false, .mv (.t 4), none⟩, .o ⟨(some 10), none, true, .bin .add (.t 9) (.c (.int .i64 1)), none⟩, .o ⟨(some 4), none, false, .mv (.t 10), (some [0, 3, 4])⟩]
def k7_8 : ACode := .region k7_o5
def k7_9 : ACode := .seq (.block 1 k7_6) k7_8
def k7_10 : ACode := .seq k7_5 k7_9
def k7_11 : ACode := .loop k7_10
def k7_12 : ACode := .block 0 k7_11
def k7_13 : ACode := .seq (.region k7_o2) k7_12
abbrev k7_o6 : List AJ := [.o ⟨(some 17), none, false, .mv (.t 3), none⟩, .o ⟨(some 2), none, false, .mv (.t 17), (some [2])⟩]
def k7_15 : ACode := .seq (.region k7_o6) .ret
def k7_16 : ACode := .seq k7_13 k7_15
def k7_17 : ACode := .seq (.region k7_o1) k7_16
def k7_18 : ACode := .seq (.region k7_o0) k7_17
@[simp, simp ↓] theorem k7_4r : rC k7_4 (.t 8) .skip (.exit 0) := zC rfl
@[simp, simp ↓] theorem k7_5r : sR k7_5 k7_o3 k7_4 := yR rfl
@[simp, simp ↓] theorem k7_6r : rR k7_6 k7_o4 := zR rfl
@[simp, simp ↓] theorem k7_8r : rR k7_8 k7_o5 := zR rfl
@[simp, simp ↓] theorem k7_9r : sB k7_9 1 k7_6 k7_8 := yB rfl
@[simp, simp ↓] theorem k7_10r : rS k7_10 k7_5 k7_9 := zS rfl
@[simp, simp ↓] theorem k7_11r : rL k7_11 k7_10 := zL rfl
@[simp, simp ↓] theorem k7_12r : rB k7_12 0 k7_11 := zB rfl
@[simp, simp ↓] theorem k7_13r : sR k7_13 k7_o2 k7_12 := yR rfl
@[simp, simp ↓] theorem k7_15r : sR k7_15 k7_o6 .ret := yR rfl
@[simp, simp ↓] theorem k7_16r : rS k7_16 k7_13 k7_15 := zS rfl
@[simp, simp ↓] theorem k7_17r : sR k7_17 k7_o1 k7_16 := yR rfl
@[simp, simp ↓] theorem k7_18r : sR k7_18 k7_o0 k7_17 := yR rfl
noncomputable abbrev k7_C : Orc → Cx := mkC Try.prog [] 7 18 [.tmp 2]
theorem k7_of0 : OfP0 Try.prog Try.f7 7 18 k7_C k7_18 := @ofP0 _ _ _ _ _ _ _ _ Try.func7 (by decide +kernel) rfl (by kernel_rfl) rfl (by kernel_rfl)
theorem b10Sum_c (l : List Int) (h : Heap) (hv : vOk l) : ACalls Try.prog 7 [.snap 1 (l.map iv)] h (fun v h' => v = .int .i64 l.sum ∧ h' = h) := by
  refine k7_of0 rfl noPure fun I => ?_
  have hl := hv.1
  refine Run2.of I 1000 ?_
  simp -implicitDefEqProofs
  refine Run2.loopE (fun i => [(0, .snap 1 (l.map iv)), (3, .int .i64 (l.take i).sum), (4, .int .i64 (i : Nat))]) (fun i => h) (fun i => l.length - i) (fun i => i ≤ l.length) 0 (by simp) rfl (by simp) fun i hi ih => ?_
  replace hi : i ≤ l.length := hi
  by_cases hlt : i < l.length
  · have hs : (l.take (i + 1)).sum = (l.take i).sum + l[i] := by rw [List.take_succ_eq_append_getElem hlt, sum_app]; simp
    have hb := sum_bnd (B := 1000001) (by omega) (l.take i) fun a ha => by have := hv.2 a (List.mem_of_mem_take ha); omega
    have hbi := hv.2 _ (List.getElem_mem hlt)
    rw [List.length_take] at hb
    have go := ih (i + 1) (by show _ ≤ _; omega) (by omega)
    rw [hs] at go
    clear ih
    refine Run2.of I 1000 ?_
    simp -implicitDefEqProofs [hlt]
    exact ⟨by omega, by omega, by simpa using go⟩
  · obtain rfl : i = l.length := by omega
    clear ih
    refine Run2.of I 1000 ?_
    simp -implicitDefEqProofs
abbrev k8_o0 : List AJ := [.o ⟨(some 4), none, false, .mv (.c (.int .i64 0)), (some [0, 1])⟩]
abbrev k8_o1 : List AJ := [.o ⟨(some 5), none, false, .mv (.c (.int .i64 0)), (some [0, 1, 5])⟩]
abbrev k8_o2 : List AJ := [.o ⟨(some 6), none, false, .mv (.c (.int .i64 0)), (some [0, 1, 5, 6])⟩]
abbrev k8_o3 : List AJ := [.o ⟨(some 7), none, false, .mv (.t 6), none⟩, .o ⟨(some 8), none, false, .mv (.t 0), none⟩, .o ⟨(some 9), none, false, .len (.t 8), none⟩, .o ⟨(some 10), none, false, .bin .lss (.t 7) (.t 9), (some [0, 1, 5, 6, 10])⟩]
def k8_4 : ACode := .cond (.t 10) .skip (.exit 0)
def k8_5 : ACode := .seq (.region k8_o3) k8_4
abbrev k8_o4 : List AJ := [.o ⟨(some 13), none, false, .mv (.t 0), none⟩, .o ⟨(some 14), none, false, .mv (.t 6), none⟩, .o ⟨(some 15), none, false, .idxA 1 (.t 13) (.t 14), none⟩, .o ⟨(some 16), none, false, .load 1 false (.t 15), none⟩, .o ⟨(some 17), none, false, .mv (.t 1), none⟩, .o ⟨(some 18), none, false, .bin .eql (.t 16) (.t 17), (some [0, 1, 5, 6, 18])⟩]
abbrev k8_o5 : List AJ := [.o ⟨(some 19), none, false, .mv (.t 5), none⟩, .o ⟨(some 20), none, true, .bin .add (.t 19) (.c (.int .i64 1)), none⟩, .o ⟨(some 5), none, false, .mv (.t 20), (some [0, 1, 5, 6])⟩]
def k8_7 : ACode := .region k8_o5
def k8_8 : ACode := .cond (.t 18) k8_7 .skip
def k8_9 : ACode := .seq (.region k8_o4) k8_8
abbrev k8_o6 : List AJ := [.o ⟨(some 11), none, false, .mv (.t 6), none⟩, .o ⟨(some 12), none, true, .bin .add (.t 11) (.c (.int .i64 1)), none⟩, .o ⟨(some 6), none, false, .mv (.t 12), (some [0, 1, 5, 6])⟩]
def k8_11 : ACode := .region k8_o6
def k8_12 : ACode := .seq (.block 1 k8_9) k8_11
def k8_13 : ACode := .seq k8_5 k8_12
def k8_14 : ACode := .loop k8_13
def k8_15 : ACode := .block 0 k8_14
def k8_16 : ACode := .seq (.region k8_o2) k8_15
abbrev k8_o7 : List AJ := [.o ⟨(some 21), none, false, .mv (.t 5), none⟩, .o ⟨(some 4), none, false, .mv (.t 21), (some [4])⟩]
def k8_18 : ACode := .seq (.region k8_o7) .ret
def k8_19 : ACode := .seq k8_16 k8_18
def k8_20 : ACode := .seq (.region k8_o1) k8_19
def k8_21 : ACode := .seq (.region k8_o0) k8_20
@[simp, simp ↓] theorem k8_4r : rC k8_4 (.t 10) .skip (.exit 0) := zC rfl
@[simp, simp ↓] theorem k8_5r : sR k8_5 k8_o3 k8_4 := yR rfl
@[simp, simp ↓] theorem k8_7r : rR k8_7 k8_o5 := zR rfl
@[simp, simp ↓] theorem k8_8r : rC k8_8 (.t 18) k8_7 .skip := zC rfl
@[simp, simp ↓] theorem k8_9r : sR k8_9 k8_o4 k8_8 := yR rfl
@[simp, simp ↓] theorem k8_11r : rR k8_11 k8_o6 := zR rfl
@[simp, simp ↓] theorem k8_12r : sB k8_12 1 k8_9 k8_11 := yB rfl
@[simp, simp ↓] theorem k8_13r : rS k8_13 k8_5 k8_12 := zS rfl
@[simp, simp ↓] theorem k8_14r : rL k8_14 k8_13 := zL rfl
@[simp, simp ↓] theorem k8_15r : rB k8_15 0 k8_14 := zB rfl
@[simp, simp ↓] theorem k8_16r : sR k8_16 k8_o2 k8_15 := yR rfl
@[simp, simp ↓] theorem k8_18r : sR k8_18 k8_o7 .ret := yR rfl
@[simp, simp ↓] theorem k8_19r : rS k8_19 k8_16 k8_18 := zS rfl
@[simp, simp ↓] theorem k8_20r : sR k8_20 k8_o1 k8_19 := yR rfl
@[simp, simp ↓] theorem k8_21r : sR k8_21 k8_o0 k8_20 := yR rfl
noncomputable abbrev k8_C : Orc → Cx := mkC Try.prog [] 8 22 [.tmp 4]
theorem k8_of0 : OfP0 Try.prog Try.f8 8 22 k8_C k8_21 := @ofP0 _ _ _ _ _ _ _ _ Try.func8 (by decide +kernel) rfl (by kernel_rfl) rfl (by kernel_rfl)
theorem b10Count_c (l : List Int) (a : Int) (h : Heap) (hl : l.length ≤ 1048576) : ACalls Try.prog 8 [.snap 1 (l.map iv), .int .i64 a] h (fun v h' => v = .int .i64 (l.count a) ∧ h' = h) := by
  refine k8_of0 rfl noPure fun I => ?_
  refine Run2.of I 1000 ?_
  simp -implicitDefEqProofs
  refine Run2.loopE (fun i => [(0, .snap 1 (l.map iv)), (1, .int .i64 a), (5, .int .i64 ((l.take i).count a : Nat)), (6, .int .i64 (i : Nat))]) (fun i => h) (fun i => l.length - i) (fun i => i ≤ l.length) 0 (by simp) rfl (by simp) fun i hi ih => ?_
  replace hi : i ≤ l.length := hi
  by_cases hlt : i < l.length
  · have hb : (l.take i).count a ≤ i := Nat.le_trans (List.count_le_length ..) (by simp; omega)
    have hs : (l.take (i + 1)).count a = (l.take i).count a + if l[i] = a then 1 else 0 := by
      rw [List.take_succ_eq_append_getElem hlt, List.count_append, List.count_singleton]; simp
    have go := ih (i + 1) (by show _ ≤ _; omega) (by omega)
    rw [hs] at go
    clear ih
    by_cases he : l[i] = a
    · rw [if_pos he] at go
      refine Run2.of I 1000 ?_
      simp -implicitDefEqProofs [hlt, he]
      exact ⟨by omega, by omega, by simpa using go⟩
    · rw [if_neg he] at go
      refine Run2.of I 1000 ?_
      simp -implicitDefEqProofs [hlt, he]
      exact ⟨by omega, by simpa using go⟩
  · obtain rfl : i = l.length := by omega
    clear ih
    refine Run2.of I 1000 ?_
    simp -implicitDefEqProofs
abbrev k11_o0 : List AJ := [.o ⟨(some 6), none, false, .mv (.c (.int .i64 0)), (some [0, 1, 2])⟩]
abbrev k11_o1 : List AJ := [.o ⟨(some 7), none, false, .mv (.t 2), none⟩, .o ⟨(some 8), none, false, .bin .leq (.t 7) (.c (.int .i64 1)), (some [0, 1, 2, 8])⟩]
abbrev k11_o2 : List AJ := [.o ⟨(some 6), none, false, .mv (.c (.int .i64 0)), (some [6])⟩]
def k11_3 : ACode := .seq (.region k11_o2) .ret
def k11_4 : ACode := .cond (.t 8) k11_3 .skip
def k11_5 : ACode := .seq (.region k11_o1) k11_4
abbrev k11_o3 : List AJ := [.o ⟨(some 9), none, false, .mv (.t 1), none⟩, .o ⟨(some 10), none, false, .mv (.t 0), none⟩, .o ⟨(some 11), none, false, .len (.t 10), none⟩, .o ⟨(some 12), none, false, .bin .lss (.t 9) (.t 11), (some [0, 1, 2, 12])⟩]
abbrev k11_o4 : List AJ := [.o ⟨(some 13), none, false, .mv (.t 0), none⟩, .o ⟨(some 14), none, false, .mv (.t 1), none⟩, .o ⟨(some 15), none, false, .idxA 1 (.t 13) (.t 14), none⟩, .o ⟨(some 16), none, false, .load 1 false (.t 15), none⟩, .o ⟨(some 17), none, true, .conv .i64 (.t 16), none⟩, .o ⟨(some 18), none, false, .mv (.t 2), none⟩, .o ⟨(some 19), none, false, .bin .rem (.t 17) (.t 18), none⟩, .o ⟨(some 6), none, false, .mv (.t 19), (some [6])⟩]
def k11_8 : ACode := .seq (.region k11_o4) .ret
def k11_9 : ACode := .cond (.t 12) k11_8 .skip
def k11_10 : ACode := .seq (.region k11_o3) k11_9
abbrev k11_o5 : List AJ := [.o ⟨(some 20), none, false, .mv (.t 1), none⟩, .o ⟨(some 21), none, true, .bin .mul (.t 20) (.c (.int .i64 37)), none⟩, .o ⟨(some 22), none, true, .bin .add (.t 21) (.c (.int .i64 11)), none⟩, .o ⟨(some 23), none, false, .mv (.t 2), none⟩, .o ⟨(some 24), none, false, .bin .rem (.t 22) (.t 23), none⟩, .o ⟨(some 6), none, false, .mv (.t 24), (some [6])⟩]
def k11_12 : ACode := .seq (.region k11_o5) .ret
def k11_13 : ACode := .seq k11_10 k11_12
def k11_14 : ACode := .seq k11_5 k11_13
def k11_15 : ACode := .seq (.region k11_o0) k11_14
@[simp, simp ↓] theorem k11_3r : sR k11_3 k11_o2 .ret := yR rfl
@[simp, simp ↓] theorem k11_4r : rC k11_4 (.t 8) k11_3 .skip := zC rfl
@[simp, simp ↓] theorem k11_5r : sR k11_5 k11_o1 k11_4 := yR rfl
@[simp, simp ↓] theorem k11_8r : sR k11_8 k11_o4 .ret := yR rfl
@[simp, simp ↓] theorem k11_9r : rC k11_9 (.t 12) k11_8 .skip := zC rfl
@[simp, simp ↓] theorem k11_10r : sR k11_10 k11_o3 k11_9 := yR rfl
@[simp, simp ↓] theorem k11_12r : sR k11_12 k11_o5 .ret := yR rfl
@[simp, simp ↓] theorem k11_13r : rS k11_13 k11_10 k11_12 := zS rfl
@[simp, simp ↓] theorem k11_14r : rS k11_14 k11_5 k11_13 := zS rfl
@[simp, simp ↓] theorem k11_15r : sR k11_15 k11_o0 k11_14 := yR rfl
noncomputable abbrev k11_C : Orc → Cx := mkC Try.prog [] 11 25 [.tmp 6]
theorem k11_of0 : OfP0 Try.prog Try.f11 11 25 k11_C k11_15 := @ofP0 _ _ _ _ _ _ _ _ Try.func11 (by decide +kernel) rfl (by kernel_rfl) rfl (by kernel_rfl)
theorem b10At_c (code : List UInt8) (i : Int) (h : Heap) (hi : 0 ≤ i ∧ i ≤ 1000) (hl : code.length ≤ 1048576) : ACalls Try.prog 11 [.snap 1 (code.map bv), .int .i64 i, .int .i64 100] h (fun v h' => ∃ r, v = .int .i64 r ∧ (0 ≤ r ∧ r < 100) ∧ h' = h) := by
  refine k11_of0 rfl noPure fun I => ?_
  obtain ⟨m, rfl⟩ : ∃ m : Nat, i = (m : Int) := ⟨i.toNat, by omega⟩
  by_cases hlt : m < code.length
  · refine Run2.of I 1000 ?_
    simp -implicitDefEqProofs [hlt, bv]
    have hb : code[m].toNat < 256 := code[m].toNat_lt
    rw [Int.tmod_eq_emod_of_nonneg (by omega)]
    omega
  · refine Run2.of I 1000 ?_
    simp -implicitDefEqProofs [hlt]
    rw [Int.tmod_eq_emod_of_nonneg (by omega)]
    omega
theorem frzX {P : Program} {g : FuncId} {args : List AV} {res : List Int} {c : Int} (H : ACalls P g args [] (fun v h' => ∃ w, v = .tup [w, .int .i64 c] ∧ OwnL iv 1 w res h')) (h : Heap) : ACalls P g args h (fun v h' => v = .tup [.snap 1 (res.map iv), .int .i64 c] ∧ h' = h) := by
  refine ACalls.post ((ACalls.gives (h := h) [] (by simp) H fun v h' ⟨w, e, o⟩ => ?_).mono ?_)
  · have := o.own own_iv1
    subst e
    exact ⟨by simp [own, owns, this.1], this.2⟩
  · rintro v h'' ⟨h', ⟨w, rfl, o⟩, _, rfl⟩
    refine Post.lend ?_
    rw [lend1_tup2, lend1_cold h' (x := .int .i64 c) rfl]
    exact .wk (.tup (.cons o.lent.wk (.cons (.refl _) .nil))) (.base ⟨rfl, rfl⟩)
noncomputable def o_long10 : List AV → Option (Prop × AV) := tab (fun (x : List UInt8) => match x with | l => [.snap 1 (l.map bv)]) (fun x => match x with | l => True) (fun x => match x with | l => .bool (decide ((1048576 : Int) < l.length)))
@[simp] theorem o_long10_e (l : List UInt8) : o_long10 [.snap 1 (l.map bv)] = some (True, .bool (decide ((1048576 : Int) < l.length))) := tab_at (enc := fun (x : List UInt8) => match x with | l => [.snap 1 (l.map bv)]) (fun x y h => by
  simp at h; simp [h] <;> omega) _ _ l
theorem o_long10_k : Knows Try.prog 4 o_long10 := tab_knows fun x hx h => by
  exact b10Long_c x h
noncomputable def o_sum10 : List AV → Option (Prop × AV) := tab (fun (x : List Int) => match x with | l => [.snap 1 (l.map iv)]) (fun x => match x with | l => vOk l) (fun x => match x with | l => .int .i64 l.sum)
@[simp] theorem o_sum10_e (l : List Int) : o_sum10 [.snap 1 (l.map iv)] = some (vOk l, .int .i64 l.sum) := tab_at (enc := fun (x : List Int) => match x with | l => [.snap 1 (l.map iv)]) (fun x y h => by
  simp at h; simp [h] <;> omega) _ _ l
theorem o_sum10_k : Knows Try.prog 7 o_sum10 := tab_knows fun x hx h => by
  exact b10Sum_c x h hx
noncomputable def o_cnt10 : List AV → Option (Prop × AV) := tab (fun (x : List Int × Int) => match x with | (l, a) => [.snap 1 (l.map iv), .int .i64 a]) (fun x => match x with | (l, a) => l.length ≤ 1048576) (fun x => match x with | (l, a) => .int .i64 (l.count a))
@[simp] theorem o_cnt10_e (l : List Int) (a : Int) : o_cnt10 [.snap 1 (l.map iv), .int .i64 a] = some (l.length ≤ 1048576, .int .i64 (l.count a)) := tab_at (enc := fun (x : List Int × Int) => match x with | (l, a) => [.snap 1 (l.map iv), .int .i64 a]) (fun x y h => by
  obtain ⟨l1, a1⟩ := x; obtain ⟨l2, a2⟩ := y; simp at h; simp [h] <;> omega) _ _ (l, a)
theorem o_cnt10_k : Knows Try.prog 8 o_cnt10 := tab_knows fun x hx h => by
  obtain ⟨l, a⟩ := x; exact b10Count_c l a h hx
noncomputable def o_exF : List AV → Option (Prop × AV) := tab (fun (x : Int × List T × LS × List Int × Int) => match x with | (n, ts, rs, v, c) => [.agg [.int .i64 n, .snap 3 (ts.map T.av)], .snap 1 (rs.map il), .snap 1 (v.map iv), .int .i64 c]) (fun x => match x with | (n, ts, rs, v, c) => (ts.length ≤ 1048576 ∧ Gr.ok ⟨n, ts⟩ ∧ ssTot rs ≤ 1048576 ∧ v.length ≤ 1048576)) (fun x => match x with | (n, ts, rs, v, c) => .tup [.snap 1 ((Gr.xL ⟨n, ts⟩ rs v c).map iv), .int .i64 (Gr.xCode ⟨n, ts⟩ rs v c)])
@[simp] theorem o_exF_e (n : Int) (ts : List T) (rs : LS) (v : List Int) (c : Int) : o_exF [.agg [.int .i64 n, .snap 3 (ts.map T.av)], .snap 1 (rs.map il), .snap 1 (v.map iv), .int .i64 c] = some ((ts.length ≤ 1048576 ∧ Gr.ok ⟨n, ts⟩ ∧ ssTot rs ≤ 1048576 ∧ v.length ≤ 1048576), .tup [.snap 1 ((Gr.xL ⟨n, ts⟩ rs v c).map iv), .int .i64 (Gr.xCode ⟨n, ts⟩ rs v c)]) := tab_at (enc := fun (x : Int × List T × LS × List Int × Int) => match x with | (n, ts, rs, v, c) => [.agg [.int .i64 n, .snap 3 (ts.map T.av)], .snap 1 (rs.map il), .snap 1 (v.map iv), .int .i64 c]) (fun x y h => by
  obtain ⟨n1, ts1, rs1, v1, c1⟩ := x; obtain ⟨n2, ts2, rs2, v2, c2⟩ := y; simp at h; simp [h] <;> omega) _ _ (n, ts, rs, v, c)
theorem o_exF_k : Knows Try.prog 6 o_exF := tab_knows fun x hx h => by
  obtain ⟨n, ts, rs, v, c⟩ := x; exact frzX (implEx_o ⟨n, ts⟩ rs v c hx.1 hx.2.1 hx.2.2.1 hx.2.2.2) h
noncomputable def o_saF : List AV → Option (Prop × AV) := tab (fun (x : Int × List T × LS × Int) => match x with | (n, ts, rs, c) => [.agg [.int .i64 n, .snap 3 (ts.map T.av)], .snap 1 (rs.map il), .int .i64 c]) (fun x => match x with | (n, ts, rs, c) => (ts.length ≤ 1048576 ∧ Gr.ok ⟨n, ts⟩ ∧ ssTot rs ≤ 1048576)) (fun x => match x with | (n, ts, rs, c) => .bool (decide (Gr.saOk ⟨n, ts⟩ rs c)))
@[simp] theorem o_saF_e (n : Int) (ts : List T) (rs : LS) (c : Int) : o_saF [.agg [.int .i64 n, .snap 3 (ts.map T.av)], .snap 1 (rs.map il), .int .i64 c] = some ((ts.length ≤ 1048576 ∧ Gr.ok ⟨n, ts⟩ ∧ ssTot rs ≤ 1048576), .bool (decide (Gr.saOk ⟨n, ts⟩ rs c))) := tab_at (enc := fun (x : Int × List T × LS × Int) => match x with | (n, ts, rs, c) => [.agg [.int .i64 n, .snap 3 (ts.map T.av)], .snap 1 (rs.map il), .int .i64 c]) (fun x y h => by
  obtain ⟨n1, ts1, rs1, c1⟩ := x; obtain ⟨n2, ts2, rs2, c2⟩ := y; simp at h; simp [h] <;> omega) _ _ (n, ts, rs, c)
theorem o_saF_k : Knows Try.prog 10 o_saF := tab_knows fun x hx h => by
  obtain ⟨n, ts, rs, c⟩ := x; exact ACalls.reads [] (by simp) (implSA_o ⟨n, ts⟩ rs c hx.1 hx.2.1 hx.2.2) rfl
noncomputable def orcSg : List (Nat × (List AV → Option (Prop × AV))) := (4, o_long10) :: (7, o_sum10) :: (8, o_cnt10) :: (6, o_exF) :: (10, o_saF) :: []
theorem orcSg_p : Pure Try.prog (lk orcSg) := (lk_pure o_long10_k (lk_pure o_sum10_k (lk_pure o_cnt10_k (lk_pure o_exF_k (lk_pure o_saF_k lk_pure0)))))
@[simp] theorem orcSg_l (b : Bool) (g : FuncId) (l : List AV) : lk orcSg b g l = if g = 4 then o_long10 l else if g = 7 then o_sum10 l else if g = 8 then o_cnt10 l else if g = 6 then o_exF l else if g = 10 then o_saF l else none := nr rfl
end Go.AG
namespace Go.AG
open Go.Proofs Go.Proofs.Ytpndpligcphonaa
set_option linter.unusedSimpArgs false
set_option linter.unusedVariables false
set_option maxRecDepth 4000
abbrev k3_o0 : List AJ := [.o ⟨(some 4), none, false, .mv (.c (.bool false)), (some [0, 1])⟩]
abbrev k3_o1 : List AJ := [.o ⟨(some 20), none, false, .mv (.t 0), none⟩, .o ⟨(some 21), none, false, .call 4 [(.t 20)], none⟩, .o ⟨(some 22), none, false, .mv (.t 21), none⟩, .o ⟨(some 23), (some (22, false)), false, .mv (.t 1), none⟩, .o ⟨(some 24), (some (22, false)), false, .call 4 [(.t 23)], none⟩, .o ⟨(some 25), none, false, .pick (.t 22) (.c (.bool true)) (.t 24), (some [0, 1, 25])⟩]
abbrev k3_o2 : List AJ := [.o ⟨(some 4), none, false, .mv (.c (.bool true)), (some [4])⟩]
def k3_3 : ACode := .seq (.region k3_o2) .ret
def k3_4 : ACode := .cond (.t 25) k3_3 .skip
def k3_5 : ACode := .seq (.region k3_o1) k3_4
abbrev k3_o3 : List AJ := [.o ⟨(some 27), none, false, .mv (.t 0), none⟩, .o ⟨(some 28), none, false, .call 5 [(.t 27)], none⟩, .o ⟨(some 26), none, false, .mv (.t 28), none⟩, .o ⟨(some 29), none, false, .extract (.t 26) 0, none⟩, .o ⟨(some 30), none, false, .extract (.t 26) 1, none⟩, .o ⟨(some 31), none, false, .extract (.t 26) 2, none⟩, .o ⟨(some 32), none, false, .extract (.t 26) 3, none⟩, .o ⟨(some 5), none, false, .alloc true 2 (.agg [(.int .i64 0), .nilsl]), none⟩, .o ⟨none, none, false, .store 2 (.t 5) (.t 29), none⟩, .o ⟨(some 6), none, false, .mv (.t 30), none⟩, .o ⟨(some 7), none, false, .mv (.t 31), none⟩, .o ⟨(some 8), none, false, .mv (.t 32), (some [0, 1, 5, 6, 7, 8])⟩]
abbrev k3_o4 : List AJ := [.o ⟨(some 34), none, false, .load 2 true (.t 5), none⟩, .o ⟨(some 35), none, false, .mv (.t 6), none⟩, .o ⟨(some 36), none, false, .mv (.t 7), none⟩, .o ⟨(some 37), none, false, .mv (.t 8), none⟩, .o ⟨(some 38), none, false, .call 6 [(.t 34), (.t 35), (.t 36), (.t 37)], none⟩, .o ⟨(some 33), none, false, .mv (.t 38), none⟩, .o ⟨(some 39), none, false, .extract (.t 33) 0, none⟩, .o ⟨(some 40), none, false, .extract (.t 33) 1, none⟩, .o ⟨(some 9), none, false, .mv (.t 39), none⟩, .o ⟨(some 10), none, false, .mv (.t 40), (some [0, 1, 7, 9, 10])⟩]
abbrev k3_o5 : List AJ := [.o ⟨(some 41), none, false, .mv (.t 10), none⟩, .o ⟨(some 42), none, false, .bin .eql (.t 41) (.c (.int .i64 0)), (some [0, 1, 7, 9, 42])⟩]
abbrev k3_o6 : List AJ := [.o ⟨(some 43), none, false, .mv (.t 9), none⟩, .o ⟨(some 44), none, false, .len (.t 43), none⟩, .o ⟨(some 45), none, false, .mv (.t 7), none⟩, .o ⟨(some 46), none, false, .len (.t 45), none⟩, .o ⟨(some 47), none, false, .bin .neq (.t 44) (.t 46), none⟩, .o ⟨(some 48), none, false, .mv (.t 47), none⟩, .o ⟨(some 49), (some (48, false)), false, .mv (.t 9), none⟩, .o ⟨(some 50), (some (48, false)), false, .call 7 [(.t 49)], none⟩, .o ⟨(some 51), (some (48, false)), false, .mv (.t 7), none⟩, .o ⟨(some 52), (some (48, false)), false, .call 7 [(.t 51)], (some [0, 1, 7, 9, 48, 50, 52])⟩, .o ⟨(some 53), (some (48, false)), false, .bin .neq (.t 50) (.t 52), none⟩, .o ⟨(some 54), none, false, .pick (.t 48) (.c (.bool true)) (.t 53), (some [0, 1, 7, 9, 54])⟩]
abbrev k3_o7 : List AJ := [.o ⟨(some 4), none, false, .mv (.c (.bool false)), (some [4])⟩]
def k3_11 : ACode := .seq (.region k3_o7) .ret
def k3_12 : ACode := .cond (.t 54) k3_11 .skip
def k3_13 : ACode := .seq (.region k3_o6) k3_12
abbrev k3_o8 : List AJ := [.o ⟨(some 11), none, false, .mv (.c (.int .i64 0)), (some [0, 1, 7, 9, 11])⟩]
abbrev k3_o9 : List AJ := [.o ⟨(some 55), none, false, .mv (.t 11), none⟩, .o ⟨(some 56), none, false, .mv (.t 7), none⟩, .o ⟨(some 57), none, false, .len (.t 56), none⟩, .o ⟨(some 58), none, false, .bin .lss (.t 55) (.t 57), (some [0, 1, 7, 9, 11, 58])⟩]
def k3_16 : ACode := .cond (.t 58) .skip (.exit 0)
def k3_17 : ACode := .seq (.region k3_o9) k3_16
abbrev k3_o10 : List AI := [⟨(some 61), none, false, .mv (.t 7), none⟩, ⟨(some 62), none, false, .mv (.t 7), none⟩, ⟨(some 63), none, false, .mv (.t 11), none⟩, ⟨(some 64), none, false, .idxA 1 (.t 62) (.t 63), none⟩, ⟨(some 65), none, false, .load 1 false (.t 64), none⟩, ⟨(some 66), none, false, .call 8 [(.t 61), (.t 65)], none⟩, ⟨(some 67), none, false, .mv (.t 9), none⟩, ⟨(some 68), none, false, .mv (.t 7), none⟩, ⟨(some 69), none, false, .mv (.t 11), none⟩, ⟨(some 70), none, false, .idxA 1 (.t 68) (.t 69), none⟩, ⟨(some 71), none, false, .load 1 false (.t 70), none⟩, ⟨(some 72), none, false, .call 8 [(.t 67), (.t 71)], none⟩, ⟨(some 73), none, false, .bin .neq (.t 66) (.t 72), (some [0, 1, 7, 9, 11, 73])⟩]
abbrev k3_o11 : List AJ := [.o ⟨(some 4), none, false, .mv (.c (.bool false)), (some [4])⟩]
def k3_20 : ACode := .seq (.region k3_o11) .ret
def k3_21 : ACode := .cond (.t 73) k3_20 .skip
def k3_22 : ACode := .seq (.draw k3_o10 [] rfl) k3_21
abbrev k3_o12 : List AJ := [.o ⟨(some 59), none, false, .mv (.t 11), none⟩, .o ⟨(some 60), none, true, .bin .add (.t 59) (.c (.int .i64 1)), none⟩, .o ⟨(some 11), none, false, .mv (.t 60), (some [0, 1, 7, 9, 11])⟩]
def k3_24 : ACode := .region k3_o12
def k3_25 : ACode := .seq (.block 1 k3_22) k3_24
def k3_26 : ACode := .seq k3_17 k3_25
def k3_27 : ACode := .loop k3_26
def k3_28 : ACode := .block 0 k3_27
def k3_29 : ACode := .seq (.region k3_o8) k3_28
def k3_30 : ACode := .seq k3_13 k3_29
def k3_31 : ACode := .cond (.t 42) k3_30 .skip
def k3_32 : ACode := .seq (.region k3_o5) k3_31
abbrev k3_o13 : List AJ := [.o ⟨(some 75), none, false, .mv (.t 1), none⟩, .o ⟨(some 76), none, false, .call 9 [(.t 75)], none⟩, .o ⟨(some 74), none, false, .mv (.t 76), none⟩, .o ⟨(some 77), none, false, .extract (.t 74) 0, none⟩, .o ⟨(some 78), none, false, .extract (.t 74) 1, none⟩, .o ⟨(some 79), none, false, .extract (.t 74) 2, none⟩, .o ⟨(some 12), none, false, .alloc true 2 (.agg [(.int .i64 0), .nilsl]), none⟩, .o ⟨none, none, false, .store 2 (.t 12) (.t 77), none⟩, .o ⟨(some 13), none, false, .mv (.t 78), none⟩, .o ⟨(some 14), none, false, .mv (.t 79), (some [0, 12, 13, 14])⟩]
abbrev k3_o14 : List AJ := [.o ⟨(some 80), none, false, .load 2 true (.t 12), none⟩, .o ⟨(some 81), none, false, .mv (.t 13), none⟩, .o ⟨(some 82), none, false, .mv (.t 14), none⟩, .o ⟨(some 83), none, false, .call 10 [(.t 80), (.t 81), (.t 82)], none⟩, .o ⟨(some 84), none, false, .un .not (.t 83), (some [0, 12, 13, 14, 84])⟩]
abbrev k3_o15 : List AJ := [.o ⟨(some 4), none, false, .mv (.c (.bool true)), (some [4])⟩]
def k3_36 : ACode := .seq (.region k3_o15) .ret
def k3_37 : ACode := .cond (.t 84) k3_36 .skip
def k3_38 : ACode := .seq (.region k3_o14) k3_37
abbrev k3_o16 : List AJ := [.o ⟨(some 85), none, false, .fieldA 0 (.t 12), none⟩, .o ⟨(some 86), none, false, .load 1 false (.t 85), none⟩, .o ⟨(some 87), none, false, .bin .lss (.t 86) (.c (.int .i64 1)), none⟩, .o ⟨(some 88), none, false, .mv (.t 87), none⟩, .o ⟨(some 89), (some (88, false)), false, .fieldA 0 (.t 12), none⟩, .o ⟨(some 90), (some (88, false)), false, .load 1 false (.t 89), none⟩, .o ⟨(some 91), (some (88, false)), false, .bin .gtr (.t 90) (.c (.int .i64 12)), none⟩, .o ⟨(some 92), none, false, .pick (.t 88) (.c (.bool true)) (.t 91), (some [0, 12, 13, 14, 92])⟩]
abbrev k3_o17 : List AJ := [.o ⟨(some 4), none, false, .mv (.c (.bool false)), (some [4])⟩]
def k3_41 : ACode := .seq (.region k3_o17) .ret
def k3_42 : ACode := .cond (.t 92) k3_41 .skip
def k3_43 : ACode := .seq (.region k3_o16) k3_42
abbrev k3_o18 : List AJ := [.e 93 1 none, .o ⟨(some 15), none, false, .mv (.t 93), (some [0, 12, 13, 14, 15])⟩]
abbrev k3_o19 : List AJ := [.o ⟨(some 16), none, false, .mv (.c (.int .i64 0)), (some [0, 12, 13, 14, 15, 16])⟩]
abbrev k3_o20 : List AJ := [.o ⟨(some 94), none, false, .mv (.t 16), none⟩, .o ⟨(some 95), none, false, .fieldA 0 (.t 12), none⟩, .o ⟨(some 96), none, false, .load 1 false (.t 95), none⟩, .o ⟨(some 97), none, false, .bin .lss (.t 94) (.t 96), (some [0, 12, 13, 14, 15, 16, 97])⟩]
def k3_47 : ACode := .cond (.t 97) .skip (.exit 2)
def k3_48 : ACode := .seq (.region k3_o20) k3_47
abbrev k3_o21 : List AJ := [.o ⟨(some 100), none, false, .mv (.t 15), none⟩, .o ⟨(some 101), none, false, .mv (.t 0), none⟩, .o ⟨(some 102), none, false, .mv (.t 16), none⟩, .o ⟨(some 103), none, false, .call 11 [(.t 101), (.t 102), (.c (.int .i64 100))], none⟩, .o ⟨(some 104), none, false, .bsl false 1 [(.t 103)], none⟩, .o ⟨(some 105), none, false, .append 1 8 (.t 100) (.t 104), none⟩, .o ⟨(some 15), none, false, .mv (.t 105), (some [0, 12, 13, 14, 15, 16])⟩]
def k3_49 : ACode := .region k3_o21
abbrev k3_o22 : List AJ := [.o ⟨(some 98), none, false, .mv (.t 16), none⟩, .o ⟨(some 99), none, true, .bin .add (.t 98) (.c (.int .i64 1)), none⟩, .o ⟨(some 16), none, false, .mv (.t 99), (some [0, 12, 13, 14, 15, 16])⟩]
def k3_51 : ACode := .region k3_o22
def k3_52 : ACode := .seq (.block 3 k3_49) k3_51
def k3_53 : ACode := .seq k3_48 k3_52
def k3_54 : ACode := .loop k3_53
def k3_55 : ACode := .block 2 k3_54
def k3_56 : ACode := .seq (.region k3_o19) k3_55
abbrev k3_o23 : List AJ := [.o ⟨(some 107), none, false, .load 2 true (.t 12), none⟩, .o ⟨(some 108), none, false, .mv (.t 13), none⟩, .o ⟨(some 109), none, false, .mv (.t 15), none⟩, .o ⟨(some 110), none, false, .mv (.t 14), none⟩, .o ⟨(some 111), none, false, .call 6 [(.t 107), (.t 108), (.t 109), (.t 110)], none⟩, .o ⟨(some 106), none, false, .mv (.t 111), none⟩, .o ⟨(some 112), none, false, .extract (.t 106) 0, none⟩, .o ⟨(some 113), none, false, .extract (.t 106) 1, none⟩, .o ⟨(some 17), none, false, .mv (.t 112), none⟩, .o ⟨(some 18), none, false, .mv (.t 113), (some [15, 17, 18])⟩]
abbrev k3_o24 : List AJ := [.o ⟨(some 114), none, false, .mv (.t 18), none⟩, .o ⟨(some 115), none, false, .bin .neq (.t 114) (.c (.int .i64 0)), none⟩, .o ⟨(some 116), none, false, .mv (.t 115), none⟩, .o ⟨(some 117), (some (116, false)), false, .mv (.t 17), none⟩, .o ⟨(some 118), (some (116, false)), false, .len (.t 117), none⟩, .o ⟨(some 119), (some (116, false)), false, .mv (.t 15), none⟩, .o ⟨(some 120), (some (116, false)), false, .len (.t 119), none⟩, .o ⟨(some 121), (some (116, false)), false, .bin .neq (.t 118) (.t 120), none⟩, .o ⟨(some 122), none, false, .pick (.t 116) (.c (.bool true)) (.t 121), (some [17, 122])⟩]
abbrev k3_o25 : List AJ := [.o ⟨(some 4), none, false, .mv (.c (.bool false)), (some [4])⟩]
def k3_60 : ACode := .seq (.region k3_o25) .ret
def k3_61 : ACode := .cond (.t 122) k3_60 .skip
def k3_62 : ACode := .seq (.region k3_o24) k3_61
abbrev k3_o26 : List AJ := [.o ⟨(some 19), none, false, .mv (.c (.int .i64 1)), (some [17, 19])⟩]
abbrev k3_o27 : List AJ := [.o ⟨(some 123), none, false, .mv (.t 19), none⟩, .o ⟨(some 124), none, false, .mv (.t 17), none⟩, .o ⟨(some 125), none, false, .len (.t 124), none⟩, .o ⟨(some 126), none, false, .bin .lss (.t 123) (.t 125), (some [17, 19, 126])⟩]
def k3_65 : ACode := .cond (.t 126) .skip (.exit 4)
def k3_66 : ACode := .seq (.region k3_o27) k3_65
abbrev k3_o28 : List AI := [⟨(some 129), none, false, .mv (.t 17), none⟩, ⟨(some 130), none, false, .mv (.t 19), none⟩, ⟨(some 131), none, true, .bin .sub (.t 130) (.c (.int .i64 1)), none⟩, ⟨(some 132), none, false, .idxA 1 (.t 129) (.t 131), none⟩, ⟨(some 133), none, false, .load 1 false (.t 132), none⟩, ⟨(some 134), none, false, .mv (.t 17), none⟩, ⟨(some 135), none, false, .mv (.t 19), none⟩, ⟨(some 136), none, false, .idxA 1 (.t 134) (.t 135), none⟩, ⟨(some 137), none, false, .load 1 false (.t 136), none⟩, ⟨(some 138), none, false, .bin .gtr (.t 133) (.t 137), (some [17, 19, 138])⟩]
abbrev k3_o29 : List AJ := [.o ⟨(some 4), none, false, .mv (.c (.bool false)), (some [4])⟩]
def k3_69 : ACode := .seq (.region k3_o29) .ret
def k3_70 : ACode := .cond (.t 138) k3_69 .skip
def k3_71 : ACode := .seq (.draw k3_o28 [] rfl) k3_70
abbrev k3_o30 : List AJ := [.o ⟨(some 127), none, false, .mv (.t 19), none⟩, .o ⟨(some 128), none, true, .bin .add (.t 127) (.c (.int .i64 1)), none⟩, .o ⟨(some 19), none, false, .mv (.t 128), (some [17, 19])⟩]
def k3_73 : ACode := .region k3_o30
def k3_74 : ACode := .seq (.block 5 k3_71) k3_73
def k3_75 : ACode := .seq k3_66 k3_74
def k3_76 : ACode := .loop k3_75
def k3_77 : ACode := .block 4 k3_76
def k3_78 : ACode := .seq (.region k3_o26) k3_77
abbrev k3_o31 : List AJ := [.o ⟨(some 4), none, false, .mv (.c (.bool true)), (some [4])⟩]
def k3_80 : ACode := .seq (.region k3_o31) .ret
def k3_81 : ACode := .seq k3_78 k3_80
def k3_82 : ACode := .seq k3_62 k3_81
def k3_83 : ACode := .seq (.region k3_o23) k3_82
def k3_84 : ACode := .seq k3_56 k3_83
def k3_85 : ACode := .seq (.region k3_o18) k3_84
def k3_86 : ACode := .seq k3_43 k3_85
def k3_87 : ACode := .seq k3_38 k3_86
def k3_88 : ACode := .seq (.region k3_o13) k3_87
def k3_89 : ACode := .seq k3_32 k3_88
def k3_90 : ACode := .seq (.region k3_o4) k3_89
def k3_91 : ACode := .seq (.region k3_o3) k3_90
def k3_92 : ACode := .seq k3_5 k3_91
def k3_93 : ACode := .seq (.region k3_o0) k3_92
@[simp, simp ↓] theorem k3_3r : sR k3_3 k3_o2 .ret := yR rfl
@[simp, simp ↓] theorem k3_4r : rC k3_4 (.t 25) k3_3 .skip := zC rfl
@[simp, simp ↓] theorem k3_5r : sR k3_5 k3_o1 k3_4 := yR rfl
@[simp, simp ↓] theorem k3_11r : sR k3_11 k3_o7 .ret := yR rfl
@[simp, simp ↓] theorem k3_12r : rC k3_12 (.t 54) k3_11 .skip := zC rfl
@[simp, simp ↓] theorem k3_13r : sR k3_13 k3_o6 k3_12 := yR rfl
@[simp, simp ↓] theorem k3_16r : rC k3_16 (.t 58) .skip (.exit 0) := zC rfl
@[simp, simp ↓] theorem k3_17r : sR k3_17 k3_o9 k3_16 := yR rfl
@[simp, simp ↓] theorem k3_20r : sR k3_20 k3_o11 .ret := yR rfl
@[simp, simp ↓] theorem k3_21r : rC k3_21 (.t 73) k3_20 .skip := zC rfl
@[simp, simp ↓] theorem k3_22r : sD k3_22 k3_o10 [] k3_21 := yD rfl
@[simp, simp ↓] theorem k3_24r : rR k3_24 k3_o12 := zR rfl
@[simp, simp ↓] theorem k3_25r : sB k3_25 1 k3_22 k3_24 := yB rfl
@[simp, simp ↓] theorem k3_26r : rS k3_26 k3_17 k3_25 := zS rfl
@[simp, simp ↓] theorem k3_27r : rL k3_27 k3_26 := zL rfl
@[simp, simp ↓] theorem k3_28r : rB k3_28 0 k3_27 := zB rfl
@[simp, simp ↓] theorem k3_29r : sR k3_29 k3_o8 k3_28 := yR rfl
@[simp, simp ↓] theorem k3_30r : rS k3_30 k3_13 k3_29 := zS rfl
@[simp, simp ↓] theorem k3_31r : rC k3_31 (.t 42) k3_30 .skip := zC rfl
@[simp, simp ↓] theorem k3_32r : sR k3_32 k3_o5 k3_31 := yR rfl
@[simp, simp ↓] theorem k3_36r : sR k3_36 k3_o15 .ret := yR rfl
@[simp, simp ↓] theorem k3_37r : rC k3_37 (.t 84) k3_36 .skip := zC rfl
@[simp, simp ↓] theorem k3_38r : sR k3_38 k3_o14 k3_37 := yR rfl
@[simp, simp ↓] theorem k3_41r : sR k3_41 k3_o17 .ret := yR rfl
@[simp, simp ↓] theorem k3_42r : rC k3_42 (.t 92) k3_41 .skip := zC rfl
@[simp, simp ↓] theorem k3_43r : sR k3_43 k3_o16 k3_42 := yR rfl
@[simp, simp ↓] theorem k3_47r : rC k3_47 (.t 97) .skip (.exit 2) := zC rfl
@[simp, simp ↓] theorem k3_48r : sR k3_48 k3_o20 k3_47 := yR rfl
@[simp, simp ↓] theorem k3_49r : rR k3_49 k3_o21 := zR rfl
@[simp, simp ↓] theorem k3_51r : rR k3_51 k3_o22 := zR rfl
@[simp, simp ↓] theorem k3_52r : sB k3_52 3 k3_49 k3_51 := yB rfl
@[simp, simp ↓] theorem k3_53r : rS k3_53 k3_48 k3_52 := zS rfl
@[simp, simp ↓] theorem k3_54r : rL k3_54 k3_53 := zL rfl
@[simp, simp ↓] theorem k3_55r : rB k3_55 2 k3_54 := zB rfl
@[simp, simp ↓] theorem k3_56r : sR k3_56 k3_o19 k3_55 := yR rfl
@[simp, simp ↓] theorem k3_60r : sR k3_60 k3_o25 .ret := yR rfl
@[simp, simp ↓] theorem k3_61r : rC k3_61 (.t 122) k3_60 .skip := zC rfl
@[simp, simp ↓] theorem k3_62r : sR k3_62 k3_o24 k3_61 := yR rfl
@[simp, simp ↓] theorem k3_65r : rC k3_65 (.t 126) .skip (.exit 4) := zC rfl
@[simp, simp ↓] theorem k3_66r : sR k3_66 k3_o27 k3_65 := yR rfl
@[simp, simp ↓] theorem k3_69r : sR k3_69 k3_o29 .ret := yR rfl
@[simp, simp ↓] theorem k3_70r : rC k3_70 (.t 138) k3_69 .skip := zC rfl
@[simp, simp ↓] theorem k3_71r : sD k3_71 k3_o28 [] k3_70 := yD rfl
@[simp, simp ↓] theorem k3_73r : rR k3_73 k3_o30 := zR rfl
@[simp, simp ↓] theorem k3_74r : sB k3_74 5 k3_71 k3_73 := yB rfl
@[simp, simp ↓] theorem k3_75r : rS k3_75 k3_66 k3_74 := zS rfl
@[simp, simp ↓] theorem k3_76r : rL k3_76 k3_75 := zL rfl
@[simp, simp ↓] theorem k3_77r : rB k3_77 4 k3_76 := zB rfl
@[simp, simp ↓] theorem k3_78r : sR k3_78 k3_o26 k3_77 := yR rfl
@[simp, simp ↓] theorem k3_80r : sR k3_80 k3_o31 .ret := yR rfl
@[simp, simp ↓] theorem k3_81r : rS k3_81 k3_78 k3_80 := zS rfl
@[simp, simp ↓] theorem k3_82r : rS k3_82 k3_62 k3_81 := zS rfl
@[simp, simp ↓] theorem k3_83r : sR k3_83 k3_o23 k3_82 := yR rfl
@[simp, simp ↓] theorem k3_84r : rS k3_84 k3_56 k3_83 := zS rfl
@[simp, simp ↓] theorem k3_85r : sR k3_85 k3_o18 k3_84 := yR rfl
@[simp, simp ↓] theorem k3_86r : rS k3_86 k3_43 k3_85 := zS rfl
@[simp, simp ↓] theorem k3_87r : rS k3_87 k3_38 k3_86 := zS rfl
@[simp, simp ↓] theorem k3_88r : sR k3_88 k3_o13 k3_87 := yR rfl
@[simp, simp ↓] theorem k3_89r : rS k3_89 k3_32 k3_88 := zS rfl
@[simp, simp ↓] theorem k3_90r : sR k3_90 k3_o4 k3_89 := yR rfl
@[simp, simp ↓] theorem k3_91r : sR k3_91 k3_o3 k3_90 := yR rfl
@[simp, simp ↓] theorem k3_92r : rS k3_92 k3_5 k3_91 := zS rfl
@[simp, simp ↓] theorem k3_93r : sR k3_93 k3_o0 k3_92 := yR rfl
noncomputable abbrev k3_C : Orc → Cx := mkC Try.prog [5, 12, 93] 3 139 [.tmp 4]
theorem k3_of : OfP Try.prog Try.f3 3 139 k3_C k3_93 := @ofP _ _ _ _ _ _ _ _ Try.func3 (by decide +kernel) rfl (by kernel_rfl) rfl (by kernel_rfl)
theorem sorting_law (code : List UInt8) (hc : wfY code) (more : List UInt8) (hm : wfY more) : ACalls Try.prog 3 [.snap 1 (code.map bv), .snap 1 (more.map bv)] [] (fun v h' => v = .bool true ∧ h' = []) := by
  refine k3_of rfl orcSg_p fun I => ?_
  refine Run2.of I 1000 ?_
  simp -implicitDefEqProofs
  by_cases hcode : code.length ≤ 1048576
  case neg =>
    exact ⟨fun h => absurd (by omega) hcode, fun _ => .base ⟨rfl, rfl⟩⟩
  by_cases hmore : more.length ≤ 1048576
  case neg =>
    exact ⟨fun _ => ⟨fun _ => .base ⟨rfl, rfl⟩, fun h => absurd (by omega) hmore⟩, fun _ => .base ⟨rfl, rfl⟩⟩
  have main : ∀ (y : Gr) (rs : List (List Int)) (c : Int), grOk y → ssTot rs ≤ 1000 → y.saOk rs c → ∀ (id12 id5 : Nat) (B : Blk), ¬ id12 = id5 → Run2 (k3_C (lk orcSg)) [.code k3_53, .inLoop k3_53, .inBlock 2, .code k3_83]
        [(0, .snap 1 (code.map bv)), (12, .ptr id12 2 0 0), (13, .snap 1 (rs.map il)), (14, .int .i64 c), (15, .emp), (16, .int .i64 0)]
        [(id12, ⟨2, [.agg [.int .i64 y.n, .snap 3 (y.ts.map T.av)]]⟩), (id5, B)] (Post fun v h' => v = .bool true ∧ h' = []) := by
    intro y rs c hgr hss hsa id12 id5 B d1
    have d1' : ¬ id5 = id12 := fun e => d1 e.symm
    have hy := hsa.1.1.1
    have hn1 := hy.1
    have hn2 := hy.2.1
    refine Run2.loopE (α := Nat × List Int × AV × Heap) (fun s => [(0, .snap 1 (code.map bv)), (12, .ptr id12 2 0 0), (13, .snap 1 (rs.map il)), (14, .int .i64 c), (15, s.2.2.1), (16, .int .i64 (s.1 : Nat))]) (fun s => s.2.2.2 ++ [(id12, ⟨2, [.agg [.int .i64 y.n, .snap 3 (y.ts.map T.av)]]⟩), (id5, B)]) (fun s => y.n.toNat - s.1)
      (fun s => s.1 ≤ y.n.toNat ∧ (∀ a ∈ s.2.1, 0 ≤ a ∧ a < 100) ∧ s.2.1.length = s.1 ∧ Grow 1 s.2.2.1 (s.2.1.map iv) s.2.2.2) (0, [], .emp, []) (by simp) (by simp) ⟨Nat.zero_le _, by simp, rfl, .emp⟩ ?_
    rintro ⟨i, l, w, hp⟩ ⟨hi, hlb, hll, hg⟩ ih
    replace hi : i ≤ y.n.toNat := hi
    simp only at hlb hll hg ih ⊢
    refine Run2.nd fun nd => ?_
    simp only [dom_append, dom_cons, List.nodup_append, List.nodup_cons, List.mem_cons, not_or] at nd
    have g12 : id12 ∉ dom hp := fun h => nd.2.2 id12 h id12 (.inl rfl) rfl
    have g5 : id5 ∉ dom hp := fun h => nd.2.2 id5 h id5 (.inr (.inl rfl)) rfl
    have hcell := hg.cell
    have hlen := hg.len
    by_cases hlt : (i : Int) < y.n
    · have go := fun l' w' g' q1 q2 q3 => ih (i + 1, l', w', g') ⟨by simp only; omega, q1, q2, q3⟩ (by simp only; omega)
      clear ih
      simp only at go
      refine Run2.of I 1000 ?_
      simp -implicitDefEqProofs [hlt, d1, d1', hget_app g12, hget_app g5, hcell]
      refine (b10At_c code i _ (by omega) (by omega)).mono ?_
      rintro r h' ⟨r, rfl, hr, rfl⟩
      refine gK.go ?_
      simp -implicitDefEqProofs [hcell]
      refine hg.app_mid (pre := []) (by simp [dom]) (by simp; omega) (by simp) fun w2 g2 hg2 hd2 => ?_
      have hc2 := hg2.cell
      have go3 := go (l ++ [r]) w2 g2 (fun a ha => by
        rcases List.mem_append.1 ha with ha | ha
        · exact hlb a ha
        · rw [List.mem_singleton.1 ha]; exact hr) (by simp; omega) (by simpa using hg2)
      simp -implicitDefEqProofs [hc2, cells_of hc2, stor_of hc2]
      exact ⟨by omega, by simpa using go3⟩
    · have hin : (l.length : Int) = y.n := by omega
      obtain ⟨idw, rfl, rfl⟩ := hg.ne (by intro e; have e2 : l = [] := (by simpa using e); subst e2; simp at hin; omega)
      clear ih hcell hlen hg
      simp only [dom, List.map_cons, List.map_nil, List.mem_singleton] at g12 g5
      have g12' : ¬ idw = id12 := fun e => g12 e.symm
      have g5' : ¬ idw = id5 := fun e => g5 e.symm
      refine Run2.freezeS (b := ⟨1, l.map iv⟩) (h' := [(id12, ⟨2, [.agg [.int .i64 y.n, .snap 3 (y.ts.map T.av)]]⟩), (id5, B)]) (e' := [(0, .snap 1 (code.map bv)), (12, .ptr id12 2 0 0), (13, .snap 1 (rs.map il)), (14, .int .i64 c), (15, .snap 1 (l.map iv)), (16, .int .i64 i)]) idw (by simp [hget]) (by simp [hdel, dom]) (fun p hp => .inl (by simpa [hdel] using hp)) (fun t => ?_) ?_
      · by_cases ht : t = 15
        · subst ht
          right
          simp [eget, fz]
          exact (List.take_of_length_le (by simp)).symm
        · left
          simp [eget, ht, Ne.symm ht]
      · have hgv : y.vecG l := ⟨hin, fun a ha => by have := hlb a ha; omega⟩
        have hs0 : y.sCode rs = 0 := by simp [Gr.sCode, hy, hsa.1.1.2]
        have hx0 : y.xCode rs l c = 0 := by simp [Gr.xCode, hs0, hgv, hsa.1.2]
        have hxl : y.xL rs l c = runT y exch rs l c.toNat := by simp [Gr.xL, hx0]
        have hsort := saOk_sorts hsa l hin
        have hpl := (runT_perm (t := c.toNat) hy hsa.1.1.2 hin).length_eq
        rw [← hxl] at hsort hpl
        generalize hU : y.xL rs l c = u at *
        have hU' : Gr.xL ⟨y.n, y.ts⟩ rs l c = u := hU
        have hx0' : Gr.xCode ⟨y.n, y.ts⟩ rs l c = 0 := hx0
        refine Run2.of I 1000 ?_
        simp -implicitDefEqProofs [hlt, d1, d1', hU', hx0', hpl]
        obtain ⟨hyo, hyl⟩ := hgr.ok
        refine ⟨⟨by omega, hyo, by omega, by omega⟩, ?_⟩
        refine Run2.loopE (fun i => [(17, .snap 1 (u.map iv)), (19, .int .i64 (i : Nat))]) (fun _ => [(id12, ⟨2, [.agg [.int .i64 y.n, .snap 3 (y.ts.map T.av)]]⟩), (id5, B)]) (fun i => u.length - i) (fun i => 1 ≤ i ∧ i ≤ u.length) 1 (by simp) rfl ⟨Nat.le_refl _, by omega⟩ fun i hi ih => ?_
        replace hi : 1 ≤ i ∧ i ≤ u.length := hi
        obtain ⟨j, rfl⟩ : ∃ j, i = j + 1 := ⟨i - 1, by omega⟩
        by_cases hlt : j + 1 < u.length
        · have hs := hsort j hlt
          have go := ih (j + 1 + 1) (by show _ ∧ _; omega) (by omega)
          clear ih
          have hlt' : j < u.length := by omega
          refine Run2.of I 1000 ?_
          simp -implicitDefEqProofs [hlt, hlt', hs]
          refine ⟨fun _ => ⟨by omega, by omega, fun h => absurd hs (by omega), by omega, by simpa using go⟩, fun h => by omega⟩
        · obtain hju : j + 1 = u.length := by omega
          clear ih
          refine Run2.of I 1000 ?_
          simp -implicitDefEqProofs [hju]
          exact .drop id12 (.drop id5 (.base ⟨rfl, by simp [hdel, d1, d1']⟩))
  have rest : ∀ (N : Nat) (E : Env), ((N = 987 ∧ ∃ (v u : List Int) (a : Int) (b : Bool), E = [(75, .snap 1 (more.map bv)), (0, .snap 1 (code.map bv)), (1, .snap 1 (more.map bv)), (7, .snap 1 (v.map iv)), (9, .snap 1 (u.map iv)), (11, .int .i64 a), (58, .bool b)]) ∨ (N = 949 ∧ ∃ (v u : List Int) (b : Bool), E = [(75, .snap 1 (more.map bv)), (0, .snap 1 (code.map bv)), (1, .snap 1 (more.map bv)), (7, .snap 1 (v.map iv)), (9, .snap 1 (u.map iv)), (42, .bool b)])) → ∀ (id5 : Nat) (B : Blk), ACalls Try.prog 9 [.snap 1 (more.map bv)] [(id5, B)]
      (gK (k3_C (lk orcSg)) N (some 76) none
        [.o { d := some 74, g := none, w := false, op := .mv (.t 76), ks := none },
          .o { d := some 77, g := none, w := false, op := .extract (.t 74) 0, ks := none },
          .o { d := some 78, g := none, w := false, op := .extract (.t 74) 1, ks := none },
          .o { d := some 79, g := none, w := false, op := .extract (.t 74) 2, ks := none },
          .o { d := some 12, g := none, w := false, op := .alloc true 2 (.agg [.int .i64 0, .nilsl]), ks := none },
          .o { d := none, g := none, w := false, op := .store 2 (.t 12) (.t 77), ks := none },
          .o { d := some 13, g := none, w := false, op := .mv (.t 78), ks := none },
          .o { d := some 14, g := none, w := false, op := .mv (.t 79), ks := some [0, 12, 13, 14] }]
        [.code k3_87] (Post fun v h' => v = .bool true ∧ h' = []) E) := by
    intro N E hNE id5 B
    refine (DrawSA_m more _ hmore).mono ?_
    rintro r h' ⟨y, rs, c, rfl, hy, hss, hcc, rfl⟩
    obtain ⟨hyo, hyl⟩ := hy.ok
    by_cases hsa : y.saOk rs c
    · have hsa' : Gr.saOk ⟨y.n, y.ts⟩ rs c := hsa
      have hn1 := hsa.1.1.1.1
      have hn2 := hsa.1.1.1.2.1
      rcases hNE with ⟨rfl, v, u, a, b, rfl⟩ | ⟨rfl, v, u, b, rfl⟩
      all_goals
        refine gK.go ?_
        simp -implicitDefEqProofs
        intro id12 d1
        have d1' : ¬ id5 = id12 := fun e => d1 e.symm
        refine gK.go ?_
        simp -implicitDefEqProofs [d1, d1', show y.ts.length ≤ 1048576 by omega, show Gr.ok ⟨y.n, y.ts⟩ from hyo, show ssTot rs ≤ 1048576 by omega, hsa, hsa', hn1, hn2]
        refine ⟨⟨fun h => by omega, main _ _ _ hy hss hsa _ _ _ d1⟩, fun h => by omega⟩
    · have hsa' : ¬ Gr.saOk ⟨y.n, y.ts⟩ rs c := hsa
      rcases hNE with ⟨rfl, v, u, a, b, rfl⟩ | ⟨rfl, v, u, b, rfl⟩
      all_goals
        refine gK.go ?_
        simp -implicitDefEqProofs
        intro id12 d1
        have d1' : ¬ id5 = id12 := fun e => d1 e.symm
        refine gK.go ?_
        simp -implicitDefEqProofs [d1, d1', show y.ts.length ≤ 1048576 by omega, show Gr.ok ⟨y.n, y.ts⟩ from hyo, show ssTot rs ≤ 1048576 by omega, hsa, hsa']
        exact .drop id12 (.drop id5 (.base ⟨rfl, by simp [hdel, d1, d1']⟩))
  refine ⟨fun h1 => ⟨fun _ => .base ⟨rfl, rfl⟩, fun h2 => ?_⟩, fun _ => .base ⟨rfl, rfl⟩⟩
  refine (DrawEx_m code [] (by omega)).mono ?_
  rintro r h' ⟨x, rs, v, c, rfl, hx, hss, hv, hcc, rfl⟩
  obtain ⟨hxo, hxl⟩ := hx.ok
  have hvl := hv.1
  refine gK.go ?_
  simp -implicitDefEqProofs
  intro id5
  refine ⟨⟨by omega, hxo, by omega, by omega⟩, fun h0 => ?_, fun h0 => ?_⟩
  · obtain ⟨⟨k1, k2⟩, k3, k4⟩ := Gr.xCode_ok h0
    have hp : (x.xL rs v c).Perm v := by
      unfold Gr.xL
      rw [if_pos h0]
      exact runT_perm k1 k2 k3.1
    generalize x.xL rs v c = u at *
    have hu : vOk u := ⟨by rw [hp.length_eq]; exact hv.1, fun a ha => hv.2 a (hp.mem_iff.1 ha)⟩
    refine ⟨fun _ => ⟨hu, hv, fun h => absurd (perm_sum hp) h, fun _ => ?_⟩, fun h => absurd (by rw [hp.length_eq]) h⟩
    refine Run2.loopE (fun i => [(0, .snap 1 (code.map bv)), (1, .snap 1 (more.map bv)), (7, .snap 1 (v.map iv)), (9, .snap 1 (u.map iv)), (11, .int .i64 (i : Nat))]) (fun i => [(id5, ⟨2, [.agg [.int .i64 x.n, .snap 3 (x.ts.map T.av)]]⟩)]) (fun i => v.length - i) (fun i => i ≤ v.length) 0 (by simp) rfl (by simp) fun i hi ih => ?_
    replace hi : i ≤ v.length := hi
    by_cases hlt : i < v.length
    · have hcnt : v.count v[i] = u.count v[i] := (hp.count_eq _).symm
      have go := ih (i + 1) (by show _ ≤ _; omega) (by omega)
      clear ih
      have hul := hu.1
      refine Run2.of I 1000 ?_
      simp -implicitDefEqProofs [hlt, hcnt, show v.length ≤ 1048576 by omega, show u.length ≤ 1048576 by omega]
      exact ⟨by omega, by simpa using go⟩
    · obtain rfl : i = v.length := by omega
      clear ih
      refine Run2.of I 1000 ?_
      simp -implicitDefEqProofs
      exact rest _ _ (.inl ⟨rfl, _, _, _, _, rfl⟩) id5 _
  · exact rest _ _ (.inr ⟨rfl, _, _, _, rfl⟩) id5 _
end Go.AG
namespace Go.Proofs.Ytpndpligcphonaa
open Go.ChangeShapes Go.WideShapes Go.ChangeAt Go.RowKit Go.AG
theorem own : ownKnob Try.prog.godebug = none := by kernel_rfl
theorem laidOut : laidOutB Try.prog = true := by kernel_rfl
set_option maxRecDepth 100000 in
theorem fnSorting_lifted (os : Os) (started : os.Started) (H : Type) (enc : TypeId × Value → H) :
    ReturnsInHanded {} Try.checked os 3 .any (Rows.fnSortingSpec.pre6 enc Try.prog Try.f3 Rows.fnSortingRow.domain false) (Rows.fnSortingSpec.post enc Try.prog Try.f3 false true false false) := by
  refine returnsInHanded_of_change (C := Try.checked) own started (by kernel_rfl) Try.func3
    (ChangeSpec.witness6 (enc := enc) (C := Try.checked) false ⟨#[], #[.slice none 0 0, .slice none 0 0], []⟩ 8 (by kernel_rfl) (by kernel_rfl) (by kernel_rfl) (by kernel_rfl)) ?_
  intro W base args ds gs before hval0 hW _ _
  have hval : ∀ (j : Nat) t v, Try.f3.params[j]? = some t → args[j]? = some v → Value.okWide Try.prog W .any base t v := hval0
  refine law_post (tys := [(.slice (.int .u8)), (.slice (.int .u8))]) (tb := 4) laidOut rfl (by kernel_rfl) (by kernel_rfl) (by kernel_rfl) (by kernel_rfl) hval hW ?_ ?_ ⟨fun p hp => by simp [laidV] at hp, fun p hp => by simp [laidS] at hp⟩
  · intro ds h
    match ds, h with
    | [a0, a1], _ => rfl
  · rintro xs ⟨x0, r0, rfl, h0, x1, r1, rfl, h1, hr⟩
    have hr0 : r1 = [] := hr
    subst hr0
    obtain ⟨p0, rfl, q0⟩ := Bytes_of_shape h0
    obtain ⟨p1, rfl, q1⟩ := Bytes_of_shape h1
    exact sorting_law p0 q0 p1 q1
theorem fnSorting_holds : Rows.FnSortingSaid :=
  OpenClaim.holds_of_wide 3 Try.f3 rfl rfl rfl rfl rfl rfl rfl ⟨rfl, rfl, rfl, rfl, rfl⟩ rfl rfl rfl rfl rfl (by kernel_rfl) Try.func3 (by kernel_rfl)
    (of_decide_eq_true (by kernel_rfl)) (by unfold Func.isWrapper; first | (rw [if_pos (by decide +kernel)]; kernel_rfl) | (rw [if_neg (by decide +kernel)]; exact ⟨rfl, rfl⟩))
    (fun os started H enc _ => fnSorting_lifted os started H enc)
end Go.Proofs.Ytpndpligcphonaa
