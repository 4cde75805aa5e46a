/- Rounds: what the small functions of the program and of the reference give. No statement is made here. -/
import Derived.Test.YtebkdegjiollbaaGrVal
import Derived.Test.YtebkdegjiollbaaISS
namespace Go.AG
open Go.Proofs Go.Proofs.Ytebkdegjiollbaa
set_option linter.unusedSimpArgs false
set_option linter.unusedVariables false
set_option maxRecDepth 4000
def T.meet (a b : T) : Prop := a.f = b.f ∨ a.f = b.t ∨ a.t = b.f ∨ a.t = b.t
instance (a b : T) : Decidable (a.meet b) := by unfold T.meet; infer_instance
theorem T.meet_comm (a b : T) : a.meet b ↔ b.meet a := by unfold T.meet; omega
/-- The edge with a number. -/
def Gr.e (x : Gr) (k : Int) : T := x.ts.getD k.toNat ⟨0, 0, 0⟩
def Gr.inR (x : Gr) (k : Int) : Prop := 0 ≤ k ∧ k < x.ts.length
instance (x : Gr) (k : Int) : Decidable (x.inR k) := by unfold Gr.inR; infer_instance
theorem Gr.e_at {x : Gr} {k : Int} (h : x.inR k) : ∃ hk : k.toNat < x.ts.length, x.e k = x.ts[k.toNat] := by
  have hk : k.toNat < x.ts.length := by unfold Gr.inR at h; omega
  exact ⟨hk, by simp [Gr.e, hk]⟩
def Gr.free (x : Gr) (r : List Int) (k : Int) : Prop := ∀ a ∈ r, ¬ (x.e a).meet (x.e k)
instance (x : Gr) (r : List Int) (k : Int) : Decidable (x.free r k) := by unfold Gr.free; infer_instance
def allIn (l : List Int) (p : Int) : Prop := ∀ a ∈ l, 0 ≤ a ∧ a < p
noncomputable instance (l : List Int) (p : Int) : Decidable (allIn l p) := Classical.propDecidable _
def btw (l : List Int) (a b : Int) : Prop := ∀ k ∈ l, a ≤ k ∧ k ≤ b
def Gr.allR (x : Gr) (r : List Int) : Prop := ∀ a ∈ r, x.inR a
def rising (r : List Int) : Prop := ∀ j (h : j + 1 < r.length), r[j] < r[j + 1]
noncomputable instance (l : List Int) (a b : Int) : Decidable (btw l a b ∧ rising l) := Classical.propDecidable _
noncomputable instance (r : List Int) : Decidable (rising r) := Classical.propDecidable _
theorem rising_to {r : List Int} (i : Nat) (h : ∀ j (h : j + 1 < r.length), j + 1 < i → r[j] < r[j + 1]) (hi : r.length ≤ i) : rising r := fun j hj => h j hj (by omega)
abbrev k159_o0 : List AJ := [.o ⟨(some 4), none, false, .mv (.c (.int .i64 0)), (some [0, 1])⟩]
abbrev k159_o1 : List AJ := [.o ⟨(some 6), none, false, .mv (.t 0), none⟩, .o ⟨(some 7), none, false, .len (.t 6), none⟩, .o ⟨(some 8), none, false, .mv (.c (.int .i64 0)), (some [0, 1, 7, 8])⟩]
abbrev k159_o2 : List AJ := [.o ⟨(some 9), none, false, .bin .lss (.t 8) (.t 7), (some [0, 1, 7, 8, 9])⟩]
abbrev k159_o3 : List AJ := [.o ⟨(some 10), none, false, .mv (.t 8), none⟩, .o ⟨(some 5), none, false, .mv (.t 10), (some [0, 1, 5, 7, 8])⟩]
abbrev k159_o4 : List AJ := [.o ⟨(some 11), none, false, .mv (.t 1), none⟩, .o ⟨(some 12), none, false, .mv (.t 0), none⟩, .o ⟨(some 13), none, false, .mv (.t 5), none⟩, .o ⟨(some 14), none, false, .idxA 1 (.t 12) (.t 13), none⟩, .o ⟨(some 15), none, false, .load 1 false (.t 14), none⟩, .o ⟨(some 16), none, false, .callv (.t 11) [(.t 15)], (some [0, 1, 5, 7, 8, 16])⟩]
abbrev k159_o5 : List AJ := [.o ⟨(some 17), none, false, .mv (.t 5), none⟩, .o ⟨(some 4), none, false, .mv (.t 17), (some [4])⟩]
def k159_7 : ACode := .seq (.region k159_o5) .ret
def k159_8 : ACode := .cond (.t 16) k159_7 .skip
def k159_9 : ACode := .seq (.region k159_o4) k159_8
def k159_10 : ACode := .seq (.region k159_o3) k159_9
abbrev k159_o6 : List AJ := [.o ⟨(some 18), none, true, .bin .add (.t 8) (.c (.int .i64 1)), none⟩, .o ⟨(some 8), none, false, .mv (.t 18), (some [0, 1, 7, 8])⟩]
def k159_12 : ACode := .region k159_o6
def k159_13 : ACode := .seq (.block 1 k159_10) k159_12
def k159_14 : ACode := .seq (.cond (.t 9) .skip (.exit 0)) k159_13
def k159_15 : ACode := .seq (.region k159_o2) k159_14
def k159_16 : ACode := .loop k159_15
def k159_17 : ACode := .block 0 k159_16
def k159_18 : ACode := .seq (.region k159_o1) k159_17
abbrev k159_o7 : List AJ := [.o ⟨(some 4), none, false, .mv (.c (.int .i64 (-1))), (some [4])⟩]
def k159_20 : ACode := .seq (.region k159_o7) .ret
def k159_21 : ACode := .seq k159_18 k159_20
def k159_22 : ACode := .seq (.region k159_o0) k159_21
@[simp, simp ↓] theorem k159_7r : sR k159_7 k159_o5 .ret := yR rfl
@[simp, simp ↓] theorem k159_8r : rC k159_8 (.t 16) k159_7 .skip := zC rfl
@[simp, simp ↓] theorem k159_9r : sR k159_9 k159_o4 k159_8 := yR rfl
@[simp, simp ↓] theorem k159_10r : sR k159_10 k159_o3 k159_9 := yR rfl
@[simp, simp ↓] theorem k159_12r : rR k159_12 k159_o6 := zR rfl
@[simp, simp ↓] theorem k159_13r : sB k159_13 1 k159_10 k159_12 := yB rfl
@[simp, simp ↓] theorem k159_14r : sC k159_14 (.t 9) .skip (.exit 0) k159_13 := yC rfl
@[simp, simp ↓] theorem k159_15r : sR k159_15 k159_o2 k159_14 := yR rfl
@[simp, simp ↓] theorem k159_16r : rL k159_16 k159_15 := zL rfl
@[simp, simp ↓] theorem k159_17r : rB k159_17 0 k159_16 := zB rfl
@[simp, simp ↓] theorem k159_18r : sR k159_18 k159_o1 k159_17 := yR rfl
@[simp, simp ↓] theorem k159_20r : sR k159_20 k159_o7 .ret := yR rfl
@[simp, simp ↓] theorem k159_21r : rS k159_21 k159_18 k159_20 := zS rfl
@[simp, simp ↓] theorem k159_22r : sR k159_22 k159_o0 k159_21 := yR rfl
noncomputable abbrev k159_C : Orc → Cx := mkC Try.prog [] 159 19 [.tmp 4]
theorem k159_of0 : OfP0 Try.prog Try.f159 159 19 k159_C k159_22 := @ofP0 _ _ _ _ _ _ _ _ Try.func159 (by decide +kernel) rfl (by kernel_rfl) rfl (by kernel_rfl)
/-- The first place where q holds. -/
def idxf (q : Int → Bool) (l : List Int) : Int := match l.findIdx? q with
  | some i => i
  | none => -1
theorem idxf_at {q : Int → Bool} {l : List Int} {i : Nat} (h : i < l.length) (hb : ∀ j (hj : j < l.length), j < i → q l[j] = false) (ht : q l[i] = true) : idxf q l = i := by
  have : l.findIdx? q = some i := List.findIdx?_eq_some_iff_getElem.2 ⟨h, ht, fun j hj => by simp [hb j (by omega) hj]⟩
  unfold idxf; rw [this]
theorem idxf_none {q : Int → Bool} {l : List Int} (hb : ∀ j (hj : j < l.length), q l[j] = false) : idxf q l = -1 := by
  have : l.findIdx? q = none := List.findIdx?_eq_none_iff.2 fun a ha => by
    obtain ⟨j, hj, rfl⟩ := List.mem_iff_getElem.1 ha
    simp [hb j hj]
  unfold idxf; rw [this]
theorem idxf_ge (q : Int → Bool) (l : List Int) : (0 ≤ idxf q l) ↔ ∃ a ∈ l, q a = true := by
  unfold idxf
  cases h : l.findIdx? q with
  | none =>
    rw [List.findIdx?_eq_none_iff] at h
    simp only [show ¬ (0 : Int) ≤ -1 by omega, false_iff]
    rintro ⟨a, ha, hq⟩
    have := h a ha
    rw [hq] at this; cases this
  | some i =>
    obtain ⟨hi, hq, _⟩ := List.findIdx?_eq_some_iff_getElem.1 h
    simp only [Int.natCast_nonneg, true_iff]
    exact ⟨_, List.getElem_mem hi, hq⟩
theorem IndexFunc_s (l : List Int) (g : FuncId) (caps : List AV) (q : Int → Bool) (h : Heap) (hl : l.length ≤ 1048576) (hq : ∀ a ∈ l, ACalls Try.prog g (.int .i64 a :: caps) h (fun v h' => v = .bool (q a) ∧ h' = h)) :
    ACalls Try.prog 159 [.snap 1 (l.map iv), .fn g caps] h (fun v h' => v = .int .i64 (idxf q l) ∧ h' = h) := by
  refine k159_of0 rfl noPure fun I => ?_
  refine Run2.of I 1000 ?_
  simp -implicitDefEqProofs
  refine Run2.loopE (fun i => [(0, .snap 1 (l.map iv)), (1, .fn g caps), (7, .int .i64 l.length), (8, .int .i64 (i : Nat))]) (fun i => h) (fun i => l.length - i) (fun i => i ≤ l.length ∧ ∀ j (hj : j < l.length), j < i → q l[j] = false) 0 (by simp) rfl ⟨Nat.zero_le _, fun _ _ h => absurd h (Nat.not_lt_zero _)⟩ fun i hi ih => ?_
  by_cases hlt : i < l.length
  · have go := fun (h1 : q l[i] = false) => ih (i + 1) ⟨by omega, fun j hj hji => by
      rcases Nat.lt_or_ge j i with h | h
      · exact hi.2 j hj h
      · obtain rfl : j = i := by omega
        exact h1⟩ (by omega)
    have hat := idxf_at (q := q) hlt hi.2
    clear ih
    refine Run2.of I 1000 ?_
    simp -implicitDefEqProofs [hlt]
    refine (hq _ (List.getElem_mem hlt)).mono ?_
    rintro v h' ⟨rfl, rfl⟩
    refine gK.go ?_
    simp -implicitDefEqProofs
    refine ⟨fun h => (hat h).symm, fun h => ⟨by omega, ?_⟩⟩
    simpa using go h
  · obtain rfl : i = l.length := by omega
    have := idxf_none (q := q) (l := l) fun j hj => hi.2 j hj hj
    refine Run2.of I 1000 ?_
    simp -implicitDefEqProofs
    exact this.symm
abbrev k130_o0 : List AJ := [.o ⟨(some 4), none, false, .mv (.c (.bool false)), (some [0, 1])⟩]
abbrev k130_o1 : List AJ := [.o ⟨(some 5), none, false, .mv (.t 0), none⟩, .o ⟨(some 6), none, false, .mv (.t 1), none⟩, .o ⟨(some 7), none, false, .call 159 [(.t 5), (.t 6)], none⟩, .o ⟨(some 8), none, false, .bin .geq (.t 7) (.c (.int .i64 0)), none⟩, .o ⟨(some 4), none, false, .mv (.t 8), (some [4])⟩]
def k130_2 : ACode := .seq (.region k130_o1) .ret
def k130_3 : ACode := .seq (.region k130_o0) k130_2
@[simp, simp ↓] theorem k130_2r : sR k130_2 k130_o1 .ret := yR rfl
@[simp, simp ↓] theorem k130_3r : sR k130_3 k130_o0 k130_2 := yR rfl
noncomputable abbrev k130_C : Orc → Cx := mkC Try.prog [] 130 9 [.tmp 4]
theorem k130_of0 : OfP0 Try.prog Try.f130 130 9 k130_C k130_3 := @ofP0 _ _ _ _ _ _ _ _ Try.func130 (by decide +kernel) rfl (by kernel_rfl) rfl (by kernel_rfl)
theorem ContainsFunc_s (l : List Int) (g : FuncId) (caps : List AV) (q : Int → Bool) (h : Heap) (hl : l.length ≤ 1048576) (hq : ∀ a ∈ l, ACalls Try.prog g (.int .i64 a :: caps) h (fun v h' => v = .bool (q a) ∧ h' = h)) :
    ACalls Try.prog 130 [.snap 1 (l.map iv), .fn g caps] h (fun v h' => v = .bool (l.any q) ∧ h' = h) := by
  refine k130_of0 rfl noPure fun I => ?_
  refine Run2.of I 1000 ?_
  simp -implicitDefEqProofs
  refine (IndexFunc_s l g caps q h hl hq).mono ?_
  rintro v h' ⟨rfl, rfl⟩
  refine gK.go ?_
  simp -implicitDefEqProofs [idxf_ge]
  rw [Bool.eq_iff_iff]
  simp
abbrev k177_o0 : List AJ := [.o ⟨(some 4), none, false, .mv (.c (.bool false)), (some [0, 1])⟩]
abbrev k177_o1 : List AJ := [.o ⟨(some 5), none, false, .mv (.t 0), none⟩, .o ⟨(some 6), none, false, .mv (.t 1), none⟩, .o ⟨(some 7), none, false, .bin .sub (.t 6) (.c (.int .i64 1)), none⟩, .o ⟨(some 8), none, false, .call 91 [(.t 5), (.c (.int .i64 0)), (.t 7)], none⟩, .o ⟨(some 4), none, false, .mv (.t 8), (some [4])⟩]
def k177_2 : ACode := .seq (.region k177_o1) .ret
def k177_3 : ACode := .seq (.region k177_o0) k177_2
@[simp, simp ↓] theorem k177_2r : sR k177_2 k177_o1 .ret := yR rfl
@[simp, simp ↓] theorem k177_3r : sR k177_3 k177_o0 k177_2 := yR rfl
noncomputable abbrev k177_C : Orc → Cx := mkC Try.prog [] 177 9 [.tmp 4]
theorem k177_of0 : OfP0 Try.prog Try.f177 177 9 k177_C k177_3 := @ofP0 _ _ _ _ _ _ _ _ Try.func177 (by decide +kernel) rfl (by kernel_rfl) rfl (by kernel_rfl)
theorem isElement_c (a p : Int) (h : Heap) : ACalls Try.prog 177 [.int .i64 a, .int .i64 p] h (fun v h' => v = .bool (decide (0 ≤ a) && decide (a ≤ IntKind.i64.wrap (p - 1))) ∧ h' = h) := by
  refine k177_of0 rfl orc1_p fun I => ?_
  refine Run2.of I 1000 ?_
  simp -implicitDefEqProofs
noncomputable def o_isElement : List AV → Option (Prop × AV) := tab (fun (x : Int × Int) => match x with | (a, p) => [.int .i64 a, .int .i64 p]) (fun x => match x with | (a, p) => True) (fun x => match x with | (a, p) => .bool (decide (0 ≤ a) && decide (a ≤ IntKind.i64.wrap (p - 1))))
@[simp] theorem o_isElement_e (a : Int) (p : Int) : o_isElement [.int .i64 a, .int .i64 p] = some (True, .bool (decide (0 ≤ a) && decide (a ≤ IntKind.i64.wrap (p - 1)))) := tab_at (enc := fun (x : Int × Int) => match x with | (a, p) => [.int .i64 a, .int .i64 p]) (fun x y h => by
  obtain ⟨a1, p1⟩ := x; obtain ⟨a2, p2⟩ := y; simp at h; simp [h] <;> omega) _ _ (a, p)
theorem o_isElement_k : Knows Try.prog 177 o_isElement := tab_knows fun x hx h => by
  obtain ⟨a, p⟩ := x; exact isElement_c _ _ h
abbrev k176_o0 : List AJ := [.o ⟨(some 3), none, false, .mv (.c (.bool false)), (some [0, 1])⟩]
abbrev k176_o1 : List AJ := [.o ⟨(some 4), none, false, .mv (.t 0), none⟩, .o ⟨(some 5), none, false, .load 1 false (.t 1), none⟩, .o ⟨(some 6), none, false, .call 177 [(.t 4), (.t 5)], none⟩, .o ⟨(some 7), none, false, .un .not (.t 6), none⟩, .o ⟨(some 3), none, false, .mv (.t 7), (some [3])⟩]
def k176_2 : ACode := .seq (.region k176_o1) .ret
def k176_3 : ACode := .seq (.region k176_o0) k176_2
@[simp, simp ↓] theorem k176_2r : sR k176_2 k176_o1 .ret := yR rfl
@[simp, simp ↓] theorem k176_3r : sR k176_3 k176_o0 k176_2 := yR rfl
noncomputable abbrev k176_C : Orc → Cx := mkC Try.prog [] 176 8 [.tmp 3]
theorem k176_of0 : OfP0 Try.prog Try.f176 176 8 k176_C k176_3 := @ofP0 _ _ _ _ _ _ _ _ Try.func176 (by decide +kernel) rfl (by kernel_rfl) rfl (by kernel_rfl)
theorem areElements1_c (a p : Int) (h : Heap) (hp : 0 ≤ p ∧ p ≤ 1073741824) : ACalls Try.prog 176 [.int .i64 a, .ip [.int .i64 p]] h (fun v h' => v = .bool (!decide (0 ≤ a ∧ a < p)) ∧ h' = h) := by
  have hw : IntKind.i64.wrap (p - 1) = p - 1 := w64 (by omega)
  refine k176_of0 rfl (lk_pure o_isElement_k lk_pure0) fun I => ?_
  refine Run2.of I 1000 ?_
  simp -implicitDefEqProofs [hw]
  grind
abbrev k169_o0 : List AJ := [.o ⟨(some 3), none, false, .box false 1 (.t 1), none⟩, .o ⟨(some 4), none, false, .mv (.c (.bool false)), (some [0, 3])⟩]
abbrev k169_o1 : List AJ := [.o ⟨(some 5), none, false, .mv (.t 0), none⟩, .o ⟨(some 6), none, false, .mkfn 176 [(.t 3)], none⟩, .o ⟨(some 7), none, false, .call 130 [(.t 5), (.t 6)], none⟩, .o ⟨(some 8), none, false, .un .not (.t 7), none⟩, .o ⟨(some 4), none, false, .mv (.t 8), (some [4])⟩]
def k169_2 : ACode := .seq (.region k169_o1) .ret
def k169_3 : ACode := .seq (.region k169_o0) k169_2
@[simp, simp ↓] theorem k169_2r : sR k169_2 k169_o1 .ret := yR rfl
@[simp, simp ↓] theorem k169_3r : sR k169_3 k169_o0 k169_2 := yR rfl
noncomputable abbrev k169_C : Orc → Cx := mkC Try.prog [] 169 9 [.tmp 4]
theorem k169_of0 : OfP0 Try.prog Try.f169 169 9 k169_C k169_3 := @ofP0 _ _ _ _ _ _ _ _ Try.func169 (by decide +kernel) rfl (by kernel_rfl) rfl (by kernel_rfl)
theorem areElements_s (l : List Int) (p : Int) (h : Heap) (hl : l.length ≤ 1048576) (hp : 0 ≤ p ∧ p ≤ 1073741824) : ACalls Try.prog 169 [.snap 1 (l.map iv), .int .i64 p] h (fun v h' => v = .bool (decide (allIn l p)) ∧ h' = h) := by
  refine k169_of0 rfl noPure fun I => ?_
  refine Run2.of I 1000 ?_
  simp -implicitDefEqProofs
  refine (ContainsFunc_s _ _ _ (fun a => !decide (0 ≤ a ∧ a < p)) h hl fun a _ => areElements1_c a p h hp).mono ?_
  rintro v h' ⟨rfl, rfl⟩
  refine gK.go ?_
  simp -implicitDefEqProofs
  rw [Bool.eq_iff_iff]
  simp [allIn]
  grind
noncomputable def o_areElements : List AV → Option (Prop × AV) := tab (fun (x : List Int × Int) => match x with | (l, p) => [.snap 1 (l.map iv), .int .i64 p]) (fun x => match x with | (l, p) => (l.length ≤ 1048576 ∧ 0 ≤ p ∧ p ≤ 1073741824)) (fun x => match x with | (l, p) => .bool (decide (allIn l p)))
@[simp] theorem o_areElements_e (l : List Int) (p : Int) : o_areElements [.snap 1 (l.map iv), .int .i64 p] = some ((l.length ≤ 1048576 ∧ 0 ≤ p ∧ p ≤ 1073741824), .bool (decide (allIn l p))) := tab_at (enc := fun (x : List Int × Int) => match x with | (l, p) => [.snap 1 (l.map iv), .int .i64 p]) (fun x y h => by
  obtain ⟨l1, p1⟩ := x; obtain ⟨l2, p2⟩ := y; simp at h; simp [h] <;> omega) _ _ (l, p)
theorem o_areElements_k : Knows Try.prog 169 o_areElements := tab_knows fun x hx h => by
  obtain ⟨l, p⟩ := x; exact areElements_s l p h hx.1 hx.2
abbrev k135_o0 : List AJ := [.o ⟨(some 2), none, false, .mv (.c (.bool false)), (some [0])⟩]
abbrev k135_o1 : List AJ := [.o ⟨(some 3), none, false, .mv (.c (.int .i64 1)), (some [0, 3])⟩]
abbrev k135_o2 : List AJ := [.o ⟨(some 4), none, false, .mv (.t 3), none⟩, .o ⟨(some 5), none, false, .mv (.t 0), none⟩, .o ⟨(some 6), none, false, .len (.t 5), none⟩, .o ⟨(some 7), none, false, .bin .lss (.t 4) (.t 6), (some [0, 3, 7])⟩]
def k135_3 : ACode := .cond (.t 7) .skip (.exit 0)
def k135_4 : ACode := .seq (.region k135_o2) k135_3
abbrev k135_o3 : List AI := [⟨(some 10), none, false, .mv (.t 0), none⟩, ⟨(some 11), none, false, .mv (.t 3), none⟩, ⟨(some 12), none, true, .bin .sub (.t 11) (.c (.int .i64 1)), none⟩, ⟨(some 13), none, false, .idxA 1 (.t 10) (.t 12), none⟩, ⟨(some 14), none, false, .load 1 false (.t 13), none⟩, ⟨(some 15), none, false, .mv (.t 0), none⟩, ⟨(some 16), none, false, .mv (.t 3), none⟩, ⟨(some 17), none, false, .idxA 1 (.t 15) (.t 16), none⟩, ⟨(some 18), none, false, .load 1 false (.t 17), none⟩, ⟨(some 19), none, false, .bin .geq (.t 14) (.t 18), (some [0, 3, 19])⟩]
abbrev k135_o4 : List AJ := [.o ⟨(some 2), none, false, .mv (.c (.bool false)), (some [2])⟩]
def k135_7 : ACode := .seq (.region k135_o4) .ret
def k135_8 : ACode := .cond (.t 19) k135_7 .skip
def k135_9 : ACode := .seq (.draw k135_o3 [] rfl) k135_8
abbrev k135_o5 : List AJ := [.o ⟨(some 8), none, false, .mv (.t 3), none⟩, .o ⟨(some 9), none, true, .bin .add (.t 8) (.c (.int .i64 1)), none⟩, .o ⟨(some 3), none, false, .mv (.t 9), (some [0, 3])⟩]
def k135_11 : ACode := .region k135_o5
def k135_12 : ACode := .seq (.block 1 k135_9) k135_11
def k135_13 : ACode := .seq k135_4 k135_12
def k135_14 : ACode := .loop k135_13
def k135_15 : ACode := .block 0 k135_14
def k135_16 : ACode := .seq (.region k135_o1) k135_15
abbrev k135_o6 : List AJ := [.o ⟨(some 2), none, false, .mv (.c (.bool true)), (some [2])⟩]
def k135_18 : ACode := .seq (.region k135_o6) .ret
def k135_19 : ACode := .seq k135_16 k135_18
def k135_20 : ACode := .seq (.region k135_o0) k135_19
@[simp, simp ↓] theorem k135_3r : rC k135_3 (.t 7) .skip (.exit 0) := zC rfl
@[simp, simp ↓] theorem k135_4r : sR k135_4 k135_o2 k135_3 := yR rfl
@[simp, simp ↓] theorem k135_7r : sR k135_7 k135_o4 .ret := yR rfl
@[simp, simp ↓] theorem k135_8r : rC k135_8 (.t 19) k135_7 .skip := zC rfl
@[simp, simp ↓] theorem k135_9r : sD k135_9 k135_o3 [] k135_8 := yD rfl
@[simp, simp ↓] theorem k135_11r : rR k135_11 k135_o5 := zR rfl
@[simp, simp ↓] theorem k135_12r : sB k135_12 1 k135_9 k135_11 := yB rfl
@[simp, simp ↓] theorem k135_13r : rS k135_13 k135_4 k135_12 := zS rfl
@[simp, simp ↓] theorem k135_14r : rL k135_14 k135_13 := zL rfl
@[simp, simp ↓] theorem k135_15r : rB k135_15 0 k135_14 := zB rfl
@[simp, simp ↓] theorem k135_16r : sR k135_16 k135_o1 k135_15 := yR rfl
@[simp, simp ↓] theorem k135_18r : sR k135_18 k135_o6 .ret := yR rfl
@[simp, simp ↓] theorem k135_19r : rS k135_19 k135_16 k135_18 := zS rfl
@[simp, simp ↓] theorem k135_20r : sR k135_20 k135_o0 k135_19 := yR rfl
noncomputable abbrev k135_C : Orc → Cx := mkC Try.prog [] 135 20 [.tmp 2]
theorem k135_of0 : OfP0 Try.prog Try.f135 135 20 k135_C k135_20 := @ofP0 _ _ _ _ _ _ _ _ Try.func135 (by decide +kernel) rfl (by kernel_rfl) rfl (by kernel_rfl)
theorem isRising_s (l : List Int) (h : Heap) (hl : l.length ≤ 1048576) : ACalls Try.prog 135 [.snap 1 (l.map iv)] h (fun v h' => v = .bool (decide (rising l)) ∧ h' = h) := by
  refine k135_of0 rfl noPure fun I => ?_
  refine Run2.of I 1000 ?_
  simp -implicitDefEqProofs
  refine Run2.loopE (fun i => [(0, .snap 1 (l.map iv)), (3, .int .i64 (i + 1 : Nat))]) (fun i => h) (fun i => l.length - i) (fun i => (i = 0 ∨ i < l.length) ∧ ∀ j (hj : j + 1 < l.length), j + 1 < i + 1 → l[j] < l[j + 1]) 0 (by simp) rfl ⟨.inl rfl, fun _ _ h => by omega⟩ fun i hi ih => ?_
  by_cases hlt : i + 1 < l.length
  · have hlt' : i < l.length := by omega
    have hc : ((i : Int) + 1 - 1).toNat = i := by omega
    have go := fun (h1 : l[i] < l[i + 1]) => ih (i + 1) ⟨.inr (by omega), fun j hj hji => by
      rcases Nat.lt_or_ge j i with h | h
      · exact hi.2 j hj (by omega)
      · obtain rfl : j = i := by omega
        exact h1⟩ (by omega)
    have hbad : l[i + 1] ≤ l[i] → ¬ rising l := fun h1 h2 => by have := h2 i hlt; omega
    clear ih
    refine Run2.of I 1000 ?_
    simp -implicitDefEqProofs [hlt, hlt', hc]
    simp at go
    repeat' (first | refine And.intro ?_ ?_ | intro _)
    all_goals first | omega | (unfold in64; omega) | exact absurd ‹rising l› (hbad (by omega)) | exact go (by omega)
  · have hr := rising_to (r := l) (i + 1) hi.2 (by omega)
    have hlt2 : ¬ ((i : Int) + 1 < l.length) := by omega
    refine Run2.of I 1000 ?_
    simp -implicitDefEqProofs [hlt, hlt2]
    exact hr
noncomputable def o_isRising : List AV → Option (Prop × AV) := tab (fun (x : List Int) => match x with | l => [.snap 1 (l.map iv)]) (fun x => match x with | l => l.length ≤ 1048576) (fun x => match x with | l => .bool (decide (rising l)))
@[simp] theorem o_isRising_e (l : List Int) : o_isRising [.snap 1 (l.map iv)] = some (l.length ≤ 1048576, .bool (decide (rising l))) := tab_at (enc := fun (x : List Int) => match x with | l => [.snap 1 (l.map iv)]) (fun x y h => by
  simp at h; simp [h] <;> omega) _ _ l
theorem o_isRising_k : Knows Try.prog 135 o_isRising := tab_knows fun x hx h => by
  exact isRising_s x h hx
abbrev k132_o0 : List AJ := [.o ⟨(some 6), none, false, .mv (.c (.bool false)), (some [0, 1, 2])⟩]
abbrev k132_o1 : List AJ := [.o ⟨(some 7), none, false, .mv (.c (.int .i64 0)), (some [0, 1, 2, 7])⟩]
abbrev k132_o2 : List AJ := [.o ⟨(some 8), none, false, .mv (.t 7), none⟩, .o ⟨(some 9), none, false, .mv (.t 0), none⟩, .o ⟨(some 10), none, false, .len (.t 9), none⟩, .o ⟨(some 11), none, false, .bin .lss (.t 8) (.t 10), (some [0, 1, 2, 7, 11])⟩]
def k132_3 : ACode := .cond (.t 11) .skip (.exit 0)
def k132_4 : ACode := .seq (.region k132_o2) k132_3
abbrev k132_o3 : List AI := [⟨(some 14), none, false, .mv (.t 0), none⟩, ⟨(some 15), none, false, .mv (.t 7), none⟩, ⟨(some 16), none, false, .idxA 1 (.t 14) (.t 15), none⟩, ⟨(some 17), none, false, .load 1 false (.t 16), none⟩, ⟨(some 18), none, false, .mv (.t 1), none⟩, ⟨(some 19), none, false, .mv (.t 2), none⟩, ⟨(some 20), none, false, .call 45 [(.t 17), (.t 18), (.t 19)], none⟩, ⟨(some 21), none, false, .un .not (.t 20), none⟩, ⟨(some 22), none, false, .mv (.t 21), none⟩, ⟨(some 23), (some (22, false)), false, .mv (.t 7), none⟩, ⟨(some 24), (some (22, false)), false, .bin .gtr (.t 23) (.c (.int .i64 0)), none⟩, ⟨(some 25), (some (22, false)), false, .mv (.t 24), (some [0, 1, 2, 7, 22, 25])⟩, ⟨(some 26), (some (25, true)), false, .mv (.t 0), none⟩, ⟨(some 27), (some (25, true)), false, .mv (.t 7), none⟩, ⟨(some 28), (some (25, true)), true, .bin .sub (.t 27) (.c (.int .i64 1)), none⟩, ⟨(some 29), (some (25, true)), false, .idxA 1 (.t 26) (.t 28), none⟩, ⟨(some 30), (some (25, true)), false, .load 1 false (.t 29), none⟩, ⟨(some 31), (some (25, true)), false, .mv (.t 0), none⟩, ⟨(some 32), (some (25, true)), false, .mv (.t 7), (some [0, 1, 2, 7, 22, 25, 30, 31, 32])⟩, ⟨(some 33), (some (25, true)), false, .idxA 1 (.t 31) (.t 32), none⟩, ⟨(some 34), (some (25, true)), false, .load 1 false (.t 33), none⟩, ⟨(some 35), (some (25, true)), false, .bin .geq (.t 30) (.t 34), none⟩, ⟨(some 36), (some (22, false)), false, .pick (.t 25) (.t 35) (.c (.bool false)), none⟩, ⟨(some 37), none, false, .pick (.t 22) (.c (.bool true)) (.t 36), (some [0, 1, 2, 7, 37])⟩]
abbrev k132_o4 : List AJ := [.o ⟨(some 6), none, false, .mv (.c (.bool false)), (some [6])⟩]
def k132_7 : ACode := .seq (.region k132_o4) .ret
def k132_8 : ACode := .cond (.t 37) k132_7 .skip
def k132_9 : ACode := .seq (.draw k132_o3 [] rfl) k132_8
abbrev k132_o5 : List AJ := [.o ⟨(some 12), none, false, .mv (.t 7), none⟩, .o ⟨(some 13), none, true, .bin .add (.t 12) (.c (.int .i64 1)), none⟩, .o ⟨(some 7), none, false, .mv (.t 13), (some [0, 1, 2, 7])⟩]
def k132_11 : ACode := .region k132_o5
def k132_12 : ACode := .seq (.block 1 k132_9) k132_11
def k132_13 : ACode := .seq k132_4 k132_12
def k132_14 : ACode := .loop k132_13
def k132_15 : ACode := .block 0 k132_14
def k132_16 : ACode := .seq (.region k132_o1) k132_15
abbrev k132_o6 : List AJ := [.o ⟨(some 6), none, false, .mv (.c (.bool true)), (some [6])⟩]
def k132_18 : ACode := .seq (.region k132_o6) .ret
def k132_19 : ACode := .seq k132_16 k132_18
def k132_20 : ACode := .seq (.region k132_o0) k132_19
@[simp, simp ↓] theorem k132_3r : rC k132_3 (.t 11) .skip (.exit 0) := zC rfl
@[simp, simp ↓] theorem k132_4r : sR k132_4 k132_o2 k132_3 := yR rfl
@[simp, simp ↓] theorem k132_7r : sR k132_7 k132_o4 .ret := yR rfl
@[simp, simp ↓] theorem k132_8r : rC k132_8 (.t 37) k132_7 .skip := zC rfl
@[simp, simp ↓] theorem k132_9r : sD k132_9 k132_o3 [] k132_8 := yD rfl
@[simp, simp ↓] theorem k132_11r : rR k132_11 k132_o5 := zR rfl
@[simp, simp ↓] theorem k132_12r : sB k132_12 1 k132_9 k132_11 := yB rfl
@[simp, simp ↓] theorem k132_13r : rS k132_13 k132_4 k132_12 := zS rfl
@[simp, simp ↓] theorem k132_14r : rL k132_14 k132_13 := zL rfl
@[simp, simp ↓] theorem k132_15r : rB k132_15 0 k132_14 := zB rfl
@[simp, simp ↓] theorem k132_16r : sR k132_16 k132_o1 k132_15 := yR rfl
@[simp, simp ↓] theorem k132_18r : sR k132_18 k132_o6 .ret := yR rfl
@[simp, simp ↓] theorem k132_19r : rS k132_19 k132_16 k132_18 := zS rfl
@[simp, simp ↓] theorem k132_20r : sR k132_20 k132_o0 k132_19 := yR rfl
noncomputable abbrev k132_C : Orc → Cx := mkC Try.prog [] 132 38 [.tmp 6]
theorem k132_of0 : OfP0 Try.prog Try.f132 132 38 k132_C k132_20 := @ofP0 _ _ _ _ _ _ _ _ Try.func132 (by decide +kernel) rfl (by kernel_rfl) rfl (by kernel_rfl)
theorem l00Rises_s (l : List Int) (a b : Int) (h : Heap) (hl : l.length ≤ 1048576) : ACalls Try.prog 132 [.snap 1 (l.map iv), .int .i64 a, .int .i64 b] h (fun v h' => v = .bool (decide (btw l a b ∧ rising l)) ∧ h' = h) := by
  refine k132_of0 rfl orc1_p fun I => ?_
  refine Run2.of I 1000 ?_
  simp -implicitDefEqProofs
  refine Run2.loopE (fun (i : Nat) => [(0, .snap 1 (l.map iv)), (1, .int .i64 a), (2, .int .i64 b), (7, .int .i64 i)]) (fun i => h) (fun i => l.length - i) (fun i => i ≤ l.length ∧ (∀ j (hj : j < l.length), j < i → a ≤ l[j] ∧ l[j] ≤ b) ∧ ∀ j (hj : j + 1 < l.length), j + 1 < i → l[j] < l[j + 1]) 0 (by simp) rfl ⟨Nat.zero_le _, fun _ _ h => by omega, fun _ _ h => by omega⟩ fun i hi ih => ?_
  by_cases hlt : i < l.length
  · have hbad1 : ¬ (a ≤ l[i] ∧ l[i] ≤ b) → ¬ (btw l a b ∧ rising l) := fun h1 h2 => h1 (h2.1 _ (List.getElem_mem hlt))
    cases i with
    | zero =>
      have go := fun (h1 : a ≤ l[0] ∧ l[0] ≤ b) => ih 1 ⟨by omega, fun j hj hji => by
        obtain rfl : j = 0 := by omega
        exact h1, fun j hj hji => by omega⟩ (by omega)
      clear ih
      refine Run2.of I 1000 ?_
      simp -implicitDefEqProofs [hlt]
      simp at go hbad1
      repeat' (first | refine And.intro ?_ ?_ | intro _)
      all_goals first | omega | grind
    | succ i =>
      have hlt' : i < l.length := by omega
      have hc : ((i : Int) + 1 - 1).toNat = i := by omega
      have hbad2 : ¬ l[i] < l[i + 1] → ¬ (btw l a b ∧ rising l) := fun h1 h2 => h1 (h2.2 i hlt)
      have go := fun (h1 : a ≤ l[i + 1] ∧ l[i + 1] ≤ b) (h2 : l[i] < l[i + 1]) => ih (i + 1 + 1) ⟨by omega, fun j hj hji => by
        rcases Nat.lt_or_ge j (i + 1) with h | h
        · exact hi.2.1 j hj h
        · obtain rfl : j = i + 1 := by omega
          exact h1, fun j hj hji => by
        rcases Nat.lt_or_ge (j + 1) (i + 1) with h | h
        · exact hi.2.2 j hj h
        · obtain rfl : j = i := by omega
          exact h2⟩ (by omega)
      clear ih
      refine Run2.of I 1000 ?_
      simp -implicitDefEqProofs [hlt, hlt', hc]
      simp at go hbad1 hbad2
      repeat' (first | refine And.intro ?_ ?_ | intro _)
      all_goals first | omega | (unfold in64; omega) | grind
  · obtain rfl : i = l.length := by omega
    have h1 : ∀ k ∈ l, a ≤ k ∧ k ≤ b := fun k hk => by
      obtain ⟨j, hj, rfl⟩ := List.mem_iff_getElem.1 hk
      exact hi.2.1 j hj hj
    have h2 : rising l := fun j hj => hi.2.2 j hj hj
    refine Run2.of I 1000 ?_
    simp -implicitDefEqProofs
    exact ⟨h1, h2⟩
noncomputable def o_l00Rises : List AV → Option (Prop × AV) := tab (fun (x : List Int × Int × Int) => match x with | (l, a, b) => [.snap 1 (l.map iv), .int .i64 a, .int .i64 b]) (fun x => match x with | (l, a, b) => l.length ≤ 1048576) (fun x => match x with | (l, a, b) => .bool (decide (btw l a b ∧ rising l)))
@[simp] theorem o_l00Rises_e (l : List Int) (a : Int) (b : Int) : o_l00Rises [.snap 1 (l.map iv), .int .i64 a, .int .i64 b] = some (l.length ≤ 1048576, .bool (decide (btw l a b ∧ rising l))) := tab_at (enc := fun (x : List Int × Int × Int) => match x with | (l, a, b) => [.snap 1 (l.map iv), .int .i64 a, .int .i64 b]) (fun x y h => by
  obtain ⟨l1, a1, b1⟩ := x; obtain ⟨l2, a2, b2⟩ := y; simp at h; simp [h] <;> omega) _ _ (l, a, b)
theorem o_l00Rises_k : Knows Try.prog 132 o_l00Rises := tab_knows fun x hx h => by
  obtain ⟨l, a, b⟩ := x; exact l00Rises_s l a b h hx

abbrev k127_o0 : List AJ := [.o ⟨(some 4), none, false, .mv (.c (.bool false)), (some [0, 1])⟩]
abbrev k127_o1 : List AI := [⟨(some 5), none, false, .mv (.t 0), none⟩, ⟨(some 6), none, false, .nilchk (.t 5), none⟩, ⟨(some 7), none, false, .fieldA 0 (.t 6), none⟩, ⟨(some 8), none, false, .load 1 false (.t 7), none⟩, ⟨(some 9), none, false, .mv (.t 1), none⟩, ⟨(some 10), none, false, .nilchk (.t 9), none⟩, ⟨(some 11), none, false, .fieldA 0 (.t 10), none⟩, ⟨(some 12), none, false, .load 1 false (.t 11), none⟩, ⟨(some 13), none, false, .bin .eql (.t 8) (.t 12), none⟩, ⟨(some 14), none, false, .mv (.t 13), none⟩, ⟨(some 15), (some (14, false)), false, .mv (.t 0), none⟩, ⟨(some 16), (some (14, false)), false, .nilchk (.t 15), (some [0, 1, 14, 16])⟩, ⟨(some 17), (some (14, false)), false, .fieldA 0 (.t 16), none⟩, ⟨(some 18), (some (14, false)), false, .load 1 false (.t 17), none⟩, ⟨(some 19), (some (14, false)), false, .mv (.t 1), none⟩, ⟨(some 20), (some (14, false)), false, .nilchk (.t 19), none⟩, ⟨(some 21), (some (14, false)), false, .fieldA 1 (.t 20), none⟩, ⟨(some 22), (some (14, false)), false, .load 1 false (.t 21), none⟩, ⟨(some 23), (some (14, false)), false, .bin .eql (.t 18) (.t 22), (some [0, 1, 14, 23])⟩, ⟨(some 24), none, false, .pick (.t 14) (.c (.bool true)) (.t 23), none⟩, ⟨(some 25), none, false, .mv (.t 24), none⟩, ⟨(some 26), (some (25, false)), false, .mv (.t 0), none⟩, ⟨(some 27), (some (25, false)), false, .nilchk (.t 26), none⟩, ⟨(some 28), (some (25, false)), false, .fieldA 1 (.t 27), none⟩, ⟨(some 29), (some (25, false)), false, .load 1 false (.t 28), none⟩, ⟨(some 30), (some (25, false)), false, .mv (.t 1), none⟩, ⟨(some 31), (some (25, false)), false, .nilchk (.t 30), (some [0, 1, 25, 29, 31])⟩, ⟨(some 32), (some (25, false)), false, .fieldA 0 (.t 31), none⟩, ⟨(some 33), (some (25, false)), false, .load 1 false (.t 32), none⟩, ⟨(some 34), (some (25, false)), false, .bin .eql (.t 29) (.t 33), none⟩, ⟨(some 35), none, false, .pick (.t 25) (.c (.bool true)) (.t 34), none⟩, ⟨(some 36), none, false, .mv (.t 35), none⟩, ⟨(some 37), (some (36, false)), false, .mv (.t 0), none⟩, ⟨(some 38), (some (36, false)), false, .nilchk (.t 37), none⟩, ⟨(some 39), (some (36, false)), false, .fieldA 1 (.t 38), (some [1, 36, 39])⟩, ⟨(some 40), (some (36, false)), false, .load 1 false (.t 39), none⟩, ⟨(some 41), (some (36, false)), false, .mv (.t 1), none⟩, ⟨(some 42), (some (36, false)), false, .nilchk (.t 41), none⟩, ⟨(some 43), (some (36, false)), false, .fieldA 1 (.t 42), none⟩, ⟨(some 44), (some (36, false)), false, .load 1 false (.t 43), none⟩, ⟨(some 45), (some (36, false)), false, .bin .eql (.t 40) (.t 44), none⟩, ⟨(some 46), none, false, .pick (.t 36) (.c (.bool true)) (.t 45), none⟩, ⟨(some 4), none, false, .mv (.t 46), (some [4])⟩]
def k127_2 : ACode := .seq (.draw k127_o1 [] rfl) .ret
def k127_3 : ACode := .seq (.region k127_o0) k127_2
@[simp, simp ↓] theorem k127_2r : sD k127_2 k127_o1 [] .ret := yD rfl
@[simp, simp ↓] theorem k127_3r : sR k127_3 k127_o0 k127_2 := yR rfl
noncomputable abbrev k127_C : Orc → Cx := mkC Try.prog [] 127 47 [.tmp 4]
theorem k127_of0 : OfP0 Try.prog Try.f127 127 47 k127_C k127_3 := @ofP0 _ _ _ _ _ _ _ _ Try.func127 (by decide +kernel) rfl (by kernel_rfl) rfl (by kernel_rfl)
theorem l24Meet_c (a b : T) (h : Heap) : ACalls Try.prog 127 [.ip [.int .i64 a.f, .int .i64 a.t, .int .i64 a.s], .ip [.int .i64 b.f, .int .i64 b.t, .int .i64 b.s]] h (fun v h' => v = .bool (decide (a.meet b)) ∧ h' = h) := by
  refine k127_of0 rfl noPure fun I => ?_
  refine Run2.of I 1000 ?_
  simp -implicitDefEqProofs [T.meet]
  grind
noncomputable def o_l24Meet : List AV → Option (Prop × AV) := tab (fun (x : Int × Int × Int × Int × Int × Int) => match x with | (f, t, s, f', t', s') => [.ip [.int .i64 f, .int .i64 t, .int .i64 s], .ip [.int .i64 f', .int .i64 t', .int .i64 s']]) (fun x => match x with | (f, t, s, f', t', s') => True) (fun x => match x with | (f, t, s, f', t', s') => .bool (decide (T.meet ⟨f, t, s⟩ ⟨f', t', s'⟩)))
@[simp] theorem o_l24Meet_e (f : Int) (t : Int) (s : Int) (f' : Int) (t' : Int) (s' : Int) : o_l24Meet [.ip [.int .i64 f, .int .i64 t, .int .i64 s], .ip [.int .i64 f', .int .i64 t', .int .i64 s']] = some (True, .bool (decide (T.meet ⟨f, t, s⟩ ⟨f', t', s'⟩))) := tab_at (enc := fun (x : Int × Int × Int × Int × Int × Int) => match x with | (f, t, s, f', t', s') => [.ip [.int .i64 f, .int .i64 t, .int .i64 s], .ip [.int .i64 f', .int .i64 t', .int .i64 s']]) (fun x y h => by
  obtain ⟨f1, t1, s1, f'1, t'1, s'1⟩ := x; obtain ⟨f2, t2, s2, f'2, t'2, s'2⟩ := y; simp at h; simp [h] <;> omega) _ _ (f, t, s, f', t', s')
theorem o_l24Meet_k : Knows Try.prog 127 o_l24Meet := tab_knows fun x hx h => by
  obtain ⟨f, t, s, f', t', s'⟩ := x; exact l24Meet_c ⟨f, t, s⟩ ⟨f', t', s'⟩ h
abbrev k89_o0 : List AJ := [.o ⟨(some 6), none, false, .mv (.c (.bool false)), (some [0, 1, 2])⟩]
abbrev k89_o1 : List AJ := [.o ⟨(some 7), none, false, .mv (.c (.int .i64 0)), (some [0, 1, 2, 7])⟩]
abbrev k89_o2 : List AJ := [.o ⟨(some 8), none, false, .mv (.t 7), none⟩, .o ⟨(some 9), none, false, .mv (.t 1), none⟩, .o ⟨(some 10), none, false, .len (.t 9), none⟩, .o ⟨(some 11), none, false, .bin .lss (.t 8) (.t 10), (some [0, 1, 2, 7, 11])⟩]
def k89_3 : ACode := .cond (.t 11) .skip (.exit 0)
def k89_4 : ACode := .seq (.region k89_o2) k89_3
abbrev k89_o3 : List AI := [⟨(some 14), none, false, .mv (.t 0), none⟩, ⟨(some 15), none, false, .nilchk (.t 14), none⟩, ⟨(some 16), none, false, .fieldA 1 (.t 15), none⟩, ⟨(some 17), none, false, .load 1 false (.t 16), none⟩, ⟨(some 18), none, false, .mv (.t 1), none⟩, ⟨(some 19), none, false, .mv (.t 7), none⟩, ⟨(some 20), none, false, .idxA 1 (.t 18) (.t 19), none⟩, ⟨(some 21), none, false, .load 1 false (.t 20), none⟩, ⟨(some 22), none, false, .idxA 3 (.t 17) (.t 21), none⟩, ⟨(some 23), none, false, .mv (.t 0), none⟩, ⟨(some 24), none, false, .nilchk (.t 23), none⟩, ⟨(some 25), none, false, .fieldA 1 (.t 24), none⟩, ⟨(some 26), none, false, .load 1 false (.t 25), none⟩, ⟨(some 27), none, false, .mv (.t 2), (some [0, 1, 2, 7, 22, 26, 27])⟩, ⟨(some 28), none, false, .idxA 3 (.t 26) (.t 27), none⟩, ⟨(some 29), none, false, .call 127 [(.t 22), (.t 28)], (some [0, 1, 2, 7, 29])⟩]
abbrev k89_o4 : List AJ := [.o ⟨(some 6), none, false, .mv (.c (.bool false)), (some [6])⟩]
def k89_7 : ACode := .seq (.region k89_o4) .ret
def k89_8 : ACode := .cond (.t 29) k89_7 .skip
def k89_9 : ACode := .seq (.draw k89_o3 [] rfl) k89_8
abbrev k89_o5 : List AJ := [.o ⟨(some 12), none, false, .mv (.t 7), none⟩, .o ⟨(some 13), none, true, .bin .add (.t 12) (.c (.int .i64 1)), none⟩, .o ⟨(some 7), none, false, .mv (.t 13), (some [0, 1, 2, 7])⟩]
def k89_11 : ACode := .region k89_o5
def k89_12 : ACode := .seq (.block 1 k89_9) k89_11
def k89_13 : ACode := .seq k89_4 k89_12
def k89_14 : ACode := .loop k89_13
def k89_15 : ACode := .block 0 k89_14
def k89_16 : ACode := .seq (.region k89_o1) k89_15
abbrev k89_o6 : List AJ := [.o ⟨(some 6), none, false, .mv (.c (.bool true)), (some [6])⟩]
def k89_18 : ACode := .seq (.region k89_o6) .ret
def k89_19 : ACode := .seq k89_16 k89_18
def k89_20 : ACode := .seq (.region k89_o0) k89_19
@[simp, simp ↓] theorem k89_3r : rC k89_3 (.t 11) .skip (.exit 0) := zC rfl
@[simp, simp ↓] theorem k89_4r : sR k89_4 k89_o2 k89_3 := yR rfl
@[simp, simp ↓] theorem k89_7r : sR k89_7 k89_o4 .ret := yR rfl
@[simp, simp ↓] theorem k89_8r : rC k89_8 (.t 29) k89_7 .skip := zC rfl
@[simp, simp ↓] theorem k89_9r : sD k89_9 k89_o3 [] k89_8 := yD rfl
@[simp, simp ↓] theorem k89_11r : rR k89_11 k89_o5 := zR rfl
@[simp, simp ↓] theorem k89_12r : sB k89_12 1 k89_9 k89_11 := yB rfl
@[simp, simp ↓] theorem k89_13r : rS k89_13 k89_4 k89_12 := zS rfl
@[simp, simp ↓] theorem k89_14r : rL k89_14 k89_13 := zL rfl
@[simp, simp ↓] theorem k89_15r : rB k89_15 0 k89_14 := zB rfl
@[simp, simp ↓] theorem k89_16r : sR k89_16 k89_o1 k89_15 := yR rfl
@[simp, simp ↓] theorem k89_18r : sR k89_18 k89_o6 .ret := yR rfl
@[simp, simp ↓] theorem k89_19r : rS k89_19 k89_16 k89_18 := zS rfl
@[simp, simp ↓] theorem k89_20r : sR k89_20 k89_o0 k89_19 := yR rfl
noncomputable abbrev k89_C : Orc → Cx := mkC Try.prog [] 89 30 [.tmp 6]
theorem k89_of0 : OfP0 Try.prog Try.f89 89 30 k89_C k89_20 := @ofP0 _ _ _ _ _ _ _ _ Try.func89 (by decide +kernel) rfl (by kernel_rfl) rfl (by kernel_rfl)
theorem l24Free_s (x : Gr) (r : List Int) (k : Int) (h : Heap) (hl : r.length ≤ 1048576) (hr : ∀ a ∈ r, x.inR a) (hk : x.inR k) : ACalls Try.prog 89 [.ip [.int .i64 x.n, .snap 3 (x.ts.map T.av)], .snap 1 (r.map iv), .int .i64 k] h (fun v h' => v = .bool (decide (x.free r k)) ∧ h' = h) := by
  obtain ⟨hk1, hk2⟩ := Gr.e_at hk
  refine k89_of0 rfl (lk_pure o_l24Meet_k lk_pure0) fun I => ?_
  refine Run2.of I 1000 ?_
  simp -implicitDefEqProofs
  refine Run2.loopE (fun (i : Nat) => [(0, .ip [.int .i64 x.n, .snap 3 (x.ts.map T.av)]), (1, .snap 1 (r.map iv)), (2, .int .i64 k), (7, .int .i64 i)]) (fun i => h) (fun i => r.length - i) (fun i => i ≤ r.length ∧ ∀ j (hj : j < r.length), j < i → ¬ (x.e r[j]).meet (x.e k)) 0 (by simp) rfl ⟨Nat.zero_le _, fun _ _ h => by omega⟩ fun i hi ih => ?_
  by_cases hlt : i < r.length
  · obtain ⟨ha1, ha2⟩ := Gr.e_at (hr _ (List.getElem_mem hlt))
    have hbad : (x.e r[i]).meet (x.e k) → ¬ x.free r k := fun h1 h2 => h2 _ (List.getElem_mem hlt) h1
    have go := fun (h1 : ¬ (x.e r[i]).meet (x.e k)) => ih (i + 1) ⟨by omega, fun j hj hji => by
      rcases Nat.lt_or_ge j i with h | h
      · exact hi.2 j hj h
      · obtain rfl : j = i := by omega
        exact h1⟩ (by omega)
    rw [ha2, hk2] at hbad go
    have g1 := (hr _ (List.getElem_mem hlt)).1
    have g2 := hk.1
    clear ih
    refine Run2.of I 1000 ?_
    simp -implicitDefEqProofs [hlt, ha1, hk1, g1, g2]
    refine ⟨fun h => hbad h, fun h => ⟨by omega, ?_⟩⟩
    simpa using go h
  · obtain rfl : i = r.length := by omega
    have h1 : x.free r k := fun a ha => by
      obtain ⟨j, hj, rfl⟩ := List.mem_iff_getElem.1 ha
      exact hi.2 j hj hj
    refine Run2.of I 1000 ?_
    simp -implicitDefEqProofs
    exact h1
abbrev k131_o0 : List AJ := [.o ⟨(some 4), none, false, .mv (.c (.bool false)), (some [0, 1, 2])⟩]
abbrev k131_o1 : List AJ := [.o ⟨(some 6), none, false, .fieldA 1 (.t 1), none⟩, .o ⟨(some 7), none, false, .load 1 false (.t 6), none⟩, .o ⟨(some 8), none, false, .mv (.t 0), none⟩, .o ⟨(some 9), none, false, .idxA 3 (.t 7) (.t 8), none⟩, .o ⟨(some 10), none, false, .load 3 true (.t 9), none⟩, .v 5 3 (.agg [(.int .i64 0), (.int .i64 0), (.int .i64 0)]) [] (.t 10) (some [2, 5])]
abbrev k131_o2 : List AJ := [.o ⟨(some 11), none, false, .fieldA 0 (.t 2), none⟩, .o ⟨(some 12), none, false, .load 1 false (.t 11), none⟩, .o ⟨(some 13), none, false, .fieldA 0 (.t 5), none⟩, .o ⟨(some 14), none, false, .load 1 false (.t 13), none⟩, .o ⟨(some 15), none, false, .bin .eql (.t 12) (.t 14), none⟩, .o ⟨(some 16), none, false, .mv (.t 15), none⟩, .o ⟨(some 17), (some (16, false)), false, .fieldA 0 (.t 2), none⟩, .o ⟨(some 18), (some (16, false)), false, .load 1 false (.t 17), none⟩, .o ⟨(some 19), (some (16, false)), false, .fieldA 1 (.t 5), none⟩, .o ⟨(some 20), (some (16, false)), false, .load 1 false (.t 19), (some [2, 5, 16, 18, 20])⟩, .o ⟨(some 21), (some (16, false)), false, .bin .eql (.t 18) (.t 20), none⟩, .o ⟨(some 22), none, false, .pick (.t 16) (.c (.bool true)) (.t 21), none⟩, .o ⟨(some 23), none, false, .mv (.t 22), none⟩, .o ⟨(some 24), (some (23, false)), false, .fieldA 1 (.t 2), none⟩, .o ⟨(some 25), (some (23, false)), false, .load 1 false (.t 24), none⟩, .o ⟨(some 26), (some (23, false)), false, .fieldA 0 (.t 5), none⟩, .o ⟨(some 27), (some (23, false)), false, .load 1 false (.t 26), none⟩, .o ⟨(some 28), (some (23, false)), false, .bin .eql (.t 25) (.t 27), (some [2, 5, 23, 28])⟩, .o ⟨(some 29), none, false, .pick (.t 23) (.c (.bool true)) (.t 28), none⟩, .o ⟨(some 30), none, false, .mv (.t 29), none⟩, .o ⟨(some 31), (some (30, false)), false, .fieldA 1 (.t 2), none⟩, .o ⟨(some 32), (some (30, false)), false, .load 1 false (.t 31), none⟩, .o ⟨(some 33), (some (30, false)), false, .fieldA 1 (.t 5), none⟩, .o ⟨(some 34), (some (30, false)), false, .load 1 false (.t 33), none⟩, .o ⟨(some 35), (some (30, false)), false, .bin .eql (.t 32) (.t 34), none⟩, .o ⟨(some 36), none, false, .pick (.t 30) (.c (.bool true)) (.t 35), none⟩, .o ⟨(some 4), none, false, .mv (.t 36), (some [4])⟩]
def k131_3 : ACode := .seq (.region k131_o2) .ret
def k131_4 : ACode := .seq (.region k131_o1) k131_3
def k131_5 : ACode := .seq (.region k131_o0) k131_4
@[simp, simp ↓] theorem k131_3r : sR k131_3 k131_o2 .ret := yR rfl
@[simp, simp ↓] theorem k131_4r : sR k131_4 k131_o1 k131_3 := yR rfl
@[simp, simp ↓] theorem k131_5r : sR k131_5 k131_o0 k131_4 := yR rfl
noncomputable abbrev k131_C : Orc → Cx := mkC Try.prog [5] 131 37 [.tmp 4]
theorem k131_of0 : OfP0 Try.prog Try.f131 131 37 k131_C k131_5 := @ofP0 _ _ _ _ _ _ _ _ Try.func131 (by decide +kernel) rfl (by kernel_rfl) rfl (by kernel_rfl)
theorem isFreeIn1_c (x : Gr) (e : T) (a : Int) (h : Heap) (ha : x.inR a) : ACalls Try.prog 131 [.int .i64 a, .ip [.int .i64 x.n, .snap 3 (x.ts.map T.av)], .ip [.int .i64 e.f, .int .i64 e.t, .int .i64 e.s]] h (fun v h' => v = .bool (decide (e.meet (x.e a))) ∧ h' = h) := by
  obtain ⟨hk1, hk2⟩ := Gr.e_at ha
  have g1 := ha.1
  refine k131_of0 rfl noPure fun I => ?_
  rw [hk2]
  refine Run2.of I 1000 ?_
  simp -implicitDefEqProofs [hk1, g1, T.meet]
  grind
abbrev k94_o0 : List AJ := [.o ⟨(some 3), none, false, .box false 2 (.t 0), none⟩, .o ⟨(some 6), none, false, .mv (.c (.bool false)), (some [1, 2, 3])⟩]
abbrev k94_o1 : List AJ := [.o ⟨(some 8), none, false, .fieldA 1 (.t 3), none⟩, .o ⟨(some 9), none, false, .load 1 false (.t 8), none⟩, .o ⟨(some 10), none, false, .mv (.t 2), none⟩, .o ⟨(some 11), none, false, .idxA 3 (.t 9) (.t 10), none⟩, .o ⟨(some 12), none, false, .load 3 true (.t 11), none⟩, .v 7 3 (.agg [(.int .i64 0), (.int .i64 0), (.int .i64 0)]) [] (.t 12) (some [1, 3, 7])]
abbrev k94_o2 : List AJ := [.o ⟨(some 13), none, false, .mv (.t 1), none⟩, .o ⟨(some 14), none, false, .mkfn 131 [(.t 3), (.t 7)], none⟩, .o ⟨(some 15), none, false, .call 130 [(.t 13), (.t 14)], none⟩, .o ⟨(some 16), none, false, .un .not (.t 15), none⟩, .o ⟨(some 6), none, false, .mv (.t 16), (some [6])⟩]
def k94_3 : ACode := .seq (.region k94_o2) .ret
def k94_4 : ACode := .seq (.region k94_o1) k94_3
def k94_5 : ACode := .seq (.region k94_o0) k94_4
@[simp, simp ↓] theorem k94_3r : sR k94_3 k94_o2 .ret := yR rfl
@[simp, simp ↓] theorem k94_4r : sR k94_4 k94_o1 k94_3 := yR rfl
@[simp, simp ↓] theorem k94_5r : sR k94_5 k94_o0 k94_4 := yR rfl
noncomputable abbrev k94_C : Orc → Cx := mkC Try.prog [7] 94 17 [.tmp 6]
theorem k94_of0 : OfP0 Try.prog Try.f94 94 17 k94_C k94_5 := @ofP0 _ _ _ _ _ _ _ _ Try.func94 (by decide +kernel) rfl (by kernel_rfl) rfl (by kernel_rfl)
theorem isFreeIn_s (x : Gr) (r : List Int) (k : Int) (h : Heap) (hl : r.length ≤ 1048576) (hr : ∀ a ∈ r, x.inR a) (hk : x.inR k) : ACalls Try.prog 94 [x.av, .snap 1 (r.map iv), .int .i64 k] h (fun v h' => v = .bool (decide (x.free r k)) ∧ h' = h) := by
  obtain ⟨hk1, hk2⟩ := Gr.e_at hk
  have g1 := hk.1
  refine k94_of0 rfl noPure fun I => ?_
  refine Run2.of I 1000 ?_
  simp -implicitDefEqProofs [hk1, g1]
  rw [← hk2]
  refine (ContainsFunc_s r _ _ (fun a => decide ((x.e k).meet (x.e a))) h hl fun a ha => isFreeIn1_c x (x.e k) a h (hr a ha)).mono ?_
  rintro v h' ⟨rfl, rfl⟩
  refine gK.go ?_
  simp -implicitDefEqProofs
  rw [Bool.eq_iff_iff]
  simp [Gr.free, T.meet_comm]
abbrev k93_o0 : List AJ := [.o ⟨(some 2), none, false, .mv (.c (.int .i64 0)), (some [0])⟩]
abbrev k93_o1 : List AJ := [.o ⟨(some 3), none, false, .mv (.t 0), none⟩, .o ⟨(some 4), none, false, .len (.t 3), none⟩, .o ⟨(some 2), none, false, .mv (.t 4), (some [2])⟩]
def k93_2 : ACode := .seq (.region k93_o1) .ret
def k93_3 : ACode := .seq (.region k93_o0) k93_2
@[simp, simp ↓] theorem k93_2r : sR k93_2 k93_o1 .ret := yR rfl
@[simp, simp ↓] theorem k93_3r : sR k93_3 k93_o0 k93_2 := yR rfl
noncomputable abbrev k93_C : Orc → Cx := mkC Try.prog [] 93 5 [.tmp 2]
theorem k93_of0 : OfP0 Try.prog Try.f93 93 5 k93_C k93_3 := @ofP0 _ _ _ _ _ _ _ _ Try.func93 (by decide +kernel) rfl (by kernel_rfl) rfl (by kernel_rfl)
theorem sizeE_s (l : List T) (h : Heap) : ACalls Try.prog 93 [.snap 3 (l.map T.av)] h (fun v h' => v = .int .i64 l.length ∧ h' = h) := by
  refine k93_of0 rfl noPure fun I => ?_
  refine Run2.of I 1000 ?_
  simp -implicitDefEqProofs
noncomputable def o_sizeE : List AV → Option (Prop × AV) := tab (fun (x : List T) => match x with | l => [.snap 3 (l.map T.av)]) (fun x => match x with | l => True) (fun x => match x with | l => .int .i64 l.length)
@[simp] theorem o_sizeE_e (l : List T) : o_sizeE [.snap 3 (l.map T.av)] = some (True, .int .i64 l.length) := tab_at (enc := fun (x : List T) => match x with | l => [.snap 3 (l.map T.av)]) (fun x y h => by
  simp at h; simp [h] <;> omega) _ _ l
theorem o_sizeE_k : Knows Try.prog 93 o_sizeE := tab_knows fun x hx h => by
  exact sizeE_s x h
abbrev k85_o0 : List AJ := [.o ⟨(some 2), none, false, .mv (.c .nilsl), (some [0])⟩]
abbrev k85_o1 : List AJ := [.o ⟨(some 3), none, false, .mv (.c .nilsl), (some [0, 3])⟩]
abbrev k85_o2 : List AJ := [.o ⟨(some 5), none, false, .mv (.t 0), none⟩, .o ⟨(some 6), none, false, .mv (.c (.int .i64 0)), (some [3, 5, 6])⟩]
abbrev k85_o3 : List AJ := [.o ⟨(some 7), none, false, .bin .lss (.t 6) (.t 5), (some [3, 5, 6, 7])⟩]
abbrev k85_o4 : List AJ := [.o ⟨(some 8), none, false, .mv (.t 6), none⟩, .o ⟨(some 4), none, false, .mv (.t 8), (some [3, 4, 5, 6])⟩]
abbrev k85_o5 : List AJ := [.o ⟨(some 9), none, false, .mv (.t 3), none⟩, .o ⟨(some 10), none, false, .mv (.t 4), none⟩, .o ⟨(some 11), none, false, .bsl false 1 [(.t 10)], none⟩, .o ⟨(some 12), none, false, .append 1 8 (.t 9) (.t 11), none⟩, .o ⟨(some 3), none, false, .mv (.t 12), (some [3, 5, 6])⟩]
def k85_6 : ACode := .region k85_o5
def k85_7 : ACode := .seq (.region k85_o4) k85_6
abbrev k85_o6 : List AJ := [.o ⟨(some 13), none, true, .bin .add (.t 6) (.c (.int .i64 1)), none⟩, .o ⟨(some 6), none, false, .mv (.t 13), (some [3, 5, 6])⟩]
def k85_9 : ACode := .region k85_o6
def k85_10 : ACode := .seq (.block 1 k85_7) k85_9
def k85_11 : ACode := .seq (.cond (.t 7) .skip (.exit 0)) k85_10
def k85_12 : ACode := .seq (.region k85_o3) k85_11
def k85_13 : ACode := .loop k85_12
def k85_14 : ACode := .block 0 k85_13
def k85_15 : ACode := .seq (.region k85_o2) k85_14
abbrev k85_o7 : List AJ := [.o ⟨(some 14), none, false, .mv (.t 3), none⟩, .o ⟨(some 2), none, false, .mv (.t 14), (some [2])⟩]
def k85_17 : ACode := .seq (.region k85_o7) .ret
def k85_18 : ACode := .seq k85_15 k85_17
def k85_19 : ACode := .seq (.region k85_o1) k85_18
def k85_20 : ACode := .seq (.region k85_o0) k85_19
@[simp, simp ↓] theorem k85_6r : rR k85_6 k85_o5 := zR rfl
@[simp, simp ↓] theorem k85_7r : sR k85_7 k85_o4 k85_6 := yR rfl
@[simp, simp ↓] theorem k85_9r : rR k85_9 k85_o6 := zR rfl
@[simp, simp ↓] theorem k85_10r : sB k85_10 1 k85_7 k85_9 := yB rfl
@[simp, simp ↓] theorem k85_11r : sC k85_11 (.t 7) .skip (.exit 0) k85_10 := yC rfl
@[simp, simp ↓] theorem k85_12r : sR k85_12 k85_o3 k85_11 := yR rfl
@[simp, simp ↓] theorem k85_13r : rL k85_13 k85_12 := zL rfl
@[simp, simp ↓] theorem k85_14r : rB k85_14 0 k85_13 := zB rfl
@[simp, simp ↓] theorem k85_15r : sR k85_15 k85_o2 k85_14 := yR rfl
@[simp, simp ↓] theorem k85_17r : sR k85_17 k85_o7 .ret := yR rfl
@[simp, simp ↓] theorem k85_18r : rS k85_18 k85_15 k85_17 := zS rfl
@[simp, simp ↓] theorem k85_19r : sR k85_19 k85_o1 k85_18 := yR rfl
@[simp, simp ↓] theorem k85_20r : sR k85_20 k85_o0 k85_19 := yR rfl
noncomputable abbrev k85_C : Orc → Cx := mkC Try.prog [] 85 15 [.tmp 2]
theorem k85_of0 : OfP0 Try.prog Try.f85 85 15 k85_C k85_20 := @ofP0 _ _ _ _ _ _ _ _ Try.func85 (by decide +kernel) rfl (by kernel_rfl) rfl (by kernel_rfl)
/-- The numbers from 0. -/
def upto (n : Nat) : List Int := (List.range n).map fun (i : Nat) => (i : Int)
theorem upto_succ (n : Nat) : upto (n + 1) = upto n ++ [(n : Int)] := by simp [upto, List.range_succ]
@[simp] theorem upto_length (n : Nat) : (upto n).length = n := by simp [upto]
theorem firstChoice_g (n : Nat) (h : Heap) (hn : n ≤ 1048576) : ACalls Try.prog 85 [.int .i64 n] h (fun v h' => ∃ hp, Grow 1 v ((upto n).map iv) hp ∧ h' = hp ++ h) := by
  refine k85_of0 rfl noPure fun I => ?_
  refine Run2.of I 1000 ?_
  simp -implicitDefEqProofs
  refine Run2.loopE (α := Nat × AV × Heap) (fun s => [(3, s.2.1), (5, .int .i64 n), (6, .int .i64 (s.1 : Nat))]) (fun s => s.2.2 ++ h) (fun s => n - s.1) (fun s => s.1 ≤ n ∧ Grow 1 s.2.1 ((upto s.1).map iv) s.2.2) (0, .nilsl, []) (by simp) rfl ⟨Nat.zero_le _, by simpa [upto] using Grow.nil⟩ ?_
  rintro ⟨i, w, hp⟩ ⟨hi, hg⟩ ih
  simp only at hi hg
  have hcell := hg.cell
  by_cases hlt : i < n
  · have go := fun w' hp' (g : Grow 1 w' ((upto i).map iv ++ [.int .i64 i]) hp') => ih (i + 1, w', hp') ⟨hlt, by rw [upto_succ]; simpa using g⟩ (by simp; omega)
    clear ih
    refine Run2.of I 1000 ?_
    simp -implicitDefEqProofs [hlt, hcell]
    refine hg.app (by simp; omega) (by simp) fun w' hp' hg' => ?_
    have hcell' := hg'.cell
    simp -implicitDefEqProofs [hcell']
    refine ⟨by omega, ?_⟩
    simpa using go w' hp' hg'
  · obtain rfl : i = n := by omega
    refine Run2.of I 1000 ?_
    simp -implicitDefEqProofs [hcell]
    exact hg
theorem firstChoice_c (n : Nat) (h : Heap) (hn : n ≤ 1048576) : ACalls Try.prog 85 [.int .i64 n] h (fun v h' => v = .snap 1 ((upto n).map iv) ∧ h' = h) := by
  refine ACalls.post ((firstChoice_g n h hn).mono ?_)
  rintro v h' ⟨hp, g, rfl⟩
  exact g.froze (fun x => x) (fun _ _ _ => rfl) (fun _ _ h => h) (.base ⟨rfl, rfl⟩)
abbrev k190_o0 : List AJ := [.o ⟨(some 4), none, false, .mv (.c (.bool false)), (some [0, 1])⟩]
abbrev k190_o1 : List AJ := [.o ⟨(some 6), none, false, .mv (.t 0), none⟩, .o ⟨(some 7), none, false, .len (.t 6), none⟩, .o ⟨(some 8), none, false, .mv (.t 1), none⟩, .o ⟨(some 9), none, false, .len (.t 8), none⟩, .o ⟨(some 10), none, false, .bin .neq (.t 7) (.t 9), (some [0, 1, 10])⟩]
abbrev k190_o2 : List AJ := [.o ⟨(some 4), none, false, .mv (.c (.bool false)), (some [4])⟩]
def k190_3 : ACode := .seq (.region k190_o2) .ret
def k190_4 : ACode := .cond (.t 10) k190_3 .skip
def k190_5 : ACode := .seq (.region k190_o1) k190_4
abbrev k190_o3 : List AJ := [.o ⟨(some 11), none, false, .mv (.t 0), none⟩, .o ⟨(some 12), none, false, .len (.t 11), none⟩, .o ⟨(some 13), none, false, .mv (.c (.int .i64 0)), (some [0, 1, 12, 13])⟩]
abbrev k190_o4 : List AJ := [.o ⟨(some 14), none, false, .bin .lss (.t 13) (.t 12), (some [0, 1, 12, 13, 14])⟩]
abbrev k190_o5 : List AJ := [.o ⟨(some 15), none, false, .mv (.t 13), none⟩, .o ⟨(some 5), none, false, .mv (.t 15), (some [0, 1, 5, 12, 13])⟩]
abbrev k190_o6 : List AI := [⟨(some 16), none, false, .mv (.t 0), none⟩, ⟨(some 17), none, false, .mv (.t 5), none⟩, ⟨(some 18), none, false, .idxA 1 (.t 16) (.t 17), none⟩, ⟨(some 19), none, false, .load 1 false (.t 18), none⟩, ⟨(some 20), none, false, .mv (.t 1), none⟩, ⟨(some 21), none, false, .mv (.t 5), none⟩, ⟨(some 22), none, false, .idxA 1 (.t 20) (.t 21), none⟩, ⟨(some 23), none, false, .load 1 false (.t 22), none⟩, ⟨(some 24), none, false, .bin .neq (.t 19) (.t 23), (some [0, 1, 12, 13, 24])⟩]
abbrev k190_o7 : List AJ := [.o ⟨(some 4), none, false, .mv (.c (.bool false)), (some [4])⟩]
def k190_12 : ACode := .seq (.region k190_o7) .ret
def k190_13 : ACode := .cond (.t 24) k190_12 .skip
def k190_14 : ACode := .seq (.draw k190_o6 [] rfl) k190_13
def k190_15 : ACode := .seq (.region k190_o5) k190_14
abbrev k190_o8 : List AJ := [.o ⟨(some 25), none, true, .bin .add (.t 13) (.c (.int .i64 1)), none⟩, .o ⟨(some 13), none, false, .mv (.t 25), (some [0, 1, 12, 13])⟩]
def k190_17 : ACode := .region k190_o8
def k190_18 : ACode := .seq (.block 1 k190_15) k190_17
def k190_19 : ACode := .seq (.cond (.t 14) .skip (.exit 0)) k190_18
def k190_20 : ACode := .seq (.region k190_o4) k190_19
def k190_21 : ACode := .loop k190_20
def k190_22 : ACode := .block 0 k190_21
def k190_23 : ACode := .seq (.region k190_o3) k190_22
abbrev k190_o9 : List AJ := [.o ⟨(some 4), none, false, .mv (.c (.bool true)), (some [4])⟩]
def k190_25 : ACode := .seq (.region k190_o9) .ret
def k190_26 : ACode := .seq k190_23 k190_25
def k190_27 : ACode := .seq k190_5 k190_26
def k190_28 : ACode := .seq (.region k190_o0) k190_27
@[simp, simp ↓] theorem k190_3r : sR k190_3 k190_o2 .ret := yR rfl
@[simp, simp ↓] theorem k190_4r : rC k190_4 (.t 10) k190_3 .skip := zC rfl
@[simp, simp ↓] theorem k190_5r : sR k190_5 k190_o1 k190_4 := yR rfl
@[simp, simp ↓] theorem k190_12r : sR k190_12 k190_o7 .ret := yR rfl
@[simp, simp ↓] theorem k190_13r : rC k190_13 (.t 24) k190_12 .skip := zC rfl
@[simp, simp ↓] theorem k190_14r : sD k190_14 k190_o6 [] k190_13 := yD rfl
@[simp, simp ↓] theorem k190_15r : sR k190_15 k190_o5 k190_14 := yR rfl
@[simp, simp ↓] theorem k190_17r : rR k190_17 k190_o8 := zR rfl
@[simp, simp ↓] theorem k190_18r : sB k190_18 1 k190_15 k190_17 := yB rfl
@[simp, simp ↓] theorem k190_19r : sC k190_19 (.t 14) .skip (.exit 0) k190_18 := yC rfl
@[simp, simp ↓] theorem k190_20r : sR k190_20 k190_o4 k190_19 := yR rfl
@[simp, simp ↓] theorem k190_21r : rL k190_21 k190_20 := zL rfl
@[simp, simp ↓] theorem k190_22r : rB k190_22 0 k190_21 := zB rfl
@[simp, simp ↓] theorem k190_23r : sR k190_23 k190_o3 k190_22 := yR rfl
@[simp, simp ↓] theorem k190_25r : sR k190_25 k190_o9 .ret := yR rfl
@[simp, simp ↓] theorem k190_26r : rS k190_26 k190_23 k190_25 := zS rfl
@[simp, simp ↓] theorem k190_27r : rS k190_27 k190_5 k190_26 := zS rfl
@[simp, simp ↓] theorem k190_28r : sR k190_28 k190_o0 k190_27 := yR rfl
noncomputable abbrev k190_C : Orc → Cx := mkC Try.prog [] 190 26 [.tmp 4]
theorem k190_of0 : OfP0 Try.prog Try.f190 190 26 k190_C k190_28 := @ofP0 _ _ _ _ _ _ _ _ Try.func190 (by decide +kernel) rfl (by kernel_rfl) rfl (by kernel_rfl)
theorem Equal_s (l m : List Int) (h : Heap) (hl : l.length ≤ 1048576) : ACalls Try.prog 190 [.snap 1 (l.map iv), .snap 1 (m.map iv)] h (fun v h' => v = .bool (decide (l = m)) ∧ h' = h) := by
  refine k190_of0 rfl noPure fun I => ?_
  refine Run2.of I 1000 ?_
  simp -implicitDefEqProofs
  refine ⟨by rintro hne rfl; exact hne rfl, fun hlen => ?_⟩
  refine Run2.loopE (fun (i : Nat) => [(0, .snap 1 (l.map iv)), (1, .snap 1 (m.map iv)), (12, .int .i64 l.length), (13, .int .i64 i)]) (fun i => h) (fun i => l.length - i) (fun i => i ≤ l.length ∧ l.take i = m.take i) 0 (by simp [hlen]) rfl (by simp) fun i hi ih => ?_
  by_cases hlt : i < l.length
  · have hlt' : i < m.length := by omega
    refine Run2.of I 1000 ?_
    simp -implicitDefEqProofs [hlt, hlt']
    constructor
    · rintro hne rfl
      exact hne rfl
    · intro he
      refine ⟨by omega, ?_⟩
      have := ih (i + 1) ⟨by omega, by rw [List.take_succ_eq_append_getElem hlt, List.take_succ_eq_append_getElem hlt', hi.2, he]⟩ (by omega)
      simpa using this
  · refine Run2.of I 1000 ?_
    simp -implicitDefEqProofs [hlt]
    have : i = l.length := by omega
    have h2 := hi.2
    rw [List.take_of_length_le (by omega), List.take_of_length_le (by omega)] at h2
    exact h2
noncomputable def o_l24Free : List AV → Option (Prop × AV) := tab (fun (x : Int × List T × List Int × Int) => match x with | (n, ts, r, k) => [.ip [.int .i64 n, .snap 3 (ts.map T.av)], .snap 1 (r.map iv), .int .i64 k]) (fun x => match x with | (n, ts, r, k) => (r.length ≤ 1048576 ∧ Gr.allR ⟨n, ts⟩ r ∧ Gr.inR ⟨n, ts⟩ k)) (fun x => match x with | (n, ts, r, k) => .bool (decide (Gr.free ⟨n, ts⟩ r k)))
@[simp] theorem o_l24Free_e (n : Int) (ts : List T) (r : List Int) (k : Int) : o_l24Free [.ip [.int .i64 n, .snap 3 (ts.map T.av)], .snap 1 (r.map iv), .int .i64 k] = some ((r.length ≤ 1048576 ∧ Gr.allR ⟨n, ts⟩ r ∧ Gr.inR ⟨n, ts⟩ k), .bool (decide (Gr.free ⟨n, ts⟩ r k))) := tab_at (enc := fun (x : Int × List T × List Int × Int) => match x with | (n, ts, r, k) => [.ip [.int .i64 n, .snap 3 (ts.map T.av)], .snap 1 (r.map iv), .int .i64 k]) (fun x y h => by
  obtain ⟨n1, ts1, r1, k1⟩ := x; obtain ⟨n2, ts2, r2, k2⟩ := y; simp at h; simp [h] <;> omega) _ _ (n, ts, r, k)
theorem o_l24Free_k : Knows Try.prog 89 o_l24Free := tab_knows fun x hx h => by
  obtain ⟨n, ts, r, k⟩ := x; exact l24Free_s ⟨n, ts⟩ r k h hx.1 hx.2.1 hx.2.2
noncomputable def o_isFreeIn : List AV → Option (Prop × AV) := tab (fun (x : Int × List T × List Int × Int) => match x with | (n, ts, r, k) => [.agg [.int .i64 n, .snap 3 (ts.map T.av)], .snap 1 (r.map iv), .int .i64 k]) (fun x => match x with | (n, ts, r, k) => (r.length ≤ 1048576 ∧ Gr.allR ⟨n, ts⟩ r ∧ Gr.inR ⟨n, ts⟩ k)) (fun x => match x with | (n, ts, r, k) => .bool (decide (Gr.free ⟨n, ts⟩ r k)))
@[simp] theorem o_isFreeIn_e (n : Int) (ts : List T) (r : List Int) (k : Int) : o_isFreeIn [.agg [.int .i64 n, .snap 3 (ts.map T.av)], .snap 1 (r.map iv), .int .i64 k] = some ((r.length ≤ 1048576 ∧ Gr.allR ⟨n, ts⟩ r ∧ Gr.inR ⟨n, ts⟩ k), .bool (decide (Gr.free ⟨n, ts⟩ r k))) := tab_at (enc := fun (x : Int × List T × List Int × Int) => match x with | (n, ts, r, k) => [.agg [.int .i64 n, .snap 3 (ts.map T.av)], .snap 1 (r.map iv), .int .i64 k]) (fun x y h => by
  obtain ⟨n1, ts1, r1, k1⟩ := x; obtain ⟨n2, ts2, r2, k2⟩ := y; simp at h; simp [h] <;> omega) _ _ (n, ts, r, k)
theorem o_isFreeIn_k : Knows Try.prog 94 o_isFreeIn := tab_knows fun x hx h => by
  obtain ⟨n, ts, r, k⟩ := x; exact isFreeIn_s ⟨n, ts⟩ r k h hx.1 hx.2.1 hx.2.2
end Go.AG
