/- Rounds: what the small functions of the program and of the reference give. No statement is made here. -/
import Derived.Test.YtpndpligcphonaaGrVal
import Derived.Test.YtpndpligcphonaaISS
namespace Go.AG
open Go.Proofs Go.Proofs.Ytpndpligcphonaa
set_option linter.unusedSimpArgs false
set_option linter.unusedVariables false
set_option maxRecDepth 4000
def T.meet (a b : T) : Prop := a.f = b.f ∨ a.f = b.t ∨ a.t = b.f ∨ a.t = b.t
instance (a b : T) : Decidable (a.meet b) := by unfold T.meet; infer_instance
theorem T.meet_comm (a b : T) : a.meet b ↔ b.meet a := by unfold T.meet; omega
/-- The edge with a number. -/
def Gr.e (x : Gr) (k : Int) : T := x.ts.getD k.toNat ⟨0, 0, 0⟩
def Gr.inR (x : Gr) (k : Int) : Prop := 0 ≤ k ∧ k < x.ts.length
instance (x : Gr) (k : Int) : Decidable (x.inR k) := by unfold Gr.inR; infer_instance
theorem Gr.e_at {x : Gr} {k : Int} (h : x.inR k) : ∃ hk : k.toNat < x.ts.length, x.e k = x.ts[k.toNat] := by
  have hk : k.toNat < x.ts.length := by unfold Gr.inR at h; omega
  exact ⟨hk, by simp [Gr.e, hk]⟩
def Gr.free (x : Gr) (r : List Int) (k : Int) : Prop := ∀ a ∈ r, ¬ (x.e a).meet (x.e k)
instance (x : Gr) (r : List Int) (k : Int) : Decidable (x.free r k) := by unfold Gr.free; infer_instance
def allIn (l : List Int) (p : Int) : Prop := ∀ a ∈ l, 0 ≤ a ∧ a < p
noncomputable instance (l : List Int) (p : Int) : Decidable (allIn l p) := Classical.propDecidable _
def btw (l : List Int) (a b : Int) : Prop := ∀ k ∈ l, a ≤ k ∧ k ≤ b
def Gr.allR (x : Gr) (r : List Int) : Prop := ∀ a ∈ r, x.inR a
def rising (r : List Int) : Prop := ∀ j (h : j + 1 < r.length), r[j] < r[j + 1]
noncomputable instance (l : List Int) (a b : Int) : Decidable (btw l a b ∧ rising l) := Classical.propDecidable _
noncomputable instance (r : List Int) : Decidable (rising r) := Classical.propDecidable _
theorem rising_to {r : List Int} (i : Nat) (h : ∀ j (h : j + 1 < r.length), j + 1 < i → r[j] < r[j + 1]) (hi : r.length ≤ i) : rising r := fun j hj => h j hj (by omega)
abbrev k49_o0 : List AJ := [.o ⟨(some 4), none, false, .mv (.c (.int .i64 0)), (some [0, 1])⟩]
abbrev k49_o1 : List AJ := [.o ⟨(some 6), none, false, .mv (.t 0), none⟩, .o ⟨(some 7), none, false, .len (.t 6), none⟩, .o ⟨(some 8), none, false, .mv (.c (.int .i64 0)), (some [0, 1, 7, 8])⟩]
abbrev k49_o2 : List AJ := [.o ⟨(some 9), none, false, .bin .lss (.t 8) (.t 7), (some [0, 1, 7, 8, 9])⟩]
abbrev k49_o3 : List AJ := [.o ⟨(some 10), none, false, .mv (.t 8), none⟩, .o ⟨(some 5), none, false, .mv (.t 10), (some [0, 1, 5, 7, 8])⟩]
abbrev k49_o4 : List AJ := [.o ⟨(some 11), none, false, .mv (.t 1), none⟩, .o ⟨(some 12), none, false, .mv (.t 0), none⟩, .o ⟨(some 13), none, false, .mv (.t 5), none⟩, .o ⟨(some 14), none, false, .idxA 1 (.t 12) (.t 13), none⟩, .o ⟨(some 15), none, false, .load 1 false (.t 14), none⟩, .o ⟨(some 16), none, false, .callv (.t 11) [(.t 15)], (some [0, 1, 5, 7, 8, 16])⟩]
abbrev k49_o5 : List AJ := [.o ⟨(some 17), none, false, .mv (.t 5), none⟩, .o ⟨(some 4), none, false, .mv (.t 17), (some [4])⟩]
def k49_7 : ACode := .seq (.region k49_o5) .ret
def k49_8 : ACode := .cond (.t 16) k49_7 .skip
def k49_9 : ACode := .seq (.region k49_o4) k49_8
def k49_10 : ACode := .seq (.region k49_o3) k49_9
abbrev k49_o6 : List AJ := [.o ⟨(some 18), none, true, .bin .add (.t 8) (.c (.int .i64 1)), none⟩, .o ⟨(some 8), none, false, .mv (.t 18), (some [0, 1, 7, 8])⟩]
def k49_12 : ACode := .region k49_o6
def k49_13 : ACode := .seq (.block 1 k49_10) k49_12
def k49_14 : ACode := .seq (.cond (.t 9) .skip (.exit 0)) k49_13
def k49_15 : ACode := .seq (.region k49_o2) k49_14
def k49_16 : ACode := .loop k49_15
def k49_17 : ACode := .block 0 k49_16
def k49_18 : ACode := .seq (.region k49_o1) k49_17
abbrev k49_o7 : List AJ := [.o ⟨(some 4), none, false, .mv (.c (.int .i64 (-1))), (some [4])⟩]
def k49_20 : ACode := .seq (.region k49_o7) .ret
def k49_21 : ACode := .seq k49_18 k49_20
def k49_22 : ACode := .seq (.region k49_o0) k49_21
@[simp, simp ↓] theorem k49_7r : sR k49_7 k49_o5 .ret := yR rfl
@[simp, simp ↓] theorem k49_8r : rC k49_8 (.t 16) k49_7 .skip := zC rfl
@[simp, simp ↓] theorem k49_9r : sR k49_9 k49_o4 k49_8 := yR rfl
@[simp, simp ↓] theorem k49_10r : sR k49_10 k49_o3 k49_9 := yR rfl
@[simp, simp ↓] theorem k49_12r : rR k49_12 k49_o6 := zR rfl
@[simp, simp ↓] theorem k49_13r : sB k49_13 1 k49_10 k49_12 := yB rfl
@[simp, simp ↓] theorem k49_14r : sC k49_14 (.t 9) .skip (.exit 0) k49_13 := yC rfl
@[simp, simp ↓] theorem k49_15r : sR k49_15 k49_o2 k49_14 := yR rfl
@[simp, simp ↓] theorem k49_16r : rL k49_16 k49_15 := zL rfl
@[simp, simp ↓] theorem k49_17r : rB k49_17 0 k49_16 := zB rfl
@[simp, simp ↓] theorem k49_18r : sR k49_18 k49_o1 k49_17 := yR rfl
@[simp, simp ↓] theorem k49_20r : sR k49_20 k49_o7 .ret := yR rfl
@[simp, simp ↓] theorem k49_21r : rS k49_21 k49_18 k49_20 := zS rfl
@[simp, simp ↓] theorem k49_22r : sR k49_22 k49_o0 k49_21 := yR rfl
noncomputable abbrev k49_C : Orc → Cx := mkC Try.prog [] 49 19 [.tmp 4]
theorem k49_of0 : OfP0 Try.prog Try.f49 49 19 k49_C k49_22 := @ofP0 _ _ _ _ _ _ _ _ Try.func49 (by decide +kernel) rfl (by kernel_rfl) rfl (by kernel_rfl)
/-- The first place where q holds. -/
def idxf (q : Int → Bool) (l : List Int) : Int := match l.findIdx? q with
  | some i => i
  | none => -1
theorem idxf_at {q : Int → Bool} {l : List Int} {i : Nat} (h : i < l.length) (hb : ∀ j (hj : j < l.length), j < i → q l[j] = false) (ht : q l[i] = true) : idxf q l = i := by
  have : l.findIdx? q = some i := List.findIdx?_eq_some_iff_getElem.2 ⟨h, ht, fun j hj => by simp [hb j (by omega) hj]⟩
  unfold idxf; rw [this]
theorem idxf_none {q : Int → Bool} {l : List Int} (hb : ∀ j (hj : j < l.length), q l[j] = false) : idxf q l = -1 := by
  have : l.findIdx? q = none := List.findIdx?_eq_none_iff.2 fun a ha => by
    obtain ⟨j, hj, rfl⟩ := List.mem_iff_getElem.1 ha
    simp [hb j hj]
  unfold idxf; rw [this]
theorem idxf_ge (q : Int → Bool) (l : List Int) : (0 ≤ idxf q l) ↔ ∃ a ∈ l, q a = true := by
  unfold idxf
  cases h : l.findIdx? q with
  | none =>
    rw [List.findIdx?_eq_none_iff] at h
    simp only [show ¬ (0 : Int) ≤ -1 by omega, false_iff]
    rintro ⟨a, ha, hq⟩
    have := h a ha
    rw [hq] at this; cases this
  | some i =>
    obtain ⟨hi, hq, _⟩ := List.findIdx?_eq_some_iff_getElem.1 h
    simp only [Int.natCast_nonneg, true_iff]
    exact ⟨_, List.getElem_mem hi, hq⟩
theorem IndexFunc_s (l : List Int) (g : FuncId) (caps : List AV) (q : Int → Bool) (h : Heap) (hl : l.length ≤ 1048576) (hq : ∀ a ∈ l, ACalls Try.prog g (.int .i64 a :: caps) h (fun v h' => v = .bool (q a) ∧ h' = h)) :
    ACalls Try.prog 49 [.snap 1 (l.map iv), .fn g caps] h (fun v h' => v = .int .i64 (idxf q l) ∧ h' = h) := by
  refine k49_of0 rfl noPure fun I => ?_
  refine Run2.of I 1000 ?_
  simp -implicitDefEqProofs
  refine Run2.loopE (fun i => [(0, .snap 1 (l.map iv)), (1, .fn g caps), (7, .int .i64 l.length), (8, .int .i64 (i : Nat))]) (fun i => h) (fun i => l.length - i) (fun i => i ≤ l.length ∧ ∀ j (hj : j < l.length), j < i → q l[j] = false) 0 (by simp) rfl ⟨Nat.zero_le _, fun _ _ h => absurd h (Nat.not_lt_zero _)⟩ fun i hi ih => ?_
  by_cases hlt : i < l.length
  · have go := fun (h1 : q l[i] = false) => ih (i + 1) ⟨by omega, fun j hj hji => by
      rcases Nat.lt_or_ge j i with h | h
      · exact hi.2 j hj h
      · obtain rfl : j = i := by omega
        exact h1⟩ (by omega)
    have hat := idxf_at (q := q) hlt hi.2
    clear ih
    refine Run2.of I 1000 ?_
    simp -implicitDefEqProofs [hlt]
    refine (hq _ (List.getElem_mem hlt)).mono ?_
    rintro v h' ⟨rfl, rfl⟩
    refine gK.go ?_
    simp -implicitDefEqProofs
    refine ⟨fun h => (hat h).symm, fun h => ⟨by omega, ?_⟩⟩
    simpa using go h
  · obtain rfl : i = l.length := by omega
    have := idxf_none (q := q) (l := l) fun j hj => hi.2 j hj hj
    refine Run2.of I 1000 ?_
    simp -implicitDefEqProofs
    exact this.symm
abbrev k30_o0 : List AJ := [.o ⟨(some 4), none, false, .mv (.c (.bool false)), (some [0, 1])⟩]
abbrev k30_o1 : List AJ := [.o ⟨(some 5), none, false, .mv (.t 0), none⟩, .o ⟨(some 6), none, false, .mv (.t 1), none⟩, .o ⟨(some 7), none, false, .call 49 [(.t 5), (.t 6)], none⟩, .o ⟨(some 8), none, false, .bin .geq (.t 7) (.c (.int .i64 0)), none⟩, .o ⟨(some 4), none, false, .mv (.t 8), (some [4])⟩]
def k30_2 : ACode := .seq (.region k30_o1) .ret
def k30_3 : ACode := .seq (.region k30_o0) k30_2
@[simp, simp ↓] theorem k30_2r : sR k30_2 k30_o1 .ret := yR rfl
@[simp, simp ↓] theorem k30_3r : sR k30_3 k30_o0 k30_2 := yR rfl
noncomputable abbrev k30_C : Orc → Cx := mkC Try.prog [] 30 9 [.tmp 4]
theorem k30_of0 : OfP0 Try.prog Try.f30 30 9 k30_C k30_3 := @ofP0 _ _ _ _ _ _ _ _ Try.func30 (by decide +kernel) rfl (by kernel_rfl) rfl (by kernel_rfl)
theorem ContainsFunc_s (l : List Int) (g : FuncId) (caps : List AV) (q : Int → Bool) (h : Heap) (hl : l.length ≤ 1048576) (hq : ∀ a ∈ l, ACalls Try.prog g (.int .i64 a :: caps) h (fun v h' => v = .bool (q a) ∧ h' = h)) :
    ACalls Try.prog 30 [.snap 1 (l.map iv), .fn g caps] h (fun v h' => v = .bool (l.any q) ∧ h' = h) := by
  refine k30_of0 rfl noPure fun I => ?_
  refine Run2.of I 1000 ?_
  simp -implicitDefEqProofs
  refine (IndexFunc_s l g caps q h hl hq).mono ?_
  rintro v h' ⟨rfl, rfl⟩
  refine gK.go ?_
  simp -implicitDefEqProofs [idxf_ge]
  rw [Bool.eq_iff_iff]
  simp
abbrev k56_o0 : List AJ := [.o ⟨(some 4), none, false, .mv (.c (.bool false)), (some [0, 1])⟩]
abbrev k56_o1 : List AJ := [.o ⟨(some 5), none, false, .mv (.t 0), none⟩, .o ⟨(some 6), none, false, .mv (.t 1), none⟩, .o ⟨(some 7), none, false, .bin .sub (.t 6) (.c (.int .i64 1)), none⟩, .o ⟨(some 8), none, false, .call 32 [(.t 5), (.c (.int .i64 0)), (.t 7)], none⟩, .o ⟨(some 4), none, false, .mv (.t 8), (some [4])⟩]
def k56_2 : ACode := .seq (.region k56_o1) .ret
def k56_3 : ACode := .seq (.region k56_o0) k56_2
@[simp, simp ↓] theorem k56_2r : sR k56_2 k56_o1 .ret := yR rfl
@[simp, simp ↓] theorem k56_3r : sR k56_3 k56_o0 k56_2 := yR rfl
noncomputable abbrev k56_C : Orc → Cx := mkC Try.prog [] 56 9 [.tmp 4]
theorem k56_of0 : OfP0 Try.prog Try.f56 56 9 k56_C k56_3 := @ofP0 _ _ _ _ _ _ _ _ Try.func56 (by decide +kernel) rfl (by kernel_rfl) rfl (by kernel_rfl)
theorem isElement_c (a p : Int) (h : Heap) : ACalls Try.prog 56 [.int .i64 a, .int .i64 p] h (fun v h' => v = .bool (decide (0 ≤ a) && decide (a ≤ IntKind.i64.wrap (p - 1))) ∧ h' = h) := by
  refine k56_of0 rfl orc1_p fun I => ?_
  refine Run2.of I 1000 ?_
  simp -implicitDefEqProofs
noncomputable def o_isElement : List AV → Option (Prop × AV) := tab (fun (x : Int × Int) => match x with | (a, p) => [.int .i64 a, .int .i64 p]) (fun x => match x with | (a, p) => True) (fun x => match x with | (a, p) => .bool (decide (0 ≤ a) && decide (a ≤ IntKind.i64.wrap (p - 1))))
@[simp] theorem o_isElement_e (a : Int) (p : Int) : o_isElement [.int .i64 a, .int .i64 p] = some (True, .bool (decide (0 ≤ a) && decide (a ≤ IntKind.i64.wrap (p - 1)))) := tab_at (enc := fun (x : Int × Int) => match x with | (a, p) => [.int .i64 a, .int .i64 p]) (fun x y h => by
  obtain ⟨a1, p1⟩ := x; obtain ⟨a2, p2⟩ := y; simp at h; simp [h] <;> omega) _ _ (a, p)
theorem o_isElement_k : Knows Try.prog 56 o_isElement := tab_knows fun x hx h => by
  obtain ⟨a, p⟩ := x; exact isElement_c _ _ h
abbrev k55_o0 : List AJ := [.o ⟨(some 3), none, false, .mv (.c (.bool false)), (some [0, 1])⟩]
abbrev k55_o1 : List AJ := [.o ⟨(some 4), none, false, .mv (.t 0), none⟩, .o ⟨(some 5), none, false, .load 1 false (.t 1), none⟩, .o ⟨(some 6), none, false, .call 56 [(.t 4), (.t 5)], none⟩, .o ⟨(some 7), none, false, .un .not (.t 6), none⟩, .o ⟨(some 3), none, false, .mv (.t 7), (some [3])⟩]
def k55_2 : ACode := .seq (.region k55_o1) .ret
def k55_3 : ACode := .seq (.region k55_o0) k55_2
@[simp, simp ↓] theorem k55_2r : sR k55_2 k55_o1 .ret := yR rfl
@[simp, simp ↓] theorem k55_3r : sR k55_3 k55_o0 k55_2 := yR rfl
noncomputable abbrev k55_C : Orc → Cx := mkC Try.prog [] 55 8 [.tmp 3]
theorem k55_of0 : OfP0 Try.prog Try.f55 55 8 k55_C k55_3 := @ofP0 _ _ _ _ _ _ _ _ Try.func55 (by decide +kernel) rfl (by kernel_rfl) rfl (by kernel_rfl)
theorem areElements1_c (a p : Int) (h : Heap) (hp : 0 ≤ p ∧ p ≤ 1073741824) : ACalls Try.prog 55 [.int .i64 a, .ip [.int .i64 p]] h (fun v h' => v = .bool (!decide (0 ≤ a ∧ a < p)) ∧ h' = h) := by
  have hw : IntKind.i64.wrap (p - 1) = p - 1 := w64 (by omega)
  refine k55_of0 rfl (lk_pure o_isElement_k lk_pure0) fun I => ?_
  refine Run2.of I 1000 ?_
  simp -implicitDefEqProofs [hw]
  grind
abbrev k43_o0 : List AJ := [.o ⟨(some 3), none, false, .box false 1 (.t 1), none⟩, .o ⟨(some 4), none, false, .mv (.c (.bool false)), (some [0, 3])⟩]
abbrev k43_o1 : List AJ := [.o ⟨(some 5), none, false, .mv (.t 0), none⟩, .o ⟨(some 6), none, false, .mkfn 55 [(.t 3)], none⟩, .o ⟨(some 7), none, false, .call 30 [(.t 5), (.t 6)], none⟩, .o ⟨(some 8), none, false, .un .not (.t 7), none⟩, .o ⟨(some 4), none, false, .mv (.t 8), (some [4])⟩]
def k43_2 : ACode := .seq (.region k43_o1) .ret
def k43_3 : ACode := .seq (.region k43_o0) k43_2
@[simp, simp ↓] theorem k43_2r : sR k43_2 k43_o1 .ret := yR rfl
@[simp, simp ↓] theorem k43_3r : sR k43_3 k43_o0 k43_2 := yR rfl
noncomputable abbrev k43_C : Orc → Cx := mkC Try.prog [] 43 9 [.tmp 4]
theorem k43_of0 : OfP0 Try.prog Try.f43 43 9 k43_C k43_3 := @ofP0 _ _ _ _ _ _ _ _ Try.func43 (by decide +kernel) rfl (by kernel_rfl) rfl (by kernel_rfl)
theorem areElements_s (l : List Int) (p : Int) (h : Heap) (hl : l.length ≤ 1048576) (hp : 0 ≤ p ∧ p ≤ 1073741824) : ACalls Try.prog 43 [.snap 1 (l.map iv), .int .i64 p] h (fun v h' => v = .bool (decide (allIn l p)) ∧ h' = h) := by
  refine k43_of0 rfl noPure fun I => ?_
  refine Run2.of I 1000 ?_
  simp -implicitDefEqProofs
  refine (ContainsFunc_s _ _ _ (fun a => !decide (0 ≤ a ∧ a < p)) h hl fun a _ => areElements1_c a p h hp).mono ?_
  rintro v h' ⟨rfl, rfl⟩
  refine gK.go ?_
  simp -implicitDefEqProofs
  rw [Bool.eq_iff_iff]
  simp [allIn]
  grind
noncomputable def o_areElements : List AV → Option (Prop × AV) := tab (fun (x : List Int × Int) => match x with | (l, p) => [.snap 1 (l.map iv), .int .i64 p]) (fun x => match x with | (l, p) => (l.length ≤ 1048576 ∧ 0 ≤ p ∧ p ≤ 1073741824)) (fun x => match x with | (l, p) => .bool (decide (allIn l p)))
@[simp] theorem o_areElements_e (l : List Int) (p : Int) : o_areElements [.snap 1 (l.map iv), .int .i64 p] = some ((l.length ≤ 1048576 ∧ 0 ≤ p ∧ p ≤ 1073741824), .bool (decide (allIn l p))) := tab_at (enc := fun (x : List Int × Int) => match x with | (l, p) => [.snap 1 (l.map iv), .int .i64 p]) (fun x y h => by
  obtain ⟨l1, p1⟩ := x; obtain ⟨l2, p2⟩ := y; simp at h; simp [h] <;> omega) _ _ (l, p)
theorem o_areElements_k : Knows Try.prog 43 o_areElements := tab_knows fun x hx h => by
  obtain ⟨l, p⟩ := x; exact areElements_s l p h hx.1 hx.2
abbrev k42_o0 : List AJ := [.o ⟨(some 2), none, false, .mv (.c (.bool false)), (some [0])⟩]
abbrev k42_o1 : List AJ := [.o ⟨(some 3), none, false, .mv (.c (.int .i64 1)), (some [0, 3])⟩]
abbrev k42_o2 : List AJ := [.o ⟨(some 4), none, false, .mv (.t 3), none⟩, .o ⟨(some 5), none, false, .mv (.t 0), none⟩, .o ⟨(some 6), none, false, .len (.t 5), none⟩, .o ⟨(some 7), none, false, .bin .lss (.t 4) (.t 6), (some [0, 3, 7])⟩]
def k42_3 : ACode := .cond (.t 7) .skip (.exit 0)
def k42_4 : ACode := .seq (.region k42_o2) k42_3
abbrev k42_o3 : List AI := [⟨(some 10), none, false, .mv (.t 0), none⟩, ⟨(some 11), none, false, .mv (.t 3), none⟩, ⟨(some 12), none, true, .bin .sub (.t 11) (.c (.int .i64 1)), none⟩, ⟨(some 13), none, false, .idxA 1 (.t 10) (.t 12), none⟩, ⟨(some 14), none, false, .load 1 false (.t 13), none⟩, ⟨(some 15), none, false, .mv (.t 0), none⟩, ⟨(some 16), none, false, .mv (.t 3), none⟩, ⟨(some 17), none, false, .idxA 1 (.t 15) (.t 16), none⟩, ⟨(some 18), none, false, .load 1 false (.t 17), none⟩, ⟨(some 19), none, false, .bin .geq (.t 14) (.t 18), (some [0, 3, 19])⟩]
abbrev k42_o4 : List AJ := [.o ⟨(some 2), none, false, .mv (.c (.bool false)), (some [2])⟩]
def k42_7 : ACode := .seq (.region k42_o4) .ret
def k42_8 : ACode := .cond (.t 19) k42_7 .skip
def k42_9 : ACode := .seq (.draw k42_o3 [] rfl) k42_8
abbrev k42_o5 : List AJ := [.o ⟨(some 8), none, false, .mv (.t 3), none⟩, .o ⟨(some 9), none, true, .bin .add (.t 8) (.c (.int .i64 1)), none⟩, .o ⟨(some 3), none, false, .mv (.t 9), (some [0, 3])⟩]
def k42_11 : ACode := .region k42_o5
def k42_12 : ACode := .seq (.block 1 k42_9) k42_11
def k42_13 : ACode := .seq k42_4 k42_12
def k42_14 : ACode := .loop k42_13
def k42_15 : ACode := .block 0 k42_14
def k42_16 : ACode := .seq (.region k42_o1) k42_15
abbrev k42_o6 : List AJ := [.o ⟨(some 2), none, false, .mv (.c (.bool true)), (some [2])⟩]
def k42_18 : ACode := .seq (.region k42_o6) .ret
def k42_19 : ACode := .seq k42_16 k42_18
def k42_20 : ACode := .seq (.region k42_o0) k42_19
@[simp, simp ↓] theorem k42_3r : rC k42_3 (.t 7) .skip (.exit 0) := zC rfl
@[simp, simp ↓] theorem k42_4r : sR k42_4 k42_o2 k42_3 := yR rfl
@[simp, simp ↓] theorem k42_7r : sR k42_7 k42_o4 .ret := yR rfl
@[simp, simp ↓] theorem k42_8r : rC k42_8 (.t 19) k42_7 .skip := zC rfl
@[simp, simp ↓] theorem k42_9r : sD k42_9 k42_o3 [] k42_8 := yD rfl
@[simp, simp ↓] theorem k42_11r : rR k42_11 k42_o5 := zR rfl
@[simp, simp ↓] theorem k42_12r : sB k42_12 1 k42_9 k42_11 := yB rfl
@[simp, simp ↓] theorem k42_13r : rS k42_13 k42_4 k42_12 := zS rfl
@[simp, simp ↓] theorem k42_14r : rL k42_14 k42_13 := zL rfl
@[simp, simp ↓] theorem k42_15r : rB k42_15 0 k42_14 := zB rfl
@[simp, simp ↓] theorem k42_16r : sR k42_16 k42_o1 k42_15 := yR rfl
@[simp, simp ↓] theorem k42_18r : sR k42_18 k42_o6 .ret := yR rfl
@[simp, simp ↓] theorem k42_19r : rS k42_19 k42_16 k42_18 := zS rfl
@[simp, simp ↓] theorem k42_20r : sR k42_20 k42_o0 k42_19 := yR rfl
noncomputable abbrev k42_C : Orc → Cx := mkC Try.prog [] 42 20 [.tmp 2]
theorem k42_of0 : OfP0 Try.prog Try.f42 42 20 k42_C k42_20 := @ofP0 _ _ _ _ _ _ _ _ Try.func42 (by decide +kernel) rfl (by kernel_rfl) rfl (by kernel_rfl)
theorem isRising_s (l : List Int) (h : Heap) (hl : l.length ≤ 1048576) : ACalls Try.prog 42 [.snap 1 (l.map iv)] h (fun v h' => v = .bool (decide (rising l)) ∧ h' = h) := by
  refine k42_of0 rfl noPure fun I => ?_
  refine Run2.of I 1000 ?_
  simp -implicitDefEqProofs
  refine Run2.loopE (fun i => [(0, .snap 1 (l.map iv)), (3, .int .i64 (i + 1 : Nat))]) (fun i => h) (fun i => l.length - i) (fun i => (i = 0 ∨ i < l.length) ∧ ∀ j (hj : j + 1 < l.length), j + 1 < i + 1 → l[j] < l[j + 1]) 0 (by simp) rfl ⟨.inl rfl, fun _ _ h => by omega⟩ fun i hi ih => ?_
  by_cases hlt : i + 1 < l.length
  · have hlt' : i < l.length := by omega
    have hc : ((i : Int) + 1 - 1).toNat = i := by omega
    have go := fun (h1 : l[i] < l[i + 1]) => ih (i + 1) ⟨.inr (by omega), fun j hj hji => by
      rcases Nat.lt_or_ge j i with h | h
      · exact hi.2 j hj (by omega)
      · obtain rfl : j = i := by omega
        exact h1⟩ (by omega)
    have hbad : l[i + 1] ≤ l[i] → ¬ rising l := fun h1 h2 => by have := h2 i hlt; omega
    clear ih
    refine Run2.of I 1000 ?_
    simp -implicitDefEqProofs [hlt, hlt', hc]
    simp at go
    repeat' (first | refine And.intro ?_ ?_ | intro _)
    all_goals first | omega | (unfold in64; omega) | exact absurd ‹rising l› (hbad (by omega)) | exact go (by omega)
  · have hr := rising_to (r := l) (i + 1) hi.2 (by omega)
    have hlt2 : ¬ ((i : Int) + 1 < l.length) := by omega
    refine Run2.of I 1000 ?_
    simp -implicitDefEqProofs [hlt, hlt2]
    exact hr
noncomputable def o_isRising : List AV → Option (Prop × AV) := tab (fun (x : List Int) => match x with | l => [.snap 1 (l.map iv)]) (fun x => match x with | l => l.length ≤ 1048576) (fun x => match x with | l => .bool (decide (rising l)))
@[simp] theorem o_isRising_e (l : List Int) : o_isRising [.snap 1 (l.map iv)] = some (l.length ≤ 1048576, .bool (decide (rising l))) := tab_at (enc := fun (x : List Int) => match x with | l => [.snap 1 (l.map iv)]) (fun x y h => by
  simp at h; simp [h] <;> omega) _ _ l
theorem o_isRising_k : Knows Try.prog 42 o_isRising := tab_knows fun x hx h => by
  exact isRising_s x h hx


abbrev k52_o0 : List AJ := [.o ⟨(some 4), none, false, .mv (.c (.bool false)), (some [0, 1])⟩]
abbrev k52_o1 : List AI := [⟨(some 5), none, false, .mv (.t 0), none⟩, ⟨(some 6), none, false, .nilchk (.t 5), none⟩, ⟨(some 7), none, false, .fieldA 0 (.t 6), none⟩, ⟨(some 8), none, false, .load 1 false (.t 7), none⟩, ⟨(some 9), none, false, .mv (.t 1), none⟩, ⟨(some 10), none, false, .nilchk (.t 9), none⟩, ⟨(some 11), none, false, .fieldA 0 (.t 10), none⟩, ⟨(some 12), none, false, .load 1 false (.t 11), none⟩, ⟨(some 13), none, false, .bin .eql (.t 8) (.t 12), none⟩, ⟨(some 14), none, false, .mv (.t 13), none⟩, ⟨(some 15), (some (14, false)), false, .mv (.t 0), none⟩, ⟨(some 16), (some (14, false)), false, .nilchk (.t 15), (some [0, 1, 14, 16])⟩, ⟨(some 17), (some (14, false)), false, .fieldA 0 (.t 16), none⟩, ⟨(some 18), (some (14, false)), false, .load 1 false (.t 17), none⟩, ⟨(some 19), (some (14, false)), false, .mv (.t 1), none⟩, ⟨(some 20), (some (14, false)), false, .nilchk (.t 19), none⟩, ⟨(some 21), (some (14, false)), false, .fieldA 1 (.t 20), none⟩, ⟨(some 22), (some (14, false)), false, .load 1 false (.t 21), none⟩, ⟨(some 23), (some (14, false)), false, .bin .eql (.t 18) (.t 22), (some [0, 1, 14, 23])⟩, ⟨(some 24), none, false, .pick (.t 14) (.c (.bool true)) (.t 23), none⟩, ⟨(some 25), none, false, .mv (.t 24), none⟩, ⟨(some 26), (some (25, false)), false, .mv (.t 0), none⟩, ⟨(some 27), (some (25, false)), false, .nilchk (.t 26), none⟩, ⟨(some 28), (some (25, false)), false, .fieldA 1 (.t 27), none⟩, ⟨(some 29), (some (25, false)), false, .load 1 false (.t 28), none⟩, ⟨(some 30), (some (25, false)), false, .mv (.t 1), none⟩, ⟨(some 31), (some (25, false)), false, .nilchk (.t 30), (some [0, 1, 25, 29, 31])⟩, ⟨(some 32), (some (25, false)), false, .fieldA 0 (.t 31), none⟩, ⟨(some 33), (some (25, false)), false, .load 1 false (.t 32), none⟩, ⟨(some 34), (some (25, false)), false, .bin .eql (.t 29) (.t 33), none⟩, ⟨(some 35), none, false, .pick (.t 25) (.c (.bool true)) (.t 34), none⟩, ⟨(some 36), none, false, .mv (.t 35), none⟩, ⟨(some 37), (some (36, false)), false, .mv (.t 0), none⟩, ⟨(some 38), (some (36, false)), false, .nilchk (.t 37), none⟩, ⟨(some 39), (some (36, false)), false, .fieldA 1 (.t 38), (some [1, 36, 39])⟩, ⟨(some 40), (some (36, false)), false, .load 1 false (.t 39), none⟩, ⟨(some 41), (some (36, false)), false, .mv (.t 1), none⟩, ⟨(some 42), (some (36, false)), false, .nilchk (.t 41), none⟩, ⟨(some 43), (some (36, false)), false, .fieldA 1 (.t 42), none⟩, ⟨(some 44), (some (36, false)), false, .load 1 false (.t 43), none⟩, ⟨(some 45), (some (36, false)), false, .bin .eql (.t 40) (.t 44), none⟩, ⟨(some 46), none, false, .pick (.t 36) (.c (.bool true)) (.t 45), none⟩, ⟨(some 4), none, false, .mv (.t 46), (some [4])⟩]
def k52_2 : ACode := .seq (.draw k52_o1 [] rfl) .ret
def k52_3 : ACode := .seq (.region k52_o0) k52_2
@[simp, simp ↓] theorem k52_2r : sD k52_2 k52_o1 [] .ret := yD rfl
@[simp, simp ↓] theorem k52_3r : sR k52_3 k52_o0 k52_2 := yR rfl
noncomputable abbrev k52_C : Orc → Cx := mkC Try.prog [] 52 47 [.tmp 4]
theorem k52_of0 : OfP0 Try.prog Try.f52 52 47 k52_C k52_3 := @ofP0 _ _ _ _ _ _ _ _ Try.func52 (by decide +kernel) rfl (by kernel_rfl) rfl (by kernel_rfl)
theorem l24Meet_c (a b : T) (h : Heap) : ACalls Try.prog 52 [.ip [.int .i64 a.f, .int .i64 a.t, .int .i64 a.s], .ip [.int .i64 b.f, .int .i64 b.t, .int .i64 b.s]] h (fun v h' => v = .bool (decide (a.meet b)) ∧ h' = h) := by
  refine k52_of0 rfl noPure fun I => ?_
  refine Run2.of I 1000 ?_
  simp -implicitDefEqProofs [T.meet]
  grind
noncomputable def o_l24Meet : List AV → Option (Prop × AV) := tab (fun (x : Int × Int × Int × Int × Int × Int) => match x with | (f, t, s, f', t', s') => [.ip [.int .i64 f, .int .i64 t, .int .i64 s], .ip [.int .i64 f', .int .i64 t', .int .i64 s']]) (fun x => match x with | (f, t, s, f', t', s') => True) (fun x => match x with | (f, t, s, f', t', s') => .bool (decide (T.meet ⟨f, t, s⟩ ⟨f', t', s'⟩)))
@[simp] theorem o_l24Meet_e (f : Int) (t : Int) (s : Int) (f' : Int) (t' : Int) (s' : Int) : o_l24Meet [.ip [.int .i64 f, .int .i64 t, .int .i64 s], .ip [.int .i64 f', .int .i64 t', .int .i64 s']] = some (True, .bool (decide (T.meet ⟨f, t, s⟩ ⟨f', t', s'⟩))) := tab_at (enc := fun (x : Int × Int × Int × Int × Int × Int) => match x with | (f, t, s, f', t', s') => [.ip [.int .i64 f, .int .i64 t, .int .i64 s], .ip [.int .i64 f', .int .i64 t', .int .i64 s']]) (fun x y h => by
  obtain ⟨f1, t1, s1, f'1, t'1, s'1⟩ := x; obtain ⟨f2, t2, s2, f'2, t'2, s'2⟩ := y; simp at h; simp [h] <;> omega) _ _ (f, t, s, f', t', s')
theorem o_l24Meet_k : Knows Try.prog 52 o_l24Meet := tab_knows fun x hx h => by
  obtain ⟨f, t, s, f', t', s'⟩ := x; exact l24Meet_c ⟨f, t, s⟩ ⟨f', t', s'⟩ h
abbrev k40_o0 : List AJ := [.o ⟨(some 6), none, false, .mv (.c (.bool false)), (some [0, 1, 2])⟩]
abbrev k40_o1 : List AJ := [.o ⟨(some 7), none, false, .mv (.c (.int .i64 0)), (some [0, 1, 2, 7])⟩]
abbrev k40_o2 : List AJ := [.o ⟨(some 8), none, false, .mv (.t 7), none⟩, .o ⟨(some 9), none, false, .mv (.t 1), none⟩, .o ⟨(some 10), none, false, .len (.t 9), none⟩, .o ⟨(some 11), none, false, .bin .lss (.t 8) (.t 10), (some [0, 1, 2, 7, 11])⟩]
def k40_3 : ACode := .cond (.t 11) .skip (.exit 0)
def k40_4 : ACode := .seq (.region k40_o2) k40_3
abbrev k40_o3 : List AI := [⟨(some 14), none, false, .mv (.t 0), none⟩, ⟨(some 15), none, false, .nilchk (.t 14), none⟩, ⟨(some 16), none, false, .fieldA 1 (.t 15), none⟩, ⟨(some 17), none, false, .load 1 false (.t 16), none⟩, ⟨(some 18), none, false, .mv (.t 1), none⟩, ⟨(some 19), none, false, .mv (.t 7), none⟩, ⟨(some 20), none, false, .idxA 1 (.t 18) (.t 19), none⟩, ⟨(some 21), none, false, .load 1 false (.t 20), none⟩, ⟨(some 22), none, false, .idxA 3 (.t 17) (.t 21), none⟩, ⟨(some 23), none, false, .mv (.t 0), none⟩, ⟨(some 24), none, false, .nilchk (.t 23), none⟩, ⟨(some 25), none, false, .fieldA 1 (.t 24), none⟩, ⟨(some 26), none, false, .load 1 false (.t 25), none⟩, ⟨(some 27), none, false, .mv (.t 2), (some [0, 1, 2, 7, 22, 26, 27])⟩, ⟨(some 28), none, false, .idxA 3 (.t 26) (.t 27), none⟩, ⟨(some 29), none, false, .call 52 [(.t 22), (.t 28)], (some [0, 1, 2, 7, 29])⟩]
abbrev k40_o4 : List AJ := [.o ⟨(some 6), none, false, .mv (.c (.bool false)), (some [6])⟩]
def k40_7 : ACode := .seq (.region k40_o4) .ret
def k40_8 : ACode := .cond (.t 29) k40_7 .skip
def k40_9 : ACode := .seq (.draw k40_o3 [] rfl) k40_8
abbrev k40_o5 : List AJ := [.o ⟨(some 12), none, false, .mv (.t 7), none⟩, .o ⟨(some 13), none, true, .bin .add (.t 12) (.c (.int .i64 1)), none⟩, .o ⟨(some 7), none, false, .mv (.t 13), (some [0, 1, 2, 7])⟩]
def k40_11 : ACode := .region k40_o5
def k40_12 : ACode := .seq (.block 1 k40_9) k40_11
def k40_13 : ACode := .seq k40_4 k40_12
def k40_14 : ACode := .loop k40_13
def k40_15 : ACode := .block 0 k40_14
def k40_16 : ACode := .seq (.region k40_o1) k40_15
abbrev k40_o6 : List AJ := [.o ⟨(some 6), none, false, .mv (.c (.bool true)), (some [6])⟩]
def k40_18 : ACode := .seq (.region k40_o6) .ret
def k40_19 : ACode := .seq k40_16 k40_18
def k40_20 : ACode := .seq (.region k40_o0) k40_19
@[simp, simp ↓] theorem k40_3r : rC k40_3 (.t 11) .skip (.exit 0) := zC rfl
@[simp, simp ↓] theorem k40_4r : sR k40_4 k40_o2 k40_3 := yR rfl
@[simp, simp ↓] theorem k40_7r : sR k40_7 k40_o4 .ret := yR rfl
@[simp, simp ↓] theorem k40_8r : rC k40_8 (.t 29) k40_7 .skip := zC rfl
@[simp, simp ↓] theorem k40_9r : sD k40_9 k40_o3 [] k40_8 := yD rfl
@[simp, simp ↓] theorem k40_11r : rR k40_11 k40_o5 := zR rfl
@[simp, simp ↓] theorem k40_12r : sB k40_12 1 k40_9 k40_11 := yB rfl
@[simp, simp ↓] theorem k40_13r : rS k40_13 k40_4 k40_12 := zS rfl
@[simp, simp ↓] theorem k40_14r : rL k40_14 k40_13 := zL rfl
@[simp, simp ↓] theorem k40_15r : rB k40_15 0 k40_14 := zB rfl
@[simp, simp ↓] theorem k40_16r : sR k40_16 k40_o1 k40_15 := yR rfl
@[simp, simp ↓] theorem k40_18r : sR k40_18 k40_o6 .ret := yR rfl
@[simp, simp ↓] theorem k40_19r : rS k40_19 k40_16 k40_18 := zS rfl
@[simp, simp ↓] theorem k40_20r : sR k40_20 k40_o0 k40_19 := yR rfl
noncomputable abbrev k40_C : Orc → Cx := mkC Try.prog [] 40 30 [.tmp 6]
theorem k40_of0 : OfP0 Try.prog Try.f40 40 30 k40_C k40_20 := @ofP0 _ _ _ _ _ _ _ _ Try.func40 (by decide +kernel) rfl (by kernel_rfl) rfl (by kernel_rfl)
theorem l24Free_s (x : Gr) (r : List Int) (k : Int) (h : Heap) (hl : r.length ≤ 1048576) (hr : ∀ a ∈ r, x.inR a) (hk : x.inR k) : ACalls Try.prog 40 [.ip [.int .i64 x.n, .snap 3 (x.ts.map T.av)], .snap 1 (r.map iv), .int .i64 k] h (fun v h' => v = .bool (decide (x.free r k)) ∧ h' = h) := by
  obtain ⟨hk1, hk2⟩ := Gr.e_at hk
  refine k40_of0 rfl (lk_pure o_l24Meet_k lk_pure0) fun I => ?_
  refine Run2.of I 1000 ?_
  simp -implicitDefEqProofs
  refine Run2.loopE (fun (i : Nat) => [(0, .ip [.int .i64 x.n, .snap 3 (x.ts.map T.av)]), (1, .snap 1 (r.map iv)), (2, .int .i64 k), (7, .int .i64 i)]) (fun i => h) (fun i => r.length - i) (fun i => i ≤ r.length ∧ ∀ j (hj : j < r.length), j < i → ¬ (x.e r[j]).meet (x.e k)) 0 (by simp) rfl ⟨Nat.zero_le _, fun _ _ h => by omega⟩ fun i hi ih => ?_
  by_cases hlt : i < r.length
  · obtain ⟨ha1, ha2⟩ := Gr.e_at (hr _ (List.getElem_mem hlt))
    have hbad : (x.e r[i]).meet (x.e k) → ¬ x.free r k := fun h1 h2 => h2 _ (List.getElem_mem hlt) h1
    have go := fun (h1 : ¬ (x.e r[i]).meet (x.e k)) => ih (i + 1) ⟨by omega, fun j hj hji => by
      rcases Nat.lt_or_ge j i with h | h
      · exact hi.2 j hj h
      · obtain rfl : j = i := by omega
        exact h1⟩ (by omega)
    rw [ha2, hk2] at hbad go
    have g1 := (hr _ (List.getElem_mem hlt)).1
    have g2 := hk.1
    clear ih
    refine Run2.of I 1000 ?_
    simp -implicitDefEqProofs [hlt, ha1, hk1, g1, g2]
    refine ⟨fun h => hbad h, fun h => ⟨by omega, ?_⟩⟩
    simpa using go h
  · obtain rfl : i = r.length := by omega
    have h1 : x.free r k := fun a ha => by
      obtain ⟨j, hj, rfl⟩ := List.mem_iff_getElem.1 ha
      exact hi.2 j hj hj
    refine Run2.of I 1000 ?_
    simp -implicitDefEqProofs
    exact h1
abbrev k57_o0 : List AJ := [.o ⟨(some 4), none, false, .mv (.c (.bool false)), (some [0, 1, 2])⟩]
abbrev k57_o1 : List AJ := [.o ⟨(some 6), none, false, .fieldA 1 (.t 1), none⟩, .o ⟨(some 7), none, false, .load 1 false (.t 6), none⟩, .o ⟨(some 8), none, false, .mv (.t 0), none⟩, .o ⟨(some 9), none, false, .idxA 3 (.t 7) (.t 8), none⟩, .o ⟨(some 10), none, false, .load 3 true (.t 9), none⟩, .v 5 3 (.agg [(.int .i64 0), (.int .i64 0), (.int .i64 0)]) [] (.t 10) (some [2, 5])]
abbrev k57_o2 : List AJ := [.o ⟨(some 11), none, false, .fieldA 0 (.t 2), none⟩, .o ⟨(some 12), none, false, .load 1 false (.t 11), none⟩, .o ⟨(some 13), none, false, .fieldA 0 (.t 5), none⟩, .o ⟨(some 14), none, false, .load 1 false (.t 13), none⟩, .o ⟨(some 15), none, false, .bin .eql (.t 12) (.t 14), none⟩, .o ⟨(some 16), none, false, .mv (.t 15), none⟩, .o ⟨(some 17), (some (16, false)), false, .fieldA 0 (.t 2), none⟩, .o ⟨(some 18), (some (16, false)), false, .load 1 false (.t 17), none⟩, .o ⟨(some 19), (some (16, false)), false, .fieldA 1 (.t 5), none⟩, .o ⟨(some 20), (some (16, false)), false, .load 1 false (.t 19), (some [2, 5, 16, 18, 20])⟩, .o ⟨(some 21), (some (16, false)), false, .bin .eql (.t 18) (.t 20), none⟩, .o ⟨(some 22), none, false, .pick (.t 16) (.c (.bool true)) (.t 21), none⟩, .o ⟨(some 23), none, false, .mv (.t 22), none⟩, .o ⟨(some 24), (some (23, false)), false, .fieldA 1 (.t 2), none⟩, .o ⟨(some 25), (some (23, false)), false, .load 1 false (.t 24), none⟩, .o ⟨(some 26), (some (23, false)), false, .fieldA 0 (.t 5), none⟩, .o ⟨(some 27), (some (23, false)), false, .load 1 false (.t 26), none⟩, .o ⟨(some 28), (some (23, false)), false, .bin .eql (.t 25) (.t 27), (some [2, 5, 23, 28])⟩, .o ⟨(some 29), none, false, .pick (.t 23) (.c (.bool true)) (.t 28), none⟩, .o ⟨(some 30), none, false, .mv (.t 29), none⟩, .o ⟨(some 31), (some (30, false)), false, .fieldA 1 (.t 2), none⟩, .o ⟨(some 32), (some (30, false)), false, .load 1 false (.t 31), none⟩, .o ⟨(some 33), (some (30, false)), false, .fieldA 1 (.t 5), none⟩, .o ⟨(some 34), (some (30, false)), false, .load 1 false (.t 33), none⟩, .o ⟨(some 35), (some (30, false)), false, .bin .eql (.t 32) (.t 34), none⟩, .o ⟨(some 36), none, false, .pick (.t 30) (.c (.bool true)) (.t 35), none⟩, .o ⟨(some 4), none, false, .mv (.t 36), (some [4])⟩]
def k57_3 : ACode := .seq (.region k57_o2) .ret
def k57_4 : ACode := .seq (.region k57_o1) k57_3
def k57_5 : ACode := .seq (.region k57_o0) k57_4
@[simp, simp ↓] theorem k57_3r : sR k57_3 k57_o2 .ret := yR rfl
@[simp, simp ↓] theorem k57_4r : sR k57_4 k57_o1 k57_3 := yR rfl
@[simp, simp ↓] theorem k57_5r : sR k57_5 k57_o0 k57_4 := yR rfl
noncomputable abbrev k57_C : Orc → Cx := mkC Try.prog [5] 57 37 [.tmp 4]
theorem k57_of0 : OfP0 Try.prog Try.f57 57 37 k57_C k57_5 := @ofP0 _ _ _ _ _ _ _ _ Try.func57 (by decide +kernel) rfl (by kernel_rfl) rfl (by kernel_rfl)
theorem isFreeIn1_c (x : Gr) (e : T) (a : Int) (h : Heap) (ha : x.inR a) : ACalls Try.prog 57 [.int .i64 a, .ip [.int .i64 x.n, .snap 3 (x.ts.map T.av)], .ip [.int .i64 e.f, .int .i64 e.t, .int .i64 e.s]] h (fun v h' => v = .bool (decide (e.meet (x.e a))) ∧ h' = h) := by
  obtain ⟨hk1, hk2⟩ := Gr.e_at ha
  have g1 := ha.1
  refine k57_of0 rfl noPure fun I => ?_
  rw [hk2]
  refine Run2.of I 1000 ?_
  simp -implicitDefEqProofs [hk1, g1, T.meet]
  grind
abbrev k45_o0 : List AJ := [.o ⟨(some 3), none, false, .box false 2 (.t 0), none⟩, .o ⟨(some 6), none, false, .mv (.c (.bool false)), (some [1, 2, 3])⟩]
abbrev k45_o1 : List AJ := [.o ⟨(some 8), none, false, .fieldA 1 (.t 3), none⟩, .o ⟨(some 9), none, false, .load 1 false (.t 8), none⟩, .o ⟨(some 10), none, false, .mv (.t 2), none⟩, .o ⟨(some 11), none, false, .idxA 3 (.t 9) (.t 10), none⟩, .o ⟨(some 12), none, false, .load 3 true (.t 11), none⟩, .v 7 3 (.agg [(.int .i64 0), (.int .i64 0), (.int .i64 0)]) [] (.t 12) (some [1, 3, 7])]
abbrev k45_o2 : List AJ := [.o ⟨(some 13), none, false, .mv (.t 1), none⟩, .o ⟨(some 14), none, false, .mkfn 57 [(.t 3), (.t 7)], none⟩, .o ⟨(some 15), none, false, .call 30 [(.t 13), (.t 14)], none⟩, .o ⟨(some 16), none, false, .un .not (.t 15), none⟩, .o ⟨(some 6), none, false, .mv (.t 16), (some [6])⟩]
def k45_3 : ACode := .seq (.region k45_o2) .ret
def k45_4 : ACode := .seq (.region k45_o1) k45_3
def k45_5 : ACode := .seq (.region k45_o0) k45_4
@[simp, simp ↓] theorem k45_3r : sR k45_3 k45_o2 .ret := yR rfl
@[simp, simp ↓] theorem k45_4r : sR k45_4 k45_o1 k45_3 := yR rfl
@[simp, simp ↓] theorem k45_5r : sR k45_5 k45_o0 k45_4 := yR rfl
noncomputable abbrev k45_C : Orc → Cx := mkC Try.prog [7] 45 17 [.tmp 6]
theorem k45_of0 : OfP0 Try.prog Try.f45 45 17 k45_C k45_5 := @ofP0 _ _ _ _ _ _ _ _ Try.func45 (by decide +kernel) rfl (by kernel_rfl) rfl (by kernel_rfl)
theorem isFreeIn_s (x : Gr) (r : List Int) (k : Int) (h : Heap) (hl : r.length ≤ 1048576) (hr : ∀ a ∈ r, x.inR a) (hk : x.inR k) : ACalls Try.prog 45 [x.av, .snap 1 (r.map iv), .int .i64 k] h (fun v h' => v = .bool (decide (x.free r k)) ∧ h' = h) := by
  obtain ⟨hk1, hk2⟩ := Gr.e_at hk
  have g1 := hk.1
  refine k45_of0 rfl noPure fun I => ?_
  refine Run2.of I 1000 ?_
  simp -implicitDefEqProofs [hk1, g1]
  rw [← hk2]
  refine (ContainsFunc_s r _ _ (fun a => decide ((x.e k).meet (x.e a))) h hl fun a ha => isFreeIn1_c x (x.e k) a h (hr a ha)).mono ?_
  rintro v h' ⟨rfl, rfl⟩
  refine gK.go ?_
  simp -implicitDefEqProofs
  rw [Bool.eq_iff_iff]
  simp [Gr.free, T.meet_comm]
abbrev k44_o0 : List AJ := [.o ⟨(some 2), none, false, .mv (.c (.int .i64 0)), (some [0])⟩]
abbrev k44_o1 : List AJ := [.o ⟨(some 3), none, false, .mv (.t 0), none⟩, .o ⟨(some 4), none, false, .len (.t 3), none⟩, .o ⟨(some 2), none, false, .mv (.t 4), (some [2])⟩]
def k44_2 : ACode := .seq (.region k44_o1) .ret
def k44_3 : ACode := .seq (.region k44_o0) k44_2
@[simp, simp ↓] theorem k44_2r : sR k44_2 k44_o1 .ret := yR rfl
@[simp, simp ↓] theorem k44_3r : sR k44_3 k44_o0 k44_2 := yR rfl
noncomputable abbrev k44_C : Orc → Cx := mkC Try.prog [] 44 5 [.tmp 2]
theorem k44_of0 : OfP0 Try.prog Try.f44 44 5 k44_C k44_3 := @ofP0 _ _ _ _ _ _ _ _ Try.func44 (by decide +kernel) rfl (by kernel_rfl) rfl (by kernel_rfl)
theorem sizeE_s (l : List T) (h : Heap) : ACalls Try.prog 44 [.snap 3 (l.map T.av)] h (fun v h' => v = .int .i64 l.length ∧ h' = h) := by
  refine k44_of0 rfl noPure fun I => ?_
  refine Run2.of I 1000 ?_
  simp -implicitDefEqProofs
noncomputable def o_sizeE : List AV → Option (Prop × AV) := tab (fun (x : List T) => match x with | l => [.snap 3 (l.map T.av)]) (fun x => match x with | l => True) (fun x => match x with | l => .int .i64 l.length)
@[simp] theorem o_sizeE_e (l : List T) : o_sizeE [.snap 3 (l.map T.av)] = some (True, .int .i64 l.length) := tab_at (enc := fun (x : List T) => match x with | l => [.snap 3 (l.map T.av)]) (fun x y h => by
  simp at h; simp [h] <;> omega) _ _ l
theorem o_sizeE_k : Knows Try.prog 44 o_sizeE := tab_knows fun x hx h => by
  exact sizeE_s x h
abbrev k48_o0 : List AJ := [.o ⟨(some 2), none, false, .mv (.c .nilsl), (some [0])⟩]
abbrev k48_o1 : List AJ := [.o ⟨(some 3), none, false, .mv (.c .nilsl), (some [0, 3])⟩]
abbrev k48_o2 : List AJ := [.o ⟨(some 5), none, false, .mv (.t 0), none⟩, .o ⟨(some 6), none, false, .mv (.c (.int .i64 0)), (some [3, 5, 6])⟩]
abbrev k48_o3 : List AJ := [.o ⟨(some 7), none, false, .bin .lss (.t 6) (.t 5), (some [3, 5, 6, 7])⟩]
abbrev k48_o4 : List AJ := [.o ⟨(some 8), none, false, .mv (.t 6), none⟩, .o ⟨(some 4), none, false, .mv (.t 8), (some [3, 4, 5, 6])⟩]
abbrev k48_o5 : List AJ := [.o ⟨(some 9), none, false, .mv (.t 3), none⟩, .o ⟨(some 10), none, false, .mv (.t 4), none⟩, .o ⟨(some 11), none, false, .bsl false 1 [(.t 10)], none⟩, .o ⟨(some 12), none, false, .append 1 8 (.t 9) (.t 11), none⟩, .o ⟨(some 3), none, false, .mv (.t 12), (some [3, 5, 6])⟩]
def k48_6 : ACode := .region k48_o5
def k48_7 : ACode := .seq (.region k48_o4) k48_6
abbrev k48_o6 : List AJ := [.o ⟨(some 13), none, true, .bin .add (.t 6) (.c (.int .i64 1)), none⟩, .o ⟨(some 6), none, false, .mv (.t 13), (some [3, 5, 6])⟩]
def k48_9 : ACode := .region k48_o6
def k48_10 : ACode := .seq (.block 1 k48_7) k48_9
def k48_11 : ACode := .seq (.cond (.t 7) .skip (.exit 0)) k48_10
def k48_12 : ACode := .seq (.region k48_o3) k48_11
def k48_13 : ACode := .loop k48_12
def k48_14 : ACode := .block 0 k48_13
def k48_15 : ACode := .seq (.region k48_o2) k48_14
abbrev k48_o7 : List AJ := [.o ⟨(some 14), none, false, .mv (.t 3), none⟩, .o ⟨(some 2), none, false, .mv (.t 14), (some [2])⟩]
def k48_17 : ACode := .seq (.region k48_o7) .ret
def k48_18 : ACode := .seq k48_15 k48_17
def k48_19 : ACode := .seq (.region k48_o1) k48_18
def k48_20 : ACode := .seq (.region k48_o0) k48_19
@[simp, simp ↓] theorem k48_6r : rR k48_6 k48_o5 := zR rfl
@[simp, simp ↓] theorem k48_7r : sR k48_7 k48_o4 k48_6 := yR rfl
@[simp, simp ↓] theorem k48_9r : rR k48_9 k48_o6 := zR rfl
@[simp, simp ↓] theorem k48_10r : sB k48_10 1 k48_7 k48_9 := yB rfl
@[simp, simp ↓] theorem k48_11r : sC k48_11 (.t 7) .skip (.exit 0) k48_10 := yC rfl
@[simp, simp ↓] theorem k48_12r : sR k48_12 k48_o3 k48_11 := yR rfl
@[simp, simp ↓] theorem k48_13r : rL k48_13 k48_12 := zL rfl
@[simp, simp ↓] theorem k48_14r : rB k48_14 0 k48_13 := zB rfl
@[simp, simp ↓] theorem k48_15r : sR k48_15 k48_o2 k48_14 := yR rfl
@[simp, simp ↓] theorem k48_17r : sR k48_17 k48_o7 .ret := yR rfl
@[simp, simp ↓] theorem k48_18r : rS k48_18 k48_15 k48_17 := zS rfl
@[simp, simp ↓] theorem k48_19r : sR k48_19 k48_o1 k48_18 := yR rfl
@[simp, simp ↓] theorem k48_20r : sR k48_20 k48_o0 k48_19 := yR rfl
noncomputable abbrev k48_C : Orc → Cx := mkC Try.prog [] 48 15 [.tmp 2]
theorem k48_of0 : OfP0 Try.prog Try.f48 48 15 k48_C k48_20 := @ofP0 _ _ _ _ _ _ _ _ Try.func48 (by decide +kernel) rfl (by kernel_rfl) rfl (by kernel_rfl)
/-- The numbers from 0. -/
def upto (n : Nat) : List Int := (List.range n).map fun (i : Nat) => (i : Int)
theorem upto_succ (n : Nat) : upto (n + 1) = upto n ++ [(n : Int)] := by simp [upto, List.range_succ]
@[simp] theorem upto_length (n : Nat) : (upto n).length = n := by simp [upto]
theorem firstChoice_g (n : Nat) (h : Heap) (hn : n ≤ 1048576) : ACalls Try.prog 48 [.int .i64 n] h (fun v h' => ∃ hp, Grow 1 v ((upto n).map iv) hp ∧ h' = hp ++ h) := by
  refine k48_of0 rfl noPure fun I => ?_
  refine Run2.of I 1000 ?_
  simp -implicitDefEqProofs
  refine Run2.loopE (α := Nat × AV × Heap) (fun s => [(3, s.2.1), (5, .int .i64 n), (6, .int .i64 (s.1 : Nat))]) (fun s => s.2.2 ++ h) (fun s => n - s.1) (fun s => s.1 ≤ n ∧ Grow 1 s.2.1 ((upto s.1).map iv) s.2.2) (0, .nilsl, []) (by simp) rfl ⟨Nat.zero_le _, by simpa [upto] using Grow.nil⟩ ?_
  rintro ⟨i, w, hp⟩ ⟨hi, hg⟩ ih
  simp only at hi hg
  have hcell := hg.cell
  by_cases hlt : i < n
  · have go := fun w' hp' (g : Grow 1 w' ((upto i).map iv ++ [.int .i64 i]) hp') => ih (i + 1, w', hp') ⟨hlt, by rw [upto_succ]; simpa using g⟩ (by simp; omega)
    clear ih
    refine Run2.of I 1000 ?_
    simp -implicitDefEqProofs [hlt, hcell]
    refine hg.app (by simp; omega) (by simp) fun w' hp' hg' => ?_
    have hcell' := hg'.cell
    simp -implicitDefEqProofs [hcell']
    refine ⟨by omega, ?_⟩
    simpa using go w' hp' hg'
  · obtain rfl : i = n := by omega
    refine Run2.of I 1000 ?_
    simp -implicitDefEqProofs [hcell]
    exact hg
theorem firstChoice_c (n : Nat) (h : Heap) (hn : n ≤ 1048576) : ACalls Try.prog 48 [.int .i64 n] h (fun v h' => v = .snap 1 ((upto n).map iv) ∧ h' = h) := by
  refine ACalls.post ((firstChoice_g n h hn).mono ?_)
  rintro v h' ⟨hp, g, rfl⟩
  exact g.froze (fun x => x) (fun _ _ _ => rfl) (fun _ _ h => h) (.base ⟨rfl, rfl⟩)
abbrev k47_o0 : List AJ := [.o ⟨(some 4), none, false, .mv (.c (.bool false)), (some [0, 1])⟩]
abbrev k47_o1 : List AJ := [.o ⟨(some 6), none, false, .mv (.t 0), none⟩, .o ⟨(some 7), none, false, .len (.t 6), none⟩, .o ⟨(some 8), none, false, .mv (.t 1), none⟩, .o ⟨(some 9), none, false, .len (.t 8), none⟩, .o ⟨(some 10), none, false, .bin .neq (.t 7) (.t 9), (some [0, 1, 10])⟩]
abbrev k47_o2 : List AJ := [.o ⟨(some 4), none, false, .mv (.c (.bool false)), (some [4])⟩]
def k47_3 : ACode := .seq (.region k47_o2) .ret
def k47_4 : ACode := .cond (.t 10) k47_3 .skip
def k47_5 : ACode := .seq (.region k47_o1) k47_4
abbrev k47_o3 : List AJ := [.o ⟨(some 11), none, false, .mv (.t 0), none⟩, .o ⟨(some 12), none, false, .len (.t 11), none⟩, .o ⟨(some 13), none, false, .mv (.c (.int .i64 0)), (some [0, 1, 12, 13])⟩]
abbrev k47_o4 : List AJ := [.o ⟨(some 14), none, false, .bin .lss (.t 13) (.t 12), (some [0, 1, 12, 13, 14])⟩]
abbrev k47_o5 : List AJ := [.o ⟨(some 15), none, false, .mv (.t 13), none⟩, .o ⟨(some 5), none, false, .mv (.t 15), (some [0, 1, 5, 12, 13])⟩]
abbrev k47_o6 : List AI := [⟨(some 16), none, false, .mv (.t 0), none⟩, ⟨(some 17), none, false, .mv (.t 5), none⟩, ⟨(some 18), none, false, .idxA 1 (.t 16) (.t 17), none⟩, ⟨(some 19), none, false, .load 1 false (.t 18), none⟩, ⟨(some 20), none, false, .mv (.t 1), none⟩, ⟨(some 21), none, false, .mv (.t 5), none⟩, ⟨(some 22), none, false, .idxA 1 (.t 20) (.t 21), none⟩, ⟨(some 23), none, false, .load 1 false (.t 22), none⟩, ⟨(some 24), none, false, .bin .neq (.t 19) (.t 23), (some [0, 1, 12, 13, 24])⟩]
abbrev k47_o7 : List AJ := [.o ⟨(some 4), none, false, .mv (.c (.bool false)), (some [4])⟩]
def k47_12 : ACode := .seq (.region k47_o7) .ret
def k47_13 : ACode := .cond (.t 24) k47_12 .skip
def k47_14 : ACode := .seq (.draw k47_o6 [] rfl) k47_13
def k47_15 : ACode := .seq (.region k47_o5) k47_14
abbrev k47_o8 : List AJ := [.o ⟨(some 25), none, true, .bin .add (.t 13) (.c (.int .i64 1)), none⟩, .o ⟨(some 13), none, false, .mv (.t 25), (some [0, 1, 12, 13])⟩]
def k47_17 : ACode := .region k47_o8
def k47_18 : ACode := .seq (.block 1 k47_15) k47_17
def k47_19 : ACode := .seq (.cond (.t 14) .skip (.exit 0)) k47_18
def k47_20 : ACode := .seq (.region k47_o4) k47_19
def k47_21 : ACode := .loop k47_20
def k47_22 : ACode := .block 0 k47_21
def k47_23 : ACode := .seq (.region k47_o3) k47_22
abbrev k47_o9 : List AJ := [.o ⟨(some 4), none, false, .mv (.c (.bool true)), (some [4])⟩]
def k47_25 : ACode := .seq (.region k47_o9) .ret
def k47_26 : ACode := .seq k47_23 k47_25
def k47_27 : ACode := .seq k47_5 k47_26
def k47_28 : ACode := .seq (.region k47_o0) k47_27
@[simp, simp ↓] theorem k47_3r : sR k47_3 k47_o2 .ret := yR rfl
@[simp, simp ↓] theorem k47_4r : rC k47_4 (.t 10) k47_3 .skip := zC rfl
@[simp, simp ↓] theorem k47_5r : sR k47_5 k47_o1 k47_4 := yR rfl
@[simp, simp ↓] theorem k47_12r : sR k47_12 k47_o7 .ret := yR rfl
@[simp, simp ↓] theorem k47_13r : rC k47_13 (.t 24) k47_12 .skip := zC rfl
@[simp, simp ↓] theorem k47_14r : sD k47_14 k47_o6 [] k47_13 := yD rfl
@[simp, simp ↓] theorem k47_15r : sR k47_15 k47_o5 k47_14 := yR rfl
@[simp, simp ↓] theorem k47_17r : rR k47_17 k47_o8 := zR rfl
@[simp, simp ↓] theorem k47_18r : sB k47_18 1 k47_15 k47_17 := yB rfl
@[simp, simp ↓] theorem k47_19r : sC k47_19 (.t 14) .skip (.exit 0) k47_18 := yC rfl
@[simp, simp ↓] theorem k47_20r : sR k47_20 k47_o4 k47_19 := yR rfl
@[simp, simp ↓] theorem k47_21r : rL k47_21 k47_20 := zL rfl
@[simp, simp ↓] theorem k47_22r : rB k47_22 0 k47_21 := zB rfl
@[simp, simp ↓] theorem k47_23r : sR k47_23 k47_o3 k47_22 := yR rfl
@[simp, simp ↓] theorem k47_25r : sR k47_25 k47_o9 .ret := yR rfl
@[simp, simp ↓] theorem k47_26r : rS k47_26 k47_23 k47_25 := zS rfl
@[simp, simp ↓] theorem k47_27r : rS k47_27 k47_5 k47_26 := zS rfl
@[simp, simp ↓] theorem k47_28r : sR k47_28 k47_o0 k47_27 := yR rfl
noncomputable abbrev k47_C : Orc → Cx := mkC Try.prog [] 47 26 [.tmp 4]
theorem k47_of0 : OfP0 Try.prog Try.f47 47 26 k47_C k47_28 := @ofP0 _ _ _ _ _ _ _ _ Try.func47 (by decide +kernel) rfl (by kernel_rfl) rfl (by kernel_rfl)
theorem Equal_s (l m : List Int) (h : Heap) (hl : l.length ≤ 1048576) : ACalls Try.prog 47 [.snap 1 (l.map iv), .snap 1 (m.map iv)] h (fun v h' => v = .bool (decide (l = m)) ∧ h' = h) := by
  refine k47_of0 rfl noPure fun I => ?_
  refine Run2.of I 1000 ?_
  simp -implicitDefEqProofs
  refine ⟨by rintro hne rfl; exact hne rfl, fun hlen => ?_⟩
  refine Run2.loopE (fun (i : Nat) => [(0, .snap 1 (l.map iv)), (1, .snap 1 (m.map iv)), (12, .int .i64 l.length), (13, .int .i64 i)]) (fun i => h) (fun i => l.length - i) (fun i => i ≤ l.length ∧ l.take i = m.take i) 0 (by simp [hlen]) rfl (by simp) fun i hi ih => ?_
  by_cases hlt : i < l.length
  · have hlt' : i < m.length := by omega
    refine Run2.of I 1000 ?_
    simp -implicitDefEqProofs [hlt, hlt']
    constructor
    · rintro hne rfl
      exact hne rfl
    · intro he
      refine ⟨by omega, ?_⟩
      have := ih (i + 1) ⟨by omega, by rw [List.take_succ_eq_append_getElem hlt, List.take_succ_eq_append_getElem hlt', hi.2, he]⟩ (by omega)
      simpa using this
  · refine Run2.of I 1000 ?_
    simp -implicitDefEqProofs [hlt]
    have : i = l.length := by omega
    have h2 := hi.2
    rw [List.take_of_length_le (by omega), List.take_of_length_le (by omega)] at h2
    exact h2
noncomputable def o_l24Free : List AV → Option (Prop × AV) := tab (fun (x : Int × List T × List Int × Int) => match x with | (n, ts, r, k) => [.ip [.int .i64 n, .snap 3 (ts.map T.av)], .snap 1 (r.map iv), .int .i64 k]) (fun x => match x with | (n, ts, r, k) => (r.length ≤ 1048576 ∧ Gr.allR ⟨n, ts⟩ r ∧ Gr.inR ⟨n, ts⟩ k)) (fun x => match x with | (n, ts, r, k) => .bool (decide (Gr.free ⟨n, ts⟩ r k)))
@[simp] theorem o_l24Free_e (n : Int) (ts : List T) (r : List Int) (k : Int) : o_l24Free [.ip [.int .i64 n, .snap 3 (ts.map T.av)], .snap 1 (r.map iv), .int .i64 k] = some ((r.length ≤ 1048576 ∧ Gr.allR ⟨n, ts⟩ r ∧ Gr.inR ⟨n, ts⟩ k), .bool (decide (Gr.free ⟨n, ts⟩ r k))) := tab_at (enc := fun (x : Int × List T × List Int × Int) => match x with | (n, ts, r, k) => [.ip [.int .i64 n, .snap 3 (ts.map T.av)], .snap 1 (r.map iv), .int .i64 k]) (fun x y h => by
  obtain ⟨n1, ts1, r1, k1⟩ := x; obtain ⟨n2, ts2, r2, k2⟩ := y; simp at h; simp [h] <;> omega) _ _ (n, ts, r, k)
theorem o_l24Free_k : Knows Try.prog 40 o_l24Free := tab_knows fun x hx h => by
  obtain ⟨n, ts, r, k⟩ := x; exact l24Free_s ⟨n, ts⟩ r k h hx.1 hx.2.1 hx.2.2
noncomputable def o_isFreeIn : List AV → Option (Prop × AV) := tab (fun (x : Int × List T × List Int × Int) => match x with | (n, ts, r, k) => [.agg [.int .i64 n, .snap 3 (ts.map T.av)], .snap 1 (r.map iv), .int .i64 k]) (fun x => match x with | (n, ts, r, k) => (r.length ≤ 1048576 ∧ Gr.allR ⟨n, ts⟩ r ∧ Gr.inR ⟨n, ts⟩ k)) (fun x => match x with | (n, ts, r, k) => .bool (decide (Gr.free ⟨n, ts⟩ r k)))
@[simp] theorem o_isFreeIn_e (n : Int) (ts : List T) (r : List Int) (k : Int) : o_isFreeIn [.agg [.int .i64 n, .snap 3 (ts.map T.av)], .snap 1 (r.map iv), .int .i64 k] = some ((r.length ≤ 1048576 ∧ Gr.allR ⟨n, ts⟩ r ∧ Gr.inR ⟨n, ts⟩ k), .bool (decide (Gr.free ⟨n, ts⟩ r k))) := tab_at (enc := fun (x : Int × List T × List Int × Int) => match x with | (n, ts, r, k) => [.agg [.int .i64 n, .snap 3 (ts.map T.av)], .snap 1 (r.map iv), .int .i64 k]) (fun x y h => by
  obtain ⟨n1, ts1, r1, k1⟩ := x; obtain ⟨n2, ts2, r2, k2⟩ := y; simp at h; simp [h] <;> omega) _ _ (n, ts, r, k)
theorem o_isFreeIn_k : Knows Try.prog 45 o_isFreeIn := tab_knows fun x hx h => by
  obtain ⟨n, ts, r, k⟩ := x; exact isFreeIn_s ⟨n, ts⟩ r k h hx.1 hx.2.1 hx.2.2
end Go.AG
