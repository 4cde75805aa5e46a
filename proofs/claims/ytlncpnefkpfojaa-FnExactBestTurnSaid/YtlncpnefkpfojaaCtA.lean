/- Rounds: what the small functions of the program and of the reference give. No statement is made here. -/
import Derived.Test.YtlncpnefkpfojaaGrVal
import Derived.Test.YtlncpnefkpfojaaISS
namespace Go.AG
open Go.Proofs Go.Proofs.Ytlncpnefkpfojaa
set_option linter.unusedSimpArgs false
set_option linter.unusedVariables false
set_option maxRecDepth 4000
def T.meet (a b : T) : Prop := a.f = b.f ∨ a.f = b.t ∨ a.t = b.f ∨ a.t = b.t
instance (a b : T) : Decidable (a.meet b) := by unfold T.meet; infer_instance
theorem T.meet_comm (a b : T) : a.meet b ↔ b.meet a := by unfold T.meet; omega
/-- The edge with a number. -/
def Gr.e (x : Gr) (k : Int) : T := x.ts.getD k.toNat ⟨0, 0, 0⟩
def Gr.inR (x : Gr) (k : Int) : Prop := 0 ≤ k ∧ k < x.ts.length
instance (x : Gr) (k : Int) : Decidable (x.inR k) := by unfold Gr.inR; infer_instance
theorem Gr.e_at {x : Gr} {k : Int} (h : x.inR k) : ∃ hk : k.toNat < x.ts.length, x.e k = x.ts[k.toNat] := by
  have hk : k.toNat < x.ts.length := by unfold Gr.inR at h; omega
  exact ⟨hk, by simp [Gr.e, hk]⟩
def Gr.free (x : Gr) (r : List Int) (k : Int) : Prop := ∀ a ∈ r, ¬ (x.e a).meet (x.e k)
instance (x : Gr) (r : List Int) (k : Int) : Decidable (x.free r k) := by unfold Gr.free; infer_instance
def allIn (l : List Int) (p : Int) : Prop := ∀ a ∈ l, 0 ≤ a ∧ a < p
noncomputable instance (l : List Int) (p : Int) : Decidable (allIn l p) := Classical.propDecidable _
def btw (l : List Int) (a b : Int) : Prop := ∀ k ∈ l, a ≤ k ∧ k ≤ b
def Gr.allR (x : Gr) (r : List Int) : Prop := ∀ a ∈ r, x.inR a
def rising (r : List Int) : Prop := ∀ j (h : j + 1 < r.length), r[j] < r[j + 1]
noncomputable instance (l : List Int) (a b : Int) : Decidable (btw l a b ∧ rising l) := Classical.propDecidable _
noncomputable instance (r : List Int) : Decidable (rising r) := Classical.propDecidable _
theorem rising_to {r : List Int} (i : Nat) (h : ∀ j (h : j + 1 < r.length), j + 1 < i → r[j] < r[j + 1]) (hi : r.length ≤ i) : rising r := fun j hj => h j hj (by omega)
abbrev c_slices_IndexFunc_int64_int64_o0 : List AJ := [.o ⟨(some 4), none, false, .mv (.c (.int .i64 0)), (some [0, 1])⟩]
def c_slices_IndexFunc_int64_int64_0 : ACode := .region c_slices_IndexFunc_int64_int64_o0
abbrev c_slices_IndexFunc_int64_int64_o1 : List AJ := [.o ⟨(some 6), none, false, .mv (.t 0), none⟩, .o ⟨(some 7), none, false, .len (.t 6), none⟩, .o ⟨(some 8), none, false, .mv (.c (.int .i64 0)), (some [0, 1, 7, 8])⟩]
def c_slices_IndexFunc_int64_int64_1 : ACode := .region c_slices_IndexFunc_int64_int64_o1
abbrev c_slices_IndexFunc_int64_int64_o2 : List AJ := [.o ⟨(some 9), none, false, .bin .lss (.t 8) (.t 7), (some [0, 1, 7, 8, 9])⟩]
def c_slices_IndexFunc_int64_int64_2 : ACode := .region c_slices_IndexFunc_int64_int64_o2
def c_slices_IndexFunc_int64_int64_3 : ACode := .cond (.t 9) .skip (.exit 0)
abbrev c_slices_IndexFunc_int64_int64_o3 : List AJ := [.o ⟨(some 10), none, false, .mv (.t 8), none⟩, .o ⟨(some 5), none, false, .mv (.t 10), (some [0, 1, 5, 7, 8])⟩]
def c_slices_IndexFunc_int64_int64_4 : ACode := .region c_slices_IndexFunc_int64_int64_o3
abbrev c_slices_IndexFunc_int64_int64_o4 : List AJ := [.o ⟨(some 11), none, false, .mv (.t 1), none⟩, .o ⟨(some 12), none, false, .mv (.t 0), none⟩, .o ⟨(some 13), none, false, .mv (.t 5), none⟩, .o ⟨(some 14), none, false, .idxA 1 (.t 12) (.t 13), none⟩, .o ⟨(some 15), none, false, .load 1 false (.t 14), none⟩, .o ⟨(some 16), none, false, .callv (.t 11) [(.t 15)], (some [0, 1, 5, 7, 8, 16])⟩]
def c_slices_IndexFunc_int64_int64_5 : ACode := .region c_slices_IndexFunc_int64_int64_o4
abbrev c_slices_IndexFunc_int64_int64_o5 : List AJ := [.o ⟨(some 17), none, false, .mv (.t 5), none⟩, .o ⟨(some 4), none, false, .mv (.t 17), (some [4])⟩]
def c_slices_IndexFunc_int64_int64_6 : ACode := .region c_slices_IndexFunc_int64_int64_o5
def c_slices_IndexFunc_int64_int64_7 : ACode := .seq c_slices_IndexFunc_int64_int64_6 .ret
def c_slices_IndexFunc_int64_int64_8 : ACode := .cond (.t 16) c_slices_IndexFunc_int64_int64_7 .skip
def c_slices_IndexFunc_int64_int64_9 : ACode := .seq c_slices_IndexFunc_int64_int64_5 c_slices_IndexFunc_int64_int64_8
def c_slices_IndexFunc_int64_int64_10 : ACode := .seq c_slices_IndexFunc_int64_int64_4 c_slices_IndexFunc_int64_int64_9
def c_slices_IndexFunc_int64_int64_11 : ACode := .block 1 c_slices_IndexFunc_int64_int64_10
abbrev c_slices_IndexFunc_int64_int64_o6 : List AJ := [.o ⟨(some 18), none, true, .bin .add (.t 8) (.c (.int .i64 1)), none⟩, .o ⟨(some 8), none, false, .mv (.t 18), (some [0, 1, 7, 8])⟩]
def c_slices_IndexFunc_int64_int64_12 : ACode := .region c_slices_IndexFunc_int64_int64_o6
def c_slices_IndexFunc_int64_int64_13 : ACode := .seq c_slices_IndexFunc_int64_int64_11 c_slices_IndexFunc_int64_int64_12
def c_slices_IndexFunc_int64_int64_14 : ACode := .seq c_slices_IndexFunc_int64_int64_3 c_slices_IndexFunc_int64_int64_13
def c_slices_IndexFunc_int64_int64_15 : ACode := .seq c_slices_IndexFunc_int64_int64_2 c_slices_IndexFunc_int64_int64_14
def c_slices_IndexFunc_int64_int64_16 : ACode := .loop c_slices_IndexFunc_int64_int64_15
def c_slices_IndexFunc_int64_int64_17 : ACode := .block 0 c_slices_IndexFunc_int64_int64_16
def c_slices_IndexFunc_int64_int64_18 : ACode := .seq c_slices_IndexFunc_int64_int64_1 c_slices_IndexFunc_int64_int64_17
abbrev c_slices_IndexFunc_int64_int64_o7 : List AJ := [.o ⟨(some 4), none, false, .mv (.c (.int .i64 (-1))), (some [4])⟩]
def c_slices_IndexFunc_int64_int64_19 : ACode := .region c_slices_IndexFunc_int64_int64_o7
def c_slices_IndexFunc_int64_int64_20 : ACode := .seq c_slices_IndexFunc_int64_int64_19 .ret
def c_slices_IndexFunc_int64_int64_21 : ACode := .seq c_slices_IndexFunc_int64_int64_18 c_slices_IndexFunc_int64_int64_20
def c_slices_IndexFunc_int64_int64_22 : ACode := .seq c_slices_IndexFunc_int64_int64_0 c_slices_IndexFunc_int64_int64_21
section
variable (C : Cx) (n : Nat) (sk : List AItem) (e : Env) (h : Heap) (R : AV → Heap → Prop)
@[simp, simp ↓] theorem c_slices_IndexFunc_int64_int64_0_r : vc2 C (n + 1) [] (.code c_slices_IndexFunc_int64_int64_0 :: sk) e h R = (vc2 C n c_slices_IndexFunc_int64_int64_o0 sk e h R) := nr rfl
@[simp, simp ↓] theorem c_slices_IndexFunc_int64_int64_1_r : vc2 C (n + 1) [] (.code c_slices_IndexFunc_int64_int64_1 :: sk) e h R = (vc2 C n c_slices_IndexFunc_int64_int64_o1 sk e h R) := nr rfl
@[simp, simp ↓] theorem c_slices_IndexFunc_int64_int64_2_r : vc2 C (n + 1) [] (.code c_slices_IndexFunc_int64_int64_2 :: sk) e h R = (vc2 C n c_slices_IndexFunc_int64_int64_o2 sk e h R) := nr rfl
@[simp, simp ↓] theorem c_slices_IndexFunc_int64_int64_3_r : vc2 C (n + 1) [] (.code c_slices_IndexFunc_int64_int64_3 :: sk) e h R = (condK (ev e (.t 9)) (vc2 C n [] (.code .skip :: sk) e h R) (vc2 C n [] (.code (.exit 0) :: sk) e h R)) := nr rfl
@[simp, simp ↓] theorem c_slices_IndexFunc_int64_int64_4_r : vc2 C (n + 1) [] (.code c_slices_IndexFunc_int64_int64_4 :: sk) e h R = (vc2 C n c_slices_IndexFunc_int64_int64_o3 sk e h R) := nr rfl
@[simp, simp ↓] theorem c_slices_IndexFunc_int64_int64_5_r : vc2 C (n + 1) [] (.code c_slices_IndexFunc_int64_int64_5 :: sk) e h R = (vc2 C n c_slices_IndexFunc_int64_int64_o4 sk e h R) := nr rfl
@[simp, simp ↓] theorem c_slices_IndexFunc_int64_int64_6_r : vc2 C (n + 1) [] (.code c_slices_IndexFunc_int64_int64_6 :: sk) e h R = (vc2 C n c_slices_IndexFunc_int64_int64_o5 sk e h R) := nr rfl
@[simp, simp ↓] theorem c_slices_IndexFunc_int64_int64_7_r : vc2 C (n + 1) [] (.code c_slices_IndexFunc_int64_int64_7 :: sk) e h R = (vc2 C n [] (.code c_slices_IndexFunc_int64_int64_6 :: .code .ret :: sk) e h R) := nr rfl
@[simp, simp ↓] theorem c_slices_IndexFunc_int64_int64_8_r : vc2 C (n + 1) [] (.code c_slices_IndexFunc_int64_int64_8 :: sk) e h R = (condK (ev e (.t 16)) (vc2 C n [] (.code c_slices_IndexFunc_int64_int64_7 :: sk) e h R) (vc2 C n [] (.code .skip :: sk) e h R)) := nr rfl
@[simp, simp ↓] theorem c_slices_IndexFunc_int64_int64_9_r : vc2 C (n + 1) [] (.code c_slices_IndexFunc_int64_int64_9 :: sk) e h R = (vc2 C n [] (.code c_slices_IndexFunc_int64_int64_5 :: .code c_slices_IndexFunc_int64_int64_8 :: sk) e h R) := nr rfl
@[simp, simp ↓] theorem c_slices_IndexFunc_int64_int64_10_r : vc2 C (n + 1) [] (.code c_slices_IndexFunc_int64_int64_10 :: sk) e h R = (vc2 C n [] (.code c_slices_IndexFunc_int64_int64_4 :: .code c_slices_IndexFunc_int64_int64_9 :: sk) e h R) := nr rfl
@[simp, simp ↓] theorem c_slices_IndexFunc_int64_int64_11_r : vc2 C (n + 1) [] (.code c_slices_IndexFunc_int64_int64_11 :: sk) e h R = (vc2 C n [] (.code c_slices_IndexFunc_int64_int64_10 :: .inBlock 1 :: sk) e h R) := nr rfl
@[simp, simp ↓] theorem c_slices_IndexFunc_int64_int64_12_r : vc2 C (n + 1) [] (.code c_slices_IndexFunc_int64_int64_12 :: sk) e h R = (vc2 C n c_slices_IndexFunc_int64_int64_o6 sk e h R) := nr rfl
@[simp, simp ↓] theorem c_slices_IndexFunc_int64_int64_13_r : vc2 C (n + 1) [] (.code c_slices_IndexFunc_int64_int64_13 :: sk) e h R = (vc2 C n [] (.code c_slices_IndexFunc_int64_int64_11 :: .code c_slices_IndexFunc_int64_int64_12 :: sk) e h R) := nr rfl
@[simp, simp ↓] theorem c_slices_IndexFunc_int64_int64_14_r : vc2 C (n + 1) [] (.code c_slices_IndexFunc_int64_int64_14 :: sk) e h R = (vc2 C n [] (.code c_slices_IndexFunc_int64_int64_3 :: .code c_slices_IndexFunc_int64_int64_13 :: sk) e h R) := nr rfl
@[simp, simp ↓] theorem c_slices_IndexFunc_int64_int64_15_r : vc2 C (n + 1) [] (.code c_slices_IndexFunc_int64_int64_15 :: sk) e h R = (vc2 C n [] (.code c_slices_IndexFunc_int64_int64_2 :: .code c_slices_IndexFunc_int64_int64_14 :: sk) e h R) := nr rfl
@[simp, simp ↓] theorem c_slices_IndexFunc_int64_int64_16_r : vc2 C (n + 1) [] (.code c_slices_IndexFunc_int64_int64_16 :: sk) e h R = (Run2 C (.code c_slices_IndexFunc_int64_int64_15 :: .inLoop c_slices_IndexFunc_int64_int64_15 :: sk) e h R) := nr rfl
@[simp, simp ↓] theorem c_slices_IndexFunc_int64_int64_17_r : vc2 C (n + 1) [] (.code c_slices_IndexFunc_int64_int64_17 :: sk) e h R = (vc2 C n [] (.code c_slices_IndexFunc_int64_int64_16 :: .inBlock 0 :: sk) e h R) := nr rfl
@[simp, simp ↓] theorem c_slices_IndexFunc_int64_int64_18_r : vc2 C (n + 1) [] (.code c_slices_IndexFunc_int64_int64_18 :: sk) e h R = (vc2 C n [] (.code c_slices_IndexFunc_int64_int64_1 :: .code c_slices_IndexFunc_int64_int64_17 :: sk) e h R) := nr rfl
@[simp, simp ↓] theorem c_slices_IndexFunc_int64_int64_19_r : vc2 C (n + 1) [] (.code c_slices_IndexFunc_int64_int64_19 :: sk) e h R = (vc2 C n c_slices_IndexFunc_int64_int64_o7 sk e h R) := nr rfl
@[simp, simp ↓] theorem c_slices_IndexFunc_int64_int64_20_r : vc2 C (n + 1) [] (.code c_slices_IndexFunc_int64_int64_20 :: sk) e h R = (vc2 C n [] (.code c_slices_IndexFunc_int64_int64_19 :: .code .ret :: sk) e h R) := nr rfl
@[simp, simp ↓] theorem c_slices_IndexFunc_int64_int64_21_r : vc2 C (n + 1) [] (.code c_slices_IndexFunc_int64_int64_21 :: sk) e h R = (vc2 C n [] (.code c_slices_IndexFunc_int64_int64_18 :: .code c_slices_IndexFunc_int64_int64_20 :: sk) e h R) := nr rfl
@[simp, simp ↓] theorem c_slices_IndexFunc_int64_int64_22_r : vc2 C (n + 1) [] (.code c_slices_IndexFunc_int64_int64_22 :: sk) e h R = (vc2 C n [] (.code c_slices_IndexFunc_int64_int64_0 :: .code c_slices_IndexFunc_int64_int64_21 :: sk) e h R) := nr rfl
end
noncomputable def c_slices_IndexFunc_int64_int64_C (orc : Orc) : Cx := ⟨Try.prog, [], 141, 19, [.tmp 4], orc⟩
@[simp] theorem c_slices_IndexFunc_int64_int64_C_P (orc : Orc) : (c_slices_IndexFunc_int64_int64_C orc).P = Try.prog := nr rfl
@[simp] theorem c_slices_IndexFunc_int64_int64_C_o (orc : Orc) : (c_slices_IndexFunc_int64_int64_C orc).orc = orc := nr rfl
@[simp] theorem c_slices_IndexFunc_int64_int64_C_r (orc : Orc) : (c_slices_IndexFunc_int64_int64_C orc).res = [.tmp 4] := nr rfl
theorem c_slices_IndexFunc_int64_int64_of {args : List AV} {h : Heap} {R : AV → Heap → Prop} {k : Nat} (ha : args.length = k) {orc : Orc} (hp : Pure Try.prog orc) (hk : Is (c_slices_IndexFunc_int64_int64_C orc) Try.f141 → Run2 (c_slices_IndexFunc_int64_int64_C orc) [.code c_slices_IndexFunc_int64_int64_22] (argEnv 0 args) h (Post R)) (hle : k ≤ 19 := by simp) : ACalls Try.prog 141 args h R :=
  contract2 [] c_slices_IndexFunc_int64_int64_22 [.tmp 4] Try.func141 (by decide +kernel) rfl (by kernel_rfl) (by rw [ha]; exact hle) (by kernel_rfl) hp hk
theorem c_slices_IndexFunc_int64_int64_of0 {args : List AV} {h : Heap} {R : AV → Heap → Prop} {k : Nat} (ha : args.length = k) {orc : Orc} (hp : Pure Try.prog orc) (hk : Is (c_slices_IndexFunc_int64_int64_C orc) Try.f141 → Run2 (c_slices_IndexFunc_int64_int64_C orc) [.code c_slices_IndexFunc_int64_int64_22] (argEnv 0 args) h R) (hle : k ≤ 19 := by simp) : ACalls Try.prog 141 args h R :=
  contract20 [] c_slices_IndexFunc_int64_int64_22 [.tmp 4] Try.func141 (by decide +kernel) rfl (by kernel_rfl) (by rw [ha]; exact hle) (by kernel_rfl) hp hk
/-- The first place where q holds. -/
def idxf (q : Int → Bool) (l : List Int) : Int := match l.findIdx? q with
  | some i => i
  | none => -1
theorem idxf_at {q : Int → Bool} {l : List Int} {i : Nat} (h : i < l.length) (hb : ∀ j (hj : j < l.length), j < i → q l[j] = false) (ht : q l[i] = true) : idxf q l = i := by
  have : l.findIdx? q = some i := List.findIdx?_eq_some_iff_getElem.2 ⟨h, ht, fun j hj => by simp [hb j (by omega) hj]⟩
  unfold idxf; rw [this]
theorem idxf_none {q : Int → Bool} {l : List Int} (hb : ∀ j (hj : j < l.length), q l[j] = false) : idxf q l = -1 := by
  have : l.findIdx? q = none := List.findIdx?_eq_none_iff.2 fun a ha => by
    obtain ⟨j, hj, rfl⟩ := List.mem_iff_getElem.1 ha
    simp [hb j hj]
  unfold idxf; rw [this]
theorem idxf_ge (q : Int → Bool) (l : List Int) : (0 ≤ idxf q l) ↔ ∃ a ∈ l, q a = true := by
  unfold idxf
  cases h : l.findIdx? q with
  | none =>
    rw [List.findIdx?_eq_none_iff] at h
    simp only [show ¬ (0 : Int) ≤ -1 by omega, false_iff]
    rintro ⟨a, ha, hq⟩
    have := h a ha
    rw [hq] at this; cases this
  | some i =>
    obtain ⟨hi, hq, _⟩ := List.findIdx?_eq_some_iff_getElem.1 h
    simp only [Int.natCast_nonneg, true_iff]
    exact ⟨_, List.getElem_mem hi, hq⟩
theorem IndexFunc_s (l : List Int) (g : FuncId) (caps : List AV) (q : Int → Bool) (h : Heap) (hl : l.length ≤ 1048576) (hq : ∀ a ∈ l, ACalls Try.prog g (.int .i64 a :: caps) h (fun v h' => v = .bool (q a) ∧ h' = h)) :
    ACalls Try.prog 141 [.snap 1 (l.map iv), .fn g caps] h (fun v h' => v = .int .i64 (idxf q l) ∧ h' = h) := by
  refine c_slices_IndexFunc_int64_int64_of0 rfl noPure fun I => ?_
  refine Run2.of I 1000 ?_
  simp -implicitDefEqProofs
  refine Run2.loopE (fun i => [(0, .snap 1 (l.map iv)), (1, .fn g caps), (7, .int .i64 l.length), (8, .int .i64 (i : Nat))]) (fun i => h) (fun i => l.length - i) (fun i => i ≤ l.length ∧ ∀ j (hj : j < l.length), j < i → q l[j] = false) 0 (by simp) rfl ⟨Nat.zero_le _, fun _ _ h => absurd h (Nat.not_lt_zero _)⟩ fun i hi ih => ?_
  by_cases hlt : i < l.length
  · have go := fun (h1 : q l[i] = false) => ih (i + 1) ⟨by omega, fun j hj hji => by
      rcases Nat.lt_or_ge j i with h | h
      · exact hi.2 j hj h
      · obtain rfl : j = i := by omega
        exact h1⟩ (by omega)
    have hat := idxf_at (q := q) hlt hi.2
    clear ih
    refine Run2.of I 1000 ?_
    simp -implicitDefEqProofs [hlt]
    refine (hq _ (List.getElem_mem hlt)).mono ?_
    rintro v h' ⟨rfl, rfl⟩
    refine gK.go ?_
    simp -implicitDefEqProofs
    refine ⟨fun h => (hat h).symm, fun h => ⟨by omega, ?_⟩⟩
    simpa using go h
  · obtain rfl : i = l.length := by omega
    have := idxf_none (q := q) (l := l) fun j hj => hi.2 j hj hj
    refine Run2.of I 1000 ?_
    simp -implicitDefEqProofs
    exact this.symm
abbrev c_slices_ContainsFunc_int64_int64_o0 : List AJ := [.o ⟨(some 4), none, false, .mv (.c (.bool false)), (some [0, 1])⟩]
def c_slices_ContainsFunc_int64_int64_0 : ACode := .region c_slices_ContainsFunc_int64_int64_o0
abbrev c_slices_ContainsFunc_int64_int64_o1 : List AJ := [.o ⟨(some 5), none, false, .mv (.t 0), none⟩, .o ⟨(some 6), none, false, .mv (.t 1), none⟩, .o ⟨(some 7), none, false, .call 141 [(.t 5), (.t 6)], none⟩, .o ⟨(some 8), none, false, .bin .geq (.t 7) (.c (.int .i64 0)), none⟩, .o ⟨(some 4), none, false, .mv (.t 8), (some [4])⟩]
def c_slices_ContainsFunc_int64_int64_1 : ACode := .region c_slices_ContainsFunc_int64_int64_o1
def c_slices_ContainsFunc_int64_int64_2 : ACode := .seq c_slices_ContainsFunc_int64_int64_1 .ret
def c_slices_ContainsFunc_int64_int64_3 : ACode := .seq c_slices_ContainsFunc_int64_int64_0 c_slices_ContainsFunc_int64_int64_2
section
variable (C : Cx) (n : Nat) (sk : List AItem) (e : Env) (h : Heap) (R : AV → Heap → Prop)
@[simp, simp ↓] theorem c_slices_ContainsFunc_int64_int64_0_r : vc2 C (n + 1) [] (.code c_slices_ContainsFunc_int64_int64_0 :: sk) e h R = (vc2 C n c_slices_ContainsFunc_int64_int64_o0 sk e h R) := nr rfl
@[simp, simp ↓] theorem c_slices_ContainsFunc_int64_int64_1_r : vc2 C (n + 1) [] (.code c_slices_ContainsFunc_int64_int64_1 :: sk) e h R = (vc2 C n c_slices_ContainsFunc_int64_int64_o1 sk e h R) := nr rfl
@[simp, simp ↓] theorem c_slices_ContainsFunc_int64_int64_2_r : vc2 C (n + 1) [] (.code c_slices_ContainsFunc_int64_int64_2 :: sk) e h R = (vc2 C n [] (.code c_slices_ContainsFunc_int64_int64_1 :: .code .ret :: sk) e h R) := nr rfl
@[simp, simp ↓] theorem c_slices_ContainsFunc_int64_int64_3_r : vc2 C (n + 1) [] (.code c_slices_ContainsFunc_int64_int64_3 :: sk) e h R = (vc2 C n [] (.code c_slices_ContainsFunc_int64_int64_0 :: .code c_slices_ContainsFunc_int64_int64_2 :: sk) e h R) := nr rfl
end
noncomputable def c_slices_ContainsFunc_int64_int64_C (orc : Orc) : Cx := ⟨Try.prog, [], 108, 9, [.tmp 4], orc⟩
@[simp] theorem c_slices_ContainsFunc_int64_int64_C_P (orc : Orc) : (c_slices_ContainsFunc_int64_int64_C orc).P = Try.prog := nr rfl
@[simp] theorem c_slices_ContainsFunc_int64_int64_C_o (orc : Orc) : (c_slices_ContainsFunc_int64_int64_C orc).orc = orc := nr rfl
@[simp] theorem c_slices_ContainsFunc_int64_int64_C_r (orc : Orc) : (c_slices_ContainsFunc_int64_int64_C orc).res = [.tmp 4] := nr rfl
theorem c_slices_ContainsFunc_int64_int64_of {args : List AV} {h : Heap} {R : AV → Heap → Prop} {k : Nat} (ha : args.length = k) {orc : Orc} (hp : Pure Try.prog orc) (hk : Is (c_slices_ContainsFunc_int64_int64_C orc) Try.f108 → Run2 (c_slices_ContainsFunc_int64_int64_C orc) [.code c_slices_ContainsFunc_int64_int64_3] (argEnv 0 args) h (Post R)) (hle : k ≤ 9 := by simp) : ACalls Try.prog 108 args h R :=
  contract2 [] c_slices_ContainsFunc_int64_int64_3 [.tmp 4] Try.func108 (by decide +kernel) rfl (by kernel_rfl) (by rw [ha]; exact hle) (by kernel_rfl) hp hk
theorem c_slices_ContainsFunc_int64_int64_of0 {args : List AV} {h : Heap} {R : AV → Heap → Prop} {k : Nat} (ha : args.length = k) {orc : Orc} (hp : Pure Try.prog orc) (hk : Is (c_slices_ContainsFunc_int64_int64_C orc) Try.f108 → Run2 (c_slices_ContainsFunc_int64_int64_C orc) [.code c_slices_ContainsFunc_int64_int64_3] (argEnv 0 args) h R) (hle : k ≤ 9 := by simp) : ACalls Try.prog 108 args h R :=
  contract20 [] c_slices_ContainsFunc_int64_int64_3 [.tmp 4] Try.func108 (by decide +kernel) rfl (by kernel_rfl) (by rw [ha]; exact hle) (by kernel_rfl) hp hk
theorem ContainsFunc_s (l : List Int) (g : FuncId) (caps : List AV) (q : Int → Bool) (h : Heap) (hl : l.length ≤ 1048576) (hq : ∀ a ∈ l, ACalls Try.prog g (.int .i64 a :: caps) h (fun v h' => v = .bool (q a) ∧ h' = h)) :
    ACalls Try.prog 108 [.snap 1 (l.map iv), .fn g caps] h (fun v h' => v = .bool (l.any q) ∧ h' = h) := by
  refine c_slices_ContainsFunc_int64_int64_of0 rfl noPure fun I => ?_
  refine Run2.of I 1000 ?_
  simp -implicitDefEqProofs
  refine (IndexFunc_s l g caps q h hl hq).mono ?_
  rintro v h' ⟨rfl, rfl⟩
  refine gK.go ?_
  simp -implicitDefEqProofs [idxf_ge]
  rw [Bool.eq_iff_iff]
  simp
abbrev c_impl_isElement_o0 : List AJ := [.o ⟨(some 4), none, false, .mv (.c (.bool false)), (some [0, 1])⟩]
def c_impl_isElement_0 : ACode := .region c_impl_isElement_o0
abbrev c_impl_isElement_o1 : List AJ := [.o ⟨(some 5), none, false, .mv (.t 0), none⟩, .o ⟨(some 6), none, false, .mv (.t 1), none⟩, .o ⟨(some 7), none, false, .bin .sub (.t 6) (.c (.int .i64 1)), none⟩, .o ⟨(some 8), none, false, .call 104 [(.t 5), (.c (.int .i64 0)), (.t 7)], none⟩, .o ⟨(some 4), none, false, .mv (.t 8), (some [4])⟩]
def c_impl_isElement_1 : ACode := .region c_impl_isElement_o1
def c_impl_isElement_2 : ACode := .seq c_impl_isElement_1 .ret
def c_impl_isElement_3 : ACode := .seq c_impl_isElement_0 c_impl_isElement_2
section
variable (C : Cx) (n : Nat) (sk : List AItem) (e : Env) (h : Heap) (R : AV → Heap → Prop)
@[simp, simp ↓] theorem c_impl_isElement_0_r : vc2 C (n + 1) [] (.code c_impl_isElement_0 :: sk) e h R = (vc2 C n c_impl_isElement_o0 sk e h R) := nr rfl
@[simp, simp ↓] theorem c_impl_isElement_1_r : vc2 C (n + 1) [] (.code c_impl_isElement_1 :: sk) e h R = (vc2 C n c_impl_isElement_o1 sk e h R) := nr rfl
@[simp, simp ↓] theorem c_impl_isElement_2_r : vc2 C (n + 1) [] (.code c_impl_isElement_2 :: sk) e h R = (vc2 C n [] (.code c_impl_isElement_1 :: .code .ret :: sk) e h R) := nr rfl
@[simp, simp ↓] theorem c_impl_isElement_3_r : vc2 C (n + 1) [] (.code c_impl_isElement_3 :: sk) e h R = (vc2 C n [] (.code c_impl_isElement_0 :: .code c_impl_isElement_2 :: sk) e h R) := nr rfl
end
noncomputable def c_impl_isElement_C (orc : Orc) : Cx := ⟨Try.prog, [], 84, 9, [.tmp 4], orc⟩
@[simp] theorem c_impl_isElement_C_P (orc : Orc) : (c_impl_isElement_C orc).P = Try.prog := nr rfl
@[simp] theorem c_impl_isElement_C_o (orc : Orc) : (c_impl_isElement_C orc).orc = orc := nr rfl
@[simp] theorem c_impl_isElement_C_r (orc : Orc) : (c_impl_isElement_C orc).res = [.tmp 4] := nr rfl
theorem c_impl_isElement_of {args : List AV} {h : Heap} {R : AV → Heap → Prop} {k : Nat} (ha : args.length = k) {orc : Orc} (hp : Pure Try.prog orc) (hk : Is (c_impl_isElement_C orc) Try.f84 → Run2 (c_impl_isElement_C orc) [.code c_impl_isElement_3] (argEnv 0 args) h (Post R)) (hle : k ≤ 9 := by simp) : ACalls Try.prog 84 args h R :=
  contract2 [] c_impl_isElement_3 [.tmp 4] Try.func84 (by decide +kernel) rfl (by kernel_rfl) (by rw [ha]; exact hle) (by kernel_rfl) hp hk
theorem c_impl_isElement_of0 {args : List AV} {h : Heap} {R : AV → Heap → Prop} {k : Nat} (ha : args.length = k) {orc : Orc} (hp : Pure Try.prog orc) (hk : Is (c_impl_isElement_C orc) Try.f84 → Run2 (c_impl_isElement_C orc) [.code c_impl_isElement_3] (argEnv 0 args) h R) (hle : k ≤ 9 := by simp) : ACalls Try.prog 84 args h R :=
  contract20 [] c_impl_isElement_3 [.tmp 4] Try.func84 (by decide +kernel) rfl (by kernel_rfl) (by rw [ha]; exact hle) (by kernel_rfl) hp hk
theorem isElement_c (a p : Int) (h : Heap) : ACalls Try.prog 84 [.int .i64 a, .int .i64 p] h (fun v h' => v = .bool (decide (0 ≤ a) && decide (a ≤ IntKind.i64.wrap (p - 1))) ∧ h' = h) := by
  refine c_impl_isElement_of0 rfl orc1_p fun I => ?_
  refine Run2.of I 1000 ?_
  simp -implicitDefEqProofs
noncomputable def o_isElement : List AV → Option (Prop × AV) := tab (fun (x : Int × Int) => match x with | (a, p) => [.int .i64 a, .int .i64 p]) (fun x => match x with | (a, p) => True) (fun x => match x with | (a, p) => .bool (decide (0 ≤ a) && decide (a ≤ IntKind.i64.wrap (p - 1))))
@[simp] theorem o_isElement_e (a : Int) (p : Int) : o_isElement [.int .i64 a, .int .i64 p] = some (True, .bool (decide (0 ≤ a) && decide (a ≤ IntKind.i64.wrap (p - 1)))) := tab_at (enc := fun (x : Int × Int) => match x with | (a, p) => [.int .i64 a, .int .i64 p]) (fun x y h => by
  obtain ⟨a1, p1⟩ := x; obtain ⟨a2, p2⟩ := y; simp at h; simp [h]) _ _ (a, p)
theorem o_isElement_k : Knows Try.prog 84 o_isElement := tab_knows fun x hx h => by
  obtain ⟨a, p⟩ := x; exact isElement_c _ _ h
abbrev c_impl_areElements_1_o0 : List AJ := [.o ⟨(some 3), none, false, .mv (.c (.bool false)), (some [0, 1])⟩]
def c_impl_areElements_1_0 : ACode := .region c_impl_areElements_1_o0
abbrev c_impl_areElements_1_o1 : List AJ := [.o ⟨(some 4), none, false, .mv (.t 0), none⟩, .o ⟨(some 5), none, false, .load 1 false (.t 1), none⟩, .o ⟨(some 6), none, false, .call 84 [(.t 4), (.t 5)], none⟩, .o ⟨(some 7), none, false, .un .not (.t 6), none⟩, .o ⟨(some 3), none, false, .mv (.t 7), (some [3])⟩]
def c_impl_areElements_1_1 : ACode := .region c_impl_areElements_1_o1
def c_impl_areElements_1_2 : ACode := .seq c_impl_areElements_1_1 .ret
def c_impl_areElements_1_3 : ACode := .seq c_impl_areElements_1_0 c_impl_areElements_1_2
section
variable (C : Cx) (n : Nat) (sk : List AItem) (e : Env) (h : Heap) (R : AV → Heap → Prop)
@[simp, simp ↓] theorem c_impl_areElements_1_0_r : vc2 C (n + 1) [] (.code c_impl_areElements_1_0 :: sk) e h R = (vc2 C n c_impl_areElements_1_o0 sk e h R) := nr rfl
@[simp, simp ↓] theorem c_impl_areElements_1_1_r : vc2 C (n + 1) [] (.code c_impl_areElements_1_1 :: sk) e h R = (vc2 C n c_impl_areElements_1_o1 sk e h R) := nr rfl
@[simp, simp ↓] theorem c_impl_areElements_1_2_r : vc2 C (n + 1) [] (.code c_impl_areElements_1_2 :: sk) e h R = (vc2 C n [] (.code c_impl_areElements_1_1 :: .code .ret :: sk) e h R) := nr rfl
@[simp, simp ↓] theorem c_impl_areElements_1_3_r : vc2 C (n + 1) [] (.code c_impl_areElements_1_3 :: sk) e h R = (vc2 C n [] (.code c_impl_areElements_1_0 :: .code c_impl_areElements_1_2 :: sk) e h R) := nr rfl
end
noncomputable def c_impl_areElements_1_C (orc : Orc) : Cx := ⟨Try.prog, [], 142, 8, [.tmp 3], orc⟩
@[simp] theorem c_impl_areElements_1_C_P (orc : Orc) : (c_impl_areElements_1_C orc).P = Try.prog := nr rfl
@[simp] theorem c_impl_areElements_1_C_o (orc : Orc) : (c_impl_areElements_1_C orc).orc = orc := nr rfl
@[simp] theorem c_impl_areElements_1_C_r (orc : Orc) : (c_impl_areElements_1_C orc).res = [.tmp 3] := nr rfl
theorem c_impl_areElements_1_of {args : List AV} {h : Heap} {R : AV → Heap → Prop} {k : Nat} (ha : args.length = k) {orc : Orc} (hp : Pure Try.prog orc) (hk : Is (c_impl_areElements_1_C orc) Try.f142 → Run2 (c_impl_areElements_1_C orc) [.code c_impl_areElements_1_3] (argEnv 0 args) h (Post R)) (hle : k ≤ 8 := by simp) : ACalls Try.prog 142 args h R :=
  contract2 [] c_impl_areElements_1_3 [.tmp 3] Try.func142 (by decide +kernel) rfl (by kernel_rfl) (by rw [ha]; exact hle) (by kernel_rfl) hp hk
theorem c_impl_areElements_1_of0 {args : List AV} {h : Heap} {R : AV → Heap → Prop} {k : Nat} (ha : args.length = k) {orc : Orc} (hp : Pure Try.prog orc) (hk : Is (c_impl_areElements_1_C orc) Try.f142 → Run2 (c_impl_areElements_1_C orc) [.code c_impl_areElements_1_3] (argEnv 0 args) h R) (hle : k ≤ 8 := by simp) : ACalls Try.prog 142 args h R :=
  contract20 [] c_impl_areElements_1_3 [.tmp 3] Try.func142 (by decide +kernel) rfl (by kernel_rfl) (by rw [ha]; exact hle) (by kernel_rfl) hp hk
theorem areElements1_c (a p : Int) (h : Heap) (hp : 0 ≤ p ∧ p ≤ 1073741824) : ACalls Try.prog 142 [.int .i64 a, .ip [.int .i64 p]] h (fun v h' => v = .bool (!decide (0 ≤ a ∧ a < p)) ∧ h' = h) := by
  have hw : IntKind.i64.wrap (p - 1) = p - 1 := w64 (by omega)
  refine c_impl_areElements_1_of0 rfl (lk_pure o_isElement_k lk_pure0) fun I => ?_
  refine Run2.of I 1000 ?_
  simp -implicitDefEqProofs [hw]
  grind
abbrev c_impl_areElements_o0 : List AJ := [.o ⟨(some 3), none, false, .box false 1 (.t 1), none⟩, .o ⟨(some 4), none, false, .mv (.c (.bool false)), (some [0, 3])⟩]
def c_impl_areElements_0 : ACode := .region c_impl_areElements_o0
abbrev c_impl_areElements_o1 : List AJ := [.o ⟨(some 5), none, false, .mv (.t 0), none⟩, .o ⟨(some 6), none, false, .mkfn 142 [(.t 3)], none⟩, .o ⟨(some 7), none, false, .call 108 [(.t 5), (.t 6)], none⟩, .o ⟨(some 8), none, false, .un .not (.t 7), none⟩, .o ⟨(some 4), none, false, .mv (.t 8), (some [4])⟩]
def c_impl_areElements_1 : ACode := .region c_impl_areElements_o1
def c_impl_areElements_2 : ACode := .seq c_impl_areElements_1 .ret
def c_impl_areElements_3 : ACode := .seq c_impl_areElements_0 c_impl_areElements_2
section
variable (C : Cx) (n : Nat) (sk : List AItem) (e : Env) (h : Heap) (R : AV → Heap → Prop)
@[simp, simp ↓] theorem c_impl_areElements_0_r : vc2 C (n + 1) [] (.code c_impl_areElements_0 :: sk) e h R = (vc2 C n c_impl_areElements_o0 sk e h R) := nr rfl
@[simp, simp ↓] theorem c_impl_areElements_1_r : vc2 C (n + 1) [] (.code c_impl_areElements_1 :: sk) e h R = (vc2 C n c_impl_areElements_o1 sk e h R) := nr rfl
@[simp, simp ↓] theorem c_impl_areElements_2_r : vc2 C (n + 1) [] (.code c_impl_areElements_2 :: sk) e h R = (vc2 C n [] (.code c_impl_areElements_1 :: .code .ret :: sk) e h R) := nr rfl
@[simp, simp ↓] theorem c_impl_areElements_3_r : vc2 C (n + 1) [] (.code c_impl_areElements_3 :: sk) e h R = (vc2 C n [] (.code c_impl_areElements_0 :: .code c_impl_areElements_2 :: sk) e h R) := nr rfl
end
noncomputable def c_impl_areElements_C (orc : Orc) : Cx := ⟨Try.prog, [], 114, 9, [.tmp 4], orc⟩
@[simp] theorem c_impl_areElements_C_P (orc : Orc) : (c_impl_areElements_C orc).P = Try.prog := nr rfl
@[simp] theorem c_impl_areElements_C_o (orc : Orc) : (c_impl_areElements_C orc).orc = orc := nr rfl
@[simp] theorem c_impl_areElements_C_r (orc : Orc) : (c_impl_areElements_C orc).res = [.tmp 4] := nr rfl
theorem c_impl_areElements_of {args : List AV} {h : Heap} {R : AV → Heap → Prop} {k : Nat} (ha : args.length = k) {orc : Orc} (hp : Pure Try.prog orc) (hk : Is (c_impl_areElements_C orc) Try.f114 → Run2 (c_impl_areElements_C orc) [.code c_impl_areElements_3] (argEnv 0 args) h (Post R)) (hle : k ≤ 9 := by simp) : ACalls Try.prog 114 args h R :=
  contract2 [] c_impl_areElements_3 [.tmp 4] Try.func114 (by decide +kernel) rfl (by kernel_rfl) (by rw [ha]; exact hle) (by kernel_rfl) hp hk
theorem c_impl_areElements_of0 {args : List AV} {h : Heap} {R : AV → Heap → Prop} {k : Nat} (ha : args.length = k) {orc : Orc} (hp : Pure Try.prog orc) (hk : Is (c_impl_areElements_C orc) Try.f114 → Run2 (c_impl_areElements_C orc) [.code c_impl_areElements_3] (argEnv 0 args) h R) (hle : k ≤ 9 := by simp) : ACalls Try.prog 114 args h R :=
  contract20 [] c_impl_areElements_3 [.tmp 4] Try.func114 (by decide +kernel) rfl (by kernel_rfl) (by rw [ha]; exact hle) (by kernel_rfl) hp hk
theorem areElements_s (l : List Int) (p : Int) (h : Heap) (hl : l.length ≤ 1048576) (hp : 0 ≤ p ∧ p ≤ 1073741824) : ACalls Try.prog 114 [.snap 1 (l.map iv), .int .i64 p] h (fun v h' => v = .bool (decide (allIn l p)) ∧ h' = h) := by
  refine c_impl_areElements_of0 rfl noPure fun I => ?_
  refine Run2.of I 1000 ?_
  simp -implicitDefEqProofs
  refine (ContainsFunc_s _ _ _ (fun a => !decide (0 ≤ a ∧ a < p)) h hl fun a _ => areElements1_c a p h hp).mono ?_
  rintro v h' ⟨rfl, rfl⟩
  refine gK.go ?_
  simp -implicitDefEqProofs
  rw [Bool.eq_iff_iff]
  simp [allIn]
  grind
noncomputable def o_areElements : List AV → Option (Prop × AV) := tab (fun (x : List Int × Int) => match x with | (l, p) => [.snap 1 (l.map iv), .int .i64 p]) (fun x => match x with | (l, p) => (l.length ≤ 1048576 ∧ 0 ≤ p ∧ p ≤ 1073741824)) (fun x => match x with | (l, p) => .bool (decide (allIn l p)))
@[simp] theorem o_areElements_e (l : List Int) (p : Int) : o_areElements [.snap 1 (l.map iv), .int .i64 p] = some ((l.length ≤ 1048576 ∧ 0 ≤ p ∧ p ≤ 1073741824), .bool (decide (allIn l p))) := tab_at (enc := fun (x : List Int × Int) => match x with | (l, p) => [.snap 1 (l.map iv), .int .i64 p]) (fun x y h => by
  obtain ⟨l1, p1⟩ := x; obtain ⟨l2, p2⟩ := y; simp at h; simp [h]) _ _ (l, p)
theorem o_areElements_k : Knows Try.prog 114 o_areElements := tab_knows fun x hx h => by
  obtain ⟨l, p⟩ := x; exact areElements_s l p h hx.1 hx.2
abbrev c_impl_isRising_o0 : List AJ := [.o ⟨(some 2), none, false, .mv (.c (.bool false)), (some [0])⟩]
def c_impl_isRising_0 : ACode := .region c_impl_isRising_o0
abbrev c_impl_isRising_o1 : List AJ := [.o ⟨(some 3), none, false, .mv (.c (.int .i64 1)), (some [0, 3])⟩]
def c_impl_isRising_1 : ACode := .region c_impl_isRising_o1
abbrev c_impl_isRising_o2 : List AJ := [.o ⟨(some 4), none, false, .mv (.t 3), none⟩, .o ⟨(some 5), none, false, .mv (.t 0), none⟩, .o ⟨(some 6), none, false, .len (.t 5), none⟩, .o ⟨(some 7), none, false, .bin .lss (.t 4) (.t 6), (some [0, 3, 7])⟩]
def c_impl_isRising_2 : ACode := .region c_impl_isRising_o2
def c_impl_isRising_3 : ACode := .cond (.t 7) .skip (.exit 0)
def c_impl_isRising_4 : ACode := .seq c_impl_isRising_2 c_impl_isRising_3
abbrev c_impl_isRising_o3 : List AI := [⟨(some 10), none, false, .mv (.t 0), none⟩, ⟨(some 11), none, false, .mv (.t 3), none⟩, ⟨(some 12), none, true, .bin .sub (.t 11) (.c (.int .i64 1)), none⟩, ⟨(some 13), none, false, .idxA 1 (.t 10) (.t 12), none⟩, ⟨(some 14), none, false, .load 1 false (.t 13), none⟩, ⟨(some 15), none, false, .mv (.t 0), none⟩, ⟨(some 16), none, false, .mv (.t 3), none⟩, ⟨(some 17), none, false, .idxA 1 (.t 15) (.t 16), none⟩, ⟨(some 18), none, false, .load 1 false (.t 17), none⟩, ⟨(some 19), none, false, .bin .geq (.t 14) (.t 18), (some [0, 3, 19])⟩]
def c_impl_isRising_5 : ACode := .draw c_impl_isRising_o3 [] rfl
abbrev c_impl_isRising_o4 : List AJ := [.o ⟨(some 2), none, false, .mv (.c (.bool false)), (some [2])⟩]
def c_impl_isRising_6 : ACode := .region c_impl_isRising_o4
def c_impl_isRising_7 : ACode := .seq c_impl_isRising_6 .ret
def c_impl_isRising_8 : ACode := .cond (.t 19) c_impl_isRising_7 .skip
def c_impl_isRising_9 : ACode := .seq c_impl_isRising_5 c_impl_isRising_8
def c_impl_isRising_10 : ACode := .block 1 c_impl_isRising_9
abbrev c_impl_isRising_o5 : List AJ := [.o ⟨(some 8), none, false, .mv (.t 3), none⟩, .o ⟨(some 9), none, true, .bin .add (.t 8) (.c (.int .i64 1)), none⟩, .o ⟨(some 3), none, false, .mv (.t 9), (some [0, 3])⟩]
def c_impl_isRising_11 : ACode := .region c_impl_isRising_o5
def c_impl_isRising_12 : ACode := .seq c_impl_isRising_10 c_impl_isRising_11
def c_impl_isRising_13 : ACode := .seq c_impl_isRising_4 c_impl_isRising_12
def c_impl_isRising_14 : ACode := .loop c_impl_isRising_13
def c_impl_isRising_15 : ACode := .block 0 c_impl_isRising_14
def c_impl_isRising_16 : ACode := .seq c_impl_isRising_1 c_impl_isRising_15
abbrev c_impl_isRising_o6 : List AJ := [.o ⟨(some 2), none, false, .mv (.c (.bool true)), (some [2])⟩]
def c_impl_isRising_17 : ACode := .region c_impl_isRising_o6
def c_impl_isRising_18 : ACode := .seq c_impl_isRising_17 .ret
def c_impl_isRising_19 : ACode := .seq c_impl_isRising_16 c_impl_isRising_18
def c_impl_isRising_20 : ACode := .seq c_impl_isRising_0 c_impl_isRising_19
section
variable (C : Cx) (n : Nat) (sk : List AItem) (e : Env) (h : Heap) (R : AV → Heap → Prop)
@[simp, simp ↓] theorem c_impl_isRising_0_r : vc2 C (n + 1) [] (.code c_impl_isRising_0 :: sk) e h R = (vc2 C n c_impl_isRising_o0 sk e h R) := nr rfl
@[simp, simp ↓] theorem c_impl_isRising_1_r : vc2 C (n + 1) [] (.code c_impl_isRising_1 :: sk) e h R = (vc2 C n c_impl_isRising_o1 sk e h R) := nr rfl
@[simp, simp ↓] theorem c_impl_isRising_2_r : vc2 C (n + 1) [] (.code c_impl_isRising_2 :: sk) e h R = (vc2 C n c_impl_isRising_o2 sk e h R) := nr rfl
@[simp, simp ↓] theorem c_impl_isRising_3_r : vc2 C (n + 1) [] (.code c_impl_isRising_3 :: sk) e h R = (condK (ev e (.t 7)) (vc2 C n [] (.code .skip :: sk) e h R) (vc2 C n [] (.code (.exit 0) :: sk) e h R)) := nr rfl
@[simp, simp ↓] theorem c_impl_isRising_4_r : vc2 C (n + 1) [] (.code c_impl_isRising_4 :: sk) e h R = (vc2 C n [] (.code c_impl_isRising_2 :: .code c_impl_isRising_3 :: sk) e h R) := nr rfl
@[simp, simp ↓] theorem c_impl_isRising_5_r : vc2 C (n + 1) [] (.code c_impl_isRising_5 :: sk) e h R = (draw2 C h (vK C n [] sk R h) c_impl_isRising_o3 e) := nr rfl
@[simp, simp ↓] theorem c_impl_isRising_6_r : vc2 C (n + 1) [] (.code c_impl_isRising_6 :: sk) e h R = (vc2 C n c_impl_isRising_o4 sk e h R) := nr rfl
@[simp, simp ↓] theorem c_impl_isRising_7_r : vc2 C (n + 1) [] (.code c_impl_isRising_7 :: sk) e h R = (vc2 C n [] (.code c_impl_isRising_6 :: .code .ret :: sk) e h R) := nr rfl
@[simp, simp ↓] theorem c_impl_isRising_8_r : vc2 C (n + 1) [] (.code c_impl_isRising_8 :: sk) e h R = (condK (ev e (.t 19)) (vc2 C n [] (.code c_impl_isRising_7 :: sk) e h R) (vc2 C n [] (.code .skip :: sk) e h R)) := nr rfl
@[simp, simp ↓] theorem c_impl_isRising_9_r : vc2 C (n + 1) [] (.code c_impl_isRising_9 :: sk) e h R = (vc2 C n [] (.code c_impl_isRising_5 :: .code c_impl_isRising_8 :: sk) e h R) := nr rfl
@[simp, simp ↓] theorem c_impl_isRising_10_r : vc2 C (n + 1) [] (.code c_impl_isRising_10 :: sk) e h R = (vc2 C n [] (.code c_impl_isRising_9 :: .inBlock 1 :: sk) e h R) := nr rfl
@[simp, simp ↓] theorem c_impl_isRising_11_r : vc2 C (n + 1) [] (.code c_impl_isRising_11 :: sk) e h R = (vc2 C n c_impl_isRising_o5 sk e h R) := nr rfl
@[simp, simp ↓] theorem c_impl_isRising_12_r : vc2 C (n + 1) [] (.code c_impl_isRising_12 :: sk) e h R = (vc2 C n [] (.code c_impl_isRising_10 :: .code c_impl_isRising_11 :: sk) e h R) := nr rfl
@[simp, simp ↓] theorem c_impl_isRising_13_r : vc2 C (n + 1) [] (.code c_impl_isRising_13 :: sk) e h R = (vc2 C n [] (.code c_impl_isRising_4 :: .code c_impl_isRising_12 :: sk) e h R) := nr rfl
@[simp, simp ↓] theorem c_impl_isRising_14_r : vc2 C (n + 1) [] (.code c_impl_isRising_14 :: sk) e h R = (Run2 C (.code c_impl_isRising_13 :: .inLoop c_impl_isRising_13 :: sk) e h R) := nr rfl
@[simp, simp ↓] theorem c_impl_isRising_15_r : vc2 C (n + 1) [] (.code c_impl_isRising_15 :: sk) e h R = (vc2 C n [] (.code c_impl_isRising_14 :: .inBlock 0 :: sk) e h R) := nr rfl
@[simp, simp ↓] theorem c_impl_isRising_16_r : vc2 C (n + 1) [] (.code c_impl_isRising_16 :: sk) e h R = (vc2 C n [] (.code c_impl_isRising_1 :: .code c_impl_isRising_15 :: sk) e h R) := nr rfl
@[simp, simp ↓] theorem c_impl_isRising_17_r : vc2 C (n + 1) [] (.code c_impl_isRising_17 :: sk) e h R = (vc2 C n c_impl_isRising_o6 sk e h R) := nr rfl
@[simp, simp ↓] theorem c_impl_isRising_18_r : vc2 C (n + 1) [] (.code c_impl_isRising_18 :: sk) e h R = (vc2 C n [] (.code c_impl_isRising_17 :: .code .ret :: sk) e h R) := nr rfl
@[simp, simp ↓] theorem c_impl_isRising_19_r : vc2 C (n + 1) [] (.code c_impl_isRising_19 :: sk) e h R = (vc2 C n [] (.code c_impl_isRising_16 :: .code c_impl_isRising_18 :: sk) e h R) := nr rfl
@[simp, simp ↓] theorem c_impl_isRising_20_r : vc2 C (n + 1) [] (.code c_impl_isRising_20 :: sk) e h R = (vc2 C n [] (.code c_impl_isRising_0 :: .code c_impl_isRising_19 :: sk) e h R) := nr rfl
end
noncomputable def c_impl_isRising_C (orc : Orc) : Cx := ⟨Try.prog, [], 113, 20, [.tmp 2], orc⟩
@[simp] theorem c_impl_isRising_C_P (orc : Orc) : (c_impl_isRising_C orc).P = Try.prog := nr rfl
@[simp] theorem c_impl_isRising_C_o (orc : Orc) : (c_impl_isRising_C orc).orc = orc := nr rfl
@[simp] theorem c_impl_isRising_C_r (orc : Orc) : (c_impl_isRising_C orc).res = [.tmp 2] := nr rfl
theorem c_impl_isRising_of {args : List AV} {h : Heap} {R : AV → Heap → Prop} {k : Nat} (ha : args.length = k) {orc : Orc} (hp : Pure Try.prog orc) (hk : Is (c_impl_isRising_C orc) Try.f113 → Run2 (c_impl_isRising_C orc) [.code c_impl_isRising_20] (argEnv 0 args) h (Post R)) (hle : k ≤ 20 := by simp) : ACalls Try.prog 113 args h R :=
  contract2 [] c_impl_isRising_20 [.tmp 2] Try.func113 (by decide +kernel) rfl (by kernel_rfl) (by rw [ha]; exact hle) (by kernel_rfl) hp hk
theorem c_impl_isRising_of0 {args : List AV} {h : Heap} {R : AV → Heap → Prop} {k : Nat} (ha : args.length = k) {orc : Orc} (hp : Pure Try.prog orc) (hk : Is (c_impl_isRising_C orc) Try.f113 → Run2 (c_impl_isRising_C orc) [.code c_impl_isRising_20] (argEnv 0 args) h R) (hle : k ≤ 20 := by simp) : ACalls Try.prog 113 args h R :=
  contract20 [] c_impl_isRising_20 [.tmp 2] Try.func113 (by decide +kernel) rfl (by kernel_rfl) (by rw [ha]; exact hle) (by kernel_rfl) hp hk
theorem isRising_s (l : List Int) (h : Heap) (hl : l.length ≤ 1048576) : ACalls Try.prog 113 [.snap 1 (l.map iv)] h (fun v h' => v = .bool (decide (rising l)) ∧ h' = h) := by
  refine c_impl_isRising_of0 rfl noPure fun I => ?_
  refine Run2.of I 1000 ?_
  simp -implicitDefEqProofs
  refine Run2.loopE (fun i => [(0, .snap 1 (l.map iv)), (3, .int .i64 (i + 1 : Nat))]) (fun i => h) (fun i => l.length - i) (fun i => (i = 0 ∨ i < l.length) ∧ ∀ j (hj : j + 1 < l.length), j + 1 < i + 1 → l[j] < l[j + 1]) 0 (by simp) rfl ⟨.inl rfl, fun _ _ h => by omega⟩ fun i hi ih => ?_
  by_cases hlt : i + 1 < l.length
  · have hlt' : i < l.length := by omega
    have hc : ((i : Int) + 1 - 1).toNat = i := by omega
    have go := fun (h1 : l[i] < l[i + 1]) => ih (i + 1) ⟨.inr (by omega), fun j hj hji => by
      rcases Nat.lt_or_ge j i with h | h
      · exact hi.2 j hj (by omega)
      · obtain rfl : j = i := by omega
        exact h1⟩ (by omega)
    have hbad : l[i + 1] ≤ l[i] → ¬ rising l := fun h1 h2 => by have := h2 i hlt; omega
    clear ih
    refine Run2.of I 1000 ?_
    simp -implicitDefEqProofs [hlt, hlt', hc]
    simp at go
    repeat' (first | refine And.intro ?_ ?_ | intro _)
    all_goals first | omega | (unfold in64; omega) | exact absurd ‹rising l› (hbad (by omega)) | exact go (by omega)
  · have hr := rising_to (r := l) (i + 1) hi.2 (by omega)
    have hlt2 : ¬ ((i : Int) + 1 < l.length) := by omega
    refine Run2.of I 1000 ?_
    simp -implicitDefEqProofs [hlt, hlt2]
    exact hr
noncomputable def o_isRising : List AV → Option (Prop × AV) := tab (fun (x : List Int) => match x with | l => [.snap 1 (l.map iv)]) (fun x => match x with | l => l.length ≤ 1048576) (fun x => match x with | l => .bool (decide (rising l)))
@[simp] theorem o_isRising_e (l : List Int) : o_isRising [.snap 1 (l.map iv)] = some (l.length ≤ 1048576, .bool (decide (rising l))) := tab_at (enc := fun (x : List Int) => match x with | l => [.snap 1 (l.map iv)]) (fun x y h => by
  simp at h; simp [h]) _ _ l
theorem o_isRising_k : Knows Try.prog 113 o_isRising := tab_knows fun x hx h => by
  exact isRising_s x h hx
abbrev c_spec_l00Rises_o0 : List AJ := [.o ⟨(some 6), none, false, .mv (.c (.bool false)), (some [0, 1, 2])⟩]
def c_spec_l00Rises_0 : ACode := .region c_spec_l00Rises_o0
abbrev c_spec_l00Rises_o1 : List AJ := [.o ⟨(some 7), none, false, .mv (.c (.int .i64 0)), (some [0, 1, 2, 7])⟩]
def c_spec_l00Rises_1 : ACode := .region c_spec_l00Rises_o1
abbrev c_spec_l00Rises_o2 : List AJ := [.o ⟨(some 8), none, false, .mv (.t 7), none⟩, .o ⟨(some 9), none, false, .mv (.t 0), none⟩, .o ⟨(some 10), none, false, .len (.t 9), none⟩, .o ⟨(some 11), none, false, .bin .lss (.t 8) (.t 10), (some [0, 1, 2, 7, 11])⟩]
def c_spec_l00Rises_2 : ACode := .region c_spec_l00Rises_o2
def c_spec_l00Rises_3 : ACode := .cond (.t 11) .skip (.exit 0)
def c_spec_l00Rises_4 : ACode := .seq c_spec_l00Rises_2 c_spec_l00Rises_3
abbrev c_spec_l00Rises_o3 : List AI := [⟨(some 14), none, false, .mv (.t 0), none⟩, ⟨(some 15), none, false, .mv (.t 7), none⟩, ⟨(some 16), none, false, .idxA 1 (.t 14) (.t 15), none⟩, ⟨(some 17), none, false, .load 1 false (.t 16), none⟩, ⟨(some 18), none, false, .mv (.t 1), none⟩, ⟨(some 19), none, false, .mv (.t 2), none⟩, ⟨(some 20), none, false, .call 69 [(.t 17), (.t 18), (.t 19)], none⟩, ⟨(some 21), none, false, .un .not (.t 20), none⟩, ⟨(some 22), none, false, .mv (.t 21), none⟩, ⟨(some 23), (some (22, false)), false, .mv (.t 7), none⟩, ⟨(some 24), (some (22, false)), false, .bin .gtr (.t 23) (.c (.int .i64 0)), none⟩, ⟨(some 25), (some (22, false)), false, .mv (.t 24), (some [0, 1, 2, 7, 22, 25])⟩, ⟨(some 26), (some (25, true)), false, .mv (.t 0), none⟩, ⟨(some 27), (some (25, true)), false, .mv (.t 7), none⟩, ⟨(some 28), (some (25, true)), true, .bin .sub (.t 27) (.c (.int .i64 1)), none⟩, ⟨(some 29), (some (25, true)), false, .idxA 1 (.t 26) (.t 28), none⟩, ⟨(some 30), (some (25, true)), false, .load 1 false (.t 29), none⟩, ⟨(some 31), (some (25, true)), false, .mv (.t 0), none⟩, ⟨(some 32), (some (25, true)), false, .mv (.t 7), (some [0, 1, 2, 7, 22, 25, 30, 31, 32])⟩, ⟨(some 33), (some (25, true)), false, .idxA 1 (.t 31) (.t 32), none⟩, ⟨(some 34), (some (25, true)), false, .load 1 false (.t 33), none⟩, ⟨(some 35), (some (25, true)), false, .bin .geq (.t 30) (.t 34), none⟩, ⟨(some 36), (some (22, false)), false, .pick (.t 25) (.t 35) (.c (.bool false)), none⟩, ⟨(some 37), none, false, .pick (.t 22) (.c (.bool true)) (.t 36), (some [0, 1, 2, 7, 37])⟩]
def c_spec_l00Rises_5 : ACode := .draw c_spec_l00Rises_o3 [] rfl
abbrev c_spec_l00Rises_o4 : List AJ := [.o ⟨(some 6), none, false, .mv (.c (.bool false)), (some [6])⟩]
def c_spec_l00Rises_6 : ACode := .region c_spec_l00Rises_o4
def c_spec_l00Rises_7 : ACode := .seq c_spec_l00Rises_6 .ret
def c_spec_l00Rises_8 : ACode := .cond (.t 37) c_spec_l00Rises_7 .skip
def c_spec_l00Rises_9 : ACode := .seq c_spec_l00Rises_5 c_spec_l00Rises_8
def c_spec_l00Rises_10 : ACode := .block 1 c_spec_l00Rises_9
abbrev c_spec_l00Rises_o5 : List AJ := [.o ⟨(some 12), none, false, .mv (.t 7), none⟩, .o ⟨(some 13), none, true, .bin .add (.t 12) (.c (.int .i64 1)), none⟩, .o ⟨(some 7), none, false, .mv (.t 13), (some [0, 1, 2, 7])⟩]
def c_spec_l00Rises_11 : ACode := .region c_spec_l00Rises_o5
def c_spec_l00Rises_12 : ACode := .seq c_spec_l00Rises_10 c_spec_l00Rises_11
def c_spec_l00Rises_13 : ACode := .seq c_spec_l00Rises_4 c_spec_l00Rises_12
def c_spec_l00Rises_14 : ACode := .loop c_spec_l00Rises_13
def c_spec_l00Rises_15 : ACode := .block 0 c_spec_l00Rises_14
def c_spec_l00Rises_16 : ACode := .seq c_spec_l00Rises_1 c_spec_l00Rises_15
abbrev c_spec_l00Rises_o6 : List AJ := [.o ⟨(some 6), none, false, .mv (.c (.bool true)), (some [6])⟩]
def c_spec_l00Rises_17 : ACode := .region c_spec_l00Rises_o6
def c_spec_l00Rises_18 : ACode := .seq c_spec_l00Rises_17 .ret
def c_spec_l00Rises_19 : ACode := .seq c_spec_l00Rises_16 c_spec_l00Rises_18
def c_spec_l00Rises_20 : ACode := .seq c_spec_l00Rises_0 c_spec_l00Rises_19
section
variable (C : Cx) (n : Nat) (sk : List AItem) (e : Env) (h : Heap) (R : AV → Heap → Prop)
@[simp, simp ↓] theorem c_spec_l00Rises_0_r : vc2 C (n + 1) [] (.code c_spec_l00Rises_0 :: sk) e h R = (vc2 C n c_spec_l00Rises_o0 sk e h R) := nr rfl
@[simp, simp ↓] theorem c_spec_l00Rises_1_r : vc2 C (n + 1) [] (.code c_spec_l00Rises_1 :: sk) e h R = (vc2 C n c_spec_l00Rises_o1 sk e h R) := nr rfl
@[simp, simp ↓] theorem c_spec_l00Rises_2_r : vc2 C (n + 1) [] (.code c_spec_l00Rises_2 :: sk) e h R = (vc2 C n c_spec_l00Rises_o2 sk e h R) := nr rfl
@[simp, simp ↓] theorem c_spec_l00Rises_3_r : vc2 C (n + 1) [] (.code c_spec_l00Rises_3 :: sk) e h R = (condK (ev e (.t 11)) (vc2 C n [] (.code .skip :: sk) e h R) (vc2 C n [] (.code (.exit 0) :: sk) e h R)) := nr rfl
@[simp, simp ↓] theorem c_spec_l00Rises_4_r : vc2 C (n + 1) [] (.code c_spec_l00Rises_4 :: sk) e h R = (vc2 C n [] (.code c_spec_l00Rises_2 :: .code c_spec_l00Rises_3 :: sk) e h R) := nr rfl
@[simp, simp ↓] theorem c_spec_l00Rises_5_r : vc2 C (n + 1) [] (.code c_spec_l00Rises_5 :: sk) e h R = (draw2 C h (vK C n [] sk R h) c_spec_l00Rises_o3 e) := nr rfl
@[simp, simp ↓] theorem c_spec_l00Rises_6_r : vc2 C (n + 1) [] (.code c_spec_l00Rises_6 :: sk) e h R = (vc2 C n c_spec_l00Rises_o4 sk e h R) := nr rfl
@[simp, simp ↓] theorem c_spec_l00Rises_7_r : vc2 C (n + 1) [] (.code c_spec_l00Rises_7 :: sk) e h R = (vc2 C n [] (.code c_spec_l00Rises_6 :: .code .ret :: sk) e h R) := nr rfl
@[simp, simp ↓] theorem c_spec_l00Rises_8_r : vc2 C (n + 1) [] (.code c_spec_l00Rises_8 :: sk) e h R = (condK (ev e (.t 37)) (vc2 C n [] (.code c_spec_l00Rises_7 :: sk) e h R) (vc2 C n [] (.code .skip :: sk) e h R)) := nr rfl
@[simp, simp ↓] theorem c_spec_l00Rises_9_r : vc2 C (n + 1) [] (.code c_spec_l00Rises_9 :: sk) e h R = (vc2 C n [] (.code c_spec_l00Rises_5 :: .code c_spec_l00Rises_8 :: sk) e h R) := nr rfl
@[simp, simp ↓] theorem c_spec_l00Rises_10_r : vc2 C (n + 1) [] (.code c_spec_l00Rises_10 :: sk) e h R = (vc2 C n [] (.code c_spec_l00Rises_9 :: .inBlock 1 :: sk) e h R) := nr rfl
@[simp, simp ↓] theorem c_spec_l00Rises_11_r : vc2 C (n + 1) [] (.code c_spec_l00Rises_11 :: sk) e h R = (vc2 C n c_spec_l00Rises_o5 sk e h R) := nr rfl
@[simp, simp ↓] theorem c_spec_l00Rises_12_r : vc2 C (n + 1) [] (.code c_spec_l00Rises_12 :: sk) e h R = (vc2 C n [] (.code c_spec_l00Rises_10 :: .code c_spec_l00Rises_11 :: sk) e h R) := nr rfl
@[simp, simp ↓] theorem c_spec_l00Rises_13_r : vc2 C (n + 1) [] (.code c_spec_l00Rises_13 :: sk) e h R = (vc2 C n [] (.code c_spec_l00Rises_4 :: .code c_spec_l00Rises_12 :: sk) e h R) := nr rfl
@[simp, simp ↓] theorem c_spec_l00Rises_14_r : vc2 C (n + 1) [] (.code c_spec_l00Rises_14 :: sk) e h R = (Run2 C (.code c_spec_l00Rises_13 :: .inLoop c_spec_l00Rises_13 :: sk) e h R) := nr rfl
@[simp, simp ↓] theorem c_spec_l00Rises_15_r : vc2 C (n + 1) [] (.code c_spec_l00Rises_15 :: sk) e h R = (vc2 C n [] (.code c_spec_l00Rises_14 :: .inBlock 0 :: sk) e h R) := nr rfl
@[simp, simp ↓] theorem c_spec_l00Rises_16_r : vc2 C (n + 1) [] (.code c_spec_l00Rises_16 :: sk) e h R = (vc2 C n [] (.code c_spec_l00Rises_1 :: .code c_spec_l00Rises_15 :: sk) e h R) := nr rfl
@[simp, simp ↓] theorem c_spec_l00Rises_17_r : vc2 C (n + 1) [] (.code c_spec_l00Rises_17 :: sk) e h R = (vc2 C n c_spec_l00Rises_o6 sk e h R) := nr rfl
@[simp, simp ↓] theorem c_spec_l00Rises_18_r : vc2 C (n + 1) [] (.code c_spec_l00Rises_18 :: sk) e h R = (vc2 C n [] (.code c_spec_l00Rises_17 :: .code .ret :: sk) e h R) := nr rfl
@[simp, simp ↓] theorem c_spec_l00Rises_19_r : vc2 C (n + 1) [] (.code c_spec_l00Rises_19 :: sk) e h R = (vc2 C n [] (.code c_spec_l00Rises_16 :: .code c_spec_l00Rises_18 :: sk) e h R) := nr rfl
@[simp, simp ↓] theorem c_spec_l00Rises_20_r : vc2 C (n + 1) [] (.code c_spec_l00Rises_20 :: sk) e h R = (vc2 C n [] (.code c_spec_l00Rises_0 :: .code c_spec_l00Rises_19 :: sk) e h R) := nr rfl
end
noncomputable def c_spec_l00Rises_C (orc : Orc) : Cx := ⟨Try.prog, [], 112, 38, [.tmp 6], orc⟩
@[simp] theorem c_spec_l00Rises_C_P (orc : Orc) : (c_spec_l00Rises_C orc).P = Try.prog := nr rfl
@[simp] theorem c_spec_l00Rises_C_o (orc : Orc) : (c_spec_l00Rises_C orc).orc = orc := nr rfl
@[simp] theorem c_spec_l00Rises_C_r (orc : Orc) : (c_spec_l00Rises_C orc).res = [.tmp 6] := nr rfl
theorem c_spec_l00Rises_of {args : List AV} {h : Heap} {R : AV → Heap → Prop} {k : Nat} (ha : args.length = k) {orc : Orc} (hp : Pure Try.prog orc) (hk : Is (c_spec_l00Rises_C orc) Try.f112 → Run2 (c_spec_l00Rises_C orc) [.code c_spec_l00Rises_20] (argEnv 0 args) h (Post R)) (hle : k ≤ 38 := by simp) : ACalls Try.prog 112 args h R :=
  contract2 [] c_spec_l00Rises_20 [.tmp 6] Try.func112 (by decide +kernel) rfl (by kernel_rfl) (by rw [ha]; exact hle) (by kernel_rfl) hp hk
theorem c_spec_l00Rises_of0 {args : List AV} {h : Heap} {R : AV → Heap → Prop} {k : Nat} (ha : args.length = k) {orc : Orc} (hp : Pure Try.prog orc) (hk : Is (c_spec_l00Rises_C orc) Try.f112 → Run2 (c_spec_l00Rises_C orc) [.code c_spec_l00Rises_20] (argEnv 0 args) h R) (hle : k ≤ 38 := by simp) : ACalls Try.prog 112 args h R :=
  contract20 [] c_spec_l00Rises_20 [.tmp 6] Try.func112 (by decide +kernel) rfl (by kernel_rfl) (by rw [ha]; exact hle) (by kernel_rfl) hp hk
theorem l00Rises_s (l : List Int) (a b : Int) (h : Heap) (hl : l.length ≤ 1048576) : ACalls Try.prog 112 [.snap 1 (l.map iv), .int .i64 a, .int .i64 b] h (fun v h' => v = .bool (decide (btw l a b ∧ rising l)) ∧ h' = h) := by
  refine c_spec_l00Rises_of0 rfl orc1_p fun I => ?_
  refine Run2.of I 1000 ?_
  simp -implicitDefEqProofs
  refine Run2.loopE (fun (i : Nat) => [(0, .snap 1 (l.map iv)), (1, .int .i64 a), (2, .int .i64 b), (7, .int .i64 i)]) (fun i => h) (fun i => l.length - i) (fun i => i ≤ l.length ∧ (∀ j (hj : j < l.length), j < i → a ≤ l[j] ∧ l[j] ≤ b) ∧ ∀ j (hj : j + 1 < l.length), j + 1 < i → l[j] < l[j + 1]) 0 (by simp) rfl ⟨Nat.zero_le _, fun _ _ h => by omega, fun _ _ h => by omega⟩ fun i hi ih => ?_
  by_cases hlt : i < l.length
  · have hbad1 : ¬ (a ≤ l[i] ∧ l[i] ≤ b) → ¬ (btw l a b ∧ rising l) := fun h1 h2 => h1 (h2.1 _ (List.getElem_mem hlt))
    cases i with
    | zero =>
      have go := fun (h1 : a ≤ l[0] ∧ l[0] ≤ b) => ih 1 ⟨by omega, fun j hj hji => by
        obtain rfl : j = 0 := by omega
        exact h1, fun j hj hji => by omega⟩ (by omega)
      clear ih
      refine Run2.of I 1000 ?_
      simp -implicitDefEqProofs [hlt]
      simp at go hbad1
      repeat' (first | refine And.intro ?_ ?_ | intro _)
      all_goals first | omega | grind
    | succ i =>
      have hlt' : i < l.length := by omega
      have hc : ((i : Int) + 1 - 1).toNat = i := by omega
      have hbad2 : ¬ l[i] < l[i + 1] → ¬ (btw l a b ∧ rising l) := fun h1 h2 => h1 (h2.2 i hlt)
      have go := fun (h1 : a ≤ l[i + 1] ∧ l[i + 1] ≤ b) (h2 : l[i] < l[i + 1]) => ih (i + 1 + 1) ⟨by omega, fun j hj hji => by
        rcases Nat.lt_or_ge j (i + 1) with h | h
        · exact hi.2.1 j hj h
        · obtain rfl : j = i + 1 := by omega
          exact h1, fun j hj hji => by
        rcases Nat.lt_or_ge (j + 1) (i + 1) with h | h
        · exact hi.2.2 j hj h
        · obtain rfl : j = i := by omega
          exact h2⟩ (by omega)
      clear ih
      refine Run2.of I 1000 ?_
      simp -implicitDefEqProofs [hlt, hlt', hc]
      simp at go hbad1 hbad2
      repeat' (first | refine And.intro ?_ ?_ | intro _)
      all_goals first | omega | (unfold in64; omega) | grind
  · obtain rfl : i = l.length := by omega
    have h1 : ∀ k ∈ l, a ≤ k ∧ k ≤ b := fun k hk => by
      obtain ⟨j, hj, rfl⟩ := List.mem_iff_getElem.1 hk
      exact hi.2.1 j hj hj
    have h2 : rising l := fun j hj => hi.2.2 j hj hj
    refine Run2.of I 1000 ?_
    simp -implicitDefEqProofs
    exact ⟨h1, h2⟩
noncomputable def o_l00Rises : List AV → Option (Prop × AV) := tab (fun (x : List Int × Int × Int) => match x with | (l, a, b) => [.snap 1 (l.map iv), .int .i64 a, .int .i64 b]) (fun x => match x with | (l, a, b) => l.length ≤ 1048576) (fun x => match x with | (l, a, b) => .bool (decide (btw l a b ∧ rising l)))
@[simp] theorem o_l00Rises_e (l : List Int) (a : Int) (b : Int) : o_l00Rises [.snap 1 (l.map iv), .int .i64 a, .int .i64 b] = some (l.length ≤ 1048576, .bool (decide (btw l a b ∧ rising l))) := tab_at (enc := fun (x : List Int × Int × Int) => match x with | (l, a, b) => [.snap 1 (l.map iv), .int .i64 a, .int .i64 b]) (fun x y h => by
  obtain ⟨l1, a1, b1⟩ := x; obtain ⟨l2, a2, b2⟩ := y; simp at h; simp [h]) _ _ (l, a, b)
theorem o_l00Rises_k : Knows Try.prog 112 o_l00Rises := tab_knows fun x hx h => by
  obtain ⟨l, a, b⟩ := x; exact l00Rises_s l a b h hx
abbrev c_spec_l00Has_o0 : List AJ := [.o ⟨(some 4), none, false, .mv (.c (.bool false)), (some [0, 1])⟩]
def c_spec_l00Has_0 : ACode := .region c_spec_l00Has_o0
abbrev c_spec_l00Has_o1 : List AJ := [.o ⟨(some 5), none, false, .mv (.c (.int .i64 0)), (some [0, 1, 5])⟩]
def c_spec_l00Has_1 : ACode := .region c_spec_l00Has_o1
abbrev c_spec_l00Has_o2 : List AJ := [.o ⟨(some 6), none, false, .mv (.t 5), none⟩, .o ⟨(some 7), none, false, .mv (.t 0), none⟩, .o ⟨(some 8), none, false, .len (.t 7), none⟩, .o ⟨(some 9), none, false, .bin .lss (.t 6) (.t 8), (some [0, 1, 5, 9])⟩]
def c_spec_l00Has_2 : ACode := .region c_spec_l00Has_o2
def c_spec_l00Has_3 : ACode := .cond (.t 9) .skip (.exit 0)
def c_spec_l00Has_4 : ACode := .seq c_spec_l00Has_2 c_spec_l00Has_3
abbrev c_spec_l00Has_o3 : List AJ := [.o ⟨(some 12), none, false, .mv (.t 0), none⟩, .o ⟨(some 13), none, false, .mv (.t 5), none⟩, .o ⟨(some 14), none, false, .idxA 1 (.t 12) (.t 13), none⟩, .o ⟨(some 15), none, false, .load 1 false (.t 14), none⟩, .o ⟨(some 16), none, false, .mv (.t 1), none⟩, .o ⟨(some 17), none, false, .bin .eql (.t 15) (.t 16), (some [0, 1, 5, 17])⟩]
def c_spec_l00Has_5 : ACode := .region c_spec_l00Has_o3
abbrev c_spec_l00Has_o4 : List AJ := [.o ⟨(some 4), none, false, .mv (.c (.bool true)), (some [4])⟩]
def c_spec_l00Has_6 : ACode := .region c_spec_l00Has_o4
def c_spec_l00Has_7 : ACode := .seq c_spec_l00Has_6 .ret
def c_spec_l00Has_8 : ACode := .cond (.t 17) c_spec_l00Has_7 .skip
def c_spec_l00Has_9 : ACode := .seq c_spec_l00Has_5 c_spec_l00Has_8
def c_spec_l00Has_10 : ACode := .block 1 c_spec_l00Has_9
abbrev c_spec_l00Has_o5 : List AJ := [.o ⟨(some 10), none, false, .mv (.t 5), none⟩, .o ⟨(some 11), none, true, .bin .add (.t 10) (.c (.int .i64 1)), none⟩, .o ⟨(some 5), none, false, .mv (.t 11), (some [0, 1, 5])⟩]
def c_spec_l00Has_11 : ACode := .region c_spec_l00Has_o5
def c_spec_l00Has_12 : ACode := .seq c_spec_l00Has_10 c_spec_l00Has_11
def c_spec_l00Has_13 : ACode := .seq c_spec_l00Has_4 c_spec_l00Has_12
def c_spec_l00Has_14 : ACode := .loop c_spec_l00Has_13
def c_spec_l00Has_15 : ACode := .block 0 c_spec_l00Has_14
def c_spec_l00Has_16 : ACode := .seq c_spec_l00Has_1 c_spec_l00Has_15
abbrev c_spec_l00Has_o6 : List AJ := [.o ⟨(some 4), none, false, .mv (.c (.bool false)), (some [4])⟩]
def c_spec_l00Has_17 : ACode := .region c_spec_l00Has_o6
def c_spec_l00Has_18 : ACode := .seq c_spec_l00Has_17 .ret
def c_spec_l00Has_19 : ACode := .seq c_spec_l00Has_16 c_spec_l00Has_18
def c_spec_l00Has_20 : ACode := .seq c_spec_l00Has_0 c_spec_l00Has_19
section
variable (C : Cx) (n : Nat) (sk : List AItem) (e : Env) (h : Heap) (R : AV → Heap → Prop)
@[simp, simp ↓] theorem c_spec_l00Has_0_r : vc2 C (n + 1) [] (.code c_spec_l00Has_0 :: sk) e h R = (vc2 C n c_spec_l00Has_o0 sk e h R) := nr rfl
@[simp, simp ↓] theorem c_spec_l00Has_1_r : vc2 C (n + 1) [] (.code c_spec_l00Has_1 :: sk) e h R = (vc2 C n c_spec_l00Has_o1 sk e h R) := nr rfl
@[simp, simp ↓] theorem c_spec_l00Has_2_r : vc2 C (n + 1) [] (.code c_spec_l00Has_2 :: sk) e h R = (vc2 C n c_spec_l00Has_o2 sk e h R) := nr rfl
@[simp, simp ↓] theorem c_spec_l00Has_3_r : vc2 C (n + 1) [] (.code c_spec_l00Has_3 :: sk) e h R = (condK (ev e (.t 9)) (vc2 C n [] (.code .skip :: sk) e h R) (vc2 C n [] (.code (.exit 0) :: sk) e h R)) := nr rfl
@[simp, simp ↓] theorem c_spec_l00Has_4_r : vc2 C (n + 1) [] (.code c_spec_l00Has_4 :: sk) e h R = (vc2 C n [] (.code c_spec_l00Has_2 :: .code c_spec_l00Has_3 :: sk) e h R) := nr rfl
@[simp, simp ↓] theorem c_spec_l00Has_5_r : vc2 C (n + 1) [] (.code c_spec_l00Has_5 :: sk) e h R = (vc2 C n c_spec_l00Has_o3 sk e h R) := nr rfl
@[simp, simp ↓] theorem c_spec_l00Has_6_r : vc2 C (n + 1) [] (.code c_spec_l00Has_6 :: sk) e h R = (vc2 C n c_spec_l00Has_o4 sk e h R) := nr rfl
@[simp, simp ↓] theorem c_spec_l00Has_7_r : vc2 C (n + 1) [] (.code c_spec_l00Has_7 :: sk) e h R = (vc2 C n [] (.code c_spec_l00Has_6 :: .code .ret :: sk) e h R) := nr rfl
@[simp, simp ↓] theorem c_spec_l00Has_8_r : vc2 C (n + 1) [] (.code c_spec_l00Has_8 :: sk) e h R = (condK (ev e (.t 17)) (vc2 C n [] (.code c_spec_l00Has_7 :: sk) e h R) (vc2 C n [] (.code .skip :: sk) e h R)) := nr rfl
@[simp, simp ↓] theorem c_spec_l00Has_9_r : vc2 C (n + 1) [] (.code c_spec_l00Has_9 :: sk) e h R = (vc2 C n [] (.code c_spec_l00Has_5 :: .code c_spec_l00Has_8 :: sk) e h R) := nr rfl
@[simp, simp ↓] theorem c_spec_l00Has_10_r : vc2 C (n + 1) [] (.code c_spec_l00Has_10 :: sk) e h R = (vc2 C n [] (.code c_spec_l00Has_9 :: .inBlock 1 :: sk) e h R) := nr rfl
@[simp, simp ↓] theorem c_spec_l00Has_11_r : vc2 C (n + 1) [] (.code c_spec_l00Has_11 :: sk) e h R = (vc2 C n c_spec_l00Has_o5 sk e h R) := nr rfl
@[simp, simp ↓] theorem c_spec_l00Has_12_r : vc2 C (n + 1) [] (.code c_spec_l00Has_12 :: sk) e h R = (vc2 C n [] (.code c_spec_l00Has_10 :: .code c_spec_l00Has_11 :: sk) e h R) := nr rfl
@[simp, simp ↓] theorem c_spec_l00Has_13_r : vc2 C (n + 1) [] (.code c_spec_l00Has_13 :: sk) e h R = (vc2 C n [] (.code c_spec_l00Has_4 :: .code c_spec_l00Has_12 :: sk) e h R) := nr rfl
@[simp, simp ↓] theorem c_spec_l00Has_14_r : vc2 C (n + 1) [] (.code c_spec_l00Has_14 :: sk) e h R = (Run2 C (.code c_spec_l00Has_13 :: .inLoop c_spec_l00Has_13 :: sk) e h R) := nr rfl
@[simp, simp ↓] theorem c_spec_l00Has_15_r : vc2 C (n + 1) [] (.code c_spec_l00Has_15 :: sk) e h R = (vc2 C n [] (.code c_spec_l00Has_14 :: .inBlock 0 :: sk) e h R) := nr rfl
@[simp, simp ↓] theorem c_spec_l00Has_16_r : vc2 C (n + 1) [] (.code c_spec_l00Has_16 :: sk) e h R = (vc2 C n [] (.code c_spec_l00Has_1 :: .code c_spec_l00Has_15 :: sk) e h R) := nr rfl
@[simp, simp ↓] theorem c_spec_l00Has_17_r : vc2 C (n + 1) [] (.code c_spec_l00Has_17 :: sk) e h R = (vc2 C n c_spec_l00Has_o6 sk e h R) := nr rfl
@[simp, simp ↓] theorem c_spec_l00Has_18_r : vc2 C (n + 1) [] (.code c_spec_l00Has_18 :: sk) e h R = (vc2 C n [] (.code c_spec_l00Has_17 :: .code .ret :: sk) e h R) := nr rfl
@[simp, simp ↓] theorem c_spec_l00Has_19_r : vc2 C (n + 1) [] (.code c_spec_l00Has_19 :: sk) e h R = (vc2 C n [] (.code c_spec_l00Has_16 :: .code c_spec_l00Has_18 :: sk) e h R) := nr rfl
@[simp, simp ↓] theorem c_spec_l00Has_20_r : vc2 C (n + 1) [] (.code c_spec_l00Has_20 :: sk) e h R = (vc2 C n [] (.code c_spec_l00Has_0 :: .code c_spec_l00Has_19 :: sk) e h R) := nr rfl
end
noncomputable def c_spec_l00Has_C (orc : Orc) : Cx := ⟨Try.prog, [], 83, 18, [.tmp 4], orc⟩
@[simp] theorem c_spec_l00Has_C_P (orc : Orc) : (c_spec_l00Has_C orc).P = Try.prog := nr rfl
@[simp] theorem c_spec_l00Has_C_o (orc : Orc) : (c_spec_l00Has_C orc).orc = orc := nr rfl
@[simp] theorem c_spec_l00Has_C_r (orc : Orc) : (c_spec_l00Has_C orc).res = [.tmp 4] := nr rfl
theorem c_spec_l00Has_of {args : List AV} {h : Heap} {R : AV → Heap → Prop} {k : Nat} (ha : args.length = k) {orc : Orc} (hp : Pure Try.prog orc) (hk : Is (c_spec_l00Has_C orc) Try.f83 → Run2 (c_spec_l00Has_C orc) [.code c_spec_l00Has_20] (argEnv 0 args) h (Post R)) (hle : k ≤ 18 := by simp) : ACalls Try.prog 83 args h R :=
  contract2 [] c_spec_l00Has_20 [.tmp 4] Try.func83 (by decide +kernel) rfl (by kernel_rfl) (by rw [ha]; exact hle) (by kernel_rfl) hp hk
theorem c_spec_l00Has_of0 {args : List AV} {h : Heap} {R : AV → Heap → Prop} {k : Nat} (ha : args.length = k) {orc : Orc} (hp : Pure Try.prog orc) (hk : Is (c_spec_l00Has_C orc) Try.f83 → Run2 (c_spec_l00Has_C orc) [.code c_spec_l00Has_20] (argEnv 0 args) h R) (hle : k ≤ 18 := by simp) : ACalls Try.prog 83 args h R :=
  contract20 [] c_spec_l00Has_20 [.tmp 4] Try.func83 (by decide +kernel) rfl (by kernel_rfl) (by rw [ha]; exact hle) (by kernel_rfl) hp hk
theorem l00Has_s (l : List Int) (n : Int) (h : Heap) (hl : l.length ≤ 1048576) : ACalls Try.prog 83 [.snap 1 (l.map iv), .int .i64 n] h (fun v h' => v = .bool (decide (n ∈ l)) ∧ h' = h) := by
  refine c_spec_l00Has_of0 rfl noPure fun I => ?_
  refine Run2.of I 1000 ?_
  simp -implicitDefEqProofs
  refine Run2.loopE (fun i => [(0, .snap 1 (l.map iv)), (1, .int .i64 n), (5, .int .i64 (i : Nat))]) (fun i => h) (fun i => l.length - i) (fun i => i ≤ l.length ∧ n ∉ l.take i) 0 (by simp) rfl (by simp) fun i hi ih => ?_
  by_cases hlt : i < l.length
  · have hin : l[i] = n → n ∈ l := fun h => h ▸ List.getElem_mem hlt
    have go := fun (h1 : ¬ l[i] = n) => ih (i + 1) ⟨by omega, by rw [List.take_succ_eq_append_getElem hlt, List.mem_append, List.mem_singleton]; rintro (h | h); exact hi.2 h; exact h1 h.symm⟩ (by omega)
    clear ih
    refine Run2.of I 1000 ?_
    simp -implicitDefEqProofs [hlt]
    exact ⟨fun h => hin h, fun h => ⟨by omega, by simpa using go h⟩⟩
  · obtain rfl : i = l.length := by omega
    have h2 := hi.2
    rw [List.take_length] at h2
    refine Run2.of I 1000 ?_
    simp -implicitDefEqProofs
    exact h2
theorem l00Has_c (u : AV) (n : Int) (h : Heap) (hu : isInts u) (hl : (intsOf u).length ≤ 1048576) : ACalls Try.prog 83 [u, .int .i64 n] h (fun v h' => v = .bool (decide (n ∈ intsOf u)) ∧ h' = h) :=
  (l00Has_s _ n h hl).wk (.cons (.ints hu) (.refl _))
noncomputable def o_l00Has : List AV → Option (Prop × AV) := tab (fun (x : AV × Int) => match x with | (u, n) => [u, .int .i64 n]) (fun x => match x with | (u, n) => (isInts u ∧ (intsOf u).length ≤ 1048576)) (fun x => match x with | (u, n) => .bool (decide (n ∈ intsOf u)))
@[simp] theorem o_l00Has_e (u : AV) (n : Int) : o_l00Has [u, .int .i64 n] = some ((isInts u ∧ (intsOf u).length ≤ 1048576), .bool (decide (n ∈ intsOf u))) := tab_at (enc := fun (x : AV × Int) => match x with | (u, n) => [u, .int .i64 n]) (fun x y h => by
  obtain ⟨u1, n1⟩ := x; obtain ⟨u2, n2⟩ := y; simp at h; simp [h]) _ _ (u, n)
theorem o_l00Has_k : Knows Try.prog 83 o_l00Has := tab_knows fun x hx h => by
  obtain ⟨u, n⟩ := x; exact l00Has_c u n h hx.1 hx.2
abbrev c_spec_l24Meet_o0 : List AJ := [.o ⟨(some 4), none, false, .mv (.c (.bool false)), (some [0, 1])⟩]
def c_spec_l24Meet_0 : ACode := .region c_spec_l24Meet_o0
abbrev c_spec_l24Meet_o1 : List AI := [⟨(some 5), none, false, .mv (.t 0), none⟩, ⟨(some 6), none, false, .nilchk (.t 5), none⟩, ⟨(some 7), none, false, .fieldA 0 (.t 6), none⟩, ⟨(some 8), none, false, .load 1 false (.t 7), none⟩, ⟨(some 9), none, false, .mv (.t 1), none⟩, ⟨(some 10), none, false, .nilchk (.t 9), none⟩, ⟨(some 11), none, false, .fieldA 0 (.t 10), none⟩, ⟨(some 12), none, false, .load 1 false (.t 11), none⟩, ⟨(some 13), none, false, .bin .eql (.t 8) (.t 12), none⟩, ⟨(some 14), none, false, .mv (.t 13), none⟩, ⟨(some 15), (some (14, false)), false, .mv (.t 0), none⟩, ⟨(some 16), (some (14, false)), false, .nilchk (.t 15), (some [0, 1, 14, 16])⟩, ⟨(some 17), (some (14, false)), false, .fieldA 0 (.t 16), none⟩, ⟨(some 18), (some (14, false)), false, .load 1 false (.t 17), none⟩, ⟨(some 19), (some (14, false)), false, .mv (.t 1), none⟩, ⟨(some 20), (some (14, false)), false, .nilchk (.t 19), none⟩, ⟨(some 21), (some (14, false)), false, .fieldA 1 (.t 20), none⟩, ⟨(some 22), (some (14, false)), false, .load 1 false (.t 21), none⟩, ⟨(some 23), (some (14, false)), false, .bin .eql (.t 18) (.t 22), (some [0, 1, 14, 23])⟩, ⟨(some 24), none, false, .pick (.t 14) (.c (.bool true)) (.t 23), none⟩, ⟨(some 25), none, false, .mv (.t 24), none⟩, ⟨(some 26), (some (25, false)), false, .mv (.t 0), none⟩, ⟨(some 27), (some (25, false)), false, .nilchk (.t 26), none⟩, ⟨(some 28), (some (25, false)), false, .fieldA 1 (.t 27), none⟩, ⟨(some 29), (some (25, false)), false, .load 1 false (.t 28), none⟩, ⟨(some 30), (some (25, false)), false, .mv (.t 1), none⟩, ⟨(some 31), (some (25, false)), false, .nilchk (.t 30), (some [0, 1, 25, 29, 31])⟩, ⟨(some 32), (some (25, false)), false, .fieldA 0 (.t 31), none⟩, ⟨(some 33), (some (25, false)), false, .load 1 false (.t 32), none⟩, ⟨(some 34), (some (25, false)), false, .bin .eql (.t 29) (.t 33), none⟩, ⟨(some 35), none, false, .pick (.t 25) (.c (.bool true)) (.t 34), none⟩, ⟨(some 36), none, false, .mv (.t 35), none⟩, ⟨(some 37), (some (36, false)), false, .mv (.t 0), none⟩, ⟨(some 38), (some (36, false)), false, .nilchk (.t 37), none⟩, ⟨(some 39), (some (36, false)), false, .fieldA 1 (.t 38), (some [1, 36, 39])⟩, ⟨(some 40), (some (36, false)), false, .load 1 false (.t 39), none⟩, ⟨(some 41), (some (36, false)), false, .mv (.t 1), none⟩, ⟨(some 42), (some (36, false)), false, .nilchk (.t 41), none⟩, ⟨(some 43), (some (36, false)), false, .fieldA 1 (.t 42), none⟩, ⟨(some 44), (some (36, false)), false, .load 1 false (.t 43), none⟩, ⟨(some 45), (some (36, false)), false, .bin .eql (.t 40) (.t 44), none⟩, ⟨(some 46), none, false, .pick (.t 36) (.c (.bool true)) (.t 45), none⟩, ⟨(some 4), none, false, .mv (.t 46), (some [4])⟩]
def c_spec_l24Meet_1 : ACode := .draw c_spec_l24Meet_o1 [] rfl
def c_spec_l24Meet_2 : ACode := .seq c_spec_l24Meet_1 .ret
def c_spec_l24Meet_3 : ACode := .seq c_spec_l24Meet_0 c_spec_l24Meet_2
section
variable (C : Cx) (n : Nat) (sk : List AItem) (e : Env) (h : Heap) (R : AV → Heap → Prop)
@[simp, simp ↓] theorem c_spec_l24Meet_0_r : vc2 C (n + 1) [] (.code c_spec_l24Meet_0 :: sk) e h R = (vc2 C n c_spec_l24Meet_o0 sk e h R) := nr rfl
@[simp, simp ↓] theorem c_spec_l24Meet_1_r : vc2 C (n + 1) [] (.code c_spec_l24Meet_1 :: sk) e h R = (draw2 C h (vK C n [] sk R h) c_spec_l24Meet_o1 e) := nr rfl
@[simp, simp ↓] theorem c_spec_l24Meet_2_r : vc2 C (n + 1) [] (.code c_spec_l24Meet_2 :: sk) e h R = (vc2 C n [] (.code c_spec_l24Meet_1 :: .code .ret :: sk) e h R) := nr rfl
@[simp, simp ↓] theorem c_spec_l24Meet_3_r : vc2 C (n + 1) [] (.code c_spec_l24Meet_3 :: sk) e h R = (vc2 C n [] (.code c_spec_l24Meet_0 :: .code c_spec_l24Meet_2 :: sk) e h R) := nr rfl
end
noncomputable def c_spec_l24Meet_C (orc : Orc) : Cx := ⟨Try.prog, [], 140, 47, [.tmp 4], orc⟩
@[simp] theorem c_spec_l24Meet_C_P (orc : Orc) : (c_spec_l24Meet_C orc).P = Try.prog := nr rfl
@[simp] theorem c_spec_l24Meet_C_o (orc : Orc) : (c_spec_l24Meet_C orc).orc = orc := nr rfl
@[simp] theorem c_spec_l24Meet_C_r (orc : Orc) : (c_spec_l24Meet_C orc).res = [.tmp 4] := nr rfl
theorem c_spec_l24Meet_of {args : List AV} {h : Heap} {R : AV → Heap → Prop} {k : Nat} (ha : args.length = k) {orc : Orc} (hp : Pure Try.prog orc) (hk : Is (c_spec_l24Meet_C orc) Try.f140 → Run2 (c_spec_l24Meet_C orc) [.code c_spec_l24Meet_3] (argEnv 0 args) h (Post R)) (hle : k ≤ 47 := by simp) : ACalls Try.prog 140 args h R :=
  contract2 [] c_spec_l24Meet_3 [.tmp 4] Try.func140 (by decide +kernel) rfl (by kernel_rfl) (by rw [ha]; exact hle) (by kernel_rfl) hp hk
theorem c_spec_l24Meet_of0 {args : List AV} {h : Heap} {R : AV → Heap → Prop} {k : Nat} (ha : args.length = k) {orc : Orc} (hp : Pure Try.prog orc) (hk : Is (c_spec_l24Meet_C orc) Try.f140 → Run2 (c_spec_l24Meet_C orc) [.code c_spec_l24Meet_3] (argEnv 0 args) h R) (hle : k ≤ 47 := by simp) : ACalls Try.prog 140 args h R :=
  contract20 [] c_spec_l24Meet_3 [.tmp 4] Try.func140 (by decide +kernel) rfl (by kernel_rfl) (by rw [ha]; exact hle) (by kernel_rfl) hp hk
theorem l24Meet_c (a b : T) (h : Heap) : ACalls Try.prog 140 [.ip [.int .i64 a.f, .int .i64 a.t, .int .i64 a.s], .ip [.int .i64 b.f, .int .i64 b.t, .int .i64 b.s]] h (fun v h' => v = .bool (decide (a.meet b)) ∧ h' = h) := by
  refine c_spec_l24Meet_of0 rfl noPure fun I => ?_
  refine Run2.of I 1000 ?_
  simp -implicitDefEqProofs [T.meet]
  grind
noncomputable def o_l24Meet : List AV → Option (Prop × AV) := tab (fun (x : Int × Int × Int × Int × Int × Int) => match x with | (f, t, s, f', t', s') => [.ip [.int .i64 f, .int .i64 t, .int .i64 s], .ip [.int .i64 f', .int .i64 t', .int .i64 s']]) (fun x => match x with | (f, t, s, f', t', s') => True) (fun x => match x with | (f, t, s, f', t', s') => .bool (decide (T.meet ⟨f, t, s⟩ ⟨f', t', s'⟩)))
@[simp] theorem o_l24Meet_e (f : Int) (t : Int) (s : Int) (f' : Int) (t' : Int) (s' : Int) : o_l24Meet [.ip [.int .i64 f, .int .i64 t, .int .i64 s], .ip [.int .i64 f', .int .i64 t', .int .i64 s']] = some (True, .bool (decide (T.meet ⟨f, t, s⟩ ⟨f', t', s'⟩))) := tab_at (enc := fun (x : Int × Int × Int × Int × Int × Int) => match x with | (f, t, s, f', t', s') => [.ip [.int .i64 f, .int .i64 t, .int .i64 s], .ip [.int .i64 f', .int .i64 t', .int .i64 s']]) (fun x y h => by
  obtain ⟨f1, t1, s1, f'1, t'1, s'1⟩ := x; obtain ⟨f2, t2, s2, f'2, t'2, s'2⟩ := y; simp at h; simp [h]) _ _ (f, t, s, f', t', s')
theorem o_l24Meet_k : Knows Try.prog 140 o_l24Meet := tab_knows fun x hx h => by
  obtain ⟨f, t, s, f', t', s'⟩ := x; exact l24Meet_c ⟨f, t, s⟩ ⟨f', t', s'⟩ h
abbrev c_spec_l24Free_o0 : List AJ := [.o ⟨(some 6), none, false, .mv (.c (.bool false)), (some [0, 1, 2])⟩]
def c_spec_l24Free_0 : ACode := .region c_spec_l24Free_o0
abbrev c_spec_l24Free_o1 : List AJ := [.o ⟨(some 7), none, false, .mv (.c (.int .i64 0)), (some [0, 1, 2, 7])⟩]
def c_spec_l24Free_1 : ACode := .region c_spec_l24Free_o1
abbrev c_spec_l24Free_o2 : List AJ := [.o ⟨(some 8), none, false, .mv (.t 7), none⟩, .o ⟨(some 9), none, false, .mv (.t 1), none⟩, .o ⟨(some 10), none, false, .len (.t 9), none⟩, .o ⟨(some 11), none, false, .bin .lss (.t 8) (.t 10), (some [0, 1, 2, 7, 11])⟩]
def c_spec_l24Free_2 : ACode := .region c_spec_l24Free_o2
def c_spec_l24Free_3 : ACode := .cond (.t 11) .skip (.exit 0)
def c_spec_l24Free_4 : ACode := .seq c_spec_l24Free_2 c_spec_l24Free_3
abbrev c_spec_l24Free_o3 : List AI := [⟨(some 14), none, false, .mv (.t 0), none⟩, ⟨(some 15), none, false, .nilchk (.t 14), none⟩, ⟨(some 16), none, false, .fieldA 1 (.t 15), none⟩, ⟨(some 17), none, false, .load 1 false (.t 16), none⟩, ⟨(some 18), none, false, .mv (.t 1), none⟩, ⟨(some 19), none, false, .mv (.t 7), none⟩, ⟨(some 20), none, false, .idxA 1 (.t 18) (.t 19), none⟩, ⟨(some 21), none, false, .load 1 false (.t 20), none⟩, ⟨(some 22), none, false, .idxA 3 (.t 17) (.t 21), none⟩, ⟨(some 23), none, false, .mv (.t 0), none⟩, ⟨(some 24), none, false, .nilchk (.t 23), none⟩, ⟨(some 25), none, false, .fieldA 1 (.t 24), none⟩, ⟨(some 26), none, false, .load 1 false (.t 25), none⟩, ⟨(some 27), none, false, .mv (.t 2), (some [0, 1, 2, 7, 22, 26, 27])⟩, ⟨(some 28), none, false, .idxA 3 (.t 26) (.t 27), none⟩, ⟨(some 29), none, false, .call 140 [(.t 22), (.t 28)], (some [0, 1, 2, 7, 29])⟩]
def c_spec_l24Free_5 : ACode := .draw c_spec_l24Free_o3 [] rfl
abbrev c_spec_l24Free_o4 : List AJ := [.o ⟨(some 6), none, false, .mv (.c (.bool false)), (some [6])⟩]
def c_spec_l24Free_6 : ACode := .region c_spec_l24Free_o4
def c_spec_l24Free_7 : ACode := .seq c_spec_l24Free_6 .ret
def c_spec_l24Free_8 : ACode := .cond (.t 29) c_spec_l24Free_7 .skip
def c_spec_l24Free_9 : ACode := .seq c_spec_l24Free_5 c_spec_l24Free_8
def c_spec_l24Free_10 : ACode := .block 1 c_spec_l24Free_9
abbrev c_spec_l24Free_o5 : List AJ := [.o ⟨(some 12), none, false, .mv (.t 7), none⟩, .o ⟨(some 13), none, true, .bin .add (.t 12) (.c (.int .i64 1)), none⟩, .o ⟨(some 7), none, false, .mv (.t 13), (some [0, 1, 2, 7])⟩]
def c_spec_l24Free_11 : ACode := .region c_spec_l24Free_o5
def c_spec_l24Free_12 : ACode := .seq c_spec_l24Free_10 c_spec_l24Free_11
def c_spec_l24Free_13 : ACode := .seq c_spec_l24Free_4 c_spec_l24Free_12
def c_spec_l24Free_14 : ACode := .loop c_spec_l24Free_13
def c_spec_l24Free_15 : ACode := .block 0 c_spec_l24Free_14
def c_spec_l24Free_16 : ACode := .seq c_spec_l24Free_1 c_spec_l24Free_15
abbrev c_spec_l24Free_o6 : List AJ := [.o ⟨(some 6), none, false, .mv (.c (.bool true)), (some [6])⟩]
def c_spec_l24Free_17 : ACode := .region c_spec_l24Free_o6
def c_spec_l24Free_18 : ACode := .seq c_spec_l24Free_17 .ret
def c_spec_l24Free_19 : ACode := .seq c_spec_l24Free_16 c_spec_l24Free_18
def c_spec_l24Free_20 : ACode := .seq c_spec_l24Free_0 c_spec_l24Free_19
section
variable (C : Cx) (n : Nat) (sk : List AItem) (e : Env) (h : Heap) (R : AV → Heap → Prop)
@[simp, simp ↓] theorem c_spec_l24Free_0_r : vc2 C (n + 1) [] (.code c_spec_l24Free_0 :: sk) e h R = (vc2 C n c_spec_l24Free_o0 sk e h R) := nr rfl
@[simp, simp ↓] theorem c_spec_l24Free_1_r : vc2 C (n + 1) [] (.code c_spec_l24Free_1 :: sk) e h R = (vc2 C n c_spec_l24Free_o1 sk e h R) := nr rfl
@[simp, simp ↓] theorem c_spec_l24Free_2_r : vc2 C (n + 1) [] (.code c_spec_l24Free_2 :: sk) e h R = (vc2 C n c_spec_l24Free_o2 sk e h R) := nr rfl
@[simp, simp ↓] theorem c_spec_l24Free_3_r : vc2 C (n + 1) [] (.code c_spec_l24Free_3 :: sk) e h R = (condK (ev e (.t 11)) (vc2 C n [] (.code .skip :: sk) e h R) (vc2 C n [] (.code (.exit 0) :: sk) e h R)) := nr rfl
@[simp, simp ↓] theorem c_spec_l24Free_4_r : vc2 C (n + 1) [] (.code c_spec_l24Free_4 :: sk) e h R = (vc2 C n [] (.code c_spec_l24Free_2 :: .code c_spec_l24Free_3 :: sk) e h R) := nr rfl
@[simp, simp ↓] theorem c_spec_l24Free_5_r : vc2 C (n + 1) [] (.code c_spec_l24Free_5 :: sk) e h R = (draw2 C h (vK C n [] sk R h) c_spec_l24Free_o3 e) := nr rfl
@[simp, simp ↓] theorem c_spec_l24Free_6_r : vc2 C (n + 1) [] (.code c_spec_l24Free_6 :: sk) e h R = (vc2 C n c_spec_l24Free_o4 sk e h R) := nr rfl
@[simp, simp ↓] theorem c_spec_l24Free_7_r : vc2 C (n + 1) [] (.code c_spec_l24Free_7 :: sk) e h R = (vc2 C n [] (.code c_spec_l24Free_6 :: .code .ret :: sk) e h R) := nr rfl
@[simp, simp ↓] theorem c_spec_l24Free_8_r : vc2 C (n + 1) [] (.code c_spec_l24Free_8 :: sk) e h R = (condK (ev e (.t 29)) (vc2 C n [] (.code c_spec_l24Free_7 :: sk) e h R) (vc2 C n [] (.code .skip :: sk) e h R)) := nr rfl
@[simp, simp ↓] theorem c_spec_l24Free_9_r : vc2 C (n + 1) [] (.code c_spec_l24Free_9 :: sk) e h R = (vc2 C n [] (.code c_spec_l24Free_5 :: .code c_spec_l24Free_8 :: sk) e h R) := nr rfl
@[simp, simp ↓] theorem c_spec_l24Free_10_r : vc2 C (n + 1) [] (.code c_spec_l24Free_10 :: sk) e h R = (vc2 C n [] (.code c_spec_l24Free_9 :: .inBlock 1 :: sk) e h R) := nr rfl
@[simp, simp ↓] theorem c_spec_l24Free_11_r : vc2 C (n + 1) [] (.code c_spec_l24Free_11 :: sk) e h R = (vc2 C n c_spec_l24Free_o5 sk e h R) := nr rfl
@[simp, simp ↓] theorem c_spec_l24Free_12_r : vc2 C (n + 1) [] (.code c_spec_l24Free_12 :: sk) e h R = (vc2 C n [] (.code c_spec_l24Free_10 :: .code c_spec_l24Free_11 :: sk) e h R) := nr rfl
@[simp, simp ↓] theorem c_spec_l24Free_13_r : vc2 C (n + 1) [] (.code c_spec_l24Free_13 :: sk) e h R = (vc2 C n [] (.code c_spec_l24Free_4 :: .code c_spec_l24Free_12 :: sk) e h R) := nr rfl
@[simp, simp ↓] theorem c_spec_l24Free_14_r : vc2 C (n + 1) [] (.code c_spec_l24Free_14 :: sk) e h R = (Run2 C (.code c_spec_l24Free_13 :: .inLoop c_spec_l24Free_13 :: sk) e h R) := nr rfl
@[simp, simp ↓] theorem c_spec_l24Free_15_r : vc2 C (n + 1) [] (.code c_spec_l24Free_15 :: sk) e h R = (vc2 C n [] (.code c_spec_l24Free_14 :: .inBlock 0 :: sk) e h R) := nr rfl
@[simp, simp ↓] theorem c_spec_l24Free_16_r : vc2 C (n + 1) [] (.code c_spec_l24Free_16 :: sk) e h R = (vc2 C n [] (.code c_spec_l24Free_1 :: .code c_spec_l24Free_15 :: sk) e h R) := nr rfl
@[simp, simp ↓] theorem c_spec_l24Free_17_r : vc2 C (n + 1) [] (.code c_spec_l24Free_17 :: sk) e h R = (vc2 C n c_spec_l24Free_o6 sk e h R) := nr rfl
@[simp, simp ↓] theorem c_spec_l24Free_18_r : vc2 C (n + 1) [] (.code c_spec_l24Free_18 :: sk) e h R = (vc2 C n [] (.code c_spec_l24Free_17 :: .code .ret :: sk) e h R) := nr rfl
@[simp, simp ↓] theorem c_spec_l24Free_19_r : vc2 C (n + 1) [] (.code c_spec_l24Free_19 :: sk) e h R = (vc2 C n [] (.code c_spec_l24Free_16 :: .code c_spec_l24Free_18 :: sk) e h R) := nr rfl
@[simp, simp ↓] theorem c_spec_l24Free_20_r : vc2 C (n + 1) [] (.code c_spec_l24Free_20 :: sk) e h R = (vc2 C n [] (.code c_spec_l24Free_0 :: .code c_spec_l24Free_19 :: sk) e h R) := nr rfl
end
noncomputable def c_spec_l24Free_C (orc : Orc) : Cx := ⟨Try.prog, [], 107, 30, [.tmp 6], orc⟩
@[simp] theorem c_spec_l24Free_C_P (orc : Orc) : (c_spec_l24Free_C orc).P = Try.prog := nr rfl
@[simp] theorem c_spec_l24Free_C_o (orc : Orc) : (c_spec_l24Free_C orc).orc = orc := nr rfl
@[simp] theorem c_spec_l24Free_C_r (orc : Orc) : (c_spec_l24Free_C orc).res = [.tmp 6] := nr rfl
theorem c_spec_l24Free_of {args : List AV} {h : Heap} {R : AV → Heap → Prop} {k : Nat} (ha : args.length = k) {orc : Orc} (hp : Pure Try.prog orc) (hk : Is (c_spec_l24Free_C orc) Try.f107 → Run2 (c_spec_l24Free_C orc) [.code c_spec_l24Free_20] (argEnv 0 args) h (Post R)) (hle : k ≤ 30 := by simp) : ACalls Try.prog 107 args h R :=
  contract2 [] c_spec_l24Free_20 [.tmp 6] Try.func107 (by decide +kernel) rfl (by kernel_rfl) (by rw [ha]; exact hle) (by kernel_rfl) hp hk
theorem c_spec_l24Free_of0 {args : List AV} {h : Heap} {R : AV → Heap → Prop} {k : Nat} (ha : args.length = k) {orc : Orc} (hp : Pure Try.prog orc) (hk : Is (c_spec_l24Free_C orc) Try.f107 → Run2 (c_spec_l24Free_C orc) [.code c_spec_l24Free_20] (argEnv 0 args) h R) (hle : k ≤ 30 := by simp) : ACalls Try.prog 107 args h R :=
  contract20 [] c_spec_l24Free_20 [.tmp 6] Try.func107 (by decide +kernel) rfl (by kernel_rfl) (by rw [ha]; exact hle) (by kernel_rfl) hp hk
theorem l24Free_s (x : Gr) (r : List Int) (k : Int) (h : Heap) (hl : r.length ≤ 1048576) (hr : ∀ a ∈ r, x.inR a) (hk : x.inR k) : ACalls Try.prog 107 [.ip [.int .i64 x.n, .snap 3 (x.ts.map T.av)], .snap 1 (r.map iv), .int .i64 k] h (fun v h' => v = .bool (decide (x.free r k)) ∧ h' = h) := by
  obtain ⟨hk1, hk2⟩ := Gr.e_at hk
  refine c_spec_l24Free_of0 rfl (lk_pure o_l24Meet_k lk_pure0) fun I => ?_
  refine Run2.of I 1000 ?_
  simp -implicitDefEqProofs
  refine Run2.loopE (fun (i : Nat) => [(0, .ip [.int .i64 x.n, .snap 3 (x.ts.map T.av)]), (1, .snap 1 (r.map iv)), (2, .int .i64 k), (7, .int .i64 i)]) (fun i => h) (fun i => r.length - i) (fun i => i ≤ r.length ∧ ∀ j (hj : j < r.length), j < i → ¬ (x.e r[j]).meet (x.e k)) 0 (by simp) rfl ⟨Nat.zero_le _, fun _ _ h => by omega⟩ fun i hi ih => ?_
  by_cases hlt : i < r.length
  · obtain ⟨ha1, ha2⟩ := Gr.e_at (hr _ (List.getElem_mem hlt))
    have hbad : (x.e r[i]).meet (x.e k) → ¬ x.free r k := fun h1 h2 => h2 _ (List.getElem_mem hlt) h1
    have go := fun (h1 : ¬ (x.e r[i]).meet (x.e k)) => ih (i + 1) ⟨by omega, fun j hj hji => by
      rcases Nat.lt_or_ge j i with h | h
      · exact hi.2 j hj h
      · obtain rfl : j = i := by omega
        exact h1⟩ (by omega)
    rw [ha2, hk2] at hbad go
    have g1 := (hr _ (List.getElem_mem hlt)).1
    have g2 := hk.1
    clear ih
    refine Run2.of I 1000 ?_
    simp -implicitDefEqProofs [hlt, ha1, hk1, g1, g2]
    refine ⟨fun h => hbad h, fun h => ⟨by omega, ?_⟩⟩
    simpa using go h
  · obtain rfl : i = r.length := by omega
    have h1 : x.free r k := fun a ha => by
      obtain ⟨j, hj, rfl⟩ := List.mem_iff_getElem.1 ha
      exact hi.2 j hj hj
    refine Run2.of I 1000 ?_
    simp -implicitDefEqProofs
    exact h1
abbrev c_impl_isFreeIn_1_o0 : List AJ := [.o ⟨(some 4), none, false, .mv (.c (.bool false)), (some [0, 1, 2])⟩]
def c_impl_isFreeIn_1_0 : ACode := .region c_impl_isFreeIn_1_o0
abbrev c_impl_isFreeIn_1_o1 : List AJ := [.o ⟨(some 6), none, false, .fieldA 1 (.t 1), none⟩, .o ⟨(some 7), none, false, .load 1 false (.t 6), none⟩, .o ⟨(some 8), none, false, .mv (.t 0), none⟩, .o ⟨(some 9), none, false, .idxA 3 (.t 7) (.t 8), none⟩, .o ⟨(some 10), none, false, .load 3 true (.t 9), none⟩, .v 5 3 (.agg [(.int .i64 0), (.int .i64 0), (.int .i64 0)]) [] (.t 10) (some [2, 5])]
def c_impl_isFreeIn_1_1 : ACode := .region c_impl_isFreeIn_1_o1
abbrev c_impl_isFreeIn_1_o2 : List AJ := [.o ⟨(some 11), none, false, .fieldA 0 (.t 2), none⟩, .o ⟨(some 12), none, false, .load 1 false (.t 11), none⟩, .o ⟨(some 13), none, false, .fieldA 0 (.t 5), none⟩, .o ⟨(some 14), none, false, .load 1 false (.t 13), none⟩, .o ⟨(some 15), none, false, .bin .eql (.t 12) (.t 14), none⟩, .o ⟨(some 16), none, false, .mv (.t 15), none⟩, .o ⟨(some 17), (some (16, false)), false, .fieldA 0 (.t 2), none⟩, .o ⟨(some 18), (some (16, false)), false, .load 1 false (.t 17), none⟩, .o ⟨(some 19), (some (16, false)), false, .fieldA 1 (.t 5), none⟩, .o ⟨(some 20), (some (16, false)), false, .load 1 false (.t 19), (some [2, 5, 16, 18, 20])⟩, .o ⟨(some 21), (some (16, false)), false, .bin .eql (.t 18) (.t 20), none⟩, .o ⟨(some 22), none, false, .pick (.t 16) (.c (.bool true)) (.t 21), none⟩, .o ⟨(some 23), none, false, .mv (.t 22), none⟩, .o ⟨(some 24), (some (23, false)), false, .fieldA 1 (.t 2), none⟩, .o ⟨(some 25), (some (23, false)), false, .load 1 false (.t 24), none⟩, .o ⟨(some 26), (some (23, false)), false, .fieldA 0 (.t 5), none⟩, .o ⟨(some 27), (some (23, false)), false, .load 1 false (.t 26), none⟩, .o ⟨(some 28), (some (23, false)), false, .bin .eql (.t 25) (.t 27), (some [2, 5, 23, 28])⟩, .o ⟨(some 29), none, false, .pick (.t 23) (.c (.bool true)) (.t 28), none⟩, .o ⟨(some 30), none, false, .mv (.t 29), none⟩, .o ⟨(some 31), (some (30, false)), false, .fieldA 1 (.t 2), none⟩, .o ⟨(some 32), (some (30, false)), false, .load 1 false (.t 31), none⟩, .o ⟨(some 33), (some (30, false)), false, .fieldA 1 (.t 5), none⟩, .o ⟨(some 34), (some (30, false)), false, .load 1 false (.t 33), none⟩, .o ⟨(some 35), (some (30, false)), false, .bin .eql (.t 32) (.t 34), none⟩, .o ⟨(some 36), none, false, .pick (.t 30) (.c (.bool true)) (.t 35), none⟩, .o ⟨(some 4), none, false, .mv (.t 36), (some [4])⟩]
def c_impl_isFreeIn_1_2 : ACode := .region c_impl_isFreeIn_1_o2
def c_impl_isFreeIn_1_3 : ACode := .seq c_impl_isFreeIn_1_2 .ret
def c_impl_isFreeIn_1_4 : ACode := .seq c_impl_isFreeIn_1_1 c_impl_isFreeIn_1_3
def c_impl_isFreeIn_1_5 : ACode := .seq c_impl_isFreeIn_1_0 c_impl_isFreeIn_1_4
section
variable (C : Cx) (n : Nat) (sk : List AItem) (e : Env) (h : Heap) (R : AV → Heap → Prop)
@[simp, simp ↓] theorem c_impl_isFreeIn_1_0_r : vc2 C (n + 1) [] (.code c_impl_isFreeIn_1_0 :: sk) e h R = (vc2 C n c_impl_isFreeIn_1_o0 sk e h R) := nr rfl
@[simp, simp ↓] theorem c_impl_isFreeIn_1_1_r : vc2 C (n + 1) [] (.code c_impl_isFreeIn_1_1 :: sk) e h R = (vc2 C n c_impl_isFreeIn_1_o1 sk e h R) := nr rfl
@[simp, simp ↓] theorem c_impl_isFreeIn_1_2_r : vc2 C (n + 1) [] (.code c_impl_isFreeIn_1_2 :: sk) e h R = (vc2 C n c_impl_isFreeIn_1_o2 sk e h R) := nr rfl
@[simp, simp ↓] theorem c_impl_isFreeIn_1_3_r : vc2 C (n + 1) [] (.code c_impl_isFreeIn_1_3 :: sk) e h R = (vc2 C n [] (.code c_impl_isFreeIn_1_2 :: .code .ret :: sk) e h R) := nr rfl
@[simp, simp ↓] theorem c_impl_isFreeIn_1_4_r : vc2 C (n + 1) [] (.code c_impl_isFreeIn_1_4 :: sk) e h R = (vc2 C n [] (.code c_impl_isFreeIn_1_1 :: .code c_impl_isFreeIn_1_3 :: sk) e h R) := nr rfl
@[simp, simp ↓] theorem c_impl_isFreeIn_1_5_r : vc2 C (n + 1) [] (.code c_impl_isFreeIn_1_5 :: sk) e h R = (vc2 C n [] (.code c_impl_isFreeIn_1_0 :: .code c_impl_isFreeIn_1_4 :: sk) e h R) := nr rfl
end
noncomputable def c_impl_isFreeIn_1_C (orc : Orc) : Cx := ⟨Try.prog, [5], 109, 37, [.tmp 4], orc⟩
@[simp] theorem c_impl_isFreeIn_1_C_P (orc : Orc) : (c_impl_isFreeIn_1_C orc).P = Try.prog := nr rfl
@[simp] theorem c_impl_isFreeIn_1_C_o (orc : Orc) : (c_impl_isFreeIn_1_C orc).orc = orc := nr rfl
@[simp] theorem c_impl_isFreeIn_1_C_r (orc : Orc) : (c_impl_isFreeIn_1_C orc).res = [.tmp 4] := nr rfl
theorem c_impl_isFreeIn_1_of {args : List AV} {h : Heap} {R : AV → Heap → Prop} {k : Nat} (ha : args.length = k) {orc : Orc} (hp : Pure Try.prog orc) (hk : Is (c_impl_isFreeIn_1_C orc) Try.f109 → Run2 (c_impl_isFreeIn_1_C orc) [.code c_impl_isFreeIn_1_5] (argEnv 0 args) h (Post R)) (hle : k ≤ 37 := by simp) : ACalls Try.prog 109 args h R :=
  contract2 [5] c_impl_isFreeIn_1_5 [.tmp 4] Try.func109 (by decide +kernel) rfl (by kernel_rfl) (by rw [ha]; exact hle) (by kernel_rfl) hp hk
theorem c_impl_isFreeIn_1_of0 {args : List AV} {h : Heap} {R : AV → Heap → Prop} {k : Nat} (ha : args.length = k) {orc : Orc} (hp : Pure Try.prog orc) (hk : Is (c_impl_isFreeIn_1_C orc) Try.f109 → Run2 (c_impl_isFreeIn_1_C orc) [.code c_impl_isFreeIn_1_5] (argEnv 0 args) h R) (hle : k ≤ 37 := by simp) : ACalls Try.prog 109 args h R :=
  contract20 [5] c_impl_isFreeIn_1_5 [.tmp 4] Try.func109 (by decide +kernel) rfl (by kernel_rfl) (by rw [ha]; exact hle) (by kernel_rfl) hp hk
theorem isFreeIn1_c (x : Gr) (e : T) (a : Int) (h : Heap) (ha : x.inR a) : ACalls Try.prog 109 [.int .i64 a, .ip [.int .i64 x.n, .snap 3 (x.ts.map T.av)], .ip [.int .i64 e.f, .int .i64 e.t, .int .i64 e.s]] h (fun v h' => v = .bool (decide (e.meet (x.e a))) ∧ h' = h) := by
  obtain ⟨hk1, hk2⟩ := Gr.e_at ha
  have g1 := ha.1
  refine c_impl_isFreeIn_1_of0 rfl noPure fun I => ?_
  rw [hk2]
  refine Run2.of I 1000 ?_
  simp -implicitDefEqProofs [hk1, g1, T.meet]
  grind
abbrev c_impl_isFreeIn_o0 : List AJ := [.o ⟨(some 3), none, false, .box false 2 (.t 0), none⟩, .o ⟨(some 6), none, false, .mv (.c (.bool false)), (some [1, 2, 3])⟩]
def c_impl_isFreeIn_0 : ACode := .region c_impl_isFreeIn_o0
abbrev c_impl_isFreeIn_o1 : List AJ := [.o ⟨(some 8), none, false, .fieldA 1 (.t 3), none⟩, .o ⟨(some 9), none, false, .load 1 false (.t 8), none⟩, .o ⟨(some 10), none, false, .mv (.t 2), none⟩, .o ⟨(some 11), none, false, .idxA 3 (.t 9) (.t 10), none⟩, .o ⟨(some 12), none, false, .load 3 true (.t 11), none⟩, .v 7 3 (.agg [(.int .i64 0), (.int .i64 0), (.int .i64 0)]) [] (.t 12) (some [1, 3, 7])]
def c_impl_isFreeIn_1 : ACode := .region c_impl_isFreeIn_o1
abbrev c_impl_isFreeIn_o2 : List AJ := [.o ⟨(some 13), none, false, .mv (.t 1), none⟩, .o ⟨(some 14), none, false, .mkfn 109 [(.t 3), (.t 7)], none⟩, .o ⟨(some 15), none, false, .call 108 [(.t 13), (.t 14)], none⟩, .o ⟨(some 16), none, false, .un .not (.t 15), none⟩, .o ⟨(some 6), none, false, .mv (.t 16), (some [6])⟩]
def c_impl_isFreeIn_2 : ACode := .region c_impl_isFreeIn_o2
def c_impl_isFreeIn_3 : ACode := .seq c_impl_isFreeIn_2 .ret
def c_impl_isFreeIn_4 : ACode := .seq c_impl_isFreeIn_1 c_impl_isFreeIn_3
def c_impl_isFreeIn_5 : ACode := .seq c_impl_isFreeIn_0 c_impl_isFreeIn_4
section
variable (C : Cx) (n : Nat) (sk : List AItem) (e : Env) (h : Heap) (R : AV → Heap → Prop)
@[simp, simp ↓] theorem c_impl_isFreeIn_0_r : vc2 C (n + 1) [] (.code c_impl_isFreeIn_0 :: sk) e h R = (vc2 C n c_impl_isFreeIn_o0 sk e h R) := nr rfl
@[simp, simp ↓] theorem c_impl_isFreeIn_1_r : vc2 C (n + 1) [] (.code c_impl_isFreeIn_1 :: sk) e h R = (vc2 C n c_impl_isFreeIn_o1 sk e h R) := nr rfl
@[simp, simp ↓] theorem c_impl_isFreeIn_2_r : vc2 C (n + 1) [] (.code c_impl_isFreeIn_2 :: sk) e h R = (vc2 C n c_impl_isFreeIn_o2 sk e h R) := nr rfl
@[simp, simp ↓] theorem c_impl_isFreeIn_3_r : vc2 C (n + 1) [] (.code c_impl_isFreeIn_3 :: sk) e h R = (vc2 C n [] (.code c_impl_isFreeIn_2 :: .code .ret :: sk) e h R) := nr rfl
@[simp, simp ↓] theorem c_impl_isFreeIn_4_r : vc2 C (n + 1) [] (.code c_impl_isFreeIn_4 :: sk) e h R = (vc2 C n [] (.code c_impl_isFreeIn_1 :: .code c_impl_isFreeIn_3 :: sk) e h R) := nr rfl
@[simp, simp ↓] theorem c_impl_isFreeIn_5_r : vc2 C (n + 1) [] (.code c_impl_isFreeIn_5 :: sk) e h R = (vc2 C n [] (.code c_impl_isFreeIn_0 :: .code c_impl_isFreeIn_4 :: sk) e h R) := nr rfl
end
noncomputable def c_impl_isFreeIn_C (orc : Orc) : Cx := ⟨Try.prog, [7], 67, 17, [.tmp 6], orc⟩
@[simp] theorem c_impl_isFreeIn_C_P (orc : Orc) : (c_impl_isFreeIn_C orc).P = Try.prog := nr rfl
@[simp] theorem c_impl_isFreeIn_C_o (orc : Orc) : (c_impl_isFreeIn_C orc).orc = orc := nr rfl
@[simp] theorem c_impl_isFreeIn_C_r (orc : Orc) : (c_impl_isFreeIn_C orc).res = [.tmp 6] := nr rfl
theorem c_impl_isFreeIn_of {args : List AV} {h : Heap} {R : AV → Heap → Prop} {k : Nat} (ha : args.length = k) {orc : Orc} (hp : Pure Try.prog orc) (hk : Is (c_impl_isFreeIn_C orc) Try.f67 → Run2 (c_impl_isFreeIn_C orc) [.code c_impl_isFreeIn_5] (argEnv 0 args) h (Post R)) (hle : k ≤ 17 := by simp) : ACalls Try.prog 67 args h R :=
  contract2 [7] c_impl_isFreeIn_5 [.tmp 6] Try.func67 (by decide +kernel) rfl (by kernel_rfl) (by rw [ha]; exact hle) (by kernel_rfl) hp hk
theorem c_impl_isFreeIn_of0 {args : List AV} {h : Heap} {R : AV → Heap → Prop} {k : Nat} (ha : args.length = k) {orc : Orc} (hp : Pure Try.prog orc) (hk : Is (c_impl_isFreeIn_C orc) Try.f67 → Run2 (c_impl_isFreeIn_C orc) [.code c_impl_isFreeIn_5] (argEnv 0 args) h R) (hle : k ≤ 17 := by simp) : ACalls Try.prog 67 args h R :=
  contract20 [7] c_impl_isFreeIn_5 [.tmp 6] Try.func67 (by decide +kernel) rfl (by kernel_rfl) (by rw [ha]; exact hle) (by kernel_rfl) hp hk
theorem isFreeIn_s (x : Gr) (r : List Int) (k : Int) (h : Heap) (hl : r.length ≤ 1048576) (hr : ∀ a ∈ r, x.inR a) (hk : x.inR k) : ACalls Try.prog 67 [x.av, .snap 1 (r.map iv), .int .i64 k] h (fun v h' => v = .bool (decide (x.free r k)) ∧ h' = h) := by
  obtain ⟨hk1, hk2⟩ := Gr.e_at hk
  have g1 := hk.1
  refine c_impl_isFreeIn_of0 rfl noPure fun I => ?_
  refine Run2.of I 1000 ?_
  simp -implicitDefEqProofs [hk1, g1]
  rw [← hk2]
  refine (ContainsFunc_s r _ _ (fun a => decide ((x.e k).meet (x.e a))) h hl fun a ha => isFreeIn1_c x (x.e k) a h (hr a ha)).mono ?_
  rintro v h' ⟨rfl, rfl⟩
  refine gK.go ?_
  simp -implicitDefEqProofs
  rw [Bool.eq_iff_iff]
  simp [Gr.free, T.meet_comm]
abbrev c_impl_size_impl_Edge_o0 : List AJ := [.o ⟨(some 2), none, false, .mv (.c (.int .i64 0)), (some [0])⟩]
def c_impl_size_impl_Edge_0 : ACode := .region c_impl_size_impl_Edge_o0
abbrev c_impl_size_impl_Edge_o1 : List AJ := [.o ⟨(some 3), none, false, .mv (.t 0), none⟩, .o ⟨(some 4), none, false, .len (.t 3), none⟩, .o ⟨(some 2), none, false, .mv (.t 4), (some [2])⟩]
def c_impl_size_impl_Edge_1 : ACode := .region c_impl_size_impl_Edge_o1
def c_impl_size_impl_Edge_2 : ACode := .seq c_impl_size_impl_Edge_1 .ret
def c_impl_size_impl_Edge_3 : ACode := .seq c_impl_size_impl_Edge_0 c_impl_size_impl_Edge_2
section
variable (C : Cx) (n : Nat) (sk : List AItem) (e : Env) (h : Heap) (R : AV → Heap → Prop)
@[simp, simp ↓] theorem c_impl_size_impl_Edge_0_r : vc2 C (n + 1) [] (.code c_impl_size_impl_Edge_0 :: sk) e h R = (vc2 C n c_impl_size_impl_Edge_o0 sk e h R) := nr rfl
@[simp, simp ↓] theorem c_impl_size_impl_Edge_1_r : vc2 C (n + 1) [] (.code c_impl_size_impl_Edge_1 :: sk) e h R = (vc2 C n c_impl_size_impl_Edge_o1 sk e h R) := nr rfl
@[simp, simp ↓] theorem c_impl_size_impl_Edge_2_r : vc2 C (n + 1) [] (.code c_impl_size_impl_Edge_2 :: sk) e h R = (vc2 C n [] (.code c_impl_size_impl_Edge_1 :: .code .ret :: sk) e h R) := nr rfl
@[simp, simp ↓] theorem c_impl_size_impl_Edge_3_r : vc2 C (n + 1) [] (.code c_impl_size_impl_Edge_3 :: sk) e h R = (vc2 C n [] (.code c_impl_size_impl_Edge_0 :: .code c_impl_size_impl_Edge_2 :: sk) e h R) := nr rfl
end
noncomputable def c_impl_size_impl_Edge_C (orc : Orc) : Cx := ⟨Try.prog, [], 64, 5, [.tmp 2], orc⟩
@[simp] theorem c_impl_size_impl_Edge_C_P (orc : Orc) : (c_impl_size_impl_Edge_C orc).P = Try.prog := nr rfl
@[simp] theorem c_impl_size_impl_Edge_C_o (orc : Orc) : (c_impl_size_impl_Edge_C orc).orc = orc := nr rfl
@[simp] theorem c_impl_size_impl_Edge_C_r (orc : Orc) : (c_impl_size_impl_Edge_C orc).res = [.tmp 2] := nr rfl
theorem c_impl_size_impl_Edge_of {args : List AV} {h : Heap} {R : AV → Heap → Prop} {k : Nat} (ha : args.length = k) {orc : Orc} (hp : Pure Try.prog orc) (hk : Is (c_impl_size_impl_Edge_C orc) Try.f64 → Run2 (c_impl_size_impl_Edge_C orc) [.code c_impl_size_impl_Edge_3] (argEnv 0 args) h (Post R)) (hle : k ≤ 5 := by simp) : ACalls Try.prog 64 args h R :=
  contract2 [] c_impl_size_impl_Edge_3 [.tmp 2] Try.func64 (by decide +kernel) rfl (by kernel_rfl) (by rw [ha]; exact hle) (by kernel_rfl) hp hk
theorem c_impl_size_impl_Edge_of0 {args : List AV} {h : Heap} {R : AV → Heap → Prop} {k : Nat} (ha : args.length = k) {orc : Orc} (hp : Pure Try.prog orc) (hk : Is (c_impl_size_impl_Edge_C orc) Try.f64 → Run2 (c_impl_size_impl_Edge_C orc) [.code c_impl_size_impl_Edge_3] (argEnv 0 args) h R) (hle : k ≤ 5 := by simp) : ACalls Try.prog 64 args h R :=
  contract20 [] c_impl_size_impl_Edge_3 [.tmp 2] Try.func64 (by decide +kernel) rfl (by kernel_rfl) (by rw [ha]; exact hle) (by kernel_rfl) hp hk
theorem sizeE_s (l : List T) (h : Heap) : ACalls Try.prog 64 [.snap 3 (l.map T.av)] h (fun v h' => v = .int .i64 l.length ∧ h' = h) := by
  refine c_impl_size_impl_Edge_of0 rfl noPure fun I => ?_
  refine Run2.of I 1000 ?_
  simp -implicitDefEqProofs
noncomputable def o_sizeE : List AV → Option (Prop × AV) := tab (fun (x : List T) => match x with | l => [.snap 3 (l.map T.av)]) (fun x => match x with | l => True) (fun x => match x with | l => .int .i64 l.length)
@[simp] theorem o_sizeE_e (l : List T) : o_sizeE [.snap 3 (l.map T.av)] = some (True, .int .i64 l.length) := tab_at (enc := fun (x : List T) => match x with | l => [.snap 3 (l.map T.av)]) (fun x y h => by
  simp at h; simp [h]) _ _ l
theorem o_sizeE_k : Knows Try.prog 64 o_sizeE := tab_knows fun x hx h => by
  exact sizeE_s x h
abbrev c_impl_firstChoice_o0 : List AJ := [.o ⟨(some 2), none, false, .mv (.c .nilsl), (some [0])⟩]
def c_impl_firstChoice_0 : ACode := .region c_impl_firstChoice_o0
abbrev c_impl_firstChoice_o1 : List AJ := [.o ⟨(some 3), none, false, .mv (.c .nilsl), (some [0, 3])⟩]
def c_impl_firstChoice_1 : ACode := .region c_impl_firstChoice_o1
abbrev c_impl_firstChoice_o2 : List AJ := [.o ⟨(some 5), none, false, .mv (.t 0), none⟩, .o ⟨(some 6), none, false, .mv (.c (.int .i64 0)), (some [3, 5, 6])⟩]
def c_impl_firstChoice_2 : ACode := .region c_impl_firstChoice_o2
abbrev c_impl_firstChoice_o3 : List AJ := [.o ⟨(some 7), none, false, .bin .lss (.t 6) (.t 5), (some [3, 5, 6, 7])⟩]
def c_impl_firstChoice_3 : ACode := .region c_impl_firstChoice_o3
def c_impl_firstChoice_4 : ACode := .cond (.t 7) .skip (.exit 0)
abbrev c_impl_firstChoice_o4 : List AJ := [.o ⟨(some 8), none, false, .mv (.t 6), none⟩, .o ⟨(some 4), none, false, .mv (.t 8), (some [3, 4, 5, 6])⟩]
def c_impl_firstChoice_5 : ACode := .region c_impl_firstChoice_o4
abbrev c_impl_firstChoice_o5 : List AJ := [.o ⟨(some 9), none, false, .mv (.t 3), none⟩, .o ⟨(some 10), none, false, .mv (.t 4), none⟩, .o ⟨(some 11), none, false, .bsl false 1 [(.t 10)], none⟩, .o ⟨(some 12), none, false, .append 1 8 (.t 9) (.t 11), none⟩, .o ⟨(some 3), none, false, .mv (.t 12), (some [3, 5, 6])⟩]
def c_impl_firstChoice_6 : ACode := .region c_impl_firstChoice_o5
def c_impl_firstChoice_7 : ACode := .seq c_impl_firstChoice_5 c_impl_firstChoice_6
def c_impl_firstChoice_8 : ACode := .block 1 c_impl_firstChoice_7
abbrev c_impl_firstChoice_o6 : List AJ := [.o ⟨(some 13), none, true, .bin .add (.t 6) (.c (.int .i64 1)), none⟩, .o ⟨(some 6), none, false, .mv (.t 13), (some [3, 5, 6])⟩]
def c_impl_firstChoice_9 : ACode := .region c_impl_firstChoice_o6
def c_impl_firstChoice_10 : ACode := .seq c_impl_firstChoice_8 c_impl_firstChoice_9
def c_impl_firstChoice_11 : ACode := .seq c_impl_firstChoice_4 c_impl_firstChoice_10
def c_impl_firstChoice_12 : ACode := .seq c_impl_firstChoice_3 c_impl_firstChoice_11
def c_impl_firstChoice_13 : ACode := .loop c_impl_firstChoice_12
def c_impl_firstChoice_14 : ACode := .block 0 c_impl_firstChoice_13
def c_impl_firstChoice_15 : ACode := .seq c_impl_firstChoice_2 c_impl_firstChoice_14
abbrev c_impl_firstChoice_o7 : List AJ := [.o ⟨(some 14), none, false, .mv (.t 3), none⟩, .o ⟨(some 2), none, false, .mv (.t 14), (some [2])⟩]
def c_impl_firstChoice_16 : ACode := .region c_impl_firstChoice_o7
def c_impl_firstChoice_17 : ACode := .seq c_impl_firstChoice_16 .ret
def c_impl_firstChoice_18 : ACode := .seq c_impl_firstChoice_15 c_impl_firstChoice_17
def c_impl_firstChoice_19 : ACode := .seq c_impl_firstChoice_1 c_impl_firstChoice_18
def c_impl_firstChoice_20 : ACode := .seq c_impl_firstChoice_0 c_impl_firstChoice_19
section
variable (C : Cx) (n : Nat) (sk : List AItem) (e : Env) (h : Heap) (R : AV → Heap → Prop)
@[simp, simp ↓] theorem c_impl_firstChoice_0_r : vc2 C (n + 1) [] (.code c_impl_firstChoice_0 :: sk) e h R = (vc2 C n c_impl_firstChoice_o0 sk e h R) := nr rfl
@[simp, simp ↓] theorem c_impl_firstChoice_1_r : vc2 C (n + 1) [] (.code c_impl_firstChoice_1 :: sk) e h R = (vc2 C n c_impl_firstChoice_o1 sk e h R) := nr rfl
@[simp, simp ↓] theorem c_impl_firstChoice_2_r : vc2 C (n + 1) [] (.code c_impl_firstChoice_2 :: sk) e h R = (vc2 C n c_impl_firstChoice_o2 sk e h R) := nr rfl
@[simp, simp ↓] theorem c_impl_firstChoice_3_r : vc2 C (n + 1) [] (.code c_impl_firstChoice_3 :: sk) e h R = (vc2 C n c_impl_firstChoice_o3 sk e h R) := nr rfl
@[simp, simp ↓] theorem c_impl_firstChoice_4_r : vc2 C (n + 1) [] (.code c_impl_firstChoice_4 :: sk) e h R = (condK (ev e (.t 7)) (vc2 C n [] (.code .skip :: sk) e h R) (vc2 C n [] (.code (.exit 0) :: sk) e h R)) := nr rfl
@[simp, simp ↓] theorem c_impl_firstChoice_5_r : vc2 C (n + 1) [] (.code c_impl_firstChoice_5 :: sk) e h R = (vc2 C n c_impl_firstChoice_o4 sk e h R) := nr rfl
@[simp, simp ↓] theorem c_impl_firstChoice_6_r : vc2 C (n + 1) [] (.code c_impl_firstChoice_6 :: sk) e h R = (vc2 C n c_impl_firstChoice_o5 sk e h R) := nr rfl
@[simp, simp ↓] theorem c_impl_firstChoice_7_r : vc2 C (n + 1) [] (.code c_impl_firstChoice_7 :: sk) e h R = (vc2 C n [] (.code c_impl_firstChoice_5 :: .code c_impl_firstChoice_6 :: sk) e h R) := nr rfl
@[simp, simp ↓] theorem c_impl_firstChoice_8_r : vc2 C (n + 1) [] (.code c_impl_firstChoice_8 :: sk) e h R = (vc2 C n [] (.code c_impl_firstChoice_7 :: .inBlock 1 :: sk) e h R) := nr rfl
@[simp, simp ↓] theorem c_impl_firstChoice_9_r : vc2 C (n + 1) [] (.code c_impl_firstChoice_9 :: sk) e h R = (vc2 C n c_impl_firstChoice_o6 sk e h R) := nr rfl
@[simp, simp ↓] theorem c_impl_firstChoice_10_r : vc2 C (n + 1) [] (.code c_impl_firstChoice_10 :: sk) e h R = (vc2 C n [] (.code c_impl_firstChoice_8 :: .code c_impl_firstChoice_9 :: sk) e h R) := nr rfl
@[simp, simp ↓] theorem c_impl_firstChoice_11_r : vc2 C (n + 1) [] (.code c_impl_firstChoice_11 :: sk) e h R = (vc2 C n [] (.code c_impl_firstChoice_4 :: .code c_impl_firstChoice_10 :: sk) e h R) := nr rfl
@[simp, simp ↓] theorem c_impl_firstChoice_12_r : vc2 C (n + 1) [] (.code c_impl_firstChoice_12 :: sk) e h R = (vc2 C n [] (.code c_impl_firstChoice_3 :: .code c_impl_firstChoice_11 :: sk) e h R) := nr rfl
@[simp, simp ↓] theorem c_impl_firstChoice_13_r : vc2 C (n + 1) [] (.code c_impl_firstChoice_13 :: sk) e h R = (Run2 C (.code c_impl_firstChoice_12 :: .inLoop c_impl_firstChoice_12 :: sk) e h R) := nr rfl
@[simp, simp ↓] theorem c_impl_firstChoice_14_r : vc2 C (n + 1) [] (.code c_impl_firstChoice_14 :: sk) e h R = (vc2 C n [] (.code c_impl_firstChoice_13 :: .inBlock 0 :: sk) e h R) := nr rfl
@[simp, simp ↓] theorem c_impl_firstChoice_15_r : vc2 C (n + 1) [] (.code c_impl_firstChoice_15 :: sk) e h R = (vc2 C n [] (.code c_impl_firstChoice_2 :: .code c_impl_firstChoice_14 :: sk) e h R) := nr rfl
@[simp, simp ↓] theorem c_impl_firstChoice_16_r : vc2 C (n + 1) [] (.code c_impl_firstChoice_16 :: sk) e h R = (vc2 C n c_impl_firstChoice_o7 sk e h R) := nr rfl
@[simp, simp ↓] theorem c_impl_firstChoice_17_r : vc2 C (n + 1) [] (.code c_impl_firstChoice_17 :: sk) e h R = (vc2 C n [] (.code c_impl_firstChoice_16 :: .code .ret :: sk) e h R) := nr rfl
@[simp, simp ↓] theorem c_impl_firstChoice_18_r : vc2 C (n + 1) [] (.code c_impl_firstChoice_18 :: sk) e h R = (vc2 C n [] (.code c_impl_firstChoice_15 :: .code c_impl_firstChoice_17 :: sk) e h R) := nr rfl
@[simp, simp ↓] theorem c_impl_firstChoice_19_r : vc2 C (n + 1) [] (.code c_impl_firstChoice_19 :: sk) e h R = (vc2 C n [] (.code c_impl_firstChoice_1 :: .code c_impl_firstChoice_18 :: sk) e h R) := nr rfl
@[simp, simp ↓] theorem c_impl_firstChoice_20_r : vc2 C (n + 1) [] (.code c_impl_firstChoice_20 :: sk) e h R = (vc2 C n [] (.code c_impl_firstChoice_0 :: .code c_impl_firstChoice_19 :: sk) e h R) := nr rfl
end
noncomputable def c_impl_firstChoice_C (orc : Orc) : Cx := ⟨Try.prog, [], 87, 15, [.tmp 2], orc⟩
@[simp] theorem c_impl_firstChoice_C_P (orc : Orc) : (c_impl_firstChoice_C orc).P = Try.prog := nr rfl
@[simp] theorem c_impl_firstChoice_C_o (orc : Orc) : (c_impl_firstChoice_C orc).orc = orc := nr rfl
@[simp] theorem c_impl_firstChoice_C_r (orc : Orc) : (c_impl_firstChoice_C orc).res = [.tmp 2] := nr rfl
theorem c_impl_firstChoice_of {args : List AV} {h : Heap} {R : AV → Heap → Prop} {k : Nat} (ha : args.length = k) {orc : Orc} (hp : Pure Try.prog orc) (hk : Is (c_impl_firstChoice_C orc) Try.f87 → Run2 (c_impl_firstChoice_C orc) [.code c_impl_firstChoice_20] (argEnv 0 args) h (Post R)) (hle : k ≤ 15 := by simp) : ACalls Try.prog 87 args h R :=
  contract2 [] c_impl_firstChoice_20 [.tmp 2] Try.func87 (by decide +kernel) rfl (by kernel_rfl) (by rw [ha]; exact hle) (by kernel_rfl) hp hk
theorem c_impl_firstChoice_of0 {args : List AV} {h : Heap} {R : AV → Heap → Prop} {k : Nat} (ha : args.length = k) {orc : Orc} (hp : Pure Try.prog orc) (hk : Is (c_impl_firstChoice_C orc) Try.f87 → Run2 (c_impl_firstChoice_C orc) [.code c_impl_firstChoice_20] (argEnv 0 args) h R) (hle : k ≤ 15 := by simp) : ACalls Try.prog 87 args h R :=
  contract20 [] c_impl_firstChoice_20 [.tmp 2] Try.func87 (by decide +kernel) rfl (by kernel_rfl) (by rw [ha]; exact hle) (by kernel_rfl) hp hk
/-- The numbers from 0. -/
def upto (n : Nat) : List Int := (List.range n).map fun (i : Nat) => (i : Int)
theorem upto_succ (n : Nat) : upto (n + 1) = upto n ++ [(n : Int)] := by simp [upto, List.range_succ]
@[simp] theorem upto_length (n : Nat) : (upto n).length = n := by simp [upto]
theorem firstChoice_g (n : Nat) (h : Heap) (hn : n ≤ 1048576) : ACalls Try.prog 87 [.int .i64 n] h (fun v h' => ∃ hp, Grow 1 v ((upto n).map iv) hp ∧ h' = hp ++ h) := by
  refine c_impl_firstChoice_of0 rfl noPure fun I => ?_
  refine Run2.of I 1000 ?_
  simp -implicitDefEqProofs
  refine Run2.loopE (α := Nat × AV × Heap) (fun s => [(3, s.2.1), (5, .int .i64 n), (6, .int .i64 (s.1 : Nat))]) (fun s => s.2.2 ++ h) (fun s => n - s.1) (fun s => s.1 ≤ n ∧ Grow 1 s.2.1 ((upto s.1).map iv) s.2.2) (0, .nilsl, []) (by simp) rfl ⟨Nat.zero_le _, by simpa [upto] using Grow.nil⟩ ?_
  rintro ⟨i, w, hp⟩ ⟨hi, hg⟩ ih
  simp only at hi hg
  have hcell := hg.cell
  by_cases hlt : i < n
  · have go := fun w' hp' (g : Grow 1 w' ((upto i).map iv ++ [.int .i64 i]) hp') => ih (i + 1, w', hp') ⟨hlt, by rw [upto_succ]; simpa using g⟩ (by simp; omega)
    clear ih
    refine Run2.of I 1000 ?_
    simp -implicitDefEqProofs [hlt, hcell]
    refine hg.app (by simp; omega) (by simp) fun w' hp' hg' => ?_
    have hcell' := hg'.cell
    simp -implicitDefEqProofs [hcell']
    refine ⟨by omega, ?_⟩
    simpa using go w' hp' hg'
  · obtain rfl : i = n := by omega
    refine Run2.of I 1000 ?_
    simp -implicitDefEqProofs [hcell]
    exact hg
theorem firstChoice_c (n : Nat) (h : Heap) (hn : n ≤ 1048576) : ACalls Try.prog 87 [.int .i64 n] h (fun v h' => v = .snap 1 ((upto n).map iv) ∧ h' = h) := by
  refine ACalls.post ((firstChoice_g n h hn).mono ?_)
  rintro v h' ⟨hp, g, rfl⟩
  exact g.froze (fun x => x) (fun _ _ _ => rfl) (fun _ _ h => h) (.base ⟨rfl, rfl⟩)
abbrev c_slices_Equal_int64_int64_o0 : List AJ := [.o ⟨(some 4), none, false, .mv (.c (.bool false)), (some [0, 1])⟩]
def c_slices_Equal_int64_int64_0 : ACode := .region c_slices_Equal_int64_int64_o0
abbrev c_slices_Equal_int64_int64_o1 : List AJ := [.o ⟨(some 6), none, false, .mv (.t 0), none⟩, .o ⟨(some 7), none, false, .len (.t 6), none⟩, .o ⟨(some 8), none, false, .mv (.t 1), none⟩, .o ⟨(some 9), none, false, .len (.t 8), none⟩, .o ⟨(some 10), none, false, .bin .neq (.t 7) (.t 9), (some [0, 1, 10])⟩]
def c_slices_Equal_int64_int64_1 : ACode := .region c_slices_Equal_int64_int64_o1
abbrev c_slices_Equal_int64_int64_o2 : List AJ := [.o ⟨(some 4), none, false, .mv (.c (.bool false)), (some [4])⟩]
def c_slices_Equal_int64_int64_2 : ACode := .region c_slices_Equal_int64_int64_o2
def c_slices_Equal_int64_int64_3 : ACode := .seq c_slices_Equal_int64_int64_2 .ret
def c_slices_Equal_int64_int64_4 : ACode := .cond (.t 10) c_slices_Equal_int64_int64_3 .skip
def c_slices_Equal_int64_int64_5 : ACode := .seq c_slices_Equal_int64_int64_1 c_slices_Equal_int64_int64_4
abbrev c_slices_Equal_int64_int64_o3 : List AJ := [.o ⟨(some 11), none, false, .mv (.t 0), none⟩, .o ⟨(some 12), none, false, .len (.t 11), none⟩, .o ⟨(some 13), none, false, .mv (.c (.int .i64 0)), (some [0, 1, 12, 13])⟩]
def c_slices_Equal_int64_int64_6 : ACode := .region c_slices_Equal_int64_int64_o3
abbrev c_slices_Equal_int64_int64_o4 : List AJ := [.o ⟨(some 14), none, false, .bin .lss (.t 13) (.t 12), (some [0, 1, 12, 13, 14])⟩]
def c_slices_Equal_int64_int64_7 : ACode := .region c_slices_Equal_int64_int64_o4
def c_slices_Equal_int64_int64_8 : ACode := .cond (.t 14) .skip (.exit 0)
abbrev c_slices_Equal_int64_int64_o5 : List AJ := [.o ⟨(some 15), none, false, .mv (.t 13), none⟩, .o ⟨(some 5), none, false, .mv (.t 15), (some [0, 1, 5, 12, 13])⟩]
def c_slices_Equal_int64_int64_9 : ACode := .region c_slices_Equal_int64_int64_o5
abbrev c_slices_Equal_int64_int64_o6 : List AI := [⟨(some 16), none, false, .mv (.t 0), none⟩, ⟨(some 17), none, false, .mv (.t 5), none⟩, ⟨(some 18), none, false, .idxA 1 (.t 16) (.t 17), none⟩, ⟨(some 19), none, false, .load 1 false (.t 18), none⟩, ⟨(some 20), none, false, .mv (.t 1), none⟩, ⟨(some 21), none, false, .mv (.t 5), none⟩, ⟨(some 22), none, false, .idxA 1 (.t 20) (.t 21), none⟩, ⟨(some 23), none, false, .load 1 false (.t 22), none⟩, ⟨(some 24), none, false, .bin .neq (.t 19) (.t 23), (some [0, 1, 12, 13, 24])⟩]
def c_slices_Equal_int64_int64_10 : ACode := .draw c_slices_Equal_int64_int64_o6 [] rfl
abbrev c_slices_Equal_int64_int64_o7 : List AJ := [.o ⟨(some 4), none, false, .mv (.c (.bool false)), (some [4])⟩]
def c_slices_Equal_int64_int64_11 : ACode := .region c_slices_Equal_int64_int64_o7
def c_slices_Equal_int64_int64_12 : ACode := .seq c_slices_Equal_int64_int64_11 .ret
def c_slices_Equal_int64_int64_13 : ACode := .cond (.t 24) c_slices_Equal_int64_int64_12 .skip
def c_slices_Equal_int64_int64_14 : ACode := .seq c_slices_Equal_int64_int64_10 c_slices_Equal_int64_int64_13
def c_slices_Equal_int64_int64_15 : ACode := .seq c_slices_Equal_int64_int64_9 c_slices_Equal_int64_int64_14
def c_slices_Equal_int64_int64_16 : ACode := .block 1 c_slices_Equal_int64_int64_15
abbrev c_slices_Equal_int64_int64_o8 : List AJ := [.o ⟨(some 25), none, true, .bin .add (.t 13) (.c (.int .i64 1)), none⟩, .o ⟨(some 13), none, false, .mv (.t 25), (some [0, 1, 12, 13])⟩]
def c_slices_Equal_int64_int64_17 : ACode := .region c_slices_Equal_int64_int64_o8
def c_slices_Equal_int64_int64_18 : ACode := .seq c_slices_Equal_int64_int64_16 c_slices_Equal_int64_int64_17
def c_slices_Equal_int64_int64_19 : ACode := .seq c_slices_Equal_int64_int64_8 c_slices_Equal_int64_int64_18
def c_slices_Equal_int64_int64_20 : ACode := .seq c_slices_Equal_int64_int64_7 c_slices_Equal_int64_int64_19
def c_slices_Equal_int64_int64_21 : ACode := .loop c_slices_Equal_int64_int64_20
def c_slices_Equal_int64_int64_22 : ACode := .block 0 c_slices_Equal_int64_int64_21
def c_slices_Equal_int64_int64_23 : ACode := .seq c_slices_Equal_int64_int64_6 c_slices_Equal_int64_int64_22
abbrev c_slices_Equal_int64_int64_o9 : List AJ := [.o ⟨(some 4), none, false, .mv (.c (.bool true)), (some [4])⟩]
def c_slices_Equal_int64_int64_24 : ACode := .region c_slices_Equal_int64_int64_o9
def c_slices_Equal_int64_int64_25 : ACode := .seq c_slices_Equal_int64_int64_24 .ret
def c_slices_Equal_int64_int64_26 : ACode := .seq c_slices_Equal_int64_int64_23 c_slices_Equal_int64_int64_25
def c_slices_Equal_int64_int64_27 : ACode := .seq c_slices_Equal_int64_int64_5 c_slices_Equal_int64_int64_26
def c_slices_Equal_int64_int64_28 : ACode := .seq c_slices_Equal_int64_int64_0 c_slices_Equal_int64_int64_27
section
variable (C : Cx) (n : Nat) (sk : List AItem) (e : Env) (h : Heap) (R : AV → Heap → Prop)
@[simp, simp ↓] theorem c_slices_Equal_int64_int64_0_r : vc2 C (n + 1) [] (.code c_slices_Equal_int64_int64_0 :: sk) e h R = (vc2 C n c_slices_Equal_int64_int64_o0 sk e h R) := nr rfl
@[simp, simp ↓] theorem c_slices_Equal_int64_int64_1_r : vc2 C (n + 1) [] (.code c_slices_Equal_int64_int64_1 :: sk) e h R = (vc2 C n c_slices_Equal_int64_int64_o1 sk e h R) := nr rfl
@[simp, simp ↓] theorem c_slices_Equal_int64_int64_2_r : vc2 C (n + 1) [] (.code c_slices_Equal_int64_int64_2 :: sk) e h R = (vc2 C n c_slices_Equal_int64_int64_o2 sk e h R) := nr rfl
@[simp, simp ↓] theorem c_slices_Equal_int64_int64_3_r : vc2 C (n + 1) [] (.code c_slices_Equal_int64_int64_3 :: sk) e h R = (vc2 C n [] (.code c_slices_Equal_int64_int64_2 :: .code .ret :: sk) e h R) := nr rfl
@[simp, simp ↓] theorem c_slices_Equal_int64_int64_4_r : vc2 C (n + 1) [] (.code c_slices_Equal_int64_int64_4 :: sk) e h R = (condK (ev e (.t 10)) (vc2 C n [] (.code c_slices_Equal_int64_int64_3 :: sk) e h R) (vc2 C n [] (.code .skip :: sk) e h R)) := nr rfl
@[simp, simp ↓] theorem c_slices_Equal_int64_int64_5_r : vc2 C (n + 1) [] (.code c_slices_Equal_int64_int64_5 :: sk) e h R = (vc2 C n [] (.code c_slices_Equal_int64_int64_1 :: .code c_slices_Equal_int64_int64_4 :: sk) e h R) := nr rfl
@[simp, simp ↓] theorem c_slices_Equal_int64_int64_6_r : vc2 C (n + 1) [] (.code c_slices_Equal_int64_int64_6 :: sk) e h R = (vc2 C n c_slices_Equal_int64_int64_o3 sk e h R) := nr rfl
@[simp, simp ↓] theorem c_slices_Equal_int64_int64_7_r : vc2 C (n + 1) [] (.code c_slices_Equal_int64_int64_7 :: sk) e h R = (vc2 C n c_slices_Equal_int64_int64_o4 sk e h R) := nr rfl
@[simp, simp ↓] theorem c_slices_Equal_int64_int64_8_r : vc2 C (n + 1) [] (.code c_slices_Equal_int64_int64_8 :: sk) e h R = (condK (ev e (.t 14)) (vc2 C n [] (.code .skip :: sk) e h R) (vc2 C n [] (.code (.exit 0) :: sk) e h R)) := nr rfl
@[simp, simp ↓] theorem c_slices_Equal_int64_int64_9_r : vc2 C (n + 1) [] (.code c_slices_Equal_int64_int64_9 :: sk) e h R = (vc2 C n c_slices_Equal_int64_int64_o5 sk e h R) := nr rfl
@[simp, simp ↓] theorem c_slices_Equal_int64_int64_10_r : vc2 C (n + 1) [] (.code c_slices_Equal_int64_int64_10 :: sk) e h R = (draw2 C h (vK C n [] sk R h) c_slices_Equal_int64_int64_o6 e) := nr rfl
@[simp, simp ↓] theorem c_slices_Equal_int64_int64_11_r : vc2 C (n + 1) [] (.code c_slices_Equal_int64_int64_11 :: sk) e h R = (vc2 C n c_slices_Equal_int64_int64_o7 sk e h R) := nr rfl
@[simp, simp ↓] theorem c_slices_Equal_int64_int64_12_r : vc2 C (n + 1) [] (.code c_slices_Equal_int64_int64_12 :: sk) e h R = (vc2 C n [] (.code c_slices_Equal_int64_int64_11 :: .code .ret :: sk) e h R) := nr rfl
@[simp, simp ↓] theorem c_slices_Equal_int64_int64_13_r : vc2 C (n + 1) [] (.code c_slices_Equal_int64_int64_13 :: sk) e h R = (condK (ev e (.t 24)) (vc2 C n [] (.code c_slices_Equal_int64_int64_12 :: sk) e h R) (vc2 C n [] (.code .skip :: sk) e h R)) := nr rfl
@[simp, simp ↓] theorem c_slices_Equal_int64_int64_14_r : vc2 C (n + 1) [] (.code c_slices_Equal_int64_int64_14 :: sk) e h R = (vc2 C n [] (.code c_slices_Equal_int64_int64_10 :: .code c_slices_Equal_int64_int64_13 :: sk) e h R) := nr rfl
@[simp, simp ↓] theorem c_slices_Equal_int64_int64_15_r : vc2 C (n + 1) [] (.code c_slices_Equal_int64_int64_15 :: sk) e h R = (vc2 C n [] (.code c_slices_Equal_int64_int64_9 :: .code c_slices_Equal_int64_int64_14 :: sk) e h R) := nr rfl
@[simp, simp ↓] theorem c_slices_Equal_int64_int64_16_r : vc2 C (n + 1) [] (.code c_slices_Equal_int64_int64_16 :: sk) e h R = (vc2 C n [] (.code c_slices_Equal_int64_int64_15 :: .inBlock 1 :: sk) e h R) := nr rfl
@[simp, simp ↓] theorem c_slices_Equal_int64_int64_17_r : vc2 C (n + 1) [] (.code c_slices_Equal_int64_int64_17 :: sk) e h R = (vc2 C n c_slices_Equal_int64_int64_o8 sk e h R) := nr rfl
@[simp, simp ↓] theorem c_slices_Equal_int64_int64_18_r : vc2 C (n + 1) [] (.code c_slices_Equal_int64_int64_18 :: sk) e h R = (vc2 C n [] (.code c_slices_Equal_int64_int64_16 :: .code c_slices_Equal_int64_int64_17 :: sk) e h R) := nr rfl
@[simp, simp ↓] theorem c_slices_Equal_int64_int64_19_r : vc2 C (n + 1) [] (.code c_slices_Equal_int64_int64_19 :: sk) e h R = (vc2 C n [] (.code c_slices_Equal_int64_int64_8 :: .code c_slices_Equal_int64_int64_18 :: sk) e h R) := nr rfl
@[simp, simp ↓] theorem c_slices_Equal_int64_int64_20_r : vc2 C (n + 1) [] (.code c_slices_Equal_int64_int64_20 :: sk) e h R = (vc2 C n [] (.code c_slices_Equal_int64_int64_7 :: .code c_slices_Equal_int64_int64_19 :: sk) e h R) := nr rfl
@[simp, simp ↓] theorem c_slices_Equal_int64_int64_21_r : vc2 C (n + 1) [] (.code c_slices_Equal_int64_int64_21 :: sk) e h R = (Run2 C (.code c_slices_Equal_int64_int64_20 :: .inLoop c_slices_Equal_int64_int64_20 :: sk) e h R) := nr rfl
@[simp, simp ↓] theorem c_slices_Equal_int64_int64_22_r : vc2 C (n + 1) [] (.code c_slices_Equal_int64_int64_22 :: sk) e h R = (vc2 C n [] (.code c_slices_Equal_int64_int64_21 :: .inBlock 0 :: sk) e h R) := nr rfl
@[simp, simp ↓] theorem c_slices_Equal_int64_int64_23_r : vc2 C (n + 1) [] (.code c_slices_Equal_int64_int64_23 :: sk) e h R = (vc2 C n [] (.code c_slices_Equal_int64_int64_6 :: .code c_slices_Equal_int64_int64_22 :: sk) e h R) := nr rfl
@[simp, simp ↓] theorem c_slices_Equal_int64_int64_24_r : vc2 C (n + 1) [] (.code c_slices_Equal_int64_int64_24 :: sk) e h R = (vc2 C n c_slices_Equal_int64_int64_o9 sk e h R) := nr rfl
@[simp, simp ↓] theorem c_slices_Equal_int64_int64_25_r : vc2 C (n + 1) [] (.code c_slices_Equal_int64_int64_25 :: sk) e h R = (vc2 C n [] (.code c_slices_Equal_int64_int64_24 :: .code .ret :: sk) e h R) := nr rfl
@[simp, simp ↓] theorem c_slices_Equal_int64_int64_26_r : vc2 C (n + 1) [] (.code c_slices_Equal_int64_int64_26 :: sk) e h R = (vc2 C n [] (.code c_slices_Equal_int64_int64_23 :: .code c_slices_Equal_int64_int64_25 :: sk) e h R) := nr rfl
@[simp, simp ↓] theorem c_slices_Equal_int64_int64_27_r : vc2 C (n + 1) [] (.code c_slices_Equal_int64_int64_27 :: sk) e h R = (vc2 C n [] (.code c_slices_Equal_int64_int64_5 :: .code c_slices_Equal_int64_int64_26 :: sk) e h R) := nr rfl
@[simp, simp ↓] theorem c_slices_Equal_int64_int64_28_r : vc2 C (n + 1) [] (.code c_slices_Equal_int64_int64_28 :: sk) e h R = (vc2 C n [] (.code c_slices_Equal_int64_int64_0 :: .code c_slices_Equal_int64_int64_27 :: sk) e h R) := nr rfl
end
noncomputable def c_slices_Equal_int64_int64_C (orc : Orc) : Cx := ⟨Try.prog, [], 116, 26, [.tmp 4], orc⟩
@[simp] theorem c_slices_Equal_int64_int64_C_P (orc : Orc) : (c_slices_Equal_int64_int64_C orc).P = Try.prog := nr rfl
@[simp] theorem c_slices_Equal_int64_int64_C_o (orc : Orc) : (c_slices_Equal_int64_int64_C orc).orc = orc := nr rfl
@[simp] theorem c_slices_Equal_int64_int64_C_r (orc : Orc) : (c_slices_Equal_int64_int64_C orc).res = [.tmp 4] := nr rfl
theorem c_slices_Equal_int64_int64_of {args : List AV} {h : Heap} {R : AV → Heap → Prop} {k : Nat} (ha : args.length = k) {orc : Orc} (hp : Pure Try.prog orc) (hk : Is (c_slices_Equal_int64_int64_C orc) Try.f116 → Run2 (c_slices_Equal_int64_int64_C orc) [.code c_slices_Equal_int64_int64_28] (argEnv 0 args) h (Post R)) (hle : k ≤ 26 := by simp) : ACalls Try.prog 116 args h R :=
  contract2 [] c_slices_Equal_int64_int64_28 [.tmp 4] Try.func116 (by decide +kernel) rfl (by kernel_rfl) (by rw [ha]; exact hle) (by kernel_rfl) hp hk
theorem c_slices_Equal_int64_int64_of0 {args : List AV} {h : Heap} {R : AV → Heap → Prop} {k : Nat} (ha : args.length = k) {orc : Orc} (hp : Pure Try.prog orc) (hk : Is (c_slices_Equal_int64_int64_C orc) Try.f116 → Run2 (c_slices_Equal_int64_int64_C orc) [.code c_slices_Equal_int64_int64_28] (argEnv 0 args) h R) (hle : k ≤ 26 := by simp) : ACalls Try.prog 116 args h R :=
  contract20 [] c_slices_Equal_int64_int64_28 [.tmp 4] Try.func116 (by decide +kernel) rfl (by kernel_rfl) (by rw [ha]; exact hle) (by kernel_rfl) hp hk
theorem Equal_s (l m : List Int) (h : Heap) (hl : l.length ≤ 1048576) : ACalls Try.prog 116 [.snap 1 (l.map iv), .snap 1 (m.map iv)] h (fun v h' => v = .bool (decide (l = m)) ∧ h' = h) := by
  refine c_slices_Equal_int64_int64_of0 rfl noPure fun I => ?_
  refine Run2.of I 1000 ?_
  simp -implicitDefEqProofs
  refine ⟨by rintro hne rfl; exact hne rfl, fun hlen => ?_⟩
  refine Run2.loopE (fun (i : Nat) => [(0, .snap 1 (l.map iv)), (1, .snap 1 (m.map iv)), (12, .int .i64 l.length), (13, .int .i64 i)]) (fun i => h) (fun i => l.length - i) (fun i => i ≤ l.length ∧ l.take i = m.take i) 0 (by simp [hlen]) rfl (by simp) fun i hi ih => ?_
  by_cases hlt : i < l.length
  · have hlt' : i < m.length := by omega
    refine Run2.of I 1000 ?_
    simp -implicitDefEqProofs [hlt, hlt']
    constructor
    · rintro hne rfl
      exact hne rfl
    · intro he
      refine ⟨by omega, ?_⟩
      have := ih (i + 1) ⟨by omega, by rw [List.take_succ_eq_append_getElem hlt, List.take_succ_eq_append_getElem hlt', hi.2, he]⟩ (by omega)
      simpa using this
  · refine Run2.of I 1000 ?_
    simp -implicitDefEqProofs [hlt]
    have : i = l.length := by omega
    have h2 := hi.2
    rw [List.take_of_length_le (by omega), List.take_of_length_le (by omega)] at h2
    exact h2
noncomputable def o_l24Free : List AV → Option (Prop × AV) := tab (fun (x : Int × List T × List Int × Int) => match x with | (n, ts, r, k) => [.ip [.int .i64 n, .snap 3 (ts.map T.av)], .snap 1 (r.map iv), .int .i64 k]) (fun x => match x with | (n, ts, r, k) => (r.length ≤ 1048576 ∧ Gr.allR ⟨n, ts⟩ r ∧ Gr.inR ⟨n, ts⟩ k)) (fun x => match x with | (n, ts, r, k) => .bool (decide (Gr.free ⟨n, ts⟩ r k)))
@[simp] theorem o_l24Free_e (n : Int) (ts : List T) (r : List Int) (k : Int) : o_l24Free [.ip [.int .i64 n, .snap 3 (ts.map T.av)], .snap 1 (r.map iv), .int .i64 k] = some ((r.length ≤ 1048576 ∧ Gr.allR ⟨n, ts⟩ r ∧ Gr.inR ⟨n, ts⟩ k), .bool (decide (Gr.free ⟨n, ts⟩ r k))) := tab_at (enc := fun (x : Int × List T × List Int × Int) => match x with | (n, ts, r, k) => [.ip [.int .i64 n, .snap 3 (ts.map T.av)], .snap 1 (r.map iv), .int .i64 k]) (fun x y h => by
  obtain ⟨n1, ts1, r1, k1⟩ := x; obtain ⟨n2, ts2, r2, k2⟩ := y; simp at h; simp [h]) _ _ (n, ts, r, k)
theorem o_l24Free_k : Knows Try.prog 107 o_l24Free := tab_knows fun x hx h => by
  obtain ⟨n, ts, r, k⟩ := x; exact l24Free_s ⟨n, ts⟩ r k h hx.1 hx.2.1 hx.2.2
noncomputable def o_isFreeIn : List AV → Option (Prop × AV) := tab (fun (x : Int × List T × List Int × Int) => match x with | (n, ts, r, k) => [.agg [.int .i64 n, .snap 3 (ts.map T.av)], .snap 1 (r.map iv), .int .i64 k]) (fun x => match x with | (n, ts, r, k) => (r.length ≤ 1048576 ∧ Gr.allR ⟨n, ts⟩ r ∧ Gr.inR ⟨n, ts⟩ k)) (fun x => match x with | (n, ts, r, k) => .bool (decide (Gr.free ⟨n, ts⟩ r k)))
@[simp] theorem o_isFreeIn_e (n : Int) (ts : List T) (r : List Int) (k : Int) : o_isFreeIn [.agg [.int .i64 n, .snap 3 (ts.map T.av)], .snap 1 (r.map iv), .int .i64 k] = some ((r.length ≤ 1048576 ∧ Gr.allR ⟨n, ts⟩ r ∧ Gr.inR ⟨n, ts⟩ k), .bool (decide (Gr.free ⟨n, ts⟩ r k))) := tab_at (enc := fun (x : Int × List T × List Int × Int) => match x with | (n, ts, r, k) => [.agg [.int .i64 n, .snap 3 (ts.map T.av)], .snap 1 (r.map iv), .int .i64 k]) (fun x y h => by
  obtain ⟨n1, ts1, r1, k1⟩ := x; obtain ⟨n2, ts2, r2, k2⟩ := y; simp at h; simp [h]) _ _ (n, ts, r, k)
theorem o_isFreeIn_k : Knows Try.prog 67 o_isFreeIn := tab_knows fun x hx h => by
  obtain ⟨n, ts, r, k⟩ := x; exact isFreeIn_s ⟨n, ts⟩ r k h hx.1 hx.2.1 hx.2.2
end Go.AG
