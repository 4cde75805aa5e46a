/- PotentialOf: what the program's and the reference's functions give. No statement is made here. -/
import Derived.Test.YtknonamjhdlmlaaPhBfs2
namespace Go.AG
open Go.Proofs Go.Proofs.Ytknonamjhdlmlaa
set_option linter.unusedSimpArgs false
set_option linter.unusedVariables false
set_option maxRecDepth 4000
theorem Ph.pots_vec {x : Ph} (hv : x.valid) : vec x.pots x.n x.m := by
  have hn1 := hv.1
  have hl := Ph.pots_len hv
  refine ⟨by omega, fun a ha => ?_⟩
  obtain ⟨j, hj, rfl⟩ := List.mem_iff_getElem.1 ha
  have := Ph.pots_b hv (v := j) (by omega)
  simpa [hj] using this
/-- The edges at which the phases along the forest are wrong. -/
def Ph.wrong (x : Ph) : List Int := x.wr x.pots x.ts.length
noncomputable def Ph.pcode (x : Ph) : Int := if x.valid then (if x.wrong = [] then 0 else 3) else 1
noncomputable def Ph.pres (x : Ph) : List Int := if x.valid ∧ x.wrong = [] then x.pots else []
theorem errorsOf_l (x : Ph) (idf : Nat) (h : Heap) (hv : x.valid) : ACalls Try.prog 61 [x.av, .sl idf 1 0 x.n.toNat (some x.n.toNat)] ((idf, ⟨1, x.pots.map iv⟩) :: h) (fun v h' => ∃ hp, Grow 1 v (x.wrong.map iv) hp ∧ (∀ j ∈ dom hp, j ∉ dom ((idf, ⟨1, x.pots.map iv⟩) :: h)) ∧ h' = hp ++ ((idf, ⟨1, x.pots.map iv⟩) :: h)) := by
  have hl := Ph.pots_len hv
  refine (ACalls.gives [(idf, ⟨1, x.pots.map iv⟩)] (by simp) (S := fun v h' => Grow 1 v (x.wrong.map iv) h') ?_ ?_).mono ?_
  · have e1 : lend [(idf, ⟨1, x.pots.map iv⟩)] [x.av, .sl idf 1 0 x.n.toNat (some x.n.toNat)] = [x.av, .snap 1 (x.pots.map iv)] := by
      rw [lend_cons, lend_cons, lend_nil', lend1_cold [(idf, ⟨1, x.pots.map iv⟩)] (x := x.av) (x.is.cold)]
      congr 2
      simp [lend1, hl]
      exact List.take_of_length_le (by simp [hl])
    rw [e1]
    exact (errorsOf_w x x.pots [] hv (Ph.pots_vec hv)).mono fun v h' ⟨hp, hg, e⟩ => by rw [List.append_nil] at e; subst e; exact hg
  · intro v h' hg
    exact (Grow.own (enc := iv) hg).own own_iv1
  · rintro v h'' ⟨h', hg, hd, rfl⟩
    exact ⟨h', hg, hd, rfl⟩
abbrev c_spec_PotentialOf_o0 : List AJ := [.o ⟨(some 1), none, false, .box false 3 (.t 0), none⟩, .o ⟨(some 2), none, false, .mv (.c .nilsl), none⟩, .o ⟨(some 3), none, false, .mv (.c (.int .i64 0)), (some [1])⟩]
def c_spec_PotentialOf_0 : ACode := .region c_spec_PotentialOf_o0
abbrev c_spec_PotentialOf_o1 : List AJ := [.o ⟨(some 6), none, false, .call 49 [(.t 1)], none⟩, .o ⟨(some 7), none, false, .un .not (.t 6), (some [1, 7])⟩]
def c_spec_PotentialOf_1 : ACode := .region c_spec_PotentialOf_o1
abbrev c_spec_PotentialOf_o2 : List AJ := [.o ⟨(some 2), none, false, .mv (.c .nilsl), none⟩, .o ⟨(some 3), none, false, .mv (.c (.int .i64 1)), (some [2, 3])⟩]
def c_spec_PotentialOf_2 : ACode := .region c_spec_PotentialOf_o2
def c_spec_PotentialOf_3 : ACode := .seq c_spec_PotentialOf_2 .ret
def c_spec_PotentialOf_4 : ACode := .cond (.t 7) c_spec_PotentialOf_3 .skip
def c_spec_PotentialOf_5 : ACode := .seq c_spec_PotentialOf_1 c_spec_PotentialOf_4
abbrev c_spec_PotentialOf_o3 : List AJ := [.o ⟨(some 9), none, false, .bsl false 1 [], none⟩, .o ⟨(some 10), none, false, .call 67 [(.t 1), (.t 9)], none⟩, .o ⟨(some 8), none, false, .mv (.t 10), none⟩, .o ⟨(some 11), none, false, .extract (.t 8) 0, none⟩, .o ⟨(some 12), none, false, .extract (.t 8) 1, none⟩, .o ⟨(some 4), none, false, .mv (.t 11), none⟩, .o ⟨(some 5), none, false, .mv (.t 12), (some [1, 5])⟩]
def c_spec_PotentialOf_6 : ACode := .region c_spec_PotentialOf_o3
abbrev c_spec_PotentialOf_o4 : List AJ := [.o ⟨(some 13), none, false, .mv (.t 5), none⟩, .o ⟨(some 14), none, false, .call 59 [(.t 1), (.t 13)], none⟩, .o ⟨(some 15), none, false, .len (.t 14), none⟩, .o ⟨(some 16), none, false, .bin .gtr (.t 15) (.c (.int .i64 0)), (some [5, 16])⟩]
def c_spec_PotentialOf_7 : ACode := .region c_spec_PotentialOf_o4
abbrev c_spec_PotentialOf_o5 : List AJ := [.o ⟨(some 2), none, false, .mv (.c .nilsl), none⟩, .o ⟨(some 3), none, false, .mv (.c (.int .i64 3)), (some [2, 3])⟩]
def c_spec_PotentialOf_8 : ACode := .region c_spec_PotentialOf_o5
def c_spec_PotentialOf_9 : ACode := .seq c_spec_PotentialOf_8 .ret
def c_spec_PotentialOf_10 : ACode := .cond (.t 16) c_spec_PotentialOf_9 .skip
def c_spec_PotentialOf_11 : ACode := .seq c_spec_PotentialOf_7 c_spec_PotentialOf_10
abbrev c_spec_PotentialOf_o6 : List AJ := [.o ⟨(some 17), none, false, .mv (.t 5), none⟩, .o ⟨(some 2), none, false, .mv (.t 17), none⟩, .o ⟨(some 3), none, false, .mv (.c (.int .i64 0)), (some [2, 3])⟩]
def c_spec_PotentialOf_12 : ACode := .region c_spec_PotentialOf_o6
def c_spec_PotentialOf_13 : ACode := .seq c_spec_PotentialOf_12 .ret
def c_spec_PotentialOf_14 : ACode := .seq c_spec_PotentialOf_11 c_spec_PotentialOf_13
def c_spec_PotentialOf_15 : ACode := .seq c_spec_PotentialOf_6 c_spec_PotentialOf_14
def c_spec_PotentialOf_16 : ACode := .seq c_spec_PotentialOf_5 c_spec_PotentialOf_15
def c_spec_PotentialOf_17 : ACode := .seq c_spec_PotentialOf_0 c_spec_PotentialOf_16
section
variable (C : Cx) (n : Nat) (sk : List AItem) (e : Env) (h : Heap) (R : AV → Heap → Prop)
@[simp, simp ↓] theorem c_spec_PotentialOf_0_r : vc2 C (n + 1) [] (.code c_spec_PotentialOf_0 :: sk) e h R = (vc2 C n c_spec_PotentialOf_o0 sk e h R) := nr rfl
@[simp, simp ↓] theorem c_spec_PotentialOf_1_r : vc2 C (n + 1) [] (.code c_spec_PotentialOf_1 :: sk) e h R = (vc2 C n c_spec_PotentialOf_o1 sk e h R) := nr rfl
@[simp, simp ↓] theorem c_spec_PotentialOf_2_r : vc2 C (n + 1) [] (.code c_spec_PotentialOf_2 :: sk) e h R = (vc2 C n c_spec_PotentialOf_o2 sk e h R) := nr rfl
@[simp, simp ↓] theorem c_spec_PotentialOf_3_r : vc2 C (n + 1) [] (.code c_spec_PotentialOf_3 :: sk) e h R = (vc2 C n [] (.code c_spec_PotentialOf_2 :: .code .ret :: sk) e h R) := nr rfl
@[simp, simp ↓] theorem c_spec_PotentialOf_4_r : vc2 C (n + 1) [] (.code c_spec_PotentialOf_4 :: sk) e h R = (condK (ev e (.t 7)) (vc2 C n [] (.code c_spec_PotentialOf_3 :: sk) e h R) (vc2 C n [] (.code .skip :: sk) e h R)) := nr rfl
@[simp, simp ↓] theorem c_spec_PotentialOf_5_r : vc2 C (n + 1) [] (.code c_spec_PotentialOf_5 :: sk) e h R = (vc2 C n [] (.code c_spec_PotentialOf_1 :: .code c_spec_PotentialOf_4 :: sk) e h R) := nr rfl
@[simp, simp ↓] theorem c_spec_PotentialOf_6_r : vc2 C (n + 1) [] (.code c_spec_PotentialOf_6 :: sk) e h R = (vc2 C n c_spec_PotentialOf_o3 sk e h R) := nr rfl
@[simp, simp ↓] theorem c_spec_PotentialOf_7_r : vc2 C (n + 1) [] (.code c_spec_PotentialOf_7 :: sk) e h R = (vc2 C n c_spec_PotentialOf_o4 sk e h R) := nr rfl
@[simp, simp ↓] theorem c_spec_PotentialOf_8_r : vc2 C (n + 1) [] (.code c_spec_PotentialOf_8 :: sk) e h R = (vc2 C n c_spec_PotentialOf_o5 sk e h R) := nr rfl
@[simp, simp ↓] theorem c_spec_PotentialOf_9_r : vc2 C (n + 1) [] (.code c_spec_PotentialOf_9 :: sk) e h R = (vc2 C n [] (.code c_spec_PotentialOf_8 :: .code .ret :: sk) e h R) := nr rfl
@[simp, simp ↓] theorem c_spec_PotentialOf_10_r : vc2 C (n + 1) [] (.code c_spec_PotentialOf_10 :: sk) e h R = (condK (ev e (.t 16)) (vc2 C n [] (.code c_spec_PotentialOf_9 :: sk) e h R) (vc2 C n [] (.code .skip :: sk) e h R)) := nr rfl
@[simp, simp ↓] theorem c_spec_PotentialOf_11_r : vc2 C (n + 1) [] (.code c_spec_PotentialOf_11 :: sk) e h R = (vc2 C n [] (.code c_spec_PotentialOf_7 :: .code c_spec_PotentialOf_10 :: sk) e h R) := nr rfl
@[simp, simp ↓] theorem c_spec_PotentialOf_12_r : vc2 C (n + 1) [] (.code c_spec_PotentialOf_12 :: sk) e h R = (vc2 C n c_spec_PotentialOf_o6 sk e h R) := nr rfl
@[simp, simp ↓] theorem c_spec_PotentialOf_13_r : vc2 C (n + 1) [] (.code c_spec_PotentialOf_13 :: sk) e h R = (vc2 C n [] (.code c_spec_PotentialOf_12 :: .code .ret :: sk) e h R) := nr rfl
@[simp, simp ↓] theorem c_spec_PotentialOf_14_r : vc2 C (n + 1) [] (.code c_spec_PotentialOf_14 :: sk) e h R = (vc2 C n [] (.code c_spec_PotentialOf_11 :: .code c_spec_PotentialOf_13 :: sk) e h R) := nr rfl
@[simp, simp ↓] theorem c_spec_PotentialOf_15_r : vc2 C (n + 1) [] (.code c_spec_PotentialOf_15 :: sk) e h R = (vc2 C n [] (.code c_spec_PotentialOf_6 :: .code c_spec_PotentialOf_14 :: sk) e h R) := nr rfl
@[simp, simp ↓] theorem c_spec_PotentialOf_16_r : vc2 C (n + 1) [] (.code c_spec_PotentialOf_16 :: sk) e h R = (vc2 C n [] (.code c_spec_PotentialOf_5 :: .code c_spec_PotentialOf_15 :: sk) e h R) := nr rfl
@[simp, simp ↓] theorem c_spec_PotentialOf_17_r : vc2 C (n + 1) [] (.code c_spec_PotentialOf_17 :: sk) e h R = (vc2 C n [] (.code c_spec_PotentialOf_0 :: .code c_spec_PotentialOf_16 :: sk) e h R) := nr rfl
end
noncomputable def c_spec_PotentialOf_C (orc : Orc) : Cx := ⟨Try.prog, [], 37, 18, [.tmp 2, .tmp 3], orc⟩
@[simp] theorem c_spec_PotentialOf_C_P (orc : Orc) : (c_spec_PotentialOf_C orc).P = Try.prog := nr rfl
@[simp] theorem c_spec_PotentialOf_C_o (orc : Orc) : (c_spec_PotentialOf_C orc).orc = orc := nr rfl
@[simp] theorem c_spec_PotentialOf_C_r (orc : Orc) : (c_spec_PotentialOf_C orc).res = [.tmp 2, .tmp 3] := nr rfl
theorem c_spec_PotentialOf_of {args : List AV} {h : Heap} {R : AV → Heap → Prop} {k : Nat} (ha : args.length = k) {orc : Orc} (hp : Pure Try.prog orc) (hk : Is (c_spec_PotentialOf_C orc) Try.f37 → Run2 (c_spec_PotentialOf_C orc) [.code c_spec_PotentialOf_17] (argEnv 0 args) h (Post R)) (hle : k ≤ 18 := by simp) : ACalls Try.prog 37 args h R :=
  contract2 [] c_spec_PotentialOf_17 [.tmp 2, .tmp 3] Try.func37 (by decide +kernel) rfl (by kernel_rfl) (by rw [ha]; exact hle) (by kernel_rfl) hp hk
theorem c_spec_PotentialOf_of0 {args : List AV} {h : Heap} {R : AV → Heap → Prop} {k : Nat} (ha : args.length = k) {orc : Orc} (hp : Pure Try.prog orc) (hk : Is (c_spec_PotentialOf_C orc) Try.f37 → Run2 (c_spec_PotentialOf_C orc) [.code c_spec_PotentialOf_17] (argEnv 0 args) h R) (hle : k ≤ 18 := by simp) : ACalls Try.prog 37 args h R :=
  contract20 [] c_spec_PotentialOf_17 [.tmp 2, .tmp 3] Try.func37 (by decide +kernel) rfl (by kernel_rfl) (by rw [ha]; exact hle) (by kernel_rfl) hp hk
theorem specPot_c (x : Ph) (h : Heap) (ok : x.ok) (hl : x.ts.length ≤ 1048576) : ACalls Try.prog 37 [x.av] h (fun v h' => v = .tup [.snap 1 (x.pres.map iv), .int .i64 x.pcode] ∧ h' = h) := by
  have hvv : x.valid → Ph.valid ⟨x.n, x.m, x.ts⟩ := fun h => h
  refine c_spec_PotentialOf_of rfl orcT2_p fun I => ?_
  refine Run2.of I 1000 ?_
  simp -implicitDefEqProofs [ok, hl]
  refine ⟨fun hv => .wk (.tup (.cons (.nil 1) (.cons (.refl _) .nil))) (.base ?_), fun hv => ?_⟩
  · simp [Ph.pres, Ph.pcode, hv]
  have hvec := Ph.pots_vec hv
  first | refine dcallK (l23Forest_c x _ hv) ?_ | (refine (l23Forest_c x _ hv).mono ?_; rintro v h' ⟨rfl, rfl⟩; refine gK.go ?_)
  simp -implicitDefEqProofs [hv, hvec]
  refine ⟨fun h1 => .wk (.tup (.cons (.nil 1) (.cons (.refl _) .nil))) (.base ?_), fun h1 => .base ?_⟩
  · have h2 : ¬ x.wrong = [] := fun h2 => by rw [show x.wr x.pots x.ts.length = x.wrong from rfl, h2] at h1; simp at h1
    simp [Ph.pres, Ph.pcode, hv, h2]
  · have h2 : x.wrong = [] := h1
    simp [Ph.pres, Ph.pcode, hv, h2]
abbrev c_impl_PotentialOf_o0 : List AJ := [.o ⟨(some 1), none, false, .box false 3 (.t 0), none⟩, .o ⟨(some 2), none, false, .mv (.c .nilsl), none⟩, .o ⟨(some 3), none, false, .mv (.c (.int .i64 0)), (some [1])⟩]
def c_impl_PotentialOf_0 : ACode := .region c_impl_PotentialOf_o0
abbrev c_impl_PotentialOf_o1 : List AJ := [.o ⟨(some 6), none, false, .load 3 true (.t 1), none⟩, .o ⟨(some 7), none, false, .call 20 [(.t 6)], none⟩, .o ⟨(some 8), none, false, .un .not (.t 7), (some [1, 8])⟩]
def c_impl_PotentialOf_1 : ACode := .region c_impl_PotentialOf_o1
abbrev c_impl_PotentialOf_o2 : List AJ := [.o ⟨(some 2), none, false, .mv (.c .nilsl), none⟩, .o ⟨(some 3), none, false, .mv (.c (.int .i64 1)), (some [2, 3])⟩]
def c_impl_PotentialOf_2 : ACode := .region c_impl_PotentialOf_o2
def c_impl_PotentialOf_3 : ACode := .seq c_impl_PotentialOf_2 .ret
def c_impl_PotentialOf_4 : ACode := .cond (.t 8) c_impl_PotentialOf_3 .skip
def c_impl_PotentialOf_5 : ACode := .seq c_impl_PotentialOf_1 c_impl_PotentialOf_4
abbrev c_impl_PotentialOf_o3 : List AJ := [.o ⟨(some 10), none, false, .load 3 true (.t 1), none⟩, .o ⟨(some 11), none, false, .call 69 [(.t 10)], none⟩, .o ⟨(some 9), none, false, .mv (.t 11), none⟩, .o ⟨(some 12), none, false, .extract (.t 9) 0, none⟩, .o ⟨(some 13), none, false, .extract (.t 9) 1, none⟩, .o ⟨(some 4), none, false, .mv (.t 12), none⟩, .o ⟨(some 5), none, false, .mv (.t 13), (some [1, 4])⟩]
def c_impl_PotentialOf_6 : ACode := .region c_impl_PotentialOf_o3
abbrev c_impl_PotentialOf_o4 : List AJ := [.o ⟨(some 14), none, false, .load 3 true (.t 1), none⟩, .o ⟨(some 15), none, false, .mv (.t 4), none⟩, .o ⟨(some 16), none, false, .call 61 [(.t 14), (.t 15)], none⟩, .o ⟨(some 17), none, false, .len (.t 16), none⟩, .o ⟨(some 18), none, false, .bin .gtr (.t 17) (.c (.int .i64 0)), (some [4, 18])⟩]
def c_impl_PotentialOf_7 : ACode := .region c_impl_PotentialOf_o4
abbrev c_impl_PotentialOf_o5 : List AJ := [.o ⟨(some 2), none, false, .mv (.c .nilsl), none⟩, .o ⟨(some 3), none, false, .mv (.c (.int .i64 3)), (some [2, 3])⟩]
def c_impl_PotentialOf_8 : ACode := .region c_impl_PotentialOf_o5
def c_impl_PotentialOf_9 : ACode := .seq c_impl_PotentialOf_8 .ret
def c_impl_PotentialOf_10 : ACode := .cond (.t 18) c_impl_PotentialOf_9 .skip
def c_impl_PotentialOf_11 : ACode := .seq c_impl_PotentialOf_7 c_impl_PotentialOf_10
abbrev c_impl_PotentialOf_o6 : List AJ := [.o ⟨(some 19), none, false, .mv (.t 4), none⟩, .o ⟨(some 2), none, false, .mv (.t 19), none⟩, .o ⟨(some 3), none, false, .mv (.c (.int .i64 0)), (some [2, 3])⟩]
def c_impl_PotentialOf_12 : ACode := .region c_impl_PotentialOf_o6
def c_impl_PotentialOf_13 : ACode := .seq c_impl_PotentialOf_12 .ret
def c_impl_PotentialOf_14 : ACode := .seq c_impl_PotentialOf_11 c_impl_PotentialOf_13
def c_impl_PotentialOf_15 : ACode := .seq c_impl_PotentialOf_6 c_impl_PotentialOf_14
def c_impl_PotentialOf_16 : ACode := .seq c_impl_PotentialOf_5 c_impl_PotentialOf_15
def c_impl_PotentialOf_17 : ACode := .seq c_impl_PotentialOf_0 c_impl_PotentialOf_16
section
variable (C : Cx) (n : Nat) (sk : List AItem) (e : Env) (h : Heap) (R : AV → Heap → Prop)
@[simp, simp ↓] theorem c_impl_PotentialOf_0_r : vc2 C (n + 1) [] (.code c_impl_PotentialOf_0 :: sk) e h R = (vc2 C n c_impl_PotentialOf_o0 sk e h R) := nr rfl
@[simp, simp ↓] theorem c_impl_PotentialOf_1_r : vc2 C (n + 1) [] (.code c_impl_PotentialOf_1 :: sk) e h R = (vc2 C n c_impl_PotentialOf_o1 sk e h R) := nr rfl
@[simp, simp ↓] theorem c_impl_PotentialOf_2_r : vc2 C (n + 1) [] (.code c_impl_PotentialOf_2 :: sk) e h R = (vc2 C n c_impl_PotentialOf_o2 sk e h R) := nr rfl
@[simp, simp ↓] theorem c_impl_PotentialOf_3_r : vc2 C (n + 1) [] (.code c_impl_PotentialOf_3 :: sk) e h R = (vc2 C n [] (.code c_impl_PotentialOf_2 :: .code .ret :: sk) e h R) := nr rfl
@[simp, simp ↓] theorem c_impl_PotentialOf_4_r : vc2 C (n + 1) [] (.code c_impl_PotentialOf_4 :: sk) e h R = (condK (ev e (.t 8)) (vc2 C n [] (.code c_impl_PotentialOf_3 :: sk) e h R) (vc2 C n [] (.code .skip :: sk) e h R)) := nr rfl
@[simp, simp ↓] theorem c_impl_PotentialOf_5_r : vc2 C (n + 1) [] (.code c_impl_PotentialOf_5 :: sk) e h R = (vc2 C n [] (.code c_impl_PotentialOf_1 :: .code c_impl_PotentialOf_4 :: sk) e h R) := nr rfl
@[simp, simp ↓] theorem c_impl_PotentialOf_6_r : vc2 C (n + 1) [] (.code c_impl_PotentialOf_6 :: sk) e h R = (vc2 C n c_impl_PotentialOf_o3 sk e h R) := nr rfl
@[simp, simp ↓] theorem c_impl_PotentialOf_7_r : vc2 C (n + 1) [] (.code c_impl_PotentialOf_7 :: sk) e h R = (vc2 C n c_impl_PotentialOf_o4 sk e h R) := nr rfl
@[simp, simp ↓] theorem c_impl_PotentialOf_8_r : vc2 C (n + 1) [] (.code c_impl_PotentialOf_8 :: sk) e h R = (vc2 C n c_impl_PotentialOf_o5 sk e h R) := nr rfl
@[simp, simp ↓] theorem c_impl_PotentialOf_9_r : vc2 C (n + 1) [] (.code c_impl_PotentialOf_9 :: sk) e h R = (vc2 C n [] (.code c_impl_PotentialOf_8 :: .code .ret :: sk) e h R) := nr rfl
@[simp, simp ↓] theorem c_impl_PotentialOf_10_r : vc2 C (n + 1) [] (.code c_impl_PotentialOf_10 :: sk) e h R = (condK (ev e (.t 18)) (vc2 C n [] (.code c_impl_PotentialOf_9 :: sk) e h R) (vc2 C n [] (.code .skip :: sk) e h R)) := nr rfl
@[simp, simp ↓] theorem c_impl_PotentialOf_11_r : vc2 C (n + 1) [] (.code c_impl_PotentialOf_11 :: sk) e h R = (vc2 C n [] (.code c_impl_PotentialOf_7 :: .code c_impl_PotentialOf_10 :: sk) e h R) := nr rfl
@[simp, simp ↓] theorem c_impl_PotentialOf_12_r : vc2 C (n + 1) [] (.code c_impl_PotentialOf_12 :: sk) e h R = (vc2 C n c_impl_PotentialOf_o6 sk e h R) := nr rfl
@[simp, simp ↓] theorem c_impl_PotentialOf_13_r : vc2 C (n + 1) [] (.code c_impl_PotentialOf_13 :: sk) e h R = (vc2 C n [] (.code c_impl_PotentialOf_12 :: .code .ret :: sk) e h R) := nr rfl
@[simp, simp ↓] theorem c_impl_PotentialOf_14_r : vc2 C (n + 1) [] (.code c_impl_PotentialOf_14 :: sk) e h R = (vc2 C n [] (.code c_impl_PotentialOf_11 :: .code c_impl_PotentialOf_13 :: sk) e h R) := nr rfl
@[simp, simp ↓] theorem c_impl_PotentialOf_15_r : vc2 C (n + 1) [] (.code c_impl_PotentialOf_15 :: sk) e h R = (vc2 C n [] (.code c_impl_PotentialOf_6 :: .code c_impl_PotentialOf_14 :: sk) e h R) := nr rfl
@[simp, simp ↓] theorem c_impl_PotentialOf_16_r : vc2 C (n + 1) [] (.code c_impl_PotentialOf_16 :: sk) e h R = (vc2 C n [] (.code c_impl_PotentialOf_5 :: .code c_impl_PotentialOf_15 :: sk) e h R) := nr rfl
@[simp, simp ↓] theorem c_impl_PotentialOf_17_r : vc2 C (n + 1) [] (.code c_impl_PotentialOf_17 :: sk) e h R = (vc2 C n [] (.code c_impl_PotentialOf_0 :: .code c_impl_PotentialOf_16 :: sk) e h R) := nr rfl
end
noncomputable def c_impl_PotentialOf_C (orc : Orc) : Cx := ⟨Try.prog, [], 38, 20, [.tmp 2, .tmp 3], orc⟩
@[simp] theorem c_impl_PotentialOf_C_P (orc : Orc) : (c_impl_PotentialOf_C orc).P = Try.prog := nr rfl
@[simp] theorem c_impl_PotentialOf_C_o (orc : Orc) : (c_impl_PotentialOf_C orc).orc = orc := nr rfl
@[simp] theorem c_impl_PotentialOf_C_r (orc : Orc) : (c_impl_PotentialOf_C orc).res = [.tmp 2, .tmp 3] := nr rfl
theorem c_impl_PotentialOf_of {args : List AV} {h : Heap} {R : AV → Heap → Prop} {k : Nat} (ha : args.length = k) {orc : Orc} (hp : Pure Try.prog orc) (hk : Is (c_impl_PotentialOf_C orc) Try.f38 → Run2 (c_impl_PotentialOf_C orc) [.code c_impl_PotentialOf_17] (argEnv 0 args) h (Post R)) (hle : k ≤ 20 := by simp) : ACalls Try.prog 38 args h R :=
  contract2 [] c_impl_PotentialOf_17 [.tmp 2, .tmp 3] Try.func38 (by decide +kernel) rfl (by kernel_rfl) (by rw [ha]; exact hle) (by kernel_rfl) hp hk
theorem c_impl_PotentialOf_of0 {args : List AV} {h : Heap} {R : AV → Heap → Prop} {k : Nat} (ha : args.length = k) {orc : Orc} (hp : Pure Try.prog orc) (hk : Is (c_impl_PotentialOf_C orc) Try.f38 → Run2 (c_impl_PotentialOf_C orc) [.code c_impl_PotentialOf_17] (argEnv 0 args) h R) (hle : k ≤ 20 := by simp) : ACalls Try.prog 38 args h R :=
  contract20 [] c_impl_PotentialOf_17 [.tmp 2, .tmp 3] Try.func38 (by decide +kernel) rfl (by kernel_rfl) (by rw [ha]; exact hle) (by kernel_rfl) hp hk
theorem implPot_o (x : Ph) (ok : x.ok) (hl : x.ts.length ≤ 1048576) : ACalls Try.prog 38 [x.av] [] (fun v h' => ∃ w, v = .tup [w, .int .i64 x.pcode] ∧ OwnL iv 1 w x.pres h') := by
  refine c_impl_PotentialOf_of rfl orcF_p fun I => ?_
  refine Run2.of I 1000 ?_
  simp -implicitDefEqProofs [ok, hl]
  refine ⟨fun hv => .base ?_, fun hv => ?_⟩
  · simp [Ph.pres, Ph.pcode, hv]
    exact .nil
  have hpl := Ph.pots_len hv
  refine (forestPhases_w x (fun _ _ => True) (fun _ _ _ => trivial) (fun _ _ _ _ _ _ _ _ => trivial) _ hv).mono ?_
  rintro w h' ⟨idf, ps, hf, hps, _, rfl, rfl⟩
  refine gK.go ?_
  simp -implicitDefEqProofs
  refine (errorsOf_l x idf [] hv).mono ?_
  rintro u h' ⟨hp, hg, hd, rfl⟩
  have hlen := hg.len
  simp only [List.length_map] at hlen
  refine gK.go ?_
  simp -implicitDefEqProofs [hlen]
  refine ⟨fun h1 => ?_, fun h1 => ?_⟩
  · have h2 : ¬ x.wrong = [] := fun h2 => by rw [h2] at h1; simp at h1
    refine Grow.dropped hg (.drop idf (.base ?_))
    simp [Ph.pres, Ph.pcode, hv, h2, hdel]
    exact .nil
  · have h2 : x.wrong = [] := h1
    refine Grow.dropped hg (.base ?_)
    have e1 : x.pres = x.pots := by simp [Ph.pres, hv, h2]
    have e2 : x.pcode = 0 := by simp [Ph.pcode, hv, h2]
    rw [e1, e2, ← hpl]
    exact ⟨_, rfl, by simpa using OwnL.sl (enc := iv) (sz := 1) (l := x.pots) idf (some x.pots.length) [] rfl⟩
theorem Ph.pres_len (x : Ph) : x.pres.length ≤ 12 := by
  unfold Ph.pres
  split
  · rename_i h
    have := Ph.pots_len h.1
    have := h.1.2.1
    omega
  · simp
end Go.AG
