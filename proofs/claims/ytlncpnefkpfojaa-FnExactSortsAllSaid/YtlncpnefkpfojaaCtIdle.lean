/- The nodes without an exchange: what the program's and the reference's functions give. No statement is made here. -/
import Derived.Test.YtlncpnefkpfojaaCtDel
import Derived.Test.YtlncpnefkpfojaaGrBusy
namespace Go.AG
open Go.Proofs Go.Proofs.Ytlncpnefkpfojaa
set_option linter.unusedSimpArgs false
set_option linter.unusedVariables false
set_option maxRecDepth 4000
abbrev c_impl_size_int64_o0 : List AJ := [.o ⟨(some 2), none, false, .mv (.c (.int .i64 0)), (some [0])⟩]
def c_impl_size_int64_0 : ACode := .region c_impl_size_int64_o0
abbrev c_impl_size_int64_o1 : List AJ := [.o ⟨(some 3), none, false, .mv (.t 0), none⟩, .o ⟨(some 4), none, false, .len (.t 3), none⟩, .o ⟨(some 2), none, false, .mv (.t 4), (some [2])⟩]
def c_impl_size_int64_1 : ACode := .region c_impl_size_int64_o1
def c_impl_size_int64_2 : ACode := .seq c_impl_size_int64_1 .ret
def c_impl_size_int64_3 : ACode := .seq c_impl_size_int64_0 c_impl_size_int64_2
section
variable (C : Cx) (n : Nat) (sk : List AItem) (e : Env) (h : Heap) (R : AV → Heap → Prop)
@[simp, simp ↓] theorem c_impl_size_int64_0_r : vc2 C (n + 1) [] (.code c_impl_size_int64_0 :: sk) e h R = (vc2 C n c_impl_size_int64_o0 sk e h R) := nr rfl
@[simp, simp ↓] theorem c_impl_size_int64_1_r : vc2 C (n + 1) [] (.code c_impl_size_int64_1 :: sk) e h R = (vc2 C n c_impl_size_int64_o1 sk e h R) := nr rfl
@[simp, simp ↓] theorem c_impl_size_int64_2_r : vc2 C (n + 1) [] (.code c_impl_size_int64_2 :: sk) e h R = (vc2 C n [] (.code c_impl_size_int64_1 :: .code .ret :: sk) e h R) := nr rfl
@[simp, simp ↓] theorem c_impl_size_int64_3_r : vc2 C (n + 1) [] (.code c_impl_size_int64_3 :: sk) e h R = (vc2 C n [] (.code c_impl_size_int64_0 :: .code c_impl_size_int64_2 :: sk) e h R) := nr rfl
end
noncomputable def c_impl_size_int64_C (orc : Orc) : Cx := ⟨Try.prog, [], 85, 5, [.tmp 2], orc⟩
@[simp] theorem c_impl_size_int64_C_P (orc : Orc) : (c_impl_size_int64_C orc).P = Try.prog := nr rfl
@[simp] theorem c_impl_size_int64_C_o (orc : Orc) : (c_impl_size_int64_C orc).orc = orc := nr rfl
@[simp] theorem c_impl_size_int64_C_r (orc : Orc) : (c_impl_size_int64_C orc).res = [.tmp 2] := nr rfl
theorem c_impl_size_int64_of {args : List AV} {h : Heap} {R : AV → Heap → Prop} {k : Nat} (ha : args.length = k) {orc : Orc} (hp : Pure Try.prog orc) (hk : Is (c_impl_size_int64_C orc) Try.f85 → Run2 (c_impl_size_int64_C orc) [.code c_impl_size_int64_3] (argEnv 0 args) h (Post R)) (hle : k ≤ 5 := by simp) : ACalls Try.prog 85 args h R :=
  contract2 [] c_impl_size_int64_3 [.tmp 2] Try.func85 (by decide +kernel) rfl (by kernel_rfl) (by rw [ha]; exact hle) (by kernel_rfl) hp hk
theorem c_impl_size_int64_of0 {args : List AV} {h : Heap} {R : AV → Heap → Prop} {k : Nat} (ha : args.length = k) {orc : Orc} (hp : Pure Try.prog orc) (hk : Is (c_impl_size_int64_C orc) Try.f85 → Run2 (c_impl_size_int64_C orc) [.code c_impl_size_int64_3] (argEnv 0 args) h R) (hle : k ≤ 5 := by simp) : ACalls Try.prog 85 args h R :=
  contract20 [] c_impl_size_int64_3 [.tmp 2] Try.func85 (by decide +kernel) rfl (by kernel_rfl) (by rw [ha]; exact hle) (by kernel_rfl) hp hk
theorem sizeLL_s (rs : List (List Int)) (h : Heap) : ACalls Try.prog 85 [.snap 1 (rs.map il)] h (fun v h' => v = .int .i64 rs.length ∧ h' = h) := by
  refine c_impl_size_int64_of0 rfl noPure fun I => ?_
  refine Run2.of I 1000 ?_
  simp -implicitDefEqProofs
noncomputable def o_sizeLL : List AV → Option (Prop × AV) := tab (fun (x : LS) => match x with | rs => [.snap 1 (rs.map il)]) (fun x => match x with | rs => True) (fun x => match x with | rs => .int .i64 rs.length)
@[simp] theorem o_sizeLL_e (rs : LS) : o_sizeLL [.snap 1 (rs.map il)] = some (True, .int .i64 rs.length) := tab_at (enc := fun (x : LS) => match x with | rs => [.snap 1 (rs.map il)]) (fun x y h => by
  simp at h; simp [h]) _ _ rs
theorem o_sizeLL_k : Knows Try.prog 85 o_sizeLL := tab_knows fun x hx h => by
  exact sizeLL_s x h
theorem idxI_ge (l : List Int) (x : Int) : (0 ≤ idxI l x) ↔ x ∈ l := by
  unfold idxI
  cases h : l.findIdx? (fun a => decide (x = a)) with
  | none =>
    rw [List.findIdx?_eq_none_iff] at h
    simp only [show ¬ (0 : Int) ≤ -1 by omega, false_iff]
    intro hx
    have := h x hx
    simp at this
  | some i =>
    obtain ⟨hi, hq, _⟩ := List.findIdx?_eq_some_iff_getElem.1 h
    simp only [Int.natCast_nonneg, true_iff]
    simp only [decide_eq_true_eq] at hq
    rw [hq]; exact List.getElem_mem hi
abbrev c_slices_Contains_int64_int64_o0 : List AJ := [.o ⟨(some 4), none, false, .mv (.c (.bool false)), (some [0, 1])⟩]
def c_slices_Contains_int64_int64_0 : ACode := .region c_slices_Contains_int64_int64_o0
abbrev c_slices_Contains_int64_int64_o1 : List AJ := [.o ⟨(some 5), none, false, .mv (.t 0), none⟩, .o ⟨(some 6), none, false, .mv (.t 1), none⟩, .o ⟨(some 7), none, false, .call 61 [(.t 5), (.t 6)], none⟩, .o ⟨(some 8), none, false, .bin .geq (.t 7) (.c (.int .i64 0)), none⟩, .o ⟨(some 4), none, false, .mv (.t 8), (some [4])⟩]
def c_slices_Contains_int64_int64_1 : ACode := .region c_slices_Contains_int64_int64_o1
def c_slices_Contains_int64_int64_2 : ACode := .seq c_slices_Contains_int64_int64_1 .ret
def c_slices_Contains_int64_int64_3 : ACode := .seq c_slices_Contains_int64_int64_0 c_slices_Contains_int64_int64_2
section
variable (C : Cx) (n : Nat) (sk : List AItem) (e : Env) (h : Heap) (R : AV → Heap → Prop)
@[simp, simp ↓] theorem c_slices_Contains_int64_int64_0_r : vc2 C (n + 1) [] (.code c_slices_Contains_int64_int64_0 :: sk) e h R = (vc2 C n c_slices_Contains_int64_int64_o0 sk e h R) := nr rfl
@[simp, simp ↓] theorem c_slices_Contains_int64_int64_1_r : vc2 C (n + 1) [] (.code c_slices_Contains_int64_int64_1 :: sk) e h R = (vc2 C n c_slices_Contains_int64_int64_o1 sk e h R) := nr rfl
@[simp, simp ↓] theorem c_slices_Contains_int64_int64_2_r : vc2 C (n + 1) [] (.code c_slices_Contains_int64_int64_2 :: sk) e h R = (vc2 C n [] (.code c_slices_Contains_int64_int64_1 :: .code .ret :: sk) e h R) := nr rfl
@[simp, simp ↓] theorem c_slices_Contains_int64_int64_3_r : vc2 C (n + 1) [] (.code c_slices_Contains_int64_int64_3 :: sk) e h R = (vc2 C n [] (.code c_slices_Contains_int64_int64_0 :: .code c_slices_Contains_int64_int64_2 :: sk) e h R) := nr rfl
end
noncomputable def c_slices_Contains_int64_int64_C (orc : Orc) : Cx := ⟨Try.prog, [], 124, 9, [.tmp 4], orc⟩
@[simp] theorem c_slices_Contains_int64_int64_C_P (orc : Orc) : (c_slices_Contains_int64_int64_C orc).P = Try.prog := nr rfl
@[simp] theorem c_slices_Contains_int64_int64_C_o (orc : Orc) : (c_slices_Contains_int64_int64_C orc).orc = orc := nr rfl
@[simp] theorem c_slices_Contains_int64_int64_C_r (orc : Orc) : (c_slices_Contains_int64_int64_C orc).res = [.tmp 4] := nr rfl
theorem c_slices_Contains_int64_int64_of {args : List AV} {h : Heap} {R : AV → Heap → Prop} {k : Nat} (ha : args.length = k) {orc : Orc} (hp : Pure Try.prog orc) (hk : Is (c_slices_Contains_int64_int64_C orc) Try.f124 → Run2 (c_slices_Contains_int64_int64_C orc) [.code c_slices_Contains_int64_int64_3] (argEnv 0 args) h (Post R)) (hle : k ≤ 9 := by simp) : ACalls Try.prog 124 args h R :=
  contract2 [] c_slices_Contains_int64_int64_3 [.tmp 4] Try.func124 (by decide +kernel) rfl (by kernel_rfl) (by rw [ha]; exact hle) (by kernel_rfl) hp hk
theorem c_slices_Contains_int64_int64_of0 {args : List AV} {h : Heap} {R : AV → Heap → Prop} {k : Nat} (ha : args.length = k) {orc : Orc} (hp : Pure Try.prog orc) (hk : Is (c_slices_Contains_int64_int64_C orc) Try.f124 → Run2 (c_slices_Contains_int64_int64_C orc) [.code c_slices_Contains_int64_int64_3] (argEnv 0 args) h R) (hle : k ≤ 9 := by simp) : ACalls Try.prog 124 args h R :=
  contract20 [] c_slices_Contains_int64_int64_3 [.tmp 4] Try.func124 (by decide +kernel) rfl (by kernel_rfl) (by rw [ha]; exact hle) (by kernel_rfl) hp hk
theorem Contains_s (l : List Int) (x : Int) (h : Heap) (hl : l.length ≤ 1048576) : ACalls Try.prog 124 [.snap 1 (l.map iv), .int .i64 x] h (fun v h' => v = .bool (decide (x ∈ l)) ∧ h' = h) := by
  refine c_slices_Contains_int64_int64_of0 rfl noPure fun I => ?_
  refine Run2.of I 1000 ?_
  simp -implicitDefEqProofs
  refine (Index_s l x h hl).mono ?_
  rintro v h' ⟨rfl, rfl⟩
  refine gK.go ?_
  simp -implicitDefEqProofs [idxI_ge]
abbrev c_impl_without_1_o0 : List AJ := [.o ⟨(some 3), none, false, .mv (.c (.bool false)), (some [0, 1])⟩]
def c_impl_without_1_0 : ACode := .region c_impl_without_1_o0
abbrev c_impl_without_1_o1 : List AJ := [.o ⟨(some 4), none, false, .load 1 false (.t 1), none⟩, .o ⟨(some 5), none, false, .mv (.t 0), none⟩, .o ⟨(some 6), none, false, .call 124 [(.t 4), (.t 5)], none⟩, .o ⟨(some 3), none, false, .mv (.t 6), (some [3])⟩]
def c_impl_without_1_1 : ACode := .region c_impl_without_1_o1
def c_impl_without_1_2 : ACode := .seq c_impl_without_1_1 .ret
def c_impl_without_1_3 : ACode := .seq c_impl_without_1_0 c_impl_without_1_2
section
variable (C : Cx) (n : Nat) (sk : List AItem) (e : Env) (h : Heap) (R : AV → Heap → Prop)
@[simp, simp ↓] theorem c_impl_without_1_0_r : vc2 C (n + 1) [] (.code c_impl_without_1_0 :: sk) e h R = (vc2 C n c_impl_without_1_o0 sk e h R) := nr rfl
@[simp, simp ↓] theorem c_impl_without_1_1_r : vc2 C (n + 1) [] (.code c_impl_without_1_1 :: sk) e h R = (vc2 C n c_impl_without_1_o1 sk e h R) := nr rfl
@[simp, simp ↓] theorem c_impl_without_1_2_r : vc2 C (n + 1) [] (.code c_impl_without_1_2 :: sk) e h R = (vc2 C n [] (.code c_impl_without_1_1 :: .code .ret :: sk) e h R) := nr rfl
@[simp, simp ↓] theorem c_impl_without_1_3_r : vc2 C (n + 1) [] (.code c_impl_without_1_3 :: sk) e h R = (vc2 C n [] (.code c_impl_without_1_0 :: .code c_impl_without_1_2 :: sk) e h R) := nr rfl
end
noncomputable def c_impl_without_1_C (orc : Orc) : Cx := ⟨Try.prog, [], 123, 7, [.tmp 3], orc⟩
@[simp] theorem c_impl_without_1_C_P (orc : Orc) : (c_impl_without_1_C orc).P = Try.prog := nr rfl
@[simp] theorem c_impl_without_1_C_o (orc : Orc) : (c_impl_without_1_C orc).orc = orc := nr rfl
@[simp] theorem c_impl_without_1_C_r (orc : Orc) : (c_impl_without_1_C orc).res = [.tmp 3] := nr rfl
theorem c_impl_without_1_of {args : List AV} {h : Heap} {R : AV → Heap → Prop} {k : Nat} (ha : args.length = k) {orc : Orc} (hp : Pure Try.prog orc) (hk : Is (c_impl_without_1_C orc) Try.f123 → Run2 (c_impl_without_1_C orc) [.code c_impl_without_1_3] (argEnv 0 args) h (Post R)) (hle : k ≤ 7 := by simp) : ACalls Try.prog 123 args h R :=
  contract2 [] c_impl_without_1_3 [.tmp 3] Try.func123 (by decide +kernel) rfl (by kernel_rfl) (by rw [ha]; exact hle) (by kernel_rfl) hp hk
theorem c_impl_without_1_of0 {args : List AV} {h : Heap} {R : AV → Heap → Prop} {k : Nat} (ha : args.length = k) {orc : Orc} (hp : Pure Try.prog orc) (hk : Is (c_impl_without_1_C orc) Try.f123 → Run2 (c_impl_without_1_C orc) [.code c_impl_without_1_3] (argEnv 0 args) h R) (hle : k ≤ 7 := by simp) : ACalls Try.prog 123 args h R :=
  contract20 [] c_impl_without_1_3 [.tmp 3] Try.func123 (by decide +kernel) rfl (by kernel_rfl) (by rw [ha]; exact hle) (by kernel_rfl) hp hk
theorem without1_c (m : List Int) (a : Int) (h : Heap) (hl : m.length ≤ 1048576) : ACalls Try.prog 123 [.int .i64 a, .ip [.snap 1 (m.map iv)]] h (fun v h' => v = .bool (decide (a ∈ m)) ∧ h' = h) := by
  refine c_impl_without_1_of0 rfl noPure fun I => ?_
  refine Run2.of I 1000 ?_
  simp -implicitDefEqProofs
  refine (Contains_s m a h hl).mono ?_
  rintro v h' ⟨rfl, rfl⟩
  refine gK.go ?_
  simp -implicitDefEqProofs
abbrev c_impl_without_o0 : List AJ := [.o ⟨(some 3), none, false, .box false 1 (.t 1), none⟩, .o ⟨(some 4), none, false, .mv (.c .nilsl), (some [0, 3])⟩]
def c_impl_without_0 : ACode := .region c_impl_without_o0
abbrev c_impl_without_o1 : List AJ := [.o ⟨(some 5), none, false, .mv (.t 0), none⟩, .o ⟨(some 6), none, false, .call 111 [(.t 5)], none⟩, .o ⟨(some 7), none, false, .mkfn 123 [(.t 3)], none⟩, .o ⟨(some 8), none, false, .call 122 [(.t 6), (.t 7)], none⟩, .o ⟨(some 4), none, false, .mv (.t 8), (some [4])⟩]
def c_impl_without_1 : ACode := .region c_impl_without_o1
def c_impl_without_2 : ACode := .seq c_impl_without_1 .ret
def c_impl_without_3 : ACode := .seq c_impl_without_0 c_impl_without_2
section
variable (C : Cx) (n : Nat) (sk : List AItem) (e : Env) (h : Heap) (R : AV → Heap → Prop)
@[simp, simp ↓] theorem c_impl_without_0_r : vc2 C (n + 1) [] (.code c_impl_without_0 :: sk) e h R = (vc2 C n c_impl_without_o0 sk e h R) := nr rfl
@[simp, simp ↓] theorem c_impl_without_1_r : vc2 C (n + 1) [] (.code c_impl_without_1 :: sk) e h R = (vc2 C n c_impl_without_o1 sk e h R) := nr rfl
@[simp, simp ↓] theorem c_impl_without_2_r : vc2 C (n + 1) [] (.code c_impl_without_2 :: sk) e h R = (vc2 C n [] (.code c_impl_without_1 :: .code .ret :: sk) e h R) := nr rfl
@[simp, simp ↓] theorem c_impl_without_3_r : vc2 C (n + 1) [] (.code c_impl_without_3 :: sk) e h R = (vc2 C n [] (.code c_impl_without_0 :: .code c_impl_without_2 :: sk) e h R) := nr rfl
end
noncomputable def c_impl_without_C (orc : Orc) : Cx := ⟨Try.prog, [], 86, 9, [.tmp 4], orc⟩
@[simp] theorem c_impl_without_C_P (orc : Orc) : (c_impl_without_C orc).P = Try.prog := nr rfl
@[simp] theorem c_impl_without_C_o (orc : Orc) : (c_impl_without_C orc).orc = orc := nr rfl
@[simp] theorem c_impl_without_C_r (orc : Orc) : (c_impl_without_C orc).res = [.tmp 4] := nr rfl
theorem c_impl_without_of {args : List AV} {h : Heap} {R : AV → Heap → Prop} {k : Nat} (ha : args.length = k) {orc : Orc} (hp : Pure Try.prog orc) (hk : Is (c_impl_without_C orc) Try.f86 → Run2 (c_impl_without_C orc) [.code c_impl_without_3] (argEnv 0 args) h (Post R)) (hle : k ≤ 9 := by simp) : ACalls Try.prog 86 args h R :=
  contract2 [] c_impl_without_3 [.tmp 4] Try.func86 (by decide +kernel) rfl (by kernel_rfl) (by rw [ha]; exact hle) (by kernel_rfl) hp hk
theorem c_impl_without_of0 {args : List AV} {h : Heap} {R : AV → Heap → Prop} {k : Nat} (ha : args.length = k) {orc : Orc} (hp : Pure Try.prog orc) (hk : Is (c_impl_without_C orc) Try.f86 → Run2 (c_impl_without_C orc) [.code c_impl_without_3] (argEnv 0 args) h R) (hle : k ≤ 9 := by simp) : ACalls Try.prog 86 args h R :=
  contract20 [] c_impl_without_3 [.tmp 4] Try.func86 (by decide +kernel) rfl (by kernel_rfl) (by rw [ha]; exact hle) (by kernel_rfl) hp hk
theorem without_o (l m : List Int) (hl : l.length ≤ 1048576) (hm : m.length ≤ 1048576) : ACalls Try.prog 86 [.snap 1 (l.map iv), .snap 1 (m.map iv)] [] (fun v h' => OwnL iv 1 v (l.filter fun a => !decide (a ∈ m)) h') := by
  refine c_impl_without_of0 rfl noPure fun I => ?_
  refine Run2.of I 1000 ?_
  simp -implicitDefEqProofs
  refine (Clone_w l [] hl).mono ?_
  rintro v h' ⟨hp, G, rfl⟩
  refine gK.go ?_
  have hG := G.cell
  simp -implicitDefEqProofs [hG]
  refine (DeleteFunc_o G _ _ (fun a => decide (a ∈ m)) hl (by simp [colds, cold]) fun a _ h => without1_c m a h hm).mono ?_
  intro v h' o
  have hcell := o.cell
  refine gK.go ?_
  simp -implicitDefEqProofs [hcell]
  simpa using o
theorem Grow.app0 {sz : Nat} {w : AV} {l new : List AV} {hp : Heap} {C : Cx} {n : Nat} {d : Option Nat} {ks : Option (List Nat)} {is : List AJ} {sk : List AItem} {R : AV → Heap → Prop} {e : Env} {h0 : Heap} {bytes : Nat} (g : Grow sz w l hp) (hb : (2 * (l.length + new.length)) * bytes ≤ 281474976710656) (hn : new ≠ [])
    (k : ∀ w' hp', Grow sz w' (l ++ new) hp' → vc2 C n is sk (kp (put e d w') ks) hp' R) : resK C n d ks is sk R e h0 (appR hp sz bytes w new) := by
  have := g.app (h := []) (C := C) (n := n) (d := d) (ks := ks) (is := is) (sk := sk) (R := R) (e := e) (h0 := h0) hb hn (fun w' hp' g' => by simpa only [List.append_nil] using k w' hp' g')
  simpa only [List.append_nil] using this
/-- The nodes of a round. -/
def Gr.busy (x : Gr) (r : List Int) : List Int := r.flatMap fun k => [(x.e k).f, (x.e k).t]
theorem Gr.busy_succ (x : Gr) (r : List Int) {j : Nat} (h : j < r.length) : x.busy (r.take (j + 1)) = x.busy (r.take j) ++ [(x.e r[j]).f, (x.e r[j]).t] := by
  unfold Gr.busy
  rw [List.take_succ_eq_append_getElem h, List.flatMap_append]
  simp
theorem Gr.busy_len (x : Gr) (r : List Int) : (x.busy r).length = 2 * r.length := by
  unfold Gr.busy
  induction r with
  | nil => rfl
  | cons a r ih => simp only [List.flatMap_cons, List.length_append, ih, List.length_cons, List.length_nil]; omega
noncomputable def Gr.iCode (x : Gr) (rs : List (List Int)) (k : Int) : Int := if x.sCode rs = 0 then if 0 ≤ k ∧ k < rs.length then 0 else 2 else x.sCode rs
noncomputable def Gr.idle (x : Gr) (rs : List (List Int)) (k : Int) : List Int := if x.iCode rs k = 0 then (upto x.n.toNat).filter fun a => !decide (a ∈ x.busy (rs.getD k.toNat [])) else []
theorem Gr.idle_len (x : Gr) (rs : List (List Int)) (k : Int) (hv : x.iCode rs k = 0 → x.valid) : (x.idle rs k).length ≤ 12 := by
  unfold Gr.idle
  split
  · rename_i h
    have := (hv h).2.1
    refine Nat.le_trans (List.length_filter_le _ _) ?_
    simp; omega
  · simp
theorem Gr.sCode_ok {x : Gr} {rs : List (List Int)} (h : x.sCode rs = 0) : x.valid ∧ x.rsOk rs := by
  unfold Gr.sCode at h
  split at h
  · split at h
    · exact ⟨by assumption, by assumption⟩
    · omega
  · omega
theorem Gr.iCode_ok {x : Gr} {rs : List (List Int)} {k : Int} (h : x.iCode rs k = 0) : (x.valid ∧ x.rsOk rs) ∧ 0 ≤ k ∧ k < rs.length := by
  unfold Gr.iCode at h
  split at h
  · rename_i h1
    split at h
    · exact ⟨Gr.sCode_ok h1, by assumption⟩
    · omega
  · rename_i h1; exact absurd h h1
noncomputable def orcJ : List (Nat × (List AV → Option (Prop × AV))) := (85, o_sizeLL) :: (84, o_isElement) :: (78, o_scheduled) :: (82, o_l24Ask) :: orcR
theorem orcJ_p : Pure Try.prog (lk orcJ) := (lk_pure o_sizeLL_k (lk_pure o_isElement_k (lk_pure o_scheduled_k (lk_pure o_l24Ask_k orcR_p))))
@[simp] theorem orcJ_l (g : FuncId) (l : List AV) : lk orcJ g l = if g = 85 then o_sizeLL l else if g = 84 then o_isElement l else if g = 78 then o_scheduled l else if g = 82 then o_l24Ask l else lk orcR g l := nr rfl
abbrev c_impl_IdleNodes_o0 : List AJ := [.o ⟨(some 3), none, false, .box false 2 (.t 0), none⟩, .o ⟨(some 6), none, false, .mv (.c .nilsl), none⟩, .o ⟨(some 7), none, false, .mv (.c (.int .i64 0)), (some [1, 2, 3])⟩]
def c_impl_IdleNodes_0 : ACode := .region c_impl_IdleNodes_o0
abbrev c_impl_IdleNodes_o1 : List AJ := [.o ⟨(some 12), none, false, .load 2 true (.t 3), none⟩, .o ⟨(some 13), none, false, .mv (.t 1), none⟩, .o ⟨(some 14), none, false, .call 78 [(.t 12), (.t 13)], none⟩, .o ⟨(some 8), none, false, .mv (.t 14), (some [1, 2, 3, 8])⟩]
def c_impl_IdleNodes_1 : ACode := .region c_impl_IdleNodes_o1
abbrev c_impl_IdleNodes_o2 : List AJ := [.o ⟨(some 15), none, false, .mv (.t 8), none⟩, .o ⟨(some 16), none, false, .bin .neq (.t 15) (.c (.int .i64 0)), (some [1, 2, 3, 8, 16])⟩]
def c_impl_IdleNodes_2 : ACode := .region c_impl_IdleNodes_o2
abbrev c_impl_IdleNodes_o3 : List AJ := [.o ⟨(some 17), none, false, .mv (.t 8), none⟩, .o ⟨(some 6), none, false, .mv (.c .nilsl), none⟩, .o ⟨(some 7), none, false, .mv (.t 17), (some [6, 7])⟩]
def c_impl_IdleNodes_3 : ACode := .region c_impl_IdleNodes_o3
def c_impl_IdleNodes_4 : ACode := .seq c_impl_IdleNodes_3 .ret
def c_impl_IdleNodes_5 : ACode := .cond (.t 16) c_impl_IdleNodes_4 .skip
def c_impl_IdleNodes_6 : ACode := .seq c_impl_IdleNodes_2 c_impl_IdleNodes_5
def c_impl_IdleNodes_7 : ACode := .seq c_impl_IdleNodes_1 c_impl_IdleNodes_6
abbrev c_impl_IdleNodes_o4 : List AJ := [.o ⟨(some 18), none, false, .mv (.t 2), none⟩, .o ⟨(some 19), none, false, .mv (.t 1), none⟩, .o ⟨(some 20), none, false, .call 85 [(.t 19)], none⟩, .o ⟨(some 21), none, false, .call 84 [(.t 18), (.t 20)], none⟩, .o ⟨(some 22), none, false, .un .not (.t 21), (some [1, 2, 3, 22])⟩]
def c_impl_IdleNodes_8 : ACode := .region c_impl_IdleNodes_o4
abbrev c_impl_IdleNodes_o5 : List AJ := [.o ⟨(some 6), none, false, .mv (.c .nilsl), none⟩, .o ⟨(some 7), none, false, .mv (.c (.int .i64 2)), (some [6, 7])⟩]
def c_impl_IdleNodes_9 : ACode := .region c_impl_IdleNodes_o5
def c_impl_IdleNodes_10 : ACode := .seq c_impl_IdleNodes_9 .ret
def c_impl_IdleNodes_11 : ACode := .cond (.t 22) c_impl_IdleNodes_10 .skip
def c_impl_IdleNodes_12 : ACode := .seq c_impl_IdleNodes_8 c_impl_IdleNodes_11
abbrev c_impl_IdleNodes_o6 : List AJ := [.o ⟨(some 9), none, false, .mv (.c .nilsl), (some [1, 2, 3, 9])⟩]
def c_impl_IdleNodes_13 : ACode := .region c_impl_IdleNodes_o6
abbrev c_impl_IdleNodes_o7 : List AJ := [.o ⟨(some 23), none, false, .mv (.t 1), none⟩, .o ⟨(some 24), none, false, .mv (.t 2), none⟩, .o ⟨(some 25), none, false, .idxA 1 (.t 23) (.t 24), none⟩, .o ⟨(some 26), none, false, .load 1 false (.t 25), none⟩, .o ⟨(some 27), none, false, .len (.t 26), none⟩, .o ⟨(some 28), none, false, .mv (.c (.int .i64 0)), (some [3, 9, 26, 27, 28])⟩]
def c_impl_IdleNodes_14 : ACode := .region c_impl_IdleNodes_o7
abbrev c_impl_IdleNodes_o8 : List AJ := [.o ⟨(some 29), none, false, .bin .lss (.t 28) (.t 27), (some [3, 9, 26, 27, 28, 29])⟩]
def c_impl_IdleNodes_15 : ACode := .region c_impl_IdleNodes_o8
def c_impl_IdleNodes_16 : ACode := .cond (.t 29) .skip (.exit 0)
abbrev c_impl_IdleNodes_o9 : List AJ := [.o ⟨(some 30), none, false, .idxA 1 (.t 26) (.t 28), none⟩, .o ⟨(some 31), none, false, .load 1 false (.t 30), none⟩, .o ⟨(some 11), none, false, .mv (.t 31), (some [3, 9, 11, 26, 27, 28])⟩]
def c_impl_IdleNodes_17 : ACode := .region c_impl_IdleNodes_o9
abbrev c_impl_IdleNodes_o10 : List AI := [⟨(some 32), none, false, .mv (.t 9), none⟩, ⟨(some 33), none, false, .fieldA 1 (.t 3), none⟩, ⟨(some 34), none, false, .load 1 false (.t 33), none⟩, ⟨(some 35), none, false, .mv (.t 11), none⟩, ⟨(some 36), none, false, .idxA 3 (.t 34) (.t 35), none⟩, ⟨(some 37), none, false, .fieldA 0 (.t 36), none⟩, ⟨(some 38), none, false, .load 1 false (.t 37), none⟩, ⟨(some 39), none, false, .fieldA 1 (.t 3), none⟩, ⟨(some 40), none, false, .load 1 false (.t 39), none⟩, ⟨(some 41), none, false, .mv (.t 11), none⟩, ⟨(some 42), none, false, .idxA 3 (.t 40) (.t 41), none⟩, ⟨(some 43), none, false, .fieldA 1 (.t 42), none⟩, ⟨(some 44), none, false, .load 1 false (.t 43), none⟩, ⟨(some 45), none, false, .bsl false 1 [(.t 38), (.t 44)], (some [3, 26, 27, 28, 32, 45])⟩]
abbrev c_impl_IdleNodes_o11 : List AJ := [.o ⟨(some 46), none, false, .append 1 8 (.t 32) (.t 45), none⟩, .o ⟨(some 9), none, false, .mv (.t 46), (some [3, 9, 26, 27, 28])⟩]
def c_impl_IdleNodes_18 : ACode := .draw c_impl_IdleNodes_o10 c_impl_IdleNodes_o11 rfl
def c_impl_IdleNodes_19 : ACode := .seq c_impl_IdleNodes_17 c_impl_IdleNodes_18
def c_impl_IdleNodes_20 : ACode := .block 1 c_impl_IdleNodes_19
abbrev c_impl_IdleNodes_o12 : List AJ := [.o ⟨(some 47), none, true, .bin .add (.t 28) (.c (.int .i64 1)), none⟩, .o ⟨(some 28), none, false, .mv (.t 47), (some [3, 9, 26, 27, 28])⟩]
def c_impl_IdleNodes_21 : ACode := .region c_impl_IdleNodes_o12
def c_impl_IdleNodes_22 : ACode := .seq c_impl_IdleNodes_20 c_impl_IdleNodes_21
def c_impl_IdleNodes_23 : ACode := .seq c_impl_IdleNodes_16 c_impl_IdleNodes_22
def c_impl_IdleNodes_24 : ACode := .seq c_impl_IdleNodes_15 c_impl_IdleNodes_23
def c_impl_IdleNodes_25 : ACode := .loop c_impl_IdleNodes_24
def c_impl_IdleNodes_26 : ACode := .block 0 c_impl_IdleNodes_25
def c_impl_IdleNodes_27 : ACode := .seq c_impl_IdleNodes_14 c_impl_IdleNodes_26
abbrev c_impl_IdleNodes_o13 : List AJ := [.o ⟨(some 48), none, false, .fieldA 0 (.t 3), none⟩, .o ⟨(some 49), none, false, .load 1 false (.t 48), none⟩, .o ⟨(some 50), none, false, .call 87 [(.t 49)], none⟩, .o ⟨(some 51), none, false, .mv (.t 9), none⟩, .o ⟨(some 52), none, false, .call 86 [(.t 50), (.t 51)], none⟩, .o ⟨(some 6), none, false, .mv (.t 52), none⟩, .o ⟨(some 7), none, false, .mv (.c (.int .i64 0)), (some [6, 7])⟩]
def c_impl_IdleNodes_28 : ACode := .region c_impl_IdleNodes_o13
def c_impl_IdleNodes_29 : ACode := .seq c_impl_IdleNodes_28 .ret
def c_impl_IdleNodes_30 : ACode := .seq c_impl_IdleNodes_27 c_impl_IdleNodes_29
def c_impl_IdleNodes_31 : ACode := .seq c_impl_IdleNodes_13 c_impl_IdleNodes_30
def c_impl_IdleNodes_32 : ACode := .seq c_impl_IdleNodes_12 c_impl_IdleNodes_31
def c_impl_IdleNodes_33 : ACode := .seq c_impl_IdleNodes_7 c_impl_IdleNodes_32
def c_impl_IdleNodes_34 : ACode := .seq c_impl_IdleNodes_0 c_impl_IdleNodes_33
section
variable (C : Cx) (n : Nat) (sk : List AItem) (e : Env) (h : Heap) (R : AV → Heap → Prop)
@[simp, simp ↓] theorem c_impl_IdleNodes_0_r : vc2 C (n + 1) [] (.code c_impl_IdleNodes_0 :: sk) e h R = (vc2 C n c_impl_IdleNodes_o0 sk e h R) := nr rfl
@[simp, simp ↓] theorem c_impl_IdleNodes_1_r : vc2 C (n + 1) [] (.code c_impl_IdleNodes_1 :: sk) e h R = (vc2 C n c_impl_IdleNodes_o1 sk e h R) := nr rfl
@[simp, simp ↓] theorem c_impl_IdleNodes_2_r : vc2 C (n + 1) [] (.code c_impl_IdleNodes_2 :: sk) e h R = (vc2 C n c_impl_IdleNodes_o2 sk e h R) := nr rfl
@[simp, simp ↓] theorem c_impl_IdleNodes_3_r : vc2 C (n + 1) [] (.code c_impl_IdleNodes_3 :: sk) e h R = (vc2 C n c_impl_IdleNodes_o3 sk e h R) := nr rfl
@[simp, simp ↓] theorem c_impl_IdleNodes_4_r : vc2 C (n + 1) [] (.code c_impl_IdleNodes_4 :: sk) e h R = (vc2 C n [] (.code c_impl_IdleNodes_3 :: .code .ret :: sk) e h R) := nr rfl
@[simp, simp ↓] theorem c_impl_IdleNodes_5_r : vc2 C (n + 1) [] (.code c_impl_IdleNodes_5 :: sk) e h R = (condK (ev e (.t 16)) (vc2 C n [] (.code c_impl_IdleNodes_4 :: sk) e h R) (vc2 C n [] (.code .skip :: sk) e h R)) := nr rfl
@[simp, simp ↓] theorem c_impl_IdleNodes_6_r : vc2 C (n + 1) [] (.code c_impl_IdleNodes_6 :: sk) e h R = (vc2 C n [] (.code c_impl_IdleNodes_2 :: .code c_impl_IdleNodes_5 :: sk) e h R) := nr rfl
@[simp, simp ↓] theorem c_impl_IdleNodes_7_r : vc2 C (n + 1) [] (.code c_impl_IdleNodes_7 :: sk) e h R = (vc2 C n [] (.code c_impl_IdleNodes_1 :: .code c_impl_IdleNodes_6 :: sk) e h R) := nr rfl
@[simp, simp ↓] theorem c_impl_IdleNodes_8_r : vc2 C (n + 1) [] (.code c_impl_IdleNodes_8 :: sk) e h R = (vc2 C n c_impl_IdleNodes_o4 sk e h R) := nr rfl
@[simp, simp ↓] theorem c_impl_IdleNodes_9_r : vc2 C (n + 1) [] (.code c_impl_IdleNodes_9 :: sk) e h R = (vc2 C n c_impl_IdleNodes_o5 sk e h R) := nr rfl
@[simp, simp ↓] theorem c_impl_IdleNodes_10_r : vc2 C (n + 1) [] (.code c_impl_IdleNodes_10 :: sk) e h R = (vc2 C n [] (.code c_impl_IdleNodes_9 :: .code .ret :: sk) e h R) := nr rfl
@[simp, simp ↓] theorem c_impl_IdleNodes_11_r : vc2 C (n + 1) [] (.code c_impl_IdleNodes_11 :: sk) e h R = (condK (ev e (.t 22)) (vc2 C n [] (.code c_impl_IdleNodes_10 :: sk) e h R) (vc2 C n [] (.code .skip :: sk) e h R)) := nr rfl
@[simp, simp ↓] theorem c_impl_IdleNodes_12_r : vc2 C (n + 1) [] (.code c_impl_IdleNodes_12 :: sk) e h R = (vc2 C n [] (.code c_impl_IdleNodes_8 :: .code c_impl_IdleNodes_11 :: sk) e h R) := nr rfl
@[simp, simp ↓] theorem c_impl_IdleNodes_13_r : vc2 C (n + 1) [] (.code c_impl_IdleNodes_13 :: sk) e h R = (vc2 C n c_impl_IdleNodes_o6 sk e h R) := nr rfl
@[simp, simp ↓] theorem c_impl_IdleNodes_14_r : vc2 C (n + 1) [] (.code c_impl_IdleNodes_14 :: sk) e h R = (vc2 C n c_impl_IdleNodes_o7 sk e h R) := nr rfl
@[simp, simp ↓] theorem c_impl_IdleNodes_15_r : vc2 C (n + 1) [] (.code c_impl_IdleNodes_15 :: sk) e h R = (vc2 C n c_impl_IdleNodes_o8 sk e h R) := nr rfl
@[simp, simp ↓] theorem c_impl_IdleNodes_16_r : vc2 C (n + 1) [] (.code c_impl_IdleNodes_16 :: sk) e h R = (condK (ev e (.t 29)) (vc2 C n [] (.code .skip :: sk) e h R) (vc2 C n [] (.code (.exit 0) :: sk) e h R)) := nr rfl
@[simp, simp ↓] theorem c_impl_IdleNodes_17_r : vc2 C (n + 1) [] (.code c_impl_IdleNodes_17 :: sk) e h R = (vc2 C n c_impl_IdleNodes_o9 sk e h R) := nr rfl
@[simp, simp ↓] theorem c_impl_IdleNodes_18_r : vc2 C (n + 1) [] (.code c_impl_IdleNodes_18 :: sk) e h R = (draw2 C h (vK C n c_impl_IdleNodes_o11 sk R h) c_impl_IdleNodes_o10 e) := nr rfl
@[simp, simp ↓] theorem c_impl_IdleNodes_19_r : vc2 C (n + 1) [] (.code c_impl_IdleNodes_19 :: sk) e h R = (vc2 C n [] (.code c_impl_IdleNodes_17 :: .code c_impl_IdleNodes_18 :: sk) e h R) := nr rfl
@[simp, simp ↓] theorem c_impl_IdleNodes_20_r : vc2 C (n + 1) [] (.code c_impl_IdleNodes_20 :: sk) e h R = (vc2 C n [] (.code c_impl_IdleNodes_19 :: .inBlock 1 :: sk) e h R) := nr rfl
@[simp, simp ↓] theorem c_impl_IdleNodes_21_r : vc2 C (n + 1) [] (.code c_impl_IdleNodes_21 :: sk) e h R = (vc2 C n c_impl_IdleNodes_o12 sk e h R) := nr rfl
@[simp, simp ↓] theorem c_impl_IdleNodes_22_r : vc2 C (n + 1) [] (.code c_impl_IdleNodes_22 :: sk) e h R = (vc2 C n [] (.code c_impl_IdleNodes_20 :: .code c_impl_IdleNodes_21 :: sk) e h R) := nr rfl
@[simp, simp ↓] theorem c_impl_IdleNodes_23_r : vc2 C (n + 1) [] (.code c_impl_IdleNodes_23 :: sk) e h R = (vc2 C n [] (.code c_impl_IdleNodes_16 :: .code c_impl_IdleNodes_22 :: sk) e h R) := nr rfl
@[simp, simp ↓] theorem c_impl_IdleNodes_24_r : vc2 C (n + 1) [] (.code c_impl_IdleNodes_24 :: sk) e h R = (vc2 C n [] (.code c_impl_IdleNodes_15 :: .code c_impl_IdleNodes_23 :: sk) e h R) := nr rfl
@[simp, simp ↓] theorem c_impl_IdleNodes_25_r : vc2 C (n + 1) [] (.code c_impl_IdleNodes_25 :: sk) e h R = (Run2 C (.code c_impl_IdleNodes_24 :: .inLoop c_impl_IdleNodes_24 :: sk) e h R) := nr rfl
@[simp, simp ↓] theorem c_impl_IdleNodes_26_r : vc2 C (n + 1) [] (.code c_impl_IdleNodes_26 :: sk) e h R = (vc2 C n [] (.code c_impl_IdleNodes_25 :: .inBlock 0 :: sk) e h R) := nr rfl
@[simp, simp ↓] theorem c_impl_IdleNodes_27_r : vc2 C (n + 1) [] (.code c_impl_IdleNodes_27 :: sk) e h R = (vc2 C n [] (.code c_impl_IdleNodes_14 :: .code c_impl_IdleNodes_26 :: sk) e h R) := nr rfl
@[simp, simp ↓] theorem c_impl_IdleNodes_28_r : vc2 C (n + 1) [] (.code c_impl_IdleNodes_28 :: sk) e h R = (vc2 C n c_impl_IdleNodes_o13 sk e h R) := nr rfl
@[simp, simp ↓] theorem c_impl_IdleNodes_29_r : vc2 C (n + 1) [] (.code c_impl_IdleNodes_29 :: sk) e h R = (vc2 C n [] (.code c_impl_IdleNodes_28 :: .code .ret :: sk) e h R) := nr rfl
@[simp, simp ↓] theorem c_impl_IdleNodes_30_r : vc2 C (n + 1) [] (.code c_impl_IdleNodes_30 :: sk) e h R = (vc2 C n [] (.code c_impl_IdleNodes_27 :: .code c_impl_IdleNodes_29 :: sk) e h R) := nr rfl
@[simp, simp ↓] theorem c_impl_IdleNodes_31_r : vc2 C (n + 1) [] (.code c_impl_IdleNodes_31 :: sk) e h R = (vc2 C n [] (.code c_impl_IdleNodes_13 :: .code c_impl_IdleNodes_30 :: sk) e h R) := nr rfl
@[simp, simp ↓] theorem c_impl_IdleNodes_32_r : vc2 C (n + 1) [] (.code c_impl_IdleNodes_32 :: sk) e h R = (vc2 C n [] (.code c_impl_IdleNodes_12 :: .code c_impl_IdleNodes_31 :: sk) e h R) := nr rfl
@[simp, simp ↓] theorem c_impl_IdleNodes_33_r : vc2 C (n + 1) [] (.code c_impl_IdleNodes_33 :: sk) e h R = (vc2 C n [] (.code c_impl_IdleNodes_7 :: .code c_impl_IdleNodes_32 :: sk) e h R) := nr rfl
@[simp, simp ↓] theorem c_impl_IdleNodes_34_r : vc2 C (n + 1) [] (.code c_impl_IdleNodes_34 :: sk) e h R = (vc2 C n [] (.code c_impl_IdleNodes_0 :: .code c_impl_IdleNodes_33 :: sk) e h R) := nr rfl
end
noncomputable def c_impl_IdleNodes_C (orc : Orc) : Cx := ⟨Try.prog, [], 35, 53, [.tmp 6, .tmp 7], orc⟩
@[simp] theorem c_impl_IdleNodes_C_P (orc : Orc) : (c_impl_IdleNodes_C orc).P = Try.prog := nr rfl
@[simp] theorem c_impl_IdleNodes_C_o (orc : Orc) : (c_impl_IdleNodes_C orc).orc = orc := nr rfl
@[simp] theorem c_impl_IdleNodes_C_r (orc : Orc) : (c_impl_IdleNodes_C orc).res = [.tmp 6, .tmp 7] := nr rfl
theorem c_impl_IdleNodes_of {args : List AV} {h : Heap} {R : AV → Heap → Prop} {k : Nat} (ha : args.length = k) {orc : Orc} (hp : Pure Try.prog orc) (hk : Is (c_impl_IdleNodes_C orc) Try.f35 → Run2 (c_impl_IdleNodes_C orc) [.code c_impl_IdleNodes_34] (argEnv 0 args) h (Post R)) (hle : k ≤ 53 := by simp) : ACalls Try.prog 35 args h R :=
  contract2 [] c_impl_IdleNodes_34 [.tmp 6, .tmp 7] Try.func35 (by decide +kernel) rfl (by kernel_rfl) (by rw [ha]; exact hle) (by kernel_rfl) hp hk
theorem c_impl_IdleNodes_of0 {args : List AV} {h : Heap} {R : AV → Heap → Prop} {k : Nat} (ha : args.length = k) {orc : Orc} (hp : Pure Try.prog orc) (hk : Is (c_impl_IdleNodes_C orc) Try.f35 → Run2 (c_impl_IdleNodes_C orc) [.code c_impl_IdleNodes_34] (argEnv 0 args) h R) (hle : k ≤ 53 := by simp) : ACalls Try.prog 35 args h R :=
  contract20 [] c_impl_IdleNodes_34 [.tmp 6, .tmp 7] Try.func35 (by decide +kernel) rfl (by kernel_rfl) (by rw [ha]; exact hle) (by kernel_rfl) hp hk
theorem implIdle_o (x : Gr) (rs : List (List Int)) (k : Int) (hl : x.ts.length ≤ 1048576) (ok : x.ok) (hr : ssTot rs ≤ 1048576) : ACalls Try.prog 35 [x.av, .snap 1 (rs.map il), .int .i64 k] [] (fun v h' => ∃ w, v = .tup [w, .int .i64 (x.iCode rs k)] ∧ OwnL iv 1 w (x.idle rs k) h') := by
  have hn := (fit_of_tot hr).1
  have hw : IntKind.i64.wrap ((rs.length : Int) - 1) = rs.length - 1 := w64 (by omega)
  refine ACalls.sub ?_
  refine c_impl_IdleNodes_of0 rfl orcJ_p fun I => ?_
  refine Run2.of I 1000 ?_
  by_cases hs : x.sCode rs = 0
  · by_cases hk : 0 ≤ k ∧ k < rs.length
    · have hc : x.iCode rs k = 0 := by simp [Gr.iCode, hs, hk]
      have hid : x.idle rs k = (upto x.n.toNat).filter fun a => !decide (a ∈ x.busy (rs.getD k.toNat [])) := by simp [Gr.idle, hc]
      obtain ⟨⟨hv, hrs⟩, _⟩ := Gr.iCode_ok hc
      have hkn : k.toNat < rs.length := by omega
      have hgd : rs.getD k.toNat [] = rs[k.toNat] := by simp [hkn]
      have hrok := hrs.1 _ (List.getElem_mem hkn)
      have hrl := (fit_of_tot hr).2 _ (List.getElem_mem hkn)
      have hr24 : rs[k.toNat].length ≤ 24 := by
        have h1 := len_sumL (List.getElem_mem hkn)
        have h2 := hrs.2.2
        have h3 := hv.le
        rw [sumL_flatten] at h2
        omega
      rw [hgd] at hid
      have hk1 : k ≤ (rs.length : Int) - 1 := by omega
      generalize hr0 : rs[k.toNat] = r at *
      simp -implicitDefEqProofs [hl, ok, hr, hs, hw, hk.1, hk1, hkn, hr0]
      refine Run2.loopE (α := Nat × AV × Heap) (fun s => [(3, .ip [.int .i64 x.n, .snap 3 (x.ts.map T.av)]), (9, s.2.1), (26, .snap 1 (r.map iv)), (27, .int .i64 r.length), (28, .int .i64 (s.1 : Nat))]) (fun s => s.2.2) (fun s => r.length - s.1) (fun s => s.1 ≤ r.length ∧ Grow 1 s.2.1 ((x.busy (r.take s.1)).map iv) s.2.2) (0, .nilsl, []) (by simp) rfl ⟨Nat.zero_le _, by simpa [Gr.busy] using Grow.nil⟩ ?_
      rintro ⟨j, w, hp⟩ ⟨hj, hg⟩ ih
      simp only at hj hg
      have hcell := hg.cell
      by_cases hlt : j < r.length
      · have hin : x.inR r[j] := hrok.2.2.1 _ (List.getElem_mem hlt)
        obtain ⟨e1, e2⟩ := Gr.e_at hin
        have e0 := hin.1
        have hbl := x.busy_len (r.take j)
        have go := fun w' hp' (g : Grow 1 w' ((x.busy (r.take j)).map iv ++ [.int .i64 (x.e r[j]).f, .int .i64 (x.e r[j]).t]) hp') => ih (j + 1, w', hp') ⟨hlt, by simp only; rw [Gr.busy_succ x r hlt]; simpa using g⟩ (by simp; omega)
        rw [e2] at go
        clear ih
        refine Run2.of I 1000 ?_
        simp -implicitDefEqProofs [hlt, hcell, e0, e1]
        refine hg.app0 (by rw [List.length_map, hbl]; simp; omega) (by simp) fun w' hp' hg' => ?_
        have hcell' := hg'.cell
        simp -implicitDefEqProofs [hcell']
        refine ⟨by omega, ?_⟩
        simpa using go w' hp' hg'
      · obtain rfl : j = r.length := by omega
        rw [List.take_length] at hg
        have hbl := x.busy_len r
        have hn2 := hv.2.1
        have hn1 := hv.1
        have fc := firstChoice_c x.n.toNat hp (by omega)
        rw [Int.toNat_of_nonneg (by omega)] at fc
        refine Run2.of I 1000 ?_
        simp -implicitDefEqProofs [hcell]
        refine fc.mono ?_
        rintro v h' ⟨rfl, rfl⟩
        refine gK.go ?_
        simp -implicitDefEqProofs [hcell]
        refine (ACalls.gives h' (fun p hp => hp) (S := fun v h'' => OwnL iv 1 v ((upto x.n.toNat).filter fun a => !decide (a ∈ x.busy r)) h'') ?_ (fun v h' o => o.own own_iv1)).monoN ?_
        · rw [lend_cons, lend_cons, lend_nil', lend1_cold h' (x := .snap 1 ((upto x.n.toNat).map iv)) (by simp [cold])]
          exact ACalls.wk (.cons (.refl _) (.cons hg.own.lent.wk .nil)) (without_o _ _ (by simp; omega) (by omega))
        rintro v h'' ⟨g', o, hd, rfl⟩ nd
        have hcell' := o.cell
        refine gK.go ?_
        simp -implicitDefEqProofs [hcell']
        exact ⟨g', fun a b hm => .inl hm, fun nd => (List.nodup_append.1 nd).1, v, ⟨rfl, hc.symm⟩, by rw [hid]; exact o⟩
    · have hc : x.iCode rs k = 2 := by simp [Gr.iCode, hs, hk]
      have hid : x.idle rs k = [] := by simp [Gr.idle, hc]
      simp -implicitDefEqProofs [hl, ok, hr, hs, hw, hc, hid]
      refine ⟨fun _ => ⟨[], by simp, by simp [dom], .nil⟩, fun h1 h2 => by exfalso; omega⟩
  · have hc : x.iCode rs k = x.sCode rs := by simp [Gr.iCode, hs]
    have hid : x.idle rs k = [] := by simp [Gr.idle, hc, hs]
    simp -implicitDefEqProofs [hl, ok, hr, hs, hw, hc, hid]
    exact ⟨[], by simp, by simp [dom], .nil⟩
theorem iCode_rw {x : Gr} {rs : List (List Int)} {k : Int} : (x.sCode rs = 0 ∧ (0 ≤ k ∧ k < rs.length) ∧ x.iCode rs k = 0) ∨ (x.sCode rs = 0 ∧ ¬ (0 ≤ k ∧ k < rs.length) ∧ x.iCode rs k = 2) ∨ (¬ x.sCode rs = 0 ∧ x.iCode rs k = x.sCode rs) := by
  unfold Gr.iCode
  by_cases h1 : x.sCode rs = 0
  · by_cases h2 : 0 ≤ k ∧ k < rs.length
    · exact .inl ⟨h1, h2, by simp [h1, h2]⟩
    · exact .inr (.inl ⟨h1, h2, by simp [h1, h2]⟩)
  · exact .inr (.inr ⟨h1, by simp [h1]⟩)
abbrev c_spec_IdleNodes_o0 : List AJ := [.o ⟨(some 3), none, false, .box false 2 (.t 0), none⟩, .o ⟨(some 6), none, false, .mv (.c .nilsl), none⟩, .o ⟨(some 7), none, false, .mv (.c (.int .i64 0)), (some [1, 2, 3])⟩]
def c_spec_IdleNodes_0 : ACode := .region c_spec_IdleNodes_o0
abbrev c_spec_IdleNodes_o1 : List AJ := [.o ⟨(some 14), none, false, .mv (.t 1), none⟩, .o ⟨(some 15), none, false, .call 82 [(.t 3), (.t 14)], none⟩, .o ⟨(some 8), none, false, .mv (.t 15), (some [1, 2, 3, 8])⟩]
def c_spec_IdleNodes_1 : ACode := .region c_spec_IdleNodes_o1
abbrev c_spec_IdleNodes_o2 : List AJ := [.o ⟨(some 16), none, false, .mv (.t 8), none⟩, .o ⟨(some 17), none, false, .bin .eql (.t 16) (.c (.int .i64 0)), none⟩, .o ⟨(some 18), none, false, .mv (.t 17), none⟩, .o ⟨(some 19), (some (18, true)), false, .mv (.t 2), none⟩, .o ⟨(some 20), (some (18, true)), false, .mv (.t 1), none⟩, .o ⟨(some 21), (some (18, true)), false, .len (.t 20), none⟩, .o ⟨(some 22), (some (18, true)), true, .bin .sub (.t 21) (.c (.int .i64 1)), none⟩, .o ⟨(some 23), (some (18, true)), false, .call 69 [(.t 19), (.c (.int .i64 0)), (.t 22)], none⟩, .o ⟨(some 24), (some (18, true)), false, .un .not (.t 23), (some [1, 2, 3, 8, 18, 24])⟩, .o ⟨(some 25), none, false, .pick (.t 18) (.t 24) (.c (.bool false)), (some [1, 2, 3, 8, 25])⟩]
def c_spec_IdleNodes_2 : ACode := .region c_spec_IdleNodes_o2
abbrev c_spec_IdleNodes_o3 : List AJ := [.o ⟨(some 8), none, false, .mv (.c (.int .i64 2)), (some [1, 2, 3, 8])⟩]
def c_spec_IdleNodes_3 : ACode := .region c_spec_IdleNodes_o3
def c_spec_IdleNodes_4 : ACode := .cond (.t 25) c_spec_IdleNodes_3 .skip
def c_spec_IdleNodes_5 : ACode := .seq c_spec_IdleNodes_2 c_spec_IdleNodes_4
abbrev c_spec_IdleNodes_o4 : List AJ := [.o ⟨(some 26), none, false, .mv (.t 8), none⟩, .o ⟨(some 27), none, false, .bin .neq (.t 26) (.c (.int .i64 0)), (some [1, 2, 3, 8, 27])⟩]
def c_spec_IdleNodes_6 : ACode := .region c_spec_IdleNodes_o4
abbrev c_spec_IdleNodes_o5 : List AJ := [.o ⟨(some 28), none, false, .mv (.t 8), none⟩, .o ⟨(some 6), none, false, .mv (.c .nilsl), none⟩, .o ⟨(some 7), none, false, .mv (.t 28), (some [6, 7])⟩]
def c_spec_IdleNodes_7 : ACode := .region c_spec_IdleNodes_o5
def c_spec_IdleNodes_8 : ACode := .seq c_spec_IdleNodes_7 .ret
def c_spec_IdleNodes_9 : ACode := .cond (.t 27) c_spec_IdleNodes_8 .skip
def c_spec_IdleNodes_10 : ACode := .seq c_spec_IdleNodes_6 c_spec_IdleNodes_9
abbrev c_spec_IdleNodes_o6 : List AJ := [.e 29 1 none, .o ⟨(some 9), none, false, .mv (.t 29), (some [1, 2, 3, 9])⟩]
def c_spec_IdleNodes_11 : ACode := .region c_spec_IdleNodes_o6
abbrev c_spec_IdleNodes_o7 : List AJ := [.o ⟨(some 10), none, false, .mv (.c (.int .i64 0)), (some [1, 2, 3, 9, 10])⟩]
def c_spec_IdleNodes_12 : ACode := .region c_spec_IdleNodes_o7
abbrev c_spec_IdleNodes_o8 : List AJ := [.o ⟨(some 30), none, false, .mv (.t 10), none⟩, .o ⟨(some 31), none, false, .mv (.t 1), none⟩, .o ⟨(some 32), none, false, .mv (.t 2), none⟩, .o ⟨(some 33), none, false, .idxA 1 (.t 31) (.t 32), none⟩, .o ⟨(some 34), none, false, .load 1 false (.t 33), none⟩, .o ⟨(some 35), none, false, .len (.t 34), none⟩, .o ⟨(some 36), none, false, .bin .lss (.t 30) (.t 35), (some [1, 2, 3, 9, 10, 36])⟩]
def c_spec_IdleNodes_13 : ACode := .region c_spec_IdleNodes_o8
def c_spec_IdleNodes_14 : ACode := .cond (.t 36) .skip (.exit 0)
def c_spec_IdleNodes_15 : ACode := .seq c_spec_IdleNodes_13 c_spec_IdleNodes_14
abbrev c_spec_IdleNodes_o9 : List AJ := [.o ⟨(some 39), none, false, .fieldA 1 (.t 3), none⟩, .o ⟨(some 40), none, false, .load 1 false (.t 39), none⟩, .o ⟨(some 41), none, false, .mv (.t 1), none⟩, .o ⟨(some 42), none, false, .mv (.t 2), none⟩, .o ⟨(some 43), none, false, .idxA 1 (.t 41) (.t 42), none⟩, .o ⟨(some 44), none, false, .load 1 false (.t 43), none⟩, .o ⟨(some 45), none, false, .mv (.t 10), none⟩, .o ⟨(some 46), none, false, .idxA 1 (.t 44) (.t 45), none⟩, .o ⟨(some 47), none, false, .load 1 false (.t 46), none⟩, .o ⟨(some 48), none, false, .idxA 3 (.t 40) (.t 47), none⟩, .o ⟨(some 49), none, false, .load 3 true (.t 48), none⟩, .v 11 3 (.agg [(.int .i64 0), (.int .i64 0), (.int .i64 0)]) [] (.t 49) (some [1, 2, 3, 9, 10, 11])]
def c_spec_IdleNodes_16 : ACode := .drawT 0 c_spec_IdleNodes_o9 rfl
abbrev c_spec_IdleNodes_o10 : List AJ := [.o ⟨(some 50), none, false, .mv (.t 9), none⟩, .o ⟨(some 51), none, false, .fieldA 0 (.t 11), none⟩, .o ⟨(some 52), none, false, .load 1 false (.t 51), none⟩, .o ⟨(some 53), none, false, .fieldA 1 (.t 11), none⟩, .o ⟨(some 54), none, false, .load 1 false (.t 53), none⟩, .o ⟨(some 55), none, false, .bsl false 1 [(.t 52), (.t 54)], none⟩, .o ⟨(some 56), none, false, .append 1 8 (.t 50) (.t 55), none⟩, .o ⟨(some 9), none, false, .mv (.t 56), (some [1, 2, 3, 9, 10])⟩]
def c_spec_IdleNodes_17 : ACode := .region c_spec_IdleNodes_o10
def c_spec_IdleNodes_18 : ACode := .seq c_spec_IdleNodes_16 c_spec_IdleNodes_17
def c_spec_IdleNodes_19 : ACode := .block 1 c_spec_IdleNodes_18
abbrev c_spec_IdleNodes_o11 : List AJ := [.o ⟨(some 37), none, false, .mv (.t 10), none⟩, .o ⟨(some 38), none, true, .bin .add (.t 37) (.c (.int .i64 1)), none⟩, .o ⟨(some 10), none, false, .mv (.t 38), (some [1, 2, 3, 9, 10])⟩]
def c_spec_IdleNodes_20 : ACode := .region c_spec_IdleNodes_o11
def c_spec_IdleNodes_21 : ACode := .seq c_spec_IdleNodes_19 c_spec_IdleNodes_20
def c_spec_IdleNodes_22 : ACode := .seq c_spec_IdleNodes_15 c_spec_IdleNodes_21
def c_spec_IdleNodes_23 : ACode := .loop c_spec_IdleNodes_22
def c_spec_IdleNodes_24 : ACode := .block 0 c_spec_IdleNodes_23
def c_spec_IdleNodes_25 : ACode := .seq c_spec_IdleNodes_12 c_spec_IdleNodes_24
abbrev c_spec_IdleNodes_o12 : List AJ := [.e 57 1 none, .o ⟨(some 12), none, false, .mv (.t 57), (some [3, 9, 12])⟩]
def c_spec_IdleNodes_26 : ACode := .region c_spec_IdleNodes_o12
abbrev c_spec_IdleNodes_o13 : List AJ := [.o ⟨(some 13), none, false, .mv (.c (.int .i64 0)), (some [3, 9, 12, 13])⟩]
def c_spec_IdleNodes_27 : ACode := .region c_spec_IdleNodes_o13
abbrev c_spec_IdleNodes_o14 : List AJ := [.o ⟨(some 58), none, false, .mv (.t 13), none⟩, .o ⟨(some 59), none, false, .fieldA 0 (.t 3), none⟩, .o ⟨(some 60), none, false, .load 1 false (.t 59), none⟩, .o ⟨(some 61), none, false, .bin .lss (.t 58) (.t 60), (some [3, 9, 12, 13, 61])⟩]
def c_spec_IdleNodes_28 : ACode := .region c_spec_IdleNodes_o14
def c_spec_IdleNodes_29 : ACode := .cond (.t 61) .skip (.exit 2)
def c_spec_IdleNodes_30 : ACode := .seq c_spec_IdleNodes_28 c_spec_IdleNodes_29
abbrev c_spec_IdleNodes_o15 : List AJ := [.o ⟨(some 64), none, false, .mv (.t 9), none⟩, .o ⟨(some 65), none, false, .mv (.t 13), none⟩, .o ⟨(some 66), none, false, .call 83 [(.t 64), (.t 65)], none⟩, .o ⟨(some 67), none, false, .un .not (.t 66), (some [3, 9, 12, 13, 67])⟩]
def c_spec_IdleNodes_31 : ACode := .region c_spec_IdleNodes_o15
abbrev c_spec_IdleNodes_o16 : List AJ := [.o ⟨(some 68), none, false, .mv (.t 12), none⟩, .o ⟨(some 69), none, false, .mv (.t 13), none⟩, .o ⟨(some 70), none, false, .bsl false 1 [(.t 69)], none⟩, .o ⟨(some 71), none, false, .append 1 8 (.t 68) (.t 70), none⟩, .o ⟨(some 12), none, false, .mv (.t 71), (some [3, 9, 12, 13])⟩]
def c_spec_IdleNodes_32 : ACode := .region c_spec_IdleNodes_o16
def c_spec_IdleNodes_33 : ACode := .cond (.t 67) c_spec_IdleNodes_32 .skip
def c_spec_IdleNodes_34 : ACode := .seq c_spec_IdleNodes_31 c_spec_IdleNodes_33
def c_spec_IdleNodes_35 : ACode := .block 3 c_spec_IdleNodes_34
abbrev c_spec_IdleNodes_o17 : List AJ := [.o ⟨(some 62), none, false, .mv (.t 13), none⟩, .o ⟨(some 63), none, true, .bin .add (.t 62) (.c (.int .i64 1)), none⟩, .o ⟨(some 13), none, false, .mv (.t 63), (some [3, 9, 12, 13])⟩]
def c_spec_IdleNodes_36 : ACode := .region c_spec_IdleNodes_o17
def c_spec_IdleNodes_37 : ACode := .seq c_spec_IdleNodes_35 c_spec_IdleNodes_36
def c_spec_IdleNodes_38 : ACode := .seq c_spec_IdleNodes_30 c_spec_IdleNodes_37
def c_spec_IdleNodes_39 : ACode := .loop c_spec_IdleNodes_38
def c_spec_IdleNodes_40 : ACode := .block 2 c_spec_IdleNodes_39
def c_spec_IdleNodes_41 : ACode := .seq c_spec_IdleNodes_27 c_spec_IdleNodes_40
abbrev c_spec_IdleNodes_o18 : List AJ := [.o ⟨(some 72), none, false, .mv (.t 12), none⟩, .o ⟨(some 6), none, false, .mv (.t 72), none⟩, .o ⟨(some 7), none, false, .mv (.c (.int .i64 0)), (some [6, 7])⟩]
def c_spec_IdleNodes_42 : ACode := .region c_spec_IdleNodes_o18
def c_spec_IdleNodes_43 : ACode := .seq c_spec_IdleNodes_42 .ret
def c_spec_IdleNodes_44 : ACode := .seq c_spec_IdleNodes_41 c_spec_IdleNodes_43
def c_spec_IdleNodes_45 : ACode := .seq c_spec_IdleNodes_26 c_spec_IdleNodes_44
def c_spec_IdleNodes_46 : ACode := .seq c_spec_IdleNodes_25 c_spec_IdleNodes_45
def c_spec_IdleNodes_47 : ACode := .seq c_spec_IdleNodes_11 c_spec_IdleNodes_46
def c_spec_IdleNodes_48 : ACode := .seq c_spec_IdleNodes_10 c_spec_IdleNodes_47
def c_spec_IdleNodes_49 : ACode := .seq c_spec_IdleNodes_5 c_spec_IdleNodes_48
def c_spec_IdleNodes_50 : ACode := .seq c_spec_IdleNodes_1 c_spec_IdleNodes_49
def c_spec_IdleNodes_51 : ACode := .seq c_spec_IdleNodes_0 c_spec_IdleNodes_50
section
variable (C : Cx) (n : Nat) (sk : List AItem) (e : Env) (h : Heap) (R : AV → Heap → Prop)
@[simp, simp ↓] theorem c_spec_IdleNodes_0_r : vc2 C (n + 1) [] (.code c_spec_IdleNodes_0 :: sk) e h R = (vc2 C n c_spec_IdleNodes_o0 sk e h R) := nr rfl
@[simp, simp ↓] theorem c_spec_IdleNodes_1_r : vc2 C (n + 1) [] (.code c_spec_IdleNodes_1 :: sk) e h R = (vc2 C n c_spec_IdleNodes_o1 sk e h R) := nr rfl
@[simp, simp ↓] theorem c_spec_IdleNodes_2_r : vc2 C (n + 1) [] (.code c_spec_IdleNodes_2 :: sk) e h R = (vc2 C n c_spec_IdleNodes_o2 sk e h R) := nr rfl
@[simp, simp ↓] theorem c_spec_IdleNodes_3_r : vc2 C (n + 1) [] (.code c_spec_IdleNodes_3 :: sk) e h R = (vc2 C n c_spec_IdleNodes_o3 sk e h R) := nr rfl
@[simp, simp ↓] theorem c_spec_IdleNodes_4_r : vc2 C (n + 1) [] (.code c_spec_IdleNodes_4 :: sk) e h R = (condK (ev e (.t 25)) (vc2 C n [] (.code c_spec_IdleNodes_3 :: sk) e h R) (vc2 C n [] (.code .skip :: sk) e h R)) := nr rfl
@[simp, simp ↓] theorem c_spec_IdleNodes_5_r : vc2 C (n + 1) [] (.code c_spec_IdleNodes_5 :: sk) e h R = (vc2 C n [] (.code c_spec_IdleNodes_2 :: .code c_spec_IdleNodes_4 :: sk) e h R) := nr rfl
@[simp, simp ↓] theorem c_spec_IdleNodes_6_r : vc2 C (n + 1) [] (.code c_spec_IdleNodes_6 :: sk) e h R = (vc2 C n c_spec_IdleNodes_o4 sk e h R) := nr rfl
@[simp, simp ↓] theorem c_spec_IdleNodes_7_r : vc2 C (n + 1) [] (.code c_spec_IdleNodes_7 :: sk) e h R = (vc2 C n c_spec_IdleNodes_o5 sk e h R) := nr rfl
@[simp, simp ↓] theorem c_spec_IdleNodes_8_r : vc2 C (n + 1) [] (.code c_spec_IdleNodes_8 :: sk) e h R = (vc2 C n [] (.code c_spec_IdleNodes_7 :: .code .ret :: sk) e h R) := nr rfl
@[simp, simp ↓] theorem c_spec_IdleNodes_9_r : vc2 C (n + 1) [] (.code c_spec_IdleNodes_9 :: sk) e h R = (condK (ev e (.t 27)) (vc2 C n [] (.code c_spec_IdleNodes_8 :: sk) e h R) (vc2 C n [] (.code .skip :: sk) e h R)) := nr rfl
@[simp, simp ↓] theorem c_spec_IdleNodes_10_r : vc2 C (n + 1) [] (.code c_spec_IdleNodes_10 :: sk) e h R = (vc2 C n [] (.code c_spec_IdleNodes_6 :: .code c_spec_IdleNodes_9 :: sk) e h R) := nr rfl
@[simp, simp ↓] theorem c_spec_IdleNodes_11_r : vc2 C (n + 1) [] (.code c_spec_IdleNodes_11 :: sk) e h R = (vc2 C n c_spec_IdleNodes_o6 sk e h R) := nr rfl
@[simp, simp ↓] theorem c_spec_IdleNodes_12_r : vc2 C (n + 1) [] (.code c_spec_IdleNodes_12 :: sk) e h R = (vc2 C n c_spec_IdleNodes_o7 sk e h R) := nr rfl
@[simp, simp ↓] theorem c_spec_IdleNodes_13_r : vc2 C (n + 1) [] (.code c_spec_IdleNodes_13 :: sk) e h R = (vc2 C n c_spec_IdleNodes_o8 sk e h R) := nr rfl
@[simp, simp ↓] theorem c_spec_IdleNodes_14_r : vc2 C (n + 1) [] (.code c_spec_IdleNodes_14 :: sk) e h R = (condK (ev e (.t 36)) (vc2 C n [] (.code .skip :: sk) e h R) (vc2 C n [] (.code (.exit 0) :: sk) e h R)) := nr rfl
@[simp, simp ↓] theorem c_spec_IdleNodes_15_r : vc2 C (n + 1) [] (.code c_spec_IdleNodes_15 :: sk) e h R = (vc2 C n [] (.code c_spec_IdleNodes_13 :: .code c_spec_IdleNodes_14 :: sk) e h R) := nr rfl
@[simp, simp ↓] theorem c_spec_IdleNodes_16_r : vc2 C (n + 1) [] (.code c_spec_IdleNodes_16 :: sk) e h R = (200 ≤ n ∧ vc2 C n c_spec_IdleNodes_o9 sk e h R) := nr rfl
@[simp, simp ↓] theorem c_spec_IdleNodes_17_r : vc2 C (n + 1) [] (.code c_spec_IdleNodes_17 :: sk) e h R = (vc2 C n c_spec_IdleNodes_o10 sk e h R) := nr rfl
@[simp, simp ↓] theorem c_spec_IdleNodes_18_r : vc2 C (n + 1) [] (.code c_spec_IdleNodes_18 :: sk) e h R = (vc2 C n [] (.code c_spec_IdleNodes_16 :: .code c_spec_IdleNodes_17 :: sk) e h R) := nr rfl
@[simp, simp ↓] theorem c_spec_IdleNodes_19_r : vc2 C (n + 1) [] (.code c_spec_IdleNodes_19 :: sk) e h R = (vc2 C n [] (.code c_spec_IdleNodes_18 :: .inBlock 1 :: sk) e h R) := nr rfl
@[simp, simp ↓] theorem c_spec_IdleNodes_20_r : vc2 C (n + 1) [] (.code c_spec_IdleNodes_20 :: sk) e h R = (vc2 C n c_spec_IdleNodes_o11 sk e h R) := nr rfl
@[simp, simp ↓] theorem c_spec_IdleNodes_21_r : vc2 C (n + 1) [] (.code c_spec_IdleNodes_21 :: sk) e h R = (vc2 C n [] (.code c_spec_IdleNodes_19 :: .code c_spec_IdleNodes_20 :: sk) e h R) := nr rfl
@[simp, simp ↓] theorem c_spec_IdleNodes_22_r : vc2 C (n + 1) [] (.code c_spec_IdleNodes_22 :: sk) e h R = (vc2 C n [] (.code c_spec_IdleNodes_15 :: .code c_spec_IdleNodes_21 :: sk) e h R) := nr rfl
@[simp, simp ↓] theorem c_spec_IdleNodes_23_r : vc2 C (n + 1) [] (.code c_spec_IdleNodes_23 :: sk) e h R = (Run2 C (.code c_spec_IdleNodes_22 :: .inLoop c_spec_IdleNodes_22 :: sk) e h R) := nr rfl
@[simp, simp ↓] theorem c_spec_IdleNodes_24_r : vc2 C (n + 1) [] (.code c_spec_IdleNodes_24 :: sk) e h R = (vc2 C n [] (.code c_spec_IdleNodes_23 :: .inBlock 0 :: sk) e h R) := nr rfl
@[simp, simp ↓] theorem c_spec_IdleNodes_25_r : vc2 C (n + 1) [] (.code c_spec_IdleNodes_25 :: sk) e h R = (vc2 C n [] (.code c_spec_IdleNodes_12 :: .code c_spec_IdleNodes_24 :: sk) e h R) := nr rfl
@[simp, simp ↓] theorem c_spec_IdleNodes_26_r : vc2 C (n + 1) [] (.code c_spec_IdleNodes_26 :: sk) e h R = (vc2 C n c_spec_IdleNodes_o12 sk e h R) := nr rfl
@[simp, simp ↓] theorem c_spec_IdleNodes_27_r : vc2 C (n + 1) [] (.code c_spec_IdleNodes_27 :: sk) e h R = (vc2 C n c_spec_IdleNodes_o13 sk e h R) := nr rfl
@[simp, simp ↓] theorem c_spec_IdleNodes_28_r : vc2 C (n + 1) [] (.code c_spec_IdleNodes_28 :: sk) e h R = (vc2 C n c_spec_IdleNodes_o14 sk e h R) := nr rfl
@[simp, simp ↓] theorem c_spec_IdleNodes_29_r : vc2 C (n + 1) [] (.code c_spec_IdleNodes_29 :: sk) e h R = (condK (ev e (.t 61)) (vc2 C n [] (.code .skip :: sk) e h R) (vc2 C n [] (.code (.exit 2) :: sk) e h R)) := nr rfl
@[simp, simp ↓] theorem c_spec_IdleNodes_30_r : vc2 C (n + 1) [] (.code c_spec_IdleNodes_30 :: sk) e h R = (vc2 C n [] (.code c_spec_IdleNodes_28 :: .code c_spec_IdleNodes_29 :: sk) e h R) := nr rfl
@[simp, simp ↓] theorem c_spec_IdleNodes_31_r : vc2 C (n + 1) [] (.code c_spec_IdleNodes_31 :: sk) e h R = (vc2 C n c_spec_IdleNodes_o15 sk e h R) := nr rfl
@[simp, simp ↓] theorem c_spec_IdleNodes_32_r : vc2 C (n + 1) [] (.code c_spec_IdleNodes_32 :: sk) e h R = (vc2 C n c_spec_IdleNodes_o16 sk e h R) := nr rfl
@[simp, simp ↓] theorem c_spec_IdleNodes_33_r : vc2 C (n + 1) [] (.code c_spec_IdleNodes_33 :: sk) e h R = (condK (ev e (.t 67)) (vc2 C n [] (.code c_spec_IdleNodes_32 :: sk) e h R) (vc2 C n [] (.code .skip :: sk) e h R)) := nr rfl
@[simp, simp ↓] theorem c_spec_IdleNodes_34_r : vc2 C (n + 1) [] (.code c_spec_IdleNodes_34 :: sk) e h R = (vc2 C n [] (.code c_spec_IdleNodes_31 :: .code c_spec_IdleNodes_33 :: sk) e h R) := nr rfl
@[simp, simp ↓] theorem c_spec_IdleNodes_35_r : vc2 C (n + 1) [] (.code c_spec_IdleNodes_35 :: sk) e h R = (vc2 C n [] (.code c_spec_IdleNodes_34 :: .inBlock 3 :: sk) e h R) := nr rfl
@[simp, simp ↓] theorem c_spec_IdleNodes_36_r : vc2 C (n + 1) [] (.code c_spec_IdleNodes_36 :: sk) e h R = (vc2 C n c_spec_IdleNodes_o17 sk e h R) := nr rfl
@[simp, simp ↓] theorem c_spec_IdleNodes_37_r : vc2 C (n + 1) [] (.code c_spec_IdleNodes_37 :: sk) e h R = (vc2 C n [] (.code c_spec_IdleNodes_35 :: .code c_spec_IdleNodes_36 :: sk) e h R) := nr rfl
@[simp, simp ↓] theorem c_spec_IdleNodes_38_r : vc2 C (n + 1) [] (.code c_spec_IdleNodes_38 :: sk) e h R = (vc2 C n [] (.code c_spec_IdleNodes_30 :: .code c_spec_IdleNodes_37 :: sk) e h R) := nr rfl
@[simp, simp ↓] theorem c_spec_IdleNodes_39_r : vc2 C (n + 1) [] (.code c_spec_IdleNodes_39 :: sk) e h R = (Run2 C (.code c_spec_IdleNodes_38 :: .inLoop c_spec_IdleNodes_38 :: sk) e h R) := nr rfl
@[simp, simp ↓] theorem c_spec_IdleNodes_40_r : vc2 C (n + 1) [] (.code c_spec_IdleNodes_40 :: sk) e h R = (vc2 C n [] (.code c_spec_IdleNodes_39 :: .inBlock 2 :: sk) e h R) := nr rfl
@[simp, simp ↓] theorem c_spec_IdleNodes_41_r : vc2 C (n + 1) [] (.code c_spec_IdleNodes_41 :: sk) e h R = (vc2 C n [] (.code c_spec_IdleNodes_27 :: .code c_spec_IdleNodes_40 :: sk) e h R) := nr rfl
@[simp, simp ↓] theorem c_spec_IdleNodes_42_r : vc2 C (n + 1) [] (.code c_spec_IdleNodes_42 :: sk) e h R = (vc2 C n c_spec_IdleNodes_o18 sk e h R) := nr rfl
@[simp, simp ↓] theorem c_spec_IdleNodes_43_r : vc2 C (n + 1) [] (.code c_spec_IdleNodes_43 :: sk) e h R = (vc2 C n [] (.code c_spec_IdleNodes_42 :: .code .ret :: sk) e h R) := nr rfl
@[simp, simp ↓] theorem c_spec_IdleNodes_44_r : vc2 C (n + 1) [] (.code c_spec_IdleNodes_44 :: sk) e h R = (vc2 C n [] (.code c_spec_IdleNodes_41 :: .code c_spec_IdleNodes_43 :: sk) e h R) := nr rfl
@[simp, simp ↓] theorem c_spec_IdleNodes_45_r : vc2 C (n + 1) [] (.code c_spec_IdleNodes_45 :: sk) e h R = (vc2 C n [] (.code c_spec_IdleNodes_26 :: .code c_spec_IdleNodes_44 :: sk) e h R) := nr rfl
@[simp, simp ↓] theorem c_spec_IdleNodes_46_r : vc2 C (n + 1) [] (.code c_spec_IdleNodes_46 :: sk) e h R = (vc2 C n [] (.code c_spec_IdleNodes_25 :: .code c_spec_IdleNodes_45 :: sk) e h R) := nr rfl
@[simp, simp ↓] theorem c_spec_IdleNodes_47_r : vc2 C (n + 1) [] (.code c_spec_IdleNodes_47 :: sk) e h R = (vc2 C n [] (.code c_spec_IdleNodes_11 :: .code c_spec_IdleNodes_46 :: sk) e h R) := nr rfl
@[simp, simp ↓] theorem c_spec_IdleNodes_48_r : vc2 C (n + 1) [] (.code c_spec_IdleNodes_48 :: sk) e h R = (vc2 C n [] (.code c_spec_IdleNodes_10 :: .code c_spec_IdleNodes_47 :: sk) e h R) := nr rfl
@[simp, simp ↓] theorem c_spec_IdleNodes_49_r : vc2 C (n + 1) [] (.code c_spec_IdleNodes_49 :: sk) e h R = (vc2 C n [] (.code c_spec_IdleNodes_5 :: .code c_spec_IdleNodes_48 :: sk) e h R) := nr rfl
@[simp, simp ↓] theorem c_spec_IdleNodes_50_r : vc2 C (n + 1) [] (.code c_spec_IdleNodes_50 :: sk) e h R = (vc2 C n [] (.code c_spec_IdleNodes_1 :: .code c_spec_IdleNodes_49 :: sk) e h R) := nr rfl
@[simp, simp ↓] theorem c_spec_IdleNodes_51_r : vc2 C (n + 1) [] (.code c_spec_IdleNodes_51 :: sk) e h R = (vc2 C n [] (.code c_spec_IdleNodes_0 :: .code c_spec_IdleNodes_50 :: sk) e h R) := nr rfl
end
noncomputable def c_spec_IdleNodes_C (orc : Orc) : Cx := ⟨Try.prog, [11, 29, 57], 34, 73, [.tmp 6, .tmp 7], orc⟩
@[simp] theorem c_spec_IdleNodes_C_P (orc : Orc) : (c_spec_IdleNodes_C orc).P = Try.prog := nr rfl
@[simp] theorem c_spec_IdleNodes_C_o (orc : Orc) : (c_spec_IdleNodes_C orc).orc = orc := nr rfl
@[simp] theorem c_spec_IdleNodes_C_r (orc : Orc) : (c_spec_IdleNodes_C orc).res = [.tmp 6, .tmp 7] := nr rfl
theorem c_spec_IdleNodes_of {args : List AV} {h : Heap} {R : AV → Heap → Prop} {k : Nat} (ha : args.length = k) {orc : Orc} (hp : Pure Try.prog orc) (hk : Is (c_spec_IdleNodes_C orc) Try.f34 → Run2 (c_spec_IdleNodes_C orc) [.code c_spec_IdleNodes_51] (argEnv 0 args) h (Post R)) (hle : k ≤ 73 := by simp) : ACalls Try.prog 34 args h R :=
  contract2 [11, 29, 57] c_spec_IdleNodes_51 [.tmp 6, .tmp 7] Try.func34 (by decide +kernel) rfl (by kernel_rfl) (by rw [ha]; exact hle) (by kernel_rfl) hp hk
theorem c_spec_IdleNodes_of0 {args : List AV} {h : Heap} {R : AV → Heap → Prop} {k : Nat} (ha : args.length = k) {orc : Orc} (hp : Pure Try.prog orc) (hk : Is (c_spec_IdleNodes_C orc) Try.f34 → Run2 (c_spec_IdleNodes_C orc) [.code c_spec_IdleNodes_51] (argEnv 0 args) h R) (hle : k ≤ 73 := by simp) : ACalls Try.prog 34 args h R :=
  contract20 [11, 29, 57] c_spec_IdleNodes_51 [.tmp 6, .tmp 7] Try.func34 (by decide +kernel) rfl (by kernel_rfl) (by rw [ha]; exact hle) (by kernel_rfl) hp hk
theorem specIdle_c (x : Gr) (rs : List (List Int)) (k : Int) (h : Heap) (hl : x.ts.length ≤ 1048576) (ok : x.ok) (hr : ssTot rs ≤ 1048576) : ACalls Try.prog 34 [x.av, .snap 1 (rs.map il), .int .i64 k] h (fun v h' => v = .tup [.snap 1 ((x.idle rs k).map iv), .int .i64 (x.iCode rs k)] ∧ h' = h) := by
  have hn := (fit_of_tot hr).1
  refine c_spec_IdleNodes_of rfl (lk_pure o_l00In_k orcJ_p) fun I => ?_
  refine Run2.of I 1000 ?_
  by_cases hs : x.sCode rs = 0
  · by_cases hk : 0 ≤ k ∧ k < rs.length
    · have hc : x.iCode rs k = 0 := by simp [Gr.iCode, hs, hk]
      have hid : x.idle rs k = (upto x.n.toNat).filter fun a => !decide (a ∈ x.busy (rs.getD k.toNat [])) := by simp [Gr.idle, hc]
      obtain ⟨⟨hv, hrs⟩, _⟩ := Gr.iCode_ok hc
      have hkn : k.toNat < rs.length := by omega
      have hgd : rs.getD k.toNat [] = rs[k.toNat] := by simp [hkn]
      have hrok := hrs.1 _ (List.getElem_mem hkn)
      have hrl := (fit_of_tot hr).2 _ (List.getElem_mem hkn)
      have hr24 : rs[k.toNat].length ≤ 24 := by
        have h1 := len_sumL (List.getElem_mem hkn)
        have h2 := hrs.2.2
        have h3 := hv.le
        rw [sumL_flatten] at h2
        omega
      rw [hgd] at hid
      have hk1 : k ≤ (rs.length : Int) - 1 := by omega
      have hk0 := hk.1
      rw [hc, hid]
      generalize hr0 : rs[k.toNat] = r at *
      simp -implicitDefEqProofs [hl, ok, hr, hs, hk.1, hk1, hkn, hr0]
      refine ⟨by omega, ?_⟩
      refine Run2.loopE (α := Nat × AV × Heap) (fun s => [(1, .snap 1 (rs.map il)), (2, .int .i64 k), (3, .ip [.int .i64 x.n, .snap 3 (x.ts.map T.av)]), (9, s.2.1), (10, .int .i64 (s.1 : Nat))]) (fun s => s.2.2 ++ h) (fun s => r.length - s.1) (fun s => s.1 ≤ r.length ∧ Grow 1 s.2.1 ((x.busy (r.take s.1)).map iv) s.2.2) (0, .emp, []) (by simp) rfl ⟨Nat.zero_le _, by simpa [Gr.busy] using Grow.emp⟩ ?_
      rintro ⟨j, w, hp⟩ ⟨hj, hg⟩ ih
      simp only at hj hg
      have hcell := hg.cell
      by_cases hlt : j < r.length
      · have hin : x.inR r[j] := hrok.2.2.1 _ (List.getElem_mem hlt)
        obtain ⟨e1, e2⟩ := Gr.e_at hin
        have e0 := hin.1
        have hbl := x.busy_len (r.take j)
        have go := fun w' hp' (g : Grow 1 w' ((x.busy (r.take j)).map iv ++ [.int .i64 (x.e r[j]).f, .int .i64 (x.e r[j]).t]) hp') => ih (j + 1, w', hp') ⟨hlt, by simp only; rw [Gr.busy_succ x r hlt]; simpa using g⟩ (by simp; omega)
        rw [e2] at go
        clear ih
        refine Run2.of I 1000 ?_
        simp -implicitDefEqProofs [hlt, hcell, e0, e1, hk0, hkn, hr0]
        refine hg.app (by rw [List.length_map, hbl]; simp; omega) (by simp) fun w' hp' hg' => ?_
        have hcell' := hg'.cell
        simp -implicitDefEqProofs [hcell']
        refine ⟨by omega, ?_⟩
        simpa using go w' hp' hg'
      · obtain rfl : j = r.length := by omega
        rw [List.take_length] at hg
        have hbl := x.busy_len r
        have hn2 := hv.2.1
        have hn1 := hv.1
        refine Run2.of I 1000 ?_
        simp -implicitDefEqProofs [hcell, hk0, hkn, hr0]
        refine Run2.loopE (α := Nat × AV × Heap) (fun s => [(3, .ip [.int .i64 x.n, .snap 3 (x.ts.map T.av)]), (9, w), (12, s.2.1), (13, .int .i64 (s.1 : Nat))]) (fun s => s.2.2 ++ (hp ++ h)) (fun s => x.n.toNat - s.1) (fun s => s.1 ≤ x.n.toNat ∧ Grow 1 s.2.1 (((upto s.1).filter fun a => !decide (a ∈ x.busy r)).map iv) s.2.2) (0, .emp, []) (by simp) rfl ⟨Nat.zero_le _, by simpa [upto] using Grow.emp⟩ ?_
        rintro ⟨i, w2, hp2⟩ ⟨hi, hg2⟩ ih2
        simp only at hi hg2
        have hcell2 := hg2.cell
        by_cases hlt2 : i < x.n.toNat
        · have hin2 : (i : Int) < x.n := by omega
          have hfl : ((upto i).filter fun a => !decide (a ∈ x.busy r)).length ≤ i := Nat.le_trans (List.length_filter_le _ _) (by simp)
          have hfs : (upto (i + 1)).filter (fun a => !decide (a ∈ x.busy r)) = (upto i).filter (fun a => !decide (a ∈ x.busy r)) ++ if (i : Int) ∈ x.busy r then [] else [(i : Int)] := by
            rw [upto_succ, List.filter_append]
            congr 1
            by_cases hm : (i : Int) ∈ x.busy r <;> simp [hm]
          refine Run2.of I 1000 ?_
          simp -implicitDefEqProofs [hcell, hcell2, hin2]
          refine (ACalls.reads hp (fun p hp => List.mem_append_right _ (List.mem_append_left _ hp)) (v0 := .bool (decide ((i : Int) ∈ x.busy r))) ?_ rfl).mono ?_
          · rw [lend_cons, lend_cons, lend_nil', lend1_cold hp (x := .int .i64 i) rfl]
            exact ACalls.wk (.cons hg.own.lent.wk (.refl _)) (l00Has_s _ _ [] (by omega))
          rintro v h' ⟨rfl, rfl⟩
          refine gK.go ?_
          by_cases hm : (i : Int) ∈ x.busy r
          · have go := ih2 (i + 1, w2, hp2) ⟨hlt2, by simp only; rw [hfs, if_pos hm, List.append_nil]; exact hg2⟩ (by simp; omega)
            simp -implicitDefEqProofs [hm, hcell, hcell2]
            refine ⟨by omega, ?_⟩
            simpa using go
          · have go := fun w' hp' (g : Grow 1 w' (((upto i).filter (fun a => !decide (a ∈ x.busy r))).map iv ++ [.int .i64 i]) hp') => ih2 (i + 1, w', hp') ⟨hlt2, by simp only; rw [hfs, if_neg hm, List.map_append]; exact g⟩ (by simp; omega)
            simp -implicitDefEqProofs [hm, hcell, hcell2]
            refine hg2.app (by rw [List.length_map]; simp; omega) (by simp) fun w' hp' hg' => ?_
            have hcell' := hg'.cell
            simp -implicitDefEqProofs [hcell']
            refine ⟨by omega, ?_⟩
            simpa using go w' hp' hg'
        · have hie : i = x.n.toNat := by omega
          subst hie
          have hin2 : ¬ ((x.n.toNat : Int) < x.n) := by omega
          refine Run2.of I 1000 ?_
          simp -implicitDefEqProofs [hcell2, hin2]
          refine ⟨fun h => by exfalso; omega, fun _ => ?_⟩
          exact hg2.froze (fun x => .tup [x, .int .i64 0]) (fun id b x => by simp [fz, fzs]) (fun x y hxy => Wk.tup (.cons hxy (.cons (.refl _) .nil))) (hg.dropped (.base ⟨rfl, rfl⟩))
    · have hc : x.iCode rs k = 2 := by simp [Gr.iCode, hs, hk]
      have hid : x.idle rs k = [] := by simp [Gr.idle, hc]
      simp -implicitDefEqProofs [hl, ok, hr, hs, hc, hid]
      refine ⟨by omega, fun _ => .wk (Wk.tup (.cons (Wk.nil 1) (.refl _))) (.base ⟨rfl, rfl⟩), fun h1 h2 => by exfalso; omega⟩
  · have hc : x.iCode rs k = x.sCode rs := by simp [Gr.iCode, hs]
    have hid : x.idle rs k = [] := by simp [Gr.idle, hc, hs]
    simp -implicitDefEqProofs [hl, ok, hr, hs, hc, hid]
    exact .wk (Wk.tup (.cons (Wk.nil 1) (.refl _))) (.base ⟨rfl, rfl⟩)
end Go.AG
