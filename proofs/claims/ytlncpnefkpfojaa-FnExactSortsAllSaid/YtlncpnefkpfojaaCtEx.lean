/- Values that are exchanged: what the program's and the reference's functions give. No statement is made here. -/
import Derived.Test.YtlncpnefkpfojaaCtX
namespace Go.AG
open Go.Proofs Go.Proofs.Ytlncpnefkpfojaa
set_option linter.unusedSimpArgs false
set_option linter.unusedVariables false
set_option maxRecDepth 4000
/-- The lesser value to the one node, the greater to the other. -/
def exch (l : List Int) (e : T) : List Int := (l.set e.f.toNat (min (l.getD e.f.toNat 0) (l.getD e.t.toNat 0))).set e.t.toNat (max (l.getD e.f.toNat 0) (l.getD e.t.toNat 0))
@[simp] theorem exch_length (l : List Int) (e : T) : (exch l e).length = l.length := by simp [exch]
theorem exch_iv (l : List Int) (e : T) (hf : e.f.toNat < l.length) (ht : e.t.toNat < l.length) : ((l.map iv).set e.f.toNat (.int .i64 (min l[e.f.toNat] l[e.t.toNat]))).set e.t.toNat (.int .i64 (max l[e.f.toNat] l[e.t.toNat])) = (exch l e).map iv := by
  unfold exch
  rw [getD_at hf, getD_at ht, List.map_set, List.map_set]
  rfl
abbrev c_impl_exchanged_1_o0 : List AJ := [.o ⟨(some 2), none, false, .box false 3 (.t 0), (some [1, 2])⟩]
def c_impl_exchanged_1_0 : ACode := .region c_impl_exchanged_1_o0
abbrev c_impl_exchanged_1_o1 : List AI := [⟨(some 5), none, false, .load 1 false (.t 1), none⟩, ⟨(some 6), none, false, .fieldA 0 (.t 2), none⟩, ⟨(some 7), none, false, .load 1 false (.t 6), none⟩, ⟨(some 8), none, false, .idxA 1 (.t 5) (.t 7), none⟩, ⟨(some 9), none, false, .load 1 false (.t 8), none⟩, ⟨(some 10), none, false, .load 1 false (.t 1), none⟩, ⟨(some 11), none, false, .fieldA 1 (.t 2), none⟩, ⟨(some 12), none, false, .load 1 false (.t 11), none⟩, ⟨(some 13), none, false, .idxA 1 (.t 10) (.t 12), none⟩, ⟨(some 14), none, false, .load 1 false (.t 13), none⟩, ⟨(some 3), none, false, .mv (.t 9), none⟩, ⟨(some 4), none, false, .mv (.t 14), (some [1, 2, 3, 4])⟩]
def c_impl_exchanged_1_1 : ACode := .draw c_impl_exchanged_1_o1 [] rfl
abbrev c_impl_exchanged_1_o2 : List AJ := [.o ⟨(some 15), none, true, .load 1 false (.t 1), none⟩, .o ⟨(some 16), none, false, .fieldA 0 (.t 2), none⟩, .o ⟨(some 17), none, true, .load 1 false (.t 16), none⟩, .o ⟨(some 18), none, true, .load 1 false (.t 1), none⟩, .o ⟨(some 19), none, false, .fieldA 1 (.t 2), none⟩, .o ⟨(some 20), none, true, .load 1 false (.t 19), none⟩, .o ⟨(some 21), none, false, .mv (.t 3), none⟩, .o ⟨(some 22), none, false, .mv (.t 4), none⟩, .o ⟨(some 23), none, false, .mx false [(.t 21), (.t 22)], none⟩, .o ⟨(some 24), none, false, .mv (.t 3), none⟩, .o ⟨(some 25), none, false, .mv (.t 4), none⟩, .o ⟨(some 26), none, false, .mx true [(.t 24), (.t 25)], none⟩, .o ⟨(some 27), none, false, .idxA 1 (.t 15) (.t 17), none⟩, .o ⟨none, none, false, .store 1 (.t 27) (.t 23), (some [18, 20, 26])⟩, .o ⟨(some 28), none, false, .idxA 1 (.t 18) (.t 20), none⟩, .o ⟨none, none, false, .store 1 (.t 28) (.t 26), (some [])⟩]
def c_impl_exchanged_1_2 : ACode := .drawT 2 c_impl_exchanged_1_o2 rfl
def c_impl_exchanged_1_3 : ACode := .seq c_impl_exchanged_1_1 c_impl_exchanged_1_2
def c_impl_exchanged_1_4 : ACode := .seq c_impl_exchanged_1_0 c_impl_exchanged_1_3
section
variable (C : Cx) (n : Nat) (sk : List AItem) (e : Env) (h : Heap) (R : AV → Heap → Prop)
@[simp, simp ↓] theorem c_impl_exchanged_1_0_r : vc2 C (n + 1) [] (.code c_impl_exchanged_1_0 :: sk) e h R = (vc2 C n c_impl_exchanged_1_o0 sk e h R) := nr rfl
@[simp, simp ↓] theorem c_impl_exchanged_1_1_r : vc2 C (n + 1) [] (.code c_impl_exchanged_1_1 :: sk) e h R = (draw2 C h (vK C n [] sk R h) c_impl_exchanged_1_o1 e) := nr rfl
@[simp, simp ↓] theorem c_impl_exchanged_1_2_r : vc2 C (n + 1) [] (.code c_impl_exchanged_1_2 :: sk) e h R = (200 ≤ n ∧ vc2 C n c_impl_exchanged_1_o2 sk e h R) := nr rfl
@[simp, simp ↓] theorem c_impl_exchanged_1_3_r : vc2 C (n + 1) [] (.code c_impl_exchanged_1_3 :: sk) e h R = (vc2 C n [] (.code c_impl_exchanged_1_1 :: .code c_impl_exchanged_1_2 :: sk) e h R) := nr rfl
@[simp, simp ↓] theorem c_impl_exchanged_1_4_r : vc2 C (n + 1) [] (.code c_impl_exchanged_1_4 :: sk) e h R = (vc2 C n [] (.code c_impl_exchanged_1_0 :: .code c_impl_exchanged_1_3 :: sk) e h R) := nr rfl
end
noncomputable def c_impl_exchanged_1_C (orc : Orc) : Cx := ⟨Try.prog, [], 121, 29, [], orc⟩
@[simp] theorem c_impl_exchanged_1_C_P (orc : Orc) : (c_impl_exchanged_1_C orc).P = Try.prog := nr rfl
@[simp] theorem c_impl_exchanged_1_C_o (orc : Orc) : (c_impl_exchanged_1_C orc).orc = orc := nr rfl
@[simp] theorem c_impl_exchanged_1_C_r (orc : Orc) : (c_impl_exchanged_1_C orc).res = [] := nr rfl
theorem c_impl_exchanged_1_of {args : List AV} {h : Heap} {R : AV → Heap → Prop} {k : Nat} (ha : args.length = k) {orc : Orc} (hp : Pure Try.prog orc) (hk : Is (c_impl_exchanged_1_C orc) Try.f121 → Run2 (c_impl_exchanged_1_C orc) [.code c_impl_exchanged_1_4] (argEnv 0 args) h (Post R)) (hle : k ≤ 29 := by simp) : ACalls Try.prog 121 args h R :=
  contract2 [] c_impl_exchanged_1_4 [] Try.func121 (by decide +kernel) rfl (by kernel_rfl) (by rw [ha]; exact hle) (by kernel_rfl) hp hk
theorem c_impl_exchanged_1_of0 {args : List AV} {h : Heap} {R : AV → Heap → Prop} {k : Nat} (ha : args.length = k) {orc : Orc} (hp : Pure Try.prog orc) (hk : Is (c_impl_exchanged_1_C orc) Try.f121 → Run2 (c_impl_exchanged_1_C orc) [.code c_impl_exchanged_1_4] (argEnv 0 args) h R) (hle : k ≤ 29 := by simp) : ACalls Try.prog 121 args h R :=
  contract20 [] c_impl_exchanged_1_4 [] Try.func121 (by decide +kernel) rfl (by kernel_rfl) (by rw [ha]; exact hle) (by kernel_rfl) hp hk
theorem exchanged1_c (id : Nat) (l : List Int) (e : T) (h0 : 0 ≤ e.f ∧ 0 ≤ e.t) (hf : e.f.toNat < l.length) (ht : e.t.toNat < l.length) : ACalls Try.prog 121 (e.av :: [.ip [.sl id 1 0 l.length none]]) [(id, ⟨1, l.map iv⟩)] (fun v h' => v = .tup [] ∧ h' = [(id, ⟨1, (exch l e).map iv⟩)]) := by
  refine c_impl_exchanged_1_of0 rfl noPure fun I => ?_
  have he := exch_iv l e hf ht
  refine Run2.of I 1000 ?_
  simp -implicitDefEqProofs [h0.1, h0.2, hf, ht, he]
  exact ⟨by omega, by omega⟩
/-- Values of a graph's nodes. -/
def vIn (v : List Int) : Prop := ∀ a ∈ v, -1000000 ≤ a ∧ a ≤ 1000000
noncomputable instance (v : List Int) : Decidable (vIn v) := Classical.propDecidable _
def Gr.vecG (x : Gr) (v : List Int) : Prop := (v.length : Int) = x.n ∧ vIn v
noncomputable instance (x : Gr) (v : List Int) : Decidable (x.vecG v) := Classical.propDecidable _
abbrev c_impl_size1_int64_o0 : List AJ := [.o ⟨(some 2), none, false, .mv (.c (.int .i64 0)), (some [0])⟩]
def c_impl_size1_int64_0 : ACode := .region c_impl_size1_int64_o0
abbrev c_impl_size1_int64_o1 : List AJ := [.o ⟨(some 3), none, false, .mv (.t 0), none⟩, .o ⟨(some 4), none, false, .len (.t 3), none⟩, .o ⟨(some 2), none, false, .mv (.t 4), (some [2])⟩]
def c_impl_size1_int64_1 : ACode := .region c_impl_size1_int64_o1
def c_impl_size1_int64_2 : ACode := .seq c_impl_size1_int64_1 .ret
def c_impl_size1_int64_3 : ACode := .seq c_impl_size1_int64_0 c_impl_size1_int64_2
section
variable (C : Cx) (n : Nat) (sk : List AItem) (e : Env) (h : Heap) (R : AV → Heap → Prop)
@[simp, simp ↓] theorem c_impl_size1_int64_0_r : vc2 C (n + 1) [] (.code c_impl_size1_int64_0 :: sk) e h R = (vc2 C n c_impl_size1_int64_o0 sk e h R) := nr rfl
@[simp, simp ↓] theorem c_impl_size1_int64_1_r : vc2 C (n + 1) [] (.code c_impl_size1_int64_1 :: sk) e h R = (vc2 C n c_impl_size1_int64_o1 sk e h R) := nr rfl
@[simp, simp ↓] theorem c_impl_size1_int64_2_r : vc2 C (n + 1) [] (.code c_impl_size1_int64_2 :: sk) e h R = (vc2 C n [] (.code c_impl_size1_int64_1 :: .code .ret :: sk) e h R) := nr rfl
@[simp, simp ↓] theorem c_impl_size1_int64_3_r : vc2 C (n + 1) [] (.code c_impl_size1_int64_3 :: sk) e h R = (vc2 C n [] (.code c_impl_size1_int64_0 :: .code c_impl_size1_int64_2 :: sk) e h R) := nr rfl
end
noncomputable def c_impl_size1_int64_C (orc : Orc) : Cx := ⟨Try.prog, [], 126, 5, [.tmp 2], orc⟩
@[simp] theorem c_impl_size1_int64_C_P (orc : Orc) : (c_impl_size1_int64_C orc).P = Try.prog := nr rfl
@[simp] theorem c_impl_size1_int64_C_o (orc : Orc) : (c_impl_size1_int64_C orc).orc = orc := nr rfl
@[simp] theorem c_impl_size1_int64_C_r (orc : Orc) : (c_impl_size1_int64_C orc).res = [.tmp 2] := nr rfl
theorem c_impl_size1_int64_of {args : List AV} {h : Heap} {R : AV → Heap → Prop} {k : Nat} (ha : args.length = k) {orc : Orc} (hp : Pure Try.prog orc) (hk : Is (c_impl_size1_int64_C orc) Try.f126 → Run2 (c_impl_size1_int64_C orc) [.code c_impl_size1_int64_3] (argEnv 0 args) h (Post R)) (hle : k ≤ 5 := by simp) : ACalls Try.prog 126 args h R :=
  contract2 [] c_impl_size1_int64_3 [.tmp 2] Try.func126 (by decide +kernel) rfl (by kernel_rfl) (by rw [ha]; exact hle) (by kernel_rfl) hp hk
theorem c_impl_size1_int64_of0 {args : List AV} {h : Heap} {R : AV → Heap → Prop} {k : Nat} (ha : args.length = k) {orc : Orc} (hp : Pure Try.prog orc) (hk : Is (c_impl_size1_int64_C orc) Try.f126 → Run2 (c_impl_size1_int64_C orc) [.code c_impl_size1_int64_3] (argEnv 0 args) h R) (hle : k ≤ 5 := by simp) : ACalls Try.prog 126 args h R :=
  contract20 [] c_impl_size1_int64_3 [.tmp 2] Try.func126 (by decide +kernel) rfl (by kernel_rfl) (by rw [ha]; exact hle) (by kernel_rfl) hp hk
theorem sizeI_s (l : List Int) (h : Heap) : ACalls Try.prog 126 [.snap 1 (l.map iv)] h (fun v h' => v = .int .i64 l.length ∧ h' = h) := by
  refine c_impl_size1_int64_of0 rfl noPure fun I => ?_
  refine Run2.of I 1000 ?_
  simp -implicitDefEqProofs
abbrev c_impl_isGraphVector_1_o0 : List AJ := [.o ⟨(some 2), none, false, .mv (.c (.bool false)), (some [0])⟩]
def c_impl_isGraphVector_1_0 : ACode := .region c_impl_isGraphVector_1_o0
abbrev c_impl_isGraphVector_1_o1 : List AJ := [.o ⟨(some 3), none, false, .mv (.t 0), none⟩, .o ⟨(some 4), none, false, .call 104 [(.t 3), (.c (.int .i64 (-1000000))), (.c (.int .i64 1000000))], none⟩, .o ⟨(some 5), none, false, .un .not (.t 4), none⟩, .o ⟨(some 2), none, false, .mv (.t 5), (some [2])⟩]
def c_impl_isGraphVector_1_1 : ACode := .region c_impl_isGraphVector_1_o1
def c_impl_isGraphVector_1_2 : ACode := .seq c_impl_isGraphVector_1_1 .ret
def c_impl_isGraphVector_1_3 : ACode := .seq c_impl_isGraphVector_1_0 c_impl_isGraphVector_1_2
section
variable (C : Cx) (n : Nat) (sk : List AItem) (e : Env) (h : Heap) (R : AV → Heap → Prop)
@[simp, simp ↓] theorem c_impl_isGraphVector_1_0_r : vc2 C (n + 1) [] (.code c_impl_isGraphVector_1_0 :: sk) e h R = (vc2 C n c_impl_isGraphVector_1_o0 sk e h R) := nr rfl
@[simp, simp ↓] theorem c_impl_isGraphVector_1_1_r : vc2 C (n + 1) [] (.code c_impl_isGraphVector_1_1 :: sk) e h R = (vc2 C n c_impl_isGraphVector_1_o1 sk e h R) := nr rfl
@[simp, simp ↓] theorem c_impl_isGraphVector_1_2_r : vc2 C (n + 1) [] (.code c_impl_isGraphVector_1_2 :: sk) e h R = (vc2 C n [] (.code c_impl_isGraphVector_1_1 :: .code .ret :: sk) e h R) := nr rfl
@[simp, simp ↓] theorem c_impl_isGraphVector_1_3_r : vc2 C (n + 1) [] (.code c_impl_isGraphVector_1_3 :: sk) e h R = (vc2 C n [] (.code c_impl_isGraphVector_1_0 :: .code c_impl_isGraphVector_1_2 :: sk) e h R) := nr rfl
end
noncomputable def c_impl_isGraphVector_1_C (orc : Orc) : Cx := ⟨Try.prog, [], 127, 6, [.tmp 2], orc⟩
@[simp] theorem c_impl_isGraphVector_1_C_P (orc : Orc) : (c_impl_isGraphVector_1_C orc).P = Try.prog := nr rfl
@[simp] theorem c_impl_isGraphVector_1_C_o (orc : Orc) : (c_impl_isGraphVector_1_C orc).orc = orc := nr rfl
@[simp] theorem c_impl_isGraphVector_1_C_r (orc : Orc) : (c_impl_isGraphVector_1_C orc).res = [.tmp 2] := nr rfl
theorem c_impl_isGraphVector_1_of {args : List AV} {h : Heap} {R : AV → Heap → Prop} {k : Nat} (ha : args.length = k) {orc : Orc} (hp : Pure Try.prog orc) (hk : Is (c_impl_isGraphVector_1_C orc) Try.f127 → Run2 (c_impl_isGraphVector_1_C orc) [.code c_impl_isGraphVector_1_3] (argEnv 0 args) h (Post R)) (hle : k ≤ 6 := by simp) : ACalls Try.prog 127 args h R :=
  contract2 [] c_impl_isGraphVector_1_3 [.tmp 2] Try.func127 (by decide +kernel) rfl (by kernel_rfl) (by rw [ha]; exact hle) (by kernel_rfl) hp hk
theorem c_impl_isGraphVector_1_of0 {args : List AV} {h : Heap} {R : AV → Heap → Prop} {k : Nat} (ha : args.length = k) {orc : Orc} (hp : Pure Try.prog orc) (hk : Is (c_impl_isGraphVector_1_C orc) Try.f127 → Run2 (c_impl_isGraphVector_1_C orc) [.code c_impl_isGraphVector_1_3] (argEnv 0 args) h R) (hle : k ≤ 6 := by simp) : ACalls Try.prog 127 args h R :=
  contract20 [] c_impl_isGraphVector_1_3 [.tmp 2] Try.func127 (by decide +kernel) rfl (by kernel_rfl) (by rw [ha]; exact hle) (by kernel_rfl) hp hk
theorem isGV1_c (a : Int) (h : Heap) : ACalls Try.prog 127 [.int .i64 a] h (fun v h' => v = .bool (!decide (-1000000 ≤ a ∧ a ≤ 1000000)) ∧ h' = h) := by
  refine c_impl_isGraphVector_1_of0 rfl orc1_p fun I => ?_
  refine Run2.of I 1000 ?_
  simp -implicitDefEqProofs
abbrev c_impl_isGraphVector_o0 : List AJ := [.o ⟨(some 2), none, false, .box false 2 (.t 0), none⟩, .o ⟨(some 4), none, false, .mv (.c (.bool false)), (some [1, 2])⟩]
def c_impl_isGraphVector_0 : ACode := .region c_impl_isGraphVector_o0
abbrev c_impl_isGraphVector_o1 : List AI := [⟨(some 5), none, false, .mv (.t 1), none⟩, ⟨(some 6), none, false, .call 126 [(.t 5)], none⟩, ⟨(some 7), none, false, .fieldA 0 (.t 2), none⟩, ⟨(some 8), none, false, .load 1 false (.t 7), none⟩, ⟨(some 9), none, false, .bin .eql (.t 6) (.t 8), none⟩, ⟨(some 10), none, false, .mv (.t 9), none⟩, ⟨(some 11), (some (10, true)), false, .mv (.t 1), none⟩, ⟨(some 12), (some (10, true)), false, .call 108 [(.t 11), (.c (.fn 127 []))], none⟩, ⟨(some 13), (some (10, true)), false, .un .not (.t 12), none⟩, ⟨(some 14), none, false, .pick (.t 10) (.t 13) (.c (.bool false)), none⟩, ⟨(some 4), none, false, .mv (.t 14), (some [4])⟩]
def c_impl_isGraphVector_1 : ACode := .draw c_impl_isGraphVector_o1 [] rfl
def c_impl_isGraphVector_2 : ACode := .seq c_impl_isGraphVector_1 .ret
def c_impl_isGraphVector_3 : ACode := .seq c_impl_isGraphVector_0 c_impl_isGraphVector_2
section
variable (C : Cx) (n : Nat) (sk : List AItem) (e : Env) (h : Heap) (R : AV → Heap → Prop)
@[simp, simp ↓] theorem c_impl_isGraphVector_0_r : vc2 C (n + 1) [] (.code c_impl_isGraphVector_0 :: sk) e h R = (vc2 C n c_impl_isGraphVector_o0 sk e h R) := nr rfl
@[simp, simp ↓] theorem c_impl_isGraphVector_1_r : vc2 C (n + 1) [] (.code c_impl_isGraphVector_1 :: sk) e h R = (draw2 C h (vK C n [] sk R h) c_impl_isGraphVector_o1 e) := nr rfl
@[simp, simp ↓] theorem c_impl_isGraphVector_2_r : vc2 C (n + 1) [] (.code c_impl_isGraphVector_2 :: sk) e h R = (vc2 C n [] (.code c_impl_isGraphVector_1 :: .code .ret :: sk) e h R) := nr rfl
@[simp, simp ↓] theorem c_impl_isGraphVector_3_r : vc2 C (n + 1) [] (.code c_impl_isGraphVector_3 :: sk) e h R = (vc2 C n [] (.code c_impl_isGraphVector_0 :: .code c_impl_isGraphVector_2 :: sk) e h R) := nr rfl
end
noncomputable def c_impl_isGraphVector_C (orc : Orc) : Cx := ⟨Try.prog, [], 92, 15, [.tmp 4], orc⟩
@[simp] theorem c_impl_isGraphVector_C_P (orc : Orc) : (c_impl_isGraphVector_C orc).P = Try.prog := nr rfl
@[simp] theorem c_impl_isGraphVector_C_o (orc : Orc) : (c_impl_isGraphVector_C orc).orc = orc := nr rfl
@[simp] theorem c_impl_isGraphVector_C_r (orc : Orc) : (c_impl_isGraphVector_C orc).res = [.tmp 4] := nr rfl
theorem c_impl_isGraphVector_of {args : List AV} {h : Heap} {R : AV → Heap → Prop} {k : Nat} (ha : args.length = k) {orc : Orc} (hp : Pure Try.prog orc) (hk : Is (c_impl_isGraphVector_C orc) Try.f92 → Run2 (c_impl_isGraphVector_C orc) [.code c_impl_isGraphVector_3] (argEnv 0 args) h (Post R)) (hle : k ≤ 15 := by simp) : ACalls Try.prog 92 args h R :=
  contract2 [] c_impl_isGraphVector_3 [.tmp 4] Try.func92 (by decide +kernel) rfl (by kernel_rfl) (by rw [ha]; exact hle) (by kernel_rfl) hp hk
theorem c_impl_isGraphVector_of0 {args : List AV} {h : Heap} {R : AV → Heap → Prop} {k : Nat} (ha : args.length = k) {orc : Orc} (hp : Pure Try.prog orc) (hk : Is (c_impl_isGraphVector_C orc) Try.f92 → Run2 (c_impl_isGraphVector_C orc) [.code c_impl_isGraphVector_3] (argEnv 0 args) h R) (hle : k ≤ 15 := by simp) : ACalls Try.prog 92 args h R :=
  contract20 [] c_impl_isGraphVector_3 [.tmp 4] Try.func92 (by decide +kernel) rfl (by kernel_rfl) (by rw [ha]; exact hle) (by kernel_rfl) hp hk
theorem isGV_c (x : Gr) (v : List Int) (h : Heap) (hl : v.length ≤ 1048576) : ACalls Try.prog 92 [x.av, .snap 1 (v.map iv)] h (fun r h' => r = .bool (decide (x.vecG v)) ∧ h' = h) := by
  refine c_impl_isGraphVector_of0 rfl noPure fun I => ?_
  refine Run2.of I 1000 ?_
  simp -implicitDefEqProofs
  refine dcallK (sizeI_s v h) ?_
  simp -implicitDefEqProofs
  have hc := ContainsFunc_s v 127 [] (fun a => !decide (-1000000 ≤ a ∧ a ≤ 1000000)) h hl fun a _ => isGV1_c a h
  have hany : v.any (fun a => !decide (-1000000 ≤ a ∧ a ≤ 1000000)) = !decide (vIn v) := by
    rw [Bool.eq_iff_iff]
    simp [vIn]
    grind
  rw [hany] at hc
  refine ⟨fun h1 => ?_, fun h1 => ?_⟩
  · refine dcallK hc ?_
    simp -implicitDefEqProofs [Gr.vecG, h1]
  · simp [Gr.vecG, h1]
noncomputable def o_isGV : List AV → Option (Prop × AV) := tab (fun (x : Int × List T × List Int) => match x with | (n, ts, v) => [.agg [.int .i64 n, .snap 3 (ts.map T.av)], .snap 1 (v.map iv)]) (fun x => match x with | (n, ts, v) => v.length ≤ 1048576) (fun x => match x with | (n, ts, v) => .bool (decide (Gr.vecG ⟨n, ts⟩ v)))
@[simp] theorem o_isGV_e (n : Int) (ts : List T) (v : List Int) : o_isGV [.agg [.int .i64 n, .snap 3 (ts.map T.av)], .snap 1 (v.map iv)] = some (v.length ≤ 1048576, .bool (decide (Gr.vecG ⟨n, ts⟩ v))) := tab_at (enc := fun (x : Int × List T × List Int) => match x with | (n, ts, v) => [.agg [.int .i64 n, .snap 3 (ts.map T.av)], .snap 1 (v.map iv)]) (fun x y h => by
  obtain ⟨n1, ts1, v1⟩ := x; obtain ⟨n2, ts2, v2⟩ := y; simp at h; simp [h]) _ _ (n, ts, v)
theorem o_isGV_k : Knows Try.prog 92 o_isGV := tab_knows fun x hx h => by
  obtain ⟨n, ts, v⟩ := x; exact isGV_c ⟨n, ts⟩ v h hx
abbrev c_spec_l16Vector_o0 : List AJ := [.o ⟨(some 4), none, false, .mv (.c (.bool false)), (some [0, 1])⟩]
def c_spec_l16Vector_0 : ACode := .region c_spec_l16Vector_o0
abbrev c_spec_l16Vector_o1 : List AJ := [.o ⟨(some 5), none, false, .mv (.c (.int .i64 0)), (some [0, 1, 5])⟩]
def c_spec_l16Vector_1 : ACode := .region c_spec_l16Vector_o1
abbrev c_spec_l16Vector_o2 : List AJ := [.o ⟨(some 6), none, false, .mv (.t 5), none⟩, .o ⟨(some 7), none, false, .mv (.t 1), none⟩, .o ⟨(some 8), none, false, .len (.t 7), none⟩, .o ⟨(some 9), none, false, .bin .lss (.t 6) (.t 8), (some [0, 1, 5, 9])⟩]
def c_spec_l16Vector_2 : ACode := .region c_spec_l16Vector_o2
def c_spec_l16Vector_3 : ACode := .cond (.t 9) .skip (.exit 0)
def c_spec_l16Vector_4 : ACode := .seq c_spec_l16Vector_2 c_spec_l16Vector_3
abbrev c_spec_l16Vector_o3 : List AJ := [.o ⟨(some 12), none, false, .mv (.t 1), none⟩, .o ⟨(some 13), none, false, .mv (.t 5), none⟩, .o ⟨(some 14), none, false, .idxA 1 (.t 12) (.t 13), none⟩, .o ⟨(some 15), none, false, .load 1 false (.t 14), none⟩, .o ⟨(some 16), none, false, .call 69 [(.t 15), (.c (.int .i64 (-1000000))), (.c (.int .i64 1000000))], none⟩, .o ⟨(some 17), none, false, .un .not (.t 16), (some [0, 1, 5, 17])⟩]
def c_spec_l16Vector_5 : ACode := .region c_spec_l16Vector_o3
abbrev c_spec_l16Vector_o4 : List AJ := [.o ⟨(some 4), none, false, .mv (.c (.bool false)), (some [4])⟩]
def c_spec_l16Vector_6 : ACode := .region c_spec_l16Vector_o4
def c_spec_l16Vector_7 : ACode := .seq c_spec_l16Vector_6 .ret
def c_spec_l16Vector_8 : ACode := .cond (.t 17) c_spec_l16Vector_7 .skip
def c_spec_l16Vector_9 : ACode := .seq c_spec_l16Vector_5 c_spec_l16Vector_8
def c_spec_l16Vector_10 : ACode := .block 1 c_spec_l16Vector_9
abbrev c_spec_l16Vector_o5 : List AJ := [.o ⟨(some 10), none, false, .mv (.t 5), none⟩, .o ⟨(some 11), none, true, .bin .add (.t 10) (.c (.int .i64 1)), none⟩, .o ⟨(some 5), none, false, .mv (.t 11), (some [0, 1, 5])⟩]
def c_spec_l16Vector_11 : ACode := .region c_spec_l16Vector_o5
def c_spec_l16Vector_12 : ACode := .seq c_spec_l16Vector_10 c_spec_l16Vector_11
def c_spec_l16Vector_13 : ACode := .seq c_spec_l16Vector_4 c_spec_l16Vector_12
def c_spec_l16Vector_14 : ACode := .loop c_spec_l16Vector_13
def c_spec_l16Vector_15 : ACode := .block 0 c_spec_l16Vector_14
def c_spec_l16Vector_16 : ACode := .seq c_spec_l16Vector_1 c_spec_l16Vector_15
abbrev c_spec_l16Vector_o6 : List AJ := [.o ⟨(some 18), none, false, .mv (.t 1), none⟩, .o ⟨(some 19), none, false, .len (.t 18), none⟩, .o ⟨(some 20), none, false, .mv (.t 0), none⟩, .o ⟨(some 21), none, false, .nilchk (.t 20), none⟩, .o ⟨(some 22), none, false, .fieldA 0 (.t 21), none⟩, .o ⟨(some 23), none, false, .load 1 false (.t 22), none⟩, .o ⟨(some 24), none, false, .bin .eql (.t 19) (.t 23), none⟩, .o ⟨(some 4), none, false, .mv (.t 24), (some [4])⟩]
def c_spec_l16Vector_17 : ACode := .region c_spec_l16Vector_o6
def c_spec_l16Vector_18 : ACode := .seq c_spec_l16Vector_17 .ret
def c_spec_l16Vector_19 : ACode := .seq c_spec_l16Vector_16 c_spec_l16Vector_18
def c_spec_l16Vector_20 : ACode := .seq c_spec_l16Vector_0 c_spec_l16Vector_19
section
variable (C : Cx) (n : Nat) (sk : List AItem) (e : Env) (h : Heap) (R : AV → Heap → Prop)
@[simp, simp ↓] theorem c_spec_l16Vector_0_r : vc2 C (n + 1) [] (.code c_spec_l16Vector_0 :: sk) e h R = (vc2 C n c_spec_l16Vector_o0 sk e h R) := nr rfl
@[simp, simp ↓] theorem c_spec_l16Vector_1_r : vc2 C (n + 1) [] (.code c_spec_l16Vector_1 :: sk) e h R = (vc2 C n c_spec_l16Vector_o1 sk e h R) := nr rfl
@[simp, simp ↓] theorem c_spec_l16Vector_2_r : vc2 C (n + 1) [] (.code c_spec_l16Vector_2 :: sk) e h R = (vc2 C n c_spec_l16Vector_o2 sk e h R) := nr rfl
@[simp, simp ↓] theorem c_spec_l16Vector_3_r : vc2 C (n + 1) [] (.code c_spec_l16Vector_3 :: sk) e h R = (condK (ev e (.t 9)) (vc2 C n [] (.code .skip :: sk) e h R) (vc2 C n [] (.code (.exit 0) :: sk) e h R)) := nr rfl
@[simp, simp ↓] theorem c_spec_l16Vector_4_r : vc2 C (n + 1) [] (.code c_spec_l16Vector_4 :: sk) e h R = (vc2 C n [] (.code c_spec_l16Vector_2 :: .code c_spec_l16Vector_3 :: sk) e h R) := nr rfl
@[simp, simp ↓] theorem c_spec_l16Vector_5_r : vc2 C (n + 1) [] (.code c_spec_l16Vector_5 :: sk) e h R = (vc2 C n c_spec_l16Vector_o3 sk e h R) := nr rfl
@[simp, simp ↓] theorem c_spec_l16Vector_6_r : vc2 C (n + 1) [] (.code c_spec_l16Vector_6 :: sk) e h R = (vc2 C n c_spec_l16Vector_o4 sk e h R) := nr rfl
@[simp, simp ↓] theorem c_spec_l16Vector_7_r : vc2 C (n + 1) [] (.code c_spec_l16Vector_7 :: sk) e h R = (vc2 C n [] (.code c_spec_l16Vector_6 :: .code .ret :: sk) e h R) := nr rfl
@[simp, simp ↓] theorem c_spec_l16Vector_8_r : vc2 C (n + 1) [] (.code c_spec_l16Vector_8 :: sk) e h R = (condK (ev e (.t 17)) (vc2 C n [] (.code c_spec_l16Vector_7 :: sk) e h R) (vc2 C n [] (.code .skip :: sk) e h R)) := nr rfl
@[simp, simp ↓] theorem c_spec_l16Vector_9_r : vc2 C (n + 1) [] (.code c_spec_l16Vector_9 :: sk) e h R = (vc2 C n [] (.code c_spec_l16Vector_5 :: .code c_spec_l16Vector_8 :: sk) e h R) := nr rfl
@[simp, simp ↓] theorem c_spec_l16Vector_10_r : vc2 C (n + 1) [] (.code c_spec_l16Vector_10 :: sk) e h R = (vc2 C n [] (.code c_spec_l16Vector_9 :: .inBlock 1 :: sk) e h R) := nr rfl
@[simp, simp ↓] theorem c_spec_l16Vector_11_r : vc2 C (n + 1) [] (.code c_spec_l16Vector_11 :: sk) e h R = (vc2 C n c_spec_l16Vector_o5 sk e h R) := nr rfl
@[simp, simp ↓] theorem c_spec_l16Vector_12_r : vc2 C (n + 1) [] (.code c_spec_l16Vector_12 :: sk) e h R = (vc2 C n [] (.code c_spec_l16Vector_10 :: .code c_spec_l16Vector_11 :: sk) e h R) := nr rfl
@[simp, simp ↓] theorem c_spec_l16Vector_13_r : vc2 C (n + 1) [] (.code c_spec_l16Vector_13 :: sk) e h R = (vc2 C n [] (.code c_spec_l16Vector_4 :: .code c_spec_l16Vector_12 :: sk) e h R) := nr rfl
@[simp, simp ↓] theorem c_spec_l16Vector_14_r : vc2 C (n + 1) [] (.code c_spec_l16Vector_14 :: sk) e h R = (Run2 C (.code c_spec_l16Vector_13 :: .inLoop c_spec_l16Vector_13 :: sk) e h R) := nr rfl
@[simp, simp ↓] theorem c_spec_l16Vector_15_r : vc2 C (n + 1) [] (.code c_spec_l16Vector_15 :: sk) e h R = (vc2 C n [] (.code c_spec_l16Vector_14 :: .inBlock 0 :: sk) e h R) := nr rfl
@[simp, simp ↓] theorem c_spec_l16Vector_16_r : vc2 C (n + 1) [] (.code c_spec_l16Vector_16 :: sk) e h R = (vc2 C n [] (.code c_spec_l16Vector_1 :: .code c_spec_l16Vector_15 :: sk) e h R) := nr rfl
@[simp, simp ↓] theorem c_spec_l16Vector_17_r : vc2 C (n + 1) [] (.code c_spec_l16Vector_17 :: sk) e h R = (vc2 C n c_spec_l16Vector_o6 sk e h R) := nr rfl
@[simp, simp ↓] theorem c_spec_l16Vector_18_r : vc2 C (n + 1) [] (.code c_spec_l16Vector_18 :: sk) e h R = (vc2 C n [] (.code c_spec_l16Vector_17 :: .code .ret :: sk) e h R) := nr rfl
@[simp, simp ↓] theorem c_spec_l16Vector_19_r : vc2 C (n + 1) [] (.code c_spec_l16Vector_19 :: sk) e h R = (vc2 C n [] (.code c_spec_l16Vector_16 :: .code c_spec_l16Vector_18 :: sk) e h R) := nr rfl
@[simp, simp ↓] theorem c_spec_l16Vector_20_r : vc2 C (n + 1) [] (.code c_spec_l16Vector_20 :: sk) e h R = (vc2 C n [] (.code c_spec_l16Vector_0 :: .code c_spec_l16Vector_19 :: sk) e h R) := nr rfl
end
noncomputable def c_spec_l16Vector_C (orc : Orc) : Cx := ⟨Try.prog, [], 91, 25, [.tmp 4], orc⟩
@[simp] theorem c_spec_l16Vector_C_P (orc : Orc) : (c_spec_l16Vector_C orc).P = Try.prog := nr rfl
@[simp] theorem c_spec_l16Vector_C_o (orc : Orc) : (c_spec_l16Vector_C orc).orc = orc := nr rfl
@[simp] theorem c_spec_l16Vector_C_r (orc : Orc) : (c_spec_l16Vector_C orc).res = [.tmp 4] := nr rfl
theorem c_spec_l16Vector_of {args : List AV} {h : Heap} {R : AV → Heap → Prop} {k : Nat} (ha : args.length = k) {orc : Orc} (hp : Pure Try.prog orc) (hk : Is (c_spec_l16Vector_C orc) Try.f91 → Run2 (c_spec_l16Vector_C orc) [.code c_spec_l16Vector_20] (argEnv 0 args) h (Post R)) (hle : k ≤ 25 := by simp) : ACalls Try.prog 91 args h R :=
  contract2 [] c_spec_l16Vector_20 [.tmp 4] Try.func91 (by decide +kernel) rfl (by kernel_rfl) (by rw [ha]; exact hle) (by kernel_rfl) hp hk
theorem c_spec_l16Vector_of0 {args : List AV} {h : Heap} {R : AV → Heap → Prop} {k : Nat} (ha : args.length = k) {orc : Orc} (hp : Pure Try.prog orc) (hk : Is (c_spec_l16Vector_C orc) Try.f91 → Run2 (c_spec_l16Vector_C orc) [.code c_spec_l16Vector_20] (argEnv 0 args) h R) (hle : k ≤ 25 := by simp) : ACalls Try.prog 91 args h R :=
  contract20 [] c_spec_l16Vector_20 [.tmp 4] Try.func91 (by decide +kernel) rfl (by kernel_rfl) (by rw [ha]; exact hle) (by kernel_rfl) hp hk
theorem l16Vector_c (x : Gr) (v : List Int) (h : Heap) (hl : v.length ≤ 1048576) : ACalls Try.prog 91 [.ip [.int .i64 x.n, .snap 3 (x.ts.map T.av)], .snap 1 (v.map iv)] h (fun r h' => r = .bool (decide (x.vecG v)) ∧ h' = h) := by
  refine c_spec_l16Vector_of0 rfl orc1_p fun I => ?_
  refine Run2.of I 1000 ?_
  simp -implicitDefEqProofs
  refine Run2.loopE (fun (i : Nat) => [(0, .ip [.int .i64 x.n, .snap 3 (x.ts.map T.av)]), (1, .snap 1 (v.map iv)), (5, .int .i64 i)]) (fun i => h) (fun i => v.length - i) (fun i => i ≤ v.length ∧ ∀ j (hj : j < v.length), j < i → -1000000 ≤ v[j] ∧ v[j] ≤ 1000000) 0 (by simp) rfl ⟨Nat.zero_le _, fun _ _ h => by omega⟩ fun i hi ih => ?_
  by_cases hlt : i < v.length
  · have hbad : ¬ (-1000000 ≤ v[i] ∧ v[i] ≤ 1000000) → ¬ x.vecG v := fun h1 h2 => h1 (h2.2 _ (List.getElem_mem hlt))
    have go := fun (h1 : -1000000 ≤ v[i] ∧ v[i] ≤ 1000000) => ih (i + 1) ⟨by omega, fun j hj hji => by
      rcases Nat.lt_or_ge j i with h | h
      · exact hi.2 j hj h
      · obtain rfl : j = i := by omega
        exact h1⟩ (by omega)
    clear ih
    refine Run2.of I 1000 ?_
    simp -implicitDefEqProofs [hlt]
    simp at go
    repeat' (first | refine And.intro ?_ ?_ | intro _)
    all_goals first | omega | (unfold in64; omega) | exact absurd ‹x.vecG v› (hbad (by omega)) | exact go (by omega) (by omega)
  · obtain rfl : i = v.length := by omega
    have h1 : ∀ a ∈ v, -1000000 ≤ a ∧ a ≤ 1000000 := fun a ha => by
      obtain ⟨j, hj, rfl⟩ := List.mem_iff_getElem.1 ha
      exact hi.2 j hj hj
    refine Run2.of I 1000 ?_
    simp -implicitDefEqProofs
    unfold Gr.vecG
    exact ⟨fun h => ⟨h, h1⟩, fun h => h.1⟩
noncomputable def o_l16Vector : List AV → Option (Prop × AV) := tab (fun (x : Int × List T × List Int) => match x with | (n, ts, v) => [.ip [.int .i64 n, .snap 3 (ts.map T.av)], .snap 1 (v.map iv)]) (fun x => match x with | (n, ts, v) => v.length ≤ 1048576) (fun x => match x with | (n, ts, v) => .bool (decide (Gr.vecG ⟨n, ts⟩ v)))
@[simp] theorem o_l16Vector_e (n : Int) (ts : List T) (v : List Int) : o_l16Vector [.ip [.int .i64 n, .snap 3 (ts.map T.av)], .snap 1 (v.map iv)] = some (v.length ≤ 1048576, .bool (decide (Gr.vecG ⟨n, ts⟩ v))) := tab_at (enc := fun (x : Int × List T × List Int) => match x with | (n, ts, v) => [.ip [.int .i64 n, .snap 3 (ts.map T.av)], .snap 1 (v.map iv)]) (fun x y h => by
  obtain ⟨n1, ts1, v1⟩ := x; obtain ⟨n2, ts2, v2⟩ := y; simp at h; simp [h]) _ _ (n, ts, v)
theorem o_l16Vector_k : Knows Try.prog 91 o_l16Vector := tab_knows fun x hx h => by
  obtain ⟨n, ts, v⟩ := x; exact l16Vector_c ⟨n, ts⟩ v h hx
abbrev c_impl_isRepeat_o0 : List AJ := [.o ⟨(some 2), none, false, .mv (.c (.bool false)), (some [0])⟩]
def c_impl_isRepeat_0 : ACode := .region c_impl_isRepeat_o0
abbrev c_impl_isRepeat_o1 : List AJ := [.o ⟨(some 3), none, false, .mv (.t 0), none⟩, .o ⟨(some 4), none, false, .call 104 [(.t 3), (.c (.int .i64 0)), (.c (.int .i64 100))], none⟩, .o ⟨(some 2), none, false, .mv (.t 4), (some [2])⟩]
def c_impl_isRepeat_1 : ACode := .region c_impl_isRepeat_o1
def c_impl_isRepeat_2 : ACode := .seq c_impl_isRepeat_1 .ret
def c_impl_isRepeat_3 : ACode := .seq c_impl_isRepeat_0 c_impl_isRepeat_2
section
variable (C : Cx) (n : Nat) (sk : List AItem) (e : Env) (h : Heap) (R : AV → Heap → Prop)
@[simp, simp ↓] theorem c_impl_isRepeat_0_r : vc2 C (n + 1) [] (.code c_impl_isRepeat_0 :: sk) e h R = (vc2 C n c_impl_isRepeat_o0 sk e h R) := nr rfl
@[simp, simp ↓] theorem c_impl_isRepeat_1_r : vc2 C (n + 1) [] (.code c_impl_isRepeat_1 :: sk) e h R = (vc2 C n c_impl_isRepeat_o1 sk e h R) := nr rfl
@[simp, simp ↓] theorem c_impl_isRepeat_2_r : vc2 C (n + 1) [] (.code c_impl_isRepeat_2 :: sk) e h R = (vc2 C n [] (.code c_impl_isRepeat_1 :: .code .ret :: sk) e h R) := nr rfl
@[simp, simp ↓] theorem c_impl_isRepeat_3_r : vc2 C (n + 1) [] (.code c_impl_isRepeat_3 :: sk) e h R = (vc2 C n [] (.code c_impl_isRepeat_0 :: .code c_impl_isRepeat_2 :: sk) e h R) := nr rfl
end
noncomputable def c_impl_isRepeat_C (orc : Orc) : Cx := ⟨Try.prog, [], 79, 5, [.tmp 2], orc⟩
@[simp] theorem c_impl_isRepeat_C_P (orc : Orc) : (c_impl_isRepeat_C orc).P = Try.prog := nr rfl
@[simp] theorem c_impl_isRepeat_C_o (orc : Orc) : (c_impl_isRepeat_C orc).orc = orc := nr rfl
@[simp] theorem c_impl_isRepeat_C_r (orc : Orc) : (c_impl_isRepeat_C orc).res = [.tmp 2] := nr rfl
theorem c_impl_isRepeat_of {args : List AV} {h : Heap} {R : AV → Heap → Prop} {k : Nat} (ha : args.length = k) {orc : Orc} (hp : Pure Try.prog orc) (hk : Is (c_impl_isRepeat_C orc) Try.f79 → Run2 (c_impl_isRepeat_C orc) [.code c_impl_isRepeat_3] (argEnv 0 args) h (Post R)) (hle : k ≤ 5 := by simp) : ACalls Try.prog 79 args h R :=
  contract2 [] c_impl_isRepeat_3 [.tmp 2] Try.func79 (by decide +kernel) rfl (by kernel_rfl) (by rw [ha]; exact hle) (by kernel_rfl) hp hk
theorem c_impl_isRepeat_of0 {args : List AV} {h : Heap} {R : AV → Heap → Prop} {k : Nat} (ha : args.length = k) {orc : Orc} (hp : Pure Try.prog orc) (hk : Is (c_impl_isRepeat_C orc) Try.f79 → Run2 (c_impl_isRepeat_C orc) [.code c_impl_isRepeat_3] (argEnv 0 args) h R) (hle : k ≤ 5 := by simp) : ACalls Try.prog 79 args h R :=
  contract20 [] c_impl_isRepeat_3 [.tmp 2] Try.func79 (by decide +kernel) rfl (by kernel_rfl) (by rw [ha]; exact hle) (by kernel_rfl) hp hk
theorem isRepeat_c (a : Int) (h : Heap) : ACalls Try.prog 79 [.int .i64 a] h (fun v h' => v = .bool (decide (0 ≤ a) && decide (a ≤ 100)) ∧ h' = h) := by
  refine c_impl_isRepeat_of0 rfl orc1_p fun I => ?_
  refine Run2.of I 1000 ?_
  simp -implicitDefEqProofs
noncomputable def o_isRepeat : List AV → Option (Prop × AV) := tab (fun (x : Int) => match x with | a => [.int .i64 a]) (fun x => match x with | a => True) (fun x => match x with | a => .bool (decide (0 ≤ a) && decide (a ≤ 100)))
@[simp] theorem o_isRepeat_e (a : Int) : o_isRepeat [.int .i64 a] = some (True, .bool (decide (0 ≤ a) && decide (a ≤ 100))) := tab_at (enc := fun (x : Int) => match x with | a => [.int .i64 a]) (fun x y h => by
  simp at h; simp [h]) _ _ a
theorem o_isRepeat_k : Knows Try.prog 79 o_isRepeat := tab_knows fun x hx h => by
  exact isRepeat_c _ h
abbrev c_impl_exchanged_o0 : List AJ := [.o ⟨(some 4), none, false, .box false 2 (.t 0), none⟩, .o ⟨(some 8), none, false, .mv (.c .nilsl), (some [1, 2, 3, 4])⟩]
def c_impl_exchanged_0 : ACode := .region c_impl_exchanged_o0
abbrev c_impl_exchanged_o1 : List AJ := [.o ⟨(some 10), none, false, .mv (.t 2), none⟩, .o ⟨(some 11), none, false, .call 111 [(.t 10)], none⟩, .v 9 1 .nilsl [] (.t 11) (some [1, 3, 4, 9])]
def c_impl_exchanged_1 : ACode := .region c_impl_exchanged_o1
abbrev c_impl_exchanged_o2 : List AJ := [.o ⟨(some 12), none, false, .load 2 true (.t 4), none⟩, .o ⟨(some 13), none, false, .mv (.t 1), none⟩, .o ⟨(some 14), none, false, .mv (.t 3), none⟩, .o ⟨(some 15), none, false, .mkfn 121 [(.t 9)], none⟩, .o ⟨(some 16), none, false, .call 120 [(.t 12), (.t 13), (.t 14), (.t 15)], (some [9])⟩]
def c_impl_exchanged_2 : ACode := .region c_impl_exchanged_o2
abbrev c_impl_exchanged_o3 : List AJ := [.o ⟨(some 17), none, false, .load 1 false (.t 9), none⟩, .o ⟨(some 8), none, false, .mv (.t 17), (some [8])⟩]
def c_impl_exchanged_3 : ACode := .region c_impl_exchanged_o3
def c_impl_exchanged_4 : ACode := .seq c_impl_exchanged_3 .ret
def c_impl_exchanged_5 : ACode := .seq c_impl_exchanged_2 c_impl_exchanged_4
def c_impl_exchanged_6 : ACode := .seq c_impl_exchanged_1 c_impl_exchanged_5
def c_impl_exchanged_7 : ACode := .seq c_impl_exchanged_0 c_impl_exchanged_6
section
variable (C : Cx) (n : Nat) (sk : List AItem) (e : Env) (h : Heap) (R : AV → Heap → Prop)
@[simp, simp ↓] theorem c_impl_exchanged_0_r : vc2 C (n + 1) [] (.code c_impl_exchanged_0 :: sk) e h R = (vc2 C n c_impl_exchanged_o0 sk e h R) := nr rfl
@[simp, simp ↓] theorem c_impl_exchanged_1_r : vc2 C (n + 1) [] (.code c_impl_exchanged_1 :: sk) e h R = (vc2 C n c_impl_exchanged_o1 sk e h R) := nr rfl
@[simp, simp ↓] theorem c_impl_exchanged_2_r : vc2 C (n + 1) [] (.code c_impl_exchanged_2 :: sk) e h R = (vc2 C n c_impl_exchanged_o2 sk e h R) := nr rfl
@[simp, simp ↓] theorem c_impl_exchanged_3_r : vc2 C (n + 1) [] (.code c_impl_exchanged_3 :: sk) e h R = (vc2 C n c_impl_exchanged_o3 sk e h R) := nr rfl
@[simp, simp ↓] theorem c_impl_exchanged_4_r : vc2 C (n + 1) [] (.code c_impl_exchanged_4 :: sk) e h R = (vc2 C n [] (.code c_impl_exchanged_3 :: .code .ret :: sk) e h R) := nr rfl
@[simp, simp ↓] theorem c_impl_exchanged_5_r : vc2 C (n + 1) [] (.code c_impl_exchanged_5 :: sk) e h R = (vc2 C n [] (.code c_impl_exchanged_2 :: .code c_impl_exchanged_4 :: sk) e h R) := nr rfl
@[simp, simp ↓] theorem c_impl_exchanged_6_r : vc2 C (n + 1) [] (.code c_impl_exchanged_6 :: sk) e h R = (vc2 C n [] (.code c_impl_exchanged_1 :: .code c_impl_exchanged_5 :: sk) e h R) := nr rfl
@[simp, simp ↓] theorem c_impl_exchanged_7_r : vc2 C (n + 1) [] (.code c_impl_exchanged_7 :: sk) e h R = (vc2 C n [] (.code c_impl_exchanged_0 :: .code c_impl_exchanged_6 :: sk) e h R) := nr rfl
end
noncomputable def c_impl_exchanged_C (orc : Orc) : Cx := ⟨Try.prog, [9], 81, 18, [.tmp 8], orc⟩
@[simp] theorem c_impl_exchanged_C_P (orc : Orc) : (c_impl_exchanged_C orc).P = Try.prog := nr rfl
@[simp] theorem c_impl_exchanged_C_o (orc : Orc) : (c_impl_exchanged_C orc).orc = orc := nr rfl
@[simp] theorem c_impl_exchanged_C_r (orc : Orc) : (c_impl_exchanged_C orc).res = [.tmp 8] := nr rfl
theorem c_impl_exchanged_of {args : List AV} {h : Heap} {R : AV → Heap → Prop} {k : Nat} (ha : args.length = k) {orc : Orc} (hp : Pure Try.prog orc) (hk : Is (c_impl_exchanged_C orc) Try.f81 → Run2 (c_impl_exchanged_C orc) [.code c_impl_exchanged_7] (argEnv 0 args) h (Post R)) (hle : k ≤ 18 := by simp) : ACalls Try.prog 81 args h R :=
  contract2 [9] c_impl_exchanged_7 [.tmp 8] Try.func81 (by decide +kernel) rfl (by kernel_rfl) (by rw [ha]; exact hle) (by kernel_rfl) hp hk
theorem c_impl_exchanged_of0 {args : List AV} {h : Heap} {R : AV → Heap → Prop} {k : Nat} (ha : args.length = k) {orc : Orc} (hp : Pure Try.prog orc) (hk : Is (c_impl_exchanged_C orc) Try.f81 → Run2 (c_impl_exchanged_C orc) [.code c_impl_exchanged_7] (argEnv 0 args) h R) (hle : k ≤ 18 := by simp) : ACalls Try.prog 81 args h R :=
  contract20 [9] c_impl_exchanged_7 [.tmp 8] Try.func81 (by decide +kernel) rfl (by kernel_rfl) (by rw [ha]; exact hle) (by kernel_rfl) hp hk
theorem exchanged_n (x : Gr) (rs : List (List Int)) (v : List Int) (times : Int) (hr : ssTot rs ≤ 1048576) (hv : x.valid) (hok : x.rsOk rs) (hvl : (v.length : Int) = x.n) (ht : 0 ≤ times ∧ times ≤ 100) : ACalls Try.prog 81 [x.av, .snap 1 (rs.map il), .snap 1 (v.map iv), .int .i64 times] [] (fun w h' => OwnL iv 1 w (runT x exch rs v times.toNat) h') := by
  have hn1 := hv.1
  have hn2 := hv.2.1
  refine c_impl_exchanged_of0 rfl noPure fun I => ?_
  refine Run2.of I 1000 ?_
  simp -implicitDefEqProofs
  refine (Clone_w v [] (by omega)).mono ?_
  rintro u h' ⟨hp, G, rfl⟩
  refine gK.go ?_
  generalize hm : v.map iv = m at G
  cases G with
  | nil => simp at hm; subst hm; simp at hvl; omega
  | emp => simp at hm; subst hm; simp at hvl; omega
  | sl id m n hn =>
    subst hm
    simp only [List.length_map] at hn
    subst hn
    simp -implicitDefEqProofs
    have hex := exchanges_w (fun l => [(id, (⟨1, l.map iv⟩ : Blk))]) exch (fun l => l.length = v.length) x rs times 121 [.ip [.sl id 1 0 v.length none]] v rfl hr (fun r hr k hk => (hok.1 r hr).2.2.1 k hk) ⟨ht.1, by omega⟩ (fun a e he ha => by
      have hel := hv.el he
      unfold Gr.el at hel
      rw [← ha]
      exact ⟨exchanged1_c id a e ⟨hel.1, by omega⟩ (by omega) (by omega), exch_length a e⟩)
    refine hex.mono ?_
    rintro u h' ⟨rfl, rfl⟩
    have hl := runT_inv x exch (Inv := fun l => l.length = v.length) (fun a e _ ha => by rw [exch_length]; exact ha) (fun r hr k hk => (hok.1 r hr).2.2.1 k hk) (rs := rs) (a := v) rfl times.toNat
    refine gK.go ?_
    simp -implicitDefEqProofs
    have := OwnL.sl (enc := iv) (sz := 1) (l := runT x exch rs v times.toNat) id none [] rfl
    rw [List.append_nil] at this
    rw [hl] at this
    exact this
noncomputable def Gr.xCode (x : Gr) (rs : List (List Int)) (v : List Int) (times : Int) : Int := if x.sCode rs = 0 then if x.vecG v ∧ 0 ≤ times ∧ times ≤ 100 then 0 else 2 else x.sCode rs
noncomputable def Gr.xL (x : Gr) (rs : List (List Int)) (v : List Int) (times : Int) : List Int := if x.xCode rs v times = 0 then runT x exch rs v times.toNat else []
theorem Gr.xCode_ok {x : Gr} {rs : List (List Int)} {v : List Int} {times : Int} (h : x.xCode rs v times = 0) : (x.valid ∧ x.rsOk rs) ∧ x.vecG v ∧ 0 ≤ times ∧ times ≤ 100 := by
  unfold Gr.xCode at h
  split at h
  · rename_i h1
    split at h
    · exact ⟨Gr.sCode_ok h1, by assumption⟩
    · omega
  · rename_i h1; exact absurd h h1
theorem Gr.xL_len (x : Gr) (rs : List (List Int)) (v : List Int) (times : Int) : (x.xL rs v times).length ≤ 12 := by
  unfold Gr.xL
  split
  · rename_i h
    obtain ⟨⟨hv, hok⟩, hg, _⟩ := Gr.xCode_ok h
    have hl := runT_inv x exch (Inv := fun l => l.length = v.length) (fun a e _ ha => by rw [exch_length]; exact ha) (fun r hr k hk => (hok.1 r hr).2.2.1 k hk) (rs := rs) (a := v) rfl times.toNat
    have := hg.1
    have := hv.2.1
    omega
  · simp
noncomputable def orcK : List (Nat × (List AV → Option (Prop × AV))) := (92, o_isGV) :: (79, o_isRepeat) :: (91, o_l16Vector) :: (69, o_l00In) :: orcJ
theorem orcK_p : Pure Try.prog (lk orcK) := (lk_pure o_isGV_k (lk_pure o_isRepeat_k (lk_pure o_l16Vector_k (lk_pure o_l00In_k orcJ_p))))
@[simp] theorem orcK_l (g : FuncId) (l : List AV) : lk orcK g l = if g = 92 then o_isGV l else if g = 79 then o_isRepeat l else if g = 91 then o_l16Vector l else if g = 69 then o_l00In l else lk orcJ g l := nr rfl
abbrev c_impl_ExchangeValues_o0 : List AJ := [.o ⟨(some 4), none, false, .box false 2 (.t 0), none⟩, .o ⟨(some 8), none, false, .mv (.c .nilsl), none⟩, .o ⟨(some 9), none, false, .mv (.c (.int .i64 0)), (some [1, 2, 3, 4])⟩]
def c_impl_ExchangeValues_0 : ACode := .region c_impl_ExchangeValues_o0
abbrev c_impl_ExchangeValues_o1 : List AJ := [.o ⟨(some 11), none, false, .load 2 true (.t 4), none⟩, .o ⟨(some 12), none, false, .mv (.t 1), none⟩, .o ⟨(some 13), none, false, .call 78 [(.t 11), (.t 12)], none⟩, .o ⟨(some 10), none, false, .mv (.t 13), (some [1, 2, 3, 4, 10])⟩]
def c_impl_ExchangeValues_1 : ACode := .region c_impl_ExchangeValues_o1
abbrev c_impl_ExchangeValues_o2 : List AJ := [.o ⟨(some 14), none, false, .mv (.t 10), none⟩, .o ⟨(some 15), none, false, .bin .neq (.t 14) (.c (.int .i64 0)), (some [1, 2, 3, 4, 10, 15])⟩]
def c_impl_ExchangeValues_2 : ACode := .region c_impl_ExchangeValues_o2
abbrev c_impl_ExchangeValues_o3 : List AJ := [.o ⟨(some 16), none, false, .mv (.t 10), none⟩, .o ⟨(some 8), none, false, .mv (.c .nilsl), none⟩, .o ⟨(some 9), none, false, .mv (.t 16), (some [8, 9])⟩]
def c_impl_ExchangeValues_3 : ACode := .region c_impl_ExchangeValues_o3
def c_impl_ExchangeValues_4 : ACode := .seq c_impl_ExchangeValues_3 .ret
def c_impl_ExchangeValues_5 : ACode := .cond (.t 15) c_impl_ExchangeValues_4 .skip
def c_impl_ExchangeValues_6 : ACode := .seq c_impl_ExchangeValues_2 c_impl_ExchangeValues_5
def c_impl_ExchangeValues_7 : ACode := .seq c_impl_ExchangeValues_1 c_impl_ExchangeValues_6
abbrev c_impl_ExchangeValues_o4 : List AJ := [.o ⟨(some 17), none, false, .load 2 true (.t 4), none⟩, .o ⟨(some 18), none, false, .mv (.t 2), none⟩, .o ⟨(some 19), none, false, .call 92 [(.t 17), (.t 18)], none⟩, .o ⟨(some 20), none, false, .un .not (.t 19), none⟩, .o ⟨(some 21), none, false, .mv (.t 20), none⟩, .o ⟨(some 22), (some (21, false)), false, .mv (.t 3), none⟩, .o ⟨(some 23), (some (21, false)), false, .call 79 [(.t 22)], none⟩, .o ⟨(some 24), (some (21, false)), false, .un .not (.t 23), none⟩, .o ⟨(some 25), none, false, .pick (.t 21) (.c (.bool true)) (.t 24), (some [1, 2, 3, 4, 25])⟩]
def c_impl_ExchangeValues_8 : ACode := .region c_impl_ExchangeValues_o4
abbrev c_impl_ExchangeValues_o5 : List AJ := [.o ⟨(some 8), none, false, .mv (.c .nilsl), none⟩, .o ⟨(some 9), none, false, .mv (.c (.int .i64 2)), (some [8, 9])⟩]
def c_impl_ExchangeValues_9 : ACode := .region c_impl_ExchangeValues_o5
def c_impl_ExchangeValues_10 : ACode := .seq c_impl_ExchangeValues_9 .ret
def c_impl_ExchangeValues_11 : ACode := .cond (.t 25) c_impl_ExchangeValues_10 .skip
def c_impl_ExchangeValues_12 : ACode := .seq c_impl_ExchangeValues_8 c_impl_ExchangeValues_11
abbrev c_impl_ExchangeValues_o6 : List AJ := [.o ⟨(some 26), none, false, .load 2 true (.t 4), none⟩, .o ⟨(some 27), none, false, .mv (.t 1), none⟩, .o ⟨(some 28), none, false, .mv (.t 2), none⟩, .o ⟨(some 29), none, false, .mv (.t 3), none⟩, .o ⟨(some 30), none, false, .call 81 [(.t 26), (.t 27), (.t 28), (.t 29)], none⟩, .o ⟨(some 8), none, false, .mv (.t 30), none⟩, .o ⟨(some 9), none, false, .mv (.c (.int .i64 0)), (some [8, 9])⟩]
def c_impl_ExchangeValues_13 : ACode := .region c_impl_ExchangeValues_o6
def c_impl_ExchangeValues_14 : ACode := .seq c_impl_ExchangeValues_13 .ret
def c_impl_ExchangeValues_15 : ACode := .seq c_impl_ExchangeValues_12 c_impl_ExchangeValues_14
def c_impl_ExchangeValues_16 : ACode := .seq c_impl_ExchangeValues_7 c_impl_ExchangeValues_15
def c_impl_ExchangeValues_17 : ACode := .seq c_impl_ExchangeValues_0 c_impl_ExchangeValues_16
section
variable (C : Cx) (n : Nat) (sk : List AItem) (e : Env) (h : Heap) (R : AV → Heap → Prop)
@[simp, simp ↓] theorem c_impl_ExchangeValues_0_r : vc2 C (n + 1) [] (.code c_impl_ExchangeValues_0 :: sk) e h R = (vc2 C n c_impl_ExchangeValues_o0 sk e h R) := nr rfl
@[simp, simp ↓] theorem c_impl_ExchangeValues_1_r : vc2 C (n + 1) [] (.code c_impl_ExchangeValues_1 :: sk) e h R = (vc2 C n c_impl_ExchangeValues_o1 sk e h R) := nr rfl
@[simp, simp ↓] theorem c_impl_ExchangeValues_2_r : vc2 C (n + 1) [] (.code c_impl_ExchangeValues_2 :: sk) e h R = (vc2 C n c_impl_ExchangeValues_o2 sk e h R) := nr rfl
@[simp, simp ↓] theorem c_impl_ExchangeValues_3_r : vc2 C (n + 1) [] (.code c_impl_ExchangeValues_3 :: sk) e h R = (vc2 C n c_impl_ExchangeValues_o3 sk e h R) := nr rfl
@[simp, simp ↓] theorem c_impl_ExchangeValues_4_r : vc2 C (n + 1) [] (.code c_impl_ExchangeValues_4 :: sk) e h R = (vc2 C n [] (.code c_impl_ExchangeValues_3 :: .code .ret :: sk) e h R) := nr rfl
@[simp, simp ↓] theorem c_impl_ExchangeValues_5_r : vc2 C (n + 1) [] (.code c_impl_ExchangeValues_5 :: sk) e h R = (condK (ev e (.t 15)) (vc2 C n [] (.code c_impl_ExchangeValues_4 :: sk) e h R) (vc2 C n [] (.code .skip :: sk) e h R)) := nr rfl
@[simp, simp ↓] theorem c_impl_ExchangeValues_6_r : vc2 C (n + 1) [] (.code c_impl_ExchangeValues_6 :: sk) e h R = (vc2 C n [] (.code c_impl_ExchangeValues_2 :: .code c_impl_ExchangeValues_5 :: sk) e h R) := nr rfl
@[simp, simp ↓] theorem c_impl_ExchangeValues_7_r : vc2 C (n + 1) [] (.code c_impl_ExchangeValues_7 :: sk) e h R = (vc2 C n [] (.code c_impl_ExchangeValues_1 :: .code c_impl_ExchangeValues_6 :: sk) e h R) := nr rfl
@[simp, simp ↓] theorem c_impl_ExchangeValues_8_r : vc2 C (n + 1) [] (.code c_impl_ExchangeValues_8 :: sk) e h R = (vc2 C n c_impl_ExchangeValues_o4 sk e h R) := nr rfl
@[simp, simp ↓] theorem c_impl_ExchangeValues_9_r : vc2 C (n + 1) [] (.code c_impl_ExchangeValues_9 :: sk) e h R = (vc2 C n c_impl_ExchangeValues_o5 sk e h R) := nr rfl
@[simp, simp ↓] theorem c_impl_ExchangeValues_10_r : vc2 C (n + 1) [] (.code c_impl_ExchangeValues_10 :: sk) e h R = (vc2 C n [] (.code c_impl_ExchangeValues_9 :: .code .ret :: sk) e h R) := nr rfl
@[simp, simp ↓] theorem c_impl_ExchangeValues_11_r : vc2 C (n + 1) [] (.code c_impl_ExchangeValues_11 :: sk) e h R = (condK (ev e (.t 25)) (vc2 C n [] (.code c_impl_ExchangeValues_10 :: sk) e h R) (vc2 C n [] (.code .skip :: sk) e h R)) := nr rfl
@[simp, simp ↓] theorem c_impl_ExchangeValues_12_r : vc2 C (n + 1) [] (.code c_impl_ExchangeValues_12 :: sk) e h R = (vc2 C n [] (.code c_impl_ExchangeValues_8 :: .code c_impl_ExchangeValues_11 :: sk) e h R) := nr rfl
@[simp, simp ↓] theorem c_impl_ExchangeValues_13_r : vc2 C (n + 1) [] (.code c_impl_ExchangeValues_13 :: sk) e h R = (vc2 C n c_impl_ExchangeValues_o6 sk e h R) := nr rfl
@[simp, simp ↓] theorem c_impl_ExchangeValues_14_r : vc2 C (n + 1) [] (.code c_impl_ExchangeValues_14 :: sk) e h R = (vc2 C n [] (.code c_impl_ExchangeValues_13 :: .code .ret :: sk) e h R) := nr rfl
@[simp, simp ↓] theorem c_impl_ExchangeValues_15_r : vc2 C (n + 1) [] (.code c_impl_ExchangeValues_15 :: sk) e h R = (vc2 C n [] (.code c_impl_ExchangeValues_12 :: .code c_impl_ExchangeValues_14 :: sk) e h R) := nr rfl
@[simp, simp ↓] theorem c_impl_ExchangeValues_16_r : vc2 C (n + 1) [] (.code c_impl_ExchangeValues_16 :: sk) e h R = (vc2 C n [] (.code c_impl_ExchangeValues_7 :: .code c_impl_ExchangeValues_15 :: sk) e h R) := nr rfl
@[simp, simp ↓] theorem c_impl_ExchangeValues_17_r : vc2 C (n + 1) [] (.code c_impl_ExchangeValues_17 :: sk) e h R = (vc2 C n [] (.code c_impl_ExchangeValues_0 :: .code c_impl_ExchangeValues_16 :: sk) e h R) := nr rfl
end
noncomputable def c_impl_ExchangeValues_C (orc : Orc) : Cx := ⟨Try.prog, [], 43, 31, [.tmp 8, .tmp 9], orc⟩
@[simp] theorem c_impl_ExchangeValues_C_P (orc : Orc) : (c_impl_ExchangeValues_C orc).P = Try.prog := nr rfl
@[simp] theorem c_impl_ExchangeValues_C_o (orc : Orc) : (c_impl_ExchangeValues_C orc).orc = orc := nr rfl
@[simp] theorem c_impl_ExchangeValues_C_r (orc : Orc) : (c_impl_ExchangeValues_C orc).res = [.tmp 8, .tmp 9] := nr rfl
theorem c_impl_ExchangeValues_of {args : List AV} {h : Heap} {R : AV → Heap → Prop} {k : Nat} (ha : args.length = k) {orc : Orc} (hp : Pure Try.prog orc) (hk : Is (c_impl_ExchangeValues_C orc) Try.f43 → Run2 (c_impl_ExchangeValues_C orc) [.code c_impl_ExchangeValues_17] (argEnv 0 args) h (Post R)) (hle : k ≤ 31 := by simp) : ACalls Try.prog 43 args h R :=
  contract2 [] c_impl_ExchangeValues_17 [.tmp 8, .tmp 9] Try.func43 (by decide +kernel) rfl (by kernel_rfl) (by rw [ha]; exact hle) (by kernel_rfl) hp hk
theorem c_impl_ExchangeValues_of0 {args : List AV} {h : Heap} {R : AV → Heap → Prop} {k : Nat} (ha : args.length = k) {orc : Orc} (hp : Pure Try.prog orc) (hk : Is (c_impl_ExchangeValues_C orc) Try.f43 → Run2 (c_impl_ExchangeValues_C orc) [.code c_impl_ExchangeValues_17] (argEnv 0 args) h R) (hle : k ≤ 31 := by simp) : ACalls Try.prog 43 args h R :=
  contract20 [] c_impl_ExchangeValues_17 [.tmp 8, .tmp 9] Try.func43 (by decide +kernel) rfl (by kernel_rfl) (by rw [ha]; exact hle) (by kernel_rfl) hp hk
theorem implEx_o (x : Gr) (rs : List (List Int)) (v : List Int) (times : Int) (hl : x.ts.length ≤ 1048576) (ok : x.ok) (hr : ssTot rs ≤ 1048576) (hvl : v.length ≤ 1048576) : ACalls Try.prog 43 [x.av, .snap 1 (rs.map il), .snap 1 (v.map iv), .int .i64 times] [] (fun r h' => ∃ w, r = .tup [w, .int .i64 (x.xCode rs v times)] ∧ OwnL iv 1 w (x.xL rs v times) h') := by
  refine c_impl_ExchangeValues_of0 rfl orcK_p fun I => ?_
  refine Run2.of I 1000 ?_
  by_cases hs : x.sCode rs = 0
  · by_cases hk : x.vecG v ∧ 0 ≤ times ∧ times ≤ 100
    · have hc : x.xCode rs v times = 0 := by simp [Gr.xCode, hs, hk]
      have hid : x.xL rs v times = runT x exch rs v times.toNat := by simp [Gr.xL, hc]
      obtain ⟨⟨hv, hrs⟩, _⟩ := Gr.xCode_ok hc
      simp -implicitDefEqProofs [hl, ok, hr, hs, hvl, hk.1, hk.2.1, hk.2.2]
      refine (exchanged_n x rs v times hr hv hrs hk.1.1 hk.2).mono ?_
      intro w h' o
      have hcell := o.cell
      refine gK.go ?_
      simp -implicitDefEqProofs [hcell]
      exact ⟨w, ⟨rfl, hc.symm⟩, by rw [hid]; exact o⟩
    · have hc : x.xCode rs v times = 2 := by simp [Gr.xCode, hs, hk]
      have hid : x.xL rs v times = [] := by simp [Gr.xL, hc]
      simp -implicitDefEqProofs [hl, ok, hr, hs, hvl, hc, hid]
      repeat' (first | refine And.intro ?_ ?_ | intro _)
      all_goals first | exact .nil | (exfalso; exact hk ⟨by assumption, by omega, by omega⟩)
  · have hc : x.xCode rs v times = x.sCode rs := by simp [Gr.xCode, hs]
    have hid : x.xL rs v times = [] := by simp [Gr.xL, hc, hs]
    simp -implicitDefEqProofs [hl, ok, hr, hs, hc, hid]
    exact .nil
abbrev c_spec_l00Own_o0 : List AJ := [.o ⟨(some 2), none, false, .mv (.c .nilsl), (some [0])⟩]
def c_spec_l00Own_0 : ACode := .region c_spec_l00Own_o0
abbrev c_spec_l00Own_o1 : List AJ := [.e 3 1 none, .o ⟨(some 4), none, false, .mv (.t 0), none⟩, .o ⟨(some 5), none, false, .append 1 8 (.t 3) (.t 4), none⟩, .o ⟨(some 2), none, false, .mv (.t 5), (some [2])⟩]
def c_spec_l00Own_1 : ACode := .region c_spec_l00Own_o1
def c_spec_l00Own_2 : ACode := .seq c_spec_l00Own_1 .ret
def c_spec_l00Own_3 : ACode := .seq c_spec_l00Own_0 c_spec_l00Own_2
section
variable (C : Cx) (n : Nat) (sk : List AItem) (e : Env) (h : Heap) (R : AV → Heap → Prop)
@[simp, simp ↓] theorem c_spec_l00Own_0_r : vc2 C (n + 1) [] (.code c_spec_l00Own_0 :: sk) e h R = (vc2 C n c_spec_l00Own_o0 sk e h R) := nr rfl
@[simp, simp ↓] theorem c_spec_l00Own_1_r : vc2 C (n + 1) [] (.code c_spec_l00Own_1 :: sk) e h R = (vc2 C n c_spec_l00Own_o1 sk e h R) := nr rfl
@[simp, simp ↓] theorem c_spec_l00Own_2_r : vc2 C (n + 1) [] (.code c_spec_l00Own_2 :: sk) e h R = (vc2 C n [] (.code c_spec_l00Own_1 :: .code .ret :: sk) e h R) := nr rfl
@[simp, simp ↓] theorem c_spec_l00Own_3_r : vc2 C (n + 1) [] (.code c_spec_l00Own_3 :: sk) e h R = (vc2 C n [] (.code c_spec_l00Own_0 :: .code c_spec_l00Own_2 :: sk) e h R) := nr rfl
end
noncomputable def c_spec_l00Own_C (orc : Orc) : Cx := ⟨Try.prog, [3], 71, 6, [.tmp 2], orc⟩
@[simp] theorem c_spec_l00Own_C_P (orc : Orc) : (c_spec_l00Own_C orc).P = Try.prog := nr rfl
@[simp] theorem c_spec_l00Own_C_o (orc : Orc) : (c_spec_l00Own_C orc).orc = orc := nr rfl
@[simp] theorem c_spec_l00Own_C_r (orc : Orc) : (c_spec_l00Own_C orc).res = [.tmp 2] := nr rfl
theorem c_spec_l00Own_of {args : List AV} {h : Heap} {R : AV → Heap → Prop} {k : Nat} (ha : args.length = k) {orc : Orc} (hp : Pure Try.prog orc) (hk : Is (c_spec_l00Own_C orc) Try.f71 → Run2 (c_spec_l00Own_C orc) [.code c_spec_l00Own_3] (argEnv 0 args) h (Post R)) (hle : k ≤ 6 := by simp) : ACalls Try.prog 71 args h R :=
  contract2 [3] c_spec_l00Own_3 [.tmp 2] Try.func71 (by decide +kernel) rfl (by kernel_rfl) (by rw [ha]; exact hle) (by kernel_rfl) hp hk
theorem c_spec_l00Own_of0 {args : List AV} {h : Heap} {R : AV → Heap → Prop} {k : Nat} (ha : args.length = k) {orc : Orc} (hp : Pure Try.prog orc) (hk : Is (c_spec_l00Own_C orc) Try.f71 → Run2 (c_spec_l00Own_C orc) [.code c_spec_l00Own_3] (argEnv 0 args) h R) (hle : k ≤ 6 := by simp) : ACalls Try.prog 71 args h R :=
  contract20 [3] c_spec_l00Own_3 [.tmp 2] Try.func71 (by decide +kernel) rfl (by kernel_rfl) (by rw [ha]; exact hle) (by kernel_rfl) hp hk
theorem l00Own_g (l : List Int) (h : Heap) (hl : l.length ≤ 1048576) : ACalls Try.prog 71 [.snap 1 (l.map iv)] h (fun v h' => ∃ hp, Grow 1 v (l.map iv) hp ∧ h' = hp ++ h) := by
  refine c_spec_l00Own_of0 rfl noPure fun I => ?_
  cases l with
  | nil =>
    refine Run2.of I 1000 ?_
    simp -implicitDefEqProofs
    exact .emp
  | cons a l =>
    refine Run2.of I 1000 ?_
    simp -implicitDefEqProofs
    refine ⟨by simp at hl; omega, fun id hid => ⟨[(id, _)], .sl id _ _ (by simp), rfl⟩⟩
abbrev c_spec_l00Min_o0 : List AJ := [.o ⟨(some 4), none, false, .mv (.c (.int .i64 0)), (some [0, 1])⟩]
def c_spec_l00Min_0 : ACode := .region c_spec_l00Min_o0
abbrev c_spec_l00Min_o1 : List AJ := [.o ⟨(some 5), none, false, .mv (.t 0), none⟩, .o ⟨(some 6), none, false, .mv (.t 1), none⟩, .o ⟨(some 7), none, false, .bin .lss (.t 5) (.t 6), (some [0, 1, 7])⟩]
def c_spec_l00Min_1 : ACode := .region c_spec_l00Min_o1
abbrev c_spec_l00Min_o2 : List AJ := [.o ⟨(some 8), none, false, .mv (.t 0), none⟩, .o ⟨(some 4), none, false, .mv (.t 8), (some [4])⟩]
def c_spec_l00Min_2 : ACode := .region c_spec_l00Min_o2
def c_spec_l00Min_3 : ACode := .seq c_spec_l00Min_2 .ret
def c_spec_l00Min_4 : ACode := .cond (.t 7) c_spec_l00Min_3 .skip
def c_spec_l00Min_5 : ACode := .seq c_spec_l00Min_1 c_spec_l00Min_4
abbrev c_spec_l00Min_o3 : List AJ := [.o ⟨(some 9), none, false, .mv (.t 1), none⟩, .o ⟨(some 4), none, false, .mv (.t 9), (some [4])⟩]
def c_spec_l00Min_6 : ACode := .region c_spec_l00Min_o3
def c_spec_l00Min_7 : ACode := .seq c_spec_l00Min_6 .ret
def c_spec_l00Min_8 : ACode := .seq c_spec_l00Min_5 c_spec_l00Min_7
def c_spec_l00Min_9 : ACode := .seq c_spec_l00Min_0 c_spec_l00Min_8
section
variable (C : Cx) (n : Nat) (sk : List AItem) (e : Env) (h : Heap) (R : AV → Heap → Prop)
@[simp, simp ↓] theorem c_spec_l00Min_0_r : vc2 C (n + 1) [] (.code c_spec_l00Min_0 :: sk) e h R = (vc2 C n c_spec_l00Min_o0 sk e h R) := nr rfl
@[simp, simp ↓] theorem c_spec_l00Min_1_r : vc2 C (n + 1) [] (.code c_spec_l00Min_1 :: sk) e h R = (vc2 C n c_spec_l00Min_o1 sk e h R) := nr rfl
@[simp, simp ↓] theorem c_spec_l00Min_2_r : vc2 C (n + 1) [] (.code c_spec_l00Min_2 :: sk) e h R = (vc2 C n c_spec_l00Min_o2 sk e h R) := nr rfl
@[simp, simp ↓] theorem c_spec_l00Min_3_r : vc2 C (n + 1) [] (.code c_spec_l00Min_3 :: sk) e h R = (vc2 C n [] (.code c_spec_l00Min_2 :: .code .ret :: sk) e h R) := nr rfl
@[simp, simp ↓] theorem c_spec_l00Min_4_r : vc2 C (n + 1) [] (.code c_spec_l00Min_4 :: sk) e h R = (condK (ev e (.t 7)) (vc2 C n [] (.code c_spec_l00Min_3 :: sk) e h R) (vc2 C n [] (.code .skip :: sk) e h R)) := nr rfl
@[simp, simp ↓] theorem c_spec_l00Min_5_r : vc2 C (n + 1) [] (.code c_spec_l00Min_5 :: sk) e h R = (vc2 C n [] (.code c_spec_l00Min_1 :: .code c_spec_l00Min_4 :: sk) e h R) := nr rfl
@[simp, simp ↓] theorem c_spec_l00Min_6_r : vc2 C (n + 1) [] (.code c_spec_l00Min_6 :: sk) e h R = (vc2 C n c_spec_l00Min_o3 sk e h R) := nr rfl
@[simp, simp ↓] theorem c_spec_l00Min_7_r : vc2 C (n + 1) [] (.code c_spec_l00Min_7 :: sk) e h R = (vc2 C n [] (.code c_spec_l00Min_6 :: .code .ret :: sk) e h R) := nr rfl
@[simp, simp ↓] theorem c_spec_l00Min_8_r : vc2 C (n + 1) [] (.code c_spec_l00Min_8 :: sk) e h R = (vc2 C n [] (.code c_spec_l00Min_5 :: .code c_spec_l00Min_7 :: sk) e h R) := nr rfl
@[simp, simp ↓] theorem c_spec_l00Min_9_r : vc2 C (n + 1) [] (.code c_spec_l00Min_9 :: sk) e h R = (vc2 C n [] (.code c_spec_l00Min_0 :: .code c_spec_l00Min_8 :: sk) e h R) := nr rfl
end
noncomputable def c_spec_l00Min_C (orc : Orc) : Cx := ⟨Try.prog, [], 117, 10, [.tmp 4], orc⟩
@[simp] theorem c_spec_l00Min_C_P (orc : Orc) : (c_spec_l00Min_C orc).P = Try.prog := nr rfl
@[simp] theorem c_spec_l00Min_C_o (orc : Orc) : (c_spec_l00Min_C orc).orc = orc := nr rfl
@[simp] theorem c_spec_l00Min_C_r (orc : Orc) : (c_spec_l00Min_C orc).res = [.tmp 4] := nr rfl
theorem c_spec_l00Min_of {args : List AV} {h : Heap} {R : AV → Heap → Prop} {k : Nat} (ha : args.length = k) {orc : Orc} (hp : Pure Try.prog orc) (hk : Is (c_spec_l00Min_C orc) Try.f117 → Run2 (c_spec_l00Min_C orc) [.code c_spec_l00Min_9] (argEnv 0 args) h (Post R)) (hle : k ≤ 10 := by simp) : ACalls Try.prog 117 args h R :=
  contract2 [] c_spec_l00Min_9 [.tmp 4] Try.func117 (by decide +kernel) rfl (by kernel_rfl) (by rw [ha]; exact hle) (by kernel_rfl) hp hk
theorem c_spec_l00Min_of0 {args : List AV} {h : Heap} {R : AV → Heap → Prop} {k : Nat} (ha : args.length = k) {orc : Orc} (hp : Pure Try.prog orc) (hk : Is (c_spec_l00Min_C orc) Try.f117 → Run2 (c_spec_l00Min_C orc) [.code c_spec_l00Min_9] (argEnv 0 args) h R) (hle : k ≤ 10 := by simp) : ACalls Try.prog 117 args h R :=
  contract20 [] c_spec_l00Min_9 [.tmp 4] Try.func117 (by decide +kernel) rfl (by kernel_rfl) (by rw [ha]; exact hle) (by kernel_rfl) hp hk
theorem l00Min_c (a b : Int) (h : Heap) : ACalls Try.prog 117 [.int .i64 a, .int .i64 b] h (fun v h' => v = .int .i64 (min a b) ∧ h' = h) := by
  refine c_spec_l00Min_of0 rfl noPure fun I => ?_
  refine Run2.of I 1000 ?_
  simp -implicitDefEqProofs
  omega
noncomputable def o_l00Min : List AV → Option (Prop × AV) := tab (fun (x : Int × Int) => match x with | (a, b) => [.int .i64 a, .int .i64 b]) (fun x => match x with | (a, b) => True) (fun x => match x with | (a, b) => .int .i64 (min a b))
@[simp] theorem o_l00Min_e (a : Int) (b : Int) : o_l00Min [.int .i64 a, .int .i64 b] = some (True, .int .i64 (min a b)) := tab_at (enc := fun (x : Int × Int) => match x with | (a, b) => [.int .i64 a, .int .i64 b]) (fun x y h => by
  obtain ⟨a1, b1⟩ := x; obtain ⟨a2, b2⟩ := y; simp at h; simp [h]) _ _ (a, b)
theorem o_l00Min_k : Knows Try.prog 117 o_l00Min := tab_knows fun x hx h => by
  obtain ⟨a, b⟩ := x; exact l00Min_c _ _ h
abbrev c_spec_l00Max_o0 : List AJ := [.o ⟨(some 4), none, false, .mv (.c (.int .i64 0)), (some [0, 1])⟩]
def c_spec_l00Max_0 : ACode := .region c_spec_l00Max_o0
abbrev c_spec_l00Max_o1 : List AJ := [.o ⟨(some 5), none, false, .mv (.t 0), none⟩, .o ⟨(some 6), none, false, .mv (.t 1), none⟩, .o ⟨(some 7), none, false, .bin .gtr (.t 5) (.t 6), (some [0, 1, 7])⟩]
def c_spec_l00Max_1 : ACode := .region c_spec_l00Max_o1
abbrev c_spec_l00Max_o2 : List AJ := [.o ⟨(some 8), none, false, .mv (.t 0), none⟩, .o ⟨(some 4), none, false, .mv (.t 8), (some [4])⟩]
def c_spec_l00Max_2 : ACode := .region c_spec_l00Max_o2
def c_spec_l00Max_3 : ACode := .seq c_spec_l00Max_2 .ret
def c_spec_l00Max_4 : ACode := .cond (.t 7) c_spec_l00Max_3 .skip
def c_spec_l00Max_5 : ACode := .seq c_spec_l00Max_1 c_spec_l00Max_4
abbrev c_spec_l00Max_o3 : List AJ := [.o ⟨(some 9), none, false, .mv (.t 1), none⟩, .o ⟨(some 4), none, false, .mv (.t 9), (some [4])⟩]
def c_spec_l00Max_6 : ACode := .region c_spec_l00Max_o3
def c_spec_l00Max_7 : ACode := .seq c_spec_l00Max_6 .ret
def c_spec_l00Max_8 : ACode := .seq c_spec_l00Max_5 c_spec_l00Max_7
def c_spec_l00Max_9 : ACode := .seq c_spec_l00Max_0 c_spec_l00Max_8
section
variable (C : Cx) (n : Nat) (sk : List AItem) (e : Env) (h : Heap) (R : AV → Heap → Prop)
@[simp, simp ↓] theorem c_spec_l00Max_0_r : vc2 C (n + 1) [] (.code c_spec_l00Max_0 :: sk) e h R = (vc2 C n c_spec_l00Max_o0 sk e h R) := nr rfl
@[simp, simp ↓] theorem c_spec_l00Max_1_r : vc2 C (n + 1) [] (.code c_spec_l00Max_1 :: sk) e h R = (vc2 C n c_spec_l00Max_o1 sk e h R) := nr rfl
@[simp, simp ↓] theorem c_spec_l00Max_2_r : vc2 C (n + 1) [] (.code c_spec_l00Max_2 :: sk) e h R = (vc2 C n c_spec_l00Max_o2 sk e h R) := nr rfl
@[simp, simp ↓] theorem c_spec_l00Max_3_r : vc2 C (n + 1) [] (.code c_spec_l00Max_3 :: sk) e h R = (vc2 C n [] (.code c_spec_l00Max_2 :: .code .ret :: sk) e h R) := nr rfl
@[simp, simp ↓] theorem c_spec_l00Max_4_r : vc2 C (n + 1) [] (.code c_spec_l00Max_4 :: sk) e h R = (condK (ev e (.t 7)) (vc2 C n [] (.code c_spec_l00Max_3 :: sk) e h R) (vc2 C n [] (.code .skip :: sk) e h R)) := nr rfl
@[simp, simp ↓] theorem c_spec_l00Max_5_r : vc2 C (n + 1) [] (.code c_spec_l00Max_5 :: sk) e h R = (vc2 C n [] (.code c_spec_l00Max_1 :: .code c_spec_l00Max_4 :: sk) e h R) := nr rfl
@[simp, simp ↓] theorem c_spec_l00Max_6_r : vc2 C (n + 1) [] (.code c_spec_l00Max_6 :: sk) e h R = (vc2 C n c_spec_l00Max_o3 sk e h R) := nr rfl
@[simp, simp ↓] theorem c_spec_l00Max_7_r : vc2 C (n + 1) [] (.code c_spec_l00Max_7 :: sk) e h R = (vc2 C n [] (.code c_spec_l00Max_6 :: .code .ret :: sk) e h R) := nr rfl
@[simp, simp ↓] theorem c_spec_l00Max_8_r : vc2 C (n + 1) [] (.code c_spec_l00Max_8 :: sk) e h R = (vc2 C n [] (.code c_spec_l00Max_5 :: .code c_spec_l00Max_7 :: sk) e h R) := nr rfl
@[simp, simp ↓] theorem c_spec_l00Max_9_r : vc2 C (n + 1) [] (.code c_spec_l00Max_9 :: sk) e h R = (vc2 C n [] (.code c_spec_l00Max_0 :: .code c_spec_l00Max_8 :: sk) e h R) := nr rfl
end
noncomputable def c_spec_l00Max_C (orc : Orc) : Cx := ⟨Try.prog, [], 118, 10, [.tmp 4], orc⟩
@[simp] theorem c_spec_l00Max_C_P (orc : Orc) : (c_spec_l00Max_C orc).P = Try.prog := nr rfl
@[simp] theorem c_spec_l00Max_C_o (orc : Orc) : (c_spec_l00Max_C orc).orc = orc := nr rfl
@[simp] theorem c_spec_l00Max_C_r (orc : Orc) : (c_spec_l00Max_C orc).res = [.tmp 4] := nr rfl
theorem c_spec_l00Max_of {args : List AV} {h : Heap} {R : AV → Heap → Prop} {k : Nat} (ha : args.length = k) {orc : Orc} (hp : Pure Try.prog orc) (hk : Is (c_spec_l00Max_C orc) Try.f118 → Run2 (c_spec_l00Max_C orc) [.code c_spec_l00Max_9] (argEnv 0 args) h (Post R)) (hle : k ≤ 10 := by simp) : ACalls Try.prog 118 args h R :=
  contract2 [] c_spec_l00Max_9 [.tmp 4] Try.func118 (by decide +kernel) rfl (by kernel_rfl) (by rw [ha]; exact hle) (by kernel_rfl) hp hk
theorem c_spec_l00Max_of0 {args : List AV} {h : Heap} {R : AV → Heap → Prop} {k : Nat} (ha : args.length = k) {orc : Orc} (hp : Pure Try.prog orc) (hk : Is (c_spec_l00Max_C orc) Try.f118 → Run2 (c_spec_l00Max_C orc) [.code c_spec_l00Max_9] (argEnv 0 args) h R) (hle : k ≤ 10 := by simp) : ACalls Try.prog 118 args h R :=
  contract20 [] c_spec_l00Max_9 [.tmp 4] Try.func118 (by decide +kernel) rfl (by kernel_rfl) (by rw [ha]; exact hle) (by kernel_rfl) hp hk
theorem l00Max_c (a b : Int) (h : Heap) : ACalls Try.prog 118 [.int .i64 a, .int .i64 b] h (fun v h' => v = .int .i64 (max a b) ∧ h' = h) := by
  refine c_spec_l00Max_of0 rfl noPure fun I => ?_
  refine Run2.of I 1000 ?_
  simp -implicitDefEqProofs
  omega
noncomputable def o_l00Max : List AV → Option (Prop × AV) := tab (fun (x : Int × Int) => match x with | (a, b) => [.int .i64 a, .int .i64 b]) (fun x => match x with | (a, b) => True) (fun x => match x with | (a, b) => .int .i64 (max a b))
@[simp] theorem o_l00Max_e (a : Int) (b : Int) : o_l00Max [.int .i64 a, .int .i64 b] = some (True, .int .i64 (max a b)) := tab_at (enc := fun (x : Int × Int) => match x with | (a, b) => [.int .i64 a, .int .i64 b]) (fun x y h => by
  obtain ⟨a1, b1⟩ := x; obtain ⟨a2, b2⟩ := y; simp at h; simp [h]) _ _ (a, b)
theorem o_l00Max_k : Knows Try.prog 118 o_l00Max := tab_knows fun x hx h => by
  obtain ⟨a, b⟩ := x; exact l00Max_c _ _ h
noncomputable def orcX : List (Nat × (List AV → Option (Prop × AV))) := (117, o_l00Min) :: (118, o_l00Max) :: []
theorem orcX_p : Pure Try.prog (lk orcX) := (lk_pure o_l00Min_k (lk_pure o_l00Max_k lk_pure0))
@[simp] theorem orcX_l (g : FuncId) (l : List AV) : lk orcX g l = if g = 117 then o_l00Min l else if g = 118 then o_l00Max l else none := nr rfl
abbrev c_spec_l24Exchange_o0 : List AJ := [.o ⟨(some 8), none, false, .mv (.c .nilsl), (some [0, 1, 2, 3])⟩]
def c_spec_l24Exchange_0 : ACode := .region c_spec_l24Exchange_o0
abbrev c_spec_l24Exchange_o1 : List AJ := [.o ⟨(some 16), none, false, .mv (.t 2), none⟩, .o ⟨(some 17), none, false, .call 71 [(.t 16)], none⟩, .o ⟨(some 9), none, false, .mv (.t 17), (some [0, 1, 3, 9])⟩]
def c_spec_l24Exchange_1 : ACode := .region c_spec_l24Exchange_o1
abbrev c_spec_l24Exchange_o2 : List AJ := [.o ⟨(some 10), none, false, .mv (.c (.int .i64 0)), (some [0, 1, 3, 9, 10])⟩]
def c_spec_l24Exchange_2 : ACode := .region c_spec_l24Exchange_o2
abbrev c_spec_l24Exchange_o3 : List AJ := [.o ⟨(some 18), none, false, .mv (.t 10), none⟩, .o ⟨(some 19), none, false, .mv (.t 3), none⟩, .o ⟨(some 20), none, false, .bin .lss (.t 18) (.t 19), none⟩, .o ⟨(some 21), none, false, .mv (.t 20), none⟩, .o ⟨(some 22), (some (21, true)), false, .mv (.t 1), none⟩, .o ⟨(some 23), (some (21, true)), false, .len (.t 22), none⟩, .o ⟨(some 24), (some (21, true)), false, .bin .gtr (.t 23) (.c (.int .i64 0)), none⟩, .o ⟨(some 25), none, false, .pick (.t 21) (.t 24) (.c (.bool false)), (some [0, 1, 3, 9, 10, 25])⟩]
def c_spec_l24Exchange_3 : ACode := .region c_spec_l24Exchange_o3
def c_spec_l24Exchange_4 : ACode := .cond (.t 25) .skip (.exit 0)
def c_spec_l24Exchange_5 : ACode := .seq c_spec_l24Exchange_3 c_spec_l24Exchange_4
abbrev c_spec_l24Exchange_o4 : List AJ := [.o ⟨(some 28), none, false, .mv (.t 1), none⟩, .o ⟨(some 29), none, false, .mv (.t 10), none⟩, .o ⟨(some 30), none, false, .mv (.t 1), none⟩, .o ⟨(some 31), none, false, .len (.t 30), none⟩, .o ⟨(some 32), none, false, .bin .rem (.t 29) (.t 31), none⟩, .o ⟨(some 33), none, false, .idxA 1 (.t 28) (.t 32), none⟩, .o ⟨(some 34), none, false, .load 1 false (.t 33), none⟩, .o ⟨(some 11), none, false, .mv (.t 34), (some [0, 1, 3, 9, 10, 11])⟩]
def c_spec_l24Exchange_6 : ACode := .region c_spec_l24Exchange_o4
abbrev c_spec_l24Exchange_o5 : List AJ := [.o ⟨(some 12), none, false, .mv (.c (.int .i64 0)), (some [0, 1, 3, 9, 10, 11, 12])⟩]
def c_spec_l24Exchange_7 : ACode := .region c_spec_l24Exchange_o5
abbrev c_spec_l24Exchange_o6 : List AJ := [.o ⟨(some 35), none, false, .mv (.t 12), none⟩, .o ⟨(some 36), none, false, .mv (.t 11), none⟩, .o ⟨(some 37), none, false, .len (.t 36), none⟩, .o ⟨(some 38), none, false, .bin .lss (.t 35) (.t 37), (some [0, 1, 3, 9, 10, 11, 12, 38])⟩]
def c_spec_l24Exchange_8 : ACode := .region c_spec_l24Exchange_o6
def c_spec_l24Exchange_9 : ACode := .cond (.t 38) .skip (.exit 2)
def c_spec_l24Exchange_10 : ACode := .seq c_spec_l24Exchange_8 c_spec_l24Exchange_9
abbrev c_spec_l24Exchange_o7 : List AJ := [.o ⟨(some 41), none, false, .mv (.t 0), none⟩, .o ⟨(some 42), none, false, .nilchk (.t 41), none⟩, .o ⟨(some 43), none, false, .fieldA 1 (.t 42), none⟩, .o ⟨(some 44), none, false, .load 1 false (.t 43), none⟩, .o ⟨(some 45), none, false, .mv (.t 11), none⟩, .o ⟨(some 46), none, false, .mv (.t 12), none⟩, .o ⟨(some 47), none, false, .idxA 1 (.t 45) (.t 46), none⟩, .o ⟨(some 48), none, false, .load 1 false (.t 47), none⟩, .o ⟨(some 49), none, false, .idxA 3 (.t 44) (.t 48), none⟩, .o ⟨(some 50), none, false, .load 3 true (.t 49), none⟩, .v 13 3 (.agg [(.int .i64 0), (.int .i64 0), (.int .i64 0)]) [] (.t 50) (some [0, 1, 3, 9, 10, 11, 12, 13])]
def c_spec_l24Exchange_11 : ACode := .drawT 0 c_spec_l24Exchange_o7 rfl
abbrev c_spec_l24Exchange_o8 : List AI := [⟨(some 51), none, false, .mv (.t 9), none⟩, ⟨(some 52), none, false, .fieldA 0 (.t 13), none⟩, ⟨(some 53), none, false, .load 1 false (.t 52), none⟩, ⟨(some 54), none, false, .idxA 1 (.t 51) (.t 53), none⟩, ⟨(some 55), none, false, .load 1 false (.t 54), none⟩, ⟨(some 56), none, false, .mv (.t 9), none⟩, ⟨(some 57), none, false, .fieldA 1 (.t 13), none⟩, ⟨(some 58), none, false, .load 1 false (.t 57), none⟩, ⟨(some 59), none, false, .idxA 1 (.t 56) (.t 58), none⟩, ⟨(some 60), none, false, .load 1 false (.t 59), none⟩, ⟨(some 61), none, false, .call 117 [(.t 55), (.t 60)], none⟩, ⟨(some 14), none, false, .mv (.t 61), (some [0, 1, 3, 9, 10, 11, 12, 13, 14])⟩]
def c_spec_l24Exchange_12 : ACode := .draw c_spec_l24Exchange_o8 [] rfl
abbrev c_spec_l24Exchange_o9 : List AI := [⟨(some 62), none, false, .mv (.t 9), none⟩, ⟨(some 63), none, false, .fieldA 0 (.t 13), none⟩, ⟨(some 64), none, false, .load 1 false (.t 63), none⟩, ⟨(some 65), none, false, .idxA 1 (.t 62) (.t 64), none⟩, ⟨(some 66), none, false, .load 1 false (.t 65), none⟩, ⟨(some 67), none, false, .mv (.t 9), none⟩, ⟨(some 68), none, false, .fieldA 1 (.t 13), none⟩, ⟨(some 69), none, false, .load 1 false (.t 68), none⟩, ⟨(some 70), none, false, .idxA 1 (.t 67) (.t 69), none⟩, ⟨(some 71), none, false, .load 1 false (.t 70), none⟩, ⟨(some 72), none, false, .call 118 [(.t 66), (.t 71)], none⟩, ⟨(some 15), none, false, .mv (.t 72), (some [0, 1, 3, 9, 10, 11, 12, 13, 14, 15])⟩]
def c_spec_l24Exchange_13 : ACode := .draw c_spec_l24Exchange_o9 [] rfl
abbrev c_spec_l24Exchange_o10 : List AJ := [.o ⟨(some 73), none, false, .mv (.t 9), none⟩, .o ⟨(some 74), none, false, .fieldA 0 (.t 13), none⟩, .o ⟨(some 75), none, false, .load 1 false (.t 74), none⟩, .o ⟨(some 76), none, false, .mv (.t 14), none⟩, .o ⟨(some 77), none, false, .idxA 1 (.t 73) (.t 75), none⟩, .o ⟨none, none, false, .store 1 (.t 77) (.t 76), (some [0, 1, 3, 9, 10, 11, 12, 13, 15])⟩]
def c_spec_l24Exchange_14 : ACode := .region c_spec_l24Exchange_o10
abbrev c_spec_l24Exchange_o11 : List AJ := [.o ⟨(some 78), none, false, .mv (.t 9), none⟩, .o ⟨(some 79), none, false, .fieldA 1 (.t 13), none⟩, .o ⟨(some 80), none, false, .load 1 false (.t 79), none⟩, .o ⟨(some 81), none, false, .mv (.t 15), none⟩, .o ⟨(some 82), none, false, .idxA 1 (.t 78) (.t 80), none⟩, .o ⟨none, none, false, .store 1 (.t 82) (.t 81), (some [0, 1, 3, 9, 10, 11, 12])⟩]
def c_spec_l24Exchange_15 : ACode := .region c_spec_l24Exchange_o11
def c_spec_l24Exchange_16 : ACode := .seq c_spec_l24Exchange_14 c_spec_l24Exchange_15
def c_spec_l24Exchange_17 : ACode := .seq c_spec_l24Exchange_13 c_spec_l24Exchange_16
def c_spec_l24Exchange_18 : ACode := .seq c_spec_l24Exchange_12 c_spec_l24Exchange_17
def c_spec_l24Exchange_19 : ACode := .seq c_spec_l24Exchange_11 c_spec_l24Exchange_18
def c_spec_l24Exchange_20 : ACode := .block 3 c_spec_l24Exchange_19
abbrev c_spec_l24Exchange_o12 : List AJ := [.o ⟨(some 39), none, false, .mv (.t 12), none⟩, .o ⟨(some 40), none, true, .bin .add (.t 39) (.c (.int .i64 1)), none⟩, .o ⟨(some 12), none, false, .mv (.t 40), (some [0, 1, 3, 9, 10, 11, 12])⟩]
def c_spec_l24Exchange_21 : ACode := .region c_spec_l24Exchange_o12
def c_spec_l24Exchange_22 : ACode := .seq c_spec_l24Exchange_20 c_spec_l24Exchange_21
def c_spec_l24Exchange_23 : ACode := .seq c_spec_l24Exchange_10 c_spec_l24Exchange_22
def c_spec_l24Exchange_24 : ACode := .loop c_spec_l24Exchange_23
def c_spec_l24Exchange_25 : ACode := .block 2 c_spec_l24Exchange_24
def c_spec_l24Exchange_26 : ACode := .seq c_spec_l24Exchange_7 c_spec_l24Exchange_25
def c_spec_l24Exchange_27 : ACode := .seq c_spec_l24Exchange_6 c_spec_l24Exchange_26
def c_spec_l24Exchange_28 : ACode := .block 1 c_spec_l24Exchange_27
abbrev c_spec_l24Exchange_o13 : List AJ := [.o ⟨(some 26), none, false, .mv (.t 10), none⟩, .o ⟨(some 27), none, true, .bin .add (.t 26) (.c (.int .i64 1)), none⟩, .o ⟨(some 10), none, false, .mv (.t 27), (some [0, 1, 3, 9, 10])⟩]
def c_spec_l24Exchange_29 : ACode := .region c_spec_l24Exchange_o13
def c_spec_l24Exchange_30 : ACode := .seq c_spec_l24Exchange_28 c_spec_l24Exchange_29
def c_spec_l24Exchange_31 : ACode := .seq c_spec_l24Exchange_5 c_spec_l24Exchange_30
def c_spec_l24Exchange_32 : ACode := .loop c_spec_l24Exchange_31
def c_spec_l24Exchange_33 : ACode := .block 0 c_spec_l24Exchange_32
def c_spec_l24Exchange_34 : ACode := .seq c_spec_l24Exchange_2 c_spec_l24Exchange_33
abbrev c_spec_l24Exchange_o14 : List AJ := [.o ⟨(some 83), none, false, .mv (.t 9), none⟩, .o ⟨(some 8), none, false, .mv (.t 83), (some [8])⟩]
def c_spec_l24Exchange_35 : ACode := .region c_spec_l24Exchange_o14
def c_spec_l24Exchange_36 : ACode := .seq c_spec_l24Exchange_35 .ret
def c_spec_l24Exchange_37 : ACode := .seq c_spec_l24Exchange_34 c_spec_l24Exchange_36
def c_spec_l24Exchange_38 : ACode := .seq c_spec_l24Exchange_1 c_spec_l24Exchange_37
def c_spec_l24Exchange_39 : ACode := .seq c_spec_l24Exchange_0 c_spec_l24Exchange_38
section
variable (C : Cx) (n : Nat) (sk : List AItem) (e : Env) (h : Heap) (R : AV → Heap → Prop)
@[simp, simp ↓] theorem c_spec_l24Exchange_0_r : vc2 C (n + 1) [] (.code c_spec_l24Exchange_0 :: sk) e h R = (vc2 C n c_spec_l24Exchange_o0 sk e h R) := nr rfl
@[simp, simp ↓] theorem c_spec_l24Exchange_1_r : vc2 C (n + 1) [] (.code c_spec_l24Exchange_1 :: sk) e h R = (vc2 C n c_spec_l24Exchange_o1 sk e h R) := nr rfl
@[simp, simp ↓] theorem c_spec_l24Exchange_2_r : vc2 C (n + 1) [] (.code c_spec_l24Exchange_2 :: sk) e h R = (vc2 C n c_spec_l24Exchange_o2 sk e h R) := nr rfl
@[simp, simp ↓] theorem c_spec_l24Exchange_3_r : vc2 C (n + 1) [] (.code c_spec_l24Exchange_3 :: sk) e h R = (vc2 C n c_spec_l24Exchange_o3 sk e h R) := nr rfl
@[simp, simp ↓] theorem c_spec_l24Exchange_4_r : vc2 C (n + 1) [] (.code c_spec_l24Exchange_4 :: sk) e h R = (condK (ev e (.t 25)) (vc2 C n [] (.code .skip :: sk) e h R) (vc2 C n [] (.code (.exit 0) :: sk) e h R)) := nr rfl
@[simp, simp ↓] theorem c_spec_l24Exchange_5_r : vc2 C (n + 1) [] (.code c_spec_l24Exchange_5 :: sk) e h R = (vc2 C n [] (.code c_spec_l24Exchange_3 :: .code c_spec_l24Exchange_4 :: sk) e h R) := nr rfl
@[simp, simp ↓] theorem c_spec_l24Exchange_6_r : vc2 C (n + 1) [] (.code c_spec_l24Exchange_6 :: sk) e h R = (vc2 C n c_spec_l24Exchange_o4 sk e h R) := nr rfl
@[simp, simp ↓] theorem c_spec_l24Exchange_7_r : vc2 C (n + 1) [] (.code c_spec_l24Exchange_7 :: sk) e h R = (vc2 C n c_spec_l24Exchange_o5 sk e h R) := nr rfl
@[simp, simp ↓] theorem c_spec_l24Exchange_8_r : vc2 C (n + 1) [] (.code c_spec_l24Exchange_8 :: sk) e h R = (vc2 C n c_spec_l24Exchange_o6 sk e h R) := nr rfl
@[simp, simp ↓] theorem c_spec_l24Exchange_9_r : vc2 C (n + 1) [] (.code c_spec_l24Exchange_9 :: sk) e h R = (condK (ev e (.t 38)) (vc2 C n [] (.code .skip :: sk) e h R) (vc2 C n [] (.code (.exit 2) :: sk) e h R)) := nr rfl
@[simp, simp ↓] theorem c_spec_l24Exchange_10_r : vc2 C (n + 1) [] (.code c_spec_l24Exchange_10 :: sk) e h R = (vc2 C n [] (.code c_spec_l24Exchange_8 :: .code c_spec_l24Exchange_9 :: sk) e h R) := nr rfl
@[simp, simp ↓] theorem c_spec_l24Exchange_11_r : vc2 C (n + 1) [] (.code c_spec_l24Exchange_11 :: sk) e h R = (200 ≤ n ∧ vc2 C n c_spec_l24Exchange_o7 sk e h R) := nr rfl
@[simp, simp ↓] theorem c_spec_l24Exchange_12_r : vc2 C (n + 1) [] (.code c_spec_l24Exchange_12 :: sk) e h R = (draw2 C h (vK C n [] sk R h) c_spec_l24Exchange_o8 e) := nr rfl
@[simp, simp ↓] theorem c_spec_l24Exchange_13_r : vc2 C (n + 1) [] (.code c_spec_l24Exchange_13 :: sk) e h R = (draw2 C h (vK C n [] sk R h) c_spec_l24Exchange_o9 e) := nr rfl
@[simp, simp ↓] theorem c_spec_l24Exchange_14_r : vc2 C (n + 1) [] (.code c_spec_l24Exchange_14 :: sk) e h R = (vc2 C n c_spec_l24Exchange_o10 sk e h R) := nr rfl
@[simp, simp ↓] theorem c_spec_l24Exchange_15_r : vc2 C (n + 1) [] (.code c_spec_l24Exchange_15 :: sk) e h R = (vc2 C n c_spec_l24Exchange_o11 sk e h R) := nr rfl
@[simp, simp ↓] theorem c_spec_l24Exchange_16_r : vc2 C (n + 1) [] (.code c_spec_l24Exchange_16 :: sk) e h R = (vc2 C n [] (.code c_spec_l24Exchange_14 :: .code c_spec_l24Exchange_15 :: sk) e h R) := nr rfl
@[simp, simp ↓] theorem c_spec_l24Exchange_17_r : vc2 C (n + 1) [] (.code c_spec_l24Exchange_17 :: sk) e h R = (vc2 C n [] (.code c_spec_l24Exchange_13 :: .code c_spec_l24Exchange_16 :: sk) e h R) := nr rfl
@[simp, simp ↓] theorem c_spec_l24Exchange_18_r : vc2 C (n + 1) [] (.code c_spec_l24Exchange_18 :: sk) e h R = (vc2 C n [] (.code c_spec_l24Exchange_12 :: .code c_spec_l24Exchange_17 :: sk) e h R) := nr rfl
@[simp, simp ↓] theorem c_spec_l24Exchange_19_r : vc2 C (n + 1) [] (.code c_spec_l24Exchange_19 :: sk) e h R = (vc2 C n [] (.code c_spec_l24Exchange_11 :: .code c_spec_l24Exchange_18 :: sk) e h R) := nr rfl
@[simp, simp ↓] theorem c_spec_l24Exchange_20_r : vc2 C (n + 1) [] (.code c_spec_l24Exchange_20 :: sk) e h R = (vc2 C n [] (.code c_spec_l24Exchange_19 :: .inBlock 3 :: sk) e h R) := nr rfl
@[simp, simp ↓] theorem c_spec_l24Exchange_21_r : vc2 C (n + 1) [] (.code c_spec_l24Exchange_21 :: sk) e h R = (vc2 C n c_spec_l24Exchange_o12 sk e h R) := nr rfl
@[simp, simp ↓] theorem c_spec_l24Exchange_22_r : vc2 C (n + 1) [] (.code c_spec_l24Exchange_22 :: sk) e h R = (vc2 C n [] (.code c_spec_l24Exchange_20 :: .code c_spec_l24Exchange_21 :: sk) e h R) := nr rfl
@[simp, simp ↓] theorem c_spec_l24Exchange_23_r : vc2 C (n + 1) [] (.code c_spec_l24Exchange_23 :: sk) e h R = (vc2 C n [] (.code c_spec_l24Exchange_10 :: .code c_spec_l24Exchange_22 :: sk) e h R) := nr rfl
@[simp, simp ↓] theorem c_spec_l24Exchange_24_r : vc2 C (n + 1) [] (.code c_spec_l24Exchange_24 :: sk) e h R = (Run2 C (.code c_spec_l24Exchange_23 :: .inLoop c_spec_l24Exchange_23 :: sk) e h R) := nr rfl
@[simp, simp ↓] theorem c_spec_l24Exchange_25_r : vc2 C (n + 1) [] (.code c_spec_l24Exchange_25 :: sk) e h R = (vc2 C n [] (.code c_spec_l24Exchange_24 :: .inBlock 2 :: sk) e h R) := nr rfl
@[simp, simp ↓] theorem c_spec_l24Exchange_26_r : vc2 C (n + 1) [] (.code c_spec_l24Exchange_26 :: sk) e h R = (vc2 C n [] (.code c_spec_l24Exchange_7 :: .code c_spec_l24Exchange_25 :: sk) e h R) := nr rfl
@[simp, simp ↓] theorem c_spec_l24Exchange_27_r : vc2 C (n + 1) [] (.code c_spec_l24Exchange_27 :: sk) e h R = (vc2 C n [] (.code c_spec_l24Exchange_6 :: .code c_spec_l24Exchange_26 :: sk) e h R) := nr rfl
@[simp, simp ↓] theorem c_spec_l24Exchange_28_r : vc2 C (n + 1) [] (.code c_spec_l24Exchange_28 :: sk) e h R = (vc2 C n [] (.code c_spec_l24Exchange_27 :: .inBlock 1 :: sk) e h R) := nr rfl
@[simp, simp ↓] theorem c_spec_l24Exchange_29_r : vc2 C (n + 1) [] (.code c_spec_l24Exchange_29 :: sk) e h R = (vc2 C n c_spec_l24Exchange_o13 sk e h R) := nr rfl
@[simp, simp ↓] theorem c_spec_l24Exchange_30_r : vc2 C (n + 1) [] (.code c_spec_l24Exchange_30 :: sk) e h R = (vc2 C n [] (.code c_spec_l24Exchange_28 :: .code c_spec_l24Exchange_29 :: sk) e h R) := nr rfl
@[simp, simp ↓] theorem c_spec_l24Exchange_31_r : vc2 C (n + 1) [] (.code c_spec_l24Exchange_31 :: sk) e h R = (vc2 C n [] (.code c_spec_l24Exchange_5 :: .code c_spec_l24Exchange_30 :: sk) e h R) := nr rfl
@[simp, simp ↓] theorem c_spec_l24Exchange_32_r : vc2 C (n + 1) [] (.code c_spec_l24Exchange_32 :: sk) e h R = (Run2 C (.code c_spec_l24Exchange_31 :: .inLoop c_spec_l24Exchange_31 :: sk) e h R) := nr rfl
@[simp, simp ↓] theorem c_spec_l24Exchange_33_r : vc2 C (n + 1) [] (.code c_spec_l24Exchange_33 :: sk) e h R = (vc2 C n [] (.code c_spec_l24Exchange_32 :: .inBlock 0 :: sk) e h R) := nr rfl
@[simp, simp ↓] theorem c_spec_l24Exchange_34_r : vc2 C (n + 1) [] (.code c_spec_l24Exchange_34 :: sk) e h R = (vc2 C n [] (.code c_spec_l24Exchange_2 :: .code c_spec_l24Exchange_33 :: sk) e h R) := nr rfl
@[simp, simp ↓] theorem c_spec_l24Exchange_35_r : vc2 C (n + 1) [] (.code c_spec_l24Exchange_35 :: sk) e h R = (vc2 C n c_spec_l24Exchange_o14 sk e h R) := nr rfl
@[simp, simp ↓] theorem c_spec_l24Exchange_36_r : vc2 C (n + 1) [] (.code c_spec_l24Exchange_36 :: sk) e h R = (vc2 C n [] (.code c_spec_l24Exchange_35 :: .code .ret :: sk) e h R) := nr rfl
@[simp, simp ↓] theorem c_spec_l24Exchange_37_r : vc2 C (n + 1) [] (.code c_spec_l24Exchange_37 :: sk) e h R = (vc2 C n [] (.code c_spec_l24Exchange_34 :: .code c_spec_l24Exchange_36 :: sk) e h R) := nr rfl
@[simp, simp ↓] theorem c_spec_l24Exchange_38_r : vc2 C (n + 1) [] (.code c_spec_l24Exchange_38 :: sk) e h R = (vc2 C n [] (.code c_spec_l24Exchange_1 :: .code c_spec_l24Exchange_37 :: sk) e h R) := nr rfl
@[simp, simp ↓] theorem c_spec_l24Exchange_39_r : vc2 C (n + 1) [] (.code c_spec_l24Exchange_39 :: sk) e h R = (vc2 C n [] (.code c_spec_l24Exchange_0 :: .code c_spec_l24Exchange_38 :: sk) e h R) := nr rfl
end
noncomputable def c_spec_l24Exchange_C (orc : Orc) : Cx := ⟨Try.prog, [13], 77, 84, [.tmp 8], orc⟩
@[simp] theorem c_spec_l24Exchange_C_P (orc : Orc) : (c_spec_l24Exchange_C orc).P = Try.prog := nr rfl
@[simp] theorem c_spec_l24Exchange_C_o (orc : Orc) : (c_spec_l24Exchange_C orc).orc = orc := nr rfl
@[simp] theorem c_spec_l24Exchange_C_r (orc : Orc) : (c_spec_l24Exchange_C orc).res = [.tmp 8] := nr rfl
theorem c_spec_l24Exchange_of {args : List AV} {h : Heap} {R : AV → Heap → Prop} {k : Nat} (ha : args.length = k) {orc : Orc} (hp : Pure Try.prog orc) (hk : Is (c_spec_l24Exchange_C orc) Try.f77 → Run2 (c_spec_l24Exchange_C orc) [.code c_spec_l24Exchange_39] (argEnv 0 args) h (Post R)) (hle : k ≤ 84 := by simp) : ACalls Try.prog 77 args h R :=
  contract2 [13] c_spec_l24Exchange_39 [.tmp 8] Try.func77 (by decide +kernel) rfl (by kernel_rfl) (by rw [ha]; exact hle) (by kernel_rfl) hp hk
theorem c_spec_l24Exchange_of0 {args : List AV} {h : Heap} {R : AV → Heap → Prop} {k : Nat} (ha : args.length = k) {orc : Orc} (hp : Pure Try.prog orc) (hk : Is (c_spec_l24Exchange_C orc) Try.f77 → Run2 (c_spec_l24Exchange_C orc) [.code c_spec_l24Exchange_39] (argEnv 0 args) h R) (hle : k ≤ 84 := by simp) : ACalls Try.prog 77 args h R :=
  contract20 [13] c_spec_l24Exchange_39 [.tmp 8] Try.func77 (by decide +kernel) rfl (by kernel_rfl) (by rw [ha]; exact hle) (by kernel_rfl) hp hk
theorem l24Exchange_g (x : Gr) (rs : List (List Int)) (v : List Int) (times : Int) (h : Heap) (hr : ssTot rs ≤ 1048576) (hv : x.valid) (hok : x.rsOk rs) (hvl : v.length ≤ 1048576) (hnl : (v.length : Int) = x.n) (ht : 0 ≤ times ∧ times ≤ 100) : ACalls Try.prog 77 [.ip [.int .i64 x.n, .snap 3 (x.ts.map T.av)], .snap 1 (rs.map il), .snap 1 (v.map iv), .int .i64 times] h (fun w h' => ∃ hp, Grow 1 w ((runT x exch rs v times.toNat).map iv) hp ∧ h' = hp ++ h) := by
  have hn := (fit_of_tot hr).1
  have hn1 := hv.1
  have hin : ∀ r ∈ rs, ∀ k ∈ r, x.inR k := fun r hr k hk => (hok.1 r hr).2.2.1 k hk
  refine c_spec_l24Exchange_of0 rfl orcX_p fun I => ?_
  refine Run2.of I 1000 ?_
  simp -implicitDefEqProofs
  refine (l00Own_g v h hvl).mono ?_
  rintro u h' ⟨hp, G, rfl⟩
  refine gK.go ?_
  generalize hm : v.map iv = m at G
  cases G with
  | nil => simp at hm; subst hm; simp at hnl; omega
  | emp => simp at hm; subst hm; simp at hnl; omega
  | sl id m n hn0 =>
    subst hm
    simp only [List.length_map] at hn0
    subst hn0
    simp -implicitDefEqProofs
    have hI := fun t => runT_inv x exch (Inv := fun l => l.length = v.length) (fun a e _ ha => by rw [exch_length]; exact ha) hin (rs := rs) (a := v) rfl t
    have hout : ∃ hp, Grow 1 (.sl id 1 0 v.length none) ((runT x exch rs v times.toNat).map iv) hp ∧ ((id, (⟨1, (runT x exch rs v times.toNat).map iv⟩ : Blk)) :: h) = hp ++ h := ⟨_, .sl id _ _ (by rw [List.length_map]; exact (hI _).symm), rfl⟩
    by_cases hne : rs = []
    · subst hne
      refine Run2.loopE (α := Unit) (fun _ => [(0, .ip [.int .i64 x.n, .snap 3 (x.ts.map T.av)]), (1, .snap 1 []), (3, .int .i64 times), (9, .sl id 1 0 v.length none), (10, .int .i64 0)]) (fun _ => (id, ⟨1, v.map iv⟩) :: h) (fun _ => 0) (fun _ => True) () (by simp) rfl trivial fun _ _ _ => ?_
      refine Run2.of I 1000 ?_
      simp -implicitDefEqProofs
      have hf : ∃ hp, Grow 1 (.sl id 1 0 v.length none) ((runT x exch [] v times.toNat).map iv) hp ∧ ((id, (⟨1, v.map iv⟩ : Blk)) :: h) = hp ++ h := by
        rw [runT_nil]
        exact ⟨_, .sl id _ _ (by simp), rfl⟩
      exact ⟨fun _ => hf, fun _ => hf⟩
    · have hpos : 0 < rs.length := List.length_pos_iff.2 hne
      refine Run2.loopE (fun (i : Nat) => [(0, .ip [.int .i64 x.n, .snap 3 (x.ts.map T.av)]), (1, .snap 1 (rs.map il)), (3, .int .i64 times), (9, .sl id 1 0 v.length none), (10, .int .i64 i)]) (fun i => (id, ⟨1, (runT x exch rs v i).map iv⟩) :: h) (fun i => times.toNat - i) (fun i => i ≤ times.toNat) 0 (by simp) (by rw [runT_zero]) (Nat.zero_le _) fun i hi ih => ?_
      by_cases hlt : i < times.toNat
      · have hlt' : (i : Int) < times := by omega
        have hm : i % rs.length < rs.length := Nat.mod_lt _ hpos
        have htm : (i : Int).tmod rs.length = ((i % rs.length : Nat) : Int) := by rw [Int.tmod_eq_emod_of_nonneg (by omega)]; rfl
        have htn : ((i : Int) % (rs.length : Int)).toNat = i % rs.length := by
          rw [show ((i : Int) % (rs.length : Int)) = ((i % rs.length : Nat) : Int) from rfl]; rfl
        have go := ih (i + 1) (by omega) (by omega)
        rw [runT_succ x exch hne] at go
        have hgd : rs.getD (i % rs.length) [] = rs[i % rs.length] := by simp [hm]
        have hrl := (fit_of_tot hr).2 _ (List.getElem_mem hm)
        have hri := hin _ (List.getElem_mem hm)
        have hIi := hI i
        rw [hgd] at go
        clear ih
        generalize hr0 : rs[i % rs.length] = r at *
        generalize hA : runT x exch rs v i = a at *
        refine Run2.of I 1000 ?_
        simp -implicitDefEqProofs [hlt', hpos, htm, htn, hm, hr0, hne]
        refine ⟨by omega, ?_⟩
        refine Run2.loopE (fun (j : Nat) => [(0, .ip [.int .i64 x.n, .snap 3 (x.ts.map T.av)]), (1, .snap 1 (rs.map il)), (3, .int .i64 times), (9, .sl id 1 0 v.length none), (10, .int .i64 i), (11, .snap 1 (r.map iv)), (12, .int .i64 j)]) (fun j => (id, ⟨1, (runR x exch a (r.take j)).map iv⟩) :: h) (fun j => r.length - j) (fun j => j ≤ r.length) 0 (by simp) (by simp [runR]) (Nat.zero_le _) fun j hj ihj => ?_
        by_cases hlt2 : j < r.length
        · have goj := ihj (j + 1) (by omega) (by omega)
          rw [runR_succ x exch a r hlt2] at goj
          have hIj := runR_inv x exch (Inv := fun l => l.length = v.length) (fun a e _ ha => by rw [exch_length]; exact ha) (r := r.take j) (fun k hk => hri k (List.mem_of_mem_take hk)) hIi
          have hk := hri _ (List.getElem_mem hlt2)
          obtain ⟨e1, e2⟩ := Gr.e_at hk
          have e0 := hk.1
          have hel := hv.el (List.getElem_mem e1)
          unfold Gr.el at hel
          rw [e2] at goj
          clear ihj
          generalize hB : runR x exch a (r.take j) = b at *
          have hbl : b.length = v.length := hIj
          have hf : x.ts[r[j].toNat].f.toNat < b.length := by omega
          have ht' : x.ts[r[j].toNat].t.toNat < b.length := by omega
          have hfv : x.ts[r[j].toNat].f.toNat < v.length := by omega
          have htv : x.ts[r[j].toNat].t.toNat < v.length := by omega
          have he := exch_iv b _ hf ht'
          have h1 := hel.1
          have h2 : 0 ≤ x.ts[r[j].toNat].t := by omega
          have h3 : x.ts[r[j].toNat].f < v.length := by omega
          have h4 : x.ts[r[j].toNat].t < v.length := by omega
          refine Run2.of I 1000 ?_
          simp -implicitDefEqProofs [hlt2, e0, e1, hf, ht', hfv, htv, he, hbl, h1, h2, h3, h4]
          refine ⟨by omega, ?_⟩
          simpa using goj
        · obtain rfl : j = r.length := by omega
          rw [List.take_length]
          refine Run2.of I 1000 ?_
          simp -implicitDefEqProofs
          refine ⟨by omega, ?_⟩
          simpa using go
      · have hie : i = times.toNat := by omega
        subst hie
        have hlt' : ¬ ((times.toNat : Int) < times) := by omega
        refine Run2.of I 1000 ?_
        simp -implicitDefEqProofs [hlt']
        exact ⟨fun h => by exfalso; omega, fun _ => hout⟩
theorem l24Exchange_c (x : Gr) (rs : List (List Int)) (v : List Int) (times : Int) (h : Heap) (hr : ssTot rs ≤ 1048576) (hv : x.valid) (hok : x.rsOk rs) (hvl : v.length ≤ 1048576) (hnl : (v.length : Int) = x.n) (ht : 0 ≤ times ∧ times ≤ 100) : ACalls Try.prog 77 [.ip [.int .i64 x.n, .snap 3 (x.ts.map T.av)], .snap 1 (rs.map il), .snap 1 (v.map iv), .int .i64 times] h (fun w h' => w = .snap 1 ((runT x exch rs v times.toNat).map iv) ∧ h' = h) := by
  refine ACalls.post ((l24Exchange_g x rs v times h hr hv hok hvl hnl ht).mono ?_)
  rintro w h' ⟨hp, g, rfl⟩
  exact g.froze (fun x => x) (fun _ _ _ => rfl) (fun _ _ h => h) (.base ⟨rfl, rfl⟩)
abbrev c_spec_ExchangeValues_o0 : List AJ := [.o ⟨(some 4), none, false, .box false 2 (.t 0), none⟩, .o ⟨(some 8), none, false, .mv (.c .nilsl), none⟩, .o ⟨(some 9), none, false, .mv (.c (.int .i64 0)), (some [1, 2, 3, 4])⟩]
def c_spec_ExchangeValues_0 : ACode := .region c_spec_ExchangeValues_o0
abbrev c_spec_ExchangeValues_o1 : List AJ := [.o ⟨(some 11), none, false, .mv (.t 1), none⟩, .o ⟨(some 12), none, false, .call 82 [(.t 4), (.t 11)], none⟩, .o ⟨(some 10), none, false, .mv (.t 12), (some [1, 2, 3, 4, 10])⟩]
def c_spec_ExchangeValues_1 : ACode := .region c_spec_ExchangeValues_o1
abbrev c_spec_ExchangeValues_o2 : List AJ := [.o ⟨(some 13), none, false, .mv (.t 10), none⟩, .o ⟨(some 14), none, false, .bin .eql (.t 13) (.c (.int .i64 0)), none⟩, .o ⟨(some 15), none, false, .mv (.t 14), none⟩, .o ⟨(some 16), (some (15, true)), false, .mv (.t 2), none⟩, .o ⟨(some 17), (some (15, true)), false, .call 91 [(.t 4), (.t 16)], none⟩, .o ⟨(some 18), (some (15, true)), false, .un .not (.t 17), none⟩, .o ⟨(some 19), (some (15, true)), false, .mv (.t 18), none⟩, .o ⟨(some 20), (some (19, false)), false, .mv (.t 3), none⟩, .o ⟨(some 21), (some (19, false)), false, .call 69 [(.t 20), (.c (.int .i64 0)), (.c (.int .i64 100))], (some [1, 2, 3, 4, 10, 15, 19, 21])⟩, .o ⟨(some 22), (some (19, false)), false, .un .not (.t 21), none⟩, .o ⟨(some 23), (some (15, true)), false, .pick (.t 19) (.c (.bool true)) (.t 22), none⟩, .o ⟨(some 24), none, false, .pick (.t 15) (.t 23) (.c (.bool false)), (some [1, 2, 3, 4, 10, 24])⟩]
def c_spec_ExchangeValues_2 : ACode := .region c_spec_ExchangeValues_o2
abbrev c_spec_ExchangeValues_o3 : List AJ := [.o ⟨(some 10), none, false, .mv (.c (.int .i64 2)), (some [1, 2, 3, 4, 10])⟩]
def c_spec_ExchangeValues_3 : ACode := .region c_spec_ExchangeValues_o3
def c_spec_ExchangeValues_4 : ACode := .cond (.t 24) c_spec_ExchangeValues_3 .skip
def c_spec_ExchangeValues_5 : ACode := .seq c_spec_ExchangeValues_2 c_spec_ExchangeValues_4
abbrev c_spec_ExchangeValues_o4 : List AJ := [.o ⟨(some 25), none, false, .mv (.t 10), none⟩, .o ⟨(some 26), none, false, .bin .neq (.t 25) (.c (.int .i64 0)), (some [1, 2, 3, 4, 10, 26])⟩]
def c_spec_ExchangeValues_6 : ACode := .region c_spec_ExchangeValues_o4
abbrev c_spec_ExchangeValues_o5 : List AJ := [.o ⟨(some 27), none, false, .mv (.t 10), none⟩, .o ⟨(some 8), none, false, .mv (.c .nilsl), none⟩, .o ⟨(some 9), none, false, .mv (.t 27), (some [8, 9])⟩]
def c_spec_ExchangeValues_7 : ACode := .region c_spec_ExchangeValues_o5
def c_spec_ExchangeValues_8 : ACode := .seq c_spec_ExchangeValues_7 .ret
def c_spec_ExchangeValues_9 : ACode := .cond (.t 26) c_spec_ExchangeValues_8 .skip
def c_spec_ExchangeValues_10 : ACode := .seq c_spec_ExchangeValues_6 c_spec_ExchangeValues_9
abbrev c_spec_ExchangeValues_o6 : List AJ := [.o ⟨(some 28), none, false, .mv (.t 1), none⟩, .o ⟨(some 29), none, false, .mv (.t 2), none⟩, .o ⟨(some 30), none, false, .mv (.t 3), none⟩, .o ⟨(some 31), none, false, .call 77 [(.t 4), (.t 28), (.t 29), (.t 30)], none⟩, .o ⟨(some 8), none, false, .mv (.t 31), none⟩, .o ⟨(some 9), none, false, .mv (.c (.int .i64 0)), (some [8, 9])⟩]
def c_spec_ExchangeValues_11 : ACode := .region c_spec_ExchangeValues_o6
def c_spec_ExchangeValues_12 : ACode := .seq c_spec_ExchangeValues_11 .ret
def c_spec_ExchangeValues_13 : ACode := .seq c_spec_ExchangeValues_10 c_spec_ExchangeValues_12
def c_spec_ExchangeValues_14 : ACode := .seq c_spec_ExchangeValues_5 c_spec_ExchangeValues_13
def c_spec_ExchangeValues_15 : ACode := .seq c_spec_ExchangeValues_1 c_spec_ExchangeValues_14
def c_spec_ExchangeValues_16 : ACode := .seq c_spec_ExchangeValues_0 c_spec_ExchangeValues_15
section
variable (C : Cx) (n : Nat) (sk : List AItem) (e : Env) (h : Heap) (R : AV → Heap → Prop)
@[simp, simp ↓] theorem c_spec_ExchangeValues_0_r : vc2 C (n + 1) [] (.code c_spec_ExchangeValues_0 :: sk) e h R = (vc2 C n c_spec_ExchangeValues_o0 sk e h R) := nr rfl
@[simp, simp ↓] theorem c_spec_ExchangeValues_1_r : vc2 C (n + 1) [] (.code c_spec_ExchangeValues_1 :: sk) e h R = (vc2 C n c_spec_ExchangeValues_o1 sk e h R) := nr rfl
@[simp, simp ↓] theorem c_spec_ExchangeValues_2_r : vc2 C (n + 1) [] (.code c_spec_ExchangeValues_2 :: sk) e h R = (vc2 C n c_spec_ExchangeValues_o2 sk e h R) := nr rfl
@[simp, simp ↓] theorem c_spec_ExchangeValues_3_r : vc2 C (n + 1) [] (.code c_spec_ExchangeValues_3 :: sk) e h R = (vc2 C n c_spec_ExchangeValues_o3 sk e h R) := nr rfl
@[simp, simp ↓] theorem c_spec_ExchangeValues_4_r : vc2 C (n + 1) [] (.code c_spec_ExchangeValues_4 :: sk) e h R = (condK (ev e (.t 24)) (vc2 C n [] (.code c_spec_ExchangeValues_3 :: sk) e h R) (vc2 C n [] (.code .skip :: sk) e h R)) := nr rfl
@[simp, simp ↓] theorem c_spec_ExchangeValues_5_r : vc2 C (n + 1) [] (.code c_spec_ExchangeValues_5 :: sk) e h R = (vc2 C n [] (.code c_spec_ExchangeValues_2 :: .code c_spec_ExchangeValues_4 :: sk) e h R) := nr rfl
@[simp, simp ↓] theorem c_spec_ExchangeValues_6_r : vc2 C (n + 1) [] (.code c_spec_ExchangeValues_6 :: sk) e h R = (vc2 C n c_spec_ExchangeValues_o4 sk e h R) := nr rfl
@[simp, simp ↓] theorem c_spec_ExchangeValues_7_r : vc2 C (n + 1) [] (.code c_spec_ExchangeValues_7 :: sk) e h R = (vc2 C n c_spec_ExchangeValues_o5 sk e h R) := nr rfl
@[simp, simp ↓] theorem c_spec_ExchangeValues_8_r : vc2 C (n + 1) [] (.code c_spec_ExchangeValues_8 :: sk) e h R = (vc2 C n [] (.code c_spec_ExchangeValues_7 :: .code .ret :: sk) e h R) := nr rfl
@[simp, simp ↓] theorem c_spec_ExchangeValues_9_r : vc2 C (n + 1) [] (.code c_spec_ExchangeValues_9 :: sk) e h R = (condK (ev e (.t 26)) (vc2 C n [] (.code c_spec_ExchangeValues_8 :: sk) e h R) (vc2 C n [] (.code .skip :: sk) e h R)) := nr rfl
@[simp, simp ↓] theorem c_spec_ExchangeValues_10_r : vc2 C (n + 1) [] (.code c_spec_ExchangeValues_10 :: sk) e h R = (vc2 C n [] (.code c_spec_ExchangeValues_6 :: .code c_spec_ExchangeValues_9 :: sk) e h R) := nr rfl
@[simp, simp ↓] theorem c_spec_ExchangeValues_11_r : vc2 C (n + 1) [] (.code c_spec_ExchangeValues_11 :: sk) e h R = (vc2 C n c_spec_ExchangeValues_o6 sk e h R) := nr rfl
@[simp, simp ↓] theorem c_spec_ExchangeValues_12_r : vc2 C (n + 1) [] (.code c_spec_ExchangeValues_12 :: sk) e h R = (vc2 C n [] (.code c_spec_ExchangeValues_11 :: .code .ret :: sk) e h R) := nr rfl
@[simp, simp ↓] theorem c_spec_ExchangeValues_13_r : vc2 C (n + 1) [] (.code c_spec_ExchangeValues_13 :: sk) e h R = (vc2 C n [] (.code c_spec_ExchangeValues_10 :: .code c_spec_ExchangeValues_12 :: sk) e h R) := nr rfl
@[simp, simp ↓] theorem c_spec_ExchangeValues_14_r : vc2 C (n + 1) [] (.code c_spec_ExchangeValues_14 :: sk) e h R = (vc2 C n [] (.code c_spec_ExchangeValues_5 :: .code c_spec_ExchangeValues_13 :: sk) e h R) := nr rfl
@[simp, simp ↓] theorem c_spec_ExchangeValues_15_r : vc2 C (n + 1) [] (.code c_spec_ExchangeValues_15 :: sk) e h R = (vc2 C n [] (.code c_spec_ExchangeValues_1 :: .code c_spec_ExchangeValues_14 :: sk) e h R) := nr rfl
@[simp, simp ↓] theorem c_spec_ExchangeValues_16_r : vc2 C (n + 1) [] (.code c_spec_ExchangeValues_16 :: sk) e h R = (vc2 C n [] (.code c_spec_ExchangeValues_0 :: .code c_spec_ExchangeValues_15 :: sk) e h R) := nr rfl
end
noncomputable def c_spec_ExchangeValues_C (orc : Orc) : Cx := ⟨Try.prog, [], 41, 32, [.tmp 8, .tmp 9], orc⟩
@[simp] theorem c_spec_ExchangeValues_C_P (orc : Orc) : (c_spec_ExchangeValues_C orc).P = Try.prog := nr rfl
@[simp] theorem c_spec_ExchangeValues_C_o (orc : Orc) : (c_spec_ExchangeValues_C orc).orc = orc := nr rfl
@[simp] theorem c_spec_ExchangeValues_C_r (orc : Orc) : (c_spec_ExchangeValues_C orc).res = [.tmp 8, .tmp 9] := nr rfl
theorem c_spec_ExchangeValues_of {args : List AV} {h : Heap} {R : AV → Heap → Prop} {k : Nat} (ha : args.length = k) {orc : Orc} (hp : Pure Try.prog orc) (hk : Is (c_spec_ExchangeValues_C orc) Try.f41 → Run2 (c_spec_ExchangeValues_C orc) [.code c_spec_ExchangeValues_16] (argEnv 0 args) h (Post R)) (hle : k ≤ 32 := by simp) : ACalls Try.prog 41 args h R :=
  contract2 [] c_spec_ExchangeValues_16 [.tmp 8, .tmp 9] Try.func41 (by decide +kernel) rfl (by kernel_rfl) (by rw [ha]; exact hle) (by kernel_rfl) hp hk
theorem c_spec_ExchangeValues_of0 {args : List AV} {h : Heap} {R : AV → Heap → Prop} {k : Nat} (ha : args.length = k) {orc : Orc} (hp : Pure Try.prog orc) (hk : Is (c_spec_ExchangeValues_C orc) Try.f41 → Run2 (c_spec_ExchangeValues_C orc) [.code c_spec_ExchangeValues_16] (argEnv 0 args) h R) (hle : k ≤ 32 := by simp) : ACalls Try.prog 41 args h R :=
  contract20 [] c_spec_ExchangeValues_16 [.tmp 8, .tmp 9] Try.func41 (by decide +kernel) rfl (by kernel_rfl) (by rw [ha]; exact hle) (by kernel_rfl) hp hk
theorem specEx_c (x : Gr) (rs : List (List Int)) (v : List Int) (times : Int) (h : Heap) (hl : x.ts.length ≤ 1048576) (ok : x.ok) (hr : ssTot rs ≤ 1048576) (hvl : v.length ≤ 1048576) : ACalls Try.prog 41 [x.av, .snap 1 (rs.map il), .snap 1 (v.map iv), .int .i64 times] h (fun r h' => r = .tup [.snap 1 ((x.xL rs v times).map iv), .int .i64 (x.xCode rs v times)] ∧ h' = h) := by
  refine c_spec_ExchangeValues_of rfl orcK_p fun I => ?_
  refine Run2.of I 1000 ?_
  by_cases hs : x.sCode rs = 0
  · by_cases hk : x.vecG v ∧ 0 ≤ times ∧ times ≤ 100
    · have hc : x.xCode rs v times = 0 := by simp [Gr.xCode, hs, hk]
      have hid : x.xL rs v times = runT x exch rs v times.toNat := by simp [Gr.xL, hc]
      obtain ⟨⟨hv, hrs⟩, _⟩ := Gr.xCode_ok hc
      simp -implicitDefEqProofs [hl, ok, hr, hs, hvl, hk.1, hk.2.1, hk.2.2]
      refine (l24Exchange_c x rs v times h hr hv hrs hvl hk.1.1 hk.2).mono ?_
      rintro w h' ⟨rfl, rfl⟩
      refine gK.go ?_
      simp -implicitDefEqProofs
      exact .base ⟨by rw [hid, hc], rfl⟩
    · have hc : x.xCode rs v times = 2 := by simp [Gr.xCode, hs, hk]
      have hid : x.xL rs v times = [] := by simp [Gr.xL, hc]
      simp -implicitDefEqProofs [hl, ok, hr, hs, hvl, hc, hid]
      repeat' (first | refine And.intro ?_ ?_ | intro _)
      all_goals first | exact .wk (Wk.tup (.cons (Wk.nil 1) (.refl _))) (.base ⟨rfl, rfl⟩) | (exfalso; exact hk ⟨by assumption, by omega, by omega⟩)
  · have hc : x.xCode rs v times = x.sCode rs := by simp [Gr.xCode, hs]
    have hid : x.xL rs v times = [] := by simp [Gr.xL, hc, hs]
    simp -implicitDefEqProofs [hl, ok, hr, hs, hc, hid]
    exact .wk (Wk.tup (.cons (Wk.nil 1) (.refl _))) (.base ⟨rfl, rfl⟩)
end Go.AG
