/- What all functions about schedules ask first. No statement is made here. -/
import Derived.Test.YtlncpnefkpfojaaCtR2
namespace Go.AG
open Go.Proofs Go.Proofs.Ytlncpnefkpfojaa
set_option linter.unusedSimpArgs false
set_option linter.unusedVariables false
set_option maxRecDepth 4000
abbrev c_impl_size_int64_o0 : List AJ := [.o ⟨(some 2), none, false, .mv (.c (.int .i64 0)), (some [0])⟩]
def c_impl_size_int64_0 : ACode := .region c_impl_size_int64_o0
abbrev c_impl_size_int64_o1 : List AJ := [.o ⟨(some 3), none, false, .mv (.t 0), none⟩, .o ⟨(some 4), none, false, .len (.t 3), none⟩, .o ⟨(some 2), none, false, .mv (.t 4), (some [2])⟩]
def c_impl_size_int64_1 : ACode := .region c_impl_size_int64_o1
def c_impl_size_int64_2 : ACode := .seq c_impl_size_int64_1 .ret
def c_impl_size_int64_3 : ACode := .seq c_impl_size_int64_0 c_impl_size_int64_2
section
variable (C : Cx) (n : Nat) (sk : List AItem) (e : Env) (h : Heap) (R : AV → Heap → Prop)
@[simp, simp ↓] theorem c_impl_size_int64_0_r : vc2 C (n + 1) [] (.code c_impl_size_int64_0 :: sk) e h R = (vc2 C n c_impl_size_int64_o0 sk e h R) := nr rfl
@[simp, simp ↓] theorem c_impl_size_int64_1_r : vc2 C (n + 1) [] (.code c_impl_size_int64_1 :: sk) e h R = (vc2 C n c_impl_size_int64_o1 sk e h R) := nr rfl
@[simp, simp ↓] theorem c_impl_size_int64_2_r : vc2 C (n + 1) [] (.code c_impl_size_int64_2 :: sk) e h R = (vc2 C n [] (.code c_impl_size_int64_1 :: .code .ret :: sk) e h R) := nr rfl
@[simp, simp ↓] theorem c_impl_size_int64_3_r : vc2 C (n + 1) [] (.code c_impl_size_int64_3 :: sk) e h R = (vc2 C n [] (.code c_impl_size_int64_0 :: .code c_impl_size_int64_2 :: sk) e h R) := nr rfl
end
noncomputable def c_impl_size_int64_C (orc : Orc) : Cx := ⟨Try.prog, [], 85, 5, [.tmp 2], orc⟩
@[simp] theorem c_impl_size_int64_C_P (orc : Orc) : (c_impl_size_int64_C orc).P = Try.prog := nr rfl
@[simp] theorem c_impl_size_int64_C_o (orc : Orc) : (c_impl_size_int64_C orc).orc = orc := nr rfl
@[simp] theorem c_impl_size_int64_C_r (orc : Orc) : (c_impl_size_int64_C orc).res = [.tmp 2] := nr rfl
theorem c_impl_size_int64_of {args : List AV} {h : Heap} {R : AV → Heap → Prop} {k : Nat} (ha : args.length = k) {orc : Orc} (hp : Pure Try.prog orc) (hk : Is (c_impl_size_int64_C orc) Try.f85 → Run2 (c_impl_size_int64_C orc) [.code c_impl_size_int64_3] (argEnv 0 args) h (Post R)) (hle : k ≤ 5 := by simp) : ACalls Try.prog 85 args h R :=
  contract2 [] c_impl_size_int64_3 [.tmp 2] Try.func85 (by decide +kernel) rfl (by kernel_rfl) (by rw [ha]; exact hle) (by kernel_rfl) hp hk
theorem c_impl_size_int64_of0 {args : List AV} {h : Heap} {R : AV → Heap → Prop} {k : Nat} (ha : args.length = k) {orc : Orc} (hp : Pure Try.prog orc) (hk : Is (c_impl_size_int64_C orc) Try.f85 → Run2 (c_impl_size_int64_C orc) [.code c_impl_size_int64_3] (argEnv 0 args) h R) (hle : k ≤ 5 := by simp) : ACalls Try.prog 85 args h R :=
  contract20 [] c_impl_size_int64_3 [.tmp 2] Try.func85 (by decide +kernel) rfl (by kernel_rfl) (by rw [ha]; exact hle) (by kernel_rfl) hp hk
theorem sizeLL_s (rs : List (List Int)) (h : Heap) : ACalls Try.prog 85 [.snap 1 (rs.map il)] h (fun v h' => v = .int .i64 rs.length ∧ h' = h) := by
  refine c_impl_size_int64_of0 rfl noPure fun I => ?_
  refine Run2.of I 1000 ?_
  simp -implicitDefEqProofs
noncomputable def o_sizeLL : List AV → Option (Prop × AV) := tab (fun (x : LS) => match x with | rs => [.snap 1 (rs.map il)]) (fun x => match x with | rs => True) (fun x => match x with | rs => .int .i64 rs.length)
@[simp] theorem o_sizeLL_e (rs : LS) : o_sizeLL [.snap 1 (rs.map il)] = some (True, .int .i64 rs.length) := tab_at (enc := fun (x : LS) => match x with | rs => [.snap 1 (rs.map il)]) (fun x y h => by
  simp at h; simp [h]) _ _ rs
theorem o_sizeLL_k : Knows Try.prog 85 o_sizeLL := tab_knows fun x hx h => by
  exact sizeLL_s x h
theorem Grow.app0 {sz : Nat} {w : AV} {l new : List AV} {hp : Heap} {C : Cx} {n : Nat} {d : Option Nat} {ks : Option (List Nat)} {is : List AJ} {sk : List AItem} {R : AV → Heap → Prop} {e : Env} {h0 : Heap} {bytes : Nat} (g : Grow sz w l hp) (hb : (2 * (l.length + new.length)) * bytes ≤ 281474976710656) (hn : new ≠ [])
    (k : ∀ w' hp', Grow sz w' (l ++ new) hp' → vc2 C n is sk (kp (put e d w') ks) hp' R) : resK C n d ks is sk R e h0 (appR hp sz bytes w new) := by
  have := g.app (h := []) (C := C) (n := n) (d := d) (ks := ks) (is := is) (sk := sk) (R := R) (e := e) (h0 := h0) hb hn (fun w' hp' g' => by simpa only [List.append_nil] using k w' hp' g')
  simpa only [List.append_nil] using this
theorem Gr.sCode_ok {x : Gr} {rs : List (List Int)} (h : x.sCode rs = 0) : x.valid ∧ x.rsOk rs := by
  unfold Gr.sCode at h
  split at h
  · split at h
    · exact ⟨by assumption, by assumption⟩
    · omega
  · omega
noncomputable def orcJ : List (Nat × (List AV → Option (Prop × AV))) := (85, o_sizeLL) :: (84, o_isElement) :: (78, o_scheduled) :: (82, o_l24Ask) :: orcR
theorem orcJ_p : Pure Try.prog (lk orcJ) := (lk_pure o_sizeLL_k (lk_pure o_isElement_k (lk_pure o_scheduled_k (lk_pure o_l24Ask_k orcR_p))))
@[simp] theorem orcJ_l (g : FuncId) (l : List AV) : lk orcJ g l = if g = 85 then o_sizeLL l else if g = 84 then o_isElement l else if g = 78 then o_scheduled l else if g = 82 then o_l24Ask l else lk orcR g l := nr rfl
abbrev c_impl_isRepeat_o0 : List AJ := [.o ⟨(some 2), none, false, .mv (.c (.bool false)), (some [0])⟩]
def c_impl_isRepeat_0 : ACode := .region c_impl_isRepeat_o0
abbrev c_impl_isRepeat_o1 : List AJ := [.o ⟨(some 3), none, false, .mv (.t 0), none⟩, .o ⟨(some 4), none, false, .call 104 [(.t 3), (.c (.int .i64 0)), (.c (.int .i64 100))], none⟩, .o ⟨(some 2), none, false, .mv (.t 4), (some [2])⟩]
def c_impl_isRepeat_1 : ACode := .region c_impl_isRepeat_o1
def c_impl_isRepeat_2 : ACode := .seq c_impl_isRepeat_1 .ret
def c_impl_isRepeat_3 : ACode := .seq c_impl_isRepeat_0 c_impl_isRepeat_2
section
variable (C : Cx) (n : Nat) (sk : List AItem) (e : Env) (h : Heap) (R : AV → Heap → Prop)
@[simp, simp ↓] theorem c_impl_isRepeat_0_r : vc2 C (n + 1) [] (.code c_impl_isRepeat_0 :: sk) e h R = (vc2 C n c_impl_isRepeat_o0 sk e h R) := nr rfl
@[simp, simp ↓] theorem c_impl_isRepeat_1_r : vc2 C (n + 1) [] (.code c_impl_isRepeat_1 :: sk) e h R = (vc2 C n c_impl_isRepeat_o1 sk e h R) := nr rfl
@[simp, simp ↓] theorem c_impl_isRepeat_2_r : vc2 C (n + 1) [] (.code c_impl_isRepeat_2 :: sk) e h R = (vc2 C n [] (.code c_impl_isRepeat_1 :: .code .ret :: sk) e h R) := nr rfl
@[simp, simp ↓] theorem c_impl_isRepeat_3_r : vc2 C (n + 1) [] (.code c_impl_isRepeat_3 :: sk) e h R = (vc2 C n [] (.code c_impl_isRepeat_0 :: .code c_impl_isRepeat_2 :: sk) e h R) := nr rfl
end
noncomputable def c_impl_isRepeat_C (orc : Orc) : Cx := ⟨Try.prog, [], 79, 5, [.tmp 2], orc⟩
@[simp] theorem c_impl_isRepeat_C_P (orc : Orc) : (c_impl_isRepeat_C orc).P = Try.prog := nr rfl
@[simp] theorem c_impl_isRepeat_C_o (orc : Orc) : (c_impl_isRepeat_C orc).orc = orc := nr rfl
@[simp] theorem c_impl_isRepeat_C_r (orc : Orc) : (c_impl_isRepeat_C orc).res = [.tmp 2] := nr rfl
theorem c_impl_isRepeat_of {args : List AV} {h : Heap} {R : AV → Heap → Prop} {k : Nat} (ha : args.length = k) {orc : Orc} (hp : Pure Try.prog orc) (hk : Is (c_impl_isRepeat_C orc) Try.f79 → Run2 (c_impl_isRepeat_C orc) [.code c_impl_isRepeat_3] (argEnv 0 args) h (Post R)) (hle : k ≤ 5 := by simp) : ACalls Try.prog 79 args h R :=
  contract2 [] c_impl_isRepeat_3 [.tmp 2] Try.func79 (by decide +kernel) rfl (by kernel_rfl) (by rw [ha]; exact hle) (by kernel_rfl) hp hk
theorem c_impl_isRepeat_of0 {args : List AV} {h : Heap} {R : AV → Heap → Prop} {k : Nat} (ha : args.length = k) {orc : Orc} (hp : Pure Try.prog orc) (hk : Is (c_impl_isRepeat_C orc) Try.f79 → Run2 (c_impl_isRepeat_C orc) [.code c_impl_isRepeat_3] (argEnv 0 args) h R) (hle : k ≤ 5 := by simp) : ACalls Try.prog 79 args h R :=
  contract20 [] c_impl_isRepeat_3 [.tmp 2] Try.func79 (by decide +kernel) rfl (by kernel_rfl) (by rw [ha]; exact hle) (by kernel_rfl) hp hk
theorem isRepeat_c (a : Int) (h : Heap) : ACalls Try.prog 79 [.int .i64 a] h (fun v h' => v = .bool (decide (0 ≤ a) && decide (a ≤ 100)) ∧ h' = h) := by
  refine c_impl_isRepeat_of0 rfl orc1_p fun I => ?_
  refine Run2.of I 1000 ?_
  simp -implicitDefEqProofs
noncomputable def o_isRepeat : List AV → Option (Prop × AV) := tab (fun (x : Int) => match x with | a => [.int .i64 a]) (fun x => match x with | a => True) (fun x => match x with | a => .bool (decide (0 ≤ a) && decide (a ≤ 100)))
@[simp] theorem o_isRepeat_e (a : Int) : o_isRepeat [.int .i64 a] = some (True, .bool (decide (0 ≤ a) && decide (a ≤ 100))) := tab_at (enc := fun (x : Int) => match x with | a => [.int .i64 a]) (fun x y h => by
  simp at h; simp [h]) _ _ a
theorem o_isRepeat_k : Knows Try.prog 79 o_isRepeat := tab_knows fun x hx h => by
  exact isRepeat_c _ h
end Go.AG
