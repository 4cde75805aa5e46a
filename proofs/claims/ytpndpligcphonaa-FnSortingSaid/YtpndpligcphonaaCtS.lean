/- What all functions about schedules ask first. No statement is made here. -/
import Derived.Test.YtpndpligcphonaaCtR2
namespace Go.AG
open Go.Proofs Go.Proofs.Ytpndpligcphonaa
set_option linter.unusedSimpArgs false
set_option linter.unusedVariables false
set_option maxRecDepth 4000
abbrev k50_o0 : List AJ := [.o ⟨(some 2), none, false, .mv (.c (.int .i64 0)), (some [0])⟩]
abbrev k50_o1 : List AJ := [.o ⟨(some 3), none, false, .mv (.t 0), none⟩, .o ⟨(some 4), none, false, .len (.t 3), none⟩, .o ⟨(some 2), none, false, .mv (.t 4), (some [2])⟩]
def k50_2 : ACode := .seq (.region k50_o1) .ret
def k50_3 : ACode := .seq (.region k50_o0) k50_2
@[simp, simp ↓] theorem k50_2r : sR k50_2 k50_o1 .ret := yR rfl
@[simp, simp ↓] theorem k50_3r : sR k50_3 k50_o0 k50_2 := yR rfl
noncomputable abbrev k50_C : Orc → Cx := mkC Try.prog [] 50 5 [.tmp 2]
theorem k50_of0 : OfP0 Try.prog Try.f50 50 5 k50_C k50_3 := @ofP0 _ _ _ _ _ _ _ _ Try.func50 (by decide +kernel) rfl (by kernel_rfl) rfl (by kernel_rfl)
theorem sizeLL_s (rs : List (List Int)) (h : Heap) : ACalls Try.prog 50 [.snap 1 (rs.map il)] h (fun v h' => v = .int .i64 rs.length ∧ h' = h) := by
  refine k50_of0 rfl noPure fun I => ?_
  refine Run2.of I 1000 ?_
  simp -implicitDefEqProofs
noncomputable def o_sizeLL : List AV → Option (Prop × AV) := tab (fun (x : LS) => match x with | rs => [.snap 1 (rs.map il)]) (fun x => match x with | rs => True) (fun x => match x with | rs => .int .i64 rs.length)
@[simp] theorem o_sizeLL_e (rs : LS) : o_sizeLL [.snap 1 (rs.map il)] = some (True, .int .i64 rs.length) := tab_at (enc := fun (x : LS) => match x with | rs => [.snap 1 (rs.map il)]) (fun x y h => by
  simp at h; simp [h] <;> omega) _ _ rs
theorem o_sizeLL_k : Knows Try.prog 50 o_sizeLL := tab_knows fun x hx h => by
  exact sizeLL_s x h
theorem Grow.app0 {sz : Nat} {w : AV} {l new : List AV} {hp : Heap} {C : Cx} {n : Nat} {d : Option Nat} {ks : Option (List Nat)} {is : List AJ} {sk : List AItem} {R : AV → Heap → Prop} {e : Env} {h0 : Heap} {bytes : Nat} (g : Grow sz w l hp) (hb : (2 * (l.length + new.length)) * bytes ≤ 281474976710656) (hn : new ≠ [])
    (k : ∀ w' hp', Grow sz w' (l ++ new) hp' → vc2 C n is sk (kp (put e d w') ks) hp' R) : resK C n d ks is sk R e h0 (appR hp sz bytes w new) := by
  have := g.app (h := []) (C := C) (n := n) (d := d) (ks := ks) (is := is) (sk := sk) (R := R) (e := e) (h0 := h0) hb hn (fun w' hp' g' => by simpa only [List.append_nil] using k w' hp' g')
  simpa only [List.append_nil] using this
theorem Gr.sCode_ok {x : Gr} {rs : List (List Int)} (h : x.sCode rs = 0) : x.valid ∧ x.rsOk rs := by
  unfold Gr.sCode at h
  split at h
  · split at h
    · exact ⟨by assumption, by assumption⟩
    · omega
  · omega
noncomputable def orcJ : List (Nat × (List AV → Option (Prop × AV))) := (50, o_sizeLL) :: (56, o_isElement) :: (16, o_scheduled) :: orcR
theorem orcJ_p : Pure Try.prog (lk orcJ) := (lk_pure o_sizeLL_k (lk_pure o_isElement_k (lk_pure o_scheduled_k orcR_p)))
@[simp] theorem orcJ_l (b : Bool) (g : FuncId) (l : List AV) : lk orcJ b g l = if g = 50 then o_sizeLL l else if g = 56 then o_isElement l else if g = 16 then o_scheduled l else lk orcR b g l := nr rfl
abbrev k18_o0 : List AJ := [.o ⟨(some 2), none, false, .mv (.c (.bool false)), (some [0])⟩]
abbrev k18_o1 : List AJ := [.o ⟨(some 3), none, false, .mv (.t 0), none⟩, .o ⟨(some 4), none, false, .call 32 [(.t 3), (.c (.int .i64 0)), (.c (.int .i64 100))], none⟩, .o ⟨(some 2), none, false, .mv (.t 4), (some [2])⟩]
def k18_2 : ACode := .seq (.region k18_o1) .ret
def k18_3 : ACode := .seq (.region k18_o0) k18_2
@[simp, simp ↓] theorem k18_2r : sR k18_2 k18_o1 .ret := yR rfl
@[simp, simp ↓] theorem k18_3r : sR k18_3 k18_o0 k18_2 := yR rfl
noncomputable abbrev k18_C : Orc → Cx := mkC Try.prog [] 18 5 [.tmp 2]
theorem k18_of0 : OfP0 Try.prog Try.f18 18 5 k18_C k18_3 := @ofP0 _ _ _ _ _ _ _ _ Try.func18 (by decide +kernel) rfl (by kernel_rfl) rfl (by kernel_rfl)
theorem isRepeat_c (a : Int) (h : Heap) : ACalls Try.prog 18 [.int .i64 a] h (fun v h' => v = .bool (decide (0 ≤ a) && decide (a ≤ 100)) ∧ h' = h) := by
  refine k18_of0 rfl orc1_p fun I => ?_
  refine Run2.of I 1000 ?_
  simp -implicitDefEqProofs
noncomputable def o_isRepeat : List AV → Option (Prop × AV) := tab (fun (x : Int) => match x with | a => [.int .i64 a]) (fun x => match x with | a => True) (fun x => match x with | a => .bool (decide (0 ≤ a) && decide (a ≤ 100)))
@[simp] theorem o_isRepeat_e (a : Int) : o_isRepeat [.int .i64 a] = some (True, .bool (decide (0 ≤ a) && decide (a ≤ 100))) := tab_at (enc := fun (x : Int) => match x with | a => [.int .i64 a]) (fun x y h => by
  simp at h; simp [h] <;> omega) _ _ a
theorem o_isRepeat_k : Knows Try.prog 18 o_isRepeat := tab_knows fun x hx h => by
  exact isRepeat_c _ h
end Go.AG
