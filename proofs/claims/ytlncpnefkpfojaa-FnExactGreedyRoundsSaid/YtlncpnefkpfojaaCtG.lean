/- Rounds one edge after the other: what the program's and the reference's functions give. No statement is made here. -/
import Derived.Test.YtlncpnefkpfojaaCtA
namespace Go.AG
open Go.Proofs Go.Proofs.Ytlncpnefkpfojaa
set_option linter.unusedSimpArgs false
set_option linter.unusedVariables false
set_option maxRecDepth 4000
theorem colds_T (l : List T) : colds (l.map T.av) = true := by
  induction l with
  | nil => rfl
  | cons a l ih => simp only [List.map_cons, colds, ih, T.cold]; rfl
theorem Grow.ne {sz : Nat} {w : AV} {l : List AV} {hp : Heap} (g : Grow sz w l hp) (h : l ≠ []) : ∃ id, w = .sl id sz 0 l.length none ∧ hp = [(id, ⟨sz, l⟩)] := by
  cases g with
  | nil => exact absurd rfl h
  | emp => exact absurd rfl h
  | sl id l n hn => subst hn; exact ⟨id, rfl, rfl⟩
/-- Slices that are only appended to, each in a block of its own. -/
inductive GrowLs : List AV → List (List Int) → Heap → Prop
  | nil : GrowLs [] [] []
  | cons {u : AV} {r : List Int} {h1 : Heap} {us : List AV} {rs : List (List Int)} {h2 : Heap} (g : Grow 1 u (r.map iv) h1) (os : GrowLs us rs h2) (d : ∀ i ∈ dom h1, i ∉ dom h2) : GrowLs (u :: us) (r :: rs) (h1 ++ h2)
theorem GrowLs.own {us : List AV} {rs : List (List Int)} {hp : Heap} (h : GrowLs us rs hp) : OwnLs us rs hp := by
  induction h with
  | nil => exact .nil
  | cons g os d ih => exact .cons g.own ih d
theorem GrowLs.append {us : List AV} {rs : List (List Int)} {hp : Heap} (h : GrowLs us rs hp) : ∀ {us' : List AV} {rs' : List (List Int)} {hp' : Heap}, GrowLs us' rs' hp' → (∀ i ∈ dom hp, i ∉ dom hp') → GrowLs (us ++ us') (rs ++ rs') (hp ++ hp') := by
  induction h with
  | nil => intro us' rs' hp' h' _; exact h'
  | cons o os d ih =>
    intro us' rs' hp' h' hd
    rw [List.append_assoc]
    rw [dom_append] at hd
    refine .cons o (ih h' fun i hi => hd i (List.mem_append_right _ hi)) fun i hi => ?_
    rw [dom_append]
    intro hm
    rcases List.mem_append.1 hm with hm | hm
    · exact d i hi hm
    · exact hd i (List.mem_append_left _ hi) hm
theorem GrowLs.split {us : List AV} {rs : List (List Int)} {hp : Heap} (h : GrowLs us rs hp) : ∀ {i : Nat} (hi : i < rs.length), ∃ (hu : i < us.length) (h1 g h2 : Heap), hp = h1 ++ (g ++ h2) ∧ GrowLs (us.take i) (rs.take i) h1 ∧ Grow 1 us[i] (rs[i].map iv) g ∧ GrowLs (us.drop (i + 1)) (rs.drop (i + 1)) h2 := by
  induction h with
  | nil => intro i hi; simp at hi
  | @cons u r h1 us rs h2 o os d ih =>
    intro i hi
    cases i with
    | zero => exact ⟨by simp, [], h1, h2, rfl, .nil, o, os⟩
    | succ i =>
      obtain ⟨hu, a, g, b, e, o1, o2, o3⟩ := ih (i := i) (by simpa using hi)
      subst e
      refine ⟨by simpa using hu, h1 ++ a, g, b, by simp, ?_, o2, o3⟩
      exact .cons o o1 fun j hj hm => d j hj (by rw [dom_append]; exact List.mem_append_left _ hm)
theorem GrowLs.put {us : List AV} {rs : List (List Int)} {i : Nat} (hu : i < us.length) (hi : i < rs.length) {h1 g' h2 : Heap} {u' : AV} {r' : List Int} (o1 : GrowLs (us.take i) (rs.take i) h1) (o2 : Grow 1 u' (r'.map iv) g') (o3 : GrowLs (us.drop (i + 1)) (rs.drop (i + 1)) h2) (d1 : ∀ j ∈ dom h1, j ∉ dom h2) (d2 : ∀ j ∈ dom g', j ∉ dom (h1 ++ h2)) : GrowLs (us.set i u') (rs.set i r') (h1 ++ (g' ++ h2)) := by
  rw [List.set_eq_take_append_cons_drop, if_pos hu, List.set_eq_take_append_cons_drop, if_pos hi]
  refine o1.append (.cons o2 o3 fun j hj hm => d2 j hj (by rw [dom_append]; exact List.mem_append_right _ hm)) fun j hj hm => ?_
  rw [dom_append] at hm
  rcases List.mem_append.1 hm with hm | hm
  · exact d2 j hm (by rw [dom_append]; exact List.mem_append_left _ hj)
  · exact d1 j hj hm
theorem OwnLL.of_grow' {w : AV} {us : List AV} {rs : List (List Int)} {hp hi : Heap} (g : Grow 1 w us hp) (o : OwnLs us rs hi) (d : ∀ i ∈ dom hp, i ∉ dom hi) : OwnLL w rs (hp ++ hi) := by
  cases g with
  | nil => cases o; exact .nil
  | emp => cases o; exact .emp
  | sl id us n hn =>
    subst hn
    have := OwnLL.sl id us.length none [] (by rw [o.len]) rfl o (d id (by simp [dom]))
    simpa using this
abbrev c_slices_IndexFunc_SS_int64_int64_o0 : List AJ := [.o ⟨(some 4), none, false, .mv (.c (.int .i64 0)), (some [0, 1])⟩]
def c_slices_IndexFunc_SS_int64_int64_0 : ACode := .region c_slices_IndexFunc_SS_int64_int64_o0
abbrev c_slices_IndexFunc_SS_int64_int64_o1 : List AJ := [.o ⟨(some 6), none, false, .mv (.t 0), none⟩, .o ⟨(some 7), none, false, .len (.t 6), none⟩, .o ⟨(some 8), none, false, .mv (.c (.int .i64 0)), (some [0, 1, 7, 8])⟩]
def c_slices_IndexFunc_SS_int64_int64_1 : ACode := .region c_slices_IndexFunc_SS_int64_int64_o1
abbrev c_slices_IndexFunc_SS_int64_int64_o2 : List AJ := [.o ⟨(some 9), none, false, .bin .lss (.t 8) (.t 7), (some [0, 1, 7, 8, 9])⟩]
def c_slices_IndexFunc_SS_int64_int64_2 : ACode := .region c_slices_IndexFunc_SS_int64_int64_o2
def c_slices_IndexFunc_SS_int64_int64_3 : ACode := .cond (.t 9) .skip (.exit 0)
abbrev c_slices_IndexFunc_SS_int64_int64_o3 : List AJ := [.o ⟨(some 10), none, false, .mv (.t 8), none⟩, .o ⟨(some 5), none, false, .mv (.t 10), (some [0, 1, 5, 7, 8])⟩]
def c_slices_IndexFunc_SS_int64_int64_4 : ACode := .region c_slices_IndexFunc_SS_int64_int64_o3
abbrev c_slices_IndexFunc_SS_int64_int64_o4 : List AJ := [.o ⟨(some 11), none, false, .mv (.t 1), none⟩, .o ⟨(some 12), none, false, .mv (.t 0), none⟩, .o ⟨(some 13), none, false, .mv (.t 5), none⟩, .o ⟨(some 14), none, false, .idxA 1 (.t 12) (.t 13), none⟩, .o ⟨(some 15), none, false, .load 1 false (.t 14), none⟩, .o ⟨(some 16), none, false, .callv (.t 11) [(.t 15)], (some [0, 1, 5, 7, 8, 16])⟩]
def c_slices_IndexFunc_SS_int64_int64_5 : ACode := .region c_slices_IndexFunc_SS_int64_int64_o4
abbrev c_slices_IndexFunc_SS_int64_int64_o5 : List AJ := [.o ⟨(some 17), none, false, .mv (.t 5), none⟩, .o ⟨(some 4), none, false, .mv (.t 17), (some [4])⟩]
def c_slices_IndexFunc_SS_int64_int64_6 : ACode := .region c_slices_IndexFunc_SS_int64_int64_o5
def c_slices_IndexFunc_SS_int64_int64_7 : ACode := .seq c_slices_IndexFunc_SS_int64_int64_6 .ret
def c_slices_IndexFunc_SS_int64_int64_8 : ACode := .cond (.t 16) c_slices_IndexFunc_SS_int64_int64_7 .skip
def c_slices_IndexFunc_SS_int64_int64_9 : ACode := .seq c_slices_IndexFunc_SS_int64_int64_5 c_slices_IndexFunc_SS_int64_int64_8
def c_slices_IndexFunc_SS_int64_int64_10 : ACode := .seq c_slices_IndexFunc_SS_int64_int64_4 c_slices_IndexFunc_SS_int64_int64_9
def c_slices_IndexFunc_SS_int64_int64_11 : ACode := .block 1 c_slices_IndexFunc_SS_int64_int64_10
abbrev c_slices_IndexFunc_SS_int64_int64_o6 : List AJ := [.o ⟨(some 18), none, true, .bin .add (.t 8) (.c (.int .i64 1)), none⟩, .o ⟨(some 8), none, false, .mv (.t 18), (some [0, 1, 7, 8])⟩]
def c_slices_IndexFunc_SS_int64_int64_12 : ACode := .region c_slices_IndexFunc_SS_int64_int64_o6
def c_slices_IndexFunc_SS_int64_int64_13 : ACode := .seq c_slices_IndexFunc_SS_int64_int64_11 c_slices_IndexFunc_SS_int64_int64_12
def c_slices_IndexFunc_SS_int64_int64_14 : ACode := .seq c_slices_IndexFunc_SS_int64_int64_3 c_slices_IndexFunc_SS_int64_int64_13
def c_slices_IndexFunc_SS_int64_int64_15 : ACode := .seq c_slices_IndexFunc_SS_int64_int64_2 c_slices_IndexFunc_SS_int64_int64_14
def c_slices_IndexFunc_SS_int64_int64_16 : ACode := .loop c_slices_IndexFunc_SS_int64_int64_15
def c_slices_IndexFunc_SS_int64_int64_17 : ACode := .block 0 c_slices_IndexFunc_SS_int64_int64_16
def c_slices_IndexFunc_SS_int64_int64_18 : ACode := .seq c_slices_IndexFunc_SS_int64_int64_1 c_slices_IndexFunc_SS_int64_int64_17
abbrev c_slices_IndexFunc_SS_int64_int64_o7 : List AJ := [.o ⟨(some 4), none, false, .mv (.c (.int .i64 (-1))), (some [4])⟩]
def c_slices_IndexFunc_SS_int64_int64_19 : ACode := .region c_slices_IndexFunc_SS_int64_int64_o7
def c_slices_IndexFunc_SS_int64_int64_20 : ACode := .seq c_slices_IndexFunc_SS_int64_int64_19 .ret
def c_slices_IndexFunc_SS_int64_int64_21 : ACode := .seq c_slices_IndexFunc_SS_int64_int64_18 c_slices_IndexFunc_SS_int64_int64_20
def c_slices_IndexFunc_SS_int64_int64_22 : ACode := .seq c_slices_IndexFunc_SS_int64_int64_0 c_slices_IndexFunc_SS_int64_int64_21
section
variable (C : Cx) (n : Nat) (sk : List AItem) (e : Env) (h : Heap) (R : AV → Heap → Prop)
@[simp, simp ↓] theorem c_slices_IndexFunc_SS_int64_int64_0_r : vc2 C (n + 1) [] (.code c_slices_IndexFunc_SS_int64_int64_0 :: sk) e h R = (vc2 C n c_slices_IndexFunc_SS_int64_int64_o0 sk e h R) := nr rfl
@[simp, simp ↓] theorem c_slices_IndexFunc_SS_int64_int64_1_r : vc2 C (n + 1) [] (.code c_slices_IndexFunc_SS_int64_int64_1 :: sk) e h R = (vc2 C n c_slices_IndexFunc_SS_int64_int64_o1 sk e h R) := nr rfl
@[simp, simp ↓] theorem c_slices_IndexFunc_SS_int64_int64_2_r : vc2 C (n + 1) [] (.code c_slices_IndexFunc_SS_int64_int64_2 :: sk) e h R = (vc2 C n c_slices_IndexFunc_SS_int64_int64_o2 sk e h R) := nr rfl
@[simp, simp ↓] theorem c_slices_IndexFunc_SS_int64_int64_3_r : vc2 C (n + 1) [] (.code c_slices_IndexFunc_SS_int64_int64_3 :: sk) e h R = (condK (ev e (.t 9)) (vc2 C n [] (.code .skip :: sk) e h R) (vc2 C n [] (.code (.exit 0) :: sk) e h R)) := nr rfl
@[simp, simp ↓] theorem c_slices_IndexFunc_SS_int64_int64_4_r : vc2 C (n + 1) [] (.code c_slices_IndexFunc_SS_int64_int64_4 :: sk) e h R = (vc2 C n c_slices_IndexFunc_SS_int64_int64_o3 sk e h R) := nr rfl
@[simp, simp ↓] theorem c_slices_IndexFunc_SS_int64_int64_5_r : vc2 C (n + 1) [] (.code c_slices_IndexFunc_SS_int64_int64_5 :: sk) e h R = (vc2 C n c_slices_IndexFunc_SS_int64_int64_o4 sk e h R) := nr rfl
@[simp, simp ↓] theorem c_slices_IndexFunc_SS_int64_int64_6_r : vc2 C (n + 1) [] (.code c_slices_IndexFunc_SS_int64_int64_6 :: sk) e h R = (vc2 C n c_slices_IndexFunc_SS_int64_int64_o5 sk e h R) := nr rfl
@[simp, simp ↓] theorem c_slices_IndexFunc_SS_int64_int64_7_r : vc2 C (n + 1) [] (.code c_slices_IndexFunc_SS_int64_int64_7 :: sk) e h R = (vc2 C n [] (.code c_slices_IndexFunc_SS_int64_int64_6 :: .code .ret :: sk) e h R) := nr rfl
@[simp, simp ↓] theorem c_slices_IndexFunc_SS_int64_int64_8_r : vc2 C (n + 1) [] (.code c_slices_IndexFunc_SS_int64_int64_8 :: sk) e h R = (condK (ev e (.t 16)) (vc2 C n [] (.code c_slices_IndexFunc_SS_int64_int64_7 :: sk) e h R) (vc2 C n [] (.code .skip :: sk) e h R)) := nr rfl
@[simp, simp ↓] theorem c_slices_IndexFunc_SS_int64_int64_9_r : vc2 C (n + 1) [] (.code c_slices_IndexFunc_SS_int64_int64_9 :: sk) e h R = (vc2 C n [] (.code c_slices_IndexFunc_SS_int64_int64_5 :: .code c_slices_IndexFunc_SS_int64_int64_8 :: sk) e h R) := nr rfl
@[simp, simp ↓] theorem c_slices_IndexFunc_SS_int64_int64_10_r : vc2 C (n + 1) [] (.code c_slices_IndexFunc_SS_int64_int64_10 :: sk) e h R = (vc2 C n [] (.code c_slices_IndexFunc_SS_int64_int64_4 :: .code c_slices_IndexFunc_SS_int64_int64_9 :: sk) e h R) := nr rfl
@[simp, simp ↓] theorem c_slices_IndexFunc_SS_int64_int64_11_r : vc2 C (n + 1) [] (.code c_slices_IndexFunc_SS_int64_int64_11 :: sk) e h R = (vc2 C n [] (.code c_slices_IndexFunc_SS_int64_int64_10 :: .inBlock 1 :: sk) e h R) := nr rfl
@[simp, simp ↓] theorem c_slices_IndexFunc_SS_int64_int64_12_r : vc2 C (n + 1) [] (.code c_slices_IndexFunc_SS_int64_int64_12 :: sk) e h R = (vc2 C n c_slices_IndexFunc_SS_int64_int64_o6 sk e h R) := nr rfl
@[simp, simp ↓] theorem c_slices_IndexFunc_SS_int64_int64_13_r : vc2 C (n + 1) [] (.code c_slices_IndexFunc_SS_int64_int64_13 :: sk) e h R = (vc2 C n [] (.code c_slices_IndexFunc_SS_int64_int64_11 :: .code c_slices_IndexFunc_SS_int64_int64_12 :: sk) e h R) := nr rfl
@[simp, simp ↓] theorem c_slices_IndexFunc_SS_int64_int64_14_r : vc2 C (n + 1) [] (.code c_slices_IndexFunc_SS_int64_int64_14 :: sk) e h R = (vc2 C n [] (.code c_slices_IndexFunc_SS_int64_int64_3 :: .code c_slices_IndexFunc_SS_int64_int64_13 :: sk) e h R) := nr rfl
@[simp, simp ↓] theorem c_slices_IndexFunc_SS_int64_int64_15_r : vc2 C (n + 1) [] (.code c_slices_IndexFunc_SS_int64_int64_15 :: sk) e h R = (vc2 C n [] (.code c_slices_IndexFunc_SS_int64_int64_2 :: .code c_slices_IndexFunc_SS_int64_int64_14 :: sk) e h R) := nr rfl
@[simp, simp ↓] theorem c_slices_IndexFunc_SS_int64_int64_16_r : vc2 C (n + 1) [] (.code c_slices_IndexFunc_SS_int64_int64_16 :: sk) e h R = (Run2 C (.code c_slices_IndexFunc_SS_int64_int64_15 :: .inLoop c_slices_IndexFunc_SS_int64_int64_15 :: sk) e h R) := nr rfl
@[simp, simp ↓] theorem c_slices_IndexFunc_SS_int64_int64_17_r : vc2 C (n + 1) [] (.code c_slices_IndexFunc_SS_int64_int64_17 :: sk) e h R = (vc2 C n [] (.code c_slices_IndexFunc_SS_int64_int64_16 :: .inBlock 0 :: sk) e h R) := nr rfl
@[simp, simp ↓] theorem c_slices_IndexFunc_SS_int64_int64_18_r : vc2 C (n + 1) [] (.code c_slices_IndexFunc_SS_int64_int64_18 :: sk) e h R = (vc2 C n [] (.code c_slices_IndexFunc_SS_int64_int64_1 :: .code c_slices_IndexFunc_SS_int64_int64_17 :: sk) e h R) := nr rfl
@[simp, simp ↓] theorem c_slices_IndexFunc_SS_int64_int64_19_r : vc2 C (n + 1) [] (.code c_slices_IndexFunc_SS_int64_int64_19 :: sk) e h R = (vc2 C n c_slices_IndexFunc_SS_int64_int64_o7 sk e h R) := nr rfl
@[simp, simp ↓] theorem c_slices_IndexFunc_SS_int64_int64_20_r : vc2 C (n + 1) [] (.code c_slices_IndexFunc_SS_int64_int64_20 :: sk) e h R = (vc2 C n [] (.code c_slices_IndexFunc_SS_int64_int64_19 :: .code .ret :: sk) e h R) := nr rfl
@[simp, simp ↓] theorem c_slices_IndexFunc_SS_int64_int64_21_r : vc2 C (n + 1) [] (.code c_slices_IndexFunc_SS_int64_int64_21 :: sk) e h R = (vc2 C n [] (.code c_slices_IndexFunc_SS_int64_int64_18 :: .code c_slices_IndexFunc_SS_int64_int64_20 :: sk) e h R) := nr rfl
@[simp, simp ↓] theorem c_slices_IndexFunc_SS_int64_int64_22_r : vc2 C (n + 1) [] (.code c_slices_IndexFunc_SS_int64_int64_22 :: sk) e h R = (vc2 C n [] (.code c_slices_IndexFunc_SS_int64_int64_0 :: .code c_slices_IndexFunc_SS_int64_int64_21 :: sk) e h R) := nr rfl
end
noncomputable def c_slices_IndexFunc_SS_int64_int64_C (orc : Orc) : Cx := ⟨Try.prog, [], 65, 19, [.tmp 4], orc⟩
@[simp] theorem c_slices_IndexFunc_SS_int64_int64_C_P (orc : Orc) : (c_slices_IndexFunc_SS_int64_int64_C orc).P = Try.prog := nr rfl
@[simp] theorem c_slices_IndexFunc_SS_int64_int64_C_o (orc : Orc) : (c_slices_IndexFunc_SS_int64_int64_C orc).orc = orc := nr rfl
@[simp] theorem c_slices_IndexFunc_SS_int64_int64_C_r (orc : Orc) : (c_slices_IndexFunc_SS_int64_int64_C orc).res = [.tmp 4] := nr rfl
theorem c_slices_IndexFunc_SS_int64_int64_of {args : List AV} {h : Heap} {R : AV → Heap → Prop} {k : Nat} (ha : args.length = k) {orc : Orc} (hp : Pure Try.prog orc) (hk : Is (c_slices_IndexFunc_SS_int64_int64_C orc) Try.f65 → Run2 (c_slices_IndexFunc_SS_int64_int64_C orc) [.code c_slices_IndexFunc_SS_int64_int64_22] (argEnv 0 args) h (Post R)) (hle : k ≤ 19 := by simp) : ACalls Try.prog 65 args h R :=
  contract2 [] c_slices_IndexFunc_SS_int64_int64_22 [.tmp 4] Try.func65 (by decide +kernel) rfl (by kernel_rfl) (by rw [ha]; exact hle) (by kernel_rfl) hp hk
theorem c_slices_IndexFunc_SS_int64_int64_of0 {args : List AV} {h : Heap} {R : AV → Heap → Prop} {k : Nat} (ha : args.length = k) {orc : Orc} (hp : Pure Try.prog orc) (hk : Is (c_slices_IndexFunc_SS_int64_int64_C orc) Try.f65 → Run2 (c_slices_IndexFunc_SS_int64_int64_C orc) [.code c_slices_IndexFunc_SS_int64_int64_22] (argEnv 0 args) h R) (hle : k ≤ 19 := by simp) : ACalls Try.prog 65 args h R :=
  contract20 [] c_slices_IndexFunc_SS_int64_int64_22 [.tmp 4] Try.func65 (by decide +kernel) rfl (by kernel_rfl) (by rw [ha]; exact hle) (by kernel_rfl) hp hk
/-- The first place where q holds. -/
def idxL (q : List Int → Bool) (l : List (List Int)) : Int := match l.findIdx? q with
  | some i => i
  | none => -1
theorem IndexFuncLL_s (l : List (List Int)) (g : FuncId) (caps : List AV) (q : List Int → Bool) (h : Heap) (hl : l.length ≤ 1048576) (hq : ∀ a ∈ l, ACalls Try.prog g (il a :: caps) h (fun v h' => v = .bool (q a) ∧ h' = h)) :
    ACalls Try.prog 65 [.snap 1 (l.map il), .fn g caps] h (fun v h' => v = .int .i64 (idxL q l) ∧ h' = h) := by
  refine c_slices_IndexFunc_SS_int64_int64_of0 rfl noPure fun I => ?_
  refine Run2.of I 1000 ?_
  simp -implicitDefEqProofs
  refine Run2.loopE (fun i => [(0, .snap 1 (l.map il)), (1, .fn g caps), (7, .int .i64 l.length), (8, .int .i64 (i : Nat))]) (fun i => h) (fun i => l.length - i) (fun i => i ≤ l.length ∧ ∀ j (hj : j < l.length), j < i → q l[j] = false) 0 (by simp) rfl ⟨Nat.zero_le _, fun _ _ h => absurd h (Nat.not_lt_zero _)⟩ fun i hi ih => ?_
  by_cases hlt : i < l.length
  · have go := fun (h1 : q l[i] = false) => ih (i + 1) ⟨by omega, fun j hj hji => by
      rcases Nat.lt_or_ge j i with h | h
      · exact hi.2 j hj h
      · obtain rfl : j = i := by omega
        exact h1⟩ (by omega)
    have hat : q l[i] = true → idxL q l = i := fun h1 => by
      have : l.findIdx? q = some i := List.findIdx?_eq_some_iff_getElem.2 ⟨hlt, h1, fun j hj => by simp [hi.2 j (by omega) hj]⟩
      unfold idxL; rw [this]
    clear ih
    refine Run2.of I 1000 ?_
    simp -implicitDefEqProofs [hlt]
    refine (hq _ (List.getElem_mem hlt)).mono ?_
    rintro v h' ⟨rfl, rfl⟩
    refine gK.go ?_
    simp -implicitDefEqProofs
    refine ⟨fun h => (hat h).symm, fun h => ⟨by omega, ?_⟩⟩
    simpa using go h
  · obtain rfl : i = l.length := by omega
    have : l.findIdx? q = none := List.findIdx?_eq_none_iff.2 fun a ha => by
      obtain ⟨j, hj, rfl⟩ := List.mem_iff_getElem.1 ha
      simp [hi.2 j hj hj]
    refine Run2.of I 1000 ?_
    simp -implicitDefEqProofs
    unfold idxL; rw [this]
/-- An edge to the first round in which it can be. -/
def Gr.gStep (x : Gr) (rs : List (List Int)) (k : Int) : List (List Int) :=
  let at_ := rs.findIdx fun r => decide (x.free r k)
  if at_ < rs.length then rs.set at_ (rs.getD at_ [] ++ [k]) else rs ++ [[k]]
def Gr.greedy (x : Gr) : Nat → List (List Int)
  | 0 => []
  | n + 1 => x.gStep (x.greedy n) n
theorem sumL_set (rs : List (List Int)) (i : Nat) (hi : i < rs.length) (k : Int) : sumL (rs.set i (rs.getD i [] ++ [k])) = sumL rs + 1 := by
  have e : rs.getD i [] = rs[i] := by simp [hi]
  rw [e, List.set_eq_take_append_cons_drop, if_pos hi]
  conv => rhs; rw [← List.take_append_drop i rs, List.drop_eq_getElem_cons hi]
  unfold sumL
  simp only [List.map_append, List.sum_append, List.map_cons, List.sum_cons, List.length_append, List.length_cons, List.length_nil]
  omega
theorem Gr.greedy_inv (x : Gr) : ∀ n, (x.greedy n).length ≤ n ∧ sumL (x.greedy n) = n ∧ ∀ r ∈ x.greedy n, ∀ a ∈ r, 0 ≤ a ∧ a < n
  | 0 => ⟨Nat.le_refl _, rfl, by simp [Gr.greedy]⟩
  | n + 1 => by
    obtain ⟨h1, h2, h3⟩ := x.greedy_inv n
    unfold Gr.greedy Gr.gStep
    simp only
    split
    · rename_i hlt
      refine ⟨by simp; omega, by rw [sumL_set _ _ hlt, h2], fun r hr a ha => ?_⟩
      rcases List.mem_or_eq_of_mem_set hr with hr | rfl
      · have := h3 r hr a ha; omega
      · rw [List.mem_append, List.mem_singleton] at ha
        rcases ha with ha | rfl
        · have e : (x.greedy n).getD ((x.greedy n).findIdx fun r => decide (x.free r n)) [] = (x.greedy n)[(x.greedy n).findIdx fun r => decide (x.free r n)] := by simp [hlt]
          rw [e] at ha
          have := h3 _ (List.getElem_mem hlt) a ha; omega
        · omega
    · refine ⟨by simp; omega, by simp [sumL] at h2 ⊢; omega, fun r hr a ha => ?_⟩
      rw [List.mem_append, List.mem_singleton] at hr
      rcases hr with hr | rfl
      · have := h3 r hr a ha; omega
      · simp at ha; omega
abbrev c_impl_GreedyRounds_1_o0 : List AJ := [.o ⟨(some 4), none, false, .mv (.c (.bool false)), (some [0, 1, 2])⟩]
def c_impl_GreedyRounds_1_0 : ACode := .region c_impl_GreedyRounds_1_o0
abbrev c_impl_GreedyRounds_1_o1 : List AJ := [.o ⟨(some 5), none, false, .load 2 true (.t 1), none⟩, .o ⟨(some 6), none, false, .mv (.t 0), none⟩, .o ⟨(some 7), none, false, .load 1 false (.t 2), none⟩, .o ⟨(some 8), none, false, .call 67 [(.t 5), (.t 6), (.t 7)], none⟩, .o ⟨(some 4), none, false, .mv (.t 8), (some [4])⟩]
def c_impl_GreedyRounds_1_1 : ACode := .region c_impl_GreedyRounds_1_o1
def c_impl_GreedyRounds_1_2 : ACode := .seq c_impl_GreedyRounds_1_1 .ret
def c_impl_GreedyRounds_1_3 : ACode := .seq c_impl_GreedyRounds_1_0 c_impl_GreedyRounds_1_2
section
variable (C : Cx) (n : Nat) (sk : List AItem) (e : Env) (h : Heap) (R : AV → Heap → Prop)
@[simp, simp ↓] theorem c_impl_GreedyRounds_1_0_r : vc2 C (n + 1) [] (.code c_impl_GreedyRounds_1_0 :: sk) e h R = (vc2 C n c_impl_GreedyRounds_1_o0 sk e h R) := nr rfl
@[simp, simp ↓] theorem c_impl_GreedyRounds_1_1_r : vc2 C (n + 1) [] (.code c_impl_GreedyRounds_1_1 :: sk) e h R = (vc2 C n c_impl_GreedyRounds_1_o1 sk e h R) := nr rfl
@[simp, simp ↓] theorem c_impl_GreedyRounds_1_2_r : vc2 C (n + 1) [] (.code c_impl_GreedyRounds_1_2 :: sk) e h R = (vc2 C n [] (.code c_impl_GreedyRounds_1_1 :: .code .ret :: sk) e h R) := nr rfl
@[simp, simp ↓] theorem c_impl_GreedyRounds_1_3_r : vc2 C (n + 1) [] (.code c_impl_GreedyRounds_1_3 :: sk) e h R = (vc2 C n [] (.code c_impl_GreedyRounds_1_0 :: .code c_impl_GreedyRounds_1_2 :: sk) e h R) := nr rfl
end
noncomputable def c_impl_GreedyRounds_1_C (orc : Orc) : Cx := ⟨Try.prog, [], 66, 9, [.tmp 4], orc⟩
@[simp] theorem c_impl_GreedyRounds_1_C_P (orc : Orc) : (c_impl_GreedyRounds_1_C orc).P = Try.prog := nr rfl
@[simp] theorem c_impl_GreedyRounds_1_C_o (orc : Orc) : (c_impl_GreedyRounds_1_C orc).orc = orc := nr rfl
@[simp] theorem c_impl_GreedyRounds_1_C_r (orc : Orc) : (c_impl_GreedyRounds_1_C orc).res = [.tmp 4] := nr rfl
theorem c_impl_GreedyRounds_1_of {args : List AV} {h : Heap} {R : AV → Heap → Prop} {k : Nat} (ha : args.length = k) {orc : Orc} (hp : Pure Try.prog orc) (hk : Is (c_impl_GreedyRounds_1_C orc) Try.f66 → Run2 (c_impl_GreedyRounds_1_C orc) [.code c_impl_GreedyRounds_1_3] (argEnv 0 args) h (Post R)) (hle : k ≤ 9 := by simp) : ACalls Try.prog 66 args h R :=
  contract2 [] c_impl_GreedyRounds_1_3 [.tmp 4] Try.func66 (by decide +kernel) rfl (by kernel_rfl) (by rw [ha]; exact hle) (by kernel_rfl) hp hk
theorem c_impl_GreedyRounds_1_of0 {args : List AV} {h : Heap} {R : AV → Heap → Prop} {k : Nat} (ha : args.length = k) {orc : Orc} (hp : Pure Try.prog orc) (hk : Is (c_impl_GreedyRounds_1_C orc) Try.f66 → Run2 (c_impl_GreedyRounds_1_C orc) [.code c_impl_GreedyRounds_1_3] (argEnv 0 args) h R) (hle : k ≤ 9 := by simp) : ACalls Try.prog 66 args h R :=
  contract20 [] c_impl_GreedyRounds_1_3 [.tmp 4] Try.func66 (by decide +kernel) rfl (by kernel_rfl) (by rw [ha]; exact hle) (by kernel_rfl) hp hk
theorem greedy1_c (x : Gr) (k : Int) (r : List Int) (h : Heap) (hl : r.length ≤ 1048576) (hr : ∀ a ∈ r, x.inR a) (hk : x.inR k) : ACalls Try.prog 66 (il r :: [.ip [.int .i64 x.n, .snap 3 (x.ts.map T.av)], .ip [.int .i64 k]]) h (fun v h' => v = .bool (decide (x.free r k)) ∧ h' = h) := by
  refine c_impl_GreedyRounds_1_of0 rfl noPure fun I => ?_
  refine Run2.of I 1000 ?_
  simp -implicitDefEqProofs
  refine (isFreeIn_s x r k h hl hr hk).mono ?_
  rintro v h' ⟨rfl, rfl⟩
  refine gK.go ?_
  simp -implicitDefEqProofs
theorem idxL_at (q : List Int → Bool) (l : List (List Int)) : (l.findIdx q < l.length ∧ idxL q l = l.findIdx q) ∨ (l.findIdx q = l.length ∧ idxL q l = -1) := by
  unfold idxL
  cases h : l.findIdx? q with
  | none =>
    right
    rw [List.findIdx?_eq_none_iff] at h
    exact ⟨List.findIdx_eq_length.2 fun a ha => by simpa using h a ha, rfl⟩
  | some i =>
    left
    obtain ⟨hi, hq, hb⟩ := List.findIdx?_eq_some_iff_getElem.1 h
    have : l.findIdx q = i := (List.findIdx_eq hi).2 ⟨hq, fun j hj => by simpa using hb j hj⟩
    exact ⟨by omega, by rw [this]⟩
noncomputable def Gr.gCode (x : Gr) : Int := if x.valid then 0 else 1
noncomputable def Gr.gL (x : Gr) : List (List Int) := if x.valid then x.greedy x.ts.length else []
theorem Gr.gL_tot (x : Gr) : ssTot x.gL ≤ 48 := by
  unfold Gr.gL
  split
  · rename_i h
    obtain ⟨h1, h2, _⟩ := x.greedy_inv x.ts.length
    have := h.2.2.2
    unfold ssTot; omega
  · simp [ssTot, sumL]
abbrev c_impl_GreedyRounds_o0 : List AJ := [.o ⟨(some 1), none, false, .box false 2 (.t 0), none⟩, .o ⟨(some 2), none, false, .mv (.c .nilsl), none⟩, .o ⟨(some 3), none, false, .mv (.c (.int .i64 0)), (some [1])⟩]
def c_impl_GreedyRounds_0 : ACode := .region c_impl_GreedyRounds_o0
abbrev c_impl_GreedyRounds_o1 : List AJ := [.o ⟨(some 7), none, false, .load 2 true (.t 1), none⟩, .o ⟨(some 8), none, false, .call 59 [(.t 7)], none⟩, .o ⟨(some 9), none, false, .un .not (.t 8), (some [1, 9])⟩]
def c_impl_GreedyRounds_1 : ACode := .region c_impl_GreedyRounds_o1
abbrev c_impl_GreedyRounds_o2 : List AJ := [.o ⟨(some 2), none, false, .mv (.c .nilsl), none⟩, .o ⟨(some 3), none, false, .mv (.c (.int .i64 1)), (some [2, 3])⟩]
def c_impl_GreedyRounds_2 : ACode := .region c_impl_GreedyRounds_o2
def c_impl_GreedyRounds_3 : ACode := .seq c_impl_GreedyRounds_2 .ret
def c_impl_GreedyRounds_4 : ACode := .cond (.t 9) c_impl_GreedyRounds_3 .skip
def c_impl_GreedyRounds_5 : ACode := .seq c_impl_GreedyRounds_1 c_impl_GreedyRounds_4
abbrev c_impl_GreedyRounds_o3 : List AJ := [.o ⟨(some 4), none, false, .mv (.c .nilsl), (some [1, 4])⟩]
def c_impl_GreedyRounds_6 : ACode := .region c_impl_GreedyRounds_o3
abbrev c_impl_GreedyRounds_o4 : List AJ := [.o ⟨(some 10), none, false, .fieldA 1 (.t 1), none⟩, .o ⟨(some 11), none, false, .load 1 false (.t 10), none⟩, .o ⟨(some 12), none, false, .call 64 [(.t 11)], none⟩, .o ⟨(some 13), none, false, .mv (.c (.int .i64 0)), (some [1, 4, 12, 13])⟩]
def c_impl_GreedyRounds_7 : ACode := .region c_impl_GreedyRounds_o4
abbrev c_impl_GreedyRounds_o5 : List AJ := [.o ⟨(some 14), none, false, .bin .lss (.t 13) (.t 12), (some [1, 4, 12, 13, 14])⟩]
def c_impl_GreedyRounds_8 : ACode := .region c_impl_GreedyRounds_o5
def c_impl_GreedyRounds_9 : ACode := .cond (.t 14) .skip (.exit 0)
abbrev c_impl_GreedyRounds_o6 : List AJ := [.o ⟨(some 15), none, false, .mv (.t 13), none⟩, .v 5 1 (.int .i64 0) [] (.t 15) (some [1, 4, 5, 12, 13])]
def c_impl_GreedyRounds_10 : ACode := .region c_impl_GreedyRounds_o6
abbrev c_impl_GreedyRounds_o7 : List AJ := [.o ⟨(some 16), none, false, .mv (.t 4), none⟩, .o ⟨(some 17), none, false, .mkfn 66 [(.t 1), (.t 5)], none⟩, .o ⟨(some 18), none, false, .call 65 [(.t 16), (.t 17)], none⟩, .o ⟨(some 6), none, false, .mv (.t 18), (some [1, 4, 5, 6, 12, 13])⟩]
def c_impl_GreedyRounds_11 : ACode := .region c_impl_GreedyRounds_o7
abbrev c_impl_GreedyRounds_o8 : List AJ := [.o ⟨(some 19), none, false, .mv (.t 6), none⟩, .o ⟨(some 20), none, false, .bin .lss (.t 19) (.c (.int .i64 0)), (some [1, 4, 5, 6, 12, 13, 20])⟩]
def c_impl_GreedyRounds_12 : ACode := .region c_impl_GreedyRounds_o8
abbrev c_impl_GreedyRounds_o9 : List AJ := [.o ⟨(some 21), none, false, .mv (.t 4), none⟩, .o ⟨(some 22), none, false, .len (.t 21), none⟩, .o ⟨(some 6), none, false, .mv (.t 22), (some [1, 4, 5, 6, 12, 13])⟩]
def c_impl_GreedyRounds_13 : ACode := .region c_impl_GreedyRounds_o9
abbrev c_impl_GreedyRounds_o10 : List AJ := [.o ⟨(some 23), none, false, .mv (.t 4), none⟩, .o ⟨(some 24), none, false, .bsl false 1 [(.c .nilsl)], none⟩, .o ⟨(some 25), none, false, .append 1 24 (.t 23) (.t 24), none⟩, .o ⟨(some 4), none, false, .mv (.t 25), (some [1, 4, 5, 6, 12, 13])⟩]
def c_impl_GreedyRounds_14 : ACode := .region c_impl_GreedyRounds_o10
def c_impl_GreedyRounds_15 : ACode := .seq c_impl_GreedyRounds_13 c_impl_GreedyRounds_14
def c_impl_GreedyRounds_16 : ACode := .cond (.t 20) c_impl_GreedyRounds_15 .skip
def c_impl_GreedyRounds_17 : ACode := .seq c_impl_GreedyRounds_12 c_impl_GreedyRounds_16
abbrev c_impl_GreedyRounds_o11 : List AJ := [.o ⟨(some 26), none, false, .mv (.t 4), none⟩, .o ⟨(some 27), none, false, .mv (.t 6), none⟩, .o ⟨(some 28), none, false, .mv (.t 4), none⟩, .o ⟨(some 29), none, false, .mv (.t 6), none⟩, .o ⟨(some 30), none, false, .idxA 1 (.t 28) (.t 29), none⟩, .o ⟨(some 31), none, false, .load 1 false (.t 30), none⟩, .o ⟨(some 32), none, false, .load 1 false (.t 5), none⟩, .o ⟨(some 33), none, false, .bsl false 1 [(.t 32)], none⟩, .o ⟨(some 34), none, false, .append 1 8 (.t 31) (.t 33), none⟩, .o ⟨(some 35), none, false, .idxA 1 (.t 26) (.t 27), none⟩, .o ⟨none, none, false, .store 1 (.t 35) (.t 34), (some [1, 4, 12, 13])⟩]
def c_impl_GreedyRounds_18 : ACode := .drawT 0 c_impl_GreedyRounds_o11 rfl
def c_impl_GreedyRounds_19 : ACode := .seq c_impl_GreedyRounds_17 c_impl_GreedyRounds_18
def c_impl_GreedyRounds_20 : ACode := .seq c_impl_GreedyRounds_11 c_impl_GreedyRounds_19
def c_impl_GreedyRounds_21 : ACode := .seq c_impl_GreedyRounds_10 c_impl_GreedyRounds_20
def c_impl_GreedyRounds_22 : ACode := .block 1 c_impl_GreedyRounds_21
abbrev c_impl_GreedyRounds_o12 : List AJ := [.o ⟨(some 36), none, true, .bin .add (.t 13) (.c (.int .i64 1)), none⟩, .o ⟨(some 13), none, false, .mv (.t 36), (some [1, 4, 12, 13])⟩]
def c_impl_GreedyRounds_23 : ACode := .region c_impl_GreedyRounds_o12
def c_impl_GreedyRounds_24 : ACode := .seq c_impl_GreedyRounds_22 c_impl_GreedyRounds_23
def c_impl_GreedyRounds_25 : ACode := .seq c_impl_GreedyRounds_9 c_impl_GreedyRounds_24
def c_impl_GreedyRounds_26 : ACode := .seq c_impl_GreedyRounds_8 c_impl_GreedyRounds_25
def c_impl_GreedyRounds_27 : ACode := .loop c_impl_GreedyRounds_26
def c_impl_GreedyRounds_28 : ACode := .block 0 c_impl_GreedyRounds_27
def c_impl_GreedyRounds_29 : ACode := .seq c_impl_GreedyRounds_7 c_impl_GreedyRounds_28
abbrev c_impl_GreedyRounds_o13 : List AJ := [.o ⟨(some 37), none, false, .mv (.t 4), none⟩, .o ⟨(some 2), none, false, .mv (.t 37), none⟩, .o ⟨(some 3), none, false, .mv (.c (.int .i64 0)), (some [2, 3])⟩]
def c_impl_GreedyRounds_30 : ACode := .region c_impl_GreedyRounds_o13
def c_impl_GreedyRounds_31 : ACode := .seq c_impl_GreedyRounds_30 .ret
def c_impl_GreedyRounds_32 : ACode := .seq c_impl_GreedyRounds_29 c_impl_GreedyRounds_31
def c_impl_GreedyRounds_33 : ACode := .seq c_impl_GreedyRounds_6 c_impl_GreedyRounds_32
def c_impl_GreedyRounds_34 : ACode := .seq c_impl_GreedyRounds_5 c_impl_GreedyRounds_33
def c_impl_GreedyRounds_35 : ACode := .seq c_impl_GreedyRounds_0 c_impl_GreedyRounds_34
section
variable (C : Cx) (n : Nat) (sk : List AItem) (e : Env) (h : Heap) (R : AV → Heap → Prop)
@[simp, simp ↓] theorem c_impl_GreedyRounds_0_r : vc2 C (n + 1) [] (.code c_impl_GreedyRounds_0 :: sk) e h R = (vc2 C n c_impl_GreedyRounds_o0 sk e h R) := nr rfl
@[simp, simp ↓] theorem c_impl_GreedyRounds_1_r : vc2 C (n + 1) [] (.code c_impl_GreedyRounds_1 :: sk) e h R = (vc2 C n c_impl_GreedyRounds_o1 sk e h R) := nr rfl
@[simp, simp ↓] theorem c_impl_GreedyRounds_2_r : vc2 C (n + 1) [] (.code c_impl_GreedyRounds_2 :: sk) e h R = (vc2 C n c_impl_GreedyRounds_o2 sk e h R) := nr rfl
@[simp, simp ↓] theorem c_impl_GreedyRounds_3_r : vc2 C (n + 1) [] (.code c_impl_GreedyRounds_3 :: sk) e h R = (vc2 C n [] (.code c_impl_GreedyRounds_2 :: .code .ret :: sk) e h R) := nr rfl
@[simp, simp ↓] theorem c_impl_GreedyRounds_4_r : vc2 C (n + 1) [] (.code c_impl_GreedyRounds_4 :: sk) e h R = (condK (ev e (.t 9)) (vc2 C n [] (.code c_impl_GreedyRounds_3 :: sk) e h R) (vc2 C n [] (.code .skip :: sk) e h R)) := nr rfl
@[simp, simp ↓] theorem c_impl_GreedyRounds_5_r : vc2 C (n + 1) [] (.code c_impl_GreedyRounds_5 :: sk) e h R = (vc2 C n [] (.code c_impl_GreedyRounds_1 :: .code c_impl_GreedyRounds_4 :: sk) e h R) := nr rfl
@[simp, simp ↓] theorem c_impl_GreedyRounds_6_r : vc2 C (n + 1) [] (.code c_impl_GreedyRounds_6 :: sk) e h R = (vc2 C n c_impl_GreedyRounds_o3 sk e h R) := nr rfl
@[simp, simp ↓] theorem c_impl_GreedyRounds_7_r : vc2 C (n + 1) [] (.code c_impl_GreedyRounds_7 :: sk) e h R = (vc2 C n c_impl_GreedyRounds_o4 sk e h R) := nr rfl
@[simp, simp ↓] theorem c_impl_GreedyRounds_8_r : vc2 C (n + 1) [] (.code c_impl_GreedyRounds_8 :: sk) e h R = (vc2 C n c_impl_GreedyRounds_o5 sk e h R) := nr rfl
@[simp, simp ↓] theorem c_impl_GreedyRounds_9_r : vc2 C (n + 1) [] (.code c_impl_GreedyRounds_9 :: sk) e h R = (condK (ev e (.t 14)) (vc2 C n [] (.code .skip :: sk) e h R) (vc2 C n [] (.code (.exit 0) :: sk) e h R)) := nr rfl
@[simp, simp ↓] theorem c_impl_GreedyRounds_10_r : vc2 C (n + 1) [] (.code c_impl_GreedyRounds_10 :: sk) e h R = (vc2 C n c_impl_GreedyRounds_o6 sk e h R) := nr rfl
@[simp, simp ↓] theorem c_impl_GreedyRounds_11_r : vc2 C (n + 1) [] (.code c_impl_GreedyRounds_11 :: sk) e h R = (vc2 C n c_impl_GreedyRounds_o7 sk e h R) := nr rfl
@[simp, simp ↓] theorem c_impl_GreedyRounds_12_r : vc2 C (n + 1) [] (.code c_impl_GreedyRounds_12 :: sk) e h R = (vc2 C n c_impl_GreedyRounds_o8 sk e h R) := nr rfl
@[simp, simp ↓] theorem c_impl_GreedyRounds_13_r : vc2 C (n + 1) [] (.code c_impl_GreedyRounds_13 :: sk) e h R = (vc2 C n c_impl_GreedyRounds_o9 sk e h R) := nr rfl
@[simp, simp ↓] theorem c_impl_GreedyRounds_14_r : vc2 C (n + 1) [] (.code c_impl_GreedyRounds_14 :: sk) e h R = (vc2 C n c_impl_GreedyRounds_o10 sk e h R) := nr rfl
@[simp, simp ↓] theorem c_impl_GreedyRounds_15_r : vc2 C (n + 1) [] (.code c_impl_GreedyRounds_15 :: sk) e h R = (vc2 C n [] (.code c_impl_GreedyRounds_13 :: .code c_impl_GreedyRounds_14 :: sk) e h R) := nr rfl
@[simp, simp ↓] theorem c_impl_GreedyRounds_16_r : vc2 C (n + 1) [] (.code c_impl_GreedyRounds_16 :: sk) e h R = (condK (ev e (.t 20)) (vc2 C n [] (.code c_impl_GreedyRounds_15 :: sk) e h R) (vc2 C n [] (.code .skip :: sk) e h R)) := nr rfl
@[simp, simp ↓] theorem c_impl_GreedyRounds_17_r : vc2 C (n + 1) [] (.code c_impl_GreedyRounds_17 :: sk) e h R = (vc2 C n [] (.code c_impl_GreedyRounds_12 :: .code c_impl_GreedyRounds_16 :: sk) e h R) := nr rfl
@[simp, simp ↓] theorem c_impl_GreedyRounds_18_r : vc2 C (n + 1) [] (.code c_impl_GreedyRounds_18 :: sk) e h R = (200 ≤ n ∧ vc2 C n c_impl_GreedyRounds_o11 sk e h R) := nr rfl
@[simp, simp ↓] theorem c_impl_GreedyRounds_19_r : vc2 C (n + 1) [] (.code c_impl_GreedyRounds_19 :: sk) e h R = (vc2 C n [] (.code c_impl_GreedyRounds_17 :: .code c_impl_GreedyRounds_18 :: sk) e h R) := nr rfl
@[simp, simp ↓] theorem c_impl_GreedyRounds_20_r : vc2 C (n + 1) [] (.code c_impl_GreedyRounds_20 :: sk) e h R = (vc2 C n [] (.code c_impl_GreedyRounds_11 :: .code c_impl_GreedyRounds_19 :: sk) e h R) := nr rfl
@[simp, simp ↓] theorem c_impl_GreedyRounds_21_r : vc2 C (n + 1) [] (.code c_impl_GreedyRounds_21 :: sk) e h R = (vc2 C n [] (.code c_impl_GreedyRounds_10 :: .code c_impl_GreedyRounds_20 :: sk) e h R) := nr rfl
@[simp, simp ↓] theorem c_impl_GreedyRounds_22_r : vc2 C (n + 1) [] (.code c_impl_GreedyRounds_22 :: sk) e h R = (vc2 C n [] (.code c_impl_GreedyRounds_21 :: .inBlock 1 :: sk) e h R) := nr rfl
@[simp, simp ↓] theorem c_impl_GreedyRounds_23_r : vc2 C (n + 1) [] (.code c_impl_GreedyRounds_23 :: sk) e h R = (vc2 C n c_impl_GreedyRounds_o12 sk e h R) := nr rfl
@[simp, simp ↓] theorem c_impl_GreedyRounds_24_r : vc2 C (n + 1) [] (.code c_impl_GreedyRounds_24 :: sk) e h R = (vc2 C n [] (.code c_impl_GreedyRounds_22 :: .code c_impl_GreedyRounds_23 :: sk) e h R) := nr rfl
@[simp, simp ↓] theorem c_impl_GreedyRounds_25_r : vc2 C (n + 1) [] (.code c_impl_GreedyRounds_25 :: sk) e h R = (vc2 C n [] (.code c_impl_GreedyRounds_9 :: .code c_impl_GreedyRounds_24 :: sk) e h R) := nr rfl
@[simp, simp ↓] theorem c_impl_GreedyRounds_26_r : vc2 C (n + 1) [] (.code c_impl_GreedyRounds_26 :: sk) e h R = (vc2 C n [] (.code c_impl_GreedyRounds_8 :: .code c_impl_GreedyRounds_25 :: sk) e h R) := nr rfl
@[simp, simp ↓] theorem c_impl_GreedyRounds_27_r : vc2 C (n + 1) [] (.code c_impl_GreedyRounds_27 :: sk) e h R = (Run2 C (.code c_impl_GreedyRounds_26 :: .inLoop c_impl_GreedyRounds_26 :: sk) e h R) := nr rfl
@[simp, simp ↓] theorem c_impl_GreedyRounds_28_r : vc2 C (n + 1) [] (.code c_impl_GreedyRounds_28 :: sk) e h R = (vc2 C n [] (.code c_impl_GreedyRounds_27 :: .inBlock 0 :: sk) e h R) := nr rfl
@[simp, simp ↓] theorem c_impl_GreedyRounds_29_r : vc2 C (n + 1) [] (.code c_impl_GreedyRounds_29 :: sk) e h R = (vc2 C n [] (.code c_impl_GreedyRounds_7 :: .code c_impl_GreedyRounds_28 :: sk) e h R) := nr rfl
@[simp, simp ↓] theorem c_impl_GreedyRounds_30_r : vc2 C (n + 1) [] (.code c_impl_GreedyRounds_30 :: sk) e h R = (vc2 C n c_impl_GreedyRounds_o13 sk e h R) := nr rfl
@[simp, simp ↓] theorem c_impl_GreedyRounds_31_r : vc2 C (n + 1) [] (.code c_impl_GreedyRounds_31 :: sk) e h R = (vc2 C n [] (.code c_impl_GreedyRounds_30 :: .code .ret :: sk) e h R) := nr rfl
@[simp, simp ↓] theorem c_impl_GreedyRounds_32_r : vc2 C (n + 1) [] (.code c_impl_GreedyRounds_32 :: sk) e h R = (vc2 C n [] (.code c_impl_GreedyRounds_29 :: .code c_impl_GreedyRounds_31 :: sk) e h R) := nr rfl
@[simp, simp ↓] theorem c_impl_GreedyRounds_33_r : vc2 C (n + 1) [] (.code c_impl_GreedyRounds_33 :: sk) e h R = (vc2 C n [] (.code c_impl_GreedyRounds_6 :: .code c_impl_GreedyRounds_32 :: sk) e h R) := nr rfl
@[simp, simp ↓] theorem c_impl_GreedyRounds_34_r : vc2 C (n + 1) [] (.code c_impl_GreedyRounds_34 :: sk) e h R = (vc2 C n [] (.code c_impl_GreedyRounds_5 :: .code c_impl_GreedyRounds_33 :: sk) e h R) := nr rfl
@[simp, simp ↓] theorem c_impl_GreedyRounds_35_r : vc2 C (n + 1) [] (.code c_impl_GreedyRounds_35 :: sk) e h R = (vc2 C n [] (.code c_impl_GreedyRounds_0 :: .code c_impl_GreedyRounds_34 :: sk) e h R) := nr rfl
end
noncomputable def c_impl_GreedyRounds_C (orc : Orc) : Cx := ⟨Try.prog, [5], 21, 38, [.tmp 2, .tmp 3], orc⟩
@[simp] theorem c_impl_GreedyRounds_C_P (orc : Orc) : (c_impl_GreedyRounds_C orc).P = Try.prog := nr rfl
@[simp] theorem c_impl_GreedyRounds_C_o (orc : Orc) : (c_impl_GreedyRounds_C orc).orc = orc := nr rfl
@[simp] theorem c_impl_GreedyRounds_C_r (orc : Orc) : (c_impl_GreedyRounds_C orc).res = [.tmp 2, .tmp 3] := nr rfl
theorem c_impl_GreedyRounds_of {args : List AV} {h : Heap} {R : AV → Heap → Prop} {k : Nat} (ha : args.length = k) {orc : Orc} (hp : Pure Try.prog orc) (hk : Is (c_impl_GreedyRounds_C orc) Try.f21 → Run2 (c_impl_GreedyRounds_C orc) [.code c_impl_GreedyRounds_35] (argEnv 0 args) h (Post R)) (hle : k ≤ 38 := by simp) : ACalls Try.prog 21 args h R :=
  contract2 [5] c_impl_GreedyRounds_35 [.tmp 2, .tmp 3] Try.func21 (by decide +kernel) rfl (by kernel_rfl) (by rw [ha]; exact hle) (by kernel_rfl) hp hk
theorem c_impl_GreedyRounds_of0 {args : List AV} {h : Heap} {R : AV → Heap → Prop} {k : Nat} (ha : args.length = k) {orc : Orc} (hp : Pure Try.prog orc) (hk : Is (c_impl_GreedyRounds_C orc) Try.f21 → Run2 (c_impl_GreedyRounds_C orc) [.code c_impl_GreedyRounds_35] (argEnv 0 args) h R) (hle : k ≤ 38 := by simp) : ACalls Try.prog 21 args h R :=
  contract20 [5] c_impl_GreedyRounds_35 [.tmp 2, .tmp 3] Try.func21 (by decide +kernel) rfl (by kernel_rfl) (by rw [ha]; exact hle) (by kernel_rfl) hp hk
theorem implG_o (x : Gr) (hl : x.ts.length ≤ 1048576) (ok : x.ok) : ACalls Try.prog 21 [x.av] [] (fun v h' => ∃ w, v = .tup [w, .int .i64 x.gCode] ∧ OwnLL w x.gL h') := by
  refine c_impl_GreedyRounds_of0 rfl (lk_pure o_valid_k (lk_pure o_sizeE_k lk_pure0)) fun I => ?_
  by_cases hv : x.valid
  · have h24 := hv.2.2.2
    have hc : x.gCode = 0 := by simp [Gr.gCode, hv]
    have hg' : x.gL = x.greedy x.ts.length := by simp [Gr.gL, hv]
    rw [hc, hg']
    refine Run2.of I 1000 ?_
    simp -implicitDefEqProofs [hl, ok, hv]
    refine Run2.loopE (α := Nat × AV × List AV × Heap × Heap) (fun s => [(1, .ip [.int .i64 x.n, .snap 3 (x.ts.map T.av)]), (4, s.2.1), (12, .int .i64 x.ts.length), (13, .int .i64 (s.1 : Nat))]) (fun s => s.2.2.2.1 ++ s.2.2.2.2) (fun s => x.ts.length - s.1) (fun s => s.1 ≤ x.ts.length ∧ Grow 1 s.2.1 s.2.2.1 s.2.2.2.1 ∧ GrowLs s.2.2.1 (x.greedy s.1) s.2.2.2.2 ∧ ∀ i ∈ dom s.2.2.2.1, i ∉ dom s.2.2.2.2) (0, .nilsl, [], [], []) (by simp) rfl ⟨Nat.zero_le _, .nil, .nil, by simp [dom]⟩ ?_
    rintro ⟨k, w, us, hp, hi⟩ ⟨hk, hg, ho, hd⟩ ih
    simp only at hk hg ho hd
    have hcell := hg.cell
    obtain ⟨i1, i2, i3⟩ := x.greedy_inv k
    have oLL := OwnLL.of_grow' hg ho.own hd
    by_cases hlt : k < x.ts.length
    · have hkin : x.inR k := ⟨by omega, by omega⟩
      have hcall := fun (H : Heap) (hsub : ∀ p ∈ hp ++ hi, p ∈ H) => ACalls.reads (h := H) (hp ++ hi) hsub (P := Try.prog) (g := 65) (args := [w, .fn 66 [.ip [.int .i64 x.n, .snap 3 (x.ts.map T.av)], .ip [.int .i64 k]]]) (v0 := .int .i64 (idxL (fun r => decide (x.free r k)) (x.greedy k))) (by
        rw [lend_cons, lend_cons, lend_nil', lend1_cold _ (x := .fn 66 [.ip [.int .i64 x.n, .snap 3 (x.ts.map T.av)], .ip [.int .i64 k]]) (by simp [cold, colds, colds_T])]
        exact ACalls.wk (.cons oLL.lent.wk (.refl _)) (IndexFuncLL_s (x.greedy k) _ _ (fun r => decide (x.free r k)) [] (by omega) fun a ha => greedy1_c x k a [] (by have := len_sumL ha; omega) (fun b hb => by have := i3 a ha b hb; exact ⟨this.1, by omega⟩) hkin)) rfl
      have hstep : x.greedy (k + 1) = x.gStep (x.greedy k) k := rfl
      have hul := ho.own.len
      have nd := oLL.nodup
      unfold Gr.gStep at hstep
      simp only at hstep
      generalize hG : x.greedy k = G at *
      rcases idxL_at (fun r => decide (x.free r k)) G with ⟨hat, he⟩ | ⟨hat, he⟩
      · generalize hA : G.findIdx (fun r => decide (x.free r k)) = at_ at *
        rw [if_pos hat] at hstep
        obtain ⟨hu, h1, g, h2, rfl, o1, o2, o3⟩ := ho.split hat
        have hbl : G[at_].length ≤ 1048576 := by have := len_sumL (List.getElem_mem hat); omega
        have hgd : G.getD at_ [] = G[at_] := by simp [hat]
        rw [hgd] at hstep
        cases hg with
        | nil => simp at hu
        | emp => simp at hu
        | sl idw us n hn =>
          subst hn
          have pm : ([(idw, (⟨1, us⟩ : Blk))] ++ (h1 ++ (g ++ h2))).Perm ((idw, ⟨1, us⟩) :: (g ++ (h1 ++ h2))) := by
            simpa using List.perm_append_comm_assoc h1 g h2
          have nd2 := nodup_perm pm nd
          simp only [dom_cons, dom_append, List.nodup_cons, List.nodup_append, List.mem_append, not_or] at nd2
          obtain ⟨⟨n1, n2, n3⟩, n4, ⟨n5, n6, n7⟩, n8⟩ := nd2
          replace hcall := hcall _ fun p hp => pm.mem_iff.1 hp
          rw [he] at hcall
          refine Run2.perm pm ?_
          have hus : us[at_]? = some us[at_] := by simp [hu]
          generalize hU : us[at_] = u at *
          have hucell := o2.cell
          have go := fun (u' : AV) (g' : Heap) (G' : Grow 1 u' ((G[at_] ++ [(k : Int)]).map iv) g') (d' : ∀ i ∈ dom g', i ∉ dom ([(idw, (⟨1, us⟩ : Blk))] ++ (h1 ++ h2))) => ih (k + 1, .sl idw 1 0 us.length none, us.set at_ u', [(idw, ⟨1, us.set at_ u'⟩)], h1 ++ (g' ++ h2)) ⟨by omega, .sl idw _ _ (by simp), by
              simp only
              rw [hstep]
              refine GrowLs.put hu hat o1 G' o3 (fun j h1 h2 => n7 j h1 j h2 rfl) fun j hj hm => d' j hj ?_
              simp only [dom_append] at hm ⊢
              exact List.mem_append_right _ hm, by
              intro i hi
              simp [dom] at hi
              subst hi
              simp only [dom_append, List.mem_append, not_or]
              refine ⟨n2, fun hm => d' _ hm (by simp [dom]), n3⟩⟩ (by simp; omega)
          clear ih hG
          refine Run2.of I 1000 ?_
          simp -implicitDefEqProofs [hlt]
          refine hcall.mono ?_
          rintro v h' ⟨rfl, rfl⟩
          refine gK.go ?_
          have hn0 : ¬ ((at_ : Int) < 0) := by omega
          simp -implicitDefEqProofs [hus, hU, hucell, cells_of hucell, stor_of hucell, hn0, hu]
          refine o2.app_mid (pre := [(idw, ⟨1, us⟩)]) (post := h1 ++ h2) (by intro i hi hm; simp [dom] at hm; subst hm; exact n1 hi) (by simp; omega) (by simp) fun u' g' G' d' => ?_
          have n1' : idw ∉ dom g' := fun hm => d' _ hm (by simp [dom])
          have hc' := G'.cell
          replace go := go u' g' (by simpa using G') d'
          simp -implicitDefEqProofs [hget_app n1', hset_app n1', hc', cells_of hc', stor_of hc', hu]
          refine ⟨by omega, Run2.perm (h' := [(idw, ⟨1, us.set at_ u'⟩)] ++ (h1 ++ (g' ++ h2))) (List.perm_middle.trans (.cons _ (List.perm_append_comm_assoc g' h1 h2))) (by simpa using go)⟩
      · rw [if_neg (by omega)] at hstep
        replace hcall := hcall _ fun p hp => hp
        rw [he] at hcall
        have go := fun (w' : AV) (u' : AV) (hp' g' : Heap) (G' : Grow 1 u' ([(k : Int)].map iv) g') (W : Grow 1 w' (us ++ [u']) hp') (d1 : ∀ i ∈ dom g', i ∉ dom hi) (d2 : ∀ i ∈ dom hp', i ∉ dom (hi ++ g')) => ih (k + 1, w', us ++ [u'], hp', hi ++ g') ⟨by omega, W, by
            simp only
            rw [hstep]
            refine ho.append (us' := [u']) (rs' := [[(k : Int)]]) (hp' := g') ?_ fun j h1 h2 => d1 j h2 h1
            have := GrowLs.cons G' .nil (by simp [dom])
            simpa using this, d2⟩ (by simp; omega)
        clear ih hG
        refine Run2.of I 1000 ?_
        simp -implicitDefEqProofs [hlt]
        refine hcall.mono ?_
        rintro v h' ⟨rfl, rfl⟩
        refine gK.go ?_
        have hn0 : ((-1 : Int) < 0) := by omega
        have hlw := hg.len
        simp -implicitDefEqProofs [hcell, hlw]
        refine hg.app_mid (pre := []) (post := hi) (by simp [dom]) (by simp; omega) (by simp) fun w' hp' hg' hd' => ?_
        obtain ⟨idw, rfl, rfl⟩ := hg'.ne (by simp)
        simp -implicitDefEqProofs [hul]
        intro id m1 m2
        have m3 : ¬ idw = id := fun e => m1 e.symm
        refine gK.go ?_
        simp -implicitDefEqProofs [m1, m3, hul]
        refine ⟨by omega, ?_⟩
        have hd2 : idw ∉ dom hi := hd' _ (by simp [dom])
        replace go := go (.sl idw 1 0 (us.length + 1) none) (.sl id 1 0 1 none) [(idw, ⟨1, us ++ [.sl id 1 0 1 none]⟩)] [(id, ⟨1, [iv k]⟩)] (.sl id _ _ rfl) (.sl idw _ _ (by simp)) (by simpa [dom] using m2) (by
          intro i hi
          simp [dom] at hi
          subst hi
          rw [dom_append]
          simp only [List.mem_append, not_or]
          exact ⟨hd2, by simpa [dom] using m3⟩)
        refine Run2.perm (h' := [(idw, ⟨1, us ++ [.sl id 1 0 1 none]⟩)] ++ (hi ++ [(id, ⟨1, [iv k]⟩)])) ?_ (by simpa [hul] using go)
        refine (List.Perm.swap ..).trans (.cons _ ?_)
        exact List.perm_append_comm (l₁ := [(id, _)])
    · obtain rfl : k = x.ts.length := by omega
      refine Run2.of I 1000 ?_
      simp -implicitDefEqProofs [hcell]
      exact oLL
  · have hc : x.gCode = 1 := by simp [Gr.gCode, hv]
    have hg' : x.gL = [] := by simp [Gr.gL, hv]
    refine Run2.of I 1000 ?_
    simp -implicitDefEqProofs [hl, ok, hv, hc, hg']
    exact .nil
end Go.AG
