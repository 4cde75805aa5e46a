/- Who knows of whom, as the reference finds it. No statement is made here. -/
import Derived.Test.YtlncpnefkpfojaaCtK
import Derived.Test.YtlncpnefkpfojaaAGLists2
namespace Go.AG
open Go.Proofs Go.Proofs.Ytlncpnefkpfojaa
set_option linter.unusedSimpArgs false
set_option linter.unusedVariables false
set_option maxRecDepth 4000
/-- Blocks of their own, one for each row. -/
def rowsH : List Nat → List (List AV) → Heap
  | id :: ids, r :: rs => (id, ⟨1, r⟩) :: rowsH ids rs
  | _, _ => []
theorem rowsH_dom : ∀ {ids : List Nat} {R : List (List AV)}, ids.length = R.length → dom (rowsH ids R) = ids
  | [], [], _ => rfl
  | id :: ids, r :: R, h => by simp only [rowsH, dom_cons, rowsH_dom (by simpa using h : ids.length = R.length)]
  | [], _ :: _, h => by simp at h
  | _ :: _, [], h => by simp at h
theorem rowsH_get : ∀ {ids : List Nat} {R : List (List AV)} {i : Nat}, ids.length = R.length → ids.Nodup → (hi : i < ids.length) → (hr : i < R.length) → ∀ h : Heap, hget (rowsH ids R ++ h) ids[i] = some ⟨1, R[i]⟩
  | [], _, i, _, _, hi, _, _ => by simp at hi
  | _ :: _, [], i, _, _, _, hr, _ => by simp at hr
  | id :: ids, r :: R, 0, _, _, _, _, h => by simp [rowsH, hget]
  | id :: ids, r :: R, i + 1, hl, nd, hi, hr, h => by
    rw [List.nodup_cons] at nd
    have hi' : i < ids.length := by simpa using hi
    have hne : ¬ ids[i] = id := fun e => nd.1 (e ▸ List.getElem_mem hi')
    have := rowsH_get (by simpa using hl) nd.2 hi' (by simpa using hr : i < R.length) h
    simp only [rowsH, List.cons_append, hget, List.getElem_cons_succ]
    rw [if_neg (by first | exact hne | exact fun e => hne e.symm)]
    exact this
theorem rowsH_set (x : List AV) : ∀ {ids : List Nat} {R : List (List AV)} {i : Nat}, ids.length = R.length → ids.Nodup → (hi : i < ids.length) → ∀ h : Heap, hset (rowsH ids R ++ h) ids[i] ⟨1, x⟩ = rowsH ids (R.set i x) ++ h
  | [], _, i, _, _, hi, _ => by simp at hi
  | _ :: _, [], i, hl, _, _, _ => by simp at hl
  | id :: ids, r :: R, 0, _, _, _, h => by simp [rowsH, hset]
  | id :: ids, r :: R, i + 1, hl, nd, hi, h => by
    rw [List.nodup_cons] at nd
    have hi' : i < ids.length := by simpa using hi
    have hne : ¬ ids[i] = id := fun e => nd.1 (e ▸ List.getElem_mem hi')
    have := rowsH_set x (by simpa using hl) nd.2 hi' (R := R) h
    simp only [rowsH, List.cons_append, hset, List.getElem_cons_succ, List.set_cons_succ]
    rw [if_neg (by first | exact hne | exact fun e => hne e.symm), this]
theorem rowsH_snoc {id : Nat} {r : List AV} : ∀ {ids : List Nat} {R : List (List AV)}, ids.length = R.length → rowsH (ids ++ [id]) (R ++ [r]) = rowsH ids R ++ [(id, ⟨1, r⟩)]
  | [], [], _ => rfl
  | i :: ids, r :: R, h => by simp [rowsH, rowsH_snoc (by simpa using h : ids.length = R.length)]
  | [], _ :: _, h => by simp at h
  | _ :: _, [], h => by simp at h
/-- A set of nodes as bits. -/
def rowB (n m : Nat) : List AV := (List.range n).map fun k => .bool (m.testBit k)
@[simp] theorem rowB_length (n m : Nat) : (rowB n m).length = n := by simp [rowB]
theorem rowB_get {n m k : Nat} (h : k < n) : (rowB n m)[k]'(by simpa using h) = .bool (m.testBit k) := by simp [rowB]
@[simp] def slK (n id : Nat) : AV := .sl id 1 0 n (some n)
theorem rowB_pow {n i : Nat} (hi : i < n) : (List.replicate n (AV.bool false)).set i (.bool true) = rowB n (2 ^ i) := by
  apply List.ext_getElem (by simp)
  intro k h1 h2
  simp only [rowB, List.getElem_map, List.getElem_range, Nat.testBit_two_pow, List.getElem_set, List.getElem_replicate]
  by_cases h : i = k <;> simp [h]
@[simp] def KH (idw n : Nat) (ids : List Nat) (R : List (List AV)) (h : Heap) : Heap := (idw, ⟨1, ids.map (slK n)⟩) :: (rowsH ids R ++ h)
abbrev c_spec_l24Alone_o0 : List AJ := [.o ⟨(some 2), none, false, .mv (.c .nilsl), (some [0])⟩]
def c_spec_l24Alone_0 : ACode := .region c_spec_l24Alone_o0
abbrev c_spec_l24Alone_o1 : List AJ := [.e 6 1 none, .o ⟨(some 3), none, false, .mv (.t 6), (some [0, 3])⟩]
def c_spec_l24Alone_1 : ACode := .region c_spec_l24Alone_o1
abbrev c_spec_l24Alone_o2 : List AJ := [.o ⟨(some 4), none, false, .mv (.c (.int .i64 0)), (some [0, 3, 4])⟩]
def c_spec_l24Alone_2 : ACode := .region c_spec_l24Alone_o2
abbrev c_spec_l24Alone_o3 : List AJ := [.o ⟨(some 7), none, false, .mv (.t 4), none⟩, .o ⟨(some 8), none, false, .mv (.t 0), none⟩, .o ⟨(some 9), none, false, .bin .lss (.t 7) (.t 8), (some [0, 3, 4, 9])⟩]
def c_spec_l24Alone_3 : ACode := .region c_spec_l24Alone_o3
def c_spec_l24Alone_4 : ACode := .cond (.t 9) .skip (.exit 0)
def c_spec_l24Alone_5 : ACode := .seq c_spec_l24Alone_3 c_spec_l24Alone_4
abbrev c_spec_l24Alone_o4 : List AJ := [.o ⟨(some 12), none, false, .mv (.t 0), none⟩, .o ⟨(some 13), none, false, .mksl 1 1 (.bool false) (.t 12) (.t 12), none⟩, .o ⟨(some 5), none, false, .mv (.t 13), (some [0, 3, 4, 5])⟩]
def c_spec_l24Alone_6 : ACode := .region c_spec_l24Alone_o4
abbrev c_spec_l24Alone_o5 : List AJ := [.o ⟨(some 14), none, false, .mv (.t 5), none⟩, .o ⟨(some 15), none, false, .mv (.t 4), none⟩, .o ⟨(some 16), none, false, .idxA 1 (.t 14) (.t 15), none⟩, .o ⟨none, none, false, .store 1 (.t 16) (.c (.bool true)), (some [0, 3, 4, 5])⟩]
def c_spec_l24Alone_7 : ACode := .region c_spec_l24Alone_o5
abbrev c_spec_l24Alone_o6 : List AJ := [.o ⟨(some 17), none, false, .mv (.t 3), none⟩, .o ⟨(some 18), none, false, .mv (.t 5), none⟩, .o ⟨(some 19), none, false, .bsl false 1 [(.t 18)], none⟩, .o ⟨(some 20), none, false, .append 1 24 (.t 17) (.t 19), none⟩, .o ⟨(some 3), none, false, .mv (.t 20), (some [0, 3, 4])⟩]
def c_spec_l24Alone_8 : ACode := .region c_spec_l24Alone_o6
def c_spec_l24Alone_9 : ACode := .seq c_spec_l24Alone_7 c_spec_l24Alone_8
def c_spec_l24Alone_10 : ACode := .seq c_spec_l24Alone_6 c_spec_l24Alone_9
def c_spec_l24Alone_11 : ACode := .block 1 c_spec_l24Alone_10
abbrev c_spec_l24Alone_o7 : List AJ := [.o ⟨(some 10), none, false, .mv (.t 4), none⟩, .o ⟨(some 11), none, true, .bin .add (.t 10) (.c (.int .i64 1)), none⟩, .o ⟨(some 4), none, false, .mv (.t 11), (some [0, 3, 4])⟩]
def c_spec_l24Alone_12 : ACode := .region c_spec_l24Alone_o7
def c_spec_l24Alone_13 : ACode := .seq c_spec_l24Alone_11 c_spec_l24Alone_12
def c_spec_l24Alone_14 : ACode := .seq c_spec_l24Alone_5 c_spec_l24Alone_13
def c_spec_l24Alone_15 : ACode := .loop c_spec_l24Alone_14
def c_spec_l24Alone_16 : ACode := .block 0 c_spec_l24Alone_15
def c_spec_l24Alone_17 : ACode := .seq c_spec_l24Alone_2 c_spec_l24Alone_16
abbrev c_spec_l24Alone_o8 : List AJ := [.o ⟨(some 21), none, false, .mv (.t 3), none⟩, .o ⟨(some 2), none, false, .mv (.t 21), (some [2])⟩]
def c_spec_l24Alone_18 : ACode := .region c_spec_l24Alone_o8
def c_spec_l24Alone_19 : ACode := .seq c_spec_l24Alone_18 .ret
def c_spec_l24Alone_20 : ACode := .seq c_spec_l24Alone_17 c_spec_l24Alone_19
def c_spec_l24Alone_21 : ACode := .seq c_spec_l24Alone_1 c_spec_l24Alone_20
def c_spec_l24Alone_22 : ACode := .seq c_spec_l24Alone_0 c_spec_l24Alone_21
section
variable (C : Cx) (n : Nat) (sk : List AItem) (e : Env) (h : Heap) (R : AV → Heap → Prop)
@[simp, simp ↓] theorem c_spec_l24Alone_0_r : vc2 C (n + 1) [] (.code c_spec_l24Alone_0 :: sk) e h R = (vc2 C n c_spec_l24Alone_o0 sk e h R) := nr rfl
@[simp, simp ↓] theorem c_spec_l24Alone_1_r : vc2 C (n + 1) [] (.code c_spec_l24Alone_1 :: sk) e h R = (vc2 C n c_spec_l24Alone_o1 sk e h R) := nr rfl
@[simp, simp ↓] theorem c_spec_l24Alone_2_r : vc2 C (n + 1) [] (.code c_spec_l24Alone_2 :: sk) e h R = (vc2 C n c_spec_l24Alone_o2 sk e h R) := nr rfl
@[simp, simp ↓] theorem c_spec_l24Alone_3_r : vc2 C (n + 1) [] (.code c_spec_l24Alone_3 :: sk) e h R = (vc2 C n c_spec_l24Alone_o3 sk e h R) := nr rfl
@[simp, simp ↓] theorem c_spec_l24Alone_4_r : vc2 C (n + 1) [] (.code c_spec_l24Alone_4 :: sk) e h R = (condK (ev e (.t 9)) (vc2 C n [] (.code .skip :: sk) e h R) (vc2 C n [] (.code (.exit 0) :: sk) e h R)) := nr rfl
@[simp, simp ↓] theorem c_spec_l24Alone_5_r : vc2 C (n + 1) [] (.code c_spec_l24Alone_5 :: sk) e h R = (vc2 C n [] (.code c_spec_l24Alone_3 :: .code c_spec_l24Alone_4 :: sk) e h R) := nr rfl
@[simp, simp ↓] theorem c_spec_l24Alone_6_r : vc2 C (n + 1) [] (.code c_spec_l24Alone_6 :: sk) e h R = (vc2 C n c_spec_l24Alone_o4 sk e h R) := nr rfl
@[simp, simp ↓] theorem c_spec_l24Alone_7_r : vc2 C (n + 1) [] (.code c_spec_l24Alone_7 :: sk) e h R = (vc2 C n c_spec_l24Alone_o5 sk e h R) := nr rfl
@[simp, simp ↓] theorem c_spec_l24Alone_8_r : vc2 C (n + 1) [] (.code c_spec_l24Alone_8 :: sk) e h R = (vc2 C n c_spec_l24Alone_o6 sk e h R) := nr rfl
@[simp, simp ↓] theorem c_spec_l24Alone_9_r : vc2 C (n + 1) [] (.code c_spec_l24Alone_9 :: sk) e h R = (vc2 C n [] (.code c_spec_l24Alone_7 :: .code c_spec_l24Alone_8 :: sk) e h R) := nr rfl
@[simp, simp ↓] theorem c_spec_l24Alone_10_r : vc2 C (n + 1) [] (.code c_spec_l24Alone_10 :: sk) e h R = (vc2 C n [] (.code c_spec_l24Alone_6 :: .code c_spec_l24Alone_9 :: sk) e h R) := nr rfl
@[simp, simp ↓] theorem c_spec_l24Alone_11_r : vc2 C (n + 1) [] (.code c_spec_l24Alone_11 :: sk) e h R = (vc2 C n [] (.code c_spec_l24Alone_10 :: .inBlock 1 :: sk) e h R) := nr rfl
@[simp, simp ↓] theorem c_spec_l24Alone_12_r : vc2 C (n + 1) [] (.code c_spec_l24Alone_12 :: sk) e h R = (vc2 C n c_spec_l24Alone_o7 sk e h R) := nr rfl
@[simp, simp ↓] theorem c_spec_l24Alone_13_r : vc2 C (n + 1) [] (.code c_spec_l24Alone_13 :: sk) e h R = (vc2 C n [] (.code c_spec_l24Alone_11 :: .code c_spec_l24Alone_12 :: sk) e h R) := nr rfl
@[simp, simp ↓] theorem c_spec_l24Alone_14_r : vc2 C (n + 1) [] (.code c_spec_l24Alone_14 :: sk) e h R = (vc2 C n [] (.code c_spec_l24Alone_5 :: .code c_spec_l24Alone_13 :: sk) e h R) := nr rfl
@[simp, simp ↓] theorem c_spec_l24Alone_15_r : vc2 C (n + 1) [] (.code c_spec_l24Alone_15 :: sk) e h R = (Run2 C (.code c_spec_l24Alone_14 :: .inLoop c_spec_l24Alone_14 :: sk) e h R) := nr rfl
@[simp, simp ↓] theorem c_spec_l24Alone_16_r : vc2 C (n + 1) [] (.code c_spec_l24Alone_16 :: sk) e h R = (vc2 C n [] (.code c_spec_l24Alone_15 :: .inBlock 0 :: sk) e h R) := nr rfl
@[simp, simp ↓] theorem c_spec_l24Alone_17_r : vc2 C (n + 1) [] (.code c_spec_l24Alone_17 :: sk) e h R = (vc2 C n [] (.code c_spec_l24Alone_2 :: .code c_spec_l24Alone_16 :: sk) e h R) := nr rfl
@[simp, simp ↓] theorem c_spec_l24Alone_18_r : vc2 C (n + 1) [] (.code c_spec_l24Alone_18 :: sk) e h R = (vc2 C n c_spec_l24Alone_o8 sk e h R) := nr rfl
@[simp, simp ↓] theorem c_spec_l24Alone_19_r : vc2 C (n + 1) [] (.code c_spec_l24Alone_19 :: sk) e h R = (vc2 C n [] (.code c_spec_l24Alone_18 :: .code .ret :: sk) e h R) := nr rfl
@[simp, simp ↓] theorem c_spec_l24Alone_20_r : vc2 C (n + 1) [] (.code c_spec_l24Alone_20 :: sk) e h R = (vc2 C n [] (.code c_spec_l24Alone_17 :: .code c_spec_l24Alone_19 :: sk) e h R) := nr rfl
@[simp, simp ↓] theorem c_spec_l24Alone_21_r : vc2 C (n + 1) [] (.code c_spec_l24Alone_21 :: sk) e h R = (vc2 C n [] (.code c_spec_l24Alone_1 :: .code c_spec_l24Alone_20 :: sk) e h R) := nr rfl
@[simp, simp ↓] theorem c_spec_l24Alone_22_r : vc2 C (n + 1) [] (.code c_spec_l24Alone_22 :: sk) e h R = (vc2 C n [] (.code c_spec_l24Alone_0 :: .code c_spec_l24Alone_21 :: sk) e h R) := nr rfl
end
noncomputable def c_spec_l24Alone_C (orc : Orc) : Cx := ⟨Try.prog, [6], 88, 22, [.tmp 2], orc⟩
@[simp] theorem c_spec_l24Alone_C_P (orc : Orc) : (c_spec_l24Alone_C orc).P = Try.prog := nr rfl
@[simp] theorem c_spec_l24Alone_C_o (orc : Orc) : (c_spec_l24Alone_C orc).orc = orc := nr rfl
@[simp] theorem c_spec_l24Alone_C_r (orc : Orc) : (c_spec_l24Alone_C orc).res = [.tmp 2] := nr rfl
theorem c_spec_l24Alone_of {args : List AV} {h : Heap} {R : AV → Heap → Prop} {k : Nat} (ha : args.length = k) {orc : Orc} (hp : Pure Try.prog orc) (hk : Is (c_spec_l24Alone_C orc) Try.f88 → Run2 (c_spec_l24Alone_C orc) [.code c_spec_l24Alone_22] (argEnv 0 args) h (Post R)) (hle : k ≤ 22 := by simp) : ACalls Try.prog 88 args h R :=
  contract2 [6] c_spec_l24Alone_22 [.tmp 2] Try.func88 (by decide +kernel) rfl (by kernel_rfl) (by rw [ha]; exact hle) (by kernel_rfl) hp hk
theorem c_spec_l24Alone_of0 {args : List AV} {h : Heap} {R : AV → Heap → Prop} {k : Nat} (ha : args.length = k) {orc : Orc} (hp : Pure Try.prog orc) (hk : Is (c_spec_l24Alone_C orc) Try.f88 → Run2 (c_spec_l24Alone_C orc) [.code c_spec_l24Alone_22] (argEnv 0 args) h R) (hle : k ≤ 22 := by simp) : ACalls Try.prog 88 args h R :=
  contract20 [6] c_spec_l24Alone_22 [.tmp 2] Try.func88 (by decide +kernel) rfl (by kernel_rfl) (by rw [ha]; exact hle) (by kernel_rfl) hp hk
theorem l24Alone_w (n : Nat) (hn : 1 ≤ n ∧ n ≤ 12) (h : Heap) : ACalls Try.prog 88 [.int .i64 n] h (fun v h' => ∃ idw ids, v = .sl idw 1 0 n none ∧ ids.length = n ∧ ids.Nodup ∧ idw ∉ ids ∧ h' = KH idw n ids ((know0 n).map (rowB n)) h) := by
  refine ACalls.permR ?_
  refine c_spec_l24Alone_of0 rfl noPure fun I => ?_
  refine Run2.of I 1000 ?_
  simp -implicitDefEqProofs
  refine Run2.loopE (α := Nat × AV × List Nat × Heap × Heap) (fun s => [(0, .int .i64 n), (3, s.2.1), (4, .int .i64 (s.1 : Nat))]) (fun s => s.2.2.2.1 ++ s.2.2.2.2) (fun s => n - s.1) (fun s => s.1 ≤ n ∧ Grow 1 s.2.1 (s.2.2.1.map (slK n)) s.2.2.2.1 ∧ s.2.2.1.length = s.1 ∧ s.2.2.2.2.Perm (rowsH s.2.2.1 (((know0 n).map (rowB n)).take s.1) ++ h)) (0, .emp, [], [], h) (by simp) rfl ⟨Nat.zero_le _, .emp, rfl, by simp [rowsH]⟩ ?_
  rintro ⟨i, w, ids, hp, hi⟩ ⟨hin, hg, hl, hpm⟩ ih
  simp only at hin hg hl hpm
  have hcell := hg.cell
  by_cases hlt : i < n
  · have hrow := rowB_pow hlt
    have h0R : (know0 n)[i]'(by simpa using hlt) = 2 ^ i := by simp [know0]
    refine Run2.of I 1000 ?_
    simp -implicitDefEqProofs [hlt, hcell]
    refine ⟨by omega, fun id m1 m2 => ?_⟩
    refine gK.go ?_
    simp -implicitDefEqProofs [hlt, hcell, hrow]
    refine hg.app_mid (pre := [(id, ⟨1, rowB n (2 ^ i)⟩)]) (post := hi) (by intro j hj hm; simp [dom] at hm; subst hm; exact m1 hj) (by simp; omega) (by simp) fun w' hp' hg' hd' => ?_
    have hcell' := hg'.cell
    simp -implicitDefEqProofs [hcell']
    refine ⟨by omega, ?_⟩
    have go := ih (i + 1, w', ids ++ [id], hp', (id, ⟨1, rowB n (2 ^ i)⟩) :: hi) ⟨by omega, by simpa using hg', by simp [hl], by
      simp only
      rw [List.take_succ_eq_append_getElem (by simpa using hlt), rowsH_snoc (by simp [hl]; omega), List.getElem_map, h0R]
      refine (List.Perm.cons _ hpm).trans ?_
      rw [List.append_assoc]
      exact List.perm_middle.symm⟩ (by simp; omega)
    simpa using go
  · obtain rfl : n = i := by omega
    obtain ⟨idw, rfl, rfl⟩ := hg.ne (by intro e; simp at e; subst e; simp at hl; omega)
    refine Run2.of I 1000 ?_
    simp -implicitDefEqProofs
    rw [List.take_of_length_le (by simp)] at hpm
    have pm := List.Perm.cons (idw, (⟨1, ids.map (slK n)⟩ : Blk)) hpm
    intro q1 q2
    have nd2 := nodup_perm pm (List.nodup_cons.2 ⟨q1, q2⟩)
    simp only [dom_cons, dom_append, rowsH_dom (R := (know0 n).map (rowB n)) (by simpa using hl), List.nodup_cons, List.nodup_append, List.mem_append, not_or] at nd2
    exact ⟨_, pm, idw, ⟨rfl, hl⟩, ids, hl, nd2.2.1, nd2.1.1, rfl⟩
/-- Cells that are changed from the left. -/
def mix (B F : List AV) (k : Nat) : List AV := B.take k ++ F.drop k
theorem mix_zero (B F : List AV) : mix B F 0 = F := by simp [mix]
theorem mix_all {B F : List AV} (h : B.length = F.length) : mix B F B.length = B := by rw [mix, List.take_length, List.drop_of_length_le (by omega), List.append_nil]
theorem mix_length {B F : List AV} (h : B.length = F.length) (k : Nat) : (mix B F k).length = F.length := by simp [mix]; omega
theorem mix_at {B F : List AV} (h : B.length = F.length) {k : Nat} (hk : k < F.length) : (mix B F k)[k]? = some F[k] := by
  unfold mix
  rw [List.getElem?_append_right (by simp; omega)]
  simp [show min k B.length = k by omega, hk]
theorem mix_set {B F : List AV} (h : B.length = F.length) {k : Nat} (hk : k < F.length) : (mix B F k).set k (B[k]'(by omega)) = mix B F (k + 1) := by
  unfold mix
  have hkb : k < B.length := by omega
  rw [List.set_append_right _ _ (by simp; omega), List.length_take, show k - min k B.length = 0 by omega, List.drop_eq_getElem_cons hk, List.set_cons_zero, List.take_succ_eq_append_getElem hkb, List.append_assoc]
  rfl
/-- The rows while two of them are brought together. -/
def rowsAt (n : Nat) (a : List Nat) (f t k : Nat) : List (List AV) := ((a.map (rowB n)).set f (mix (rowB n (a.getD f 0 ||| a.getD t 0)) (rowB n (a.getD f 0)) k)).set t (mix (rowB n (a.getD f 0 ||| a.getD t 0)) (rowB n (a.getD t 0)) k)
theorem rowsAt_zero {n : Nat} {a : List Nat} {f t : Nat} (hf : f < a.length) (ht : t < a.length) : rowsAt n a f t 0 = a.map (rowB n) := by
  unfold rowsAt
  rw [mix_zero, mix_zero, show a.getD f 0 = a[f] by simp [hf], show a.getD t 0 = a[t] by simp [ht]]
  apply List.ext_getElem (by simp)
  intro j h1 h2
  rw [List.getElem_set, List.getElem_set]
  split
  · rename_i h; subst h; simp
  · split
    · rename_i h; subst h; simp
    · rfl
theorem rowsAt_all {n : Nat} {a : List Nat} {e : T} : rowsAt n a e.f.toNat e.t.toNat n = (talk a e).map (rowB n) := by
  unfold rowsAt talk
  have h1 := fun m1 m2 => mix_all (B := rowB n m1) (F := rowB n m2) (by simp)
  simp only [rowB_length] at h1
  rw [h1, h1, List.map_set, List.map_set]
theorem rowsAt_length (n : Nat) (a : List Nat) (f t k : Nat) : (rowsAt n a f t k).length = a.length := by simp [rowsAt]
theorem rowsAt_t {n : Nat} {a : List Nat} {f t k : Nat} (ht : t < a.length) : (rowsAt n a f t k)[t]'(by rw [rowsAt_length]; exact ht) = mix (rowB n (a.getD f 0 ||| a.getD t 0)) (rowB n (a.getD t 0)) k := by
  unfold rowsAt; rw [List.getElem_set_self]
theorem rowsAt_f {n : Nat} {a : List Nat} {f t k : Nat} (hf : f < a.length) (hne : t ≠ f) : (rowsAt n a f t k)[f]'(by rw [rowsAt_length]; exact hf) = mix (rowB n (a.getD f 0 ||| a.getD t 0)) (rowB n (a.getD f 0)) k := by
  unfold rowsAt; rw [List.getElem_set_ne hne, List.getElem_set_self]
theorem rowsAt_succ {n : Nat} {a : List Nat} {f t : Nat} (hne : t ≠ f) (k : Nat) : ((rowsAt n a f t k).set f (mix (rowB n (a.getD f 0 ||| a.getD t 0)) (rowB n (a.getD f 0)) (k + 1))).set t (mix (rowB n (a.getD f 0 ||| a.getD t 0)) (rowB n (a.getD t 0)) (k + 1)) = rowsAt n a f t (k + 1) := by
  unfold rowsAt
  rw [List.set_comm _ _ hne, List.set_set, List.set_set]
abbrev c_spec_l24Talk_o0 : List AJ := [.o ⟨(some 6), none, false, .mv (.c (.int .i64 0)), (some [0, 1, 2, 6])⟩]
def c_spec_l24Talk_0 : ACode := .region c_spec_l24Talk_o0
abbrev c_spec_l24Talk_o1 : List AJ := [.o ⟨(some 10), none, false, .mv (.t 6), none⟩, .o ⟨(some 11), none, false, .mv (.t 1), none⟩, .o ⟨(some 12), none, false, .len (.t 11), none⟩, .o ⟨(some 13), none, false, .bin .lss (.t 10) (.t 12), (some [0, 1, 2, 6, 13])⟩]
def c_spec_l24Talk_1 : ACode := .region c_spec_l24Talk_o1
def c_spec_l24Talk_2 : ACode := .cond (.t 13) .skip (.exit 0)
def c_spec_l24Talk_3 : ACode := .seq c_spec_l24Talk_1 c_spec_l24Talk_2
abbrev c_spec_l24Talk_o2 : List AJ := [.o ⟨(some 16), none, false, .mv (.t 0), none⟩, .o ⟨(some 17), none, false, .nilchk (.t 16), none⟩, .o ⟨(some 18), none, false, .fieldA 1 (.t 17), none⟩, .o ⟨(some 19), none, false, .load 1 false (.t 18), none⟩, .o ⟨(some 20), none, false, .mv (.t 1), none⟩, .o ⟨(some 21), none, false, .mv (.t 6), none⟩, .o ⟨(some 22), none, false, .idxA 1 (.t 20) (.t 21), none⟩, .o ⟨(some 23), none, false, .load 1 false (.t 22), none⟩, .o ⟨(some 24), none, false, .idxA 3 (.t 19) (.t 23), none⟩, .o ⟨(some 25), none, false, .load 3 true (.t 24), none⟩, .v 7 3 (.agg [(.int .i64 0), (.int .i64 0), (.int .i64 0)]) [] (.t 25) (some [0, 1, 2, 6, 7])]
def c_spec_l24Talk_4 : ACode := .drawT 0 c_spec_l24Talk_o2 rfl
abbrev c_spec_l24Talk_o3 : List AJ := [.o ⟨(some 8), none, false, .mv (.c (.int .i64 0)), (some [0, 1, 2, 6, 7, 8])⟩]
def c_spec_l24Talk_5 : ACode := .region c_spec_l24Talk_o3
abbrev c_spec_l24Talk_o4 : List AJ := [.o ⟨(some 26), none, false, .mv (.t 8), none⟩, .o ⟨(some 27), none, false, .mv (.t 0), none⟩, .o ⟨(some 28), none, false, .nilchk (.t 27), none⟩, .o ⟨(some 29), none, false, .fieldA 0 (.t 28), none⟩, .o ⟨(some 30), none, false, .load 1 false (.t 29), none⟩, .o ⟨(some 31), none, false, .bin .lss (.t 26) (.t 30), (some [0, 1, 2, 6, 7, 8, 31])⟩]
def c_spec_l24Talk_6 : ACode := .region c_spec_l24Talk_o4
def c_spec_l24Talk_7 : ACode := .cond (.t 31) .skip (.exit 2)
def c_spec_l24Talk_8 : ACode := .seq c_spec_l24Talk_6 c_spec_l24Talk_7
abbrev c_spec_l24Talk_o5 : List AJ := [.o ⟨(some 34), none, false, .mv (.t 2), none⟩, .o ⟨(some 35), none, false, .fieldA 0 (.t 7), none⟩, .o ⟨(some 36), none, false, .load 1 false (.t 35), none⟩, .o ⟨(some 37), none, false, .idxA 1 (.t 34) (.t 36), none⟩, .o ⟨(some 38), none, false, .load 1 false (.t 37), none⟩, .o ⟨(some 39), none, false, .mv (.t 8), none⟩, .o ⟨(some 40), none, false, .idxA 1 (.t 38) (.t 39), none⟩, .o ⟨(some 41), none, false, .load 1 false (.t 40), none⟩, .o ⟨(some 42), none, false, .mv (.t 41), none⟩, .o ⟨(some 43), (some (42, false)), false, .mv (.t 2), none⟩, .o ⟨(some 44), (some (42, false)), false, .fieldA 1 (.t 7), none⟩, .o ⟨(some 45), (some (42, false)), false, .load 1 false (.t 44), (some [0, 1, 2, 6, 7, 8, 42, 43, 45])⟩, .o ⟨(some 46), (some (42, false)), false, .idxA 1 (.t 43) (.t 45), none⟩, .o ⟨(some 47), (some (42, false)), false, .load 1 false (.t 46), none⟩, .o ⟨(some 48), (some (42, false)), false, .mv (.t 8), none⟩, .o ⟨(some 49), (some (42, false)), false, .idxA 1 (.t 47) (.t 48), none⟩, .o ⟨(some 50), (some (42, false)), false, .load 1 false (.t 49), none⟩, .o ⟨(some 51), none, false, .pick (.t 42) (.c (.bool true)) (.t 50), none⟩, .o ⟨(some 9), none, false, .mv (.t 51), (some [0, 1, 2, 6, 7, 8, 9])⟩]
def c_spec_l24Talk_9 : ACode := .region c_spec_l24Talk_o5
abbrev c_spec_l24Talk_o6 : List AJ := [.o ⟨(some 52), none, false, .mv (.t 2), none⟩, .o ⟨(some 53), none, false, .fieldA 0 (.t 7), none⟩, .o ⟨(some 54), none, false, .load 1 false (.t 53), none⟩, .o ⟨(some 55), none, false, .idxA 1 (.t 52) (.t 54), none⟩, .o ⟨(some 56), none, false, .load 1 false (.t 55), none⟩, .o ⟨(some 57), none, false, .mv (.t 8), none⟩, .o ⟨(some 58), none, false, .mv (.t 9), none⟩, .o ⟨(some 59), none, false, .idxA 1 (.t 56) (.t 57), none⟩, .o ⟨none, none, false, .store 1 (.t 59) (.t 58), (some [0, 1, 2, 6, 7, 8, 9])⟩]
def c_spec_l24Talk_10 : ACode := .region c_spec_l24Talk_o6
abbrev c_spec_l24Talk_o7 : List AJ := [.o ⟨(some 60), none, false, .mv (.t 2), none⟩, .o ⟨(some 61), none, false, .fieldA 1 (.t 7), none⟩, .o ⟨(some 62), none, false, .load 1 false (.t 61), none⟩, .o ⟨(some 63), none, false, .idxA 1 (.t 60) (.t 62), none⟩, .o ⟨(some 64), none, false, .load 1 false (.t 63), none⟩, .o ⟨(some 65), none, false, .mv (.t 8), none⟩, .o ⟨(some 66), none, false, .mv (.t 9), none⟩, .o ⟨(some 67), none, false, .idxA 1 (.t 64) (.t 65), none⟩, .o ⟨none, none, false, .store 1 (.t 67) (.t 66), (some [0, 1, 2, 6, 7, 8])⟩]
def c_spec_l24Talk_11 : ACode := .region c_spec_l24Talk_o7
def c_spec_l24Talk_12 : ACode := .seq c_spec_l24Talk_10 c_spec_l24Talk_11
def c_spec_l24Talk_13 : ACode := .seq c_spec_l24Talk_9 c_spec_l24Talk_12
def c_spec_l24Talk_14 : ACode := .block 3 c_spec_l24Talk_13
abbrev c_spec_l24Talk_o8 : List AJ := [.o ⟨(some 32), none, false, .mv (.t 8), none⟩, .o ⟨(some 33), none, true, .bin .add (.t 32) (.c (.int .i64 1)), none⟩, .o ⟨(some 8), none, false, .mv (.t 33), (some [0, 1, 2, 6, 7, 8])⟩]
def c_spec_l24Talk_15 : ACode := .region c_spec_l24Talk_o8
def c_spec_l24Talk_16 : ACode := .seq c_spec_l24Talk_14 c_spec_l24Talk_15
def c_spec_l24Talk_17 : ACode := .seq c_spec_l24Talk_8 c_spec_l24Talk_16
def c_spec_l24Talk_18 : ACode := .loop c_spec_l24Talk_17
def c_spec_l24Talk_19 : ACode := .block 2 c_spec_l24Talk_18
def c_spec_l24Talk_20 : ACode := .seq c_spec_l24Talk_5 c_spec_l24Talk_19
def c_spec_l24Talk_21 : ACode := .seq c_spec_l24Talk_4 c_spec_l24Talk_20
def c_spec_l24Talk_22 : ACode := .block 1 c_spec_l24Talk_21
abbrev c_spec_l24Talk_o9 : List AJ := [.o ⟨(some 14), none, false, .mv (.t 6), none⟩, .o ⟨(some 15), none, true, .bin .add (.t 14) (.c (.int .i64 1)), none⟩, .o ⟨(some 6), none, false, .mv (.t 15), (some [0, 1, 2, 6])⟩]
def c_spec_l24Talk_23 : ACode := .region c_spec_l24Talk_o9
def c_spec_l24Talk_24 : ACode := .seq c_spec_l24Talk_22 c_spec_l24Talk_23
def c_spec_l24Talk_25 : ACode := .seq c_spec_l24Talk_3 c_spec_l24Talk_24
def c_spec_l24Talk_26 : ACode := .loop c_spec_l24Talk_25
def c_spec_l24Talk_27 : ACode := .block 0 c_spec_l24Talk_26
def c_spec_l24Talk_28 : ACode := .seq c_spec_l24Talk_0 c_spec_l24Talk_27
section
variable (C : Cx) (n : Nat) (sk : List AItem) (e : Env) (h : Heap) (R : AV → Heap → Prop)
@[simp, simp ↓] theorem c_spec_l24Talk_0_r : vc2 C (n + 1) [] (.code c_spec_l24Talk_0 :: sk) e h R = (vc2 C n c_spec_l24Talk_o0 sk e h R) := nr rfl
@[simp, simp ↓] theorem c_spec_l24Talk_1_r : vc2 C (n + 1) [] (.code c_spec_l24Talk_1 :: sk) e h R = (vc2 C n c_spec_l24Talk_o1 sk e h R) := nr rfl
@[simp, simp ↓] theorem c_spec_l24Talk_2_r : vc2 C (n + 1) [] (.code c_spec_l24Talk_2 :: sk) e h R = (condK (ev e (.t 13)) (vc2 C n [] (.code .skip :: sk) e h R) (vc2 C n [] (.code (.exit 0) :: sk) e h R)) := nr rfl
@[simp, simp ↓] theorem c_spec_l24Talk_3_r : vc2 C (n + 1) [] (.code c_spec_l24Talk_3 :: sk) e h R = (vc2 C n [] (.code c_spec_l24Talk_1 :: .code c_spec_l24Talk_2 :: sk) e h R) := nr rfl
@[simp, simp ↓] theorem c_spec_l24Talk_4_r : vc2 C (n + 1) [] (.code c_spec_l24Talk_4 :: sk) e h R = (200 ≤ n ∧ vc2 C n c_spec_l24Talk_o2 sk e h R) := nr rfl
@[simp, simp ↓] theorem c_spec_l24Talk_5_r : vc2 C (n + 1) [] (.code c_spec_l24Talk_5 :: sk) e h R = (vc2 C n c_spec_l24Talk_o3 sk e h R) := nr rfl
@[simp, simp ↓] theorem c_spec_l24Talk_6_r : vc2 C (n + 1) [] (.code c_spec_l24Talk_6 :: sk) e h R = (vc2 C n c_spec_l24Talk_o4 sk e h R) := nr rfl
@[simp, simp ↓] theorem c_spec_l24Talk_7_r : vc2 C (n + 1) [] (.code c_spec_l24Talk_7 :: sk) e h R = (condK (ev e (.t 31)) (vc2 C n [] (.code .skip :: sk) e h R) (vc2 C n [] (.code (.exit 2) :: sk) e h R)) := nr rfl
@[simp, simp ↓] theorem c_spec_l24Talk_8_r : vc2 C (n + 1) [] (.code c_spec_l24Talk_8 :: sk) e h R = (vc2 C n [] (.code c_spec_l24Talk_6 :: .code c_spec_l24Talk_7 :: sk) e h R) := nr rfl
@[simp, simp ↓] theorem c_spec_l24Talk_9_r : vc2 C (n + 1) [] (.code c_spec_l24Talk_9 :: sk) e h R = (vc2 C n c_spec_l24Talk_o5 sk e h R) := nr rfl
@[simp, simp ↓] theorem c_spec_l24Talk_10_r : vc2 C (n + 1) [] (.code c_spec_l24Talk_10 :: sk) e h R = (vc2 C n c_spec_l24Talk_o6 sk e h R) := nr rfl
@[simp, simp ↓] theorem c_spec_l24Talk_11_r : vc2 C (n + 1) [] (.code c_spec_l24Talk_11 :: sk) e h R = (vc2 C n c_spec_l24Talk_o7 sk e h R) := nr rfl
@[simp, simp ↓] theorem c_spec_l24Talk_12_r : vc2 C (n + 1) [] (.code c_spec_l24Talk_12 :: sk) e h R = (vc2 C n [] (.code c_spec_l24Talk_10 :: .code c_spec_l24Talk_11 :: sk) e h R) := nr rfl
@[simp, simp ↓] theorem c_spec_l24Talk_13_r : vc2 C (n + 1) [] (.code c_spec_l24Talk_13 :: sk) e h R = (vc2 C n [] (.code c_spec_l24Talk_9 :: .code c_spec_l24Talk_12 :: sk) e h R) := nr rfl
@[simp, simp ↓] theorem c_spec_l24Talk_14_r : vc2 C (n + 1) [] (.code c_spec_l24Talk_14 :: sk) e h R = (vc2 C n [] (.code c_spec_l24Talk_13 :: .inBlock 3 :: sk) e h R) := nr rfl
@[simp, simp ↓] theorem c_spec_l24Talk_15_r : vc2 C (n + 1) [] (.code c_spec_l24Talk_15 :: sk) e h R = (vc2 C n c_spec_l24Talk_o8 sk e h R) := nr rfl
@[simp, simp ↓] theorem c_spec_l24Talk_16_r : vc2 C (n + 1) [] (.code c_spec_l24Talk_16 :: sk) e h R = (vc2 C n [] (.code c_spec_l24Talk_14 :: .code c_spec_l24Talk_15 :: sk) e h R) := nr rfl
@[simp, simp ↓] theorem c_spec_l24Talk_17_r : vc2 C (n + 1) [] (.code c_spec_l24Talk_17 :: sk) e h R = (vc2 C n [] (.code c_spec_l24Talk_8 :: .code c_spec_l24Talk_16 :: sk) e h R) := nr rfl
@[simp, simp ↓] theorem c_spec_l24Talk_18_r : vc2 C (n + 1) [] (.code c_spec_l24Talk_18 :: sk) e h R = (Run2 C (.code c_spec_l24Talk_17 :: .inLoop c_spec_l24Talk_17 :: sk) e h R) := nr rfl
@[simp, simp ↓] theorem c_spec_l24Talk_19_r : vc2 C (n + 1) [] (.code c_spec_l24Talk_19 :: sk) e h R = (vc2 C n [] (.code c_spec_l24Talk_18 :: .inBlock 2 :: sk) e h R) := nr rfl
@[simp, simp ↓] theorem c_spec_l24Talk_20_r : vc2 C (n + 1) [] (.code c_spec_l24Talk_20 :: sk) e h R = (vc2 C n [] (.code c_spec_l24Talk_5 :: .code c_spec_l24Talk_19 :: sk) e h R) := nr rfl
@[simp, simp ↓] theorem c_spec_l24Talk_21_r : vc2 C (n + 1) [] (.code c_spec_l24Talk_21 :: sk) e h R = (vc2 C n [] (.code c_spec_l24Talk_4 :: .code c_spec_l24Talk_20 :: sk) e h R) := nr rfl
@[simp, simp ↓] theorem c_spec_l24Talk_22_r : vc2 C (n + 1) [] (.code c_spec_l24Talk_22 :: sk) e h R = (vc2 C n [] (.code c_spec_l24Talk_21 :: .inBlock 1 :: sk) e h R) := nr rfl
@[simp, simp ↓] theorem c_spec_l24Talk_23_r : vc2 C (n + 1) [] (.code c_spec_l24Talk_23 :: sk) e h R = (vc2 C n c_spec_l24Talk_o9 sk e h R) := nr rfl
@[simp, simp ↓] theorem c_spec_l24Talk_24_r : vc2 C (n + 1) [] (.code c_spec_l24Talk_24 :: sk) e h R = (vc2 C n [] (.code c_spec_l24Talk_22 :: .code c_spec_l24Talk_23 :: sk) e h R) := nr rfl
@[simp, simp ↓] theorem c_spec_l24Talk_25_r : vc2 C (n + 1) [] (.code c_spec_l24Talk_25 :: sk) e h R = (vc2 C n [] (.code c_spec_l24Talk_3 :: .code c_spec_l24Talk_24 :: sk) e h R) := nr rfl
@[simp, simp ↓] theorem c_spec_l24Talk_26_r : vc2 C (n + 1) [] (.code c_spec_l24Talk_26 :: sk) e h R = (Run2 C (.code c_spec_l24Talk_25 :: .inLoop c_spec_l24Talk_25 :: sk) e h R) := nr rfl
@[simp, simp ↓] theorem c_spec_l24Talk_27_r : vc2 C (n + 1) [] (.code c_spec_l24Talk_27 :: sk) e h R = (vc2 C n [] (.code c_spec_l24Talk_26 :: .inBlock 0 :: sk) e h R) := nr rfl
@[simp, simp ↓] theorem c_spec_l24Talk_28_r : vc2 C (n + 1) [] (.code c_spec_l24Talk_28 :: sk) e h R = (vc2 C n [] (.code c_spec_l24Talk_0 :: .code c_spec_l24Talk_27 :: sk) e h R) := nr rfl
end
noncomputable def c_spec_l24Talk_C (orc : Orc) : Cx := ⟨Try.prog, [7], 89, 68, [], orc⟩
@[simp] theorem c_spec_l24Talk_C_P (orc : Orc) : (c_spec_l24Talk_C orc).P = Try.prog := nr rfl
@[simp] theorem c_spec_l24Talk_C_o (orc : Orc) : (c_spec_l24Talk_C orc).orc = orc := nr rfl
@[simp] theorem c_spec_l24Talk_C_r (orc : Orc) : (c_spec_l24Talk_C orc).res = [] := nr rfl
theorem c_spec_l24Talk_of {args : List AV} {h : Heap} {R : AV → Heap → Prop} {k : Nat} (ha : args.length = k) {orc : Orc} (hp : Pure Try.prog orc) (hk : Is (c_spec_l24Talk_C orc) Try.f89 → Run2 (c_spec_l24Talk_C orc) [.code c_spec_l24Talk_28] (argEnv 0 args) h (Post R)) (hle : k ≤ 68 := by simp) : ACalls Try.prog 89 args h R :=
  contract2 [7] c_spec_l24Talk_28 [] Try.func89 (by decide +kernel) rfl (by kernel_rfl) (by rw [ha]; exact hle) (by kernel_rfl) hp hk
theorem c_spec_l24Talk_of0 {args : List AV} {h : Heap} {R : AV → Heap → Prop} {k : Nat} (ha : args.length = k) {orc : Orc} (hp : Pure Try.prog orc) (hk : Is (c_spec_l24Talk_C orc) Try.f89 → Run2 (c_spec_l24Talk_C orc) [.code c_spec_l24Talk_28] (argEnv 0 args) h R) (hle : k ≤ 68 := by simp) : ACalls Try.prog 89 args h R :=
  contract20 [7] c_spec_l24Talk_28 [] Try.func89 (by decide +kernel) rfl (by kernel_rfl) (by rw [ha]; exact hle) (by kernel_rfl) hp hk
theorem l24Talk_c (x : Gr) (r : List Int) (a : List Nat) (n : Nat) (idw : Nat) (ids : List Nat) (h : Heap) (hl : r.length ≤ 1048576) (hv : x.valid) (hn : x.n.toNat = n) (hr : ∀ k ∈ r, x.inR k) (ha : a.length = n) (hi : ids.length = n) (nd : ids.Nodup) (hw : idw ∉ ids) :
    ACalls Try.prog 89 [.ip [.int .i64 x.n, .snap 3 (x.ts.map T.av)], .snap 1 (r.map iv), .sl idw 1 0 n none] (KH idw n ids (a.map (rowB n)) h) (fun v h' => v = .tup [] ∧ h' = KH idw n ids ((runR x talk a r).map (rowB n)) h) := by
  have hn1 := hv.1
  have hn2 := hv.2.1
  refine c_spec_l24Talk_of0 rfl noPure fun I => ?_
  refine Run2.of I 1000 ?_
  simp -implicitDefEqProofs
  refine Run2.loopE (fun (j : Nat) => [(0, .ip [.int .i64 x.n, .snap 3 (x.ts.map T.av)]), (1, .snap 1 (r.map iv)), (2, .sl idw 1 0 n none), (6, .int .i64 j)]) (fun j => KH idw n ids ((runR x talk a (r.take j)).map (rowB n)) h) (fun j => r.length - j) (fun j => j ≤ r.length) 0 (by simp) (by simp [runR]) (Nat.zero_le _) fun j hj ihj => ?_
  by_cases hlt : j < r.length
  · have goj := ihj (j + 1) (by omega) (by omega)
    rw [runR_succ x talk a r hlt] at goj
    have hIj := runR_inv x talk (Inv := fun l => l.length = n) (fun a e _ ha => by rw [talk_length]; exact ha) (r := r.take j) (fun k hk => hr k (List.mem_of_mem_take hk)) (a := a) ha
    have hk := hr _ (List.getElem_mem hlt)
    obtain ⟨e1, e2⟩ := Gr.e_at hk
    have e0 := hk.1
    have hel := hv.el (List.getElem_mem e1)
    unfold Gr.el at hel
    rw [e2, ← rowsAt_all] at goj
    generalize hB : runR x talk a (r.take j) = b at *
    obtain ⟨f, hf⟩ : ∃ f, x.ts[r[j].toNat].f.toNat = f := ⟨_, rfl⟩
    obtain ⟨t, ht⟩ : ∃ t, x.ts[r[j].toNat].t.toNat = t := ⟨_, rfl⟩
    have hfb : f < b.length := by omega
    have htb : t < b.length := by omega
    clear ihj
    refine Run2.of I 1000 ?_
    simp -implicitDefEqProofs [hlt, e0, e1]
    generalize x.ts[r[j].toNat] = e at *
    subst hf ht
    have hfn : e.f.toNat < n := by omega
    have htn : e.t.toNat < n := by omega
    have hft : e.t.toNat ≠ e.f.toNat := by omega
    have hf0 := hel.1
    have ht0 : 0 ≤ e.t := by omega
    have hf3 : e.f < n := by omega
    have ht3 : e.t < n := by omega
    have hxn : x.n = n := by omega
    refine Run2.loopE (fun (k : Nat) => [(0, .ip [.int .i64 x.n, .snap 3 (x.ts.map T.av)]), (1, .snap 1 (r.map iv)), (2, .sl idw 1 0 n none), (6, .int .i64 j), (7, .ip [.int .i64 e.f, .int .i64 e.t, .int .i64 e.s]), (8, .int .i64 k)]) (fun k => KH idw n ids (rowsAt n b e.f.toNat e.t.toNat k) h) (fun k => n - k) (fun k => k ≤ n) 0 (by simp) (by rw [rowsAt_zero hfb htb]; rfl) (Nat.zero_le _) fun k hk2 ihk => ?_
    by_cases hltk : k < n
    · have gok := ihk (k + 1) (by omega) (by omega)
      have hltk' : (k : Int) < x.n := by omega
      rw [← rowsAt_succ hft] at gok
      have hGl := rowsAt_length n b e.f.toNat e.t.toNat k
      have hGf := rowsAt_f (n := n) (k := k) hfb hft
      have hGt := rowsAt_t (n := n) (f := e.f.toNat) (k := k) htb
      have hBB : (rowB n (b.getD e.f.toNat 0 ||| b.getD e.t.toNat 0))[k]'(by simpa using hltk) = .bool ((b.getD e.f.toNat 0).testBit k || (b.getD e.t.toNat 0).testBit k) := by rw [rowB_get hltk, Nat.testBit_or]
      have hm := fun m1 m2 => mix_at (B := rowB n m1) (F := rowB n m2) (by simp) (k := k) (by simpa using hltk)
      have hm1 := hm (b.getD e.f.toNat 0 ||| b.getD e.t.toNat 0) (b.getD e.f.toNat 0)
      have hm2 := hm (b.getD e.f.toNat 0 ||| b.getD e.t.toNat 0) (b.getD e.t.toNat 0)
      rw [rowB_get hltk] at hm1 hm2
      have hs := fun m1 m2 => mix_set (B := rowB n m1) (F := rowB n m2) (by simp) (k := k) (by simpa using hltk)
      have hs1 := hs (b.getD e.f.toNat 0 ||| b.getD e.t.toNat 0) (b.getD e.f.toNat 0)
      have hs2 := hs (b.getD e.f.toNat 0 ||| b.getD e.t.toNat 0) (b.getD e.t.toNat 0)
      rw [hBB] at hs1 hs2
      have hln := fun m1 m2 => mix_length (B := rowB n m1) (F := rowB n m2) (by simp) k
      have hl1 := hln (b.getD e.f.toNat 0 ||| b.getD e.t.toNat 0) (b.getD e.f.toNat 0)
      have hl2 := hln (b.getD e.f.toNat 0 ||| b.getD e.t.toNat 0) (b.getD e.t.toNat 0)
      rw [rowB_length] at hl1 hl2
      clear hm hs hln ihk hBB
      generalize (b.getD e.f.toNat 0).testBit k = bf at *
      generalize (b.getD e.t.toNat 0).testBit k = bt at *
      generalize mix (rowB n (b.getD e.f.toNat 0 ||| b.getD e.t.toNat 0)) (rowB n (b.getD e.f.toNat 0)) k = MF at *
      generalize mix (rowB n (b.getD e.f.toNat 0 ||| b.getD e.t.toNat 0)) (rowB n (b.getD e.t.toNat 0)) k = MT at *
      generalize mix (rowB n (b.getD e.f.toNat 0 ||| b.getD e.t.toNat 0)) (rowB n (b.getD e.f.toNat 0)) (k + 1) = MF' at *
      generalize mix (rowB n (b.getD e.f.toNat 0 ||| b.getD e.t.toNat 0)) (rowB n (b.getD e.t.toNat 0)) (k + 1) = MT' at *
      have hfi : e.f.toNat < ids.length := by omega
      have hti : e.t.toNat < ids.length := by omega
      have g1 := rowsH_get (R := rowsAt n b e.f.toNat e.t.toNat k) (by omega) nd hfi (by omega) h
      have g2 := rowsH_get (R := rowsAt n b e.f.toNat e.t.toNat k) (by omega) nd hti (by omega) h
      have g3 := rowsH_set MF' (R := rowsAt n b e.f.toNat e.t.toNat k) (by omega) nd hfi h
      have g4 := rowsH_get (R := (rowsAt n b e.f.toNat e.t.toNat k).set e.f.toNat MF') (by simp; omega) nd hti (by simp; omega) h
      have g5 := rowsH_set MT' (R := (rowsAt n b e.f.toNat e.t.toNat k).set e.f.toNat MF') (by simp; omega) nd hti h
      rw [hGf] at g1
      rw [hGt] at g2
      rw [List.getElem_set_ne hft.symm, hGt] at g4
      clear hGf hGt
      generalize rowsAt n b e.f.toNat e.t.toNat k = G at *
      have hpq : ids[e.f.toNat] ≠ ids[e.t.toNat] := fun e' => hft ((List.getElem_inj nd).1 e').symm
      have hwp : ¬ idw = ids[e.f.toNat] := fun e' => hw (e' ▸ List.getElem_mem hfi)
      have hwq : ¬ idw = ids[e.t.toNat] := fun e' => hw (e' ▸ List.getElem_mem hti)
      have hip : ids[e.f.toNat]? = some ids[e.f.toNat] := by simp [hfi]
      have hiq : ids[e.t.toNat]? = some ids[e.t.toNat] := by simp [hti]
      generalize hp0 : ids[e.f.toNat] = p at *
      generalize hq0 : ids[e.t.toNat] = q at *
      have hil : (ids.map (slK n)).length = n := by simp [hi]
      have hm1' : ∀ hh : k < MF.length, MF[k] = .bool bf := fun hh => by simpa [hh] using hm1
      have hm2' : ∀ hh : k < MT.length, MT[k] = .bool bt := fun hh => by simpa [hh] using hm2
      cases bf
      all_goals
        simp only [Bool.false_or, Bool.true_or] at hs1 hs2
        refine Run2.of I 1000 ?_
        simp -implicitDefEqProofs [hltk, hltk', hf0, ht0, hf3, ht3, hip, hiq, hp0, hq0, hwp, hwq, g1, g2, g3, g4, g5, hm1, hm2, hs1, hs2, hm1', hm2', hl1, hl2, hi, hfn, htn]
        exact ⟨by omega, by simpa using gok⟩
    · obtain rfl : n = k := by omega
      have hltk' : ¬ (n : Int) < x.n := by omega
      refine Run2.of I 1000 ?_
      simp -implicitDefEqProofs [hltk']
      exact ⟨by omega, by simpa using goj⟩
  · obtain rfl : j = r.length := by omega
    rw [List.take_length]
    refine Run2.of I 1000 ?_
    simp -implicitDefEqProofs
end Go.AG
