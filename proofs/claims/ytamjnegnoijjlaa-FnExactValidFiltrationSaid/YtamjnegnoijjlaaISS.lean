/- What the set's own helpers of slices of slices of whole numbers do: they copy, compare, count, mark. No statement is made here. -/
import Derived.Test.YtamjnegnoijjlaaIntS
import Derived.Test.YtamjnegnoijjlaaAGLists
namespace Go.AG
open Go.Proofs Go.Proofs.Ytamjnegnoijjlaa
set_option linter.unusedSimpArgs false
set_option linter.unusedVariables false
set_option maxRecDepth 4000
abbrev LS := List (List Int)
def wfSS (rs : List (List Int)) : Prop := (∀ r ∈ rs, wfI r) ∧ rs.length ≤ 9223372036854775807
theorem Lists_list : ∀ {xs : List AV}, (∀ x ∈ xs, isAgg x = (Ty.slice (.int .i64)).isS ∧ shC (.slice (.int .i64)) (cellsOf x)) → ∃ rs : List (List Int), xs = rs.map il ∧ ∀ r ∈ rs, wfI r
  | [], _ => ⟨[], rfl, by simp⟩
  | x :: xs, h => by
    obtain ⟨r, rfl, hr⟩ := Ints_of_shape (h x (List.mem_cons_self ..))
    obtain ⟨rs, rfl, hrs⟩ := Lists_list (xs := xs) fun y hy => h y (List.mem_cons_of_mem _ hy)
    exact ⟨r :: rs, rfl, by simpa using ⟨hr, hrs⟩⟩
def tySS : Ty := .slice (.slice (.int .i64))
theorem Lists_of_shape {x : AV} (h : shV tySS x) : ∃ rs : List (List Int), x = .snap 1 (rs.map il) ∧ wfSS rs := by
  obtain ⟨h1, xs, e1, hlen, r3⟩ := h
  have hm : maxLen ≤ 9223372036854775807 := by decide
  obtain ⟨rs, rfl, hl⟩ := Lists_list r3
  cases x <;> simp [isAgg, tySS, Ty.isS, cellsOf] at h1 e1
  rw [e1.1, e1.2]
  exact ⟨rs, rfl, hl, by simp only [List.length_map] at hlen; exact Nat.le_trans hlen hm⟩
/-- As many as the laws allow. -/
def fitSS (rs : List (List Int)) : Prop := rs.length ≤ 1048576 ∧ ∀ r ∈ rs, r.length ≤ 1048576
noncomputable def orcI1 : List (Nat × (List AV → Option (Prop × AV))) := (37, o_toInt64S) :: (20, o_eqInt64S) :: []
theorem orcI1_p : Pure Try.prog (lk orcI1) := (lk_pure o_toInt64S_k (lk_pure o_eqInt64S_k lk_pure0))
@[simp] theorem orcI1_l (g : FuncId) (l : List AV) : lk orcI1 g l = if g = 37 then o_toInt64S l else if g = 20 then o_eqInt64S l else none := nr rfl
abbrev c_laws_toInt64SS_o0 : List AJ := [.o ⟨(some 2), none, false, .mv (.c .nilsl), (some [0])⟩]
def c_laws_toInt64SS_0 : ACode := .region c_laws_toInt64SS_o0
abbrev c_laws_toInt64SS_o1 : List AJ := [.o ⟨(some 5), none, false, .mv (.t 0), none⟩, .o ⟨(some 6), none, false, .len (.t 5), none⟩, .o ⟨(some 7), none, false, .mksl 1 24 .nilsl (.t 6) (.t 6), none⟩, .o ⟨(some 3), none, false, .mv (.t 7), (some [0, 3])⟩]
def c_laws_toInt64SS_1 : ACode := .region c_laws_toInt64SS_o1
abbrev c_laws_toInt64SS_o2 : List AJ := [.o ⟨(some 4), none, false, .mv (.c (.int .i64 0)), (some [0, 3, 4])⟩]
def c_laws_toInt64SS_2 : ACode := .region c_laws_toInt64SS_o2
abbrev c_laws_toInt64SS_o3 : List AJ := [.o ⟨(some 8), none, false, .mv (.t 4), none⟩, .o ⟨(some 9), none, false, .mv (.t 0), none⟩, .o ⟨(some 10), none, false, .len (.t 9), none⟩, .o ⟨(some 11), none, false, .bin .lss (.t 8) (.t 10), (some [0, 3, 4, 11])⟩]
def c_laws_toInt64SS_3 : ACode := .region c_laws_toInt64SS_o3
def c_laws_toInt64SS_4 : ACode := .cond (.t 11) .skip (.exit 0)
def c_laws_toInt64SS_5 : ACode := .seq c_laws_toInt64SS_3 c_laws_toInt64SS_4
abbrev c_laws_toInt64SS_o4 : List AJ := [.o ⟨(some 14), none, false, .mv (.t 3), none⟩, .o ⟨(some 15), none, false, .mv (.t 4), none⟩, .o ⟨(some 16), none, false, .mv (.t 0), none⟩, .o ⟨(some 17), none, false, .mv (.t 4), none⟩, .o ⟨(some 18), none, false, .idxA 1 (.t 16) (.t 17), none⟩, .o ⟨(some 19), none, false, .load 1 false (.t 18), none⟩, .o ⟨(some 20), none, false, .call 37 [(.t 19)], none⟩, .o ⟨(some 21), none, false, .idxA 1 (.t 14) (.t 15), none⟩, .o ⟨none, none, false, .store 1 (.t 21) (.t 20), (some [0, 3, 4])⟩]
def c_laws_toInt64SS_6 : ACode := .region c_laws_toInt64SS_o4
def c_laws_toInt64SS_7 : ACode := .block 1 c_laws_toInt64SS_6
abbrev c_laws_toInt64SS_o5 : List AJ := [.o ⟨(some 12), none, false, .mv (.t 4), none⟩, .o ⟨(some 13), none, true, .bin .add (.t 12) (.c (.int .i64 1)), none⟩, .o ⟨(some 4), none, false, .mv (.t 13), (some [0, 3, 4])⟩]
def c_laws_toInt64SS_8 : ACode := .region c_laws_toInt64SS_o5
def c_laws_toInt64SS_9 : ACode := .seq c_laws_toInt64SS_7 c_laws_toInt64SS_8
def c_laws_toInt64SS_10 : ACode := .seq c_laws_toInt64SS_5 c_laws_toInt64SS_9
def c_laws_toInt64SS_11 : ACode := .loop c_laws_toInt64SS_10
def c_laws_toInt64SS_12 : ACode := .block 0 c_laws_toInt64SS_11
def c_laws_toInt64SS_13 : ACode := .seq c_laws_toInt64SS_2 c_laws_toInt64SS_12
abbrev c_laws_toInt64SS_o6 : List AJ := [.o ⟨(some 22), none, false, .mv (.t 3), none⟩, .o ⟨(some 2), none, false, .mv (.t 22), (some [2])⟩]
def c_laws_toInt64SS_14 : ACode := .region c_laws_toInt64SS_o6
def c_laws_toInt64SS_15 : ACode := .seq c_laws_toInt64SS_14 .ret
def c_laws_toInt64SS_16 : ACode := .seq c_laws_toInt64SS_13 c_laws_toInt64SS_15
def c_laws_toInt64SS_17 : ACode := .seq c_laws_toInt64SS_1 c_laws_toInt64SS_16
def c_laws_toInt64SS_18 : ACode := .seq c_laws_toInt64SS_0 c_laws_toInt64SS_17
section
variable (C : Cx) (n : Nat) (sk : List AItem) (e : Env) (h : Heap) (R : AV → Heap → Prop)
@[simp, simp ↓] theorem c_laws_toInt64SS_0_r : vc2 C (n + 1) [] (.code c_laws_toInt64SS_0 :: sk) e h R = (vc2 C n c_laws_toInt64SS_o0 sk e h R) := nr rfl
@[simp, simp ↓] theorem c_laws_toInt64SS_1_r : vc2 C (n + 1) [] (.code c_laws_toInt64SS_1 :: sk) e h R = (vc2 C n c_laws_toInt64SS_o1 sk e h R) := nr rfl
@[simp, simp ↓] theorem c_laws_toInt64SS_2_r : vc2 C (n + 1) [] (.code c_laws_toInt64SS_2 :: sk) e h R = (vc2 C n c_laws_toInt64SS_o2 sk e h R) := nr rfl
@[simp, simp ↓] theorem c_laws_toInt64SS_3_r : vc2 C (n + 1) [] (.code c_laws_toInt64SS_3 :: sk) e h R = (vc2 C n c_laws_toInt64SS_o3 sk e h R) := nr rfl
@[simp, simp ↓] theorem c_laws_toInt64SS_4_r : vc2 C (n + 1) [] (.code c_laws_toInt64SS_4 :: sk) e h R = (condK (ev e (.t 11)) (vc2 C n [] (.code .skip :: sk) e h R) (vc2 C n [] (.code (.exit 0) :: sk) e h R)) := nr rfl
@[simp, simp ↓] theorem c_laws_toInt64SS_5_r : vc2 C (n + 1) [] (.code c_laws_toInt64SS_5 :: sk) e h R = (vc2 C n [] (.code c_laws_toInt64SS_3 :: .code c_laws_toInt64SS_4 :: sk) e h R) := nr rfl
@[simp, simp ↓] theorem c_laws_toInt64SS_6_r : vc2 C (n + 1) [] (.code c_laws_toInt64SS_6 :: sk) e h R = (vc2 C n c_laws_toInt64SS_o4 sk e h R) := nr rfl
@[simp, simp ↓] theorem c_laws_toInt64SS_7_r : vc2 C (n + 1) [] (.code c_laws_toInt64SS_7 :: sk) e h R = (vc2 C n [] (.code c_laws_toInt64SS_6 :: .inBlock 1 :: sk) e h R) := nr rfl
@[simp, simp ↓] theorem c_laws_toInt64SS_8_r : vc2 C (n + 1) [] (.code c_laws_toInt64SS_8 :: sk) e h R = (vc2 C n c_laws_toInt64SS_o5 sk e h R) := nr rfl
@[simp, simp ↓] theorem c_laws_toInt64SS_9_r : vc2 C (n + 1) [] (.code c_laws_toInt64SS_9 :: sk) e h R = (vc2 C n [] (.code c_laws_toInt64SS_7 :: .code c_laws_toInt64SS_8 :: sk) e h R) := nr rfl
@[simp, simp ↓] theorem c_laws_toInt64SS_10_r : vc2 C (n + 1) [] (.code c_laws_toInt64SS_10 :: sk) e h R = (vc2 C n [] (.code c_laws_toInt64SS_5 :: .code c_laws_toInt64SS_9 :: sk) e h R) := nr rfl
@[simp, simp ↓] theorem c_laws_toInt64SS_11_r : vc2 C (n + 1) [] (.code c_laws_toInt64SS_11 :: sk) e h R = (Run2 C (.code c_laws_toInt64SS_10 :: .inLoop c_laws_toInt64SS_10 :: sk) e h R) := nr rfl
@[simp, simp ↓] theorem c_laws_toInt64SS_12_r : vc2 C (n + 1) [] (.code c_laws_toInt64SS_12 :: sk) e h R = (vc2 C n [] (.code c_laws_toInt64SS_11 :: .inBlock 0 :: sk) e h R) := nr rfl
@[simp, simp ↓] theorem c_laws_toInt64SS_13_r : vc2 C (n + 1) [] (.code c_laws_toInt64SS_13 :: sk) e h R = (vc2 C n [] (.code c_laws_toInt64SS_2 :: .code c_laws_toInt64SS_12 :: sk) e h R) := nr rfl
@[simp, simp ↓] theorem c_laws_toInt64SS_14_r : vc2 C (n + 1) [] (.code c_laws_toInt64SS_14 :: sk) e h R = (vc2 C n c_laws_toInt64SS_o6 sk e h R) := nr rfl
@[simp, simp ↓] theorem c_laws_toInt64SS_15_r : vc2 C (n + 1) [] (.code c_laws_toInt64SS_15 :: sk) e h R = (vc2 C n [] (.code c_laws_toInt64SS_14 :: .code .ret :: sk) e h R) := nr rfl
@[simp, simp ↓] theorem c_laws_toInt64SS_16_r : vc2 C (n + 1) [] (.code c_laws_toInt64SS_16 :: sk) e h R = (vc2 C n [] (.code c_laws_toInt64SS_13 :: .code c_laws_toInt64SS_15 :: sk) e h R) := nr rfl
@[simp, simp ↓] theorem c_laws_toInt64SS_17_r : vc2 C (n + 1) [] (.code c_laws_toInt64SS_17 :: sk) e h R = (vc2 C n [] (.code c_laws_toInt64SS_1 :: .code c_laws_toInt64SS_16 :: sk) e h R) := nr rfl
@[simp, simp ↓] theorem c_laws_toInt64SS_18_r : vc2 C (n + 1) [] (.code c_laws_toInt64SS_18 :: sk) e h R = (vc2 C n [] (.code c_laws_toInt64SS_0 :: .code c_laws_toInt64SS_17 :: sk) e h R) := nr rfl
end
noncomputable def c_laws_toInt64SS_C (orc : Orc) : Cx := ⟨Try.prog, [], 50, 23, [.tmp 2], orc⟩
@[simp] theorem c_laws_toInt64SS_C_P (orc : Orc) : (c_laws_toInt64SS_C orc).P = Try.prog := nr rfl
@[simp] theorem c_laws_toInt64SS_C_o (orc : Orc) : (c_laws_toInt64SS_C orc).orc = orc := nr rfl
@[simp] theorem c_laws_toInt64SS_C_r (orc : Orc) : (c_laws_toInt64SS_C orc).res = [.tmp 2] := nr rfl
theorem c_laws_toInt64SS_of {args : List AV} {h : Heap} {R : AV → Heap → Prop} {k : Nat} (ha : args.length = k) {orc : Orc} (hp : Pure Try.prog orc) (hk : Is (c_laws_toInt64SS_C orc) Try.f50 → Run2 (c_laws_toInt64SS_C orc) [.code c_laws_toInt64SS_18] (argEnv 0 args) h (Post R)) (hle : k ≤ 23 := by simp) : ACalls Try.prog 50 args h R :=
  contract2 [] c_laws_toInt64SS_18 [.tmp 2] Try.func50 (by decide +kernel) rfl (by kernel_rfl) (by rw [ha]; exact hle) (by kernel_rfl) hp hk
theorem c_laws_toInt64SS_of0 {args : List AV} {h : Heap} {R : AV → Heap → Prop} {k : Nat} (ha : args.length = k) {orc : Orc} (hp : Pure Try.prog orc) (hk : Is (c_laws_toInt64SS_C orc) Try.f50 → Run2 (c_laws_toInt64SS_C orc) [.code c_laws_toInt64SS_18] (argEnv 0 args) h R) (hle : k ≤ 23 := by simp) : ACalls Try.prog 50 args h R :=
  contract20 [] c_laws_toInt64SS_18 [.tmp 2] Try.func50 (by decide +kernel) rfl (by kernel_rfl) (by rw [ha]; exact hle) (by kernel_rfl) hp hk
theorem toInt64SS_c (rs : List (List Int)) (h : Heap) (hl : fitSS rs) : ACalls Try.prog 50 [.snap 1 (rs.map il)] h (fun v h' => v = .snap 1 (rs.map il) ∧ h' = h) := by
  have hn := hl.1
  refine c_laws_toInt64SS_of rfl orcI1_p fun I => ?_
  refine Run2.of I 1000 ?_
  simp -implicitDefEqProofs
  refine ⟨by omega, fun id hid => ?_⟩
  refine Run2.loop (fun i => [(0, .snap 1 (rs.map il)), (3, .sl id 1 0 rs.length (some rs.length)), (4, .int .i64 (i : Nat))]) (fun i => (id, ⟨1, (rs.map il).take i ++ List.replicate (rs.length - i) .nilsl⟩) :: h) (fun i => rs.length - i) (fun i => i ≤ rs.length) 0 (Nat.zero_le _) fun i hi ih => ?_
  by_cases hlt : i < rs.length
  · have hr := hl.2 _ (List.getElem_mem hlt)
    have go := ih (i + 1) (by omega) (by omega)
    rw [← set_fill (rs.map il) .nilsl (i := i) (n := rs.length) (by simp) (by simpa using hlt) (x := il rs[i]) (by simp)] at go
    clear ih
    refine Run2.of I 1000 ?_
    simp -implicitDefEqProofs [hlt, hr]
    refine ⟨by omega, by omega, ?_⟩
    simpa using go
  · obtain rfl : i = rs.length := by omega
    refine Run2.of I 1000 ?_
    simp -implicitDefEqProofs
    rw [List.take_of_length_le (by simp)]
    refine .freeze id (by simp [hget]; rfl) (.base ⟨?_, by simp [hdel]⟩)
    simp [fz, List.take_of_length_le]
noncomputable def o_toInt64SS : List AV → Option (Prop × AV) := tab (fun (x : LS) => match x with | rs => [.snap 1 (rs.map il)]) (fun x => match x with | rs => fitSS rs) (fun x => match x with | rs => .snap 1 (rs.map il))
@[simp] theorem o_toInt64SS_e (rs : LS) : o_toInt64SS [.snap 1 (rs.map il)] = some (fitSS rs, .snap 1 (rs.map il)) := tab_at (enc := fun (x : LS) => match x with | rs => [.snap 1 (rs.map il)]) (fun x y h => by
  simp at h; simp [h]) _ _ rs
theorem o_toInt64SS_k : Knows Try.prog 50 o_toInt64SS := tab_knows fun x hx h => by
  exact toInt64SS_c x h hx
abbrev c_laws_szInt64S_o0 : List AJ := [.o ⟨(some 4), none, false, .mv (.c (.int .i64 0)), (some [0, 1])⟩]
def c_laws_szInt64S_0 : ACode := .region c_laws_szInt64S_o0
abbrev c_laws_szInt64S_o1 : List AJ := [.o ⟨(some 5), none, false, .mv (.t 1), none⟩, .o ⟨(some 6), none, false, .mv (.t 0), none⟩, .o ⟨(some 7), none, false, .len (.t 6), none⟩, .o ⟨(some 8), none, true, .bin .sub (.t 5) (.t 7), none⟩, .o ⟨(some 1), none, false, .mv (.t 8), (some [1])⟩]
def c_laws_szInt64S_1 : ACode := .region c_laws_szInt64S_o1
abbrev c_laws_szInt64S_o2 : List AJ := [.o ⟨(some 9), none, false, .mv (.t 1), none⟩, .o ⟨(some 10), none, false, .bin .lss (.t 9) (.c (.int .i64 0)), (some [1, 10])⟩]
def c_laws_szInt64S_2 : ACode := .region c_laws_szInt64S_o2
abbrev c_laws_szInt64S_o3 : List AJ := [.o ⟨(some 4), none, false, .mv (.c (.int .i64 (-1))), (some [4])⟩]
def c_laws_szInt64S_3 : ACode := .region c_laws_szInt64S_o3
def c_laws_szInt64S_4 : ACode := .seq c_laws_szInt64S_3 .ret
def c_laws_szInt64S_5 : ACode := .cond (.t 10) c_laws_szInt64S_4 .skip
def c_laws_szInt64S_6 : ACode := .seq c_laws_szInt64S_2 c_laws_szInt64S_5
abbrev c_laws_szInt64S_o4 : List AJ := [.o ⟨(some 11), none, false, .mv (.t 1), none⟩, .o ⟨(some 4), none, false, .mv (.t 11), (some [4])⟩]
def c_laws_szInt64S_7 : ACode := .region c_laws_szInt64S_o4
def c_laws_szInt64S_8 : ACode := .seq c_laws_szInt64S_7 .ret
def c_laws_szInt64S_9 : ACode := .seq c_laws_szInt64S_6 c_laws_szInt64S_8
def c_laws_szInt64S_10 : ACode := .seq c_laws_szInt64S_1 c_laws_szInt64S_9
def c_laws_szInt64S_11 : ACode := .seq c_laws_szInt64S_0 c_laws_szInt64S_10
section
variable (C : Cx) (n : Nat) (sk : List AItem) (e : Env) (h : Heap) (R : AV → Heap → Prop)
@[simp, simp ↓] theorem c_laws_szInt64S_0_r : vc2 C (n + 1) [] (.code c_laws_szInt64S_0 :: sk) e h R = (vc2 C n c_laws_szInt64S_o0 sk e h R) := nr rfl
@[simp, simp ↓] theorem c_laws_szInt64S_1_r : vc2 C (n + 1) [] (.code c_laws_szInt64S_1 :: sk) e h R = (vc2 C n c_laws_szInt64S_o1 sk e h R) := nr rfl
@[simp, simp ↓] theorem c_laws_szInt64S_2_r : vc2 C (n + 1) [] (.code c_laws_szInt64S_2 :: sk) e h R = (vc2 C n c_laws_szInt64S_o2 sk e h R) := nr rfl
@[simp, simp ↓] theorem c_laws_szInt64S_3_r : vc2 C (n + 1) [] (.code c_laws_szInt64S_3 :: sk) e h R = (vc2 C n c_laws_szInt64S_o3 sk e h R) := nr rfl
@[simp, simp ↓] theorem c_laws_szInt64S_4_r : vc2 C (n + 1) [] (.code c_laws_szInt64S_4 :: sk) e h R = (vc2 C n [] (.code c_laws_szInt64S_3 :: .code .ret :: sk) e h R) := nr rfl
@[simp, simp ↓] theorem c_laws_szInt64S_5_r : vc2 C (n + 1) [] (.code c_laws_szInt64S_5 :: sk) e h R = (condK (ev e (.t 10)) (vc2 C n [] (.code c_laws_szInt64S_4 :: sk) e h R) (vc2 C n [] (.code .skip :: sk) e h R)) := nr rfl
@[simp, simp ↓] theorem c_laws_szInt64S_6_r : vc2 C (n + 1) [] (.code c_laws_szInt64S_6 :: sk) e h R = (vc2 C n [] (.code c_laws_szInt64S_2 :: .code c_laws_szInt64S_5 :: sk) e h R) := nr rfl
@[simp, simp ↓] theorem c_laws_szInt64S_7_r : vc2 C (n + 1) [] (.code c_laws_szInt64S_7 :: sk) e h R = (vc2 C n c_laws_szInt64S_o4 sk e h R) := nr rfl
@[simp, simp ↓] theorem c_laws_szInt64S_8_r : vc2 C (n + 1) [] (.code c_laws_szInt64S_8 :: sk) e h R = (vc2 C n [] (.code c_laws_szInt64S_7 :: .code .ret :: sk) e h R) := nr rfl
@[simp, simp ↓] theorem c_laws_szInt64S_9_r : vc2 C (n + 1) [] (.code c_laws_szInt64S_9 :: sk) e h R = (vc2 C n [] (.code c_laws_szInt64S_6 :: .code c_laws_szInt64S_8 :: sk) e h R) := nr rfl
@[simp, simp ↓] theorem c_laws_szInt64S_10_r : vc2 C (n + 1) [] (.code c_laws_szInt64S_10 :: sk) e h R = (vc2 C n [] (.code c_laws_szInt64S_1 :: .code c_laws_szInt64S_9 :: sk) e h R) := nr rfl
@[simp, simp ↓] theorem c_laws_szInt64S_11_r : vc2 C (n + 1) [] (.code c_laws_szInt64S_11 :: sk) e h R = (vc2 C n [] (.code c_laws_szInt64S_0 :: .code c_laws_szInt64S_10 :: sk) e h R) := nr rfl
end
noncomputable def c_laws_szInt64S_C (orc : Orc) : Cx := ⟨Try.prog, [], 52, 12, [.tmp 4], orc⟩
@[simp] theorem c_laws_szInt64S_C_P (orc : Orc) : (c_laws_szInt64S_C orc).P = Try.prog := nr rfl
@[simp] theorem c_laws_szInt64S_C_o (orc : Orc) : (c_laws_szInt64S_C orc).orc = orc := nr rfl
@[simp] theorem c_laws_szInt64S_C_r (orc : Orc) : (c_laws_szInt64S_C orc).res = [.tmp 4] := nr rfl
theorem c_laws_szInt64S_of {args : List AV} {h : Heap} {R : AV → Heap → Prop} {k : Nat} (ha : args.length = k) {orc : Orc} (hp : Pure Try.prog orc) (hk : Is (c_laws_szInt64S_C orc) Try.f52 → Run2 (c_laws_szInt64S_C orc) [.code c_laws_szInt64S_11] (argEnv 0 args) h (Post R)) (hle : k ≤ 12 := by simp) : ACalls Try.prog 52 args h R :=
  contract2 [] c_laws_szInt64S_11 [.tmp 4] Try.func52 (by decide +kernel) rfl (by kernel_rfl) (by rw [ha]; exact hle) (by kernel_rfl) hp hk
theorem c_laws_szInt64S_of0 {args : List AV} {h : Heap} {R : AV → Heap → Prop} {k : Nat} (ha : args.length = k) {orc : Orc} (hp : Pure Try.prog orc) (hk : Is (c_laws_szInt64S_C orc) Try.f52 → Run2 (c_laws_szInt64S_C orc) [.code c_laws_szInt64S_11] (argEnv 0 args) h R) (hle : k ≤ 12 := by simp) : ACalls Try.prog 52 args h R :=
  contract20 [] c_laws_szInt64S_11 [.tmp 4] Try.func52 (by decide +kernel) rfl (by kernel_rfl) (by rw [ha]; exact hle) (by kernel_rfl) hp hk
theorem szInt64S_c (l : List Int) (n : Int) (h : Heap) (hn : 0 ≤ n ∧ n ≤ 1048576) (hl : l.length ≤ 9223372036854775807) : ACalls Try.prog 52 [.snap 1 (l.map iv), .int .i64 n] h (fun v h' => v = .int .i64 (if n < l.length then -1 else n - l.length) ∧ h' = h) := by
  refine c_laws_szInt64S_of0 rfl noPure fun I => ?_
  refine Run2.of I 1000 ?_
  simp -implicitDefEqProofs
  grind
def sumL (rs : List (List Int)) : Nat := (rs.map List.length).sum
def ssTot (rs : List (List Int)) : Nat := rs.length + sumL rs
theorem sumL_take (rs : List (List Int)) {i : Nat} (hi : i < rs.length) : sumL (rs.take (i + 1)) = sumL (rs.take i) + rs[i].length := by
  unfold sumL
  rw [List.take_succ_eq_append_getElem hi, List.map_append, List.sum_append]
  simp
theorem sumL_le (rs : List (List Int)) (i : Nat) : sumL (rs.take i) ≤ sumL rs := by
  conv => rhs; rw [← List.take_append_drop i rs]
  unfold sumL
  rw [List.map_append, List.sum_append]
  omega
theorem len_sumL {rs : List (List Int)} {r : List Int} (h : r ∈ rs) : r.length ≤ sumL rs := by
  obtain ⟨i, hi, rfl⟩ := List.mem_iff_getElem.1 h
  have := sumL_take rs hi
  have := sumL_le rs (i + 1)
  omega
theorem fit_of_tot {rs : List (List Int)} (h : ssTot rs ≤ 1048576) : fitSS rs := ⟨by unfold ssTot at h; omega, fun r hr => by have := len_sumL hr; unfold ssTot at h; omega⟩
abbrev c_laws_szInt64SS_o0 : List AJ := [.o ⟨(some 4), none, false, .mv (.c (.int .i64 0)), (some [0, 1])⟩]
def c_laws_szInt64SS_0 : ACode := .region c_laws_szInt64SS_o0
abbrev c_laws_szInt64SS_o1 : List AJ := [.o ⟨(some 6), none, false, .mv (.t 1), none⟩, .o ⟨(some 7), none, false, .mv (.t 0), none⟩, .o ⟨(some 8), none, false, .len (.t 7), none⟩, .o ⟨(some 9), none, true, .bin .sub (.t 6) (.t 8), none⟩, .o ⟨(some 1), none, false, .mv (.t 9), (some [0, 1])⟩]
def c_laws_szInt64SS_1 : ACode := .region c_laws_szInt64SS_o1
abbrev c_laws_szInt64SS_o2 : List AJ := [.o ⟨(some 10), none, false, .mv (.t 1), none⟩, .o ⟨(some 11), none, false, .bin .lss (.t 10) (.c (.int .i64 0)), (some [0, 1, 11])⟩]
def c_laws_szInt64SS_2 : ACode := .region c_laws_szInt64SS_o2
abbrev c_laws_szInt64SS_o3 : List AJ := [.o ⟨(some 4), none, false, .mv (.c (.int .i64 (-1))), (some [4])⟩]
def c_laws_szInt64SS_3 : ACode := .region c_laws_szInt64SS_o3
def c_laws_szInt64SS_4 : ACode := .seq c_laws_szInt64SS_3 .ret
def c_laws_szInt64SS_5 : ACode := .cond (.t 11) c_laws_szInt64SS_4 .skip
def c_laws_szInt64SS_6 : ACode := .seq c_laws_szInt64SS_2 c_laws_szInt64SS_5
abbrev c_laws_szInt64SS_o4 : List AJ := [.o ⟨(some 5), none, false, .mv (.c (.int .i64 0)), (some [0, 1, 5])⟩]
def c_laws_szInt64SS_7 : ACode := .region c_laws_szInt64SS_o4
abbrev c_laws_szInt64SS_o5 : List AJ := [.o ⟨(some 12), none, false, .mv (.t 5), none⟩, .o ⟨(some 13), none, false, .mv (.t 0), none⟩, .o ⟨(some 14), none, false, .len (.t 13), none⟩, .o ⟨(some 15), none, false, .bin .lss (.t 12) (.t 14), (some [0, 1, 5, 15])⟩]
def c_laws_szInt64SS_8 : ACode := .region c_laws_szInt64SS_o5
def c_laws_szInt64SS_9 : ACode := .cond (.t 15) .skip (.exit 0)
def c_laws_szInt64SS_10 : ACode := .seq c_laws_szInt64SS_8 c_laws_szInt64SS_9
abbrev c_laws_szInt64SS_o6 : List AJ := [.o ⟨(some 18), none, false, .mv (.t 0), none⟩, .o ⟨(some 19), none, false, .mv (.t 5), none⟩, .o ⟨(some 20), none, false, .idxA 1 (.t 18) (.t 19), none⟩, .o ⟨(some 21), none, false, .load 1 false (.t 20), none⟩, .o ⟨(some 22), none, false, .mv (.t 1), none⟩, .o ⟨(some 23), none, false, .call 52 [(.t 21), (.t 22)], none⟩, .o ⟨(some 1), none, false, .mv (.t 23), (some [0, 1, 5])⟩]
def c_laws_szInt64SS_11 : ACode := .region c_laws_szInt64SS_o6
abbrev c_laws_szInt64SS_o7 : List AJ := [.o ⟨(some 24), none, false, .mv (.t 1), none⟩, .o ⟨(some 25), none, false, .bin .lss (.t 24) (.c (.int .i64 0)), (some [0, 1, 5, 25])⟩]
def c_laws_szInt64SS_12 : ACode := .region c_laws_szInt64SS_o7
abbrev c_laws_szInt64SS_o8 : List AJ := [.o ⟨(some 4), none, false, .mv (.c (.int .i64 (-1))), (some [4])⟩]
def c_laws_szInt64SS_13 : ACode := .region c_laws_szInt64SS_o8
def c_laws_szInt64SS_14 : ACode := .seq c_laws_szInt64SS_13 .ret
def c_laws_szInt64SS_15 : ACode := .cond (.t 25) c_laws_szInt64SS_14 .skip
def c_laws_szInt64SS_16 : ACode := .seq c_laws_szInt64SS_12 c_laws_szInt64SS_15
def c_laws_szInt64SS_17 : ACode := .seq c_laws_szInt64SS_11 c_laws_szInt64SS_16
def c_laws_szInt64SS_18 : ACode := .block 1 c_laws_szInt64SS_17
abbrev c_laws_szInt64SS_o9 : List AJ := [.o ⟨(some 16), none, false, .mv (.t 5), none⟩, .o ⟨(some 17), none, true, .bin .add (.t 16) (.c (.int .i64 1)), none⟩, .o ⟨(some 5), none, false, .mv (.t 17), (some [0, 1, 5])⟩]
def c_laws_szInt64SS_19 : ACode := .region c_laws_szInt64SS_o9
def c_laws_szInt64SS_20 : ACode := .seq c_laws_szInt64SS_18 c_laws_szInt64SS_19
def c_laws_szInt64SS_21 : ACode := .seq c_laws_szInt64SS_10 c_laws_szInt64SS_20
def c_laws_szInt64SS_22 : ACode := .loop c_laws_szInt64SS_21
def c_laws_szInt64SS_23 : ACode := .block 0 c_laws_szInt64SS_22
def c_laws_szInt64SS_24 : ACode := .seq c_laws_szInt64SS_7 c_laws_szInt64SS_23
abbrev c_laws_szInt64SS_o10 : List AJ := [.o ⟨(some 26), none, false, .mv (.t 1), none⟩, .o ⟨(some 4), none, false, .mv (.t 26), (some [4])⟩]
def c_laws_szInt64SS_25 : ACode := .region c_laws_szInt64SS_o10
def c_laws_szInt64SS_26 : ACode := .seq c_laws_szInt64SS_25 .ret
def c_laws_szInt64SS_27 : ACode := .seq c_laws_szInt64SS_24 c_laws_szInt64SS_26
def c_laws_szInt64SS_28 : ACode := .seq c_laws_szInt64SS_6 c_laws_szInt64SS_27
def c_laws_szInt64SS_29 : ACode := .seq c_laws_szInt64SS_1 c_laws_szInt64SS_28
def c_laws_szInt64SS_30 : ACode := .seq c_laws_szInt64SS_0 c_laws_szInt64SS_29
section
variable (C : Cx) (n : Nat) (sk : List AItem) (e : Env) (h : Heap) (R : AV → Heap → Prop)
@[simp, simp ↓] theorem c_laws_szInt64SS_0_r : vc2 C (n + 1) [] (.code c_laws_szInt64SS_0 :: sk) e h R = (vc2 C n c_laws_szInt64SS_o0 sk e h R) := nr rfl
@[simp, simp ↓] theorem c_laws_szInt64SS_1_r : vc2 C (n + 1) [] (.code c_laws_szInt64SS_1 :: sk) e h R = (vc2 C n c_laws_szInt64SS_o1 sk e h R) := nr rfl
@[simp, simp ↓] theorem c_laws_szInt64SS_2_r : vc2 C (n + 1) [] (.code c_laws_szInt64SS_2 :: sk) e h R = (vc2 C n c_laws_szInt64SS_o2 sk e h R) := nr rfl
@[simp, simp ↓] theorem c_laws_szInt64SS_3_r : vc2 C (n + 1) [] (.code c_laws_szInt64SS_3 :: sk) e h R = (vc2 C n c_laws_szInt64SS_o3 sk e h R) := nr rfl
@[simp, simp ↓] theorem c_laws_szInt64SS_4_r : vc2 C (n + 1) [] (.code c_laws_szInt64SS_4 :: sk) e h R = (vc2 C n [] (.code c_laws_szInt64SS_3 :: .code .ret :: sk) e h R) := nr rfl
@[simp, simp ↓] theorem c_laws_szInt64SS_5_r : vc2 C (n + 1) [] (.code c_laws_szInt64SS_5 :: sk) e h R = (condK (ev e (.t 11)) (vc2 C n [] (.code c_laws_szInt64SS_4 :: sk) e h R) (vc2 C n [] (.code .skip :: sk) e h R)) := nr rfl
@[simp, simp ↓] theorem c_laws_szInt64SS_6_r : vc2 C (n + 1) [] (.code c_laws_szInt64SS_6 :: sk) e h R = (vc2 C n [] (.code c_laws_szInt64SS_2 :: .code c_laws_szInt64SS_5 :: sk) e h R) := nr rfl
@[simp, simp ↓] theorem c_laws_szInt64SS_7_r : vc2 C (n + 1) [] (.code c_laws_szInt64SS_7 :: sk) e h R = (vc2 C n c_laws_szInt64SS_o4 sk e h R) := nr rfl
@[simp, simp ↓] theorem c_laws_szInt64SS_8_r : vc2 C (n + 1) [] (.code c_laws_szInt64SS_8 :: sk) e h R = (vc2 C n c_laws_szInt64SS_o5 sk e h R) := nr rfl
@[simp, simp ↓] theorem c_laws_szInt64SS_9_r : vc2 C (n + 1) [] (.code c_laws_szInt64SS_9 :: sk) e h R = (condK (ev e (.t 15)) (vc2 C n [] (.code .skip :: sk) e h R) (vc2 C n [] (.code (.exit 0) :: sk) e h R)) := nr rfl
@[simp, simp ↓] theorem c_laws_szInt64SS_10_r : vc2 C (n + 1) [] (.code c_laws_szInt64SS_10 :: sk) e h R = (vc2 C n [] (.code c_laws_szInt64SS_8 :: .code c_laws_szInt64SS_9 :: sk) e h R) := nr rfl
@[simp, simp ↓] theorem c_laws_szInt64SS_11_r : vc2 C (n + 1) [] (.code c_laws_szInt64SS_11 :: sk) e h R = (vc2 C n c_laws_szInt64SS_o6 sk e h R) := nr rfl
@[simp, simp ↓] theorem c_laws_szInt64SS_12_r : vc2 C (n + 1) [] (.code c_laws_szInt64SS_12 :: sk) e h R = (vc2 C n c_laws_szInt64SS_o7 sk e h R) := nr rfl
@[simp, simp ↓] theorem c_laws_szInt64SS_13_r : vc2 C (n + 1) [] (.code c_laws_szInt64SS_13 :: sk) e h R = (vc2 C n c_laws_szInt64SS_o8 sk e h R) := nr rfl
@[simp, simp ↓] theorem c_laws_szInt64SS_14_r : vc2 C (n + 1) [] (.code c_laws_szInt64SS_14 :: sk) e h R = (vc2 C n [] (.code c_laws_szInt64SS_13 :: .code .ret :: sk) e h R) := nr rfl
@[simp, simp ↓] theorem c_laws_szInt64SS_15_r : vc2 C (n + 1) [] (.code c_laws_szInt64SS_15 :: sk) e h R = (condK (ev e (.t 25)) (vc2 C n [] (.code c_laws_szInt64SS_14 :: sk) e h R) (vc2 C n [] (.code .skip :: sk) e h R)) := nr rfl
@[simp, simp ↓] theorem c_laws_szInt64SS_16_r : vc2 C (n + 1) [] (.code c_laws_szInt64SS_16 :: sk) e h R = (vc2 C n [] (.code c_laws_szInt64SS_12 :: .code c_laws_szInt64SS_15 :: sk) e h R) := nr rfl
@[simp, simp ↓] theorem c_laws_szInt64SS_17_r : vc2 C (n + 1) [] (.code c_laws_szInt64SS_17 :: sk) e h R = (vc2 C n [] (.code c_laws_szInt64SS_11 :: .code c_laws_szInt64SS_16 :: sk) e h R) := nr rfl
@[simp, simp ↓] theorem c_laws_szInt64SS_18_r : vc2 C (n + 1) [] (.code c_laws_szInt64SS_18 :: sk) e h R = (vc2 C n [] (.code c_laws_szInt64SS_17 :: .inBlock 1 :: sk) e h R) := nr rfl
@[simp, simp ↓] theorem c_laws_szInt64SS_19_r : vc2 C (n + 1) [] (.code c_laws_szInt64SS_19 :: sk) e h R = (vc2 C n c_laws_szInt64SS_o9 sk e h R) := nr rfl
@[simp, simp ↓] theorem c_laws_szInt64SS_20_r : vc2 C (n + 1) [] (.code c_laws_szInt64SS_20 :: sk) e h R = (vc2 C n [] (.code c_laws_szInt64SS_18 :: .code c_laws_szInt64SS_19 :: sk) e h R) := nr rfl
@[simp, simp ↓] theorem c_laws_szInt64SS_21_r : vc2 C (n + 1) [] (.code c_laws_szInt64SS_21 :: sk) e h R = (vc2 C n [] (.code c_laws_szInt64SS_10 :: .code c_laws_szInt64SS_20 :: sk) e h R) := nr rfl
@[simp, simp ↓] theorem c_laws_szInt64SS_22_r : vc2 C (n + 1) [] (.code c_laws_szInt64SS_22 :: sk) e h R = (Run2 C (.code c_laws_szInt64SS_21 :: .inLoop c_laws_szInt64SS_21 :: sk) e h R) := nr rfl
@[simp, simp ↓] theorem c_laws_szInt64SS_23_r : vc2 C (n + 1) [] (.code c_laws_szInt64SS_23 :: sk) e h R = (vc2 C n [] (.code c_laws_szInt64SS_22 :: .inBlock 0 :: sk) e h R) := nr rfl
@[simp, simp ↓] theorem c_laws_szInt64SS_24_r : vc2 C (n + 1) [] (.code c_laws_szInt64SS_24 :: sk) e h R = (vc2 C n [] (.code c_laws_szInt64SS_7 :: .code c_laws_szInt64SS_23 :: sk) e h R) := nr rfl
@[simp, simp ↓] theorem c_laws_szInt64SS_25_r : vc2 C (n + 1) [] (.code c_laws_szInt64SS_25 :: sk) e h R = (vc2 C n c_laws_szInt64SS_o10 sk e h R) := nr rfl
@[simp, simp ↓] theorem c_laws_szInt64SS_26_r : vc2 C (n + 1) [] (.code c_laws_szInt64SS_26 :: sk) e h R = (vc2 C n [] (.code c_laws_szInt64SS_25 :: .code .ret :: sk) e h R) := nr rfl
@[simp, simp ↓] theorem c_laws_szInt64SS_27_r : vc2 C (n + 1) [] (.code c_laws_szInt64SS_27 :: sk) e h R = (vc2 C n [] (.code c_laws_szInt64SS_24 :: .code c_laws_szInt64SS_26 :: sk) e h R) := nr rfl
@[simp, simp ↓] theorem c_laws_szInt64SS_28_r : vc2 C (n + 1) [] (.code c_laws_szInt64SS_28 :: sk) e h R = (vc2 C n [] (.code c_laws_szInt64SS_6 :: .code c_laws_szInt64SS_27 :: sk) e h R) := nr rfl
@[simp, simp ↓] theorem c_laws_szInt64SS_29_r : vc2 C (n + 1) [] (.code c_laws_szInt64SS_29 :: sk) e h R = (vc2 C n [] (.code c_laws_szInt64SS_1 :: .code c_laws_szInt64SS_28 :: sk) e h R) := nr rfl
@[simp, simp ↓] theorem c_laws_szInt64SS_30_r : vc2 C (n + 1) [] (.code c_laws_szInt64SS_30 :: sk) e h R = (vc2 C n [] (.code c_laws_szInt64SS_0 :: .code c_laws_szInt64SS_29 :: sk) e h R) := nr rfl
end
noncomputable def c_laws_szInt64SS_C (orc : Orc) : Cx := ⟨Try.prog, [], 48, 27, [.tmp 4], orc⟩
@[simp] theorem c_laws_szInt64SS_C_P (orc : Orc) : (c_laws_szInt64SS_C orc).P = Try.prog := nr rfl
@[simp] theorem c_laws_szInt64SS_C_o (orc : Orc) : (c_laws_szInt64SS_C orc).orc = orc := nr rfl
@[simp] theorem c_laws_szInt64SS_C_r (orc : Orc) : (c_laws_szInt64SS_C orc).res = [.tmp 4] := nr rfl
theorem c_laws_szInt64SS_of {args : List AV} {h : Heap} {R : AV → Heap → Prop} {k : Nat} (ha : args.length = k) {orc : Orc} (hp : Pure Try.prog orc) (hk : Is (c_laws_szInt64SS_C orc) Try.f48 → Run2 (c_laws_szInt64SS_C orc) [.code c_laws_szInt64SS_30] (argEnv 0 args) h (Post R)) (hle : k ≤ 27 := by simp) : ACalls Try.prog 48 args h R :=
  contract2 [] c_laws_szInt64SS_30 [.tmp 4] Try.func48 (by decide +kernel) rfl (by kernel_rfl) (by rw [ha]; exact hle) (by kernel_rfl) hp hk
theorem c_laws_szInt64SS_of0 {args : List AV} {h : Heap} {R : AV → Heap → Prop} {k : Nat} (ha : args.length = k) {orc : Orc} (hp : Pure Try.prog orc) (hk : Is (c_laws_szInt64SS_C orc) Try.f48 → Run2 (c_laws_szInt64SS_C orc) [.code c_laws_szInt64SS_30] (argEnv 0 args) h R) (hle : k ≤ 27 := by simp) : ACalls Try.prog 48 args h R :=
  contract20 [] c_laws_szInt64SS_30 [.tmp 4] Try.func48 (by decide +kernel) rfl (by kernel_rfl) (by rw [ha]; exact hle) (by kernel_rfl) hp hk
theorem szInt64SS_c (rs : List (List Int)) (n : Int) (h : Heap) (hn : 0 ≤ n ∧ n ≤ 1048576) (hw : wfSS rs) : ACalls Try.prog 48 [.snap 1 (rs.map il), .int .i64 n] h (fun v h' => v = .int .i64 (if n < ssTot rs then -1 else n - ssTot rs) ∧ h' = h) := by
  have hl := hw.2
  refine c_laws_szInt64SS_of0 rfl noPure fun I => ?_
  refine Run2.of I 1000 ?_
  simp -implicitDefEqProofs
  refine ⟨by omega, fun h1 => ?_, fun h1 => ?_⟩
  · intro h2; exfalso; unfold ssTot at h2; omega
  · refine Run2.loopE (fun (i : Nat) => [(0, .snap 1 (rs.map il)), (1, .int .i64 (n - rs.length - sumL (rs.take i))), (5, .int .i64 i)]) (fun i => h) (fun i => rs.length - i) (fun i => i ≤ rs.length ∧ rs.length + sumL (rs.take i) ≤ n) 0 (by simp [sumL]) rfl ⟨Nat.zero_le _, by simp [sumL]; omega⟩ fun i hi ih => ?_
    by_cases hlt : i < rs.length
    · have hr := (hw.1 _ (List.getElem_mem hlt)).2
      have hs := sumL_take rs hlt
      have hle := sumL_le rs (i + 1)
      refine Run2.of I 1000 ?_
      simp -implicitDefEqProofs [hlt]
      refine (szInt64S_c rs[i] _ h (by omega) hr).mono ?_
      rintro v h' ⟨rfl, rfl⟩
      refine gK.go ?_
      by_cases h2 : n - rs.length - sumL (rs.take i) < rs[i].length
      · simp -implicitDefEqProofs [h2]
        intro h3; exfalso; unfold ssTot at h3; omega
      · have go := ih (i + 1) ⟨by omega, by omega⟩ (by omega)
        have e : n - (rs.length : Int) - (sumL (rs.take (i + 1)) : Nat) = n - rs.length - sumL (rs.take i) - rs[i].length := by omega
        rw [e] at go
        simp -implicitDefEqProofs [h2]
        refine ⟨fun h3 => by omega, fun h3 => ⟨by omega, ?_⟩⟩
        simpa using go
    · obtain rfl : i = rs.length := by omega
      have h2 := hi.2
      rw [List.take_length] at h2
      refine Run2.of I 1000 ?_
      simp -implicitDefEqProofs
      have h3 : ¬ n < ssTot rs := by unfold ssTot; omega
      rw [if_neg h3]; unfold ssTot; omega
noncomputable def o_szInt64SS : List AV → Option (Prop × AV) := tab (fun (x : LS × Int) => match x with | (rs, k) => [.snap 1 (rs.map il), .int .i64 k]) (fun x => match x with | (rs, k) => ((0 ≤ k ∧ k ≤ 1048576) ∧ wfSS rs)) (fun x => match x with | (rs, k) => .int .i64 (if k < ssTot rs then -1 else k - ssTot rs))
@[simp] theorem o_szInt64SS_e (rs : LS) (k : Int) : o_szInt64SS [.snap 1 (rs.map il), .int .i64 k] = some (((0 ≤ k ∧ k ≤ 1048576) ∧ wfSS rs), .int .i64 (if k < ssTot rs then -1 else k - ssTot rs)) := tab_at (enc := fun (x : LS × Int) => match x with | (rs, k) => [.snap 1 (rs.map il), .int .i64 k]) (fun x y h => by
  obtain ⟨rs1, k1⟩ := x; obtain ⟨rs2, k2⟩ := y; simp at h; simp [h]) _ _ (rs, k)
theorem o_szInt64SS_k : Knows Try.prog 48 o_szInt64SS := tab_knows fun x hx h => by
  obtain ⟨rs, k⟩ := x; exact szInt64SS_c rs k h hx.1 hx.2
abbrev c_laws_eqInt64SS_o0 : List AJ := [.o ⟨(some 4), none, false, .mv (.c (.bool false)), (some [0, 1])⟩]
def c_laws_eqInt64SS_0 : ACode := .region c_laws_eqInt64SS_o0
abbrev c_laws_eqInt64SS_o1 : List AJ := [.o ⟨(some 6), none, false, .mv (.t 0), none⟩, .o ⟨(some 7), none, false, .len (.t 6), none⟩, .o ⟨(some 8), none, false, .mv (.t 1), none⟩, .o ⟨(some 9), none, false, .len (.t 8), none⟩, .o ⟨(some 10), none, false, .bin .neq (.t 7) (.t 9), (some [0, 1, 10])⟩]
def c_laws_eqInt64SS_1 : ACode := .region c_laws_eqInt64SS_o1
abbrev c_laws_eqInt64SS_o2 : List AJ := [.o ⟨(some 4), none, false, .mv (.c (.bool false)), (some [4])⟩]
def c_laws_eqInt64SS_2 : ACode := .region c_laws_eqInt64SS_o2
def c_laws_eqInt64SS_3 : ACode := .seq c_laws_eqInt64SS_2 .ret
def c_laws_eqInt64SS_4 : ACode := .cond (.t 10) c_laws_eqInt64SS_3 .skip
def c_laws_eqInt64SS_5 : ACode := .seq c_laws_eqInt64SS_1 c_laws_eqInt64SS_4
abbrev c_laws_eqInt64SS_o3 : List AJ := [.o ⟨(some 5), none, false, .mv (.c (.int .i64 0)), (some [0, 1, 5])⟩]
def c_laws_eqInt64SS_6 : ACode := .region c_laws_eqInt64SS_o3
abbrev c_laws_eqInt64SS_o4 : List AJ := [.o ⟨(some 11), none, false, .mv (.t 5), none⟩, .o ⟨(some 12), none, false, .mv (.t 0), none⟩, .o ⟨(some 13), none, false, .len (.t 12), none⟩, .o ⟨(some 14), none, false, .bin .lss (.t 11) (.t 13), (some [0, 1, 5, 14])⟩]
def c_laws_eqInt64SS_7 : ACode := .region c_laws_eqInt64SS_o4
def c_laws_eqInt64SS_8 : ACode := .cond (.t 14) .skip (.exit 0)
def c_laws_eqInt64SS_9 : ACode := .seq c_laws_eqInt64SS_7 c_laws_eqInt64SS_8
abbrev c_laws_eqInt64SS_o5 : List AI := [⟨(some 17), none, false, .mv (.t 0), none⟩, ⟨(some 18), none, false, .mv (.t 5), none⟩, ⟨(some 19), none, false, .idxA 1 (.t 17) (.t 18), none⟩, ⟨(some 20), none, false, .load 1 false (.t 19), none⟩, ⟨(some 21), none, false, .mv (.t 1), none⟩, ⟨(some 22), none, false, .mv (.t 5), none⟩, ⟨(some 23), none, false, .idxA 1 (.t 21) (.t 22), none⟩, ⟨(some 24), none, false, .load 1 false (.t 23), none⟩, ⟨(some 25), none, false, .call 20 [(.t 20), (.t 24)], none⟩, ⟨(some 26), none, false, .un .not (.t 25), (some [0, 1, 5, 26])⟩]
def c_laws_eqInt64SS_10 : ACode := .draw c_laws_eqInt64SS_o5 [] rfl
abbrev c_laws_eqInt64SS_o6 : List AJ := [.o ⟨(some 4), none, false, .mv (.c (.bool false)), (some [4])⟩]
def c_laws_eqInt64SS_11 : ACode := .region c_laws_eqInt64SS_o6
def c_laws_eqInt64SS_12 : ACode := .seq c_laws_eqInt64SS_11 .ret
def c_laws_eqInt64SS_13 : ACode := .cond (.t 26) c_laws_eqInt64SS_12 .skip
def c_laws_eqInt64SS_14 : ACode := .seq c_laws_eqInt64SS_10 c_laws_eqInt64SS_13
def c_laws_eqInt64SS_15 : ACode := .block 1 c_laws_eqInt64SS_14
abbrev c_laws_eqInt64SS_o7 : List AJ := [.o ⟨(some 15), none, false, .mv (.t 5), none⟩, .o ⟨(some 16), none, true, .bin .add (.t 15) (.c (.int .i64 1)), none⟩, .o ⟨(some 5), none, false, .mv (.t 16), (some [0, 1, 5])⟩]
def c_laws_eqInt64SS_16 : ACode := .region c_laws_eqInt64SS_o7
def c_laws_eqInt64SS_17 : ACode := .seq c_laws_eqInt64SS_15 c_laws_eqInt64SS_16
def c_laws_eqInt64SS_18 : ACode := .seq c_laws_eqInt64SS_9 c_laws_eqInt64SS_17
def c_laws_eqInt64SS_19 : ACode := .loop c_laws_eqInt64SS_18
def c_laws_eqInt64SS_20 : ACode := .block 0 c_laws_eqInt64SS_19
def c_laws_eqInt64SS_21 : ACode := .seq c_laws_eqInt64SS_6 c_laws_eqInt64SS_20
abbrev c_laws_eqInt64SS_o8 : List AJ := [.o ⟨(some 4), none, false, .mv (.c (.bool true)), (some [4])⟩]
def c_laws_eqInt64SS_22 : ACode := .region c_laws_eqInt64SS_o8
def c_laws_eqInt64SS_23 : ACode := .seq c_laws_eqInt64SS_22 .ret
def c_laws_eqInt64SS_24 : ACode := .seq c_laws_eqInt64SS_21 c_laws_eqInt64SS_23
def c_laws_eqInt64SS_25 : ACode := .seq c_laws_eqInt64SS_5 c_laws_eqInt64SS_24
def c_laws_eqInt64SS_26 : ACode := .seq c_laws_eqInt64SS_0 c_laws_eqInt64SS_25
section
variable (C : Cx) (n : Nat) (sk : List AItem) (e : Env) (h : Heap) (R : AV → Heap → Prop)
@[simp, simp ↓] theorem c_laws_eqInt64SS_0_r : vc2 C (n + 1) [] (.code c_laws_eqInt64SS_0 :: sk) e h R = (vc2 C n c_laws_eqInt64SS_o0 sk e h R) := nr rfl
@[simp, simp ↓] theorem c_laws_eqInt64SS_1_r : vc2 C (n + 1) [] (.code c_laws_eqInt64SS_1 :: sk) e h R = (vc2 C n c_laws_eqInt64SS_o1 sk e h R) := nr rfl
@[simp, simp ↓] theorem c_laws_eqInt64SS_2_r : vc2 C (n + 1) [] (.code c_laws_eqInt64SS_2 :: sk) e h R = (vc2 C n c_laws_eqInt64SS_o2 sk e h R) := nr rfl
@[simp, simp ↓] theorem c_laws_eqInt64SS_3_r : vc2 C (n + 1) [] (.code c_laws_eqInt64SS_3 :: sk) e h R = (vc2 C n [] (.code c_laws_eqInt64SS_2 :: .code .ret :: sk) e h R) := nr rfl
@[simp, simp ↓] theorem c_laws_eqInt64SS_4_r : vc2 C (n + 1) [] (.code c_laws_eqInt64SS_4 :: sk) e h R = (condK (ev e (.t 10)) (vc2 C n [] (.code c_laws_eqInt64SS_3 :: sk) e h R) (vc2 C n [] (.code .skip :: sk) e h R)) := nr rfl
@[simp, simp ↓] theorem c_laws_eqInt64SS_5_r : vc2 C (n + 1) [] (.code c_laws_eqInt64SS_5 :: sk) e h R = (vc2 C n [] (.code c_laws_eqInt64SS_1 :: .code c_laws_eqInt64SS_4 :: sk) e h R) := nr rfl
@[simp, simp ↓] theorem c_laws_eqInt64SS_6_r : vc2 C (n + 1) [] (.code c_laws_eqInt64SS_6 :: sk) e h R = (vc2 C n c_laws_eqInt64SS_o3 sk e h R) := nr rfl
@[simp, simp ↓] theorem c_laws_eqInt64SS_7_r : vc2 C (n + 1) [] (.code c_laws_eqInt64SS_7 :: sk) e h R = (vc2 C n c_laws_eqInt64SS_o4 sk e h R) := nr rfl
@[simp, simp ↓] theorem c_laws_eqInt64SS_8_r : vc2 C (n + 1) [] (.code c_laws_eqInt64SS_8 :: sk) e h R = (condK (ev e (.t 14)) (vc2 C n [] (.code .skip :: sk) e h R) (vc2 C n [] (.code (.exit 0) :: sk) e h R)) := nr rfl
@[simp, simp ↓] theorem c_laws_eqInt64SS_9_r : vc2 C (n + 1) [] (.code c_laws_eqInt64SS_9 :: sk) e h R = (vc2 C n [] (.code c_laws_eqInt64SS_7 :: .code c_laws_eqInt64SS_8 :: sk) e h R) := nr rfl
@[simp, simp ↓] theorem c_laws_eqInt64SS_10_r : vc2 C (n + 1) [] (.code c_laws_eqInt64SS_10 :: sk) e h R = (draw2 C h (vK C n [] sk R h) c_laws_eqInt64SS_o5 e) := nr rfl
@[simp, simp ↓] theorem c_laws_eqInt64SS_11_r : vc2 C (n + 1) [] (.code c_laws_eqInt64SS_11 :: sk) e h R = (vc2 C n c_laws_eqInt64SS_o6 sk e h R) := nr rfl
@[simp, simp ↓] theorem c_laws_eqInt64SS_12_r : vc2 C (n + 1) [] (.code c_laws_eqInt64SS_12 :: sk) e h R = (vc2 C n [] (.code c_laws_eqInt64SS_11 :: .code .ret :: sk) e h R) := nr rfl
@[simp, simp ↓] theorem c_laws_eqInt64SS_13_r : vc2 C (n + 1) [] (.code c_laws_eqInt64SS_13 :: sk) e h R = (condK (ev e (.t 26)) (vc2 C n [] (.code c_laws_eqInt64SS_12 :: sk) e h R) (vc2 C n [] (.code .skip :: sk) e h R)) := nr rfl
@[simp, simp ↓] theorem c_laws_eqInt64SS_14_r : vc2 C (n + 1) [] (.code c_laws_eqInt64SS_14 :: sk) e h R = (vc2 C n [] (.code c_laws_eqInt64SS_10 :: .code c_laws_eqInt64SS_13 :: sk) e h R) := nr rfl
@[simp, simp ↓] theorem c_laws_eqInt64SS_15_r : vc2 C (n + 1) [] (.code c_laws_eqInt64SS_15 :: sk) e h R = (vc2 C n [] (.code c_laws_eqInt64SS_14 :: .inBlock 1 :: sk) e h R) := nr rfl
@[simp, simp ↓] theorem c_laws_eqInt64SS_16_r : vc2 C (n + 1) [] (.code c_laws_eqInt64SS_16 :: sk) e h R = (vc2 C n c_laws_eqInt64SS_o7 sk e h R) := nr rfl
@[simp, simp ↓] theorem c_laws_eqInt64SS_17_r : vc2 C (n + 1) [] (.code c_laws_eqInt64SS_17 :: sk) e h R = (vc2 C n [] (.code c_laws_eqInt64SS_15 :: .code c_laws_eqInt64SS_16 :: sk) e h R) := nr rfl
@[simp, simp ↓] theorem c_laws_eqInt64SS_18_r : vc2 C (n + 1) [] (.code c_laws_eqInt64SS_18 :: sk) e h R = (vc2 C n [] (.code c_laws_eqInt64SS_9 :: .code c_laws_eqInt64SS_17 :: sk) e h R) := nr rfl
@[simp, simp ↓] theorem c_laws_eqInt64SS_19_r : vc2 C (n + 1) [] (.code c_laws_eqInt64SS_19 :: sk) e h R = (Run2 C (.code c_laws_eqInt64SS_18 :: .inLoop c_laws_eqInt64SS_18 :: sk) e h R) := nr rfl
@[simp, simp ↓] theorem c_laws_eqInt64SS_20_r : vc2 C (n + 1) [] (.code c_laws_eqInt64SS_20 :: sk) e h R = (vc2 C n [] (.code c_laws_eqInt64SS_19 :: .inBlock 0 :: sk) e h R) := nr rfl
@[simp, simp ↓] theorem c_laws_eqInt64SS_21_r : vc2 C (n + 1) [] (.code c_laws_eqInt64SS_21 :: sk) e h R = (vc2 C n [] (.code c_laws_eqInt64SS_6 :: .code c_laws_eqInt64SS_20 :: sk) e h R) := nr rfl
@[simp, simp ↓] theorem c_laws_eqInt64SS_22_r : vc2 C (n + 1) [] (.code c_laws_eqInt64SS_22 :: sk) e h R = (vc2 C n c_laws_eqInt64SS_o8 sk e h R) := nr rfl
@[simp, simp ↓] theorem c_laws_eqInt64SS_23_r : vc2 C (n + 1) [] (.code c_laws_eqInt64SS_23 :: sk) e h R = (vc2 C n [] (.code c_laws_eqInt64SS_22 :: .code .ret :: sk) e h R) := nr rfl
@[simp, simp ↓] theorem c_laws_eqInt64SS_24_r : vc2 C (n + 1) [] (.code c_laws_eqInt64SS_24 :: sk) e h R = (vc2 C n [] (.code c_laws_eqInt64SS_21 :: .code c_laws_eqInt64SS_23 :: sk) e h R) := nr rfl
@[simp, simp ↓] theorem c_laws_eqInt64SS_25_r : vc2 C (n + 1) [] (.code c_laws_eqInt64SS_25 :: sk) e h R = (vc2 C n [] (.code c_laws_eqInt64SS_5 :: .code c_laws_eqInt64SS_24 :: sk) e h R) := nr rfl
@[simp, simp ↓] theorem c_laws_eqInt64SS_26_r : vc2 C (n + 1) [] (.code c_laws_eqInt64SS_26 :: sk) e h R = (vc2 C n [] (.code c_laws_eqInt64SS_0 :: .code c_laws_eqInt64SS_25 :: sk) e h R) := nr rfl
end
noncomputable def c_laws_eqInt64SS_C (orc : Orc) : Cx := ⟨Try.prog, [], 45, 27, [.tmp 4], orc⟩
@[simp] theorem c_laws_eqInt64SS_C_P (orc : Orc) : (c_laws_eqInt64SS_C orc).P = Try.prog := nr rfl
@[simp] theorem c_laws_eqInt64SS_C_o (orc : Orc) : (c_laws_eqInt64SS_C orc).orc = orc := nr rfl
@[simp] theorem c_laws_eqInt64SS_C_r (orc : Orc) : (c_laws_eqInt64SS_C orc).res = [.tmp 4] := nr rfl
theorem c_laws_eqInt64SS_of {args : List AV} {h : Heap} {R : AV → Heap → Prop} {k : Nat} (ha : args.length = k) {orc : Orc} (hp : Pure Try.prog orc) (hk : Is (c_laws_eqInt64SS_C orc) Try.f45 → Run2 (c_laws_eqInt64SS_C orc) [.code c_laws_eqInt64SS_26] (argEnv 0 args) h (Post R)) (hle : k ≤ 27 := by simp) : ACalls Try.prog 45 args h R :=
  contract2 [] c_laws_eqInt64SS_26 [.tmp 4] Try.func45 (by decide +kernel) rfl (by kernel_rfl) (by rw [ha]; exact hle) (by kernel_rfl) hp hk
theorem c_laws_eqInt64SS_of0 {args : List AV} {h : Heap} {R : AV → Heap → Prop} {k : Nat} (ha : args.length = k) {orc : Orc} (hp : Pure Try.prog orc) (hk : Is (c_laws_eqInt64SS_C orc) Try.f45 → Run2 (c_laws_eqInt64SS_C orc) [.code c_laws_eqInt64SS_26] (argEnv 0 args) h R) (hle : k ≤ 27 := by simp) : ACalls Try.prog 45 args h R :=
  contract20 [] c_laws_eqInt64SS_26 [.tmp 4] Try.func45 (by decide +kernel) rfl (by kernel_rfl) (by rw [ha]; exact hle) (by kernel_rfl) hp hk
theorem eqInt64SS_s (l m : List (List Int)) (h : Heap) (hl : fitSS l) : ACalls Try.prog 45 [.snap 1 (l.map il), .snap 1 (m.map il)] h (fun v h' => v = .bool (decide (l = m)) ∧ h' = h) := by
  have hn := hl.1
  refine c_laws_eqInt64SS_of0 rfl orcI1_p fun I => ?_
  refine Run2.of I 1000 ?_
  simp -implicitDefEqProofs
  refine ⟨by rintro hne rfl; exact hne rfl, fun hlen => ?_⟩
  refine Run2.loop (fun i => [(0, .snap 1 (l.map il)), (1, .snap 1 (m.map il)), (5, .int .i64 (i : Nat))]) (fun i => h) (fun i => l.length - i) (fun i => i ≤ l.length ∧ l.take i = m.take i) 0 (by simp) fun i hi ih => ?_
  by_cases hlt : i < l.length
  · have hlt' : i < m.length := by omega
    have hr := hl.2 _ (List.getElem_mem hlt)
    refine Run2.of I 1000 ?_
    simp -implicitDefEqProofs [hlt, hlt', hr]
    constructor
    · rintro hne rfl
      exact hne rfl
    · intro he
      refine ⟨by omega, ?_⟩
      have := ih (i + 1) ⟨by omega, by rw [List.take_succ_eq_append_getElem hlt, List.take_succ_eq_append_getElem hlt', hi.2, he]⟩ (by omega)
      simpa using this
  · refine Run2.of I 1000 ?_
    simp -implicitDefEqProofs [hlt]
    have : i = l.length := by omega
    have h2 := hi.2
    rw [List.take_of_length_le (by omega), List.take_of_length_le (by omega)] at h2
    exact h2
/-- The slices that a slice holds which nobody writes. -/
def listsOf : AV → List (List Int)
  | .snap _ l => l.map intsOf
  | _ => []
@[simp] theorem listsOf_snap (s : Nat) (rs : List (List Int)) : listsOf (.snap s (rs.map il)) = rs := by
  simp only [listsOf, List.map_map]
  exact List.map_id'' (fun r => intsOf_snap 1 r) rs
@[simp] theorem listsOf_nil : listsOf .nilsl = [] := rfl
@[simp] theorem listsOf_emp : listsOf .emp = [] := rfl
def isLists (v : AV) : Prop := v = .nilsl ∨ v = .emp ∨ ∃ rs : List (List Int), v = .snap 1 (rs.map il)
@[simp] theorem isLists_snap (rs : List (List Int)) : isLists (.snap 1 (rs.map il)) := .inr (.inr ⟨rs, rfl⟩)
@[simp] theorem isLists_nil : isLists .nilsl := .inl rfl
@[simp] theorem isLists_emp : isLists .emp := .inr (.inl rfl)
theorem Wk.lists {v : AV} (h : isLists v) : Wk v (.snap 1 ((listsOf v).map il)) := by
  rcases h with rfl | rfl | ⟨rs, rfl⟩
  · exact Wk.nil 1
  · exact Wk.emp 1
  · rw [listsOf_snap]; exact Wk.refl _
theorem eqInt64SS_v (u v : AV) (h : Heap) (hu : isLists u) (hv : isLists v) (hl : fitSS (listsOf u)) : ACalls Try.prog 45 [u, v] h (fun r h' => r = .bool (decide (listsOf u = listsOf v)) ∧ h' = h) :=
  (eqInt64SS_s _ _ h hl).wk (.cons (.lists hu) (.cons (.lists hv) .nil))
noncomputable def o_eqInt64SS : List AV → Option (Prop × AV) := tab (fun (x : AV × AV) => match x with | (u, v) => [u, v]) (fun x => match x with | (u, v) => ((isLists u ∧ isLists v) ∧ fitSS (listsOf u))) (fun x => match x with | (u, v) => .bool (decide (listsOf u = listsOf v)))
@[simp] theorem o_eqInt64SS_e (u : AV) (v : AV) : o_eqInt64SS [u, v] = some (((isLists u ∧ isLists v) ∧ fitSS (listsOf u)), .bool (decide (listsOf u = listsOf v))) := tab_at (enc := fun (x : AV × AV) => match x with | (u, v) => [u, v]) (fun x y h => by
  obtain ⟨u1, v1⟩ := x; obtain ⟨u2, v2⟩ := y; simp at h; simp [h]) _ _ (u, v)
theorem o_eqInt64SS_k : Knows Try.prog 45 o_eqInt64SS := tab_knows fun x hx h => by
  obtain ⟨u, v⟩ := x; exact eqInt64SS_v u v h hx.1.1 hx.1.2 hx.2
/-! ## With memory of their own -/
theorem toInt64SS_o (rs : List (List Int)) (h : Heap) (hl : fitSS rs) : ACalls Try.prog 50 [.snap 1 (rs.map il)] h (fun v h' => ∃ h1, OwnLL v rs h1 ∧ (∀ i ∈ dom h1, i ∉ dom h) ∧ h' = h1 ++ h) := by
  have hn := hl.1
  refine c_laws_toInt64SS_of0 rfl noPure fun I => ?_
  refine Run2.of I 1000 ?_
  simp -implicitDefEqProofs
  refine ⟨by omega, fun id hid => ?_⟩
  refine Run2.loopE (α := Nat × List AV × Heap) (fun s => [(0, .snap 1 (rs.map il)), (3, .sl id 1 0 rs.length (some rs.length)), (4, .int .i64 (s.1 : Nat))]) (fun s => (id, ⟨1, s.2.1 ++ List.replicate (rs.length - s.1) .nilsl⟩) :: (s.2.2 ++ h)) (fun s => rs.length - s.1) (fun s => s.1 ≤ rs.length ∧ OwnLs s.2.1 (rs.take s.1) s.2.2 ∧ id ∉ dom s.2.2 ∧ ∀ j ∈ dom s.2.2, j ∉ dom h) (0, [], []) (by simp) (by simp) ⟨Nat.zero_le _, .nil, by simp [dom], by simp [dom]⟩ ?_
  rintro ⟨i, us, hi⟩ ⟨hin, ho, hd1, hd2⟩ ih
  simp only at hin ho hd1 hd2
  have hul : us.length = i := by rw [ho.len, List.length_take]; omega
  by_cases hlt : i < rs.length
  · have hr := hl.2 _ (List.getElem_mem hlt)
    refine Run2.of I 1000 ?_
    simp -implicitDefEqProofs [hlt]
    refine (toInt64S_o rs[i] _ hr).mono ?_
    rintro v h' ⟨h1, o, hd, rfl⟩
    have hcell := o.cell
    have hst := stor_of hcell
    have hcl : (cellsOf v).length = 1 := by rw [cells_of hcell]; rfl
    have hid1 : id ∉ dom h1 := fun hm => hd id hm (by simp [dom])
    have hgA : ∀ b, hget (h1 ++ b) id = hget b id := fun b => hget_app hid1
    have hsA : ∀ b c, hset (h1 ++ b) id c = h1 ++ hset b id c := fun b c => hset_app hid1
    have hd' : ∀ j ∈ dom h1, j ∉ dom hi ∧ j ∉ dom h := fun j hj => by
      have := hd j hj
      simp only [dom_cons, dom_append, List.mem_cons, List.mem_append, not_or] at this
      exact this.2
    have go := ih (i + 1, us ++ [v], hi ++ h1) ⟨by simp; omega, by
      rw [List.take_succ_eq_append_getElem hlt]
      exact ho.append (.one o) fun j hj hm => (hd' j hm).1 hj, by
      simp only [dom_append, List.mem_append, not_or]; exact ⟨hd1, hid1⟩, fun j hj => by
      simp only [dom_append, List.mem_append] at hj
      rcases hj with hj | hj
      · exact hd2 j hj
      · exact (hd' j hj).2⟩ (by simp; omega)
    clear ih
    have hset1 : (us ++ List.replicate (rs.length - i) AV.nilsl).set i v = us ++ [v] ++ List.replicate (rs.length - (i + 1)) .nilsl := by
      have hi' : i = us.length := by omega
      rw [List.set_append_right _ _ (by omega), show rs.length - i = (rs.length - (i + 1)) + 1 by omega, List.replicate_succ, List.append_assoc]
      simp [hi']
    refine gK.go ?_
    simp -implicitDefEqProofs [hcell, hst, hcl, hgA, hsA, hlt, hul, hset1]
    refine ⟨by omega, by omega, ?_⟩
    refine Run2.perm (perm_mid _ _ _ _) ?_
    simpa using go
  · obtain rfl : i = rs.length := by omega
    rw [List.take_length] at ho
    refine Run2.of I 1000 ?_
    simp -implicitDefEqProofs
    refine ⟨(id, ⟨1, us ++ []⟩) :: hi, .sl id _ _ [] rfl rfl ho hd1, ?_, by simp⟩
    simp only [dom_cons, List.mem_cons]
    rintro j (rfl | hj)
    · exact hid
    · exact hd2 j hj
/-- The marks that follow on k, as long as these. -/
def marksL : Int → List (List Int) → List (List Int)
  | _, [] => []
  | k, r :: rs => marks k r.length :: marksL (k + r.length) rs
theorem marksL_len (k : Int) (rs : List (List Int)) : (marksL k rs).length = rs.length := by
  induction rs generalizing k with
  | nil => rfl
  | cons r rs ih => simp [marksL, ih]
theorem marksL_snoc (r : List Int) : ∀ (k : Int) (rs : List (List Int)), marksL k (rs ++ [r]) = marksL k rs ++ [marks (k + sumL rs) r.length]
  | k, [] => by simp [marksL, sumL]
  | k, x :: rs => by
    simp only [List.cons_append, marksL, marksL_snoc r _ rs]
    congr 4
    simp [sumL]; omega
theorem marksL_take : ∀ (k : Int) (rs : List (List Int)) (j : Nat), (marksL k rs).take j = marksL k (rs.take j)
  | _, [], j => by simp [marksL]
  | _, _ :: _, 0 => rfl
  | k, r :: rs, j + 1 => by simp [marksL, marksL_take]
abbrev c_laws_markInt64SS_o0 : List AJ := [.o ⟨(some 4), none, false, .mv (.c (.int .i64 0)), (some [0, 1])⟩]
def c_laws_markInt64SS_0 : ACode := .region c_laws_markInt64SS_o0
abbrev c_laws_markInt64SS_o1 : List AJ := [.o ⟨(some 5), none, false, .mv (.c (.int .i64 0)), (some [0, 1, 5])⟩]
def c_laws_markInt64SS_1 : ACode := .region c_laws_markInt64SS_o1
abbrev c_laws_markInt64SS_o2 : List AJ := [.o ⟨(some 6), none, false, .mv (.t 5), none⟩, .o ⟨(some 7), none, false, .mv (.t 0), none⟩, .o ⟨(some 8), none, false, .len (.t 7), none⟩, .o ⟨(some 9), none, false, .bin .lss (.t 6) (.t 8), (some [0, 1, 5, 9])⟩]
def c_laws_markInt64SS_2 : ACode := .region c_laws_markInt64SS_o2
def c_laws_markInt64SS_3 : ACode := .cond (.t 9) .skip (.exit 0)
def c_laws_markInt64SS_4 : ACode := .seq c_laws_markInt64SS_2 c_laws_markInt64SS_3
abbrev c_laws_markInt64SS_o3 : List AJ := [.o ⟨(some 12), none, false, .mv (.t 0), none⟩, .o ⟨(some 13), none, false, .mv (.t 5), none⟩, .o ⟨(some 14), none, false, .idxA 1 (.t 12) (.t 13), none⟩, .o ⟨(some 15), none, false, .load 1 false (.t 14), none⟩, .o ⟨(some 16), none, false, .mv (.t 1), none⟩, .o ⟨(some 17), none, false, .call 22 [(.t 15), (.t 16)], none⟩, .o ⟨(some 1), none, false, .mv (.t 17), (some [0, 1, 5])⟩]
def c_laws_markInt64SS_5 : ACode := .region c_laws_markInt64SS_o3
def c_laws_markInt64SS_6 : ACode := .block 1 c_laws_markInt64SS_5
abbrev c_laws_markInt64SS_o4 : List AJ := [.o ⟨(some 10), none, false, .mv (.t 5), none⟩, .o ⟨(some 11), none, true, .bin .add (.t 10) (.c (.int .i64 1)), none⟩, .o ⟨(some 5), none, false, .mv (.t 11), (some [0, 1, 5])⟩]
def c_laws_markInt64SS_7 : ACode := .region c_laws_markInt64SS_o4
def c_laws_markInt64SS_8 : ACode := .seq c_laws_markInt64SS_6 c_laws_markInt64SS_7
def c_laws_markInt64SS_9 : ACode := .seq c_laws_markInt64SS_4 c_laws_markInt64SS_8
def c_laws_markInt64SS_10 : ACode := .loop c_laws_markInt64SS_9
def c_laws_markInt64SS_11 : ACode := .block 0 c_laws_markInt64SS_10
def c_laws_markInt64SS_12 : ACode := .seq c_laws_markInt64SS_1 c_laws_markInt64SS_11
abbrev c_laws_markInt64SS_o5 : List AJ := [.o ⟨(some 18), none, false, .mv (.t 1), none⟩, .o ⟨(some 4), none, false, .mv (.t 18), (some [4])⟩]
def c_laws_markInt64SS_13 : ACode := .region c_laws_markInt64SS_o5
def c_laws_markInt64SS_14 : ACode := .seq c_laws_markInt64SS_13 .ret
def c_laws_markInt64SS_15 : ACode := .seq c_laws_markInt64SS_12 c_laws_markInt64SS_14
def c_laws_markInt64SS_16 : ACode := .seq c_laws_markInt64SS_0 c_laws_markInt64SS_15
section
variable (C : Cx) (n : Nat) (sk : List AItem) (e : Env) (h : Heap) (R : AV → Heap → Prop)
@[simp, simp ↓] theorem c_laws_markInt64SS_0_r : vc2 C (n + 1) [] (.code c_laws_markInt64SS_0 :: sk) e h R = (vc2 C n c_laws_markInt64SS_o0 sk e h R) := nr rfl
@[simp, simp ↓] theorem c_laws_markInt64SS_1_r : vc2 C (n + 1) [] (.code c_laws_markInt64SS_1 :: sk) e h R = (vc2 C n c_laws_markInt64SS_o1 sk e h R) := nr rfl
@[simp, simp ↓] theorem c_laws_markInt64SS_2_r : vc2 C (n + 1) [] (.code c_laws_markInt64SS_2 :: sk) e h R = (vc2 C n c_laws_markInt64SS_o2 sk e h R) := nr rfl
@[simp, simp ↓] theorem c_laws_markInt64SS_3_r : vc2 C (n + 1) [] (.code c_laws_markInt64SS_3 :: sk) e h R = (condK (ev e (.t 9)) (vc2 C n [] (.code .skip :: sk) e h R) (vc2 C n [] (.code (.exit 0) :: sk) e h R)) := nr rfl
@[simp, simp ↓] theorem c_laws_markInt64SS_4_r : vc2 C (n + 1) [] (.code c_laws_markInt64SS_4 :: sk) e h R = (vc2 C n [] (.code c_laws_markInt64SS_2 :: .code c_laws_markInt64SS_3 :: sk) e h R) := nr rfl
@[simp, simp ↓] theorem c_laws_markInt64SS_5_r : vc2 C (n + 1) [] (.code c_laws_markInt64SS_5 :: sk) e h R = (vc2 C n c_laws_markInt64SS_o3 sk e h R) := nr rfl
@[simp, simp ↓] theorem c_laws_markInt64SS_6_r : vc2 C (n + 1) [] (.code c_laws_markInt64SS_6 :: sk) e h R = (vc2 C n [] (.code c_laws_markInt64SS_5 :: .inBlock 1 :: sk) e h R) := nr rfl
@[simp, simp ↓] theorem c_laws_markInt64SS_7_r : vc2 C (n + 1) [] (.code c_laws_markInt64SS_7 :: sk) e h R = (vc2 C n c_laws_markInt64SS_o4 sk e h R) := nr rfl
@[simp, simp ↓] theorem c_laws_markInt64SS_8_r : vc2 C (n + 1) [] (.code c_laws_markInt64SS_8 :: sk) e h R = (vc2 C n [] (.code c_laws_markInt64SS_6 :: .code c_laws_markInt64SS_7 :: sk) e h R) := nr rfl
@[simp, simp ↓] theorem c_laws_markInt64SS_9_r : vc2 C (n + 1) [] (.code c_laws_markInt64SS_9 :: sk) e h R = (vc2 C n [] (.code c_laws_markInt64SS_4 :: .code c_laws_markInt64SS_8 :: sk) e h R) := nr rfl
@[simp, simp ↓] theorem c_laws_markInt64SS_10_r : vc2 C (n + 1) [] (.code c_laws_markInt64SS_10 :: sk) e h R = (Run2 C (.code c_laws_markInt64SS_9 :: .inLoop c_laws_markInt64SS_9 :: sk) e h R) := nr rfl
@[simp, simp ↓] theorem c_laws_markInt64SS_11_r : vc2 C (n + 1) [] (.code c_laws_markInt64SS_11 :: sk) e h R = (vc2 C n [] (.code c_laws_markInt64SS_10 :: .inBlock 0 :: sk) e h R) := nr rfl
@[simp, simp ↓] theorem c_laws_markInt64SS_12_r : vc2 C (n + 1) [] (.code c_laws_markInt64SS_12 :: sk) e h R = (vc2 C n [] (.code c_laws_markInt64SS_1 :: .code c_laws_markInt64SS_11 :: sk) e h R) := nr rfl
@[simp, simp ↓] theorem c_laws_markInt64SS_13_r : vc2 C (n + 1) [] (.code c_laws_markInt64SS_13 :: sk) e h R = (vc2 C n c_laws_markInt64SS_o5 sk e h R) := nr rfl
@[simp, simp ↓] theorem c_laws_markInt64SS_14_r : vc2 C (n + 1) [] (.code c_laws_markInt64SS_14 :: sk) e h R = (vc2 C n [] (.code c_laws_markInt64SS_13 :: .code .ret :: sk) e h R) := nr rfl
@[simp, simp ↓] theorem c_laws_markInt64SS_15_r : vc2 C (n + 1) [] (.code c_laws_markInt64SS_15 :: sk) e h R = (vc2 C n [] (.code c_laws_markInt64SS_12 :: .code c_laws_markInt64SS_14 :: sk) e h R) := nr rfl
@[simp, simp ↓] theorem c_laws_markInt64SS_16_r : vc2 C (n + 1) [] (.code c_laws_markInt64SS_16 :: sk) e h R = (vc2 C n [] (.code c_laws_markInt64SS_0 :: .code c_laws_markInt64SS_15 :: sk) e h R) := nr rfl
end
noncomputable def c_laws_markInt64SS_C (orc : Orc) : Cx := ⟨Try.prog, [], 46, 19, [.tmp 4], orc⟩
@[simp] theorem c_laws_markInt64SS_C_P (orc : Orc) : (c_laws_markInt64SS_C orc).P = Try.prog := nr rfl
@[simp] theorem c_laws_markInt64SS_C_o (orc : Orc) : (c_laws_markInt64SS_C orc).orc = orc := nr rfl
@[simp] theorem c_laws_markInt64SS_C_r (orc : Orc) : (c_laws_markInt64SS_C orc).res = [.tmp 4] := nr rfl
theorem c_laws_markInt64SS_of {args : List AV} {h : Heap} {R : AV → Heap → Prop} {k : Nat} (ha : args.length = k) {orc : Orc} (hp : Pure Try.prog orc) (hk : Is (c_laws_markInt64SS_C orc) Try.f46 → Run2 (c_laws_markInt64SS_C orc) [.code c_laws_markInt64SS_16] (argEnv 0 args) h (Post R)) (hle : k ≤ 19 := by simp) : ACalls Try.prog 46 args h R :=
  contract2 [] c_laws_markInt64SS_16 [.tmp 4] Try.func46 (by decide +kernel) rfl (by kernel_rfl) (by rw [ha]; exact hle) (by kernel_rfl) hp hk
theorem c_laws_markInt64SS_of0 {args : List AV} {h : Heap} {R : AV → Heap → Prop} {k : Nat} (ha : args.length = k) {orc : Orc} (hp : Pure Try.prog orc) (hk : Is (c_laws_markInt64SS_C orc) Try.f46 → Run2 (c_laws_markInt64SS_C orc) [.code c_laws_markInt64SS_16] (argEnv 0 args) h R) (hle : k ≤ 19 := by simp) : ACalls Try.prog 46 args h R :=
  contract20 [] c_laws_markInt64SS_16 [.tmp 4] Try.func46 (by decide +kernel) rfl (by kernel_rfl) (by rw [ha]; exact hle) (by kernel_rfl) hp hk
theorem markInt64SS_o {v : AV} {rs : List (List Int)} {hs : Heap} (ho : OwnLL v rs hs) (k : Int) (hk : 0 ≤ k ∧ k ≤ 1073741824) (hl : ssTot rs ≤ 1048576) : ACalls Try.prog 46 [v, .int .i64 k] hs (fun r h' => r = .int .i64 (k + sumL rs) ∧ OwnLL v (marksL k rs) h') := by
  have nil : ∀ u, (u = AV.nilsl ∨ u = .emp) → ACalls Try.prog 46 [u, .int .i64 k] [] (fun r h' => r = .int .i64 (k + sumL []) ∧ OwnLL u (marksL k []) h') := by
    rintro u (rfl | rfl)
    all_goals
      refine c_laws_markInt64SS_of0 rfl noPure fun I => ?_
      refine Run2.of I 1000 ?_
      simp -implicitDefEqProofs
      refine Run2.loopE (fun (_ : Unit) => [(0, _), (1, .int .i64 k), (5, .int .i64 0)]) (fun _ => []) (fun _ => 0) (fun _ => True) () (by rfl) rfl trivial fun _ _ _ => ?_
      refine Run2.of I 1000 ?_
      simp -implicitDefEqProofs
      simp [sumL]
      constructor
  cases ho with
  | nil => exact nil _ (.inl rfl)
  | emp => exact nil _ (.inr rfl)
  | @sl us rs hi id n cap ex hn hex o hid =>
    subst hn
    have hn := (fit_of_tot hl).1
    have hul := o.len
    refine c_laws_markInt64SS_of0 rfl noPure fun I => ?_
    refine Run2.of I 1000 ?_
    simp -implicitDefEqProofs
    refine Run2.loopE (α := Nat × Heap × Heap) (fun s => [(0, .sl id 1 0 rs.length cap), (1, .int .i64 (k + sumL (rs.take s.1))), (5, .int .i64 (s.1 : Nat))]) (fun s => (id, ⟨1, us ++ ex⟩) :: (s.2.1 ++ s.2.2)) (fun s => rs.length - s.1) (fun s => s.1 ≤ rs.length ∧ OwnLs (us.take s.1) (marksL k (rs.take s.1)) s.2.1 ∧ OwnLs (us.drop s.1) (rs.drop s.1) s.2.2 ∧ (∀ j ∈ dom s.2.1, j ∉ dom s.2.2) ∧ id ∉ dom s.2.1 ∧ id ∉ dom s.2.2) (0, [], hi) (by simp [sumL]) (by simp) ⟨Nat.zero_le _, .nil, by simpa using o, by simp [dom], by simp [dom], hid⟩ ?_
    rintro ⟨i, hm, hr⟩ ⟨hi', om, orr, hd, hid1, hid2⟩ ih
    simp only at hi' om orr hd hid1 hid2
    by_cases hlt : i < rs.length
    · have hui : i < us.length := by omega
      have hsum := sumL_take rs hlt
      have hle := sumL_le rs (i + 1)
      rw [List.drop_eq_getElem_cons hlt, List.drop_eq_getElem_cons hui] at orr
      have htot : sumL rs ≤ 1048576 := by unfold ssTot at hl; omega
      have hg : (us ++ ex)[i]? = some us[i] := by rw [List.getElem?_append_left hui]; simp
      generalize hu0 : us[i] = u0 at orr hg
      generalize hr0 : rs[i] = r0 at orr
      generalize hdu : us.drop (i + 1) = du at orr
      generalize hdr : rs.drop (i + 1) = dr at orr
      cases orr with
      | @cons _ _ g _ _ hr' o1 os1 d1 =>
        have hcell := o1.cell
        have hcc := cells_of hcell
        rw [dom_append, List.mem_append, not_or] at hid2
        have hd' : ∀ j ∈ dom hm, j ∉ dom g ∧ j ∉ dom hr' := fun j hj => by
          have := hd j hj
          rwa [dom_append, List.mem_append, not_or] at this
        refine Run2.of I 1000 ?_
        simp -implicitDefEqProofs [hlt, hg, hcc]
        refine (markI_keep o1 ((id, ⟨1, us ++ ex⟩) :: (hm ++ hr')) (fun p hp => by simp [hp]) (fun p hp => ?_) (fun nd => ?_) _ (by omega) (by rw [← hr0]; omega)).monoN ?_
        · rcases List.mem_cons.1 hp with rfl | hp
          · exact ⟨List.mem_cons_self .., hid2.1⟩
          · rcases List.mem_append.1 hp with hp | hp
            · exact ⟨by simp [hp], (hd' p.1 (List.mem_map.2 ⟨p, hp, rfl⟩)).1⟩
            · exact ⟨by simp [hp], fun hm => d1 p.1 hm (List.mem_map.2 ⟨p, hp, rfl⟩)⟩
        · exact nd.sublist ((List.Sublist.cons_cons _ ((List.sublist_append_right g hr').append_left hm)).map _)
        rintro r' h' ⟨g', rfl, og, rfl⟩ nd
        have hj : ∀ j ∈ dom g', j ≠ id ∧ j ∉ dom hm ∧ j ∉ dom hr' := fun j hj => by
          rw [dom_append, List.nodup_append] at nd
          have h3 := nd.2.2 j hj
          refine ⟨fun e => h3 j (by simp [dom_cons, e]) rfl, fun e => h3 j (by simp [dom_cons, dom_append, e]) rfl, fun e => h3 j (by simp [dom_cons, dom_append, e]) rfl⟩
        have go := ih (i + 1, hm ++ g', hr') ⟨by simp; omega, by
          simp only
          rw [List.take_succ_eq_append_getElem hlt, List.take_succ_eq_append_getElem hui, marksL_snoc, hr0, hu0]
          exact om.append (.one og) fun j hj1 hj2 => (hj j hj2).2.1 hj1, by simp only; rw [hdu, hdr]; exact os1, by
          intro j hj1
          simp only [dom_append, List.mem_append] at hj1
          rcases hj1 with hj1 | hj1
          · exact (hd' j hj1).2
          · exact (hj j hj1).2.2, by
          simp only [dom_append, List.mem_append, not_or]
          exact ⟨hid1, fun hm => (hj _ hm).1 rfl⟩, hid2.2⟩ (by simp; omega)
        have e : k + ((sumL (rs.take (i + 1)) : Nat) : Int) = k + sumL (rs.take i) + r0.length := by rw [hsum, hr0]; omega
        simp only [e] at go
        refine gK.go ?_
        simp -implicitDefEqProofs
        refine ⟨by omega, Run2.perm (perm_mid _ _ _ _) ?_⟩
        simpa using go
    · obtain rfl : i = rs.length := by omega
      rw [List.take_length, List.take_of_length_le (by omega)] at om
      rw [List.drop_length, List.drop_of_length_le (by omega)] at orr
      cases orr
      refine Run2.of I 1000 ?_
      simp -implicitDefEqProofs
      exact .sl id _ cap ex (marksL_len k rs).symm hex om hid1
abbrev c_laws_heldInt64SS_o0 : List AJ := [.o ⟨(some 4), none, false, .mv (.c (.int .i64 0)), (some [0, 1])⟩]
def c_laws_heldInt64SS_0 : ACode := .region c_laws_heldInt64SS_o0
abbrev c_laws_heldInt64SS_o1 : List AJ := [.o ⟨(some 5), none, false, .mv (.c (.int .i64 0)), (some [0, 1, 5])⟩]
def c_laws_heldInt64SS_1 : ACode := .region c_laws_heldInt64SS_o1
abbrev c_laws_heldInt64SS_o2 : List AJ := [.o ⟨(some 6), none, false, .mv (.t 5), none⟩, .o ⟨(some 7), none, false, .mv (.t 0), none⟩, .o ⟨(some 8), none, false, .len (.t 7), none⟩, .o ⟨(some 9), none, false, .bin .lss (.t 6) (.t 8), (some [0, 1, 5, 9])⟩]
def c_laws_heldInt64SS_2 : ACode := .region c_laws_heldInt64SS_o2
def c_laws_heldInt64SS_3 : ACode := .cond (.t 9) .skip (.exit 0)
def c_laws_heldInt64SS_4 : ACode := .seq c_laws_heldInt64SS_2 c_laws_heldInt64SS_3
abbrev c_laws_heldInt64SS_o3 : List AJ := [.o ⟨(some 12), none, false, .mv (.t 0), none⟩, .o ⟨(some 13), none, false, .mv (.t 5), none⟩, .o ⟨(some 14), none, false, .idxA 1 (.t 12) (.t 13), none⟩, .o ⟨(some 15), none, false, .load 1 false (.t 14), none⟩, .o ⟨(some 16), none, false, .mv (.t 1), none⟩, .o ⟨(some 17), none, false, .call 23 [(.t 15), (.t 16)], none⟩, .o ⟨(some 1), none, false, .mv (.t 17), (some [0, 1, 5])⟩]
def c_laws_heldInt64SS_5 : ACode := .region c_laws_heldInt64SS_o3
abbrev c_laws_heldInt64SS_o4 : List AJ := [.o ⟨(some 18), none, false, .mv (.t 1), none⟩, .o ⟨(some 19), none, false, .bin .lss (.t 18) (.c (.int .i64 0)), (some [0, 1, 5, 19])⟩]
def c_laws_heldInt64SS_6 : ACode := .region c_laws_heldInt64SS_o4
abbrev c_laws_heldInt64SS_o5 : List AJ := [.o ⟨(some 4), none, false, .mv (.c (.int .i64 (-1))), (some [4])⟩]
def c_laws_heldInt64SS_7 : ACode := .region c_laws_heldInt64SS_o5
def c_laws_heldInt64SS_8 : ACode := .seq c_laws_heldInt64SS_7 .ret
def c_laws_heldInt64SS_9 : ACode := .cond (.t 19) c_laws_heldInt64SS_8 .skip
def c_laws_heldInt64SS_10 : ACode := .seq c_laws_heldInt64SS_6 c_laws_heldInt64SS_9
def c_laws_heldInt64SS_11 : ACode := .seq c_laws_heldInt64SS_5 c_laws_heldInt64SS_10
def c_laws_heldInt64SS_12 : ACode := .block 1 c_laws_heldInt64SS_11
abbrev c_laws_heldInt64SS_o6 : List AJ := [.o ⟨(some 10), none, false, .mv (.t 5), none⟩, .o ⟨(some 11), none, true, .bin .add (.t 10) (.c (.int .i64 1)), none⟩, .o ⟨(some 5), none, false, .mv (.t 11), (some [0, 1, 5])⟩]
def c_laws_heldInt64SS_13 : ACode := .region c_laws_heldInt64SS_o6
def c_laws_heldInt64SS_14 : ACode := .seq c_laws_heldInt64SS_12 c_laws_heldInt64SS_13
def c_laws_heldInt64SS_15 : ACode := .seq c_laws_heldInt64SS_4 c_laws_heldInt64SS_14
def c_laws_heldInt64SS_16 : ACode := .loop c_laws_heldInt64SS_15
def c_laws_heldInt64SS_17 : ACode := .block 0 c_laws_heldInt64SS_16
def c_laws_heldInt64SS_18 : ACode := .seq c_laws_heldInt64SS_1 c_laws_heldInt64SS_17
abbrev c_laws_heldInt64SS_o7 : List AJ := [.o ⟨(some 20), none, false, .mv (.t 1), none⟩, .o ⟨(some 4), none, false, .mv (.t 20), (some [4])⟩]
def c_laws_heldInt64SS_19 : ACode := .region c_laws_heldInt64SS_o7
def c_laws_heldInt64SS_20 : ACode := .seq c_laws_heldInt64SS_19 .ret
def c_laws_heldInt64SS_21 : ACode := .seq c_laws_heldInt64SS_18 c_laws_heldInt64SS_20
def c_laws_heldInt64SS_22 : ACode := .seq c_laws_heldInt64SS_0 c_laws_heldInt64SS_21
section
variable (C : Cx) (n : Nat) (sk : List AItem) (e : Env) (h : Heap) (R : AV → Heap → Prop)
@[simp, simp ↓] theorem c_laws_heldInt64SS_0_r : vc2 C (n + 1) [] (.code c_laws_heldInt64SS_0 :: sk) e h R = (vc2 C n c_laws_heldInt64SS_o0 sk e h R) := nr rfl
@[simp, simp ↓] theorem c_laws_heldInt64SS_1_r : vc2 C (n + 1) [] (.code c_laws_heldInt64SS_1 :: sk) e h R = (vc2 C n c_laws_heldInt64SS_o1 sk e h R) := nr rfl
@[simp, simp ↓] theorem c_laws_heldInt64SS_2_r : vc2 C (n + 1) [] (.code c_laws_heldInt64SS_2 :: sk) e h R = (vc2 C n c_laws_heldInt64SS_o2 sk e h R) := nr rfl
@[simp, simp ↓] theorem c_laws_heldInt64SS_3_r : vc2 C (n + 1) [] (.code c_laws_heldInt64SS_3 :: sk) e h R = (condK (ev e (.t 9)) (vc2 C n [] (.code .skip :: sk) e h R) (vc2 C n [] (.code (.exit 0) :: sk) e h R)) := nr rfl
@[simp, simp ↓] theorem c_laws_heldInt64SS_4_r : vc2 C (n + 1) [] (.code c_laws_heldInt64SS_4 :: sk) e h R = (vc2 C n [] (.code c_laws_heldInt64SS_2 :: .code c_laws_heldInt64SS_3 :: sk) e h R) := nr rfl
@[simp, simp ↓] theorem c_laws_heldInt64SS_5_r : vc2 C (n + 1) [] (.code c_laws_heldInt64SS_5 :: sk) e h R = (vc2 C n c_laws_heldInt64SS_o3 sk e h R) := nr rfl
@[simp, simp ↓] theorem c_laws_heldInt64SS_6_r : vc2 C (n + 1) [] (.code c_laws_heldInt64SS_6 :: sk) e h R = (vc2 C n c_laws_heldInt64SS_o4 sk e h R) := nr rfl
@[simp, simp ↓] theorem c_laws_heldInt64SS_7_r : vc2 C (n + 1) [] (.code c_laws_heldInt64SS_7 :: sk) e h R = (vc2 C n c_laws_heldInt64SS_o5 sk e h R) := nr rfl
@[simp, simp ↓] theorem c_laws_heldInt64SS_8_r : vc2 C (n + 1) [] (.code c_laws_heldInt64SS_8 :: sk) e h R = (vc2 C n [] (.code c_laws_heldInt64SS_7 :: .code .ret :: sk) e h R) := nr rfl
@[simp, simp ↓] theorem c_laws_heldInt64SS_9_r : vc2 C (n + 1) [] (.code c_laws_heldInt64SS_9 :: sk) e h R = (condK (ev e (.t 19)) (vc2 C n [] (.code c_laws_heldInt64SS_8 :: sk) e h R) (vc2 C n [] (.code .skip :: sk) e h R)) := nr rfl
@[simp, simp ↓] theorem c_laws_heldInt64SS_10_r : vc2 C (n + 1) [] (.code c_laws_heldInt64SS_10 :: sk) e h R = (vc2 C n [] (.code c_laws_heldInt64SS_6 :: .code c_laws_heldInt64SS_9 :: sk) e h R) := nr rfl
@[simp, simp ↓] theorem c_laws_heldInt64SS_11_r : vc2 C (n + 1) [] (.code c_laws_heldInt64SS_11 :: sk) e h R = (vc2 C n [] (.code c_laws_heldInt64SS_5 :: .code c_laws_heldInt64SS_10 :: sk) e h R) := nr rfl
@[simp, simp ↓] theorem c_laws_heldInt64SS_12_r : vc2 C (n + 1) [] (.code c_laws_heldInt64SS_12 :: sk) e h R = (vc2 C n [] (.code c_laws_heldInt64SS_11 :: .inBlock 1 :: sk) e h R) := nr rfl
@[simp, simp ↓] theorem c_laws_heldInt64SS_13_r : vc2 C (n + 1) [] (.code c_laws_heldInt64SS_13 :: sk) e h R = (vc2 C n c_laws_heldInt64SS_o6 sk e h R) := nr rfl
@[simp, simp ↓] theorem c_laws_heldInt64SS_14_r : vc2 C (n + 1) [] (.code c_laws_heldInt64SS_14 :: sk) e h R = (vc2 C n [] (.code c_laws_heldInt64SS_12 :: .code c_laws_heldInt64SS_13 :: sk) e h R) := nr rfl
@[simp, simp ↓] theorem c_laws_heldInt64SS_15_r : vc2 C (n + 1) [] (.code c_laws_heldInt64SS_15 :: sk) e h R = (vc2 C n [] (.code c_laws_heldInt64SS_4 :: .code c_laws_heldInt64SS_14 :: sk) e h R) := nr rfl
@[simp, simp ↓] theorem c_laws_heldInt64SS_16_r : vc2 C (n + 1) [] (.code c_laws_heldInt64SS_16 :: sk) e h R = (Run2 C (.code c_laws_heldInt64SS_15 :: .inLoop c_laws_heldInt64SS_15 :: sk) e h R) := nr rfl
@[simp, simp ↓] theorem c_laws_heldInt64SS_17_r : vc2 C (n + 1) [] (.code c_laws_heldInt64SS_17 :: sk) e h R = (vc2 C n [] (.code c_laws_heldInt64SS_16 :: .inBlock 0 :: sk) e h R) := nr rfl
@[simp, simp ↓] theorem c_laws_heldInt64SS_18_r : vc2 C (n + 1) [] (.code c_laws_heldInt64SS_18 :: sk) e h R = (vc2 C n [] (.code c_laws_heldInt64SS_1 :: .code c_laws_heldInt64SS_17 :: sk) e h R) := nr rfl
@[simp, simp ↓] theorem c_laws_heldInt64SS_19_r : vc2 C (n + 1) [] (.code c_laws_heldInt64SS_19 :: sk) e h R = (vc2 C n c_laws_heldInt64SS_o7 sk e h R) := nr rfl
@[simp, simp ↓] theorem c_laws_heldInt64SS_20_r : vc2 C (n + 1) [] (.code c_laws_heldInt64SS_20 :: sk) e h R = (vc2 C n [] (.code c_laws_heldInt64SS_19 :: .code .ret :: sk) e h R) := nr rfl
@[simp, simp ↓] theorem c_laws_heldInt64SS_21_r : vc2 C (n + 1) [] (.code c_laws_heldInt64SS_21 :: sk) e h R = (vc2 C n [] (.code c_laws_heldInt64SS_18 :: .code c_laws_heldInt64SS_20 :: sk) e h R) := nr rfl
@[simp, simp ↓] theorem c_laws_heldInt64SS_22_r : vc2 C (n + 1) [] (.code c_laws_heldInt64SS_22 :: sk) e h R = (vc2 C n [] (.code c_laws_heldInt64SS_0 :: .code c_laws_heldInt64SS_21 :: sk) e h R) := nr rfl
end
noncomputable def c_laws_heldInt64SS_C (orc : Orc) : Cx := ⟨Try.prog, [], 47, 21, [.tmp 4], orc⟩
@[simp] theorem c_laws_heldInt64SS_C_P (orc : Orc) : (c_laws_heldInt64SS_C orc).P = Try.prog := nr rfl
@[simp] theorem c_laws_heldInt64SS_C_o (orc : Orc) : (c_laws_heldInt64SS_C orc).orc = orc := nr rfl
@[simp] theorem c_laws_heldInt64SS_C_r (orc : Orc) : (c_laws_heldInt64SS_C orc).res = [.tmp 4] := nr rfl
theorem c_laws_heldInt64SS_of {args : List AV} {h : Heap} {R : AV → Heap → Prop} {k : Nat} (ha : args.length = k) {orc : Orc} (hp : Pure Try.prog orc) (hk : Is (c_laws_heldInt64SS_C orc) Try.f47 → Run2 (c_laws_heldInt64SS_C orc) [.code c_laws_heldInt64SS_22] (argEnv 0 args) h (Post R)) (hle : k ≤ 21 := by simp) : ACalls Try.prog 47 args h R :=
  contract2 [] c_laws_heldInt64SS_22 [.tmp 4] Try.func47 (by decide +kernel) rfl (by kernel_rfl) (by rw [ha]; exact hle) (by kernel_rfl) hp hk
theorem c_laws_heldInt64SS_of0 {args : List AV} {h : Heap} {R : AV → Heap → Prop} {k : Nat} (ha : args.length = k) {orc : Orc} (hp : Pure Try.prog orc) (hk : Is (c_laws_heldInt64SS_C orc) Try.f47 → Run2 (c_laws_heldInt64SS_C orc) [.code c_laws_heldInt64SS_22] (argEnv 0 args) h R) (hle : k ≤ 21 := by simp) : ACalls Try.prog 47 args h R :=
  contract20 [] c_laws_heldInt64SS_22 [.tmp 4] Try.func47 (by decide +kernel) rfl (by kernel_rfl) (by rw [ha]; exact hle) (by kernel_rfl) hp hk
theorem heldInt64SS_s (rs : List (List Int)) (k : Int) (h : Heap) (hk : 0 ≤ k ∧ k ≤ 1073741824) (hl : ssTot rs ≤ 1048576) : ACalls Try.prog 47 [.snap 1 (rs.map il), .int .i64 k] h (fun v h' => v = .int .i64 (if rs = marksL k rs then k + sumL rs else -1) ∧ h' = h) := by
  have hn := (fit_of_tot hl).1
  have htot : sumL rs ≤ 1048576 := by unfold ssTot at hl; omega
  refine c_laws_heldInt64SS_of0 rfl noPure fun I => ?_
  refine Run2.of I 1000 ?_
  simp -implicitDefEqProofs
  refine Run2.loopE (fun (i : Nat) => [(0, .snap 1 (rs.map il)), (1, .int .i64 (k + sumL (rs.take i))), (5, .int .i64 i)]) (fun i => h) (fun i => rs.length - i) (fun i => i ≤ rs.length ∧ rs.take i = marksL k (rs.take i)) 0 (by simp [sumL]) rfl (by simp [marksL]) fun i hi ih => ?_
  by_cases hlt : i < rs.length
  · have hsum := sumL_take rs hlt
    have hle := sumL_le rs (i + 1)
    have hsn : marksL k (rs.take (i + 1)) = marksL k (rs.take i) ++ [marks (k + sumL (rs.take i)) rs[i].length] := by
      rw [List.take_succ_eq_append_getElem hlt, marksL_snoc]
    have hbad : ¬ rs[i] = marks (k + sumL (rs.take i)) rs[i].length → ¬ rs = marksL k rs := by
      intro h1 h2
      have h3 : rs.take (i + 1) = marksL k (rs.take (i + 1)) := by
        conv => lhs; rw [h2]
        exact marksL_take k rs (i + 1)
      rw [hsn, List.take_succ_eq_append_getElem hlt] at h3
      have h4 := (List.append_inj' h3 rfl).2
      exact h1 (by simpa using h4)
    have go := fun (h1 : rs[i] = marks (k + sumL (rs.take i)) rs[i].length) => ih (i + 1) ⟨by omega, by rw [hsn, List.take_succ_eq_append_getElem hlt, ← hi.2, ← h1]⟩ (by omega)
    have e : k + ((sumL (rs.take (i + 1)) : Nat) : Int) = k + sumL (rs.take i) + rs[i].length := by omega
    rw [e] at go
    clear ih
    refine Run2.of I 1000 ?_
    simp -implicitDefEqProofs [hlt]
    refine (heldInt64S_s rs[i] _ h (by omega) (by omega)).mono ?_
    rintro v h' ⟨rfl, rfl⟩
    by_cases h1 : rs[i] = marks (k + sumL (rs.take i)) rs[i].length
    · have go1 := go h1
      rw [if_pos h1]
      refine gK.go ?_
      simp -implicitDefEqProofs [hlt]
      refine ⟨fun h => by omega, fun _ => ⟨by omega, ?_⟩⟩
      simpa using go1
    · have hb := hbad h1
      rw [if_neg h1]
      refine gK.go ?_
      simp -implicitDefEqProofs [hlt, hb]
  · obtain rfl : i = rs.length := by omega
    have h2 := hi.2
    rw [List.take_length] at h2
    refine Run2.of I 1000 ?_
    simp -implicitDefEqProofs
    exact fun h => absurd h2 h
/-! ## In the laws: with other memory about -/
theorem toInt64SS_n (rs : List (List Int)) (h : Heap) (hl : ssTot rs ≤ 1048576) : ACalls Try.prog 50 [.snap 1 (rs.map il)] h (fun v h' => ∃ h1, OwnLL v rs h1 ∧ (∀ i ∈ dom h1, i ∉ dom h) ∧ h' = h1 ++ h) := toInt64SS_o rs h (fit_of_tot hl)
theorem toInt64SS_t (rs : List (List Int)) (h : Heap) (hl : ssTot rs ≤ 1048576) : ACalls Try.prog 50 [.snap 1 (rs.map il)] h (fun v h' => v = .snap 1 (rs.map il) ∧ h' = h) := toInt64SS_c rs h (fit_of_tot hl)
theorem eqL_own {w u : AV} {l m : List (List Int)} {g h : Heap} (o : OwnLL w l g) (hu : IsLL u m) (hs : ∀ p ∈ g, p ∈ h) (hl : ssTot l ≤ 1048576) : ACalls Try.prog 45 [w, u] h (fun r h' => r = .bool (decide (l = m)) ∧ h' = h) := by
  refine ACalls.reads g hs ?_ rfl
  rw [lend_cons, lend_cons, lend_nil', lend1_cold g hu.cold]
  exact ACalls.wk (.cons o.lent.wk (.cons hu.wk .nil)) (eqInt64SS_s l m [] (fit_of_tot hl))
theorem heldL_own {w : AV} {l : List (List Int)} {g h : Heap} (o : OwnLL w l g) (hs : ∀ p ∈ g, p ∈ h) (k : Int) (hk : 0 ≤ k ∧ k ≤ 1073741824) (hl : ssTot l ≤ 1048576) : ACalls Try.prog 47 [w, .int .i64 k] h (fun r h' => r = .int .i64 (if l = marksL k l then k + sumL l else -1) ∧ h' = h) := by
  refine ACalls.reads g hs ?_ rfl
  rw [lend_cons, lend_cons, lend_nil', lend1_cold g (x := .int .i64 k) rfl]
  exact ACalls.wk (.cons o.lent.wk (.refl _)) (heldInt64SS_s l k [] hk hl)
theorem markL_drop {w : AV} {l : List (List Int)} {g h : Heap} (o : OwnLL w l g) (keep : Heap) (hs : ∀ p ∈ g, p ∈ h) (hk : ∀ p ∈ keep, p ∈ h ∧ p.1 ∉ dom g) (nk : (dom h).Nodup → (dom keep).Nodup) (k : Int) (hk1 : 0 ≤ k ∧ k ≤ 1073741824) (hl : ssTot l ≤ 1048576) : ACalls Try.prog 46 [w, .int .i64 k] h (fun r h' => r = .int .i64 (k + sumL l) ∧ h' = keep) :=
  ACalls.marks g keep o.nodup hs hk nk (S := fun h' => OwnLL w (marksL k l) h') (markInt64SS_o o k hk1 hl) ⟨rfl, fun h' ho => ho.own.2⟩
theorem markL_keep {w : AV} {l : List (List Int)} {g h : Heap} (o : OwnLL w l g) (keep : Heap) (hs : ∀ p ∈ g, p ∈ h) (hk : ∀ p ∈ keep, p ∈ h ∧ p.1 ∉ dom g) (nk : (dom h).Nodup → (dom keep).Nodup) (k : Int) (hk1 : 0 ≤ k ∧ k ≤ 1073741824) (hl : ssTot l ≤ 1048576) : ACalls Try.prog 46 [w, .int .i64 k] h (fun r h' => ∃ g', r = .int .i64 (k + sumL l) ∧ OwnLL w (marksL k l) g' ∧ h' = g' ++ keep) :=
  (ACalls.frame g [] keep o.nodup hs (by simp) hk nk (S := fun v h' => v = .int .i64 (k + sumL l) ∧ OwnLL w (marksL k l) h') (by simpa [lend] using markInt64SS_o o k hk1 hl) (fun v h' e => by obtain ⟨rfl, e⟩ := e; exact ⟨rfl, e.own.2⟩)).mono fun v h' ⟨g', ⟨e1, e2⟩, _, e3⟩ => ⟨g', e1, e2, e3⟩
end Go.AG
