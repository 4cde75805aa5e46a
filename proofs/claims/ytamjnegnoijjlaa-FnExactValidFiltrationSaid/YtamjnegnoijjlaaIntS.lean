/- What the set's own helpers of slices of whole numbers do: they copy, compare, mark. No statement is made here. -/
import Derived.Test.YtamjnegnoijjlaaRows
import Derived.Test.YtamjnegnoijjlaaAGInts
namespace Go.AG
open Go.Proofs Go.Proofs.Ytamjnegnoijjlaa
set_option linter.unusedSimpArgs false
set_option linter.unusedVariables false
set_option maxRecDepth 4000
theorem Int_of_shape {x : AV} (h : shV (.int .i64) x) : ∃ n : Int, x = .int .i64 n ∧ in64 n := by
  obtain ⟨h1, n, e, r⟩ := h
  cases x <;> simp [isAgg, Ty.isS, cellsOf] at h1 e
  exact ⟨n, by rw [e.1, e.2], r⟩
theorem Ints_list : ∀ {xs : List AV}, (∀ x ∈ xs, isAgg x = (Ty.int .i64).isS ∧ shC (.int .i64) (cellsOf x)) → ∃ l : List Int, xs = l.map iv ∧ ∀ n ∈ l, in64 n
  | [], _ => ⟨[], rfl, by simp⟩
  | x :: xs, h => by
    obtain ⟨n, rfl, hn⟩ := Int_of_shape (h x (List.mem_cons_self ..))
    obtain ⟨l, rfl, hl⟩ := Ints_list (xs := xs) fun y hy => h y (List.mem_cons_of_mem _ hy)
    exact ⟨n :: l, rfl, by simpa using ⟨hn, hl⟩⟩
def wfI (l : List Int) : Prop := (∀ n ∈ l, in64 n) ∧ l.length ≤ 9223372036854775807
theorem Ints_of_shape {x : AV} (h : shV (.slice (.int .i64)) x) : ∃ l : List Int, x = .snap 1 (l.map iv) ∧ wfI l := by
  obtain ⟨h1, xs, e1, hlen, r3⟩ := h
  have hm : maxLen ≤ 9223372036854775807 := by decide
  obtain ⟨l, rfl, hl⟩ := Ints_list r3
  cases x <;> simp [isAgg, Ty.isS, cellsOf] at h1 e1
  rw [e1.1, e1.2]
  exact ⟨l, rfl, hl, by simp only [List.length_map] at hlen; exact Nat.le_trans hlen hm⟩
abbrev c_laws_toInt64S_o0 : List AJ := [.o ⟨(some 2), none, false, .mv (.c .nilsl), (some [0])⟩]
def c_laws_toInt64S_0 : ACode := .region c_laws_toInt64S_o0
abbrev c_laws_toInt64S_o1 : List AJ := [.o ⟨(some 5), none, false, .mv (.t 0), none⟩, .o ⟨(some 6), none, false, .len (.t 5), none⟩, .o ⟨(some 7), none, false, .mksl 1 8 (.int .i64 0) (.t 6) (.t 6), none⟩, .o ⟨(some 3), none, false, .mv (.t 7), (some [0, 3])⟩]
def c_laws_toInt64S_1 : ACode := .region c_laws_toInt64S_o1
abbrev c_laws_toInt64S_o2 : List AJ := [.o ⟨(some 4), none, false, .mv (.c (.int .i64 0)), (some [0, 3, 4])⟩]
def c_laws_toInt64S_2 : ACode := .region c_laws_toInt64S_o2
abbrev c_laws_toInt64S_o3 : List AJ := [.o ⟨(some 8), none, false, .mv (.t 4), none⟩, .o ⟨(some 9), none, false, .mv (.t 0), none⟩, .o ⟨(some 10), none, false, .len (.t 9), none⟩, .o ⟨(some 11), none, false, .bin .lss (.t 8) (.t 10), (some [0, 3, 4, 11])⟩]
def c_laws_toInt64S_3 : ACode := .region c_laws_toInt64S_o3
def c_laws_toInt64S_4 : ACode := .cond (.t 11) .skip (.exit 0)
def c_laws_toInt64S_5 : ACode := .seq c_laws_toInt64S_3 c_laws_toInt64S_4
abbrev c_laws_toInt64S_o4 : List AJ := [.o ⟨(some 14), none, false, .mv (.t 3), none⟩, .o ⟨(some 15), none, false, .mv (.t 4), none⟩, .o ⟨(some 16), none, false, .mv (.t 0), none⟩, .o ⟨(some 17), none, false, .mv (.t 4), none⟩, .o ⟨(some 18), none, false, .idxA 1 (.t 16) (.t 17), none⟩, .o ⟨(some 19), none, false, .load 1 false (.t 18), none⟩, .o ⟨(some 20), none, false, .idxA 1 (.t 14) (.t 15), none⟩, .o ⟨none, none, false, .store 1 (.t 20) (.t 19), (some [0, 3, 4])⟩]
def c_laws_toInt64S_6 : ACode := .region c_laws_toInt64S_o4
def c_laws_toInt64S_7 : ACode := .block 1 c_laws_toInt64S_6
abbrev c_laws_toInt64S_o5 : List AJ := [.o ⟨(some 12), none, false, .mv (.t 4), none⟩, .o ⟨(some 13), none, true, .bin .add (.t 12) (.c (.int .i64 1)), none⟩, .o ⟨(some 4), none, false, .mv (.t 13), (some [0, 3, 4])⟩]
def c_laws_toInt64S_8 : ACode := .region c_laws_toInt64S_o5
def c_laws_toInt64S_9 : ACode := .seq c_laws_toInt64S_7 c_laws_toInt64S_8
def c_laws_toInt64S_10 : ACode := .seq c_laws_toInt64S_5 c_laws_toInt64S_9
def c_laws_toInt64S_11 : ACode := .loop c_laws_toInt64S_10
def c_laws_toInt64S_12 : ACode := .block 0 c_laws_toInt64S_11
def c_laws_toInt64S_13 : ACode := .seq c_laws_toInt64S_2 c_laws_toInt64S_12
abbrev c_laws_toInt64S_o6 : List AJ := [.o ⟨(some 21), none, false, .mv (.t 3), none⟩, .o ⟨(some 2), none, false, .mv (.t 21), (some [2])⟩]
def c_laws_toInt64S_14 : ACode := .region c_laws_toInt64S_o6
def c_laws_toInt64S_15 : ACode := .seq c_laws_toInt64S_14 .ret
def c_laws_toInt64S_16 : ACode := .seq c_laws_toInt64S_13 c_laws_toInt64S_15
def c_laws_toInt64S_17 : ACode := .seq c_laws_toInt64S_1 c_laws_toInt64S_16
def c_laws_toInt64S_18 : ACode := .seq c_laws_toInt64S_0 c_laws_toInt64S_17
section
variable (C : Cx) (n : Nat) (sk : List AItem) (e : Env) (h : Heap) (R : AV → Heap → Prop)
@[simp, simp ↓] theorem c_laws_toInt64S_0_r : vc2 C (n + 1) [] (.code c_laws_toInt64S_0 :: sk) e h R = (vc2 C n c_laws_toInt64S_o0 sk e h R) := nr rfl
@[simp, simp ↓] theorem c_laws_toInt64S_1_r : vc2 C (n + 1) [] (.code c_laws_toInt64S_1 :: sk) e h R = (vc2 C n c_laws_toInt64S_o1 sk e h R) := nr rfl
@[simp, simp ↓] theorem c_laws_toInt64S_2_r : vc2 C (n + 1) [] (.code c_laws_toInt64S_2 :: sk) e h R = (vc2 C n c_laws_toInt64S_o2 sk e h R) := nr rfl
@[simp, simp ↓] theorem c_laws_toInt64S_3_r : vc2 C (n + 1) [] (.code c_laws_toInt64S_3 :: sk) e h R = (vc2 C n c_laws_toInt64S_o3 sk e h R) := nr rfl
@[simp, simp ↓] theorem c_laws_toInt64S_4_r : vc2 C (n + 1) [] (.code c_laws_toInt64S_4 :: sk) e h R = (condK (ev e (.t 11)) (vc2 C n [] (.code .skip :: sk) e h R) (vc2 C n [] (.code (.exit 0) :: sk) e h R)) := nr rfl
@[simp, simp ↓] theorem c_laws_toInt64S_5_r : vc2 C (n + 1) [] (.code c_laws_toInt64S_5 :: sk) e h R = (vc2 C n [] (.code c_laws_toInt64S_3 :: .code c_laws_toInt64S_4 :: sk) e h R) := nr rfl
@[simp, simp ↓] theorem c_laws_toInt64S_6_r : vc2 C (n + 1) [] (.code c_laws_toInt64S_6 :: sk) e h R = (vc2 C n c_laws_toInt64S_o4 sk e h R) := nr rfl
@[simp, simp ↓] theorem c_laws_toInt64S_7_r : vc2 C (n + 1) [] (.code c_laws_toInt64S_7 :: sk) e h R = (vc2 C n [] (.code c_laws_toInt64S_6 :: .inBlock 1 :: sk) e h R) := nr rfl
@[simp, simp ↓] theorem c_laws_toInt64S_8_r : vc2 C (n + 1) [] (.code c_laws_toInt64S_8 :: sk) e h R = (vc2 C n c_laws_toInt64S_o5 sk e h R) := nr rfl
@[simp, simp ↓] theorem c_laws_toInt64S_9_r : vc2 C (n + 1) [] (.code c_laws_toInt64S_9 :: sk) e h R = (vc2 C n [] (.code c_laws_toInt64S_7 :: .code c_laws_toInt64S_8 :: sk) e h R) := nr rfl
@[simp, simp ↓] theorem c_laws_toInt64S_10_r : vc2 C (n + 1) [] (.code c_laws_toInt64S_10 :: sk) e h R = (vc2 C n [] (.code c_laws_toInt64S_5 :: .code c_laws_toInt64S_9 :: sk) e h R) := nr rfl
@[simp, simp ↓] theorem c_laws_toInt64S_11_r : vc2 C (n + 1) [] (.code c_laws_toInt64S_11 :: sk) e h R = (Run2 C (.code c_laws_toInt64S_10 :: .inLoop c_laws_toInt64S_10 :: sk) e h R) := nr rfl
@[simp, simp ↓] theorem c_laws_toInt64S_12_r : vc2 C (n + 1) [] (.code c_laws_toInt64S_12 :: sk) e h R = (vc2 C n [] (.code c_laws_toInt64S_11 :: .inBlock 0 :: sk) e h R) := nr rfl
@[simp, simp ↓] theorem c_laws_toInt64S_13_r : vc2 C (n + 1) [] (.code c_laws_toInt64S_13 :: sk) e h R = (vc2 C n [] (.code c_laws_toInt64S_2 :: .code c_laws_toInt64S_12 :: sk) e h R) := nr rfl
@[simp, simp ↓] theorem c_laws_toInt64S_14_r : vc2 C (n + 1) [] (.code c_laws_toInt64S_14 :: sk) e h R = (vc2 C n c_laws_toInt64S_o6 sk e h R) := nr rfl
@[simp, simp ↓] theorem c_laws_toInt64S_15_r : vc2 C (n + 1) [] (.code c_laws_toInt64S_15 :: sk) e h R = (vc2 C n [] (.code c_laws_toInt64S_14 :: .code .ret :: sk) e h R) := nr rfl
@[simp, simp ↓] theorem c_laws_toInt64S_16_r : vc2 C (n + 1) [] (.code c_laws_toInt64S_16 :: sk) e h R = (vc2 C n [] (.code c_laws_toInt64S_13 :: .code c_laws_toInt64S_15 :: sk) e h R) := nr rfl
@[simp, simp ↓] theorem c_laws_toInt64S_17_r : vc2 C (n + 1) [] (.code c_laws_toInt64S_17 :: sk) e h R = (vc2 C n [] (.code c_laws_toInt64S_1 :: .code c_laws_toInt64S_16 :: sk) e h R) := nr rfl
@[simp, simp ↓] theorem c_laws_toInt64S_18_r : vc2 C (n + 1) [] (.code c_laws_toInt64S_18 :: sk) e h R = (vc2 C n [] (.code c_laws_toInt64S_0 :: .code c_laws_toInt64S_17 :: sk) e h R) := nr rfl
end
noncomputable def c_laws_toInt64S_C (orc : Orc) : Cx := ⟨Try.prog, [], 37, 22, [.tmp 2], orc⟩
@[simp] theorem c_laws_toInt64S_C_P (orc : Orc) : (c_laws_toInt64S_C orc).P = Try.prog := nr rfl
@[simp] theorem c_laws_toInt64S_C_o (orc : Orc) : (c_laws_toInt64S_C orc).orc = orc := nr rfl
@[simp] theorem c_laws_toInt64S_C_r (orc : Orc) : (c_laws_toInt64S_C orc).res = [.tmp 2] := nr rfl
theorem c_laws_toInt64S_of {args : List AV} {h : Heap} {R : AV → Heap → Prop} {k : Nat} (ha : args.length = k) {orc : Orc} (hp : Pure Try.prog orc) (hk : Is (c_laws_toInt64S_C orc) Try.f37 → Run2 (c_laws_toInt64S_C orc) [.code c_laws_toInt64S_18] (argEnv 0 args) h (Post R)) (hle : k ≤ 22 := by simp) : ACalls Try.prog 37 args h R :=
  contract2 [] c_laws_toInt64S_18 [.tmp 2] Try.func37 (by decide +kernel) rfl (by kernel_rfl) (by rw [ha]; exact hle) (by kernel_rfl) hp hk
theorem c_laws_toInt64S_of0 {args : List AV} {h : Heap} {R : AV → Heap → Prop} {k : Nat} (ha : args.length = k) {orc : Orc} (hp : Pure Try.prog orc) (hk : Is (c_laws_toInt64S_C orc) Try.f37 → Run2 (c_laws_toInt64S_C orc) [.code c_laws_toInt64S_18] (argEnv 0 args) h R) (hle : k ≤ 22 := by simp) : ACalls Try.prog 37 args h R :=
  contract20 [] c_laws_toInt64S_18 [.tmp 2] Try.func37 (by decide +kernel) rfl (by kernel_rfl) (by rw [ha]; exact hle) (by kernel_rfl) hp hk
theorem toInt64S_w (l : List Int) (h : Heap) (hl : l.length ≤ 1048576) : ACalls Try.prog 37 [.snap 1 (l.map iv)] h (fun v h' => ∃ id, id ∉ dom h ∧ v = .sl id 1 0 l.length (some l.length) ∧ h' = (id, ⟨1, l.map iv⟩) :: h) := by
  refine c_laws_toInt64S_of0 rfl noPure fun I => ?_
  refine Run2.of I 1000 ?_
  simp -implicitDefEqProofs
  refine ⟨by omega, fun id hid => ?_⟩
  refine Run2.loop (fun i => [(0, .snap 1 (l.map iv)), (3, .sl id 1 0 l.length (some l.length)), (4, .int .i64 (i : Nat))]) (fun i => (id, ⟨1, (l.map iv).take i ++ List.replicate (l.length - i) (iv 0)⟩) :: h) (fun i => l.length - i) (fun i => i ≤ l.length) 0 (Nat.zero_le _) fun i hi ih => ?_
  by_cases hlt : i < l.length
  · refine Run2.of I 1000 ?_
    simp -implicitDefEqProofs [hlt]
    refine ⟨by omega, by omega, ?_⟩
    have := ih (i + 1) (by omega) (by omega)
    rwa [← set_fill (l.map iv) (iv 0) (i := i) (n := l.length) (by simp) (by simpa using hlt) (x := .int .i64 l[i]) (by simp)] at this
  · obtain rfl : i = l.length := by omega
    refine Run2.of I 1000 ?_
    simp -implicitDefEqProofs
    refine ⟨id, hid, rfl, ?_⟩
    rw [List.take_of_length_le (by simp)]
theorem toInt64S_c (l : List Int) (h : Heap) (hl : l.length ≤ 1048576) : ACalls Try.prog 37 [.snap 1 (l.map iv)] h (fun v h' => v = .snap 1 (l.map iv) ∧ h' = h) := by
  refine ACalls.post ((toInt64S_w l h hl).mono ?_)
  rintro v h' ⟨id, hid, rfl, rfl⟩
  refine .freeze id (by simp; rfl) (.base ?_)
  simp [List.take_of_length_le]
noncomputable def o_toInt64S : List AV → Option (Prop × AV) := tab (fun (x : List Int) => match x with | l => [.snap 1 (l.map iv)]) (fun x => match x with | l => l.length ≤ 1048576) (fun x => match x with | l => .snap 1 (l.map iv))
@[simp] theorem o_toInt64S_e (l : List Int) : o_toInt64S [.snap 1 (l.map iv)] = some (l.length ≤ 1048576, .snap 1 (l.map iv)) := tab_at (enc := fun (x : List Int) => match x with | l => [.snap 1 (l.map iv)]) (fun x y h => by
  simp at h; simp [h]) _ _ l
theorem o_toInt64S_k : Knows Try.prog 37 o_toInt64S := tab_knows fun x hx h => by
  exact toInt64S_c x h hx
abbrev c_laws_eqInt64S_o0 : List AJ := [.o ⟨(some 4), none, false, .mv (.c (.bool false)), (some [0, 1])⟩]
def c_laws_eqInt64S_0 : ACode := .region c_laws_eqInt64S_o0
abbrev c_laws_eqInt64S_o1 : List AJ := [.o ⟨(some 6), none, false, .mv (.t 0), none⟩, .o ⟨(some 7), none, false, .len (.t 6), none⟩, .o ⟨(some 8), none, false, .mv (.t 1), none⟩, .o ⟨(some 9), none, false, .len (.t 8), none⟩, .o ⟨(some 10), none, false, .bin .neq (.t 7) (.t 9), (some [0, 1, 10])⟩]
def c_laws_eqInt64S_1 : ACode := .region c_laws_eqInt64S_o1
abbrev c_laws_eqInt64S_o2 : List AJ := [.o ⟨(some 4), none, false, .mv (.c (.bool false)), (some [4])⟩]
def c_laws_eqInt64S_2 : ACode := .region c_laws_eqInt64S_o2
def c_laws_eqInt64S_3 : ACode := .seq c_laws_eqInt64S_2 .ret
def c_laws_eqInt64S_4 : ACode := .cond (.t 10) c_laws_eqInt64S_3 .skip
def c_laws_eqInt64S_5 : ACode := .seq c_laws_eqInt64S_1 c_laws_eqInt64S_4
abbrev c_laws_eqInt64S_o3 : List AJ := [.o ⟨(some 5), none, false, .mv (.c (.int .i64 0)), (some [0, 1, 5])⟩]
def c_laws_eqInt64S_6 : ACode := .region c_laws_eqInt64S_o3
abbrev c_laws_eqInt64S_o4 : List AJ := [.o ⟨(some 11), none, false, .mv (.t 5), none⟩, .o ⟨(some 12), none, false, .mv (.t 0), none⟩, .o ⟨(some 13), none, false, .len (.t 12), none⟩, .o ⟨(some 14), none, false, .bin .lss (.t 11) (.t 13), (some [0, 1, 5, 14])⟩]
def c_laws_eqInt64S_7 : ACode := .region c_laws_eqInt64S_o4
def c_laws_eqInt64S_8 : ACode := .cond (.t 14) .skip (.exit 0)
def c_laws_eqInt64S_9 : ACode := .seq c_laws_eqInt64S_7 c_laws_eqInt64S_8
abbrev c_laws_eqInt64S_o5 : List AI := [⟨(some 17), none, false, .mv (.t 0), none⟩, ⟨(some 18), none, false, .mv (.t 5), none⟩, ⟨(some 19), none, false, .idxA 1 (.t 17) (.t 18), none⟩, ⟨(some 20), none, false, .load 1 false (.t 19), none⟩, ⟨(some 21), none, false, .mv (.t 1), none⟩, ⟨(some 22), none, false, .mv (.t 5), none⟩, ⟨(some 23), none, false, .idxA 1 (.t 21) (.t 22), none⟩, ⟨(some 24), none, false, .load 1 false (.t 23), none⟩, ⟨(some 25), none, false, .bin .neq (.t 20) (.t 24), (some [0, 1, 5, 25])⟩]
def c_laws_eqInt64S_10 : ACode := .draw c_laws_eqInt64S_o5 [] rfl
abbrev c_laws_eqInt64S_o6 : List AJ := [.o ⟨(some 4), none, false, .mv (.c (.bool false)), (some [4])⟩]
def c_laws_eqInt64S_11 : ACode := .region c_laws_eqInt64S_o6
def c_laws_eqInt64S_12 : ACode := .seq c_laws_eqInt64S_11 .ret
def c_laws_eqInt64S_13 : ACode := .cond (.t 25) c_laws_eqInt64S_12 .skip
def c_laws_eqInt64S_14 : ACode := .seq c_laws_eqInt64S_10 c_laws_eqInt64S_13
def c_laws_eqInt64S_15 : ACode := .block 1 c_laws_eqInt64S_14
abbrev c_laws_eqInt64S_o7 : List AJ := [.o ⟨(some 15), none, false, .mv (.t 5), none⟩, .o ⟨(some 16), none, true, .bin .add (.t 15) (.c (.int .i64 1)), none⟩, .o ⟨(some 5), none, false, .mv (.t 16), (some [0, 1, 5])⟩]
def c_laws_eqInt64S_16 : ACode := .region c_laws_eqInt64S_o7
def c_laws_eqInt64S_17 : ACode := .seq c_laws_eqInt64S_15 c_laws_eqInt64S_16
def c_laws_eqInt64S_18 : ACode := .seq c_laws_eqInt64S_9 c_laws_eqInt64S_17
def c_laws_eqInt64S_19 : ACode := .loop c_laws_eqInt64S_18
def c_laws_eqInt64S_20 : ACode := .block 0 c_laws_eqInt64S_19
def c_laws_eqInt64S_21 : ACode := .seq c_laws_eqInt64S_6 c_laws_eqInt64S_20
abbrev c_laws_eqInt64S_o8 : List AJ := [.o ⟨(some 4), none, false, .mv (.c (.bool true)), (some [4])⟩]
def c_laws_eqInt64S_22 : ACode := .region c_laws_eqInt64S_o8
def c_laws_eqInt64S_23 : ACode := .seq c_laws_eqInt64S_22 .ret
def c_laws_eqInt64S_24 : ACode := .seq c_laws_eqInt64S_21 c_laws_eqInt64S_23
def c_laws_eqInt64S_25 : ACode := .seq c_laws_eqInt64S_5 c_laws_eqInt64S_24
def c_laws_eqInt64S_26 : ACode := .seq c_laws_eqInt64S_0 c_laws_eqInt64S_25
section
variable (C : Cx) (n : Nat) (sk : List AItem) (e : Env) (h : Heap) (R : AV → Heap → Prop)
@[simp, simp ↓] theorem c_laws_eqInt64S_0_r : vc2 C (n + 1) [] (.code c_laws_eqInt64S_0 :: sk) e h R = (vc2 C n c_laws_eqInt64S_o0 sk e h R) := nr rfl
@[simp, simp ↓] theorem c_laws_eqInt64S_1_r : vc2 C (n + 1) [] (.code c_laws_eqInt64S_1 :: sk) e h R = (vc2 C n c_laws_eqInt64S_o1 sk e h R) := nr rfl
@[simp, simp ↓] theorem c_laws_eqInt64S_2_r : vc2 C (n + 1) [] (.code c_laws_eqInt64S_2 :: sk) e h R = (vc2 C n c_laws_eqInt64S_o2 sk e h R) := nr rfl
@[simp, simp ↓] theorem c_laws_eqInt64S_3_r : vc2 C (n + 1) [] (.code c_laws_eqInt64S_3 :: sk) e h R = (vc2 C n [] (.code c_laws_eqInt64S_2 :: .code .ret :: sk) e h R) := nr rfl
@[simp, simp ↓] theorem c_laws_eqInt64S_4_r : vc2 C (n + 1) [] (.code c_laws_eqInt64S_4 :: sk) e h R = (condK (ev e (.t 10)) (vc2 C n [] (.code c_laws_eqInt64S_3 :: sk) e h R) (vc2 C n [] (.code .skip :: sk) e h R)) := nr rfl
@[simp, simp ↓] theorem c_laws_eqInt64S_5_r : vc2 C (n + 1) [] (.code c_laws_eqInt64S_5 :: sk) e h R = (vc2 C n [] (.code c_laws_eqInt64S_1 :: .code c_laws_eqInt64S_4 :: sk) e h R) := nr rfl
@[simp, simp ↓] theorem c_laws_eqInt64S_6_r : vc2 C (n + 1) [] (.code c_laws_eqInt64S_6 :: sk) e h R = (vc2 C n c_laws_eqInt64S_o3 sk e h R) := nr rfl
@[simp, simp ↓] theorem c_laws_eqInt64S_7_r : vc2 C (n + 1) [] (.code c_laws_eqInt64S_7 :: sk) e h R = (vc2 C n c_laws_eqInt64S_o4 sk e h R) := nr rfl
@[simp, simp ↓] theorem c_laws_eqInt64S_8_r : vc2 C (n + 1) [] (.code c_laws_eqInt64S_8 :: sk) e h R = (condK (ev e (.t 14)) (vc2 C n [] (.code .skip :: sk) e h R) (vc2 C n [] (.code (.exit 0) :: sk) e h R)) := nr rfl
@[simp, simp ↓] theorem c_laws_eqInt64S_9_r : vc2 C (n + 1) [] (.code c_laws_eqInt64S_9 :: sk) e h R = (vc2 C n [] (.code c_laws_eqInt64S_7 :: .code c_laws_eqInt64S_8 :: sk) e h R) := nr rfl
@[simp, simp ↓] theorem c_laws_eqInt64S_10_r : vc2 C (n + 1) [] (.code c_laws_eqInt64S_10 :: sk) e h R = (draw2 C h (vK C n [] sk R h) c_laws_eqInt64S_o5 e) := nr rfl
@[simp, simp ↓] theorem c_laws_eqInt64S_11_r : vc2 C (n + 1) [] (.code c_laws_eqInt64S_11 :: sk) e h R = (vc2 C n c_laws_eqInt64S_o6 sk e h R) := nr rfl
@[simp, simp ↓] theorem c_laws_eqInt64S_12_r : vc2 C (n + 1) [] (.code c_laws_eqInt64S_12 :: sk) e h R = (vc2 C n [] (.code c_laws_eqInt64S_11 :: .code .ret :: sk) e h R) := nr rfl
@[simp, simp ↓] theorem c_laws_eqInt64S_13_r : vc2 C (n + 1) [] (.code c_laws_eqInt64S_13 :: sk) e h R = (condK (ev e (.t 25)) (vc2 C n [] (.code c_laws_eqInt64S_12 :: sk) e h R) (vc2 C n [] (.code .skip :: sk) e h R)) := nr rfl
@[simp, simp ↓] theorem c_laws_eqInt64S_14_r : vc2 C (n + 1) [] (.code c_laws_eqInt64S_14 :: sk) e h R = (vc2 C n [] (.code c_laws_eqInt64S_10 :: .code c_laws_eqInt64S_13 :: sk) e h R) := nr rfl
@[simp, simp ↓] theorem c_laws_eqInt64S_15_r : vc2 C (n + 1) [] (.code c_laws_eqInt64S_15 :: sk) e h R = (vc2 C n [] (.code c_laws_eqInt64S_14 :: .inBlock 1 :: sk) e h R) := nr rfl
@[simp, simp ↓] theorem c_laws_eqInt64S_16_r : vc2 C (n + 1) [] (.code c_laws_eqInt64S_16 :: sk) e h R = (vc2 C n c_laws_eqInt64S_o7 sk e h R) := nr rfl
@[simp, simp ↓] theorem c_laws_eqInt64S_17_r : vc2 C (n + 1) [] (.code c_laws_eqInt64S_17 :: sk) e h R = (vc2 C n [] (.code c_laws_eqInt64S_15 :: .code c_laws_eqInt64S_16 :: sk) e h R) := nr rfl
@[simp, simp ↓] theorem c_laws_eqInt64S_18_r : vc2 C (n + 1) [] (.code c_laws_eqInt64S_18 :: sk) e h R = (vc2 C n [] (.code c_laws_eqInt64S_9 :: .code c_laws_eqInt64S_17 :: sk) e h R) := nr rfl
@[simp, simp ↓] theorem c_laws_eqInt64S_19_r : vc2 C (n + 1) [] (.code c_laws_eqInt64S_19 :: sk) e h R = (Run2 C (.code c_laws_eqInt64S_18 :: .inLoop c_laws_eqInt64S_18 :: sk) e h R) := nr rfl
@[simp, simp ↓] theorem c_laws_eqInt64S_20_r : vc2 C (n + 1) [] (.code c_laws_eqInt64S_20 :: sk) e h R = (vc2 C n [] (.code c_laws_eqInt64S_19 :: .inBlock 0 :: sk) e h R) := nr rfl
@[simp, simp ↓] theorem c_laws_eqInt64S_21_r : vc2 C (n + 1) [] (.code c_laws_eqInt64S_21 :: sk) e h R = (vc2 C n [] (.code c_laws_eqInt64S_6 :: .code c_laws_eqInt64S_20 :: sk) e h R) := nr rfl
@[simp, simp ↓] theorem c_laws_eqInt64S_22_r : vc2 C (n + 1) [] (.code c_laws_eqInt64S_22 :: sk) e h R = (vc2 C n c_laws_eqInt64S_o8 sk e h R) := nr rfl
@[simp, simp ↓] theorem c_laws_eqInt64S_23_r : vc2 C (n + 1) [] (.code c_laws_eqInt64S_23 :: sk) e h R = (vc2 C n [] (.code c_laws_eqInt64S_22 :: .code .ret :: sk) e h R) := nr rfl
@[simp, simp ↓] theorem c_laws_eqInt64S_24_r : vc2 C (n + 1) [] (.code c_laws_eqInt64S_24 :: sk) e h R = (vc2 C n [] (.code c_laws_eqInt64S_21 :: .code c_laws_eqInt64S_23 :: sk) e h R) := nr rfl
@[simp, simp ↓] theorem c_laws_eqInt64S_25_r : vc2 C (n + 1) [] (.code c_laws_eqInt64S_25 :: sk) e h R = (vc2 C n [] (.code c_laws_eqInt64S_5 :: .code c_laws_eqInt64S_24 :: sk) e h R) := nr rfl
@[simp, simp ↓] theorem c_laws_eqInt64S_26_r : vc2 C (n + 1) [] (.code c_laws_eqInt64S_26 :: sk) e h R = (vc2 C n [] (.code c_laws_eqInt64S_0 :: .code c_laws_eqInt64S_25 :: sk) e h R) := nr rfl
end
noncomputable def c_laws_eqInt64S_C (orc : Orc) : Cx := ⟨Try.prog, [], 20, 26, [.tmp 4], orc⟩
@[simp] theorem c_laws_eqInt64S_C_P (orc : Orc) : (c_laws_eqInt64S_C orc).P = Try.prog := nr rfl
@[simp] theorem c_laws_eqInt64S_C_o (orc : Orc) : (c_laws_eqInt64S_C orc).orc = orc := nr rfl
@[simp] theorem c_laws_eqInt64S_C_r (orc : Orc) : (c_laws_eqInt64S_C orc).res = [.tmp 4] := nr rfl
theorem c_laws_eqInt64S_of {args : List AV} {h : Heap} {R : AV → Heap → Prop} {k : Nat} (ha : args.length = k) {orc : Orc} (hp : Pure Try.prog orc) (hk : Is (c_laws_eqInt64S_C orc) Try.f20 → Run2 (c_laws_eqInt64S_C orc) [.code c_laws_eqInt64S_26] (argEnv 0 args) h (Post R)) (hle : k ≤ 26 := by simp) : ACalls Try.prog 20 args h R :=
  contract2 [] c_laws_eqInt64S_26 [.tmp 4] Try.func20 (by decide +kernel) rfl (by kernel_rfl) (by rw [ha]; exact hle) (by kernel_rfl) hp hk
theorem c_laws_eqInt64S_of0 {args : List AV} {h : Heap} {R : AV → Heap → Prop} {k : Nat} (ha : args.length = k) {orc : Orc} (hp : Pure Try.prog orc) (hk : Is (c_laws_eqInt64S_C orc) Try.f20 → Run2 (c_laws_eqInt64S_C orc) [.code c_laws_eqInt64S_26] (argEnv 0 args) h R) (hle : k ≤ 26 := by simp) : ACalls Try.prog 20 args h R :=
  contract20 [] c_laws_eqInt64S_26 [.tmp 4] Try.func20 (by decide +kernel) rfl (by kernel_rfl) (by rw [ha]; exact hle) (by kernel_rfl) hp hk
theorem eqInt64S_s (l m : List Int) (h : Heap) (hl : l.length ≤ 1048576) : ACalls Try.prog 20 [.snap 1 (l.map iv), .snap 1 (m.map iv)] h (fun v h' => v = .bool (decide (l = m)) ∧ h' = h) := by
  refine c_laws_eqInt64S_of0 rfl noPure fun I => ?_
  refine Run2.of I 1000 ?_
  simp -implicitDefEqProofs
  refine ⟨by rintro hne rfl; exact hne rfl, fun hlen => ?_⟩
  refine Run2.loop (fun i => [(0, .snap 1 (l.map iv)), (1, .snap 1 (m.map iv)), (5, .int .i64 (i : Nat))]) (fun i => h) (fun i => l.length - i) (fun i => i ≤ l.length ∧ l.take i = m.take i) 0 (by simp) fun i hi ih => ?_
  by_cases hlt : i < l.length
  · have hlt' : i < m.length := by omega
    refine Run2.of I 1000 ?_
    simp -implicitDefEqProofs [hlt, hlt']
    constructor
    · rintro hne rfl
      exact hne rfl
    · intro he
      refine ⟨by omega, ?_⟩
      have := ih (i + 1) ⟨by omega, by rw [List.take_succ_eq_append_getElem hlt, List.take_succ_eq_append_getElem hlt', hi.2, he]⟩ (by omega)
      simpa using this
  · refine Run2.of I 1000 ?_
    simp -implicitDefEqProofs [hlt]
    have : i = l.length := by omega
    have h2 := hi.2
    rw [List.take_of_length_le (by omega), List.take_of_length_le (by omega)] at h2
    exact h2
theorem eqInt64S_c (u v : AV) (h : Heap) (hu : isInts u) (hv : isInts v) (hl : (intsOf u).length ≤ 1048576) : ACalls Try.prog 20 [u, v] h (fun r h' => r = .bool (decide (intsOf u = intsOf v)) ∧ h' = h) :=
  (eqInt64S_s _ _ h hl).wk (.cons (.ints hu) (.cons (.ints hv) .nil))
noncomputable def o_eqInt64S : List AV → Option (Prop × AV) := tab (fun (x : AV × AV) => match x with | (u, v) => [u, v]) (fun x => match x with | (u, v) => ((isInts u ∧ isInts v) ∧ (intsOf u).length ≤ 1048576)) (fun x => match x with | (u, v) => .bool (decide (intsOf u = intsOf v)))
@[simp] theorem o_eqInt64S_e (u : AV) (v : AV) : o_eqInt64S [u, v] = some (((isInts u ∧ isInts v) ∧ (intsOf u).length ≤ 1048576), .bool (decide (intsOf u = intsOf v))) := tab_at (enc := fun (x : AV × AV) => match x with | (u, v) => [u, v]) (fun x y h => by
  obtain ⟨u1, v1⟩ := x; obtain ⟨u2, v2⟩ := y; simp at h; simp [h]) _ _ (u, v)
theorem o_eqInt64S_k : Knows Try.prog 20 o_eqInt64S := tab_knows fun x hx h => by
  obtain ⟨u, v⟩ := x; exact eqInt64S_c u v h hx.1.1 hx.1.2 hx.2
/-- The marks that follow on k. -/
def marks (k : Int) (n : Nat) : List Int := (List.range n).map fun i => k + (i : Nat)
@[simp] theorem marks_length (k : Int) (n : Nat) : (marks k n).length = n := by simp [marks]
theorem marks_succ (k : Int) (n : Nat) : marks k (n + 1) = marks k n ++ [k + n] := by simp [marks, List.range_succ]
theorem marks_get (k : Int) (n i : Nat) (h : i < (marks k n).length) : (marks k n)[i] = k + i := by simp [marks]
theorem mark_step (l : List Int) (ex : List AV) (k : Int) (i : Nat) (hi : i < l.length) : ((marks k i).map iv ++ (l.drop i).map iv ++ ex).set i (.int .i64 (k + i)) = (marks k (i + 1)).map iv ++ (l.drop (i + 1)).map iv ++ ex := by
  rw [List.drop_eq_getElem_cons hi, marks_succ]
  simp only [List.map_cons, List.map_append, List.map_nil, List.append_assoc, List.cons_append, List.nil_append]
  rw [List.set_append_right _ _ (by simp)]
  simp
abbrev c_laws_markInt64S_o0 : List AJ := [.o ⟨(some 4), none, false, .mv (.c (.int .i64 0)), (some [0, 1])⟩]
def c_laws_markInt64S_0 : ACode := .region c_laws_markInt64S_o0
abbrev c_laws_markInt64S_o1 : List AJ := [.o ⟨(some 5), none, false, .mv (.c (.int .i64 0)), (some [0, 1, 5])⟩]
def c_laws_markInt64S_1 : ACode := .region c_laws_markInt64S_o1
abbrev c_laws_markInt64S_o2 : List AJ := [.o ⟨(some 6), none, false, .mv (.t 5), none⟩, .o ⟨(some 7), none, false, .mv (.t 0), none⟩, .o ⟨(some 8), none, false, .len (.t 7), none⟩, .o ⟨(some 9), none, false, .bin .lss (.t 6) (.t 8), (some [0, 1, 5, 9])⟩]
def c_laws_markInt64S_2 : ACode := .region c_laws_markInt64S_o2
def c_laws_markInt64S_3 : ACode := .cond (.t 9) .skip (.exit 0)
def c_laws_markInt64S_4 : ACode := .seq c_laws_markInt64S_2 c_laws_markInt64S_3
abbrev c_laws_markInt64S_o3 : List AJ := [.o ⟨(some 12), none, false, .mv (.t 0), none⟩, .o ⟨(some 13), none, false, .mv (.t 5), none⟩, .o ⟨(some 14), none, false, .mv (.t 1), none⟩, .o ⟨(some 15), none, false, .idxA 1 (.t 12) (.t 13), none⟩, .o ⟨none, none, false, .store 1 (.t 15) (.t 14), (some [0, 1, 5])⟩]
def c_laws_markInt64S_5 : ACode := .region c_laws_markInt64S_o3
abbrev c_laws_markInt64S_o4 : List AJ := [.o ⟨(some 16), none, false, .mv (.t 1), none⟩, .o ⟨(some 17), none, true, .bin .add (.t 16) (.c (.int .i64 1)), none⟩, .o ⟨(some 1), none, false, .mv (.t 17), (some [0, 1, 5])⟩]
def c_laws_markInt64S_6 : ACode := .region c_laws_markInt64S_o4
def c_laws_markInt64S_7 : ACode := .seq c_laws_markInt64S_5 c_laws_markInt64S_6
def c_laws_markInt64S_8 : ACode := .block 1 c_laws_markInt64S_7
abbrev c_laws_markInt64S_o5 : List AJ := [.o ⟨(some 10), none, false, .mv (.t 5), none⟩, .o ⟨(some 11), none, true, .bin .add (.t 10) (.c (.int .i64 1)), none⟩, .o ⟨(some 5), none, false, .mv (.t 11), (some [0, 1, 5])⟩]
def c_laws_markInt64S_9 : ACode := .region c_laws_markInt64S_o5
def c_laws_markInt64S_10 : ACode := .seq c_laws_markInt64S_8 c_laws_markInt64S_9
def c_laws_markInt64S_11 : ACode := .seq c_laws_markInt64S_4 c_laws_markInt64S_10
def c_laws_markInt64S_12 : ACode := .loop c_laws_markInt64S_11
def c_laws_markInt64S_13 : ACode := .block 0 c_laws_markInt64S_12
def c_laws_markInt64S_14 : ACode := .seq c_laws_markInt64S_1 c_laws_markInt64S_13
abbrev c_laws_markInt64S_o6 : List AJ := [.o ⟨(some 18), none, false, .mv (.t 1), none⟩, .o ⟨(some 4), none, false, .mv (.t 18), (some [4])⟩]
def c_laws_markInt64S_15 : ACode := .region c_laws_markInt64S_o6
def c_laws_markInt64S_16 : ACode := .seq c_laws_markInt64S_15 .ret
def c_laws_markInt64S_17 : ACode := .seq c_laws_markInt64S_14 c_laws_markInt64S_16
def c_laws_markInt64S_18 : ACode := .seq c_laws_markInt64S_0 c_laws_markInt64S_17
section
variable (C : Cx) (n : Nat) (sk : List AItem) (e : Env) (h : Heap) (R : AV → Heap → Prop)
@[simp, simp ↓] theorem c_laws_markInt64S_0_r : vc2 C (n + 1) [] (.code c_laws_markInt64S_0 :: sk) e h R = (vc2 C n c_laws_markInt64S_o0 sk e h R) := nr rfl
@[simp, simp ↓] theorem c_laws_markInt64S_1_r : vc2 C (n + 1) [] (.code c_laws_markInt64S_1 :: sk) e h R = (vc2 C n c_laws_markInt64S_o1 sk e h R) := nr rfl
@[simp, simp ↓] theorem c_laws_markInt64S_2_r : vc2 C (n + 1) [] (.code c_laws_markInt64S_2 :: sk) e h R = (vc2 C n c_laws_markInt64S_o2 sk e h R) := nr rfl
@[simp, simp ↓] theorem c_laws_markInt64S_3_r : vc2 C (n + 1) [] (.code c_laws_markInt64S_3 :: sk) e h R = (condK (ev e (.t 9)) (vc2 C n [] (.code .skip :: sk) e h R) (vc2 C n [] (.code (.exit 0) :: sk) e h R)) := nr rfl
@[simp, simp ↓] theorem c_laws_markInt64S_4_r : vc2 C (n + 1) [] (.code c_laws_markInt64S_4 :: sk) e h R = (vc2 C n [] (.code c_laws_markInt64S_2 :: .code c_laws_markInt64S_3 :: sk) e h R) := nr rfl
@[simp, simp ↓] theorem c_laws_markInt64S_5_r : vc2 C (n + 1) [] (.code c_laws_markInt64S_5 :: sk) e h R = (vc2 C n c_laws_markInt64S_o3 sk e h R) := nr rfl
@[simp, simp ↓] theorem c_laws_markInt64S_6_r : vc2 C (n + 1) [] (.code c_laws_markInt64S_6 :: sk) e h R = (vc2 C n c_laws_markInt64S_o4 sk e h R) := nr rfl
@[simp, simp ↓] theorem c_laws_markInt64S_7_r : vc2 C (n + 1) [] (.code c_laws_markInt64S_7 :: sk) e h R = (vc2 C n [] (.code c_laws_markInt64S_5 :: .code c_laws_markInt64S_6 :: sk) e h R) := nr rfl
@[simp, simp ↓] theorem c_laws_markInt64S_8_r : vc2 C (n + 1) [] (.code c_laws_markInt64S_8 :: sk) e h R = (vc2 C n [] (.code c_laws_markInt64S_7 :: .inBlock 1 :: sk) e h R) := nr rfl
@[simp, simp ↓] theorem c_laws_markInt64S_9_r : vc2 C (n + 1) [] (.code c_laws_markInt64S_9 :: sk) e h R = (vc2 C n c_laws_markInt64S_o5 sk e h R) := nr rfl
@[simp, simp ↓] theorem c_laws_markInt64S_10_r : vc2 C (n + 1) [] (.code c_laws_markInt64S_10 :: sk) e h R = (vc2 C n [] (.code c_laws_markInt64S_8 :: .code c_laws_markInt64S_9 :: sk) e h R) := nr rfl
@[simp, simp ↓] theorem c_laws_markInt64S_11_r : vc2 C (n + 1) [] (.code c_laws_markInt64S_11 :: sk) e h R = (vc2 C n [] (.code c_laws_markInt64S_4 :: .code c_laws_markInt64S_10 :: sk) e h R) := nr rfl
@[simp, simp ↓] theorem c_laws_markInt64S_12_r : vc2 C (n + 1) [] (.code c_laws_markInt64S_12 :: sk) e h R = (Run2 C (.code c_laws_markInt64S_11 :: .inLoop c_laws_markInt64S_11 :: sk) e h R) := nr rfl
@[simp, simp ↓] theorem c_laws_markInt64S_13_r : vc2 C (n + 1) [] (.code c_laws_markInt64S_13 :: sk) e h R = (vc2 C n [] (.code c_laws_markInt64S_12 :: .inBlock 0 :: sk) e h R) := nr rfl
@[simp, simp ↓] theorem c_laws_markInt64S_14_r : vc2 C (n + 1) [] (.code c_laws_markInt64S_14 :: sk) e h R = (vc2 C n [] (.code c_laws_markInt64S_1 :: .code c_laws_markInt64S_13 :: sk) e h R) := nr rfl
@[simp, simp ↓] theorem c_laws_markInt64S_15_r : vc2 C (n + 1) [] (.code c_laws_markInt64S_15 :: sk) e h R = (vc2 C n c_laws_markInt64S_o6 sk e h R) := nr rfl
@[simp, simp ↓] theorem c_laws_markInt64S_16_r : vc2 C (n + 1) [] (.code c_laws_markInt64S_16 :: sk) e h R = (vc2 C n [] (.code c_laws_markInt64S_15 :: .code .ret :: sk) e h R) := nr rfl
@[simp, simp ↓] theorem c_laws_markInt64S_17_r : vc2 C (n + 1) [] (.code c_laws_markInt64S_17 :: sk) e h R = (vc2 C n [] (.code c_laws_markInt64S_14 :: .code c_laws_markInt64S_16 :: sk) e h R) := nr rfl
@[simp, simp ↓] theorem c_laws_markInt64S_18_r : vc2 C (n + 1) [] (.code c_laws_markInt64S_18 :: sk) e h R = (vc2 C n [] (.code c_laws_markInt64S_0 :: .code c_laws_markInt64S_17 :: sk) e h R) := nr rfl
end
noncomputable def c_laws_markInt64S_C (orc : Orc) : Cx := ⟨Try.prog, [], 22, 19, [.tmp 4], orc⟩
@[simp] theorem c_laws_markInt64S_C_P (orc : Orc) : (c_laws_markInt64S_C orc).P = Try.prog := nr rfl
@[simp] theorem c_laws_markInt64S_C_o (orc : Orc) : (c_laws_markInt64S_C orc).orc = orc := nr rfl
@[simp] theorem c_laws_markInt64S_C_r (orc : Orc) : (c_laws_markInt64S_C orc).res = [.tmp 4] := nr rfl
theorem c_laws_markInt64S_of {args : List AV} {h : Heap} {R : AV → Heap → Prop} {k : Nat} (ha : args.length = k) {orc : Orc} (hp : Pure Try.prog orc) (hk : Is (c_laws_markInt64S_C orc) Try.f22 → Run2 (c_laws_markInt64S_C orc) [.code c_laws_markInt64S_18] (argEnv 0 args) h (Post R)) (hle : k ≤ 19 := by simp) : ACalls Try.prog 22 args h R :=
  contract2 [] c_laws_markInt64S_18 [.tmp 4] Try.func22 (by decide +kernel) rfl (by kernel_rfl) (by rw [ha]; exact hle) (by kernel_rfl) hp hk
theorem c_laws_markInt64S_of0 {args : List AV} {h : Heap} {R : AV → Heap → Prop} {k : Nat} (ha : args.length = k) {orc : Orc} (hp : Pure Try.prog orc) (hk : Is (c_laws_markInt64S_C orc) Try.f22 → Run2 (c_laws_markInt64S_C orc) [.code c_laws_markInt64S_18] (argEnv 0 args) h R) (hle : k ≤ 19 := by simp) : ACalls Try.prog 22 args h R :=
  contract20 [] c_laws_markInt64S_18 [.tmp 4] Try.func22 (by decide +kernel) rfl (by kernel_rfl) (by rw [ha]; exact hle) (by kernel_rfl) hp hk
theorem markInt64S_s (id : Nat) (l : List Int) (ex : List AV) (cap : Option Nat) (k : Int) (hk : 0 ≤ k ∧ k ≤ 1099511627776) (hl : l.length ≤ 1073741824) : ACalls Try.prog 22 [.sl id 1 0 l.length cap, .int .i64 k] [(id, ⟨1, l.map iv ++ ex⟩)] (fun v h' => v = .int .i64 (k + l.length) ∧ h' = [(id, ⟨1, (marks k l.length).map iv ++ ex⟩)]) := by
  refine c_laws_markInt64S_of0 rfl noPure fun I => ?_
  refine Run2.of I 1000 ?_
  simp -implicitDefEqProofs
  obtain ⟨f, hf0, hfn, hlen, hset⟩ : ∃ f : Nat → List AV, l.map iv ++ ex = f 0 ∧ (marks k l.length).map iv ++ ex = f l.length ∧ (∀ i, i ≤ l.length → (f i).length = l.length + ex.length) ∧ ∀ i, i < l.length → (f i).set i (.int .i64 (k + i)) = f (i + 1) :=
    ⟨fun i => (marks k i).map iv ++ (l.drop i).map iv ++ ex, by simp [marks], by simp, fun i hi => by simp; omega, fun i hi => mark_step l ex k i hi⟩
  rw [hf0, hfn]
  refine Run2.loopE (fun i => [(0, .sl id 1 0 l.length cap), (1, .int .i64 (k + (i : Nat))), (5, .int .i64 (i : Nat))]) (fun i => [(id, ⟨1, f i⟩)]) (fun i => l.length - i) (fun i => i ≤ l.length) 0 (by simp) rfl (Nat.zero_le _) fun i hi ih => ?_
  by_cases hlt : i < l.length
  · have go := ih (i + 1) (by omega) (by omega)
    have hl2 := hlen i hi
    rw [← hset i hlt] at go
    clear ih
    refine Run2.of I 1000 ?_
    simp -implicitDefEqProofs [hlt, hl2]
    refine ⟨by omega, by omega, by omega, ?_⟩
    simpa [Int.add_assoc] using go
  · obtain rfl : i = l.length := by omega
    refine Run2.of I 1000 ?_
    simp -implicitDefEqProofs
abbrev c_laws_heldInt64S_o0 : List AJ := [.o ⟨(some 4), none, false, .mv (.c (.int .i64 0)), (some [0, 1])⟩]
def c_laws_heldInt64S_0 : ACode := .region c_laws_heldInt64S_o0
abbrev c_laws_heldInt64S_o1 : List AJ := [.o ⟨(some 5), none, false, .mv (.c (.int .i64 0)), (some [0, 1, 5])⟩]
def c_laws_heldInt64S_1 : ACode := .region c_laws_heldInt64S_o1
abbrev c_laws_heldInt64S_o2 : List AJ := [.o ⟨(some 6), none, false, .mv (.t 5), none⟩, .o ⟨(some 7), none, false, .mv (.t 0), none⟩, .o ⟨(some 8), none, false, .len (.t 7), none⟩, .o ⟨(some 9), none, false, .bin .lss (.t 6) (.t 8), (some [0, 1, 5, 9])⟩]
def c_laws_heldInt64S_2 : ACode := .region c_laws_heldInt64S_o2
def c_laws_heldInt64S_3 : ACode := .cond (.t 9) .skip (.exit 0)
def c_laws_heldInt64S_4 : ACode := .seq c_laws_heldInt64S_2 c_laws_heldInt64S_3
abbrev c_laws_heldInt64S_o3 : List AJ := [.o ⟨(some 12), none, false, .mv (.t 0), none⟩, .o ⟨(some 13), none, false, .mv (.t 5), none⟩, .o ⟨(some 14), none, false, .idxA 1 (.t 12) (.t 13), none⟩, .o ⟨(some 15), none, false, .load 1 false (.t 14), none⟩, .o ⟨(some 16), none, false, .mv (.t 1), none⟩, .o ⟨(some 17), none, false, .bin .neq (.t 15) (.t 16), (some [0, 1, 5, 17])⟩]
def c_laws_heldInt64S_5 : ACode := .region c_laws_heldInt64S_o3
abbrev c_laws_heldInt64S_o4 : List AJ := [.o ⟨(some 4), none, false, .mv (.c (.int .i64 (-1))), (some [4])⟩]
def c_laws_heldInt64S_6 : ACode := .region c_laws_heldInt64S_o4
def c_laws_heldInt64S_7 : ACode := .seq c_laws_heldInt64S_6 .ret
def c_laws_heldInt64S_8 : ACode := .cond (.t 17) c_laws_heldInt64S_7 .skip
def c_laws_heldInt64S_9 : ACode := .seq c_laws_heldInt64S_5 c_laws_heldInt64S_8
abbrev c_laws_heldInt64S_o5 : List AJ := [.o ⟨(some 18), none, false, .mv (.t 1), none⟩, .o ⟨(some 19), none, true, .bin .add (.t 18) (.c (.int .i64 1)), none⟩, .o ⟨(some 1), none, false, .mv (.t 19), (some [0, 1, 5])⟩]
def c_laws_heldInt64S_10 : ACode := .region c_laws_heldInt64S_o5
def c_laws_heldInt64S_11 : ACode := .seq c_laws_heldInt64S_9 c_laws_heldInt64S_10
def c_laws_heldInt64S_12 : ACode := .block 1 c_laws_heldInt64S_11
abbrev c_laws_heldInt64S_o6 : List AJ := [.o ⟨(some 10), none, false, .mv (.t 5), none⟩, .o ⟨(some 11), none, true, .bin .add (.t 10) (.c (.int .i64 1)), none⟩, .o ⟨(some 5), none, false, .mv (.t 11), (some [0, 1, 5])⟩]
def c_laws_heldInt64S_13 : ACode := .region c_laws_heldInt64S_o6
def c_laws_heldInt64S_14 : ACode := .seq c_laws_heldInt64S_12 c_laws_heldInt64S_13
def c_laws_heldInt64S_15 : ACode := .seq c_laws_heldInt64S_4 c_laws_heldInt64S_14
def c_laws_heldInt64S_16 : ACode := .loop c_laws_heldInt64S_15
def c_laws_heldInt64S_17 : ACode := .block 0 c_laws_heldInt64S_16
def c_laws_heldInt64S_18 : ACode := .seq c_laws_heldInt64S_1 c_laws_heldInt64S_17
abbrev c_laws_heldInt64S_o7 : List AJ := [.o ⟨(some 20), none, false, .mv (.t 1), none⟩, .o ⟨(some 4), none, false, .mv (.t 20), (some [4])⟩]
def c_laws_heldInt64S_19 : ACode := .region c_laws_heldInt64S_o7
def c_laws_heldInt64S_20 : ACode := .seq c_laws_heldInt64S_19 .ret
def c_laws_heldInt64S_21 : ACode := .seq c_laws_heldInt64S_18 c_laws_heldInt64S_20
def c_laws_heldInt64S_22 : ACode := .seq c_laws_heldInt64S_0 c_laws_heldInt64S_21
section
variable (C : Cx) (n : Nat) (sk : List AItem) (e : Env) (h : Heap) (R : AV → Heap → Prop)
@[simp, simp ↓] theorem c_laws_heldInt64S_0_r : vc2 C (n + 1) [] (.code c_laws_heldInt64S_0 :: sk) e h R = (vc2 C n c_laws_heldInt64S_o0 sk e h R) := nr rfl
@[simp, simp ↓] theorem c_laws_heldInt64S_1_r : vc2 C (n + 1) [] (.code c_laws_heldInt64S_1 :: sk) e h R = (vc2 C n c_laws_heldInt64S_o1 sk e h R) := nr rfl
@[simp, simp ↓] theorem c_laws_heldInt64S_2_r : vc2 C (n + 1) [] (.code c_laws_heldInt64S_2 :: sk) e h R = (vc2 C n c_laws_heldInt64S_o2 sk e h R) := nr rfl
@[simp, simp ↓] theorem c_laws_heldInt64S_3_r : vc2 C (n + 1) [] (.code c_laws_heldInt64S_3 :: sk) e h R = (condK (ev e (.t 9)) (vc2 C n [] (.code .skip :: sk) e h R) (vc2 C n [] (.code (.exit 0) :: sk) e h R)) := nr rfl
@[simp, simp ↓] theorem c_laws_heldInt64S_4_r : vc2 C (n + 1) [] (.code c_laws_heldInt64S_4 :: sk) e h R = (vc2 C n [] (.code c_laws_heldInt64S_2 :: .code c_laws_heldInt64S_3 :: sk) e h R) := nr rfl
@[simp, simp ↓] theorem c_laws_heldInt64S_5_r : vc2 C (n + 1) [] (.code c_laws_heldInt64S_5 :: sk) e h R = (vc2 C n c_laws_heldInt64S_o3 sk e h R) := nr rfl
@[simp, simp ↓] theorem c_laws_heldInt64S_6_r : vc2 C (n + 1) [] (.code c_laws_heldInt64S_6 :: sk) e h R = (vc2 C n c_laws_heldInt64S_o4 sk e h R) := nr rfl
@[simp, simp ↓] theorem c_laws_heldInt64S_7_r : vc2 C (n + 1) [] (.code c_laws_heldInt64S_7 :: sk) e h R = (vc2 C n [] (.code c_laws_heldInt64S_6 :: .code .ret :: sk) e h R) := nr rfl
@[simp, simp ↓] theorem c_laws_heldInt64S_8_r : vc2 C (n + 1) [] (.code c_laws_heldInt64S_8 :: sk) e h R = (condK (ev e (.t 17)) (vc2 C n [] (.code c_laws_heldInt64S_7 :: sk) e h R) (vc2 C n [] (.code .skip :: sk) e h R)) := nr rfl
@[simp, simp ↓] theorem c_laws_heldInt64S_9_r : vc2 C (n + 1) [] (.code c_laws_heldInt64S_9 :: sk) e h R = (vc2 C n [] (.code c_laws_heldInt64S_5 :: .code c_laws_heldInt64S_8 :: sk) e h R) := nr rfl
@[simp, simp ↓] theorem c_laws_heldInt64S_10_r : vc2 C (n + 1) [] (.code c_laws_heldInt64S_10 :: sk) e h R = (vc2 C n c_laws_heldInt64S_o5 sk e h R) := nr rfl
@[simp, simp ↓] theorem c_laws_heldInt64S_11_r : vc2 C (n + 1) [] (.code c_laws_heldInt64S_11 :: sk) e h R = (vc2 C n [] (.code c_laws_heldInt64S_9 :: .code c_laws_heldInt64S_10 :: sk) e h R) := nr rfl
@[simp, simp ↓] theorem c_laws_heldInt64S_12_r : vc2 C (n + 1) [] (.code c_laws_heldInt64S_12 :: sk) e h R = (vc2 C n [] (.code c_laws_heldInt64S_11 :: .inBlock 1 :: sk) e h R) := nr rfl
@[simp, simp ↓] theorem c_laws_heldInt64S_13_r : vc2 C (n + 1) [] (.code c_laws_heldInt64S_13 :: sk) e h R = (vc2 C n c_laws_heldInt64S_o6 sk e h R) := nr rfl
@[simp, simp ↓] theorem c_laws_heldInt64S_14_r : vc2 C (n + 1) [] (.code c_laws_heldInt64S_14 :: sk) e h R = (vc2 C n [] (.code c_laws_heldInt64S_12 :: .code c_laws_heldInt64S_13 :: sk) e h R) := nr rfl
@[simp, simp ↓] theorem c_laws_heldInt64S_15_r : vc2 C (n + 1) [] (.code c_laws_heldInt64S_15 :: sk) e h R = (vc2 C n [] (.code c_laws_heldInt64S_4 :: .code c_laws_heldInt64S_14 :: sk) e h R) := nr rfl
@[simp, simp ↓] theorem c_laws_heldInt64S_16_r : vc2 C (n + 1) [] (.code c_laws_heldInt64S_16 :: sk) e h R = (Run2 C (.code c_laws_heldInt64S_15 :: .inLoop c_laws_heldInt64S_15 :: sk) e h R) := nr rfl
@[simp, simp ↓] theorem c_laws_heldInt64S_17_r : vc2 C (n + 1) [] (.code c_laws_heldInt64S_17 :: sk) e h R = (vc2 C n [] (.code c_laws_heldInt64S_16 :: .inBlock 0 :: sk) e h R) := nr rfl
@[simp, simp ↓] theorem c_laws_heldInt64S_18_r : vc2 C (n + 1) [] (.code c_laws_heldInt64S_18 :: sk) e h R = (vc2 C n [] (.code c_laws_heldInt64S_1 :: .code c_laws_heldInt64S_17 :: sk) e h R) := nr rfl
@[simp, simp ↓] theorem c_laws_heldInt64S_19_r : vc2 C (n + 1) [] (.code c_laws_heldInt64S_19 :: sk) e h R = (vc2 C n c_laws_heldInt64S_o7 sk e h R) := nr rfl
@[simp, simp ↓] theorem c_laws_heldInt64S_20_r : vc2 C (n + 1) [] (.code c_laws_heldInt64S_20 :: sk) e h R = (vc2 C n [] (.code c_laws_heldInt64S_19 :: .code .ret :: sk) e h R) := nr rfl
@[simp, simp ↓] theorem c_laws_heldInt64S_21_r : vc2 C (n + 1) [] (.code c_laws_heldInt64S_21 :: sk) e h R = (vc2 C n [] (.code c_laws_heldInt64S_18 :: .code c_laws_heldInt64S_20 :: sk) e h R) := nr rfl
@[simp, simp ↓] theorem c_laws_heldInt64S_22_r : vc2 C (n + 1) [] (.code c_laws_heldInt64S_22 :: sk) e h R = (vc2 C n [] (.code c_laws_heldInt64S_0 :: .code c_laws_heldInt64S_21 :: sk) e h R) := nr rfl
end
noncomputable def c_laws_heldInt64S_C (orc : Orc) : Cx := ⟨Try.prog, [], 23, 21, [.tmp 4], orc⟩
@[simp] theorem c_laws_heldInt64S_C_P (orc : Orc) : (c_laws_heldInt64S_C orc).P = Try.prog := nr rfl
@[simp] theorem c_laws_heldInt64S_C_o (orc : Orc) : (c_laws_heldInt64S_C orc).orc = orc := nr rfl
@[simp] theorem c_laws_heldInt64S_C_r (orc : Orc) : (c_laws_heldInt64S_C orc).res = [.tmp 4] := nr rfl
theorem c_laws_heldInt64S_of {args : List AV} {h : Heap} {R : AV → Heap → Prop} {k : Nat} (ha : args.length = k) {orc : Orc} (hp : Pure Try.prog orc) (hk : Is (c_laws_heldInt64S_C orc) Try.f23 → Run2 (c_laws_heldInt64S_C orc) [.code c_laws_heldInt64S_22] (argEnv 0 args) h (Post R)) (hle : k ≤ 21 := by simp) : ACalls Try.prog 23 args h R :=
  contract2 [] c_laws_heldInt64S_22 [.tmp 4] Try.func23 (by decide +kernel) rfl (by kernel_rfl) (by rw [ha]; exact hle) (by kernel_rfl) hp hk
theorem c_laws_heldInt64S_of0 {args : List AV} {h : Heap} {R : AV → Heap → Prop} {k : Nat} (ha : args.length = k) {orc : Orc} (hp : Pure Try.prog orc) (hk : Is (c_laws_heldInt64S_C orc) Try.f23 → Run2 (c_laws_heldInt64S_C orc) [.code c_laws_heldInt64S_22] (argEnv 0 args) h R) (hle : k ≤ 21 := by simp) : ACalls Try.prog 23 args h R :=
  contract20 [] c_laws_heldInt64S_22 [.tmp 4] Try.func23 (by decide +kernel) rfl (by kernel_rfl) (by rw [ha]; exact hle) (by kernel_rfl) hp hk
theorem heldInt64S_s (l : List Int) (k : Int) (h : Heap) (hk : 0 ≤ k ∧ k ≤ 1099511627776) (hl : l.length ≤ 1073741824) : ACalls Try.prog 23 [.snap 1 (l.map iv), .int .i64 k] h (fun v h' => v = .int .i64 (if l = marks k l.length then k + l.length else -1) ∧ h' = h) := by
  refine c_laws_heldInt64S_of0 rfl noPure fun I => ?_
  refine Run2.of I 1000 ?_
  simp -implicitDefEqProofs
  refine Run2.loopE (fun i => [(0, .snap 1 (l.map iv)), (1, .int .i64 (k + (i : Nat))), (5, .int .i64 (i : Nat))]) (fun i => h) (fun i => l.length - i) (fun i => i ≤ l.length ∧ l.take i = marks k i) 0 (by simp) rfl (by simp [marks]) fun i hi ih => ?_
  by_cases hlt : i < l.length
  · have hbad : ¬ l[i] = k + i → ¬ l = marks k l.length := fun h1 h2 => h1 (by
      have : l[i] = (marks k l.length)[i]'(by simpa using hlt) := by congr 1
      rw [this, marks_get])
    have go := fun (h1 : l[i] = k + i) => ih (i + 1) ⟨by omega, by rw [List.take_succ_eq_append_getElem hlt, marks_succ, hi.2, h1]⟩ (by omega)
    clear ih
    refine Run2.of I 1000 ?_
    simp -implicitDefEqProofs [hlt]
    refine ⟨fun h1 h2 => absurd h2 (hbad h1), fun h1 => ⟨by omega, by omega, ?_⟩⟩
    simpa [Int.add_assoc] using go h1
  · obtain rfl : i = l.length := by omega
    have h2 := hi.2
    rw [List.take_length] at h2
    refine Run2.of I 1000 ?_
    simp -implicitDefEqProofs
    exact fun h => absurd h2 h
theorem heldInt64S_c (u : AV) (k : Int) (h : Heap) (hu : isInts u) (hk : 0 ≤ k ∧ k ≤ 1099511627776) (hl : (intsOf u).length ≤ 1073741824) : ACalls Try.prog 23 [u, .int .i64 k] h (fun v h' => v = .int .i64 (if intsOf u = marks k (intsOf u).length then k + (intsOf u).length else -1) ∧ h' = h) :=
  (heldInt64S_s _ k h hk hl).wk (.cons (.ints hu) (.refl _))
/-! ## With memory of their own -/
theorem toInt64S_o (l : List Int) (h : Heap) (hl : l.length ≤ 1048576) : ACalls Try.prog 37 [.snap 1 (l.map iv)] h (fun v h' => ∃ h1, OwnL iv 1 v l h1 ∧ (∀ i ∈ dom h1, i ∉ dom h) ∧ h' = h1 ++ h) :=
  (toInt64S_w l h hl).mono fun v h' ⟨id, h1, h2, h3⟩ => ⟨[(id, ⟨1, l.map iv ++ []⟩)], h2 ▸ .sl id _ [] rfl, by simpa [dom] using h1, by simpa using h3⟩
theorem markInt64S_o {v : AV} {l : List Int} {hs : Heap} (ho : OwnL iv 1 v l hs) (k : Int) (hk : 0 ≤ k ∧ k ≤ 1099511627776) (hl : l.length ≤ 1073741824) : ACalls Try.prog 22 [v, .int .i64 k] hs (fun r h' => r = .int .i64 (k + l.length) ∧ OwnL iv 1 v (marks k l.length) h') := by
  have nil : ∀ u, (u = AV.nilsl ∨ u = .emp) → ACalls Try.prog 22 [u, .int .i64 k] [] (fun r h' => r = .int .i64 (k + ([] : List Int).length) ∧ OwnL iv 1 u (marks k 0) h') := by
    rintro u (rfl | rfl)
    all_goals
      refine c_laws_markInt64S_of0 rfl noPure fun I => ?_
      refine Run2.of I 1000 ?_
      simp -implicitDefEqProofs
      refine Run2.loopE (fun (_ : Unit) => [(0, _), (1, .int .i64 k), (5, .int .i64 0)]) (fun _ => []) (fun _ => 0) (fun _ => True) () (by rfl) rfl trivial fun _ _ _ => ?_
      refine Run2.of I 1000 ?_
      simp -implicitDefEqProofs
      constructor
  cases ho with
  | nil => exact nil _ (.inl rfl)
  | emp => exact nil _ (.inr rfl)
  | sl id cap ex hex =>
    refine (markInt64S_s id l ex cap k hk hl).mono ?_
    rintro r h' ⟨rfl, rfl⟩
    refine ⟨rfl, ?_⟩
    have := OwnL.sl (enc := iv) (sz := 1) (l := marks k l.length) id cap ex hex
    rwa [marks_length] at this
/-! ## In the laws: with other memory about -/
theorem eqI_own {w u : AV} {l m : List Int} {g h : Heap} (o : OwnL iv 1 w l g) (hu : IsL iv 1 u m) (hs : ∀ p ∈ g, p ∈ h) (hl : l.length ≤ 1048576) : ACalls Try.prog 20 [w, u] h (fun r h' => r = .bool (decide (l = m)) ∧ h' = h) := by
  refine ACalls.reads g hs ?_ rfl
  rw [lend_cons, lend_cons, lend_nil', lend1_cold g (hu.cold cold_iv1)]
  exact ACalls.wk (.cons o.lent.wk (.cons hu.wk .nil)) (eqInt64S_s l m [] hl)
theorem heldI_own {w : AV} {l : List Int} {g h : Heap} (o : OwnL iv 1 w l g) (hs : ∀ p ∈ g, p ∈ h) (k : Int) (hk : 0 ≤ k ∧ k ≤ 1099511627776) (hl : l.length ≤ 1073741824) : ACalls Try.prog 23 [w, .int .i64 k] h (fun r h' => r = .int .i64 (if l = marks k l.length then k + l.length else -1) ∧ h' = h) := by
  refine ACalls.reads g hs ?_ rfl
  rw [lend_cons, lend_cons, lend_nil', lend1_cold g (x := .int .i64 k) rfl]
  exact ACalls.wk (.cons o.lent.wk (.refl _)) (heldInt64S_s l k [] hk hl)
theorem markI_drop {w : AV} {l : List Int} {g h : Heap} (o : OwnL iv 1 w l g) (keep : Heap) (hs : ∀ p ∈ g, p ∈ h) (hk : ∀ p ∈ keep, p ∈ h ∧ p.1 ∉ dom g) (nk : (dom h).Nodup → (dom keep).Nodup) (k : Int) (hk1 : 0 ≤ k ∧ k ≤ 1099511627776) (hl : l.length ≤ 1073741824) : ACalls Try.prog 22 [w, .int .i64 k] h (fun r h' => r = .int .i64 (k + l.length) ∧ h' = keep) :=
  ACalls.marks g keep o.nodup hs hk nk (S := fun h' => OwnL iv 1 w (marks k l.length) h') (markInt64S_o o k hk1 hl) ⟨rfl, fun h' ho => (ho.own own_iv1).2⟩
theorem markI_keep {w : AV} {l : List Int} {g h : Heap} (o : OwnL iv 1 w l g) (keep : Heap) (hs : ∀ p ∈ g, p ∈ h) (hk : ∀ p ∈ keep, p ∈ h ∧ p.1 ∉ dom g) (nk : (dom h).Nodup → (dom keep).Nodup) (k : Int) (hk1 : 0 ≤ k ∧ k ≤ 1099511627776) (hl : l.length ≤ 1073741824) : ACalls Try.prog 22 [w, .int .i64 k] h (fun r h' => ∃ g', r = .int .i64 (k + l.length) ∧ OwnL iv 1 w (marks k l.length) g' ∧ h' = g' ++ keep) :=
  (ACalls.frame g [] keep o.nodup hs (by simp) hk nk (S := fun v h' => v = .int .i64 (k + l.length) ∧ OwnL iv 1 w (marks k l.length) h') (by simpa [lend] using markInt64S_o o k hk1 hl) (fun v h' e => by obtain ⟨rfl, e⟩ := e; exact ⟨rfl, (e.own own_iv1).2⟩)).mono fun v h' ⟨g', ⟨e1, e2⟩, _, e3⟩ => ⟨g', e1, e2, e3⟩
end Go.AG
