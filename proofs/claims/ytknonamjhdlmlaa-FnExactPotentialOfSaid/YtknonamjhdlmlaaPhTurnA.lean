/- Graphs whose differences are turned: what the program's and the reference's functions give. No statement is made here. -/
import Derived.Test.YtknonamjhdlmlaaPhC
namespace Go.AG
open Go.Proofs Go.Proofs.Ytknonamjhdlmlaa
set_option linter.unusedSimpArgs false
set_option linter.unusedVariables false
set_option maxRecDepth 4000
def Ph.turn1 (x : Ph) (p : List Int) (t : T) : T := ⟨t.f, t.t, (t.s + p.getD t.t.toNat 0 - p.getD t.f.toNat 0) % x.m⟩
abbrev c_impl_reduce_o0 : List AJ := [.o ⟨(some 4), none, false, .mv (.c (.int .i64 0)), (some [0, 1])⟩]
def c_impl_reduce_0 : ACode := .region c_impl_reduce_o0
abbrev c_impl_reduce_o1 : List AJ := [.o ⟨(some 5), none, false, .mv (.t 0), none⟩, .o ⟨(some 6), none, false, .mv (.t 1), none⟩, .o ⟨(some 7), none, false, .bin .rem (.t 5) (.t 6), none⟩, .o ⟨(some 8), none, false, .mv (.t 1), none⟩, .o ⟨(some 9), none, true, .bin .add (.t 7) (.t 8), none⟩, .o ⟨(some 10), none, false, .mv (.t 1), none⟩, .o ⟨(some 11), none, false, .bin .rem (.t 9) (.t 10), none⟩, .o ⟨(some 4), none, false, .mv (.t 11), (some [4])⟩]
def c_impl_reduce_1 : ACode := .region c_impl_reduce_o1
def c_impl_reduce_2 : ACode := .seq c_impl_reduce_1 .ret
def c_impl_reduce_3 : ACode := .seq c_impl_reduce_0 c_impl_reduce_2
section
variable (C : Cx) (n : Nat) (sk : List AItem) (e : Env) (h : Heap) (R : AV → Heap → Prop)
@[simp, simp ↓] theorem c_impl_reduce_0_r : vc2 C (n + 1) [] (.code c_impl_reduce_0 :: sk) e h R = (vc2 C n c_impl_reduce_o0 sk e h R) := nr rfl
@[simp, simp ↓] theorem c_impl_reduce_1_r : vc2 C (n + 1) [] (.code c_impl_reduce_1 :: sk) e h R = (vc2 C n c_impl_reduce_o1 sk e h R) := nr rfl
@[simp, simp ↓] theorem c_impl_reduce_2_r : vc2 C (n + 1) [] (.code c_impl_reduce_2 :: sk) e h R = (vc2 C n [] (.code c_impl_reduce_1 :: .code .ret :: sk) e h R) := nr rfl
@[simp, simp ↓] theorem c_impl_reduce_3_r : vc2 C (n + 1) [] (.code c_impl_reduce_3 :: sk) e h R = (vc2 C n [] (.code c_impl_reduce_0 :: .code c_impl_reduce_2 :: sk) e h R) := nr rfl
end
noncomputable def c_impl_reduce_C (orc : Orc) : Cx := ⟨Try.prog, [], 65, 12, [.tmp 4], orc⟩
@[simp] theorem c_impl_reduce_C_P (orc : Orc) : (c_impl_reduce_C orc).P = Try.prog := nr rfl
@[simp] theorem c_impl_reduce_C_o (orc : Orc) : (c_impl_reduce_C orc).orc = orc := nr rfl
@[simp] theorem c_impl_reduce_C_r (orc : Orc) : (c_impl_reduce_C orc).res = [.tmp 4] := nr rfl
theorem c_impl_reduce_of {args : List AV} {h : Heap} {R : AV → Heap → Prop} {k : Nat} (ha : args.length = k) {orc : Orc} (hp : Pure Try.prog orc) (hk : Is (c_impl_reduce_C orc) Try.f65 → Run2 (c_impl_reduce_C orc) [.code c_impl_reduce_3] (argEnv 0 args) h (Post R)) (hle : k ≤ 12 := by simp) : ACalls Try.prog 65 args h R :=
  contract2 [] c_impl_reduce_3 [.tmp 4] Try.func65 (by decide +kernel) rfl (by kernel_rfl) (by rw [ha]; exact hle) (by kernel_rfl) hp hk
theorem c_impl_reduce_of0 {args : List AV} {h : Heap} {R : AV → Heap → Prop} {k : Nat} (ha : args.length = k) {orc : Orc} (hp : Pure Try.prog orc) (hk : Is (c_impl_reduce_C orc) Try.f65 → Run2 (c_impl_reduce_C orc) [.code c_impl_reduce_3] (argEnv 0 args) h R) (hle : k ≤ 12 := by simp) : ACalls Try.prog 65 args h R :=
  contract20 [] c_impl_reduce_3 [.tmp 4] Try.func65 (by decide +kernel) rfl (by kernel_rfl) (by rw [ha]; exact hle) (by kernel_rfl) hp hk
theorem reduce_c (n p : Int) (h : Heap) (hp : 0 < p ∧ p ≤ 1073741824) : ACalls Try.prog 65 [.int .i64 n, .int .i64 p] h (fun v h' => v = .int .i64 (n % p) ∧ h' = h) := by
  have h1 := Int.tmod_lt_of_pos n hp.1
  have h2 := Int.tmod_lt_of_pos (-n) hp.1
  rw [Int.neg_tmod] at h2
  refine c_impl_reduce_of0 rfl noPure fun I => ?_
  refine Run2.of I 1000 ?_
  simp -implicitDefEqProofs [mod_go hp.1]
  omega
noncomputable def o_reduce : List AV → Option (Prop × AV) := tab (fun (x : Int × Int) => match x with | (n, p) => [.int .i64 n, .int .i64 p]) (fun x => match x with | (n, p) => (0 < p ∧ p ≤ 1073741824)) (fun x => match x with | (n, p) => .int .i64 (n % p))
@[simp] theorem o_reduce_e (n : Int) (p : Int) : o_reduce [.int .i64 n, .int .i64 p] = some ((0 < p ∧ p ≤ 1073741824), .int .i64 (n % p)) := tab_at (enc := fun (x : Int × Int) => match x with | (n, p) => [.int .i64 n, .int .i64 p]) (fun x y h => by
  obtain ⟨n1, p1⟩ := x; obtain ⟨n2, p2⟩ := y; simp at h; simp [h]) _ _ (n, p)
theorem o_reduce_k : Knows Try.prog 65 o_reduce := tab_knows fun x hx h => by
  obtain ⟨n, p⟩ := x; exact reduce_c n p h hx
noncomputable def orcT : List (Nat × (List AV → Option (Prop × AV))) := (65, o_reduce) :: orcF
theorem orcT_p : Pure Try.prog (lk orcT) := (lk_pure o_reduce_k orcF_p)
@[simp] theorem orcT_l (g : FuncId) (l : List AV) : lk orcT g l = if g = 65 then o_reduce l else lk orcF g l := nr rfl
abbrev c_impl_TurnPhases_o0 : List AJ := [.o ⟨(some 2), none, false, .box false 3 (.t 0), none⟩, .o ⟨(some 4), none, false, .alloc true 3 (.agg [(.int .i64 0), (.int .i64 0), .nilsl]), none⟩, .o ⟨(some 5), none, false, .mv (.c (.int .i64 0)), (some [1, 2, 4])⟩]
def c_impl_TurnPhases_0 : ACode := .region c_impl_TurnPhases_o0
abbrev c_impl_TurnPhases_o1 : List AJ := [.o ⟨(some 9), none, false, .load 3 true (.t 2), none⟩, .o ⟨(some 10), none, false, .call 20 [(.t 9)], none⟩, .o ⟨(some 11), none, false, .un .not (.t 10), (some [1, 2, 4, 11])⟩]
def c_impl_TurnPhases_1 : ACode := .region c_impl_TurnPhases_o1
abbrev c_impl_TurnPhases_o2 : List AJ := [.o ⟨(some 12), none, false, .build [(.int .i64 0), (.int .i64 0), .nilsl] [], none⟩, .o ⟨none, none, false, .store 3 (.t 4) (.t 12), none⟩, .o ⟨(some 5), none, false, .mv (.c (.int .i64 1)), (some [4, 5])⟩]
def c_impl_TurnPhases_2 : ACode := .region c_impl_TurnPhases_o2
def c_impl_TurnPhases_3 : ACode := .seq c_impl_TurnPhases_2 .ret
def c_impl_TurnPhases_4 : ACode := .cond (.t 11) c_impl_TurnPhases_3 .skip
def c_impl_TurnPhases_5 : ACode := .seq c_impl_TurnPhases_1 c_impl_TurnPhases_4
abbrev c_impl_TurnPhases_o3 : List AJ := [.o ⟨(some 13), none, false, .load 3 true (.t 2), none⟩, .o ⟨(some 14), none, false, .mv (.t 1), none⟩, .o ⟨(some 15), none, false, .call 60 [(.t 13), (.t 14)], none⟩, .o ⟨(some 16), none, false, .un .not (.t 15), (some [1, 2, 4, 16])⟩]
def c_impl_TurnPhases_6 : ACode := .region c_impl_TurnPhases_o3
abbrev c_impl_TurnPhases_o4 : List AJ := [.o ⟨(some 17), none, false, .build [(.int .i64 0), (.int .i64 0), .nilsl] [], none⟩, .o ⟨none, none, false, .store 3 (.t 4) (.t 17), none⟩, .o ⟨(some 5), none, false, .mv (.c (.int .i64 7)), (some [4, 5])⟩]
def c_impl_TurnPhases_7 : ACode := .region c_impl_TurnPhases_o4
def c_impl_TurnPhases_8 : ACode := .seq c_impl_TurnPhases_7 .ret
def c_impl_TurnPhases_9 : ACode := .cond (.t 16) c_impl_TurnPhases_8 .skip
def c_impl_TurnPhases_10 : ACode := .seq c_impl_TurnPhases_6 c_impl_TurnPhases_9
abbrev c_impl_TurnPhases_o5 : List AJ := [.o ⟨(some 18), none, false, .fieldA 0 (.t 2), none⟩, .o ⟨(some 19), none, false, .load 1 false (.t 18), none⟩, .o ⟨(some 20), none, false, .fieldA 1 (.t 2), none⟩, .o ⟨(some 21), none, false, .load 1 false (.t 20), none⟩, .o ⟨(some 22), none, false, .build [(.int .i64 0), (.int .i64 0), .nilsl] [(0, 1, (.t 19)), (1, 1, (.t 21))], none⟩, .o ⟨(some 6), none, false, .alloc true 3 (.agg [(.int .i64 0), (.int .i64 0), .nilsl]), none⟩, .o ⟨none, none, false, .store 3 (.t 6) (.t 22), (some [1, 2, 4, 6])⟩]
def c_impl_TurnPhases_11 : ACode := .region c_impl_TurnPhases_o5
abbrev c_impl_TurnPhases_o6 : List AJ := [.o ⟨(some 23), none, false, .fieldA 2 (.t 2), none⟩, .o ⟨(some 24), none, false, .load 1 false (.t 23), none⟩, .o ⟨(some 25), none, false, .len (.t 24), none⟩, .o ⟨(some 26), none, false, .mv (.c (.int .i64 0)), (some [1, 2, 4, 6, 24, 25, 26])⟩]
def c_impl_TurnPhases_12 : ACode := .region c_impl_TurnPhases_o6
abbrev c_impl_TurnPhases_o7 : List AJ := [.o ⟨(some 27), none, false, .bin .lss (.t 26) (.t 25), (some [1, 2, 4, 6, 24, 25, 26, 27])⟩]
def c_impl_TurnPhases_13 : ACode := .region c_impl_TurnPhases_o7
def c_impl_TurnPhases_14 : ACode := .cond (.t 27) .skip (.exit 0)
abbrev c_impl_TurnPhases_o8 : List AJ := [.o ⟨(some 28), none, false, .idxA 3 (.t 24) (.t 26), none⟩, .o ⟨(some 29), none, false, .load 3 true (.t 28), none⟩, .o ⟨(some 8), none, false, .alloc true 3 (.agg [(.int .i64 0), (.int .i64 0), (.int .i64 0)]), none⟩, .o ⟨none, none, false, .store 3 (.t 8) (.t 29), (some [1, 2, 4, 6, 8, 24, 25, 26])⟩]
def c_impl_TurnPhases_15 : ACode := .region c_impl_TurnPhases_o8
abbrev c_impl_TurnPhases_o9 : List AI := [⟨(some 30), none, false, .fieldA 2 (.t 8), none⟩, ⟨(some 31), none, false, .load 1 false (.t 30), none⟩, ⟨(some 32), none, false, .mv (.t 1), none⟩, ⟨(some 33), none, false, .fieldA 1 (.t 8), none⟩, ⟨(some 34), none, false, .load 1 false (.t 33), none⟩, ⟨(some 35), none, false, .idxA 1 (.t 32) (.t 34), none⟩, ⟨(some 36), none, false, .load 1 false (.t 35), none⟩, ⟨(some 37), none, true, .bin .add (.t 31) (.t 36), none⟩, ⟨(some 38), none, false, .mv (.t 1), none⟩, ⟨(some 39), none, false, .fieldA 0 (.t 8), none⟩, ⟨(some 40), none, false, .load 1 false (.t 39), none⟩, ⟨(some 41), none, false, .idxA 1 (.t 38) (.t 40), none⟩, ⟨(some 42), none, false, .load 1 false (.t 41), none⟩, ⟨(some 43), none, true, .bin .sub (.t 37) (.t 42), (some [1, 2, 4, 6, 8, 24, 25, 26, 43])⟩, ⟨(some 44), none, false, .fieldA 1 (.t 2), none⟩, ⟨(some 45), none, false, .load 1 false (.t 44), none⟩, ⟨(some 46), none, false, .call 65 [(.t 43), (.t 45)], none⟩, ⟨(some 47), none, false, .fieldA 2 (.t 8), (some [1, 2, 4, 6, 8, 24, 25, 26, 46, 47])⟩]
abbrev c_impl_TurnPhases_o10 : List AJ := [.o ⟨none, none, false, .store 1 (.t 47) (.t 46), (some [1, 2, 4, 6, 8, 24, 25, 26])⟩]
def c_impl_TurnPhases_16 : ACode := .draw c_impl_TurnPhases_o9 c_impl_TurnPhases_o10 rfl
abbrev c_impl_TurnPhases_o11 : List AJ := [.o ⟨(some 48), none, false, .fieldA 2 (.t 6), none⟩, .o ⟨(some 49), none, false, .load 1 false (.t 48), none⟩, .o ⟨(some 50), none, false, .load 3 true (.t 8), none⟩, .o ⟨(some 51), none, false, .bsl false 3 [(.t 50)], none⟩, .o ⟨(some 52), none, false, .append 3 24 (.t 49) (.t 51), none⟩, .o ⟨(some 53), none, false, .fieldA 2 (.t 6), none⟩, .o ⟨none, none, false, .store 1 (.t 53) (.t 52), (some [1, 2, 4, 6, 24, 25, 26])⟩]
def c_impl_TurnPhases_17 : ACode := .region c_impl_TurnPhases_o11
def c_impl_TurnPhases_18 : ACode := .seq c_impl_TurnPhases_16 c_impl_TurnPhases_17
def c_impl_TurnPhases_19 : ACode := .seq c_impl_TurnPhases_15 c_impl_TurnPhases_18
def c_impl_TurnPhases_20 : ACode := .block 1 c_impl_TurnPhases_19
abbrev c_impl_TurnPhases_o12 : List AJ := [.o ⟨(some 54), none, true, .bin .add (.t 26) (.c (.int .i64 1)), none⟩, .o ⟨(some 26), none, false, .mv (.t 54), (some [1, 2, 4, 6, 24, 25, 26])⟩]
def c_impl_TurnPhases_21 : ACode := .region c_impl_TurnPhases_o12
def c_impl_TurnPhases_22 : ACode := .seq c_impl_TurnPhases_20 c_impl_TurnPhases_21
def c_impl_TurnPhases_23 : ACode := .seq c_impl_TurnPhases_14 c_impl_TurnPhases_22
def c_impl_TurnPhases_24 : ACode := .seq c_impl_TurnPhases_13 c_impl_TurnPhases_23
def c_impl_TurnPhases_25 : ACode := .loop c_impl_TurnPhases_24
def c_impl_TurnPhases_26 : ACode := .block 0 c_impl_TurnPhases_25
def c_impl_TurnPhases_27 : ACode := .seq c_impl_TurnPhases_12 c_impl_TurnPhases_26
abbrev c_impl_TurnPhases_o13 : List AJ := [.o ⟨(some 55), none, false, .load 3 true (.t 6), none⟩, .o ⟨none, none, false, .store 3 (.t 4) (.t 55), none⟩, .o ⟨(some 5), none, false, .mv (.c (.int .i64 0)), (some [4, 5])⟩]
def c_impl_TurnPhases_28 : ACode := .region c_impl_TurnPhases_o13
def c_impl_TurnPhases_29 : ACode := .seq c_impl_TurnPhases_28 .ret
def c_impl_TurnPhases_30 : ACode := .seq c_impl_TurnPhases_27 c_impl_TurnPhases_29
def c_impl_TurnPhases_31 : ACode := .seq c_impl_TurnPhases_11 c_impl_TurnPhases_30
def c_impl_TurnPhases_32 : ACode := .seq c_impl_TurnPhases_10 c_impl_TurnPhases_31
def c_impl_TurnPhases_33 : ACode := .seq c_impl_TurnPhases_5 c_impl_TurnPhases_32
def c_impl_TurnPhases_34 : ACode := .seq c_impl_TurnPhases_0 c_impl_TurnPhases_33
section
variable (C : Cx) (n : Nat) (sk : List AItem) (e : Env) (h : Heap) (R : AV → Heap → Prop)
@[simp, simp ↓] theorem c_impl_TurnPhases_0_r : vc2 C (n + 1) [] (.code c_impl_TurnPhases_0 :: sk) e h R = (vc2 C n c_impl_TurnPhases_o0 sk e h R) := nr rfl
@[simp, simp ↓] theorem c_impl_TurnPhases_1_r : vc2 C (n + 1) [] (.code c_impl_TurnPhases_1 :: sk) e h R = (vc2 C n c_impl_TurnPhases_o1 sk e h R) := nr rfl
@[simp, simp ↓] theorem c_impl_TurnPhases_2_r : vc2 C (n + 1) [] (.code c_impl_TurnPhases_2 :: sk) e h R = (vc2 C n c_impl_TurnPhases_o2 sk e h R) := nr rfl
@[simp, simp ↓] theorem c_impl_TurnPhases_3_r : vc2 C (n + 1) [] (.code c_impl_TurnPhases_3 :: sk) e h R = (vc2 C n [] (.code c_impl_TurnPhases_2 :: .code .ret :: sk) e h R) := nr rfl
@[simp, simp ↓] theorem c_impl_TurnPhases_4_r : vc2 C (n + 1) [] (.code c_impl_TurnPhases_4 :: sk) e h R = (condK (ev e (.t 11)) (vc2 C n [] (.code c_impl_TurnPhases_3 :: sk) e h R) (vc2 C n [] (.code .skip :: sk) e h R)) := nr rfl
@[simp, simp ↓] theorem c_impl_TurnPhases_5_r : vc2 C (n + 1) [] (.code c_impl_TurnPhases_5 :: sk) e h R = (vc2 C n [] (.code c_impl_TurnPhases_1 :: .code c_impl_TurnPhases_4 :: sk) e h R) := nr rfl
@[simp, simp ↓] theorem c_impl_TurnPhases_6_r : vc2 C (n + 1) [] (.code c_impl_TurnPhases_6 :: sk) e h R = (vc2 C n c_impl_TurnPhases_o3 sk e h R) := nr rfl
@[simp, simp ↓] theorem c_impl_TurnPhases_7_r : vc2 C (n + 1) [] (.code c_impl_TurnPhases_7 :: sk) e h R = (vc2 C n c_impl_TurnPhases_o4 sk e h R) := nr rfl
@[simp, simp ↓] theorem c_impl_TurnPhases_8_r : vc2 C (n + 1) [] (.code c_impl_TurnPhases_8 :: sk) e h R = (vc2 C n [] (.code c_impl_TurnPhases_7 :: .code .ret :: sk) e h R) := nr rfl
@[simp, simp ↓] theorem c_impl_TurnPhases_9_r : vc2 C (n + 1) [] (.code c_impl_TurnPhases_9 :: sk) e h R = (condK (ev e (.t 16)) (vc2 C n [] (.code c_impl_TurnPhases_8 :: sk) e h R) (vc2 C n [] (.code .skip :: sk) e h R)) := nr rfl
@[simp, simp ↓] theorem c_impl_TurnPhases_10_r : vc2 C (n + 1) [] (.code c_impl_TurnPhases_10 :: sk) e h R = (vc2 C n [] (.code c_impl_TurnPhases_6 :: .code c_impl_TurnPhases_9 :: sk) e h R) := nr rfl
@[simp, simp ↓] theorem c_impl_TurnPhases_11_r : vc2 C (n + 1) [] (.code c_impl_TurnPhases_11 :: sk) e h R = (vc2 C n c_impl_TurnPhases_o5 sk e h R) := nr rfl
@[simp, simp ↓] theorem c_impl_TurnPhases_12_r : vc2 C (n + 1) [] (.code c_impl_TurnPhases_12 :: sk) e h R = (vc2 C n c_impl_TurnPhases_o6 sk e h R) := nr rfl
@[simp, simp ↓] theorem c_impl_TurnPhases_13_r : vc2 C (n + 1) [] (.code c_impl_TurnPhases_13 :: sk) e h R = (vc2 C n c_impl_TurnPhases_o7 sk e h R) := nr rfl
@[simp, simp ↓] theorem c_impl_TurnPhases_14_r : vc2 C (n + 1) [] (.code c_impl_TurnPhases_14 :: sk) e h R = (condK (ev e (.t 27)) (vc2 C n [] (.code .skip :: sk) e h R) (vc2 C n [] (.code (.exit 0) :: sk) e h R)) := nr rfl
@[simp, simp ↓] theorem c_impl_TurnPhases_15_r : vc2 C (n + 1) [] (.code c_impl_TurnPhases_15 :: sk) e h R = (vc2 C n c_impl_TurnPhases_o8 sk e h R) := nr rfl
@[simp, simp ↓] theorem c_impl_TurnPhases_16_r : vc2 C (n + 1) [] (.code c_impl_TurnPhases_16 :: sk) e h R = (draw2 C h (vK C n c_impl_TurnPhases_o10 sk R h) c_impl_TurnPhases_o9 e) := nr rfl
@[simp, simp ↓] theorem c_impl_TurnPhases_17_r : vc2 C (n + 1) [] (.code c_impl_TurnPhases_17 :: sk) e h R = (vc2 C n c_impl_TurnPhases_o11 sk e h R) := nr rfl
@[simp, simp ↓] theorem c_impl_TurnPhases_18_r : vc2 C (n + 1) [] (.code c_impl_TurnPhases_18 :: sk) e h R = (vc2 C n [] (.code c_impl_TurnPhases_16 :: .code c_impl_TurnPhases_17 :: sk) e h R) := nr rfl
@[simp, simp ↓] theorem c_impl_TurnPhases_19_r : vc2 C (n + 1) [] (.code c_impl_TurnPhases_19 :: sk) e h R = (vc2 C n [] (.code c_impl_TurnPhases_15 :: .code c_impl_TurnPhases_18 :: sk) e h R) := nr rfl
@[simp, simp ↓] theorem c_impl_TurnPhases_20_r : vc2 C (n + 1) [] (.code c_impl_TurnPhases_20 :: sk) e h R = (vc2 C n [] (.code c_impl_TurnPhases_19 :: .inBlock 1 :: sk) e h R) := nr rfl
@[simp, simp ↓] theorem c_impl_TurnPhases_21_r : vc2 C (n + 1) [] (.code c_impl_TurnPhases_21 :: sk) e h R = (vc2 C n c_impl_TurnPhases_o12 sk e h R) := nr rfl
@[simp, simp ↓] theorem c_impl_TurnPhases_22_r : vc2 C (n + 1) [] (.code c_impl_TurnPhases_22 :: sk) e h R = (vc2 C n [] (.code c_impl_TurnPhases_20 :: .code c_impl_TurnPhases_21 :: sk) e h R) := nr rfl
@[simp, simp ↓] theorem c_impl_TurnPhases_23_r : vc2 C (n + 1) [] (.code c_impl_TurnPhases_23 :: sk) e h R = (vc2 C n [] (.code c_impl_TurnPhases_14 :: .code c_impl_TurnPhases_22 :: sk) e h R) := nr rfl
@[simp, simp ↓] theorem c_impl_TurnPhases_24_r : vc2 C (n + 1) [] (.code c_impl_TurnPhases_24 :: sk) e h R = (vc2 C n [] (.code c_impl_TurnPhases_13 :: .code c_impl_TurnPhases_23 :: sk) e h R) := nr rfl
@[simp, simp ↓] theorem c_impl_TurnPhases_25_r : vc2 C (n + 1) [] (.code c_impl_TurnPhases_25 :: sk) e h R = (Run2 C (.code c_impl_TurnPhases_24 :: .inLoop c_impl_TurnPhases_24 :: sk) e h R) := nr rfl
@[simp, simp ↓] theorem c_impl_TurnPhases_26_r : vc2 C (n + 1) [] (.code c_impl_TurnPhases_26 :: sk) e h R = (vc2 C n [] (.code c_impl_TurnPhases_25 :: .inBlock 0 :: sk) e h R) := nr rfl
@[simp, simp ↓] theorem c_impl_TurnPhases_27_r : vc2 C (n + 1) [] (.code c_impl_TurnPhases_27 :: sk) e h R = (vc2 C n [] (.code c_impl_TurnPhases_12 :: .code c_impl_TurnPhases_26 :: sk) e h R) := nr rfl
@[simp, simp ↓] theorem c_impl_TurnPhases_28_r : vc2 C (n + 1) [] (.code c_impl_TurnPhases_28 :: sk) e h R = (vc2 C n c_impl_TurnPhases_o13 sk e h R) := nr rfl
@[simp, simp ↓] theorem c_impl_TurnPhases_29_r : vc2 C (n + 1) [] (.code c_impl_TurnPhases_29 :: sk) e h R = (vc2 C n [] (.code c_impl_TurnPhases_28 :: .code .ret :: sk) e h R) := nr rfl
@[simp, simp ↓] theorem c_impl_TurnPhases_30_r : vc2 C (n + 1) [] (.code c_impl_TurnPhases_30 :: sk) e h R = (vc2 C n [] (.code c_impl_TurnPhases_27 :: .code c_impl_TurnPhases_29 :: sk) e h R) := nr rfl
@[simp, simp ↓] theorem c_impl_TurnPhases_31_r : vc2 C (n + 1) [] (.code c_impl_TurnPhases_31 :: sk) e h R = (vc2 C n [] (.code c_impl_TurnPhases_11 :: .code c_impl_TurnPhases_30 :: sk) e h R) := nr rfl
@[simp, simp ↓] theorem c_impl_TurnPhases_32_r : vc2 C (n + 1) [] (.code c_impl_TurnPhases_32 :: sk) e h R = (vc2 C n [] (.code c_impl_TurnPhases_10 :: .code c_impl_TurnPhases_31 :: sk) e h R) := nr rfl
@[simp, simp ↓] theorem c_impl_TurnPhases_33_r : vc2 C (n + 1) [] (.code c_impl_TurnPhases_33 :: sk) e h R = (vc2 C n [] (.code c_impl_TurnPhases_5 :: .code c_impl_TurnPhases_32 :: sk) e h R) := nr rfl
@[simp, simp ↓] theorem c_impl_TurnPhases_34_r : vc2 C (n + 1) [] (.code c_impl_TurnPhases_34 :: sk) e h R = (vc2 C n [] (.code c_impl_TurnPhases_0 :: .code c_impl_TurnPhases_33 :: sk) e h R) := nr rfl
end
noncomputable def c_impl_TurnPhases_C (orc : Orc) : Cx := ⟨Try.prog, [4, 6, 8], 33, 56, [.cell 4 3 true, .tmp 5], orc⟩
@[simp] theorem c_impl_TurnPhases_C_P (orc : Orc) : (c_impl_TurnPhases_C orc).P = Try.prog := nr rfl
@[simp] theorem c_impl_TurnPhases_C_o (orc : Orc) : (c_impl_TurnPhases_C orc).orc = orc := nr rfl
@[simp] theorem c_impl_TurnPhases_C_r (orc : Orc) : (c_impl_TurnPhases_C orc).res = [.cell 4 3 true, .tmp 5] := nr rfl
theorem c_impl_TurnPhases_of {args : List AV} {h : Heap} {R : AV → Heap → Prop} {k : Nat} (ha : args.length = k) {orc : Orc} (hp : Pure Try.prog orc) (hk : Is (c_impl_TurnPhases_C orc) Try.f33 → Run2 (c_impl_TurnPhases_C orc) [.code c_impl_TurnPhases_34] (argEnv 0 args) h (Post R)) (hle : k ≤ 56 := by simp) : ACalls Try.prog 33 args h R :=
  contract2 [4, 6, 8] c_impl_TurnPhases_34 [.cell 4 3 true, .tmp 5] Try.func33 (by decide +kernel) rfl (by kernel_rfl) (by rw [ha]; exact hle) (by kernel_rfl) hp hk
theorem c_impl_TurnPhases_of0 {args : List AV} {h : Heap} {R : AV → Heap → Prop} {k : Nat} (ha : args.length = k) {orc : Orc} (hp : Pure Try.prog orc) (hk : Is (c_impl_TurnPhases_C orc) Try.f33 → Run2 (c_impl_TurnPhases_C orc) [.code c_impl_TurnPhases_34] (argEnv 0 args) h R) (hle : k ≤ 56 := by simp) : ACalls Try.prog 33 args h R :=
  contract20 [4, 6, 8] c_impl_TurnPhases_34 [.cell 4 3 true, .tmp 5] Try.func33 (by decide +kernel) rfl (by kernel_rfl) (by rw [ha]; exact hle) (by kernel_rfl) hp hk
noncomputable def Ph.turned (x : Ph) (p : List Int) : Ph := if x.valid ∧ vec p x.n x.m then ⟨x.n, x.m, x.ts.map (x.turn1 p)⟩ else ⟨0, 0, []⟩
theorem implTurn_o (x : Ph) (p : List Int) (ok : x.ok) (hl : x.ts.length ≤ 1048576) (hp : p.length ≤ 1048576) : ACalls Try.prog 33 [x.av, .snap 1 (p.map iv)] [] (fun v h' => ∃ w, v = .tup [w, .int .i64 (x.ecode p)] ∧ OwnPh w (x.turned p) h') := by
  refine c_impl_TurnPhases_of rfl orcT_p fun I => ?_
  refine Run2.of I 1000 ?_
  simp -implicitDefEqProofs [ok, hl, hp]
  intro a
  refine ⟨fun hv => ?_, fun hv => ⟨Ph.valid_m hv, fun h2 => ?_, fun h2 b hb => ?_⟩⟩
  · refine .drop a (.base ?_)
    simp
    exact ⟨_, ⟨rfl, by simp [Ph.ecode, hv]⟩, _, by simp [Ph.turned, hv]; rfl, by simp [Ph.turned, hv]; exact .nil⟩
  · refine .drop a (.base ?_)
    simp
    exact ⟨_, ⟨rfl, by simp [Ph.ecode, hv, h2]⟩, _, by simp [Ph.turned, h2]; rfl, by simp [Ph.turned, h2]; exact .nil⟩
  have hm1 := hv.2.2.1
  have hm2 := hv.2.2.2.1
  have hl := hv.2.2.2.2.2
  refine gK.go ?_
  simp -implicitDefEqProofs [hb]
  refine Run2.loopE (α := Nat × AV × Heap) (fun s => [(1, .snap 1 (p.map iv)), (2, .ip [.int .i64 x.n, .int .i64 x.m, .snap 3 (x.ts.map T.av)]), (4, .ptr a 3 0 0), (6, .ptr b 3 0 0), (24, .snap 3 (x.ts.map T.av)), (25, .int .i64 x.ts.length), (26, .int .i64 (s.1 : Nat))])
    (fun s => s.2.2 ++ [(b, ⟨3, [.agg [.int .i64 x.n, .int .i64 x.m, s.2.1]]⟩), (a, ⟨3, [.agg [.int .i64 0, .int .i64 0, .nilsl]]⟩)]) (fun s => x.ts.length - s.1) (fun s => s.1 ≤ x.ts.length ∧ Grow 3 s.2.1 (((x.ts.map (x.turn1 p)).take s.1).map T.av) s.2.2 ∧ b ∉ dom s.2.2 ∧ a ∉ dom s.2.2) (0, .nilsl, []) (by simp) rfl ⟨Nat.zero_le _, by simpa using Grow.nil, by simp [dom], by simp [dom]⟩ ?_
  rintro ⟨i, w, hp'⟩ ⟨hi, hg, hpb, hpa⟩ ih
  simp only at hi hg hpb hpa ih ⊢
  have hcw := hg.cell
  by_cases hlt : i < x.ts.length
  · obtain ⟨h1', h2', e1, e2, e3, e4, e5, e6, _⟩ := Ph.ends hv h2 hlt
    have htk : (x.ts.map (x.turn1 p)).take (i + 1) = (x.ts.map (x.turn1 p)).take i ++ [x.turn1 p x.ts[i]] := by
      rw [List.take_succ_eq_append_getElem (by simpa using hlt)]; simp
    have ht1 : x.turn1 p x.ts[i] = ⟨x.ts[i].f, x.ts[i].t, (x.ts[i].s + p[x.ts[i].t.toNat] - p[x.ts[i].f.toNat]) % x.m⟩ := by
      simp [Ph.turn1, h1', h2']
    have go := fun w' hp'' hg' hb' ha' => ih (i + 1, w', hp'') ⟨by simp; omega, hg', hb', ha'⟩ (by simp; omega)
    clear ih
    refine Run2.of I 1000 ?_
    simp -implicitDefEqProofs [hlt, h1', h2', e1, e2]
    intro c hc hcb hca
    refine gK.go ?_
    simp -implicitDefEqProofs [hlt, h1', h2', e1, e2, hc, hcb, hca, hget_app hpb, hget_app hpa]
    refine ⟨by omega, by omega, by omega, ?_⟩
    refine Grow.app_mid (pre := [(c, _)]) hg (fun j hj => by simp [dom]; rintro rfl; exact hc hj) (by simp; omega) (by simp) fun w' hp2 hg' hf => ?_
    have hfc : c ∉ dom hp2 := fun h => hf c h (by simp [dom])
    have hfb : b ∉ dom hp2 := fun h => hf b h (by simp [dom])
    have hfa : a ∉ dom hp2 := fun h => hf a h (by simp [dom])
    simp -implicitDefEqProofs [hcb, hcw, hg'.cell, cells_of hg'.cell, stor_of hg'.cell, hget_app hfb, hset_app hfb]
    refine ⟨by omega, Run2.sub (h' := hp2 ++ [(b, ⟨3, [.agg [.int .i64 x.n, .int .i64 x.m, w']]⟩), (a, ⟨3, [.agg [.int .i64 0, .int .i64 0, .nilsl]]⟩)]) ?_ ?_ ?_⟩
    · simp
      grind
    · simp [dom, List.nodup_append]
      grind
    · have := go w' hp2 (by simp only; rw [htk, ht1]; simpa using hg') hfb hfa
      simpa using this
  · obtain rfl : i = x.ts.length := by omega
    refine Run2.of I 1000 ?_
    simp -implicitDefEqProofs [hget_app hpb, hget_app hpa, hset_app hpa, hb, Ne.symm hb, hcw]
    refine .drop a (.drop b (.base ?_))
    rw [hdel_app hpa, hdel_app hpb]
    simp [hdel, hb]
    refine ⟨_, ⟨rfl, by simp [Ph.ecode, hv, h2]⟩, _, by simp [Ph.turned, hv, h2]; rfl, ?_⟩
    rw [List.take_of_length_le (by simp)] at hg
    simpa [Ph.turned, hv, h2] using hg.own
end Go.AG
