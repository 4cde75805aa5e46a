/- The best turn: what the program's and the reference's functions give. No statement is made here. -/
import Derived.Test.YtlncpnefkpfojaaCtGoT
import Derived.Test.YtlncpnefkpfojaaCtTu
namespace Go.AG
open Go.Proofs Go.Proofs.Ytlncpnefkpfojaa
set_option linter.unusedSimpArgs false
set_option linter.unusedVariables false
set_option maxRecDepth 4000
/-- The best turn among the first k, and its time. -/
noncomputable def Gr.btv (x : Gr) (rs : List (List Int)) : Nat → Nat × Nat
  | 0 => (0, x.gT rs)
  | k + 1 => if x.gT (rotL rs k) < (x.btv rs k).2 then (k, x.gT (rotL rs k)) else x.btv rs k
theorem Gr.btv_one (x : Gr) (rs : List (List Int)) : x.btv rs 1 = (0, x.gT rs) := by
  unfold Gr.btv
  rw [rotL_zero, if_neg (by simp [Gr.btv])]
  rfl
noncomputable def Gr.bt1 (x : Gr) (rs : List (List Int)) : Int := if x.gCode2 rs = 0 then (x.btv rs rs.length).1 else 0
noncomputable def Gr.bt2 (x : Gr) (rs : List (List Int)) : Int := if x.gCode2 rs = 0 then (x.btv rs rs.length).2 else 0
abbrev c_impl_BestTurn_o0 : List AJ := [.o ⟨(some 2), none, false, .box false 2 (.t 0), none⟩, .o ⟨(some 4), none, false, .mv (.c (.int .i64 0)), none⟩, .o ⟨(some 5), none, false, .mv (.c (.int .i64 0)), none⟩, .o ⟨(some 6), none, false, .mv (.c (.int .i64 0)), (some [1, 2])⟩]
def c_impl_BestTurn_0 : ACode := .region c_impl_BestTurn_o0
abbrev c_impl_BestTurn_o1 : List AJ := [.o ⟨(some 13), none, false, .load 2 true (.t 2), none⟩, .o ⟨(some 14), none, false, .mv (.t 1), none⟩, .o ⟨(some 15), none, false, .call 47 [(.t 13), (.t 14)], none⟩, .o ⟨(some 12), none, false, .mv (.t 15), none⟩, .o ⟨(some 16), none, false, .extract (.t 12) 0, none⟩, .o ⟨(some 17), none, false, .extract (.t 12) 1, none⟩, .o ⟨(some 7), none, false, .mv (.t 16), none⟩, .o ⟨(some 8), none, false, .mv (.t 17), (some [1, 2, 7, 8])⟩]
def c_impl_BestTurn_1 : ACode := .region c_impl_BestTurn_o1
abbrev c_impl_BestTurn_o2 : List AJ := [.o ⟨(some 18), none, false, .mv (.t 8), none⟩, .o ⟨(some 19), none, false, .bin .neq (.t 18) (.c (.int .i64 0)), (some [1, 2, 7, 8, 19])⟩]
def c_impl_BestTurn_2 : ACode := .region c_impl_BestTurn_o2
abbrev c_impl_BestTurn_o3 : List AJ := [.o ⟨(some 20), none, false, .mv (.t 8), none⟩, .o ⟨(some 4), none, false, .mv (.c (.int .i64 0)), none⟩, .o ⟨(some 5), none, false, .mv (.c (.int .i64 0)), none⟩, .o ⟨(some 6), none, false, .mv (.t 20), (some [4, 5, 6])⟩]
def c_impl_BestTurn_3 : ACode := .region c_impl_BestTurn_o3
def c_impl_BestTurn_4 : ACode := .seq c_impl_BestTurn_3 .ret
def c_impl_BestTurn_5 : ACode := .cond (.t 19) c_impl_BestTurn_4 .skip
def c_impl_BestTurn_6 : ACode := .seq c_impl_BestTurn_2 c_impl_BestTurn_5
abbrev c_impl_BestTurn_o4 : List AJ := [.o ⟨(some 9), none, false, .mv (.c (.int .i64 0)), (some [1, 2, 7, 9])⟩]
def c_impl_BestTurn_7 : ACode := .region c_impl_BestTurn_o4
abbrev c_impl_BestTurn_o5 : List AJ := [.o ⟨(some 21), none, false, .mv (.t 1), none⟩, .o ⟨(some 22), none, false, .call 85 [(.t 21)], none⟩, .o ⟨(some 23), none, false, .mv (.c (.int .i64 0)), (some [1, 2, 7, 9, 22, 23])⟩]
def c_impl_BestTurn_8 : ACode := .region c_impl_BestTurn_o5
abbrev c_impl_BestTurn_o6 : List AJ := [.o ⟨(some 24), none, false, .bin .lss (.t 23) (.t 22), (some [1, 2, 7, 9, 22, 23, 24])⟩]
def c_impl_BestTurn_9 : ACode := .region c_impl_BestTurn_o6
def c_impl_BestTurn_10 : ACode := .cond (.t 24) .skip (.exit 0)
abbrev c_impl_BestTurn_o7 : List AJ := [.o ⟨(some 25), none, false, .mv (.t 23), none⟩, .o ⟨(some 10), none, false, .mv (.t 25), (some [1, 2, 7, 9, 10, 22, 23])⟩]
def c_impl_BestTurn_11 : ACode := .region c_impl_BestTurn_o7
abbrev c_impl_BestTurn_o8 : List AI := [⟨(some 26), none, false, .load 2 true (.t 2), none⟩, ⟨(some 27), none, false, .mv (.t 1), none⟩, ⟨(some 28), none, false, .mv (.t 10), none⟩, ⟨(some 29), none, false, .call 93 [(.t 27), (.t 28)], none⟩, ⟨(some 30), none, false, .call 97 [(.t 26), (.t 29)], none⟩, ⟨(some 11), none, false, .mv (.t 30), (some [1, 2, 7, 9, 10, 11, 22, 23])⟩]
def c_impl_BestTurn_12 : ACode := .draw c_impl_BestTurn_o8 [] rfl
abbrev c_impl_BestTurn_o9 : List AJ := [.o ⟨(some 31), none, false, .mv (.t 11), none⟩, .o ⟨(some 32), none, false, .mv (.t 7), none⟩, .o ⟨(some 33), none, false, .bin .lss (.t 31) (.t 32), (some [1, 2, 7, 9, 10, 11, 22, 23, 33])⟩]
def c_impl_BestTurn_13 : ACode := .region c_impl_BestTurn_o9
abbrev c_impl_BestTurn_o10 : List AJ := [.o ⟨(some 34), none, false, .mv (.t 10), none⟩, .o ⟨(some 35), none, false, .mv (.t 11), none⟩, .o ⟨(some 9), none, false, .mv (.t 34), none⟩, .o ⟨(some 7), none, false, .mv (.t 35), (some [1, 2, 7, 9, 22, 23])⟩]
def c_impl_BestTurn_14 : ACode := .region c_impl_BestTurn_o10
def c_impl_BestTurn_15 : ACode := .cond (.t 33) c_impl_BestTurn_14 .skip
def c_impl_BestTurn_16 : ACode := .seq c_impl_BestTurn_13 c_impl_BestTurn_15
def c_impl_BestTurn_17 : ACode := .seq c_impl_BestTurn_12 c_impl_BestTurn_16
def c_impl_BestTurn_18 : ACode := .seq c_impl_BestTurn_11 c_impl_BestTurn_17
def c_impl_BestTurn_19 : ACode := .block 1 c_impl_BestTurn_18
abbrev c_impl_BestTurn_o11 : List AJ := [.o ⟨(some 36), none, true, .bin .add (.t 23) (.c (.int .i64 1)), none⟩, .o ⟨(some 23), none, false, .mv (.t 36), (some [1, 2, 7, 9, 22, 23])⟩]
def c_impl_BestTurn_20 : ACode := .region c_impl_BestTurn_o11
def c_impl_BestTurn_21 : ACode := .seq c_impl_BestTurn_19 c_impl_BestTurn_20
def c_impl_BestTurn_22 : ACode := .seq c_impl_BestTurn_10 c_impl_BestTurn_21
def c_impl_BestTurn_23 : ACode := .seq c_impl_BestTurn_9 c_impl_BestTurn_22
def c_impl_BestTurn_24 : ACode := .loop c_impl_BestTurn_23
def c_impl_BestTurn_25 : ACode := .block 0 c_impl_BestTurn_24
def c_impl_BestTurn_26 : ACode := .seq c_impl_BestTurn_8 c_impl_BestTurn_25
abbrev c_impl_BestTurn_o12 : List AJ := [.o ⟨(some 37), none, false, .mv (.t 9), none⟩, .o ⟨(some 38), none, false, .mv (.t 7), none⟩, .o ⟨(some 4), none, false, .mv (.t 37), none⟩, .o ⟨(some 5), none, false, .mv (.t 38), none⟩, .o ⟨(some 6), none, false, .mv (.c (.int .i64 0)), (some [4, 5, 6])⟩]
def c_impl_BestTurn_27 : ACode := .region c_impl_BestTurn_o12
def c_impl_BestTurn_28 : ACode := .seq c_impl_BestTurn_27 .ret
def c_impl_BestTurn_29 : ACode := .seq c_impl_BestTurn_26 c_impl_BestTurn_28
def c_impl_BestTurn_30 : ACode := .seq c_impl_BestTurn_7 c_impl_BestTurn_29
def c_impl_BestTurn_31 : ACode := .seq c_impl_BestTurn_6 c_impl_BestTurn_30
def c_impl_BestTurn_32 : ACode := .seq c_impl_BestTurn_1 c_impl_BestTurn_31
def c_impl_BestTurn_33 : ACode := .seq c_impl_BestTurn_0 c_impl_BestTurn_32
section
variable (C : Cx) (n : Nat) (sk : List AItem) (e : Env) (h : Heap) (R : AV → Heap → Prop)
@[simp, simp ↓] theorem c_impl_BestTurn_0_r : vc2 C (n + 1) [] (.code c_impl_BestTurn_0 :: sk) e h R = (vc2 C n c_impl_BestTurn_o0 sk e h R) := nr rfl
@[simp, simp ↓] theorem c_impl_BestTurn_1_r : vc2 C (n + 1) [] (.code c_impl_BestTurn_1 :: sk) e h R = (vc2 C n c_impl_BestTurn_o1 sk e h R) := nr rfl
@[simp, simp ↓] theorem c_impl_BestTurn_2_r : vc2 C (n + 1) [] (.code c_impl_BestTurn_2 :: sk) e h R = (vc2 C n c_impl_BestTurn_o2 sk e h R) := nr rfl
@[simp, simp ↓] theorem c_impl_BestTurn_3_r : vc2 C (n + 1) [] (.code c_impl_BestTurn_3 :: sk) e h R = (vc2 C n c_impl_BestTurn_o3 sk e h R) := nr rfl
@[simp, simp ↓] theorem c_impl_BestTurn_4_r : vc2 C (n + 1) [] (.code c_impl_BestTurn_4 :: sk) e h R = (vc2 C n [] (.code c_impl_BestTurn_3 :: .code .ret :: sk) e h R) := nr rfl
@[simp, simp ↓] theorem c_impl_BestTurn_5_r : vc2 C (n + 1) [] (.code c_impl_BestTurn_5 :: sk) e h R = (condK (ev e (.t 19)) (vc2 C n [] (.code c_impl_BestTurn_4 :: sk) e h R) (vc2 C n [] (.code .skip :: sk) e h R)) := nr rfl
@[simp, simp ↓] theorem c_impl_BestTurn_6_r : vc2 C (n + 1) [] (.code c_impl_BestTurn_6 :: sk) e h R = (vc2 C n [] (.code c_impl_BestTurn_2 :: .code c_impl_BestTurn_5 :: sk) e h R) := nr rfl
@[simp, simp ↓] theorem c_impl_BestTurn_7_r : vc2 C (n + 1) [] (.code c_impl_BestTurn_7 :: sk) e h R = (vc2 C n c_impl_BestTurn_o4 sk e h R) := nr rfl
@[simp, simp ↓] theorem c_impl_BestTurn_8_r : vc2 C (n + 1) [] (.code c_impl_BestTurn_8 :: sk) e h R = (vc2 C n c_impl_BestTurn_o5 sk e h R) := nr rfl
@[simp, simp ↓] theorem c_impl_BestTurn_9_r : vc2 C (n + 1) [] (.code c_impl_BestTurn_9 :: sk) e h R = (vc2 C n c_impl_BestTurn_o6 sk e h R) := nr rfl
@[simp, simp ↓] theorem c_impl_BestTurn_10_r : vc2 C (n + 1) [] (.code c_impl_BestTurn_10 :: sk) e h R = (condK (ev e (.t 24)) (vc2 C n [] (.code .skip :: sk) e h R) (vc2 C n [] (.code (.exit 0) :: sk) e h R)) := nr rfl
@[simp, simp ↓] theorem c_impl_BestTurn_11_r : vc2 C (n + 1) [] (.code c_impl_BestTurn_11 :: sk) e h R = (vc2 C n c_impl_BestTurn_o7 sk e h R) := nr rfl
@[simp, simp ↓] theorem c_impl_BestTurn_12_r : vc2 C (n + 1) [] (.code c_impl_BestTurn_12 :: sk) e h R = (draw2 C h (vK C n [] sk R h) c_impl_BestTurn_o8 e) := nr rfl
@[simp, simp ↓] theorem c_impl_BestTurn_13_r : vc2 C (n + 1) [] (.code c_impl_BestTurn_13 :: sk) e h R = (vc2 C n c_impl_BestTurn_o9 sk e h R) := nr rfl
@[simp, simp ↓] theorem c_impl_BestTurn_14_r : vc2 C (n + 1) [] (.code c_impl_BestTurn_14 :: sk) e h R = (vc2 C n c_impl_BestTurn_o10 sk e h R) := nr rfl
@[simp, simp ↓] theorem c_impl_BestTurn_15_r : vc2 C (n + 1) [] (.code c_impl_BestTurn_15 :: sk) e h R = (condK (ev e (.t 33)) (vc2 C n [] (.code c_impl_BestTurn_14 :: sk) e h R) (vc2 C n [] (.code .skip :: sk) e h R)) := nr rfl
@[simp, simp ↓] theorem c_impl_BestTurn_16_r : vc2 C (n + 1) [] (.code c_impl_BestTurn_16 :: sk) e h R = (vc2 C n [] (.code c_impl_BestTurn_13 :: .code c_impl_BestTurn_15 :: sk) e h R) := nr rfl
@[simp, simp ↓] theorem c_impl_BestTurn_17_r : vc2 C (n + 1) [] (.code c_impl_BestTurn_17 :: sk) e h R = (vc2 C n [] (.code c_impl_BestTurn_12 :: .code c_impl_BestTurn_16 :: sk) e h R) := nr rfl
@[simp, simp ↓] theorem c_impl_BestTurn_18_r : vc2 C (n + 1) [] (.code c_impl_BestTurn_18 :: sk) e h R = (vc2 C n [] (.code c_impl_BestTurn_11 :: .code c_impl_BestTurn_17 :: sk) e h R) := nr rfl
@[simp, simp ↓] theorem c_impl_BestTurn_19_r : vc2 C (n + 1) [] (.code c_impl_BestTurn_19 :: sk) e h R = (vc2 C n [] (.code c_impl_BestTurn_18 :: .inBlock 1 :: sk) e h R) := nr rfl
@[simp, simp ↓] theorem c_impl_BestTurn_20_r : vc2 C (n + 1) [] (.code c_impl_BestTurn_20 :: sk) e h R = (vc2 C n c_impl_BestTurn_o11 sk e h R) := nr rfl
@[simp, simp ↓] theorem c_impl_BestTurn_21_r : vc2 C (n + 1) [] (.code c_impl_BestTurn_21 :: sk) e h R = (vc2 C n [] (.code c_impl_BestTurn_19 :: .code c_impl_BestTurn_20 :: sk) e h R) := nr rfl
@[simp, simp ↓] theorem c_impl_BestTurn_22_r : vc2 C (n + 1) [] (.code c_impl_BestTurn_22 :: sk) e h R = (vc2 C n [] (.code c_impl_BestTurn_10 :: .code c_impl_BestTurn_21 :: sk) e h R) := nr rfl
@[simp, simp ↓] theorem c_impl_BestTurn_23_r : vc2 C (n + 1) [] (.code c_impl_BestTurn_23 :: sk) e h R = (vc2 C n [] (.code c_impl_BestTurn_9 :: .code c_impl_BestTurn_22 :: sk) e h R) := nr rfl
@[simp, simp ↓] theorem c_impl_BestTurn_24_r : vc2 C (n + 1) [] (.code c_impl_BestTurn_24 :: sk) e h R = (Run2 C (.code c_impl_BestTurn_23 :: .inLoop c_impl_BestTurn_23 :: sk) e h R) := nr rfl
@[simp, simp ↓] theorem c_impl_BestTurn_25_r : vc2 C (n + 1) [] (.code c_impl_BestTurn_25 :: sk) e h R = (vc2 C n [] (.code c_impl_BestTurn_24 :: .inBlock 0 :: sk) e h R) := nr rfl
@[simp, simp ↓] theorem c_impl_BestTurn_26_r : vc2 C (n + 1) [] (.code c_impl_BestTurn_26 :: sk) e h R = (vc2 C n [] (.code c_impl_BestTurn_8 :: .code c_impl_BestTurn_25 :: sk) e h R) := nr rfl
@[simp, simp ↓] theorem c_impl_BestTurn_27_r : vc2 C (n + 1) [] (.code c_impl_BestTurn_27 :: sk) e h R = (vc2 C n c_impl_BestTurn_o12 sk e h R) := nr rfl
@[simp, simp ↓] theorem c_impl_BestTurn_28_r : vc2 C (n + 1) [] (.code c_impl_BestTurn_28 :: sk) e h R = (vc2 C n [] (.code c_impl_BestTurn_27 :: .code .ret :: sk) e h R) := nr rfl
@[simp, simp ↓] theorem c_impl_BestTurn_29_r : vc2 C (n + 1) [] (.code c_impl_BestTurn_29 :: sk) e h R = (vc2 C n [] (.code c_impl_BestTurn_26 :: .code c_impl_BestTurn_28 :: sk) e h R) := nr rfl
@[simp, simp ↓] theorem c_impl_BestTurn_30_r : vc2 C (n + 1) [] (.code c_impl_BestTurn_30 :: sk) e h R = (vc2 C n [] (.code c_impl_BestTurn_7 :: .code c_impl_BestTurn_29 :: sk) e h R) := nr rfl
@[simp, simp ↓] theorem c_impl_BestTurn_31_r : vc2 C (n + 1) [] (.code c_impl_BestTurn_31 :: sk) e h R = (vc2 C n [] (.code c_impl_BestTurn_6 :: .code c_impl_BestTurn_30 :: sk) e h R) := nr rfl
@[simp, simp ↓] theorem c_impl_BestTurn_32_r : vc2 C (n + 1) [] (.code c_impl_BestTurn_32 :: sk) e h R = (vc2 C n [] (.code c_impl_BestTurn_1 :: .code c_impl_BestTurn_31 :: sk) e h R) := nr rfl
@[simp, simp ↓] theorem c_impl_BestTurn_33_r : vc2 C (n + 1) [] (.code c_impl_BestTurn_33 :: sk) e h R = (vc2 C n [] (.code c_impl_BestTurn_0 :: .code c_impl_BestTurn_32 :: sk) e h R) := nr rfl
end
noncomputable def c_impl_BestTurn_C (orc : Orc) : Cx := ⟨Try.prog, [], 49, 39, [.tmp 4, .tmp 5, .tmp 6], orc⟩
@[simp] theorem c_impl_BestTurn_C_P (orc : Orc) : (c_impl_BestTurn_C orc).P = Try.prog := nr rfl
@[simp] theorem c_impl_BestTurn_C_o (orc : Orc) : (c_impl_BestTurn_C orc).orc = orc := nr rfl
@[simp] theorem c_impl_BestTurn_C_r (orc : Orc) : (c_impl_BestTurn_C orc).res = [.tmp 4, .tmp 5, .tmp 6] := nr rfl
theorem c_impl_BestTurn_of {args : List AV} {h : Heap} {R : AV → Heap → Prop} {k : Nat} (ha : args.length = k) {orc : Orc} (hp : Pure Try.prog orc) (hk : Is (c_impl_BestTurn_C orc) Try.f49 → Run2 (c_impl_BestTurn_C orc) [.code c_impl_BestTurn_33] (argEnv 0 args) h (Post R)) (hle : k ≤ 39 := by simp) : ACalls Try.prog 49 args h R :=
  contract2 [] c_impl_BestTurn_33 [.tmp 4, .tmp 5, .tmp 6] Try.func49 (by decide +kernel) rfl (by kernel_rfl) (by rw [ha]; exact hle) (by kernel_rfl) hp hk
theorem c_impl_BestTurn_of0 {args : List AV} {h : Heap} {R : AV → Heap → Prop} {k : Nat} (ha : args.length = k) {orc : Orc} (hp : Pure Try.prog orc) (hk : Is (c_impl_BestTurn_C orc) Try.f49 → Run2 (c_impl_BestTurn_C orc) [.code c_impl_BestTurn_33] (argEnv 0 args) h R) (hle : k ≤ 39 := by simp) : ACalls Try.prog 49 args h R :=
  contract20 [] c_impl_BestTurn_33 [.tmp 4, .tmp 5, .tmp 6] Try.func49 (by decide +kernel) rfl (by kernel_rfl) (by rw [ha]; exact hle) (by kernel_rfl) hp hk
theorem implBT_c (x : Gr) (rs : List (List Int)) (h : Heap) (hl : x.ts.length ≤ 1048576) (ok : x.ok) (hr : ssTot rs ≤ 1048576) : ACalls Try.prog 49 [x.av, .snap 1 (rs.map il)] h (fun r h' => r = .tup [.int .i64 (x.bt1 rs), .int .i64 (x.bt2 rs), .int .i64 (x.gCode2 rs)] ∧ h' = h) := by
  have hn := (fit_of_tot hr).1
  refine c_impl_BestTurn_of0 rfl orcJ_p fun I => ?_
  have hgt := fun h => implGT_c x rs h hl ok hr
  refine Run2.of I 1000 ?_
  simp -implicitDefEqProofs
  refine (hgt _).mono ?_
  rintro v h' ⟨rfl, rfl⟩
  refine gK.go ?_
  by_cases hc : x.gCode2 rs = 0
  · obtain ⟨⟨hv, hok⟩, hcn⟩ := Gr.gCode2_ok hc
    have h0 : x.gVal rs = x.gT rs := by simp [Gr.gVal, hc]
    have h1 : x.bt1 rs = (x.btv rs rs.length).1 := by simp [Gr.bt1, hc]
    have h2 : x.bt2 rs = (x.btv rs rs.length).2 := by simp [Gr.bt2, hc]
    rw [hc, h0, h1, h2]
    simp -implicitDefEqProofs
    refine Run2.loopE (fun (k : Nat) => [(1, .snap 1 (rs.map il)), (2, .ip [.int .i64 x.n, .snap 3 (x.ts.map T.av)]), (7, .int .i64 (x.btv rs k).2), (9, .int .i64 (x.btv rs k).1), (22, .int .i64 rs.length), (23, .int .i64 k)]) (fun k => h') (fun k => rs.length - k) (fun k => k ≤ rs.length) 0 (by simp [Gr.btv]) rfl (Nat.zero_le _) fun k hk ih => ?_
    by_cases hlt : k < rs.length
    · have go := ih (k + 1) (by omega) (by omega)
      have hne : rs ≠ [] := fun e => by subst e; simp at hlt
      have htu := turned_f rs k h' hr (by omega)
      rw [turnR, if_neg hne, Nat.mod_eq_of_lt hlt] at htu
      have hgo := gossipTime_c x (rotL rs k) h' (by rw [rotL_tot]; exact hr) hv (hok.rot k) hcn
      have hst : x.btv rs (k + 1) = if x.gT (rotL rs k) < (x.btv rs k).2 then (k, x.gT (rotL rs k)) else x.btv rs k := rfl
      rw [hst] at go
      clear ih
      generalize x.btv rs k = B at *
      generalize x.gT (rotL rs k) = G at *
      refine Run2.of I 1000 ?_
      simp -implicitDefEqProofs [hlt]
      refine dcallK htu ?_
      simp -implicitDefEqProofs
      refine dcallK hgo ?_
      simp -implicitDefEqProofs
      refine ⟨fun h => ⟨by omega, ?_⟩, fun h => ⟨by omega, ?_⟩⟩
      · rw [if_pos h] at go; simpa using go
      · rw [if_neg (by omega)] at go; simpa using go
    · obtain rfl : k = rs.length := by omega
      refine Run2.of I 1000 ?_
      simp -implicitDefEqProofs
  · have h1 : x.bt1 rs = 0 := by simp [Gr.bt1, hc]
    have h2 : x.bt2 rs = 0 := by simp [Gr.bt2, hc]
    simp -implicitDefEqProofs [hc, h1, h2]
abbrev c_spec_BestTurn_o0 : List AJ := [.o ⟨(some 2), none, false, .box false 2 (.t 0), none⟩, .o ⟨(some 4), none, false, .mv (.c (.int .i64 0)), none⟩, .o ⟨(some 5), none, false, .mv (.c (.int .i64 0)), none⟩, .o ⟨(some 6), none, false, .mv (.c (.int .i64 0)), (some [1, 2])⟩]
def c_spec_BestTurn_0 : ACode := .region c_spec_BestTurn_o0
abbrev c_spec_BestTurn_o1 : List AJ := [.o ⟨(some 12), none, false, .mv (.t 1), none⟩, .o ⟨(some 13), none, false, .call 82 [(.t 2), (.t 12)], none⟩, .o ⟨(some 7), none, false, .mv (.t 13), (some [1, 2, 7])⟩]
def c_spec_BestTurn_1 : ACode := .region c_spec_BestTurn_o1
abbrev c_spec_BestTurn_o2 : List AJ := [.o ⟨(some 14), none, false, .mv (.t 7), none⟩, .o ⟨(some 15), none, false, .bin .eql (.t 14) (.c (.int .i64 0)), none⟩, .o ⟨(some 16), none, false, .mv (.t 15), none⟩, .o ⟨(some 17), (some (16, true)), false, .call 94 [(.t 2)], none⟩, .o ⟨(some 18), (some (16, true)), false, .un .not (.t 17), none⟩, .o ⟨(some 19), none, false, .pick (.t 16) (.t 18) (.c (.bool false)), (some [1, 2, 7, 19])⟩]
def c_spec_BestTurn_2 : ACode := .region c_spec_BestTurn_o2
abbrev c_spec_BestTurn_o3 : List AJ := [.o ⟨(some 7), none, false, .mv (.c (.int .i64 3)), (some [1, 2, 7])⟩]
def c_spec_BestTurn_3 : ACode := .region c_spec_BestTurn_o3
def c_spec_BestTurn_4 : ACode := .cond (.t 19) c_spec_BestTurn_3 .skip
def c_spec_BestTurn_5 : ACode := .seq c_spec_BestTurn_2 c_spec_BestTurn_4
abbrev c_spec_BestTurn_o4 : List AJ := [.o ⟨(some 20), none, false, .mv (.t 7), none⟩, .o ⟨(some 21), none, false, .bin .neq (.t 20) (.c (.int .i64 0)), (some [1, 2, 7, 21])⟩]
def c_spec_BestTurn_6 : ACode := .region c_spec_BestTurn_o4
abbrev c_spec_BestTurn_o5 : List AJ := [.o ⟨(some 22), none, false, .mv (.t 7), none⟩, .o ⟨(some 4), none, false, .mv (.c (.int .i64 0)), none⟩, .o ⟨(some 5), none, false, .mv (.c (.int .i64 0)), none⟩, .o ⟨(some 6), none, false, .mv (.t 22), (some [4, 5, 6])⟩]
def c_spec_BestTurn_7 : ACode := .region c_spec_BestTurn_o5
def c_spec_BestTurn_8 : ACode := .seq c_spec_BestTurn_7 .ret
def c_spec_BestTurn_9 : ACode := .cond (.t 21) c_spec_BestTurn_8 .skip
def c_spec_BestTurn_10 : ACode := .seq c_spec_BestTurn_6 c_spec_BestTurn_9
abbrev c_spec_BestTurn_o6 : List AJ := [.o ⟨(some 8), none, false, .mv (.c (.int .i64 0)), (some [1, 2, 8])⟩]
def c_spec_BestTurn_11 : ACode := .region c_spec_BestTurn_o6
abbrev c_spec_BestTurn_o7 : List AJ := [.o ⟨(some 23), none, false, .mv (.t 1), none⟩, .o ⟨(some 24), none, false, .call 95 [(.t 2), (.t 23), (.c (.int .i64 0))], none⟩, .o ⟨(some 9), none, false, .mv (.t 24), (some [1, 2, 8, 9])⟩]
def c_spec_BestTurn_12 : ACode := .region c_spec_BestTurn_o7
abbrev c_spec_BestTurn_o8 : List AJ := [.o ⟨(some 10), none, false, .mv (.c (.int .i64 1)), (some [1, 2, 8, 9, 10])⟩]
def c_spec_BestTurn_13 : ACode := .region c_spec_BestTurn_o8
abbrev c_spec_BestTurn_o9 : List AJ := [.o ⟨(some 25), none, false, .mv (.t 10), none⟩, .o ⟨(some 26), none, false, .mv (.t 1), none⟩, .o ⟨(some 27), none, false, .len (.t 26), none⟩, .o ⟨(some 28), none, false, .bin .lss (.t 25) (.t 27), (some [1, 2, 8, 9, 10, 28])⟩]
def c_spec_BestTurn_14 : ACode := .region c_spec_BestTurn_o9
def c_spec_BestTurn_15 : ACode := .cond (.t 28) .skip (.exit 0)
def c_spec_BestTurn_16 : ACode := .seq c_spec_BestTurn_14 c_spec_BestTurn_15
abbrev c_spec_BestTurn_o10 : List AJ := [.o ⟨(some 31), none, false, .mv (.t 1), none⟩, .o ⟨(some 32), none, false, .mv (.t 10), none⟩, .o ⟨(some 33), none, false, .call 95 [(.t 2), (.t 31), (.t 32)], none⟩, .o ⟨(some 11), none, false, .mv (.t 33), (some [1, 2, 8, 9, 10, 11])⟩]
def c_spec_BestTurn_17 : ACode := .region c_spec_BestTurn_o10
abbrev c_spec_BestTurn_o11 : List AJ := [.o ⟨(some 34), none, false, .mv (.t 11), none⟩, .o ⟨(some 35), none, false, .mv (.t 9), none⟩, .o ⟨(some 36), none, false, .bin .lss (.t 34) (.t 35), (some [1, 2, 8, 9, 10, 11, 36])⟩]
def c_spec_BestTurn_18 : ACode := .region c_spec_BestTurn_o11
abbrev c_spec_BestTurn_o12 : List AJ := [.o ⟨(some 37), none, false, .mv (.t 10), none⟩, .o ⟨(some 8), none, false, .mv (.t 37), (some [1, 2, 8, 10, 11])⟩]
def c_spec_BestTurn_19 : ACode := .region c_spec_BestTurn_o12
abbrev c_spec_BestTurn_o13 : List AJ := [.o ⟨(some 38), none, false, .mv (.t 11), none⟩, .o ⟨(some 9), none, false, .mv (.t 38), (some [1, 2, 8, 9, 10])⟩]
def c_spec_BestTurn_20 : ACode := .region c_spec_BestTurn_o13
def c_spec_BestTurn_21 : ACode := .seq c_spec_BestTurn_19 c_spec_BestTurn_20
def c_spec_BestTurn_22 : ACode := .cond (.t 36) c_spec_BestTurn_21 .skip
def c_spec_BestTurn_23 : ACode := .seq c_spec_BestTurn_18 c_spec_BestTurn_22
def c_spec_BestTurn_24 : ACode := .seq c_spec_BestTurn_17 c_spec_BestTurn_23
def c_spec_BestTurn_25 : ACode := .block 1 c_spec_BestTurn_24
abbrev c_spec_BestTurn_o14 : List AJ := [.o ⟨(some 29), none, false, .mv (.t 10), none⟩, .o ⟨(some 30), none, true, .bin .add (.t 29) (.c (.int .i64 1)), none⟩, .o ⟨(some 10), none, false, .mv (.t 30), (some [1, 2, 8, 9, 10])⟩]
def c_spec_BestTurn_26 : ACode := .region c_spec_BestTurn_o14
def c_spec_BestTurn_27 : ACode := .seq c_spec_BestTurn_25 c_spec_BestTurn_26
def c_spec_BestTurn_28 : ACode := .seq c_spec_BestTurn_16 c_spec_BestTurn_27
def c_spec_BestTurn_29 : ACode := .loop c_spec_BestTurn_28
def c_spec_BestTurn_30 : ACode := .block 0 c_spec_BestTurn_29
def c_spec_BestTurn_31 : ACode := .seq c_spec_BestTurn_13 c_spec_BestTurn_30
abbrev c_spec_BestTurn_o15 : List AJ := [.o ⟨(some 39), none, false, .mv (.t 8), none⟩, .o ⟨(some 40), none, false, .mv (.t 9), none⟩, .o ⟨(some 4), none, false, .mv (.t 39), none⟩, .o ⟨(some 5), none, false, .mv (.t 40), none⟩, .o ⟨(some 6), none, false, .mv (.c (.int .i64 0)), (some [4, 5, 6])⟩]
def c_spec_BestTurn_32 : ACode := .region c_spec_BestTurn_o15
def c_spec_BestTurn_33 : ACode := .seq c_spec_BestTurn_32 .ret
def c_spec_BestTurn_34 : ACode := .seq c_spec_BestTurn_31 c_spec_BestTurn_33
def c_spec_BestTurn_35 : ACode := .seq c_spec_BestTurn_12 c_spec_BestTurn_34
def c_spec_BestTurn_36 : ACode := .seq c_spec_BestTurn_11 c_spec_BestTurn_35
def c_spec_BestTurn_37 : ACode := .seq c_spec_BestTurn_10 c_spec_BestTurn_36
def c_spec_BestTurn_38 : ACode := .seq c_spec_BestTurn_5 c_spec_BestTurn_37
def c_spec_BestTurn_39 : ACode := .seq c_spec_BestTurn_1 c_spec_BestTurn_38
def c_spec_BestTurn_40 : ACode := .seq c_spec_BestTurn_0 c_spec_BestTurn_39
section
variable (C : Cx) (n : Nat) (sk : List AItem) (e : Env) (h : Heap) (R : AV → Heap → Prop)
@[simp, simp ↓] theorem c_spec_BestTurn_0_r : vc2 C (n + 1) [] (.code c_spec_BestTurn_0 :: sk) e h R = (vc2 C n c_spec_BestTurn_o0 sk e h R) := nr rfl
@[simp, simp ↓] theorem c_spec_BestTurn_1_r : vc2 C (n + 1) [] (.code c_spec_BestTurn_1 :: sk) e h R = (vc2 C n c_spec_BestTurn_o1 sk e h R) := nr rfl
@[simp, simp ↓] theorem c_spec_BestTurn_2_r : vc2 C (n + 1) [] (.code c_spec_BestTurn_2 :: sk) e h R = (vc2 C n c_spec_BestTurn_o2 sk e h R) := nr rfl
@[simp, simp ↓] theorem c_spec_BestTurn_3_r : vc2 C (n + 1) [] (.code c_spec_BestTurn_3 :: sk) e h R = (vc2 C n c_spec_BestTurn_o3 sk e h R) := nr rfl
@[simp, simp ↓] theorem c_spec_BestTurn_4_r : vc2 C (n + 1) [] (.code c_spec_BestTurn_4 :: sk) e h R = (condK (ev e (.t 19)) (vc2 C n [] (.code c_spec_BestTurn_3 :: sk) e h R) (vc2 C n [] (.code .skip :: sk) e h R)) := nr rfl
@[simp, simp ↓] theorem c_spec_BestTurn_5_r : vc2 C (n + 1) [] (.code c_spec_BestTurn_5 :: sk) e h R = (vc2 C n [] (.code c_spec_BestTurn_2 :: .code c_spec_BestTurn_4 :: sk) e h R) := nr rfl
@[simp, simp ↓] theorem c_spec_BestTurn_6_r : vc2 C (n + 1) [] (.code c_spec_BestTurn_6 :: sk) e h R = (vc2 C n c_spec_BestTurn_o4 sk e h R) := nr rfl
@[simp, simp ↓] theorem c_spec_BestTurn_7_r : vc2 C (n + 1) [] (.code c_spec_BestTurn_7 :: sk) e h R = (vc2 C n c_spec_BestTurn_o5 sk e h R) := nr rfl
@[simp, simp ↓] theorem c_spec_BestTurn_8_r : vc2 C (n + 1) [] (.code c_spec_BestTurn_8 :: sk) e h R = (vc2 C n [] (.code c_spec_BestTurn_7 :: .code .ret :: sk) e h R) := nr rfl
@[simp, simp ↓] theorem c_spec_BestTurn_9_r : vc2 C (n + 1) [] (.code c_spec_BestTurn_9 :: sk) e h R = (condK (ev e (.t 21)) (vc2 C n [] (.code c_spec_BestTurn_8 :: sk) e h R) (vc2 C n [] (.code .skip :: sk) e h R)) := nr rfl
@[simp, simp ↓] theorem c_spec_BestTurn_10_r : vc2 C (n + 1) [] (.code c_spec_BestTurn_10 :: sk) e h R = (vc2 C n [] (.code c_spec_BestTurn_6 :: .code c_spec_BestTurn_9 :: sk) e h R) := nr rfl
@[simp, simp ↓] theorem c_spec_BestTurn_11_r : vc2 C (n + 1) [] (.code c_spec_BestTurn_11 :: sk) e h R = (vc2 C n c_spec_BestTurn_o6 sk e h R) := nr rfl
@[simp, simp ↓] theorem c_spec_BestTurn_12_r : vc2 C (n + 1) [] (.code c_spec_BestTurn_12 :: sk) e h R = (vc2 C n c_spec_BestTurn_o7 sk e h R) := nr rfl
@[simp, simp ↓] theorem c_spec_BestTurn_13_r : vc2 C (n + 1) [] (.code c_spec_BestTurn_13 :: sk) e h R = (vc2 C n c_spec_BestTurn_o8 sk e h R) := nr rfl
@[simp, simp ↓] theorem c_spec_BestTurn_14_r : vc2 C (n + 1) [] (.code c_spec_BestTurn_14 :: sk) e h R = (vc2 C n c_spec_BestTurn_o9 sk e h R) := nr rfl
@[simp, simp ↓] theorem c_spec_BestTurn_15_r : vc2 C (n + 1) [] (.code c_spec_BestTurn_15 :: sk) e h R = (condK (ev e (.t 28)) (vc2 C n [] (.code .skip :: sk) e h R) (vc2 C n [] (.code (.exit 0) :: sk) e h R)) := nr rfl
@[simp, simp ↓] theorem c_spec_BestTurn_16_r : vc2 C (n + 1) [] (.code c_spec_BestTurn_16 :: sk) e h R = (vc2 C n [] (.code c_spec_BestTurn_14 :: .code c_spec_BestTurn_15 :: sk) e h R) := nr rfl
@[simp, simp ↓] theorem c_spec_BestTurn_17_r : vc2 C (n + 1) [] (.code c_spec_BestTurn_17 :: sk) e h R = (vc2 C n c_spec_BestTurn_o10 sk e h R) := nr rfl
@[simp, simp ↓] theorem c_spec_BestTurn_18_r : vc2 C (n + 1) [] (.code c_spec_BestTurn_18 :: sk) e h R = (vc2 C n c_spec_BestTurn_o11 sk e h R) := nr rfl
@[simp, simp ↓] theorem c_spec_BestTurn_19_r : vc2 C (n + 1) [] (.code c_spec_BestTurn_19 :: sk) e h R = (vc2 C n c_spec_BestTurn_o12 sk e h R) := nr rfl
@[simp, simp ↓] theorem c_spec_BestTurn_20_r : vc2 C (n + 1) [] (.code c_spec_BestTurn_20 :: sk) e h R = (vc2 C n c_spec_BestTurn_o13 sk e h R) := nr rfl
@[simp, simp ↓] theorem c_spec_BestTurn_21_r : vc2 C (n + 1) [] (.code c_spec_BestTurn_21 :: sk) e h R = (vc2 C n [] (.code c_spec_BestTurn_19 :: .code c_spec_BestTurn_20 :: sk) e h R) := nr rfl
@[simp, simp ↓] theorem c_spec_BestTurn_22_r : vc2 C (n + 1) [] (.code c_spec_BestTurn_22 :: sk) e h R = (condK (ev e (.t 36)) (vc2 C n [] (.code c_spec_BestTurn_21 :: sk) e h R) (vc2 C n [] (.code .skip :: sk) e h R)) := nr rfl
@[simp, simp ↓] theorem c_spec_BestTurn_23_r : vc2 C (n + 1) [] (.code c_spec_BestTurn_23 :: sk) e h R = (vc2 C n [] (.code c_spec_BestTurn_18 :: .code c_spec_BestTurn_22 :: sk) e h R) := nr rfl
@[simp, simp ↓] theorem c_spec_BestTurn_24_r : vc2 C (n + 1) [] (.code c_spec_BestTurn_24 :: sk) e h R = (vc2 C n [] (.code c_spec_BestTurn_17 :: .code c_spec_BestTurn_23 :: sk) e h R) := nr rfl
@[simp, simp ↓] theorem c_spec_BestTurn_25_r : vc2 C (n + 1) [] (.code c_spec_BestTurn_25 :: sk) e h R = (vc2 C n [] (.code c_spec_BestTurn_24 :: .inBlock 1 :: sk) e h R) := nr rfl
@[simp, simp ↓] theorem c_spec_BestTurn_26_r : vc2 C (n + 1) [] (.code c_spec_BestTurn_26 :: sk) e h R = (vc2 C n c_spec_BestTurn_o14 sk e h R) := nr rfl
@[simp, simp ↓] theorem c_spec_BestTurn_27_r : vc2 C (n + 1) [] (.code c_spec_BestTurn_27 :: sk) e h R = (vc2 C n [] (.code c_spec_BestTurn_25 :: .code c_spec_BestTurn_26 :: sk) e h R) := nr rfl
@[simp, simp ↓] theorem c_spec_BestTurn_28_r : vc2 C (n + 1) [] (.code c_spec_BestTurn_28 :: sk) e h R = (vc2 C n [] (.code c_spec_BestTurn_16 :: .code c_spec_BestTurn_27 :: sk) e h R) := nr rfl
@[simp, simp ↓] theorem c_spec_BestTurn_29_r : vc2 C (n + 1) [] (.code c_spec_BestTurn_29 :: sk) e h R = (Run2 C (.code c_spec_BestTurn_28 :: .inLoop c_spec_BestTurn_28 :: sk) e h R) := nr rfl
@[simp, simp ↓] theorem c_spec_BestTurn_30_r : vc2 C (n + 1) [] (.code c_spec_BestTurn_30 :: sk) e h R = (vc2 C n [] (.code c_spec_BestTurn_29 :: .inBlock 0 :: sk) e h R) := nr rfl
@[simp, simp ↓] theorem c_spec_BestTurn_31_r : vc2 C (n + 1) [] (.code c_spec_BestTurn_31 :: sk) e h R = (vc2 C n [] (.code c_spec_BestTurn_13 :: .code c_spec_BestTurn_30 :: sk) e h R) := nr rfl
@[simp, simp ↓] theorem c_spec_BestTurn_32_r : vc2 C (n + 1) [] (.code c_spec_BestTurn_32 :: sk) e h R = (vc2 C n c_spec_BestTurn_o15 sk e h R) := nr rfl
@[simp, simp ↓] theorem c_spec_BestTurn_33_r : vc2 C (n + 1) [] (.code c_spec_BestTurn_33 :: sk) e h R = (vc2 C n [] (.code c_spec_BestTurn_32 :: .code .ret :: sk) e h R) := nr rfl
@[simp, simp ↓] theorem c_spec_BestTurn_34_r : vc2 C (n + 1) [] (.code c_spec_BestTurn_34 :: sk) e h R = (vc2 C n [] (.code c_spec_BestTurn_31 :: .code c_spec_BestTurn_33 :: sk) e h R) := nr rfl
@[simp, simp ↓] theorem c_spec_BestTurn_35_r : vc2 C (n + 1) [] (.code c_spec_BestTurn_35 :: sk) e h R = (vc2 C n [] (.code c_spec_BestTurn_12 :: .code c_spec_BestTurn_34 :: sk) e h R) := nr rfl
@[simp, simp ↓] theorem c_spec_BestTurn_36_r : vc2 C (n + 1) [] (.code c_spec_BestTurn_36 :: sk) e h R = (vc2 C n [] (.code c_spec_BestTurn_11 :: .code c_spec_BestTurn_35 :: sk) e h R) := nr rfl
@[simp, simp ↓] theorem c_spec_BestTurn_37_r : vc2 C (n + 1) [] (.code c_spec_BestTurn_37 :: sk) e h R = (vc2 C n [] (.code c_spec_BestTurn_10 :: .code c_spec_BestTurn_36 :: sk) e h R) := nr rfl
@[simp, simp ↓] theorem c_spec_BestTurn_38_r : vc2 C (n + 1) [] (.code c_spec_BestTurn_38 :: sk) e h R = (vc2 C n [] (.code c_spec_BestTurn_5 :: .code c_spec_BestTurn_37 :: sk) e h R) := nr rfl
@[simp, simp ↓] theorem c_spec_BestTurn_39_r : vc2 C (n + 1) [] (.code c_spec_BestTurn_39 :: sk) e h R = (vc2 C n [] (.code c_spec_BestTurn_1 :: .code c_spec_BestTurn_38 :: sk) e h R) := nr rfl
@[simp, simp ↓] theorem c_spec_BestTurn_40_r : vc2 C (n + 1) [] (.code c_spec_BestTurn_40 :: sk) e h R = (vc2 C n [] (.code c_spec_BestTurn_0 :: .code c_spec_BestTurn_39 :: sk) e h R) := nr rfl
end
noncomputable def c_spec_BestTurn_C (orc : Orc) : Cx := ⟨Try.prog, [], 48, 41, [.tmp 4, .tmp 5, .tmp 6], orc⟩
@[simp] theorem c_spec_BestTurn_C_P (orc : Orc) : (c_spec_BestTurn_C orc).P = Try.prog := nr rfl
@[simp] theorem c_spec_BestTurn_C_o (orc : Orc) : (c_spec_BestTurn_C orc).orc = orc := nr rfl
@[simp] theorem c_spec_BestTurn_C_r (orc : Orc) : (c_spec_BestTurn_C orc).res = [.tmp 4, .tmp 5, .tmp 6] := nr rfl
theorem c_spec_BestTurn_of {args : List AV} {h : Heap} {R : AV → Heap → Prop} {k : Nat} (ha : args.length = k) {orc : Orc} (hp : Pure Try.prog orc) (hk : Is (c_spec_BestTurn_C orc) Try.f48 → Run2 (c_spec_BestTurn_C orc) [.code c_spec_BestTurn_40] (argEnv 0 args) h (Post R)) (hle : k ≤ 41 := by simp) : ACalls Try.prog 48 args h R :=
  contract2 [] c_spec_BestTurn_40 [.tmp 4, .tmp 5, .tmp 6] Try.func48 (by decide +kernel) rfl (by kernel_rfl) (by rw [ha]; exact hle) (by kernel_rfl) hp hk
theorem c_spec_BestTurn_of0 {args : List AV} {h : Heap} {R : AV → Heap → Prop} {k : Nat} (ha : args.length = k) {orc : Orc} (hp : Pure Try.prog orc) (hk : Is (c_spec_BestTurn_C orc) Try.f48 → Run2 (c_spec_BestTurn_C orc) [.code c_spec_BestTurn_40] (argEnv 0 args) h R) (hle : k ≤ 41 := by simp) : ACalls Try.prog 48 args h R :=
  contract20 [] c_spec_BestTurn_40 [.tmp 4, .tmp 5, .tmp 6] Try.func48 (by decide +kernel) rfl (by kernel_rfl) (by rw [ha]; exact hle) (by kernel_rfl) hp hk
theorem specBT_c (x : Gr) (rs : List (List Int)) (h : Heap) (hl : x.ts.length ≤ 1048576) (ok : x.ok) (hr : ssTot rs ≤ 1048576) : ACalls Try.prog 48 [x.av, .snap 1 (rs.map il)] h (fun r h' => r = .tup [.int .i64 (x.bt1 rs), .int .i64 (x.bt2 rs), .int .i64 (x.gCode2 rs)] ∧ h' = h) := by
  have hn := (fit_of_tot hr).1
  refine c_spec_BestTurn_of0 rfl orcJ_p fun I => ?_
  by_cases hs : x.sCode rs = 0
  · obtain ⟨hv, hok⟩ := Gr.sCode_ok hs
    by_cases hk : x.conn
    · have hc : x.gCode2 rs = 0 := by simp [Gr.gCode2, hs, hk]
      have h1 : x.bt1 rs = (x.btv rs rs.length).1 := by simp [Gr.bt1, hc]
      have h2 : x.bt2 rs = (x.btv rs rs.length).2 := by simp [Gr.bt2, hc]
      rw [hc, h1, h2]
      refine Run2.of I 1000 ?_
      simp -implicitDefEqProofs [hl, ok, hr, hs]
      refine (l24Connected_c x hv h).mono ?_
      rintro v h' ⟨rfl, rfl⟩
      refine gK.go ?_
      simp -implicitDefEqProofs [hk]
      have hg := l24Gossip_c x rs 0 h' hr hv hok hk fun h => List.length_pos_iff.2 h
      rw [rotL_zero] at hg
      refine hg.mono ?_
      rintro v h' ⟨rfl, rfl⟩
      refine gK.go ?_
      simp -implicitDefEqProofs
      by_cases hne : rs = []
      · subst hne
        refine Run2.loopE (α := Unit) (fun _ => [(1, .snap 1 []), (2, .ip [.int .i64 x.n, .snap 3 (x.ts.map T.av)]), (8, .int .i64 0), (9, .int .i64 (x.gT [])), (10, .int .i64 1)]) (fun _ => h') (fun _ => 0) (fun _ => True) () (by simp) rfl trivial fun _ _ _ => ?_
        refine Run2.of I 1000 ?_
        simp -implicitDefEqProofs
        simp [Gr.btv]
      have hps : 0 < rs.length := List.length_pos_iff.2 hne
      refine Run2.loopE (fun (k : Nat) => [(1, .snap 1 (rs.map il)), (2, .ip [.int .i64 x.n, .snap 3 (x.ts.map T.av)]), (8, .int .i64 (x.btv rs k).1), (9, .int .i64 (x.btv rs k).2), (10, .int .i64 k)]) (fun k => h') (fun k => rs.length - k) (fun k => k ≤ rs.length) 1 (by rw [Gr.btv_one]; simp) rfl (by omega) fun k hk2 ih => ?_
      by_cases hlt : k < rs.length
      · have go := ih (k + 1) (by omega) (by omega)
        have hg2 := l24Gossip_c x rs k h' hr hv hok hk fun h => hlt
        have hst : x.btv rs (k + 1) = if x.gT (rotL rs k) < (x.btv rs k).2 then (k, x.gT (rotL rs k)) else x.btv rs k := rfl
        rw [hst] at go
        clear ih
        generalize x.btv rs k = B at *
        generalize x.gT (rotL rs k) = G at *
        refine Run2.of I 1000 ?_
        simp -implicitDefEqProofs [hlt]
        refine hg2.mono ?_
        rintro v h' ⟨rfl, rfl⟩
        refine gK.go ?_
        simp -implicitDefEqProofs
        refine ⟨fun h => ⟨by omega, ?_⟩, fun h => ⟨by omega, ?_⟩⟩
        · rw [if_pos h] at go; simpa using go
        · rw [if_neg (by omega)] at go; simpa using go
      · obtain rfl : k = rs.length := by omega
        refine Run2.of I 1000 ?_
        simp -implicitDefEqProofs
    · have hc : x.gCode2 rs = 3 := by simp [Gr.gCode2, hs, hk]
      have h1 : x.bt1 rs = 0 := by simp [Gr.bt1, hc]
      have h2 : x.bt2 rs = 0 := by simp [Gr.bt2, hc]
      refine Run2.of I 1000 ?_
      simp -implicitDefEqProofs [hl, ok, hr, hs]
      refine (l24Connected_c x hv h).mono ?_
      rintro v h' ⟨rfl, rfl⟩
      refine gK.go ?_
      simp -implicitDefEqProofs [hk, hc, h1, h2]
  · have hc : x.gCode2 rs = x.sCode rs := by simp [Gr.gCode2, hs]
    have h1 : x.bt1 rs = 0 := by simp [Gr.bt1, hc, hs]
    have h2 : x.bt2 rs = 0 := by simp [Gr.bt2, hc, hs]
    refine Run2.of I 1000 ?_
    simp -implicitDefEqProofs [hl, ok, hr, hs, hc, h1, h2]
end Go.AG
