/- The time until all know of all, as the reference finds it. No statement is made here. -/
import Derived.Test.YtlncpnefkpfojaaCtGo
import Derived.Test.YtlncpnefkpfojaaCtKS
namespace Go.AG
open Go.Proofs Go.Proofs.Ytlncpnefkpfojaa
set_option linter.unusedSimpArgs false
set_option linter.unusedVariables false
set_option maxRecDepth 4000
noncomputable def Gr.gCode2 (x : Gr) (rs : List (List Int)) : Int := if x.sCode rs = 0 then if x.conn then 0 else 3 else x.sCode rs
noncomputable def Gr.gVal (x : Gr) (rs : List (List Int)) : Int := if x.gCode2 rs = 0 then x.gT rs else 0
theorem Gr.gCode2_ok {x : Gr} {rs : List (List Int)} (h : x.gCode2 rs = 0) : (x.valid ∧ x.rsOk rs) ∧ x.conn := by
  unfold Gr.gCode2 at h
  split at h
  · rename_i h1
    split at h
    · exact ⟨Gr.sCode_ok h1, by assumption⟩
    · omega
  · rename_i h1; exact absurd h h1
abbrev c_impl_GossipTime_o0 : List AJ := [.o ⟨(some 2), none, false, .box false 2 (.t 0), none⟩, .o ⟨(some 4), none, false, .mv (.c (.int .i64 0)), none⟩, .o ⟨(some 5), none, false, .mv (.c (.int .i64 0)), (some [1, 2])⟩]
def c_impl_GossipTime_0 : ACode := .region c_impl_GossipTime_o0
abbrev c_impl_GossipTime_o1 : List AJ := [.o ⟨(some 7), none, false, .load 2 true (.t 2), none⟩, .o ⟨(some 8), none, false, .mv (.t 1), none⟩, .o ⟨(some 9), none, false, .call 78 [(.t 7), (.t 8)], none⟩, .o ⟨(some 6), none, false, .mv (.t 9), (some [1, 2, 6])⟩]
def c_impl_GossipTime_1 : ACode := .region c_impl_GossipTime_o1
abbrev c_impl_GossipTime_o2 : List AJ := [.o ⟨(some 10), none, false, .mv (.t 6), none⟩, .o ⟨(some 11), none, false, .bin .neq (.t 10) (.c (.int .i64 0)), (some [1, 2, 6, 11])⟩]
def c_impl_GossipTime_2 : ACode := .region c_impl_GossipTime_o2
abbrev c_impl_GossipTime_o3 : List AJ := [.o ⟨(some 12), none, false, .mv (.t 6), none⟩, .o ⟨(some 4), none, false, .mv (.c (.int .i64 0)), none⟩, .o ⟨(some 5), none, false, .mv (.t 12), (some [4, 5])⟩]
def c_impl_GossipTime_3 : ACode := .region c_impl_GossipTime_o3
def c_impl_GossipTime_4 : ACode := .seq c_impl_GossipTime_3 .ret
def c_impl_GossipTime_5 : ACode := .cond (.t 11) c_impl_GossipTime_4 .skip
def c_impl_GossipTime_6 : ACode := .seq c_impl_GossipTime_2 c_impl_GossipTime_5
def c_impl_GossipTime_7 : ACode := .seq c_impl_GossipTime_1 c_impl_GossipTime_6
abbrev c_impl_GossipTime_o4 : List AJ := [.o ⟨(some 13), none, false, .load 2 true (.t 2), none⟩, .o ⟨(some 14), none, false, .call 96 [(.t 13)], none⟩, .o ⟨(some 15), none, false, .un .not (.t 14), (some [1, 2, 15])⟩]
def c_impl_GossipTime_8 : ACode := .region c_impl_GossipTime_o4
abbrev c_impl_GossipTime_o5 : List AJ := [.o ⟨(some 4), none, false, .mv (.c (.int .i64 0)), none⟩, .o ⟨(some 5), none, false, .mv (.c (.int .i64 3)), (some [4, 5])⟩]
def c_impl_GossipTime_9 : ACode := .region c_impl_GossipTime_o5
def c_impl_GossipTime_10 : ACode := .seq c_impl_GossipTime_9 .ret
def c_impl_GossipTime_11 : ACode := .cond (.t 15) c_impl_GossipTime_10 .skip
def c_impl_GossipTime_12 : ACode := .seq c_impl_GossipTime_8 c_impl_GossipTime_11
abbrev c_impl_GossipTime_o6 : List AJ := [.o ⟨(some 16), none, false, .load 2 true (.t 2), none⟩, .o ⟨(some 17), none, false, .mv (.t 1), none⟩, .o ⟨(some 18), none, false, .call 97 [(.t 16), (.t 17)], none⟩, .o ⟨(some 4), none, false, .mv (.t 18), none⟩, .o ⟨(some 5), none, false, .mv (.c (.int .i64 0)), (some [4, 5])⟩]
def c_impl_GossipTime_13 : ACode := .region c_impl_GossipTime_o6
def c_impl_GossipTime_14 : ACode := .seq c_impl_GossipTime_13 .ret
def c_impl_GossipTime_15 : ACode := .seq c_impl_GossipTime_12 c_impl_GossipTime_14
def c_impl_GossipTime_16 : ACode := .seq c_impl_GossipTime_7 c_impl_GossipTime_15
def c_impl_GossipTime_17 : ACode := .seq c_impl_GossipTime_0 c_impl_GossipTime_16
section
variable (C : Cx) (n : Nat) (sk : List AItem) (e : Env) (h : Heap) (R : AV → Heap → Prop)
@[simp, simp ↓] theorem c_impl_GossipTime_0_r : vc2 C (n + 1) [] (.code c_impl_GossipTime_0 :: sk) e h R = (vc2 C n c_impl_GossipTime_o0 sk e h R) := nr rfl
@[simp, simp ↓] theorem c_impl_GossipTime_1_r : vc2 C (n + 1) [] (.code c_impl_GossipTime_1 :: sk) e h R = (vc2 C n c_impl_GossipTime_o1 sk e h R) := nr rfl
@[simp, simp ↓] theorem c_impl_GossipTime_2_r : vc2 C (n + 1) [] (.code c_impl_GossipTime_2 :: sk) e h R = (vc2 C n c_impl_GossipTime_o2 sk e h R) := nr rfl
@[simp, simp ↓] theorem c_impl_GossipTime_3_r : vc2 C (n + 1) [] (.code c_impl_GossipTime_3 :: sk) e h R = (vc2 C n c_impl_GossipTime_o3 sk e h R) := nr rfl
@[simp, simp ↓] theorem c_impl_GossipTime_4_r : vc2 C (n + 1) [] (.code c_impl_GossipTime_4 :: sk) e h R = (vc2 C n [] (.code c_impl_GossipTime_3 :: .code .ret :: sk) e h R) := nr rfl
@[simp, simp ↓] theorem c_impl_GossipTime_5_r : vc2 C (n + 1) [] (.code c_impl_GossipTime_5 :: sk) e h R = (condK (ev e (.t 11)) (vc2 C n [] (.code c_impl_GossipTime_4 :: sk) e h R) (vc2 C n [] (.code .skip :: sk) e h R)) := nr rfl
@[simp, simp ↓] theorem c_impl_GossipTime_6_r : vc2 C (n + 1) [] (.code c_impl_GossipTime_6 :: sk) e h R = (vc2 C n [] (.code c_impl_GossipTime_2 :: .code c_impl_GossipTime_5 :: sk) e h R) := nr rfl
@[simp, simp ↓] theorem c_impl_GossipTime_7_r : vc2 C (n + 1) [] (.code c_impl_GossipTime_7 :: sk) e h R = (vc2 C n [] (.code c_impl_GossipTime_1 :: .code c_impl_GossipTime_6 :: sk) e h R) := nr rfl
@[simp, simp ↓] theorem c_impl_GossipTime_8_r : vc2 C (n + 1) [] (.code c_impl_GossipTime_8 :: sk) e h R = (vc2 C n c_impl_GossipTime_o4 sk e h R) := nr rfl
@[simp, simp ↓] theorem c_impl_GossipTime_9_r : vc2 C (n + 1) [] (.code c_impl_GossipTime_9 :: sk) e h R = (vc2 C n c_impl_GossipTime_o5 sk e h R) := nr rfl
@[simp, simp ↓] theorem c_impl_GossipTime_10_r : vc2 C (n + 1) [] (.code c_impl_GossipTime_10 :: sk) e h R = (vc2 C n [] (.code c_impl_GossipTime_9 :: .code .ret :: sk) e h R) := nr rfl
@[simp, simp ↓] theorem c_impl_GossipTime_11_r : vc2 C (n + 1) [] (.code c_impl_GossipTime_11 :: sk) e h R = (condK (ev e (.t 15)) (vc2 C n [] (.code c_impl_GossipTime_10 :: sk) e h R) (vc2 C n [] (.code .skip :: sk) e h R)) := nr rfl
@[simp, simp ↓] theorem c_impl_GossipTime_12_r : vc2 C (n + 1) [] (.code c_impl_GossipTime_12 :: sk) e h R = (vc2 C n [] (.code c_impl_GossipTime_8 :: .code c_impl_GossipTime_11 :: sk) e h R) := nr rfl
@[simp, simp ↓] theorem c_impl_GossipTime_13_r : vc2 C (n + 1) [] (.code c_impl_GossipTime_13 :: sk) e h R = (vc2 C n c_impl_GossipTime_o6 sk e h R) := nr rfl
@[simp, simp ↓] theorem c_impl_GossipTime_14_r : vc2 C (n + 1) [] (.code c_impl_GossipTime_14 :: sk) e h R = (vc2 C n [] (.code c_impl_GossipTime_13 :: .code .ret :: sk) e h R) := nr rfl
@[simp, simp ↓] theorem c_impl_GossipTime_15_r : vc2 C (n + 1) [] (.code c_impl_GossipTime_15 :: sk) e h R = (vc2 C n [] (.code c_impl_GossipTime_12 :: .code c_impl_GossipTime_14 :: sk) e h R) := nr rfl
@[simp, simp ↓] theorem c_impl_GossipTime_16_r : vc2 C (n + 1) [] (.code c_impl_GossipTime_16 :: sk) e h R = (vc2 C n [] (.code c_impl_GossipTime_7 :: .code c_impl_GossipTime_15 :: sk) e h R) := nr rfl
@[simp, simp ↓] theorem c_impl_GossipTime_17_r : vc2 C (n + 1) [] (.code c_impl_GossipTime_17 :: sk) e h R = (vc2 C n [] (.code c_impl_GossipTime_0 :: .code c_impl_GossipTime_16 :: sk) e h R) := nr rfl
end
noncomputable def c_impl_GossipTime_C (orc : Orc) : Cx := ⟨Try.prog, [], 47, 19, [.tmp 4, .tmp 5], orc⟩
@[simp] theorem c_impl_GossipTime_C_P (orc : Orc) : (c_impl_GossipTime_C orc).P = Try.prog := nr rfl
@[simp] theorem c_impl_GossipTime_C_o (orc : Orc) : (c_impl_GossipTime_C orc).orc = orc := nr rfl
@[simp] theorem c_impl_GossipTime_C_r (orc : Orc) : (c_impl_GossipTime_C orc).res = [.tmp 4, .tmp 5] := nr rfl
theorem c_impl_GossipTime_of {args : List AV} {h : Heap} {R : AV → Heap → Prop} {k : Nat} (ha : args.length = k) {orc : Orc} (hp : Pure Try.prog orc) (hk : Is (c_impl_GossipTime_C orc) Try.f47 → Run2 (c_impl_GossipTime_C orc) [.code c_impl_GossipTime_17] (argEnv 0 args) h (Post R)) (hle : k ≤ 19 := by simp) : ACalls Try.prog 47 args h R :=
  contract2 [] c_impl_GossipTime_17 [.tmp 4, .tmp 5] Try.func47 (by decide +kernel) rfl (by kernel_rfl) (by rw [ha]; exact hle) (by kernel_rfl) hp hk
theorem c_impl_GossipTime_of0 {args : List AV} {h : Heap} {R : AV → Heap → Prop} {k : Nat} (ha : args.length = k) {orc : Orc} (hp : Pure Try.prog orc) (hk : Is (c_impl_GossipTime_C orc) Try.f47 → Run2 (c_impl_GossipTime_C orc) [.code c_impl_GossipTime_17] (argEnv 0 args) h R) (hle : k ≤ 19 := by simp) : ACalls Try.prog 47 args h R :=
  contract20 [] c_impl_GossipTime_17 [.tmp 4, .tmp 5] Try.func47 (by decide +kernel) rfl (by kernel_rfl) (by rw [ha]; exact hle) (by kernel_rfl) hp hk
theorem implGT_c (x : Gr) (rs : List (List Int)) (h : Heap) (hl : x.ts.length ≤ 1048576) (ok : x.ok) (hr : ssTot rs ≤ 1048576) : ACalls Try.prog 47 [x.av, .snap 1 (rs.map il)] h (fun r h' => r = .tup [.int .i64 (x.gVal rs), .int .i64 (x.gCode2 rs)] ∧ h' = h) := by
  refine c_impl_GossipTime_of0 rfl orcJ_p fun I => ?_
  by_cases hs : x.sCode rs = 0
  · obtain ⟨hv, hok⟩ := Gr.sCode_ok hs
    by_cases hk : x.conn
    · have hc : x.gCode2 rs = 0 := by simp [Gr.gCode2, hs, hk]
      have hid : x.gVal rs = x.gT rs := by simp [Gr.gVal, hc]
      refine Run2.of I 1000 ?_
      simp -implicitDefEqProofs [hl, ok, hr, hs]
      refine (isConnected_c x hv h).mono ?_
      rintro v h' ⟨rfl, rfl⟩
      refine gK.go ?_
      simp -implicitDefEqProofs [hk]
      refine (gossipTime_c x rs _ hr hv hok hk).mono ?_
      rintro v h' ⟨rfl, rfl⟩
      refine gK.go ?_
      simp -implicitDefEqProofs [hc, hid]
    · have hc : x.gCode2 rs = 3 := by simp [Gr.gCode2, hs, hk]
      have hid : x.gVal rs = 0 := by simp [Gr.gVal, hc]
      refine Run2.of I 1000 ?_
      simp -implicitDefEqProofs [hl, ok, hr, hs]
      refine (isConnected_c x hv h).mono ?_
      rintro v h' ⟨rfl, rfl⟩
      refine gK.go ?_
      simp -implicitDefEqProofs [hk, hc, hid]
  · have hc : x.gCode2 rs = x.sCode rs := by simp [Gr.gCode2, hs]
    have hid : x.gVal rs = 0 := by simp [Gr.gVal, hc, hs]
    refine Run2.of I 1000 ?_
    simp -implicitDefEqProofs [hl, ok, hr, hs, hc, hid]
abbrev c_spec_l00Min_o0 : List AJ := [.o ⟨(some 4), none, false, .mv (.c (.int .i64 0)), (some [0, 1])⟩]
def c_spec_l00Min_0 : ACode := .region c_spec_l00Min_o0
abbrev c_spec_l00Min_o1 : List AJ := [.o ⟨(some 5), none, false, .mv (.t 0), none⟩, .o ⟨(some 6), none, false, .mv (.t 1), none⟩, .o ⟨(some 7), none, false, .bin .lss (.t 5) (.t 6), (some [0, 1, 7])⟩]
def c_spec_l00Min_1 : ACode := .region c_spec_l00Min_o1
abbrev c_spec_l00Min_o2 : List AJ := [.o ⟨(some 8), none, false, .mv (.t 0), none⟩, .o ⟨(some 4), none, false, .mv (.t 8), (some [4])⟩]
def c_spec_l00Min_2 : ACode := .region c_spec_l00Min_o2
def c_spec_l00Min_3 : ACode := .seq c_spec_l00Min_2 .ret
def c_spec_l00Min_4 : ACode := .cond (.t 7) c_spec_l00Min_3 .skip
def c_spec_l00Min_5 : ACode := .seq c_spec_l00Min_1 c_spec_l00Min_4
abbrev c_spec_l00Min_o3 : List AJ := [.o ⟨(some 9), none, false, .mv (.t 1), none⟩, .o ⟨(some 4), none, false, .mv (.t 9), (some [4])⟩]
def c_spec_l00Min_6 : ACode := .region c_spec_l00Min_o3
def c_spec_l00Min_7 : ACode := .seq c_spec_l00Min_6 .ret
def c_spec_l00Min_8 : ACode := .seq c_spec_l00Min_5 c_spec_l00Min_7
def c_spec_l00Min_9 : ACode := .seq c_spec_l00Min_0 c_spec_l00Min_8
section
variable (C : Cx) (n : Nat) (sk : List AItem) (e : Env) (h : Heap) (R : AV → Heap → Prop)
@[simp, simp ↓] theorem c_spec_l00Min_0_r : vc2 C (n + 1) [] (.code c_spec_l00Min_0 :: sk) e h R = (vc2 C n c_spec_l00Min_o0 sk e h R) := nr rfl
@[simp, simp ↓] theorem c_spec_l00Min_1_r : vc2 C (n + 1) [] (.code c_spec_l00Min_1 :: sk) e h R = (vc2 C n c_spec_l00Min_o1 sk e h R) := nr rfl
@[simp, simp ↓] theorem c_spec_l00Min_2_r : vc2 C (n + 1) [] (.code c_spec_l00Min_2 :: sk) e h R = (vc2 C n c_spec_l00Min_o2 sk e h R) := nr rfl
@[simp, simp ↓] theorem c_spec_l00Min_3_r : vc2 C (n + 1) [] (.code c_spec_l00Min_3 :: sk) e h R = (vc2 C n [] (.code c_spec_l00Min_2 :: .code .ret :: sk) e h R) := nr rfl
@[simp, simp ↓] theorem c_spec_l00Min_4_r : vc2 C (n + 1) [] (.code c_spec_l00Min_4 :: sk) e h R = (condK (ev e (.t 7)) (vc2 C n [] (.code c_spec_l00Min_3 :: sk) e h R) (vc2 C n [] (.code .skip :: sk) e h R)) := nr rfl
@[simp, simp ↓] theorem c_spec_l00Min_5_r : vc2 C (n + 1) [] (.code c_spec_l00Min_5 :: sk) e h R = (vc2 C n [] (.code c_spec_l00Min_1 :: .code c_spec_l00Min_4 :: sk) e h R) := nr rfl
@[simp, simp ↓] theorem c_spec_l00Min_6_r : vc2 C (n + 1) [] (.code c_spec_l00Min_6 :: sk) e h R = (vc2 C n c_spec_l00Min_o3 sk e h R) := nr rfl
@[simp, simp ↓] theorem c_spec_l00Min_7_r : vc2 C (n + 1) [] (.code c_spec_l00Min_7 :: sk) e h R = (vc2 C n [] (.code c_spec_l00Min_6 :: .code .ret :: sk) e h R) := nr rfl
@[simp, simp ↓] theorem c_spec_l00Min_8_r : vc2 C (n + 1) [] (.code c_spec_l00Min_8 :: sk) e h R = (vc2 C n [] (.code c_spec_l00Min_5 :: .code c_spec_l00Min_7 :: sk) e h R) := nr rfl
@[simp, simp ↓] theorem c_spec_l00Min_9_r : vc2 C (n + 1) [] (.code c_spec_l00Min_9 :: sk) e h R = (vc2 C n [] (.code c_spec_l00Min_0 :: .code c_spec_l00Min_8 :: sk) e h R) := nr rfl
end
noncomputable def c_spec_l00Min_C (orc : Orc) : Cx := ⟨Try.prog, [], 117, 10, [.tmp 4], orc⟩
@[simp] theorem c_spec_l00Min_C_P (orc : Orc) : (c_spec_l00Min_C orc).P = Try.prog := nr rfl
@[simp] theorem c_spec_l00Min_C_o (orc : Orc) : (c_spec_l00Min_C orc).orc = orc := nr rfl
@[simp] theorem c_spec_l00Min_C_r (orc : Orc) : (c_spec_l00Min_C orc).res = [.tmp 4] := nr rfl
theorem c_spec_l00Min_of {args : List AV} {h : Heap} {R : AV → Heap → Prop} {k : Nat} (ha : args.length = k) {orc : Orc} (hp : Pure Try.prog orc) (hk : Is (c_spec_l00Min_C orc) Try.f117 → Run2 (c_spec_l00Min_C orc) [.code c_spec_l00Min_9] (argEnv 0 args) h (Post R)) (hle : k ≤ 10 := by simp) : ACalls Try.prog 117 args h R :=
  contract2 [] c_spec_l00Min_9 [.tmp 4] Try.func117 (by decide +kernel) rfl (by kernel_rfl) (by rw [ha]; exact hle) (by kernel_rfl) hp hk
theorem c_spec_l00Min_of0 {args : List AV} {h : Heap} {R : AV → Heap → Prop} {k : Nat} (ha : args.length = k) {orc : Orc} (hp : Pure Try.prog orc) (hk : Is (c_spec_l00Min_C orc) Try.f117 → Run2 (c_spec_l00Min_C orc) [.code c_spec_l00Min_9] (argEnv 0 args) h R) (hle : k ≤ 10 := by simp) : ACalls Try.prog 117 args h R :=
  contract20 [] c_spec_l00Min_9 [.tmp 4] Try.func117 (by decide +kernel) rfl (by kernel_rfl) (by rw [ha]; exact hle) (by kernel_rfl) hp hk
theorem l00Min_c (a b : Int) (h : Heap) : ACalls Try.prog 117 [.int .i64 a, .int .i64 b] h (fun v h' => v = .int .i64 (min a b) ∧ h' = h) := by
  refine c_spec_l00Min_of0 rfl noPure fun I => ?_
  refine Run2.of I 1000 ?_
  simp -implicitDefEqProofs
  omega
noncomputable def o_l00Min : List AV → Option (Prop × AV) := tab (fun (x : Int × Int) => match x with | (a, b) => [.int .i64 a, .int .i64 b]) (fun x => match x with | (a, b) => True) (fun x => match x with | (a, b) => .int .i64 (min a b))
@[simp] theorem o_l00Min_e (a : Int) (b : Int) : o_l00Min [.int .i64 a, .int .i64 b] = some (True, .int .i64 (min a b)) := tab_at (enc := fun (x : Int × Int) => match x with | (a, b) => [.int .i64 a, .int .i64 b]) (fun x y h => by
  obtain ⟨a1, b1⟩ := x; obtain ⟨a2, b2⟩ := y; simp at h; simp [h]) _ _ (a, b)
theorem o_l00Min_k : Knows Try.prog 117 o_l00Min := tab_knows fun x hx h => by
  obtain ⟨a, b⟩ := x; exact l00Min_c _ _ h
abbrev c_spec_l16Parts_o0 : List AJ := [.o ⟨(some 2), none, false, .mv (.c .nilsl), (some [0])⟩]
def c_spec_l16Parts_0 : ACode := .region c_spec_l16Parts_o0
abbrev c_spec_l16Parts_o1 : List AJ := [.e 9 1 none, .o ⟨(some 3), none, false, .mv (.t 9), (some [0, 3])⟩]
def c_spec_l16Parts_1 : ACode := .region c_spec_l16Parts_o1
abbrev c_spec_l16Parts_o2 : List AJ := [.o ⟨(some 4), none, false, .mv (.c (.int .i64 0)), (some [0, 3, 4])⟩]
def c_spec_l16Parts_2 : ACode := .region c_spec_l16Parts_o2
abbrev c_spec_l16Parts_o3 : List AJ := [.o ⟨(some 10), none, false, .mv (.t 4), none⟩, .o ⟨(some 11), none, false, .mv (.t 0), none⟩, .o ⟨(some 12), none, false, .nilchk (.t 11), none⟩, .o ⟨(some 13), none, false, .fieldA 0 (.t 12), none⟩, .o ⟨(some 14), none, false, .load 1 false (.t 13), none⟩, .o ⟨(some 15), none, false, .bin .lss (.t 10) (.t 14), (some [0, 3, 4, 15])⟩]
def c_spec_l16Parts_3 : ACode := .region c_spec_l16Parts_o3
def c_spec_l16Parts_4 : ACode := .cond (.t 15) .skip (.exit 0)
def c_spec_l16Parts_5 : ACode := .seq c_spec_l16Parts_3 c_spec_l16Parts_4
abbrev c_spec_l16Parts_o4 : List AJ := [.o ⟨(some 18), none, false, .mv (.t 3), none⟩, .o ⟨(some 19), none, false, .mv (.t 4), none⟩, .o ⟨(some 20), none, false, .bsl false 1 [(.t 19)], none⟩, .o ⟨(some 21), none, false, .append 1 8 (.t 18) (.t 20), none⟩, .o ⟨(some 3), none, false, .mv (.t 21), (some [0, 3, 4])⟩]
def c_spec_l16Parts_6 : ACode := .region c_spec_l16Parts_o4
def c_spec_l16Parts_7 : ACode := .block 1 c_spec_l16Parts_6
abbrev c_spec_l16Parts_o5 : List AJ := [.o ⟨(some 16), none, false, .mv (.t 4), none⟩, .o ⟨(some 17), none, true, .bin .add (.t 16) (.c (.int .i64 1)), none⟩, .o ⟨(some 4), none, false, .mv (.t 17), (some [0, 3, 4])⟩]
def c_spec_l16Parts_8 : ACode := .region c_spec_l16Parts_o5
def c_spec_l16Parts_9 : ACode := .seq c_spec_l16Parts_7 c_spec_l16Parts_8
def c_spec_l16Parts_10 : ACode := .seq c_spec_l16Parts_5 c_spec_l16Parts_9
def c_spec_l16Parts_11 : ACode := .loop c_spec_l16Parts_10
def c_spec_l16Parts_12 : ACode := .block 0 c_spec_l16Parts_11
def c_spec_l16Parts_13 : ACode := .seq c_spec_l16Parts_2 c_spec_l16Parts_12
abbrev c_spec_l16Parts_o6 : List AJ := [.o ⟨(some 5), none, false, .mv (.c (.int .i64 0)), (some [0, 3, 5])⟩]
def c_spec_l16Parts_14 : ACode := .region c_spec_l16Parts_o6
abbrev c_spec_l16Parts_o7 : List AJ := [.o ⟨(some 22), none, false, .mv (.t 5), none⟩, .o ⟨(some 23), none, false, .mv (.t 0), none⟩, .o ⟨(some 24), none, false, .nilchk (.t 23), none⟩, .o ⟨(some 25), none, false, .fieldA 0 (.t 24), none⟩, .o ⟨(some 26), none, false, .load 1 false (.t 25), none⟩, .o ⟨(some 27), none, false, .bin .lss (.t 22) (.t 26), (some [0, 3, 5, 27])⟩]
def c_spec_l16Parts_15 : ACode := .region c_spec_l16Parts_o7
def c_spec_l16Parts_16 : ACode := .cond (.t 27) .skip (.exit 2)
def c_spec_l16Parts_17 : ACode := .seq c_spec_l16Parts_15 c_spec_l16Parts_16
abbrev c_spec_l16Parts_o8 : List AJ := [.o ⟨(some 6), none, false, .mv (.c (.int .i64 0)), (some [0, 3, 5, 6])⟩]
def c_spec_l16Parts_18 : ACode := .region c_spec_l16Parts_o8
abbrev c_spec_l16Parts_o9 : List AJ := [.o ⟨(some 30), none, false, .mv (.t 6), none⟩, .o ⟨(some 31), none, false, .mv (.t 0), none⟩, .o ⟨(some 32), none, false, .nilchk (.t 31), none⟩, .o ⟨(some 33), none, false, .fieldA 1 (.t 32), none⟩, .o ⟨(some 34), none, false, .load 1 false (.t 33), none⟩, .o ⟨(some 35), none, false, .len (.t 34), none⟩, .o ⟨(some 36), none, false, .bin .lss (.t 30) (.t 35), (some [0, 3, 5, 6, 36])⟩]
def c_spec_l16Parts_19 : ACode := .region c_spec_l16Parts_o9
def c_spec_l16Parts_20 : ACode := .cond (.t 36) .skip (.exit 4)
def c_spec_l16Parts_21 : ACode := .seq c_spec_l16Parts_19 c_spec_l16Parts_20
abbrev c_spec_l16Parts_o10 : List AJ := [.o ⟨(some 39), none, false, .mv (.t 0), none⟩, .o ⟨(some 40), none, false, .nilchk (.t 39), none⟩, .o ⟨(some 41), none, false, .fieldA 1 (.t 40), none⟩, .o ⟨(some 42), none, false, .load 1 false (.t 41), none⟩, .o ⟨(some 43), none, false, .mv (.t 6), none⟩, .o ⟨(some 44), none, false, .idxA 3 (.t 42) (.t 43), none⟩, .o ⟨(some 45), none, false, .load 3 true (.t 44), none⟩, .v 7 3 (.agg [(.int .i64 0), (.int .i64 0), (.int .i64 0)]) [] (.t 45) (some [0, 3, 5, 6, 7])]
def c_spec_l16Parts_22 : ACode := .region c_spec_l16Parts_o10
abbrev c_spec_l16Parts_o11 : List AI := [⟨(some 46), none, false, .mv (.t 3), none⟩, ⟨(some 47), none, false, .fieldA 0 (.t 7), none⟩, ⟨(some 48), none, false, .load 1 false (.t 47), none⟩, ⟨(some 49), none, false, .idxA 1 (.t 46) (.t 48), none⟩, ⟨(some 50), none, false, .load 1 false (.t 49), none⟩, ⟨(some 51), none, false, .mv (.t 3), none⟩, ⟨(some 52), none, false, .fieldA 1 (.t 7), none⟩, ⟨(some 53), none, false, .load 1 false (.t 52), none⟩, ⟨(some 54), none, false, .idxA 1 (.t 51) (.t 53), none⟩, ⟨(some 55), none, false, .load 1 false (.t 54), none⟩, ⟨(some 56), none, false, .call 117 [(.t 50), (.t 55)], none⟩, ⟨(some 8), none, false, .mv (.t 56), (some [0, 3, 5, 6, 7, 8])⟩]
def c_spec_l16Parts_23 : ACode := .draw c_spec_l16Parts_o11 [] rfl
abbrev c_spec_l16Parts_o12 : List AJ := [.o ⟨(some 57), none, false, .mv (.t 3), none⟩, .o ⟨(some 58), none, false, .fieldA 0 (.t 7), none⟩, .o ⟨(some 59), none, false, .load 1 false (.t 58), none⟩, .o ⟨(some 60), none, false, .mv (.t 8), none⟩, .o ⟨(some 61), none, false, .idxA 1 (.t 57) (.t 59), none⟩, .o ⟨none, none, false, .store 1 (.t 61) (.t 60), (some [0, 3, 5, 6, 7, 8])⟩]
def c_spec_l16Parts_24 : ACode := .region c_spec_l16Parts_o12
abbrev c_spec_l16Parts_o13 : List AJ := [.o ⟨(some 62), none, false, .mv (.t 3), none⟩, .o ⟨(some 63), none, false, .fieldA 1 (.t 7), none⟩, .o ⟨(some 64), none, false, .load 1 false (.t 63), none⟩, .o ⟨(some 65), none, false, .mv (.t 8), none⟩, .o ⟨(some 66), none, false, .idxA 1 (.t 62) (.t 64), none⟩, .o ⟨none, none, false, .store 1 (.t 66) (.t 65), (some [0, 3, 5, 6])⟩]
def c_spec_l16Parts_25 : ACode := .region c_spec_l16Parts_o13
def c_spec_l16Parts_26 : ACode := .seq c_spec_l16Parts_24 c_spec_l16Parts_25
def c_spec_l16Parts_27 : ACode := .seq c_spec_l16Parts_23 c_spec_l16Parts_26
def c_spec_l16Parts_28 : ACode := .seq c_spec_l16Parts_22 c_spec_l16Parts_27
def c_spec_l16Parts_29 : ACode := .block 5 c_spec_l16Parts_28
abbrev c_spec_l16Parts_o14 : List AJ := [.o ⟨(some 37), none, false, .mv (.t 6), none⟩, .o ⟨(some 38), none, true, .bin .add (.t 37) (.c (.int .i64 1)), none⟩, .o ⟨(some 6), none, false, .mv (.t 38), (some [0, 3, 5, 6])⟩]
def c_spec_l16Parts_30 : ACode := .region c_spec_l16Parts_o14
def c_spec_l16Parts_31 : ACode := .seq c_spec_l16Parts_29 c_spec_l16Parts_30
def c_spec_l16Parts_32 : ACode := .seq c_spec_l16Parts_21 c_spec_l16Parts_31
def c_spec_l16Parts_33 : ACode := .loop c_spec_l16Parts_32
def c_spec_l16Parts_34 : ACode := .block 4 c_spec_l16Parts_33
def c_spec_l16Parts_35 : ACode := .seq c_spec_l16Parts_18 c_spec_l16Parts_34
def c_spec_l16Parts_36 : ACode := .block 3 c_spec_l16Parts_35
abbrev c_spec_l16Parts_o15 : List AJ := [.o ⟨(some 28), none, false, .mv (.t 5), none⟩, .o ⟨(some 29), none, true, .bin .add (.t 28) (.c (.int .i64 1)), none⟩, .o ⟨(some 5), none, false, .mv (.t 29), (some [0, 3, 5])⟩]
def c_spec_l16Parts_37 : ACode := .region c_spec_l16Parts_o15
def c_spec_l16Parts_38 : ACode := .seq c_spec_l16Parts_36 c_spec_l16Parts_37
def c_spec_l16Parts_39 : ACode := .seq c_spec_l16Parts_17 c_spec_l16Parts_38
def c_spec_l16Parts_40 : ACode := .loop c_spec_l16Parts_39
def c_spec_l16Parts_41 : ACode := .block 2 c_spec_l16Parts_40
def c_spec_l16Parts_42 : ACode := .seq c_spec_l16Parts_14 c_spec_l16Parts_41
abbrev c_spec_l16Parts_o16 : List AJ := [.o ⟨(some 67), none, false, .mv (.t 3), none⟩, .o ⟨(some 2), none, false, .mv (.t 67), (some [2])⟩]
def c_spec_l16Parts_43 : ACode := .region c_spec_l16Parts_o16
def c_spec_l16Parts_44 : ACode := .seq c_spec_l16Parts_43 .ret
def c_spec_l16Parts_45 : ACode := .seq c_spec_l16Parts_42 c_spec_l16Parts_44
def c_spec_l16Parts_46 : ACode := .seq c_spec_l16Parts_13 c_spec_l16Parts_45
def c_spec_l16Parts_47 : ACode := .seq c_spec_l16Parts_1 c_spec_l16Parts_46
def c_spec_l16Parts_48 : ACode := .seq c_spec_l16Parts_0 c_spec_l16Parts_47
section
variable (C : Cx) (n : Nat) (sk : List AItem) (e : Env) (h : Heap) (R : AV → Heap → Prop)
@[simp, simp ↓] theorem c_spec_l16Parts_0_r : vc2 C (n + 1) [] (.code c_spec_l16Parts_0 :: sk) e h R = (vc2 C n c_spec_l16Parts_o0 sk e h R) := nr rfl
@[simp, simp ↓] theorem c_spec_l16Parts_1_r : vc2 C (n + 1) [] (.code c_spec_l16Parts_1 :: sk) e h R = (vc2 C n c_spec_l16Parts_o1 sk e h R) := nr rfl
@[simp, simp ↓] theorem c_spec_l16Parts_2_r : vc2 C (n + 1) [] (.code c_spec_l16Parts_2 :: sk) e h R = (vc2 C n c_spec_l16Parts_o2 sk e h R) := nr rfl
@[simp, simp ↓] theorem c_spec_l16Parts_3_r : vc2 C (n + 1) [] (.code c_spec_l16Parts_3 :: sk) e h R = (vc2 C n c_spec_l16Parts_o3 sk e h R) := nr rfl
@[simp, simp ↓] theorem c_spec_l16Parts_4_r : vc2 C (n + 1) [] (.code c_spec_l16Parts_4 :: sk) e h R = (condK (ev e (.t 15)) (vc2 C n [] (.code .skip :: sk) e h R) (vc2 C n [] (.code (.exit 0) :: sk) e h R)) := nr rfl
@[simp, simp ↓] theorem c_spec_l16Parts_5_r : vc2 C (n + 1) [] (.code c_spec_l16Parts_5 :: sk) e h R = (vc2 C n [] (.code c_spec_l16Parts_3 :: .code c_spec_l16Parts_4 :: sk) e h R) := nr rfl
@[simp, simp ↓] theorem c_spec_l16Parts_6_r : vc2 C (n + 1) [] (.code c_spec_l16Parts_6 :: sk) e h R = (vc2 C n c_spec_l16Parts_o4 sk e h R) := nr rfl
@[simp, simp ↓] theorem c_spec_l16Parts_7_r : vc2 C (n + 1) [] (.code c_spec_l16Parts_7 :: sk) e h R = (vc2 C n [] (.code c_spec_l16Parts_6 :: .inBlock 1 :: sk) e h R) := nr rfl
@[simp, simp ↓] theorem c_spec_l16Parts_8_r : vc2 C (n + 1) [] (.code c_spec_l16Parts_8 :: sk) e h R = (vc2 C n c_spec_l16Parts_o5 sk e h R) := nr rfl
@[simp, simp ↓] theorem c_spec_l16Parts_9_r : vc2 C (n + 1) [] (.code c_spec_l16Parts_9 :: sk) e h R = (vc2 C n [] (.code c_spec_l16Parts_7 :: .code c_spec_l16Parts_8 :: sk) e h R) := nr rfl
@[simp, simp ↓] theorem c_spec_l16Parts_10_r : vc2 C (n + 1) [] (.code c_spec_l16Parts_10 :: sk) e h R = (vc2 C n [] (.code c_spec_l16Parts_5 :: .code c_spec_l16Parts_9 :: sk) e h R) := nr rfl
@[simp, simp ↓] theorem c_spec_l16Parts_11_r : vc2 C (n + 1) [] (.code c_spec_l16Parts_11 :: sk) e h R = (Run2 C (.code c_spec_l16Parts_10 :: .inLoop c_spec_l16Parts_10 :: sk) e h R) := nr rfl
@[simp, simp ↓] theorem c_spec_l16Parts_12_r : vc2 C (n + 1) [] (.code c_spec_l16Parts_12 :: sk) e h R = (vc2 C n [] (.code c_spec_l16Parts_11 :: .inBlock 0 :: sk) e h R) := nr rfl
@[simp, simp ↓] theorem c_spec_l16Parts_13_r : vc2 C (n + 1) [] (.code c_spec_l16Parts_13 :: sk) e h R = (vc2 C n [] (.code c_spec_l16Parts_2 :: .code c_spec_l16Parts_12 :: sk) e h R) := nr rfl
@[simp, simp ↓] theorem c_spec_l16Parts_14_r : vc2 C (n + 1) [] (.code c_spec_l16Parts_14 :: sk) e h R = (vc2 C n c_spec_l16Parts_o6 sk e h R) := nr rfl
@[simp, simp ↓] theorem c_spec_l16Parts_15_r : vc2 C (n + 1) [] (.code c_spec_l16Parts_15 :: sk) e h R = (vc2 C n c_spec_l16Parts_o7 sk e h R) := nr rfl
@[simp, simp ↓] theorem c_spec_l16Parts_16_r : vc2 C (n + 1) [] (.code c_spec_l16Parts_16 :: sk) e h R = (condK (ev e (.t 27)) (vc2 C n [] (.code .skip :: sk) e h R) (vc2 C n [] (.code (.exit 2) :: sk) e h R)) := nr rfl
@[simp, simp ↓] theorem c_spec_l16Parts_17_r : vc2 C (n + 1) [] (.code c_spec_l16Parts_17 :: sk) e h R = (vc2 C n [] (.code c_spec_l16Parts_15 :: .code c_spec_l16Parts_16 :: sk) e h R) := nr rfl
@[simp, simp ↓] theorem c_spec_l16Parts_18_r : vc2 C (n + 1) [] (.code c_spec_l16Parts_18 :: sk) e h R = (vc2 C n c_spec_l16Parts_o8 sk e h R) := nr rfl
@[simp, simp ↓] theorem c_spec_l16Parts_19_r : vc2 C (n + 1) [] (.code c_spec_l16Parts_19 :: sk) e h R = (vc2 C n c_spec_l16Parts_o9 sk e h R) := nr rfl
@[simp, simp ↓] theorem c_spec_l16Parts_20_r : vc2 C (n + 1) [] (.code c_spec_l16Parts_20 :: sk) e h R = (condK (ev e (.t 36)) (vc2 C n [] (.code .skip :: sk) e h R) (vc2 C n [] (.code (.exit 4) :: sk) e h R)) := nr rfl
@[simp, simp ↓] theorem c_spec_l16Parts_21_r : vc2 C (n + 1) [] (.code c_spec_l16Parts_21 :: sk) e h R = (vc2 C n [] (.code c_spec_l16Parts_19 :: .code c_spec_l16Parts_20 :: sk) e h R) := nr rfl
@[simp, simp ↓] theorem c_spec_l16Parts_22_r : vc2 C (n + 1) [] (.code c_spec_l16Parts_22 :: sk) e h R = (vc2 C n c_spec_l16Parts_o10 sk e h R) := nr rfl
@[simp, simp ↓] theorem c_spec_l16Parts_23_r : vc2 C (n + 1) [] (.code c_spec_l16Parts_23 :: sk) e h R = (draw2 C h (vK C n [] sk R h) c_spec_l16Parts_o11 e) := nr rfl
@[simp, simp ↓] theorem c_spec_l16Parts_24_r : vc2 C (n + 1) [] (.code c_spec_l16Parts_24 :: sk) e h R = (vc2 C n c_spec_l16Parts_o12 sk e h R) := nr rfl
@[simp, simp ↓] theorem c_spec_l16Parts_25_r : vc2 C (n + 1) [] (.code c_spec_l16Parts_25 :: sk) e h R = (vc2 C n c_spec_l16Parts_o13 sk e h R) := nr rfl
@[simp, simp ↓] theorem c_spec_l16Parts_26_r : vc2 C (n + 1) [] (.code c_spec_l16Parts_26 :: sk) e h R = (vc2 C n [] (.code c_spec_l16Parts_24 :: .code c_spec_l16Parts_25 :: sk) e h R) := nr rfl
@[simp, simp ↓] theorem c_spec_l16Parts_27_r : vc2 C (n + 1) [] (.code c_spec_l16Parts_27 :: sk) e h R = (vc2 C n [] (.code c_spec_l16Parts_23 :: .code c_spec_l16Parts_26 :: sk) e h R) := nr rfl
@[simp, simp ↓] theorem c_spec_l16Parts_28_r : vc2 C (n + 1) [] (.code c_spec_l16Parts_28 :: sk) e h R = (vc2 C n [] (.code c_spec_l16Parts_22 :: .code c_spec_l16Parts_27 :: sk) e h R) := nr rfl
@[simp, simp ↓] theorem c_spec_l16Parts_29_r : vc2 C (n + 1) [] (.code c_spec_l16Parts_29 :: sk) e h R = (vc2 C n [] (.code c_spec_l16Parts_28 :: .inBlock 5 :: sk) e h R) := nr rfl
@[simp, simp ↓] theorem c_spec_l16Parts_30_r : vc2 C (n + 1) [] (.code c_spec_l16Parts_30 :: sk) e h R = (vc2 C n c_spec_l16Parts_o14 sk e h R) := nr rfl
@[simp, simp ↓] theorem c_spec_l16Parts_31_r : vc2 C (n + 1) [] (.code c_spec_l16Parts_31 :: sk) e h R = (vc2 C n [] (.code c_spec_l16Parts_29 :: .code c_spec_l16Parts_30 :: sk) e h R) := nr rfl
@[simp, simp ↓] theorem c_spec_l16Parts_32_r : vc2 C (n + 1) [] (.code c_spec_l16Parts_32 :: sk) e h R = (vc2 C n [] (.code c_spec_l16Parts_21 :: .code c_spec_l16Parts_31 :: sk) e h R) := nr rfl
@[simp, simp ↓] theorem c_spec_l16Parts_33_r : vc2 C (n + 1) [] (.code c_spec_l16Parts_33 :: sk) e h R = (Run2 C (.code c_spec_l16Parts_32 :: .inLoop c_spec_l16Parts_32 :: sk) e h R) := nr rfl
@[simp, simp ↓] theorem c_spec_l16Parts_34_r : vc2 C (n + 1) [] (.code c_spec_l16Parts_34 :: sk) e h R = (vc2 C n [] (.code c_spec_l16Parts_33 :: .inBlock 4 :: sk) e h R) := nr rfl
@[simp, simp ↓] theorem c_spec_l16Parts_35_r : vc2 C (n + 1) [] (.code c_spec_l16Parts_35 :: sk) e h R = (vc2 C n [] (.code c_spec_l16Parts_18 :: .code c_spec_l16Parts_34 :: sk) e h R) := nr rfl
@[simp, simp ↓] theorem c_spec_l16Parts_36_r : vc2 C (n + 1) [] (.code c_spec_l16Parts_36 :: sk) e h R = (vc2 C n [] (.code c_spec_l16Parts_35 :: .inBlock 3 :: sk) e h R) := nr rfl
@[simp, simp ↓] theorem c_spec_l16Parts_37_r : vc2 C (n + 1) [] (.code c_spec_l16Parts_37 :: sk) e h R = (vc2 C n c_spec_l16Parts_o15 sk e h R) := nr rfl
@[simp, simp ↓] theorem c_spec_l16Parts_38_r : vc2 C (n + 1) [] (.code c_spec_l16Parts_38 :: sk) e h R = (vc2 C n [] (.code c_spec_l16Parts_36 :: .code c_spec_l16Parts_37 :: sk) e h R) := nr rfl
@[simp, simp ↓] theorem c_spec_l16Parts_39_r : vc2 C (n + 1) [] (.code c_spec_l16Parts_39 :: sk) e h R = (vc2 C n [] (.code c_spec_l16Parts_17 :: .code c_spec_l16Parts_38 :: sk) e h R) := nr rfl
@[simp, simp ↓] theorem c_spec_l16Parts_40_r : vc2 C (n + 1) [] (.code c_spec_l16Parts_40 :: sk) e h R = (Run2 C (.code c_spec_l16Parts_39 :: .inLoop c_spec_l16Parts_39 :: sk) e h R) := nr rfl
@[simp, simp ↓] theorem c_spec_l16Parts_41_r : vc2 C (n + 1) [] (.code c_spec_l16Parts_41 :: sk) e h R = (vc2 C n [] (.code c_spec_l16Parts_40 :: .inBlock 2 :: sk) e h R) := nr rfl
@[simp, simp ↓] theorem c_spec_l16Parts_42_r : vc2 C (n + 1) [] (.code c_spec_l16Parts_42 :: sk) e h R = (vc2 C n [] (.code c_spec_l16Parts_14 :: .code c_spec_l16Parts_41 :: sk) e h R) := nr rfl
@[simp, simp ↓] theorem c_spec_l16Parts_43_r : vc2 C (n + 1) [] (.code c_spec_l16Parts_43 :: sk) e h R = (vc2 C n c_spec_l16Parts_o16 sk e h R) := nr rfl
@[simp, simp ↓] theorem c_spec_l16Parts_44_r : vc2 C (n + 1) [] (.code c_spec_l16Parts_44 :: sk) e h R = (vc2 C n [] (.code c_spec_l16Parts_43 :: .code .ret :: sk) e h R) := nr rfl
@[simp, simp ↓] theorem c_spec_l16Parts_45_r : vc2 C (n + 1) [] (.code c_spec_l16Parts_45 :: sk) e h R = (vc2 C n [] (.code c_spec_l16Parts_42 :: .code c_spec_l16Parts_44 :: sk) e h R) := nr rfl
@[simp, simp ↓] theorem c_spec_l16Parts_46_r : vc2 C (n + 1) [] (.code c_spec_l16Parts_46 :: sk) e h R = (vc2 C n [] (.code c_spec_l16Parts_13 :: .code c_spec_l16Parts_45 :: sk) e h R) := nr rfl
@[simp, simp ↓] theorem c_spec_l16Parts_47_r : vc2 C (n + 1) [] (.code c_spec_l16Parts_47 :: sk) e h R = (vc2 C n [] (.code c_spec_l16Parts_1 :: .code c_spec_l16Parts_46 :: sk) e h R) := nr rfl
@[simp, simp ↓] theorem c_spec_l16Parts_48_r : vc2 C (n + 1) [] (.code c_spec_l16Parts_48 :: sk) e h R = (vc2 C n [] (.code c_spec_l16Parts_0 :: .code c_spec_l16Parts_47 :: sk) e h R) := nr rfl
end
noncomputable def c_spec_l16Parts_C (orc : Orc) : Cx := ⟨Try.prog, [7, 9], 130, 68, [.tmp 2], orc⟩
@[simp] theorem c_spec_l16Parts_C_P (orc : Orc) : (c_spec_l16Parts_C orc).P = Try.prog := nr rfl
@[simp] theorem c_spec_l16Parts_C_o (orc : Orc) : (c_spec_l16Parts_C orc).orc = orc := nr rfl
@[simp] theorem c_spec_l16Parts_C_r (orc : Orc) : (c_spec_l16Parts_C orc).res = [.tmp 2] := nr rfl
theorem c_spec_l16Parts_of {args : List AV} {h : Heap} {R : AV → Heap → Prop} {k : Nat} (ha : args.length = k) {orc : Orc} (hp : Pure Try.prog orc) (hk : Is (c_spec_l16Parts_C orc) Try.f130 → Run2 (c_spec_l16Parts_C orc) [.code c_spec_l16Parts_48] (argEnv 0 args) h (Post R)) (hle : k ≤ 68 := by simp) : ACalls Try.prog 130 args h R :=
  contract2 [7, 9] c_spec_l16Parts_48 [.tmp 2] Try.func130 (by decide +kernel) rfl (by kernel_rfl) (by rw [ha]; exact hle) (by kernel_rfl) hp hk
theorem c_spec_l16Parts_of0 {args : List AV} {h : Heap} {R : AV → Heap → Prop} {k : Nat} (ha : args.length = k) {orc : Orc} (hp : Pure Try.prog orc) (hk : Is (c_spec_l16Parts_C orc) Try.f130 → Run2 (c_spec_l16Parts_C orc) [.code c_spec_l16Parts_48] (argEnv 0 args) h R) (hle : k ≤ 68 := by simp) : ACalls Try.prog 130 args h R :=
  contract20 [7, 9] c_spec_l16Parts_48 [.tmp 2] Try.func130 (by decide +kernel) rfl (by kernel_rfl) (by rw [ha]; exact hle) (by kernel_rfl) hp hk
theorem l16Parts_c (x : Gr) (hv : x.valid) (h : Heap) : ACalls Try.prog 130 [.ip [.int .i64 x.n, .snap 3 (x.ts.map T.av)]] h (fun v h' => v = .snap 1 (x.comps.map iv) ∧ h' = h) := by
  have hn1 := hv.1
  have hn2 := hv.2.1
  have hE := hv.2.2.2
  obtain ⟨n, hn⟩ : ∃ n : Nat, x.n.toNat = n := ⟨_, rfl⟩
  refine c_spec_l16Parts_of rfl (lk_pure o_l00Min_k lk_pure0) fun I => ?_
  refine Run2.of I 1000 ?_
  simp -implicitDefEqProofs
  refine Run2.loopE (α := Nat × AV × Heap) (fun s => [(0, .ip [.int .i64 x.n, .snap 3 (x.ts.map T.av)]), (3, s.2.1), (4, .int .i64 (s.1 : Nat))]) (fun s => s.2.2 ++ h) (fun s => n - s.1) (fun s => s.1 ≤ n ∧ Grow 1 s.2.1 ((upto s.1).map iv) s.2.2) (0, .emp, []) (by simp) rfl ⟨Nat.zero_le _, by simpa [upto] using Grow.emp⟩ ?_
  rintro ⟨i, w, hp⟩ ⟨hi, hg⟩ ih0
  simp only at hi hg
  have hcell := hg.cell
  by_cases hlt : i < n
  · have hltx : (i : Int) < x.n := by omega
    have go := fun w' hp' (g : Grow 1 w' ((upto i).map iv ++ [.int .i64 i]) hp') => ih0 (i + 1, w', hp') ⟨hlt, by simp only; rw [upto_succ]; simpa using g⟩ (by simp; omega)
    clear ih0
    refine Run2.of I 1000 ?_
    simp -implicitDefEqProofs [hltx, hcell]
    refine hg.app (by simp; omega) (by simp) fun w' hp' hg' => ?_
    have hcell' := hg'.cell
    simp -implicitDefEqProofs [hcell']
    refine ⟨by omega, ?_⟩
    simpa using go w' hp' hg'
  · obtain rfl : n = i := by omega
    have hltx : ¬ (n : Int) < x.n := by omega
    obtain ⟨id, rfl, rfl⟩ := hg.ne (by intro e; have := congrArg List.length e; simp at this; omega)
    clear ih0
    refine Run2.of I 1000 ?_
    simp -implicitDefEqProofs [hltx]
    refine Run2.loopE (fun (k : Nat) => [(0, .ip [.int .i64 x.n, .snap 3 (x.ts.map T.av)]), (3, .sl id 1 0 n none), (5, .int .i64 k)]) (fun k => (id, ⟨1, (x.comp k).map iv⟩) :: h) (fun k => n - k) (fun k => k ≤ n) 0 (by simp) (by simp [Gr.comp, hn]) (Nat.zero_le _) fun k hk ih => ?_
    have hcl := x.comp_length k
    rw [hn] at hcl
    by_cases hlt : k < n
    · have hltx : (k : Int) < x.n := by omega
      have go := ih (k + 1) (by omega) (by omega)
      have hcs : x.comp (k + 1) = lowF (x.comp k) x.ts := rfl
      rw [hcs] at go
      clear ih
      generalize x.comp k = c at *
      refine Run2.of I 1000 ?_
      simp -implicitDefEqProofs [hltx]
      refine Run2.loopE (fun (j : Nat) => [(0, .ip [.int .i64 x.n, .snap 3 (x.ts.map T.av)]), (3, .sl id 1 0 n none), (5, .int .i64 k), (6, .int .i64 j)]) (fun j => (id, ⟨1, (lowF c (x.ts.take j)).map iv⟩) :: h) (fun j => x.ts.length - j) (fun j => j ≤ x.ts.length) 0 (by simp) (by simp [lowF]) (Nat.zero_le _) fun j hj ihj => ?_
      have hbl := lowF_length c (x.ts.take j)
      rw [hcl] at hbl
      by_cases hlt2 : j < x.ts.length
      · have goj := ihj (j + 1) (by omega) (by omega)
        rw [lowF_succ c x.ts hlt2] at goj
        have hel := hv.el (List.getElem_mem hlt2)
        unfold Gr.el at hel
        clear ihj
        generalize lowF c (x.ts.take j) = b at *
        have hf : x.ts[j].f.toNat < b.length := by omega
        have ht : x.ts[j].t.toNat < b.length := by omega
        have he := lowS_iv b x.ts[j] hf ht
        have hfn : x.ts[j].f.toNat < n := by omega
        have htn : x.ts[j].t.toNat < n := by omega
        have h1 := hel.1
        have h2 : 0 ≤ x.ts[j].t := by omega
        have h3 : x.ts[j].f < n := by omega
        have h4 : x.ts[j].t < n := by omega
        refine Run2.of I 1000 ?_
        simp -implicitDefEqProofs [hlt2, hf, ht, hfn, htn, h1, h2, h3, h4, hbl, he]
        refine ⟨by omega, ?_⟩
        simpa using goj
      · obtain rfl : j = x.ts.length := by omega
        rw [List.take_length]
        refine Run2.of I 1000 ?_
        simp -implicitDefEqProofs
        refine ⟨by omega, ?_⟩
        simpa using go
    · obtain rfl : n = k := by omega
      have hltx : ¬ (n : Int) < x.n := by omega
      refine Run2.of I 1000 ?_
      simp -implicitDefEqProofs [hltx]
      refine .freeze id (by simp [hget]; rfl) (.base ⟨?_, by simp [hdel]⟩)
      have hcc : x.comps = x.comp n := by rw [Gr.comps, hn]
      simp [fz, List.take_of_length_le, hcl, hcc]
abbrev c_spec_l24Connected_o0 : List AJ := [.o ⟨(some 2), none, false, .mv (.c (.bool false)), (some [0])⟩]
def c_spec_l24Connected_0 : ACode := .region c_spec_l24Connected_o0
abbrev c_spec_l24Connected_o1 : List AJ := [.o ⟨(some 5), none, false, .mv (.t 0), none⟩, .o ⟨(some 6), none, false, .call 130 [(.t 5)], none⟩, .o ⟨(some 3), none, false, .mv (.t 6), (some [3])⟩]
def c_spec_l24Connected_1 : ACode := .region c_spec_l24Connected_o1
abbrev c_spec_l24Connected_o2 : List AJ := [.o ⟨(some 4), none, false, .mv (.c (.int .i64 0)), (some [3, 4])⟩]
def c_spec_l24Connected_2 : ACode := .region c_spec_l24Connected_o2
abbrev c_spec_l24Connected_o3 : List AJ := [.o ⟨(some 7), none, false, .mv (.t 4), none⟩, .o ⟨(some 8), none, false, .mv (.t 3), none⟩, .o ⟨(some 9), none, false, .len (.t 8), none⟩, .o ⟨(some 10), none, false, .bin .lss (.t 7) (.t 9), (some [3, 4, 10])⟩]
def c_spec_l24Connected_3 : ACode := .region c_spec_l24Connected_o3
def c_spec_l24Connected_4 : ACode := .cond (.t 10) .skip (.exit 0)
def c_spec_l24Connected_5 : ACode := .seq c_spec_l24Connected_3 c_spec_l24Connected_4
abbrev c_spec_l24Connected_o4 : List AJ := [.o ⟨(some 13), none, false, .mv (.t 3), none⟩, .o ⟨(some 14), none, false, .mv (.t 4), none⟩, .o ⟨(some 15), none, false, .idxA 1 (.t 13) (.t 14), none⟩, .o ⟨(some 16), none, false, .load 1 false (.t 15), none⟩, .o ⟨(some 17), none, false, .bin .neq (.t 16) (.c (.int .i64 0)), (some [3, 4, 17])⟩]
def c_spec_l24Connected_6 : ACode := .region c_spec_l24Connected_o4
abbrev c_spec_l24Connected_o5 : List AJ := [.o ⟨(some 2), none, false, .mv (.c (.bool false)), (some [2])⟩]
def c_spec_l24Connected_7 : ACode := .region c_spec_l24Connected_o5
def c_spec_l24Connected_8 : ACode := .seq c_spec_l24Connected_7 .ret
def c_spec_l24Connected_9 : ACode := .cond (.t 17) c_spec_l24Connected_8 .skip
def c_spec_l24Connected_10 : ACode := .seq c_spec_l24Connected_6 c_spec_l24Connected_9
def c_spec_l24Connected_11 : ACode := .block 1 c_spec_l24Connected_10
abbrev c_spec_l24Connected_o6 : List AJ := [.o ⟨(some 11), none, false, .mv (.t 4), none⟩, .o ⟨(some 12), none, true, .bin .add (.t 11) (.c (.int .i64 1)), none⟩, .o ⟨(some 4), none, false, .mv (.t 12), (some [3, 4])⟩]
def c_spec_l24Connected_12 : ACode := .region c_spec_l24Connected_o6
def c_spec_l24Connected_13 : ACode := .seq c_spec_l24Connected_11 c_spec_l24Connected_12
def c_spec_l24Connected_14 : ACode := .seq c_spec_l24Connected_5 c_spec_l24Connected_13
def c_spec_l24Connected_15 : ACode := .loop c_spec_l24Connected_14
def c_spec_l24Connected_16 : ACode := .block 0 c_spec_l24Connected_15
def c_spec_l24Connected_17 : ACode := .seq c_spec_l24Connected_2 c_spec_l24Connected_16
abbrev c_spec_l24Connected_o7 : List AJ := [.o ⟨(some 2), none, false, .mv (.c (.bool true)), (some [2])⟩]
def c_spec_l24Connected_18 : ACode := .region c_spec_l24Connected_o7
def c_spec_l24Connected_19 : ACode := .seq c_spec_l24Connected_18 .ret
def c_spec_l24Connected_20 : ACode := .seq c_spec_l24Connected_17 c_spec_l24Connected_19
def c_spec_l24Connected_21 : ACode := .seq c_spec_l24Connected_1 c_spec_l24Connected_20
def c_spec_l24Connected_22 : ACode := .seq c_spec_l24Connected_0 c_spec_l24Connected_21
section
variable (C : Cx) (n : Nat) (sk : List AItem) (e : Env) (h : Heap) (R : AV → Heap → Prop)
@[simp, simp ↓] theorem c_spec_l24Connected_0_r : vc2 C (n + 1) [] (.code c_spec_l24Connected_0 :: sk) e h R = (vc2 C n c_spec_l24Connected_o0 sk e h R) := nr rfl
@[simp, simp ↓] theorem c_spec_l24Connected_1_r : vc2 C (n + 1) [] (.code c_spec_l24Connected_1 :: sk) e h R = (vc2 C n c_spec_l24Connected_o1 sk e h R) := nr rfl
@[simp, simp ↓] theorem c_spec_l24Connected_2_r : vc2 C (n + 1) [] (.code c_spec_l24Connected_2 :: sk) e h R = (vc2 C n c_spec_l24Connected_o2 sk e h R) := nr rfl
@[simp, simp ↓] theorem c_spec_l24Connected_3_r : vc2 C (n + 1) [] (.code c_spec_l24Connected_3 :: sk) e h R = (vc2 C n c_spec_l24Connected_o3 sk e h R) := nr rfl
@[simp, simp ↓] theorem c_spec_l24Connected_4_r : vc2 C (n + 1) [] (.code c_spec_l24Connected_4 :: sk) e h R = (condK (ev e (.t 10)) (vc2 C n [] (.code .skip :: sk) e h R) (vc2 C n [] (.code (.exit 0) :: sk) e h R)) := nr rfl
@[simp, simp ↓] theorem c_spec_l24Connected_5_r : vc2 C (n + 1) [] (.code c_spec_l24Connected_5 :: sk) e h R = (vc2 C n [] (.code c_spec_l24Connected_3 :: .code c_spec_l24Connected_4 :: sk) e h R) := nr rfl
@[simp, simp ↓] theorem c_spec_l24Connected_6_r : vc2 C (n + 1) [] (.code c_spec_l24Connected_6 :: sk) e h R = (vc2 C n c_spec_l24Connected_o4 sk e h R) := nr rfl
@[simp, simp ↓] theorem c_spec_l24Connected_7_r : vc2 C (n + 1) [] (.code c_spec_l24Connected_7 :: sk) e h R = (vc2 C n c_spec_l24Connected_o5 sk e h R) := nr rfl
@[simp, simp ↓] theorem c_spec_l24Connected_8_r : vc2 C (n + 1) [] (.code c_spec_l24Connected_8 :: sk) e h R = (vc2 C n [] (.code c_spec_l24Connected_7 :: .code .ret :: sk) e h R) := nr rfl
@[simp, simp ↓] theorem c_spec_l24Connected_9_r : vc2 C (n + 1) [] (.code c_spec_l24Connected_9 :: sk) e h R = (condK (ev e (.t 17)) (vc2 C n [] (.code c_spec_l24Connected_8 :: sk) e h R) (vc2 C n [] (.code .skip :: sk) e h R)) := nr rfl
@[simp, simp ↓] theorem c_spec_l24Connected_10_r : vc2 C (n + 1) [] (.code c_spec_l24Connected_10 :: sk) e h R = (vc2 C n [] (.code c_spec_l24Connected_6 :: .code c_spec_l24Connected_9 :: sk) e h R) := nr rfl
@[simp, simp ↓] theorem c_spec_l24Connected_11_r : vc2 C (n + 1) [] (.code c_spec_l24Connected_11 :: sk) e h R = (vc2 C n [] (.code c_spec_l24Connected_10 :: .inBlock 1 :: sk) e h R) := nr rfl
@[simp, simp ↓] theorem c_spec_l24Connected_12_r : vc2 C (n + 1) [] (.code c_spec_l24Connected_12 :: sk) e h R = (vc2 C n c_spec_l24Connected_o6 sk e h R) := nr rfl
@[simp, simp ↓] theorem c_spec_l24Connected_13_r : vc2 C (n + 1) [] (.code c_spec_l24Connected_13 :: sk) e h R = (vc2 C n [] (.code c_spec_l24Connected_11 :: .code c_spec_l24Connected_12 :: sk) e h R) := nr rfl
@[simp, simp ↓] theorem c_spec_l24Connected_14_r : vc2 C (n + 1) [] (.code c_spec_l24Connected_14 :: sk) e h R = (vc2 C n [] (.code c_spec_l24Connected_5 :: .code c_spec_l24Connected_13 :: sk) e h R) := nr rfl
@[simp, simp ↓] theorem c_spec_l24Connected_15_r : vc2 C (n + 1) [] (.code c_spec_l24Connected_15 :: sk) e h R = (Run2 C (.code c_spec_l24Connected_14 :: .inLoop c_spec_l24Connected_14 :: sk) e h R) := nr rfl
@[simp, simp ↓] theorem c_spec_l24Connected_16_r : vc2 C (n + 1) [] (.code c_spec_l24Connected_16 :: sk) e h R = (vc2 C n [] (.code c_spec_l24Connected_15 :: .inBlock 0 :: sk) e h R) := nr rfl
@[simp, simp ↓] theorem c_spec_l24Connected_17_r : vc2 C (n + 1) [] (.code c_spec_l24Connected_17 :: sk) e h R = (vc2 C n [] (.code c_spec_l24Connected_2 :: .code c_spec_l24Connected_16 :: sk) e h R) := nr rfl
@[simp, simp ↓] theorem c_spec_l24Connected_18_r : vc2 C (n + 1) [] (.code c_spec_l24Connected_18 :: sk) e h R = (vc2 C n c_spec_l24Connected_o7 sk e h R) := nr rfl
@[simp, simp ↓] theorem c_spec_l24Connected_19_r : vc2 C (n + 1) [] (.code c_spec_l24Connected_19 :: sk) e h R = (vc2 C n [] (.code c_spec_l24Connected_18 :: .code .ret :: sk) e h R) := nr rfl
@[simp, simp ↓] theorem c_spec_l24Connected_20_r : vc2 C (n + 1) [] (.code c_spec_l24Connected_20 :: sk) e h R = (vc2 C n [] (.code c_spec_l24Connected_17 :: .code c_spec_l24Connected_19 :: sk) e h R) := nr rfl
@[simp, simp ↓] theorem c_spec_l24Connected_21_r : vc2 C (n + 1) [] (.code c_spec_l24Connected_21 :: sk) e h R = (vc2 C n [] (.code c_spec_l24Connected_1 :: .code c_spec_l24Connected_20 :: sk) e h R) := nr rfl
@[simp, simp ↓] theorem c_spec_l24Connected_22_r : vc2 C (n + 1) [] (.code c_spec_l24Connected_22 :: sk) e h R = (vc2 C n [] (.code c_spec_l24Connected_0 :: .code c_spec_l24Connected_21 :: sk) e h R) := nr rfl
end
noncomputable def c_spec_l24Connected_C (orc : Orc) : Cx := ⟨Try.prog, [], 94, 18, [.tmp 2], orc⟩
@[simp] theorem c_spec_l24Connected_C_P (orc : Orc) : (c_spec_l24Connected_C orc).P = Try.prog := nr rfl
@[simp] theorem c_spec_l24Connected_C_o (orc : Orc) : (c_spec_l24Connected_C orc).orc = orc := nr rfl
@[simp] theorem c_spec_l24Connected_C_r (orc : Orc) : (c_spec_l24Connected_C orc).res = [.tmp 2] := nr rfl
theorem c_spec_l24Connected_of {args : List AV} {h : Heap} {R : AV → Heap → Prop} {k : Nat} (ha : args.length = k) {orc : Orc} (hp : Pure Try.prog orc) (hk : Is (c_spec_l24Connected_C orc) Try.f94 → Run2 (c_spec_l24Connected_C orc) [.code c_spec_l24Connected_22] (argEnv 0 args) h (Post R)) (hle : k ≤ 18 := by simp) : ACalls Try.prog 94 args h R :=
  contract2 [] c_spec_l24Connected_22 [.tmp 2] Try.func94 (by decide +kernel) rfl (by kernel_rfl) (by rw [ha]; exact hle) (by kernel_rfl) hp hk
theorem c_spec_l24Connected_of0 {args : List AV} {h : Heap} {R : AV → Heap → Prop} {k : Nat} (ha : args.length = k) {orc : Orc} (hp : Pure Try.prog orc) (hk : Is (c_spec_l24Connected_C orc) Try.f94 → Run2 (c_spec_l24Connected_C orc) [.code c_spec_l24Connected_22] (argEnv 0 args) h R) (hle : k ≤ 18 := by simp) : ACalls Try.prog 94 args h R :=
  contract20 [] c_spec_l24Connected_22 [.tmp 2] Try.func94 (by decide +kernel) rfl (by kernel_rfl) (by rw [ha]; exact hle) (by kernel_rfl) hp hk
theorem l24Connected_c (x : Gr) (hv : x.valid) (h : Heap) : ACalls Try.prog 94 [.ip [.int .i64 x.n, .snap 3 (x.ts.map T.av)]] h (fun v h' => v = .bool (decide x.conn) ∧ h' = h) := by
  have hn2 := hv.2.1
  have hcl : x.comps.length = x.n.toNat := x.comp_length _
  refine c_spec_l24Connected_of0 rfl noPure fun I => ?_
  refine Run2.of I 1000 ?_
  simp -implicitDefEqProofs
  refine (l16Parts_c x hv h).mono ?_
  rintro v h' ⟨rfl, rfl⟩
  refine gK.go ?_
  simp -implicitDefEqProofs
  have hcc : x.conn ↔ ∀ a ∈ x.comps, a = 0 := Iff.rfl
  generalize x.comps = l at *
  refine Run2.loopE (fun (i : Nat) => [(3, .snap 1 (l.map iv)), (4, .int .i64 i)]) (fun i => h') (fun i => l.length - i) (fun i => i ≤ l.length ∧ ∀ j (hj : j < l.length), j < i → l[j] = 0) 0 (by simp) rfl ⟨Nat.zero_le _, fun _ _ h => by omega⟩ fun i hi ih => ?_
  by_cases hlt : i < l.length
  · have hbad : ¬ l[i] = 0 → ¬ x.conn := fun h1 h2 => h1 (hcc.1 h2 _ (List.getElem_mem hlt))
    have go := fun (h1 : l[i] = 0) => ih (i + 1) ⟨by omega, fun j hj hji => by
      rcases Nat.lt_or_ge j i with h | h
      · exact hi.2 j hj h
      · obtain rfl : j = i := by omega
        exact h1⟩ (by omega)
    clear ih
    refine Run2.of I 1000 ?_
    simp -implicitDefEqProofs [hlt]
    simp at go
    refine ⟨fun h => ?_, fun h => ⟨by omega, go h⟩⟩
    exact hbad h
  · obtain rfl : i = l.length := by omega
    have h1 : x.conn := hcc.2 fun a ha => by
      obtain ⟨j, hj, rfl⟩ := List.mem_iff_getElem.1 ha
      exact hi.2 j hj hj
    refine Run2.of I 1000 ?_
    simp -implicitDefEqProofs [h1]
end Go.AG
