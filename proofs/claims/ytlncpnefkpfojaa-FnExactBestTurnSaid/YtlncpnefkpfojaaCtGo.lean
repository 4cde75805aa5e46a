/- The time until all know of all: what the program's functions give. No statement is made here. -/
import Derived.Test.YtlncpnefkpfojaaCtT
import Derived.Test.YtlncpnefkpfojaaAGLists2
namespace Go.AG
open Go.Proofs Go.Proofs.Ytlncpnefkpfojaa
set_option linter.unusedSimpArgs false
set_option linter.unusedVariables false
set_option maxRecDepth 4000
theorem lowS_iv (l : List Int) (e : T) (hf : e.f.toNat < l.length) (ht : e.t.toNat < l.length) : ((l.map iv).set e.f.toNat (.int .i64 (min l[e.f.toNat] l[e.t.toNat]))).set e.t.toNat (.int .i64 (min l[e.f.toNat] l[e.t.toNat])) = (lowS l e).map iv := by
  unfold lowS
  rw [show l.getD e.f.toNat 0 = l[e.f.toNat] by simp [hf], show l.getD e.t.toNat 0 = l[e.t.toNat] by simp [ht], List.map_set, List.map_set]
  rfl
def lowF (l : List Int) (ts : List T) : List Int := ts.foldl lowS l
theorem lowF_succ (l : List Int) (ts : List T) {j : Nat} (h : j < ts.length) : lowF l (ts.take (j + 1)) = lowS (lowF l (ts.take j)) ts[j] := by
  unfold lowF
  rw [List.take_succ_eq_append_getElem h, List.foldl_append]; rfl
@[simp] theorem lowF_length (l : List Int) (ts : List T) : (lowF l ts).length = l.length := by
  unfold lowF
  induction ts generalizing l with
  | nil => rfl
  | cons e ts ih => rw [List.foldl_cons, ih, lowS_length]
@[simp] theorem Gr.comp_length (x : Gr) : ∀ k, (x.comp k).length = x.n.toNat
  | 0 => by simp [Gr.comp]
  | k + 1 => by
    show (lowF (x.comp k) x.ts).length = _
    rw [lowF_length, Gr.comp_length x k]
abbrev c_impl_components_o0 : List AJ := [.o ⟨(some 1), none, false, .box false 2 (.t 0), none⟩, .o ⟨(some 2), none, false, .mv (.c .nilsl), (some [1])⟩]
def c_impl_components_0 : ACode := .region c_impl_components_o0
abbrev c_impl_components_o1 : List AJ := [.o ⟨(some 7), none, false, .fieldA 0 (.t 1), none⟩, .o ⟨(some 8), none, false, .load 1 false (.t 7), none⟩, .o ⟨(some 9), none, false, .call 87 [(.t 8)], none⟩, .o ⟨(some 3), none, false, .mv (.t 9), (some [1, 3])⟩]
def c_impl_components_1 : ACode := .region c_impl_components_o1
abbrev c_impl_components_o2 : List AJ := [.o ⟨(some 10), none, false, .fieldA 0 (.t 1), none⟩, .o ⟨(some 11), none, false, .load 1 false (.t 10), none⟩, .o ⟨(some 12), none, false, .mv (.c (.int .i64 0)), (some [1, 3, 11, 12])⟩]
def c_impl_components_2 : ACode := .region c_impl_components_o2
abbrev c_impl_components_o3 : List AJ := [.o ⟨(some 13), none, false, .bin .lss (.t 12) (.t 11), (some [1, 3, 11, 12, 13])⟩]
def c_impl_components_3 : ACode := .region c_impl_components_o3
def c_impl_components_4 : ACode := .cond (.t 13) .skip (.exit 0)
abbrev c_impl_components_o4 : List AJ := [.o ⟨(some 14), none, false, .fieldA 1 (.t 1), none⟩, .o ⟨(some 15), none, false, .load 1 false (.t 14), none⟩, .o ⟨(some 16), none, false, .len (.t 15), none⟩, .o ⟨(some 17), none, false, .mv (.c (.int .i64 0)), (some [1, 3, 11, 12, 15, 16, 17])⟩]
def c_impl_components_5 : ACode := .region c_impl_components_o4
abbrev c_impl_components_o5 : List AJ := [.o ⟨(some 18), none, false, .bin .lss (.t 17) (.t 16), (some [1, 3, 11, 12, 15, 16, 17, 18])⟩]
def c_impl_components_6 : ACode := .region c_impl_components_o5
def c_impl_components_7 : ACode := .cond (.t 18) .skip (.exit 2)
abbrev c_impl_components_o6 : List AJ := [.o ⟨(some 19), none, false, .idxA 3 (.t 15) (.t 17), none⟩, .o ⟨(some 20), none, false, .load 3 true (.t 19), none⟩, .v 5 3 (.agg [(.int .i64 0), (.int .i64 0), (.int .i64 0)]) [] (.t 20) (some [1, 3, 5, 11, 12, 15, 16, 17])]
def c_impl_components_8 : ACode := .region c_impl_components_o6
abbrev c_impl_components_o7 : List AI := [⟨(some 21), none, false, .mv (.t 3), none⟩, ⟨(some 22), none, false, .fieldA 0 (.t 5), none⟩, ⟨(some 23), none, false, .load 1 false (.t 22), none⟩, ⟨(some 24), none, false, .idxA 1 (.t 21) (.t 23), none⟩, ⟨(some 25), none, false, .load 1 false (.t 24), none⟩, ⟨(some 26), none, false, .mv (.t 3), none⟩, ⟨(some 27), none, false, .fieldA 1 (.t 5), none⟩, ⟨(some 28), none, false, .load 1 false (.t 27), none⟩, ⟨(some 29), none, false, .idxA 1 (.t 26) (.t 28), none⟩, ⟨(some 30), none, false, .load 1 false (.t 29), none⟩, ⟨(some 31), none, false, .mx false [(.t 25), (.t 30)], none⟩, ⟨(some 6), none, false, .mv (.t 31), (some [1, 3, 5, 6, 11, 12, 15, 16, 17])⟩]
def c_impl_components_9 : ACode := .draw c_impl_components_o7 [] rfl
abbrev c_impl_components_o8 : List AJ := [.o ⟨(some 32), none, false, .mv (.t 3), none⟩, .o ⟨(some 33), none, false, .fieldA 0 (.t 5), none⟩, .o ⟨(some 34), none, true, .load 1 false (.t 33), none⟩, .o ⟨(some 35), none, false, .mv (.t 3), none⟩, .o ⟨(some 36), none, false, .fieldA 1 (.t 5), none⟩, .o ⟨(some 37), none, true, .load 1 false (.t 36), none⟩, .o ⟨(some 38), none, false, .mv (.t 6), none⟩, .o ⟨(some 39), none, false, .mv (.t 6), none⟩, .o ⟨(some 40), none, false, .idxA 1 (.t 32) (.t 34), none⟩, .o ⟨none, none, false, .store 1 (.t 40) (.t 38), none⟩, .o ⟨(some 41), none, false, .idxA 1 (.t 35) (.t 37), none⟩, .o ⟨none, none, false, .store 1 (.t 41) (.t 39), (some [1, 3, 11, 12, 15, 16, 17])⟩]
def c_impl_components_10 : ACode := .drawT 2 c_impl_components_o8 rfl
def c_impl_components_11 : ACode := .seq c_impl_components_9 c_impl_components_10
def c_impl_components_12 : ACode := .seq c_impl_components_8 c_impl_components_11
def c_impl_components_13 : ACode := .block 3 c_impl_components_12
abbrev c_impl_components_o9 : List AJ := [.o ⟨(some 42), none, true, .bin .add (.t 17) (.c (.int .i64 1)), none⟩, .o ⟨(some 17), none, false, .mv (.t 42), (some [1, 3, 11, 12, 15, 16, 17])⟩]
def c_impl_components_14 : ACode := .region c_impl_components_o9
def c_impl_components_15 : ACode := .seq c_impl_components_13 c_impl_components_14
def c_impl_components_16 : ACode := .seq c_impl_components_7 c_impl_components_15
def c_impl_components_17 : ACode := .seq c_impl_components_6 c_impl_components_16
def c_impl_components_18 : ACode := .loop c_impl_components_17
def c_impl_components_19 : ACode := .block 2 c_impl_components_18
def c_impl_components_20 : ACode := .seq c_impl_components_5 c_impl_components_19
def c_impl_components_21 : ACode := .block 1 c_impl_components_20
abbrev c_impl_components_o10 : List AJ := [.o ⟨(some 43), none, true, .bin .add (.t 12) (.c (.int .i64 1)), none⟩, .o ⟨(some 12), none, false, .mv (.t 43), (some [1, 3, 11, 12])⟩]
def c_impl_components_22 : ACode := .region c_impl_components_o10
def c_impl_components_23 : ACode := .seq c_impl_components_21 c_impl_components_22
def c_impl_components_24 : ACode := .seq c_impl_components_4 c_impl_components_23
def c_impl_components_25 : ACode := .seq c_impl_components_3 c_impl_components_24
def c_impl_components_26 : ACode := .loop c_impl_components_25
def c_impl_components_27 : ACode := .block 0 c_impl_components_26
def c_impl_components_28 : ACode := .seq c_impl_components_2 c_impl_components_27
abbrev c_impl_components_o11 : List AJ := [.o ⟨(some 44), none, false, .mv (.t 3), none⟩, .o ⟨(some 2), none, false, .mv (.t 44), (some [2])⟩]
def c_impl_components_29 : ACode := .region c_impl_components_o11
def c_impl_components_30 : ACode := .seq c_impl_components_29 .ret
def c_impl_components_31 : ACode := .seq c_impl_components_28 c_impl_components_30
def c_impl_components_32 : ACode := .seq c_impl_components_1 c_impl_components_31
def c_impl_components_33 : ACode := .seq c_impl_components_0 c_impl_components_32
section
variable (C : Cx) (n : Nat) (sk : List AItem) (e : Env) (h : Heap) (R : AV → Heap → Prop)
@[simp, simp ↓] theorem c_impl_components_0_r : vc2 C (n + 1) [] (.code c_impl_components_0 :: sk) e h R = (vc2 C n c_impl_components_o0 sk e h R) := nr rfl
@[simp, simp ↓] theorem c_impl_components_1_r : vc2 C (n + 1) [] (.code c_impl_components_1 :: sk) e h R = (vc2 C n c_impl_components_o1 sk e h R) := nr rfl
@[simp, simp ↓] theorem c_impl_components_2_r : vc2 C (n + 1) [] (.code c_impl_components_2 :: sk) e h R = (vc2 C n c_impl_components_o2 sk e h R) := nr rfl
@[simp, simp ↓] theorem c_impl_components_3_r : vc2 C (n + 1) [] (.code c_impl_components_3 :: sk) e h R = (vc2 C n c_impl_components_o3 sk e h R) := nr rfl
@[simp, simp ↓] theorem c_impl_components_4_r : vc2 C (n + 1) [] (.code c_impl_components_4 :: sk) e h R = (condK (ev e (.t 13)) (vc2 C n [] (.code .skip :: sk) e h R) (vc2 C n [] (.code (.exit 0) :: sk) e h R)) := nr rfl
@[simp, simp ↓] theorem c_impl_components_5_r : vc2 C (n + 1) [] (.code c_impl_components_5 :: sk) e h R = (vc2 C n c_impl_components_o4 sk e h R) := nr rfl
@[simp, simp ↓] theorem c_impl_components_6_r : vc2 C (n + 1) [] (.code c_impl_components_6 :: sk) e h R = (vc2 C n c_impl_components_o5 sk e h R) := nr rfl
@[simp, simp ↓] theorem c_impl_components_7_r : vc2 C (n + 1) [] (.code c_impl_components_7 :: sk) e h R = (condK (ev e (.t 18)) (vc2 C n [] (.code .skip :: sk) e h R) (vc2 C n [] (.code (.exit 2) :: sk) e h R)) := nr rfl
@[simp, simp ↓] theorem c_impl_components_8_r : vc2 C (n + 1) [] (.code c_impl_components_8 :: sk) e h R = (vc2 C n c_impl_components_o6 sk e h R) := nr rfl
@[simp, simp ↓] theorem c_impl_components_9_r : vc2 C (n + 1) [] (.code c_impl_components_9 :: sk) e h R = (draw2 C h (vK C n [] sk R h) c_impl_components_o7 e) := nr rfl
@[simp, simp ↓] theorem c_impl_components_10_r : vc2 C (n + 1) [] (.code c_impl_components_10 :: sk) e h R = (200 ≤ n ∧ vc2 C n c_impl_components_o8 sk e h R) := nr rfl
@[simp, simp ↓] theorem c_impl_components_11_r : vc2 C (n + 1) [] (.code c_impl_components_11 :: sk) e h R = (vc2 C n [] (.code c_impl_components_9 :: .code c_impl_components_10 :: sk) e h R) := nr rfl
@[simp, simp ↓] theorem c_impl_components_12_r : vc2 C (n + 1) [] (.code c_impl_components_12 :: sk) e h R = (vc2 C n [] (.code c_impl_components_8 :: .code c_impl_components_11 :: sk) e h R) := nr rfl
@[simp, simp ↓] theorem c_impl_components_13_r : vc2 C (n + 1) [] (.code c_impl_components_13 :: sk) e h R = (vc2 C n [] (.code c_impl_components_12 :: .inBlock 3 :: sk) e h R) := nr rfl
@[simp, simp ↓] theorem c_impl_components_14_r : vc2 C (n + 1) [] (.code c_impl_components_14 :: sk) e h R = (vc2 C n c_impl_components_o9 sk e h R) := nr rfl
@[simp, simp ↓] theorem c_impl_components_15_r : vc2 C (n + 1) [] (.code c_impl_components_15 :: sk) e h R = (vc2 C n [] (.code c_impl_components_13 :: .code c_impl_components_14 :: sk) e h R) := nr rfl
@[simp, simp ↓] theorem c_impl_components_16_r : vc2 C (n + 1) [] (.code c_impl_components_16 :: sk) e h R = (vc2 C n [] (.code c_impl_components_7 :: .code c_impl_components_15 :: sk) e h R) := nr rfl
@[simp, simp ↓] theorem c_impl_components_17_r : vc2 C (n + 1) [] (.code c_impl_components_17 :: sk) e h R = (vc2 C n [] (.code c_impl_components_6 :: .code c_impl_components_16 :: sk) e h R) := nr rfl
@[simp, simp ↓] theorem c_impl_components_18_r : vc2 C (n + 1) [] (.code c_impl_components_18 :: sk) e h R = (Run2 C (.code c_impl_components_17 :: .inLoop c_impl_components_17 :: sk) e h R) := nr rfl
@[simp, simp ↓] theorem c_impl_components_19_r : vc2 C (n + 1) [] (.code c_impl_components_19 :: sk) e h R = (vc2 C n [] (.code c_impl_components_18 :: .inBlock 2 :: sk) e h R) := nr rfl
@[simp, simp ↓] theorem c_impl_components_20_r : vc2 C (n + 1) [] (.code c_impl_components_20 :: sk) e h R = (vc2 C n [] (.code c_impl_components_5 :: .code c_impl_components_19 :: sk) e h R) := nr rfl
@[simp, simp ↓] theorem c_impl_components_21_r : vc2 C (n + 1) [] (.code c_impl_components_21 :: sk) e h R = (vc2 C n [] (.code c_impl_components_20 :: .inBlock 1 :: sk) e h R) := nr rfl
@[simp, simp ↓] theorem c_impl_components_22_r : vc2 C (n + 1) [] (.code c_impl_components_22 :: sk) e h R = (vc2 C n c_impl_components_o10 sk e h R) := nr rfl
@[simp, simp ↓] theorem c_impl_components_23_r : vc2 C (n + 1) [] (.code c_impl_components_23 :: sk) e h R = (vc2 C n [] (.code c_impl_components_21 :: .code c_impl_components_22 :: sk) e h R) := nr rfl
@[simp, simp ↓] theorem c_impl_components_24_r : vc2 C (n + 1) [] (.code c_impl_components_24 :: sk) e h R = (vc2 C n [] (.code c_impl_components_4 :: .code c_impl_components_23 :: sk) e h R) := nr rfl
@[simp, simp ↓] theorem c_impl_components_25_r : vc2 C (n + 1) [] (.code c_impl_components_25 :: sk) e h R = (vc2 C n [] (.code c_impl_components_3 :: .code c_impl_components_24 :: sk) e h R) := nr rfl
@[simp, simp ↓] theorem c_impl_components_26_r : vc2 C (n + 1) [] (.code c_impl_components_26 :: sk) e h R = (Run2 C (.code c_impl_components_25 :: .inLoop c_impl_components_25 :: sk) e h R) := nr rfl
@[simp, simp ↓] theorem c_impl_components_27_r : vc2 C (n + 1) [] (.code c_impl_components_27 :: sk) e h R = (vc2 C n [] (.code c_impl_components_26 :: .inBlock 0 :: sk) e h R) := nr rfl
@[simp, simp ↓] theorem c_impl_components_28_r : vc2 C (n + 1) [] (.code c_impl_components_28 :: sk) e h R = (vc2 C n [] (.code c_impl_components_2 :: .code c_impl_components_27 :: sk) e h R) := nr rfl
@[simp, simp ↓] theorem c_impl_components_29_r : vc2 C (n + 1) [] (.code c_impl_components_29 :: sk) e h R = (vc2 C n c_impl_components_o11 sk e h R) := nr rfl
@[simp, simp ↓] theorem c_impl_components_30_r : vc2 C (n + 1) [] (.code c_impl_components_30 :: sk) e h R = (vc2 C n [] (.code c_impl_components_29 :: .code .ret :: sk) e h R) := nr rfl
@[simp, simp ↓] theorem c_impl_components_31_r : vc2 C (n + 1) [] (.code c_impl_components_31 :: sk) e h R = (vc2 C n [] (.code c_impl_components_28 :: .code c_impl_components_30 :: sk) e h R) := nr rfl
@[simp, simp ↓] theorem c_impl_components_32_r : vc2 C (n + 1) [] (.code c_impl_components_32 :: sk) e h R = (vc2 C n [] (.code c_impl_components_1 :: .code c_impl_components_31 :: sk) e h R) := nr rfl
@[simp, simp ↓] theorem c_impl_components_33_r : vc2 C (n + 1) [] (.code c_impl_components_33 :: sk) e h R = (vc2 C n [] (.code c_impl_components_0 :: .code c_impl_components_32 :: sk) e h R) := nr rfl
end
noncomputable def c_impl_components_C (orc : Orc) : Cx := ⟨Try.prog, [5], 132, 45, [.tmp 2], orc⟩
@[simp] theorem c_impl_components_C_P (orc : Orc) : (c_impl_components_C orc).P = Try.prog := nr rfl
@[simp] theorem c_impl_components_C_o (orc : Orc) : (c_impl_components_C orc).orc = orc := nr rfl
@[simp] theorem c_impl_components_C_r (orc : Orc) : (c_impl_components_C orc).res = [.tmp 2] := nr rfl
theorem c_impl_components_of {args : List AV} {h : Heap} {R : AV → Heap → Prop} {k : Nat} (ha : args.length = k) {orc : Orc} (hp : Pure Try.prog orc) (hk : Is (c_impl_components_C orc) Try.f132 → Run2 (c_impl_components_C orc) [.code c_impl_components_33] (argEnv 0 args) h (Post R)) (hle : k ≤ 45 := by simp) : ACalls Try.prog 132 args h R :=
  contract2 [5] c_impl_components_33 [.tmp 2] Try.func132 (by decide +kernel) rfl (by kernel_rfl) (by rw [ha]; exact hle) (by kernel_rfl) hp hk
theorem c_impl_components_of0 {args : List AV} {h : Heap} {R : AV → Heap → Prop} {k : Nat} (ha : args.length = k) {orc : Orc} (hp : Pure Try.prog orc) (hk : Is (c_impl_components_C orc) Try.f132 → Run2 (c_impl_components_C orc) [.code c_impl_components_33] (argEnv 0 args) h R) (hle : k ≤ 45 := by simp) : ACalls Try.prog 132 args h R :=
  contract20 [5] c_impl_components_33 [.tmp 2] Try.func132 (by decide +kernel) rfl (by kernel_rfl) (by rw [ha]; exact hle) (by kernel_rfl) hp hk
theorem components_c (x : Gr) (hv : x.valid) (h : Heap) : ACalls Try.prog 132 [x.av] h (fun v h' => v = .snap 1 (x.comps.map iv) ∧ h' = h) := by
  have hn1 := hv.1
  have hn2 := hv.2.1
  have hE := hv.2.2.2
  obtain ⟨n, hn⟩ : ∃ n : Nat, x.n.toNat = n := ⟨_, rfl⟩
  have hfc := firstChoice_g n h (by omega)
  rw [show (n : Int) = x.n by omega] at hfc
  refine c_impl_components_of rfl noPure fun I => ?_
  refine Run2.of I 1000 ?_
  simp -implicitDefEqProofs
  refine hfc.mono ?_
  rintro v h' ⟨hp, g, rfl⟩
  obtain ⟨id, rfl, rfl⟩ := g.ne (by intro e; have := congrArg List.length e; simp at this; omega)
  refine gK.go ?_
  simp -implicitDefEqProofs
  refine Run2.loopE (fun (k : Nat) => [(1, .ip [.int .i64 x.n, .snap 3 (x.ts.map T.av)]), (3, .sl id 1 0 n none), (11, .int .i64 x.n), (12, .int .i64 k)]) (fun k => (id, ⟨1, (x.comp k).map iv⟩) :: h) (fun k => n - k) (fun k => k ≤ n) 0 (by simp) (by simp [Gr.comp, hn]) (Nat.zero_le _) fun k hk ih => ?_
  have hcl := x.comp_length k
  rw [hn] at hcl
  by_cases hlt : k < n
  · have hltx : (k : Int) < x.n := by omega
    have go := ih (k + 1) (by omega) (by omega)
    have hcs : x.comp (k + 1) = lowF (x.comp k) x.ts := rfl
    rw [hcs] at go
    clear ih
    generalize x.comp k = c at *
    refine Run2.of I 1000 ?_
    simp -implicitDefEqProofs [hltx]
    refine Run2.loopE (fun (j : Nat) => [(1, .ip [.int .i64 x.n, .snap 3 (x.ts.map T.av)]), (3, .sl id 1 0 n none), (11, .int .i64 x.n), (12, .int .i64 k), (15, .snap 3 (x.ts.map T.av)), (16, .int .i64 x.ts.length), (17, .int .i64 j)]) (fun j => (id, ⟨1, (lowF c (x.ts.take j)).map iv⟩) :: h) (fun j => x.ts.length - j) (fun j => j ≤ x.ts.length) 0 (by simp) (by simp [lowF]) (Nat.zero_le _) fun j hj ihj => ?_
    have hbl := lowF_length c (x.ts.take j)
    rw [hcl] at hbl
    by_cases hlt2 : j < x.ts.length
    · have goj := ihj (j + 1) (by omega) (by omega)
      rw [lowF_succ c x.ts hlt2] at goj
      have hel := hv.el (List.getElem_mem hlt2)
      unfold Gr.el at hel
      clear ihj
      generalize lowF c (x.ts.take j) = b at *
      have hf : x.ts[j].f.toNat < b.length := by omega
      have ht : x.ts[j].t.toNat < b.length := by omega
      have he := lowS_iv b x.ts[j] hf ht
      have hfn : x.ts[j].f.toNat < n := by omega
      have htn : x.ts[j].t.toNat < n := by omega
      have h1 := hel.1
      have h2 : 0 ≤ x.ts[j].t := by omega
      have h3 : x.ts[j].f < n := by omega
      have h4 : x.ts[j].t < n := by omega
      refine Run2.of I 1000 ?_
      simp -implicitDefEqProofs [hlt2, hf, ht, hfn, htn, h1, h2, h3, h4, hbl, he]
      refine ⟨by omega, ?_⟩
      simpa using goj
    · obtain rfl : j = x.ts.length := by omega
      rw [List.take_length]
      refine Run2.of I 1000 ?_
      simp -implicitDefEqProofs
      refine ⟨by omega, ?_⟩
      simpa using go
  · obtain rfl : n = k := by omega
    have hltx : ¬ (n : Int) < x.n := by omega
    refine Run2.of I 1000 ?_
    simp -implicitDefEqProofs [hltx]
    refine .freeze id (by simp [hget]; rfl) (.base ⟨?_, by simp [hdel]⟩)
    have hcc : x.comps = x.comp n := by rw [Gr.comps, hn]
    simp [fz, List.take_of_length_le, hcl, hcc]
abbrev c_impl_isZero_1_o0 : List AJ := [.o ⟨(some 2), none, false, .mv (.c (.bool false)), (some [0])⟩]
def c_impl_isZero_1_0 : ACode := .region c_impl_isZero_1_o0
abbrev c_impl_isZero_1_o1 : List AJ := [.o ⟨(some 3), none, false, .mv (.t 0), none⟩, .o ⟨(some 4), none, false, .bin .neq (.t 3) (.c (.int .i64 0)), none⟩, .o ⟨(some 2), none, false, .mv (.t 4), (some [2])⟩]
def c_impl_isZero_1_1 : ACode := .region c_impl_isZero_1_o1
def c_impl_isZero_1_2 : ACode := .seq c_impl_isZero_1_1 .ret
def c_impl_isZero_1_3 : ACode := .seq c_impl_isZero_1_0 c_impl_isZero_1_2
section
variable (C : Cx) (n : Nat) (sk : List AItem) (e : Env) (h : Heap) (R : AV → Heap → Prop)
@[simp, simp ↓] theorem c_impl_isZero_1_0_r : vc2 C (n + 1) [] (.code c_impl_isZero_1_0 :: sk) e h R = (vc2 C n c_impl_isZero_1_o0 sk e h R) := nr rfl
@[simp, simp ↓] theorem c_impl_isZero_1_1_r : vc2 C (n + 1) [] (.code c_impl_isZero_1_1 :: sk) e h R = (vc2 C n c_impl_isZero_1_o1 sk e h R) := nr rfl
@[simp, simp ↓] theorem c_impl_isZero_1_2_r : vc2 C (n + 1) [] (.code c_impl_isZero_1_2 :: sk) e h R = (vc2 C n [] (.code c_impl_isZero_1_1 :: .code .ret :: sk) e h R) := nr rfl
@[simp, simp ↓] theorem c_impl_isZero_1_3_r : vc2 C (n + 1) [] (.code c_impl_isZero_1_3 :: sk) e h R = (vc2 C n [] (.code c_impl_isZero_1_0 :: .code c_impl_isZero_1_2 :: sk) e h R) := nr rfl
end
noncomputable def c_impl_isZero_1_C (orc : Orc) : Cx := ⟨Try.prog, [], 147, 5, [.tmp 2], orc⟩
@[simp] theorem c_impl_isZero_1_C_P (orc : Orc) : (c_impl_isZero_1_C orc).P = Try.prog := nr rfl
@[simp] theorem c_impl_isZero_1_C_o (orc : Orc) : (c_impl_isZero_1_C orc).orc = orc := nr rfl
@[simp] theorem c_impl_isZero_1_C_r (orc : Orc) : (c_impl_isZero_1_C orc).res = [.tmp 2] := nr rfl
theorem c_impl_isZero_1_of {args : List AV} {h : Heap} {R : AV → Heap → Prop} {k : Nat} (ha : args.length = k) {orc : Orc} (hp : Pure Try.prog orc) (hk : Is (c_impl_isZero_1_C orc) Try.f147 → Run2 (c_impl_isZero_1_C orc) [.code c_impl_isZero_1_3] (argEnv 0 args) h (Post R)) (hle : k ≤ 5 := by simp) : ACalls Try.prog 147 args h R :=
  contract2 [] c_impl_isZero_1_3 [.tmp 2] Try.func147 (by decide +kernel) rfl (by kernel_rfl) (by rw [ha]; exact hle) (by kernel_rfl) hp hk
theorem c_impl_isZero_1_of0 {args : List AV} {h : Heap} {R : AV → Heap → Prop} {k : Nat} (ha : args.length = k) {orc : Orc} (hp : Pure Try.prog orc) (hk : Is (c_impl_isZero_1_C orc) Try.f147 → Run2 (c_impl_isZero_1_C orc) [.code c_impl_isZero_1_3] (argEnv 0 args) h R) (hle : k ≤ 5 := by simp) : ACalls Try.prog 147 args h R :=
  contract20 [] c_impl_isZero_1_3 [.tmp 2] Try.func147 (by decide +kernel) rfl (by kernel_rfl) (by rw [ha]; exact hle) (by kernel_rfl) hp hk
theorem isZero1_c (a : Int) (h : Heap) : ACalls Try.prog 147 [.int .i64 a] h (fun v h' => v = .bool (!decide (a = 0)) ∧ h' = h) := by
  refine c_impl_isZero_1_of0 rfl noPure fun I => ?_
  refine Run2.of I 1000 ?_
  simp -implicitDefEqProofs
abbrev c_impl_isZero_o0 : List AJ := [.o ⟨(some 2), none, false, .mv (.c (.bool false)), (some [0])⟩]
def c_impl_isZero_0 : ACode := .region c_impl_isZero_o0
abbrev c_impl_isZero_o1 : List AJ := [.o ⟨(some 3), none, false, .mv (.t 0), none⟩, .o ⟨(some 4), none, false, .call 108 [(.t 3), (.c (.fn 147 []))], none⟩, .o ⟨(some 5), none, false, .un .not (.t 4), none⟩, .o ⟨(some 2), none, false, .mv (.t 5), (some [2])⟩]
def c_impl_isZero_1 : ACode := .region c_impl_isZero_o1
def c_impl_isZero_2 : ACode := .seq c_impl_isZero_1 .ret
def c_impl_isZero_3 : ACode := .seq c_impl_isZero_0 c_impl_isZero_2
section
variable (C : Cx) (n : Nat) (sk : List AItem) (e : Env) (h : Heap) (R : AV → Heap → Prop)
@[simp, simp ↓] theorem c_impl_isZero_0_r : vc2 C (n + 1) [] (.code c_impl_isZero_0 :: sk) e h R = (vc2 C n c_impl_isZero_o0 sk e h R) := nr rfl
@[simp, simp ↓] theorem c_impl_isZero_1_r : vc2 C (n + 1) [] (.code c_impl_isZero_1 :: sk) e h R = (vc2 C n c_impl_isZero_o1 sk e h R) := nr rfl
@[simp, simp ↓] theorem c_impl_isZero_2_r : vc2 C (n + 1) [] (.code c_impl_isZero_2 :: sk) e h R = (vc2 C n [] (.code c_impl_isZero_1 :: .code .ret :: sk) e h R) := nr rfl
@[simp, simp ↓] theorem c_impl_isZero_3_r : vc2 C (n + 1) [] (.code c_impl_isZero_3 :: sk) e h R = (vc2 C n [] (.code c_impl_isZero_0 :: .code c_impl_isZero_2 :: sk) e h R) := nr rfl
end
noncomputable def c_impl_isZero_C (orc : Orc) : Cx := ⟨Try.prog, [], 131, 6, [.tmp 2], orc⟩
@[simp] theorem c_impl_isZero_C_P (orc : Orc) : (c_impl_isZero_C orc).P = Try.prog := nr rfl
@[simp] theorem c_impl_isZero_C_o (orc : Orc) : (c_impl_isZero_C orc).orc = orc := nr rfl
@[simp] theorem c_impl_isZero_C_r (orc : Orc) : (c_impl_isZero_C orc).res = [.tmp 2] := nr rfl
theorem c_impl_isZero_of {args : List AV} {h : Heap} {R : AV → Heap → Prop} {k : Nat} (ha : args.length = k) {orc : Orc} (hp : Pure Try.prog orc) (hk : Is (c_impl_isZero_C orc) Try.f131 → Run2 (c_impl_isZero_C orc) [.code c_impl_isZero_3] (argEnv 0 args) h (Post R)) (hle : k ≤ 6 := by simp) : ACalls Try.prog 131 args h R :=
  contract2 [] c_impl_isZero_3 [.tmp 2] Try.func131 (by decide +kernel) rfl (by kernel_rfl) (by rw [ha]; exact hle) (by kernel_rfl) hp hk
theorem c_impl_isZero_of0 {args : List AV} {h : Heap} {R : AV → Heap → Prop} {k : Nat} (ha : args.length = k) {orc : Orc} (hp : Pure Try.prog orc) (hk : Is (c_impl_isZero_C orc) Try.f131 → Run2 (c_impl_isZero_C orc) [.code c_impl_isZero_3] (argEnv 0 args) h R) (hle : k ≤ 6 := by simp) : ACalls Try.prog 131 args h R :=
  contract20 [] c_impl_isZero_3 [.tmp 2] Try.func131 (by decide +kernel) rfl (by kernel_rfl) (by rw [ha]; exact hle) (by kernel_rfl) hp hk
theorem isZero_c (l : List Int) (h : Heap) (hl : l.length ≤ 1048576) : ACalls Try.prog 131 [.snap 1 (l.map iv)] h (fun v h' => v = .bool (decide (∀ a ∈ l, a = 0)) ∧ h' = h) := by
  have hc := ContainsFunc_s l 147 [] (fun a => !decide (a = 0)) h hl fun a _ => isZero1_c a h
  have hany : l.any (fun a => !decide (a = 0)) = !decide (∀ a ∈ l, a = 0) := by
    rw [Bool.eq_iff_iff]
    simp
  rw [hany] at hc
  refine c_impl_isZero_of0 rfl noPure fun I => ?_
  refine Run2.of I 1000 ?_
  simp -implicitDefEqProofs
  refine hc.mono ?_
  rintro v h' ⟨rfl, rfl⟩
  refine gK.go ?_
  simp -implicitDefEqProofs
abbrev c_impl_isConnected_o0 : List AJ := [.o ⟨(some 1), none, false, .box false 2 (.t 0), none⟩, .o ⟨(some 2), none, false, .mv (.c (.bool false)), (some [1])⟩]
def c_impl_isConnected_0 : ACode := .region c_impl_isConnected_o0
abbrev c_impl_isConnected_o1 : List AJ := [.o ⟨(some 3), none, false, .load 2 true (.t 1), none⟩, .o ⟨(some 4), none, false, .call 132 [(.t 3)], none⟩, .o ⟨(some 5), none, false, .call 131 [(.t 4)], none⟩, .o ⟨(some 2), none, false, .mv (.t 5), (some [2])⟩]
def c_impl_isConnected_1 : ACode := .region c_impl_isConnected_o1
def c_impl_isConnected_2 : ACode := .seq c_impl_isConnected_1 .ret
def c_impl_isConnected_3 : ACode := .seq c_impl_isConnected_0 c_impl_isConnected_2
section
variable (C : Cx) (n : Nat) (sk : List AItem) (e : Env) (h : Heap) (R : AV → Heap → Prop)
@[simp, simp ↓] theorem c_impl_isConnected_0_r : vc2 C (n + 1) [] (.code c_impl_isConnected_0 :: sk) e h R = (vc2 C n c_impl_isConnected_o0 sk e h R) := nr rfl
@[simp, simp ↓] theorem c_impl_isConnected_1_r : vc2 C (n + 1) [] (.code c_impl_isConnected_1 :: sk) e h R = (vc2 C n c_impl_isConnected_o1 sk e h R) := nr rfl
@[simp, simp ↓] theorem c_impl_isConnected_2_r : vc2 C (n + 1) [] (.code c_impl_isConnected_2 :: sk) e h R = (vc2 C n [] (.code c_impl_isConnected_1 :: .code .ret :: sk) e h R) := nr rfl
@[simp, simp ↓] theorem c_impl_isConnected_3_r : vc2 C (n + 1) [] (.code c_impl_isConnected_3 :: sk) e h R = (vc2 C n [] (.code c_impl_isConnected_0 :: .code c_impl_isConnected_2 :: sk) e h R) := nr rfl
end
noncomputable def c_impl_isConnected_C (orc : Orc) : Cx := ⟨Try.prog, [], 96, 6, [.tmp 2], orc⟩
@[simp] theorem c_impl_isConnected_C_P (orc : Orc) : (c_impl_isConnected_C orc).P = Try.prog := nr rfl
@[simp] theorem c_impl_isConnected_C_o (orc : Orc) : (c_impl_isConnected_C orc).orc = orc := nr rfl
@[simp] theorem c_impl_isConnected_C_r (orc : Orc) : (c_impl_isConnected_C orc).res = [.tmp 2] := nr rfl
theorem c_impl_isConnected_of {args : List AV} {h : Heap} {R : AV → Heap → Prop} {k : Nat} (ha : args.length = k) {orc : Orc} (hp : Pure Try.prog orc) (hk : Is (c_impl_isConnected_C orc) Try.f96 → Run2 (c_impl_isConnected_C orc) [.code c_impl_isConnected_3] (argEnv 0 args) h (Post R)) (hle : k ≤ 6 := by simp) : ACalls Try.prog 96 args h R :=
  contract2 [] c_impl_isConnected_3 [.tmp 2] Try.func96 (by decide +kernel) rfl (by kernel_rfl) (by rw [ha]; exact hle) (by kernel_rfl) hp hk
theorem c_impl_isConnected_of0 {args : List AV} {h : Heap} {R : AV → Heap → Prop} {k : Nat} (ha : args.length = k) {orc : Orc} (hp : Pure Try.prog orc) (hk : Is (c_impl_isConnected_C orc) Try.f96 → Run2 (c_impl_isConnected_C orc) [.code c_impl_isConnected_3] (argEnv 0 args) h R) (hle : k ≤ 6 := by simp) : ACalls Try.prog 96 args h R :=
  contract20 [] c_impl_isConnected_3 [.tmp 2] Try.func96 (by decide +kernel) rfl (by kernel_rfl) (by rw [ha]; exact hle) (by kernel_rfl) hp hk
theorem isConnected_c (x : Gr) (hv : x.valid) (h : Heap) : ACalls Try.prog 96 [x.av] h (fun v h' => v = .bool (decide x.conn) ∧ h' = h) := by
  have hn2 := hv.2.1
  refine c_impl_isConnected_of0 rfl noPure fun I => ?_
  refine Run2.of I 1000 ?_
  simp -implicitDefEqProofs
  refine (components_c x hv h).mono ?_
  rintro v h' ⟨rfl, rfl⟩
  refine gK.go ?_
  simp -implicitDefEqProofs
  refine (isZero_c x.comps _ (by rw [Gr.comps, Gr.comp_length]; omega)).mono ?_
  rintro v h' ⟨rfl, rfl⟩
  refine gK.go ?_
  simp -implicitDefEqProofs
  simp [Gr.conn]
abbrev c_slices_IndexFunc_int_int_o0 : List AJ := [.o ⟨(some 4), none, false, .mv (.c (.int .i64 0)), (some [0, 1])⟩]
def c_slices_IndexFunc_int_int_0 : ACode := .region c_slices_IndexFunc_int_int_o0
abbrev c_slices_IndexFunc_int_int_o1 : List AJ := [.o ⟨(some 6), none, false, .mv (.t 0), none⟩, .o ⟨(some 7), none, false, .len (.t 6), none⟩, .o ⟨(some 8), none, false, .mv (.c (.int .i64 0)), (some [0, 1, 7, 8])⟩]
def c_slices_IndexFunc_int_int_1 : ACode := .region c_slices_IndexFunc_int_int_o1
abbrev c_slices_IndexFunc_int_int_o2 : List AJ := [.o ⟨(some 9), none, false, .bin .lss (.t 8) (.t 7), (some [0, 1, 7, 8, 9])⟩]
def c_slices_IndexFunc_int_int_2 : ACode := .region c_slices_IndexFunc_int_int_o2
def c_slices_IndexFunc_int_int_3 : ACode := .cond (.t 9) .skip (.exit 0)
abbrev c_slices_IndexFunc_int_int_o3 : List AJ := [.o ⟨(some 10), none, false, .mv (.t 8), none⟩, .o ⟨(some 5), none, false, .mv (.t 10), (some [0, 1, 5, 7, 8])⟩]
def c_slices_IndexFunc_int_int_4 : ACode := .region c_slices_IndexFunc_int_int_o3
abbrev c_slices_IndexFunc_int_int_o4 : List AJ := [.o ⟨(some 11), none, false, .mv (.t 1), none⟩, .o ⟨(some 12), none, false, .mv (.t 0), none⟩, .o ⟨(some 13), none, false, .mv (.t 5), none⟩, .o ⟨(some 14), none, false, .idxA 1 (.t 12) (.t 13), none⟩, .o ⟨(some 15), none, false, .load 1 false (.t 14), none⟩, .o ⟨(some 16), none, false, .callv (.t 11) [(.t 15)], (some [0, 1, 5, 7, 8, 16])⟩]
def c_slices_IndexFunc_int_int_5 : ACode := .region c_slices_IndexFunc_int_int_o4
abbrev c_slices_IndexFunc_int_int_o5 : List AJ := [.o ⟨(some 17), none, false, .mv (.t 5), none⟩, .o ⟨(some 4), none, false, .mv (.t 17), (some [4])⟩]
def c_slices_IndexFunc_int_int_6 : ACode := .region c_slices_IndexFunc_int_int_o5
def c_slices_IndexFunc_int_int_7 : ACode := .seq c_slices_IndexFunc_int_int_6 .ret
def c_slices_IndexFunc_int_int_8 : ACode := .cond (.t 16) c_slices_IndexFunc_int_int_7 .skip
def c_slices_IndexFunc_int_int_9 : ACode := .seq c_slices_IndexFunc_int_int_5 c_slices_IndexFunc_int_int_8
def c_slices_IndexFunc_int_int_10 : ACode := .seq c_slices_IndexFunc_int_int_4 c_slices_IndexFunc_int_int_9
def c_slices_IndexFunc_int_int_11 : ACode := .block 1 c_slices_IndexFunc_int_int_10
abbrev c_slices_IndexFunc_int_int_o6 : List AJ := [.o ⟨(some 18), none, true, .bin .add (.t 8) (.c (.int .i64 1)), none⟩, .o ⟨(some 8), none, false, .mv (.t 18), (some [0, 1, 7, 8])⟩]
def c_slices_IndexFunc_int_int_12 : ACode := .region c_slices_IndexFunc_int_int_o6
def c_slices_IndexFunc_int_int_13 : ACode := .seq c_slices_IndexFunc_int_int_11 c_slices_IndexFunc_int_int_12
def c_slices_IndexFunc_int_int_14 : ACode := .seq c_slices_IndexFunc_int_int_3 c_slices_IndexFunc_int_int_13
def c_slices_IndexFunc_int_int_15 : ACode := .seq c_slices_IndexFunc_int_int_2 c_slices_IndexFunc_int_int_14
def c_slices_IndexFunc_int_int_16 : ACode := .loop c_slices_IndexFunc_int_int_15
def c_slices_IndexFunc_int_int_17 : ACode := .block 0 c_slices_IndexFunc_int_int_16
def c_slices_IndexFunc_int_int_18 : ACode := .seq c_slices_IndexFunc_int_int_1 c_slices_IndexFunc_int_int_17
abbrev c_slices_IndexFunc_int_int_o7 : List AJ := [.o ⟨(some 4), none, false, .mv (.c (.int .i64 (-1))), (some [4])⟩]
def c_slices_IndexFunc_int_int_19 : ACode := .region c_slices_IndexFunc_int_int_o7
def c_slices_IndexFunc_int_int_20 : ACode := .seq c_slices_IndexFunc_int_int_19 .ret
def c_slices_IndexFunc_int_int_21 : ACode := .seq c_slices_IndexFunc_int_int_18 c_slices_IndexFunc_int_int_20
def c_slices_IndexFunc_int_int_22 : ACode := .seq c_slices_IndexFunc_int_int_0 c_slices_IndexFunc_int_int_21
section
variable (C : Cx) (n : Nat) (sk : List AItem) (e : Env) (h : Heap) (R : AV → Heap → Prop)
@[simp, simp ↓] theorem c_slices_IndexFunc_int_int_0_r : vc2 C (n + 1) [] (.code c_slices_IndexFunc_int_int_0 :: sk) e h R = (vc2 C n c_slices_IndexFunc_int_int_o0 sk e h R) := nr rfl
@[simp, simp ↓] theorem c_slices_IndexFunc_int_int_1_r : vc2 C (n + 1) [] (.code c_slices_IndexFunc_int_int_1 :: sk) e h R = (vc2 C n c_slices_IndexFunc_int_int_o1 sk e h R) := nr rfl
@[simp, simp ↓] theorem c_slices_IndexFunc_int_int_2_r : vc2 C (n + 1) [] (.code c_slices_IndexFunc_int_int_2 :: sk) e h R = (vc2 C n c_slices_IndexFunc_int_int_o2 sk e h R) := nr rfl
@[simp, simp ↓] theorem c_slices_IndexFunc_int_int_3_r : vc2 C (n + 1) [] (.code c_slices_IndexFunc_int_int_3 :: sk) e h R = (condK (ev e (.t 9)) (vc2 C n [] (.code .skip :: sk) e h R) (vc2 C n [] (.code (.exit 0) :: sk) e h R)) := nr rfl
@[simp, simp ↓] theorem c_slices_IndexFunc_int_int_4_r : vc2 C (n + 1) [] (.code c_slices_IndexFunc_int_int_4 :: sk) e h R = (vc2 C n c_slices_IndexFunc_int_int_o3 sk e h R) := nr rfl
@[simp, simp ↓] theorem c_slices_IndexFunc_int_int_5_r : vc2 C (n + 1) [] (.code c_slices_IndexFunc_int_int_5 :: sk) e h R = (vc2 C n c_slices_IndexFunc_int_int_o4 sk e h R) := nr rfl
@[simp, simp ↓] theorem c_slices_IndexFunc_int_int_6_r : vc2 C (n + 1) [] (.code c_slices_IndexFunc_int_int_6 :: sk) e h R = (vc2 C n c_slices_IndexFunc_int_int_o5 sk e h R) := nr rfl
@[simp, simp ↓] theorem c_slices_IndexFunc_int_int_7_r : vc2 C (n + 1) [] (.code c_slices_IndexFunc_int_int_7 :: sk) e h R = (vc2 C n [] (.code c_slices_IndexFunc_int_int_6 :: .code .ret :: sk) e h R) := nr rfl
@[simp, simp ↓] theorem c_slices_IndexFunc_int_int_8_r : vc2 C (n + 1) [] (.code c_slices_IndexFunc_int_int_8 :: sk) e h R = (condK (ev e (.t 16)) (vc2 C n [] (.code c_slices_IndexFunc_int_int_7 :: sk) e h R) (vc2 C n [] (.code .skip :: sk) e h R)) := nr rfl
@[simp, simp ↓] theorem c_slices_IndexFunc_int_int_9_r : vc2 C (n + 1) [] (.code c_slices_IndexFunc_int_int_9 :: sk) e h R = (vc2 C n [] (.code c_slices_IndexFunc_int_int_5 :: .code c_slices_IndexFunc_int_int_8 :: sk) e h R) := nr rfl
@[simp, simp ↓] theorem c_slices_IndexFunc_int_int_10_r : vc2 C (n + 1) [] (.code c_slices_IndexFunc_int_int_10 :: sk) e h R = (vc2 C n [] (.code c_slices_IndexFunc_int_int_4 :: .code c_slices_IndexFunc_int_int_9 :: sk) e h R) := nr rfl
@[simp, simp ↓] theorem c_slices_IndexFunc_int_int_11_r : vc2 C (n + 1) [] (.code c_slices_IndexFunc_int_int_11 :: sk) e h R = (vc2 C n [] (.code c_slices_IndexFunc_int_int_10 :: .inBlock 1 :: sk) e h R) := nr rfl
@[simp, simp ↓] theorem c_slices_IndexFunc_int_int_12_r : vc2 C (n + 1) [] (.code c_slices_IndexFunc_int_int_12 :: sk) e h R = (vc2 C n c_slices_IndexFunc_int_int_o6 sk e h R) := nr rfl
@[simp, simp ↓] theorem c_slices_IndexFunc_int_int_13_r : vc2 C (n + 1) [] (.code c_slices_IndexFunc_int_int_13 :: sk) e h R = (vc2 C n [] (.code c_slices_IndexFunc_int_int_11 :: .code c_slices_IndexFunc_int_int_12 :: sk) e h R) := nr rfl
@[simp, simp ↓] theorem c_slices_IndexFunc_int_int_14_r : vc2 C (n + 1) [] (.code c_slices_IndexFunc_int_int_14 :: sk) e h R = (vc2 C n [] (.code c_slices_IndexFunc_int_int_3 :: .code c_slices_IndexFunc_int_int_13 :: sk) e h R) := nr rfl
@[simp, simp ↓] theorem c_slices_IndexFunc_int_int_15_r : vc2 C (n + 1) [] (.code c_slices_IndexFunc_int_int_15 :: sk) e h R = (vc2 C n [] (.code c_slices_IndexFunc_int_int_2 :: .code c_slices_IndexFunc_int_int_14 :: sk) e h R) := nr rfl
@[simp, simp ↓] theorem c_slices_IndexFunc_int_int_16_r : vc2 C (n + 1) [] (.code c_slices_IndexFunc_int_int_16 :: sk) e h R = (Run2 C (.code c_slices_IndexFunc_int_int_15 :: .inLoop c_slices_IndexFunc_int_int_15 :: sk) e h R) := nr rfl
@[simp, simp ↓] theorem c_slices_IndexFunc_int_int_17_r : vc2 C (n + 1) [] (.code c_slices_IndexFunc_int_int_17 :: sk) e h R = (vc2 C n [] (.code c_slices_IndexFunc_int_int_16 :: .inBlock 0 :: sk) e h R) := nr rfl
@[simp, simp ↓] theorem c_slices_IndexFunc_int_int_18_r : vc2 C (n + 1) [] (.code c_slices_IndexFunc_int_int_18 :: sk) e h R = (vc2 C n [] (.code c_slices_IndexFunc_int_int_1 :: .code c_slices_IndexFunc_int_int_17 :: sk) e h R) := nr rfl
@[simp, simp ↓] theorem c_slices_IndexFunc_int_int_19_r : vc2 C (n + 1) [] (.code c_slices_IndexFunc_int_int_19 :: sk) e h R = (vc2 C n c_slices_IndexFunc_int_int_o7 sk e h R) := nr rfl
@[simp, simp ↓] theorem c_slices_IndexFunc_int_int_20_r : vc2 C (n + 1) [] (.code c_slices_IndexFunc_int_int_20 :: sk) e h R = (vc2 C n [] (.code c_slices_IndexFunc_int_int_19 :: .code .ret :: sk) e h R) := nr rfl
@[simp, simp ↓] theorem c_slices_IndexFunc_int_int_21_r : vc2 C (n + 1) [] (.code c_slices_IndexFunc_int_int_21 :: sk) e h R = (vc2 C n [] (.code c_slices_IndexFunc_int_int_18 :: .code c_slices_IndexFunc_int_int_20 :: sk) e h R) := nr rfl
@[simp, simp ↓] theorem c_slices_IndexFunc_int_int_22_r : vc2 C (n + 1) [] (.code c_slices_IndexFunc_int_int_22 :: sk) e h R = (vc2 C n [] (.code c_slices_IndexFunc_int_int_0 :: .code c_slices_IndexFunc_int_int_21 :: sk) e h R) := nr rfl
end
noncomputable def c_slices_IndexFunc_int_int_C (orc : Orc) : Cx := ⟨Try.prog, [], 148, 19, [.tmp 4], orc⟩
@[simp] theorem c_slices_IndexFunc_int_int_C_P (orc : Orc) : (c_slices_IndexFunc_int_int_C orc).P = Try.prog := nr rfl
@[simp] theorem c_slices_IndexFunc_int_int_C_o (orc : Orc) : (c_slices_IndexFunc_int_int_C orc).orc = orc := nr rfl
@[simp] theorem c_slices_IndexFunc_int_int_C_r (orc : Orc) : (c_slices_IndexFunc_int_int_C orc).res = [.tmp 4] := nr rfl
theorem c_slices_IndexFunc_int_int_of {args : List AV} {h : Heap} {R : AV → Heap → Prop} {k : Nat} (ha : args.length = k) {orc : Orc} (hp : Pure Try.prog orc) (hk : Is (c_slices_IndexFunc_int_int_C orc) Try.f148 → Run2 (c_slices_IndexFunc_int_int_C orc) [.code c_slices_IndexFunc_int_int_22] (argEnv 0 args) h (Post R)) (hle : k ≤ 19 := by simp) : ACalls Try.prog 148 args h R :=
  contract2 [] c_slices_IndexFunc_int_int_22 [.tmp 4] Try.func148 (by decide +kernel) rfl (by kernel_rfl) (by rw [ha]; exact hle) (by kernel_rfl) hp hk
theorem c_slices_IndexFunc_int_int_of0 {args : List AV} {h : Heap} {R : AV → Heap → Prop} {k : Nat} (ha : args.length = k) {orc : Orc} (hp : Pure Try.prog orc) (hk : Is (c_slices_IndexFunc_int_int_C orc) Try.f148 → Run2 (c_slices_IndexFunc_int_int_C orc) [.code c_slices_IndexFunc_int_int_22] (argEnv 0 args) h R) (hle : k ≤ 19 := by simp) : ACalls Try.prog 148 args h R :=
  contract20 [] c_slices_IndexFunc_int_int_22 [.tmp 4] Try.func148 (by decide +kernel) rfl (by kernel_rfl) (by rw [ha]; exact hle) (by kernel_rfl) hp hk
theorem IndexFuncI_s (l : List Int) (g : FuncId) (caps : List AV) (q : Int → Bool) (h : Heap) (hl : l.length ≤ 1048576) (hq : ∀ a ∈ l, ACalls Try.prog g (.int .i64 a :: caps) h (fun v h' => v = .bool (q a) ∧ h' = h)) :
    ACalls Try.prog 148 [.snap 1 (l.map iv), .fn g caps] h (fun v h' => v = .int .i64 (idxf q l) ∧ h' = h) := by
  refine c_slices_IndexFunc_int_int_of0 rfl noPure fun I => ?_
  refine Run2.of I 1000 ?_
  simp -implicitDefEqProofs
  refine Run2.loopE (fun i => [(0, .snap 1 (l.map iv)), (1, .fn g caps), (7, .int .i64 l.length), (8, .int .i64 (i : Nat))]) (fun i => h) (fun i => l.length - i) (fun i => i ≤ l.length ∧ ∀ j (hj : j < l.length), j < i → q l[j] = false) 0 (by simp) rfl ⟨Nat.zero_le _, fun _ _ h => absurd h (Nat.not_lt_zero _)⟩ fun i hi ih => ?_
  by_cases hlt : i < l.length
  · have go := fun (h1 : q l[i] = false) => ih (i + 1) ⟨by omega, fun j hj hji => by
      rcases Nat.lt_or_ge j i with h | h
      · exact hi.2 j hj h
      · obtain rfl : j = i := by omega
        exact h1⟩ (by omega)
    have hat := idxf_at (q := q) hlt hi.2
    clear ih
    refine Run2.of I 1000 ?_
    simp -implicitDefEqProofs [hlt]
    refine (hq _ (List.getElem_mem hlt)).mono ?_
    rintro v h' ⟨rfl, rfl⟩
    refine gK.go ?_
    simp -implicitDefEqProofs
    refine ⟨fun h => (hat h).symm, fun h => ⟨by omega, ?_⟩⟩
    simpa using go h
  · obtain rfl : i = l.length := by omega
    have := idxf_none (q := q) (l := l) fun j hj => hi.2 j hj hj
    refine Run2.of I 1000 ?_
    simp -implicitDefEqProofs
    exact this.symm
abbrev c_slices_ContainsFunc_int_int_o0 : List AJ := [.o ⟨(some 4), none, false, .mv (.c (.bool false)), (some [0, 1])⟩]
def c_slices_ContainsFunc_int_int_0 : ACode := .region c_slices_ContainsFunc_int_int_o0
abbrev c_slices_ContainsFunc_int_int_o1 : List AJ := [.o ⟨(some 5), none, false, .mv (.t 0), none⟩, .o ⟨(some 6), none, false, .mv (.t 1), none⟩, .o ⟨(some 7), none, false, .call 148 [(.t 5), (.t 6)], none⟩, .o ⟨(some 8), none, false, .bin .geq (.t 7) (.c (.int .i64 0)), none⟩, .o ⟨(some 4), none, false, .mv (.t 8), (some [4])⟩]
def c_slices_ContainsFunc_int_int_1 : ACode := .region c_slices_ContainsFunc_int_int_o1
def c_slices_ContainsFunc_int_int_2 : ACode := .seq c_slices_ContainsFunc_int_int_1 .ret
def c_slices_ContainsFunc_int_int_3 : ACode := .seq c_slices_ContainsFunc_int_int_0 c_slices_ContainsFunc_int_int_2
section
variable (C : Cx) (n : Nat) (sk : List AItem) (e : Env) (h : Heap) (R : AV → Heap → Prop)
@[simp, simp ↓] theorem c_slices_ContainsFunc_int_int_0_r : vc2 C (n + 1) [] (.code c_slices_ContainsFunc_int_int_0 :: sk) e h R = (vc2 C n c_slices_ContainsFunc_int_int_o0 sk e h R) := nr rfl
@[simp, simp ↓] theorem c_slices_ContainsFunc_int_int_1_r : vc2 C (n + 1) [] (.code c_slices_ContainsFunc_int_int_1 :: sk) e h R = (vc2 C n c_slices_ContainsFunc_int_int_o1 sk e h R) := nr rfl
@[simp, simp ↓] theorem c_slices_ContainsFunc_int_int_2_r : vc2 C (n + 1) [] (.code c_slices_ContainsFunc_int_int_2 :: sk) e h R = (vc2 C n [] (.code c_slices_ContainsFunc_int_int_1 :: .code .ret :: sk) e h R) := nr rfl
@[simp, simp ↓] theorem c_slices_ContainsFunc_int_int_3_r : vc2 C (n + 1) [] (.code c_slices_ContainsFunc_int_int_3 :: sk) e h R = (vc2 C n [] (.code c_slices_ContainsFunc_int_int_0 :: .code c_slices_ContainsFunc_int_int_2 :: sk) e h R) := nr rfl
end
noncomputable def c_slices_ContainsFunc_int_int_C (orc : Orc) : Cx := ⟨Try.prog, [], 133, 9, [.tmp 4], orc⟩
@[simp] theorem c_slices_ContainsFunc_int_int_C_P (orc : Orc) : (c_slices_ContainsFunc_int_int_C orc).P = Try.prog := nr rfl
@[simp] theorem c_slices_ContainsFunc_int_int_C_o (orc : Orc) : (c_slices_ContainsFunc_int_int_C orc).orc = orc := nr rfl
@[simp] theorem c_slices_ContainsFunc_int_int_C_r (orc : Orc) : (c_slices_ContainsFunc_int_int_C orc).res = [.tmp 4] := nr rfl
theorem c_slices_ContainsFunc_int_int_of {args : List AV} {h : Heap} {R : AV → Heap → Prop} {k : Nat} (ha : args.length = k) {orc : Orc} (hp : Pure Try.prog orc) (hk : Is (c_slices_ContainsFunc_int_int_C orc) Try.f133 → Run2 (c_slices_ContainsFunc_int_int_C orc) [.code c_slices_ContainsFunc_int_int_3] (argEnv 0 args) h (Post R)) (hle : k ≤ 9 := by simp) : ACalls Try.prog 133 args h R :=
  contract2 [] c_slices_ContainsFunc_int_int_3 [.tmp 4] Try.func133 (by decide +kernel) rfl (by kernel_rfl) (by rw [ha]; exact hle) (by kernel_rfl) hp hk
theorem c_slices_ContainsFunc_int_int_of0 {args : List AV} {h : Heap} {R : AV → Heap → Prop} {k : Nat} (ha : args.length = k) {orc : Orc} (hp : Pure Try.prog orc) (hk : Is (c_slices_ContainsFunc_int_int_C orc) Try.f133 → Run2 (c_slices_ContainsFunc_int_int_C orc) [.code c_slices_ContainsFunc_int_int_3] (argEnv 0 args) h R) (hle : k ≤ 9 := by simp) : ACalls Try.prog 133 args h R :=
  contract20 [] c_slices_ContainsFunc_int_int_3 [.tmp 4] Try.func133 (by decide +kernel) rfl (by kernel_rfl) (by rw [ha]; exact hle) (by kernel_rfl) hp hk
theorem ContainsFuncI_s (l : List Int) (g : FuncId) (caps : List AV) (q : Int → Bool) (h : Heap) (hl : l.length ≤ 1048576) (hq : ∀ a ∈ l, ACalls Try.prog g (.int .i64 a :: caps) h (fun v h' => v = .bool (q a) ∧ h' = h)) :
    ACalls Try.prog 133 [.snap 1 (l.map iv), .fn g caps] h (fun v h' => v = .bool (l.any q) ∧ h' = h) := by
  refine c_slices_ContainsFunc_int_int_of0 rfl noPure fun I => ?_
  refine Run2.of I 1000 ?_
  simp -implicitDefEqProofs
  refine (IndexFuncI_s l g caps q h hl hq).mono ?_
  rintro v h' ⟨rfl, rfl⟩
  refine gK.go ?_
  simp -implicitDefEqProofs [idxf_ge]
  rw [Bool.eq_iff_iff]
  simp
abbrev c_impl_gossipTime_1_o0 : List AJ := [.o ⟨(some 3), none, false, .mv (.c (.bool false)), (some [0, 1])⟩]
def c_impl_gossipTime_1_0 : ACode := .region c_impl_gossipTime_1_o0
abbrev c_impl_gossipTime_1_o1 : List AJ := [.o ⟨(some 4), none, false, .mv (.t 0), none⟩, .o ⟨(some 5), none, false, .fieldA 0 (.t 1), none⟩, .o ⟨(some 6), none, false, .load 1 false (.t 5), none⟩, .o ⟨(some 7), none, false, .bin .shl (.c (.int .i64 1)) (.t 6), none⟩, .o ⟨(some 8), none, true, .bin .sub (.t 7) (.c (.int .i64 1)), none⟩, .o ⟨(some 9), none, false, .bin .neq (.t 4) (.t 8), none⟩, .o ⟨(some 3), none, false, .mv (.t 9), (some [3])⟩]
def c_impl_gossipTime_1_1 : ACode := .region c_impl_gossipTime_1_o1
def c_impl_gossipTime_1_2 : ACode := .seq c_impl_gossipTime_1_1 .ret
def c_impl_gossipTime_1_3 : ACode := .seq c_impl_gossipTime_1_0 c_impl_gossipTime_1_2
section
variable (C : Cx) (n : Nat) (sk : List AItem) (e : Env) (h : Heap) (R : AV → Heap → Prop)
@[simp, simp ↓] theorem c_impl_gossipTime_1_0_r : vc2 C (n + 1) [] (.code c_impl_gossipTime_1_0 :: sk) e h R = (vc2 C n c_impl_gossipTime_1_o0 sk e h R) := nr rfl
@[simp, simp ↓] theorem c_impl_gossipTime_1_1_r : vc2 C (n + 1) [] (.code c_impl_gossipTime_1_1 :: sk) e h R = (vc2 C n c_impl_gossipTime_1_o1 sk e h R) := nr rfl
@[simp, simp ↓] theorem c_impl_gossipTime_1_2_r : vc2 C (n + 1) [] (.code c_impl_gossipTime_1_2 :: sk) e h R = (vc2 C n [] (.code c_impl_gossipTime_1_1 :: .code .ret :: sk) e h R) := nr rfl
@[simp, simp ↓] theorem c_impl_gossipTime_1_3_r : vc2 C (n + 1) [] (.code c_impl_gossipTime_1_3 :: sk) e h R = (vc2 C n [] (.code c_impl_gossipTime_1_0 :: .code c_impl_gossipTime_1_2 :: sk) e h R) := nr rfl
end
noncomputable def c_impl_gossipTime_1_C (orc : Orc) : Cx := ⟨Try.prog, [], 134, 10, [.tmp 3], orc⟩
@[simp] theorem c_impl_gossipTime_1_C_P (orc : Orc) : (c_impl_gossipTime_1_C orc).P = Try.prog := nr rfl
@[simp] theorem c_impl_gossipTime_1_C_o (orc : Orc) : (c_impl_gossipTime_1_C orc).orc = orc := nr rfl
@[simp] theorem c_impl_gossipTime_1_C_r (orc : Orc) : (c_impl_gossipTime_1_C orc).res = [.tmp 3] := nr rfl
theorem c_impl_gossipTime_1_of {args : List AV} {h : Heap} {R : AV → Heap → Prop} {k : Nat} (ha : args.length = k) {orc : Orc} (hp : Pure Try.prog orc) (hk : Is (c_impl_gossipTime_1_C orc) Try.f134 → Run2 (c_impl_gossipTime_1_C orc) [.code c_impl_gossipTime_1_3] (argEnv 0 args) h (Post R)) (hle : k ≤ 10 := by simp) : ACalls Try.prog 134 args h R :=
  contract2 [] c_impl_gossipTime_1_3 [.tmp 3] Try.func134 (by decide +kernel) rfl (by kernel_rfl) (by rw [ha]; exact hle) (by kernel_rfl) hp hk
theorem c_impl_gossipTime_1_of0 {args : List AV} {h : Heap} {R : AV → Heap → Prop} {k : Nat} (ha : args.length = k) {orc : Orc} (hp : Pure Try.prog orc) (hk : Is (c_impl_gossipTime_1_C orc) Try.f134 → Run2 (c_impl_gossipTime_1_C orc) [.code c_impl_gossipTime_1_3] (argEnv 0 args) h R) (hle : k ≤ 10 := by simp) : ACalls Try.prog 134 args h R :=
  contract20 [] c_impl_gossipTime_1_3 [.tmp 3] Try.func134 (by decide +kernel) rfl (by kernel_rfl) (by rw [ha]; exact hle) (by kernel_rfl) hp hk
theorem gossip1_c (x : Gr) (hv : x.valid) (a : Int) (h : Heap) : ACalls Try.prog 134 [.int .i64 a, .ip [.int .i64 x.n, .snap 3 (x.ts.map T.av)]] h (fun v h' => v = .bool (!decide (a = ((2 ^ x.n.toNat - 1 : Nat) : Int))) ∧ h' = h) := by
  have hn1 := hv.1
  have hn2 := hv.2.1
  have hp : 2 ^ x.n.toNat ≤ 4096 := Nat.pow_le_pow_right (by omega) (show x.n.toNat ≤ 12 by omega)
  have hp1 : 0 < 2 ^ x.n.toNat := Nat.pow_pos (by omega)
  have hsh : IntKind.i64.wrap ((2 : Int) ^ (min x.n.toNat IntKind.i64.bits)) = ((2 ^ x.n.toNat : Nat) : Int) := by
    have h2 : (2 : Int) ^ x.n.toNat = ((2 ^ x.n.toNat : Nat) : Int) := by simp
    rw [show IntKind.i64.bits = 64 from rfl, Nat.min_eq_left (by omega), h2]
    generalize 2 ^ x.n.toNat = K at *
    exact w64 (by omega)
  rw [show ((2 ^ x.n.toNat - 1 : Nat) : Int) = ((2 ^ x.n.toNat : Nat) : Int) - 1 by omega]
  generalize 2 ^ x.n.toNat = K at *
  refine c_impl_gossipTime_1_of0 rfl noPure fun I => ?_
  refine Run2.of I 1000 ?_
  simp -implicitDefEqProofs [hsh]
  exact ⟨by omega, by omega⟩
theorem any_full (l : List Nat) (K : Nat) : (l.map fun (m : Nat) => (m : Int)).any (fun a => !decide (a = (K : Int))) = !decide (∀ m ∈ l, m = K) := by
  rw [Bool.eq_iff_iff]
  simp
  constructor
  · rintro ⟨m, hm, h⟩; exact ⟨m, hm, fun e => h (by rw [e])⟩
  · rintro ⟨m, hm, h⟩; exact ⟨m, hm, fun e => h (by omega)⟩
abbrev c_impl_gossipTime_o0 : List AJ := [.o ⟨(some 2), none, false, .box false 2 (.t 0), none⟩, .o ⟨(some 4), none, false, .mv (.c (.int .i64 0)), (some [1, 2])⟩]
def c_impl_gossipTime_0 : ACode := .region c_impl_gossipTime_o0
abbrev c_impl_gossipTime_o1 : List AJ := [.o ⟨(some 5), none, false, .mv (.c (.int .i64 0)), (some [1, 2, 5])⟩]
def c_impl_gossipTime_1 : ACode := .region c_impl_gossipTime_o1
abbrev c_impl_gossipTime_o2 : List AJ := [.o ⟨(some 6), none, false, .load 2 true (.t 2), none⟩, .o ⟨(some 7), none, false, .mv (.t 1), none⟩, .o ⟨(some 8), none, false, .mv (.t 5), none⟩, .o ⟨(some 9), none, false, .call 90 [(.t 6), (.t 7), (.t 8)], none⟩, .o ⟨(some 10), none, false, .mkfn 134 [(.t 2)], none⟩, .o ⟨(some 11), none, false, .call 133 [(.t 9), (.t 10)], (some [1, 2, 5, 11])⟩]
def c_impl_gossipTime_2 : ACode := .region c_impl_gossipTime_o2
def c_impl_gossipTime_3 : ACode := .cond (.t 11) .skip (.exit 0)
def c_impl_gossipTime_4 : ACode := .seq c_impl_gossipTime_2 c_impl_gossipTime_3
abbrev c_impl_gossipTime_o3 : List AJ := [.o ⟨(some 12), none, false, .mv (.t 5), none⟩, .o ⟨(some 13), none, true, .bin .add (.t 12) (.c (.int .i64 1)), none⟩, .o ⟨(some 5), none, false, .mv (.t 13), (some [1, 2, 5])⟩]
def c_impl_gossipTime_5 : ACode := .region c_impl_gossipTime_o3
def c_impl_gossipTime_6 : ACode := .block 1 c_impl_gossipTime_5
def c_impl_gossipTime_7 : ACode := .seq c_impl_gossipTime_4 c_impl_gossipTime_6
def c_impl_gossipTime_8 : ACode := .loop c_impl_gossipTime_7
def c_impl_gossipTime_9 : ACode := .block 0 c_impl_gossipTime_8
abbrev c_impl_gossipTime_o4 : List AJ := [.o ⟨(some 14), none, false, .mv (.t 5), none⟩, .o ⟨(some 4), none, false, .mv (.t 14), (some [4])⟩]
def c_impl_gossipTime_10 : ACode := .region c_impl_gossipTime_o4
def c_impl_gossipTime_11 : ACode := .seq c_impl_gossipTime_10 .ret
def c_impl_gossipTime_12 : ACode := .seq c_impl_gossipTime_9 c_impl_gossipTime_11
def c_impl_gossipTime_13 : ACode := .seq c_impl_gossipTime_1 c_impl_gossipTime_12
def c_impl_gossipTime_14 : ACode := .seq c_impl_gossipTime_0 c_impl_gossipTime_13
section
variable (C : Cx) (n : Nat) (sk : List AItem) (e : Env) (h : Heap) (R : AV → Heap → Prop)
@[simp, simp ↓] theorem c_impl_gossipTime_0_r : vc2 C (n + 1) [] (.code c_impl_gossipTime_0 :: sk) e h R = (vc2 C n c_impl_gossipTime_o0 sk e h R) := nr rfl
@[simp, simp ↓] theorem c_impl_gossipTime_1_r : vc2 C (n + 1) [] (.code c_impl_gossipTime_1 :: sk) e h R = (vc2 C n c_impl_gossipTime_o1 sk e h R) := nr rfl
@[simp, simp ↓] theorem c_impl_gossipTime_2_r : vc2 C (n + 1) [] (.code c_impl_gossipTime_2 :: sk) e h R = (vc2 C n c_impl_gossipTime_o2 sk e h R) := nr rfl
@[simp, simp ↓] theorem c_impl_gossipTime_3_r : vc2 C (n + 1) [] (.code c_impl_gossipTime_3 :: sk) e h R = (condK (ev e (.t 11)) (vc2 C n [] (.code .skip :: sk) e h R) (vc2 C n [] (.code (.exit 0) :: sk) e h R)) := nr rfl
@[simp, simp ↓] theorem c_impl_gossipTime_4_r : vc2 C (n + 1) [] (.code c_impl_gossipTime_4 :: sk) e h R = (vc2 C n [] (.code c_impl_gossipTime_2 :: .code c_impl_gossipTime_3 :: sk) e h R) := nr rfl
@[simp, simp ↓] theorem c_impl_gossipTime_5_r : vc2 C (n + 1) [] (.code c_impl_gossipTime_5 :: sk) e h R = (vc2 C n c_impl_gossipTime_o3 sk e h R) := nr rfl
@[simp, simp ↓] theorem c_impl_gossipTime_6_r : vc2 C (n + 1) [] (.code c_impl_gossipTime_6 :: sk) e h R = (vc2 C n [] (.code c_impl_gossipTime_5 :: .inBlock 1 :: sk) e h R) := nr rfl
@[simp, simp ↓] theorem c_impl_gossipTime_7_r : vc2 C (n + 1) [] (.code c_impl_gossipTime_7 :: sk) e h R = (vc2 C n [] (.code c_impl_gossipTime_4 :: .code c_impl_gossipTime_6 :: sk) e h R) := nr rfl
@[simp, simp ↓] theorem c_impl_gossipTime_8_r : vc2 C (n + 1) [] (.code c_impl_gossipTime_8 :: sk) e h R = (Run2 C (.code c_impl_gossipTime_7 :: .inLoop c_impl_gossipTime_7 :: sk) e h R) := nr rfl
@[simp, simp ↓] theorem c_impl_gossipTime_9_r : vc2 C (n + 1) [] (.code c_impl_gossipTime_9 :: sk) e h R = (vc2 C n [] (.code c_impl_gossipTime_8 :: .inBlock 0 :: sk) e h R) := nr rfl
@[simp, simp ↓] theorem c_impl_gossipTime_10_r : vc2 C (n + 1) [] (.code c_impl_gossipTime_10 :: sk) e h R = (vc2 C n c_impl_gossipTime_o4 sk e h R) := nr rfl
@[simp, simp ↓] theorem c_impl_gossipTime_11_r : vc2 C (n + 1) [] (.code c_impl_gossipTime_11 :: sk) e h R = (vc2 C n [] (.code c_impl_gossipTime_10 :: .code .ret :: sk) e h R) := nr rfl
@[simp, simp ↓] theorem c_impl_gossipTime_12_r : vc2 C (n + 1) [] (.code c_impl_gossipTime_12 :: sk) e h R = (vc2 C n [] (.code c_impl_gossipTime_9 :: .code c_impl_gossipTime_11 :: sk) e h R) := nr rfl
@[simp, simp ↓] theorem c_impl_gossipTime_13_r : vc2 C (n + 1) [] (.code c_impl_gossipTime_13 :: sk) e h R = (vc2 C n [] (.code c_impl_gossipTime_1 :: .code c_impl_gossipTime_12 :: sk) e h R) := nr rfl
@[simp, simp ↓] theorem c_impl_gossipTime_14_r : vc2 C (n + 1) [] (.code c_impl_gossipTime_14 :: sk) e h R = (vc2 C n [] (.code c_impl_gossipTime_0 :: .code c_impl_gossipTime_13 :: sk) e h R) := nr rfl
end
noncomputable def c_impl_gossipTime_C (orc : Orc) : Cx := ⟨Try.prog, [], 97, 15, [.tmp 4], orc⟩
@[simp] theorem c_impl_gossipTime_C_P (orc : Orc) : (c_impl_gossipTime_C orc).P = Try.prog := nr rfl
@[simp] theorem c_impl_gossipTime_C_o (orc : Orc) : (c_impl_gossipTime_C orc).orc = orc := nr rfl
@[simp] theorem c_impl_gossipTime_C_r (orc : Orc) : (c_impl_gossipTime_C orc).res = [.tmp 4] := nr rfl
theorem c_impl_gossipTime_of {args : List AV} {h : Heap} {R : AV → Heap → Prop} {k : Nat} (ha : args.length = k) {orc : Orc} (hp : Pure Try.prog orc) (hk : Is (c_impl_gossipTime_C orc) Try.f97 → Run2 (c_impl_gossipTime_C orc) [.code c_impl_gossipTime_14] (argEnv 0 args) h (Post R)) (hle : k ≤ 15 := by simp) : ACalls Try.prog 97 args h R :=
  contract2 [] c_impl_gossipTime_14 [.tmp 4] Try.func97 (by decide +kernel) rfl (by kernel_rfl) (by rw [ha]; exact hle) (by kernel_rfl) hp hk
theorem c_impl_gossipTime_of0 {args : List AV} {h : Heap} {R : AV → Heap → Prop} {k : Nat} (ha : args.length = k) {orc : Orc} (hp : Pure Try.prog orc) (hk : Is (c_impl_gossipTime_C orc) Try.f97 → Run2 (c_impl_gossipTime_C orc) [.code c_impl_gossipTime_14] (argEnv 0 args) h R) (hle : k ≤ 15 := by simp) : ACalls Try.prog 97 args h R :=
  contract20 [] c_impl_gossipTime_14 [.tmp 4] Try.func97 (by decide +kernel) rfl (by kernel_rfl) (by rw [ha]; exact hle) (by kernel_rfl) hp hk
theorem gossipTime_c (x : Gr) (rs : List (List Int)) (h : Heap) (hr : ssTot rs ≤ 1048576) (hv : x.valid) (hok : x.rsOk rs) (hc : x.conn) : ACalls Try.prog 97 [x.av, .snap 1 (rs.map il)] h (fun v h' => v = .int .i64 (x.gT rs) ∧ h' = h) := by
  have hn2 := hv.2.1
  obtain ⟨g1, g2, g3⟩ := Gr.gT_spec hv hok hc
  refine c_impl_gossipTime_of0 rfl noPure fun I => ?_
  refine Run2.of I 1000 ?_
  simp -implicitDefEqProofs
  refine Run2.loopE (fun (t : Nat) => [(1, .snap 1 (rs.map il)), (2, .ip [.int .i64 x.n, .snap 3 (x.ts.map T.av)]), (5, .int .i64 t)]) (fun t => h) (fun t => x.gT rs - t) (fun t => t ≤ x.gT rs) 0 (by simp) rfl (Nat.zero_le _) fun t ht ih => ?_
  have hkl := (Gr.kn_ok hv hok t).1
  have hcf := ContainsFuncI_s ((x.kn rs t).map fun (m : Nat) => (m : Int)) 134 [.ip [.int .i64 x.n, .snap 3 (x.ts.map T.av)]] (fun a => !decide (a = ((2 ^ x.n.toNat - 1 : Nat) : Int))) h (by simp; omega) fun a _ => gossip1_c x hv a h
  have hany : ((x.kn rs t).map fun (m : Nat) => (m : Int)).any (fun a => !decide (a = ((2 ^ x.n.toNat - 1 : Nat) : Int))) = !decide (fullK x.n.toNat (x.kn rs t)) := by
    exact (any_full _ _).trans (by simp only [fullK])
  have hmm : ((x.kn rs t).map fun (m : Nat) => (m : Int)).map iv = (x.kn rs t).map nv := by simp [Function.comp_def]
  rw [hany, hmm] at hcf
  have hkn := knowledge_c x rs t h hr hv hok ⟨by omega, by omega⟩
  simp only [Int.toNat_natCast] at hkn
  by_cases hf : fullK x.n.toNat (x.kn rs t)
  · have hgt := Gr.gT_eq hv hok hc hf fun s hs => g3 s (by omega)
    simp only [hf, decide_true, Bool.not_true] at hcf
    clear ih
    refine Run2.of I 1000 ?_
    simp -implicitDefEqProofs
    refine hkn.mono ?_
    rintro v h' ⟨rfl, rfl⟩
    refine gK.go ?_
    simp -implicitDefEqProofs
    refine hcf.mono ?_
    rintro v h' ⟨rfl, rfl⟩
    refine gK.go ?_
    simp -implicitDefEqProofs [hgt]
  · have hne : t ≠ x.gT rs := fun e => hf (e ▸ g2)
    have go := ih (t + 1) (by omega) (by omega)
    simp only [hf, decide_false, Bool.not_false] at hcf
    clear ih
    refine Run2.of I 1000 ?_
    simp -implicitDefEqProofs
    refine hkn.mono ?_
    rintro v h' ⟨rfl, rfl⟩
    refine gK.go ?_
    simp -implicitDefEqProofs
    refine hcf.mono ?_
    rintro v h' ⟨rfl, rfl⟩
    refine gK.go ?_
    simp -implicitDefEqProofs
    refine ⟨by omega, ?_⟩
    simpa using go
end Go.AG
