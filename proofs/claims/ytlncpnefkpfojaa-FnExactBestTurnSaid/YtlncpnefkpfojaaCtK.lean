/- Who knows of whom: what the program's functions give. No statement is made here. -/
import Derived.Test.YtlncpnefkpfojaaCtX
namespace Go.AG
open Go.Proofs Go.Proofs.Ytlncpnefkpfojaa
set_option linter.unusedSimpArgs false
set_option linter.unusedVariables false
set_option maxRecDepth 4000
@[simp] def nv (m : Nat) : AV := .int .i64 (m : Int)
theorem or_nat {a b : Nat} (ha : a < 4096) (hb : b < 4096) : bits .or .i64 (a : Int) (b : Int) = ((a ||| b : Nat) : Int) := by
  have h3 : a ||| b < 2 ^ 12 := Nat.or_lt_two_pow (by omega) (by omega)
  have h : (BitVec.ofInt 64 (a : Int) ||| BitVec.ofInt 64 (b : Int)).toNat = a ||| b := by
    rw [BitVec.toNat_or, BitVec.toNat_ofInt, BitVec.toNat_ofInt]
    have h1 : ((a : Int) % ((2 ^ 64 : Nat) : Int)).toNat = a := by omega
    have h2 : ((b : Int) % ((2 ^ 64 : Nat) : Int)).toNat = b := by omega
    rw [h1, h2]
  show IntKind.i64.wrap ((BitVec.ofInt 64 (a : Int) ||| BitVec.ofInt 64 (b : Int)).toNat : Int) = _
  rw [h, w64 (by omega)]
theorem bit_nat {m s : Nat} (hm : m < 4096) (hs : s ≤ 12) : bits .and .i64 ((m : Int).fdiv (2 ^ (min s IntKind.i64.bits))) 1 = if m.testBit s then 1 else 0 := by
  rw [show IntKind.i64.bits = 64 from rfl, Nat.min_eq_left (by omega)]
  have hd : (m : Int).fdiv (2 ^ s) = ((m / 2 ^ s : Nat) : Int) := by
    rw [Int.fdiv_eq_ediv_of_nonneg _ (by exact Int.le_of_lt (Int.pow_pos (by omega)))]
    simp
  rw [hd]
  have hq : m / 2 ^ s < 4096 := Nat.lt_of_le_of_lt (Nat.div_le_self ..) hm
  generalize hA : m / 2 ^ s = q at *
  have h : (BitVec.ofInt 64 (q : Int) &&& BitVec.ofInt 64 1).toNat = q % 2 := by
    rw [BitVec.toNat_and, BitVec.toNat_ofInt, BitVec.toNat_ofInt]
    have h1 : ((q : Int) % ((2 ^ 64 : Nat) : Int)).toNat = q := by omega
    have h2 : ((1 : Int) % ((2 ^ 64 : Nat) : Int)).toNat = 1 := by decide
    rw [h1, h2, Nat.and_one_is_mod]
  show IntKind.i64.wrap ((BitVec.ofInt 64 (q : Int) &&& BitVec.ofInt 64 1).toNat : Int) = _
  rw [h, w64 (by omega), Nat.testBit_eq_decide_div_mod_eq, hA]
  rcases Nat.mod_two_eq_zero_or_one q with e | e <;> simp [e]
/-- Both nodes know what one of them knows. -/
def talk (l : List Nat) (e : T) : List Nat := (l.set e.f.toNat (l.getD e.f.toNat 0 ||| l.getD e.t.toNat 0)).set e.t.toNat (l.getD e.f.toNat 0 ||| l.getD e.t.toNat 0)
@[simp] theorem talk_length (l : List Nat) (e : T) : (talk l e).length = l.length := by simp [talk]
theorem talk_nv (l : List Nat) (e : T) (hf : e.f.toNat < l.length) (ht : e.t.toNat < l.length) : ((l.map nv).set e.f.toNat (.int .i64 ((l[e.f.toNat] ||| l[e.t.toNat] : Nat) : Int))).set e.t.toNat (.int .i64 ((l[e.f.toNat] ||| l[e.t.toNat] : Nat) : Int)) = (talk l e).map nv := by
  unfold talk
  rw [show l.getD e.f.toNat 0 = l[e.f.toNat] by simp [hf], show l.getD e.t.toNat 0 = l[e.t.toNat] by simp [ht], List.map_set, List.map_set]
  rfl
/-- As many as there are nodes, and each a set of nodes. -/
def knOk (n : Nat) (l : List Nat) : Prop := l.length = n ∧ ∀ m ∈ l, m < 2 ^ n
theorem knOk.talk {n : Nat} {l : List Nat} {e : T} (h : knOk n l) (hf : e.f.toNat < n) (ht : e.t.toNat < n) : knOk n (talk l e) := by
  refine ⟨by simp [h.1], fun m hm => ?_⟩
  have hb : l.getD e.f.toNat 0 ||| l.getD e.t.toNat 0 < 2 ^ n := by
    have h1 := h.1
    rw [show l.getD e.f.toNat 0 = l[e.f.toNat] by simp [show e.f.toNat < l.length by omega], show l.getD e.t.toNat 0 = l[e.t.toNat] by simp [show e.t.toNat < l.length by omega]]
    exact Nat.or_lt_two_pow (h.2 _ (List.getElem_mem _)) (h.2 _ (List.getElem_mem _))
  unfold Go.AG.talk at hm
  rcases List.mem_or_eq_of_mem_set hm with hm | rfl
  · rcases List.mem_or_eq_of_mem_set hm with hm | rfl
    · exact h.2 m hm
    · exact hb
  · exact hb
def know0 (n : Nat) : List Nat := (List.range n).map fun i => 2 ^ i
@[simp] theorem know0_length (n : Nat) : (know0 n).length = n := by simp [know0]
theorem know0_ok (n : Nat) : knOk n (know0 n) := ⟨by simp, fun m hm => by
  simp only [know0, List.mem_map, List.mem_range] at hm
  obtain ⟨i, hi, rfl⟩ := hm
  exact Nat.pow_lt_pow_right (by omega) hi⟩
abbrev c_impl_knowledge_1_o0 : List AJ := [.o ⟨(some 2), none, false, .box false 3 (.t 0), (some [1, 2])⟩]
def c_impl_knowledge_1_0 : ACode := .region c_impl_knowledge_1_o0
abbrev c_impl_knowledge_1_o1 : List AI := [⟨(some 4), none, false, .load 1 false (.t 1), none⟩, ⟨(some 5), none, false, .fieldA 0 (.t 2), none⟩, ⟨(some 6), none, false, .load 1 false (.t 5), none⟩, ⟨(some 7), none, false, .idxA 1 (.t 4) (.t 6), none⟩, ⟨(some 8), none, false, .load 1 false (.t 7), none⟩, ⟨(some 9), none, false, .load 1 false (.t 1), none⟩, ⟨(some 10), none, false, .fieldA 1 (.t 2), none⟩, ⟨(some 11), none, false, .load 1 false (.t 10), none⟩, ⟨(some 12), none, false, .idxA 1 (.t 9) (.t 11), none⟩, ⟨(some 13), none, false, .load 1 false (.t 12), none⟩, ⟨(some 14), none, false, .bin .or (.t 8) (.t 13), none⟩, ⟨(some 3), none, false, .mv (.t 14), (some [1, 2, 3])⟩]
def c_impl_knowledge_1_1 : ACode := .draw c_impl_knowledge_1_o1 [] rfl
abbrev c_impl_knowledge_1_o2 : List AJ := [.o ⟨(some 15), none, true, .load 1 false (.t 1), none⟩, .o ⟨(some 16), none, false, .fieldA 0 (.t 2), none⟩, .o ⟨(some 17), none, true, .load 1 false (.t 16), none⟩, .o ⟨(some 18), none, true, .load 1 false (.t 1), none⟩, .o ⟨(some 19), none, false, .fieldA 1 (.t 2), none⟩, .o ⟨(some 20), none, true, .load 1 false (.t 19), none⟩, .o ⟨(some 21), none, false, .mv (.t 3), none⟩, .o ⟨(some 22), none, false, .mv (.t 3), none⟩, .o ⟨(some 23), none, false, .idxA 1 (.t 15) (.t 17), none⟩, .o ⟨none, none, false, .store 1 (.t 23) (.t 21), none⟩, .o ⟨(some 24), none, false, .idxA 1 (.t 18) (.t 20), none⟩, .o ⟨none, none, false, .store 1 (.t 24) (.t 22), (some [])⟩]
def c_impl_knowledge_1_2 : ACode := .drawT 2 c_impl_knowledge_1_o2 rfl
def c_impl_knowledge_1_3 : ACode := .seq c_impl_knowledge_1_1 c_impl_knowledge_1_2
def c_impl_knowledge_1_4 : ACode := .seq c_impl_knowledge_1_0 c_impl_knowledge_1_3
section
variable (C : Cx) (n : Nat) (sk : List AItem) (e : Env) (h : Heap) (R : AV → Heap → Prop)
@[simp, simp ↓] theorem c_impl_knowledge_1_0_r : vc2 C (n + 1) [] (.code c_impl_knowledge_1_0 :: sk) e h R = (vc2 C n c_impl_knowledge_1_o0 sk e h R) := nr rfl
@[simp, simp ↓] theorem c_impl_knowledge_1_1_r : vc2 C (n + 1) [] (.code c_impl_knowledge_1_1 :: sk) e h R = (draw2 C h (vK C n [] sk R h) c_impl_knowledge_1_o1 e) := nr rfl
@[simp, simp ↓] theorem c_impl_knowledge_1_2_r : vc2 C (n + 1) [] (.code c_impl_knowledge_1_2 :: sk) e h R = (200 ≤ n ∧ vc2 C n c_impl_knowledge_1_o2 sk e h R) := nr rfl
@[simp, simp ↓] theorem c_impl_knowledge_1_3_r : vc2 C (n + 1) [] (.code c_impl_knowledge_1_3 :: sk) e h R = (vc2 C n [] (.code c_impl_knowledge_1_1 :: .code c_impl_knowledge_1_2 :: sk) e h R) := nr rfl
@[simp, simp ↓] theorem c_impl_knowledge_1_4_r : vc2 C (n + 1) [] (.code c_impl_knowledge_1_4 :: sk) e h R = (vc2 C n [] (.code c_impl_knowledge_1_0 :: .code c_impl_knowledge_1_3 :: sk) e h R) := nr rfl
end
noncomputable def c_impl_knowledge_1_C (orc : Orc) : Cx := ⟨Try.prog, [], 125, 25, [], orc⟩
@[simp] theorem c_impl_knowledge_1_C_P (orc : Orc) : (c_impl_knowledge_1_C orc).P = Try.prog := nr rfl
@[simp] theorem c_impl_knowledge_1_C_o (orc : Orc) : (c_impl_knowledge_1_C orc).orc = orc := nr rfl
@[simp] theorem c_impl_knowledge_1_C_r (orc : Orc) : (c_impl_knowledge_1_C orc).res = [] := nr rfl
theorem c_impl_knowledge_1_of {args : List AV} {h : Heap} {R : AV → Heap → Prop} {k : Nat} (ha : args.length = k) {orc : Orc} (hp : Pure Try.prog orc) (hk : Is (c_impl_knowledge_1_C orc) Try.f125 → Run2 (c_impl_knowledge_1_C orc) [.code c_impl_knowledge_1_4] (argEnv 0 args) h (Post R)) (hle : k ≤ 25 := by simp) : ACalls Try.prog 125 args h R :=
  contract2 [] c_impl_knowledge_1_4 [] Try.func125 (by decide +kernel) rfl (by kernel_rfl) (by rw [ha]; exact hle) (by kernel_rfl) hp hk
theorem c_impl_knowledge_1_of0 {args : List AV} {h : Heap} {R : AV → Heap → Prop} {k : Nat} (ha : args.length = k) {orc : Orc} (hp : Pure Try.prog orc) (hk : Is (c_impl_knowledge_1_C orc) Try.f125 → Run2 (c_impl_knowledge_1_C orc) [.code c_impl_knowledge_1_4] (argEnv 0 args) h R) (hle : k ≤ 25 := by simp) : ACalls Try.prog 125 args h R :=
  contract20 [] c_impl_knowledge_1_4 [] Try.func125 (by decide +kernel) rfl (by kernel_rfl) (by rw [ha]; exact hle) (by kernel_rfl) hp hk
theorem knowledge1_c (id : Nat) (l : List Nat) (e : T) (h : Heap) (n : Nat) (hn : n ≤ 12) (hk : knOk n l) (h0 : 0 ≤ e.f ∧ 0 ≤ e.t) (hf : e.f.toNat < l.length) (ht : e.t.toNat < l.length) : ACalls Try.prog 125 (e.av :: [.ip [.sl id 1 0 l.length (some l.length)]]) ((id, ⟨1, l.map nv⟩) :: h) (fun v h' => v = .tup [] ∧ h' = (id, ⟨1, (talk l e).map nv⟩) :: h) := by
  refine c_impl_knowledge_1_of0 rfl noPure fun I => ?_
  have he := talk_nv l e hf ht
  have h12 : 2 ^ n ≤ 4096 := Nat.pow_le_pow_right (by omega) hn
  have ho := or_nat (Nat.lt_of_lt_of_le (hk.2 _ (List.getElem_mem hf)) h12) (Nat.lt_of_lt_of_le (hk.2 _ (List.getElem_mem ht)) h12)
  refine Run2.of I 1000 ?_
  simp -implicitDefEqProofs [h0.1, h0.2, hf, ht, ho]
  exact ⟨by omega, by omega, he⟩
def Gr.kn (x : Gr) (rs : List (List Int)) (t : Nat) : List Nat := runT x talk rs (know0 x.n.toNat) t
theorem Gr.kn_ok {x : Gr} {rs : List (List Int)} (hv : x.valid) (hok : x.rsOk rs) (t : Nat) : knOk x.n.toNat (x.kn rs t) :=
  runT_inv x talk (Inv := knOk x.n.toNat) (fun a e he ha => by
    have hel := hv.el he
    unfold Gr.el at hel
    exact ha.talk (by omega) (by omega)) (fun r hr k hk => (hok.1 r hr).2.2.1 k hk) (know0_ok _) t
abbrev c_impl_knowledge_o0 : List AJ := [.o ⟨(some 3), none, false, .box false 2 (.t 0), none⟩, .o ⟨(some 6), none, false, .mv (.c .nilsl), (some [1, 2, 3])⟩]
def c_impl_knowledge_0 : ACode := .region c_impl_knowledge_o0
abbrev c_impl_knowledge_o1 : List AJ := [.o ⟨(some 9), none, false, .fieldA 0 (.t 3), none⟩, .o ⟨(some 10), none, false, .load 1 false (.t 9), none⟩, .o ⟨(some 11), none, false, .mksl 1 8 (.int .i64 0) (.t 10) (.t 10), none⟩, .v 7 1 .nilsl [] (.t 11) (some [1, 2, 3, 7])]
def c_impl_knowledge_1 : ACode := .region c_impl_knowledge_o1
abbrev c_impl_knowledge_o2 : List AJ := [.o ⟨(some 12), none, false, .load 1 false (.t 7), none⟩, .o ⟨(some 13), none, false, .len (.t 12), none⟩, .o ⟨(some 14), none, false, .mv (.c (.int .i64 0)), (some [1, 2, 3, 7, 13, 14])⟩]
def c_impl_knowledge_2 : ACode := .region c_impl_knowledge_o2
abbrev c_impl_knowledge_o3 : List AJ := [.o ⟨(some 15), none, false, .bin .lss (.t 14) (.t 13), (some [1, 2, 3, 7, 13, 14, 15])⟩]
def c_impl_knowledge_3 : ACode := .region c_impl_knowledge_o3
def c_impl_knowledge_4 : ACode := .cond (.t 15) .skip (.exit 0)
abbrev c_impl_knowledge_o4 : List AJ := [.o ⟨(some 16), none, false, .mv (.t 14), none⟩, .o ⟨(some 8), none, false, .mv (.t 16), (some [1, 2, 3, 7, 8, 13, 14])⟩]
def c_impl_knowledge_5 : ACode := .region c_impl_knowledge_o4
abbrev c_impl_knowledge_o5 : List AI := [⟨(some 17), none, false, .load 1 false (.t 7), none⟩, ⟨(some 18), none, false, .mv (.t 8), none⟩, ⟨(some 19), none, false, .mv (.t 8), none⟩, ⟨(some 20), none, false, .bin .shl (.c (.int .i64 1)) (.t 19), none⟩, ⟨(some 21), none, false, .idxA 1 (.t 17) (.t 18), (some [1, 2, 3, 7, 13, 14, 20, 21])⟩]
abbrev c_impl_knowledge_o6 : List AJ := [.o ⟨none, none, false, .store 1 (.t 21) (.t 20), (some [1, 2, 3, 7, 13, 14])⟩]
def c_impl_knowledge_6 : ACode := .draw c_impl_knowledge_o5 c_impl_knowledge_o6 rfl
def c_impl_knowledge_7 : ACode := .seq c_impl_knowledge_5 c_impl_knowledge_6
def c_impl_knowledge_8 : ACode := .block 1 c_impl_knowledge_7
abbrev c_impl_knowledge_o7 : List AJ := [.o ⟨(some 22), none, true, .bin .add (.t 14) (.c (.int .i64 1)), none⟩, .o ⟨(some 14), none, false, .mv (.t 22), (some [1, 2, 3, 7, 13, 14])⟩]
def c_impl_knowledge_9 : ACode := .region c_impl_knowledge_o7
def c_impl_knowledge_10 : ACode := .seq c_impl_knowledge_8 c_impl_knowledge_9
def c_impl_knowledge_11 : ACode := .seq c_impl_knowledge_4 c_impl_knowledge_10
def c_impl_knowledge_12 : ACode := .seq c_impl_knowledge_3 c_impl_knowledge_11
def c_impl_knowledge_13 : ACode := .loop c_impl_knowledge_12
def c_impl_knowledge_14 : ACode := .block 0 c_impl_knowledge_13
def c_impl_knowledge_15 : ACode := .seq c_impl_knowledge_2 c_impl_knowledge_14
abbrev c_impl_knowledge_o8 : List AJ := [.o ⟨(some 23), none, false, .load 2 true (.t 3), none⟩, .o ⟨(some 24), none, false, .mv (.t 1), none⟩, .o ⟨(some 25), none, false, .mv (.t 2), none⟩, .o ⟨(some 26), none, false, .mkfn 125 [(.t 7)], none⟩, .o ⟨(some 27), none, false, .call 120 [(.t 23), (.t 24), (.t 25), (.t 26)], (some [7])⟩]
def c_impl_knowledge_16 : ACode := .region c_impl_knowledge_o8
abbrev c_impl_knowledge_o9 : List AJ := [.o ⟨(some 28), none, false, .load 1 false (.t 7), none⟩, .o ⟨(some 6), none, false, .mv (.t 28), (some [6])⟩]
def c_impl_knowledge_17 : ACode := .region c_impl_knowledge_o9
def c_impl_knowledge_18 : ACode := .seq c_impl_knowledge_17 .ret
def c_impl_knowledge_19 : ACode := .seq c_impl_knowledge_16 c_impl_knowledge_18
def c_impl_knowledge_20 : ACode := .seq c_impl_knowledge_15 c_impl_knowledge_19
def c_impl_knowledge_21 : ACode := .seq c_impl_knowledge_1 c_impl_knowledge_20
def c_impl_knowledge_22 : ACode := .seq c_impl_knowledge_0 c_impl_knowledge_21
section
variable (C : Cx) (n : Nat) (sk : List AItem) (e : Env) (h : Heap) (R : AV → Heap → Prop)
@[simp, simp ↓] theorem c_impl_knowledge_0_r : vc2 C (n + 1) [] (.code c_impl_knowledge_0 :: sk) e h R = (vc2 C n c_impl_knowledge_o0 sk e h R) := nr rfl
@[simp, simp ↓] theorem c_impl_knowledge_1_r : vc2 C (n + 1) [] (.code c_impl_knowledge_1 :: sk) e h R = (vc2 C n c_impl_knowledge_o1 sk e h R) := nr rfl
@[simp, simp ↓] theorem c_impl_knowledge_2_r : vc2 C (n + 1) [] (.code c_impl_knowledge_2 :: sk) e h R = (vc2 C n c_impl_knowledge_o2 sk e h R) := nr rfl
@[simp, simp ↓] theorem c_impl_knowledge_3_r : vc2 C (n + 1) [] (.code c_impl_knowledge_3 :: sk) e h R = (vc2 C n c_impl_knowledge_o3 sk e h R) := nr rfl
@[simp, simp ↓] theorem c_impl_knowledge_4_r : vc2 C (n + 1) [] (.code c_impl_knowledge_4 :: sk) e h R = (condK (ev e (.t 15)) (vc2 C n [] (.code .skip :: sk) e h R) (vc2 C n [] (.code (.exit 0) :: sk) e h R)) := nr rfl
@[simp, simp ↓] theorem c_impl_knowledge_5_r : vc2 C (n + 1) [] (.code c_impl_knowledge_5 :: sk) e h R = (vc2 C n c_impl_knowledge_o4 sk e h R) := nr rfl
@[simp, simp ↓] theorem c_impl_knowledge_6_r : vc2 C (n + 1) [] (.code c_impl_knowledge_6 :: sk) e h R = (draw2 C h (vK C n c_impl_knowledge_o6 sk R h) c_impl_knowledge_o5 e) := nr rfl
@[simp, simp ↓] theorem c_impl_knowledge_7_r : vc2 C (n + 1) [] (.code c_impl_knowledge_7 :: sk) e h R = (vc2 C n [] (.code c_impl_knowledge_5 :: .code c_impl_knowledge_6 :: sk) e h R) := nr rfl
@[simp, simp ↓] theorem c_impl_knowledge_8_r : vc2 C (n + 1) [] (.code c_impl_knowledge_8 :: sk) e h R = (vc2 C n [] (.code c_impl_knowledge_7 :: .inBlock 1 :: sk) e h R) := nr rfl
@[simp, simp ↓] theorem c_impl_knowledge_9_r : vc2 C (n + 1) [] (.code c_impl_knowledge_9 :: sk) e h R = (vc2 C n c_impl_knowledge_o7 sk e h R) := nr rfl
@[simp, simp ↓] theorem c_impl_knowledge_10_r : vc2 C (n + 1) [] (.code c_impl_knowledge_10 :: sk) e h R = (vc2 C n [] (.code c_impl_knowledge_8 :: .code c_impl_knowledge_9 :: sk) e h R) := nr rfl
@[simp, simp ↓] theorem c_impl_knowledge_11_r : vc2 C (n + 1) [] (.code c_impl_knowledge_11 :: sk) e h R = (vc2 C n [] (.code c_impl_knowledge_4 :: .code c_impl_knowledge_10 :: sk) e h R) := nr rfl
@[simp, simp ↓] theorem c_impl_knowledge_12_r : vc2 C (n + 1) [] (.code c_impl_knowledge_12 :: sk) e h R = (vc2 C n [] (.code c_impl_knowledge_3 :: .code c_impl_knowledge_11 :: sk) e h R) := nr rfl
@[simp, simp ↓] theorem c_impl_knowledge_13_r : vc2 C (n + 1) [] (.code c_impl_knowledge_13 :: sk) e h R = (Run2 C (.code c_impl_knowledge_12 :: .inLoop c_impl_knowledge_12 :: sk) e h R) := nr rfl
@[simp, simp ↓] theorem c_impl_knowledge_14_r : vc2 C (n + 1) [] (.code c_impl_knowledge_14 :: sk) e h R = (vc2 C n [] (.code c_impl_knowledge_13 :: .inBlock 0 :: sk) e h R) := nr rfl
@[simp, simp ↓] theorem c_impl_knowledge_15_r : vc2 C (n + 1) [] (.code c_impl_knowledge_15 :: sk) e h R = (vc2 C n [] (.code c_impl_knowledge_2 :: .code c_impl_knowledge_14 :: sk) e h R) := nr rfl
@[simp, simp ↓] theorem c_impl_knowledge_16_r : vc2 C (n + 1) [] (.code c_impl_knowledge_16 :: sk) e h R = (vc2 C n c_impl_knowledge_o8 sk e h R) := nr rfl
@[simp, simp ↓] theorem c_impl_knowledge_17_r : vc2 C (n + 1) [] (.code c_impl_knowledge_17 :: sk) e h R = (vc2 C n c_impl_knowledge_o9 sk e h R) := nr rfl
@[simp, simp ↓] theorem c_impl_knowledge_18_r : vc2 C (n + 1) [] (.code c_impl_knowledge_18 :: sk) e h R = (vc2 C n [] (.code c_impl_knowledge_17 :: .code .ret :: sk) e h R) := nr rfl
@[simp, simp ↓] theorem c_impl_knowledge_19_r : vc2 C (n + 1) [] (.code c_impl_knowledge_19 :: sk) e h R = (vc2 C n [] (.code c_impl_knowledge_16 :: .code c_impl_knowledge_18 :: sk) e h R) := nr rfl
@[simp, simp ↓] theorem c_impl_knowledge_20_r : vc2 C (n + 1) [] (.code c_impl_knowledge_20 :: sk) e h R = (vc2 C n [] (.code c_impl_knowledge_15 :: .code c_impl_knowledge_19 :: sk) e h R) := nr rfl
@[simp, simp ↓] theorem c_impl_knowledge_21_r : vc2 C (n + 1) [] (.code c_impl_knowledge_21 :: sk) e h R = (vc2 C n [] (.code c_impl_knowledge_1 :: .code c_impl_knowledge_20 :: sk) e h R) := nr rfl
@[simp, simp ↓] theorem c_impl_knowledge_22_r : vc2 C (n + 1) [] (.code c_impl_knowledge_22 :: sk) e h R = (vc2 C n [] (.code c_impl_knowledge_0 :: .code c_impl_knowledge_21 :: sk) e h R) := nr rfl
end
noncomputable def c_impl_knowledge_C (orc : Orc) : Cx := ⟨Try.prog, [7], 90, 29, [.tmp 6], orc⟩
@[simp] theorem c_impl_knowledge_C_P (orc : Orc) : (c_impl_knowledge_C orc).P = Try.prog := nr rfl
@[simp] theorem c_impl_knowledge_C_o (orc : Orc) : (c_impl_knowledge_C orc).orc = orc := nr rfl
@[simp] theorem c_impl_knowledge_C_r (orc : Orc) : (c_impl_knowledge_C orc).res = [.tmp 6] := nr rfl
theorem c_impl_knowledge_of {args : List AV} {h : Heap} {R : AV → Heap → Prop} {k : Nat} (ha : args.length = k) {orc : Orc} (hp : Pure Try.prog orc) (hk : Is (c_impl_knowledge_C orc) Try.f90 → Run2 (c_impl_knowledge_C orc) [.code c_impl_knowledge_22] (argEnv 0 args) h (Post R)) (hle : k ≤ 29 := by simp) : ACalls Try.prog 90 args h R :=
  contract2 [7] c_impl_knowledge_22 [.tmp 6] Try.func90 (by decide +kernel) rfl (by kernel_rfl) (by rw [ha]; exact hle) (by kernel_rfl) hp hk
theorem c_impl_knowledge_of0 {args : List AV} {h : Heap} {R : AV → Heap → Prop} {k : Nat} (ha : args.length = k) {orc : Orc} (hp : Pure Try.prog orc) (hk : Is (c_impl_knowledge_C orc) Try.f90 → Run2 (c_impl_knowledge_C orc) [.code c_impl_knowledge_22] (argEnv 0 args) h R) (hle : k ≤ 29 := by simp) : ACalls Try.prog 90 args h R :=
  contract20 [7] c_impl_knowledge_22 [.tmp 6] Try.func90 (by decide +kernel) rfl (by kernel_rfl) (by rw [ha]; exact hle) (by kernel_rfl) hp hk
theorem knowledge_c (x : Gr) (rs : List (List Int)) (times : Int) (h : Heap) (hr : ssTot rs ≤ 1048576) (hv : x.valid) (hok : x.rsOk rs) (ht : 0 ≤ times ∧ times ≤ 1073741824) : ACalls Try.prog 90 [x.av, .snap 1 (rs.map il), .int .i64 times] h (fun w h' => w = .snap 1 ((x.kn rs times.toNat).map nv) ∧ h' = h) := by
  have hn1 := hv.1
  have hn2 := hv.2.1
  obtain ⟨n, hn⟩ : ∃ n : Nat, x.n.toNat = n := ⟨_, rfl⟩
  refine c_impl_knowledge_of rfl noPure fun I => ?_
  refine Run2.of I 1000 ?_
  simp -implicitDefEqProofs [hn]
  refine ⟨by omega, by omega, fun id hid => ?_⟩
  refine Run2.loopE (fun (i : Nat) => [(1, .snap 1 (rs.map il)), (2, .int .i64 times), (3, .ip [.int .i64 x.n, .snap 3 (x.ts.map T.av)]), (7, .ip [.sl id 1 0 n (some n)]), (13, .int .i64 n), (14, .int .i64 (i : Nat))]) (fun i => (id, ⟨1, ((know0 n).map nv).take i ++ List.replicate (n - i) (.int .i64 0)⟩) :: h) (fun i => n - i) (fun i => i ≤ n) 0 (by simp) (by simp) (Nat.zero_le _) fun i hi ih => ?_
  by_cases hlt : i < n
  · have hsh : IntKind.i64.wrap ((2 : Int) ^ (min i IntKind.i64.bits)) = ((2 ^ i : Nat) : Int) := by
      have : 2 ^ i ≤ 2 ^ 12 := Nat.pow_le_pow_right (by omega) (by omega)
      have h2 : (2 : Int) ^ i = ((2 ^ i : Nat) : Int) := by simp
      rw [show IntKind.i64.bits = 64 from rfl, Nat.min_eq_left (by omega), h2]
      generalize 2 ^ i = K at *
      exact w64 (by omega)
    have go := ih (i + 1) (by omega) (by omega)
    rw [← set_fill ((know0 n).map nv) (.int .i64 0) (i := i) (n := n) (by simp) (by simpa using hlt) (x := nv (2 ^ i)) (by simp [know0])] at go
    clear ih
    refine Run2.of I 1000 ?_
    have hil : i < min i n + (n - i) := by omega
    simp -implicitDefEqProofs [hlt, hsh, hil]
    refine ⟨by omega, ?_⟩
    simpa using go
  · obtain rfl : n = i := by omega
    refine Run2.of I 1000 ?_
    simp -implicitDefEqProofs
    have hex := exchanges_w (fun l => (id, (⟨1, l.map nv⟩ : Blk)) :: h) talk (knOk n) x rs times 125 [.ip [.sl id 1 0 n (some n)]] (know0 n) (know0_ok n) hr (fun r hr k hk => (hok.1 r hr).2.2.1 k hk) ht (fun a e he ha => by
      have hel := hv.el he
      unfold Gr.el at hel
      have hal := ha.1
      refine ⟨?_, ha.talk (by omega) (by omega)⟩
      have := knowledge1_c id a e h n (by omega) ha ⟨hel.1, by omega⟩ (by omega) (by omega)
      rwa [hal] at this)
    rw [List.take_of_length_le (by simp)]
    refine hex.mono ?_
    rintro u h' ⟨rfl, rfl⟩
    have hkn : runT x talk rs (know0 n) times.toNat = x.kn rs times.toNat := by rw [Gr.kn, hn]
    have hkl := (Gr.kn_ok hv hok times.toNat).1
    rw [hn] at hkl
    refine gK.go ?_
    simp -implicitDefEqProofs [hkn]
    refine .freeze id (by simp [hget]; rfl) (.base ⟨?_, by simp [hdel]⟩)
    simp [fz, List.take_of_length_le, hkl]
end Go.AG
