/- Rounds that begin with another one: what the program's and the reference's functions give. No statement is made here. -/
import Derived.Test.YtlncpnefkpfojaaCtRot
import Derived.Test.YtlncpnefkpfojaaCtTurn
import Derived.Test.YtlncpnefkpfojaaCtOwn
import Derived.Test.YtlncpnefkpfojaaCtS
namespace Go.AG
open Go.Proofs Go.Proofs.Ytlncpnefkpfojaa
set_option linter.unusedSimpArgs false
set_option linter.unusedVariables false
set_option maxRecDepth 4000
theorem Concat_f (a b : List AV) (h : Heap) (ha : a.length + b.length ≤ 1048576) : ACalls Try.prog 129 [.snap 1 [.snap 1 a, .snap 1 b]] h (fun v h' => v = .snap 1 (a ++ b) ∧ h' = h) := by
  have := ConcatLL_g [a, b] h (by simp) (by simpa using ha)
  rw [flatten2] at this
  refine ACalls.post (ACalls.mono (by simpa using this) ?_)
  rintro v h' ⟨hp, g, rfl⟩
  exact Post.lend (.wk g.lent (.base ⟨rfl, rfl⟩))
theorem rotL_tot (rs : List (List Int)) (k : Nat) : ssTot (rotL rs k) = ssTot rs := by
  unfold ssTot sumL
  rw [rotL_length, ((rotL_perm rs k).map _).sum_nat]
/-- The rounds, beginning with another one. -/
def turnR (rs : List (List Int)) (by_ : Nat) : List (List Int) := if rs = [] then [] else rotL rs (by_ % rs.length)
theorem turnR_tot (rs : List (List Int)) (k : Nat) : ssTot (turnR rs k) = ssTot rs := by
  unfold turnR
  split
  · rename_i h; rw [h]
  · exact rotL_tot ..
abbrev c_impl_turnedRounds_o0 : List AJ := [.o ⟨(some 4), none, false, .mv (.c .nilsl), (some [0, 1])⟩]
def c_impl_turnedRounds_0 : ACode := .region c_impl_turnedRounds_o0
abbrev c_impl_turnedRounds_o1 : List AJ := [.o ⟨(some 6), none, false, .mv (.t 0), none⟩, .o ⟨(some 7), none, false, .len (.t 6), none⟩, .o ⟨(some 8), none, false, .bin .eql (.t 7) (.c (.int .i64 0)), (some [0, 1, 8])⟩]
def c_impl_turnedRounds_1 : ACode := .region c_impl_turnedRounds_o1
abbrev c_impl_turnedRounds_o2 : List AJ := [.o ⟨(some 4), none, false, .mv (.c .nilsl), (some [4])⟩]
def c_impl_turnedRounds_2 : ACode := .region c_impl_turnedRounds_o2
def c_impl_turnedRounds_3 : ACode := .seq c_impl_turnedRounds_2 .ret
def c_impl_turnedRounds_4 : ACode := .cond (.t 8) c_impl_turnedRounds_3 .skip
def c_impl_turnedRounds_5 : ACode := .seq c_impl_turnedRounds_1 c_impl_turnedRounds_4
abbrev c_impl_turnedRounds_o3 : List AJ := [.o ⟨(some 9), none, false, .mv (.t 1), none⟩, .o ⟨(some 10), none, false, .mv (.t 0), none⟩, .o ⟨(some 11), none, false, .call 85 [(.t 10)], none⟩, .o ⟨(some 12), none, false, .bin .rem (.t 9) (.t 11), none⟩, .o ⟨(some 5), none, false, .mv (.t 12), (some [0, 5])⟩]
def c_impl_turnedRounds_6 : ACode := .region c_impl_turnedRounds_o3
abbrev c_impl_turnedRounds_o4 : List AJ := [.o ⟨(some 13), none, false, .mv (.t 0), none⟩, .o ⟨(some 14), none, false, .mv (.t 5), none⟩, .o ⟨(some 15), none, false, .slice 1 (.t 13) (some (.t 14)) none none, none⟩, .o ⟨(some 16), none, false, .mv (.t 0), none⟩, .o ⟨(some 17), none, false, .mv (.t 5), none⟩, .o ⟨(some 18), none, false, .slice 1 (.t 16) none (some (.t 17)) none, none⟩, .o ⟨(some 19), none, false, .bsl false 1 [(.t 15), (.t 18)], none⟩, .o ⟨(some 20), none, false, .call 129 [(.t 19)], none⟩, .o ⟨(some 21), none, false, .call 128 [(.t 20)], none⟩, .o ⟨(some 4), none, false, .mv (.t 21), (some [4])⟩]
def c_impl_turnedRounds_7 : ACode := .drawT 0 c_impl_turnedRounds_o4 rfl
def c_impl_turnedRounds_8 : ACode := .seq c_impl_turnedRounds_7 .ret
def c_impl_turnedRounds_9 : ACode := .seq c_impl_turnedRounds_6 c_impl_turnedRounds_8
def c_impl_turnedRounds_10 : ACode := .seq c_impl_turnedRounds_5 c_impl_turnedRounds_9
def c_impl_turnedRounds_11 : ACode := .seq c_impl_turnedRounds_0 c_impl_turnedRounds_10
section
variable (C : Cx) (n : Nat) (sk : List AItem) (e : Env) (h : Heap) (R : AV → Heap → Prop)
@[simp, simp ↓] theorem c_impl_turnedRounds_0_r : vc2 C (n + 1) [] (.code c_impl_turnedRounds_0 :: sk) e h R = (vc2 C n c_impl_turnedRounds_o0 sk e h R) := nr rfl
@[simp, simp ↓] theorem c_impl_turnedRounds_1_r : vc2 C (n + 1) [] (.code c_impl_turnedRounds_1 :: sk) e h R = (vc2 C n c_impl_turnedRounds_o1 sk e h R) := nr rfl
@[simp, simp ↓] theorem c_impl_turnedRounds_2_r : vc2 C (n + 1) [] (.code c_impl_turnedRounds_2 :: sk) e h R = (vc2 C n c_impl_turnedRounds_o2 sk e h R) := nr rfl
@[simp, simp ↓] theorem c_impl_turnedRounds_3_r : vc2 C (n + 1) [] (.code c_impl_turnedRounds_3 :: sk) e h R = (vc2 C n [] (.code c_impl_turnedRounds_2 :: .code .ret :: sk) e h R) := nr rfl
@[simp, simp ↓] theorem c_impl_turnedRounds_4_r : vc2 C (n + 1) [] (.code c_impl_turnedRounds_4 :: sk) e h R = (condK (ev e (.t 8)) (vc2 C n [] (.code c_impl_turnedRounds_3 :: sk) e h R) (vc2 C n [] (.code .skip :: sk) e h R)) := nr rfl
@[simp, simp ↓] theorem c_impl_turnedRounds_5_r : vc2 C (n + 1) [] (.code c_impl_turnedRounds_5 :: sk) e h R = (vc2 C n [] (.code c_impl_turnedRounds_1 :: .code c_impl_turnedRounds_4 :: sk) e h R) := nr rfl
@[simp, simp ↓] theorem c_impl_turnedRounds_6_r : vc2 C (n + 1) [] (.code c_impl_turnedRounds_6 :: sk) e h R = (vc2 C n c_impl_turnedRounds_o3 sk e h R) := nr rfl
@[simp, simp ↓] theorem c_impl_turnedRounds_7_r : vc2 C (n + 1) [] (.code c_impl_turnedRounds_7 :: sk) e h R = (200 ≤ n ∧ vc2 C n c_impl_turnedRounds_o4 sk e h R) := nr rfl
@[simp, simp ↓] theorem c_impl_turnedRounds_8_r : vc2 C (n + 1) [] (.code c_impl_turnedRounds_8 :: sk) e h R = (vc2 C n [] (.code c_impl_turnedRounds_7 :: .code .ret :: sk) e h R) := nr rfl
@[simp, simp ↓] theorem c_impl_turnedRounds_9_r : vc2 C (n + 1) [] (.code c_impl_turnedRounds_9 :: sk) e h R = (vc2 C n [] (.code c_impl_turnedRounds_6 :: .code c_impl_turnedRounds_8 :: sk) e h R) := nr rfl
@[simp, simp ↓] theorem c_impl_turnedRounds_10_r : vc2 C (n + 1) [] (.code c_impl_turnedRounds_10 :: sk) e h R = (vc2 C n [] (.code c_impl_turnedRounds_5 :: .code c_impl_turnedRounds_9 :: sk) e h R) := nr rfl
@[simp, simp ↓] theorem c_impl_turnedRounds_11_r : vc2 C (n + 1) [] (.code c_impl_turnedRounds_11 :: sk) e h R = (vc2 C n [] (.code c_impl_turnedRounds_0 :: .code c_impl_turnedRounds_10 :: sk) e h R) := nr rfl
end
noncomputable def c_impl_turnedRounds_C (orc : Orc) : Cx := ⟨Try.prog, [], 93, 22, [.tmp 4], orc⟩
@[simp] theorem c_impl_turnedRounds_C_P (orc : Orc) : (c_impl_turnedRounds_C orc).P = Try.prog := nr rfl
@[simp] theorem c_impl_turnedRounds_C_o (orc : Orc) : (c_impl_turnedRounds_C orc).orc = orc := nr rfl
@[simp] theorem c_impl_turnedRounds_C_r (orc : Orc) : (c_impl_turnedRounds_C orc).res = [.tmp 4] := nr rfl
theorem c_impl_turnedRounds_of {args : List AV} {h : Heap} {R : AV → Heap → Prop} {k : Nat} (ha : args.length = k) {orc : Orc} (hp : Pure Try.prog orc) (hk : Is (c_impl_turnedRounds_C orc) Try.f93 → Run2 (c_impl_turnedRounds_C orc) [.code c_impl_turnedRounds_11] (argEnv 0 args) h (Post R)) (hle : k ≤ 22 := by simp) : ACalls Try.prog 93 args h R :=
  contract2 [] c_impl_turnedRounds_11 [.tmp 4] Try.func93 (by decide +kernel) rfl (by kernel_rfl) (by rw [ha]; exact hle) (by kernel_rfl) hp hk
theorem c_impl_turnedRounds_of0 {args : List AV} {h : Heap} {R : AV → Heap → Prop} {k : Nat} (ha : args.length = k) {orc : Orc} (hp : Pure Try.prog orc) (hk : Is (c_impl_turnedRounds_C orc) Try.f93 → Run2 (c_impl_turnedRounds_C orc) [.code c_impl_turnedRounds_11] (argEnv 0 args) h R) (hle : k ≤ 22 := by simp) : ACalls Try.prog 93 args h R :=
  contract20 [] c_impl_turnedRounds_11 [.tmp 4] Try.func93 (by decide +kernel) rfl (by kernel_rfl) (by rw [ha]; exact hle) (by kernel_rfl) hp hk
theorem turned_o (rs : List (List Int)) (by_ : Nat) (hr : ssTot rs ≤ 1048576) (hb : by_ ≤ 1048576) : ACalls Try.prog 93 [.snap 1 (rs.map il), .int .i64 by_] [] (fun v h' => OwnLL v (turnR rs by_) h') := by
  have hn := (fit_of_tot hr).1
  refine c_impl_turnedRounds_of0 rfl noPure fun I => ?_
  by_cases hne : rs = []
  · subst hne
    refine Run2.of I 1000 ?_
    simp -implicitDefEqProofs
    simp only [turnR, if_true]
    exact .nil
  · have hps : 0 < rs.length := List.length_pos_iff.2 hne
    have hm : by_ % rs.length < rs.length := Nat.mod_lt _ hps
    have htm : (by_ : Int).tmod rs.length = ((by_ % rs.length : Nat) : Int) := by rw [Int.tmod_eq_emod_of_nonneg (by omega)]; rfl
    have htn : ((by_ : Int) % (rs.length : Int)).toNat = by_ % rs.length := by
      rw [show ((by_ : Int) % (rs.length : Int)) = ((by_ % rs.length : Nat) : Int) from rfl]; rfl
    rw [turnR, if_neg hne]
    have hc1 := Concat_f ((rs.drop (by_ % rs.length)).map il) ((rs.take (by_ % rs.length)).map il) [] (by simp; omega)
    rw [← List.map_append] at hc1
    have hc2 := copyLists_o (rotL rs (by_ % rs.length)) (by rw [rotL_tot]; exact hr)
    refine Run2.of I 1000 ?_
    simp -implicitDefEqProofs [hps, hne, htm, htn, hm]
    refine (sizeLL_s rs _).mono ?_
    rintro v h' ⟨rfl, rfl⟩
    refine gK.go ?_
    simp -implicitDefEqProofs [hps, hne, htm, htn, hm]
    have hmi : (by_ : Int) % (rs.length : Int) = ((by_ % rs.length : Nat) : Int) := rfl
    refine ⟨⟨Int.emod_nonneg _ (by omega), by omega⟩, ?_⟩
    have htk : List.take ((rs.length : Int) - (by_ : Int) % (rs.length : Int)).toNat (List.drop (by_ % rs.length) (List.map il rs)) = List.map il (rs.drop (by_ % rs.length)) := by
      rw [List.take_of_length_le (by simp; omega), List.map_drop]
    rw [htk, ← List.map_take]
    refine hc1.mono ?_
    rintro v h' ⟨rfl, rfl⟩
    refine gK.go ?_
    simp -implicitDefEqProofs
    rw [show List.drop (by_ % rs.length) (List.map il rs) ++ List.take (by_ % rs.length) (List.map il rs) = List.map il (rotL rs (by_ % rs.length)) by simp only [rotL, List.map_append, List.map_drop, List.map_take]]
    refine hc2.mono ?_
    intro v h' o
    have hcell := o.cell
    refine gK.go ?_
    simp -implicitDefEqProofs [hcell]
    exact o
theorem turned_f (rs : List (List Int)) (by_ : Nat) (h : Heap) (hr : ssTot rs ≤ 1048576) (hb : by_ ≤ 1048576) : ACalls Try.prog 93 [.snap 1 (rs.map il), .int .i64 by_] h (fun v h' => v = .snap 1 ((turnR rs by_).map il) ∧ h' = h) := by
  refine ACalls.post ((ACalls.gives (h := h) [] (by simp) (turned_o rs by_ hr hb) fun v h' o => o.own).mono ?_)
  rintro v h' ⟨g, o, _, rfl⟩
  exact Post.lend (.wk o.lent.wk (.base ⟨rfl, rfl⟩))
noncomputable def Gr.tCode (x : Gr) (rs : List (List Int)) (k : Int) : Int := if x.sCode rs = 0 then if 0 ≤ k ∧ k ≤ 100 then 0 else 2 else x.sCode rs
noncomputable def Gr.tL (x : Gr) (rs : List (List Int)) (k : Int) : List (List Int) := if x.tCode rs k = 0 then turnR rs k.toNat else []
theorem Gr.tCode_ok {x : Gr} {rs : List (List Int)} {k : Int} (h : x.tCode rs k = 0) : (x.valid ∧ x.rsOk rs) ∧ 0 ≤ k ∧ k ≤ 100 := by
  unfold Gr.tCode at h
  split at h
  · rename_i h1
    split at h
    · exact ⟨Gr.sCode_ok h1, by assumption⟩
    · omega
  · rename_i h1; exact absurd h h1
theorem Gr.tL_tot (x : Gr) (rs : List (List Int)) (k : Int) : ssTot (x.tL rs k) ≤ ssTot rs := by
  unfold Gr.tL
  split
  · rw [turnR_tot]; exact Nat.le_refl _
  · simp [ssTot, sumL]
noncomputable def orcKT : List (Nat × (List AV → Option (Prop × AV))) := (79, o_isRepeat) :: (69, o_l00In) :: orcJ
theorem orcKT_p : Pure Try.prog (lk orcKT) := (lk_pure o_isRepeat_k (lk_pure o_l00In_k orcJ_p))
@[simp] theorem orcKT_l (g : FuncId) (l : List AV) : lk orcKT g l = if g = 79 then o_isRepeat l else if g = 69 then o_l00In l else lk orcJ g l := nr rfl
abbrev c_impl_TurnRounds_o0 : List AJ := [.o ⟨(some 3), none, false, .box false 2 (.t 0), none⟩, .o ⟨(some 6), none, false, .mv (.c .nilsl), none⟩, .o ⟨(some 7), none, false, .mv (.c (.int .i64 0)), (some [1, 2, 3])⟩]
def c_impl_TurnRounds_0 : ACode := .region c_impl_TurnRounds_o0
abbrev c_impl_TurnRounds_o1 : List AJ := [.o ⟨(some 9), none, false, .load 2 true (.t 3), none⟩, .o ⟨(some 10), none, false, .mv (.t 1), none⟩, .o ⟨(some 11), none, false, .call 78 [(.t 9), (.t 10)], none⟩, .o ⟨(some 8), none, false, .mv (.t 11), (some [1, 2, 8])⟩]
def c_impl_TurnRounds_1 : ACode := .region c_impl_TurnRounds_o1
abbrev c_impl_TurnRounds_o2 : List AJ := [.o ⟨(some 12), none, false, .mv (.t 8), none⟩, .o ⟨(some 13), none, false, .bin .neq (.t 12) (.c (.int .i64 0)), (some [1, 2, 8, 13])⟩]
def c_impl_TurnRounds_2 : ACode := .region c_impl_TurnRounds_o2
abbrev c_impl_TurnRounds_o3 : List AJ := [.o ⟨(some 14), none, false, .mv (.t 8), none⟩, .o ⟨(some 6), none, false, .mv (.c .nilsl), none⟩, .o ⟨(some 7), none, false, .mv (.t 14), (some [6, 7])⟩]
def c_impl_TurnRounds_3 : ACode := .region c_impl_TurnRounds_o3
def c_impl_TurnRounds_4 : ACode := .seq c_impl_TurnRounds_3 .ret
def c_impl_TurnRounds_5 : ACode := .cond (.t 13) c_impl_TurnRounds_4 .skip
def c_impl_TurnRounds_6 : ACode := .seq c_impl_TurnRounds_2 c_impl_TurnRounds_5
def c_impl_TurnRounds_7 : ACode := .seq c_impl_TurnRounds_1 c_impl_TurnRounds_6
abbrev c_impl_TurnRounds_o4 : List AJ := [.o ⟨(some 15), none, false, .mv (.t 2), none⟩, .o ⟨(some 16), none, false, .call 79 [(.t 15)], none⟩, .o ⟨(some 17), none, false, .un .not (.t 16), (some [1, 2, 17])⟩]
def c_impl_TurnRounds_8 : ACode := .region c_impl_TurnRounds_o4
abbrev c_impl_TurnRounds_o5 : List AJ := [.o ⟨(some 6), none, false, .mv (.c .nilsl), none⟩, .o ⟨(some 7), none, false, .mv (.c (.int .i64 2)), (some [6, 7])⟩]
def c_impl_TurnRounds_9 : ACode := .region c_impl_TurnRounds_o5
def c_impl_TurnRounds_10 : ACode := .seq c_impl_TurnRounds_9 .ret
def c_impl_TurnRounds_11 : ACode := .cond (.t 17) c_impl_TurnRounds_10 .skip
def c_impl_TurnRounds_12 : ACode := .seq c_impl_TurnRounds_8 c_impl_TurnRounds_11
abbrev c_impl_TurnRounds_o6 : List AJ := [.o ⟨(some 18), none, false, .mv (.t 1), none⟩, .o ⟨(some 19), none, false, .mv (.t 2), none⟩, .o ⟨(some 20), none, false, .call 93 [(.t 18), (.t 19)], none⟩, .o ⟨(some 6), none, false, .mv (.t 20), none⟩, .o ⟨(some 7), none, false, .mv (.c (.int .i64 0)), (some [6, 7])⟩]
def c_impl_TurnRounds_13 : ACode := .region c_impl_TurnRounds_o6
def c_impl_TurnRounds_14 : ACode := .seq c_impl_TurnRounds_13 .ret
def c_impl_TurnRounds_15 : ACode := .seq c_impl_TurnRounds_12 c_impl_TurnRounds_14
def c_impl_TurnRounds_16 : ACode := .seq c_impl_TurnRounds_7 c_impl_TurnRounds_15
def c_impl_TurnRounds_17 : ACode := .seq c_impl_TurnRounds_0 c_impl_TurnRounds_16
section
variable (C : Cx) (n : Nat) (sk : List AItem) (e : Env) (h : Heap) (R : AV → Heap → Prop)
@[simp, simp ↓] theorem c_impl_TurnRounds_0_r : vc2 C (n + 1) [] (.code c_impl_TurnRounds_0 :: sk) e h R = (vc2 C n c_impl_TurnRounds_o0 sk e h R) := nr rfl
@[simp, simp ↓] theorem c_impl_TurnRounds_1_r : vc2 C (n + 1) [] (.code c_impl_TurnRounds_1 :: sk) e h R = (vc2 C n c_impl_TurnRounds_o1 sk e h R) := nr rfl
@[simp, simp ↓] theorem c_impl_TurnRounds_2_r : vc2 C (n + 1) [] (.code c_impl_TurnRounds_2 :: sk) e h R = (vc2 C n c_impl_TurnRounds_o2 sk e h R) := nr rfl
@[simp, simp ↓] theorem c_impl_TurnRounds_3_r : vc2 C (n + 1) [] (.code c_impl_TurnRounds_3 :: sk) e h R = (vc2 C n c_impl_TurnRounds_o3 sk e h R) := nr rfl
@[simp, simp ↓] theorem c_impl_TurnRounds_4_r : vc2 C (n + 1) [] (.code c_impl_TurnRounds_4 :: sk) e h R = (vc2 C n [] (.code c_impl_TurnRounds_3 :: .code .ret :: sk) e h R) := nr rfl
@[simp, simp ↓] theorem c_impl_TurnRounds_5_r : vc2 C (n + 1) [] (.code c_impl_TurnRounds_5 :: sk) e h R = (condK (ev e (.t 13)) (vc2 C n [] (.code c_impl_TurnRounds_4 :: sk) e h R) (vc2 C n [] (.code .skip :: sk) e h R)) := nr rfl
@[simp, simp ↓] theorem c_impl_TurnRounds_6_r : vc2 C (n + 1) [] (.code c_impl_TurnRounds_6 :: sk) e h R = (vc2 C n [] (.code c_impl_TurnRounds_2 :: .code c_impl_TurnRounds_5 :: sk) e h R) := nr rfl
@[simp, simp ↓] theorem c_impl_TurnRounds_7_r : vc2 C (n + 1) [] (.code c_impl_TurnRounds_7 :: sk) e h R = (vc2 C n [] (.code c_impl_TurnRounds_1 :: .code c_impl_TurnRounds_6 :: sk) e h R) := nr rfl
@[simp, simp ↓] theorem c_impl_TurnRounds_8_r : vc2 C (n + 1) [] (.code c_impl_TurnRounds_8 :: sk) e h R = (vc2 C n c_impl_TurnRounds_o4 sk e h R) := nr rfl
@[simp, simp ↓] theorem c_impl_TurnRounds_9_r : vc2 C (n + 1) [] (.code c_impl_TurnRounds_9 :: sk) e h R = (vc2 C n c_impl_TurnRounds_o5 sk e h R) := nr rfl
@[simp, simp ↓] theorem c_impl_TurnRounds_10_r : vc2 C (n + 1) [] (.code c_impl_TurnRounds_10 :: sk) e h R = (vc2 C n [] (.code c_impl_TurnRounds_9 :: .code .ret :: sk) e h R) := nr rfl
@[simp, simp ↓] theorem c_impl_TurnRounds_11_r : vc2 C (n + 1) [] (.code c_impl_TurnRounds_11 :: sk) e h R = (condK (ev e (.t 17)) (vc2 C n [] (.code c_impl_TurnRounds_10 :: sk) e h R) (vc2 C n [] (.code .skip :: sk) e h R)) := nr rfl
@[simp, simp ↓] theorem c_impl_TurnRounds_12_r : vc2 C (n + 1) [] (.code c_impl_TurnRounds_12 :: sk) e h R = (vc2 C n [] (.code c_impl_TurnRounds_8 :: .code c_impl_TurnRounds_11 :: sk) e h R) := nr rfl
@[simp, simp ↓] theorem c_impl_TurnRounds_13_r : vc2 C (n + 1) [] (.code c_impl_TurnRounds_13 :: sk) e h R = (vc2 C n c_impl_TurnRounds_o6 sk e h R) := nr rfl
@[simp, simp ↓] theorem c_impl_TurnRounds_14_r : vc2 C (n + 1) [] (.code c_impl_TurnRounds_14 :: sk) e h R = (vc2 C n [] (.code c_impl_TurnRounds_13 :: .code .ret :: sk) e h R) := nr rfl
@[simp, simp ↓] theorem c_impl_TurnRounds_15_r : vc2 C (n + 1) [] (.code c_impl_TurnRounds_15 :: sk) e h R = (vc2 C n [] (.code c_impl_TurnRounds_12 :: .code c_impl_TurnRounds_14 :: sk) e h R) := nr rfl
@[simp, simp ↓] theorem c_impl_TurnRounds_16_r : vc2 C (n + 1) [] (.code c_impl_TurnRounds_16 :: sk) e h R = (vc2 C n [] (.code c_impl_TurnRounds_7 :: .code c_impl_TurnRounds_15 :: sk) e h R) := nr rfl
@[simp, simp ↓] theorem c_impl_TurnRounds_17_r : vc2 C (n + 1) [] (.code c_impl_TurnRounds_17 :: sk) e h R = (vc2 C n [] (.code c_impl_TurnRounds_0 :: .code c_impl_TurnRounds_16 :: sk) e h R) := nr rfl
end
noncomputable def c_impl_TurnRounds_C (orc : Orc) : Cx := ⟨Try.prog, [], 45, 21, [.tmp 6, .tmp 7], orc⟩
@[simp] theorem c_impl_TurnRounds_C_P (orc : Orc) : (c_impl_TurnRounds_C orc).P = Try.prog := nr rfl
@[simp] theorem c_impl_TurnRounds_C_o (orc : Orc) : (c_impl_TurnRounds_C orc).orc = orc := nr rfl
@[simp] theorem c_impl_TurnRounds_C_r (orc : Orc) : (c_impl_TurnRounds_C orc).res = [.tmp 6, .tmp 7] := nr rfl
theorem c_impl_TurnRounds_of {args : List AV} {h : Heap} {R : AV → Heap → Prop} {k : Nat} (ha : args.length = k) {orc : Orc} (hp : Pure Try.prog orc) (hk : Is (c_impl_TurnRounds_C orc) Try.f45 → Run2 (c_impl_TurnRounds_C orc) [.code c_impl_TurnRounds_17] (argEnv 0 args) h (Post R)) (hle : k ≤ 21 := by simp) : ACalls Try.prog 45 args h R :=
  contract2 [] c_impl_TurnRounds_17 [.tmp 6, .tmp 7] Try.func45 (by decide +kernel) rfl (by kernel_rfl) (by rw [ha]; exact hle) (by kernel_rfl) hp hk
theorem c_impl_TurnRounds_of0 {args : List AV} {h : Heap} {R : AV → Heap → Prop} {k : Nat} (ha : args.length = k) {orc : Orc} (hp : Pure Try.prog orc) (hk : Is (c_impl_TurnRounds_C orc) Try.f45 → Run2 (c_impl_TurnRounds_C orc) [.code c_impl_TurnRounds_17] (argEnv 0 args) h R) (hle : k ≤ 21 := by simp) : ACalls Try.prog 45 args h R :=
  contract20 [] c_impl_TurnRounds_17 [.tmp 6, .tmp 7] Try.func45 (by decide +kernel) rfl (by kernel_rfl) (by rw [ha]; exact hle) (by kernel_rfl) hp hk
theorem implTR_o (x : Gr) (rs : List (List Int)) (k : Int) (hl : x.ts.length ≤ 1048576) (ok : x.ok) (hr : ssTot rs ≤ 1048576) : ACalls Try.prog 45 [x.av, .snap 1 (rs.map il), .int .i64 k] [] (fun r h' => ∃ w, r = .tup [w, .int .i64 (x.tCode rs k)] ∧ OwnLL w (x.tL rs k) h') := by
  refine c_impl_TurnRounds_of0 rfl orcKT_p fun I => ?_
  by_cases hs : x.sCode rs = 0
  · by_cases hk : 0 ≤ k ∧ k ≤ 100
    · have hc : x.tCode rs k = 0 := by simp [Gr.tCode, hs, hk]
      have hid : x.tL rs k = turnR rs k.toNat := by simp [Gr.tL, hc]
      rw [hc, hid]
      have ht := turned_o rs k.toNat hr (by omega)
      rw [show ((k.toNat : Nat) : Int) = k by omega] at ht
      refine Run2.of I 1000 ?_
      simp -implicitDefEqProofs [hl, ok, hr, hs, hk.1, hk.2]
      refine ht.mono ?_
      intro v h' o
      have hcell := o.cell
      refine gK.go ?_
      simp -implicitDefEqProofs [hcell]
      exact o
    · have hc : x.tCode rs k = 2 := by simp [Gr.tCode, hs, hk]
      have hid : x.tL rs k = [] := by simp [Gr.tL, hc]
      refine Run2.of I 1000 ?_
      simp -implicitDefEqProofs [hl, ok, hr, hs, hc, hid]
      exact ⟨fun _ => .nil, fun c d => by exfalso; omega⟩
  · have hc : x.tCode rs k = x.sCode rs := by simp [Gr.tCode, hs]
    have hid : x.tL rs k = [] := by simp [Gr.tL, hc, hs]
    refine Run2.of I 1000 ?_
    simp -implicitDefEqProofs [hl, ok, hr, hs, hc, hid]
    exact .nil
abbrev c_spec_TurnRounds_o0 : List AJ := [.o ⟨(some 3), none, false, .box false 2 (.t 0), none⟩, .o ⟨(some 6), none, false, .mv (.c .nilsl), none⟩, .o ⟨(some 7), none, false, .mv (.c (.int .i64 0)), (some [1, 2, 3])⟩]
def c_spec_TurnRounds_0 : ACode := .region c_spec_TurnRounds_o0
abbrev c_spec_TurnRounds_o1 : List AJ := [.o ⟨(some 12), none, false, .mv (.t 1), none⟩, .o ⟨(some 13), none, false, .call 82 [(.t 3), (.t 12)], none⟩, .o ⟨(some 8), none, false, .mv (.t 13), (some [1, 2, 8])⟩]
def c_spec_TurnRounds_1 : ACode := .region c_spec_TurnRounds_o1
abbrev c_spec_TurnRounds_o2 : List AJ := [.o ⟨(some 14), none, false, .mv (.t 8), none⟩, .o ⟨(some 15), none, false, .bin .eql (.t 14) (.c (.int .i64 0)), none⟩, .o ⟨(some 16), none, false, .mv (.t 15), none⟩, .o ⟨(some 17), (some (16, true)), false, .mv (.t 2), none⟩, .o ⟨(some 18), (some (16, true)), false, .call 69 [(.t 17), (.c (.int .i64 0)), (.c (.int .i64 100))], none⟩, .o ⟨(some 19), (some (16, true)), false, .un .not (.t 18), none⟩, .o ⟨(some 20), none, false, .pick (.t 16) (.t 19) (.c (.bool false)), (some [1, 2, 8, 20])⟩]
def c_spec_TurnRounds_2 : ACode := .region c_spec_TurnRounds_o2
abbrev c_spec_TurnRounds_o3 : List AJ := [.o ⟨(some 8), none, false, .mv (.c (.int .i64 2)), (some [1, 2, 8])⟩]
def c_spec_TurnRounds_3 : ACode := .region c_spec_TurnRounds_o3
def c_spec_TurnRounds_4 : ACode := .cond (.t 20) c_spec_TurnRounds_3 .skip
def c_spec_TurnRounds_5 : ACode := .seq c_spec_TurnRounds_2 c_spec_TurnRounds_4
abbrev c_spec_TurnRounds_o4 : List AJ := [.o ⟨(some 21), none, false, .mv (.t 8), none⟩, .o ⟨(some 22), none, false, .bin .neq (.t 21) (.c (.int .i64 0)), (some [1, 2, 8, 22])⟩]
def c_spec_TurnRounds_6 : ACode := .region c_spec_TurnRounds_o4
abbrev c_spec_TurnRounds_o5 : List AJ := [.o ⟨(some 23), none, false, .mv (.t 8), none⟩, .o ⟨(some 6), none, false, .mv (.c .nilsl), none⟩, .o ⟨(some 7), none, false, .mv (.t 23), (some [6, 7])⟩]
def c_spec_TurnRounds_7 : ACode := .region c_spec_TurnRounds_o5
def c_spec_TurnRounds_8 : ACode := .seq c_spec_TurnRounds_7 .ret
def c_spec_TurnRounds_9 : ACode := .cond (.t 22) c_spec_TurnRounds_8 .skip
def c_spec_TurnRounds_10 : ACode := .seq c_spec_TurnRounds_6 c_spec_TurnRounds_9
abbrev c_spec_TurnRounds_o6 : List AJ := [.e 24 1 none, .o ⟨(some 9), none, false, .mv (.t 24), (some [1, 2, 9])⟩]
def c_spec_TurnRounds_11 : ACode := .region c_spec_TurnRounds_o6
abbrev c_spec_TurnRounds_o7 : List AJ := [.o ⟨(some 25), none, false, .mv (.t 1), none⟩, .o ⟨(some 26), none, false, .len (.t 25), none⟩, .o ⟨(some 10), none, false, .mv (.t 26), (some [1, 2, 9, 10])⟩]
def c_spec_TurnRounds_12 : ACode := .region c_spec_TurnRounds_o7
abbrev c_spec_TurnRounds_o8 : List AJ := [.o ⟨(some 11), none, false, .mv (.c (.int .i64 0)), (some [1, 2, 9, 10, 11])⟩]
def c_spec_TurnRounds_13 : ACode := .region c_spec_TurnRounds_o8
abbrev c_spec_TurnRounds_o9 : List AJ := [.o ⟨(some 27), none, false, .mv (.t 11), none⟩, .o ⟨(some 28), none, false, .mv (.t 10), none⟩, .o ⟨(some 29), none, false, .bin .lss (.t 27) (.t 28), (some [1, 2, 9, 10, 11, 29])⟩]
def c_spec_TurnRounds_14 : ACode := .region c_spec_TurnRounds_o9
def c_spec_TurnRounds_15 : ACode := .cond (.t 29) .skip (.exit 0)
def c_spec_TurnRounds_16 : ACode := .seq c_spec_TurnRounds_14 c_spec_TurnRounds_15
abbrev c_spec_TurnRounds_o10 : List AJ := [.o ⟨(some 32), none, false, .mv (.t 9), none⟩, .o ⟨(some 33), none, false, .mv (.t 1), none⟩, .o ⟨(some 34), none, false, .mv (.t 11), none⟩, .o ⟨(some 35), none, false, .mv (.t 2), none⟩, .o ⟨(some 36), none, true, .bin .add (.t 34) (.t 35), none⟩, .o ⟨(some 37), none, false, .mv (.t 10), none⟩, .o ⟨(some 38), none, false, .bin .rem (.t 36) (.t 37), none⟩, .o ⟨(some 39), none, false, .idxA 1 (.t 33) (.t 38), none⟩, .o ⟨(some 40), none, false, .load 1 false (.t 39), none⟩, .o ⟨(some 41), none, false, .call 71 [(.t 40)], none⟩, .o ⟨(some 42), none, false, .bsl false 1 [(.t 41)], none⟩, .o ⟨(some 43), none, false, .append 1 24 (.t 32) (.t 42), none⟩, .o ⟨(some 9), none, false, .mv (.t 43), (some [1, 2, 9, 10, 11])⟩]
def c_spec_TurnRounds_17 : ACode := .region c_spec_TurnRounds_o10
def c_spec_TurnRounds_18 : ACode := .block 1 c_spec_TurnRounds_17
abbrev c_spec_TurnRounds_o11 : List AJ := [.o ⟨(some 30), none, false, .mv (.t 11), none⟩, .o ⟨(some 31), none, true, .bin .add (.t 30) (.c (.int .i64 1)), none⟩, .o ⟨(some 11), none, false, .mv (.t 31), (some [1, 2, 9, 10, 11])⟩]
def c_spec_TurnRounds_19 : ACode := .region c_spec_TurnRounds_o11
def c_spec_TurnRounds_20 : ACode := .seq c_spec_TurnRounds_18 c_spec_TurnRounds_19
def c_spec_TurnRounds_21 : ACode := .seq c_spec_TurnRounds_16 c_spec_TurnRounds_20
def c_spec_TurnRounds_22 : ACode := .loop c_spec_TurnRounds_21
def c_spec_TurnRounds_23 : ACode := .block 0 c_spec_TurnRounds_22
def c_spec_TurnRounds_24 : ACode := .seq c_spec_TurnRounds_13 c_spec_TurnRounds_23
abbrev c_spec_TurnRounds_o12 : List AJ := [.o ⟨(some 44), none, false, .mv (.t 9), none⟩, .o ⟨(some 6), none, false, .mv (.t 44), none⟩, .o ⟨(some 7), none, false, .mv (.c (.int .i64 0)), (some [6, 7])⟩]
def c_spec_TurnRounds_25 : ACode := .region c_spec_TurnRounds_o12
def c_spec_TurnRounds_26 : ACode := .seq c_spec_TurnRounds_25 .ret
def c_spec_TurnRounds_27 : ACode := .seq c_spec_TurnRounds_24 c_spec_TurnRounds_26
def c_spec_TurnRounds_28 : ACode := .seq c_spec_TurnRounds_12 c_spec_TurnRounds_27
def c_spec_TurnRounds_29 : ACode := .seq c_spec_TurnRounds_11 c_spec_TurnRounds_28
def c_spec_TurnRounds_30 : ACode := .seq c_spec_TurnRounds_10 c_spec_TurnRounds_29
def c_spec_TurnRounds_31 : ACode := .seq c_spec_TurnRounds_5 c_spec_TurnRounds_30
def c_spec_TurnRounds_32 : ACode := .seq c_spec_TurnRounds_1 c_spec_TurnRounds_31
def c_spec_TurnRounds_33 : ACode := .seq c_spec_TurnRounds_0 c_spec_TurnRounds_32
section
variable (C : Cx) (n : Nat) (sk : List AItem) (e : Env) (h : Heap) (R : AV → Heap → Prop)
@[simp, simp ↓] theorem c_spec_TurnRounds_0_r : vc2 C (n + 1) [] (.code c_spec_TurnRounds_0 :: sk) e h R = (vc2 C n c_spec_TurnRounds_o0 sk e h R) := nr rfl
@[simp, simp ↓] theorem c_spec_TurnRounds_1_r : vc2 C (n + 1) [] (.code c_spec_TurnRounds_1 :: sk) e h R = (vc2 C n c_spec_TurnRounds_o1 sk e h R) := nr rfl
@[simp, simp ↓] theorem c_spec_TurnRounds_2_r : vc2 C (n + 1) [] (.code c_spec_TurnRounds_2 :: sk) e h R = (vc2 C n c_spec_TurnRounds_o2 sk e h R) := nr rfl
@[simp, simp ↓] theorem c_spec_TurnRounds_3_r : vc2 C (n + 1) [] (.code c_spec_TurnRounds_3 :: sk) e h R = (vc2 C n c_spec_TurnRounds_o3 sk e h R) := nr rfl
@[simp, simp ↓] theorem c_spec_TurnRounds_4_r : vc2 C (n + 1) [] (.code c_spec_TurnRounds_4 :: sk) e h R = (condK (ev e (.t 20)) (vc2 C n [] (.code c_spec_TurnRounds_3 :: sk) e h R) (vc2 C n [] (.code .skip :: sk) e h R)) := nr rfl
@[simp, simp ↓] theorem c_spec_TurnRounds_5_r : vc2 C (n + 1) [] (.code c_spec_TurnRounds_5 :: sk) e h R = (vc2 C n [] (.code c_spec_TurnRounds_2 :: .code c_spec_TurnRounds_4 :: sk) e h R) := nr rfl
@[simp, simp ↓] theorem c_spec_TurnRounds_6_r : vc2 C (n + 1) [] (.code c_spec_TurnRounds_6 :: sk) e h R = (vc2 C n c_spec_TurnRounds_o4 sk e h R) := nr rfl
@[simp, simp ↓] theorem c_spec_TurnRounds_7_r : vc2 C (n + 1) [] (.code c_spec_TurnRounds_7 :: sk) e h R = (vc2 C n c_spec_TurnRounds_o5 sk e h R) := nr rfl
@[simp, simp ↓] theorem c_spec_TurnRounds_8_r : vc2 C (n + 1) [] (.code c_spec_TurnRounds_8 :: sk) e h R = (vc2 C n [] (.code c_spec_TurnRounds_7 :: .code .ret :: sk) e h R) := nr rfl
@[simp, simp ↓] theorem c_spec_TurnRounds_9_r : vc2 C (n + 1) [] (.code c_spec_TurnRounds_9 :: sk) e h R = (condK (ev e (.t 22)) (vc2 C n [] (.code c_spec_TurnRounds_8 :: sk) e h R) (vc2 C n [] (.code .skip :: sk) e h R)) := nr rfl
@[simp, simp ↓] theorem c_spec_TurnRounds_10_r : vc2 C (n + 1) [] (.code c_spec_TurnRounds_10 :: sk) e h R = (vc2 C n [] (.code c_spec_TurnRounds_6 :: .code c_spec_TurnRounds_9 :: sk) e h R) := nr rfl
@[simp, simp ↓] theorem c_spec_TurnRounds_11_r : vc2 C (n + 1) [] (.code c_spec_TurnRounds_11 :: sk) e h R = (vc2 C n c_spec_TurnRounds_o6 sk e h R) := nr rfl
@[simp, simp ↓] theorem c_spec_TurnRounds_12_r : vc2 C (n + 1) [] (.code c_spec_TurnRounds_12 :: sk) e h R = (vc2 C n c_spec_TurnRounds_o7 sk e h R) := nr rfl
@[simp, simp ↓] theorem c_spec_TurnRounds_13_r : vc2 C (n + 1) [] (.code c_spec_TurnRounds_13 :: sk) e h R = (vc2 C n c_spec_TurnRounds_o8 sk e h R) := nr rfl
@[simp, simp ↓] theorem c_spec_TurnRounds_14_r : vc2 C (n + 1) [] (.code c_spec_TurnRounds_14 :: sk) e h R = (vc2 C n c_spec_TurnRounds_o9 sk e h R) := nr rfl
@[simp, simp ↓] theorem c_spec_TurnRounds_15_r : vc2 C (n + 1) [] (.code c_spec_TurnRounds_15 :: sk) e h R = (condK (ev e (.t 29)) (vc2 C n [] (.code .skip :: sk) e h R) (vc2 C n [] (.code (.exit 0) :: sk) e h R)) := nr rfl
@[simp, simp ↓] theorem c_spec_TurnRounds_16_r : vc2 C (n + 1) [] (.code c_spec_TurnRounds_16 :: sk) e h R = (vc2 C n [] (.code c_spec_TurnRounds_14 :: .code c_spec_TurnRounds_15 :: sk) e h R) := nr rfl
@[simp, simp ↓] theorem c_spec_TurnRounds_17_r : vc2 C (n + 1) [] (.code c_spec_TurnRounds_17 :: sk) e h R = (vc2 C n c_spec_TurnRounds_o10 sk e h R) := nr rfl
@[simp, simp ↓] theorem c_spec_TurnRounds_18_r : vc2 C (n + 1) [] (.code c_spec_TurnRounds_18 :: sk) e h R = (vc2 C n [] (.code c_spec_TurnRounds_17 :: .inBlock 1 :: sk) e h R) := nr rfl
@[simp, simp ↓] theorem c_spec_TurnRounds_19_r : vc2 C (n + 1) [] (.code c_spec_TurnRounds_19 :: sk) e h R = (vc2 C n c_spec_TurnRounds_o11 sk e h R) := nr rfl
@[simp, simp ↓] theorem c_spec_TurnRounds_20_r : vc2 C (n + 1) [] (.code c_spec_TurnRounds_20 :: sk) e h R = (vc2 C n [] (.code c_spec_TurnRounds_18 :: .code c_spec_TurnRounds_19 :: sk) e h R) := nr rfl
@[simp, simp ↓] theorem c_spec_TurnRounds_21_r : vc2 C (n + 1) [] (.code c_spec_TurnRounds_21 :: sk) e h R = (vc2 C n [] (.code c_spec_TurnRounds_16 :: .code c_spec_TurnRounds_20 :: sk) e h R) := nr rfl
@[simp, simp ↓] theorem c_spec_TurnRounds_22_r : vc2 C (n + 1) [] (.code c_spec_TurnRounds_22 :: sk) e h R = (Run2 C (.code c_spec_TurnRounds_21 :: .inLoop c_spec_TurnRounds_21 :: sk) e h R) := nr rfl
@[simp, simp ↓] theorem c_spec_TurnRounds_23_r : vc2 C (n + 1) [] (.code c_spec_TurnRounds_23 :: sk) e h R = (vc2 C n [] (.code c_spec_TurnRounds_22 :: .inBlock 0 :: sk) e h R) := nr rfl
@[simp, simp ↓] theorem c_spec_TurnRounds_24_r : vc2 C (n + 1) [] (.code c_spec_TurnRounds_24 :: sk) e h R = (vc2 C n [] (.code c_spec_TurnRounds_13 :: .code c_spec_TurnRounds_23 :: sk) e h R) := nr rfl
@[simp, simp ↓] theorem c_spec_TurnRounds_25_r : vc2 C (n + 1) [] (.code c_spec_TurnRounds_25 :: sk) e h R = (vc2 C n c_spec_TurnRounds_o12 sk e h R) := nr rfl
@[simp, simp ↓] theorem c_spec_TurnRounds_26_r : vc2 C (n + 1) [] (.code c_spec_TurnRounds_26 :: sk) e h R = (vc2 C n [] (.code c_spec_TurnRounds_25 :: .code .ret :: sk) e h R) := nr rfl
@[simp, simp ↓] theorem c_spec_TurnRounds_27_r : vc2 C (n + 1) [] (.code c_spec_TurnRounds_27 :: sk) e h R = (vc2 C n [] (.code c_spec_TurnRounds_24 :: .code c_spec_TurnRounds_26 :: sk) e h R) := nr rfl
@[simp, simp ↓] theorem c_spec_TurnRounds_28_r : vc2 C (n + 1) [] (.code c_spec_TurnRounds_28 :: sk) e h R = (vc2 C n [] (.code c_spec_TurnRounds_12 :: .code c_spec_TurnRounds_27 :: sk) e h R) := nr rfl
@[simp, simp ↓] theorem c_spec_TurnRounds_29_r : vc2 C (n + 1) [] (.code c_spec_TurnRounds_29 :: sk) e h R = (vc2 C n [] (.code c_spec_TurnRounds_11 :: .code c_spec_TurnRounds_28 :: sk) e h R) := nr rfl
@[simp, simp ↓] theorem c_spec_TurnRounds_30_r : vc2 C (n + 1) [] (.code c_spec_TurnRounds_30 :: sk) e h R = (vc2 C n [] (.code c_spec_TurnRounds_10 :: .code c_spec_TurnRounds_29 :: sk) e h R) := nr rfl
@[simp, simp ↓] theorem c_spec_TurnRounds_31_r : vc2 C (n + 1) [] (.code c_spec_TurnRounds_31 :: sk) e h R = (vc2 C n [] (.code c_spec_TurnRounds_5 :: .code c_spec_TurnRounds_30 :: sk) e h R) := nr rfl
@[simp, simp ↓] theorem c_spec_TurnRounds_32_r : vc2 C (n + 1) [] (.code c_spec_TurnRounds_32 :: sk) e h R = (vc2 C n [] (.code c_spec_TurnRounds_1 :: .code c_spec_TurnRounds_31 :: sk) e h R) := nr rfl
@[simp, simp ↓] theorem c_spec_TurnRounds_33_r : vc2 C (n + 1) [] (.code c_spec_TurnRounds_33 :: sk) e h R = (vc2 C n [] (.code c_spec_TurnRounds_0 :: .code c_spec_TurnRounds_32 :: sk) e h R) := nr rfl
end
noncomputable def c_spec_TurnRounds_C (orc : Orc) : Cx := ⟨Try.prog, [24], 44, 45, [.tmp 6, .tmp 7], orc⟩
@[simp] theorem c_spec_TurnRounds_C_P (orc : Orc) : (c_spec_TurnRounds_C orc).P = Try.prog := nr rfl
@[simp] theorem c_spec_TurnRounds_C_o (orc : Orc) : (c_spec_TurnRounds_C orc).orc = orc := nr rfl
@[simp] theorem c_spec_TurnRounds_C_r (orc : Orc) : (c_spec_TurnRounds_C orc).res = [.tmp 6, .tmp 7] := nr rfl
theorem c_spec_TurnRounds_of {args : List AV} {h : Heap} {R : AV → Heap → Prop} {k : Nat} (ha : args.length = k) {orc : Orc} (hp : Pure Try.prog orc) (hk : Is (c_spec_TurnRounds_C orc) Try.f44 → Run2 (c_spec_TurnRounds_C orc) [.code c_spec_TurnRounds_33] (argEnv 0 args) h (Post R)) (hle : k ≤ 45 := by simp) : ACalls Try.prog 44 args h R :=
  contract2 [24] c_spec_TurnRounds_33 [.tmp 6, .tmp 7] Try.func44 (by decide +kernel) rfl (by kernel_rfl) (by rw [ha]; exact hle) (by kernel_rfl) hp hk
theorem c_spec_TurnRounds_of0 {args : List AV} {h : Heap} {R : AV → Heap → Prop} {k : Nat} (ha : args.length = k) {orc : Orc} (hp : Pure Try.prog orc) (hk : Is (c_spec_TurnRounds_C orc) Try.f44 → Run2 (c_spec_TurnRounds_C orc) [.code c_spec_TurnRounds_33] (argEnv 0 args) h R) (hle : k ≤ 45 := by simp) : ACalls Try.prog 44 args h R :=
  contract20 [24] c_spec_TurnRounds_33 [.tmp 6, .tmp 7] Try.func44 (by decide +kernel) rfl (by kernel_rfl) (by rw [ha]; exact hle) (by kernel_rfl) hp hk
theorem specTR_c (x : Gr) (rs : List (List Int)) (k : Int) (h : Heap) (hl : x.ts.length ≤ 1048576) (ok : x.ok) (hr : ssTot rs ≤ 1048576) : ACalls Try.prog 44 [x.av, .snap 1 (rs.map il), .int .i64 k] h (fun r h' => r = .tup [.snap 1 ((x.tL rs k).map il), .int .i64 (x.tCode rs k)] ∧ h' = h) := by
  have hn := (fit_of_tot hr).1
  refine ACalls.post (ACalls.mono (R := fun v h'' => ∃ w g, v = .tup [w, .int .i64 (x.tCode rs k)] ∧ OwnLL w (x.tL rs k) g ∧ h'' = g ++ h) (ACalls.permR ?_) ?_)
  · refine c_spec_TurnRounds_of0 rfl orcKT_p fun I => ?_
    by_cases hs : x.sCode rs = 0
    · by_cases hk : 0 ≤ k ∧ k ≤ 100
      · have hc : x.tCode rs k = 0 := by simp [Gr.tCode, hs, hk]
        have hid : x.tL rs k = turnR rs k.toNat := by simp [Gr.tL, hc]
        rw [hc, hid]
        obtain ⟨m, rfl⟩ := Int.eq_ofNat_of_zero_le hk.1
        have hk2 := hk.2
        simp only [Int.toNat_natCast]
        have htl : (turnR rs m).length = rs.length := by
          unfold turnR
          split
          · rename_i e; simp [e]
          · simp
        refine Run2.of I 1000 ?_
        simp -implicitDefEqProofs [hl, ok, hr, hs, hk2]
        refine Run2.loopE (α := Nat × AV × List AV × Heap × Heap) (fun s => [(1, .snap 1 (rs.map il)), (2, .int .i64 m), (9, s.2.1), (10, .int .i64 rs.length), (11, .int .i64 (s.1 : Nat))]) (fun s => s.2.2.2.1 ++ (s.2.2.2.2 ++ h)) (fun s => rs.length - s.1) (fun s => s.1 ≤ rs.length ∧ Grow 1 s.2.1 s.2.2.1 s.2.2.2.1 ∧ OwnP s.2.2.1 ((turnR rs m).take s.1) s.2.2.2.2) (0, .emp, [], [], []) (by simp) rfl ⟨Nat.zero_le _, .emp, [], .nil, .refl _⟩ ?_
        rintro ⟨i, w, us, hp, hi⟩ ⟨hin, hg, ho⟩ ih
        simp only at hin hg ho
        have hcell := hg.cell
        have hul : us.length = i := by
          obtain ⟨hj, o, _⟩ := ho
          rw [o.len, List.length_take]; omega
        by_cases hlt : i < rs.length
        · have hne : rs ≠ [] := fun e => by subst e; simp at hlt
          have hps : 0 < rs.length := by omega
          have hm : (i + m) % rs.length < rs.length := Nat.mod_lt _ hps
          have htm : ((i : Int) + m).tmod rs.length = (((i + m) % rs.length : Nat) : Int) := by
            rw [show (i : Int) + m = ((i + m : Nat) : Int) by omega, Int.tmod_eq_emod_of_nonneg (by omega)]; rfl
          have htn : (((i : Int) + m) % (rs.length : Int)).toNat = (i + m) % rs.length := by
            rw [show (i : Int) + m = ((i + m : Nat) : Int) by omega]; rfl
          have hat : (turnR rs m)[i]'(by omega) = rs[(i + m) % rs.length] := by
            have h1 := rotL_at (rs := rs) (k := m % rs.length) (Nat.mod_lt _ hps) i
            have h2 : (m % rs.length + i) % rs.length = (i + m) % rs.length := by rw [Nat.mod_add_mod, Nat.add_comm]
            rw [h2, Nat.mod_eq_of_lt hlt] at h1
            have h3 : turnR rs m = rotL rs (m % rs.length) := by rw [turnR, if_neg hne]
            simp only [h3]
            simpa [hlt, hm] using h1
          have hrl := (fit_of_tot hr).2 _ (List.getElem_mem hm)
          generalize hr0 : rs[(i + m) % rs.length] = r at *
          refine Run2.of I 1000 ?_
          simp -implicitDefEqProofs [hlt, hps, hne, htm, htn, hm, hr0]
          refine ⟨by omega, Int.emod_nonneg _ (by omega), ?_⟩
          refine (l00Own_g r _ hrl).monoN ?_
          rintro v h' ⟨hc, G, rfl⟩ nd
          have hvcell := G.cell
          have hst := stor_of hvcell
          have hcl : (cellsOf v).length = 1 := by rw [cells_of hvcell]; rfl
          rw [dom_append, List.nodup_append] at nd
          have hd1 : ∀ j ∈ dom hp, j ∉ dom hc := fun j hj hm => nd.2.2 j hm j (by rw [dom_append]; exact List.mem_append_left _ hj) rfl
          have hd2 : ∀ j ∈ dom hc, j ∉ dom hi := fun j hj hm => nd.2.2 j hj j (by rw [dom_append, dom_append]; exact List.mem_append_right _ (List.mem_append_left _ hm)) rfl
          refine gK.go ?_
          simp -implicitDefEqProofs [hcell, hst, hcl]
          refine hg.app_mid (pre := hc) (post := hi ++ h) hd1 (by simp; omega) (by simp) fun w' hp' hg' hd' => ?_
          have hcell' := hg'.cell
          have go := ih (i + 1, w', us ++ [v], hp', hc ++ hi) ⟨hlt, hg', by
            simp only
            rw [List.take_succ_eq_append_getElem (by omega), hat]
            exact ho.app G.own hd2⟩ (by simp; omega)
          simp -implicitDefEqProofs [hcell']
          refine ⟨by omega, ?_⟩
          simpa using go
        · obtain rfl : i = rs.length := by omega
          rw [List.take_of_length_le (by omega)] at ho
          refine Run2.of I 1000 ?_
          simp -implicitDefEqProofs [hcell]
          intro nd
          rw [← List.append_assoc, ← dom_append] at nd
          obtain ⟨h', p, o⟩ := OwnLL.of_grow hg ho (List.nodup_append.1 nd).1
          exact ⟨h' ++ h, by rw [← List.append_assoc]; exact p.append_right h, h', o, rfl⟩
      · have hc : x.tCode rs k = 2 := by simp [Gr.tCode, hs, hk]
        have hid : x.tL rs k = [] := by simp [Gr.tL, hc]
        refine Run2.of I 1000 ?_
        simp -implicitDefEqProofs [hl, ok, hr, hs, hc, hid]
        exact ⟨fun _ _ => ⟨h, .refl _, [], .nil, rfl⟩, fun c d => by exfalso; omega⟩
    · have hc : x.tCode rs k = x.sCode rs := by simp [Gr.tCode, hs]
      have hid : x.tL rs k = [] := by simp [Gr.tL, hc, hs]
      refine Run2.of I 1000 ?_
      simp -implicitDefEqProofs [hl, ok, hr, hs, hc, hid]
      exact fun _ => ⟨h, .refl _, [], .nil, rfl⟩
  · rintro v h'' ⟨w, g, rfl, o, rfl⟩
    exact o.froze _ (.base ⟨rfl, rfl⟩)
end Go.AG
