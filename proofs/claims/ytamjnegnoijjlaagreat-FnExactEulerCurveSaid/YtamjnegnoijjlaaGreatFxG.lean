/- The library's sorting of what is sorted already: it changes nothing. No statement is made here. -/
import Derived.Test.YtamjnegnoijjlaaGreatFxD
namespace Go.AG
open Go.Proofs Go.Proofs.YtamjnegnoijjlaaGreat
set_option linter.unusedSimpArgs false
set_option linter.unusedVariables false
set_option maxRecDepth 4000
/-- A block of values that a function compares; those behind are greater. -/
structure Srt (P : Program) (id : Nat) (us ex : List AV) (g : FuncId) (H : Heap) : Prop where
  at_ : hget H id = some ⟨1, us ++ ex⟩
  len : us.length ≤ 48
  cell : ∀ i (h : i < us.length), isCell us[i] = true
  cmp : ∀ i j (hi : i < us.length) (hj : j < us.length), j < i → ∃ c : Int, 0 < c ∧ ACalls P g [us[i], us[j]] H (fun v h' => v = .int .i64 c ∧ h' = H)
theorem Srt.get {P : Program} {id : Nat} {us ex : List AV} {g : FuncId} {H : Heap} (S : Srt P id us ex g H) {i : Nat} (h : i < us.length) : (us ++ ex)[i]? = some us[i] := by
  rw [List.getElem?_append_left h]; simp [h]
abbrev k131_o0 : List AJ := [.o ⟨(some 10), none, false, .mv (.t 1), none⟩, .o ⟨(some 11), none, true, .bin .add (.t 10) (.c (.int .i64 1)), none⟩, .o ⟨(some 8), none, false, .mv (.t 11), (some [0, 1, 2, 3, 8])⟩]
abbrev k131_o1 : List AJ := [.o ⟨(some 12), none, false, .mv (.t 8), none⟩, .o ⟨(some 13), none, false, .mv (.t 2), none⟩, .o ⟨(some 14), none, false, .bin .lss (.t 12) (.t 13), (some [0, 1, 2, 3, 8, 14])⟩]
def k131_2 : ACode := .cond (.t 14) .skip (.exit 0)
def k131_3 : ACode := .seq (.region k131_o1) k131_2
abbrev k131_o2 : List AJ := [.o ⟨(some 17), none, false, .mv (.t 8), none⟩, .o ⟨(some 9), none, false, .mv (.t 17), (some [0, 1, 2, 3, 8, 9])⟩]
abbrev k131_o3 : List AI := [⟨(some 18), none, false, .mv (.t 9), none⟩, ⟨(some 19), none, false, .mv (.t 1), none⟩, ⟨(some 20), none, false, .bin .gtr (.t 18) (.t 19), none⟩, ⟨(some 21), none, false, .mv (.t 20), none⟩, ⟨(some 22), (some (21, true)), false, .mv (.t 3), none⟩, ⟨(some 23), (some (21, true)), false, .mv (.t 0), none⟩, ⟨(some 24), (some (21, true)), false, .mv (.t 9), none⟩, ⟨(some 25), (some (21, true)), false, .idxA 1 (.t 23) (.t 24), none⟩, ⟨(some 26), (some (21, true)), false, .load 1 false (.t 25), (some [0, 1, 2, 3, 8, 9, 21, 22, 26])⟩, ⟨(some 27), (some (21, true)), false, .mv (.t 0), none⟩, ⟨(some 28), (some (21, true)), false, .mv (.t 9), none⟩, ⟨(some 29), (some (21, true)), true, .bin .sub (.t 28) (.c (.int .i64 1)), none⟩, ⟨(some 30), (some (21, true)), false, .idxA 1 (.t 27) (.t 29), none⟩, ⟨(some 31), (some (21, true)), false, .load 1 false (.t 30), none⟩, ⟨(some 32), (some (21, true)), false, .callv (.t 22) [(.t 26), (.t 31)], none⟩, ⟨(some 33), (some (21, true)), false, .bin .lss (.t 32) (.c (.int .i64 0)), (some [0, 1, 2, 3, 8, 9, 21, 33])⟩, ⟨(some 34), none, false, .pick (.t 21) (.t 33) (.c (.bool false)), (some [0, 1, 2, 3, 8, 9, 34])⟩]
def k131_6 : ACode := .cond (.t 34) .skip (.exit 2)
def k131_7 : ACode := .seq (.draw k131_o3 [] rfl) k131_6
abbrev k131_o4 : List AJ := [.o ⟨(some 37), none, false, .mv (.t 0), none⟩, .o ⟨(some 38), none, false, .mv (.t 9), none⟩, .o ⟨(some 39), none, false, .mv (.t 0), none⟩, .o ⟨(some 40), none, false, .mv (.t 9), none⟩, .o ⟨(some 41), none, true, .bin .sub (.t 40) (.c (.int .i64 1)), none⟩, .o ⟨(some 42), none, false, .mv (.t 0), none⟩, .o ⟨(some 43), none, false, .mv (.t 9), none⟩, .o ⟨(some 44), none, true, .bin .sub (.t 43) (.c (.int .i64 1)), none⟩, .o ⟨(some 45), none, false, .idxA 1 (.t 42) (.t 44), none⟩, .o ⟨(some 46), none, false, .load 1 false (.t 45), none⟩, .o ⟨(some 47), none, false, .mv (.t 0), none⟩, .o ⟨(some 48), none, false, .mv (.t 9), none⟩, .o ⟨(some 49), none, false, .idxA 1 (.t 47) (.t 48), none⟩, .o ⟨(some 50), none, false, .load 1 false (.t 49), (some [0, 1, 2, 3, 8, 9, 37, 38, 39, 41, 46, 50])⟩, .o ⟨(some 51), none, false, .idxA 1 (.t 37) (.t 38), none⟩, .o ⟨none, none, false, .store 1 (.t 51) (.t 46), none⟩, .o ⟨(some 52), none, false, .idxA 1 (.t 39) (.t 41), none⟩, .o ⟨none, none, false, .store 1 (.t 52) (.t 50), (some [0, 1, 2, 3, 8, 9])⟩]
def k131_8 : ACode := .drawT 0 k131_o4 rfl
abbrev k131_o5 : List AJ := [.o ⟨(some 35), none, false, .mv (.t 9), none⟩, .o ⟨(some 36), none, true, .bin .sub (.t 35) (.c (.int .i64 1)), none⟩, .o ⟨(some 9), none, false, .mv (.t 36), (some [0, 1, 2, 3, 8, 9])⟩]
def k131_10 : ACode := .region k131_o5
def k131_11 : ACode := .seq (.block 3 k131_8) k131_10
def k131_12 : ACode := .seq k131_7 k131_11
def k131_13 : ACode := .loop k131_12
def k131_14 : ACode := .block 2 k131_13
def k131_15 : ACode := .seq (.region k131_o2) k131_14
abbrev k131_o6 : List AJ := [.o ⟨(some 15), none, false, .mv (.t 8), none⟩, .o ⟨(some 16), none, true, .bin .add (.t 15) (.c (.int .i64 1)), none⟩, .o ⟨(some 8), none, false, .mv (.t 16), (some [0, 1, 2, 3, 8])⟩]
def k131_17 : ACode := .region k131_o6
def k131_18 : ACode := .seq (.block 1 k131_15) k131_17
def k131_19 : ACode := .seq k131_3 k131_18
def k131_20 : ACode := .loop k131_19
def k131_21 : ACode := .block 0 k131_20
def k131_22 : ACode := .seq (.region k131_o0) k131_21
@[simp, simp ↓] theorem k131_2r : rC k131_2 (.t 14) .skip (.exit 0) := zC rfl
@[simp, simp ↓] theorem k131_3r : sR k131_3 k131_o1 k131_2 := yR rfl
@[simp, simp ↓] theorem k131_6r : rC k131_6 (.t 34) .skip (.exit 2) := zC rfl
@[simp, simp ↓] theorem k131_7r : sD k131_7 k131_o3 [] k131_6 := yD rfl
@[simp, simp ↓] theorem k131_8r : rT k131_8 k131_o4 := zT rfl
@[simp, simp ↓] theorem k131_10r : rR k131_10 k131_o5 := zR rfl
@[simp, simp ↓] theorem k131_11r : sB k131_11 3 k131_8 k131_10 := yB rfl
@[simp, simp ↓] theorem k131_12r : rS k131_12 k131_7 k131_11 := zS rfl
@[simp, simp ↓] theorem k131_13r : rL k131_13 k131_12 := zL rfl
@[simp, simp ↓] theorem k131_14r : rB k131_14 2 k131_13 := zB rfl
@[simp, simp ↓] theorem k131_15r : sR k131_15 k131_o2 k131_14 := yR rfl
@[simp, simp ↓] theorem k131_17r : rR k131_17 k131_o6 := zR rfl
@[simp, simp ↓] theorem k131_18r : sB k131_18 1 k131_15 k131_17 := yB rfl
@[simp, simp ↓] theorem k131_19r : rS k131_19 k131_3 k131_18 := zS rfl
@[simp, simp ↓] theorem k131_20r : rL k131_20 k131_19 := zL rfl
@[simp, simp ↓] theorem k131_21r : rB k131_21 0 k131_20 := zB rfl
@[simp, simp ↓] theorem k131_22r : sR k131_22 k131_o0 k131_21 := yR rfl
noncomputable abbrev k131_C : Orc → Cx := mkC Tryz.prog [] 131 53 []
theorem k131_of0 : OfP0 Tryz.prog Tryz.f131 131 53 k131_C k131_22 := @ofP0 _ _ _ _ _ _ _ _ Tryz.func131 (by decide +kernel) rfl (by kernel_rfl) rfl (by kernel_rfl)
theorem insS {id : Nat} {us ex : List AV} {g : FuncId} {H : Heap} {cap : Option Nat} (S : Srt Tryz.prog id us ex g H) : ACalls Tryz.prog 131 [.sl id 1 0 us.length cap, .int .i64 0, .int .i64 us.length, .fn g []] H (fun v h' => v = .tup [] ∧ h' = H) := by
  have hlen := S.len
  have hat := S.at_
  refine k131_of0 rfl noPure fun I => ?_
  refine Run2.of I 1000 ?_
  simp -implicitDefEqProofs
  refine Run2.loopE (fun (i : Nat) => [(0, .sl id 1 0 us.length cap), (1, .int .i64 0), (2, .int .i64 us.length), (3, .fn g []), (8, .int .i64 (i + 1 : Nat))]) (fun _ => H) (fun i => us.length - i) (fun i => i ≤ us.length) 0 (by simp) rfl (Nat.zero_le _) fun i hi ih => ?_
  by_cases hlt : i + 1 < us.length
  · have hlt' : i < us.length := by omega
    have go := ih (i + 1) (by omega) (by omega)
    have hltI : (i : Int) + 1 < us.length := by omega
    have g1 := S.get hlt
    have g2 := S.get hlt'
    obtain ⟨c, hc, hcall⟩ := S.cmp _ _ hlt hlt' (by omega)
    have hel : i + 1 < us.length + ex.length := by omega
    have hc1 : ((i : Int) + 1 - 1).toNat = i := by omega
    have q1 := cells_of (S.cell _ hlt)
    have q2 := cells_of (S.cell _ hlt')
    clear ih
    refine Run2.of I 1000 ?_
    simp -implicitDefEqProofs [hltI]
    refine Run2.loopE (fun (_ : Unit) => [(0, .sl id 1 0 us.length cap), (1, .int .i64 0), (2, .int .i64 us.length), (3, .fn g []), (8, .int .i64 (i + 1 : Nat)), (9, .int .i64 (i + 1 : Nat))]) (fun _ => H) (fun _ => 0) (fun _ => True) () (by simp) rfl trivial fun _ _ _ => ?_
    refine Run2.of I 1000 ?_
    have hc' : ¬ c < 0 := by omega
    simp -implicitDefEqProofs [hltI, hat, g1, g2, hel, hc1, hlt, hlt', q1, q2]
    refine ⟨by omega, by omega, dcallK hcall ?_⟩
    simp -implicitDefEqProofs [hc']
    exact ⟨by omega, by simpa using go⟩
  · have hltI : ¬ (i : Int) + 1 < us.length := by omega
    refine Run2.of I 1000 ?_
    simp -implicitDefEqProofs [hltI]
abbrev k149_o0 : List AJ := [.o ⟨(some 10), none, false, .mv (.c (.int .i64 0)), none⟩, .o ⟨(some 11), none, false, .mv (.c (.int .i64 0)), (some [0, 1, 2, 3, 4])⟩]
abbrev k149_o1 : List AI := [⟨(some 12), none, false, .mv (.t 4), none⟩, ⟨(some 13), none, false, .mv (.t 0), none⟩, ⟨(some 14), none, false, .mv (.t 2), none⟩, ⟨(some 15), none, false, .idxA 1 (.t 13) (.t 14), none⟩, ⟨(some 16), none, false, .load 1 false (.t 15), none⟩, ⟨(some 17), none, false, .mv (.t 0), none⟩, ⟨(some 18), none, false, .mv (.t 1), none⟩, ⟨(some 19), none, false, .idxA 1 (.t 17) (.t 18), none⟩, ⟨(some 20), none, false, .load 1 false (.t 19), none⟩, ⟨(some 21), none, false, .callv (.t 12) [(.t 16), (.t 20)], none⟩, ⟨(some 22), none, false, .bin .lss (.t 21) (.c (.int .i64 0)), (some [1, 2, 3, 22])⟩]
abbrev k149_o2 : List AJ := [.o ⟨(some 23), none, false, .mv (.t 3), none⟩, .o ⟨(some 24), none, false, .nilchk (.t 23), none⟩, .o ⟨(some 25), none, false, .load 1 false (.t 24), none⟩, .o ⟨(some 26), none, true, .bin .add (.t 25) (.c (.int .i64 1)), none⟩, .o ⟨(some 27), none, false, .nilchk (.t 23), none⟩, .o ⟨none, none, false, .store 1 (.t 27) (.t 26), (some [1, 2])⟩]
abbrev k149_o3 : List AJ := [.o ⟨(some 28), none, false, .mv (.t 2), none⟩, .o ⟨(some 29), none, false, .mv (.t 1), none⟩, .o ⟨(some 10), none, false, .mv (.t 28), none⟩, .o ⟨(some 11), none, false, .mv (.t 29), (some [10, 11])⟩]
def k149_4 : ACode := .seq (.region k149_o3) .ret
def k149_5 : ACode := .seq (.region k149_o2) k149_4
def k149_6 : ACode := .cond (.t 22) k149_5 .skip
def k149_7 : ACode := .seq (.draw k149_o1 [] rfl) k149_6
abbrev k149_o4 : List AJ := [.o ⟨(some 30), none, false, .mv (.t 1), none⟩, .o ⟨(some 31), none, false, .mv (.t 2), none⟩, .o ⟨(some 10), none, false, .mv (.t 30), none⟩, .o ⟨(some 11), none, false, .mv (.t 31), (some [10, 11])⟩]
def k149_9 : ACode := .seq (.region k149_o4) .ret
def k149_10 : ACode := .seq k149_7 k149_9
def k149_11 : ACode := .seq (.region k149_o0) k149_10
@[simp, simp ↓] theorem k149_4r : sR k149_4 k149_o3 .ret := yR rfl
@[simp, simp ↓] theorem k149_5r : sR k149_5 k149_o2 k149_4 := yR rfl
@[simp, simp ↓] theorem k149_6r : rC k149_6 (.t 22) k149_5 .skip := zC rfl
@[simp, simp ↓] theorem k149_7r : sD k149_7 k149_o1 [] k149_6 := yD rfl
@[simp, simp ↓] theorem k149_9r : sR k149_9 k149_o4 .ret := yR rfl
@[simp, simp ↓] theorem k149_10r : rS k149_10 k149_7 k149_9 := zS rfl
@[simp, simp ↓] theorem k149_11r : sR k149_11 k149_o0 k149_10 := yR rfl
noncomputable abbrev k149_C : Orc → Cx := mkC Tryz.prog [] 149 32 [.tmp 10, .tmp 11]
theorem k149_of0 : OfP0 Tryz.prog Tryz.f149 149 32 k149_C k149_11 := @ofP0 _ _ _ _ _ _ _ _ Tryz.func149 (by decide +kernel) rfl (by kernel_rfl) rfl (by kernel_rfl)
theorem ord2S {id : Nat} {us ex : List AV} {g : FuncId} {H : Heap} {cap : Option Nat} (S : Srt Tryz.prog id us ex g H) (a b : Nat) (p : AV) (hab : a < b) (hb : b < us.length) : ACalls Tryz.prog 149 [.sl id 1 0 us.length cap, .int .i64 a, .int .i64 b, p, .fn g []] H (fun v h' => v = .tup [.int .i64 a, .int .i64 b] ∧ h' = H) := by
  have hlen := S.len
  have hat := S.at_
  have ha : a < us.length := by omega
  have g1 := S.get ha
  have g2 := S.get hb
  obtain ⟨c, hc, hcall⟩ := S.cmp _ _ hb ha hab
  have hc' : ¬ c < 0 := by omega
  refine k149_of0 rfl noPure fun I => ?_
  refine Run2.of I 1000 ?_
  have q1 := cells_of (S.cell _ ha)
  have q2 := cells_of (S.cell _ hb)
  simp -implicitDefEqProofs [hat, g1, g2, ha, hb, q1, q2]
  refine dcallK hcall ?_
  simp -implicitDefEqProofs [hc']
abbrev k147_o0 : List AJ := [.o ⟨(some 12), none, false, .mv (.c (.int .i64 0)), (some [0, 1, 2, 3, 4, 5])⟩]
abbrev k147_o1 : List AJ := [.o ⟨(some 14), none, false, .mv (.t 0), none⟩, .o ⟨(some 15), none, false, .mv (.t 1), none⟩, .o ⟨(some 16), none, false, .mv (.t 2), none⟩, .o ⟨(some 17), none, false, .mv (.t 4), none⟩, .o ⟨(some 18), none, false, .mv (.t 5), none⟩, .o ⟨(some 19), none, false, .call 149 [(.t 14), (.t 15), (.t 16), (.t 17), (.t 18)], none⟩, .o ⟨(some 13), none, false, .mv (.t 19), none⟩, .o ⟨(some 20), none, false, .extract (.t 13) 0, none⟩, .o ⟨(some 21), none, false, .extract (.t 13) 1, none⟩, .o ⟨(some 1), none, false, .mv (.t 20), none⟩, .o ⟨(some 2), none, false, .mv (.t 21), (some [0, 1, 2, 3, 4, 5])⟩]
abbrev k147_o2 : List AJ := [.o ⟨(some 23), none, false, .mv (.t 0), none⟩, .o ⟨(some 24), none, false, .mv (.t 2), none⟩, .o ⟨(some 25), none, false, .mv (.t 3), none⟩, .o ⟨(some 26), none, false, .mv (.t 4), none⟩, .o ⟨(some 27), none, false, .mv (.t 5), none⟩, .o ⟨(some 28), none, false, .call 149 [(.t 23), (.t 24), (.t 25), (.t 26), (.t 27)], none⟩, .o ⟨(some 22), none, false, .mv (.t 28), none⟩, .o ⟨(some 29), none, false, .extract (.t 22) 0, none⟩, .o ⟨(some 30), none, false, .extract (.t 22) 1, none⟩, .o ⟨(some 2), none, false, .mv (.t 29), none⟩, .o ⟨(some 3), none, false, .mv (.t 30), (some [0, 1, 2, 4, 5])⟩]
abbrev k147_o3 : List AJ := [.o ⟨(some 32), none, false, .mv (.t 0), none⟩, .o ⟨(some 33), none, false, .mv (.t 1), none⟩, .o ⟨(some 34), none, false, .mv (.t 2), none⟩, .o ⟨(some 35), none, false, .mv (.t 4), none⟩, .o ⟨(some 36), none, false, .mv (.t 5), none⟩, .o ⟨(some 37), none, false, .call 149 [(.t 32), (.t 33), (.t 34), (.t 35), (.t 36)], none⟩, .o ⟨(some 31), none, false, .mv (.t 37), none⟩, .o ⟨(some 38), none, false, .extract (.t 31) 0, none⟩, .o ⟨(some 39), none, false, .extract (.t 31) 1, none⟩, .o ⟨(some 1), none, false, .mv (.t 38), none⟩, .o ⟨(some 2), none, false, .mv (.t 39), (some [2])⟩]
abbrev k147_o4 : List AJ := [.o ⟨(some 40), none, false, .mv (.t 2), none⟩, .o ⟨(some 12), none, false, .mv (.t 40), (some [12])⟩]
def k147_5 : ACode := .seq (.region k147_o4) .ret
def k147_6 : ACode := .seq (.region k147_o3) k147_5
def k147_7 : ACode := .seq (.region k147_o2) k147_6
def k147_8 : ACode := .seq (.region k147_o1) k147_7
def k147_9 : ACode := .seq (.region k147_o0) k147_8
@[simp, simp ↓] theorem k147_5r : sR k147_5 k147_o4 .ret := yR rfl
@[simp, simp ↓] theorem k147_6r : sR k147_6 k147_o3 k147_5 := yR rfl
@[simp, simp ↓] theorem k147_7r : sR k147_7 k147_o2 k147_6 := yR rfl
@[simp, simp ↓] theorem k147_8r : sR k147_8 k147_o1 k147_7 := yR rfl
@[simp, simp ↓] theorem k147_9r : sR k147_9 k147_o0 k147_8 := yR rfl
noncomputable abbrev k147_C : Orc → Cx := mkC Tryz.prog [] 147 41 [.tmp 12]
theorem k147_of0 : OfP0 Tryz.prog Tryz.f147 147 41 k147_C k147_9 := @ofP0 _ _ _ _ _ _ _ _ Tryz.func147 (by decide +kernel) rfl (by kernel_rfl) rfl (by kernel_rfl)
theorem medS {id : Nat} {us ex : List AV} {g : FuncId} {H : Heap} {cap : Option Nat} (S : Srt Tryz.prog id us ex g H) (a b c : Nat) (p : AV) (hab : a < b) (hbc : b < c) (hc : c < us.length) : ACalls Tryz.prog 147 [.sl id 1 0 us.length cap, .int .i64 a, .int .i64 b, .int .i64 c, p, .fn g []] H (fun v h' => v = .int .i64 b ∧ h' = H) := by
  refine k147_of0 rfl noPure fun I => ?_
  refine Run2.of I 1000 ?_
  simp -implicitDefEqProofs
  refine (ord2S S a b p hab (by omega)).mono ?_
  rintro v h' ⟨rfl, rfl⟩
  refine gK.go ?_
  simp -implicitDefEqProofs
  refine (ord2S S b c p hbc hc).mono ?_
  rintro v h' ⟨rfl, rfl⟩
  refine gK.go ?_
  simp -implicitDefEqProofs
  refine (ord2S S a b p hab (by omega)).mono ?_
  rintro v h' ⟨rfl, rfl⟩
  refine gK.go ?_
  simp -implicitDefEqProofs
abbrev k134_o0 : List AJ := [.o ⟨(some 8), none, false, .mv (.c (.int .i64 0)), none⟩, .o ⟨(some 9), none, false, .mv (.c (.int .i64 0)), (some [0, 1, 2, 3])⟩]
abbrev k134_o1 : List AJ := [.o ⟨(some 15), none, false, .mv (.t 2), none⟩, .o ⟨(some 16), none, false, .mv (.t 1), none⟩, .o ⟨(some 17), none, true, .bin .sub (.t 15) (.t 16), none⟩, .o ⟨(some 10), none, false, .mv (.t 17), (some [0, 1, 3, 10])⟩]
abbrev k134_o2 : List AJ := [.o ⟨(some 11), none, false, .alloc false 1 (.int .i64 0), (some [0, 1, 3, 10, 11])⟩]
abbrev k134_o3 : List AJ := [.o ⟨(some 18), none, false, .mv (.t 1), none⟩, .o ⟨(some 19), none, false, .mv (.t 10), none⟩, .o ⟨(some 20), none, true, .bin .quo (.t 19) (.c (.int .i64 4)), none⟩, .o ⟨(some 21), none, true, .bin .mul (.t 20) (.c (.int .i64 1)), none⟩, .o ⟨(some 22), none, true, .bin .add (.t 18) (.t 21), none⟩, .o ⟨(some 12), none, false, .mv (.t 22), (some [0, 1, 3, 10, 11, 12])⟩]
abbrev k134_o4 : List AJ := [.o ⟨(some 23), none, false, .mv (.t 1), none⟩, .o ⟨(some 24), none, false, .mv (.t 10), none⟩, .o ⟨(some 25), none, true, .bin .quo (.t 24) (.c (.int .i64 4)), none⟩, .o ⟨(some 26), none, true, .bin .mul (.t 25) (.c (.int .i64 2)), none⟩, .o ⟨(some 27), none, true, .bin .add (.t 23) (.t 26), none⟩, .o ⟨(some 13), none, false, .mv (.t 27), (some [0, 1, 3, 10, 11, 12, 13])⟩]
abbrev k134_o5 : List AJ := [.o ⟨(some 28), none, false, .mv (.t 1), none⟩, .o ⟨(some 29), none, false, .mv (.t 10), none⟩, .o ⟨(some 30), none, true, .bin .quo (.t 29) (.c (.int .i64 4)), none⟩, .o ⟨(some 31), none, true, .bin .mul (.t 30) (.c (.int .i64 3)), none⟩, .o ⟨(some 32), none, true, .bin .add (.t 28) (.t 31), none⟩, .o ⟨(some 14), none, false, .mv (.t 32), (some [0, 3, 10, 11, 12, 13, 14])⟩]
abbrev k134_o6 : List AJ := [.o ⟨(some 33), none, false, .mv (.t 10), none⟩, .o ⟨(some 34), none, false, .bin .geq (.t 33) (.c (.int .i64 8)), (some [0, 3, 10, 11, 12, 13, 14, 34])⟩]
abbrev k134_o7 : List AJ := [.o ⟨(some 35), none, false, .mv (.t 10), none⟩, .o ⟨(some 36), none, false, .bin .geq (.t 35) (.c (.int .i64 50)), (some [0, 3, 11, 12, 13, 14, 36])⟩]
abbrev k134_o8 : List AJ := [.o ⟨(some 37), none, false, .mv (.t 0), none⟩, .o ⟨(some 38), none, false, .mv (.t 12), none⟩, .o ⟨(some 39), none, false, .mv (.t 3), none⟩, .o ⟨(some 40), none, false, .call 146 [(.t 37), (.t 38), (.t 11), (.t 39)], none⟩, .o ⟨(some 12), none, false, .mv (.t 40), (some [0, 3, 11, 12, 13, 14])⟩]
abbrev k134_o9 : List AJ := [.o ⟨(some 41), none, false, .mv (.t 0), none⟩, .o ⟨(some 42), none, false, .mv (.t 13), none⟩, .o ⟨(some 43), none, false, .mv (.t 3), none⟩, .o ⟨(some 44), none, false, .call 146 [(.t 41), (.t 42), (.t 11), (.t 43)], none⟩, .o ⟨(some 13), none, false, .mv (.t 44), (some [0, 3, 11, 12, 13, 14])⟩]
abbrev k134_o10 : List AJ := [.o ⟨(some 45), none, false, .mv (.t 0), none⟩, .o ⟨(some 46), none, false, .mv (.t 14), none⟩, .o ⟨(some 47), none, false, .mv (.t 3), none⟩, .o ⟨(some 48), none, false, .call 146 [(.t 45), (.t 46), (.t 11), (.t 47)], none⟩, .o ⟨(some 14), none, false, .mv (.t 48), (some [0, 3, 11, 12, 13, 14])⟩]
def k134_10 : ACode := .region k134_o10
def k134_11 : ACode := .seq (.region k134_o9) k134_10
def k134_12 : ACode := .seq (.region k134_o8) k134_11
def k134_13 : ACode := .cond (.t 36) k134_12 .skip
def k134_14 : ACode := .seq (.region k134_o7) k134_13
abbrev k134_o11 : List AJ := [.o ⟨(some 49), none, false, .mv (.t 0), none⟩, .o ⟨(some 50), none, false, .mv (.t 12), none⟩, .o ⟨(some 51), none, false, .mv (.t 13), none⟩, .o ⟨(some 52), none, false, .mv (.t 14), none⟩, .o ⟨(some 53), none, false, .mv (.t 3), none⟩, .o ⟨(some 54), none, false, .call 147 [(.t 49), (.t 50), (.t 51), (.t 52), (.t 11), (.t 53)], none⟩, .o ⟨(some 13), none, false, .mv (.t 54), (some [11, 13])⟩]
def k134_15 : ACode := .region k134_o11
def k134_16 : ACode := .seq k134_14 k134_15
def k134_17 : ACode := .cond (.t 34) k134_16 .skip
def k134_18 : ACode := .seq (.region k134_o6) k134_17
abbrev k134_o12 : List AJ := [.o ⟨(some 55), none, false, .load 1 false (.t 11), (some [13, 55])⟩]
abbrev k134_o13 : List AJ := [.o ⟨(some 58), none, false, .bin .eql (.t 55) (.c (.int .i64 0)), none⟩, .o ⟨(some 57), none, false, .mv (.t 58), (some [13, 55, 57])⟩]
abbrev k134_o14 : List AJ := [.o ⟨(some 59), none, false, .mv (.t 13), none⟩, .o ⟨(some 8), none, false, .mv (.t 59), none⟩, .o ⟨(some 9), none, false, .mv (.c (.int .i64 1)), (some [8, 9])⟩]
def k134_22 : ACode := .seq (.region k134_o14) .ret
abbrev k134_o15 : List AJ := [.o ⟨(some 61), none, false, .bin .eql (.t 55) (.c (.int .i64 12)), none⟩, .o ⟨(some 60), none, false, .mv (.t 61), (some [13, 60])⟩]
abbrev k134_o16 : List AJ := [.o ⟨(some 62), none, false, .mv (.t 13), none⟩, .o ⟨(some 8), none, false, .mv (.t 62), none⟩, .o ⟨(some 9), none, false, .mv (.c (.int .i64 2)), (some [8, 9])⟩]
def k134_25 : ACode := .seq (.region k134_o16) .ret
abbrev k134_o17 : List AJ := [.o ⟨(some 56), none, false, .mv (.t 13), none⟩, .o ⟨(some 8), none, false, .mv (.t 56), none⟩, .o ⟨(some 9), none, false, .mv (.c (.int .i64 0)), (some [8, 9])⟩]
def k134_27 : ACode := .seq (.region k134_o17) .ret
def k134_28 : ACode := .cond (.t 60) k134_25 k134_27
def k134_29 : ACode := .seq (.region k134_o15) k134_28
def k134_30 : ACode := .cond (.t 57) k134_22 k134_29
def k134_31 : ACode := .seq (.region k134_o13) k134_30
def k134_32 : ACode := .block 0 k134_31
def k134_33 : ACode := .seq (.region k134_o12) k134_32
def k134_34 : ACode := .seq k134_18 k134_33
def k134_35 : ACode := .seq (.region k134_o5) k134_34
def k134_36 : ACode := .seq (.region k134_o4) k134_35
def k134_37 : ACode := .seq (.region k134_o3) k134_36
def k134_38 : ACode := .seq (.region k134_o2) k134_37
def k134_39 : ACode := .seq (.region k134_o1) k134_38
def k134_40 : ACode := .seq (.region k134_o0) k134_39
@[simp, simp ↓] theorem k134_10r : rR k134_10 k134_o10 := zR rfl
@[simp, simp ↓] theorem k134_11r : sR k134_11 k134_o9 k134_10 := yR rfl
@[simp, simp ↓] theorem k134_12r : sR k134_12 k134_o8 k134_11 := yR rfl
@[simp, simp ↓] theorem k134_13r : rC k134_13 (.t 36) k134_12 .skip := zC rfl
@[simp, simp ↓] theorem k134_14r : sR k134_14 k134_o7 k134_13 := yR rfl
@[simp, simp ↓] theorem k134_15r : rR k134_15 k134_o11 := zR rfl
@[simp, simp ↓] theorem k134_16r : rS k134_16 k134_14 k134_15 := zS rfl
@[simp, simp ↓] theorem k134_17r : rC k134_17 (.t 34) k134_16 .skip := zC rfl
@[simp, simp ↓] theorem k134_18r : sR k134_18 k134_o6 k134_17 := yR rfl
@[simp, simp ↓] theorem k134_22r : sR k134_22 k134_o14 .ret := yR rfl
@[simp, simp ↓] theorem k134_25r : sR k134_25 k134_o16 .ret := yR rfl
@[simp, simp ↓] theorem k134_27r : sR k134_27 k134_o17 .ret := yR rfl
@[simp, simp ↓] theorem k134_28r : rC k134_28 (.t 60) k134_25 k134_27 := zC rfl
@[simp, simp ↓] theorem k134_29r : sR k134_29 k134_o15 k134_28 := yR rfl
@[simp, simp ↓] theorem k134_30r : rC k134_30 (.t 57) k134_22 k134_29 := zC rfl
@[simp, simp ↓] theorem k134_31r : sR k134_31 k134_o13 k134_30 := yR rfl
@[simp, simp ↓] theorem k134_32r : rB k134_32 0 k134_31 := zB rfl
@[simp, simp ↓] theorem k134_33r : sR k134_33 k134_o12 k134_32 := yR rfl
@[simp, simp ↓] theorem k134_34r : rS k134_34 k134_18 k134_33 := zS rfl
@[simp, simp ↓] theorem k134_35r : sR k134_35 k134_o5 k134_34 := yR rfl
@[simp, simp ↓] theorem k134_36r : sR k134_36 k134_o4 k134_35 := yR rfl
@[simp, simp ↓] theorem k134_37r : sR k134_37 k134_o3 k134_36 := yR rfl
@[simp, simp ↓] theorem k134_38r : sR k134_38 k134_o2 k134_37 := yR rfl
@[simp, simp ↓] theorem k134_39r : sR k134_39 k134_o1 k134_38 := yR rfl
@[simp, simp ↓] theorem k134_40r : sR k134_40 k134_o0 k134_39 := yR rfl
noncomputable abbrev k134_C : Orc → Cx := mkC Tryz.prog [] 134 63 [.tmp 8, .tmp 9]
theorem k134_of0 : OfP0 Tryz.prog Tryz.f134 134 63 k134_C k134_40 := @ofP0 _ _ _ _ _ _ _ _ Tryz.func134 (by decide +kernel) rfl (by kernel_rfl) rfl (by kernel_rfl)
theorem pivS {id : Nat} {us ex : List AV} {g : FuncId} {H : Heap} {cap : Option Nat} (S : Srt Tryz.prog id us ex g H) (h12 : 12 < us.length) : ACalls Tryz.prog 134 [.sl id 1 0 us.length cap, .int .i64 0, .int .i64 us.length, .fn g []] H (fun v h' => ∃ j : Int, v = .tup [.int .i64 j, .int .i64 1] ∧ h' = H) := by
  have hlen := S.len
  refine k134_of0 rfl noPure fun I => ?_
  have e : ((us.length : Int)).tdiv 4 = ((us.length / 4 : Nat) : Int) := rfl
  have h8 : (8 : Int) ≤ us.length := by omega
  have h50 : ¬ (50 : Int) ≤ us.length := by omega
  refine Run2.of I 1000 ?_
  simp -implicitDefEqProofs [e, h8, h50]
  refine ⟨by omega, by omega, by omega, by omega, by omega, ?_⟩
  have hm := medS (cap := cap) S (us.length / 4) (us.length / 4 * 2) (us.length / 4 * 3) (.ip [.int .i64 0]) (by omega) (by omega) (by omega)
  refine ACalls.mono (by simpa using hm) ?_
  rintro v h' ⟨rfl, rfl⟩
  refine gK.go ?_
  simp -implicitDefEqProofs
abbrev k136_o0 : List AJ := [.o ⟨(some 8), none, false, .mv (.c (.bool false)), (some [0, 1, 2, 3])⟩]
abbrev k136_o1 : List AJ := [.o ⟨(some 13), none, false, .mv (.t 1), none⟩, .o ⟨(some 14), none, true, .bin .add (.t 13) (.c (.int .i64 1)), none⟩, .o ⟨(some 9), none, false, .mv (.t 14), (some [0, 1, 2, 3, 9])⟩]
abbrev k136_o2 : List AJ := [.o ⟨(some 10), none, false, .mv (.c (.int .i64 0)), (some [0, 1, 2, 3, 9, 10])⟩]
abbrev k136_o3 : List AJ := [.o ⟨(some 15), none, false, .mv (.t 10), none⟩, .o ⟨(some 16), none, false, .bin .lss (.t 15) (.c (.int .i64 5)), (some [0, 1, 2, 3, 9, 10, 16])⟩]
def k136_4 : ACode := .cond (.t 16) .skip (.exit 0)
def k136_5 : ACode := .seq (.region k136_o3) k136_4
abbrev k136_o4 : List AI := [⟨(some 19), none, false, .mv (.t 9), none⟩, ⟨(some 20), none, false, .mv (.t 2), none⟩, ⟨(some 21), none, false, .bin .lss (.t 19) (.t 20), none⟩, ⟨(some 22), none, false, .mv (.t 21), none⟩, ⟨(some 23), (some (22, true)), false, .mv (.t 3), none⟩, ⟨(some 24), (some (22, true)), false, .mv (.t 0), none⟩, ⟨(some 25), (some (22, true)), false, .mv (.t 9), none⟩, ⟨(some 26), (some (22, true)), false, .idxA 1 (.t 24) (.t 25), none⟩, ⟨(some 27), (some (22, true)), false, .load 1 false (.t 26), (some [0, 1, 2, 3, 9, 10, 22, 23, 27])⟩, ⟨(some 28), (some (22, true)), false, .mv (.t 0), none⟩, ⟨(some 29), (some (22, true)), false, .mv (.t 9), none⟩, ⟨(some 30), (some (22, true)), true, .bin .sub (.t 29) (.c (.int .i64 1)), none⟩, ⟨(some 31), (some (22, true)), false, .idxA 1 (.t 28) (.t 30), none⟩, ⟨(some 32), (some (22, true)), false, .load 1 false (.t 31), none⟩, ⟨(some 33), (some (22, true)), false, .callv (.t 23) [(.t 27), (.t 32)], none⟩, ⟨(some 34), (some (22, true)), false, .bin .lss (.t 33) (.c (.int .i64 0)), (some [0, 1, 2, 3, 9, 10, 22, 34])⟩, ⟨(some 35), (some (22, true)), false, .un .not (.t 34), none⟩, ⟨(some 36), none, false, .pick (.t 22) (.t 35) (.c (.bool false)), (some [0, 1, 2, 3, 9, 10, 36])⟩]
def k136_7 : ACode := .cond (.t 36) .skip (.exit 2)
def k136_8 : ACode := .seq (.draw k136_o4 [] rfl) k136_7
abbrev k136_o5 : List AJ := [.o ⟨(some 37), none, false, .mv (.t 9), none⟩, .o ⟨(some 38), none, true, .bin .add (.t 37) (.c (.int .i64 1)), none⟩, .o ⟨(some 9), none, false, .mv (.t 38), (some [0, 1, 2, 3, 9, 10])⟩]
def k136_9 : ACode := .region k136_o5
def k136_10 : ACode := .block 3 k136_9
def k136_11 : ACode := .seq k136_8 k136_10
def k136_12 : ACode := .loop k136_11
abbrev k136_o6 : List AJ := [.o ⟨(some 39), none, false, .mv (.t 9), none⟩, .o ⟨(some 40), none, false, .mv (.t 2), none⟩, .o ⟨(some 41), none, false, .bin .eql (.t 39) (.t 40), (some [0, 1, 2, 3, 9, 10, 41])⟩]
abbrev k136_o7 : List AJ := [.o ⟨(some 8), none, false, .mv (.c (.bool true)), (some [8])⟩]
def k136_16 : ACode := .seq (.region k136_o7) .ret
def k136_17 : ACode := .cond (.t 41) k136_16 .skip
def k136_18 : ACode := .seq (.region k136_o6) k136_17
abbrev k136_o8 : List AJ := [.o ⟨(some 42), none, false, .mv (.t 2), none⟩, .o ⟨(some 43), none, false, .mv (.t 1), none⟩, .o ⟨(some 44), none, true, .bin .sub (.t 42) (.t 43), none⟩, .o ⟨(some 45), none, false, .bin .lss (.t 44) (.c (.int .i64 50)), (some [0, 1, 2, 3, 9, 10, 45])⟩]
abbrev k136_o9 : List AJ := [.o ⟨(some 8), none, false, .mv (.c (.bool false)), (some [8])⟩]
def k136_21 : ACode := .seq (.region k136_o9) .ret
def k136_22 : ACode := .cond (.t 45) k136_21 .skip
def k136_23 : ACode := .seq (.region k136_o8) k136_22
abbrev k136_o10 : List AJ := [.o ⟨(some 46), none, false, .mv (.t 0), none⟩, .o ⟨(some 47), none, false, .mv (.t 9), none⟩, .o ⟨(some 48), none, false, .mv (.t 0), none⟩, .o ⟨(some 49), none, false, .mv (.t 9), none⟩, .o ⟨(some 50), none, true, .bin .sub (.t 49) (.c (.int .i64 1)), none⟩, .o ⟨(some 51), none, false, .mv (.t 0), none⟩, .o ⟨(some 52), none, false, .mv (.t 9), none⟩, .o ⟨(some 53), none, true, .bin .sub (.t 52) (.c (.int .i64 1)), none⟩, .o ⟨(some 54), none, false, .idxA 1 (.t 51) (.t 53), none⟩, .o ⟨(some 55), none, false, .load 1 false (.t 54), none⟩, .o ⟨(some 56), none, false, .mv (.t 0), none⟩, .o ⟨(some 57), none, false, .mv (.t 9), none⟩, .o ⟨(some 58), none, false, .idxA 1 (.t 56) (.t 57), none⟩, .o ⟨(some 59), none, false, .load 1 false (.t 58), (some [0, 1, 2, 3, 9, 10, 46, 47, 48, 50, 55, 59])⟩, .o ⟨(some 60), none, false, .idxA 1 (.t 46) (.t 47), none⟩, .o ⟨none, none, false, .store 1 (.t 60) (.t 55), none⟩, .o ⟨(some 61), none, false, .idxA 1 (.t 48) (.t 50), none⟩, .o ⟨none, none, false, .store 1 (.t 61) (.t 59), (some [0, 1, 2, 3, 9, 10])⟩]
abbrev k136_o11 : List AJ := [.o ⟨(some 62), none, false, .mv (.t 9), none⟩, .o ⟨(some 63), none, false, .mv (.t 1), none⟩, .o ⟨(some 64), none, true, .bin .sub (.t 62) (.t 63), none⟩, .o ⟨(some 65), none, false, .bin .geq (.t 64) (.c (.int .i64 2)), (some [0, 1, 2, 3, 9, 10, 65])⟩]
abbrev k136_o12 : List AJ := [.o ⟨(some 66), none, false, .mv (.t 9), none⟩, .o ⟨(some 67), none, true, .bin .sub (.t 66) (.c (.int .i64 1)), none⟩, .o ⟨(some 11), none, false, .mv (.t 67), (some [0, 1, 2, 3, 9, 10, 11])⟩]
abbrev k136_o13 : List AJ := [.o ⟨(some 68), none, false, .mv (.t 11), none⟩, .o ⟨(some 69), none, false, .bin .geq (.t 68) (.c (.int .i64 1)), (some [0, 1, 2, 3, 9, 10, 11, 69])⟩]
def k136_28 : ACode := .cond (.t 69) .skip (.exit 4)
def k136_29 : ACode := .seq (.region k136_o13) k136_28
abbrev k136_o14 : List AI := [⟨(some 72), none, false, .mv (.t 3), none⟩, ⟨(some 73), none, false, .mv (.t 0), none⟩, ⟨(some 74), none, false, .mv (.t 11), none⟩, ⟨(some 75), none, false, .idxA 1 (.t 73) (.t 74), none⟩, ⟨(some 76), none, false, .load 1 false (.t 75), none⟩, ⟨(some 77), none, false, .mv (.t 0), none⟩, ⟨(some 78), none, false, .mv (.t 11), none⟩, ⟨(some 79), none, true, .bin .sub (.t 78) (.c (.int .i64 1)), none⟩, ⟨(some 80), none, false, .idxA 1 (.t 77) (.t 79), none⟩, ⟨(some 81), none, false, .load 1 false (.t 80), none⟩, ⟨(some 82), none, false, .callv (.t 72) [(.t 76), (.t 81)], none⟩, ⟨(some 83), none, false, .bin .lss (.t 82) (.c (.int .i64 0)), none⟩, ⟨(some 84), none, false, .un .not (.t 83), (some [0, 1, 2, 3, 9, 10, 11, 84])⟩]
def k136_31 : ACode := .cond (.t 84) (.exit 4) .skip
def k136_32 : ACode := .seq (.draw k136_o14 [] rfl) k136_31
abbrev k136_o15 : List AJ := [.o ⟨(some 85), none, false, .mv (.t 0), none⟩, .o ⟨(some 86), none, false, .mv (.t 11), none⟩, .o ⟨(some 87), none, false, .mv (.t 0), none⟩, .o ⟨(some 88), none, false, .mv (.t 11), none⟩, .o ⟨(some 89), none, true, .bin .sub (.t 88) (.c (.int .i64 1)), none⟩, .o ⟨(some 90), none, false, .mv (.t 0), none⟩, .o ⟨(some 91), none, false, .mv (.t 11), none⟩, .o ⟨(some 92), none, true, .bin .sub (.t 91) (.c (.int .i64 1)), none⟩, .o ⟨(some 93), none, false, .idxA 1 (.t 90) (.t 92), none⟩, .o ⟨(some 94), none, false, .load 1 false (.t 93), none⟩, .o ⟨(some 95), none, false, .mv (.t 0), none⟩, .o ⟨(some 96), none, false, .mv (.t 11), none⟩, .o ⟨(some 97), none, false, .idxA 1 (.t 95) (.t 96), none⟩, .o ⟨(some 98), none, false, .load 1 false (.t 97), (some [0, 1, 2, 3, 9, 10, 11, 85, 86, 87, 89, 94, 98])⟩, .o ⟨(some 99), none, false, .idxA 1 (.t 85) (.t 86), none⟩, .o ⟨none, none, false, .store 1 (.t 99) (.t 94), none⟩, .o ⟨(some 100), none, false, .idxA 1 (.t 87) (.t 89), none⟩, .o ⟨none, none, false, .store 1 (.t 100) (.t 98), (some [0, 1, 2, 3, 9, 10, 11])⟩]
def k136_33 : ACode := .drawT 0 k136_o15 rfl
def k136_34 : ACode := .seq k136_32 k136_33
abbrev k136_o16 : List AJ := [.o ⟨(some 70), none, false, .mv (.t 11), none⟩, .o ⟨(some 71), none, true, .bin .sub (.t 70) (.c (.int .i64 1)), none⟩, .o ⟨(some 11), none, false, .mv (.t 71), (some [0, 1, 2, 3, 9, 10, 11])⟩]
def k136_36 : ACode := .region k136_o16
def k136_37 : ACode := .seq (.block 5 k136_34) k136_36
def k136_38 : ACode := .seq k136_29 k136_37
def k136_39 : ACode := .loop k136_38
def k136_40 : ACode := .block 4 k136_39
def k136_41 : ACode := .seq (.region k136_o12) k136_40
def k136_42 : ACode := .cond (.t 65) k136_41 .skip
def k136_43 : ACode := .seq (.region k136_o11) k136_42
abbrev k136_o17 : List AJ := [.o ⟨(some 101), none, false, .mv (.t 2), none⟩, .o ⟨(some 102), none, false, .mv (.t 9), none⟩, .o ⟨(some 103), none, true, .bin .sub (.t 101) (.t 102), none⟩, .o ⟨(some 104), none, false, .bin .geq (.t 103) (.c (.int .i64 2)), (some [0, 1, 2, 3, 9, 10, 104])⟩]
abbrev k136_o18 : List AJ := [.o ⟨(some 105), none, false, .mv (.t 9), none⟩, .o ⟨(some 106), none, true, .bin .add (.t 105) (.c (.int .i64 1)), none⟩, .o ⟨(some 12), none, false, .mv (.t 106), (some [0, 1, 2, 3, 9, 10, 12])⟩]
abbrev k136_o19 : List AJ := [.o ⟨(some 107), none, false, .mv (.t 12), none⟩, .o ⟨(some 108), none, false, .mv (.t 2), none⟩, .o ⟨(some 109), none, false, .bin .lss (.t 107) (.t 108), (some [0, 1, 2, 3, 9, 10, 12, 109])⟩]
def k136_47 : ACode := .cond (.t 109) .skip (.exit 6)
def k136_48 : ACode := .seq (.region k136_o19) k136_47
abbrev k136_o20 : List AI := [⟨(some 112), none, false, .mv (.t 3), none⟩, ⟨(some 113), none, false, .mv (.t 0), none⟩, ⟨(some 114), none, false, .mv (.t 12), none⟩, ⟨(some 115), none, false, .idxA 1 (.t 113) (.t 114), none⟩, ⟨(some 116), none, false, .load 1 false (.t 115), none⟩, ⟨(some 117), none, false, .mv (.t 0), none⟩, ⟨(some 118), none, false, .mv (.t 12), none⟩, ⟨(some 119), none, true, .bin .sub (.t 118) (.c (.int .i64 1)), none⟩, ⟨(some 120), none, false, .idxA 1 (.t 117) (.t 119), none⟩, ⟨(some 121), none, false, .load 1 false (.t 120), none⟩, ⟨(some 122), none, false, .callv (.t 112) [(.t 116), (.t 121)], none⟩, ⟨(some 123), none, false, .bin .lss (.t 122) (.c (.int .i64 0)), none⟩, ⟨(some 124), none, false, .un .not (.t 123), (some [0, 1, 2, 3, 9, 10, 12, 124])⟩]
def k136_50 : ACode := .cond (.t 124) (.exit 6) .skip
def k136_51 : ACode := .seq (.draw k136_o20 [] rfl) k136_50
abbrev k136_o21 : List AJ := [.o ⟨(some 125), none, false, .mv (.t 0), none⟩, .o ⟨(some 126), none, false, .mv (.t 12), none⟩, .o ⟨(some 127), none, false, .mv (.t 0), none⟩, .o ⟨(some 128), none, false, .mv (.t 12), none⟩, .o ⟨(some 129), none, true, .bin .sub (.t 128) (.c (.int .i64 1)), none⟩, .o ⟨(some 130), none, false, .mv (.t 0), none⟩, .o ⟨(some 131), none, false, .mv (.t 12), none⟩, .o ⟨(some 132), none, true, .bin .sub (.t 131) (.c (.int .i64 1)), none⟩, .o ⟨(some 133), none, false, .idxA 1 (.t 130) (.t 132), none⟩, .o ⟨(some 134), none, false, .load 1 false (.t 133), none⟩, .o ⟨(some 135), none, false, .mv (.t 0), none⟩, .o ⟨(some 136), none, false, .mv (.t 12), none⟩, .o ⟨(some 137), none, false, .idxA 1 (.t 135) (.t 136), none⟩, .o ⟨(some 138), none, false, .load 1 false (.t 137), (some [0, 1, 2, 3, 9, 10, 12, 125, 126, 127, 129, 134, 138])⟩, .o ⟨(some 139), none, false, .idxA 1 (.t 125) (.t 126), none⟩, .o ⟨none, none, false, .store 1 (.t 139) (.t 134), none⟩, .o ⟨(some 140), none, false, .idxA 1 (.t 127) (.t 129), none⟩, .o ⟨none, none, false, .store 1 (.t 140) (.t 138), (some [0, 1, 2, 3, 9, 10, 12])⟩]
def k136_52 : ACode := .drawT 0 k136_o21 rfl
def k136_53 : ACode := .seq k136_51 k136_52
abbrev k136_o22 : List AJ := [.o ⟨(some 110), none, false, .mv (.t 12), none⟩, .o ⟨(some 111), none, true, .bin .add (.t 110) (.c (.int .i64 1)), none⟩, .o ⟨(some 12), none, false, .mv (.t 111), (some [0, 1, 2, 3, 9, 10, 12])⟩]
def k136_55 : ACode := .region k136_o22
def k136_56 : ACode := .seq (.block 7 k136_53) k136_55
def k136_57 : ACode := .seq k136_48 k136_56
def k136_58 : ACode := .loop k136_57
def k136_59 : ACode := .block 6 k136_58
def k136_60 : ACode := .seq (.region k136_o18) k136_59
def k136_61 : ACode := .cond (.t 104) k136_60 .skip
def k136_62 : ACode := .seq (.region k136_o17) k136_61
def k136_63 : ACode := .seq k136_43 k136_62
def k136_64 : ACode := .seq (.drawT 0 k136_o10 rfl) k136_63
def k136_65 : ACode := .seq k136_23 k136_64
def k136_66 : ACode := .seq k136_18 k136_65
def k136_67 : ACode := .seq (.block 2 k136_12) k136_66
abbrev k136_o23 : List AJ := [.o ⟨(some 17), none, false, .mv (.t 10), none⟩, .o ⟨(some 18), none, true, .bin .add (.t 17) (.c (.int .i64 1)), none⟩, .o ⟨(some 10), none, false, .mv (.t 18), (some [0, 1, 2, 3, 9, 10])⟩]
def k136_69 : ACode := .region k136_o23
def k136_70 : ACode := .seq (.block 1 k136_67) k136_69
def k136_71 : ACode := .seq k136_5 k136_70
def k136_72 : ACode := .loop k136_71
def k136_73 : ACode := .block 0 k136_72
def k136_74 : ACode := .seq (.region k136_o2) k136_73
abbrev k136_o24 : List AJ := [.o ⟨(some 8), none, false, .mv (.c (.bool false)), (some [8])⟩]
def k136_76 : ACode := .seq (.region k136_o24) .ret
def k136_77 : ACode := .seq k136_74 k136_76
def k136_78 : ACode := .seq (.region k136_o1) k136_77
def k136_79 : ACode := .seq (.region k136_o0) k136_78
@[simp, simp ↓] theorem k136_4r : rC k136_4 (.t 16) .skip (.exit 0) := zC rfl
@[simp, simp ↓] theorem k136_5r : sR k136_5 k136_o3 k136_4 := yR rfl
@[simp, simp ↓] theorem k136_7r : rC k136_7 (.t 36) .skip (.exit 2) := zC rfl
@[simp, simp ↓] theorem k136_8r : sD k136_8 k136_o4 [] k136_7 := yD rfl
@[simp, simp ↓] theorem k136_9r : rR k136_9 k136_o5 := zR rfl
@[simp, simp ↓] theorem k136_10r : rB k136_10 3 k136_9 := zB rfl
@[simp, simp ↓] theorem k136_11r : rS k136_11 k136_8 k136_10 := zS rfl
@[simp, simp ↓] theorem k136_12r : rL k136_12 k136_11 := zL rfl
@[simp, simp ↓] theorem k136_16r : sR k136_16 k136_o7 .ret := yR rfl
@[simp, simp ↓] theorem k136_17r : rC k136_17 (.t 41) k136_16 .skip := zC rfl
@[simp, simp ↓] theorem k136_18r : sR k136_18 k136_o6 k136_17 := yR rfl
@[simp, simp ↓] theorem k136_21r : sR k136_21 k136_o9 .ret := yR rfl
@[simp, simp ↓] theorem k136_22r : rC k136_22 (.t 45) k136_21 .skip := zC rfl
@[simp, simp ↓] theorem k136_23r : sR k136_23 k136_o8 k136_22 := yR rfl
@[simp, simp ↓] theorem k136_28r : rC k136_28 (.t 69) .skip (.exit 4) := zC rfl
@[simp, simp ↓] theorem k136_29r : sR k136_29 k136_o13 k136_28 := yR rfl
@[simp, simp ↓] theorem k136_31r : rC k136_31 (.t 84) (.exit 4) .skip := zC rfl
@[simp, simp ↓] theorem k136_32r : sD k136_32 k136_o14 [] k136_31 := yD rfl
@[simp, simp ↓] theorem k136_33r : rT k136_33 k136_o15 := zT rfl
@[simp, simp ↓] theorem k136_34r : rS k136_34 k136_32 k136_33 := zS rfl
@[simp, simp ↓] theorem k136_36r : rR k136_36 k136_o16 := zR rfl
@[simp, simp ↓] theorem k136_37r : sB k136_37 5 k136_34 k136_36 := yB rfl
@[simp, simp ↓] theorem k136_38r : rS k136_38 k136_29 k136_37 := zS rfl
@[simp, simp ↓] theorem k136_39r : rL k136_39 k136_38 := zL rfl
@[simp, simp ↓] theorem k136_40r : rB k136_40 4 k136_39 := zB rfl
@[simp, simp ↓] theorem k136_41r : sR k136_41 k136_o12 k136_40 := yR rfl
@[simp, simp ↓] theorem k136_42r : rC k136_42 (.t 65) k136_41 .skip := zC rfl
@[simp, simp ↓] theorem k136_43r : sR k136_43 k136_o11 k136_42 := yR rfl
@[simp, simp ↓] theorem k136_47r : rC k136_47 (.t 109) .skip (.exit 6) := zC rfl
@[simp, simp ↓] theorem k136_48r : sR k136_48 k136_o19 k136_47 := yR rfl
@[simp, simp ↓] theorem k136_50r : rC k136_50 (.t 124) (.exit 6) .skip := zC rfl
@[simp, simp ↓] theorem k136_51r : sD k136_51 k136_o20 [] k136_50 := yD rfl
@[simp, simp ↓] theorem k136_52r : rT k136_52 k136_o21 := zT rfl
@[simp, simp ↓] theorem k136_53r : rS k136_53 k136_51 k136_52 := zS rfl
@[simp, simp ↓] theorem k136_55r : rR k136_55 k136_o22 := zR rfl
@[simp, simp ↓] theorem k136_56r : sB k136_56 7 k136_53 k136_55 := yB rfl
@[simp, simp ↓] theorem k136_57r : rS k136_57 k136_48 k136_56 := zS rfl
@[simp, simp ↓] theorem k136_58r : rL k136_58 k136_57 := zL rfl
@[simp, simp ↓] theorem k136_59r : rB k136_59 6 k136_58 := zB rfl
@[simp, simp ↓] theorem k136_60r : sR k136_60 k136_o18 k136_59 := yR rfl
@[simp, simp ↓] theorem k136_61r : rC k136_61 (.t 104) k136_60 .skip := zC rfl
@[simp, simp ↓] theorem k136_62r : sR k136_62 k136_o17 k136_61 := yR rfl
@[simp, simp ↓] theorem k136_63r : rS k136_63 k136_43 k136_62 := zS rfl
@[simp, simp ↓] theorem k136_64r : sT k136_64 k136_o10 k136_63 := yT rfl
@[simp, simp ↓] theorem k136_65r : rS k136_65 k136_23 k136_64 := zS rfl
@[simp, simp ↓] theorem k136_66r : rS k136_66 k136_18 k136_65 := zS rfl
@[simp, simp ↓] theorem k136_67r : sB k136_67 2 k136_12 k136_66 := yB rfl
@[simp, simp ↓] theorem k136_69r : rR k136_69 k136_o23 := zR rfl
@[simp, simp ↓] theorem k136_70r : sB k136_70 1 k136_67 k136_69 := yB rfl
@[simp, simp ↓] theorem k136_71r : rS k136_71 k136_5 k136_70 := zS rfl
@[simp, simp ↓] theorem k136_72r : rL k136_72 k136_71 := zL rfl
@[simp, simp ↓] theorem k136_73r : rB k136_73 0 k136_72 := zB rfl
@[simp, simp ↓] theorem k136_74r : sR k136_74 k136_o2 k136_73 := yR rfl
@[simp, simp ↓] theorem k136_76r : sR k136_76 k136_o24 .ret := yR rfl
@[simp, simp ↓] theorem k136_77r : rS k136_77 k136_74 k136_76 := zS rfl
@[simp, simp ↓] theorem k136_78r : sR k136_78 k136_o1 k136_77 := yR rfl
@[simp, simp ↓] theorem k136_79r : sR k136_79 k136_o0 k136_78 := yR rfl
noncomputable abbrev k136_C : Orc → Cx := mkC Tryz.prog [] 136 141 [.tmp 8]
theorem k136_of0 : OfP0 Tryz.prog Tryz.f136 136 141 k136_C k136_79 := @ofP0 _ _ _ _ _ _ _ _ Tryz.func136 (by decide +kernel) rfl (by kernel_rfl) rfl (by kernel_rfl)
theorem pinS {id : Nat} {us ex : List AV} {g : FuncId} {H : Heap} {cap : Option Nat} (S : Srt Tryz.prog id us ex g H) (h12 : 12 < us.length) : ACalls Tryz.prog 136 [.sl id 1 0 us.length cap, .int .i64 0, .int .i64 us.length, .fn g []] H (fun v h' => v = .bool true ∧ h' = H) := by
  have hlen := S.len
  have hat := S.at_
  refine k136_of0 rfl noPure fun I => ?_
  refine Run2.of I 1000 ?_
  simp -implicitDefEqProofs
  refine Run2.loopE (fun (_ : Unit) => [(0, .sl id 1 0 us.length cap), (1, .int .i64 0), (2, .int .i64 us.length), (3, .fn g []), (9, .int .i64 1), (10, .int .i64 0)]) (fun _ => H) (fun _ => 0) (fun _ => True) () (by simp) rfl trivial fun _ _ _ => ?_
  refine Run2.of I 1000 ?_
  simp -implicitDefEqProofs
  refine Run2.keep [0, 1, 2, 3, 9, 10] ?_
  simp -implicitDefEqProofs
  refine Run2.loopE (fun (i : Nat) => [(0, .sl id 1 0 us.length cap), (1, .int .i64 0), (2, .int .i64 us.length), (3, .fn g []), (9, .int .i64 (i + 1 : Nat)), (10, .int .i64 0)]) (fun _ => H) (fun i => us.length - i) (fun i => i + 1 ≤ us.length) 0 (by simp) rfl (by omega) fun i hi ih => ?_
  by_cases hlt : i + 1 < us.length
  · have hlt' : i < us.length := by omega
    have go := ih (i + 1) (by omega) (by omega)
    have hltI : (i : Int) + 1 < us.length := by omega
    have g1 := S.get hlt
    have g2 := S.get hlt'
    obtain ⟨c, hc, hcall⟩ := S.cmp _ _ hlt hlt' (by omega)
    have hc' : ¬ c < 0 := by omega
    have hc1 : ((i : Int) + 1 - 1).toNat = i := by omega
    have q1 := cells_of (S.cell _ hlt)
    have q2 := cells_of (S.cell _ hlt')
    clear ih
    refine Run2.of I 1000 ?_
    simp -implicitDefEqProofs [hltI, hat, g1, g2, hc1, hlt, hlt', q1, q2]
    refine ⟨by omega, by omega, dcallK hcall ?_⟩
    simp -implicitDefEqProofs [hc']
    exact ⟨by omega, by simpa using go⟩
  · have hltI : ¬ (i : Int) + 1 < us.length := by omega
    have heq : (i : Int) + 1 = us.length := by omega
    refine Run2.of I 1000 ?_
    simp -implicitDefEqProofs [hltI, heq]
def LenTab : List UInt8 := [0, 1, 2, 2, 3, 3, 3, 3, 4, 4, 4, 4, 4, 4, 4, 4, 5, 5, 5, 5, 5, 5, 5, 5, 5, 5, 5, 5, 5, 5, 5, 5, 6, 6, 6, 6, 6, 6, 6, 6, 6, 6, 6, 6, 6, 6, 6, 6, 6, 6, 6, 6, 6, 6, 6, 6, 6, 6, 6, 6, 6, 6, 6, 6, 7, 7, 7, 7, 7, 7, 7, 7, 7, 7, 7, 7, 7, 7, 7, 7, 7, 7, 7, 7, 7, 7, 7, 7, 7, 7, 7, 7, 7, 7, 7, 7, 7, 7, 7, 7, 7, 7, 7, 7, 7, 7, 7, 7, 7, 7, 7, 7, 7, 7, 7, 7, 7, 7, 7, 7, 7, 7, 7, 7, 7, 7, 7, 7, 8, 8, 8, 8, 8, 8, 8, 8, 8, 8, 8, 8, 8, 8, 8, 8, 8, 8, 8, 8, 8, 8, 8, 8, 8, 8, 8, 8, 8, 8, 8, 8, 8, 8, 8, 8, 8, 8, 8, 8, 8, 8, 8, 8, 8, 8, 8, 8, 8, 8, 8, 8, 8, 8, 8, 8, 8, 8, 8, 8, 8, 8, 8, 8, 8, 8, 8, 8, 8, 8, 8, 8, 8, 8, 8, 8, 8, 8, 8, 8, 8, 8, 8, 8, 8, 8, 8, 8, 8, 8, 8, 8, 8, 8, 8, 8, 8, 8, 8, 8, 8, 8, 8, 8, 8, 8, 8, 8, 8, 8, 8, 8, 8, 8, 8, 8, 8, 8, 8, 8, 8, 8, 8, 8, 8, 8, 8, 8]
abbrev k127_o0 : List AJ := [.o ⟨(some 2), none, false, .mv (.c (.int .i64 0)), (some [0, 2])⟩]
abbrev k127_o1 : List AJ := [.o ⟨(some 3), none, false, .mv (.t 0), none⟩, .o ⟨(some 4), none, false, .bin .geq (.t 3) (.c (.int .u64 4294967296)), (some [0, 2, 4])⟩]
abbrev k127_o2 : List AJ := [.o ⟨(some 5), none, false, .mv (.t 0), none⟩, .o ⟨(some 6), none, false, .bin .shr (.t 5) (.c (.int .u64 32)), none⟩, .o ⟨(some 0), none, false, .mv (.t 6), (some [0])⟩]
abbrev k127_o3 : List AJ := [.o ⟨(some 2), none, false, .mv (.c (.int .i64 32)), (some [0, 2])⟩]
def k127_3 : ACode := .region k127_o3
def k127_4 : ACode := .seq (.region k127_o2) k127_3
def k127_5 : ACode := .cond (.t 4) k127_4 .skip
def k127_6 : ACode := .seq (.region k127_o1) k127_5
abbrev k127_o4 : List AJ := [.o ⟨(some 7), none, false, .mv (.t 0), none⟩, .o ⟨(some 8), none, false, .bin .geq (.t 7) (.c (.int .u64 65536)), (some [0, 2, 8])⟩]
abbrev k127_o5 : List AJ := [.o ⟨(some 9), none, false, .mv (.t 0), none⟩, .o ⟨(some 10), none, false, .bin .shr (.t 9) (.c (.int .u64 16)), none⟩, .o ⟨(some 0), none, false, .mv (.t 10), (some [0, 2])⟩]
abbrev k127_o6 : List AJ := [.o ⟨(some 11), none, false, .mv (.t 2), none⟩, .o ⟨(some 12), none, true, .bin .add (.t 11) (.c (.int .i64 16)), none⟩, .o ⟨(some 2), none, false, .mv (.t 12), (some [0, 2])⟩]
def k127_9 : ACode := .region k127_o6
def k127_10 : ACode := .seq (.region k127_o5) k127_9
def k127_11 : ACode := .cond (.t 8) k127_10 .skip
def k127_12 : ACode := .seq (.region k127_o4) k127_11
abbrev k127_o7 : List AJ := [.o ⟨(some 13), none, false, .mv (.t 0), none⟩, .o ⟨(some 14), none, false, .bin .geq (.t 13) (.c (.int .u64 256)), (some [0, 2, 14])⟩]
abbrev k127_o8 : List AJ := [.o ⟨(some 15), none, false, .mv (.t 0), none⟩, .o ⟨(some 16), none, false, .bin .shr (.t 15) (.c (.int .u64 8)), none⟩, .o ⟨(some 0), none, false, .mv (.t 16), (some [0, 2])⟩]
abbrev k127_o9 : List AJ := [.o ⟨(some 17), none, false, .mv (.t 2), none⟩, .o ⟨(some 18), none, true, .bin .add (.t 17) (.c (.int .i64 8)), none⟩, .o ⟨(some 2), none, false, .mv (.t 18), (some [0, 2])⟩]
def k127_15 : ACode := .region k127_o9
def k127_16 : ACode := .seq (.region k127_o8) k127_15
def k127_17 : ACode := .cond (.t 14) k127_16 .skip
def k127_18 : ACode := .seq (.region k127_o7) k127_17
abbrev k127_o10 : List AJ := [.o ⟨(some 19), none, false, .mv (.t 2), none⟩, .o ⟨(some 20), none, false, .mv (.t 0), none⟩, .o ⟨(some 21), none, true, .conv .u8 (.t 20), none⟩, .o ⟨(some 22), none, false, .idx (.c (.str [0, 1, 2, 2, 3, 3, 3, 3, 4, 4, 4, 4, 4, 4, 4, 4, 5, 5, 5, 5, 5, 5, 5, 5, 5, 5, 5, 5, 5, 5, 5, 5, 6, 6, 6, 6, 6, 6, 6, 6, 6, 6, 6, 6, 6, 6, 6, 6, 6, 6, 6, 6, 6, 6, 6, 6, 6, 6, 6, 6, 6, 6, 6, 6, 7, 7, 7, 7, 7, 7, 7, 7, 7, 7, 7, 7, 7, 7, 7, 7, 7, 7, 7, 7, 7, 7, 7, 7, 7, 7, 7, 7, 7, 7, 7, 7, 7, 7, 7, 7, 7, 7, 7, 7, 7, 7, 7, 7, 7, 7, 7, 7, 7, 7, 7, 7, 7, 7, 7, 7, 7, 7, 7, 7, 7, 7, 7, 7, 8, 8, 8, 8, 8, 8, 8, 8, 8, 8, 8, 8, 8, 8, 8, 8, 8, 8, 8, 8, 8, 8, 8, 8, 8, 8, 8, 8, 8, 8, 8, 8, 8, 8, 8, 8, 8, 8, 8, 8, 8, 8, 8, 8, 8, 8, 8, 8, 8, 8, 8, 8, 8, 8, 8, 8, 8, 8, 8, 8, 8, 8, 8, 8, 8, 8, 8, 8, 8, 8, 8, 8, 8, 8, 8, 8, 8, 8, 8, 8, 8, 8, 8, 8, 8, 8, 8, 8, 8, 8, 8, 8, 8, 8, 8, 8, 8, 8, 8, 8, 8, 8, 8, 8, 8, 8, 8, 8, 8, 8, 8, 8, 8, 8, 8, 8, 8, 8, 8, 8, 8, 8, 8, 8, 8, 8, 8, 8])) (.t 21), none⟩, .o ⟨(some 23), none, true, .conv .i64 (.t 22), none⟩, .o ⟨(some 24), none, true, .bin .add (.t 19) (.t 23), none⟩, .o ⟨(some 2), none, false, .mv (.t 24), (some [2])⟩]
def k127_20 : ACode := .seq (.region k127_o10) .ret
def k127_21 : ACode := .seq k127_18 k127_20
def k127_22 : ACode := .seq k127_12 k127_21
def k127_23 : ACode := .seq k127_6 k127_22
def k127_24 : ACode := .seq (.region k127_o0) k127_23
@[simp, simp ↓] theorem k127_3r : rR k127_3 k127_o3 := zR rfl
@[simp, simp ↓] theorem k127_4r : sR k127_4 k127_o2 k127_3 := yR rfl
@[simp, simp ↓] theorem k127_5r : rC k127_5 (.t 4) k127_4 .skip := zC rfl
@[simp, simp ↓] theorem k127_6r : sR k127_6 k127_o1 k127_5 := yR rfl
@[simp, simp ↓] theorem k127_9r : rR k127_9 k127_o6 := zR rfl
@[simp, simp ↓] theorem k127_10r : sR k127_10 k127_o5 k127_9 := yR rfl
@[simp, simp ↓] theorem k127_11r : rC k127_11 (.t 8) k127_10 .skip := zC rfl
@[simp, simp ↓] theorem k127_12r : sR k127_12 k127_o4 k127_11 := yR rfl
@[simp, simp ↓] theorem k127_15r : rR k127_15 k127_o9 := zR rfl
@[simp, simp ↓] theorem k127_16r : sR k127_16 k127_o8 k127_15 := yR rfl
@[simp, simp ↓] theorem k127_17r : rC k127_17 (.t 14) k127_16 .skip := zC rfl
@[simp, simp ↓] theorem k127_18r : sR k127_18 k127_o7 k127_17 := yR rfl
@[simp, simp ↓] theorem k127_20r : sR k127_20 k127_o10 .ret := yR rfl
@[simp, simp ↓] theorem k127_21r : rS k127_21 k127_18 k127_20 := zS rfl
@[simp, simp ↓] theorem k127_22r : rS k127_22 k127_12 k127_21 := zS rfl
@[simp, simp ↓] theorem k127_23r : rS k127_23 k127_6 k127_22 := zS rfl
@[simp, simp ↓] theorem k127_24r : sR k127_24 k127_o0 k127_23 := yR rfl
noncomputable abbrev k127_C : Orc → Cx := mkC Tryz.prog [] 127 25 [.tmp 2]
theorem k127_of0 : OfP0 Tryz.prog Tryz.f127 127 25 k127_C k127_24 := @ofP0 _ _ _ _ _ _ _ _ Tryz.func127 (by decide +kernel) rfl (by kernel_rfl) rfl (by kernel_rfl)
theorem len64S (n : Nat) (h : Heap) (hn : n ≤ 48) : ACalls Tryz.prog 127 [.int .u64 n] h (fun v h' => ∃ L : Int, v = .int .i64 L ∧ (0 < n → ¬ L = 0) ∧ h' = h) := by
  refine k127_of0 rfl noPure fun I => ?_
  have h1 : ¬ (4294967296 : Int) ≤ n := by omega
  have h2 : ¬ (65536 : Int) ≤ n := by omega
  have h3 : ¬ (256 : Int) ≤ n := by omega
  refine Run2.of I 1000 ?_
  have hw : arR true .u8 (n : Int) = .val (.int .u8 n) := by
    have e : IntKind.u8.wrap n = n := IntWalk.u8_in _ (by omega)
    simp only [arR]; rw [e]
  simp -implicitDefEqProofs [h1, h2, h3, hw]
  have key : ∀ n < 49, ∃ y : UInt8, LenTab[n]? = some y ∧ (0 < n → ¬ (y.toNat : Int) = 0) := by decide
  obtain ⟨y, hy, hy0⟩ := key n (by omega)
  unfold LenTab at hy
  have hb := y.toNat_lt
  simp -implicitDefEqProofs [hy]
  exact ⟨by omega, fun h => by have := hy0 h; omega⟩
abbrev k103_o0 : List AJ := [.o ⟨(some 2), none, false, .mv (.c (.int .i64 0)), (some [0])⟩]
abbrev k103_o1 : List AJ := [.o ⟨(some 3), none, false, .mv (.t 0), none⟩, .o ⟨(some 4), none, true, .conv .u32 (.t 3), none⟩, .o ⟨(some 5), none, false, .call 126 [(.t 4)], none⟩, .o ⟨(some 2), none, false, .mv (.t 5), (some [2])⟩]
def k103_2 : ACode := .seq (.region k103_o1) .ret
abbrev k103_o2 : List AJ := [.o ⟨(some 6), none, false, .mv (.t 0), none⟩, .o ⟨(some 7), none, false, .call 127 [(.t 6)], none⟩, .o ⟨(some 2), none, false, .mv (.t 7), (some [2])⟩]
def k103_5 : ACode := .seq (.region k103_o2) .ret
def k103_6 : ACode := .seq (.cond (.c (.bool false)) k103_2 .skip) k103_5
def k103_7 : ACode := .seq (.region k103_o0) k103_6
@[simp, simp ↓] theorem k103_2r : sR k103_2 k103_o1 .ret := yR rfl
@[simp, simp ↓] theorem k103_5r : sR k103_5 k103_o2 .ret := yR rfl
@[simp, simp ↓] theorem k103_6r : sC k103_6 (.c (.bool false)) k103_2 .skip k103_5 := yC rfl
@[simp, simp ↓] theorem k103_7r : sR k103_7 k103_o0 k103_6 := yR rfl
noncomputable abbrev k103_C : Orc → Cx := mkC Tryz.prog [] 103 8 [.tmp 2]
theorem k103_of0 : OfP0 Tryz.prog Tryz.f103 103 8 k103_C k103_7 := @ofP0 _ _ _ _ _ _ _ _ Tryz.func103 (by decide +kernel) rfl (by kernel_rfl) rfl (by kernel_rfl)
theorem lenS (n : Nat) (h : Heap) (hn : n ≤ 48) : ACalls Tryz.prog 103 [.int .u64 n] h (fun v h' => ∃ L : Int, v = .int .i64 L ∧ (0 < n → ¬ L = 0) ∧ h' = h) := by
  refine k103_of0 rfl noPure fun I => ?_
  refine Run2.of I 1000 ?_
  simp -implicitDefEqProofs
  refine (len64S n h hn).mono ?_
  rintro v h' ⟨L, rfl, hL, rfl⟩
  refine gK.go ?_
  simp -implicitDefEqProofs
  exact hL
abbrev k114_o0 : List AJ := [.o ⟨(some 10), none, false, .mv (.c (.bool true)), (some [0, 1, 2, 3, 4, 10])⟩]
abbrev k114_o1 : List AJ := [.o ⟨(some 11), none, false, .mv (.c (.bool true)), (some [0, 1, 2, 3, 4, 10, 11])⟩]
abbrev k114_o2 : List AJ := [.o ⟨(some 21), none, false, .mv (.t 2), none⟩, .o ⟨(some 22), none, false, .mv (.t 1), none⟩, .o ⟨(some 23), none, true, .bin .sub (.t 21) (.t 22), none⟩, .o ⟨(some 12), none, false, .mv (.t 23), (some [0, 1, 2, 3, 4, 10, 11, 12])⟩]
abbrev k114_o3 : List AJ := [.o ⟨(some 24), none, false, .mv (.t 12), none⟩, .o ⟨(some 25), none, false, .bin .leq (.t 24) (.c (.int .i64 12)), (some [0, 1, 2, 3, 4, 10, 11, 12, 25])⟩]
abbrev k114_o4 : List AJ := [.o ⟨(some 26), none, false, .mv (.t 0), none⟩, .o ⟨(some 27), none, false, .mv (.t 1), none⟩, .o ⟨(some 28), none, false, .mv (.t 2), none⟩, .o ⟨(some 29), none, false, .mv (.t 4), none⟩, .o ⟨(some 30), none, false, .call 131 [(.t 26), (.t 27), (.t 28), (.t 29)], (some [])⟩]
def k114_5 : ACode := .seq (.region k114_o4) .ret
def k114_6 : ACode := .cond (.t 25) k114_5 .skip
def k114_7 : ACode := .seq (.region k114_o3) k114_6
abbrev k114_o5 : List AJ := [.o ⟨(some 31), none, false, .mv (.t 3), none⟩, .o ⟨(some 32), none, false, .bin .eql (.t 31) (.c (.int .i64 0)), (some [0, 1, 2, 3, 4, 10, 11, 12, 32])⟩]
abbrev k114_o6 : List AJ := [.o ⟨(some 33), none, false, .mv (.t 0), none⟩, .o ⟨(some 34), none, false, .mv (.t 1), none⟩, .o ⟨(some 35), none, false, .mv (.t 2), none⟩, .o ⟨(some 36), none, false, .mv (.t 4), none⟩, .o ⟨(some 37), none, false, .call 132 [(.t 33), (.t 34), (.t 35), (.t 36)], (some [])⟩]
def k114_10 : ACode := .seq (.region k114_o6) .ret
def k114_11 : ACode := .cond (.t 32) k114_10 .skip
def k114_12 : ACode := .seq (.region k114_o5) k114_11
abbrev k114_o7 : List AJ := [.o ⟨(some 38), none, false, .mv (.t 10), none⟩, .o ⟨(some 39), none, false, .un .not (.t 38), (some [0, 1, 2, 3, 4, 10, 11, 12, 39])⟩]
abbrev k114_o8 : List AJ := [.o ⟨(some 40), none, false, .mv (.t 0), none⟩, .o ⟨(some 41), none, false, .mv (.t 1), none⟩, .o ⟨(some 42), none, false, .mv (.t 2), none⟩, .o ⟨(some 43), none, false, .mv (.t 4), none⟩, .o ⟨(some 44), none, false, .call 133 [(.t 40), (.t 41), (.t 42), (.t 43)], (some [0, 1, 2, 3, 4, 10, 11, 12])⟩]
abbrev k114_o9 : List AJ := [.o ⟨(some 45), none, false, .mv (.t 3), none⟩, .o ⟨(some 46), none, true, .bin .sub (.t 45) (.c (.int .i64 1)), none⟩, .o ⟨(some 3), none, false, .mv (.t 46), (some [0, 1, 2, 3, 4, 10, 11, 12])⟩]
def k114_15 : ACode := .region k114_o9
def k114_16 : ACode := .seq (.region k114_o8) k114_15
def k114_17 : ACode := .cond (.t 39) k114_16 .skip
def k114_18 : ACode := .seq (.region k114_o7) k114_17
abbrev k114_o10 : List AJ := [.o ⟨(some 48), none, false, .mv (.t 0), none⟩, .o ⟨(some 49), none, false, .mv (.t 1), none⟩, .o ⟨(some 50), none, false, .mv (.t 2), none⟩, .o ⟨(some 51), none, false, .mv (.t 4), none⟩, .o ⟨(some 52), none, false, .call 134 [(.t 48), (.t 49), (.t 50), (.t 51)], none⟩, .o ⟨(some 47), none, false, .mv (.t 52), none⟩, .o ⟨(some 53), none, false, .extract (.t 47) 0, none⟩, .o ⟨(some 54), none, false, .extract (.t 47) 1, none⟩, .o ⟨(some 13), none, false, .mv (.t 53), none⟩, .o ⟨(some 14), none, false, .mv (.t 54), (some [0, 1, 2, 3, 4, 10, 11, 12, 13, 14])⟩]
abbrev k114_o11 : List AJ := [.o ⟨(some 55), none, false, .mv (.t 14), none⟩, .o ⟨(some 56), none, false, .bin .eql (.t 55) (.c (.int .i64 2)), (some [0, 1, 2, 3, 4, 10, 11, 12, 13, 14, 56])⟩]
abbrev k114_o12 : List AJ := [.o ⟨(some 57), none, false, .mv (.t 0), none⟩, .o ⟨(some 58), none, false, .mv (.t 1), none⟩, .o ⟨(some 59), none, false, .mv (.t 2), none⟩, .o ⟨(some 60), none, false, .mv (.t 4), none⟩, .o ⟨(some 61), none, false, .call 135 [(.t 57), (.t 58), (.t 59), (.t 60)], (some [0, 1, 2, 3, 4, 10, 11, 12, 13])⟩]
abbrev k114_o13 : List AJ := [.o ⟨(some 62), none, false, .mv (.t 2), none⟩, .o ⟨(some 63), none, true, .bin .sub (.t 62) (.c (.int .i64 1)), none⟩, .o ⟨(some 64), none, false, .mv (.t 13), none⟩, .o ⟨(some 65), none, false, .mv (.t 1), none⟩, .o ⟨(some 66), none, true, .bin .sub (.t 64) (.t 65), none⟩, .o ⟨(some 67), none, true, .bin .sub (.t 63) (.t 66), none⟩, .o ⟨(some 13), none, false, .mv (.t 67), (some [0, 1, 2, 3, 4, 10, 11, 12, 13])⟩]
abbrev k114_o14 : List AJ := [.o ⟨(some 14), none, false, .mv (.c (.int .i64 1)), (some [0, 1, 2, 3, 4, 10, 11, 12, 13, 14])⟩]
def k114_23 : ACode := .region k114_o14
def k114_24 : ACode := .seq (.region k114_o13) k114_23
def k114_25 : ACode := .seq (.region k114_o12) k114_24
def k114_26 : ACode := .cond (.t 56) k114_25 .skip
def k114_27 : ACode := .seq (.region k114_o11) k114_26
abbrev k114_o15 : List AJ := [.o ⟨(some 68), none, false, .mv (.t 10), none⟩, .o ⟨(some 69), none, false, .mv (.t 68), none⟩, .o ⟨(some 70), (some (69, true)), false, .mv (.t 11), none⟩, .o ⟨(some 71), none, false, .pick (.t 69) (.t 70) (.c (.bool false)), none⟩, .o ⟨(some 72), none, false, .mv (.t 71), none⟩, .o ⟨(some 73), (some (72, true)), false, .mv (.t 14), none⟩, .o ⟨(some 74), (some (72, true)), false, .bin .eql (.t 73) (.c (.int .i64 1)), none⟩, .o ⟨(some 75), none, false, .pick (.t 72) (.t 74) (.c (.bool false)), (some [0, 1, 2, 3, 4, 10, 11, 12, 13, 75])⟩]
abbrev k114_o16 : List AJ := [.o ⟨(some 76), none, false, .mv (.t 0), none⟩, .o ⟨(some 77), none, false, .mv (.t 1), none⟩, .o ⟨(some 78), none, false, .mv (.t 2), none⟩, .o ⟨(some 79), none, false, .mv (.t 4), none⟩, .o ⟨(some 80), none, false, .call 136 [(.t 76), (.t 77), (.t 78), (.t 79)], (some [0, 1, 2, 3, 4, 10, 11, 12, 13, 80])⟩]
def k114_30 : ACode := .cond (.t 80) .ret .skip
def k114_31 : ACode := .seq (.region k114_o16) k114_30
def k114_32 : ACode := .cond (.t 75) k114_31 .skip
def k114_33 : ACode := .seq (.region k114_o15) k114_32
abbrev k114_o17 : List AI := [⟨(some 81), none, false, .mv (.t 1), none⟩, ⟨(some 82), none, false, .bin .gtr (.t 81) (.c (.int .i64 0)), none⟩, ⟨(some 83), none, false, .mv (.t 82), none⟩, ⟨(some 84), (some (83, true)), false, .mv (.t 4), none⟩, ⟨(some 85), (some (83, true)), false, .mv (.t 0), none⟩, ⟨(some 86), (some (83, true)), false, .mv (.t 1), none⟩, ⟨(some 87), (some (83, true)), true, .bin .sub (.t 86) (.c (.int .i64 1)), none⟩, ⟨(some 88), (some (83, true)), false, .idxA 1 (.t 85) (.t 87), none⟩, ⟨(some 89), (some (83, true)), false, .load 1 false (.t 88), (some [0, 1, 2, 3, 4, 10, 11, 12, 13, 83, 84, 89])⟩, ⟨(some 90), (some (83, true)), false, .mv (.t 0), none⟩, ⟨(some 91), (some (83, true)), false, .mv (.t 13), none⟩, ⟨(some 92), (some (83, true)), false, .idxA 1 (.t 90) (.t 91), none⟩, ⟨(some 93), (some (83, true)), false, .load 1 false (.t 92), none⟩, ⟨(some 94), (some (83, true)), false, .callv (.t 84) [(.t 89), (.t 93)], none⟩, ⟨(some 95), (some (83, true)), false, .bin .lss (.t 94) (.c (.int .i64 0)), none⟩, ⟨(some 96), (some (83, true)), false, .un .not (.t 95), (some [0, 1, 2, 3, 4, 10, 11, 12, 13, 83, 96])⟩, ⟨(some 97), none, false, .pick (.t 83) (.t 96) (.c (.bool false)), (some [0, 1, 2, 3, 4, 10, 11, 12, 13, 97])⟩]
abbrev k114_o18 : List AJ := [.o ⟨(some 98), none, false, .mv (.t 0), none⟩, .o ⟨(some 99), none, false, .mv (.t 1), none⟩, .o ⟨(some 100), none, false, .mv (.t 2), none⟩, .o ⟨(some 101), none, false, .mv (.t 13), none⟩, .o ⟨(some 102), none, false, .mv (.t 4), none⟩, .o ⟨(some 103), none, false, .call 137 [(.t 98), (.t 99), (.t 100), (.t 101), (.t 102)], none⟩, .o ⟨(some 15), none, false, .mv (.t 103), (some [0, 2, 3, 4, 10, 11, 15])⟩]
abbrev k114_o19 : List AJ := [.o ⟨(some 104), none, false, .mv (.t 15), none⟩, .o ⟨(some 1), none, false, .mv (.t 104), (some [0, 1, 2, 3, 4, 10, 11])⟩]
def k114_37 : ACode := .seq (.region k114_o19) (.exit 1)
def k114_38 : ACode := .seq (.region k114_o18) k114_37
def k114_39 : ACode := .cond (.t 97) k114_38 .skip
def k114_40 : ACode := .seq (.draw k114_o17 [] rfl) k114_39
abbrev k114_o20 : List AJ := [.o ⟨(some 106), none, false, .mv (.t 0), none⟩, .o ⟨(some 107), none, false, .mv (.t 1), none⟩, .o ⟨(some 108), none, false, .mv (.t 2), none⟩, .o ⟨(some 109), none, false, .mv (.t 13), none⟩, .o ⟨(some 110), none, false, .mv (.t 4), none⟩, .o ⟨(some 111), none, false, .call 138 [(.t 106), (.t 107), (.t 108), (.t 109), (.t 110)], none⟩, .o ⟨(some 105), none, false, .mv (.t 111), none⟩, .o ⟨(some 112), none, false, .extract (.t 105) 0, none⟩, .o ⟨(some 113), none, false, .extract (.t 105) 1, none⟩, .o ⟨(some 16), none, false, .mv (.t 112), none⟩, .o ⟨(some 17), none, false, .mv (.t 113), (some [0, 1, 2, 3, 4, 12, 16, 17])⟩]
abbrev k114_o21 : List AJ := [.o ⟨(some 114), none, false, .mv (.t 17), none⟩, .o ⟨(some 11), none, false, .mv (.t 114), (some [0, 1, 2, 3, 4, 11, 12, 16])⟩]
abbrev k114_o22 : List AJ := [.o ⟨(some 115), none, false, .mv (.t 16), none⟩, .o ⟨(some 116), none, false, .mv (.t 1), none⟩, .o ⟨(some 117), none, true, .bin .sub (.t 115) (.t 116), none⟩, .o ⟨(some 118), none, false, .mv (.t 2), none⟩, .o ⟨(some 119), none, false, .mv (.t 16), none⟩, .o ⟨(some 120), none, true, .bin .sub (.t 118) (.t 119), none⟩, .o ⟨(some 18), none, false, .mv (.t 117), none⟩, .o ⟨(some 19), none, false, .mv (.t 120), (some [0, 1, 2, 3, 4, 11, 12, 16, 18, 19])⟩]
abbrev k114_o23 : List AJ := [.o ⟨(some 121), none, false, .mv (.t 12), none⟩, .o ⟨(some 122), none, true, .bin .quo (.t 121) (.c (.int .i64 8)), none⟩, .o ⟨(some 20), none, false, .mv (.t 122), (some [0, 1, 2, 3, 4, 11, 16, 18, 19, 20])⟩]
abbrev k114_o24 : List AJ := [.o ⟨(some 123), none, false, .mv (.t 18), none⟩, .o ⟨(some 124), none, false, .mv (.t 19), none⟩, .o ⟨(some 125), none, false, .bin .lss (.t 123) (.t 124), (some [0, 1, 2, 3, 4, 11, 16, 18, 19, 20, 125])⟩]
abbrev k114_o25 : List AJ := [.o ⟨(some 126), none, false, .mv (.t 18), none⟩, .o ⟨(some 127), none, false, .mv (.t 20), none⟩, .o ⟨(some 128), none, false, .bin .geq (.t 126) (.t 127), none⟩, .o ⟨(some 10), none, false, .mv (.t 128), (some [0, 1, 2, 3, 4, 10, 11, 16])⟩]
abbrev k114_o26 : List AJ := [.o ⟨(some 129), none, false, .mv (.t 0), none⟩, .o ⟨(some 130), none, false, .mv (.t 1), none⟩, .o ⟨(some 131), none, false, .mv (.t 16), none⟩, .o ⟨(some 132), none, false, .mv (.t 3), none⟩, .o ⟨(some 133), none, false, .mv (.t 4), none⟩, .o ⟨(some 134), none, false, .call 114 [(.t 129), (.t 130), (.t 131), (.t 132), (.t 133)], (some [0, 2, 3, 4, 10, 11, 16])⟩]
abbrev k114_o27 : List AJ := [.o ⟨(some 135), none, false, .mv (.t 16), none⟩, .o ⟨(some 136), none, true, .bin .add (.t 135) (.c (.int .i64 1)), none⟩, .o ⟨(some 1), none, false, .mv (.t 136), (some [0, 1, 2, 3, 4, 10, 11])⟩]
def k114_48 : ACode := .region k114_o27
def k114_49 : ACode := .seq (.region k114_o26) k114_48
def k114_50 : ACode := .seq (.region k114_o25) k114_49
abbrev k114_o28 : List AJ := [.o ⟨(some 137), none, false, .mv (.t 19), none⟩, .o ⟨(some 138), none, false, .mv (.t 20), none⟩, .o ⟨(some 139), none, false, .bin .geq (.t 137) (.t 138), none⟩, .o ⟨(some 10), none, false, .mv (.t 139), (some [0, 1, 2, 3, 4, 10, 11, 16])⟩]
abbrev k114_o29 : List AJ := [.o ⟨(some 140), none, false, .mv (.t 0), none⟩, .o ⟨(some 141), none, false, .mv (.t 16), none⟩, .o ⟨(some 142), none, true, .bin .add (.t 141) (.c (.int .i64 1)), none⟩, .o ⟨(some 143), none, false, .mv (.t 2), none⟩, .o ⟨(some 144), none, false, .mv (.t 3), none⟩, .o ⟨(some 145), none, false, .mv (.t 4), none⟩, .o ⟨(some 146), none, false, .call 114 [(.t 140), (.t 142), (.t 143), (.t 144), (.t 145)], (some [0, 1, 3, 4, 10, 11, 16])⟩]
abbrev k114_o30 : List AJ := [.o ⟨(some 147), none, false, .mv (.t 16), none⟩, .o ⟨(some 2), none, false, .mv (.t 147), (some [0, 1, 2, 3, 4, 10, 11])⟩]
def k114_53 : ACode := .region k114_o30
def k114_54 : ACode := .seq (.region k114_o29) k114_53
def k114_55 : ACode := .seq (.region k114_o28) k114_54
def k114_56 : ACode := .cond (.t 125) k114_50 k114_55
def k114_57 : ACode := .seq (.region k114_o24) k114_56
def k114_58 : ACode := .seq (.region k114_o23) k114_57
def k114_59 : ACode := .seq (.region k114_o22) k114_58
def k114_60 : ACode := .seq (.region k114_o21) k114_59
def k114_61 : ACode := .seq (.region k114_o20) k114_60
def k114_62 : ACode := .seq k114_40 k114_61
def k114_63 : ACode := .seq k114_33 k114_62
def k114_64 : ACode := .seq k114_27 k114_63
def k114_65 : ACode := .seq (.region k114_o10) k114_64
def k114_66 : ACode := .seq k114_18 k114_65
def k114_67 : ACode := .seq k114_12 k114_66
def k114_68 : ACode := .seq k114_7 k114_67
def k114_69 : ACode := .seq (.region k114_o2) k114_68
def k114_70 : ACode := .block 1 k114_69
def k114_71 : ACode := .loop k114_70
def k114_72 : ACode := .block 0 k114_71
def k114_73 : ACode := .seq (.region k114_o1) k114_72
def k114_74 : ACode := .seq (.region k114_o0) k114_73
@[simp, simp ↓] theorem k114_5r : sR k114_5 k114_o4 .ret := yR rfl
@[simp, simp ↓] theorem k114_6r : rC k114_6 (.t 25) k114_5 .skip := zC rfl
@[simp, simp ↓] theorem k114_7r : sR k114_7 k114_o3 k114_6 := yR rfl
@[simp, simp ↓] theorem k114_10r : sR k114_10 k114_o6 .ret := yR rfl
@[simp, simp ↓] theorem k114_11r : rC k114_11 (.t 32) k114_10 .skip := zC rfl
@[simp, simp ↓] theorem k114_12r : sR k114_12 k114_o5 k114_11 := yR rfl
@[simp, simp ↓] theorem k114_15r : rR k114_15 k114_o9 := zR rfl
@[simp, simp ↓] theorem k114_16r : sR k114_16 k114_o8 k114_15 := yR rfl
@[simp, simp ↓] theorem k114_17r : rC k114_17 (.t 39) k114_16 .skip := zC rfl
@[simp, simp ↓] theorem k114_18r : sR k114_18 k114_o7 k114_17 := yR rfl
@[simp, simp ↓] theorem k114_23r : rR k114_23 k114_o14 := zR rfl
@[simp, simp ↓] theorem k114_24r : sR k114_24 k114_o13 k114_23 := yR rfl
@[simp, simp ↓] theorem k114_25r : sR k114_25 k114_o12 k114_24 := yR rfl
@[simp, simp ↓] theorem k114_26r : rC k114_26 (.t 56) k114_25 .skip := zC rfl
@[simp, simp ↓] theorem k114_27r : sR k114_27 k114_o11 k114_26 := yR rfl
@[simp, simp ↓] theorem k114_30r : rC k114_30 (.t 80) .ret .skip := zC rfl
@[simp, simp ↓] theorem k114_31r : sR k114_31 k114_o16 k114_30 := yR rfl
@[simp, simp ↓] theorem k114_32r : rC k114_32 (.t 75) k114_31 .skip := zC rfl
@[simp, simp ↓] theorem k114_33r : sR k114_33 k114_o15 k114_32 := yR rfl
@[simp, simp ↓] theorem k114_37r : sR k114_37 k114_o19 (.exit 1) := yR rfl
@[simp, simp ↓] theorem k114_38r : sR k114_38 k114_o18 k114_37 := yR rfl
@[simp, simp ↓] theorem k114_39r : rC k114_39 (.t 97) k114_38 .skip := zC rfl
@[simp, simp ↓] theorem k114_40r : sD k114_40 k114_o17 [] k114_39 := yD rfl
@[simp, simp ↓] theorem k114_48r : rR k114_48 k114_o27 := zR rfl
@[simp, simp ↓] theorem k114_49r : sR k114_49 k114_o26 k114_48 := yR rfl
@[simp, simp ↓] theorem k114_50r : sR k114_50 k114_o25 k114_49 := yR rfl
@[simp, simp ↓] theorem k114_53r : rR k114_53 k114_o30 := zR rfl
@[simp, simp ↓] theorem k114_54r : sR k114_54 k114_o29 k114_53 := yR rfl
@[simp, simp ↓] theorem k114_55r : sR k114_55 k114_o28 k114_54 := yR rfl
@[simp, simp ↓] theorem k114_56r : rC k114_56 (.t 125) k114_50 k114_55 := zC rfl
@[simp, simp ↓] theorem k114_57r : sR k114_57 k114_o24 k114_56 := yR rfl
@[simp, simp ↓] theorem k114_58r : sR k114_58 k114_o23 k114_57 := yR rfl
@[simp, simp ↓] theorem k114_59r : sR k114_59 k114_o22 k114_58 := yR rfl
@[simp, simp ↓] theorem k114_60r : sR k114_60 k114_o21 k114_59 := yR rfl
@[simp, simp ↓] theorem k114_61r : sR k114_61 k114_o20 k114_60 := yR rfl
@[simp, simp ↓] theorem k114_62r : rS k114_62 k114_40 k114_61 := zS rfl
@[simp, simp ↓] theorem k114_63r : rS k114_63 k114_33 k114_62 := zS rfl
@[simp, simp ↓] theorem k114_64r : rS k114_64 k114_27 k114_63 := zS rfl
@[simp, simp ↓] theorem k114_65r : sR k114_65 k114_o10 k114_64 := yR rfl
@[simp, simp ↓] theorem k114_66r : rS k114_66 k114_18 k114_65 := zS rfl
@[simp, simp ↓] theorem k114_67r : rS k114_67 k114_12 k114_66 := zS rfl
@[simp, simp ↓] theorem k114_68r : rS k114_68 k114_7 k114_67 := zS rfl
@[simp, simp ↓] theorem k114_69r : sR k114_69 k114_o2 k114_68 := yR rfl
@[simp, simp ↓] theorem k114_70r : rB k114_70 1 k114_69 := zB rfl
@[simp, simp ↓] theorem k114_71r : rL k114_71 k114_70 := zL rfl
@[simp, simp ↓] theorem k114_72r : rB k114_72 0 k114_71 := zB rfl
@[simp, simp ↓] theorem k114_73r : sR k114_73 k114_o1 k114_72 := yR rfl
@[simp, simp ↓] theorem k114_74r : sR k114_74 k114_o0 k114_73 := yR rfl
noncomputable abbrev k114_C : Orc → Cx := mkC Tryz.prog [] 114 148 []
theorem k114_of0 : OfP0 Tryz.prog Tryz.f114 114 148 k114_C k114_74 := @ofP0 _ _ _ _ _ _ _ _ Tryz.func114 (by decide +kernel) rfl (by kernel_rfl) rfl (by kernel_rfl)
theorem pdqS {id : Nat} {us ex : List AV} {g : FuncId} {H : Heap} {cap : Option Nat} (S : Srt Tryz.prog id us ex g H) (L : Int) (hL : 0 < us.length → ¬ L = 0) : ACalls Tryz.prog 114 [.sl id 1 0 us.length cap, .int .i64 0, .int .i64 us.length, .int .i64 L, .fn g []] H (fun v h' => v = .tup [] ∧ h' = H) := by
  have hlen := S.len
  refine k114_of0 rfl noPure fun I => ?_
  refine Run2.of I 1000 ?_
  simp -implicitDefEqProofs
  refine Run2.loopE (fun (_ : Unit) => [(0, .sl id 1 0 us.length cap), (1, .int .i64 0), (2, .int .i64 us.length), (3, .int .i64 L), (4, .fn g []), (10, .bool true), (11, .bool true)]) (fun _ => H) (fun _ => 0) (fun _ => True) () (by simp) rfl trivial fun _ _ _ => ?_
  by_cases h12 : us.length ≤ 12
  · have h12' : (us.length : Int) ≤ 12 := by omega
    refine Run2.of I 1000 ?_
    simp -implicitDefEqProofs [h12']
    refine ⟨by omega, ?_⟩
    refine (insS S).mono ?_
    rintro v h' ⟨rfl, rfl⟩
    refine gK.go ?_
    simp -implicitDefEqProofs
  · have h12' : ¬ (us.length : Int) ≤ 12 := by omega
    have hL' := hL (by omega)
    refine Run2.of I 1000 ?_
    simp -implicitDefEqProofs [h12', hL']
    refine ⟨by omega, ?_⟩
    refine (pivS S (by omega)).mono ?_
    rintro v h' ⟨j, rfl, rfl⟩
    refine gK.go ?_
    simp -implicitDefEqProofs
    refine (pinS S (by omega)).mono ?_
    rintro v h' ⟨rfl, rfl⟩
    refine gK.go ?_
    simp -implicitDefEqProofs
abbrev k95_o0 : List AJ := [.o ⟨(some 5), none, false, .mv (.t 0), none⟩, .o ⟨(some 6), none, false, .len (.t 5), none⟩, .o ⟨(some 4), none, false, .mv (.t 6), (some [0, 1, 4])⟩]
abbrev k95_o1 : List AJ := [.o ⟨(some 7), none, false, .mv (.t 0), none⟩, .o ⟨(some 8), none, false, .mv (.t 4), none⟩, .o ⟨(some 9), none, false, .mv (.t 4), none⟩, .o ⟨(some 10), none, true, .conv .u64 (.t 9), none⟩, .o ⟨(some 11), none, false, .call 103 [(.t 10)], none⟩, .o ⟨(some 12), none, false, .mv (.t 1), none⟩, .o ⟨(some 13), none, false, .call 114 [(.t 7), (.c (.int .i64 0)), (.t 8), (.t 11), (.t 12)], (some [])⟩]
def k95_1 : ACode := .region k95_o1
def k95_2 : ACode := .seq (.region k95_o0) k95_1
@[simp, simp ↓] theorem k95_1r : rR k95_1 k95_o1 := zR rfl
@[simp, simp ↓] theorem k95_2r : sR k95_2 k95_o0 k95_1 := yR rfl
noncomputable abbrev k95_C : Orc → Cx := mkC Tryz.prog [] 95 14 []
theorem k95_of0 : OfP0 Tryz.prog Tryz.f95 95 14 k95_C k95_2 := @ofP0 _ _ _ _ _ _ _ _ Tryz.func95 (by decide +kernel) rfl (by kernel_rfl) rfl (by kernel_rfl)
theorem sortS_s {id : Nat} {us ex : List AV} {g : FuncId} {H : Heap} {cap : Option Nat} (S : Srt Tryz.prog id us ex g H) : ACalls Tryz.prog 95 [.sl id 1 0 us.length cap, .fn g []] H (fun v h' => v = .tup [] ∧ h' = H) := by
  have hlen := S.len
  refine k95_of0 rfl noPure fun I => ?_
  have hw := arR_u64 (w := true) (n := (us.length : Int)) (by omega) (by omega)
  refine Run2.of I 1000 ?_
  simp -implicitDefEqProofs [hw]
  refine (lenS us.length H hlen).mono ?_
  rintro v h' ⟨L, rfl, hL, rfl⟩
  refine gK.go ?_
  simp -implicitDefEqProofs
  refine (pdqS S L hL).mono ?_
  rintro v h' ⟨rfl, rfl⟩
  refine gK.go ?_
  simp -implicitDefEqProofs
abbrev k97_o0 : List AJ := [.o ⟨(some 4), none, false, .mv (.c (.bool false)), (some [0, 1])⟩]
abbrev k97_o1 : List AJ := [.o ⟨(some 6), none, false, .mv (.t 0), none⟩, .o ⟨(some 7), none, false, .len (.t 6), none⟩, .o ⟨(some 8), none, false, .mv (.t 1), none⟩, .o ⟨(some 9), none, false, .len (.t 8), none⟩, .o ⟨(some 10), none, false, .bin .neq (.t 7) (.t 9), (some [0, 1, 10])⟩]
abbrev k97_o2 : List AJ := [.o ⟨(some 4), none, false, .mv (.c (.bool false)), (some [4])⟩]
def k97_3 : ACode := .seq (.region k97_o2) .ret
def k97_4 : ACode := .cond (.t 10) k97_3 .skip
def k97_5 : ACode := .seq (.region k97_o1) k97_4
abbrev k97_o3 : List AJ := [.o ⟨(some 11), none, false, .mv (.t 0), none⟩, .o ⟨(some 12), none, false, .len (.t 11), none⟩, .o ⟨(some 13), none, false, .mv (.c (.int .i64 0)), (some [0, 1, 12, 13])⟩]
abbrev k97_o4 : List AJ := [.o ⟨(some 14), none, false, .bin .lss (.t 13) (.t 12), (some [0, 1, 12, 13, 14])⟩]
abbrev k97_o5 : List AJ := [.o ⟨(some 15), none, false, .mv (.t 13), none⟩, .o ⟨(some 5), none, false, .mv (.t 15), (some [0, 1, 5, 12, 13])⟩]
abbrev k97_o6 : List AI := [⟨(some 16), none, false, .mv (.t 0), none⟩, ⟨(some 17), none, false, .mv (.t 5), none⟩, ⟨(some 18), none, false, .idxA 1 (.t 16) (.t 17), none⟩, ⟨(some 19), none, false, .load 1 false (.t 18), none⟩, ⟨(some 20), none, false, .mv (.t 1), none⟩, ⟨(some 21), none, false, .mv (.t 5), none⟩, ⟨(some 22), none, false, .idxA 1 (.t 20) (.t 21), none⟩, ⟨(some 23), none, false, .load 1 false (.t 22), none⟩, ⟨(some 24), none, false, .bin .neq (.t 19) (.t 23), (some [0, 1, 12, 13, 24])⟩]
abbrev k97_o7 : List AJ := [.o ⟨(some 4), none, false, .mv (.c (.bool false)), (some [4])⟩]
def k97_12 : ACode := .seq (.region k97_o7) .ret
def k97_13 : ACode := .cond (.t 24) k97_12 .skip
def k97_14 : ACode := .seq (.draw k97_o6 [] rfl) k97_13
def k97_15 : ACode := .seq (.region k97_o5) k97_14
abbrev k97_o8 : List AJ := [.o ⟨(some 25), none, true, .bin .add (.t 13) (.c (.int .i64 1)), none⟩, .o ⟨(some 13), none, false, .mv (.t 25), (some [0, 1, 12, 13])⟩]
def k97_17 : ACode := .region k97_o8
def k97_18 : ACode := .seq (.block 1 k97_15) k97_17
def k97_19 : ACode := .seq (.cond (.t 14) .skip (.exit 0)) k97_18
def k97_20 : ACode := .seq (.region k97_o4) k97_19
def k97_21 : ACode := .loop k97_20
def k97_22 : ACode := .block 0 k97_21
def k97_23 : ACode := .seq (.region k97_o3) k97_22
abbrev k97_o9 : List AJ := [.o ⟨(some 4), none, false, .mv (.c (.bool true)), (some [4])⟩]
def k97_25 : ACode := .seq (.region k97_o9) .ret
def k97_26 : ACode := .seq k97_23 k97_25
def k97_27 : ACode := .seq k97_5 k97_26
def k97_28 : ACode := .seq (.region k97_o0) k97_27
@[simp, simp ↓] theorem k97_3r : sR k97_3 k97_o2 .ret := yR rfl
@[simp, simp ↓] theorem k97_4r : rC k97_4 (.t 10) k97_3 .skip := zC rfl
@[simp, simp ↓] theorem k97_5r : sR k97_5 k97_o1 k97_4 := yR rfl
@[simp, simp ↓] theorem k97_12r : sR k97_12 k97_o7 .ret := yR rfl
@[simp, simp ↓] theorem k97_13r : rC k97_13 (.t 24) k97_12 .skip := zC rfl
@[simp, simp ↓] theorem k97_14r : sD k97_14 k97_o6 [] k97_13 := yD rfl
@[simp, simp ↓] theorem k97_15r : sR k97_15 k97_o5 k97_14 := yR rfl
@[simp, simp ↓] theorem k97_17r : rR k97_17 k97_o8 := zR rfl
@[simp, simp ↓] theorem k97_18r : sB k97_18 1 k97_15 k97_17 := yB rfl
@[simp, simp ↓] theorem k97_19r : sC k97_19 (.t 14) .skip (.exit 0) k97_18 := yC rfl
@[simp, simp ↓] theorem k97_20r : sR k97_20 k97_o4 k97_19 := yR rfl
@[simp, simp ↓] theorem k97_21r : rL k97_21 k97_20 := zL rfl
@[simp, simp ↓] theorem k97_22r : rB k97_22 0 k97_21 := zB rfl
@[simp, simp ↓] theorem k97_23r : sR k97_23 k97_o3 k97_22 := yR rfl
@[simp, simp ↓] theorem k97_25r : sR k97_25 k97_o9 .ret := yR rfl
@[simp, simp ↓] theorem k97_26r : rS k97_26 k97_23 k97_25 := zS rfl
@[simp, simp ↓] theorem k97_27r : rS k97_27 k97_5 k97_26 := zS rfl
@[simp, simp ↓] theorem k97_28r : sR k97_28 k97_o0 k97_27 := yR rfl
noncomputable abbrev k97_C : Orc → Cx := mkC Tryz.prog [] 97 26 [.tmp 4]
theorem k97_of0 : OfP0 Tryz.prog Tryz.f97 97 26 k97_C k97_28 := @ofP0 _ _ _ _ _ _ _ _ Tryz.func97 (by decide +kernel) rfl (by kernel_rfl) rfl (by kernel_rfl)
theorem equal_s (l m : List Int) (h : Heap) (hl : l.length ≤ 1048576) : ACalls Tryz.prog 97 [.snap 1 (l.map iv), .snap 1 (m.map iv)] h (fun v h' => v = .bool (decide (l = m)) ∧ h' = h) := by
  refine k97_of0 rfl noPure fun I => ?_
  refine Run2.of I 1000 ?_
  simp -implicitDefEqProofs
  refine ⟨by rintro hne rfl; exact hne rfl, fun hlen => ?_⟩
  refine Run2.loopE (fun i => [(0, .snap 1 (l.map iv)), (1, .snap 1 (m.map iv)), (12, .int .i64 l.length), (13, .int .i64 (i : Nat))]) (fun i => h) (fun i => l.length - i) (fun i => i ≤ l.length ∧ l.take i = m.take i) 0 (by simp [hlen]) rfl (by simp) fun i hi ih => ?_
  by_cases hlt : i < l.length
  · have hlt' : i < m.length := by omega
    refine Run2.of I 1000 ?_
    simp -implicitDefEqProofs [hlt, hlt']
    constructor
    · rintro hne rfl
      exact hne rfl
    · intro he
      refine ⟨by omega, ?_⟩
      have := ih (i + 1) ⟨by omega, by rw [List.take_succ_eq_append_getElem hlt, List.take_succ_eq_append_getElem hlt', hi.2, he]⟩ (by omega)
      simpa using this
  · refine Run2.of I 1000 ?_
    simp -implicitDefEqProofs [hlt]
    have : i = l.length := by omega
    have h2 := hi.2
    rw [List.take_of_length_le (by omega), List.take_of_length_le (by omega)] at h2
    exact h2
/-- Neighbours are not equal. -/
structure Cmp (P : Program) (id : Nat) (us ex : List AV) (g : FuncId) (H : Heap) : Prop where
  at_ : hget H id = some ⟨1, us ++ ex⟩
  len : us.length ≤ 1048576
  cell : ∀ i (h : i < us.length), isCell us[i] = true
  eq : ∀ i (h : i + 1 < us.length), ACalls P g [us[i + 1], us[i]] H (fun v h' => v = .bool false ∧ h' = H)
theorem Cmp.get {P : Program} {id : Nat} {us ex : List AV} {g : FuncId} {H : Heap} (S : Cmp P id us ex g H) {i : Nat} (h : i < us.length) : (us ++ ex)[i]? = some us[i] := by
  rw [List.getElem?_append_left h]; simp [h]
abbrev k96_o0 : List AJ := [.o ⟨(some 4), none, false, .mv (.c .nilsl), (some [0, 1])⟩]
abbrev k96_o1 : List AJ := [.o ⟨(some 8), none, false, .mv (.t 0), none⟩, .o ⟨(some 9), none, false, .len (.t 8), none⟩, .o ⟨(some 10), none, false, .bin .lss (.t 9) (.c (.int .i64 2)), (some [0, 1, 10])⟩]
abbrev k96_o2 : List AJ := [.o ⟨(some 11), none, false, .mv (.t 0), none⟩, .o ⟨(some 4), none, false, .mv (.t 11), (some [4])⟩]
def k96_3 : ACode := .seq (.region k96_o2) .ret
def k96_4 : ACode := .cond (.t 10) k96_3 .skip
def k96_5 : ACode := .seq (.region k96_o1) k96_4
abbrev k96_o3 : List AJ := [.o ⟨(some 5), none, false, .mv (.c (.int .i64 1)), (some [0, 1, 5])⟩]
abbrev k96_o4 : List AJ := [.o ⟨(some 12), none, false, .mv (.t 5), none⟩, .o ⟨(some 13), none, false, .mv (.t 0), none⟩, .o ⟨(some 14), none, false, .len (.t 13), none⟩, .o ⟨(some 15), none, false, .bin .lss (.t 12) (.t 14), (some [0, 1, 5, 15])⟩]
def k96_8 : ACode := .cond (.t 15) .skip (.exit 0)
def k96_9 : ACode := .seq (.region k96_o4) k96_8
abbrev k96_o5 : List AI := [⟨(some 18), none, false, .mv (.t 1), none⟩, ⟨(some 19), none, false, .mv (.t 0), none⟩, ⟨(some 20), none, false, .mv (.t 5), none⟩, ⟨(some 21), none, false, .idxA 1 (.t 19) (.t 20), none⟩, ⟨(some 22), none, false, .load 1 false (.t 21), none⟩, ⟨(some 23), none, false, .mv (.t 0), none⟩, ⟨(some 24), none, false, .mv (.t 5), none⟩, ⟨(some 25), none, true, .bin .sub (.t 24) (.c (.int .i64 1)), none⟩, ⟨(some 26), none, false, .idxA 1 (.t 23) (.t 25), none⟩, ⟨(some 27), none, false, .load 1 false (.t 26), none⟩, ⟨(some 28), none, false, .callv (.t 18) [(.t 22), (.t 27)], (some [0, 1, 5, 28])⟩]
abbrev k96_o6 : List AJ := [.o ⟨(some 29), none, false, .mv (.t 0), none⟩, .o ⟨(some 30), none, false, .mv (.t 5), none⟩, .o ⟨(some 31), none, false, .slice 1 (.t 29) (some (.t 30)) none none, none⟩, .o ⟨(some 6), none, false, .mv (.t 31), (some [0, 1, 5, 6])⟩]
abbrev k96_o7 : List AJ := [.o ⟨(some 7), none, false, .mv (.c (.int .i64 1)), (some [0, 1, 5, 6, 7])⟩]
abbrev k96_o8 : List AJ := [.o ⟨(some 32), none, false, .mv (.t 7), none⟩, .o ⟨(some 33), none, false, .mv (.t 6), none⟩, .o ⟨(some 34), none, false, .len (.t 33), none⟩, .o ⟨(some 35), none, false, .bin .lss (.t 32) (.t 34), (some [0, 1, 5, 6, 7, 35])⟩]
def k96_14 : ACode := .cond (.t 35) .skip (.exit 2)
def k96_15 : ACode := .seq (.region k96_o8) k96_14
abbrev k96_o9 : List AI := [⟨(some 38), none, false, .mv (.t 1), none⟩, ⟨(some 39), none, false, .mv (.t 6), none⟩, ⟨(some 40), none, false, .mv (.t 7), none⟩, ⟨(some 41), none, false, .idxA 1 (.t 39) (.t 40), none⟩, ⟨(some 42), none, false, .load 1 false (.t 41), none⟩, ⟨(some 43), none, false, .mv (.t 6), none⟩, ⟨(some 44), none, false, .mv (.t 7), none⟩, ⟨(some 45), none, true, .bin .sub (.t 44) (.c (.int .i64 1)), none⟩, ⟨(some 46), none, false, .idxA 1 (.t 43) (.t 45), none⟩, ⟨(some 47), none, false, .load 1 false (.t 46), none⟩, ⟨(some 48), none, false, .callv (.t 38) [(.t 42), (.t 47)], none⟩, ⟨(some 49), none, false, .un .not (.t 48), (some [0, 1, 5, 6, 7, 49])⟩]
abbrev k96_o10 : List AJ := [.o ⟨(some 50), none, false, .mv (.t 0), none⟩, .o ⟨(some 51), none, false, .mv (.t 5), none⟩, .o ⟨(some 52), none, false, .mv (.t 6), none⟩, .o ⟨(some 53), none, false, .mv (.t 7), none⟩, .o ⟨(some 54), none, false, .idxA 1 (.t 52) (.t 53), none⟩, .o ⟨(some 55), none, false, .load 1 false (.t 54), none⟩, .o ⟨(some 56), none, false, .idxA 1 (.t 50) (.t 51), none⟩, .o ⟨none, none, false, .store 1 (.t 56) (.t 55), (some [0, 1, 5, 6, 7])⟩]
abbrev k96_o11 : List AJ := [.o ⟨(some 57), none, false, .mv (.t 5), none⟩, .o ⟨(some 58), none, true, .bin .add (.t 57) (.c (.int .i64 1)), none⟩, .o ⟨(some 5), none, false, .mv (.t 58), (some [0, 1, 5, 6, 7])⟩]
def k96_18 : ACode := .region k96_o11
def k96_19 : ACode := .seq (.region k96_o10) k96_18
def k96_20 : ACode := .cond (.t 49) k96_19 .skip
def k96_21 : ACode := .seq (.draw k96_o9 [] rfl) k96_20
abbrev k96_o12 : List AJ := [.o ⟨(some 36), none, false, .mv (.t 7), none⟩, .o ⟨(some 37), none, true, .bin .add (.t 36) (.c (.int .i64 1)), none⟩, .o ⟨(some 7), none, false, .mv (.t 37), (some [0, 1, 5, 6, 7])⟩]
def k96_23 : ACode := .region k96_o12
def k96_24 : ACode := .seq (.block 3 k96_21) k96_23
def k96_25 : ACode := .seq k96_15 k96_24
def k96_26 : ACode := .loop k96_25
def k96_27 : ACode := .block 2 k96_26
def k96_28 : ACode := .seq (.region k96_o7) k96_27
abbrev k96_o13 : List AJ := [.o ⟨(some 59), none, false, .mv (.t 0), none⟩, .o ⟨(some 60), none, false, .mv (.t 5), none⟩, .o ⟨(some 61), none, false, .slice 1 (.t 59) (some (.t 60)) none none, none⟩, .o ⟨none, none, false, .clear 1 .nilsl (.t 61), (some [0, 5])⟩]
abbrev k96_o14 : List AJ := [.o ⟨(some 62), none, false, .mv (.t 0), none⟩, .o ⟨(some 63), none, false, .mv (.t 5), none⟩, .o ⟨(some 64), none, false, .slice 1 (.t 62) none (some (.t 63)) none, none⟩, .o ⟨(some 4), none, false, .mv (.t 64), (some [4])⟩]
def k96_31 : ACode := .seq (.region k96_o14) .ret
def k96_32 : ACode := .seq (.region k96_o13) k96_31
def k96_33 : ACode := .seq k96_28 k96_32
def k96_34 : ACode := .seq (.region k96_o6) k96_33
def k96_35 : ACode := .cond (.t 28) k96_34 .skip
def k96_36 : ACode := .seq (.draw k96_o5 [] rfl) k96_35
abbrev k96_o15 : List AJ := [.o ⟨(some 16), none, false, .mv (.t 5), none⟩, .o ⟨(some 17), none, true, .bin .add (.t 16) (.c (.int .i64 1)), none⟩, .o ⟨(some 5), none, false, .mv (.t 17), (some [0, 1, 5])⟩]
def k96_38 : ACode := .region k96_o15
def k96_39 : ACode := .seq (.block 1 k96_36) k96_38
def k96_40 : ACode := .seq k96_9 k96_39
def k96_41 : ACode := .loop k96_40
def k96_42 : ACode := .block 0 k96_41
def k96_43 : ACode := .seq (.region k96_o3) k96_42
abbrev k96_o16 : List AJ := [.o ⟨(some 65), none, false, .mv (.t 0), none⟩, .o ⟨(some 4), none, false, .mv (.t 65), (some [4])⟩]
def k96_45 : ACode := .seq (.region k96_o16) .ret
def k96_46 : ACode := .seq k96_43 k96_45
def k96_47 : ACode := .seq k96_5 k96_46
def k96_48 : ACode := .seq (.region k96_o0) k96_47
@[simp, simp ↓] theorem k96_3r : sR k96_3 k96_o2 .ret := yR rfl
@[simp, simp ↓] theorem k96_4r : rC k96_4 (.t 10) k96_3 .skip := zC rfl
@[simp, simp ↓] theorem k96_5r : sR k96_5 k96_o1 k96_4 := yR rfl
@[simp, simp ↓] theorem k96_8r : rC k96_8 (.t 15) .skip (.exit 0) := zC rfl
@[simp, simp ↓] theorem k96_9r : sR k96_9 k96_o4 k96_8 := yR rfl
@[simp, simp ↓] theorem k96_14r : rC k96_14 (.t 35) .skip (.exit 2) := zC rfl
@[simp, simp ↓] theorem k96_15r : sR k96_15 k96_o8 k96_14 := yR rfl
@[simp, simp ↓] theorem k96_18r : rR k96_18 k96_o11 := zR rfl
@[simp, simp ↓] theorem k96_19r : sR k96_19 k96_o10 k96_18 := yR rfl
@[simp, simp ↓] theorem k96_20r : rC k96_20 (.t 49) k96_19 .skip := zC rfl
@[simp, simp ↓] theorem k96_21r : sD k96_21 k96_o9 [] k96_20 := yD rfl
@[simp, simp ↓] theorem k96_23r : rR k96_23 k96_o12 := zR rfl
@[simp, simp ↓] theorem k96_24r : sB k96_24 3 k96_21 k96_23 := yB rfl
@[simp, simp ↓] theorem k96_25r : rS k96_25 k96_15 k96_24 := zS rfl
@[simp, simp ↓] theorem k96_26r : rL k96_26 k96_25 := zL rfl
@[simp, simp ↓] theorem k96_27r : rB k96_27 2 k96_26 := zB rfl
@[simp, simp ↓] theorem k96_28r : sR k96_28 k96_o7 k96_27 := yR rfl
@[simp, simp ↓] theorem k96_31r : sR k96_31 k96_o14 .ret := yR rfl
@[simp, simp ↓] theorem k96_32r : sR k96_32 k96_o13 k96_31 := yR rfl
@[simp, simp ↓] theorem k96_33r : rS k96_33 k96_28 k96_32 := zS rfl
@[simp, simp ↓] theorem k96_34r : sR k96_34 k96_o6 k96_33 := yR rfl
@[simp, simp ↓] theorem k96_35r : rC k96_35 (.t 28) k96_34 .skip := zC rfl
@[simp, simp ↓] theorem k96_36r : sD k96_36 k96_o5 [] k96_35 := yD rfl
@[simp, simp ↓] theorem k96_38r : rR k96_38 k96_o15 := zR rfl
@[simp, simp ↓] theorem k96_39r : sB k96_39 1 k96_36 k96_38 := yB rfl
@[simp, simp ↓] theorem k96_40r : rS k96_40 k96_9 k96_39 := zS rfl
@[simp, simp ↓] theorem k96_41r : rL k96_41 k96_40 := zL rfl
@[simp, simp ↓] theorem k96_42r : rB k96_42 0 k96_41 := zB rfl
@[simp, simp ↓] theorem k96_43r : sR k96_43 k96_o3 k96_42 := yR rfl
@[simp, simp ↓] theorem k96_45r : sR k96_45 k96_o16 .ret := yR rfl
@[simp, simp ↓] theorem k96_46r : rS k96_46 k96_43 k96_45 := zS rfl
@[simp, simp ↓] theorem k96_47r : rS k96_47 k96_5 k96_46 := zS rfl
@[simp, simp ↓] theorem k96_48r : sR k96_48 k96_o0 k96_47 := yR rfl
noncomputable abbrev k96_C : Orc → Cx := mkC Tryz.prog [] 96 66 [.tmp 4]
theorem k96_of0 : OfP0 Tryz.prog Tryz.f96 96 66 k96_C k96_48 := @ofP0 _ _ _ _ _ _ _ _ Tryz.func96 (by decide +kernel) rfl (by kernel_rfl) rfl (by kernel_rfl)
theorem compact_s {id : Nat} {us ex : List AV} {g : FuncId} {H : Heap} {cap : Option Nat} (S : Cmp Tryz.prog id us ex g H) : ACalls Tryz.prog 96 [.sl id 1 0 us.length cap, .fn g []] H (fun v h' => v = .sl id 1 0 us.length cap ∧ h' = H) := by
  have hlen := S.len
  have hat := S.at_
  refine k96_of0 rfl noPure fun I => ?_
  by_cases h2 : us.length < 2
  · have h2' : (us.length : Int) < 2 := by omega
    refine Run2.of I 1000 ?_
    simp -implicitDefEqProofs [h2']
  · have h2' : ¬ (us.length : Int) < 2 := by omega
    refine Run2.of I 1000 ?_
    simp -implicitDefEqProofs [h2']
    refine Run2.loopE (fun (i : Nat) => [(0, .sl id 1 0 us.length cap), (1, .fn g []), (5, .int .i64 (i + 1 : Nat))]) (fun _ => H) (fun i => us.length - i) (fun i => i + 1 ≤ us.length) 0 (by simp) rfl (by omega) fun i hi ih => ?_
    by_cases hlt : i + 1 < us.length
    · have hlt' : i < us.length := by omega
      have go := ih (i + 1) (by omega) (by omega)
      have hltI : (i : Int) + 1 < us.length := by omega
      have g1 := S.get hlt
      have g2 := S.get hlt'
      have hcall := S.eq _ hlt
      have hc1 : ((i : Int) + 1 - 1).toNat = i := by omega
      have q1 := cells_of (S.cell _ hlt)
      have q2 := cells_of (S.cell _ hlt')
      clear ih
      refine Run2.of I 1000 ?_
      simp -implicitDefEqProofs [hltI, hat, g1, g2, hc1, hlt, hlt', q1, q2]
      refine ⟨by omega, by omega, dcallK hcall ?_⟩
      simp -implicitDefEqProofs
      exact ⟨by omega, by simpa using go⟩
    · have hltI : ¬ (i : Int) + 1 < us.length := by omega
      refine Run2.of I 1000 ?_
      simp -implicitDefEqProofs [hltI]
end Go.AG
