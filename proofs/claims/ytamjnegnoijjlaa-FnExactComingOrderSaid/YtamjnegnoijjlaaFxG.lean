/- The library's sorting of what is sorted already: it changes nothing. No statement is made here. -/
import Derived.Test.YtamjnegnoijjlaaFxD
namespace Go.AG
open Go.Proofs Go.Proofs.Ytamjnegnoijjlaa
set_option linter.unusedSimpArgs false
set_option linter.unusedVariables false
set_option maxRecDepth 4000
/-- A block of values that a function compares; those behind are greater. -/
structure Srt (P : Program) (id : Nat) (us ex : List AV) (g : FuncId) (H : Heap) : Prop where
  at_ : hget H id = some ⟨1, us ++ ex⟩
  len : us.length ≤ 48
  cell : ∀ i (h : i < us.length), isCell us[i] = true
  cmp : ∀ i j (hi : i < us.length) (hj : j < us.length), j < i → ∃ c : Int, 0 < c ∧ ACalls P g [us[i], us[j]] H (fun v h' => v = .int .i64 c ∧ h' = H)
theorem Srt.get {P : Program} {id : Nat} {us ex : List AV} {g : FuncId} {H : Heap} (S : Srt P id us ex g H) {i : Nat} (h : i < us.length) : (us ++ ex)[i]? = some us[i] := by
  rw [List.getElem?_append_left h]; simp [h]
abbrev k156_o0 : List AJ := [.o ⟨(some 10), none, false, .mv (.t 1), none⟩, .o ⟨(some 11), none, true, .bin .add (.t 10) (.c (.int .i64 1)), none⟩, .o ⟨(some 8), none, false, .mv (.t 11), (some [0, 1, 2, 3, 8])⟩]
abbrev k156_o1 : List AJ := [.o ⟨(some 12), none, false, .mv (.t 8), none⟩, .o ⟨(some 13), none, false, .mv (.t 2), none⟩, .o ⟨(some 14), none, false, .bin .lss (.t 12) (.t 13), (some [0, 1, 2, 3, 8, 14])⟩]
def k156_2 : ACode := .cond (.t 14) .skip (.exit 0)
def k156_3 : ACode := .seq (.region k156_o1) k156_2
abbrev k156_o2 : List AJ := [.o ⟨(some 17), none, false, .mv (.t 8), none⟩, .o ⟨(some 9), none, false, .mv (.t 17), (some [0, 1, 2, 3, 8, 9])⟩]
abbrev k156_o3 : List AI := [⟨(some 18), none, false, .mv (.t 9), none⟩, ⟨(some 19), none, false, .mv (.t 1), none⟩, ⟨(some 20), none, false, .bin .gtr (.t 18) (.t 19), none⟩, ⟨(some 21), none, false, .mv (.t 20), none⟩, ⟨(some 22), (some (21, true)), false, .mv (.t 3), none⟩, ⟨(some 23), (some (21, true)), false, .mv (.t 0), none⟩, ⟨(some 24), (some (21, true)), false, .mv (.t 9), none⟩, ⟨(some 25), (some (21, true)), false, .idxA 1 (.t 23) (.t 24), none⟩, ⟨(some 26), (some (21, true)), false, .load 1 false (.t 25), (some [0, 1, 2, 3, 8, 9, 21, 22, 26])⟩, ⟨(some 27), (some (21, true)), false, .mv (.t 0), none⟩, ⟨(some 28), (some (21, true)), false, .mv (.t 9), none⟩, ⟨(some 29), (some (21, true)), true, .bin .sub (.t 28) (.c (.int .i64 1)), none⟩, ⟨(some 30), (some (21, true)), false, .idxA 1 (.t 27) (.t 29), none⟩, ⟨(some 31), (some (21, true)), false, .load 1 false (.t 30), none⟩, ⟨(some 32), (some (21, true)), false, .callv (.t 22) [(.t 26), (.t 31)], none⟩, ⟨(some 33), (some (21, true)), false, .bin .lss (.t 32) (.c (.int .i64 0)), (some [0, 1, 2, 3, 8, 9, 21, 33])⟩, ⟨(some 34), none, false, .pick (.t 21) (.t 33) (.c (.bool false)), (some [0, 1, 2, 3, 8, 9, 34])⟩]
def k156_6 : ACode := .cond (.t 34) .skip (.exit 2)
def k156_7 : ACode := .seq (.draw k156_o3 [] rfl) k156_6
abbrev k156_o4 : List AJ := [.o ⟨(some 37), none, false, .mv (.t 0), none⟩, .o ⟨(some 38), none, false, .mv (.t 9), none⟩, .o ⟨(some 39), none, false, .mv (.t 0), none⟩, .o ⟨(some 40), none, false, .mv (.t 9), none⟩, .o ⟨(some 41), none, true, .bin .sub (.t 40) (.c (.int .i64 1)), none⟩, .o ⟨(some 42), none, false, .mv (.t 0), none⟩, .o ⟨(some 43), none, false, .mv (.t 9), none⟩, .o ⟨(some 44), none, true, .bin .sub (.t 43) (.c (.int .i64 1)), none⟩, .o ⟨(some 45), none, false, .idxA 1 (.t 42) (.t 44), none⟩, .o ⟨(some 46), none, false, .load 1 false (.t 45), none⟩, .o ⟨(some 47), none, false, .mv (.t 0), none⟩, .o ⟨(some 48), none, false, .mv (.t 9), none⟩, .o ⟨(some 49), none, false, .idxA 1 (.t 47) (.t 48), none⟩, .o ⟨(some 50), none, false, .load 1 false (.t 49), (some [0, 1, 2, 3, 8, 9, 37, 38, 39, 41, 46, 50])⟩, .o ⟨(some 51), none, false, .idxA 1 (.t 37) (.t 38), none⟩, .o ⟨none, none, false, .store 1 (.t 51) (.t 46), none⟩, .o ⟨(some 52), none, false, .idxA 1 (.t 39) (.t 41), none⟩, .o ⟨none, none, false, .store 1 (.t 52) (.t 50), (some [0, 1, 2, 3, 8, 9])⟩]
def k156_8 : ACode := .drawT 0 k156_o4 rfl
abbrev k156_o5 : List AJ := [.o ⟨(some 35), none, false, .mv (.t 9), none⟩, .o ⟨(some 36), none, true, .bin .sub (.t 35) (.c (.int .i64 1)), none⟩, .o ⟨(some 9), none, false, .mv (.t 36), (some [0, 1, 2, 3, 8, 9])⟩]
def k156_10 : ACode := .region k156_o5
def k156_11 : ACode := .seq (.block 3 k156_8) k156_10
def k156_12 : ACode := .seq k156_7 k156_11
def k156_13 : ACode := .loop k156_12
def k156_14 : ACode := .block 2 k156_13
def k156_15 : ACode := .seq (.region k156_o2) k156_14
abbrev k156_o6 : List AJ := [.o ⟨(some 15), none, false, .mv (.t 8), none⟩, .o ⟨(some 16), none, true, .bin .add (.t 15) (.c (.int .i64 1)), none⟩, .o ⟨(some 8), none, false, .mv (.t 16), (some [0, 1, 2, 3, 8])⟩]
def k156_17 : ACode := .region k156_o6
def k156_18 : ACode := .seq (.block 1 k156_15) k156_17
def k156_19 : ACode := .seq k156_3 k156_18
def k156_20 : ACode := .loop k156_19
def k156_21 : ACode := .block 0 k156_20
def k156_22 : ACode := .seq (.region k156_o0) k156_21
@[simp, simp ↓] theorem k156_2r : rC k156_2 (.t 14) .skip (.exit 0) := zC rfl
@[simp, simp ↓] theorem k156_3r : sR k156_3 k156_o1 k156_2 := yR rfl
@[simp, simp ↓] theorem k156_6r : rC k156_6 (.t 34) .skip (.exit 2) := zC rfl
@[simp, simp ↓] theorem k156_7r : sD k156_7 k156_o3 [] k156_6 := yD rfl
@[simp, simp ↓] theorem k156_8r : rT k156_8 k156_o4 := zT rfl
@[simp, simp ↓] theorem k156_10r : rR k156_10 k156_o5 := zR rfl
@[simp, simp ↓] theorem k156_11r : sB k156_11 3 k156_8 k156_10 := yB rfl
@[simp, simp ↓] theorem k156_12r : rS k156_12 k156_7 k156_11 := zS rfl
@[simp, simp ↓] theorem k156_13r : rL k156_13 k156_12 := zL rfl
@[simp, simp ↓] theorem k156_14r : rB k156_14 2 k156_13 := zB rfl
@[simp, simp ↓] theorem k156_15r : sR k156_15 k156_o2 k156_14 := yR rfl
@[simp, simp ↓] theorem k156_17r : rR k156_17 k156_o6 := zR rfl
@[simp, simp ↓] theorem k156_18r : sB k156_18 1 k156_15 k156_17 := yB rfl
@[simp, simp ↓] theorem k156_19r : rS k156_19 k156_3 k156_18 := zS rfl
@[simp, simp ↓] theorem k156_20r : rL k156_20 k156_19 := zL rfl
@[simp, simp ↓] theorem k156_21r : rB k156_21 0 k156_20 := zB rfl
@[simp, simp ↓] theorem k156_22r : sR k156_22 k156_o0 k156_21 := yR rfl
noncomputable abbrev k156_C : Orc → Cx := mkC Try.prog [] 156 53 []
theorem k156_of0 : OfP0 Try.prog Try.f156 156 53 k156_C k156_22 := @ofP0 _ _ _ _ _ _ _ _ Try.func156 (by decide +kernel) rfl (by kernel_rfl) rfl (by kernel_rfl)
theorem insS {id : Nat} {us ex : List AV} {g : FuncId} {H : Heap} {cap : Option Nat} (S : Srt Try.prog id us ex g H) : ACalls Try.prog 156 [.sl id 1 0 us.length cap, .int .i64 0, .int .i64 us.length, .fn g []] H (fun v h' => v = .tup [] ∧ h' = H) := by
  have hlen := S.len
  have hat := S.at_
  refine k156_of0 rfl noPure fun I => ?_
  refine Run2.of I 1000 ?_
  simp -implicitDefEqProofs
  refine Run2.loopE (fun (i : Nat) => [(0, .sl id 1 0 us.length cap), (1, .int .i64 0), (2, .int .i64 us.length), (3, .fn g []), (8, .int .i64 (i + 1 : Nat))]) (fun _ => H) (fun i => us.length - i) (fun i => i ≤ us.length) 0 (by simp) rfl (Nat.zero_le _) fun i hi ih => ?_
  by_cases hlt : i + 1 < us.length
  · have hlt' : i < us.length := by omega
    have go := ih (i + 1) (by omega) (by omega)
    have hltI : (i : Int) + 1 < us.length := by omega
    have g1 := S.get hlt
    have g2 := S.get hlt'
    obtain ⟨c, hc, hcall⟩ := S.cmp _ _ hlt hlt' (by omega)
    have hel : i + 1 < us.length + ex.length := by omega
    have hc1 : ((i : Int) + 1 - 1).toNat = i := by omega
    have q1 := cells_of (S.cell _ hlt)
    have q2 := cells_of (S.cell _ hlt')
    clear ih
    refine Run2.of I 1000 ?_
    simp -implicitDefEqProofs [hltI]
    refine Run2.loopE (fun (_ : Unit) => [(0, .sl id 1 0 us.length cap), (1, .int .i64 0), (2, .int .i64 us.length), (3, .fn g []), (8, .int .i64 (i + 1 : Nat)), (9, .int .i64 (i + 1 : Nat))]) (fun _ => H) (fun _ => 0) (fun _ => True) () (by simp) rfl trivial fun _ _ _ => ?_
    refine Run2.of I 1000 ?_
    have hc' : ¬ c < 0 := by omega
    simp -implicitDefEqProofs [hltI, hat, g1, g2, hel, hc1, hlt, hlt', q1, q2]
    refine ⟨by omega, by omega, dcallK hcall ?_⟩
    simp -implicitDefEqProofs [hc']
    exact ⟨by omega, by simpa using go⟩
  · have hltI : ¬ (i : Int) + 1 < us.length := by omega
    refine Run2.of I 1000 ?_
    simp -implicitDefEqProofs [hltI]
abbrev k176_o0 : List AJ := [.o ⟨(some 10), none, false, .mv (.c (.int .i64 0)), none⟩, .o ⟨(some 11), none, false, .mv (.c (.int .i64 0)), (some [0, 1, 2, 3, 4])⟩]
abbrev k176_o1 : List AI := [⟨(some 12), none, false, .mv (.t 4), none⟩, ⟨(some 13), none, false, .mv (.t 0), none⟩, ⟨(some 14), none, false, .mv (.t 2), none⟩, ⟨(some 15), none, false, .idxA 1 (.t 13) (.t 14), none⟩, ⟨(some 16), none, false, .load 1 false (.t 15), none⟩, ⟨(some 17), none, false, .mv (.t 0), none⟩, ⟨(some 18), none, false, .mv (.t 1), none⟩, ⟨(some 19), none, false, .idxA 1 (.t 17) (.t 18), none⟩, ⟨(some 20), none, false, .load 1 false (.t 19), none⟩, ⟨(some 21), none, false, .callv (.t 12) [(.t 16), (.t 20)], none⟩, ⟨(some 22), none, false, .bin .lss (.t 21) (.c (.int .i64 0)), (some [1, 2, 3, 22])⟩]
abbrev k176_o2 : List AJ := [.o ⟨(some 23), none, false, .mv (.t 3), none⟩, .o ⟨(some 24), none, false, .nilchk (.t 23), none⟩, .o ⟨(some 25), none, false, .load 1 false (.t 24), none⟩, .o ⟨(some 26), none, true, .bin .add (.t 25) (.c (.int .i64 1)), none⟩, .o ⟨(some 27), none, false, .nilchk (.t 23), none⟩, .o ⟨none, none, false, .store 1 (.t 27) (.t 26), (some [1, 2])⟩]
abbrev k176_o3 : List AJ := [.o ⟨(some 28), none, false, .mv (.t 2), none⟩, .o ⟨(some 29), none, false, .mv (.t 1), none⟩, .o ⟨(some 10), none, false, .mv (.t 28), none⟩, .o ⟨(some 11), none, false, .mv (.t 29), (some [10, 11])⟩]
def k176_4 : ACode := .seq (.region k176_o3) .ret
def k176_5 : ACode := .seq (.region k176_o2) k176_4
def k176_6 : ACode := .cond (.t 22) k176_5 .skip
def k176_7 : ACode := .seq (.draw k176_o1 [] rfl) k176_6
abbrev k176_o4 : List AJ := [.o ⟨(some 30), none, false, .mv (.t 1), none⟩, .o ⟨(some 31), none, false, .mv (.t 2), none⟩, .o ⟨(some 10), none, false, .mv (.t 30), none⟩, .o ⟨(some 11), none, false, .mv (.t 31), (some [10, 11])⟩]
def k176_9 : ACode := .seq (.region k176_o4) .ret
def k176_10 : ACode := .seq k176_7 k176_9
def k176_11 : ACode := .seq (.region k176_o0) k176_10
@[simp, simp ↓] theorem k176_4r : sR k176_4 k176_o3 .ret := yR rfl
@[simp, simp ↓] theorem k176_5r : sR k176_5 k176_o2 k176_4 := yR rfl
@[simp, simp ↓] theorem k176_6r : rC k176_6 (.t 22) k176_5 .skip := zC rfl
@[simp, simp ↓] theorem k176_7r : sD k176_7 k176_o1 [] k176_6 := yD rfl
@[simp, simp ↓] theorem k176_9r : sR k176_9 k176_o4 .ret := yR rfl
@[simp, simp ↓] theorem k176_10r : rS k176_10 k176_7 k176_9 := zS rfl
@[simp, simp ↓] theorem k176_11r : sR k176_11 k176_o0 k176_10 := yR rfl
noncomputable abbrev k176_C : Orc → Cx := mkC Try.prog [] 176 32 [.tmp 10, .tmp 11]
theorem k176_of0 : OfP0 Try.prog Try.f176 176 32 k176_C k176_11 := @ofP0 _ _ _ _ _ _ _ _ Try.func176 (by decide +kernel) rfl (by kernel_rfl) rfl (by kernel_rfl)
theorem ord2S {id : Nat} {us ex : List AV} {g : FuncId} {H : Heap} {cap : Option Nat} (S : Srt Try.prog id us ex g H) (a b : Nat) (p : AV) (hab : a < b) (hb : b < us.length) : ACalls Try.prog 176 [.sl id 1 0 us.length cap, .int .i64 a, .int .i64 b, p, .fn g []] H (fun v h' => v = .tup [.int .i64 a, .int .i64 b] ∧ h' = H) := by
  have hlen := S.len
  have hat := S.at_
  have ha : a < us.length := by omega
  have g1 := S.get ha
  have g2 := S.get hb
  obtain ⟨c, hc, hcall⟩ := S.cmp _ _ hb ha hab
  have hc' : ¬ c < 0 := by omega
  refine k176_of0 rfl noPure fun I => ?_
  refine Run2.of I 1000 ?_
  have q1 := cells_of (S.cell _ ha)
  have q2 := cells_of (S.cell _ hb)
  simp -implicitDefEqProofs [hat, g1, g2, ha, hb, q1, q2]
  refine dcallK hcall ?_
  simp -implicitDefEqProofs [hc']
abbrev k173_o0 : List AJ := [.o ⟨(some 12), none, false, .mv (.c (.int .i64 0)), (some [0, 1, 2, 3, 4, 5])⟩]
abbrev k173_o1 : List AJ := [.o ⟨(some 14), none, false, .mv (.t 0), none⟩, .o ⟨(some 15), none, false, .mv (.t 1), none⟩, .o ⟨(some 16), none, false, .mv (.t 2), none⟩, .o ⟨(some 17), none, false, .mv (.t 4), none⟩, .o ⟨(some 18), none, false, .mv (.t 5), none⟩, .o ⟨(some 19), none, false, .call 176 [(.t 14), (.t 15), (.t 16), (.t 17), (.t 18)], none⟩, .o ⟨(some 13), none, false, .mv (.t 19), none⟩, .o ⟨(some 20), none, false, .extract (.t 13) 0, none⟩, .o ⟨(some 21), none, false, .extract (.t 13) 1, none⟩, .o ⟨(some 1), none, false, .mv (.t 20), none⟩, .o ⟨(some 2), none, false, .mv (.t 21), (some [0, 1, 2, 3, 4, 5])⟩]
abbrev k173_o2 : List AJ := [.o ⟨(some 23), none, false, .mv (.t 0), none⟩, .o ⟨(some 24), none, false, .mv (.t 2), none⟩, .o ⟨(some 25), none, false, .mv (.t 3), none⟩, .o ⟨(some 26), none, false, .mv (.t 4), none⟩, .o ⟨(some 27), none, false, .mv (.t 5), none⟩, .o ⟨(some 28), none, false, .call 176 [(.t 23), (.t 24), (.t 25), (.t 26), (.t 27)], none⟩, .o ⟨(some 22), none, false, .mv (.t 28), none⟩, .o ⟨(some 29), none, false, .extract (.t 22) 0, none⟩, .o ⟨(some 30), none, false, .extract (.t 22) 1, none⟩, .o ⟨(some 2), none, false, .mv (.t 29), none⟩, .o ⟨(some 3), none, false, .mv (.t 30), (some [0, 1, 2, 4, 5])⟩]
abbrev k173_o3 : List AJ := [.o ⟨(some 32), none, false, .mv (.t 0), none⟩, .o ⟨(some 33), none, false, .mv (.t 1), none⟩, .o ⟨(some 34), none, false, .mv (.t 2), none⟩, .o ⟨(some 35), none, false, .mv (.t 4), none⟩, .o ⟨(some 36), none, false, .mv (.t 5), none⟩, .o ⟨(some 37), none, false, .call 176 [(.t 32), (.t 33), (.t 34), (.t 35), (.t 36)], none⟩, .o ⟨(some 31), none, false, .mv (.t 37), none⟩, .o ⟨(some 38), none, false, .extract (.t 31) 0, none⟩, .o ⟨(some 39), none, false, .extract (.t 31) 1, none⟩, .o ⟨(some 1), none, false, .mv (.t 38), none⟩, .o ⟨(some 2), none, false, .mv (.t 39), (some [2])⟩]
abbrev k173_o4 : List AJ := [.o ⟨(some 40), none, false, .mv (.t 2), none⟩, .o ⟨(some 12), none, false, .mv (.t 40), (some [12])⟩]
def k173_5 : ACode := .seq (.region k173_o4) .ret
def k173_6 : ACode := .seq (.region k173_o3) k173_5
def k173_7 : ACode := .seq (.region k173_o2) k173_6
def k173_8 : ACode := .seq (.region k173_o1) k173_7
def k173_9 : ACode := .seq (.region k173_o0) k173_8
@[simp, simp ↓] theorem k173_5r : sR k173_5 k173_o4 .ret := yR rfl
@[simp, simp ↓] theorem k173_6r : sR k173_6 k173_o3 k173_5 := yR rfl
@[simp, simp ↓] theorem k173_7r : sR k173_7 k173_o2 k173_6 := yR rfl
@[simp, simp ↓] theorem k173_8r : sR k173_8 k173_o1 k173_7 := yR rfl
@[simp, simp ↓] theorem k173_9r : sR k173_9 k173_o0 k173_8 := yR rfl
noncomputable abbrev k173_C : Orc → Cx := mkC Try.prog [] 173 41 [.tmp 12]
theorem k173_of0 : OfP0 Try.prog Try.f173 173 41 k173_C k173_9 := @ofP0 _ _ _ _ _ _ _ _ Try.func173 (by decide +kernel) rfl (by kernel_rfl) rfl (by kernel_rfl)
theorem medS {id : Nat} {us ex : List AV} {g : FuncId} {H : Heap} {cap : Option Nat} (S : Srt Try.prog id us ex g H) (a b c : Nat) (p : AV) (hab : a < b) (hbc : b < c) (hc : c < us.length) : ACalls Try.prog 173 [.sl id 1 0 us.length cap, .int .i64 a, .int .i64 b, .int .i64 c, p, .fn g []] H (fun v h' => v = .int .i64 b ∧ h' = H) := by
  refine k173_of0 rfl noPure fun I => ?_
  refine Run2.of I 1000 ?_
  simp -implicitDefEqProofs
  refine (ord2S S a b p hab (by omega)).mono ?_
  rintro v h' ⟨rfl, rfl⟩
  refine gK.go ?_
  simp -implicitDefEqProofs
  refine (ord2S S b c p hbc hc).mono ?_
  rintro v h' ⟨rfl, rfl⟩
  refine gK.go ?_
  simp -implicitDefEqProofs
  refine (ord2S S a b p hab (by omega)).mono ?_
  rintro v h' ⟨rfl, rfl⟩
  refine gK.go ?_
  simp -implicitDefEqProofs
abbrev k159_o0 : List AJ := [.o ⟨(some 8), none, false, .mv (.c (.int .i64 0)), none⟩, .o ⟨(some 9), none, false, .mv (.c (.int .i64 0)), (some [0, 1, 2, 3])⟩]
abbrev k159_o1 : List AJ := [.o ⟨(some 15), none, false, .mv (.t 2), none⟩, .o ⟨(some 16), none, false, .mv (.t 1), none⟩, .o ⟨(some 17), none, true, .bin .sub (.t 15) (.t 16), none⟩, .o ⟨(some 10), none, false, .mv (.t 17), (some [0, 1, 3, 10])⟩]
abbrev k159_o2 : List AJ := [.o ⟨(some 11), none, false, .alloc false 1 (.int .i64 0), (some [0, 1, 3, 10, 11])⟩]
abbrev k159_o3 : List AJ := [.o ⟨(some 18), none, false, .mv (.t 1), none⟩, .o ⟨(some 19), none, false, .mv (.t 10), none⟩, .o ⟨(some 20), none, true, .bin .quo (.t 19) (.c (.int .i64 4)), none⟩, .o ⟨(some 21), none, true, .bin .mul (.t 20) (.c (.int .i64 1)), none⟩, .o ⟨(some 22), none, true, .bin .add (.t 18) (.t 21), none⟩, .o ⟨(some 12), none, false, .mv (.t 22), (some [0, 1, 3, 10, 11, 12])⟩]
abbrev k159_o4 : List AJ := [.o ⟨(some 23), none, false, .mv (.t 1), none⟩, .o ⟨(some 24), none, false, .mv (.t 10), none⟩, .o ⟨(some 25), none, true, .bin .quo (.t 24) (.c (.int .i64 4)), none⟩, .o ⟨(some 26), none, true, .bin .mul (.t 25) (.c (.int .i64 2)), none⟩, .o ⟨(some 27), none, true, .bin .add (.t 23) (.t 26), none⟩, .o ⟨(some 13), none, false, .mv (.t 27), (some [0, 1, 3, 10, 11, 12, 13])⟩]
abbrev k159_o5 : List AJ := [.o ⟨(some 28), none, false, .mv (.t 1), none⟩, .o ⟨(some 29), none, false, .mv (.t 10), none⟩, .o ⟨(some 30), none, true, .bin .quo (.t 29) (.c (.int .i64 4)), none⟩, .o ⟨(some 31), none, true, .bin .mul (.t 30) (.c (.int .i64 3)), none⟩, .o ⟨(some 32), none, true, .bin .add (.t 28) (.t 31), none⟩, .o ⟨(some 14), none, false, .mv (.t 32), (some [0, 3, 10, 11, 12, 13, 14])⟩]
abbrev k159_o6 : List AJ := [.o ⟨(some 33), none, false, .mv (.t 10), none⟩, .o ⟨(some 34), none, false, .bin .geq (.t 33) (.c (.int .i64 8)), (some [0, 3, 10, 11, 12, 13, 14, 34])⟩]
abbrev k159_o7 : List AJ := [.o ⟨(some 35), none, false, .mv (.t 10), none⟩, .o ⟨(some 36), none, false, .bin .geq (.t 35) (.c (.int .i64 50)), (some [0, 3, 11, 12, 13, 14, 36])⟩]
abbrev k159_o8 : List AJ := [.o ⟨(some 37), none, false, .mv (.t 0), none⟩, .o ⟨(some 38), none, false, .mv (.t 12), none⟩, .o ⟨(some 39), none, false, .mv (.t 3), none⟩, .o ⟨(some 40), none, false, .call 172 [(.t 37), (.t 38), (.t 11), (.t 39)], none⟩, .o ⟨(some 12), none, false, .mv (.t 40), (some [0, 3, 11, 12, 13, 14])⟩]
abbrev k159_o9 : List AJ := [.o ⟨(some 41), none, false, .mv (.t 0), none⟩, .o ⟨(some 42), none, false, .mv (.t 13), none⟩, .o ⟨(some 43), none, false, .mv (.t 3), none⟩, .o ⟨(some 44), none, false, .call 172 [(.t 41), (.t 42), (.t 11), (.t 43)], none⟩, .o ⟨(some 13), none, false, .mv (.t 44), (some [0, 3, 11, 12, 13, 14])⟩]
abbrev k159_o10 : List AJ := [.o ⟨(some 45), none, false, .mv (.t 0), none⟩, .o ⟨(some 46), none, false, .mv (.t 14), none⟩, .o ⟨(some 47), none, false, .mv (.t 3), none⟩, .o ⟨(some 48), none, false, .call 172 [(.t 45), (.t 46), (.t 11), (.t 47)], none⟩, .o ⟨(some 14), none, false, .mv (.t 48), (some [0, 3, 11, 12, 13, 14])⟩]
def k159_10 : ACode := .region k159_o10
def k159_11 : ACode := .seq (.region k159_o9) k159_10
def k159_12 : ACode := .seq (.region k159_o8) k159_11
def k159_13 : ACode := .cond (.t 36) k159_12 .skip
def k159_14 : ACode := .seq (.region k159_o7) k159_13
abbrev k159_o11 : List AJ := [.o ⟨(some 49), none, false, .mv (.t 0), none⟩, .o ⟨(some 50), none, false, .mv (.t 12), none⟩, .o ⟨(some 51), none, false, .mv (.t 13), none⟩, .o ⟨(some 52), none, false, .mv (.t 14), none⟩, .o ⟨(some 53), none, false, .mv (.t 3), none⟩, .o ⟨(some 54), none, false, .call 173 [(.t 49), (.t 50), (.t 51), (.t 52), (.t 11), (.t 53)], none⟩, .o ⟨(some 13), none, false, .mv (.t 54), (some [11, 13])⟩]
def k159_15 : ACode := .region k159_o11
def k159_16 : ACode := .seq k159_14 k159_15
def k159_17 : ACode := .cond (.t 34) k159_16 .skip
def k159_18 : ACode := .seq (.region k159_o6) k159_17
abbrev k159_o12 : List AJ := [.o ⟨(some 55), none, false, .load 1 false (.t 11), (some [13, 55])⟩]
abbrev k159_o13 : List AJ := [.o ⟨(some 58), none, false, .bin .eql (.t 55) (.c (.int .i64 0)), none⟩, .o ⟨(some 57), none, false, .mv (.t 58), (some [13, 55, 57])⟩]
abbrev k159_o14 : List AJ := [.o ⟨(some 59), none, false, .mv (.t 13), none⟩, .o ⟨(some 8), none, false, .mv (.t 59), none⟩, .o ⟨(some 9), none, false, .mv (.c (.int .i64 1)), (some [8, 9])⟩]
def k159_22 : ACode := .seq (.region k159_o14) .ret
abbrev k159_o15 : List AJ := [.o ⟨(some 61), none, false, .bin .eql (.t 55) (.c (.int .i64 12)), none⟩, .o ⟨(some 60), none, false, .mv (.t 61), (some [13, 60])⟩]
abbrev k159_o16 : List AJ := [.o ⟨(some 62), none, false, .mv (.t 13), none⟩, .o ⟨(some 8), none, false, .mv (.t 62), none⟩, .o ⟨(some 9), none, false, .mv (.c (.int .i64 2)), (some [8, 9])⟩]
def k159_25 : ACode := .seq (.region k159_o16) .ret
abbrev k159_o17 : List AJ := [.o ⟨(some 56), none, false, .mv (.t 13), none⟩, .o ⟨(some 8), none, false, .mv (.t 56), none⟩, .o ⟨(some 9), none, false, .mv (.c (.int .i64 0)), (some [8, 9])⟩]
def k159_27 : ACode := .seq (.region k159_o17) .ret
def k159_28 : ACode := .cond (.t 60) k159_25 k159_27
def k159_29 : ACode := .seq (.region k159_o15) k159_28
def k159_30 : ACode := .cond (.t 57) k159_22 k159_29
def k159_31 : ACode := .seq (.region k159_o13) k159_30
def k159_32 : ACode := .block 0 k159_31
def k159_33 : ACode := .seq (.region k159_o12) k159_32
def k159_34 : ACode := .seq k159_18 k159_33
def k159_35 : ACode := .seq (.region k159_o5) k159_34
def k159_36 : ACode := .seq (.region k159_o4) k159_35
def k159_37 : ACode := .seq (.region k159_o3) k159_36
def k159_38 : ACode := .seq (.region k159_o2) k159_37
def k159_39 : ACode := .seq (.region k159_o1) k159_38
def k159_40 : ACode := .seq (.region k159_o0) k159_39
@[simp, simp ↓] theorem k159_10r : rR k159_10 k159_o10 := zR rfl
@[simp, simp ↓] theorem k159_11r : sR k159_11 k159_o9 k159_10 := yR rfl
@[simp, simp ↓] theorem k159_12r : sR k159_12 k159_o8 k159_11 := yR rfl
@[simp, simp ↓] theorem k159_13r : rC k159_13 (.t 36) k159_12 .skip := zC rfl
@[simp, simp ↓] theorem k159_14r : sR k159_14 k159_o7 k159_13 := yR rfl
@[simp, simp ↓] theorem k159_15r : rR k159_15 k159_o11 := zR rfl
@[simp, simp ↓] theorem k159_16r : rS k159_16 k159_14 k159_15 := zS rfl
@[simp, simp ↓] theorem k159_17r : rC k159_17 (.t 34) k159_16 .skip := zC rfl
@[simp, simp ↓] theorem k159_18r : sR k159_18 k159_o6 k159_17 := yR rfl
@[simp, simp ↓] theorem k159_22r : sR k159_22 k159_o14 .ret := yR rfl
@[simp, simp ↓] theorem k159_25r : sR k159_25 k159_o16 .ret := yR rfl
@[simp, simp ↓] theorem k159_27r : sR k159_27 k159_o17 .ret := yR rfl
@[simp, simp ↓] theorem k159_28r : rC k159_28 (.t 60) k159_25 k159_27 := zC rfl
@[simp, simp ↓] theorem k159_29r : sR k159_29 k159_o15 k159_28 := yR rfl
@[simp, simp ↓] theorem k159_30r : rC k159_30 (.t 57) k159_22 k159_29 := zC rfl
@[simp, simp ↓] theorem k159_31r : sR k159_31 k159_o13 k159_30 := yR rfl
@[simp, simp ↓] theorem k159_32r : rB k159_32 0 k159_31 := zB rfl
@[simp, simp ↓] theorem k159_33r : sR k159_33 k159_o12 k159_32 := yR rfl
@[simp, simp ↓] theorem k159_34r : rS k159_34 k159_18 k159_33 := zS rfl
@[simp, simp ↓] theorem k159_35r : sR k159_35 k159_o5 k159_34 := yR rfl
@[simp, simp ↓] theorem k159_36r : sR k159_36 k159_o4 k159_35 := yR rfl
@[simp, simp ↓] theorem k159_37r : sR k159_37 k159_o3 k159_36 := yR rfl
@[simp, simp ↓] theorem k159_38r : sR k159_38 k159_o2 k159_37 := yR rfl
@[simp, simp ↓] theorem k159_39r : sR k159_39 k159_o1 k159_38 := yR rfl
@[simp, simp ↓] theorem k159_40r : sR k159_40 k159_o0 k159_39 := yR rfl
noncomputable abbrev k159_C : Orc → Cx := mkC Try.prog [] 159 63 [.tmp 8, .tmp 9]
theorem k159_of0 : OfP0 Try.prog Try.f159 159 63 k159_C k159_40 := @ofP0 _ _ _ _ _ _ _ _ Try.func159 (by decide +kernel) rfl (by kernel_rfl) rfl (by kernel_rfl)
theorem pivS {id : Nat} {us ex : List AV} {g : FuncId} {H : Heap} {cap : Option Nat} (S : Srt Try.prog id us ex g H) (h12 : 12 < us.length) : ACalls Try.prog 159 [.sl id 1 0 us.length cap, .int .i64 0, .int .i64 us.length, .fn g []] H (fun v h' => ∃ j : Int, v = .tup [.int .i64 j, .int .i64 1] ∧ h' = H) := by
  have hlen := S.len
  refine k159_of0 rfl noPure fun I => ?_
  have e : ((us.length : Int)).tdiv 4 = ((us.length / 4 : Nat) : Int) := rfl
  have h8 : (8 : Int) ≤ us.length := by omega
  have h50 : ¬ (50 : Int) ≤ us.length := by omega
  refine Run2.of I 1000 ?_
  simp -implicitDefEqProofs [e, h8, h50]
  refine ⟨by omega, by omega, by omega, by omega, by omega, ?_⟩
  have hm := medS (cap := cap) S (us.length / 4) (us.length / 4 * 2) (us.length / 4 * 3) (.ip [.int .i64 0]) (by omega) (by omega) (by omega)
  refine ACalls.mono (by simpa using hm) ?_
  rintro v h' ⟨rfl, rfl⟩
  refine gK.go ?_
  simp -implicitDefEqProofs
abbrev k161_o0 : List AJ := [.o ⟨(some 8), none, false, .mv (.c (.bool false)), (some [0, 1, 2, 3])⟩]
abbrev k161_o1 : List AJ := [.o ⟨(some 13), none, false, .mv (.t 1), none⟩, .o ⟨(some 14), none, true, .bin .add (.t 13) (.c (.int .i64 1)), none⟩, .o ⟨(some 9), none, false, .mv (.t 14), (some [0, 1, 2, 3, 9])⟩]
abbrev k161_o2 : List AJ := [.o ⟨(some 10), none, false, .mv (.c (.int .i64 0)), (some [0, 1, 2, 3, 9, 10])⟩]
abbrev k161_o3 : List AJ := [.o ⟨(some 15), none, false, .mv (.t 10), none⟩, .o ⟨(some 16), none, false, .bin .lss (.t 15) (.c (.int .i64 5)), (some [0, 1, 2, 3, 9, 10, 16])⟩]
def k161_4 : ACode := .cond (.t 16) .skip (.exit 0)
def k161_5 : ACode := .seq (.region k161_o3) k161_4
abbrev k161_o4 : List AI := [⟨(some 19), none, false, .mv (.t 9), none⟩, ⟨(some 20), none, false, .mv (.t 2), none⟩, ⟨(some 21), none, false, .bin .lss (.t 19) (.t 20), none⟩, ⟨(some 22), none, false, .mv (.t 21), none⟩, ⟨(some 23), (some (22, true)), false, .mv (.t 3), none⟩, ⟨(some 24), (some (22, true)), false, .mv (.t 0), none⟩, ⟨(some 25), (some (22, true)), false, .mv (.t 9), none⟩, ⟨(some 26), (some (22, true)), false, .idxA 1 (.t 24) (.t 25), none⟩, ⟨(some 27), (some (22, true)), false, .load 1 false (.t 26), (some [0, 1, 2, 3, 9, 10, 22, 23, 27])⟩, ⟨(some 28), (some (22, true)), false, .mv (.t 0), none⟩, ⟨(some 29), (some (22, true)), false, .mv (.t 9), none⟩, ⟨(some 30), (some (22, true)), true, .bin .sub (.t 29) (.c (.int .i64 1)), none⟩, ⟨(some 31), (some (22, true)), false, .idxA 1 (.t 28) (.t 30), none⟩, ⟨(some 32), (some (22, true)), false, .load 1 false (.t 31), none⟩, ⟨(some 33), (some (22, true)), false, .callv (.t 23) [(.t 27), (.t 32)], none⟩, ⟨(some 34), (some (22, true)), false, .bin .lss (.t 33) (.c (.int .i64 0)), (some [0, 1, 2, 3, 9, 10, 22, 34])⟩, ⟨(some 35), (some (22, true)), false, .un .not (.t 34), none⟩, ⟨(some 36), none, false, .pick (.t 22) (.t 35) (.c (.bool false)), (some [0, 1, 2, 3, 9, 10, 36])⟩]
def k161_7 : ACode := .cond (.t 36) .skip (.exit 2)
def k161_8 : ACode := .seq (.draw k161_o4 [] rfl) k161_7
abbrev k161_o5 : List AJ := [.o ⟨(some 37), none, false, .mv (.t 9), none⟩, .o ⟨(some 38), none, true, .bin .add (.t 37) (.c (.int .i64 1)), none⟩, .o ⟨(some 9), none, false, .mv (.t 38), (some [0, 1, 2, 3, 9, 10])⟩]
def k161_9 : ACode := .region k161_o5
def k161_10 : ACode := .block 3 k161_9
def k161_11 : ACode := .seq k161_8 k161_10
def k161_12 : ACode := .loop k161_11
abbrev k161_o6 : List AJ := [.o ⟨(some 39), none, false, .mv (.t 9), none⟩, .o ⟨(some 40), none, false, .mv (.t 2), none⟩, .o ⟨(some 41), none, false, .bin .eql (.t 39) (.t 40), (some [0, 1, 2, 3, 9, 10, 41])⟩]
abbrev k161_o7 : List AJ := [.o ⟨(some 8), none, false, .mv (.c (.bool true)), (some [8])⟩]
def k161_16 : ACode := .seq (.region k161_o7) .ret
def k161_17 : ACode := .cond (.t 41) k161_16 .skip
def k161_18 : ACode := .seq (.region k161_o6) k161_17
abbrev k161_o8 : List AJ := [.o ⟨(some 42), none, false, .mv (.t 2), none⟩, .o ⟨(some 43), none, false, .mv (.t 1), none⟩, .o ⟨(some 44), none, true, .bin .sub (.t 42) (.t 43), none⟩, .o ⟨(some 45), none, false, .bin .lss (.t 44) (.c (.int .i64 50)), (some [0, 1, 2, 3, 9, 10, 45])⟩]
abbrev k161_o9 : List AJ := [.o ⟨(some 8), none, false, .mv (.c (.bool false)), (some [8])⟩]
def k161_21 : ACode := .seq (.region k161_o9) .ret
def k161_22 : ACode := .cond (.t 45) k161_21 .skip
def k161_23 : ACode := .seq (.region k161_o8) k161_22
abbrev k161_o10 : List AJ := [.o ⟨(some 46), none, false, .mv (.t 0), none⟩, .o ⟨(some 47), none, false, .mv (.t 9), none⟩, .o ⟨(some 48), none, false, .mv (.t 0), none⟩, .o ⟨(some 49), none, false, .mv (.t 9), none⟩, .o ⟨(some 50), none, true, .bin .sub (.t 49) (.c (.int .i64 1)), none⟩, .o ⟨(some 51), none, false, .mv (.t 0), none⟩, .o ⟨(some 52), none, false, .mv (.t 9), none⟩, .o ⟨(some 53), none, true, .bin .sub (.t 52) (.c (.int .i64 1)), none⟩, .o ⟨(some 54), none, false, .idxA 1 (.t 51) (.t 53), none⟩, .o ⟨(some 55), none, false, .load 1 false (.t 54), none⟩, .o ⟨(some 56), none, false, .mv (.t 0), none⟩, .o ⟨(some 57), none, false, .mv (.t 9), none⟩, .o ⟨(some 58), none, false, .idxA 1 (.t 56) (.t 57), none⟩, .o ⟨(some 59), none, false, .load 1 false (.t 58), (some [0, 1, 2, 3, 9, 10, 46, 47, 48, 50, 55, 59])⟩, .o ⟨(some 60), none, false, .idxA 1 (.t 46) (.t 47), none⟩, .o ⟨none, none, false, .store 1 (.t 60) (.t 55), none⟩, .o ⟨(some 61), none, false, .idxA 1 (.t 48) (.t 50), none⟩, .o ⟨none, none, false, .store 1 (.t 61) (.t 59), (some [0, 1, 2, 3, 9, 10])⟩]
abbrev k161_o11 : List AJ := [.o ⟨(some 62), none, false, .mv (.t 9), none⟩, .o ⟨(some 63), none, false, .mv (.t 1), none⟩, .o ⟨(some 64), none, true, .bin .sub (.t 62) (.t 63), none⟩, .o ⟨(some 65), none, false, .bin .geq (.t 64) (.c (.int .i64 2)), (some [0, 1, 2, 3, 9, 10, 65])⟩]
abbrev k161_o12 : List AJ := [.o ⟨(some 66), none, false, .mv (.t 9), none⟩, .o ⟨(some 67), none, true, .bin .sub (.t 66) (.c (.int .i64 1)), none⟩, .o ⟨(some 11), none, false, .mv (.t 67), (some [0, 1, 2, 3, 9, 10, 11])⟩]
abbrev k161_o13 : List AJ := [.o ⟨(some 68), none, false, .mv (.t 11), none⟩, .o ⟨(some 69), none, false, .bin .geq (.t 68) (.c (.int .i64 1)), (some [0, 1, 2, 3, 9, 10, 11, 69])⟩]
def k161_28 : ACode := .cond (.t 69) .skip (.exit 4)
def k161_29 : ACode := .seq (.region k161_o13) k161_28
abbrev k161_o14 : List AI := [⟨(some 72), none, false, .mv (.t 3), none⟩, ⟨(some 73), none, false, .mv (.t 0), none⟩, ⟨(some 74), none, false, .mv (.t 11), none⟩, ⟨(some 75), none, false, .idxA 1 (.t 73) (.t 74), none⟩, ⟨(some 76), none, false, .load 1 false (.t 75), none⟩, ⟨(some 77), none, false, .mv (.t 0), none⟩, ⟨(some 78), none, false, .mv (.t 11), none⟩, ⟨(some 79), none, true, .bin .sub (.t 78) (.c (.int .i64 1)), none⟩, ⟨(some 80), none, false, .idxA 1 (.t 77) (.t 79), none⟩, ⟨(some 81), none, false, .load 1 false (.t 80), none⟩, ⟨(some 82), none, false, .callv (.t 72) [(.t 76), (.t 81)], none⟩, ⟨(some 83), none, false, .bin .lss (.t 82) (.c (.int .i64 0)), none⟩, ⟨(some 84), none, false, .un .not (.t 83), (some [0, 1, 2, 3, 9, 10, 11, 84])⟩]
def k161_31 : ACode := .cond (.t 84) (.exit 4) .skip
def k161_32 : ACode := .seq (.draw k161_o14 [] rfl) k161_31
abbrev k161_o15 : List AJ := [.o ⟨(some 85), none, false, .mv (.t 0), none⟩, .o ⟨(some 86), none, false, .mv (.t 11), none⟩, .o ⟨(some 87), none, false, .mv (.t 0), none⟩, .o ⟨(some 88), none, false, .mv (.t 11), none⟩, .o ⟨(some 89), none, true, .bin .sub (.t 88) (.c (.int .i64 1)), none⟩, .o ⟨(some 90), none, false, .mv (.t 0), none⟩, .o ⟨(some 91), none, false, .mv (.t 11), none⟩, .o ⟨(some 92), none, true, .bin .sub (.t 91) (.c (.int .i64 1)), none⟩, .o ⟨(some 93), none, false, .idxA 1 (.t 90) (.t 92), none⟩, .o ⟨(some 94), none, false, .load 1 false (.t 93), none⟩, .o ⟨(some 95), none, false, .mv (.t 0), none⟩, .o ⟨(some 96), none, false, .mv (.t 11), none⟩, .o ⟨(some 97), none, false, .idxA 1 (.t 95) (.t 96), none⟩, .o ⟨(some 98), none, false, .load 1 false (.t 97), (some [0, 1, 2, 3, 9, 10, 11, 85, 86, 87, 89, 94, 98])⟩, .o ⟨(some 99), none, false, .idxA 1 (.t 85) (.t 86), none⟩, .o ⟨none, none, false, .store 1 (.t 99) (.t 94), none⟩, .o ⟨(some 100), none, false, .idxA 1 (.t 87) (.t 89), none⟩, .o ⟨none, none, false, .store 1 (.t 100) (.t 98), (some [0, 1, 2, 3, 9, 10, 11])⟩]
def k161_33 : ACode := .drawT 0 k161_o15 rfl
def k161_34 : ACode := .seq k161_32 k161_33
abbrev k161_o16 : List AJ := [.o ⟨(some 70), none, false, .mv (.t 11), none⟩, .o ⟨(some 71), none, true, .bin .sub (.t 70) (.c (.int .i64 1)), none⟩, .o ⟨(some 11), none, false, .mv (.t 71), (some [0, 1, 2, 3, 9, 10, 11])⟩]
def k161_36 : ACode := .region k161_o16
def k161_37 : ACode := .seq (.block 5 k161_34) k161_36
def k161_38 : ACode := .seq k161_29 k161_37
def k161_39 : ACode := .loop k161_38
def k161_40 : ACode := .block 4 k161_39
def k161_41 : ACode := .seq (.region k161_o12) k161_40
def k161_42 : ACode := .cond (.t 65) k161_41 .skip
def k161_43 : ACode := .seq (.region k161_o11) k161_42
abbrev k161_o17 : List AJ := [.o ⟨(some 101), none, false, .mv (.t 2), none⟩, .o ⟨(some 102), none, false, .mv (.t 9), none⟩, .o ⟨(some 103), none, true, .bin .sub (.t 101) (.t 102), none⟩, .o ⟨(some 104), none, false, .bin .geq (.t 103) (.c (.int .i64 2)), (some [0, 1, 2, 3, 9, 10, 104])⟩]
abbrev k161_o18 : List AJ := [.o ⟨(some 105), none, false, .mv (.t 9), none⟩, .o ⟨(some 106), none, true, .bin .add (.t 105) (.c (.int .i64 1)), none⟩, .o ⟨(some 12), none, false, .mv (.t 106), (some [0, 1, 2, 3, 9, 10, 12])⟩]
abbrev k161_o19 : List AJ := [.o ⟨(some 107), none, false, .mv (.t 12), none⟩, .o ⟨(some 108), none, false, .mv (.t 2), none⟩, .o ⟨(some 109), none, false, .bin .lss (.t 107) (.t 108), (some [0, 1, 2, 3, 9, 10, 12, 109])⟩]
def k161_47 : ACode := .cond (.t 109) .skip (.exit 6)
def k161_48 : ACode := .seq (.region k161_o19) k161_47
abbrev k161_o20 : List AI := [⟨(some 112), none, false, .mv (.t 3), none⟩, ⟨(some 113), none, false, .mv (.t 0), none⟩, ⟨(some 114), none, false, .mv (.t 12), none⟩, ⟨(some 115), none, false, .idxA 1 (.t 113) (.t 114), none⟩, ⟨(some 116), none, false, .load 1 false (.t 115), none⟩, ⟨(some 117), none, false, .mv (.t 0), none⟩, ⟨(some 118), none, false, .mv (.t 12), none⟩, ⟨(some 119), none, true, .bin .sub (.t 118) (.c (.int .i64 1)), none⟩, ⟨(some 120), none, false, .idxA 1 (.t 117) (.t 119), none⟩, ⟨(some 121), none, false, .load 1 false (.t 120), none⟩, ⟨(some 122), none, false, .callv (.t 112) [(.t 116), (.t 121)], none⟩, ⟨(some 123), none, false, .bin .lss (.t 122) (.c (.int .i64 0)), none⟩, ⟨(some 124), none, false, .un .not (.t 123), (some [0, 1, 2, 3, 9, 10, 12, 124])⟩]
def k161_50 : ACode := .cond (.t 124) (.exit 6) .skip
def k161_51 : ACode := .seq (.draw k161_o20 [] rfl) k161_50
abbrev k161_o21 : List AJ := [.o ⟨(some 125), none, false, .mv (.t 0), none⟩, .o ⟨(some 126), none, false, .mv (.t 12), none⟩, .o ⟨(some 127), none, false, .mv (.t 0), none⟩, .o ⟨(some 128), none, false, .mv (.t 12), none⟩, .o ⟨(some 129), none, true, .bin .sub (.t 128) (.c (.int .i64 1)), none⟩, .o ⟨(some 130), none, false, .mv (.t 0), none⟩, .o ⟨(some 131), none, false, .mv (.t 12), none⟩, .o ⟨(some 132), none, true, .bin .sub (.t 131) (.c (.int .i64 1)), none⟩, .o ⟨(some 133), none, false, .idxA 1 (.t 130) (.t 132), none⟩, .o ⟨(some 134), none, false, .load 1 false (.t 133), none⟩, .o ⟨(some 135), none, false, .mv (.t 0), none⟩, .o ⟨(some 136), none, false, .mv (.t 12), none⟩, .o ⟨(some 137), none, false, .idxA 1 (.t 135) (.t 136), none⟩, .o ⟨(some 138), none, false, .load 1 false (.t 137), (some [0, 1, 2, 3, 9, 10, 12, 125, 126, 127, 129, 134, 138])⟩, .o ⟨(some 139), none, false, .idxA 1 (.t 125) (.t 126), none⟩, .o ⟨none, none, false, .store 1 (.t 139) (.t 134), none⟩, .o ⟨(some 140), none, false, .idxA 1 (.t 127) (.t 129), none⟩, .o ⟨none, none, false, .store 1 (.t 140) (.t 138), (some [0, 1, 2, 3, 9, 10, 12])⟩]
def k161_52 : ACode := .drawT 0 k161_o21 rfl
def k161_53 : ACode := .seq k161_51 k161_52
abbrev k161_o22 : List AJ := [.o ⟨(some 110), none, false, .mv (.t 12), none⟩, .o ⟨(some 111), none, true, .bin .add (.t 110) (.c (.int .i64 1)), none⟩, .o ⟨(some 12), none, false, .mv (.t 111), (some [0, 1, 2, 3, 9, 10, 12])⟩]
def k161_55 : ACode := .region k161_o22
def k161_56 : ACode := .seq (.block 7 k161_53) k161_55
def k161_57 : ACode := .seq k161_48 k161_56
def k161_58 : ACode := .loop k161_57
def k161_59 : ACode := .block 6 k161_58
def k161_60 : ACode := .seq (.region k161_o18) k161_59
def k161_61 : ACode := .cond (.t 104) k161_60 .skip
def k161_62 : ACode := .seq (.region k161_o17) k161_61
def k161_63 : ACode := .seq k161_43 k161_62
def k161_64 : ACode := .seq (.drawT 0 k161_o10 rfl) k161_63
def k161_65 : ACode := .seq k161_23 k161_64
def k161_66 : ACode := .seq k161_18 k161_65
def k161_67 : ACode := .seq (.block 2 k161_12) k161_66
abbrev k161_o23 : List AJ := [.o ⟨(some 17), none, false, .mv (.t 10), none⟩, .o ⟨(some 18), none, true, .bin .add (.t 17) (.c (.int .i64 1)), none⟩, .o ⟨(some 10), none, false, .mv (.t 18), (some [0, 1, 2, 3, 9, 10])⟩]
def k161_69 : ACode := .region k161_o23
def k161_70 : ACode := .seq (.block 1 k161_67) k161_69
def k161_71 : ACode := .seq k161_5 k161_70
def k161_72 : ACode := .loop k161_71
def k161_73 : ACode := .block 0 k161_72
def k161_74 : ACode := .seq (.region k161_o2) k161_73
abbrev k161_o24 : List AJ := [.o ⟨(some 8), none, false, .mv (.c (.bool false)), (some [8])⟩]
def k161_76 : ACode := .seq (.region k161_o24) .ret
def k161_77 : ACode := .seq k161_74 k161_76
def k161_78 : ACode := .seq (.region k161_o1) k161_77
def k161_79 : ACode := .seq (.region k161_o0) k161_78
@[simp, simp ↓] theorem k161_4r : rC k161_4 (.t 16) .skip (.exit 0) := zC rfl
@[simp, simp ↓] theorem k161_5r : sR k161_5 k161_o3 k161_4 := yR rfl
@[simp, simp ↓] theorem k161_7r : rC k161_7 (.t 36) .skip (.exit 2) := zC rfl
@[simp, simp ↓] theorem k161_8r : sD k161_8 k161_o4 [] k161_7 := yD rfl
@[simp, simp ↓] theorem k161_9r : rR k161_9 k161_o5 := zR rfl
@[simp, simp ↓] theorem k161_10r : rB k161_10 3 k161_9 := zB rfl
@[simp, simp ↓] theorem k161_11r : rS k161_11 k161_8 k161_10 := zS rfl
@[simp, simp ↓] theorem k161_12r : rL k161_12 k161_11 := zL rfl
@[simp, simp ↓] theorem k161_16r : sR k161_16 k161_o7 .ret := yR rfl
@[simp, simp ↓] theorem k161_17r : rC k161_17 (.t 41) k161_16 .skip := zC rfl
@[simp, simp ↓] theorem k161_18r : sR k161_18 k161_o6 k161_17 := yR rfl
@[simp, simp ↓] theorem k161_21r : sR k161_21 k161_o9 .ret := yR rfl
@[simp, simp ↓] theorem k161_22r : rC k161_22 (.t 45) k161_21 .skip := zC rfl
@[simp, simp ↓] theorem k161_23r : sR k161_23 k161_o8 k161_22 := yR rfl
@[simp, simp ↓] theorem k161_28r : rC k161_28 (.t 69) .skip (.exit 4) := zC rfl
@[simp, simp ↓] theorem k161_29r : sR k161_29 k161_o13 k161_28 := yR rfl
@[simp, simp ↓] theorem k161_31r : rC k161_31 (.t 84) (.exit 4) .skip := zC rfl
@[simp, simp ↓] theorem k161_32r : sD k161_32 k161_o14 [] k161_31 := yD rfl
@[simp, simp ↓] theorem k161_33r : rT k161_33 k161_o15 := zT rfl
@[simp, simp ↓] theorem k161_34r : rS k161_34 k161_32 k161_33 := zS rfl
@[simp, simp ↓] theorem k161_36r : rR k161_36 k161_o16 := zR rfl
@[simp, simp ↓] theorem k161_37r : sB k161_37 5 k161_34 k161_36 := yB rfl
@[simp, simp ↓] theorem k161_38r : rS k161_38 k161_29 k161_37 := zS rfl
@[simp, simp ↓] theorem k161_39r : rL k161_39 k161_38 := zL rfl
@[simp, simp ↓] theorem k161_40r : rB k161_40 4 k161_39 := zB rfl
@[simp, simp ↓] theorem k161_41r : sR k161_41 k161_o12 k161_40 := yR rfl
@[simp, simp ↓] theorem k161_42r : rC k161_42 (.t 65) k161_41 .skip := zC rfl
@[simp, simp ↓] theorem k161_43r : sR k161_43 k161_o11 k161_42 := yR rfl
@[simp, simp ↓] theorem k161_47r : rC k161_47 (.t 109) .skip (.exit 6) := zC rfl
@[simp, simp ↓] theorem k161_48r : sR k161_48 k161_o19 k161_47 := yR rfl
@[simp, simp ↓] theorem k161_50r : rC k161_50 (.t 124) (.exit 6) .skip := zC rfl
@[simp, simp ↓] theorem k161_51r : sD k161_51 k161_o20 [] k161_50 := yD rfl
@[simp, simp ↓] theorem k161_52r : rT k161_52 k161_o21 := zT rfl
@[simp, simp ↓] theorem k161_53r : rS k161_53 k161_51 k161_52 := zS rfl
@[simp, simp ↓] theorem k161_55r : rR k161_55 k161_o22 := zR rfl
@[simp, simp ↓] theorem k161_56r : sB k161_56 7 k161_53 k161_55 := yB rfl
@[simp, simp ↓] theorem k161_57r : rS k161_57 k161_48 k161_56 := zS rfl
@[simp, simp ↓] theorem k161_58r : rL k161_58 k161_57 := zL rfl
@[simp, simp ↓] theorem k161_59r : rB k161_59 6 k161_58 := zB rfl
@[simp, simp ↓] theorem k161_60r : sR k161_60 k161_o18 k161_59 := yR rfl
@[simp, simp ↓] theorem k161_61r : rC k161_61 (.t 104) k161_60 .skip := zC rfl
@[simp, simp ↓] theorem k161_62r : sR k161_62 k161_o17 k161_61 := yR rfl
@[simp, simp ↓] theorem k161_63r : rS k161_63 k161_43 k161_62 := zS rfl
@[simp, simp ↓] theorem k161_64r : sT k161_64 k161_o10 k161_63 := yT rfl
@[simp, simp ↓] theorem k161_65r : rS k161_65 k161_23 k161_64 := zS rfl
@[simp, simp ↓] theorem k161_66r : rS k161_66 k161_18 k161_65 := zS rfl
@[simp, simp ↓] theorem k161_67r : sB k161_67 2 k161_12 k161_66 := yB rfl
@[simp, simp ↓] theorem k161_69r : rR k161_69 k161_o23 := zR rfl
@[simp, simp ↓] theorem k161_70r : sB k161_70 1 k161_67 k161_69 := yB rfl
@[simp, simp ↓] theorem k161_71r : rS k161_71 k161_5 k161_70 := zS rfl
@[simp, simp ↓] theorem k161_72r : rL k161_72 k161_71 := zL rfl
@[simp, simp ↓] theorem k161_73r : rB k161_73 0 k161_72 := zB rfl
@[simp, simp ↓] theorem k161_74r : sR k161_74 k161_o2 k161_73 := yR rfl
@[simp, simp ↓] theorem k161_76r : sR k161_76 k161_o24 .ret := yR rfl
@[simp, simp ↓] theorem k161_77r : rS k161_77 k161_74 k161_76 := zS rfl
@[simp, simp ↓] theorem k161_78r : sR k161_78 k161_o1 k161_77 := yR rfl
@[simp, simp ↓] theorem k161_79r : sR k161_79 k161_o0 k161_78 := yR rfl
noncomputable abbrev k161_C : Orc → Cx := mkC Try.prog [] 161 141 [.tmp 8]
theorem k161_of0 : OfP0 Try.prog Try.f161 161 141 k161_C k161_79 := @ofP0 _ _ _ _ _ _ _ _ Try.func161 (by decide +kernel) rfl (by kernel_rfl) rfl (by kernel_rfl)
theorem pinS {id : Nat} {us ex : List AV} {g : FuncId} {H : Heap} {cap : Option Nat} (S : Srt Try.prog id us ex g H) (h12 : 12 < us.length) : ACalls Try.prog 161 [.sl id 1 0 us.length cap, .int .i64 0, .int .i64 us.length, .fn g []] H (fun v h' => v = .bool true ∧ h' = H) := by
  have hlen := S.len
  have hat := S.at_
  refine k161_of0 rfl noPure fun I => ?_
  refine Run2.of I 1000 ?_
  simp -implicitDefEqProofs
  refine Run2.loopE (fun (_ : Unit) => [(0, .sl id 1 0 us.length cap), (1, .int .i64 0), (2, .int .i64 us.length), (3, .fn g []), (9, .int .i64 1), (10, .int .i64 0)]) (fun _ => H) (fun _ => 0) (fun _ => True) () (by simp) rfl trivial fun _ _ _ => ?_
  refine Run2.of I 1000 ?_
  simp -implicitDefEqProofs
  refine Run2.keep [0, 1, 2, 3, 9, 10] ?_
  simp -implicitDefEqProofs
  refine Run2.loopE (fun (i : Nat) => [(0, .sl id 1 0 us.length cap), (1, .int .i64 0), (2, .int .i64 us.length), (3, .fn g []), (9, .int .i64 (i + 1 : Nat)), (10, .int .i64 0)]) (fun _ => H) (fun i => us.length - i) (fun i => i + 1 ≤ us.length) 0 (by simp) rfl (by omega) fun i hi ih => ?_
  by_cases hlt : i + 1 < us.length
  · have hlt' : i < us.length := by omega
    have go := ih (i + 1) (by omega) (by omega)
    have hltI : (i : Int) + 1 < us.length := by omega
    have g1 := S.get hlt
    have g2 := S.get hlt'
    obtain ⟨c, hc, hcall⟩ := S.cmp _ _ hlt hlt' (by omega)
    have hc' : ¬ c < 0 := by omega
    have hc1 : ((i : Int) + 1 - 1).toNat = i := by omega
    have q1 := cells_of (S.cell _ hlt)
    have q2 := cells_of (S.cell _ hlt')
    clear ih
    refine Run2.of I 1000 ?_
    simp -implicitDefEqProofs [hltI, hat, g1, g2, hc1, hlt, hlt', q1, q2]
    refine ⟨by omega, by omega, dcallK hcall ?_⟩
    simp -implicitDefEqProofs [hc']
    exact ⟨by omega, by simpa using go⟩
  · have hltI : ¬ (i : Int) + 1 < us.length := by omega
    have heq : (i : Int) + 1 = us.length := by omega
    refine Run2.of I 1000 ?_
    simp -implicitDefEqProofs [hltI, heq]
def LenTab : List UInt8 := [0, 1, 2, 2, 3, 3, 3, 3, 4, 4, 4, 4, 4, 4, 4, 4, 5, 5, 5, 5, 5, 5, 5, 5, 5, 5, 5, 5, 5, 5, 5, 5, 6, 6, 6, 6, 6, 6, 6, 6, 6, 6, 6, 6, 6, 6, 6, 6, 6, 6, 6, 6, 6, 6, 6, 6, 6, 6, 6, 6, 6, 6, 6, 6, 7, 7, 7, 7, 7, 7, 7, 7, 7, 7, 7, 7, 7, 7, 7, 7, 7, 7, 7, 7, 7, 7, 7, 7, 7, 7, 7, 7, 7, 7, 7, 7, 7, 7, 7, 7, 7, 7, 7, 7, 7, 7, 7, 7, 7, 7, 7, 7, 7, 7, 7, 7, 7, 7, 7, 7, 7, 7, 7, 7, 7, 7, 7, 7, 8, 8, 8, 8, 8, 8, 8, 8, 8, 8, 8, 8, 8, 8, 8, 8, 8, 8, 8, 8, 8, 8, 8, 8, 8, 8, 8, 8, 8, 8, 8, 8, 8, 8, 8, 8, 8, 8, 8, 8, 8, 8, 8, 8, 8, 8, 8, 8, 8, 8, 8, 8, 8, 8, 8, 8, 8, 8, 8, 8, 8, 8, 8, 8, 8, 8, 8, 8, 8, 8, 8, 8, 8, 8, 8, 8, 8, 8, 8, 8, 8, 8, 8, 8, 8, 8, 8, 8, 8, 8, 8, 8, 8, 8, 8, 8, 8, 8, 8, 8, 8, 8, 8, 8, 8, 8, 8, 8, 8, 8, 8, 8, 8, 8, 8, 8, 8, 8, 8, 8, 8, 8, 8, 8, 8, 8, 8, 8]
abbrev k155_o0 : List AJ := [.o ⟨(some 2), none, false, .mv (.c (.int .i64 0)), (some [0, 2])⟩]
abbrev k155_o1 : List AJ := [.o ⟨(some 3), none, false, .mv (.t 0), none⟩, .o ⟨(some 4), none, false, .bin .geq (.t 3) (.c (.int .u64 4294967296)), (some [0, 2, 4])⟩]
abbrev k155_o2 : List AJ := [.o ⟨(some 5), none, false, .mv (.t 0), none⟩, .o ⟨(some 6), none, false, .bin .shr (.t 5) (.c (.int .u64 32)), none⟩, .o ⟨(some 0), none, false, .mv (.t 6), (some [0])⟩]
abbrev k155_o3 : List AJ := [.o ⟨(some 2), none, false, .mv (.c (.int .i64 32)), (some [0, 2])⟩]
def k155_3 : ACode := .region k155_o3
def k155_4 : ACode := .seq (.region k155_o2) k155_3
def k155_5 : ACode := .cond (.t 4) k155_4 .skip
def k155_6 : ACode := .seq (.region k155_o1) k155_5
abbrev k155_o4 : List AJ := [.o ⟨(some 7), none, false, .mv (.t 0), none⟩, .o ⟨(some 8), none, false, .bin .geq (.t 7) (.c (.int .u64 65536)), (some [0, 2, 8])⟩]
abbrev k155_o5 : List AJ := [.o ⟨(some 9), none, false, .mv (.t 0), none⟩, .o ⟨(some 10), none, false, .bin .shr (.t 9) (.c (.int .u64 16)), none⟩, .o ⟨(some 0), none, false, .mv (.t 10), (some [0, 2])⟩]
abbrev k155_o6 : List AJ := [.o ⟨(some 11), none, false, .mv (.t 2), none⟩, .o ⟨(some 12), none, true, .bin .add (.t 11) (.c (.int .i64 16)), none⟩, .o ⟨(some 2), none, false, .mv (.t 12), (some [0, 2])⟩]
def k155_9 : ACode := .region k155_o6
def k155_10 : ACode := .seq (.region k155_o5) k155_9
def k155_11 : ACode := .cond (.t 8) k155_10 .skip
def k155_12 : ACode := .seq (.region k155_o4) k155_11
abbrev k155_o7 : List AJ := [.o ⟨(some 13), none, false, .mv (.t 0), none⟩, .o ⟨(some 14), none, false, .bin .geq (.t 13) (.c (.int .u64 256)), (some [0, 2, 14])⟩]
abbrev k155_o8 : List AJ := [.o ⟨(some 15), none, false, .mv (.t 0), none⟩, .o ⟨(some 16), none, false, .bin .shr (.t 15) (.c (.int .u64 8)), none⟩, .o ⟨(some 0), none, false, .mv (.t 16), (some [0, 2])⟩]
abbrev k155_o9 : List AJ := [.o ⟨(some 17), none, false, .mv (.t 2), none⟩, .o ⟨(some 18), none, true, .bin .add (.t 17) (.c (.int .i64 8)), none⟩, .o ⟨(some 2), none, false, .mv (.t 18), (some [0, 2])⟩]
def k155_15 : ACode := .region k155_o9
def k155_16 : ACode := .seq (.region k155_o8) k155_15
def k155_17 : ACode := .cond (.t 14) k155_16 .skip
def k155_18 : ACode := .seq (.region k155_o7) k155_17
abbrev k155_o10 : List AJ := [.o ⟨(some 19), none, false, .mv (.t 2), none⟩, .o ⟨(some 20), none, false, .mv (.t 0), none⟩, .o ⟨(some 21), none, true, .conv .u8 (.t 20), none⟩, .o ⟨(some 22), none, false, .idx (.c (.str [0, 1, 2, 2, 3, 3, 3, 3, 4, 4, 4, 4, 4, 4, 4, 4, 5, 5, 5, 5, 5, 5, 5, 5, 5, 5, 5, 5, 5, 5, 5, 5, 6, 6, 6, 6, 6, 6, 6, 6, 6, 6, 6, 6, 6, 6, 6, 6, 6, 6, 6, 6, 6, 6, 6, 6, 6, 6, 6, 6, 6, 6, 6, 6, 7, 7, 7, 7, 7, 7, 7, 7, 7, 7, 7, 7, 7, 7, 7, 7, 7, 7, 7, 7, 7, 7, 7, 7, 7, 7, 7, 7, 7, 7, 7, 7, 7, 7, 7, 7, 7, 7, 7, 7, 7, 7, 7, 7, 7, 7, 7, 7, 7, 7, 7, 7, 7, 7, 7, 7, 7, 7, 7, 7, 7, 7, 7, 7, 8, 8, 8, 8, 8, 8, 8, 8, 8, 8, 8, 8, 8, 8, 8, 8, 8, 8, 8, 8, 8, 8, 8, 8, 8, 8, 8, 8, 8, 8, 8, 8, 8, 8, 8, 8, 8, 8, 8, 8, 8, 8, 8, 8, 8, 8, 8, 8, 8, 8, 8, 8, 8, 8, 8, 8, 8, 8, 8, 8, 8, 8, 8, 8, 8, 8, 8, 8, 8, 8, 8, 8, 8, 8, 8, 8, 8, 8, 8, 8, 8, 8, 8, 8, 8, 8, 8, 8, 8, 8, 8, 8, 8, 8, 8, 8, 8, 8, 8, 8, 8, 8, 8, 8, 8, 8, 8, 8, 8, 8, 8, 8, 8, 8, 8, 8, 8, 8, 8, 8, 8, 8, 8, 8, 8, 8, 8, 8])) (.t 21), none⟩, .o ⟨(some 23), none, true, .conv .i64 (.t 22), none⟩, .o ⟨(some 24), none, true, .bin .add (.t 19) (.t 23), none⟩, .o ⟨(some 2), none, false, .mv (.t 24), (some [2])⟩]
def k155_20 : ACode := .seq (.region k155_o10) .ret
def k155_21 : ACode := .seq k155_18 k155_20
def k155_22 : ACode := .seq k155_12 k155_21
def k155_23 : ACode := .seq k155_6 k155_22
def k155_24 : ACode := .seq (.region k155_o0) k155_23
@[simp, simp ↓] theorem k155_3r : rR k155_3 k155_o3 := zR rfl
@[simp, simp ↓] theorem k155_4r : sR k155_4 k155_o2 k155_3 := yR rfl
@[simp, simp ↓] theorem k155_5r : rC k155_5 (.t 4) k155_4 .skip := zC rfl
@[simp, simp ↓] theorem k155_6r : sR k155_6 k155_o1 k155_5 := yR rfl
@[simp, simp ↓] theorem k155_9r : rR k155_9 k155_o6 := zR rfl
@[simp, simp ↓] theorem k155_10r : sR k155_10 k155_o5 k155_9 := yR rfl
@[simp, simp ↓] theorem k155_11r : rC k155_11 (.t 8) k155_10 .skip := zC rfl
@[simp, simp ↓] theorem k155_12r : sR k155_12 k155_o4 k155_11 := yR rfl
@[simp, simp ↓] theorem k155_15r : rR k155_15 k155_o9 := zR rfl
@[simp, simp ↓] theorem k155_16r : sR k155_16 k155_o8 k155_15 := yR rfl
@[simp, simp ↓] theorem k155_17r : rC k155_17 (.t 14) k155_16 .skip := zC rfl
@[simp, simp ↓] theorem k155_18r : sR k155_18 k155_o7 k155_17 := yR rfl
@[simp, simp ↓] theorem k155_20r : sR k155_20 k155_o10 .ret := yR rfl
@[simp, simp ↓] theorem k155_21r : rS k155_21 k155_18 k155_20 := zS rfl
@[simp, simp ↓] theorem k155_22r : rS k155_22 k155_12 k155_21 := zS rfl
@[simp, simp ↓] theorem k155_23r : rS k155_23 k155_6 k155_22 := zS rfl
@[simp, simp ↓] theorem k155_24r : sR k155_24 k155_o0 k155_23 := yR rfl
noncomputable abbrev k155_C : Orc → Cx := mkC Try.prog [] 155 25 [.tmp 2]
theorem k155_of0 : OfP0 Try.prog Try.f155 155 25 k155_C k155_24 := @ofP0 _ _ _ _ _ _ _ _ Try.func155 (by decide +kernel) rfl (by kernel_rfl) rfl (by kernel_rfl)
theorem len64S (n : Nat) (h : Heap) (hn : n ≤ 48) : ACalls Try.prog 155 [.int .u64 n] h (fun v h' => ∃ L : Int, v = .int .i64 L ∧ (0 < n → ¬ L = 0) ∧ h' = h) := by
  refine k155_of0 rfl noPure fun I => ?_
  have h1 : ¬ (4294967296 : Int) ≤ n := by omega
  have h2 : ¬ (65536 : Int) ≤ n := by omega
  have h3 : ¬ (256 : Int) ≤ n := by omega
  refine Run2.of I 1000 ?_
  have hw : arR true .u8 (n : Int) = .val (.int .u8 n) := by
    have e : IntKind.u8.wrap n = n := IntWalk.u8_in _ (by omega)
    simp only [arR]; rw [e]
  simp -implicitDefEqProofs [h1, h2, h3, hw]
  have key : ∀ n < 49, ∃ y : UInt8, LenTab[n]? = some y ∧ (0 < n → ¬ (y.toNat : Int) = 0) := by decide
  obtain ⟨y, hy, hy0⟩ := key n (by omega)
  unfold LenTab at hy
  have hb := y.toNat_lt
  simp -implicitDefEqProofs [hy]
  exact ⟨by omega, fun h => by have := hy0 h; omega⟩
abbrev k138_o0 : List AJ := [.o ⟨(some 2), none, false, .mv (.c (.int .i64 0)), (some [0])⟩]
abbrev k138_o1 : List AJ := [.o ⟨(some 3), none, false, .mv (.t 0), none⟩, .o ⟨(some 4), none, true, .conv .u32 (.t 3), none⟩, .o ⟨(some 5), none, false, .call 154 [(.t 4)], none⟩, .o ⟨(some 2), none, false, .mv (.t 5), (some [2])⟩]
def k138_2 : ACode := .seq (.region k138_o1) .ret
abbrev k138_o2 : List AJ := [.o ⟨(some 6), none, false, .mv (.t 0), none⟩, .o ⟨(some 7), none, false, .call 155 [(.t 6)], none⟩, .o ⟨(some 2), none, false, .mv (.t 7), (some [2])⟩]
def k138_5 : ACode := .seq (.region k138_o2) .ret
def k138_6 : ACode := .seq (.cond (.c (.bool false)) k138_2 .skip) k138_5
def k138_7 : ACode := .seq (.region k138_o0) k138_6
@[simp, simp ↓] theorem k138_2r : sR k138_2 k138_o1 .ret := yR rfl
@[simp, simp ↓] theorem k138_5r : sR k138_5 k138_o2 .ret := yR rfl
@[simp, simp ↓] theorem k138_6r : sC k138_6 (.c (.bool false)) k138_2 .skip k138_5 := yC rfl
@[simp, simp ↓] theorem k138_7r : sR k138_7 k138_o0 k138_6 := yR rfl
noncomputable abbrev k138_C : Orc → Cx := mkC Try.prog [] 138 8 [.tmp 2]
theorem k138_of0 : OfP0 Try.prog Try.f138 138 8 k138_C k138_7 := @ofP0 _ _ _ _ _ _ _ _ Try.func138 (by decide +kernel) rfl (by kernel_rfl) rfl (by kernel_rfl)
theorem lenS (n : Nat) (h : Heap) (hn : n ≤ 48) : ACalls Try.prog 138 [.int .u64 n] h (fun v h' => ∃ L : Int, v = .int .i64 L ∧ (0 < n → ¬ L = 0) ∧ h' = h) := by
  refine k138_of0 rfl noPure fun I => ?_
  refine Run2.of I 1000 ?_
  simp -implicitDefEqProofs
  refine (len64S n h hn).mono ?_
  rintro v h' ⟨L, rfl, hL, rfl⟩
  refine gK.go ?_
  simp -implicitDefEqProofs
  exact hL
abbrev k140_o0 : List AJ := [.o ⟨(some 10), none, false, .mv (.c (.bool true)), (some [0, 1, 2, 3, 4, 10])⟩]
abbrev k140_o1 : List AJ := [.o ⟨(some 11), none, false, .mv (.c (.bool true)), (some [0, 1, 2, 3, 4, 10, 11])⟩]
abbrev k140_o2 : List AJ := [.o ⟨(some 21), none, false, .mv (.t 2), none⟩, .o ⟨(some 22), none, false, .mv (.t 1), none⟩, .o ⟨(some 23), none, true, .bin .sub (.t 21) (.t 22), none⟩, .o ⟨(some 12), none, false, .mv (.t 23), (some [0, 1, 2, 3, 4, 10, 11, 12])⟩]
abbrev k140_o3 : List AJ := [.o ⟨(some 24), none, false, .mv (.t 12), none⟩, .o ⟨(some 25), none, false, .bin .leq (.t 24) (.c (.int .i64 12)), (some [0, 1, 2, 3, 4, 10, 11, 12, 25])⟩]
abbrev k140_o4 : List AJ := [.o ⟨(some 26), none, false, .mv (.t 0), none⟩, .o ⟨(some 27), none, false, .mv (.t 1), none⟩, .o ⟨(some 28), none, false, .mv (.t 2), none⟩, .o ⟨(some 29), none, false, .mv (.t 4), none⟩, .o ⟨(some 30), none, false, .call 156 [(.t 26), (.t 27), (.t 28), (.t 29)], (some [])⟩]
def k140_5 : ACode := .seq (.region k140_o4) .ret
def k140_6 : ACode := .cond (.t 25) k140_5 .skip
def k140_7 : ACode := .seq (.region k140_o3) k140_6
abbrev k140_o5 : List AJ := [.o ⟨(some 31), none, false, .mv (.t 3), none⟩, .o ⟨(some 32), none, false, .bin .eql (.t 31) (.c (.int .i64 0)), (some [0, 1, 2, 3, 4, 10, 11, 12, 32])⟩]
abbrev k140_o6 : List AJ := [.o ⟨(some 33), none, false, .mv (.t 0), none⟩, .o ⟨(some 34), none, false, .mv (.t 1), none⟩, .o ⟨(some 35), none, false, .mv (.t 2), none⟩, .o ⟨(some 36), none, false, .mv (.t 4), none⟩, .o ⟨(some 37), none, false, .call 157 [(.t 33), (.t 34), (.t 35), (.t 36)], (some [])⟩]
def k140_10 : ACode := .seq (.region k140_o6) .ret
def k140_11 : ACode := .cond (.t 32) k140_10 .skip
def k140_12 : ACode := .seq (.region k140_o5) k140_11
abbrev k140_o7 : List AJ := [.o ⟨(some 38), none, false, .mv (.t 10), none⟩, .o ⟨(some 39), none, false, .un .not (.t 38), (some [0, 1, 2, 3, 4, 10, 11, 12, 39])⟩]
abbrev k140_o8 : List AJ := [.o ⟨(some 40), none, false, .mv (.t 0), none⟩, .o ⟨(some 41), none, false, .mv (.t 1), none⟩, .o ⟨(some 42), none, false, .mv (.t 2), none⟩, .o ⟨(some 43), none, false, .mv (.t 4), none⟩, .o ⟨(some 44), none, false, .call 158 [(.t 40), (.t 41), (.t 42), (.t 43)], (some [0, 1, 2, 3, 4, 10, 11, 12])⟩]
abbrev k140_o9 : List AJ := [.o ⟨(some 45), none, false, .mv (.t 3), none⟩, .o ⟨(some 46), none, true, .bin .sub (.t 45) (.c (.int .i64 1)), none⟩, .o ⟨(some 3), none, false, .mv (.t 46), (some [0, 1, 2, 3, 4, 10, 11, 12])⟩]
def k140_15 : ACode := .region k140_o9
def k140_16 : ACode := .seq (.region k140_o8) k140_15
def k140_17 : ACode := .cond (.t 39) k140_16 .skip
def k140_18 : ACode := .seq (.region k140_o7) k140_17
abbrev k140_o10 : List AJ := [.o ⟨(some 48), none, false, .mv (.t 0), none⟩, .o ⟨(some 49), none, false, .mv (.t 1), none⟩, .o ⟨(some 50), none, false, .mv (.t 2), none⟩, .o ⟨(some 51), none, false, .mv (.t 4), none⟩, .o ⟨(some 52), none, false, .call 159 [(.t 48), (.t 49), (.t 50), (.t 51)], none⟩, .o ⟨(some 47), none, false, .mv (.t 52), none⟩, .o ⟨(some 53), none, false, .extract (.t 47) 0, none⟩, .o ⟨(some 54), none, false, .extract (.t 47) 1, none⟩, .o ⟨(some 13), none, false, .mv (.t 53), none⟩, .o ⟨(some 14), none, false, .mv (.t 54), (some [0, 1, 2, 3, 4, 10, 11, 12, 13, 14])⟩]
abbrev k140_o11 : List AJ := [.o ⟨(some 55), none, false, .mv (.t 14), none⟩, .o ⟨(some 56), none, false, .bin .eql (.t 55) (.c (.int .i64 2)), (some [0, 1, 2, 3, 4, 10, 11, 12, 13, 14, 56])⟩]
abbrev k140_o12 : List AJ := [.o ⟨(some 57), none, false, .mv (.t 0), none⟩, .o ⟨(some 58), none, false, .mv (.t 1), none⟩, .o ⟨(some 59), none, false, .mv (.t 2), none⟩, .o ⟨(some 60), none, false, .mv (.t 4), none⟩, .o ⟨(some 61), none, false, .call 160 [(.t 57), (.t 58), (.t 59), (.t 60)], (some [0, 1, 2, 3, 4, 10, 11, 12, 13])⟩]
abbrev k140_o13 : List AJ := [.o ⟨(some 62), none, false, .mv (.t 2), none⟩, .o ⟨(some 63), none, true, .bin .sub (.t 62) (.c (.int .i64 1)), none⟩, .o ⟨(some 64), none, false, .mv (.t 13), none⟩, .o ⟨(some 65), none, false, .mv (.t 1), none⟩, .o ⟨(some 66), none, true, .bin .sub (.t 64) (.t 65), none⟩, .o ⟨(some 67), none, true, .bin .sub (.t 63) (.t 66), none⟩, .o ⟨(some 13), none, false, .mv (.t 67), (some [0, 1, 2, 3, 4, 10, 11, 12, 13])⟩]
abbrev k140_o14 : List AJ := [.o ⟨(some 14), none, false, .mv (.c (.int .i64 1)), (some [0, 1, 2, 3, 4, 10, 11, 12, 13, 14])⟩]
def k140_23 : ACode := .region k140_o14
def k140_24 : ACode := .seq (.region k140_o13) k140_23
def k140_25 : ACode := .seq (.region k140_o12) k140_24
def k140_26 : ACode := .cond (.t 56) k140_25 .skip
def k140_27 : ACode := .seq (.region k140_o11) k140_26
abbrev k140_o15 : List AJ := [.o ⟨(some 68), none, false, .mv (.t 10), none⟩, .o ⟨(some 69), none, false, .mv (.t 68), none⟩, .o ⟨(some 70), (some (69, true)), false, .mv (.t 11), none⟩, .o ⟨(some 71), none, false, .pick (.t 69) (.t 70) (.c (.bool false)), none⟩, .o ⟨(some 72), none, false, .mv (.t 71), none⟩, .o ⟨(some 73), (some (72, true)), false, .mv (.t 14), none⟩, .o ⟨(some 74), (some (72, true)), false, .bin .eql (.t 73) (.c (.int .i64 1)), none⟩, .o ⟨(some 75), none, false, .pick (.t 72) (.t 74) (.c (.bool false)), (some [0, 1, 2, 3, 4, 10, 11, 12, 13, 75])⟩]
abbrev k140_o16 : List AJ := [.o ⟨(some 76), none, false, .mv (.t 0), none⟩, .o ⟨(some 77), none, false, .mv (.t 1), none⟩, .o ⟨(some 78), none, false, .mv (.t 2), none⟩, .o ⟨(some 79), none, false, .mv (.t 4), none⟩, .o ⟨(some 80), none, false, .call 161 [(.t 76), (.t 77), (.t 78), (.t 79)], (some [0, 1, 2, 3, 4, 10, 11, 12, 13, 80])⟩]
def k140_30 : ACode := .cond (.t 80) .ret .skip
def k140_31 : ACode := .seq (.region k140_o16) k140_30
def k140_32 : ACode := .cond (.t 75) k140_31 .skip
def k140_33 : ACode := .seq (.region k140_o15) k140_32
abbrev k140_o17 : List AI := [⟨(some 81), none, false, .mv (.t 1), none⟩, ⟨(some 82), none, false, .bin .gtr (.t 81) (.c (.int .i64 0)), none⟩, ⟨(some 83), none, false, .mv (.t 82), none⟩, ⟨(some 84), (some (83, true)), false, .mv (.t 4), none⟩, ⟨(some 85), (some (83, true)), false, .mv (.t 0), none⟩, ⟨(some 86), (some (83, true)), false, .mv (.t 1), none⟩, ⟨(some 87), (some (83, true)), true, .bin .sub (.t 86) (.c (.int .i64 1)), none⟩, ⟨(some 88), (some (83, true)), false, .idxA 1 (.t 85) (.t 87), none⟩, ⟨(some 89), (some (83, true)), false, .load 1 false (.t 88), (some [0, 1, 2, 3, 4, 10, 11, 12, 13, 83, 84, 89])⟩, ⟨(some 90), (some (83, true)), false, .mv (.t 0), none⟩, ⟨(some 91), (some (83, true)), false, .mv (.t 13), none⟩, ⟨(some 92), (some (83, true)), false, .idxA 1 (.t 90) (.t 91), none⟩, ⟨(some 93), (some (83, true)), false, .load 1 false (.t 92), none⟩, ⟨(some 94), (some (83, true)), false, .callv (.t 84) [(.t 89), (.t 93)], none⟩, ⟨(some 95), (some (83, true)), false, .bin .lss (.t 94) (.c (.int .i64 0)), none⟩, ⟨(some 96), (some (83, true)), false, .un .not (.t 95), (some [0, 1, 2, 3, 4, 10, 11, 12, 13, 83, 96])⟩, ⟨(some 97), none, false, .pick (.t 83) (.t 96) (.c (.bool false)), (some [0, 1, 2, 3, 4, 10, 11, 12, 13, 97])⟩]
abbrev k140_o18 : List AJ := [.o ⟨(some 98), none, false, .mv (.t 0), none⟩, .o ⟨(some 99), none, false, .mv (.t 1), none⟩, .o ⟨(some 100), none, false, .mv (.t 2), none⟩, .o ⟨(some 101), none, false, .mv (.t 13), none⟩, .o ⟨(some 102), none, false, .mv (.t 4), none⟩, .o ⟨(some 103), none, false, .call 162 [(.t 98), (.t 99), (.t 100), (.t 101), (.t 102)], none⟩, .o ⟨(some 15), none, false, .mv (.t 103), (some [0, 2, 3, 4, 10, 11, 15])⟩]
abbrev k140_o19 : List AJ := [.o ⟨(some 104), none, false, .mv (.t 15), none⟩, .o ⟨(some 1), none, false, .mv (.t 104), (some [0, 1, 2, 3, 4, 10, 11])⟩]
def k140_37 : ACode := .seq (.region k140_o19) (.exit 1)
def k140_38 : ACode := .seq (.region k140_o18) k140_37
def k140_39 : ACode := .cond (.t 97) k140_38 .skip
def k140_40 : ACode := .seq (.draw k140_o17 [] rfl) k140_39
abbrev k140_o20 : List AJ := [.o ⟨(some 106), none, false, .mv (.t 0), none⟩, .o ⟨(some 107), none, false, .mv (.t 1), none⟩, .o ⟨(some 108), none, false, .mv (.t 2), none⟩, .o ⟨(some 109), none, false, .mv (.t 13), none⟩, .o ⟨(some 110), none, false, .mv (.t 4), none⟩, .o ⟨(some 111), none, false, .call 163 [(.t 106), (.t 107), (.t 108), (.t 109), (.t 110)], none⟩, .o ⟨(some 105), none, false, .mv (.t 111), none⟩, .o ⟨(some 112), none, false, .extract (.t 105) 0, none⟩, .o ⟨(some 113), none, false, .extract (.t 105) 1, none⟩, .o ⟨(some 16), none, false, .mv (.t 112), none⟩, .o ⟨(some 17), none, false, .mv (.t 113), (some [0, 1, 2, 3, 4, 12, 16, 17])⟩]
abbrev k140_o21 : List AJ := [.o ⟨(some 114), none, false, .mv (.t 17), none⟩, .o ⟨(some 11), none, false, .mv (.t 114), (some [0, 1, 2, 3, 4, 11, 12, 16])⟩]
abbrev k140_o22 : List AJ := [.o ⟨(some 115), none, false, .mv (.t 16), none⟩, .o ⟨(some 116), none, false, .mv (.t 1), none⟩, .o ⟨(some 117), none, true, .bin .sub (.t 115) (.t 116), none⟩, .o ⟨(some 118), none, false, .mv (.t 2), none⟩, .o ⟨(some 119), none, false, .mv (.t 16), none⟩, .o ⟨(some 120), none, true, .bin .sub (.t 118) (.t 119), none⟩, .o ⟨(some 18), none, false, .mv (.t 117), none⟩, .o ⟨(some 19), none, false, .mv (.t 120), (some [0, 1, 2, 3, 4, 11, 12, 16, 18, 19])⟩]
abbrev k140_o23 : List AJ := [.o ⟨(some 121), none, false, .mv (.t 12), none⟩, .o ⟨(some 122), none, true, .bin .quo (.t 121) (.c (.int .i64 8)), none⟩, .o ⟨(some 20), none, false, .mv (.t 122), (some [0, 1, 2, 3, 4, 11, 16, 18, 19, 20])⟩]
abbrev k140_o24 : List AJ := [.o ⟨(some 123), none, false, .mv (.t 18), none⟩, .o ⟨(some 124), none, false, .mv (.t 19), none⟩, .o ⟨(some 125), none, false, .bin .lss (.t 123) (.t 124), (some [0, 1, 2, 3, 4, 11, 16, 18, 19, 20, 125])⟩]
abbrev k140_o25 : List AJ := [.o ⟨(some 126), none, false, .mv (.t 18), none⟩, .o ⟨(some 127), none, false, .mv (.t 20), none⟩, .o ⟨(some 128), none, false, .bin .geq (.t 126) (.t 127), none⟩, .o ⟨(some 10), none, false, .mv (.t 128), (some [0, 1, 2, 3, 4, 10, 11, 16])⟩]
abbrev k140_o26 : List AJ := [.o ⟨(some 129), none, false, .mv (.t 0), none⟩, .o ⟨(some 130), none, false, .mv (.t 1), none⟩, .o ⟨(some 131), none, false, .mv (.t 16), none⟩, .o ⟨(some 132), none, false, .mv (.t 3), none⟩, .o ⟨(some 133), none, false, .mv (.t 4), none⟩, .o ⟨(some 134), none, false, .call 140 [(.t 129), (.t 130), (.t 131), (.t 132), (.t 133)], (some [0, 2, 3, 4, 10, 11, 16])⟩]
abbrev k140_o27 : List AJ := [.o ⟨(some 135), none, false, .mv (.t 16), none⟩, .o ⟨(some 136), none, true, .bin .add (.t 135) (.c (.int .i64 1)), none⟩, .o ⟨(some 1), none, false, .mv (.t 136), (some [0, 1, 2, 3, 4, 10, 11])⟩]
def k140_48 : ACode := .region k140_o27
def k140_49 : ACode := .seq (.region k140_o26) k140_48
def k140_50 : ACode := .seq (.region k140_o25) k140_49
abbrev k140_o28 : List AJ := [.o ⟨(some 137), none, false, .mv (.t 19), none⟩, .o ⟨(some 138), none, false, .mv (.t 20), none⟩, .o ⟨(some 139), none, false, .bin .geq (.t 137) (.t 138), none⟩, .o ⟨(some 10), none, false, .mv (.t 139), (some [0, 1, 2, 3, 4, 10, 11, 16])⟩]
abbrev k140_o29 : List AJ := [.o ⟨(some 140), none, false, .mv (.t 0), none⟩, .o ⟨(some 141), none, false, .mv (.t 16), none⟩, .o ⟨(some 142), none, true, .bin .add (.t 141) (.c (.int .i64 1)), none⟩, .o ⟨(some 143), none, false, .mv (.t 2), none⟩, .o ⟨(some 144), none, false, .mv (.t 3), none⟩, .o ⟨(some 145), none, false, .mv (.t 4), none⟩, .o ⟨(some 146), none, false, .call 140 [(.t 140), (.t 142), (.t 143), (.t 144), (.t 145)], (some [0, 1, 3, 4, 10, 11, 16])⟩]
abbrev k140_o30 : List AJ := [.o ⟨(some 147), none, false, .mv (.t 16), none⟩, .o ⟨(some 2), none, false, .mv (.t 147), (some [0, 1, 2, 3, 4, 10, 11])⟩]
def k140_53 : ACode := .region k140_o30
def k140_54 : ACode := .seq (.region k140_o29) k140_53
def k140_55 : ACode := .seq (.region k140_o28) k140_54
def k140_56 : ACode := .cond (.t 125) k140_50 k140_55
def k140_57 : ACode := .seq (.region k140_o24) k140_56
def k140_58 : ACode := .seq (.region k140_o23) k140_57
def k140_59 : ACode := .seq (.region k140_o22) k140_58
def k140_60 : ACode := .seq (.region k140_o21) k140_59
def k140_61 : ACode := .seq (.region k140_o20) k140_60
def k140_62 : ACode := .seq k140_40 k140_61
def k140_63 : ACode := .seq k140_33 k140_62
def k140_64 : ACode := .seq k140_27 k140_63
def k140_65 : ACode := .seq (.region k140_o10) k140_64
def k140_66 : ACode := .seq k140_18 k140_65
def k140_67 : ACode := .seq k140_12 k140_66
def k140_68 : ACode := .seq k140_7 k140_67
def k140_69 : ACode := .seq (.region k140_o2) k140_68
def k140_70 : ACode := .block 1 k140_69
def k140_71 : ACode := .loop k140_70
def k140_72 : ACode := .block 0 k140_71
def k140_73 : ACode := .seq (.region k140_o1) k140_72
def k140_74 : ACode := .seq (.region k140_o0) k140_73
@[simp, simp ↓] theorem k140_5r : sR k140_5 k140_o4 .ret := yR rfl
@[simp, simp ↓] theorem k140_6r : rC k140_6 (.t 25) k140_5 .skip := zC rfl
@[simp, simp ↓] theorem k140_7r : sR k140_7 k140_o3 k140_6 := yR rfl
@[simp, simp ↓] theorem k140_10r : sR k140_10 k140_o6 .ret := yR rfl
@[simp, simp ↓] theorem k140_11r : rC k140_11 (.t 32) k140_10 .skip := zC rfl
@[simp, simp ↓] theorem k140_12r : sR k140_12 k140_o5 k140_11 := yR rfl
@[simp, simp ↓] theorem k140_15r : rR k140_15 k140_o9 := zR rfl
@[simp, simp ↓] theorem k140_16r : sR k140_16 k140_o8 k140_15 := yR rfl
@[simp, simp ↓] theorem k140_17r : rC k140_17 (.t 39) k140_16 .skip := zC rfl
@[simp, simp ↓] theorem k140_18r : sR k140_18 k140_o7 k140_17 := yR rfl
@[simp, simp ↓] theorem k140_23r : rR k140_23 k140_o14 := zR rfl
@[simp, simp ↓] theorem k140_24r : sR k140_24 k140_o13 k140_23 := yR rfl
@[simp, simp ↓] theorem k140_25r : sR k140_25 k140_o12 k140_24 := yR rfl
@[simp, simp ↓] theorem k140_26r : rC k140_26 (.t 56) k140_25 .skip := zC rfl
@[simp, simp ↓] theorem k140_27r : sR k140_27 k140_o11 k140_26 := yR rfl
@[simp, simp ↓] theorem k140_30r : rC k140_30 (.t 80) .ret .skip := zC rfl
@[simp, simp ↓] theorem k140_31r : sR k140_31 k140_o16 k140_30 := yR rfl
@[simp, simp ↓] theorem k140_32r : rC k140_32 (.t 75) k140_31 .skip := zC rfl
@[simp, simp ↓] theorem k140_33r : sR k140_33 k140_o15 k140_32 := yR rfl
@[simp, simp ↓] theorem k140_37r : sR k140_37 k140_o19 (.exit 1) := yR rfl
@[simp, simp ↓] theorem k140_38r : sR k140_38 k140_o18 k140_37 := yR rfl
@[simp, simp ↓] theorem k140_39r : rC k140_39 (.t 97) k140_38 .skip := zC rfl
@[simp, simp ↓] theorem k140_40r : sD k140_40 k140_o17 [] k140_39 := yD rfl
@[simp, simp ↓] theorem k140_48r : rR k140_48 k140_o27 := zR rfl
@[simp, simp ↓] theorem k140_49r : sR k140_49 k140_o26 k140_48 := yR rfl
@[simp, simp ↓] theorem k140_50r : sR k140_50 k140_o25 k140_49 := yR rfl
@[simp, simp ↓] theorem k140_53r : rR k140_53 k140_o30 := zR rfl
@[simp, simp ↓] theorem k140_54r : sR k140_54 k140_o29 k140_53 := yR rfl
@[simp, simp ↓] theorem k140_55r : sR k140_55 k140_o28 k140_54 := yR rfl
@[simp, simp ↓] theorem k140_56r : rC k140_56 (.t 125) k140_50 k140_55 := zC rfl
@[simp, simp ↓] theorem k140_57r : sR k140_57 k140_o24 k140_56 := yR rfl
@[simp, simp ↓] theorem k140_58r : sR k140_58 k140_o23 k140_57 := yR rfl
@[simp, simp ↓] theorem k140_59r : sR k140_59 k140_o22 k140_58 := yR rfl
@[simp, simp ↓] theorem k140_60r : sR k140_60 k140_o21 k140_59 := yR rfl
@[simp, simp ↓] theorem k140_61r : sR k140_61 k140_o20 k140_60 := yR rfl
@[simp, simp ↓] theorem k140_62r : rS k140_62 k140_40 k140_61 := zS rfl
@[simp, simp ↓] theorem k140_63r : rS k140_63 k140_33 k140_62 := zS rfl
@[simp, simp ↓] theorem k140_64r : rS k140_64 k140_27 k140_63 := zS rfl
@[simp, simp ↓] theorem k140_65r : sR k140_65 k140_o10 k140_64 := yR rfl
@[simp, simp ↓] theorem k140_66r : rS k140_66 k140_18 k140_65 := zS rfl
@[simp, simp ↓] theorem k140_67r : rS k140_67 k140_12 k140_66 := zS rfl
@[simp, simp ↓] theorem k140_68r : rS k140_68 k140_7 k140_67 := zS rfl
@[simp, simp ↓] theorem k140_69r : sR k140_69 k140_o2 k140_68 := yR rfl
@[simp, simp ↓] theorem k140_70r : rB k140_70 1 k140_69 := zB rfl
@[simp, simp ↓] theorem k140_71r : rL k140_71 k140_70 := zL rfl
@[simp, simp ↓] theorem k140_72r : rB k140_72 0 k140_71 := zB rfl
@[simp, simp ↓] theorem k140_73r : sR k140_73 k140_o1 k140_72 := yR rfl
@[simp, simp ↓] theorem k140_74r : sR k140_74 k140_o0 k140_73 := yR rfl
noncomputable abbrev k140_C : Orc → Cx := mkC Try.prog [] 140 148 []
theorem k140_of0 : OfP0 Try.prog Try.f140 140 148 k140_C k140_74 := @ofP0 _ _ _ _ _ _ _ _ Try.func140 (by decide +kernel) rfl (by kernel_rfl) rfl (by kernel_rfl)
theorem pdqS {id : Nat} {us ex : List AV} {g : FuncId} {H : Heap} {cap : Option Nat} (S : Srt Try.prog id us ex g H) (L : Int) (hL : 0 < us.length → ¬ L = 0) : ACalls Try.prog 140 [.sl id 1 0 us.length cap, .int .i64 0, .int .i64 us.length, .int .i64 L, .fn g []] H (fun v h' => v = .tup [] ∧ h' = H) := by
  have hlen := S.len
  refine k140_of0 rfl noPure fun I => ?_
  refine Run2.of I 1000 ?_
  simp -implicitDefEqProofs
  refine Run2.loopE (fun (_ : Unit) => [(0, .sl id 1 0 us.length cap), (1, .int .i64 0), (2, .int .i64 us.length), (3, .int .i64 L), (4, .fn g []), (10, .bool true), (11, .bool true)]) (fun _ => H) (fun _ => 0) (fun _ => True) () (by simp) rfl trivial fun _ _ _ => ?_
  by_cases h12 : us.length ≤ 12
  · have h12' : (us.length : Int) ≤ 12 := by omega
    refine Run2.of I 1000 ?_
    simp -implicitDefEqProofs [h12']
    refine ⟨by omega, ?_⟩
    refine (insS S).mono ?_
    rintro v h' ⟨rfl, rfl⟩
    refine gK.go ?_
    simp -implicitDefEqProofs
  · have h12' : ¬ (us.length : Int) ≤ 12 := by omega
    have hL' := hL (by omega)
    refine Run2.of I 1000 ?_
    simp -implicitDefEqProofs [h12', hL']
    refine ⟨by omega, ?_⟩
    refine (pivS S (by omega)).mono ?_
    rintro v h' ⟨j, rfl, rfl⟩
    refine gK.go ?_
    simp -implicitDefEqProofs
    refine (pinS S (by omega)).mono ?_
    rintro v h' ⟨rfl, rfl⟩
    refine gK.go ?_
    simp -implicitDefEqProofs
abbrev k119_o0 : List AJ := [.o ⟨(some 5), none, false, .mv (.t 0), none⟩, .o ⟨(some 6), none, false, .len (.t 5), none⟩, .o ⟨(some 4), none, false, .mv (.t 6), (some [0, 1, 4])⟩]
abbrev k119_o1 : List AJ := [.o ⟨(some 7), none, false, .mv (.t 0), none⟩, .o ⟨(some 8), none, false, .mv (.t 4), none⟩, .o ⟨(some 9), none, false, .mv (.t 4), none⟩, .o ⟨(some 10), none, true, .conv .u64 (.t 9), none⟩, .o ⟨(some 11), none, false, .call 138 [(.t 10)], none⟩, .o ⟨(some 12), none, false, .mv (.t 1), none⟩, .o ⟨(some 13), none, false, .call 140 [(.t 7), (.c (.int .i64 0)), (.t 8), (.t 11), (.t 12)], (some [])⟩]
def k119_1 : ACode := .region k119_o1
def k119_2 : ACode := .seq (.region k119_o0) k119_1
@[simp, simp ↓] theorem k119_1r : rR k119_1 k119_o1 := zR rfl
@[simp, simp ↓] theorem k119_2r : sR k119_2 k119_o0 k119_1 := yR rfl
noncomputable abbrev k119_C : Orc → Cx := mkC Try.prog [] 119 14 []
theorem k119_of0 : OfP0 Try.prog Try.f119 119 14 k119_C k119_2 := @ofP0 _ _ _ _ _ _ _ _ Try.func119 (by decide +kernel) rfl (by kernel_rfl) rfl (by kernel_rfl)
theorem sortS_s {id : Nat} {us ex : List AV} {g : FuncId} {H : Heap} {cap : Option Nat} (S : Srt Try.prog id us ex g H) : ACalls Try.prog 119 [.sl id 1 0 us.length cap, .fn g []] H (fun v h' => v = .tup [] ∧ h' = H) := by
  have hlen := S.len
  refine k119_of0 rfl noPure fun I => ?_
  have hw := arR_u64 (w := true) (n := (us.length : Int)) (by omega) (by omega)
  refine Run2.of I 1000 ?_
  simp -implicitDefEqProofs [hw]
  refine (lenS us.length H hlen).mono ?_
  rintro v h' ⟨L, rfl, hL, rfl⟩
  refine gK.go ?_
  simp -implicitDefEqProofs
  refine (pdqS S L hL).mono ?_
  rintro v h' ⟨rfl, rfl⟩
  refine gK.go ?_
  simp -implicitDefEqProofs
abbrev k121_o0 : List AJ := [.o ⟨(some 4), none, false, .mv (.c (.bool false)), (some [0, 1])⟩]
abbrev k121_o1 : List AJ := [.o ⟨(some 6), none, false, .mv (.t 0), none⟩, .o ⟨(some 7), none, false, .len (.t 6), none⟩, .o ⟨(some 8), none, false, .mv (.t 1), none⟩, .o ⟨(some 9), none, false, .len (.t 8), none⟩, .o ⟨(some 10), none, false, .bin .neq (.t 7) (.t 9), (some [0, 1, 10])⟩]
abbrev k121_o2 : List AJ := [.o ⟨(some 4), none, false, .mv (.c (.bool false)), (some [4])⟩]
def k121_3 : ACode := .seq (.region k121_o2) .ret
def k121_4 : ACode := .cond (.t 10) k121_3 .skip
def k121_5 : ACode := .seq (.region k121_o1) k121_4
abbrev k121_o3 : List AJ := [.o ⟨(some 11), none, false, .mv (.t 0), none⟩, .o ⟨(some 12), none, false, .len (.t 11), none⟩, .o ⟨(some 13), none, false, .mv (.c (.int .i64 0)), (some [0, 1, 12, 13])⟩]
abbrev k121_o4 : List AJ := [.o ⟨(some 14), none, false, .bin .lss (.t 13) (.t 12), (some [0, 1, 12, 13, 14])⟩]
abbrev k121_o5 : List AJ := [.o ⟨(some 15), none, false, .mv (.t 13), none⟩, .o ⟨(some 5), none, false, .mv (.t 15), (some [0, 1, 5, 12, 13])⟩]
abbrev k121_o6 : List AI := [⟨(some 16), none, false, .mv (.t 0), none⟩, ⟨(some 17), none, false, .mv (.t 5), none⟩, ⟨(some 18), none, false, .idxA 1 (.t 16) (.t 17), none⟩, ⟨(some 19), none, false, .load 1 false (.t 18), none⟩, ⟨(some 20), none, false, .mv (.t 1), none⟩, ⟨(some 21), none, false, .mv (.t 5), none⟩, ⟨(some 22), none, false, .idxA 1 (.t 20) (.t 21), none⟩, ⟨(some 23), none, false, .load 1 false (.t 22), none⟩, ⟨(some 24), none, false, .bin .neq (.t 19) (.t 23), (some [0, 1, 12, 13, 24])⟩]
abbrev k121_o7 : List AJ := [.o ⟨(some 4), none, false, .mv (.c (.bool false)), (some [4])⟩]
def k121_12 : ACode := .seq (.region k121_o7) .ret
def k121_13 : ACode := .cond (.t 24) k121_12 .skip
def k121_14 : ACode := .seq (.draw k121_o6 [] rfl) k121_13
def k121_15 : ACode := .seq (.region k121_o5) k121_14
abbrev k121_o8 : List AJ := [.o ⟨(some 25), none, true, .bin .add (.t 13) (.c (.int .i64 1)), none⟩, .o ⟨(some 13), none, false, .mv (.t 25), (some [0, 1, 12, 13])⟩]
def k121_17 : ACode := .region k121_o8
def k121_18 : ACode := .seq (.block 1 k121_15) k121_17
def k121_19 : ACode := .seq (.cond (.t 14) .skip (.exit 0)) k121_18
def k121_20 : ACode := .seq (.region k121_o4) k121_19
def k121_21 : ACode := .loop k121_20
def k121_22 : ACode := .block 0 k121_21
def k121_23 : ACode := .seq (.region k121_o3) k121_22
abbrev k121_o9 : List AJ := [.o ⟨(some 4), none, false, .mv (.c (.bool true)), (some [4])⟩]
def k121_25 : ACode := .seq (.region k121_o9) .ret
def k121_26 : ACode := .seq k121_23 k121_25
def k121_27 : ACode := .seq k121_5 k121_26
def k121_28 : ACode := .seq (.region k121_o0) k121_27
@[simp, simp ↓] theorem k121_3r : sR k121_3 k121_o2 .ret := yR rfl
@[simp, simp ↓] theorem k121_4r : rC k121_4 (.t 10) k121_3 .skip := zC rfl
@[simp, simp ↓] theorem k121_5r : sR k121_5 k121_o1 k121_4 := yR rfl
@[simp, simp ↓] theorem k121_12r : sR k121_12 k121_o7 .ret := yR rfl
@[simp, simp ↓] theorem k121_13r : rC k121_13 (.t 24) k121_12 .skip := zC rfl
@[simp, simp ↓] theorem k121_14r : sD k121_14 k121_o6 [] k121_13 := yD rfl
@[simp, simp ↓] theorem k121_15r : sR k121_15 k121_o5 k121_14 := yR rfl
@[simp, simp ↓] theorem k121_17r : rR k121_17 k121_o8 := zR rfl
@[simp, simp ↓] theorem k121_18r : sB k121_18 1 k121_15 k121_17 := yB rfl
@[simp, simp ↓] theorem k121_19r : sC k121_19 (.t 14) .skip (.exit 0) k121_18 := yC rfl
@[simp, simp ↓] theorem k121_20r : sR k121_20 k121_o4 k121_19 := yR rfl
@[simp, simp ↓] theorem k121_21r : rL k121_21 k121_20 := zL rfl
@[simp, simp ↓] theorem k121_22r : rB k121_22 0 k121_21 := zB rfl
@[simp, simp ↓] theorem k121_23r : sR k121_23 k121_o3 k121_22 := yR rfl
@[simp, simp ↓] theorem k121_25r : sR k121_25 k121_o9 .ret := yR rfl
@[simp, simp ↓] theorem k121_26r : rS k121_26 k121_23 k121_25 := zS rfl
@[simp, simp ↓] theorem k121_27r : rS k121_27 k121_5 k121_26 := zS rfl
@[simp, simp ↓] theorem k121_28r : sR k121_28 k121_o0 k121_27 := yR rfl
noncomputable abbrev k121_C : Orc → Cx := mkC Try.prog [] 121 26 [.tmp 4]
theorem k121_of0 : OfP0 Try.prog Try.f121 121 26 k121_C k121_28 := @ofP0 _ _ _ _ _ _ _ _ Try.func121 (by decide +kernel) rfl (by kernel_rfl) rfl (by kernel_rfl)
theorem equal_s (l m : List Int) (h : Heap) (hl : l.length ≤ 1048576) : ACalls Try.prog 121 [.snap 1 (l.map iv), .snap 1 (m.map iv)] h (fun v h' => v = .bool (decide (l = m)) ∧ h' = h) := by
  refine k121_of0 rfl noPure fun I => ?_
  refine Run2.of I 1000 ?_
  simp -implicitDefEqProofs
  refine ⟨by rintro hne rfl; exact hne rfl, fun hlen => ?_⟩
  refine Run2.loopE (fun i => [(0, .snap 1 (l.map iv)), (1, .snap 1 (m.map iv)), (12, .int .i64 l.length), (13, .int .i64 (i : Nat))]) (fun i => h) (fun i => l.length - i) (fun i => i ≤ l.length ∧ l.take i = m.take i) 0 (by simp [hlen]) rfl (by simp) fun i hi ih => ?_
  by_cases hlt : i < l.length
  · have hlt' : i < m.length := by omega
    refine Run2.of I 1000 ?_
    simp -implicitDefEqProofs [hlt, hlt']
    constructor
    · rintro hne rfl
      exact hne rfl
    · intro he
      refine ⟨by omega, ?_⟩
      have := ih (i + 1) ⟨by omega, by rw [List.take_succ_eq_append_getElem hlt, List.take_succ_eq_append_getElem hlt', hi.2, he]⟩ (by omega)
      simpa using this
  · refine Run2.of I 1000 ?_
    simp -implicitDefEqProofs [hlt]
    have : i = l.length := by omega
    have h2 := hi.2
    rw [List.take_of_length_le (by omega), List.take_of_length_le (by omega)] at h2
    exact h2
/-- Neighbours are not equal. -/
structure Cmp (P : Program) (id : Nat) (us ex : List AV) (g : FuncId) (H : Heap) : Prop where
  at_ : hget H id = some ⟨1, us ++ ex⟩
  len : us.length ≤ 1048576
  cell : ∀ i (h : i < us.length), isCell us[i] = true
  eq : ∀ i (h : i + 1 < us.length), ACalls P g [us[i + 1], us[i]] H (fun v h' => v = .bool false ∧ h' = H)
theorem Cmp.get {P : Program} {id : Nat} {us ex : List AV} {g : FuncId} {H : Heap} (S : Cmp P id us ex g H) {i : Nat} (h : i < us.length) : (us ++ ex)[i]? = some us[i] := by
  rw [List.getElem?_append_left h]; simp [h]
abbrev k120_o0 : List AJ := [.o ⟨(some 4), none, false, .mv (.c .nilsl), (some [0, 1])⟩]
abbrev k120_o1 : List AJ := [.o ⟨(some 8), none, false, .mv (.t 0), none⟩, .o ⟨(some 9), none, false, .len (.t 8), none⟩, .o ⟨(some 10), none, false, .bin .lss (.t 9) (.c (.int .i64 2)), (some [0, 1, 10])⟩]
abbrev k120_o2 : List AJ := [.o ⟨(some 11), none, false, .mv (.t 0), none⟩, .o ⟨(some 4), none, false, .mv (.t 11), (some [4])⟩]
def k120_3 : ACode := .seq (.region k120_o2) .ret
def k120_4 : ACode := .cond (.t 10) k120_3 .skip
def k120_5 : ACode := .seq (.region k120_o1) k120_4
abbrev k120_o3 : List AJ := [.o ⟨(some 5), none, false, .mv (.c (.int .i64 1)), (some [0, 1, 5])⟩]
abbrev k120_o4 : List AJ := [.o ⟨(some 12), none, false, .mv (.t 5), none⟩, .o ⟨(some 13), none, false, .mv (.t 0), none⟩, .o ⟨(some 14), none, false, .len (.t 13), none⟩, .o ⟨(some 15), none, false, .bin .lss (.t 12) (.t 14), (some [0, 1, 5, 15])⟩]
def k120_8 : ACode := .cond (.t 15) .skip (.exit 0)
def k120_9 : ACode := .seq (.region k120_o4) k120_8
abbrev k120_o5 : List AI := [⟨(some 18), none, false, .mv (.t 1), none⟩, ⟨(some 19), none, false, .mv (.t 0), none⟩, ⟨(some 20), none, false, .mv (.t 5), none⟩, ⟨(some 21), none, false, .idxA 1 (.t 19) (.t 20), none⟩, ⟨(some 22), none, false, .load 1 false (.t 21), none⟩, ⟨(some 23), none, false, .mv (.t 0), none⟩, ⟨(some 24), none, false, .mv (.t 5), none⟩, ⟨(some 25), none, true, .bin .sub (.t 24) (.c (.int .i64 1)), none⟩, ⟨(some 26), none, false, .idxA 1 (.t 23) (.t 25), none⟩, ⟨(some 27), none, false, .load 1 false (.t 26), none⟩, ⟨(some 28), none, false, .callv (.t 18) [(.t 22), (.t 27)], (some [0, 1, 5, 28])⟩]
abbrev k120_o6 : List AJ := [.o ⟨(some 29), none, false, .mv (.t 0), none⟩, .o ⟨(some 30), none, false, .mv (.t 5), none⟩, .o ⟨(some 31), none, false, .slice 1 (.t 29) (some (.t 30)) none none, none⟩, .o ⟨(some 6), none, false, .mv (.t 31), (some [0, 1, 5, 6])⟩]
abbrev k120_o7 : List AJ := [.o ⟨(some 7), none, false, .mv (.c (.int .i64 1)), (some [0, 1, 5, 6, 7])⟩]
abbrev k120_o8 : List AJ := [.o ⟨(some 32), none, false, .mv (.t 7), none⟩, .o ⟨(some 33), none, false, .mv (.t 6), none⟩, .o ⟨(some 34), none, false, .len (.t 33), none⟩, .o ⟨(some 35), none, false, .bin .lss (.t 32) (.t 34), (some [0, 1, 5, 6, 7, 35])⟩]
def k120_14 : ACode := .cond (.t 35) .skip (.exit 2)
def k120_15 : ACode := .seq (.region k120_o8) k120_14
abbrev k120_o9 : List AI := [⟨(some 38), none, false, .mv (.t 1), none⟩, ⟨(some 39), none, false, .mv (.t 6), none⟩, ⟨(some 40), none, false, .mv (.t 7), none⟩, ⟨(some 41), none, false, .idxA 1 (.t 39) (.t 40), none⟩, ⟨(some 42), none, false, .load 1 false (.t 41), none⟩, ⟨(some 43), none, false, .mv (.t 6), none⟩, ⟨(some 44), none, false, .mv (.t 7), none⟩, ⟨(some 45), none, true, .bin .sub (.t 44) (.c (.int .i64 1)), none⟩, ⟨(some 46), none, false, .idxA 1 (.t 43) (.t 45), none⟩, ⟨(some 47), none, false, .load 1 false (.t 46), none⟩, ⟨(some 48), none, false, .callv (.t 38) [(.t 42), (.t 47)], none⟩, ⟨(some 49), none, false, .un .not (.t 48), (some [0, 1, 5, 6, 7, 49])⟩]
abbrev k120_o10 : List AJ := [.o ⟨(some 50), none, false, .mv (.t 0), none⟩, .o ⟨(some 51), none, false, .mv (.t 5), none⟩, .o ⟨(some 52), none, false, .mv (.t 6), none⟩, .o ⟨(some 53), none, false, .mv (.t 7), none⟩, .o ⟨(some 54), none, false, .idxA 1 (.t 52) (.t 53), none⟩, .o ⟨(some 55), none, false, .load 1 false (.t 54), none⟩, .o ⟨(some 56), none, false, .idxA 1 (.t 50) (.t 51), none⟩, .o ⟨none, none, false, .store 1 (.t 56) (.t 55), (some [0, 1, 5, 6, 7])⟩]
abbrev k120_o11 : List AJ := [.o ⟨(some 57), none, false, .mv (.t 5), none⟩, .o ⟨(some 58), none, true, .bin .add (.t 57) (.c (.int .i64 1)), none⟩, .o ⟨(some 5), none, false, .mv (.t 58), (some [0, 1, 5, 6, 7])⟩]
def k120_18 : ACode := .region k120_o11
def k120_19 : ACode := .seq (.region k120_o10) k120_18
def k120_20 : ACode := .cond (.t 49) k120_19 .skip
def k120_21 : ACode := .seq (.draw k120_o9 [] rfl) k120_20
abbrev k120_o12 : List AJ := [.o ⟨(some 36), none, false, .mv (.t 7), none⟩, .o ⟨(some 37), none, true, .bin .add (.t 36) (.c (.int .i64 1)), none⟩, .o ⟨(some 7), none, false, .mv (.t 37), (some [0, 1, 5, 6, 7])⟩]
def k120_23 : ACode := .region k120_o12
def k120_24 : ACode := .seq (.block 3 k120_21) k120_23
def k120_25 : ACode := .seq k120_15 k120_24
def k120_26 : ACode := .loop k120_25
def k120_27 : ACode := .block 2 k120_26
def k120_28 : ACode := .seq (.region k120_o7) k120_27
abbrev k120_o13 : List AJ := [.o ⟨(some 59), none, false, .mv (.t 0), none⟩, .o ⟨(some 60), none, false, .mv (.t 5), none⟩, .o ⟨(some 61), none, false, .slice 1 (.t 59) (some (.t 60)) none none, none⟩, .o ⟨none, none, false, .clear 1 .nilsl (.t 61), (some [0, 5])⟩]
abbrev k120_o14 : List AJ := [.o ⟨(some 62), none, false, .mv (.t 0), none⟩, .o ⟨(some 63), none, false, .mv (.t 5), none⟩, .o ⟨(some 64), none, false, .slice 1 (.t 62) none (some (.t 63)) none, none⟩, .o ⟨(some 4), none, false, .mv (.t 64), (some [4])⟩]
def k120_31 : ACode := .seq (.region k120_o14) .ret
def k120_32 : ACode := .seq (.region k120_o13) k120_31
def k120_33 : ACode := .seq k120_28 k120_32
def k120_34 : ACode := .seq (.region k120_o6) k120_33
def k120_35 : ACode := .cond (.t 28) k120_34 .skip
def k120_36 : ACode := .seq (.draw k120_o5 [] rfl) k120_35
abbrev k120_o15 : List AJ := [.o ⟨(some 16), none, false, .mv (.t 5), none⟩, .o ⟨(some 17), none, true, .bin .add (.t 16) (.c (.int .i64 1)), none⟩, .o ⟨(some 5), none, false, .mv (.t 17), (some [0, 1, 5])⟩]
def k120_38 : ACode := .region k120_o15
def k120_39 : ACode := .seq (.block 1 k120_36) k120_38
def k120_40 : ACode := .seq k120_9 k120_39
def k120_41 : ACode := .loop k120_40
def k120_42 : ACode := .block 0 k120_41
def k120_43 : ACode := .seq (.region k120_o3) k120_42
abbrev k120_o16 : List AJ := [.o ⟨(some 65), none, false, .mv (.t 0), none⟩, .o ⟨(some 4), none, false, .mv (.t 65), (some [4])⟩]
def k120_45 : ACode := .seq (.region k120_o16) .ret
def k120_46 : ACode := .seq k120_43 k120_45
def k120_47 : ACode := .seq k120_5 k120_46
def k120_48 : ACode := .seq (.region k120_o0) k120_47
@[simp, simp ↓] theorem k120_3r : sR k120_3 k120_o2 .ret := yR rfl
@[simp, simp ↓] theorem k120_4r : rC k120_4 (.t 10) k120_3 .skip := zC rfl
@[simp, simp ↓] theorem k120_5r : sR k120_5 k120_o1 k120_4 := yR rfl
@[simp, simp ↓] theorem k120_8r : rC k120_8 (.t 15) .skip (.exit 0) := zC rfl
@[simp, simp ↓] theorem k120_9r : sR k120_9 k120_o4 k120_8 := yR rfl
@[simp, simp ↓] theorem k120_14r : rC k120_14 (.t 35) .skip (.exit 2) := zC rfl
@[simp, simp ↓] theorem k120_15r : sR k120_15 k120_o8 k120_14 := yR rfl
@[simp, simp ↓] theorem k120_18r : rR k120_18 k120_o11 := zR rfl
@[simp, simp ↓] theorem k120_19r : sR k120_19 k120_o10 k120_18 := yR rfl
@[simp, simp ↓] theorem k120_20r : rC k120_20 (.t 49) k120_19 .skip := zC rfl
@[simp, simp ↓] theorem k120_21r : sD k120_21 k120_o9 [] k120_20 := yD rfl
@[simp, simp ↓] theorem k120_23r : rR k120_23 k120_o12 := zR rfl
@[simp, simp ↓] theorem k120_24r : sB k120_24 3 k120_21 k120_23 := yB rfl
@[simp, simp ↓] theorem k120_25r : rS k120_25 k120_15 k120_24 := zS rfl
@[simp, simp ↓] theorem k120_26r : rL k120_26 k120_25 := zL rfl
@[simp, simp ↓] theorem k120_27r : rB k120_27 2 k120_26 := zB rfl
@[simp, simp ↓] theorem k120_28r : sR k120_28 k120_o7 k120_27 := yR rfl
@[simp, simp ↓] theorem k120_31r : sR k120_31 k120_o14 .ret := yR rfl
@[simp, simp ↓] theorem k120_32r : sR k120_32 k120_o13 k120_31 := yR rfl
@[simp, simp ↓] theorem k120_33r : rS k120_33 k120_28 k120_32 := zS rfl
@[simp, simp ↓] theorem k120_34r : sR k120_34 k120_o6 k120_33 := yR rfl
@[simp, simp ↓] theorem k120_35r : rC k120_35 (.t 28) k120_34 .skip := zC rfl
@[simp, simp ↓] theorem k120_36r : sD k120_36 k120_o5 [] k120_35 := yD rfl
@[simp, simp ↓] theorem k120_38r : rR k120_38 k120_o15 := zR rfl
@[simp, simp ↓] theorem k120_39r : sB k120_39 1 k120_36 k120_38 := yB rfl
@[simp, simp ↓] theorem k120_40r : rS k120_40 k120_9 k120_39 := zS rfl
@[simp, simp ↓] theorem k120_41r : rL k120_41 k120_40 := zL rfl
@[simp, simp ↓] theorem k120_42r : rB k120_42 0 k120_41 := zB rfl
@[simp, simp ↓] theorem k120_43r : sR k120_43 k120_o3 k120_42 := yR rfl
@[simp, simp ↓] theorem k120_45r : sR k120_45 k120_o16 .ret := yR rfl
@[simp, simp ↓] theorem k120_46r : rS k120_46 k120_43 k120_45 := zS rfl
@[simp, simp ↓] theorem k120_47r : rS k120_47 k120_5 k120_46 := zS rfl
@[simp, simp ↓] theorem k120_48r : sR k120_48 k120_o0 k120_47 := yR rfl
noncomputable abbrev k120_C : Orc → Cx := mkC Try.prog [] 120 66 [.tmp 4]
theorem k120_of0 : OfP0 Try.prog Try.f120 120 66 k120_C k120_48 := @ofP0 _ _ _ _ _ _ _ _ Try.func120 (by decide +kernel) rfl (by kernel_rfl) rfl (by kernel_rfl)
theorem compact_s {id : Nat} {us ex : List AV} {g : FuncId} {H : Heap} {cap : Option Nat} (S : Cmp Try.prog id us ex g H) : ACalls Try.prog 120 [.sl id 1 0 us.length cap, .fn g []] H (fun v h' => v = .sl id 1 0 us.length cap ∧ h' = H) := by
  have hlen := S.len
  have hat := S.at_
  refine k120_of0 rfl noPure fun I => ?_
  by_cases h2 : us.length < 2
  · have h2' : (us.length : Int) < 2 := by omega
    refine Run2.of I 1000 ?_
    simp -implicitDefEqProofs [h2']
  · have h2' : ¬ (us.length : Int) < 2 := by omega
    refine Run2.of I 1000 ?_
    simp -implicitDefEqProofs [h2']
    refine Run2.loopE (fun (i : Nat) => [(0, .sl id 1 0 us.length cap), (1, .fn g []), (5, .int .i64 (i + 1 : Nat))]) (fun _ => H) (fun i => us.length - i) (fun i => i + 1 ≤ us.length) 0 (by simp) rfl (by omega) fun i hi ih => ?_
    by_cases hlt : i + 1 < us.length
    · have hlt' : i < us.length := by omega
      have go := ih (i + 1) (by omega) (by omega)
      have hltI : (i : Int) + 1 < us.length := by omega
      have g1 := S.get hlt
      have g2 := S.get hlt'
      have hcall := S.eq _ hlt
      have hc1 : ((i : Int) + 1 - 1).toNat = i := by omega
      have q1 := cells_of (S.cell _ hlt)
      have q2 := cells_of (S.cell _ hlt')
      clear ih
      refine Run2.of I 1000 ?_
      simp -implicitDefEqProofs [hltI, hat, g1, g2, hc1, hlt, hlt', q1, q2]
      refine ⟨by omega, by omega, dcallK hcall ?_⟩
      simp -implicitDefEqProofs
      exact ⟨by omega, by simpa using go⟩
    · have hltI : ¬ (i : Int) + 1 < us.length := by omega
      refine Run2.of I 1000 ?_
      simp -implicitDefEqProofs [hltI]
end Go.AG
