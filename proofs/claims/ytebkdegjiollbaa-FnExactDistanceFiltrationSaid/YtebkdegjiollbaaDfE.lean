/- DistanceFiltration: the program. No statement is made here. -/
import Derived.Test.YtebkdegjiollbaaDfD
namespace Go.AG
open Go.Proofs Go.Proofs.Ytebkdegjiollbaa
set_option linter.unusedSimpArgs false
set_option linter.unusedVariables false
set_option maxRecDepth 4000
theorem Lk_at {E : Int} : ∀ {L : List (List Int)} {t : Option (List Int)}, Lk E L t → ∀ {j : Nat} (hj : j < L.length), nxr E L[j] = if h : j + 1 < L.length then some L[j + 1] else t
  | [w], t, h, 0, hj => h
  | w :: w' :: L, t, h, 0, hj => by simpa using h.1
  | w :: w' :: L, t, h, j + 1, hj => by
    have := Lk_at (L := w' :: L) h.2 (j := j) (by simpa using hj)
    simpa using this
theorem full_mx {rs : LS} {w : List Int} {t : Int} (ht : IsMx (fun x => ∃ a b, a < w.length ∧ b < w.length ∧ x = pr rs w a b) t) : t = gtm rs w :=
  ht.eq (gtm_mx rs w) (fun x h => h) fun x h => .inr h
theorem dfN_top {n k : Nat} (h : n ≤ k) : dfN n k = dfN n n := by
  induction k with
  | zero => obtain rfl : n = 0 := by omega
            rfl
  | succ k ih =>
    rcases Nat.lt_or_ge k n with h1 | h1
    · obtain rfl : n = k + 1 := by omega
      rfl
    · rw [dfN_succ, ih h1, cb_many n (k + 1) 0 (by omega), List.append_nil]
noncomputable def orcX2 : List (Nat × (List AV → Option (Prop × AV))) := (83, o_isDistanceTable) :: (72, o_isDimension) :: (120, o_isTime) :: (84, o_sizeSS) :: []
theorem orcX2_p : Pure Try.prog (lk orcX2) := (lk_pure o_isDistanceTable_k (lk_pure o_isDimension_k (lk_pure o_isTime_k (lk_pure o_sizeSS_k lk_pure0))))
@[simp] theorem orcX2_l (b : Bool) (g : FuncId) (l : List AV) : lk orcX2 b g l = if g = 83 then o_isDistanceTable l else if g = 72 then o_isDimension l else if g = 120 then o_isTime l else if g = 84 then o_sizeSS l else none := nr rfl
abbrev k39_o0 : List AJ := [.o ⟨(some 4), none, false, .alloc true 2 (.agg [.nilsl, .nilsl]), none⟩, .o ⟨(some 5), none, false, .mv (.c (.int .i64 0)), (some [0, 1, 4])⟩]
abbrev k39_o1 : List AJ := [.o ⟨(some 16), none, false, .mv (.t 0), none⟩, .o ⟨(some 17), none, false, .call 83 [(.t 16)], none⟩, .o ⟨(some 18), none, false, .un .not (.t 17), (some [0, 1, 4, 18])⟩]
abbrev k39_o2 : List AJ := [.o ⟨(some 19), none, false, .build [.nilsl, .nilsl] [], none⟩, .o ⟨none, none, false, .store 2 (.t 4) (.t 19), none⟩, .o ⟨(some 5), none, false, .mv (.c (.int .i64 7)), (some [4, 5])⟩]
def k39_3 : ACode := .seq (.region k39_o2) .ret
def k39_4 : ACode := .cond (.t 18) k39_3 .skip
def k39_5 : ACode := .seq (.region k39_o1) k39_4
abbrev k39_o3 : List AJ := [.o ⟨(some 20), none, false, .mv (.t 1), none⟩, .o ⟨(some 21), none, false, .call 72 [(.t 20)], none⟩, .o ⟨(some 22), none, false, .un .not (.t 21), (some [0, 1, 4, 22])⟩]
abbrev k39_o4 : List AJ := [.o ⟨(some 23), none, false, .build [.nilsl, .nilsl] [], none⟩, .o ⟨none, none, false, .store 2 (.t 4) (.t 23), none⟩, .o ⟨(some 5), none, false, .mv (.c (.int .i64 2)), (some [4, 5])⟩]
def k39_8 : ACode := .seq (.region k39_o4) .ret
def k39_9 : ACode := .cond (.t 22) k39_8 .skip
def k39_10 : ACode := .seq (.region k39_o3) k39_9
abbrev k39_o5 : List AJ := [.o ⟨(some 24), none, false, .mv (.t 0), none⟩, .o ⟨(some 25), none, false, .call 84 [(.t 24)], none⟩, .o ⟨(some 6), none, false, .mv (.t 25), (some [0, 1, 4, 6])⟩]
abbrev k39_o6 : List AJ := [.o ⟨(some 7), none, false, .alloc true 2 (.agg [.nilsl, .nilsl]), (some [0, 1, 4, 6, 7])⟩]
abbrev k39_o7 : List AJ := [.o ⟨(some 8), none, false, .mv (.c (.int .i64 1)), (some [0, 1, 4, 6, 7, 8])⟩]
abbrev k39_o8 : List AJ := [.o ⟨(some 26), none, false, .mv (.t 8), none⟩, .o ⟨(some 27), none, false, .mv (.t 1), none⟩, .o ⟨(some 28), none, true, .bin .add (.t 27) (.c (.int .i64 1)), none⟩, .o ⟨(some 29), none, false, .mv (.t 6), none⟩, .o ⟨(some 30), none, false, .mx false [(.t 28), (.t 29)], none⟩, .o ⟨(some 31), none, false, .bin .leq (.t 26) (.t 30), (some [0, 1, 4, 6, 7, 8, 31])⟩]
def k39_15 : ACode := .cond (.t 31) .skip (.exit 0)
def k39_16 : ACode := .seq (.region k39_o8) k39_15
abbrev k39_o9 : List AJ := [.o ⟨(some 34), none, false, .mv (.t 8), none⟩, .o ⟨(some 35), none, false, .call 85 [(.t 34)], none⟩, .o ⟨(some 9), none, false, .mv (.t 35), none⟩, .o ⟨(some 10), none, false, .mv (.c (.bool true)), (some [0, 1, 4, 6, 7, 8, 9, 10])⟩]
abbrev k39_o10 : List AJ := [.o ⟨(some 36), none, false, .mv (.t 10), (some [0, 1, 4, 6, 7, 8, 9, 36])⟩]
def k39_19 : ACode := .cond (.t 36) .skip (.exit 2)
def k39_20 : ACode := .seq (.region k39_o10) k39_19
abbrev k39_o11 : List AJ := [.o ⟨(some 11), none, false, .mv (.c (.int .i64 0)), (some [0, 1, 4, 6, 7, 8, 9, 11])⟩]
abbrev k39_o12 : List AJ := [.o ⟨(some 37), none, false, .mv (.t 9), none⟩, .o ⟨(some 38), none, false, .len (.t 37), none⟩, .o ⟨(some 39), none, false, .mv (.c (.int .i64 0)), (some [0, 1, 4, 6, 7, 8, 9, 11, 37, 38, 39])⟩]
abbrev k39_o13 : List AJ := [.o ⟨(some 40), none, false, .bin .lss (.t 39) (.t 38), (some [0, 1, 4, 6, 7, 8, 9, 11, 37, 38, 39, 40])⟩]
abbrev k39_o14 : List AJ := [.o ⟨(some 41), none, false, .idxA 1 (.t 37) (.t 39), none⟩, .o ⟨(some 42), none, false, .load 1 false (.t 41), none⟩, .o ⟨(some 13), none, false, .mv (.t 42), (some [0, 1, 4, 6, 7, 8, 9, 11, 13, 37, 38, 39])⟩]
abbrev k39_o15 : List AJ := [.o ⟨(some 43), none, false, .mv (.t 9), none⟩, .o ⟨(some 44), none, false, .len (.t 43), none⟩, .o ⟨(some 45), none, false, .mv (.c (.int .i64 0)), (some [0, 1, 4, 6, 7, 8, 9, 11, 13, 37, 38, 39, 43, 44, 45])⟩]
abbrev k39_o16 : List AJ := [.o ⟨(some 46), none, false, .bin .lss (.t 45) (.t 44), (some [0, 1, 4, 6, 7, 8, 9, 11, 13, 37, 38, 39, 43, 44, 45, 46])⟩]
abbrev k39_o17 : List AJ := [.o ⟨(some 47), none, false, .idxA 1 (.t 43) (.t 45), none⟩, .o ⟨(some 48), none, false, .load 1 false (.t 47), none⟩, .o ⟨(some 15), none, false, .mv (.t 48), (some [0, 1, 4, 6, 7, 8, 9, 11, 13, 15, 37, 38, 39, 43, 44, 45])⟩]
abbrev k39_o18 : List AJ := [.o ⟨(some 49), none, false, .mv (.t 11), none⟩, .o ⟨(some 50), none, false, .mv (.t 0), none⟩, .o ⟨(some 51), none, false, .mv (.t 13), none⟩, .o ⟨(some 52), none, false, .idxA 1 (.t 50) (.t 51), none⟩, .o ⟨(some 53), none, false, .load 1 false (.t 52), none⟩, .o ⟨(some 54), none, false, .mv (.t 15), none⟩, .o ⟨(some 55), none, false, .idxA 1 (.t 53) (.t 54), none⟩, .o ⟨(some 56), none, false, .load 1 false (.t 55), none⟩, .o ⟨(some 57), none, false, .mx true [(.t 49), (.t 56)], none⟩, .o ⟨(some 11), none, false, .mv (.t 57), (some [0, 1, 4, 6, 7, 8, 9, 11, 13, 37, 38, 39, 43, 44, 45])⟩]
def k39_30 : ACode := .region k39_o18
def k39_31 : ACode := .seq (.region k39_o17) k39_30
abbrev k39_o19 : List AJ := [.o ⟨(some 58), none, true, .bin .add (.t 45) (.c (.int .i64 1)), none⟩, .o ⟨(some 45), none, false, .mv (.t 58), (some [0, 1, 4, 6, 7, 8, 9, 11, 13, 37, 38, 39, 43, 44, 45])⟩]
def k39_33 : ACode := .region k39_o19
def k39_34 : ACode := .seq (.block 7 k39_31) k39_33
def k39_35 : ACode := .seq (.cond (.t 46) .skip (.exit 6)) k39_34
def k39_36 : ACode := .seq (.region k39_o16) k39_35
def k39_37 : ACode := .loop k39_36
def k39_38 : ACode := .block 6 k39_37
def k39_39 : ACode := .seq (.region k39_o15) k39_38
def k39_40 : ACode := .seq (.region k39_o14) k39_39
abbrev k39_o20 : List AJ := [.o ⟨(some 59), none, true, .bin .add (.t 39) (.c (.int .i64 1)), none⟩, .o ⟨(some 39), none, false, .mv (.t 59), (some [0, 1, 4, 6, 7, 8, 9, 11, 37, 38, 39])⟩]
def k39_42 : ACode := .region k39_o20
def k39_43 : ACode := .seq (.block 5 k39_40) k39_42
def k39_44 : ACode := .seq (.cond (.t 40) .skip (.exit 4)) k39_43
def k39_45 : ACode := .seq (.region k39_o13) k39_44
def k39_46 : ACode := .loop k39_45
def k39_47 : ACode := .block 4 k39_46
def k39_48 : ACode := .seq (.region k39_o12) k39_47
abbrev k39_o21 : List AI := [⟨(some 60), none, false, .fieldA 0 (.t 7), none⟩, ⟨(some 61), none, false, .fieldA 0 (.t 60), none⟩, ⟨(some 62), none, false, .load 1 false (.t 61), none⟩, ⟨(some 63), none, false, .mv (.t 9), none⟩, ⟨(some 64), none, false, .bsl false 1 [(.t 63)], none⟩, ⟨(some 65), none, false, .append 1 24 (.t 62) (.t 64), none⟩, ⟨(some 66), none, false, .fieldA 1 (.t 7), none⟩, ⟨(some 67), none, false, .load 1 false (.t 66), none⟩, ⟨(some 68), none, false, .mv (.t 11), none⟩, ⟨(some 69), none, false, .bsl false 1 [(.t 68)], none⟩, ⟨(some 70), none, false, .append 1 8 (.t 67) (.t 69), none⟩, ⟨(some 71), none, false, .fieldA 0 (.t 7), none⟩, ⟨(some 72), none, false, .fieldA 0 (.t 71), none⟩, ⟨none, none, false, .store 1 (.t 72) (.t 65), none⟩, ⟨(some 73), none, false, .fieldA 1 (.t 7), none⟩, ⟨none, none, false, .store 1 (.t 73) (.t 70), none⟩]
abbrev k39_o22 : List AJ := [.o ⟨(some 60), none, false, .fieldA 0 (.t 7), none⟩, .o ⟨(some 61), none, false, .fieldA 0 (.t 60), none⟩, .o ⟨(some 62), none, false, .load 1 false (.t 61), none⟩, .o ⟨(some 63), none, false, .mv (.t 9), none⟩, .o ⟨(some 64), none, false, .bsl false 1 [(.t 63)], none⟩, .o ⟨(some 65), none, false, .append 1 24 (.t 62) (.t 64), none⟩, .o ⟨(some 66), none, false, .fieldA 1 (.t 7), none⟩, .o ⟨(some 67), none, false, .load 1 false (.t 66), none⟩, .o ⟨(some 68), none, false, .mv (.t 11), none⟩, .o ⟨(some 69), none, false, .bsl false 1 [(.t 68)], none⟩, .o ⟨(some 70), none, false, .append 1 8 (.t 67) (.t 69), none⟩, .o ⟨(some 71), none, false, .fieldA 0 (.t 7), none⟩, .o ⟨(some 72), none, false, .fieldA 0 (.t 71), none⟩, .o ⟨none, none, false, .store 1 (.t 72) (.t 65), (some [0, 1, 4, 6, 7, 8, 9, 70])⟩, .o ⟨(some 73), none, false, .fieldA 1 (.t 7), none⟩, .o ⟨none, none, false, .store 1 (.t 73) (.t 70), (some [0, 1, 4, 6, 7, 8, 9])⟩]
abbrev k39_o23 : List AJ := [.o ⟨(some 60), none, false, .fieldA 0 (.t 7), none⟩, .o ⟨(some 61), none, false, .fieldA 0 (.t 60), none⟩, .o ⟨(some 62), none, false, .load 1 false (.t 61), none⟩, .o ⟨(some 63), none, false, .mv (.t 9), none⟩, .o ⟨(some 64), none, false, .bsl false 1 [(.t 63)], none⟩, .o ⟨(some 66), none, false, .fieldA 1 (.t 7), none⟩, .o ⟨(some 65), none, false, .append 1 24 (.t 62) (.t 64), none⟩, .o ⟨(some 67), none, false, .load 1 false (.t 66), none⟩, .o ⟨(some 68), none, false, .mv (.t 11), none⟩, .o ⟨(some 69), none, false, .bsl false 1 [(.t 68)], none⟩, .o ⟨(some 70), none, false, .append 1 8 (.t 67) (.t 69), none⟩, .o ⟨(some 71), none, false, .fieldA 0 (.t 7), none⟩, .o ⟨(some 72), none, false, .fieldA 0 (.t 71), none⟩, .o ⟨none, none, false, .store 1 (.t 72) (.t 65), (some [0, 1, 4, 6, 7, 8, 9, 70])⟩, .o ⟨(some 73), none, false, .fieldA 1 (.t 7), none⟩, .o ⟨none, none, false, .store 1 (.t 73) (.t 70), (some [0, 1, 4, 6, 7, 8, 9])⟩]
abbrev k39_o24 : List AJ := [.o ⟨(some 60), none, false, .fieldA 0 (.t 7), none⟩, .o ⟨(some 61), none, false, .fieldA 0 (.t 60), none⟩, .o ⟨(some 62), none, false, .load 1 false (.t 61), none⟩, .o ⟨(some 63), none, false, .mv (.t 9), none⟩, .o ⟨(some 64), none, false, .bsl false 1 [(.t 63)], none⟩, .o ⟨(some 66), none, false, .fieldA 1 (.t 7), none⟩, .o ⟨(some 67), none, false, .load 1 false (.t 66), none⟩, .o ⟨(some 65), none, false, .append 1 24 (.t 62) (.t 64), none⟩, .o ⟨(some 68), none, false, .mv (.t 11), none⟩, .o ⟨(some 69), none, false, .bsl false 1 [(.t 68)], none⟩, .o ⟨(some 70), none, false, .append 1 8 (.t 67) (.t 69), none⟩, .o ⟨(some 71), none, false, .fieldA 0 (.t 7), none⟩, .o ⟨(some 72), none, false, .fieldA 0 (.t 71), none⟩, .o ⟨none, none, false, .store 1 (.t 72) (.t 65), (some [0, 1, 4, 6, 7, 8, 9, 70])⟩, .o ⟨(some 73), none, false, .fieldA 1 (.t 7), none⟩, .o ⟨none, none, false, .store 1 (.t 73) (.t 70), (some [0, 1, 4, 6, 7, 8, 9])⟩]
abbrev k39_o25 : List AJ := [.o ⟨(some 60), none, false, .fieldA 0 (.t 7), none⟩, .o ⟨(some 61), none, false, .fieldA 0 (.t 60), none⟩, .o ⟨(some 62), none, false, .load 1 false (.t 61), none⟩, .o ⟨(some 63), none, false, .mv (.t 9), none⟩, .o ⟨(some 64), none, false, .bsl false 1 [(.t 63)], none⟩, .o ⟨(some 66), none, false, .fieldA 1 (.t 7), none⟩, .o ⟨(some 68), none, false, .mv (.t 11), none⟩, .o ⟨(some 65), none, false, .append 1 24 (.t 62) (.t 64), none⟩, .o ⟨(some 67), none, false, .load 1 false (.t 66), none⟩, .o ⟨(some 69), none, false, .bsl false 1 [(.t 68)], none⟩, .o ⟨(some 70), none, false, .append 1 8 (.t 67) (.t 69), none⟩, .o ⟨(some 71), none, false, .fieldA 0 (.t 7), none⟩, .o ⟨(some 72), none, false, .fieldA 0 (.t 71), none⟩, .o ⟨none, none, false, .store 1 (.t 72) (.t 65), (some [0, 1, 4, 6, 7, 8, 9, 70])⟩, .o ⟨(some 73), none, false, .fieldA 1 (.t 7), none⟩, .o ⟨none, none, false, .store 1 (.t 73) (.t 70), (some [0, 1, 4, 6, 7, 8, 9])⟩]
abbrev k39_o26 : List AJ := [.o ⟨(some 60), none, false, .fieldA 0 (.t 7), none⟩, .o ⟨(some 61), none, false, .fieldA 0 (.t 60), none⟩, .o ⟨(some 62), none, false, .load 1 false (.t 61), none⟩, .o ⟨(some 63), none, false, .mv (.t 9), none⟩, .o ⟨(some 64), none, false, .bsl false 1 [(.t 63)], none⟩, .o ⟨(some 66), none, false, .fieldA 1 (.t 7), none⟩, .o ⟨(some 68), none, false, .mv (.t 11), none⟩, .o ⟨(some 67), none, false, .load 1 false (.t 66), none⟩, .o ⟨(some 65), none, false, .append 1 24 (.t 62) (.t 64), none⟩, .o ⟨(some 69), none, false, .bsl false 1 [(.t 68)], none⟩, .o ⟨(some 70), none, false, .append 1 8 (.t 67) (.t 69), none⟩, .o ⟨(some 71), none, false, .fieldA 0 (.t 7), none⟩, .o ⟨(some 72), none, false, .fieldA 0 (.t 71), none⟩, .o ⟨none, none, false, .store 1 (.t 72) (.t 65), (some [0, 1, 4, 6, 7, 8, 9, 70])⟩, .o ⟨(some 73), none, false, .fieldA 1 (.t 7), none⟩, .o ⟨none, none, false, .store 1 (.t 73) (.t 70), (some [0, 1, 4, 6, 7, 8, 9])⟩]
abbrev k39_o27 : List AJ := [.o ⟨(some 60), none, false, .fieldA 0 (.t 7), none⟩, .o ⟨(some 61), none, false, .fieldA 0 (.t 60), none⟩, .o ⟨(some 62), none, false, .load 1 false (.t 61), none⟩, .o ⟨(some 63), none, false, .mv (.t 9), none⟩, .o ⟨(some 64), none, false, .bsl false 1 [(.t 63)], none⟩, .o ⟨(some 66), none, false, .fieldA 1 (.t 7), none⟩, .o ⟨(some 68), none, false, .mv (.t 11), none⟩, .o ⟨(some 69), none, false, .bsl false 1 [(.t 68)], none⟩, .o ⟨(some 65), none, false, .append 1 24 (.t 62) (.t 64), none⟩, .o ⟨(some 67), none, false, .load 1 false (.t 66), none⟩, .o ⟨(some 70), none, false, .append 1 8 (.t 67) (.t 69), none⟩, .o ⟨(some 71), none, false, .fieldA 0 (.t 7), none⟩, .o ⟨(some 72), none, false, .fieldA 0 (.t 71), none⟩, .o ⟨none, none, false, .store 1 (.t 72) (.t 65), (some [0, 1, 4, 6, 7, 8, 9, 70])⟩, .o ⟨(some 73), none, false, .fieldA 1 (.t 7), none⟩, .o ⟨none, none, false, .store 1 (.t 73) (.t 70), (some [0, 1, 4, 6, 7, 8, 9])⟩]
abbrev k39_o28 : List AJ := [.o ⟨(some 60), none, false, .fieldA 0 (.t 7), none⟩, .o ⟨(some 61), none, false, .fieldA 0 (.t 60), none⟩, .o ⟨(some 62), none, false, .load 1 false (.t 61), none⟩, .o ⟨(some 63), none, false, .mv (.t 9), none⟩, .o ⟨(some 64), none, false, .bsl false 1 [(.t 63)], none⟩, .o ⟨(some 66), none, false, .fieldA 1 (.t 7), none⟩, .o ⟨(some 68), none, false, .mv (.t 11), none⟩, .o ⟨(some 69), none, false, .bsl false 1 [(.t 68)], none⟩, .o ⟨(some 67), none, false, .load 1 false (.t 66), none⟩, .o ⟨(some 65), none, false, .append 1 24 (.t 62) (.t 64), none⟩, .o ⟨(some 70), none, false, .append 1 8 (.t 67) (.t 69), none⟩, .o ⟨(some 71), none, false, .fieldA 0 (.t 7), none⟩, .o ⟨(some 72), none, false, .fieldA 0 (.t 71), none⟩, .o ⟨none, none, false, .store 1 (.t 72) (.t 65), (some [0, 1, 4, 6, 7, 8, 9, 70])⟩, .o ⟨(some 73), none, false, .fieldA 1 (.t 7), none⟩, .o ⟨none, none, false, .store 1 (.t 73) (.t 70), (some [0, 1, 4, 6, 7, 8, 9])⟩]
abbrev k39_o29 : List AJ := [.o ⟨(some 60), none, false, .fieldA 0 (.t 7), none⟩, .o ⟨(some 61), none, false, .fieldA 0 (.t 60), none⟩, .o ⟨(some 62), none, false, .load 1 false (.t 61), none⟩, .o ⟨(some 63), none, false, .mv (.t 9), none⟩, .o ⟨(some 64), none, false, .bsl false 1 [(.t 63)], none⟩, .o ⟨(some 68), none, false, .mv (.t 11), none⟩, .o ⟨(some 65), none, false, .append 1 24 (.t 62) (.t 64), none⟩, .o ⟨(some 66), none, false, .fieldA 1 (.t 7), none⟩, .o ⟨(some 67), none, false, .load 1 false (.t 66), none⟩, .o ⟨(some 69), none, false, .bsl false 1 [(.t 68)], none⟩, .o ⟨(some 70), none, false, .append 1 8 (.t 67) (.t 69), none⟩, .o ⟨(some 71), none, false, .fieldA 0 (.t 7), none⟩, .o ⟨(some 72), none, false, .fieldA 0 (.t 71), none⟩, .o ⟨none, none, false, .store 1 (.t 72) (.t 65), (some [0, 1, 4, 6, 7, 8, 9, 70])⟩, .o ⟨(some 73), none, false, .fieldA 1 (.t 7), none⟩, .o ⟨none, none, false, .store 1 (.t 73) (.t 70), (some [0, 1, 4, 6, 7, 8, 9])⟩]
abbrev k39_o30 : List AJ := [.o ⟨(some 60), none, false, .fieldA 0 (.t 7), none⟩, .o ⟨(some 61), none, false, .fieldA 0 (.t 60), none⟩, .o ⟨(some 62), none, false, .load 1 false (.t 61), none⟩, .o ⟨(some 63), none, false, .mv (.t 9), none⟩, .o ⟨(some 64), none, false, .bsl false 1 [(.t 63)], none⟩, .o ⟨(some 68), none, false, .mv (.t 11), none⟩, .o ⟨(some 66), none, false, .fieldA 1 (.t 7), none⟩, .o ⟨(some 65), none, false, .append 1 24 (.t 62) (.t 64), none⟩, .o ⟨(some 67), none, false, .load 1 false (.t 66), none⟩, .o ⟨(some 69), none, false, .bsl false 1 [(.t 68)], none⟩, .o ⟨(some 70), none, false, .append 1 8 (.t 67) (.t 69), none⟩, .o ⟨(some 71), none, false, .fieldA 0 (.t 7), none⟩, .o ⟨(some 72), none, false, .fieldA 0 (.t 71), none⟩, .o ⟨none, none, false, .store 1 (.t 72) (.t 65), (some [0, 1, 4, 6, 7, 8, 9, 70])⟩, .o ⟨(some 73), none, false, .fieldA 1 (.t 7), none⟩, .o ⟨none, none, false, .store 1 (.t 73) (.t 70), (some [0, 1, 4, 6, 7, 8, 9])⟩]
abbrev k39_o31 : List AJ := [.o ⟨(some 60), none, false, .fieldA 0 (.t 7), none⟩, .o ⟨(some 61), none, false, .fieldA 0 (.t 60), none⟩, .o ⟨(some 62), none, false, .load 1 false (.t 61), none⟩, .o ⟨(some 63), none, false, .mv (.t 9), none⟩, .o ⟨(some 64), none, false, .bsl false 1 [(.t 63)], none⟩, .o ⟨(some 68), none, false, .mv (.t 11), none⟩, .o ⟨(some 66), none, false, .fieldA 1 (.t 7), none⟩, .o ⟨(some 67), none, false, .load 1 false (.t 66), none⟩, .o ⟨(some 65), none, false, .append 1 24 (.t 62) (.t 64), none⟩, .o ⟨(some 69), none, false, .bsl false 1 [(.t 68)], none⟩, .o ⟨(some 70), none, false, .append 1 8 (.t 67) (.t 69), none⟩, .o ⟨(some 71), none, false, .fieldA 0 (.t 7), none⟩, .o ⟨(some 72), none, false, .fieldA 0 (.t 71), none⟩, .o ⟨none, none, false, .store 1 (.t 72) (.t 65), (some [0, 1, 4, 6, 7, 8, 9, 70])⟩, .o ⟨(some 73), none, false, .fieldA 1 (.t 7), none⟩, .o ⟨none, none, false, .store 1 (.t 73) (.t 70), (some [0, 1, 4, 6, 7, 8, 9])⟩]
abbrev k39_o32 : List AJ := [.o ⟨(some 60), none, false, .fieldA 0 (.t 7), none⟩, .o ⟨(some 61), none, false, .fieldA 0 (.t 60), none⟩, .o ⟨(some 62), none, false, .load 1 false (.t 61), none⟩, .o ⟨(some 63), none, false, .mv (.t 9), none⟩, .o ⟨(some 64), none, false, .bsl false 1 [(.t 63)], none⟩, .o ⟨(some 68), none, false, .mv (.t 11), none⟩, .o ⟨(some 66), none, false, .fieldA 1 (.t 7), none⟩, .o ⟨(some 69), none, false, .bsl false 1 [(.t 68)], none⟩, .o ⟨(some 65), none, false, .append 1 24 (.t 62) (.t 64), none⟩, .o ⟨(some 67), none, false, .load 1 false (.t 66), none⟩, .o ⟨(some 70), none, false, .append 1 8 (.t 67) (.t 69), none⟩, .o ⟨(some 71), none, false, .fieldA 0 (.t 7), none⟩, .o ⟨(some 72), none, false, .fieldA 0 (.t 71), none⟩, .o ⟨none, none, false, .store 1 (.t 72) (.t 65), (some [0, 1, 4, 6, 7, 8, 9, 70])⟩, .o ⟨(some 73), none, false, .fieldA 1 (.t 7), none⟩, .o ⟨none, none, false, .store 1 (.t 73) (.t 70), (some [0, 1, 4, 6, 7, 8, 9])⟩]
abbrev k39_o33 : List AJ := [.o ⟨(some 60), none, false, .fieldA 0 (.t 7), none⟩, .o ⟨(some 61), none, false, .fieldA 0 (.t 60), none⟩, .o ⟨(some 62), none, false, .load 1 false (.t 61), none⟩, .o ⟨(some 63), none, false, .mv (.t 9), none⟩, .o ⟨(some 64), none, false, .bsl false 1 [(.t 63)], none⟩, .o ⟨(some 68), none, false, .mv (.t 11), none⟩, .o ⟨(some 66), none, false, .fieldA 1 (.t 7), none⟩, .o ⟨(some 69), none, false, .bsl false 1 [(.t 68)], none⟩, .o ⟨(some 67), none, false, .load 1 false (.t 66), none⟩, .o ⟨(some 65), none, false, .append 1 24 (.t 62) (.t 64), none⟩, .o ⟨(some 70), none, false, .append 1 8 (.t 67) (.t 69), none⟩, .o ⟨(some 71), none, false, .fieldA 0 (.t 7), none⟩, .o ⟨(some 72), none, false, .fieldA 0 (.t 71), none⟩, .o ⟨none, none, false, .store 1 (.t 72) (.t 65), (some [0, 1, 4, 6, 7, 8, 9, 70])⟩, .o ⟨(some 73), none, false, .fieldA 1 (.t 7), none⟩, .o ⟨none, none, false, .store 1 (.t 73) (.t 70), (some [0, 1, 4, 6, 7, 8, 9])⟩]
abbrev k39_o34 : List AJ := [.o ⟨(some 60), none, false, .fieldA 0 (.t 7), none⟩, .o ⟨(some 61), none, false, .fieldA 0 (.t 60), none⟩, .o ⟨(some 62), none, false, .load 1 false (.t 61), none⟩, .o ⟨(some 63), none, false, .mv (.t 9), none⟩, .o ⟨(some 64), none, false, .bsl false 1 [(.t 63)], none⟩, .o ⟨(some 68), none, false, .mv (.t 11), none⟩, .o ⟨(some 69), none, false, .bsl false 1 [(.t 68)], none⟩, .o ⟨(some 65), none, false, .append 1 24 (.t 62) (.t 64), none⟩, .o ⟨(some 66), none, false, .fieldA 1 (.t 7), none⟩, .o ⟨(some 67), none, false, .load 1 false (.t 66), none⟩, .o ⟨(some 70), none, false, .append 1 8 (.t 67) (.t 69), none⟩, .o ⟨(some 71), none, false, .fieldA 0 (.t 7), none⟩, .o ⟨(some 72), none, false, .fieldA 0 (.t 71), none⟩, .o ⟨none, none, false, .store 1 (.t 72) (.t 65), (some [0, 1, 4, 6, 7, 8, 9, 70])⟩, .o ⟨(some 73), none, false, .fieldA 1 (.t 7), none⟩, .o ⟨none, none, false, .store 1 (.t 73) (.t 70), (some [0, 1, 4, 6, 7, 8, 9])⟩]
abbrev k39_o35 : List AJ := [.o ⟨(some 60), none, false, .fieldA 0 (.t 7), none⟩, .o ⟨(some 61), none, false, .fieldA 0 (.t 60), none⟩, .o ⟨(some 62), none, false, .load 1 false (.t 61), none⟩, .o ⟨(some 63), none, false, .mv (.t 9), none⟩, .o ⟨(some 64), none, false, .bsl false 1 [(.t 63)], none⟩, .o ⟨(some 68), none, false, .mv (.t 11), none⟩, .o ⟨(some 69), none, false, .bsl false 1 [(.t 68)], none⟩, .o ⟨(some 66), none, false, .fieldA 1 (.t 7), none⟩, .o ⟨(some 65), none, false, .append 1 24 (.t 62) (.t 64), none⟩, .o ⟨(some 67), none, false, .load 1 false (.t 66), none⟩, .o ⟨(some 70), none, false, .append 1 8 (.t 67) (.t 69), none⟩, .o ⟨(some 71), none, false, .fieldA 0 (.t 7), none⟩, .o ⟨(some 72), none, false, .fieldA 0 (.t 71), none⟩, .o ⟨none, none, false, .store 1 (.t 72) (.t 65), (some [0, 1, 4, 6, 7, 8, 9, 70])⟩, .o ⟨(some 73), none, false, .fieldA 1 (.t 7), none⟩, .o ⟨none, none, false, .store 1 (.t 73) (.t 70), (some [0, 1, 4, 6, 7, 8, 9])⟩]
abbrev k39_o36 : List AJ := [.o ⟨(some 60), none, false, .fieldA 0 (.t 7), none⟩, .o ⟨(some 61), none, false, .fieldA 0 (.t 60), none⟩, .o ⟨(some 62), none, false, .load 1 false (.t 61), none⟩, .o ⟨(some 63), none, false, .mv (.t 9), none⟩, .o ⟨(some 64), none, false, .bsl false 1 [(.t 63)], none⟩, .o ⟨(some 68), none, false, .mv (.t 11), none⟩, .o ⟨(some 69), none, false, .bsl false 1 [(.t 68)], none⟩, .o ⟨(some 66), none, false, .fieldA 1 (.t 7), none⟩, .o ⟨(some 67), none, false, .load 1 false (.t 66), none⟩, .o ⟨(some 65), none, false, .append 1 24 (.t 62) (.t 64), none⟩, .o ⟨(some 70), none, false, .append 1 8 (.t 67) (.t 69), none⟩, .o ⟨(some 71), none, false, .fieldA 0 (.t 7), none⟩, .o ⟨(some 72), none, false, .fieldA 0 (.t 71), none⟩, .o ⟨none, none, false, .store 1 (.t 72) (.t 65), (some [0, 1, 4, 6, 7, 8, 9, 70])⟩, .o ⟨(some 73), none, false, .fieldA 1 (.t 7), none⟩, .o ⟨none, none, false, .store 1 (.t 73) (.t 70), (some [0, 1, 4, 6, 7, 8, 9])⟩]
abbrev k39_o37 : List AJ := [.o ⟨(some 75), none, false, .mv (.t 9), none⟩, .o ⟨(some 76), none, false, .mv (.t 6), none⟩, .o ⟨(some 77), none, false, .call 86 [(.t 75), (.t 76)], none⟩, .o ⟨(some 74), none, false, .mv (.t 77), none⟩, .o ⟨(some 78), none, false, .extract (.t 74) 0, none⟩, .o ⟨(some 79), none, false, .extract (.t 74) 1, none⟩, .o ⟨(some 9), none, false, .mv (.t 78), none⟩, .o ⟨(some 10), none, false, .mv (.t 79), (some [0, 1, 4, 6, 7, 8, 9, 10])⟩]
def k39_50 : ACode := .region k39_o37
def k39_51 : ACode := .seq (.drawE k39_o21 [k39_o22, k39_o23, k39_o24, k39_o25, k39_o26, k39_o27, k39_o28, k39_o29, k39_o30, k39_o31, k39_o32, k39_o33, k39_o34, k39_o35, k39_o36] [[0, 1, 2, 3, 4, 5, 6, 7, 8, 9, 10, 11, 12, 13, 14, 15], [0, 1, 2, 3, 4, 6, 5, 7, 8, 9, 10, 11, 12, 13, 14, 15], [0, 1, 2, 3, 4, 6, 7, 5, 8, 9, 10, 11, 12, 13, 14, 15], [0, 1, 2, 3, 4, 6, 8, 5, 7, 9, 10, 11, 12, 13, 14, 15], [0, 1, 2, 3, 4, 6, 8, 7, 5, 9, 10, 11, 12, 13, 14, 15], [0, 1, 2, 3, 4, 6, 8, 9, 5, 7, 10, 11, 12, 13, 14, 15], [0, 1, 2, 3, 4, 6, 8, 9, 7, 5, 10, 11, 12, 13, 14, 15], [0, 1, 2, 3, 4, 8, 5, 6, 7, 9, 10, 11, 12, 13, 14, 15], [0, 1, 2, 3, 4, 8, 6, 5, 7, 9, 10, 11, 12, 13, 14, 15], [0, 1, 2, 3, 4, 8, 6, 7, 5, 9, 10, 11, 12, 13, 14, 15], [0, 1, 2, 3, 4, 8, 6, 9, 5, 7, 10, 11, 12, 13, 14, 15], [0, 1, 2, 3, 4, 8, 6, 9, 7, 5, 10, 11, 12, 13, 14, 15], [0, 1, 2, 3, 4, 8, 9, 5, 6, 7, 10, 11, 12, 13, 14, 15], [0, 1, 2, 3, 4, 8, 9, 6, 5, 7, 10, 11, 12, 13, 14, 15], [0, 1, 2, 3, 4, 8, 9, 6, 7, 5, 10, 11, 12, 13, 14, 15]] rfl rfl) (.cut k39_50)
def k39_52 : ACode := .seq k39_48 k39_51
def k39_53 : ACode := .seq (.region k39_o11) k39_52
def k39_54 : ACode := .block 3 k39_53
def k39_55 : ACode := .seq k39_20 k39_54
def k39_56 : ACode := .loop k39_55
def k39_57 : ACode := .block 2 k39_56
def k39_58 : ACode := .seq (.region k39_o9) k39_57
abbrev k39_o38 : List AJ := [.o ⟨(some 32), none, false, .mv (.t 8), none⟩, .o ⟨(some 33), none, true, .bin .add (.t 32) (.c (.int .i64 1)), none⟩, .o ⟨(some 8), none, false, .mv (.t 33), (some [0, 1, 4, 6, 7, 8])⟩]
def k39_60 : ACode := .region k39_o38
def k39_61 : ACode := .seq (.block 1 k39_58) k39_60
def k39_62 : ACode := .seq k39_16 k39_61
def k39_63 : ACode := .loop k39_62
def k39_64 : ACode := .block 0 k39_63
def k39_65 : ACode := .seq (.region k39_o7) k39_64
abbrev k39_o39 : List AJ := [.o ⟨(some 80), none, false, .fieldA 1 (.t 7), none⟩, .o ⟨(some 81), none, false, .load 1 false (.t 80), none⟩, .o ⟨(some 82), none, false, .len (.t 81), none⟩, .o ⟨(some 83), none, false, .bin .gtr (.t 82) (.c (.int .i64 48)), (some [4, 7, 83])⟩]
abbrev k39_o40 : List AJ := [.o ⟨(some 84), none, false, .build [.nilsl, .nilsl] [], none⟩, .o ⟨none, none, false, .store 2 (.t 4) (.t 84), none⟩, .o ⟨(some 5), none, false, .mv (.c (.int .i64 5)), (some [4, 5])⟩]
def k39_68 : ACode := .seq (.region k39_o40) .ret
def k39_69 : ACode := .cond (.t 83) k39_68 .skip
def k39_70 : ACode := .seq (.region k39_o39) k39_69
abbrev k39_o41 : List AJ := [.o ⟨(some 85), none, false, .load 2 true (.t 7), none⟩, .o ⟨none, none, false, .store 2 (.t 4) (.t 85), none⟩, .o ⟨(some 5), none, false, .mv (.c (.int .i64 0)), (some [4, 5])⟩]
def k39_72 : ACode := .seq (.region k39_o41) .ret
def k39_73 : ACode := .seq k39_70 k39_72
def k39_74 : ACode := .seq k39_65 k39_73
def k39_75 : ACode := .seq (.region k39_o6) k39_74
def k39_76 : ACode := .seq (.region k39_o5) k39_75
def k39_77 : ACode := .seq k39_10 k39_76
def k39_78 : ACode := .seq k39_5 k39_77
def k39_79 : ACode := .seq (.region k39_o0) k39_78
@[simp, simp ↓] theorem k39_3r : sR k39_3 k39_o2 .ret := yR rfl
@[simp, simp ↓] theorem k39_4r : rC k39_4 (.t 18) k39_3 .skip := zC rfl
@[simp, simp ↓] theorem k39_5r : sR k39_5 k39_o1 k39_4 := yR rfl
@[simp, simp ↓] theorem k39_8r : sR k39_8 k39_o4 .ret := yR rfl
@[simp, simp ↓] theorem k39_9r : rC k39_9 (.t 22) k39_8 .skip := zC rfl
@[simp, simp ↓] theorem k39_10r : sR k39_10 k39_o3 k39_9 := yR rfl
@[simp, simp ↓] theorem k39_15r : rC k39_15 (.t 31) .skip (.exit 0) := zC rfl
@[simp, simp ↓] theorem k39_16r : sR k39_16 k39_o8 k39_15 := yR rfl
@[simp, simp ↓] theorem k39_19r : rC k39_19 (.t 36) .skip (.exit 2) := zC rfl
@[simp, simp ↓] theorem k39_20r : sR k39_20 k39_o10 k39_19 := yR rfl
@[simp, simp ↓] theorem k39_30r : rR k39_30 k39_o18 := zR rfl
@[simp, simp ↓] theorem k39_31r : sR k39_31 k39_o17 k39_30 := yR rfl
@[simp, simp ↓] theorem k39_33r : rR k39_33 k39_o19 := zR rfl
@[simp, simp ↓] theorem k39_34r : sB k39_34 7 k39_31 k39_33 := yB rfl
@[simp, simp ↓] theorem k39_35r : sC k39_35 (.t 46) .skip (.exit 6) k39_34 := yC rfl
@[simp, simp ↓] theorem k39_36r : sR k39_36 k39_o16 k39_35 := yR rfl
@[simp, simp ↓] theorem k39_37r : rL k39_37 k39_36 := zL rfl
@[simp, simp ↓] theorem k39_38r : rB k39_38 6 k39_37 := zB rfl
@[simp, simp ↓] theorem k39_39r : sR k39_39 k39_o15 k39_38 := yR rfl
@[simp, simp ↓] theorem k39_40r : sR k39_40 k39_o14 k39_39 := yR rfl
@[simp, simp ↓] theorem k39_42r : rR k39_42 k39_o20 := zR rfl
@[simp, simp ↓] theorem k39_43r : sB k39_43 5 k39_40 k39_42 := yB rfl
@[simp, simp ↓] theorem k39_44r : sC k39_44 (.t 40) .skip (.exit 4) k39_43 := yC rfl
@[simp, simp ↓] theorem k39_45r : sR k39_45 k39_o13 k39_44 := yR rfl
@[simp, simp ↓] theorem k39_46r : rL k39_46 k39_45 := zL rfl
@[simp, simp ↓] theorem k39_47r : rB k39_47 4 k39_46 := zB rfl
@[simp, simp ↓] theorem k39_48r : sR k39_48 k39_o12 k39_47 := yR rfl
@[simp, simp ↓] theorem k39_50r : rR k39_50 k39_o37 := zR rfl
@[simp, simp ↓] theorem k39_51r : sE k39_51 [k39_o22, k39_o23, k39_o24, k39_o25, k39_o26, k39_o27, k39_o28, k39_o29, k39_o30, k39_o31, k39_o32, k39_o33, k39_o34, k39_o35, k39_o36] (.cut k39_50) := yE rfl
@[simp, simp ↓] theorem k39_52r : rS k39_52 k39_48 k39_51 := zS rfl
@[simp, simp ↓] theorem k39_53r : sR k39_53 k39_o11 k39_52 := yR rfl
@[simp, simp ↓] theorem k39_54r : rB k39_54 3 k39_53 := zB rfl
@[simp, simp ↓] theorem k39_55r : rS k39_55 k39_20 k39_54 := zS rfl
@[simp, simp ↓] theorem k39_56r : rL k39_56 k39_55 := zL rfl
@[simp, simp ↓] theorem k39_57r : rB k39_57 2 k39_56 := zB rfl
@[simp, simp ↓] theorem k39_58r : sR k39_58 k39_o9 k39_57 := yR rfl
@[simp, simp ↓] theorem k39_60r : rR k39_60 k39_o38 := zR rfl
@[simp, simp ↓] theorem k39_61r : sB k39_61 1 k39_58 k39_60 := yB rfl
@[simp, simp ↓] theorem k39_62r : rS k39_62 k39_16 k39_61 := zS rfl
@[simp, simp ↓] theorem k39_63r : rL k39_63 k39_62 := zL rfl
@[simp, simp ↓] theorem k39_64r : rB k39_64 0 k39_63 := zB rfl
@[simp, simp ↓] theorem k39_65r : sR k39_65 k39_o7 k39_64 := yR rfl
@[simp, simp ↓] theorem k39_68r : sR k39_68 k39_o40 .ret := yR rfl
@[simp, simp ↓] theorem k39_69r : rC k39_69 (.t 83) k39_68 .skip := zC rfl
@[simp, simp ↓] theorem k39_70r : sR k39_70 k39_o39 k39_69 := yR rfl
@[simp, simp ↓] theorem k39_72r : sR k39_72 k39_o41 .ret := yR rfl
@[simp, simp ↓] theorem k39_73r : rS k39_73 k39_70 k39_72 := zS rfl
@[simp, simp ↓] theorem k39_74r : rS k39_74 k39_65 k39_73 := zS rfl
@[simp, simp ↓] theorem k39_75r : sR k39_75 k39_o6 k39_74 := yR rfl
@[simp, simp ↓] theorem k39_76r : sR k39_76 k39_o5 k39_75 := yR rfl
@[simp, simp ↓] theorem k39_77r : rS k39_77 k39_10 k39_76 := zS rfl
@[simp, simp ↓] theorem k39_78r : rS k39_78 k39_5 k39_77 := zS rfl
@[simp, simp ↓] theorem k39_79r : sR k39_79 k39_o0 k39_78 := yR rfl
noncomputable abbrev k39_C : Orc → Cx := mkC Try.prog [4, 7, 99999] 39 86 [.cell 4 2 true, .tmp 5]
theorem k39_of : OfP Try.prog Try.f39 39 86 k39_C k39_79 := @ofP _ _ _ _ _ _ _ _ Try.func39 (by decide +kernel) rfl (by kernel_rfl) rfl (by kernel_rfl)
theorem implDF_o (rs : LS) (d : Int) (hl : ssTot rs ≤ 1048576) : ACalls Try.prog 39 [.snap 1 (rs.map il), .int .i64 d] [] (fun v h' => ∃ w, v = .tup [w, .int .i64 (dfCode rs d)] ∧ OwnFil w (dfF rs d) h') := by
  have hf := fit_of_tot hl
  have hf1 := hf.1
  refine ACalls.permR ?_
  refine k39_of rfl orcX2_p fun I => ?_
  by_cases ht : tbOk rs
  · by_cases hd : 0 ≤ d ∧ d ≤ 3
    · have ht10 := ht.1
      refine Run2.of I 1000 ?_
      simp -implicitDefEqProofs [hl, ht, hd, hf1]
      intro b c hbc
      refine gK.go ?_
      simp -implicitDefEqProofs
      obtain ⟨D, hD⟩ : ∃ D : Nat, (d + 1).toNat = D := ⟨_, rfl⟩
      have hD4 : D ≤ 4 := by omega
      have p10 : (2 : Nat) ^ rs.length ≤ 2 ^ 10 := Nat.pow_le_pow_right (by omega) (by omega)
      obtain ⟨n, hn⟩ : ∃ n, rs.length = n := ⟨_, rfl⟩
      rw [hn] at p10 ht10 hf1 ⊢
      refine Run2.loopE (α := Nat × AV × AV × List AV × Heap × Heap × Heap) (fun s => [(0, .snap 1 (rs.map il)), (1, .int .i64 d), (4, .ptr b 2 0 0), (6, .int .i64 n), (7, .ptr c 2 0 0), (8, .int .i64 ((s.1 + 1 : Nat) : Int))])
        (fun s => s.2.2.2.2.2.1 ++ (s.2.2.2.2.1 ++ ((c, ⟨2, [.agg [s.2.1, s.2.2.1]]⟩) :: (b, ⟨2, [.agg [.nilsl, .nilsl]]⟩) :: s.2.2.2.2.2.2))) (fun s => min D n - s.1) (fun s => s.1 ≤ min D n ∧ Grow 1 s.2.1 s.2.2.2.1 s.2.2.2.2.1 ∧ Grow 1 s.2.2.1 (((dfN n s.1).map (gtm rs)).map iv) s.2.2.2.2.2.1 ∧ OwnP s.2.2.2.1 (dfN n s.1) s.2.2.2.2.2.2) (0, .nilsl, .nilsl, [], [], [], []) (by simp) (by simp) ⟨by omega, .nil, by simpa [dfN] using Grow.nil, [], .nil, .refl _⟩ ?_
      rintro ⟨k, u, w, us, hS, hT, hi⟩ ⟨hk, hgS, hgT, hO⟩ ih
      simp only at hk hgS hgT hO ih ⊢
      refine Run2.nd fun nd => ?_
      have cu := hgS.cell
      have cw := hgT.cell
      have hcn := dfN_cnt n k
      have hcn2 : (dfN n k).length ≤ 4096 := Nat.le_trans hcn (Nat.le_trans (Nat.mul_le_mul (by omega : k ≤ 4) p10) (by decide))
      have hcT : c ∉ dom hT := fun hm => (List.nodup_append.1 (by simpa only [dom_append] using nd)).2.2 c hm c (by simp [dom]) rfl
      have hcS : c ∉ dom hS := fun hm => (List.nodup_append.1 (List.nodup_append.1 (by simpa only [dom_append] using nd)).2.1).2.2 c hm c (by simp [dom]) rfl
      have hbT : b ∉ dom hT := fun hm => (List.nodup_append.1 (by simpa only [dom_append] using nd)).2.2 b hm b (by simp [dom]) rfl
      have hbS : b ∉ dom hS := fun hm => (List.nodup_append.1 (List.nodup_append.1 (by simpa only [dom_append] using nd)).2.1).2.2 b hm b (by simp [dom]) rfl
      by_cases hlt : k < min D n
      · have hlt' : ((k : Int) + 1) ≤ min (d + 1) (n : Int) := by omega
        obtain ⟨M, hM⟩ : ∃ M, M = cb (k + 1) n 0 := ⟨_, rfl⟩
        have hMl : ∀ W ∈ M, W.length = k + 1 := fun W hW => cb_len n (k + 1) 0 W (hM ▸ hW)
        have hMr : ∀ W ∈ M, inR n W := fun W hW c hc => by have := cb_rng n (k + 1) 0 W (hM ▸ hW) c hc; omega
        obtain ⟨M', hM'⟩ := cb_head n (k + 1) 0 (by omega)
        have hM0 : 0 < M.length := by rw [hM, hM']; simp
        have hMn : M.getD 0 [] = (List.range (k + 1)).map Int.ofNat := by
          rw [hM, hM']
          simp only [List.getD_cons_zero, up]
          apply List.map_congr_left
          intro a _
          simp
        have hMk : Lk (n : Int) M none := by
          have := cb_lk n (k + 1) 0
          rw [hM]
          simpa using this
        have hMc : M.length ≤ 1024 := by
          have := cb_cnt n (k + 1) 0
          rw [hM]; omega
        have hMs : dfN n (k + 1) = dfN n k ++ M := by rw [dfN_succ, hM]
        have go := fun u' w' us' hS' hT' hi' a b c => ih (k + 1, u', w', us', hS', hT', hi') ⟨by simp; omega, a, b, c⟩ (by simp; omega)
        clear ih
        refine Run2.of I 1000 ?_
        simp -implicitDefEqProofs [hlt']
        refine ⟨by omega, ?_⟩
        refine (firstChoice_w ((k : Int) + 1) _ (by omega)).mono ?_
        rintro s h' ⟨gs, hgs, hdj, rfl⟩
        rw [show ((k : Int) + 1).toNat = k + 1 by omega, ← hMn] at hgs
        refine gK.go ?_
        simp -implicitDefEqProofs
        refine Run2.loopE (α := Nat × AV × AV × AV × List AV × Heap × Heap × Heap × Heap) (fun y => [(0, .snap 1 (rs.map il)), (1, .int .i64 d), (4, .ptr b 2 0 0), (6, .int .i64 n), (7, .ptr c 2 0 0), (8, .int .i64 ((k : Int) + 1)), (9, y.2.1), (10, .bool (decide (y.1 < M.length)))])
          (fun y => y.2.2.2.2.2.1 ++ (y.2.2.2.2.2.2.2.1 ++ (y.2.2.2.2.2.2.1 ++ ((c, ⟨2, [.agg [y.2.2.1, y.2.2.2.1]]⟩) :: (b, ⟨2, [.agg [.nilsl, .nilsl]]⟩) :: y.2.2.2.2.2.2.2.2)))) (fun y => M.length - y.1)
          (fun y => y.1 ≤ M.length ∧ Grow 1 y.2.1 ((M.getD y.1 []).map iv) y.2.2.2.2.2.1 ∧ Grow 1 y.2.2.1 y.2.2.2.2.1 y.2.2.2.2.2.2.1 ∧ Grow 1 y.2.2.2.1 (((dfN n k ++ M.take y.1).map (gtm rs)).map iv) y.2.2.2.2.2.2.2.1 ∧ OwnP y.2.2.2.2.1 (dfN n k ++ M.take y.1) y.2.2.2.2.2.2.2.2) (0, s, u, w, us, gs, hS, hT, hi) (by simp [hM0]) rfl ⟨by omega, hgs, hgS, by simpa using hgT, by simpa using hO⟩ ?_
        clear hgS hgT hO nd cu cw hcT hcS hbT hbS hdj hgs
        rintro ⟨j, s, u, w, us, gs, hS, hT, hi⟩ ⟨hj, hgs, hgS, hgT, hO⟩ ih
        simp only at hj hgs hgS hgT hO ih ⊢
        refine Run2.nd fun nd => ?_
        have cu := hgS.cell
        have cw := hgT.cell
        simp only [dom_append, dom_cons, List.nodup_append, List.nodup_cons, List.mem_append, List.mem_cons] at nd
        have hcg : c ∉ dom gs := fun hm => nd.2.2 c hm c (by simp) rfl
        have hcT : c ∉ dom hT := fun hm => nd.2.1.2.2 c hm c (by simp) rfl
        have hcS : c ∉ dom hS := fun hm => nd.2.1.2.1.2.2 c hm c (by simp) rfl
        by_cases hjl : j < M.length
        · have hW := hMr _ (List.getElem_mem hjl)
          have hWl := hMl _ (List.getElem_mem hjl)
          have hnx := Lk_at hMk hjl
          have hWd : M.getD j [] = M[j] := by simp [hjl]
          rw [hWd] at hgs
          have hMt : M.take (j + 1) = M.take j ++ [M[j]] := List.take_succ_eq_append_getElem hjl
          generalize hWe : M[j] = W at *
          obtain ⟨id, rfl, rfl⟩ := hgs.ne (fun h0 => by rw [List.map_eq_nil_iff] at h0; rw [h0] at hWl; simp at hWl)
          have hcid : ¬ id = c := by intro e; subst e; exact hcg (by simp [dom])
          have hjd : decide (j < M.length) = true := by simp [hjl]
          rw [hjd]
          rw [List.length_map]
          refine Run2.of I 1000 ?_
          simp -implicitDefEqProofs
          refine Run2.loopE (α := Nat × Int) (fun s => [(0, .snap 1 (rs.map il)), (1, .int .i64 d), (4, .ptr b 2 0 0), (6, .int .i64 n), (7, .ptr c 2 0 0), (8, .int .i64 ((k : Int) + 1)), (9, .sl id 1 0 W.length none), (11, .int .i64 s.2), (37, .sl id 1 0 W.length none), (38, .int .i64 W.length), (39, .int .i64 (s.1 : Nat))]) (fun _ => (id, ⟨1, W.map iv⟩) :: (hT ++ (hS ++ (c, ⟨2, [.agg [u, w]]⟩) :: (b, ⟨2, [.agg [.nilsl, .nilsl]]⟩) :: hi))) (fun s => W.length - s.1) (fun s => s.1 ≤ W.length ∧ IsMx (fun x => ∃ a b, a < s.1 ∧ b < W.length ∧ x = pr rs W a b) s.2) (0, 0) (by simp) rfl ⟨by omega, .zero (by rintro x ⟨a, b, h1, _⟩; omega)⟩ ?_
          rintro ⟨a, t⟩ ⟨ha, hmx⟩ ih4
          simp only at ha hmx ih4 ⊢
          by_cases haw : a < W.length
          · have go2 := fun t h => ih4 (a + 1, t) ⟨by simp; omega, h⟩ (by simp; omega)
            clear ih4
            obtain ⟨x, hx, hxn, hxg⟩ := hW.at haw
            have hxn : x < rs.length := by omega
            refine Run2.of I 1000 ?_
            simp -implicitDefEqProofs [haw]
            refine Run2.loopE (α := Nat × Int) (fun s => [(0, .snap 1 (rs.map il)), (1, .int .i64 d), (4, .ptr b 2 0 0), (6, .int .i64 n), (7, .ptr c 2 0 0), (8, .int .i64 ((k : Int) + 1)), (9, .sl id 1 0 W.length none), (11, .int .i64 s.2), (13, .int .i64 W[a]), (37, .sl id 1 0 W.length none), (38, .int .i64 W.length), (39, .int .i64 (a : Nat)), (43, .sl id 1 0 W.length none), (44, .int .i64 W.length), (45, .int .i64 (s.1 : Nat))]) (fun _ => (id, ⟨1, W.map iv⟩) :: (hT ++ (hS ++ (c, ⟨2, [.agg [u, w]]⟩) :: (b, ⟨2, [.agg [.nilsl, .nilsl]]⟩) :: hi))) (fun s => W.length - s.1) (fun s => s.1 ≤ W.length ∧ IsMx (fun x => (∃ a' b', a' < a ∧ b' < W.length ∧ x = pr rs W a' b') ∨ ∃ b', b' < s.1 ∧ x = pr rs W a b') s.2) (0, t) (by simp) rfl ⟨by omega, hmx.congr fun x => ⟨.inl, fun h => h.elim (fun h => h) fun ⟨b', h1, _⟩ => by omega⟩⟩ ?_
            rintro ⟨q, t'⟩ ⟨hq, hmq⟩ ih
            simp only at hq hmq ih ⊢
            by_cases hqw : q < W.length
            · obtain ⟨y, hy, hyn, hyg⟩ := hW.at hqw
              have hxr : y < rs[x].length := by
                have := (ht.2 x hxn).1
                rw [show rs.getD x [] = rs[x] by simp [hxn]] at this
                omega
              have hpr : pr rs W a q = rs[x][y] := by
                unfold pr dst
                rw [hxg, hyg]
                simp [hxn, hxr]
              have go3 := ih (q + 1, max t' rs[x][y]) ⟨by simp; omega, by
                refine hmq.step fun z => ?_
                simp only
                constructor
                · rintro (h1 | ⟨b', h1, h2⟩)
                  · exact .inl (.inl h1)
                  · rcases Nat.lt_or_ge b' q with h3 | h3
                    · exact .inl (.inr ⟨b', h3, h2⟩)
                    · obtain rfl : b' = q := by omega
                      exact .inr (by rw [h2, hpr])
                · rintro ((h1 | ⟨b', h1, h2⟩) | h1)
                  · exact .inl h1
                  · exact .inr ⟨b', by omega, h2⟩
                  · exact .inr ⟨q, by omega, by rw [h1, hpr]⟩⟩ (by simp; omega)
              clear ih
              refine Run2.of I 1000 ?_
              simp -implicitDefEqProofs [haw, hqw, hx, hy, hxn, hxr]
              refine ⟨by omega, ?_⟩
              simpa [hx] using go3
            · obtain rfl : q = W.length := by omega
              clear ih
              have := go2 t' (hmq.congr fun z => ?_)
              · refine Run2.of I 1000 ?_
                simp -implicitDefEqProofs
                refine ⟨by omega, ?_⟩
                simpa using this
              · simp only
                constructor
                · rintro (⟨a', b', h1, h2, h3⟩ | ⟨b', h1, h2⟩)
                  · exact ⟨a', b', by omega, h2, h3⟩
                  · exact ⟨a, b', by omega, h1, h2⟩
                · rintro ⟨a', b', h1, h2, h3⟩
                  rcases Nat.lt_or_ge a' a with h4 | h4
                  · exact .inl ⟨a', b', h4, h2, h3⟩
                  · obtain rfl : a' = a := by omega
                    exact .inr ⟨b', h2, h3⟩
          · obtain rfl : a = W.length := by omega
            clear ih4
            have htm := full_mx hmx
            have hidn := nd
            have tail : ∀ (u' w' : AV) (hS' hT' : Heap), Grow 1 u' (us ++ [.sl id 1 0 W.length none]) hS' → Grow 1 w' (((dfN n k ++ M.take j).map (gtm rs)).map iv ++ [.int .i64 t]) hT' →
                Run2 (k39_C (lk orcX2)) [.code k39_50, .inBlock 3, .inLoop k39_55, .inBlock 2, .inBlock 1, .code k39_60, .inLoop k39_62, .inBlock 0, .code k39_73] [(0, .snap 1 (rs.map il)), (1, .int .i64 d), (4, .ptr b 2 0 0), (6, .int .i64 n), (7, .ptr c 2 0 0), (8, .int .i64 ((k : Int) + 1)), (9, .sl id 1 0 W.length none)]
                  (hT' ++ (hS' ++ ((c, ⟨2, [.agg [u', w']]⟩) :: (b, ⟨2, [.agg [.nilsl, .nilsl]]⟩) :: (id, ⟨1, W.map iv⟩) :: hi))) (Post fun v h'' => (dom h'').Nodup → ∃ h', h''.Perm h' ∧ ∃ w, v = .tup [w, .int .i64 (dfCode rs d)] ∧ OwnFil w (dfF rs d) h') := by
              intro u' w' hS' hT' hgS' hgT'
              refine Run2.of I 1000 ?_
              simp -implicitDefEqProofs
              have el : lend [(id, (⟨1, W.map iv⟩ : Blk))] [.sl id 1 0 W.length none, .int .i64 (n : Nat)] = [.snap 1 (W.map iv), .int .i64 (n : Nat)] := by
                simp [lend1, fz]
                rw [List.take_of_length_le (by simp)]
              refine (ACalls.gives [(id, (⟨1, W.map iv⟩ : Blk))] (fun p hp => by simp at hp; subst hp; simp) (S := fun v h' => ∃ u hp, v = .tup [u, .bool (nxr (n : Int) W).isSome] ∧ Grow 1 u (((nxr (n : Int) W).getD []).map iv) hp ∧ h' = hp) (by
                rw [el]
                refine (nextChoice_w W n [] (by omega) (by omega) fun c hc => by have := hW c hc; omega).mono ?_
                rintro v h' ⟨u, hp, rfl, hg, _, rfl⟩
                exact ⟨u, hp, rfl, hg, by simp⟩) (by
                rintro v h' ⟨u, hp, rfl, hg, rfl⟩
                have := hg.own.own (fun _ => rfl)
                exact ⟨by simp [own, owns, this.1], this.2⟩)).mono ?_
              rintro v h' ⟨g, ⟨s2, hp, rfl, hg, rfl⟩, hnd, rfl⟩
              refine gK.go ?_
              simp -implicitDefEqProofs
              have e1 : (nxr (n : Int) W).isSome = decide (j + 1 < M.length) := by rw [hnx]; by_cases h : j + 1 < M.length <;> simp [h]
              have e2 : (nxr (n : Int) W).getD [] = M.getD (j + 1) [] := by rw [hnx]; by_cases h : j + 1 < M.length <;> simp [h]
              rw [e2] at hg
              rw [e1]
              have eT : (((dfN n k ++ M.take j).map (gtm rs)).map iv ++ [AV.int .i64 t]) = ((dfN n k ++ M.take (j + 1)).map (gtm rs)).map iv := by
                rw [hMt, htm]; simp
              have := ih (j + 1, s2, u', w', us ++ [.sl id 1 0 W.length none], g, hS', hT', (id, ⟨1, W.map iv⟩) :: hi) ⟨by simp; omega, hg, hgS', by rw [eT] at hgT'; exact hgT', by
                have o1 : OwnL iv 1 (.sl id 1 0 W.length none) W [(id, ⟨1, W.map iv⟩)] := by simpa using hgs.own
                have := hO.app o1 (fun i hi1 hm => by
                  simp [dom] at hi1
                  subst hi1
                  exact nd.2.2 i (by simp [dom]) i (by simp only [dom] at hm ⊢; exact .inr (.inr (.inr (.inr hm)))) rfl)
                simp only
                rw [hMt, ← List.append_assoc]
                exact this⟩ (by simp; omega)
              exact this
            have hul : us.length = (dfN n k ++ M.take j).length := by obtain ⟨_, o, _⟩ := hO; exact o.len
            have hul2 : us.length ≤ 5120 := by rw [hul, List.length_append, List.length_take]; omega
            have hp1 : ∀ i ∈ dom hS, i ∉ dom ((id, (⟨1, W.map iv⟩ : Blk)) :: hT) := fun i hi hm => by
              simp only [dom_cons, List.mem_cons] at hm
              rcases hm with rfl | hm
              · exact nd.2.2 i (by simp [dom]) i (.inr (.inl hi)) rfl
              · exact nd.2.1.2.2 i hm i (.inl hi) rfl
            have hp2 : ∀ i ∈ dom hT, i ≠ id := fun i hi e => nd.2.2 id (by simp [dom]) i (.inl hi) e.symm
            have htl : ((dfN n k ++ M.take j).map (gtm rs)).length ≤ 5120 := by rw [List.length_map, List.length_append, List.length_take]; omega
            refine Run2.of I 1000 ?_
            simp -implicitDefEqProofs [hget_app hcT, hget_app hcS, hcid]
            and_intros
            all_goals
              refine hgS.app_mid (pre := (id, ⟨1, W.map iv⟩) :: hT) (post := (c, ⟨2, [.agg [u, w]]⟩) :: (b, ⟨2, [.agg [.nilsl, .nilsl]]⟩) :: hi) hp1 (by simp; omega) (by simp) fun u' hS' hgS' hdS' => ?_
              have cu' := hgS'.cell
              have hcS' : c ∉ dom hS' := fun hm => hdS' c hm (by simp [dom])
              simp -implicitDefEqProofs [hget_app hcT, hget_app hcS', hset_app hcT, hset_app hcS', hcid, cu', stor_of cu', cells_of cu', cw, stor_of cw, cells_of cw, cu, cells_of cu]
              have eh : hS' ++ ((id, (⟨1, W.map iv⟩ : Blk)) :: (hT ++ ((c, ⟨2, [.agg [u, w]]⟩) :: (b, ⟨2, [.agg [.nilsl, .nilsl]]⟩) :: hi))) = (hS' ++ [(id, ⟨1, W.map iv⟩)]) ++ (hT ++ ((c, ⟨2, [.agg [u, w]]⟩) :: (b, ⟨2, [.agg [.nilsl, .nilsl]]⟩) :: hi)) := by simp
              rw [eh]
              refine hgT.app_mid (pre := hS' ++ [(id, ⟨1, W.map iv⟩)]) (post := (c, ⟨2, [.agg [u, w]]⟩) :: (b, ⟨2, [.agg [.nilsl, .nilsl]]⟩) :: hi) ?_ ?_ ?_ fun w' hT' hgT' hdT' => ?_
              · intro i hi hm
                rw [dom_append, List.mem_append] at hm
                rcases hm with hm | hm
                · exact hdS' i hm (by simp only [List.cons_append, dom_cons, dom_append, List.mem_cons, List.mem_append]; exact .inr (.inl hi))
                · exact hp2 i hi (by simpa [dom] using hm)
              · simp at htl ⊢; omega
              · simp
              have cw' := hgT'.cell
              have hcT' : c ∉ dom hT' := fun hm => hdT' c hm (by simp [dom])
              simp -implicitDefEqProofs [hget_app hcT', hget_app hcS', hset_app hcT', hset_app hcS', hcid, cu', stor_of cu', cells_of cu', cw', stor_of cw', cells_of cw', cw, cells_of cw, cu, cells_of cu]
              refine Run2.perm ?_ (tail u' w' hS' hT' hgS' hgT')
              exact List.Perm.append_left hT' (List.Perm.append_left hS' (List.perm_middle (l₁ := [(c, (⟨2, [.agg [u', w']]⟩ : Blk)), (b, (⟨2, [.agg [.nilsl, .nilsl]]⟩ : Blk))])).symm)
        · obtain rfl : j = M.length := by omega
          have hjd : decide (M.length < M.length) = false := by simp
          rw [hjd]
          have hg0 : M.getD M.length [] = [] := by simp
          rw [hg0] at hgs
          rw [List.take_length, ← hMs] at hgT hO
          clear ih
          have := go u w us hS hT hi hgS hgT hO
          refine Run2.of I 1000 ?_
          simp -implicitDefEqProofs
          refine ⟨by omega, ?_⟩
          refine Run2.sub (fun p hp => List.mem_append_right gs hp) (fun hn => by rw [dom_append] at hn; exact (List.nodup_append.1 hn).2.1) ?_
          simpa using this
      · obtain hkK : k = min D n := by omega
        have hlt' : ¬ ((k : Int) + 1) ≤ min (d + 1) (n : Int) := by omega
        have hLe : dfN n D = dfN n k := by
          rcases Nat.le_total D n with h1 | h1
          · rw [show k = D by omega]
          · rw [show k = n by omega, dfN_top h1]
        have hlw := hgT.len
        simp only [List.length_map] at hlw
        clear ih
        refine Run2.of I 1000 ?_
        simp -implicitDefEqProofs [hlt', hlw, hget_app hcT, hget_app hcS, hget_app hbT, hget_app hbS, hset_app hbT, hset_app hbS, hbc, cu, cw, cells_of cw, stor_of cw, stor_of cu, cells_of cu]
        refine ⟨by omega, fun h48 => ?_, fun h48 => ?_⟩
        · have hcd : dfCode rs d = 5 := by unfold dfCode; rw [if_pos ht, if_pos hd, hD, hn, hLe, if_pos (by omega)]
          have hff : dfF rs d = ⟨[], []⟩ := by unfold dfF; rw [if_neg (by omega)]
          rw [hcd, hff]
          rw [← List.append_nil (hT ++ (hS ++ (c, (⟨2, [.agg [u, w]]⟩ : Blk)) :: (b, ⟨2, [.agg [.nilsl, .nilsl]]⟩) :: hi))]
          exact Post.dropAll rfl (.base fun _ => ⟨[], .refl _, _, rfl, .nilsl, .nilsl, [], [], rfl, .nil, .nil, by simp [dom], rfl⟩)
        · have hcd : dfCode rs d = 0 := by unfold dfCode; rw [if_pos ht, if_pos hd, hD, hn, hLe, if_neg (by omega)]
          have hff : dfF rs d = dfT rs d := by unfold dfF; rw [if_pos hcd]
          rw [hcd, hff]
          unfold dfT
          rw [hD, hn, hLe]
          have nd0 := nd
          simp only [dom_append, dom_cons, List.nodup_append, List.nodup_cons, List.mem_append, List.mem_cons] at nd
          obtain ⟨h1, hp1, o1⟩ := OwnLL.of_grow hgS hO (by
            rw [dom_append, List.nodup_append]
            exact ⟨nd.2.1.1, nd.2.1.2.1.2.2, fun a ha b hb => nd.2.1.2.2 a ha b (.inr (.inr hb))⟩)
          have eq1 : ∀ z y : Blk, hT ++ (hS ++ (c, z) :: (b, y) :: hi) = (hT ++ hS) ++ (c, z) :: (b, y) :: hi := fun z y => by simp
          rw [eq1]
          refine Post.dmid (by rw [dom_append, List.mem_append]; exact fun h => h.elim hcT hcS) (Post.dmid (by rw [dom_append, List.mem_append]; exact fun h => h.elim hbT hbS) (.base fun _ => ⟨h1 ++ hT, ?_, _, rfl, u, w, h1, hT, rfl, o1, hgT.own, fun i h2 h3 => ?_, rfl⟩))
          · rw [List.append_assoc]
            exact List.perm_append_comm.trans (hp1.append_right hT)
          · have : i ∈ dom (hS ++ hi) := ((hp1.map (·.1)).mem_iff).2 h2
            rw [dom_append, List.mem_append] at this
            rcases this with h4 | h4
            · exact nd.2.2 i h3 i (.inl h4) rfl
            · exact nd.2.2 i h3 i (.inr (.inr (.inr h4))) rfl
    · have hcd : dfCode rs d = 2 := by unfold dfCode; rw [if_pos ht, if_neg hd]
      have hff : dfF rs d = ⟨[], []⟩ := by unfold dfF; rw [if_neg (by omega)]
      have hd' : (decide (0 ≤ d) && decide (d ≤ 3)) = false := by rw [Bool.eq_false_iff]; simpa using hd
      rw [hcd, hff]
      refine Run2.of I 1000 ?_
      simp -implicitDefEqProofs [hl, ht, hd']
      intro b
      exact .drop b (.base fun _ => ⟨[], by simp [hdel], _, rfl, .nilsl, .nilsl, [], [], rfl, .nil, .nil, by simp [dom], rfl⟩)
  · have hcd : dfCode rs d = 7 := by unfold dfCode; rw [if_neg ht]
    have hff : dfF rs d = ⟨[], []⟩ := by unfold dfF; rw [if_neg (by omega)]
    rw [hcd, hff]
    refine Run2.of I 1000 ?_
    simp -implicitDefEqProofs [hl, ht]
    intro b
    exact .drop b (.base fun _ => ⟨[], by simp [hdel], _, rfl, .nilsl, .nilsl, [], [], rfl, .nil, .nil, by simp [dom], rfl⟩)
end Go.AG
