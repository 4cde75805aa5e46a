/- The search for the fewest rounds, in the reference. No statement is made here. -/
import Derived.Test.YtebkdegjiollbaaFrA
import Derived.Test.YtebkdegjiollbaaGrT
namespace Go.AG
open Go.Proofs Go.Proofs.Ytebkdegjiollbaa
set_option linter.unusedSimpArgs false
set_option linter.unusedVariables false
set_option maxRecDepth 4000
theorem frL_fB {x : Gr} {F : List (List Int) → Int → FrR} {B : Int} {rs : List (List Int)} {e : Int} (hF : ∀ rs k, (F rs k).2.2 = true → (F rs k).2.1 = B) : ∀ {is : List Nat} {k : Int}, (frL x F B rs e is k).2.2 = true → (frL x F B rs e is k).2.1 = B
  | [], k, h => by simp [frL] at h
  | i :: is, k, h => by
    by_cases h1 : i < rs.length ∧ ¬ x.free (rs.getD i []) e
    · rw [frL_skip h1] at h ⊢; exact frL_fB hF h
    · by_cases h2 : k = B
      · rw [frL_full h1 h2]; exact h2
      · rw [frL_go h1 h2] at h ⊢
        have hi := hF (frPut rs i e) (k + 1)
        generalize F (frPut rs i e) (k + 1) = G at *
        obtain ⟨o, k', f⟩ := G
        cases o with
        | some r' => exact hi h
        | none =>
          cases f with
          | true => exact hi rfl
          | false => exact frL_fB hF h
theorem frS_fB (x : Gr) (m : Nat) (B : Int) : ∀ (d : Nat) (rs : List (List Int)) (k : Int), (frS x m B d rs k).2.2 = true → (frS x m B d rs k).2.1 = B
  | 0, rs, k, h => by simp [frS] at h
  | d + 1, rs, k, h => by
    rw [frS_succ] at h ⊢
    exact frL_fB (frS_fB x m B d) h
/-- The block of the reference's search. -/
def slB (x : Gr) (m : Nat) (B : Int) (u : AV) (k : Int) (f : Bool) : Blk := ⟨6, [.agg [.ip [.int .i64 x.n, .snap 3 (x.ts.map T.av)], .int .i64 m, u, .int .i64 k, .int .i64 B, .bool f]]⟩
/-- What a search of the reference leaves. -/
def RnOut (x : Gr) (m : Nat) (B : Int) (ids : Nat) (h : Heap) (rs : List (List Int)) (F : FrR) (v : AV) (h' : Heap) : Prop :=
  ∃ u' us' gr' hi', v = .bool F.1.isSome ∧ GrT 1 u' us' gr' ∧ GtLs us' (F.1.getD rs) hi' ∧ h' = (ids, slB x m B u' F.2.1 F.2.2) :: (gr' ++ (hi' ++ h))
theorem l24Free_l (x : Gr) {u : AV} {r : List Int} {g : Heap} (o : GrT 1 u (r.map iv) g) (k : Int) (H : Heap) (hs : ∀ p ∈ g, p ∈ H) (hl : r.length ≤ 1048576) (hr : ∀ a ∈ r, x.inR a) (hk : x.inR k) : ACalls Try.prog 89 [.ip [.int .i64 x.n, .snap 3 (x.ts.map T.av)], u, .int .i64 k] H (fun v h' => v = .bool (decide (x.free r k)) ∧ h' = H) := by
  refine ACalls.reads g hs ?_ rfl
  have hcold : cold (.ip [.int .i64 x.n, .snap 3 (x.ts.map T.av)]) = true := by simpa [cold] using x.is.cold
  rw [lend_cons, lend_cons, lend_cons, lend_nil', lend1_cold g hcold, lend1_cold g (x := .int .i64 k) rfl]
  exact ACalls.wk (.cons (.refl _) (.cons o.lent.wk (.refl _))) (l24Free_s x r k [] hl hr hk)
abbrev k46_o0 : List AJ := [.o ⟨(some 4), none, false, .mv (.c (.bool false)), (some [0, 1])⟩]
abbrev k46_o1 : List AJ := [.o ⟨(some 7), none, false, .mv (.t 1), none⟩, .o ⟨(some 8), none, false, .mv (.t 0), none⟩, .o ⟨(some 9), none, false, .nilchk (.t 8), none⟩, .o ⟨(some 10), none, false, .fieldA 0 (.t 9), none⟩, .o ⟨(some 11), none, false, .load 1 false (.t 10), none⟩, .o ⟨(some 12), none, false, .nilchk (.t 11), none⟩, .o ⟨(some 13), none, false, .fieldA 1 (.t 12), none⟩, .o ⟨(some 14), none, false, .load 1 false (.t 13), none⟩, .o ⟨(some 15), none, false, .len (.t 14), none⟩, .o ⟨(some 16), none, false, .bin .eql (.t 7) (.t 15), (some [0, 1, 16])⟩]
abbrev k46_o2 : List AJ := [.o ⟨(some 4), none, false, .mv (.c (.bool true)), (some [4])⟩]
def k46_3 : ACode := .seq (.region k46_o2) .ret
def k46_4 : ACode := .cond (.t 16) k46_3 .skip
def k46_5 : ACode := .seq (.region k46_o1) k46_4
abbrev k46_o3 : List AJ := [.o ⟨(some 5), none, false, .mv (.c (.int .i64 0)), (some [0, 1, 5])⟩]
abbrev k46_o4 : List AJ := [.o ⟨(some 17), none, false, .mv (.t 5), none⟩, .o ⟨(some 18), none, false, .mv (.t 0), none⟩, .o ⟨(some 19), none, false, .nilchk (.t 18), none⟩, .o ⟨(some 20), none, false, .fieldA 1 (.t 19), none⟩, .o ⟨(some 21), none, false, .load 1 false (.t 20), none⟩, .o ⟨(some 22), none, false, .bin .lss (.t 17) (.t 21), none⟩, .o ⟨(some 23), none, false, .mv (.t 22), none⟩, .o ⟨(some 24), (some (23, true)), false, .mv (.t 5), none⟩, .o ⟨(some 25), (some (23, true)), false, .mv (.t 0), none⟩, .o ⟨(some 26), (some (23, true)), false, .nilchk (.t 25), none⟩, .o ⟨(some 27), (some (23, true)), false, .fieldA 2 (.t 26), (some [0, 1, 5, 23, 24, 27])⟩, .o ⟨(some 28), (some (23, true)), false, .load 1 false (.t 27), none⟩, .o ⟨(some 29), (some (23, true)), false, .len (.t 28), none⟩, .o ⟨(some 30), (some (23, true)), false, .bin .leq (.t 24) (.t 29), none⟩, .o ⟨(some 31), none, false, .pick (.t 23) (.t 30) (.c (.bool false)), (some [0, 1, 5, 31])⟩]
def k46_8 : ACode := .cond (.t 31) .skip (.exit 0)
def k46_9 : ACode := .seq (.region k46_o4) k46_8
abbrev k46_o5 : List AJ := [.o ⟨(some 34), none, false, .mv (.t 5), none⟩, .o ⟨(some 35), none, false, .mv (.t 0), none⟩, .o ⟨(some 36), none, false, .nilchk (.t 35), none⟩, .o ⟨(some 37), none, false, .fieldA 2 (.t 36), none⟩, .o ⟨(some 38), none, false, .load 1 false (.t 37), none⟩, .o ⟨(some 39), none, false, .len (.t 38), none⟩, .o ⟨(some 40), none, false, .bin .eql (.t 34) (.t 39), none⟩, .o ⟨(some 6), none, false, .mv (.t 40), (some [0, 1, 5, 6])⟩]
abbrev k46_o6 : List AI := [⟨(some 41), none, false, .mv (.t 6), none⟩, ⟨(some 42), none, false, .un .not (.t 41), none⟩, ⟨(some 43), none, false, .mv (.t 42), none⟩, ⟨(some 44), (some (43, true)), false, .mv (.t 0), none⟩, ⟨(some 45), (some (43, true)), false, .nilchk (.t 44), none⟩, ⟨(some 46), (some (43, true)), false, .fieldA 0 (.t 45), none⟩, ⟨(some 47), (some (43, true)), false, .load 1 false (.t 46), none⟩, ⟨(some 48), (some (43, true)), false, .mv (.t 0), none⟩, ⟨(some 49), (some (43, true)), false, .nilchk (.t 48), (some [0, 1, 5, 6, 43, 47, 49])⟩, ⟨(some 50), (some (43, true)), false, .fieldA 2 (.t 49), none⟩, ⟨(some 51), (some (43, true)), false, .load 1 false (.t 50), none⟩, ⟨(some 52), (some (43, true)), false, .mv (.t 5), none⟩, ⟨(some 53), (some (43, true)), false, .idxA 1 (.t 51) (.t 52), none⟩, ⟨(some 54), (some (43, true)), false, .load 1 false (.t 53), none⟩, ⟨(some 55), (some (43, true)), false, .mv (.t 1), none⟩, ⟨(some 56), (some (43, true)), false, .call 89 [(.t 47), (.t 54), (.t 55)], (some [0, 1, 5, 6, 43, 56])⟩, ⟨(some 57), (some (43, true)), false, .un .not (.t 56), none⟩, ⟨(some 58), none, false, .pick (.t 43) (.t 57) (.c (.bool false)), (some [0, 1, 5, 6, 58])⟩]
def k46_12 : ACode := .cond (.t 58) (.exit 1) .skip
def k46_13 : ACode := .seq (.draw k46_o6 [] rfl) k46_12
abbrev k46_o7 : List AI := [⟨(some 59), none, false, .mv (.t 0), none⟩, ⟨(some 60), none, false, .nilchk (.t 59), none⟩, ⟨(some 61), none, false, .fieldA 3 (.t 60), none⟩, ⟨(some 62), none, false, .load 1 false (.t 61), none⟩, ⟨(some 63), none, false, .mv (.t 0), none⟩, ⟨(some 64), none, false, .nilchk (.t 63), none⟩, ⟨(some 65), none, false, .fieldA 4 (.t 64), none⟩, ⟨(some 66), none, false, .load 1 false (.t 65), none⟩, ⟨(some 67), none, false, .bin .eql (.t 62) (.t 66), (some [0, 1, 5, 6, 67])⟩]
abbrev k46_o8 : List AJ := [.o ⟨(some 68), none, false, .mv (.t 0), none⟩, .o ⟨(some 69), none, false, .nilchk (.t 68), none⟩, .o ⟨(some 70), none, false, .fieldA 5 (.t 69), none⟩, .o ⟨none, none, false, .store 1 (.t 70) (.c (.bool true)), (some [0, 1, 5, 6])⟩]
def k46_15 : ACode := .region k46_o8
def k46_16 : ACode := .cond (.t 67) k46_15 .skip
def k46_17 : ACode := .seq (.draw k46_o7 [] rfl) k46_16
abbrev k46_o9 : List AJ := [.o ⟨(some 71), none, false, .mv (.t 0), none⟩, .o ⟨(some 72), none, false, .nilchk (.t 71), none⟩, .o ⟨(some 73), none, false, .fieldA 5 (.t 72), none⟩, .o ⟨(some 74), none, false, .load 1 false (.t 73), (some [0, 1, 5, 6, 74])⟩]
abbrev k46_o10 : List AJ := [.o ⟨(some 4), none, false, .mv (.c (.bool false)), (some [4])⟩]
def k46_20 : ACode := .seq (.region k46_o10) .ret
def k46_21 : ACode := .cond (.t 74) k46_20 .skip
def k46_22 : ACode := .seq (.region k46_o9) k46_21
abbrev k46_o11 : List AJ := [.o ⟨(some 75), none, false, .mv (.t 0), none⟩, .o ⟨(some 76), none, false, .nilchk (.t 75), none⟩, .o ⟨(some 77), none, false, .fieldA 3 (.t 76), none⟩, .o ⟨(some 78), none, false, .load 1 false (.t 77), none⟩, .o ⟨(some 79), none, true, .bin .add (.t 78) (.c (.int .i64 1)), none⟩, .o ⟨(some 80), none, false, .nilchk (.t 75), none⟩, .o ⟨(some 81), none, false, .fieldA 3 (.t 80), none⟩, .o ⟨none, none, false, .store 1 (.t 81) (.t 79), (some [0, 1, 5, 6])⟩]
abbrev k46_o12 : List AJ := [.o ⟨(some 82), none, false, .mv (.t 6), (some [0, 1, 5, 6, 82])⟩]
abbrev k46_o13 : List AJ := [.o ⟨(some 83), none, false, .mv (.t 0), none⟩, .o ⟨(some 84), none, false, .mv (.t 0), none⟩, .o ⟨(some 85), none, false, .nilchk (.t 84), none⟩, .o ⟨(some 86), none, false, .fieldA 2 (.t 85), none⟩, .o ⟨(some 87), none, false, .load 1 false (.t 86), none⟩, .e 88 1 none, .o ⟨(some 89), none, false, .bsl false 1 [(.t 88)], none⟩, .o ⟨(some 90), none, false, .append 1 24 (.t 87) (.t 89), none⟩, .o ⟨(some 91), none, false, .nilchk (.t 83), none⟩, .o ⟨(some 92), none, false, .fieldA 2 (.t 91), none⟩, .o ⟨none, none, false, .store 1 (.t 92) (.t 90), (some [0, 1, 5, 6])⟩]
def k46_25 : ACode := .region k46_o13
def k46_26 : ACode := .cond (.t 82) k46_25 .skip
def k46_27 : ACode := .seq (.region k46_o12) k46_26
abbrev k46_o14 : List AI := [⟨(some 93), none, false, .mv (.t 0), none⟩, ⟨(some 94), none, false, .nilchk (.t 93), none⟩, ⟨(some 95), none, false, .fieldA 2 (.t 94), none⟩, ⟨(some 96), none, false, .load 1 false (.t 95), none⟩, ⟨(some 97), none, false, .mv (.t 5), none⟩, ⟨(some 98), none, false, .mv (.t 0), none⟩, ⟨(some 99), none, false, .nilchk (.t 98), none⟩, ⟨(some 100), none, false, .fieldA 2 (.t 99), none⟩, ⟨(some 101), none, false, .load 1 false (.t 100), none⟩, ⟨(some 102), none, false, .mv (.t 5), none⟩, ⟨(some 103), none, false, .idxA 1 (.t 101) (.t 102), none⟩, ⟨(some 104), none, false, .load 1 false (.t 103), none⟩, ⟨(some 105), none, false, .mv (.t 1), none⟩, ⟨(some 106), none, false, .bsl false 1 [(.t 105)], none⟩, ⟨(some 107), none, false, .append 1 8 (.t 104) (.t 106), none⟩, ⟨(some 108), none, false, .idxA 1 (.t 96) (.t 97), none⟩, ⟨none, none, false, .store 1 (.t 108) (.t 107), none⟩]
abbrev k46_o15 : List AJ := [.o ⟨(some 93), none, false, .mv (.t 0), none⟩, .o ⟨(some 94), none, false, .nilchk (.t 93), none⟩, .o ⟨(some 95), none, false, .fieldA 2 (.t 94), none⟩, .o ⟨(some 97), none, false, .mv (.t 5), none⟩, .o ⟨(some 98), none, false, .mv (.t 0), none⟩, .o ⟨(some 99), none, false, .nilchk (.t 98), none⟩, .o ⟨(some 100), none, false, .fieldA 2 (.t 99), none⟩, .o ⟨(some 102), none, false, .mv (.t 5), none⟩, .o ⟨(some 105), none, false, .mv (.t 1), none⟩, .o ⟨(some 106), none, false, .bsl false 1 [(.t 105)], none⟩, .o ⟨(some 96), none, false, .load 1 false (.t 95), none⟩, .o ⟨(some 101), none, false, .load 1 false (.t 100), none⟩, .o ⟨(some 103), none, false, .idxA 1 (.t 101) (.t 102), none⟩, .o ⟨(some 104), none, false, .load 1 false (.t 103), (some [0, 1, 5, 6, 96, 97, 104, 106])⟩, .o ⟨(some 107), none, false, .append 1 8 (.t 104) (.t 106), none⟩, .o ⟨(some 108), none, false, .idxA 1 (.t 96) (.t 97), none⟩, .o ⟨none, none, false, .store 1 (.t 108) (.t 107), (some [0, 1, 5, 6])⟩]
abbrev k46_o16 : List AJ := [.o ⟨(some 93), none, false, .mv (.t 0), none⟩, .o ⟨(some 94), none, false, .nilchk (.t 93), none⟩, .o ⟨(some 95), none, false, .fieldA 2 (.t 94), none⟩, .o ⟨(some 97), none, false, .mv (.t 5), none⟩, .o ⟨(some 98), none, false, .mv (.t 0), none⟩, .o ⟨(some 99), none, false, .nilchk (.t 98), none⟩, .o ⟨(some 100), none, false, .fieldA 2 (.t 99), none⟩, .o ⟨(some 102), none, false, .mv (.t 5), none⟩, .o ⟨(some 105), none, false, .mv (.t 1), none⟩, .o ⟨(some 106), none, false, .bsl false 1 [(.t 105)], none⟩, .o ⟨(some 101), none, false, .load 1 false (.t 100), none⟩, .o ⟨(some 96), none, false, .load 1 false (.t 95), none⟩, .o ⟨(some 103), none, false, .idxA 1 (.t 101) (.t 102), none⟩, .o ⟨(some 104), none, false, .load 1 false (.t 103), (some [0, 1, 5, 6, 96, 97, 104, 106])⟩, .o ⟨(some 107), none, false, .append 1 8 (.t 104) (.t 106), none⟩, .o ⟨(some 108), none, false, .idxA 1 (.t 96) (.t 97), none⟩, .o ⟨none, none, false, .store 1 (.t 108) (.t 107), (some [0, 1, 5, 6])⟩]
abbrev k46_o17 : List AJ := [.o ⟨(some 93), none, false, .mv (.t 0), none⟩, .o ⟨(some 94), none, false, .nilchk (.t 93), none⟩, .o ⟨(some 95), none, false, .fieldA 2 (.t 94), none⟩, .o ⟨(some 97), none, false, .mv (.t 5), none⟩, .o ⟨(some 98), none, false, .mv (.t 0), none⟩, .o ⟨(some 99), none, false, .nilchk (.t 98), none⟩, .o ⟨(some 100), none, false, .fieldA 2 (.t 99), none⟩, .o ⟨(some 102), none, false, .mv (.t 5), none⟩, .o ⟨(some 105), none, false, .mv (.t 1), none⟩, .o ⟨(some 106), none, false, .bsl false 1 [(.t 105)], none⟩, .o ⟨(some 101), none, false, .load 1 false (.t 100), none⟩, .o ⟨(some 103), none, false, .idxA 1 (.t 101) (.t 102), none⟩, .o ⟨(some 96), none, false, .load 1 false (.t 95), none⟩, .o ⟨(some 104), none, false, .load 1 false (.t 103), (some [0, 1, 5, 6, 96, 97, 104, 106])⟩, .o ⟨(some 107), none, false, .append 1 8 (.t 104) (.t 106), none⟩, .o ⟨(some 108), none, false, .idxA 1 (.t 96) (.t 97), none⟩, .o ⟨none, none, false, .store 1 (.t 108) (.t 107), (some [0, 1, 5, 6])⟩]
abbrev k46_o18 : List AJ := [.o ⟨(some 93), none, false, .mv (.t 0), none⟩, .o ⟨(some 94), none, false, .nilchk (.t 93), none⟩, .o ⟨(some 95), none, false, .fieldA 2 (.t 94), none⟩, .o ⟨(some 97), none, false, .mv (.t 5), none⟩, .o ⟨(some 98), none, false, .mv (.t 0), none⟩, .o ⟨(some 99), none, false, .nilchk (.t 98), none⟩, .o ⟨(some 100), none, false, .fieldA 2 (.t 99), none⟩, .o ⟨(some 102), none, false, .mv (.t 5), none⟩, .o ⟨(some 105), none, false, .mv (.t 1), none⟩, .o ⟨(some 106), none, false, .bsl false 1 [(.t 105)], none⟩, .o ⟨(some 101), none, false, .load 1 false (.t 100), none⟩, .o ⟨(some 103), none, false, .idxA 1 (.t 101) (.t 102), none⟩, .o ⟨(some 104), none, false, .load 1 false (.t 103), none⟩, .o ⟨(some 96), none, false, .load 1 false (.t 95), (some [0, 1, 5, 6, 96, 97, 104, 106])⟩, .o ⟨(some 107), none, false, .append 1 8 (.t 104) (.t 106), none⟩, .o ⟨(some 108), none, false, .idxA 1 (.t 96) (.t 97), none⟩, .o ⟨none, none, false, .store 1 (.t 108) (.t 107), (some [0, 1, 5, 6])⟩]
abbrev k46_o19 : List AJ := [.o ⟨(some 93), none, false, .mv (.t 0), none⟩, .o ⟨(some 94), none, false, .nilchk (.t 93), none⟩, .o ⟨(some 95), none, false, .fieldA 2 (.t 94), none⟩, .o ⟨(some 97), none, false, .mv (.t 5), none⟩, .o ⟨(some 98), none, false, .mv (.t 0), none⟩, .o ⟨(some 99), none, false, .nilchk (.t 98), none⟩, .o ⟨(some 100), none, false, .fieldA 2 (.t 99), none⟩, .o ⟨(some 102), none, false, .mv (.t 5), none⟩, .o ⟨(some 105), none, false, .mv (.t 1), none⟩, .o ⟨(some 106), none, false, .bsl false 1 [(.t 105)], none⟩, .o ⟨(some 101), none, false, .load 1 false (.t 100), none⟩, .o ⟨(some 103), none, false, .idxA 1 (.t 101) (.t 102), none⟩, .o ⟨(some 104), none, false, .load 1 false (.t 103), none⟩, .o ⟨(some 107), none, false, .append 1 8 (.t 104) (.t 106), (some [0, 1, 5, 6, 95, 97, 107])⟩, .o ⟨(some 96), none, false, .load 1 false (.t 95), none⟩, .o ⟨(some 108), none, false, .idxA 1 (.t 96) (.t 97), none⟩, .o ⟨none, none, false, .store 1 (.t 108) (.t 107), (some [0, 1, 5, 6])⟩]
abbrev k46_o20 : List AJ := [.o ⟨(some 109), none, false, .mv (.t 0), none⟩, .o ⟨(some 110), none, false, .mv (.t 1), none⟩, .o ⟨(some 111), none, true, .bin .add (.t 110) (.c (.int .i64 1)), none⟩, .o ⟨(some 112), none, false, .call 46 [(.t 109), (.t 111)], (some [0, 1, 5, 6, 112])⟩]
abbrev k46_o21 : List AJ := [.o ⟨(some 4), none, false, .mv (.c (.bool true)), (some [4])⟩]
def k46_31 : ACode := .seq (.region k46_o21) .ret
def k46_32 : ACode := .cond (.t 112) k46_31 .skip
def k46_33 : ACode := .seq (.region k46_o20) k46_32
abbrev k46_o22 : List AI := [⟨(some 113), none, false, .mv (.t 0), none⟩, ⟨(some 114), none, false, .nilchk (.t 113), none⟩, ⟨(some 115), none, false, .fieldA 2 (.t 114), none⟩, ⟨(some 116), none, false, .load 1 false (.t 115), none⟩, ⟨(some 117), none, false, .mv (.t 5), none⟩, ⟨(some 118), none, false, .mv (.t 0), none⟩, ⟨(some 119), none, false, .nilchk (.t 118), none⟩, ⟨(some 120), none, false, .fieldA 2 (.t 119), none⟩, ⟨(some 121), none, false, .load 1 false (.t 120), none⟩, ⟨(some 122), none, false, .mv (.t 5), none⟩, ⟨(some 123), none, false, .idxA 1 (.t 121) (.t 122), none⟩, ⟨(some 124), none, false, .load 1 false (.t 123), none⟩, ⟨(some 125), none, false, .mv (.t 0), none⟩, ⟨(some 126), none, false, .nilchk (.t 125), (some [0, 1, 5, 6, 116, 117, 124, 126])⟩, ⟨(some 127), none, false, .fieldA 2 (.t 126), none⟩, ⟨(some 128), none, false, .load 1 false (.t 127), none⟩, ⟨(some 129), none, false, .mv (.t 5), none⟩, ⟨(some 130), none, false, .idxA 1 (.t 128) (.t 129), none⟩, ⟨(some 131), none, false, .load 1 false (.t 130), none⟩, ⟨(some 132), none, false, .len (.t 131), none⟩, ⟨(some 133), none, true, .bin .sub (.t 132) (.c (.int .i64 1)), none⟩, ⟨(some 134), none, false, .slice 1 (.t 124) none (some (.t 133)) none, none⟩, ⟨(some 135), none, false, .idxA 1 (.t 116) (.t 117), (some [0, 1, 5, 6, 134, 135])⟩]
abbrev k46_o23 : List AJ := [.o ⟨none, none, false, .store 1 (.t 135) (.t 134), (some [0, 1, 5, 6])⟩]
abbrev k46_o24 : List AJ := [.o ⟨(some 136), none, false, .mv (.t 6), (some [0, 1, 5, 136])⟩]
abbrev k46_o25 : List AJ := [.o ⟨(some 137), none, false, .mv (.t 0), none⟩, .o ⟨(some 138), none, false, .mv (.t 0), none⟩, .o ⟨(some 139), none, false, .nilchk (.t 138), none⟩, .o ⟨(some 140), none, false, .fieldA 2 (.t 139), none⟩, .o ⟨(some 141), none, false, .load 1 false (.t 140), none⟩, .o ⟨(some 142), none, false, .mv (.t 5), none⟩, .o ⟨(some 143), none, false, .slice 1 (.t 141) none (some (.t 142)) none, none⟩, .o ⟨(some 144), none, false, .nilchk (.t 137), none⟩, .o ⟨(some 145), none, false, .fieldA 2 (.t 144), none⟩, .o ⟨none, none, false, .store 1 (.t 145) (.t 143), (some [0, 1, 5])⟩]
def k46_36 : ACode := .region k46_o25
def k46_37 : ACode := .cond (.t 136) k46_36 .skip
def k46_38 : ACode := .seq (.region k46_o24) k46_37
def k46_39 : ACode := .seq (.draw k46_o22 k46_o23 rfl) k46_38
def k46_40 : ACode := .seq k46_33 k46_39
def k46_41 : ACode := .seq (.drawE k46_o14 [k46_o15, k46_o16, k46_o17, k46_o18, k46_o19] [[0, 1, 2, 4, 5, 6, 7, 9, 12, 13, 3, 8, 10, 11, 14, 15, 16], [0, 1, 2, 4, 5, 6, 7, 9, 12, 13, 8, 3, 10, 11, 14, 15, 16], [0, 1, 2, 4, 5, 6, 7, 9, 12, 13, 8, 10, 3, 11, 14, 15, 16], [0, 1, 2, 4, 5, 6, 7, 9, 12, 13, 8, 10, 11, 3, 14, 15, 16], [0, 1, 2, 4, 5, 6, 7, 9, 12, 13, 8, 10, 11, 14, 3, 15, 16]] rfl rfl) (.cut k46_40)
def k46_42 : ACode := .seq k46_27 k46_41
def k46_43 : ACode := .seq (.region k46_o11) k46_42
def k46_44 : ACode := .seq k46_22 k46_43
def k46_45 : ACode := .seq k46_17 k46_44
def k46_46 : ACode := .seq k46_13 k46_45
def k46_47 : ACode := .seq (.region k46_o5) k46_46
abbrev k46_o26 : List AJ := [.o ⟨(some 32), none, false, .mv (.t 5), none⟩, .o ⟨(some 33), none, true, .bin .add (.t 32) (.c (.int .i64 1)), none⟩, .o ⟨(some 5), none, false, .mv (.t 33), (some [0, 1, 5])⟩]
def k46_49 : ACode := .region k46_o26
def k46_50 : ACode := .seq (.block 1 k46_47) k46_49
def k46_51 : ACode := .seq k46_9 k46_50
def k46_52 : ACode := .loop k46_51
def k46_53 : ACode := .block 0 k46_52
def k46_54 : ACode := .seq (.region k46_o3) k46_53
abbrev k46_o27 : List AJ := [.o ⟨(some 4), none, false, .mv (.c (.bool false)), (some [4])⟩]
def k46_56 : ACode := .seq (.region k46_o27) .ret
def k46_57 : ACode := .seq k46_54 k46_56
def k46_58 : ACode := .seq k46_5 k46_57
def k46_59 : ACode := .seq (.region k46_o0) k46_58
@[simp, simp ↓] theorem k46_3r : sR k46_3 k46_o2 .ret := yR rfl
@[simp, simp ↓] theorem k46_4r : rC k46_4 (.t 16) k46_3 .skip := zC rfl
@[simp, simp ↓] theorem k46_5r : sR k46_5 k46_o1 k46_4 := yR rfl
@[simp, simp ↓] theorem k46_8r : rC k46_8 (.t 31) .skip (.exit 0) := zC rfl
@[simp, simp ↓] theorem k46_9r : sR k46_9 k46_o4 k46_8 := yR rfl
@[simp, simp ↓] theorem k46_12r : rC k46_12 (.t 58) (.exit 1) .skip := zC rfl
@[simp, simp ↓] theorem k46_13r : sD k46_13 k46_o6 [] k46_12 := yD rfl
@[simp, simp ↓] theorem k46_15r : rR k46_15 k46_o8 := zR rfl
@[simp, simp ↓] theorem k46_16r : rC k46_16 (.t 67) k46_15 .skip := zC rfl
@[simp, simp ↓] theorem k46_17r : sD k46_17 k46_o7 [] k46_16 := yD rfl
@[simp, simp ↓] theorem k46_20r : sR k46_20 k46_o10 .ret := yR rfl
@[simp, simp ↓] theorem k46_21r : rC k46_21 (.t 74) k46_20 .skip := zC rfl
@[simp, simp ↓] theorem k46_22r : sR k46_22 k46_o9 k46_21 := yR rfl
@[simp, simp ↓] theorem k46_25r : rR k46_25 k46_o13 := zR rfl
@[simp, simp ↓] theorem k46_26r : rC k46_26 (.t 82) k46_25 .skip := zC rfl
@[simp, simp ↓] theorem k46_27r : sR k46_27 k46_o12 k46_26 := yR rfl
@[simp, simp ↓] theorem k46_31r : sR k46_31 k46_o21 .ret := yR rfl
@[simp, simp ↓] theorem k46_32r : rC k46_32 (.t 112) k46_31 .skip := zC rfl
@[simp, simp ↓] theorem k46_33r : sR k46_33 k46_o20 k46_32 := yR rfl
@[simp, simp ↓] theorem k46_36r : rR k46_36 k46_o25 := zR rfl
@[simp, simp ↓] theorem k46_37r : rC k46_37 (.t 136) k46_36 .skip := zC rfl
@[simp, simp ↓] theorem k46_38r : sR k46_38 k46_o24 k46_37 := yR rfl
@[simp, simp ↓] theorem k46_39r : sD k46_39 k46_o22 k46_o23 k46_38 := yD rfl
@[simp, simp ↓] theorem k46_40r : rS k46_40 k46_33 k46_39 := zS rfl
@[simp, simp ↓] theorem k46_41r : sE k46_41 [k46_o15, k46_o16, k46_o17, k46_o18, k46_o19] (.cut k46_40) := yE rfl
@[simp, simp ↓] theorem k46_42r : rS k46_42 k46_27 k46_41 := zS rfl
@[simp, simp ↓] theorem k46_43r : sR k46_43 k46_o11 k46_42 := yR rfl
@[simp, simp ↓] theorem k46_44r : rS k46_44 k46_22 k46_43 := zS rfl
@[simp, simp ↓] theorem k46_45r : rS k46_45 k46_17 k46_44 := zS rfl
@[simp, simp ↓] theorem k46_46r : rS k46_46 k46_13 k46_45 := zS rfl
@[simp, simp ↓] theorem k46_47r : sR k46_47 k46_o5 k46_46 := yR rfl
@[simp, simp ↓] theorem k46_49r : rR k46_49 k46_o26 := zR rfl
@[simp, simp ↓] theorem k46_50r : sB k46_50 1 k46_47 k46_49 := yB rfl
@[simp, simp ↓] theorem k46_51r : rS k46_51 k46_9 k46_50 := zS rfl
@[simp, simp ↓] theorem k46_52r : rL k46_52 k46_51 := zL rfl
@[simp, simp ↓] theorem k46_53r : rB k46_53 0 k46_52 := zB rfl
@[simp, simp ↓] theorem k46_54r : sR k46_54 k46_o3 k46_53 := yR rfl
@[simp, simp ↓] theorem k46_56r : sR k46_56 k46_o27 .ret := yR rfl
@[simp, simp ↓] theorem k46_57r : rS k46_57 k46_54 k46_56 := zS rfl
@[simp, simp ↓] theorem k46_58r : rS k46_58 k46_5 k46_57 := zS rfl
@[simp, simp ↓] theorem k46_59r : sR k46_59 k46_o0 k46_58 := yR rfl
noncomputable abbrev k46_C : Orc → Cx := mkC Try.prog [88, 99999] 46 146 [.tmp 4]
theorem k46_of0 : OfP0 Try.prog Try.f46 46 146 k46_C k46_59 := @ofP0 _ _ _ _ _ _ _ _ Try.func46 (by decide +kernel) rfl (by kernel_rfl) rfl (by kernel_rfl)
theorem run_f (x : Gr) (hv : x.valid) (m : Nat) (hm : m ≤ 24) (B : Int) (hB : 1 ≤ B ∧ B ≤ 20000) (ids : Nat) (h : Heap) : ∀ (d : Nat) (rs : List (List Int)) (k : Int) (u : AV) (us : List AV) (gr hi : Heap), frI x m d rs → 0 ≤ k → k ≤ B → GrT 1 u us gr → GtLs us rs hi →
    ACalls Try.prog 46 [.ptr ids 6 0 0, .int .i64 (x.eNo d)] ((ids, slB x m B u k false) :: (gr ++ (hi ++ h))) (RnOut x m B ids h rs (frS x m B d rs k)) := by
  have h24 := hv.2.2.2
  intro d
  induction d with
  | zero =>
    intro rs k u us gr hi hI hk0 hkB hg ho
    have fin : RnOut x m B ids h rs (frS x m B 0 rs k) (.bool true) ((ids, slB x m B u k false) :: (gr ++ (hi ++ h))) := ⟨u, us, gr, hi, rfl, hg, ho, rfl⟩
    generalize RnOut x m B ids h rs (frS x m B 0 rs k) = R at *
    have he : x.eNo 0 = (x.ts.length : Int) := by simp [Gr.eNo]
    rw [he]
    unfold slB at *
    refine k46_of0 rfl noPure fun I => ?_
    refine Run2.of I 1000 ?_
    simp -implicitDefEqProofs
    exact fin
  | succ d ihd =>
    intro rs k u us gr hi hI hk0 hkB hg ho
    have hIlen := hI.1
    obtain ⟨F, hF⟩ : ∃ F, F = frL x (frS x m B d) B rs (x.eNo (d + 1)) (List.range (min m (rs.length + 1))) k := ⟨_, rfl⟩
    rw [frS_succ, ← hF]
    obtain ⟨R, hR⟩ : ∃ R, R = RnOut x m B ids h rs F := ⟨_, rfl⟩
    rw [← hR]
    have hde : x.eNo (d + 1) = (x.ts.length : Int) - (d + 1) := by simp [Gr.eNo]
    have hd3 := hI.2.2
    have hee : ¬ x.eNo (d + 1) = (x.ts.length : Int) := by omega
    have hinR : x.inR (x.eNo (d + 1)) := ⟨by omega, by omega⟩
    have hnext : x.eNo (d + 1) + 1 = x.eNo d := by simp [Gr.eNo]; omega
    refine k46_of0 rfl noPure fun I => ?_
    generalize hE : x.eNo (d + 1) = E at *
    unfold slB
    refine Run2.of I 1000 ?_
    simp -implicitDefEqProofs [hee]
    refine Run2.loopE (α := Nat × Int × Bool × AV × List AV × Heap × Heap) (fun s => [(0, .ptr ids 6 0 0), (1, .int .i64 E), (5, .int .i64 (s.1 : Nat))])
      (fun s => (ids, slB x m B s.2.2.2.1 s.2.1 s.2.2.1) :: (s.2.2.2.2.2.1 ++ (s.2.2.2.2.2.2 ++ h))) (fun s => m - s.1)
      (fun s => s.1 ≤ m ∧ s.1 ≤ rs.length + 1 ∧ 0 ≤ s.2.1 ∧ s.2.1 ≤ B ∧ (s.2.2.1 = true → s.2.1 = B) ∧ (F = if s.2.2.1 = true then (none, s.2.1, true) else frL x (frS x m B d) B rs E ((List.range (min m (rs.length + 1))).drop s.1) s.2.1) ∧ GrT 1 s.2.2.2.1 s.2.2.2.2.1 s.2.2.2.2.2.1 ∧ GtLs s.2.2.2.2.1 rs s.2.2.2.2.2.2)
      (0, k, false, u, us, gr, hi) (by simp) (by simp [slB]) ⟨Nat.zero_le _, Nat.zero_le _, hk0, hkB, (fun h => by cases h), by simpa using hF, hg, ho⟩ ?_
    clear hF hk0 hkB hg ho
    rintro ⟨i, k, f, u, us, gr, hi⟩ ⟨him, hir, hk0, hkB, hfB, hF, hg, ho⟩ ih
    replace him : i ≤ m := him
    replace hir : i ≤ rs.length + 1 := hir
    replace hk0 : 0 ≤ k := hk0
    replace hkB : k ≤ B := hkB
    simp only at hfB hF hg ho ih ⊢
    refine Run2.nd fun nd => ?_
    have hul := ho.len
    have hulen := hg.len
    have huc := hg.cell
    by_cases hit : i < min m (rs.length + 1)
    · have hdrop : (List.range (min m (rs.length + 1))).drop i = i :: (List.range (min m (rs.length + 1))).drop (i + 1) := by
        rw [List.drop_eq_getElem_cons (by simpa using hit)]; simp
      rw [hdrop] at hF
      have hput := frI_put hI hit
      rw [hE] at hput
      have hr0i : ∀ h : i < rs.length, rs[i] = rs.getD i [] := fun h => by simp [h]
      generalize hr0 : rs.getD i [] = r0 at *
      have hrr24 : r0.length ≤ 24 := by
        by_cases h : i < rs.length
        · have := len_sumL (List.getElem_mem h)
          rw [hr0i h] at this
          omega
        · rw [← hr0]; simp [h]
      have tail40 : ∀ (fr : Bool) (rs2 : List (List Int)) (us2 ex : List AV) (idr : Nat) (h1 h2 : Heap) (w' : AV) (g' : Heap), GtLs (us2.take i) (rs2.take i) h1 → GtLs (us2.drop (i + 1)) (rs2.drop (i + 1)) h2 → i < us2.length → (hlt : i < rs2.length) → rs2[i] = r0 → (fr = false → rs2 = rs ∧ i < rs.length) → (fr = true → i = rs.length ∧ rs2 = rs ++ [[]]) → frPut rs i E = rs2.set i (r0 ++ [E]) → ¬ k = B →
          (F = match frS x m B d (frPut rs i E) (k + 1) with
            | (some r, k', f) => (some r, k', f)
            | (none, k', true) => (none, k', true)
            | (none, k', false) => frL x (frS x m B d) B rs E ((List.range (min m (rs.length + 1))).drop (i + 1)) k') →
          Grow 1 w' ((r0 ++ [E]).map iv) g' →
          Run2 (k46_C noOrc) [.code k46_40, .inBlock 1, .code k46_49, .inLoop k46_51, .inBlock 0, .code k46_56]
            [(0, .ptr ids 6 0 0), (1, .int .i64 E), (5, .int .i64 i), (6, .bool fr)] (g' ++ (ids, slB x m B (.sl idr 1 0 us2.length none) (k + 1) false) :: (idr, ⟨1, us2.set i w' ++ ex⟩) :: (h1 ++ (h2 ++ h))) R := by
        intro fr rs2 us2 ex idr h1 h2 w' g' o1 o3 hu hlt hrl hfr0 hfr1 hpe hkb hF hg'
        refine Run2.nd fun nd2 => ?_
        simp only [dom_append, dom_cons, List.nodup_cons, List.nodup_append, List.mem_cons, List.mem_append, not_or] at nd2
        obtain ⟨d1, ⟨⟨hne, d2, d4, d5⟩, ⟨d6, d8, d9⟩, d10, ⟨d11, d12, d13⟩, d14⟩, d15⟩ := nd2
        have o4 : GtLs (us2.set i w') (frPut rs i E) (h1 ++ (g' ++ h2)) := by
          rw [hpe]
          refine GtLs.put hu hlt o1 hg'.t o3 (fun j a b => d14 j a j (.inl b) rfl) (fun j a b => ?_)
          rw [dom_append, List.mem_append] at b
          exact d15 j a j (b.elim (fun b => .inr (.inr (.inl b))) fun b => .inr (.inr (.inr (.inl b)))) rfl
        have n1 : ids ∉ dom g' := fun h => d15 ids h ids (.inl rfl) rfl
        have n2 : idr ∉ dom g' := fun h => d15 idr h idr (.inr (.inl rfl)) rfl
        have hbd := frS_bd x m B d (frPut rs i E) (k + 1) (by omega)
        have hfBB := frS_fB x m B d (frPut rs i E) (k + 1)
        have hcall := ihd (frPut rs i E) (k + 1) (.sl idr 1 0 us2.length none) (us2.set i w') [(idr, ⟨1, us2.set i w' ++ ex⟩)] (h1 ++ (g' ++ h2)) hput (by omega) (by omega) (GrT.sl idr (us2.set i w') ex us2.length (by simp)) o4
        generalize frS x m B d (frPut rs i E) (k + 1) = G at *
        obtain ⟨o, k', f'⟩ := G
        replace hbd : k + 1 ≤ k' ∧ k' ≤ B := hbd
        rw [← hnext] at hcall
        unfold slB at *
        refine Run2.of I 1000 ?_
        simp -implicitDefEqProofs [n1, n2]
        refine ⟨by omega, ?_⟩
        refine ACalls.inPerm (h' := (ids, _) :: ([(idr, ⟨1, us2.set i w' ++ ex⟩)] ++ ((h1 ++ (g' ++ h2)) ++ h))) (List.perm_middle.trans (.cons _ (List.perm_middle.trans (.cons _ (by simpa using List.perm_append_comm_assoc g' h1 (h2 ++ h)))))) (hcall.monoN ?_)
        · rintro v h' ⟨u', us', gr', hi', rfl, hgr, hho, rfl⟩ nd3
          cases o with
          | some r =>
            have fin : R (.bool true) ((ids, slB x m B u' k' f') :: (gr' ++ (hi' ++ h))) := by
              rw [hR, hF]
              exact ⟨u', us', gr', hi', rfl, hgr, hho, rfl⟩
            unfold slB at fin ⊢
            refine gK.go ?_
            simp -implicitDefEqProofs
            exact fin
          | none =>
            simp only [Option.getD_none] at hho
            have hl3 : i < (frPut rs i E).length := by rw [hpe, List.length_set]; exact hlt
            have hul3 := hho.len
            obtain ⟨hu3, k1, q, k2, rfl, p1, p2, p3⟩ := hho.split hl3
            have hel : (frPut rs i E)[i] = r0 ++ [E] := by simp [hpe]
            rw [hel] at p2
            cases hgr with
            | nil => simp at hu3
            | emp => simp at hu3
            | sl idr3 _ ex3 n3 hn3 =>
              subst hn3
              have hus3 : us'[i]? = some us'[i] := by simp [hu3]
              have hus4 : (us' ++ ex3)[i]? = some us'[i] := by rw [List.getElem?_append_left hu3]; exact hus3
              generalize hU3 : us'[i] = w3 at *
              generalize hLL : (r0 ++ [E]).map iv = LL at p2
              cases p2 with
              | nil => simp at hLL
              | emp => simp at hLL
              | sl idq _ exq nq hnq =>
                obtain rfl : nq = r0.length + 1 := by rw [hnq, ← hLL]; simp
                subst hLL
                simp only [dom_append, dom_cons, List.cons_append, List.nil_append, List.nodup_cons, List.nodup_append, List.mem_cons, List.mem_append, not_or] at nd3
                have hbq : ((r0 ++ [E]).map iv).length ≤ 25 := by simp; omega
                obtain ⟨⟨m1, ⟨m2, m3, m4⟩, m5⟩, ⟨⟨m6, m7, m8⟩, m9⟩, ⟨m10, ⟨m11, m12⟩, m13⟩, m14, m15⟩ := nd3
                have hk1 : idq ∉ dom k1 := fun h => m13 idq h idq (.inl rfl) rfl
                have hset3 : (us' ++ ex3).set i (.sl idq 1 0 r0.length none) = us'.set i (.sl idq 1 0 r0.length none) ++ ex3 := List.set_append_left _ _ hu3
                have og : GrT 1 (.sl idq 1 0 r0.length none) (r0.map iv) [(idq, ⟨1, (r0 ++ [E]).map iv ++ exq⟩)] := by
                  have := GrT.sl (sz := 1) idq (r0.map iv) (iv E :: exq) r0.length (by simp)
                  simpa using this
                have hFF : F = if f' = true then (none, k', true) else frL x (frS x m B d) B rs E ((List.range (min m (rs.length + 1))).drop (i + 1)) k' := by
                  rw [hF]; cases f' <;> rfl
                have hi24 : i < 25 := by omega
                cases fr with
                | false =>
                  obtain ⟨rfl, hir3⟩ := hfr0 rfl
                  unfold slB
                  refine gK.go ?_
                  simp -implicitDefEqProofs [m1, m3, m7, hus4, hu3, hU3, hget_app hk1, hset3]
                  have o5 : GtLs (us'.set i (.sl idq 1 0 r0.length none)) rs2 (k1 ++ ([(idq, ⟨1, (r0 ++ [E]).map iv ++ exq⟩)] ++ k2)) := by
                    have := GtLs.put hu3 hl3 p1 og p3 (fun j a b => m13 j a j (.inr b) rfl) (fun j a b => by
                      simp only [dom, List.map_cons, List.map_nil, List.mem_singleton] at a
                      subst a
                      rw [dom_append, List.mem_append] at b
                      exact b.elim hk1 m11)
                    have he : (frPut rs2 i E).set i r0 = rs2 := by
                      rw [hpe, List.set_set, ← hrl]
                      exact List.set_getElem_self ..
                    rwa [he] at this
                  have go := ih (i + 1, k', f', .sl idr3 1 0 us'.length none, us'.set i (.sl idq 1 0 r0.length none), [(idr3, ⟨1, us'.set i (.sl idq 1 0 r0.length none) ++ ex3⟩)], k1 ++ ([(idq, ⟨1, (r0 ++ [E]).map iv ++ exq⟩)] ++ k2))
                    ⟨by simp only; omega, by simp only; omega, by simp only; omega, hbd.2, hfBB, hFF, GrT.sl idr3 _ ex3 us'.length (by simp), o5⟩ (by simp only; omega)
                  simp only at go
                  exact ⟨by omega, by omega, by omega, by omega, by simpa using go⟩
                | true =>
                  obtain ⟨hir3, hrs2⟩ := hfr1 rfl
                  unfold slB
                  refine gK.go ?_
                  simp -implicitDefEqProofs [m1, m3, m7, hus4, hu3, hU3, hget_app hk1, hset3]
                  have ht : (frPut rs i E).take i = rs := by
                    rw [hpe, hrs2, List.take_set_of_le (by omega)]
                    rw [hir3]
                    simp
                  rw [ht] at p1
                  have og2 : GrT 1 (.sl idr3 1 0 i none) (us'.take i) [(idr3, ⟨1, us'.set i (.sl idq 1 0 r0.length none) ++ ex3⟩)] := by
                    have := GrT.sl (sz := 1) idr3 (us'.take i) (((us'.set i (.sl idq 1 0 r0.length none)).drop i) ++ ex3) i (by simp; omega)
                    have e : us'.take i ++ (((us'.set i (.sl idq 1 0 r0.length none)).drop i) ++ ex3) = us'.set i (.sl idq 1 0 r0.length none) ++ ex3 := by
                      rw [← List.append_assoc]
                      congr 1
                      conv => rhs; rw [← List.take_append_drop i (us'.set i (.sl idq 1 0 r0.length none))]
                      rw [List.take_set_of_le (Nat.le_refl _)]
                    rwa [e] at this
                  have go := ih (i + 1, k', f', .sl idr3 1 0 i none, us'.take i, [(idr3, ⟨1, us'.set i (.sl idq 1 0 r0.length none) ++ ex3⟩)], k1)
                    ⟨by simp only; omega, by simp only; omega, by simp only; omega, hbd.2, hfBB, hFF, og2, p1⟩ (by simp only; omega)
                  simp only at go
                  refine ⟨by omega, by omega, by omega, by omega, by omega, Run2.sub (h' := (ids, ⟨6, [.agg [.ip [.int .i64 x.n, .snap 3 (x.ts.map T.av)], .int .i64 m, .sl idr3 1 0 i none, .int .i64 k', .int .i64 B, .bool f']]⟩) :: (idr3, ⟨1, us'.set i (.sl idq 1 0 r0.length none) ++ ex3⟩) :: (k1 ++ h)) ?_ ?_ (by simpa using go)⟩
                  · intro p hp
                    simp only [List.mem_cons, List.mem_append] at hp ⊢
                    rcases hp with hp | hp | hp | hp
                    · exact .inl hp
                    · exact .inr (.inl hp)
                    · exact .inr (.inr (.inl hp))
                    · exact .inr (.inr (.inr (.inr (.inr hp))))
                  · intro _
                    simp only [dom_append, dom_cons, List.nodup_cons, List.nodup_append, List.mem_cons, List.mem_append, not_or]
                    exact ⟨⟨m1, m2, m5⟩, ⟨m6, m9⟩, m10, m14, fun a ha b hb => m15 a (.inl ha) b hb⟩
      have hi1 : (i : Int) < m := by omega
      have hi2 : (i : Int) ≤ us.length := by omega
      by_cases hi3 : i < rs.length
      · obtain ⟨hu, h1, g, h2, e, o1, o2, o3⟩ := ho.split hi3
        cases hg with
        | nil => simp at hu
        | emp => simp at hu
        | sl idr _ ex n hn =>
          subst hn
          have hus : us[i]? = some us[i] := by simp [hu]
          have hus2 : (us ++ ex)[i]? = some us[i] := by rw [List.getElem?_append_left hu]; exact hus
          generalize hU : us[i] = w at *
          have hwc := o2.cell
          have hne : ¬ ids = idr := by
            simp only [dom_append, dom_cons, List.cons_append, List.nodup_cons, List.mem_cons, not_or] at nd
            exact nd.1.1
          have hi5 : ¬ (i : Int) = us.length := by omega
          have hrl24 := len_sumL (List.getElem_mem hi3)
          have hcall := fun (H : Heap) (hs : ∀ p ∈ g, p ∈ H) => l24Free_l x o2 E H hs (by omega) (fun a ha => by
            have := (hI.2.1 _ (List.getElem_mem hi3)).2 a ha
            exact ⟨this.1, by omega⟩) hinR
          unfold slB
          refine Run2.of I 1000 ?_
          simp -implicitDefEqProofs [hi1, hi2, hi5, hne, hus2, hu, hU, hwc, cells_of hwc, stor_of hwc]
          refine dcallK (hcall _ (fun p hp => by rw [e]; simp [hp])) ?_
          by_cases hfr : x.free rs[i] E
          · have hns : ¬ (i < rs.length ∧ ¬ x.free (rs.getD i []) E) := fun h => h.2 (by rw [hr0, ← hr0i hi3]; exact hfr)
            by_cases hkb : k = B
            · have hF2 : F = (none, k, true) := by
                rw [hF]
                cases f with
                | true => rfl
                | false => rw [if_neg (by simp), frL_full hns hkb]
              have fin : R (.bool false) ((ids, slB x m B (.sl idr 1 0 us.length none) B true) :: ([(idr, ⟨1, us ++ ex⟩)] ++ (hi ++ h))) := by
                rw [hR, hF2, hkb]
                exact ⟨_, us, _, hi, rfl, GrT.sl idr us ex us.length rfl, ho, rfl⟩
              unfold slB at fin
              simp -implicitDefEqProofs [hfr, hkb, hne]
              exact fin
            · obtain rfl : f = false := by
                cases f with
                | true => exact absurd (hfB rfl) hkb
                | false => rfl
              rw [if_neg (by simp), frL_go hns hkb] at hF
              have hrl : rs[i] = r0 := hr0i hi3
              rw [hrl] at o2
              subst e
              simp only [dom_append, dom_cons, List.cons_append, List.nil_append, List.nodup_cons, List.nodup_append, List.mem_cons, List.mem_append, not_or] at nd
              obtain ⟨⟨_, ⟨d2, d3, d4⟩, d5⟩, ⟨⟨d6, d7, d8⟩, d9⟩, ⟨d10, ⟨d11, d12, d13⟩, d14⟩, d15, d16⟩ := nd
              simp -implicitDefEqProofs [hfr, hkb, hne, hus2, hu, hU, hwc, cells_of hwc, stor_of hwc]
              refine ⟨by omega, ?_, ?_⟩
              all_goals
                refine o2.app_mid (pre := (ids, _) :: (idr, ⟨1, us ++ ex⟩) :: h1) (post := h2 ++ h) ?_ (by simp; omega) (by simp) fun w' g' hg' hd' => ?_
                · intro j hj hm
                  simp only [dom_cons, List.mem_cons] at hm
                  rcases hm with hm | hm | hm
                  · subst hm; exact d3 hj
                  · subst hm; exact d7 hj
                  · exact d14 j hm j (.inl hj) rfl
                · have n3 : ids ∉ dom g' := fun h => hd' _ h (by simp [dom])
                  have n4 : idr ∉ dom g' := fun h => hd' _ h (by simp [dom])
                  have cW := hg'.cell
                  have := tail40 false rs us ex idr h1 h2 w' g' o1 o3 hu hi3 hrl (fun _ => ⟨rfl, hi3⟩) (fun h => by cases h) (by unfold frPut; rw [if_pos hi3, hr0]) hkb hF (by simpa using hg')
                  unfold slB at this
                  have hset : (us ++ ex).set i w' = us.set i w' ++ ex := List.set_append_left _ _ hu
                  simp -implicitDefEqProofs [hne, n3, n4, hget_app n3, hget_app n4, hset_app n3, hset_app n4, cW, cells_of cW, stor_of cW, hu, hset]
                  exact ⟨by omega, this⟩
          · have hsk : i < rs.length ∧ ¬ x.free (rs.getD i []) E := ⟨hi3, by rw [hr0, ← hr0i hi3]; exact hfr⟩
            have go := ih (i + 1, k, f, .sl idr 1 0 us.length none, us, [(idr, ⟨1, us ++ ex⟩)], hi) ⟨by simp only; omega, by simp only; omega, hk0, hkB, hfB, by
              simp only
              rw [hF]
              cases f with
              | true => rfl
              | false => rw [if_neg (by simp), if_neg (by simp), frL_skip hsk], GrT.sl idr us ex us.length rfl, ho⟩ (by simp only; omega)
            simp only at go
            unfold slB at go
            simp -implicitDefEqProofs [hfr]
            exact ⟨by omega, by simpa using go⟩
      · have hi4 : i = rs.length := by omega
        have hns : ¬ (i < rs.length ∧ ¬ x.free (rs.getD i []) E) := fun h => hi3 h.1
        have hi5 : (i : Int) = us.length := by omega
        unfold slB
        by_cases hkb : k = B
        · have hF2 : F = (none, k, true) := by
            rw [hF]
            cases f with
            | true => rfl
            | false => rw [if_neg (by simp), frL_full hns hkb]
          refine Run2.of I 1000 ?_
          have fin : R (.bool false) ((ids, slB x m B u B true) :: (gr ++ (hi ++ h))) := by
            rw [hR, hF2, hkb]
            exact ⟨u, us, gr, hi, rfl, hg, ho, rfl⟩
          have hm5 : us.length < m := by omega
          unfold slB at fin
          simp -implicitDefEqProofs [hi1, hi2, hi5, hulen, huc, cells_of huc, stor_of huc, hkb, hm5]
          exact fin
        · obtain rfl : f = false := by
            cases f with
            | true => exact absurd (hfB rfl) hkb
            | false => rfl
          rw [if_neg (by simp), frL_go hns hkb] at hF
          refine Run2.of I 1000 ?_
          have hm5 : us.length < m := by omega
          simp -implicitDefEqProofs [hi1, hi2, hi5, hulen, huc, cells_of huc, stor_of huc, hkb, hm5]
          refine ⟨by omega, ?_⟩
          refine GrT.app_mid hg (pre := [(ids, _)]) (post := hi ++ h) (fun j hj hm => ?_) (by simp; omega) (by simp) fun w' gr' hg' hd' => ?_
          · simp only [dom, List.map_cons, List.map_nil, List.mem_singleton] at hm
            subst hm
            simp only [dom_append, dom_cons, List.nodup_cons, List.mem_append, not_or] at nd
            exact nd.1.1 hj
          · have n1 : ids ∉ dom gr' := fun h => hd' _ h (by simp [dom])
            have cW := hg'.cell
            have ho2 : GtLs (us ++ [.emp]) (rs ++ [[]]) hi := by
              have := ho.append (GtLs.cons (h1 := []) (show GrT 1 .emp (([] : List Int).map iv) [] from GrT.emp) .nil (by simp [dom])) (by simp [dom])
              simpa using this
            obtain ⟨idr, rfl, rfl⟩ := hg'.ne (by simp)
            have hr00 : r0 = [] := by rw [← hr0]; simp [hi4]
            have m1 : ¬ ids = idr := fun e => n1 (by simp [dom, e])
            have m2 : ¬ idr = ids := fun e => m1 e.symm
            simp -implicitDefEqProofs [m1, m2]
            refine ⟨?_, ?_⟩
            all_goals
              intro id q1 q2 q3 q4
              have q5 : ¬ idr = id := fun e => q1 e.symm
              have q6 : ¬ ids = id := fun e => q2 e.symm
              refine gK.go ?_
              simp -implicitDefEqProofs [m1, m2, q1, q2, q5, q6]
              have hui : i = us.length := by omega
              have hW : Grow 1 (.sl id 1 0 1 none) ((r0 ++ [E]).map iv) [(id, ⟨1, [.int .i64 E]⟩)] := by rw [hr00]; exact .sl id _ _ (by simp)
              have := tail40 true (rs ++ [[]]) (us ++ [.emp]) [] idr hi [] (.sl id 1 0 1 none) [(id, ⟨1, [.int .i64 E]⟩)]
                (by rw [List.take_append_of_le_length (by omega), List.take_append_of_le_length (by omega), List.take_of_length_le (by omega), List.take_of_length_le (by omega)]; exact ho)
                (by rw [List.drop_of_length_le (by simp; omega), List.drop_of_length_le (by simp; omega)]; exact .nil)
                (by simp; omega) (by simp; omega) (by rw [hr00, List.getElem_append_right (by omega)]; simp) (fun h => by cases h) (fun _ => ⟨hi4, rfl⟩)
                (by unfold frPut; rw [if_neg hi3, hr00, List.set_append_right _ _ (by omega)]; simp [hi4]) hkb hF hW
              unfold slB at this
              refine Run2.perm (.cons _ (List.Perm.swap ..)) ?_
              simpa [hui] using this
    · have hF' : F = (none, k, f) := by
        rw [hF, List.drop_of_length_le (by simp; omega)]
        cases f <;> rfl
      have fin : R (.bool false) ((ids, slB x m B u k f) :: (gr ++ (hi ++ h))) := by
        rw [hR, hF']
        exact ⟨u, us, gr, hi, rfl, hg, ho, rfl⟩
      unfold slB at fin ⊢
      by_cases hi1 : (i : Int) < m
      · have hi2 : ¬ (i : Int) ≤ us.length := by omega
        refine Run2.of I 1000 ?_
        simp -implicitDefEqProofs [hi1, hi2, hulen, huc]
        exact fin
      · refine Run2.of I 1000 ?_
        simp -implicitDefEqProofs [hi1, hulen, huc]
        exact fin
end Go.AG
