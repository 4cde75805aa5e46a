/- Merges of parts: the program. No statement is made here. -/
import Derived.Test.YtamjnegnoijjlaaMgB
namespace Go.AG
open Go.Proofs Go.Proofs.Ytamjnegnoijjlaa
set_option linter.unusedSimpArgs false
set_option linter.unusedVariables false
set_option maxRecDepth 4000
noncomputable def Fil.mgC (x : Fil) : Int := if x.valid then 0 else 1
noncomputable def orcMg1 : List (Nat × (List AV → Option (Prop × AV))) := (16, o_validFil) :: (91, o_smpOf) :: (86, o_comingE) :: (90, o_born1) :: []
theorem orcMg1_p : Pure Try.prog (lk orcMg1) := (lk_pure o_validFil_k (lk_pure o_smpOf_k (lk_pure o_comingE_k (lk_pure o_born1_k lk_pure0))))
@[simp] theorem orcMg1_l (b : Bool) (g : FuncId) (l : List AV) : lk orcMg1 b g l = if g = 16 then o_validFil l else if g = 91 then o_smpOf l else if g = 86 then o_comingE l else if g = 90 then o_born1 l else none := nr rfl
abbrev k44_o0 : List AJ := [.o ⟨(some 1), none, false, .box false 2 (.t 0), none⟩, .o ⟨(some 2), none, false, .mv (.c .nilsl), none⟩, .o ⟨(some 3), none, false, .mv (.c (.int .i64 0)), (some [1])⟩]
abbrev k44_o1 : List AJ := [.o ⟨(some 12), none, false, .load 2 true (.t 1), none⟩, .o ⟨(some 13), none, false, .call 16 [(.t 12)], none⟩, .o ⟨(some 14), none, false, .un .not (.t 13), (some [1, 14])⟩]
abbrev k44_o2 : List AJ := [.o ⟨(some 2), none, false, .mv (.c .nilsl), none⟩, .o ⟨(some 3), none, false, .mv (.c (.int .i64 1)), (some [2, 3])⟩]
def k44_3 : ACode := .seq (.region k44_o2) .ret
def k44_4 : ACode := .cond (.t 14) k44_3 .skip
def k44_5 : ACode := .seq (.region k44_o1) k44_4
abbrev k44_o3 : List AJ := [.o ⟨(some 15), none, false, .call 87 [(.c (.int .i64 10))], none⟩, .o ⟨(some 4), none, false, .mv (.t 15), (some [1, 4])⟩]
abbrev k44_o4 : List AJ := [.o ⟨(some 16), none, false, .mkfn 90 [(.t 1)], none⟩, .o ⟨(some 5), none, false, .mv (.t 16), (some [1, 4, 5])⟩]
abbrev k44_o5 : List AJ := [.o ⟨(some 6), none, false, .mv (.c .nilsl), (some [1, 4, 5, 6])⟩]
abbrev k44_o6 : List AI := [⟨(some 17), none, false, .load 2 true (.t 1), none⟩, ⟨(some 18), none, false, .fieldA 0 (.t 1), none⟩, ⟨(some 19), none, false, .load 1 true (.t 18), none⟩, ⟨(some 20), none, false, .call 91 [(.t 19), (.c (.int .i64 1))], none⟩, ⟨(some 21), none, false, .call 86 [(.t 17), (.t 20)], none⟩, ⟨(some 22), none, false, .len (.t 21), none⟩, ⟨(some 23), none, false, .mv (.c (.int .i64 0)), (some [1, 4, 5, 6, 21, 22, 23])⟩]
abbrev k44_o7 : List AJ := [.o ⟨(some 24), none, false, .bin .lss (.t 23) (.t 22), (some [1, 4, 5, 6, 21, 22, 23, 24])⟩]
abbrev k44_o8 : List AJ := [.o ⟨(some 25), none, false, .idxA 1 (.t 21) (.t 23), none⟩, .o ⟨(some 26), none, false, .load 1 false (.t 25), none⟩, .o ⟨(some 8), none, false, .mv (.t 26), (some [1, 4, 5, 6, 8, 21, 22, 23])⟩]
abbrev k44_o9 : List AI := [⟨(some 27), none, false, .mv (.t 4), none⟩, ⟨(some 28), none, false, .fieldA 0 (.t 1), none⟩, ⟨(some 29), none, false, .fieldA 0 (.t 28), none⟩, ⟨(some 30), none, false, .load 1 false (.t 29), none⟩, ⟨(some 31), none, false, .mv (.t 8), none⟩, ⟨(some 32), none, false, .idxA 1 (.t 30) (.t 31), none⟩, ⟨(some 33), none, false, .load 1 false (.t 32), none⟩, ⟨(some 34), none, false, .idxA 1 (.t 33) (.c (.int .i64 0)), none⟩, ⟨(some 35), none, false, .load 1 false (.t 34), none⟩, ⟨(some 36), none, false, .idxA 1 (.t 27) (.t 35), none⟩, ⟨(some 37), none, false, .load 1 false (.t 36), none⟩, ⟨(some 38), none, false, .mv (.t 4), none⟩, ⟨(some 39), none, false, .fieldA 0 (.t 1), none⟩, ⟨(some 40), none, false, .fieldA 0 (.t 39), (some [1, 4, 5, 6, 8, 21, 22, 23, 37, 38, 40])⟩, ⟨(some 41), none, false, .load 1 false (.t 40), none⟩, ⟨(some 42), none, false, .mv (.t 8), none⟩, ⟨(some 43), none, false, .idxA 1 (.t 41) (.t 42), none⟩, ⟨(some 44), none, false, .load 1 false (.t 43), none⟩, ⟨(some 45), none, false, .idxA 1 (.t 44) (.c (.int .i64 1)), none⟩, ⟨(some 46), none, false, .load 1 false (.t 45), none⟩, ⟨(some 47), none, false, .idxA 1 (.t 38) (.t 46), none⟩, ⟨(some 48), none, false, .load 1 false (.t 47), none⟩, ⟨(some 9), none, false, .mv (.t 37), none⟩, ⟨(some 10), none, false, .mv (.t 48), (some [1, 4, 5, 6, 8, 9, 10, 21, 22, 23])⟩]
abbrev k44_o10 : List AJ := [.o ⟨(some 49), none, false, .mv (.t 9), none⟩, .o ⟨(some 50), none, false, .mv (.t 10), none⟩, .o ⟨(some 51), none, false, .bin .eql (.t 49) (.t 50), (some [1, 4, 5, 6, 8, 9, 10, 21, 22, 23, 51])⟩]
def k44_15 : ACode := .cond (.t 51) (.exit 1) .skip
def k44_16 : ACode := .seq (.region k44_o10) k44_15
abbrev k44_o11 : List AJ := [.o ⟨(some 52), none, false, .mv (.t 5), none⟩, .o ⟨(some 53), none, false, .mv (.t 9), none⟩, .o ⟨(some 54), none, false, .callv (.t 52) [(.t 53)], none⟩, .o ⟨(some 55), none, false, .mv (.t 5), none⟩, .o ⟨(some 56), none, false, .mv (.t 10), none⟩, .o ⟨(some 57), none, false, .callv (.t 55) [(.t 56)], none⟩, .o ⟨(some 58), none, false, .bin .lss (.t 54) (.t 57), none⟩, .o ⟨(some 59), none, false, .mv (.t 58), none⟩, .o ⟨(some 60), (some (59, false)), false, .mv (.t 5), none⟩, .o ⟨(some 61), (some (59, false)), false, .mv (.t 9), none⟩, .o ⟨(some 62), (some (59, false)), false, .callv (.t 60) [(.t 61)], (some [1, 4, 5, 6, 8, 9, 10, 21, 22, 23, 59, 62])⟩, .o ⟨(some 63), (some (59, false)), false, .mv (.t 5), none⟩, .o ⟨(some 64), (some (59, false)), false, .mv (.t 10), none⟩, .o ⟨(some 65), (some (59, false)), false, .callv (.t 63) [(.t 64)], none⟩, .o ⟨(some 66), (some (59, false)), false, .bin .eql (.t 62) (.t 65), none⟩, .o ⟨(some 67), (some (59, false)), false, .mv (.t 66), none⟩, .o ⟨(some 68), (some (67, true)), false, .mv (.t 9), none⟩, .o ⟨(some 69), (some (67, true)), false, .mv (.t 10), (some [1, 4, 5, 6, 8, 9, 10, 21, 22, 23, 59, 67, 68, 69])⟩, .o ⟨(some 70), (some (67, true)), false, .bin .lss (.t 68) (.t 69), none⟩, .o ⟨(some 71), (some (59, false)), false, .pick (.t 67) (.t 70) (.c (.bool false)), none⟩, .o ⟨(some 72), none, false, .pick (.t 59) (.c (.bool true)) (.t 71), (some [1, 4, 5, 6, 8, 9, 10, 21, 22, 23, 72])⟩]
abbrev k44_o12 : List AJ := [.o ⟨(some 73), none, false, .mv (.t 10), none⟩, .o ⟨(some 74), none, false, .mv (.t 9), none⟩, .o ⟨(some 9), none, false, .mv (.t 73), none⟩, .o ⟨(some 10), none, false, .mv (.t 74), (some [1, 4, 5, 6, 8, 9, 10, 21, 22, 23])⟩]
def k44_18 : ACode := .region k44_o12
def k44_19 : ACode := .cond (.t 72) k44_18 .skip
def k44_20 : ACode := .seq (.region k44_o11) k44_19
abbrev k44_o13 : List AJ := [.o ⟨(some 75), none, false, .mv (.t 6), none⟩, .o ⟨(some 76), none, false, .fieldA 1 (.t 1), none⟩, .o ⟨(some 77), none, false, .load 1 false (.t 76), none⟩, .o ⟨(some 78), none, false, .mv (.t 8), none⟩, .o ⟨(some 79), none, false, .idxA 1 (.t 77) (.t 78), none⟩, .o ⟨(some 80), none, false, .load 1 false (.t 79), none⟩, .o ⟨(some 81), none, false, .mv (.t 9), none⟩, .o ⟨(some 82), none, false, .mv (.t 10), none⟩, .o ⟨(some 83), none, false, .bsl true 1 [(.t 80), (.t 81), (.t 82)], none⟩, .o ⟨(some 84), none, false, .bsl false 1 [(.t 83)], none⟩, .o ⟨(some 85), none, false, .append 1 24 (.t 75) (.t 84), none⟩, .o ⟨(some 6), none, false, .mv (.t 85), (some [1, 4, 5, 6, 9, 10, 21, 22, 23])⟩]
abbrev k44_o14 : List AJ := [.o ⟨(some 86), none, false, .mv (.t 4), none⟩, .o ⟨(some 87), none, false, .len (.t 86), none⟩, .o ⟨(some 88), none, false, .mv (.c (.int .i64 0)), (some [1, 4, 5, 6, 9, 10, 21, 22, 23, 87, 88])⟩]
abbrev k44_o15 : List AJ := [.o ⟨(some 89), none, false, .bin .lss (.t 88) (.t 87), (some [1, 4, 5, 6, 9, 10, 21, 22, 23, 87, 88, 89])⟩]
abbrev k44_o16 : List AJ := [.o ⟨(some 90), none, false, .mv (.t 88), none⟩, .o ⟨(some 11), none, false, .mv (.t 90), (some [1, 4, 5, 6, 9, 10, 11, 21, 22, 23, 87, 88])⟩]
abbrev k44_o17 : List AJ := [.o ⟨(some 91), none, false, .mv (.t 4), none⟩, .o ⟨(some 92), none, false, .mv (.t 11), none⟩, .o ⟨(some 93), none, false, .idxA 1 (.t 91) (.t 92), none⟩, .o ⟨(some 94), none, false, .load 1 false (.t 93), none⟩, .o ⟨(some 95), none, false, .mv (.t 9), none⟩, .o ⟨(some 96), none, false, .bin .eql (.t 94) (.t 95), (some [1, 4, 5, 6, 9, 10, 11, 21, 22, 23, 87, 88, 96])⟩]
abbrev k44_o18 : List AJ := [.o ⟨(some 97), none, false, .mv (.t 4), none⟩, .o ⟨(some 98), none, false, .mv (.t 11), none⟩, .o ⟨(some 99), none, false, .mv (.t 10), none⟩, .o ⟨(some 100), none, false, .idxA 1 (.t 97) (.t 98), none⟩, .o ⟨none, none, false, .store 1 (.t 100) (.t 99), (some [1, 4, 5, 6, 9, 10, 21, 22, 23, 87, 88])⟩]
def k44_27 : ACode := .region k44_o18
def k44_28 : ACode := .cond (.t 96) k44_27 .skip
def k44_29 : ACode := .seq (.region k44_o17) k44_28
def k44_30 : ACode := .seq (.region k44_o16) k44_29
abbrev k44_o19 : List AJ := [.o ⟨(some 101), none, true, .bin .add (.t 88) (.c (.int .i64 1)), none⟩, .o ⟨(some 88), none, false, .mv (.t 101), (some [1, 4, 5, 6, 9, 10, 21, 22, 23, 87, 88])⟩]
def k44_32 : ACode := .region k44_o19
def k44_33 : ACode := .seq (.block 3 k44_30) k44_32
def k44_34 : ACode := .seq (.cond (.t 89) .skip (.exit 2)) k44_33
def k44_35 : ACode := .seq (.region k44_o15) k44_34
def k44_36 : ACode := .loop k44_35
def k44_37 : ACode := .block 2 k44_36
def k44_38 : ACode := .seq (.region k44_o14) k44_37
def k44_39 : ACode := .seq (.region k44_o13) k44_38
def k44_40 : ACode := .seq k44_20 k44_39
def k44_41 : ACode := .seq k44_16 k44_40
def k44_42 : ACode := .seq (.draw k44_o9 [] rfl) k44_41
def k44_43 : ACode := .seq (.region k44_o8) k44_42
abbrev k44_o20 : List AJ := [.o ⟨(some 102), none, true, .bin .add (.t 23) (.c (.int .i64 1)), none⟩, .o ⟨(some 23), none, false, .mv (.t 102), (some [1, 4, 5, 6, 21, 22, 23])⟩]
def k44_45 : ACode := .region k44_o20
def k44_46 : ACode := .seq (.block 1 k44_43) k44_45
def k44_47 : ACode := .seq (.cond (.t 24) .skip (.exit 0)) k44_46
def k44_48 : ACode := .seq (.region k44_o7) k44_47
def k44_49 : ACode := .loop k44_48
def k44_50 : ACode := .block 0 k44_49
def k44_51 : ACode := .seq (.draw k44_o6 [] rfl) k44_50
abbrev k44_o21 : List AJ := [.o ⟨(some 103), none, false, .mv (.t 6), none⟩, .o ⟨(some 2), none, false, .mv (.t 103), none⟩, .o ⟨(some 3), none, false, .mv (.c (.int .i64 0)), (some [2, 3])⟩]
def k44_53 : ACode := .seq (.region k44_o21) .ret
def k44_54 : ACode := .seq k44_51 k44_53
def k44_55 : ACode := .seq (.region k44_o5) k44_54
def k44_56 : ACode := .seq (.region k44_o4) k44_55
def k44_57 : ACode := .seq (.region k44_o3) k44_56
def k44_58 : ACode := .seq k44_5 k44_57
def k44_59 : ACode := .seq (.region k44_o0) k44_58
@[simp, simp ↓] theorem k44_3r : sR k44_3 k44_o2 .ret := yR rfl
@[simp, simp ↓] theorem k44_4r : rC k44_4 (.t 14) k44_3 .skip := zC rfl
@[simp, simp ↓] theorem k44_5r : sR k44_5 k44_o1 k44_4 := yR rfl
@[simp, simp ↓] theorem k44_15r : rC k44_15 (.t 51) (.exit 1) .skip := zC rfl
@[simp, simp ↓] theorem k44_16r : sR k44_16 k44_o10 k44_15 := yR rfl
@[simp, simp ↓] theorem k44_18r : rR k44_18 k44_o12 := zR rfl
@[simp, simp ↓] theorem k44_19r : rC k44_19 (.t 72) k44_18 .skip := zC rfl
@[simp, simp ↓] theorem k44_20r : sR k44_20 k44_o11 k44_19 := yR rfl
@[simp, simp ↓] theorem k44_27r : rR k44_27 k44_o18 := zR rfl
@[simp, simp ↓] theorem k44_28r : rC k44_28 (.t 96) k44_27 .skip := zC rfl
@[simp, simp ↓] theorem k44_29r : sR k44_29 k44_o17 k44_28 := yR rfl
@[simp, simp ↓] theorem k44_30r : sR k44_30 k44_o16 k44_29 := yR rfl
@[simp, simp ↓] theorem k44_32r : rR k44_32 k44_o19 := zR rfl
@[simp, simp ↓] theorem k44_33r : sB k44_33 3 k44_30 k44_32 := yB rfl
@[simp, simp ↓] theorem k44_34r : sC k44_34 (.t 89) .skip (.exit 2) k44_33 := yC rfl
@[simp, simp ↓] theorem k44_35r : sR k44_35 k44_o15 k44_34 := yR rfl
@[simp, simp ↓] theorem k44_36r : rL k44_36 k44_35 := zL rfl
@[simp, simp ↓] theorem k44_37r : rB k44_37 2 k44_36 := zB rfl
@[simp, simp ↓] theorem k44_38r : sR k44_38 k44_o14 k44_37 := yR rfl
@[simp, simp ↓] theorem k44_39r : sR k44_39 k44_o13 k44_38 := yR rfl
@[simp, simp ↓] theorem k44_40r : rS k44_40 k44_20 k44_39 := zS rfl
@[simp, simp ↓] theorem k44_41r : rS k44_41 k44_16 k44_40 := zS rfl
@[simp, simp ↓] theorem k44_42r : sD k44_42 k44_o9 [] k44_41 := yD rfl
@[simp, simp ↓] theorem k44_43r : sR k44_43 k44_o8 k44_42 := yR rfl
@[simp, simp ↓] theorem k44_45r : rR k44_45 k44_o20 := zR rfl
@[simp, simp ↓] theorem k44_46r : sB k44_46 1 k44_43 k44_45 := yB rfl
@[simp, simp ↓] theorem k44_47r : sC k44_47 (.t 24) .skip (.exit 0) k44_46 := yC rfl
@[simp, simp ↓] theorem k44_48r : sR k44_48 k44_o7 k44_47 := yR rfl
@[simp, simp ↓] theorem k44_49r : rL k44_49 k44_48 := zL rfl
@[simp, simp ↓] theorem k44_50r : rB k44_50 0 k44_49 := zB rfl
@[simp, simp ↓] theorem k44_51r : sD k44_51 k44_o6 [] k44_50 := yD rfl
@[simp, simp ↓] theorem k44_53r : sR k44_53 k44_o21 .ret := yR rfl
@[simp, simp ↓] theorem k44_54r : rS k44_54 k44_51 k44_53 := zS rfl
@[simp, simp ↓] theorem k44_55r : sR k44_55 k44_o5 k44_54 := yR rfl
@[simp, simp ↓] theorem k44_56r : sR k44_56 k44_o4 k44_55 := yR rfl
@[simp, simp ↓] theorem k44_57r : sR k44_57 k44_o3 k44_56 := yR rfl
@[simp, simp ↓] theorem k44_58r : rS k44_58 k44_5 k44_57 := zS rfl
@[simp, simp ↓] theorem k44_59r : sR k44_59 k44_o0 k44_58 := yR rfl
noncomputable abbrev k44_C : Orc → Cx := mkC Try.prog [83] 44 104 [.tmp 2, .tmp 3]
theorem k44_of : OfP Try.prog Try.f44 44 104 k44_C k44_59 := @ofP _ _ _ _ _ _ _ _ Try.func44 (by decide +kernel) rfl (by kernel_rfl) rfl (by kernel_rfl)
set_option maxHeartbeats 4000000 in
theorem implMg_o (x : Fil) (hl : x.tot ≤ 1048576) : ACalls Try.prog 44 [x.av] [] (fun v h' => ∃ w, v = .tup [w, .int .i64 x.mgC] ∧ OwnLL w x.mgs h') := by
  obtain ⟨hl1, hl2⟩ := x.lens hl
  refine ACalls.permR ?_
  refine k44_of rfl orcMg1_p fun I => ?_
  unfold Fil.mgs Fil.mgC
  by_cases hv : x.valid
  · have hc := hv.1
    have hts := hv.2.1.1
    have h48 : x.ts.length ≤ 48 := by rw [hts]; exact hc.2
    have hol := eOrd_len x.rs x.ts
    have hr48 := hc.2
    rw [if_pos hv, if_pos hv]
    have c0 := fun h => firstChoice_g 10 h (by omega)
    simp only [upto_lab] at c0
    refine Run2.of I 1000 ?_
    simp -implicitDefEqProofs [hl, hl1, hv, h48, hts]
    refine (c0 _).mono ?_
    rintro v h' ⟨hp0, G0, rfl⟩
    obtain ⟨id, rfl, rfl⟩ := G0.ne (by simp [lab])
    clear c0 G0
    refine gK.go ?_
    simp -implicitDefEqProofs [hl, hl1, hv, h48, hts, hr48, lab_len]
    have hdm := mgF_in x.ts hc
    generalize hE : eOrd x.rs x.ts = E at *
    refine Run2.loopE (α := Nat × AV × List AV × Heap × Heap) (fun s => [(1, .ip [.snap 1 (x.rs.map il), .snap 1 (x.ts.map iv)]), (4, .sl id 1 0 10 none), (5, .fn 90 [.ip [.snap 1 (x.rs.map il), .snap 1 (x.ts.map iv)]]), (6, s.2.1), (21, .snap 1 (E.map iv)), (22, .int .i64 E.length), (23, .int .i64 (s.1 : Nat))]) (fun s => s.2.2.2.1 ++ (s.2.2.2.2 ++ [(id, ⟨1, (lab (mgF x.rs x.ts (E.take s.1)).1).map iv⟩)])) (fun s => E.length - s.1) (fun s => s.1 ≤ E.length ∧ Grow 1 s.2.1 s.2.2.1 s.2.2.2.1 ∧ OwnP s.2.2.1 (mgF x.rs x.ts (E.take s.1)).2 s.2.2.2.2 ∧ id ∉ dom s.2.2.2.1 ∧ id ∉ dom s.2.2.2.2) (0, .nilsl, [], [], []) (by simp) rfl ⟨Nat.zero_le _, .nil, ⟨[], .nil, .refl _⟩, by simp [dom], by simp [dom]⟩ ?_
    rintro ⟨i, w, us, hp, hi⟩ ⟨hin, hg, ho, hd1, hd2⟩ ih
    simp only at hin hg ho hd1 hd2
    have hcell := hg.cell
    have hul : us.length ≤ i := by
      obtain ⟨hj, o, _⟩ := ho
      have := (mgF_len x.rs x.ts (E.take i) (_root_.id, [])).1
      rw [o.len]
      simp only [List.length_take, List.length_nil] at this
      unfold mgF
      omega
    have gI : ∀ z, hget (hp ++ z) id = hget z id := fun z => hget_app hd1
    have gJ : ∀ z, hget (hi ++ z) id = hget z id := fun z => hget_app hd2
    by_cases hlt : i < E.length
    · obtain ⟨n, hk, hnE⟩ := eOrd_mem (rs := x.rs) (ts := x.ts) (k := E[i]) (by rw [hE]; exact List.getElem_mem hlt)
      obtain ⟨a, b, hkl, hrk, hab, hb, hedge, hxa, hxb⟩ := edge_at hc hnE
      have hLin := hdm (E.take i) (_root_.id, []) (fun k hk' => by
        obtain ⟨m, rfl, hm⟩ := eOrd_mem (rs := x.rs) (ts := x.ts) (k := k) (by rw [hE]; exact List.mem_of_mem_take hk')
        simpa using hm) (fun v hv => hv)
      have hmg := mgF_take x.rs x.ts hlt
      have go := fun w' us' hp' hi' => ih (i + 1, w', us', hp', hi')
      simp only [hmg] at go
      clear ih hmg hdm
      change ∀ v ∈ vt x.rs, (mgF x.rs x.ts (E.take i)).1 v ∈ vt x.rs at hLin
      generalize mgF x.rs x.ts (E.take i) = st at *
      obtain ⟨L, out⟩ := st
      simp only at hLin ho
      have hnt : n < x.ts.length := by omega
      have hkey : keyT x.ts (n : Int) = x.ts[n] := by simp [keyT, hnt]
      simp only [mg1, hk, Int.toNat_natCast, hedge, hkey] at go
      have hxin := hLin _ hxa
      have hyin := hLin _ hxb
      have ha : a < 10 := by omega
      have hLl := lab_len L
      have hlb : b < (lab L).length := by omega
      have hla : a < (lab L).length := by omega
      have hga : (lab L)[a] = L a := lab_get L ha hla
      have hgb : (lab L)[b] = L b := lab_get L hb hlb
      have haI : (a : Int) < 10 := by omega
      have hbI : (b : Int) < 10 := by omega
      by_cases hne : L a = L b
      · have h1 : mgL (bornF x.rs x.ts) ((a : Int), (b : Int)) L = L := by unfold mgL; rw [if_pos hne]
        have h2 : mgR (bornF x.rs x.ts) x.ts[n] ((a : Int), (b : Int)) L = [] := by unfold mgR; rw [if_pos hne]
        rw [h1, h2, List.append_nil] at go
        have go := go w us hp hi ⟨hlt, hg, ho, hd1, hd2⟩ (by omega)
        generalize lab L = F at *
        refine Run2.of I 1000 ?_
        simp -implicitDefEqProofs [hlt, hcell, hk, hkl, hrk, haI, hbI, ha, hb, hla, hlb, hga, hgb, hne, gI, gJ]
        exact ⟨by omega, by simpa using go⟩
      · generalize hp' : lat (bornF x.rs x.ts) (L a) (L b) = p at *
        generalize hq' : oth (bornF x.rs x.ts) (L a) (L b) = q at *
        have h1 : mgL (bornF x.rs x.ts) ((a : Int), (b : Int)) L = rep1 L p q := by unfold mgL; rw [if_neg hne]; rw [← hp', ← hq']
        have h2 : mgR (bornF x.rs x.ts) x.ts[n] ((a : Int), (b : Int)) L = [[x.ts[n], p, q]] := by unfold mgR; rw [if_neg hne]; rw [← hp', ← hq']
        rw [h1, h2] at go
        unfold lat at hp'
        unfold oth at hq'
        generalize hxx : L a = u at *
        generalize hyy : L b = t at *
        generalize hbxe : bornF x.rs x.ts u = bx at hp' hq'
        generalize hbye : bornF x.rs x.ts t = bt at hp' hq'
        have hcase : ((bx < bt ∧ True ∧ True) ∧ t = p ∧ u = q) ∨ ((¬ bx < bt ∧ bx = bt ∧ u < t) ∧ t = p ∧ u = q) ∨ ((¬ bx < bt ∧ bx = bt ∧ ¬ u < t) ∧ u = p ∧ t = q) ∨ ((¬ bx < bt ∧ ¬ bx = bt ∧ True) ∧ u = p ∧ t = q) := by
          by_cases e1 : bx < bt
          · rw [if_pos (.inl e1)] at hp' hq'
            exact .inl ⟨⟨e1, trivial, trivial⟩, hp', hq'⟩
          · by_cases e2 : bx = bt
            · by_cases e3 : u < t
              · rw [if_pos (.inr ⟨e2, e3⟩)] at hp' hq'
                exact .inr (.inl ⟨⟨e1, e2, e3⟩, hp', hq'⟩)
              · rw [if_neg (by rintro (h | ⟨_, h⟩); exact e1 h; exact e3 h)] at hp' hq'
                exact .inr (.inr (.inl ⟨⟨e1, e2, e3⟩, hp', hq'⟩))
            · rw [if_neg (by rintro (h | ⟨h, _⟩); exact e1 h; exact e2 h)] at hp' hq'
              exact .inr (.inr (.inr ⟨⟨e1, e2, trivial⟩, hp', hq'⟩))
        clear h1 h2
        have hAl : (lab (rep1 L p q)).length = 10 := lab_len _
        have hAB : ∀ j (h1 : j < (lab (rep1 L p q)).length) (h2 : j < (lab L).length), (lab (rep1 L p q))[j]'h1 = if (lab L)[j]'h2 = p then q else (lab L)[j]'h2 := fun j h1 h2 => by
          rw [lab_get _ (by omega) h1, lab_get _ (by omega) h2]; rfl
        generalize hA : lab (rep1 L p q) = A at *
        generalize hB : lab L = B at *
        rcases hcase with ⟨⟨e1, e2, e3⟩, hp', hq'⟩ | ⟨⟨e1, e2, e3⟩, hp', hq'⟩ | ⟨⟨e1, e2, e3⟩, hp', hq'⟩ | ⟨⟨e1, e2, e3⟩, hp', hq'⟩
        all_goals
          have hp2 := hp'.symm
          have hq2 := hq'.symm
          subst hp2 hq2
          refine Run2.of I 1000 ?_
          simp -implicitDefEqProofs [hlt, hcell, hk, hkl, hrk, haI, hbI, ha, hb, hla, hlb, hga, hgb, hne, gI, gJ, hl1, hc, hts, hxin, hyin, hbxe, hbye, e1, e2, e3, hnt]
          intro i3 n1 n2 n3
          have nd3 : ∀ j ∈ dom hp, j ∉ dom ([(i3, ⟨1, [.int .i64 x.ts[n], .int .i64 p, .int .i64 q]⟩)] : Heap) := fun j hj hm => by
            have : j = i3 := by simpa [dom] using hm
            subst this; exact n1 hj
          refine gK.go ?_
          simp -implicitDefEqProofs [hcell]
          refine hg.app_mid (bytes := 24) (new := [.sl i3 1 0 3 (some 3)]) (pre := [(i3, ⟨1, [.int .i64 x.ts[n], .int .i64 p, .int .i64 q]⟩)]) (post := hi ++ [(id, ⟨1, B.map iv⟩)]) nd3 (by simp; omega) (by simp) fun w' hpn hgn hdn => ?_
          have hcelln := hgn.cell
          simp -implicitDefEqProofs [hcelln, hLl]
          have hdid : id ∉ dom hpn := fun hm => hdn id hm (by simp [dom])
          have oR : OwnL iv 1 (.sl i3 1 0 3 (some 3)) [x.ts[n], p, q] [(i3, ⟨1, [.int .i64 x.ts[n], .int .i64 p, .int .i64 q]⟩)] := by
            have := OwnL.sl (enc := iv) (sz := 1) (l := [x.ts[n], p, q]) i3 (some 3) [] rfl
            simpa using this
          have go := go w' (us ++ [.sl i3 1 0 3 (some 3)]) hpn ([(i3, ⟨1, [.int .i64 x.ts[n], .int .i64 p, .int .i64 q]⟩)] ++ hi) ⟨by omega, hgn, ho.app oR (fun j hj hm => by
            have : j = i3 := by simpa [dom] using hj
            subst this; exact n2 hm), hdid, fun hm => by
            rw [dom_append, List.mem_append] at hm
            rcases hm with hm | hm
            · have : id = i3 := by simpa [dom] using hm
              exact n3 this.symm
            · exact hd2 hm⟩ (by omega)
          have eG : ∀ Q : Blk, hpn ++ (i3, ⟨1, [.int .i64 x.ts[n], .int .i64 p, .int .i64 q]⟩) :: (hi ++ [(id, Q)]) = (hpn ++ ([(i3, ⟨1, [.int .i64 x.ts[n], .int .i64 p, .int .i64 q]⟩)] ++ hi)) ++ [(id, Q)] := fun Q => by simp
          have hGd : id ∉ dom (hpn ++ ([(i3, ⟨1, [.int .i64 x.ts[n], .int .i64 p, .int .i64 q]⟩)] ++ hi)) := fun hm => by
            rw [dom_append, dom_append, List.mem_append, List.mem_append] at hm
            rcases hm with hm | hm | hm
            · exact hdid hm
            · have : id = i3 := by simpa [dom] using hm
              exact n3 this.symm
            · exact hd2 hm
          rw [← List.append_assoc] at go
          rw [eG]
          generalize hpn ++ ([(i3, (⟨1, [.int .i64 x.ts[n], .int .i64 p, .int .i64 q]⟩ : Blk))] ++ hi) = G at *
          have gG : ∀ z, hget (G ++ z) id = hget z id := fun z => hget_app hGd
          have sG : ∀ z c, hset (G ++ z) id c = G ++ hset z id c := fun z c => hset_app hGd
          clear hdn hd1 hd2 gI gJ ho hg hgn oR eG nd3 n1 n2 n3 hxx hyy hbxe hbye hxin hyin hga hgb hLin
          refine Run2.loopE (fun (j : Nat) => [(1, .ip [.snap 1 (x.rs.map il), .snap 1 (x.ts.map iv)]), (4, .sl id 1 0 10 none), (5, .fn 90 [.ip [.snap 1 (x.rs.map il), .snap 1 (x.ts.map iv)]]), (6, w'), (9, .int .i64 p), (10, .int .i64 q), (21, .snap 1 (E.map iv)), (22, .int .i64 E.length), (23, .int .i64 (i : Nat)), (87, .int .i64 10), (88, .int .i64 j)]) (fun j => G ++ [(id, ⟨1, (mixT A B j).map iv⟩)]) (fun j => 10 - j) (fun j => j ≤ 10) 0 (by simp) (by simp [mixT_zero]) (Nat.zero_le _) fun j hj ih => ?_
          by_cases hj10 : j < 10
          · clear go
            have hBj : j < B.length := by omega
            have hAj : j < A.length := by omega
            have hjI : (j : Int) < 10 := by omega
            have hAv := hAB j hAj hBj
            have hMg := fun h2 => mixT_get (A := A) (B := B) (by omega) hBj h2
            have hMl : (mixT A B j).length = 10 := by rw [mixT_length A B (by omega)]; exact hAl
            have go := ih (j + 1) (by omega) (by omega)
            clear ih
            by_cases he : B[j] = p
            · rw [if_pos he] at hAv
              rw [← mixT_set (by omega) hAj, hAv] at go
              rw [he] at hMg
              generalize mixT A B j = M at *
              have hMj : j < M.length := by omega
              refine Run2.of I 1000 ?_
              simp -implicitDefEqProofs [hj10, hjI, hMj, hMg, gG, sG, hcelln]
              exact ⟨by omega, by simpa [List.map_set] using go⟩
            · rw [if_neg he] at hAv
              rw [mixT_same (by omega) hAj hAv] at go
              generalize mixT A B j = M at *
              have hMj : j < M.length := by omega
              refine Run2.of I 1000 ?_
              simp -implicitDefEqProofs [hj10, hjI, hMj, hMg, gG, sG, hcelln, he]
              exact ⟨by omega, by simpa using go⟩
          · obtain rfl : j = 10 := by omega
            rw [show mixT A B 10 = A by rw [← hAl]; exact mixT_len A B (by omega)]
            clear ih
            refine Run2.of I 1000 ?_
            simp -implicitDefEqProofs [hcelln]
            exact ⟨by omega, by simpa using go⟩
    · obtain rfl : i = E.length := by omega
      rw [List.take_length] at ho
      refine Run2.of I 1000 ?_
      simp -implicitDefEqProofs [hlt, hcell]
      refine .drop id (.base fun nd => ?_)
      rw [hdel_app hd1, hdel_app hd2] at nd ⊢
      simp only [hdel, if_true, List.append_nil] at nd ⊢
      obtain ⟨h', pm, o⟩ := OwnLL.of_grow hg ho nd
      exact ⟨h', pm, _, rfl, o⟩
  · rw [if_neg hv, if_neg hv]
    refine Run2.of I 1000 ?_
    simp -implicitDefEqProofs [hl, hv]
    exact .base fun _ => ⟨[], .refl _, _, rfl, .nil⟩
end Go.AG
