/- Parts: the program's labels, walked. No statement is made here. -/
import Derived.Test.YtamjnegnoijjlaaFxPb
namespace Go.AG
open Go.Proofs Go.Proofs.Ytamjnegnoijjlaa
set_option linter.unusedSimpArgs false
set_option linter.unusedVariables false
set_option maxRecDepth 4000
theorem edges_len (rs : List (List Int)) : (edges rs).length = (edD rs 1 rs.length).length := by simp [edges]
theorem edges_get (rs : List (List Int)) {j : Nat} (h : j < (edges rs).length) (h2 : j < (edD rs 1 rs.length).length) : (edges rs)[j] = edge rs (edD rs 1 rs.length)[j] := by simp [edges]
theorem rnd_nn {rs : List (List Int)} (h : cxOk rs) {L : Int → Int} (hL : ∀ v : Int, 0 ≤ v → 0 ≤ L v) : ∀ j, j ≤ (edges rs).length → ∀ v : Int, 0 ≤ v → 0 ≤ rnd ((edges rs).take j) L v
  | 0, _ => by simpa [rnd] using hL
  | j + 1, hj => by
    have ih := rnd_nn h hL j (by omega)
    rw [rnd_snoc _ (by omega)]
    have hj2 : j < (edD rs 1 rs.length).length := by rw [← edges_len]; omega
    obtain ⟨a, b, _, _, _, _, e, _, _⟩ := edge_at h (List.getElem_mem hj2)
    rw [edges_get rs (by omega) hj2, e]
    exact st1_nn ih (by simp) (by simp)
noncomputable def o_smpOf : List AV → Option (Prop × AV) := tab (fun (x : LS × Int) => match x with | (rs, d) => [.agg [.snap 1 (rs.map il)], .int .i64 d]) (fun x => match x with | (rs, d) => (ssTot rs ≤ 1048576 ∧ 0 ≤ d ∧ d ≤ 10)) (fun x => match x with | (rs, d) => .snap 1 ((edD rs d rs.length).map nvI))
@[simp] theorem o_smpOf_e (rs : LS) (d : Int) : o_smpOf [.agg [.snap 1 (rs.map il)], .int .i64 d] = some ((ssTot rs ≤ 1048576 ∧ 0 ≤ d ∧ d ≤ 10), .snap 1 ((edD rs d rs.length).map nvI)) := tab_at (enc := fun (x : LS × Int) => match x with | (rs, d) => [.agg [.snap 1 (rs.map il)], .int .i64 d]) (fun x y h => by
  obtain ⟨rs1, d1⟩ := x; obtain ⟨rs2, d2⟩ := y; simp at h; simp [h] <;> omega) _ _ (rs, d)
theorem o_smpOf_k : Knows Try.prog 91 o_smpOf := tab_knows fun x hx h => by
  obtain ⟨rs, d⟩ := x; exact smpOf_s rs d h hx.1 hx.2
noncomputable def orcPc : List (Nat × (List AV → Option (Prop × AV))) := (91, o_smpOf) :: (80, o_vtx) :: []
theorem orcPc_p : Pure Try.prog (lk orcPc) := (lk_pure o_smpOf_k (lk_pure o_vtx_k lk_pure0))
@[simp] theorem orcPc_l (b : Bool) (g : FuncId) (l : List AV) : lk orcPc b g l = if g = 91 then o_smpOf l else if g = 80 then o_vtx l else none := nr rfl
abbrev k84_o0 : List AJ := [.o ⟨(some 1), none, false, .box false 1 (.t 0), none⟩, .o ⟨(some 2), none, false, .mv (.c .nilsl), (some [1])⟩]
abbrev k84_o1 : List AJ := [.o ⟨(some 14), none, false, .mksl 1 8 (.int .i64 0) (.c (.int .i64 10)) (.c (.int .i64 10)), none⟩, .o ⟨(some 3), none, false, .mv (.t 14), (some [1, 3])⟩]
abbrev k84_o2 : List AJ := [.o ⟨(some 15), none, false, .mv (.t 3), none⟩, .o ⟨(some 16), none, false, .len (.t 15), none⟩, .o ⟨(some 17), none, false, .mv (.c (.int .i64 0)), (some [1, 3, 16, 17])⟩]
abbrev k84_o3 : List AJ := [.o ⟨(some 18), none, false, .bin .lss (.t 17) (.t 16), (some [1, 3, 16, 17, 18])⟩]
abbrev k84_o4 : List AJ := [.o ⟨(some 19), none, false, .mv (.t 17), none⟩, .o ⟨(some 4), none, false, .mv (.t 19), (some [1, 3, 4, 16, 17])⟩]
abbrev k84_o5 : List AJ := [.o ⟨(some 20), none, false, .mv (.t 3), none⟩, .o ⟨(some 21), none, false, .mv (.t 4), none⟩, .o ⟨(some 22), none, false, .mv (.t 4), none⟩, .o ⟨(some 23), none, false, .idxA 1 (.t 20) (.t 21), none⟩, .o ⟨none, none, false, .store 1 (.t 23) (.t 22), (some [1, 3, 16, 17])⟩]
def k84_6 : ACode := .region k84_o5
def k84_7 : ACode := .seq (.region k84_o4) k84_6
abbrev k84_o6 : List AJ := [.o ⟨(some 24), none, true, .bin .add (.t 17) (.c (.int .i64 1)), none⟩, .o ⟨(some 17), none, false, .mv (.t 24), (some [1, 3, 16, 17])⟩]
def k84_9 : ACode := .region k84_o6
def k84_10 : ACode := .seq (.block 1 k84_7) k84_9
def k84_11 : ACode := .seq (.cond (.t 18) .skip (.exit 0)) k84_10
def k84_12 : ACode := .seq (.region k84_o3) k84_11
def k84_13 : ACode := .loop k84_12
def k84_14 : ACode := .block 0 k84_13
def k84_15 : ACode := .seq (.region k84_o2) k84_14
abbrev k84_o7 : List AJ := [.o ⟨(some 5), none, false, .mv (.c (.bool true)), (some [1, 3, 5])⟩]
abbrev k84_o8 : List AJ := [.o ⟨(some 25), none, false, .mv (.t 5), (some [1, 3, 25])⟩]
def k84_18 : ACode := .cond (.t 25) .skip (.exit 2)
def k84_19 : ACode := .seq (.region k84_o8) k84_18
abbrev k84_o9 : List AJ := [.o ⟨(some 5), none, false, .mv (.c (.bool false)), (some [1, 3, 5])⟩]
abbrev k84_o10 : List AJ := [.o ⟨(some 26), none, false, .load 1 true (.t 1), none⟩, .o ⟨(some 27), none, false, .call 91 [(.t 26), (.c (.int .i64 1))], none⟩, .o ⟨(some 28), none, false, .len (.t 27), none⟩, .o ⟨(some 29), none, false, .mv (.c (.int .i64 0)), (some [1, 3, 5, 27, 28, 29])⟩]
abbrev k84_o11 : List AJ := [.o ⟨(some 30), none, false, .bin .lss (.t 29) (.t 28), (some [1, 3, 5, 27, 28, 29, 30])⟩]
abbrev k84_o12 : List AJ := [.o ⟨(some 31), none, false, .idxA 1 (.t 27) (.t 29), none⟩, .o ⟨(some 32), none, false, .load 1 false (.t 31), none⟩, .o ⟨(some 7), none, false, .mv (.t 32), (some [1, 3, 5, 7, 27, 28, 29])⟩]
abbrev k84_o13 : List AI := [⟨(some 33), none, false, .fieldA 0 (.t 1), none⟩, ⟨(some 34), none, false, .load 1 false (.t 33), none⟩, ⟨(some 35), none, false, .mv (.t 7), none⟩, ⟨(some 36), none, false, .idxA 1 (.t 34) (.t 35), none⟩, ⟨(some 37), none, false, .load 1 false (.t 36), none⟩, ⟨(some 38), none, false, .idxA 1 (.t 37) (.c (.int .i64 0)), none⟩, ⟨(some 39), none, false, .load 1 false (.t 38), none⟩, ⟨(some 40), none, false, .fieldA 0 (.t 1), none⟩, ⟨(some 41), none, false, .load 1 false (.t 40), none⟩, ⟨(some 42), none, false, .mv (.t 7), none⟩, ⟨(some 43), none, false, .idxA 1 (.t 41) (.t 42), none⟩, ⟨(some 44), none, false, .load 1 false (.t 43), none⟩, ⟨(some 45), none, false, .idxA 1 (.t 44) (.c (.int .i64 1)), none⟩, ⟨(some 46), none, false, .load 1 false (.t 45), (some [1, 3, 5, 27, 28, 29, 39, 46])⟩, ⟨(some 8), none, false, .mv (.t 39), none⟩, ⟨(some 9), none, false, .mv (.t 46), (some [1, 3, 5, 8, 9, 27, 28, 29])⟩]
abbrev k84_o14 : List AI := [⟨(some 47), none, false, .mv (.t 3), none⟩, ⟨(some 48), none, false, .mv (.t 8), none⟩, ⟨(some 49), none, false, .idxA 1 (.t 47) (.t 48), none⟩, ⟨(some 50), none, false, .load 1 false (.t 49), none⟩, ⟨(some 51), none, false, .mv (.t 3), none⟩, ⟨(some 52), none, false, .mv (.t 9), none⟩, ⟨(some 53), none, false, .idxA 1 (.t 51) (.t 52), none⟩, ⟨(some 54), none, false, .load 1 false (.t 53), none⟩, ⟨(some 55), none, false, .mx false [(.t 50), (.t 54)], none⟩, ⟨(some 10), none, false, .mv (.t 55), (some [1, 3, 5, 8, 9, 10, 27, 28, 29])⟩]
abbrev k84_o15 : List AI := [⟨(some 56), none, false, .mv (.t 3), none⟩, ⟨(some 57), none, false, .mv (.t 8), none⟩, ⟨(some 58), none, false, .idxA 1 (.t 56) (.t 57), none⟩, ⟨(some 59), none, false, .load 1 false (.t 58), none⟩, ⟨(some 60), none, false, .mv (.t 3), none⟩, ⟨(some 61), none, false, .mv (.t 9), none⟩, ⟨(some 62), none, false, .idxA 1 (.t 60) (.t 61), none⟩, ⟨(some 63), none, false, .load 1 false (.t 62), none⟩, ⟨(some 64), none, false, .bin .neq (.t 59) (.t 63), (some [1, 3, 5, 8, 9, 10, 27, 28, 29, 64])⟩]
abbrev k84_o16 : List AJ := [.o ⟨(some 65), none, false, .mv (.t 3), none⟩, .o ⟨(some 66), none, false, .mv (.t 8), none⟩, .o ⟨(some 67), none, false, .mv (.t 3), none⟩, .o ⟨(some 68), none, false, .mv (.t 9), none⟩, .o ⟨(some 69), none, false, .mv (.t 10), none⟩, .o ⟨(some 70), none, false, .mv (.t 10), none⟩, .o ⟨(some 71), none, false, .idxA 1 (.t 65) (.t 66), none⟩, .o ⟨none, none, false, .store 1 (.t 71) (.t 69), none⟩, .o ⟨(some 72), none, false, .idxA 1 (.t 67) (.t 68), none⟩, .o ⟨none, none, false, .store 1 (.t 72) (.t 70), (some [1, 3, 27, 28, 29])⟩]
abbrev k84_o17 : List AJ := [.o ⟨(some 5), none, false, .mv (.c (.bool true)), (some [1, 3, 5, 27, 28, 29])⟩]
def k84_29 : ACode := .region k84_o17
def k84_30 : ACode := .seq (.region k84_o16) k84_29
def k84_31 : ACode := .cond (.t 64) k84_30 .skip
def k84_32 : ACode := .seq (.draw k84_o15 [] rfl) k84_31
def k84_33 : ACode := .seq (.draw k84_o14 [] rfl) k84_32
def k84_34 : ACode := .seq (.draw k84_o13 [] rfl) k84_33
def k84_35 : ACode := .seq (.region k84_o12) k84_34
abbrev k84_o18 : List AJ := [.o ⟨(some 73), none, true, .bin .add (.t 29) (.c (.int .i64 1)), none⟩, .o ⟨(some 29), none, false, .mv (.t 73), (some [1, 3, 5, 27, 28, 29])⟩]
def k84_37 : ACode := .region k84_o18
def k84_38 : ACode := .seq (.block 5 k84_35) k84_37
def k84_39 : ACode := .seq (.cond (.t 30) .skip (.exit 4)) k84_38
def k84_40 : ACode := .seq (.region k84_o11) k84_39
def k84_41 : ACode := .loop k84_40
def k84_42 : ACode := .block 4 k84_41
def k84_43 : ACode := .seq (.region k84_o10) k84_42
def k84_44 : ACode := .seq (.region k84_o9) k84_43
def k84_45 : ACode := .block 3 k84_44
def k84_46 : ACode := .seq k84_19 k84_45
def k84_47 : ACode := .loop k84_46
def k84_48 : ACode := .block 2 k84_47
def k84_49 : ACode := .seq (.region k84_o7) k84_48
abbrev k84_o19 : List AJ := [.o ⟨(some 11), none, false, .mv (.c .nilsl), (some [1, 3, 11])⟩]
abbrev k84_o20 : List AJ := [.o ⟨(some 74), none, false, .load 1 true (.t 1), none⟩, .o ⟨(some 75), none, false, .call 80 [(.t 74)], none⟩, .o ⟨(some 76), none, false, .len (.t 75), none⟩, .o ⟨(some 77), none, false, .mv (.c (.int .i64 0)), (some [3, 11, 75, 76, 77])⟩]
abbrev k84_o21 : List AJ := [.o ⟨(some 78), none, false, .bin .lss (.t 77) (.t 76), (some [3, 11, 75, 76, 77, 78])⟩]
abbrev k84_o22 : List AJ := [.o ⟨(some 79), none, false, .idxA 1 (.t 75) (.t 77), none⟩, .o ⟨(some 80), none, false, .load 1 false (.t 79), none⟩, .o ⟨(some 13), none, false, .mv (.t 80), (some [3, 11, 13, 75, 76, 77])⟩]
abbrev k84_o23 : List AJ := [.o ⟨(some 81), none, false, .mv (.t 11), none⟩, .o ⟨(some 82), none, false, .mv (.t 3), none⟩, .o ⟨(some 83), none, false, .mv (.t 13), none⟩, .o ⟨(some 84), none, false, .idxA 1 (.t 82) (.t 83), none⟩, .o ⟨(some 85), none, false, .load 1 false (.t 84), none⟩, .o ⟨(some 86), none, false, .bsl false 1 [(.t 85)], none⟩, .o ⟨(some 87), none, false, .append 1 8 (.t 81) (.t 86), none⟩, .o ⟨(some 11), none, false, .mv (.t 87), (some [3, 11, 75, 76, 77])⟩]
def k84_55 : ACode := .region k84_o23
def k84_56 : ACode := .seq (.region k84_o22) k84_55
abbrev k84_o24 : List AJ := [.o ⟨(some 88), none, true, .bin .add (.t 77) (.c (.int .i64 1)), none⟩, .o ⟨(some 77), none, false, .mv (.t 88), (some [3, 11, 75, 76, 77])⟩]
def k84_58 : ACode := .region k84_o24
def k84_59 : ACode := .seq (.block 7 k84_56) k84_58
def k84_60 : ACode := .seq (.cond (.t 78) .skip (.exit 6)) k84_59
def k84_61 : ACode := .seq (.region k84_o21) k84_60
def k84_62 : ACode := .loop k84_61
def k84_63 : ACode := .block 6 k84_62
def k84_64 : ACode := .seq (.region k84_o20) k84_63
abbrev k84_o25 : List AJ := [.o ⟨(some 89), none, false, .mv (.t 11), none⟩, .o ⟨(some 2), none, false, .mv (.t 89), (some [2])⟩]
def k84_66 : ACode := .seq (.region k84_o25) .ret
def k84_67 : ACode := .seq k84_64 k84_66
def k84_68 : ACode := .seq (.region k84_o19) k84_67
def k84_69 : ACode := .seq k84_49 k84_68
def k84_70 : ACode := .seq k84_15 k84_69
def k84_71 : ACode := .seq (.region k84_o1) k84_70
def k84_72 : ACode := .seq (.region k84_o0) k84_71
@[simp, simp ↓] theorem k84_6r : rR k84_6 k84_o5 := zR rfl
@[simp, simp ↓] theorem k84_7r : sR k84_7 k84_o4 k84_6 := yR rfl
@[simp, simp ↓] theorem k84_9r : rR k84_9 k84_o6 := zR rfl
@[simp, simp ↓] theorem k84_10r : sB k84_10 1 k84_7 k84_9 := yB rfl
@[simp, simp ↓] theorem k84_11r : sC k84_11 (.t 18) .skip (.exit 0) k84_10 := yC rfl
@[simp, simp ↓] theorem k84_12r : sR k84_12 k84_o3 k84_11 := yR rfl
@[simp, simp ↓] theorem k84_13r : rL k84_13 k84_12 := zL rfl
@[simp, simp ↓] theorem k84_14r : rB k84_14 0 k84_13 := zB rfl
@[simp, simp ↓] theorem k84_15r : sR k84_15 k84_o2 k84_14 := yR rfl
@[simp, simp ↓] theorem k84_18r : rC k84_18 (.t 25) .skip (.exit 2) := zC rfl
@[simp, simp ↓] theorem k84_19r : sR k84_19 k84_o8 k84_18 := yR rfl
@[simp, simp ↓] theorem k84_29r : rR k84_29 k84_o17 := zR rfl
@[simp, simp ↓] theorem k84_30r : sR k84_30 k84_o16 k84_29 := yR rfl
@[simp, simp ↓] theorem k84_31r : rC k84_31 (.t 64) k84_30 .skip := zC rfl
@[simp, simp ↓] theorem k84_32r : sD k84_32 k84_o15 [] k84_31 := yD rfl
@[simp, simp ↓] theorem k84_33r : sD k84_33 k84_o14 [] k84_32 := yD rfl
@[simp, simp ↓] theorem k84_34r : sD k84_34 k84_o13 [] k84_33 := yD rfl
@[simp, simp ↓] theorem k84_35r : sR k84_35 k84_o12 k84_34 := yR rfl
@[simp, simp ↓] theorem k84_37r : rR k84_37 k84_o18 := zR rfl
@[simp, simp ↓] theorem k84_38r : sB k84_38 5 k84_35 k84_37 := yB rfl
@[simp, simp ↓] theorem k84_39r : sC k84_39 (.t 30) .skip (.exit 4) k84_38 := yC rfl
@[simp, simp ↓] theorem k84_40r : sR k84_40 k84_o11 k84_39 := yR rfl
@[simp, simp ↓] theorem k84_41r : rL k84_41 k84_40 := zL rfl
@[simp, simp ↓] theorem k84_42r : rB k84_42 4 k84_41 := zB rfl
@[simp, simp ↓] theorem k84_43r : sR k84_43 k84_o10 k84_42 := yR rfl
@[simp, simp ↓] theorem k84_44r : sR k84_44 k84_o9 k84_43 := yR rfl
@[simp, simp ↓] theorem k84_45r : rB k84_45 3 k84_44 := zB rfl
@[simp, simp ↓] theorem k84_46r : rS k84_46 k84_19 k84_45 := zS rfl
@[simp, simp ↓] theorem k84_47r : rL k84_47 k84_46 := zL rfl
@[simp, simp ↓] theorem k84_48r : rB k84_48 2 k84_47 := zB rfl
@[simp, simp ↓] theorem k84_49r : sR k84_49 k84_o7 k84_48 := yR rfl
@[simp, simp ↓] theorem k84_55r : rR k84_55 k84_o23 := zR rfl
@[simp, simp ↓] theorem k84_56r : sR k84_56 k84_o22 k84_55 := yR rfl
@[simp, simp ↓] theorem k84_58r : rR k84_58 k84_o24 := zR rfl
@[simp, simp ↓] theorem k84_59r : sB k84_59 7 k84_56 k84_58 := yB rfl
@[simp, simp ↓] theorem k84_60r : sC k84_60 (.t 78) .skip (.exit 6) k84_59 := yC rfl
@[simp, simp ↓] theorem k84_61r : sR k84_61 k84_o21 k84_60 := yR rfl
@[simp, simp ↓] theorem k84_62r : rL k84_62 k84_61 := zL rfl
@[simp, simp ↓] theorem k84_63r : rB k84_63 6 k84_62 := zB rfl
@[simp, simp ↓] theorem k84_64r : sR k84_64 k84_o20 k84_63 := yR rfl
@[simp, simp ↓] theorem k84_66r : sR k84_66 k84_o25 .ret := yR rfl
@[simp, simp ↓] theorem k84_67r : rS k84_67 k84_64 k84_66 := zS rfl
@[simp, simp ↓] theorem k84_68r : sR k84_68 k84_o19 k84_67 := yR rfl
@[simp, simp ↓] theorem k84_69r : rS k84_69 k84_49 k84_68 := zS rfl
@[simp, simp ↓] theorem k84_70r : rS k84_70 k84_15 k84_69 := zS rfl
@[simp, simp ↓] theorem k84_71r : sR k84_71 k84_o1 k84_70 := yR rfl
@[simp, simp ↓] theorem k84_72r : sR k84_72 k84_o0 k84_71 := yR rfl
noncomputable abbrev k84_C : Orc → Cx := mkC Try.prog [] 84 90 [.tmp 2]
theorem k84_of : OfP Try.prog Try.f84 84 90 k84_C k84_72 := @ofP _ _ _ _ _ _ _ _ Try.func84 (by decide +kernel) rfl (by kernel_rfl) rfl (by kernel_rfl)
theorem partsOf_s (rs : List (List Int)) (h : Heap) (hl : ssTot rs ≤ 1048576) (hc : cxOk rs) : ACalls Try.prog 84 [cx rs] h (fun v h' => v = .snap 1 (((vt rs).map (part1 rs)).map iv) ∧ h' = h) := by
  have hf := fit_of_tot hl
  have hn := hf.1
  refine k84_of rfl orcPc_p fun I => ?_
  refine Run2.of I 1000 ?_
  simp -implicitDefEqProofs
  intro id hid
  refine Run2.loopE (fun (i : Nat) => [(1, .ip [.snap 1 (rs.map il)]), (3, .sl id 1 0 10 (some 10)), (16, .int .i64 10), (17, .int .i64 i)]) (fun i => (id, ⟨1, ((List.range i).map nvI) ++ List.replicate (10 - i) (.int .i64 0)⟩) :: h) (fun i => 10 - i) (fun i => i ≤ 10) 0 (by simp) (by simp) (Nat.zero_le _) fun i hi ih => ?_
  by_cases hlt : i < 10
  · have go := ih (i + 1) hlt (by omega)
    have hset : ((List.range i).map nvI ++ List.replicate (10 - i) (AV.int .i64 0)).set i (AV.int .i64 i) = (List.range (i + 1)).map nvI ++ List.replicate (10 - (i + 1)) (AV.int .i64 0) := by
      rw [List.set_append_right _ _ (by simp), show 10 - i = (10 - (i + 1)) + 1 by omega, List.replicate_succ, List.range_succ]
      simp [nvI]
    rw [← hset] at go
    have hiI : (i : Int) < 10 := by omega
    have hil : i < i + (10 - i) := by omega
    clear ih
    refine Run2.of I 1000 ?_
    simp -implicitDefEqProofs [hlt, hiI, hil]
    exact ⟨by omega, by simpa using go⟩
  · obtain rfl : i = 10 := by omega
    refine Run2.of I 1000 ?_
    simp -implicitDefEqProofs
    clear hi hlt ih
    have h0 : (List.range 10).map nvI = (lab _root_.id).map iv := by simp [lab, nvI]
    rw [h0]
    refine Run2.loopE (α := (Int → Int) × Bool) (fun p => [(1, .ip [.snap 1 (rs.map il)]), (3, .sl id 1 0 10 (some 10)), (5, .bool p.2)]) (fun p => (id, ⟨1, (lab p.1).map iv⟩) :: h) (fun p => if p.2 then sumT p.1 + 1 else 0) (fun p => (∃ k, itR (edges rs) k _root_.id = p.1) ∧ (p.2 = false → rnd (edges rs) p.1 = p.1) ∧ ∀ v : Int, 0 ≤ v → 0 ≤ p.1 v) (_root_.id, true) (by simp) rfl ⟨⟨0, rfl⟩, by simp, by simp⟩ ?_
    rintro ⟨L, fl⟩ ⟨hk, hfx, hnn⟩ ih
    simp only at hk hfx hnn
    cases fl with
    | true =>
      have hel := edD_len rs 1 rs.length
      have heL := edges_len rs
      have go := fun M c => ih (M, c)
      clear ih
      refine Run2.of I 1000 ?_
      simp -implicitDefEqProofs [hl]
      refine Run2.loopE (α := Nat × Bool) (fun p => [(1, .ip [.snap 1 (rs.map il)]), (3, .sl id 1 0 10 (some 10)), (5, .bool p.2), (27, .snap 1 ((edD rs 1 rs.length).map nvI)), (28, .int .i64 (edD rs 1 rs.length).length), (29, .int .i64 p.1)]) (fun p => (id, ⟨1, (lab (rnd ((edges rs).take p.1) L)).map iv⟩) :: h) (fun p => (edD rs 1 rs.length).length - p.1) (fun p => p.1 ≤ (edD rs 1 rs.length).length ∧ (p.2 = false → rnd ((edges rs).take p.1) L = L) ∧ (p.2 = true → sumT (rnd ((edges rs).take p.1) L) < sumT L)) (0, false) (by simp) (by simp [rnd]) ⟨by simp, by simp [rnd], by simp⟩ ?_
      rintro ⟨j, c⟩ ⟨hj, hc1, hc2⟩ ih
      simp only at hj hc1 hc2
      by_cases hlt : j < (edD rs 1 rs.length).length
      · clear go
        have hnnM := rnd_nn hc hnn j (by omega)
        obtain ⟨a, b, hkl, hrk, hab, hb, hedge, _, _⟩ := edge_at hc (List.getElem_mem hlt)
        have hsnoc := rnd_snoc (edges rs) (j := j) (by omega) L
        rw [edges_get rs (by omega) hlt, hedge] at hsnoc
        have go := fun c' => ih (j + 1, c')
        simp only [hsnoc] at go
        clear ih hsnoc
        generalize rnd ((edges rs).take j) L = M at *
        generalize hke : (edD rs 1 rs.length)[j] = k at *
        generalize edD rs 1 rs.length = E at *
        have hnv : ∀ n, nvI n = .int .i64 n := fun _ => rfl
        have ha : a < 10 := by omega
        have hset := lab_set M ha hb
        have hLl := lab_len M
        have hlb : b < (lab M).length := by omega
        have hla : a < (lab M).length := by omega
        have hga : (lab M)[a] = M a := lab_get M ha hla
        have hgb : (lab M)[b] = M b := lab_get M hb hlb
        have haI : (a : Int) < 10 := by omega
        have hbI : (b : Int) < 10 := by omega
        by_cases hne : M a = M b
        · have hsame : st1 M ((a : Int), (b : Int)) = M := st1_same hne
          rw [hsame] at go
          have go := go c ⟨hlt, hc1, hc2⟩ (by omega)
          generalize lab M = F at *
          refine Run2.of I 1000 ?_
          simp -implicitDefEqProofs [hlt, hke, hnv, hkl, hrk, haI, hbI, ha, hb, hla, hlb, hga, hgb, hne]
          exact ⟨by omega, by simpa using go⟩
        · have hslt := sumT_lt hnnM ha hb hne
          have hsL : sumT M ≤ sumT L := by
            cases c with
            | false => rw [hc1 rfl]; omega
            | true => have := hc2 rfl; omega
          have go := go true ⟨hlt, by simp, fun _ => by omega⟩ (by omega)
          rw [← hset] at go
          generalize lab M = F at *
          refine Run2.of I 1000 ?_
          simp -implicitDefEqProofs [hlt, hke, hnv, hkl, hrk, haI, hbI, ha, hb, hla, hlb, hga, hgb, hne]
          exact ⟨by omega, by simpa [List.map_set] using go⟩
      · have hjl : j = (edD rs 1 rs.length).length := by omega
        rw [hjl, ← heL, List.take_length] at hc1 hc2 ⊢
        clear ih
        have hnnM := rnd_nn hc hnn _ (Nat.le_refl _)
        rw [List.take_length] at hnnM
        obtain ⟨k, hk⟩ := hk
        have go2 := go (rnd (edges rs) L) c ⟨⟨k + 1, by rw [itR_succ, hk]⟩, fun h => by rw [hc1 h, hc1 h], hnnM⟩ (by
          cases c with
          | false => simp
          | true => have := hc2 rfl; simp; omega)
        clear go
        generalize rnd (edges rs) L = M at *
        simp only [heL] at *
        generalize edD rs 1 rs.length = E at *
        refine Run2.of I 1000 ?_
        simp -implicitDefEqProofs [hlt]
        refine Run2.keep [1, 3, 5] ?_
        simpa [keep, List.lookup] using go2
    | false =>
      have hF := part1_of hc (hfx rfl) hk
      rw [hF]
      clear ih hfx hk hF
      refine Run2.of I 1000 ?_
      simp -implicitDefEqProofs [hl]
      have hvl := vt_len rs
      have hvb : ∀ v ∈ vt rs, 0 ≤ v ∧ v ≤ 9 := fun v hv => by
        unfold vt at hv
        obtain ⟨s, hs, rfl⟩ := List.mem_map.1 hv
        obtain ⟨hs1, hs2⟩ := List.mem_filter.1 hs
        have hs3 : s.length = 1 := by simpa using hs2
        refine (hc.mem hs1).1.2.2 _ ?_
        rw [List.mem_iff_getElem]
        exact ⟨0, by omega, by simp [hs3]⟩
      generalize vt rs = vs at *
      refine Run2.loopE (α := Nat × AV × Heap) (fun p => [(3, .sl id 1 0 10 (some 10)), (11, p.2.1), (75, .snap 1 (vs.map iv)), (76, .int .i64 vs.length), (77, .int .i64 (p.1 : Nat))]) (fun p => p.2.2 ++ ((id, ⟨1, (lab L).map iv⟩) :: h)) (fun p => vs.length - p.1) (fun p => p.1 ≤ vs.length ∧ Grow 1 p.2.1 (((vs.take p.1).map L).map iv) p.2.2 ∧ id ∉ dom p.2.2) (0, .nilsl, []) (by simp) rfl ⟨Nat.zero_le _, by simpa using Grow.nil, by simp [dom]⟩ ?_
      rintro ⟨i, w, hp⟩ ⟨hi, hg, hidp⟩ ih
      simp only at hi hg hidp
      have hcell := hg.cell
      have gI : ∀ z, hget (hp ++ z) id = hget z id := fun z => hget_app hidp
      by_cases hlt : i < vs.length
      · have hv := hvb _ (List.getElem_mem hlt)
        have go := fun w' hp' => ih (i + 1, w', hp')
        simp only [List.take_succ_eq_append_getElem hlt, List.map_append] at go
        obtain ⟨v, hve⟩ : ∃ v : Nat, vs[i] = v := ⟨vs[i].toNat, by omega⟩
        rw [hve] at hv go
        have hv10 : v < 10 := by omega
        have hvI : (v : Int) < 10 := by omega
        have hLl := lab_len L
        have hlv : v < (lab L).length := by omega
        have hga : (lab L)[v] = L v := lab_get L hv10 hlv
        clear ih
        generalize lab L = F at *
        refine Run2.of I 1000 ?_
        simp -implicitDefEqProofs [hlt, hcell, hve, hv10, hvI, hlv, hga, gI]
        refine hg.app_mid (pre := []) (fun _ _ h => by simp [dom] at h) (by simp; omega) (by simp) fun w' hp'' hg' hd' => ?_
        have hcell' := hg'.cell
        have := go w' hp'' ⟨hlt, by simpa using hg', fun hm => hd' id hm (by simp [dom])⟩ (by omega)
        simp -implicitDefEqProofs [hcell']
        exact ⟨by omega, by simpa using this⟩
      · obtain rfl : i = vs.length := by omega
        rw [List.take_length] at hg
        refine Run2.of I 1000 ?_
        simp -implicitDefEqProofs [hlt, hcell]
        refine hg.froze (fun x => x) (fun _ _ _ => rfl) (fun _ _ h => h) (.drop id (.base ⟨by simp, by simp [hdel]⟩))
end Go.AG
