/- Times by the greatest value of the vertices: the program and the reference. No statement is made here. -/
import Derived.Test.YtamjnegnoijjlaaFxLo
import Derived.Test.YtamjnegnoijjlaaFxM
namespace Go.AG
open Go.Proofs Go.Proofs.Ytamjnegnoijjlaa
set_option linter.unusedSimpArgs false
set_option linter.unusedVariables false
set_option maxRecDepth 4000
def tmOk (xs : List Int) : Prop := ∀ t ∈ xs, 0 ≤ t ∧ t ≤ 1000
noncomputable instance (xs : List Int) : Decidable (tmOk xs) := Classical.propDecidable _
def anyT (xs : List Int) : Bool := xs.any fun a => !(decide (0 ≤ a) && decide (a ≤ 1000))
theorem anyT_iff (xs : List Int) : anyT xs = false ↔ tmOk xs := by
  unfold anyT tmOk
  rw [List.any_eq_false]
  constructor
  · intro h t ht
    have := h t ht
    simp at this
    omega
  · intro h t ht
    have := h t ht
    simp
    omega
noncomputable def loCode (qs : List (List Int)) (xs : List Int) : Int := if cxOk qs then if xs.length = (vt qs).length ∧ tmOk xs then 0 else 7 else 1
def loT (qs : List (List Int)) (xs : List Int) : Fil := ⟨qs, qs.map (low (vt qs) xs)⟩
noncomputable def loF (qs : List (List Int)) (xs : List Int) : Fil := if loCode qs xs = 0 then loT qs xs else ⟨[], []⟩
theorem loF_tot (qs : List (List Int)) (xs : List Int) : (loF qs xs).tot ≤ 1048576 := by
  unfold loF
  split
  · rename_i h
    have hc : cxOk qs := by
      unfold loCode at h
      split at h
      · assumption
      · omega
    have := hc.tot
    have := hc.2
    simp [Fil.tot, loT]; omega
  · simp [Fil.tot, ssTot, sumL]
noncomputable def o_vtx : List AV → Option (Prop × AV) := tab (fun (x : LS) => match x with | rs => [.agg [.snap 1 (rs.map il)]]) (fun x => match x with | rs => ssTot rs ≤ 1048576) (fun x => match x with | rs => .snap 1 ((vt rs).map iv))
@[simp] theorem o_vtx_e (rs : LS) : o_vtx [.agg [.snap 1 (rs.map il)]] = some (ssTot rs ≤ 1048576, .snap 1 ((vt rs).map iv)) := tab_at (enc := fun (x : LS) => match x with | rs => [.agg [.snap 1 (rs.map il)]]) (fun x y h => by
  simp at h; simp [h] <;> omega) _ _ rs
theorem o_vtx_k : Knows Try.prog 80 o_vtx := tab_knows fun x hx h => by
  exact vtx_s x h hx
noncomputable def o_l08Vtx : List AV → Option (Prop × AV) := tab (fun (x : LS × List AV) => match x with | (rs, e) => [.ip (.snap 1 (rs.map il) :: e)]) (fun x => match x with | (rs, e) => ssTot rs ≤ 1048576) (fun x => match x with | (rs, e) => .snap 1 ((vt rs).map iv))
@[simp] theorem o_l08Vtx_e (rs : LS) (e : List AV) : o_l08Vtx [.ip (.snap 1 (rs.map il) :: e)] = some (ssTot rs ≤ 1048576, .snap 1 ((vt rs).map iv)) := tab_at (enc := fun (x : LS × List AV) => match x with | (rs, e) => [.ip (.snap 1 (rs.map il) :: e)]) (fun x y h => by
  obtain ⟨rs1, e1⟩ := x; obtain ⟨rs2, e2⟩ := y; simp at h; simp [h] <;> omega) _ _ (rs, e)
theorem o_l08Vtx_k : Knows Try.prog 77 o_l08Vtx := tab_knows fun x hx h => by
  obtain ⟨rs, e⟩ := x; exact l08Vtx_s rs e h hx
noncomputable def o_l08Told : List AV → Option (Prop × AV) := tab (fun (x : List Int × List Int × Int) => match x with | (vs, xs, v) => [.snap 1 (vs.map iv), .snap 1 (xs.map iv), .int .i64 v]) (fun x => match x with | (vs, xs, v) => (xs.length = vs.length ∧ v ∈ vs ∧ xs.length ≤ 1048576)) (fun x => match x with | (vs, xs, v) => .int .i64 (vl vs xs v))
@[simp] theorem o_l08Told_e (vs : List Int) (xs : List Int) (v : Int) : o_l08Told [.snap 1 (vs.map iv), .snap 1 (xs.map iv), .int .i64 v] = some ((xs.length = vs.length ∧ v ∈ vs ∧ xs.length ≤ 1048576), .int .i64 (vl vs xs v)) := tab_at (enc := fun (x : List Int × List Int × Int) => match x with | (vs, xs, v) => [.snap 1 (vs.map iv), .snap 1 (xs.map iv), .int .i64 v]) (fun x y h => by
  obtain ⟨vs1, xs1, v1⟩ := x; obtain ⟨vs2, xs2, v2⟩ := y; simp at h; simp [h] <;> omega) _ _ (vs, xs, v)
theorem o_l08Told_k : Knows Try.prog 79 o_l08Told := tab_knows fun x hx h => by
  obtain ⟨vs, xs, v⟩ := x; exact l08Told_s vs xs v h hx.1 hx.2.1 hx.2.2
noncomputable def o_l00Max : List AV → Option (Prop × AV) := tab (fun (x : Int × Int) => match x with | (a, b) => [.int .i64 a, .int .i64 b]) (fun x => match x with | (a, b) => True) (fun x => match x with | (a, b) => .int .i64 (max a b))
@[simp] theorem o_l00Max_e (a : Int) (b : Int) : o_l00Max [.int .i64 a, .int .i64 b] = some (True, .int .i64 (max a b)) := tab_at (enc := fun (x : Int × Int) => match x with | (a, b) => [.int .i64 a, .int .i64 b]) (fun x y h => by
  obtain ⟨a1, b1⟩ := x; obtain ⟨a2, b2⟩ := y; simp at h; simp [h] <;> omega) _ _ (a, b)
theorem o_l00Max_k : Knows Try.prog 78 o_l00Max := tab_knows fun x hx h => by
  obtain ⟨a, b⟩ := x; exact l00Max_l _ _ h
noncomputable def o_anyT : List AV → Option (Prop × AV) := tab (fun (x : List Int) => match x with | l => [.snap 1 (l.map iv), .fn 81 []]) (fun x => match x with | l => l.length ≤ 1048576) (fun x => match x with | l => .bool (anyT l))
@[simp] theorem o_anyT_e (l : List Int) : o_anyT [.snap 1 (l.map iv), .fn 81 []] = some (l.length ≤ 1048576, .bool (anyT l)) := tab_at (enc := fun (x : List Int) => match x with | l => [.snap 1 (l.map iv), .fn 81 []]) (fun x y h => by
  simp at h; simp [h] <;> omega) _ _ l
theorem o_anyT_k : Knows Try.prog 55 o_anyT := tab_knows fun x hx h => by
  exact ContainsFunc_s x 81 [] (fun a => !(decide (0 ≤ a) && decide (a ≤ 1000))) h hx fun a _ => LF1_c a h
noncomputable def orcLo1 : List (Nat × (List AV → Option (Prop × AV))) := (54, o_validCx) :: (80, o_vtx) :: (82, o_indexI) :: (55, o_anyT) :: []
theorem orcLo1_p : Pure Try.prog (lk orcLo1) := (lk_pure o_validCx_k (lk_pure o_vtx_k (lk_pure o_indexI_k (lk_pure o_anyT_k lk_pure0))))
@[simp] theorem orcLo1_l (b : Bool) (g : FuncId) (l : List AV) : lk orcLo1 b g l = if g = 54 then o_validCx l else if g = 80 then o_vtx l else if g = 82 then o_indexI l else if g = 55 then o_anyT l else none := nr rfl
abbrev k38_o0 : List AJ := [.o ⟨(some 2), none, false, .box false 1 (.t 0), none⟩, .o ⟨(some 4), none, false, .alloc true 2 (.agg [.nilsl, .nilsl]), none⟩, .o ⟨(some 5), none, false, .mv (.c (.int .i64 0)), (some [1, 2, 4])⟩]
abbrev k38_o1 : List AJ := [.o ⟨(some 13), none, false, .load 1 true (.t 2), none⟩, .o ⟨(some 14), none, false, .call 54 [(.t 13)], none⟩, .o ⟨(some 15), none, false, .un .not (.t 14), (some [1, 2, 4, 15])⟩]
abbrev k38_o2 : List AJ := [.o ⟨(some 16), none, false, .build [.nilsl, .nilsl] [], none⟩, .o ⟨none, none, false, .store 2 (.t 4) (.t 16), none⟩, .o ⟨(some 5), none, false, .mv (.c (.int .i64 1)), (some [4, 5])⟩]
def k38_3 : ACode := .seq (.region k38_o2) .ret
def k38_4 : ACode := .cond (.t 15) k38_3 .skip
def k38_5 : ACode := .seq (.region k38_o1) k38_4
abbrev k38_o3 : List AJ := [.o ⟨(some 17), none, false, .load 1 true (.t 2), none⟩, .o ⟨(some 18), none, false, .call 80 [(.t 17)], none⟩, .o ⟨(some 6), none, false, .mv (.t 18), (some [1, 2, 4, 6])⟩]
abbrev k38_o4 : List AJ := [.o ⟨(some 19), none, false, .mv (.t 1), none⟩, .o ⟨(some 20), none, false, .len (.t 19), none⟩, .o ⟨(some 21), none, false, .mv (.t 6), none⟩, .o ⟨(some 22), none, false, .len (.t 21), none⟩, .o ⟨(some 23), none, false, .bin .neq (.t 20) (.t 22), none⟩, .o ⟨(some 24), none, false, .mv (.t 23), none⟩, .o ⟨(some 25), (some (24, false)), false, .mv (.t 1), none⟩, .o ⟨(some 26), (some (24, false)), false, .call 55 [(.t 25), (.c (.fn 81 []))], none⟩, .o ⟨(some 27), none, false, .pick (.t 24) (.c (.bool true)) (.t 26), (some [1, 2, 4, 6, 27])⟩]
abbrev k38_o5 : List AJ := [.o ⟨(some 28), none, false, .build [.nilsl, .nilsl] [], none⟩, .o ⟨none, none, false, .store 2 (.t 4) (.t 28), none⟩, .o ⟨(some 5), none, false, .mv (.c (.int .i64 7)), (some [4, 5])⟩]
def k38_9 : ACode := .seq (.region k38_o5) .ret
def k38_10 : ACode := .cond (.t 27) k38_9 .skip
def k38_11 : ACode := .seq (.region k38_o4) k38_10
abbrev k38_o6 : List AJ := [.o ⟨(some 29), none, false, .fieldA 0 (.t 2), none⟩, .o ⟨(some 30), none, false, .load 1 false (.t 29), none⟩, .o ⟨(some 31), none, false, .call 75 [(.t 30)], none⟩, .o ⟨(some 32), none, false, .build [.nilsl, .nilsl] [(0, 1, (.t 31))], none⟩, .o ⟨(some 7), none, false, .alloc true 2 (.agg [.nilsl, .nilsl]), none⟩, .o ⟨none, none, false, .store 2 (.t 7) (.t 32), (some [1, 2, 4, 6, 7])⟩]
abbrev k38_o7 : List AJ := [.o ⟨(some 33), none, false, .fieldA 0 (.t 2), none⟩, .o ⟨(some 34), none, false, .load 1 false (.t 33), none⟩, .o ⟨(some 35), none, false, .len (.t 34), none⟩, .o ⟨(some 36), none, false, .mv (.c (.int .i64 0)), (some [1, 4, 6, 7, 34, 35, 36])⟩]
abbrev k38_o8 : List AJ := [.o ⟨(some 37), none, false, .bin .lss (.t 36) (.t 35), (some [1, 4, 6, 7, 34, 35, 36, 37])⟩]
abbrev k38_o9 : List AJ := [.o ⟨(some 38), none, false, .idxA 1 (.t 34) (.t 36), none⟩, .o ⟨(some 39), none, false, .load 1 false (.t 38), none⟩, .o ⟨(some 9), none, false, .mv (.t 39), (some [1, 4, 6, 7, 9, 34, 35, 36])⟩]
abbrev k38_o10 : List AJ := [.o ⟨(some 10), none, false, .mv (.c (.int .i64 0)), (some [1, 4, 6, 7, 9, 10, 34, 35, 36])⟩]
abbrev k38_o11 : List AJ := [.o ⟨(some 40), none, false, .mv (.t 9), none⟩, .o ⟨(some 41), none, false, .len (.t 40), none⟩, .o ⟨(some 42), none, false, .mv (.c (.int .i64 0)), (some [1, 4, 6, 7, 10, 34, 35, 36, 40, 41, 42])⟩]
abbrev k38_o12 : List AJ := [.o ⟨(some 43), none, false, .bin .lss (.t 42) (.t 41), (some [1, 4, 6, 7, 10, 34, 35, 36, 40, 41, 42, 43])⟩]
abbrev k38_o13 : List AJ := [.o ⟨(some 44), none, false, .idxA 1 (.t 40) (.t 42), none⟩, .o ⟨(some 45), none, false, .load 1 false (.t 44), none⟩, .o ⟨(some 12), none, false, .mv (.t 45), (some [1, 4, 6, 7, 10, 12, 34, 35, 36, 40, 41, 42])⟩]
abbrev k38_o14 : List AJ := [.o ⟨(some 46), none, false, .mv (.t 10), none⟩, .o ⟨(some 47), none, false, .mv (.t 1), none⟩, .o ⟨(some 48), none, false, .mv (.t 6), none⟩, .o ⟨(some 49), none, false, .mv (.t 12), none⟩, .o ⟨(some 50), none, false, .call 82 [(.t 48), (.t 49)], none⟩, .o ⟨(some 51), none, false, .idxA 1 (.t 47) (.t 50), none⟩, .o ⟨(some 52), none, false, .load 1 false (.t 51), none⟩, .o ⟨(some 53), none, false, .mx true [(.t 46), (.t 52)], none⟩, .o ⟨(some 10), none, false, .mv (.t 53), (some [1, 4, 6, 7, 10, 34, 35, 36, 40, 41, 42])⟩]
def k38_22 : ACode := .region k38_o14
def k38_23 : ACode := .seq (.region k38_o13) k38_22
abbrev k38_o15 : List AJ := [.o ⟨(some 54), none, true, .bin .add (.t 42) (.c (.int .i64 1)), none⟩, .o ⟨(some 42), none, false, .mv (.t 54), (some [1, 4, 6, 7, 10, 34, 35, 36, 40, 41, 42])⟩]
def k38_25 : ACode := .region k38_o15
def k38_26 : ACode := .seq (.block 3 k38_23) k38_25
def k38_27 : ACode := .seq (.cond (.t 43) .skip (.exit 2)) k38_26
def k38_28 : ACode := .seq (.region k38_o12) k38_27
def k38_29 : ACode := .loop k38_28
def k38_30 : ACode := .block 2 k38_29
def k38_31 : ACode := .seq (.region k38_o11) k38_30
abbrev k38_o16 : List AJ := [.o ⟨(some 55), none, false, .fieldA 1 (.t 7), none⟩, .o ⟨(some 56), none, false, .load 1 false (.t 55), none⟩, .o ⟨(some 57), none, false, .mv (.t 10), none⟩, .o ⟨(some 58), none, false, .bsl false 1 [(.t 57)], none⟩, .o ⟨(some 59), none, false, .append 1 8 (.t 56) (.t 58), none⟩, .o ⟨(some 60), none, false, .fieldA 1 (.t 7), none⟩, .o ⟨none, none, false, .store 1 (.t 60) (.t 59), (some [1, 4, 6, 7, 34, 35, 36])⟩]
def k38_32 : ACode := .region k38_o16
def k38_33 : ACode := .seq k38_31 k38_32
def k38_34 : ACode := .seq (.region k38_o10) k38_33
def k38_35 : ACode := .seq (.region k38_o9) k38_34
abbrev k38_o17 : List AJ := [.o ⟨(some 61), none, true, .bin .add (.t 36) (.c (.int .i64 1)), none⟩, .o ⟨(some 36), none, false, .mv (.t 61), (some [1, 4, 6, 7, 34, 35, 36])⟩]
def k38_37 : ACode := .region k38_o17
def k38_38 : ACode := .seq (.block 1 k38_35) k38_37
def k38_39 : ACode := .seq (.cond (.t 37) .skip (.exit 0)) k38_38
def k38_40 : ACode := .seq (.region k38_o8) k38_39
def k38_41 : ACode := .loop k38_40
def k38_42 : ACode := .block 0 k38_41
def k38_43 : ACode := .seq (.region k38_o7) k38_42
abbrev k38_o18 : List AJ := [.o ⟨(some 62), none, false, .load 2 true (.t 7), none⟩, .o ⟨none, none, false, .store 2 (.t 4) (.t 62), none⟩, .o ⟨(some 5), none, false, .mv (.c (.int .i64 0)), (some [4, 5])⟩]
def k38_45 : ACode := .seq (.region k38_o18) .ret
def k38_46 : ACode := .seq k38_43 k38_45
def k38_47 : ACode := .seq (.region k38_o6) k38_46
def k38_48 : ACode := .seq k38_11 k38_47
def k38_49 : ACode := .seq (.region k38_o3) k38_48
def k38_50 : ACode := .seq k38_5 k38_49
def k38_51 : ACode := .seq (.region k38_o0) k38_50
@[simp, simp ↓] theorem k38_3r : sR k38_3 k38_o2 .ret := yR rfl
@[simp, simp ↓] theorem k38_4r : rC k38_4 (.t 15) k38_3 .skip := zC rfl
@[simp, simp ↓] theorem k38_5r : sR k38_5 k38_o1 k38_4 := yR rfl
@[simp, simp ↓] theorem k38_9r : sR k38_9 k38_o5 .ret := yR rfl
@[simp, simp ↓] theorem k38_10r : rC k38_10 (.t 27) k38_9 .skip := zC rfl
@[simp, simp ↓] theorem k38_11r : sR k38_11 k38_o4 k38_10 := yR rfl
@[simp, simp ↓] theorem k38_22r : rR k38_22 k38_o14 := zR rfl
@[simp, simp ↓] theorem k38_23r : sR k38_23 k38_o13 k38_22 := yR rfl
@[simp, simp ↓] theorem k38_25r : rR k38_25 k38_o15 := zR rfl
@[simp, simp ↓] theorem k38_26r : sB k38_26 3 k38_23 k38_25 := yB rfl
@[simp, simp ↓] theorem k38_27r : sC k38_27 (.t 43) .skip (.exit 2) k38_26 := yC rfl
@[simp, simp ↓] theorem k38_28r : sR k38_28 k38_o12 k38_27 := yR rfl
@[simp, simp ↓] theorem k38_29r : rL k38_29 k38_28 := zL rfl
@[simp, simp ↓] theorem k38_30r : rB k38_30 2 k38_29 := zB rfl
@[simp, simp ↓] theorem k38_31r : sR k38_31 k38_o11 k38_30 := yR rfl
@[simp, simp ↓] theorem k38_32r : rR k38_32 k38_o16 := zR rfl
@[simp, simp ↓] theorem k38_33r : rS k38_33 k38_31 k38_32 := zS rfl
@[simp, simp ↓] theorem k38_34r : sR k38_34 k38_o10 k38_33 := yR rfl
@[simp, simp ↓] theorem k38_35r : sR k38_35 k38_o9 k38_34 := yR rfl
@[simp, simp ↓] theorem k38_37r : rR k38_37 k38_o17 := zR rfl
@[simp, simp ↓] theorem k38_38r : sB k38_38 1 k38_35 k38_37 := yB rfl
@[simp, simp ↓] theorem k38_39r : sC k38_39 (.t 37) .skip (.exit 0) k38_38 := yC rfl
@[simp, simp ↓] theorem k38_40r : sR k38_40 k38_o8 k38_39 := yR rfl
@[simp, simp ↓] theorem k38_41r : rL k38_41 k38_40 := zL rfl
@[simp, simp ↓] theorem k38_42r : rB k38_42 0 k38_41 := zB rfl
@[simp, simp ↓] theorem k38_43r : sR k38_43 k38_o7 k38_42 := yR rfl
@[simp, simp ↓] theorem k38_45r : sR k38_45 k38_o18 .ret := yR rfl
@[simp, simp ↓] theorem k38_46r : rS k38_46 k38_43 k38_45 := zS rfl
@[simp, simp ↓] theorem k38_47r : sR k38_47 k38_o6 k38_46 := yR rfl
@[simp, simp ↓] theorem k38_48r : rS k38_48 k38_11 k38_47 := zS rfl
@[simp, simp ↓] theorem k38_49r : sR k38_49 k38_o3 k38_48 := yR rfl
@[simp, simp ↓] theorem k38_50r : rS k38_50 k38_5 k38_49 := zS rfl
@[simp, simp ↓] theorem k38_51r : sR k38_51 k38_o0 k38_50 := yR rfl
noncomputable abbrev k38_C : Orc → Cx := mkC Try.prog [4, 7] 38 63 [.cell 4 2 true, .tmp 5]
theorem k38_of : OfP Try.prog Try.f38 38 63 k38_C k38_51 := @ofP _ _ _ _ _ _ _ _ Try.func38 (by decide +kernel) rfl (by kernel_rfl) rfl (by kernel_rfl)
theorem implLo_o (qs : List (List Int)) (xs : List Int) (hq : ssTot qs ≤ 1048576) (hx : xs.length ≤ 1048576) : ACalls Try.prog 38 [cx qs, .snap 1 (xs.map iv)] [] (fun v h' => ∃ w, v = .tup [w, .int .i64 (loCode qs xs)] ∧ OwnFil w (loF qs xs) h') := by
  refine ACalls.permR ?_
  refine k38_of rfl orcLo1_p fun I => ?_
  have bad : ∀ (b : Nat) (z : Blk) (k : Int), loCode qs xs = k → k ≠ 0 → Post (fun v h => (dom h).Nodup → ∃ h', h.Perm h' ∧ ∃ w, v = .tup [w, .int .i64 (loCode qs xs)] ∧ OwnFil w (loF qs xs) h') (.tup [.agg [.nilsl, .nilsl], .int .i64 k]) [(b, z)] := by
    intro b z k h1 h2
    have hf : loF qs xs = ⟨[], []⟩ := by unfold loF; rw [if_neg (by omega)]
    rw [h1, hf]
    exact .drop b (.base fun _ => ⟨[], by simp [hdel], _, rfl, .nilsl, .nilsl, [], [], rfl, .nil, .nil, by simp [dom], rfl⟩)
  have hn := (fit_of_tot hq).1
  have hvl := vt_len qs
  by_cases hc : cxOk qs
  · by_cases hlen : xs.length = (vt qs).length
    · by_cases ht : tmOk xs
      · have hany := (anyT_iff xs).2 ht
        have hcd : loCode qs xs = 0 := by simp only [loCode, if_pos hc, if_pos (And.intro hlen ht)]
        have hf : loF qs xs = loT qs xs := by unfold loF; rw [if_pos hcd]
        rw [hcd, hf]
        clear bad
        have hvs : ∀ s ∈ qs, ∀ v ∈ s, v ∈ vt qs := fun s hs v hv => vt_in hc _ s rfl hs v hv
        unfold loT
        have hfit := fit_of_tot hq
        generalize hvs0 : vt qs = vs at *
        have hlenI : ((xs.length : Int)) = vs.length := by omega
        have hvs1 : vs.length ≤ 1048576 := by omega
        refine Run2.of I 1000 ?_
        simp -implicitDefEqProofs [hq, hc, hx, hlenI, hany, hvs0]
        intro b
        refine (ACalls.gives [] (by simp) (inOrder_o qs hq hc.2 hc.sort) fun v h' o => o.own).mono ?_
        rintro v h' ⟨g, ⟨u, rfl, o⟩, hd, rfl⟩
        have cu := o.cell
        have su := stor_of cu
        have lu := cells_of cu
        refine gK.go ?_
        simp -implicitDefEqProofs [cu, su, lu]
        intro c hc1 hc2
        refine gK.go ?_
        simp -implicitDefEqProofs [cu, su, lu]
        have hbg : b ∉ dom g := fun hm => hd b hm (by simp [dom])
        have hcg : c ∉ dom g := by simpa [dom] using hc1
        refine Run2.loopE (α := Nat × AV × Heap) (fun p => [(1, .snap 1 (xs.map iv)), (4, .ptr b 2 0 0), (6, .snap 1 (vs.map iv)), (7, .ptr c 2 0 0), (34, .snap 1 (qs.map il)), (35, .int .i64 qs.length), (36, .int .i64 (p.1 : Nat))]) (fun p => p.2.2 ++ ((c, ⟨2, [.agg [u, p.2.1]]⟩) :: (g ++ [(b, ⟨2, [.agg [.nilsl, .nilsl]]⟩)]))) (fun p => qs.length - p.1) (fun p => p.1 ≤ qs.length ∧ Grow 1 p.2.1 (((qs.take p.1).map (low vs xs)).map iv) p.2.2 ∧ c ∉ dom p.2.2 ∧ b ∉ dom p.2.2 ∧ ∀ i ∈ dom p.2.2, i ∉ dom g) (0, .nilsl, []) (by simp) (by simp) ⟨Nat.zero_le _, by simpa using Grow.nil, by simp [dom], by simp [dom], by simp [dom]⟩ ?_
        rintro ⟨i, w, hp'⟩ ⟨hi, hg, hcd', hbd', hgd'⟩ ih
        simp only at hi hg hcd' hbd' hgd'
        have cw := hg.cell
        have sw := stor_of cw
        have lw := cells_of cw
        have gC : ∀ z, hget (hp' ++ z) c = hget z c := fun z => hget_app hcd'
        have sC : ∀ z y, hset (hp' ++ z) c y = hp' ++ hset z c y := fun z y => hset_app hcd'
        by_cases hlt : i < qs.length
        · have go := fun w' hp'' (g' : Grow 1 w' (((qs.take i).map (low vs xs)).map iv ++ [.int .i64 (low vs xs qs[i])]) hp'') (h1 : c ∉ dom hp'') (h2 : b ∉ dom hp'') (h3 : ∀ i ∈ dom hp'', i ∉ dom g) => ih (i + 1, w', hp'') ⟨hlt, by
            simp only
            rw [List.take_succ_eq_append_getElem hlt, List.map_append, List.map_append]
            simpa using g', h1, h2, h3⟩ (by simp; omega)
          have hsv := hvs _ (List.getElem_mem hlt)
          have hsl := hfit.2 _ (List.getElem_mem hlt)
          clear ih
          refine Run2.of I 1000 ?_
          simp -implicitDefEqProofs [hlt]
          generalize qs[i] = s at *
          refine Run2.loopE (fun (j : Nat) => [(1, .snap 1 (xs.map iv)), (4, .ptr b 2 0 0), (6, .snap 1 (vs.map iv)), (7, .ptr c 2 0 0), (10, .int .i64 (low vs xs (s.take j))), (34, .snap 1 (qs.map il)), (35, .int .i64 qs.length), (36, .int .i64 i), (40, .snap 1 (s.map iv)), (41, .int .i64 s.length), (42, .int .i64 j)]) (fun _ => hp' ++ ((c, ⟨2, [.agg [u, w]]⟩) :: (g ++ [(b, ⟨2, [.agg [.nilsl, .nilsl]]⟩)]))) (fun j => s.length - j) (fun j => j ≤ s.length) 0 (by simp [low]) rfl (Nat.zero_le _) fun j hj ih => ?_
          by_cases hjl : j < s.length
          · clear go
            have go := ih (j + 1) hjl (by omega)
            rw [low_succ vs xs hjl] at go
            clear ih
            obtain ⟨k, hk, hkx, e1, e2, e3⟩ := vl_at hlen (hsv _ (List.getElem_mem hjl))
            rw [← e3] at go
            generalize low vs xs (s.take j) = M at *
            refine Run2.of I 1000 ?_
            simp -implicitDefEqProofs [hjl, hvs1, e1, hkx]
            exact ⟨by omega, by simpa using go⟩
          · clear ih
            obtain rfl : j = s.length := by omega
            rw [List.take_length]
            generalize low vs xs s = M at *
            refine Run2.of I 1000 ?_
            simp -implicitDefEqProofs [hjl, gC, cw, sw, lw]
            refine hg.app_mid (pre := []) (fun _ _ h => by simp [dom] at h) (by simp; omega) (by simp) fun w' hp'' hg' hd' => ?_
            have cw' := hg'.cell
            have sw' := stor_of cw'
            have lw' := cells_of cw'
            have hc' : c ∉ dom hp'' := fun hm => hd' c hm (by simp [dom])
            have hb' : b ∉ dom hp'' := fun hm => hd' b hm (by simp [dom])
            have hg'' : ∀ i ∈ dom hp'', i ∉ dom g := fun i hi hm => hd' i hi (by simp only [List.nil_append, dom_cons, dom_append, List.mem_cons, List.mem_append]; exact .inr (.inl hm))
            have gC' : ∀ z, hget (hp'' ++ z) c = hget z c := fun z => hget_app hc'
            have sC' : ∀ z y, hset (hp'' ++ z) c y = hp'' ++ hset z c y := fun z y => hset_app hc'
            have := go w' hp'' hg' hc' hb' hg''
            simp -implicitDefEqProofs [cw', sw', lw', gC', sC']
            refine ⟨by omega, ?_⟩
            simpa using this
        · obtain rfl : i = qs.length := by omega
          rw [List.take_length] at hg
          refine Run2.of I 1000 ?_
          have gB : ∀ z, hget (hp' ++ z) b = hget z b := fun z => hget_app hbd'
          have sB : ∀ z y, hset (hp' ++ z) b y = hp' ++ hset z b y := fun z y => hset_app hbd'
          have gG : ∀ z, hget (g ++ z) b = hget z b := fun z => hget_app hbg
          have sG : ∀ z y, hset (g ++ z) b y = g ++ hset z b y := fun z y => hset_app hbg
          simp -implicitDefEqProofs [hlt, gC, sC, cw, sw, lw, cu, su, lu, gB, sB, gG, sG, hc2]
          refine .drop c ?_
          rw [hdel_app hcd']
          simp only [hdel, if_true]
          rw [← List.append_assoc]
          refine Post.dropR (fun i hi hm => ?_) (.base fun _ => ⟨g ++ hp', List.perm_append_comm, _, rfl, u, w, g, hp', rfl, o, hg.own, fun i h1 h2 => hgd' i h2 h1, rfl⟩)
          simp only [dom, List.map_cons, List.map_nil, List.mem_singleton] at hi
          subst hi
          rw [dom_append, List.mem_append] at hm
          exact hm.elim hbd' hbg
      · have hany : anyT xs = true := by
          cases h : anyT xs with
          | true => rfl
          | false => exact absurd ((anyT_iff xs).1 h) ht
        have hcd : loCode qs xs = 7 := by simp only [loCode, if_pos hc, if_neg (fun h : _ ∧ _ => ht h.2)]
        have hlenI : ((xs.length : Int)) = (vt qs).length := by omega
        refine Run2.of I 1000 ?_
        simp -implicitDefEqProofs [hq, hc, hx, hlenI, hany]
        exact fun b => bad b _ 7 hcd (by omega)
    · have hcd : loCode qs xs = 7 := by simp only [loCode, if_pos hc, if_neg (fun h : _ ∧ _ => hlen h.1)]
      have hlenI : ¬ ((xs.length : Int)) = (vt qs).length := by omega
      refine Run2.of I 1000 ?_
      simp -implicitDefEqProofs [hq, hc, hx, hlenI]
      exact fun b => bad b _ 7 hcd (by omega)
  · have hcd : loCode qs xs = 1 := by simp only [loCode, if_neg hc]
    refine Run2.of I 1000 ?_
    simp -implicitDefEqProofs [hq, hc]
    exact fun b => bad b _ 1 hcd (by omega)
/-! ## The reference -/
noncomputable def orcLo2 : List (Nat × (List AV → Option (Prop × AV))) := (71, o_l05Ok) :: (72, o_closure) :: (77, o_l08Vtx) :: (79, o_l08Told) :: (78, o_l00Max) :: (63, o_l21Time) :: []
theorem orcLo2_p : Pure Try.prog (lk orcLo2) := (lk_pure o_l05Ok_k (lk_pure o_closure_k (lk_pure o_l08Vtx_k (lk_pure o_l08Told_k (lk_pure o_l00Max_k (lk_pure o_l21Time_k lk_pure0))))))
@[simp] theorem orcLo2_l (b : Bool) (g : FuncId) (l : List AV) : lk orcLo2 b g l = if g = 71 then o_l05Ok l else if g = 72 then o_closure l else if g = 77 then o_l08Vtx l else if g = 79 then o_l08Told l else if g = 78 then o_l00Max l else if g = 63 then o_l21Time l else none := nr rfl
abbrev k36_o0 : List AJ := [.o ⟨(some 2), none, false, .box false 1 (.t 0), none⟩, .o ⟨(some 4), none, false, .alloc true 2 (.agg [.nilsl, .nilsl]), none⟩, .o ⟨(some 5), none, false, .mv (.c (.int .i64 0)), (some [1, 2, 4])⟩]
abbrev k36_o1 : List AJ := [.o ⟨(some 12), none, false, .call 71 [(.t 2)], none⟩, .o ⟨(some 13), none, false, .un .not (.t 12), (some [1, 2, 4, 13])⟩]
abbrev k36_o2 : List AJ := [.o ⟨(some 14), none, false, .build [.nilsl, .nilsl] [], none⟩, .o ⟨none, none, false, .store 2 (.t 4) (.t 14), none⟩, .o ⟨(some 5), none, false, .mv (.c (.int .i64 1)), (some [4, 5])⟩]
def k36_3 : ACode := .seq (.region k36_o2) .ret
def k36_4 : ACode := .cond (.t 13) k36_3 .skip
def k36_5 : ACode := .seq (.region k36_o1) k36_4
abbrev k36_o3 : List AJ := [.o ⟨(some 15), none, false, .call 77 [(.t 2)], none⟩, .o ⟨(some 6), none, false, .mv (.t 15), (some [1, 2, 4, 6])⟩]
abbrev k36_o4 : List AJ := [.o ⟨(some 7), none, false, .mv (.c (.int .i64 0)), (some [1, 2, 4, 6, 7])⟩]
abbrev k36_o5 : List AJ := [.o ⟨(some 16), none, false, .mv (.t 7), none⟩, .o ⟨(some 17), none, false, .mv (.t 1), none⟩, .o ⟨(some 18), none, false, .len (.t 17), none⟩, .o ⟨(some 19), none, false, .bin .lss (.t 16) (.t 18), (some [1, 2, 4, 6, 7, 19])⟩]
def k36_9 : ACode := .cond (.t 19) .skip (.exit 0)
def k36_10 : ACode := .seq (.region k36_o5) k36_9
abbrev k36_o6 : List AJ := [.o ⟨(some 22), none, false, .mv (.t 1), none⟩, .o ⟨(some 23), none, false, .mv (.t 7), none⟩, .o ⟨(some 24), none, false, .idxA 1 (.t 22) (.t 23), none⟩, .o ⟨(some 25), none, false, .load 1 false (.t 24), none⟩, .o ⟨(some 26), none, false, .call 63 [(.t 25)], none⟩, .o ⟨(some 27), none, false, .un .not (.t 26), (some [1, 2, 4, 6, 7, 27])⟩]
abbrev k36_o7 : List AJ := [.o ⟨(some 28), none, false, .build [.nilsl, .nilsl] [], none⟩, .o ⟨none, none, false, .store 2 (.t 4) (.t 28), none⟩, .o ⟨(some 5), none, false, .mv (.c (.int .i64 7)), (some [4, 5])⟩]
def k36_13 : ACode := .seq (.region k36_o7) .ret
def k36_14 : ACode := .cond (.t 27) k36_13 .skip
def k36_15 : ACode := .seq (.region k36_o6) k36_14
abbrev k36_o8 : List AJ := [.o ⟨(some 20), none, false, .mv (.t 7), none⟩, .o ⟨(some 21), none, true, .bin .add (.t 20) (.c (.int .i64 1)), none⟩, .o ⟨(some 7), none, false, .mv (.t 21), (some [1, 2, 4, 6, 7])⟩]
def k36_17 : ACode := .region k36_o8
def k36_18 : ACode := .seq (.block 1 k36_15) k36_17
def k36_19 : ACode := .seq k36_10 k36_18
def k36_20 : ACode := .loop k36_19
def k36_21 : ACode := .block 0 k36_20
def k36_22 : ACode := .seq (.region k36_o4) k36_21
abbrev k36_o9 : List AJ := [.o ⟨(some 29), none, false, .mv (.t 1), none⟩, .o ⟨(some 30), none, false, .len (.t 29), none⟩, .o ⟨(some 31), none, false, .mv (.t 6), none⟩, .o ⟨(some 32), none, false, .len (.t 31), none⟩, .o ⟨(some 33), none, false, .bin .neq (.t 30) (.t 32), (some [1, 2, 4, 6, 33])⟩]
abbrev k36_o10 : List AJ := [.o ⟨(some 34), none, false, .build [.nilsl, .nilsl] [], none⟩, .o ⟨none, none, false, .store 2 (.t 4) (.t 34), none⟩, .o ⟨(some 5), none, false, .mv (.c (.int .i64 7)), (some [4, 5])⟩]
def k36_25 : ACode := .seq (.region k36_o10) .ret
def k36_26 : ACode := .cond (.t 33) k36_25 .skip
def k36_27 : ACode := .seq (.region k36_o9) k36_26
abbrev k36_o11 : List AJ := [.o ⟨(some 35), none, false, .fieldA 0 (.t 2), none⟩, .o ⟨(some 36), none, false, .load 1 false (.t 35), none⟩, .o ⟨(some 37), none, false, .call 72 [(.t 36)], none⟩, .o ⟨(some 38), none, false, .build [.nilsl, .nilsl] [(0, 1, (.t 37))], none⟩, .o ⟨(some 8), none, false, .alloc true 2 (.agg [.nilsl, .nilsl]), none⟩, .o ⟨none, none, false, .store 2 (.t 8) (.t 38), (some [1, 2, 4, 6, 8])⟩]
abbrev k36_o12 : List AJ := [.o ⟨(some 9), none, false, .mv (.c (.int .i64 0)), (some [1, 2, 4, 6, 8, 9])⟩]
abbrev k36_o13 : List AJ := [.o ⟨(some 39), none, false, .mv (.t 9), none⟩, .o ⟨(some 40), none, false, .fieldA 0 (.t 2), none⟩, .o ⟨(some 41), none, false, .load 1 false (.t 40), none⟩, .o ⟨(some 42), none, false, .len (.t 41), none⟩, .o ⟨(some 43), none, false, .bin .lss (.t 39) (.t 42), (some [1, 2, 4, 6, 8, 9, 43])⟩]
def k36_31 : ACode := .cond (.t 43) .skip (.exit 2)
def k36_32 : ACode := .seq (.region k36_o13) k36_31
abbrev k36_o14 : List AJ := [.o ⟨(some 10), none, false, .mv (.c (.int .i64 0)), (some [1, 2, 4, 6, 8, 9, 10])⟩]
abbrev k36_o15 : List AJ := [.o ⟨(some 11), none, false, .mv (.c (.int .i64 0)), (some [1, 2, 4, 6, 8, 9, 10, 11])⟩]
abbrev k36_o16 : List AJ := [.o ⟨(some 46), none, false, .mv (.t 11), none⟩, .o ⟨(some 47), none, false, .fieldA 0 (.t 2), none⟩, .o ⟨(some 48), none, false, .load 1 false (.t 47), none⟩, .o ⟨(some 49), none, false, .mv (.t 9), none⟩, .o ⟨(some 50), none, false, .idxA 1 (.t 48) (.t 49), none⟩, .o ⟨(some 51), none, false, .load 1 false (.t 50), none⟩, .o ⟨(some 52), none, false, .len (.t 51), none⟩, .o ⟨(some 53), none, false, .bin .lss (.t 46) (.t 52), (some [1, 2, 4, 6, 8, 9, 10, 11, 53])⟩]
def k36_36 : ACode := .cond (.t 53) .skip (.exit 4)
def k36_37 : ACode := .seq (.region k36_o16) k36_36
abbrev k36_o17 : List AJ := [.o ⟨(some 56), none, false, .mv (.t 10), none⟩, .o ⟨(some 57), none, false, .mv (.t 6), none⟩, .o ⟨(some 58), none, false, .mv (.t 1), none⟩, .o ⟨(some 59), none, false, .fieldA 0 (.t 2), none⟩, .o ⟨(some 60), none, false, .load 1 false (.t 59), none⟩, .o ⟨(some 61), none, false, .mv (.t 9), none⟩, .o ⟨(some 62), none, false, .idxA 1 (.t 60) (.t 61), none⟩, .o ⟨(some 63), none, false, .load 1 false (.t 62), none⟩, .o ⟨(some 64), none, false, .mv (.t 11), none⟩, .o ⟨(some 65), none, false, .idxA 1 (.t 63) (.t 64), none⟩, .o ⟨(some 66), none, false, .load 1 false (.t 65), none⟩, .o ⟨(some 67), none, false, .call 79 [(.t 57), (.t 58), (.t 66)], none⟩, .o ⟨(some 68), none, false, .call 78 [(.t 56), (.t 67)], none⟩, .o ⟨(some 10), none, false, .mv (.t 68), (some [1, 2, 4, 6, 8, 9, 10, 11])⟩]
def k36_38 : ACode := .region k36_o17
abbrev k36_o18 : List AJ := [.o ⟨(some 54), none, false, .mv (.t 11), none⟩, .o ⟨(some 55), none, true, .bin .add (.t 54) (.c (.int .i64 1)), none⟩, .o ⟨(some 11), none, false, .mv (.t 55), (some [1, 2, 4, 6, 8, 9, 10, 11])⟩]
def k36_40 : ACode := .region k36_o18
def k36_41 : ACode := .seq (.block 5 k36_38) k36_40
def k36_42 : ACode := .seq k36_37 k36_41
def k36_43 : ACode := .loop k36_42
def k36_44 : ACode := .block 4 k36_43
def k36_45 : ACode := .seq (.region k36_o15) k36_44
abbrev k36_o19 : List AJ := [.o ⟨(some 69), none, false, .fieldA 1 (.t 8), none⟩, .o ⟨(some 70), none, false, .load 1 false (.t 69), none⟩, .o ⟨(some 71), none, false, .mv (.t 10), none⟩, .o ⟨(some 72), none, false, .bsl false 1 [(.t 71)], none⟩, .o ⟨(some 73), none, false, .append 1 8 (.t 70) (.t 72), none⟩, .o ⟨(some 74), none, false, .fieldA 1 (.t 8), none⟩, .o ⟨none, none, false, .store 1 (.t 74) (.t 73), (some [1, 2, 4, 6, 8, 9])⟩]
def k36_46 : ACode := .region k36_o19
def k36_47 : ACode := .seq k36_45 k36_46
def k36_48 : ACode := .seq (.region k36_o14) k36_47
abbrev k36_o20 : List AJ := [.o ⟨(some 44), none, false, .mv (.t 9), none⟩, .o ⟨(some 45), none, true, .bin .add (.t 44) (.c (.int .i64 1)), none⟩, .o ⟨(some 9), none, false, .mv (.t 45), (some [1, 2, 4, 6, 8, 9])⟩]
def k36_50 : ACode := .region k36_o20
def k36_51 : ACode := .seq (.block 3 k36_48) k36_50
def k36_52 : ACode := .seq k36_32 k36_51
def k36_53 : ACode := .loop k36_52
def k36_54 : ACode := .block 2 k36_53
def k36_55 : ACode := .seq (.region k36_o12) k36_54
abbrev k36_o21 : List AJ := [.o ⟨(some 75), none, false, .load 2 true (.t 8), none⟩, .o ⟨none, none, false, .store 2 (.t 4) (.t 75), none⟩, .o ⟨(some 5), none, false, .mv (.c (.int .i64 0)), (some [4, 5])⟩]
def k36_57 : ACode := .seq (.region k36_o21) .ret
def k36_58 : ACode := .seq k36_55 k36_57
def k36_59 : ACode := .seq (.region k36_o11) k36_58
def k36_60 : ACode := .seq k36_27 k36_59
def k36_61 : ACode := .seq k36_22 k36_60
def k36_62 : ACode := .seq (.region k36_o3) k36_61
def k36_63 : ACode := .seq k36_5 k36_62
def k36_64 : ACode := .seq (.region k36_o0) k36_63
@[simp, simp ↓] theorem k36_3r : sR k36_3 k36_o2 .ret := yR rfl
@[simp, simp ↓] theorem k36_4r : rC k36_4 (.t 13) k36_3 .skip := zC rfl
@[simp, simp ↓] theorem k36_5r : sR k36_5 k36_o1 k36_4 := yR rfl
@[simp, simp ↓] theorem k36_9r : rC k36_9 (.t 19) .skip (.exit 0) := zC rfl
@[simp, simp ↓] theorem k36_10r : sR k36_10 k36_o5 k36_9 := yR rfl
@[simp, simp ↓] theorem k36_13r : sR k36_13 k36_o7 .ret := yR rfl
@[simp, simp ↓] theorem k36_14r : rC k36_14 (.t 27) k36_13 .skip := zC rfl
@[simp, simp ↓] theorem k36_15r : sR k36_15 k36_o6 k36_14 := yR rfl
@[simp, simp ↓] theorem k36_17r : rR k36_17 k36_o8 := zR rfl
@[simp, simp ↓] theorem k36_18r : sB k36_18 1 k36_15 k36_17 := yB rfl
@[simp, simp ↓] theorem k36_19r : rS k36_19 k36_10 k36_18 := zS rfl
@[simp, simp ↓] theorem k36_20r : rL k36_20 k36_19 := zL rfl
@[simp, simp ↓] theorem k36_21r : rB k36_21 0 k36_20 := zB rfl
@[simp, simp ↓] theorem k36_22r : sR k36_22 k36_o4 k36_21 := yR rfl
@[simp, simp ↓] theorem k36_25r : sR k36_25 k36_o10 .ret := yR rfl
@[simp, simp ↓] theorem k36_26r : rC k36_26 (.t 33) k36_25 .skip := zC rfl
@[simp, simp ↓] theorem k36_27r : sR k36_27 k36_o9 k36_26 := yR rfl
@[simp, simp ↓] theorem k36_31r : rC k36_31 (.t 43) .skip (.exit 2) := zC rfl
@[simp, simp ↓] theorem k36_32r : sR k36_32 k36_o13 k36_31 := yR rfl
@[simp, simp ↓] theorem k36_36r : rC k36_36 (.t 53) .skip (.exit 4) := zC rfl
@[simp, simp ↓] theorem k36_37r : sR k36_37 k36_o16 k36_36 := yR rfl
@[simp, simp ↓] theorem k36_38r : rR k36_38 k36_o17 := zR rfl
@[simp, simp ↓] theorem k36_40r : rR k36_40 k36_o18 := zR rfl
@[simp, simp ↓] theorem k36_41r : sB k36_41 5 k36_38 k36_40 := yB rfl
@[simp, simp ↓] theorem k36_42r : rS k36_42 k36_37 k36_41 := zS rfl
@[simp, simp ↓] theorem k36_43r : rL k36_43 k36_42 := zL rfl
@[simp, simp ↓] theorem k36_44r : rB k36_44 4 k36_43 := zB rfl
@[simp, simp ↓] theorem k36_45r : sR k36_45 k36_o15 k36_44 := yR rfl
@[simp, simp ↓] theorem k36_46r : rR k36_46 k36_o19 := zR rfl
@[simp, simp ↓] theorem k36_47r : rS k36_47 k36_45 k36_46 := zS rfl
@[simp, simp ↓] theorem k36_48r : sR k36_48 k36_o14 k36_47 := yR rfl
@[simp, simp ↓] theorem k36_50r : rR k36_50 k36_o20 := zR rfl
@[simp, simp ↓] theorem k36_51r : sB k36_51 3 k36_48 k36_50 := yB rfl
@[simp, simp ↓] theorem k36_52r : rS k36_52 k36_32 k36_51 := zS rfl
@[simp, simp ↓] theorem k36_53r : rL k36_53 k36_52 := zL rfl
@[simp, simp ↓] theorem k36_54r : rB k36_54 2 k36_53 := zB rfl
@[simp, simp ↓] theorem k36_55r : sR k36_55 k36_o12 k36_54 := yR rfl
@[simp, simp ↓] theorem k36_57r : sR k36_57 k36_o21 .ret := yR rfl
@[simp, simp ↓] theorem k36_58r : rS k36_58 k36_55 k36_57 := zS rfl
@[simp, simp ↓] theorem k36_59r : sR k36_59 k36_o11 k36_58 := yR rfl
@[simp, simp ↓] theorem k36_60r : rS k36_60 k36_27 k36_59 := zS rfl
@[simp, simp ↓] theorem k36_61r : rS k36_61 k36_22 k36_60 := zS rfl
@[simp, simp ↓] theorem k36_62r : sR k36_62 k36_o3 k36_61 := yR rfl
@[simp, simp ↓] theorem k36_63r : rS k36_63 k36_5 k36_62 := zS rfl
@[simp, simp ↓] theorem k36_64r : sR k36_64 k36_o0 k36_63 := yR rfl
noncomputable abbrev k36_C : Orc → Cx := mkC Try.prog [4, 8] 36 76 [.cell 4 2 true, .tmp 5]
theorem k36_of : OfP Try.prog Try.f36 36 76 k36_C k36_64 := @ofP _ _ _ _ _ _ _ _ Try.func36 (by decide +kernel) rfl (by kernel_rfl) rfl (by kernel_rfl)
theorem specLo_c (qs : List (List Int)) (xs : List Int) (h : Heap) (hq : ssTot qs ≤ 1048576) (hx : xs.length ≤ 1048576) : ACalls Try.prog 36 [cx qs, .snap 1 (xs.map iv)] h (fun v h' => v = .tup [(loF qs xs).av, .int .i64 (loCode qs xs)] ∧ h' = h) := by
  refine k36_of rfl orcLo2_p fun I => ?_
  have bad : ∀ (b : Nat) (z : Blk) (k : Int), b ∉ dom h → loCode qs xs = k → k ≠ 0 → Post (fun v h' => v = .tup [.agg [.snap 1 ((loF qs xs).rs.map il), .snap 1 ((loF qs xs).ts.map iv)], .int .i64 (loCode qs xs)] ∧ h' = h) (.tup [.agg [.nilsl, .nilsl], .int .i64 k]) ((b, z) :: h) := by
    intro b z k hb h1 h2
    have hf : loF qs xs = ⟨[], []⟩ := by unfold loF; rw [if_neg (by omega)]
    rw [h1, hf]
    exact .drop b (.wk (Wk.tup (.cons (Wk.agg (.cons (Wk.nil 1) (.cons (Wk.nil 1) .nil))) (.cons (.refl _) .nil))) (.base ⟨rfl, by simp [hdel]⟩))
  have hn := (fit_of_tot hq).1
  have hvl := vt_len qs
  by_cases hc : cxOk qs
  · refine Run2.of I 1000 ?_
    simp -implicitDefEqProofs [hq, hc]
    intro b hb
    refine Run2.loopE (fun (i : Nat) => [(1, .snap 1 (xs.map iv)), (2, .ip [.snap 1 (qs.map il)]), (4, .ptr b 2 0 0), (6, .snap 1 ((vt qs).map iv)), (7, .int .i64 i)]) (fun _ => (b, ⟨2, [.agg [.nilsl, .nilsl]]⟩) :: h) (fun i => xs.length - i) (fun i => i ≤ xs.length ∧ ∀ j (hj : j < xs.length), j < i → 0 ≤ xs[j] ∧ xs[j] ≤ 1000) 0 (by simp) rfl ⟨Nat.zero_le _, fun _ _ h => absurd h (Nat.not_lt_zero _)⟩ fun i hi ih => ?_
    by_cases hlt : i < xs.length
    · by_cases h1 : 0 ≤ xs[i] ∧ xs[i] ≤ 1000
      · have go := ih (i + 1) ⟨hlt, fun j hj hji => by
          rcases Nat.lt_or_ge j i with h | h
          · exact hi.2 j hj h
          · obtain rfl : j = i := by omega
            exact h1⟩ (by omega)
        clear ih
        refine Run2.of I 1000 ?_
        simp -implicitDefEqProofs [hlt, h1.1, h1.2]
        exact ⟨by omega, by simpa using go⟩
      · have h1' : (decide (0 ≤ xs[i]) && decide (xs[i] ≤ 1000)) = false := by rw [Bool.eq_false_iff]; simpa using h1
        have hcd : loCode qs xs = 7 := by simp only [loCode, if_pos hc, if_neg (fun h : _ ∧ tmOk xs => h1 (h.2 _ (List.getElem_mem hlt)))]
        clear ih
        refine Run2.of I 1000 ?_
        simp -implicitDefEqProofs [hlt, h1']
        exact bad b _ 7 hb hcd (by omega)
    · obtain rfl : i = xs.length := by omega
      have ht : tmOk xs := fun t ht => by
        obtain ⟨j, hj, rfl⟩ := List.mem_iff_getElem.1 ht
        exact hi.2 j hj hj
      clear ih
      by_cases hlen : xs.length = (vt qs).length
      · have hcd : loCode qs xs = 0 := by simp only [loCode, if_pos hc, if_pos (And.intro hlen ht)]
        have hf : loF qs xs = loT qs xs := by unfold loF; rw [if_pos hcd]
        rw [hcd, hf]
        clear bad
        have hvs : ∀ s ∈ qs, ∀ v ∈ s, v ∈ vt qs := fun s hs v hv => vt_in hc _ s rfl hs v hv
        have hrs : (loT qs xs).rs = qs := rfl
        have hts : (loT qs xs).ts = qs.map (low (vt qs) xs) := rfl
        rw [hrs, hts]
        have hfit := fit_of_tot hq
        generalize hvs0 : vt qs = vs at *
        have hlenI : ((xs.length : Int)) = vs.length := by omega
        have hvs1 : vs.length ≤ 1048576 := by omega
        refine Run2.of I 1000 ?_
        simp -implicitDefEqProofs [hq, hc, hx, hlenI, hlt]
        intro c hc1 hc2
        refine gK.go ?_
        simp -implicitDefEqProofs [hc1]
        refine Run2.loopE (α := Nat × AV × Heap) (fun p => [(1, .snap 1 (xs.map iv)), (2, .ip [.snap 1 (qs.map il)]), (4, .ptr b 2 0 0), (6, .snap 1 (vs.map iv)), (8, .ptr c 2 0 0), (9, .int .i64 (p.1 : Nat))]) (fun p => p.2.2 ++ ((c, ⟨2, [.agg [.snap 1 (qs.map il), p.2.1]]⟩) :: (b, ⟨2, [.agg [.nilsl, .nilsl]]⟩) :: h)) (fun p => qs.length - p.1) (fun p => p.1 ≤ qs.length ∧ Grow 1 p.2.1 (((qs.take p.1).map (low vs xs)).map iv) p.2.2 ∧ c ∉ dom p.2.2 ∧ b ∉ dom p.2.2) (0, .nilsl, []) (by simp) (by simp) ⟨Nat.zero_le _, by simpa using Grow.nil, by simp [dom], by simp [dom]⟩ ?_
        rintro ⟨i, w, hp'⟩ ⟨hi, hg, hcd', hbd'⟩ ih
        simp only at hi hg hcd' hbd'
        have cw := hg.cell
        have sw := stor_of cw
        have lw := cells_of cw
        have gC : ∀ z, hget (hp' ++ z) c = hget z c := fun z => hget_app hcd'
        have sC : ∀ z y, hset (hp' ++ z) c y = hp' ++ hset z c y := fun z y => hset_app hcd'
        by_cases hlt : i < qs.length
        · have go := fun w' hp'' (g' : Grow 1 w' (((qs.take i).map (low vs xs)).map iv ++ [.int .i64 (low vs xs qs[i])]) hp'') (h1 : c ∉ dom hp'') (h2 : b ∉ dom hp'') => ih (i + 1, w', hp'') ⟨hlt, by
            simp only
            rw [List.take_succ_eq_append_getElem hlt, List.map_append, List.map_append]
            simpa using g', h1, h2⟩ (by simp; omega)
          have hsv := hvs _ (List.getElem_mem hlt)
          have hsl := hfit.2 _ (List.getElem_mem hlt)
          clear ih
          refine Run2.of I 1000 ?_
          simp -implicitDefEqProofs [hlt]
          refine Run2.loopE (fun (j : Nat) => [(1, .snap 1 (xs.map iv)), (2, .ip [.snap 1 (qs.map il)]), (4, .ptr b 2 0 0), (6, .snap 1 (vs.map iv)), (8, .ptr c 2 0 0), (9, .int .i64 i), (10, .int .i64 (low vs xs (qs[i].take j))), (11, .int .i64 j)]) (fun _ => hp' ++ ((c, ⟨2, [.agg [.snap 1 (qs.map il), w]]⟩) :: (b, ⟨2, [.agg [.nilsl, .nilsl]]⟩) :: h)) (fun j => qs[i].length - j) (fun j => j ≤ qs[i].length) 0 (by simp [low]) rfl (Nat.zero_le _) fun j hj ih => ?_
          by_cases hjl : j < qs[i].length
          · clear go
            have go := ih (j + 1) hjl (by omega)
            rw [low_succ vs xs hjl] at go
            clear ih
            have hm := hsv _ (List.getElem_mem hjl)
            generalize low vs xs (qs[i].take j) = M at *
            refine Run2.of I 1000 ?_
            simp -implicitDefEqProofs [hlt, hjl, hvs1, hm, hlen]
            exact ⟨by omega, by simpa using go⟩
          · clear ih
            have hjr : j = qs[i].length := by omega
            subst hjr
            rw [List.take_length]
            generalize low vs xs qs[i] = M at *
            refine Run2.of I 1000 ?_
            simp -implicitDefEqProofs [hlt, hjl, gC, cw, sw, lw]
            refine hg.app_mid (pre := []) (fun _ _ h => by simp [dom] at h) (by simp; omega) (by simp) fun w' hp'' hg' hd' => ?_
            have cw' := hg'.cell
            have sw' := stor_of cw'
            have lw' := cells_of cw'
            have hc' : c ∉ dom hp'' := fun hm => hd' c hm (by simp [dom])
            have hb' : b ∉ dom hp'' := fun hm => hd' b hm (by simp [dom])
            have gC' : ∀ z, hget (hp'' ++ z) c = hget z c := fun z => hget_app hc'
            have sC' : ∀ z y, hset (hp'' ++ z) c y = hp'' ++ hset z c y := fun z y => hset_app hc'
            have := go w' hp'' hg' hc' hb'
            simp -implicitDefEqProofs [cw', sw', lw', gC', sC']
            refine ⟨by omega, ?_⟩
            simpa using this
        · obtain rfl : i = qs.length := by omega
          rw [List.take_length] at hg
          have gB : ∀ z, hget (hp' ++ z) b = hget z b := fun z => hget_app hbd'
          have sB : ∀ z y, hset (hp' ++ z) b y = hp' ++ hset z b y := fun z y => hset_app hbd'
          refine Run2.of I 1000 ?_
          simp -implicitDefEqProofs [hlt, gC, sC, cw, sw, lw, gB, sB, hc1]
          refine Post.lend ?_
          rw [lend1_tup2, lend1_cold hp' (x := .int .i64 0) rfl, lend1_agg, lend1_cold hp' (x := .snap 1 (qs.map il)) (by simp [cold])]
          refine .drop c (.drop b (.wk (Wk.tup (.cons (Wk.agg (.cons (.refl _) (.cons hg.lentWk .nil))) (.cons (.refl _) .nil))) (.base ⟨?_, by simp [hdel, hc1]⟩)))
          simp
      · have hlenI : ¬ ((xs.length : Int)) = (vt qs).length := by omega
        have hcd : loCode qs xs = 7 := by simp only [loCode, if_pos hc, if_neg (fun h : _ ∧ _ => hlen h.1)]
        refine Run2.of I 1000 ?_
        simp -implicitDefEqProofs [hq, hc, hx, hlenI, hlt]
        exact bad b _ 7 hb hcd (by omega)
  · have hcd : loCode qs xs = 1 := by simp only [loCode, if_neg hc]
    refine Run2.of I 1000 ?_
    simp -implicitDefEqProofs [hq, hc]
    exact fun b hb => bad b _ 1 hb hcd (by omega)
end Go.AG
