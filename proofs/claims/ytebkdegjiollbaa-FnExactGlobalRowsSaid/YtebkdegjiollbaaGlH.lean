/- Global rows: the reference. No statement is made here. -/
import Derived.Test.YtebkdegjiollbaaCmA
import Derived.Test.YtebkdegjiollbaaFxG
import Derived.Test.YtebkdegjiollbaaFxI
import Derived.Test.YtebkdegjiollbaaGrT
namespace Go.AG
open Go.Proofs Go.Proofs.Ytebkdegjiollbaa
set_option linter.unusedSimpArgs false
set_option linter.unusedVariables false
set_option maxRecDepth 4000
structure Tb where
  cols : List Int
  rows : List (List Int)
def Tb.av (t : Tb) : AV := .agg [.snap 1 (t.cols.map iv), .snap 1 (t.rows.map il)]
@[simp] theorem Tb.av_eq (t : Tb) : t.av = .agg [.snap 1 (t.cols.map iv), .snap 1 (t.rows.map il)] := rfl
@[simp] theorem Tb.av_inj (l m : List Tb) : (l.map Tb.av = m.map Tb.av) ↔ l = m := ⟨fun h => List.map_inj_right (fun t u h => by
  cases t; cases u; simpa using h) |>.1 h, fun h => by rw [h]⟩
def Tb.tot (t : Tb) : Nat := t.cols.length + ssTot t.rows
def tbsTot (ts : List Tb) : Nat := ts.length + (ts.map Tb.tot).sum
theorem tbs_mem {ts : List Tb} {t : Tb} (h : t ∈ ts) : t.tot + ts.length ≤ tbsTot ts := by
  unfold tbsTot
  induction ts with
  | nil => simp at h
  | cons a ts ih =>
    rw [List.map_cons, List.sum_cons, List.length_cons]
    rcases List.mem_cons.1 h with rfl | h
    · omega
    · have := ih h; omega
theorem Tb.fit {t : Tb} {n : Nat} (h : t.tot ≤ n) : t.cols.length ≤ n ∧ ssTot t.rows ≤ n ∧ t.rows.length ≤ n := by unfold Tb.tot ssTot at *; omega
def allIn (l : List Int) (p : Int) : Prop := ∀ a ∈ l, 0 ≤ a ∧ a < p
noncomputable instance (l : List Int) (p : Int) : Decidable (allIn l p) := Classical.propDecidable _
abbrev k177_o0 : List AJ := [.o ⟨(some 4), none, false, .mv (.c (.bool false)), (some [0, 1])⟩]
abbrev k177_o1 : List AJ := [.o ⟨(some 5), none, false, .mv (.t 0), none⟩, .o ⟨(some 6), none, false, .mv (.t 1), none⟩, .o ⟨(some 7), none, false, .bin .sub (.t 6) (.c (.int .i64 1)), none⟩, .o ⟨(some 8), none, false, .call 91 [(.t 5), (.c (.int .i64 0)), (.t 7)], none⟩, .o ⟨(some 4), none, false, .mv (.t 8), (some [4])⟩]
def k177_2 : ACode := .seq (.region k177_o1) .ret
def k177_3 : ACode := .seq (.region k177_o0) k177_2
@[simp, simp ↓] theorem k177_2r : sR k177_2 k177_o1 .ret := yR rfl
@[simp, simp ↓] theorem k177_3r : sR k177_3 k177_o0 k177_2 := yR rfl
noncomputable abbrev k177_C : Orc → Cx := mkC Try.prog [] 177 9 [.tmp 4]
theorem k177_of0 : OfP0 Try.prog Try.f177 177 9 k177_C k177_3 := @ofP0 _ _ _ _ _ _ _ _ Try.func177 (by decide +kernel) rfl (by kernel_rfl) rfl (by kernel_rfl)
theorem isElement_c (a p : Int) (h : Heap) : ACalls Try.prog 177 [.int .i64 a, .int .i64 p] h (fun v h' => v = .bool (decide (0 ≤ a) && decide (a ≤ IntKind.i64.wrap (p - 1))) ∧ h' = h) := by
  refine k177_of0 rfl orc1_p fun I => ?_
  refine Run2.of I 1000 ?_
  simp -implicitDefEqProofs
noncomputable def o_isElement : List AV → Option (Prop × AV) := tab (fun (x : Int × Int) => match x with | (a, p) => [.int .i64 a, .int .i64 p]) (fun x => match x with | (a, p) => True) (fun x => match x with | (a, p) => .bool (decide (0 ≤ a) && decide (a ≤ IntKind.i64.wrap (p - 1))))
@[simp] theorem o_isElement_e (a : Int) (p : Int) : o_isElement [.int .i64 a, .int .i64 p] = some (True, .bool (decide (0 ≤ a) && decide (a ≤ IntKind.i64.wrap (p - 1)))) := tab_at (enc := fun (x : Int × Int) => match x with | (a, p) => [.int .i64 a, .int .i64 p]) (fun x y h => by
  obtain ⟨a1, p1⟩ := x; obtain ⟨a2, p2⟩ := y; simp at h; simp [h] <;> omega) _ _ (a, p)
theorem o_isElement_k : Knows Try.prog 177 o_isElement := tab_knows fun x hx h => by
  obtain ⟨a, p⟩ := x; exact isElement_c _ _ h
abbrev k176_o0 : List AJ := [.o ⟨(some 3), none, false, .mv (.c (.bool false)), (some [0, 1])⟩]
abbrev k176_o1 : List AJ := [.o ⟨(some 4), none, false, .mv (.t 0), none⟩, .o ⟨(some 5), none, false, .load 1 false (.t 1), none⟩, .o ⟨(some 6), none, false, .call 177 [(.t 4), (.t 5)], none⟩, .o ⟨(some 7), none, false, .un .not (.t 6), none⟩, .o ⟨(some 3), none, false, .mv (.t 7), (some [3])⟩]
def k176_2 : ACode := .seq (.region k176_o1) .ret
def k176_3 : ACode := .seq (.region k176_o0) k176_2
@[simp, simp ↓] theorem k176_2r : sR k176_2 k176_o1 .ret := yR rfl
@[simp, simp ↓] theorem k176_3r : sR k176_3 k176_o0 k176_2 := yR rfl
noncomputable abbrev k176_C : Orc → Cx := mkC Try.prog [] 176 8 [.tmp 3]
theorem k176_of0 : OfP0 Try.prog Try.f176 176 8 k176_C k176_3 := @ofP0 _ _ _ _ _ _ _ _ Try.func176 (by decide +kernel) rfl (by kernel_rfl) rfl (by kernel_rfl)
theorem areElements1_c (a p : Int) (h : Heap) (hp : 0 ≤ p ∧ p ≤ 1073741824) : ACalls Try.prog 176 [.int .i64 a, .ip [.int .i64 p]] h (fun v h' => v = .bool (!decide (0 ≤ a ∧ a < p)) ∧ h' = h) := by
  have hw : IntKind.i64.wrap (p - 1) = p - 1 := w64 (by omega)
  refine k176_of0 rfl (lk_pure o_isElement_k lk_pure0) fun I => ?_
  refine Run2.of I 1000 ?_
  simp -implicitDefEqProofs [hw]
  grind
abbrev k169_o0 : List AJ := [.o ⟨(some 3), none, false, .box false 1 (.t 1), none⟩, .o ⟨(some 4), none, false, .mv (.c (.bool false)), (some [0, 3])⟩]
abbrev k169_o1 : List AJ := [.o ⟨(some 5), none, false, .mv (.t 0), none⟩, .o ⟨(some 6), none, false, .mkfn 176 [(.t 3)], none⟩, .o ⟨(some 7), none, false, .call 130 [(.t 5), (.t 6)], none⟩, .o ⟨(some 8), none, false, .un .not (.t 7), none⟩, .o ⟨(some 4), none, false, .mv (.t 8), (some [4])⟩]
def k169_2 : ACode := .seq (.region k169_o1) .ret
def k169_3 : ACode := .seq (.region k169_o0) k169_2
@[simp, simp ↓] theorem k169_2r : sR k169_2 k169_o1 .ret := yR rfl
@[simp, simp ↓] theorem k169_3r : sR k169_3 k169_o0 k169_2 := yR rfl
noncomputable abbrev k169_C : Orc → Cx := mkC Try.prog [] 169 9 [.tmp 4]
theorem k169_of0 : OfP0 Try.prog Try.f169 169 9 k169_C k169_3 := @ofP0 _ _ _ _ _ _ _ _ Try.func169 (by decide +kernel) rfl (by kernel_rfl) rfl (by kernel_rfl)
theorem areElements_s (l : List Int) (p : Int) (h : Heap) (hl : l.length ≤ 1048576) (hp : 0 ≤ p ∧ p ≤ 1073741824) : ACalls Try.prog 169 [.snap 1 (l.map iv), .int .i64 p] h (fun v h' => v = .bool (decide (allIn l p)) ∧ h' = h) := by
  refine k169_of0 rfl noPure fun I => ?_
  refine Run2.of I 1000 ?_
  simp -implicitDefEqProofs
  refine (ContainsFunc_s _ _ _ (fun a => !decide (0 ≤ a ∧ a < p)) h hl fun a _ => areElements1_c a p h hp).mono ?_
  rintro v h' ⟨rfl, rfl⟩
  refine gK.go ?_
  simp -implicitDefEqProofs
  rw [Bool.eq_iff_iff]
  simp [allIn]
  grind
noncomputable def o_areElements : List AV → Option (Prop × AV) := tab (fun (x : List Int × Int) => match x with | (l, p) => [.snap 1 (l.map iv), .int .i64 p]) (fun x => match x with | (l, p) => (l.length ≤ 1048576 ∧ 0 ≤ p ∧ p ≤ 1073741824)) (fun x => match x with | (l, p) => .bool (decide (allIn l p)))
@[simp] theorem o_areElements_e (l : List Int) (p : Int) : o_areElements [.snap 1 (l.map iv), .int .i64 p] = some ((l.length ≤ 1048576 ∧ 0 ≤ p ∧ p ≤ 1073741824), .bool (decide (allIn l p))) := tab_at (enc := fun (x : List Int × Int) => match x with | (l, p) => [.snap 1 (l.map iv), .int .i64 p]) (fun x y h => by
  obtain ⟨l1, p1⟩ := x; obtain ⟨l2, p2⟩ := y; simp at h; simp [h] <;> omega) _ _ (l, p)
theorem o_areElements_k : Knows Try.prog 169 o_areElements := tab_knows fun x hx h => by
  obtain ⟨l, p⟩ := x; exact areElements_s l p h hx.1 hx.2
/-- A row that may stand there. -/
def Tb.rowOk (t : Tb) (j : Nat) (hj : j < t.rows.length) : Prop := t.rows[j].length = t.cols.length ∧ allIn t.rows[j] 4 ∧ (0 < j → lexC (t.rows[j - 1]'(by omega)) t.rows[j] < 0)
def Tb.valid (t : Tb) : Prop := (allIn t.cols 8 ∧ riseS t.cols) ∧ t.rows.length ≤ 24 ∧ ∀ j (hj : j < t.rows.length), t.rowOk j hj
noncomputable instance (t : Tb) : Decidable t.valid := Classical.propDecidable _
noncomputable def orcG1 : List (Nat × (List AV → Option (Prop × AV))) := (169, o_areElements) :: (135, o_isRising) :: (139, o_cmpL) :: []
theorem orcG1_p : Pure Try.prog (lk orcG1) := (lk_pure o_areElements_k (lk_pure o_isRising_k (lk_pure o_cmpL_k lk_pure0)))
@[simp] theorem orcG1_l (b : Bool) (g : FuncId) (l : List AV) : lk orcG1 b g l = if g = 169 then o_areElements l else if g = 135 then o_isRising l else if g = 139 then o_cmpL l else none := nr rfl
abbrev k151_o0 : List AJ := [.o ⟨(some 1), none, false, .box false 2 (.t 0), none⟩, .o ⟨(some 2), none, false, .mv (.c (.bool false)), (some [1])⟩]
abbrev k151_o1 : List AJ := [.o ⟨(some 5), none, false, .fieldA 0 (.t 1), none⟩, .o ⟨(some 6), none, false, .load 1 false (.t 5), none⟩, .o ⟨(some 7), none, false, .call 135 [(.t 6)], none⟩, .o ⟨(some 8), none, false, .un .not (.t 7), none⟩, .o ⟨(some 9), none, false, .mv (.t 8), none⟩, .o ⟨(some 10), (some (9, false)), false, .fieldA 0 (.t 1), none⟩, .o ⟨(some 11), (some (9, false)), false, .load 1 false (.t 10), none⟩, .o ⟨(some 12), (some (9, false)), false, .call 169 [(.t 11), (.c (.int .i64 8))], none⟩, .o ⟨(some 13), (some (9, false)), false, .un .not (.t 12), none⟩, .o ⟨(some 14), none, false, .pick (.t 9) (.c (.bool true)) (.t 13), (some [1, 14])⟩, .o ⟨(some 15), none, false, .mv (.t 14), none⟩, .o ⟨(some 16), (some (15, false)), false, .fieldA 1 (.t 1), none⟩, .o ⟨(some 17), (some (15, false)), false, .load 1 false (.t 16), none⟩, .o ⟨(some 18), (some (15, false)), false, .len (.t 17), none⟩, .o ⟨(some 19), (some (15, false)), false, .bin .gtr (.t 18) (.c (.int .i64 24)), none⟩, .o ⟨(some 20), none, false, .pick (.t 15) (.c (.bool true)) (.t 19), (some [1, 20])⟩]
abbrev k151_o2 : List AJ := [.o ⟨(some 2), none, false, .mv (.c (.bool false)), (some [2])⟩]
def k151_3 : ACode := .seq (.region k151_o2) .ret
def k151_4 : ACode := .cond (.t 20) k151_3 .skip
def k151_5 : ACode := .seq (.region k151_o1) k151_4
abbrev k151_o3 : List AJ := [.o ⟨(some 21), none, false, .fieldA 1 (.t 1), none⟩, .o ⟨(some 22), none, false, .load 1 false (.t 21), none⟩, .o ⟨(some 23), none, false, .len (.t 22), none⟩, .o ⟨(some 24), none, false, .mv (.c (.int .i64 0)), (some [1, 22, 23, 24])⟩]
abbrev k151_o4 : List AJ := [.o ⟨(some 25), none, false, .bin .lss (.t 24) (.t 23), (some [1, 22, 23, 24, 25])⟩]
abbrev k151_o5 : List AJ := [.o ⟨(some 26), none, false, .mv (.t 24), none⟩, .o ⟨(some 27), none, false, .idxA 1 (.t 22) (.t 24), none⟩, .o ⟨(some 28), none, false, .load 1 false (.t 27), none⟩, .o ⟨(some 3), none, false, .mv (.t 26), none⟩, .o ⟨(some 4), none, false, .mv (.t 28), (some [1, 3, 4, 22, 23, 24])⟩]
abbrev k151_o6 : List AJ := [.o ⟨(some 29), none, false, .mv (.t 4), none⟩, .o ⟨(some 30), none, false, .len (.t 29), none⟩, .o ⟨(some 31), none, false, .fieldA 0 (.t 1), none⟩, .o ⟨(some 32), none, false, .load 1 false (.t 31), none⟩, .o ⟨(some 33), none, false, .len (.t 32), none⟩, .o ⟨(some 34), none, false, .bin .neq (.t 30) (.t 33), none⟩, .o ⟨(some 35), none, false, .mv (.t 34), none⟩, .o ⟨(some 36), (some (35, false)), false, .mv (.t 4), none⟩, .o ⟨(some 37), (some (35, false)), false, .call 169 [(.t 36), (.c (.int .i64 4))], none⟩, .o ⟨(some 38), (some (35, false)), false, .un .not (.t 37), none⟩, .o ⟨(some 39), none, false, .pick (.t 35) (.c (.bool true)) (.t 38), (some [1, 3, 4, 22, 23, 24, 39])⟩, .o ⟨(some 40), none, false, .mv (.t 39), none⟩, .o ⟨(some 41), (some (40, false)), false, .mv (.t 3), none⟩, .o ⟨(some 42), (some (40, false)), false, .bin .gtr (.t 41) (.c (.int .i64 0)), none⟩, .o ⟨(some 43), (some (40, false)), false, .mv (.t 42), none⟩, .o ⟨(some 44), (some (43, true)), false, .fieldA 1 (.t 1), none⟩, .o ⟨(some 45), (some (43, true)), false, .load 1 false (.t 44), none⟩, .o ⟨(some 46), (some (43, true)), false, .mv (.t 3), none⟩, .o ⟨(some 47), (some (43, true)), true, .bin .sub (.t 46) (.c (.int .i64 1)), (some [1, 4, 22, 23, 24, 40, 43, 45, 47])⟩, .o ⟨(some 48), (some (43, true)), false, .idxA 1 (.t 45) (.t 47), none⟩, .o ⟨(some 49), (some (43, true)), false, .load 1 false (.t 48), none⟩, .o ⟨(some 50), (some (43, true)), false, .mv (.t 4), none⟩, .o ⟨(some 51), (some (43, true)), false, .call 139 [(.t 49), (.t 50)], none⟩, .o ⟨(some 52), (some (43, true)), false, .bin .geq (.t 51) (.c (.int .i64 0)), none⟩, .o ⟨(some 53), (some (40, false)), false, .pick (.t 43) (.t 52) (.c (.bool false)), none⟩, .o ⟨(some 54), none, false, .pick (.t 40) (.c (.bool true)) (.t 53), (some [1, 22, 23, 24, 54])⟩]
abbrev k151_o7 : List AJ := [.o ⟨(some 2), none, false, .mv (.c (.bool false)), (some [2])⟩]
def k151_12 : ACode := .seq (.region k151_o7) .ret
def k151_13 : ACode := .cond (.t 54) k151_12 .skip
def k151_14 : ACode := .seq (.region k151_o6) k151_13
def k151_15 : ACode := .seq (.region k151_o5) k151_14
abbrev k151_o8 : List AJ := [.o ⟨(some 55), none, true, .bin .add (.t 24) (.c (.int .i64 1)), none⟩, .o ⟨(some 24), none, false, .mv (.t 55), (some [1, 22, 23, 24])⟩]
def k151_17 : ACode := .region k151_o8
def k151_18 : ACode := .seq (.block 1 k151_15) k151_17
def k151_19 : ACode := .seq (.cond (.t 25) .skip (.exit 0)) k151_18
def k151_20 : ACode := .seq (.region k151_o4) k151_19
def k151_21 : ACode := .loop k151_20
def k151_22 : ACode := .block 0 k151_21
def k151_23 : ACode := .seq (.region k151_o3) k151_22
abbrev k151_o9 : List AJ := [.o ⟨(some 2), none, false, .mv (.c (.bool true)), (some [2])⟩]
def k151_25 : ACode := .seq (.region k151_o9) .ret
def k151_26 : ACode := .seq k151_23 k151_25
def k151_27 : ACode := .seq k151_5 k151_26
def k151_28 : ACode := .seq (.region k151_o0) k151_27
@[simp, simp ↓] theorem k151_3r : sR k151_3 k151_o2 .ret := yR rfl
@[simp, simp ↓] theorem k151_4r : rC k151_4 (.t 20) k151_3 .skip := zC rfl
@[simp, simp ↓] theorem k151_5r : sR k151_5 k151_o1 k151_4 := yR rfl
@[simp, simp ↓] theorem k151_12r : sR k151_12 k151_o7 .ret := yR rfl
@[simp, simp ↓] theorem k151_13r : rC k151_13 (.t 54) k151_12 .skip := zC rfl
@[simp, simp ↓] theorem k151_14r : sR k151_14 k151_o6 k151_13 := yR rfl
@[simp, simp ↓] theorem k151_15r : sR k151_15 k151_o5 k151_14 := yR rfl
@[simp, simp ↓] theorem k151_17r : rR k151_17 k151_o8 := zR rfl
@[simp, simp ↓] theorem k151_18r : sB k151_18 1 k151_15 k151_17 := yB rfl
@[simp, simp ↓] theorem k151_19r : sC k151_19 (.t 25) .skip (.exit 0) k151_18 := yC rfl
@[simp, simp ↓] theorem k151_20r : sR k151_20 k151_o4 k151_19 := yR rfl
@[simp, simp ↓] theorem k151_21r : rL k151_21 k151_20 := zL rfl
@[simp, simp ↓] theorem k151_22r : rB k151_22 0 k151_21 := zB rfl
@[simp, simp ↓] theorem k151_23r : sR k151_23 k151_o3 k151_22 := yR rfl
@[simp, simp ↓] theorem k151_25r : sR k151_25 k151_o9 .ret := yR rfl
@[simp, simp ↓] theorem k151_26r : rS k151_26 k151_23 k151_25 := zS rfl
@[simp, simp ↓] theorem k151_27r : rS k151_27 k151_5 k151_26 := zS rfl
@[simp, simp ↓] theorem k151_28r : sR k151_28 k151_o0 k151_27 := yR rfl
noncomputable abbrev k151_C : Orc → Cx := mkC Try.prog [] 151 56 [.tmp 2]
theorem k151_of0 : OfP0 Try.prog Try.f151 151 56 k151_C k151_28 := @ofP0 _ _ _ _ _ _ _ _ Try.func151 (by decide +kernel) rfl (by kernel_rfl) rfl (by kernel_rfl)
theorem validTb_s (t : Tb) (h : Heap) (hl : t.tot ≤ 1048576) : ACalls Try.prog 151 [t.av] h (fun v h' => v = .bool (decide t.valid) ∧ h' = h) := by
  obtain ⟨h1, h2, h3⟩ := Tb.fit hl
  have hf := fit_of_tot h2
  refine k151_of0 rfl orcG1_p fun I => ?_
  by_cases hr : riseS t.cols
  · by_cases ha : allIn t.cols 8
    · by_cases h24 : t.rows.length ≤ 24
      · have h24' : ¬ (24 : Int) < t.rows.length := by omega
        refine Run2.of I 1000 ?_
        simp -implicitDefEqProofs [h1, hr, ha, h24']
        refine Run2.loopE (fun i => [(1, .ip [.snap 1 (t.cols.map iv), .snap 1 (t.rows.map il)]), (22, .snap 1 (t.rows.map il)), (23, .int .i64 t.rows.length), (24, .int .i64 (i : Nat))]) (fun i => h) (fun i => t.rows.length - i) (fun i => i ≤ t.rows.length ∧ ∀ j (hj : j < t.rows.length), j < i → t.rowOk j hj) 0 (by simp) rfl ⟨Nat.zero_le _, fun _ _ h => absurd h (Nat.not_lt_zero _)⟩ fun i hi ih => ?_
        by_cases hlt : i < t.rows.length
        · have hrl := hf.2 _ (List.getElem_mem hlt)
          have go := fun (h1 : t.rowOk i hlt) => ih (i + 1) ⟨hlt, fun j hj hji => by
            rcases Nat.lt_or_ge j i with h | h
            · exact hi.2 j hj h
            · obtain rfl : j = i := by omega
              exact h1⟩ (by omega)
          have bad : ¬ t.rowOk i hlt → ¬ t.valid := fun h1 h2 => h1 (h2.2.2 i hlt)
          clear ih
          by_cases q1 : t.rows[i].length = t.cols.length
          · by_cases q2 : allIn t.rows[i] 4
            · cases i with
              | zero =>
                have go := go ⟨q1, q2, fun h => absurd h (by omega)⟩
                refine Run2.of I 1000 ?_
                simp -implicitDefEqProofs [hlt, q1, q2, hrl, h1]
                first | exact ⟨by omega, by simpa using go⟩ | simpa using go
              | succ i =>
                have hlt' : i < t.rows.length := by omega
                have hc : ((i : Int) + 1 - 1).toNat = i := by omega
                have hltI : (i : Int) + 1 < t.rows.length := by omega
                have hrl' := hf.2 _ (List.getElem_mem hlt')
                by_cases q3 : lexC t.rows[i] t.rows[i + 1] < 0
                · have go := go ⟨q1, q2, fun _ => q3⟩
                  have q3' : ¬ 0 ≤ lexC t.rows[i] t.rows[i + 1] := by omega
                  refine Run2.of I 1000 ?_
                  simp -implicitDefEqProofs [hlt, hlt', hltI, hc, q1, q2, q3, q3', hrl, hrl', h1]
                  refine ⟨by omega, by omega, ?_⟩
                  first | exact ⟨by omega, by simpa using go⟩ | simpa using go
                · have hv := bad fun h => q3 (h.2.2 (by omega))
                  have q3' : 0 ≤ lexC t.rows[i] t.rows[i + 1] := by omega
                  refine Run2.of I 1000 ?_
                  simp -implicitDefEqProofs [hlt, hlt', hltI, hc, q1, q2, q3, q3', hrl, hrl', h1, hv]
                  try omega
            · have hv := bad fun h => q2 h.2.1
              refine Run2.of I 1000 ?_
              simp -implicitDefEqProofs [hlt, q1, q2, hrl, h1, hv]
          · have hv := bad fun h => q1 h.1
            have q1' : ¬ (t.rows[i].length : Int) = t.cols.length := by omega
            refine Run2.of I 1000 ?_
            simp -implicitDefEqProofs [hlt, q1, q1', hrl, h1, hv]
        · have hv : t.valid := ⟨⟨ha, hr⟩, h24, fun j hj => hi.2 j hj (by omega)⟩
          have hlt' : ¬ (i : Int) < t.rows.length := by omega
          refine Run2.of I 1000 ?_
          simp -implicitDefEqProofs [hlt, hlt', hv]
      · have h24' : (24 : Int) < t.rows.length := by omega
        have hv : ¬ t.valid := fun h => h24 h.2.1
        refine Run2.of I 1000 ?_
        simp -implicitDefEqProofs [h1, hr, ha, h24', hv]
    · have hv : ¬ t.valid := fun h => ha h.1.1
      refine Run2.of I 1000 ?_
      simp -implicitDefEqProofs [h1, hr, ha, hv]
  · have hv : ¬ t.valid := fun h => hr h.1.2
    refine Run2.of I 1000 ?_
    simp -implicitDefEqProofs [h1, hr, hv]
noncomputable def o_validTb : List AV → Option (Prop × AV) := tab (fun (x : List Int × LS) => match x with | (c, r) => [.agg [.snap 1 (c.map iv), .snap 1 (r.map il)]]) (fun x => match x with | (c, r) => Tb.tot ⟨c, r⟩ ≤ 1048576) (fun x => match x with | (c, r) => .bool (decide (Tb.valid ⟨c, r⟩)))
@[simp] theorem o_validTb_e (c : List Int) (r : LS) : o_validTb [.agg [.snap 1 (c.map iv), .snap 1 (r.map il)]] = some (Tb.tot ⟨c, r⟩ ≤ 1048576, .bool (decide (Tb.valid ⟨c, r⟩))) := tab_at (enc := fun (x : List Int × LS) => match x with | (c, r) => [.agg [.snap 1 (c.map iv), .snap 1 (r.map il)]]) (fun x y h => by
  obtain ⟨c1, r1⟩ := x; obtain ⟨c2, r2⟩ := y; simp at h; simp [h] <;> omega) _ _ (c, r)
theorem o_validTb_k : Knows Try.prog 151 o_validTb := tab_knows fun x hx h => by
  obtain ⟨c, r⟩ := x; exact validTb_s ⟨c, r⟩ h hx
noncomputable def orcG2 : List (Nat × (List AV → Option (Prop × AV))) := (151, o_validTb) :: []
theorem orcG2_p : Pure Try.prog (lk orcG2) := (lk_pure o_validTb_k lk_pure0)
@[simp] theorem orcG2_l (b : Bool) (g : FuncId) (l : List AV) : lk orcG2 b g l = if g = 151 then o_validTb l else none := nr rfl
abbrev k150_o0 : List AJ := [.o ⟨(some 1), none, false, .box false 2 (.t 0), none⟩, .o ⟨(some 2), none, false, .mv (.c (.bool false)), (some [1])⟩]
abbrev k150_o1 : List AJ := [.o ⟨(some 3), none, false, .load 2 true (.t 1), none⟩, .o ⟨(some 4), none, false, .call 151 [(.t 3)], none⟩, .o ⟨(some 5), none, false, .un .not (.t 4), none⟩, .o ⟨(some 2), none, false, .mv (.t 5), (some [2])⟩]
def k150_2 : ACode := .seq (.region k150_o1) .ret
def k150_3 : ACode := .seq (.region k150_o0) k150_2
@[simp, simp ↓] theorem k150_2r : sR k150_2 k150_o1 .ret := yR rfl
@[simp, simp ↓] theorem k150_3r : sR k150_3 k150_o0 k150_2 := yR rfl
noncomputable abbrev k150_C : Orc → Cx := mkC Try.prog [] 150 6 [.tmp 2]
theorem k150_of0 : OfP0 Try.prog Try.f150 150 6 k150_C k150_3 := @ofP0 _ _ _ _ _ _ _ _ Try.func150 (by decide +kernel) rfl (by kernel_rfl) rfl (by kernel_rfl)
theorem validTbs1_s (t : Tb) (h : Heap) (hl : t.tot ≤ 1048576) : ACalls Try.prog 150 [t.av] h (fun v h' => v = .bool (!decide t.valid) ∧ h' = h) := by
  have hl' : Tb.tot ⟨t.cols, t.rows⟩ ≤ 1048576 := hl
  have e : (⟨t.cols, t.rows⟩ : Tb) = t := rfl
  refine k150_of0 rfl orcG2_p fun I => ?_
  refine Run2.of I 1000 ?_
  simp -implicitDefEqProofs [hl', e, hl]
abbrev k168_o0 : List AJ := [.o ⟨(some 4), none, false, .mv (.c (.int .i64 0)), (some [0, 1])⟩]
abbrev k168_o1 : List AJ := [.o ⟨(some 6), none, false, .mv (.t 0), none⟩, .o ⟨(some 7), none, false, .len (.t 6), none⟩, .o ⟨(some 8), none, false, .mv (.c (.int .i64 0)), (some [0, 1, 7, 8])⟩]
abbrev k168_o2 : List AJ := [.o ⟨(some 9), none, false, .bin .lss (.t 8) (.t 7), (some [0, 1, 7, 8, 9])⟩]
abbrev k168_o3 : List AJ := [.o ⟨(some 10), none, false, .mv (.t 8), none⟩, .o ⟨(some 5), none, false, .mv (.t 10), (some [0, 1, 5, 7, 8])⟩]
abbrev k168_o4 : List AJ := [.o ⟨(some 11), none, false, .mv (.t 1), none⟩, .o ⟨(some 12), none, false, .mv (.t 0), none⟩, .o ⟨(some 13), none, false, .mv (.t 5), none⟩, .o ⟨(some 14), none, false, .idxA 2 (.t 12) (.t 13), none⟩, .o ⟨(some 15), none, false, .load 2 true (.t 14), none⟩, .o ⟨(some 16), none, false, .callv (.t 11) [(.t 15)], (some [0, 1, 5, 7, 8, 16])⟩]
abbrev k168_o5 : List AJ := [.o ⟨(some 17), none, false, .mv (.t 5), none⟩, .o ⟨(some 4), none, false, .mv (.t 17), (some [4])⟩]
def k168_7 : ACode := .seq (.region k168_o5) .ret
def k168_8 : ACode := .cond (.t 16) k168_7 .skip
def k168_9 : ACode := .seq (.region k168_o4) k168_8
def k168_10 : ACode := .seq (.region k168_o3) k168_9
abbrev k168_o6 : List AJ := [.o ⟨(some 18), none, true, .bin .add (.t 8) (.c (.int .i64 1)), none⟩, .o ⟨(some 8), none, false, .mv (.t 18), (some [0, 1, 7, 8])⟩]
def k168_12 : ACode := .region k168_o6
def k168_13 : ACode := .seq (.block 1 k168_10) k168_12
def k168_14 : ACode := .seq (.cond (.t 9) .skip (.exit 0)) k168_13
def k168_15 : ACode := .seq (.region k168_o2) k168_14
def k168_16 : ACode := .loop k168_15
def k168_17 : ACode := .block 0 k168_16
def k168_18 : ACode := .seq (.region k168_o1) k168_17
abbrev k168_o7 : List AJ := [.o ⟨(some 4), none, false, .mv (.c (.int .i64 (-1))), (some [4])⟩]
def k168_20 : ACode := .seq (.region k168_o7) .ret
def k168_21 : ACode := .seq k168_18 k168_20
def k168_22 : ACode := .seq (.region k168_o0) k168_21
@[simp, simp ↓] theorem k168_7r : sR k168_7 k168_o5 .ret := yR rfl
@[simp, simp ↓] theorem k168_8r : rC k168_8 (.t 16) k168_7 .skip := zC rfl
@[simp, simp ↓] theorem k168_9r : sR k168_9 k168_o4 k168_8 := yR rfl
@[simp, simp ↓] theorem k168_10r : sR k168_10 k168_o3 k168_9 := yR rfl
@[simp, simp ↓] theorem k168_12r : rR k168_12 k168_o6 := zR rfl
@[simp, simp ↓] theorem k168_13r : sB k168_13 1 k168_10 k168_12 := yB rfl
@[simp, simp ↓] theorem k168_14r : sC k168_14 (.t 9) .skip (.exit 0) k168_13 := yC rfl
@[simp, simp ↓] theorem k168_15r : sR k168_15 k168_o2 k168_14 := yR rfl
@[simp, simp ↓] theorem k168_16r : rL k168_16 k168_15 := zL rfl
@[simp, simp ↓] theorem k168_17r : rB k168_17 0 k168_16 := zB rfl
@[simp, simp ↓] theorem k168_18r : sR k168_18 k168_o1 k168_17 := yR rfl
@[simp, simp ↓] theorem k168_20r : sR k168_20 k168_o7 .ret := yR rfl
@[simp, simp ↓] theorem k168_21r : rS k168_21 k168_18 k168_20 := zS rfl
@[simp, simp ↓] theorem k168_22r : sR k168_22 k168_o0 k168_21 := yR rfl
noncomputable abbrev k168_C : Orc → Cx := mkC Try.prog [] 168 19 [.tmp 4]
theorem k168_of0 : OfP0 Try.prog Try.f168 168 19 k168_C k168_22 := @ofP0 _ _ _ _ _ _ _ _ Try.func168 (by decide +kernel) rfl (by kernel_rfl) rfl (by kernel_rfl)
def idxT (q : Tb → Bool) (l : List Tb) : Int := match l.findIdx? q with
  | some i => i
  | none => -1
theorem idxT_at {q : Tb → Bool} {l : List Tb} {i : Nat} (h : i < l.length) (hb : ∀ j (hj : j < l.length), j < i → q l[j] = false) (ht : q l[i] = true) : idxT q l = i := by
  have : l.findIdx? q = some i := List.findIdx?_eq_some_iff_getElem.2 ⟨h, ht, fun j hj => by simp [hb j (by omega) hj]⟩
  unfold idxT; rw [this]
theorem idxT_none {q : Tb → Bool} {l : List Tb} (hb : ∀ j (hj : j < l.length), q l[j] = false) : idxT q l = -1 := by
  have : l.findIdx? q = none := List.findIdx?_eq_none_iff.2 fun a ha => by
    obtain ⟨j, hj, rfl⟩ := List.mem_iff_getElem.1 ha
    exact hb j hj
  unfold idxT; rw [this]
theorem idxT_ge (q : Tb → Bool) (l : List Tb) : (0 ≤ idxT q l) ↔ ∃ a ∈ l, q a = true := by
  unfold idxT
  cases h : l.findIdx? q with
  | none =>
    rw [List.findIdx?_eq_none_iff] at h
    simp only [show ¬ (0 : Int) ≤ -1 by omega, false_iff]
    rintro ⟨a, ha, hq⟩
    have := h a ha
    rw [hq] at this; cases this
  | some i =>
    obtain ⟨hi, hq, _⟩ := List.findIdx?_eq_some_iff_getElem.1 h
    simp only [Int.natCast_nonneg, true_iff]
    exact ⟨_, List.getElem_mem hi, hq⟩
theorem IndexFuncT_s (l : List Tb) (g : FuncId) (caps : List AV) (q : Tb → Bool) (h : Heap) (hl : l.length ≤ 1048576) (hq : ∀ a ∈ l, ACalls Try.prog g (a.av :: caps) h (fun v h' => v = .bool (q a) ∧ h' = h)) :
    ACalls Try.prog 168 [.snap 2 (l.map Tb.av), .fn g caps] h (fun v h' => v = .int .i64 (idxT q l) ∧ h' = h) := by
  refine k168_of0 rfl noPure fun I => ?_
  refine Run2.of I 1000 ?_
  simp -implicitDefEqProofs
  refine Run2.loopE (fun i => [(0, .snap 2 (l.map Tb.av)), (1, .fn g caps), (7, .int .i64 l.length), (8, .int .i64 (i : Nat))]) (fun i => h) (fun i => l.length - i) (fun i => i ≤ l.length ∧ ∀ j (hj : j < l.length), j < i → q l[j] = false) 0 (by simp) rfl ⟨Nat.zero_le _, fun _ _ h => absurd h (Nat.not_lt_zero _)⟩ fun i hi ih => ?_
  by_cases hlt : i < l.length
  · have go := fun (h1 : q l[i] = false) => ih (i + 1) ⟨by omega, fun j hj hji => by
      rcases Nat.lt_or_ge j i with h | h
      · exact hi.2 j hj h
      · obtain rfl : j = i := by omega
        exact h1⟩ (by omega)
    have hat := idxT_at (q := q) hlt hi.2
    clear ih
    refine Run2.of I 1000 ?_
    simp -implicitDefEqProofs [hlt]
    refine (hq _ (List.getElem_mem hlt)).mono ?_
    rintro v h' ⟨rfl, rfl⟩
    refine gK.go ?_
    simp -implicitDefEqProofs
    refine ⟨fun h => (hat h).symm, fun h => ⟨by omega, ?_⟩⟩
    simpa using go h
  · obtain rfl : i = l.length := by omega
    have := idxT_none (q := q) (l := l) fun j hj => hi.2 j hj hj
    refine Run2.of I 1000 ?_
    simp -implicitDefEqProofs
    exact this.symm
abbrev k149_o0 : List AJ := [.o ⟨(some 4), none, false, .mv (.c (.bool false)), (some [0, 1])⟩]
abbrev k149_o1 : List AJ := [.o ⟨(some 5), none, false, .mv (.t 0), none⟩, .o ⟨(some 6), none, false, .mv (.t 1), none⟩, .o ⟨(some 7), none, false, .call 168 [(.t 5), (.t 6)], none⟩, .o ⟨(some 8), none, false, .bin .geq (.t 7) (.c (.int .i64 0)), none⟩, .o ⟨(some 4), none, false, .mv (.t 8), (some [4])⟩]
def k149_2 : ACode := .seq (.region k149_o1) .ret
def k149_3 : ACode := .seq (.region k149_o0) k149_2
@[simp, simp ↓] theorem k149_2r : sR k149_2 k149_o1 .ret := yR rfl
@[simp, simp ↓] theorem k149_3r : sR k149_3 k149_o0 k149_2 := yR rfl
noncomputable abbrev k149_C : Orc → Cx := mkC Try.prog [] 149 9 [.tmp 4]
theorem k149_of0 : OfP0 Try.prog Try.f149 149 9 k149_C k149_3 := @ofP0 _ _ _ _ _ _ _ _ Try.func149 (by decide +kernel) rfl (by kernel_rfl) rfl (by kernel_rfl)
theorem ContainsFuncT_s (l : List Tb) (g : FuncId) (caps : List AV) (q : Tb → Bool) (h : Heap) (hl : l.length ≤ 1048576) (hq : ∀ a ∈ l, ACalls Try.prog g (a.av :: caps) h (fun v h' => v = .bool (q a) ∧ h' = h)) :
    ACalls Try.prog 149 [.snap 2 (l.map Tb.av), .fn g caps] h (fun v h' => v = .bool (l.any q) ∧ h' = h) := by
  refine k149_of0 rfl noPure fun I => ?_
  refine Run2.of I 1000 ?_
  simp -implicitDefEqProofs
  refine (IndexFuncT_s l g caps q h hl hq).mono ?_
  rintro v h' ⟨rfl, rfl⟩
  refine gK.go ?_
  simp -implicitDefEqProofs [idxT_ge]
  rw [Bool.eq_iff_iff]
  simp
def tbsOk (ts : List Tb) : Prop := ts.length ≤ 6 ∧ ∀ t ∈ ts, t.valid
noncomputable instance (ts : List Tb) : Decidable (tbsOk ts) := Classical.propDecidable _
theorem tbs_mem' {ts : List Tb} {t : Tb} (h : t ∈ ts) {n : Nat} (hl : tbsTot ts ≤ n) : t.tot ≤ n := by have := tbs_mem h; omega
theorem tbs_len {ts : List Tb} {n : Nat} (hl : tbsTot ts ≤ n) : ts.length ≤ n := by unfold tbsTot at hl; omega
abbrev k114_o0 : List AJ := [.o ⟨(some 2), none, false, .mv (.c (.bool false)), (some [0])⟩]
abbrev k114_o1 : List AJ := [.o ⟨(some 3), none, false, .mv (.t 0), none⟩, .o ⟨(some 4), none, false, .len (.t 3), none⟩, .o ⟨(some 5), none, false, .bin .leq (.t 4) (.c (.int .i64 6)), none⟩, .o ⟨(some 6), none, false, .mv (.t 5), none⟩, .o ⟨(some 7), (some (6, true)), false, .mv (.t 0), none⟩, .o ⟨(some 8), (some (6, true)), false, .call 149 [(.t 7), (.c (.fn 150 []))], none⟩, .o ⟨(some 9), (some (6, true)), false, .un .not (.t 8), none⟩, .o ⟨(some 10), none, false, .pick (.t 6) (.t 9) (.c (.bool false)), none⟩, .o ⟨(some 2), none, false, .mv (.t 10), (some [2])⟩]
def k114_2 : ACode := .seq (.region k114_o1) .ret
def k114_3 : ACode := .seq (.region k114_o0) k114_2
@[simp, simp ↓] theorem k114_2r : sR k114_2 k114_o1 .ret := yR rfl
@[simp, simp ↓] theorem k114_3r : sR k114_3 k114_o0 k114_2 := yR rfl
noncomputable abbrev k114_C : Orc → Cx := mkC Try.prog [] 114 11 [.tmp 2]
theorem k114_of0 : OfP0 Try.prog Try.f114 114 11 k114_C k114_3 := @ofP0 _ _ _ _ _ _ _ _ Try.func114 (by decide +kernel) rfl (by kernel_rfl) rfl (by kernel_rfl)
theorem validTbs_s (ts : List Tb) (h : Heap) (hl : tbsTot ts ≤ 1048576) : ACalls Try.prog 114 [.snap 2 (ts.map Tb.av)] h (fun v h' => v = .bool (decide (tbsOk ts)) ∧ h' = h) := by
  have hlen := tbs_len hl
  refine k114_of0 rfl noPure fun I => ?_
  by_cases h6 : ts.length ≤ 6
  · have h6' : (ts.length : Int) ≤ 6 := by omega
    refine Run2.of I 1000 ?_
    simp -implicitDefEqProofs [h6']
    refine (ContainsFuncT_s ts 150 [] (fun t => !decide t.valid) h hlen fun t ht => validTbs1_s t h (tbs_mem' ht hl)).mono ?_
    rintro v h' ⟨rfl, rfl⟩
    refine gK.go ?_
    simp -implicitDefEqProofs
    rw [Bool.eq_iff_iff]
    simp [tbsOk, h6]
  · have h6' : ¬ (ts.length : Int) ≤ 6 := by omega
    have hv : ¬ tbsOk ts := fun h => h6 h.1
    refine Run2.of I 1000 ?_
    simp -implicitDefEqProofs [h6', hv]
end Go.AG
namespace Go.AG
open Go.Proofs Go.Proofs.Ytebkdegjiollbaa
set_option linter.unusedSimpArgs false
set_option linter.unusedVariables false
set_option maxRecDepth 4000
abbrev k166_o0 : List AJ := [.o ⟨(some 4), none, false, .mv (.c (.bool false)), (some [0, 1])⟩]
abbrev k166_o1 : List AJ := [.o ⟨(some 5), none, false, .mv (.c (.int .i64 0)), (some [0, 1, 5])⟩]
abbrev k166_o2 : List AJ := [.o ⟨(some 6), none, false, .mv (.t 5), none⟩, .o ⟨(some 7), none, false, .mv (.t 0), none⟩, .o ⟨(some 8), none, false, .len (.t 7), none⟩, .o ⟨(some 9), none, false, .bin .lss (.t 6) (.t 8), none⟩, .o ⟨(some 10), none, false, .mv (.t 9), none⟩, .o ⟨(some 11), (some (10, true)), false, .mv (.t 5), none⟩, .o ⟨(some 12), (some (10, true)), false, .mv (.t 1), none⟩, .o ⟨(some 13), (some (10, true)), false, .len (.t 12), none⟩, .o ⟨(some 14), (some (10, true)), false, .bin .lss (.t 11) (.t 13), none⟩, .o ⟨(some 15), none, false, .pick (.t 10) (.t 14) (.c (.bool false)), (some [0, 1, 5, 15])⟩]
def k166_3 : ACode := .cond (.t 15) .skip (.exit 0)
def k166_4 : ACode := .seq (.region k166_o2) k166_3
abbrev k166_o3 : List AI := [⟨(some 18), none, false, .mv (.t 0), none⟩, ⟨(some 19), none, false, .mv (.t 5), none⟩, ⟨(some 20), none, false, .idxA 1 (.t 18) (.t 19), none⟩, ⟨(some 21), none, false, .load 1 false (.t 20), none⟩, ⟨(some 22), none, false, .mv (.t 1), none⟩, ⟨(some 23), none, false, .mv (.t 5), none⟩, ⟨(some 24), none, false, .idxA 1 (.t 22) (.t 23), none⟩, ⟨(some 25), none, false, .load 1 false (.t 24), none⟩, ⟨(some 26), none, false, .bin .neq (.t 21) (.t 25), (some [0, 1, 5, 26])⟩]
abbrev k166_o4 : List AI := [⟨(some 27), none, false, .mv (.t 0), none⟩, ⟨(some 28), none, false, .mv (.t 5), none⟩, ⟨(some 29), none, false, .idxA 1 (.t 27) (.t 28), none⟩, ⟨(some 30), none, false, .load 1 false (.t 29), none⟩, ⟨(some 31), none, false, .mv (.t 1), none⟩, ⟨(some 32), none, false, .mv (.t 5), none⟩, ⟨(some 33), none, false, .idxA 1 (.t 31) (.t 32), none⟩, ⟨(some 34), none, false, .load 1 false (.t 33), none⟩, ⟨(some 35), none, false, .bin .lss (.t 30) (.t 34), none⟩, ⟨(some 4), none, false, .mv (.t 35), (some [4])⟩]
def k166_7 : ACode := .seq (.draw k166_o4 [] rfl) .ret
def k166_8 : ACode := .cond (.t 26) k166_7 .skip
def k166_9 : ACode := .seq (.draw k166_o3 [] rfl) k166_8
abbrev k166_o5 : List AJ := [.o ⟨(some 16), none, false, .mv (.t 5), none⟩, .o ⟨(some 17), none, true, .bin .add (.t 16) (.c (.int .i64 1)), none⟩, .o ⟨(some 5), none, false, .mv (.t 17), (some [0, 1, 5])⟩]
def k166_11 : ACode := .region k166_o5
def k166_12 : ACode := .seq (.block 1 k166_9) k166_11
def k166_13 : ACode := .seq k166_4 k166_12
def k166_14 : ACode := .loop k166_13
def k166_15 : ACode := .block 0 k166_14
def k166_16 : ACode := .seq (.region k166_o1) k166_15
abbrev k166_o6 : List AJ := [.o ⟨(some 36), none, false, .mv (.t 0), none⟩, .o ⟨(some 37), none, false, .len (.t 36), none⟩, .o ⟨(some 38), none, false, .mv (.t 1), none⟩, .o ⟨(some 39), none, false, .len (.t 38), none⟩, .o ⟨(some 40), none, false, .bin .lss (.t 37) (.t 39), none⟩, .o ⟨(some 4), none, false, .mv (.t 40), (some [4])⟩]
def k166_18 : ACode := .seq (.region k166_o6) .ret
def k166_19 : ACode := .seq k166_16 k166_18
def k166_20 : ACode := .seq (.region k166_o0) k166_19
@[simp, simp ↓] theorem k166_3r : rC k166_3 (.t 15) .skip (.exit 0) := zC rfl
@[simp, simp ↓] theorem k166_4r : sR k166_4 k166_o2 k166_3 := yR rfl
@[simp, simp ↓] theorem k166_7r : sD k166_7 k166_o4 [] .ret := yD rfl
@[simp, simp ↓] theorem k166_8r : rC k166_8 (.t 26) k166_7 .skip := zC rfl
@[simp, simp ↓] theorem k166_9r : sD k166_9 k166_o3 [] k166_8 := yD rfl
@[simp, simp ↓] theorem k166_11r : rR k166_11 k166_o5 := zR rfl
@[simp, simp ↓] theorem k166_12r : sB k166_12 1 k166_9 k166_11 := yB rfl
@[simp, simp ↓] theorem k166_13r : rS k166_13 k166_4 k166_12 := zS rfl
@[simp, simp ↓] theorem k166_14r : rL k166_14 k166_13 := zL rfl
@[simp, simp ↓] theorem k166_15r : rB k166_15 0 k166_14 := zB rfl
@[simp, simp ↓] theorem k166_16r : sR k166_16 k166_o1 k166_15 := yR rfl
@[simp, simp ↓] theorem k166_18r : sR k166_18 k166_o6 .ret := yR rfl
@[simp, simp ↓] theorem k166_19r : rS k166_19 k166_16 k166_18 := zS rfl
@[simp, simp ↓] theorem k166_20r : sR k166_20 k166_o0 k166_19 := yR rfl
noncomputable abbrev k166_C : Orc → Cx := mkC Try.prog [] 166 41 [.tmp 4]
theorem k166_of0 : OfP0 Try.prog Try.f166 166 41 k166_C k166_20 := @ofP0 _ _ _ _ _ _ _ _ Try.func166 (by decide +kernel) rfl (by kernel_rfl) rfl (by kernel_rfl)
theorem l16Before_s (l m : List Int) (h : Heap) (hl : l.length ≤ 1048576) : ACalls Try.prog 166 [.snap 1 (l.map iv), .snap 1 (m.map iv)] h (fun v h' => v = .bool (decide (lexC l m < 0)) ∧ h' = h) := by
  refine k166_of0 rfl noPure fun I => ?_
  refine Run2.of I 1000 ?_
  simp -implicitDefEqProofs
  refine Run2.loopE (fun (i : Nat) => [(0, .snap 1 (l.map iv)), (1, .snap 1 (m.map iv)), (5, .int .i64 i)]) (fun i => h) (fun i => l.length - i) (fun i => i ≤ l.length ∧ i ≤ m.length ∧ lexC (l.drop i) (m.drop i) = lexC l m) 0 (by simp) rfl (by simp) fun i hi ih => ?_
  have hc := hi.2.2
  by_cases hlt : i < l.length
  · by_cases hlt2 : i < m.length
    · rw [List.drop_eq_getElem_cons hlt, List.drop_eq_getElem_cons hlt2] at hc
      simp only [lexC] at hc
      have go := fun (hz : cmpZ l[i] m[i] = 0) => ih (i + 1) ⟨by omega, by omega, by rw [← hc, if_pos hz]⟩ (by omega)
      clear ih
      by_cases he : l[i] = m[i]
      · have go := go ((cmpZ_zero _ _).2 he)
        refine Run2.of I 1000 ?_
        simp -implicitDefEqProofs [hlt, hlt2, he]
        exact ⟨by omega, by simpa using go⟩
      · have hz : ¬ cmpZ l[i] m[i] = 0 := fun h => he ((cmpZ_zero _ _).1 h)
        rw [if_neg hz] at hc
        refine Run2.of I 1000 ?_
        simp -implicitDefEqProofs [hlt, hlt2, he, ← hc, cmpZ_neg]
    · obtain rfl : i = m.length := by omega
      have hcc : ¬ lexC l m < 0 := by
        rw [List.drop_eq_getElem_cons hlt, List.drop_length] at hc
        simp only [lexC] at hc
        omega
      have hlt' : ¬ (l.length : Int) < m.length := by omega
      refine Run2.of I 1000 ?_
      simp -implicitDefEqProofs [hlt, hlt', hcc]
  · obtain rfl : i = l.length := by omega
    rw [List.drop_length] at hc
    by_cases hlt2 : l.length < m.length
    · rw [List.drop_eq_getElem_cons hlt2] at hc
      simp only [lexC] at hc
      refine Run2.of I 1000 ?_
      simp -implicitDefEqProofs [hlt2, ← hc]
    · rw [List.drop_of_length_le (by omega)] at hc
      simp only [lexC] at hc
      refine Run2.of I 1000 ?_
      simp -implicitDefEqProofs [hlt2, ← hc]
noncomputable def o_l16Before : List AV → Option (Prop × AV) := tab (fun (x : List Int × List Int) => match x with | (l, m) => [.snap 1 (l.map iv), .snap 1 (m.map iv)]) (fun x => match x with | (l, m) => l.length ≤ 1048576) (fun x => match x with | (l, m) => .bool (decide (lexC l m < 0)))
@[simp] theorem o_l16Before_e (l : List Int) (m : List Int) : o_l16Before [.snap 1 (l.map iv), .snap 1 (m.map iv)] = some (l.length ≤ 1048576, .bool (decide (lexC l m < 0))) := tab_at (enc := fun (x : List Int × List Int) => match x with | (l, m) => [.snap 1 (l.map iv), .snap 1 (m.map iv)]) (fun x y h => by
  obtain ⟨l1, m1⟩ := x; obtain ⟨l2, m2⟩ := y; simp at h; simp [h] <;> omega) _ _ (l, m)
theorem o_l16Before_k : Knows Try.prog 166 o_l16Before := tab_knows fun x hx h => by
  obtain ⟨l, m⟩ := x; exact l16Before_s l m h hx
noncomputable def orcG3 : List (Nat × (List AV → Option (Prop × AV))) := (166, o_l16Before) :: (132, o_l00Rises) :: (45, o_l00In) :: []
theorem orcG3_p : Pure Try.prog (lk orcG3) := (lk_pure o_l16Before_k (lk_pure o_l00Rises_k (lk_pure o_l00In_k lk_pure0)))
@[simp] theorem orcG3_l (b : Bool) (g : FuncId) (l : List AV) : lk orcG3 b g l = if g = 166 then o_l16Before l else if g = 132 then o_l00Rises l else if g = 45 then o_l00In l else none := nr rfl
abbrev k146_o0 : List AJ := [.o ⟨(some 2), none, false, .mv (.c (.bool false)), (some [0])⟩]
abbrev k146_o1 : List AJ := [.o ⟨(some 5), none, false, .mv (.t 0), none⟩, .o ⟨(some 6), none, false, .nilchk (.t 5), none⟩, .o ⟨(some 7), none, false, .fieldA 0 (.t 6), none⟩, .o ⟨(some 8), none, false, .load 1 false (.t 7), none⟩, .o ⟨(some 9), none, false, .call 132 [(.t 8), (.c (.int .i64 0)), (.c (.int .i64 7))], none⟩, .o ⟨(some 10), none, false, .un .not (.t 9), none⟩, .o ⟨(some 11), none, false, .mv (.t 10), none⟩, .o ⟨(some 12), (some (11, false)), false, .mv (.t 0), none⟩, .o ⟨(some 13), (some (11, false)), false, .nilchk (.t 12), none⟩, .o ⟨(some 14), (some (11, false)), false, .fieldA 1 (.t 13), none⟩, .o ⟨(some 15), (some (11, false)), false, .load 1 false (.t 14), (some [0, 11, 15])⟩, .o ⟨(some 16), (some (11, false)), false, .len (.t 15), none⟩, .o ⟨(some 17), (some (11, false)), false, .bin .gtr (.t 16) (.c (.int .i64 24)), none⟩, .o ⟨(some 18), none, false, .pick (.t 11) (.c (.bool true)) (.t 17), (some [0, 18])⟩]
abbrev k146_o2 : List AJ := [.o ⟨(some 2), none, false, .mv (.c (.bool false)), (some [2])⟩]
def k146_3 : ACode := .seq (.region k146_o2) .ret
def k146_4 : ACode := .cond (.t 18) k146_3 .skip
def k146_5 : ACode := .seq (.region k146_o1) k146_4
abbrev k146_o3 : List AJ := [.o ⟨(some 3), none, false, .mv (.c (.int .i64 0)), (some [0, 3])⟩]
abbrev k146_o4 : List AJ := [.o ⟨(some 19), none, false, .mv (.t 3), none⟩, .o ⟨(some 20), none, false, .mv (.t 0), none⟩, .o ⟨(some 21), none, false, .nilchk (.t 20), none⟩, .o ⟨(some 22), none, false, .fieldA 1 (.t 21), none⟩, .o ⟨(some 23), none, false, .load 1 false (.t 22), none⟩, .o ⟨(some 24), none, false, .len (.t 23), none⟩, .o ⟨(some 25), none, false, .bin .lss (.t 19) (.t 24), (some [0, 3, 25])⟩]
def k146_8 : ACode := .cond (.t 25) .skip (.exit 0)
def k146_9 : ACode := .seq (.region k146_o4) k146_8
abbrev k146_o5 : List AI := [⟨(some 28), none, false, .mv (.t 0), none⟩, ⟨(some 29), none, false, .nilchk (.t 28), none⟩, ⟨(some 30), none, false, .fieldA 1 (.t 29), none⟩, ⟨(some 31), none, false, .load 1 false (.t 30), none⟩, ⟨(some 32), none, false, .mv (.t 3), none⟩, ⟨(some 33), none, false, .idxA 1 (.t 31) (.t 32), none⟩, ⟨(some 34), none, false, .load 1 false (.t 33), none⟩, ⟨(some 35), none, false, .len (.t 34), none⟩, ⟨(some 36), none, false, .mv (.t 0), none⟩, ⟨(some 37), none, false, .nilchk (.t 36), none⟩, ⟨(some 38), none, false, .fieldA 0 (.t 37), none⟩, ⟨(some 39), none, false, .load 1 false (.t 38), none⟩, ⟨(some 40), none, false, .len (.t 39), none⟩, ⟨(some 41), none, false, .bin .neq (.t 35) (.t 40), (some [0, 3, 41])⟩, ⟨(some 42), none, false, .mv (.t 41), none⟩, ⟨(some 43), (some (42, false)), false, .mv (.t 3), none⟩, ⟨(some 44), (some (42, false)), false, .bin .gtr (.t 43) (.c (.int .i64 0)), none⟩, ⟨(some 45), (some (42, false)), false, .mv (.t 44), none⟩, ⟨(some 46), (some (45, true)), false, .mv (.t 0), none⟩, ⟨(some 47), (some (45, true)), false, .nilchk (.t 46), none⟩, ⟨(some 48), (some (45, true)), false, .fieldA 1 (.t 47), none⟩, ⟨(some 49), (some (45, true)), false, .load 1 false (.t 48), (some [0, 3, 42, 45, 49])⟩, ⟨(some 50), (some (45, true)), false, .mv (.t 3), none⟩, ⟨(some 51), (some (45, true)), true, .bin .sub (.t 50) (.c (.int .i64 1)), none⟩, ⟨(some 52), (some (45, true)), false, .idxA 1 (.t 49) (.t 51), none⟩, ⟨(some 53), (some (45, true)), false, .load 1 false (.t 52), none⟩, ⟨(some 54), (some (45, true)), false, .mv (.t 0), none⟩, ⟨(some 55), (some (45, true)), false, .nilchk (.t 54), none⟩, ⟨(some 56), (some (45, true)), false, .fieldA 1 (.t 55), (some [0, 3, 42, 45, 53, 56])⟩, ⟨(some 57), (some (45, true)), false, .load 1 false (.t 56), none⟩, ⟨(some 58), (some (45, true)), false, .mv (.t 3), none⟩, ⟨(some 59), (some (45, true)), false, .idxA 1 (.t 57) (.t 58), none⟩, ⟨(some 60), (some (45, true)), false, .load 1 false (.t 59), none⟩, ⟨(some 61), (some (45, true)), false, .call 166 [(.t 53), (.t 60)], none⟩, ⟨(some 62), (some (45, true)), false, .un .not (.t 61), none⟩, ⟨(some 63), (some (42, false)), false, .pick (.t 45) (.t 62) (.c (.bool false)), (some [0, 3, 42, 63])⟩, ⟨(some 64), none, false, .pick (.t 42) (.c (.bool true)) (.t 63), (some [0, 3, 64])⟩]
abbrev k146_o6 : List AJ := [.o ⟨(some 2), none, false, .mv (.c (.bool false)), (some [2])⟩]
def k146_12 : ACode := .seq (.region k146_o6) .ret
def k146_13 : ACode := .cond (.t 64) k146_12 .skip
def k146_14 : ACode := .seq (.draw k146_o5 [] rfl) k146_13
abbrev k146_o7 : List AJ := [.o ⟨(some 4), none, false, .mv (.c (.int .i64 0)), (some [0, 3, 4])⟩]
abbrev k146_o8 : List AJ := [.o ⟨(some 65), none, false, .mv (.t 4), none⟩, .o ⟨(some 66), none, false, .mv (.t 0), none⟩, .o ⟨(some 67), none, false, .nilchk (.t 66), none⟩, .o ⟨(some 68), none, false, .fieldA 1 (.t 67), none⟩, .o ⟨(some 69), none, false, .load 1 false (.t 68), none⟩, .o ⟨(some 70), none, false, .mv (.t 3), none⟩, .o ⟨(some 71), none, false, .idxA 1 (.t 69) (.t 70), none⟩, .o ⟨(some 72), none, false, .load 1 false (.t 71), none⟩, .o ⟨(some 73), none, false, .len (.t 72), none⟩, .o ⟨(some 74), none, false, .bin .lss (.t 65) (.t 73), (some [0, 3, 4, 74])⟩]
def k146_17 : ACode := .cond (.t 74) .skip (.exit 2)
def k146_18 : ACode := .seq (.region k146_o8) k146_17
abbrev k146_o9 : List AJ := [.o ⟨(some 77), none, false, .mv (.t 0), none⟩, .o ⟨(some 78), none, false, .nilchk (.t 77), none⟩, .o ⟨(some 79), none, false, .fieldA 1 (.t 78), none⟩, .o ⟨(some 80), none, false, .load 1 false (.t 79), none⟩, .o ⟨(some 81), none, false, .mv (.t 3), none⟩, .o ⟨(some 82), none, false, .idxA 1 (.t 80) (.t 81), none⟩, .o ⟨(some 83), none, false, .load 1 false (.t 82), none⟩, .o ⟨(some 84), none, false, .mv (.t 4), none⟩, .o ⟨(some 85), none, false, .idxA 1 (.t 83) (.t 84), none⟩, .o ⟨(some 86), none, false, .load 1 false (.t 85), none⟩, .o ⟨(some 87), none, false, .call 45 [(.t 86), (.c (.int .i64 0)), (.c (.int .i64 3))], none⟩, .o ⟨(some 88), none, false, .un .not (.t 87), (some [0, 3, 4, 88])⟩]
abbrev k146_o10 : List AJ := [.o ⟨(some 2), none, false, .mv (.c (.bool false)), (some [2])⟩]
def k146_21 : ACode := .seq (.region k146_o10) .ret
def k146_22 : ACode := .cond (.t 88) k146_21 .skip
def k146_23 : ACode := .seq (.region k146_o9) k146_22
abbrev k146_o11 : List AJ := [.o ⟨(some 75), none, false, .mv (.t 4), none⟩, .o ⟨(some 76), none, true, .bin .add (.t 75) (.c (.int .i64 1)), none⟩, .o ⟨(some 4), none, false, .mv (.t 76), (some [0, 3, 4])⟩]
def k146_25 : ACode := .region k146_o11
def k146_26 : ACode := .seq (.block 3 k146_23) k146_25
def k146_27 : ACode := .seq k146_18 k146_26
def k146_28 : ACode := .loop k146_27
def k146_29 : ACode := .block 2 k146_28
def k146_30 : ACode := .seq (.region k146_o7) k146_29
def k146_31 : ACode := .seq k146_14 k146_30
abbrev k146_o12 : List AJ := [.o ⟨(some 26), none, false, .mv (.t 3), none⟩, .o ⟨(some 27), none, true, .bin .add (.t 26) (.c (.int .i64 1)), none⟩, .o ⟨(some 3), none, false, .mv (.t 27), (some [0, 3])⟩]
def k146_33 : ACode := .region k146_o12
def k146_34 : ACode := .seq (.block 1 k146_31) k146_33
def k146_35 : ACode := .seq k146_9 k146_34
def k146_36 : ACode := .loop k146_35
def k146_37 : ACode := .block 0 k146_36
def k146_38 : ACode := .seq (.region k146_o3) k146_37
abbrev k146_o13 : List AJ := [.o ⟨(some 2), none, false, .mv (.c (.bool true)), (some [2])⟩]
def k146_40 : ACode := .seq (.region k146_o13) .ret
def k146_41 : ACode := .seq k146_38 k146_40
def k146_42 : ACode := .seq k146_5 k146_41
def k146_43 : ACode := .seq (.region k146_o0) k146_42
@[simp, simp ↓] theorem k146_3r : sR k146_3 k146_o2 .ret := yR rfl
@[simp, simp ↓] theorem k146_4r : rC k146_4 (.t 18) k146_3 .skip := zC rfl
@[simp, simp ↓] theorem k146_5r : sR k146_5 k146_o1 k146_4 := yR rfl
@[simp, simp ↓] theorem k146_8r : rC k146_8 (.t 25) .skip (.exit 0) := zC rfl
@[simp, simp ↓] theorem k146_9r : sR k146_9 k146_o4 k146_8 := yR rfl
@[simp, simp ↓] theorem k146_12r : sR k146_12 k146_o6 .ret := yR rfl
@[simp, simp ↓] theorem k146_13r : rC k146_13 (.t 64) k146_12 .skip := zC rfl
@[simp, simp ↓] theorem k146_14r : sD k146_14 k146_o5 [] k146_13 := yD rfl
@[simp, simp ↓] theorem k146_17r : rC k146_17 (.t 74) .skip (.exit 2) := zC rfl
@[simp, simp ↓] theorem k146_18r : sR k146_18 k146_o8 k146_17 := yR rfl
@[simp, simp ↓] theorem k146_21r : sR k146_21 k146_o10 .ret := yR rfl
@[simp, simp ↓] theorem k146_22r : rC k146_22 (.t 88) k146_21 .skip := zC rfl
@[simp, simp ↓] theorem k146_23r : sR k146_23 k146_o9 k146_22 := yR rfl
@[simp, simp ↓] theorem k146_25r : rR k146_25 k146_o11 := zR rfl
@[simp, simp ↓] theorem k146_26r : sB k146_26 3 k146_23 k146_25 := yB rfl
@[simp, simp ↓] theorem k146_27r : rS k146_27 k146_18 k146_26 := zS rfl
@[simp, simp ↓] theorem k146_28r : rL k146_28 k146_27 := zL rfl
@[simp, simp ↓] theorem k146_29r : rB k146_29 2 k146_28 := zB rfl
@[simp, simp ↓] theorem k146_30r : sR k146_30 k146_o7 k146_29 := yR rfl
@[simp, simp ↓] theorem k146_31r : rS k146_31 k146_14 k146_30 := zS rfl
@[simp, simp ↓] theorem k146_33r : rR k146_33 k146_o12 := zR rfl
@[simp, simp ↓] theorem k146_34r : sB k146_34 1 k146_31 k146_33 := yB rfl
@[simp, simp ↓] theorem k146_35r : rS k146_35 k146_9 k146_34 := zS rfl
@[simp, simp ↓] theorem k146_36r : rL k146_36 k146_35 := zL rfl
@[simp, simp ↓] theorem k146_37r : rB k146_37 0 k146_36 := zB rfl
@[simp, simp ↓] theorem k146_38r : sR k146_38 k146_o3 k146_37 := yR rfl
@[simp, simp ↓] theorem k146_40r : sR k146_40 k146_o13 .ret := yR rfl
@[simp, simp ↓] theorem k146_41r : rS k146_41 k146_38 k146_40 := zS rfl
@[simp, simp ↓] theorem k146_42r : rS k146_42 k146_5 k146_41 := zS rfl
@[simp, simp ↓] theorem k146_43r : sR k146_43 k146_o0 k146_42 := yR rfl
noncomputable abbrev k146_C : Orc → Cx := mkC Try.prog [] 146 89 [.tmp 2]
theorem k146_of0 : OfP0 Try.prog Try.f146 146 89 k146_C k146_43 := @ofP0 _ _ _ _ _ _ _ _ Try.func146 (by decide +kernel) rfl (by kernel_rfl) rfl (by kernel_rfl)
theorem l20Ok_s (t : Tb) (h : Heap) (hl : t.tot ≤ 1048576) : ACalls Try.prog 146 [.ip [.snap 1 (t.cols.map iv), .snap 1 (t.rows.map il)]] h (fun v h' => v = .bool (decide t.valid) ∧ h' = h) := by
  obtain ⟨h1, h2, h3⟩ := Tb.fit hl
  have hf := fit_of_tot h2
  refine k146_of0 rfl orcG3_p fun I => ?_
  by_cases hr : btw t.cols 0 7 ∧ riseS t.cols
  · have hr' : allIn t.cols 8 ∧ riseS t.cols := ⟨fun a ha => by have := hr.1 a ha; omega, hr.2⟩
    by_cases h24 : t.rows.length ≤ 24
    · have h24' : ¬ (24 : Int) < t.rows.length := by omega
      refine Run2.of I 1000 ?_
      simp -implicitDefEqProofs [h1, hr, h24']
      refine Run2.loopE (fun (i : Nat) => [(0, .ip [.snap 1 (t.cols.map iv), .snap 1 (t.rows.map il)]), (3, .int .i64 i)]) (fun i => h) (fun i => t.rows.length - i) (fun i => i ≤ t.rows.length ∧ ∀ j (hj : j < t.rows.length), j < i → t.rowOk j hj) 0 (by simp) rfl ⟨Nat.zero_le _, fun _ _ h => absurd h (Nat.not_lt_zero _)⟩ fun i hi ih => ?_
      by_cases hlt : i < t.rows.length
      · have hrl := hf.2 _ (List.getElem_mem hlt)
        have go := fun (h1 : t.rowOk i hlt) => ih (i + 1) ⟨hlt, fun j hj hji => by
          rcases Nat.lt_or_ge j i with h | h
          · exact hi.2 j hj h
          · obtain rfl : j = i := by omega
            exact h1⟩ (by omega)
        have bad : ¬ t.rowOk i hlt → ¬ t.valid := fun h1 h2 => h1 (h2.2.2 i hlt)
        clear ih
        have inner : (∀ hA : allIn t.rows[i] 4, t.rowOk i hlt) → Run2 (k146_C (lk orcG3)) [.code k146_27, .inLoop k146_27, .inBlock 2, .inBlock 1, .code k146_33, .inLoop k146_35, .inBlock 0, .code k146_40] [(0, .ip [.snap 1 (t.cols.map iv), .snap 1 (t.rows.map il)]), (3, .int .i64 i), (4, .int .i64 0)] h (fun v h' => v = .bool (decide t.valid) ∧ h' = h) := by
          intro hA
          refine Run2.loopE (fun (j : Nat) => [(0, .ip [.snap 1 (t.cols.map iv), .snap 1 (t.rows.map il)]), (3, .int .i64 i), (4, .int .i64 j)]) (fun i => h) (fun j => t.rows[i].length - j) (fun j => j ≤ t.rows[i].length ∧ ∀ k (hk : k < t.rows[i].length), k < j → 0 ≤ t.rows[i][k] ∧ t.rows[i][k] < 4) 0 (by simp) rfl ⟨Nat.zero_le _, fun _ _ h => absurd h (Nat.not_lt_zero _)⟩ fun j hj ihj => ?_
          by_cases hlj : j < t.rows[i].length
          · by_cases hc : 0 ≤ t.rows[i][j] ∧ t.rows[i][j] ≤ 3
            · have go := ihj (j + 1) ⟨hlj, fun k hk hkj => by
                rcases Nat.lt_or_ge k j with h | h
                · exact hj.2 k hk h
                · obtain rfl : k = j := by omega
                  omega⟩ (by omega)
              clear ihj
              refine Run2.of I 1000 ?_
              simp -implicitDefEqProofs [hlt, hlj, hc.1, hc.2]
              exact ⟨by omega, by simpa using go⟩
            · have hv := bad fun h => hc (by have := h.2.1 _ (List.getElem_mem hlj); omega)
              clear ihj
              refine Run2.of I 1000 ?_
              simp -implicitDefEqProofs [hlt, hlj, hv]
              grind
          · have hA := hA fun a ha => by
              obtain ⟨k, hk, rfl⟩ := List.mem_iff_getElem.1 ha
              exact hj.2 k hk (by omega)
            have go := go hA
            clear ihj
            have hlj' : ¬ (j : Int) < t.rows[i].length := by omega
            refine Run2.of I 1000 ?_
            simp -implicitDefEqProofs [hlt, hlj, hlj']
            exact ⟨by omega, by simpa using go⟩
        by_cases q1 : t.rows[i].length = t.cols.length
        · cases i with
          | zero =>
            refine Run2.of I 1000 ?_
            simp -implicitDefEqProofs [hlt, q1, hrl, h1]
            exact inner fun hA => ⟨q1, hA, fun h => absurd h (by omega)⟩
          | succ i =>
            have hlt' : i < t.rows.length := by omega
            have hltI : (i : Int) + 1 < t.rows.length := by omega
            have hc : ((i : Int) + 1 - 1).toNat = i := by omega
            have hrl' := hf.2 _ (List.getElem_mem hlt')
            by_cases q3 : lexC t.rows[i] t.rows[i + 1] < 0
            · refine Run2.of I 1000 ?_
              simp -implicitDefEqProofs [hlt, hlt', hltI, hc, q1, q3, hrl, hrl', h1]
              exact ⟨by omega, by omega, by omega, by simpa using inner fun hA => ⟨q1, hA, fun _ => q3⟩⟩
            · have hv := bad fun h => q3 (h.2.2 (by omega))
              refine Run2.of I 1000 ?_
              simp -implicitDefEqProofs [hlt, hlt', hltI, hc, q1, q3, hrl, hrl', h1, hv]
              try omega
        · have hv := bad fun h => q1 h.1
          have q1' : ¬ (t.rows[i].length : Int) = t.cols.length := by omega
          refine Run2.of I 1000 ?_
          simp -implicitDefEqProofs [hlt, q1, q1', hrl, h1, hv]
      · have hv : t.valid := ⟨hr', h24, fun j hj => hi.2 j hj (by omega)⟩
        have hlt' : ¬ (i : Int) < t.rows.length := by omega
        refine Run2.of I 1000 ?_
        simp -implicitDefEqProofs [hlt, hlt', hv]
    · have h24' : (24 : Int) < t.rows.length := by omega
      have hv : ¬ t.valid := fun h => h24 h.2.1
      refine Run2.of I 1000 ?_
      simp -implicitDefEqProofs [h1, hr, h24', hv]
  · have hv : ¬ t.valid := fun h => hr ⟨fun a ha => by have := h.1.1 a ha; omega, h.1.2⟩
    refine Run2.of I 1000 ?_
    simp -implicitDefEqProofs [h1, hr, hv]
noncomputable def o_l20Ok : List AV → Option (Prop × AV) := tab (fun (x : List Int × LS) => match x with | (c, r) => [.ip [.snap 1 (c.map iv), .snap 1 (r.map il)]]) (fun x => match x with | (c, r) => Tb.tot ⟨c, r⟩ ≤ 1048576) (fun x => match x with | (c, r) => .bool (decide (Tb.valid ⟨c, r⟩)))
@[simp] theorem o_l20Ok_e (c : List Int) (r : LS) : o_l20Ok [.ip [.snap 1 (c.map iv), .snap 1 (r.map il)]] = some (Tb.tot ⟨c, r⟩ ≤ 1048576, .bool (decide (Tb.valid ⟨c, r⟩))) := tab_at (enc := fun (x : List Int × LS) => match x with | (c, r) => [.ip [.snap 1 (c.map iv), .snap 1 (r.map il)]]) (fun x y h => by
  obtain ⟨c1, r1⟩ := x; obtain ⟨c2, r2⟩ := y; simp at h; simp [h] <;> omega) _ _ (c, r)
theorem o_l20Ok_k : Knows Try.prog 146 o_l20Ok := tab_knows fun x hx h => by
  obtain ⟨c, r⟩ := x; exact l20Ok_s ⟨c, r⟩ h hx
noncomputable def orcG4 : List (Nat × (List AV → Option (Prop × AV))) := (146, o_l20Ok) :: []
theorem orcG4_p : Pure Try.prog (lk orcG4) := (lk_pure o_l20Ok_k lk_pure0)
@[simp] theorem orcG4_l (b : Bool) (g : FuncId) (l : List AV) : lk orcG4 b g l = if g = 146 then o_l20Ok l else none := nr rfl
abbrev k111_o0 : List AJ := [.o ⟨(some 2), none, false, .mv (.c (.bool false)), (some [0])⟩]
abbrev k111_o1 : List AJ := [.o ⟨(some 3), none, false, .mv (.c (.int .i64 0)), (some [0, 3])⟩]
abbrev k111_o2 : List AJ := [.o ⟨(some 4), none, false, .mv (.t 3), none⟩, .o ⟨(some 5), none, false, .mv (.t 0), none⟩, .o ⟨(some 6), none, false, .len (.t 5), none⟩, .o ⟨(some 7), none, false, .bin .lss (.t 4) (.t 6), (some [0, 3, 7])⟩]
def k111_3 : ACode := .cond (.t 7) .skip (.exit 0)
def k111_4 : ACode := .seq (.region k111_o2) k111_3
abbrev k111_o3 : List AJ := [.o ⟨(some 10), none, false, .mv (.t 0), none⟩, .o ⟨(some 11), none, false, .mv (.t 3), none⟩, .o ⟨(some 12), none, false, .idxA 2 (.t 10) (.t 11), none⟩, .o ⟨(some 13), none, false, .call 146 [(.t 12)], none⟩, .o ⟨(some 14), none, false, .un .not (.t 13), (some [0, 3, 14])⟩]
abbrev k111_o4 : List AJ := [.o ⟨(some 2), none, false, .mv (.c (.bool false)), (some [2])⟩]
def k111_7 : ACode := .seq (.region k111_o4) .ret
def k111_8 : ACode := .cond (.t 14) k111_7 .skip
def k111_9 : ACode := .seq (.region k111_o3) k111_8
abbrev k111_o5 : List AJ := [.o ⟨(some 8), none, false, .mv (.t 3), none⟩, .o ⟨(some 9), none, true, .bin .add (.t 8) (.c (.int .i64 1)), none⟩, .o ⟨(some 3), none, false, .mv (.t 9), (some [0, 3])⟩]
def k111_11 : ACode := .region k111_o5
def k111_12 : ACode := .seq (.block 1 k111_9) k111_11
def k111_13 : ACode := .seq k111_4 k111_12
def k111_14 : ACode := .loop k111_13
def k111_15 : ACode := .block 0 k111_14
def k111_16 : ACode := .seq (.region k111_o1) k111_15
abbrev k111_o6 : List AJ := [.o ⟨(some 15), none, false, .mv (.t 0), none⟩, .o ⟨(some 16), none, false, .len (.t 15), none⟩, .o ⟨(some 17), none, false, .bin .leq (.t 16) (.c (.int .i64 6)), none⟩, .o ⟨(some 2), none, false, .mv (.t 17), (some [2])⟩]
def k111_18 : ACode := .seq (.region k111_o6) .ret
def k111_19 : ACode := .seq k111_16 k111_18
def k111_20 : ACode := .seq (.region k111_o0) k111_19
@[simp, simp ↓] theorem k111_3r : rC k111_3 (.t 7) .skip (.exit 0) := zC rfl
@[simp, simp ↓] theorem k111_4r : sR k111_4 k111_o2 k111_3 := yR rfl
@[simp, simp ↓] theorem k111_7r : sR k111_7 k111_o4 .ret := yR rfl
@[simp, simp ↓] theorem k111_8r : rC k111_8 (.t 14) k111_7 .skip := zC rfl
@[simp, simp ↓] theorem k111_9r : sR k111_9 k111_o3 k111_8 := yR rfl
@[simp, simp ↓] theorem k111_11r : rR k111_11 k111_o5 := zR rfl
@[simp, simp ↓] theorem k111_12r : sB k111_12 1 k111_9 k111_11 := yB rfl
@[simp, simp ↓] theorem k111_13r : rS k111_13 k111_4 k111_12 := zS rfl
@[simp, simp ↓] theorem k111_14r : rL k111_14 k111_13 := zL rfl
@[simp, simp ↓] theorem k111_15r : rB k111_15 0 k111_14 := zB rfl
@[simp, simp ↓] theorem k111_16r : sR k111_16 k111_o1 k111_15 := yR rfl
@[simp, simp ↓] theorem k111_18r : sR k111_18 k111_o6 .ret := yR rfl
@[simp, simp ↓] theorem k111_19r : rS k111_19 k111_16 k111_18 := zS rfl
@[simp, simp ↓] theorem k111_20r : sR k111_20 k111_o0 k111_19 := yR rfl
noncomputable abbrev k111_C : Orc → Cx := mkC Try.prog [] 111 18 [.tmp 2]
theorem k111_of0 : OfP0 Try.prog Try.f111 111 18 k111_C k111_20 := @ofP0 _ _ _ _ _ _ _ _ Try.func111 (by decide +kernel) rfl (by kernel_rfl) rfl (by kernel_rfl)
theorem l20List_s (ts : List Tb) (h : Heap) (hl : tbsTot ts ≤ 1048576) : ACalls Try.prog 111 [.snap 2 (ts.map Tb.av)] h (fun v h' => v = .bool (decide (tbsOk ts)) ∧ h' = h) := by
  have hlen := tbs_len hl
  refine k111_of0 rfl orcG4_p fun I => ?_
  refine Run2.of I 1000 ?_
  simp -implicitDefEqProofs
  refine Run2.loopE (fun (i : Nat) => [(0, .snap 2 (ts.map Tb.av)), (3, .int .i64 i)]) (fun i => h) (fun i => ts.length - i) (fun i => i ≤ ts.length ∧ ∀ j (hj : j < ts.length), j < i → ts[j].valid) 0 (by simp) rfl ⟨Nat.zero_le _, fun _ _ h => absurd h (Nat.not_lt_zero _)⟩ fun i hi ih => ?_
  by_cases hlt : i < ts.length
  · have htl : Tb.tot ⟨ts[i].cols, ts[i].rows⟩ ≤ 1048576 := tbs_mem' (List.getElem_mem hlt) hl
    by_cases hv : ts[i].valid
    · have go := ih (i + 1) ⟨hlt, fun j hj hji => by
        rcases Nat.lt_or_ge j i with h | h
        · exact hi.2 j hj h
        · obtain rfl : j = i := by omega
          exact hv⟩ (by omega)
      clear ih
      have hv' : Tb.valid ⟨ts[i].cols, ts[i].rows⟩ := hv
      refine Run2.of I 1000 ?_
      simp -implicitDefEqProofs [hlt, htl, hv']
      exact ⟨by omega, by simpa using go⟩
    · have hv' : ¬ Tb.valid ⟨ts[i].cols, ts[i].rows⟩ := hv
      have hno : ¬ tbsOk ts := fun h => hv (h.2 _ (List.getElem_mem hlt))
      clear ih
      refine Run2.of I 1000 ?_
      simp -implicitDefEqProofs [hlt, htl, hv', hno]
  · have hlt' : ¬ (i : Int) < ts.length := by omega
    have hall : ∀ t ∈ ts, t.valid := fun t ht => by
      obtain ⟨j, hj, rfl⟩ := List.mem_iff_getElem.1 ht
      exact hi.2 j hj (by omega)
    clear ih
    refine Run2.of I 1000 ?_
    simp -implicitDefEqProofs [hlt, hlt']
    exact ⟨fun h => ⟨by omega, hall⟩, fun h => by have := h.1; omega⟩
/-- All columns. -/
def colsOf (ts : List Tb) : List Int := critL (ts.flatMap Tb.cols)
theorem cols_len {ts : List Tb} : (ts.flatMap Tb.cols).length ≤ tbsTot ts := by
  unfold tbsTot
  induction ts with
  | nil => simp
  | cons t ts ih =>
    rw [List.flatMap_cons, List.length_append, List.map_cons, List.sum_cons, List.length_cons]
    have : t.cols.length ≤ t.tot := by unfold Tb.tot; omega
    omega
noncomputable def orcG5 : List (Nat × (List AV → Option (Prop × AV))) := (147, o_l00Put) :: (47, o_l00Own) :: []
theorem orcG5_p : Pure Try.prog (lk orcG5) := (lk_pure o_l00Put_k (lk_pure o_l00Own_k lk_pure0))
@[simp] theorem orcG5_l (b : Bool) (g : FuncId) (l : List AV) : lk orcG5 b g l = if g = 147 then o_l00Put l else if g = 47 then o_l00Own l else none := nr rfl
abbrev k112_o0 : List AJ := [.o ⟨(some 4), none, false, .mv (.c .nilsl), (some [0, 1])⟩]
abbrev k112_o1 : List AJ := [.o ⟨(some 7), none, false, .mv (.t 0), none⟩, .o ⟨(some 8), none, false, .call 47 [(.t 7)], none⟩, .o ⟨(some 5), none, false, .mv (.t 8), (some [1, 5])⟩]
abbrev k112_o2 : List AJ := [.o ⟨(some 6), none, false, .mv (.c (.int .i64 0)), (some [1, 5, 6])⟩]
abbrev k112_o3 : List AJ := [.o ⟨(some 9), none, false, .mv (.t 6), none⟩, .o ⟨(some 10), none, false, .mv (.t 1), none⟩, .o ⟨(some 11), none, false, .len (.t 10), none⟩, .o ⟨(some 12), none, false, .bin .lss (.t 9) (.t 11), (some [1, 5, 6, 12])⟩]
def k112_4 : ACode := .cond (.t 12) .skip (.exit 0)
def k112_5 : ACode := .seq (.region k112_o3) k112_4
abbrev k112_o4 : List AJ := [.o ⟨(some 15), none, false, .mv (.t 5), none⟩, .o ⟨(some 16), none, false, .mv (.t 1), none⟩, .o ⟨(some 17), none, false, .mv (.t 6), none⟩, .o ⟨(some 18), none, false, .idxA 1 (.t 16) (.t 17), none⟩, .o ⟨(some 19), none, false, .load 1 false (.t 18), none⟩, .o ⟨(some 20), none, false, .call 147 [(.t 15), (.t 19)], none⟩, .o ⟨(some 5), none, false, .mv (.t 20), (some [1, 5, 6])⟩]
def k112_6 : ACode := .region k112_o4
abbrev k112_o5 : List AJ := [.o ⟨(some 13), none, false, .mv (.t 6), none⟩, .o ⟨(some 14), none, true, .bin .add (.t 13) (.c (.int .i64 1)), none⟩, .o ⟨(some 6), none, false, .mv (.t 14), (some [1, 5, 6])⟩]
def k112_8 : ACode := .region k112_o5
def k112_9 : ACode := .seq (.block 1 k112_6) k112_8
def k112_10 : ACode := .seq k112_5 k112_9
def k112_11 : ACode := .loop k112_10
def k112_12 : ACode := .block 0 k112_11
def k112_13 : ACode := .seq (.region k112_o2) k112_12
abbrev k112_o6 : List AJ := [.o ⟨(some 21), none, false, .mv (.t 5), none⟩, .o ⟨(some 4), none, false, .mv (.t 21), (some [4])⟩]
def k112_15 : ACode := .seq (.region k112_o6) .ret
def k112_16 : ACode := .seq k112_13 k112_15
def k112_17 : ACode := .seq (.region k112_o1) k112_16
def k112_18 : ACode := .seq (.region k112_o0) k112_17
@[simp, simp ↓] theorem k112_4r : rC k112_4 (.t 12) .skip (.exit 0) := zC rfl
@[simp, simp ↓] theorem k112_5r : sR k112_5 k112_o3 k112_4 := yR rfl
@[simp, simp ↓] theorem k112_6r : rR k112_6 k112_o4 := zR rfl
@[simp, simp ↓] theorem k112_8r : rR k112_8 k112_o5 := zR rfl
@[simp, simp ↓] theorem k112_9r : sB k112_9 1 k112_6 k112_8 := yB rfl
@[simp, simp ↓] theorem k112_10r : rS k112_10 k112_5 k112_9 := zS rfl
@[simp, simp ↓] theorem k112_11r : rL k112_11 k112_10 := zL rfl
@[simp, simp ↓] theorem k112_12r : rB k112_12 0 k112_11 := zB rfl
@[simp, simp ↓] theorem k112_13r : sR k112_13 k112_o2 k112_12 := yR rfl
@[simp, simp ↓] theorem k112_15r : sR k112_15 k112_o6 .ret := yR rfl
@[simp, simp ↓] theorem k112_16r : rS k112_16 k112_13 k112_15 := zS rfl
@[simp, simp ↓] theorem k112_17r : sR k112_17 k112_o1 k112_16 := yR rfl
@[simp, simp ↓] theorem k112_18r : sR k112_18 k112_o0 k112_17 := yR rfl
noncomputable abbrev k112_C : Orc → Cx := mkC Try.prog [] 112 22 [.tmp 4]
theorem k112_of0 : OfP0 Try.prog Try.f112 112 22 k112_C k112_18 := @ofP0 _ _ _ _ _ _ _ _ Try.func112 (by decide +kernel) rfl (by kernel_rfl) rfl (by kernel_rfl)
theorem l20Columns_s (a b : List Int) {u : AV} (hu : u = .snap 1 (a.map iv)) (h : Heap) (hl : a.length + b.length ≤ 1048576) : ACalls Try.prog 112 [u, .snap 1 (b.map iv)] h (fun v h' => v = .snap 1 ((b.foldl (fun o x => insI x o) a).map iv) ∧ h' = h) := by
  subst hu
  refine k112_of0 rfl orcG5_p fun I => ?_
  have hb : ∀ i, ((b.take i).foldl (fun o x => insI x o) a).length ≤ a.length + i := fun i => by
    induction i with
    | zero => simp
    | succ i ih =>
      by_cases hlt : i < b.length
      · rw [List.take_succ_eq_append_getElem hlt, List.foldl_append]
        have := insI_len b[i] ((b.take i).foldl (fun o x => insI x o) a)
        simp only [List.foldl_cons, List.foldl_nil]
        omega
      · rw [List.take_of_length_le (by omega)] at ih ⊢
        omega
  refine Run2.of I 1000 ?_
  simp -implicitDefEqProofs [show a.length ≤ 1048576 by omega]
  refine Run2.loopE (fun (i : Nat) => [(1, .snap 1 (b.map iv)), (5, .snap 1 (((b.take i).foldl (fun o x => insI x o) a).map iv)), (6, .int .i64 i)]) (fun i => h) (fun i => b.length - i) (fun i => i ≤ b.length) 0 (by simp) (by simp) (Nat.zero_le _) fun i hi ih => ?_
  replace hi : i ≤ b.length := hi
  have hbi := hb i
  by_cases hlt : i < b.length
  · have hs : (b.take (i + 1)).foldl (fun o x => insI x o) a = insI b[i] ((b.take i).foldl (fun o x => insI x o) a) := by
      rw [List.take_succ_eq_append_getElem hlt, List.foldl_append]; rfl
    have go := ih (i + 1) (by show _ ≤ _; omega) (by omega)
    rw [hs] at go
    clear ih hs
    generalize (b.take i).foldl (fun o x => insI x o) a = o at *
    refine Run2.of I 1000 ?_
    simp -implicitDefEqProofs [hlt, show o.length ≤ 1048576 by omega]
    exact ⟨by omega, by simpa using go⟩
  · obtain rfl : i = b.length := by omega
    clear ih
    refine Run2.of I 1000 ?_
    simp -implicitDefEqProofs
end Go.AG
namespace Go.AG
open Go.Proofs Go.Proofs.Ytebkdegjiollbaa
set_option linter.unusedSimpArgs false
set_option linter.unusedVariables false
set_option maxRecDepth 4000
theorem Grow.app_midE {sz : Nat} {w : AV} {l new : List AV} {hp pre post : Heap} {C : Cx} {n : Nat} {d : Option Nat} {ks : Option (List Nat)} {is : List AJ} {sk : List AItem} {R : AV → Heap → Prop} {e : Env} {bytes : Nat} (g : Grow sz w l hp) (hd : ∀ i ∈ dom hp, i ∉ dom pre) (hb : (2 * (l.length + new.length)) * bytes ≤ 281474976710656)
    (k : ∀ w' hp', Grow sz w' (l ++ new) hp' → vc2 C n is sk (kp (put e d w') ks) (hp' ++ (pre ++ post)) R) : resK C n d ks is sk R e (pre ++ (hp ++ post)) (appR (pre ++ (hp ++ post)) sz bytes w new) := by
  cases g with
  | nil =>
    simp only [appR_n, List.nil_append]
    refine ⟨fun he => ?_, fun _ => ⟨by simpa using hb, fun id _ => ?_⟩⟩
    · have : new = [] := by cases new <;> simp_all
      subst this
      exact k _ _ .nil
    · have := k _ _ (.sl id new new.length rfl)
      simpa using this
  | emp =>
    simp only [appR_e, List.nil_append]
    refine ⟨fun he => ?_, fun _ => ⟨by simpa using hb, fun id _ => ?_⟩⟩
    · have : new = [] := by cases new <;> simp_all
      subst this
      exact k _ _ .emp
    · have := k _ _ (.sl id new new.length rfl)
      simpa using this
  | sl id l m hm =>
    subst hm
    have hi : id ∉ dom pre := hd id (by simp [dom])
    have hd : hdel (pre ++ ([(id, ⟨sz, l⟩)] ++ post)) id = pre ++ post := by rw [hdel_app hi]; simp [hdel]
    have hg : hget (pre ++ ([(id, ⟨sz, l⟩)] ++ post)) id = some ⟨sz, l⟩ := by rw [hget_app hi]; simp [hget]
    rw [appR_ln, hg, hd]
    refine ⟨rfl, ⟨sz, l⟩, rfl, rfl, by simp, rfl, hb, fun id' _ => ?_⟩
    have := k _ _ (.sl id' (l ++ new) (l.length + new.length) (by simp))
    simpa using this
abbrev k115_o0 : List AJ := [.o ⟨(some 2), none, false, .mv (.c .nilsl), (some [0])⟩]
abbrev k115_o1 : List AJ := [.o ⟨(some 3), none, false, .mv (.c .nilsl), (some [0, 3])⟩]
abbrev k115_o2 : List AJ := [.o ⟨(some 6), none, false, .mv (.t 0), none⟩, .o ⟨(some 7), none, false, .len (.t 6), none⟩, .o ⟨(some 8), none, false, .mv (.c (.int .i64 0)), (some [3, 6, 7, 8])⟩]
abbrev k115_o3 : List AJ := [.o ⟨(some 9), none, false, .bin .lss (.t 8) (.t 7), (some [3, 6, 7, 8, 9])⟩]
abbrev k115_o4 : List AJ := [.o ⟨(some 10), none, false, .idxA 2 (.t 6) (.t 8), none⟩, .o ⟨(some 11), none, false, .load 2 true (.t 10), none⟩, .o ⟨(some 5), none, false, .alloc true 2 (.agg [.nilsl, .nilsl]), none⟩, .o ⟨none, none, false, .store 2 (.t 5) (.t 11), (some [3, 5, 6, 7, 8])⟩]
abbrev k115_o5 : List AJ := [.o ⟨(some 12), none, false, .mv (.t 3), none⟩, .o ⟨(some 13), none, false, .fieldA 0 (.t 5), none⟩, .o ⟨(some 14), none, false, .load 1 false (.t 13), none⟩, .o ⟨(some 15), none, false, .append 1 8 (.t 12) (.t 14), none⟩, .o ⟨(some 3), none, false, .mv (.t 15), (some [3, 6, 7, 8])⟩]
def k115_6 : ACode := .region k115_o5
def k115_7 : ACode := .seq (.region k115_o4) k115_6
abbrev k115_o6 : List AJ := [.o ⟨(some 16), none, true, .bin .add (.t 8) (.c (.int .i64 1)), none⟩, .o ⟨(some 8), none, false, .mv (.t 16), (some [3, 6, 7, 8])⟩]
def k115_9 : ACode := .region k115_o6
def k115_10 : ACode := .seq (.block 1 k115_7) k115_9
def k115_11 : ACode := .seq (.cond (.t 9) .skip (.exit 0)) k115_10
def k115_12 : ACode := .seq (.region k115_o3) k115_11
def k115_13 : ACode := .loop k115_12
def k115_14 : ACode := .block 0 k115_13
def k115_15 : ACode := .seq (.region k115_o2) k115_14
abbrev k115_o7 : List AJ := [.o ⟨(some 17), none, false, .mv (.t 3), none⟩, .o ⟨(some 18), none, false, .call 152 [(.t 17)], (some [3])⟩]
abbrev k115_o8 : List AJ := [.o ⟨(some 19), none, false, .mv (.t 3), none⟩, .o ⟨(some 20), none, false, .call 153 [(.t 19)], none⟩, .o ⟨(some 2), none, false, .mv (.t 20), (some [2])⟩]
def k115_18 : ACode := .seq (.region k115_o8) .ret
def k115_19 : ACode := .seq (.region k115_o7) k115_18
def k115_20 : ACode := .seq k115_15 k115_19
def k115_21 : ACode := .seq (.region k115_o1) k115_20
def k115_22 : ACode := .seq (.region k115_o0) k115_21
@[simp, simp ↓] theorem k115_6r : rR k115_6 k115_o5 := zR rfl
@[simp, simp ↓] theorem k115_7r : sR k115_7 k115_o4 k115_6 := yR rfl
@[simp, simp ↓] theorem k115_9r : rR k115_9 k115_o6 := zR rfl
@[simp, simp ↓] theorem k115_10r : sB k115_10 1 k115_7 k115_9 := yB rfl
@[simp, simp ↓] theorem k115_11r : sC k115_11 (.t 9) .skip (.exit 0) k115_10 := yC rfl
@[simp, simp ↓] theorem k115_12r : sR k115_12 k115_o3 k115_11 := yR rfl
@[simp, simp ↓] theorem k115_13r : rL k115_13 k115_12 := zL rfl
@[simp, simp ↓] theorem k115_14r : rB k115_14 0 k115_13 := zB rfl
@[simp, simp ↓] theorem k115_15r : sR k115_15 k115_o2 k115_14 := yR rfl
@[simp, simp ↓] theorem k115_18r : sR k115_18 k115_o8 .ret := yR rfl
@[simp, simp ↓] theorem k115_19r : sR k115_19 k115_o7 k115_18 := yR rfl
@[simp, simp ↓] theorem k115_20r : rS k115_20 k115_15 k115_19 := zS rfl
@[simp, simp ↓] theorem k115_21r : sR k115_21 k115_o1 k115_20 := yR rfl
@[simp, simp ↓] theorem k115_22r : sR k115_22 k115_o0 k115_21 := yR rfl
noncomputable abbrev k115_C : Orc → Cx := mkC Try.prog [5] 115 21 [.tmp 2]
theorem k115_of : OfP Try.prog Try.f115 115 21 k115_C k115_22 := @ofP _ _ _ _ _ _ _ _ Try.func115 (by decide +kernel) rfl (by kernel_rfl) rfl (by kernel_rfl)
theorem allCols_o (ts : List Tb) (h : Heap) (hl : tbsTot ts ≤ 1048576) : ACalls Try.prog 115 [.snap 2 (ts.map Tb.av)] h (fun v h' => ∃ g, OwnL iv 1 v (colsOf ts) g ∧ h' = g ++ h) := by
  have hlen := tbs_len hl
  have hcl := cols_len (ts := ts)
  refine k115_of rfl noPure fun I => ?_
  refine Run2.of I 1000 ?_
  simp -implicitDefEqProofs
  refine Run2.loopE (α := Nat × AV × Heap) (fun p => [(3, p.2.1), (6, .snap 2 (ts.map Tb.av)), (7, .int .i64 ts.length), (8, .int .i64 (p.1 : Nat))]) (fun p => p.2.2 ++ h) (fun p => ts.length - p.1) (fun p => p.1 ≤ ts.length ∧ Grow 1 p.2.1 (((ts.take p.1).flatMap Tb.cols).map iv) p.2.2) (0, .nilsl, []) (by simp) rfl ⟨Nat.zero_le _, by simpa using Grow.nil⟩ ?_
  rintro ⟨i, w, hp⟩ ⟨hi, hg⟩ ih
  replace hi : i ≤ ts.length := hi
  simp only at hg ih ⊢
  have hcell := hg.cell
  have hub : ((ts.take i).flatMap Tb.cols).length ≤ (ts.flatMap Tb.cols).length := by
    conv => rhs; rw [← List.take_append_drop i ts, List.flatMap_append, List.length_append]
    omega
  by_cases hlt : i < ts.length
  · have hst : (ts.take (i + 1)).flatMap Tb.cols = (ts.take i).flatMap Tb.cols ++ ts[i].cols := by
      rw [List.take_succ_eq_append_getElem hlt, List.flatMap_append]; simp
    have hti := Tb.fit (tbs_mem' (List.getElem_mem hlt) hl)
    have go := fun w' hp' (g' : Grow 1 w' (((ts.take i).flatMap Tb.cols).map iv ++ ts[i].cols.map iv) hp') => ih (i + 1, w', hp') ⟨hlt, by
      simp only
      rw [hst, List.map_append]
      exact g'⟩ (by simp only; omega)
    clear ih hst
    simp only at go
    refine Run2.of I 1000 ?_
    simp -implicitDefEqProofs [hlt, hcell]
    intro id n1 n2
    refine gK.go ?_
    simp -implicitDefEqProofs [hlt, hcell, n1]
    refine hg.app_midE (pre := [(id, _)]) (fun j hj hm => ?_) (by rw [List.length_map, List.length_map]; omega) fun w' hp' hg' => ?_
    · simp only [dom, List.map_cons, List.map_nil, List.mem_singleton] at hm
      subst hm
      exact n1 hj
    · have hc' := hg'.cell
      simp -implicitDefEqProofs [hc']
      refine ⟨by omega, ?_⟩
      refine Run2.sub (h' := hp' ++ h) (fun p hp => ?_) (fun nd2 => ?_) (by simpa using go w' hp' hg')
      · simp only [List.mem_cons, List.mem_append] at hp ⊢
        rcases hp with hp | hp
        · exact .inl hp
        · exact .inr (.inr hp)
      · simp only [dom_append, dom_cons, List.nodup_cons, List.nodup_append, List.mem_append, List.mem_cons, not_or] at nd2 ⊢
        exact ⟨nd2.1, nd2.2.1.2, fun a ha b hb => nd2.2.2 a ha b (.inr hb)⟩
  · obtain rfl : i = ts.length := by omega
    rw [List.take_length] at hg
    obtain ⟨l, hL⟩ : ∃ l, l = ts.flatMap Tb.cols := ⟨_, rfl⟩
    have hll : l.length ≤ 1048576 := by rw [hL]; omega
    have hco : colsOf ts = critL l := by rw [hL]; rfl
    rw [← hL] at hg
    rw [hco]
    clear hL ih hub hcl hco
    have hst := stor_of hcell
    have hcl := cells_of hcell
    refine Run2.of I 1000 ?_
    simp -implicitDefEqProofs [hlt, hcell, hst, hcl]
    refine (sortG hg h (by omega)).mono ?_
    rintro r h' ⟨rfl, hp', G', hd, rfl⟩
    refine gK.go ?_
    simp -implicitDefEqProofs [hcell, hst, hcl]
    have hsl := sorted_len l
    generalize hS : sorted l = S at *
    have hcr : critL l = cu S S.length := by unfold critL; rw [hS]
    rw [hcr]
    have hG : ACalls Try.prog 153 [w] (hp' ++ h) (fun v h' => ∃ g, OwnL iv 1 v (cu S S.length) g ∧ h' = g ++ h) := by
      generalize hm : S.map iv = m at G'
      cases G' with
      | nil =>
        rw [List.map_eq_nil_iff] at hm
        subst hm
        exact (comp0_s (.inl rfl) _).mono fun r h' ⟨e1, e2⟩ => ⟨[], by rw [e1]; exact .nil, by simpa using e2⟩
      | emp =>
        rw [List.map_eq_nil_iff] at hm
        subst hm
        exact (comp0_s (.inr rfl) _).mono fun r h' ⟨e1, e2⟩ => ⟨[], by rw [e1]; exact .emp, by simpa using e2⟩
      | sl id m n hn =>
        subst hm
        simp only [List.length_map] at hn
        subst hn
        exact (compI_s (by omega)).mono fun r h' ⟨ex, e1, e2, e3⟩ => ⟨[(id, ⟨1, (cu S S.length).map iv ++ ex⟩)], by rw [e1]; exact .sl id none ex e2, by simpa using e3⟩
    refine hG.mono ?_
    rintro r h' ⟨g, o, rfl⟩
    have hcell2 := o.cell
    refine gK.go ?_
    simp -implicitDefEqProofs [hcell2]
    exact .base ⟨g, o, rfl⟩
end Go.AG
namespace Go.AG
open Go.Proofs Go.Proofs.Ytebkdegjiollbaa
set_option linter.unusedSimpArgs false
set_option linter.unusedVariables false
set_option maxRecDepth 4000
theorem idxf_cases (q : Int → Bool) (l : List Int) : (idxf q l = -1 ∧ l.filter (fun x => !q x) = l) ∨ ∃ (i : Nat) (hi : i < l.length), idxf q l = i ∧ q l[i] = true ∧ (l.take (i + 1)).filter (fun x => !q x) = l.take i := by
  unfold idxf
  cases h : l.findIdx? q with
  | none =>
    rw [List.findIdx?_eq_none_iff] at h
    exact .inl ⟨rfl, List.filter_eq_self.2 fun a ha => by simp [h a ha]⟩
  | some i =>
    obtain ⟨hi, hq, hb⟩ := List.findIdx?_eq_some_iff_getElem.1 h
    refine .inr ⟨i, hi, rfl, hq, ?_⟩
    rw [List.take_succ_eq_append_getElem hi, List.filter_append]
    have : (l.take i).filter (fun x => !q x) = l.take i := List.filter_eq_self.2 fun a ha => by
      obtain ⟨j, hj, rfl⟩ := List.mem_iff_getElem.1 ha
      simp only [List.length_take] at hj
      simp only [List.getElem_take]
      simpa using hb j (by omega)
    rw [this]
    simp [hq]
abbrev k199_o0 : List AJ := [.o ⟨(some 4), none, false, .mv (.c .nilsl), (some [0, 1])⟩]
abbrev k199_o1 : List AJ := [.o ⟨(some 8), none, false, .mv (.t 0), none⟩, .o ⟨(some 9), none, false, .mv (.t 1), none⟩, .o ⟨(some 10), none, false, .call 159 [(.t 8), (.t 9)], none⟩, .o ⟨(some 5), none, false, .mv (.t 10), (some [0, 1, 5])⟩]
abbrev k199_o2 : List AJ := [.o ⟨(some 11), none, false, .mv (.t 5), none⟩, .o ⟨(some 12), none, false, .bin .eql (.t 11) (.c (.int .i64 (-1))), (some [0, 1, 5, 12])⟩]
abbrev k199_o3 : List AJ := [.o ⟨(some 13), none, false, .mv (.t 0), none⟩, .o ⟨(some 4), none, false, .mv (.t 13), (some [4])⟩]
def k199_4 : ACode := .seq (.region k199_o3) .ret
def k199_5 : ACode := .cond (.t 12) k199_4 .skip
def k199_6 : ACode := .seq (.region k199_o2) k199_5
abbrev k199_o4 : List AJ := [.o ⟨(some 14), none, false, .mv (.t 5), none⟩, .o ⟨(some 15), none, true, .bin .add (.t 14) (.c (.int .i64 1)), none⟩, .o ⟨(some 6), none, false, .mv (.t 15), (some [0, 1, 5, 6])⟩]
abbrev k199_o5 : List AJ := [.o ⟨(some 16), none, false, .mv (.t 6), none⟩, .o ⟨(some 17), none, false, .mv (.t 0), none⟩, .o ⟨(some 18), none, false, .len (.t 17), none⟩, .o ⟨(some 19), none, false, .bin .lss (.t 16) (.t 18), (some [0, 1, 5, 6, 19])⟩]
def k199_9 : ACode := .cond (.t 19) .skip (.exit 0)
def k199_10 : ACode := .seq (.region k199_o5) k199_9
abbrev k199_o6 : List AJ := [.o ⟨(some 22), none, false, .mv (.t 0), none⟩, .o ⟨(some 23), none, false, .mv (.t 6), none⟩, .o ⟨(some 24), none, false, .idxA 1 (.t 22) (.t 23), none⟩, .o ⟨(some 25), none, false, .load 1 false (.t 24), none⟩, .o ⟨(some 7), none, false, .mv (.t 25), (some [0, 1, 5, 6, 7])⟩]
abbrev k199_o7 : List AJ := [.o ⟨(some 26), none, false, .mv (.t 1), none⟩, .o ⟨(some 27), none, false, .mv (.t 7), none⟩, .o ⟨(some 28), none, false, .callv (.t 26) [(.t 27)], none⟩, .o ⟨(some 29), none, false, .un .not (.t 28), (some [0, 1, 5, 6, 7, 29])⟩]
abbrev k199_o8 : List AJ := [.o ⟨(some 30), none, false, .mv (.t 0), none⟩, .o ⟨(some 31), none, false, .mv (.t 5), none⟩, .o ⟨(some 32), none, false, .mv (.t 7), none⟩, .o ⟨(some 33), none, false, .idxA 1 (.t 30) (.t 31), none⟩, .o ⟨none, none, false, .store 1 (.t 33) (.t 32), (some [0, 1, 5, 6])⟩]
abbrev k199_o9 : List AJ := [.o ⟨(some 34), none, false, .mv (.t 5), none⟩, .o ⟨(some 35), none, true, .bin .add (.t 34) (.c (.int .i64 1)), none⟩, .o ⟨(some 5), none, false, .mv (.t 35), (some [0, 1, 5, 6])⟩]
def k199_14 : ACode := .region k199_o9
def k199_15 : ACode := .seq (.region k199_o8) k199_14
def k199_16 : ACode := .cond (.t 29) k199_15 .skip
def k199_17 : ACode := .seq (.region k199_o7) k199_16
def k199_18 : ACode := .seq (.region k199_o6) k199_17
abbrev k199_o10 : List AJ := [.o ⟨(some 20), none, false, .mv (.t 6), none⟩, .o ⟨(some 21), none, true, .bin .add (.t 20) (.c (.int .i64 1)), none⟩, .o ⟨(some 6), none, false, .mv (.t 21), (some [0, 1, 5, 6])⟩]
def k199_20 : ACode := .region k199_o10
def k199_21 : ACode := .seq (.block 1 k199_18) k199_20
def k199_22 : ACode := .seq k199_10 k199_21
def k199_23 : ACode := .loop k199_22
def k199_24 : ACode := .block 0 k199_23
def k199_25 : ACode := .seq (.region k199_o4) k199_24
abbrev k199_o11 : List AJ := [.o ⟨(some 36), none, false, .mv (.t 0), none⟩, .o ⟨(some 37), none, false, .mv (.t 5), none⟩, .o ⟨(some 38), none, false, .slice 1 (.t 36) (some (.t 37)) none none, none⟩, .o ⟨none, none, false, .clear 1 (.int .i64 0) (.t 38), (some [0, 5])⟩]
abbrev k199_o12 : List AJ := [.o ⟨(some 39), none, false, .mv (.t 0), none⟩, .o ⟨(some 40), none, false, .mv (.t 5), none⟩, .o ⟨(some 41), none, false, .slice 1 (.t 39) none (some (.t 40)) none, none⟩, .o ⟨(some 4), none, false, .mv (.t 41), (some [4])⟩]
def k199_28 : ACode := .seq (.region k199_o12) .ret
def k199_29 : ACode := .seq (.region k199_o11) k199_28
def k199_30 : ACode := .seq k199_25 k199_29
def k199_31 : ACode := .seq k199_6 k199_30
def k199_32 : ACode := .seq (.region k199_o1) k199_31
def k199_33 : ACode := .seq (.region k199_o0) k199_32
@[simp, simp ↓] theorem k199_4r : sR k199_4 k199_o3 .ret := yR rfl
@[simp, simp ↓] theorem k199_5r : rC k199_5 (.t 12) k199_4 .skip := zC rfl
@[simp, simp ↓] theorem k199_6r : sR k199_6 k199_o2 k199_5 := yR rfl
@[simp, simp ↓] theorem k199_9r : rC k199_9 (.t 19) .skip (.exit 0) := zC rfl
@[simp, simp ↓] theorem k199_10r : sR k199_10 k199_o5 k199_9 := yR rfl
@[simp, simp ↓] theorem k199_14r : rR k199_14 k199_o9 := zR rfl
@[simp, simp ↓] theorem k199_15r : sR k199_15 k199_o8 k199_14 := yR rfl
@[simp, simp ↓] theorem k199_16r : rC k199_16 (.t 29) k199_15 .skip := zC rfl
@[simp, simp ↓] theorem k199_17r : sR k199_17 k199_o7 k199_16 := yR rfl
@[simp, simp ↓] theorem k199_18r : sR k199_18 k199_o6 k199_17 := yR rfl
@[simp, simp ↓] theorem k199_20r : rR k199_20 k199_o10 := zR rfl
@[simp, simp ↓] theorem k199_21r : sB k199_21 1 k199_18 k199_20 := yB rfl
@[simp, simp ↓] theorem k199_22r : rS k199_22 k199_10 k199_21 := zS rfl
@[simp, simp ↓] theorem k199_23r : rL k199_23 k199_22 := zL rfl
@[simp, simp ↓] theorem k199_24r : rB k199_24 0 k199_23 := zB rfl
@[simp, simp ↓] theorem k199_25r : sR k199_25 k199_o4 k199_24 := yR rfl
@[simp, simp ↓] theorem k199_28r : sR k199_28 k199_o12 .ret := yR rfl
@[simp, simp ↓] theorem k199_29r : sR k199_29 k199_o11 k199_28 := yR rfl
@[simp, simp ↓] theorem k199_30r : rS k199_30 k199_25 k199_29 := zS rfl
@[simp, simp ↓] theorem k199_31r : rS k199_31 k199_6 k199_30 := zS rfl
@[simp, simp ↓] theorem k199_32r : sR k199_32 k199_o1 k199_31 := yR rfl
@[simp, simp ↓] theorem k199_33r : sR k199_33 k199_o0 k199_32 := yR rfl
noncomputable abbrev k199_C : Orc → Cx := mkC Try.prog [] 199 42 [.tmp 4]
theorem k199_of0 : OfP0 Try.prog Try.f199 199 42 k199_C k199_33 := @ofP0 _ _ _ _ _ _ _ _ Try.func199 (by decide +kernel) rfl (by kernel_rfl) rfl (by kernel_rfl)
/-- What is left of the first j when those are taken out. -/
theorem filt_succ (q : Int → Bool) (l : List Int) {j : Nat} (hj : j < l.length) : (l.take (j + 1)).filter (fun x => !q x) = (l.take j).filter (fun x => !q x) ++ if q l[j] then [] else [l[j]] := by
  rw [List.take_succ_eq_append_getElem hj, List.filter_append]
  congr 1
  by_cases h : q l[j] = true <;> simp [h]
/-- What stands in the block while those are taken out: i of the first j are left. -/
structure DInv (q : Int → Bool) (l A : List Int) (i j : Nat) : Prop where
  lt : i < j
  le : j ≤ l.length
  len : A.length = l.length
  left : A.take i = (l.take j).filter (fun x => !q x)
  rest : ∀ k, j ≤ k → A[k]? = l[k]?
theorem DInv.skip {q : Int → Bool} {l A : List Int} {i j : Nat} (D : DInv q l A i j) (hj : j < l.length) (h : q l[j] = true) : DInv q l A i (j + 1) :=
  ⟨by have := D.lt; omega, hj, D.len, by rw [D.left, filt_succ q l hj, h]; simp, fun k hk => D.rest k (by omega)⟩
theorem DInv.put {q : Int → Bool} {l A : List Int} {i j : Nat} (D : DInv q l A i j) (hj : j < l.length) (h : q l[j] = false) : DInv q l (A.set i l[j]) (i + 1) (j + 1) := by
  have h1 := D.lt
  have h2 := D.len
  refine ⟨by omega, hj, by simp [D.len], ?_, fun k hk => ?_⟩
  · rw [filt_succ q l hj, h, ← D.left]
    have hi : i < (A.set i l[j]).length := by simp; omega
    rw [List.take_succ_eq_append_getElem hi, List.take_set_of_le (Nat.le_refl _)]
    simp
  · rw [List.getElem?_set_ne (by omega)]
    exact D.rest k (by omega)
theorem DeleteFunc_o {w : AV} {l : List Int} {hp : Heap} (G : Grow 1 w (l.map iv) hp) (g : FuncId) (caps : List AV) (q : Int → Bool) (hl : l.length ≤ 1048576) (hc : colds caps = true) (hq : ∀ a ∈ l, ∀ h, ACalls Try.prog g (.int .i64 a :: caps) h (fun v h' => v = .bool (q a) ∧ h' = h)) :
    ACalls Try.prog 199 [w, .fn g caps] hp (fun v h' => OwnL iv 1 v (l.filter fun x => !q x) h') := by
  have hO := G.own
  have hfn : cold (.fn g caps) = true := by simpa [cold] using hc
  refine k199_of0 rfl noPure fun I => ?_
  refine Run2.of I 1000 ?_
  simp -implicitDefEqProofs
  refine (ACalls.reads hp (fun p hp => hp) (v0 := .int .i64 (idxf q l)) ?_ rfl).mono ?_
  · rw [lend_cons, lend_cons, lend_nil', lend1_cold hp hfn]
    exact ACalls.wk (.cons hO.lent.wk (.refl _)) (IndexFunc_s l g caps q [] hl fun a ha => hq a ha [])
  rintro v h' ⟨rfl, rfl⟩
  refine gK.go ?_
  rcases idxf_cases q l with ⟨e1, e2⟩ | ⟨i0, hi0, e1, e2, e3⟩
  · simp -implicitDefEqProofs [e1]
    rw [e2]; exact hO
  · rw [e1]
    generalize hm : l.map iv = m at G
    cases G with
    | nil => simp at hm; subst hm; simp at hi0
    | emp => simp at hm; subst hm; simp at hi0
    | sl id m n hn =>
      subst hm
      simp only [List.length_map] at hn
      subst hn
      simp -implicitDefEqProofs
      refine ⟨by omega, ?_⟩
      refine Run2.loopE (α := Nat × Nat × List Int) (fun s => [(0, .sl id 1 0 l.length none), (1, .fn g caps), (5, .int .i64 (s.1 : Nat)), (6, .int .i64 (s.2.1 : Nat))]) (fun s => [(id, ⟨1, s.2.2.map iv⟩)]) (fun s => l.length - s.2.1) (fun s => DInv q l s.2.2 s.1 s.2.1) (i0, i0 + 1, l) (by simp) rfl ⟨by simp, by simp; omega, rfl, e3.symm, fun _ _ => rfl⟩ ?_
      rintro ⟨i, j, A⟩ D ih
      have d1 := D.lt
      have d2 := D.len
      have d3 := D.le
      simp only at d1 d2 d3
      by_cases hlt : j < l.length
      · have go1 := fun h => ih (i, j + 1, A) (D.skip hlt h) (by simp; omega)
        have go2 := fun h => ih (i + 1, j + 1, A.set i l[j]) (D.put hlt h) (by simp; omega)
        clear ih
        have hAj : j < A.length := by omega
        have hA : A[j] = l[j] := by
          have := D.rest j (Nat.le_refl _)
          simp only at this
          rwa [List.getElem?_eq_getElem hAj, List.getElem?_eq_getElem hlt, Option.some_inj] at this
        have hq' := hq _ (List.getElem_mem hlt) [(id, ⟨1, A.map iv⟩)]
        have hAi : i < A.length := by omega
        have hil : i < l.length := by omega
        refine Run2.of I 1000 ?_
        simp -implicitDefEqProofs [hlt, hAj, hA, hAi, hil]
        refine ACalls.mono (by simpa using hq') ?_
        rintro v h' ⟨rfl, rfl⟩
        refine gK.go ?_
        simp -implicitDefEqProofs [hlt, hAj, hA, hAi, hil]
        refine ⟨fun h => ⟨by omega, by omega, ?_⟩, fun h => ⟨by omega, ?_⟩⟩
        · simpa [List.map_set] using go2 h
        · simpa using go1 h
      · have hj : j = l.length := by omega
        subst hj
        have hleft := D.left
        simp only [List.take_length] at hleft
        have hlen : (l.filter fun x => !q x).length = i := by rw [← hleft]; simp; omega
        refine Run2.of I 1000 ?_
        simp -implicitDefEqProofs [d2]
        refine ⟨by omega, by omega, by omega, ?_⟩
        have := OwnL.sl (enc := iv) (sz := 1) (l := l.filter fun x => !q x) id none (List.replicate (l.length - i) (iv 0)) (by simp; exact .inr rfl)
        rw [hlen] at this
        rw [← List.map_take, hleft, List.drop_of_length_le (by simp; omega), List.append_nil]
        exact this
theorem frzI {P : Program} {g : FuncId} {args : List AV} {l : List Int} (H : ACalls P g args [] (fun v h' => OwnL iv 1 v l h')) (h : Heap) : ACalls P g args h (fun v h' => v = .snap 1 (l.map iv) ∧ h' = h) := by
  refine ACalls.post ((ACalls.gives (h := h) [] (by simp) H fun v h' o => o.own own_iv1).mono ?_)
  rintro v h'' ⟨h', o, _, rfl⟩
  exact Post.lend (.wk o.lent.wk (.base ⟨rfl, rfl⟩))
abbrev k200_o0 : List AJ := [.o ⟨(some 3), none, false, .mv (.c (.bool false)), (some [0, 1])⟩]
abbrev k200_o1 : List AJ := [.o ⟨(some 4), none, false, .load 1 false (.t 1), none⟩, .o ⟨(some 5), none, false, .mv (.t 0), none⟩, .o ⟨(some 6), none, false, .call 164 [(.t 4), (.t 5)], none⟩, .o ⟨(some 3), none, false, .mv (.t 6), (some [3])⟩]
def k200_2 : ACode := .seq (.region k200_o1) .ret
def k200_3 : ACode := .seq (.region k200_o0) k200_2
@[simp, simp ↓] theorem k200_2r : sR k200_2 k200_o1 .ret := yR rfl
@[simp, simp ↓] theorem k200_3r : sR k200_3 k200_o0 k200_2 := yR rfl
noncomputable abbrev k200_C : Orc → Cx := mkC Try.prog [] 200 7 [.tmp 3]
theorem k200_of0 : OfP0 Try.prog Try.f200 200 7 k200_C k200_3 := @ofP0 _ _ _ _ _ _ _ _ Try.func200 (by decide +kernel) rfl (by kernel_rfl) rfl (by kernel_rfl)
theorem without1_c (m : List Int) (a : Int) (h : Heap) (hl : m.length ≤ 1048576) : ACalls Try.prog 200 [.int .i64 a, .ip [.snap 1 (m.map iv)]] h (fun v h' => v = .bool (decide (a ∈ m)) ∧ h' = h) := by
  refine k200_of0 rfl noPure fun I => ?_
  refine Run2.of I 1000 ?_
  simp -implicitDefEqProofs
  refine (Contains_s m a h hl).mono ?_
  rintro v h' ⟨rfl, rfl⟩
  refine gK.go ?_
  simp -implicitDefEqProofs
abbrev k197_o0 : List AJ := [.o ⟨(some 3), none, false, .box false 1 (.t 1), none⟩, .o ⟨(some 4), none, false, .mv (.c .nilsl), (some [0, 3])⟩]
abbrev k197_o1 : List AJ := [.o ⟨(some 5), none, false, .mv (.t 0), none⟩, .o ⟨(some 6), none, false, .call 96 [(.t 5)], none⟩, .o ⟨(some 7), none, false, .mkfn 200 [(.t 3)], none⟩, .o ⟨(some 8), none, false, .call 199 [(.t 6), (.t 7)], none⟩, .o ⟨(some 4), none, false, .mv (.t 8), (some [4])⟩]
def k197_2 : ACode := .seq (.region k197_o1) .ret
def k197_3 : ACode := .seq (.region k197_o0) k197_2
@[simp, simp ↓] theorem k197_2r : sR k197_2 k197_o1 .ret := yR rfl
@[simp, simp ↓] theorem k197_3r : sR k197_3 k197_o0 k197_2 := yR rfl
noncomputable abbrev k197_C : Orc → Cx := mkC Try.prog [] 197 9 [.tmp 4]
theorem k197_of0 : OfP0 Try.prog Try.f197 197 9 k197_C k197_3 := @ofP0 _ _ _ _ _ _ _ _ Try.func197 (by decide +kernel) rfl (by kernel_rfl) rfl (by kernel_rfl)
theorem without_o (l m : List Int) (hl : l.length ≤ 1048576) (hm : m.length ≤ 1048576) : ACalls Try.prog 197 [.snap 1 (l.map iv), .snap 1 (m.map iv)] [] (fun v h' => OwnL iv 1 v (l.filter fun a => !decide (a ∈ m)) h') := by
  refine k197_of0 rfl noPure fun I => ?_
  refine Run2.of I 1000 ?_
  simp -implicitDefEqProofs
  refine (Clone_w l [] hl).mono ?_
  rintro v h' ⟨hp, G, rfl⟩
  refine gK.go ?_
  have hG := G.cell
  simp -implicitDefEqProofs [hG]
  refine (DeleteFunc_o G _ _ (fun a => decide (a ∈ m)) hl (by simp [colds, cold]) fun a _ h => without1_c m a h hm).mono ?_
  intro v h' o
  have hcell := o.cell
  refine gK.go ?_
  simp -implicitDefEqProofs [hcell]
  simpa using o
noncomputable def o_without : List AV → Option (Prop × AV) := tab (fun (x : List Int × List Int) => match x with | (l, m) => [.snap 1 (l.map iv), .snap 1 (m.map iv)]) (fun x => match x with | (l, m) => (l.length ≤ 1048576 ∧ m.length ≤ 1048576)) (fun x => match x with | (l, m) => .snap 1 ((l.filter fun a => !decide (a ∈ m)).map iv))
@[simp] theorem o_without_e (l : List Int) (m : List Int) : o_without [.snap 1 (l.map iv), .snap 1 (m.map iv)] = some ((l.length ≤ 1048576 ∧ m.length ≤ 1048576), .snap 1 ((l.filter fun a => !decide (a ∈ m)).map iv)) := tab_at (enc := fun (x : List Int × List Int) => match x with | (l, m) => [.snap 1 (l.map iv), .snap 1 (m.map iv)]) (fun x y h => by
  obtain ⟨l1, m1⟩ := x; obtain ⟨l2, m2⟩ := y; simp at h; simp [h] <;> omega) _ _ (l, m)
theorem o_without_k : Knows Try.prog 197 o_without := tab_knows fun x hx h => by
  obtain ⟨l, m⟩ := x; exact frzI (without_o l m hx.1 hx.2) h
noncomputable def orcG6 : List (Nat × (List AV → Option (Prop × AV))) := (197, o_without) :: []
theorem orcG6_p : Pure Try.prog (lk orcG6) := (lk_pure o_without_k lk_pure0)
@[simp] theorem orcG6_l (b : Bool) (g : FuncId) (l : List AV) : lk orcG6 b g l = if g = 197 then o_without l else none := nr rfl
/-- The columns that are among others, too. -/
def comm (l m : List Int) : List Int := l.filter fun a => decide (a ∈ m)
theorem comm_eq (l m : List Int) : (l.filter fun a => !decide (a ∈ l.filter fun b => !decide (b ∈ m))) = comm l m := by
  unfold comm
  refine List.filter_congr fun a ha => ?_
  simp [ha]
theorem comm_eq2 (l m : List Int) : (l.filter fun a => !decide (a ∈ l) || decide (a ∈ m)) = comm l m := by
  unfold comm
  refine List.filter_congr fun a ha => ?_
  simp [ha]
theorem comm_len (l m : List Int) : (comm l m).length ≤ l.length := List.length_filter_le ..
abbrev k189_o0 : List AJ := [.o ⟨(some 2), none, false, .box false 2 (.t 0), none⟩, .o ⟨(some 3), none, false, .box false 2 (.t 1), none⟩, .o ⟨(some 4), none, false, .mv (.c .nilsl), (some [2, 3])⟩]
abbrev k189_o1 : List AI := [⟨(some 5), none, false, .fieldA 0 (.t 2), none⟩, ⟨(some 6), none, false, .load 1 false (.t 5), none⟩, ⟨(some 7), none, false, .fieldA 0 (.t 2), none⟩, ⟨(some 8), none, false, .load 1 false (.t 7), none⟩, ⟨(some 9), none, false, .fieldA 0 (.t 3), none⟩, ⟨(some 10), none, false, .load 1 false (.t 9), none⟩, ⟨(some 11), none, false, .call 197 [(.t 8), (.t 10)], none⟩, ⟨(some 12), none, false, .call 197 [(.t 6), (.t 11)], none⟩, ⟨(some 4), none, false, .mv (.t 12), (some [4])⟩]
def k189_2 : ACode := .seq (.draw k189_o1 [] rfl) .ret
def k189_3 : ACode := .seq (.region k189_o0) k189_2
@[simp, simp ↓] theorem k189_2r : sD k189_2 k189_o1 [] .ret := yD rfl
@[simp, simp ↓] theorem k189_3r : sR k189_3 k189_o0 k189_2 := yR rfl
noncomputable abbrev k189_C : Orc → Cx := mkC Try.prog [] 189 13 [.tmp 4]
theorem k189_of0 : OfP0 Try.prog Try.f189 189 13 k189_C k189_3 := @ofP0 _ _ _ _ _ _ _ _ Try.func189 (by decide +kernel) rfl (by kernel_rfl) rfl (by kernel_rfl)
theorem comm_s (l m : List Int) (x y : AV) (h : Heap) (hl : l.length ≤ 1048576) (hm : m.length ≤ 1048576) (hx : isCell x = true) (hy : isCell y = true) : ACalls Try.prog 189 [.agg [.snap 1 (l.map iv), x], .agg [.snap 1 (m.map iv), y]] h (fun v h' => v = .snap 1 ((comm l m).map iv) ∧ h' = h) := by
  have hf : (l.filter fun b => !decide (b ∈ m)).length ≤ 1048576 := Nat.le_trans (List.length_filter_le ..) hl
  have hce := comm_eq l m
  refine k189_of0 rfl orcG6_p fun I => ?_
  refine Run2.of I 1000 ?_
  simp -implicitDefEqProofs [hl, hm, hf, hx, hy]
  exact comm_eq2 l m
noncomputable def orcG7 : List (Nat × (List AV → Option (Prop × AV))) := (165, o_indexI) :: []
theorem orcG7_p : Pure Try.prog (lk orcG7) := (lk_pure o_indexI_k lk_pure0)
@[simp] theorem orcG7_l (b : Bool) (g : FuncId) (l : List AV) : lk orcG7 b g l = if g = 165 then o_indexI l else none := nr rfl
/-- Cells of a row. -/
def prj (cs r ws : List Int) : List Int := ws.map (vl cs r)
abbrev k191_o0 : List AJ := [.o ⟨(some 6), none, false, .mv (.c .nilsl), (some [0, 1, 2])⟩]
abbrev k191_o1 : List AJ := [.o ⟨(some 7), none, false, .mv (.c .nilsl), (some [0, 1, 2, 7])⟩]
abbrev k191_o2 : List AJ := [.o ⟨(some 10), none, false, .mv (.t 2), none⟩, .o ⟨(some 11), none, false, .len (.t 10), none⟩, .o ⟨(some 12), none, false, .mv (.c (.int .i64 0)), (some [0, 1, 7, 10, 11, 12])⟩]
abbrev k191_o3 : List AJ := [.o ⟨(some 13), none, false, .bin .lss (.t 12) (.t 11), (some [0, 1, 7, 10, 11, 12, 13])⟩]
abbrev k191_o4 : List AJ := [.o ⟨(some 14), none, false, .idxA 1 (.t 10) (.t 12), none⟩, .o ⟨(some 15), none, false, .load 1 false (.t 14), none⟩, .o ⟨(some 9), none, false, .mv (.t 15), (some [0, 1, 7, 9, 10, 11, 12])⟩]
abbrev k191_o5 : List AJ := [.o ⟨(some 16), none, false, .mv (.t 7), none⟩, .o ⟨(some 17), none, false, .mv (.t 1), none⟩, .o ⟨(some 18), none, false, .mv (.t 0), none⟩, .o ⟨(some 19), none, false, .mv (.t 9), none⟩, .o ⟨(some 20), none, false, .call 165 [(.t 18), (.t 19)], none⟩, .o ⟨(some 21), none, false, .idxA 1 (.t 17) (.t 20), none⟩, .o ⟨(some 22), none, false, .load 1 false (.t 21), none⟩, .o ⟨(some 23), none, false, .bsl false 1 [(.t 22)], none⟩, .o ⟨(some 24), none, false, .append 1 8 (.t 16) (.t 23), none⟩, .o ⟨(some 7), none, false, .mv (.t 24), (some [0, 1, 7, 10, 11, 12])⟩]
def k191_6 : ACode := .region k191_o5
def k191_7 : ACode := .seq (.region k191_o4) k191_6
abbrev k191_o6 : List AJ := [.o ⟨(some 25), none, true, .bin .add (.t 12) (.c (.int .i64 1)), none⟩, .o ⟨(some 12), none, false, .mv (.t 25), (some [0, 1, 7, 10, 11, 12])⟩]
def k191_9 : ACode := .region k191_o6
def k191_10 : ACode := .seq (.block 1 k191_7) k191_9
def k191_11 : ACode := .seq (.cond (.t 13) .skip (.exit 0)) k191_10
def k191_12 : ACode := .seq (.region k191_o3) k191_11
def k191_13 : ACode := .loop k191_12
def k191_14 : ACode := .block 0 k191_13
def k191_15 : ACode := .seq (.region k191_o2) k191_14
abbrev k191_o7 : List AJ := [.o ⟨(some 26), none, false, .mv (.t 7), none⟩, .o ⟨(some 6), none, false, .mv (.t 26), (some [6])⟩]
def k191_17 : ACode := .seq (.region k191_o7) .ret
def k191_18 : ACode := .seq k191_15 k191_17
def k191_19 : ACode := .seq (.region k191_o1) k191_18
def k191_20 : ACode := .seq (.region k191_o0) k191_19
@[simp, simp ↓] theorem k191_6r : rR k191_6 k191_o5 := zR rfl
@[simp, simp ↓] theorem k191_7r : sR k191_7 k191_o4 k191_6 := yR rfl
@[simp, simp ↓] theorem k191_9r : rR k191_9 k191_o6 := zR rfl
@[simp, simp ↓] theorem k191_10r : sB k191_10 1 k191_7 k191_9 := yB rfl
@[simp, simp ↓] theorem k191_11r : sC k191_11 (.t 13) .skip (.exit 0) k191_10 := yC rfl
@[simp, simp ↓] theorem k191_12r : sR k191_12 k191_o3 k191_11 := yR rfl
@[simp, simp ↓] theorem k191_13r : rL k191_13 k191_12 := zL rfl
@[simp, simp ↓] theorem k191_14r : rB k191_14 0 k191_13 := zB rfl
@[simp, simp ↓] theorem k191_15r : sR k191_15 k191_o2 k191_14 := yR rfl
@[simp, simp ↓] theorem k191_17r : sR k191_17 k191_o7 .ret := yR rfl
@[simp, simp ↓] theorem k191_18r : rS k191_18 k191_15 k191_17 := zS rfl
@[simp, simp ↓] theorem k191_19r : sR k191_19 k191_o1 k191_18 := yR rfl
@[simp, simp ↓] theorem k191_20r : sR k191_20 k191_o0 k191_19 := yR rfl
noncomputable abbrev k191_C : Orc → Cx := mkC Try.prog [] 191 27 [.tmp 6]
theorem k191_of : OfP Try.prog Try.f191 191 27 k191_C k191_20 := @ofP _ _ _ _ _ _ _ _ Try.func191 (by decide +kernel) rfl (by kernel_rfl) rfl (by kernel_rfl)
theorem project_s (cs r ws : List Int) (h : Heap) (hl : cs.length ≤ 1048576) (hw : ws.length ≤ 1048576) (hr : r.length = cs.length) (hs : ∀ c ∈ ws, c ∈ cs) : ACalls Try.prog 191 [.snap 1 (cs.map iv), .snap 1 (r.map iv), .snap 1 (ws.map iv)] h (fun v h' => v = .snap 1 ((prj cs r ws).map iv) ∧ h' = h) := by
  refine k191_of rfl orcG7_p fun I => ?_
  refine Run2.of I 1000 ?_
  simp -implicitDefEqProofs
  refine Run2.loopE (α := Nat × AV × Heap) (fun p => [(0, .snap 1 (cs.map iv)), (1, .snap 1 (r.map iv)), (7, p.2.1), (10, .snap 1 (ws.map iv)), (11, .int .i64 ws.length), (12, .int .i64 (p.1 : Nat))]) (fun p => p.2.2 ++ h) (fun p => ws.length - p.1) (fun p => p.1 ≤ ws.length ∧ Grow 1 p.2.1 (((ws.take p.1).map (vl cs r)).map iv) p.2.2) (0, .nilsl, []) (by simp) rfl ⟨Nat.zero_le _, by simpa using Grow.nil⟩ ?_
  rintro ⟨i, w, hp⟩ ⟨hi, hg⟩ ih
  replace hi : i ≤ ws.length := hi
  simp only at hg ih ⊢
  have hcell := hg.cell
  by_cases hlt : i < ws.length
  · obtain ⟨k, hk, e1, e2⟩ := ixI_at (hs _ (List.getElem_mem hlt))
    have hk2 : k < r.length := by omega
    have hx : vl cs r ws[i] = r[k] := by unfold vl; rw [e1]; simp [hk2]
    have go := fun w' hp' (g' : Grow 1 w' (((ws.take i).map (vl cs r)).map iv ++ [.int .i64 r[k]]) hp') => ih (i + 1, w', hp') ⟨hlt, by
      simp only
      rw [List.take_succ_eq_append_getElem hlt, List.map_append, List.map_append]
      simpa [hx] using g'⟩ (by simp only; omega)
    clear ih
    refine Run2.of I 1000 ?_
    simp -implicitDefEqProofs [hlt, hcell, e1, hk2, hl]
    refine hg.app (by simp; omega) (by simp) fun w' hp' hg' => ?_
    have hcell' := hg'.cell
    have := go w' hp' (by simpa using hg')
    simp -implicitDefEqProofs [hcell']
    refine ⟨by omega, ?_⟩
    simpa using this
  · obtain rfl : i = ws.length := by omega
    rw [List.take_length] at hg
    rw [show ws.map (vl cs r) = prj cs r ws from rfl] at hg
    clear ih
    refine Run2.of I 1000 ?_
    simp -implicitDefEqProofs [hcell]
    exact hg.froze (fun x => x) (fun _ _ _ => rfl) (fun _ _ h => h) (.base ⟨rfl, rfl⟩)
noncomputable def o_commF : List AV → Option (Prop × AV) := tab (fun (x : List Int × List Int × LS) => match x with | (l, m, rs) => [.agg [.snap 1 (l.map iv), .snap 1 (rs.map il)], .agg [.snap 1 (m.map iv), .nilsl]]) (fun x => match x with | (l, m, rs) => (l.length ≤ 1048576 ∧ m.length ≤ 1048576)) (fun x => match x with | (l, m, rs) => .snap 1 ((comm l m).map iv))
@[simp] theorem o_commF_e (l : List Int) (m : List Int) (rs : LS) : o_commF [.agg [.snap 1 (l.map iv), .snap 1 (rs.map il)], .agg [.snap 1 (m.map iv), .nilsl]] = some ((l.length ≤ 1048576 ∧ m.length ≤ 1048576), .snap 1 ((comm l m).map iv)) := tab_at (enc := fun (x : List Int × List Int × LS) => match x with | (l, m, rs) => [.agg [.snap 1 (l.map iv), .snap 1 (rs.map il)], .agg [.snap 1 (m.map iv), .nilsl]]) (fun x y h => by
  obtain ⟨l1, m1, rs1⟩ := x; obtain ⟨l2, m2, rs2⟩ := y; simp at h; simp [h] <;> omega) _ _ (l, m, rs)
theorem o_commF_k : Knows Try.prog 189 o_commF := tab_knows fun x hx h => by
  obtain ⟨l, m, rs⟩ := x; exact comm_s l m _ _ h hx.1 hx.2 (by simp) (by simp)
noncomputable def o_projF : List AV → Option (Prop × AV) := tab (fun (x : List Int × List Int × List Int) => match x with | (cs, r, ws) => [.snap 1 (cs.map iv), .snap 1 (r.map iv), .snap 1 (ws.map iv)]) (fun x => match x with | (cs, r, ws) => ((cs.length ≤ 1048576 ∧ ws.length ≤ 1048576 ∧ r.length = cs.length) ∧ ∀ c ∈ ws, c ∈ cs)) (fun x => match x with | (cs, r, ws) => .snap 1 ((prj cs r ws).map iv))
@[simp] theorem o_projF_e (cs : List Int) (r : List Int) (ws : List Int) : o_projF [.snap 1 (cs.map iv), .snap 1 (r.map iv), .snap 1 (ws.map iv)] = some (((cs.length ≤ 1048576 ∧ ws.length ≤ 1048576 ∧ r.length = cs.length) ∧ ∀ c ∈ ws, c ∈ cs), .snap 1 ((prj cs r ws).map iv)) := tab_at (enc := fun (x : List Int × List Int × List Int) => match x with | (cs, r, ws) => [.snap 1 (cs.map iv), .snap 1 (r.map iv), .snap 1 (ws.map iv)]) (fun x y h => by
  obtain ⟨cs1, r1, ws1⟩ := x; obtain ⟨cs2, r2, ws2⟩ := y; simp at h; simp [h] <;> omega) _ _ (cs, r, ws)
theorem o_projF_k : Knows Try.prog 191 o_projF := tab_knows fun x hx h => by
  obtain ⟨cs, r, ws⟩ := x; exact project_s cs r ws h hx.1.1 hx.1.2.1 hx.1.2.2 hx.2
noncomputable def o_equalI : List AV → Option (Prop × AV) := tab (fun (x : List Int × List Int) => match x with | (l, m) => [.snap 1 (l.map iv), .snap 1 (m.map iv)]) (fun x => match x with | (l, m) => l.length ≤ 1048576) (fun x => match x with | (l, m) => .bool (decide (l = m)))
@[simp] theorem o_equalI_e (l : List Int) (m : List Int) : o_equalI [.snap 1 (l.map iv), .snap 1 (m.map iv)] = some (l.length ≤ 1048576, .bool (decide (l = m))) := tab_at (enc := fun (x : List Int × List Int) => match x with | (l, m) => [.snap 1 (l.map iv), .snap 1 (m.map iv)]) (fun x y h => by
  obtain ⟨l1, m1⟩ := x; obtain ⟨l2, m2⟩ := y; simp at h; simp [h] <;> omega) _ _ (l, m)
theorem o_equalI_k : Knows Try.prog 190 o_equalI := tab_knows fun x hx h => by
  obtain ⟨l, m⟩ := x; exact equal_s l m h hx
noncomputable def orcG8 : List (Nat × (List AV → Option (Prop × AV))) := (189, o_commF) :: (191, o_projF) :: (190, o_equalI) :: []
theorem orcG8_p : Pure Try.prog (lk orcG8) := (lk_pure o_commF_k (lk_pure o_projF_k (lk_pure o_equalI_k lk_pure0)))
@[simp] theorem orcG8_l (b : Bool) (g : FuncId) (l : List AV) : lk orcG8 b g l = if g = 189 then o_commF l else if g = 191 then o_projF l else if g = 190 then o_equalI l else none := nr rfl
/-- A row fits what is told. -/
def fitT (cs r told row : List Int) : Bool := decide (prj cs r (comm cs told) = prj told row (comm cs told))
abbrev k174_o0 : List AJ := [.o ⟨(some 4), none, false, .box false 2 (.t 0), none⟩, .o ⟨(some 5), none, false, .box false 2 (.t 1), none⟩, .o ⟨(some 8), none, false, .mv (.c (.bool false)), (some [2, 3, 4, 5])⟩]
abbrev k174_o1 : List AJ := [.o ⟨(some 10), none, false, .load 2 true (.t 4), none⟩, .o ⟨(some 11), none, false, .load 2 true (.t 5), none⟩, .o ⟨(some 12), none, false, .call 189 [(.t 10), (.t 11)], none⟩, .o ⟨(some 9), none, false, .mv (.t 12), (some [2, 3, 4, 5, 9])⟩]
abbrev k174_o2 : List AI := [⟨(some 13), none, false, .fieldA 0 (.t 4), none⟩, ⟨(some 14), none, false, .load 1 false (.t 13), none⟩, ⟨(some 15), none, false, .mv (.t 2), none⟩, ⟨(some 16), none, false, .mv (.t 9), none⟩, ⟨(some 17), none, false, .call 191 [(.t 14), (.t 15), (.t 16)], none⟩, ⟨(some 18), none, false, .fieldA 0 (.t 5), none⟩, ⟨(some 19), none, false, .load 1 false (.t 18), none⟩, ⟨(some 20), none, false, .mv (.t 3), none⟩, ⟨(some 21), none, false, .mv (.t 9), none⟩, ⟨(some 22), none, false, .call 191 [(.t 19), (.t 20), (.t 21)], none⟩, ⟨(some 23), none, false, .call 190 [(.t 17), (.t 22)], none⟩, ⟨(some 8), none, false, .mv (.t 23), (some [8])⟩]
def k174_3 : ACode := .seq (.draw k174_o2 [] rfl) .ret
def k174_4 : ACode := .seq (.region k174_o1) k174_3
def k174_5 : ACode := .seq (.region k174_o0) k174_4
@[simp, simp ↓] theorem k174_3r : sD k174_3 k174_o2 [] .ret := yD rfl
@[simp, simp ↓] theorem k174_4r : sR k174_4 k174_o1 k174_3 := yR rfl
@[simp, simp ↓] theorem k174_5r : sR k174_5 k174_o0 k174_4 := yR rfl
noncomputable abbrev k174_C : Orc → Cx := mkC Try.prog [] 174 24 [.tmp 8]
theorem k174_of0 : OfP0 Try.prog Try.f174 174 24 k174_C k174_5 := @ofP0 _ _ _ _ _ _ _ _ Try.func174 (by decide +kernel) rfl (by kernel_rfl) rfl (by kernel_rfl)
theorem fit_s (cs : List Int) (rs : List (List Int)) (r told row : List Int) (h : Heap) (hl : cs.length ≤ 1048576) (ht : told.length ≤ 1048576) (hr : r.length = cs.length) (hw : row.length = told.length) : ACalls Try.prog 174 [.agg [.snap 1 (cs.map iv), .snap 1 (rs.map il)], .agg [.snap 1 (told.map iv), .nilsl], .snap 1 (r.map iv), .snap 1 (row.map iv)] h (fun v h' => v = .bool (fitT cs r told row) ∧ h' = h) := by
  have hc := comm_len cs told
  have h1 : ∀ c ∈ comm cs told, c ∈ cs := fun c h => (List.mem_filter.1 h).1
  have h2 : ∀ c ∈ comm cs told, c ∈ told := fun c h => by simpa using (List.mem_filter.1 h).2
  have hc2 : (comm cs told).length ≤ 1048576 := by omega
  unfold fitT
  refine k174_of0 rfl orcG8_p fun I => ?_
  refine Run2.of I 1000 ?_
  have hp : (prj cs r (comm cs told)).length ≤ 1048576 := by unfold prj; rw [List.length_map]; exact hc2
  simp -implicitDefEqProofs [hl, ht, hr, hw, hc2, hp]
  exact ⟨h1, h2⟩
noncomputable def o_fitF : List AV → Option (Prop × AV) := tab (fun (x : List Int × LS × List Int × List Int × List Int) => match x with | (cs, rs, r, told, row) => [.agg [.snap 1 (cs.map iv), .snap 1 (rs.map il)], .agg [.snap 1 (told.map iv), .nilsl], .snap 1 (r.map iv), .snap 1 (row.map iv)]) (fun x => match x with | (cs, rs, r, told, row) => (cs.length ≤ 1048576 ∧ told.length ≤ 1048576 ∧ r.length = cs.length ∧ row.length = told.length)) (fun x => match x with | (cs, rs, r, told, row) => .bool (fitT cs r told row))
@[simp] theorem o_fitF_e (cs : List Int) (rs : LS) (r : List Int) (told : List Int) (row : List Int) : o_fitF [.agg [.snap 1 (cs.map iv), .snap 1 (rs.map il)], .agg [.snap 1 (told.map iv), .nilsl], .snap 1 (r.map iv), .snap 1 (row.map iv)] = some ((cs.length ≤ 1048576 ∧ told.length ≤ 1048576 ∧ r.length = cs.length ∧ row.length = told.length), .bool (fitT cs r told row)) := tab_at (enc := fun (x : List Int × LS × List Int × List Int × List Int) => match x with | (cs, rs, r, told, row) => [.agg [.snap 1 (cs.map iv), .snap 1 (rs.map il)], .agg [.snap 1 (told.map iv), .nilsl], .snap 1 (r.map iv), .snap 1 (row.map iv)]) (fun x y h => by
  obtain ⟨cs1, rs1, r1, told1, row1⟩ := x; obtain ⟨cs2, rs2, r2, told2, row2⟩ := y; simp at h; simp [h] <;> omega) _ _ (cs, rs, r, told, row)
theorem o_fitF_k : Knows Try.prog 174 o_fitF := tab_knows fun x hx h => by
  obtain ⟨cs, rs, r, told, row⟩ := x; exact fit_s cs rs r told row h hx.1 hx.2.1 hx.2.2.1 hx.2.2.2
noncomputable def orcG9 : List (Nat × (List AV → Option (Prop × AV))) := (174, o_fitF) :: []
theorem orcG9_p : Pure Try.prog (lk orcG9) := (lk_pure o_fitF_k lk_pure0)
@[simp] theorem orcG9_l (b : Bool) (g : FuncId) (l : List AV) : lk orcG9 b g l = if g = 174 then o_fitF l else none := nr rfl
abbrev k173_o0 : List AJ := [.o ⟨(some 5), none, false, .mv (.c (.bool false)), (some [0, 1, 2, 3])⟩]
abbrev k173_o1 : List AI := [⟨(some 6), none, false, .load 2 true (.t 1), none⟩, ⟨(some 7), none, false, .load 2 true (.t 2), none⟩, ⟨(some 8), none, false, .mv (.t 0), none⟩, ⟨(some 9), none, false, .load 1 false (.t 3), none⟩, ⟨(some 10), none, false, .nilchk (.t 9), none⟩, ⟨(some 11), none, false, .fieldA 4 (.t 10), none⟩, ⟨(some 12), none, false, .load 1 false (.t 11), none⟩, ⟨(some 13), none, false, .call 174 [(.t 6), (.t 7), (.t 8), (.t 12)], none⟩, ⟨(some 5), none, false, .mv (.t 13), (some [5])⟩]
def k173_2 : ACode := .seq (.draw k173_o1 [] rfl) .ret
def k173_3 : ACode := .seq (.region k173_o0) k173_2
@[simp, simp ↓] theorem k173_2r : sD k173_2 k173_o1 [] .ret := yD rfl
@[simp, simp ↓] theorem k173_3r : sR k173_3 k173_o0 k173_2 := yR rfl
noncomputable abbrev k173_C : Orc → Cx := mkC Try.prog [] 173 14 [.tmp 5]
theorem k173_of0 : OfP0 Try.prog Try.f173 173 14 k173_C k173_3 := @ofP0 _ _ _ _ _ _ _ _ Try.func173 (by decide +kernel) rfl (by kernel_rfl) rfl (by kernel_rfl)
theorem supp11_s (cs : List Int) (rs : List (List Int)) (r told row : List Int) (a b c d e : AV) (ha : isCell a = true) (hb : isCell b = true) (hc : isCell c = true) (hd : isCell d = true) (h : Heap) (hl : cs.length ≤ 1048576) (ht : told.length ≤ 1048576) (hr : r.length = cs.length) (hw : row.length = told.length) : ACalls Try.prog 173 [.snap 1 (r.map iv), .ip [.snap 1 (cs.map iv), .snap 1 (rs.map il)], .ip [.snap 1 (told.map iv), .nilsl], .ip [.ip [a, b, c, d, .snap 1 (row.map iv), e]]] h (fun v h' => v = .bool (fitT cs r told row) ∧ h' = h) := by
  refine k173_of0 rfl orcG9_p fun I => ?_
  refine Run2.of I 1000 ?_
  simp -implicitDefEqProofs [hl, ht, hr, hw, ha, hb, hc, hd]
abbrev k172_o0 : List AJ := [.o ⟨(some 3), none, false, .box false 2 (.t 0), none⟩, .o ⟨(some 4), none, false, .mv (.c (.bool false)), (some [1, 2, 3])⟩]
abbrev k172_o1 : List AJ := [.o ⟨(some 5), none, false, .fieldA 1 (.t 3), none⟩, .o ⟨(some 6), none, false, .load 1 false (.t 5), none⟩, .o ⟨(some 7), none, false, .mkfn 173 [(.t 3), (.t 1), (.t 2)], none⟩, .o ⟨(some 8), none, false, .call 105 [(.t 6), (.t 7)], none⟩, .o ⟨(some 9), none, false, .un .not (.t 8), none⟩, .o ⟨(some 4), none, false, .mv (.t 9), (some [4])⟩]
def k172_2 : ACode := .seq (.region k172_o1) .ret
def k172_3 : ACode := .seq (.region k172_o0) k172_2
@[simp, simp ↓] theorem k172_2r : sR k172_2 k172_o1 .ret := yR rfl
@[simp, simp ↓] theorem k172_3r : sR k172_3 k172_o0 k172_2 := yR rfl
noncomputable abbrev k172_C : Orc → Cx := mkC Try.prog [] 172 10 [.tmp 4]
theorem k172_of0 : OfP0 Try.prog Try.f172 172 10 k172_C k172_3 := @ofP0 _ _ _ _ _ _ _ _ Try.func172 (by decide +kernel) rfl (by kernel_rfl) rfl (by kernel_rfl)
theorem supp1_s (t : Tb) (told row : List Int) (a b c d e : AV) (ha : isCell a = true) (hb : isCell b = true) (hc : isCell c = true) (hd : isCell d = true) (h : Heap) (hv : t.valid) (hl : t.tot ≤ 1048576) (ht : told.length ≤ 1048576) (hw : row.length = told.length) : ACalls Try.prog 172 [t.av, .ip [.snap 1 (told.map iv), .nilsl], .ip [.ip [a, b, c, d, .snap 1 (row.map iv), e]]] h (fun v h' => v = .bool (!t.rows.any fun r => fitT t.cols r told row) ∧ h' = h) := by
  obtain ⟨h1, h2, h3⟩ := Tb.fit hl
  refine k172_of0 rfl noPure fun I => ?_
  refine Run2.of I 1000 ?_
  simp -implicitDefEqProofs
  refine (ContainsFuncS_s t.rows _ _ (fun r => fitT t.cols r told row) h h3 fun r hr => ?_).mono ?_
  · obtain ⟨j, hj, rfl⟩ := List.mem_iff_getElem.1 hr
    exact supp11_s t.cols t.rows _ told row a b c d e ha hb hc hd h h1 ht (hv.2.2 j hj).1 hw
  · rintro v h' ⟨rfl, rfl⟩
    refine gK.go ?_
    simp -implicitDefEqProofs
theorem colds_Tb (ts : List Tb) : colds (ts.map Tb.av) = true := by
  induction ts with
  | nil => rfl
  | cons t ts ih => simp [colds, cold, ih]
/-- Each table has a row that fits. -/
def suppT (ts : List Tb) (cols row : List Int) : Bool := ts.all fun t => t.rows.any fun r => fitT t.cols r (cols.take row.length) row
theorem ACalls.frz {P : Program} {g : FuncId} {args : List AV} {h : Heap} {R : AV → Heap → Prop} (id : Nat) {b : Blk} (hb : hget h id = some b) (H : ACalls P g (fzs id b args) (hdel h id) R) : ACalls P g args h R :=
  ⟨H.1, fun w vs hw hv => by
    obtain ⟨H', Ev⟩ := hw.del id
    have hd2 : Held w (dom (hdel h id)) id b := hw.held hb (fun _ => dom_hdel_sub) (hdel_out hw.nd)
    exact (H.2 w vs H' (Reps.fz hd2 _ _ (Reps.mono Ev.keeps _ _ hv))).mono fun _ _ ⟨cv, v, h', e1, e2, e3, e4, e5⟩ => ⟨cv, v, h', e1, e2, e3, Ev.trans e4, e5⟩⟩
abbrev k154_o0 : List AJ := [.o ⟨(some 1), none, false, .box false 1 (.t 0), none⟩, .o ⟨(some 2), none, false, .mv (.c (.bool false)), (some [1])⟩]
abbrev k154_o1 : List AJ := [.o ⟨(some 4), none, false, .load 1 false (.t 1), none⟩, .o ⟨(some 5), none, false, .nilchk (.t 4), none⟩, .o ⟨(some 6), none, false, .fieldA 3 (.t 5), none⟩, .o ⟨(some 7), none, false, .load 1 false (.t 6), none⟩, .o ⟨(some 8), none, false, .load 1 false (.t 1), none⟩, .o ⟨(some 9), none, false, .nilchk (.t 8), none⟩, .o ⟨(some 10), none, false, .fieldA 4 (.t 9), none⟩, .o ⟨(some 11), none, false, .load 1 false (.t 10), none⟩, .o ⟨(some 12), none, false, .len (.t 11), none⟩, .o ⟨(some 13), none, false, .slice 1 (.t 7) none (some (.t 12)) none, none⟩, .o ⟨(some 14), none, false, .build [.nilsl, .nilsl] [(0, 1, (.t 13))], none⟩, .o ⟨(some 3), none, false, .alloc true 2 (.agg [.nilsl, .nilsl]), none⟩, .o ⟨none, none, false, .store 2 (.t 3) (.t 14), (some [1, 3])⟩]
abbrev k154_o2 : List AJ := [.o ⟨(some 15), none, false, .load 1 false (.t 1), none⟩, .o ⟨(some 16), none, false, .nilchk (.t 15), none⟩, .o ⟨(some 17), none, false, .fieldA 2 (.t 16), none⟩, .o ⟨(some 18), none, false, .load 1 false (.t 17), none⟩, .o ⟨(some 19), none, false, .mkfn 172 [(.t 3), (.t 1)], none⟩, .o ⟨(some 20), none, false, .call 149 [(.t 18), (.t 19)], none⟩, .o ⟨(some 21), none, false, .un .not (.t 20), none⟩, .o ⟨(some 2), none, false, .mv (.t 21), (some [2])⟩]
def k154_3 : ACode := .seq (.region k154_o2) .ret
def k154_4 : ACode := .seq (.drawT 0 k154_o1 rfl) k154_3
def k154_5 : ACode := .seq (.region k154_o0) k154_4
@[simp, simp ↓] theorem k154_3r : sR k154_3 k154_o2 .ret := yR rfl
@[simp, simp ↓] theorem k154_4r : sT k154_4 k154_o1 k154_3 := yT rfl
@[simp, simp ↓] theorem k154_5r : sR k154_5 k154_o0 k154_4 := yR rfl
noncomputable abbrev k154_C : Orc → Cx := mkC Try.prog [3] 154 22 [.tmp 2]
theorem k154_of : OfP Try.prog Try.f154 154 22 k154_C k154_5 := @ofP _ _ _ _ _ _ _ _ Try.func154 (by decide +kernel) rfl (by kernel_rfl) rfl (by kernel_rfl)
theorem supp_s (ts : List Tb) (cols row : List Int) (a : Int) (b : Bool) (fs : List (List Int)) (h : Heap) (hok : tbsOk ts) (hl : tbsTot ts ≤ 1048576) (hc : cols.length ≤ 1048576) (hw : row.length ≤ cols.length) : ACalls Try.prog 154 [.ip [.int .i64 a, .bool b, .snap 2 (ts.map Tb.av), .snap 1 (cols.map iv), .snap 1 (row.map iv), .snap 1 (fs.map il)]] h (fun v h' => v = .bool (suppT ts cols row) ∧ h' = h) := by
  refine k154_of rfl noPure fun I => ?_
  refine Run2.of I 1000 ?_
  simp -implicitDefEqProofs [hw]
  intro id hid
  rw [← List.map_take]
  refine ACalls.frz id (b := ⟨2, [.agg [.snap 1 ((cols.take row.length).map iv), .nilsl]]⟩) (by simp [hget]) ?_
  have c1 : cold (.snap 2 (ts.map Tb.av)) = true := by simp [cold, colds_Tb]
  have c2 : cold (.snap 1 (fs.map il)) = true := by simp [cold]
  have e1 : fzs id ⟨2, [.agg [.snap 1 ((cols.take row.length).map iv), .nilsl]]⟩ [.snap 2 (ts.map Tb.av), .fn 172 [.ptr id 2 0 0, .ip [.ip [.int .i64 a, .bool b, .snap 2 (ts.map Tb.av), .snap 1 (cols.map iv), .snap 1 (row.map iv), .snap 1 (fs.map il)]]]] = [.snap 2 (ts.map Tb.av), .fn 172 [.ip [.snap 1 ((cols.take row.length).map iv), .nilsl], .ip [.ip [.int .i64 a, .bool b, .snap 2 (ts.map Tb.av), .snap 1 (cols.map iv), .snap 1 (row.map iv), .snap 1 (fs.map il)]]]] := by
    have z1 := fz_cold id ⟨2, [.agg [.snap 1 ((cols.take row.length).map iv), .nilsl]]⟩ _ c1
    have z2 := fz_cold id ⟨2, [.agg [.snap 1 ((cols.take row.length).map iv), .nilsl]]⟩ _ c2
    simp only [fz, AV.snap.injEq, true_and] at z1 z2
    simp [-List.map_take, fzs, fz, cellsOf, z1, z2]
  rw [e1]
  simp only [hdel, if_true]
  have hlen := tbs_len hl
  refine (ContainsFuncT_s ts _ _ (fun t => !t.rows.any fun r => fitT t.cols r (cols.take row.length) row) h hlen fun t ht => supp1_s t (cols.take row.length) row _ _ _ _ _ (by simp) (by simp) (by simp) (by simp) h (hok.2 t ht) (tbs_mem' ht hl) (by rw [List.length_take]; omega) (by rw [List.length_take]; omega)).mono ?_
  rintro v h' ⟨rfl, rfl⟩
  refine gK.go ?_
  simp -implicitDefEqProofs
  refine .base ⟨?_, rfl⟩
  unfold suppT
  rw [AV.bool.injEq, Bool.eq_iff_iff]
  simp
end Go.AG
namespace Go.AG
open Go.Proofs Go.Proofs.Ytebkdegjiollbaa
set_option linter.unusedSimpArgs false
set_option linter.unusedVariables false
set_option maxRecDepth 4000
/-- A cell of a row; -1 if there is none. -/
def cel (cs r : List Int) (c : Int) : Int := if c ∈ cs then vl cs r c else -1
abbrev k175_o0 : List AJ := [.o ⟨(some 6), none, false, .mv (.c (.int .i64 0)), (some [0, 1, 2])⟩]
abbrev k175_o1 : List AJ := [.o ⟨(some 7), none, false, .mv (.c (.int .i64 0)), (some [0, 1, 2, 7])⟩]
abbrev k175_o2 : List AJ := [.o ⟨(some 8), none, false, .mv (.t 7), none⟩, .o ⟨(some 9), none, false, .mv (.t 0), none⟩, .o ⟨(some 10), none, false, .len (.t 9), none⟩, .o ⟨(some 11), none, false, .bin .lss (.t 8) (.t 10), (some [0, 1, 2, 7, 11])⟩]
def k175_3 : ACode := .cond (.t 11) .skip (.exit 0)
def k175_4 : ACode := .seq (.region k175_o2) k175_3
abbrev k175_o3 : List AJ := [.o ⟨(some 14), none, false, .mv (.t 0), none⟩, .o ⟨(some 15), none, false, .mv (.t 7), none⟩, .o ⟨(some 16), none, false, .idxA 1 (.t 14) (.t 15), none⟩, .o ⟨(some 17), none, false, .load 1 false (.t 16), none⟩, .o ⟨(some 18), none, false, .mv (.t 2), none⟩, .o ⟨(some 19), none, false, .bin .eql (.t 17) (.t 18), (some [0, 1, 2, 7, 19])⟩]
abbrev k175_o4 : List AJ := [.o ⟨(some 20), none, false, .mv (.t 1), none⟩, .o ⟨(some 21), none, false, .mv (.t 7), none⟩, .o ⟨(some 22), none, false, .idxA 1 (.t 20) (.t 21), none⟩, .o ⟨(some 23), none, false, .load 1 false (.t 22), none⟩, .o ⟨(some 6), none, false, .mv (.t 23), (some [6])⟩]
def k175_7 : ACode := .seq (.region k175_o4) .ret
def k175_8 : ACode := .cond (.t 19) k175_7 .skip
def k175_9 : ACode := .seq (.region k175_o3) k175_8
abbrev k175_o5 : List AJ := [.o ⟨(some 12), none, false, .mv (.t 7), none⟩, .o ⟨(some 13), none, true, .bin .add (.t 12) (.c (.int .i64 1)), none⟩, .o ⟨(some 7), none, false, .mv (.t 13), (some [0, 1, 2, 7])⟩]
def k175_11 : ACode := .region k175_o5
def k175_12 : ACode := .seq (.block 1 k175_9) k175_11
def k175_13 : ACode := .seq k175_4 k175_12
def k175_14 : ACode := .loop k175_13
def k175_15 : ACode := .block 0 k175_14
def k175_16 : ACode := .seq (.region k175_o1) k175_15
abbrev k175_o6 : List AJ := [.o ⟨(some 6), none, false, .mv (.c (.int .i64 (-1))), (some [6])⟩]
def k175_18 : ACode := .seq (.region k175_o6) .ret
def k175_19 : ACode := .seq k175_16 k175_18
def k175_20 : ACode := .seq (.region k175_o0) k175_19
@[simp, simp ↓] theorem k175_3r : rC k175_3 (.t 11) .skip (.exit 0) := zC rfl
@[simp, simp ↓] theorem k175_4r : sR k175_4 k175_o2 k175_3 := yR rfl
@[simp, simp ↓] theorem k175_7r : sR k175_7 k175_o4 .ret := yR rfl
@[simp, simp ↓] theorem k175_8r : rC k175_8 (.t 19) k175_7 .skip := zC rfl
@[simp, simp ↓] theorem k175_9r : sR k175_9 k175_o3 k175_8 := yR rfl
@[simp, simp ↓] theorem k175_11r : rR k175_11 k175_o5 := zR rfl
@[simp, simp ↓] theorem k175_12r : sB k175_12 1 k175_9 k175_11 := yB rfl
@[simp, simp ↓] theorem k175_13r : rS k175_13 k175_4 k175_12 := zS rfl
@[simp, simp ↓] theorem k175_14r : rL k175_14 k175_13 := zL rfl
@[simp, simp ↓] theorem k175_15r : rB k175_15 0 k175_14 := zB rfl
@[simp, simp ↓] theorem k175_16r : sR k175_16 k175_o1 k175_15 := yR rfl
@[simp, simp ↓] theorem k175_18r : sR k175_18 k175_o6 .ret := yR rfl
@[simp, simp ↓] theorem k175_19r : rS k175_19 k175_16 k175_18 := zS rfl
@[simp, simp ↓] theorem k175_20r : sR k175_20 k175_o0 k175_19 := yR rfl
noncomputable abbrev k175_C : Orc → Cx := mkC Try.prog [] 175 24 [.tmp 6]
theorem k175_of0 : OfP0 Try.prog Try.f175 175 24 k175_C k175_20 := @ofP0 _ _ _ _ _ _ _ _ Try.func175 (by decide +kernel) rfl (by kernel_rfl) rfl (by kernel_rfl)
theorem l20Cell_s (cs r : List Int) (c : Int) (h : Heap) (hl : cs.length ≤ 1048576) (hr : r.length = cs.length) : ACalls Try.prog 175 [.snap 1 (cs.map iv), .snap 1 (r.map iv), .int .i64 c] h (fun v h' => v = .int .i64 (cel cs r c) ∧ h' = h) := by
  refine k175_of0 rfl noPure fun I => ?_
  refine Run2.of I 1000 ?_
  simp -implicitDefEqProofs
  refine Run2.loopE (fun (i : Nat) => [(0, .snap 1 (cs.map iv)), (1, .snap 1 (r.map iv)), (2, .int .i64 c), (7, .int .i64 i)]) (fun i => h) (fun i => cs.length - i) (fun i => i ≤ cs.length ∧ ∀ j (hj : j < cs.length), j < i → decide (c = cs[j]) = false) 0 (by simp) rfl ⟨Nat.zero_le _, fun _ _ h => absurd h (Nat.not_lt_zero _)⟩ fun i hi ih => ?_
  by_cases hlt : i < cs.length
  · have hlt2 : i < r.length := by omega
    by_cases he : cs[i] = c
    · have hat := idxf_at (q := fun a => decide (c = a)) hlt hi.2 (by simp [he])
      have hm : c ∈ cs := he ▸ List.getElem_mem hlt
      have hvl : cel cs r c = r[i] := by unfold cel; rw [if_pos hm]; unfold vl ixI; rw [hat]; simp [hlt2]
      clear ih
      refine Run2.of I 1000 ?_
      simp -implicitDefEqProofs [hlt, hlt2, he]
      exact hvl.symm
    · have go := ih (i + 1) ⟨by omega, fun j hj hji => by
        rcases Nat.lt_or_ge j i with h | h
        · exact hi.2 j hj h
        · obtain rfl : j = i := by omega
          simpa using Ne.symm he⟩ (by omega)
      clear ih
      refine Run2.of I 1000 ?_
      simp -implicitDefEqProofs [hlt, hlt2, he]
      exact ⟨by omega, by simpa using go⟩
  · have hno : cel cs r c = -1 := by
      unfold cel
      rw [if_neg]
      intro hm
      obtain ⟨j, hj, ej⟩ := List.mem_iff_getElem.1 hm
      have := hi.2 j hj (by omega)
      simp [ej] at this
    clear ih
    refine Run2.of I 1000 ?_
    simp -implicitDefEqProofs [hlt]
    exact hno.symm
noncomputable def o_l20Cell : List AV → Option (Prop × AV) := tab (fun (x : List Int × List Int × Int) => match x with | (cs, r, c) => [.snap 1 (cs.map iv), .snap 1 (r.map iv), .int .i64 c]) (fun x => match x with | (cs, r, c) => (cs.length ≤ 1048576 ∧ r.length = cs.length)) (fun x => match x with | (cs, r, c) => .int .i64 (cel cs r c))
@[simp] theorem o_l20Cell_e (cs : List Int) (r : List Int) (c : Int) : o_l20Cell [.snap 1 (cs.map iv), .snap 1 (r.map iv), .int .i64 c] = some ((cs.length ≤ 1048576 ∧ r.length = cs.length), .int .i64 (cel cs r c)) := tab_at (enc := fun (x : List Int × List Int × Int) => match x with | (cs, r, c) => [.snap 1 (cs.map iv), .snap 1 (r.map iv), .int .i64 c]) (fun x y h => by
  obtain ⟨cs1, r1, c1⟩ := x; obtain ⟨cs2, r2, c2⟩ := y; simp at h; simp [h] <;> omega) _ _ (cs, r, c)
theorem o_l20Cell_k : Knows Try.prog 175 o_l20Cell := tab_knows fun x hx h => by
  obtain ⟨cs, r, c⟩ := x; exact l20Cell_s cs r c h hx.1 hx.2
noncomputable def orcH1 : List (Nat × (List AV → Option (Prop × AV))) := (175, o_l20Cell) :: []
theorem orcH1_p : Pure Try.prog (lk orcH1) := (lk_pure o_l20Cell_k lk_pure0)
@[simp] theorem orcH1_l (b : Bool) (g : FuncId) (l : List AV) : lk orcH1 b g l = if g = 175 then o_l20Cell l else none := nr rfl
theorem riseS_pw {l : List Int} (h : riseS l) : l.Pairwise (· < ·) := by
  have : ∀ (d i : Nat) (hi : i + 1 + d < l.length), l[i]'(by omega) < l[i + 1 + d] := by
    intro d
    induction d with
    | zero => intro i hi; exact h i hi
    | succ d ih =>
      intro i hi
      have h1 := ih i (by omega)
      have h2 := h (i + 1 + d) (by omega)
      have : l[i + 1 + (d + 1)] = l[i + 1 + d + 1] := rfl
      rw [this]; omega
  refine List.pairwise_iff_getElem.2 fun i j hi hj hij => ?_
  obtain ⟨d, rfl⟩ : ∃ d, j = i + 1 + d := ⟨j - i - 1, by omega⟩
  exact this d i hj
/-- Fitting, cell by cell. -/
theorem fitT_iff {cs r told row : List Int} (hr : r.length = cs.length) (h0 : ∀ a ∈ r, 0 ≤ a) (hw : row.length = told.length) (hd : riseS told) : fitT cs r told row = true ↔ ∀ j (hj : j < told.length), 0 ≤ cel cs r told[j] → cel cs r told[j] = row[j]'(by omega) := by
  have hpw := riseS_pw hd
  unfold fitT prj
  rw [decide_eq_true_eq, List.map_inj_left]
  have hvl : ∀ j (hj : j < told.length), vl told row told[j] = row[j]'(by omega) := fun j hj => by
    obtain ⟨k, hk, hx, e1, e2, e3⟩ := vl_at hw (List.getElem_mem hj)
    have : k = j := by
      rcases Nat.lt_trichotomy k j with h | h | h
      · have := List.pairwise_iff_getElem.1 hpw k j hk hj h; omega
      · exact h
      · have := List.pairwise_iff_getElem.1 hpw j k hj hk h; omega
    subst this
    exact e3.symm
  constructor
  · intro h j hj hc
    have hm : told[j] ∈ cs := Classical.byContradiction fun hn => by
      unfold cel at hc; rw [if_neg hn] at hc; omega
    have := h told[j] (List.mem_filter.2 ⟨hm, by simp⟩)
    unfold cel
    rw [if_pos hm, this, hvl j hj]
  · intro h c hc
    obtain ⟨h1, h2⟩ := List.mem_filter.1 hc
    simp only [decide_eq_true_eq] at h2
    obtain ⟨j, hj, rfl⟩ := List.mem_iff_getElem.1 h2
    have hcel : cel cs r told[j] = vl cs r told[j] := if_pos h1
    have hp : 0 ≤ vl cs r told[j] := by
      obtain ⟨k, hk, hx, e1, e2, e3⟩ := vl_at hr h1
      rw [← e3]; exact h0 _ (List.getElem_mem hx)
    have := h j hj (by omega)
    rw [hvl j hj]; omega
abbrev k167_o0 : List AJ := [.o ⟨(some 8), none, false, .mv (.c (.bool false)), (some [0, 1, 2, 3])⟩]
abbrev k167_o1 : List AJ := [.o ⟨(some 9), none, false, .mv (.c (.int .i64 0)), (some [0, 1, 2, 3, 9])⟩]
abbrev k167_o2 : List AJ := [.o ⟨(some 11), none, false, .mv (.t 9), none⟩, .o ⟨(some 12), none, false, .mv (.t 0), none⟩, .o ⟨(some 13), none, false, .nilchk (.t 12), none⟩, .o ⟨(some 14), none, false, .fieldA 0 (.t 13), none⟩, .o ⟨(some 15), none, false, .load 1 false (.t 14), none⟩, .o ⟨(some 16), none, false, .len (.t 15), none⟩, .o ⟨(some 17), none, false, .bin .lss (.t 11) (.t 16), (some [0, 1, 2, 3, 9, 17])⟩]
def k167_3 : ACode := .cond (.t 17) .skip (.exit 0)
def k167_4 : ACode := .seq (.region k167_o2) k167_3
abbrev k167_o3 : List AI := [⟨(some 20), none, false, .mv (.t 1), none⟩, ⟨(some 21), none, false, .nilchk (.t 20), none⟩, ⟨(some 22), none, false, .fieldA 0 (.t 21), none⟩, ⟨(some 23), none, false, .load 1 false (.t 22), none⟩, ⟨(some 24), none, false, .mv (.t 3), none⟩, ⟨(some 25), none, false, .mv (.t 0), none⟩, ⟨(some 26), none, false, .nilchk (.t 25), none⟩, ⟨(some 27), none, false, .fieldA 0 (.t 26), none⟩, ⟨(some 28), none, false, .load 1 false (.t 27), none⟩, ⟨(some 29), none, false, .mv (.t 9), none⟩, ⟨(some 30), none, false, .idxA 1 (.t 28) (.t 29), none⟩, ⟨(some 31), none, false, .load 1 false (.t 30), none⟩, ⟨(some 32), none, false, .call 175 [(.t 23), (.t 24), (.t 31)], none⟩, ⟨(some 10), none, false, .mv (.t 32), (some [0, 1, 2, 3, 9, 10])⟩]
abbrev k167_o4 : List AJ := [.o ⟨(some 33), none, false, .mv (.t 10), none⟩, .o ⟨(some 34), none, false, .bin .geq (.t 33) (.c (.int .i64 0)), none⟩, .o ⟨(some 35), none, false, .mv (.t 34), none⟩, .o ⟨(some 36), (some (35, true)), false, .mv (.t 10), none⟩, .o ⟨(some 37), (some (35, true)), false, .mv (.t 2), none⟩, .o ⟨(some 38), (some (35, true)), false, .mv (.t 9), none⟩, .o ⟨(some 39), (some (35, true)), false, .idxA 1 (.t 37) (.t 38), none⟩, .o ⟨(some 40), (some (35, true)), false, .load 1 false (.t 39), none⟩, .o ⟨(some 41), (some (35, true)), false, .bin .neq (.t 36) (.t 40), (some [0, 1, 2, 3, 9, 35, 41])⟩, .o ⟨(some 42), none, false, .pick (.t 35) (.t 41) (.c (.bool false)), (some [0, 1, 2, 3, 9, 42])⟩]
abbrev k167_o5 : List AJ := [.o ⟨(some 8), none, false, .mv (.c (.bool false)), (some [8])⟩]
def k167_8 : ACode := .seq (.region k167_o5) .ret
def k167_9 : ACode := .cond (.t 42) k167_8 .skip
def k167_10 : ACode := .seq (.region k167_o4) k167_9
def k167_11 : ACode := .seq (.draw k167_o3 [] rfl) k167_10
abbrev k167_o6 : List AJ := [.o ⟨(some 18), none, false, .mv (.t 9), none⟩, .o ⟨(some 19), none, true, .bin .add (.t 18) (.c (.int .i64 1)), none⟩, .o ⟨(some 9), none, false, .mv (.t 19), (some [0, 1, 2, 3, 9])⟩]
def k167_13 : ACode := .region k167_o6
def k167_14 : ACode := .seq (.block 1 k167_11) k167_13
def k167_15 : ACode := .seq k167_4 k167_14
def k167_16 : ACode := .loop k167_15
def k167_17 : ACode := .block 0 k167_16
def k167_18 : ACode := .seq (.region k167_o1) k167_17
abbrev k167_o7 : List AJ := [.o ⟨(some 8), none, false, .mv (.c (.bool true)), (some [8])⟩]
def k167_20 : ACode := .seq (.region k167_o7) .ret
def k167_21 : ACode := .seq k167_18 k167_20
def k167_22 : ACode := .seq (.region k167_o0) k167_21
@[simp, simp ↓] theorem k167_3r : rC k167_3 (.t 17) .skip (.exit 0) := zC rfl
@[simp, simp ↓] theorem k167_4r : sR k167_4 k167_o2 k167_3 := yR rfl
@[simp, simp ↓] theorem k167_8r : sR k167_8 k167_o5 .ret := yR rfl
@[simp, simp ↓] theorem k167_9r : rC k167_9 (.t 42) k167_8 .skip := zC rfl
@[simp, simp ↓] theorem k167_10r : sR k167_10 k167_o4 k167_9 := yR rfl
@[simp, simp ↓] theorem k167_11r : sD k167_11 k167_o3 [] k167_10 := yD rfl
@[simp, simp ↓] theorem k167_13r : rR k167_13 k167_o6 := zR rfl
@[simp, simp ↓] theorem k167_14r : sB k167_14 1 k167_11 k167_13 := yB rfl
@[simp, simp ↓] theorem k167_15r : rS k167_15 k167_4 k167_14 := zS rfl
@[simp, simp ↓] theorem k167_16r : rL k167_16 k167_15 := zL rfl
@[simp, simp ↓] theorem k167_17r : rB k167_17 0 k167_16 := zB rfl
@[simp, simp ↓] theorem k167_18r : sR k167_18 k167_o1 k167_17 := yR rfl
@[simp, simp ↓] theorem k167_20r : sR k167_20 k167_o7 .ret := yR rfl
@[simp, simp ↓] theorem k167_21r : rS k167_21 k167_18 k167_20 := zS rfl
@[simp, simp ↓] theorem k167_22r : sR k167_22 k167_o0 k167_21 := yR rfl
noncomputable abbrev k167_C : Orc → Cx := mkC Try.prog [] 167 43 [.tmp 8]
theorem k167_of0 : OfP0 Try.prog Try.f167 167 43 k167_C k167_22 := @ofP0 _ _ _ _ _ _ _ _ Try.func167 (by decide +kernel) rfl (by kernel_rfl) rfl (by kernel_rfl)
theorem l20Fit_s (cs : List Int) (rs : List (List Int)) (r told row : List Int) (h : Heap) (hl : cs.length ≤ 1048576) (ht : told.length ≤ 1048576) (hr : r.length = cs.length) (h0 : ∀ a ∈ r, 0 ≤ a) (hw : row.length = told.length) (hd : riseS told) : ACalls Try.prog 167 [.ip [.snap 1 (told.map iv), .nilsl], .ip [.snap 1 (cs.map iv), .snap 1 (rs.map il)], .snap 1 (row.map iv), .snap 1 (r.map iv)] h (fun v h' => v = .bool (fitT cs r told row) ∧ h' = h) := by
  have hiff := fitT_iff hr h0 hw hd
  refine k167_of0 rfl orcH1_p fun I => ?_
  refine Run2.of I 1000 ?_
  simp -implicitDefEqProofs
  refine Run2.loopE (fun (i : Nat) => [(0, .ip [.snap 1 (told.map iv), .nilsl]), (1, .ip [.snap 1 (cs.map iv), .snap 1 (rs.map il)]), (2, .snap 1 (row.map iv)), (3, .snap 1 (r.map iv)), (9, .int .i64 i)]) (fun i => h) (fun i => told.length - i) (fun i => i ≤ told.length ∧ ∀ j (hj : j < told.length), j < i → 0 ≤ cel cs r told[j] → cel cs r told[j] = row[j]'(by omega)) 0 (by simp) rfl ⟨Nat.zero_le _, fun _ _ h => absurd h (Nat.not_lt_zero _)⟩ fun i hi ih => ?_
  by_cases hlt : i < told.length
  · have hlt2 : i < row.length := by omega
    have go := fun (h1 : 0 ≤ cel cs r told[i] → cel cs r told[i] = row[i]) => ih (i + 1) ⟨hlt, fun j hj hji => by
      rcases Nat.lt_or_ge j i with h | h
      · exact hi.2 j hj h
      · obtain rfl : j = i := by omega
        exact h1⟩ (by omega)
    have bad : ¬ (0 ≤ cel cs r told[i] → cel cs r told[i] = row[i]) → fitT cs r told row = false := fun h1 => by
      cases hf : fitT cs r told row with
      | false => rfl
      | true => exact absurd (hiff.1 hf i hlt) h1
    clear ih
    generalize hC : cel cs r told[i] = cc at *
    by_cases hc : 0 ≤ cc
    · by_cases he : cc = row[i]
      · have go := go fun _ => he
        refine Run2.of I 1000 ?_
        simp -implicitDefEqProofs [hlt, hlt2, hl, hr, hC, hc, he]
        exact ⟨fun _ => ⟨by omega, by simpa using go⟩, fun _ => ⟨by omega, by simpa using go⟩⟩
      · have hb := bad fun h => he (h hc)
        refine Run2.of I 1000 ?_
        simp -implicitDefEqProofs [hlt, hlt2, hl, hr, hC, hc, he, hb]
    · have go := go fun h => absurd h hc
      refine Run2.of I 1000 ?_
      simp -implicitDefEqProofs [hlt, hlt2, hl, hr, hC, hc]
      exact ⟨by omega, by simpa using go⟩
  · have hb : fitT cs r told row = true := hiff.2 fun j hj => hi.2 j hj (by omega)
    have hlt' : ¬ (i : Int) < told.length := by omega
    clear ih
    refine Run2.of I 1000 ?_
    simp -implicitDefEqProofs [hlt, hlt', hb]
noncomputable def o_l20Fit : List AV → Option (Prop × AV) := tab (fun (x : List Int × LS × List Int × List Int × List Int) => match x with | (cs, rs, r, told, row) => [.ip [.snap 1 (told.map iv), .nilsl], .ip [.snap 1 (cs.map iv), .snap 1 (rs.map il)], .snap 1 (row.map iv), .snap 1 (r.map iv)]) (fun x => match x with | (cs, rs, r, told, row) => ((cs.length ≤ 1048576 ∧ told.length ≤ 1048576 ∧ r.length = cs.length ∧ row.length = told.length) ∧ (∀ a ∈ r, 0 ≤ a) ∧ riseS told)) (fun x => match x with | (cs, rs, r, told, row) => .bool (fitT cs r told row))
@[simp] theorem o_l20Fit_e (cs : List Int) (rs : LS) (r : List Int) (told : List Int) (row : List Int) : o_l20Fit [.ip [.snap 1 (told.map iv), .nilsl], .ip [.snap 1 (cs.map iv), .snap 1 (rs.map il)], .snap 1 (row.map iv), .snap 1 (r.map iv)] = some (((cs.length ≤ 1048576 ∧ told.length ≤ 1048576 ∧ r.length = cs.length ∧ row.length = told.length) ∧ (∀ a ∈ r, 0 ≤ a) ∧ riseS told), .bool (fitT cs r told row)) := tab_at (enc := fun (x : List Int × LS × List Int × List Int × List Int) => match x with | (cs, rs, r, told, row) => [.ip [.snap 1 (told.map iv), .nilsl], .ip [.snap 1 (cs.map iv), .snap 1 (rs.map il)], .snap 1 (row.map iv), .snap 1 (r.map iv)]) (fun x y h => by
  obtain ⟨cs1, rs1, r1, told1, row1⟩ := x; obtain ⟨cs2, rs2, r2, told2, row2⟩ := y; simp at h; simp [h] <;> omega) _ _ (cs, rs, r, told, row)
theorem o_l20Fit_k : Knows Try.prog 167 o_l20Fit := tab_knows fun x hx h => by
  obtain ⟨cs, rs, r, told, row⟩ := x; exact l20Fit_s cs rs r told row h hx.1.1 hx.1.2.1 hx.1.2.2.1 hx.2.1 hx.1.2.2.2 hx.2.2
noncomputable def orcH2 : List (Nat × (List AV → Option (Prop × AV))) := (167, o_l20Fit) :: []
theorem orcH2_p : Pure Try.prog (lk orcH2) := (lk_pure o_l20Fit_k lk_pure0)
@[simp] theorem orcH2_l (b : Bool) (g : FuncId) (l : List AV) : lk orcH2 b g l = if g = 167 then o_l20Fit l else none := nr rfl
abbrev k148_o0 : List AJ := [.o ⟨(some 2), none, false, .mv (.c (.bool false)), (some [0])⟩]
abbrev k148_o1 : List AJ := [.o ⟨(some 7), none, false, .mv (.t 0), none⟩, .o ⟨(some 8), none, false, .nilchk (.t 7), none⟩, .o ⟨(some 9), none, false, .fieldA 1 (.t 8), none⟩, .o ⟨(some 10), none, false, .load 1 false (.t 9), none⟩, .o ⟨(some 11), none, false, .mv (.t 0), none⟩, .o ⟨(some 12), none, false, .nilchk (.t 11), none⟩, .o ⟨(some 13), none, false, .fieldA 2 (.t 12), none⟩, .o ⟨(some 14), none, false, .load 1 false (.t 13), none⟩, .o ⟨(some 15), none, false, .len (.t 14), none⟩, .o ⟨(some 16), none, false, .slice 1 (.t 10) none (some (.t 15)) none, none⟩, .o ⟨(some 17), none, false, .build [.nilsl, .nilsl] [(0, 1, (.t 16))], none⟩, .o ⟨(some 3), none, false, .alloc true 2 (.agg [.nilsl, .nilsl]), none⟩, .o ⟨none, none, false, .store 2 (.t 3) (.t 17), (some [0, 3])⟩]
abbrev k148_o2 : List AJ := [.o ⟨(some 4), none, false, .mv (.c (.int .i64 0)), (some [0, 3, 4])⟩]
abbrev k148_o3 : List AJ := [.o ⟨(some 18), none, false, .mv (.t 4), none⟩, .o ⟨(some 19), none, false, .mv (.t 0), none⟩, .o ⟨(some 20), none, false, .nilchk (.t 19), none⟩, .o ⟨(some 21), none, false, .fieldA 0 (.t 20), none⟩, .o ⟨(some 22), none, false, .load 1 false (.t 21), none⟩, .o ⟨(some 23), none, false, .len (.t 22), none⟩, .o ⟨(some 24), none, false, .bin .lss (.t 18) (.t 23), (some [0, 3, 4, 24])⟩]
def k148_4 : ACode := .cond (.t 24) .skip (.exit 0)
def k148_5 : ACode := .seq (.region k148_o3) k148_4
abbrev k148_o4 : List AJ := [.o ⟨(some 5), none, false, .mv (.c (.bool false)), (some [0, 3, 4, 5])⟩]
abbrev k148_o5 : List AJ := [.o ⟨(some 6), none, false, .mv (.c (.int .i64 0)), (some [0, 3, 4, 5, 6])⟩]
abbrev k148_o6 : List AJ := [.o ⟨(some 27), none, false, .mv (.t 6), none⟩, .o ⟨(some 28), none, false, .mv (.t 0), none⟩, .o ⟨(some 29), none, false, .nilchk (.t 28), none⟩, .o ⟨(some 30), none, false, .fieldA 0 (.t 29), none⟩, .o ⟨(some 31), none, false, .load 1 false (.t 30), none⟩, .o ⟨(some 32), none, false, .mv (.t 4), none⟩, .o ⟨(some 33), none, false, .idxA 2 (.t 31) (.t 32), none⟩, .o ⟨(some 34), none, false, .fieldA 1 (.t 33), none⟩, .o ⟨(some 35), none, false, .load 1 false (.t 34), none⟩, .o ⟨(some 36), none, false, .len (.t 35), none⟩, .o ⟨(some 37), none, false, .bin .lss (.t 27) (.t 36), (some [0, 3, 4, 5, 6, 37])⟩]
def k148_9 : ACode := .cond (.t 37) .skip (.exit 2)
def k148_10 : ACode := .seq (.region k148_o6) k148_9
abbrev k148_o7 : List AI := [⟨(some 40), none, false, .mv (.t 5), none⟩, ⟨(some 41), none, false, .mv (.t 40), none⟩, ⟨(some 42), (some (41, false)), false, .mv (.t 0), none⟩, ⟨(some 43), (some (41, false)), false, .nilchk (.t 42), none⟩, ⟨(some 44), (some (41, false)), false, .fieldA 0 (.t 43), none⟩, ⟨(some 45), (some (41, false)), false, .load 1 false (.t 44), none⟩, ⟨(some 46), (some (41, false)), false, .mv (.t 4), none⟩, ⟨(some 47), (some (41, false)), false, .idxA 2 (.t 45) (.t 46), (some [0, 3, 4, 6, 41, 47])⟩, ⟨(some 48), (some (41, false)), false, .mv (.t 0), none⟩, ⟨(some 49), (some (41, false)), false, .nilchk (.t 48), none⟩, ⟨(some 50), (some (41, false)), false, .fieldA 2 (.t 49), none⟩, ⟨(some 51), (some (41, false)), false, .load 1 false (.t 50), none⟩, ⟨(some 52), (some (41, false)), false, .mv (.t 0), none⟩, ⟨(some 53), (some (41, false)), false, .nilchk (.t 52), none⟩, ⟨(some 54), (some (41, false)), false, .fieldA 0 (.t 53), (some [0, 3, 4, 6, 41, 47, 51, 54])⟩, ⟨(some 55), (some (41, false)), false, .load 1 false (.t 54), none⟩, ⟨(some 56), (some (41, false)), false, .mv (.t 4), none⟩, ⟨(some 57), (some (41, false)), false, .idxA 2 (.t 55) (.t 56), none⟩, ⟨(some 58), (some (41, false)), false, .fieldA 1 (.t 57), none⟩, ⟨(some 59), (some (41, false)), false, .load 1 false (.t 58), none⟩, ⟨(some 60), (some (41, false)), false, .mv (.t 6), none⟩, ⟨(some 61), (some (41, false)), false, .idxA 1 (.t 59) (.t 60), (some [0, 3, 4, 6, 41, 47, 51, 61])⟩, ⟨(some 62), (some (41, false)), false, .load 1 false (.t 61), none⟩, ⟨(some 63), (some (41, false)), false, .call 167 [(.t 3), (.t 47), (.t 51), (.t 62)], none⟩, ⟨(some 64), none, false, .pick (.t 41) (.c (.bool true)) (.t 63), none⟩, ⟨(some 5), none, false, .mv (.t 64), (some [0, 3, 4, 5, 6])⟩]
def k148_11 : ACode := .draw k148_o7 [] rfl
abbrev k148_o8 : List AJ := [.o ⟨(some 38), none, false, .mv (.t 6), none⟩, .o ⟨(some 39), none, true, .bin .add (.t 38) (.c (.int .i64 1)), none⟩, .o ⟨(some 6), none, false, .mv (.t 39), (some [0, 3, 4, 5, 6])⟩]
def k148_13 : ACode := .region k148_o8
def k148_14 : ACode := .seq (.block 3 k148_11) k148_13
def k148_15 : ACode := .seq k148_10 k148_14
def k148_16 : ACode := .loop k148_15
def k148_17 : ACode := .block 2 k148_16
def k148_18 : ACode := .seq (.region k148_o5) k148_17
abbrev k148_o9 : List AJ := [.o ⟨(some 65), none, false, .mv (.t 5), none⟩, .o ⟨(some 66), none, false, .un .not (.t 65), (some [0, 3, 4, 66])⟩]
abbrev k148_o10 : List AJ := [.o ⟨(some 2), none, false, .mv (.c (.bool false)), (some [2])⟩]
def k148_21 : ACode := .seq (.region k148_o10) .ret
def k148_22 : ACode := .cond (.t 66) k148_21 .skip
def k148_23 : ACode := .seq (.region k148_o9) k148_22
def k148_24 : ACode := .seq k148_18 k148_23
def k148_25 : ACode := .seq (.region k148_o4) k148_24
abbrev k148_o11 : List AJ := [.o ⟨(some 25), none, false, .mv (.t 4), none⟩, .o ⟨(some 26), none, true, .bin .add (.t 25) (.c (.int .i64 1)), none⟩, .o ⟨(some 4), none, false, .mv (.t 26), (some [0, 3, 4])⟩]
def k148_27 : ACode := .region k148_o11
def k148_28 : ACode := .seq (.block 1 k148_25) k148_27
def k148_29 : ACode := .seq k148_5 k148_28
def k148_30 : ACode := .loop k148_29
def k148_31 : ACode := .block 0 k148_30
def k148_32 : ACode := .seq (.region k148_o2) k148_31
abbrev k148_o12 : List AJ := [.o ⟨(some 2), none, false, .mv (.c (.bool true)), (some [2])⟩]
def k148_34 : ACode := .seq (.region k148_o12) .ret
def k148_35 : ACode := .seq k148_32 k148_34
def k148_36 : ACode := .seq (.drawT 0 k148_o1 rfl) k148_35
def k148_37 : ACode := .seq (.region k148_o0) k148_36
@[simp, simp ↓] theorem k148_4r : rC k148_4 (.t 24) .skip (.exit 0) := zC rfl
@[simp, simp ↓] theorem k148_5r : sR k148_5 k148_o3 k148_4 := yR rfl
@[simp, simp ↓] theorem k148_9r : rC k148_9 (.t 37) .skip (.exit 2) := zC rfl
@[simp, simp ↓] theorem k148_10r : sR k148_10 k148_o6 k148_9 := yR rfl
@[simp, simp ↓] theorem k148_11r : rD k148_11 k148_o7 [] := zD rfl
@[simp, simp ↓] theorem k148_13r : rR k148_13 k148_o8 := zR rfl
@[simp, simp ↓] theorem k148_14r : sB k148_14 3 k148_11 k148_13 := yB rfl
@[simp, simp ↓] theorem k148_15r : rS k148_15 k148_10 k148_14 := zS rfl
@[simp, simp ↓] theorem k148_16r : rL k148_16 k148_15 := zL rfl
@[simp, simp ↓] theorem k148_17r : rB k148_17 2 k148_16 := zB rfl
@[simp, simp ↓] theorem k148_18r : sR k148_18 k148_o5 k148_17 := yR rfl
@[simp, simp ↓] theorem k148_21r : sR k148_21 k148_o10 .ret := yR rfl
@[simp, simp ↓] theorem k148_22r : rC k148_22 (.t 66) k148_21 .skip := zC rfl
@[simp, simp ↓] theorem k148_23r : sR k148_23 k148_o9 k148_22 := yR rfl
@[simp, simp ↓] theorem k148_24r : rS k148_24 k148_18 k148_23 := zS rfl
@[simp, simp ↓] theorem k148_25r : sR k148_25 k148_o4 k148_24 := yR rfl
@[simp, simp ↓] theorem k148_27r : rR k148_27 k148_o11 := zR rfl
@[simp, simp ↓] theorem k148_28r : sB k148_28 1 k148_25 k148_27 := yB rfl
@[simp, simp ↓] theorem k148_29r : rS k148_29 k148_5 k148_28 := zS rfl
@[simp, simp ↓] theorem k148_30r : rL k148_30 k148_29 := zL rfl
@[simp, simp ↓] theorem k148_31r : rB k148_31 0 k148_30 := zB rfl
@[simp, simp ↓] theorem k148_32r : sR k148_32 k148_o2 k148_31 := yR rfl
@[simp, simp ↓] theorem k148_34r : sR k148_34 k148_o12 .ret := yR rfl
@[simp, simp ↓] theorem k148_35r : rS k148_35 k148_32 k148_34 := zS rfl
@[simp, simp ↓] theorem k148_36r : sT k148_36 k148_o1 k148_35 := yT rfl
@[simp, simp ↓] theorem k148_37r : sR k148_37 k148_o0 k148_36 := yR rfl
noncomputable abbrev k148_C : Orc → Cx := mkC Try.prog [3] 148 67 [.tmp 2]
theorem k148_of : OfP Try.prog Try.f148 148 67 k148_C k148_37 := @ofP _ _ _ _ _ _ _ _ Try.func148 (by decide +kernel) rfl (by kernel_rfl) rfl (by kernel_rfl)
theorem fitsG_s (ts : List Tb) (cols row : List Int) (fs : List (List Int)) (a c : Int) (b0 : Bool) (h : Heap) (hok : tbsOk ts) (hl : tbsTot ts ≤ 1048576) (hc : cols.length ≤ 1048576) (hcr : riseS cols) (hw : row.length ≤ cols.length) : ACalls Try.prog 148 [.ip [.snap 2 (ts.map Tb.av), .snap 1 (cols.map iv), .snap 1 (row.map iv), .snap 1 (fs.map il),   .int .i64 a, .int .i64 c, .bool b0]] h (fun v h' => v = .bool (suppT ts cols row) ∧ h' = h) := by
  obtain ⟨told, hT⟩ : ∃ told, told = cols.take row.length := ⟨_, rfl⟩
  have htl : row.length = told.length := by rw [hT, List.length_take]; omega
  have htr : riseS told := fun j hj => by
    subst hT
    rw [List.length_take] at hj
    simp only [List.getElem_take]
    exact hcr j (by omega)
  have htl2 : told.length ≤ 1048576 := by omega
  have hlen := tbs_len hl
  refine k148_of rfl orcH2_p fun I => ?_
  refine Run2.of I 1000 ?_
  simp -implicitDefEqProofs [hw]
  intro id hid
  have z1 : ∀ b, fz id b (.ip [.snap 2 (ts.map Tb.av), .snap 1 (cols.map iv), .snap 1 (row.map iv), .snap 1 (fs.map il), .int .i64 a, .int .i64 c, .bool b0]) = .ip [.snap 2 (ts.map Tb.av), .snap 1 (cols.map iv), .snap 1 (row.map iv), .snap 1 (fs.map il), .int .i64 a, .int .i64 c, .bool b0] := fun b => fz_cold id b _ (by simp [cold, colds, colds_Tb])
  rw [← List.map_take, ← hT]
  refine Run2.freezeS (b := ⟨2, [.agg [.snap 1 (told.map iv), .nilsl]]⟩) (h' := h) (e' := [(0, .ip [.snap 2 (ts.map Tb.av), .snap 1 (cols.map iv), .snap 1 (row.map iv), .snap 1 (fs.map il), .int .i64 a, .int .i64 c, .bool b0]), (3, .ip [.snap 1 (told.map iv), .nilsl]), (4, .int .i64 0)]) id (by simp [hget]) (by simp [hdel]) (fun p hp => .inl (by simpa [hdel] using hp)) (fun t => ?_) ?_
  · by_cases ht : t = 3
    · subst ht
      right
      simp [eget, fz, cellsOf]
    · left
      simp [eget, ht, Ne.symm ht]
  have hsup : suppT ts cols row = ts.all fun t => t.rows.any fun r => fitT t.cols r told row := by rw [hT]; rfl
  rw [hsup]
  clear z1 hsup
  refine Run2.loopE (fun (i : Nat) => [(0, .ip [.snap 2 (ts.map Tb.av), .snap 1 (cols.map iv), .snap 1 (row.map iv), .snap 1 (fs.map il), .int .i64 a, .int .i64 c, .bool b0]), (3, .ip [.snap 1 (told.map iv), .nilsl]), (4, .int .i64 i)]) (fun i => h) (fun i => ts.length - i) (fun i => i ≤ ts.length ∧ ∀ j (hj : j < ts.length), j < i → (ts[j].rows.any fun r => fitT ts[j].cols r told row) = true) 0 (by simp) rfl ⟨Nat.zero_le _, fun _ _ h => absurd h (Nat.not_lt_zero _)⟩ fun i hi ih => ?_
  by_cases hlt : i < ts.length
  · have htv := hok.2 _ (List.getElem_mem hlt)
    have hti := Tb.fit (tbs_mem' (List.getElem_mem hlt) hl)
    have go := fun (h1 : (ts[i].rows.any fun r => fitT ts[i].cols r told row) = true) => ih (i + 1) ⟨hlt, fun j hj hji => by
      rcases Nat.lt_or_ge j i with h | h
      · exact hi.2 j hj h
      · obtain rfl : j = i := by omega
        exact h1⟩ (by omega)
    have bad : (ts[i].rows.any fun r => fitT ts[i].cols r told row) = false → (ts.all fun t => t.rows.any fun r => fitT t.cols r told row) = false := fun h1 => by
      rw [List.all_eq_false]
      exact ⟨ts[i], List.getElem_mem hlt, by rw [h1]; simp⟩
    clear ih
    refine Run2.of I 1000 ?_
    simp -implicitDefEqProofs [hlt]
    refine Run2.loopE (fun (k : Nat) => [(0, .ip [.snap 2 (ts.map Tb.av), .snap 1 (cols.map iv), .snap 1 (row.map iv), .snap 1 (fs.map il), .int .i64 a, .int .i64 c, .bool b0]), (3, .ip [.snap 1 (told.map iv), .nilsl]), (4, .int .i64 i), (5, .bool ((ts[i].rows.take k).any fun r => fitT ts[i].cols r told row)), (6, .int .i64 k)]) (fun k => h) (fun k => ts[i].rows.length - k) (fun k => k ≤ ts[i].rows.length) 0 (by simp) (by simp) (Nat.zero_le _) fun k hk ihk => ?_
    replace hk : k ≤ ts[i].rows.length := hk
    by_cases hlk : k < ts[i].rows.length
    · have hrow := htv.2.2 k hlk
      have h0 : ∀ a ∈ ts[i].rows[k], 0 ≤ a := fun a ha => (hrow.2.1 a ha).1
      have hst : (ts[i].rows.take (k + 1)).any (fun r => fitT ts[i].cols r told row) = ((ts[i].rows.take k).any (fun r => fitT ts[i].cols r told row) || fitT ts[i].cols ts[i].rows[k] told row) := by
        rw [List.take_succ_eq_append_getElem hlk, List.any_append]; simp
      have go2 := ihk (k + 1) (by show _ ≤ _; omega) (by omega)
      rw [hst] at go2
      clear ihk hst go
      generalize (ts[i].rows.take k).any (fun r => fitT ts[i].cols r told row) = f at *
      cases f with
      | true =>
        refine Run2.of I 1000 ?_
        simp -implicitDefEqProofs [hlt, hlk]
        exact ⟨by omega, by simpa using go2⟩
      | false =>
        refine Run2.of I 1000 ?_
        simp -implicitDefEqProofs [hlt, hlk, hti.1, htl, htl2, hrow.1, htr]
        exact ⟨h0, by omega, by simpa using go2⟩
    · obtain rfl : k = ts[i].rows.length := by omega
      rw [List.take_length]
      clear ihk
      by_cases hf : (ts[i].rows.any fun r => fitT ts[i].cols r told row) = true
      · have go := go hf
        rw [hf]
        refine Run2.of I 1000 ?_
        simp -implicitDefEqProofs [hlt]
        exact ⟨by omega, by simpa using go⟩
      · have hf : (ts[i].rows.any fun r => fitT ts[i].cols r told row) = false := by simpa using hf
        have hb := bad hf
        rw [hf, hb]
        refine Run2.of I 1000 ?_
        simp -implicitDefEqProofs [hlt]
        exact .base ⟨rfl, rfl⟩
  · have hall : (ts.all fun t => t.rows.any fun r => fitT t.cols r told row) = true := by
      rw [List.all_eq_true]
      intro t ht
      obtain ⟨j, hj, rfl⟩ := List.mem_iff_getElem.1 ht
      exact hi.2 j hj (by omega)
    have hlt' : ¬ (i : Int) < ts.length := by omega
    rw [hall]
    clear ih
    refine Run2.of I 1000 ?_
    simp -implicitDefEqProofs [hlt, hlt']
    exact .base ⟨rfl, rfl⟩
end Go.AG
namespace Go.AG
open Go.Proofs Go.Proofs.Ytebkdegjiollbaa
set_option linter.unusedSimpArgs false
set_option linter.unusedVariables false
set_option maxRecDepth 4000
abbrev SrS := List (List Int) × Int × Bool
/-- The search: the rows that are found, the nodes, and whether there were too many. -/
def srL (fit : List Int → Bool) (B : Int) : Nat → List Int → SrS → SrS
  | 0, im, s => (if fit im = true then s.1 ++ [im] else s.1, s.2.1, s.2.2)
  | d + 1, im, s => (List.range 4).foldl (fun s (v : Nat) => if s.2.2 = true then s else if fit (im ++ [(v : Int)]) = true then (if s.2.1 = B then (s.1, s.2.1, true) else srL fit B d (im ++ [(v : Int)]) (s.1, s.2.1 + 1, s.2.2)) else s) s
def lstep (fit : List Int → Bool) (B : Int) (d : Nat) (im : List Int) (s : SrS) (v : Nat) : SrS := if s.2.2 = true then s else if fit (im ++ [(v : Int)]) = true then (if s.2.1 = B then (s.1, s.2.1, true) else srL fit B d (im ++ [(v : Int)]) (s.1, s.2.1 + 1, s.2.2)) else s
theorem srL_succ (fit : List Int → Bool) (B : Int) (d : Nat) (im : List Int) (s : SrS) : srL fit B (d + 1) im s = (List.range 4).foldl (lstep fit B d im) s := rfl
theorem lstep_full (fit : List Int → Bool) (B : Int) (d : Nat) (im : List Int) (l : List Nat) (c : List (List Int)) (k : Int) : l.foldl (lstep fit B d im) (c, k, true) = (c, k, true) := by
  induction l with
  | nil => rfl
  | cons v l ih => rw [List.foldl_cons, show lstep fit B d im (c, k, true) v = (c, k, true) by simp [lstep], ih]
/-- Bounds of what is found. -/
theorem srL_bd (fit : List Int → Bool) (B : Int) : ∀ (d : Nat) (im : List Int) (s : SrS) (e : Int), (s.1.length : Int) + e ≤ s.2.1 → s.2.1 ≤ B →
    (s.2.1 ≤ (srL fit B d im s).2.1 ∧ (srL fit B d im s).2.1 ≤ B ∧ ((srL fit B d im s).1.length : Int) + e ≤ (srL fit B d im s).2.1 + 1) ∧ ((∀ r ∈ s.1, r.length = im.length + d) → ∀ r ∈ (srL fit B d im s).1, r.length = im.length + d)
  | 0, im, s, e, h1, h2 => by
    simp only [srL]
    split
    · refine ⟨by simp; omega, fun hr r hm => ?_⟩
      rcases List.mem_append.1 hm with hm | hm
      · exact hr r hm
      · rw [List.mem_singleton.1 hm]; simp
    · exact ⟨by omega, fun hr => hr⟩
  | d + 1, im, s, e, h1, h2 => by
    have ih := srL_bd fit B d
    rw [srL_succ]
    suffices h : ∀ (l : List Nat) (s : SrS), (s.1.length : Int) + e ≤ s.2.1 → s.2.1 ≤ B → (s.2.1 ≤ (l.foldl (lstep fit B d im) s).2.1 ∧ (l.foldl (lstep fit B d im) s).2.1 ≤ B ∧ ((l.foldl (lstep fit B d im) s).1.length : Int) + e ≤ (l.foldl (lstep fit B d im) s).2.1) ∧ ((∀ r ∈ s.1, r.length = im.length + (d + 1)) → ∀ r ∈ (l.foldl (lstep fit B d im) s).1, r.length = im.length + (d + 1)) by
      have := h (List.range 4) s h1 h2
      exact ⟨by omega, this.2⟩
    clear h1 h2 s
    intro l
    induction l with
    | nil => intro s h1 h2; simp only [List.foldl_nil]; exact ⟨by omega, fun h => h⟩
    | cons v l ihl =>
      intro s h1 h2
      rw [List.foldl_cons]
      have hs : (s.2.1 ≤ (lstep fit B d im s v).2.1 ∧ (lstep fit B d im s v).2.1 ≤ B ∧ ((lstep fit B d im s v).1.length : Int) + e ≤ (lstep fit B d im s v).2.1) ∧ ((∀ r ∈ s.1, r.length = im.length + (d + 1)) → ∀ r ∈ (lstep fit B d im s v).1, r.length = im.length + (d + 1)) := by
        unfold lstep
        split
        · exact ⟨by omega, fun h => h⟩
        · split
          · split
            · exact ⟨by simp only; omega, fun h => h⟩
            · have := ih (im ++ [(v : Int)]) (s.1, s.2.1 + 1, s.2.2) (e + 1) (by simp only; omega) (by simp only; omega)
              simp only [List.length_append, List.length_singleton] at this
              refine ⟨by omega, fun hr r hm => ?_⟩
              have := this.2 (fun r hm => by have := hr r hm; omega) r hm
              omega
          · exact ⟨by omega, fun h => h⟩
      have := ihl _ hs.1.2.2 hs.1.2.1
      exact ⟨by omega, fun hr => this.2 (hs.2 hr)⟩
theorem OwnLL.of_grow0 {w : AV} {us : List AV} {rs : List (List Int)} {hp hi : Heap} (g : Grow 1 w us hp) (o : OwnLs us rs hi) (d : ∀ i ∈ dom hp, i ∉ dom hi) : OwnLL w rs (hp ++ hi) := by
  cases g with
  | nil => cases o; exact .nil
  | emp => cases o; exact .emp
  | sl id us n hn =>
    subst hn
    have := OwnLL.sl id us.length none [] (by rw [o.len]) rfl o (d id (by simp [dom]))
    simpa using this
/-- Rows that were found, in memory of their own. -/
def FoundL (w : AV) (fs : List (List Int)) (g : Heap) : Prop := ∃ us hf hi, Grow 1 w us hf ∧ OwnLs us fs hi ∧ (∀ i ∈ dom hf, i ∉ dom hi) ∧ g = hf ++ hi
theorem FoundL.own {w : AV} {fs : List (List Int)} {g : Heap} (h : FoundL w fs g) : OwnLL w fs g := by
  obtain ⟨us, hf, hi, a, b, c, rfl⟩ := h
  exact OwnLL.of_grow0 a b c
/-- The block of the program's search. -/
def gB (ts : List Tb) (wc : AV) (a : Int) (b : Bool) (u w : AV) : Blk := ⟨6, [.agg [.int .i64 a, .bool b, .snap 2 (ts.map Tb.av), wc, u, w]]⟩
theorem lend1_ip6' (L : Heap) (a b c d e f : AV) : lend1 L (.ip [a, b, c, d, e, f]) = .ip [lend1 L a, lend1 L b, lend1 L c, lend1 L d, lend1 L e, lend1 L f] := by
  induction L generalizing a b c d e f with
  | nil => rfl
  | cons p L ih => simp only [lend1, fz, fzs]; exact ih ..
theorem Cells.wks {w : World} {D : List Nat} {l m : List AV} (h : All2 Wk l m) : ∀ {b o : Nat}, Cells w D l b o → Cells w D m b o := by
  induction h with
  | nil => intro b o h; exact h
  | cons h1 _ ih => intro b o ⟨⟨u, q1, q2, q3⟩, q4⟩; exact ⟨⟨u, q1, q2, h1 w D u q3⟩, ih q4⟩
theorem Wk.ips {l m : List AV} (h : All2 Wk l m) : Wk (.ip l) (.ip m) := fun w D v ⟨bl, o, e, h1, h2, h3⟩ => ⟨bl, o, e, h1, h2, Cells.wks h h3⟩
theorem supp_p {ts : List Tb} {cols row : List Int} {fs : List (List Int)} {a : Int} {b : Bool} {id : Nat} {wc u w : AV} {gc gu gf H : Heap} (hok : tbsOk ts) (hl : tbsTot ts ≤ 1048576) (hc : cols.length ≤ 1048576) (hw : row.length ≤ cols.length) (oc : OwnL iv 1 wc cols gc) (og : GrT 1 u (row.map iv) gu) (of : FoundL w fs gf)
    (h1 : (id, gB ts wc a b u w) ∈ H) (h2 : ∀ p ∈ gu ++ (gf ++ gc), p ∈ H) (nd : (dom (gu ++ (gf ++ gc))).Nodup) :
    ACalls Try.prog 154 [.ptr id 6 0 0] H (fun v h' => v = .bool (suppT ts cols row) ∧ h' = H) := by
  refine ACalls.reads ((id, gB ts wc a b u w) :: (gu ++ (gf ++ gc))) (fun p hp => ?_) ?_ rfl
  · rcases List.mem_cons.1 hp with rfl | hp
    · exact h1
    · exact h2 p hp
  · rw [lend_cons, lend_nil']
    obtain ⟨L, hL⟩ : ∃ L, L = gu ++ (gf ++ gc) := ⟨_, rfl⟩
    have e : lend1 ((id, gB ts wc a b u w) :: L) (.ptr id 6 0 0) = .ip [.int .i64 a, .bool b, .snap 2 (ts.map Tb.av), lend1 L wc, lend1 L u, lend1 L w] := by
      have : lend1 ((id, gB ts wc a b u w) :: L) (.ptr id 6 0 0) = lend1 L (.ip [.int .i64 a, .bool b, .snap 2 (ts.map Tb.av), wc, u, w]) := by
        simp only [lend1, fz, gB, and_self, if_true, List.getElem?_cons_zero, cellsOf, List.drop_zero]
      rw [this, lend1_ip6', lend1_cold L (x := .int .i64 a) rfl, lend1_cold L (x := .bool b) rfl, lend1_cold L (x := .snap 2 (ts.map Tb.av)) (by simp [cold, colds_Tb])]
    rw [← hL, e]
    have e1 : IsL iv 1 (lend1 L wc) cols := oc.lentIn cold_iv1 (fun p hp => by rw [hL]; simp [hp]) (by rw [hL]; exact nd)
    have e2 : IsL iv 1 (lend1 L u) row := by
      have := og.lent
      rw [hL, lend1_append, lend1_cold _ (this.cold cold_iv1)]
      exact this
    have e3 : IsLL (lend1 L w) fs := by rw [hL]; exact of.own.lentMid nd
    exact ACalls.wk (.cons (Wk.ips (.cons (.refl _) (.cons (.refl _) (.cons (.refl _) (.cons e1.wk (.cons e2.wk (.cons e3.wk .nil))))))) .nil) (supp_s ts cols row a b fs [] hok hl hc hw)
abbrev k95_o0 : List AJ := [.o ⟨(some 2), none, false, .mv (.c (.bool false)), (some [0])⟩]
abbrev k95_o1 : List AJ := [.o ⟨(some 3), none, false, .mv (.t 0), none⟩, .o ⟨(some 4), none, false, .nilchk (.t 3), none⟩, .o ⟨(some 5), none, false, .fieldA 0 (.t 4), none⟩, .o ⟨(some 6), none, false, .load 1 false (.t 5), none⟩, .o ⟨(some 7), none, false, .bin .eql (.t 6) (.c (.int .i64 0)), (some [0, 7])⟩]
abbrev k95_o2 : List AJ := [.o ⟨(some 8), none, false, .mv (.t 0), none⟩, .o ⟨(some 9), none, false, .nilchk (.t 8), none⟩, .o ⟨(some 10), none, false, .fieldA 1 (.t 9), none⟩, .o ⟨none, none, false, .store 1 (.t 10) (.c (.bool true)), (some [])⟩]
abbrev k95_o3 : List AJ := [.o ⟨(some 2), none, false, .mv (.c (.bool false)), (some [2])⟩]
def k95_4 : ACode := .seq (.region k95_o3) .ret
def k95_5 : ACode := .seq (.region k95_o2) k95_4
def k95_6 : ACode := .cond (.t 7) k95_5 .skip
def k95_7 : ACode := .seq (.region k95_o1) k95_6
abbrev k95_o4 : List AJ := [.o ⟨(some 11), none, false, .mv (.t 0), none⟩, .o ⟨(some 12), none, false, .nilchk (.t 11), none⟩, .o ⟨(some 13), none, false, .fieldA 0 (.t 12), none⟩, .o ⟨(some 14), none, false, .load 1 false (.t 13), none⟩, .o ⟨(some 15), none, true, .bin .sub (.t 14) (.c (.int .i64 1)), none⟩, .o ⟨(some 16), none, false, .nilchk (.t 11), none⟩, .o ⟨(some 17), none, false, .fieldA 0 (.t 16), none⟩, .o ⟨none, none, false, .store 1 (.t 17) (.t 15), (some [])⟩]
abbrev k95_o5 : List AJ := [.o ⟨(some 2), none, false, .mv (.c (.bool true)), (some [2])⟩]
def k95_10 : ACode := .seq (.region k95_o5) .ret
def k95_11 : ACode := .seq (.region k95_o4) k95_10
def k95_12 : ACode := .seq k95_7 k95_11
def k95_13 : ACode := .seq (.region k95_o0) k95_12
@[simp, simp ↓] theorem k95_4r : sR k95_4 k95_o3 .ret := yR rfl
@[simp, simp ↓] theorem k95_5r : sR k95_5 k95_o2 k95_4 := yR rfl
@[simp, simp ↓] theorem k95_6r : rC k95_6 (.t 7) k95_5 .skip := zC rfl
@[simp, simp ↓] theorem k95_7r : sR k95_7 k95_o1 k95_6 := yR rfl
@[simp, simp ↓] theorem k95_10r : sR k95_10 k95_o5 .ret := yR rfl
@[simp, simp ↓] theorem k95_11r : sR k95_11 k95_o4 k95_10 := yR rfl
@[simp, simp ↓] theorem k95_12r : rS k95_12 k95_7 k95_11 := zS rfl
@[simp, simp ↓] theorem k95_13r : sR k95_13 k95_o0 k95_12 := yR rfl
noncomputable abbrev k95_C : Orc → Cx := mkC Try.prog [] 95 18 [.tmp 2]
theorem k95_of0 : OfP0 Try.prog Try.f95 95 18 k95_C k95_13 := @ofP0 _ _ _ _ _ _ _ _ Try.func95 (by decide +kernel) rfl (by kernel_rfl) rfl (by kernel_rfl)
theorem nodeG_w (ts : List Tb) (wc : AV) (a : Int) (b : Bool) (id : Nat) (u w : AV) (hc : isCell wc = true) (hu : isCell u = true) (hw : isCell w = true) (g h : Heap) (hid : id ∉ dom g) (ha : 0 ≤ a ∧ a ≤ 20000) :
    ACalls Try.prog 95 [.ptr id 6 0 0] (g ++ (id, gB ts wc a b u w) :: h) (fun v h' => v = .bool (!decide (a = 0)) ∧ h' = g ++ (id, gB ts wc (if a = 0 then a else a - 1) (if a = 0 then true else b) u w) :: h) := by
  unfold gB
  refine k95_of0 rfl noPure fun I => ?_
  by_cases h0 : a = 0
  · refine Run2.of I 1000 ?_
    simp -implicitDefEqProofs [hget_app hid, hset_app hid, h0, hc, hu, hw]
  · refine Run2.of I 1000 ?_
    simp -implicitDefEqProofs [hget_app hid, hset_app hid, h0, hc, hu, hw]
    omega
theorem Clone_t {u : AV} {l : List Int} {g : Heap} (o : GrT 1 u (l.map iv) g) (H : Heap) (hs : ∀ p ∈ g, p ∈ H) (hl : l.length ≤ 1048576) : ACalls Try.prog 96 [u] H (fun v h' => ∃ hp, Grow 1 v (l.map iv) hp ∧ (∀ i ∈ dom hp, i ∉ dom H) ∧ h' = hp ++ H) := by
  refine (ACalls.gives g hs (S := fun v h' => Grow 1 v (l.map iv) h') ?_ ?_).mono ?_
  · rw [lend_cons, lend_nil']
    refine ACalls.wk (.cons o.lent.wk .nil) ?_
    exact (Clone_w l [] hl).mono fun v h' ⟨hp, hg, e⟩ => by rw [List.append_nil] at e; subst e; exact hg
  · intro v h' hw
    exact (Grow.own (enc := iv) hw).own own_iv1
  · rintro v h'' ⟨h', hw, hd, rfl⟩
    exact ⟨h', hw, hd, rfl⟩
theorem perm5 (A B C D X : Heap) : (A ++ (B ++ (C ++ (D ++ X)))).Perm (C ++ ((A ++ (D ++ B)) ++ X)) := by
  have e1 : (A ++ (B ++ (C ++ (D ++ X)))).Perm (C ++ (A ++ (B ++ (D ++ X)))) := ((List.perm_append_comm_assoc B C _).append_left A).trans (List.perm_append_comm_assoc A C _)
  have e2 : (C ++ (A ++ (B ++ (D ++ X)))).Perm (C ++ (A ++ (D ++ (B ++ X)))) := ((List.perm_append_comm_assoc B D X).append_left A).append_left C
  simpa using e1.trans e2
/-- What a search leaves. -/
def GlOut (ts : List Tb) (cols : List Int) (wc : AV) (B : Int) (id : Nat) (h : Heap) (im : List Int) (F : SrS) (v : AV) (h' : Heap) : Prop := ∃ u' gu' im' w' gf', v = .tup [] ∧ GrT 1 u' (im'.map iv) gu' ∧ FoundL w' F.1 gf' ∧ h' = gu' ++ (gf' ++ (id, gB ts wc (B - F.2.1) F.2.2 u' w') :: h) ∧ (F.2.2 = false → im' = im) ∧ (F.2.2 = true → im.length + 1 ≤ im'.length ∧ im'.length ≤ cols.length)
abbrev k116_o0 : List AI := [⟨(some 3), none, false, .mv (.t 0), none⟩, ⟨(some 4), none, false, .nilchk (.t 3), none⟩, ⟨(some 5), none, false, .fieldA 4 (.t 4), none⟩, ⟨(some 6), none, false, .load 1 false (.t 5), none⟩, ⟨(some 7), none, false, .len (.t 6), none⟩, ⟨(some 8), none, false, .mv (.t 0), none⟩, ⟨(some 9), none, false, .nilchk (.t 8), none⟩, ⟨(some 10), none, false, .fieldA 3 (.t 9), none⟩, ⟨(some 11), none, false, .load 1 false (.t 10), none⟩, ⟨(some 12), none, false, .len (.t 11), none⟩, ⟨(some 13), none, false, .bin .eql (.t 7) (.t 12), (some [0, 13])⟩]
abbrev k116_o1 : List AJ := [.o ⟨(some 14), none, false, .mv (.t 0), none⟩, .o ⟨(some 15), none, false, .call 154 [(.t 14)], (some [0, 15])⟩]
abbrev k116_o2 : List AI := [⟨(some 16), none, false, .mv (.t 0), none⟩, ⟨(some 17), none, false, .mv (.t 0), none⟩, ⟨(some 18), none, false, .nilchk (.t 17), none⟩, ⟨(some 19), none, false, .fieldA 5 (.t 18), none⟩, ⟨(some 20), none, false, .load 1 false (.t 19), none⟩, ⟨(some 21), none, false, .mv (.t 0), none⟩, ⟨(some 22), none, false, .nilchk (.t 21), none⟩, ⟨(some 23), none, false, .fieldA 4 (.t 22), none⟩, ⟨(some 24), none, false, .load 1 false (.t 23), none⟩, ⟨(some 25), none, false, .call 96 [(.t 24)], none⟩, ⟨(some 26), none, false, .bsl false 1 [(.t 25)], none⟩, ⟨(some 27), none, false, .append 1 24 (.t 20) (.t 26), none⟩, ⟨(some 28), none, false, .nilchk (.t 16), none⟩, ⟨(some 29), none, false, .fieldA 5 (.t 28), none⟩, ⟨none, none, false, .store 1 (.t 29) (.t 27), none⟩]
abbrev k116_o3 : List AJ := [.o ⟨(some 16), none, false, .mv (.t 0), none⟩, .o ⟨(some 17), none, false, .mv (.t 0), none⟩, .o ⟨(some 18), none, false, .nilchk (.t 17), none⟩, .o ⟨(some 19), none, false, .fieldA 5 (.t 18), none⟩, .o ⟨(some 21), none, false, .mv (.t 0), none⟩, .o ⟨(some 22), none, false, .nilchk (.t 21), none⟩, .o ⟨(some 23), none, false, .fieldA 4 (.t 22), none⟩, .o ⟨(some 20), none, false, .load 1 false (.t 19), none⟩, .o ⟨(some 24), none, false, .load 1 false (.t 23), none⟩, .o ⟨(some 25), none, false, .call 96 [(.t 24)], none⟩, .o ⟨(some 26), none, false, .bsl false 1 [(.t 25)], none⟩, .o ⟨(some 27), none, false, .append 1 24 (.t 20) (.t 26), none⟩, .o ⟨(some 28), none, false, .nilchk (.t 16), none⟩, .o ⟨(some 29), none, false, .fieldA 5 (.t 28), (some [27, 29])⟩, .o ⟨none, none, false, .store 1 (.t 29) (.t 27), (some [])⟩]
abbrev k116_o4 : List AJ := [.o ⟨(some 16), none, false, .mv (.t 0), none⟩, .o ⟨(some 17), none, false, .mv (.t 0), none⟩, .o ⟨(some 18), none, false, .nilchk (.t 17), none⟩, .o ⟨(some 19), none, false, .fieldA 5 (.t 18), none⟩, .o ⟨(some 21), none, false, .mv (.t 0), none⟩, .o ⟨(some 22), none, false, .nilchk (.t 21), none⟩, .o ⟨(some 23), none, false, .fieldA 4 (.t 22), none⟩, .o ⟨(some 24), none, false, .load 1 false (.t 23), none⟩, .o ⟨(some 20), none, false, .load 1 false (.t 19), none⟩, .o ⟨(some 25), none, false, .call 96 [(.t 24)], none⟩, .o ⟨(some 26), none, false, .bsl false 1 [(.t 25)], none⟩, .o ⟨(some 27), none, false, .append 1 24 (.t 20) (.t 26), none⟩, .o ⟨(some 28), none, false, .nilchk (.t 16), none⟩, .o ⟨(some 29), none, false, .fieldA 5 (.t 28), (some [27, 29])⟩, .o ⟨none, none, false, .store 1 (.t 29) (.t 27), (some [])⟩]
abbrev k116_o5 : List AJ := [.o ⟨(some 16), none, false, .mv (.t 0), none⟩, .o ⟨(some 17), none, false, .mv (.t 0), none⟩, .o ⟨(some 18), none, false, .nilchk (.t 17), none⟩, .o ⟨(some 19), none, false, .fieldA 5 (.t 18), none⟩, .o ⟨(some 21), none, false, .mv (.t 0), none⟩, .o ⟨(some 22), none, false, .nilchk (.t 21), none⟩, .o ⟨(some 23), none, false, .fieldA 4 (.t 22), none⟩, .o ⟨(some 24), none, false, .load 1 false (.t 23), none⟩, .o ⟨(some 25), none, false, .call 96 [(.t 24)], none⟩, .o ⟨(some 20), none, false, .load 1 false (.t 19), none⟩, .o ⟨(some 26), none, false, .bsl false 1 [(.t 25)], none⟩, .o ⟨(some 27), none, false, .append 1 24 (.t 20) (.t 26), none⟩, .o ⟨(some 28), none, false, .nilchk (.t 16), none⟩, .o ⟨(some 29), none, false, .fieldA 5 (.t 28), (some [27, 29])⟩, .o ⟨none, none, false, .store 1 (.t 29) (.t 27), (some [])⟩]
def k116_2 : ACode := .drawE k116_o2 [k116_o3, k116_o4, k116_o5] [[0, 1, 2, 3, 5, 6, 7, 4, 8, 9, 10, 11, 12, 13, 14], [0, 1, 2, 3, 5, 6, 7, 8, 4, 9, 10, 11, 12, 13, 14], [0, 1, 2, 3, 5, 6, 7, 8, 9, 4, 10, 11, 12, 13, 14]] rfl rfl
def k116_3 : ACode := .cond (.t 15) k116_2 .skip
def k116_4 : ACode := .seq (.region k116_o1) k116_3
def k116_5 : ACode := .seq k116_4 .ret
def k116_6 : ACode := .cond (.t 13) k116_5 .skip
def k116_7 : ACode := .seq (.draw k116_o0 [] rfl) k116_6
abbrev k116_o6 : List AJ := [.o ⟨(some 30), none, false, .mv (.c (.int .i64 0)), (some [0, 30])⟩]
abbrev k116_o7 : List AJ := [.o ⟨(some 31), none, false, .bin .lss (.t 30) (.c (.int .i64 4)), (some [0, 30, 31])⟩]
abbrev k116_o8 : List AJ := [.o ⟨(some 32), none, false, .mv (.t 30), none⟩, .o ⟨(some 2), none, false, .mv (.t 32), (some [0, 2, 30])⟩]
abbrev k116_o9 : List AJ := [.o ⟨(some 33), none, false, .mv (.t 0), none⟩, .o ⟨(some 34), none, false, .mv (.t 0), none⟩, .o ⟨(some 35), none, false, .nilchk (.t 34), none⟩, .o ⟨(some 36), none, false, .fieldA 4 (.t 35), none⟩, .o ⟨(some 37), none, false, .load 1 false (.t 36), none⟩, .o ⟨(some 38), none, false, .mv (.t 2), none⟩, .o ⟨(some 39), none, false, .bsl false 1 [(.t 38)], none⟩, .o ⟨(some 40), none, false, .append 1 8 (.t 37) (.t 39), none⟩, .o ⟨(some 41), none, false, .nilchk (.t 33), none⟩, .o ⟨(some 42), none, false, .fieldA 4 (.t 41), none⟩, .o ⟨none, none, false, .store 1 (.t 42) (.t 40), (some [0, 30])⟩]
abbrev k116_o10 : List AJ := [.o ⟨(some 43), none, false, .mv (.t 0), none⟩, .o ⟨(some 44), none, false, .call 154 [(.t 43)], (some [0, 30, 44])⟩]
abbrev k116_o11 : List AJ := [.o ⟨(some 45), none, false, .mv (.t 0), none⟩, .o ⟨(some 46), none, false, .nilchk (.t 45), none⟩, .o ⟨(some 47), none, false, .fieldA 0 (.t 46), none⟩, .o ⟨(some 48), none, false, .fieldA 1 (.t 47), none⟩, .o ⟨(some 49), none, false, .load 1 false (.t 48), none⟩, .o ⟨(some 50), none, false, .mv (.t 49), none⟩, .o ⟨(some 51), (some (50, false)), false, .mv (.t 0), none⟩, .o ⟨(some 52), (some (50, false)), false, .nilchk (.t 51), none⟩, .o ⟨(some 53), (some (50, false)), false, .fieldA 0 (.t 52), none⟩, .o ⟨(some 54), (some (50, false)), false, .call 95 [(.t 53)], (some [0, 30, 50, 54])⟩, .o ⟨(some 55), (some (50, false)), false, .un .not (.t 54), none⟩, .o ⟨(some 56), none, false, .pick (.t 50) (.c (.bool true)) (.t 55), (some [0, 30, 56])⟩]
def k116_15 : ACode := .cond (.t 56) .ret .skip
def k116_16 : ACode := .seq (.region k116_o11) k116_15
abbrev k116_o12 : List AJ := [.o ⟨(some 57), none, false, .mv (.t 0), none⟩, .o ⟨(some 58), none, false, .call 116 [(.t 57)], (some [0, 30])⟩]
def k116_17 : ACode := .region k116_o12
def k116_18 : ACode := .seq k116_16 k116_17
def k116_19 : ACode := .cond (.t 44) k116_18 .skip
def k116_20 : ACode := .seq (.region k116_o10) k116_19
abbrev k116_o13 : List AI := [⟨(some 59), none, false, .mv (.t 0), none⟩, ⟨(some 60), none, false, .mv (.t 0), none⟩, ⟨(some 61), none, false, .nilchk (.t 60), none⟩, ⟨(some 62), none, false, .fieldA 4 (.t 61), none⟩, ⟨(some 63), none, false, .load 1 false (.t 62), none⟩, ⟨(some 64), none, false, .mv (.t 0), none⟩, ⟨(some 65), none, false, .nilchk (.t 64), none⟩, ⟨(some 66), none, false, .fieldA 4 (.t 65), none⟩, ⟨(some 67), none, false, .load 1 false (.t 66), none⟩, ⟨(some 68), none, false, .len (.t 67), none⟩, ⟨(some 69), none, true, .bin .sub (.t 68) (.c (.int .i64 1)), none⟩, ⟨(some 70), none, false, .slice 1 (.t 63) none (some (.t 69)) none, none⟩, ⟨(some 71), none, false, .nilchk (.t 59), none⟩, ⟨(some 72), none, false, .fieldA 4 (.t 71), (some [0, 30, 70, 72])⟩]
abbrev k116_o14 : List AJ := [.o ⟨none, none, false, .store 1 (.t 72) (.t 70), (some [0, 30])⟩]
def k116_21 : ACode := .draw k116_o13 k116_o14 rfl
def k116_22 : ACode := .seq k116_20 k116_21
def k116_23 : ACode := .seq (.region k116_o9) k116_22
def k116_24 : ACode := .seq (.region k116_o8) k116_23
abbrev k116_o15 : List AJ := [.o ⟨(some 73), none, true, .bin .add (.t 30) (.c (.int .i64 1)), none⟩, .o ⟨(some 30), none, false, .mv (.t 73), (some [0, 30])⟩]
def k116_26 : ACode := .region k116_o15
def k116_27 : ACode := .seq (.block 1 k116_24) k116_26
def k116_28 : ACode := .seq (.cond (.t 31) .skip (.exit 0)) k116_27
def k116_29 : ACode := .seq (.region k116_o7) k116_28
def k116_30 : ACode := .loop k116_29
def k116_31 : ACode := .block 0 k116_30
def k116_32 : ACode := .seq (.region k116_o6) k116_31
def k116_33 : ACode := .seq k116_7 k116_32
@[simp, simp ↓] theorem k116_2r : rE k116_2 [k116_o3, k116_o4, k116_o5] := zE rfl
@[simp, simp ↓] theorem k116_3r : rC k116_3 (.t 15) k116_2 .skip := zC rfl
@[simp, simp ↓] theorem k116_4r : sR k116_4 k116_o1 k116_3 := yR rfl
@[simp, simp ↓] theorem k116_5r : rS k116_5 k116_4 .ret := zS rfl
@[simp, simp ↓] theorem k116_6r : rC k116_6 (.t 13) k116_5 .skip := zC rfl
@[simp, simp ↓] theorem k116_7r : sD k116_7 k116_o0 [] k116_6 := yD rfl
@[simp, simp ↓] theorem k116_15r : rC k116_15 (.t 56) .ret .skip := zC rfl
@[simp, simp ↓] theorem k116_16r : sR k116_16 k116_o11 k116_15 := yR rfl
@[simp, simp ↓] theorem k116_17r : rR k116_17 k116_o12 := zR rfl
@[simp, simp ↓] theorem k116_18r : rS k116_18 k116_16 k116_17 := zS rfl
@[simp, simp ↓] theorem k116_19r : rC k116_19 (.t 44) k116_18 .skip := zC rfl
@[simp, simp ↓] theorem k116_20r : sR k116_20 k116_o10 k116_19 := yR rfl
@[simp, simp ↓] theorem k116_21r : rD k116_21 k116_o13 k116_o14 := zD rfl
@[simp, simp ↓] theorem k116_22r : rS k116_22 k116_20 k116_21 := zS rfl
@[simp, simp ↓] theorem k116_23r : sR k116_23 k116_o9 k116_22 := yR rfl
@[simp, simp ↓] theorem k116_24r : sR k116_24 k116_o8 k116_23 := yR rfl
@[simp, simp ↓] theorem k116_26r : rR k116_26 k116_o15 := zR rfl
@[simp, simp ↓] theorem k116_27r : sB k116_27 1 k116_24 k116_26 := yB rfl
@[simp, simp ↓] theorem k116_28r : sC k116_28 (.t 31) .skip (.exit 0) k116_27 := yC rfl
@[simp, simp ↓] theorem k116_29r : sR k116_29 k116_o7 k116_28 := yR rfl
@[simp, simp ↓] theorem k116_30r : rL k116_30 k116_29 := zL rfl
@[simp, simp ↓] theorem k116_31r : rB k116_31 0 k116_30 := zB rfl
@[simp, simp ↓] theorem k116_32r : sR k116_32 k116_o6 k116_31 := yR rfl
@[simp, simp ↓] theorem k116_33r : rS k116_33 k116_7 k116_32 := zS rfl
noncomputable abbrev k116_C : Orc → Cx := mkC Try.prog [99999] 116 74 []
theorem k116_of : OfP Try.prog Try.f116 116 74 k116_C k116_33 := @ofP _ _ _ _ _ _ _ _ Try.func116 (by decide +kernel) rfl (by kernel_rfl) rfl (by kernel_rfl)
theorem searchG_w (ts : List Tb) (cols : List Int) (hok : tbsOk ts) (hl : tbsTot ts ≤ 1048576) (hn : cols.length ≤ 48) (wc : AV) (gc h0 : Heap) (oc : OwnL iv 1 wc cols gc) (B : Int) (hB : 1 ≤ B ∧ B ≤ 20000) (id : Nat) : ∀ (d : Nat) (im : List Int) (fs : List (List Int)) (k : Int) (u w : AV) (gu gf : Heap), im.length + d = cols.length → (fs.length : Int) ≤ k → k ≤ B → GrT 1 u (im.map iv) gu → FoundL w fs gf →
    ACalls Try.prog 116 [.ptr id 6 0 0] (gu ++ (gf ++ (id, gB ts wc (B - k) false u w) :: (gc ++ h0))) (GlOut ts cols wc B id (gc ++ h0) im (srL (suppT ts cols) B d im (fs, k, false))) := by
  intro d
  have hcc := oc.cell
  have hcl := oc.len
  induction d with
  | zero =>
    intro im fs k u w gu gf hd hfk hkB hg hf
    have hul := hg.len
    have huc := hg.cell
    have hwc := hf.own.cell
    simp only [List.length_map] at hul
    have hde : (im.length : Int) = cols.length := by omega
    refine ACalls.permR ?_
    obtain ⟨R, hR⟩ : ∃ R, R = fun (v : AV) (h'' : Heap) => (dom h'').Nodup → ∃ h', h''.Perm h' ∧ GlOut ts cols wc B id (gc ++ h0) im (srL (suppT ts cols) B 0 im (fs, k, false)) v h' := ⟨_, rfl⟩
    rw [← hR]
    refine k116_of rfl noPure fun I => ?_
    refine Run2.nd fun nd => ?_
    simp only [dom_append, dom_cons, List.nodup_append, List.nodup_cons, List.mem_append, List.mem_cons, not_or] at nd
    have n1 : id ∉ dom gu := fun hm => nd.2.2 id hm id (.inr (.inl rfl)) rfl
    have n2 : id ∉ dom gf := fun hm => nd.2.1.2.2 id hm id (.inl rfl) rfl
    have hget : hget (gu ++ (gf ++ (id, gB ts wc (B - k) false u w) :: (gc ++ h0))) id = some (gB ts wc (B - k) false u w) := by rw [hget_app n1, hget_app n2]; simp [Go.AG.hget]
    unfold gB at hget
    unfold gB
    refine Run2.of I 1000 ?_
    simp -implicitDefEqProofs [hget, hul, huc, hwc, hcl, hcc, hde]
    have ndL : (dom (gu ++ (gf ++ gc))).Nodup := by
      simp only [dom_append, List.nodup_append, List.mem_append]
      exact ⟨nd.1, ⟨nd.2.1.1, nd.2.1.2.1.2.1, fun a ha b hb => nd.2.1.2.2 a ha b (.inr (.inl hb))⟩, fun a ha b hb => nd.2.2 a ha b (hb.elim .inl fun h => .inr (.inr (.inl h)))⟩
    have hmem : ∀ p ∈ gu ++ (gf ++ gc), p ∈ gu ++ (gf ++ (id, gB ts wc (B - k) false u w) :: (gc ++ h0)) := fun p hp => by
      simp only [List.mem_append, List.mem_cons] at hp ⊢
      rcases hp with hp | hp | hp
      · exact .inl hp
      · exact .inr (.inl hp)
      · exact .inr (.inr (.inr (.inl hp)))
    have hs := supp_p hok hl (by omega) (by omega) oc hg hf (a := B - k) (b := false) (id := id) (H := gu ++ (gf ++ (id, gB ts wc (B - k) false u w) :: (gc ++ h0))) (by simp) hmem ndL
    unfold gB at hs
    refine hs.mono ?_
    rintro v h' ⟨rfl, rfl⟩
    by_cases hfit : suppT ts cols im = true
    · refine gK.go ?_
      simp -implicitDefEqProofs [hfit, hget, hul, huc, hwc, hcl, hcc, hde]
      have hbig : fs.length ≤ 20001 := by omega
      obtain ⟨us, hff, hi, ga, ou, gd, rfl⟩ := hf
      have hac := ga.cell
      have hal := ou.len
      simp only [dom_append, List.mem_append, not_or] at n2
      refine ⟨?_, ?_, ?_⟩
      all_goals
        refine (Clone_t hg _ (fun p hp => List.mem_append_left _ hp) (by omega)).mono ?_
        rintro v h' ⟨hb, gb, db, rfl⟩
        have hbc := gb.cell
        have n3 : id ∉ dom hb := fun hm => db id hm (by simp [dom_append])
        simp only [List.append_assoc]
        refine gK.go ?_
        simp -implicitDefEqProofs [hget_app n3, hget_app n1, hget_app n2.1, hget_app n2.2, hbc, cells_of hbc, stor_of hbc, hac]
        rw [← List.append_assoc hb gu]
        refine ga.app_mid (pre := hb ++ gu) (fun i hi' hm => ?_) (by simp; omega) (by simp) fun w' hff' ga' gd' => ?_
        · rw [dom_append, List.mem_append] at hm
          rcases hm with hm | hm
          · exact db i hm (by simp only [dom_append, List.mem_append]; exact .inr (.inl (.inl hi')))
          · exact nd.2.2 i hm i (.inl (by rw [dom_append]; exact List.mem_append_left _ hi')) rfl
        · have q1 : id ∉ dom hff' := fun hm => gd' id hm (by simp [dom_append])
          have hac' := ga'.cell
          simp only [List.append_assoc]
          simp -implicitDefEqProofs [hget_app q1, hset_app q1, hget_app n3, hset_app n3, hget_app n1, hset_app n1, hget_app n2.1, hset_app n2.1, hget_app n2.2, hset_app n2.2, hac', cells_of hac', stor_of hac']
          refine .base ?_
          rw [hR]
          refine fun nd2 => ⟨_, perm5 hff' hb gu hi _, u, gu, im, w', hff' ++ (hi ++ hb), rfl, hg, ?_, rfl, fun _ => rfl, fun h => by cases h⟩
          refine ⟨us ++ [v], hff', hi ++ hb, ga', ?_, fun i h1 h2 => gd' i h1 ?_, rfl⟩
          · have := ou.append (.one (Grow.own (enc := iv) gb)) fun i h1 h2 => db i h2 (by simp only [dom_append, List.mem_append]; exact .inr (.inl (.inr h1)))
            simpa [srL, hfit] using this
          · simp only [dom_append, List.mem_append] at h2 ⊢
            rcases h2 with h2 | h2
            · exact .inr (.inl h2)
            · exact .inl (.inl h2)
    · refine gK.go ?_
      simp -implicitDefEqProofs [hfit, hget, hul, huc, hwc, hcl, hcc, hde]
      refine .base ?_
      rw [hR]
      refine fun _ => ⟨_, List.Perm.refl _, u, gu, im, w, gf, rfl, hg, ?_, rfl, fun _ => rfl, fun h => by cases h⟩
      simpa [srL, hfit] using hf
  | succ d ihd =>
    intro im fs k u w gu gf hd hfk hkB hg hf
    have hul := hg.len
    have huc := hg.cell
    have hwc := hf.own.cell
    simp only [List.length_map] at hul
    have hde : ¬ (im.length : Int) = cols.length := by omega
    obtain ⟨F, hF⟩ : ∃ F, F = (List.range 4).foldl (lstep (suppT ts cols) B d im) (fs, k, false) := ⟨_, rfl⟩
    rw [srL_succ, ← hF]
    obtain ⟨R, hR⟩ : ∃ R, R = GlOut ts cols wc B id (gc ++ h0) im F := ⟨_, rfl⟩
    rw [← hR]
    refine k116_of rfl noPure fun I => ?_
    refine Run2.nd fun nd => ?_
    simp only [dom_append, dom_cons, List.nodup_append, List.nodup_cons, List.mem_append, List.mem_cons, not_or] at nd
    have n1 : id ∉ dom gu := fun hm => nd.2.2 id hm id (.inr (.inl rfl)) rfl
    have n2 : id ∉ dom gf := fun hm => nd.2.1.2.2 id hm id (.inl rfl) rfl
    have hget : hget (gu ++ (gf ++ (id, gB ts wc (B - k) false u w) :: (gc ++ h0))) id = some (gB ts wc (B - k) false u w) := by rw [hget_app n1, hget_app n2]; simp [Go.AG.hget]
    unfold gB at hget
    unfold gB
    refine Run2.of I 1000 ?_
    simp -implicitDefEqProofs [hget, hul, huc, hwc, hcl, hcc, hde]
    refine Run2.loopE (α := Nat × SrS × List Int × AV × AV × Heap × Heap) (fun s => [(0, .ptr id 6 0 0), (30, .int .i64 (s.1 : Nat))])
      (fun s => s.2.2.2.2.2.1 ++ (s.2.2.2.2.2.2 ++ (id, gB ts wc (B - s.2.1.2.1) s.2.1.2.2 s.2.2.2.1 s.2.2.2.2.1) :: (gc ++ h0))) (fun s => 4 - s.1)
      (fun s => s.1 ≤ 4 ∧ (s.2.1.1.length : Int) ≤ s.2.1.2.1 ∧ s.2.1.2.1 ≤ B ∧ F = ((List.range 4).drop s.1).foldl (lstep (suppT ts cols) B d im) s.2.1 ∧ GrT 1 s.2.2.2.1 (s.2.2.1.map iv) s.2.2.2.2.2.1 ∧ FoundL s.2.2.2.2.1 s.2.1.1 s.2.2.2.2.2.2 ∧ (s.2.1.2.2 = false → s.2.2.1 = im) ∧ (s.2.1.2.2 = true → im.length + 1 ≤ s.2.2.1.length) ∧ s.2.2.1.length + 1 ≤ cols.length)
      (0, (fs, k, false), im, u, w, gu, gf) (by simp) (by simp [gB]) ⟨Nat.zero_le _, hfk, hkB, by simpa using hF, hg, hf, fun _ => rfl, (fun h => by cases h), by simp only; omega⟩ ?_
    clear hF hg hf hul huc hwc hfk hkB hde hget n1 n2 nd
    rintro ⟨i, ⟨fs, k, f⟩, J, u, w, gu, gf⟩ ⟨hi, hfk, hkB, hF, hg, hf, hJ0, hJ1, hJ2⟩ ih
    simp only at hi hfk hkB hF hg hf hJ0 hJ1 hJ2 ih ⊢
    have hul := hg.len
    have huc := hg.cell
    have hwc := hf.own.cell
    simp only [List.length_map] at hul
    refine Run2.nd fun nd => ?_
    simp only [dom_append, dom_cons, List.nodup_append, List.nodup_cons, List.mem_append, List.mem_cons, not_or] at nd
    have n1 : id ∉ dom gu := fun hm => nd.2.2 id hm id (.inr (.inl rfl)) rfl
    have n2 : id ∉ dom gf := fun hm => nd.2.1.2.2 id hm id (.inl rfl) rfl
    by_cases hlt : i < 4
    · have hri : (List.range 4)[i]'(by simpa using hlt) = i := by simp
      rw [List.drop_eq_getElem_cons (by simpa using hlt), hri, List.foldl_cons] at hF
      have hltI : (i : Int) < 4 := by omega
      have go := fun fs' k' f' (J : List Int) (x : Int) idl ex w' gf' a1 a2 a3 a4 a6 a7 a8 => ih (i + 1, (fs', k', f'), J, .sl idl 1 0 J.length none, w', [(idl, ⟨1, (J ++ [x]).map iv ++ ex⟩)], gf') ⟨hlt, a1, a2, a3, by
        have := GrT.sl (sz := 1) idl (J.map iv) (iv x :: ex) J.length (by simp)
        simpa using this, a4, a6, a7, a8⟩ (by simp only; omega)
      clear ih
      unfold gB
      refine Run2.of I 1000 ?_
      simp -implicitDefEqProofs [hltI, hget_app n1, hset_app n1, hget_app n2, hset_app n2, hul, huc]
      refine GrT.app hg (by simp; omega) (by simp) fun w2 gu2 hg2 hf2 => ?_
      have m1 : id ∉ dom gu2 := fun e => hf2 id e (by simp [dom_append, dom])
      have hwc2 := hg2.cell
      simp -implicitDefEqProofs [hget_app m1, hset_app m1, hget_app n2, hset_app n2, hwc2, cells_of hwc2, stor_of hwc2]
      have hgt : GrT 1 w2 ((J ++ [(i : Int)]).map iv) gu2 := by simpa using hg2.t
      have hmem : ∀ p ∈ gu2 ++ (gf ++ gc), p ∈ gu2 ++ (gf ++ (id, gB ts wc (B - k) f w2 w) :: (gc ++ h0)) := fun p hp => by
        simp only [List.mem_append, List.mem_cons] at hp ⊢
        rcases hp with hp | hp | hp
        · exact .inl hp
        · exact .inr (.inl hp)
        · exact .inr (.inr (.inr (.inl hp)))
      have ndL : (dom (gu2 ++ (gf ++ gc))).Nodup := by
        simp only [dom_append, List.nodup_append, List.mem_append]
        refine ⟨hgt.nodup, ⟨nd.2.1.1, nd.2.1.2.1.2.1, fun a ha b hb => nd.2.1.2.2 a ha b (.inr (.inl hb))⟩, fun a ha b hb e => hf2 a ha ?_⟩
        subst e
        simp only [dom_append, dom_cons, List.mem_append, List.mem_cons]
        exact hb.elim .inl fun h => .inr (.inr (.inl h))
      have hs := supp_p hok hl (by omega) (by simp; omega) oc hgt hf (a := B - k) (b := f) (id := id) (H := gu2 ++ (gf ++ (id, gB ts wc (B - k) f w2 w) :: (gc ++ h0))) (by simp) hmem ndL
      have hN := nodeG_w ts wc (B - k) f id w2 w hcc hwc2 hwc (gu2 ++ gf) (gc ++ h0) (by rw [dom_append, List.mem_append, not_or]; exact ⟨m1, n2⟩) (by omega)
      simp only [List.append_assoc] at hN
      simp only at go
      unfold gB at hs go hN
      refine hs.mono ?_
      rintro v h' ⟨rfl, rfl⟩
      by_cases hfit : suppT ts cols (J ++ [(i : Int)]) = true
      · rw [hfit]
        cases f with
        | true =>
          have hs : lstep (suppT ts cols) B d im (fs, k, true) i = (fs, k, true) := by simp [lstep]
          rw [hs, lstep_full] at hF
          refine gK.go ?_
          simp -implicitDefEqProofs [hget_app m1, hset_app m1, hget_app n2, hset_app n2, hwc2]
          refine .base ?_
          rw [hR, hF]
          exact ⟨w2, gu2, J ++ [(i : Int)], w, gf, rfl, hgt, hf, by simp [gB], fun h => by simp at h, fun _ => by have := hJ1 rfl; simp; omega⟩
        | false =>
          obtain rfl := hJ0 rfl
          refine gK.go ?_
          simp -implicitDefEqProofs [hget_app m1, hset_app m1, hget_app n2, hset_app n2, hwc2]
          refine hN.mono ?_
          rintro v h' ⟨rfl, rfl⟩
          by_cases hk : k = B
          · have hs : lstep (suppT ts cols) B d J (fs, k, false) i = (fs, k, true) := by simp [lstep, hfit, hk]
            rw [hs, lstep_full] at hF
            have hz : B - k = 0 := by omega
            rw [if_pos hz, if_pos hz]
            refine gK.go ?_
            simp -implicitDefEqProofs [hget_app m1, hset_app m1, hget_app n2, hset_app n2, hwc2, hz]
            refine .base ?_
            rw [hR, hF]
            exact ⟨w2, gu2, J ++ [(i : Int)], w, gf, rfl, hgt, hf, by simp [gB, hz], fun h => by simp at h, fun _ => by simp; omega⟩
          · have hs : lstep (suppT ts cols) B d J (fs, k, false) i = srL (suppT ts cols) B d (J ++ [(i : Int)]) (fs, k + 1, false) := by simp [lstep, hfit, hk]
            rw [hs] at hF
            have hz : ¬ B - k = 0 := by omega
            have hbd := (srL_bd (suppT ts cols) B d (J ++ [(i : Int)]) (fs, k + 1, false) 1 (by simp only; omega) (by simp only; omega)).1
            have hcall := ihd (J ++ [(i : Int)]) fs (k + 1) w2 w gu2 gf (by simp; omega) (by omega) (by omega) hgt hf
            generalize srL (suppT ts cols) B d (J ++ [(i : Int)]) (fs, k + 1, false) = G at *
            obtain ⟨fs', k', f'⟩ := G
            simp only at hbd hF
            rw [if_neg hz, if_neg hz]
            unfold gB at hcall
            rw [show B - (k + 1) = B - k - 1 by omega] at hcall
            refine gK.go ?_
            simp -implicitDefEqProofs [hz]
            refine hcall.monoN ?_
            rintro v h' ⟨u', gu3, J2, w', gf3, rfl, hg3, hf3, rfl, k1, k2⟩ nd3
            simp only [dom_append, dom_cons, List.nodup_append, List.nodup_cons, List.mem_append, List.mem_cons, not_or] at nd3
            have p1 : id ∉ dom gu3 := fun hm => nd3.2.2 id hm id (.inr (.inl rfl)) rfl
            have p2 : id ∉ dom gf3 := fun hm => nd3.2.1.2.2 id hm id (.inl rfl) rfl
            simp only at k1 k2
            have hJJ : ∃ J' x, J2 = J' ++ [x] := by
              rcases List.eq_nil_or_concat J2 with e | ⟨J', x, e⟩
              · exfalso
                subst e
                cases f' with
                | true => have := (k2 rfl).1; simp at this
                | false => have := k1 rfl; simp at this
              · exact ⟨J', x, by simpa using e⟩
            obtain ⟨J', x, rfl⟩ := hJJ
            have hw3 := hf3.own.cell
            generalize hLL : (J' ++ [x]).map iv = LL at hg3
            cases hg3 with
            | nil => simp at hLL
            | emp => simp at hLL
            | sl idl _ ex nn hnn =>
              obtain rfl : nn = J'.length + 1 := by rw [hnn, ← hLL]; simp
              subst hLL
              have hJl : J'.length + 1 ≤ cols.length := by
                cases f' with
                | true => have := (k2 rfl).2; simp at this; omega
                | false => have := k1 rfl; simp at this; rw [this.1]; omega
              have hJm : ((J' ++ [x]).map iv).length ≤ 48 := by simp; omega
              have hgo := go fs' k' f' J' x idl ex w' gf3 (by omega) (by omega) hF hf3 (fun h => by have := k1 h; simp at this; exact this.1) (fun h => by have := (k2 h).1; simp at this; omega) hJl
              have hne : ¬ idl = id := fun e => p1 (by simp [dom, e])
              unfold gB
              refine gK.go ?_
              simp -implicitDefEqProofs [hne, hget_app p2, hset_app p2, hw3]
              exact ⟨by omega, by omega, by omega, by simpa using hgo⟩
      · have hfit : suppT ts cols (J ++ [(i : Int)]) = false := by simpa using hfit
        have hs : lstep (suppT ts cols) B d im (fs, k, f) i = (fs, k, f) := by
          cases f with
          | true => simp [lstep]
          | false => obtain rfl := hJ0 rfl; simp [lstep, hfit]
        rw [hs] at hF
        rw [hfit]
        generalize hLL : (J ++ [(i : Int)]).map iv = LL at hgt
        cases hgt with
        | nil => simp at hLL
        | emp => simp at hLL
        | sl idl _ ex nn hnn =>
          obtain rfl : nn = J.length + 1 := by rw [hnn, ← hLL]; simp
          subst hLL
          have hgo := go fs k f J i idl ex w gf hfk hkB hF hf hJ0 hJ1 hJ2
          have hne : ¬ idl = id := fun e => m1 (by simp [dom, e])
          refine gK.go ?_
          simp -implicitDefEqProofs [hne, hget_app n2, hset_app n2, hwc]
          exact ⟨by omega, by omega, by omega, by simpa using hgo⟩
    · obtain rfl : i = 4 := by omega
      rw [List.drop_of_length_le (by simp), List.foldl_nil] at hF
      unfold gB
      refine Run2.of I 1000 ?_
      simp -implicitDefEqProofs [hget_app n1, hget_app n2]
      refine .base ?_
      rw [hR, hF]
      exact ⟨u, gu, J, w, gf, rfl, hg, hf, rfl, hJ0, fun h => ⟨hJ1 h, by omega⟩⟩
end Go.AG
namespace Go.AG
open Go.Proofs Go.Proofs.Ytebkdegjiollbaa
set_option linter.unusedSimpArgs false
set_option linter.unusedVariables false
set_option maxRecDepth 4000
/-- What the search finds. -/
def glS (ts : List Tb) (k : Int) : SrS := srL (suppT ts (colsOf ts)) k (colsOf ts).length [] ([], 0, false)
noncomputable def glC (ts : List Tb) (k : Int) : Int := if tbsOk ts then if 1 ≤ k ∧ k ≤ 20000 then if (glS ts k).2.2 = true then 5 else 0 else 2 else 1
noncomputable def glCols (ts : List Tb) (k : Int) : List Int := if glC ts k = 0 then colsOf ts else []
noncomputable def glRows (ts : List Tb) (k : Int) : List (List Int) := if glC ts k = 0 then (glS ts k).1 else []
theorem colsOf_in {ts : List Tb} (h : tbsOk ts) : ∀ c ∈ colsOf ts, 0 ≤ c ∧ c < 8 := fun c hc => by
  obtain ⟨t, ht, hct⟩ := List.mem_flatMap.1 ((critL_mem _ c).1 hc)
  exact (h.2 t ht).1.1 c hct
theorem colsOf_rise (ts : List Tb) : riseS (colsOf ts) := fun j hj => List.pairwise_iff_getElem.1 (critL_strict (ts.flatMap Tb.cols)) j (j + 1) (Nat.lt_of_succ_lt hj) hj (Nat.lt_succ_self j)
theorem colsOf_len {ts : List Tb} (h : tbsOk ts) : (colsOf ts).length ≤ 8 := by
  have hr := colsOf_rise ts
  have hin := colsOf_in h
  generalize colsOf ts = l at *
  have : ∀ (j : Nat) (hj : j < l.length), (j : Int) ≤ l[j] := by
    intro j
    induction j with
    | zero => intro hj; exact (hin _ (List.getElem_mem hj)).1
    | succ j ih => intro hj; have := ih (by omega); have := hr j hj; omega
  apply Classical.byContradiction
  intro hn
  have h1 := this 8 (by omega)
  have h2 := (hin _ (List.getElem_mem (show 8 < l.length by omega))).2
  omega
noncomputable def o_validTbs : List AV → Option (Prop × AV) := tab (fun (x : List Tb) => match x with | ts => [.snap 2 (ts.map Tb.av)]) (fun x => match x with | ts => tbsTot ts ≤ 1048576) (fun x => match x with | ts => .bool (decide (tbsOk ts)))
@[simp] theorem o_validTbs_e (ts : List Tb) : o_validTbs [.snap 2 (ts.map Tb.av)] = some (tbsTot ts ≤ 1048576, .bool (decide (tbsOk ts))) := tab_at (enc := fun (x : List Tb) => match x with | ts => [.snap 2 (ts.map Tb.av)]) (fun x y h => by
  simp at h; simp [h] <;> omega) _ _ ts
theorem o_validTbs_k : Knows Try.prog 114 o_validTbs := tab_knows fun x hx h => by
  exact validTbs_s x h hx
abbrev k50_o0 : List AJ := [.o ⟨(some 2), none, false, .mv (.c (.bool false)), (some [0])⟩]
abbrev k50_o1 : List AJ := [.o ⟨(some 3), none, false, .mv (.t 0), none⟩, .o ⟨(some 4), none, false, .call 91 [(.t 3), (.c (.int .i64 1)), (.c (.int .i64 20000))], none⟩, .o ⟨(some 2), none, false, .mv (.t 4), (some [2])⟩]
def k50_2 : ACode := .seq (.region k50_o1) .ret
def k50_3 : ACode := .seq (.region k50_o0) k50_2
@[simp, simp ↓] theorem k50_2r : sR k50_2 k50_o1 .ret := yR rfl
@[simp, simp ↓] theorem k50_3r : sR k50_3 k50_o0 k50_2 := yR rfl
noncomputable abbrev k50_C : Orc → Cx := mkC Try.prog [] 50 5 [.tmp 2]
theorem k50_of0 : OfP0 Try.prog Try.f50 50 5 k50_C k50_3 := @ofP0 _ _ _ _ _ _ _ _ Try.func50 (by decide +kernel) rfl (by kernel_rfl) rfl (by kernel_rfl)
theorem isBudget_c (n : Int) (h : Heap) : ACalls Try.prog 50 [.int .i64 n] h (fun v h' => v = .bool (decide (1 ≤ n ∧ n ≤ 20000)) ∧ h' = h) := by
  refine k50_of0 rfl orc1_p fun I => ?_
  refine Run2.of I 1000 ?_
  simp -implicitDefEqProofs
noncomputable def o_isBudget : List AV → Option (Prop × AV) := tab (fun (x : Int) => match x with | n => [.int .i64 n]) (fun x => match x with | n => True) (fun x => match x with | n => .bool (decide (1 ≤ n ∧ n ≤ 20000)))
@[simp] theorem o_isBudget_e (n : Int) : o_isBudget [.int .i64 n] = some (True, .bool (decide (1 ≤ n ∧ n ≤ 20000))) := tab_at (enc := fun (x : Int) => match x with | n => [.int .i64 n]) (fun x y h => by
  simp at h; simp [h] <;> omega) _ _ n
theorem o_isBudget_k : Knows Try.prog 50 o_isBudget := tab_knows fun x hx h => by
  exact isBudget_c x h
noncomputable def orcH3 : List (Nat × (List AV → Option (Prop × AV))) := (114, o_validTbs) :: (50, o_isBudget) :: []
theorem orcH3_p : Pure Try.prog (lk orcH3) := (lk_pure o_validTbs_k (lk_pure o_isBudget_k lk_pure0))
@[simp] theorem orcH3_l (b : Bool) (g : FuncId) (l : List AV) : lk orcH3 b g l = if g = 114 then o_validTbs l else if g = 50 then o_isBudget l else none := nr rfl
def GRout (ts : List Tb) (k : Int) (v : AV) (h' : Heap) : Prop := (¬ glC ts k = 0 ∧ v = .tup [.nilp, .int .i64 (glC ts k)] ∧ h' = []) ∨ (glC ts k = 0 ∧ ∃ id a b u w wc gu gf gc, v = .tup [.ptr id 6 0 0, .int .i64 0] ∧ OwnL iv 1 wc (colsOf ts) gc ∧ isCell u = true ∧ FoundL w (glS ts k).1 gf ∧ h' = gu ++ (gf ++ (id, gB ts wc a b u w) :: gc))
abbrev k62_o0 : List AJ := [.o ⟨(some 4), none, false, .mv (.c .nilp), none⟩, .o ⟨(some 5), none, false, .mv (.c (.int .i64 0)), (some [0, 1])⟩]
abbrev k62_o1 : List AJ := [.o ⟨(some 7), none, false, .mv (.t 0), none⟩, .o ⟨(some 8), none, false, .call 114 [(.t 7)], none⟩, .o ⟨(some 9), none, false, .un .not (.t 8), (some [0, 1, 9])⟩]
abbrev k62_o2 : List AJ := [.o ⟨(some 4), none, false, .mv (.c .nilp), none⟩, .o ⟨(some 5), none, false, .mv (.c (.int .i64 1)), (some [4, 5])⟩]
def k62_3 : ACode := .seq (.region k62_o2) .ret
def k62_4 : ACode := .cond (.t 9) k62_3 .skip
def k62_5 : ACode := .seq (.region k62_o1) k62_4
abbrev k62_o3 : List AJ := [.o ⟨(some 10), none, false, .mv (.t 1), none⟩, .o ⟨(some 11), none, false, .call 50 [(.t 10)], none⟩, .o ⟨(some 12), none, false, .un .not (.t 11), (some [0, 1, 12])⟩]
abbrev k62_o4 : List AJ := [.o ⟨(some 4), none, false, .mv (.c .nilp), none⟩, .o ⟨(some 5), none, false, .mv (.c (.int .i64 2)), (some [4, 5])⟩]
def k62_8 : ACode := .seq (.region k62_o4) .ret
def k62_9 : ACode := .cond (.t 12) k62_8 .skip
def k62_10 : ACode := .seq (.region k62_o3) k62_9
abbrev k62_o5 : List AJ := [.o ⟨(some 13), none, false, .mv (.t 1), none⟩, .o ⟨(some 14), none, false, .build [(.int .i64 0), (.bool false)] [(0, 1, (.t 13))], none⟩, .o ⟨(some 15), none, false, .mv (.t 0), none⟩, .o ⟨(some 16), none, false, .mv (.t 0), none⟩, .o ⟨(some 17), none, false, .call 115 [(.t 16)], none⟩, .o ⟨(some 18), none, false, .build [(.int .i64 0), (.bool false), .nilsl, .nilsl, .nilsl, .nilsl] [(0, 2, (.t 14)), (2, 1, (.t 15)), (3, 1, (.t 17))], none⟩, .o ⟨(some 19), none, false, .box true 6 (.t 18), none⟩, .o ⟨(some 6), none, false, .mv (.t 19), (some [6])⟩]
abbrev k62_o6 : List AJ := [.o ⟨(some 20), none, false, .mv (.t 6), none⟩, .o ⟨(some 21), none, false, .call 116 [(.t 20)], (some [6])⟩]
abbrev k62_o7 : List AJ := [.o ⟨(some 22), none, false, .mv (.t 6), none⟩, .o ⟨(some 23), none, false, .nilchk (.t 22), none⟩, .o ⟨(some 24), none, false, .fieldA 0 (.t 23), none⟩, .o ⟨(some 25), none, false, .fieldA 1 (.t 24), none⟩, .o ⟨(some 26), none, false, .load 1 false (.t 25), (some [6, 26])⟩]
abbrev k62_o8 : List AJ := [.o ⟨(some 4), none, false, .mv (.c .nilp), none⟩, .o ⟨(some 5), none, false, .mv (.c (.int .i64 5)), (some [4, 5])⟩]
def k62_15 : ACode := .seq (.region k62_o8) .ret
def k62_16 : ACode := .cond (.t 26) k62_15 .skip
def k62_17 : ACode := .seq (.region k62_o7) k62_16
abbrev k62_o9 : List AJ := [.o ⟨(some 27), none, false, .mv (.t 6), none⟩, .o ⟨(some 4), none, false, .mv (.t 27), none⟩, .o ⟨(some 5), none, false, .mv (.c (.int .i64 0)), (some [4, 5])⟩]
def k62_19 : ACode := .seq (.region k62_o9) .ret
def k62_20 : ACode := .seq k62_17 k62_19
def k62_21 : ACode := .seq (.region k62_o6) k62_20
def k62_22 : ACode := .seq (.region k62_o5) k62_21
def k62_23 : ACode := .seq k62_10 k62_22
def k62_24 : ACode := .seq k62_5 k62_23
def k62_25 : ACode := .seq (.region k62_o0) k62_24
@[simp, simp ↓] theorem k62_3r : sR k62_3 k62_o2 .ret := yR rfl
@[simp, simp ↓] theorem k62_4r : rC k62_4 (.t 9) k62_3 .skip := zC rfl
@[simp, simp ↓] theorem k62_5r : sR k62_5 k62_o1 k62_4 := yR rfl
@[simp, simp ↓] theorem k62_8r : sR k62_8 k62_o4 .ret := yR rfl
@[simp, simp ↓] theorem k62_9r : rC k62_9 (.t 12) k62_8 .skip := zC rfl
@[simp, simp ↓] theorem k62_10r : sR k62_10 k62_o3 k62_9 := yR rfl
@[simp, simp ↓] theorem k62_15r : sR k62_15 k62_o8 .ret := yR rfl
@[simp, simp ↓] theorem k62_16r : rC k62_16 (.t 26) k62_15 .skip := zC rfl
@[simp, simp ↓] theorem k62_17r : sR k62_17 k62_o7 k62_16 := yR rfl
@[simp, simp ↓] theorem k62_19r : sR k62_19 k62_o9 .ret := yR rfl
@[simp, simp ↓] theorem k62_20r : rS k62_20 k62_17 k62_19 := zS rfl
@[simp, simp ↓] theorem k62_21r : sR k62_21 k62_o6 k62_20 := yR rfl
@[simp, simp ↓] theorem k62_22r : sR k62_22 k62_o5 k62_21 := yR rfl
@[simp, simp ↓] theorem k62_23r : rS k62_23 k62_10 k62_22 := zS rfl
@[simp, simp ↓] theorem k62_24r : rS k62_24 k62_5 k62_23 := zS rfl
@[simp, simp ↓] theorem k62_25r : sR k62_25 k62_o0 k62_24 := yR rfl
noncomputable abbrev k62_C : Orc → Cx := mkC Try.prog [19] 62 28 [.tmp 4, .tmp 5]
theorem k62_of : OfP Try.prog Try.f62 62 28 k62_C k62_25 := @ofP _ _ _ _ _ _ _ _ Try.func62 (by decide +kernel) rfl (by kernel_rfl) rfl (by kernel_rfl)
theorem globalRows_w (ts : List Tb) (k : Int) (hl : tbsTot ts ≤ 1048576) : ACalls Try.prog 62 [.snap 2 (ts.map Tb.av), .int .i64 k] [] (GRout ts k) := by
  obtain ⟨R, hR⟩ : ∃ R, R = GRout ts k := ⟨_, rfl⟩
  rw [← hR]
  refine k62_of rfl orcH3_p fun I => ?_
  by_cases h1 : tbsOk ts
  · by_cases h2 : 1 ≤ k ∧ k ≤ 20000
    · refine Run2.of I 1000 ?_
      simp -implicitDefEqProofs [hl, h1, h2.1, h2.2]
      refine (allCols_o ts [] hl).mono ?_
      rintro v h' ⟨gc, oc, rfl⟩
      have hcc := oc.cell
      have hcl := oc.len
      have hcn := colsOf_len h1
      refine gK.go ?_
      simp -implicitDefEqProofs [hcc, cells_of hcc, stor_of hcc]
      intro id hid
      have hcall := searchG_w ts (colsOf ts) h1 hl (by omega) v gc [] oc k h2 id (colsOf ts).length [] [] 0 .nilsl .nilsl [] [] (by simp) (by simp) (by omega) .nil ⟨[], [], [], .nil, .nil, by simp [dom], rfl⟩
      have hc : glC ts k = if (glS ts k).2.2 = true then 5 else 0 := by unfold glC; rw [if_pos h1, if_pos h2]
      have hS : srL (suppT ts (colsOf ts)) k (colsOf ts).length [] ([], 0, false) = glS ts k := rfl
      rw [hS] at hcall
      unfold GRout at hR
      generalize glS ts k = F at *
      obtain ⟨fs, k', f⟩ := F
      unfold gB at hcall
      simp only [List.nil_append, List.append_nil, Int.sub_zero] at hcall
      refine hcall.monoN ?_
      rintro r h' ⟨u', gu, im', w', gf, rfl, hg, hf, rfl, _, _⟩ nd
      simp only [dom_append, dom_cons, List.nodup_append, List.nodup_cons, List.mem_append, List.mem_cons, not_or] at nd
      have n1 : id ∉ dom gu := fun hm => nd.2.2 id hm id (.inr (.inl rfl)) rfl
      have n2 : id ∉ dom gf := fun hm => nd.2.1.2.2 id hm id (.inl rfl) rfl
      have huc := hg.cell
      have hwc := hf.own.cell
      unfold gB
      simp only at hc hf ⊢
      cases f with
      | true =>
        simp only [if_true] at hc
        refine gK.go ?_
        simp -implicitDefEqProofs [hget_app n1, hget_app n2]
        refine Post.wk (Wk.refl _) ?_
        have := Post.dropAll (R := R) (h := []) (L := gu ++ (gf ++ (id, ⟨6, [.agg [.int .i64 (k - k'), .bool true, .snap 2 (ts.map Tb.av), v, u', w']]⟩) :: gc)) (v := .tup [.nilp, .int .i64 5]) (by simp [cold, colds]) (.base (by rw [hR]; exact .inl ⟨by omega, by rw [hc], rfl⟩))
        simpa using this
      | false =>
        simp at hc
        refine gK.go ?_
        simp -implicitDefEqProofs [hget_app n1, hget_app n2]
        refine .base ?_
        rw [hR]
        exact .inr ⟨hc, id, k - k', false, u', w', v, gu, gf, gc, rfl, oc, huc, hf, rfl⟩
    · have hc : glC ts k = 2 := by simp [glC, h1, h2]
      refine Run2.of I 1000 ?_
      simp -implicitDefEqProofs [hl, h1]
      have hp : Post R (.tup [.nilp, .int .i64 2]) [] := .base (by rw [hR]; exact .inl ⟨by omega, by rw [hc], rfl⟩)
      exact ⟨fun _ => hp, fun h3 h4 => absurd ⟨h3, h4⟩ h2⟩
  · have hc : glC ts k = 1 := by simp [glC, h1]
    refine Run2.of I 1000 ?_
    simp -implicitDefEqProofs [hl, h1]
    refine .base ?_
    rw [hR]
    exact .inl ⟨by omega, by rw [hc], rfl⟩
abbrev k25_o0 : List AJ := [.o ⟨(some 4), none, false, .mv (.c .nilsl), none⟩, .o ⟨(some 5), none, false, .mv (.c .nilsl), none⟩, .o ⟨(some 6), none, false, .mv (.c (.int .i64 0)), (some [0, 1])⟩]
abbrev k25_o1 : List AJ := [.o ⟨(some 10), none, false, .mv (.t 0), none⟩, .o ⟨(some 11), none, false, .mv (.t 1), none⟩, .o ⟨(some 12), none, false, .call 62 [(.t 10), (.t 11)], none⟩, .o ⟨(some 9), none, false, .mv (.t 12), none⟩, .o ⟨(some 13), none, false, .extract (.t 9) 0, none⟩, .o ⟨(some 14), none, false, .extract (.t 9) 1, none⟩, .o ⟨(some 7), none, false, .mv (.t 13), none⟩, .o ⟨(some 8), none, false, .mv (.t 14), (some [7, 8])⟩]
abbrev k25_o2 : List AJ := [.o ⟨(some 15), none, false, .mv (.t 8), none⟩, .o ⟨(some 16), none, false, .bin .neq (.t 15) (.c (.int .i64 0)), (some [7, 8, 16])⟩]
abbrev k25_o3 : List AJ := [.o ⟨(some 17), none, false, .mv (.t 8), none⟩, .o ⟨(some 4), none, false, .mv (.c .nilsl), none⟩, .o ⟨(some 5), none, false, .mv (.c .nilsl), none⟩, .o ⟨(some 6), none, false, .mv (.t 17), (some [4, 5, 6])⟩]
def k25_4 : ACode := .seq (.region k25_o3) .ret
def k25_5 : ACode := .cond (.t 16) k25_4 .skip
def k25_6 : ACode := .seq (.region k25_o2) k25_5
abbrev k25_o4 : List AI := [⟨(some 18), none, false, .mv (.t 7), none⟩, ⟨(some 19), none, false, .nilchk (.t 18), none⟩, ⟨(some 20), none, false, .fieldA 3 (.t 19), none⟩, ⟨(some 21), none, false, .load 1 false (.t 20), none⟩, ⟨(some 22), none, false, .mv (.t 7), none⟩, ⟨(some 23), none, false, .nilchk (.t 22), none⟩, ⟨(some 24), none, false, .fieldA 5 (.t 23), none⟩, ⟨(some 25), none, false, .load 1 false (.t 24), none⟩, ⟨(some 4), none, false, .mv (.t 21), none⟩, ⟨(some 5), none, false, .mv (.t 25), none⟩, ⟨(some 6), none, false, .mv (.c (.int .i64 0)), (some [4, 5, 6])⟩]
def k25_8 : ACode := .seq (.draw k25_o4 [] rfl) .ret
def k25_9 : ACode := .seq k25_6 k25_8
def k25_10 : ACode := .seq (.region k25_o1) k25_9
def k25_11 : ACode := .seq (.region k25_o0) k25_10
@[simp, simp ↓] theorem k25_4r : sR k25_4 k25_o3 .ret := yR rfl
@[simp, simp ↓] theorem k25_5r : rC k25_5 (.t 16) k25_4 .skip := zC rfl
@[simp, simp ↓] theorem k25_6r : sR k25_6 k25_o2 k25_5 := yR rfl
@[simp, simp ↓] theorem k25_8r : sD k25_8 k25_o4 [] .ret := yD rfl
@[simp, simp ↓] theorem k25_9r : rS k25_9 k25_6 k25_8 := zS rfl
@[simp, simp ↓] theorem k25_10r : sR k25_10 k25_o1 k25_9 := yR rfl
@[simp, simp ↓] theorem k25_11r : sR k25_11 k25_o0 k25_10 := yR rfl
noncomputable abbrev k25_C : Orc → Cx := mkC Try.prog [] 25 26 [.tmp 4, .tmp 5, .tmp 6]
theorem k25_of : OfP Try.prog Try.f25 25 26 k25_C k25_11 := @ofP _ _ _ _ _ _ _ _ Try.func25 (by decide +kernel) rfl (by kernel_rfl) rfl (by kernel_rfl)
theorem implGl_o (ts : List Tb) (k : Int) (hl : tbsTot ts ≤ 1048576) : ACalls Try.prog 25 [.snap 2 (ts.map Tb.av), .int .i64 k] [] (fun v h' => ∃ wc w gc gf, v = .tup [wc, w, .int .i64 (glC ts k)] ∧ OwnL iv 1 wc (glCols ts k) gc ∧ OwnLL w (glRows ts k) gf ∧ (∀ i ∈ dom gc, i ∉ dom gf) ∧ h' = gc ++ gf) := by
  refine ACalls.sub ?_
  obtain ⟨R, hR⟩ : ∃ R, R = fun (v : AV) (h'' : Heap) => ∃ h', (∀ p ∈ h', p ∈ h'') ∧ ((dom h'').Nodup → (dom h').Nodup) ∧ ∃ wc w gc gf, v = .tup [wc, w, .int .i64 (glC ts k)] ∧ OwnL iv 1 wc (glCols ts k) gc ∧ OwnLL w (glRows ts k) gf ∧ (∀ i ∈ dom gc, i ∉ dom gf) ∧ h' = gc ++ gf := ⟨_, rfl⟩
  rw [← hR]
  refine k25_of rfl noPure fun I => ?_
  refine Run2.of I 1000 ?_
  simp -implicitDefEqProofs
  refine (globalRows_w ts k hl).monoN ?_
  rintro v h' (⟨hc, rfl, rfl⟩ | ⟨hc, id, a, b, u, w, wc, gu, gf, gc, rfl, oc, huc, hf, rfl⟩) nd
  · have e1 : glCols ts k = [] := by unfold glCols; rw [if_neg hc]
    have e2 : glRows ts k = [] := by unfold glRows; rw [if_neg hc]
    refine gK.go ?_
    simp -implicitDefEqProofs [hc]
    refine .base ?_
    rw [hR]
    exact ⟨[], by simp, by simp [dom], .nilsl, .nilsl, [], [], rfl, by rw [e1]; exact .nil, by rw [e2]; exact .nil, by simp [dom], rfl⟩
  · have e1 : glCols ts k = colsOf ts := by unfold glCols; rw [if_pos hc]
    have e2 : glRows ts k = (glS ts k).1 := by unfold glRows; rw [if_pos hc]
    simp only [dom_append, dom_cons, List.nodup_append, List.nodup_cons, List.mem_append, List.mem_cons, not_or] at nd
    have n1 : id ∉ dom gu := fun hm => nd.2.2 id hm id (.inr (.inl rfl)) rfl
    have n2 : id ∉ dom gf := fun hm => nd.2.1.2.2 id hm id (.inl rfl) rfl
    have hcc := oc.cell
    have hwc := hf.own.cell
    unfold gB
    refine gK.go ?_
    simp -implicitDefEqProofs [hget_app n1, hget_app n2, huc, hcc, hwc]
    refine .base ?_
    rw [hR]
    refine ⟨gc ++ gf, fun p hp => ?_, fun _ => ?_, wc, w, gc, gf, by rw [hc], by rw [e1]; exact oc, by rw [e2]; exact hf.own, fun i h1 h2 => nd.2.1.2.2 i h2 i (.inr h1) rfl, rfl⟩
    · simp only [List.mem_append, List.mem_cons] at hp ⊢
      rcases hp with hp | hp
      · exact .inr (.inr (.inr hp))
      · exact .inr (.inl hp)
    · rw [dom_append, List.nodup_append]
      exact ⟨nd.2.1.2.1.2, nd.2.1.1, fun a h1 b h2 e => by subst e; exact nd.2.1.2.2 a h2 a (.inr h1) rfl⟩
end Go.AG
namespace Go.AG
open Go.Proofs Go.Proofs.Ytebkdegjiollbaa
set_option linter.unusedSimpArgs false
set_option linter.unusedVariables false
set_option maxRecDepth 4000
/-- The block of the reference's search. -/
def spG (ts : List Tb) (cols : List Int) (u w : AV) (a B : Int) (b : Bool) : Blk := ⟨7, [.agg [.snap 2 (ts.map Tb.av), .snap 1 (cols.map iv), u, w, .int .i64 a, .int .i64 B, .bool b]]⟩
theorem lend1_ip7 (L : Heap) (a b c d e f g : AV) : lend1 L (.ip [a, b, c, d, e, f, g]) = .ip [lend1 L a, lend1 L b, lend1 L c, lend1 L d, lend1 L e, lend1 L f, lend1 L g] := by
  induction L generalizing a b c d e f g with
  | nil => rfl
  | cons p L ih => simp only [lend1, fz, fzs]; exact ih ..
theorem fits_p {ts : List Tb} {cols row : List Int} {fs : List (List Int)} {a B : Int} {b : Bool} {id : Nat} {u w : AV} {gu gf H : Heap} (hok : tbsOk ts) (hl : tbsTot ts ≤ 1048576) (hc : cols.length ≤ 1048576) (hcr : riseS cols) (hw : row.length ≤ cols.length) (og : GrT 1 u (row.map iv) gu) (of : FoundL w fs gf)
    (h1 : (id, spG ts cols u w a B b) ∈ H) (h2 : ∀ p ∈ gu ++ gf, p ∈ H) (nd : (dom (gu ++ gf)).Nodup) :
    ACalls Try.prog 148 [.ptr id 7 0 0] H (fun v h' => v = .bool (suppT ts cols row) ∧ h' = H) := by
  refine ACalls.reads ((id, spG ts cols u w a B b) :: (gu ++ gf)) (fun p hp => ?_) ?_ rfl
  · rcases List.mem_cons.1 hp with rfl | hp
    · exact h1
    · exact h2 p hp
  · rw [lend_cons, lend_nil']
    obtain ⟨L, hL⟩ : ∃ L, L = gu ++ gf := ⟨_, rfl⟩
    have e : lend1 ((id, spG ts cols u w a B b) :: L) (.ptr id 7 0 0) = .ip [.snap 2 (ts.map Tb.av), .snap 1 (cols.map iv), lend1 L u, lend1 L w, .int .i64 a, .int .i64 B, .bool b] := by
      have : lend1 ((id, spG ts cols u w a B b) :: L) (.ptr id 7 0 0) = lend1 L (.ip [.snap 2 (ts.map Tb.av), .snap 1 (cols.map iv), u, w, .int .i64 a, .int .i64 B, .bool b]) := by
        simp only [lend1, fz, spG, and_self, if_true, List.getElem?_cons_zero, cellsOf, List.drop_zero]
      rw [this, lend1_ip7, lend1_cold L (x := .int .i64 a) rfl, lend1_cold L (x := .int .i64 B) rfl, lend1_cold L (x := .bool b) rfl, lend1_cold L (x := .snap 2 (ts.map Tb.av)) (by simp [cold, colds_Tb]), lend1_cold L (x := .snap 1 (cols.map iv)) (by simp [cold])]
    rw [← hL, e]
    have e2 : IsL iv 1 (lend1 L u) row := by
      have := og.lent
      rw [hL, lend1_append, lend1_cold _ (this.cold cold_iv1)]
      exact this
    have e3 : IsLL (lend1 L w) fs := by
      have := of.own.lentMid (A := gu) (B := []) (by simpa using nd)
      rw [hL]
      simpa using this
    exact ACalls.wk (.cons (Wk.ips (.cons (.refl _) (.cons (.refl _) (.cons e2.wk (.cons e3.wk (.cons (.refl _) (.cons (.refl _) (.cons (.refl _) .nil)))))))) .nil) (fitsG_s ts cols row fs a B b [] hok hl hc hcr hw)
/-- What a search of the reference leaves. -/
def SpOut (ts : List Tb) (cols : List Int) (B : Int) (id : Nat) (h : Heap) (im : List Int) (F : SrS) (v : AV) (h' : Heap) : Prop := ∃ u' gu' w' gf', v = .tup [] ∧ GrT 1 u' (im.map iv) gu' ∧ FoundL w' F.1 gf' ∧ h' = gu' ++ (gf' ++ (id, spG ts cols u' w' F.2.1 B F.2.2) :: h)
theorem own_t {u : AV} {l : List Int} {g : Heap} (o : GrT 1 u (l.map iv) g) (H : Heap) (hs : ∀ p ∈ g, p ∈ H) (hl : l.length ≤ 1048576) : ACalls Try.prog 47 [u] H (fun v h' => ∃ hp, Grow 1 v (l.map iv) hp ∧ (∀ i ∈ dom hp, i ∉ dom H) ∧ h' = hp ++ H) := by
  refine (ACalls.gives g hs (S := fun v h' => Grow 1 v (l.map iv) h') ?_ ?_).mono ?_
  · rw [lend_cons, lend_nil']
    refine ACalls.wk (.cons o.lent.wk .nil) ?_
    exact (l00Own_g l [] hl).mono fun v h' ⟨hp, hg, e⟩ => by rw [List.append_nil] at e; subst e; exact hg
  · intro v h' hw
    exact (Grow.own (enc := iv) hw).own own_iv1
  · rintro v h'' ⟨h', hw, hd, rfl⟩
    exact ⟨h', hw, hd, rfl⟩
abbrev k113_o0 : List AJ := [.o ⟨(some 4), none, false, .mv (.t 0), none⟩, .o ⟨(some 5), none, false, .nilchk (.t 4), none⟩, .o ⟨(some 6), none, false, .fieldA 2 (.t 5), none⟩, .o ⟨(some 7), none, false, .load 1 false (.t 6), none⟩, .o ⟨(some 8), none, false, .len (.t 7), none⟩, .o ⟨(some 2), none, false, .mv (.t 8), (some [0, 2])⟩]
abbrev k113_o1 : List AJ := [.o ⟨(some 9), none, false, .mv (.t 2), none⟩, .o ⟨(some 10), none, false, .mv (.t 0), none⟩, .o ⟨(some 11), none, false, .nilchk (.t 10), none⟩, .o ⟨(some 12), none, false, .fieldA 1 (.t 11), none⟩, .o ⟨(some 13), none, false, .load 1 false (.t 12), none⟩, .o ⟨(some 14), none, false, .len (.t 13), none⟩, .o ⟨(some 15), none, false, .bin .eql (.t 9) (.t 14), (some [0, 2, 15])⟩]
abbrev k113_o2 : List AJ := [.o ⟨(some 16), none, false, .mv (.t 0), none⟩, .o ⟨(some 17), none, false, .call 148 [(.t 16)], (some [0, 17])⟩]
abbrev k113_o3 : List AI := [⟨(some 18), none, false, .mv (.t 0), none⟩, ⟨(some 19), none, false, .mv (.t 0), none⟩, ⟨(some 20), none, false, .nilchk (.t 19), none⟩, ⟨(some 21), none, false, .fieldA 3 (.t 20), none⟩, ⟨(some 22), none, false, .load 1 false (.t 21), none⟩, ⟨(some 23), none, false, .mv (.t 0), none⟩, ⟨(some 24), none, false, .nilchk (.t 23), none⟩, ⟨(some 25), none, false, .fieldA 2 (.t 24), none⟩, ⟨(some 26), none, false, .load 1 false (.t 25), none⟩, ⟨(some 27), none, false, .call 47 [(.t 26)], none⟩, ⟨(some 28), none, false, .bsl false 1 [(.t 27)], none⟩, ⟨(some 29), none, false, .append 1 24 (.t 22) (.t 28), none⟩, ⟨(some 30), none, false, .nilchk (.t 18), none⟩, ⟨(some 31), none, false, .fieldA 3 (.t 30), none⟩, ⟨none, none, false, .store 1 (.t 31) (.t 29), none⟩]
abbrev k113_o4 : List AJ := [.o ⟨(some 18), none, false, .mv (.t 0), none⟩, .o ⟨(some 19), none, false, .mv (.t 0), none⟩, .o ⟨(some 20), none, false, .nilchk (.t 19), none⟩, .o ⟨(some 21), none, false, .fieldA 3 (.t 20), none⟩, .o ⟨(some 23), none, false, .mv (.t 0), none⟩, .o ⟨(some 24), none, false, .nilchk (.t 23), none⟩, .o ⟨(some 25), none, false, .fieldA 2 (.t 24), none⟩, .o ⟨(some 22), none, false, .load 1 false (.t 21), none⟩, .o ⟨(some 26), none, false, .load 1 false (.t 25), none⟩, .o ⟨(some 27), none, false, .call 47 [(.t 26)], none⟩, .o ⟨(some 28), none, false, .bsl false 1 [(.t 27)], none⟩, .o ⟨(some 29), none, false, .append 1 24 (.t 22) (.t 28), none⟩, .o ⟨(some 30), none, false, .nilchk (.t 18), none⟩, .o ⟨(some 31), none, false, .fieldA 3 (.t 30), (some [29, 31])⟩, .o ⟨none, none, false, .store 1 (.t 31) (.t 29), (some [])⟩]
abbrev k113_o5 : List AJ := [.o ⟨(some 18), none, false, .mv (.t 0), none⟩, .o ⟨(some 19), none, false, .mv (.t 0), none⟩, .o ⟨(some 20), none, false, .nilchk (.t 19), none⟩, .o ⟨(some 21), none, false, .fieldA 3 (.t 20), none⟩, .o ⟨(some 23), none, false, .mv (.t 0), none⟩, .o ⟨(some 24), none, false, .nilchk (.t 23), none⟩, .o ⟨(some 25), none, false, .fieldA 2 (.t 24), none⟩, .o ⟨(some 26), none, false, .load 1 false (.t 25), none⟩, .o ⟨(some 22), none, false, .load 1 false (.t 21), none⟩, .o ⟨(some 27), none, false, .call 47 [(.t 26)], none⟩, .o ⟨(some 28), none, false, .bsl false 1 [(.t 27)], none⟩, .o ⟨(some 29), none, false, .append 1 24 (.t 22) (.t 28), none⟩, .o ⟨(some 30), none, false, .nilchk (.t 18), none⟩, .o ⟨(some 31), none, false, .fieldA 3 (.t 30), (some [29, 31])⟩, .o ⟨none, none, false, .store 1 (.t 31) (.t 29), (some [])⟩]
abbrev k113_o6 : List AJ := [.o ⟨(some 18), none, false, .mv (.t 0), none⟩, .o ⟨(some 19), none, false, .mv (.t 0), none⟩, .o ⟨(some 20), none, false, .nilchk (.t 19), none⟩, .o ⟨(some 21), none, false, .fieldA 3 (.t 20), none⟩, .o ⟨(some 23), none, false, .mv (.t 0), none⟩, .o ⟨(some 24), none, false, .nilchk (.t 23), none⟩, .o ⟨(some 25), none, false, .fieldA 2 (.t 24), none⟩, .o ⟨(some 26), none, false, .load 1 false (.t 25), none⟩, .o ⟨(some 27), none, false, .call 47 [(.t 26)], none⟩, .o ⟨(some 22), none, false, .load 1 false (.t 21), none⟩, .o ⟨(some 28), none, false, .bsl false 1 [(.t 27)], none⟩, .o ⟨(some 29), none, false, .append 1 24 (.t 22) (.t 28), none⟩, .o ⟨(some 30), none, false, .nilchk (.t 18), none⟩, .o ⟨(some 31), none, false, .fieldA 3 (.t 30), (some [29, 31])⟩, .o ⟨none, none, false, .store 1 (.t 31) (.t 29), (some [])⟩]
def k113_3 : ACode := .drawE k113_o3 [k113_o4, k113_o5, k113_o6] [[0, 1, 2, 3, 5, 6, 7, 4, 8, 9, 10, 11, 12, 13, 14], [0, 1, 2, 3, 5, 6, 7, 8, 4, 9, 10, 11, 12, 13, 14], [0, 1, 2, 3, 5, 6, 7, 8, 9, 4, 10, 11, 12, 13, 14]] rfl rfl
def k113_4 : ACode := .cond (.t 17) k113_3 .skip
def k113_5 : ACode := .seq (.region k113_o2) k113_4
def k113_6 : ACode := .seq k113_5 .ret
def k113_7 : ACode := .cond (.t 15) k113_6 .skip
def k113_8 : ACode := .seq (.region k113_o1) k113_7
abbrev k113_o7 : List AJ := [.o ⟨(some 3), none, false, .mv (.c (.int .i64 0)), (some [0, 2, 3])⟩]
abbrev k113_o8 : List AJ := [.o ⟨(some 32), none, false, .mv (.t 3), none⟩, .o ⟨(some 33), none, false, .bin .leq (.t 32) (.c (.int .i64 3)), none⟩, .o ⟨(some 34), none, false, .mv (.t 33), none⟩, .o ⟨(some 35), (some (34, true)), false, .mv (.t 0), none⟩, .o ⟨(some 36), (some (34, true)), false, .nilchk (.t 35), none⟩, .o ⟨(some 37), (some (34, true)), false, .fieldA 6 (.t 36), none⟩, .o ⟨(some 38), (some (34, true)), false, .load 1 false (.t 37), none⟩, .o ⟨(some 39), (some (34, true)), false, .un .not (.t 38), none⟩, .o ⟨(some 40), none, false, .pick (.t 34) (.t 39) (.c (.bool false)), (some [0, 2, 3, 40])⟩]
def k113_11 : ACode := .cond (.t 40) .skip (.exit 0)
def k113_12 : ACode := .seq (.region k113_o8) k113_11
abbrev k113_o9 : List AJ := [.o ⟨(some 43), none, false, .mv (.t 0), none⟩, .o ⟨(some 44), none, false, .mv (.t 0), none⟩, .o ⟨(some 45), none, false, .nilchk (.t 44), none⟩, .o ⟨(some 46), none, false, .fieldA 2 (.t 45), none⟩, .o ⟨(some 47), none, false, .load 1 false (.t 46), none⟩, .o ⟨(some 48), none, false, .mv (.t 3), none⟩, .o ⟨(some 49), none, false, .bsl false 1 [(.t 48)], none⟩, .o ⟨(some 50), none, false, .append 1 8 (.t 47) (.t 49), none⟩, .o ⟨(some 51), none, false, .nilchk (.t 43), none⟩, .o ⟨(some 52), none, false, .fieldA 2 (.t 51), none⟩, .o ⟨none, none, false, .store 1 (.t 52) (.t 50), (some [0, 2, 3])⟩]
abbrev k113_o10 : List AJ := [.o ⟨(some 53), none, false, .mv (.t 0), none⟩, .o ⟨(some 54), none, false, .call 148 [(.t 53)], (some [0, 2, 3, 54])⟩]
abbrev k113_o11 : List AI := [⟨(some 55), none, false, .mv (.t 0), none⟩, ⟨(some 56), none, false, .nilchk (.t 55), none⟩, ⟨(some 57), none, false, .fieldA 4 (.t 56), none⟩, ⟨(some 58), none, false, .load 1 false (.t 57), none⟩, ⟨(some 59), none, false, .mv (.t 0), none⟩, ⟨(some 60), none, false, .nilchk (.t 59), none⟩, ⟨(some 61), none, false, .fieldA 5 (.t 60), none⟩, ⟨(some 62), none, false, .load 1 false (.t 61), none⟩, ⟨(some 63), none, false, .bin .eql (.t 58) (.t 62), (some [0, 2, 3, 63])⟩]
abbrev k113_o12 : List AJ := [.o ⟨(some 64), none, false, .mv (.t 0), none⟩, .o ⟨(some 65), none, false, .nilchk (.t 64), none⟩, .o ⟨(some 66), none, false, .fieldA 6 (.t 65), none⟩, .o ⟨none, none, false, .store 1 (.t 66) (.c (.bool true)), (some [0, 2, 3])⟩]
def k113_16 : ACode := .region k113_o12
abbrev k113_o13 : List AJ := [.o ⟨(some 67), none, false, .mv (.t 0), none⟩, .o ⟨(some 68), none, false, .nilchk (.t 67), none⟩, .o ⟨(some 69), none, false, .fieldA 4 (.t 68), none⟩, .o ⟨(some 70), none, false, .load 1 false (.t 69), none⟩, .o ⟨(some 71), none, true, .bin .add (.t 70) (.c (.int .i64 1)), none⟩, .o ⟨(some 72), none, false, .nilchk (.t 67), none⟩, .o ⟨(some 73), none, false, .fieldA 4 (.t 72), none⟩, .o ⟨none, none, false, .store 1 (.t 73) (.t 71), (some [0, 2, 3])⟩]
abbrev k113_o14 : List AJ := [.o ⟨(some 74), none, false, .mv (.t 0), none⟩, .o ⟨(some 75), none, false, .call 113 [(.t 74)], (some [0, 2, 3])⟩]
def k113_18 : ACode := .region k113_o14
def k113_19 : ACode := .seq (.region k113_o13) k113_18
def k113_20 : ACode := .cond (.t 63) k113_16 k113_19
def k113_21 : ACode := .seq (.draw k113_o11 [] rfl) k113_20
def k113_22 : ACode := .cond (.t 54) k113_21 .skip
def k113_23 : ACode := .seq (.region k113_o10) k113_22
abbrev k113_o15 : List AJ := [.o ⟨(some 76), none, false, .mv (.t 0), none⟩, .o ⟨(some 77), none, false, .mv (.t 0), none⟩, .o ⟨(some 78), none, false, .nilchk (.t 77), none⟩, .o ⟨(some 79), none, false, .fieldA 2 (.t 78), none⟩, .o ⟨(some 80), none, false, .load 1 false (.t 79), none⟩, .o ⟨(some 81), none, false, .mv (.t 2), none⟩, .o ⟨(some 82), none, false, .slice 1 (.t 80) none (some (.t 81)) none, none⟩, .o ⟨(some 83), none, false, .nilchk (.t 76), none⟩, .o ⟨(some 84), none, false, .fieldA 2 (.t 83), none⟩, .o ⟨none, none, false, .store 1 (.t 84) (.t 82), (some [0, 2, 3])⟩]
def k113_24 : ACode := .region k113_o15
def k113_25 : ACode := .seq k113_23 k113_24
def k113_26 : ACode := .seq (.region k113_o9) k113_25
abbrev k113_o16 : List AJ := [.o ⟨(some 41), none, false, .mv (.t 3), none⟩, .o ⟨(some 42), none, true, .bin .add (.t 41) (.c (.int .i64 1)), none⟩, .o ⟨(some 3), none, false, .mv (.t 42), (some [0, 2, 3])⟩]
def k113_28 : ACode := .region k113_o16
def k113_29 : ACode := .seq (.block 1 k113_26) k113_28
def k113_30 : ACode := .seq k113_12 k113_29
def k113_31 : ACode := .loop k113_30
def k113_32 : ACode := .block 0 k113_31
def k113_33 : ACode := .seq (.region k113_o7) k113_32
def k113_34 : ACode := .seq k113_8 k113_33
def k113_35 : ACode := .seq (.region k113_o0) k113_34
@[simp, simp ↓] theorem k113_3r : rE k113_3 [k113_o4, k113_o5, k113_o6] := zE rfl
@[simp, simp ↓] theorem k113_4r : rC k113_4 (.t 17) k113_3 .skip := zC rfl
@[simp, simp ↓] theorem k113_5r : sR k113_5 k113_o2 k113_4 := yR rfl
@[simp, simp ↓] theorem k113_6r : rS k113_6 k113_5 .ret := zS rfl
@[simp, simp ↓] theorem k113_7r : rC k113_7 (.t 15) k113_6 .skip := zC rfl
@[simp, simp ↓] theorem k113_8r : sR k113_8 k113_o1 k113_7 := yR rfl
@[simp, simp ↓] theorem k113_11r : rC k113_11 (.t 40) .skip (.exit 0) := zC rfl
@[simp, simp ↓] theorem k113_12r : sR k113_12 k113_o8 k113_11 := yR rfl
@[simp, simp ↓] theorem k113_16r : rR k113_16 k113_o12 := zR rfl
@[simp, simp ↓] theorem k113_18r : rR k113_18 k113_o14 := zR rfl
@[simp, simp ↓] theorem k113_19r : sR k113_19 k113_o13 k113_18 := yR rfl
@[simp, simp ↓] theorem k113_20r : rC k113_20 (.t 63) k113_16 k113_19 := zC rfl
@[simp, simp ↓] theorem k113_21r : sD k113_21 k113_o11 [] k113_20 := yD rfl
@[simp, simp ↓] theorem k113_22r : rC k113_22 (.t 54) k113_21 .skip := zC rfl
@[simp, simp ↓] theorem k113_23r : sR k113_23 k113_o10 k113_22 := yR rfl
@[simp, simp ↓] theorem k113_24r : rR k113_24 k113_o15 := zR rfl
@[simp, simp ↓] theorem k113_25r : rS k113_25 k113_23 k113_24 := zS rfl
@[simp, simp ↓] theorem k113_26r : sR k113_26 k113_o9 k113_25 := yR rfl
@[simp, simp ↓] theorem k113_28r : rR k113_28 k113_o16 := zR rfl
@[simp, simp ↓] theorem k113_29r : sB k113_29 1 k113_26 k113_28 := yB rfl
@[simp, simp ↓] theorem k113_30r : rS k113_30 k113_12 k113_29 := zS rfl
@[simp, simp ↓] theorem k113_31r : rL k113_31 k113_30 := zL rfl
@[simp, simp ↓] theorem k113_32r : rB k113_32 0 k113_31 := zB rfl
@[simp, simp ↓] theorem k113_33r : sR k113_33 k113_o7 k113_32 := yR rfl
@[simp, simp ↓] theorem k113_34r : rS k113_34 k113_8 k113_33 := zS rfl
@[simp, simp ↓] theorem k113_35r : sR k113_35 k113_o0 k113_34 := yR rfl
noncomputable abbrev k113_C : Orc → Cx := mkC Try.prog [99999] 113 85 []
theorem k113_of : OfP Try.prog Try.f113 113 85 k113_C k113_35 := @ofP _ _ _ _ _ _ _ _ Try.func113 (by decide +kernel) rfl (by kernel_rfl) rfl (by kernel_rfl)
theorem runG_w (ts : List Tb) (cols : List Int) (hok : tbsOk ts) (hl : tbsTot ts ≤ 1048576) (hn : cols.length ≤ 48) (hcr : riseS cols) (B : Int) (hB : 1 ≤ B ∧ B ≤ 20000) (id : Nat) (h : Heap) : ∀ (d : Nat) (im : List Int) (fs : List (List Int)) (k : Int) (u w : AV) (gu gf : Heap), im.length + d = cols.length → 0 ≤ k → (fs.length : Int) ≤ k → k ≤ B → GrT 1 u (im.map iv) gu → FoundL w fs gf →
    ACalls Try.prog 113 [.ptr id 7 0 0] (gu ++ (gf ++ (id, spG ts cols u w k B false) :: h)) (SpOut ts cols B id h im (srL (suppT ts cols) B d im (fs, k, false))) := by
  intro d
  induction d with
  | zero =>
    intro im fs k u w gu gf hd hk0 hfk hkB hg hf
    have hul := hg.len
    have huc := hg.cell
    have hwc := hf.own.cell
    simp only [List.length_map] at hul
    have hde : (im.length : Int) = cols.length := by omega
    refine ACalls.permR ?_
    obtain ⟨R, hR⟩ : ∃ R, R = fun (v : AV) (h'' : Heap) => (dom h'').Nodup → ∃ h', h''.Perm h' ∧ SpOut ts cols B id h im (srL (suppT ts cols) B 0 im (fs, k, false)) v h' := ⟨_, rfl⟩
    rw [← hR]
    refine k113_of rfl noPure fun I => ?_
    refine Run2.nd fun nd => ?_
    simp only [dom_append, dom_cons, List.nodup_append, List.nodup_cons, List.mem_append, List.mem_cons, not_or] at nd
    have n1 : id ∉ dom gu := fun hm => nd.2.2 id hm id (.inr (.inl rfl)) rfl
    have n2 : id ∉ dom gf := fun hm => nd.2.1.2.2 id hm id (.inl rfl) rfl
    have ndL : (dom (gu ++ gf)).Nodup := by
      simp only [dom_append, List.nodup_append, List.mem_append]
      exact ⟨nd.1, nd.2.1.1, fun a ha b hb => nd.2.2 a ha b (.inl hb)⟩
    have hmem : ∀ p ∈ gu ++ gf, p ∈ gu ++ (gf ++ (id, spG ts cols u w k B false) :: h) := fun p hp => by
      simp only [List.mem_append, List.mem_cons] at hp ⊢
      exact hp.elim .inl fun h => .inr (.inl h)
    have hs := fits_p hok hl (by omega) hcr (by omega) hg hf (a := k) (B := B) (b := false) (id := id) (H := gu ++ (gf ++ (id, spG ts cols u w k B false) :: h)) (by simp) hmem ndL
    unfold spG at hs ⊢
    refine Run2.of I 1000 ?_
    simp -implicitDefEqProofs [hget_app n1, hget_app n2, hul, huc, hwc, hde]
    refine hs.mono ?_
    rintro v h' ⟨rfl, rfl⟩
    by_cases hfit : suppT ts cols im = true
    · refine gK.go ?_
      simp -implicitDefEqProofs [hfit, hget_app n1, hget_app n2, hul, huc, hwc, hde]
      have hbig : fs.length ≤ 20001 := by omega
      obtain ⟨us, hff, hi, ga, ou, gd, rfl⟩ := hf
      have hac := ga.cell
      have hal := ou.len
      simp only [dom_append, List.mem_append, not_or] at n2
      refine ⟨?_, ?_, ?_⟩
      all_goals
        refine (own_t hg _ (fun p hp => List.mem_append_left _ hp) (by omega)).mono ?_
        rintro v h' ⟨hb, gb, db, rfl⟩
        have hbc := gb.cell
        have n3 : id ∉ dom hb := fun hm => db id hm (by simp [dom_append])
        simp only [List.append_assoc]
        refine gK.go ?_
        simp -implicitDefEqProofs [hget_app n3, hget_app n1, hget_app n2.1, hget_app n2.2, hbc, cells_of hbc, stor_of hbc, hac]
        rw [← List.append_assoc hb gu]
        refine ga.app_mid (pre := hb ++ gu) (fun i hi' hm => ?_) (by simp; omega) (by simp) fun w' hff' ga' gd' => ?_
        · rw [dom_append, List.mem_append] at hm
          rcases hm with hm | hm
          · exact db i hm (by simp only [dom_append, List.mem_append]; exact .inr (.inl (.inl hi')))
          · exact nd.2.2 i hm i (.inl (by rw [dom_append]; exact List.mem_append_left _ hi')) rfl
        · have q1 : id ∉ dom hff' := fun hm => gd' id hm (by simp [dom_append])
          have hac' := ga'.cell
          simp only [List.append_assoc]
          simp -implicitDefEqProofs [hget_app q1, hset_app q1, hget_app n3, hset_app n3, hget_app n1, hset_app n1, hget_app n2.1, hset_app n2.1, hget_app n2.2, hset_app n2.2, hac', cells_of hac', stor_of hac']
          refine .base ?_
          rw [hR]
          refine fun nd2 => ⟨_, perm5 hff' hb gu hi _, u, gu, w', hff' ++ (hi ++ hb), rfl, hg, ?_, rfl⟩
          refine ⟨us ++ [v], hff', hi ++ hb, ga', ?_, fun i h1 h2 => gd' i h1 ?_, rfl⟩
          · have := ou.append (.one (Grow.own (enc := iv) gb)) fun i h1 h2 => db i h2 (by simp only [dom_append, List.mem_append]; exact .inr (.inl (.inr h1)))
            simpa [srL, hfit] using this
          · simp only [dom_append, List.mem_append] at h2 ⊢
            rcases h2 with h2 | h2
            · exact .inr (.inl h2)
            · exact .inl (.inl h2)
    · refine gK.go ?_
      simp -implicitDefEqProofs [hfit, hget_app n1, hget_app n2, hul, huc, hwc, hde]
      refine .base ?_
      rw [hR]
      refine fun _ => ⟨_, List.Perm.refl _, u, gu, w, gf, rfl, hg, ?_, rfl⟩
      simpa [srL, hfit] using hf
  | succ d ihd =>
    intro im fs k u w gu gf hd hk0 hfk hkB hg hf
    have hul := hg.len
    have huc := hg.cell
    have hwc := hf.own.cell
    simp only [List.length_map] at hul
    have hde : ¬ (im.length : Int) = cols.length := by omega
    obtain ⟨F, hF⟩ : ∃ F, F = (List.range 4).foldl (lstep (suppT ts cols) B d im) (fs, k, false) := ⟨_, rfl⟩
    rw [srL_succ, ← hF]
    obtain ⟨R, hR⟩ : ∃ R, R = SpOut ts cols B id h im F := ⟨_, rfl⟩
    rw [← hR]
    refine k113_of rfl noPure fun I => ?_
    refine Run2.nd fun nd => ?_
    simp only [dom_append, dom_cons, List.nodup_append, List.nodup_cons, List.mem_append, List.mem_cons, not_or] at nd
    have n1 : id ∉ dom gu := fun hm => nd.2.2 id hm id (.inr (.inl rfl)) rfl
    have n2 : id ∉ dom gf := fun hm => nd.2.1.2.2 id hm id (.inl rfl) rfl
    unfold spG
    refine Run2.of I 1000 ?_
    simp -implicitDefEqProofs [hget_app n1, hget_app n2, hul, huc, hwc, hde]
    refine Run2.loopE (α := Nat × SrS × AV × AV × Heap × Heap) (fun s => [(0, .ptr id 7 0 0), (2, .int .i64 im.length), (3, .int .i64 (s.1 : Nat))])
      (fun s => s.2.2.2.2.1 ++ (s.2.2.2.2.2 ++ (id, spG ts cols s.2.2.1 s.2.2.2.1 s.2.1.2.1 B s.2.1.2.2) :: h)) (fun s => 4 - s.1)
      (fun s => s.1 ≤ 4 ∧ 0 ≤ s.2.1.2.1 ∧ (s.2.1.1.length : Int) ≤ s.2.1.2.1 ∧ s.2.1.2.1 ≤ B ∧ F = ((List.range 4).drop s.1).foldl (lstep (suppT ts cols) B d im) s.2.1 ∧ GrT 1 s.2.2.1 (im.map iv) s.2.2.2.2.1 ∧ FoundL s.2.2.2.1 s.2.1.1 s.2.2.2.2.2)
      (0, (fs, k, false), u, w, gu, gf) (by simp) (by simp [spG]) ⟨Nat.zero_le _, hk0, hfk, hkB, by simpa using hF, hg, hf⟩ ?_
    clear hF hg hf hul huc hwc hk0 hfk hkB hde n1 n2 nd
    rintro ⟨i, ⟨fs, k, f⟩, u, w, gu, gf⟩ ⟨hi, hk0, hfk, hkB, hF, hg, hf⟩ ih
    simp only at hi hk0 hfk hkB hF hg hf ih ⊢
    have hul := hg.len
    have huc := hg.cell
    have hwc := hf.own.cell
    simp only [List.length_map] at hul
    refine Run2.nd fun nd => ?_
    simp only [dom_append, dom_cons, List.nodup_append, List.nodup_cons, List.mem_append, List.mem_cons, not_or] at nd
    have n1 : id ∉ dom gu := fun hm => nd.2.2 id hm id (.inr (.inl rfl)) rfl
    have n2 : id ∉ dom gf := fun hm => nd.2.1.2.2 id hm id (.inl rfl) rfl
    cases f with
    | true =>
      rw [lstep_full] at hF
      clear ih
      unfold spG
      by_cases hlt : (i : Int) ≤ 3
      · refine Run2.of I 1000 ?_
        simp -implicitDefEqProofs [hlt, hget_app n1, hget_app n2, hul, huc]
        refine .base ?_
        rw [hR, hF]
        exact ⟨u, gu, w, gf, rfl, hg, hf, rfl⟩
      · refine Run2.of I 1000 ?_
        simp -implicitDefEqProofs [hlt, hget_app n1, hget_app n2, hul, huc]
        refine .base ?_
        rw [hR, hF]
        exact ⟨u, gu, w, gf, rfl, hg, hf, rfl⟩
    | false =>
      by_cases hlt : i < 4
      · have hri : (List.range 4)[i]'(by simpa using hlt) = i := by simp
        rw [List.drop_eq_getElem_cons (by simpa using hlt), hri, List.foldl_cons] at hF
        have hltI : (i : Int) ≤ 3 := by omega
        have go := fun fs' k' f' (x : Int) idl ex w' gf' a0 a1 a2 a3 a4 => ih (i + 1, (fs', k', f'), .sl idl 1 0 im.length none, w', [(idl, ⟨1, (im ++ [x]).map iv ++ ex⟩)], gf') ⟨hlt, a0, a1, a2, a3, by
          have := GrT.sl (sz := 1) idl (im.map iv) (iv x :: ex) im.length (by simp)
          simpa using this, a4⟩ (by simp only; omega)
        clear ih
        unfold spG
        refine Run2.of I 1000 ?_
        simp -implicitDefEqProofs [hltI, hget_app n1, hset_app n1, hget_app n2, hset_app n2, hul, huc]
        refine GrT.app hg (by simp; omega) (by simp) fun w2 gu2 hg2 hf2 => ?_
        have m1 : id ∉ dom gu2 := fun e => hf2 id e (by simp [dom_append, dom])
        have hwc2 := hg2.cell
        simp -implicitDefEqProofs [hget_app m1, hset_app m1, hget_app n2, hset_app n2, hwc2, cells_of hwc2, stor_of hwc2]
        have hgt : GrT 1 w2 ((im ++ [(i : Int)]).map iv) gu2 := by simpa using hg2.t
        have hmem : ∀ p ∈ gu2 ++ gf, p ∈ gu2 ++ (gf ++ (id, spG ts cols w2 w k B false) :: h) := fun p hp => by
          simp only [List.mem_append, List.mem_cons] at hp ⊢
          exact hp.elim .inl fun h => .inr (.inl h)
        have ndL : (dom (gu2 ++ gf)).Nodup := by
          simp only [dom_append, List.nodup_append, List.mem_append]
          refine ⟨hgt.nodup, nd.2.1.1, fun a ha b hb e => hf2 a ha ?_⟩
          subst e
          simp only [dom_append, dom_cons, List.mem_append, List.mem_cons]
          exact .inl hb
        have hs := fits_p hok hl (by omega) hcr (by simp; omega) hgt hf (a := k) (B := B) (b := false) (id := id) (H := gu2 ++ (gf ++ (id, spG ts cols w2 w k B false) :: h)) (by simp) hmem ndL
        simp only at go
        unfold spG at hs go
        refine hs.mono ?_
        rintro v h' ⟨rfl, rfl⟩
        by_cases hfit : suppT ts cols (im ++ [(i : Int)]) = true
        · rw [hfit]
          by_cases hk : k = B
          · have hs : lstep (suppT ts cols) B d im (fs, k, false) i = (fs, k, true) := by simp [lstep, hfit, hk]
            rw [hs] at hF
            generalize hLL : (im ++ [(i : Int)]).map iv = LL at hgt
            cases hgt with
            | nil => simp at hLL
            | emp => simp at hLL
            | sl idl _ ex nn hnn =>
              obtain rfl : nn = im.length + 1 := by rw [hnn, ← hLL]; simp
              subst hLL
              have hgo := go fs k true i idl ex w gf hk0 hfk hkB hF hf
              rw [hk] at hgo
              have hne : ¬ idl = id := fun e => m1 (by simp [dom, e])
              have hLm : ((im ++ [(i : Int)]).map iv).length ≤ 48 := by simp; omega
              refine gK.go ?_
              simp -implicitDefEqProofs [hne, hk, hget_app n2, hset_app n2, hwc]
              exact ⟨by omega, by omega, by simpa using hgo⟩
          · have hs : lstep (suppT ts cols) B d im (fs, k, false) i = srL (suppT ts cols) B d (im ++ [(i : Int)]) (fs, k + 1, false) := by simp [lstep, hfit, hk]
            rw [hs] at hF
            have hbd := (srL_bd (suppT ts cols) B d (im ++ [(i : Int)]) (fs, k + 1, false) 1 (by simp only; omega) (by simp only; omega)).1
            have hcall := ihd (im ++ [(i : Int)]) fs (k + 1) w2 w gu2 gf (by simp; omega) (by omega) (by omega) (by omega) hgt hf
            generalize srL (suppT ts cols) B d (im ++ [(i : Int)]) (fs, k + 1, false) = G at *
            obtain ⟨fs', k', f'⟩ := G
            simp only at hbd hF
            unfold spG at hcall
            refine gK.go ?_
            simp -implicitDefEqProofs [hk, hget_app m1, hset_app m1, hget_app n2, hset_app n2, hwc2, hwc]
            refine ⟨by omega, hcall.monoN ?_⟩
            rintro v h' ⟨u', gu3, w', gf3, rfl, hg3, hf3, rfl⟩ nd3
            simp only [dom_append, dom_cons, List.nodup_append, List.nodup_cons, List.mem_append, List.mem_cons, not_or] at nd3
            have p1 : id ∉ dom gu3 := fun hm => nd3.2.2 id hm id (.inr (.inl rfl)) rfl
            have p2 : id ∉ dom gf3 := fun hm => nd3.2.1.2.2 id hm id (.inl rfl) rfl
            have hw3 := hf3.own.cell
            generalize hLL : (im ++ [(i : Int)]).map iv = LL at hg3
            cases hg3 with
            | nil => simp at hLL
            | emp => simp at hLL
            | sl idl _ ex nn hnn =>
              obtain rfl : nn = im.length + 1 := by rw [hnn, ← hLL]; simp
              subst hLL
              have hgo := go fs' k' f' i idl ex w' gf3 (by omega) (by omega) (by omega) hF hf3
              have hne : ¬ idl = id := fun e => p1 (by simp [dom, e])
              have hLm : ((im ++ [(i : Int)]).map iv).length ≤ 48 := by simp; omega
              unfold spG
              refine gK.go ?_
              simp -implicitDefEqProofs [hne, hget_app p2, hset_app p2, hw3]
              exact ⟨by omega, by omega, by simpa using hgo⟩
        · have hfit : suppT ts cols (im ++ [(i : Int)]) = false := by simpa using hfit
          have hs : lstep (suppT ts cols) B d im (fs, k, false) i = (fs, k, false) := by simp [lstep, hfit]
          rw [hs] at hF
          rw [hfit]
          generalize hLL : (im ++ [(i : Int)]).map iv = LL at hgt
          cases hgt with
          | nil => simp at hLL
          | emp => simp at hLL
          | sl idl _ ex nn hnn =>
            obtain rfl : nn = im.length + 1 := by rw [hnn, ← hLL]; simp
            subst hLL
            have hgo := go fs k false i idl ex w gf hk0 hfk hkB hF hf
            have hne : ¬ idl = id := fun e => m1 (by simp [dom, e])
            have hLm : ((im ++ [(i : Int)]).map iv).length ≤ 48 := by simp; omega
            refine gK.go ?_
            simp -implicitDefEqProofs [hne, hget_app n2, hset_app n2, hwc]
            exact ⟨by omega, by omega, by simpa using hgo⟩
      · obtain rfl : i = 4 := by omega
        rw [List.drop_of_length_le (by simp), List.foldl_nil] at hF
        clear ih
        unfold spG
        refine Run2.of I 1000 ?_
        simp -implicitDefEqProofs [hget_app n1, hget_app n2]
        refine .base ?_
        rw [hR, hF]
        exact ⟨u, gu, w, gf, rfl, hg, hf, rfl⟩
noncomputable def o_l20List : List AV → Option (Prop × AV) := tab (fun (x : List Tb) => match x with | ts => [.snap 2 (ts.map Tb.av)]) (fun x => match x with | ts => tbsTot ts ≤ 1048576) (fun x => match x with | ts => .bool (decide (tbsOk ts)))
@[simp] theorem o_l20List_e (ts : List Tb) : o_l20List [.snap 2 (ts.map Tb.av)] = some (tbsTot ts ≤ 1048576, .bool (decide (tbsOk ts))) := tab_at (enc := fun (x : List Tb) => match x with | ts => [.snap 2 (ts.map Tb.av)]) (fun x y h => by
  simp at h; simp [h] <;> omega) _ _ ts
theorem o_l20List_k : Knows Try.prog 111 o_l20List := tab_knows fun x hx h => by
  exact l20List_s x h hx
noncomputable def o_l20Cols : List AV → Option (Prop × AV) := tab (fun (x : List Int × List Int) => match x with | (a, b) => [.snap 1 (a.map iv), .snap 1 (b.map iv)]) (fun x => match x with | (a, b) => a.length + b.length ≤ 1048576) (fun x => match x with | (a, b) => .snap 1 ((b.foldl (fun o x => insI x o) a).map iv))
@[simp] theorem o_l20Cols_e (a : List Int) (b : List Int) : o_l20Cols [.snap 1 (a.map iv), .snap 1 (b.map iv)] = some (a.length + b.length ≤ 1048576, .snap 1 ((b.foldl (fun o x => insI x o) a).map iv)) := tab_at (enc := fun (x : List Int × List Int) => match x with | (a, b) => [.snap 1 (a.map iv), .snap 1 (b.map iv)]) (fun x y h => by
  obtain ⟨a1, b1⟩ := x; obtain ⟨a2, b2⟩ := y; simp at h; simp [h] <;> omega) _ _ (a, b)
theorem o_l20Cols_k : Knows Try.prog 112 o_l20Cols := tab_knows fun x hx h => by
  obtain ⟨a, b⟩ := x; exact l20Columns_s a b rfl h hx
noncomputable def orcH5 : List (Nat × (List AV → Option (Prop × AV))) := (111, o_l20List) :: (112, o_l20Cols) :: (45, o_l00In) :: (47, o_l00Own) :: []
theorem orcH5_p : Pure Try.prog (lk orcH5) := (lk_pure o_l20List_k (lk_pure o_l20Cols_k (lk_pure o_l00In_k (lk_pure o_l00Own_k lk_pure0))))
@[simp] theorem orcH5_l (b : Bool) (g : FuncId) (l : List AV) : lk orcH5 b g l = if g = 111 then o_l20List l else if g = 112 then o_l20Cols l else if g = 45 then o_l00In l else if g = 47 then o_l00Own l else none := nr rfl
theorem glRows_bd (ts : List Tb) (k : Int) : (glCols ts k).length ≤ 8 ∧ (glRows ts k).length ≤ 20001 ∧ ∀ r ∈ glRows ts k, r.length ≤ 8 := by
  unfold glCols glRows
  by_cases hc : glC ts k = 0
  · rw [if_pos hc, if_pos hc]
    have h1 : tbsOk ts := Classical.byContradiction fun h => by simp [glC, h] at hc
    have h2 : 1 ≤ k ∧ k ≤ 20000 := Classical.byContradiction fun h => by simp [glC, h1, h] at hc
    have h8 := colsOf_len h1
    have := srL_bd (suppT ts (colsOf ts)) k (colsOf ts).length [] ([], 0, false) 0 (by simp) (by simp only; omega)
    refine ⟨h8, ?_, fun r hr => ?_⟩
    · have := this.1
      unfold glS; omega
    · have := this.2 (by simp) r hr
      simp at this; omega
  · rw [if_neg hc, if_neg hc]
    exact ⟨by simp, by simp, by simp⟩
theorem lend1_tup3' (L : Heap) (a b c : AV) : lend1 L (.tup [a, b, c]) = .tup [lend1 L a, lend1 L b, lend1 L c] := by
  induction L generalizing a b c with
  | nil => rfl
  | cons p L ih => simp only [lend1, fz, fzs]; exact ih _ _ _
abbrev k60_o0 : List AJ := [.o ⟨(some 4), none, false, .mv (.c .nilsl), none⟩, .o ⟨(some 5), none, false, .mv (.c .nilsl), none⟩, .o ⟨(some 6), none, false, .mv (.c (.int .i64 0)), (some [0, 1])⟩]
abbrev k60_o1 : List AJ := [.o ⟨(some 9), none, false, .mv (.t 0), none⟩, .o ⟨(some 10), none, false, .call 111 [(.t 9)], none⟩, .o ⟨(some 11), none, false, .un .not (.t 10), (some [0, 1, 11])⟩]
abbrev k60_o2 : List AJ := [.o ⟨(some 4), none, false, .mv (.c .nilsl), none⟩, .o ⟨(some 5), none, false, .mv (.c .nilsl), none⟩, .o ⟨(some 6), none, false, .mv (.c (.int .i64 1)), (some [4, 5, 6])⟩]
def k60_3 : ACode := .seq (.region k60_o2) .ret
def k60_4 : ACode := .cond (.t 11) k60_3 .skip
def k60_5 : ACode := .seq (.region k60_o1) k60_4
abbrev k60_o3 : List AJ := [.o ⟨(some 12), none, false, .mv (.t 1), none⟩, .o ⟨(some 13), none, false, .call 45 [(.t 12), (.c (.int .i64 1)), (.c (.int .i64 20000))], none⟩, .o ⟨(some 14), none, false, .un .not (.t 13), (some [0, 1, 14])⟩]
abbrev k60_o4 : List AJ := [.o ⟨(some 4), none, false, .mv (.c .nilsl), none⟩, .o ⟨(some 5), none, false, .mv (.c .nilsl), none⟩, .o ⟨(some 6), none, false, .mv (.c (.int .i64 2)), (some [4, 5, 6])⟩]
def k60_8 : ACode := .seq (.region k60_o4) .ret
def k60_9 : ACode := .cond (.t 14) k60_8 .skip
def k60_10 : ACode := .seq (.region k60_o3) k60_9
abbrev k60_o5 : List AJ := [.o ⟨(some 15), none, false, .mv (.t 0), none⟩, .o ⟨(some 16), none, false, .bsl false 1 [], none⟩, .e 17 1 none, .o ⟨(some 18), none, false, .mv (.t 1), none⟩, .o ⟨(some 19), none, false, .build [.nilsl, .nilsl, .nilsl, .nilsl, (.int .i64 0), (.int .i64 0), (.bool false)] [(0, 1, (.t 15)), (1, 1, (.t 16)), (3, 1, (.t 17)), (5, 1, (.t 18))], none⟩, .o ⟨(some 20), none, false, .box true 7 (.t 19), none⟩, .o ⟨(some 7), none, false, .mv (.t 20), (some [0, 7])⟩]
abbrev k60_o6 : List AJ := [.o ⟨(some 8), none, false, .mv (.c (.int .i64 0)), (some [0, 7, 8])⟩]
abbrev k60_o7 : List AJ := [.o ⟨(some 21), none, false, .mv (.t 8), none⟩, .o ⟨(some 22), none, false, .mv (.t 0), none⟩, .o ⟨(some 23), none, false, .len (.t 22), none⟩, .o ⟨(some 24), none, false, .bin .lss (.t 21) (.t 23), (some [0, 7, 8, 24])⟩]
def k60_14 : ACode := .cond (.t 24) .skip (.exit 0)
def k60_15 : ACode := .seq (.region k60_o7) k60_14
abbrev k60_o8 : List AI := [⟨(some 27), none, false, .mv (.t 7), none⟩, ⟨(some 28), none, false, .mv (.t 7), none⟩, ⟨(some 29), none, false, .nilchk (.t 28), none⟩, ⟨(some 30), none, false, .fieldA 1 (.t 29), none⟩, ⟨(some 31), none, false, .load 1 false (.t 30), none⟩, ⟨(some 32), none, false, .mv (.t 0), none⟩, ⟨(some 33), none, false, .mv (.t 8), none⟩, ⟨(some 34), none, false, .idxA 2 (.t 32) (.t 33), none⟩, ⟨(some 35), none, false, .fieldA 0 (.t 34), none⟩, ⟨(some 36), none, false, .load 1 false (.t 35), none⟩, ⟨(some 37), none, false, .call 112 [(.t 31), (.t 36)], none⟩, ⟨(some 38), none, false, .nilchk (.t 27), none⟩, ⟨(some 39), none, false, .fieldA 1 (.t 38), (some [0, 7, 8, 37, 39])⟩]
abbrev k60_o9 : List AJ := [.o ⟨none, none, false, .store 1 (.t 39) (.t 37), (some [0, 7, 8])⟩]
def k60_16 : ACode := .draw k60_o8 k60_o9 rfl
abbrev k60_o10 : List AJ := [.o ⟨(some 25), none, false, .mv (.t 8), none⟩, .o ⟨(some 26), none, true, .bin .add (.t 25) (.c (.int .i64 1)), none⟩, .o ⟨(some 8), none, false, .mv (.t 26), (some [0, 7, 8])⟩]
def k60_18 : ACode := .region k60_o10
def k60_19 : ACode := .seq (.block 1 k60_16) k60_18
def k60_20 : ACode := .seq k60_15 k60_19
def k60_21 : ACode := .loop k60_20
def k60_22 : ACode := .block 0 k60_21
def k60_23 : ACode := .seq (.region k60_o6) k60_22
abbrev k60_o11 : List AJ := [.o ⟨(some 40), none, false, .mv (.t 7), none⟩, .o ⟨(some 41), none, false, .call 113 [(.t 40)], (some [7])⟩]
abbrev k60_o12 : List AJ := [.o ⟨(some 42), none, false, .mv (.t 7), none⟩, .o ⟨(some 43), none, false, .nilchk (.t 42), none⟩, .o ⟨(some 44), none, false, .fieldA 6 (.t 43), none⟩, .o ⟨(some 45), none, false, .load 1 false (.t 44), (some [7, 45])⟩]
abbrev k60_o13 : List AJ := [.o ⟨(some 4), none, false, .mv (.c .nilsl), none⟩, .o ⟨(some 5), none, false, .mv (.c .nilsl), none⟩, .o ⟨(some 6), none, false, .mv (.c (.int .i64 5)), (some [4, 5, 6])⟩]
def k60_27 : ACode := .seq (.region k60_o13) .ret
def k60_28 : ACode := .cond (.t 45) k60_27 .skip
def k60_29 : ACode := .seq (.region k60_o12) k60_28
abbrev k60_o14 : List AI := [⟨(some 46), none, false, .mv (.t 7), none⟩, ⟨(some 47), none, false, .nilchk (.t 46), none⟩, ⟨(some 48), none, false, .fieldA 1 (.t 47), none⟩, ⟨(some 49), none, false, .load 1 false (.t 48), none⟩, ⟨(some 50), none, false, .call 47 [(.t 49)], none⟩, ⟨(some 51), none, false, .mv (.t 7), none⟩, ⟨(some 52), none, false, .nilchk (.t 51), none⟩, ⟨(some 53), none, false, .fieldA 3 (.t 52), none⟩, ⟨(some 54), none, false, .load 1 false (.t 53), none⟩, ⟨(some 4), none, false, .mv (.t 50), none⟩, ⟨(some 5), none, false, .mv (.t 54), none⟩, ⟨(some 6), none, false, .mv (.c (.int .i64 0)), (some [4, 5, 6])⟩]
def k60_31 : ACode := .seq (.draw k60_o14 [] rfl) .ret
def k60_32 : ACode := .seq k60_29 k60_31
def k60_33 : ACode := .seq (.region k60_o11) k60_32
def k60_34 : ACode := .seq k60_23 k60_33
def k60_35 : ACode := .seq (.region k60_o5) k60_34
def k60_36 : ACode := .seq k60_10 k60_35
def k60_37 : ACode := .seq k60_5 k60_36
def k60_38 : ACode := .seq (.region k60_o0) k60_37
@[simp, simp ↓] theorem k60_3r : sR k60_3 k60_o2 .ret := yR rfl
@[simp, simp ↓] theorem k60_4r : rC k60_4 (.t 11) k60_3 .skip := zC rfl
@[simp, simp ↓] theorem k60_5r : sR k60_5 k60_o1 k60_4 := yR rfl
@[simp, simp ↓] theorem k60_8r : sR k60_8 k60_o4 .ret := yR rfl
@[simp, simp ↓] theorem k60_9r : rC k60_9 (.t 14) k60_8 .skip := zC rfl
@[simp, simp ↓] theorem k60_10r : sR k60_10 k60_o3 k60_9 := yR rfl
@[simp, simp ↓] theorem k60_14r : rC k60_14 (.t 24) .skip (.exit 0) := zC rfl
@[simp, simp ↓] theorem k60_15r : sR k60_15 k60_o7 k60_14 := yR rfl
@[simp, simp ↓] theorem k60_16r : rD k60_16 k60_o8 k60_o9 := zD rfl
@[simp, simp ↓] theorem k60_18r : rR k60_18 k60_o10 := zR rfl
@[simp, simp ↓] theorem k60_19r : sB k60_19 1 k60_16 k60_18 := yB rfl
@[simp, simp ↓] theorem k60_20r : rS k60_20 k60_15 k60_19 := zS rfl
@[simp, simp ↓] theorem k60_21r : rL k60_21 k60_20 := zL rfl
@[simp, simp ↓] theorem k60_22r : rB k60_22 0 k60_21 := zB rfl
@[simp, simp ↓] theorem k60_23r : sR k60_23 k60_o6 k60_22 := yR rfl
@[simp, simp ↓] theorem k60_27r : sR k60_27 k60_o13 .ret := yR rfl
@[simp, simp ↓] theorem k60_28r : rC k60_28 (.t 45) k60_27 .skip := zC rfl
@[simp, simp ↓] theorem k60_29r : sR k60_29 k60_o12 k60_28 := yR rfl
@[simp, simp ↓] theorem k60_31r : sD k60_31 k60_o14 [] .ret := yD rfl
@[simp, simp ↓] theorem k60_32r : rS k60_32 k60_29 k60_31 := zS rfl
@[simp, simp ↓] theorem k60_33r : sR k60_33 k60_o11 k60_32 := yR rfl
@[simp, simp ↓] theorem k60_34r : rS k60_34 k60_23 k60_33 := zS rfl
@[simp, simp ↓] theorem k60_35r : sR k60_35 k60_o5 k60_34 := yR rfl
@[simp, simp ↓] theorem k60_36r : rS k60_36 k60_10 k60_35 := zS rfl
@[simp, simp ↓] theorem k60_37r : rS k60_37 k60_5 k60_36 := zS rfl
@[simp, simp ↓] theorem k60_38r : sR k60_38 k60_o0 k60_37 := yR rfl
noncomputable abbrev k60_C : Orc → Cx := mkC Try.prog [17, 20] 60 55 [.tmp 4, .tmp 5, .tmp 6]
theorem k60_of : OfP Try.prog Try.f60 60 55 k60_C k60_38 := @ofP _ _ _ _ _ _ _ _ Try.func60 (by decide +kernel) rfl (by kernel_rfl) rfl (by kernel_rfl)
theorem l20Global_s (ts : List Tb) (k : Int) (h : Heap) (hl : tbsTot ts ≤ 1048576) : ACalls Try.prog 60 [.snap 2 (ts.map Tb.av), .int .i64 k] h (fun v h' => v = .tup [.snap 1 ((glCols ts k).map iv), .snap 1 ((glRows ts k).map il), .int .i64 (glC ts k)] ∧ h' = h) := by
  obtain ⟨R, hR⟩ : ∃ R, R = fun (v : AV) (h' : Heap) => v = .tup [.snap 1 ((glCols ts k).map iv), .snap 1 ((glRows ts k).map il), .int .i64 (glC ts k)] ∧ h' = h := ⟨_, rfl⟩
  rw [← hR]
  refine k60_of rfl orcH5_p fun I => ?_
  by_cases h1 : tbsOk ts
  · by_cases h2 : 1 ≤ k ∧ k ≤ 20000
    · refine Run2.of I 1000 ?_
      simp -implicitDefEqProofs [hl, h1, h2.1, h2.2]
      intro id hid
      have hcn := colsOf_len h1
      have hcrr := colsOf_rise ts
      have hcE : colsOf ts = putAll (ts.flatMap Tb.cols) := (putAll_crit _).symm
      have hub := cols_len (ts := ts)
      refine Run2.loopE (fun (i : Nat) => [(0, .snap 2 (ts.map Tb.av)), (7, .ptr id 7 0 0), (8, .int .i64 i)]) (fun i => (id, spG ts (putAll ((ts.take i).flatMap Tb.cols)) .nilsl .emp 0 k false) :: h) (fun i => ts.length - i) (fun i => i ≤ ts.length) 0 (by simp) (by simp [spG, putAll]) (Nat.zero_le _) fun i hi ih => ?_
      replace hi : i ≤ ts.length := hi
      by_cases hlt : i < ts.length
      · have hst : putAll ((ts.take (i + 1)).flatMap Tb.cols) = ts[i].cols.foldl (fun o x => insI x o) (putAll ((ts.take i).flatMap Tb.cols)) := by
          rw [List.take_succ_eq_append_getElem hlt, List.flatMap_append]
          unfold putAll
          rw [List.foldl_append]
          simp
        have go := ih (i + 1) (by show _ ≤ _; omega) (by omega)
        rw [hst] at go
        have hpl := putAll_len ((ts.take i).flatMap Tb.cols)
        have hlen := tbs_len hl
        have htot : ((ts.take i).flatMap Tb.cols).length + ts[i].cols.length ≤ (ts.flatMap Tb.cols).length := by
          conv => rhs; rw [← List.take_append_drop i ts, List.flatMap_append, List.length_append, List.drop_eq_getElem_cons hlt, List.flatMap_cons, List.length_append]
          omega
        clear ih hst
        generalize putAll ((ts.take i).flatMap Tb.cols) = o at *
        unfold spG at go ⊢
        refine Run2.of I 1000 ?_
        simp -implicitDefEqProofs [hlt, show o.length + ts[i].cols.length ≤ 1048576 by omega]
        exact ⟨by omega, by simpa using go⟩
      · obtain rfl : i = ts.length := by omega
        rw [List.take_length, ← hcE]
        clear ih
        have hcall := runG_w ts (colsOf ts) h1 hl (by omega) hcrr k h2 id h (colsOf ts).length [] [] 0 .nilsl .emp [] [] (by simp) (by omega) (by simp) (by omega) .nil ⟨[], [], [], .emp, .nil, by simp [dom], rfl⟩
        have hc : glC ts k = if (glS ts k).2.2 = true then 5 else 0 := by unfold glC; rw [if_pos h1, if_pos h2]
        have hbd := glRows_bd ts k
        have hS : srL (suppT ts (colsOf ts)) k (colsOf ts).length [] ([], 0, false) = glS ts k := rfl
        rw [hS] at hcall
        have e1 : glC ts k = 0 → glCols ts k = colsOf ts := fun h => by unfold glCols; rw [if_pos h]
        have e2 : glC ts k = 0 → glRows ts k = (glS ts k).1 := fun h => by unfold glRows; rw [if_pos h]
        have e1' : ¬ glC ts k = 0 → glCols ts k = [] := fun h => by unfold glCols; rw [if_neg h]
        have e2' : ¬ glC ts k = 0 → glRows ts k = [] := fun h => by unfold glRows; rw [if_neg h]
        generalize glS ts k = F at *
        obtain ⟨fs, k', f⟩ := F
        unfold spG at hcall ⊢
        simp only [List.nil_append] at hcall
        refine Run2.of I 1000 ?_
        simp -implicitDefEqProofs [hlt]
        refine hcall.monoN ?_
        rintro r h' ⟨u', gu, w', gf, rfl, hg, hf, rfl⟩ nd
        simp only [dom_append, dom_cons, List.nodup_append, List.nodup_cons, List.mem_append, List.mem_cons, not_or] at nd
        have n1 : id ∉ dom gu := fun hm => nd.2.2 id hm id (.inr (.inl rfl)) rfl
        have n2 : id ∉ dom gf := fun hm => nd.2.1.2.2 id hm id (.inl rfl) rfl
        have huc := hg.cell
        have hwc := hf.own.cell
        unfold spG
        simp only at hc hf e1 e2
        cases f with
        | true =>
          simp only [if_true] at hc
          have hne : ¬ glC ts k = 0 := by omega
          refine gK.go ?_
          simp -implicitDefEqProofs [hget_app n1, hget_app n2]
          have hb : R (.tup [.snap 1 [], .snap 1 [], .int .i64 5]) h := by
            rw [hR, hc, e1' hne, e2' hne]
            exact ⟨rfl, rfl⟩
          have := Post.dropAll (R := R) (h := h) (L := gu ++ (gf ++ [(id, ⟨7, [.agg [.snap 2 (ts.map Tb.av), .snap 1 ((colsOf ts).map iv), u', w', .int .i64 k', .int .i64 k, .bool true]]⟩)])) (v := .tup [.nilsl, .nilsl, .int .i64 5]) (by simp [cold, colds]) (.wk (Wk.tup (.cons (Wk.nil 1) (.cons (Wk.nil 1) (.cons (.refl _) .nil)))) (.base hb))
          simpa using this
        | false =>
          simp at hc
          refine gK.go ?_
          simp -implicitDefEqProofs [hget_app n1, hget_app n2, huc, hwc, show (colsOf ts).length ≤ 1048576 by omega]
          obtain ⟨blk, hblk⟩ : ∃ blk : Blk, blk = ⟨7, [.agg [.snap 2 (ts.map Tb.av), .snap 1 ((colsOf ts).map iv), u', w', .int .i64 k', .int .i64 k, .bool false]]⟩ := ⟨_, rfl⟩
          rw [← hblk]
          have hA : gu ++ (gf ++ (id, blk) :: h) = (gu ++ (gf ++ [(id, blk)])) ++ h := by simp
          rw [hA]
          refine Post.lend ?_
          rw [lend1_tup3', lend1_cold _ (x := .snap 1 ((colsOf ts).map iv)) (by simp [cold]), lend1_cold _ (x := .int .i64 0) rfl]
          have hL := hf.own.lentMid (A := gu) (B := [(id, blk)]) (by
            have d0 : ∀ x, x ∈ dom ([(id, blk)] : Heap) ↔ x = id := fun x => by simp [dom]
            have d1 : (dom ([(id, blk)] : Heap)).Nodup := by simp [dom]
            simp only [dom_append, List.nodup_append, List.mem_append, d0]
            exact ⟨nd.1, ⟨nd.2.1.1, d1, fun a ha b hb => nd.2.1.2.2 a ha b (.inl hb)⟩, fun a ha b hb => nd.2.2 a ha b (hb.elim .inl fun h => .inr (.inl h))⟩)
          refine .wk (Wk.tup (.cons (.refl _) (.cons hL.wk (.cons (.refl _) .nil)))) (.base ?_)
          rw [hR, hc, e1 hc, e2 hc]
          exact ⟨rfl, rfl⟩
    · have hc : glC ts k = 2 := by simp [glC, h1, h2]
      have e1 : glCols ts k = [] := by simp [glCols, hc]
      have e2 : glRows ts k = [] := by simp [glRows, hc]
      refine Run2.of I 1000 ?_
      simp -implicitDefEqProofs [hl, h1]
      have hp : Post R (.tup [.nilsl, .nilsl, .int .i64 2]) h := .wk (Wk.tup (.cons (Wk.nil 1) (.cons (Wk.nil 1) (.cons (.refl _) .nil)))) (.base (by
        rw [hR, hc, e1, e2]
        exact ⟨rfl, rfl⟩))
      exact ⟨fun _ => hp, fun h3 h4 => absurd ⟨h3, h4⟩ h2⟩
  · have hc : glC ts k = 1 := by simp [glC, h1]
    have e1 : glCols ts k = [] := by simp [glCols, hc]
    have e2 : glRows ts k = [] := by simp [glRows, hc]
    refine Run2.of I 1000 ?_
    simp -implicitDefEqProofs [hl, h1]
    refine .wk (Wk.tup (.cons (Wk.nil 1) (.cons (Wk.nil 1) (.cons (.refl _) .nil)))) (.base ?_)
    rw [hR, hc, e1, e2]
    exact ⟨rfl, rfl⟩
noncomputable def o_l20Global : List AV → Option (Prop × AV) := tab (fun (x : List Tb × Int) => match x with | (ts, k) => [.snap 2 (ts.map Tb.av), .int .i64 k]) (fun x => match x with | (ts, k) => tbsTot ts ≤ 1048576) (fun x => match x with | (ts, k) => .tup [.snap 1 ((glCols ts k).map iv), .snap 1 ((glRows ts k).map il), .int .i64 (glC ts k)])
@[simp] theorem o_l20Global_e (ts : List Tb) (k : Int) : o_l20Global [.snap 2 (ts.map Tb.av), .int .i64 k] = some (tbsTot ts ≤ 1048576, .tup [.snap 1 ((glCols ts k).map iv), .snap 1 ((glRows ts k).map il), .int .i64 (glC ts k)]) := tab_at (enc := fun (x : List Tb × Int) => match x with | (ts, k) => [.snap 2 (ts.map Tb.av), .int .i64 k]) (fun x y h => by
  obtain ⟨ts1, k1⟩ := x; obtain ⟨ts2, k2⟩ := y; simp at h; simp [h] <;> omega) _ _ (ts, k)
theorem o_l20Global_k : Knows Try.prog 60 o_l20Global := tab_knows fun x hx h => by
  obtain ⟨ts, k⟩ := x; exact l20Global_s ts k h hx
noncomputable def orcH6 : List (Nat × (List AV → Option (Prop × AV))) := (60, o_l20Global) :: []
theorem orcH6_p : Pure Try.prog (lk orcH6) := (lk_pure o_l20Global_k lk_pure0)
@[simp] theorem orcH6_l (b : Bool) (g : FuncId) (l : List AV) : lk orcH6 b g l = if g = 60 then o_l20Global l else none := nr rfl
abbrev k23_o0 : List AJ := [.o ⟨(some 4), none, false, .mv (.c .nilsl), none⟩, .o ⟨(some 5), none, false, .mv (.c .nilsl), none⟩, .o ⟨(some 6), none, false, .mv (.c (.int .i64 0)), (some [0, 1])⟩]
abbrev k23_o1 : List AJ := [.o ⟨(some 7), none, false, .mv (.t 0), none⟩, .o ⟨(some 8), none, false, .mv (.t 1), none⟩, .o ⟨(some 9), none, false, .call 60 [(.t 7), (.t 8)], none⟩, .o ⟨(some 10), none, false, .extract (.t 9) 0, none⟩, .o ⟨(some 11), none, false, .extract (.t 9) 1, none⟩, .o ⟨(some 12), none, false, .extract (.t 9) 2, none⟩, .o ⟨(some 4), none, false, .mv (.t 10), none⟩, .o ⟨(some 5), none, false, .mv (.t 11), none⟩, .o ⟨(some 6), none, false, .mv (.t 12), (some [4, 5, 6])⟩]
def k23_2 : ACode := .seq (.region k23_o1) .ret
def k23_3 : ACode := .seq (.region k23_o0) k23_2
@[simp, simp ↓] theorem k23_2r : sR k23_2 k23_o1 .ret := yR rfl
@[simp, simp ↓] theorem k23_3r : sR k23_3 k23_o0 k23_2 := yR rfl
noncomputable abbrev k23_C : Orc → Cx := mkC Try.prog [] 23 13 [.tmp 4, .tmp 5, .tmp 6]
theorem k23_of0 : OfP0 Try.prog Try.f23 23 13 k23_C k23_3 := @ofP0 _ _ _ _ _ _ _ _ Try.func23 (by decide +kernel) rfl (by kernel_rfl) rfl (by kernel_rfl)
theorem specGl_s (ts : List Tb) (k : Int) (h : Heap) (hl : tbsTot ts ≤ 1048576) : ACalls Try.prog 23 [.snap 2 (ts.map Tb.av), .int .i64 k] h (fun v h' => v = .tup [.snap 1 ((glCols ts k).map iv), .snap 1 ((glRows ts k).map il), .int .i64 (glC ts k)] ∧ h' = h) := by
  refine k23_of0 rfl orcH6_p fun I => ?_
  refine Run2.of I 1000 ?_
  simp -implicitDefEqProofs [hl]
end Go.AG
