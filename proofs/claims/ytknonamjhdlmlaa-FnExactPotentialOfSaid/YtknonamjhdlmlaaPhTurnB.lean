/- Graphs whose differences are turned: what the program's and the reference's functions give. No statement is made here. -/
import Derived.Test.YtknonamjhdlmlaaPhTurnA
namespace Go.AG
open Go.Proofs Go.Proofs.Ytknonamjhdlmlaa
set_option linter.unusedSimpArgs false
set_option linter.unusedVariables false
set_option maxRecDepth 4000
abbrev c_spec_l00Has_o0 : List AJ := [.o ⟨(some 4), none, false, .mv (.c (.bool false)), (some [0, 1])⟩]
def c_spec_l00Has_0 : ACode := .region c_spec_l00Has_o0
abbrev c_spec_l00Has_o1 : List AJ := [.o ⟨(some 5), none, false, .mv (.c (.int .i64 0)), (some [0, 1, 5])⟩]
def c_spec_l00Has_1 : ACode := .region c_spec_l00Has_o1
abbrev c_spec_l00Has_o2 : List AJ := [.o ⟨(some 6), none, false, .mv (.t 5), none⟩, .o ⟨(some 7), none, false, .mv (.t 0), none⟩, .o ⟨(some 8), none, false, .len (.t 7), none⟩, .o ⟨(some 9), none, false, .bin .lss (.t 6) (.t 8), (some [0, 1, 5, 9])⟩]
def c_spec_l00Has_2 : ACode := .region c_spec_l00Has_o2
def c_spec_l00Has_3 : ACode := .cond (.t 9) .skip (.exit 0)
def c_spec_l00Has_4 : ACode := .seq c_spec_l00Has_2 c_spec_l00Has_3
abbrev c_spec_l00Has_o3 : List AJ := [.o ⟨(some 12), none, false, .mv (.t 0), none⟩, .o ⟨(some 13), none, false, .mv (.t 5), none⟩, .o ⟨(some 14), none, false, .idxA 1 (.t 12) (.t 13), none⟩, .o ⟨(some 15), none, false, .load 1 false (.t 14), none⟩, .o ⟨(some 16), none, false, .mv (.t 1), none⟩, .o ⟨(some 17), none, false, .bin .eql (.t 15) (.t 16), (some [0, 1, 5, 17])⟩]
def c_spec_l00Has_5 : ACode := .region c_spec_l00Has_o3
abbrev c_spec_l00Has_o4 : List AJ := [.o ⟨(some 4), none, false, .mv (.c (.bool true)), (some [4])⟩]
def c_spec_l00Has_6 : ACode := .region c_spec_l00Has_o4
def c_spec_l00Has_7 : ACode := .seq c_spec_l00Has_6 .ret
def c_spec_l00Has_8 : ACode := .cond (.t 17) c_spec_l00Has_7 .skip
def c_spec_l00Has_9 : ACode := .seq c_spec_l00Has_5 c_spec_l00Has_8
def c_spec_l00Has_10 : ACode := .block 1 c_spec_l00Has_9
abbrev c_spec_l00Has_o5 : List AJ := [.o ⟨(some 10), none, false, .mv (.t 5), none⟩, .o ⟨(some 11), none, true, .bin .add (.t 10) (.c (.int .i64 1)), none⟩, .o ⟨(some 5), none, false, .mv (.t 11), (some [0, 1, 5])⟩]
def c_spec_l00Has_11 : ACode := .region c_spec_l00Has_o5
def c_spec_l00Has_12 : ACode := .seq c_spec_l00Has_10 c_spec_l00Has_11
def c_spec_l00Has_13 : ACode := .seq c_spec_l00Has_4 c_spec_l00Has_12
def c_spec_l00Has_14 : ACode := .loop c_spec_l00Has_13
def c_spec_l00Has_15 : ACode := .block 0 c_spec_l00Has_14
def c_spec_l00Has_16 : ACode := .seq c_spec_l00Has_1 c_spec_l00Has_15
abbrev c_spec_l00Has_o6 : List AJ := [.o ⟨(some 4), none, false, .mv (.c (.bool false)), (some [4])⟩]
def c_spec_l00Has_17 : ACode := .region c_spec_l00Has_o6
def c_spec_l00Has_18 : ACode := .seq c_spec_l00Has_17 .ret
def c_spec_l00Has_19 : ACode := .seq c_spec_l00Has_16 c_spec_l00Has_18
def c_spec_l00Has_20 : ACode := .seq c_spec_l00Has_0 c_spec_l00Has_19
section
variable (C : Cx) (n : Nat) (sk : List AItem) (e : Env) (h : Heap) (R : AV → Heap → Prop)
@[simp, simp ↓] theorem c_spec_l00Has_0_r : vc2 C (n + 1) [] (.code c_spec_l00Has_0 :: sk) e h R = (vc2 C n c_spec_l00Has_o0 sk e h R) := nr rfl
@[simp, simp ↓] theorem c_spec_l00Has_1_r : vc2 C (n + 1) [] (.code c_spec_l00Has_1 :: sk) e h R = (vc2 C n c_spec_l00Has_o1 sk e h R) := nr rfl
@[simp, simp ↓] theorem c_spec_l00Has_2_r : vc2 C (n + 1) [] (.code c_spec_l00Has_2 :: sk) e h R = (vc2 C n c_spec_l00Has_o2 sk e h R) := nr rfl
@[simp, simp ↓] theorem c_spec_l00Has_3_r : vc2 C (n + 1) [] (.code c_spec_l00Has_3 :: sk) e h R = (condK (ev e (.t 9)) (vc2 C n [] (.code .skip :: sk) e h R) (vc2 C n [] (.code (.exit 0) :: sk) e h R)) := nr rfl
@[simp, simp ↓] theorem c_spec_l00Has_4_r : vc2 C (n + 1) [] (.code c_spec_l00Has_4 :: sk) e h R = (vc2 C n [] (.code c_spec_l00Has_2 :: .code c_spec_l00Has_3 :: sk) e h R) := nr rfl
@[simp, simp ↓] theorem c_spec_l00Has_5_r : vc2 C (n + 1) [] (.code c_spec_l00Has_5 :: sk) e h R = (vc2 C n c_spec_l00Has_o3 sk e h R) := nr rfl
@[simp, simp ↓] theorem c_spec_l00Has_6_r : vc2 C (n + 1) [] (.code c_spec_l00Has_6 :: sk) e h R = (vc2 C n c_spec_l00Has_o4 sk e h R) := nr rfl
@[simp, simp ↓] theorem c_spec_l00Has_7_r : vc2 C (n + 1) [] (.code c_spec_l00Has_7 :: sk) e h R = (vc2 C n [] (.code c_spec_l00Has_6 :: .code .ret :: sk) e h R) := nr rfl
@[simp, simp ↓] theorem c_spec_l00Has_8_r : vc2 C (n + 1) [] (.code c_spec_l00Has_8 :: sk) e h R = (condK (ev e (.t 17)) (vc2 C n [] (.code c_spec_l00Has_7 :: sk) e h R) (vc2 C n [] (.code .skip :: sk) e h R)) := nr rfl
@[simp, simp ↓] theorem c_spec_l00Has_9_r : vc2 C (n + 1) [] (.code c_spec_l00Has_9 :: sk) e h R = (vc2 C n [] (.code c_spec_l00Has_5 :: .code c_spec_l00Has_8 :: sk) e h R) := nr rfl
@[simp, simp ↓] theorem c_spec_l00Has_10_r : vc2 C (n + 1) [] (.code c_spec_l00Has_10 :: sk) e h R = (vc2 C n [] (.code c_spec_l00Has_9 :: .inBlock 1 :: sk) e h R) := nr rfl
@[simp, simp ↓] theorem c_spec_l00Has_11_r : vc2 C (n + 1) [] (.code c_spec_l00Has_11 :: sk) e h R = (vc2 C n c_spec_l00Has_o5 sk e h R) := nr rfl
@[simp, simp ↓] theorem c_spec_l00Has_12_r : vc2 C (n + 1) [] (.code c_spec_l00Has_12 :: sk) e h R = (vc2 C n [] (.code c_spec_l00Has_10 :: .code c_spec_l00Has_11 :: sk) e h R) := nr rfl
@[simp, simp ↓] theorem c_spec_l00Has_13_r : vc2 C (n + 1) [] (.code c_spec_l00Has_13 :: sk) e h R = (vc2 C n [] (.code c_spec_l00Has_4 :: .code c_spec_l00Has_12 :: sk) e h R) := nr rfl
@[simp, simp ↓] theorem c_spec_l00Has_14_r : vc2 C (n + 1) [] (.code c_spec_l00Has_14 :: sk) e h R = (Run2 C (.code c_spec_l00Has_13 :: .inLoop c_spec_l00Has_13 :: sk) e h R) := nr rfl
@[simp, simp ↓] theorem c_spec_l00Has_15_r : vc2 C (n + 1) [] (.code c_spec_l00Has_15 :: sk) e h R = (vc2 C n [] (.code c_spec_l00Has_14 :: .inBlock 0 :: sk) e h R) := nr rfl
@[simp, simp ↓] theorem c_spec_l00Has_16_r : vc2 C (n + 1) [] (.code c_spec_l00Has_16 :: sk) e h R = (vc2 C n [] (.code c_spec_l00Has_1 :: .code c_spec_l00Has_15 :: sk) e h R) := nr rfl
@[simp, simp ↓] theorem c_spec_l00Has_17_r : vc2 C (n + 1) [] (.code c_spec_l00Has_17 :: sk) e h R = (vc2 C n c_spec_l00Has_o6 sk e h R) := nr rfl
@[simp, simp ↓] theorem c_spec_l00Has_18_r : vc2 C (n + 1) [] (.code c_spec_l00Has_18 :: sk) e h R = (vc2 C n [] (.code c_spec_l00Has_17 :: .code .ret :: sk) e h R) := nr rfl
@[simp, simp ↓] theorem c_spec_l00Has_19_r : vc2 C (n + 1) [] (.code c_spec_l00Has_19 :: sk) e h R = (vc2 C n [] (.code c_spec_l00Has_16 :: .code c_spec_l00Has_18 :: sk) e h R) := nr rfl
@[simp, simp ↓] theorem c_spec_l00Has_20_r : vc2 C (n + 1) [] (.code c_spec_l00Has_20 :: sk) e h R = (vc2 C n [] (.code c_spec_l00Has_0 :: .code c_spec_l00Has_19 :: sk) e h R) := nr rfl
end
noncomputable def c_spec_l00Has_C (orc : Orc) : Cx := ⟨Try.prog, [], 95, 18, [.tmp 4], orc⟩
@[simp] theorem c_spec_l00Has_C_P (orc : Orc) : (c_spec_l00Has_C orc).P = Try.prog := nr rfl
@[simp] theorem c_spec_l00Has_C_o (orc : Orc) : (c_spec_l00Has_C orc).orc = orc := nr rfl
@[simp] theorem c_spec_l00Has_C_r (orc : Orc) : (c_spec_l00Has_C orc).res = [.tmp 4] := nr rfl
theorem c_spec_l00Has_of {args : List AV} {h : Heap} {R : AV → Heap → Prop} {k : Nat} (ha : args.length = k) {orc : Orc} (hp : Pure Try.prog orc) (hk : Is (c_spec_l00Has_C orc) Try.f95 → Run2 (c_spec_l00Has_C orc) [.code c_spec_l00Has_20] (argEnv 0 args) h (Post R)) (hle : k ≤ 18 := by simp) : ACalls Try.prog 95 args h R :=
  contract2 [] c_spec_l00Has_20 [.tmp 4] Try.func95 (by decide +kernel) rfl (by kernel_rfl) (by rw [ha]; exact hle) (by kernel_rfl) hp hk
theorem c_spec_l00Has_of0 {args : List AV} {h : Heap} {R : AV → Heap → Prop} {k : Nat} (ha : args.length = k) {orc : Orc} (hp : Pure Try.prog orc) (hk : Is (c_spec_l00Has_C orc) Try.f95 → Run2 (c_spec_l00Has_C orc) [.code c_spec_l00Has_20] (argEnv 0 args) h R) (hle : k ≤ 18 := by simp) : ACalls Try.prog 95 args h R :=
  contract20 [] c_spec_l00Has_20 [.tmp 4] Try.func95 (by decide +kernel) rfl (by kernel_rfl) (by rw [ha]; exact hle) (by kernel_rfl) hp hk
theorem l00Has_s (l : List Int) (n : Int) (h : Heap) (hl : l.length ≤ 1048576) : ACalls Try.prog 95 [.snap 1 (l.map iv), .int .i64 n] h (fun v h' => v = .bool (decide (n ∈ l)) ∧ h' = h) := by
  refine c_spec_l00Has_of0 rfl noPure fun I => ?_
  refine Run2.of I 1000 ?_
  simp -implicitDefEqProofs
  refine Run2.loopE (fun i => [(0, .snap 1 (l.map iv)), (1, .int .i64 n), (5, .int .i64 (i : Nat))]) (fun i => h) (fun i => l.length - i) (fun i => i ≤ l.length ∧ n ∉ l.take i) 0 (by simp) rfl (by simp) fun i hi ih => ?_
  by_cases hlt : i < l.length
  · have hin : l[i] = n → n ∈ l := fun h => h ▸ List.getElem_mem hlt
    have go := fun (h1 : ¬ l[i] = n) => ih (i + 1) ⟨by omega, by rw [List.take_succ_eq_append_getElem hlt, List.mem_append, List.mem_singleton]; rintro (h | h); exact hi.2 h; exact h1 h.symm⟩ (by omega)
    clear ih
    refine Run2.of I 1000 ?_
    simp -implicitDefEqProofs [hlt]
    exact ⟨fun h => hin h, fun h => ⟨by omega, by simpa using go h⟩⟩
  · obtain rfl : i = l.length := by omega
    have h2 := hi.2
    rw [List.take_length] at h2
    refine Run2.of I 1000 ?_
    simp -implicitDefEqProofs
    exact h2
theorem l00Has_c (u : AV) (n : Int) (h : Heap) (hu : isInts u) (hl : (intsOf u).length ≤ 1048576) : ACalls Try.prog 95 [u, .int .i64 n] h (fun v h' => v = .bool (decide (n ∈ intsOf u)) ∧ h' = h) :=
  (l00Has_s _ n h hl).wk (.cons (.ints hu) (.refl _))
noncomputable def o_l00Has : List AV → Option (Prop × AV) := tab (fun (x : AV × Int) => match x with | (u, n) => [u, .int .i64 n]) (fun x => match x with | (u, n) => (isInts u ∧ (intsOf u).length ≤ 1048576)) (fun x => match x with | (u, n) => .bool (decide (n ∈ intsOf u)))
@[simp] theorem o_l00Has_e (u : AV) (n : Int) : o_l00Has [u, .int .i64 n] = some ((isInts u ∧ (intsOf u).length ≤ 1048576), .bool (decide (n ∈ intsOf u))) := tab_at (enc := fun (x : AV × Int) => match x with | (u, n) => [u, .int .i64 n]) (fun x y h => by
  obtain ⟨u1, n1⟩ := x; obtain ⟨u2, n2⟩ := y; simp at h; simp [h]) _ _ (u, n)
theorem o_l00Has_k : Knows Try.prog 95 o_l00Has := tab_knows fun x hx h => by
  obtain ⟨u, n⟩ := x; exact l00Has_c u n h hx.1 hx.2
noncomputable def orcT2 : List (Nat × (List AV → Option (Prop × AV))) := (95, o_l00Has) :: orcC3
theorem orcT2_p : Pure Try.prog (lk orcT2) := (lk_pure o_l00Has_k orcC3_p)
@[simp] theorem orcT2_l (g : FuncId) (l : List AV) : lk orcT2 g l = if g = 95 then o_l00Has l else lk orcC3 g l := nr rfl
/-- The edges whose numbers are not among these. -/
def lessTo (ts : List T) (w : List Int) (i : Nat) : List T := ((List.range i).filter fun (k : Nat) => !decide ((k : Int) ∈ w)).map fun k => ts.getD k default
theorem lessTo_succ (ts : List T) (w : List Int) {i : Nat} (hi : i < ts.length) : lessTo ts w (i + 1) = lessTo ts w i ++ if (i : Int) ∈ w then [] else [ts[i]] := by
  unfold lessTo
  rw [List.range_succ, List.filter_append, List.map_append]
  congr 1
  simp only [List.filter_cons, List.filter_nil]
  split <;> simp_all
theorem lessTo_len (ts : List T) (w : List Int) (i : Nat) : (lessTo ts w i).length ≤ i := by
  unfold lessTo
  rw [List.length_map]
  exact Nat.le_trans (List.length_filter_le _ _) (by simp)
def Ph.less (x : Ph) (w : List Int) : Ph := ⟨x.n, x.m, lessTo x.ts w x.ts.length⟩
theorem lessTo_all (ts : List T) : ∀ i, i ≤ ts.length → lessTo ts [] i = ts.take i
  | 0, _ => rfl
  | i + 1, h => by rw [lessTo_succ ts [] (by omega), lessTo_all ts i (by omega), List.take_succ_eq_append_getElem (by omega)]; simp
theorem Ph.less_nil (x : Ph) : x.less [] = x := by
  unfold Ph.less
  rw [lessTo_all _ _ (Nat.le_refl _), List.take_length]
abbrev c_spec_l23Less_o0 : List AJ := [.o ⟨(some 4), none, false, .alloc true 3 (.agg [(.int .i64 0), (.int .i64 0), .nilsl]), (some [0, 1, 4])⟩]
def c_spec_l23Less_0 : ACode := .region c_spec_l23Less_o0
abbrev c_spec_l23Less_o1 : List AJ := [.o ⟨(some 7), none, false, .mv (.t 0), none⟩, .o ⟨(some 8), none, false, .nilchk (.t 7), none⟩, .o ⟨(some 9), none, false, .fieldA 0 (.t 8), none⟩, .o ⟨(some 10), none, false, .load 1 false (.t 9), none⟩, .o ⟨(some 11), none, false, .mv (.t 0), none⟩, .o ⟨(some 12), none, false, .nilchk (.t 11), none⟩, .o ⟨(some 13), none, false, .fieldA 1 (.t 12), none⟩, .o ⟨(some 14), none, false, .load 1 false (.t 13), none⟩, .o ⟨(some 15), none, false, .build [(.int .i64 0), (.int .i64 0), .nilsl] [(0, 1, (.t 10)), (1, 1, (.t 14))], none⟩, .o ⟨(some 5), none, false, .alloc true 3 (.agg [(.int .i64 0), (.int .i64 0), .nilsl]), none⟩, .o ⟨none, none, false, .store 3 (.t 5) (.t 15), (some [0, 1, 4, 5])⟩]
def c_spec_l23Less_1 : ACode := .drawT false c_spec_l23Less_o1 rfl
abbrev c_spec_l23Less_o2 : List AJ := [.o ⟨(some 6), none, false, .mv (.c (.int .i64 0)), (some [0, 1, 4, 5, 6])⟩]
def c_spec_l23Less_2 : ACode := .region c_spec_l23Less_o2
abbrev c_spec_l23Less_o3 : List AJ := [.o ⟨(some 16), none, false, .mv (.t 6), none⟩, .o ⟨(some 17), none, false, .mv (.t 0), none⟩, .o ⟨(some 18), none, false, .nilchk (.t 17), none⟩, .o ⟨(some 19), none, false, .fieldA 2 (.t 18), none⟩, .o ⟨(some 20), none, false, .load 1 false (.t 19), none⟩, .o ⟨(some 21), none, false, .len (.t 20), none⟩, .o ⟨(some 22), none, false, .bin .lss (.t 16) (.t 21), (some [0, 1, 4, 5, 6, 22])⟩]
def c_spec_l23Less_3 : ACode := .region c_spec_l23Less_o3
def c_spec_l23Less_4 : ACode := .cond (.t 22) .skip (.exit 0)
def c_spec_l23Less_5 : ACode := .seq c_spec_l23Less_3 c_spec_l23Less_4
abbrev c_spec_l23Less_o4 : List AJ := [.o ⟨(some 25), none, false, .mv (.t 1), none⟩, .o ⟨(some 26), none, false, .mv (.t 6), none⟩, .o ⟨(some 27), none, false, .call 95 [(.t 25), (.t 26)], none⟩, .o ⟨(some 28), none, false, .un .not (.t 27), (some [0, 1, 4, 5, 6, 28])⟩]
def c_spec_l23Less_6 : ACode := .region c_spec_l23Less_o4
abbrev c_spec_l23Less_o5 : List AI := [⟨(some 29), none, false, .fieldA 2 (.t 5), none⟩, ⟨(some 30), none, false, .load 1 false (.t 29), none⟩, ⟨(some 31), none, false, .mv (.t 0), none⟩, ⟨(some 32), none, false, .nilchk (.t 31), none⟩, ⟨(some 33), none, false, .fieldA 2 (.t 32), none⟩, ⟨(some 34), none, false, .load 1 false (.t 33), none⟩, ⟨(some 35), none, false, .mv (.t 6), none⟩, ⟨(some 36), none, false, .idxA 3 (.t 34) (.t 35), none⟩, ⟨(some 37), none, false, .load 3 true (.t 36), none⟩, ⟨(some 38), none, false, .bsl false 3 [(.t 37)], (some [0, 1, 4, 5, 6, 30, 38])⟩]
abbrev c_spec_l23Less_o6 : List AJ := [.o ⟨(some 39), none, false, .append 3 24 (.t 30) (.t 38), none⟩, .o ⟨(some 40), none, false, .fieldA 2 (.t 5), none⟩, .o ⟨none, none, false, .store 1 (.t 40) (.t 39), (some [0, 1, 4, 5, 6])⟩]
def c_spec_l23Less_7 : ACode := .draw c_spec_l23Less_o5 c_spec_l23Less_o6 rfl
def c_spec_l23Less_8 : ACode := .cond (.t 28) c_spec_l23Less_7 .skip
def c_spec_l23Less_9 : ACode := .seq c_spec_l23Less_6 c_spec_l23Less_8
def c_spec_l23Less_10 : ACode := .block 1 c_spec_l23Less_9
abbrev c_spec_l23Less_o7 : List AJ := [.o ⟨(some 23), none, false, .mv (.t 6), none⟩, .o ⟨(some 24), none, true, .bin .add (.t 23) (.c (.int .i64 1)), none⟩, .o ⟨(some 6), none, false, .mv (.t 24), (some [0, 1, 4, 5, 6])⟩]
def c_spec_l23Less_11 : ACode := .region c_spec_l23Less_o7
def c_spec_l23Less_12 : ACode := .seq c_spec_l23Less_10 c_spec_l23Less_11
def c_spec_l23Less_13 : ACode := .seq c_spec_l23Less_5 c_spec_l23Less_12
def c_spec_l23Less_14 : ACode := .loop c_spec_l23Less_13
def c_spec_l23Less_15 : ACode := .block 0 c_spec_l23Less_14
def c_spec_l23Less_16 : ACode := .seq c_spec_l23Less_2 c_spec_l23Less_15
abbrev c_spec_l23Less_o8 : List AJ := [.o ⟨(some 41), none, false, .load 3 true (.t 5), none⟩, .o ⟨none, none, false, .store 3 (.t 4) (.t 41), (some [4])⟩]
def c_spec_l23Less_17 : ACode := .region c_spec_l23Less_o8
def c_spec_l23Less_18 : ACode := .seq c_spec_l23Less_17 .ret
def c_spec_l23Less_19 : ACode := .seq c_spec_l23Less_16 c_spec_l23Less_18
def c_spec_l23Less_20 : ACode := .seq c_spec_l23Less_1 c_spec_l23Less_19
def c_spec_l23Less_21 : ACode := .seq c_spec_l23Less_0 c_spec_l23Less_20
section
variable (C : Cx) (n : Nat) (sk : List AItem) (e : Env) (h : Heap) (R : AV → Heap → Prop)
@[simp, simp ↓] theorem c_spec_l23Less_0_r : vc2 C (n + 1) [] (.code c_spec_l23Less_0 :: sk) e h R = (vc2 C n c_spec_l23Less_o0 sk e h R) := nr rfl
@[simp, simp ↓] theorem c_spec_l23Less_1_r : vc2 C (n + 1) [] (.code c_spec_l23Less_1 :: sk) e h R = (200 ≤ n ∧ vc2 C n c_spec_l23Less_o1 sk e h R) := nr rfl
@[simp, simp ↓] theorem c_spec_l23Less_2_r : vc2 C (n + 1) [] (.code c_spec_l23Less_2 :: sk) e h R = (vc2 C n c_spec_l23Less_o2 sk e h R) := nr rfl
@[simp, simp ↓] theorem c_spec_l23Less_3_r : vc2 C (n + 1) [] (.code c_spec_l23Less_3 :: sk) e h R = (vc2 C n c_spec_l23Less_o3 sk e h R) := nr rfl
@[simp, simp ↓] theorem c_spec_l23Less_4_r : vc2 C (n + 1) [] (.code c_spec_l23Less_4 :: sk) e h R = (condK (ev e (.t 22)) (vc2 C n [] (.code .skip :: sk) e h R) (vc2 C n [] (.code (.exit 0) :: sk) e h R)) := nr rfl
@[simp, simp ↓] theorem c_spec_l23Less_5_r : vc2 C (n + 1) [] (.code c_spec_l23Less_5 :: sk) e h R = (vc2 C n [] (.code c_spec_l23Less_3 :: .code c_spec_l23Less_4 :: sk) e h R) := nr rfl
@[simp, simp ↓] theorem c_spec_l23Less_6_r : vc2 C (n + 1) [] (.code c_spec_l23Less_6 :: sk) e h R = (vc2 C n c_spec_l23Less_o4 sk e h R) := nr rfl
@[simp, simp ↓] theorem c_spec_l23Less_7_r : vc2 C (n + 1) [] (.code c_spec_l23Less_7 :: sk) e h R = (draw2 C h (vK C n c_spec_l23Less_o6 sk R h) c_spec_l23Less_o5 e) := nr rfl
@[simp, simp ↓] theorem c_spec_l23Less_8_r : vc2 C (n + 1) [] (.code c_spec_l23Less_8 :: sk) e h R = (condK (ev e (.t 28)) (vc2 C n [] (.code c_spec_l23Less_7 :: sk) e h R) (vc2 C n [] (.code .skip :: sk) e h R)) := nr rfl
@[simp, simp ↓] theorem c_spec_l23Less_9_r : vc2 C (n + 1) [] (.code c_spec_l23Less_9 :: sk) e h R = (vc2 C n [] (.code c_spec_l23Less_6 :: .code c_spec_l23Less_8 :: sk) e h R) := nr rfl
@[simp, simp ↓] theorem c_spec_l23Less_10_r : vc2 C (n + 1) [] (.code c_spec_l23Less_10 :: sk) e h R = (vc2 C n [] (.code c_spec_l23Less_9 :: .inBlock 1 :: sk) e h R) := nr rfl
@[simp, simp ↓] theorem c_spec_l23Less_11_r : vc2 C (n + 1) [] (.code c_spec_l23Less_11 :: sk) e h R = (vc2 C n c_spec_l23Less_o7 sk e h R) := nr rfl
@[simp, simp ↓] theorem c_spec_l23Less_12_r : vc2 C (n + 1) [] (.code c_spec_l23Less_12 :: sk) e h R = (vc2 C n [] (.code c_spec_l23Less_10 :: .code c_spec_l23Less_11 :: sk) e h R) := nr rfl
@[simp, simp ↓] theorem c_spec_l23Less_13_r : vc2 C (n + 1) [] (.code c_spec_l23Less_13 :: sk) e h R = (vc2 C n [] (.code c_spec_l23Less_5 :: .code c_spec_l23Less_12 :: sk) e h R) := nr rfl
@[simp, simp ↓] theorem c_spec_l23Less_14_r : vc2 C (n + 1) [] (.code c_spec_l23Less_14 :: sk) e h R = (Run2 C (.code c_spec_l23Less_13 :: .inLoop c_spec_l23Less_13 :: sk) e h R) := nr rfl
@[simp, simp ↓] theorem c_spec_l23Less_15_r : vc2 C (n + 1) [] (.code c_spec_l23Less_15 :: sk) e h R = (vc2 C n [] (.code c_spec_l23Less_14 :: .inBlock 0 :: sk) e h R) := nr rfl
@[simp, simp ↓] theorem c_spec_l23Less_16_r : vc2 C (n + 1) [] (.code c_spec_l23Less_16 :: sk) e h R = (vc2 C n [] (.code c_spec_l23Less_2 :: .code c_spec_l23Less_15 :: sk) e h R) := nr rfl
@[simp, simp ↓] theorem c_spec_l23Less_17_r : vc2 C (n + 1) [] (.code c_spec_l23Less_17 :: sk) e h R = (vc2 C n c_spec_l23Less_o8 sk e h R) := nr rfl
@[simp, simp ↓] theorem c_spec_l23Less_18_r : vc2 C (n + 1) [] (.code c_spec_l23Less_18 :: sk) e h R = (vc2 C n [] (.code c_spec_l23Less_17 :: .code .ret :: sk) e h R) := nr rfl
@[simp, simp ↓] theorem c_spec_l23Less_19_r : vc2 C (n + 1) [] (.code c_spec_l23Less_19 :: sk) e h R = (vc2 C n [] (.code c_spec_l23Less_16 :: .code c_spec_l23Less_18 :: sk) e h R) := nr rfl
@[simp, simp ↓] theorem c_spec_l23Less_20_r : vc2 C (n + 1) [] (.code c_spec_l23Less_20 :: sk) e h R = (vc2 C n [] (.code c_spec_l23Less_1 :: .code c_spec_l23Less_19 :: sk) e h R) := nr rfl
@[simp, simp ↓] theorem c_spec_l23Less_21_r : vc2 C (n + 1) [] (.code c_spec_l23Less_21 :: sk) e h R = (vc2 C n [] (.code c_spec_l23Less_0 :: .code c_spec_l23Less_20 :: sk) e h R) := nr rfl
end
noncomputable def c_spec_l23Less_C (orc : Orc) : Cx := ⟨Try.prog, [4, 5], 63, 42, [.cell 4 3 true], orc⟩
@[simp] theorem c_spec_l23Less_C_P (orc : Orc) : (c_spec_l23Less_C orc).P = Try.prog := nr rfl
@[simp] theorem c_spec_l23Less_C_o (orc : Orc) : (c_spec_l23Less_C orc).orc = orc := nr rfl
@[simp] theorem c_spec_l23Less_C_r (orc : Orc) : (c_spec_l23Less_C orc).res = [.cell 4 3 true] := nr rfl
theorem c_spec_l23Less_of {args : List AV} {h : Heap} {R : AV → Heap → Prop} {k : Nat} (ha : args.length = k) {orc : Orc} (hp : Pure Try.prog orc) (hk : Is (c_spec_l23Less_C orc) Try.f63 → Run2 (c_spec_l23Less_C orc) [.code c_spec_l23Less_21] (argEnv 0 args) h (Post R)) (hle : k ≤ 42 := by simp) : ACalls Try.prog 63 args h R :=
  contract2 [4, 5] c_spec_l23Less_21 [.cell 4 3 true] Try.func63 (by decide +kernel) rfl (by kernel_rfl) (by rw [ha]; exact hle) (by kernel_rfl) hp hk
theorem c_spec_l23Less_of0 {args : List AV} {h : Heap} {R : AV → Heap → Prop} {k : Nat} (ha : args.length = k) {orc : Orc} (hp : Pure Try.prog orc) (hk : Is (c_spec_l23Less_C orc) Try.f63 → Run2 (c_spec_l23Less_C orc) [.code c_spec_l23Less_21] (argEnv 0 args) h R) (hle : k ≤ 42 := by simp) : ACalls Try.prog 63 args h R :=
  contract20 [4, 5] c_spec_l23Less_21 [.cell 4 3 true] Try.func63 (by decide +kernel) rfl (by kernel_rfl) (by rw [ha]; exact hle) (by kernel_rfl) hp hk
theorem l23Less_w (x : Ph) (w : AV) (h : Heap) (hl : x.ts.length ≤ 1048576) (hw : isInts w) (hwl : (intsOf w).length ≤ 1048576) : ACalls Try.prog 63 [.ip [.int .i64 x.n, .int .i64 x.m, .snap 3 (x.ts.map T.av)], w] h (fun v h' => ∃ u hp, v = .agg [.int .i64 x.n, .int .i64 x.m, u] ∧ Grow 3 u ((x.less (intsOf w)).ts.map T.av) hp ∧ h' = hp ++ h) := by
  refine c_spec_l23Less_of rfl orcT2_p fun I => ?_
  refine Run2.of I 1000 ?_
  simp -implicitDefEqProofs
  intro a ha b hba hb
  refine gK.go ?_
  simp -implicitDefEqProofs [hba]
  refine Run2.loopE (α := Nat × AV × Heap) (fun s => [(0, .ip [.int .i64 x.n, .int .i64 x.m, .snap 3 (x.ts.map T.av)]), (1, w), (4, .ptr a 3 0 0), (5, .ptr b 3 0 0), (6, .int .i64 (s.1 : Nat))])
    (fun s => s.2.2 ++ ((b, ⟨3, [.agg [.int .i64 x.n, .int .i64 x.m, s.2.1]]⟩) :: (a, ⟨3, [.agg [.int .i64 0, .int .i64 0, .nilsl]]⟩) :: h)) (fun s => x.ts.length - s.1) (fun s => s.1 ≤ x.ts.length ∧ Grow 3 s.2.1 ((lessTo x.ts (intsOf w) s.1).map T.av) s.2.2 ∧ b ∉ dom s.2.2 ∧ a ∉ dom s.2.2) (0, .nilsl, []) (by simp) rfl ⟨Nat.zero_le _, by simpa [lessTo] using Grow.nil, by simp [dom], by simp [dom]⟩ ?_
  rintro ⟨i, u, hp'⟩ ⟨hi, hg, hpb, hpa⟩ ih
  simp only at hi hg hpb hpa ih ⊢
  have hcw := hg.cell
  by_cases hlt : i < x.ts.length
  · have hs := lessTo_succ x.ts (intsOf w) hlt
    have hsl := lessTo_len x.ts (intsOf w) i
    have go := fun w' hp'' hg' hb' ha' => ih (i + 1, w', hp'') ⟨by simp; omega, hg', hb', ha'⟩ (by simp; omega)
    clear ih
    refine Run2.of I 1000 ?_
    simp -implicitDefEqProofs [hlt, hw, hwl, hget_app hpb, hget_app hpa]
    refine ⟨fun h1 => ?_, fun h1 => ⟨by omega, ?_⟩⟩
    · rw [if_neg h1] at hs
      refine Grow.app_mid (pre := []) hg (fun j hj => by simp [dom]) (by simp; omega) (by simp) fun w' hp2 hg' hf => ?_
      have hfb : b ∉ dom hp2 := fun h => hf b h (by simp [dom])
      have hfa : a ∉ dom hp2 := fun h => hf a h (by simp [dom])
      simp -implicitDefEqProofs [hcw, hg'.cell, cells_of hg'.cell, stor_of hg'.cell, hget_app hfb, hset_app hfb]
      refine ⟨by omega, ?_⟩
      have := go w' hp2 (by simp only; rw [hs]; simpa using hg') hfb hfa
      simpa using this
    · rw [if_pos h1] at hs
      have := go u hp' (by simp only; rw [hs]; simpa using hg) hpb hpa
      simpa using this
  · obtain rfl : i = x.ts.length := by omega
    refine Run2.of I 1000 ?_
    simp -implicitDefEqProofs [hget_app hpb, hget_app hpa, hset_app hpa, hba, Ne.symm hba, hcw]
    refine .drop a (.drop b (.base ?_))
    rw [hdel_app hpa, hdel_app hpb]
    simp [hdel, hba]
    exact hg
abbrev c_spec_TurnPhases_o0 : List AJ := [.o ⟨(some 2), none, false, .box false 3 (.t 0), none⟩, .o ⟨(some 4), none, false, .alloc true 3 (.agg [(.int .i64 0), (.int .i64 0), .nilsl]), none⟩, .o ⟨(some 5), none, false, .mv (.c (.int .i64 0)), (some [1, 2, 4])⟩]
def c_spec_TurnPhases_0 : ACode := .region c_spec_TurnPhases_o0
abbrev c_spec_TurnPhases_o1 : List AJ := [.o ⟨(some 9), none, false, .call 49 [(.t 2)], none⟩, .o ⟨(some 10), none, false, .un .not (.t 9), (some [1, 2, 4, 10])⟩]
def c_spec_TurnPhases_1 : ACode := .region c_spec_TurnPhases_o1
abbrev c_spec_TurnPhases_o2 : List AJ := [.o ⟨(some 11), none, false, .build [(.int .i64 0), (.int .i64 0), .nilsl] [], none⟩, .o ⟨none, none, false, .store 3 (.t 4) (.t 11), none⟩, .o ⟨(some 5), none, false, .mv (.c (.int .i64 1)), (some [4, 5])⟩]
def c_spec_TurnPhases_2 : ACode := .region c_spec_TurnPhases_o2
def c_spec_TurnPhases_3 : ACode := .seq c_spec_TurnPhases_2 .ret
def c_spec_TurnPhases_4 : ACode := .cond (.t 10) c_spec_TurnPhases_3 .skip
def c_spec_TurnPhases_5 : ACode := .seq c_spec_TurnPhases_1 c_spec_TurnPhases_4
abbrev c_spec_TurnPhases_o3 : List AJ := [.o ⟨(some 12), none, false, .mv (.t 1), none⟩, .o ⟨(some 13), none, false, .call 58 [(.t 2), (.t 12)], none⟩, .o ⟨(some 14), none, false, .un .not (.t 13), (some [1, 2, 4, 14])⟩]
def c_spec_TurnPhases_6 : ACode := .region c_spec_TurnPhases_o3
abbrev c_spec_TurnPhases_o4 : List AJ := [.o ⟨(some 15), none, false, .build [(.int .i64 0), (.int .i64 0), .nilsl] [], none⟩, .o ⟨none, none, false, .store 3 (.t 4) (.t 15), none⟩, .o ⟨(some 5), none, false, .mv (.c (.int .i64 7)), (some [4, 5])⟩]
def c_spec_TurnPhases_7 : ACode := .region c_spec_TurnPhases_o4
def c_spec_TurnPhases_8 : ACode := .seq c_spec_TurnPhases_7 .ret
def c_spec_TurnPhases_9 : ACode := .cond (.t 14) c_spec_TurnPhases_8 .skip
def c_spec_TurnPhases_10 : ACode := .seq c_spec_TurnPhases_6 c_spec_TurnPhases_9
abbrev c_spec_TurnPhases_o5 : List AJ := [.o ⟨(some 16), none, false, .bsl false 1 [], none⟩, .o ⟨(some 17), none, false, .call 63 [(.t 2), (.t 16)], none⟩, .v 6 3 (.agg [(.int .i64 0), (.int .i64 0), .nilsl]) [] (.t 17) (some [1, 2, 4, 6])]
def c_spec_TurnPhases_11 : ACode := .region c_spec_TurnPhases_o5
abbrev c_spec_TurnPhases_o6 : List AJ := [.o ⟨(some 7), none, false, .mv (.c (.int .i64 0)), (some [1, 2, 4, 6, 7])⟩]
def c_spec_TurnPhases_12 : ACode := .region c_spec_TurnPhases_o6
abbrev c_spec_TurnPhases_o7 : List AJ := [.o ⟨(some 18), none, false, .mv (.t 7), none⟩, .o ⟨(some 19), none, false, .fieldA 2 (.t 6), none⟩, .o ⟨(some 20), none, false, .load 1 false (.t 19), none⟩, .o ⟨(some 21), none, false, .len (.t 20), none⟩, .o ⟨(some 22), none, false, .bin .lss (.t 18) (.t 21), (some [1, 2, 4, 6, 7, 22])⟩]
def c_spec_TurnPhases_13 : ACode := .region c_spec_TurnPhases_o7
def c_spec_TurnPhases_14 : ACode := .cond (.t 22) .skip (.exit 0)
def c_spec_TurnPhases_15 : ACode := .seq c_spec_TurnPhases_13 c_spec_TurnPhases_14
abbrev c_spec_TurnPhases_o8 : List AJ := [.o ⟨(some 25), none, false, .fieldA 2 (.t 6), none⟩, .o ⟨(some 26), none, false, .load 1 false (.t 25), none⟩, .o ⟨(some 27), none, false, .mv (.t 7), none⟩, .o ⟨(some 28), none, false, .idxA 3 (.t 26) (.t 27), none⟩, .o ⟨(some 29), none, false, .load 3 true (.t 28), none⟩, .v 8 3 (.agg [(.int .i64 0), (.int .i64 0), (.int .i64 0)]) [] (.t 29) (some [1, 2, 4, 6, 7, 8])]
def c_spec_TurnPhases_16 : ACode := .region c_spec_TurnPhases_o8
abbrev c_spec_TurnPhases_o9 : List AI := [⟨(some 30), none, false, .fieldA 2 (.t 6), none⟩, ⟨(some 31), none, false, .load 1 false (.t 30), none⟩, ⟨(some 32), none, false, .mv (.t 7), none⟩, ⟨(some 33), none, false, .fieldA 2 (.t 8), none⟩, ⟨(some 34), none, false, .load 1 false (.t 33), none⟩, ⟨(some 35), none, false, .mv (.t 1), none⟩, ⟨(some 36), none, false, .fieldA 1 (.t 8), none⟩, ⟨(some 37), none, false, .load 1 false (.t 36), none⟩, ⟨(some 38), none, false, .idxA 1 (.t 35) (.t 37), none⟩, ⟨(some 39), none, false, .load 1 false (.t 38), none⟩, ⟨(some 40), none, true, .bin .add (.t 34) (.t 39), none⟩, ⟨(some 41), none, false, .mv (.t 1), none⟩, ⟨(some 42), none, false, .fieldA 0 (.t 8), none⟩, ⟨(some 43), none, false, .load 1 false (.t 42), (some [1, 2, 4, 6, 7, 31, 32, 40, 41, 43])⟩, ⟨(some 44), none, false, .idxA 1 (.t 41) (.t 43), none⟩, ⟨(some 45), none, false, .load 1 false (.t 44), none⟩, ⟨(some 46), none, true, .bin .sub (.t 40) (.t 45), none⟩, ⟨(some 47), none, false, .fieldA 1 (.t 2), none⟩, ⟨(some 48), none, false, .load 1 false (.t 47), none⟩, ⟨(some 49), none, false, .call 64 [(.t 46), (.t 48)], none⟩, ⟨(some 50), none, false, .idxA 3 (.t 31) (.t 32), none⟩, ⟨(some 51), none, false, .fieldA 2 (.t 50), (some [1, 2, 4, 6, 7, 49, 51])⟩]
abbrev c_spec_TurnPhases_o10 : List AJ := [.o ⟨none, none, false, .store 1 (.t 51) (.t 49), (some [1, 2, 4, 6, 7])⟩]
def c_spec_TurnPhases_17 : ACode := .draw c_spec_TurnPhases_o9 c_spec_TurnPhases_o10 rfl
def c_spec_TurnPhases_18 : ACode := .seq c_spec_TurnPhases_16 c_spec_TurnPhases_17
def c_spec_TurnPhases_19 : ACode := .block 1 c_spec_TurnPhases_18
abbrev c_spec_TurnPhases_o11 : List AJ := [.o ⟨(some 23), none, false, .mv (.t 7), none⟩, .o ⟨(some 24), none, true, .bin .add (.t 23) (.c (.int .i64 1)), none⟩, .o ⟨(some 7), none, false, .mv (.t 24), (some [1, 2, 4, 6, 7])⟩]
def c_spec_TurnPhases_20 : ACode := .region c_spec_TurnPhases_o11
def c_spec_TurnPhases_21 : ACode := .seq c_spec_TurnPhases_19 c_spec_TurnPhases_20
def c_spec_TurnPhases_22 : ACode := .seq c_spec_TurnPhases_15 c_spec_TurnPhases_21
def c_spec_TurnPhases_23 : ACode := .loop c_spec_TurnPhases_22
def c_spec_TurnPhases_24 : ACode := .block 0 c_spec_TurnPhases_23
def c_spec_TurnPhases_25 : ACode := .seq c_spec_TurnPhases_12 c_spec_TurnPhases_24
abbrev c_spec_TurnPhases_o12 : List AJ := [.o ⟨(some 52), none, false, .load 3 true (.t 6), none⟩, .o ⟨none, none, false, .store 3 (.t 4) (.t 52), none⟩, .o ⟨(some 5), none, false, .mv (.c (.int .i64 0)), (some [4, 5])⟩]
def c_spec_TurnPhases_26 : ACode := .region c_spec_TurnPhases_o12
def c_spec_TurnPhases_27 : ACode := .seq c_spec_TurnPhases_26 .ret
def c_spec_TurnPhases_28 : ACode := .seq c_spec_TurnPhases_25 c_spec_TurnPhases_27
def c_spec_TurnPhases_29 : ACode := .seq c_spec_TurnPhases_11 c_spec_TurnPhases_28
def c_spec_TurnPhases_30 : ACode := .seq c_spec_TurnPhases_10 c_spec_TurnPhases_29
def c_spec_TurnPhases_31 : ACode := .seq c_spec_TurnPhases_5 c_spec_TurnPhases_30
def c_spec_TurnPhases_32 : ACode := .seq c_spec_TurnPhases_0 c_spec_TurnPhases_31
section
variable (C : Cx) (n : Nat) (sk : List AItem) (e : Env) (h : Heap) (R : AV → Heap → Prop)
@[simp, simp ↓] theorem c_spec_TurnPhases_0_r : vc2 C (n + 1) [] (.code c_spec_TurnPhases_0 :: sk) e h R = (vc2 C n c_spec_TurnPhases_o0 sk e h R) := nr rfl
@[simp, simp ↓] theorem c_spec_TurnPhases_1_r : vc2 C (n + 1) [] (.code c_spec_TurnPhases_1 :: sk) e h R = (vc2 C n c_spec_TurnPhases_o1 sk e h R) := nr rfl
@[simp, simp ↓] theorem c_spec_TurnPhases_2_r : vc2 C (n + 1) [] (.code c_spec_TurnPhases_2 :: sk) e h R = (vc2 C n c_spec_TurnPhases_o2 sk e h R) := nr rfl
@[simp, simp ↓] theorem c_spec_TurnPhases_3_r : vc2 C (n + 1) [] (.code c_spec_TurnPhases_3 :: sk) e h R = (vc2 C n [] (.code c_spec_TurnPhases_2 :: .code .ret :: sk) e h R) := nr rfl
@[simp, simp ↓] theorem c_spec_TurnPhases_4_r : vc2 C (n + 1) [] (.code c_spec_TurnPhases_4 :: sk) e h R = (condK (ev e (.t 10)) (vc2 C n [] (.code c_spec_TurnPhases_3 :: sk) e h R) (vc2 C n [] (.code .skip :: sk) e h R)) := nr rfl
@[simp, simp ↓] theorem c_spec_TurnPhases_5_r : vc2 C (n + 1) [] (.code c_spec_TurnPhases_5 :: sk) e h R = (vc2 C n [] (.code c_spec_TurnPhases_1 :: .code c_spec_TurnPhases_4 :: sk) e h R) := nr rfl
@[simp, simp ↓] theorem c_spec_TurnPhases_6_r : vc2 C (n + 1) [] (.code c_spec_TurnPhases_6 :: sk) e h R = (vc2 C n c_spec_TurnPhases_o3 sk e h R) := nr rfl
@[simp, simp ↓] theorem c_spec_TurnPhases_7_r : vc2 C (n + 1) [] (.code c_spec_TurnPhases_7 :: sk) e h R = (vc2 C n c_spec_TurnPhases_o4 sk e h R) := nr rfl
@[simp, simp ↓] theorem c_spec_TurnPhases_8_r : vc2 C (n + 1) [] (.code c_spec_TurnPhases_8 :: sk) e h R = (vc2 C n [] (.code c_spec_TurnPhases_7 :: .code .ret :: sk) e h R) := nr rfl
@[simp, simp ↓] theorem c_spec_TurnPhases_9_r : vc2 C (n + 1) [] (.code c_spec_TurnPhases_9 :: sk) e h R = (condK (ev e (.t 14)) (vc2 C n [] (.code c_spec_TurnPhases_8 :: sk) e h R) (vc2 C n [] (.code .skip :: sk) e h R)) := nr rfl
@[simp, simp ↓] theorem c_spec_TurnPhases_10_r : vc2 C (n + 1) [] (.code c_spec_TurnPhases_10 :: sk) e h R = (vc2 C n [] (.code c_spec_TurnPhases_6 :: .code c_spec_TurnPhases_9 :: sk) e h R) := nr rfl
@[simp, simp ↓] theorem c_spec_TurnPhases_11_r : vc2 C (n + 1) [] (.code c_spec_TurnPhases_11 :: sk) e h R = (vc2 C n c_spec_TurnPhases_o5 sk e h R) := nr rfl
@[simp, simp ↓] theorem c_spec_TurnPhases_12_r : vc2 C (n + 1) [] (.code c_spec_TurnPhases_12 :: sk) e h R = (vc2 C n c_spec_TurnPhases_o6 sk e h R) := nr rfl
@[simp, simp ↓] theorem c_spec_TurnPhases_13_r : vc2 C (n + 1) [] (.code c_spec_TurnPhases_13 :: sk) e h R = (vc2 C n c_spec_TurnPhases_o7 sk e h R) := nr rfl
@[simp, simp ↓] theorem c_spec_TurnPhases_14_r : vc2 C (n + 1) [] (.code c_spec_TurnPhases_14 :: sk) e h R = (condK (ev e (.t 22)) (vc2 C n [] (.code .skip :: sk) e h R) (vc2 C n [] (.code (.exit 0) :: sk) e h R)) := nr rfl
@[simp, simp ↓] theorem c_spec_TurnPhases_15_r : vc2 C (n + 1) [] (.code c_spec_TurnPhases_15 :: sk) e h R = (vc2 C n [] (.code c_spec_TurnPhases_13 :: .code c_spec_TurnPhases_14 :: sk) e h R) := nr rfl
@[simp, simp ↓] theorem c_spec_TurnPhases_16_r : vc2 C (n + 1) [] (.code c_spec_TurnPhases_16 :: sk) e h R = (vc2 C n c_spec_TurnPhases_o8 sk e h R) := nr rfl
@[simp, simp ↓] theorem c_spec_TurnPhases_17_r : vc2 C (n + 1) [] (.code c_spec_TurnPhases_17 :: sk) e h R = (draw2 C h (vK C n c_spec_TurnPhases_o10 sk R h) c_spec_TurnPhases_o9 e) := nr rfl
@[simp, simp ↓] theorem c_spec_TurnPhases_18_r : vc2 C (n + 1) [] (.code c_spec_TurnPhases_18 :: sk) e h R = (vc2 C n [] (.code c_spec_TurnPhases_16 :: .code c_spec_TurnPhases_17 :: sk) e h R) := nr rfl
@[simp, simp ↓] theorem c_spec_TurnPhases_19_r : vc2 C (n + 1) [] (.code c_spec_TurnPhases_19 :: sk) e h R = (vc2 C n [] (.code c_spec_TurnPhases_18 :: .inBlock 1 :: sk) e h R) := nr rfl
@[simp, simp ↓] theorem c_spec_TurnPhases_20_r : vc2 C (n + 1) [] (.code c_spec_TurnPhases_20 :: sk) e h R = (vc2 C n c_spec_TurnPhases_o11 sk e h R) := nr rfl
@[simp, simp ↓] theorem c_spec_TurnPhases_21_r : vc2 C (n + 1) [] (.code c_spec_TurnPhases_21 :: sk) e h R = (vc2 C n [] (.code c_spec_TurnPhases_19 :: .code c_spec_TurnPhases_20 :: sk) e h R) := nr rfl
@[simp, simp ↓] theorem c_spec_TurnPhases_22_r : vc2 C (n + 1) [] (.code c_spec_TurnPhases_22 :: sk) e h R = (vc2 C n [] (.code c_spec_TurnPhases_15 :: .code c_spec_TurnPhases_21 :: sk) e h R) := nr rfl
@[simp, simp ↓] theorem c_spec_TurnPhases_23_r : vc2 C (n + 1) [] (.code c_spec_TurnPhases_23 :: sk) e h R = (Run2 C (.code c_spec_TurnPhases_22 :: .inLoop c_spec_TurnPhases_22 :: sk) e h R) := nr rfl
@[simp, simp ↓] theorem c_spec_TurnPhases_24_r : vc2 C (n + 1) [] (.code c_spec_TurnPhases_24 :: sk) e h R = (vc2 C n [] (.code c_spec_TurnPhases_23 :: .inBlock 0 :: sk) e h R) := nr rfl
@[simp, simp ↓] theorem c_spec_TurnPhases_25_r : vc2 C (n + 1) [] (.code c_spec_TurnPhases_25 :: sk) e h R = (vc2 C n [] (.code c_spec_TurnPhases_12 :: .code c_spec_TurnPhases_24 :: sk) e h R) := nr rfl
@[simp, simp ↓] theorem c_spec_TurnPhases_26_r : vc2 C (n + 1) [] (.code c_spec_TurnPhases_26 :: sk) e h R = (vc2 C n c_spec_TurnPhases_o12 sk e h R) := nr rfl
@[simp, simp ↓] theorem c_spec_TurnPhases_27_r : vc2 C (n + 1) [] (.code c_spec_TurnPhases_27 :: sk) e h R = (vc2 C n [] (.code c_spec_TurnPhases_26 :: .code .ret :: sk) e h R) := nr rfl
@[simp, simp ↓] theorem c_spec_TurnPhases_28_r : vc2 C (n + 1) [] (.code c_spec_TurnPhases_28 :: sk) e h R = (vc2 C n [] (.code c_spec_TurnPhases_25 :: .code c_spec_TurnPhases_27 :: sk) e h R) := nr rfl
@[simp, simp ↓] theorem c_spec_TurnPhases_29_r : vc2 C (n + 1) [] (.code c_spec_TurnPhases_29 :: sk) e h R = (vc2 C n [] (.code c_spec_TurnPhases_11 :: .code c_spec_TurnPhases_28 :: sk) e h R) := nr rfl
@[simp, simp ↓] theorem c_spec_TurnPhases_30_r : vc2 C (n + 1) [] (.code c_spec_TurnPhases_30 :: sk) e h R = (vc2 C n [] (.code c_spec_TurnPhases_10 :: .code c_spec_TurnPhases_29 :: sk) e h R) := nr rfl
@[simp, simp ↓] theorem c_spec_TurnPhases_31_r : vc2 C (n + 1) [] (.code c_spec_TurnPhases_31 :: sk) e h R = (vc2 C n [] (.code c_spec_TurnPhases_5 :: .code c_spec_TurnPhases_30 :: sk) e h R) := nr rfl
@[simp, simp ↓] theorem c_spec_TurnPhases_32_r : vc2 C (n + 1) [] (.code c_spec_TurnPhases_32 :: sk) e h R = (vc2 C n [] (.code c_spec_TurnPhases_0 :: .code c_spec_TurnPhases_31 :: sk) e h R) := nr rfl
end
noncomputable def c_spec_TurnPhases_C (orc : Orc) : Cx := ⟨Try.prog, [4, 6, 8], 32, 53, [.cell 4 3 true, .tmp 5], orc⟩
@[simp] theorem c_spec_TurnPhases_C_P (orc : Orc) : (c_spec_TurnPhases_C orc).P = Try.prog := nr rfl
@[simp] theorem c_spec_TurnPhases_C_o (orc : Orc) : (c_spec_TurnPhases_C orc).orc = orc := nr rfl
@[simp] theorem c_spec_TurnPhases_C_r (orc : Orc) : (c_spec_TurnPhases_C orc).res = [.cell 4 3 true, .tmp 5] := nr rfl
theorem c_spec_TurnPhases_of {args : List AV} {h : Heap} {R : AV → Heap → Prop} {k : Nat} (ha : args.length = k) {orc : Orc} (hp : Pure Try.prog orc) (hk : Is (c_spec_TurnPhases_C orc) Try.f32 → Run2 (c_spec_TurnPhases_C orc) [.code c_spec_TurnPhases_32] (argEnv 0 args) h (Post R)) (hle : k ≤ 53 := by simp) : ACalls Try.prog 32 args h R :=
  contract2 [4, 6, 8] c_spec_TurnPhases_32 [.cell 4 3 true, .tmp 5] Try.func32 (by decide +kernel) rfl (by kernel_rfl) (by rw [ha]; exact hle) (by kernel_rfl) hp hk
theorem c_spec_TurnPhases_of0 {args : List AV} {h : Heap} {R : AV → Heap → Prop} {k : Nat} (ha : args.length = k) {orc : Orc} (hp : Pure Try.prog orc) (hk : Is (c_spec_TurnPhases_C orc) Try.f32 → Run2 (c_spec_TurnPhases_C orc) [.code c_spec_TurnPhases_32] (argEnv 0 args) h R) (hle : k ≤ 53 := by simp) : ACalls Try.prog 32 args h R :=
  contract20 [4, 6, 8] c_spec_TurnPhases_32 [.cell 4 3 true, .tmp 5] Try.func32 (by decide +kernel) rfl (by kernel_rfl) (by rw [ha]; exact hle) (by kernel_rfl) hp hk
/-- The edges, the first i of them turned. -/
noncomputable def Ph.tf (x : Ph) (p : List Int) (i : Nat) : List AV := ((x.ts.take i).map (x.turn1 p) ++ x.ts.drop i).map T.av
theorem Ph.tf_len (x : Ph) (p : List Int) (i : Nat) : (x.tf p i).length = x.ts.length := by simp [Ph.tf]; omega
theorem Ph.tf_zero (x : Ph) (p : List Int) : x.tf p 0 = x.ts.map T.av := by simp [Ph.tf]
theorem Ph.tf_all (x : Ph) (p : List Int) : x.tf p x.ts.length = (x.ts.map (x.turn1 p)).map T.av := by simp [Ph.tf]
theorem Ph.tf_get (x : Ph) (p : List Int) {i : Nat} (hi : i < x.ts.length) (h2 : i < (x.tf p i).length) : (x.tf p i)[i] = (x.ts[i]).av := by
  simp only [Ph.tf, List.getElem_map]
  rw [List.getElem_append_right (by simp; omega)]
  simp [Nat.min_eq_left (Nat.le_of_lt hi)]
theorem Ph.tf_set (x : Ph) (p : List Int) {i : Nat} (hi : i < x.ts.length) : (x.tf p i).set i (x.turn1 p x.ts[i]).av = x.tf p (i + 1) := by
  have h1 : ((x.ts.take i).map (x.turn1 p)).length = i := by simp; omega
  unfold Ph.tf
  rw [← List.map_set, List.take_succ_eq_append_getElem hi, List.set_append_right _ _ (by omega), h1, Nat.sub_self, List.drop_eq_getElem_cons hi]
  simp only [List.set_cons_zero, List.map_append, List.map_cons, List.map_nil, List.append_assoc, List.cons_append, List.nil_append]
theorem specTurn_c (x : Ph) (p : List Int) (h : Heap) (ok : x.ok) (hl : x.ts.length ≤ 1048576) (hp : p.length ≤ 1048576) : ACalls Try.prog 32 [x.av, .snap 1 (p.map iv)] h (fun v h' => v = .tup [(x.turned p).av, .int .i64 (x.ecode p)] ∧ h' = h) := by
  refine c_spec_TurnPhases_of rfl orcT2_p fun I => ?_
  refine Run2.of I 1000 ?_
  simp -implicitDefEqProofs [ok, hl, hp]
  have weak : ∀ c : Int, Wk (.tup [.agg [.int .i64 0, .int .i64 0, .nilsl], .int .i64 c]) (.tup [.agg [.int .i64 0, .int .i64 0, .snap 3 []], .int .i64 c]) := fun c => .tup (.cons (.agg (.cons (.refl _) (.cons (.refl _) (.cons (.nil 3) .nil)))) (.cons (.refl _) .nil))
  intro a ha
  refine ⟨fun hv => .wk (weak _) (.drop a (.base ?_)), fun hv => ⟨Ph.valid_m hv, fun h2 => .wk (weak _) (.drop a (.base ?_)), fun h2 => ?_⟩⟩
  · simp [Ph.turned, Ph.ecode, hv, hdel]
  · simp [Ph.turned, Ph.ecode, hv, h2, hdel]
  have hl2 := hv.2.2.2.2.2
  have hm1 := hv.2.2.1
  have hm2 := hv.2.2.2.1
  refine (l23Less_w x (.snap 1 []) _ (by omega) isInts_s0 (by simp)).mono ?_
  rintro v h' ⟨u, hp', rfl, hg, rfl⟩
  have hg : Grow 3 u (x.ts.map T.av) hp' := by simpa [Ph.less_nil] using hg
  refine gK.go ?_
  simp -implicitDefEqProofs
  refine ⟨hg.cell, ?_⟩
  generalize hL : x.ts.map T.av = L at hg
  have hLl : x.ts.length = L.length := by rw [← hL]; simp
  cases hg with
  | nil =>
    have h0 : x.ts = [] := by simpa using hL
    clear hL
    refine Run2.of I 1000 ?_
    simp -implicitDefEqProofs
    refine .wk (.tup (.cons (.agg (.cons (.refl _) (.cons (.refl _) (.cons (.nil 3) .nil)))) (.cons (.refl _) .nil))) (.drop a (.base ?_))
    simp [Ph.turned, Ph.ecode, hv, h2, hdel, h0]
  | emp =>
    have h0 : x.ts = [] := by simpa using hL
    clear hL
    refine Run2.of I 1000 ?_
    simp -implicitDefEqProofs
    refine .wk (.tup (.cons (.agg (.cons (.refl _) (.cons (.refl _) (.cons (.emp 3) .nil)))) (.cons (.refl _) .nil))) (.drop a (.base ?_))
    simp [Ph.turned, Ph.ecode, hv, h2, hdel, h0]
  | sl b l N hN =>
    subst hN
    subst hL
    rw [show (b, (⟨3, x.ts.map T.av⟩ : Blk)) = (b, ⟨3, x.tf p 0⟩) by rw [x.tf_zero p]]
    have hn := x.tf_len p
    simp only [List.length_map]
    generalize hF : x.tf p = F
    refine Run2.nd fun nd => ?_
    have hba : ¬ b = a := by simp [dom] at nd; exact nd.1.1
    refine Run2.loopE (fun i => [(1, .snap 1 (p.map iv)), (2, .ip [.int .i64 x.n, .int .i64 x.m, .snap 3 (x.ts.map T.av)]), (4, .ptr a 3 0 0), (6, .ip [.int .i64 x.n, .int .i64 x.m, .sl b 3 0 x.ts.length none]), (7, .int .i64 (i : Nat))])
      (fun i => (b, ⟨3, F i⟩) :: (a, ⟨3, [.agg [.int .i64 0, .int .i64 0, .nilsl]]⟩) :: h) (fun i => x.ts.length - i) (fun i => i ≤ x.ts.length) 0 (by simp) (by simp) (Nat.zero_le _) fun i hi ih => ?_
    by_cases hlt : i < x.ts.length
    · obtain ⟨h1', h2', e1, e2, e3, e4, e5, e6, _⟩ := Ph.ends hv h2 hlt
      have hlF : i < (F i).length := by rw [← hF, hn]; exact hlt
      have hgt : (F i)[i] = (x.ts[i]).av := by subst hF; exact x.tf_get p hlt _
      have hst : (F i).set i (x.turn1 p x.ts[i]).av = F (i + 1) := by subst hF; exact x.tf_set p hlt
      have ht1 : x.turn1 p x.ts[i] = ⟨x.ts[i].f, x.ts[i].t, (x.ts[i].s + p[x.ts[i].t.toNat] - p[x.ts[i].f.toNat]) % x.m⟩ := by
        simp [Ph.turn1, h1', h2']
      rw [ht1] at hst
      have go := ih (i + 1) (by omega) (by omega)
      clear ih
      refine Run2.of I 1000 ?_
      simp -implicitDefEqProofs [hlt, h1', h2', e1, e2, hlF, hgt]
      refine ⟨by omega, by omega, by omega, by omega, ?_⟩
      simp only [T.av] at hst
      rw [hst]
      simpa using go
    · obtain rfl : i = x.ts.length := by omega
      have hfin : F x.ts.length = (x.ts.map (x.turn1 p)).map T.av := by subst hF; exact x.tf_all p
      refine Run2.of I 1000 ?_
      simp -implicitDefEqProofs [hba, Ne.symm hba]
      rw [hfin]
      refine .freeze b (by simp [hget]; rfl) (.drop a (.base ?_))
      simp [Ph.turned, Ph.ecode, hv, h2, hdel, hba, Ne.symm hba]
      rw [List.take_of_length_le (by simp)]
end Go.AG
