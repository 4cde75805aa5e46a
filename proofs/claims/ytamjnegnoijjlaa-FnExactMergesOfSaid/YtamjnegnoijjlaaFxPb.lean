/- Parts: the program's labels. No statement is made here. -/
import Derived.Test.YtamjnegnoijjlaaFxPa
namespace Go.AG
open Go.Proofs Go.Proofs.Ytamjnegnoijjlaa
set_option linter.unusedSimpArgs false
set_option linter.unusedVariables false
set_option maxRecDepth 4000
def nvI (n : Nat) : AV := .int .i64 n
/-- The places of the simplices of a dimension. -/
def edD (rs : List (List Int)) (d : Int) (i : Nat) : List Nat := (List.range i).filter fun k => decide (((rs.getD k []).length : Int) = d + 1)
theorem edD_pos {rs : List (List Int)} {d : Int} {i : Nat} (hi : i < rs.length) (h : (rs[i].length : Int) = d + 1) : edD rs d (i + 1) = edD rs d i ++ [i] := by
  unfold edD
  rw [List.range_succ, List.filter_append]
  simp [hi, h]
theorem edD_neg {rs : List (List Int)} {d : Int} {i : Nat} (hi : i < rs.length) (h : ¬ (rs[i].length : Int) = d + 1) : edD rs d (i + 1) = edD rs d i := by
  unfold edD
  rw [List.range_succ, List.filter_append]
  simp [hi, h]
theorem edD_len (rs : List (List Int)) (d : Int) (i : Nat) : (edD rs d i).length ≤ i := by
  unfold edD
  exact Nat.le_trans (List.length_filter_le ..) (by simp)
theorem edD_mem {rs : List (List Int)} {d : Int} {k : Nat} (h : k ∈ edD rs d rs.length) : ∃ hk : k < rs.length, (rs[k].length : Int) = d + 1 := by
  unfold edD at h
  obtain ⟨h1, h2⟩ := List.mem_filter.1 h
  have hk := List.mem_range.1 h1
  exact ⟨hk, by simpa [hk] using h2⟩
def edge (rs : List (List Int)) (k : Nat) : Int × Int := ((rs.getD k []).getD 0 0, (rs.getD k []).getD 1 0)
def edges (rs : List (List Int)) : List (Int × Int) := (edD rs 1 rs.length).map (edge rs)
theorem edge_at {rs : List (List Int)} (h : cxOk rs) {k : Nat} (hk : k ∈ edD rs 1 rs.length) : ∃ (a b : Nat) (hk : k < rs.length), rs[k] = [(a : Int), (b : Int)] ∧ a < b ∧ b < 10 ∧ edge rs k = ((a : Int), (b : Int)) ∧ (a : Int) ∈ vt rs ∧ (b : Int) ∈ vt rs := by
  obtain ⟨hk, hl⟩ := edD_mem hk
  have hs := (h.mem (List.getElem_mem hk)).1
  have hv := vt_in h _ rs[k] rfl (List.getElem_mem hk)
  have he : edge rs k = (rs[k].getD 0 0, rs[k].getD 1 0) := by simp [edge, hk]
  obtain ⟨x, y, hxy⟩ : ∃ x y, rs[k] = [x, y] := by
    generalize rs[k] = s at hl
    match s, hl with
    | [x, y], _ => exact ⟨x, y, rfl⟩
    | [], h => simp at h
    | [_], h => simp at h
    | _ :: _ :: _ :: _, h => simp at h; omega
  rw [hxy] at hs hv he
  have hx := hs.2.2 x (by simp)
  have hy := hs.2.2 y (by simp)
  have hr := hs.2.1 0 (by simp)
  simp at hr
  obtain ⟨a, rfl⟩ : ∃ a : Nat, x = a := ⟨x.toNat, by omega⟩
  obtain ⟨b, rfl⟩ : ∃ b : Nat, y = b := ⟨y.toNat, by omega⟩
  exact ⟨a, b, hk, hxy, by omega, by omega, by rw [he]; simp, hv _ (by simp), hv _ (by simp)⟩
theorem rnd_off {v : Int} : ∀ {es : List (Int × Int)}, (∀ e ∈ es, v ≠ e.1 ∧ v ≠ e.2) → ∀ L : Int → Int, rnd es L v = L v := by
  intro es
  induction es with
  | nil => intro _ L; rfl
  | cons e es ih =>
    intro h L
    rw [rnd_cons, ih fun f hf => h f (List.mem_cons_of_mem _ hf)]
    have := h e (List.mem_cons_self ..)
    unfold st1
    rw [if_neg (fun hh => hh.elim this.1 this.2)]
theorem itR_off {v : Int} {es : List (Int × Int)} (h : ∀ e ∈ es, v ≠ e.1 ∧ v ≠ e.2) (n : Nat) : ∀ L : Int → Int, itR es n L v = L v := by
  induction n with
  | zero => intro L; rfl
  | succ n ih => intro L; rw [itR, ih, rnd_off h]
/-- The least vertex that is joined to a vertex. -/
def part1 (rs : List (List Int)) : Int → Int := itR (edges rs) (vt rs).length id
theorem part1_of {rs : List (List Int)} (h : cxOk rs) {F : Int → Int} (hf : rnd (edges rs) F = F) (hk : ∃ k, itR (edges rs) k id = F) : part1 rs = F := by
  refine enough_len hf hk fun v hv => Classical.byContradiction fun hno => hv ?_
  obtain ⟨k, rfl⟩ := hk
  exact (itR_off (fun e he => by
    obtain ⟨k, hk, rfl⟩ := List.mem_map.1 he
    obtain ⟨a, b, _, _, _, _, e, h1, h2⟩ := edge_at h hk
    rw [e]
    exact ⟨fun hh => hno (hh ▸ h1), fun hh => hno (hh ▸ h2)⟩) k id).symm
/-! ## Labels as a list -/
def lab (L : Int → Int) : List Int := (List.range 10).map fun v : Nat => L (v : Int)
theorem lab_len (L : Int → Int) : (lab L).length = 10 := by simp [lab]
theorem lab_get (L : Int → Int) {v : Nat} (h : v < 10) (h2 : v < (lab L).length) : (lab L)[v] = L v := by simp [lab]
theorem lab_set (L : Int → Int) {a b : Nat} (ha : a < 10) (hb : b < 10) : ((lab L).set a (min (L a) (L b))).set b (min (L a) (L b)) = lab (st1 L (a, b)) := by
  apply List.ext_getElem (by simp [lab])
  intro i h1 h2
  simp only [List.getElem_set, lab, List.getElem_map, List.getElem_range, st1]
  by_cases hib : b = i
  · subst hib; simp
  · by_cases hia : a = i
    · subst hia; simp
    · have e1 : ¬ (i : Int) = a := by omega
      have e2 : ¬ (i : Int) = b := by omega
      simp [hib, hia, e1, e2]
def sumT (L : Int → Int) : Nat := ((List.range 10).map fun v => (L (v : Nat)).toNat).sum
theorem sum_le2 {f g : Nat → Nat} : ∀ {l : List Nat}, (∀ v ∈ l, f v ≤ g v) → (l.map f).sum ≤ (l.map g).sum
  | [], _ => by simp
  | a :: l, h => by
    have := sum_le2 fun v hv => h v (List.mem_cons_of_mem _ hv)
    have := h a (List.mem_cons_self ..)
    simp only [List.map_cons, List.sum_cons]; omega
theorem sum_lt2 {f g : Nat → Nat} : ∀ {l : List Nat}, (∀ v ∈ l, f v ≤ g v) → (∃ w ∈ l, f w < g w) → (l.map f).sum < (l.map g).sum
  | [], _, ⟨w, hw, _⟩ => by simp at hw
  | a :: l, h, ⟨w, hw, h1⟩ => by
    have hl : ∀ v ∈ l, f v ≤ g v := fun v hv => h v (List.mem_cons_of_mem _ hv)
    have h2 := sum_le2 hl
    have h3 := h a (List.mem_cons_self ..)
    simp only [List.map_cons, List.sum_cons]
    rcases List.mem_cons.1 hw with rfl | hw
    · omega
    · have := sum_lt2 hl ⟨w, hw, h1⟩; omega
theorem sumT_lt {L : Int → Int} (hL : ∀ v : Int, 0 ≤ v → 0 ≤ L v) {a b : Nat} (ha : a < 10) (hb : b < 10) (hne : L a ≠ L b) : sumT (st1 L (a, b)) < sumT L := by
  unfold sumT
  refine sum_lt2 (fun v _ => ?_) ?_
  · have := st1_le L ((a : Int), (b : Int)) v; omega
  · have h1 := hL a (by omega)
    have h2 := hL b (by omega)
    by_cases hlt : L a < L b
    · refine ⟨b, List.mem_range.2 hb, ?_⟩
      simp only [st1, or_true, if_true]; omega
    · refine ⟨a, List.mem_range.2 ha, ?_⟩
      simp only [st1, true_or, if_true]; omega
theorem st1_same {L : Int → Int} {e : Int × Int} (h : L e.1 = L e.2) : st1 L e = L := by
  funext v
  unfold st1
  split
  · rename_i h0
    rcases h0 with rfl | rfl <;> omega
  · rfl
theorem st1_nn {L : Int → Int} {e : Int × Int} (hL : ∀ v : Int, 0 ≤ v → 0 ≤ L v) (h1 : 0 ≤ e.1) (h2 : 0 ≤ e.2) : ∀ v : Int, 0 ≤ v → 0 ≤ st1 L e v := by
  intro v hv
  have := hL _ h1
  have := hL _ h2
  have := hL v hv
  unfold st1
  split <;> omega
theorem rnd_snoc (es : List (Int × Int)) {j : Nat} (hj : j < es.length) (L : Int → Int) : rnd (es.take (j + 1)) L = st1 (rnd (es.take j) L) es[j] := by
  rw [List.take_succ_eq_append_getElem hj, rnd_app]; rfl
abbrev k128_o0 : List AJ := [.o ⟨(some 2), none, false, .mv (.c (.int .i64 0)), (some [0])⟩]
abbrev k128_o1 : List AJ := [.o ⟨(some 3), none, false, .mv (.t 0), none⟩, .o ⟨(some 4), none, false, .len (.t 3), none⟩, .o ⟨(some 2), none, false, .mv (.t 4), (some [2])⟩]
def k128_2 : ACode := .seq (.region k128_o1) .ret
def k128_3 : ACode := .seq (.region k128_o0) k128_2
@[simp, simp ↓] theorem k128_2r : sR k128_2 k128_o1 .ret := yR rfl
@[simp, simp ↓] theorem k128_3r : sR k128_3 k128_o0 k128_2 := yR rfl
noncomputable abbrev k128_C : Orc → Cx := mkC Try.prog [] 128 5 [.tmp 2]
theorem k128_of0 : OfP0 Try.prog Try.f128 128 5 k128_C k128_3 := @ofP0 _ _ _ _ _ _ _ _ Try.func128 (by decide +kernel) rfl (by kernel_rfl) rfl (by kernel_rfl)
theorem sizeI_b (l : List Int) (h : Heap) : ACalls Try.prog 128 [.snap 1 (l.map iv)] h (fun v h' => v = .int .i64 l.length ∧ h' = h) := by
  refine k128_of0 rfl noPure fun I => ?_
  refine Run2.of I 1000 ?_
  simp -implicitDefEqProofs
noncomputable def o_sizeI : List AV → Option (Prop × AV) := tab (fun (x : List Int) => match x with | l => [.snap 1 (l.map iv)]) (fun x => match x with | l => True) (fun x => match x with | l => .int .i64 l.length)
@[simp] theorem o_sizeI_e (l : List Int) : o_sizeI [.snap 1 (l.map iv)] = some (True, .int .i64 l.length) := tab_at (enc := fun (x : List Int) => match x with | l => [.snap 1 (l.map iv)]) (fun x y h => by
  simp at h; simp [h] <;> omega) _ _ l
theorem o_sizeI_k : Knows Try.prog 128 o_sizeI := tab_knows fun x hx h => by
  exact sizeI_b x h
noncomputable def orcPb1 : List (Nat × (List AV → Option (Prop × AV))) := (128, o_sizeI) :: []
theorem orcPb1_p : Pure Try.prog (lk orcPb1) := (lk_pure o_sizeI_k lk_pure0)
@[simp] theorem orcPb1_l (b : Bool) (g : FuncId) (l : List AV) : lk orcPb1 b g l = if g = 128 then o_sizeI l else none := nr rfl
abbrev k91_o0 : List AJ := [.o ⟨(some 2), none, false, .box false 1 (.t 0), none⟩, .o ⟨(some 4), none, false, .mv (.c .nilsl), (some [1, 2])⟩]
abbrev k91_o1 : List AJ := [.o ⟨(some 5), none, false, .mv (.c .nilsl), (some [1, 2, 5])⟩]
abbrev k91_o2 : List AJ := [.o ⟨(some 8), none, false, .fieldA 0 (.t 2), none⟩, .o ⟨(some 9), none, false, .load 1 false (.t 8), none⟩, .o ⟨(some 10), none, false, .len (.t 9), none⟩, .o ⟨(some 11), none, false, .mv (.c (.int .i64 0)), (some [1, 5, 9, 10, 11])⟩]
abbrev k91_o3 : List AJ := [.o ⟨(some 12), none, false, .bin .lss (.t 11) (.t 10), (some [1, 5, 9, 10, 11, 12])⟩]
abbrev k91_o4 : List AJ := [.o ⟨(some 13), none, false, .mv (.t 11), none⟩, .o ⟨(some 14), none, false, .idxA 1 (.t 9) (.t 11), none⟩, .o ⟨(some 15), none, false, .load 1 false (.t 14), none⟩, .o ⟨(some 6), none, false, .mv (.t 13), none⟩, .o ⟨(some 7), none, false, .mv (.t 15), (some [1, 5, 6, 7, 9, 10, 11])⟩]
abbrev k91_o5 : List AJ := [.o ⟨(some 16), none, false, .mv (.t 7), none⟩, .o ⟨(some 17), none, false, .call 128 [(.t 16)], none⟩, .o ⟨(some 18), none, false, .mv (.t 1), none⟩, .o ⟨(some 19), none, true, .bin .add (.t 18) (.c (.int .i64 1)), none⟩, .o ⟨(some 20), none, false, .bin .eql (.t 17) (.t 19), (some [1, 5, 6, 9, 10, 11, 20])⟩]
abbrev k91_o6 : List AJ := [.o ⟨(some 21), none, false, .mv (.t 5), none⟩, .o ⟨(some 22), none, false, .mv (.t 6), none⟩, .o ⟨(some 23), none, false, .bsl false 1 [(.t 22)], none⟩, .o ⟨(some 24), none, false, .append 1 8 (.t 21) (.t 23), none⟩, .o ⟨(some 5), none, false, .mv (.t 24), (some [1, 5, 9, 10, 11])⟩]
def k91_7 : ACode := .region k91_o6
def k91_8 : ACode := .cond (.t 20) k91_7 .skip
def k91_9 : ACode := .seq (.region k91_o5) k91_8
def k91_10 : ACode := .seq (.region k91_o4) k91_9
abbrev k91_o7 : List AJ := [.o ⟨(some 25), none, true, .bin .add (.t 11) (.c (.int .i64 1)), none⟩, .o ⟨(some 11), none, false, .mv (.t 25), (some [1, 5, 9, 10, 11])⟩]
def k91_12 : ACode := .region k91_o7
def k91_13 : ACode := .seq (.block 1 k91_10) k91_12
def k91_14 : ACode := .seq (.cond (.t 12) .skip (.exit 0)) k91_13
def k91_15 : ACode := .seq (.region k91_o3) k91_14
def k91_16 : ACode := .loop k91_15
def k91_17 : ACode := .block 0 k91_16
def k91_18 : ACode := .seq (.region k91_o2) k91_17
abbrev k91_o8 : List AJ := [.o ⟨(some 26), none, false, .mv (.t 5), none⟩, .o ⟨(some 4), none, false, .mv (.t 26), (some [4])⟩]
def k91_20 : ACode := .seq (.region k91_o8) .ret
def k91_21 : ACode := .seq k91_18 k91_20
def k91_22 : ACode := .seq (.region k91_o1) k91_21
def k91_23 : ACode := .seq (.region k91_o0) k91_22
@[simp, simp ↓] theorem k91_7r : rR k91_7 k91_o6 := zR rfl
@[simp, simp ↓] theorem k91_8r : rC k91_8 (.t 20) k91_7 .skip := zC rfl
@[simp, simp ↓] theorem k91_9r : sR k91_9 k91_o5 k91_8 := yR rfl
@[simp, simp ↓] theorem k91_10r : sR k91_10 k91_o4 k91_9 := yR rfl
@[simp, simp ↓] theorem k91_12r : rR k91_12 k91_o7 := zR rfl
@[simp, simp ↓] theorem k91_13r : sB k91_13 1 k91_10 k91_12 := yB rfl
@[simp, simp ↓] theorem k91_14r : sC k91_14 (.t 12) .skip (.exit 0) k91_13 := yC rfl
@[simp, simp ↓] theorem k91_15r : sR k91_15 k91_o3 k91_14 := yR rfl
@[simp, simp ↓] theorem k91_16r : rL k91_16 k91_15 := zL rfl
@[simp, simp ↓] theorem k91_17r : rB k91_17 0 k91_16 := zB rfl
@[simp, simp ↓] theorem k91_18r : sR k91_18 k91_o2 k91_17 := yR rfl
@[simp, simp ↓] theorem k91_20r : sR k91_20 k91_o8 .ret := yR rfl
@[simp, simp ↓] theorem k91_21r : rS k91_21 k91_18 k91_20 := zS rfl
@[simp, simp ↓] theorem k91_22r : sR k91_22 k91_o1 k91_21 := yR rfl
@[simp, simp ↓] theorem k91_23r : sR k91_23 k91_o0 k91_22 := yR rfl
noncomputable abbrev k91_C : Orc → Cx := mkC Try.prog [] 91 27 [.tmp 4]
theorem k91_of : OfP Try.prog Try.f91 91 27 k91_C k91_23 := @ofP _ _ _ _ _ _ _ _ Try.func91 (by decide +kernel) rfl (by kernel_rfl) rfl (by kernel_rfl)
theorem smpOf_s (rs : List (List Int)) (d : Int) (h : Heap) (hl : ssTot rs ≤ 1048576) (hd : 0 ≤ d ∧ d ≤ 10) : ACalls Try.prog 91 [cx rs, .int .i64 d] h (fun v h' => v = .snap 1 ((edD rs d rs.length).map nvI) ∧ h' = h) := by
  have hf := fit_of_tot hl
  have hn := hf.1
  refine k91_of rfl orcPb1_p fun I => ?_
  refine Run2.of I 1000 ?_
  simp -implicitDefEqProofs
  refine Run2.loopE (α := Nat × AV × Heap) (fun p => [(1, .int .i64 d), (5, p.2.1), (9, .snap 1 (rs.map il)), (10, .int .i64 rs.length), (11, .int .i64 (p.1 : Nat))]) (fun p => p.2.2 ++ h) (fun p => rs.length - p.1) (fun p => p.1 ≤ rs.length ∧ Grow 1 p.2.1 ((edD rs d p.1).map nvI) p.2.2) (0, .nilsl, []) (by simp) rfl ⟨Nat.zero_le _, by simpa [edD] using Grow.nil⟩ ?_
  rintro ⟨i, w, hp⟩ ⟨hi, hg⟩ ih
  simp only at hi hg
  have hcell := hg.cell
  by_cases hlt : i < rs.length
  · have hel := edD_len rs d i
    by_cases h1 : (rs[i].length : Int) = d + 1
    · have go := fun w' hp' (g : Grow 1 w' ((edD rs d i).map nvI ++ [.int .i64 i]) hp') => ih (i + 1, w', hp') ⟨hlt, by
        simp only
        rw [edD_pos hlt h1, List.map_append]
        exact g⟩ (by simp; omega)
      clear ih
      refine Run2.of I 1000 ?_
      simp -implicitDefEqProofs [hlt, h1, hcell]
      refine ⟨by omega, hg.app (by simp; omega) (by simp) fun w' hp' hg' => ?_⟩
      have hcell' := hg'.cell
      have := go w' hp' hg'
      simp -implicitDefEqProofs [hcell']
      refine ⟨by omega, ?_⟩
      simpa using this
    · have go := ih (i + 1, w, hp) ⟨hlt, by simp only; rw [edD_neg hlt h1]; exact hg⟩ (by simp; omega)
      clear ih
      refine Run2.of I 1000 ?_
      simp -implicitDefEqProofs [hlt, h1, hcell]
      refine ⟨by omega, by omega, ?_⟩
      simpa using go
  · obtain rfl : i = rs.length := by omega
    refine Run2.of I 1000 ?_
    simp -implicitDefEqProofs [hlt, hcell]
    exact hg.froze (fun x => x) (fun _ _ _ => rfl) (fun _ _ h => h) (.base ⟨rfl, rfl⟩)
abbrev k123_o0 : List AJ := [.o ⟨(some 4), none, false, .mv (.c .nilsl), (some [0, 1])⟩]
abbrev k123_o1 : List AJ := [.e 7 1 none, .o ⟨(some 5), none, false, .mv (.t 7), (some [0, 1, 5])⟩]
abbrev k123_o2 : List AJ := [.o ⟨(some 6), none, false, .mv (.c (.int .i64 0)), (some [0, 1, 5, 6])⟩]
abbrev k123_o3 : List AJ := [.o ⟨(some 8), none, false, .mv (.t 6), none⟩, .o ⟨(some 9), none, false, .mv (.t 0), none⟩, .o ⟨(some 10), none, false, .nilchk (.t 9), none⟩, .o ⟨(some 11), none, false, .fieldA 0 (.t 10), none⟩, .o ⟨(some 12), none, false, .load 1 false (.t 11), none⟩, .o ⟨(some 13), none, false, .len (.t 12), none⟩, .o ⟨(some 14), none, false, .bin .lss (.t 8) (.t 13), (some [0, 1, 5, 6, 14])⟩]
def k123_4 : ACode := .cond (.t 14) .skip (.exit 0)
def k123_5 : ACode := .seq (.region k123_o3) k123_4
abbrev k123_o4 : List AJ := [.o ⟨(some 17), none, false, .mv (.t 0), none⟩, .o ⟨(some 18), none, false, .nilchk (.t 17), none⟩, .o ⟨(some 19), none, false, .fieldA 0 (.t 18), none⟩, .o ⟨(some 20), none, false, .load 1 false (.t 19), none⟩, .o ⟨(some 21), none, false, .mv (.t 6), none⟩, .o ⟨(some 22), none, false, .idxA 1 (.t 20) (.t 21), none⟩, .o ⟨(some 23), none, false, .load 1 false (.t 22), none⟩, .o ⟨(some 24), none, false, .len (.t 23), none⟩, .o ⟨(some 25), none, false, .mv (.t 1), none⟩, .o ⟨(some 26), none, true, .bin .add (.t 25) (.c (.int .i64 1)), none⟩, .o ⟨(some 27), none, false, .bin .eql (.t 24) (.t 26), (some [0, 1, 5, 6, 27])⟩]
abbrev k123_o5 : List AJ := [.o ⟨(some 28), none, false, .mv (.t 5), none⟩, .o ⟨(some 29), none, false, .mv (.t 6), none⟩, .o ⟨(some 30), none, false, .bsl false 1 [(.t 29)], none⟩, .o ⟨(some 31), none, false, .append 1 8 (.t 28) (.t 30), none⟩, .o ⟨(some 5), none, false, .mv (.t 31), (some [0, 1, 5, 6])⟩]
def k123_7 : ACode := .region k123_o5
def k123_8 : ACode := .cond (.t 27) k123_7 .skip
def k123_9 : ACode := .seq (.region k123_o4) k123_8
abbrev k123_o6 : List AJ := [.o ⟨(some 15), none, false, .mv (.t 6), none⟩, .o ⟨(some 16), none, true, .bin .add (.t 15) (.c (.int .i64 1)), none⟩, .o ⟨(some 6), none, false, .mv (.t 16), (some [0, 1, 5, 6])⟩]
def k123_11 : ACode := .region k123_o6
def k123_12 : ACode := .seq (.block 1 k123_9) k123_11
def k123_13 : ACode := .seq k123_5 k123_12
def k123_14 : ACode := .loop k123_13
def k123_15 : ACode := .block 0 k123_14
def k123_16 : ACode := .seq (.region k123_o2) k123_15
abbrev k123_o7 : List AJ := [.o ⟨(some 32), none, false, .mv (.t 5), none⟩, .o ⟨(some 4), none, false, .mv (.t 32), (some [4])⟩]
def k123_18 : ACode := .seq (.region k123_o7) .ret
def k123_19 : ACode := .seq k123_16 k123_18
def k123_20 : ACode := .seq (.region k123_o1) k123_19
def k123_21 : ACode := .seq (.region k123_o0) k123_20
@[simp, simp ↓] theorem k123_4r : rC k123_4 (.t 14) .skip (.exit 0) := zC rfl
@[simp, simp ↓] theorem k123_5r : sR k123_5 k123_o3 k123_4 := yR rfl
@[simp, simp ↓] theorem k123_7r : rR k123_7 k123_o5 := zR rfl
@[simp, simp ↓] theorem k123_8r : rC k123_8 (.t 27) k123_7 .skip := zC rfl
@[simp, simp ↓] theorem k123_9r : sR k123_9 k123_o4 k123_8 := yR rfl
@[simp, simp ↓] theorem k123_11r : rR k123_11 k123_o6 := zR rfl
@[simp, simp ↓] theorem k123_12r : sB k123_12 1 k123_9 k123_11 := yB rfl
@[simp, simp ↓] theorem k123_13r : rS k123_13 k123_5 k123_12 := zS rfl
@[simp, simp ↓] theorem k123_14r : rL k123_14 k123_13 := zL rfl
@[simp, simp ↓] theorem k123_15r : rB k123_15 0 k123_14 := zB rfl
@[simp, simp ↓] theorem k123_16r : sR k123_16 k123_o2 k123_15 := yR rfl
@[simp, simp ↓] theorem k123_18r : sR k123_18 k123_o7 .ret := yR rfl
@[simp, simp ↓] theorem k123_19r : rS k123_19 k123_16 k123_18 := zS rfl
@[simp, simp ↓] theorem k123_20r : sR k123_20 k123_o1 k123_19 := yR rfl
@[simp, simp ↓] theorem k123_21r : sR k123_21 k123_o0 k123_20 := yR rfl
noncomputable abbrev k123_C : Orc → Cx := mkC Try.prog [7] 123 33 [.tmp 4]
theorem k123_of : OfP Try.prog Try.f123 123 33 k123_C k123_21 := @ofP _ _ _ _ _ _ _ _ Try.func123 (by decide +kernel) rfl (by kernel_rfl) rfl (by kernel_rfl)
theorem l05Of_s (rs : List (List Int)) (e : List AV) (d : Int) (h : Heap) (hl : ssTot rs ≤ 1048576) (hd : 0 ≤ d ∧ d ≤ 10) : ACalls Try.prog 123 [.ip (.snap 1 (rs.map il) :: e), .int .i64 d] h (fun v h' => v = .snap 1 ((edD rs d rs.length).map nvI) ∧ h' = h) := by
  have hf := fit_of_tot hl
  have hn := hf.1
  refine k123_of rfl noPure fun I => ?_
  refine Run2.of I 1000 ?_
  simp -implicitDefEqProofs
  refine Run2.loopE (α := Nat × AV × Heap) (fun p => [(0, .ip (.snap 1 (rs.map il) :: e)), (1, .int .i64 d), (5, p.2.1), (6, .int .i64 (p.1 : Nat))]) (fun p => p.2.2 ++ h) (fun p => rs.length - p.1) (fun p => p.1 ≤ rs.length ∧ Grow 1 p.2.1 ((edD rs d p.1).map nvI) p.2.2) (0, .emp, []) (by simp) rfl ⟨Nat.zero_le _, by simpa [edD] using Grow.emp⟩ ?_
  rintro ⟨i, w, hp⟩ ⟨hi, hg⟩ ih
  simp only at hi hg
  have hcell := hg.cell
  by_cases hlt : i < rs.length
  · have hel := edD_len rs d i
    by_cases h1 : (rs[i].length : Int) = d + 1
    · have go := fun w' hp' (g : Grow 1 w' ((edD rs d i).map nvI ++ [.int .i64 i]) hp') => ih (i + 1, w', hp') ⟨hlt, by
        simp only
        rw [edD_pos hlt h1, List.map_append]
        exact g⟩ (by simp; omega)
      clear ih
      refine Run2.of I 1000 ?_
      simp -implicitDefEqProofs [hlt, h1, hcell]
      refine ⟨by omega, hg.app (by simp; omega) (by simp) fun w' hp' hg' => ?_⟩
      have hcell' := hg'.cell
      have := go w' hp' hg'
      simp -implicitDefEqProofs [hcell']
      refine ⟨by omega, ?_⟩
      simpa using this
    · have go := ih (i + 1, w, hp) ⟨hlt, by simp only; rw [edD_neg hlt h1]; exact hg⟩ (by simp; omega)
      clear ih
      refine Run2.of I 1000 ?_
      simp -implicitDefEqProofs [hlt, h1, hcell]
      refine ⟨by omega, by omega, ?_⟩
      simpa using go
  · obtain rfl : i = rs.length := by omega
    refine Run2.of I 1000 ?_
    simp -implicitDefEqProofs [hlt, hcell]
    exact hg.froze (fun x => x) (fun _ _ _ => rfl) (fun _ _ h => h) (.base ⟨rfl, rfl⟩)
end Go.AG
