/- Parts: the reference's labels. No statement is made here. -/
import Derived.Test.YtamjnegnoijjlaaFxPc
namespace Go.AG
open Go.Proofs Go.Proofs.Ytamjnegnoijjlaa
set_option linter.unusedSimpArgs false
set_option linter.unusedVariables false
set_option maxRecDepth 4000
theorem vt_app (a b : List (List Int)) : vt (a ++ b) = vt a ++ vt b := by simp [vt]
theorem vt_all {l : List (List Int)} (h : ∀ r ∈ l, r.length = 1) : vt l = l.map fun r => r.getD 0 0 := by
  unfold vt
  rw [List.filter_eq_self.2 fun r hr => by simpa using h r hr]
theorem one_of {s : List Int} (h : s.length = 1) : s = [s.getD 0 0] := by
  match s, h with
  | [a], _ => rfl
theorem vt_at {rs : List (List Int)} (h : cxOk rs) {v : Int} (hv : v ∈ vt rs) : ∃ (k : Nat) (hk : k < (vt rs).length), ixS rs [v] = k ∧ (vt rs)[k] = v := by
  have hv0 := hv
  unfold vt at hv0
  obtain ⟨s, hs, rfl⟩ := List.mem_map.1 hv0
  obtain ⟨hs1, hs2⟩ := List.mem_filter.1 hs
  have hs3 : s.length = 1 := by simpa using hs2
  rw [← one_of hs3]
  obtain ⟨i, hi, he, hix⟩ := ixS_mem hs1
  have hlow : ∀ r ∈ rs.take (i + 1), r.length = 1 := by
    intro r hr
    obtain ⟨j, hj, rfl⟩ := List.mem_iff_getElem.1 hr
    rw [List.length_take] at hj
    rw [List.getElem_take]
    have hj1 : 1 ≤ rs[j].length := (h.mem (List.getElem_mem (by omega))).1.1.1
    rcases Nat.lt_or_ge j i with hji | hji
    · have h1 := h.sort.lt hji hi
      apply Classical.byContradiction
      intro hne
      have h2 := cmpS_short (a := rs[i]) (b := rs[j]) (by rw [he]; omega)
      rw [cmpS_total] at h1
      omega
    · obtain rfl : j = i := by omega
      rw [he]; exact hs3
  have e1 : vt rs = (rs.take (i + 1)).map (fun r => r.getD 0 0) ++ vt (rs.drop (i + 1)) := by
    conv => lhs; rw [← List.take_append_drop (i + 1) rs]
    rw [vt_app, vt_all hlow]
  have hl : i < (vt rs).length := by rw [e1]; simp; omega
  refine ⟨i, hl, hix, ?_⟩
  have : (vt rs)[i]? = some (s.getD 0 0) := by
    rw [e1, List.getElem?_append_left (by simp; omega)]
    simp [hi, he]
  rw [List.getElem?_eq_getElem hl] at this
  exact Option.some.inj this
theorem vt_nodup {rs : List (List Int)} (h : cxOk rs) : (vt rs).Nodup := by
  unfold vt
  rw [List.nodup_iff_pairwise_ne, List.pairwise_map]
  have hn := List.nodup_iff_pairwise_ne.1 h.sort.nodup
  refine List.Pairwise.imp_of_mem (fun {a b} ha hb hab e => hab ?_) (hn.filter _)
  have h1 : a.length = 1 := by simpa using (List.mem_filter.1 ha).2
  have h2 : b.length = 1 := by simpa using (List.mem_filter.1 hb).2
  rw [one_of h1, one_of h2, e]
theorem nodup_ix {l : List Int} (h : l.Nodup) {i k : Nat} (hi : i < l.length) (hk : k < l.length) (e : l[i] = l[k]) : i = k := by
  have hp := List.pairwise_iff_getElem.1 (List.nodup_iff_pairwise_ne.1 h)
  rcases Nat.lt_trichotomy i k with h1 | h1 | h1
  · exact absurd e (hp i k hi hk h1)
  · exact h1
  · exact absurd e.symm (hp k i hk hi h1)
theorem map_set2 {vs : List Int} (hn : vs.Nodup) (L : Int → Int) {a b : Nat} (ha : a < vs.length) (hb : b < vs.length) : ((vs.map L).set a (min (L vs[a]) (L vs[b]))).set b (min (L vs[a]) (L vs[b])) = vs.map (st1 L (vs[a], vs[b])) := by
  apply List.ext_getElem (by simp)
  intro i h1 h2
  have hi : i < vs.length := by simpa using h2
  simp only [List.getElem_set, List.getElem_map, st1]
  by_cases hib : b = i
  · subst hib; simp
  · by_cases hia : a = i
    · subst hia; simp
    · have e1 : ¬ vs[i] = vs[a] := fun e => hia (nodup_ix hn hi ha e).symm
      have e2 : ¬ vs[i] = vs[b] := fun e => hib (nodup_ix hn hi hb e).symm
      simp [hib, hia, e1, e2]
theorem vt_ed {rs : List (List Int)} : ∀ i, i ≤ rs.length → (edD rs 0 i).map (fun k => (rs.getD k []).getD 0 0) = vt (rs.take i)
  | 0, _ => by simp [edD, vt]
  | i + 1, hi => by
    have ih := vt_ed (rs := rs) i (by omega)
    have hlt : i < rs.length := by omega
    by_cases h : rs[i].length = 1
    · rw [edD_pos hlt (by omega), vt_pos hlt h, List.map_append, ih]
      simp [hlt]
    · rw [edD_neg hlt (by omega), vt_neg hlt h, ih]
abbrev k124_o0 : List AJ := [.o ⟨(some 4), none, false, .mv (.c (.int .i64 0)), (some [0, 1])⟩]
abbrev k124_o1 : List AJ := [.o ⟨(some 5), none, false, .mv (.t 0), none⟩, .o ⟨(some 6), none, false, .mv (.t 1), none⟩, .o ⟨(some 7), none, false, .bin .lss (.t 5) (.t 6), (some [0, 1, 7])⟩]
abbrev k124_o2 : List AJ := [.o ⟨(some 8), none, false, .mv (.t 0), none⟩, .o ⟨(some 4), none, false, .mv (.t 8), (some [4])⟩]
def k124_3 : ACode := .seq (.region k124_o2) .ret
def k124_4 : ACode := .cond (.t 7) k124_3 .skip
def k124_5 : ACode := .seq (.region k124_o1) k124_4
abbrev k124_o3 : List AJ := [.o ⟨(some 9), none, false, .mv (.t 1), none⟩, .o ⟨(some 4), none, false, .mv (.t 9), (some [4])⟩]
def k124_7 : ACode := .seq (.region k124_o3) .ret
def k124_8 : ACode := .seq k124_5 k124_7
def k124_9 : ACode := .seq (.region k124_o0) k124_8
@[simp, simp ↓] theorem k124_3r : sR k124_3 k124_o2 .ret := yR rfl
@[simp, simp ↓] theorem k124_4r : rC k124_4 (.t 7) k124_3 .skip := zC rfl
@[simp, simp ↓] theorem k124_5r : sR k124_5 k124_o1 k124_4 := yR rfl
@[simp, simp ↓] theorem k124_7r : sR k124_7 k124_o3 .ret := yR rfl
@[simp, simp ↓] theorem k124_8r : rS k124_8 k124_5 k124_7 := zS rfl
@[simp, simp ↓] theorem k124_9r : sR k124_9 k124_o0 k124_8 := yR rfl
noncomputable abbrev k124_C : Orc → Cx := mkC Try.prog [] 124 10 [.tmp 4]
theorem k124_of0 : OfP0 Try.prog Try.f124 124 10 k124_C k124_9 := @ofP0 _ _ _ _ _ _ _ _ Try.func124 (by decide +kernel) rfl (by kernel_rfl) rfl (by kernel_rfl)
theorem l00Min_c (a b : Int) (h : Heap) : ACalls Try.prog 124 [.int .i64 a, .int .i64 b] h (fun v h' => v = .int .i64 (min a b) ∧ h' = h) := by
  refine k124_of0 rfl noPure fun I => ?_
  refine Run2.of I 1000 ?_
  simp -implicitDefEqProofs
  omega
noncomputable def o_l00Min : List AV → Option (Prop × AV) := tab (fun (x : Int × Int) => match x with | (a, b) => [.int .i64 a, .int .i64 b]) (fun x => match x with | (a, b) => True) (fun x => match x with | (a, b) => .int .i64 (min a b))
@[simp] theorem o_l00Min_e (a : Int) (b : Int) : o_l00Min [.int .i64 a, .int .i64 b] = some (True, .int .i64 (min a b)) := tab_at (enc := fun (x : Int × Int) => match x with | (a, b) => [.int .i64 a, .int .i64 b]) (fun x y h => by
  obtain ⟨a1, b1⟩ := x; obtain ⟨a2, b2⟩ := y; simp at h; simp [h] <;> omega) _ _ (a, b)
theorem o_l00Min_k : Knows Try.prog 124 o_l00Min := tab_knows fun x hx h => by
  obtain ⟨a, b⟩ := x; exact l00Min_c _ _ h
noncomputable def o_l05Of : List AV → Option (Prop × AV) := tab (fun (x : LS × List AV × Int) => match x with | (rs, e, d) => [.ip (.snap 1 (rs.map il) :: e), .int .i64 d]) (fun x => match x with | (rs, e, d) => (ssTot rs ≤ 1048576 ∧ 0 ≤ d ∧ d ≤ 10)) (fun x => match x with | (rs, e, d) => .snap 1 ((edD rs d rs.length).map nvI))
@[simp] theorem o_l05Of_e (rs : LS) (e : List AV) (d : Int) : o_l05Of [.ip (.snap 1 (rs.map il) :: e), .int .i64 d] = some ((ssTot rs ≤ 1048576 ∧ 0 ≤ d ∧ d ≤ 10), .snap 1 ((edD rs d rs.length).map nvI)) := tab_at (enc := fun (x : LS × List AV × Int) => match x with | (rs, e, d) => [.ip (.snap 1 (rs.map il) :: e), .int .i64 d]) (fun x y h => by
  obtain ⟨rs1, e1, d1⟩ := x; obtain ⟨rs2, e2, d2⟩ := y; simp at h; simp [h] <;> omega) _ _ (rs, e, d)
theorem o_l05Of_k : Knows Try.prog 123 o_l05Of := tab_knows fun x hx h => by
  obtain ⟨rs, e, d⟩ := x; exact l05Of_s rs e d h hx.1 hx.2
@[simp] theorem o_l05Find_1 (rs : LS) (e : List AV) (x : Int) : o_l05Find [.ip (.snap 1 (rs.map il) :: e), .snap 1 [.int .i64 x]] = some (ssTot rs ≤ 1048576, .int .i64 (ixS rs [x])) := by simpa using o_l05Find_e rs e [x]
noncomputable def orcPd : List (Nat × (List AV → Option (Prop × AV))) := (123, o_l05Of) :: (73, o_l05Find) :: (124, o_l00Min) :: []
theorem orcPd_p : Pure Try.prog (lk orcPd) := (lk_pure o_l05Of_k (lk_pure o_l05Find_k (lk_pure o_l00Min_k lk_pure0)))
@[simp] theorem orcPd_l (b : Bool) (g : FuncId) (l : List AV) : lk orcPd b g l = if g = 123 then o_l05Of l else if g = 73 then o_l05Find l else if g = 124 then o_l00Min l else none := nr rfl
abbrev k83_o0 : List AJ := [.o ⟨(some 2), none, false, .mv (.c .nilsl), (some [0])⟩]
abbrev k83_o1 : List AJ := [.o ⟨(some 13), none, false, .mv (.t 0), none⟩, .o ⟨(some 14), none, false, .call 123 [(.t 13), (.c (.int .i64 0))], none⟩, .o ⟨(some 3), none, false, .mv (.t 14), (some [0, 3])⟩]
abbrev k83_o2 : List AJ := [.e 15 1 none, .o ⟨(some 4), none, false, .mv (.t 15), (some [0, 3, 4])⟩]
abbrev k83_o3 : List AJ := [.o ⟨(some 5), none, false, .mv (.c (.int .i64 0)), (some [0, 3, 4, 5])⟩]
abbrev k83_o4 : List AJ := [.o ⟨(some 16), none, false, .mv (.t 5), none⟩, .o ⟨(some 17), none, false, .mv (.t 3), none⟩, .o ⟨(some 18), none, false, .len (.t 17), none⟩, .o ⟨(some 19), none, false, .bin .lss (.t 16) (.t 18), (some [0, 3, 4, 5, 19])⟩]
def k83_5 : ACode := .cond (.t 19) .skip (.exit 0)
def k83_6 : ACode := .seq (.region k83_o4) k83_5
abbrev k83_o5 : List AI := [⟨(some 22), none, false, .mv (.t 4), none⟩, ⟨(some 23), none, false, .mv (.t 0), none⟩, ⟨(some 24), none, false, .nilchk (.t 23), none⟩, ⟨(some 25), none, false, .fieldA 0 (.t 24), none⟩, ⟨(some 26), none, false, .load 1 false (.t 25), none⟩, ⟨(some 27), none, false, .mv (.t 3), none⟩, ⟨(some 28), none, false, .mv (.t 5), none⟩, ⟨(some 29), none, false, .idxA 1 (.t 27) (.t 28), none⟩, ⟨(some 30), none, false, .load 1 false (.t 29), none⟩, ⟨(some 31), none, false, .idxA 1 (.t 26) (.t 30), none⟩, ⟨(some 32), none, false, .load 1 false (.t 31), none⟩, ⟨(some 33), none, false, .idxA 1 (.t 32) (.c (.int .i64 0)), none⟩, ⟨(some 34), none, false, .load 1 false (.t 33), none⟩, ⟨(some 35), none, false, .bsl false 1 [(.t 34)], (some [0, 3, 5, 22, 35])⟩]
abbrev k83_o6 : List AJ := [.o ⟨(some 36), none, false, .append 1 8 (.t 22) (.t 35), none⟩, .o ⟨(some 4), none, false, .mv (.t 36), (some [0, 3, 4, 5])⟩]
def k83_7 : ACode := .draw k83_o5 k83_o6 rfl
abbrev k83_o7 : List AJ := [.o ⟨(some 20), none, false, .mv (.t 5), none⟩, .o ⟨(some 21), none, true, .bin .add (.t 20) (.c (.int .i64 1)), none⟩, .o ⟨(some 5), none, false, .mv (.t 21), (some [0, 3, 4, 5])⟩]
def k83_9 : ACode := .region k83_o7
def k83_10 : ACode := .seq (.block 1 k83_7) k83_9
def k83_11 : ACode := .seq k83_6 k83_10
def k83_12 : ACode := .loop k83_11
def k83_13 : ACode := .block 0 k83_12
def k83_14 : ACode := .seq (.region k83_o3) k83_13
abbrev k83_o8 : List AJ := [.o ⟨(some 37), none, false, .mv (.t 0), none⟩, .o ⟨(some 38), none, false, .call 123 [(.t 37), (.c (.int .i64 1))], none⟩, .o ⟨(some 6), none, false, .mv (.t 38), (some [0, 4, 6])⟩]
abbrev k83_o9 : List AJ := [.o ⟨(some 7), none, false, .mv (.c (.int .i64 0)), (some [0, 4, 6, 7])⟩]
abbrev k83_o10 : List AJ := [.o ⟨(some 39), none, false, .mv (.t 7), none⟩, .o ⟨(some 40), none, false, .mv (.t 4), none⟩, .o ⟨(some 41), none, false, .len (.t 40), none⟩, .o ⟨(some 42), none, false, .bin .lss (.t 39) (.t 41), (some [0, 4, 6, 7, 42])⟩]
def k83_18 : ACode := .cond (.t 42) .skip (.exit 2)
def k83_19 : ACode := .seq (.region k83_o10) k83_18
abbrev k83_o11 : List AJ := [.o ⟨(some 8), none, false, .mv (.c (.int .i64 0)), (some [0, 4, 6, 7, 8])⟩]
abbrev k83_o12 : List AJ := [.o ⟨(some 45), none, false, .mv (.t 8), none⟩, .o ⟨(some 46), none, false, .mv (.t 6), none⟩, .o ⟨(some 47), none, false, .len (.t 46), none⟩, .o ⟨(some 48), none, false, .bin .lss (.t 45) (.t 47), (some [0, 4, 6, 7, 8, 48])⟩]
def k83_22 : ACode := .cond (.t 48) .skip (.exit 4)
def k83_23 : ACode := .seq (.region k83_o12) k83_22
abbrev k83_o13 : List AI := [⟨(some 51), none, false, .mv (.t 0), none⟩, ⟨(some 52), none, false, .nilchk (.t 51), none⟩, ⟨(some 53), none, false, .fieldA 0 (.t 52), none⟩, ⟨(some 54), none, false, .load 1 false (.t 53), none⟩, ⟨(some 55), none, false, .mv (.t 6), none⟩, ⟨(some 56), none, false, .mv (.t 8), none⟩, ⟨(some 57), none, false, .idxA 1 (.t 55) (.t 56), none⟩, ⟨(some 58), none, false, .load 1 false (.t 57), none⟩, ⟨(some 59), none, false, .idxA 1 (.t 54) (.t 58), none⟩, ⟨(some 60), none, false, .load 1 false (.t 59), none⟩, ⟨(some 9), none, false, .mv (.t 60), (some [0, 4, 6, 7, 8, 9])⟩]
abbrev k83_o14 : List AJ := [.o ⟨(some 61), none, false, .mv (.t 0), none⟩, .o ⟨(some 62), none, false, .mv (.t 9), none⟩, .o ⟨(some 63), none, false, .slice 1 (.t 62) none (some (.c (.int .i64 1))) none, none⟩, .o ⟨(some 64), none, false, .call 73 [(.t 61), (.t 63)], none⟩, .o ⟨(some 10), none, false, .mv (.t 64), (some [0, 4, 6, 7, 8, 9, 10])⟩]
abbrev k83_o15 : List AJ := [.o ⟨(some 65), none, false, .mv (.t 0), none⟩, .o ⟨(some 66), none, false, .mv (.t 9), none⟩, .o ⟨(some 67), none, false, .slice 1 (.t 66) (some (.c (.int .i64 1))) none none, none⟩, .o ⟨(some 68), none, false, .call 73 [(.t 65), (.t 67)], none⟩, .o ⟨(some 11), none, false, .mv (.t 68), (some [0, 4, 6, 7, 8, 10, 11])⟩]
abbrev k83_o16 : List AI := [⟨(some 69), none, false, .mv (.t 4), none⟩, ⟨(some 70), none, false, .mv (.t 10), none⟩, ⟨(some 71), none, false, .idxA 1 (.t 69) (.t 70), none⟩, ⟨(some 72), none, false, .load 1 false (.t 71), none⟩, ⟨(some 73), none, false, .mv (.t 4), none⟩, ⟨(some 74), none, false, .mv (.t 11), none⟩, ⟨(some 75), none, false, .idxA 1 (.t 73) (.t 74), none⟩, ⟨(some 76), none, false, .load 1 false (.t 75), none⟩, ⟨(some 77), none, false, .call 124 [(.t 72), (.t 76)], none⟩, ⟨(some 12), none, false, .mv (.t 77), (some [0, 4, 6, 7, 8, 10, 11, 12])⟩]
abbrev k83_o17 : List AJ := [.o ⟨(some 78), none, false, .mv (.t 4), none⟩, .o ⟨(some 79), none, false, .mv (.t 10), none⟩, .o ⟨(some 80), none, false, .mv (.t 12), none⟩, .o ⟨(some 81), none, false, .idxA 1 (.t 78) (.t 79), none⟩, .o ⟨none, none, false, .store 1 (.t 81) (.t 80), (some [0, 4, 6, 7, 8, 11, 12])⟩]
abbrev k83_o18 : List AJ := [.o ⟨(some 82), none, false, .mv (.t 4), none⟩, .o ⟨(some 83), none, false, .mv (.t 11), none⟩, .o ⟨(some 84), none, false, .mv (.t 12), none⟩, .o ⟨(some 85), none, false, .idxA 1 (.t 82) (.t 83), none⟩, .o ⟨none, none, false, .store 1 (.t 85) (.t 84), (some [0, 4, 6, 7, 8])⟩]
def k83_29 : ACode := .region k83_o18
def k83_30 : ACode := .seq (.region k83_o17) k83_29
def k83_31 : ACode := .seq (.draw k83_o16 [] rfl) k83_30
def k83_32 : ACode := .seq (.region k83_o15) k83_31
def k83_33 : ACode := .seq (.region k83_o14) k83_32
def k83_34 : ACode := .seq (.draw k83_o13 [] rfl) k83_33
abbrev k83_o19 : List AJ := [.o ⟨(some 49), none, false, .mv (.t 8), none⟩, .o ⟨(some 50), none, true, .bin .add (.t 49) (.c (.int .i64 1)), none⟩, .o ⟨(some 8), none, false, .mv (.t 50), (some [0, 4, 6, 7, 8])⟩]
def k83_36 : ACode := .region k83_o19
def k83_37 : ACode := .seq (.block 5 k83_34) k83_36
def k83_38 : ACode := .seq k83_23 k83_37
def k83_39 : ACode := .loop k83_38
def k83_40 : ACode := .block 4 k83_39
def k83_41 : ACode := .seq (.region k83_o11) k83_40
abbrev k83_o20 : List AJ := [.o ⟨(some 43), none, false, .mv (.t 7), none⟩, .o ⟨(some 44), none, true, .bin .add (.t 43) (.c (.int .i64 1)), none⟩, .o ⟨(some 7), none, false, .mv (.t 44), (some [0, 4, 6, 7])⟩]
def k83_43 : ACode := .region k83_o20
def k83_44 : ACode := .seq (.block 3 k83_41) k83_43
def k83_45 : ACode := .seq k83_19 k83_44
def k83_46 : ACode := .loop k83_45
def k83_47 : ACode := .block 2 k83_46
def k83_48 : ACode := .seq (.region k83_o9) k83_47
abbrev k83_o21 : List AJ := [.o ⟨(some 86), none, false, .mv (.t 4), none⟩, .o ⟨(some 2), none, false, .mv (.t 86), (some [2])⟩]
def k83_50 : ACode := .seq (.region k83_o21) .ret
def k83_51 : ACode := .seq k83_48 k83_50
def k83_52 : ACode := .seq (.region k83_o8) k83_51
def k83_53 : ACode := .seq k83_14 k83_52
def k83_54 : ACode := .seq (.region k83_o2) k83_53
def k83_55 : ACode := .seq (.region k83_o1) k83_54
def k83_56 : ACode := .seq (.region k83_o0) k83_55
@[simp, simp ↓] theorem k83_5r : rC k83_5 (.t 19) .skip (.exit 0) := zC rfl
@[simp, simp ↓] theorem k83_6r : sR k83_6 k83_o4 k83_5 := yR rfl
@[simp, simp ↓] theorem k83_7r : rD k83_7 k83_o5 k83_o6 := zD rfl
@[simp, simp ↓] theorem k83_9r : rR k83_9 k83_o7 := zR rfl
@[simp, simp ↓] theorem k83_10r : sB k83_10 1 k83_7 k83_9 := yB rfl
@[simp, simp ↓] theorem k83_11r : rS k83_11 k83_6 k83_10 := zS rfl
@[simp, simp ↓] theorem k83_12r : rL k83_12 k83_11 := zL rfl
@[simp, simp ↓] theorem k83_13r : rB k83_13 0 k83_12 := zB rfl
@[simp, simp ↓] theorem k83_14r : sR k83_14 k83_o3 k83_13 := yR rfl
@[simp, simp ↓] theorem k83_18r : rC k83_18 (.t 42) .skip (.exit 2) := zC rfl
@[simp, simp ↓] theorem k83_19r : sR k83_19 k83_o10 k83_18 := yR rfl
@[simp, simp ↓] theorem k83_22r : rC k83_22 (.t 48) .skip (.exit 4) := zC rfl
@[simp, simp ↓] theorem k83_23r : sR k83_23 k83_o12 k83_22 := yR rfl
@[simp, simp ↓] theorem k83_29r : rR k83_29 k83_o18 := zR rfl
@[simp, simp ↓] theorem k83_30r : sR k83_30 k83_o17 k83_29 := yR rfl
@[simp, simp ↓] theorem k83_31r : sD k83_31 k83_o16 [] k83_30 := yD rfl
@[simp, simp ↓] theorem k83_32r : sR k83_32 k83_o15 k83_31 := yR rfl
@[simp, simp ↓] theorem k83_33r : sR k83_33 k83_o14 k83_32 := yR rfl
@[simp, simp ↓] theorem k83_34r : sD k83_34 k83_o13 [] k83_33 := yD rfl
@[simp, simp ↓] theorem k83_36r : rR k83_36 k83_o19 := zR rfl
@[simp, simp ↓] theorem k83_37r : sB k83_37 5 k83_34 k83_36 := yB rfl
@[simp, simp ↓] theorem k83_38r : rS k83_38 k83_23 k83_37 := zS rfl
@[simp, simp ↓] theorem k83_39r : rL k83_39 k83_38 := zL rfl
@[simp, simp ↓] theorem k83_40r : rB k83_40 4 k83_39 := zB rfl
@[simp, simp ↓] theorem k83_41r : sR k83_41 k83_o11 k83_40 := yR rfl
@[simp, simp ↓] theorem k83_43r : rR k83_43 k83_o20 := zR rfl
@[simp, simp ↓] theorem k83_44r : sB k83_44 3 k83_41 k83_43 := yB rfl
@[simp, simp ↓] theorem k83_45r : rS k83_45 k83_19 k83_44 := zS rfl
@[simp, simp ↓] theorem k83_46r : rL k83_46 k83_45 := zL rfl
@[simp, simp ↓] theorem k83_47r : rB k83_47 2 k83_46 := zB rfl
@[simp, simp ↓] theorem k83_48r : sR k83_48 k83_o9 k83_47 := yR rfl
@[simp, simp ↓] theorem k83_50r : sR k83_50 k83_o21 .ret := yR rfl
@[simp, simp ↓] theorem k83_51r : rS k83_51 k83_48 k83_50 := zS rfl
@[simp, simp ↓] theorem k83_52r : sR k83_52 k83_o8 k83_51 := yR rfl
@[simp, simp ↓] theorem k83_53r : rS k83_53 k83_14 k83_52 := zS rfl
@[simp, simp ↓] theorem k83_54r : sR k83_54 k83_o2 k83_53 := yR rfl
@[simp, simp ↓] theorem k83_55r : sR k83_55 k83_o1 k83_54 := yR rfl
@[simp, simp ↓] theorem k83_56r : sR k83_56 k83_o0 k83_55 := yR rfl
noncomputable abbrev k83_C : Orc → Cx := mkC Try.prog [15] 83 87 [.tmp 2]
theorem k83_of : OfP Try.prog Try.f83 83 87 k83_C k83_56 := @ofP _ _ _ _ _ _ _ _ Try.func83 (by decide +kernel) rfl (by kernel_rfl) rfl (by kernel_rfl)
theorem l05Parts_s (rs : List (List Int)) (e : List AV) (h : Heap) (hl : ssTot rs ≤ 1048576) (hc : cxOk rs) : ACalls Try.prog 83 [.ip (.snap 1 (rs.map il) :: e)] h (fun v h' => v = .snap 1 (((vt rs).map (part1 rs)).map iv) ∧ h' = h) := by
  have hf := fit_of_tot hl
  have hn := hf.1
  refine k83_of rfl orcPd_p fun I => ?_
  refine Run2.of I 1000 ?_
  simp -implicitDefEqProofs [hl]
  have hel0 := edD_len rs 0 rs.length
  have hve := vt_ed (rs := rs) rs.length (Nat.le_refl _)
  rw [List.take_length] at hve
  refine Run2.loopE (α := Nat × AV × Heap) (fun p => [(0, .ip (.snap 1 (rs.map il) :: e)), (3, .snap 1 ((edD rs 0 rs.length).map nvI)), (4, p.2.1), (5, .int .i64 (p.1 : Nat))]) (fun p => p.2.2 ++ h) (fun p => (edD rs 0 rs.length).length - p.1) (fun p => p.1 ≤ (edD rs 0 rs.length).length ∧ Grow 1 p.2.1 ((((edD rs 0 rs.length).take p.1).map fun k => (rs.getD k []).getD 0 0).map iv) p.2.2) (0, .emp, []) (by simp) rfl ⟨Nat.zero_le _, by simpa using Grow.emp⟩ ?_
  rintro ⟨i, w, hp⟩ ⟨hi, hg⟩ ih
  simp only at hi hg
  have hcell := hg.cell
  by_cases hlt : i < (edD rs 0 rs.length).length
  · obtain ⟨hkl, hk1⟩ := edD_mem (List.getElem_mem hlt)
    have go := fun w' hp' => ih (i + 1, w', hp')
    simp only [List.take_succ_eq_append_getElem hlt, List.map_append] at go
    have hnv : ∀ n, nvI n = .int .i64 n := fun _ => rfl
    have hk0 : 0 < (rs[(edD rs 0 rs.length)[i]]'hkl).length := by omega
    clear ih hve
    generalize hke : (edD rs 0 rs.length)[i] = k at *
    generalize edD rs 0 rs.length = E at *
    refine Run2.of I 1000 ?_
    simp -implicitDefEqProofs [hlt, hcell, hke, hnv, hkl, hk0]
    refine hg.app (by simp; omega) (by simp) fun w2 hp2 hg2 => ?_
    have hcell2 := hg2.cell
    have := go w2 hp2 ⟨hlt, by simpa [hkl, hk0] using hg2⟩ (by omega)
    simp -implicitDefEqProofs [hcell2]
    exact ⟨by omega, by simpa using this⟩
  · obtain rfl : i = (edD rs 0 rs.length).length := by omega
    rw [List.take_length, hve] at hg
    clear ih hi hlt
    refine Run2.of I 1000 ?_
    simp -implicitDefEqProofs [hl]
    have og : OwnL iv 1 w (vt rs) hp := hg.own
    have hnd := vt_nodup hc
    have hvl := vt_len rs
    have hvat := fun v => vt_at (v := v) hc
    have done : ∀ (w : AV) (g : Heap), OwnL iv 1 w ((vt rs).map (part1 rs)) g → Post (fun v h' => v = .snap 1 ((vt rs).map (iv ∘ part1 rs)) ∧ h' = h) w (g ++ h) := by
      intro w g o
      refine Post.lend ?_
      exact .wk o.lent.wk (.base ⟨by simp, rfl⟩)
    rcases og.split with ⟨hw, hnil, rfl⟩ | ⟨id, cap, ex, rfl, rfl, hex⟩
    · have := done w [] (by rw [hnil]; exact hw.elim (fun e => e ▸ OwnL.nil) (fun e => e ▸ OwnL.emp))
      have hll : lenR w = .val (.int .i64 0) := by rcases hw with rfl | rfl <;> simp
      refine Run2.loopE (fun (_ : Unit) => [(0, .ip (.snap 1 (rs.map il) :: e)), (4, w), (6, .snap 1 ((edD rs 1 rs.length).map nvI)), (7, .int .i64 0)]) (fun _ => [] ++ h) (fun _ => 0) (fun _ => True) () (by simp) rfl trivial fun _ _ _ => ?_
      refine Run2.of I 1000 ?_
      simp -implicitDefEqProofs [hll, hcell]
      simpa using this
    · have hp1 : part1 rs = itR (edges rs) (vt rs).length _root_.id := rfl
      refine Run2.loopE (fun (r : Nat) => [(0, .ip (.snap 1 (rs.map il) :: e)), (4, .sl id 1 0 (vt rs).length cap), (6, .snap 1 ((edD rs 1 rs.length).map nvI)), (7, .int .i64 r)]) (fun r => (id, ⟨1, ((vt rs).map (itR (edges rs) r _root_.id)).map iv ++ ex⟩) :: h) (fun r => (vt rs).length - r) (fun r => r ≤ (vt rs).length) 0 (by simp) (by simp [itR]) (Nat.zero_le _) fun r hr ih => ?_
      by_cases hrl : r < (vt rs).length
      · have go := ih (r + 1) hrl (by omega)
        rw [itR_succ] at go
        clear ih
        generalize itR (edges rs) r _root_.id = L at *
        have hel := edD_len rs 1 rs.length
        have heL := edges_len rs
        refine Run2.of I 1000 ?_
        simp -implicitDefEqProofs [hrl]
        refine Run2.loopE (fun (j : Nat) => [(0, .ip (.snap 1 (rs.map il) :: e)), (4, .sl id 1 0 (vt rs).length cap), (6, .snap 1 ((edD rs 1 rs.length).map nvI)), (7, .int .i64 r), (8, .int .i64 j)]) (fun j => (id, ⟨1, ((vt rs).map (rnd ((edges rs).take j) L)).map iv ++ ex⟩) :: h) (fun j => (edD rs 1 rs.length).length - j) (fun j => j ≤ (edD rs 1 rs.length).length) 0 (by simp) (by simp [rnd]) (Nat.zero_le _) fun j hj ih => ?_
        by_cases hlt : j < (edD rs 1 rs.length).length
        · clear go
          obtain ⟨a, b, hkl, hrk, hab, hb, hedge, hxa, hxb⟩ := edge_at hc (List.getElem_mem hlt)
          obtain ⟨p, hpl, hpx, hpv⟩ := hvat _ hxa
          obtain ⟨q, hql, hqx, hqv⟩ := hvat _ hxb
          have hsnoc := rnd_snoc (edges rs) (j := j) (by omega) L
          rw [edges_get rs (by omega) hlt, hedge] at hsnoc
          have go := ih (j + 1) hlt (by omega)
          rw [hsnoc] at go
          clear ih hsnoc
          generalize rnd ((edges rs).take j) L = M at *
          generalize hke : (edD rs 1 rs.length)[j] = k at *
          generalize edD rs 1 rs.length = E at *
          have hset := map_set2 hnd M hpl hql
          rw [hpv, hqv] at hset
          rw [← hset] at go
          have hnv : ∀ n, nvI n = .int .i64 n := fun _ => rfl
          clear hve done og hvat hp1
          refine Run2.of I 1000 ?_
          have hga : (List.map (iv ∘ M) (vt rs) ++ ex)[p]? = some (.int .i64 (M a)) := by
            rw [List.getElem?_append_left (by simpa using hpl)]; simp [hpl, hpv]
          have hgb : (List.map (iv ∘ M) (vt rs) ++ ex)[q]? = some (.int .i64 (M b)) := by
            rw [List.getElem?_append_left (by simpa using hql)]; simp [hql, hqv]
          have hpl2 : p < (vt rs).length + ex.length := by omega
          have hql2 : q < (vt rs).length + ex.length := by omega
          simp -implicitDefEqProofs [hl, hlt, hke, hnv, hkl, hrk, hpx, hqx, hpl, hql, hpv, hqv, hga, hgb, hpl2, hql2]
          exact ⟨by omega, by simpa [List.map_set] using go⟩
        · have hjl : j = (edD rs 1 rs.length).length := by omega
          rw [hjl, ← heL, List.take_length]
          clear ih
          generalize rnd (edges rs) L = M at *
          simp only [heL]
          refine Run2.of I 1000 ?_
          simp -implicitDefEqProofs [hl]
          exact ⟨by omega, by simpa using go⟩
      · obtain rfl : r = (vt rs).length := by omega
        have := done (.sl id 1 0 (vt rs).length cap) [(id, ⟨1, ((vt rs).map (part1 rs)).map iv ++ ex⟩)] (by have := OwnL.sl (enc := iv) (sz := 1) (l := (vt rs).map (part1 rs)) id cap ex hex; simpa using this)
        rw [← hp1]
        refine Run2.of I 1000 ?_
        simp -implicitDefEqProofs [hrl]
        simpa using this
end Go.AG
