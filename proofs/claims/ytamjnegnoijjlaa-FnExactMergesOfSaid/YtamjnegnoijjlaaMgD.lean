/- Merges of parts: the reference. No statement is made here. -/
import Derived.Test.YtamjnegnoijjlaaMgC
namespace Go.AG
open Go.Proofs Go.Proofs.Ytamjnegnoijjlaa
set_option linter.unusedSimpArgs false
set_option linter.unusedVariables false
set_option maxRecDepth 4000
theorem told_e {vs : List Int} {L : Int → Int} {id : Nat} {v : Int} (H : Heap) (hm : (id, (⟨1, (vs.map L).map iv⟩ : Blk)) ∈ H) (hv : v ∈ vs) (hl : vs.length ≤ 1048576) : ACalls Try.prog 79 [.snap 1 (vs.map iv), .sl id 1 0 vs.length none, .int .i64 v] H (fun r h' => r = .int .i64 (L v) ∧ h' = H) := by
  have hlen : (vs.map L).length = vs.length := by simp
  obtain ⟨k, hk, hx, e1, e2, e3⟩ := vl_at hlen hv
  have hL : vl vs (vs.map L) v = L v := by rw [← e3, List.getElem_map, e2]
  have c := l08Told_s vs (vs.map L) v [] hlen hv (by omega)
  rw [hL] at c
  refine ACalls.reads [(id, ⟨1, (vs.map L).map iv⟩)] (fun p hp => by rw [List.mem_singleton] at hp; subst hp; exact hm) ?_ rfl
  have e : List.take vs.length (List.map (iv ∘ L) vs) = List.map (iv ∘ L) vs := List.take_of_length_le (by simp)
  simpa [lend, lend1, fz, fzs, e] using c
theorem told_t {vs ts : List Int} {rs : List (List Int)} {v : Int} (H : Heap) (hc : cxOk rs) (hts : ts.length = rs.length) (hvs : vt rs = vs) (hv : v ∈ vs) (hl : vs.length ≤ 1048576) : ACalls Try.prog 79 [.snap 1 (vs.map iv), .snap 1 (List.take vs.length (ts.map iv)), .int .i64 v] H (fun r h' => r = .int .i64 (bornF rs ts v) ∧ h' = H) := by
  subst hvs
  have hvl := vt_len rs
  have hlen : (ts.take (vt rs).length).length = (vt rs).length := by rw [List.length_take]; omega
  have c := l08Told_s (vt rs) (ts.take (vt rs).length) v H hlen hv (by omega)
  rw [born_vl hc hts hv, List.map_take] at c
  exact c
theorem vt_nil {rs : List (List Int)} (hc : cxOk rs) (h : vt rs = []) : rs = [] := by
  cases rs with
  | nil => rfl
  | cons s rs =>
    have h1 := (hc.mem (List.mem_cons_self (a := s) (l := rs))).1.1.1
    have h2 := vt_in hc _ s rfl (List.mem_cons_self ..) (s[0]'(by omega)) (List.getElem_mem _)
    rw [h] at h2
    simp at h2
def is2 (rs : List (List Int)) (k : Int) : Bool := decide (((rs.getD k.toNat []).length : Int) = 2)
theorem mg_skip {rs : List (List Int)} (ts : List Int) {O : List Int} {i : Nat} (hi : i < O.length) : (is2 rs O[i] = true → mgF rs ts ((O.take (i + 1)).filter (is2 rs)) = mg1 rs ts (mgF rs ts ((O.take i).filter (is2 rs))) O[i]) ∧ (is2 rs O[i] = false → mgF rs ts ((O.take (i + 1)).filter (is2 rs)) = mgF rs ts ((O.take i).filter (is2 rs))) := by
  rw [List.take_succ_eq_append_getElem hi, List.filter_append]
  constructor
  · intro h
    rw [List.filter_cons_of_pos h, List.filter_nil, mgF_snoc]
  · intro h
    rw [List.filter_cons_of_neg (by rw [h]; simp), List.filter_nil, List.append_nil]
noncomputable def orcMg2 : List (Nat × (List AV → Option (Prop × AV))) := (53, o_l21Ok) :: (77, o_l08Vtx) :: (85, o_l21Order) :: []
theorem orcMg2_p : Pure Try.prog (lk orcMg2) := (lk_pure o_l21Ok_k (lk_pure o_l08Vtx_k (lk_pure o_l21Order_k lk_pure0)))
@[simp] theorem orcMg2_l (b : Bool) (g : FuncId) (l : List AV) : lk orcMg2 b g l = if g = 53 then o_l21Ok l else if g = 77 then o_l08Vtx l else if g = 85 then o_l21Order l else none := nr rfl
abbrev k43_o0 : List AJ := [.o ⟨(some 1), none, false, .box false 2 (.t 0), none⟩, .o ⟨(some 2), none, false, .mv (.c .nilsl), none⟩, .o ⟨(some 3), none, false, .mv (.c (.int .i64 0)), (some [1])⟩]
abbrev k43_o1 : List AJ := [.o ⟨(some 16), none, false, .call 53 [(.t 1)], none⟩, .o ⟨(some 17), none, false, .un .not (.t 16), (some [1, 17])⟩]
abbrev k43_o2 : List AJ := [.o ⟨(some 2), none, false, .mv (.c .nilsl), none⟩, .o ⟨(some 3), none, false, .mv (.c (.int .i64 1)), (some [2, 3])⟩]
def k43_3 : ACode := .seq (.region k43_o2) .ret
def k43_4 : ACode := .cond (.t 17) k43_3 .skip
def k43_5 : ACode := .seq (.region k43_o1) k43_4
abbrev k43_o3 : List AJ := [.o ⟨(some 18), none, false, .fieldA 0 (.t 1), none⟩, .o ⟨(some 19), none, false, .call 77 [(.t 18)], none⟩, .o ⟨(some 4), none, false, .mv (.t 19), (some [1, 4])⟩]
abbrev k43_o4 : List AJ := [.o ⟨(some 20), none, false, .mv (.t 4), none⟩, .o ⟨(some 21), none, false, .call 89 [(.t 20)], none⟩, .o ⟨(some 5), none, false, .mv (.t 21), (some [1, 4, 5])⟩]
abbrev k43_o5 : List AJ := [.o ⟨(some 22), none, false, .call 85 [(.t 1)], none⟩, .o ⟨(some 6), none, false, .mv (.t 22), (some [1, 4, 5, 6])⟩]
abbrev k43_o6 : List AJ := [.e 23 1 none, .o ⟨(some 7), none, false, .mv (.t 23), (some [1, 4, 5, 6, 7])⟩]
abbrev k43_o7 : List AJ := [.o ⟨(some 8), none, false, .mv (.c (.int .i64 0)), (some [1, 4, 5, 6, 7, 8])⟩]
abbrev k43_o8 : List AJ := [.o ⟨(some 24), none, false, .mv (.t 8), none⟩, .o ⟨(some 25), none, false, .mv (.t 6), none⟩, .o ⟨(some 26), none, false, .len (.t 25), none⟩, .o ⟨(some 27), none, false, .bin .lss (.t 24) (.t 26), (some [1, 4, 5, 6, 7, 8, 27])⟩]
def k43_12 : ACode := .cond (.t 27) .skip (.exit 0)
def k43_13 : ACode := .seq (.region k43_o8) k43_12
abbrev k43_o9 : List AI := [⟨(some 30), none, false, .fieldA 0 (.t 1), none⟩, ⟨(some 31), none, false, .fieldA 0 (.t 30), none⟩, ⟨(some 32), none, false, .load 1 false (.t 31), none⟩, ⟨(some 33), none, false, .mv (.t 6), none⟩, ⟨(some 34), none, false, .mv (.t 8), none⟩, ⟨(some 35), none, false, .idxA 1 (.t 33) (.t 34), none⟩, ⟨(some 36), none, false, .load 1 false (.t 35), none⟩, ⟨(some 37), none, false, .idxA 1 (.t 32) (.t 36), none⟩, ⟨(some 38), none, false, .load 1 false (.t 37), none⟩, ⟨(some 9), none, false, .mv (.t 38), (some [1, 4, 5, 6, 7, 8, 9])⟩]
abbrev k43_o10 : List AJ := [.o ⟨(some 39), none, false, .mv (.t 9), none⟩, .o ⟨(some 40), none, false, .len (.t 39), none⟩, .o ⟨(some 41), none, false, .bin .neq (.t 40) (.c (.int .i64 2)), (some [1, 4, 5, 6, 7, 8, 9, 41])⟩]
def k43_16 : ACode := .cond (.t 41) (.exit 1) .skip
def k43_17 : ACode := .seq (.region k43_o10) k43_16
abbrev k43_o11 : List AJ := [.o ⟨(some 42), none, false, .mv (.t 4), none⟩, .o ⟨(some 43), none, false, .mv (.t 5), none⟩, .o ⟨(some 44), none, false, .mv (.t 9), none⟩, .o ⟨(some 45), none, false, .idxA 1 (.t 44) (.c (.int .i64 0)), none⟩, .o ⟨(some 46), none, false, .load 1 false (.t 45), none⟩, .o ⟨(some 47), none, false, .call 79 [(.t 42), (.t 43), (.t 46)], none⟩, .o ⟨(some 10), none, false, .mv (.t 47), (some [1, 4, 5, 6, 7, 8, 9, 10])⟩]
abbrev k43_o12 : List AJ := [.o ⟨(some 48), none, false, .mv (.t 4), none⟩, .o ⟨(some 49), none, false, .mv (.t 5), none⟩, .o ⟨(some 50), none, false, .mv (.t 9), none⟩, .o ⟨(some 51), none, false, .idxA 1 (.t 50) (.c (.int .i64 1)), none⟩, .o ⟨(some 52), none, false, .load 1 false (.t 51), none⟩, .o ⟨(some 53), none, false, .call 79 [(.t 48), (.t 49), (.t 52)], none⟩, .o ⟨(some 11), none, false, .mv (.t 53), (some [1, 4, 5, 6, 7, 8, 10, 11])⟩]
abbrev k43_o13 : List AJ := [.o ⟨(some 54), none, false, .mv (.t 10), none⟩, .o ⟨(some 55), none, false, .mv (.t 11), none⟩, .o ⟨(some 56), none, false, .bin .eql (.t 54) (.t 55), (some [1, 4, 5, 6, 7, 8, 10, 11, 56])⟩]
def k43_21 : ACode := .cond (.t 56) (.exit 1) .skip
def k43_22 : ACode := .seq (.region k43_o13) k43_21
abbrev k43_o14 : List AJ := [.o ⟨(some 57), none, false, .mv (.t 4), none⟩, .o ⟨(some 58), none, false, .fieldA 1 (.t 1), none⟩, .o ⟨(some 59), none, false, .load 1 false (.t 58), none⟩, .o ⟨(some 60), none, false, .mv (.t 4), none⟩, .o ⟨(some 61), none, false, .len (.t 60), none⟩, .o ⟨(some 62), none, false, .slice 1 (.t 59) none (some (.t 61)) none, none⟩, .o ⟨(some 63), none, false, .mv (.t 10), none⟩, .o ⟨(some 64), none, false, .call 79 [(.t 57), (.t 62), (.t 63)], none⟩, .o ⟨(some 12), none, false, .mv (.t 64), (some [1, 4, 5, 6, 7, 8, 10, 11, 12])⟩]
abbrev k43_o15 : List AJ := [.o ⟨(some 65), none, false, .mv (.t 4), none⟩, .o ⟨(some 66), none, false, .fieldA 1 (.t 1), none⟩, .o ⟨(some 67), none, false, .load 1 false (.t 66), none⟩, .o ⟨(some 68), none, false, .mv (.t 4), none⟩, .o ⟨(some 69), none, false, .len (.t 68), none⟩, .o ⟨(some 70), none, false, .slice 1 (.t 67) none (some (.t 69)) none, none⟩, .o ⟨(some 71), none, false, .mv (.t 11), none⟩, .o ⟨(some 72), none, false, .call 79 [(.t 65), (.t 70), (.t 71)], none⟩, .o ⟨(some 13), none, false, .mv (.t 72), (some [1, 4, 5, 6, 7, 8, 10, 11, 12, 13])⟩]
abbrev k43_o16 : List AJ := [.o ⟨(some 73), none, false, .mv (.t 12), none⟩, .o ⟨(some 74), none, false, .mv (.t 13), none⟩, .o ⟨(some 75), none, false, .bin .lss (.t 73) (.t 74), none⟩, .o ⟨(some 76), none, false, .mv (.t 75), none⟩, .o ⟨(some 77), (some (76, false)), false, .mv (.t 12), none⟩, .o ⟨(some 78), (some (76, false)), false, .mv (.t 13), none⟩, .o ⟨(some 79), (some (76, false)), false, .bin .eql (.t 77) (.t 78), none⟩, .o ⟨(some 80), (some (76, false)), false, .mv (.t 79), none⟩, .o ⟨(some 81), (some (80, true)), false, .mv (.t 10), (some [1, 4, 5, 6, 7, 8, 10, 11, 76, 80, 81])⟩, .o ⟨(some 82), (some (80, true)), false, .mv (.t 11), none⟩, .o ⟨(some 83), (some (80, true)), false, .bin .lss (.t 81) (.t 82), none⟩, .o ⟨(some 84), (some (76, false)), false, .pick (.t 80) (.t 83) (.c (.bool false)), none⟩, .o ⟨(some 85), none, false, .pick (.t 76) (.c (.bool true)) (.t 84), (some [1, 4, 5, 6, 7, 8, 10, 11, 85])⟩]
abbrev k43_o17 : List AJ := [.o ⟨(some 86), none, false, .mv (.t 10), none⟩, .o ⟨(some 14), none, false, .mv (.t 86), (some [1, 4, 5, 6, 7, 8, 11, 14])⟩]
abbrev k43_o18 : List AJ := [.o ⟨(some 87), none, false, .mv (.t 11), none⟩, .o ⟨(some 10), none, false, .mv (.t 87), (some [1, 4, 5, 6, 7, 8, 10, 14])⟩]
abbrev k43_o19 : List AJ := [.o ⟨(some 88), none, false, .mv (.t 14), none⟩, .o ⟨(some 11), none, false, .mv (.t 88), (some [1, 4, 5, 6, 7, 8, 10, 11])⟩]
def k43_28 : ACode := .region k43_o19
def k43_29 : ACode := .seq (.region k43_o18) k43_28
def k43_30 : ACode := .seq (.region k43_o17) k43_29
def k43_31 : ACode := .cond (.t 85) k43_30 .skip
def k43_32 : ACode := .seq (.region k43_o16) k43_31
abbrev k43_o20 : List AJ := [.o ⟨(some 15), none, false, .mv (.c (.int .i64 0)), (some [1, 4, 5, 6, 7, 8, 10, 11, 15])⟩]
abbrev k43_o21 : List AJ := [.o ⟨(some 89), none, false, .mv (.t 15), none⟩, .o ⟨(some 90), none, false, .mv (.t 5), none⟩, .o ⟨(some 91), none, false, .len (.t 90), none⟩, .o ⟨(some 92), none, false, .bin .lss (.t 89) (.t 91), (some [1, 4, 5, 6, 7, 8, 10, 11, 15, 92])⟩]
def k43_35 : ACode := .cond (.t 92) .skip (.exit 2)
def k43_36 : ACode := .seq (.region k43_o21) k43_35
abbrev k43_o22 : List AJ := [.o ⟨(some 95), none, false, .mv (.t 5), none⟩, .o ⟨(some 96), none, false, .mv (.t 15), none⟩, .o ⟨(some 97), none, false, .idxA 1 (.t 95) (.t 96), none⟩, .o ⟨(some 98), none, false, .load 1 false (.t 97), none⟩, .o ⟨(some 99), none, false, .mv (.t 10), none⟩, .o ⟨(some 100), none, false, .bin .eql (.t 98) (.t 99), (some [1, 4, 5, 6, 7, 8, 10, 11, 15, 100])⟩]
abbrev k43_o23 : List AJ := [.o ⟨(some 101), none, false, .mv (.t 5), none⟩, .o ⟨(some 102), none, false, .mv (.t 15), none⟩, .o ⟨(some 103), none, false, .mv (.t 11), none⟩, .o ⟨(some 104), none, false, .idxA 1 (.t 101) (.t 102), none⟩, .o ⟨none, none, false, .store 1 (.t 104) (.t 103), (some [1, 4, 5, 6, 7, 8, 10, 11, 15])⟩]
def k43_38 : ACode := .region k43_o23
def k43_39 : ACode := .cond (.t 100) k43_38 .skip
def k43_40 : ACode := .seq (.region k43_o22) k43_39
abbrev k43_o24 : List AJ := [.o ⟨(some 93), none, false, .mv (.t 15), none⟩, .o ⟨(some 94), none, true, .bin .add (.t 93) (.c (.int .i64 1)), none⟩, .o ⟨(some 15), none, false, .mv (.t 94), (some [1, 4, 5, 6, 7, 8, 10, 11, 15])⟩]
def k43_42 : ACode := .region k43_o24
def k43_43 : ACode := .seq (.block 3 k43_40) k43_42
def k43_44 : ACode := .seq k43_36 k43_43
def k43_45 : ACode := .loop k43_44
def k43_46 : ACode := .block 2 k43_45
def k43_47 : ACode := .seq (.region k43_o20) k43_46
abbrev k43_o25 : List AI := [⟨(some 105), none, false, .mv (.t 7), none⟩, ⟨(some 106), none, false, .fieldA 1 (.t 1), none⟩, ⟨(some 107), none, false, .load 1 false (.t 106), none⟩, ⟨(some 108), none, false, .mv (.t 6), none⟩, ⟨(some 109), none, false, .mv (.t 8), none⟩, ⟨(some 110), none, false, .idxA 1 (.t 108) (.t 109), none⟩, ⟨(some 111), none, false, .load 1 false (.t 110), none⟩, ⟨(some 112), none, false, .idxA 1 (.t 107) (.t 111), none⟩, ⟨(some 113), none, false, .load 1 false (.t 112), none⟩, ⟨(some 114), none, false, .mv (.t 10), none⟩, ⟨(some 115), none, false, .mv (.t 11), none⟩, ⟨(some 116), none, false, .bsl false 1 [(.t 113), (.t 114), (.t 115)], none⟩, ⟨(some 117), none, false, .bsl false 1 [(.t 116)], (some [1, 4, 5, 6, 8, 105, 117])⟩]
abbrev k43_o26 : List AJ := [.o ⟨(some 118), none, false, .append 1 24 (.t 105) (.t 117), none⟩, .o ⟨(some 7), none, false, .mv (.t 118), (some [1, 4, 5, 6, 7, 8])⟩]
def k43_48 : ACode := .draw k43_o25 k43_o26 rfl
def k43_49 : ACode := .seq k43_47 k43_48
def k43_50 : ACode := .seq k43_32 k43_49
def k43_51 : ACode := .seq (.region k43_o15) k43_50
def k43_52 : ACode := .seq (.region k43_o14) k43_51
def k43_53 : ACode := .seq k43_22 k43_52
def k43_54 : ACode := .seq (.region k43_o12) k43_53
def k43_55 : ACode := .seq (.region k43_o11) k43_54
def k43_56 : ACode := .seq k43_17 k43_55
def k43_57 : ACode := .seq (.draw k43_o9 [] rfl) k43_56
abbrev k43_o27 : List AJ := [.o ⟨(some 28), none, false, .mv (.t 8), none⟩, .o ⟨(some 29), none, true, .bin .add (.t 28) (.c (.int .i64 1)), none⟩, .o ⟨(some 8), none, false, .mv (.t 29), (some [1, 4, 5, 6, 7, 8])⟩]
def k43_59 : ACode := .region k43_o27
def k43_60 : ACode := .seq (.block 1 k43_57) k43_59
def k43_61 : ACode := .seq k43_13 k43_60
def k43_62 : ACode := .loop k43_61
def k43_63 : ACode := .block 0 k43_62
def k43_64 : ACode := .seq (.region k43_o7) k43_63
abbrev k43_o28 : List AJ := [.o ⟨(some 119), none, false, .mv (.t 7), none⟩, .o ⟨(some 2), none, false, .mv (.t 119), none⟩, .o ⟨(some 3), none, false, .mv (.c (.int .i64 0)), (some [2, 3])⟩]
def k43_66 : ACode := .seq (.region k43_o28) .ret
def k43_67 : ACode := .seq k43_64 k43_66
def k43_68 : ACode := .seq (.region k43_o6) k43_67
def k43_69 : ACode := .seq (.region k43_o5) k43_68
def k43_70 : ACode := .seq (.region k43_o4) k43_69
def k43_71 : ACode := .seq (.region k43_o3) k43_70
def k43_72 : ACode := .seq k43_5 k43_71
def k43_73 : ACode := .seq (.region k43_o0) k43_72
@[simp, simp ↓] theorem k43_3r : sR k43_3 k43_o2 .ret := yR rfl
@[simp, simp ↓] theorem k43_4r : rC k43_4 (.t 17) k43_3 .skip := zC rfl
@[simp, simp ↓] theorem k43_5r : sR k43_5 k43_o1 k43_4 := yR rfl
@[simp, simp ↓] theorem k43_12r : rC k43_12 (.t 27) .skip (.exit 0) := zC rfl
@[simp, simp ↓] theorem k43_13r : sR k43_13 k43_o8 k43_12 := yR rfl
@[simp, simp ↓] theorem k43_16r : rC k43_16 (.t 41) (.exit 1) .skip := zC rfl
@[simp, simp ↓] theorem k43_17r : sR k43_17 k43_o10 k43_16 := yR rfl
@[simp, simp ↓] theorem k43_21r : rC k43_21 (.t 56) (.exit 1) .skip := zC rfl
@[simp, simp ↓] theorem k43_22r : sR k43_22 k43_o13 k43_21 := yR rfl
@[simp, simp ↓] theorem k43_28r : rR k43_28 k43_o19 := zR rfl
@[simp, simp ↓] theorem k43_29r : sR k43_29 k43_o18 k43_28 := yR rfl
@[simp, simp ↓] theorem k43_30r : sR k43_30 k43_o17 k43_29 := yR rfl
@[simp, simp ↓] theorem k43_31r : rC k43_31 (.t 85) k43_30 .skip := zC rfl
@[simp, simp ↓] theorem k43_32r : sR k43_32 k43_o16 k43_31 := yR rfl
@[simp, simp ↓] theorem k43_35r : rC k43_35 (.t 92) .skip (.exit 2) := zC rfl
@[simp, simp ↓] theorem k43_36r : sR k43_36 k43_o21 k43_35 := yR rfl
@[simp, simp ↓] theorem k43_38r : rR k43_38 k43_o23 := zR rfl
@[simp, simp ↓] theorem k43_39r : rC k43_39 (.t 100) k43_38 .skip := zC rfl
@[simp, simp ↓] theorem k43_40r : sR k43_40 k43_o22 k43_39 := yR rfl
@[simp, simp ↓] theorem k43_42r : rR k43_42 k43_o24 := zR rfl
@[simp, simp ↓] theorem k43_43r : sB k43_43 3 k43_40 k43_42 := yB rfl
@[simp, simp ↓] theorem k43_44r : rS k43_44 k43_36 k43_43 := zS rfl
@[simp, simp ↓] theorem k43_45r : rL k43_45 k43_44 := zL rfl
@[simp, simp ↓] theorem k43_46r : rB k43_46 2 k43_45 := zB rfl
@[simp, simp ↓] theorem k43_47r : sR k43_47 k43_o20 k43_46 := yR rfl
@[simp, simp ↓] theorem k43_48r : rD k43_48 k43_o25 k43_o26 := zD rfl
@[simp, simp ↓] theorem k43_49r : rS k43_49 k43_47 k43_48 := zS rfl
@[simp, simp ↓] theorem k43_50r : rS k43_50 k43_32 k43_49 := zS rfl
@[simp, simp ↓] theorem k43_51r : sR k43_51 k43_o15 k43_50 := yR rfl
@[simp, simp ↓] theorem k43_52r : sR k43_52 k43_o14 k43_51 := yR rfl
@[simp, simp ↓] theorem k43_53r : rS k43_53 k43_22 k43_52 := zS rfl
@[simp, simp ↓] theorem k43_54r : sR k43_54 k43_o12 k43_53 := yR rfl
@[simp, simp ↓] theorem k43_55r : sR k43_55 k43_o11 k43_54 := yR rfl
@[simp, simp ↓] theorem k43_56r : rS k43_56 k43_17 k43_55 := zS rfl
@[simp, simp ↓] theorem k43_57r : sD k43_57 k43_o9 [] k43_56 := yD rfl
@[simp, simp ↓] theorem k43_59r : rR k43_59 k43_o27 := zR rfl
@[simp, simp ↓] theorem k43_60r : sB k43_60 1 k43_57 k43_59 := yB rfl
@[simp, simp ↓] theorem k43_61r : rS k43_61 k43_13 k43_60 := zS rfl
@[simp, simp ↓] theorem k43_62r : rL k43_62 k43_61 := zL rfl
@[simp, simp ↓] theorem k43_63r : rB k43_63 0 k43_62 := zB rfl
@[simp, simp ↓] theorem k43_64r : sR k43_64 k43_o7 k43_63 := yR rfl
@[simp, simp ↓] theorem k43_66r : sR k43_66 k43_o28 .ret := yR rfl
@[simp, simp ↓] theorem k43_67r : rS k43_67 k43_64 k43_66 := zS rfl
@[simp, simp ↓] theorem k43_68r : sR k43_68 k43_o6 k43_67 := yR rfl
@[simp, simp ↓] theorem k43_69r : sR k43_69 k43_o5 k43_68 := yR rfl
@[simp, simp ↓] theorem k43_70r : sR k43_70 k43_o4 k43_69 := yR rfl
@[simp, simp ↓] theorem k43_71r : sR k43_71 k43_o3 k43_70 := yR rfl
@[simp, simp ↓] theorem k43_72r : rS k43_72 k43_5 k43_71 := zS rfl
@[simp, simp ↓] theorem k43_73r : sR k43_73 k43_o0 k43_72 := yR rfl
noncomputable abbrev k43_C : Orc → Cx := mkC Try.prog [23] 43 120 [.tmp 2, .tmp 3]
theorem k43_of : OfP Try.prog Try.f43 43 120 k43_C k43_73 := @ofP _ _ _ _ _ _ _ _ Try.func43 (by decide +kernel) rfl (by kernel_rfl) rfl (by kernel_rfl)
set_option maxHeartbeats 4000000 in
theorem specMg_c (x : Fil) (h : Heap) (hl : x.tot ≤ 1048576) : ACalls Try.prog 43 [x.av] h (fun v h' => v = .tup [.snap 1 (x.mgs.map il), .int .i64 x.mgC] ∧ h' = h) := by
  obtain ⟨hl1, hl2⟩ := x.lens hl
  refine k43_of rfl orcMg2_p fun I => ?_
  unfold Fil.mgs Fil.mgC
  by_cases hv : x.valid
  · have hc := hv.1
    have hts := hv.2.1.1
    have h48 : x.ts.length ≤ 48 := by rw [hts]; exact hc.2
    have hr48 := hc.2
    have hvl := vt_len x.rs
    rw [if_pos hv, if_pos hv]
    have hown := fun H => l00Own_g (vt x.rs) H (by omega)
    refine Run2.of I 1000 ?_
    simp -implicitDefEqProofs [hl, hl1, hv]
    refine (hown _).mono ?_
    rintro v h' ⟨hp0, G0, rfl⟩
    have hcell0 := G0.cell
    refine gK.go ?_
    simp -implicitDefEqProofs [hl, hl1, hv, hcell0]
    have hfil := ord_filter x.rs (keyT x.ts)
    rw [← hts] at hfil
    have hfil2 : (ordL (keyT x.ts) x.ts.length).filter (is2 x.rs) = eOrd x.rs x.ts := by
      unfold eOrd
      rw [← hts]
      exact hfil
    have hOl := ordL_len (keyT x.ts) x.ts.length
    have hOm := ordL_mem (keyT x.ts) x.ts.length
    rw [← hfil2]
    clear hfil hfil2 hown
    generalize ordL (keyT x.ts) x.ts.length = O at *
    by_cases hvs : vt x.rs = []
    · have hrs := vt_nil hc hvs
      have hO0 : O = [] := List.length_eq_zero_iff.1 (by rw [hOl, hts, hrs]; rfl)
      subst hO0
      refine Run2.loopE (fun (_ : Unit) => [(1, .ip [.snap 1 (x.rs.map il), .snap 1 (x.ts.map iv)]), (4, .snap 1 ((vt x.rs).map iv)), (5, v), (6, .snap 1 []), (7, .emp), (8, .int .i64 0)]) (fun _ => hp0 ++ h) (fun _ => 0) (fun _ => True) () (by simp) rfl trivial fun _ _ _ => ?_
      refine Run2.of I 1000 ?_
      simp -implicitDefEqProofs [hcell0]
      have hm0 : (mgF x.rs x.ts []).2 = [] := rfl
      rw [hm0]
      exact .wk (Wk.tup (.cons (Wk.emp 1) (.cons (.refl _) .nil))) (G0.froze (fun _ => _) (fun _ _ _ => by simp [fz, fzs]) (fun _ _ _ => .refl _) (.base ⟨rfl, rfl⟩))
    · obtain ⟨id, rfl, rfl⟩ := G0.ne (by simpa using hvs)
      clear G0 hcell0
      generalize hvse : vt x.rs = vs at *
      have hvs48 : vs.length ≤ 1048576 := by omega
      have hdm := mgF_in x.ts hc
      rw [hvse] at hdm
      refine Run2.loopE (α := Nat × AV × Heap) (fun s => [(1, .ip [.snap 1 (x.rs.map il), .snap 1 (x.ts.map iv)]), (4, .snap 1 (vs.map iv)), (5, .sl id 1 0 vs.length none), (6, .snap 1 (O.map iv)), (7, s.2.1), (8, .int .i64 (s.1 : Nat))]) (fun s => s.2.2 ++ ((id, ⟨1, (vs.map (mgF x.rs x.ts ((O.take s.1).filter (is2 x.rs))).1).map iv⟩) :: h)) (fun s => O.length - s.1) (fun s => s.1 ≤ O.length ∧ Grow 1 s.2.1 ((mgF x.rs x.ts ((O.take s.1).filter (is2 x.rs))).2.map il) s.2.2 ∧ id ∉ dom s.2.2) (0, .emp, []) (by simp) (by simp [mgF]) ⟨Nat.zero_le _, .emp, by simp [dom]⟩ ?_
      rintro ⟨i, w, hp⟩ ⟨hin, hg, hd1⟩ ih
      simp only at hin hg hd1
      have hcell := hg.cell
      have hul : (mgF x.rs x.ts ((O.take i).filter (is2 x.rs))).2.length ≤ i := by
        have h1 := (mgF_len x.rs x.ts ((O.take i).filter (is2 x.rs)) (_root_.id, [])).1
        have h2 := List.length_filter_le (is2 x.rs) (O.take i)
        simp only [List.length_take, List.length_nil] at h1 h2
        unfold mgF
        omega
      have gI : ∀ z, hget (hp ++ z) id = hget z id := fun z => hget_app hd1
      have sI : ∀ z c, hset (hp ++ z) id c = hp ++ hset z id c := fun z c => hset_app hd1
      by_cases hlt : i < O.length
      · obtain ⟨q1, q2⟩ := (hOm O[i]).1 (List.getElem_mem hlt)
        obtain ⟨n, hk⟩ : ∃ n : Nat, O[i] = n := ⟨O[i].toNat, by omega⟩
        have hnt : n < x.ts.length := by omega
        have hkl : n < x.rs.length := by omega
        obtain ⟨m1, m2⟩ := mg_skip (rs := x.rs) x.ts hlt
        have h2e : is2 x.rs O[i] = decide (((x.rs[n]).length : Int) = 2) := by rw [hk]; simp [is2, hkl]
        have hLin := hdm ((O.take i).filter (is2 x.rs)) (_root_.id, []) (fun k hk' => by
          obtain ⟨k1, k2⟩ := List.mem_filter.1 hk'
          obtain ⟨k3, k4⟩ := (hOm k).1 (List.mem_of_mem_take k1)
          unfold edD
          exact List.mem_filter.2 ⟨List.mem_range.2 (by omega), by simpa [is2] using k2⟩) (fun v hv => hv)
        change ∀ v ∈ vs, (mgF x.rs x.ts ((O.take i).filter (is2 x.rs))).1 v ∈ vs at hLin
        have go := fun w' hp' => ih (i + 1, w', hp')
        clear ih hdm
        by_cases h2 : x.rs[n].length = 2
        · have hnE : n ∈ edD x.rs 1 x.rs.length := by
            unfold edD
            exact List.mem_filter.2 ⟨List.mem_range.2 hkl, by simp [hkl, h2]⟩
          obtain ⟨a, b, _, hrk, hab, hb, hedge, hxa, hxb⟩ := edge_at hc hnE
          rw [hvse] at hxa hxb
          have m := m1 (by rw [h2e]; simp [h2])
          simp only [m] at go
          clear m m1 m2 h2e
          generalize mgF x.rs x.ts ((O.take i).filter (is2 x.rs)) = st at *
          obtain ⟨L, out⟩ := st
          simp only at hLin hg hul
          have hkey : keyT x.ts (n : Int) = x.ts[n] := by simp [keyT, hnt]
          simp only [mg1, hk, Int.toNat_natCast, hedge, hkey] at go
          have hxin := hLin _ hxa
          have hyin := hLin _ hxb
          have ca := fun H hm => told_e (L := L) (id := id) (v := (a : Int)) H hm hxa hvs48
          have cb := fun H hm => told_e (L := L) (id := id) (v := (b : Int)) H hm hxb hvs48
          have cx := fun H => told_t (ts := x.ts) (v := L a) H hc hts hvse hxin hvs48
          have cy := fun H => told_t (ts := x.ts) (v := L b) H hc hts hvse hyin hvs48
          have hvt : vs.length ≤ x.ts.length := by omega
          have hB0 : vs.map (mgL (bornF x.rs x.ts) ((a : Int), (b : Int)) L) = vs.map (mgL (bornF x.rs x.ts) ((a : Int), (b : Int)) L) := rfl
          by_cases hne : L a = L b
          · have h1 : mgL (bornF x.rs x.ts) ((a : Int), (b : Int)) L = L := by unfold mgL; rw [if_pos hne]
            have h2' : mgR (bornF x.rs x.ts) x.ts[n] ((a : Int), (b : Int)) L = [] := by unfold mgR; rw [if_pos hne]
            rw [h1, h2', List.append_nil] at go
            have go := go w hp ⟨hlt, hg, hd1⟩ (by omega)
            clear h1 h2' hB0 cx cy
            generalize hB : vs.map L = B at *
            have hmB : (id, (⟨1, B.map iv⟩ : Blk)) ∈ hp ++ (id, ⟨1, B.map iv⟩) :: h := by simp
            refine Run2.of I 1000 ?_
            simp -implicitDefEqProofs [hlt, hcell, hk, hkl, hrk]
            refine (ca _ hmB).mono ?_
            rintro v h' ⟨rfl, rfl⟩
            refine gK.go ?_
            simp -implicitDefEqProofs [hlt, hcell, hk, hkl, hrk]
            refine (cb _ hmB).mono ?_
            rintro v h' ⟨rfl, rfl⟩
            refine gK.go ?_
            simp -implicitDefEqProofs [hlt, hcell, hk, hkl, hrk, hne]
            exact ⟨by omega, by simpa using go⟩
          · generalize hp' : lat (bornF x.rs x.ts) (L a) (L b) = p at *
            generalize hq' : oth (bornF x.rs x.ts) (L a) (L b) = q at *
            have h1 : mgL (bornF x.rs x.ts) ((a : Int), (b : Int)) L = rep1 L p q := by unfold mgL; rw [if_neg hne]; rw [← hp', ← hq']
            have h2' : mgR (bornF x.rs x.ts) x.ts[n] ((a : Int), (b : Int)) L = [[x.ts[n], p, q]] := by unfold mgR; rw [if_neg hne]; rw [← hp', ← hq']
            rw [h1, h2'] at go
            unfold lat at hp'
            unfold oth at hq'
            clear h1 h2' hB0
            generalize hxx : L a = u at *
            generalize hyy : L b = t at *
            generalize hbxe : bornF x.rs x.ts u = bx at hp' hq' cx
            generalize hbye : bornF x.rs x.ts t = bt at hp' hq' cy
            have hcase : ((bx < bt ∧ True ∧ True) ∧ t = p ∧ u = q) ∨ ((¬ bx < bt ∧ bx = bt ∧ u < t) ∧ t = p ∧ u = q) ∨ ((¬ bx < bt ∧ bx = bt ∧ ¬ u < t) ∧ u = p ∧ t = q) ∨ ((¬ bx < bt ∧ ¬ bx = bt ∧ True) ∧ u = p ∧ t = q) := by
              by_cases e1 : bx < bt
              · rw [if_pos (.inl e1)] at hp' hq'
                exact .inl ⟨⟨e1, trivial, trivial⟩, hp', hq'⟩
              · by_cases e2 : bx = bt
                · by_cases e3 : u < t
                  · rw [if_pos (.inr ⟨e2, e3⟩)] at hp' hq'
                    exact .inr (.inl ⟨⟨e1, e2, e3⟩, hp', hq'⟩)
                  · rw [if_neg (by rintro (h | ⟨_, h⟩); exact e1 h; exact e3 h)] at hp' hq'
                    exact .inr (.inr (.inl ⟨⟨e1, e2, e3⟩, hp', hq'⟩))
                · rw [if_neg (by rintro (h | ⟨h, _⟩); exact e1 h; exact e2 h)] at hp' hq'
                  exact .inr (.inr (.inr ⟨⟨e1, e2, trivial⟩, hp', hq'⟩))
            have hAl : (vs.map (rep1 L p q)).length = vs.length := List.length_map ..
            have hBl : (vs.map L).length = vs.length := List.length_map ..
            have hAB : ∀ j (h1 : j < (vs.map (rep1 L p q)).length) (h2 : j < (vs.map L).length), (vs.map (rep1 L p q))[j]'h1 = if (vs.map L)[j]'h2 = p then q else (vs.map L)[j]'h2 := fun j h1 h2 => by
              rw [List.getElem_map, List.getElem_map]; rfl
            generalize hA : vs.map (rep1 L p q) = A at *
            generalize hB : vs.map L = B at *
            have hmB : (id, (⟨1, B.map iv⟩ : Blk)) ∈ hp ++ (id, ⟨1, B.map iv⟩) :: h := by simp
            rcases hcase with ⟨⟨e1, e2, e3⟩, hp', hq'⟩ | ⟨⟨e1, e2, e3⟩, hp', hq'⟩ | ⟨⟨e1, e2, e3⟩, hp', hq'⟩ | ⟨⟨e1, e2, e3⟩, hp', hq'⟩
            all_goals
              have hp2 := hp'.symm
              have hq2 := hq'.symm
              subst hp2 hq2
              refine Run2.of I 1000 ?_
              simp -implicitDefEqProofs [hlt, hcell, hk, hkl, hrk]
              refine (ca _ hmB).mono ?_
              rintro v h' ⟨rfl, rfl⟩
              refine gK.go ?_
              simp -implicitDefEqProofs [hlt, hcell, hk, hkl, hrk]
              refine (cb _ hmB).mono ?_
              rintro v h' ⟨rfl, rfl⟩
              refine gK.go ?_
              simp -implicitDefEqProofs [hlt, hcell, hk, hkl, hrk, hne, hvt]
              refine (cx _).mono ?_
              rintro v h' ⟨rfl, rfl⟩
              refine gK.go ?_
              simp -implicitDefEqProofs [hlt, hcell, hk, hkl, hrk, hne, hvt]
              refine (cy _).mono ?_
              rintro v h' ⟨rfl, rfl⟩
              refine gK.go ?_
              simp -implicitDefEqProofs [hlt, hcell, hk, hkl, hrk, hne, hvt, e1, e2, e3]
              have go := fun w' hp' (g : Grow 1 w' (out.map il ++ [.snap 1 [.int .i64 x.ts[n], .int .i64 p, .int .i64 q]]) hp') (hd : ∀ j ∈ dom hp', j ∉ dom ([] ++ ((id, ⟨1, A.map iv⟩) :: h))) => go w' hp' ⟨by omega, by simpa using g, fun hm => hd id hm (List.mem_cons_self ..)⟩ (by omega)
              clear ca cb cx cy hp' hq' hxx hyy hbxe hbye hxin hyin hLin hmB hrk hab hedge hxa hxb
              refine Run2.loopE (fun (j : Nat) => [(1, .ip [.snap 1 (x.rs.map il), .snap 1 (x.ts.map iv)]), (4, .snap 1 (vs.map iv)), (5, .sl id 1 0 vs.length none), (6, .snap 1 (O.map iv)), (7, w), (8, .int .i64 (i : Nat)), (10, .int .i64 p), (11, .int .i64 q), (15, .int .i64 j)]) (fun j => hp ++ ((id, ⟨1, (mixT A B j).map iv⟩) :: h)) (fun j => vs.length - j) (fun j => j ≤ vs.length) 0 (by simp) (by simp [mixT_zero]) (Nat.zero_le _) fun j hj ih => ?_
              by_cases hjl : j < vs.length
              · clear go
                have hBj : j < B.length := by omega
                have hAj : j < A.length := by omega
                have hAv := hAB j hAj hBj
                have hMg := fun h2 => mixT_get (A := A) (B := B) (by omega) hBj h2
                have hMl : (mixT A B j).length = vs.length := by rw [mixT_length A B (by omega)]; exact hAl
                have go := ih (j + 1) (by omega) (by omega)
                clear ih
                by_cases he : B[j] = p
                · rw [if_pos he] at hAv
                  rw [← mixT_set (by omega) hAj, hAv] at go
                  rw [he] at hMg
                  generalize mixT A B j = M at *
                  have hMj : j < M.length := by omega
                  refine Run2.of I 1000 ?_
                  simp -implicitDefEqProofs [hjl, hMj, hMg, gI, sI, hcell]
                  exact ⟨by omega, by simpa [List.map_set] using go⟩
                · rw [if_neg he] at hAv
                  rw [mixT_same (by omega) hAj hAv] at go
                  generalize mixT A B j = M at *
                  have hMj : j < M.length := by omega
                  refine Run2.of I 1000 ?_
                  simp -implicitDefEqProofs [hjl, hMj, hMg, gI, sI, hcell, he]
                  exact ⟨by omega, by simpa using go⟩
              · obtain rfl : j = vs.length := by omega
                rw [show mixT A B vs.length = A by rw [← hAl]; exact mixT_len A B (by omega)]
                clear ih
                refine Run2.of I 1000 ?_
                simp -implicitDefEqProofs [hcell, hlt, hk, hkl, hnt]
                refine hg.app_mid (bytes := 24) (new := [.snap 1 [.int .i64 x.ts[n], .int .i64 p, .int .i64 q]]) (pre := []) (post := (id, ⟨1, A.map iv⟩) :: h) (fun _ _ h => by simp [dom] at h) (by simp; omega) (by simp) fun w' hp' hg' hd' => ?_
                have hcell' := hg'.cell
                have := go w' hp' hg' hd'
                simp -implicitDefEqProofs [hcell']
                exact ⟨by omega, by simpa using this⟩
        · have m := m2 (by rw [h2e]; simp; omega)
          simp only [m] at go
          have go := go w hp ⟨hlt, hg, hd1⟩ (by omega)
          have h2I : ¬ (x.rs[n].length : Int) = 2 := by omega
          clear m m1 m2 h2e
          generalize mgF x.rs x.ts ((O.take i).filter (is2 x.rs)) = st at *
          refine Run2.of I 1000 ?_
          simp -implicitDefEqProofs [hlt, hcell, hk, hkl, h2I]
          exact ⟨by omega, by simpa using go⟩
      · obtain rfl : i = O.length := by omega
        rw [List.take_length] at hg
        refine Run2.of I 1000 ?_
        simp -implicitDefEqProofs [hlt, hcell]
        refine hg.froze (fun y => .tup [y, .int .i64 0]) (fun id b y => by simp [fz, fzs]) (fun _ _ h => Wk.tup (.cons h (.cons (.refl _) .nil))) (.drop id (.base ⟨rfl, by simp [hdel]⟩))
  · rw [if_neg hv, if_neg hv]
    refine Run2.of I 1000 ?_
    simp -implicitDefEqProofs [hl, hv]
    exact .wk (Wk.tup (.cons (Wk.nil 1) (.cons (.refl _) .nil))) (.base ⟨rfl, rfl⟩)
end Go.AG
