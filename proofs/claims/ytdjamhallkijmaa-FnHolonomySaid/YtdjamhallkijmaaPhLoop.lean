/- BadLoop: what the program's and the reference's functions give. No statement is made here. -/
import Derived.Test.YtdjamhallkijmaaPhPath
import Derived.Test.YtdjamhallkijmaaPhCat
namespace Go.AG
open Go.Proofs Go.Proofs.Ytdjamhallkijmaa
set_option linter.unusedSimpArgs false
set_option linter.unusedVariables false
set_option maxRecDepth 4000
/-- Both ends of an edge are of one part at the end. -/
theorem same_parts {x : Ph} (hv : x.valid) : ∀ i, i ≤ x.ts.length → ∀ (j : Nat) (hj : j < x.ts.length), j < i → (fstate x i).1.getD x.ts[j].f.toNat 0 = (fstate x i).1.getD x.ts[j].t.toNat 0
  | 0, _, j, _, h => absurd h (Nat.not_lt_zero _)
  | i + 1, hi, j, hj, hji => by
    have ih := same_parts hv i (by omega) j hj
    have fo := (fstate_ok (x := x) hv.2.2.1 i).p
    have hlt : i < x.ts.length := by omega
    have ht : x.ts.getD i default = x.ts[i] := by simp [hlt]
    obtain ⟨q1, q2, q3, _, _⟩ := Ph.edge hv hj
    rw [show fstate x (i + 1) = fstep x i (fstate x i) from rfl]
    generalize hS : fstate x i = S at *
    obtain ⟨P, F, out⟩ := S
    simp only at ih fo
    unfold fstep
    simp only [ht]
    split
    · rename_i hab
      rcases Nat.lt_or_ge j i with h | h
      · exact ih h
      · obtain rfl : j = i := by omega
        exact hab
    · rename_i hab
      simp only
      rw [getD_map_int _ _ (by omega), getD_map_int _ _ (by omega)]
      rcases Nat.lt_or_ge j i with h | h
      · rw [ih h]
      · obtain rfl : j = i := by omega
        rw [if_neg hab, if_pos rfl]
theorem Ph.wr_mem {x : Ph} {p : List Int} {c : Int} (h : c ∈ x.wr p x.ts.length) : ∃ (j : Nat) (hj : j < x.ts.length), c = (j : Int) := by
  unfold Ph.wr at h
  obtain ⟨j, hj, rfl⟩ := List.mem_map.1 h
  exact ⟨j, List.mem_range.1 (List.mem_filter.1 hj).1, rfl⟩
/-- The first edge at which the phases along the forest are wrong, and the loop that it closes. -/
def Ph.w0 (x : Ph) : T := x.ts.getD (x.wrong.headD 0).toNat default
noncomputable def Ph.loop (x : Ph) : List Int := x.w0.f :: x.path x.w0.t x.w0.f
noncomputable def Ph.lres (x : Ph) : List Int := if x.valid ∧ x.wrong ≠ [] then x.loop else []
noncomputable def Ph.lsum (x : Ph) : Int := if x.valid ∧ x.wrong ≠ [] then (x.hol x.loop).getD 0 else 0
noncomputable def Ph.lcode (x : Ph) : Int := if x.valid then (if x.wrong = [] then 3 else 0) else 1
theorem Ph.w0_spec {x : Ph} (hv : x.valid) (h : x.wrong ≠ []) : ∃ (j : Nat) (hj : j < x.ts.length), x.wrong.head? = some (j : Int) ∧ x.w0 = x.ts[j] ∧ x.parts.getD x.ts[j].t.toNat 0 = x.parts.getD x.ts[j].f.toNat 0 := by
  unfold Ph.w0
  cases hw : x.wrong with
  | nil => exact absurd hw h
  | cons c l =>
    obtain ⟨j, hj, rfl⟩ := Ph.wr_mem (p := x.pots) (c := c) (by rw [show x.wr x.pots x.ts.length = x.wrong from rfl, hw]; exact List.mem_cons_self ..)
    exact ⟨j, hj, rfl, by simp [hj], (same_parts hv _ (Nat.le_refl _) j hj hj).symm⟩
theorem Ph.path_len {x : Ph} (hv : x.valid) {a : Int} (b : Int) (ha : 0 ≤ a ∧ a < x.n) : (x.path a b).length ≤ 12 := by
  have := hv.2.1
  have := hv.1
  by_cases hx : ∃ l, SP x.adj a b l
  · obtain ⟨l, h⟩ := hx
    rw [Ph.path_eq hv h]
    have := Ph.sp_len hv h ha
    omega
  · unfold Ph.path
    rw [dif_neg hx]; simp
theorem SP.to {R : Int → Int → Prop} {u v w : Int} {p : List Int} (h : SP R u v p) (hw : w ∈ p) : ∃ q, SP R u w q := by
  obtain ⟨s, t, e⟩ := List.append_of_mem hw
  refine ⟨s ++ [w], ?_, ?_, ?_, by simp⟩
  · have := h.ch
    rw [e, Ch_app] at this
    exact this.1
  · have := h.nd
    rw [e, List.append_cons, List.nodup_append] at this
    exact this.1
  · have := h.hd
    rw [e] at this
    cases s <;> simpa using this
theorem Ph.path_sp {x : Ph} (hv : x.valid) {a b : Int} (ha : 0 ≤ a ∧ a < x.n) (hb : 0 ≤ b ∧ b < x.n) (h : x.parts.getD a.toNat 0 = x.parts.getD b.toNat 0) : SP x.adj a b (x.path a b) := by
  have key : (∃ l, SP x.adj a (a.toNat : Nat) l) ↔ ∃ l, SP x.adj a (b.toNat : Nat) l := by
    refine (fstate_inv hv _ (Nat.le_refl _)).part (fun u => ∃ l, SP x.adj a (u : Nat) l) (fun j hj hm => ?_) a.toNat b.toNat (by omega) (by omega) h
    obtain ⟨q1, q2, q3, q4, q5⟩ := Ph.edge hv hj
    rw [Int.toNat_of_nonneg q1, Int.toNat_of_nonneg (by omega)]
    have step : ∀ u w : Int, x.adj u w → (∃ l, SP x.adj a u l) → ∃ l, SP x.adj a w l := fun u w huw ⟨l, hl⟩ => by
      by_cases hm : w ∈ l
      · exact hl.to hm
      · exact ⟨_, hl.snoc huw hm⟩
    exact ⟨step _ _ ⟨j, hj, hm, .inl ⟨rfl, rfl⟩⟩, step _ _ ⟨j, hj, hm, .inr ⟨rfl, rfl⟩⟩⟩
  rw [Int.toNat_of_nonneg ha.1, Int.toNat_of_nonneg hb.1] at key
  obtain ⟨l, hl⟩ := key.1 ⟨[a], SP.one a⟩
  rw [Ph.path_eq hv hl]
  exact hl
theorem stepAV_eq (o : Option Int) : stepAV o = .tup [.int .i64 (o.getD 0), .bool o.isSome] := by cases o <;> rfl
noncomputable def orcL : List (Nat × (List AV → Option (Prop × AV))) := (51, o_l23Path) :: orcT2
theorem orcL_p : Pure Try.prog (lk orcL) := (lk_pure o_l23Path_k orcT2_p)
@[simp] theorem orcL_l (b : Bool) (g : FuncId) (l : List AV) : lk orcL b g l = if g = 51 then o_l23Path l else lk orcT2 b g l := nr rfl
abbrev k21_o0 : List AJ := [.o ⟨(some 1), none, false, .box false 3 (.t 0), none⟩, .o ⟨(some 2), none, false, .mv (.c .nilsl), none⟩, .o ⟨(some 3), none, false, .mv (.c (.int .i64 0)), none⟩, .o ⟨(some 4), none, false, .mv (.c (.int .i64 0)), (some [1])⟩]
abbrev k21_o1 : List AJ := [.o ⟨(some 12), none, false, .call 40 [(.t 1)], none⟩, .o ⟨(some 13), none, false, .un .not (.t 12), (some [1, 13])⟩]
abbrev k21_o2 : List AJ := [.o ⟨(some 2), none, false, .mv (.c .nilsl), none⟩, .o ⟨(some 3), none, false, .mv (.c (.int .i64 0)), none⟩, .o ⟨(some 4), none, false, .mv (.c (.int .i64 1)), (some [2, 3, 4])⟩]
def k21_3 : ACode := .seq (.region k21_o2) .ret
def k21_4 : ACode := .cond (.t 13) k21_3 .skip
def k21_5 : ACode := .seq (.region k21_o1) k21_4
abbrev k21_o3 : List AJ := [.o ⟨(some 15), none, false, .bsl false 1 [], none⟩, .o ⟨(some 16), none, false, .call 49 [(.t 1), (.t 15)], none⟩, .o ⟨(some 14), none, false, .mv (.t 16), none⟩, .o ⟨(some 17), none, false, .extract (.t 14) 0, none⟩, .o ⟨(some 18), none, false, .extract (.t 14) 1, none⟩, .o ⟨(some 5), none, false, .mv (.t 17), none⟩, .o ⟨(some 6), none, false, .mv (.t 18), (some [1, 5, 6])⟩]
abbrev k21_o4 : List AJ := [.o ⟨(some 19), none, false, .mv (.t 6), none⟩, .o ⟨(some 20), none, false, .call 50 [(.t 1), (.t 19)], none⟩, .o ⟨(some 7), none, false, .mv (.t 20), (some [1, 5, 7])⟩]
abbrev k21_o5 : List AJ := [.o ⟨(some 21), none, false, .mv (.t 7), none⟩, .o ⟨(some 22), none, false, .len (.t 21), none⟩, .o ⟨(some 23), none, false, .bin .eql (.t 22) (.c (.int .i64 0)), (some [1, 5, 7, 23])⟩]
abbrev k21_o6 : List AJ := [.o ⟨(some 2), none, false, .mv (.c .nilsl), none⟩, .o ⟨(some 3), none, false, .mv (.c (.int .i64 0)), none⟩, .o ⟨(some 4), none, false, .mv (.c (.int .i64 3)), (some [2, 3, 4])⟩]
def k21_10 : ACode := .seq (.region k21_o6) .ret
def k21_11 : ACode := .cond (.t 23) k21_10 .skip
def k21_12 : ACode := .seq (.region k21_o5) k21_11
abbrev k21_o7 : List AJ := [.o ⟨(some 24), none, false, .fieldA 2 (.t 1), none⟩, .o ⟨(some 25), none, false, .load 1 false (.t 24), none⟩, .o ⟨(some 26), none, false, .mv (.t 7), none⟩, .o ⟨(some 27), none, false, .idxA 1 (.t 26) (.c (.int .i64 0)), none⟩, .o ⟨(some 28), none, false, .load 1 false (.t 27), none⟩, .o ⟨(some 29), none, false, .idxA 3 (.t 25) (.t 28), none⟩, .o ⟨(some 30), none, false, .load 3 true (.t 29), none⟩, .v 8 3 (.agg [(.int .i64 0), (.int .i64 0), (.int .i64 0)]) [] (.t 30) (some [1, 5, 8])]
abbrev k21_o8 : List AJ := [.o ⟨(some 31), none, false, .fieldA 0 (.t 8), none⟩, .o ⟨(some 32), none, false, .load 1 false (.t 31), none⟩, .o ⟨(some 33), none, false, .bsl true 1 [(.t 32)], none⟩, .o ⟨(some 34), none, false, .mv (.t 5), none⟩, .o ⟨(some 35), none, false, .fieldA 1 (.t 8), none⟩, .o ⟨(some 36), none, false, .load 1 false (.t 35), none⟩, .o ⟨(some 37), none, false, .fieldA 0 (.t 8), none⟩, .o ⟨(some 38), none, false, .load 1 false (.t 37), none⟩, .o ⟨(some 39), none, true, .call 51 [(.t 1), (.t 34), (.t 36), (.t 38)], none⟩, .o ⟨(some 40), none, false, .append 1 8 (.t 33) (.t 39), none⟩, .o ⟨(some 9), none, false, .mv (.t 40), (some [1, 9])⟩]
abbrev k21_o9 : List AJ := [.o ⟨(some 42), none, false, .mv (.t 9), none⟩, .o ⟨(some 43), none, false, .call 42 [(.t 1), (.t 42)], none⟩, .o ⟨(some 41), none, false, .mv (.t 43), none⟩, .o ⟨(some 44), none, false, .extract (.t 41) 0, none⟩, .o ⟨(some 45), none, false, .extract (.t 41) 1, none⟩, .o ⟨(some 10), none, false, .mv (.t 44), none⟩, .o ⟨(some 11), none, false, .mv (.t 45), (some [9, 10])⟩]
abbrev k21_o10 : List AJ := [.o ⟨(some 46), none, false, .mv (.t 9), none⟩, .o ⟨(some 47), none, false, .mv (.t 10), none⟩, .o ⟨(some 2), none, false, .mv (.t 46), none⟩, .o ⟨(some 3), none, false, .mv (.t 47), none⟩, .o ⟨(some 4), none, false, .mv (.c (.int .i64 0)), (some [2, 3, 4])⟩]
def k21_17 : ACode := .seq (.region k21_o10) .ret
def k21_18 : ACode := .seq (.region k21_o9) k21_17
def k21_19 : ACode := .seq (.drawT 1 k21_o8 rfl) k21_18
def k21_20 : ACode := .seq (.drawT 0 k21_o7 rfl) k21_19
def k21_21 : ACode := .seq k21_12 k21_20
def k21_22 : ACode := .seq (.region k21_o4) k21_21
def k21_23 : ACode := .seq (.region k21_o3) k21_22
def k21_24 : ACode := .seq k21_5 k21_23
def k21_25 : ACode := .seq (.region k21_o0) k21_24
@[simp, simp ↓] theorem k21_3r : sR k21_3 k21_o2 .ret := yR rfl
@[simp, simp ↓] theorem k21_4r : rC k21_4 (.t 13) k21_3 .skip := zC rfl
@[simp, simp ↓] theorem k21_5r : sR k21_5 k21_o1 k21_4 := yR rfl
@[simp, simp ↓] theorem k21_10r : sR k21_10 k21_o6 .ret := yR rfl
@[simp, simp ↓] theorem k21_11r : rC k21_11 (.t 23) k21_10 .skip := zC rfl
@[simp, simp ↓] theorem k21_12r : sR k21_12 k21_o5 k21_11 := yR rfl
@[simp, simp ↓] theorem k21_17r : sR k21_17 k21_o10 .ret := yR rfl
@[simp, simp ↓] theorem k21_18r : sR k21_18 k21_o9 k21_17 := yR rfl
@[simp, simp ↓] theorem k21_19r : sT k21_19 k21_o8 k21_18 := yT rfl
@[simp, simp ↓] theorem k21_20r : sT k21_20 k21_o7 k21_19 := yT rfl
@[simp, simp ↓] theorem k21_21r : rS k21_21 k21_12 k21_20 := zS rfl
@[simp, simp ↓] theorem k21_22r : sR k21_22 k21_o4 k21_21 := yR rfl
@[simp, simp ↓] theorem k21_23r : sR k21_23 k21_o3 k21_22 := yR rfl
@[simp, simp ↓] theorem k21_24r : rS k21_24 k21_5 k21_23 := zS rfl
@[simp, simp ↓] theorem k21_25r : sR k21_25 k21_o0 k21_24 := yR rfl
noncomputable abbrev k21_C : Orc → Cx := mkC Try.prog [8, 33] 21 48 [.tmp 2, .tmp 3, .tmp 4]
theorem k21_of : OfP Try.prog Try.f21 21 48 k21_C k21_25 := @ofP _ _ _ _ _ _ _ _ Try.func21 (by decide +kernel) rfl (by kernel_rfl) rfl (by kernel_rfl)
theorem specLoop_c (x : Ph) (h : Heap) (ok : x.ok) (hl : x.ts.length ≤ 1048576) : ACalls Try.prog 21 [x.av] h (fun v h' => v = .tup [.snap 1 (x.lres.map iv), .int .i64 x.lsum, .int .i64 x.lcode] ∧ h' = h) := by
  have hvv : x.valid → Ph.valid ⟨x.n, x.m, x.ts⟩ := fun h => h
  refine k21_of rfl orcL_p fun I => ?_
  refine Run2.of I 1000 ?_
  simp -implicitDefEqProofs [ok, hl]
  refine ⟨fun hv => .wk (.tup (.cons (.nil 1) (.cons (.refl _) (.cons (.refl _) .nil)))) (.base ?_), fun hv => ?_⟩
  · simp [Ph.lres, Ph.lsum, Ph.lcode, hv]
  have hvec := Ph.pots_vec hv
  first | refine dcallK (l23Forest_c x _ hv) ?_ | (refine (l23Forest_c x _ hv).mono ?_; rintro v h' ⟨rfl, rfl⟩; refine gK.go ?_)
  simp -implicitDefEqProofs [hv, hvec]
  have hwl := x.wr_len x.pots x.ts.length
  have hl2 := hv.2.2.2.2.2
  rw [show x.wr x.pots x.ts.length = x.wrong from rfl] at hwl
  rw [show x.wr x.pots x.ts.length = x.wrong from rfl]
  refine ⟨fun h1 => .wk (.tup (.cons (.nil 1) (.cons (.refl _) (.cons (.refl _) .nil)))) (.base ?_), fun h1 => ?_⟩
  · have h2 : x.wrong = [] := h1
    simp [Ph.lres, Ph.lsum, Ph.lcode, hv, h2]
  have h2 : x.wrong ≠ [] := h1
  obtain ⟨j, hj, e1, e2, e3⟩ := Ph.w0_spec hv h2
  obtain ⟨ws, e4⟩ : ∃ ws, x.wrong = (j : Int) :: ws := by cases hw : x.wrong <;> rw [hw] at e1 <;> simp_all
  obtain ⟨q1, q2, q3, q4, q5⟩ := Ph.edge hv hj
  have hpl := Ph.path_len hv x.ts[j].f (a := x.ts[j].t) (by omega)
  have hps : (Ph.parts ⟨x.n, x.m, x.ts⟩).getD x.ts[j].t.toNat 0 = (Ph.parts ⟨x.n, x.m, x.ts⟩).getD x.ts[j].f.toNat 0 := e3
  have hsp := Ph.path_sp hv (a := x.ts[j].t) (b := x.ts[j].f) (by omega) (by omega) e3
  have hlp : x.loop = x.ts[j].f :: x.path x.ts[j].t x.ts[j].f := by unfold Ph.loop; rw [e2]
  rw [e4]
  simp -implicitDefEqProofs [hj]
  intro id hid
  refine ⟨⟨hv, by omega, by omega, by simpa using e3⟩, fun hh => absurd (List.eq_nil_of_length_eq_zero (by omega)) hsp.ne, fun _ => ⟨by omega, fun id2 g1 g2 => ?_⟩⟩
  refine gK.go ?_
  simp -implicitDefEqProofs
  have e5 : AV.int .i64 x.ts[j].f :: List.map iv (x.path x.ts[j].t x.ts[j].f) = x.loop.map iv := by rw [hlp]; rfl
  rw [e5]
  have e6 : 1 + (x.path x.ts[j].t x.ts[j].f).length = x.loop.length := by rw [hlp]; simp; omega
  rw [e6]
  refine (ACalls.reads [(id2, ⟨1, x.loop.map iv⟩)] (by simp) (v0 := stepAV (x.hol x.loop)) ?_ ?_).mono ?_
  · have e7 : lend [(id2, ⟨1, x.loop.map iv⟩)] [.ip [.int .i64 x.n, .int .i64 x.m, .snap 3 (x.ts.map T.av)], .sl id2 1 0 x.loop.length none] = [.ip [.int .i64 x.n, .int .i64 x.m, .snap 3 (x.ts.map T.av)], .snap 1 (x.loop.map iv)] := by
      rw [lend_cons, lend_cons, lend_nil', lend1_cold [(id2, ⟨1, x.loop.map iv⟩)] (x := .ip _) (show cold (.ip _) = true from x.is.cold)]
      congr 2
      simp [lend1]
      exact List.take_of_length_le (by simp)
    rw [e7]
    exact l23Sum_c x x.loop [] hv (by rw [hlp]; simp; omega)
  · rw [stepAV_eq]; rfl
  rintro v hh ⟨rfl, rfl⟩
  rw [stepAV_eq]
  refine gK.go ?_
  simp -implicitDefEqProofs
  refine .freeze id2 (by simp [hget]; rfl) (.drop id (.base ?_))
  simp [Ph.lres, Ph.lsum, Ph.lcode, hv, h2, hdel, g1, Ne.symm g1]
  exact List.take_of_length_le (by simp)
abbrev k8_o0 : List AJ := [.o ⟨(some 1), none, false, .box false 3 (.t 0), none⟩, .o ⟨(some 2), none, false, .mv (.c .nilsl), none⟩, .o ⟨(some 3), none, false, .mv (.c (.int .i64 0)), none⟩, .o ⟨(some 4), none, false, .mv (.c (.int .i64 0)), (some [1])⟩]
abbrev k8_o1 : List AJ := [.o ⟨(some 16), none, false, .load 3 true (.t 1), none⟩, .o ⟨(some 17), none, false, .call 24 [(.t 16)], none⟩, .o ⟨(some 18), none, false, .un .not (.t 17), (some [1, 18])⟩]
abbrev k8_o2 : List AJ := [.o ⟨(some 2), none, false, .mv (.c .nilsl), none⟩, .o ⟨(some 3), none, false, .mv (.c (.int .i64 0)), none⟩, .o ⟨(some 4), none, false, .mv (.c (.int .i64 1)), (some [2, 3, 4])⟩]
def k8_3 : ACode := .seq (.region k8_o2) .ret
def k8_4 : ACode := .cond (.t 18) k8_3 .skip
def k8_5 : ACode := .seq (.region k8_o1) k8_4
abbrev k8_o3 : List AJ := [.o ⟨(some 20), none, false, .load 3 true (.t 1), none⟩, .o ⟨(some 21), none, false, .call 25 [(.t 20)], none⟩, .o ⟨(some 19), none, false, .mv (.t 21), none⟩, .o ⟨(some 22), none, false, .extract (.t 19) 0, none⟩, .o ⟨(some 23), none, false, .extract (.t 19) 1, none⟩, .o ⟨(some 5), none, false, .mv (.t 22), none⟩, .o ⟨(some 6), none, false, .mv (.t 23), (some [1, 5, 6])⟩]
abbrev k8_o4 : List AJ := [.o ⟨(some 24), none, false, .load 3 true (.t 1), none⟩, .o ⟨(some 25), none, false, .mv (.t 5), none⟩, .o ⟨(some 26), none, false, .call 26 [(.t 24), (.t 25)], none⟩, .o ⟨(some 7), none, false, .mv (.t 26), (some [1, 6, 7])⟩]
abbrev k8_o5 : List AJ := [.o ⟨(some 27), none, false, .mv (.t 7), none⟩, .o ⟨(some 28), none, false, .len (.t 27), none⟩, .o ⟨(some 29), none, false, .bin .eql (.t 28) (.c (.int .i64 0)), (some [1, 6, 7, 29])⟩]
abbrev k8_o6 : List AJ := [.o ⟨(some 2), none, false, .mv (.c .nilsl), none⟩, .o ⟨(some 3), none, false, .mv (.c (.int .i64 0)), none⟩, .o ⟨(some 4), none, false, .mv (.c (.int .i64 3)), (some [2, 3, 4])⟩]
def k8_10 : ACode := .seq (.region k8_o6) .ret
def k8_11 : ACode := .cond (.t 29) k8_10 .skip
def k8_12 : ACode := .seq (.region k8_o5) k8_11
abbrev k8_o7 : List AJ := [.o ⟨(some 30), none, false, .fieldA 2 (.t 1), none⟩, .o ⟨(some 31), none, false, .load 1 false (.t 30), none⟩, .o ⟨(some 32), none, false, .mv (.t 7), none⟩, .o ⟨(some 33), none, false, .idxA 1 (.t 32) (.c (.int .i64 0)), none⟩, .o ⟨(some 34), none, false, .load 1 false (.t 33), none⟩, .o ⟨(some 35), none, false, .idxA 3 (.t 31) (.t 34), none⟩, .o ⟨(some 36), none, false, .load 3 true (.t 35), none⟩, .v 8 3 (.agg [(.int .i64 0), (.int .i64 0), (.int .i64 0)]) [] (.t 36) (some [1, 6, 8])]
abbrev k8_o8 : List AI := [⟨(some 37), none, false, .mv (.t 6), none⟩, ⟨(some 38), none, false, .fieldA 1 (.t 8), none⟩, ⟨(some 39), none, false, .load 1 false (.t 38), none⟩, ⟨(some 40), none, false, .idxA 1 (.t 37) (.t 39), none⟩, ⟨(some 41), none, false, .load 1 false (.t 40), none⟩, ⟨(some 42), none, false, .mv (.t 6), none⟩, ⟨(some 43), none, false, .fieldA 0 (.t 8), none⟩, ⟨(some 44), none, false, .load 1 false (.t 43), none⟩, ⟨(some 45), none, false, .idxA 1 (.t 42) (.t 44), none⟩, ⟨(some 46), none, false, .load 1 false (.t 45), none⟩, ⟨(some 9), none, false, .mv (.t 41), none⟩, ⟨(some 10), none, false, .mv (.t 46), (some [1, 8, 9, 10])⟩]
abbrev k8_o9 : List AJ := [.o ⟨(some 11), none, false, .mv (.c (.int .i64 0)), (some [1, 8, 9, 10, 11])⟩]
abbrev k8_o10 : List AI := [⟨(some 47), none, false, .mv (.t 11), none⟩, ⟨(some 48), none, false, .mv (.t 9), none⟩, ⟨(some 49), none, false, .len (.t 48), none⟩, ⟨(some 50), none, false, .mv (.t 10), none⟩, ⟨(some 51), none, false, .len (.t 50), none⟩, ⟨(some 52), none, false, .mx false [(.t 49), (.t 51)], none⟩, ⟨(some 53), none, false, .bin .lss (.t 47) (.t 52), none⟩, ⟨(some 54), none, false, .mv (.t 53), none⟩, ⟨(some 55), (some (54, true)), false, .mv (.t 9), none⟩, ⟨(some 56), (some (54, true)), false, .mv (.t 11), none⟩, ⟨(some 57), (some (54, true)), false, .idxA 1 (.t 55) (.t 56), (some [1, 8, 9, 10, 11, 54, 57])⟩, ⟨(some 58), (some (54, true)), false, .load 1 false (.t 57), none⟩, ⟨(some 59), (some (54, true)), false, .mv (.t 10), none⟩, ⟨(some 60), (some (54, true)), false, .mv (.t 11), none⟩, ⟨(some 61), (some (54, true)), false, .idxA 1 (.t 59) (.t 60), none⟩, ⟨(some 62), (some (54, true)), false, .load 1 false (.t 61), none⟩, ⟨(some 63), (some (54, true)), false, .bin .eql (.t 58) (.t 62), none⟩, ⟨(some 64), none, false, .pick (.t 54) (.t 63) (.c (.bool false)), (some [1, 8, 9, 10, 11, 64])⟩]
def k8_17 : ACode := .cond (.t 64) .skip (.exit 0)
def k8_18 : ACode := .seq (.draw k8_o10 [] rfl) k8_17
abbrev k8_o11 : List AJ := [.o ⟨(some 65), none, false, .mv (.t 11), none⟩, .o ⟨(some 66), none, true, .bin .add (.t 65) (.c (.int .i64 1)), none⟩, .o ⟨(some 11), none, false, .mv (.t 66), (some [1, 8, 9, 10, 11])⟩]
def k8_19 : ACode := .region k8_o11
def k8_20 : ACode := .block 1 k8_19
def k8_21 : ACode := .seq k8_18 k8_20
def k8_22 : ACode := .loop k8_21
abbrev k8_o12 : List AJ := [.o ⟨(some 67), none, false, .mv (.t 9), none⟩, .o ⟨(some 68), none, false, .mv (.t 11), none⟩, .o ⟨(some 69), none, false, .slice 1 (.t 67) (some (.t 68)) none none, none⟩, .o ⟨(some 70), none, false, .call 27 [(.t 69)], none⟩, .o ⟨(some 12), none, false, .mv (.t 70), (some [1, 8, 10, 11, 12])⟩]
abbrev k8_o13 : List AJ := [.o ⟨(some 71), none, false, .mv (.t 12), none⟩, .o ⟨(some 72), none, false, .call 28 [(.t 71)], (some [1, 8, 10, 11, 12])⟩]
abbrev k8_o14 : List AJ := [.o ⟨(some 73), none, false, .fieldA 0 (.t 8), none⟩, .o ⟨(some 74), none, false, .load 1 false (.t 73), none⟩, .o ⟨(some 75), none, false, .bsl false 1 [(.t 74)], none⟩, .o ⟨(some 76), none, false, .mv (.t 12), none⟩, .o ⟨(some 77), none, false, .mv (.t 10), none⟩, .o ⟨(some 78), none, false, .mv (.t 11), none⟩, .o ⟨(some 79), none, true, .bin .sub (.t 78) (.c (.int .i64 1)), none⟩, .o ⟨(some 80), none, false, .slice 1 (.t 77) (some (.t 79)) none none, none⟩, .o ⟨(some 81), none, false, .bsl false 1 [(.t 75), (.t 76), (.t 80)], none⟩, .o ⟨(some 82), none, false, .call 29 [(.t 81)], none⟩, .o ⟨(some 13), none, false, .mv (.t 82), (some [1, 13])⟩]
abbrev k8_o15 : List AJ := [.o ⟨(some 84), none, false, .load 3 true (.t 1), none⟩, .o ⟨(some 85), none, false, .mv (.t 13), none⟩, .o ⟨(some 86), none, false, .call 30 [(.t 84), (.t 85)], none⟩, .o ⟨(some 83), none, false, .mv (.t 86), none⟩, .o ⟨(some 87), none, false, .extract (.t 83) 0, none⟩, .o ⟨(some 88), none, false, .extract (.t 83) 1, none⟩, .o ⟨(some 14), none, false, .mv (.t 87), none⟩, .o ⟨(some 15), none, false, .mv (.t 88), (some [13, 14])⟩]
abbrev k8_o16 : List AJ := [.o ⟨(some 89), none, false, .mv (.t 13), none⟩, .o ⟨(some 90), none, false, .mv (.t 14), none⟩, .o ⟨(some 2), none, false, .mv (.t 89), none⟩, .o ⟨(some 3), none, false, .mv (.t 90), none⟩, .o ⟨(some 4), none, false, .mv (.c (.int .i64 0)), (some [2, 3, 4])⟩]
def k8_29 : ACode := .seq (.region k8_o16) .ret
def k8_30 : ACode := .seq (.region k8_o15) k8_29
def k8_31 : ACode := .seq (.drawT 0 k8_o14 rfl) k8_30
def k8_32 : ACode := .seq (.region k8_o13) k8_31
def k8_33 : ACode := .seq (.region k8_o12) k8_32
def k8_34 : ACode := .seq (.block 0 k8_22) k8_33
def k8_35 : ACode := .seq (.region k8_o9) k8_34
def k8_36 : ACode := .seq (.draw k8_o8 [] rfl) k8_35
def k8_37 : ACode := .seq (.drawT 0 k8_o7 rfl) k8_36
def k8_38 : ACode := .seq k8_12 k8_37
def k8_39 : ACode := .seq (.region k8_o4) k8_38
def k8_40 : ACode := .seq (.region k8_o3) k8_39
def k8_41 : ACode := .seq k8_5 k8_40
def k8_42 : ACode := .seq (.region k8_o0) k8_41
@[simp, simp ↓] theorem k8_3r : sR k8_3 k8_o2 .ret := yR rfl
@[simp, simp ↓] theorem k8_4r : rC k8_4 (.t 18) k8_3 .skip := zC rfl
@[simp, simp ↓] theorem k8_5r : sR k8_5 k8_o1 k8_4 := yR rfl
@[simp, simp ↓] theorem k8_10r : sR k8_10 k8_o6 .ret := yR rfl
@[simp, simp ↓] theorem k8_11r : rC k8_11 (.t 29) k8_10 .skip := zC rfl
@[simp, simp ↓] theorem k8_12r : sR k8_12 k8_o5 k8_11 := yR rfl
@[simp, simp ↓] theorem k8_17r : rC k8_17 (.t 64) .skip (.exit 0) := zC rfl
@[simp, simp ↓] theorem k8_18r : sD k8_18 k8_o10 [] k8_17 := yD rfl
@[simp, simp ↓] theorem k8_19r : rR k8_19 k8_o11 := zR rfl
@[simp, simp ↓] theorem k8_20r : rB k8_20 1 k8_19 := zB rfl
@[simp, simp ↓] theorem k8_21r : rS k8_21 k8_18 k8_20 := zS rfl
@[simp, simp ↓] theorem k8_22r : rL k8_22 k8_21 := zL rfl
@[simp, simp ↓] theorem k8_29r : sR k8_29 k8_o16 .ret := yR rfl
@[simp, simp ↓] theorem k8_30r : sR k8_30 k8_o15 k8_29 := yR rfl
@[simp, simp ↓] theorem k8_31r : sT k8_31 k8_o14 k8_30 := yT rfl
@[simp, simp ↓] theorem k8_32r : sR k8_32 k8_o13 k8_31 := yR rfl
@[simp, simp ↓] theorem k8_33r : sR k8_33 k8_o12 k8_32 := yR rfl
@[simp, simp ↓] theorem k8_34r : sB k8_34 0 k8_22 k8_33 := yB rfl
@[simp, simp ↓] theorem k8_35r : sR k8_35 k8_o9 k8_34 := yR rfl
@[simp, simp ↓] theorem k8_36r : sD k8_36 k8_o8 [] k8_35 := yD rfl
@[simp, simp ↓] theorem k8_37r : sT k8_37 k8_o7 k8_36 := yT rfl
@[simp, simp ↓] theorem k8_38r : rS k8_38 k8_12 k8_37 := zS rfl
@[simp, simp ↓] theorem k8_39r : sR k8_39 k8_o4 k8_38 := yR rfl
@[simp, simp ↓] theorem k8_40r : sR k8_40 k8_o3 k8_39 := yR rfl
@[simp, simp ↓] theorem k8_41r : rS k8_41 k8_5 k8_40 := zS rfl
@[simp, simp ↓] theorem k8_42r : sR k8_42 k8_o0 k8_41 := yR rfl
noncomputable abbrev k8_C : Orc → Cx := mkC Try.prog [8] 8 91 [.tmp 2, .tmp 3, .tmp 4]
theorem k8_of : OfP Try.prog Try.f8 8 91 k8_C k8_42 := @ofP _ _ _ _ _ _ _ _ Try.func8 (by decide +kernel) rfl (by kernel_rfl) rfl (by kernel_rfl)
theorem implLoop_o (x : Ph) (ok : x.ok) (hl : x.ts.length ≤ 1048576) : ACalls Try.prog 8 [x.av] [] (fun v h' => ∃ w, v = .tup [w, .int .i64 x.lsum, .int .i64 x.lcode] ∧ OwnL iv 1 w x.lres h') := by
  refine k8_of rfl orcF_p fun I => ?_
  refine Run2.of I 1000 ?_
  simp -implicitDefEqProofs [ok, hl]
  refine ⟨fun hv => .base ?_, fun hv => ?_⟩
  · simp [Ph.lres, Ph.lsum, Ph.lcode, hv]
    exact .nil
  have hpl := Ph.pots_len hv
  refine (forestPhases_w x x.rooted (fun v _ h => Ph.rooted0 h) (fun a b l d h _ hs hb => Ph.rooted1 hv h hs hb) _ hv).mono ?_
  rintro w h' ⟨idf, ps, hf, hps, hpq, rfl, rfl⟩
  refine gK.go ?_
  simp -implicitDefEqProofs
  refine (errorsOf_l x idf [] hv).mono ?_
  rintro u h' ⟨hp, hg, hd, rfl⟩
  have hlen := hg.len
  simp only [List.length_map] at hlen
  refine gK.go ?_
  simp -implicitDefEqProofs [hlen]
  refine ⟨fun h1 => ?_, fun h1 => ?_⟩
  · have h2 : x.wrong = [] := h1
    refine Grow.dropped hg (.drop idf (.base ?_))
    simp [Ph.lres, Ph.lsum, Ph.lcode, hv, h2, hdel]
    exact .nil
  have h2 : x.wrong ≠ [] := h1
  obtain ⟨j, hj, e1, e2, e3⟩ := Ph.w0_spec hv h2
  obtain ⟨ws, e4⟩ : ∃ ws, x.wrong = (j : Int) :: ws := by cases hw : x.wrong <;> rw [hw] at e1 <;> simp_all
  obtain ⟨q1, q2, q3, q4, q5⟩ := Ph.edge hv hj
  have hsp := Ph.path_sp hv (a := x.ts[j].t) (b := x.ts[j].f) (by omega) (by omega) e3
  have hpl := Ph.path_len hv x.ts[j].f (a := x.ts[j].t) (by omega)
  have hlp : x.loop = x.ts[j].f :: x.path x.ts[j].t x.ts[j].f := by unfold Ph.loop; rw [e2]
  obtain ⟨idw, rfl, rfl⟩ := hg.ne (by rw [e4]; simp)
  rw [e4]
  have hn1 := hv.1
  have hn2 := hv.2.1
  have htl : x.ts[j].t.toNat < ps.length := by omega
  have hfl : x.ts[j].f.toNat < ps.length := by omega
  have q6 : 0 ≤ x.ts[j].t := by omega
  obtain ⟨P, hP⟩ : ∃ P, ps[x.ts[j].t.toNat] = P := ⟨_, rfl⟩
  obtain ⟨Q, hQ⟩ : ∃ Q, ps[x.ts[j].f.toNat] = Q := ⟨_, rfl⟩
  have hsP : SP x.adj (fsti x.parts x.ts[j].f.toNat : Nat) x.ts[j].t P := by
    have := (hpq x.ts[j].t.toNat (by omega)).2
    unfold Ph.rooted at this
    rw [fsti_congr e3, Int.toNat_of_nonneg q6] at this
    simpa [htl, hP] using this
  have hsQ : SP x.adj (fsti x.parts x.ts[j].f.toNat : Nat) x.ts[j].f Q := by
    have := (hpq x.ts[j].f.toNat (by omega)).2
    unfold Ph.rooted at this
    rw [Int.toNat_of_nonneg q1] at this
    simpa [hfl, hQ] using this
  have hrn : 0 ≤ ((fsti x.parts x.ts[j].f.toNat : Nat) : Int) ∧ ((fsti x.parts x.ts[j].f.toNat : Nat) : Int) < x.n := by
    have hlen := Ph.parts_len hv
    obtain ⟨hk, _⟩ := fsti_spec (P := x.parts) (v := x.ts[j].f.toNat) (by omega)
    omega
  have hPl := Ph.sp_len hv hsP hrn
  have hQl := Ph.sp_len hv hsQ hrn
  simp -implicitDefEqProofs [hj, htl, hfl, q1, q6, hP, hQ]
  refine Run2.sub (h' := []) (by simp) (by simp [dom]) ?_
  refine Run2.loopE (fun c => [(1, .ip [.int .i64 x.n, .int .i64 x.m, .snap 3 (x.ts.map T.av)]), (8, .ip [.int .i64 x.ts[j].f, .int .i64 x.ts[j].t, .int .i64 x.ts[j].s]), (9, .snap 1 (P.map iv)), (10, .snap 1 (Q.map iv)), (11, .int .i64 (c : Nat))]) (fun _ => []) (fun c => P.length - c) (fun c => c ≤ P.length ∧ c ≤ Q.length ∧ P.take c = Q.take c) 0 (by simp) rfl (by simp) fun c ⟨c1, c2, c3⟩ ih => ?_
  by_cases hc : c < P.length ∧ c < Q.length
  · by_cases hpc : P[c] = Q[c]
    · have go := ih (c + 1) ⟨by omega, by omega, by rw [List.take_succ_eq_append_getElem hc.1, List.take_succ_eq_append_getElem hc.2, c3, hpc]⟩ (by omega)
      clear ih
      have hm : (c : Int) < min (P.length : Int) (Q.length : Int) := by omega
      refine Run2.of I 1000 ?_
      simp -implicitDefEqProofs [hc.1, hc.2, hpc, hm]
      exact ⟨by omega, by simpa using go⟩
    · have hparts : Parts P Q c := ⟨c1, c2, c3, fun hh => hpc (by simpa [hc.1, hc.2] using hh.2.2)⟩
      have hm : (c : Int) < min (P.length : Int) (Q.length : Int) := by omega
      obtain ⟨d1, d2⟩ := sp_join hv hsP hsQ hparts
      have d3 := Ph.path_eq hv d2
      clear ih
      refine Run2.of I 1000 ?_
      simp -implicitDefEqProofs [hc.1, hc.2, hpc, hm, show ¬ (c : Int) < 0 by omega, c1, c2, show 0 ≤ (c : Int) - 1 by omega, show (c : Int) - 1 ≤ Q.length by omega]
      rw [show List.take (P.length - c) (List.drop c (P.map iv)) = (P.drop c).map iv by rw [List.take_of_length_le (by simp), List.map_drop]]
      refine (Clone_w (P.drop c) [] (by simp; omega)).mono ?_
      rintro u h' ⟨gu0, hgu0, _, rfl⟩
      refine gK.go ?_
      simp -implicitDefEqProofs
      have hrv := Reverse_g (P.drop c) hgu0 [] (by simp; omega)
      rw [List.append_nil] at hrv
      refine hrv.mono ?_
      rintro v h' ⟨gu, hgu, _, rfl⟩
      have huc := hgu.cell
      refine gK.go ?_
      simp -implicitDefEqProofs [huc, cells_of huc, stor_of huc, d1]
      have e8 : List.take ((Q.length : Int) - ((c : Int) - 1)).toNat (List.drop (c - 1) (Q.map iv)) = (Q.drop (c - 1)).map iv := by rw [List.take_of_length_le (by simp; omega), List.map_drop]
      rw [e8]
      refine ⟨by omega, by omega, ?_⟩
      have hcc := Concat3_g [x.ts[j].f] (P.drop c).reverse (Q.drop (c - 1)) hgu [] (by simp; omega)
      rw [List.append_nil] at hcc
      have e9 : [x.ts[j].f] ++ (P.drop c).reverse ++ Q.drop (c - 1) = x.loop := by rw [hlp, d3]; simp
      rw [e9] at hcc
      refine hcc.mono ?_
      rintro w h' ⟨gw, hgw, hdw, rfl⟩
      refine gK.go ?_
      simp -implicitDefEqProofs
      have hll : x.loop.length ≤ 13 := by rw [hlp]; simp; omega
      refine (ACalls.reads gw (fun p hp => List.mem_append_left _ hp) (v0 := stepAV (x.hol x.loop)) ?_ ?_).mono ?_
      · rw [lend_cons, lend_cons, lend_nil', lend1_cold gw (show cold (.agg _) = true from x.is.cold)]
        exact ACalls.wk (.cons (.refl _) (.cons hgw.own.lent.wk .nil)) (holonomy_c x x.loop [] hv (by omega))
      · rw [stepAV_eq]; rfl
      rintro v hh ⟨rfl, rfl⟩
      rw [stepAV_eq]
      refine gK.go ?_
      simp -implicitDefEqProofs
      obtain ⟨idv, rfl, rfl⟩ := hgw.ne (by rw [hlp]; simp)
      have hfin : Post (fun v h' => ∃ w, v = .tup [w, .int .i64 x.lsum, .int .i64 x.lcode] ∧ OwnL iv 1 w x.lres h') (.tup [.sl idv 1 0 (x.loop.map iv).length none, .int .i64 ((x.hol x.loop).getD 0), .int .i64 0]) [(idv, ⟨1, x.loop.map iv⟩)] := by
        refine .base ?_
        have a1 : x.lres = x.loop := by simp [Ph.lres, hv, h2]
        have a2 : x.lsum = (x.hol x.loop).getD 0 := by simp [Ph.lsum, hv, h2]
        have a3 : x.lcode = 0 := by simp [Ph.lcode, hv, h2]
        rw [a1, a2, a3]
        exact ⟨_, rfl, hgw.own⟩
      generalize (P.drop c).reverse.map iv = L at hgu
      cases hgu with
      | nil => exact hfin
      | emp => exact hfin
      | sl idu _ n hn =>
        have hne : ¬ idv = idu := fun e => hdw idv (by simp [dom]) (by simp [dom, e])
        refine .drop idu ?_
        simpa [hdel, hne] using hfin
  · have hparts : Parts P Q c := ⟨c1, c2, c3, fun hh => hc ⟨hh.1, hh.2.1⟩⟩
    have hm : ¬ (c : Int) < min (P.length : Int) (Q.length : Int) := by omega
    obtain ⟨d1, d2⟩ := sp_join hv hsP hsQ hparts
    have d3 := Ph.path_eq hv d2
    clear ih
    refine Run2.of I 1000 ?_
    simp -implicitDefEqProofs [hm, show ¬ (c : Int) < 0 by omega, c1, c2, show 0 ≤ (c : Int) - 1 by omega, show (c : Int) - 1 ≤ Q.length by omega]
    rw [show List.take (P.length - c) (List.drop c (P.map iv)) = (P.drop c).map iv by rw [List.take_of_length_le (by simp), List.map_drop]]
    refine (Clone_w (P.drop c) [] (by simp; omega)).mono ?_
    rintro u h' ⟨gu0, hgu0, _, rfl⟩
    refine gK.go ?_
    simp -implicitDefEqProofs
    have hrv := Reverse_g (P.drop c) hgu0 [] (by simp; omega)
    rw [List.append_nil] at hrv
    refine hrv.mono ?_
    rintro v h' ⟨gu, hgu, _, rfl⟩
    have huc := hgu.cell
    refine gK.go ?_
    simp -implicitDefEqProofs [huc, cells_of huc, stor_of huc, d1]
    have e8 : List.take ((Q.length : Int) - ((c : Int) - 1)).toNat (List.drop (c - 1) (Q.map iv)) = (Q.drop (c - 1)).map iv := by rw [List.take_of_length_le (by simp; omega), List.map_drop]
    rw [e8]
    refine ⟨by omega, by omega, ?_⟩
    have hcc := Concat3_g [x.ts[j].f] (P.drop c).reverse (Q.drop (c - 1)) hgu [] (by simp; omega)
    rw [List.append_nil] at hcc
    have e9 : [x.ts[j].f] ++ (P.drop c).reverse ++ Q.drop (c - 1) = x.loop := by rw [hlp, d3]; simp
    rw [e9] at hcc
    refine hcc.mono ?_
    rintro w h' ⟨gw, hgw, hdw, rfl⟩
    refine gK.go ?_
    simp -implicitDefEqProofs
    have hll : x.loop.length ≤ 13 := by rw [hlp]; simp; omega
    refine (ACalls.reads gw (fun p hp => List.mem_append_left _ hp) (v0 := stepAV (x.hol x.loop)) ?_ ?_).mono ?_
    · rw [lend_cons, lend_cons, lend_nil', lend1_cold gw (show cold (.agg _) = true from x.is.cold)]
      exact ACalls.wk (.cons (.refl _) (.cons hgw.own.lent.wk .nil)) (holonomy_c x x.loop [] hv (by omega))
    · rw [stepAV_eq]; rfl
    rintro v hh ⟨rfl, rfl⟩
    rw [stepAV_eq]
    refine gK.go ?_
    simp -implicitDefEqProofs
    obtain ⟨idv, rfl, rfl⟩ := hgw.ne (by rw [hlp]; simp)
    have hfin : Post (fun v h' => ∃ w, v = .tup [w, .int .i64 x.lsum, .int .i64 x.lcode] ∧ OwnL iv 1 w x.lres h') (.tup [.sl idv 1 0 (x.loop.map iv).length none, .int .i64 ((x.hol x.loop).getD 0), .int .i64 0]) [(idv, ⟨1, x.loop.map iv⟩)] := by
      refine .base ?_
      have a1 : x.lres = x.loop := by simp [Ph.lres, hv, h2]
      have a2 : x.lsum = (x.hol x.loop).getD 0 := by simp [Ph.lsum, hv, h2]
      have a3 : x.lcode = 0 := by simp [Ph.lcode, hv, h2]
      rw [a1, a2, a3]
      exact ⟨_, rfl, hgw.own⟩
    generalize (P.drop c).reverse.map iv = L at hgu
    cases hgu with
    | nil => exact hfin
    | emp => exact hfin
    | sl idu _ n hn =>
      have hne : ¬ idv = idu := fun e => hdw idv (by simp [dom]) (by simp [dom, e])
      refine .drop idu ?_
      simpa [hdel, hne] using hfin
theorem Ph.lres_len (x : Ph) : x.lres.length ≤ 13 := by
  unfold Ph.lres
  split
  · rename_i h
    obtain ⟨hv, hw⟩ := h
    obtain ⟨j, hj, e1, e2, e3⟩ := Ph.w0_spec hv hw
    obtain ⟨q1, q2, q3, q4, q5⟩ := Ph.edge hv hj
    have := Ph.path_len hv x.ts[j].f (a := x.ts[j].t) (by omega)
    unfold Ph.loop
    rw [e2]
    simp; omega
  · simp
end Go.AG
