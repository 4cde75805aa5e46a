/- The closure of a complex, as the reference makes it: the complex again. No statement is made here. -/
import Derived.Test.YtamjnegnoijjlaaFxH
import Derived.Test.YtamjnegnoijjlaaFxE
namespace Go.AG
open Go.Proofs Go.Proofs.Ytamjnegnoijjlaa
set_option linter.unusedSimpArgs false
set_option linter.unusedVariables false
set_option maxRecDepth 4000
theorem Wk.ip1 {a b : AV} (h : Wk a b) : Wk (.ip [a]) (.ip [b]) := fun w D v ⟨bl, o, e, h1, h2, ⟨⟨u, q1, q2, q3⟩, q4⟩⟩ => ⟨bl, o, e, h1, h2, ⟨⟨u, q1, q2, h w D u q3⟩, q4⟩⟩
theorem lend1_ip1 (L : Heap) (a : AV) : lend1 L (.ip [a]) = .ip [lend1 L a] := by
  induction L generalizing a with
  | nil => rfl
  | cons p L ih => simp only [lend1, fz, fzs]; exact ih _
theorem find_ptr {id : Nat} {w u : AV} (hu : cellsOf u = [w]) {rs : List (List Int)} {hp h : Heap} (G : Grow 1 w (rs.map il) hp) (s : List Int) (hl : ssTot rs ≤ 1048576) : ACalls Try.prog 73 [.ptr id 1 0 0, .snap 1 (s.map iv)] ((id, ⟨1, [u]⟩) :: (hp ++ h)) (fun v h' => v = .int .i64 (ixS rs s) ∧ h' = (id, ⟨1, [u]⟩) :: (hp ++ h)) := by
  refine ACalls.reads ((id, ⟨1, [u]⟩) :: hp) (fun p hp => ?_) ?_ rfl
  · rcases List.mem_cons.1 hp with rfl | hp
    · exact List.mem_cons_self ..
    · exact List.mem_cons_of_mem _ (List.mem_append_left _ hp)
  · rw [lend_cons, lend_cons, lend_nil', lend1_cold _ (x := .snap 1 (s.map iv)) (by simp [cold])]
    have e : lend1 ((id, (⟨1, [u]⟩ : Blk)) :: hp) (.ptr id 1 0 0) = .ip [lend1 hp w] := by
      simp only [lend1, fz, and_self, if_true, List.getElem?_cons_zero, hu, List.drop_zero]
      exact lend1_ip1 hp w
    rw [e]
    exact ACalls.wk (.cons (Wk.ip1 G.lentWk) (.cons (.refl _) .nil)) (l05Find_s rs [] s [] hl)
noncomputable def o_l00Own : List AV → Option (Prop × AV) := tab (fun (x : List Int) => match x with | l => [.snap 1 (l.map iv)]) (fun x => match x with | l => l.length ≤ 1048576) (fun x => match x with | l => .snap 1 (l.map iv))
@[simp] theorem o_l00Own_e (l : List Int) : o_l00Own [.snap 1 (l.map iv)] = some (l.length ≤ 1048576, .snap 1 (l.map iv)) := tab_at (enc := fun (x : List Int) => match x with | l => [.snap 1 (l.map iv)]) (fun x y h => by
  simp at h; simp [h] <;> omega) _ _ l
theorem o_l00Own_k : Knows Try.prog 89 o_l00Own := tab_knows fun x hx h => by
  exact (ACalls.post ((l00Own_g x h hx).mono fun v h' ⟨hp, g, e⟩ => by subst e; exact g.froze (fun x => x) (fun _ _ _ => rfl) (fun _ _ h => h) (.base ⟨rfl, rfl⟩)))
noncomputable def orcI : List (Nat × (List AV → Option (Prop × AV))) := (89, o_l00Own) :: (114, o_l05Drop) :: (113, o_l05Before) :: []
theorem orcI_p : Pure Try.prog (lk orcI) := (lk_pure o_l00Own_k (lk_pure o_l05Drop_k (lk_pure o_l05Before_k lk_pure0)))
@[simp] theorem orcI_l (b : Bool) (g : FuncId) (l : List AV) : lk orcI b g l = if g = 89 then o_l00Own l else if g = 114 then o_l05Drop l else if g = 113 then o_l05Before l else none := nr rfl
abbrev k115_o0 : List AJ := [.o ⟨(some 7), none, false, .mv (.t 0), none⟩, .o ⟨(some 8), none, false, .mv (.t 1), none⟩, .o ⟨(some 9), none, false, .call 73 [(.t 7), (.t 8)], none⟩, .o ⟨(some 10), none, false, .bin .geq (.t 9) (.c (.int .i64 0)), (some [0, 1, 10])⟩]
def k115_1 : ACode := .cond (.t 10) .ret .skip
def k115_2 : ACode := .seq (.region k115_o0) k115_1
abbrev k115_o1 : List AJ := [.o ⟨(some 4), none, false, .mv (.c (.int .i64 0)), (some [0, 1, 4])⟩]
abbrev k115_o2 : List AJ := [.o ⟨(some 11), none, false, .mv (.t 4), none⟩, .o ⟨(some 12), none, false, .mv (.t 1), none⟩, .o ⟨(some 13), none, false, .len (.t 12), none⟩, .o ⟨(some 14), none, false, .bin .lss (.t 11) (.t 13), none⟩, .o ⟨(some 15), none, false, .mv (.t 14), none⟩, .o ⟨(some 16), (some (15, true)), false, .mv (.t 1), none⟩, .o ⟨(some 17), (some (15, true)), false, .len (.t 16), none⟩, .o ⟨(some 18), (some (15, true)), false, .bin .gtr (.t 17) (.c (.int .i64 1)), none⟩, .o ⟨(some 19), none, false, .pick (.t 15) (.t 18) (.c (.bool false)), (some [0, 1, 4, 19])⟩]
def k115_5 : ACode := .cond (.t 19) .skip (.exit 0)
def k115_6 : ACode := .seq (.region k115_o2) k115_5
abbrev k115_o3 : List AJ := [.o ⟨(some 22), none, false, .mv (.t 0), none⟩, .o ⟨(some 23), none, false, .mv (.t 1), none⟩, .o ⟨(some 24), none, false, .mv (.t 4), none⟩, .o ⟨(some 25), none, false, .call 114 [(.t 23), (.t 24)], none⟩, .o ⟨(some 26), none, false, .call 115 [(.t 22), (.t 25)], (some [0, 1, 4])⟩]
def k115_7 : ACode := .region k115_o3
abbrev k115_o4 : List AJ := [.o ⟨(some 20), none, false, .mv (.t 4), none⟩, .o ⟨(some 21), none, true, .bin .add (.t 20) (.c (.int .i64 1)), none⟩, .o ⟨(some 4), none, false, .mv (.t 21), (some [0, 1, 4])⟩]
def k115_9 : ACode := .region k115_o4
def k115_10 : ACode := .seq (.block 1 k115_7) k115_9
def k115_11 : ACode := .seq k115_6 k115_10
def k115_12 : ACode := .loop k115_11
def k115_13 : ACode := .block 0 k115_12
def k115_14 : ACode := .seq (.region k115_o1) k115_13
abbrev k115_o5 : List AJ := [.o ⟨(some 5), none, false, .mv (.c (.int .i64 0)), (some [0, 1, 5])⟩]
abbrev k115_o6 : List AJ := [.o ⟨(some 27), none, false, .mv (.t 5), none⟩, .o ⟨(some 28), none, false, .mv (.t 0), none⟩, .o ⟨(some 29), none, false, .nilchk (.t 28), none⟩, .o ⟨(some 30), none, false, .fieldA 0 (.t 29), none⟩, .o ⟨(some 31), none, false, .load 1 false (.t 30), none⟩, .o ⟨(some 32), none, false, .len (.t 31), none⟩, .o ⟨(some 33), none, false, .bin .lss (.t 27) (.t 32), none⟩, .o ⟨(some 34), none, false, .mv (.t 33), none⟩, .o ⟨(some 35), (some (34, true)), false, .mv (.t 0), none⟩, .o ⟨(some 36), (some (34, true)), false, .nilchk (.t 35), none⟩, .o ⟨(some 37), (some (34, true)), false, .fieldA 0 (.t 36), (some [0, 1, 5, 34, 37])⟩, .o ⟨(some 38), (some (34, true)), false, .load 1 false (.t 37), none⟩, .o ⟨(some 39), (some (34, true)), false, .mv (.t 5), none⟩, .o ⟨(some 40), (some (34, true)), false, .idxA 1 (.t 38) (.t 39), none⟩, .o ⟨(some 41), (some (34, true)), false, .load 1 false (.t 40), none⟩, .o ⟨(some 42), (some (34, true)), false, .mv (.t 1), none⟩, .o ⟨(some 43), (some (34, true)), false, .call 113 [(.t 41), (.t 42)], none⟩, .o ⟨(some 44), none, false, .pick (.t 34) (.t 43) (.c (.bool false)), (some [0, 1, 5, 44])⟩]
def k115_17 : ACode := .cond (.t 44) .skip (.exit 2)
def k115_18 : ACode := .seq (.region k115_o6) k115_17
abbrev k115_o7 : List AJ := [.o ⟨(some 45), none, false, .mv (.t 5), none⟩, .o ⟨(some 46), none, true, .bin .add (.t 45) (.c (.int .i64 1)), none⟩, .o ⟨(some 5), none, false, .mv (.t 46), (some [0, 1, 5])⟩]
def k115_19 : ACode := .region k115_o7
def k115_20 : ACode := .block 3 k115_19
def k115_21 : ACode := .seq k115_18 k115_20
def k115_22 : ACode := .loop k115_21
abbrev k115_o8 : List AJ := [.e 47 1 none, .o ⟨(some 48), none, false, .mv (.t 0), none⟩, .o ⟨(some 49), none, false, .nilchk (.t 48), none⟩, .o ⟨(some 50), none, false, .fieldA 0 (.t 49), none⟩, .o ⟨(some 51), none, false, .load 1 false (.t 50), none⟩, .o ⟨(some 52), none, false, .mv (.t 5), none⟩, .o ⟨(some 53), none, false, .slice 1 (.t 51) none (some (.t 52)) none, none⟩, .o ⟨(some 54), none, false, .append 1 24 (.t 47) (.t 53), none⟩, .o ⟨(some 6), none, false, .mv (.t 54), (some [0, 1, 5, 6])⟩]
abbrev k115_o9 : List AJ := [.o ⟨(some 55), none, false, .mv (.t 6), none⟩, .o ⟨(some 56), none, false, .mv (.t 1), none⟩, .o ⟨(some 57), none, false, .call 89 [(.t 56)], none⟩, .o ⟨(some 58), none, false, .bsl false 1 [(.t 57)], none⟩, .o ⟨(some 59), none, false, .append 1 24 (.t 55) (.t 58), none⟩, .o ⟨(some 6), none, false, .mv (.t 59), (some [0, 5, 6])⟩]
abbrev k115_o10 : List AJ := [.o ⟨(some 60), none, false, .mv (.t 0), none⟩, .o ⟨(some 61), none, false, .mv (.t 6), none⟩, .o ⟨(some 62), none, false, .mv (.t 0), none⟩, .o ⟨(some 63), none, false, .nilchk (.t 62), none⟩, .o ⟨(some 64), none, false, .fieldA 0 (.t 63), none⟩, .o ⟨(some 65), none, false, .load 1 false (.t 64), none⟩, .o ⟨(some 66), none, false, .mv (.t 5), none⟩, .o ⟨(some 67), none, false, .slice 1 (.t 65) (some (.t 66)) none none, none⟩, .o ⟨(some 68), none, false, .append 1 24 (.t 61) (.t 67), none⟩, .o ⟨(some 69), none, false, .nilchk (.t 60), none⟩, .o ⟨(some 70), none, false, .fieldA 0 (.t 69), none⟩, .o ⟨none, none, false, .store 1 (.t 70) (.t 68), (some [])⟩]
def k115_26 : ACode := .region k115_o10
def k115_27 : ACode := .seq (.region k115_o9) k115_26
def k115_28 : ACode := .seq (.region k115_o8) k115_27
def k115_29 : ACode := .seq (.block 2 k115_22) k115_28
def k115_30 : ACode := .seq (.region k115_o5) k115_29
def k115_31 : ACode := .seq k115_14 k115_30
def k115_32 : ACode := .seq k115_2 k115_31
@[simp, simp ↓] theorem k115_1r : rC k115_1 (.t 10) .ret .skip := zC rfl
@[simp, simp ↓] theorem k115_2r : sR k115_2 k115_o0 k115_1 := yR rfl
@[simp, simp ↓] theorem k115_5r : rC k115_5 (.t 19) .skip (.exit 0) := zC rfl
@[simp, simp ↓] theorem k115_6r : sR k115_6 k115_o2 k115_5 := yR rfl
@[simp, simp ↓] theorem k115_7r : rR k115_7 k115_o3 := zR rfl
@[simp, simp ↓] theorem k115_9r : rR k115_9 k115_o4 := zR rfl
@[simp, simp ↓] theorem k115_10r : sB k115_10 1 k115_7 k115_9 := yB rfl
@[simp, simp ↓] theorem k115_11r : rS k115_11 k115_6 k115_10 := zS rfl
@[simp, simp ↓] theorem k115_12r : rL k115_12 k115_11 := zL rfl
@[simp, simp ↓] theorem k115_13r : rB k115_13 0 k115_12 := zB rfl
@[simp, simp ↓] theorem k115_14r : sR k115_14 k115_o1 k115_13 := yR rfl
@[simp, simp ↓] theorem k115_17r : rC k115_17 (.t 44) .skip (.exit 2) := zC rfl
@[simp, simp ↓] theorem k115_18r : sR k115_18 k115_o6 k115_17 := yR rfl
@[simp, simp ↓] theorem k115_19r : rR k115_19 k115_o7 := zR rfl
@[simp, simp ↓] theorem k115_20r : rB k115_20 3 k115_19 := zB rfl
@[simp, simp ↓] theorem k115_21r : rS k115_21 k115_18 k115_20 := zS rfl
@[simp, simp ↓] theorem k115_22r : rL k115_22 k115_21 := zL rfl
@[simp, simp ↓] theorem k115_26r : rR k115_26 k115_o10 := zR rfl
@[simp, simp ↓] theorem k115_27r : sR k115_27 k115_o9 k115_26 := yR rfl
@[simp, simp ↓] theorem k115_28r : sR k115_28 k115_o8 k115_27 := yR rfl
@[simp, simp ↓] theorem k115_29r : sB k115_29 2 k115_22 k115_28 := yB rfl
@[simp, simp ↓] theorem k115_30r : sR k115_30 k115_o5 k115_29 := yR rfl
@[simp, simp ↓] theorem k115_31r : rS k115_31 k115_14 k115_30 := zS rfl
@[simp, simp ↓] theorem k115_32r : rS k115_32 k115_2 k115_31 := zS rfl
noncomputable abbrev k115_C : Orc → Cx := mkC Try.prog [47] 115 71 []
theorem k115_of0 : OfP0 Try.prog Try.f115 115 71 k115_C k115_32 := @ofP0 _ _ _ _ _ _ _ _ Try.func115 (by decide +kernel) rfl (by kernel_rfl) rfl (by kernel_rfl)
theorem put_old {id : Nat} {w u : AV} (hu : cellsOf u = [w]) {rs : List (List Int)} {hp h : Heap} (G : Grow 1 w (rs.map il) hp) (s : List Int) (hl : ssTot rs ≤ 1048576) (hs : s ∈ rs) : ACalls Try.prog 115 [.ptr id 1 0 0, .snap 1 (s.map iv)] ((id, ⟨1, [u]⟩) :: (hp ++ h)) (fun v h' => v = .tup [] ∧ h' = (id, ⟨1, [u]⟩) :: (hp ++ h)) := by
  obtain ⟨i, hi, _, e⟩ := ixS_mem hs
  refine k115_of0 rfl orcI_p fun I => ?_
  refine Run2.of I 1000 ?_
  simp -implicitDefEqProofs
  refine (find_ptr hu G s hl).mono ?_
  rintro v h' ⟨rfl, rfl⟩
  rw [e]
  refine gK.go ?_
  simp -implicitDefEqProofs
theorem put_new {id : Nat} {w u : AV} (hu : cellsOf u = [w]) {rs : List (List Int)} {hp h : Heap} (G : Grow 1 w (rs.map il) hp) (hid : id ∉ dom hp) (s : List Int) (hl : ssTot rs ≤ 1048576) (h48 : rs.length ≤ 48) (hsl : s.length ≤ 4) (hs : s ∉ rs) (hf : ∀ f ∈ faces s, f ∈ rs) (hb : ∀ r ∈ rs, cmpS r s < 0) : ACalls Try.prog 115 [.ptr id 1 0 0, .snap 1 (s.map iv)] ((id, ⟨1, [u]⟩) :: (hp ++ h)) (fun v h' => ∃ w' hp', v = .tup [] ∧ Grow 1 w' ((rs ++ [s]).map il) hp' ∧ id ∉ dom hp' ∧ h' = (id, ⟨1, [w']⟩) :: (hp' ++ h)) := by
  have e := ixS_none hs
  refine ACalls.sub ?_
  refine k115_of0 rfl orcI_p fun I => ?_
  refine Run2.of I 1000 ?_
  simp -implicitDefEqProofs
  refine (find_ptr hu G s hl).mono ?_
  rintro v h' ⟨rfl, rfl⟩
  rw [e]
  refine gK.go ?_
  simp -implicitDefEqProofs
  generalize hR : (fun (v : AV) (h'' : Heap) => _) = R
  have hfit := fit_of_tot hl
  have hsl' : s.length ≤ 1048576 := by omega
  have leaf : ∀ w' hp' g, Grow 1 w' (rs.map il ++ [.snap 1 (s.map iv)]) hp' → id ∉ dom hp' → (∀ a b, (a, b) ∈ ((id, (⟨1, [w']⟩ : Blk)) :: (hp' ++ h)) → (a, b) ∈ g) → ((dom g).Nodup → (dom ((id, (⟨1, [w']⟩ : Blk)) :: (hp' ++ h))).Nodup) → R (.tup []) g := fun w' hp' g G h0 h1 h2 => by
    subst hR
    exact ⟨_, h1, h2, rfl, w', hp', G, h0, rfl⟩
  have rest : Run2 (k115_C (lk orcI)) [.code k115_21, .inLoop k115_21, .inBlock 2, .code k115_28] [(0, .ptr id 1 0 0), (1, .snap 1 (s.map iv)), (5, .int .i64 0)] ((id, ⟨1, [u]⟩) :: (hp ++ h)) R := by
    clear hR
    generalize hm : rs.map il = m at G leaf
    have hrm : rs.length = m.length := by rw [← hm]; simp
    have hmg : ∀ i (hi : i < rs.length), m[i]? = some (il rs[i]) := fun i hi => by rw [← hm]; simp [hi]
    cases G with
    | nil =>
      refine Run2.loopE (fun (k : Unit) => [(0, .ptr id 1 0 0), (1, .snap 1 (s.map iv)), (5, .int .i64 0)]) (fun _ => (id, ⟨1, [u]⟩) :: h) (fun k => 0) (fun k => True) () (by simp) (by simp) trivial fun k hk ih => ?_
      refine Run2.of I 1000 ?_
      simp -implicitDefEqProofs [hsl', hu]
      intro i1 n1 n2
      refine gK.go ?_
      simp -implicitDefEqProofs [n1, n2, Ne.symm n1, hu]
      intro i3 m1 m2
      refine gK.go ?_
      simp -implicitDefEqProofs [m1, Ne.symm m1, hu]
      exact leaf (.sl i3 1 0 1 none) [(i3, ⟨1, [.snap 1 (s.map iv)]⟩)] _ (.sl i3 _ _ rfl) (by simpa [dom] using Ne.symm m1) (fun a b hab => by simp only [List.mem_cons, List.cons_append, List.nil_append] at hab ⊢; rcases hab with h | h | h <;> simp [h]) (fun nd => by simp [dom] at nd ⊢; grind)
    | emp =>
      refine Run2.loopE (fun (k : Unit) => [(0, .ptr id 1 0 0), (1, .snap 1 (s.map iv)), (5, .int .i64 0)]) (fun _ => (id, ⟨1, [u]⟩) :: h) (fun k => 0) (fun k => True) () (by simp) (by simp) trivial fun k hk ih => ?_
      refine Run2.of I 1000 ?_
      simp -implicitDefEqProofs [hsl', hu]
      intro i1 n1 n2
      refine gK.go ?_
      simp -implicitDefEqProofs [n1, n2, Ne.symm n1, hu]
      intro i3 m1 m2
      refine gK.go ?_
      simp -implicitDefEqProofs [m1, Ne.symm m1, hu]
      exact leaf (.sl i3 1 0 1 none) [(i3, ⟨1, [.snap 1 (s.map iv)]⟩)] _ (.sl i3 _ _ rfl) (by simpa [dom] using Ne.symm m1) (fun a b hab => by simp only [List.mem_cons, List.cons_append, List.nil_append] at hab ⊢; rcases hab with h | h | h <;> simp [h]) (fun nd => by simp [dom] at nd ⊢; grind)
    | sl idw m n hn =>
      subst hn
      have hne : ¬ id = idw := fun e => hid (by simp [dom, e])
      refine Run2.loopE (fun (k : Nat) => [(0, .ptr id 1 0 0), (1, .snap 1 (s.map iv)), (5, .int .i64 k)]) (fun _ => (id, ⟨1, [u]⟩) :: (idw, ⟨1, m⟩) :: h) (fun k => m.length - k) (fun k => k ≤ m.length) 0 (by simp) (by simp) (Nat.zero_le _) fun k hk ih => ?_
      by_cases hkl : k < m.length
      · have go := ih (k + 1) hkl (by omega)
        have hkr : k < rs.length := by omega
        have hb1 := hb _ (List.getElem_mem hkr)
        have hr := hfit.2 _ (List.getElem_mem hkr)
        have hg := hmg k hkr
        have hg' : m[k] = .snap 1 (rs[k].map iv) := by
          have := List.getElem?_eq_some_iff.1 hg
          exact this.2
        clear ih
        refine Run2.of I 1000 ?_
        simp -implicitDefEqProofs [hkl, hg', hr, hb1, hne, Ne.symm hne, hu]
        refine ⟨by omega, by simpa using go⟩
      · obtain rfl : k = m.length := by omega
        have hml : m.length ≤ 48 := by omega
        have hif : (if m = [] then some [] else some m) = some m := by split <;> simp_all
        by_cases hme : m = []
        · subst hme
          refine Run2.of I 1000 ?_
          simp -implicitDefEqProofs [hsl', hne, Ne.symm hne, hu]
          intro i1 n0 n1 n2
          refine gK.go ?_
          simp -implicitDefEqProofs [n0, n1, n2, Ne.symm n1, Ne.symm n0, hu]
          intro i3 m0 m1 m2
          refine gK.go ?_
          simp -implicitDefEqProofs [m0, m1, Ne.symm m0, Ne.symm m1, hu, hne, Ne.symm hne]
          exact leaf (.sl i3 1 0 1 none) [(i3, ⟨1, [.snap 1 (s.map iv)]⟩)] _ (.sl i3 _ _ rfl) (by simpa [dom] using Ne.symm m0) (fun a b hab => by simp only [List.mem_cons, List.cons_append, List.nil_append] at hab ⊢; rcases hab with h | h | h <;> simp [h]) (fun nd => by simp [dom] at nd ⊢; grind)
        · have hme' : m.isEmpty = false := by cases m <;> simp_all
          refine Run2.of I 1000 ?_
          simp -implicitDefEqProofs [hkl, hsl', hne, Ne.symm hne, hif, hme, hme', hu]
          refine ⟨by omega, fun i1 n0 n1 n2 => ?_⟩
          refine gK.go ?_
          simp -implicitDefEqProofs [n0, n1, n2, Ne.symm n1, Ne.symm n0, hne, Ne.symm hne, hu, hsl']
          refine ⟨by omega, fun i2 p0 p1 p2 => ?_⟩
          refine gK.go ?_
          simp -implicitDefEqProofs [p0, p1, p2, Ne.symm p1, Ne.symm p0, hne, Ne.symm hne, hu]
          refine ⟨by omega, fun i3 m0 m1 m2 => ?_⟩
          rw [List.take_of_length_le (by simp)]
          refine gK.go ?_
          simp -implicitDefEqProofs [m0, m1, Ne.symm m0, Ne.symm m1, hu, hne, Ne.symm hne]
          exact leaf (.sl i3 1 0 (m.length + 1) none) [(i3, ⟨1, m ++ [.snap 1 (s.map iv)]⟩)] _ (.sl i3 _ _ (by simp)) (by simpa [dom] using Ne.symm m0) (fun a b hab => by simp only [List.mem_cons, List.cons_append, List.nil_append] at hab ⊢; rcases hab with h | h | h <;> simp [h]) (fun nd => by simp [dom] at nd ⊢; grind)
  have hs1 : 1 < s.length ∨ ¬ 1 < s.length := by omega
  rcases hs1 with hs1 | hs1
  · have hs1' : (1 : Int) < s.length := by omega
    refine Run2.loopE (fun (k : Nat) => [(0, .ptr id 1 0 0), (1, .snap 1 (s.map iv)), (4, .int .i64 k)]) (fun _ => (id, ⟨1, [u]⟩) :: (hp ++ h)) (fun k => s.length - k) (fun k => k ≤ s.length) 0 (by simp) rfl (Nat.zero_le _) fun k hk ih => ?_
    by_cases hkl : k < s.length
    · have go := ih (k + 1) hkl (by omega)
      have hm := hf _ (faces_mem.2 ⟨hs1, k, hkl, rfl⟩)
      clear ih
      refine Run2.of I 1000 ?_
      simp -implicitDefEqProofs [hkl, hs1', hsl']
      refine (put_old hu G (dropK s k) hl hm).mono ?_
      rintro v h' ⟨rfl, rfl⟩
      refine gK.go ?_
      simp -implicitDefEqProofs
      refine ⟨by omega, by simpa using go⟩
    · obtain rfl : k = s.length := by omega
      refine Run2.of I 1000 ?_
      simp -implicitDefEqProofs [hkl]
      exact rest
  · have hs1' : ¬ (1 : Int) < s.length := by omega
    refine Run2.loopE (fun (k : Unit) => [(0, .ptr id 1 0 0), (1, .snap 1 (s.map iv)), (4, .int .i64 0)]) (fun _ => (id, ⟨1, [u]⟩) :: (hp ++ h)) (fun k => 0) (fun k => True) () (by simp) rfl trivial fun k hk ih => ?_
    refine Run2.of I 1000 ?_
    by_cases hs0 : 0 < s.length
    · simp -implicitDefEqProofs [hs0, hs1']
      exact rest
    · simp -implicitDefEqProofs [hs0]
      exact rest
abbrev k72_o0 : List AJ := [.o ⟨(some 2), none, false, .alloc true 1 (.agg [.nilsl]), (some [0, 2])⟩]
abbrev k72_o1 : List AJ := [.e 5 1 none, .o ⟨(some 6), none, false, .build [.nilsl] [(0, 1, (.t 5))], none⟩, .o ⟨(some 3), none, false, .alloc true 1 (.agg [.nilsl]), none⟩, .o ⟨none, none, false, .store 1 (.t 3) (.t 6), (some [0, 2, 3])⟩]
abbrev k72_o2 : List AJ := [.o ⟨(some 4), none, false, .mv (.c (.int .i64 0)), (some [0, 2, 3, 4])⟩]
abbrev k72_o3 : List AJ := [.o ⟨(some 7), none, false, .mv (.t 4), none⟩, .o ⟨(some 8), none, false, .mv (.t 0), none⟩, .o ⟨(some 9), none, false, .len (.t 8), none⟩, .o ⟨(some 10), none, false, .bin .lss (.t 7) (.t 9), (some [0, 2, 3, 4, 10])⟩]
def k72_4 : ACode := .cond (.t 10) .skip (.exit 0)
def k72_5 : ACode := .seq (.region k72_o3) k72_4
abbrev k72_o4 : List AJ := [.o ⟨(some 13), none, false, .mv (.t 0), none⟩, .o ⟨(some 14), none, false, .mv (.t 4), none⟩, .o ⟨(some 15), none, false, .idxA 1 (.t 13) (.t 14), none⟩, .o ⟨(some 16), none, false, .load 1 false (.t 15), none⟩, .o ⟨(some 17), none, false, .call 115 [(.t 3), (.t 16)], (some [0, 2, 3, 4])⟩]
def k72_6 : ACode := .region k72_o4
abbrev k72_o5 : List AJ := [.o ⟨(some 11), none, false, .mv (.t 4), none⟩, .o ⟨(some 12), none, true, .bin .add (.t 11) (.c (.int .i64 1)), none⟩, .o ⟨(some 4), none, false, .mv (.t 12), (some [0, 2, 3, 4])⟩]
def k72_8 : ACode := .region k72_o5
def k72_9 : ACode := .seq (.block 1 k72_6) k72_8
def k72_10 : ACode := .seq k72_5 k72_9
def k72_11 : ACode := .loop k72_10
def k72_12 : ACode := .block 0 k72_11
def k72_13 : ACode := .seq (.region k72_o2) k72_12
abbrev k72_o6 : List AJ := [.o ⟨(some 18), none, false, .load 1 true (.t 3), none⟩, .o ⟨none, none, false, .store 1 (.t 2) (.t 18), (some [2])⟩]
def k72_15 : ACode := .seq (.region k72_o6) .ret
def k72_16 : ACode := .seq k72_13 k72_15
def k72_17 : ACode := .seq (.region k72_o1) k72_16
def k72_18 : ACode := .seq (.region k72_o0) k72_17
@[simp, simp ↓] theorem k72_4r : rC k72_4 (.t 10) .skip (.exit 0) := zC rfl
@[simp, simp ↓] theorem k72_5r : sR k72_5 k72_o3 k72_4 := yR rfl
@[simp, simp ↓] theorem k72_6r : rR k72_6 k72_o4 := zR rfl
@[simp, simp ↓] theorem k72_8r : rR k72_8 k72_o5 := zR rfl
@[simp, simp ↓] theorem k72_9r : sB k72_9 1 k72_6 k72_8 := yB rfl
@[simp, simp ↓] theorem k72_10r : rS k72_10 k72_5 k72_9 := zS rfl
@[simp, simp ↓] theorem k72_11r : rL k72_11 k72_10 := zL rfl
@[simp, simp ↓] theorem k72_12r : rB k72_12 0 k72_11 := zB rfl
@[simp, simp ↓] theorem k72_13r : sR k72_13 k72_o2 k72_12 := yR rfl
@[simp, simp ↓] theorem k72_15r : sR k72_15 k72_o6 .ret := yR rfl
@[simp, simp ↓] theorem k72_16r : rS k72_16 k72_13 k72_15 := zS rfl
@[simp, simp ↓] theorem k72_17r : sR k72_17 k72_o1 k72_16 := yR rfl
@[simp, simp ↓] theorem k72_18r : sR k72_18 k72_o0 k72_17 := yR rfl
noncomputable abbrev k72_C : Orc → Cx := mkC Try.prog [2, 3, 5] 72 19 [.cell 2 1 true]
theorem k72_of : OfP Try.prog Try.f72 72 19 k72_C k72_18 := @ofP _ _ _ _ _ _ _ _ Try.func72 (by decide +kernel) rfl (by kernel_rfl) rfl (by kernel_rfl)
theorem cxOk.take_new {rs : List (List Int)} (h : cxOk rs) {i : Nat} (hi : i < rs.length) : rs[i] ∉ rs.take i ∧ (∀ f ∈ faces rs[i], f ∈ rs.take i) ∧ ∀ r ∈ rs.take i, cmpS r rs[i] < 0 := by
  have hlt : ∀ r ∈ rs.take i, cmpS r rs[i] < 0 := fun r hr => by
    obtain ⟨j, hj, rfl⟩ := List.mem_iff_getElem.1 hr
    simp only [List.length_take] at hj
    simp only [List.getElem_take]
    exact h.sort.lt (by omega) hi
  refine ⟨fun hm => ?_, (((cxOk_iff rs).1 h).1 i hi).2.2, hlt⟩
  have := hlt _ hm
  have := (cmpS_zero rs[i] rs[i]).2 rfl
  omega
theorem closure_c (rs : List (List Int)) (h : Heap) (hc : cxOk rs) (hl : ssTot rs ≤ 1048576) : ACalls Try.prog 72 [.snap 1 (rs.map il)] h (fun v h' => v = cx rs ∧ h' = h) := by
  have h48 := hc.2
  refine k72_of rfl noPure fun I => ?_
  refine Run2.of I 1000 ?_
  simp -implicitDefEqProofs
  intro t ht c hc1 hc2
  refine gK.go ?_
  simp -implicitDefEqProofs [hc1]
  refine Run2.loopE (α := Nat × AV × AV × Heap) (fun p => [(0, .snap 1 (rs.map il)), (2, .ptr t 1 0 0), (3, .ptr c 1 0 0), (4, .int .i64 (p.1 : Nat))]) (fun p => (c, ⟨1, [p.2.1]⟩) :: (p.2.2.2 ++ ((t, ⟨1, [.agg [.nilsl]]⟩) :: h))) (fun p => rs.length - p.1) (fun p => p.1 ≤ rs.length ∧ cellsOf p.2.1 = [p.2.2.1] ∧ Grow 1 p.2.2.1 ((rs.take p.1).map il) p.2.2.2 ∧ c ∉ dom p.2.2.2 ∧ t ∉ dom p.2.2.2) (0, .agg [.emp], .emp, []) (by simp) (by simp) ⟨Nat.zero_le _, rfl, by simpa using Grow.emp, by simp [dom], by simp [dom]⟩ ?_
  rintro ⟨i, u, w, hp⟩ ⟨hi, hu, hg, hcd, htd⟩ ih
  simp only at hi hu hg hcd htd
  by_cases hlt : i < rs.length
  · obtain ⟨a1, a2, a3⟩ := hc.take_new hlt
    have htl := ssTot_take rs i
    have hsm := (hc.1 i hlt).1.1.2
    have hput := put_new (id := c) (h := (t, ⟨1, [.agg [.nilsl]]⟩) :: h) hu hg hcd rs[i] (by omega) (by simp; omega) hsm a1 a2 a3
    refine Run2.of I 1000 ?_
    simp -implicitDefEqProofs [hlt]
    refine hput.monoN ?_
    rintro v h' ⟨w', hp', rfl, hg', hd', rfl⟩ nd
    have htd' : t ∉ dom hp' := fun hm => by
      simp only [dom_cons, dom_append, List.nodup_cons, List.nodup_append] at nd
      exact nd.2.2.2 t hm t (by simp) rfl
    have go := ih (i + 1, w', w', hp') ⟨hlt, cells_of hg'.cell, by
      simp only
      rw [List.take_succ_eq_append_getElem hlt]
      exact hg', hd', htd'⟩ (by simp; omega)
    refine gK.go ?_
    simp -implicitDefEqProofs
    refine ⟨by omega, by simpa using go⟩
  · obtain rfl : i = rs.length := by omega
    rw [List.take_length] at hg
    refine Run2.of I 1000 ?_
    have hcell := hg.cell
    have gT : ∀ z, hget (hp ++ z) t = hget z t := fun z => hget_app htd
    have sT : ∀ z b, hset (hp ++ z) t b = hp ++ hset z t b := fun z b => hset_app htd
    simp -implicitDefEqProofs [hlt, hu, hcell, hc1, gT, sT]
    refine .drop c ?_
    simp only [hdel, if_true]
    refine hg.froze (fun x => .agg [x]) (fun _ _ _ => rfl) (fun _ _ h => Wk.agg (.cons h .nil)) ?_
    refine .drop t (.base ⟨rfl, ?_⟩)
    simp [hdel]
noncomputable def o_closure : List AV → Option (Prop × AV) := tab (fun (x : LS) => match x with | rs => [.snap 1 (rs.map il)]) (fun x => match x with | rs => (cxOk rs ∧ ssTot rs ≤ 1048576)) (fun x => match x with | rs => .agg [.snap 1 (rs.map il)])
@[simp] theorem o_closure_e (rs : LS) : o_closure [.snap 1 (rs.map il)] = some ((cxOk rs ∧ ssTot rs ≤ 1048576), .agg [.snap 1 (rs.map il)]) := tab_at (enc := fun (x : LS) => match x with | rs => [.snap 1 (rs.map il)]) (fun x y h => by
  simp at h; simp [h] <;> omega) _ _ rs
theorem o_closure_k : Knows Try.prog 72 o_closure := tab_knows fun x hx h => by
  exact closure_c x h hx.1 hx.2
end Go.AG
