/- A filtration with one time raised: the program and the reference. No statement is made here. -/
import Derived.Test.YtamjnegnoijjlaaGreatFxR
namespace Go.AG
open Go.Proofs Go.Proofs.YtamjnegnoijjlaaGreat
set_option linter.unusedSimpArgs false
set_option linter.unusedVariables false
set_option maxRecDepth 4000
/-- Times at some places are not before t. -/
def rzL (t : Int) (st : List Nat) (l : List Int) : List Int := st.foldl (fun l i => l.set i (max (l.getD i 0) t)) l
theorem rzL_len (t : Int) (st : List Nat) (l : List Int) : (rzL t st l).length = l.length := by
  induction st generalizing l with
  | nil => rfl
  | cons a st ih => simp only [rzL, List.foldl_cons] at ih ⊢; rw [ih]; simp
theorem rzL_snoc (t : Int) (st : List Nat) (a : Nat) (l : List Int) : rzL t (st ++ [a]) l = (rzL t st l).set a (max ((rzL t st l).getD a 0) t) := by
  simp only [rzL, List.foldl_append, List.foldl_cons, List.foldl_nil]
noncomputable def Fil.rzCode (x : Fil) (k t : Int) : Int := if x.valid then if (0 ≤ k ∧ k ≤ x.ts.length - 1) ∧ (0 ≤ t ∧ t ≤ 1000) then 0 else 2 else 1
def Fil.rzT (x : Fil) (k t : Int) : Fil := ⟨x.rs, rzL t (starN x.rs (x.rs.getD k.toNat []) x.rs.length) x.ts⟩
noncomputable def Fil.rzF (x : Fil) (k t : Int) : Fil := if x.rzCode k t = 0 then x.rzT k t else ⟨[], []⟩
theorem Fil.rzF_tot (x : Fil) (k t : Int) : (x.rzF k t).tot ≤ x.tot := by
  unfold Fil.rzF
  split
  · simp [Fil.tot, Fil.rzT, rzL_len]
  · simp [Fil.tot, ssTot, sumL]
theorem Fil.rzCode_ok {x : Fil} {k t : Int} (h : x.rzCode k t = 0) : x.valid ∧ (0 ≤ k ∧ k ≤ x.ts.length - 1) ∧ 0 ≤ t ∧ t ≤ 1000 := by
  unfold Fil.rzCode at h
  split at h
  · split at h
    · rename_i h1 h2; exact ⟨h1, h2.1, h2.2⟩
    · omega
  · omega
abbrev k35_o0 : List AJ := [.o ⟨(some 2), none, false, .mv (.c (.int .i64 0)), (some [0])⟩]
abbrev k35_o1 : List AJ := [.o ⟨(some 3), none, false, .mv (.t 0), none⟩, .o ⟨(some 4), none, false, .len (.t 3), none⟩, .o ⟨(some 2), none, false, .mv (.t 4), (some [2])⟩]
def k35_2 : ACode := .seq (.region k35_o1) .ret
def k35_3 : ACode := .seq (.region k35_o0) k35_2
@[simp, simp ↓] theorem k35_2r : sR k35_2 k35_o1 .ret := yR rfl
@[simp, simp ↓] theorem k35_3r : sR k35_3 k35_o0 k35_2 := yR rfl
noncomputable abbrev k35_C : Orc → Cx := mkC Tryz.prog [] 35 5 [.tmp 2]
theorem k35_of0 : OfP0 Tryz.prog Tryz.f35 35 5 k35_C k35_3 := @ofP0 _ _ _ _ _ _ _ _ Tryz.func35 (by decide +kernel) rfl (by kernel_rfl) rfl (by kernel_rfl)
theorem sizeI_s (l : List Int) (h : Heap) : ACalls Tryz.prog 35 [.snap 1 (l.map iv)] h (fun v h' => v = .int .i64 l.length ∧ h' = h) := by
  refine k35_of0 rfl noPure fun I => ?_
  refine Run2.of I 1000 ?_
  simp -implicitDefEqProofs
noncomputable def o_sizeI : List AV → Option (Prop × AV) := tab (fun (x : List Int) => match x with | l => [.snap 1 (l.map iv)]) (fun x => match x with | l => True) (fun x => match x with | l => .int .i64 l.length)
@[simp] theorem o_sizeI_e (l : List Int) : o_sizeI [.snap 1 (l.map iv)] = some (True, .int .i64 l.length) := tab_at (enc := fun (x : List Int) => match x with | l => [.snap 1 (l.map iv)]) (fun x y h => by
  simp at h; simp [h] <;> omega) _ _ l
theorem o_sizeI_k : Knows Tryz.prog 35 o_sizeI := tab_knows fun x hx h => by
  exact sizeI_s x h
noncomputable def orcS5 : List (Nat × (List AV → Option (Prop × AV))) := (35, o_sizeI) :: (34, o_within) :: (36, o_isTime) :: (26, o_l00In) :: (27, o_l21Time) :: (25, o_l21Ok) :: []
theorem orcS5_p : Pure Tryz.prog (lk orcS5) := (lk_pure o_sizeI_k (lk_pure o_within_k (lk_pure o_isTime_k (lk_pure o_l00In_k (lk_pure o_l21Time_k (lk_pure o_l21Ok_k lk_pure0))))))
@[simp] theorem orcS5_l (b : Bool) (g : FuncId) (l : List AV) : lk orcS5 b g l = if g = 35 then o_sizeI l else if g = 34 then o_within l else if g = 36 then o_isTime l else if g = 26 then o_l00In l else if g = 27 then o_l21Time l else if g = 25 then o_l21Ok l else none := nr rfl
abbrev k10_o0 : List AJ := [.o ⟨(some 3), none, false, .box false 2 (.t 0), none⟩, .o ⟨(some 6), none, false, .alloc true 2 (.agg [.nilsl, .nilsl]), none⟩, .o ⟨(some 7), none, false, .mv (.c (.int .i64 0)), (some [1, 2, 3, 6])⟩]
abbrev k10_o1 : List AJ := [.o ⟨(some 11), none, false, .load 2 true (.t 3), none⟩, .o ⟨(some 12), none, false, .call 33 [(.t 11)], none⟩, .o ⟨(some 13), none, false, .un .not (.t 12), (some [1, 2, 3, 6, 13])⟩]
abbrev k10_o2 : List AJ := [.o ⟨(some 14), none, false, .build [.nilsl, .nilsl] [], none⟩, .o ⟨none, none, false, .store 2 (.t 6) (.t 14), none⟩, .o ⟨(some 7), none, false, .mv (.c (.int .i64 1)), (some [6, 7])⟩]
def k10_3 : ACode := .seq (.region k10_o2) .ret
def k10_4 : ACode := .cond (.t 13) k10_3 .skip
def k10_5 : ACode := .seq (.region k10_o1) k10_4
abbrev k10_o3 : List AJ := [.o ⟨(some 15), none, false, .mv (.t 1), none⟩, .o ⟨(some 16), none, false, .fieldA 1 (.t 3), none⟩, .o ⟨(some 17), none, false, .load 1 false (.t 16), none⟩, .o ⟨(some 18), none, false, .call 35 [(.t 17)], none⟩, .o ⟨(some 19), none, true, .bin .sub (.t 18) (.c (.int .i64 1)), none⟩, .o ⟨(some 20), none, false, .call 34 [(.t 15), (.c (.int .i64 0)), (.t 19)], none⟩, .o ⟨(some 21), none, false, .un .not (.t 20), none⟩, .o ⟨(some 22), none, false, .mv (.t 21), none⟩, .o ⟨(some 23), (some (22, false)), false, .mv (.t 2), none⟩, .o ⟨(some 24), (some (22, false)), false, .call 36 [(.t 23)], none⟩, .o ⟨(some 25), (some (22, false)), false, .un .not (.t 24), (some [1, 2, 3, 6, 22, 25])⟩, .o ⟨(some 26), none, false, .pick (.t 22) (.c (.bool true)) (.t 25), (some [1, 2, 3, 6, 26])⟩]
abbrev k10_o4 : List AJ := [.o ⟨(some 27), none, false, .build [.nilsl, .nilsl] [], none⟩, .o ⟨none, none, false, .store 2 (.t 6) (.t 27), none⟩, .o ⟨(some 7), none, false, .mv (.c (.int .i64 2)), (some [6, 7])⟩]
def k10_8 : ACode := .seq (.region k10_o4) .ret
def k10_9 : ACode := .cond (.t 26) k10_8 .skip
def k10_10 : ACode := .seq (.region k10_o3) k10_9
abbrev k10_o5 : List AJ := [.o ⟨(some 28), none, false, .load 2 true (.t 3), none⟩, .o ⟨(some 29), none, false, .call 37 [(.t 28)], none⟩, .v 8 2 (.agg [.nilsl, .nilsl]) [] (.t 29) (some [1, 2, 3, 6, 8])]
abbrev k10_o6 : List AJ := [.o ⟨(some 30), none, false, .fieldA 0 (.t 3), none⟩, .o ⟨(some 31), none, false, .load 1 true (.t 30), none⟩, .o ⟨(some 32), none, false, .mv (.t 1), none⟩, .o ⟨(some 33), none, false, .call 38 [(.t 31), (.t 32)], none⟩, .o ⟨(some 34), none, false, .len (.t 33), none⟩, .o ⟨(some 35), none, false, .mv (.c (.int .i64 0)), (some [2, 6, 8, 33, 34, 35])⟩]
abbrev k10_o7 : List AJ := [.o ⟨(some 36), none, false, .bin .lss (.t 35) (.t 34), (some [2, 6, 8, 33, 34, 35, 36])⟩]
abbrev k10_o8 : List AJ := [.o ⟨(some 37), none, false, .idxA 1 (.t 33) (.t 35), none⟩, .o ⟨(some 38), none, false, .load 1 false (.t 37), none⟩, .o ⟨(some 10), none, false, .mv (.t 38), (some [2, 6, 8, 10, 33, 34, 35])⟩]
abbrev k10_o9 : List AI := [⟨(some 39), none, false, .fieldA 1 (.t 8), none⟩, ⟨(some 40), none, false, .load 1 false (.t 39), none⟩, ⟨(some 41), none, false, .mv (.t 10), none⟩, ⟨(some 42), none, false, .fieldA 1 (.t 8), none⟩, ⟨(some 43), none, false, .load 1 false (.t 42), none⟩, ⟨(some 44), none, false, .mv (.t 10), none⟩, ⟨(some 45), none, false, .idxA 1 (.t 43) (.t 44), none⟩, ⟨(some 46), none, false, .load 1 false (.t 45), none⟩, ⟨(some 47), none, false, .mv (.t 2), none⟩, ⟨(some 48), none, false, .mx true [(.t 46), (.t 47)], none⟩, ⟨(some 49), none, false, .idxA 1 (.t 40) (.t 41), (some [2, 6, 8, 33, 34, 35, 48, 49])⟩]
abbrev k10_o10 : List AJ := [.o ⟨none, none, false, .store 1 (.t 49) (.t 48), (some [2, 6, 8, 33, 34, 35])⟩]
def k10_16 : ACode := .draw k10_o9 k10_o10 rfl
def k10_17 : ACode := .seq (.region k10_o8) k10_16
abbrev k10_o11 : List AJ := [.o ⟨(some 50), none, true, .bin .add (.t 35) (.c (.int .i64 1)), none⟩, .o ⟨(some 35), none, false, .mv (.t 50), (some [2, 6, 8, 33, 34, 35])⟩]
def k10_19 : ACode := .region k10_o11
def k10_20 : ACode := .seq (.block 1 k10_17) k10_19
def k10_21 : ACode := .seq (.cond (.t 36) .skip (.exit 0)) k10_20
def k10_22 : ACode := .seq (.region k10_o7) k10_21
def k10_23 : ACode := .loop k10_22
def k10_24 : ACode := .block 0 k10_23
def k10_25 : ACode := .seq (.region k10_o6) k10_24
abbrev k10_o12 : List AJ := [.o ⟨(some 51), none, false, .load 2 true (.t 8), none⟩, .o ⟨none, none, false, .store 2 (.t 6) (.t 51), none⟩, .o ⟨(some 7), none, false, .mv (.c (.int .i64 0)), (some [6, 7])⟩]
def k10_27 : ACode := .seq (.region k10_o12) .ret
def k10_28 : ACode := .seq k10_25 k10_27
def k10_29 : ACode := .seq (.region k10_o5) k10_28
def k10_30 : ACode := .seq k10_10 k10_29
def k10_31 : ACode := .seq k10_5 k10_30
def k10_32 : ACode := .seq (.region k10_o0) k10_31
@[simp, simp ↓] theorem k10_3r : sR k10_3 k10_o2 .ret := yR rfl
@[simp, simp ↓] theorem k10_4r : rC k10_4 (.t 13) k10_3 .skip := zC rfl
@[simp, simp ↓] theorem k10_5r : sR k10_5 k10_o1 k10_4 := yR rfl
@[simp, simp ↓] theorem k10_8r : sR k10_8 k10_o4 .ret := yR rfl
@[simp, simp ↓] theorem k10_9r : rC k10_9 (.t 26) k10_8 .skip := zC rfl
@[simp, simp ↓] theorem k10_10r : sR k10_10 k10_o3 k10_9 := yR rfl
@[simp, simp ↓] theorem k10_16r : rD k10_16 k10_o9 k10_o10 := zD rfl
@[simp, simp ↓] theorem k10_17r : sR k10_17 k10_o8 k10_16 := yR rfl
@[simp, simp ↓] theorem k10_19r : rR k10_19 k10_o11 := zR rfl
@[simp, simp ↓] theorem k10_20r : sB k10_20 1 k10_17 k10_19 := yB rfl
@[simp, simp ↓] theorem k10_21r : sC k10_21 (.t 36) .skip (.exit 0) k10_20 := yC rfl
@[simp, simp ↓] theorem k10_22r : sR k10_22 k10_o7 k10_21 := yR rfl
@[simp, simp ↓] theorem k10_23r : rL k10_23 k10_22 := zL rfl
@[simp, simp ↓] theorem k10_24r : rB k10_24 0 k10_23 := zB rfl
@[simp, simp ↓] theorem k10_25r : sR k10_25 k10_o6 k10_24 := yR rfl
@[simp, simp ↓] theorem k10_27r : sR k10_27 k10_o12 .ret := yR rfl
@[simp, simp ↓] theorem k10_28r : rS k10_28 k10_25 k10_27 := zS rfl
@[simp, simp ↓] theorem k10_29r : sR k10_29 k10_o5 k10_28 := yR rfl
@[simp, simp ↓] theorem k10_30r : rS k10_30 k10_10 k10_29 := zS rfl
@[simp, simp ↓] theorem k10_31r : rS k10_31 k10_5 k10_30 := zS rfl
@[simp, simp ↓] theorem k10_32r : sR k10_32 k10_o0 k10_31 := yR rfl
noncomputable abbrev k10_C : Orc → Cx := mkC Tryz.prog [6, 8] 10 52 [.cell 6 2 true, .tmp 7]
theorem k10_of : OfP Tryz.prog Tryz.f10 10 52 k10_C k10_32 := @ofP _ _ _ _ _ _ _ _ Tryz.func10 (by decide +kernel) rfl (by kernel_rfl) rfl (by kernel_rfl)
theorem rz_loop (I : Is (k10_C (lk orcS5)) Tryz.f10) {t : Int} {l : List Int} {st : List Nat} (hst : ∀ i ∈ st, i < l.length) (hsl : st.length ≤ 1048576) {u w p : AV} {g1 g2 tl : Heap} {sk : List AItem} {R : AV → Heap → Prop} (ow : OwnL iv 1 w l g2) (hd : ∀ i ∈ dom g1, i ∉ dom g2)
    (go : ∀ g3, OwnL iv 1 w (rzL t st l) g3 → dom g3 = dom g2 → vc2 (k10_C (lk orcS5)) 994 [] sk [(2, .int .i64 t), (6, p), (8, .ip [u, w]), (33, .snap 1 (st.map nv)), (34, .int .i64 st.length), (35, .int .i64 st.length), (36, .bool false)] (g1 ++ (g3 ++ tl)) R) :
    Run2 (k10_C (lk orcS5)) (.code k10_22 :: .inLoop k10_22 :: .inBlock 0 :: sk) [(2, .int .i64 t), (6, p), (8, .ip [u, w]), (33, .snap 1 (st.map nv)), (34, .int .i64 st.length), (35, .int .i64 0)] (g1 ++ (g2 ++ tl)) R := by
  rcases ow.split with ⟨hw, rfl, rfl⟩ | ⟨id, cap, ex, rfl, rfl, hex⟩
  · have hs0 : st = [] := by
      cases st with
      | nil => rfl
      | cons a st => have := hst a (List.mem_cons_self ..); simp at this
    subst hs0
    have go := go [] (hw.elim (fun e => e ▸ OwnL.nil) (fun e => e ▸ OwnL.emp)) rfl
    refine Run2.loopE (fun (_ : Unit) => [(2, .int .i64 t), (6, p), (8, .ip [u, w]), (33, .snap 1 []), (34, .int .i64 0), (35, .int .i64 0)]) (fun _ => g1 ++ ([] ++ tl)) (fun _ => 0) (fun _ => True) () (by simp) rfl trivial fun _ _ _ => ?_
    refine Run2.of I 1000 ?_
    simp -implicitDefEqProofs
    exact go
  · have hid : id ∉ dom g1 := fun hm => hd id hm (by simp [dom])
    refine Run2.loopE (fun (i : Nat) => [(2, .int .i64 t), (6, p), (8, .ip [u, .sl id 1 0 l.length cap]), (33, .snap 1 (st.map nv)), (34, .int .i64 st.length), (35, .int .i64 i)]) (fun i => g1 ++ ([(id, ⟨1, (rzL t (st.take i) l).map iv ++ ex⟩)] ++ tl)) (fun i => st.length - i) (fun i => i ≤ st.length) 0 (by simp) (by simp [rzL]) (Nat.zero_le _) fun i hi ih => ?_
    have hil := rzL_len t (st.take i) l
    by_cases hlt : i < st.length
    · have hm := hst _ (List.getElem_mem hlt)
      have go := ih (i + 1) hlt (by omega)
      rw [List.take_succ_eq_append_getElem hlt, rzL_snoc] at go
      have gA : ∀ z, hget (g1 ++ z) id = hget z id := fun z => hget_app hid
      have sA : ∀ z y, hset (g1 ++ z) id y = g1 ++ hset z id y := fun z y => hset_app hid
      clear ih
      generalize rzL t (st.take i) l = F at *
      generalize hj : st[i] = j at *
      have hlF : j < F.length := by omega
      have hge : (List.map iv F ++ ex)[j]? = some (.int .i64 F[j]) := by rw [List.getElem?_append_left (by simpa using hlF)]; simp [hlF]
      rw [show F.getD j 0 = F[j] by simp [hlF]] at go
      have hlF2 : j < F.length + ex.length := by omega
      have hnv : ∀ n, nv n = .int .i64 n := fun _ => rfl
      refine Run2.of I 1000 ?_
      simp -implicitDefEqProofs [hlt, hj, hnv, hm, gA, sA, hlF, hge, hlF2]
      rw [show (List.map iv F).set j (AV.int .i64 (max F[j] t)) = (F.set j (max F[j] t)).map iv by rw [List.map_set]; rfl]
      refine ⟨by omega, by simpa using go⟩
    · obtain rfl : i = st.length := by omega
      rw [List.take_length]
      have := go [(id, ⟨1, (rzL t st l).map iv ++ ex⟩)] (by have := OwnL.sl (enc := iv) (sz := 1) (l := rzL t st l) id cap ex hex; rwa [rzL_len] at this) (by simp [dom])
      refine Run2.of I 1000 ?_
      simp -implicitDefEqProofs [hlt]
      simpa using this
theorem implRz_o (x : Fil) (k t : Int) (hl : x.tot ≤ 1048576) : ACalls Tryz.prog 10 [x.av, .int .i64 k, .int .i64 t] [] (fun v h' => ∃ w, v = .tup [w, .int .i64 (x.rzCode k t)] ∧ OwnFil w (x.rzF k t) h') := by
  obtain ⟨hl1, hl2⟩ := x.lens hl
  refine k10_of rfl orcS5_p fun I => ?_
  have bad : ∀ (b : Nat) (c : Int) (z : Blk), x.rzCode k t = c → c ≠ 0 → Post (fun v h' => ∃ w, v = .tup [w, .int .i64 (x.rzCode k t)] ∧ OwnFil w (x.rzF k t) h') (.tup [.agg [.nilsl, .nilsl], .int .i64 c]) [(b, z)] := fun b c z h1 h2 => by
    have hf : x.rzF k t = ⟨[], []⟩ := by unfold Fil.rzF; rw [if_neg (by omega)]
    rw [h1, hf]
    exact .drop b (.base ⟨_, rfl, .nilsl, .nilsl, [], [], rfl, .nil, .nil, by simp [dom], by simp [hdel]⟩)
  by_cases hv : x.valid
  · by_cases hk : 0 ≤ k ∧ k ≤ x.ts.length - 1
    · by_cases ht : 0 ≤ t ∧ t ≤ 1000
      · have hc : x.rzCode k t = 0 := by simp only [Fil.rzCode, if_pos hv, if_pos (And.intro hk ht)]
        have hf : x.rzF k t = x.rzT k t := by unfold Fil.rzF; rw [if_pos hc]
        have htl := hv.2.1.1
        obtain ⟨k, rfl⟩ : ∃ n : Nat, k = n := ⟨k.toNat, by omega⟩
        have hkl : k < x.rs.length := by omega
        have hcp := copyFil_o x hl hv
        rw [hc, hf]
        refine Run2.of I 1000 ?_
        simp -implicitDefEqProofs
        intro b
        refine (validFil_s x _ hl).mono ?_
        rintro v h' ⟨rfl, rfl⟩
        refine gK.go ?_
        simp -implicitDefEqProofs [hv, hk.1, hk.2, ht.1, ht.2, hl2]
        refine ⟨by omega, ?_⟩
        refine (ACalls.gives [] (by simp) hcp fun v h' o => o.own).mono ?_
        rintro v h' ⟨g, ⟨u, w, g1, g2, rfl, ou, ow, hdis, rfl⟩, hd, rfl⟩
        have cu := ou.cell
        have cw := ow.cell
        have su := stor_of cu
        have sw := stor_of cw
        have lu := cells_of cu
        have lw := cells_of cw
        refine gK.go ?_
        have ll := ow.len
        simp -implicitDefEqProofs [cu, cw, su, sw, lu, lw, ll]
        refine (starOf_s x.rs k _ hl1 hkl).mono ?_
        rintro v h' ⟨rfl, rfl⟩
        have hsl : (starN x.rs x.rs[k] x.rs.length).length ≤ 1048576 := by have := starN_len x.rs x.rs[k] x.rs.length; omega
        have hst : ∀ i ∈ starN x.rs x.rs[k] x.rs.length, i < x.ts.length := fun i hi => by rw [htl]; exact starN_lt hi
        have hrz : x.rzT k t = ⟨x.rs, rzL t (starN x.rs x.rs[k] x.rs.length) x.ts⟩ := by simp [Fil.rzT, hkl]
        rw [hrz]
        generalize starN x.rs x.rs[k] x.rs.length = S at *
        refine gK.go ?_
        simp -implicitDefEqProofs
        have hb1 : b ∉ dom g1 := fun hm => hd b (by rw [dom_append]; exact List.mem_append_left _ hm) (by simp [dom])
        have hb2 : b ∉ dom g2 := fun hm => hd b (by rw [dom_append]; exact List.mem_append_right _ hm) (by simp [dom])
        refine rz_loop I hst hsl ow hdis fun g3 ow3 hd3 => ?_
        have hb3 : b ∉ dom g3 := by rw [hd3]; exact hb2
        have gA : ∀ z, hget (g1 ++ z) b = hget z b := fun z => hget_app hb1
        have gB : ∀ z, hget (g3 ++ z) b = hget z b := fun z => hget_app hb3
        have sA : ∀ z y, hset (g1 ++ z) b y = g1 ++ hset z b y := fun z y => hset_app hb1
        have sB : ∀ z y, hset (g3 ++ z) b y = g3 ++ hset z b y := fun z y => hset_app hb3
        simp -implicitDefEqProofs [cu, cw, su, sw, lu, lw, gA, gB, sA, sB]
        rw [← List.append_assoc]
        refine Post.dropR (fun i hi hm => ?_) (.base ⟨_, rfl, u, w, g1, g3, rfl, ou, ow3, fun i hi hm => hdis i hi (by rw [← hd3]; exact hm), rfl⟩)
        simp only [dom, List.map_cons, List.map_nil, List.mem_singleton] at hi
        subst hi
        rw [dom_append, List.mem_append] at hm
        exact hm.elim hb1 hb3
      · have hc : x.rzCode k t = 2 := by simp only [Fil.rzCode, if_pos hv, if_neg (fun h : _ ∧ _ => ht h.2)]
        have ht' : (decide (0 ≤ t) && decide (t ≤ 1000)) = false := by rw [Bool.eq_false_iff]; simpa using ht
        refine Run2.of I 1000 ?_
        simp -implicitDefEqProofs
        intro b
        refine (validFil_s x _ hl).mono ?_
        rintro v h' ⟨rfl, rfl⟩
        refine gK.go ?_
        simp -implicitDefEqProofs [hv, hk.1, hk.2, ht', hl2]
        exact ⟨by omega, bad b 2 _ hc (by omega)⟩
    · have hc : x.rzCode k t = 2 := by simp only [Fil.rzCode, if_pos hv, if_neg (fun h : _ ∧ _ => hk h.1)]
      have hk' : (decide (0 ≤ k) && decide (k ≤ x.ts.length - 1)) = false := by rw [Bool.eq_false_iff]; simpa using hk
      refine Run2.of I 1000 ?_
      simp -implicitDefEqProofs
      intro b
      refine (validFil_s x _ hl).mono ?_
      rintro v h' ⟨rfl, rfl⟩
      refine gK.go ?_
      simp -implicitDefEqProofs [hv, hk', hl2]
      exact ⟨by omega, bad b 2 _ hc (by omega)⟩
  · have hc : x.rzCode k t = 1 := by simp only [Fil.rzCode, if_neg hv]
    refine Run2.of I 1000 ?_
    simp -implicitDefEqProofs
    intro b
    refine (validFil_s x _ hl).mono ?_
    rintro v h' ⟨rfl, rfl⟩
    refine gK.go ?_
    simp -implicitDefEqProofs [hv]
    exact bad b 1 _ hc (by omega)
/-! ## The reference -/
noncomputable def o_l05Star : List AV → Option (Prop × AV) := tab (fun (x : LS × List AV × List Int) => match x with | (rs, e, s) => [.ip (.snap 1 (rs.map il) :: e), .snap 1 (s.map iv)]) (fun x => match x with | (rs, e, s) => (ssTot rs ≤ 1048576 ∧ s.length ≤ 1048576)) (fun x => match x with | (rs, e, s) => .snap 1 ((starN rs s rs.length).map nv))
@[simp] theorem o_l05Star_e (rs : LS) (e : List AV) (s : List Int) : o_l05Star [.ip (.snap 1 (rs.map il) :: e), .snap 1 (s.map iv)] = some ((ssTot rs ≤ 1048576 ∧ s.length ≤ 1048576), .snap 1 ((starN rs s rs.length).map nv)) := tab_at (enc := fun (x : LS × List AV × List Int) => match x with | (rs, e, s) => [.ip (.snap 1 (rs.map il) :: e), .snap 1 (s.map iv)]) (fun x y h => by
  obtain ⟨rs1, e1, s1⟩ := x; obtain ⟨rs2, e2, s2⟩ := y; simp at h; simp [h] <;> omega) _ _ (rs, e, s)
theorem o_l05Star_k : Knows Tryz.prog 29 o_l05Star := tab_knows fun x hx h => by
  obtain ⟨rs, e, s⟩ := x; exact l05Star_s rs e s h hx.1 hx.2
abbrev k30_o0 : List AJ := [.o ⟨(some 4), none, false, .mv (.c (.int .i64 0)), (some [0, 1])⟩]
abbrev k30_o1 : List AJ := [.o ⟨(some 5), none, false, .mv (.t 0), none⟩, .o ⟨(some 6), none, false, .mv (.t 1), none⟩, .o ⟨(some 7), none, false, .bin .gtr (.t 5) (.t 6), (some [0, 1, 7])⟩]
abbrev k30_o2 : List AJ := [.o ⟨(some 8), none, false, .mv (.t 0), none⟩, .o ⟨(some 4), none, false, .mv (.t 8), (some [4])⟩]
def k30_3 : ACode := .seq (.region k30_o2) .ret
def k30_4 : ACode := .cond (.t 7) k30_3 .skip
def k30_5 : ACode := .seq (.region k30_o1) k30_4
abbrev k30_o3 : List AJ := [.o ⟨(some 9), none, false, .mv (.t 1), none⟩, .o ⟨(some 4), none, false, .mv (.t 9), (some [4])⟩]
def k30_7 : ACode := .seq (.region k30_o3) .ret
def k30_8 : ACode := .seq k30_5 k30_7
def k30_9 : ACode := .seq (.region k30_o0) k30_8
@[simp, simp ↓] theorem k30_3r : sR k30_3 k30_o2 .ret := yR rfl
@[simp, simp ↓] theorem k30_4r : rC k30_4 (.t 7) k30_3 .skip := zC rfl
@[simp, simp ↓] theorem k30_5r : sR k30_5 k30_o1 k30_4 := yR rfl
@[simp, simp ↓] theorem k30_7r : sR k30_7 k30_o3 .ret := yR rfl
@[simp, simp ↓] theorem k30_8r : rS k30_8 k30_5 k30_7 := zS rfl
@[simp, simp ↓] theorem k30_9r : sR k30_9 k30_o0 k30_8 := yR rfl
noncomputable abbrev k30_C : Orc → Cx := mkC Tryz.prog [] 30 10 [.tmp 4]
theorem k30_of0 : OfP0 Tryz.prog Tryz.f30 30 10 k30_C k30_9 := @ofP0 _ _ _ _ _ _ _ _ Tryz.func30 (by decide +kernel) rfl (by kernel_rfl) rfl (by kernel_rfl)
theorem l00Max_r (a b : Int) (h : Heap) : ACalls Tryz.prog 30 [.int .i64 a, .int .i64 b] h (fun v h' => v = .int .i64 (max a b) ∧ h' = h) := by
  refine k30_of0 rfl noPure fun I => ?_
  refine Run2.of I 1000 ?_
  simp -implicitDefEqProofs
  omega
noncomputable def o_l00Max : List AV → Option (Prop × AV) := tab (fun (x : Int × Int) => match x with | (a, b) => [.int .i64 a, .int .i64 b]) (fun x => match x with | (a, b) => True) (fun x => match x with | (a, b) => .int .i64 (max a b))
@[simp] theorem o_l00Max_e (a : Int) (b : Int) : o_l00Max [.int .i64 a, .int .i64 b] = some (True, .int .i64 (max a b)) := tab_at (enc := fun (x : Int × Int) => match x with | (a, b) => [.int .i64 a, .int .i64 b]) (fun x y h => by
  obtain ⟨a1, b1⟩ := x; obtain ⟨a2, b2⟩ := y; simp at h; simp [h] <;> omega) _ _ (a, b)
theorem o_l00Max_k : Knows Tryz.prog 30 o_l00Max := tab_knows fun x hx h => by
  obtain ⟨a, b⟩ := x; exact l00Max_r _ _ h
noncomputable def orcS6 : List (Nat × (List AV → Option (Prop × AV))) := (25, o_l21Ok) :: (26, o_l00In) :: (27, o_l21Time) :: (29, o_l05Star) :: (30, o_l00Max) :: []
theorem orcS6_p : Pure Tryz.prog (lk orcS6) := (lk_pure o_l21Ok_k (lk_pure o_l00In_k (lk_pure o_l21Time_k (lk_pure o_l05Star_k (lk_pure o_l00Max_k lk_pure0)))))
@[simp] theorem orcS6_l (b : Bool) (g : FuncId) (l : List AV) : lk orcS6 b g l = if g = 25 then o_l21Ok l else if g = 26 then o_l00In l else if g = 27 then o_l21Time l else if g = 29 then o_l05Star l else if g = 30 then o_l00Max l else none := nr rfl
abbrev k8_o0 : List AJ := [.o ⟨(some 3), none, false, .box false 2 (.t 0), none⟩, .o ⟨(some 6), none, false, .alloc true 2 (.agg [.nilsl, .nilsl]), none⟩, .o ⟨(some 7), none, false, .mv (.c (.int .i64 0)), (some [1, 2, 3, 6])⟩]
abbrev k8_o1 : List AJ := [.o ⟨(some 11), none, false, .call 25 [(.t 3)], none⟩, .o ⟨(some 12), none, false, .un .not (.t 11), (some [1, 2, 3, 6, 12])⟩]
abbrev k8_o2 : List AJ := [.o ⟨(some 13), none, false, .build [.nilsl, .nilsl] [], none⟩, .o ⟨none, none, false, .store 2 (.t 6) (.t 13), none⟩, .o ⟨(some 7), none, false, .mv (.c (.int .i64 1)), (some [6, 7])⟩]
def k8_3 : ACode := .seq (.region k8_o2) .ret
def k8_4 : ACode := .cond (.t 12) k8_3 .skip
def k8_5 : ACode := .seq (.region k8_o1) k8_4
abbrev k8_o3 : List AJ := [.o ⟨(some 14), none, false, .mv (.t 1), none⟩, .o ⟨(some 15), none, false, .fieldA 1 (.t 3), none⟩, .o ⟨(some 16), none, false, .load 1 false (.t 15), none⟩, .o ⟨(some 17), none, false, .len (.t 16), none⟩, .o ⟨(some 18), none, true, .bin .sub (.t 17) (.c (.int .i64 1)), none⟩, .o ⟨(some 19), none, false, .call 26 [(.t 14), (.c (.int .i64 0)), (.t 18)], none⟩, .o ⟨(some 20), none, false, .un .not (.t 19), none⟩, .o ⟨(some 21), none, false, .mv (.t 20), none⟩, .o ⟨(some 22), (some (21, false)), false, .mv (.t 2), none⟩, .o ⟨(some 23), (some (21, false)), false, .call 27 [(.t 22)], none⟩, .o ⟨(some 24), (some (21, false)), false, .un .not (.t 23), (some [1, 2, 3, 6, 21, 24])⟩, .o ⟨(some 25), none, false, .pick (.t 21) (.c (.bool true)) (.t 24), (some [1, 2, 3, 6, 25])⟩]
abbrev k8_o4 : List AJ := [.o ⟨(some 26), none, false, .build [.nilsl, .nilsl] [], none⟩, .o ⟨none, none, false, .store 2 (.t 6) (.t 26), none⟩, .o ⟨(some 7), none, false, .mv (.c (.int .i64 2)), (some [6, 7])⟩]
def k8_8 : ACode := .seq (.region k8_o4) .ret
def k8_9 : ACode := .cond (.t 25) k8_8 .skip
def k8_10 : ACode := .seq (.region k8_o3) k8_9
abbrev k8_o5 : List AJ := [.o ⟨(some 27), none, false, .call 28 [(.t 3)], none⟩, .v 8 2 (.agg [.nilsl, .nilsl]) [] (.t 27) (some [1, 2, 3, 6, 8])]
abbrev k8_o6 : List AJ := [.o ⟨(some 28), none, false, .fieldA 0 (.t 3), none⟩, .o ⟨(some 29), none, false, .fieldA 0 (.t 3), none⟩, .o ⟨(some 30), none, false, .fieldA 0 (.t 29), none⟩, .o ⟨(some 31), none, false, .load 1 false (.t 30), none⟩, .o ⟨(some 32), none, false, .mv (.t 1), none⟩, .o ⟨(some 33), none, false, .idxA 1 (.t 31) (.t 32), none⟩, .o ⟨(some 34), none, false, .load 1 false (.t 33), none⟩, .o ⟨(some 35), none, false, .call 29 [(.t 28), (.t 34)], none⟩, .o ⟨(some 9), none, false, .mv (.t 35), (some [2, 6, 8, 9])⟩]
abbrev k8_o7 : List AJ := [.o ⟨(some 10), none, false, .mv (.c (.int .i64 0)), (some [2, 6, 8, 9, 10])⟩]
abbrev k8_o8 : List AJ := [.o ⟨(some 36), none, false, .mv (.t 10), none⟩, .o ⟨(some 37), none, false, .mv (.t 9), none⟩, .o ⟨(some 38), none, false, .len (.t 37), none⟩, .o ⟨(some 39), none, false, .bin .lss (.t 36) (.t 38), (some [2, 6, 8, 9, 10, 39])⟩]
def k8_15 : ACode := .cond (.t 39) .skip (.exit 0)
def k8_16 : ACode := .seq (.region k8_o8) k8_15
abbrev k8_o9 : List AI := [⟨(some 42), none, false, .fieldA 1 (.t 8), none⟩, ⟨(some 43), none, false, .load 1 false (.t 42), none⟩, ⟨(some 44), none, false, .mv (.t 9), none⟩, ⟨(some 45), none, false, .mv (.t 10), none⟩, ⟨(some 46), none, false, .idxA 1 (.t 44) (.t 45), none⟩, ⟨(some 47), none, false, .load 1 false (.t 46), none⟩, ⟨(some 48), none, false, .fieldA 1 (.t 8), none⟩, ⟨(some 49), none, false, .load 1 false (.t 48), none⟩, ⟨(some 50), none, false, .mv (.t 9), none⟩, ⟨(some 51), none, false, .mv (.t 10), none⟩, ⟨(some 52), none, false, .idxA 1 (.t 50) (.t 51), none⟩, ⟨(some 53), none, false, .load 1 false (.t 52), none⟩, ⟨(some 54), none, false, .idxA 1 (.t 49) (.t 53), none⟩, ⟨(some 55), none, false, .load 1 false (.t 54), (some [2, 6, 8, 9, 10, 43, 47, 55])⟩, ⟨(some 56), none, false, .mv (.t 2), none⟩, ⟨(some 57), none, false, .call 30 [(.t 55), (.t 56)], none⟩, ⟨(some 58), none, false, .idxA 1 (.t 43) (.t 47), (some [2, 6, 8, 9, 10, 57, 58])⟩]
abbrev k8_o10 : List AJ := [.o ⟨none, none, false, .store 1 (.t 58) (.t 57), (some [2, 6, 8, 9, 10])⟩]
def k8_17 : ACode := .draw k8_o9 k8_o10 rfl
abbrev k8_o11 : List AJ := [.o ⟨(some 40), none, false, .mv (.t 10), none⟩, .o ⟨(some 41), none, true, .bin .add (.t 40) (.c (.int .i64 1)), none⟩, .o ⟨(some 10), none, false, .mv (.t 41), (some [2, 6, 8, 9, 10])⟩]
def k8_19 : ACode := .region k8_o11
def k8_20 : ACode := .seq (.block 1 k8_17) k8_19
def k8_21 : ACode := .seq k8_16 k8_20
def k8_22 : ACode := .loop k8_21
def k8_23 : ACode := .block 0 k8_22
def k8_24 : ACode := .seq (.region k8_o7) k8_23
abbrev k8_o12 : List AJ := [.o ⟨(some 59), none, false, .load 2 true (.t 8), none⟩, .o ⟨none, none, false, .store 2 (.t 6) (.t 59), none⟩, .o ⟨(some 7), none, false, .mv (.c (.int .i64 0)), (some [6, 7])⟩]
def k8_26 : ACode := .seq (.region k8_o12) .ret
def k8_27 : ACode := .seq k8_24 k8_26
def k8_28 : ACode := .seq (.region k8_o6) k8_27
def k8_29 : ACode := .seq (.region k8_o5) k8_28
def k8_30 : ACode := .seq k8_10 k8_29
def k8_31 : ACode := .seq k8_5 k8_30
def k8_32 : ACode := .seq (.region k8_o0) k8_31
@[simp, simp ↓] theorem k8_3r : sR k8_3 k8_o2 .ret := yR rfl
@[simp, simp ↓] theorem k8_4r : rC k8_4 (.t 12) k8_3 .skip := zC rfl
@[simp, simp ↓] theorem k8_5r : sR k8_5 k8_o1 k8_4 := yR rfl
@[simp, simp ↓] theorem k8_8r : sR k8_8 k8_o4 .ret := yR rfl
@[simp, simp ↓] theorem k8_9r : rC k8_9 (.t 25) k8_8 .skip := zC rfl
@[simp, simp ↓] theorem k8_10r : sR k8_10 k8_o3 k8_9 := yR rfl
@[simp, simp ↓] theorem k8_15r : rC k8_15 (.t 39) .skip (.exit 0) := zC rfl
@[simp, simp ↓] theorem k8_16r : sR k8_16 k8_o8 k8_15 := yR rfl
@[simp, simp ↓] theorem k8_17r : rD k8_17 k8_o9 k8_o10 := zD rfl
@[simp, simp ↓] theorem k8_19r : rR k8_19 k8_o11 := zR rfl
@[simp, simp ↓] theorem k8_20r : sB k8_20 1 k8_17 k8_19 := yB rfl
@[simp, simp ↓] theorem k8_21r : rS k8_21 k8_16 k8_20 := zS rfl
@[simp, simp ↓] theorem k8_22r : rL k8_22 k8_21 := zL rfl
@[simp, simp ↓] theorem k8_23r : rB k8_23 0 k8_22 := zB rfl
@[simp, simp ↓] theorem k8_24r : sR k8_24 k8_o7 k8_23 := yR rfl
@[simp, simp ↓] theorem k8_26r : sR k8_26 k8_o12 .ret := yR rfl
@[simp, simp ↓] theorem k8_27r : rS k8_27 k8_24 k8_26 := zS rfl
@[simp, simp ↓] theorem k8_28r : sR k8_28 k8_o6 k8_27 := yR rfl
@[simp, simp ↓] theorem k8_29r : sR k8_29 k8_o5 k8_28 := yR rfl
@[simp, simp ↓] theorem k8_30r : rS k8_30 k8_10 k8_29 := zS rfl
@[simp, simp ↓] theorem k8_31r : rS k8_31 k8_5 k8_30 := zS rfl
@[simp, simp ↓] theorem k8_32r : sR k8_32 k8_o0 k8_31 := yR rfl
noncomputable abbrev k8_C : Orc → Cx := mkC Tryz.prog [6, 8] 8 60 [.cell 6 2 true, .tmp 7]
theorem k8_of : OfP Tryz.prog Tryz.f8 8 60 k8_C k8_32 := @ofP _ _ _ _ _ _ _ _ Tryz.func8 (by decide +kernel) rfl (by kernel_rfl) rfl (by kernel_rfl)
theorem specRz_c (x : Fil) (k t : Int) (h : Heap) (hl : x.tot ≤ 1048576) : ACalls Tryz.prog 8 [x.av, .int .i64 k, .int .i64 t] h (fun v h' => v = .tup [(x.rzF k t).av, .int .i64 (x.rzCode k t)] ∧ h' = h) := by
  obtain ⟨hl1, hl2⟩ := x.lens hl
  refine k8_of rfl orcS6_p fun I => ?_
  have bad : ∀ (b : Nat) (c : Int) (z : Blk), b ∉ dom h → x.rzCode k t = c → c ≠ 0 → Post (fun v h' => v = .tup [(x.rzF k t).av, .int .i64 (x.rzCode k t)] ∧ h' = h) (.tup [.agg [.nilsl, .nilsl], .int .i64 c]) ((b, z) :: h) := fun b c z hb h1 h2 => by
    have hf : x.rzF k t = ⟨[], []⟩ := by unfold Fil.rzF; rw [if_neg (by omega)]
    rw [h1, hf]
    exact .drop b (.wk (Wk.tup (.cons (Wk.agg (.cons (Wk.nil 1) (.cons (Wk.nil 1) .nil))) (.cons (.refl _) .nil))) (.base ⟨rfl, by simp [hdel]⟩))
  by_cases hv : x.valid
  · by_cases hk : 0 ≤ k ∧ k ≤ x.ts.length - 1
    · by_cases ht : 0 ≤ t ∧ t ≤ 1000
      · have hc : x.rzCode k t = 0 := by simp only [Fil.rzCode, if_pos hv, if_pos (And.intro hk ht)]
        have hf : x.rzF k t = x.rzT k t := by unfold Fil.rzF; rw [if_pos hc]
        have htl := hv.2.1.1
        obtain ⟨k, rfl⟩ : ∃ n : Nat, k = n := ⟨k.toNat, by omega⟩
        have hkl : k < x.rs.length := by omega
        have hcp := fun h => l22Own_g x h hl hv
        have hrk := (fit_of_tot hl1).2 _ (List.getElem_mem hkl)
        rw [hc, hf]
        refine Run2.of I 1000 ?_
        simp -implicitDefEqProofs [hl, hv, hk.1, hk.2, ht.1, ht.2, hl1, hl2]
        intro b hb
        refine ⟨by omega, ?_⟩
        refine (hcp _).monoN ?_
        rintro v h' ⟨u, hp, rfl, G, rfl⟩ nd
        have cu := G.cell
        have lu := G.len
        have su := stor_of cu
        have clu := cells_of cu
        refine gK.go ?_
        simp -implicitDefEqProofs [cu, lu, su, clu, hl1, hrk, hkl]
        have hsl : (starN x.rs x.rs[k] x.rs.length).length ≤ 1048576 := by have := starN_len x.rs x.rs[k] x.rs.length; omega
        have hst : ∀ i ∈ starN x.rs x.rs[k] x.rs.length, i < x.ts.length := fun i hi => by rw [htl]; exact starN_lt hi
        have hrz : x.rzT k t = ⟨x.rs, rzL t (starN x.rs x.rs[k] x.rs.length) x.ts⟩ := by simp [Fil.rzT, hkl]
        rw [hrz]
        generalize starN x.rs x.rs[k] x.rs.length = S at *
        have hzl := rzL_len t S x.ts
        have og : OwnL iv 1 u x.ts hp := G.own
        have done : ∀ (w : AV) (g : Heap), OwnL iv 1 w (rzL t S x.ts) g → b ∉ dom g → Post (fun v h' => v = .tup [.agg [.snap 1 (x.rs.map il), .snap 1 ((rzL t S x.ts).map iv)], .int .i64 0] ∧ h' = h) (.tup [.agg [.snap 1 (x.rs.map il), w], .int .i64 0]) (g ++ ((b, ⟨2, [.agg [.snap 1 (x.rs.map il), w]]⟩) :: h)) := by
          intro w g o hb2
          refine Post.lend ?_
          rw [lend1_tup2, lend1_cold g (x := .int .i64 0) rfl, lend1_agg, lend1_cold g (x := .snap 1 (x.rs.map il)) (by simp [cold])]
          refine .drop b (.wk (Wk.tup (.cons (Wk.agg (.cons (.refl _) (.cons o.lent.wk .nil))) (.cons (.refl _) .nil))) (.base ⟨rfl, by simp [hdel]⟩))
        rcases og.split with ⟨hw, hnil, rfl⟩ | ⟨id, cap, ex, rfl, rfl, hex⟩
        · have := htl; rw [hnil] at this; simp at this; omega
        · have hidb : ¬ id = b := fun e => by simp [dom, e] at nd
          refine Run2.loopE (fun (i : Nat) => [(2, .int .i64 t), (6, .ptr b 2 0 0), (8, .ip [.snap 1 (x.rs.map il), .sl id 1 0 x.ts.length cap]), (9, .snap 1 (S.map nv)), (10, .int .i64 i)]) (fun i => [(id, ⟨1, (rzL t (S.take i) x.ts).map iv ++ ex⟩)] ++ ((b, ⟨2, [.agg [.nilsl, .nilsl]]⟩) :: h)) (fun i => S.length - i) (fun i => i ≤ S.length) 0 (by simp) (by simp [rzL]) (Nat.zero_le _) fun i hi ih => ?_
          have hil := rzL_len t (S.take i) x.ts
          by_cases hlt : i < S.length
          · have hm := hst _ (List.getElem_mem hlt)
            have go := ih (i + 1) hlt (by omega)
            rw [List.take_succ_eq_append_getElem hlt, rzL_snoc] at go
            clear ih
            generalize rzL t (S.take i) x.ts = F at *
            generalize hj : S[i] = j at *
            have hlF : j < F.length := by omega
            have hge : (List.map iv F ++ ex)[j]? = some (.int .i64 F[j]) := by rw [List.getElem?_append_left (by simpa using hlF)]; simp [hlF]
            rw [show F.getD j 0 = F[j] by simp [hlF]] at go
            have hlF2 : j < F.length + ex.length := by omega
            have hnv : ∀ n, nv n = .int .i64 n := fun _ => rfl
            refine Run2.of I 1000 ?_
            simp -implicitDefEqProofs [hlt, hj, hnv, hm, hlF, hge, hlF2, hidb]
            rw [show (List.map iv F).set j (AV.int .i64 (max F[j] t)) = (F.set j (max F[j] t)).map iv by rw [List.map_set]; rfl]
            refine ⟨by omega, by simpa using go⟩
          · obtain rfl : i = S.length := by omega
            rw [List.take_length]
            have := done (.sl id 1 0 x.ts.length cap) [(id, ⟨1, (rzL t S x.ts).map iv ++ ex⟩)] (by have := OwnL.sl (enc := iv) (sz := 1) (l := rzL t S x.ts) id cap ex hex; rwa [hzl] at this) (by simp [dom, Ne.symm hidb])
            refine Run2.of I 1000 ?_
            simp -implicitDefEqProofs [hlt, hidb, Ne.symm hidb]
            simpa using this
      · have hc : x.rzCode k t = 2 := by simp only [Fil.rzCode, if_pos hv, if_neg (fun h : _ ∧ _ => ht h.2)]
        have ht' : (decide (0 ≤ t) && decide (t ≤ 1000)) = false := by rw [Bool.eq_false_iff]; simpa using ht
        refine Run2.of I 1000 ?_
        simp -implicitDefEqProofs [hl, hv, hk.1, hk.2, ht', hl2]
        exact fun b hb => ⟨by omega, bad b 2 _ hb hc (by omega)⟩
    · have hc : x.rzCode k t = 2 := by simp only [Fil.rzCode, if_pos hv, if_neg (fun h : _ ∧ _ => hk h.1)]
      have hk' : (decide (0 ≤ k) && decide (k ≤ x.ts.length - 1)) = false := by rw [Bool.eq_false_iff]; simpa using hk
      refine Run2.of I 1000 ?_
      simp -implicitDefEqProofs [hl, hv, hk', hl2]
      exact fun b hb => ⟨by omega, bad b 2 _ hb hc (by omega)⟩
  · have hc : x.rzCode k t = 1 := by simp only [Fil.rzCode, if_neg hv]
    refine Run2.of I 1000 ?_
    simp -implicitDefEqProofs [hl, hv]
    exact fun b hb => bad b 1 _ hb hc (by omega)
end Go.AG
