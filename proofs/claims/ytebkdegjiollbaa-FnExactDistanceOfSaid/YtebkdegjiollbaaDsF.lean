/- The distance of bars, as the reference finds it. No statement is made here. -/
import Derived.Test.YtebkdegjiollbaaDsE
namespace Go.AG
open Go.Proofs Go.Proofs.Ytebkdegjiollbaa
set_option linter.unusedSimpArgs false
set_option linter.unusedVariables false
set_option maxRecDepth 4000
theorem canM_iff (u v : List T) (m : Int) : canM u v m = true ↔ Mt (cl u v m) v.length ((List.range u.length).filter (lg u m)) := kAll_iff (List.nodup_range.filter _)
theorem fit_can (u v : List T) (m : Int) : fitM u v m = canP u v m := by
  rw [Bool.eq_iff_iff]
  unfold canP
  rw [Bool.and_eq_true, canM_iff, canM_iff]
  unfold fitM augB
  rw [kAll_iff List.nodup_range, aug_mt]
  have : (fun k i => cl u v m i k) = cl v u m := by
    funext k i
    exact cl_swap u v m i k
  rw [this]
theorem canM_mono {u v : List T} {m m' : Int} (h : m ≤ m') (hc : canM u v m = true) : canM u v m' = true := by
  rw [canM_iff] at hc ⊢
  obtain ⟨f, f1, f2⟩ := hc
  have hsub : ∀ k, k ∈ (List.range u.length).filter (lg u m') → k ∈ (List.range u.length).filter (lg u m) := fun k hk => by
    obtain ⟨a, b⟩ := List.mem_filter.1 hk
    refine List.mem_filter.2 ⟨a, ?_⟩
    unfold lg at b ⊢
    simp only [decide_eq_true_eq] at b ⊢
    omega
  refine ⟨f, fun k hk => ?_, fun k hk k' hk' => f2 k (hsub k hk) k' (hsub k' hk')⟩
  obtain ⟨a, b⟩ := f1 k (hsub k hk)
  refine ⟨a, ?_⟩
  unfold cl at b ⊢
  simp only [decide_eq_true_eq] at b ⊢
  omega
theorem canP_mono {u v : List T} {m m' : Int} (h : m ≤ m') (hc : canP u v m = true) : canP u v m' = true := by
  unfold canP at hc ⊢
  rw [Bool.and_eq_true] at hc ⊢
  exact ⟨canM_mono h hc.1, canM_mono h hc.2⟩
def btB (l : List T) : List Int := l.map fun x => x.t
abbrev k66_o0 : List AJ := [.o ⟨(some 4), none, false, .mv (.c .nilsl), none⟩, .o ⟨(some 5), none, false, .mv (.c .nilsl), (some [0, 1])⟩]
abbrev k66_o1 : List AJ := [.e 9 3 none, .o ⟨(some 6), none, false, .mv (.t 9), (some [0, 1, 6])⟩]
abbrev k66_o2 : List AJ := [.e 10 1 none, .o ⟨(some 7), none, false, .mv (.t 10), (some [0, 1, 6, 7])⟩]
abbrev k66_o3 : List AJ := [.o ⟨(some 8), none, false, .mv (.c (.int .i64 0)), (some [0, 1, 6, 7, 8])⟩]
abbrev k66_o4 : List AJ := [.o ⟨(some 11), none, false, .mv (.t 8), none⟩, .o ⟨(some 12), none, false, .mv (.t 0), none⟩, .o ⟨(some 13), none, false, .len (.t 12), none⟩, .o ⟨(some 14), none, false, .bin .lss (.t 11) (.t 13), (some [0, 1, 6, 7, 8, 14])⟩]
def k66_5 : ACode := .cond (.t 14) .skip (.exit 0)
def k66_6 : ACode := .seq (.region k66_o4) k66_5
abbrev k66_o5 : List AJ := [.o ⟨(some 17), none, false, .mv (.t 0), none⟩, .o ⟨(some 18), none, false, .mv (.t 8), none⟩, .o ⟨(some 19), none, false, .idxA 3 (.t 17) (.t 18), none⟩, .o ⟨(some 20), none, false, .fieldA 0 (.t 19), none⟩, .o ⟨(some 21), none, false, .load 1 false (.t 20), none⟩, .o ⟨(some 22), none, false, .mv (.t 1), none⟩, .o ⟨(some 23), none, false, .bin .neq (.t 21) (.t 22), (some [0, 1, 6, 7, 8, 23])⟩]
def k66_8 : ACode := .cond (.t 23) (.exit 1) .skip
def k66_9 : ACode := .seq (.region k66_o5) k66_8
abbrev k66_o6 : List AJ := [.o ⟨(some 24), none, false, .mv (.t 0), none⟩, .o ⟨(some 25), none, false, .mv (.t 8), none⟩, .o ⟨(some 26), none, false, .idxA 3 (.t 24) (.t 25), none⟩, .o ⟨(some 27), none, false, .fieldA 2 (.t 26), none⟩, .o ⟨(some 28), none, false, .load 1 false (.t 27), none⟩, .o ⟨(some 29), none, false, .bin .eql (.t 28) (.c (.int .i64 (-1))), (some [0, 1, 6, 7, 8, 29])⟩]
abbrev k66_o7 : List AJ := [.o ⟨(some 30), none, false, .mv (.t 7), none⟩, .o ⟨(some 31), none, false, .mv (.t 0), none⟩, .o ⟨(some 32), none, false, .mv (.t 8), none⟩, .o ⟨(some 33), none, false, .idxA 3 (.t 31) (.t 32), none⟩, .o ⟨(some 34), none, false, .fieldA 1 (.t 33), none⟩, .o ⟨(some 35), none, false, .load 1 false (.t 34), none⟩, .o ⟨(some 36), none, false, .bsl false 1 [(.t 35)], none⟩, .o ⟨(some 37), none, false, .append 1 8 (.t 30) (.t 36), none⟩, .o ⟨(some 7), none, false, .mv (.t 37), (some [0, 1, 6, 7, 8])⟩]
def k66_11 : ACode := .region k66_o7
abbrev k66_o8 : List AJ := [.o ⟨(some 38), none, false, .mv (.t 6), none⟩, .o ⟨(some 39), none, false, .mv (.t 0), none⟩, .o ⟨(some 40), none, false, .mv (.t 8), none⟩, .o ⟨(some 41), none, false, .idxA 3 (.t 39) (.t 40), none⟩, .o ⟨(some 42), none, false, .load 3 true (.t 41), none⟩, .o ⟨(some 43), none, false, .bsl false 3 [(.t 42)], none⟩, .o ⟨(some 44), none, false, .append 3 24 (.t 38) (.t 43), none⟩, .o ⟨(some 6), none, false, .mv (.t 44), (some [0, 1, 6, 7, 8])⟩]
def k66_12 : ACode := .region k66_o8
def k66_13 : ACode := .cond (.t 29) k66_11 k66_12
def k66_14 : ACode := .seq (.region k66_o6) k66_13
def k66_15 : ACode := .seq k66_9 k66_14
abbrev k66_o9 : List AJ := [.o ⟨(some 15), none, false, .mv (.t 8), none⟩, .o ⟨(some 16), none, true, .bin .add (.t 15) (.c (.int .i64 1)), none⟩, .o ⟨(some 8), none, false, .mv (.t 16), (some [0, 1, 6, 7, 8])⟩]
def k66_17 : ACode := .region k66_o9
def k66_18 : ACode := .seq (.block 1 k66_15) k66_17
def k66_19 : ACode := .seq k66_6 k66_18
def k66_20 : ACode := .loop k66_19
def k66_21 : ACode := .block 0 k66_20
def k66_22 : ACode := .seq (.region k66_o3) k66_21
abbrev k66_o10 : List AJ := [.o ⟨(some 45), none, false, .mv (.t 6), none⟩, .o ⟨(some 46), none, false, .mv (.t 7), none⟩, .o ⟨(some 4), none, false, .mv (.t 45), none⟩, .o ⟨(some 5), none, false, .mv (.t 46), (some [4, 5])⟩]
def k66_24 : ACode := .seq (.region k66_o10) .ret
def k66_25 : ACode := .seq k66_22 k66_24
def k66_26 : ACode := .seq (.region k66_o2) k66_25
def k66_27 : ACode := .seq (.region k66_o1) k66_26
def k66_28 : ACode := .seq (.region k66_o0) k66_27
@[simp, simp ↓] theorem k66_5r : rC k66_5 (.t 14) .skip (.exit 0) := zC rfl
@[simp, simp ↓] theorem k66_6r : sR k66_6 k66_o4 k66_5 := yR rfl
@[simp, simp ↓] theorem k66_8r : rC k66_8 (.t 23) (.exit 1) .skip := zC rfl
@[simp, simp ↓] theorem k66_9r : sR k66_9 k66_o5 k66_8 := yR rfl
@[simp, simp ↓] theorem k66_11r : rR k66_11 k66_o7 := zR rfl
@[simp, simp ↓] theorem k66_12r : rR k66_12 k66_o8 := zR rfl
@[simp, simp ↓] theorem k66_13r : rC k66_13 (.t 29) k66_11 k66_12 := zC rfl
@[simp, simp ↓] theorem k66_14r : sR k66_14 k66_o6 k66_13 := yR rfl
@[simp, simp ↓] theorem k66_15r : rS k66_15 k66_9 k66_14 := zS rfl
@[simp, simp ↓] theorem k66_17r : rR k66_17 k66_o9 := zR rfl
@[simp, simp ↓] theorem k66_18r : sB k66_18 1 k66_15 k66_17 := yB rfl
@[simp, simp ↓] theorem k66_19r : rS k66_19 k66_6 k66_18 := zS rfl
@[simp, simp ↓] theorem k66_20r : rL k66_20 k66_19 := zL rfl
@[simp, simp ↓] theorem k66_21r : rB k66_21 0 k66_20 := zB rfl
@[simp, simp ↓] theorem k66_22r : sR k66_22 k66_o3 k66_21 := yR rfl
@[simp, simp ↓] theorem k66_24r : sR k66_24 k66_o10 .ret := yR rfl
@[simp, simp ↓] theorem k66_25r : rS k66_25 k66_22 k66_24 := zS rfl
@[simp, simp ↓] theorem k66_26r : sR k66_26 k66_o2 k66_25 := yR rfl
@[simp, simp ↓] theorem k66_27r : sR k66_27 k66_o1 k66_26 := yR rfl
@[simp, simp ↓] theorem k66_28r : sR k66_28 k66_o0 k66_27 := yR rfl
noncomputable abbrev k66_C : Orc → Cx := mkC Try.prog [9, 10] 66 47 [.tmp 4, .tmp 5]
theorem k66_of : OfP Try.prog Try.f66 66 47 k66_C k66_28 := @ofP _ _ _ _ _ _ _ _ Try.func66 (by decide +kernel) rfl (by kernel_rfl) rfl (by kernel_rfl)
theorem split_s (l : List T) (d : Int) (h : Heap) (hl : l.length ≤ 1048576) : ACalls Try.prog 66 [.snap 3 (l.map T.av), .int .i64 d] h (fun v h' => v = .tup [.snap 3 ((fnB l d).map T.av), .snap 1 ((btB (fvB l d)).map iv)] ∧ h' = h) := by
  refine k66_of rfl noPure fun I => ?_
  refine Run2.of I 1000 ?_
  simp -implicitDefEqProofs
  refine Run2.loopE (α := Nat × AV × Heap × AV × Heap) (fun s => [(0, .snap 3 (l.map T.av)), (1, .int .i64 d), (6, s.2.1), (7, s.2.2.2.1), (8, .int .i64 (s.1 : Nat))]) (fun s => s.2.2.1 ++ (s.2.2.2.2 ++ h)) (fun s => l.length - s.1)
    (fun s => s.1 ≤ l.length ∧ Grow 3 s.2.1 ((fnB (l.take s.1) d).map T.av) s.2.2.1 ∧ Grow 1 s.2.2.2.1 ((btB (fvB (l.take s.1) d)).map iv) s.2.2.2.2) (0, .emp, [], .emp, []) (by simp) (by simp) ⟨Nat.zero_le _, by simpa [fnB] using Grow.emp, by simpa [fvB, btB] using Grow.emp⟩ ?_
  rintro ⟨i, wa, ha, wb, hb⟩ ⟨hi, ga, gb⟩ ih
  replace hi : i ≤ l.length := hi
  simp only at ga gb ih ⊢
  refine Run2.nd fun nd => ?_
  have hca := ga.cell
  have hcb := gb.cell
  by_cases hlt : i < l.length
  · have hla : (fnB (l.take i) d).length ≤ 1048576 := Nat.le_trans (List.length_filter_le ..) (by rw [List.length_take]; omega)
    have hlb : (fvB (l.take i) d).length ≤ 1048576 := Nat.le_trans (List.length_filter_le ..) (by rw [List.length_take]; omega)
    have sa : fnB (l.take (i + 1)) d = fnB (l.take i) d ++ if l[i].f = d ∧ ¬ l[i].s = -1 then [l[i]] else [] := by
      unfold fnB
      rw [List.take_succ_eq_append_getElem hlt, List.filter_append, List.filter_cons, List.filter_nil]
      simp
    have sb : fvB (l.take (i + 1)) d = fvB (l.take i) d ++ if l[i].f = d ∧ l[i].s = -1 then [l[i]] else [] := by
      unfold fvB
      rw [List.take_succ_eq_append_getElem hlt, List.filter_append, List.filter_cons, List.filter_nil]
      simp
    have go := fun (wa' : AV) (ha' : Heap) (wb' : AV) (hb' : Heap) => ih (i + 1, wa', ha', wb', hb')
    simp only [sa, sb] at go
    clear ih
    by_cases hd : l[i].f = d
    · by_cases hs : l[i].s = -1
      · have go := fun wb' hb' (g : Grow 1 wb' ((btB (fvB (l.take i) d)).map iv ++ [.int .i64 l[i].t]) hb') => go wa ha wb' hb' ⟨hlt, by simpa [hd, hs] using ga, by simpa [hd, hs, btB] using g⟩ (by omega)
        refine Run2.of I 1000 ?_
        simp -implicitDefEqProofs [hlt, hd, hs, hca, hcb]
        refine gb.app_mid (pre := ha) (post := h) (fun j h1 h2 => ?_) (by simp [btB]; omega) (by simp) fun w' hp' hg' hd' => ?_
        · simp only [dom_append, List.nodup_append, List.mem_append] at nd
          exact nd.2.2 j h2 j (.inl h1) rfl
        · have hcc := hg'.cell
          have := go w' hp' hg'
          simp -implicitDefEqProofs [hca, hcc]
          refine ⟨by omega, Run2.perm (List.perm_append_comm_assoc ..) (by simpa using this)⟩
      · have go := fun wa' ha' (g : Grow 3 wa' ((fnB (l.take i) d).map T.av ++ [l[i].av]) ha') => go wa' ha' wb hb ⟨hlt, by simpa [hd, hs] using g, by simpa [hd, hs] using gb⟩ (by omega)
        refine Run2.of I 1000 ?_
        simp -implicitDefEqProofs [hlt, hd, hs, hca, hcb]
        refine ga.app_mid (pre := []) (post := hb ++ h) (by simp [dom]) (by simp; omega) (by simp) fun w' hp' hg' hd' => ?_
        have hcc := hg'.cell
        have := go w' hp' (by simpa [T.av, hd] using hg')
        simp -implicitDefEqProofs [hcb, hcc]
        exact ⟨by omega, by simpa using this⟩
    · have go := go wa ha wb hb ⟨hlt, by simpa [hd] using ga, by simpa [hd] using gb⟩ (by omega)
      refine Run2.of I 1000 ?_
      simp -implicitDefEqProofs [hlt, hd, hca, hcb]
      exact ⟨by omega, by simpa using go⟩
  · obtain rfl : i = l.length := by omega
    rw [List.take_length] at ga gb
    refine Run2.of I 1000 ?_
    simp -implicitDefEqProofs [hlt, hca, hcb]
    rw [← List.append_assoc] at nd ⊢
    have nd2 : (dom (ha ++ hb)).Nodup := by
      rw [dom_append] at nd
      exact (List.nodup_append.1 nd).1
    have ia := (ga.own (enc := T.av)).lentIn T.cold (L := ha ++ hb) (fun p hp => List.mem_append_left _ hp) nd2
    have ib := (gb.own (enc := iv)).lentIn cold_iv1 (L := ha ++ hb) (fun p hp => List.mem_append_right _ hp) nd2
    refine Post.lend ?_
    rw [lend1_tup2]
    exact .wk (Wk.tup (.cons ia.wk (.cons ib.wk .nil))) (.base ⟨rfl, rfl⟩)
noncomputable def o_l21Split : List AV → Option (Prop × AV) := tab (fun (x : List T × Int) => match x with | (l, d) => [.snap 3 (l.map T.av), .int .i64 d]) (fun x => match x with | (l, d) => l.length ≤ 1048576) (fun x => match x with | (l, d) => .tup [.snap 3 ((fnB l d).map T.av), .snap 1 ((btB (fvB l d)).map iv)])
@[simp] theorem o_l21Split_e (l : List T) (d : Int) : o_l21Split [.snap 3 (l.map T.av), .int .i64 d] = some (l.length ≤ 1048576, .tup [.snap 3 ((fnB l d).map T.av), .snap 1 ((btB (fvB l d)).map iv)]) := tab_at (enc := fun (x : List T × Int) => match x with | (l, d) => [.snap 3 (l.map T.av), .int .i64 d]) (fun x y h => by
  obtain ⟨l1, d1⟩ := x; obtain ⟨l2, d2⟩ := y; simp at h; simp [h] <;> omega) _ _ (l, d)
theorem o_l21Split_k : Knows Try.prog 66 o_l21Split := tab_knows fun x hx h => by
  obtain ⟨l, d⟩ := x; exact split_s l d h hx
noncomputable def o_fitM : List AV → Option (Prop × AV) := tab (fun (x : List T × List T × Int) => match x with | (u, v, m) => [.snap 3 (u.map T.av), .snap 3 (v.map T.av), .int .i64 m]) (fun x => match x with | (u, v, m) => (finU u ∧ finU v)) (fun x => match x with | (u, v, m) => .bool (fitM u v m))
@[simp] theorem o_fitM_e (u : List T) (v : List T) (m : Int) : o_fitM [.snap 3 (u.map T.av), .snap 3 (v.map T.av), .int .i64 m] = some ((finU u ∧ finU v), .bool (fitM u v m)) := tab_at (enc := fun (x : List T × List T × Int) => match x with | (u, v, m) => [.snap 3 (u.map T.av), .snap 3 (v.map T.av), .int .i64 m]) (fun x y h => by
  obtain ⟨u1, v1, m1⟩ := x; obtain ⟨u2, v2, m2⟩ := y; simp at h; simp [h] <;> omega) _ _ (u, v, m)
theorem o_fitM_k : Knows Try.prog 69 o_fitM := tab_knows fun x hx h => by
  obtain ⟨u, v, m⟩ := x; exact fit_s u v hx.1 hx.2 m h
noncomputable def orcDs5 : List (Nat × (List AV → Option (Prop × AV))) := (64, o_l21List) :: (65, o_l05Dimension) :: (66, o_l21Split) :: (68, o_l21Abs) :: (67, o_l00Max) :: (69, o_fitM) :: []
theorem orcDs5_p : Pure Try.prog (lk orcDs5) := (lk_pure o_l21List_k (lk_pure o_l05Dimension_k (lk_pure o_l21Split_k (lk_pure o_l21Abs_k (lk_pure o_l00Max_k (lk_pure o_fitM_k lk_pure0))))))
@[simp] theorem orcDs5_l (b : Bool) (g : FuncId) (l : List AV) : lk orcDs5 b g l = if g = 64 then o_l21List l else if g = 65 then o_l05Dimension l else if g = 66 then o_l21Split l else if g = 68 then o_l21Abs l else if g = 67 then o_l00Max l else if g = 69 then o_fitM l else none := nr rfl
abbrev k32_o0 : List AJ := [.o ⟨(some 6), none, false, .mv (.c (.int .i64 0)), none⟩, .o ⟨(some 7), none, false, .mv (.c (.int .i64 0)), (some [0, 1, 2])⟩]
abbrev k32_o1 : List AJ := [.o ⟨(some 16), none, false, .mv (.t 0), none⟩, .o ⟨(some 17), none, false, .call 64 [(.t 16)], none⟩, .o ⟨(some 18), none, false, .un .not (.t 17), none⟩, .o ⟨(some 19), none, false, .mv (.t 18), none⟩, .o ⟨(some 20), (some (19, false)), false, .mv (.t 1), none⟩, .o ⟨(some 21), (some (19, false)), false, .call 64 [(.t 20)], none⟩, .o ⟨(some 22), (some (19, false)), false, .un .not (.t 21), none⟩, .o ⟨(some 23), none, false, .pick (.t 19) (.c (.bool true)) (.t 22), (some [0, 1, 2, 23])⟩]
abbrev k32_o2 : List AJ := [.o ⟨(some 6), none, false, .mv (.c (.int .i64 0)), none⟩, .o ⟨(some 7), none, false, .mv (.c (.int .i64 1)), (some [6, 7])⟩]
def k32_3 : ACode := .seq (.region k32_o2) .ret
def k32_4 : ACode := .cond (.t 23) k32_3 .skip
def k32_5 : ACode := .seq (.region k32_o1) k32_4
abbrev k32_o3 : List AJ := [.o ⟨(some 24), none, false, .mv (.t 2), none⟩, .o ⟨(some 25), none, false, .call 65 [(.t 24)], none⟩, .o ⟨(some 26), none, false, .un .not (.t 25), (some [0, 1, 2, 26])⟩]
abbrev k32_o4 : List AJ := [.o ⟨(some 6), none, false, .mv (.c (.int .i64 0)), none⟩, .o ⟨(some 7), none, false, .mv (.c (.int .i64 2)), (some [6, 7])⟩]
def k32_8 : ACode := .seq (.region k32_o4) .ret
def k32_9 : ACode := .cond (.t 26) k32_8 .skip
def k32_10 : ACode := .seq (.region k32_o3) k32_9
abbrev k32_o5 : List AJ := [.o ⟨(some 28), none, false, .mv (.t 0), none⟩, .o ⟨(some 29), none, false, .mv (.t 2), none⟩, .o ⟨(some 30), none, false, .call 66 [(.t 28), (.t 29)], none⟩, .o ⟨(some 27), none, false, .mv (.t 30), none⟩, .o ⟨(some 31), none, false, .extract (.t 27) 0, none⟩, .o ⟨(some 32), none, false, .extract (.t 27) 1, none⟩, .o ⟨(some 8), none, false, .mv (.t 31), none⟩, .o ⟨(some 9), none, false, .mv (.t 32), (some [1, 2, 8, 9])⟩]
abbrev k32_o6 : List AJ := [.o ⟨(some 34), none, false, .mv (.t 1), none⟩, .o ⟨(some 35), none, false, .mv (.t 2), none⟩, .o ⟨(some 36), none, false, .call 66 [(.t 34), (.t 35)], none⟩, .o ⟨(some 33), none, false, .mv (.t 36), none⟩, .o ⟨(some 37), none, false, .extract (.t 33) 0, none⟩, .o ⟨(some 38), none, false, .extract (.t 33) 1, none⟩, .o ⟨(some 10), none, false, .mv (.t 37), none⟩, .o ⟨(some 11), none, false, .mv (.t 38), (some [8, 9, 10, 11])⟩]
abbrev k32_o7 : List AJ := [.o ⟨(some 39), none, false, .mv (.t 9), none⟩, .o ⟨(some 40), none, false, .len (.t 39), none⟩, .o ⟨(some 41), none, false, .mv (.t 11), none⟩, .o ⟨(some 42), none, false, .len (.t 41), none⟩, .o ⟨(some 43), none, false, .bin .neq (.t 40) (.t 42), (some [8, 9, 10, 11, 43])⟩]
abbrev k32_o8 : List AJ := [.o ⟨(some 6), none, false, .mv (.c (.int .i64 0)), none⟩, .o ⟨(some 7), none, false, .mv (.c (.int .i64 3)), (some [6, 7])⟩]
def k32_15 : ACode := .seq (.region k32_o8) .ret
def k32_16 : ACode := .cond (.t 43) k32_15 .skip
def k32_17 : ACode := .seq (.region k32_o7) k32_16
abbrev k32_o9 : List AJ := [.o ⟨(some 12), none, false, .mv (.c (.int .i64 0)), (some [8, 9, 10, 11, 12])⟩]
abbrev k32_o10 : List AJ := [.o ⟨(some 13), none, false, .mv (.c (.int .i64 0)), (some [8, 9, 10, 11, 12, 13])⟩]
abbrev k32_o11 : List AJ := [.o ⟨(some 44), none, false, .mv (.t 13), none⟩, .o ⟨(some 45), none, false, .mv (.t 9), none⟩, .o ⟨(some 46), none, false, .len (.t 45), none⟩, .o ⟨(some 47), none, false, .bin .lss (.t 44) (.t 46), (some [8, 9, 10, 11, 12, 13, 47])⟩]
def k32_21 : ACode := .cond (.t 47) .skip (.exit 0)
def k32_22 : ACode := .seq (.region k32_o11) k32_21
abbrev k32_o12 : List AI := [⟨(some 50), none, false, .mv (.t 12), none⟩, ⟨(some 51), none, false, .mv (.t 9), none⟩, ⟨(some 52), none, false, .mv (.t 13), none⟩, ⟨(some 53), none, false, .idxA 1 (.t 51) (.t 52), none⟩, ⟨(some 54), none, false, .load 1 false (.t 53), none⟩, ⟨(some 55), none, false, .mv (.t 11), none⟩, ⟨(some 56), none, false, .mv (.t 13), none⟩, ⟨(some 57), none, false, .idxA 1 (.t 55) (.t 56), none⟩, ⟨(some 58), none, false, .load 1 false (.t 57), none⟩, ⟨(some 59), none, true, .bin .sub (.t 54) (.t 58), none⟩, ⟨(some 60), none, false, .call 68 [(.t 59)], none⟩, ⟨(some 61), none, true, .bin .mul (.c (.int .i64 2)) (.t 60), none⟩, ⟨(some 62), none, false, .call 67 [(.t 50), (.t 61)], none⟩, ⟨(some 12), none, false, .mv (.t 62), (some [8, 9, 10, 11, 12, 13])⟩]
def k32_23 : ACode := .draw k32_o12 [] rfl
abbrev k32_o13 : List AJ := [.o ⟨(some 48), none, false, .mv (.t 13), none⟩, .o ⟨(some 49), none, true, .bin .add (.t 48) (.c (.int .i64 1)), none⟩, .o ⟨(some 13), none, false, .mv (.t 49), (some [8, 9, 10, 11, 12, 13])⟩]
def k32_25 : ACode := .region k32_o13
def k32_26 : ACode := .seq (.block 1 k32_23) k32_25
def k32_27 : ACode := .seq k32_22 k32_26
def k32_28 : ACode := .loop k32_27
def k32_29 : ACode := .block 0 k32_28
def k32_30 : ACode := .seq (.region k32_o10) k32_29
abbrev k32_o14 : List AJ := [.o ⟨(some 63), none, false, .mv (.t 12), none⟩, .o ⟨(some 64), none, false, .call 67 [(.t 63), (.c (.int .i64 2000))], none⟩, .o ⟨(some 14), none, false, .mv (.t 64), (some [8, 10, 12, 14])⟩]
abbrev k32_o15 : List AJ := [.o ⟨(some 65), none, false, .mv (.t 12), none⟩, .o ⟨(some 66), none, false, .mv (.t 14), none⟩, .o ⟨(some 67), none, false, .bin .lss (.t 65) (.t 66), (some [8, 10, 12, 14, 67])⟩]
def k32_33 : ACode := .cond (.t 67) .skip (.exit 2)
def k32_34 : ACode := .seq (.region k32_o15) k32_33
abbrev k32_o16 : List AJ := [.o ⟨(some 68), none, false, .mv (.t 12), none⟩, .o ⟨(some 69), none, false, .mv (.t 14), none⟩, .o ⟨(some 70), none, true, .bin .add (.t 68) (.t 69), none⟩, .o ⟨(some 71), none, true, .bin .quo (.t 70) (.c (.int .i64 2)), none⟩, .o ⟨(some 15), none, false, .mv (.t 71), (some [8, 10, 12, 14, 15])⟩]
abbrev k32_o17 : List AJ := [.o ⟨(some 72), none, false, .mv (.t 8), none⟩, .o ⟨(some 73), none, false, .mv (.t 10), none⟩, .o ⟨(some 74), none, false, .mv (.t 15), none⟩, .o ⟨(some 75), none, false, .call 69 [(.t 72), (.t 73), (.t 74)], (some [8, 10, 12, 14, 15, 75])⟩]
abbrev k32_o18 : List AJ := [.o ⟨(some 76), none, false, .mv (.t 15), none⟩, .o ⟨(some 14), none, false, .mv (.t 76), (some [8, 10, 12, 14])⟩]
def k32_37 : ACode := .region k32_o18
abbrev k32_o19 : List AJ := [.o ⟨(some 77), none, false, .mv (.t 15), none⟩, .o ⟨(some 78), none, true, .bin .add (.t 77) (.c (.int .i64 1)), none⟩, .o ⟨(some 12), none, false, .mv (.t 78), (some [8, 10, 12, 14])⟩]
def k32_38 : ACode := .region k32_o19
def k32_39 : ACode := .cond (.t 75) k32_37 k32_38
def k32_40 : ACode := .seq (.region k32_o17) k32_39
def k32_41 : ACode := .seq (.region k32_o16) k32_40
def k32_42 : ACode := .block 3 k32_41
def k32_43 : ACode := .seq k32_34 k32_42
def k32_44 : ACode := .loop k32_43
abbrev k32_o20 : List AJ := [.o ⟨(some 79), none, false, .mv (.t 12), none⟩, .o ⟨(some 6), none, false, .mv (.t 79), none⟩, .o ⟨(some 7), none, false, .mv (.c (.int .i64 0)), (some [6, 7])⟩]
def k32_47 : ACode := .seq (.region k32_o20) .ret
def k32_48 : ACode := .seq (.block 2 k32_44) k32_47
def k32_49 : ACode := .seq (.region k32_o14) k32_48
def k32_50 : ACode := .seq k32_30 k32_49
def k32_51 : ACode := .seq (.region k32_o9) k32_50
def k32_52 : ACode := .seq k32_17 k32_51
def k32_53 : ACode := .seq (.region k32_o6) k32_52
def k32_54 : ACode := .seq (.region k32_o5) k32_53
def k32_55 : ACode := .seq k32_10 k32_54
def k32_56 : ACode := .seq k32_5 k32_55
def k32_57 : ACode := .seq (.region k32_o0) k32_56
@[simp, simp ↓] theorem k32_3r : sR k32_3 k32_o2 .ret := yR rfl
@[simp, simp ↓] theorem k32_4r : rC k32_4 (.t 23) k32_3 .skip := zC rfl
@[simp, simp ↓] theorem k32_5r : sR k32_5 k32_o1 k32_4 := yR rfl
@[simp, simp ↓] theorem k32_8r : sR k32_8 k32_o4 .ret := yR rfl
@[simp, simp ↓] theorem k32_9r : rC k32_9 (.t 26) k32_8 .skip := zC rfl
@[simp, simp ↓] theorem k32_10r : sR k32_10 k32_o3 k32_9 := yR rfl
@[simp, simp ↓] theorem k32_15r : sR k32_15 k32_o8 .ret := yR rfl
@[simp, simp ↓] theorem k32_16r : rC k32_16 (.t 43) k32_15 .skip := zC rfl
@[simp, simp ↓] theorem k32_17r : sR k32_17 k32_o7 k32_16 := yR rfl
@[simp, simp ↓] theorem k32_21r : rC k32_21 (.t 47) .skip (.exit 0) := zC rfl
@[simp, simp ↓] theorem k32_22r : sR k32_22 k32_o11 k32_21 := yR rfl
@[simp, simp ↓] theorem k32_23r : rD k32_23 k32_o12 [] := zD rfl
@[simp, simp ↓] theorem k32_25r : rR k32_25 k32_o13 := zR rfl
@[simp, simp ↓] theorem k32_26r : sB k32_26 1 k32_23 k32_25 := yB rfl
@[simp, simp ↓] theorem k32_27r : rS k32_27 k32_22 k32_26 := zS rfl
@[simp, simp ↓] theorem k32_28r : rL k32_28 k32_27 := zL rfl
@[simp, simp ↓] theorem k32_29r : rB k32_29 0 k32_28 := zB rfl
@[simp, simp ↓] theorem k32_30r : sR k32_30 k32_o10 k32_29 := yR rfl
@[simp, simp ↓] theorem k32_33r : rC k32_33 (.t 67) .skip (.exit 2) := zC rfl
@[simp, simp ↓] theorem k32_34r : sR k32_34 k32_o15 k32_33 := yR rfl
@[simp, simp ↓] theorem k32_37r : rR k32_37 k32_o18 := zR rfl
@[simp, simp ↓] theorem k32_38r : rR k32_38 k32_o19 := zR rfl
@[simp, simp ↓] theorem k32_39r : rC k32_39 (.t 75) k32_37 k32_38 := zC rfl
@[simp, simp ↓] theorem k32_40r : sR k32_40 k32_o17 k32_39 := yR rfl
@[simp, simp ↓] theorem k32_41r : sR k32_41 k32_o16 k32_40 := yR rfl
@[simp, simp ↓] theorem k32_42r : rB k32_42 3 k32_41 := zB rfl
@[simp, simp ↓] theorem k32_43r : rS k32_43 k32_34 k32_42 := zS rfl
@[simp, simp ↓] theorem k32_44r : rL k32_44 k32_43 := zL rfl
@[simp, simp ↓] theorem k32_47r : sR k32_47 k32_o20 .ret := yR rfl
@[simp, simp ↓] theorem k32_48r : sB k32_48 2 k32_44 k32_47 := yB rfl
@[simp, simp ↓] theorem k32_49r : sR k32_49 k32_o14 k32_48 := yR rfl
@[simp, simp ↓] theorem k32_50r : rS k32_50 k32_30 k32_49 := zS rfl
@[simp, simp ↓] theorem k32_51r : sR k32_51 k32_o9 k32_50 := yR rfl
@[simp, simp ↓] theorem k32_52r : rS k32_52 k32_17 k32_51 := zS rfl
@[simp, simp ↓] theorem k32_53r : sR k32_53 k32_o6 k32_52 := yR rfl
@[simp, simp ↓] theorem k32_54r : sR k32_54 k32_o5 k32_53 := yR rfl
@[simp, simp ↓] theorem k32_55r : rS k32_55 k32_10 k32_54 := zS rfl
@[simp, simp ↓] theorem k32_56r : rS k32_56 k32_5 k32_55 := zS rfl
@[simp, simp ↓] theorem k32_57r : sR k32_57 k32_o0 k32_56 := yR rfl
noncomputable abbrev k32_C : Orc → Cx := mkC Try.prog [] 32 80 [.tmp 6, .tmp 7]
theorem k32_of0 : OfP0 Try.prog Try.f32 32 80 k32_C k32_57 := @ofP0 _ _ _ _ _ _ _ _ Try.func32 (by decide +kernel) rfl (by kernel_rfl) rfl (by kernel_rfl)
theorem specDs_s (a b : List T) (d : Int) (h : Heap) (ha : a.length ≤ 1048576) (hb : b.length ≤ 1048576) (oa : okB a) (ob : okB b) : ACalls Try.prog 32 [.snap 3 (a.map T.av), .snap 3 (b.map T.av), .int .i64 d] h (fun v h' => v = .tup [.int .i64 (dsN a b d), .int .i64 (dsC a b d)] ∧ h' = h) := by
  refine k32_of0 rfl orcDs5_p fun I => ?_
  by_cases h1 : validB a ∧ validB b
  · by_cases h2 : 0 ≤ d ∧ d ≤ 3
    · have hx := fvB_ok h1.1 d
      have hy := fvB_ok h1.2 d
      have hu := fnB_ok h1.1 d
      have hv := fnB_ok h1.2 d
      have hxl : (btB (fvB a d)).length = (fvB a d).length := by simp [btB]
      have hyl : (btB (fvB b d)).length = (fvB b d).length := by simp [btB]
      by_cases h3 : (fvB a d).length = (fvB b d).length
      · have hc : dsC a b d = 0 := by unfold dsC; rw [if_pos h1, if_pos h2, if_pos h3]
        have hN : dsN a b d = lst (canP (fnB a d) (fnB b d)) 4000 (lowB (fvB a d) (fvB b d) (fvB a d).length) := by unfold dsN; rw [if_pos hc]
        rw [hc, hN]
        refine Run2.of I 1000 ?_
        simp -implicitDefEqProofs [ha, hb, oa, ob, h1.1, h1.2, h2.1, h2.2, h3, hxl, hyl]
        generalize fvB a d = x at *
        generalize fvB b d = y at *
        generalize fnB a d = u at *
        generalize fnB b d = w at *
        have hxg : ∀ (i : Nat) (h : i < x.length), (btB x)[i]? = some x[i].t := fun i h => by simp [btB, h]
        have hyg : ∀ (i : Nat) (h : i < y.length), (btB y)[i]? = some y[i].t := fun i h => by simp [btB, h]
        refine Run2.loopE (fun (i : Nat) => [(8, .snap 3 (u.map T.av)), (9, .snap 1 ((btB x).map iv)), (10, .snap 3 (w.map T.av)), (11, .snap 1 ((btB y).map iv)), (12, .int .i64 (lowB x y i)), (13, .int .i64 i)]) (fun _ => h) (fun i => y.length - i) (fun i => i ≤ y.length) 0 (by simp [lowB]) rfl (Nat.zero_le _) fun i hi ih => ?_
        have hlw := lowB_in hx.2 hy.2 i
        by_cases hlt : i < y.length
        · have go := ih (i + 1) hlt (by omega)
          clear ih
          have hlx : i < x.length := by omega
          have hb1 := hx.2 _ (List.getElem_mem hlx)
          have hb2 := hy.2 _ (List.getElem_mem hlt)
          have hab := absI_le (n := x[i].t - y[i].t) (a := 1000) (by omega) (by omega)
          rw [lowB, show x.getD i T0 = x[i] by simp [hlx], show y.getD i T0 = y[i] by simp [hlt]] at go
          generalize lowB x y i = L at *
          have q1 := hxg i hlx
          have q2 := hyg i hlt
          generalize btB x = X at *
          generalize btB y = Y at *
          have hli : (i : Int) < (X.length : Int) := by omega
          refine Run2.of I 1000 ?_
          simp -implicitDefEqProofs [hlt, hlx, q1, q2, hxl, hyl, hli]
          have hXi : X[i] = x[i].t := by rw [List.getElem?_eq_getElem (by omega)] at q1; exact Option.some.inj q1
          have hYi : Y[i] = y[i].t := by rw [List.getElem?_eq_getElem (by omega)] at q2; exact Option.some.inj q2
          rw [hXi, hYi]
          exact ⟨by omega, by omega, by omega, by omega, by simpa using go⟩
        · obtain rfl : i = y.length := by omega
          clear ih
          have hli : ¬ (y.length : Int) < ((btB x).length : Int) := by omega
          refine Run2.of I 1000 ?_
          simp -implicitDefEqProofs [hli]
          generalize lowB x y y.length = L at *
          obtain ⟨D, hD⟩ : ∃ D, D = lst (canP u w) 4000 L := ⟨_, rfl⟩
          rw [← hD]
          refine Run2.loopE (α := Int × Int) (fun s => [(8, .snap 3 (u.map T.av)), (10, .snap 3 (w.map T.av)), (12, .int .i64 s.1), (14, .int .i64 s.2)]) (fun _ => h) (fun s => (s.2 - s.1).toNat) (fun s => L ≤ s.1 ∧ s.1 ≤ s.2 ∧ s.2 ≤ 2000 ∧ (∀ k, L ≤ k → k < s.1 → canP u w k = false) ∧ canP u w s.2 = true) (L, max L 2000) (by simp) rfl ⟨by simp, by simp only; omega, by simp only; omega, fun k k1 k2 => by simp only at k2; omega, canP_big hu hv (by simp only; omega)⟩ ?_
          rintro ⟨lo, hi⟩ ⟨i1, i2, i3, i4, i5⟩ ih
          simp only at i1 i2 i3 i4 i5 ih ⊢
          by_cases hlh : lo < hi
          · have hdv : (lo + hi).tdiv 2 = (lo + hi) / 2 := Int.tdiv_eq_ediv_of_nonneg (by omega)
            obtain ⟨m, hm⟩ : ∃ m, m = (lo + hi) / 2 := ⟨_, rfl⟩
            rw [← hm] at hdv
            have hfc := fit_can u w m
            by_cases hp : canP u w m = true
            · rw [hp] at hfc
              have go := ih (lo, m) ⟨i1, by simp only; omega, by simp only; omega, i4, hp⟩ (by simp only; omega)
              refine Run2.of I 1000 ?_
              simp -implicitDefEqProofs [hlh, hdv, hu, hv, hfc]
              exact ⟨by omega, by omega, go⟩
            · have hp : canP u w m = false := by simpa using hp
              rw [hp] at hfc
              have hno : ∀ k, L ≤ k → k < m + 1 → canP u w k = false := fun k k1 k2 => by
                cases hk : canP u w k with
                | false => rfl
                | true =>
                  have := canP_mono (m' := m) (by omega) hk
                  rw [hp] at this
                  cases this
              have go := ih (m + 1, hi) ⟨by simp only; omega, by simp only; omega, i3, hno, i5⟩ (by simp only; omega)
              refine Run2.of I 1000 ?_
              simp -implicitDefEqProofs [hlh, hdv, hu, hv, hfc]
              exact ⟨by omega, by omega, by omega, go⟩
          · obtain rfl : lo = hi := by omega
            have := lst_eq i5 4000 L i1 (by omega) i4
            rw [this] at hD
            refine Run2.of I 1000 ?_
            simp -implicitDefEqProofs
            exact hD.symm
      · have hc : dsC a b d = 3 := by unfold dsC; rw [if_pos h1, if_pos h2, if_neg h3]
        have hN : dsN a b d = 0 := by unfold dsN; rw [hc]; rfl
        rw [hc, hN]
        have h3' : ¬ ((btB (fvB a d)).length : Int) = (btB (fvB b d)).length := by omega
        refine Run2.of I 1000 ?_
        simp -implicitDefEqProofs [ha, hb, oa, ob, h1.1, h1.2, h2.1, h2.2, h3']
    · have hc : dsC a b d = 2 := by unfold dsC; rw [if_pos h1, if_neg h2]
      have hN : dsN a b d = 0 := by unfold dsN; rw [hc]; rfl
      rw [hc, hN]
      refine Run2.of I 1000 ?_
      simp -implicitDefEqProofs [ha, hb, oa, ob, h1.1, h1.2]
      exact fun q1 q2 => absurd ⟨q1, q2⟩ h2
  · have hc : dsC a b d = 1 := by unfold dsC; rw [if_neg h1]
    have hN : dsN a b d = 0 := by unfold dsN; rw [hc]; rfl
    rw [hc, hN]
    by_cases h4 : validB a
    · have h5 : ¬ validB b := fun h => h1 ⟨h4, h⟩
      refine Run2.of I 1000 ?_
      simp -implicitDefEqProofs [ha, hb, oa, ob, h4, h5]
    · refine Run2.of I 1000 ?_
      simp -implicitDefEqProofs [ha, hb, oa, ob, h4]
end Go.AG
