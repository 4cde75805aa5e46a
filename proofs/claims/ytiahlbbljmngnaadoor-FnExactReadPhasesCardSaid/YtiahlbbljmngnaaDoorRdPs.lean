/- Phases read from a text: the program and the reference. No statement is made here. -/
import Derived.Test.YtiahlbbljmngnaaDoorRdL
import Derived.Test.YtiahlbbljmngnaaDoorPsT
namespace Go.AG.P
open Go.Proofs Go.Proofs.YtiahlbbljmngnaaDoor
set_option linter.unusedSimpArgs false
set_option linter.unusedVariables false
set_option maxRecDepth 4000
/-! ## The plain law -/
def t3 : List Int → T
  | [a, b, c] => ⟨a, b, c⟩
  | _ => ⟨0, 0, 0⟩
theorem len3 {α : Type} {l : List α} (h : l.length = 3) : ∃ a b c, l = [a, b, c] := by
  match l, h with
  | [a, b, c], _ => exact ⟨a, b, c, rfl⟩
/-- The phases of a text's words, however bad. -/
noncomputable def lenP (w0 : Txt) (ws : List Txt) : Ph := ⟨(rd (Lib.cut w0 [37]).1).1, (rd (Lib.cut w0 [37]).2.1).1, ws.map fun w => t3 (rlL w)⟩
def rpG (s w0 : Txt) (ws : List Txt) : Prop := (∀ w ∈ ws, (rlL w).length = 3) ∧ (lenP w0 ws).valid ∧ phT (lenP w0 ws) = s
noncomputable instance (s w0 : Txt) (ws : List Txt) : Decidable (rpG s w0 ws) := Classical.propDecidable _
noncomputable def rpO (s : Txt) : Bool := decide (rpG s ((spl 32 s).headD []) (spl 32 s).tail)
noncomputable def rpX (s : Txt) : Ph := if rpG s ((spl 32 s).headD []) (spl 32 s).tail then lenP ((spl 32 s).headD []) (spl 32 s).tail else ⟨0, 0, []⟩
theorem rp_at {s w0 : Txt} {ws : List Txt} (h : spl 32 s = w0 :: ws) : rpO s = decide (rpG s w0 ws) ∧ rpX s = if rpG s w0 ws then lenP w0 ws else ⟨0, 0, []⟩ := by
  unfold rpO rpX
  rw [h]
  exact ⟨rfl, rfl⟩
theorem rl_three {w : Txt} (h : (rlL w).length = 3) : tT (t3 (rlL w)) = w := by
  have hg : rlG w := Classical.byContradiction fun g => by rw [(rl_bad g).1] at h; simp at h
  have h0 : w ≠ [45] := fun e => by rw [e, rl_dash.1] at h; simp at h
  have hL : rlL w = rlM w := by unfold rlL; rw [if_pos hg, if_neg h0]
  rcases hg with e | ⟨_, hg⟩
  · exact absurd e h0
  · have ht := rlM_txt fun w' hw => (hg w' hw).1
    rw [← hL] at ht
    obtain ⟨a, b, c, e⟩ := len3 h
    rw [e] at ht ⊢
    exact ht
theorem rl_tT {t : T} (h : valI t.f ∧ valI t.t ∧ valI t.s) : rlL (tT t) = [t.f, t.t, t.s] := by
  have hs : spl 44 (tT t) = [t.f, t.t, t.s].map Lib.itoa := spl_lst (by simp)
  have h0 : tT t ≠ [45] := fun e => by
    rw [e] at hs
    have := congrArg List.length hs
    simp [spl] at this
  have hall : ∀ w ∈ spl 44 (tT t), (rd w).2 = true ∧ valI (rd w).1 := fun w hw => by
    rw [hs] at hw
    simp only [List.map_cons, List.map_nil, List.mem_cons, List.not_mem_nil, or_false] at hw
    rcases hw with rfl | rfl | rfl
    · rw [rd_val' h.1]; exact ⟨rfl, h.1⟩
    · rw [rd_val' h.2.1]; exact ⟨rfl, h.2.1⟩
    · rw [rd_val' h.2.2]; exact ⟨rfl, h.2.2⟩
  rw [(rl_good h0 (by rw [hs]; simp) hall).1]
  unfold rlM
  rw [hs]
  simp [rd_val' h.1, rd_val' h.2.1, rd_val' h.2.2]
theorem it37 (n : Int) : (37 : UInt8) ∉ Lib.itoa n := itoa_no (by decide) (by decide)
theorem it32p (n : Int) : (32 : UInt8) ∉ Lib.itoa n := itoa_no (by decide) (by decide)
theorem tT_32 (t : T) : (32 : UInt8) ∉ tT t := fun hm => by
  have : tT t = Lib.itoa t.f ++ ([44] ++ (Lib.itoa t.t ++ ([44] ++ Lib.itoa t.s))) := by
    unfold tT lstT
    rw [if_neg (by simp)]
    simp only [List.map_cons, List.map_nil]
    rw [j2, j2, j1]
  rw [this] at hm
  simp only [List.mem_append, List.mem_singleton] at hm
  rcases hm with hm | hm | hm | hm | hm
  · exact it32p _ hm
  · exact absurd hm (by decide)
  · exact it32p _ hm
  · exact absurd hm (by decide)
  · exact it32p _ hm
theorem phH_32 (x : Ph) : (32 : UInt8) ∉ phH x := fun hm => by
  unfold phH at hm
  rcases List.mem_append.1 hm with hm | hm
  · exact it32p _ hm
  · rcases List.mem_cons.1 hm with hm | hm
    · exact absurd hm (by decide)
    · exact it32p _ hm
theorem rd_true' {s : Txt} (h : (rd s).2 = true) : s = Lib.itoa (rd s).1 := (rd_spec (n := (rd s).1) (by rw [← h])).1
theorem rp_good {s w0 x y : Txt} {ws : List Txt} (h : spl 32 s = w0 :: ws) (hx : spl 37 w0 = [x, y]) (h1 : (rd x).2 = true) (h2 : (rd y).2 = true) (h3 : ∀ w ∈ ws, (rlL w).length = 3)
    (hv : Ph.valid ⟨(rd x).1, (rd y).1, ws.map fun w => t3 (rlL w)⟩) : rpX s = ⟨(rd x).1, (rd y).1, ws.map fun w => t3 (rlL w)⟩ ∧ rpO s = true := by
  obtain ⟨e1, n1, n2⟩ := spl_two hx
  have hL : lenP w0 ws = ⟨(rd x).1, (rd y).1, ws.map fun w => t3 (rlL w)⟩ := by
    unfold lenP
    rw [show Lib.cut w0 [37] = (x, y, true) by rw [e1]; exact cut_hit 37 n1]
  have hg : rpG s w0 ws := by
    refine ⟨h3, by rw [hL]; exact hv, ?_⟩
    rw [hL]
    unfold phT
    rw [if_pos hv]
    have e2 : phH ⟨(rd x).1, (rd y).1, ws.map fun w => t3 (rlL w)⟩ = w0 := by
      unfold phH
      simp only
      rw [← rd_true' h1, ← rd_true' h2, e1]
    have e3 : (ws.map fun w => t3 (rlL w)).map tT = ws := by
      rw [List.map_map]
      conv => rhs; rw [← List.map_id ws]
      exact List.map_congr_left fun w hw => rl_three (h3 w hw)
    rw [e2, e3, ← h, spl_join]
  obtain ⟨a1, a2⟩ := rp_at h
  rw [a1, a2, if_pos hg, decide_eq_true hg]
  exact ⟨hL, rfl⟩
theorem rp_back {s w0 : Txt} {ws : List Txt} (h : spl 32 s = w0 :: ws) (hg : rpG s w0 ws) : ∃ x y, spl 37 w0 = [x, y] ∧ (rd x).2 = true ∧ (rd y).2 = true ∧ Ph.valid ⟨(rd x).1, (rd y).1, ws.map fun w => t3 (rlL w)⟩ := by
  obtain ⟨h3, hv, ht⟩ := hg
  have hs : spl 32 s = phH (lenP w0 ws) :: (lenP w0 ws).ts.map tT := by
    rw [← ht]
    unfold phT
    rw [if_pos hv]
    refine join_spl 32 _ (by simp) fun x hx => ?_
    rcases List.mem_cons.1 hx with rfl | hx
    · exact phH_32 _
    · obtain ⟨t, _, rfl⟩ := List.mem_map.1 hx
      exact tT_32 t
  rw [h] at hs
  have hw0 := List.head_eq_of_cons_eq hs
  have hn : in18 (lenP w0 ws).n ∧ in18 (lenP w0 ws).m := by
    obtain ⟨v1, v2, v3, v4, _⟩ := hv
    unfold in18; omega
  have r1 : rd (Lib.itoa (lenP w0 ws).n) = ((lenP w0 ws).n, true) := rd_some rfl hn.1
  have r2 : rd (Lib.itoa (lenP w0 ws).m) = ((lenP w0 ws).m, true) := rd_some rfl hn.2
  refine ⟨Lib.itoa (lenP w0 ws).n, Lib.itoa (lenP w0 ws).m, ?_, by rw [r1], by rw [r2], ?_⟩
  · conv => lhs; rw [hw0]
    exact two_spl (it37 _) (it37 _)
  · rw [r1, r2]
    exact hv
theorem rp_bad {s w0 : Txt} {ws : List Txt} (h : spl 32 s = w0 :: ws) (hg : ¬ rpG s w0 ws) : rpX s = ⟨0, 0, []⟩ ∧ rpO s = false := by
  obtain ⟨a1, a2⟩ := rp_at h
  rw [a1, a2, if_neg hg, decide_eq_false hg]
  exact ⟨rfl, rfl⟩
theorem t3_in (w : Txt) (h : (rlL w).length = 3) : (t3 (rlL w)).ok := by
  have hs : ∀ n ∈ rlL w, in64 n := fun n hn => by
    unfold rlL at hn
    split at hn
    · split at hn
      · simp at hn
      · unfold rlM at hn
        obtain ⟨x, _, rfl⟩ := List.mem_map.1 hn
        have := rd_in x
        unfold in18 at this
        unfold in64; omega
    · simp at hn
  obtain ⟨a, b, c, e⟩ := len3 h
  rw [e] at hs ⊢
  exact ⟨hs a (by simp), hs b (by simp), hs c (by simp)⟩
theorem ph_ok (x y : Txt) (ws : List Txt) (h : ∀ w ∈ ws, (rlL w).length = 3) : Ph.ok ⟨(rd x).1, (rd y).1, ws.map fun w => t3 (rlL w)⟩ := by
  have ix := rd_in x
  have iy := rd_in y
  unfold in18 at ix iy
  refine ⟨by unfold in64; simp only; omega, by unfold in64; simp only; omega, fun t ht => ?_⟩
  obtain ⟨w, hw, rfl⟩ := List.mem_map.1 ht
  exact t3_in w (h w hw)
theorem Run2.freezeS {C : Cx} {sk : List AItem} {e e' : Env} {h h' : Heap} {R : AV → Heap → Prop} (id : Nat) {b : Blk} (hb : hget h id = some b) (hd : dom h' = dom (hdel h id)) (hs : ∀ p ∈ h', p ∈ hdel h id ∨ ∃ c, (p.1, c) ∈ hdel h id ∧ p.2 = ⟨c.sz, fzs id b c.l⟩)
    (he : ∀ t, eget e' t = eget e t ∨ eget e' t = fz id b (eget e t)) (g : Run2 C sk e' h' R) : Run2 C sk e h R := by
  unfold Run2 at g ⊢
  intro k tmps w cs w0 D0 hk S
  obtain ⟨H', Ev⟩ := S.heap.del id
  have hd2 : Held w (dom (hdel h id)) id b := S.heap.held hb (fun _ => dom_hdel_sub) (hdel_out S.heap.nd)
  refine g k tmps w cs w0 D0 hk ⟨fun t => ?_, S.size, ⟨by rw [hd]; exact H'.nd, fun p hp => ?_, by rw [hd]; exact H'.fix⟩, by rw [hd]; exact S.ev.trans Ev⟩
  · have := Rep.mono Ev.keeps _ _ (S.env t)
    rw [hd]
    rcases he t with h1 | h1
    · rw [h1]; exact this
    · rw [h1]; exact Rep.fz hd2 _ _ this
  · rw [hd]
    rcases hs p hp with h1 | ⟨c, h1, h2⟩
    · exact H'.all p h1
    · obtain ⟨cs', el, e1, hE⟩ := H'.all _ h1
      refine ⟨cs', el, e1, ?_⟩
      rw [h2]
      exact Elems.fz hd2 _ _ _ _ hE
/-- A block that only the next one holds is not written any more. -/
theorem Wk.ip3 {a b c d : AV} (h : Wk c d) : Wk (.ip [a, b, c]) (.ip [a, b, d]) := fun w D v ⟨bl, o, e, h1, h2, h3⟩ => ⟨bl, o, e, h1, h2, by
  rw [Cells_iff] at h3 ⊢
  intro i x hx
  match i, hx with
  | 0, hx => exact h3 0 x hx
  | 1, hx => exact h3 1 x hx
  | 2, hx =>
    obtain rfl : d = x := by simpa using hx
    obtain ⟨u, q1, q2, q3⟩ := h3 2 c rfl
    exact ⟨u, q1, q2, h w D u q3⟩
  | i + 3, hx => simp at hx⟩
/-! ## The reference -/
theorem len2 {α : Type} {l : List α} (h : l.length = 2) : ∃ a b, l = [a, b] := by
  match l, h with
  | [a, b], _ => exact ⟨a, b, rfl⟩
theorem spl_cons (c : UInt8) (s : Txt) : ∃ w0 ws, spl c s = w0 :: ws := by
  cases h : spl c s with
  | nil => exact absurd h (spl_ne c s)
  | cons a t => exact ⟨a, t, rfl⟩
theorem wkZ (b : Bool) : Wk (.tup [.agg [.int .i64 0, .int .i64 0, .nilsl], .bool b]) (.tup [Ph.av ⟨0, 0, []⟩, .bool b]) := Wk.tup (.cons (Wk.agg (.cons (.refl _) (.cons (.refl _) (.cons (Wk.nil 3) .nil)))) (.cons (.refl _) .nil))
noncomputable def orcRp1 : List (Nat × (List AV → Option (Prop × AV))) := (15, o_l01Split) :: (24, o_l01Number) :: (25, o_ReadListS) :: []
theorem orcRp1_p : Pure Tryd.prog (lk orcRp1) := (lk_pure o_l01Split_k (lk_pure o_l01Number_k (lk_pure o_ReadListS_k lk_pure0)))
@[simp] theorem orcRp1_l (b : Bool) (g : FuncId) (l : List AV) : lk orcRp1 b g l = if g = 15 then o_l01Split l else if g = 24 then o_l01Number l else if g = 25 then o_ReadListS l else none := nr rfl
abbrev k10_o0 : List AJ := [.o ⟨(some 2), none, false, .alloc true 3 (.agg [(.int .i64 0), (.int .i64 0), .nilsl]), none⟩, .o ⟨(some 3), none, false, .mv (.c (.bool false)), (some [0, 2])⟩]
abbrev k10_o1 : List AJ := [.o ⟨(some 15), none, false, .mv (.t 0), none⟩, .o ⟨(some 16), none, false, .call 15 [(.t 15), (.c (.int .u8 32))], none⟩, .o ⟨(some 4), none, false, .mv (.t 16), (some [2, 4])⟩]
abbrev k10_o2 : List AJ := [.o ⟨(some 17), none, false, .mv (.t 4), none⟩, .o ⟨(some 18), none, false, .idxA 1 (.t 17) (.c (.int .i64 0)), none⟩, .o ⟨(some 19), none, false, .load 1 false (.t 18), none⟩, .o ⟨(some 20), none, false, .call 15 [(.t 19), (.c (.int .u8 37))], none⟩, .o ⟨(some 5), none, false, .mv (.t 20), (some [2, 4, 5])⟩]
abbrev k10_o3 : List AJ := [.o ⟨(some 21), none, false, .mv (.t 5), none⟩, .o ⟨(some 22), none, false, .len (.t 21), none⟩, .o ⟨(some 23), none, false, .bin .neq (.t 22) (.c (.int .i64 2)), (some [2, 4, 5, 23])⟩]
abbrev k10_o4 : List AJ := [.o ⟨(some 24), none, false, .build [(.int .i64 0), (.int .i64 0), .nilsl] [], none⟩, .o ⟨none, none, false, .store 3 (.t 2) (.t 24), none⟩, .o ⟨(some 3), none, false, .mv (.c (.bool false)), (some [2, 3])⟩]
def k10_5 : ACode := .seq (.region k10_o4) .ret
def k10_6 : ACode := .cond (.t 23) k10_5 .skip
def k10_7 : ACode := .seq (.region k10_o3) k10_6
abbrev k10_o5 : List AJ := [.o ⟨(some 26), none, false, .mv (.t 5), none⟩, .o ⟨(some 27), none, false, .idxA 1 (.t 26) (.c (.int .i64 0)), none⟩, .o ⟨(some 28), none, false, .load 1 false (.t 27), none⟩, .o ⟨(some 29), none, false, .call 24 [(.t 28)], none⟩, .o ⟨(some 25), none, false, .mv (.t 29), none⟩, .o ⟨(some 30), none, false, .extract (.t 25) 0, none⟩, .o ⟨(some 31), none, false, .extract (.t 25) 1, none⟩, .o ⟨(some 6), none, false, .mv (.t 30), none⟩, .o ⟨(some 7), none, false, .mv (.t 31), (some [2, 4, 5, 6, 7])⟩]
abbrev k10_o6 : List AJ := [.o ⟨(some 33), none, false, .mv (.t 5), none⟩, .o ⟨(some 34), none, false, .idxA 1 (.t 33) (.c (.int .i64 1)), none⟩, .o ⟨(some 35), none, false, .load 1 false (.t 34), none⟩, .o ⟨(some 36), none, false, .call 24 [(.t 35)], none⟩, .o ⟨(some 32), none, false, .mv (.t 36), none⟩, .o ⟨(some 37), none, false, .extract (.t 32) 0, none⟩, .o ⟨(some 38), none, false, .extract (.t 32) 1, none⟩, .o ⟨(some 8), none, false, .mv (.t 37), none⟩, .o ⟨(some 9), none, false, .mv (.t 38), (some [2, 4, 6, 7, 8, 9])⟩]
abbrev k10_o7 : List AJ := [.o ⟨(some 39), none, false, .mv (.t 6), none⟩, .o ⟨(some 40), none, false, .mv (.t 8), none⟩, .o ⟨(some 41), none, false, .build [(.int .i64 0), (.int .i64 0), .nilsl] [(0, 1, (.t 39)), (1, 1, (.t 40))], none⟩, .o ⟨(some 10), none, false, .alloc true 3 (.agg [(.int .i64 0), (.int .i64 0), .nilsl]), none⟩, .o ⟨none, none, false, .store 3 (.t 10) (.t 41), (some [2, 4, 7, 9, 10])⟩]
abbrev k10_o8 : List AJ := [.o ⟨(some 42), none, false, .mv (.t 7), none⟩, .o ⟨(some 43), none, false, .mv (.t 42), none⟩, .o ⟨(some 44), (some (43, true)), false, .mv (.t 9), none⟩, .o ⟨(some 45), none, false, .pick (.t 43) (.t 44) (.c (.bool false)), none⟩, .o ⟨(some 11), none, false, .mv (.t 45), (some [2, 4, 10, 11])⟩]
abbrev k10_o9 : List AJ := [.o ⟨(some 12), none, false, .mv (.c (.int .i64 1)), (some [2, 4, 10, 11, 12])⟩]
abbrev k10_o10 : List AJ := [.o ⟨(some 46), none, false, .mv (.t 12), none⟩, .o ⟨(some 47), none, false, .mv (.t 4), none⟩, .o ⟨(some 48), none, false, .len (.t 47), none⟩, .o ⟨(some 49), none, false, .bin .lss (.t 46) (.t 48), (some [2, 4, 10, 11, 12, 49])⟩]
def k10_14 : ACode := .cond (.t 49) .skip (.exit 0)
def k10_15 : ACode := .seq (.region k10_o10) k10_14
abbrev k10_o11 : List AJ := [.o ⟨(some 53), none, false, .mv (.t 4), none⟩, .o ⟨(some 54), none, false, .mv (.t 12), none⟩, .o ⟨(some 55), none, false, .idxA 1 (.t 53) (.t 54), none⟩, .o ⟨(some 56), none, false, .load 1 false (.t 55), none⟩, .o ⟨(some 57), none, false, .call 25 [(.t 56)], none⟩, .o ⟨(some 52), none, false, .mv (.t 57), none⟩, .o ⟨(some 58), none, false, .extract (.t 52) 0, none⟩, .o ⟨(some 59), none, false, .extract (.t 52) 1, none⟩, .o ⟨(some 13), none, false, .mv (.t 58), none⟩, .o ⟨(some 14), none, false, .mv (.t 59), (some [2, 4, 10, 11, 12, 13, 14])⟩]
abbrev k10_o12 : List AJ := [.o ⟨(some 60), none, false, .mv (.t 14), none⟩, .o ⟨(some 61), none, false, .un .not (.t 60), none⟩, .o ⟨(some 62), none, false, .mv (.t 61), none⟩, .o ⟨(some 63), (some (62, false)), false, .mv (.t 13), none⟩, .o ⟨(some 64), (some (62, false)), false, .len (.t 63), none⟩, .o ⟨(some 65), (some (62, false)), false, .bin .neq (.t 64) (.c (.int .i64 3)), none⟩, .o ⟨(some 66), none, false, .pick (.t 62) (.c (.bool true)) (.t 65), (some [2, 4, 10, 11, 12, 13, 66])⟩]
abbrev k10_o13 : List AJ := [.o ⟨(some 67), none, false, .build [(.int .i64 0), (.int .i64 0), .nilsl] [], none⟩, .o ⟨none, none, false, .store 3 (.t 2) (.t 67), none⟩, .o ⟨(some 3), none, false, .mv (.c (.bool false)), (some [2, 3])⟩]
def k10_19 : ACode := .seq (.region k10_o13) .ret
def k10_20 : ACode := .cond (.t 66) k10_19 .skip
def k10_21 : ACode := .seq (.region k10_o12) k10_20
abbrev k10_o14 : List AI := [⟨(some 68), none, false, .fieldA 2 (.t 10), none⟩, ⟨(some 69), none, false, .load 1 false (.t 68), none⟩, ⟨(some 70), none, false, .mv (.t 13), none⟩, ⟨(some 71), none, false, .idxA 1 (.t 70) (.c (.int .i64 0)), none⟩, ⟨(some 72), none, false, .load 1 false (.t 71), none⟩, ⟨(some 73), none, false, .mv (.t 13), none⟩, ⟨(some 74), none, false, .idxA 1 (.t 73) (.c (.int .i64 1)), none⟩, ⟨(some 75), none, false, .load 1 false (.t 74), none⟩, ⟨(some 76), none, false, .mv (.t 13), none⟩, ⟨(some 77), none, false, .idxA 1 (.t 76) (.c (.int .i64 2)), none⟩, ⟨(some 78), none, false, .load 1 false (.t 77), none⟩, ⟨(some 79), none, false, .build [(.int .i64 0), (.int .i64 0), (.int .i64 0)] [(0, 1, (.t 72)), (1, 1, (.t 75)), (2, 1, (.t 78))], none⟩, ⟨(some 80), none, false, .bsl false 3 [(.t 79)], (some [2, 4, 10, 11, 12, 69, 80])⟩]
abbrev k10_o15 : List AJ := [.o ⟨(some 81), none, false, .append 3 24 (.t 69) (.t 80), none⟩, .o ⟨(some 82), none, false, .fieldA 2 (.t 10), none⟩, .o ⟨none, none, false, .store 1 (.t 82) (.t 81), (some [2, 4, 10, 11, 12])⟩]
def k10_22 : ACode := .draw k10_o14 k10_o15 rfl
def k10_23 : ACode := .seq k10_21 k10_22
def k10_24 : ACode := .seq (.region k10_o11) k10_23
abbrev k10_o16 : List AJ := [.o ⟨(some 50), none, false, .mv (.t 12), none⟩, .o ⟨(some 51), none, true, .bin .add (.t 50) (.c (.int .i64 1)), none⟩, .o ⟨(some 12), none, false, .mv (.t 51), (some [2, 4, 10, 11, 12])⟩]
def k10_26 : ACode := .region k10_o16
def k10_27 : ACode := .seq (.block 1 k10_24) k10_26
def k10_28 : ACode := .seq k10_15 k10_27
def k10_29 : ACode := .loop k10_28
def k10_30 : ACode := .block 0 k10_29
def k10_31 : ACode := .seq (.region k10_o9) k10_30
abbrev k10_o17 : List AJ := [.o ⟨(some 83), none, false, .mv (.t 11), none⟩, .o ⟨(some 84), none, false, .un .not (.t 83), none⟩, .o ⟨(some 85), none, false, .mv (.t 84), none⟩, .o ⟨(some 86), (some (85, false)), false, .call 26 [(.t 10)], none⟩, .o ⟨(some 87), (some (85, false)), false, .un .not (.t 86), none⟩, .o ⟨(some 88), none, false, .pick (.t 85) (.c (.bool true)) (.t 87), (some [2, 10, 88])⟩]
abbrev k10_o18 : List AJ := [.o ⟨(some 89), none, false, .build [(.int .i64 0), (.int .i64 0), .nilsl] [], none⟩, .o ⟨none, none, false, .store 3 (.t 2) (.t 89), none⟩, .o ⟨(some 3), none, false, .mv (.c (.bool false)), (some [2, 3])⟩]
def k10_34 : ACode := .seq (.region k10_o18) .ret
def k10_35 : ACode := .cond (.t 88) k10_34 .skip
def k10_36 : ACode := .seq (.region k10_o17) k10_35
abbrev k10_o19 : List AJ := [.o ⟨(some 90), none, false, .load 3 true (.t 10), none⟩, .o ⟨none, none, false, .store 3 (.t 2) (.t 90), none⟩, .o ⟨(some 3), none, false, .mv (.c (.bool true)), (some [2, 3])⟩]
def k10_38 : ACode := .seq (.region k10_o19) .ret
def k10_39 : ACode := .seq k10_36 k10_38
def k10_40 : ACode := .seq k10_31 k10_39
def k10_41 : ACode := .seq (.region k10_o8) k10_40
def k10_42 : ACode := .seq (.region k10_o7) k10_41
def k10_43 : ACode := .seq (.region k10_o6) k10_42
def k10_44 : ACode := .seq (.region k10_o5) k10_43
def k10_45 : ACode := .seq k10_7 k10_44
def k10_46 : ACode := .seq (.region k10_o2) k10_45
def k10_47 : ACode := .seq (.region k10_o1) k10_46
def k10_48 : ACode := .seq (.region k10_o0) k10_47
@[simp, simp ↓] theorem k10_5r : sR k10_5 k10_o4 .ret := yR rfl
@[simp, simp ↓] theorem k10_6r : rC k10_6 (.t 23) k10_5 .skip := zC rfl
@[simp, simp ↓] theorem k10_7r : sR k10_7 k10_o3 k10_6 := yR rfl
@[simp, simp ↓] theorem k10_14r : rC k10_14 (.t 49) .skip (.exit 0) := zC rfl
@[simp, simp ↓] theorem k10_15r : sR k10_15 k10_o10 k10_14 := yR rfl
@[simp, simp ↓] theorem k10_19r : sR k10_19 k10_o13 .ret := yR rfl
@[simp, simp ↓] theorem k10_20r : rC k10_20 (.t 66) k10_19 .skip := zC rfl
@[simp, simp ↓] theorem k10_21r : sR k10_21 k10_o12 k10_20 := yR rfl
@[simp, simp ↓] theorem k10_22r : rD k10_22 k10_o14 k10_o15 := zD rfl
@[simp, simp ↓] theorem k10_23r : rS k10_23 k10_21 k10_22 := zS rfl
@[simp, simp ↓] theorem k10_24r : sR k10_24 k10_o11 k10_23 := yR rfl
@[simp, simp ↓] theorem k10_26r : rR k10_26 k10_o16 := zR rfl
@[simp, simp ↓] theorem k10_27r : sB k10_27 1 k10_24 k10_26 := yB rfl
@[simp, simp ↓] theorem k10_28r : rS k10_28 k10_15 k10_27 := zS rfl
@[simp, simp ↓] theorem k10_29r : rL k10_29 k10_28 := zL rfl
@[simp, simp ↓] theorem k10_30r : rB k10_30 0 k10_29 := zB rfl
@[simp, simp ↓] theorem k10_31r : sR k10_31 k10_o9 k10_30 := yR rfl
@[simp, simp ↓] theorem k10_34r : sR k10_34 k10_o18 .ret := yR rfl
@[simp, simp ↓] theorem k10_35r : rC k10_35 (.t 88) k10_34 .skip := zC rfl
@[simp, simp ↓] theorem k10_36r : sR k10_36 k10_o17 k10_35 := yR rfl
@[simp, simp ↓] theorem k10_38r : sR k10_38 k10_o19 .ret := yR rfl
@[simp, simp ↓] theorem k10_39r : rS k10_39 k10_36 k10_38 := zS rfl
@[simp, simp ↓] theorem k10_40r : rS k10_40 k10_31 k10_39 := zS rfl
@[simp, simp ↓] theorem k10_41r : sR k10_41 k10_o8 k10_40 := yR rfl
@[simp, simp ↓] theorem k10_42r : sR k10_42 k10_o7 k10_41 := yR rfl
@[simp, simp ↓] theorem k10_43r : sR k10_43 k10_o6 k10_42 := yR rfl
@[simp, simp ↓] theorem k10_44r : sR k10_44 k10_o5 k10_43 := yR rfl
@[simp, simp ↓] theorem k10_45r : rS k10_45 k10_7 k10_44 := zS rfl
@[simp, simp ↓] theorem k10_46r : sR k10_46 k10_o2 k10_45 := yR rfl
@[simp, simp ↓] theorem k10_47r : sR k10_47 k10_o1 k10_46 := yR rfl
@[simp, simp ↓] theorem k10_48r : sR k10_48 k10_o0 k10_47 := yR rfl
noncomputable abbrev k10_C : Orc → Cx := mkC Tryd.prog [2, 10] 10 91 [.cell 2 3 true, .tmp 3]
theorem k10_of : OfP Tryd.prog Tryd.f10 10 91 k10_C k10_48 := @ofP _ _ _ _ _ _ _ _ Tryd.func10 (by decide +kernel) rfl (by kernel_rfl) rfl (by kernel_rfl)
theorem specRP_c (s : Txt) (h : Heap) (hs : s.length ≤ 1048576) : ACalls Tryd.prog 10 [.str s] h (fun v h' => v = .tup [(rpX s).av, .bool (rpO s)] ∧ h' = h) := by
  refine k10_of rfl orcRp1_p fun I => ?_
  obtain ⟨w0, ws, hW⟩ := spl_cons 32 s
  have hmany := spl_many 32 s
  have hwl : ∀ w ∈ ws, List.length w ≤ 1048576 := fun w hw => Nat.le_trans (spl_le 32 s w (by rw [hW]; exact List.mem_cons_of_mem _ hw)) hs
  have hw0 : List.length w0 ≤ 1048576 := Nat.le_trans (spl_le 32 s w0 (by rw [hW]; exact List.mem_cons_self ..)) hs
  rw [hW, List.length_cons] at hmany
  by_cases h2 : (spl 37 w0).length = 2
  · obtain ⟨x, y, hxy⟩ := len2 h2
    have hx : x.length ≤ 1048576 := Nat.le_trans (spl_le 37 w0 x (by rw [hxy]; simp)) hw0
    have hy : y.length ≤ 1048576 := Nat.le_trans (spl_le 37 w0 y (by rw [hxy]; simp)) hw0
    have hgood := rp_good hW hxy
    have hbad : ¬ ((rd x).2 = true ∧ (rd y).2 = true ∧ (∀ w ∈ ws, (rlL w).length = 3) ∧ Ph.valid ⟨(rd x).1, (rd y).1, ws.map fun w => t3 (rlL w)⟩) → rpX s = ⟨0, 0, []⟩ ∧ rpO s = false := fun hn => rp_bad hW fun hg => hn (by
      obtain ⟨x', y', e, q1, q2, q3⟩ := rp_back hW hg
      rw [hxy] at e
      obtain rfl := List.head_eq_of_cons_eq e
      obtain rfl := List.head_eq_of_cons_eq (List.tail_eq_of_cons_eq e)
      exact ⟨q1, q2, hg.1, q3⟩)
    have hokP := ph_ok x y ws
    refine Run2.of I 1000 ?_
    simp -implicitDefEqProofs [hs, hW, hw0, hxy, hx, hy]
    intro a ha b hb hb2
    have key : ∀ ok : Bool, ok = ((rd x).2 && (rd y).2) → Run2 (k10_C (lk orcRp1)) [.code k10_28, .inLoop k10_28, .inBlock 0, .code k10_39]
        [(2, .ptr a 3 0 0), (4, .snap 1 (.str w0 :: ws.map sv)), (10, .ptr b 3 0 0), (11, .bool ok), (12, .int .i64 1)]
        ((b, ⟨3, [.agg [.int .i64 (rd x).1, .int .i64 (rd y).1, .nilsl]]⟩) :: (a, ⟨3, [.agg [.int .i64 0, .int .i64 0, .nilsl]]⟩) :: h)
        (Post fun v h' => v = .tup [(rpX s).av, .bool (rpO s)] ∧ h' = h) := fun ok hok => by
      refine Run2.loopE (α := Nat × AV × Heap) (fun p => [(2, .ptr a 3 0 0), (4, .snap 1 (.str w0 :: ws.map sv)), (10, .ptr b 3 0 0), (11, .bool ok), (12, .int .i64 ((p.1 : Int) + 1))])
        (fun p => p.2.2 ++ ((b, ⟨3, [.agg [.int .i64 (rd x).1, .int .i64 (rd y).1, p.2.1]]⟩) :: (a, ⟨3, [.agg [.int .i64 0, .int .i64 0, .nilsl]]⟩) :: h)) (fun p => ws.length - p.1)
        (fun p => p.1 ≤ ws.length ∧ (∀ w ∈ ws.take p.1, (rlL w).length = 3) ∧ Grow 3 p.2.1 (((ws.take p.1).map fun w => t3 (rlL w)).map T.av) p.2.2 ∧ b ∉ dom p.2.2 ∧ a ∉ dom p.2.2) (0, .nilsl, []) (by simp) rfl ⟨Nat.zero_le _, by simp, .nil, by simp [dom], by simp [dom]⟩ ?_
      rintro ⟨i, u, hp⟩ ⟨hi, h3, hg, hpb, hpa⟩ ih
      simp only at hi h3 hg hpb hpa ih
      have hcell := hg.cell
      by_cases hlt : i < ws.length
      · have hlti : (i : Int) + 1 < ws.length + 1 := by omega
        have hc : ((i : Int) + 1).toNat = i + 1 := by omega
        have hwi := hwl _ (List.getElem_mem hlt)
        have hrb : ¬ (rlL ws[i]).length = 3 → rpX s = ⟨0, 0, []⟩ ∧ rpO s = false := fun hn => hbad fun hh => hn (hh.2.2.1 _ (List.getElem_mem hlt))
        have go := fun (hw : (rlL ws[i]).length = 3) u' hp' (g : Grow 3 u' (((ws.take i).map fun w => t3 (rlL w)).map T.av ++ [T.av (t3 (rlL ws[i]))]) hp') hb' ha' => ih (i + 1, u', hp') ⟨hlt, fun w hm => by
          rw [List.take_succ_eq_append_getElem hlt] at hm
          rcases List.mem_append.1 hm with hm | hm
          · exact h3 w hm
          · rw [List.mem_singleton.1 hm]; exact hw, by
          show Grow 3 u' (((ws.take (i + 1)).map fun w => t3 (rlL w)).map T.av) hp'
          rw [List.take_succ_eq_append_getElem hlt]
          simpa only [List.map_append, List.map_cons, List.map_nil] using g, hb', ha'⟩ (by simp only; omega)
        clear ih hgood hbad hokP
        generalize hti : ws[i] = z at *
        by_cases hz : (rlL z).length = 3
        · obtain ⟨p, q, r, hl⟩ := len3 hz
          have hO : rlO z = true := Classical.byContradiction fun g => by
            have : rlO z = false := by simpa using g
            unfold rlO at this
            rw [(rl_bad (of_decide_eq_false this)).1] at hl
            simp at hl
          rw [hl] at go
          refine Run2.of I 1000 ?_
          simp -implicitDefEqProofs [hlt, hlti, hc, hti, hwi, hO, hl, hcell, hget_app hpb, hget_app hpa, hb]
          refine ⟨by omega, ?_⟩
          refine hg.app_mid (pre := []) (fun _ _ h => by simp [dom] at h) (by simp; omega) (by simp) fun w2 hp2 hg2 hf => ?_
          have hfb : b ∉ dom hp2 := fun h => hf b h (by simp [dom])
          have hfa : a ∉ dom hp2 := fun h => hf a h (by simp [dom])
          have := go (by simp) w2 hp2 (by simpa [t3] using hg2) hfb hfa
          simp -implicitDefEqProofs [hg2.cell, cells_of hg2.cell, stor_of hg2.cell, hget_app hfb, hset_app hfb]
          exact ⟨by omega, by simpa using this⟩
        · obtain ⟨e1, e2⟩ := hrb hz
          have hzi : ¬ ((rlL z).length : Int) = 3 := by omega
          rw [e1, e2]
          cases hO : rlO z
          all_goals
            refine Run2.of I 1000 ?_
            simp -implicitDefEqProofs [hlt, hlti, hc, hti, hwi, hO, hzi, hcell, hget_app hpb, hget_app hpa, hset_app hpa, hb]
            refine ⟨by omega, ?_⟩
            exact .wk (wkZ _) (Post.dropAll rfl (.drop b (.drop a (.base ⟨rfl, by simp [hdel, hb]⟩))))
      · obtain rfl : i = ws.length := by omega
        rw [List.take_length] at h3 hg
        have hok3 := hokP h3
        have hLl : (ws.map fun w => t3 (rlL w)).length ≤ 4194304 := by rw [List.length_map]; omega
        have hgv := fun h1 h2 => hgood h1 h2 h3
        clear ih hgood
        generalize (ws.map fun w => t3 (rlL w)) = L at *
        have fin : ∀ v, IsL T.av 3 v L → Run2 (k10_C (lk orcRp1)) [.code k10_28, .inLoop k10_28, .inBlock 0, .code k10_39]
            [(2, .ptr a 3 0 0), (4, .snap 1 (.str w0 :: ws.map sv)), (10, .ptr b 3 0 0), (11, .bool ok), (12, .int .i64 ((ws.length : Int) + 1))]
            ((b, ⟨3, [.agg [.int .i64 (rd x).1, .int .i64 (rd y).1, v]]⟩) :: (a, ⟨3, [.agg [.int .i64 0, .int .i64 0, .nilsl]]⟩) :: h)
            (Post fun v h' => v = .tup [(rpX s).av, .bool (rpO s)] ∧ h' = h) := fun v hv => by
          have hvc := hv.cold T.cold
          have hfv := fz_cold b ⟨3, [.agg [.int .i64 (rd x).1, .int .i64 (rd y).1, v]]⟩ v hvc
          have hlti : ¬ (ws.length : Int) + 1 < ws.length + 1 := by omega
          refine Run2.freeze b (by simp [hget]; rfl) ?_
          simp -implicitDefEqProofs [fzE, fz, fzs, hdel, hb, Ne.symm hb, hfv]
          have hcall := fun H => (l23Ok_cL ⟨(rd x).1, (rd y).1, L⟩ H hLl hok3).wk (.cons (Wk.ip3 (a := .int .i64 (rd x).1) (b := .int .i64 (rd y).1) hv.wk) .nil)
          cases hok1 : ok with
          | false =>
            obtain ⟨e1, e2⟩ := hbad (fun hh => by rw [hok1, hh.1, hh.2.1] at hok; simp at hok)
            rw [e1, e2]
            refine Run2.of I 1000 ?_
            simp -implicitDefEqProofs [hlti]
            exact .wk (wkZ _) (.drop a (.base ⟨rfl, by simp [hdel]⟩))
          | true =>
            rw [hok1] at hok
            have hxy2 : (rd x).2 = true ∧ (rd y).2 = true := by simpa using hok.symm
            by_cases hval : Ph.valid ⟨(rd x).1, (rd y).1, L⟩
            · obtain ⟨e1, e2⟩ := hgv hxy2.1 hxy2.2 hval
              rw [e1, e2]
              rw [decide_eq_true hval] at hcall
              refine Run2.of I 1000 ?_
              simp -implicitDefEqProofs [hlti]
              first | refine dcallK (hcall _) ?_ | (refine (hcall _).mono ?_; rintro v h' ⟨rfl, rfl⟩; refine gK.go ?_)
              simp -implicitDefEqProofs [hvc]
              exact ⟨hv.cell, .wk (Wk.tup (.cons (Wk.agg (.cons (.refl _) (.cons (.refl _) (.cons hv.wk .nil)))) (.cons (.refl _) .nil))) (.drop a (.base ⟨rfl, by simp [hdel]⟩))⟩
            · obtain ⟨e1, e2⟩ := hbad (fun hh => hval hh.2.2.2)
              rw [e1, e2]
              rw [decide_eq_false hval] at hcall
              refine Run2.of I 1000 ?_
              simp -implicitDefEqProofs [hlti]
              first | refine dcallK (hcall _) ?_ | (refine (hcall _).mono ?_; rintro v h' ⟨rfl, rfl⟩; refine gK.go ?_)
              simp -implicitDefEqProofs
              exact .wk (wkZ _) (.drop a (.base ⟨rfl, by simp [hdel]⟩))
        have ho := Grow.own hg
        cases ho with
        | nil => simpa using fin .nilsl .nil
        | emp => simpa using fin .emp .emp
        | sl id cap ex hex =>
          have hib : ¬ id = b := fun e => hpb (by simp [dom, e])
          have hia : ¬ id = a := fun e => hpa (by simp [dom, e])
          have htk : List.take L.length (List.map T.av L ++ ex) = List.map T.av L := by simp
          refine Run2.freezeS id (h' := (b, ⟨3, [.agg [.int .i64 (rd x).1, .int .i64 (rd y).1, .snap 3 (L.map T.av)]]⟩) :: (a, ⟨3, [.agg [.int .i64 0, .int .i64 0, .nilsl]]⟩) :: h) (by simp [hget]; rfl) (by simp [hdel, dom]) ?_ ?_ (fin (.snap 3 (L.map T.av)) (.snap L))
          · intro p hp
            simp only [List.mem_cons] at hp
            rcases hp with rfl | rfl | hp
            · refine .inr ⟨_, by simp [hdel]; exact .inl rfl, ?_⟩
              simp [fz, fzs, htk]
            · exact .inl (by simp [hdel])
            · exact .inl (by simp [hdel, hp])
          · intro t
            refine .inl ?_
            simp
    refine gK.go ?_
    simp -implicitDefEqProofs [hb]
    exact ⟨fun h1 => by simpa using key _ (by simp [h1]), fun h1 => by simpa using key _ (by simp [h1])⟩
  · have h2i : ¬ ((spl 37 w0).length : Int) = 2 := by omega
    obtain ⟨e1, e2⟩ := rp_bad hW fun hg => by
      obtain ⟨x, y, e, _⟩ := rp_back hW hg
      rw [e] at h2
      exact h2 rfl
    rw [e1, e2]
    refine Run2.of I 1000 ?_
    simp -implicitDefEqProofs [hs, hW, hw0, h2i]
    intro a ha
    exact .wk (wkZ _) (.drop a (.base ⟨rfl, by simp [hdel]⟩))
/-! ## The program -/
theorem validP_g {u : AV} {n m : Int} {l : List T} {hp : Heap} (G : Grow 3 u (l.map T.av) hp) (h : Heap) (hl : l.length ≤ 4194304) (ok : Ph.ok ⟨n, m, l⟩) : ACalls Tryd.prog 28 [.agg [.int .i64 n, .int .i64 m, u]] (hp ++ h) (fun v h' => v = .bool (decide (Ph.valid ⟨n, m, l⟩)) ∧ h' = hp ++ h) := by
  refine ACalls.reads hp (fun p hp' => List.mem_append_left _ hp') ?_ rfl
  rw [lend_cons, lend_nil', lend1_agg3]
  exact ACalls.wk (.cons (Wk.agg (.cons (.refl _) (.cons (.refl _) (.cons G.lentWkS .nil)))) .nil) (valid_cL ⟨n, m, l⟩ [] hl ok)
theorem textP_g {u : AV} {n m : Int} {l : List T} {hp : Heap} (G : Grow 3 u (l.map T.av) hp) (h : Heap) (hl : l.length ≤ 1048576) (ok : Ph.ok ⟨n, m, l⟩) : ACalls Tryd.prog 29 [.agg [.int .i64 n, .int .i64 m, u]] (hp ++ h) (fun v h' => v = .str (phT ⟨n, m, l⟩) ∧ h' = hp ++ h) := by
  refine ACalls.reads hp (fun p hp' => List.mem_append_left _ hp') ?_ rfl
  rw [lend_cons, lend_nil', lend1_agg3]
  exact ACalls.wk (.cons (Wk.agg (.cons (.refl _) (.cons (.refl _) (.cons G.lentWkS .nil)))) .nil) (implPT_c ⟨n, m, l⟩ [] hl ok)
theorem ownZ : OwnPh (.agg [.int .i64 0, .int .i64 0, .nilsl]) ⟨0, 0, []⟩ [] := ⟨_, rfl, .nil⟩
noncomputable def orcRp2 : List (Nat × (List AV → Option (Prop × AV))) := (18, o_split) :: (19, o_cut) :: (20, o_ReadDecimal) :: (27, o_ReadListI) :: []
theorem orcRp2_p : Pure Tryd.prog (lk orcRp2) := (lk_pure o_split_k (lk_pure o_cut_k (lk_pure o_ReadDecimal_k (lk_pure o_ReadListI_k lk_pure0))))
@[simp] theorem orcRp2_l (b : Bool) (g : FuncId) (l : List AV) : lk orcRp2 b g l = if g = 18 then o_split l else if g = 19 then o_cut l else if g = 20 then o_ReadDecimal l else if g = 27 then o_ReadListI l else none := nr rfl
abbrev k11_o0 : List AJ := [.o ⟨(some 2), none, false, .alloc true 3 (.agg [(.int .i64 0), (.int .i64 0), .nilsl]), none⟩, .o ⟨(some 3), none, false, .mv (.c (.bool false)), (some [0, 2])⟩]
abbrev k11_o1 : List AJ := [.o ⟨(some 13), none, false, .mv (.t 0), none⟩, .o ⟨(some 14), none, false, .call 18 [(.t 13), (.c (.str [32]))], none⟩, .o ⟨(some 4), none, false, .mv (.t 14), (some [0, 2, 4])⟩]
abbrev k11_o2 : List AJ := [.o ⟨(some 16), none, false, .mv (.t 4), none⟩, .o ⟨(some 17), none, false, .idxA 1 (.t 16) (.c (.int .i64 0)), none⟩, .o ⟨(some 18), none, false, .load 1 false (.t 17), none⟩, .o ⟨(some 19), none, false, .call 19 [(.t 18), (.c (.str [37]))], none⟩, .o ⟨(some 15), none, false, .mv (.t 19), none⟩, .o ⟨(some 20), none, false, .extract (.t 15) 0, none⟩, .o ⟨(some 21), none, false, .extract (.t 15) 1, none⟩, .o ⟨(some 22), none, false, .extract (.t 15) 2, none⟩, .o ⟨(some 5), none, false, .mv (.t 20), none⟩, .o ⟨(some 6), none, false, .mv (.t 21), none⟩, .o ⟨(some 7), none, false, .mv (.t 22), (some [0, 2, 4, 5, 6])⟩]
abbrev k11_o3 : List AJ := [.o ⟨(some 8), none, false, .alloc true 3 (.agg [(.int .i64 0), (.int .i64 0), .nilsl]), (some [0, 2, 4, 5, 6, 8])⟩]
abbrev k11_o4 : List AJ := [.o ⟨(some 24), none, false, .mv (.t 5), none⟩, .o ⟨(some 25), none, false, .call 20 [(.t 24)], none⟩, .o ⟨(some 23), none, false, .mv (.t 25), none⟩, .o ⟨(some 26), none, false, .extract (.t 23) 0, none⟩, .o ⟨(some 27), none, false, .extract (.t 23) 1, none⟩, .o ⟨(some 28), none, false, .fieldA 0 (.t 8), none⟩, .o ⟨none, none, false, .store 1 (.t 28) (.t 26), (some [0, 2, 4, 6, 8])⟩]
abbrev k11_o5 : List AJ := [.o ⟨(some 30), none, false, .mv (.t 6), none⟩, .o ⟨(some 31), none, false, .call 20 [(.t 30)], none⟩, .o ⟨(some 29), none, false, .mv (.t 31), none⟩, .o ⟨(some 32), none, false, .extract (.t 29) 0, none⟩, .o ⟨(some 33), none, false, .extract (.t 29) 1, none⟩, .o ⟨(some 34), none, false, .fieldA 1 (.t 8), none⟩, .o ⟨none, none, false, .store 1 (.t 34) (.t 32), (some [0, 2, 4, 8])⟩]
abbrev k11_o6 : List AJ := [.o ⟨(some 35), none, false, .mv (.t 4), none⟩, .o ⟨(some 36), none, false, .slice 1 (.t 35) (some (.c (.int .i64 1))) none none, none⟩, .o ⟨(some 37), none, false, .len (.t 36), none⟩, .o ⟨(some 38), none, false, .mv (.c (.int .i64 0)), (some [0, 2, 8, 36, 37, 38])⟩]
abbrev k11_o7 : List AJ := [.o ⟨(some 39), none, false, .bin .lss (.t 38) (.t 37), (some [0, 2, 8, 36, 37, 38, 39])⟩]
abbrev k11_o8 : List AJ := [.o ⟨(some 40), none, false, .idxA 1 (.t 36) (.t 38), none⟩, .o ⟨(some 41), none, false, .load 1 false (.t 40), none⟩, .o ⟨(some 10), none, false, .mv (.t 41), (some [0, 2, 8, 10, 36, 37, 38])⟩]
abbrev k11_o9 : List AJ := [.o ⟨(some 43), none, false, .mv (.t 10), none⟩, .o ⟨(some 44), none, false, .call 27 [(.t 43)], none⟩, .o ⟨(some 42), none, false, .mv (.t 44), none⟩, .o ⟨(some 45), none, false, .extract (.t 42) 0, none⟩, .o ⟨(some 46), none, false, .extract (.t 42) 1, none⟩, .o ⟨(some 11), none, false, .mv (.t 45), none⟩, .o ⟨(some 12), none, false, .mv (.t 46), (some [0, 2, 8, 11, 36, 37, 38])⟩]
abbrev k11_o10 : List AJ := [.o ⟨(some 47), none, false, .mv (.t 11), none⟩, .o ⟨(some 48), none, false, .len (.t 47), none⟩, .o ⟨(some 49), none, false, .bin .neq (.t 48) (.c (.int .i64 3)), (some [0, 2, 8, 11, 36, 37, 38, 49])⟩]
abbrev k11_o11 : List AJ := [.o ⟨(some 50), none, false, .build [(.int .i64 0), (.int .i64 0), .nilsl] [], none⟩, .o ⟨none, none, false, .store 3 (.t 2) (.t 50), none⟩, .o ⟨(some 3), none, false, .mv (.c (.bool false)), (some [2, 3])⟩]
def k11_13 : ACode := .seq (.region k11_o11) .ret
def k11_14 : ACode := .cond (.t 49) k11_13 .skip
def k11_15 : ACode := .seq (.region k11_o10) k11_14
abbrev k11_o12 : List AI := [⟨(some 51), none, false, .fieldA 2 (.t 8), none⟩, ⟨(some 52), none, false, .load 1 false (.t 51), none⟩, ⟨(some 53), none, false, .mv (.t 11), none⟩, ⟨(some 54), none, false, .idxA 1 (.t 53) (.c (.int .i64 0)), none⟩, ⟨(some 55), none, false, .load 1 false (.t 54), none⟩, ⟨(some 56), none, false, .mv (.t 11), none⟩, ⟨(some 57), none, false, .idxA 1 (.t 56) (.c (.int .i64 1)), none⟩, ⟨(some 58), none, false, .load 1 false (.t 57), none⟩, ⟨(some 59), none, false, .mv (.t 11), none⟩, ⟨(some 60), none, false, .idxA 1 (.t 59) (.c (.int .i64 2)), none⟩, ⟨(some 61), none, false, .load 1 false (.t 60), none⟩, ⟨(some 62), none, false, .build [(.int .i64 0), (.int .i64 0), (.int .i64 0)] [(0, 1, (.t 55)), (1, 1, (.t 58)), (2, 1, (.t 61))], none⟩, ⟨(some 63), none, false, .bsl false 3 [(.t 62)], (some [0, 2, 8, 36, 37, 38, 52, 63])⟩]
abbrev k11_o13 : List AJ := [.o ⟨(some 64), none, false, .append 3 24 (.t 52) (.t 63), none⟩, .o ⟨(some 65), none, false, .fieldA 2 (.t 8), none⟩, .o ⟨none, none, false, .store 1 (.t 65) (.t 64), (some [0, 2, 8, 36, 37, 38])⟩]
def k11_16 : ACode := .draw k11_o12 k11_o13 rfl
def k11_17 : ACode := .seq k11_15 k11_16
def k11_18 : ACode := .seq (.region k11_o9) k11_17
def k11_19 : ACode := .seq (.region k11_o8) k11_18
abbrev k11_o14 : List AJ := [.o ⟨(some 66), none, true, .bin .add (.t 38) (.c (.int .i64 1)), none⟩, .o ⟨(some 38), none, false, .mv (.t 66), (some [0, 2, 8, 36, 37, 38])⟩]
def k11_21 : ACode := .region k11_o14
def k11_22 : ACode := .seq (.block 1 k11_19) k11_21
def k11_23 : ACode := .seq (.cond (.t 39) .skip (.exit 0)) k11_22
def k11_24 : ACode := .seq (.region k11_o7) k11_23
def k11_25 : ACode := .loop k11_24
def k11_26 : ACode := .block 0 k11_25
def k11_27 : ACode := .seq (.region k11_o6) k11_26
abbrev k11_o15 : List AJ := [.o ⟨(some 67), none, false, .load 3 true (.t 8), none⟩, .o ⟨(some 68), none, false, .call 28 [(.t 67)], none⟩, .o ⟨(some 69), none, false, .un .not (.t 68), none⟩, .o ⟨(some 70), none, false, .mv (.t 69), none⟩, .o ⟨(some 71), (some (70, false)), false, .load 3 true (.t 8), none⟩, .o ⟨(some 72), (some (70, false)), false, .call 29 [(.t 71)], none⟩, .o ⟨(some 73), (some (70, false)), false, .mv (.t 0), none⟩, .o ⟨(some 74), (some (70, false)), false, .bin .neq (.t 72) (.t 73), none⟩, .o ⟨(some 75), none, false, .pick (.t 70) (.c (.bool true)) (.t 74), (some [2, 8, 75])⟩]
abbrev k11_o16 : List AJ := [.o ⟨(some 76), none, false, .build [(.int .i64 0), (.int .i64 0), .nilsl] [], none⟩, .o ⟨none, none, false, .store 3 (.t 2) (.t 76), none⟩, .o ⟨(some 3), none, false, .mv (.c (.bool false)), (some [2, 3])⟩]
def k11_30 : ACode := .seq (.region k11_o16) .ret
def k11_31 : ACode := .cond (.t 75) k11_30 .skip
def k11_32 : ACode := .seq (.region k11_o15) k11_31
abbrev k11_o17 : List AJ := [.o ⟨(some 77), none, false, .load 3 true (.t 8), none⟩, .o ⟨none, none, false, .store 3 (.t 2) (.t 77), none⟩, .o ⟨(some 3), none, false, .mv (.c (.bool true)), (some [2, 3])⟩]
def k11_34 : ACode := .seq (.region k11_o17) .ret
def k11_35 : ACode := .seq k11_32 k11_34
def k11_36 : ACode := .seq k11_27 k11_35
def k11_37 : ACode := .seq (.region k11_o5) k11_36
def k11_38 : ACode := .seq (.region k11_o4) k11_37
def k11_39 : ACode := .seq (.region k11_o3) k11_38
def k11_40 : ACode := .seq (.region k11_o2) k11_39
def k11_41 : ACode := .seq (.region k11_o1) k11_40
def k11_42 : ACode := .seq (.region k11_o0) k11_41
@[simp, simp ↓] theorem k11_13r : sR k11_13 k11_o11 .ret := yR rfl
@[simp, simp ↓] theorem k11_14r : rC k11_14 (.t 49) k11_13 .skip := zC rfl
@[simp, simp ↓] theorem k11_15r : sR k11_15 k11_o10 k11_14 := yR rfl
@[simp, simp ↓] theorem k11_16r : rD k11_16 k11_o12 k11_o13 := zD rfl
@[simp, simp ↓] theorem k11_17r : rS k11_17 k11_15 k11_16 := zS rfl
@[simp, simp ↓] theorem k11_18r : sR k11_18 k11_o9 k11_17 := yR rfl
@[simp, simp ↓] theorem k11_19r : sR k11_19 k11_o8 k11_18 := yR rfl
@[simp, simp ↓] theorem k11_21r : rR k11_21 k11_o14 := zR rfl
@[simp, simp ↓] theorem k11_22r : sB k11_22 1 k11_19 k11_21 := yB rfl
@[simp, simp ↓] theorem k11_23r : sC k11_23 (.t 39) .skip (.exit 0) k11_22 := yC rfl
@[simp, simp ↓] theorem k11_24r : sR k11_24 k11_o7 k11_23 := yR rfl
@[simp, simp ↓] theorem k11_25r : rL k11_25 k11_24 := zL rfl
@[simp, simp ↓] theorem k11_26r : rB k11_26 0 k11_25 := zB rfl
@[simp, simp ↓] theorem k11_27r : sR k11_27 k11_o6 k11_26 := yR rfl
@[simp, simp ↓] theorem k11_30r : sR k11_30 k11_o16 .ret := yR rfl
@[simp, simp ↓] theorem k11_31r : rC k11_31 (.t 75) k11_30 .skip := zC rfl
@[simp, simp ↓] theorem k11_32r : sR k11_32 k11_o15 k11_31 := yR rfl
@[simp, simp ↓] theorem k11_34r : sR k11_34 k11_o17 .ret := yR rfl
@[simp, simp ↓] theorem k11_35r : rS k11_35 k11_32 k11_34 := zS rfl
@[simp, simp ↓] theorem k11_36r : rS k11_36 k11_27 k11_35 := zS rfl
@[simp, simp ↓] theorem k11_37r : sR k11_37 k11_o5 k11_36 := yR rfl
@[simp, simp ↓] theorem k11_38r : sR k11_38 k11_o4 k11_37 := yR rfl
@[simp, simp ↓] theorem k11_39r : sR k11_39 k11_o3 k11_38 := yR rfl
@[simp, simp ↓] theorem k11_40r : sR k11_40 k11_o2 k11_39 := yR rfl
@[simp, simp ↓] theorem k11_41r : sR k11_41 k11_o1 k11_40 := yR rfl
@[simp, simp ↓] theorem k11_42r : sR k11_42 k11_o0 k11_41 := yR rfl
noncomputable abbrev k11_C : Orc → Cx := mkC Tryd.prog [2, 8] 11 78 [.cell 2 3 true, .tmp 3]
theorem k11_of : OfP Tryd.prog Tryd.f11 11 78 k11_C k11_42 := @ofP _ _ _ _ _ _ _ _ Tryd.func11 (by decide +kernel) rfl (by kernel_rfl) rfl (by kernel_rfl)
/-- The phases that are read are in memory of their own. -/
theorem implRP_o (s : Txt) (hs : s.length ≤ 1048576) : ACalls Tryd.prog 11 [.str s] [] (fun v h' => ∃ w, v = .tup [w, .bool (rpO s)] ∧ OwnPh w (rpX s) h') := by
  refine k11_of rfl orcRp2_p fun I => ?_
  obtain ⟨w0, ws, hW⟩ := spl_cons 32 s
  have hmany := spl_many 32 s
  have hwl : ∀ w ∈ ws, List.length w ≤ 1048576 := fun w hw => Nat.le_trans (spl_le 32 s w (by rw [hW]; exact List.mem_cons_of_mem _ hw)) hs
  have hw0 : List.length w0 ≤ 1048576 := Nat.le_trans (spl_le 32 s w0 (by rw [hW]; exact List.mem_cons_self ..)) hs
  rw [hW, List.length_cons] at hmany
  have hbad : ¬ rpG s w0 ws → rpX s = ⟨0, 0, []⟩ ∧ rpO s = false := fun hn => rp_bad hW hn
  have hgood : rpG s w0 ws → rpX s = lenP w0 ws ∧ rpO s = true := fun hg => by
    obtain ⟨a1, a2⟩ := rp_at hW
    rw [a1, a2, if_pos hg, decide_eq_true hg]; exact ⟨rfl, rfl⟩
  have hLP : lenP w0 ws = ⟨(rd (Lib.cut w0 [37]).1).1, (rd (Lib.cut w0 [37]).2.1).1, ws.map fun w => t3 (rlL w)⟩ := rfl
  have hs2 : s.length < 4294967281 := by omega
  have hw2 : w0.length < 4294967281 := by omega
  have c1 := cut1_len w0 [37]
  have c2 := cut2_len w0 [37]
  have hokP := ph_ok (Lib.cut w0 [37]).1 (Lib.cut w0 [37]).2.1 ws
  generalize hcc : Lib.cut w0 [37] = cc at *
  have hx : cc.1.length ≤ 1048576 := by omega
  have hy : cc.2.1.length ≤ 1048576 := by omega
  have hrpG : rpG s w0 ws ↔ (∀ w ∈ ws, (rlL w).length = 3) ∧ Ph.valid ⟨(rd cc.1).1, (rd cc.2.1).1, ws.map fun w => t3 (rlL w)⟩ ∧ phT ⟨(rd cc.1).1, (rd cc.2.1).1, ws.map fun w => t3 (rlL w)⟩ = s := by
    unfold rpG; rw [hLP]
  rw [hLP] at hgood
  clear hLP c1 c2
  generalize hdx : rd cc.1 = dx at *
  generalize hdy : rd cc.2.1 = dy at *
  refine Run2.of I 1000 ?_
  simp -implicitDefEqProofs [hs2, hW, hw2, hcc, hx, hy]
  intro a b hb
  refine gK.go ?_
  simp -implicitDefEqProofs [hb, hx, hy, hdx, hdy]
  try (refine ⟨by omega, ?_⟩)
  refine Run2.loopE (α := Nat × AV × Heap) (fun p => [(0, .str s), (2, .ptr a 3 0 0), (8, .ptr b 3 0 0), (36, .snap 1 (ws.map sv)), (37, .int .i64 ws.length), (38, .int .i64 (p.1 : Nat))])
    (fun p => p.2.2 ++ [(b, ⟨3, [.agg [.int .i64 dx.1, .int .i64 dy.1, p.2.1]]⟩), (a, ⟨3, [.agg [.int .i64 0, .int .i64 0, .nilsl]]⟩)]) (fun p => ws.length - p.1)
    (fun p => p.1 ≤ ws.length ∧ (∀ w ∈ ws.take p.1, (rlL w).length = 3) ∧ Grow 3 p.2.1 (((ws.take p.1).map fun w => t3 (rlL w)).map T.av) p.2.2 ∧ b ∉ dom p.2.2 ∧ a ∉ dom p.2.2) (0, .nilsl, []) (by simp [List.take_of_length_le]) rfl ⟨Nat.zero_le _, by simp, .nil, by simp [dom], by simp [dom]⟩ ?_
  rintro ⟨i, u, hp⟩ ⟨hi, h3, hg, hpb, hpa⟩ ih
  simp only at hi h3 hg hpb hpa ih
  have hcell := hg.cell
  by_cases hlt : i < ws.length
  · have hwi := hwl _ (List.getElem_mem hlt)
    have hrb : ¬ (rlL ws[i]).length = 3 → rpX s = ⟨0, 0, []⟩ ∧ rpO s = false := fun hn => hbad fun hh => hn (hh.1 _ (List.getElem_mem hlt))
    have go := fun (hw : (rlL ws[i]).length = 3) u' hp' (g : Grow 3 u' (((ws.take i).map fun w => t3 (rlL w)).map T.av ++ [T.av (t3 (rlL ws[i]))]) hp') hb' ha' => ih (i + 1, u', hp') ⟨hlt, fun w hm => by
      rw [List.take_succ_eq_append_getElem hlt] at hm
      rcases List.mem_append.1 hm with hm | hm
      · exact h3 w hm
      · rw [List.mem_singleton.1 hm]; exact hw, by
      show Grow 3 u' (((ws.take (i + 1)).map fun w => t3 (rlL w)).map T.av) hp'
      rw [List.take_succ_eq_append_getElem hlt]
      simpa only [List.map_append, List.map_cons, List.map_nil] using g, hb', ha'⟩ (by simp only; omega)
    clear ih hgood hbad hokP hrpG
    generalize hti : ws[i] = z at *
    by_cases hz : (rlL z).length = 3
    · obtain ⟨p, q, r, hl⟩ := len3 hz
      rw [hl] at go
      refine Run2.of I 1000 ?_
      simp -implicitDefEqProofs [hlt, hti, hwi, hl, hcell, hget_app hpb, hget_app hpa, hb]
      refine hg.app_mid (pre := []) (fun _ _ h => by simp [dom] at h) (by simp; omega) (by simp) fun w2 hp2 hg2 hf => ?_
      have hfb : b ∉ dom hp2 := fun h => hf b h (by simp [dom])
      have hfa : a ∉ dom hp2 := fun h => hf a h (by simp [dom])
      have := go (by simp) w2 hp2 (by simpa [t3] using hg2) hfb hfa
      simp -implicitDefEqProofs [hg2.cell, cells_of hg2.cell, stor_of hg2.cell, hget_app hfb, hset_app hfb]
      exact ⟨by omega, by simpa using this⟩
    · obtain ⟨e1, e2⟩ := hrb hz
      have hzi : ¬ ((rlL z).length : Int) = 3 := by omega
      rw [e1, e2]
      refine Run2.of I 1000 ?_
      simp -implicitDefEqProofs [hlt, hti, hwi, hzi, hcell, hget_app hpb, hget_app hpa, hset_app hpa, hb]
      exact Post.dropAll rfl (.drop b (.drop a (.base (by simp [hdel, hb]; exact ownZ))))
  · obtain rfl : i = ws.length := by omega
    rw [List.take_length] at h3 hg
    have hok3 := hokP h3
    have hLl : (ws.map fun w => t3 (rlL w)).length ≤ 4194304 := by rw [List.length_map]; omega
    have hrp : rpG s w0 ws ↔ Ph.valid ⟨dx.1, dy.1, ws.map fun w => t3 (rlL w)⟩ ∧ phT ⟨dx.1, dy.1, ws.map fun w => t3 (rlL w)⟩ = s := by
      rw [hrpG]; exact ⟨fun hh => hh.2, fun hh => ⟨h3, hh⟩⟩
    clear ih hrpG hokP
    generalize (ws.map fun w => t3 (rlL w)) = L at *
    have hv := validP_g hg [(b, ⟨3, [.agg [.int .i64 dx.1, .int .i64 dy.1, u]]⟩), (a, ⟨3, [.agg [.int .i64 0, .int .i64 0, .nilsl]]⟩)] hLl hok3
    by_cases hval : Ph.valid ⟨dx.1, dy.1, L⟩
    · have h24 := hval.2.2.2.2.2
      have ht := textP_g hg [(b, ⟨3, [.agg [.int .i64 dx.1, .int .i64 dy.1, u]]⟩), (a, ⟨3, [.agg [.int .i64 0, .int .i64 0, .nilsl]]⟩)] (by simp only at h24; omega) hok3
      rw [decide_eq_true hval] at hv
      by_cases htx : phT ⟨dx.1, dy.1, L⟩ = s
      · obtain ⟨e1, e2⟩ := hgood (hrp.2 ⟨hval, htx⟩)
        rw [e1, e2]
        rw [htx] at ht
        refine Run2.of I 1000 ?_
        simp -implicitDefEqProofs [hlt, hcell, hget_app hpb, hget_app hpa, hb]
        first | refine dcallK (hv) ?_ | (refine (hv).mono ?_; rintro v h' ⟨rfl, rfl⟩; refine gK.go ?_)
        simp -implicitDefEqProofs [hcell, hget_app hpb, hget_app hpa, hb]
        first | refine dcallK (ht) ?_ | (refine (ht).mono ?_; rintro v h' ⟨rfl, rfl⟩; refine gK.go ?_)
        simp -implicitDefEqProofs [hcell, hget_app hpb, hget_app hpa, hset_app hpa, hb]
        refine .drop a (.drop b (.base ?_))
        rw [hdel_app hpa, hdel_app hpb]
        simp [hdel, hb]
        exact ⟨_, rfl, Grow.own hg⟩
      · obtain ⟨e1, e2⟩ := hbad (fun hh => htx (hrp.1 hh).2)
        rw [e1, e2]
        refine Run2.of I 1000 ?_
        simp -implicitDefEqProofs [hlt, hcell, hget_app hpb, hget_app hpa, hb]
        first | refine dcallK (hv) ?_ | (refine (hv).mono ?_; rintro v h' ⟨rfl, rfl⟩; refine gK.go ?_)
        simp -implicitDefEqProofs [hcell, hget_app hpb, hget_app hpa, hb]
        first | refine dcallK (ht) ?_ | (refine (ht).mono ?_; rintro v h' ⟨rfl, rfl⟩; refine gK.go ?_)
        simp -implicitDefEqProofs [hcell, hget_app hpb, hget_app hpa, hset_app hpa, hb, htx]
        exact Post.dropAll rfl (.drop b (.drop a (.base (by simp [hdel, hb]; exact ownZ))))
    · obtain ⟨e1, e2⟩ := hbad (fun hh => hval (hrp.1 hh).1)
      rw [e1, e2]
      rw [decide_eq_false hval] at hv
      refine Run2.of I 1000 ?_
      simp -implicitDefEqProofs [hlt, hcell, hget_app hpb, hget_app hpa, hb]
      first | refine dcallK (hv) ?_ | (refine (hv).mono ?_; rintro v h' ⟨rfl, rfl⟩; refine gK.go ?_)
      simp -implicitDefEqProofs [hcell, hget_app hpb, hget_app hpa, hset_app hpa, hb]
      exact Post.dropAll rfl (.drop b (.drop a (.base (by simp [hdel, hb]; exact ownZ))))
end Go.AG.P
