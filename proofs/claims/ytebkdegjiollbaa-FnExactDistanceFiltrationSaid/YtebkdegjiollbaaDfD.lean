/- DistanceFiltration: the reference. No statement is made here. -/
import Derived.Test.YtebkdegjiollbaaDfC
namespace Go.AG
open Go.Proofs Go.Proofs.Ytebkdegjiollbaa
set_option linter.unusedSimpArgs false
set_option linter.unusedVariables false
set_option maxRecDepth 4000
/-- From here on, the block is not written any more. -/
theorem Run2.wkG {C : Cx} {sk : List AItem} {e e' : Env} {h : Heap} {R : AV → Heap → Prop} (he : ∀ t, Wk (eget e t) (eget e' t)) (g : Run2 C sk e' h R) : Run2 C sk e h R := by
  unfold Run2 at g ⊢
  intro k tmps w cs w0 D0 hk s
  exact g k tmps w cs w0 D0 hk ⟨fun t => he t _ _ _ (s.env t), s.size, s.heap, s.ev⟩
theorem Run2.frzG {C : Cx} {sk : List AItem} {e e' : Env} {R : AV → Heap → Prop} {sz : Nat} {w : AV} {l : List AV} {hp h : Heap} (g : Grow sz w l hp) (hd : ∀ i ∈ dom hp, i ∉ dom h) (he : ∀ t, eget e' t = eget e t ∨ (eget e t = w ∧ eget e' t = .snap sz l)) (k : Run2 C sk e' h R) : Run2 C sk e (hp ++ h) R := by
  cases g with
  | nil =>
    refine Run2.wkG (fun t => ?_) k
    rcases he t with h1 | ⟨h1, h2⟩
    · rw [h1]; exact .refl _
    · rw [h1, h2]; exact Wk.nil sz
  | emp =>
    refine Run2.wkG (fun t => ?_) k
    rcases he t with h1 | ⟨h1, h2⟩
    · rw [h1]; exact .refl _
    · rw [h1, h2]; exact Wk.emp sz
  | sl id _ n hn =>
    subst hn
    have e0 : hdel ([(id, (⟨sz, l⟩ : Blk))] ++ h) id = h := by simp [hdel]
    refine Run2.freezeS id (h' := h) (by simp [hget]; rfl) (by rw [e0]) (fun p hp => .inl (by rw [e0]; exact hp)) (fun t => ?_) k
    rcases he t with h1 | ⟨h1, h2⟩
    · exact .inl h1
    · refine .inr ?_
      rw [h1, h2]
      simp [fz]
theorem Grow.appAny_mid {sz : Nat} {w : AV} {l new : List AV} {hp post : Heap} {C : Cx} {n : Nat} {d : Option Nat} {ks : Option (List Nat)} {is : List AJ} {sk : List AItem} {R : AV → Heap → Prop} {e : Env} {bytes : Nat} (g : Grow sz w l hp) (hb : (2 * (l.length + new.length)) * bytes ≤ 281474976710656) (hd : ∀ i ∈ dom hp, i ∉ dom post)
    (k : ∀ w' hp', Grow sz w' (l ++ new) hp' → (∀ i ∈ dom hp', i ∉ dom post) → vc2 C n is sk (kp (put e d w') ks) (hp' ++ post) R) : resK C n d ks is sk R e (hp ++ post) (appR (hp ++ post) sz bytes w new) := by
  by_cases hn : new = []
  · subst hn
    cases g with
    | nil =>
      simp only [appR_n]
      exact ⟨fun _ => k _ _ .nil (by simp [dom]), fun h => by cases h⟩
    | emp =>
      simp only [appR_e]
      exact ⟨fun _ => k _ _ .emp (by simp [dom]), fun h => by cases h⟩
    | sl id l m hm =>
      subst hm
      have hd : hdel ((id, ⟨sz, l⟩) :: post) id = post := by simp [hdel]
      rw [appR_ln]
      refine ⟨rfl, ⟨sz, l⟩, by simp [hget], rfl, by simp, rfl, hb, fun id' hi => ?_⟩
      have := k _ _ (.sl id' (l ++ []) (l.length + 0) (by simp)) (fun j hj hm => by
        simp only [dom, List.map_cons, List.map_nil, List.mem_singleton] at hj
        subst hj
        exact hi (by simpa [hdel] using hm))
      simpa [hd] using this
  · exact g.app_mid (pre := []) (post := post) (fun _ _ h => by simp [dom] at h) hb hn k
/-- The greatest, or 0. -/
def IsMx (S : Int → Prop) (t : Int) : Prop := 0 ≤ t ∧ (∀ x, S x → x ≤ t) ∧ (t = 0 ∨ S t)
theorem IsMx.zero {S : Int → Prop} (h : ∀ x, ¬ S x) : IsMx S 0 := ⟨by omega, fun x hx => absurd hx (h x), .inl rfl⟩
theorem IsMx.step {S S' : Int → Prop} {t y : Int} (h : IsMx S t) (hs : ∀ x, S' x ↔ S x ∨ x = y) : IsMx S' (max t y) := by
  refine ⟨by have := h.1; omega, fun x hx => ?_, ?_⟩
  · rcases (hs x).1 hx with h1 | h1
    · have := h.2.1 x h1; omega
    · omega
  · rcases Int.le_total y t with h1 | h1
    · rw [Int.max_eq_left h1]
      rcases h.2.2 with h2 | h2
      · exact .inl h2
      · exact .inr ((hs t).2 (.inl h2))
    · rw [Int.max_eq_right h1]
      exact .inr ((hs y).2 (.inr rfl))
theorem IsMx.eq {S : Int → Prop} {t u : Int} (h : IsMx S t) {S' : Int → Prop} (h' : IsMx S' u) (h1 : ∀ x, S x → S' x) (h2 : ∀ x, S' x → x = 0 ∨ S x) : t = u := by
  have a : t ≤ u := by
    rcases h.2.2 with e | e
    · have := h'.1; omega
    · exact h'.2.1 t (h1 t e)
  have b : u ≤ t := by
    rcases h'.2.2 with e | e
    · have := h.1; omega
    · rcases h2 u e with e1 | e1
      · have := h.1; omega
      · exact h.2.1 u e1
  omega
theorem IsMx.congr {S S' : Int → Prop} {t : Int} (h : IsMx S t) (e : ∀ x, S x ↔ S' x) : IsMx S' t := ⟨h.1, fun x hx => h.2.1 x ((e x).2 hx), h.2.2.imp id fun h => (e t).1 h⟩
/-- The distance of two places of a list. -/
def pr (rs : LS) (w : List Int) (a b : Nat) : Int := dst rs (w.getD a 0).toNat (w.getD b 0).toNat
def gtm (rs : LS) (w : List Int) : Int := ((List.range w.length).flatMap fun a => (List.range w.length).map fun b => pr rs w a b).foldl max 0
theorem foldl_mx : ∀ (l : List Int) (t : Int) (S : Int → Prop), IsMx S t → IsMx (fun x => S x ∨ x ∈ l) (l.foldl max t)
  | [], t, S, h => by simpa using h
  | y :: l, t, S, h => by
    have := foldl_mx l (max t y) (fun x => S x ∨ x = y) (h.step fun x => Iff.rfl)
    simpa [or_assoc] using this
theorem gtm_mx (rs : LS) (w : List Int) : IsMx (fun x => ∃ a b, a < w.length ∧ b < w.length ∧ x = pr rs w a b) (gtm rs w) := by
  have := foldl_mx ((List.range w.length).flatMap fun a => (List.range w.length).map fun b => pr rs w a b) 0 (fun _ => False) (.zero fun _ => id)
  unfold gtm
  refine this.congr fun x => ?_
  simp only [false_or, List.mem_flatMap, List.mem_range, List.mem_map]
  exact ⟨fun ⟨a, h1, b, h2, e⟩ => ⟨a, b, h1, h2, e.symm⟩, fun ⟨a, b, h1, h2, e⟩ => ⟨a, h1, b, h2, e.symm⟩⟩
def inR (n : Nat) (w : List Int) : Prop := ∀ c ∈ w, 0 ≤ c ∧ c < n
theorem inR.at {n : Nat} {w : List Int} (h : inR n w) {a : Nat} (ha : a < w.length) : ∃ k : Nat, w[a] = (k : Int) ∧ k < n ∧ w.getD a 0 = k := by
  have := h w[a] (List.getElem_mem ha)
  obtain ⟨k, hk⟩ := Int.eq_ofNat_of_zero_le this.1
  exact ⟨k, hk, by omega, by simp [ha, hk]⟩
theorem pr_sym {rs : LS} (h : tbOk rs) {w : List Int} (hw : inR rs.length w) {a b : Nat} (ha : a < w.length) (hb : b < w.length) : pr rs w a b = pr rs w b a := by
  obtain ⟨k, _, hk, ek⟩ := hw.at ha
  obtain ⟨j, _, hj, ej⟩ := hw.at hb
  unfold pr
  rw [ek, ej]
  exact dst_sym h hk hj
theorem pr_self {rs : LS} (h : tbOk rs) {w : List Int} (hw : inR rs.length w) {a : Nat} (ha : a < w.length) : pr rs w a a = 0 := by
  obtain ⟨k, _, hk, ek⟩ := hw.at ha
  unfold pr
  rw [ek]
  exact (h.2 k hk).2.1
theorem half_mx {rs : LS} (h : tbOk rs) {w : List Int} (hw : inR rs.length w) {t : Int} (ht : IsMx (fun x => ∃ a b, a < w.length ∧ b < a ∧ x = pr rs w a b) t) : t = gtm rs w :=
  ht.eq (gtm_mx rs w) (fun x ⟨a, b, h1, h2, e⟩ => ⟨a, b, h1, by omega, e⟩) fun x ⟨a, b, h1, h2, e⟩ => by
    rcases Nat.lt_trichotomy a b with h3 | h3 | h3
    · exact .inr ⟨b, a, h2, h3, by rw [e]; exact pr_sym h hw h1 h2⟩
    · subst h3; rw [e]; exact .inl (pr_self h hw h1)
    · exact .inr ⟨a, b, h1, h3, e⟩
/-- The simplices of k dimensions. -/
def dfN (n k : Nat) : LS := (List.range k).flatMap fun m => cb (m + 1) n 0
theorem dfN_succ (n k : Nat) : dfN n (k + 1) = dfN n k ++ cb (k + 1) n 0 := by simp [dfN, List.range_succ]
theorem dfN_cnt (n k : Nat) : (dfN n k).length ≤ k * 2 ^ n := by
  induction k with
  | zero => simp [dfN]
  | succ k ih =>
    have := cb_cnt n (k + 1) 0
    rw [dfN_succ, List.length_append, Nat.succ_mul]
    omega
theorem dfN_in {n k : Nat} {w : List Int} (h : w ∈ dfN n k) : inR n w ∧ w.length ≤ k := by
  obtain ⟨m, hm, hw⟩ := List.mem_flatMap.1 h
  have hm := List.mem_range.1 hm
  exact ⟨fun c hc => by have := cb_rng n (m + 1) 0 w hw c hc; omega, by rw [cb_len n (m + 1) 0 w hw]; omega⟩
noncomputable def dfCode (rs : LS) (d : Int) : Int := if tbOk rs then if 0 ≤ d ∧ d ≤ 3 then if (dfN rs.length (d + 1).toNat).length > 48 then 5 else 0 else 2 else 7
def dfT (rs : LS) (d : Int) : Fil := ⟨dfN rs.length (d + 1).toNat, (dfN rs.length (d + 1).toNat).map (gtm rs)⟩
noncomputable def dfF (rs : LS) (d : Int) : Fil := if dfCode rs d = 0 then dfT rs d else ⟨[], []⟩
abbrev k67_o0 : List AJ := [.o ⟨(some 4), none, false, .mv (.c (.int .i64 0)), (some [0, 1])⟩]
abbrev k67_o1 : List AJ := [.o ⟨(some 5), none, false, .mv (.t 0), none⟩, .o ⟨(some 6), none, false, .mv (.t 1), none⟩, .o ⟨(some 7), none, false, .bin .gtr (.t 5) (.t 6), (some [0, 1, 7])⟩]
abbrev k67_o2 : List AJ := [.o ⟨(some 8), none, false, .mv (.t 0), none⟩, .o ⟨(some 4), none, false, .mv (.t 8), (some [4])⟩]
def k67_3 : ACode := .seq (.region k67_o2) .ret
def k67_4 : ACode := .cond (.t 7) k67_3 .skip
def k67_5 : ACode := .seq (.region k67_o1) k67_4
abbrev k67_o3 : List AJ := [.o ⟨(some 9), none, false, .mv (.t 1), none⟩, .o ⟨(some 4), none, false, .mv (.t 9), (some [4])⟩]
def k67_7 : ACode := .seq (.region k67_o3) .ret
def k67_8 : ACode := .seq k67_5 k67_7
def k67_9 : ACode := .seq (.region k67_o0) k67_8
@[simp, simp ↓] theorem k67_3r : sR k67_3 k67_o2 .ret := yR rfl
@[simp, simp ↓] theorem k67_4r : rC k67_4 (.t 7) k67_3 .skip := zC rfl
@[simp, simp ↓] theorem k67_5r : sR k67_5 k67_o1 k67_4 := yR rfl
@[simp, simp ↓] theorem k67_7r : sR k67_7 k67_o3 .ret := yR rfl
@[simp, simp ↓] theorem k67_8r : rS k67_8 k67_5 k67_7 := zS rfl
@[simp, simp ↓] theorem k67_9r : sR k67_9 k67_o0 k67_8 := yR rfl
noncomputable abbrev k67_C : Orc → Cx := mkC Try.prog [] 67 10 [.tmp 4]
theorem k67_of0 : OfP0 Try.prog Try.f67 67 10 k67_C k67_9 := @ofP0 _ _ _ _ _ _ _ _ Try.func67 (by decide +kernel) rfl (by kernel_rfl) rfl (by kernel_rfl)
theorem l00Max_c (a b : Int) (h : Heap) : ACalls Try.prog 67 [.int .i64 a, .int .i64 b] h (fun v h' => v = .int .i64 (max a b) ∧ h' = h) := by
  refine k67_of0 rfl noPure fun I => ?_
  refine Run2.of I 1000 ?_
  simp -implicitDefEqProofs
  grind
noncomputable def o_l00Max : List AV → Option (Prop × AV) := tab (fun (x : Int × Int) => match x with | (a, b) => [.int .i64 a, .int .i64 b]) (fun x => match x with | (a, b) => True) (fun x => match x with | (a, b) => .int .i64 (max a b))
@[simp] theorem o_l00Max_e (a : Int) (b : Int) : o_l00Max [.int .i64 a, .int .i64 b] = some (True, .int .i64 (max a b)) := tab_at (enc := fun (x : Int × Int) => match x with | (a, b) => [.int .i64 a, .int .i64 b]) (fun x y h => by
  obtain ⟨a1, b1⟩ := x; obtain ⟨a2, b2⟩ := y; simp at h; simp [h] <;> omega) _ _ (a, b)
theorem o_l00Max_k : Knows Try.prog 67 o_l00Max := tab_knows fun x hx h => by
  obtain ⟨a, b⟩ := x; exact l00Max_c _ _ h
noncomputable def orcX1 : List (Nat × (List AV → Option (Prop × AV))) := (80, o_l22Table) :: (65, o_l05Dimension) :: (67, o_l00Max) :: []
theorem orcX1_p : Pure Try.prog (lk orcX1) := (lk_pure o_l22Table_k (lk_pure o_l05Dimension_k (lk_pure o_l00Max_k lk_pure0)))
@[simp] theorem orcX1_l (b : Bool) (g : FuncId) (l : List AV) : lk orcX1 b g l = if g = 80 then o_l22Table l else if g = 65 then o_l05Dimension l else if g = 67 then o_l00Max l else none := nr rfl
abbrev k37_o0 : List AJ := [.o ⟨(some 4), none, false, .alloc true 2 (.agg [.nilsl, .nilsl]), none⟩, .o ⟨(some 5), none, false, .mv (.c (.int .i64 0)), (some [0, 1, 4])⟩]
abbrev k37_o1 : List AJ := [.o ⟨(some 13), none, false, .mv (.t 0), none⟩, .o ⟨(some 14), none, false, .call 80 [(.t 13)], none⟩, .o ⟨(some 15), none, false, .un .not (.t 14), (some [0, 1, 4, 15])⟩]
abbrev k37_o2 : List AJ := [.o ⟨(some 16), none, false, .build [.nilsl, .nilsl] [], none⟩, .o ⟨none, none, false, .store 2 (.t 4) (.t 16), none⟩, .o ⟨(some 5), none, false, .mv (.c (.int .i64 7)), (some [4, 5])⟩]
def k37_3 : ACode := .seq (.region k37_o2) .ret
def k37_4 : ACode := .cond (.t 15) k37_3 .skip
def k37_5 : ACode := .seq (.region k37_o1) k37_4
abbrev k37_o3 : List AJ := [.o ⟨(some 17), none, false, .mv (.t 1), none⟩, .o ⟨(some 18), none, false, .call 65 [(.t 17)], none⟩, .o ⟨(some 19), none, false, .un .not (.t 18), (some [0, 1, 4, 19])⟩]
abbrev k37_o4 : List AJ := [.o ⟨(some 20), none, false, .build [.nilsl, .nilsl] [], none⟩, .o ⟨none, none, false, .store 2 (.t 4) (.t 20), none⟩, .o ⟨(some 5), none, false, .mv (.c (.int .i64 2)), (some [4, 5])⟩]
def k37_8 : ACode := .seq (.region k37_o4) .ret
def k37_9 : ACode := .cond (.t 19) k37_8 .skip
def k37_10 : ACode := .seq (.region k37_o3) k37_9
abbrev k37_o5 : List AJ := [.e 21 1 none, .o ⟨(some 6), none, false, .mv (.t 21), (some [0, 1, 4, 6])⟩]
abbrev k37_o6 : List AJ := [.o ⟨(some 7), none, false, .mv (.c (.int .i64 0)), (some [0, 1, 4, 6, 7])⟩]
abbrev k37_o7 : List AJ := [.o ⟨(some 22), none, false, .mv (.t 7), none⟩, .o ⟨(some 23), none, false, .mv (.t 1), none⟩, .o ⟨(some 24), none, false, .bin .leq (.t 22) (.t 23), (some [0, 1, 4, 6, 7, 24])⟩]
def k37_14 : ACode := .cond (.t 24) .skip (.exit 0)
def k37_15 : ACode := .seq (.region k37_o7) k37_14
abbrev k37_o8 : List AJ := [.o ⟨(some 27), none, false, .mv (.t 6), none⟩, .o ⟨(some 28), none, false, .mv (.t 0), none⟩, .o ⟨(some 29), none, false, .len (.t 28), none⟩, .o ⟨(some 30), none, false, .mv (.t 7), none⟩, .o ⟨(some 31), none, true, .bin .add (.t 30) (.c (.int .i64 1)), none⟩, .o ⟨(some 32), none, false, .bsl false 1 [], none⟩, .o ⟨(some 33), none, false, .call 81 [(.t 29), (.t 31), (.c (.int .i64 0)), (.t 32)], none⟩, .o ⟨(some 34), none, false, .append 1 24 (.t 27) (.t 33), none⟩, .o ⟨(some 6), none, false, .mv (.t 34), (some [0, 1, 4, 6, 7])⟩]
def k37_16 : ACode := .region k37_o8
abbrev k37_o9 : List AJ := [.o ⟨(some 25), none, false, .mv (.t 7), none⟩, .o ⟨(some 26), none, true, .bin .add (.t 25) (.c (.int .i64 1)), none⟩, .o ⟨(some 7), none, false, .mv (.t 26), (some [0, 1, 4, 6, 7])⟩]
def k37_18 : ACode := .region k37_o9
def k37_19 : ACode := .seq (.block 1 k37_16) k37_18
def k37_20 : ACode := .seq k37_15 k37_19
def k37_21 : ACode := .loop k37_20
def k37_22 : ACode := .block 0 k37_21
def k37_23 : ACode := .seq (.region k37_o6) k37_22
abbrev k37_o10 : List AJ := [.o ⟨(some 35), none, false, .mv (.t 6), none⟩, .o ⟨(some 36), none, false, .len (.t 35), none⟩, .o ⟨(some 37), none, false, .bin .gtr (.t 36) (.c (.int .i64 48)), (some [0, 4, 6, 37])⟩]
abbrev k37_o11 : List AJ := [.o ⟨(some 38), none, false, .build [.nilsl, .nilsl] [], none⟩, .o ⟨none, none, false, .store 2 (.t 4) (.t 38), none⟩, .o ⟨(some 5), none, false, .mv (.c (.int .i64 5)), (some [4, 5])⟩]
def k37_26 : ACode := .seq (.region k37_o11) .ret
def k37_27 : ACode := .cond (.t 37) k37_26 .skip
def k37_28 : ACode := .seq (.region k37_o10) k37_27
abbrev k37_o12 : List AJ := [.o ⟨(some 39), none, false, .mv (.t 6), none⟩, .o ⟨(some 40), none, false, .build [.nilsl] [(0, 1, (.t 39))], none⟩, .o ⟨(some 41), none, false, .build [.nilsl, .nilsl] [(0, 1, (.t 40))], none⟩, .o ⟨(some 8), none, false, .alloc true 2 (.agg [.nilsl, .nilsl]), none⟩, .o ⟨none, none, false, .store 2 (.t 8) (.t 41), (some [0, 4, 6, 8])⟩]
abbrev k37_o13 : List AJ := [.o ⟨(some 9), none, false, .mv (.c (.int .i64 0)), (some [0, 4, 6, 8, 9])⟩]
abbrev k37_o14 : List AJ := [.o ⟨(some 42), none, false, .mv (.t 9), none⟩, .o ⟨(some 43), none, false, .mv (.t 6), none⟩, .o ⟨(some 44), none, false, .len (.t 43), none⟩, .o ⟨(some 45), none, false, .bin .lss (.t 42) (.t 44), (some [0, 4, 6, 8, 9, 45])⟩]
def k37_32 : ACode := .cond (.t 45) .skip (.exit 2)
def k37_33 : ACode := .seq (.region k37_o14) k37_32
abbrev k37_o15 : List AJ := [.o ⟨(some 10), none, false, .mv (.c (.int .i64 0)), (some [0, 4, 6, 8, 9, 10])⟩]
abbrev k37_o16 : List AJ := [.o ⟨(some 11), none, false, .mv (.c (.int .i64 0)), (some [0, 4, 6, 8, 9, 10, 11])⟩]
abbrev k37_o17 : List AJ := [.o ⟨(some 48), none, false, .mv (.t 11), none⟩, .o ⟨(some 49), none, false, .mv (.t 6), none⟩, .o ⟨(some 50), none, false, .mv (.t 9), none⟩, .o ⟨(some 51), none, false, .idxA 1 (.t 49) (.t 50), none⟩, .o ⟨(some 52), none, false, .load 1 false (.t 51), none⟩, .o ⟨(some 53), none, false, .len (.t 52), none⟩, .o ⟨(some 54), none, false, .bin .lss (.t 48) (.t 53), (some [0, 4, 6, 8, 9, 10, 11, 54])⟩]
def k37_37 : ACode := .cond (.t 54) .skip (.exit 4)
def k37_38 : ACode := .seq (.region k37_o17) k37_37
abbrev k37_o18 : List AJ := [.o ⟨(some 12), none, false, .mv (.c (.int .i64 0)), (some [0, 4, 6, 8, 9, 10, 11, 12])⟩]
abbrev k37_o19 : List AJ := [.o ⟨(some 57), none, false, .mv (.t 12), none⟩, .o ⟨(some 58), none, false, .mv (.t 11), none⟩, .o ⟨(some 59), none, false, .bin .lss (.t 57) (.t 58), (some [0, 4, 6, 8, 9, 10, 11, 12, 59])⟩]
def k37_41 : ACode := .cond (.t 59) .skip (.exit 6)
def k37_42 : ACode := .seq (.region k37_o19) k37_41
abbrev k37_o20 : List AI := [⟨(some 62), none, false, .mv (.t 10), none⟩, ⟨(some 63), none, false, .mv (.t 0), none⟩, ⟨(some 64), none, false, .mv (.t 6), none⟩, ⟨(some 65), none, false, .mv (.t 9), none⟩, ⟨(some 66), none, false, .idxA 1 (.t 64) (.t 65), none⟩, ⟨(some 67), none, false, .load 1 false (.t 66), none⟩, ⟨(some 68), none, false, .mv (.t 11), none⟩, ⟨(some 69), none, false, .idxA 1 (.t 67) (.t 68), none⟩, ⟨(some 70), none, false, .load 1 false (.t 69), none⟩, ⟨(some 71), none, false, .idxA 1 (.t 63) (.t 70), none⟩, ⟨(some 72), none, false, .load 1 false (.t 71), none⟩, ⟨(some 73), none, false, .mv (.t 6), none⟩, ⟨(some 74), none, false, .mv (.t 9), none⟩, ⟨(some 75), none, false, .idxA 1 (.t 73) (.t 74), (some [0, 4, 6, 8, 9, 11, 12, 62, 72, 75])⟩, ⟨(some 76), none, false, .load 1 false (.t 75), none⟩, ⟨(some 77), none, false, .mv (.t 12), none⟩, ⟨(some 78), none, false, .idxA 1 (.t 76) (.t 77), none⟩, ⟨(some 79), none, false, .load 1 false (.t 78), none⟩, ⟨(some 80), none, false, .idxA 1 (.t 72) (.t 79), none⟩, ⟨(some 81), none, false, .load 1 false (.t 80), none⟩, ⟨(some 82), none, false, .call 67 [(.t 62), (.t 81)], none⟩, ⟨(some 10), none, false, .mv (.t 82), (some [0, 4, 6, 8, 9, 10, 11, 12])⟩]
def k37_43 : ACode := .draw k37_o20 [] rfl
abbrev k37_o21 : List AJ := [.o ⟨(some 60), none, false, .mv (.t 12), none⟩, .o ⟨(some 61), none, true, .bin .add (.t 60) (.c (.int .i64 1)), none⟩, .o ⟨(some 12), none, false, .mv (.t 61), (some [0, 4, 6, 8, 9, 10, 11, 12])⟩]
def k37_45 : ACode := .region k37_o21
def k37_46 : ACode := .seq (.block 7 k37_43) k37_45
def k37_47 : ACode := .seq k37_42 k37_46
def k37_48 : ACode := .loop k37_47
def k37_49 : ACode := .block 6 k37_48
def k37_50 : ACode := .seq (.region k37_o18) k37_49
abbrev k37_o22 : List AJ := [.o ⟨(some 55), none, false, .mv (.t 11), none⟩, .o ⟨(some 56), none, true, .bin .add (.t 55) (.c (.int .i64 1)), none⟩, .o ⟨(some 11), none, false, .mv (.t 56), (some [0, 4, 6, 8, 9, 10, 11])⟩]
def k37_52 : ACode := .region k37_o22
def k37_53 : ACode := .seq (.block 5 k37_50) k37_52
def k37_54 : ACode := .seq k37_38 k37_53
def k37_55 : ACode := .loop k37_54
def k37_56 : ACode := .block 4 k37_55
def k37_57 : ACode := .seq (.region k37_o16) k37_56
abbrev k37_o23 : List AJ := [.o ⟨(some 83), none, false, .fieldA 1 (.t 8), none⟩, .o ⟨(some 84), none, false, .load 1 false (.t 83), none⟩, .o ⟨(some 85), none, false, .mv (.t 10), none⟩, .o ⟨(some 86), none, false, .bsl false 1 [(.t 85)], none⟩, .o ⟨(some 87), none, false, .append 1 8 (.t 84) (.t 86), none⟩, .o ⟨(some 88), none, false, .fieldA 1 (.t 8), none⟩, .o ⟨none, none, false, .store 1 (.t 88) (.t 87), (some [0, 4, 6, 8, 9])⟩]
def k37_58 : ACode := .region k37_o23
def k37_59 : ACode := .seq k37_57 k37_58
def k37_60 : ACode := .seq (.region k37_o15) k37_59
abbrev k37_o24 : List AJ := [.o ⟨(some 46), none, false, .mv (.t 9), none⟩, .o ⟨(some 47), none, true, .bin .add (.t 46) (.c (.int .i64 1)), none⟩, .o ⟨(some 9), none, false, .mv (.t 47), (some [0, 4, 6, 8, 9])⟩]
def k37_62 : ACode := .region k37_o24
def k37_63 : ACode := .seq (.block 3 k37_60) k37_62
def k37_64 : ACode := .seq k37_33 k37_63
def k37_65 : ACode := .loop k37_64
def k37_66 : ACode := .block 2 k37_65
def k37_67 : ACode := .seq (.region k37_o13) k37_66
abbrev k37_o25 : List AJ := [.o ⟨(some 89), none, false, .load 2 true (.t 8), none⟩, .o ⟨none, none, false, .store 2 (.t 4) (.t 89), none⟩, .o ⟨(some 5), none, false, .mv (.c (.int .i64 0)), (some [4, 5])⟩]
def k37_69 : ACode := .seq (.region k37_o25) .ret
def k37_70 : ACode := .seq k37_67 k37_69
def k37_71 : ACode := .seq (.region k37_o12) k37_70
def k37_72 : ACode := .seq k37_28 k37_71
def k37_73 : ACode := .seq k37_23 k37_72
def k37_74 : ACode := .seq (.region k37_o5) k37_73
def k37_75 : ACode := .seq k37_10 k37_74
def k37_76 : ACode := .seq k37_5 k37_75
def k37_77 : ACode := .seq (.region k37_o0) k37_76
@[simp, simp ↓] theorem k37_3r : sR k37_3 k37_o2 .ret := yR rfl
@[simp, simp ↓] theorem k37_4r : rC k37_4 (.t 15) k37_3 .skip := zC rfl
@[simp, simp ↓] theorem k37_5r : sR k37_5 k37_o1 k37_4 := yR rfl
@[simp, simp ↓] theorem k37_8r : sR k37_8 k37_o4 .ret := yR rfl
@[simp, simp ↓] theorem k37_9r : rC k37_9 (.t 19) k37_8 .skip := zC rfl
@[simp, simp ↓] theorem k37_10r : sR k37_10 k37_o3 k37_9 := yR rfl
@[simp, simp ↓] theorem k37_14r : rC k37_14 (.t 24) .skip (.exit 0) := zC rfl
@[simp, simp ↓] theorem k37_15r : sR k37_15 k37_o7 k37_14 := yR rfl
@[simp, simp ↓] theorem k37_16r : rR k37_16 k37_o8 := zR rfl
@[simp, simp ↓] theorem k37_18r : rR k37_18 k37_o9 := zR rfl
@[simp, simp ↓] theorem k37_19r : sB k37_19 1 k37_16 k37_18 := yB rfl
@[simp, simp ↓] theorem k37_20r : rS k37_20 k37_15 k37_19 := zS rfl
@[simp, simp ↓] theorem k37_21r : rL k37_21 k37_20 := zL rfl
@[simp, simp ↓] theorem k37_22r : rB k37_22 0 k37_21 := zB rfl
@[simp, simp ↓] theorem k37_23r : sR k37_23 k37_o6 k37_22 := yR rfl
@[simp, simp ↓] theorem k37_26r : sR k37_26 k37_o11 .ret := yR rfl
@[simp, simp ↓] theorem k37_27r : rC k37_27 (.t 37) k37_26 .skip := zC rfl
@[simp, simp ↓] theorem k37_28r : sR k37_28 k37_o10 k37_27 := yR rfl
@[simp, simp ↓] theorem k37_32r : rC k37_32 (.t 45) .skip (.exit 2) := zC rfl
@[simp, simp ↓] theorem k37_33r : sR k37_33 k37_o14 k37_32 := yR rfl
@[simp, simp ↓] theorem k37_37r : rC k37_37 (.t 54) .skip (.exit 4) := zC rfl
@[simp, simp ↓] theorem k37_38r : sR k37_38 k37_o17 k37_37 := yR rfl
@[simp, simp ↓] theorem k37_41r : rC k37_41 (.t 59) .skip (.exit 6) := zC rfl
@[simp, simp ↓] theorem k37_42r : sR k37_42 k37_o19 k37_41 := yR rfl
@[simp, simp ↓] theorem k37_43r : rD k37_43 k37_o20 [] := zD rfl
@[simp, simp ↓] theorem k37_45r : rR k37_45 k37_o21 := zR rfl
@[simp, simp ↓] theorem k37_46r : sB k37_46 7 k37_43 k37_45 := yB rfl
@[simp, simp ↓] theorem k37_47r : rS k37_47 k37_42 k37_46 := zS rfl
@[simp, simp ↓] theorem k37_48r : rL k37_48 k37_47 := zL rfl
@[simp, simp ↓] theorem k37_49r : rB k37_49 6 k37_48 := zB rfl
@[simp, simp ↓] theorem k37_50r : sR k37_50 k37_o18 k37_49 := yR rfl
@[simp, simp ↓] theorem k37_52r : rR k37_52 k37_o22 := zR rfl
@[simp, simp ↓] theorem k37_53r : sB k37_53 5 k37_50 k37_52 := yB rfl
@[simp, simp ↓] theorem k37_54r : rS k37_54 k37_38 k37_53 := zS rfl
@[simp, simp ↓] theorem k37_55r : rL k37_55 k37_54 := zL rfl
@[simp, simp ↓] theorem k37_56r : rB k37_56 4 k37_55 := zB rfl
@[simp, simp ↓] theorem k37_57r : sR k37_57 k37_o16 k37_56 := yR rfl
@[simp, simp ↓] theorem k37_58r : rR k37_58 k37_o23 := zR rfl
@[simp, simp ↓] theorem k37_59r : rS k37_59 k37_57 k37_58 := zS rfl
@[simp, simp ↓] theorem k37_60r : sR k37_60 k37_o15 k37_59 := yR rfl
@[simp, simp ↓] theorem k37_62r : rR k37_62 k37_o24 := zR rfl
@[simp, simp ↓] theorem k37_63r : sB k37_63 3 k37_60 k37_62 := yB rfl
@[simp, simp ↓] theorem k37_64r : rS k37_64 k37_33 k37_63 := zS rfl
@[simp, simp ↓] theorem k37_65r : rL k37_65 k37_64 := zL rfl
@[simp, simp ↓] theorem k37_66r : rB k37_66 2 k37_65 := zB rfl
@[simp, simp ↓] theorem k37_67r : sR k37_67 k37_o13 k37_66 := yR rfl
@[simp, simp ↓] theorem k37_69r : sR k37_69 k37_o25 .ret := yR rfl
@[simp, simp ↓] theorem k37_70r : rS k37_70 k37_67 k37_69 := zS rfl
@[simp, simp ↓] theorem k37_71r : sR k37_71 k37_o12 k37_70 := yR rfl
@[simp, simp ↓] theorem k37_72r : rS k37_72 k37_28 k37_71 := zS rfl
@[simp, simp ↓] theorem k37_73r : rS k37_73 k37_23 k37_72 := zS rfl
@[simp, simp ↓] theorem k37_74r : sR k37_74 k37_o5 k37_73 := yR rfl
@[simp, simp ↓] theorem k37_75r : rS k37_75 k37_10 k37_74 := zS rfl
@[simp, simp ↓] theorem k37_76r : rS k37_76 k37_5 k37_75 := zS rfl
@[simp, simp ↓] theorem k37_77r : sR k37_77 k37_o0 k37_76 := yR rfl
noncomputable abbrev k37_C : Orc → Cx := mkC Try.prog [4, 8, 21] 37 90 [.cell 4 2 true, .tmp 5]
theorem k37_of : OfP Try.prog Try.f37 37 90 k37_C k37_77 := @ofP _ _ _ _ _ _ _ _ Try.func37 (by decide +kernel) rfl (by kernel_rfl) rfl (by kernel_rfl)
theorem specDF_c (rs : LS) (d : Int) (h : Heap) (hl : ssTot rs ≤ 1048576) : ACalls Try.prog 37 [.snap 1 (rs.map il), .int .i64 d] h (fun v h' => v = .tup [(dfF rs d).av, .int .i64 (dfCode rs d)] ∧ h' = h) := by
  have hf := fit_of_tot hl
  have hf1 := hf.1
  refine k37_of rfl orcX1_p fun I => ?_
  by_cases ht : tbOk rs
  · by_cases hd : 0 ≤ d ∧ d ≤ 3
    · have ht10 := ht.1
      refine Run2.of I 1000 ?_
      simp -implicitDefEqProofs [hl, ht, hd]
      intro b hb
      have hbS : ∀ z : Blk, ∀ j ∈ dom ((b, z) :: h), j = b ∨ j ∈ dom h := fun z j hj => by simpa [dom] using hj
      obtain ⟨D, hD⟩ : ∃ D : Nat, (d + 1).toNat = D := ⟨_, rfl⟩
      have hD4 : D ≤ 4 := by omega
      have p10 : (2 : Nat) ^ rs.length ≤ 2 ^ 10 := Nat.pow_le_pow_right (by omega) (by omega)
      refine Run2.loopE (α := Nat × AV × Heap) (fun s => [(0, .snap 1 (rs.map il)), (1, .int .i64 d), (4, .ptr b 2 0 0), (6, s.2.1), (7, .int .i64 (s.1 : Nat))]) (fun s => s.2.2 ++ (b, ⟨2, [.agg [.nilsl, .nilsl]]⟩) :: h) (fun s => D - s.1) (fun s => s.1 ≤ D ∧ Grow 1 s.2.1 ((dfN rs.length s.1).map il) s.2.2 ∧ ∀ i ∈ dom s.2.2, i ∉ b :: dom h) (0, .emp, []) (by simp) rfl ⟨by omega, by simpa [dfN] using Grow.emp, by simp [dom]⟩ ?_
      rintro ⟨k, w, hp⟩ ⟨hk, hg, hdj⟩ ih
      simp only at hk hg hdj ih ⊢
      have hcn := dfN_cnt rs.length k
      have hcn2 : (dfN rs.length k).length ≤ 4096 := Nat.le_trans hcn (Nat.le_trans (Nat.mul_le_mul (by omega : k ≤ 4) p10) (by decide))
      by_cases hlt : k < D
      · have hlt' : (k : Int) ≤ d := by omega
        have go := fun w' hp' a b => ih (k + 1, w', hp') ⟨by simp; omega, a, b⟩ (by simp; omega)
        clear ih
        refine Run2.of I 1000 ?_
        simp -implicitDefEqProofs [hlt', hf1]
        refine ⟨by omega, ?_⟩
        have H := l22All_c (k + 1) rs.length 0 [] (hp ++ (b, ⟨2, [.agg [.nilsl, .nilsl]]⟩) :: h) (by omega) (by omega) (by omega) (by simp; omega)
        have hcm := cb_cnt rs.length (k + 1) 0
        refine ACalls.mono H ?_
        rintro v h' ⟨rfl, rfl⟩
        have ec : cbP (k + 1) (rs.length - 0) 0 [] = cb (k + 1) rs.length 0 := by simp [cbP]
        rw [ec]
        refine gK.go ?_
        simp -implicitDefEqProofs
        refine hg.appAny_mid (by simp; omega) (by simpa [dom] using hdj) fun w3 hp3 hg3 hd3 => ?_
        have := go w3 hp3 (by rw [dfN_succ, List.map_append]; exact hg3) (by simpa [dom] using hd3)
        simp -implicitDefEqProofs
        refine ⟨by omega, ?_⟩
        simpa using this
      · obtain rfl : k = D := by omega
        have hlt' : ¬ (k : Int) ≤ d := by omega
        clear ih
        refine Run2.frzG hg (e' := [(0, .snap 1 (rs.map il)), (1, .int .i64 d), (4, .ptr b 2 0 0), (6, .snap 1 ((dfN rs.length k).map il)), (7, .int .i64 (k : Nat))]) (by simpa [dom] using hdj) (fun t => ?_) ?_
        · by_cases h6 : 6 = t
          · subst h6; exact .inr (by simp [eget])
          · exact .inl (by simp [eget, h6])
        · refine Run2.of I 1000 ?_
          simp -implicitDefEqProofs [hlt', hcn2]
          refine ⟨fun h48 => ?_, fun h48 c hc1 hc2 => ?_⟩
          · have hcd : dfCode rs d = 5 := by unfold dfCode; rw [if_pos ht, if_pos hd, hD, if_pos (by omega)]
            have hff : dfF rs d = ⟨[], []⟩ := by unfold dfF; rw [if_neg (by omega)]
            rw [hcd, hff]
            exact .drop b (.wk (Wk.tup (.cons (Wk.agg (.cons (Wk.nil 1) (.cons (Wk.nil 1) .nil))) (.cons (.refl _) .nil))) (.base ⟨rfl, by simp [hdel]⟩))
          · have hcd : dfCode rs d = 0 := by unfold dfCode; rw [if_pos ht, if_pos hd, hD, if_neg (by omega)]
            have hff : dfF rs d = dfT rs d := by unfold dfF; rw [if_pos hcd]
            rw [hcd, hff]
            unfold dfT
            rw [hD]
            have hin : ∀ w ∈ dfN rs.length k, inR rs.length w ∧ w.length ≤ k := fun w hw => dfN_in hw
            generalize dfN rs.length k = LL at *
            refine gK.go ?_
            simp -implicitDefEqProofs [hc1]
            refine Run2.loopE (α := Nat × AV × Heap) (fun p => [(0, .snap 1 (rs.map il)), (4, .ptr b 2 0 0), (6, .snap 1 (LL.map il)), (8, .ptr c 2 0 0), (9, .int .i64 (p.1 : Nat))]) (fun p => p.2.2 ++ ((c, ⟨2, [.agg [.snap 1 (LL.map il), p.2.1]]⟩) :: (b, ⟨2, [.agg [.nilsl, .nilsl]]⟩) :: h)) (fun p => LL.length - p.1) (fun p => p.1 ≤ LL.length ∧ Grow 1 p.2.1 (((LL.take p.1).map (gtm rs)).map iv) p.2.2 ∧ c ∉ dom p.2.2 ∧ b ∉ dom p.2.2) (0, .nilsl, []) (by simp) (by simp) ⟨Nat.zero_le _, by simpa using Grow.nil, by simp [dom], by simp [dom]⟩ ?_
            rintro ⟨i, u, hp'⟩ ⟨hi, hgu, hcd', hbd'⟩ ih
            simp only at hi hgu hcd' hbd' ih ⊢
            have cw := hgu.cell
            have sw := stor_of cw
            have lw := cells_of cw
            have gC : ∀ z, hget (hp' ++ z) c = hget z c := fun z => hget_app hcd'
            have sC : ∀ z y, hset (hp' ++ z) c y = hp' ++ hset z c y := fun z y => hset_app hcd'
            have gB : ∀ z, hget (hp' ++ z) b = hget z b := fun z => hget_app hbd'
            have sB : ∀ z y, hset (hp' ++ z) b y = hp' ++ hset z b y := fun z y => hset_app hbd'
            by_cases hil : i < LL.length
            · have hW := hin _ (List.getElem_mem hil)
              have go := fun w' hp'' (g' : Grow 1 w' (((LL.take i).map (gtm rs)).map iv ++ [.int .i64 (gtm rs LL[i])]) hp'') (h1 : c ∉ dom hp'') (h2 : b ∉ dom hp'') => ih (i + 1, w', hp'') ⟨hil, by
                simp only
                rw [List.take_succ_eq_append_getElem hil, List.map_append, List.map_append]
                exact g', h1, h2⟩ (by simp; omega)
              clear ih
              generalize hWd : LL[i] = W at *
              refine Run2.of I 1000 ?_
              simp -implicitDefEqProofs [hil]
              refine Run2.loopE (α := Nat × Int) (fun s => [(0, .snap 1 (rs.map il)), (4, .ptr b 2 0 0), (6, .snap 1 (LL.map il)), (8, .ptr c 2 0 0), (9, .int .i64 (i : Nat)), (10, .int .i64 s.2), (11, .int .i64 (s.1 : Nat))]) (fun _ => hp' ++ ((c, ⟨2, [.agg [.snap 1 (LL.map il), u]]⟩) :: (b, ⟨2, [.agg [.nilsl, .nilsl]]⟩) :: h)) (fun s => W.length - s.1) (fun s => s.1 ≤ W.length ∧ IsMx (fun x => ∃ a b, a < s.1 ∧ b < a ∧ x = pr rs W a b) s.2) (0, 0) (by simp) rfl ⟨by omega, .zero (by rintro x ⟨a, b, h1, _⟩; omega)⟩ ?_
              rintro ⟨a, t⟩ ⟨ha, hmx⟩ ih
              simp only at ha hmx ih ⊢
              by_cases haw : a < W.length
              · have go2 := fun t h => ih (a + 1, t) ⟨by simp; omega, h⟩ (by simp; omega)
                clear ih
                have hwa := hW.2
                refine Run2.of I 1000 ?_
                simp -implicitDefEqProofs [hil, hWd, haw]
                refine Run2.loopE (α := Nat × Int) (fun s => [(0, .snap 1 (rs.map il)), (4, .ptr b 2 0 0), (6, .snap 1 (LL.map il)), (8, .ptr c 2 0 0), (9, .int .i64 (i : Nat)), (10, .int .i64 s.2), (11, .int .i64 (a : Nat)), (12, .int .i64 (s.1 : Nat))]) (fun _ => hp' ++ ((c, ⟨2, [.agg [.snap 1 (LL.map il), u]]⟩) :: (b, ⟨2, [.agg [.nilsl, .nilsl]]⟩) :: h)) (fun s => a - s.1) (fun s => s.1 ≤ a ∧ IsMx (fun x => (∃ a' b', a' < a ∧ b' < a' ∧ x = pr rs W a' b') ∨ ∃ b', b' < s.1 ∧ x = pr rs W a b') s.2) (0, t) (by simp) rfl ⟨by omega, hmx.congr fun x => ⟨.inl, fun h => h.elim id fun ⟨b', h1, _⟩ => by omega⟩⟩ ?_
                rintro ⟨q, t'⟩ ⟨hq, hmq⟩ ih
                simp only at hq hmq ih ⊢
                by_cases hqa : q < a
                · obtain ⟨x, hx, hxn, hxg⟩ := hW.1.at haw
                  have hqw : q < W.length := by omega
                  obtain ⟨y, hy, hyn, hyg⟩ := hW.1.at hqw
                  have hxr : y < rs[x].length := by
                    have := (ht.2 x hxn).1
                    rw [show rs.getD x [] = rs[x] by simp [hxn]] at this
                    omega
                  have hpr : pr rs W a q = rs[x][y] := by
                    unfold pr dst
                    rw [hxg, hyg]
                    simp [hxn, hxr]
                  have go3 := ih (q + 1, max t' rs[x][y]) ⟨by simp; omega, by
                    refine hmq.step fun z => ?_
                    simp only
                    constructor
                    · rintro (h1 | ⟨b', h1, h2⟩)
                      · exact .inl (.inl h1)
                      · rcases Nat.lt_or_ge b' q with h3 | h3
                        · exact .inl (.inr ⟨b', h3, h2⟩)
                        · obtain rfl : b' = q := by omega
                          exact .inr (by rw [h2, hpr])
                    · rintro ((h1 | ⟨b', h1, h2⟩) | h1)
                      · exact .inl h1
                      · exact .inr ⟨b', by omega, h2⟩
                      · exact .inr ⟨q, by omega, by rw [h1, hpr]⟩⟩ (by simp; omega)
                  clear ih
                  refine Run2.of I 1000 ?_
                  simp -implicitDefEqProofs [hil, hWd, haw, hqw, hqa, hx, hy, hxn, hxr]
                  refine ⟨by omega, ?_⟩
                  simpa using go3
                · obtain rfl : q = a := by omega
                  clear ih
                  have := go2 t' (hmq.congr fun z => ?_)
                  · refine Run2.of I 1000 ?_
                    simp -implicitDefEqProofs [hqa]
                    refine ⟨by omega, ?_⟩
                    simpa using this
                  · simp only
                    constructor
                    · rintro (⟨a', b', h1, h2, h3⟩ | ⟨b', h1, h2⟩)
                      · exact ⟨a', b', by omega, h2, h3⟩
                      · exact ⟨q, b', by omega, h1, h2⟩
                    · rintro ⟨a', b', h1, h2, h3⟩
                      rcases Nat.lt_or_ge a' q with h4 | h4
                      · exact .inl ⟨a', b', h4, h2, h3⟩
                      · obtain rfl : a' = q := by omega
                        exact .inr ⟨b', h2, h3⟩
              · obtain rfl : a = W.length := by omega
                clear ih
                have htm := half_mx ht hW.1 hmx
                refine Run2.of I 1000 ?_
                simp -implicitDefEqProofs [hil, hWd, gC, cw, sw, lw]
                refine hgu.app_mid (pre := []) (fun _ _ h => by simp [dom] at h) (by simp; omega) (by simp) fun w' hp'' hg' hd' => ?_
                have cw' := hg'.cell
                have sw' := stor_of cw'
                have lw' := cells_of cw'
                have hc' : c ∉ dom hp'' := fun hm => hd' c hm (by simp [dom])
                have hb' : b ∉ dom hp'' := fun hm => hd' b hm (by simp [dom])
                have gC' : ∀ z, hget (hp'' ++ z) c = hget z c := fun z => hget_app hc'
                have sC' : ∀ z y, hset (hp'' ++ z) c y = hp'' ++ hset z c y := fun z y => hset_app hc'
                have := go w' hp'' (by rw [← htm]; exact hg') hc' hb'
                simp -implicitDefEqProofs [cw', sw', lw', gC', sC']
                refine ⟨by omega, ?_⟩
                simpa using this
            · obtain rfl : i = LL.length := by omega
              rw [List.take_length] at hgu
              refine Run2.of I 1000 ?_
              simp -implicitDefEqProofs [hil, gC, sC, cw, sw, lw, gB, sB, hc1]
              refine Post.lend ?_
              rw [lend1_tup2, lend1_cold hp' (x := .int .i64 0) rfl, lend1_agg, lend1_cold hp' (x := .snap 1 (LL.map il)) (by simp [cold])]
              refine .drop c (.drop b (.wk (Wk.tup (.cons (Wk.agg (.cons (.refl _) (.cons hgu.own.lent.wk .nil))) (.cons (.refl _) .nil))) (.base ⟨?_, by simp [hdel, hc1]⟩)))
              simp
    · have hcd : dfCode rs d = 2 := by unfold dfCode; rw [if_pos ht, if_neg hd]
      have hff : dfF rs d = ⟨[], []⟩ := by unfold dfF; rw [if_neg (by omega)]
      have hd' : (decide (0 ≤ d) && decide (d ≤ 3)) = false := by rw [Bool.eq_false_iff]; simpa using hd
      rw [hcd, hff]
      refine Run2.of I 1000 ?_
      simp -implicitDefEqProofs [hl, ht, hd']
      intro b hb
      exact .drop b (.wk (Wk.tup (.cons (Wk.agg (.cons (Wk.nil 1) (.cons (Wk.nil 1) .nil))) (.cons (.refl _) .nil))) (.base ⟨rfl, by simp [hdel]⟩))
  · have hcd : dfCode rs d = 7 := by unfold dfCode; rw [if_neg ht]
    have hff : dfF rs d = ⟨[], []⟩ := by unfold dfF; rw [if_neg (by omega)]
    rw [hcd, hff]
    refine Run2.of I 1000 ?_
    simp -implicitDefEqProofs [hl, ht]
    intro b hb
    exact .drop b (.wk (Wk.tup (.cons (Wk.agg (.cons (Wk.nil 1) (.cons (Wk.nil 1) .nil))) (.cons (.refl _) .nil))) (.base ⟨rfl, by simp [hdel]⟩))
end Go.AG
