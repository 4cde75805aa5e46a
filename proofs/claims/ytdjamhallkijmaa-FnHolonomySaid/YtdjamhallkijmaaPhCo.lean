/- Lists of edges to leave out, in order: all lists of a length, the next one, and the search through them. Plain; no statement is made here. -/
import Derived.Test.YtdjamhallkijmaaPhPotI
namespace Go.AG
open Go.Proofs Go.Proofs.Ytdjamhallkijmaa
set_option linter.unusedSimpArgs false
set_option linter.unusedVariables false
/-- The lists of m of the d numbers from f on. -/
def cb : Nat → Nat → Nat → List (List Int)
  | 0, _, _ => [[]]
  | _ + 1, 0, _ => []
  | m + 1, d + 1, f => (cb m d (f + 1)).map ((f : Int) :: ·) ++ cb (m + 1) d (f + 1)
theorem cb_zero (d f : Nat) : cb 0 d f = [[]] := by cases d <;> rfl
theorem cb_end (m f : Nat) : cb (m + 1) 0 f = [] := rfl
theorem cb_succ (m d f : Nat) : cb (m + 1) (d + 1) f = (cb m d (f + 1)).map ((f : Int) :: ·) ++ cb (m + 1) d (f + 1) := rfl
theorem cb_len : ∀ (d m f : Nat), ∀ w ∈ cb m d f, w.length = m
  | d, 0, f, w, h => by rw [cb_zero] at h; simp at h; simp [h]
  | 0, m + 1, f, w, h => by simp [cb] at h
  | d + 1, m + 1, f, w, h => by
    rw [cb_succ] at h
    rcases List.mem_append.1 h with h | h
    · obtain ⟨u, hu, rfl⟩ := List.mem_map.1 h
      simp [cb_len d m (f + 1) u hu]
    · exact cb_len d (m + 1) (f + 1) w h
theorem cb_rng : ∀ (d m f : Nat), ∀ w ∈ cb m d f, ∀ c ∈ w, (f : Int) ≤ c ∧ c < (f + d : Nat)
  | d, 0, f, w, h, c, hc => by rw [cb_zero] at h; simp at h; subst h; cases hc
  | 0, m + 1, f, w, h, c, hc => by simp [cb] at h
  | d + 1, m + 1, f, w, h, c, hc => by
    rw [cb_succ] at h
    rcases List.mem_append.1 h with h | h
    · obtain ⟨u, hu, rfl⟩ := List.mem_map.1 h
      rcases List.mem_cons.1 hc with rfl | hc
      · omega
      · have := cb_rng d m (f + 1) u hu c hc; omega
    · have := cb_rng d (m + 1) (f + 1) w h c hc; omega
theorem cb_many : ∀ (d m f : Nat), d < m → cb m d f = []
  | 0, m + 1, f, _ => rfl
  | d + 1, m + 1, f, h => by rw [cb_succ, cb_many d m (f + 1) (by omega), cb_many d (m + 1) (f + 1) (by omega)]; rfl
/-- k numbers from a on. -/
def up (a : Int) (k : Nat) : List Int := (List.range k).map fun (i : Nat) => a + i
theorem up_succ (a : Int) (k : Nat) : up a (k + 1) = a :: up (a + 1) k := by
  unfold up
  rw [List.range_succ_eq_map, List.map_cons, List.map_map]
  congr 1
  · simp
  · apply List.map_congr_left
    intro i _
    simp only [Function.comp_apply]
    omega
theorem up_len (a : Int) (k : Nat) : (up a k).length = k := by simp [up]
theorem cb_head : ∀ (d m f : Nat), m ≤ d → ∃ L, cb m d f = up f m :: L
  | d, 0, f, _ => ⟨[], by rw [cb_zero]; rfl⟩
  | d + 1, m + 1, f, h => by
    obtain ⟨L, e⟩ := cb_head d m (f + 1) (by omega)
    rw [cb_succ, e, up_succ]
    exact ⟨_, rfl⟩
/-- The next list of that many numbers less than E. -/
def nxr (E : Int) : List Int → Option (List Int)
  | [] => none
  | a :: t => match nxr E t with
    | some t' => some (a :: t')
    | none => if a < E - (t.length + 1 : Nat) then some (up (a + 1) (t.length + 1)) else none
theorem nxr_app {E : Int} {q q' : List Int} (h : nxr E q = some q') : ∀ p : List Int, nxr E (p ++ q) = some (p ++ q')
  | [] => h
  | a :: p => by simp only [List.cons_append, nxr, nxr_app h p]
/-- One list after the other. -/
def Lk (E : Int) : List (List Int) → Option (List Int) → Prop
  | [], _ => True
  | [w], t => nxr E w = t
  | w :: w' :: L, t => nxr E w = some w' ∧ Lk E (w' :: L) t
def hdOr (M : List (List Int)) (t : Option (List Int)) : Option (List Int) := match M with
  | [] => t
  | w :: _ => some w
theorem Lk_app {E : Int} {M : List (List Int)} {t : Option (List Int)} (hM : Lk E M t) : ∀ {L : List (List Int)}, Lk E L (hdOr M t) → Lk E (L ++ M) t
  | [], _ => hM
  | [w], h => by
    cases M with
    | nil => exact h
    | cons u M => exact ⟨h, hM⟩
  | w :: w' :: L, h => ⟨h.1, Lk_app hM h.2⟩
theorem Lk_map {E : Int} {f : Int} {m : Nat} : ∀ {L : List (List Int)}, (∀ w ∈ L, w.length = m) → Lk E L none → Lk E (L.map (f :: ·)) (if f < E - (m + 1 : Nat) then some (up (f + 1) (m + 1)) else none)
  | [], _, _ => trivial
  | [w], hl, h => by
    have h : nxr E w = none := h
    have := hl w (by simp)
    show nxr E (f :: w) = _
    simp only [nxr, h, this]
  | w :: w' :: L, hl, h => ⟨by simp only [nxr, h.1], Lk_map (fun u hu => hl u (List.mem_cons_of_mem _ hu)) h.2⟩
theorem cb_lk : ∀ (d m f : Nat), Lk ((f + d : Nat) : Int) (cb m d f) none
  | d, 0, f => by rw [cb_zero]; rfl
  | 0, m + 1, f => trivial
  | d + 1, m + 1, f => by
    have h1 := cb_lk d m (f + 1)
    have h2 := cb_lk d (m + 1) (f + 1)
    rw [show f + 1 + d = f + (d + 1) by omega] at h1 h2
    rw [cb_succ]
    refine Lk_app h2 ?_
    have := Lk_map (f := (f : Int)) (cb_len d m (f + 1)) h1
    rcases Nat.lt_or_ge d (m + 1) with h | h
    · rw [if_neg (by omega)] at this
      rw [cb_many d (m + 1) (f + 1) h]
      exact this
    · rw [if_pos (by omega)] at this
      obtain ⟨L, e⟩ := cb_head d (m + 1) (f + 1) h
      rw [e]
      exact this
/-- The search: the first list that is good, or at which there are too many; and how many were looked at. -/
def scan (good : List Int → Bool) (B : Int) : List (List Int) → Int → Option (List Int) × Int
  | [], k => (none, k)
  | w :: L, k => if k + 1 > B ∨ good w = true then (some w, k + 1) else scan good B L (k + 1)
theorem scan_app {good : List Int → Bool} {B : Int} {M : List (List Int)} : ∀ {L : List (List Int)} {k : Int}, scan good B (L ++ M) k = match scan good B L k with | (some w, k') => (some w, k') | (none, k') => scan good B M k'
  | [], k => rfl
  | w :: L, k => by
    simp only [List.cons_append, scan]
    split
    · rfl
    · exact scan_app
theorem scan_ge {good : List Int → Bool} {B : Int} : ∀ {L : List (List Int)} {k : Int}, k ≤ B → k ≤ (scan good B L k).2 ∧ (scan good B L k).2 ≤ B + 1
  | [], k, hk => by simp only [scan]; omega
  | w :: L, k, hk => by
    simp only [scan]
    split
    · simp only
      omega
    · rename_i h
      have := scan_ge (good := good) (B := B) (L := L) (k := k + 1) (by have := not_or.1 h; omega)
      omega
theorem scan_none {good : List Int → Bool} {B : Int} {k' : Int} : ∀ {L : List (List Int)} {k : Int}, k ≤ B → scan good B L k = (none, k') → k ≤ k' ∧ k' ≤ B
  | [], k, hk, h => by simp [scan] at h; omega
  | u :: L, k, hk, h => by
    simp only [scan] at h
    split at h
    · simp at h
    · rename_i hc
      have := scan_none (by have := not_or.1 hc; omega) h
      omega
theorem scan_mem {good : List Int → Bool} {B : Int} {w : List Int} {k' : Int} : ∀ {L : List (List Int)} {k : Int}, scan good B L k = (some w, k') → w ∈ L
  | [], k, h => by simp [scan] at h
  | u :: L, k, h => by
    simp only [scan] at h
    split at h
    · simp at h; rw [← h.1]; exact List.mem_cons_self ..
    · exact List.mem_cons_of_mem _ (scan_mem h)
/-- All lists of s numbers and more. -/
def tot (E s : Nat) : List (List Int) := (List.range' s (E + 1 - s)).flatMap fun m => cb m E 0
theorem tot_step {E s : Nat} (h : s ≤ E) : tot E s = cb s E 0 ++ tot E (s + 1) := by
  unfold tot
  rw [show E + 1 - s = (E + 1 - (s + 1)) + 1 by omega, List.range'_succ, List.flatMap_cons]
theorem tot_end (E : Nat) : tot E (E + 1) = [] := by simp [tot]
/-- The search comes to an end, if leaving out all is good. -/
theorem scan_tot {good : List Int → Bool} {B : Int} {E : Nat} (hg : good (up 0 E) = true) : ∀ (n s : Nat) (k : Int), E - s = n → s ≤ E → ∃ w k', scan good B (tot E s) k = (some w, k')
  | 0, s, k, hn, hs => by
    obtain rfl : s = E := by omega
    rw [tot_step hs, scan_app]
    obtain ⟨L, e⟩ := cb_head s s 0 (Nat.le_refl _)
    have e : cb s s 0 = up 0 s :: L := e
    rw [e]
    simp only [scan, hg, or_true, if_true]
    exact ⟨_, _, rfl⟩
  | n + 1, s, k, hn, hs => by
    rw [tot_step hs, scan_app]
    obtain ⟨w, k', h⟩ := scan_tot (B := B) hg n (s + 1) (scan good B (cb s E 0) k).2 (by omega) (by omega)
    cases hh : scan good B (cb s E 0) k with
    | mk o k1 =>
      cases o with
      | some w => exact ⟨_, _, rfl⟩
      | none => rw [hh] at h; exact ⟨_, _, h⟩
/-! ## A graph without some edges -/
theorem keptTo_sub (ts : List T) (q : Int → Bool) : (keptTo ts q ts.length).Sublist ts := by
  have : ((List.range ts.length).map fun k => ts.getD k default) = ts := by
    apply List.ext_getElem
    · simp
    · intro i h1 h2; simp [h2]
  unfold keptTo
  conv => rhs; rw [← this]
  exact (List.filter_sublist).map _
theorem T.lt_trans {a b c : T} (h : a.lt b) (k : b.lt c) : a.lt c := by
  unfold T.lt at *
  omega
theorem good_pw {x : Ph} (h : x.good x.ts.length) : x.ts.Pairwise T.lt := by
  rw [List.pairwise_iff_getElem]
  intro i j hi hj hij
  induction j with
  | zero => omega
  | succ j ih =>
    have h1 := (h (j + 1) hj hj).2 (by omega)
    simp only [Nat.add_sub_cancel] at h1
    rcases Nat.lt_or_ge i j with h2 | h2
    · exact T.lt_trans (ih (by omega) h2) h1
    · obtain rfl : i = j := by omega
      exact h1
theorem Ph.sub_valid {x y : Ph} (hv : x.valid) (hn : y.n = x.n) (hm : y.m = x.m) (hs : y.ts.Sublist x.ts) : y.valid := by
  obtain ⟨h1, h2, h3, h4, h5, h6⟩ := hv
  have hp := (good_pw h5).sublist hs
  rw [List.pairwise_iff_getElem] at hp
  refine ⟨by omega, by omega, by omega, by omega, fun j hj _ => ⟨?_, fun h0 => hp _ _ (by omega) hj (by omega)⟩, by have := hs.length_le; omega⟩
  obtain ⟨i, hi, e⟩ := List.mem_iff_getElem.1 (hs.subset (List.getElem_mem hj))
  have := (h5 i hi hi).1
  rw [e] at this
  unfold Ph.el at *
  rw [hn, hm]; exact this
theorem Ph.less_kept (x : Ph) (w : List Int) : x.less w = x.kept fun k => !decide (k ∈ w) := rfl
theorem Ph.less_valid {x : Ph} (hv : x.valid) (w : List Int) : (x.less w).valid := by
  rw [Ph.less_kept]
  exact Ph.sub_valid (y := x.kept fun k => !decide (k ∈ w)) hv rfl rfl (keptTo_sub x.ts fun k => !decide (k ∈ w))
/-- No edge is wrong without these. -/
def Ph.gd (x : Ph) (w : List Int) : Bool := (x.less w).wrong.isEmpty
theorem Ph.gd_all (x : Ph) : x.gd (up 0 x.ts.length) = true := by
  have : (x.less (up 0 x.ts.length)).ts = [] := by
    unfold Ph.less lessTo
    simp only [List.map_eq_nil_iff, List.filter_eq_nil_iff, List.mem_range, Bool.not_eq_true', decide_eq_false_iff_not, Decidable.not_not]
    intro k hk
    unfold up
    exact List.mem_map.2 ⟨k, List.mem_range.2 hk, by simp⟩
  unfold Ph.gd Ph.wrong Ph.wr
  rw [this]; rfl
/-- What LeastDrops gives. -/
def Ph.dscan (x : Ph) (B : Int) : Option (List Int) × Int := scan x.gd B (tot x.ts.length 0) 0
noncomputable def Ph.dres (x : Ph) (B : Int) : List Int := if x.valid ∧ 1 ≤ B ∧ B ≤ 20000 ∧ ¬ (x.dscan B).2 > B then (x.dscan B).1.getD [] else []
noncomputable def Ph.dcode (x : Ph) (B : Int) : Int := if x.valid then (if 1 ≤ B ∧ B ≤ 20000 then (if (x.dscan B).2 > B then 5 else 0) else 2) else 1
theorem Ph.dres_len (x : Ph) (B : Int) : (x.dres B).length ≤ 24 := by
  unfold Ph.dres
  split
  · rename_i h
    have hE := h.1.2.2.2.2.2
    cases hw : x.dscan B with
    | mk o k =>
      cases o with
      | none => simp
      | some w =>
        have hm := scan_mem (show scan x.gd B (tot x.ts.length 0) 0 = (some w, k) from hw)
        unfold tot at hm
        obtain ⟨m, hm1, hm2⟩ := List.mem_flatMap.1 hm
        have := cb_len _ _ _ w hm2
        have h2 := List.mem_range'.1 hm1
        simp only [Option.getD_some]
        omega
  · simp
end Go.AG
