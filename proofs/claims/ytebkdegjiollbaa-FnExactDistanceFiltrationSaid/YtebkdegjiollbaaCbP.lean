/- All lists of a length, in order: the next one, and the search through them. Plain; no statement is made here. -/
import Derived.Test.YtebkdegjiollbaaIntS
namespace Go.AG
open Go.Proofs Go.Proofs.Ytebkdegjiollbaa
set_option linter.unusedSimpArgs false
set_option linter.unusedVariables false
/-- The lists of m of the d numbers from f on. -/
def cb : Nat → Nat → Nat → List (List Int)
  | 0, _, _ => [[]]
  | _ + 1, 0, _ => []
  | m + 1, d + 1, f => (cb m d (f + 1)).map ((f : Int) :: ·) ++ cb (m + 1) d (f + 1)
theorem cb_zero (d f : Nat) : cb 0 d f = [[]] := by cases d <;> rfl
theorem cb_end (m f : Nat) : cb (m + 1) 0 f = [] := rfl
theorem cb_succ (m d f : Nat) : cb (m + 1) (d + 1) f = (cb m d (f + 1)).map ((f : Int) :: ·) ++ cb (m + 1) d (f + 1) := rfl
theorem cb_len : ∀ (d m f : Nat), ∀ w ∈ cb m d f, w.length = m
  | d, 0, f, w, h => by rw [cb_zero] at h; simp at h; simp [h]
  | 0, m + 1, f, w, h => by simp [cb] at h
  | d + 1, m + 1, f, w, h => by
    rw [cb_succ] at h
    rcases List.mem_append.1 h with h | h
    · obtain ⟨u, hu, rfl⟩ := List.mem_map.1 h
      simp [cb_len d m (f + 1) u hu]
    · exact cb_len d (m + 1) (f + 1) w h
theorem cb_rng : ∀ (d m f : Nat), ∀ w ∈ cb m d f, ∀ c ∈ w, (f : Int) ≤ c ∧ c < (f + d : Nat)
  | d, 0, f, w, h, c, hc => by rw [cb_zero] at h; simp at h; subst h; cases hc
  | 0, m + 1, f, w, h, c, hc => by simp [cb] at h
  | d + 1, m + 1, f, w, h, c, hc => by
    rw [cb_succ] at h
    rcases List.mem_append.1 h with h | h
    · obtain ⟨u, hu, rfl⟩ := List.mem_map.1 h
      rcases List.mem_cons.1 hc with rfl | hc
      · omega
      · have := cb_rng d m (f + 1) u hu c hc; omega
    · have := cb_rng d (m + 1) (f + 1) w h c hc; omega
theorem cb_many : ∀ (d m f : Nat), d < m → cb m d f = []
  | 0, m + 1, f, _ => rfl
  | d + 1, m + 1, f, h => by rw [cb_succ, cb_many d m (f + 1) (by omega), cb_many d (m + 1) (f + 1) (by omega)]; rfl
/-- k numbers from a on. -/
def up (a : Int) (k : Nat) : List Int := (List.range k).map fun (i : Nat) => a + i
theorem up_succ (a : Int) (k : Nat) : up a (k + 1) = a :: up (a + 1) k := by
  unfold up
  rw [List.range_succ_eq_map, List.map_cons, List.map_map]
  congr 1
  · simp
  · apply List.map_congr_left
    intro i _
    simp only [Function.comp_apply]
    omega
theorem up_len (a : Int) (k : Nat) : (up a k).length = k := by simp [up]
theorem cb_head : ∀ (d m f : Nat), m ≤ d → ∃ L, cb m d f = up f m :: L
  | d, 0, f, _ => ⟨[], by rw [cb_zero]; rfl⟩
  | d + 1, m + 1, f, h => by
    obtain ⟨L, e⟩ := cb_head d m (f + 1) (by omega)
    rw [cb_succ, e, up_succ]
    exact ⟨_, rfl⟩
/-- The next list of that many numbers less than E. -/
def nxr (E : Int) : List Int → Option (List Int)
  | [] => none
  | a :: t => match nxr E t with
    | some t' => some (a :: t')
    | none => if a < E - (t.length + 1 : Nat) then some (up (a + 1) (t.length + 1)) else none
theorem nxr_app {E : Int} {q q' : List Int} (h : nxr E q = some q') : ∀ p : List Int, nxr E (p ++ q) = some (p ++ q')
  | [] => h
  | a :: p => by simp only [List.cons_append, nxr, nxr_app h p]
/-- One list after the other. -/
def Lk (E : Int) : List (List Int) → Option (List Int) → Prop
  | [], _ => True
  | [w], t => nxr E w = t
  | w :: w' :: L, t => nxr E w = some w' ∧ Lk E (w' :: L) t
def hdOr (M : List (List Int)) (t : Option (List Int)) : Option (List Int) := match M with
  | [] => t
  | w :: _ => some w
theorem Lk_app {E : Int} {M : List (List Int)} {t : Option (List Int)} (hM : Lk E M t) : ∀ {L : List (List Int)}, Lk E L (hdOr M t) → Lk E (L ++ M) t
  | [], _ => hM
  | [w], h => by
    cases M with
    | nil => exact h
    | cons u M => exact ⟨h, hM⟩
  | w :: w' :: L, h => ⟨h.1, Lk_app hM h.2⟩
theorem Lk_map {E : Int} {f : Int} {m : Nat} : ∀ {L : List (List Int)}, (∀ w ∈ L, w.length = m) → Lk E L none → Lk E (L.map (f :: ·)) (if f < E - (m + 1 : Nat) then some (up (f + 1) (m + 1)) else none)
  | [], _, _ => trivial
  | [w], hl, h => by
    have h : nxr E w = none := h
    have := hl w (by simp)
    show nxr E (f :: w) = _
    simp only [nxr, h, this]
  | w :: w' :: L, hl, h => ⟨by simp only [nxr, h.1], Lk_map (fun u hu => hl u (List.mem_cons_of_mem _ hu)) h.2⟩
theorem cb_lk : ∀ (d m f : Nat), Lk ((f + d : Nat) : Int) (cb m d f) none
  | d, 0, f => by rw [cb_zero]; rfl
  | 0, m + 1, f => trivial
  | d + 1, m + 1, f => by
    have h1 := cb_lk d m (f + 1)
    have h2 := cb_lk d (m + 1) (f + 1)
    rw [show f + 1 + d = f + (d + 1) by omega] at h1 h2
    rw [cb_succ]
    refine Lk_app h2 ?_
    have := Lk_map (f := (f : Int)) (cb_len d m (f + 1)) h1
    rcases Nat.lt_or_ge d (m + 1) with h | h
    · rw [if_neg (by omega)] at this
      rw [cb_many d (m + 1) (f + 1) h]
      exact this
    · rw [if_pos (by omega)] at this
      obtain ⟨L, e⟩ := cb_head d (m + 1) (f + 1) h
      rw [e]
      exact this
/-- The search: the first list that is good, or at which there are too many; and how many were looked at. -/
def scan (good : List Int → Bool) (B : Int) : List (List Int) → Int → Option (List Int) × Int
  | [], k => (none, k)
  | w :: L, k => if k + 1 > B ∨ good w = true then (some w, k + 1) else scan good B L (k + 1)
theorem scan_app {good : List Int → Bool} {B : Int} {M : List (List Int)} : ∀ {L : List (List Int)} {k : Int}, scan good B (L ++ M) k = match scan good B L k with | (some w, k') => (some w, k') | (none, k') => scan good B M k'
  | [], k => rfl
  | w :: L, k => by
    simp only [List.cons_append, scan]
    split
    · rfl
    · exact scan_app
theorem scan_ge {good : List Int → Bool} {B : Int} : ∀ {L : List (List Int)} {k : Int}, k ≤ B → k ≤ (scan good B L k).2 ∧ (scan good B L k).2 ≤ B + 1
  | [], k, hk => by simp only [scan]; omega
  | w :: L, k, hk => by
    simp only [scan]
    split
    · simp only
      omega
    · rename_i h
      have := scan_ge (good := good) (B := B) (L := L) (k := k + 1) (by have := not_or.1 h; omega)
      omega
theorem scan_none {good : List Int → Bool} {B : Int} {k' : Int} : ∀ {L : List (List Int)} {k : Int}, k ≤ B → scan good B L k = (none, k') → k ≤ k' ∧ k' ≤ B
  | [], k, hk, h => by simp [scan] at h; omega
  | u :: L, k, hk, h => by
    simp only [scan] at h
    split at h
    · simp at h
    · rename_i hc
      have := scan_none (by have := not_or.1 hc; omega) h
      omega
theorem scan_mem {good : List Int → Bool} {B : Int} {w : List Int} {k' : Int} : ∀ {L : List (List Int)} {k : Int}, scan good B L k = (some w, k') → w ∈ L
  | [], k, h => by simp [scan] at h
  | u :: L, k, h => by
    simp only [scan] at h
    split at h
    · simp at h; rw [← h.1]; exact List.mem_cons_self ..
    · exact List.mem_cons_of_mem _ (scan_mem h)
/-- All lists of s numbers and more. -/
def tot (E s : Nat) : List (List Int) := (List.range' s (E + 1 - s)).flatMap fun m => cb m E 0
theorem tot_step {E s : Nat} (h : s ≤ E) : tot E s = cb s E 0 ++ tot E (s + 1) := by
  unfold tot
  rw [show E + 1 - s = (E + 1 - (s + 1)) + 1 by omega, List.range'_succ, List.flatMap_cons]
theorem tot_end (E : Nat) : tot E (E + 1) = [] := by simp [tot]
/-- The search comes to an end, if leaving out all is good. -/
theorem scan_tot {good : List Int → Bool} {B : Int} {E : Nat} (hg : good (up 0 E) = true) : ∀ (n s : Nat) (k : Int), E - s = n → s ≤ E → ∃ w k', scan good B (tot E s) k = (some w, k')
  | 0, s, k, hn, hs => by
    obtain rfl : s = E := by omega
    rw [tot_step hs, scan_app]
    obtain ⟨L, e⟩ := cb_head s s 0 (Nat.le_refl _)
    have e : cb s s 0 = up 0 s :: L := e
    rw [e]
    simp only [scan, hg, or_true, if_true]
    exact ⟨_, _, rfl⟩
  | n + 1, s, k, hn, hs => by
    rw [tot_step hs, scan_app]
    obtain ⟨w, k', h⟩ := scan_tot (B := B) hg n (s + 1) (scan good B (cb s E 0) k).2 (by omega) (by omega)
    cases hh : scan good B (cb s E 0) k with
    | mk o k1 =>
      cases o with
      | some w => exact ⟨_, _, rfl⟩
      | none => rw [hh] at h; exact ⟨_, _, h⟩
end Go.AG
