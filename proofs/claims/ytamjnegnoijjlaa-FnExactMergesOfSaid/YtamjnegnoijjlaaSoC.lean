/- Stable order in place: what a merge leaves (plain). No statement is made here. -/
import Derived.Test.YtamjnegnoijjlaaFxHz
namespace Go.AG
open Go.Proofs Go.Proofs.Ytamjnegnoijjlaa
set_option linter.unusedSimpArgs false
set_option linter.unusedVariables false
set_option maxRecDepth 4000
/-- The first n values of a function. -/
def arr (n : Nat) (f : Nat → Int) : List Int := (List.range n).map f
theorem arr_len (n : Nat) (f : Nat → Int) : (arr n f).length = n := by simp [arr]
theorem arr_get {n : Nat} {f : Nat → Int} {p : Nat} (h : p < n) (h2 : p < (arr n f).length) : (arr n f)[p] = f p := by simp [arr]
def updF (f : Nat → Int) (p : Nat) (v : Int) : Nat → Int := fun q => if q = p then v else f q
theorem arr_set (n : Nat) (f : Nat → Int) (p : Nat) (v : Int) : (arr n f).set p v = arr n (updF f p v) := by
  apply List.ext_getElem (by simp [arr])
  intro i h1 h2
  simp only [List.getElem_set, arr, List.getElem_map, List.getElem_range, updF]
  by_cases h : p = i
  · subst h; simp
  · simp [h, Ne.symm h]
/-- Two values exchanged. -/
def swp (f : Nat → Int) (p q : Nat) : Nat → Int := fun i => if i = q then f p else if i = p then f q else f i
theorem arr_swp (n : Nat) (f : Nat → Int) (p q : Nat) : ((arr n f).set p (f q)).set q (f p) = arr n (swp f p q) := by
  rw [arr_set, arr_set]
  congr 1
/-- Two ranges exchanged. -/
def swr (f : Nat → Int) (a b n : Nat) : Nat → Int := fun p => if a ≤ p ∧ p < a + n then f (p - a + b) else if b ≤ p ∧ p < b + n then f (p - b + a) else f p
theorem swr_zero (f : Nat → Int) (a b : Nat) : swr f a b 0 = f := by
  funext p
  unfold swr
  repeat' split
  all_goals first | rfl | (exfalso; omega) | (congr 1; omega)
theorem swr_succ (f : Nat → Int) {a b n : Nat} (h : a + (n + 1) ≤ b) : swp (swr f a b n) (a + n) (b + n) = swr f a b (n + 1) := by
  funext p
  unfold swp swr
  repeat' split
  all_goals first | rfl | (exfalso; omega) | (congr 1; omega)
/-- Two neighbouring ranges change places. -/
def rot (f : Nat → Int) (a m b : Nat) : Nat → Int := fun p => if a ≤ p ∧ p < a + (b - m) then f (p - a + m) else if a + (b - m) ≤ p ∧ p < b then f (p - (b - m)) else f p
theorem rot_eq (f : Nat → Int) {m i : Nat} (h : i ≤ m) : swr f (m - i) m i = rot f (m - i) m (m + i) := by
  funext p
  unfold swr rot
  repeat' split
  all_goals first | rfl | (exfalso; omega) | (congr 1; omega)
theorem rot_gt (f : Nat → Int) {m i j : Nat} (h : i ≤ m) (hij : j < i) : rot (swr f (m - i) m j) (m - (i - j)) m (m + j) = rot f (m - i) m (m + j) := by
  funext p
  unfold rot swr
  repeat' split
  all_goals first | rfl | (exfalso; omega) | (congr 1; omega)
theorem rot_lt (f : Nat → Int) {m i j : Nat} (h : i ≤ m) (hij : i < j) : rot (swr f (m - i) (m + j - i) i) (m - i) m (m + (j - i)) = rot f (m - i) m (m + j) := by
  funext p
  unfold rot swr
  repeat' split
  all_goals first | rfl | (exfalso; omega) | (congr 1; omega)
/-- One function is the other but for the order of a range. -/
def Same (f g : Nat → Int) (a b : Nat) : Prop := (∀ p, ¬ (a ≤ p ∧ p < b) → g p = f p) ∧ (∀ p, a ≤ p → p < b → ∃ q, a ≤ q ∧ q < b ∧ g p = f q) ∧ ∀ p, a ≤ p → p < b → ∃ q, a ≤ q ∧ q < b ∧ f p = g q
theorem Same.refl (f : Nat → Int) (a b : Nat) : Same f f a b := ⟨fun _ _ => rfl, fun p h1 h2 => ⟨p, h1, h2, rfl⟩, fun p h1 h2 => ⟨p, h1, h2, rfl⟩⟩
theorem Same.trans {f g k : Nat → Int} {a b : Nat} (h1 : Same f g a b) (h2 : Same g k a b) : Same f k a b := by
  refine ⟨fun p hp => (h2.1 p hp).trans (h1.1 p hp), fun p ha hb => ?_, fun p ha hb => ?_⟩
  · obtain ⟨q, q1, q2, e⟩ := h2.2.1 p ha hb
    obtain ⟨r, r1, r2, e2⟩ := h1.2.1 q q1 q2
    exact ⟨r, r1, r2, e.trans e2⟩
  · obtain ⟨q, q1, q2, e⟩ := h1.2.2 p ha hb
    obtain ⟨r, r1, r2, e2⟩ := h2.2.2 q q1 q2
    exact ⟨r, r1, r2, e.trans e2⟩
theorem Same.wide {f g : Nat → Int} {a b c d : Nat} (h : Same f g a b) (h1 : c ≤ a) (h2 : b ≤ d) : Same f g c d := by
  refine ⟨fun p hp => h.1 p (by omega), fun p ha hb => ?_, fun p ha hb => ?_⟩
  · by_cases hp : a ≤ p ∧ p < b
    · obtain ⟨q, q1, q2, e⟩ := h.2.1 p hp.1 hp.2
      exact ⟨q, by omega, by omega, e⟩
    · exact ⟨p, ha, hb, h.1 p hp⟩
  · by_cases hp : a ≤ p ∧ p < b
    · obtain ⟨q, q1, q2, e⟩ := h.2.2 p hp.1 hp.2
      exact ⟨q, by omega, by omega, e⟩
    · exact ⟨p, ha, hb, (h.1 p hp).symm⟩
theorem Same.rot (f : Nat → Int) {a m b : Nat} (h1 : a ≤ m) (h2 : m ≤ b) : Same f (rot f a m b) a b := by
  refine ⟨fun p hp => ?_, fun p ha hb => ?_, fun p ha hb => ?_⟩
  · unfold Go.AG.rot
    repeat' split
    all_goals first | rfl | (exfalso; omega)
  · by_cases h : p < a + (b - m)
    · exact ⟨p - a + m, by omega, by omega, by unfold Go.AG.rot; rw [if_pos ⟨ha, h⟩]⟩
    · refine ⟨p - (b - m), by omega, by omega, ?_⟩
      unfold Go.AG.rot
      repeat' split
      all_goals first | rfl | (exfalso; omega)
  · by_cases h : p < m
    · refine ⟨p + (b - m), by omega, by omega, ?_⟩
      unfold Go.AG.rot
      repeat' split
      all_goals first | rfl | (exfalso; omega) | (congr 1; omega)
    · refine ⟨p - m + a, by omega, by omega, ?_⟩
      unfold Go.AG.rot
      repeat' split
      all_goals first | rfl | (exfalso; omega) | (congr 1; omega)
theorem Same.swp (f : Nat → Int) {a b p q : Nat} (h1 : a ≤ p) (h2 : p < b) (h3 : a ≤ q) (h4 : q < b) : Same f (swp f p q) a b := by
  refine ⟨fun i hi => ?_, fun i ha hb => ?_, fun i ha hb => ?_⟩
  · unfold Go.AG.swp; rw [if_neg (by omega), if_neg (by omega)]
  · unfold Go.AG.swp
    split
    · exact ⟨p, h1, h2, rfl⟩
    · split
      · exact ⟨q, h3, h4, rfl⟩
      · exact ⟨i, ha, hb, rfl⟩
  · by_cases e1 : i = p
    · exact ⟨q, h3, h4, by unfold Go.AG.swp; rw [if_pos rfl, e1]⟩
    · by_cases e2 : i = q
      · refine ⟨p, h1, h2, ?_⟩
        unfold Go.AG.swp
        by_cases e3 : p = q
        · rw [if_pos e3, e2, e3]
        · rw [if_neg e3, if_pos rfl, e2]
      · exact ⟨i, ha, hb, by unfold Go.AG.swp; rw [if_neg e2, if_neg e1]⟩
/-- The order: by key, then by number. -/
def lt2 (k : Int → Int) (x y : Int) : Prop := k x < k y ∨ k x = k y ∧ x < y
theorem lt2_trans {k : Int → Int} {x y z : Int} (h1 : lt2 k x y) (h2 : lt2 k y z) : lt2 k x z := by unfold lt2 at *; omega
theorem lt2_irr {k : Int → Int} {x : Int} : ¬ lt2 k x x := by unfold lt2; omega
theorem lt2_tot {k : Int → Int} {x y : Int} (h : ¬ lt2 k x y) (hne : x ≠ y) : lt2 k y x := by unfold lt2 at *; omega
/-- A number that is behind comes ahead only by its key. -/
theorem lt2_key {k : Int → Int} {x y : Int} (h : y < x) : lt2 k x y ↔ k x < k y := by unfold lt2; omega
def Srt2 (k : Int → Int) (f : Nat → Int) (a b : Nat) : Prop := ∀ p q, a ≤ p → p < q → q < b → lt2 k (f p) (f q)
theorem Srt2.sub {k : Int → Int} {f : Nat → Int} {a b c d : Nat} (h : Srt2 k f a b) (h1 : a ≤ c) (h2 : d ≤ b) : Srt2 k f c d := fun p q hp hpq hq => h p q (by omega) hpq (by omega)
theorem Srt2.cong {k : Int → Int} {f g : Nat → Int} {a b : Nat} (h : Srt2 k f a b) (e : ∀ p, a ≤ p → p < b → g p = f p) : Srt2 k g a b := fun p q hp hpq hq => by
  rw [e p hp (by omega), e q (by omega) hq]; exact h p q hp hpq hq
theorem Srt2.join {k : Int → Int} {f : Nat → Int} {a m b : Nat} (h1 : Srt2 k f a m) (h2 : Srt2 k f m b) (h3 : ∀ p q, a ≤ p → p < m → m ≤ q → q < b → lt2 k (f p) (f q)) : Srt2 k f a b := fun p q hp hpq hq => by
  by_cases h : q < m
  · exact h1 p q hp hpq h
  · by_cases h' : p < m
    · exact h3 p q hp h' (by omega) hq
    · exact h2 p q (by omega) hpq hq
abbrev k177_o0 : List AJ := [.o ⟨(some 10), none, false, .mv (.c (.int .i64 0)), (some [0, 1, 2, 3, 10])⟩]
abbrev k177_o1 : List AJ := [.o ⟨(some 11), none, false, .mv (.t 10), none⟩, .o ⟨(some 12), none, false, .mv (.t 3), none⟩, .o ⟨(some 13), none, false, .bin .lss (.t 11) (.t 12), (some [0, 1, 2, 3, 10, 13])⟩]
def k177_2 : ACode := .cond (.t 13) .skip (.exit 0)
def k177_3 : ACode := .seq (.region k177_o1) k177_2
abbrev k177_o2 : List AJ := [.o ⟨(some 16), none, false, .mv (.t 0), none⟩, .o ⟨(some 17), none, false, .mv (.t 1), none⟩, .o ⟨(some 18), none, false, .mv (.t 10), none⟩, .o ⟨(some 19), none, true, .bin .add (.t 17) (.t 18), none⟩, .o ⟨(some 20), none, false, .mv (.t 0), none⟩, .o ⟨(some 21), none, false, .mv (.t 2), none⟩, .o ⟨(some 22), none, false, .mv (.t 10), none⟩, .o ⟨(some 23), none, true, .bin .add (.t 21) (.t 22), none⟩, .o ⟨(some 24), none, false, .mv (.t 0), none⟩, .o ⟨(some 25), none, false, .mv (.t 2), none⟩, .o ⟨(some 26), none, false, .mv (.t 10), none⟩, .o ⟨(some 27), none, true, .bin .add (.t 25) (.t 26), none⟩, .o ⟨(some 28), none, false, .idxA 1 (.t 24) (.t 27), none⟩, .o ⟨(some 29), none, false, .load 1 false (.t 28), (some [0, 1, 2, 3, 10, 16, 19, 20, 23, 29])⟩, .o ⟨(some 30), none, false, .mv (.t 0), none⟩, .o ⟨(some 31), none, false, .mv (.t 1), none⟩, .o ⟨(some 32), none, false, .mv (.t 10), none⟩, .o ⟨(some 33), none, true, .bin .add (.t 31) (.t 32), none⟩, .o ⟨(some 34), none, false, .idxA 1 (.t 30) (.t 33), none⟩, .o ⟨(some 35), none, false, .load 1 false (.t 34), none⟩, .o ⟨(some 36), none, false, .idxA 1 (.t 16) (.t 19), none⟩, .o ⟨none, none, false, .store 1 (.t 36) (.t 29), none⟩, .o ⟨(some 37), none, false, .idxA 1 (.t 20) (.t 23), none⟩, .o ⟨none, none, false, .store 1 (.t 37) (.t 35), (some [0, 1, 2, 3, 10])⟩]
def k177_4 : ACode := .drawT 0 k177_o2 rfl
abbrev k177_o3 : List AJ := [.o ⟨(some 14), none, false, .mv (.t 10), none⟩, .o ⟨(some 15), none, true, .bin .add (.t 14) (.c (.int .i64 1)), none⟩, .o ⟨(some 10), none, false, .mv (.t 15), (some [0, 1, 2, 3, 10])⟩]
def k177_6 : ACode := .region k177_o3
def k177_7 : ACode := .seq (.block 1 k177_4) k177_6
def k177_8 : ACode := .seq k177_3 k177_7
def k177_9 : ACode := .loop k177_8
def k177_10 : ACode := .block 0 k177_9
def k177_11 : ACode := .seq (.region k177_o0) k177_10
@[simp, simp ↓] theorem k177_2r : rC k177_2 (.t 13) .skip (.exit 0) := zC rfl
@[simp, simp ↓] theorem k177_3r : sR k177_3 k177_o1 k177_2 := yR rfl
@[simp, simp ↓] theorem k177_4r : rT k177_4 k177_o2 := zT rfl
@[simp, simp ↓] theorem k177_6r : rR k177_6 k177_o3 := zR rfl
@[simp, simp ↓] theorem k177_7r : sB k177_7 1 k177_4 k177_6 := yB rfl
@[simp, simp ↓] theorem k177_8r : rS k177_8 k177_3 k177_7 := zS rfl
@[simp, simp ↓] theorem k177_9r : rL k177_9 k177_8 := zL rfl
@[simp, simp ↓] theorem k177_10r : rB k177_10 0 k177_9 := zB rfl
@[simp, simp ↓] theorem k177_11r : sR k177_11 k177_o0 k177_10 := yR rfl
noncomputable abbrev k177_C : Orc → Cx := mkC Try.prog [] 177 38 []
theorem k177_of0 : OfP0 Try.prog Try.f177 177 38 k177_C k177_11 := @ofP0 _ _ _ _ _ _ _ _ Try.func177 (by decide +kernel) rfl (by kernel_rfl) rfl (by kernel_rfl)
theorem swr_s {id n : Nat} {f : Nat → Int} {tl : Heap} {c : AV} (hn : n ≤ 1048576) (a b m : Nat) (h1 : a + m ≤ b) (h2 : b + m ≤ n) : ACalls Try.prog 177 [.sl id 1 0 n none, .int .i64 a, .int .i64 b, .int .i64 m, c] ((id, ⟨1, (arr n f).map iv⟩) :: tl) (fun v h' => v = .tup [] ∧ h' = (id, ⟨1, (arr n (swr f a b m)).map iv⟩) :: tl) := by
  refine k177_of0 rfl noPure fun I => ?_
  refine Run2.of I 1000 ?_
  simp -implicitDefEqProofs
  refine Run2.loopE (fun (i : Nat) => [(0, .sl id 1 0 n none), (1, .int .i64 a), (2, .int .i64 b), (3, .int .i64 m), (10, .int .i64 i)]) (fun i => (id, ⟨1, (arr n (swr f a b i)).map iv⟩) :: tl) (fun i => m - i) (fun i => i ≤ m) 0 (by simp) (by simp [swr_zero]) (Nat.zero_le _) fun i hi ih => ?_
  by_cases hlt : i < m
  · have go := ih (i + 1) hlt (by omega)
    rw [← swr_succ f (by omega : a + (i + 1) ≤ b), ← arr_swp] at go
    clear ih
    generalize swr f a b i = S at *
    have hl := arr_len n S
    have q1 : a + i < (arr n S).length := by omega
    have q2 : b + i < (arr n S).length := by omega
    have e1 : (arr n S)[a + i] = S (a + i) := arr_get (by omega) q1
    have e2 : (arr n S)[b + i] = S (b + i) := arr_get (by omega) q2
    have q3 : a + i < n := by omega
    have q4 : b + i < n := by omega
    have q5 : (a : Int) + i < n := by omega
    have q6 : (b : Int) + i < n := by omega
    have t1 : ((a : Int) + i).toNat = a + i := by omega
    have t2 : ((b : Int) + i).toNat = b + i := by omega
    generalize arr n S = F at *
    refine Run2.of I 1000 ?_
    simp -implicitDefEqProofs [hlt, q1, q2, e1, e2, q3, q4, q5, q6, t1, t2]
    repeat' (first | refine And.intro ?_ ?_ | intro _)
    all_goals first | omega | (simpa [List.map_set] using go)
  · obtain rfl : i = m := by omega
    refine Run2.of I 1000 ?_
    simp -implicitDefEqProofs [hlt]
abbrev k174_o0 : List AJ := [.o ⟨(some 12), none, false, .mv (.t 2), none⟩, .o ⟨(some 13), none, false, .mv (.t 1), none⟩, .o ⟨(some 14), none, true, .bin .sub (.t 12) (.t 13), none⟩, .o ⟨(some 10), none, false, .mv (.t 14), (some [0, 2, 3, 4, 10])⟩]
abbrev k174_o1 : List AJ := [.o ⟨(some 15), none, false, .mv (.t 3), none⟩, .o ⟨(some 16), none, false, .mv (.t 2), none⟩, .o ⟨(some 17), none, true, .bin .sub (.t 15) (.t 16), none⟩, .o ⟨(some 11), none, false, .mv (.t 17), (some [0, 2, 4, 10, 11])⟩]
abbrev k174_o2 : List AJ := [.o ⟨(some 18), none, false, .mv (.t 10), none⟩, .o ⟨(some 19), none, false, .mv (.t 11), none⟩, .o ⟨(some 20), none, false, .bin .neq (.t 18) (.t 19), (some [0, 2, 4, 10, 11, 20])⟩]
def k174_3 : ACode := .cond (.t 20) .skip (.exit 0)
def k174_4 : ACode := .seq (.region k174_o2) k174_3
abbrev k174_o3 : List AJ := [.o ⟨(some 21), none, false, .mv (.t 10), none⟩, .o ⟨(some 22), none, false, .mv (.t 11), none⟩, .o ⟨(some 23), none, false, .bin .gtr (.t 21) (.t 22), (some [0, 2, 4, 10, 11, 23])⟩]
abbrev k174_o4 : List AJ := [.o ⟨(some 24), none, false, .mv (.t 0), none⟩, .o ⟨(some 25), none, false, .mv (.t 2), none⟩, .o ⟨(some 26), none, false, .mv (.t 10), none⟩, .o ⟨(some 27), none, true, .bin .sub (.t 25) (.t 26), none⟩, .o ⟨(some 28), none, false, .mv (.t 2), none⟩, .o ⟨(some 29), none, false, .mv (.t 11), none⟩, .o ⟨(some 30), none, false, .mv (.t 4), none⟩, .o ⟨(some 31), none, false, .call 177 [(.t 24), (.t 27), (.t 28), (.t 29), (.t 30)], (some [0, 2, 4, 10, 11])⟩]
abbrev k174_o5 : List AJ := [.o ⟨(some 32), none, false, .mv (.t 10), none⟩, .o ⟨(some 33), none, false, .mv (.t 11), none⟩, .o ⟨(some 34), none, true, .bin .sub (.t 32) (.t 33), none⟩, .o ⟨(some 10), none, false, .mv (.t 34), (some [0, 2, 4, 10, 11])⟩]
def k174_7 : ACode := .region k174_o5
def k174_8 : ACode := .seq (.region k174_o4) k174_7
abbrev k174_o6 : List AJ := [.o ⟨(some 35), none, false, .mv (.t 0), none⟩, .o ⟨(some 36), none, false, .mv (.t 2), none⟩, .o ⟨(some 37), none, false, .mv (.t 10), none⟩, .o ⟨(some 38), none, true, .bin .sub (.t 36) (.t 37), none⟩, .o ⟨(some 39), none, false, .mv (.t 2), none⟩, .o ⟨(some 40), none, false, .mv (.t 11), none⟩, .o ⟨(some 41), none, true, .bin .add (.t 39) (.t 40), none⟩, .o ⟨(some 42), none, false, .mv (.t 10), none⟩, .o ⟨(some 43), none, true, .bin .sub (.t 41) (.t 42), none⟩, .o ⟨(some 44), none, false, .mv (.t 10), none⟩, .o ⟨(some 45), none, false, .mv (.t 4), none⟩, .o ⟨(some 46), none, false, .call 177 [(.t 35), (.t 38), (.t 43), (.t 44), (.t 45)], (some [0, 2, 4, 10, 11])⟩]
abbrev k174_o7 : List AJ := [.o ⟨(some 47), none, false, .mv (.t 11), none⟩, .o ⟨(some 48), none, false, .mv (.t 10), none⟩, .o ⟨(some 49), none, true, .bin .sub (.t 47) (.t 48), none⟩, .o ⟨(some 11), none, false, .mv (.t 49), (some [0, 2, 4, 10, 11])⟩]
def k174_10 : ACode := .region k174_o7
def k174_11 : ACode := .seq (.region k174_o6) k174_10
def k174_12 : ACode := .cond (.t 23) k174_8 k174_11
def k174_13 : ACode := .seq (.region k174_o3) k174_12
def k174_14 : ACode := .block 1 k174_13
def k174_15 : ACode := .seq k174_4 k174_14
def k174_16 : ACode := .loop k174_15
abbrev k174_o8 : List AJ := [.o ⟨(some 50), none, false, .mv (.t 0), none⟩, .o ⟨(some 51), none, false, .mv (.t 2), none⟩, .o ⟨(some 52), none, false, .mv (.t 10), none⟩, .o ⟨(some 53), none, true, .bin .sub (.t 51) (.t 52), none⟩, .o ⟨(some 54), none, false, .mv (.t 2), none⟩, .o ⟨(some 55), none, false, .mv (.t 10), none⟩, .o ⟨(some 56), none, false, .mv (.t 4), none⟩, .o ⟨(some 57), none, false, .call 177 [(.t 50), (.t 53), (.t 54), (.t 55), (.t 56)], (some [])⟩]
def k174_18 : ACode := .region k174_o8
def k174_19 : ACode := .seq (.block 0 k174_16) k174_18
def k174_20 : ACode := .seq (.region k174_o1) k174_19
def k174_21 : ACode := .seq (.region k174_o0) k174_20
@[simp, simp ↓] theorem k174_3r : rC k174_3 (.t 20) .skip (.exit 0) := zC rfl
@[simp, simp ↓] theorem k174_4r : sR k174_4 k174_o2 k174_3 := yR rfl
@[simp, simp ↓] theorem k174_7r : rR k174_7 k174_o5 := zR rfl
@[simp, simp ↓] theorem k174_8r : sR k174_8 k174_o4 k174_7 := yR rfl
@[simp, simp ↓] theorem k174_10r : rR k174_10 k174_o7 := zR rfl
@[simp, simp ↓] theorem k174_11r : sR k174_11 k174_o6 k174_10 := yR rfl
@[simp, simp ↓] theorem k174_12r : rC k174_12 (.t 23) k174_8 k174_11 := zC rfl
@[simp, simp ↓] theorem k174_13r : sR k174_13 k174_o3 k174_12 := yR rfl
@[simp, simp ↓] theorem k174_14r : rB k174_14 1 k174_13 := zB rfl
@[simp, simp ↓] theorem k174_15r : rS k174_15 k174_4 k174_14 := zS rfl
@[simp, simp ↓] theorem k174_16r : rL k174_16 k174_15 := zL rfl
@[simp, simp ↓] theorem k174_18r : rR k174_18 k174_o8 := zR rfl
@[simp, simp ↓] theorem k174_19r : sB k174_19 0 k174_16 k174_18 := yB rfl
@[simp, simp ↓] theorem k174_20r : sR k174_20 k174_o1 k174_19 := yR rfl
@[simp, simp ↓] theorem k174_21r : sR k174_21 k174_o0 k174_20 := yR rfl
noncomputable abbrev k174_C : Orc → Cx := mkC Try.prog [] 174 58 []
theorem k174_of0 : OfP0 Try.prog Try.f174 174 58 k174_C k174_21 := @ofP0 _ _ _ _ _ _ _ _ Try.func174 (by decide +kernel) rfl (by kernel_rfl) rfl (by kernel_rfl)
theorem rot_s {id n : Nat} {f : Nat → Int} {tl : Heap} {c : AV} (hn : n ≤ 1048576) (a m b : Nat) (h1 : a < m) (h2 : m < b) (h3 : b ≤ n) : ACalls Try.prog 174 [.sl id 1 0 n none, .int .i64 a, .int .i64 m, .int .i64 b, c] ((id, ⟨1, (arr n f).map iv⟩) :: tl) (fun v h' => v = .tup [] ∧ h' = (id, ⟨1, (arr n (rot f a m b)).map iv⟩) :: tl) := by
  refine k174_of0 rfl noPure fun I => ?_
  refine Run2.of I 1000 ?_
  simp -implicitDefEqProofs
  have e1 : (m : Int) - a = (m - a : Nat) := by omega
  have e2 : (b : Int) - m = (b - m : Nat) := by omega
  rw [e1, e2]
  refine ⟨by omega, by omega, ?_⟩
  refine Run2.loopE (α := Nat × Nat × (Nat → Int)) (fun p => [(0, .sl id 1 0 n none), (2, .int .i64 m), (4, c), (10, .int .i64 p.1), (11, .int .i64 p.2.1)]) (fun p => (id, ⟨1, (arr n p.2.2).map iv⟩) :: tl) (fun p => p.1 + p.2.1) (fun p => 0 < p.1 ∧ 0 < p.2.1 ∧ p.1 ≤ m ∧ m + p.2.1 ≤ n ∧ rot p.2.2 (m - p.1) m (m + p.2.1) = rot f a m b) (m - a, b - m, f) (by simp) rfl ⟨by simp only; omega, by simp only; omega, by simp only; omega, by simp only; omega, by simp only; rw [show m - (m - a) = a by omega, show m + (b - m) = b by omega]⟩ ?_
  rintro ⟨i, j, g⟩ ⟨hi, hj, him, hjn, hr⟩ ih
  simp only at hi hj him hjn hr
  by_cases hij : i = j
  · subst hij
    have := swr_s (id := id) (n := n) (f := g) (tl := tl) (c := c) hn (m - i) m i (by omega) hjn
    rw [rot_eq g him, hr] at this
    have t1 : (m : Int) - i = (m - i : Nat) := by omega
    clear ih
    refine Run2.of I 1000 ?_
    simp -implicitDefEqProofs [t1]
    refine ⟨by omega, this.mono ?_⟩
    rintro v h' ⟨rfl, rfl⟩
    refine gK.go ?_
    simp -implicitDefEqProofs
  · have hijI : ¬ (i : Int) = j := by omega
    by_cases hgt : j < i
    · have go := ih (i - j, j, swr g (m - i) m j) ⟨by simp only; omega, hj, by simp only; omega, hjn, by simp only; rw [rot_gt g him hgt, hr]⟩ (by simp only; omega)
      have := swr_s (id := id) (n := n) (f := g) (tl := tl) (c := c) hn (m - i) m j (by omega) hjn
      have t1 : (m : Int) - i = (m - i : Nat) := by omega
      have t2 : (i : Int) - j = (i - j : Nat) := by omega
      clear ih
      refine Run2.of I 1000 ?_
      simp -implicitDefEqProofs [t1, t2, hijI, hgt]
      refine ⟨by omega, this.mono ?_⟩
      rintro v h' ⟨rfl, rfl⟩
      refine gK.go ?_
      simp -implicitDefEqProofs [t1, t2]
      repeat' (first | refine And.intro ?_ ?_ | intro _)
      all_goals first | omega | exact go
    · have hlt : i < j := by omega
      have go := ih (i, j - i, swr g (m - i) (m + j - i) i) ⟨hi, by simp only; omega, him, by simp only; omega, by simp only; rw [rot_lt g him hlt, hr]⟩ (by simp only; omega)
      have := swr_s (id := id) (n := n) (f := g) (tl := tl) (c := c) hn (m - i) (m + j - i) i (by omega) (by omega)
      have t1 : (m : Int) - i = (m - i : Nat) := by omega
      have t2 : (j : Int) - i = (j - i : Nat) := by omega
      have t3 : (m : Int) + j - i = (m + j - i : Nat) := by omega
      clear ih
      refine Run2.of I 1000 ?_
      simp -implicitDefEqProofs [t1, t2, t3, hijI, hgt]
      refine ⟨by omega, by omega, by omega, this.mono ?_⟩
      rintro v h' ⟨rfl, rfl⟩
      refine gK.go ?_
      simp -implicitDefEqProofs [t1, t2, t3]
      repeat' (first | refine And.intro ?_ ?_ | intro _)
      all_goals first | omega | exact go
/-- A comparison of keys, as a function value. -/
structure Cm (P : Program) (g : FuncId) (caps : List AV) (k : Int → Int) (dm : Int → Prop) : Prop where
  call : ∀ x y H, dm x → dm y → ∃ r : Int, (r < 0 ↔ k x < k y) ∧ ACalls P g (.int .i64 x :: .int .i64 y :: caps) H (fun v h' => v = .int .i64 r ∧ h' = H)
theorem Same.dm {f g : Nat → Int} {a b n : Nat} {dm : Int → Prop} (h : Same f g a b) (hb : b ≤ n) (hd : ∀ p, p < n → dm (f p)) : ∀ p, p < n → dm (g p) := fun p hp => by
  by_cases hp2 : a ≤ p ∧ p < b
  · obtain ⟨q, q1, q2, e⟩ := h.2.1 p hp2.1 hp2.2
    rw [e]; exact hd q (by omega)
  · rw [h.1 p hp2]; exact hd p hp
/-- A range in order, the rest as it was. -/
def OutS (k : Int → Int) (id n : Nat) (f : Nat → Int) (tl : Heap) (a b : Nat) (v : AV) (h' : Heap) : Prop := ∃ f', Same f f' a b ∧ Srt2 k f' a b ∧ v = .tup [] ∧ h' = (id, ⟨1, (arr n f').map iv⟩) :: tl
abbrev k164_o0 : List AJ := [.o ⟨(some 10), none, false, .mv (.t 1), none⟩, .o ⟨(some 11), none, true, .bin .add (.t 10) (.c (.int .i64 1)), none⟩, .o ⟨(some 8), none, false, .mv (.t 11), (some [0, 1, 2, 3, 8])⟩]
abbrev k164_o1 : List AJ := [.o ⟨(some 12), none, false, .mv (.t 8), none⟩, .o ⟨(some 13), none, false, .mv (.t 2), none⟩, .o ⟨(some 14), none, false, .bin .lss (.t 12) (.t 13), (some [0, 1, 2, 3, 8, 14])⟩]
def k164_2 : ACode := .cond (.t 14) .skip (.exit 0)
def k164_3 : ACode := .seq (.region k164_o1) k164_2
abbrev k164_o2 : List AJ := [.o ⟨(some 17), none, false, .mv (.t 8), none⟩, .o ⟨(some 9), none, false, .mv (.t 17), (some [0, 1, 2, 3, 8, 9])⟩]
abbrev k164_o3 : List AI := [⟨(some 18), none, false, .mv (.t 9), none⟩, ⟨(some 19), none, false, .mv (.t 1), none⟩, ⟨(some 20), none, false, .bin .gtr (.t 18) (.t 19), none⟩, ⟨(some 21), none, false, .mv (.t 20), none⟩, ⟨(some 22), (some (21, true)), false, .mv (.t 3), none⟩, ⟨(some 23), (some (21, true)), false, .mv (.t 0), none⟩, ⟨(some 24), (some (21, true)), false, .mv (.t 9), none⟩, ⟨(some 25), (some (21, true)), false, .idxA 1 (.t 23) (.t 24), none⟩, ⟨(some 26), (some (21, true)), false, .load 1 false (.t 25), (some [0, 1, 2, 3, 8, 9, 21, 22, 26])⟩, ⟨(some 27), (some (21, true)), false, .mv (.t 0), none⟩, ⟨(some 28), (some (21, true)), false, .mv (.t 9), none⟩, ⟨(some 29), (some (21, true)), true, .bin .sub (.t 28) (.c (.int .i64 1)), none⟩, ⟨(some 30), (some (21, true)), false, .idxA 1 (.t 27) (.t 29), none⟩, ⟨(some 31), (some (21, true)), false, .load 1 false (.t 30), none⟩, ⟨(some 32), (some (21, true)), false, .callv (.t 22) [(.t 26), (.t 31)], none⟩, ⟨(some 33), (some (21, true)), false, .bin .lss (.t 32) (.c (.int .i64 0)), (some [0, 1, 2, 3, 8, 9, 21, 33])⟩, ⟨(some 34), none, false, .pick (.t 21) (.t 33) (.c (.bool false)), (some [0, 1, 2, 3, 8, 9, 34])⟩]
def k164_6 : ACode := .cond (.t 34) .skip (.exit 2)
def k164_7 : ACode := .seq (.draw k164_o3 [] rfl) k164_6
abbrev k164_o4 : List AJ := [.o ⟨(some 37), none, false, .mv (.t 0), none⟩, .o ⟨(some 38), none, false, .mv (.t 9), none⟩, .o ⟨(some 39), none, false, .mv (.t 0), none⟩, .o ⟨(some 40), none, false, .mv (.t 9), none⟩, .o ⟨(some 41), none, true, .bin .sub (.t 40) (.c (.int .i64 1)), none⟩, .o ⟨(some 42), none, false, .mv (.t 0), none⟩, .o ⟨(some 43), none, false, .mv (.t 9), none⟩, .o ⟨(some 44), none, true, .bin .sub (.t 43) (.c (.int .i64 1)), none⟩, .o ⟨(some 45), none, false, .idxA 1 (.t 42) (.t 44), none⟩, .o ⟨(some 46), none, false, .load 1 false (.t 45), none⟩, .o ⟨(some 47), none, false, .mv (.t 0), none⟩, .o ⟨(some 48), none, false, .mv (.t 9), none⟩, .o ⟨(some 49), none, false, .idxA 1 (.t 47) (.t 48), none⟩, .o ⟨(some 50), none, false, .load 1 false (.t 49), (some [0, 1, 2, 3, 8, 9, 37, 38, 39, 41, 46, 50])⟩, .o ⟨(some 51), none, false, .idxA 1 (.t 37) (.t 38), none⟩, .o ⟨none, none, false, .store 1 (.t 51) (.t 46), none⟩, .o ⟨(some 52), none, false, .idxA 1 (.t 39) (.t 41), none⟩, .o ⟨none, none, false, .store 1 (.t 52) (.t 50), (some [0, 1, 2, 3, 8, 9])⟩]
def k164_8 : ACode := .drawT 0 k164_o4 rfl
abbrev k164_o5 : List AJ := [.o ⟨(some 35), none, false, .mv (.t 9), none⟩, .o ⟨(some 36), none, true, .bin .sub (.t 35) (.c (.int .i64 1)), none⟩, .o ⟨(some 9), none, false, .mv (.t 36), (some [0, 1, 2, 3, 8, 9])⟩]
def k164_10 : ACode := .region k164_o5
def k164_11 : ACode := .seq (.block 3 k164_8) k164_10
def k164_12 : ACode := .seq k164_7 k164_11
def k164_13 : ACode := .loop k164_12
def k164_14 : ACode := .block 2 k164_13
def k164_15 : ACode := .seq (.region k164_o2) k164_14
abbrev k164_o6 : List AJ := [.o ⟨(some 15), none, false, .mv (.t 8), none⟩, .o ⟨(some 16), none, true, .bin .add (.t 15) (.c (.int .i64 1)), none⟩, .o ⟨(some 8), none, false, .mv (.t 16), (some [0, 1, 2, 3, 8])⟩]
def k164_17 : ACode := .region k164_o6
def k164_18 : ACode := .seq (.block 1 k164_15) k164_17
def k164_19 : ACode := .seq k164_3 k164_18
def k164_20 : ACode := .loop k164_19
def k164_21 : ACode := .block 0 k164_20
def k164_22 : ACode := .seq (.region k164_o0) k164_21
@[simp, simp ↓] theorem k164_2r : rC k164_2 (.t 14) .skip (.exit 0) := zC rfl
@[simp, simp ↓] theorem k164_3r : sR k164_3 k164_o1 k164_2 := yR rfl
@[simp, simp ↓] theorem k164_6r : rC k164_6 (.t 34) .skip (.exit 2) := zC rfl
@[simp, simp ↓] theorem k164_7r : sD k164_7 k164_o3 [] k164_6 := yD rfl
@[simp, simp ↓] theorem k164_8r : rT k164_8 k164_o4 := zT rfl
@[simp, simp ↓] theorem k164_10r : rR k164_10 k164_o5 := zR rfl
@[simp, simp ↓] theorem k164_11r : sB k164_11 3 k164_8 k164_10 := yB rfl
@[simp, simp ↓] theorem k164_12r : rS k164_12 k164_7 k164_11 := zS rfl
@[simp, simp ↓] theorem k164_13r : rL k164_13 k164_12 := zL rfl
@[simp, simp ↓] theorem k164_14r : rB k164_14 2 k164_13 := zB rfl
@[simp, simp ↓] theorem k164_15r : sR k164_15 k164_o2 k164_14 := yR rfl
@[simp, simp ↓] theorem k164_17r : rR k164_17 k164_o6 := zR rfl
@[simp, simp ↓] theorem k164_18r : sB k164_18 1 k164_15 k164_17 := yB rfl
@[simp, simp ↓] theorem k164_19r : rS k164_19 k164_3 k164_18 := zS rfl
@[simp, simp ↓] theorem k164_20r : rL k164_20 k164_19 := zL rfl
@[simp, simp ↓] theorem k164_21r : rB k164_21 0 k164_20 := zB rfl
@[simp, simp ↓] theorem k164_22r : sR k164_22 k164_o0 k164_21 := yR rfl
noncomputable abbrev k164_C : Orc → Cx := mkC Try.prog [] 164 53 []
theorem k164_of0 : OfP0 Try.prog Try.f164 164 53 k164_C k164_22 := @ofP0 _ _ _ _ _ _ _ _ Try.func164 (by decide +kernel) rfl (by kernel_rfl) rfl (by kernel_rfl)
theorem ins_s {id n : Nat} {f : Nat → Int} {tl : Heap} {g : FuncId} {caps : List AV} {k : Int → Int} {dm : Int → Prop} (C : Cm Try.prog g caps k dm) (hn : n ≤ 1048576) (hd : ∀ p, p < n → dm (f p)) (a b : Nat) (h1 : a ≤ b) (h2 : b ≤ n) (hf : ∀ p q, a ≤ p → p < q → q < b → f p < f q) : ACalls Try.prog 164 [.sl id 1 0 n none, .int .i64 a, .int .i64 b, .fn g caps] ((id, ⟨1, (arr n f).map iv⟩) :: tl) (OutS k id n f tl a b) := by
  refine k164_of0 rfl noPure fun I => ?_
  by_cases hab : a = b
  · subst hab
    refine Run2.of I 1000 ?_
    simp -implicitDefEqProofs
    refine ⟨by omega, ?_⟩
    refine Run2.loopE (fun (_ : Unit) => [(0, .sl id 1 0 n none), (1, .int .i64 a), (2, .int .i64 a), (3, .fn g caps), (8, .int .i64 (a + 1 : Int))]) (fun _ => (id, ⟨1, (arr n f).map iv⟩) :: tl) (fun _ => 0) (fun _ => True) () (by simp) rfl trivial fun _ _ _ => ?_
    refine Run2.of I 1000 ?_
    simp -implicitDefEqProofs
    repeat' (first | refine And.intro ?_ ?_ | intro _)
    all_goals first | (exfalso; omega) | exact ⟨f, Same.refl f a a, fun p q h1 h2 h3 => by omega, rfl, rfl⟩
  · refine Run2.of I 1000 ?_
    simp -implicitDefEqProofs
    refine ⟨by omega, ?_⟩
    refine Run2.loopE (α := Nat × (Nat → Int)) (fun p => [(0, .sl id 1 0 n none), (1, .int .i64 a), (2, .int .i64 b), (3, .fn g caps), (8, .int .i64 p.1)]) (fun p => (id, ⟨1, (arr n p.2).map iv⟩) :: tl) (fun p => b - p.1) (fun p => a + 1 ≤ p.1 ∧ p.1 ≤ b ∧ Same f p.2 a p.1 ∧ Srt2 k p.2 a p.1) (a + 1, f) (by simp) rfl ⟨Nat.le_refl _, by simp only; omega, Same.refl .., fun p q h1 h2 h3 => by omega⟩ ?_
    rintro ⟨i, f1⟩ ⟨hi1, hi2, hs, hso⟩ ih
    simp only at hi1 hi2 hs hso
    by_cases hlt : i < b
    · have hkeep : f1 i = f i := hs.1 i (by omega)
      have hlow : ∀ p, a ≤ p → p < i → f1 p < f1 i := fun p hp hpi => by
        obtain ⟨q, q1, q2, e⟩ := hs.2.1 p hp hpi
        rw [e, hkeep]; exact hf q i q1 q2 hlt
      have go := fun f' (h1 : Same f1 f' a (i + 1)) (h2 : Srt2 k f' a (i + 1)) => ih (i + 1, f') ⟨by simp only; omega, hlt, (hs.wide (Nat.le_refl _) (by simp)).trans h1, h2⟩ (by simp only; omega)
      clear ih
      refine Run2.of I 1000 ?_
      simp -implicitDefEqProofs [hlt]
      refine Run2.loopE (α := Nat × (Nat → Int)) (fun p => [(0, .sl id 1 0 n none), (1, .int .i64 a), (2, .int .i64 b), (3, .fn g caps), (8, .int .i64 i), (9, .int .i64 p.1)]) (fun p => (id, ⟨1, (arr n p.2).map iv⟩) :: tl) (fun p => p.1) (fun p => a ≤ p.1 ∧ p.1 ≤ i ∧ Same f1 p.2 a (i + 1) ∧ p.2 p.1 = f1 i ∧ (∀ q, a ≤ q → q ≤ i → q ≠ p.1 → p.2 q < f1 i) ∧ (∀ q, p.1 < q → q ≤ i → lt2 k (f1 i) (p.2 q)) ∧ ∀ q r, a ≤ q → q < r → r ≤ i → q ≠ p.1 → r ≠ p.1 → lt2 k (p.2 q) (p.2 r)) (i, f1) (by simp) rfl ⟨by simp only; omega, Nat.le_refl _, Same.refl .., rfl, fun q h1 h2 h3 => hlow q h1 (by simp only at h3; omega), fun q h1 h2 => by simp only at h1; omega, fun q r h1 h2 h3 h4 h5 => hso q r h1 h2 (by simp only at h5; omega)⟩ ?_
      rintro ⟨j, f2⟩ ⟨hj1, hj2, hs2, hx, hidx, hgt, hoth⟩ ih
      simp only at hj1 hj2 hs2 hx hidx hgt hoth
      have fin : (a < j → ¬ lt2 k (f1 i) (f2 (j - 1))) → Srt2 k f2 a (i + 1) := by
        intro hno q r hq hqr hr
        by_cases hqj : q = j
        · subst hqj; rw [hx]; exact hgt r hqr (by omega)
        · by_cases hrj : r = j
          · subst hrj
            rw [hx]
            have h3 := hno (by omega)
            have h4 := lt2_tot h3 (by have := hidx (r - 1) (by omega) (by omega) (by omega); omega)
            by_cases hq1 : q = r - 1
            · rw [hq1]; exact h4
            · exact lt2_trans (hoth q (r - 1) hq (by omega) (by omega) hqj (by omega)) h4
          · exact hoth q r hq hqr (by omega) hqj hrj
      by_cases hja : a < j
      · have hj1i : f2 (j - 1) < f1 i := hidx (j - 1) (by omega) (by omega) (by omega)
        have hkey := lt2_key (k := k) hj1i
        have hdm : ∀ p, p < n → dm (f2 p) := hs2.dm (by omega) (hs.dm (by omega) hd)
        obtain ⟨r, hr, hcall⟩ := C.call (f2 j) (f2 (j - 1)) ((id, ⟨1, (arr n f2).map iv⟩) :: tl) (hdm j (by omega)) (hdm (j - 1) (by omega))
        rw [hx] at hr
        have hl := arr_len n f2
        have q1 : j < (arr n f2).length := by omega
        have q2 : j - 1 < (arr n f2).length := by omega
        have e1 : (arr n f2)[j] = f2 j := arr_get (by omega) q1
        have e2 : (arr n f2)[j - 1] = f2 (j - 1) := arr_get (by omega) q2
        have q3 : j < n := by omega
        have q4 : j - 1 < n := by omega
        have t1 : (j : Int) - 1 = (j - 1 : Nat) := by omega
        have hsw := arr_swp n f2 j (j - 1)
        by_cases hlt2 : lt2 k (f1 i) (f2 (j - 1))
        · have hr0 : r < 0 := hr.2 (hkey.1 hlt2)
          have go := ih (j - 1, swp f2 j (j - 1)) ⟨by simp only; omega, by simp only; omega, hs2.trans (Same.swp f2 (by omega) (by omega) (by omega) (by omega)), by simp [swp, hx], fun q h1 h2 h3 => by
            simp only at h3
            show swp f2 j (j - 1) q < f1 i
            unfold swp
            rw [if_neg h3]
            by_cases hqj : q = j
            · rw [if_pos hqj]; exact hj1i
            · rw [if_neg hqj]; exact hidx q h1 h2 hqj, fun q h1 h2 => by
            simp only at h1
            show lt2 k (f1 i) (swp f2 j (j - 1) q)
            unfold swp
            rw [if_neg (by omega)]
            by_cases hqj : q = j
            · rw [if_pos hqj]; exact hlt2
            · rw [if_neg hqj]; exact hgt q (by omega) h2, fun q r h1 h2 h3 h4 h5 => by
            simp only at h4 h5
            show lt2 k (swp f2 j (j - 1) q) (swp f2 j (j - 1) r)
            unfold swp
            rw [if_neg h4, if_neg h5]
            by_cases hqj : q = j
            · rw [if_pos hqj, if_neg (by omega)]; exact hoth (j - 1) r (by omega) (by omega) h3 (by omega) (by omega)
            · rw [if_neg hqj]
              by_cases hrj : r = j
              · rw [if_pos hrj]; exact hoth q (j - 1) h1 (by omega) (by omega) hqj (by omega)
              · rw [if_neg hrj]; exact hoth q r h1 h2 h3 hqj hrj⟩ (by simp only; omega)
          simp only [← hsw] at go
          clear ih fin hsw
          generalize arr n f2 = F at *
          refine Run2.of I 1000 ?_
          simp -implicitDefEqProofs [hja, t1, q1, q2, e1, e2, q3, q4]
          refine ⟨by omega, dcallK hcall ?_⟩
          simp -implicitDefEqProofs [hja, hr0, t1, q1, q2, e1, e2, q3, q4]
          repeat' (first | refine And.intro ?_ ?_ | intro _)
          all_goals first | (exfalso; omega) | omega | (simpa [List.map_set] using go)
        · have hr0 : ¬ r < 0 := fun h => hlt2 (hkey.2 (hr.1 h))
          have go := go f2 hs2 (fin fun _ => hlt2)
          clear ih fin hsw
          generalize arr n f2 = F at *
          refine Run2.of I 1000 ?_
          simp -implicitDefEqProofs [hja, t1, q1, q2, e1, e2, q3, q4]
          refine ⟨by omega, dcallK hcall ?_⟩
          simp -implicitDefEqProofs [hja, hr0, t1, q1, q2, e1, e2, q3, q4]
          repeat' (first | refine And.intro ?_ ?_ | intro _)
          all_goals first | (exfalso; omega) | omega | (simpa [List.map_set] using go)
      · have go := go f2 hs2 (fin fun h => absurd h hja)
        have hja' : ¬ (a : Int) < j := by omega
        clear ih fin
        refine Run2.of I 1000 ?_
        simp -implicitDefEqProofs [hja]
        repeat' (first | refine And.intro ?_ ?_ | intro _)
        all_goals first | (exfalso; omega) | omega | (simpa using go)
    · obtain rfl : i = b := by omega
      refine Run2.of I 1000 ?_
      simp -implicitDefEqProofs [hlt]
      exact ⟨f1, hs, hso, rfl, rfl⟩
theorem Srt2.low {k : Int → Int} {f : Nat → Int} {a b p q : Nat} {z : Int} (h : Srt2 k f a b) (h1 : a ≤ p) (h2 : p ≤ q) (h3 : q < b) (hz : lt2 k (f q) z) : lt2 k (f p) z := by
  by_cases e : p = q
  · rw [e]; exact hz
  · exact lt2_trans (h p q h1 (by omega) h3) hz
theorem Srt2.high {k : Int → Int} {f : Nat → Int} {a b p q : Nat} {z : Int} (h : Srt2 k f a b) (h1 : a ≤ p) (h2 : p ≤ q) (h3 : q < b) (hz : lt2 k z (f p)) : lt2 k z (f q) := by
  by_cases e : p = q
  · rw [← e]; exact hz
  · exact lt2_trans hz (h p q h1 (by omega) h3)
theorem rotA {f : Nat → Int} {s m e p : Nat} (h1 : s ≤ p) (h2 : p < s + (e - m)) : rot f s m e p = f (p - s + m) := by unfold rot; rw [if_pos ⟨h1, h2⟩]
theorem rotB {f : Nat → Int} {s m e p : Nat} (h1 : s + (e - m) ≤ p) (h2 : p < e) : rot f s m e p = f (p - (e - m)) := by
  unfold rot
  rw [if_neg (by omega : ¬ (s ≤ p ∧ p < s + (e - m))), if_pos ⟨h1, h2⟩]
theorem rotC {f : Nat → Int} {s m e p : Nat} (hs : s ≤ m) (he : m ≤ e) (h : p < s ∨ e ≤ p) : rot f s m e p = f p := by
  unfold rot
  rw [if_neg (by omega : ¬ (s ≤ p ∧ p < s + (e - m))), if_neg (by omega : ¬ (s + (e - m) ≤ p ∧ p < e))]
theorem rot_no {f : Nat → Int} {s m e : Nat} (hs : s ≤ m) (he : m ≤ e) (h : ¬ (s < m ∧ m < e)) : rot f s m e = f := by
  funext p
  unfold rot
  repeat' split
  all_goals first | rfl | (exfalso; omega) | (congr 1; omega)
/-- One number put into the right part: it goes behind those that come ahead of it. -/
theorem one_left {k : Int → Int} {f : Nat → Int} {a i b : Nat} (ha : a + 1 ≤ i) (hi : i ≤ b) (hs : Srt2 k f (a + 1) b) (h1 : ∀ q, a + 1 ≤ q → q < i → lt2 k (f q) (f a)) (h2 : ∀ q, i ≤ q → q < b → lt2 k (f a) (f q)) : Srt2 k (rot f a (a + 1) i) a b := by
  intro p q hp hpq hq
  have hv : ∀ r, a ≤ r → r < b → (r < i - 1 ∧ rot f a (a + 1) i r = f (r + 1)) ∨ (r = i - 1 ∧ rot f a (a + 1) i r = f a) ∨ (i ≤ r ∧ rot f a (a + 1) i r = f r) := by
    intro r hr hrb
    by_cases c1 : r < i - 1
    · exact .inl ⟨c1, by rw [rotA hr (by omega)]; congr 1; omega⟩
    · by_cases c2 : r = i - 1
      · exact .inr (.inl ⟨c2, by rw [rotB (by omega) (by omega)]; congr 1; omega⟩)
      · exact .inr (.inr ⟨by omega, rotC (by omega) (by omega) (by omega)⟩)
  rcases hv p hp (by omega) with ⟨c1, e1⟩ | ⟨c1, e1⟩ | ⟨c1, e1⟩ <;> rcases hv q (by omega) hq with ⟨c2, e2⟩ | ⟨c2, e2⟩ | ⟨c2, e2⟩ <;> rw [e1, e2]
  · exact hs (p + 1) (q + 1) (by omega) (by omega) (by omega)
  · exact h1 (p + 1) (by omega) (by omega)
  · exact hs (p + 1) q (by omega) (by omega) hq
  · omega
  · omega
  · exact h2 q c2 hq
  · omega
  · omega
  · exact hs p q (by omega) hpq hq
/-- One number put into the left part. -/
theorem one_right {k : Int → Int} {f : Nat → Int} {a i m : Nat} (ha : a ≤ i) (hi : i ≤ m) (hs : Srt2 k f a m) (h1 : ∀ q, a ≤ q → q < i → lt2 k (f q) (f m)) (h2 : ∀ q, i ≤ q → q < m → lt2 k (f m) (f q)) : Srt2 k (rot f i m (m + 1)) a (m + 1) := by
  intro p q hp hpq hq
  have hv : ∀ r, a ≤ r → r < m + 1 → (r < i ∧ rot f i m (m + 1) r = f r) ∨ (r = i ∧ rot f i m (m + 1) r = f m) ∨ (i < r ∧ rot f i m (m + 1) r = f (r - 1)) := by
    intro r hr hrb
    by_cases c1 : r < i
    · exact .inl ⟨c1, rotC (by omega) (by omega) (by omega)⟩
    · by_cases c2 : r = i
      · exact .inr (.inl ⟨c2, by rw [rotA (by omega) (by omega)]; congr 1; omega⟩)
      · exact .inr (.inr ⟨by omega, by rw [rotB (by omega) (by omega)]; congr 1; omega⟩)
  rcases hv p hp (by omega) with ⟨c1, e1⟩ | ⟨c1, e1⟩ | ⟨c1, e1⟩ <;> rcases hv q (by omega) hq with ⟨c2, e2⟩ | ⟨c2, e2⟩ | ⟨c2, e2⟩ <;> rw [e1, e2]
  · exact hs p q (by omega) (by omega) (by omega)
  · exact h1 p (by omega) (by omega)
  · exact hs p (q - 1) (by omega) (by omega) (by omega)
  · omega
  · omega
  · exact h2 (q - 1) (by omega) (by omega)
  · omega
  · omega
  · exact hs (p - 1) (q - 1) (by omega) (by omega) (by omega)
/-- The two halves of a merge do not mix. -/
theorem halves {k : Int → Int} {f : Nat → Int} {a s m e b : Nat} (hs1 : a ≤ s) (hs2 : s ≤ m) (he1 : m ≤ e) (he2 : e ≤ b) (hL : Srt2 k f a m) (hR : Srt2 k f m b)
    (c1 : a < s → e < b → lt2 k (f (s - 1)) (f e)) (c2 : s < m → m < e → lt2 k (f (e - 1)) (f s)) :
    Srt2 k (rot f s m e) a s ∧ Srt2 k (rot f s m e) s (s + (e - m)) ∧ Srt2 k (rot f s m e) (s + (e - m)) e ∧ Srt2 k (rot f s m e) e b ∧ ∀ p q, a ≤ p → p < s + (e - m) → s + (e - m) ≤ q → q < b → lt2 k (rot f s m e p) (rot f s m e q) := by
  refine ⟨(hL.sub (Nat.le_refl _) hs2).cong fun p h1 h2 => rotC hs2 he1 (by omega), fun p q h1 h2 h3 => ?_, fun p q h1 h2 h3 => ?_, (hR.sub he1 (Nat.le_refl _)).cong fun p h1 h2 => rotC hs2 he1 (by omega), fun p q h1 h2 h3 h4 => ?_⟩
  · rw [rotA h1 (by omega), rotA (by omega) h3]
    exact hR _ _ (by omega) (by omega) (by omega)
  · rw [rotB h1 (by omega), rotB (by omega) h3]
    exact hL _ _ (by omega) (by omega) (by omega)
  · have hp : (p < s ∧ rot f s m e p = f p) ∨ (s ≤ p ∧ rot f s m e p = f (p - s + m)) := by
      by_cases c : p < s
      · exact .inl ⟨c, rotC hs2 he1 (by omega)⟩
      · exact .inr ⟨by omega, rotA (by omega) h2⟩
    have hq : (q < e ∧ rot f s m e q = f (q - (e - m))) ∨ (e ≤ q ∧ rot f s m e q = f q) := by
      by_cases c : q < e
      · exact .inl ⟨c, rotB h3 c⟩
      · exact .inr ⟨by omega, rotC hs2 he1 (by omega)⟩
    rcases hp with ⟨d1, e1⟩ | ⟨d1, e1⟩ <;> rcases hq with ⟨d2, e2⟩ | ⟨d2, e2⟩ <;> rw [e1, e2]
    · exact hL _ _ h1 (by omega) (by omega)
    · exact hR.high (p := e) he1 d2 h4 (hL.low (q := s - 1) h1 (by omega) (by omega) (c1 (by omega) (by omega)))
    · exact hL.high (p := s) hs1 (by omega) (by omega) (hR.low (q := e - 1) (by omega) (by omega) (by omega) (c2 (by omega) (by omega)))
    · exact hR _ _ (by omega) (by omega) h4
end Go.AG
