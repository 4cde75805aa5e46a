/- In a connected graph all nodes know of all, some time. No statement is made here. -/
import Derived.Test.YtlncpnefkpfojaaCtK
namespace Go.AG
open Go.Proofs Go.Proofs.Ytlncpnefkpfojaa
set_option linter.unusedSimpArgs false
set_option linter.unusedVariables false
set_option maxRecDepth 4000
/-- Place by place at most. -/
theorem sum_le : ∀ {a b : List Nat}, a.length = b.length → (∀ i (h1 : i < a.length) (h2 : i < b.length), a[i] ≤ b[i]) → a.sum ≤ b.sum ∧ (a.sum = b.sum → a = b)
  | [], [], _, _ => ⟨Nat.le_refl _, fun _ => rfl⟩
  | x :: a, y :: b, hl, h => by
    obtain ⟨h1, h2⟩ := sum_le (a := a) (b := b) (by simpa using hl) fun i h1 h2 => by
      have := h (i + 1) (by simpa using h1) (by simpa using h2)
      simpa only [List.getElem_cons_succ] using this
    have h0 := h 0 (by simp) (by simp)
    simp only [List.getElem_cons_zero] at h0
    simp only [List.sum_cons]
    refine ⟨by omega, fun e => ?_⟩
    rw [show x = y by omega, h2 (by omega)]
  | [], _ :: _, hl, _ => by simp at hl
  | _ :: _, [], hl, _ => by simp at hl
theorem talk_ge (a : List Nat) (e : T) (i : Nat) (h : i < a.length) : a[i] ≤ (talk a e)[i]'(by simpa using h) := by
  unfold talk
  rw [List.getElem_set]
  split
  · rename_i h1; subst h1
    rw [show a.getD e.t.toNat 0 = a[e.t.toNat] by simp [h]]
    exact Nat.right_le_or
  · rw [List.getElem_set]
    split
    · rename_i h1; subst h1
      rw [show a.getD e.f.toNat 0 = a[e.f.toNat] by simp [h]]
      exact Nat.left_le_or
    · exact Nat.le_refl _
theorem talk_sum (a : List Nat) (e : T) : a.sum ≤ (talk a e).sum ∧ (a.sum = (talk a e).sum → a = talk a e) := sum_le (by simp) fun i h1 _ => talk_ge a e i h1
theorem talk_eq {a : List Nat} {e : T} (hf : e.f.toNat < a.length) (ht : e.t.toNat < a.length) (h : a = talk a e) : a.getD e.f.toNat 0 = a.getD e.t.toNat 0 := by
  have h1 : (talk a e)[e.t.toNat]'(by simpa using ht) = a.getD e.f.toNat 0 ||| a.getD e.t.toNat 0 := by
    unfold talk; rw [List.getElem_set_self]
  have h2 : (talk a e)[e.f.toNat]'(by simpa using hf) = a.getD e.f.toNat 0 ||| a.getD e.t.toNat 0 := by
    unfold talk
    rw [List.getElem_set]
    split
    · rfl
    · rw [List.getElem_set_self]
  have h3 : a.getD e.t.toNat 0 = (talk a e)[e.t.toNat]'(by simpa using ht) := by
    conv => lhs; rw [h]
    simp [ht]
  have h4 : a.getD e.f.toNat 0 = (talk a e)[e.f.toNat]'(by simpa using hf) := by
    conv => lhs; rw [h]
    simp [hf]
  exact h4.trans (h2.trans (h1.symm.trans h3.symm))
section
variable (x : Gr)
theorem runR_sum (r : List Int) : ∀ a : List Nat, a.sum ≤ (runR x talk a r).sum := by
  induction r with
  | nil => intro a; exact Nat.le_refl _
  | cons k r ih => intro a; exact Nat.le_trans (talk_sum a (x.e k)).1 (ih (talk a (x.e k)))
/-- If a whole turn tells nothing new, the two nodes of each edge know the same. -/
theorem runR_fix (r : List Int) : ∀ a : List Nat, a.sum = (runR x talk a r).sum → ∀ k ∈ r, a = talk a (x.e k) := by
  induction r with
  | nil => intro a _ k hk; simp at hk
  | cons k0 r ih =>
    intro a h k hk
    have h1 := talk_sum a (x.e k0)
    have h2 : (talk a (x.e k0)).sum ≤ (runR x talk a (k0 :: r)).sum := runR_sum x r _
    have h3 := h1.2 (by omega)
    rcases List.mem_cons.1 hk with rfl | hk
    · exact h3
    · refine ih a ?_ k hk
      have h4 : runR x talk a (k0 :: r) = runR x talk a r := by
        show runR x talk (talk a (x.e k0)) r = _
        rw [← h3]
      rw [← h4]; exact h
end
theorem runR_append {α : Type} (x : Gr) (step : α → T → α) (a : α) (r s : List Int) : runR x step a (r ++ s) = runR x step (runR x step a r) s := by
  unfold runR; rw [List.foldl_append]
theorem runT_turn {α : Type} (x : Gr) (step : α → T → α) {rs : List (List Int)} (hne : rs ≠ []) (a : α) : ∀ i, i ≤ rs.length → runT x step rs a i = runR x step a (rs.take i).flatten
  | 0, _ => by rw [runT_zero]; simp [runR]
  | i + 1, hi => by
    rw [runT_succ x step hne, runT_turn x step hne a i (by omega), List.take_succ_eq_append_getElem (by omega), List.flatten_append, runR_append, Nat.mod_eq_of_lt (by omega)]
    simp [show i < rs.length by omega]
theorem runT_add {α : Type} (x : Gr) (step : α → T → α) {rs : List (List Int)} (hne : rs ≠ []) (a : α) (j : Nat) : ∀ i, runT x step rs a (j * rs.length + i) = runT x step rs (runT x step rs a (j * rs.length)) i
  | 0 => by rw [runT_zero]; rfl
  | i + 1 => by
    rw [← Nat.add_assoc, runT_succ x step hne, runT_succ x step hne, runT_add x step hne a j i, Nat.mul_comm, Nat.mul_add_mod]
/-- All edges are in the rounds. -/
theorem Gr.rsOk.all {x : Gr} {rs : List (List Int)} (h : x.rsOk rs) {k : Nat} (hk : k < x.ts.length) : (k : Int) ∈ rs.flatten := by
  have hin : ∀ a ∈ rs.flatten, 0 ≤ a ∧ a < x.ts.length := fun a ha => by
    obtain ⟨r, hr, ha⟩ := List.mem_flatten.1 ha
    exact (h.1 r hr).2.2.1 a ha
  have := (sorted_iff hin).2 ⟨h.2.1, h.2.2⟩
  have hp : (sorted rs.flatten).Perm rs.flatten := List.mergeSort_perm _ _
  refine hp.mem_iff.1 ?_
  rw [this]
  exact List.mem_map.2 ⟨k, List.mem_range.2 hk, rfl⟩
/-- The least node that is known by edges, step by step. -/
def lowS (l : List Int) (e : T) : List Int := (l.set e.f.toNat (min (l.getD e.f.toNat 0) (l.getD e.t.toNat 0))).set e.t.toNat (min (l.getD e.f.toNat 0) (l.getD e.t.toNat 0))
@[simp] theorem lowS_length (l : List Int) (e : T) : (lowS l e).length = l.length := by simp [lowS]
def Gr.comp (x : Gr) : Nat → List Int
  | 0 => upto x.n.toNat
  | k + 1 => x.ts.foldl lowS (x.comp k)
def Gr.comps (x : Gr) : List Int := x.comp x.n.toNat
def Gr.conn (x : Gr) : Prop := ∀ a ∈ x.comps, a = 0
noncomputable instance (x : Gr) : Decidable x.conn := Classical.propDecidable _
/-- Each node has one of which it knows the same. -/
def rep (n : Nat) (a : List Nat) (l : List Int) : Prop := l.length = n ∧ ∀ v, v < n → 0 ≤ l.getD v 0 ∧ l.getD v 0 < n ∧ a.getD (l.getD v 0).toNat 0 = a.getD v 0
theorem rep.low {n : Nat} {a : List Nat} {l : List Int} {e : T} (h : rep n a l) (hf : e.f.toNat < n) (ht : e.t.toNat < n) (hs : a.getD e.f.toNat 0 = a.getD e.t.toNat 0) : rep n a (lowS l e) := by
  refine ⟨by simp [h.1], fun v hv => ?_⟩
  have h1 := h.2 _ hf
  have h2 := h.2 _ ht
  have hl := h.1
  have key : 0 ≤ min (l.getD e.f.toNat 0) (l.getD e.t.toNat 0) ∧ min (l.getD e.f.toNat 0) (l.getD e.t.toNat 0) < n ∧ a.getD (min (l.getD e.f.toNat 0) (l.getD e.t.toNat 0)).toNat 0 = a.getD e.f.toNat 0 := by
    rcases Int.le_total (l.getD e.f.toNat 0) (l.getD e.t.toNat 0) with h | h
    · rw [Int.min_eq_left h]; exact h1
    · rw [Int.min_eq_right h]; exact ⟨h2.1, h2.2.1, by rw [h2.2.2, hs]⟩
  have hg : (lowS l e).getD v 0 = if e.t.toNat = v ∨ e.f.toNat = v then min (l.getD e.f.toNat 0) (l.getD e.t.toNat 0) else l.getD v 0 := by
    unfold lowS
    have hvl : v < l.length := by omega
    generalize min (l.getD e.f.toNat 0) (l.getD e.t.toNat 0) = m
    rw [List.getD_eq_getElem?_getD, List.getElem?_set, List.getElem?_set]
    by_cases h3 : e.t.toNat = v
    · subst h3; simp [hvl]
    · by_cases h4 : e.f.toNat = v
      · subst h4; simp [hvl, h3]
      · simp [h3, h4]
  rw [hg]
  split
  · rename_i h3
    refine ⟨key.1, key.2.1, ?_⟩
    rw [key.2.2]
    rcases h3 with rfl | rfl
    · exact hs
    · rfl
  · exact h.2 v hv
theorem rep.all {n : Nat} {a : List Nat} : ∀ {ts : List T} {l : List Int}, rep n a l → (∀ e ∈ ts, e.f.toNat < n ∧ e.t.toNat < n ∧ a.getD e.f.toNat 0 = a.getD e.t.toNat 0) → rep n a (ts.foldl lowS l)
  | [], _, h, _ => h
  | e :: ts, l, h, he => by
    obtain ⟨h1, h2, h3⟩ := he e (List.mem_cons_self ..)
    exact (h.low h1 h2 h3).all fun e' he' => he e' (List.mem_cons_of_mem _ he')
theorem Gr.comp_rep {x : Gr} {a : List Nat} (he : ∀ e ∈ x.ts, e.f.toNat < x.n.toNat ∧ e.t.toNat < x.n.toNat ∧ a.getD e.f.toNat 0 = a.getD e.t.toNat 0) : ∀ k, rep x.n.toNat a (x.comp k)
  | 0 => ⟨by simp [Gr.comp], fun v hv => by
    have : (upto x.n.toNat).getD v 0 = v := by simp [upto, hv]
    simp only [Gr.comp, this]
    exact ⟨by omega, by omega, rfl⟩⟩
  | k + 1 => (Gr.comp_rep he k).all he
/-- In a connected graph, if the two nodes of each edge know the same, all know the same. -/
theorem Gr.conn.same {x : Gr} (hc : x.conn) {a : List Nat} (he : ∀ e ∈ x.ts, e.f.toNat < x.n.toNat ∧ e.t.toNat < x.n.toNat ∧ a.getD e.f.toNat 0 = a.getD e.t.toNat 0) (v : Nat) (hv : v < x.n.toNat) : a.getD v 0 = a.getD 0 0 := by
  obtain ⟨h1, h2⟩ := Gr.comp_rep he x.n.toNat
  have h3 := h2 v hv
  have h4 : (x.comp x.n.toNat).getD v 0 = 0 := by
    have hl : v < (x.comp x.n.toNat).length := by omega
    rw [show (x.comp x.n.toNat).getD v 0 = (x.comp x.n.toNat)[v] by simp [hl]]
    exact hc _ (List.getElem_mem hl)
  rw [h4] at h3
  exact h3.2.2.symm
/-- Each node knows of itself. -/
def selfK (n : Nat) (a : List Nat) : Prop := ∀ v, v < n → (a.getD v 0).testBit v = true
theorem selfK.talk {n : Nat} {a : List Nat} {e : T} (hl : a.length = n) (h : selfK n a) : selfK n (talk a e) := fun v hv => by
  have hvl : v < a.length := by omega
  unfold Go.AG.talk
  rw [List.getD_eq_getElem?_getD, List.getElem?_set, List.getElem?_set]
  by_cases h3 : e.t.toNat = v
  · subst h3
    simp [hvl, Nat.testBit_or]
    have := h _ hv
    simp [hvl] at this
    exact .inr this
  · by_cases h4 : e.f.toNat = v
    · subst h4
      simp [hvl, h3, Nat.testBit_or]
      have := h _ hv
      simp [hvl] at this
      exact .inl this
    · have := h _ hv
      simpa [h3, h4] using this
def fullK (n : Nat) (a : List Nat) : Prop := ∀ m ∈ a, m = 2 ^ n - 1
instance (n : Nat) (a : List Nat) : Decidable (fullK n a) := by unfold fullK; infer_instance
theorem fullK_of {n : Nat} {a : List Nat} (h : knOk n a) (hs : selfK n a) (he : ∀ v, v < n → a.getD v 0 = a.getD 0 0) : fullK n a := fun m hm => by
  obtain ⟨i, hi, rfl⟩ := List.mem_iff_getElem.1 hm
  have hin : i < n := by have := h.1; omega
  have hlt := h.2 _ (List.getElem_mem hi)
  apply Nat.eq_of_testBit_eq
  intro u
  rw [Nat.testBit_two_pow_sub_one]
  by_cases hu : u < n
  · have h1 := hs u hu
    rw [he u hu, ← he i hin, show a.getD i 0 = a[i] by simp [hi]] at h1
    simp [h1, hu]
  · have : a[i].testBit u = false := Nat.testBit_lt_two_pow (Nat.lt_of_lt_of_le hlt (Nat.pow_le_pow_right (by omega) (by omega)))
    simp [this, hu]
theorem knOk.sum {n : Nat} {a : List Nat} (h : knOk n a) : a.sum ≤ n * 2 ^ n := by
  have : ∀ (l : List Nat) (B : Nat), (∀ m ∈ l, m < B) → l.sum ≤ l.length * B := by
    intro l B hl
    induction l with
    | nil => simp
    | cons m l ih =>
      have h1 := ih fun m hm => hl m (List.mem_cons_of_mem _ hm)
      have h2 := hl m (List.mem_cons_self ..)
      simp only [List.sum_cons, List.length_cons, Nat.add_mul]
      omega
  have := this a (2 ^ n) h.2
  rwa [h.1] at this
theorem Gr.kn_self {x : Gr} {rs : List (List Int)} (hv : x.valid) (hok : x.rsOk rs) (t : Nat) : selfK x.n.toNat (x.kn rs t) :=
  (runT_inv x talk (Inv := fun a => a.length = x.n.toNat ∧ selfK x.n.toNat a) (fun a e he ha => ⟨by simp [ha.1], ha.2.talk ha.1⟩) (fun r hr k hk => (hok.1 r hr).2.2.1 k hk) ⟨by simp, fun v hv => by simp [know0, hv, Nat.testBit_two_pow]⟩ t).2
/-- Some time all know of all. -/
theorem Gr.full_ex {x : Gr} {rs : List (List Int)} (hv : x.valid) (hok : x.rsOk rs) (hc : x.conn) : ∃ t, t ≤ 24 * 49153 ∧ fullK x.n.toNat (x.kn rs t) := by
  have hn1 := hv.1
  have hn2 := hv.2.1
  have fin : ∀ t, (∀ e ∈ x.ts, (x.kn rs t).getD e.f.toNat 0 = (x.kn rs t).getD e.t.toNat 0) → fullK x.n.toNat (x.kn rs t) := fun t h =>
    fullK_of (Gr.kn_ok hv hok t) (Gr.kn_self hv hok t) (hc.same fun e he => by
      have hel := hv.el he
      unfold Gr.el at hel
      exact ⟨by omega, by omega, h e he⟩)
  by_cases hne : rs = []
  · refine ⟨0, by omega, fin 0 fun e he => ?_⟩
    have h1 := hok.2.2
    rw [hne] at h1
    simp at h1
    have h2 : x.ts = [] := List.length_eq_zero_iff.1 h1.symm
    rw [h2] at he; simp at he
  · have hL : rs.length ≤ 24 := by
      have h1 := hok.2.2
      have h2 := hv.2.2.2
      have h3 : ∀ l : List (List Int), (∀ r ∈ l, r ≠ []) → l.length ≤ l.flatten.length := by
        intro l hl
        induction l with
        | nil => simp
        | cons r l ih =>
          have h4 := ih fun r hr => hl r (List.mem_cons_of_mem _ hr)
          have h5 := List.length_pos_iff.2 (hl r (List.mem_cons_self ..))
          simp only [List.length_cons, List.flatten_cons, List.length_append]
          omega
      have := h3 rs fun r hr => (hok.1 r hr).1
      omega
    have hstep : ∀ j, x.kn rs ((j + 1) * rs.length) = runR x talk (x.kn rs (j * rs.length)) rs.flatten := fun j => by
      unfold Gr.kn
      rw [Nat.add_mul, Nat.one_mul, runT_add x talk hne, runT_turn x talk hne _ _ (Nat.le_refl _), List.take_length]
    have hdone : ∀ j, (x.kn rs (j * rs.length)).sum = (x.kn rs ((j + 1) * rs.length)).sum → fullK x.n.toNat (x.kn rs (j * rs.length)) := fun j h => fin _ fun e he => by
      obtain ⟨k, hk, rfl⟩ := List.mem_iff_getElem.1 he
      rw [hstep] at h
      have h1 := runR_fix x rs.flatten _ h k (hok.all hk)
      have h2 : x.e k = x.ts[k] := by simp [Gr.e, hk]
      rw [h2] at h1
      have hel := hv.el (List.getElem_mem hk)
      unfold Gr.el at hel
      have hkl := (Gr.kn_ok hv hok (j * rs.length)).1
      exact talk_eq (by omega) (by omega) h1
    have hB : x.n.toNat * 2 ^ x.n.toNat ≤ 49152 := by
      have h1 : 2 ^ x.n.toNat ≤ 4096 := Nat.pow_le_pow_right (by omega) (show x.n.toNat ≤ 12 by omega)
      exact Nat.le_trans (Nat.mul_le_mul (show x.n.toNat ≤ 12 by omega) h1) (by omega)
    have grow : ∀ j, (∃ i, i < j ∧ fullK x.n.toNat (x.kn rs (i * rs.length))) ∨ j ≤ (x.kn rs (j * rs.length)).sum := by
      intro j
      induction j with
      | zero => right; omega
      | succ j ih =>
        rcases ih with ⟨i, hi, h⟩ | h
        · exact .inl ⟨i, by omega, h⟩
        · have h1 := runR_sum x rs.flatten (x.kn rs (j * rs.length))
          rw [← hstep] at h1
          rcases Nat.lt_or_ge (x.kn rs (j * rs.length)).sum (x.kn rs ((j + 1) * rs.length)).sum with h2 | h2
          · right; omega
          · exact .inl ⟨j, by omega, hdone j (by omega)⟩
    rcases grow 49153 with ⟨i, hi, h⟩ | h
    · refine ⟨i * rs.length, ?_, h⟩
      have := Nat.mul_le_mul (show i ≤ 49153 by omega) hL
      omega
    · have := (Gr.kn_ok hv hok (49153 * rs.length)).sum
      omega
/-- The first time at which all know of all. -/
noncomputable def Gr.gT (x : Gr) (rs : List (List Int)) : Nat := ((List.range (24 * 49153 + 1)).findIdx fun t => decide (fullK x.n.toNat (x.kn rs t)))
theorem Gr.gT_spec {x : Gr} {rs : List (List Int)} (hv : x.valid) (hok : x.rsOk rs) (hc : x.conn) : x.gT rs ≤ 24 * 49153 ∧ fullK x.n.toNat (x.kn rs (x.gT rs)) ∧ ∀ t, t < x.gT rs → ¬ fullK x.n.toNat (x.kn rs t) := by
  obtain ⟨t0, h0, h1⟩ := Gr.full_ex hv hok hc
  generalize hB : 24 * 49153 = B at *
  have hex : ∃ t ∈ List.range (B + 1), decide (fullK x.n.toNat (x.kn rs t)) = true := ⟨t0, List.mem_range.2 (by omega), by simpa using h1⟩
  have hlt := List.findIdx_lt_length_of_exists hex
  have hg : x.gT rs = (List.range (B + 1)).findIdx fun t => decide (fullK x.n.toNat (x.kn rs t)) := by rw [Gr.gT, hB]
  rw [← hg] at hlt
  have h2 := List.findIdx_getElem (w := by rw [← hg]; exact hlt) (p := fun t => decide (fullK x.n.toNat (x.kn rs t))) (xs := List.range (B + 1))
  refine ⟨by simp at hlt; omega, ?_, fun t ht hf => ?_⟩
  · simp only [← hg, List.getElem_range, decide_eq_true_eq] at h2
    exact h2
  · have := List.not_of_lt_findIdx (p := fun t => decide (fullK x.n.toNat (x.kn rs t))) (xs := List.range (B + 1)) (i := t) (by rw [← hg]; exact ht)
    simp at this
    exact this hf
theorem Gr.gT_eq {x : Gr} {rs : List (List Int)} (hv : x.valid) (hok : x.rsOk rs) (hc : x.conn) {t : Nat} (h : fullK x.n.toNat (x.kn rs t)) (hb : ∀ s, s < t → ¬ fullK x.n.toNat (x.kn rs s)) : x.gT rs = t := by
  obtain ⟨h1, h2, h3⟩ := Gr.gT_spec hv hok hc
  rcases Nat.lt_trichotomy (x.gT rs) t with h' | h' | h'
  · exact absurd h2 (hb _ h')
  · exact h'
  · exact absurd h (h3 _ h')
end Go.AG
