/- Labels that go down along edges until nothing changes: as many rounds as vertices are enough. No statement is made here. -/
import Derived.Test.YtamjnegnoijjlaaFxLo
namespace Go.AG
set_option linter.unusedSimpArgs false
set_option linter.unusedVariables false
/-- Both ends of an edge get the lesser label. -/
def st1 (L : Int → Int) (e : Int × Int) : Int → Int := fun v => if v = e.1 ∨ v = e.2 then min (L e.1) (L e.2) else L v
def rnd (es : List (Int × Int)) (L : Int → Int) : Int → Int := es.foldl st1 L
def itR (es : List (Int × Int)) : Nat → (Int → Int) → Int → Int
  | 0, L => L
  | n + 1, L => itR es n (rnd es L)
theorem itR_succ (es : List (Int × Int)) (n : Nat) (L : Int → Int) : itR es (n + 1) L = rnd es (itR es n L) := by
  induction n generalizing L with
  | zero => rfl
  | succ n ih => rw [itR, ih, itR]
theorem st1_le (L : Int → Int) (e : Int × Int) (v : Int) : st1 L e v ≤ L v := by
  unfold st1
  split
  · rename_i h
    rcases h with rfl | rfl <;> omega
  · omega
theorem rnd_le (es : List (Int × Int)) : ∀ (L : Int → Int) (v : Int), rnd es L v ≤ L v := by
  induction es with
  | nil => intro L v; exact Int.le_refl _
  | cons e es ih => intro L v; exact Int.le_trans (ih (st1 L e) v) (st1_le L e v)
theorem rnd_app (a b : List (Int × Int)) (L : Int → Int) : rnd (a ++ b) L = rnd b (rnd a L) := by simp [rnd]
theorem rnd_cons (e : Int × Int) (b : List (Int × Int)) (L : Int → Int) : rnd (e :: b) L = rnd b (st1 L e) := rfl
theorem st1_mono {L M : Int → Int} (h : ∀ v, L v ≤ M v) (e : Int × Int) (v : Int) : st1 L e v ≤ st1 M e v := by
  have h1 := h e.1
  have h2 := h e.2
  have h3 := h v
  unfold st1
  split <;> omega
theorem rnd_mono (es : List (Int × Int)) : ∀ {L M : Int → Int}, (∀ v, L v ≤ M v) → ∀ v, rnd es L v ≤ rnd es M v := by
  induction es with
  | nil => intro L M h v; exact h v
  | cons e es ih => intro L M h v; exact ih (st1_mono h e) v
theorem itR_le (es : List (Int × Int)) (n : Nat) : ∀ (L : Int → Int) (v : Int), itR es n L v ≤ L v := by
  induction n with
  | zero => intro L v; exact Int.le_refl _
  | succ n ih => intro L v; exact Int.le_trans (ih _ v) (rnd_le es L v)
theorem itR_fix {es : List (Int × Int)} {F : Int → Int} (h : rnd es F = F) (n : Nat) : itR es n F = F := by
  induction n with
  | zero => rfl
  | succ n ih => rw [itR, h, ih]
/-- Nothing changes: both ends of each edge have one label. -/
theorem fix_edge {es : List (Int × Int)} {F : Int → Int} (h : rnd es F = F) {e : Int × Int} (he : e ∈ es) : F e.1 = F e.2 := by
  obtain ⟨a, b, rfl⟩ := List.append_of_mem he
  rw [rnd_app, rnd_cons] at h
  have h1 : ∀ v, rnd a F v = F v := fun v => by
    have e1 := rnd_le b (st1 (rnd a F) e) v
    rw [h] at e1
    have e2 := st1_le (rnd a F) e v
    have e3 := rnd_le a F v
    omega
  have h2 : ∀ v, st1 (rnd a F) e v = F v := fun v => by
    have e1 := rnd_le b (st1 (rnd a F) e) v
    rw [h] at e1
    have e2 := st1_le (rnd a F) e v
    have e3 := h1 v
    omega
  have e1 := h2 e.1
  have e2 := h2 e.2
  unfold st1 at e1 e2
  simp at e1 e2
  omega
/-- A last label goes over an edge. -/
theorem cross {es : List (Int × Int)} {F L : Int → Int} (h : rnd es F = F) {e : Int × Int} (he : e ∈ es) : (L e.1 = F e.1 → rnd es L e.2 ≤ F e.2) ∧ (L e.2 = F e.2 → rnd es L e.1 ≤ F e.1) := by
  have hF := fix_edge h he
  obtain ⟨a, b, rfl⟩ := List.append_of_mem he
  rw [rnd_app, rnd_cons]
  have l1 := rnd_le a L e.1
  have l2 := rnd_le a L e.2
  have s1 : st1 (rnd a L) e e.1 = min (rnd a L e.1) (rnd a L e.2) := by unfold st1; simp
  have s2 : st1 (rnd a L) e e.2 = min (rnd a L e.1) (rnd a L e.2) := by unfold st1; simp
  have e1 := rnd_le b (st1 (rnd a L) e) e.1
  have e2 := rnd_le b (st1 (rnd a L) e) e.2
  constructor <;> intro h <;> omega
theorem rnd_closed {U : Int → Prop} {μ : Int} : ∀ {es : List (Int × Int)}, (∀ e ∈ es, U e.1 ↔ U e.2) → ∀ {L : Int → Int}, (∀ v, U v → μ ≤ L v) → ∀ v, U v → μ ≤ rnd es L v := by
  intro es
  induction es with
  | nil => intro _ L h v hv; exact h v hv
  | cons e es ih =>
    intro hc L h v hv
    refine ih (fun f hf => hc f (List.mem_cons_of_mem _ hf)) (L := st1 L e) (fun v hv => ?_) v hv
    have he := hc e (List.mem_cons_self ..)
    unfold st1
    split
    · rename_i h0
      have u1 : U e.1 := by
        rcases h0 with rfl | rfl
        · exact hv
        · exact he.2 hv
      have := h _ u1
      have := h _ (he.1 u1)
      omega
    · exact h v hv
theorem itR_closed {U : Int → Prop} {μ : Int} {es : List (Int × Int)} (hc : ∀ e ∈ es, U e.1 ↔ U e.2) (n : Nat) : ∀ {L : Int → Int}, (∀ v, U v → μ ≤ L v) → ∀ v, U v → μ ≤ itR es n L v := by
  induction n with
  | zero => intro L h; exact h
  | succ n ih => intro L h; exact ih (rnd_closed hc h)
theorem least_of (L : Int → Int) : ∀ l : List Int, l ≠ [] → ∃ u ∈ l, ∀ v ∈ l, L u ≤ L v
  | [], h => absurd rfl h
  | [a], _ => ⟨a, by simp, by simp⟩
  | a :: b :: l, _ => by
    obtain ⟨u, hu, h⟩ := least_of L (b :: l) (by simp)
    by_cases hau : L a ≤ L u
    · refine ⟨a, by simp, fun v hv => ?_⟩
      rcases List.mem_cons.1 hv with rfl | hv
      · exact Int.le_refl _
      · have := h v hv; omega
    · refine ⟨u, List.mem_cons_of_mem _ hu, fun v hv => ?_⟩
      rcases List.mem_cons.1 hv with rfl | hv
      · omega
      · exact h v hv
theorem count_lt {p q : Int → Bool} : ∀ {l : List Int}, (∀ v ∈ l, q v = true → p v = true) → (∃ w ∈ l, p w = true ∧ q w = false) → l.countP q < l.countP p
  | [], _, ⟨w, hw, _⟩ => by simp at hw
  | a :: l, h, ⟨w, hw, h1, h2⟩ => by
    have hl : ∀ v ∈ l, q v = true → p v = true := fun v hv => h v (List.mem_cons_of_mem _ hv)
    have hle : l.countP q ≤ l.countP p := List.countP_mono_left hl
    rw [List.countP_cons, List.countP_cons]
    rcases List.mem_cons.1 hw with rfl | hw
    · simp [h1, h2]; omega
    · have := count_lt hl ⟨w, hw, h1, h2⟩
      have ha := h a (List.mem_cons_self ..)
      cases hq : q a with
      | false => simp; omega
      | true => rw [ha hq]; simp; omega
/-- How many labels are not the last ones. -/
def away (vs : List Int) (F L : Int → Int) : Nat := vs.countP fun v => decide (L v ≠ F v)
theorem away_lt {es : List (Int × Int)} {vs : List Int} {F L : Int → Int} (h : rnd es F = F) {k : Nat} (hk : itR es k L = F) (hvs : ∀ v, L v ≠ F v → v ∈ vs) (hne : L ≠ F) : away vs F (rnd es L) < away vs F L := by
  have hFL : ∀ v, F v ≤ L v := fun v => by rw [← hk]; exact itR_le es k L v
  have hFR : ∀ v, F v ≤ rnd es L v := fun v => by
    have := rnd_mono es hFL v
    rw [h] at this
    exact this
  have hx : ∃ e ∈ es, ¬ (L e.1 ≠ F e.1 ↔ L e.2 ≠ F e.2) := by
    apply Classical.byContradiction
    intro hno
    have hc : ∀ e ∈ es, (fun v => L v ≠ F v) e.1 ↔ (fun v => L v ≠ F v) e.2 := fun e he => Classical.byContradiction fun hn => hno ⟨e, he, hn⟩
    have hex : vs.filter (fun v => decide (L v ≠ F v)) ≠ [] := by
      intro h0
      apply hne
      funext v
      apply Classical.byContradiction
      intro hv
      have : v ∈ vs.filter fun v => decide (L v ≠ F v) := List.mem_filter.2 ⟨hvs v hv, by simpa using hv⟩
      rw [h0] at this
      simp at this
    obtain ⟨u, hu, hmin⟩ := least_of L _ hex
    have hu2 : L u ≠ F u := by simpa using (List.mem_filter.1 hu).2
    have := itR_closed hc k (μ := L u) (L := L) (fun v hv => hmin v (List.mem_filter.2 ⟨hvs v hv, by simpa using hv⟩)) u hu2
    rw [hk] at this
    have := hFL u
    omega
  obtain ⟨e, he, hn⟩ := hx
  obtain ⟨c1, c2⟩ := cross (L := L) h he
  have hw : ∃ w, L w ≠ F w ∧ rnd es L w = F w := by
    by_cases h1 : L e.1 = F e.1
    · have h2 : L e.2 ≠ F e.2 := fun h2 => hn (by simp [h1, h2])
      exact ⟨e.2, h2, by have := c1 h1; have := hFR e.2; omega⟩
    · have h2 : L e.2 = F e.2 := Classical.byContradiction fun h2 => hn (by simp [h1, h2])
      exact ⟨e.1, h1, by have := c2 h2; have := hFR e.1; omega⟩
  obtain ⟨w, hw1, hw2⟩ := hw
  refine count_lt (fun v _ hq => ?_) ⟨w, hvs w hw1, by simpa using hw1, by simpa using hw2⟩
  simp only [decide_eq_true_eq] at hq ⊢
  intro hLF
  have := rnd_le es L v
  have := hFR v
  omega
/-- As many rounds as there are vertices are enough. -/
theorem enough {es : List (Int × Int)} {vs : List Int} {F : Int → Int} (h : rnd es F = F) : ∀ (n : Nat) (L : Int → Int), (∃ k, itR es k L = F) → (∀ v, L v ≠ F v → v ∈ vs) → away vs F L ≤ n → itR es n L = F := by
  intro n
  induction n with
  | zero =>
    rintro L ⟨k, hk⟩ hvs ha
    apply Classical.byContradiction
    intro hne
    have := away_lt h hk hvs hne
    omega
  | succ n ih =>
    rintro L ⟨k, hk⟩ hvs ha
    by_cases hne : L = F
    · subst hne; exact itR_fix h _
    · have hlt := away_lt h hk hvs hne
      refine ih (rnd es L) ?_ (fun v hv => ?_) (by omega)
      · cases k with
        | zero => exact absurd hk hne
        | succ k => exact ⟨k, hk⟩
      · apply hvs v
        intro he
        have h1 := rnd_le es L v
        have h2 : F v ≤ rnd es L v := by
          have hFL : ∀ v, F v ≤ L v := fun v => by rw [← hk]; exact itR_le es k L v
          have := rnd_mono es hFL v
          rw [h] at this
          exact this
        omega
theorem enough_len {es : List (Int × Int)} {vs : List Int} {F L : Int → Int} (h : rnd es F = F) (hk : ∃ k, itR es k L = F) (hvs : ∀ v, L v ≠ F v → v ∈ vs) : itR es vs.length L = F :=
  enough h _ L hk hvs (by unfold away; exact List.countP_le_length ..)
end Go.AG
