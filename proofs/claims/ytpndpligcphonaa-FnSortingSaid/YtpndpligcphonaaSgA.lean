/- Exchanges keep all values, and rounds that sort all values of two kinds sort all. No statement is made here. -/
import Derived.Test.YtpndpligcphonaaCtSA
namespace Go.AG
open Go.Proofs Go.Proofs.Ytpndpligcphonaa
set_option linter.unusedSimpArgs false
set_option linter.unusedVariables false
set_option maxRecDepth 4000
section
variable {α : Type} {x : Gr} {step : α → T → α} {g : α → α} {Inv : α → Prop}
theorem runR_comm (hf : ∀ a e, e ∈ x.ts → Inv a → Inv (step a e) ∧ step (g a) e = g (step a e)) {r : List Int} (hr : ∀ k ∈ r, x.inR k) {a : α} (ha : Inv a) : runR x step (g a) r = g (runR x step a r) := by
  induction r generalizing a with
  | nil => rfl
  | cons k r ih =>
    have hk := hr k (List.mem_cons_self ..)
    obtain ⟨hk1, hk2⟩ := Gr.e_at hk
    have hm : x.e k ∈ x.ts := by rw [hk2]; exact List.getElem_mem _
    obtain ⟨q1, q2⟩ := hf a _ hm ha
    show runR x step (step (g a) (x.e k)) r = g (runR x step (step a (x.e k)) r)
    rw [q2]
    exact ih (fun k' hk' => hr k' (List.mem_cons_of_mem _ hk')) q1
theorem runT_comm (hf : ∀ a e, e ∈ x.ts → Inv a → Inv (step a e) ∧ step (g a) e = g (step a e)) {rs : List (List Int)} (hr : ∀ r ∈ rs, ∀ k ∈ r, x.inR k) {a : α} (ha : Inv a) : ∀ t, runT x step rs (g a) t = g (runT x step rs a t)
  | 0 => by rw [runT_zero, runT_zero]
  | t + 1 => by
    by_cases hne : rs = []
    · subst hne; rfl
    · rw [runT_succ x step hne, runT_succ x step hne, runT_comm hf hr ha t]
      have hlt : t % rs.length < rs.length := Nat.mod_lt _ (List.length_pos_iff.2 hne)
      have : rs.getD (t % rs.length) [] = rs[t % rs.length] := by simp [hlt]
      rw [this]
      exact runR_comm hf (hr _ (List.getElem_mem hlt)) (runT_inv x step (fun a e he h => (hf a e he h).1) hr ha t)
end
/-- Monotone maps go through exchanges. -/
theorem exch_map {f : Int → Int} (hf : ∀ a b, a ≤ b → f a ≤ f b) (l : List Int) (e : T) (h1 : e.f.toNat < l.length) (h2 : e.t.toNat < l.length) : exch (l.map f) e = (exch l e).map f := by
  unfold exch
  have g1 : (l.map f).getD e.f.toNat 0 = f (l.getD e.f.toNat 0) := by simp [h1]
  have g2 : (l.map f).getD e.t.toNat 0 = f (l.getD e.t.toNat 0) := by simp [h2]
  rw [g1, g2, List.map_set, List.map_set]
  generalize l.getD e.f.toNat 0 = a
  generalize l.getD e.t.toNat 0 = b
  have hmin : min (f a) (f b) = f (min a b) := by
    rcases Int.le_total a b with h | h
    · rw [Int.min_eq_left h, Int.min_eq_left (hf _ _ h)]
    · rw [Int.min_eq_right h, Int.min_eq_right (hf _ _ h)]
  have hmax : max (f a) (f b) = f (max a b) := by
    rcases Int.le_total a b with h | h
    · rw [Int.max_eq_right h, Int.max_eq_right (hf _ _ h)]
    · rw [Int.max_eq_left h, Int.max_eq_left (hf _ _ h)]
  rw [hmin, hmax]
theorem exch_perm (l : List Int) (e : T) (h1 : e.f.toNat < l.length) (h2 : e.t.toNat < l.length) : (exch l e).Perm l := by
  unfold exch
  rw [show l.getD e.f.toNat 0 = l[e.f.toNat] by simp [h1], show l.getD e.t.toNat 0 = l[e.t.toNat] by simp [h2]]
  rcases Int.le_total l[e.f.toNat] l[e.t.toNat] with h | h
  · rw [Int.min_eq_left h, Int.max_eq_right h, List.set_getElem_self, List.set_getElem_self]
  · rw [Int.min_eq_right h, Int.max_eq_left h]
    exact List.set_set_perm h1 h2
/-- Bits of a number. -/
theorem bitV_eq (s i : Nat) (hs : s < 4096) (hi : i < 12) : bitV s i = if s.testBit i then 1 else 0 := by
  have h1 : (s : Int).fdiv (2 ^ (min i IntKind.i64.bits)) = ((s / 2 ^ i : Nat) : Int) := by
    rw [show min i IntKind.i64.bits = i by rw [show IntKind.i64.bits = 64 from rfl]; omega]
    rw [Int.fdiv_eq_ediv_of_nonneg _ (by exact Int.le_of_lt (Int.pow_pos (by omega)))]
    simp
  unfold bitV
  rw [h1]
  unfold bits
  simp only
  have h2 : (BitVec.ofInt IntKind.i64.bits ((s / 2 ^ i : Nat) : Int) &&& BitVec.ofInt IntKind.i64.bits 1).toNat = (s / 2 ^ i) % 2 := by
    have hle : s / 2 ^ i ≤ s := Nat.div_le_self ..
    rw [BitVec.toNat_and, show IntKind.i64.bits = 64 from rfl, BitVec.ofInt_natCast, BitVec.toNat_ofNat, Nat.mod_eq_of_lt (by omega), show (BitVec.ofInt 64 1).toNat = 1 from rfl, Nat.and_one_is_mod]
  rw [h2, Nat.testBit_eq_decide_div_mod_eq]
  rcases Nat.mod_two_eq_zero_or_one (s / 2 ^ i) with h | h
  · rw [h]; rfl
  · rw [h]; rfl
theorem vals_of : ∀ (n : Nat) (b : List Int), b.length = n → (∀ a ∈ b, a = 0 ∨ a = 1) → n ≤ 12 → ∃ s : Nat, s < 2 ^ n ∧ vals n s = b
  | 0, b, h, _, _ => ⟨0, by simp, by simp [vals, List.eq_nil_of_length_eq_zero h]⟩
  | n + 1, b, h, hb, hn => by
    rcases List.eq_nil_or_concat b with rfl | ⟨b', c, rfl⟩
    · simp at h
    · simp only [List.concat_eq_append, List.length_append, List.length_cons, List.length_nil, Nat.add_right_cancel_iff] at h
      obtain ⟨s, h1, h2⟩ := vals_of n b' (by omega) (fun a ha => hb a (by simp [ha])) (by omega)
      have hp : 2 ^ n ≤ 2048 := by
        have : 2 ^ n ≤ 2 ^ 11 := Nat.pow_le_pow_right (by omega) (by omega)
        omega
      have hpp : 2 ^ (n + 1) = 2 * 2 ^ n := by rw [Nat.pow_succ]; omega
      rcases hb c (by simp) with rfl | rfl
      · refine ⟨s, by omega, ?_⟩
        rw [vals_succ, h2, bitV_eq s n (by omega) (by omega), Nat.testBit_lt_two_pow h1]
        simp
      · refine ⟨2 ^ n + s, by omega, ?_⟩
        have hv : vals n ((2 ^ n + s : Nat) : Int) = vals n (s : Int) := by
          unfold vals
          apply List.map_congr_left
          intro i hi
          have hi := List.mem_range.1 hi
          rw [bitV_eq _ i (by omega) (by omega), bitV_eq s i (by omega) (by omega), Nat.testBit_two_pow_add_gt hi]
        rw [vals_succ, hv, h2, bitV_eq _ n (by omega) (by omega), Nat.testBit_two_pow_add_eq, Nat.testBit_lt_two_pow h1]
        simp
/-- Rounds that sort all values of two kinds sort all. -/
theorem saOk_sorts {x : Gr} {rs : List (List Int)} {times : Int} (h : x.saOk rs times) (v : List Int) (hv : (v.length : Int) = x.n) : sortedP (runT x exch rs v times.toNat) := by
  obtain ⟨⟨⟨hx, hok⟩, ht⟩, hs⟩ := h
  have hn := hx.2.1
  have hr : ∀ r ∈ rs, ∀ k ∈ r, x.inR k := fun r hr k hk => (hok.1 r hr).2.2.1 k hk
  have hinv : ∀ (a : List Int) (e : T), e ∈ x.ts → a.length = v.length → (exch a e).length = v.length ∧ ∀ f : Int → Int, (∀ a b, a ≤ b → f a ≤ f b) → exch (a.map f) e = (exch a e).map f := fun a e he ha => by
    have hel := hx.el he
    unfold Gr.el at hel
    exact ⟨by rw [exch_length]; exact ha, fun f hf => exch_map hf a e (by omega) (by omega)⟩
  have hlen : (runT x exch rs v times.toNat).length = v.length := runT_inv x exch (Inv := fun l => l.length = v.length) (fun a e he ha => (hinv a e he ha).1) hr rfl times.toNat
  intro j hj
  refine Classical.byContradiction fun hno => ?_
  obtain ⟨θ, hθ⟩ : ∃ θ, θ = (runT x exch rs v times.toNat)[j] := ⟨_, rfl⟩
  obtain ⟨f, hf⟩ : ∃ f : Int → Int, f = fun a => if θ ≤ a then 1 else 0 := ⟨_, rfl⟩
  have hmono : ∀ a b, a ≤ b → f a ≤ f b := fun a b hab => by
    rw [hf]; simp only
    split <;> split <;> omega
  have hcomm := runT_comm (x := x) (step := exch) (g := List.map f) (Inv := fun l => l.length = v.length) (fun a e he ha => ⟨(hinv a e he ha).1, (hinv a e he ha).2 f hmono⟩) hr (a := v) rfl times.toNat
  obtain ⟨s, hs1, hs2⟩ := vals_of v.length (v.map f) (by simp) (fun a ha => by
    obtain ⟨c, _, rfl⟩ := List.mem_map.1 ha
    rw [hf]; simp only
    split <;> simp) (by omega)
  have hvn : v.length = x.n.toNat := by omega
  have := hs s (by rw [← hvn]; exact hs1)
  rw [← hvn, hs2, hcomm] at this
  have h2 := this j (by simpa using hj)
  simp only [List.getElem_map] at h2
  rw [← hθ] at h2
  have e1 : f θ = 1 := by rw [hf]; simp
  have e2 : f (runT x exch rs v times.toNat)[j + 1] = 0 := by rw [hf]; simp only; rw [if_neg (by omega)]
  rw [e1, e2] at h2
  omega
end Go.AG
