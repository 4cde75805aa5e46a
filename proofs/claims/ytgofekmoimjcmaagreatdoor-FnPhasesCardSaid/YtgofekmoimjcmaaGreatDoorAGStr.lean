/- Texts: what the library's contracts of the kit (numbers in decimal, texts joined) say in the words of our own layer. No statement about the program is made here. -/
import Derived.Test.YtgofekmoimjcmaaGreatDoorAGSort
import Derived.Test.YtgofekmoimjcmaaGreatDoorAGByte
import Derived.Lib.LaidTab
import Derived.Lib.ItoaNum
import Derived.Lib.Join
import Derived.Deep.Draws
namespace Go.AG
open Go.RowKit Go.Sort
set_option linter.unusedVariables false
set_option linter.unusedSimpArgs false
def sv (s : List UInt8) : AV := .str s
@[simp] theorem sv_eq (s : List UInt8) : sv s = .str s := rfl
@[simp] theorem cold_sv (s : List UInt8) : cold (.str s) = true := rfl
@[simp] theorem colds_sv (l : List (List UInt8)) : colds (l.map sv) = true := by
  induction l with
  | nil => rfl
  | cons a l ih => simp only [List.map_cons, colds, ih]; rfl
@[simp] theorem fzs_sv (id : Nat) (b : Blk) (l : List (List UInt8)) : fzs id b (l.map sv) = l.map sv := fzs_cold id b _ (colds_sv l)
theorem Keeps.below {w w' : World} (B : Below w.heap.size w w') (D : List Nat) (hD : ∀ b ∈ D, b < w.heap.size) : Keeps w w' D D :=
  ⟨B.size, fun b hb _ => B.block b hb, fun _ _ h => h, fun b c el fz h => ⟨c, (B.block b (Array.getElem?_eq_some_iff.1 h).1).trans h, rfl⟩⟩
theorem HRel.below {w w' : World} {h : Heap} (H : HRel w h) (B : Below w.heap.size w w') : HRel w' h ∧ Evolve w (dom h) w' (dom h) := by
  have K := Keeps.below B (dom h) fun b hb => H.lt hb
  refine ⟨⟨H.nd, fun p hp => ?_, H.fix.mono K⟩, ⟨K, B.os, B.tape, B.output, fun h => absurd h (by decide)⟩⟩
  obtain ⟨c, el, e, hE⟩ := H.all p hp
  have hlt := H.lt (List.mem_map.2 ⟨p, hp, rfl⟩)
  have hb := B.block _ hlt
  exact ⟨c, el, hb.trans e, Elems.mono K _ _ _ _ (fun o => cell_block hb o) hE⟩
/-- From the kit's contract of strings.Join. -/
theorem join_of {P : Program} {g : FuncId} (hok : CallOk P g)
    (HC : ∀ (bk o c : Nat) (xs : List ByteArray) (sep : ByteArray) (w : World), (∀ (j : Nat) x, xs[j]? = some x → w.cell? ⟨bk, o + j, none⟩ = some (.string x)) → bk < w.heap.size → xs.length ≤ 140737488355328 → xs.length ≤ c → (Lib.join (xs.map (·.data.toList)) sep.data.toList).length ≤ 140737488355328 →
      Calls P g #[.slice (some ⟨bk, o, none⟩) xs.length c, .string sep] w fun e w' => e = .returned (.string ⟨(Lib.join (xs.map (·.data.toList)) sep.data.toList).toArray⟩) ∧ Below w.heap.size w w')
    (HN : ∀ (a : Option Addr) (c : Nat) (sep : ByteArray) (w : World), Calls P g #[.slice a 0 c, .string sep] w fun e w' => e = .returned (.string ⟨#[]⟩) ∧ w' = w)
    (xs : List (List UInt8)) (sep : List UInt8) (h : Heap) (hl : xs.length ≤ 1099511627776) (hj : (Lib.join xs sep).length ≤ 140737488355328) :
    ACalls P g [.snap 1 (xs.map sv), .str sep] h (fun v h' => v = .str (Lib.join xs sep) ∧ h' = h) := by
  refine ⟨hok, fun w vs H hv => ?_⟩
  obtain ⟨v, r, rfl, hv, u, r', rfl, hu, hr⟩ := hv
  cases hr
  have hu' : u = .string ⟨sep.toArray⟩ := hu
  subst hu'
  obtain ⟨A, c, rfl, h1, h2, h3⟩ := hv
  simp only [List.length_map] at h1 ⊢
  by_cases h0 : xs = []
  · subst h0
    refine (HN A c ⟨sep.toArray⟩ w).mono fun e w' ⟨e1, e2⟩ => ?_
    subst e2
    exact ⟨_, .str [], _, e1, rfl, H, .refl _ _, rfl, rfl⟩
  · have hne : xs.map sv ≠ [] := by simpa using h0
    obtain ⟨ad, rfl⟩ : ∃ ad, A = some ad := by
      cases A with
      | none => exact absurd (h2 rfl) hne
      | some ad => exact ⟨ad, rfl⟩
    obtain ⟨g1, g2, g3⟩ := h3 ad rfl
    obtain ⟨b, o, sp⟩ := ad
    have hsp : sp = none := g1 hne
    subst hsp
    obtain ⟨hb1, hb2⟩ := g2 hne
    rw [Elems_iff] at g3
    have hm : (xs.map fun s => (⟨s.toArray⟩ : ByteArray)).map (·.data.toList) = xs := by
      rw [List.map_map]
      conv => rhs; rw [← List.map_id xs]
      exact List.map_congr_left fun s _ => by simp
    have hC := HC b o c (xs.map fun s => ⟨s.toArray⟩) ⟨sep.toArray⟩ w (fun j x hx => by
      have hj : j < xs.length := by
        have := (List.getElem?_eq_some_iff.1 hx).1
        simpa using this
      have hx' : x = ⟨(xs[j]).toArray⟩ := by simpa [hj] using hx.symm
      have := (g3 j (sv xs[j]) (by simp [hj])).2
      rw [Cells_iff] at this
      obtain ⟨u, q1, q2, q3⟩ := this 0 (.str xs[j]) rfl
      have q3' : u = .string ⟨(xs[j]).toArray⟩ := q3
      rw [hx', ← q3']
      simpa using q1) hb2 (by simp; omega) (by simpa using h1) (by rw [hm]; simpa using hj)
    rw [hm] at hC
    simp only [List.length_map] at hC
    refine hC.mono fun e w' ⟨e1, e2⟩ => ?_
    obtain ⟨H', E⟩ := H.below e2
    exact ⟨_, .str (Lib.join xs sep), _, e1, rfl, H', E, rfl, rfl⟩
theorem HRel.drewN {w : World} {h : Heap} (H : HRel w h) (k : Nat) : HRel (w.drewN k) h ∧ Evolve w (dom h) (w.drewN k) (dom h) := by
  have K : Keeps w (w.drewN k) (dom h) (dom h) := ⟨Nat.le_refl _, fun _ _ _ => rfl, fun _ _ h => h, fun _ c _ _ h => ⟨c, h, rfl⟩⟩
  refine ⟨⟨H.nd, fun p hp => ?_, H.fix.mono K⟩, ⟨K, rfl, rfl, rfl, fun _ => Nat.le_add_right _ _⟩⟩
  obtain ⟨c, el, e, hE⟩ := H.all p hp
  exact ⟨c, el, e, Elems.mono K _ _ _ _ (fun _ => rfl) hE⟩
/-- From the kit's contract of strconv.FormatInt at base 10. -/
theorem fmt10_of {P : Program} {g : FuncId} (hok : CallOk P g) {gid : Nat} (hg : P.globalNamed "internal/strconv.uint64pow10" = some gid) (hm : (gid, (Lib.pow10Tab.map fun z => Value.int .u64 z).toArray) ∈ laidV)
    (HC : ∀ (n : Int), -9223372036854775808 ≤ n → n ≤ 9223372036854775807 → ∀ w : World, Lib.TabIs P w "internal/strconv.uint64pow10" .u64 Lib.pow10Tab →
      Calls P g #[.int .i64 n, .int .i64 10] w fun e w' => e = .returned (.string ⟨(Lib.itoa n).toArray⟩) ∧ ∃ k os, w' = Sort.grow (w.drewN k) os)
    (n : Int) (h : Heap) (h0 : -9223372036854775808 ≤ n) (h1 : n ≤ 9223372036854775807) :
    ACalls P g [.int .i64 n, .int .i64 10] h (fun v h' => v = .str (Lib.itoa n) ∧ h' = h) := by
  refine ⟨hok, fun w vs H hv => ?_⟩
  obtain ⟨v, r, rfl, hv, u, r', rfl, hu, hr⟩ := hv
  cases hr
  have hv' : v = .int .i64 n := hv
  have hu' : u = .int .i64 10 := hu
  subst hv' hu'
  have ht : Lib.TabIs P w "internal/strconv.uint64pow10" .u64 Lib.pow10Tab := by
    obtain ⟨_, el, fz, e⟩ := H.fix.1 _ hm
    unfold Lib.TabIs World.var?
    rw [hg]
    simp [e]
  refine (HC n h0 h1 w ht).mono fun e w' ⟨e1, k, os, e2⟩ => ?_
  subst e2
  obtain ⟨H1, E1⟩ := H.drewN k
  obtain ⟨H2, E2⟩ := H1.grow os
  exact ⟨_, .str (Lib.itoa n), _, e1, rfl, H2, E1.trans E2, rfl, rfl⟩
/-! ## Digits -/
theorem dd_small {u : Nat} (h : u < 10) : (Lib.decDigits u).reverse = [UInt8.ofNat (48 + u)] := by rw [Lib.decDigits, dif_pos h]; rfl
theorem dd_big {u : Nat} (h : ¬ u < 10) : (Lib.decDigits u).reverse = UInt8.ofNat (48 + u % 10) :: (Lib.decDigits (u / 10)).reverse := by rw [Lib.decDigits, dif_neg h]; simp
theorem dd_len : ∀ (k u : Nat), u < 10 ^ (k + 1) → (Lib.decDigits u).length ≤ k + 1
  | 0, u, h => by rw [Lib.decDigits, dif_pos (by simpa using h)]; simp
  | k + 1, u, h => by
    rw [Lib.decDigits]
    split
    · simp
    · have := dd_len k (u / 10) (by rw [Nat.pow_succ] at h; omega)
      simp; omega
theorem dd_len20 {u : Nat} (h : u ≤ 9223372036854775808) : (Lib.decDigits u).length ≤ 20 := dd_len 19 u (by omega)
theorem itoa_len {n : Int} (h0 : -9223372036854775808 ≤ n) (h1 : n ≤ 9223372036854775807) : (Lib.itoa n).length ≤ 21 := by
  unfold Lib.itoa
  split
  · have := dd_len20 (u := n.natAbs) (by omega)
    simp; omega
  · have := dd_len20 (u := n.toNat) (by omega)
    omega
/-- The digits so far and the rest of the number. -/
def digAt (U : Nat) (D : List UInt8) (u : Nat) : Prop := if u = 0 then D = (Lib.decDigits U).reverse else D ++ (Lib.decDigits u).reverse = (Lib.decDigits U).reverse
theorem digAt_len {U : Nat} {D : List UInt8} {u : Nat} (h : digAt U D u) (hU : U ≤ 9223372036854775808) : D.length ≤ 20 := by
  have h1 := dd_len20 hU
  unfold digAt at h
  split at h
  · rw [h, List.length_reverse]; exact h1
  · have := congrArg List.length h
    simp at this
    omega
theorem digAt_next {U : Nat} {D : List UInt8} {u : Nat} (h : digAt U D u) (hu : u ≠ 0) : digAt U (D ++ [UInt8.ofNat (48 + u % 10)]) (u / 10) := by
  unfold digAt at h ⊢
  rw [if_neg hu] at h
  by_cases h10 : u < 10
  · rw [if_pos (by omega), ← h, dd_small h10, Nat.mod_eq_of_lt h10]
  · rw [if_neg (by omega), ← h, dd_big h10]; simp
end Go.AG
