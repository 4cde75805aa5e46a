/- Stable order of any rising list of at most 48 numbers. No statement is made here. -/
import Derived.Test.YtamjnegnoijjlaaSoH
namespace Go.AG
open Go.Proofs Go.Proofs.Ytamjnegnoijjlaa
set_option linter.unusedSimpArgs false
set_option linter.unusedVariables false
set_option maxRecDepth 4000
def ordG (k : Int → Int) (l : List Int) : List Int := l.mergeSort fun a b => decide (k a < k b ∨ k a = k b ∧ a ≤ b)
theorem ordG_perm (k : Int → Int) (l : List Int) : (ordG k l).Perm l := List.mergeSort_perm _ _
theorem ordG_len (k : Int → Int) (l : List Int) : (ordG k l).length = l.length := (ordG_perm k l).length_eq
theorem ordG_srt (k : Int → Int) {l : List Int} (hl : l.Pairwise (· < ·)) : (ordG k l).Pairwise (lt2 k) := by
  have h1 : (ordG k l).Pairwise fun a b => decide (k a < k b ∨ k a = k b ∧ a ≤ b) = true := List.pairwise_mergeSort (fun a b c => by simp; omega) (fun a b => by simp; omega) _
  have h2 : (ordG k l).Nodup := (ordG_perm k l).nodup_iff.2 (List.nodup_iff_pairwise_ne.2 (hl.imp fun h => by omega))
  refine (List.pairwise_and_iff.2 ⟨h1, List.nodup_iff_pairwise_ne.1 h2⟩).imp fun {a b} h => ?_
  have := h.1
  simp only [decide_eq_true_eq] at this
  have := h.2
  unfold lt2; omega
theorem arr_memG {f0 f : Nat → Int} {n : Nat} (h : Same f0 f 0 n) (a : Int) : a ∈ arr n f ↔ a ∈ arr n f0 := by
  unfold arr
  rw [List.mem_map, List.mem_map]
  constructor
  · rintro ⟨p, hp, rfl⟩
    obtain ⟨q, _, q2, e⟩ := h.2.1 p (Nat.zero_le _) (List.mem_range.1 hp)
    exact ⟨q, List.mem_range.2 q2, e.symm⟩
  · rintro ⟨p, hp, rfl⟩
    obtain ⟨q, _, q2, e⟩ := h.2.2 p (Nat.zero_le _) (List.mem_range.1 hp)
    exact ⟨q, List.mem_range.2 q2, e.symm⟩
theorem arr_of (l : List Int) : arr l.length (fun p => l.getD p 0) = l := by
  apply List.ext_getElem (by simp [arr])
  intro i h1 h2
  simp [arr, h2]
theorem sortSt_g {v : AV} {l : List Int} {hp h : Heap} {g : FuncId} {caps : List AV} {k : Int → Int} {dm : Int → Prop} (C : Cm Try.prog g caps k dm) (hl : l.Pairwise (· < ·)) (hn : l.length ≤ 48) (hd : ∀ a ∈ l, dm a) (G : Grow 1 v (l.map iv) hp) : ACalls Try.prog 125 [v, .fn g caps] (hp ++ h) (fun r h' => r = .tup [] ∧ ∃ hp', OwnL iv 1 v (ordG k l) hp' ∧ dom hp' = dom hp ∧ h' = hp' ++ h) := by
  have z0 : ∀ u : AV, u = .nilsl ∨ u = .emp → l = [] → OwnL iv 1 u [] [] → ACalls Try.prog 125 [u, .fn g caps] ([] ++ h) (fun r h' => r = .tup [] ∧ ∃ hp', OwnL iv 1 u (ordG k l) hp' ∧ dom hp' = dom ([] : Heap) ∧ h' = hp' ++ h) := by
    intro u hu hl0 ho
    have e0 : ordG k l = [] := List.length_eq_zero_iff.1 (by rw [ordG_len, hl0]; rfl)
    rw [e0]
    have hlr : lenR u = .val (.int .i64 0) := by rcases hu with rfl | rfl <;> simp
    have hc0 : isCell u = true := by rcases hu with rfl | rfl <;> rfl
    have c1 := stb0_s (c := .fn g caps) hu h
    suffices H : ACalls Try.prog 125 [u, .fn g caps] ([] ++ h) (fun r h' => r = .tup [] ∧ h' = h) from H.mono fun r h' ⟨a1, a2⟩ => ⟨a1, [], ho, rfl, by simpa using a2⟩
    refine k125_of0 rfl noPure fun I => ?_
    refine Run2.of I 1000 ?_
    simp -implicitDefEqProofs [hlr, hc0]
    refine c1.mono ?_
    rintro v h' ⟨rfl, rfl⟩
    refine gK.go ?_
    simp -implicitDefEqProofs
  have hinc : ∀ p q, p < q → q < l.length → l.getD p 0 < l.getD q 0 := fun p q h1 h2 => by
    have h3 : p < l.length := by omega
    have := List.pairwise_iff_getElem.1 hl p q h3 h2 h1
    simpa [h2, h3] using this
  have hdd : ∀ p, p < l.length → dm (l.getD p 0) := fun p hp => by
    have := hd _ (List.getElem_mem hp)
    simpa [hp] using this
  generalize hm : l.map iv = m at G
  cases G with
  | nil => exact z0 _ (.inl rfl) (by simpa using hm) .nil
  | emp => exact z0 _ (.inr rfl) (by simpa using hm) .emp
  | sl id m q hq =>
    subst hm
    simp only [List.length_map] at hq
    subst hq
    have c1 := stb_g (id := id) (tl := h) C hn (f0 := fun p => l.getD p 0) hinc hdd
    rw [arr_of] at c1
    suffices H : ACalls Try.prog 125 [.sl id 1 0 l.length none, .fn g caps] ([(id, ⟨1, l.map iv⟩)] ++ h) (OutS k id l.length (fun p => l.getD p 0) h 0 l.length) from H.mono fun r h' ⟨f', s1, o1, a1, a2⟩ => ⟨a1, [(id, ⟨1, (arr l.length f').map iv⟩)], by
      rw [← lt2_ext (arr_srt o1) (ordG_srt k hl) fun a => by rw [arr_memG s1, arr_of, (ordG_perm k l).mem_iff]]
      have := OwnL.sl (enc := iv) (sz := 1) (l := arr l.length f') id none [] rfl
      simpa [arr_len] using this, rfl, by simpa using a2⟩
    refine k125_of0 rfl noPure fun I => ?_
    refine Run2.of I 1000 ?_
    simp -implicitDefEqProofs
    refine c1.mono ?_
    rintro v h' ⟨f', s1, o1, rfl, rfl⟩
    refine gK.go ?_
    simp -implicitDefEqProofs
    exact ⟨f', s1, o1, rfl, rfl⟩
end Go.AG
