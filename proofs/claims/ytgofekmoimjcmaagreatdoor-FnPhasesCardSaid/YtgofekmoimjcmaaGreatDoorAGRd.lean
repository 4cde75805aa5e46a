/- Texts divided and numbers read: what the library's contracts of the kit say in the words of our own layer. No statement about the program is made here. -/
import Derived.Test.YtgofekmoimjcmaaGreatDoorAGStr
import Derived.Lib.SplitLaws
import Derived.Lib.Split
import Derived.Lib.ParseIntBTie
import Derived.Lib.Strings
import Derived.Lib.AtoiErrMem
namespace Go.AG
open Go.Lib
set_option linter.unusedVariables false
set_option linter.unusedSimpArgs false
/-! ## Digits -/
def isDig (b : UInt8) : Prop := 48 ≤ b.toNat ∧ b.toNat ≤ 57
instance (b : UInt8) : Decidable (isDig b) := inferInstanceAs (Decidable (_ ∧ _))
def valD (a : Nat) (l : List UInt8) : Nat := l.foldl (fun a b => a * 10 + (b.toNat - 48)) a
theorem vD0 (a : Nat) : valD a [] = a := rfl
theorem vDc (a : Nat) (b : UInt8) (r : List UInt8) : valD a (b :: r) = valD (a * 10 + (b.toNat - 48)) r := by unfold valD; rw [List.foldl_cons]
theorem valD_app : ∀ (l m : List UInt8) (a : Nat), valD a (l ++ m) = valD (valD a l) m
  | [], _, _ => rfl
  | b :: r, m, a => by rw [List.cons_append, vDc, vDc]; exact valD_app r m _
theorem valD_mono : ∀ (l : List UInt8) (a : Nat), a ≤ valD a l
  | [], a => Nat.le_refl _
  | b :: r, a => by rw [vDc]; exact Nat.le_trans (by omega) (valD_mono r _)
theorem valD_lt : ∀ (l : List UInt8) (a : Nat), (∀ b ∈ l, isDig b) → valD a l < (a + 1) * 10 ^ l.length
  | [], a, _ => by rw [vD0]; simp
  | b :: r, a, h => by
    rw [vDc, List.length_cons, Nat.pow_succ]
    have hb := h b (List.mem_cons_self ..)
    unfold isDig at hb
    have := valD_lt r (a * 10 + (b.toNat - 48)) (fun x hx => h x (List.mem_cons_of_mem _ hx))
    refine Nat.lt_of_lt_of_le this ?_
    have h2 : a * 10 + (b.toNat - 48) + 1 ≤ (a + 1) * 10 := by omega
    calc _ ≤ ((a + 1) * 10) * 10 ^ r.length := Nat.mul_le_mul_right _ h2
      _ = _ := by rw [Nat.mul_assoc, Nat.mul_comm 10]
theorem u8_of (n : Nat) (h : n < 256) : (UInt8.ofNat n).toNat = n := by simp; omega
theorem dd_dig (u : Nat) : ∀ b ∈ decDigits u, isDig b := by
  induction u using Nat.strongRecOn with
  | ind u ih =>
    intro b hb
    rw [decDigits] at hb
    split at hb
    · obtain rfl := List.mem_singleton.1 hb
      unfold isDig
      rw [u8_of _ (by omega)]; omega
    · rcases List.mem_append.1 hb with hb | hb
      · exact ih _ (by omega) b hb
      · obtain rfl := List.mem_singleton.1 hb
        unfold isDig
        rw [u8_of _ (by omega)]; omega
theorem dd_val (u : Nat) : valD 0 (decDigits u) = u := by
  induction u using Nat.strongRecOn with
  | ind u ih =>
    rw [decDigits]
    split
    · rw [vDc, vD0, u8_of _ (by omega)]; omega
    · rw [valD_app, ih _ (by omega), vDc, vD0, u8_of _ (by omega)]; omega
theorem dd_ne (u : Nat) : decDigits u ≠ [] := by
  rw [decDigits]; split <;> simp
theorem dd_inj {u v : Nat} (h : decDigits u = decDigits v) : u = v := by rw [← dd_val u, h, dd_val]
theorem dd_head0 (u : Nat) : ∀ r, decDigits u = 48 :: r → u = 0 ∧ r = [] := by
  induction u using Nat.strongRecOn with
  | ind u ih =>
    intro r h
    rw [decDigits] at h
    split at h
    · have h1 := List.head_eq_of_cons_eq h
      have h2 := List.tail_eq_of_cons_eq h
      have := congrArg UInt8.toNat h1
      rw [u8_of _ (by omega)] at this
      have h48 : (48 : UInt8).toNat = 48 := rfl
      exact ⟨by omega, h2.symm⟩
    · cases hd : decDigits (u / 10) with
      | nil => exact absurd hd (dd_ne _)
      | cons a t =>
        rw [hd, List.cons_append] at h
        have h1 := List.head_eq_of_cons_eq h
        rw [h1] at hd
        have := (ih (u / 10) (by omega) t hd).1
        omega
/-- A list of digits without a leading zero is the text of its value. -/
theorem dd_of_val : ∀ (k : Nat) (D : List UInt8), D.length = k → D ≠ [] → (∀ b ∈ D, isDig b) → (∀ r, D = 48 :: r → r = []) → decDigits (valD 0 D) = D := by
  intro k
  induction k with
  | zero => intro D h0 hne; exact absurd (List.length_eq_zero_iff.1 h0) hne
  | succ k ih =>
    intro D hk hne hd hz
    obtain ⟨E, b, rfl⟩ : ∃ E b, D = E ++ [b] := ⟨D.dropLast, D.getLast hne, (List.dropLast_concat_getLast hne).symm⟩
    have hb := hd b (by simp)
    unfold isDig at hb
    have hbb : UInt8.ofNat (48 + (b.toNat - 48)) = b := by
      apply UInt8.toNat_inj.1
      rw [u8_of _ (by omega)]; omega
    rw [valD_app, vDc, vD0]
    by_cases hE : E = []
    · subst hE
      rw [vD0, List.nil_append, decDigits, dif_pos (by omega), Nat.zero_mul, Nat.zero_add, hbb]
    · have hE1 := ih E (by simpa using hk) hE (fun x hx => hd x (List.mem_append_left _ hx)) (fun r hr => by
        subst hr
        have := hz (r ++ [b]) (by simp)
        simp at this)
      have hv : valD 0 E ≠ 0 := by
        intro h0
        rw [h0, decDigits, dif_pos (by omega)] at hE1
        have e48 : UInt8.ofNat (48 + 0) = 48 := rfl
        rw [e48] at hE1
        rw [← hE1] at hz
        have := hz [b] rfl
        simp at this
      rw [decDigits, dif_neg (by omega)]
      have e1 : (valD 0 E * 10 + (b.toNat - 48)) / 10 = valD 0 E := by omega
      have e2 : (valD 0 E * 10 + (b.toNat - 48)) % 10 = b.toNat - 48 := by omega
      rw [e1, e2, hE1, hbb]
theorem dd_lt18 {u : Nat} (h : (decDigits u).length ≤ 18) : u < 10 ^ 18 := by
  have := valD_lt (decDigits u) 0 (dd_dig u)
  rw [dd_val] at this
  refine Nat.lt_of_lt_of_le this ?_
  rw [Nat.zero_add, Nat.one_mul]
  exact Nat.pow_le_pow_right (by omega) h
theorem itoa_inj {n m : Int} (h : itoa n = itoa m) : n = m := by
  have key : ∀ u v : Nat, decDigits u ≠ 45 :: decDigits v := fun u v e => by
    have := dd_dig u 45 (by rw [e]; exact List.mem_cons_self ..)
    unfold isDig at this
    have h45 : (45 : UInt8).toNat = 45 := rfl
    omega
  unfold itoa at h
  split at h <;> split at h
  · have := dd_inj (List.tail_eq_of_cons_eq h); omega
  · exact absurd h.symm (key _ _)
  · exact absurd h (key _ _)
  · have := dd_inj h; omega
/-! ## A number of at most 18 digits -/
def in18 (n : Int) : Prop := -1000000000000000000 < n ∧ n < 1000000000000000000
noncomputable def rd (s : List UInt8) : Int × Bool :=
  open Classical in if h : ∃ n, s = itoa n ∧ in18 n then (h.choose, true) else (0, false)
theorem rd_some {s : List UInt8} {n : Int} (h : s = itoa n) (hn : in18 n) : rd s = (n, true) := by
  unfold rd
  have hx : ∃ n, s = itoa n ∧ in18 n := ⟨n, h, hn⟩
  rw [dif_pos hx]
  have := hx.choose_spec.1
  rw [itoa_inj (this.symm.trans h)]
theorem rd_none {s : List UInt8} (h : ∀ n, s = itoa n → ¬ in18 n) : rd s = (0, false) := by
  unfold rd
  rw [dif_neg (fun ⟨n, h1, h2⟩ => h n h1 h2)]
theorem rd_spec {s : List UInt8} {n : Int} (h : rd s = (n, true)) : s = itoa n ∧ in18 n := by
  unfold rd at h
  split at h
  · rename_i hx
    have e := (Prod.mk.inj h).1
    rw [← e]
    exact hx.choose_spec
  · exact absurd (Prod.mk.inj h).2 (by simp)
theorem rd_in (s : List UInt8) : in18 (rd s).1 := by
  unfold rd
  split
  · rename_i hx; exact hx.choose_spec.2
  · unfold in18; simp
theorem rd_false {s : List UInt8} (h : (rd s).2 = false) : rd s = (0, false) := by
  unfold rd at h ⊢
  split at h
  · simp at h
  · rename_i hx; rw [dif_neg hx]
/-- The digits behind a sign. -/
def tl (s : List UInt8) : List UInt8 := if s.head? = some 45 then s.tail else s
theorem tl_itoa (n : Int) : tl (itoa n) = decDigits n.natAbs := by
  unfold itoa tl
  by_cases hn : n < 0
  · rw [if_pos hn]; simp
  · rw [if_neg hn]
    have e : n.toNat = n.natAbs := by omega
    rw [e]
    split
    · rename_i h
      have hm : (45 : UInt8) ∈ decDigits n.natAbs := List.mem_of_mem_head? h
      have := dd_dig _ _ hm
      unfold isDig at this
      have h45 : (45 : UInt8).toNat = 45 := rfl
      omega
    · rfl
theorem trim_tl (s : List UInt8) : trimPrefix s [45] = tl s := by
  unfold trimPrefix tl hasPrefix
  cases s with
  | nil => rfl
  | cons b r =>
    by_cases hb : b = 45
    · subst hb; simp
    · have : ¬ (45 : UInt8) = b := fun h => hb h.symm
      simp [hb, this]
theorem rd_len {s : List UInt8} (h : (tl s).length < 1 ∨ 18 < (tl s).length) : rd s = (0, false) := rd_none fun n e hn => by
  subst e
  rw [tl_itoa] at h
  have h1 := dd_ne n.natAbs
  have h2 := dd_len 17 n.natAbs (by unfold in18 at hn; omega)
  have h3 : (decDigits n.natAbs).length ≠ 0 := fun e => h1 (List.length_eq_zero_iff.1 e)
  omega
/-- What the reference computes. -/
theorem rd_zero {s : List UInt8} {r : List UInt8} (h : tl s = 48 :: r) (hs : 1 < s.length) : rd s = (0, false) := rd_none fun n e hn => by
  subst e
  rw [tl_itoa] at h
  obtain ⟨h1, h2⟩ := dd_head0 _ _ h
  have : n = 0 := by omega
  subst this
  rw [show itoa 0 = [48] by unfold itoa; rw [if_neg (by omega)]; unfold decDigits; rfl] at hs
  simp at hs
theorem rd_nodig {s : List UInt8} {b : UInt8} (h : b ∈ tl s) (hb : ¬ isDig b) : rd s = (0, false) := rd_none fun n e hn => by
  subst e
  rw [tl_itoa] at h
  exact hb (dd_dig _ _ h)
theorem rd_val {s : List UInt8} (h1 : tl s ≠ []) (h2 : (tl s).length ≤ 18) (h3 : ∀ r, tl s = 48 :: r → s.length ≤ 1) (h4 : ∀ b ∈ tl s, isDig b) :
    rd s = (if s.head? = some 45 then -(valD 0 (tl s) : Int) else (valD 0 (tl s) : Int), true) := by
  have hv := dd_of_val _ (tl s) rfl h1 h4 (fun r hr => by
    have := h3 r hr
    have hl : (tl s).length ≤ s.length := by unfold tl; split <;> simp
    rw [hr] at hl
    simp at hl
    exact List.length_eq_zero_iff.1 (by omega))
  have hlt : valD 0 (tl s) < 10 ^ 18 := dd_lt18 (by rw [hv]; exact h2)
  refine rd_some ?_ ?_
  · unfold itoa
    by_cases hh : s.head? = some 45
    · rw [if_pos hh]
      have hne : valD 0 (tl s) ≠ 0 := fun h0 => by
        rw [h0, decDigits, dif_pos (by omega)] at hv
        have := h3 [] hv.symm
        have e : tl s = s.tail := by unfold tl; rw [if_pos hh]
        rw [e] at h1
        cases s with
        | nil => simp at hh
        | cons a t => simp at this; simp [this] at h1
      rw [if_pos (by omega)]
      have e : (-(valD 0 (tl s) : Int)).natAbs = valD 0 (tl s) := by omega
      rw [e, hv]
      cases s with
      | nil => simp at hh
      | cons a t =>
        simp at hh
        subst hh
        simp [tl]
    · rw [if_neg hh, if_neg (by omega)]
      rw [Int.toNat_natCast, hv]
      unfold tl; rw [if_neg hh]
  · unfold in18
    split <;> omega
/-- ParseInt at the text of a number. -/
theorem parseU_ok : ∀ (l : List UInt8) (a : Nat), (∀ b ∈ l, isDig b) → valD a l < 1000000000000000000 → parseUintM (2 ^ 64 - 1) a l = .ok (valD a l)
  | [], a, _, _ => rfl
  | b :: r, a, hd, hv => by
    have hb := hd b (List.mem_cons_self ..)
    unfold isDig at hb
    rw [vDc] at hv ⊢
    have hm := valD_mono r (a * 10 + (b.toNat - 48))
    simp only [parseUintM]
    rw [if_pos hb, if_neg (by omega), if_neg (by omega)]
    exact parseU_ok r _ (fun x hx => hd x (List.mem_cons_of_mem _ hx)) hv
theorem parseI_itoa {n : Int} (hn : in18 n) : parseIntB 64 (itoa n) = .ok n := by
  have hu : parseUintB 64 (decDigits n.natAbs) = .ok n.natAbs := by
    unfold parseUintB
    rw [if_neg (dd_ne _), parseU_ok _ 0 (dd_dig _) (by rw [dd_val]; unfold in18 at hn; omega), dd_val]
  unfold in18 at hn
  unfold itoa
  by_cases h0 : n < 0
  · rw [if_pos h0, parseIntB_minus, hu]
    simp only [signedC]
    rw [if_neg (by omega)]
    congr 1; omega
  · rw [if_neg h0]
    have e : n.toNat = n.natAbs := by omega
    rw [e]
    cases hd : decDigits n.natAbs with
    | nil => exact absurd hd (dd_ne _)
    | cons c r =>
      have hc := dd_dig n.natAbs c (by rw [hd]; exact List.mem_cons_self ..)
      unfold isDig at hc
      rw [hd] at hu
      rw [parseIntB_plain _ _ _ (by omega) (by omega), hu]
      simp only [signlessC]
      rw [if_neg (by omega)]
      congr 1; omega
theorem rd_parse {s : List UInt8} {v : Int} (h : parseIntB 64 s = .ok v) (h1 : ¬ 18 < (tl s).length) : rd s = if itoa v = s then (v, true) else (0, false) := by
  split
  · rename_i e
    refine rd_some e.symm ?_
    rw [← e, tl_itoa] at h1
    have := dd_lt18 (u := v.natAbs) (by omega)
    unfold in18; omega
  · rename_i e
    refine rd_none fun n hn hi => e ?_
    subst hn
    rw [parseI_itoa hi] at h
    injection h with h
    rw [h]
theorem rd_parse_no {s : List UInt8} (h : ∀ v, parseIntB 64 s ≠ .ok v) : rd s = (0, false) := rd_none fun n hn hi => h n (by rw [hn]; exact parseI_itoa hi)
/-! ## A text divided at a byte -/
def spl (c : UInt8) : List UInt8 → List (List UInt8)
  | [] => [[]]
  | b :: r => if b = c then [] :: spl c r else (b :: (spl c r).headD []) :: (spl c r).tail
theorem spl_ne (c : UInt8) (s : List UInt8) : spl c s ≠ [] := by
  cases s with
  | nil => simp [spl]
  | cons b r => simp only [spl]; split <;> simp
theorem spl_ht (c : UInt8) (s : List UInt8) : (spl c s).headD [] :: (spl c s).tail = spl c s := by
  cases h : spl c s with
  | nil => exact absurd h (spl_ne c s)
  | cons a t => rfl
theorem spl_snoc (c : UInt8) : ∀ (x y : List UInt8), c ∉ x → spl c (x ++ c :: y) = x :: spl c y
  | [], y, _ => by simp [spl]
  | b :: x, y, h => by
    have hb : ¬ b = c := fun e => h (by rw [e]; exact List.mem_cons_self ..)
    have := spl_snoc c x y (fun hm => h (List.mem_cons_of_mem _ hm))
    rw [List.cons_append, spl, if_neg hb, this]
    rfl
theorem spl_one (c : UInt8) : ∀ (x : List UInt8), c ∉ x → spl c x = [x]
  | [], _ => rfl
  | b :: x, h => by
    have hb : ¬ b = c := fun e => h (by rw [e]; exact List.mem_cons_self ..)
    rw [spl, if_neg hb, spl_one c x (fun hm => h (List.mem_cons_of_mem _ hm))]
    rfl
theorem spl_no (c : UInt8) : ∀ (s : List UInt8), ∀ x ∈ spl c s, c ∉ x
  | [], x, hx => by simp [spl] at hx; subst hx; simp
  | b :: r, x, hx => by
    have ih := spl_no c r
    rw [spl] at hx
    split at hx
    · rcases List.mem_cons.1 hx with rfl | hx
      · simp
      · exact ih x hx
    · rename_i hb
      have hh := spl_ht c r
      rcases List.mem_cons.1 hx with rfl | hx
      · intro hm
        rcases List.mem_cons.1 hm with e | hm
        · exact hb e.symm
        · exact ih ((spl c r).headD []) (by rw [← hh]; exact List.mem_cons_self ..) hm
      · exact ih x (by rw [← hh]; exact List.mem_cons_of_mem _ hx)
theorem j1 (x sep : List UInt8) : join [x] sep = x := join_one x sep
theorem j2 (x y : List UInt8) (r : List (List UInt8)) (sep : List UInt8) : join (x :: y :: r) sep = x ++ (sep ++ join (y :: r) sep) := by
  rw [join_cons, join_cons]
  simp [joinTail]
theorem spl_join (c : UInt8) : ∀ (s : List UInt8), join (spl c s) [c] = s
  | [] => j1 [] [c]
  | b :: r => by
    have ih := spl_join c r
    rw [spl]
    split
    · rename_i hb
      subst hb
      cases h : spl b r with
      | nil => exact absurd h (spl_ne b r)
      | cons a t => rw [h] at ih; rw [j2, ih]; rfl
    · cases h : spl c r with
      | nil => exact absurd h (spl_ne c r)
      | cons a t =>
        rw [h] at ih
        simp only [List.headD_cons, List.tail_cons]
        cases t with
        | nil => rw [j1] at ih ⊢; rw [ih]
        | cons a2 t2 => rw [j2] at ih ⊢; rw [List.cons_append, ih]
theorem join_spl (c : UInt8) : ∀ (ws : List (List UInt8)), ws ≠ [] → (∀ x ∈ ws, c ∉ x) → spl c (join ws [c]) = ws
  | [], h, _ => absurd rfl h
  | [x], _, h => by rw [j1]; exact spl_one c x (h x (List.mem_cons_self ..))
  | x :: y :: ws, _, h => by
    have ih := join_spl c (y :: ws) (by simp) (fun z hz => h z (List.mem_cons_of_mem _ hz))
    have e : join (x :: y :: ws) [c] = x ++ c :: join (y :: ws) [c] := by rw [j2]; rfl
    rw [e, spl_snoc c x _ (h x (List.mem_cons_self ..)), ih]
theorem spl_len (c : UInt8) (s : List UInt8) : (spl c s).length = s.count c + 1 := by
  induction s with
  | nil => rfl
  | cons b r ih =>
    rw [spl]
    split
    · rename_i hb; subst hb; simp [ih]
    · rename_i hb
      have hh := congrArg List.length (spl_ht c r)
      simp only [List.length_cons] at hh ⊢
      rw [hh, ih, List.count_cons_of_ne hb]
/-- The library's Split and Cut at one byte. -/
theorem splitK_spl (c : UInt8) : ∀ (s : List UInt8), splitK [c] 0 (s.count c) s = spl c s
  | [] => rfl
  | b :: r => by
    have ih := splitK_spl c r
    by_cases hb : b = c
    · subst hb
      rw [List.count_cons_self]
      have hi : index (b :: r) [b] = 0 := by unfold index; simp
      simp only [splitK, hi, spl]
      rw [if_pos trivial, ← ih]
      rfl
    · rw [List.count_cons_of_ne hb, spl, if_neg hb]
      have hcb : ¬ c = b := fun e => hb e.symm
      have hi : index (b :: r) [c] = if index r [c] == -1 then -1 else index r [c] + 1 := by
        conv => lhs; unfold index
        rw [if_neg (by simp [hcb])]
      cases hk : r.count c with
      | zero =>
        rw [hk] at ih
        simp only [splitK] at ih ⊢
        rw [← ih]; rfl
      | succ k =>
        rw [hk] at ih
        have hge := index_ge r [c]
        by_cases hm : index r [c] = -1
        · have hz := count_miss (sub := [c]) hm
          rw [count_one] at hz
          omega
        · simp only [splitK] at ih ⊢
          have hm2 : (index r [c] == -1) = false := by simpa using hm
          rw [hm2] at hi ih
          have hne : (index (b :: r) [c] == -1) = false := by rw [hi]; simp; omega
          simp only [Bool.false_eq_true, if_false] at hi ih
          rw [hne]
          simp only [Bool.false_eq_true, if_false]
          rw [← ih, hi]
          have e : (index r [c] + 1).toNat = (index r [c]).toNat + 1 := by omega
          rw [e]
          simp [Nat.add_right_comm]
theorem split_spl (c : UInt8) (s : ByteArray) : (splitB ⟨#[c]⟩ 0 (countB s ⟨#[c]⟩) s).map (·.data.toList) = spl c s.data.toList := by
  rw [splitB_data, ← splitK_spl]
  congr 1
  exact count_one c _
theorem cut_hit (c : UInt8) {x y : List UInt8} (h : c ∉ x) : cut (x ++ c :: y) [c] = (x, y, true) := by
  have hi : index (x ++ c :: y) [c] = x.length := index_first (by simp) (by simp [occAt]) (fun j hj => by
    unfold occAt
    rw [List.drop_append_of_le_length (by omega), List.drop_eq_getElem_cons hj]
    have : c ≠ x[j] := fun e => h (by rw [e]; exact List.getElem_mem hj)
    show ((c == x[j]) && _) = false
    rw [beq_false_of_ne this]; rfl)
  unfold cut
  rw [hi, if_pos (by omega)]
  simp
theorem cut_miss (c : UInt8) {x : List UInt8} (h : c ∉ x) : cut x [c] = (x, [], false) := by
  have hi : index x [c] = -1 := index_none fun j hj => by
    unfold occAt
    rcases Nat.lt_or_ge j x.length with hj | hj
    · rw [List.drop_eq_getElem_cons hj]
      have : c ≠ x[j] := fun e => h (by rw [e]; exact List.getElem_mem hj)
      show ((c == x[j]) && _) = false
      rw [beq_false_of_ne this]; rfl
    · rw [List.drop_eq_nil_of_le hj]; rfl
  unfold cut
  rw [hi, if_neg (by omega)]
theorem spl_two {c : UInt8} {s x y : List UInt8} (h : spl c s = [x, y]) : s = x ++ c :: y ∧ c ∉ x ∧ c ∉ y := by
  have h1 := spl_join c s
  rw [h, j2, j1] at h1
  refine ⟨by rw [← h1]; rfl, spl_no c s x (by rw [h]; simp), spl_no c s y (by rw [h]; simp)⟩
theorem two_spl {c : UInt8} {x y : List UInt8} (h1 : c ∉ x) (h2 : c ∉ y) : spl c (x ++ c :: y) = [x, y] := by rw [spl_snoc c x y h1, spl_one c y h2]
theorem itoa_mem {n : Int} {b : UInt8} (h : b ∈ itoa n) : b = 45 ∨ isDig b := by
  unfold itoa at h
  split at h
  · rcases List.mem_cons.1 h with rfl | h
    · exact .inl rfl
    · exact .inr (dd_dig _ _ h)
  · exact .inr (dd_dig _ _ h)
theorem itoa_no {n : Int} {b : UInt8} (h1 : b ≠ 45) (h2 : ¬ isDig b) : b ∉ itoa n := fun h => (itoa_mem h).elim h1 h2
theorem itoa_ne (n : Int) : itoa n ≠ [] := by
  unfold itoa
  split
  · simp
  · exact dd_ne _
theorem cut1_len (s p : List UInt8) : (cut s p).1.length ≤ s.length := by
  unfold cut; split
  · first | (simp; done) | (simp; omega)
  · simp
theorem cut2_len (s p : List UInt8) : (cut s p).2.1.length ≤ s.length := by
  unfold cut; split
  · first | (simp; done) | (simp; omega)
  · simp
theorem spl_le (c : UInt8) : ∀ (s : List UInt8), ∀ x ∈ spl c s, x.length ≤ s.length
  | [], x, hx => by simp [spl] at hx; subst hx; simp
  | b :: r, x, hx => by
    have ih := spl_le c r
    rw [spl] at hx
    split at hx
    · rcases List.mem_cons.1 hx with rfl | hx
      · simp
      · have := ih x hx; simp; omega
    · have hh := spl_ht c r
      rcases List.mem_cons.1 hx with rfl | hx
      · have := ih ((spl c r).headD []) (by rw [← hh]; exact List.mem_cons_self ..)
        simp; simpa using this
      · have := ih x (by rw [← hh]; exact List.mem_cons_of_mem _ hx)
        simp; omega
theorem spl_many (c : UInt8) (s : List UInt8) : (spl c s).length ≤ s.length + 1 := by
  rw [spl_len]
  have := List.count_le_length (a := c) (l := s)
  omega
end Go.AG
namespace Go.AG
open Go.RowKit Go.Sort
set_option linter.unusedVariables false
set_option linter.unusedSimpArgs false
theorem trim_of {P : Program} {g : FuncId} (hok : CallOk P g)
    (HC : ∀ (s p : ByteArray) (w : World), Calls P g #[.string s, .string p] w fun e w' => e = .returned (.string ⟨(Lib.trimPrefix s.data.toList p.data.toList).toArray⟩) ∧ w' = w)
    (s p : List UInt8) (h : Heap) : ACalls P g [.str s, .str p] h (fun v h' => v = .str (Lib.trimPrefix s p) ∧ h' = h) := by
  refine ⟨hok, fun w vs H hv => ?_⟩
  obtain ⟨v, r, rfl, hv, u, r', rfl, hu, hr⟩ := hv
  cases hr
  have hv' : v = .string ⟨s.toArray⟩ := hv
  have hu' : u = .string ⟨p.toArray⟩ := hu
  subst hv' hu'
  refine (HC _ _ w).mono fun e w' ⟨e1, e2⟩ => ?_
  subst e2
  exact ⟨_, .str (Lib.trimPrefix s p), _, e1, rfl, H, .refl _ _, rfl, rfl⟩
theorem Fix.int {w : World} {D : List Nat} (F : Fix w D) {gid : Nat} (hm : (gid, true) ∈ laidS) : ∃ m, w.cell? ⟨gid, 0, none⟩ = some (.int .i64 m) := by
  obtain ⟨_, v, e, m, rfl⟩ := F.2 _ hm
  exact ⟨m, e⟩
theorem Fix.ifc {w : World} {D : List Nat} (F : Fix w D) {gid : Nat} (hm : (gid, false) ∈ laidS) : ∃ v, w.cell? ⟨gid, 0, none⟩ = some v ∧ (v = .nilIface ∨ ∃ t p, v = .iface t p) := by
  obtain ⟨_, v, e, ho⟩ := F.2 _ hm
  exact ⟨v, e, by simpa [okS] using ho⟩
theorem cut_of {P : Program} {g : FuncId} (hok : CallOk P g) {gid : Nat} (hm : (gid, true) ∈ laidS)
    (HC : ∀ (s sep : ByteArray) (m : Int) (w : World), s.size < 4294967281 → w.cell? ⟨gid, 0, none⟩ = some (.int .i64 m) →
      Calls P g #[.string s, .string sep] w fun e w' => e = .returned (.tuple #[.string ⟨(Lib.cut s.data.toList sep.data.toList).1.toArray⟩, .string ⟨(Lib.cut s.data.toList sep.data.toList).2.1.toArray⟩, .bool (Lib.cut s.data.toList sep.data.toList).2.2]) ∧ ∃ n, w' = w.drewN n)
    (s p : List UInt8) (h : Heap) (hs : s.length < 4294967281) : ACalls P g [.str s, .str p] h (fun v h' => v = .tup [.str (Lib.cut s p).1, .str (Lib.cut s p).2.1, .bool (Lib.cut s p).2.2] ∧ h' = h) := by
  refine ⟨hok, fun w vs H hv => ?_⟩
  obtain ⟨v, r, rfl, hv, u, r', rfl, hu, hr⟩ := hv
  cases hr
  have hv' : v = .string ⟨s.toArray⟩ := hv
  have hu' : u = .string ⟨p.toArray⟩ := hu
  subst hv' hu'
  obtain ⟨m, hc⟩ := H.fix.int hm
  refine (HC _ _ m w (by simpa [ByteArray.size] using hs) hc).mono fun e w' ⟨e1, n, e2⟩ => ?_
  subst e2
  obtain ⟨H', E'⟩ := H.drewN n
  exact ⟨_, .tup [.str (Lib.cut s p).1, .str (Lib.cut s p).2.1, .bool (Lib.cut s p).2.2], _, e1, ⟨_, rfl, _, _, rfl, rfl, _, _, rfl, rfl, _, _, rfl, rfl, rfl⟩, H', E', rfl, rfl⟩
theorem split_of {P : Program} {g : FuncId} (hok : CallOk P g) {gid : Nat} (hm : (gid, true) ∈ laidS) {el : TypeId}
    (HC : ∀ (s sep : ByteArray) (m : Int) (w : World), s.size < 4294967281 → w.cell? ⟨gid, 0, none⟩ = some (.int .i64 m) → 1 ≤ sep.size →
      Calls P g #[.string s, .string sep] w fun e w' => e = .returned (.slice (some ⟨w.heap.size, 0, none⟩) (Lib.countB s sep + 1) (Lib.countB s sep + 1)) ∧ w' = w.alloc (.cells ((Lib.splitB sep 0 (Lib.countB s sep) s).map Value.string).toArray el))
    (s : List UInt8) (c : UInt8) (h : Heap) (hs : s.length < 4294967281) :
    ACalls P g [.str s, .str [c]] h (fun v h' => ∃ id, id ∉ dom h ∧ v = .sl id 1 0 (spl c s).length (some (spl c s).length) ∧ h' = (id, ⟨1, (spl c s).map sv⟩) :: h) := by
  refine ⟨hok, fun w vs H hv => ?_⟩
  obtain ⟨v, r, rfl, hv, u, r', rfl, hu, hr⟩ := hv
  cases hr
  have hv' : v = .string ⟨s.toArray⟩ := hv
  have hu' : u = .string ⟨#[c]⟩ := hu
  subst hv' hu'
  obtain ⟨m, hc⟩ := H.fix.int hm
  refine (HC ⟨s.toArray⟩ ⟨#[c]⟩ m w (by simpa [ByteArray.size] using hs) hc (Nat.le_refl 1)).mono fun e w' ⟨e1, e2⟩ => ?_
  have hsp := split_spl c ⟨s.toArray⟩
  simp only at hsp
  generalize hL : Lib.splitB ⟨#[c]⟩ 0 (Lib.countB ⟨s.toArray⟩ ⟨#[c]⟩) ⟨s.toArray⟩ = L at *
  have hlen : L.length = (spl c s).length := by
    have := congrArg List.length hsp
    simpa using this
  have hcount : Lib.countB ⟨s.toArray⟩ ⟨#[c]⟩ + 1 = (spl c s).length := by
    rw [← hlen, ← hL]
    exact (Lib.splitB_all ⟨#[c]⟩ (Nat.le_refl 1) 0 _ _ rfl).symm
  rw [hcount] at e1
  have hget : ∀ (i : Nat) (x : List UInt8), (spl c s)[i]? = some x → (L.map Value.string)[i]? = some (.string ⟨x.toArray⟩) := fun i x hx => by
    rw [← hsp] at hx
    simp only [List.getElem?_map, Option.map_eq_some_iff] at hx ⊢
    obtain ⟨b, h1, h2⟩ := hx
    refine ⟨b, h1, ?_⟩
    subst h2
    obtain ⟨⟨l⟩⟩ := b
    rfl
  obtain ⟨H', E'⟩ := H.alloc (L.map Value.string).toArray el ⟨1, (spl c s).map sv⟩ (by
    rw [Elems_iff]
    intro i x hx
    simp only [List.getElem?_map, Option.map_eq_some_iff] at hx
    obtain ⟨y, h1, rfl⟩ := hx
    refine ⟨rfl, ?_⟩
    rw [Cells_iff]
    intro j u hu
    have hj : j = 0 ∧ u = .str y := by
      cases j with
      | zero => exact ⟨rfl, by simpa [cellsOf] using hu.symm⟩
      | succ j => simp [cellsOf] at hu
    obtain ⟨rfl, rfl⟩ := hj
    refine ⟨_, ?_, rfl, rfl⟩
    have := hget i y h1
    simpa [World.cell?_alloc_new] using this)
  subst e2
  refine ⟨_, .sl w.heap.size 1 0 (spl c s).length (some (spl c s).length), _, e1, ?_, H', E', w.heap.size, fun hm => Nat.lt_irrefl _ (H.lt hm), rfl, rfl⟩
  refine ⟨_, _, rfl, Nat.le_refl _, fun _ => ⟨by simp, (L.map Value.string).toArray, el, (0, 0), by show (w.heap.push _)[w.heap.size]? = _; simp, by simp [hlen]⟩, fun k hk => by simpa using hk⟩
theorem parse_of {P : Program} {g : FuncId} (hok : CallOk P g) {g15 g16 : Nat} (h15 : (g15, false) ∈ laidS) (h16 : (g16, false) ∈ laidS) {t5 t168 t210 : TypeId}
    (HO : ∀ (s : ByteArray), s.size ≤ 9223372036854775806 → ∀ (v : Int), Lib.parseIntB 64 s.data.toList = .ok v → ∀ (w : World),
      Calls P g #[.string s, .int .i64 10, .int .i64 64] w fun e w' => e = .returned (.tuple #[.int .i64 v, .nilIface]) ∧ (w' = w ∨ ∃ t, w' = Lib.bytesWorld w t5 t))
    (HS : ∀ (s : ByteArray), s.size ≤ 281474976710656 → (∀ v, Lib.parseIntB 64 s.data.toList ≠ .ok v) → Lib.parseIntB 64 s.data.toList ≠ .range → ∀ (ev : Value) (w : World), w.cell? ⟨g15, 0, none⟩ = some ev → (ev = .nilIface ∨ ∃ te pe, ev = .iface te pe) →
      Calls P g #[.string s, .int .i64 10, .int .i64 64] w fun e w' => ∃ N, e = .returned (.tuple #[.int .i64 (0), .iface t168 (.pointer (some ⟨N, 0, none⟩))]) ∧ w.heap.size ≤ N ∧ w'.heap[N]? = some (.cells #[.string ⟨#[80, 97, 114, 115, 101, 73, 110, 116]⟩, .string s, ev] t210 (0, 0)) ∧ Below w.heap.size w w')
    (HR : ∀ (s : ByteArray), s.size ≤ 281474976710656 → Lib.parseIntB 64 s.data.toList = .range → ∀ (ev : Value) (w : World), w.cell? ⟨g16, 0, none⟩ = some ev → (ev = .nilIface ∨ ∃ te pe, ev = .iface te pe) →
      Calls P g #[.string s, .int .i64 10, .int .i64 64] w fun e w' => ∃ N, e = .returned (.tuple #[.int .i64 (Lib.intSat 64 s.data.toList), .iface t168 (.pointer (some ⟨N, 0, none⟩))]) ∧ w.heap.size ≤ N ∧ w'.heap[N]? = some (.cells #[.string ⟨#[80, 97, 114, 115, 101, 73, 110, 116]⟩, .string s, ev] t210 (0, 0)) ∧ Below w.heap.size w w')
    (s : List UInt8) (h : Heap) (hs : s.length ≤ 281474976710656) :
    ACalls P g [.str s, .int .i64 10, .int .i64 64] h (fun v h' => h' = h ∧ ((∃ n, Lib.parseIntB 64 s = .ok n ∧ v = .tup [.int .i64 n, .nili]) ∨ ((∀ n, Lib.parseIntB 64 s ≠ .ok n) ∧ ∃ k, v = .tup [.int .i64 k, .ifc]))) := by
  refine ⟨hok, fun w vs H hv => ?_⟩
  obtain ⟨v, r, rfl, hv, u, r', rfl, hu, u2, r2, rfl, hu2, hr⟩ := hv
  cases hr
  have hv' : v = .string ⟨s.toArray⟩ := hv
  have hu' : u = .int .i64 10 := hu
  have hu2' : u2 = .int .i64 64 := hu2
  subst hv' hu' hu2'
  have hsz : (⟨s.toArray⟩ : ByteArray).size ≤ 281474976710656 := by simpa [ByteArray.size] using hs
  cases hp : Lib.parseIntB 64 s with
  | ok n =>
    refine (HO ⟨s.toArray⟩ (by omega) n (by simpa using hp) w).mono fun e w' ⟨e1, e2⟩ => ?_
    have hb : Below w.heap.size w w' := by
      rcases e2 with rfl | ⟨t, rfl⟩
      · exact Below.refl _ _
      · exact Lib.bytesWorld_below _ _ _
    obtain ⟨H', E'⟩ := H.below hb
    exact ⟨_, .tup [.int .i64 n, .nili], h, e1, ⟨_, rfl, _, _, rfl, rfl, _, _, rfl, rfl, rfl⟩, H', E', rfl, .inl ⟨n, rfl, rfl⟩⟩
  | range =>
    obtain ⟨ev, hc, he⟩ := H.fix.ifc h16
    refine (HR ⟨s.toArray⟩ hsz (by simpa using hp) ev w hc he).mono fun e w' ⟨N, e1, _, _, hb⟩ => ?_
    obtain ⟨H', E'⟩ := H.below hb
    exact ⟨_, .tup [.int .i64 (Lib.intSat 64 s), .ifc], h, e1, ⟨_, rfl, _, _, rfl, rfl, _, _, rfl, ⟨_, _, rfl⟩, rfl⟩, H', E', rfl, .inr ⟨fun n hn => by simp at hn, _, rfl⟩⟩
  | _ =>
    have hd : (⟨s.toArray⟩ : ByteArray).data.toList = s := by simp
    obtain ⟨ev, hc, he⟩ := H.fix.ifc h15
    refine (HS ⟨s.toArray⟩ hsz (fun v h2 => by rw [hd, hp] at h2; cases h2) (fun h2 => by rw [hd, hp] at h2; cases h2) ev w hc he).mono fun e w' ⟨N, e1, _, _, hb⟩ => ?_
    obtain ⟨H', E'⟩ := H.below hb
    exact ⟨_, .tup [.int .i64 0, .ifc], h, e1, ⟨_, rfl, _, _, rfl, rfl, _, _, rfl, ⟨_, _, rfl⟩, rfl⟩, H', E', rfl, .inr ⟨fun n hn => by simp at hn, 0, rfl⟩⟩
end Go.AG
