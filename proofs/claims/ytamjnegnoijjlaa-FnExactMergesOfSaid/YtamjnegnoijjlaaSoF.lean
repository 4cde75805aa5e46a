/- The order in which simplices come: plain part, and the program. No statement is made here. -/
import Derived.Test.YtamjnegnoijjlaaSoD
namespace Go.AG
open Go.Proofs Go.Proofs.Ytamjnegnoijjlaa
set_option linter.unusedSimpArgs false
set_option linter.unusedVariables false
set_option maxRecDepth 4000
theorem OutS.at {k : Int → Int} {id n : Nat} {f : Nat → Int} {tl : Heap} {a b : Nat} {v : AV} {h : Heap} (o : OutS k id n f tl a b v h) : ∃ f', Same f f' a b ∧ Srt2 k f' a b ∧ v = .tup [] ∧ h = (id, ⟨1, (arr n f').map iv⟩) :: tl := o
def idI (p : Nat) : Int := (p : Int)
/-- The numbers of a range are those that stood there at the start. -/
def Own (f0 f : Nat → Int) (a b : Nat) : Prop := ∀ p, a ≤ p → p < b → ∃ q, a ≤ q ∧ q < b ∧ f p = f0 q
theorem Own.same {f0 f g : Nat → Int} {a b c d : Nat} (h : Own f0 f c d) (s : Same f g a b) (hab : c ≤ a ∧ b ≤ d ∨ b ≤ c ∨ d ≤ a) : Own f0 g c d := fun p hp hq => by
  by_cases hi : a ≤ p ∧ p < b
  · obtain ⟨q, q1, q2, e⟩ := s.2.1 p hi.1 hi.2
    rw [e]; exact h q (by omega) (by omega)
  · rw [s.1 p hi]; exact h p hp hq
theorem Own.join {f0 f : Nat → Int} {a m b : Nat} (h1 : Own f0 f a m) (h2 : Own f0 f m b) (hm1 : a ≤ m) (hm2 : m ≤ b) : Own f0 f a b := fun p hp hq => by
  by_cases h : p < m
  · obtain ⟨q, q1, q2, e⟩ := h1 p hp h; exact ⟨q, q1, by omega, e⟩
  · obtain ⟨q, q1, q2, e⟩ := h2 p (by omega) hq; exact ⟨q, by omega, q2, e⟩
theorem own_id (f0 : Nat → Int) (a b : Nat) : Own f0 f0 a b := fun p h1 h2 => ⟨p, h1, h2, rfl⟩
theorem Own.lt {f0 f : Nat → Int} {a m b n : Nat} (hb : b ≤ n) (hi : ∀ p q, p < q → q < n → f0 p < f0 q) (h1 : Own f0 f a m) (h2 : Own f0 f m b) : ∀ p q, a ≤ p → p < m → m ≤ q → q < b → f p < f q := fun p q x1 x2 x3 x4 => by
  obtain ⟨r, r1, r2, e1⟩ := h1 p x1 x2
  obtain ⟨t, t1, t2, e2⟩ := h2 q x3 x4
  rw [e1, e2]; exact hi r t (by omega) (by omega)
abbrev k141_o0 : List AJ := [.o ⟨(some 6), none, false, .mv (.c (.int .i64 20)), (some [0, 1, 2, 6])⟩]
abbrev k141_o1 : List AJ := [.o ⟨(some 10), none, false, .mv (.t 6), none⟩, .o ⟨(some 7), none, false, .mv (.c (.int .i64 0)), none⟩, .o ⟨(some 8), none, false, .mv (.t 10), (some [0, 1, 2, 6, 7, 8])⟩]
abbrev k141_o2 : List AJ := [.o ⟨(some 11), none, false, .mv (.t 8), none⟩, .o ⟨(some 12), none, false, .mv (.t 1), none⟩, .o ⟨(some 13), none, false, .bin .leq (.t 11) (.t 12), (some [0, 1, 2, 6, 7, 8, 13])⟩]
def k141_3 : ACode := .cond (.t 13) .skip (.exit 0)
def k141_4 : ACode := .seq (.region k141_o2) k141_3
abbrev k141_o3 : List AJ := [.o ⟨(some 14), none, false, .mv (.t 0), none⟩, .o ⟨(some 15), none, false, .mv (.t 7), none⟩, .o ⟨(some 16), none, false, .mv (.t 8), none⟩, .o ⟨(some 17), none, false, .mv (.t 2), none⟩, .o ⟨(some 18), none, false, .call 164 [(.t 14), (.t 15), (.t 16), (.t 17)], (some [0, 1, 2, 6, 8])⟩]
abbrev k141_o4 : List AJ := [.o ⟨(some 19), none, false, .mv (.t 8), none⟩, .o ⟨(some 7), none, false, .mv (.t 19), (some [0, 1, 2, 6, 7, 8])⟩]
abbrev k141_o5 : List AJ := [.o ⟨(some 20), none, false, .mv (.t 8), none⟩, .o ⟨(some 21), none, false, .mv (.t 6), none⟩, .o ⟨(some 22), none, true, .bin .add (.t 20) (.t 21), none⟩, .o ⟨(some 8), none, false, .mv (.t 22), (some [0, 1, 2, 6, 7, 8])⟩]
def k141_7 : ACode := .region k141_o5
def k141_8 : ACode := .seq (.region k141_o4) k141_7
def k141_9 : ACode := .seq (.region k141_o3) k141_8
def k141_10 : ACode := .block 1 k141_9
def k141_11 : ACode := .seq k141_4 k141_10
def k141_12 : ACode := .loop k141_11
abbrev k141_o6 : List AJ := [.o ⟨(some 23), none, false, .mv (.t 0), none⟩, .o ⟨(some 24), none, false, .mv (.t 7), none⟩, .o ⟨(some 25), none, false, .mv (.t 1), none⟩, .o ⟨(some 26), none, false, .mv (.t 2), none⟩, .o ⟨(some 27), none, false, .call 164 [(.t 23), (.t 24), (.t 25), (.t 26)], (some [0, 1, 2, 6])⟩]
abbrev k141_o7 : List AJ := [.o ⟨(some 28), none, false, .mv (.t 6), none⟩, .o ⟨(some 29), none, false, .mv (.t 1), none⟩, .o ⟨(some 30), none, false, .bin .lss (.t 28) (.t 29), (some [0, 1, 2, 6, 30])⟩]
def k141_16 : ACode := .cond (.t 30) .skip (.exit 2)
def k141_17 : ACode := .seq (.region k141_o7) k141_16
abbrev k141_o8 : List AJ := [.o ⟨(some 31), none, false, .mv (.t 6), none⟩, .o ⟨(some 32), none, true, .bin .mul (.c (.int .i64 2)) (.t 31), none⟩, .o ⟨(some 7), none, false, .mv (.c (.int .i64 0)), none⟩, .o ⟨(some 8), none, false, .mv (.t 32), (some [0, 1, 2, 6, 7, 8])⟩]
abbrev k141_o9 : List AJ := [.o ⟨(some 33), none, false, .mv (.t 8), none⟩, .o ⟨(some 34), none, false, .mv (.t 1), none⟩, .o ⟨(some 35), none, false, .bin .leq (.t 33) (.t 34), (some [0, 1, 2, 6, 7, 8, 35])⟩]
def k141_20 : ACode := .cond (.t 35) .skip (.exit 4)
def k141_21 : ACode := .seq (.region k141_o9) k141_20
abbrev k141_o10 : List AJ := [.o ⟨(some 36), none, false, .mv (.t 0), none⟩, .o ⟨(some 37), none, false, .mv (.t 7), none⟩, .o ⟨(some 38), none, false, .mv (.t 7), none⟩, .o ⟨(some 39), none, false, .mv (.t 6), none⟩, .o ⟨(some 40), none, true, .bin .add (.t 38) (.t 39), none⟩, .o ⟨(some 41), none, false, .mv (.t 8), none⟩, .o ⟨(some 42), none, false, .mv (.t 2), none⟩, .o ⟨(some 43), none, false, .call 165 [(.t 36), (.t 37), (.t 40), (.t 41), (.t 42)], (some [0, 1, 2, 6, 8])⟩]
abbrev k141_o11 : List AJ := [.o ⟨(some 44), none, false, .mv (.t 8), none⟩, .o ⟨(some 7), none, false, .mv (.t 44), (some [0, 1, 2, 6, 7, 8])⟩]
abbrev k141_o12 : List AJ := [.o ⟨(some 45), none, false, .mv (.t 8), none⟩, .o ⟨(some 46), none, false, .mv (.t 6), none⟩, .o ⟨(some 47), none, true, .bin .mul (.c (.int .i64 2)) (.t 46), none⟩, .o ⟨(some 48), none, true, .bin .add (.t 45) (.t 47), none⟩, .o ⟨(some 8), none, false, .mv (.t 48), (some [0, 1, 2, 6, 7, 8])⟩]
def k141_24 : ACode := .region k141_o12
def k141_25 : ACode := .seq (.region k141_o11) k141_24
def k141_26 : ACode := .seq (.region k141_o10) k141_25
def k141_27 : ACode := .block 5 k141_26
def k141_28 : ACode := .seq k141_21 k141_27
def k141_29 : ACode := .loop k141_28
abbrev k141_o13 : List AJ := [.o ⟨(some 49), none, false, .mv (.t 7), none⟩, .o ⟨(some 50), none, false, .mv (.t 6), none⟩, .o ⟨(some 51), none, true, .bin .add (.t 49) (.t 50), none⟩, .o ⟨(some 9), none, false, .mv (.t 51), (some [0, 1, 2, 6, 7, 9])⟩]
abbrev k141_o14 : List AJ := [.o ⟨(some 52), none, false, .mv (.t 9), none⟩, .o ⟨(some 53), none, false, .mv (.t 1), none⟩, .o ⟨(some 54), none, false, .bin .lss (.t 52) (.t 53), (some [0, 1, 2, 6, 7, 9, 54])⟩]
abbrev k141_o15 : List AJ := [.o ⟨(some 55), none, false, .mv (.t 0), none⟩, .o ⟨(some 56), none, false, .mv (.t 7), none⟩, .o ⟨(some 57), none, false, .mv (.t 9), none⟩, .o ⟨(some 58), none, false, .mv (.t 1), none⟩, .o ⟨(some 59), none, false, .mv (.t 2), none⟩, .o ⟨(some 60), none, false, .call 165 [(.t 55), (.t 56), (.t 57), (.t 58), (.t 59)], (some [0, 1, 2, 6])⟩]
def k141_33 : ACode := .region k141_o15
def k141_34 : ACode := .cond (.t 54) k141_33 .skip
def k141_35 : ACode := .seq (.region k141_o14) k141_34
def k141_36 : ACode := .seq (.region k141_o13) k141_35
abbrev k141_o16 : List AJ := [.o ⟨(some 61), none, false, .mv (.t 6), none⟩, .o ⟨(some 62), none, true, .bin .mul (.t 61) (.c (.int .i64 2)), none⟩, .o ⟨(some 6), none, false, .mv (.t 62), (some [0, 1, 2, 6])⟩]
def k141_37 : ACode := .region k141_o16
def k141_38 : ACode := .seq k141_36 k141_37
def k141_39 : ACode := .seq (.block 4 k141_29) k141_38
def k141_40 : ACode := .seq (.region k141_o8) k141_39
def k141_41 : ACode := .block 3 k141_40
def k141_42 : ACode := .seq k141_17 k141_41
def k141_43 : ACode := .loop k141_42
def k141_44 : ACode := .block 2 k141_43
def k141_45 : ACode := .seq (.region k141_o6) k141_44
def k141_46 : ACode := .seq (.block 0 k141_12) k141_45
def k141_47 : ACode := .seq (.region k141_o1) k141_46
def k141_48 : ACode := .seq (.region k141_o0) k141_47
@[simp, simp ↓] theorem k141_3r : rC k141_3 (.t 13) .skip (.exit 0) := zC rfl
@[simp, simp ↓] theorem k141_4r : sR k141_4 k141_o2 k141_3 := yR rfl
@[simp, simp ↓] theorem k141_7r : rR k141_7 k141_o5 := zR rfl
@[simp, simp ↓] theorem k141_8r : sR k141_8 k141_o4 k141_7 := yR rfl
@[simp, simp ↓] theorem k141_9r : sR k141_9 k141_o3 k141_8 := yR rfl
@[simp, simp ↓] theorem k141_10r : rB k141_10 1 k141_9 := zB rfl
@[simp, simp ↓] theorem k141_11r : rS k141_11 k141_4 k141_10 := zS rfl
@[simp, simp ↓] theorem k141_12r : rL k141_12 k141_11 := zL rfl
@[simp, simp ↓] theorem k141_16r : rC k141_16 (.t 30) .skip (.exit 2) := zC rfl
@[simp, simp ↓] theorem k141_17r : sR k141_17 k141_o7 k141_16 := yR rfl
@[simp, simp ↓] theorem k141_20r : rC k141_20 (.t 35) .skip (.exit 4) := zC rfl
@[simp, simp ↓] theorem k141_21r : sR k141_21 k141_o9 k141_20 := yR rfl
@[simp, simp ↓] theorem k141_24r : rR k141_24 k141_o12 := zR rfl
@[simp, simp ↓] theorem k141_25r : sR k141_25 k141_o11 k141_24 := yR rfl
@[simp, simp ↓] theorem k141_26r : sR k141_26 k141_o10 k141_25 := yR rfl
@[simp, simp ↓] theorem k141_27r : rB k141_27 5 k141_26 := zB rfl
@[simp, simp ↓] theorem k141_28r : rS k141_28 k141_21 k141_27 := zS rfl
@[simp, simp ↓] theorem k141_29r : rL k141_29 k141_28 := zL rfl
@[simp, simp ↓] theorem k141_33r : rR k141_33 k141_o15 := zR rfl
@[simp, simp ↓] theorem k141_34r : rC k141_34 (.t 54) k141_33 .skip := zC rfl
@[simp, simp ↓] theorem k141_35r : sR k141_35 k141_o14 k141_34 := yR rfl
@[simp, simp ↓] theorem k141_36r : sR k141_36 k141_o13 k141_35 := yR rfl
@[simp, simp ↓] theorem k141_37r : rR k141_37 k141_o16 := zR rfl
@[simp, simp ↓] theorem k141_38r : rS k141_38 k141_36 k141_37 := zS rfl
@[simp, simp ↓] theorem k141_39r : sB k141_39 4 k141_29 k141_38 := yB rfl
@[simp, simp ↓] theorem k141_40r : sR k141_40 k141_o8 k141_39 := yR rfl
@[simp, simp ↓] theorem k141_41r : rB k141_41 3 k141_40 := zB rfl
@[simp, simp ↓] theorem k141_42r : rS k141_42 k141_17 k141_41 := zS rfl
@[simp, simp ↓] theorem k141_43r : rL k141_43 k141_42 := zL rfl
@[simp, simp ↓] theorem k141_44r : rB k141_44 2 k141_43 := zB rfl
@[simp, simp ↓] theorem k141_45r : sR k141_45 k141_o6 k141_44 := yR rfl
@[simp, simp ↓] theorem k141_46r : sB k141_46 0 k141_12 k141_45 := yB rfl
@[simp, simp ↓] theorem k141_47r : sR k141_47 k141_o1 k141_46 := yR rfl
@[simp, simp ↓] theorem k141_48r : sR k141_48 k141_o0 k141_47 := yR rfl
noncomputable abbrev k141_C : Orc → Cx := mkC Try.prog [] 141 63 []
theorem k141_of0 : OfP0 Try.prog Try.f141 141 63 k141_C k141_48 := @ofP0 _ _ _ _ _ _ _ _ Try.func141 (by decide +kernel) rfl (by kernel_rfl) rfl (by kernel_rfl)
theorem stb_g {id n : Nat} {tl : Heap} {g : FuncId} {caps : List AV} {k : Int → Int} {dm : Int → Prop} (C : Cm Try.prog g caps k dm) (hn : n ≤ 48) {f0 : Nat → Int} (hi : ∀ p q, p < q → q < n → f0 p < f0 q) (hd : ∀ p, p < n → dm (f0 p)) : ACalls Try.prog 141 [.sl id 1 0 n none, .int .i64 n, .fn g caps] ((id, ⟨1, (arr n f0).map iv⟩) :: tl) (OutS k id n f0 tl 0 n) := by
  have hn1 : n ≤ 1048576 := by omega
  have inc : ∀ (f : Nat → Int) (a b : Nat), b ≤ n → (∀ p, a ≤ p → p < b → f p = f0 p) → ∀ p q, a ≤ p → p < q → q < b → f p < f q := fun f a b hb h p q h1 h2 h3 => by
    rw [h p h1 (by omega), h q (by omega) h3]; exact hi p q h2 (by omega)
  refine k141_of0 rfl noPure fun I => ?_
  by_cases n1 : n < 20
  · have c1 := ins_s (id := id) (tl := tl) C hn1 hd 0 n (Nat.zero_le _) (Nat.le_refl _) (inc f0 0 n (by omega) fun _ _ _ => rfl)
    have m1 : ¬ (20 : Int) ≤ n := by omega
    have m2 : ¬ (20 : Int) < n := by omega
    simp only [Int.natCast_zero, Int.ofNat_zero, Int.cast_ofNat_Int] at c1
    repeat first | refine Run2.of I 1000 ?_ | (simp -implicitDefEqProofs [n1, m1, m2])
    refine c1.mono ?_
    rintro v h' ⟨f1, s1, o1, rfl, rfl⟩
    refine gK.go ?_
    repeat first | refine Run2.of I 1000 ?_ | (simp -implicitDefEqProofs [n1, m1, m2])
    exact ⟨f1, s1, o1, rfl, rfl⟩
  · have m1 : (20 : Int) ≤ n := by omega
    have c1 := ins_s (id := id) (tl := tl) C hn1 hd 0 20 (by omega) (by omega) (inc f0 0 20 (by omega) fun _ _ _ => rfl)
    simp only [Int.natCast_zero, Int.ofNat_zero, Int.cast_ofNat_Int] at c1
    by_cases n2 : n < 40
    · have m3 : ¬ (40 : Int) ≤ n := by omega
      have m4 : ¬ (40 : Int) < n := by omega
      repeat first | refine Run2.of I 1000 ?_ | (simp -implicitDefEqProofs [n1, m1, m3, m4])
      refine c1.mono ?_
      rintro v h' ⟨f1, s1, o1, rfl, rfl⟩
      refine gK.go ?_
      repeat first | refine Run2.of I 1000 ?_ | (simp -implicitDefEqProofs [n1, m1, m3, m4])
      have hd1 := s1.dm (by omega) hd
      have c2 := ins_s (id := id) (tl := tl) C hn1 hd1 20 n (by omega) (Nat.le_refl _) (inc f1 20 n (by omega) fun p x1 x2 => s1.1 p (by omega))
      simp only [Int.natCast_zero, Int.ofNat_zero, Int.cast_ofNat_Int] at c2
      refine c2.mono ?_
      rintro v h' ⟨f2, s2, o2, rfl, rfl⟩
      have hd2 := s2.dm (Nat.le_refl _) hd1
      have l2 : Srt2 k f2 0 20 := o1.cong fun p x1 x2 => s2.1 p (by omega)
      have t2 : Same f0 f2 0 n := (s1.wide (Nat.le_refl _) (by omega)).trans (s2.wide (by omega) (Nat.le_refl _))
      have w1 : Own f0 f2 0 20 := ((own_id f0 0 20).same s1 (by omega)).same s2 (by omega)
      have w2 : Own f0 f2 20 n := ((own_id f0 20 n).same s1 (by omega)).same s2 (by omega)
      refine gK.go ?_
      by_cases n3 : n = 20
      · have m5 : ¬ (20 : Int) < n := by omega
        repeat first | refine Run2.of I 1000 ?_ | (simp -implicitDefEqProofs [n1, m1, m3, m4, m5])
        exact ⟨f2, t2, by rw [n3]; exact l2, rfl, rfl⟩
      · have m5 : (20 : Int) < n := by omega
        repeat first | refine Run2.of I 1000 ?_ | (simp -implicitDefEqProofs [n1, m1, m3, m4, m5])
        have c3 := sym_s (id := id) (tl := tl) C hn1 n f2 0 20 n (by omega) (by omega) (by omega) (Nat.le_refl _) hd2 l2 o2 (w1.lt (by omega) hi w2)
        simp only [Int.natCast_zero, Int.ofNat_zero, Int.cast_ofNat_Int] at c3
        refine c3.mono ?_
        rintro v h' ⟨f3, s3, o3, rfl, rfl⟩
        refine gK.go ?_
        repeat first | refine Run2.of I 1000 ?_ | (simp -implicitDefEqProofs [n1, m1, m3, m4, m5])
        exact ⟨f3, t2.trans s3, o3, rfl, rfl⟩
    · have m3 : (40 : Int) ≤ n := by omega
      have m4 : ¬ (60 : Int) ≤ n := by omega
      have m5 : (20 : Int) < n := by omega
      have m6 : ¬ (80 : Int) ≤ n := by omega
      have m7 : ¬ (60 : Int) < n := by omega
      have m8 : ¬ (80 : Int) < n := by omega
      repeat first | refine Run2.of I 1000 ?_ | (simp -implicitDefEqProofs [n1, m1, m3, m4, m5, m6, m7, m8])
      refine c1.mono ?_
      rintro v h' ⟨f1, s1, o1, rfl, rfl⟩
      refine gK.go ?_
      repeat first | refine Run2.of I 1000 ?_ | (simp -implicitDefEqProofs [n1, m1, m3, m4, m5, m6, m7, m8])
      have hd1 := s1.dm (by omega) hd
      have c2 := ins_s (id := id) (tl := tl) C hn1 hd1 20 40 (by omega) (by omega) (inc f1 20 40 (by omega) fun p x1 x2 => s1.1 p (by omega))
      simp only [Int.natCast_zero, Int.ofNat_zero, Int.cast_ofNat_Int] at c2
      refine c2.mono ?_
      rintro v h' ⟨f2, s2, o2, rfl, rfl⟩
      have hd2 := s2.dm (by omega) hd1
      refine gK.go ?_
      repeat first | refine Run2.of I 1000 ?_ | (simp -implicitDefEqProofs [n1, m1, m3, m4, m5, m6, m7, m8])
      have c3 := ins_s (id := id) (tl := tl) C hn1 hd2 40 n (by omega) (Nat.le_refl _) (inc f2 40 n (by omega) fun p x1 x2 => by rw [s2.1 p (by omega)]; exact s1.1 p (by omega))
      simp only [Int.natCast_zero, Int.ofNat_zero, Int.cast_ofNat_Int] at c3
      refine c3.mono ?_
      rintro v h' ⟨f3, s3, o3, rfl, rfl⟩
      have hd3 := s3.dm (Nat.le_refl _) hd2
      have l1 : Srt2 k f3 0 20 := o1.cong fun p x1 x2 => (s3.1 p (by omega)).trans (s2.1 p (by omega))
      have l2 : Srt2 k f3 20 40 := o2.cong fun p x1 x2 => s3.1 p (by omega)
      have t3 : Same f0 f3 0 n := ((s1.wide (Nat.le_refl _) (by omega)).trans (s2.wide (by omega) (by omega))).trans (s3.wide (by omega) (Nat.le_refl _))
      have w1 : Own f0 f3 0 20 := (((own_id f0 0 20).same s1 (by omega)).same s2 (by omega)).same s3 (by omega)
      have w2 : Own f0 f3 20 40 := (((own_id f0 20 40).same s1 (by omega)).same s2 (by omega)).same s3 (by omega)
      have w3 : Own f0 f3 40 n := (((own_id f0 40 n).same s1 (by omega)).same s2 (by omega)).same s3 (by omega)
      refine gK.go ?_
      repeat first | refine Run2.of I 1000 ?_ | (simp -implicitDefEqProofs [n1, m1, m3, m4, m5, m6, m7, m8])
      have c4 := sym_s (id := id) (tl := tl) C hn1 n f3 0 20 40 (by omega) (by omega) (by omega) (by omega) hd3 l1 l2 (w1.lt (by omega) hi w2)
      simp only [Int.natCast_zero, Int.ofNat_zero, Int.cast_ofNat_Int] at c4
      refine c4.mono ?_
      rintro v h' ⟨f4, s4, o4, rfl, rfl⟩
      have hd4 := s4.dm (by omega) hd3
      have t4 : Same f0 f4 0 n := t3.trans (s4.wide (Nat.le_refl _) (by omega))
      have l4 : Srt2 k f4 40 n := o3.cong fun p x1 x2 => s4.1 p (by omega)
      have w4 : Own f0 f4 0 40 := (w1.join w2 (by omega) (by omega)).same s4 (by omega)
      have w5 : Own f0 f4 40 n := w3.same s4 (by omega)
      refine gK.go ?_
      by_cases n3 : n = 40
      · have m9 : ¬ (40 : Int) < n := by omega
        repeat first | refine Run2.of I 1000 ?_ | (simp -implicitDefEqProofs [n1, m1, m3, m4, m5, m6, m7, m8, m9])
        exact ⟨f4, t4, by rw [n3]; exact o4, rfl, rfl⟩
      · have m9 : (40 : Int) < n := by omega
        repeat first | refine Run2.of I 1000 ?_ | (simp -implicitDefEqProofs [n1, m1, m3, m4, m5, m6, m7, m8, m9])
        have c5 := sym_s (id := id) (tl := tl) C hn1 n f4 0 40 n (by omega) (by omega) (by omega) (Nat.le_refl _) hd4 o4 l4 (w4.lt (by omega) hi w5)
        simp only [Int.natCast_zero, Int.ofNat_zero, Int.cast_ofNat_Int] at c5
        refine c5.mono ?_
        rintro v h' ⟨f5, s5, o5, rfl, rfl⟩
        refine gK.go ?_
        repeat first | refine Run2.of I 1000 ?_ | (simp -implicitDefEqProofs [n1, m1, m3, m4, m5, m6, m7, m8, m9])
        exact ⟨f5, t4.trans s5, o5, rfl, rfl⟩
theorem stb_s {id n : Nat} {tl : Heap} {g : FuncId} {caps : List AV} {k : Int → Int} {dm : Int → Prop} (C : Cm Try.prog g caps k dm) (hn : n ≤ 48) (hd : ∀ p, p < n → dm (idI p)) : ACalls Try.prog 141 [.sl id 1 0 n none, .int .i64 n, .fn g caps] ((id, ⟨1, (arr n idI).map iv⟩) :: tl) (OutS k id n idI tl 0 n) :=
  stb_g C hn (fun p q h1 h2 => by unfold idI; omega) hd
def upto (n : Nat) : List Int := (List.range n).map fun (i : Nat) => (i : Int)
theorem upto_succ (n : Nat) : upto (n + 1) = upto n ++ [(n : Int)] := by simp [upto, List.range_succ]
@[simp] theorem upto_length (n : Nat) : (upto n).length = n := by simp [upto]
theorem upto_arr (n : Nat) : upto n = arr n idI := rfl
theorem upto_mem (n : Nat) (a : Int) : a ∈ upto n ↔ 0 ≤ a ∧ a < n := by
  unfold upto
  rw [List.mem_map]
  constructor
  · rintro ⟨i, hi, rfl⟩
    have := List.mem_range.1 hi
    omega
  · rintro ⟨h1, h2⟩
    exact ⟨a.toNat, List.mem_range.2 (by omega), by omega⟩
theorem lt2_ext {k : Int → Int} : ∀ {l m : List Int}, l.Pairwise (lt2 k) → m.Pairwise (lt2 k) → (∀ a, a ∈ l ↔ a ∈ m) → l = m
  | [], [], _, _, _ => rfl
  | [], b :: m, _, _, h => by have := (h b).2 (List.mem_cons_self ..); simp at this
  | a :: l, [], _, _, h => by have := (h a).1 (List.mem_cons_self ..); simp at this
  | a :: l, b :: m, hl, hm, h => by
    rw [List.pairwise_cons] at hl hm
    have h1 : a = b := by
      rcases List.mem_cons.1 ((h a).1 (List.mem_cons_self ..)) with e | e
      · exact e
      · rcases List.mem_cons.1 ((h b).2 (List.mem_cons_self ..)) with e' | e'
        · exact e'.symm
        · exact absurd (lt2_trans (hl.1 b e') (hm.1 a e)) lt2_irr
    subst h1
    rw [lt2_ext hl.2 hm.2 fun c => ?_]
    constructor
    · intro hc
      rcases List.mem_cons.1 ((h c).1 (List.mem_cons_of_mem _ hc)) with e | e
      · subst e; exact absurd (hl.1 c hc) lt2_irr
      · exact e
    · intro hc
      rcases List.mem_cons.1 ((h c).2 (List.mem_cons_of_mem _ hc)) with e | e
      · subst e; exact absurd (hm.1 c hc) lt2_irr
      · exact e
theorem arr_srt {k : Int → Int} {f : Nat → Int} {n : Nat} (h : Srt2 k f 0 n) : (arr n f).Pairwise (lt2 k) := by
  rw [List.pairwise_iff_getElem]
  intro i j hi hj hij
  simp only [arr_len] at hi hj
  rw [arr_get hi (by simp [arr_len]; omega), arr_get hj (by simp [arr_len]; omega)]
  exact h i j (Nat.zero_le _) hij hj
theorem arr_mem {f : Nat → Int} {n : Nat} (h : Same idI f 0 n) (a : Int) : a ∈ arr n f ↔ 0 ≤ a ∧ a < n := by
  unfold arr
  rw [List.mem_map]
  constructor
  · rintro ⟨p, hp, rfl⟩
    obtain ⟨q, _, q2, e⟩ := h.2.1 p (Nat.zero_le _) (List.mem_range.1 hp)
    rw [e]; unfold idI; omega
  · rintro ⟨h1, h2⟩
    obtain ⟨q, _, q2, e⟩ := h.2.2 a.toNat (Nat.zero_le _) (by omega)
    exact ⟨q, List.mem_range.2 q2, by rw [← e]; unfold idI; omega⟩
/-- The numbers below n in the order of their keys. -/
def ordL (k : Int → Int) (n : Nat) : List Int := (upto n).mergeSort fun a b => decide (k a < k b ∨ k a = k b ∧ a ≤ b)
theorem ordL_perm (k : Int → Int) (n : Nat) : (ordL k n).Perm (upto n) := List.mergeSort_perm _ _
theorem ordL_len (k : Int → Int) (n : Nat) : (ordL k n).length = n := by rw [(ordL_perm k n).length_eq]; simp
theorem ordL_mem (k : Int → Int) (n : Nat) (a : Int) : a ∈ ordL k n ↔ 0 ≤ a ∧ a < n := by rw [(ordL_perm k n).mem_iff, upto_mem]
theorem ordL_srt (k : Int → Int) (n : Nat) : (ordL k n).Pairwise (lt2 k) := by
  have h1 : (ordL k n).Pairwise fun a b => decide (k a < k b ∨ k a = k b ∧ a ≤ b) = true := List.pairwise_mergeSort (fun a b c => by simp; omega) (fun a b => by simp; omega) _
  have h2 : (ordL k n).Nodup := (ordL_perm k n).nodup_iff.2 (by
    unfold upto
    rw [List.nodup_iff_pairwise_ne, List.pairwise_map]
    exact List.Pairwise.imp (fun {a b} h e => h (by omega)) (List.nodup_iff_pairwise_ne.1 List.nodup_range))
  have h3 := List.pairwise_and_iff.2 ⟨h1, List.nodup_iff_pairwise_ne.1 h2⟩
  refine h3.imp fun {a b} h => ?_
  have := h.1
  simp only [decide_eq_true_eq] at this
  have := h.2
  unfold lt2; omega
theorem ordL_eq {k : Int → Int} {n : Nat} {l : List Int} (h1 : l.Pairwise (lt2 k)) (h2 : ∀ a, a ∈ l ↔ 0 ≤ a ∧ a < n) : l = ordL k n := lt2_ext h1 (ordL_srt k n) fun a => by rw [h2, ordL_mem]
def keyT (ts : List Int) (a : Int) : Int := ts.getD a.toNat 0
end Go.AG
