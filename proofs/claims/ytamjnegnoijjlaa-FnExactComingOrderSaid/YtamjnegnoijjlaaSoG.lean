/- The order in which simplices come: the program and the reference. No statement is made here. -/
import Derived.Test.YtamjnegnoijjlaaSoF
namespace Go.AG
open Go.Proofs Go.Proofs.Ytamjnegnoijjlaa
set_option linter.unusedSimpArgs false
set_option linter.unusedVariables false
set_option maxRecDepth 4000
noncomputable def orcG1 : List (Nat × (List AV → Option (Prop × AV))) := (127, o_compare) :: []
theorem orcG1_p : Pure Try.prog (lk orcG1) := (lk_pure o_compare_k lk_pure0)
@[simp] theorem orcG1_l (b : Bool) (g : FuncId) (l : List AV) : lk orcG1 b g l = if g = 127 then o_compare l else none := nr rfl
abbrev k126_o0 : List AJ := [.o ⟨(some 5), none, false, .mv (.c (.int .i64 0)), (some [0, 1, 2])⟩]
abbrev k126_o1 : List AI := [⟨(some 6), none, false, .fieldA 1 (.t 2), none⟩, ⟨(some 7), none, false, .load 1 false (.t 6), none⟩, ⟨(some 8), none, false, .mv (.t 0), none⟩, ⟨(some 9), none, false, .idxA 1 (.t 7) (.t 8), none⟩, ⟨(some 10), none, false, .load 1 false (.t 9), none⟩, ⟨(some 11), none, false, .fieldA 1 (.t 2), none⟩, ⟨(some 12), none, false, .load 1 false (.t 11), none⟩, ⟨(some 13), none, false, .mv (.t 1), none⟩, ⟨(some 14), none, false, .idxA 1 (.t 12) (.t 13), none⟩, ⟨(some 15), none, false, .load 1 false (.t 14), none⟩, ⟨(some 16), none, false, .call 127 [(.t 10), (.t 15)], none⟩, ⟨(some 5), none, false, .mv (.t 16), (some [5])⟩]
def k126_2 : ACode := .seq (.draw k126_o1 [] rfl) .ret
def k126_3 : ACode := .seq (.region k126_o0) k126_2
@[simp, simp ↓] theorem k126_2r : sD k126_2 k126_o1 [] .ret := yD rfl
@[simp, simp ↓] theorem k126_3r : sR k126_3 k126_o0 k126_2 := yR rfl
noncomputable abbrev k126_C : Orc → Cx := mkC Try.prog [] 126 17 [.tmp 5]
theorem k126_of0 : OfP0 Try.prog Try.f126 126 17 k126_C k126_3 := @ofP0 _ _ _ _ _ _ _ _ Try.func126 (by decide +kernel) rfl (by kernel_rfl) rfl (by kernel_rfl)
theorem cm_c (x : Fil) (a b : Nat) (h : Heap) (ha : a < x.ts.length) (hb : b < x.ts.length) : ACalls Try.prog 126 [.int .i64 a, .int .i64 b, .ip [.snap 1 (x.rs.map il), .snap 1 (x.ts.map iv)]] h (fun v h' => v = .int .i64 (cmpZ x.ts[a] x.ts[b]) ∧ h' = h) := by
  refine k126_of0 rfl orcG1_p fun I => ?_
  refine Run2.of I 1000 ?_
  simp -implicitDefEqProofs [ha, hb]
theorem cm_ok (x : Fil) : Cm Try.prog 126 [.ip [.snap 1 (x.rs.map il), .snap 1 (x.ts.map iv)]] (keyT x.ts) (fun a => 0 ≤ a ∧ a < x.ts.length) := ⟨fun a b H ha hb => by
  obtain ⟨a, rfl⟩ : ∃ n : Nat, a = n := ⟨a.toNat, by omega⟩
  obtain ⟨b, rfl⟩ : ∃ n : Nat, b = n := ⟨b.toNat, by omega⟩
  have ha' : a < x.ts.length := by omega
  have hb' : b < x.ts.length := by omega
  refine ⟨cmpZ x.ts[a] x.ts[b], ?_, cm_c x a b H ha' hb'⟩
  rw [cmpZ_neg]
  simp [keyT, ha', hb']⟩
abbrev k87_o0 : List AJ := [.o ⟨(some 2), none, false, .mv (.c .nilsl), (some [0])⟩]
abbrev k87_o1 : List AJ := [.o ⟨(some 3), none, false, .mv (.c .nilsl), (some [0, 3])⟩]
abbrev k87_o2 : List AJ := [.o ⟨(some 5), none, false, .mv (.t 0), none⟩, .o ⟨(some 6), none, false, .mv (.c (.int .i64 0)), (some [3, 5, 6])⟩]
abbrev k87_o3 : List AJ := [.o ⟨(some 7), none, false, .bin .lss (.t 6) (.t 5), (some [3, 5, 6, 7])⟩]
abbrev k87_o4 : List AJ := [.o ⟨(some 8), none, false, .mv (.t 6), none⟩, .o ⟨(some 4), none, false, .mv (.t 8), (some [3, 4, 5, 6])⟩]
abbrev k87_o5 : List AJ := [.o ⟨(some 9), none, false, .mv (.t 3), none⟩, .o ⟨(some 10), none, false, .mv (.t 4), none⟩, .o ⟨(some 11), none, false, .bsl false 1 [(.t 10)], none⟩, .o ⟨(some 12), none, false, .append 1 8 (.t 9) (.t 11), none⟩, .o ⟨(some 3), none, false, .mv (.t 12), (some [3, 5, 6])⟩]
def k87_6 : ACode := .region k87_o5
def k87_7 : ACode := .seq (.region k87_o4) k87_6
abbrev k87_o6 : List AJ := [.o ⟨(some 13), none, true, .bin .add (.t 6) (.c (.int .i64 1)), none⟩, .o ⟨(some 6), none, false, .mv (.t 13), (some [3, 5, 6])⟩]
def k87_9 : ACode := .region k87_o6
def k87_10 : ACode := .seq (.block 1 k87_7) k87_9
def k87_11 : ACode := .seq (.cond (.t 7) .skip (.exit 0)) k87_10
def k87_12 : ACode := .seq (.region k87_o3) k87_11
def k87_13 : ACode := .loop k87_12
def k87_14 : ACode := .block 0 k87_13
def k87_15 : ACode := .seq (.region k87_o2) k87_14
abbrev k87_o7 : List AJ := [.o ⟨(some 14), none, false, .mv (.t 3), none⟩, .o ⟨(some 2), none, false, .mv (.t 14), (some [2])⟩]
def k87_17 : ACode := .seq (.region k87_o7) .ret
def k87_18 : ACode := .seq k87_15 k87_17
def k87_19 : ACode := .seq (.region k87_o1) k87_18
def k87_20 : ACode := .seq (.region k87_o0) k87_19
@[simp, simp ↓] theorem k87_6r : rR k87_6 k87_o5 := zR rfl
@[simp, simp ↓] theorem k87_7r : sR k87_7 k87_o4 k87_6 := yR rfl
@[simp, simp ↓] theorem k87_9r : rR k87_9 k87_o6 := zR rfl
@[simp, simp ↓] theorem k87_10r : sB k87_10 1 k87_7 k87_9 := yB rfl
@[simp, simp ↓] theorem k87_11r : sC k87_11 (.t 7) .skip (.exit 0) k87_10 := yC rfl
@[simp, simp ↓] theorem k87_12r : sR k87_12 k87_o3 k87_11 := yR rfl
@[simp, simp ↓] theorem k87_13r : rL k87_13 k87_12 := zL rfl
@[simp, simp ↓] theorem k87_14r : rB k87_14 0 k87_13 := zB rfl
@[simp, simp ↓] theorem k87_15r : sR k87_15 k87_o2 k87_14 := yR rfl
@[simp, simp ↓] theorem k87_17r : sR k87_17 k87_o7 .ret := yR rfl
@[simp, simp ↓] theorem k87_18r : rS k87_18 k87_15 k87_17 := zS rfl
@[simp, simp ↓] theorem k87_19r : sR k87_19 k87_o1 k87_18 := yR rfl
@[simp, simp ↓] theorem k87_20r : sR k87_20 k87_o0 k87_19 := yR rfl
noncomputable abbrev k87_C : Orc → Cx := mkC Try.prog [] 87 15 [.tmp 2]
theorem k87_of : OfP Try.prog Try.f87 87 15 k87_C k87_20 := @ofP _ _ _ _ _ _ _ _ Try.func87 (by decide +kernel) rfl (by kernel_rfl) rfl (by kernel_rfl)
theorem firstChoice_s (n : Nat) (h : Heap) (hn : n ≤ 1048576) : ACalls Try.prog 87 [.int .i64 n] h (fun v h' => v = .snap 1 ((upto n).map iv) ∧ h' = h) := by
  refine k87_of rfl noPure fun I => ?_
  refine Run2.of I 1000 ?_
  simp -implicitDefEqProofs
  refine Run2.loopE (α := Nat × AV × Heap) (fun s => [(3, s.2.1), (5, .int .i64 n), (6, .int .i64 (s.1 : Nat))]) (fun s => s.2.2 ++ h) (fun s => n - s.1) (fun s => s.1 ≤ n ∧ Grow 1 s.2.1 ((upto s.1).map iv) s.2.2) (0, .nilsl, []) (by simp) rfl ⟨Nat.zero_le _, by simpa [upto] using Grow.nil⟩ ?_
  rintro ⟨i, w, hp⟩ ⟨hi, hg⟩ ih
  simp only at hi hg
  have hcell := hg.cell
  by_cases hlt : i < n
  · have go := fun w' hp' (g : Grow 1 w' ((upto i).map iv ++ [.int .i64 i]) hp') => ih (i + 1, w', hp') ⟨hlt, by rw [upto_succ]; simpa using g⟩ (by simp; omega)
    clear ih
    refine Run2.of I 1000 ?_
    simp -implicitDefEqProofs [hlt, hcell]
    refine hg.app (by simp; omega) (by simp) fun w' hp' hg' => ?_
    have hcell' := hg'.cell
    simp -implicitDefEqProofs [hcell']
    refine ⟨by omega, ?_⟩
    simpa using go w' hp' hg'
  · obtain rfl : i = n := by omega
    refine Run2.of I 1000 ?_
    simp -implicitDefEqProofs [hcell]
    exact hg.froze (fun x => x) (fun _ _ _ => rfl) (fun _ _ h => h) (.base ⟨rfl, rfl⟩)
theorem ins0_s {u c : AV} (hu : u = .nilsl ∨ u = .emp) (h : Heap) : ACalls Try.prog 164 [u, .int .i64 0, .int .i64 0, c] h (fun v h' => v = .tup [] ∧ h' = h) := by
  refine k164_of0 rfl noPure fun I => ?_
  refine Run2.of I 1000 ?_
  simp -implicitDefEqProofs
  refine Run2.of I 1000 ?_
  simp -implicitDefEqProofs
theorem stb0_s {u c : AV} (hu : u = .nilsl ∨ u = .emp) (h : Heap) : ACalls Try.prog 141 [u, .int .i64 0, c] h (fun v h' => v = .tup [] ∧ h' = h) := by
  refine k141_of0 rfl noPure fun I => ?_
  have c1 := ins0_s (c := c) hu h
  repeat first | refine Run2.of I 1000 ?_ | (simp -implicitDefEqProofs)
  refine c1.mono ?_
  rintro v h' ⟨rfl, rfl⟩
  refine gK.go ?_
  repeat first | refine Run2.of I 1000 ?_ | (simp -implicitDefEqProofs)
abbrev k125_o0 : List AJ := [.o ⟨(some 4), none, false, .mv (.t 0), none⟩, .o ⟨(some 5), none, false, .mv (.t 0), none⟩, .o ⟨(some 6), none, false, .len (.t 5), none⟩, .o ⟨(some 7), none, false, .mv (.t 1), none⟩, .o ⟨(some 8), none, false, .call 141 [(.t 4), (.t 6), (.t 7)], (some [])⟩]
def k125_0 : ACode := .region k125_o0
@[simp, simp ↓] theorem k125_0r : rR k125_0 k125_o0 := zR rfl
noncomputable abbrev k125_C : Orc → Cx := mkC Try.prog [] 125 9 []
theorem k125_of0 : OfP0 Try.prog Try.f125 125 9 k125_C k125_0 := @ofP0 _ _ _ _ _ _ _ _ Try.func125 (by decide +kernel) rfl (by kernel_rfl) rfl (by kernel_rfl)
theorem sortSt_s {v : AV} {n : Nat} {hp h : Heap} {g : FuncId} {caps : List AV} {k : Int → Int} {dm : Int → Prop} (C : Cm Try.prog g caps k dm) (hn : n ≤ 48) (hd : ∀ p, p < n → dm (idI p)) (G : Grow 1 v ((upto n).map iv) hp) : ACalls Try.prog 125 [v, .fn g caps] (hp ++ h) (fun r h' => r = .tup [] ∧ ∃ hp', OwnL iv 1 v (ordL k n) hp' ∧ dom hp' = dom hp ∧ h' = hp' ++ h) := by
  have hcell := G.cell
  have hst := stor_of hcell
  have hcl := cells_of hcell
  have hlen := G.len
  simp only [List.length_map, upto_length] at hlen
  generalize hm : (upto n).map iv = m at G
  have e0 : n = 0 → ordL k n = [] := fun h0 => List.length_eq_zero_iff.1 (by rw [ordL_len, h0])
  have z0 : ∀ u : AV, u = .nilsl ∨ u = .emp → m = [] → OwnL iv 1 u [] [] → ACalls Try.prog 125 [u, .fn g caps] ([] ++ h) (fun r h' => r = .tup [] ∧ ∃ hp', OwnL iv 1 u (ordL k n) hp' ∧ dom hp' = dom ([] : Heap) ∧ h' = hp' ++ h) := by
    intro u hu hm0 ho
    have hn0 : n = 0 := by
      have := congrArg List.length hm
      rw [hm0] at this
      simpa using this
    rw [e0 hn0]
    have hl0 : lenR u = .val (.int .i64 0) := by rcases hu with rfl | rfl <;> simp
    have hc0 : isCell u = true := by rcases hu with rfl | rfl <;> rfl
    have c1 := stb0_s (c := .fn g caps) hu h
    suffices H : ACalls Try.prog 125 [u, .fn g caps] ([] ++ h) (fun r h' => r = .tup [] ∧ h' = h) from H.mono fun r h' ⟨a1, a2⟩ => ⟨a1, [], ho, rfl, by simpa using a2⟩
    refine k125_of0 rfl noPure fun I => ?_
    refine Run2.of I 1000 ?_
    simp -implicitDefEqProofs [hl0, hc0]
    refine c1.mono ?_
    rintro v h' ⟨rfl, rfl⟩
    refine gK.go ?_
    simp -implicitDefEqProofs
  cases G with
  | nil => exact z0 _ (.inl rfl) rfl .nil
  | emp => exact z0 _ (.inr rfl) rfl .emp
  | sl id m q hq =>
    subst hm
    simp only [List.length_map, upto_length] at hq
    have hq2 := hq.symm
    subst hq2
    have c1 := stb_s (id := id) (tl := h) C hn hd
    rw [← upto_arr] at c1
    suffices H : ACalls Try.prog 125 [.sl id 1 0 n none, .fn g caps] ([(id, ⟨1, (upto n).map iv⟩)] ++ h) (OutS k id n idI h 0 n) from H.mono fun r h' ⟨f', s1, o1, a1, a2⟩ => ⟨a1, [(id, ⟨1, (arr n f').map iv⟩)], by
      rw [← ordL_eq (arr_srt o1) (arr_mem s1)]
      have := OwnL.sl (enc := iv) (sz := 1) (l := arr n f') id none [] rfl
      simpa [arr_len] using this, rfl, by simpa using a2⟩
    refine k125_of0 rfl noPure fun I => ?_
    refine Run2.of I 1000 ?_
    simp -implicitDefEqProofs
    refine c1.mono ?_
    rintro v h' ⟨f', s1, o1, rfl, rfl⟩
    refine gK.go ?_
    simp -implicitDefEqProofs
    exact ⟨f', s1, o1, rfl, rfl⟩
abbrev k86_o0 : List AJ := [.o ⟨(some 2), none, false, .box false 2 (.t 0), none⟩, .o ⟨(some 4), none, false, .mv (.c .nilsl), (some [1, 2])⟩]
abbrev k86_o1 : List AJ := [.o ⟨(some 6), none, false, .mv (.t 1), none⟩, .o ⟨(some 7), none, false, .call 109 [(.t 6)], none⟩, .o ⟨(some 5), none, false, .mv (.t 7), (some [2, 5])⟩]
abbrev k86_o2 : List AJ := [.o ⟨(some 8), none, false, .mv (.t 5), none⟩, .o ⟨(some 9), none, false, .mkfn 126 [(.t 2)], none⟩, .o ⟨(some 10), none, false, .call 125 [(.t 8), (.t 9)], (some [5])⟩]
abbrev k86_o3 : List AJ := [.o ⟨(some 11), none, false, .mv (.t 5), none⟩, .o ⟨(some 4), none, false, .mv (.t 11), (some [4])⟩]
def k86_4 : ACode := .seq (.region k86_o3) .ret
def k86_5 : ACode := .seq (.region k86_o2) k86_4
def k86_6 : ACode := .seq (.region k86_o1) k86_5
def k86_7 : ACode := .seq (.region k86_o0) k86_6
@[simp, simp ↓] theorem k86_4r : sR k86_4 k86_o3 .ret := yR rfl
@[simp, simp ↓] theorem k86_5r : sR k86_5 k86_o2 k86_4 := yR rfl
@[simp, simp ↓] theorem k86_6r : sR k86_6 k86_o1 k86_5 := yR rfl
@[simp, simp ↓] theorem k86_7r : sR k86_7 k86_o0 k86_6 := yR rfl
noncomputable abbrev k86_C : Orc → Cx := mkC Try.prog [] 86 12 [.tmp 4]
theorem k86_of : OfP Try.prog Try.f86 86 12 k86_C k86_7 := @ofP _ _ _ _ _ _ _ _ Try.func86 (by decide +kernel) rfl (by kernel_rfl) rfl (by kernel_rfl)
theorem coming_o (x : Fil) (h : Heap) (hl : x.tot ≤ 1048576) (hn : x.ts.length ≤ 48) : ACalls Try.prog 86 [x.av, .snap 1 ((upto x.ts.length).map iv)] h (fun v h' => ∃ g, OwnL iv 1 v (ordL (keyT x.ts) x.ts.length) g ∧ h' = g ++ h) := by
  refine k86_of rfl noPure fun I => ?_
  refine Run2.of I 1000 ?_
  simp -implicitDefEqProofs
  refine (Clone_w (upto x.ts.length) h (by simp; omega)).mono ?_
  rintro v h' ⟨hp, G, rfl⟩
  have hcell := G.cell
  have hst := stor_of hcell
  have hcl := cells_of hcell
  refine gK.go ?_
  simp -implicitDefEqProofs [hcell, hst, hcl]
  have c1 := sortSt_s (h := h) (cm_ok x) hn (fun p hp => by unfold idI; omega) G
  refine c1.mono ?_
  rintro r h' ⟨rfl, hp', o, hd, rfl⟩
  refine gK.go ?_
  simp -implicitDefEqProofs [hcell]
  exact .base ⟨hp', o, rfl⟩
end Go.AG
