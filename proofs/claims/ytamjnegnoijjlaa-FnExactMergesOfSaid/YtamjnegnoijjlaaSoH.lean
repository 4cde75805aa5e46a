/- The order in which simplices come: the reference. No statement is made here. -/
import Derived.Test.YtamjnegnoijjlaaSoF
namespace Go.AG
open Go.Proofs Go.Proofs.Ytamjnegnoijjlaa
set_option linter.unusedSimpArgs false
set_option linter.unusedVariables false
set_option maxRecDepth 4000
noncomputable def orcG1 : List (Nat × (List AV → Option (Prop × AV))) := (127, o_compare) :: []
theorem orcG1_p : Pure Try.prog (lk orcG1) := (lk_pure o_compare_k lk_pure0)
@[simp] theorem orcG1_l (b : Bool) (g : FuncId) (l : List AV) : lk orcG1 b g l = if g = 127 then o_compare l else none := nr rfl
abbrev k126_o0 : List AJ := [.o ⟨(some 5), none, false, .mv (.c (.int .i64 0)), (some [0, 1, 2])⟩]
abbrev k126_o1 : List AI := [⟨(some 6), none, false, .fieldA 1 (.t 2), none⟩, ⟨(some 7), none, false, .load 1 false (.t 6), none⟩, ⟨(some 8), none, false, .mv (.t 0), none⟩, ⟨(some 9), none, false, .idxA 1 (.t 7) (.t 8), none⟩, ⟨(some 10), none, false, .load 1 false (.t 9), none⟩, ⟨(some 11), none, false, .fieldA 1 (.t 2), none⟩, ⟨(some 12), none, false, .load 1 false (.t 11), none⟩, ⟨(some 13), none, false, .mv (.t 1), none⟩, ⟨(some 14), none, false, .idxA 1 (.t 12) (.t 13), none⟩, ⟨(some 15), none, false, .load 1 false (.t 14), none⟩, ⟨(some 16), none, false, .call 127 [(.t 10), (.t 15)], none⟩, ⟨(some 5), none, false, .mv (.t 16), (some [5])⟩]
def k126_2 : ACode := .seq (.draw k126_o1 [] rfl) .ret
def k126_3 : ACode := .seq (.region k126_o0) k126_2
@[simp, simp ↓] theorem k126_2r : sD k126_2 k126_o1 [] .ret := yD rfl
@[simp, simp ↓] theorem k126_3r : sR k126_3 k126_o0 k126_2 := yR rfl
noncomputable abbrev k126_C : Orc → Cx := mkC Try.prog [] 126 17 [.tmp 5]
theorem k126_of0 : OfP0 Try.prog Try.f126 126 17 k126_C k126_3 := @ofP0 _ _ _ _ _ _ _ _ Try.func126 (by decide +kernel) rfl (by kernel_rfl) rfl (by kernel_rfl)
theorem cm_c (x : Fil) (a b : Nat) (h : Heap) (ha : a < x.ts.length) (hb : b < x.ts.length) : ACalls Try.prog 126 [.int .i64 a, .int .i64 b, .ip [.snap 1 (x.rs.map il), .snap 1 (x.ts.map iv)]] h (fun v h' => v = .int .i64 (cmpZ x.ts[a] x.ts[b]) ∧ h' = h) := by
  refine k126_of0 rfl orcG1_p fun I => ?_
  refine Run2.of I 1000 ?_
  simp -implicitDefEqProofs [ha, hb]
theorem cm_ok (x : Fil) : Cm Try.prog 126 [.ip [.snap 1 (x.rs.map il), .snap 1 (x.ts.map iv)]] (keyT x.ts) (fun a => 0 ≤ a ∧ a < x.ts.length) := ⟨fun a b H ha hb => by
  obtain ⟨a, rfl⟩ : ∃ n : Nat, a = n := ⟨a.toNat, by omega⟩
  obtain ⟨b, rfl⟩ : ∃ n : Nat, b = n := ⟨b.toNat, by omega⟩
  have ha' : a < x.ts.length := by omega
  have hb' : b < x.ts.length := by omega
  refine ⟨cmpZ x.ts[a] x.ts[b], ?_, cm_c x a b H ha' hb'⟩
  rw [cmpZ_neg]
  simp [keyT, ha', hb']⟩
abbrev k87_o0 : List AJ := [.o ⟨(some 2), none, false, .mv (.c .nilsl), (some [0])⟩]
abbrev k87_o1 : List AJ := [.o ⟨(some 3), none, false, .mv (.c .nilsl), (some [0, 3])⟩]
abbrev k87_o2 : List AJ := [.o ⟨(some 5), none, false, .mv (.t 0), none⟩, .o ⟨(some 6), none, false, .mv (.c (.int .i64 0)), (some [3, 5, 6])⟩]
abbrev k87_o3 : List AJ := [.o ⟨(some 7), none, false, .bin .lss (.t 6) (.t 5), (some [3, 5, 6, 7])⟩]
abbrev k87_o4 : List AJ := [.o ⟨(some 8), none, false, .mv (.t 6), none⟩, .o ⟨(some 4), none, false, .mv (.t 8), (some [3, 4, 5, 6])⟩]
abbrev k87_o5 : List AJ := [.o ⟨(some 9), none, false, .mv (.t 3), none⟩, .o ⟨(some 10), none, false, .mv (.t 4), none⟩, .o ⟨(some 11), none, false, .bsl false 1 [(.t 10)], none⟩, .o ⟨(some 12), none, false, .append 1 8 (.t 9) (.t 11), none⟩, .o ⟨(some 3), none, false, .mv (.t 12), (some [3, 5, 6])⟩]
def k87_6 : ACode := .region k87_o5
def k87_7 : ACode := .seq (.region k87_o4) k87_6
abbrev k87_o6 : List AJ := [.o ⟨(some 13), none, true, .bin .add (.t 6) (.c (.int .i64 1)), none⟩, .o ⟨(some 6), none, false, .mv (.t 13), (some [3, 5, 6])⟩]
def k87_9 : ACode := .region k87_o6
def k87_10 : ACode := .seq (.block 1 k87_7) k87_9
def k87_11 : ACode := .seq (.cond (.t 7) .skip (.exit 0)) k87_10
def k87_12 : ACode := .seq (.region k87_o3) k87_11
def k87_13 : ACode := .loop k87_12
def k87_14 : ACode := .block 0 k87_13
def k87_15 : ACode := .seq (.region k87_o2) k87_14
abbrev k87_o7 : List AJ := [.o ⟨(some 14), none, false, .mv (.t 3), none⟩, .o ⟨(some 2), none, false, .mv (.t 14), (some [2])⟩]
def k87_17 : ACode := .seq (.region k87_o7) .ret
def k87_18 : ACode := .seq k87_15 k87_17
def k87_19 : ACode := .seq (.region k87_o1) k87_18
def k87_20 : ACode := .seq (.region k87_o0) k87_19
@[simp, simp ↓] theorem k87_6r : rR k87_6 k87_o5 := zR rfl
@[simp, simp ↓] theorem k87_7r : sR k87_7 k87_o4 k87_6 := yR rfl
@[simp, simp ↓] theorem k87_9r : rR k87_9 k87_o6 := zR rfl
@[simp, simp ↓] theorem k87_10r : sB k87_10 1 k87_7 k87_9 := yB rfl
@[simp, simp ↓] theorem k87_11r : sC k87_11 (.t 7) .skip (.exit 0) k87_10 := yC rfl
@[simp, simp ↓] theorem k87_12r : sR k87_12 k87_o3 k87_11 := yR rfl
@[simp, simp ↓] theorem k87_13r : rL k87_13 k87_12 := zL rfl
@[simp, simp ↓] theorem k87_14r : rB k87_14 0 k87_13 := zB rfl
@[simp, simp ↓] theorem k87_15r : sR k87_15 k87_o2 k87_14 := yR rfl
@[simp, simp ↓] theorem k87_17r : sR k87_17 k87_o7 .ret := yR rfl
@[simp, simp ↓] theorem k87_18r : rS k87_18 k87_15 k87_17 := zS rfl
@[simp, simp ↓] theorem k87_19r : sR k87_19 k87_o1 k87_18 := yR rfl
@[simp, simp ↓] theorem k87_20r : sR k87_20 k87_o0 k87_19 := yR rfl
noncomputable abbrev k87_C : Orc → Cx := mkC Try.prog [] 87 15 [.tmp 2]
theorem k87_of0 : OfP0 Try.prog Try.f87 87 15 k87_C k87_20 := @ofP0 _ _ _ _ _ _ _ _ Try.func87 (by decide +kernel) rfl (by kernel_rfl) rfl (by kernel_rfl)
theorem firstChoice_g (n : Nat) (h : Heap) (hn : n ≤ 1048576) : ACalls Try.prog 87 [.int .i64 n] h (fun v h' => ∃ hp, Grow 1 v ((upto n).map iv) hp ∧ h' = hp ++ h) := by
  refine k87_of0 rfl noPure fun I => ?_
  refine Run2.of I 1000 ?_
  simp -implicitDefEqProofs
  refine Run2.loopE (α := Nat × AV × Heap) (fun s => [(3, s.2.1), (5, .int .i64 n), (6, .int .i64 (s.1 : Nat))]) (fun s => s.2.2 ++ h) (fun s => n - s.1) (fun s => s.1 ≤ n ∧ Grow 1 s.2.1 ((upto s.1).map iv) s.2.2) (0, .nilsl, []) (by simp) rfl ⟨Nat.zero_le _, by simpa [upto] using Grow.nil⟩ ?_
  rintro ⟨i, w, hp⟩ ⟨hi, hg⟩ ih
  simp only at hi hg
  have hcell := hg.cell
  by_cases hlt : i < n
  · have go := fun w' hp' (g : Grow 1 w' ((upto i).map iv ++ [.int .i64 i]) hp') => ih (i + 1, w', hp') ⟨hlt, by rw [upto_succ]; simpa using g⟩ (by simp; omega)
    clear ih
    refine Run2.of I 1000 ?_
    simp -implicitDefEqProofs [hlt, hcell]
    refine hg.app (by simp; omega) (by simp) fun w' hp' hg' => ?_
    have hcell' := hg'.cell
    simp -implicitDefEqProofs [hcell']
    refine ⟨by omega, ?_⟩
    simpa using go w' hp' hg'
  · obtain rfl : i = n := by omega
    refine Run2.of I 1000 ?_
    simp -implicitDefEqProofs [hcell]
    exact hg
theorem firstChoice_s (n : Nat) (h : Heap) (hn : n ≤ 1048576) : ACalls Try.prog 87 [.int .i64 n] h (fun v h' => v = .snap 1 ((upto n).map iv) ∧ h' = h) := by
  refine ACalls.post ((firstChoice_g n h hn).mono ?_)
  rintro v h' ⟨hp, g, rfl⟩
  exact g.froze (fun x => x) (fun _ _ _ => rfl) (fun _ _ h => h) (.base ⟨rfl, rfl⟩)
theorem ins0_s {u c : AV} (hu : u = .nilsl ∨ u = .emp) (h : Heap) : ACalls Try.prog 164 [u, .int .i64 0, .int .i64 0, c] h (fun v h' => v = .tup [] ∧ h' = h) := by
  refine k164_of0 rfl noPure fun I => ?_
  refine Run2.of I 1000 ?_
  simp -implicitDefEqProofs
  refine Run2.of I 1000 ?_
  simp -implicitDefEqProofs
theorem stb0_s {u c : AV} (hu : u = .nilsl ∨ u = .emp) (h : Heap) : ACalls Try.prog 141 [u, .int .i64 0, c] h (fun v h' => v = .tup [] ∧ h' = h) := by
  refine k141_of0 rfl noPure fun I => ?_
  have c1 := ins0_s (c := c) hu h
  repeat first | refine Run2.of I 1000 ?_ | (simp -implicitDefEqProofs)
  refine c1.mono ?_
  rintro v h' ⟨rfl, rfl⟩
  refine gK.go ?_
  repeat first | refine Run2.of I 1000 ?_ | (simp -implicitDefEqProofs)
abbrev k125_o0 : List AJ := [.o ⟨(some 4), none, false, .mv (.t 0), none⟩, .o ⟨(some 5), none, false, .mv (.t 0), none⟩, .o ⟨(some 6), none, false, .len (.t 5), none⟩, .o ⟨(some 7), none, false, .mv (.t 1), none⟩, .o ⟨(some 8), none, false, .call 141 [(.t 4), (.t 6), (.t 7)], (some [])⟩]
def k125_0 : ACode := .region k125_o0
@[simp, simp ↓] theorem k125_0r : rR k125_0 k125_o0 := zR rfl
noncomputable abbrev k125_C : Orc → Cx := mkC Try.prog [] 125 9 []
theorem k125_of0 : OfP0 Try.prog Try.f125 125 9 k125_C k125_0 := @ofP0 _ _ _ _ _ _ _ _ Try.func125 (by decide +kernel) rfl (by kernel_rfl) rfl (by kernel_rfl)
theorem sortSt_s {v : AV} {n : Nat} {hp h : Heap} {g : FuncId} {caps : List AV} {k : Int → Int} {dm : Int → Prop} (C : Cm Try.prog g caps k dm) (hn : n ≤ 48) (hd : ∀ p, p < n → dm (idI p)) (G : Grow 1 v ((upto n).map iv) hp) : ACalls Try.prog 125 [v, .fn g caps] (hp ++ h) (fun r h' => r = .tup [] ∧ ∃ hp', OwnL iv 1 v (ordL k n) hp' ∧ dom hp' = dom hp ∧ h' = hp' ++ h) := by
  have hcell := G.cell
  have hst := stor_of hcell
  have hcl := cells_of hcell
  have hlen := G.len
  simp only [List.length_map, upto_length] at hlen
  generalize hm : (upto n).map iv = m at G
  have e0 : n = 0 → ordL k n = [] := fun h0 => List.length_eq_zero_iff.1 (by rw [ordL_len, h0])
  have z0 : ∀ u : AV, u = .nilsl ∨ u = .emp → m = [] → OwnL iv 1 u [] [] → ACalls Try.prog 125 [u, .fn g caps] ([] ++ h) (fun r h' => r = .tup [] ∧ ∃ hp', OwnL iv 1 u (ordL k n) hp' ∧ dom hp' = dom ([] : Heap) ∧ h' = hp' ++ h) := by
    intro u hu hm0 ho
    have hn0 : n = 0 := by
      have := congrArg List.length hm
      rw [hm0] at this
      simpa using this
    rw [e0 hn0]
    have hl0 : lenR u = .val (.int .i64 0) := by rcases hu with rfl | rfl <;> simp
    have hc0 : isCell u = true := by rcases hu with rfl | rfl <;> rfl
    have c1 := stb0_s (c := .fn g caps) hu h
    suffices H : ACalls Try.prog 125 [u, .fn g caps] ([] ++ h) (fun r h' => r = .tup [] ∧ h' = h) from H.mono fun r h' ⟨a1, a2⟩ => ⟨a1, [], ho, rfl, by simpa using a2⟩
    refine k125_of0 rfl noPure fun I => ?_
    refine Run2.of I 1000 ?_
    simp -implicitDefEqProofs [hl0, hc0]
    refine c1.mono ?_
    rintro v h' ⟨rfl, rfl⟩
    refine gK.go ?_
    simp -implicitDefEqProofs
  cases G with
  | nil => exact z0 _ (.inl rfl) rfl .nil
  | emp => exact z0 _ (.inr rfl) rfl .emp
  | sl id m q hq =>
    subst hm
    simp only [List.length_map, upto_length] at hq
    have hq2 := hq.symm
    subst hq2
    have c1 := stb_s (id := id) (tl := h) C hn hd
    rw [← upto_arr] at c1
    suffices H : ACalls Try.prog 125 [.sl id 1 0 n none, .fn g caps] ([(id, ⟨1, (upto n).map iv⟩)] ++ h) (OutS k id n idI h 0 n) from H.mono fun r h' ⟨f', s1, o1, a1, a2⟩ => ⟨a1, [(id, ⟨1, (arr n f').map iv⟩)], by
      rw [← ordL_eq (arr_srt o1) (arr_mem s1)]
      have := OwnL.sl (enc := iv) (sz := 1) (l := arr n f') id none [] rfl
      simpa [arr_len] using this, rfl, by simpa using a2⟩
    refine k125_of0 rfl noPure fun I => ?_
    refine Run2.of I 1000 ?_
    simp -implicitDefEqProofs
    refine c1.mono ?_
    rintro v h' ⟨f', s1, o1, rfl, rfl⟩
    refine gK.go ?_
    simp -implicitDefEqProofs
    exact ⟨f', s1, o1, rfl, rfl⟩
abbrev k86_o0 : List AJ := [.o ⟨(some 2), none, false, .box false 2 (.t 0), none⟩, .o ⟨(some 4), none, false, .mv (.c .nilsl), (some [1, 2])⟩]
abbrev k86_o1 : List AJ := [.o ⟨(some 6), none, false, .mv (.t 1), none⟩, .o ⟨(some 7), none, false, .call 109 [(.t 6)], none⟩, .o ⟨(some 5), none, false, .mv (.t 7), (some [2, 5])⟩]
abbrev k86_o2 : List AJ := [.o ⟨(some 8), none, false, .mv (.t 5), none⟩, .o ⟨(some 9), none, false, .mkfn 126 [(.t 2)], none⟩, .o ⟨(some 10), none, false, .call 125 [(.t 8), (.t 9)], (some [5])⟩]
abbrev k86_o3 : List AJ := [.o ⟨(some 11), none, false, .mv (.t 5), none⟩, .o ⟨(some 4), none, false, .mv (.t 11), (some [4])⟩]
def k86_4 : ACode := .seq (.region k86_o3) .ret
def k86_5 : ACode := .seq (.region k86_o2) k86_4
def k86_6 : ACode := .seq (.region k86_o1) k86_5
def k86_7 : ACode := .seq (.region k86_o0) k86_6
@[simp, simp ↓] theorem k86_4r : sR k86_4 k86_o3 .ret := yR rfl
@[simp, simp ↓] theorem k86_5r : sR k86_5 k86_o2 k86_4 := yR rfl
@[simp, simp ↓] theorem k86_6r : sR k86_6 k86_o1 k86_5 := yR rfl
@[simp, simp ↓] theorem k86_7r : sR k86_7 k86_o0 k86_6 := yR rfl
noncomputable abbrev k86_C : Orc → Cx := mkC Try.prog [] 86 12 [.tmp 4]
theorem k86_of : OfP Try.prog Try.f86 86 12 k86_C k86_7 := @ofP _ _ _ _ _ _ _ _ Try.func86 (by decide +kernel) rfl (by kernel_rfl) rfl (by kernel_rfl)
theorem coming_o (x : Fil) (h : Heap) (hl : x.tot ≤ 1048576) (hn : x.ts.length ≤ 48) : ACalls Try.prog 86 [x.av, .snap 1 ((upto x.ts.length).map iv)] h (fun v h' => ∃ g, OwnL iv 1 v (ordL (keyT x.ts) x.ts.length) g ∧ h' = g ++ h) := by
  refine k86_of rfl noPure fun I => ?_
  refine Run2.of I 1000 ?_
  simp -implicitDefEqProofs
  refine (Clone_w (upto x.ts.length) h (by simp; omega)).mono ?_
  rintro v h' ⟨hp, G, rfl⟩
  have hcell := G.cell
  have hst := stor_of hcell
  have hcl := cells_of hcell
  refine gK.go ?_
  simp -implicitDefEqProofs [hcell, hst, hcl]
  have c1 := sortSt_s (h := h) (cm_ok x) hn (fun p hp => by unfold idI; omega) G
  refine c1.mono ?_
  rintro r h' ⟨rfl, hp', o, hd, rfl⟩
  refine gK.go ?_
  simp -implicitDefEqProofs [hcell]
  exact .base ⟨hp', o, rfl⟩
noncomputable def Fil.orL (x : Fil) : List Int := if x.valid then ordL (keyT x.ts) x.ts.length else []
noncomputable def Fil.orC (x : Fil) : Int := if x.valid then 0 else 1
theorem Fil.orL_len (x : Fil) : x.orL.length ≤ x.ts.length := by
  unfold Fil.orL
  by_cases h : x.valid
  · rw [if_pos h, ordL_len]; exact Nat.le_refl _
  · rw [if_neg h]; exact Nat.zero_le _
theorem firstChoice_z (n : Int) (h : Heap) (h0 : 0 ≤ n) (h1 : n ≤ 1048576) : ACalls Try.prog 87 [.int .i64 n] h (fun v h' => v = .snap 1 ((upto n.toNat).map iv) ∧ h' = h) := by
  obtain ⟨m, rfl⟩ : ∃ m : Nat, n = m := ⟨n.toNat, by omega⟩
  exact firstChoice_s m h (by omega)
noncomputable def o_firstChoice : List AV → Option (Prop × AV) := tab (fun (x : Int) => match x with | n => [.int .i64 n]) (fun x => match x with | n => (0 ≤ n ∧ n ≤ 1048576)) (fun x => match x with | n => .snap 1 ((upto n.toNat).map iv))
@[simp] theorem o_firstChoice_e (n : Int) : o_firstChoice [.int .i64 n] = some ((0 ≤ n ∧ n ≤ 1048576), .snap 1 ((upto n.toNat).map iv)) := tab_at (enc := fun (x : Int) => match x with | n => [.int .i64 n]) (fun x y h => by
  simp at h; simp [h] <;> omega) _ _ n
theorem o_firstChoice_k : Knows Try.prog 87 o_firstChoice := tab_knows fun x hx h => by
  exact firstChoice_z x h hx.1 hx.2
noncomputable def orcH1 : List (Nat × (List AV → Option (Prop × AV))) := (87, o_firstChoice) :: (88, o_sizeSS) :: (16, o_validFil) :: []
theorem orcH1_p : Pure Try.prog (lk orcH1) := (lk_pure o_firstChoice_k (lk_pure o_sizeSS_k (lk_pure o_validFil_k lk_pure0)))
@[simp] theorem orcH1_l (b : Bool) (g : FuncId) (l : List AV) : lk orcH1 b g l = if g = 87 then o_firstChoice l else if g = 88 then o_sizeSS l else if g = 16 then o_validFil l else none := nr rfl
abbrev k42_o0 : List AJ := [.o ⟨(some 1), none, false, .box false 2 (.t 0), none⟩, .o ⟨(some 2), none, false, .mv (.c .nilsl), none⟩, .o ⟨(some 3), none, false, .mv (.c (.int .i64 0)), (some [1])⟩]
abbrev k42_o1 : List AJ := [.o ⟨(some 4), none, false, .load 2 true (.t 1), none⟩, .o ⟨(some 5), none, false, .call 16 [(.t 4)], none⟩, .o ⟨(some 6), none, false, .un .not (.t 5), (some [1, 6])⟩]
abbrev k42_o2 : List AJ := [.o ⟨(some 2), none, false, .mv (.c .nilsl), none⟩, .o ⟨(some 3), none, false, .mv (.c (.int .i64 1)), (some [2, 3])⟩]
def k42_3 : ACode := .seq (.region k42_o2) .ret
def k42_4 : ACode := .cond (.t 6) k42_3 .skip
def k42_5 : ACode := .seq (.region k42_o1) k42_4
abbrev k42_o3 : List AJ := [.o ⟨(some 7), none, true, .load 2 true (.t 1), none⟩, .o ⟨(some 8), none, false, .fieldA 0 (.t 1), none⟩, .o ⟨(some 9), none, false, .fieldA 0 (.t 8), none⟩, .o ⟨(some 10), none, true, .load 1 false (.t 9), none⟩, .o ⟨(some 11), none, false, .call 88 [(.t 10)], none⟩, .o ⟨(some 12), none, false, .call 87 [(.t 11)], none⟩, .o ⟨(some 13), none, false, .call 86 [(.t 7), (.t 12)], none⟩, .o ⟨(some 2), none, false, .mv (.t 13), none⟩, .o ⟨(some 3), none, false, .mv (.c (.int .i64 0)), (some [2, 3])⟩]
def k42_7 : ACode := .seq (.drawT 3 k42_o3 rfl) .ret
def k42_8 : ACode := .seq k42_5 k42_7
def k42_9 : ACode := .seq (.region k42_o0) k42_8
@[simp, simp ↓] theorem k42_3r : sR k42_3 k42_o2 .ret := yR rfl
@[simp, simp ↓] theorem k42_4r : rC k42_4 (.t 6) k42_3 .skip := zC rfl
@[simp, simp ↓] theorem k42_5r : sR k42_5 k42_o1 k42_4 := yR rfl
@[simp, simp ↓] theorem k42_7r : sT k42_7 k42_o3 .ret := yT rfl
@[simp, simp ↓] theorem k42_8r : rS k42_8 k42_5 k42_7 := zS rfl
@[simp, simp ↓] theorem k42_9r : sR k42_9 k42_o0 k42_8 := yR rfl
noncomputable abbrev k42_C : Orc → Cx := mkC Try.prog [] 42 14 [.tmp 2, .tmp 3]
theorem k42_of : OfP Try.prog Try.f42 42 14 k42_C k42_9 := @ofP _ _ _ _ _ _ _ _ Try.func42 (by decide +kernel) rfl (by kernel_rfl) rfl (by kernel_rfl)
theorem implCO_g (x : Fil) (h : Heap) (hl : x.tot ≤ 1048576) : ACalls Try.prog 42 [x.av] h (fun v h' => ∃ w g, v = .tup [w, .int .i64 x.orC] ∧ OwnL iv 1 w x.orL g ∧ h' = g ++ h) := by
  obtain ⟨hl1, hl2⟩ := x.lens hl
  refine k42_of rfl orcH1_p fun I => ?_
  unfold Fil.orL Fil.orC
  by_cases hv : x.valid
  · have htl := hv.2.1.1
    have h48 : x.ts.length ≤ 48 := by rw [htl]; exact hv.1.2
    have hn1 : x.rs.length ≤ 1048576 := by omega
    have c1 := coming_o x h hl h48
    rw [if_pos hv, if_pos hv]
    rw [htl] at c1 ⊢
    refine Run2.of I 1000 ?_
    simp -implicitDefEqProofs [hl, hv, hn1]
    refine ⟨by omega, c1.mono ?_⟩
    rintro v h' ⟨g, o, rfl⟩
    have hcell := o.cell
    refine gK.go ?_
    simp -implicitDefEqProofs [hcell]
    exact .base ⟨v, rfl, g, o, rfl⟩
  · rw [if_neg hv, if_neg hv]
    refine Run2.of I 1000 ?_
    simp -implicitDefEqProofs [hl, hv]
    exact .base ⟨_, rfl, [], .nil, rfl⟩
theorem implCO_o (x : Fil) (hl : x.tot ≤ 1048576) : ACalls Try.prog 42 [x.av] [] (fun v h' => ∃ w, v = .tup [w, .int .i64 x.orC] ∧ OwnL iv 1 w x.orL h') :=
  (implCO_g x [] hl).mono fun v h' ⟨w, g, e1, o, e2⟩ => ⟨w, e1, by rw [e2, List.append_nil]; exact o⟩
theorem colds_il2 (l : List (List Int)) : colds (l.map il) = true := by
  simp [cold]
theorem insQ {k : Int → Int} {L : List Int} {i q : Nat} (hq : q ≤ L.length) (hs : L.Pairwise (lt2 k)) (hm : ∀ a, a ∈ L ↔ 0 ≤ a ∧ a < i) (h1 : ∀ j (hj : j < L.length), j < q → lt2 k L[j] i) (h2 : ∀ j (hj : j < L.length), q ≤ j → k i < k L[j]) :
    (L.take q ++ [(i : Int)] ++ L.drop q).Pairwise (lt2 k) ∧ (∀ a, a ∈ L.take q ++ [(i : Int)] ++ L.drop q ↔ 0 ≤ a ∧ a < (i + 1 : Nat)) ∧ (L.take q ++ [(i : Int)] ++ L.drop q).length = L.length + 1 := by
  have hsp : (L.take q ++ L.drop q).Pairwise (lt2 k) := by rw [List.take_append_drop]; exact hs
  obtain ⟨p1, p2, p3⟩ := List.pairwise_append.1 hsp
  refine ⟨?_, fun a => ?_, by simp; omega⟩
  · rw [List.pairwise_append, List.pairwise_append]
    refine ⟨⟨p1, by simp, fun a ha b hb => ?_⟩, p2, fun a ha b hb => ?_⟩
    · obtain rfl := List.mem_singleton.1 hb
      obtain ⟨j, hj, rfl⟩ := List.mem_iff_getElem.1 ha
      rw [List.length_take] at hj
      rw [List.getElem_take]
      exact h1 j (by omega) (by omega)
    · rcases List.mem_append.1 ha with ha | ha
      · exact p3 a ha b hb
      · obtain rfl := List.mem_singleton.1 ha
        obtain ⟨j, hj, rfl⟩ := List.mem_iff_getElem.1 hb
        rw [List.length_drop] at hj
        rw [List.getElem_drop]
        exact .inl (h2 (q + j) (by omega) (by omega))
  · have e : a ∈ L.take q ++ L.drop q ↔ a ∈ L := by rw [List.take_append_drop]
    rw [hm, List.mem_append] at e
    rw [List.mem_append, List.mem_append, List.mem_singleton]
    constructor
    · rintro ((h | h) | h)
      · have := e.1 (.inl h); omega
      · omega
      · have := e.1 (.inr h); omega
    · rintro ⟨x1, x2⟩
      by_cases ha : a = i
      · exact .inl (.inr ha)
      · rcases e.2 ⟨x1, by omega⟩ with h | h
        · exact .inl (.inl h)
        · exact .inr h
abbrev k85_o0 : List AJ := [.o ⟨(some 2), none, false, .mv (.c .nilsl), (some [0])⟩]
abbrev k85_o1 : List AJ := [.o ⟨(some 7), none, false, .bsl false 1 [], none⟩, .o ⟨(some 3), none, false, .mv (.t 7), (some [0, 3])⟩]
abbrev k85_o2 : List AJ := [.o ⟨(some 4), none, false, .mv (.c (.int .i64 0)), (some [0, 3, 4])⟩]
abbrev k85_o3 : List AJ := [.o ⟨(some 8), none, false, .mv (.t 4), none⟩, .o ⟨(some 9), none, false, .mv (.t 0), none⟩, .o ⟨(some 10), none, false, .nilchk (.t 9), none⟩, .o ⟨(some 11), none, false, .fieldA 1 (.t 10), none⟩, .o ⟨(some 12), none, false, .load 1 false (.t 11), none⟩, .o ⟨(some 13), none, false, .len (.t 12), none⟩, .o ⟨(some 14), none, false, .bin .lss (.t 8) (.t 13), (some [0, 3, 4, 14])⟩]
def k85_4 : ACode := .cond (.t 14) .skip (.exit 0)
def k85_5 : ACode := .seq (.region k85_o3) k85_4
abbrev k85_o4 : List AJ := [.o ⟨(some 17), none, false, .mv (.t 3), none⟩, .o ⟨(some 18), none, false, .len (.t 17), none⟩, .o ⟨(some 5), none, false, .mv (.t 18), (some [0, 3, 4, 5])⟩]
abbrev k85_o5 : List AI := [⟨(some 19), none, false, .mv (.t 5), none⟩, ⟨(some 20), none, false, .bin .gtr (.t 19) (.c (.int .i64 0)), none⟩, ⟨(some 21), none, false, .mv (.t 20), none⟩, ⟨(some 22), (some (21, true)), false, .mv (.t 0), none⟩, ⟨(some 23), (some (21, true)), false, .nilchk (.t 22), none⟩, ⟨(some 24), (some (21, true)), false, .fieldA 1 (.t 23), none⟩, ⟨(some 25), (some (21, true)), false, .load 1 false (.t 24), none⟩, ⟨(some 26), (some (21, true)), false, .mv (.t 3), none⟩, ⟨(some 27), (some (21, true)), false, .mv (.t 5), (some [0, 3, 4, 5, 21, 25, 26, 27])⟩, ⟨(some 28), (some (21, true)), true, .bin .sub (.t 27) (.c (.int .i64 1)), none⟩, ⟨(some 29), (some (21, true)), false, .idxA 1 (.t 26) (.t 28), none⟩, ⟨(some 30), (some (21, true)), false, .load 1 false (.t 29), none⟩, ⟨(some 31), (some (21, true)), false, .idxA 1 (.t 25) (.t 30), none⟩, ⟨(some 32), (some (21, true)), false, .load 1 false (.t 31), none⟩, ⟨(some 33), (some (21, true)), false, .mv (.t 0), none⟩, ⟨(some 34), (some (21, true)), false, .nilchk (.t 33), (some [0, 3, 4, 5, 21, 32, 34])⟩, ⟨(some 35), (some (21, true)), false, .fieldA 1 (.t 34), none⟩, ⟨(some 36), (some (21, true)), false, .load 1 false (.t 35), none⟩, ⟨(some 37), (some (21, true)), false, .mv (.t 4), none⟩, ⟨(some 38), (some (21, true)), false, .idxA 1 (.t 36) (.t 37), none⟩, ⟨(some 39), (some (21, true)), false, .load 1 false (.t 38), none⟩, ⟨(some 40), (some (21, true)), false, .bin .gtr (.t 32) (.t 39), none⟩, ⟨(some 41), none, false, .pick (.t 21) (.t 40) (.c (.bool false)), (some [0, 3, 4, 5, 41])⟩]
def k85_8 : ACode := .cond (.t 41) .skip (.exit 2)
def k85_9 : ACode := .seq (.draw k85_o5 [] rfl) k85_8
abbrev k85_o6 : List AJ := [.o ⟨(some 42), none, false, .mv (.t 5), none⟩, .o ⟨(some 43), none, true, .bin .sub (.t 42) (.c (.int .i64 1)), none⟩, .o ⟨(some 5), none, false, .mv (.t 43), (some [0, 3, 4, 5])⟩]
def k85_10 : ACode := .region k85_o6
def k85_11 : ACode := .block 3 k85_10
def k85_12 : ACode := .seq k85_9 k85_11
def k85_13 : ACode := .loop k85_12
abbrev k85_o7 : List AJ := [.o ⟨(some 44), none, false, .mv (.t 3), none⟩, .o ⟨(some 45), none, false, .mv (.t 5), none⟩, .o ⟨(some 46), none, false, .slice 1 (.t 44) none (some (.t 45)) none, none⟩, .o ⟨(some 47), none, false, .call 89 [(.t 46)], none⟩, .o ⟨(some 6), none, false, .mv (.t 47), (some [0, 3, 4, 5, 6])⟩]
abbrev k85_o8 : List AJ := [.o ⟨(some 48), none, false, .mv (.t 6), none⟩, .o ⟨(some 49), none, false, .mv (.t 4), none⟩, .o ⟨(some 50), none, false, .bsl false 1 [(.t 49)], none⟩, .o ⟨(some 51), none, false, .append 1 8 (.t 48) (.t 50), none⟩, .o ⟨(some 6), none, false, .mv (.t 51), (some [0, 3, 4, 5, 6])⟩]
abbrev k85_o9 : List AJ := [.o ⟨(some 52), none, false, .mv (.t 6), none⟩, .o ⟨(some 53), none, false, .mv (.t 3), none⟩, .o ⟨(some 54), none, false, .mv (.t 5), none⟩, .o ⟨(some 55), none, false, .slice 1 (.t 53) (some (.t 54)) none none, none⟩, .o ⟨(some 56), none, false, .append 1 8 (.t 52) (.t 55), none⟩, .o ⟨(some 3), none, false, .mv (.t 56), (some [0, 3, 4])⟩]
def k85_17 : ACode := .region k85_o9
def k85_18 : ACode := .seq (.region k85_o8) k85_17
def k85_19 : ACode := .seq (.region k85_o7) k85_18
def k85_20 : ACode := .seq (.block 2 k85_13) k85_19
def k85_21 : ACode := .seq (.region k85_o4) k85_20
abbrev k85_o10 : List AJ := [.o ⟨(some 15), none, false, .mv (.t 4), none⟩, .o ⟨(some 16), none, true, .bin .add (.t 15) (.c (.int .i64 1)), none⟩, .o ⟨(some 4), none, false, .mv (.t 16), (some [0, 3, 4])⟩]
def k85_23 : ACode := .region k85_o10
def k85_24 : ACode := .seq (.block 1 k85_21) k85_23
def k85_25 : ACode := .seq k85_5 k85_24
def k85_26 : ACode := .loop k85_25
def k85_27 : ACode := .block 0 k85_26
def k85_28 : ACode := .seq (.region k85_o2) k85_27
abbrev k85_o11 : List AJ := [.o ⟨(some 57), none, false, .mv (.t 3), none⟩, .o ⟨(some 2), none, false, .mv (.t 57), (some [2])⟩]
def k85_30 : ACode := .seq (.region k85_o11) .ret
def k85_31 : ACode := .seq k85_28 k85_30
def k85_32 : ACode := .seq (.region k85_o1) k85_31
def k85_33 : ACode := .seq (.region k85_o0) k85_32
@[simp, simp ↓] theorem k85_4r : rC k85_4 (.t 14) .skip (.exit 0) := zC rfl
@[simp, simp ↓] theorem k85_5r : sR k85_5 k85_o3 k85_4 := yR rfl
@[simp, simp ↓] theorem k85_8r : rC k85_8 (.t 41) .skip (.exit 2) := zC rfl
@[simp, simp ↓] theorem k85_9r : sD k85_9 k85_o5 [] k85_8 := yD rfl
@[simp, simp ↓] theorem k85_10r : rR k85_10 k85_o6 := zR rfl
@[simp, simp ↓] theorem k85_11r : rB k85_11 3 k85_10 := zB rfl
@[simp, simp ↓] theorem k85_12r : rS k85_12 k85_9 k85_11 := zS rfl
@[simp, simp ↓] theorem k85_13r : rL k85_13 k85_12 := zL rfl
@[simp, simp ↓] theorem k85_17r : rR k85_17 k85_o9 := zR rfl
@[simp, simp ↓] theorem k85_18r : sR k85_18 k85_o8 k85_17 := yR rfl
@[simp, simp ↓] theorem k85_19r : sR k85_19 k85_o7 k85_18 := yR rfl
@[simp, simp ↓] theorem k85_20r : sB k85_20 2 k85_13 k85_19 := yB rfl
@[simp, simp ↓] theorem k85_21r : sR k85_21 k85_o4 k85_20 := yR rfl
@[simp, simp ↓] theorem k85_23r : rR k85_23 k85_o10 := zR rfl
@[simp, simp ↓] theorem k85_24r : sB k85_24 1 k85_21 k85_23 := yB rfl
@[simp, simp ↓] theorem k85_25r : rS k85_25 k85_5 k85_24 := zS rfl
@[simp, simp ↓] theorem k85_26r : rL k85_26 k85_25 := zL rfl
@[simp, simp ↓] theorem k85_27r : rB k85_27 0 k85_26 := zB rfl
@[simp, simp ↓] theorem k85_28r : sR k85_28 k85_o2 k85_27 := yR rfl
@[simp, simp ↓] theorem k85_30r : sR k85_30 k85_o11 .ret := yR rfl
@[simp, simp ↓] theorem k85_31r : rS k85_31 k85_28 k85_30 := zS rfl
@[simp, simp ↓] theorem k85_32r : sR k85_32 k85_o1 k85_31 := yR rfl
@[simp, simp ↓] theorem k85_33r : sR k85_33 k85_o0 k85_32 := yR rfl
noncomputable abbrev k85_C : Orc → Cx := mkC Try.prog [] 85 58 [.tmp 2]
theorem k85_of0 : OfP0 Try.prog Try.f85 85 58 k85_C k85_33 := @ofP0 _ _ _ _ _ _ _ _ Try.func85 (by decide +kernel) rfl (by kernel_rfl) rfl (by kernel_rfl)
theorem l21Order_s (x : Fil) (h : Heap) (hl : x.tot ≤ 1048576) : ACalls Try.prog 85 [.ip [.snap 1 (x.rs.map il), .snap 1 (x.ts.map iv)]] h (fun v h' => v = .snap 1 ((ordL (keyT x.ts) x.ts.length).map iv) ∧ h' = h) := by
  obtain ⟨hl1, hl2⟩ := x.lens hl
  refine k85_of0 rfl noPure fun I => ?_
  refine Run2.of I 1000 ?_
  simp -implicitDefEqProofs
  refine Run2.loopE (α := Nat × List Int) (fun p => [(0, .ip [.snap 1 (x.rs.map il), .snap 1 (x.ts.map iv)]), (3, .snap 1 (p.2.map iv)), (4, .int .i64 p.1)]) (fun _ => h) (fun p => x.ts.length - p.1) (fun p => p.1 ≤ x.ts.length ∧ p.2.length = p.1 ∧ p.2.Pairwise (lt2 (keyT x.ts)) ∧ ∀ a, a ∈ p.2 ↔ 0 ≤ a ∧ a < p.1) (0, []) (by simp) rfl ⟨Nat.zero_le _, rfl, List.Pairwise.nil, fun a => by simp <;> omega⟩ ?_
  rintro ⟨i, L⟩ ⟨hi, hLl, hLs, hLm⟩ ih
  simp only at hi hLl hLs hLm
  by_cases hlt : i < x.ts.length
  · have go := fun L' => ih (i + 1, L')
    clear ih
    refine Run2.of I 1000 ?_
    simp -implicitDefEqProofs [hlt]
    refine Run2.loopE (fun (q : Nat) => [(0, .ip [.snap 1 (x.rs.map il), .snap 1 (x.ts.map iv)]), (3, .snap 1 (L.map iv)), (4, .int .i64 i), (5, .int .i64 q)]) (fun _ => h) (fun q => q) (fun q => q ≤ L.length ∧ ∀ j (hj : j < L.length), q ≤ j → keyT x.ts i < keyT x.ts L[j]) L.length (by simp) rfl ⟨Nat.le_refl _, fun j h1 h2 => by omega⟩ fun q hq ih => ?_
    obtain ⟨hq1, hq2⟩ := hq
    have hki : keyT x.ts i = x.ts[i] := by simp [keyT, hlt]
    have hLi : i ≤ 1048576 := by omega
    by_cases hq0 : 0 < q
    · obtain ⟨p, rfl⟩ : ∃ p, q = p + 1 := ⟨q - 1, by omega⟩
      have hpl : p < L.length := by omega
      have hpm := (hLm L[p]).1 (List.getElem_mem hpl)
      obtain ⟨a, ha⟩ : ∃ a : Nat, L[p] = a := ⟨L[p].toNat, by omega⟩
      have hal : a < x.ts.length := by rw [ha] at hpm; omega
      have hka : keyT x.ts L[p] = x.ts[a] := by rw [ha]; simp [keyT, hal]
      by_cases hcmp : x.ts[i] < x.ts[a]
      · have go2 := ih p ⟨by omega, fun j h1 h2 => by
          rcases Nat.lt_or_ge p j with h | h
          · exact hq2 j h1 h
          · obtain rfl : j = p := by omega
            rw [hka, hki]; exact hcmp⟩ (by omega)
        clear ih go
        have t1 : ((p : Int) + 1 - 1).toNat = p := by omega
        refine Run2.of I 1000 ?_
        simp -implicitDefEqProofs [hlt, hpl, ha, hal, hcmp, t1]
        repeat' (first | refine And.intro ?_ ?_ | intro _)
        all_goals first | (exfalso; omega) | omega | (simpa using go2)
      · clear ih
        have t1 : ((p : Int) + 1 - 1).toNat = p := by omega
        have hlow : ∀ j (hj : j < L.length), j < p + 1 → lt2 (keyT x.ts) L[j] i := by
          have hp : lt2 (keyT x.ts) L[p] i := by unfold lt2; rw [hka, hki]; omega
          intro j hj hjp
          rcases Nat.lt_or_ge j p with h | h
          · exact lt2_trans (List.pairwise_iff_getElem.1 hLs j p hj hpl h) hp
          · obtain rfl : j = p := by omega
            exact hp
        have hown := l00Own_g (L.take (p + 1)) h (by simp <;> omega)
        rw [List.map_take] at hown
        obtain ⟨i1, i2, i3⟩ := insQ hq1 hLs hLm hlow hq2
        have go := go (L.take (p + 1) ++ [(i : Int)] ++ L.drop (p + 1)) ⟨hlt, by rw [i3, hLl], i1, i2⟩ (by omega)
        refine Run2.of I 1000 ?_
        simp -implicitDefEqProofs [hlt, hpl, ha, hal, hcmp, t1, hq1]
        repeat (refine ⟨by omega, ?_⟩)
        refine hown.mono ?_
        rintro v h' ⟨hp, G, rfl⟩
        have hcell := G.cell
        refine gK.go ?_
        simp -implicitDefEqProofs [hcell]
        refine G.app (by simp <;> omega) (by simp) fun w1 hp1 G1 => ?_
        have hcell1 := G1.cell
        simp -implicitDefEqProofs [hcell1, hq1]
        repeat (refine ⟨by omega, ?_⟩)
        refine G1.appAny (by simp; omega) fun w2 hp2 G2 => ?_
        obtain ⟨id, rfl, rfl⟩ := G2.ne (by simp)
        simp -implicitDefEqProofs
        refine ⟨by omega, ?_⟩
        refine Run2.freeze id (by simp [hget]; rfl) ?_
        have hfil : ∀ b, fzs id b (x.rs.map il) = x.rs.map il := fun b => fzs_cold id b _ (colds_il2 _)
        have hdr : List.take ((L.length : Int) - (p + 1)).toNat (List.drop (p + 1) (List.map iv L)) = List.drop (p + 1) (List.map iv L) := List.take_of_length_le (by simp; omega)
        have hmn : min ((L.length : Int) - (p + 1)).toNat (L.length - (p + 1)) ≤ L.length - (p + 1) := Nat.min_le_right _ _
        simp -implicitDefEqProofs [fzE, fz, fzs, hdel, hfil, hdr, hmn]
        try rw [List.take_of_length_le (by simp; omega)]
        simpa [hmn] using go
    · clear ih
      obtain rfl : q = 0 := by omega
      have hlow : ∀ j (hj : j < L.length), j < 0 → lt2 (keyT x.ts) L[j] i := fun j hj h => by omega
      have hown := l00Own_g (L.take 0) h (by simp <;> omega)
      rw [List.map_take] at hown
      obtain ⟨i1, i2, i3⟩ := insQ hq1 hLs hLm hlow hq2
      have go := go (L.take 0 ++ [(i : Int)] ++ L.drop 0) ⟨hlt, by rw [i3, hLl], i1, i2⟩ (by omega)
      refine Run2.of I 1000 ?_
      simp -implicitDefEqProofs [hlt, hq1]
      repeat (refine ⟨by omega, ?_⟩)
      refine hown.mono ?_
      rintro v h' ⟨hp, G, rfl⟩
      have hcell := G.cell
      refine gK.go ?_
      simp -implicitDefEqProofs [hcell]
      refine G.app (by simp <;> omega) (by simp) fun w1 hp1 G1 => ?_
      have hcell1 := G1.cell
      simp -implicitDefEqProofs [hcell1, hq1]
      refine G1.appAny (by simp; omega) fun w2 hp2 G2 => ?_
      obtain ⟨id, rfl, rfl⟩ := G2.ne (by simp)
      simp -implicitDefEqProofs
      refine ⟨by omega, ?_⟩
      refine Run2.freeze id (by simp [hget]; rfl) ?_
      have hfil : ∀ b, fzs id b (x.rs.map il) = x.rs.map il := fun b => fzs_cold id b _ (colds_il2 _)
      have hdr : List.take L.length (List.map iv L) = List.map iv L := List.take_of_length_le (by simp)
      simp -implicitDefEqProofs [fzE, fz, fzs, hdel, hfil, hdr]
      simpa using go
  · obtain rfl : i = x.ts.length := by omega
    have hL := ordL_eq hLs hLm
    subst hL
    refine Run2.of I 1000 ?_
    simp -implicitDefEqProofs [hlt]
noncomputable def o_l21Order : List AV → Option (Prop × AV) := tab (fun (x : LS × List Int) => match x with | (rs, ts) => [.ip [.snap 1 (rs.map il), .snap 1 (ts.map iv)]]) (fun x => match x with | (rs, ts) => (⟨rs, ts⟩ : Fil).tot ≤ 1048576) (fun x => match x with | (rs, ts) => .snap 1 ((ordL (keyT ts) ts.length).map iv))
@[simp] theorem o_l21Order_e (rs : LS) (ts : List Int) : o_l21Order [.ip [.snap 1 (rs.map il), .snap 1 (ts.map iv)]] = some ((⟨rs, ts⟩ : Fil).tot ≤ 1048576, .snap 1 ((ordL (keyT ts) ts.length).map iv)) := tab_at (enc := fun (x : LS × List Int) => match x with | (rs, ts) => [.ip [.snap 1 (rs.map il), .snap 1 (ts.map iv)]]) (fun x y h => by
  obtain ⟨rs1, ts1⟩ := x; obtain ⟨rs2, ts2⟩ := y; simp at h; simp [h] <;> omega) _ _ (rs, ts)
theorem o_l21Order_k : Knows Try.prog 85 o_l21Order := tab_knows fun x hx h => by
  obtain ⟨rs, ts⟩ := x; exact l21Order_s ⟨rs, ts⟩ h hx
noncomputable def orcH2 : List (Nat × (List AV → Option (Prop × AV))) := (53, o_l21Ok) :: (85, o_l21Order) :: []
theorem orcH2_p : Pure Try.prog (lk orcH2) := (lk_pure o_l21Ok_k (lk_pure o_l21Order_k lk_pure0))
@[simp] theorem orcH2_l (b : Bool) (g : FuncId) (l : List AV) : lk orcH2 b g l = if g = 53 then o_l21Ok l else if g = 85 then o_l21Order l else none := nr rfl
abbrev k41_o0 : List AJ := [.o ⟨(some 1), none, false, .box false 2 (.t 0), none⟩, .o ⟨(some 2), none, false, .mv (.c .nilsl), none⟩, .o ⟨(some 3), none, false, .mv (.c (.int .i64 0)), (some [1])⟩]
abbrev k41_o1 : List AJ := [.o ⟨(some 4), none, false, .call 53 [(.t 1)], none⟩, .o ⟨(some 5), none, false, .un .not (.t 4), (some [1, 5])⟩]
abbrev k41_o2 : List AJ := [.o ⟨(some 2), none, false, .mv (.c .nilsl), none⟩, .o ⟨(some 3), none, false, .mv (.c (.int .i64 1)), (some [2, 3])⟩]
def k41_3 : ACode := .seq (.region k41_o2) .ret
def k41_4 : ACode := .cond (.t 5) k41_3 .skip
def k41_5 : ACode := .seq (.region k41_o1) k41_4
abbrev k41_o3 : List AJ := [.o ⟨(some 6), none, false, .call 85 [(.t 1)], none⟩, .o ⟨(some 2), none, false, .mv (.t 6), none⟩, .o ⟨(some 3), none, false, .mv (.c (.int .i64 0)), (some [2, 3])⟩]
def k41_7 : ACode := .seq (.region k41_o3) .ret
def k41_8 : ACode := .seq k41_5 k41_7
def k41_9 : ACode := .seq (.region k41_o0) k41_8
@[simp, simp ↓] theorem k41_3r : sR k41_3 k41_o2 .ret := yR rfl
@[simp, simp ↓] theorem k41_4r : rC k41_4 (.t 5) k41_3 .skip := zC rfl
@[simp, simp ↓] theorem k41_5r : sR k41_5 k41_o1 k41_4 := yR rfl
@[simp, simp ↓] theorem k41_7r : sR k41_7 k41_o3 .ret := yR rfl
@[simp, simp ↓] theorem k41_8r : rS k41_8 k41_5 k41_7 := zS rfl
@[simp, simp ↓] theorem k41_9r : sR k41_9 k41_o0 k41_8 := yR rfl
noncomputable abbrev k41_C : Orc → Cx := mkC Try.prog [] 41 7 [.tmp 2, .tmp 3]
theorem k41_of : OfP Try.prog Try.f41 41 7 k41_C k41_9 := @ofP _ _ _ _ _ _ _ _ Try.func41 (by decide +kernel) rfl (by kernel_rfl) rfl (by kernel_rfl)
theorem specCO_c (x : Fil) (h : Heap) (hl : x.tot ≤ 1048576) : ACalls Try.prog 41 [x.av] h (fun v h' => v = .tup [.snap 1 (x.orL.map iv), .int .i64 x.orC] ∧ h' = h) := by
  refine k41_of rfl orcH2_p fun I => ?_
  unfold Fil.orL Fil.orC
  by_cases hv : x.valid
  · rw [if_pos hv, if_pos hv]
    refine Run2.of I 1000 ?_
    simp -implicitDefEqProofs [hl, hv]
    exact .base ⟨rfl, rfl⟩
  · rw [if_neg hv, if_neg hv]
    refine Run2.of I 1000 ?_
    simp -implicitDefEqProofs [hl, hv]
    exact .wk (Wk.tup (.cons (Wk.nil 1) (.cons (.refl _) .nil))) (.base ⟨rfl, rfl⟩)
end Go.AG
