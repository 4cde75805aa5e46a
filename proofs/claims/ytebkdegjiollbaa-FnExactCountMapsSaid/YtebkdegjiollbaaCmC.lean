/- The search for maps of complexes, in the program. No statement is made here. -/
import Derived.Test.YtebkdegjiollbaaCmB
namespace Go.AG
open Go.Proofs Go.Proofs.Ytebkdegjiollbaa
set_option linter.unusedSimpArgs false
set_option linter.unusedVariables false
set_option maxRecDepth 4000
/-- A slice that is only appended to and shortened: what stands behind it is not told. -/
inductive GrT (sz : Nat) : AV → List AV → Heap → Prop
  | nil : GrT sz .nilsl [] []
  | emp : GrT sz .emp [] []
  | sl (id : Nat) (l ex : List AV) (n : Nat) (hn : n = l.length) : GrT sz (.sl id sz 0 n none) l [(id, ⟨sz, l ++ ex⟩)]
theorem Grow.t {sz : Nat} {w : AV} {l : List AV} {hp : Heap} (h : Grow sz w l hp) : GrT sz w l hp := by
  cases h with
  | nil => exact .nil
  | emp => exact .emp
  | sl id l n hn => have := GrT.sl (sz := sz) id l [] n hn; simpa using this
theorem GrT.cell {sz : Nat} {w : AV} {l : List AV} {hp : Heap} (h : GrT sz w l hp) : isCell w = true := by cases h <;> rfl
theorem GrT.len {sz : Nat} {w : AV} {l : List AV} {hp : Heap} (h : GrT sz w l hp) : lenR w = .val (.int .i64 l.length) := by
  cases h with
  | nil => simp
  | emp => simp
  | sl id l ex n hn => subst hn; simp
theorem GrT.app {sz : Nat} {w : AV} {l new : List AV} {hp post : Heap} {C : Cx} {n : Nat} {d : Option Nat} {ks : Option (List Nat)} {is : List AJ} {sk : List AItem} {R : AV → Heap → Prop} {e : Env} {h0 : Heap} {bytes : Nat} (g : GrT sz w l hp) (hb : (2 * (l.length + new.length)) * bytes ≤ 281474976710656) (hn : new ≠ [])
    (k : ∀ w' hp', Grow sz w' (l ++ new) hp' → (∀ i ∈ dom hp', i ∉ dom post) → vc2 C n is sk (kp (put e d w') ks) (hp' ++ post) R) : resK C n d ks is sk R e h0 (appR (hp ++ post) sz bytes w new) := by
  have he : new.isEmpty = false := by cases new <;> simp_all
  cases g with
  | nil =>
    simp only [appR_n, he, List.nil_append]
    refine ⟨fun h => (by cases h), fun _ => ⟨by simpa using hb, fun id hid => ?_⟩⟩
    have := k _ _ (.sl id new new.length rfl) (by simpa [dom] using hid)
    simpa using this
  | emp =>
    simp only [appR_e, he, List.nil_append]
    refine ⟨fun h => (by cases h), fun _ => ⟨by simpa using hb, fun id hid => ?_⟩⟩
    have := k _ _ (.sl id new new.length rfl) (by simpa [dom] using hid)
    simpa using this
  | sl id l ex m hm =>
    subst hm
    have hd : hdel ((id, ⟨sz, l ++ ex⟩) :: post) id = post := by simp [hdel]
    rw [appR_ln]
    refine ⟨rfl, ⟨sz, l ++ ex⟩, by simp [hget], rfl, by simp, rfl, hb, fun id' hid => ?_⟩
    rw [List.cons_append, List.nil_append, hd] at hid
    have := k _ _ (.sl id' (l ++ new) (l.length + new.length) (by simp)) (by simpa [dom] using hid)
    simpa [hd] using this
theorem GrT.lent {w : AV} {l : List Int} {hp : Heap} (h : GrT 1 w (l.map iv) hp) : IsL iv 1 (lend1 hp w) l := by
  generalize hm : l.map iv = m at h
  cases h with
  | nil => rw [List.map_eq_nil_iff] at hm; subst hm; exact .nil
  | emp => rw [List.map_eq_nil_iff] at hm; subst hm; exact .emp
  | sl id m ex n hn =>
    subst hn; subst hm
    have : lend1 [(id, (⟨1, l.map iv ++ ex⟩ : Blk))] (.sl id 1 0 (l.map iv).length none) = .snap 1 (l.map iv) := by
      simp [lend1, fz]
    rw [this]
    exact .snap l
theorem Cells.wkLast {w : World} {D : List Nat} {a b : AV} (h : Wk a b) : ∀ (l : List AV) (bl o : Nat), Cells w D (l ++ [a]) bl o → Cells w D (l ++ [b]) bl o
  | [], bl, o, ⟨⟨u, q1, q2, q3⟩, q4⟩ => ⟨⟨u, q1, q2, h w D u q3⟩, q4⟩
  | x :: l, bl, o, ⟨q1, q2⟩ => ⟨q1, Cells.wkLast h l bl (o + 1) q2⟩
theorem Wk.ipLast {a b : AV} (h : Wk a b) (l : List AV) : Wk (.ip (l ++ [a])) (.ip (l ++ [b])) := fun w D v ⟨bl, o, e, h1, h2, h3⟩ => ⟨bl, o, e, h1, h2, Cells.wkLast h l _ _ h3⟩
theorem lend1_ip6 (L : Heap) (a b c d e f : AV) : lend1 L (.ip [a, b, c, d, e, f]) = .ip [lend1 L a, lend1 L b, lend1 L c, lend1 L d, lend1 L e, lend1 L f] := by
  induction L generalizing a b c d e f with
  | nil => rfl
  | cons p L ih => simp only [lend1, fz, fzs]; exact ih ..
/-- The block of the program's search. -/
def mpB (ra rb : List (List Int)) (a : Int) (b : Bool) (c : Int) (u : AV) : Blk := ⟨6, [.agg [.int .i64 a, .bool b, .snap 1 (ra.map il), .snap 1 (rb.map il), .int .i64 c, u]]⟩
theorem fits_p (ra rb : List (List Int)) (im : List Int) (a : Int) (b : Bool) (c : Int) (id : Nat) (u : AV) (gu H : Heap) (ha : ssTot ra ≤ 1048576) (hb : ssTot rb ≤ 1048576) (hbs : sortS rb) (hil : im.length ≤ (vt ra).length) (hg : GrT 1 u (im.map iv) gu) (h1 : (id, mpB ra rb a b c u) ∈ H) (h2 : ∀ p ∈ gu, p ∈ H) :
    ACalls Try.prog 110 [.ptr id 6 0 0] H (fun v h' => v = .bool (fitB ra rb im) ∧ h' = H) := by
  refine ACalls.reads ((id, mpB ra rb a b c u) :: gu) (fun p hp => ?_) ?_ rfl
  · rcases List.mem_cons.1 hp with rfl | hp
    · exact h1
    · exact h2 p hp
  · rw [lend_cons, lend_nil']
    have e : lend1 ((id, mpB ra rb a b c u) :: gu) (.ptr id 6 0 0) = .ip [.int .i64 a, .bool b, .snap 1 (ra.map il), .snap 1 (rb.map il), .int .i64 c, lend1 gu u] := by
      have : lend1 ((id, mpB ra rb a b c u) :: gu) (.ptr id 6 0 0) = lend1 gu (.ip [.int .i64 a, .bool b, .snap 1 (ra.map il), .snap 1 (rb.map il), .int .i64 c, u]) := by
        simp only [lend1, fz, mpB, and_self, if_true, List.getElem?_cons_zero, cellsOf, List.drop_zero]
      rw [this, lend1_ip6, lend1_cold gu (x := .int .i64 a) rfl, lend1_cold gu (x := .bool b) rfl, lend1_cold gu (x := .snap 1 (ra.map il)) (by simp [cold]), lend1_cold gu (x := .snap 1 (rb.map il)) (by simp [cold]), lend1_cold gu (x := .int .i64 c) rfl]
    rw [e]
    exact ACalls.wk (.cons (Wk.ipLast hg.lent.wk [.int .i64 a, .bool b, .snap 1 (ra.map il), .snap 1 (rb.map il), .int .i64 c]) .nil) (fits_s ra rb im a b c [] ha hb hbs hil)
abbrev k95_o0 : List AJ := [.o ⟨(some 2), none, false, .mv (.c (.bool false)), (some [0])⟩]
abbrev k95_o1 : List AJ := [.o ⟨(some 3), none, false, .mv (.t 0), none⟩, .o ⟨(some 4), none, false, .nilchk (.t 3), none⟩, .o ⟨(some 5), none, false, .fieldA 0 (.t 4), none⟩, .o ⟨(some 6), none, false, .load 1 false (.t 5), none⟩, .o ⟨(some 7), none, false, .bin .eql (.t 6) (.c (.int .i64 0)), (some [0, 7])⟩]
abbrev k95_o2 : List AJ := [.o ⟨(some 8), none, false, .mv (.t 0), none⟩, .o ⟨(some 9), none, false, .nilchk (.t 8), none⟩, .o ⟨(some 10), none, false, .fieldA 1 (.t 9), none⟩, .o ⟨none, none, false, .store 1 (.t 10) (.c (.bool true)), (some [])⟩]
abbrev k95_o3 : List AJ := [.o ⟨(some 2), none, false, .mv (.c (.bool false)), (some [2])⟩]
def k95_4 : ACode := .seq (.region k95_o3) .ret
def k95_5 : ACode := .seq (.region k95_o2) k95_4
def k95_6 : ACode := .cond (.t 7) k95_5 .skip
def k95_7 : ACode := .seq (.region k95_o1) k95_6
abbrev k95_o4 : List AJ := [.o ⟨(some 11), none, false, .mv (.t 0), none⟩, .o ⟨(some 12), none, false, .nilchk (.t 11), none⟩, .o ⟨(some 13), none, false, .fieldA 0 (.t 12), none⟩, .o ⟨(some 14), none, false, .load 1 false (.t 13), none⟩, .o ⟨(some 15), none, true, .bin .sub (.t 14) (.c (.int .i64 1)), none⟩, .o ⟨(some 16), none, false, .nilchk (.t 11), none⟩, .o ⟨(some 17), none, false, .fieldA 0 (.t 16), none⟩, .o ⟨none, none, false, .store 1 (.t 17) (.t 15), (some [])⟩]
abbrev k95_o5 : List AJ := [.o ⟨(some 2), none, false, .mv (.c (.bool true)), (some [2])⟩]
def k95_10 : ACode := .seq (.region k95_o5) .ret
def k95_11 : ACode := .seq (.region k95_o4) k95_10
def k95_12 : ACode := .seq k95_7 k95_11
def k95_13 : ACode := .seq (.region k95_o0) k95_12
@[simp, simp ↓] theorem k95_4r : sR k95_4 k95_o3 .ret := yR rfl
@[simp, simp ↓] theorem k95_5r : sR k95_5 k95_o2 k95_4 := yR rfl
@[simp, simp ↓] theorem k95_6r : rC k95_6 (.t 7) k95_5 .skip := zC rfl
@[simp, simp ↓] theorem k95_7r : sR k95_7 k95_o1 k95_6 := yR rfl
@[simp, simp ↓] theorem k95_10r : sR k95_10 k95_o5 .ret := yR rfl
@[simp, simp ↓] theorem k95_11r : sR k95_11 k95_o4 k95_10 := yR rfl
@[simp, simp ↓] theorem k95_12r : rS k95_12 k95_7 k95_11 := zS rfl
@[simp, simp ↓] theorem k95_13r : sR k95_13 k95_o0 k95_12 := yR rfl
noncomputable abbrev k95_C : Orc → Cx := mkC Try.prog [] 95 18 [.tmp 2]
theorem k95_of0 : OfP0 Try.prog Try.f95 95 18 k95_C k95_13 := @ofP0 _ _ _ _ _ _ _ _ Try.func95 (by decide +kernel) rfl (by kernel_rfl) rfl (by kernel_rfl)
theorem node_w (ra rb : List (List Int)) (a : Int) (b : Bool) (c : Int) (id : Nat) (u : AV) (hu : isCell u = true) (gu h : Heap) (hid : id ∉ dom gu) (ha : 0 ≤ a ∧ a ≤ 20000) :
    ACalls Try.prog 95 [.ptr id 6 0 0] (gu ++ (id, mpB ra rb a b c u) :: h) (fun v h' => v = .bool (!decide (a = 0)) ∧ h' = gu ++ (id, mpB ra rb (if a = 0 then a else a - 1) (if a = 0 then true else b) c u) :: h) := by
  unfold mpB
  refine k95_of0 rfl noPure fun I => ?_
  by_cases h0 : a = 0
  · refine Run2.of I 1000 ?_
    simp -implicitDefEqProofs [hget_app hid, hset_app hid, h0, hu]
  · refine Run2.of I 1000 ?_
    simp -implicitDefEqProofs [hget_app hid, hset_app hid, h0, hu]
    omega
/-- What a search leaves. -/
def MpOut (ra rb : List (List Int)) (B : Int) (id : Nat) (h : Heap) (im : List Int) (F : Int × Int × Bool) (v : AV) (h' : Heap) : Prop := ∃ u' gu' im', v = .tup [] ∧ GrT 1 u' (im'.map iv) gu' ∧ id ∉ dom gu' ∧ h' = gu' ++ (id, mpB ra rb (B - F.2.1) F.2.2 F.1 u') :: h ∧ (F.2.2 = false → im' = im) ∧ (F.2.2 = true → im.length + 1 ≤ im'.length ∧ im'.length ≤ (vt ra).length)
abbrev k58_o0 : List AI := [⟨(some 4), none, false, .mv (.t 0), none⟩, ⟨(some 5), none, false, .nilchk (.t 4), none⟩, ⟨(some 6), none, false, .fieldA 5 (.t 5), none⟩, ⟨(some 7), none, false, .load 1 false (.t 6), none⟩, ⟨(some 8), none, false, .len (.t 7), none⟩, ⟨(some 9), none, false, .mv (.t 0), none⟩, ⟨(some 10), none, false, .nilchk (.t 9), none⟩, ⟨(some 11), none, false, .fieldA 2 (.t 10), none⟩, ⟨(some 12), none, false, .load 1 true (.t 11), none⟩, ⟨(some 13), none, false, .call 109 [(.t 12)], none⟩, ⟨(some 14), none, false, .len (.t 13), none⟩, ⟨(some 15), none, false, .bin .eql (.t 8) (.t 14), (some [0, 15])⟩]
abbrev k58_o1 : List AJ := [.o ⟨(some 16), none, false, .mv (.t 0), none⟩, .o ⟨(some 17), none, false, .nilchk (.t 16), none⟩, .o ⟨(some 18), none, false, .fieldA 4 (.t 17), none⟩, .o ⟨(some 19), none, false, .load 1 false (.t 18), none⟩, .o ⟨(some 20), none, true, .bin .add (.t 19) (.c (.int .i64 1)), none⟩, .o ⟨(some 21), none, false, .nilchk (.t 16), none⟩, .o ⟨(some 22), none, false, .fieldA 4 (.t 21), none⟩, .o ⟨none, none, false, .store 1 (.t 22) (.t 20), (some [])⟩]
def k58_2 : ACode := .seq (.region k58_o1) .ret
def k58_3 : ACode := .cond (.t 15) k58_2 .skip
def k58_4 : ACode := .seq (.draw k58_o0 [] rfl) k58_3
abbrev k58_o2 : List AJ := [.o ⟨(some 23), none, false, .mv (.t 0), none⟩, .o ⟨(some 24), none, false, .nilchk (.t 23), none⟩, .o ⟨(some 25), none, false, .fieldA 3 (.t 24), none⟩, .o ⟨(some 26), none, false, .load 1 true (.t 25), none⟩, .o ⟨(some 27), none, false, .call 109 [(.t 26)], none⟩, .o ⟨(some 28), none, false, .len (.t 27), none⟩, .o ⟨(some 29), none, false, .mv (.c (.int .i64 0)), (some [0, 27, 28, 29])⟩]
abbrev k58_o3 : List AJ := [.o ⟨(some 30), none, false, .bin .lss (.t 29) (.t 28), (some [0, 27, 28, 29, 30])⟩]
abbrev k58_o4 : List AJ := [.o ⟨(some 31), none, false, .idxA 1 (.t 27) (.t 29), none⟩, .o ⟨(some 32), none, false, .load 1 false (.t 31), none⟩, .o ⟨(some 3), none, false, .mv (.t 32), (some [0, 3, 27, 28, 29])⟩]
abbrev k58_o5 : List AJ := [.o ⟨(some 33), none, false, .mv (.t 0), none⟩, .o ⟨(some 34), none, false, .mv (.t 0), none⟩, .o ⟨(some 35), none, false, .nilchk (.t 34), none⟩, .o ⟨(some 36), none, false, .fieldA 5 (.t 35), none⟩, .o ⟨(some 37), none, false, .load 1 false (.t 36), none⟩, .o ⟨(some 38), none, false, .mv (.t 3), none⟩, .o ⟨(some 39), none, false, .bsl false 1 [(.t 38)], none⟩, .o ⟨(some 40), none, false, .append 1 8 (.t 37) (.t 39), none⟩, .o ⟨(some 41), none, false, .nilchk (.t 33), none⟩, .o ⟨(some 42), none, false, .fieldA 5 (.t 41), none⟩, .o ⟨none, none, false, .store 1 (.t 42) (.t 40), (some [0, 27, 28, 29])⟩]
abbrev k58_o6 : List AJ := [.o ⟨(some 43), none, false, .mv (.t 0), none⟩, .o ⟨(some 44), none, false, .call 110 [(.t 43)], (some [0, 27, 28, 29, 44])⟩]
abbrev k58_o7 : List AJ := [.o ⟨(some 45), none, false, .mv (.t 0), none⟩, .o ⟨(some 46), none, false, .nilchk (.t 45), none⟩, .o ⟨(some 47), none, false, .fieldA 0 (.t 46), none⟩, .o ⟨(some 48), none, false, .fieldA 1 (.t 47), none⟩, .o ⟨(some 49), none, false, .load 1 false (.t 48), none⟩, .o ⟨(some 50), none, false, .mv (.t 49), none⟩, .o ⟨(some 51), (some (50, false)), false, .mv (.t 0), none⟩, .o ⟨(some 52), (some (50, false)), false, .nilchk (.t 51), none⟩, .o ⟨(some 53), (some (50, false)), false, .fieldA 0 (.t 52), none⟩, .o ⟨(some 54), (some (50, false)), false, .call 95 [(.t 53)], (some [0, 27, 28, 29, 50, 54])⟩, .o ⟨(some 55), (some (50, false)), false, .un .not (.t 54), none⟩, .o ⟨(some 56), none, false, .pick (.t 50) (.c (.bool true)) (.t 55), (some [0, 27, 28, 29, 56])⟩]
def k58_12 : ACode := .cond (.t 56) .ret .skip
def k58_13 : ACode := .seq (.region k58_o7) k58_12
abbrev k58_o8 : List AJ := [.o ⟨(some 57), none, false, .mv (.t 0), none⟩, .o ⟨(some 58), none, false, .call 58 [(.t 57)], (some [0, 27, 28, 29])⟩]
def k58_14 : ACode := .region k58_o8
def k58_15 : ACode := .seq k58_13 k58_14
def k58_16 : ACode := .cond (.t 44) k58_15 .skip
def k58_17 : ACode := .seq (.region k58_o6) k58_16
abbrev k58_o9 : List AI := [⟨(some 59), none, false, .mv (.t 0), none⟩, ⟨(some 60), none, false, .mv (.t 0), none⟩, ⟨(some 61), none, false, .nilchk (.t 60), none⟩, ⟨(some 62), none, false, .fieldA 5 (.t 61), none⟩, ⟨(some 63), none, false, .load 1 false (.t 62), none⟩, ⟨(some 64), none, false, .mv (.t 0), none⟩, ⟨(some 65), none, false, .nilchk (.t 64), none⟩, ⟨(some 66), none, false, .fieldA 5 (.t 65), none⟩, ⟨(some 67), none, false, .load 1 false (.t 66), none⟩, ⟨(some 68), none, false, .len (.t 67), none⟩, ⟨(some 69), none, true, .bin .sub (.t 68) (.c (.int .i64 1)), none⟩, ⟨(some 70), none, false, .slice 1 (.t 63) none (some (.t 69)) none, none⟩, ⟨(some 71), none, false, .nilchk (.t 59), none⟩, ⟨(some 72), none, false, .fieldA 5 (.t 71), (some [0, 27, 28, 29, 70, 72])⟩]
abbrev k58_o10 : List AJ := [.o ⟨none, none, false, .store 1 (.t 72) (.t 70), (some [0, 27, 28, 29])⟩]
def k58_18 : ACode := .draw k58_o9 k58_o10 rfl
def k58_19 : ACode := .seq k58_17 k58_18
def k58_20 : ACode := .seq (.region k58_o5) k58_19
def k58_21 : ACode := .seq (.region k58_o4) k58_20
abbrev k58_o11 : List AJ := [.o ⟨(some 73), none, true, .bin .add (.t 29) (.c (.int .i64 1)), none⟩, .o ⟨(some 29), none, false, .mv (.t 73), (some [0, 27, 28, 29])⟩]
def k58_23 : ACode := .region k58_o11
def k58_24 : ACode := .seq (.block 1 k58_21) k58_23
def k58_25 : ACode := .seq (.cond (.t 30) .skip (.exit 0)) k58_24
def k58_26 : ACode := .seq (.region k58_o3) k58_25
def k58_27 : ACode := .loop k58_26
def k58_28 : ACode := .block 0 k58_27
def k58_29 : ACode := .seq (.region k58_o2) k58_28
def k58_30 : ACode := .seq k58_4 k58_29
@[simp, simp ↓] theorem k58_2r : sR k58_2 k58_o1 .ret := yR rfl
@[simp, simp ↓] theorem k58_3r : rC k58_3 (.t 15) k58_2 .skip := zC rfl
@[simp, simp ↓] theorem k58_4r : sD k58_4 k58_o0 [] k58_3 := yD rfl
@[simp, simp ↓] theorem k58_12r : rC k58_12 (.t 56) .ret .skip := zC rfl
@[simp, simp ↓] theorem k58_13r : sR k58_13 k58_o7 k58_12 := yR rfl
@[simp, simp ↓] theorem k58_14r : rR k58_14 k58_o8 := zR rfl
@[simp, simp ↓] theorem k58_15r : rS k58_15 k58_13 k58_14 := zS rfl
@[simp, simp ↓] theorem k58_16r : rC k58_16 (.t 44) k58_15 .skip := zC rfl
@[simp, simp ↓] theorem k58_17r : sR k58_17 k58_o6 k58_16 := yR rfl
@[simp, simp ↓] theorem k58_18r : rD k58_18 k58_o9 k58_o10 := zD rfl
@[simp, simp ↓] theorem k58_19r : rS k58_19 k58_17 k58_18 := zS rfl
@[simp, simp ↓] theorem k58_20r : sR k58_20 k58_o5 k58_19 := yR rfl
@[simp, simp ↓] theorem k58_21r : sR k58_21 k58_o4 k58_20 := yR rfl
@[simp, simp ↓] theorem k58_23r : rR k58_23 k58_o11 := zR rfl
@[simp, simp ↓] theorem k58_24r : sB k58_24 1 k58_21 k58_23 := yB rfl
@[simp, simp ↓] theorem k58_25r : sC k58_25 (.t 30) .skip (.exit 0) k58_24 := yC rfl
@[simp, simp ↓] theorem k58_26r : sR k58_26 k58_o3 k58_25 := yR rfl
@[simp, simp ↓] theorem k58_27r : rL k58_27 k58_26 := zL rfl
@[simp, simp ↓] theorem k58_28r : rB k58_28 0 k58_27 := zB rfl
@[simp, simp ↓] theorem k58_29r : sR k58_29 k58_o2 k58_28 := yR rfl
@[simp, simp ↓] theorem k58_30r : rS k58_30 k58_4 k58_29 := zS rfl
noncomputable abbrev k58_C : Orc → Cx := mkC Try.prog [] 58 74 []
theorem k58_of : OfP Try.prog Try.f58 58 74 k58_C k58_30 := @ofP _ _ _ _ _ _ _ _ Try.func58 (by decide +kernel) rfl (by kernel_rfl) rfl (by kernel_rfl)
theorem search_w (ra rb : List (List Int)) (ha : ssTot ra ≤ 1048576) (hb : ssTot rb ≤ 1048576) (hbs : sortS rb) (hn : (vt ra).length ≤ 48) (B : Int) (hB : 1 ≤ B ∧ B ≤ 20000) (id : Nat) (h : Heap) : ∀ (d : Nat) (im : List Int) (c k : Int) (u : AV) (gu : Heap), im.length + d = (vt ra).length → 0 ≤ c → c ≤ k → k ≤ B → GrT 1 u (im.map iv) gu → id ∉ dom gu →
    ACalls Try.prog 58 [.ptr id 6 0 0] (gu ++ (id, mpB ra rb (B - k) false c u) :: h) (MpOut ra rb B id h im (srch (fitB ra rb) (vt rb) B d im (c, k, false))) := by
  intro d
  induction d with
  | zero =>
    intro im c k u gu hd hc0 hck hkB hg hid
    have hul := hg.len
    have huc := hg.cell
    simp only [List.length_map] at hul
    have fin : MpOut ra rb B id h im (srch (fitB ra rb) (vt rb) B 0 im (c, k, false)) (.tup []) (gu ++ (id, mpB ra rb (B - k) false (c + 1) u) :: h) := ⟨u, gu, im, rfl, hg, hid, rfl, fun _ => rfl, fun h => by cases h⟩
    generalize MpOut ra rb B id h im (srch (fitB ra rb) (vt rb) B 0 im (c, k, false)) = R at *
    unfold mpB at *
    have hde : (im.length : Int) = (vt ra).length := by omega
    refine k58_of rfl orcCm2_p fun I => ?_
    refine Run2.of I 1000 ?_
    simp -implicitDefEqProofs [hget_app hid, hset_app hid, hul, huc, ha, hde]
    exact ⟨by omega, .base fin⟩
  | succ d ihd =>
    intro im c k u gu hd hc0 hck hkB hg hid
    have hul := hg.len
    have huc := hg.cell
    simp only [List.length_map] at hul
    have hde : ¬ (im.length : Int) = (vt ra).length := by omega
    have hnb := (fit_of_tot hb).1
    have hvlb := vt_len rb
    obtain ⟨F, hF⟩ : ∃ F, F = (vt rb).foldl (sstep (fitB ra rb) (vt rb) B d im) (c, k, false) := ⟨_, rfl⟩
    rw [srch_succ, ← hF]
    obtain ⟨R, hR⟩ : ∃ R, R = MpOut ra rb B id h im F := ⟨_, rfl⟩
    rw [← hR]
    refine k58_of rfl orcCm2_p fun I => ?_
    unfold mpB
    refine Run2.of I 1000 ?_
    simp -implicitDefEqProofs [hget_app hid, hset_app hid, hul, huc, ha, hb, hde]
    refine Run2.loopE (α := Nat × Int × Int × Bool × List Int × AV × Heap) (fun s => [(0, .ptr id 6 0 0), (27, .snap 1 ((vt rb).map iv)), (28, .int .i64 (vt rb).length), (29, .int .i64 (s.1 : Nat))])
      (fun s => s.2.2.2.2.2.2 ++ (id, mpB ra rb (B - s.2.2.1) s.2.2.2.1 s.2.1 s.2.2.2.2.2.1) :: h) (fun s => (vt rb).length - s.1)
      (fun s => s.1 ≤ (vt rb).length ∧ 0 ≤ s.2.1 ∧ s.2.1 ≤ s.2.2.1 ∧ s.2.2.1 ≤ B ∧ F = ((vt rb).drop s.1).foldl (sstep (fitB ra rb) (vt rb) B d im) (s.2.1, s.2.2.1, s.2.2.2.1) ∧ GrT 1 s.2.2.2.2.2.1 (s.2.2.2.2.1.map iv) s.2.2.2.2.2.2 ∧ id ∉ dom s.2.2.2.2.2.2 ∧ (s.2.2.2.1 = false → s.2.2.2.2.1 = im) ∧ (s.2.2.2.1 = true → im.length + 1 ≤ s.2.2.2.2.1.length) ∧ s.2.2.2.2.1.length + 1 ≤ (vt ra).length)
      (0, c, k, false, im, u, gu) (by simp) (by simp [mpB]) ⟨Nat.zero_le _, hc0, hck, hkB, by simpa using hF, hg, hid, fun _ => rfl, (fun h => by cases h), by simp only; omega⟩ ?_
    clear hF hg hid hul huc hc0 hck hkB hde
    rintro ⟨i, c, k, f, J, u, gu⟩ ⟨hi, hc0, hck, hkB, hF, hg, hid, hJ0, hJ1, hJ2⟩ ih
    simp only at hi hc0 hck hkB hF hg hid hJ0 hJ1 hJ2 ih ⊢
    have hul := hg.len
    have huc := hg.cell
    simp only [List.length_map] at hul
    by_cases hlt : i < (vt rb).length
    · rw [List.drop_eq_getElem_cons hlt, List.foldl_cons] at hF
      have go := fun c' k' f' (J : List Int) (x : Int) idl ex a1 a2 a3 a4 (a5 : id ∉ dom [(idl, (⟨1, (J ++ [x]).map iv ++ ex⟩ : Blk))]) a6 a7 a8 => ih (i + 1, c', k', f', J, .sl idl 1 0 J.length none, [(idl, ⟨1, (J ++ [x]).map iv ++ ex⟩)]) ⟨hlt, a1, a2, a3, a4, by
        have := GrT.sl (sz := 1) idl (J.map iv) (iv x :: ex) J.length (by simp)
        simpa using this, a5, a6, a7, a8⟩ (by simp; omega)
      clear ih
      unfold mpB
      refine Run2.of I 1000 ?_
      simp -implicitDefEqProofs [hlt, hget_app hid, hset_app hid, hul, huc]
      refine GrT.app hg (by simp; omega) (by simp) fun w' gu' hg' hf' => ?_
      have hid' : id ∉ dom gu' := fun e => hf' id e (by simp [dom])
      have hwc := hg'.cell
      simp -implicitDefEqProofs [hget_app hid', hset_app hid', hwc, cells_of hwc, stor_of hwc]
      have hgt : GrT 1 w' ((J ++ [(vt rb)[i]]).map iv) gu' := by simpa using hg'.t
      refine (fits_p ra rb (J ++ [(vt rb)[i]]) (B - k) f c id w' gu' _ ha hb hbs (by simp; omega) hgt (by simp [mpB]) (fun p hp => List.mem_append_left _ hp)).mono ?_
      rintro v h' ⟨rfl, rfl⟩
      simp only at go
      unfold mpB at go
      by_cases hfit : fitB ra rb (J ++ [(vt rb)[i]]) = true
      · rw [hfit]
        cases f with
        | true =>
          have hs : sstep (fitB ra rb) (vt rb) B d im (c, k, true) (vt rb)[i] = (c, k, true) := by simp [sstep]
          rw [hs, sstep_full] at hF
          refine gK.go ?_
          simp -implicitDefEqProofs [hget_app hid', hset_app hid', hwc]
          refine .base ?_
          rw [hR, hF]
          exact ⟨w', gu', J ++ [(vt rb)[i]], rfl, hgt, hid', by simp [mpB], fun h => by simp at h, fun _ => by have := hJ1 rfl; simp; omega⟩
        | false =>
          obtain rfl := hJ0 rfl
          refine gK.go ?_
          simp -implicitDefEqProofs [hget_app hid', hset_app hid', hwc]
          refine (node_w ra rb (B - k) false c id w' hwc gu' h hid' (by omega)).mono ?_
          rintro v h' ⟨rfl, rfl⟩
          by_cases hk : k = B
          · have hs : sstep (fitB ra rb) (vt rb) B d J (c, k, false) (vt rb)[i] = (c, k, true) := by simp [sstep, hfit, hk]
            rw [hs, sstep_full] at hF
            have h0 : B - k = 0 := by omega
            rw [if_pos h0, if_pos h0]
            unfold mpB
            refine gK.go ?_
            simp -implicitDefEqProofs [hget_app hid', hset_app hid', hwc, h0]
            refine .base ?_
            rw [hR, hF]
            exact ⟨w', gu', J ++ [(vt rb)[i]], rfl, hgt, hid', by simp [mpB, h0], fun h => by simp at h, fun _ => by simp; omega⟩
          · have hs : sstep (fitB ra rb) (vt rb) B d J (c, k, false) (vt rb)[i] = srch (fitB ra rb) (vt rb) B d (J ++ [(vt rb)[i]]) (c, k + 1, false) := by simp [sstep, hfit, hk]
            rw [hs] at hF
            have h0 : ¬ B - k = 0 := by omega
            have hbd := srch_bd (fitB ra rb) (vt rb) B d (J ++ [(vt rb)[i]]) (c, k + 1, false) 1 (by simp only; omega) (by simp only; omega)
            have hcall := ihd (J ++ [(vt rb)[i]]) c (k + 1) w' gu' (by simp; omega) hc0 (by omega) (by omega) hgt hid'
            generalize srch (fitB ra rb) (vt rb) B d (J ++ [(vt rb)[i]]) (c, k + 1, false) = G at *
            obtain ⟨c', k', f'⟩ := G
            simp only at hbd hF
            rw [if_neg h0, if_neg h0]
            unfold mpB at hcall ⊢
            rw [show B - (k + 1) = B - k - 1 by omega] at hcall
            refine gK.go ?_
            simp -implicitDefEqProofs [h0]
            refine hcall.mono ?_
            rintro v h' ⟨u', gu2, J2, rfl, hg2, hid2, rfl, k1, k2⟩
            simp only at k1 k2
            have hJJ : ∃ J' x, J2 = J' ++ [x] := by
              rcases List.eq_nil_or_concat J2 with e | ⟨J', x, e⟩
              · exfalso
                subst e
                cases f' with
                | true => have := (k2 rfl).1; simp at this
                | false => have := k1 rfl; simp at this
              · exact ⟨J', x, by simpa using e⟩
            obtain ⟨J', x, rfl⟩ := hJJ
            generalize hLL : (J' ++ [x]).map iv = LL at hg2
            cases hg2 with
            | nil => simp at hLL
            | emp => simp at hLL
            | sl idl _ ex nn hnn =>
              obtain rfl : nn = J'.length + 1 := by rw [hnn, ← hLL]; simp
              subst hLL
              have hJl : J'.length + 1 ≤ (vt ra).length := by
                cases f' with
                | true => have := (k2 rfl).2; simp at this; omega
                | false => have := k1 rfl; simp at this; rw [this.1]; omega
              have hJm : ((J' ++ [x]).map iv).length ≤ 48 := by simp; omega
              have hgo := go c' k' f' J' x idl ex (by omega) (by omega) (by omega) hF hid2 (fun h => by have := k1 h; simp at this; exact this.1) (fun h => by have := (k2 h).1; simp at this; omega) hJl
              have hne : ¬ idl = id := fun e => hid2 (by simp [dom, e])
              unfold mpB
              refine gK.go ?_
              simp -implicitDefEqProofs [hne]
              exact ⟨by omega, by omega, by omega, by simpa using hgo⟩
      · have hfit : fitB ra rb (J ++ [(vt rb)[i]]) = false := by simpa using hfit
        have hs : sstep (fitB ra rb) (vt rb) B d im (c, k, f) (vt rb)[i] = (c, k, f) := by
          cases f with
          | true => simp [sstep]
          | false => obtain rfl := hJ0 rfl; simp [sstep, hfit]
        rw [hs] at hF
        rw [hfit]
        generalize hLL : (J ++ [(vt rb)[i]]).map iv = LL at hgt
        cases hgt with
        | nil => simp at hLL
        | emp => simp at hLL
        | sl idl _ ex nn hnn =>
          obtain rfl : nn = J.length + 1 := by rw [hnn, ← hLL]; simp
          subst hLL
          have hgo := go c k f J (vt rb)[i] idl ex hc0 hck hkB hF hid' hJ0 hJ1 hJ2
          have hne : ¬ idl = id := fun e => hid' (by simp [dom, e])
          refine gK.go ?_
          simp -implicitDefEqProofs [hne]
          exact ⟨by omega, by omega, by omega, by simpa using hgo⟩
    · obtain rfl : i = (vt rb).length := by omega
      rw [List.drop_length, List.foldl_nil] at hF
      unfold mpB
      refine Run2.of I 1000 ?_
      simp -implicitDefEqProofs [hget_app hid]
      refine .base ?_
      rw [hR, hF]
      exact ⟨u, gu, J, rfl, hg, hid, rfl, hJ0, fun h => ⟨hJ1 h, by omega⟩⟩
end Go.AG
