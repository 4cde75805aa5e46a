/- LeastDrops: what the reference's function gives. No statement is made here. -/
import Derived.Test.YtdjamhallkijmaaPhDr
namespace Go.AG
open Go.Proofs Go.Proofs.Ytdjamhallkijmaa
set_option linter.unusedSimpArgs false
set_option linter.unusedVariables false
set_option maxRecDepth 4000
/-- A slice that is only appended to and shortened: what stands behind it is not told. -/
inductive GrT (sz : Nat) : AV → List AV → Heap → Prop
  | nil : GrT sz .nilsl [] []
  | emp : GrT sz .emp [] []
  | sl (id : Nat) (l ex : List AV) (n : Nat) (hn : n = l.length) : GrT sz (.sl id sz 0 n none) l [(id, ⟨sz, l ++ ex⟩)]
theorem Grow.t {sz : Nat} {w : AV} {l : List AV} {hp : Heap} (h : Grow sz w l hp) : GrT sz w l hp := by
  cases h with
  | nil => exact .nil
  | emp => exact .emp
  | sl id l n hn => have := GrT.sl (sz := sz) id l [] n hn; simpa using this
theorem GrT.cell {sz : Nat} {w : AV} {l : List AV} {hp : Heap} (h : GrT sz w l hp) : isCell w = true := by cases h <;> rfl
theorem GrT.len {sz : Nat} {w : AV} {l : List AV} {hp : Heap} (h : GrT sz w l hp) : lenR w = .val (.int .i64 l.length) := by
  cases h with
  | nil => simp
  | emp => simp
  | sl id l ex n hn => subst hn; simp
theorem GrT.app {sz : Nat} {w : AV} {l new : List AV} {hp post : Heap} {C : Cx} {n : Nat} {d : Option Nat} {ks : Option (List Nat)} {is : List AJ} {sk : List AItem} {R : AV → Heap → Prop} {e : Env} {h0 : Heap} {bytes : Nat} (g : GrT sz w l hp) (hb : (2 * (l.length + new.length)) * bytes ≤ 281474976710656) (hn : new ≠ [])
    (k : ∀ w' hp', Grow sz w' (l ++ new) hp' → (∀ i ∈ dom hp', i ∉ dom post) → vc2 C n is sk (kp (put e d w') ks) (hp' ++ post) R) : resK C n d ks is sk R e h0 (appR (hp ++ post) sz bytes w new) := by
  have he : new.isEmpty = false := by cases new <;> simp_all
  cases g with
  | nil =>
    simp only [appR_n, he, List.nil_append]
    refine ⟨fun h => (by cases h), fun _ => ⟨by simpa using hb, fun id hid => ?_⟩⟩
    have := k _ _ (.sl id new new.length rfl) (by simpa [dom] using hid)
    simpa using this
  | emp =>
    simp only [appR_e, he, List.nil_append]
    refine ⟨fun h => (by cases h), fun _ => ⟨by simpa using hb, fun id hid => ?_⟩⟩
    have := k _ _ (.sl id new new.length rfl) (by simpa [dom] using hid)
    simpa using this
  | sl id l ex m hm =>
    subst hm
    have hd : hdel ((id, ⟨sz, l ++ ex⟩) :: post) id = post := by simp [hdel]
    rw [appR_ln]
    refine ⟨rfl, ⟨sz, l ++ ex⟩, by simp [hget], rfl, by simp, rfl, hb, fun id' hid => ?_⟩
    rw [List.cons_append, List.nil_append, hd] at hid
    have := k _ _ (.sl id' (l ++ new) (l.length + new.length) (by simp)) (by simpa [dom] using hid)
    simpa [hd] using this
theorem GrT.lent {w : AV} {l : List Int} {hp : Heap} (h : GrT 1 w (l.map iv) hp) : IsL iv 1 (lend1 hp w) l := by
  generalize hm : l.map iv = m at h
  cases h with
  | nil => rw [List.map_eq_nil_iff] at hm; subst hm; exact .nil
  | emp => rw [List.map_eq_nil_iff] at hm; subst hm; exact .emp
  | sl id m ex n hn =>
    subst hn; subst hm
    have : lend1 [(id, (⟨1, l.map iv ++ ex⟩ : Blk))] (.sl id 1 0 (l.map iv).length none) = .snap 1 (l.map iv) := by
      simp [lend1, fz]
    rw [this]
    exact .snap l
theorem less_c (x : Ph) (hv : x.valid) {u : AV} {l : List Int} {gl : Heap} (hg : GrT 1 u (l.map iv) gl) (H : Heap) (hs : ∀ p ∈ gl, p ∈ H) (hl : l.length ≤ 24) :
    ACalls Try.prog 66 [.ip [.int .i64 x.n, .int .i64 x.m, .snap 3 (x.ts.map T.av)], u] H (fun v h' => v = (x.less l).av ∧ h' = H) := by
  have hl2 := hv.2.2.2.2.2
  refine ACalls.post ((ACalls.gives gl hs (S := fun v h' => ∃ w, v = .agg [.int .i64 x.n, .int .i64 x.m, w] ∧ Grow 3 w ((x.less l).ts.map T.av) h') ?_ ?_).mono ?_)
  · rw [lend_cons, lend_cons, lend_nil', lend1_cold gl (show cold (.ip _) = true from x.is.cold)]
    have hi := hg.lent.ints
    have := l23Less_w x (lend1 gl u) [] (by omega) hi.1 (by rw [hi.2]; omega)
    rw [hi.2] at this
    exact this.mono fun v h' ⟨w, hp, e, hg, e2⟩ => ⟨w, e, by rw [List.append_nil] at e2; subst e2; exact hg⟩
  · rintro v h' ⟨w, e, hw⟩
    exact OwnPh.own (x := x.less l) ⟨w, e, hw.own⟩
  · rintro v h'' ⟨h', ⟨w, rfl, hw⟩, _, rfl⟩
    exact Grow.froze hw (fun u => .agg [.int .i64 x.n, .int .i64 x.m, u]) (fun id b u => by simp [fz]) (fun _ _ h => .agg (.cons (.refl _) (.cons (.refl _) (.cons h .nil)))) (.base ⟨rfl, rfl⟩)
abbrev k45_o0 : List AJ := [.o ⟨(some 2), none, false, .mv (.c .nilsl), (some [0])⟩]
abbrev k45_o1 : List AJ := [.e 3 1 none, .o ⟨(some 4), none, false, .mv (.t 0), none⟩, .o ⟨(some 5), none, false, .append 1 8 (.t 3) (.t 4), none⟩, .o ⟨(some 2), none, false, .mv (.t 5), (some [2])⟩]
def k45_2 : ACode := .seq (.region k45_o1) .ret
def k45_3 : ACode := .seq (.region k45_o0) k45_2
@[simp, simp ↓] theorem k45_2r : sR k45_2 k45_o1 .ret := yR rfl
@[simp, simp ↓] theorem k45_3r : sR k45_3 k45_o0 k45_2 := yR rfl
noncomputable abbrev k45_C : Orc → Cx := mkC Try.prog [3] 45 6 [.tmp 2]
theorem k45_of0 : OfP0 Try.prog Try.f45 45 6 k45_C k45_3 := @ofP0 _ _ _ _ _ _ _ _ Try.func45 (by decide +kernel) rfl (by kernel_rfl) rfl (by kernel_rfl)
theorem l00Own_w (l : List Int) (h : Heap) (hl : l.length ≤ 1048576) : ACalls Try.prog 45 [.snap 1 (l.map iv)] h (fun v h' => ∃ hp, Grow 1 v (l.map iv) hp ∧ h' = hp ++ h) := by
  refine k45_of0 rfl noPure fun I => ?_
  refine Run2.of I 1000 ?_
  simp -implicitDefEqProofs
  refine ⟨fun h1 => ?_, fun h1 => ⟨by omega, fun id hid => ?_⟩⟩
  · subst h1; exact .emp
  · exact ⟨[(id, ⟨1, l.map iv⟩)], .sl id _ _ (by simp), rfl⟩
abbrev k44_o0 : List AJ := [.o ⟨(some 4), none, false, .mv (.c (.bool false)), (some [0, 1])⟩]
abbrev k44_o1 : List AI := [⟨(some 9), none, false, .mv (.t 0), none⟩, ⟨(some 10), none, false, .nilchk (.t 9), none⟩, ⟨(some 11), none, false, .fieldA 1 (.t 10), none⟩, ⟨(some 12), none, false, .load 1 false (.t 11), none⟩, ⟨(some 13), none, false, .len (.t 12), none⟩, ⟨(some 14), none, false, .mv (.t 0), none⟩, ⟨(some 15), none, false, .nilchk (.t 14), none⟩, ⟨(some 16), none, false, .fieldA 2 (.t 15), none⟩, ⟨(some 17), none, false, .load 1 false (.t 16), none⟩, ⟨(some 18), none, false, .bin .eql (.t 13) (.t 17), (some [0, 1, 18])⟩]
abbrev k44_o2 : List AJ := [.o ⟨(some 19), none, false, .mv (.t 0), none⟩, .o ⟨(some 20), none, false, .nilchk (.t 19), none⟩, .o ⟨(some 21), none, false, .fieldA 3 (.t 20), none⟩, .o ⟨(some 22), none, false, .load 1 false (.t 21), none⟩, .o ⟨(some 23), none, true, .bin .add (.t 22) (.c (.int .i64 1)), none⟩, .o ⟨(some 24), none, false, .nilchk (.t 19), none⟩, .o ⟨(some 25), none, false, .fieldA 3 (.t 24), none⟩, .o ⟨none, none, false, .store 1 (.t 25) (.t 23), (some [0])⟩]
abbrev k44_o3 : List AI := [⟨(some 26), none, false, .mv (.t 0), none⟩, ⟨(some 27), none, false, .nilchk (.t 26), none⟩, ⟨(some 28), none, false, .fieldA 0 (.t 27), none⟩, ⟨(some 29), none, false, .load 1 false (.t 28), none⟩, ⟨(some 30), none, false, .mv (.t 0), none⟩, ⟨(some 31), none, false, .nilchk (.t 30), none⟩, ⟨(some 32), none, false, .fieldA 1 (.t 31), none⟩, ⟨(some 33), none, false, .load 1 false (.t 32), none⟩, ⟨(some 34), none, false, .call 66 [(.t 29), (.t 33)], none⟩, ⟨(some 5), none, false, .alloc true 3 (.agg [(.int .i64 0), (.int .i64 0), .nilsl]), none⟩, ⟨none, none, false, .store 3 (.t 5) (.t 34), none⟩]
abbrev k44_o4 : List AJ := [.o ⟨(some 26), none, false, .mv (.t 0), none⟩, .o ⟨(some 27), none, false, .nilchk (.t 26), none⟩, .o ⟨(some 28), none, false, .fieldA 0 (.t 27), none⟩, .o ⟨(some 29), none, false, .load 1 false (.t 28), none⟩, .o ⟨(some 30), none, false, .mv (.t 0), none⟩, .o ⟨(some 31), none, false, .nilchk (.t 30), none⟩, .o ⟨(some 32), none, false, .fieldA 1 (.t 31), none⟩, .o ⟨(some 33), none, false, .load 1 false (.t 32), none⟩, .o ⟨(some 34), none, false, .call 66 [(.t 29), (.t 33)], none⟩, .v 5 3 (.agg [(.int .i64 0), (.int .i64 0), .nilsl]) [] (.t 34) (some [0, 5])]
abbrev k44_o5 : List AJ := [.o ⟨(some 26), none, false, .mv (.t 0), none⟩, .o ⟨(some 27), none, false, .nilchk (.t 26), none⟩, .o ⟨(some 28), none, false, .fieldA 0 (.t 27), none⟩, .o ⟨(some 29), none, false, .load 1 false (.t 28), none⟩, .o ⟨(some 30), none, false, .mv (.t 0), none⟩, .o ⟨(some 31), none, false, .nilchk (.t 30), none⟩, .o ⟨(some 32), none, false, .fieldA 1 (.t 31), none⟩, .o ⟨(some 33), none, false, .load 1 false (.t 32), none⟩, .o ⟨(some 5), none, false, .alloc true 3 (.agg [(.int .i64 0), (.int .i64 0), .nilsl]), none⟩, .o ⟨(some 34), none, false, .call 66 [(.t 29), (.t 33)], none⟩, .o ⟨none, none, false, .store 3 (.t 5) (.t 34), (some [0, 5])⟩]
abbrev k44_o6 : List AJ := [.o ⟨(some 36), none, false, .bsl false 1 [], none⟩, .o ⟨(some 37), none, false, .call 49 [(.t 5), (.t 36)], none⟩, .o ⟨(some 35), none, false, .mv (.t 37), none⟩, .o ⟨(some 38), none, false, .extract (.t 35) 0, none⟩, .o ⟨(some 39), none, false, .extract (.t 35) 1, none⟩, .o ⟨(some 6), none, false, .mv (.t 38), none⟩, .o ⟨(some 7), none, false, .mv (.t 39), (some [0, 5, 7])⟩]
abbrev k44_o7 : List AI := [⟨(some 40), none, false, .mv (.t 0), none⟩, ⟨(some 41), none, false, .nilchk (.t 40), none⟩, ⟨(some 42), none, false, .fieldA 3 (.t 41), none⟩, ⟨(some 43), none, false, .load 1 false (.t 42), none⟩, ⟨(some 44), none, false, .mv (.t 0), none⟩, ⟨(some 45), none, false, .nilchk (.t 44), none⟩, ⟨(some 46), none, false, .fieldA 4 (.t 45), none⟩, ⟨(some 47), none, false, .load 1 false (.t 46), none⟩, ⟨(some 48), none, false, .bin .gtr (.t 43) (.t 47), none⟩, ⟨(some 49), none, false, .mv (.t 48), none⟩, ⟨(some 50), (some (49, false)), false, .mv (.t 7), none⟩, ⟨(some 51), (some (49, false)), false, .call 50 [(.t 5), (.t 50)], (some [49, 51])⟩, ⟨(some 52), (some (49, false)), false, .len (.t 51), none⟩, ⟨(some 53), (some (49, false)), false, .bin .eql (.t 52) (.c (.int .i64 0)), none⟩, ⟨(some 54), none, false, .pick (.t 49) (.c (.bool true)) (.t 53), none⟩, ⟨(some 4), none, false, .mv (.t 54), (some [4])⟩]
def k44_6 : ACode := .seq (.draw k44_o7 [] rfl) .ret
def k44_7 : ACode := .seq (.region k44_o6) k44_6
def k44_8 : ACode := .seq (.drawE k44_o3 [k44_o4, k44_o5] [[0, 1, 2, 3, 4, 5, 6, 7, 8, 9, 10], [0, 1, 2, 3, 4, 5, 6, 7, 9, 8, 10]] rfl rfl) (.cut k44_7)
def k44_9 : ACode := .seq (.region k44_o2) k44_8
def k44_10 : ACode := .cond (.t 18) k44_9 .skip
def k44_11 : ACode := .seq (.draw k44_o1 [] rfl) k44_10
abbrev k44_o8 : List AJ := [.o ⟨(some 55), none, false, .mv (.t 1), none⟩, .o ⟨(some 8), none, false, .mv (.t 55), (some [0, 8])⟩]
abbrev k44_o9 : List AJ := [.o ⟨(some 56), none, false, .mv (.t 8), none⟩, .o ⟨(some 57), none, false, .mv (.t 0), none⟩, .o ⟨(some 58), none, false, .nilchk (.t 57), none⟩, .o ⟨(some 59), none, false, .fieldA 0 (.t 58), none⟩, .o ⟨(some 60), none, false, .load 1 false (.t 59), none⟩, .o ⟨(some 61), none, false, .nilchk (.t 60), none⟩, .o ⟨(some 62), none, false, .fieldA 2 (.t 61), none⟩, .o ⟨(some 63), none, false, .load 1 false (.t 62), none⟩, .o ⟨(some 64), none, false, .len (.t 63), none⟩, .o ⟨(some 65), none, false, .bin .lss (.t 56) (.t 64), (some [0, 8, 65])⟩]
def k44_14 : ACode := .cond (.t 65) .skip (.exit 0)
def k44_15 : ACode := .seq (.region k44_o9) k44_14
abbrev k44_o10 : List AJ := [.o ⟨(some 68), none, false, .mv (.t 0), none⟩, .o ⟨(some 69), none, false, .mv (.t 0), none⟩, .o ⟨(some 70), none, false, .nilchk (.t 69), none⟩, .o ⟨(some 71), none, false, .fieldA 1 (.t 70), none⟩, .o ⟨(some 72), none, false, .load 1 false (.t 71), none⟩, .o ⟨(some 73), none, false, .mv (.t 8), none⟩, .o ⟨(some 74), none, false, .bsl false 1 [(.t 73)], none⟩, .o ⟨(some 75), none, false, .append 1 8 (.t 72) (.t 74), none⟩, .o ⟨(some 76), none, false, .nilchk (.t 68), none⟩, .o ⟨(some 77), none, false, .fieldA 1 (.t 76), none⟩, .o ⟨none, none, false, .store 1 (.t 77) (.t 75), (some [0, 8])⟩]
abbrev k44_o11 : List AJ := [.o ⟨(some 78), none, false, .mv (.t 0), none⟩, .o ⟨(some 79), none, false, .mv (.t 8), none⟩, .o ⟨(some 80), none, true, .bin .add (.t 79) (.c (.int .i64 1)), none⟩, .o ⟨(some 81), none, false, .call 44 [(.t 78), (.t 80)], (some [0, 8, 81])⟩]
abbrev k44_o12 : List AJ := [.o ⟨(some 4), none, false, .mv (.c (.bool true)), (some [4])⟩]
def k44_19 : ACode := .seq (.region k44_o12) .ret
def k44_20 : ACode := .cond (.t 81) k44_19 .skip
def k44_21 : ACode := .seq (.region k44_o11) k44_20
abbrev k44_o13 : List AI := [⟨(some 82), none, false, .mv (.t 0), none⟩, ⟨(some 83), none, false, .mv (.t 0), none⟩, ⟨(some 84), none, false, .nilchk (.t 83), none⟩, ⟨(some 85), none, false, .fieldA 1 (.t 84), none⟩, ⟨(some 86), none, false, .load 1 false (.t 85), none⟩, ⟨(some 87), none, false, .mv (.t 0), none⟩, ⟨(some 88), none, false, .nilchk (.t 87), none⟩, ⟨(some 89), none, false, .fieldA 1 (.t 88), none⟩, ⟨(some 90), none, false, .load 1 false (.t 89), none⟩, ⟨(some 91), none, false, .len (.t 90), none⟩, ⟨(some 92), none, true, .bin .sub (.t 91) (.c (.int .i64 1)), none⟩, ⟨(some 93), none, false, .slice 1 (.t 86) none (some (.t 92)) none, none⟩, ⟨(some 94), none, false, .nilchk (.t 82), none⟩, ⟨(some 95), none, false, .fieldA 1 (.t 94), (some [0, 8, 93, 95])⟩]
abbrev k44_o14 : List AJ := [.o ⟨none, none, false, .store 1 (.t 95) (.t 93), (some [0, 8])⟩]
def k44_22 : ACode := .draw k44_o13 k44_o14 rfl
def k44_23 : ACode := .seq k44_21 k44_22
def k44_24 : ACode := .seq (.region k44_o10) k44_23
abbrev k44_o15 : List AJ := [.o ⟨(some 66), none, false, .mv (.t 8), none⟩, .o ⟨(some 67), none, true, .bin .add (.t 66) (.c (.int .i64 1)), none⟩, .o ⟨(some 8), none, false, .mv (.t 67), (some [0, 8])⟩]
def k44_26 : ACode := .region k44_o15
def k44_27 : ACode := .seq (.block 1 k44_24) k44_26
def k44_28 : ACode := .seq k44_15 k44_27
def k44_29 : ACode := .loop k44_28
def k44_30 : ACode := .block 0 k44_29
def k44_31 : ACode := .seq (.region k44_o8) k44_30
abbrev k44_o16 : List AJ := [.o ⟨(some 4), none, false, .mv (.c (.bool false)), (some [4])⟩]
def k44_33 : ACode := .seq (.region k44_o16) .ret
def k44_34 : ACode := .seq k44_31 k44_33
def k44_35 : ACode := .seq k44_11 k44_34
def k44_36 : ACode := .seq (.region k44_o0) k44_35
@[simp, simp ↓] theorem k44_6r : sD k44_6 k44_o7 [] .ret := yD rfl
@[simp, simp ↓] theorem k44_7r : sR k44_7 k44_o6 k44_6 := yR rfl
@[simp, simp ↓] theorem k44_8r : sE k44_8 [k44_o4, k44_o5] (.cut k44_7) := yE rfl
@[simp, simp ↓] theorem k44_9r : sR k44_9 k44_o2 k44_8 := yR rfl
@[simp, simp ↓] theorem k44_10r : rC k44_10 (.t 18) k44_9 .skip := zC rfl
@[simp, simp ↓] theorem k44_11r : sD k44_11 k44_o1 [] k44_10 := yD rfl
@[simp, simp ↓] theorem k44_14r : rC k44_14 (.t 65) .skip (.exit 0) := zC rfl
@[simp, simp ↓] theorem k44_15r : sR k44_15 k44_o9 k44_14 := yR rfl
@[simp, simp ↓] theorem k44_19r : sR k44_19 k44_o12 .ret := yR rfl
@[simp, simp ↓] theorem k44_20r : rC k44_20 (.t 81) k44_19 .skip := zC rfl
@[simp, simp ↓] theorem k44_21r : sR k44_21 k44_o11 k44_20 := yR rfl
@[simp, simp ↓] theorem k44_22r : rD k44_22 k44_o13 k44_o14 := zD rfl
@[simp, simp ↓] theorem k44_23r : rS k44_23 k44_21 k44_22 := zS rfl
@[simp, simp ↓] theorem k44_24r : sR k44_24 k44_o10 k44_23 := yR rfl
@[simp, simp ↓] theorem k44_26r : rR k44_26 k44_o15 := zR rfl
@[simp, simp ↓] theorem k44_27r : sB k44_27 1 k44_24 k44_26 := yB rfl
@[simp, simp ↓] theorem k44_28r : rS k44_28 k44_15 k44_27 := zS rfl
@[simp, simp ↓] theorem k44_29r : rL k44_29 k44_28 := zL rfl
@[simp, simp ↓] theorem k44_30r : rB k44_30 0 k44_29 := zB rfl
@[simp, simp ↓] theorem k44_31r : sR k44_31 k44_o8 k44_30 := yR rfl
@[simp, simp ↓] theorem k44_33r : sR k44_33 k44_o16 .ret := yR rfl
@[simp, simp ↓] theorem k44_34r : rS k44_34 k44_31 k44_33 := zS rfl
@[simp, simp ↓] theorem k44_35r : rS k44_35 k44_11 k44_34 := zS rfl
@[simp, simp ↓] theorem k44_36r : sR k44_36 k44_o0 k44_35 := yR rfl
noncomputable abbrev k44_C : Orc → Cx := mkC Try.prog [5, 99999] 44 96 [.tmp 4]
theorem k44_of : OfP Try.prog Try.f44 44 96 k44_C k44_36 := @ofP _ _ _ _ _ _ _ _ Try.func44 (by decide +kernel) rfl (by kernel_rfl) rfl (by kernel_rfl)
theorem try_w (x : Ph) (hv : x.valid) (B : Int) (hB : 1 ≤ B ∧ B ≤ 20000) (ids : Nat) (h : Heap) : ∀ (m f : Nat) (l : List Int) (k : Int) (u : AV) (gu : Heap), f ≤ x.ts.length → 0 ≤ k → k ≤ B → l.length + m ≤ x.ts.length → GrT 1 u (l.map iv) gu → ids ∉ dom gu →
    ACalls Try.prog 44 [.ptr ids 5 0 0, .int .i64 f] (gu ++ (ids, ⟨5, [.agg [.ip [.int .i64 x.n, .int .i64 x.m, .snap 3 (x.ts.map T.av)], u, .int .i64 (l.length + m : Nat), .int .i64 k, .int .i64 B]]⟩) :: h)
      (fun v h' => ∃ u' gu', v = .bool (scan x.gd B ((cb m (x.ts.length - f) f).map (l ++ ·)) k).1.isSome ∧ GrT 1 u' (((scan x.gd B ((cb m (x.ts.length - f) f).map (l ++ ·)) k).1.getD l).map iv) gu' ∧ ids ∉ dom gu' ∧
        h' = gu' ++ (ids, ⟨5, [.agg [.ip [.int .i64 x.n, .int .i64 x.m, .snap 3 (x.ts.map T.av)], u', .int .i64 (l.length + m : Nat), .int .i64 (scan x.gd B ((cb m (x.ts.length - f) f).map (l ++ ·)) k).2, .int .i64 B]]⟩) :: h) := by
  have hE := hv.2.2.2.2.2
  intro m
  induction m with
  | zero =>
    intro f l k u gu hf hk0 hkB hlm hg hid
    have hul := hg.len
    have huc := hg.cell
    simp only [List.length_map] at hul
    rw [cb_zero]
    simp only [List.map_cons, List.map_nil, List.append_nil, scan, Nat.add_zero]
    have hlv := Ph.less_valid hv l
    have hvec := Ph.pots_vec hlv
    have hlvv : Ph.valid ⟨(x.less l).n, (x.less l).m, (x.less l).ts⟩ := hlv
    obtain ⟨R, hR⟩ : ∃ R, R = fun (v : AV) (h' : Heap) => ∃ u' gu', v = .bool (if k + 1 > B ∨ x.gd l = true then (some l, k + 1) else (none, k + 1) : Option (List Int) × Int).1.isSome ∧ GrT 1 u' (((if k + 1 > B ∨ x.gd l = true then (some l, k + 1) else (none, k + 1) : Option (List Int) × Int).1.getD l).map iv) gu' ∧ ids ∉ dom gu' ∧
        h' = gu' ++ (ids, ⟨5, [.agg [.ip [.int .i64 x.n, .int .i64 x.m, .snap 3 (x.ts.map T.av)], u', .int .i64 (l.length : Nat), .int .i64 (if k + 1 > B ∨ x.gd l = true then (some l, k + 1) else (none, k + 1) : Option (List Int) × Int).2, .int .i64 B]]⟩) :: h := ⟨_, rfl⟩
    rw [← hR]
    refine k44_of rfl orcT2_p fun I => ?_
    have tail : ∀ sk, Run2 (k44_C (lk orcT2)) (.code k44_7 :: sk) [(0, .ptr ids 5 0 0), (5, .ip [.int .i64 (x.less l).n, .int .i64 (x.less l).m, .snap 3 ((x.less l).ts.map T.av)])] (gu ++ (ids, ⟨5, [.agg [.ip [.int .i64 x.n, .int .i64 x.m, .snap 3 (x.ts.map T.av)], u, .int .i64 (l.length : Nat), .int .i64 (k + 1), .int .i64 B]]⟩) :: h) (Post R) := by
      intro sk
      refine Run2.of I 1000 ?_
      simp -implicitDefEqProofs [hlv, hlvv, hvec, hget_app hid]
      first | refine dcallK (l23Forest_c (x.less l) _ hlv) ?_ | (refine (l23Forest_c (x.less l) _ hlv).mono ?_; rintro v h' ⟨rfl, rfl⟩; refine gK.go ?_)
      simp -implicitDefEqProofs [hlv, hlvv, hvec, hget_app hid]
      have hgd : x.gd l = decide ((x.less l).wr (x.less l).pots (x.less l).ts.length = []) := by
        unfold Ph.gd Ph.wrong
        rw [Bool.eq_iff_iff]; simp
      have fin : ∀ b : Bool, b = decide (k + 1 > B ∨ x.gd l = true) → R (.bool b) (gu ++ (ids, ⟨5, [.agg [.ip [.int .i64 x.n, .int .i64 x.m, .snap 3 (x.ts.map T.av)], u, .int .i64 (l.length : Nat), .int .i64 (k + 1), .int .i64 B]]⟩) :: h) := by
        rintro b rfl
        rw [hR]
        by_cases hc : k + 1 > B ∨ x.gd l = true
        · refine ⟨u, gu, ?_, ?_, hid, ?_⟩
          · rw [if_pos hc]; simp [hc]
          · rw [if_pos hc]; exact hg
          · rw [if_pos hc]
        · refine ⟨u, gu, ?_, ?_, hid, ?_⟩
          · rw [if_neg hc]; simp [hc]
          · rw [if_neg hc]; exact hg
          · rw [if_neg hc]
      refine ⟨fun h1 => .base (fin _ ?_), fun h1 => .base (fin _ ?_)⟩
      · rw [hgd]
        have : ¬ k + 1 > B := by omega
        simp [this]
      · have : k + 1 > B := by omega
        simp [this]
    refine Run2.of I 1000 ?_
    simp -implicitDefEqProofs [hget_app hid, hset_app hid, hul, huc]
    refine ⟨by omega, ?_, fun id i1 i2 i3 => ?_⟩
    · refine (less_c x hv hg _ (fun p hp => List.mem_append_left _ hp) (by omega)).mono ?_
      rintro v h' ⟨rfl, rfl⟩
      refine gK.go ?_
      simp -implicitDefEqProofs
      exact tail _
    · refine gK.go ?_
      simp -implicitDefEqProofs
      refine (less_c x hv hg _ (fun p hp => List.mem_cons_of_mem _ (List.mem_append_left _ hp)) (by omega)).mono ?_
      rintro v h' ⟨rfl, rfl⟩
      refine gK.go ?_
      simp -implicitDefEqProofs
      refine Run2.freezeS (e' := [(0, .ptr ids 5 0 0), (5, .ip [.int .i64 (x.less l).n, .int .i64 (x.less l).m, .snap 3 ((x.less l).ts.map T.av)])]) (h' := gu ++ (ids, ⟨5, [.agg [.ip [.int .i64 x.n, .int .i64 x.m, .snap 3 (x.ts.map T.av)], u, .int .i64 (l.length : Nat), .int .i64 (k + 1), .int .i64 B]]⟩) :: h) id (by simp [hget]; rfl) (by simp [hdel]) (fun p hp => .inl (by simpa [hdel] using hp)) (fun t => ?_) (tail _)
      simp only [eget]
      split
      · exact .inl rfl
      · split
        · right; simp [fz]
        · exact .inl rfl
  | succ m ihm =>
    intro f l k u gu hf hk0 hkB hlm hg hid
    obtain ⟨F, hF⟩ : ∃ F, F = scan x.gd B ((cb (m + 1) (x.ts.length - f) f).map (l ++ ·)) k := ⟨_, rfl⟩
    rw [← hF]
    obtain ⟨R, hR⟩ : ∃ R, R = fun (v : AV) (h' : Heap) => ∃ u' gu', v = .bool F.1.isSome ∧ GrT 1 u' ((F.1.getD l).map iv) gu' ∧ ids ∉ dom gu' ∧
        h' = gu' ++ (ids, ⟨5, [.agg [.ip [.int .i64 x.n, .int .i64 x.m, .snap 3 (x.ts.map T.av)], u', .int .i64 (l.length + (m + 1) : Nat), .int .i64 F.2, .int .i64 B]]⟩) :: h := ⟨_, rfl⟩
    rw [← hR]
    have hul := hg.len
    have huc := hg.cell
    simp only [List.length_map] at hul
    obtain ⟨S, hS⟩ : ∃ S : Nat, l.length + (m + 1) = S := ⟨_, rfl⟩
    rw [hS] at hR ⊢
    have hlS : ¬ (l.length : Int) = (S : Int) := by omega
    refine k44_of rfl orcT2_p fun I => ?_
    refine Run2.of I 1000 ?_
    simp -implicitDefEqProofs [hget_app hid, hset_app hid, hul, huc, hlS]
    refine Run2.loopE (α := Nat × Int × AV × Heap) (fun s => [(0, .ptr ids 5 0 0), (8, .int .i64 (s.1 : Nat))]) (fun s => s.2.2.2 ++ (ids, ⟨5, [.agg [.ip [.int .i64 x.n, .int .i64 x.m, .snap 3 (x.ts.map T.av)], s.2.2.1, .int .i64 S, .int .i64 s.2.1, .int .i64 B]]⟩) :: h) (fun s => x.ts.length - s.1)
      (fun s => s.1 ≤ x.ts.length ∧ 0 ≤ s.2.1 ∧ s.2.1 ≤ B ∧ F = scan x.gd B ((cb (m + 1) (x.ts.length - s.1) s.1).map (l ++ ·)) s.2.1 ∧ GrT 1 s.2.2.1 (l.map iv) s.2.2.2 ∧ ids ∉ dom s.2.2.2) (f, k, u, gu) (by simp) (by simp) ⟨hf, hk0, hkB, hF, hg, hid⟩ ?_
    clear hF hg hid hul huc hf hk0 hkB
    rintro ⟨i, k, u, gu⟩ ⟨hi, hk0, hkB, hF, hg, hid⟩ ih
    simp only at hi hk0 hkB hF hg hid ih ⊢
    have hul := hg.len
    have huc := hg.cell
    simp only [List.length_map] at hul
    by_cases hlt : i < x.ts.length
    · obtain ⟨d, hd⟩ : ∃ d, x.ts.length - i = d + 1 := ⟨x.ts.length - i - 1, by omega⟩
      have hd2 : x.ts.length - (i + 1) = d := by omega
      have hsp : (cb (m + 1) (x.ts.length - i) i).map (l ++ ·) = (cb m (x.ts.length - (i + 1)) (i + 1)).map ((l ++ [(i : Int)]) ++ ·) ++ (cb (m + 1) (x.ts.length - (i + 1)) (i + 1)).map (l ++ ·) := by
        rw [hd, cb_succ, hd2, List.map_append, List.map_map]
        congr 1
        apply List.map_congr_left
        intro w _
        simp
      rw [hsp, scan_app] at hF
      have go := fun k' u' gu' a b c d e => ih (i + 1, k', u', gu') ⟨by simp; omega, a, b, c, d, e⟩ (by simp; omega)
      clear ih hsp
      refine Run2.of I 1000 ?_
      simp -implicitDefEqProofs [hlt, hget_app hid, hset_app hid, hul, huc]
      refine GrT.app hg (by simp; omega) (by simp) fun w' gu' hg' hf' => ?_
      have hid' : ids ∉ dom gu' := fun e => hf' ids e (by simp [dom])
      have hwc := hg'.cell
      simp -implicitDefEqProofs [hget_app hid', hset_app hid', hwc, cells_of hwc, stor_of hwc]
      have hgt : GrT 1 w' ((l ++ [(i : Int)]).map iv) gu' := by simpa using hg'.t
      have hcall := ihm (i + 1) (l ++ [(i : Int)]) k w' gu' (by omega) hk0 hkB (by simp; omega) hgt hid'
      rw [show (l ++ [(i : Int)]).length + m = S by simp; omega] at hcall
      refine ⟨by omega, ?_⟩
      rw [show ((i : Int) + 1) = ((i + 1 : Nat) : Int) by omega]
      refine hcall.mono ?_
      clear hcall hgt hwc hid' hg' hf'
      generalize hsc : scan x.gd B ((cb m (x.ts.length - (i + 1)) (i + 1)).map ((l ++ [(i : Int)]) ++ ·)) k = G at hF ⊢
      obtain ⟨o, k'⟩ := G
      rintro v h' ⟨u', gu', rfl, hg', hid', rfl⟩
      have huc' := hg'.cell
      cases o with
      | some w =>
        simp only at hF
        refine gK.go ?_
        simp -implicitDefEqProofs
        refine .base ?_
        rw [hR, hF]
        exact ⟨u', gu', rfl, hg', hid', rfl⟩
      | none =>
        simp only at hF
        obtain ⟨n1, n2⟩ := scan_none hkB hsc
        have hg2 : GrT 1 u' ((l ++ [(i : Int)]).map iv) gu' := hg'
        generalize hLL : (l ++ [(i : Int)]).map iv = LL at hg2
        cases hg2 with
        | nil => simp at hLL
        | emp => simp at hLL
        | sl idl _ ex nn hnn =>
          obtain rfl : nn = l.length + 1 := by rw [hnn, ← hLL]; simp
          subst hLL
          have hgo := go k' (.sl idl 1 0 l.length none) [(idl, ⟨1, (l ++ [(i : Int)]).map iv ++ ex⟩)] (by simp only; omega) n2 hF (by have := GrT.sl (sz := 1) idl (l.map iv) (iv i :: ex) l.length (by simp); simpa using this) hid'
          have hne : ¬ idl = ids := fun e => hid' (by simp [dom, e])
          refine gK.go ?_
          simp -implicitDefEqProofs [hne]
          exact ⟨by omega, by omega, by omega, by simpa using hgo⟩
    · obtain rfl : i = x.ts.length := by omega
      rw [Nat.sub_self, cb_end] at hF
      refine Run2.of I 1000 ?_
      simp -implicitDefEqProofs [hget_app hid]
      refine .base ?_
      rw [hR, hF]
      exact ⟨u, gu, rfl, hg, hid, rfl⟩
theorem own_l {u : AV} {l : List Int} {gu : Heap} (hg : GrT 1 u (l.map iv) gu) (H : Heap) (hs : ∀ p ∈ gu, p ∈ H) (hl : l.length ≤ 24) : ACalls Try.prog 45 [u] H (fun v h' => v = .snap 1 (l.map iv) ∧ h' = H) := by
  refine ACalls.post ((ACalls.gives gu hs (S := fun v h' => Grow 1 v (l.map iv) h') ?_ ?_).mono ?_)
  · rw [lend_cons, lend_nil']
    refine ACalls.wk (.cons hg.lent.wk .nil) ?_
    exact (l00Own_w l [] (by omega)).mono fun v h' ⟨hp, hg, e⟩ => by rw [List.append_nil] at e; subst e; exact hg
  · intro v h' hw
    exact (Grow.own (enc := iv) hw).own own_iv1
  · rintro v h'' ⟨h', hw, _, rfl⟩
    exact Grow.froze hw (fun v => v) (fun _ _ _ => rfl) (fun _ _ h => h) (.base ⟨rfl, rfl⟩)
abbrev k14_o0 : List AJ := [.o ⟨(some 2), none, false, .box false 3 (.t 0), none⟩, .o ⟨(some 4), none, false, .mv (.c .nilsl), none⟩, .o ⟨(some 5), none, false, .mv (.c (.int .i64 0)), (some [1, 2])⟩]
abbrev k14_o1 : List AJ := [.o ⟨(some 7), none, false, .call 40 [(.t 2)], none⟩, .o ⟨(some 8), none, false, .un .not (.t 7), (some [1, 2, 8])⟩]
abbrev k14_o2 : List AJ := [.o ⟨(some 4), none, false, .mv (.c .nilsl), none⟩, .o ⟨(some 5), none, false, .mv (.c (.int .i64 1)), (some [4, 5])⟩]
def k14_3 : ACode := .seq (.region k14_o2) .ret
def k14_4 : ACode := .cond (.t 8) k14_3 .skip
def k14_5 : ACode := .seq (.region k14_o1) k14_4
abbrev k14_o3 : List AJ := [.o ⟨(some 9), none, false, .mv (.t 1), none⟩, .o ⟨(some 10), none, false, .call 41 [(.t 9), (.c (.int .i64 1)), (.c (.int .i64 20000))], none⟩, .o ⟨(some 11), none, false, .un .not (.t 10), (some [1, 2, 11])⟩]
abbrev k14_o4 : List AJ := [.o ⟨(some 4), none, false, .mv (.c .nilsl), none⟩, .o ⟨(some 5), none, false, .mv (.c (.int .i64 2)), (some [4, 5])⟩]
def k14_8 : ACode := .seq (.region k14_o4) .ret
def k14_9 : ACode := .cond (.t 11) k14_8 .skip
def k14_10 : ACode := .seq (.region k14_o3) k14_9
abbrev k14_o5 : List AJ := [.o ⟨(some 12), none, false, .mv (.t 1), none⟩, .o ⟨(some 13), none, false, .build [.nilp, .nilsl, (.int .i64 0), (.int .i64 0), (.int .i64 0)] [(0, 1, (.t 2)), (4, 1, (.t 12))], none⟩, .o ⟨(some 14), none, false, .box true 5 (.t 13), none⟩, .o ⟨(some 6), none, false, .mv (.t 14), (some [1, 6])⟩]
abbrev k14_o6 : List AJ := [.o ⟨(some 15), none, false, .mv (.t 6), none⟩, .o ⟨(some 16), none, false, .call 44 [(.t 15), (.c (.int .i64 0))], none⟩, .o ⟨(some 17), none, false, .un .not (.t 16), (some [1, 6, 17])⟩]
def k14_13 : ACode := .cond (.t 17) .skip (.exit 0)
def k14_14 : ACode := .seq (.region k14_o6) k14_13
abbrev k14_o7 : List AJ := [.o ⟨(some 18), none, false, .mv (.t 6), none⟩, .o ⟨(some 19), none, false, .nilchk (.t 18), none⟩, .o ⟨(some 20), none, false, .fieldA 2 (.t 19), none⟩, .o ⟨(some 21), none, false, .load 1 false (.t 20), none⟩, .o ⟨(some 22), none, true, .bin .add (.t 21) (.c (.int .i64 1)), none⟩, .o ⟨(some 23), none, false, .nilchk (.t 18), none⟩, .o ⟨(some 24), none, false, .fieldA 2 (.t 23), none⟩, .o ⟨none, none, false, .store 1 (.t 24) (.t 22), (some [1, 6])⟩]
abbrev k14_o8 : List AJ := [.o ⟨(some 25), none, false, .mv (.t 6), none⟩, .e 26 1 none, .o ⟨(some 27), none, false, .nilchk (.t 25), none⟩, .o ⟨(some 28), none, false, .fieldA 1 (.t 27), none⟩, .o ⟨none, none, false, .store 1 (.t 28) (.t 26), (some [1, 6])⟩]
def k14_16 : ACode := .region k14_o8
def k14_17 : ACode := .seq (.region k14_o7) k14_16
def k14_18 : ACode := .block 1 k14_17
def k14_19 : ACode := .seq k14_14 k14_18
def k14_20 : ACode := .loop k14_19
abbrev k14_o9 : List AJ := [.o ⟨(some 29), none, false, .mv (.t 6), none⟩, .o ⟨(some 30), none, false, .nilchk (.t 29), none⟩, .o ⟨(some 31), none, false, .fieldA 3 (.t 30), none⟩, .o ⟨(some 32), none, false, .load 1 false (.t 31), none⟩, .o ⟨(some 33), none, false, .mv (.t 1), none⟩, .o ⟨(some 34), none, false, .bin .gtr (.t 32) (.t 33), (some [6, 34])⟩]
abbrev k14_o10 : List AJ := [.o ⟨(some 4), none, false, .mv (.c .nilsl), none⟩, .o ⟨(some 5), none, false, .mv (.c (.int .i64 5)), (some [4, 5])⟩]
def k14_24 : ACode := .seq (.region k14_o10) .ret
def k14_25 : ACode := .cond (.t 34) k14_24 .skip
def k14_26 : ACode := .seq (.region k14_o9) k14_25
abbrev k14_o11 : List AJ := [.o ⟨(some 35), none, false, .mv (.t 6), none⟩, .o ⟨(some 36), none, false, .nilchk (.t 35), none⟩, .o ⟨(some 37), none, false, .fieldA 1 (.t 36), none⟩, .o ⟨(some 38), none, false, .load 1 false (.t 37), none⟩, .o ⟨(some 39), none, false, .call 45 [(.t 38)], none⟩, .o ⟨(some 4), none, false, .mv (.t 39), none⟩, .o ⟨(some 5), none, false, .mv (.c (.int .i64 0)), (some [4, 5])⟩]
def k14_28 : ACode := .seq (.region k14_o11) .ret
def k14_29 : ACode := .seq k14_26 k14_28
def k14_30 : ACode := .seq (.block 0 k14_20) k14_29
def k14_31 : ACode := .seq (.region k14_o5) k14_30
def k14_32 : ACode := .seq k14_10 k14_31
def k14_33 : ACode := .seq k14_5 k14_32
def k14_34 : ACode := .seq (.region k14_o0) k14_33
@[simp, simp ↓] theorem k14_3r : sR k14_3 k14_o2 .ret := yR rfl
@[simp, simp ↓] theorem k14_4r : rC k14_4 (.t 8) k14_3 .skip := zC rfl
@[simp, simp ↓] theorem k14_5r : sR k14_5 k14_o1 k14_4 := yR rfl
@[simp, simp ↓] theorem k14_8r : sR k14_8 k14_o4 .ret := yR rfl
@[simp, simp ↓] theorem k14_9r : rC k14_9 (.t 11) k14_8 .skip := zC rfl
@[simp, simp ↓] theorem k14_10r : sR k14_10 k14_o3 k14_9 := yR rfl
@[simp, simp ↓] theorem k14_13r : rC k14_13 (.t 17) .skip (.exit 0) := zC rfl
@[simp, simp ↓] theorem k14_14r : sR k14_14 k14_o6 k14_13 := yR rfl
@[simp, simp ↓] theorem k14_16r : rR k14_16 k14_o8 := zR rfl
@[simp, simp ↓] theorem k14_17r : sR k14_17 k14_o7 k14_16 := yR rfl
@[simp, simp ↓] theorem k14_18r : rB k14_18 1 k14_17 := zB rfl
@[simp, simp ↓] theorem k14_19r : rS k14_19 k14_14 k14_18 := zS rfl
@[simp, simp ↓] theorem k14_20r : rL k14_20 k14_19 := zL rfl
@[simp, simp ↓] theorem k14_24r : sR k14_24 k14_o10 .ret := yR rfl
@[simp, simp ↓] theorem k14_25r : rC k14_25 (.t 34) k14_24 .skip := zC rfl
@[simp, simp ↓] theorem k14_26r : sR k14_26 k14_o9 k14_25 := yR rfl
@[simp, simp ↓] theorem k14_28r : sR k14_28 k14_o11 .ret := yR rfl
@[simp, simp ↓] theorem k14_29r : rS k14_29 k14_26 k14_28 := zS rfl
@[simp, simp ↓] theorem k14_30r : sB k14_30 0 k14_20 k14_29 := yB rfl
@[simp, simp ↓] theorem k14_31r : sR k14_31 k14_o5 k14_30 := yR rfl
@[simp, simp ↓] theorem k14_32r : rS k14_32 k14_10 k14_31 := zS rfl
@[simp, simp ↓] theorem k14_33r : rS k14_33 k14_5 k14_32 := zS rfl
@[simp, simp ↓] theorem k14_34r : sR k14_34 k14_o0 k14_33 := yR rfl
noncomputable abbrev k14_C : Orc → Cx := mkC Try.prog [14, 26] 14 40 [.tmp 4, .tmp 5]
theorem k14_of : OfP Try.prog Try.f14 14 40 k14_C k14_34 := @ofP _ _ _ _ _ _ _ _ Try.func14 (by decide +kernel) rfl (by kernel_rfl) rfl (by kernel_rfl)
theorem specDrops_c (x : Ph) (B : Int) (h : Heap) (ok : x.ok) (hl : x.ts.length ≤ 1048576) : ACalls Try.prog 14 [x.av, .int .i64 B] h (fun v h' => v = .tup [.snap 1 ((x.dres B).map iv), .int .i64 (x.dcode B)] ∧ h' = h) := by
  refine k14_of rfl orcT2_p fun I => ?_
  refine Run2.of I 1000 ?_
  simp -implicitDefEqProofs [ok, hl]
  refine ⟨fun hv => .wk (.tup (.cons (.nil 1) (.cons (.refl _) .nil))) (.base ?_), fun hv => ⟨fun hb => .wk (.tup (.cons (.nil 1) (.cons (.refl _) .nil))) (.base ?_), fun hb1 hb2 ids hid => ?_⟩⟩
  · simp [Ph.dres, Ph.dcode, hv]
  · have hb' : ¬ (1 ≤ B ∧ B ≤ 20000) := by omega
    have e1 : x.dres B = [] := if_neg fun h => hb' ⟨h.2.1, h.2.2.1⟩
    have e2 : x.dcode B = 2 := by simp [Ph.dcode, hv, hb']
    rw [e1, e2]
    exact ⟨rfl, rfl⟩
  have hE := hv.2.2.2.2.2
  have hds : x.dscan B = scan x.gd B (tot x.ts.length 0) 0 := rfl
  have hres : ∀ (w : List Int) (k : Int), x.dscan B = (some w, k) → (¬ k > B → x.dres B = w ∧ x.dcode B = 0) ∧ (k > B → x.dres B = [] ∧ x.dcode B = 5) := fun w k e => by
    unfold Ph.dres Ph.dcode
    rw [e]
    exact ⟨fun h => ⟨by rw [if_pos ⟨hv, hb1, hb2, h⟩]; rfl, by rw [if_pos hv, if_pos ⟨hb1, hb2⟩, if_neg h]⟩, fun h => ⟨if_neg fun g => g.2.2.2 h, by rw [if_pos hv, if_pos ⟨hb1, hb2⟩, if_pos h]⟩⟩
  obtain ⟨w0, k0, hw0⟩ := scan_tot (B := B) x.gd_all x.ts.length 0 0 rfl (Nat.zero_le _)
  refine Run2.loopE (α := Nat × Int × AV × Heap) (fun s => [(1, .int .i64 B), (6, .ptr ids 5 0 0)]) (fun s => s.2.2.2 ++ (ids, ⟨5, [.agg [.ip [.int .i64 x.n, .int .i64 x.m, .snap 3 (x.ts.map T.av)], s.2.2.1, .int .i64 (s.1 : Nat), .int .i64 s.2.1, .int .i64 B]]⟩) :: h) (fun s => x.ts.length - s.1)
    (fun s => s.1 ≤ x.ts.length ∧ 0 ≤ s.2.1 ∧ s.2.1 ≤ B ∧ x.dscan B = scan x.gd B (tot x.ts.length s.1) s.2.1 ∧ GrT 1 s.2.2.1 (([] : List Int).map iv) s.2.2.2 ∧ ids ∉ dom s.2.2.2) (0, 0, .nilsl, []) (by simp) (by simp) ⟨Nat.zero_le _, by simp, by simp; omega, hds, .nil, by simp [dom]⟩ ?_
  rintro ⟨n, k, u, gu⟩ ⟨hn, hk0, hkB, hF, hg, hig⟩ ih
  simp only at hn hk0 hkB hF hg hig ih ⊢
  have hcall := try_w x hv B ⟨hb1, hb2⟩ ids h n 0 [] k u gu (Nat.zero_le _) hk0 hkB (by simp; omega) hg hig
  simp only [List.length_nil, Nat.zero_add, List.nil_append, List.map_id', Nat.sub_zero] at hcall
  rw [tot_step hn, scan_app] at hF
  have go := fun k' u' gu' a b c d e f => ih (n + 1, k', u', gu') ⟨a, b, c, d, e, f⟩ (by simp; omega)
  clear ih
  refine Run2.of I 1000 ?_
  simp -implicitDefEqProofs
  refine hcall.mono ?_
  clear hcall
  generalize hsc : scan x.gd B (cb n x.ts.length 0) k = G at hF ⊢
  obtain ⟨o, k'⟩ := G
  rintro v h' ⟨u', gu', rfl, hg', hid', rfl⟩
  have huc' := hg'.cell
  cases o with
  | some w =>
    simp only at hF
    have hg2 : GrT 1 u' (w.map iv) gu' := hg'
    have hwl := cb_len _ _ _ w (scan_mem hsc)
    refine gK.go ?_
    simp -implicitDefEqProofs [hget_app hid']
    obtain ⟨r1, r2⟩ := hres w k' hF
    have hH : ∀ b : Blk, gu' ++ (ids, b) :: h = (gu' ++ [(ids, b)]) ++ h := fun b => by simp
    refine ⟨fun h1 => ?_, fun h1 => ?_⟩
    · obtain ⟨r3, r4⟩ := r2 (by omega)
      refine .wk (.tup (.cons (.nil 1) (.cons (.refl _) .nil))) ?_
      rw [hH]
      refine Post.dropAll (by simp [cold, colds]) (.base ?_)
      rw [r3, r4]
      exact ⟨rfl, rfl⟩
    · obtain ⟨r3, r4⟩ := r1 (by omega)
      refine (own_l hg2 _ (fun p hp => List.mem_append_left _ hp) (by omega)).mono ?_
      rintro v h'' ⟨rfl, rfl⟩
      refine gK.go ?_
      simp -implicitDefEqProofs
      rw [hH]
      refine Post.dropAll (by simp [cold, colds]) (.base ?_)
      rw [r3, r4]
      exact ⟨rfl, rfl⟩
  | none =>
    simp only at hF
    obtain ⟨n1, n2⟩ := scan_none hkB hsc
    refine gK.go ?_
    simp -implicitDefEqProofs [hget_app hid', hset_app hid']
    have hnE : n < x.ts.length := by
      rcases Nat.lt_or_ge n x.ts.length with h1 | h1
      · exact h1
      · exfalso
        obtain rfl : n = x.ts.length := by omega
        rw [tot_end] at hF
        rw [← hds, hF] at hw0
        simp only [scan] at hw0
        cases hw0
    have := go k' .emp [] (by simp only; omega) (by simp only; omega) (by simp only; omega) hF .emp (by simp [dom])
    refine ⟨by omega, Run2.sub (h' := (ids, ⟨5, [.agg [.ip [.int .i64 x.n, .int .i64 x.m, .snap 3 (x.ts.map T.av)], .emp, .int .i64 ((n : Int) + 1), .int .i64 k', .int .i64 B]]⟩) :: h) (fun p hp => List.mem_append_right _ hp) (fun nd => by rw [dom_app] at nd; exact (List.nodup_append.1 nd).2.1) ?_⟩
    simpa using this
theorem Ph.dres_len (x : Ph) (B : Int) : (x.dres B).length ≤ 24 := by
  unfold Ph.dres
  split
  · rename_i h
    have hE := h.1.2.2.2.2.2
    cases hw : x.dscan B with
    | mk o k =>
      cases o with
      | none => simp
      | some w =>
        have hm := scan_mem (show scan x.gd B (tot x.ts.length 0) 0 = (some w, k) from hw)
        unfold tot at hm
        obtain ⟨m, hm1, hm2⟩ := List.mem_flatMap.1 hm
        have := cb_len _ _ _ w hm2
        have h2 := List.mem_range'.1 hm1
        simp only [Option.getD_some]
        omega
  · simp
end Go.AG
