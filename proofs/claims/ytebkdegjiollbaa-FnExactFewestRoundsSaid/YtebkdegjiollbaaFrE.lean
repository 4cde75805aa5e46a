/- The fewest rounds, as the reference finds them. No statement is made here. -/
import Derived.Test.YtebkdegjiollbaaFrD
namespace Go.AG
open Go.Proofs Go.Proofs.Ytebkdegjiollbaa
set_option linter.unusedSimpArgs false
set_option linter.unusedVariables false
set_option maxRecDepth 4000
abbrev k47_o0 : List AJ := [.o ⟨(some 2), none, false, .mv (.c .nilsl), (some [0])⟩]
abbrev k47_o1 : List AJ := [.e 3 1 none, .o ⟨(some 4), none, false, .mv (.t 0), none⟩, .o ⟨(some 5), none, false, .append 1 8 (.t 3) (.t 4), none⟩, .o ⟨(some 2), none, false, .mv (.t 5), (some [2])⟩]
def k47_2 : ACode := .seq (.region k47_o1) .ret
def k47_3 : ACode := .seq (.region k47_o0) k47_2
@[simp, simp ↓] theorem k47_2r : sR k47_2 k47_o1 .ret := yR rfl
@[simp, simp ↓] theorem k47_3r : sR k47_3 k47_o0 k47_2 := yR rfl
noncomputable abbrev k47_C : Orc → Cx := mkC Try.prog [3] 47 6 [.tmp 2]
theorem k47_of0 : OfP0 Try.prog Try.f47 47 6 k47_C k47_3 := @ofP0 _ _ _ _ _ _ _ _ Try.func47 (by decide +kernel) rfl (by kernel_rfl) rfl (by kernel_rfl)
theorem l00Own_f (l : List Int) (h : Heap) (hl : l.length ≤ 1048576) : ACalls Try.prog 47 [.snap 1 (l.map iv)] h (fun v h' => ∃ hp, Grow 1 v (l.map iv) hp ∧ h' = hp ++ h) := by
  refine k47_of0 rfl noPure fun I => ?_
  cases l with
  | nil =>
    refine Run2.of I 1000 ?_
    simp -implicitDefEqProofs
    exact .emp
  | cons a l =>
    refine Run2.of I 1000 ?_
    simp -implicitDefEqProofs
    refine ⟨by simp at hl; omega, fun id hid => ⟨[(id, _)], .sl id _ _ (by simp), rfl⟩⟩
theorem own_f {u : AV} {l : List Int} {gu : Heap} (hg : GrT 1 u (l.map iv) gu) (H : Heap) (hs : ∀ p ∈ gu, p ∈ H) (hl : l.length ≤ 24) : ACalls Try.prog 47 [u] H (fun v h' => v = .snap 1 (l.map iv) ∧ h' = H) := by
  refine ACalls.post ((ACalls.gives gu hs (S := fun v h' => Grow 1 v (l.map iv) h') ?_ ?_).mono ?_)
  · rw [lend_cons, lend_nil']
    refine ACalls.wk (.cons hg.lent.wk .nil) ?_
    exact (l00Own_f l [] (by omega)).mono fun v h' ⟨hp, hg, e⟩ => by rw [List.append_nil] at e; subst e; exact hg
  · intro v h' hw
    exact (Grow.own (enc := iv) hw).own own_iv1
  · rintro v h'' ⟨h', hw, _, rfl⟩
    exact Grow.froze hw (fun v => v) (fun _ _ _ => rfl) (fun _ _ h => h) (.base ⟨rfl, rfl⟩)
theorem GtLs.at {us : List AV} {rs : List (List Int)} {hp : Heap} (o : GtLs us rs hp) {i : Nat} (hi : i < rs.length) : ∃ (hu : i < us.length) (g : Heap), GrT 1 us[i] (rs[i].map iv) g ∧ ∀ p ∈ g, p ∈ hp := by
  obtain ⟨hu, h1, g, h2, rfl, o1, o2, o3⟩ := o.split hi
  exact ⟨hu, g, o2, fun p hp => by simp [hp]⟩
noncomputable def orcFr3 : List (Nat × (List AV → Option (Prop × AV))) := (44, o_l16Ok) :: (45, o_l00In) :: []
theorem orcFr3_p : Pure Try.prog (lk orcFr3) := (lk_pure o_l16Ok_k (lk_pure o_l00In_k lk_pure0))
@[simp] theorem orcFr3_l (b : Bool) (g : FuncId) (l : List AV) : lk orcFr3 b g l = if g = 44 then o_l16Ok l else if g = 45 then o_l00In l else none := nr rfl
abbrev k9_o0 : List AJ := [.o ⟨(some 2), none, false, .box false 2 (.t 0), none⟩, .o ⟨(some 4), none, false, .mv (.c .nilsl), none⟩, .o ⟨(some 5), none, false, .mv (.c (.int .i64 0)), (some [1, 2])⟩]
abbrev k9_o1 : List AJ := [.o ⟨(some 9), none, false, .call 44 [(.t 2)], none⟩, .o ⟨(some 10), none, false, .un .not (.t 9), (some [1, 2, 10])⟩]
abbrev k9_o2 : List AJ := [.o ⟨(some 4), none, false, .mv (.c .nilsl), none⟩, .o ⟨(some 5), none, false, .mv (.c (.int .i64 1)), (some [4, 5])⟩]
def k9_3 : ACode := .seq (.region k9_o2) .ret
def k9_4 : ACode := .cond (.t 10) k9_3 .skip
def k9_5 : ACode := .seq (.region k9_o1) k9_4
abbrev k9_o3 : List AJ := [.o ⟨(some 11), none, false, .mv (.t 1), none⟩, .o ⟨(some 12), none, false, .call 45 [(.t 11), (.c (.int .i64 1)), (.c (.int .i64 20000))], none⟩, .o ⟨(some 13), none, false, .un .not (.t 12), (some [1, 2, 13])⟩]
abbrev k9_o4 : List AJ := [.o ⟨(some 4), none, false, .mv (.c .nilsl), none⟩, .o ⟨(some 5), none, false, .mv (.c (.int .i64 2)), (some [4, 5])⟩]
def k9_8 : ACode := .seq (.region k9_o4) .ret
def k9_9 : ACode := .cond (.t 13) k9_8 .skip
def k9_10 : ACode := .seq (.region k9_o3) k9_9
abbrev k9_o5 : List AJ := [.o ⟨(some 14), none, false, .mv (.t 1), none⟩, .o ⟨(some 15), none, false, .build [.nilp, (.int .i64 0), .nilsl, (.int .i64 0), (.int .i64 0), (.bool false)] [(0, 1, (.t 2)), (4, 1, (.t 14))], none⟩, .o ⟨(some 16), none, false, .box true 6 (.t 15), none⟩, .o ⟨(some 6), none, false, .mv (.t 16), (some [2, 6])⟩]
abbrev k9_o6 : List AJ := [.o ⟨(some 17), none, false, .mv (.t 6), none⟩, .o ⟨(some 18), none, false, .nilchk (.t 17), none⟩, .o ⟨(some 19), none, false, .fieldA 1 (.t 18), none⟩, .o ⟨none, none, false, .store 1 (.t 19) (.c (.int .i64 0)), (some [2, 6])⟩]
abbrev k9_o7 : List AI := [⟨(some 20), none, false, .mv (.t 6), none⟩, ⟨(some 21), none, false, .nilchk (.t 20), none⟩, ⟨(some 22), none, false, .fieldA 1 (.t 21), none⟩, ⟨(some 23), none, false, .load 1 false (.t 22), none⟩, ⟨(some 24), none, false, .fieldA 1 (.t 2), none⟩, ⟨(some 25), none, false, .load 1 false (.t 24), none⟩, ⟨(some 26), none, false, .len (.t 25), none⟩, ⟨(some 27), none, false, .bin .leq (.t 23) (.t 26), (some [2, 6, 27])⟩]
def k9_14 : ACode := .cond (.t 27) .skip (.exit 0)
def k9_15 : ACode := .seq (.draw k9_o7 [] rfl) k9_14
abbrev k9_o8 : List AJ := [.o ⟨(some 35), none, false, .mv (.t 6), none⟩, .o ⟨(some 36), none, false, .call 46 [(.t 35), (.c (.int .i64 0))], (some [2, 6, 36])⟩]
abbrev k9_o9 : List AJ := [.e 37 1 none, .o ⟨(some 7), none, false, .mv (.t 37), (some [6, 7])⟩]
abbrev k9_o10 : List AJ := [.o ⟨(some 8), none, false, .mv (.c (.int .i64 0)), (some [6, 7, 8])⟩]
abbrev k9_o11 : List AJ := [.o ⟨(some 38), none, false, .mv (.t 8), none⟩, .o ⟨(some 39), none, false, .mv (.t 6), none⟩, .o ⟨(some 40), none, false, .nilchk (.t 39), none⟩, .o ⟨(some 41), none, false, .fieldA 2 (.t 40), none⟩, .o ⟨(some 42), none, false, .load 1 false (.t 41), none⟩, .o ⟨(some 43), none, false, .len (.t 42), none⟩, .o ⟨(some 44), none, false, .bin .lss (.t 38) (.t 43), (some [6, 7, 8, 44])⟩]
def k9_20 : ACode := .cond (.t 44) .skip (.exit 2)
def k9_21 : ACode := .seq (.region k9_o11) k9_20
abbrev k9_o12 : List AJ := [.o ⟨(some 47), none, false, .mv (.t 7), none⟩, .o ⟨(some 48), none, false, .mv (.t 6), none⟩, .o ⟨(some 49), none, false, .nilchk (.t 48), none⟩, .o ⟨(some 50), none, false, .fieldA 2 (.t 49), none⟩, .o ⟨(some 51), none, false, .load 1 false (.t 50), none⟩, .o ⟨(some 52), none, false, .mv (.t 8), none⟩, .o ⟨(some 53), none, false, .idxA 1 (.t 51) (.t 52), none⟩, .o ⟨(some 54), none, false, .load 1 false (.t 53), none⟩, .o ⟨(some 55), none, false, .call 47 [(.t 54)], none⟩, .o ⟨(some 56), none, false, .bsl false 1 [(.t 55)], none⟩, .o ⟨(some 57), none, false, .append 1 24 (.t 47) (.t 56), none⟩, .o ⟨(some 7), none, false, .mv (.t 57), (some [6, 7, 8])⟩]
def k9_22 : ACode := .region k9_o12
abbrev k9_o13 : List AJ := [.o ⟨(some 45), none, false, .mv (.t 8), none⟩, .o ⟨(some 46), none, true, .bin .add (.t 45) (.c (.int .i64 1)), none⟩, .o ⟨(some 8), none, false, .mv (.t 46), (some [6, 7, 8])⟩]
def k9_24 : ACode := .region k9_o13
def k9_25 : ACode := .seq (.block 3 k9_22) k9_24
def k9_26 : ACode := .seq k9_21 k9_25
def k9_27 : ACode := .loop k9_26
def k9_28 : ACode := .block 2 k9_27
def k9_29 : ACode := .seq (.region k9_o10) k9_28
abbrev k9_o14 : List AJ := [.o ⟨(some 58), none, false, .mv (.t 7), none⟩, .o ⟨(some 4), none, false, .mv (.t 58), none⟩, .o ⟨(some 5), none, false, .mv (.c (.int .i64 0)), (some [4, 5])⟩]
def k9_31 : ACode := .seq (.region k9_o14) .ret
def k9_32 : ACode := .seq k9_29 k9_31
def k9_33 : ACode := .seq (.region k9_o9) k9_32
def k9_34 : ACode := .cond (.t 36) k9_33 .skip
def k9_35 : ACode := .seq (.region k9_o8) k9_34
abbrev k9_o15 : List AJ := [.o ⟨(some 59), none, false, .mv (.t 6), none⟩, .o ⟨(some 60), none, false, .nilchk (.t 59), none⟩, .o ⟨(some 61), none, false, .fieldA 5 (.t 60), none⟩, .o ⟨(some 62), none, false, .load 1 false (.t 61), (some [2, 6, 62])⟩]
def k9_37 : ACode := .cond (.t 62) (.exit 0) .skip
def k9_38 : ACode := .seq (.region k9_o15) k9_37
def k9_39 : ACode := .seq k9_35 k9_38
abbrev k9_o16 : List AJ := [.o ⟨(some 28), none, false, .mv (.t 6), none⟩, .o ⟨(some 29), none, false, .nilchk (.t 28), none⟩, .o ⟨(some 30), none, false, .fieldA 1 (.t 29), none⟩, .o ⟨(some 31), none, false, .load 1 false (.t 30), none⟩, .o ⟨(some 32), none, true, .bin .add (.t 31) (.c (.int .i64 1)), none⟩, .o ⟨(some 33), none, false, .nilchk (.t 28), none⟩, .o ⟨(some 34), none, false, .fieldA 1 (.t 33), none⟩, .o ⟨none, none, false, .store 1 (.t 34) (.t 32), (some [2, 6])⟩]
def k9_41 : ACode := .region k9_o16
def k9_42 : ACode := .seq (.block 1 k9_39) k9_41
def k9_43 : ACode := .seq k9_15 k9_42
def k9_44 : ACode := .loop k9_43
def k9_45 : ACode := .block 0 k9_44
def k9_46 : ACode := .seq (.region k9_o6) k9_45
abbrev k9_o17 : List AJ := [.o ⟨(some 4), none, false, .mv (.c .nilsl), none⟩, .o ⟨(some 5), none, false, .mv (.c (.int .i64 5)), (some [4, 5])⟩]
def k9_48 : ACode := .seq (.region k9_o17) .ret
def k9_49 : ACode := .seq k9_46 k9_48
def k9_50 : ACode := .seq (.region k9_o5) k9_49
def k9_51 : ACode := .seq k9_10 k9_50
def k9_52 : ACode := .seq k9_5 k9_51
def k9_53 : ACode := .seq (.region k9_o0) k9_52
@[simp, simp ↓] theorem k9_3r : sR k9_3 k9_o2 .ret := yR rfl
@[simp, simp ↓] theorem k9_4r : rC k9_4 (.t 10) k9_3 .skip := zC rfl
@[simp, simp ↓] theorem k9_5r : sR k9_5 k9_o1 k9_4 := yR rfl
@[simp, simp ↓] theorem k9_8r : sR k9_8 k9_o4 .ret := yR rfl
@[simp, simp ↓] theorem k9_9r : rC k9_9 (.t 13) k9_8 .skip := zC rfl
@[simp, simp ↓] theorem k9_10r : sR k9_10 k9_o3 k9_9 := yR rfl
@[simp, simp ↓] theorem k9_14r : rC k9_14 (.t 27) .skip (.exit 0) := zC rfl
@[simp, simp ↓] theorem k9_15r : sD k9_15 k9_o7 [] k9_14 := yD rfl
@[simp, simp ↓] theorem k9_20r : rC k9_20 (.t 44) .skip (.exit 2) := zC rfl
@[simp, simp ↓] theorem k9_21r : sR k9_21 k9_o11 k9_20 := yR rfl
@[simp, simp ↓] theorem k9_22r : rR k9_22 k9_o12 := zR rfl
@[simp, simp ↓] theorem k9_24r : rR k9_24 k9_o13 := zR rfl
@[simp, simp ↓] theorem k9_25r : sB k9_25 3 k9_22 k9_24 := yB rfl
@[simp, simp ↓] theorem k9_26r : rS k9_26 k9_21 k9_25 := zS rfl
@[simp, simp ↓] theorem k9_27r : rL k9_27 k9_26 := zL rfl
@[simp, simp ↓] theorem k9_28r : rB k9_28 2 k9_27 := zB rfl
@[simp, simp ↓] theorem k9_29r : sR k9_29 k9_o10 k9_28 := yR rfl
@[simp, simp ↓] theorem k9_31r : sR k9_31 k9_o14 .ret := yR rfl
@[simp, simp ↓] theorem k9_32r : rS k9_32 k9_29 k9_31 := zS rfl
@[simp, simp ↓] theorem k9_33r : sR k9_33 k9_o9 k9_32 := yR rfl
@[simp, simp ↓] theorem k9_34r : rC k9_34 (.t 36) k9_33 .skip := zC rfl
@[simp, simp ↓] theorem k9_35r : sR k9_35 k9_o8 k9_34 := yR rfl
@[simp, simp ↓] theorem k9_37r : rC k9_37 (.t 62) (.exit 0) .skip := zC rfl
@[simp, simp ↓] theorem k9_38r : sR k9_38 k9_o15 k9_37 := yR rfl
@[simp, simp ↓] theorem k9_39r : rS k9_39 k9_35 k9_38 := zS rfl
@[simp, simp ↓] theorem k9_41r : rR k9_41 k9_o16 := zR rfl
@[simp, simp ↓] theorem k9_42r : sB k9_42 1 k9_39 k9_41 := yB rfl
@[simp, simp ↓] theorem k9_43r : rS k9_43 k9_15 k9_42 := zS rfl
@[simp, simp ↓] theorem k9_44r : rL k9_44 k9_43 := zL rfl
@[simp, simp ↓] theorem k9_45r : rB k9_45 0 k9_44 := zB rfl
@[simp, simp ↓] theorem k9_46r : sR k9_46 k9_o6 k9_45 := yR rfl
@[simp, simp ↓] theorem k9_48r : sR k9_48 k9_o17 .ret := yR rfl
@[simp, simp ↓] theorem k9_49r : rS k9_49 k9_46 k9_48 := zS rfl
@[simp, simp ↓] theorem k9_50r : sR k9_50 k9_o5 k9_49 := yR rfl
@[simp, simp ↓] theorem k9_51r : rS k9_51 k9_10 k9_50 := zS rfl
@[simp, simp ↓] theorem k9_52r : rS k9_52 k9_5 k9_51 := zS rfl
@[simp, simp ↓] theorem k9_53r : sR k9_53 k9_o0 k9_52 := yR rfl
noncomputable abbrev k9_C : Orc → Cx := mkC Try.prog [16, 37] 9 63 [.tmp 4, .tmp 5]
theorem k9_of : OfP Try.prog Try.f9 9 63 k9_C k9_53 := @ofP _ _ _ _ _ _ _ _ Try.func9 (by decide +kernel) rfl (by kernel_rfl) rfl (by kernel_rfl)
theorem specFw_c (x : Gr) (B : Int) (h : Heap) (hl : x.ts.length ≤ 1048576) (ok : x.ok) : ACalls Try.prog 9 [x.av, .int .i64 B] h (fun v h' => v = .tup [.snap 1 ((x.fwL B).map il), .int .i64 (x.fwC B)] ∧ h' = h) := by
  refine k9_of rfl orcFr3_p fun I => ?_
  by_cases hv : x.valid
  · by_cases hB : 1 ≤ B ∧ B ≤ 20000
    · have h24 := hv.2.2.2
      obtain ⟨O, hO⟩ : ∃ O, O = frT x B (x.ts.length + 1 - 0) 0 0 := ⟨_, rfl⟩
      have hfO : x.fwO B = O := by unfold Gr.fwO; rw [if_pos ⟨hv, hB⟩, hO]; rfl
      have hfc : x.fwC B = if O.isSome = true then 0 else 5 := by unfold Gr.fwC; rw [if_pos hv, if_pos hB, hfO]
      have hfl : x.fwL B = O.getD [] := by unfold Gr.fwL; rw [hfO]
      rw [hfc, hfl]
      obtain ⟨S, hS⟩ : ∃ S, S = Post fun (v : AV) (h' : Heap) => v = .tup [.snap 1 ((O.getD []).map il), .int .i64 (if O.isSome = true then 0 else 5)] ∧ h' = h := ⟨_, rfl⟩
      rw [← hS]
      have leaf0 : ∀ (g : Heap), O = none → S (.tup [.nilsl, .int .i64 5]) (g ++ h) := fun g e => by
        rw [hS, e]
        refine .wk (Wk.tup (.cons (Wk.nil 1) (.cons (.refl _) .nil))) (Post.dropAll (by simp [cold, colds]) (.base ⟨rfl, rfl⟩))
      have leaf1 : ∀ (r : List (List Int)) (w : AV) (hp g : Heap), O = some r → Grow 1 w (r.map il) hp → S (.tup [w, .int .i64 0]) (hp ++ (g ++ h)) := fun r w hp g e hg => by
        rw [hS, e]
        refine hg.froze (fun x => .tup [x, .int .i64 0]) (fun _ _ _ => rfl) (fun _ _ h => .tup (.cons h (.cons (.refl _) .nil))) (Post.dropAll ?_ (.base ⟨rfl, rfl⟩))
        have : ∀ l : List (List Int), colds (l.map il) = true := colds_il
        simp [cold, colds, this]
      clear hS
      refine Run2.of I 1000 ?_
      simp -implicitDefEqProofs [hl, ok, hv, hB.1, hB.2]
      intro ids hids
      refine Run2.loopE (α := Nat × Int × AV × Heap) (fun s => [(2, .ip [.int .i64 x.n, .snap 3 (x.ts.map T.av)]), (6, .ptr ids 6 0 0)]) (fun s => (ids, slB x s.1 B s.2.2.1 s.2.1 false) :: (s.2.2.2 ++ ([] ++ h))) (fun s => x.ts.length + 1 - s.1)
        (fun s => s.1 ≤ x.ts.length + 1 ∧ 0 ≤ s.2.1 ∧ s.2.1 ≤ B ∧ O = frT x B (x.ts.length + 1 - s.1) s.1 s.2.1 ∧ GrT 1 s.2.2.1 [] s.2.2.2)
        (0, 0, .nilsl, []) (by simp) (by simp [slB]) ⟨Nat.zero_le _, Int.le_refl _, by simp only; omega, hO, .nil⟩ ?_
      clear hO
      rintro ⟨m, k, u, gr⟩ ⟨hm, hk0, hkB, hO, hg⟩ ih
      replace hm : m ≤ x.ts.length + 1 := hm
      replace hk0 : 0 ≤ k := hk0
      replace hkB : k ≤ B := hkB
      simp only at hO hg ih ⊢
      have huc := hg.cell
      by_cases hlt : m ≤ x.ts.length
      · obtain ⟨n, hn⟩ : ∃ n, x.ts.length + 1 - m = n + 1 := ⟨x.ts.length - m, by omega⟩
        rw [hn, frT] at hO
        have hsome := frS_some x m B x.ts.length [] k
        have hbd := frS_bd x m B x.ts.length [] k hkB
        have he0 : x.eNo x.ts.length = 0 := by simp [Gr.eNo]
        have hcall := run_f x hv m (by omega) B hB ids h x.ts.length [] k u [] gr [] (frI_nil x m) hk0 hkB hg .nil
        rw [he0] at hcall
        generalize frS x m B x.ts.length [] k = F at *
        obtain ⟨o, k', f⟩ := F
        replace hbd : k ≤ k' ∧ k' ≤ B := hbd
        unfold slB at hcall ⊢
        refine Run2.of I 1000 ?_
        simp -implicitDefEqProofs [hlt, huc]
        refine (show ACalls _ _ _ _ _ by simpa using hcall).mono ?_
        rintro v h' ⟨u', us', gr', hi', rfl, hgr, hho, rfl⟩
        cases o with
        | some r =>
          simp only [Option.getD_some] at hho
          replace hO : O = some r := hO
          obtain ⟨hI, _⟩ := hsome r (frI_nil x m) rfl
          have hul := hho.len
          have hulen := hgr.len
          unfold slB
          refine gK.go ?_
          simp -implicitDefEqProofs
          have hsr := hI.2.2
          have hrlen : r.length ≤ 25 := by have := hI.1; omega
          refine Run2.loopE (α := Nat × AV × Heap) (fun s => [(6, .ptr ids 6 0 0), (7, s.2.1), (8, .int .i64 (s.1 : Nat))]) (fun s => s.2.2 ++ ((ids, slB x m B u' k' f) :: (gr' ++ (hi' ++ h)))) (fun s => r.length - s.1)
            (fun s => s.1 ≤ r.length ∧ Grow 1 s.2.1 ((r.take s.1).map il) s.2.2) (0, .emp, []) (by simp) (by simp [slB]) ⟨Nat.zero_le _, by simpa using Grow.emp⟩ ?_
          clear hcall ih
          rintro ⟨i, w, hp⟩ ⟨hi, hw⟩ ih
          replace hi : i ≤ r.length := hi
          simp only at hw ih ⊢
          refine Run2.nd fun nd => ?_
          have hidp : ids ∉ dom hp := fun h => by
            simp only [dom_append, dom_cons, List.nodup_append, List.mem_cons] at nd
            exact nd.2.2 ids h ids (.inl rfl) rfl
          have hwc := hw.cell
          by_cases hir : i < r.length
          · obtain ⟨hu, g, og, hgX⟩ := hho.at hir
            have hel := len_sumL (List.getElem_mem hir)
            cases hgr with
            | nil => simp at hu
            | emp => simp at hu
            | sl idr _ ex n hn =>
              subst hn
              have hus2 : (us' ++ ex)[i]? = some us'[i] := by rw [List.getElem?_append_left hu]; simp [hu]
              generalize hU : us'[i] = z at *
              have hzc := og.cell
              have hne : ¬ ids = idr := by
                simp only [dom_append, dom_cons, List.cons_append, List.nodup_append, List.nodup_cons, List.mem_cons, not_or] at nd
                exact nd.2.1.1.1
              have hidr : idr ∉ dom hp := fun h => by
                simp only [dom_append, dom_cons, List.cons_append, List.nodup_append, List.mem_cons] at nd
                exact nd.2.2 idr h idr (.inr (.inl rfl)) rfl
              have hilt : (i : Int) < us'.length := by omega
              unfold slB
              refine Run2.of I 1000 ?_
              simp -implicitDefEqProofs [hget_app hidp, hget_app hidr, hne, hilt, hu, hus2, hU, hzc, cells_of hzc, stor_of hzc, hwc]
              refine (own_f og _ (fun p hp => by simp [hgX p hp]) (by omega)).mono ?_
              rintro v h' ⟨rfl, rfl⟩
              refine gK.go ?_
              simp -implicitDefEqProofs [hwc]
              refine hw.app (by simp; omega) (by simp) fun w' hp' hw' => ?_
              have hwc' := hw'.cell
              have go := ih (i + 1, w', hp') ⟨hir, by
                simp only
                rw [List.take_succ_eq_append_getElem hir, List.map_append]
                simpa using hw'⟩ (by simp; omega)
              unfold slB at go
              simp only at go
              simp -implicitDefEqProofs [hwc']
              exact ⟨by omega, by simpa using go⟩
          · obtain rfl : i = r.length := by omega
            rw [List.take_length] at hw
            have hilt : ¬ (r.length : Int) < us'.length := by omega
            have := leaf1 r w hp ((ids, slB x m B u' k' f) :: (gr' ++ hi')) hO hw
            unfold slB at this ⊢
            refine Run2.of I 1000 ?_
            simp -implicitDefEqProofs [hget_app hidp, hulen, hilt, hwc]
            simpa using this
        | none =>
          simp only [Option.getD_none] at hho
          cases hho
          unfold slB
          cases f with
          | true =>
            replace hO : O = none := hO
            refine gK.go ?_
            simp -implicitDefEqProofs
            simpa using leaf0 ((ids, _) :: gr') hO
          | false =>
            replace hO : O = frT x B n (m + 1) k' := hO
            have go := ih (m + 1, k', u', gr') ⟨by simp only; omega, by simp only; omega, by simp only; omega, by simp only; rw [hO]; congr 1; omega, hgr⟩ (by simp; omega)
            simp only at go
            unfold slB at go
            have huc' := hgr.cell
            refine gK.go ?_
            simp -implicitDefEqProofs [huc']
            exact ⟨by omega, by simpa using go⟩
      · have hO' : O = none := by
          rw [hO, show x.ts.length + 1 - m = 0 by omega, frT]
        unfold slB
        refine Run2.of I 1000 ?_
        simp -implicitDefEqProofs [hlt, huc]
        simpa using leaf0 ((ids, _) :: gr) hO'
    · have hc : x.fwC B = 2 := by unfold Gr.fwC; rw [if_pos hv, if_neg hB]
      have hL : x.fwL B = [] := by unfold Gr.fwL Gr.fwO; rw [if_neg (fun h => hB h.2)]; rfl
      rw [hc, hL]
      refine Run2.of I 1000 ?_
      simp -implicitDefEqProofs [hl, ok, hv]
      exact ⟨fun _ => .wk (Wk.tup (.cons (Wk.nil 1) (.cons (.refl _) .nil))) (.base ⟨rfl, rfl⟩), fun h1 h2 => absurd ⟨h1, h2⟩ hB⟩
  · have hc : x.fwC B = 1 := by unfold Gr.fwC; rw [if_neg hv]
    have hL : x.fwL B = [] := by unfold Gr.fwL Gr.fwO; rw [if_neg (fun h => hv h.1)]; rfl
    rw [hc, hL]
    refine Run2.of I 1000 ?_
    simp -implicitDefEqProofs [hl, ok, hv]
    exact .wk (Wk.tup (.cons (Wk.nil 1) (.cons (.refl _) .nil))) (.base ⟨rfl, rfl⟩)
end Go.AG
