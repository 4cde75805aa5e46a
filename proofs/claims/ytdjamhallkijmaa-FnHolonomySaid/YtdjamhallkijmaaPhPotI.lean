/- PotentialOf: what the program's and the reference's functions give. No statement is made here. -/
import Derived.Test.YtdjamhallkijmaaPhBfs2
namespace Go.AG
open Go.Proofs Go.Proofs.Ytdjamhallkijmaa
set_option linter.unusedSimpArgs false
set_option linter.unusedVariables false
set_option maxRecDepth 4000
theorem Ph.pots_vec {x : Ph} (hv : x.valid) : vec x.pots x.n x.m := by
  have hn1 := hv.1
  have hl := Ph.pots_len hv
  refine ⟨by omega, fun a ha => ?_⟩
  obtain ⟨j, hj, rfl⟩ := List.mem_iff_getElem.1 ha
  have := Ph.pots_b hv (v := j) (by omega)
  simpa [hj] using this
/-- The edges at which the phases along the forest are wrong. -/
def Ph.wrong (x : Ph) : List Int := x.wr x.pots x.ts.length
noncomputable def Ph.pcode (x : Ph) : Int := if x.valid then (if x.wrong = [] then 0 else 3) else 1
noncomputable def Ph.pres (x : Ph) : List Int := if x.valid ∧ x.wrong = [] then x.pots else []
theorem errorsOf_l (x : Ph) (idf : Nat) (h : Heap) (hv : x.valid) : ACalls Try.prog 26 [x.av, .sl idf 1 0 x.n.toNat (some x.n.toNat)] ((idf, ⟨1, x.pots.map iv⟩) :: h) (fun v h' => ∃ hp, Grow 1 v (x.wrong.map iv) hp ∧ (∀ j ∈ dom hp, j ∉ dom ((idf, ⟨1, x.pots.map iv⟩) :: h)) ∧ h' = hp ++ ((idf, ⟨1, x.pots.map iv⟩) :: h)) := by
  have hl := Ph.pots_len hv
  refine (ACalls.gives [(idf, ⟨1, x.pots.map iv⟩)] (by simp) (S := fun v h' => Grow 1 v (x.wrong.map iv) h') ?_ ?_).mono ?_
  · have e1 : lend [(idf, ⟨1, x.pots.map iv⟩)] [x.av, .sl idf 1 0 x.n.toNat (some x.n.toNat)] = [x.av, .snap 1 (x.pots.map iv)] := by
      rw [lend_cons, lend_cons, lend_nil', lend1_cold [(idf, ⟨1, x.pots.map iv⟩)] (x := x.av) (x.is.cold)]
      congr 2
      simp [lend1, hl]
      exact List.take_of_length_le (by simp [hl])
    rw [e1]
    exact (errorsOf_w x x.pots [] hv (Ph.pots_vec hv)).mono fun v h' ⟨hp, hg, e⟩ => by rw [List.append_nil] at e; subst e; exact hg
  · intro v h' hg
    exact (Grow.own (enc := iv) hg).own own_iv1
  · rintro v h'' ⟨h', hg, hd, rfl⟩
    exact ⟨h', hg, hd, rfl⟩
abbrev k7_o0 : List AJ := [.o ⟨(some 1), none, false, .box false 3 (.t 0), none⟩, .o ⟨(some 2), none, false, .mv (.c .nilsl), none⟩, .o ⟨(some 3), none, false, .mv (.c (.int .i64 0)), (some [1])⟩]
abbrev k7_o1 : List AJ := [.o ⟨(some 6), none, false, .load 3 true (.t 1), none⟩, .o ⟨(some 7), none, false, .call 24 [(.t 6)], none⟩, .o ⟨(some 8), none, false, .un .not (.t 7), (some [1, 8])⟩]
abbrev k7_o2 : List AJ := [.o ⟨(some 2), none, false, .mv (.c .nilsl), none⟩, .o ⟨(some 3), none, false, .mv (.c (.int .i64 1)), (some [2, 3])⟩]
def k7_3 : ACode := .seq (.region k7_o2) .ret
def k7_4 : ACode := .cond (.t 8) k7_3 .skip
def k7_5 : ACode := .seq (.region k7_o1) k7_4
abbrev k7_o3 : List AJ := [.o ⟨(some 10), none, false, .load 3 true (.t 1), none⟩, .o ⟨(some 11), none, false, .call 25 [(.t 10)], none⟩, .o ⟨(some 9), none, false, .mv (.t 11), none⟩, .o ⟨(some 12), none, false, .extract (.t 9) 0, none⟩, .o ⟨(some 13), none, false, .extract (.t 9) 1, none⟩, .o ⟨(some 4), none, false, .mv (.t 12), none⟩, .o ⟨(some 5), none, false, .mv (.t 13), (some [1, 4])⟩]
abbrev k7_o4 : List AJ := [.o ⟨(some 14), none, false, .load 3 true (.t 1), none⟩, .o ⟨(some 15), none, false, .mv (.t 4), none⟩, .o ⟨(some 16), none, false, .call 26 [(.t 14), (.t 15)], none⟩, .o ⟨(some 17), none, false, .len (.t 16), none⟩, .o ⟨(some 18), none, false, .bin .gtr (.t 17) (.c (.int .i64 0)), (some [4, 18])⟩]
abbrev k7_o5 : List AJ := [.o ⟨(some 2), none, false, .mv (.c .nilsl), none⟩, .o ⟨(some 3), none, false, .mv (.c (.int .i64 3)), (some [2, 3])⟩]
def k7_9 : ACode := .seq (.region k7_o5) .ret
def k7_10 : ACode := .cond (.t 18) k7_9 .skip
def k7_11 : ACode := .seq (.region k7_o4) k7_10
abbrev k7_o6 : List AJ := [.o ⟨(some 19), none, false, .mv (.t 4), none⟩, .o ⟨(some 2), none, false, .mv (.t 19), none⟩, .o ⟨(some 3), none, false, .mv (.c (.int .i64 0)), (some [2, 3])⟩]
def k7_13 : ACode := .seq (.region k7_o6) .ret
def k7_14 : ACode := .seq k7_11 k7_13
def k7_15 : ACode := .seq (.region k7_o3) k7_14
def k7_16 : ACode := .seq k7_5 k7_15
def k7_17 : ACode := .seq (.region k7_o0) k7_16
@[simp, simp ↓] theorem k7_3r : sR k7_3 k7_o2 .ret := yR rfl
@[simp, simp ↓] theorem k7_4r : rC k7_4 (.t 8) k7_3 .skip := zC rfl
@[simp, simp ↓] theorem k7_5r : sR k7_5 k7_o1 k7_4 := yR rfl
@[simp, simp ↓] theorem k7_9r : sR k7_9 k7_o5 .ret := yR rfl
@[simp, simp ↓] theorem k7_10r : rC k7_10 (.t 18) k7_9 .skip := zC rfl
@[simp, simp ↓] theorem k7_11r : sR k7_11 k7_o4 k7_10 := yR rfl
@[simp, simp ↓] theorem k7_13r : sR k7_13 k7_o6 .ret := yR rfl
@[simp, simp ↓] theorem k7_14r : rS k7_14 k7_11 k7_13 := zS rfl
@[simp, simp ↓] theorem k7_15r : sR k7_15 k7_o3 k7_14 := yR rfl
@[simp, simp ↓] theorem k7_16r : rS k7_16 k7_5 k7_15 := zS rfl
@[simp, simp ↓] theorem k7_17r : sR k7_17 k7_o0 k7_16 := yR rfl
noncomputable abbrev k7_C : Orc → Cx := mkC Try.prog [] 7 20 [.tmp 2, .tmp 3]
theorem k7_of : OfP Try.prog Try.f7 7 20 k7_C k7_17 := @ofP _ _ _ _ _ _ _ _ Try.func7 (by decide +kernel) rfl (by kernel_rfl) rfl (by kernel_rfl)
theorem implPot_o (x : Ph) (ok : x.ok) (hl : x.ts.length ≤ 1048576) : ACalls Try.prog 7 [x.av] [] (fun v h' => ∃ w, v = .tup [w, .int .i64 x.pcode] ∧ OwnL iv 1 w x.pres h') := by
  refine k7_of rfl orcF_p fun I => ?_
  refine Run2.of I 1000 ?_
  simp -implicitDefEqProofs [ok, hl]
  refine ⟨fun hv => .base ?_, fun hv => ?_⟩
  · simp [Ph.pres, Ph.pcode, hv]
    exact .nil
  have hpl := Ph.pots_len hv
  refine (forestPhases_w x (fun _ _ => True) (fun _ _ _ => trivial) (fun _ _ _ _ _ _ _ _ => trivial) _ hv).mono ?_
  rintro w h' ⟨idf, ps, hf, hps, _, rfl, rfl⟩
  refine gK.go ?_
  simp -implicitDefEqProofs
  refine (errorsOf_l x idf [] hv).mono ?_
  rintro u h' ⟨hp, hg, hd, rfl⟩
  have hlen := hg.len
  simp only [List.length_map] at hlen
  refine gK.go ?_
  simp -implicitDefEqProofs [hlen]
  refine ⟨fun h1 => ?_, fun h1 => ?_⟩
  · have h2 : ¬ x.wrong = [] := fun h2 => by rw [h2] at h1; simp at h1
    refine Grow.dropped hg (.drop idf (.base ?_))
    simp [Ph.pres, Ph.pcode, hv, h2, hdel]
    exact .nil
  · have h2 : x.wrong = [] := h1
    refine Grow.dropped hg (.base ?_)
    have e1 : x.pres = x.pots := by simp [Ph.pres, hv, h2]
    have e2 : x.pcode = 0 := by simp [Ph.pcode, hv, h2]
    rw [e1, e2, ← hpl]
    exact ⟨_, rfl, by simpa using OwnL.sl (enc := iv) (sz := 1) (l := x.pots) idf (some x.pots.length) [] rfl⟩
theorem Ph.pres_len (x : Ph) : x.pres.length ≤ 12 := by
  unfold Ph.pres
  split
  · rename_i h
    have := Ph.pots_len h.1
    have := h.1.2.1
    omega
  · simp
end Go.AG
