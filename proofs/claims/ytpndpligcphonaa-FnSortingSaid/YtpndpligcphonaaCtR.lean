/- Rounds of a graph: what the program and the reference ask of them. No statement is made here. -/
import Derived.Test.YtpndpligcphonaaCtA
import Derived.Test.YtpndpligcphonaaCtSort
namespace Go.AG
open Go.Proofs Go.Proofs.Ytpndpligcphonaa
set_option linter.unusedSimpArgs false
set_option linter.unusedVariables false
set_option maxRecDepth 4000
/-- One round is as it must be. -/
def Gr.rOk (x : Gr) (r : List Int) : Prop := r ≠ [] ∧ rising r ∧ allIn r x.ts.length ∧ ∀ i (hi : i < r.length), x.free (r.take i) r[i]
def Gr.rsOk (x : Gr) (rs : List (List Int)) : Prop := (∀ r ∈ rs, x.rOk r) ∧ rs.flatten.Nodup ∧ rs.flatten.length = x.ts.length
noncomputable instance (x : Gr) (rs : List (List Int)) : Decidable (x.rsOk rs) := Classical.propDecidable _
theorem sumL_flatten (rs : List (List Int)) : rs.flatten.length = sumL rs := by
  simp [sumL, List.length_flatten]
theorem flatten_succ (rs : List (List Int)) {i : Nat} (hi : i < rs.length) : (rs.take (i + 1)).flatten = (rs.take i).flatten ++ rs[i] := by
  rw [List.take_succ_eq_append_getElem hi, List.flatten_append]; simp
/-- Strictly rising numbers, as many as the bound: all of them. -/
theorem all_upto {l : List Int} (hs : ∀ j (h : j + 1 < l.length), l[j] < l[j + 1]) (hin : ∀ a ∈ l, 0 ≤ a ∧ a < l.length) : l = upto l.length := by
  have lo : ∀ i (hi : i < l.length), (i : Int) ≤ l[i] := by
    intro i
    induction i with
    | zero => intro hi; exact (hin _ (List.getElem_mem hi)).1
    | succ i ih => intro hi; have := ih (by omega); have := hs i hi; omega
  have hiB : ∀ d i (hi : i < l.length), i + d + 1 = l.length → l[i] ≤ i := by
    intro d
    induction d with
    | zero => intro i hi e; have := (hin _ (List.getElem_mem hi)).2; omega
    | succ d ih => intro i hi e; have := ih (i + 1) (by omega) (by omega); have := hs i (by omega); omega
  apply List.ext_getElem (by simp)
  intro i h1 h2
  have a1 := lo i h1
  have a2 := hiB (l.length - 1 - i) i h1 (by omega)
  simp only [upto, List.getElem_map, List.getElem_range]
  omega
theorem sorted_iff {l : List Int} {n : Nat} (hin : ∀ a ∈ l, 0 ≤ a ∧ a < n) : sorted l = upto n ↔ l.Nodup ∧ l.length = n := by
  have hp : (sorted l).Perm l := List.mergeSort_perm _ _
  constructor
  · intro h
    rw [h] at hp
    refine ⟨hp.nodup_iff.1 ?_, by rw [← hp.length_eq]; simp⟩
    unfold upto
    rw [List.nodup_iff_pairwise_ne, List.pairwise_map]
    exact List.Pairwise.imp (fun {a b} h e => h (by omega)) (List.nodup_iff_pairwise_ne.1 List.nodup_range)
  · rintro ⟨hn, rfl⟩
    have hs : (sorted l).Pairwise (fun x y => decide (x ≤ y) = true) := List.pairwise_mergeSort (fun a b c => by simp; omega) (fun a b => by simp; omega) l
    have hn' : (sorted l).Nodup := hp.nodup_iff.2 hn
    have hl : (sorted l).length = l.length := hp.length_eq
    have := all_upto (l := sorted l) (fun j hj => by
      have h1 := List.pairwise_iff_getElem.1 hs j (j + 1) (by omega) hj (by omega)
      have h2 := List.pairwise_iff_getElem.1 (List.nodup_iff_pairwise_ne.1 hn') j (j + 1) (by omega) hj (by omega)
      simp at h1
      omega) (fun a ha => by rw [hl]; exact hin a (hp.mem_iff.1 ha))
    rw [hl] at this
    exact this
noncomputable def orcR : List (Nat × (List AV → Option (Prop × AV))) := (44, o_sizeE) :: (45, o_isFreeIn) :: (42, o_isRising) :: (43, o_areElements) :: (40, o_l24Free) :: []
theorem orcR_p : Pure Try.prog (lk orcR) := (lk_pure o_sizeE_k (lk_pure o_isFreeIn_k (lk_pure o_isRising_k (lk_pure o_areElements_k (lk_pure o_l24Free_k lk_pure0)))))
@[simp] theorem orcR_l (b : Bool) (g : FuncId) (l : List AV) : lk orcR b g l = if g = 44 then o_sizeE l else if g = 45 then o_isFreeIn l else if g = 42 then o_isRising l else if g = 43 then o_areElements l else if g = 40 then o_l24Free l else none := nr rfl
abbrev k28_o0 : List AJ := [.o ⟨(some 2), none, false, .box false 2 (.t 0), none⟩, .o ⟨(some 4), none, false, .mv (.c (.bool false)), (some [1, 2])⟩]
abbrev k28_o1 : List AJ := [.o ⟨(some 5), none, false, .mv (.c .nilsl), (some [1, 2, 5])⟩]
abbrev k28_o2 : List AJ := [.o ⟨(some 10), none, false, .mv (.t 1), none⟩, .o ⟨(some 11), none, false, .len (.t 10), none⟩, .o ⟨(some 12), none, false, .mv (.c (.int .i64 0)), (some [2, 5, 10, 11, 12])⟩]
abbrev k28_o3 : List AJ := [.o ⟨(some 13), none, false, .bin .lss (.t 12) (.t 11), (some [2, 5, 10, 11, 12, 13])⟩]
abbrev k28_o4 : List AJ := [.o ⟨(some 14), none, false, .idxA 1 (.t 10) (.t 12), none⟩, .o ⟨(some 15), none, false, .load 1 false (.t 14), none⟩, .o ⟨(some 7), none, false, .mv (.t 15), (some [2, 5, 7, 10, 11, 12])⟩]
abbrev k28_o5 : List AJ := [.o ⟨(some 16), none, false, .mv (.t 7), none⟩, .o ⟨(some 17), none, false, .len (.t 16), none⟩, .o ⟨(some 18), none, false, .bin .eql (.t 17) (.c (.int .i64 0)), none⟩, .o ⟨(some 19), none, false, .mv (.t 18), none⟩, .o ⟨(some 20), (some (19, false)), false, .mv (.t 7), none⟩, .o ⟨(some 21), (some (19, false)), false, .call 42 [(.t 20)], none⟩, .o ⟨(some 22), (some (19, false)), false, .un .not (.t 21), none⟩, .o ⟨(some 23), none, false, .pick (.t 19) (.c (.bool true)) (.t 22), none⟩, .o ⟨(some 24), none, false, .mv (.t 23), none⟩, .o ⟨(some 25), (some (24, false)), false, .mv (.t 7), (some [2, 5, 7, 10, 11, 12, 24, 25])⟩, .o ⟨(some 26), (some (24, false)), false, .fieldA 1 (.t 2), none⟩, .o ⟨(some 27), (some (24, false)), false, .load 1 false (.t 26), none⟩, .o ⟨(some 28), (some (24, false)), false, .call 44 [(.t 27)], none⟩, .o ⟨(some 29), (some (24, false)), false, .call 43 [(.t 25), (.t 28)], none⟩, .o ⟨(some 30), (some (24, false)), false, .un .not (.t 29), none⟩, .o ⟨(some 31), none, false, .pick (.t 24) (.c (.bool true)) (.t 30), (some [2, 5, 7, 10, 11, 12, 31])⟩]
abbrev k28_o6 : List AJ := [.o ⟨(some 4), none, false, .mv (.c (.bool false)), (some [4])⟩]
def k28_8 : ACode := .seq (.region k28_o6) .ret
def k28_9 : ACode := .cond (.t 31) k28_8 .skip
def k28_10 : ACode := .seq (.region k28_o5) k28_9
abbrev k28_o7 : List AJ := [.o ⟨(some 32), none, false, .mv (.t 7), none⟩, .o ⟨(some 33), none, false, .len (.t 32), none⟩, .o ⟨(some 34), none, false, .mv (.c (.int .i64 0)), (some [2, 5, 7, 10, 11, 12, 32, 33, 34])⟩]
abbrev k28_o8 : List AJ := [.o ⟨(some 35), none, false, .bin .lss (.t 34) (.t 33), (some [2, 5, 7, 10, 11, 12, 32, 33, 34, 35])⟩]
abbrev k28_o9 : List AJ := [.o ⟨(some 36), none, false, .mv (.t 34), none⟩, .o ⟨(some 37), none, false, .idxA 1 (.t 32) (.t 34), none⟩, .o ⟨(some 38), none, false, .load 1 false (.t 37), none⟩, .o ⟨(some 8), none, false, .mv (.t 36), none⟩, .o ⟨(some 9), none, false, .mv (.t 38), (some [2, 5, 7, 8, 9, 10, 11, 12, 32, 33, 34])⟩]
abbrev k28_o10 : List AI := [⟨(some 39), none, false, .load 2 true (.t 2), none⟩, ⟨(some 40), none, false, .mv (.t 7), none⟩, ⟨(some 41), none, false, .mv (.t 8), none⟩, ⟨(some 42), none, false, .slice 1 (.t 40) none (some (.t 41)) none, none⟩, ⟨(some 43), none, false, .mv (.t 9), none⟩, ⟨(some 44), none, false, .call 45 [(.t 39), (.t 42), (.t 43)], none⟩, ⟨(some 45), none, false, .un .not (.t 44), (some [2, 5, 7, 10, 11, 12, 32, 33, 34, 45])⟩]
abbrev k28_o11 : List AJ := [.o ⟨(some 4), none, false, .mv (.c (.bool false)), (some [4])⟩]
def k28_17 : ACode := .seq (.region k28_o11) .ret
def k28_18 : ACode := .cond (.t 45) k28_17 .skip
def k28_19 : ACode := .seq (.draw k28_o10 [] rfl) k28_18
def k28_20 : ACode := .seq (.region k28_o9) k28_19
abbrev k28_o12 : List AJ := [.o ⟨(some 46), none, true, .bin .add (.t 34) (.c (.int .i64 1)), none⟩, .o ⟨(some 34), none, false, .mv (.t 46), (some [2, 5, 7, 10, 11, 12, 32, 33, 34])⟩]
def k28_22 : ACode := .region k28_o12
def k28_23 : ACode := .seq (.block 3 k28_20) k28_22
def k28_24 : ACode := .seq (.cond (.t 35) .skip (.exit 2)) k28_23
def k28_25 : ACode := .seq (.region k28_o8) k28_24
def k28_26 : ACode := .loop k28_25
def k28_27 : ACode := .block 2 k28_26
def k28_28 : ACode := .seq (.region k28_o7) k28_27
abbrev k28_o13 : List AJ := [.o ⟨(some 47), none, false, .mv (.t 5), none⟩, .o ⟨(some 48), none, false, .mv (.t 7), none⟩, .o ⟨(some 49), none, false, .append 1 8 (.t 47) (.t 48), none⟩, .o ⟨(some 5), none, false, .mv (.t 49), (some [2, 5, 10, 11, 12])⟩]
def k28_29 : ACode := .region k28_o13
def k28_30 : ACode := .seq k28_28 k28_29
def k28_31 : ACode := .seq k28_10 k28_30
def k28_32 : ACode := .seq (.region k28_o4) k28_31
abbrev k28_o14 : List AJ := [.o ⟨(some 50), none, true, .bin .add (.t 12) (.c (.int .i64 1)), none⟩, .o ⟨(some 12), none, false, .mv (.t 50), (some [2, 5, 10, 11, 12])⟩]
def k28_34 : ACode := .region k28_o14
def k28_35 : ACode := .seq (.block 1 k28_32) k28_34
def k28_36 : ACode := .seq (.cond (.t 13) .skip (.exit 0)) k28_35
def k28_37 : ACode := .seq (.region k28_o3) k28_36
def k28_38 : ACode := .loop k28_37
def k28_39 : ACode := .block 0 k28_38
def k28_40 : ACode := .seq (.region k28_o2) k28_39
abbrev k28_o15 : List AJ := [.o ⟨(some 51), none, false, .mv (.t 5), none⟩, .o ⟨(some 52), none, false, .call 46 [(.t 51)], (some [2, 5])⟩]
abbrev k28_o16 : List AJ := [.o ⟨(some 53), none, false, .mv (.t 5), none⟩, .o ⟨(some 54), none, false, .fieldA 1 (.t 2), none⟩, .o ⟨(some 55), none, false, .load 1 false (.t 54), none⟩, .o ⟨(some 56), none, false, .call 44 [(.t 55)], none⟩, .o ⟨(some 57), none, false, .call 48 [(.t 56)], none⟩, .o ⟨(some 58), none, false, .call 47 [(.t 53), (.t 57)], none⟩, .o ⟨(some 4), none, false, .mv (.t 58), (some [4])⟩]
def k28_43 : ACode := .seq (.region k28_o16) .ret
def k28_44 : ACode := .seq (.region k28_o15) k28_43
def k28_45 : ACode := .seq k28_40 k28_44
def k28_46 : ACode := .seq (.region k28_o1) k28_45
def k28_47 : ACode := .seq (.region k28_o0) k28_46
@[simp, simp ↓] theorem k28_8r : sR k28_8 k28_o6 .ret := yR rfl
@[simp, simp ↓] theorem k28_9r : rC k28_9 (.t 31) k28_8 .skip := zC rfl
@[simp, simp ↓] theorem k28_10r : sR k28_10 k28_o5 k28_9 := yR rfl
@[simp, simp ↓] theorem k28_17r : sR k28_17 k28_o11 .ret := yR rfl
@[simp, simp ↓] theorem k28_18r : rC k28_18 (.t 45) k28_17 .skip := zC rfl
@[simp, simp ↓] theorem k28_19r : sD k28_19 k28_o10 [] k28_18 := yD rfl
@[simp, simp ↓] theorem k28_20r : sR k28_20 k28_o9 k28_19 := yR rfl
@[simp, simp ↓] theorem k28_22r : rR k28_22 k28_o12 := zR rfl
@[simp, simp ↓] theorem k28_23r : sB k28_23 3 k28_20 k28_22 := yB rfl
@[simp, simp ↓] theorem k28_24r : sC k28_24 (.t 35) .skip (.exit 2) k28_23 := yC rfl
@[simp, simp ↓] theorem k28_25r : sR k28_25 k28_o8 k28_24 := yR rfl
@[simp, simp ↓] theorem k28_26r : rL k28_26 k28_25 := zL rfl
@[simp, simp ↓] theorem k28_27r : rB k28_27 2 k28_26 := zB rfl
@[simp, simp ↓] theorem k28_28r : sR k28_28 k28_o7 k28_27 := yR rfl
@[simp, simp ↓] theorem k28_29r : rR k28_29 k28_o13 := zR rfl
@[simp, simp ↓] theorem k28_30r : rS k28_30 k28_28 k28_29 := zS rfl
@[simp, simp ↓] theorem k28_31r : rS k28_31 k28_10 k28_30 := zS rfl
@[simp, simp ↓] theorem k28_32r : sR k28_32 k28_o4 k28_31 := yR rfl
@[simp, simp ↓] theorem k28_34r : rR k28_34 k28_o14 := zR rfl
@[simp, simp ↓] theorem k28_35r : sB k28_35 1 k28_32 k28_34 := yB rfl
@[simp, simp ↓] theorem k28_36r : sC k28_36 (.t 13) .skip (.exit 0) k28_35 := yC rfl
@[simp, simp ↓] theorem k28_37r : sR k28_37 k28_o3 k28_36 := yR rfl
@[simp, simp ↓] theorem k28_38r : rL k28_38 k28_37 := zL rfl
@[simp, simp ↓] theorem k28_39r : rB k28_39 0 k28_38 := zB rfl
@[simp, simp ↓] theorem k28_40r : sR k28_40 k28_o2 k28_39 := yR rfl
@[simp, simp ↓] theorem k28_43r : sR k28_43 k28_o16 .ret := yR rfl
@[simp, simp ↓] theorem k28_44r : sR k28_44 k28_o15 k28_43 := yR rfl
@[simp, simp ↓] theorem k28_45r : rS k28_45 k28_40 k28_44 := zS rfl
@[simp, simp ↓] theorem k28_46r : sR k28_46 k28_o1 k28_45 := yR rfl
@[simp, simp ↓] theorem k28_47r : sR k28_47 k28_o0 k28_46 := yR rfl
noncomputable abbrev k28_C : Orc → Cx := mkC Try.prog [] 28 59 [.tmp 4]
theorem k28_of : OfP Try.prog Try.f28 28 59 k28_C k28_47 := @ofP _ _ _ _ _ _ _ _ Try.func28 (by decide +kernel) rfl (by kernel_rfl) rfl (by kernel_rfl)
theorem areRounds_c (x : Gr) (rs : List (List Int)) (h : Heap) (hl : x.ts.length ≤ 24) (hr : ssTot rs ≤ 1048576) : ACalls Try.prog 28 [x.av, .snap 1 (rs.map il)] h (fun v h' => v = .bool (decide (x.rsOk rs)) ∧ h' = h) := by
  have hn := (fit_of_tot hr).1
  have htot : sumL rs ≤ 1048576 := by unfold ssTot at hr; omega
  have hE : x.ts.length ≤ 1048576 := by omega
  have hE2 : (x.ts.length : Int) ≤ 1073741824 := by omega
  refine k28_of rfl orcR_p fun I => ?_
  refine Run2.of I 1000 ?_
  simp -implicitDefEqProofs
  refine Run2.loopE (α := Nat × AV × Heap) (fun s => [(2, .ip [.int .i64 x.n, .snap 3 (x.ts.map T.av)]), (5, s.2.1), (10, .snap 1 (rs.map il)), (11, .int .i64 rs.length), (12, .int .i64 (s.1 : Nat))]) (fun s => s.2.2 ++ h) (fun s => rs.length - s.1) (fun s => s.1 ≤ rs.length ∧ Grow 1 s.2.1 ((rs.take s.1).flatten.map iv) s.2.2 ∧ ∀ r ∈ rs.take s.1, x.rOk r) (0, .nilsl, []) (by simp) rfl ⟨Nat.zero_le _, by simpa using Grow.nil, by simp⟩ ?_
  rintro ⟨i, w, hp⟩ ⟨hi, hg, hok⟩ ih
  simp only at hi hg hok
  have hcell := hg.cell
  by_cases hlt : i < rs.length
  · have hrl := (fit_of_tot hr).2 _ (List.getElem_mem hlt)
    have hsum := sumL_take rs hlt
    have hle := sumL_le rs (i + 1)
    have hfl : (rs.take i).flatten.length = sumL (rs.take i) := sumL_flatten _
    have hbad : ¬ x.rOk rs[i] → ¬ x.rsOk rs := fun h1 h2 => h1 (h2.1 _ (List.getElem_mem hlt))
    have go := fun (h1 : x.rOk rs[i]) w' hp' (g : Grow 1 w' ((rs.take i).flatten.map iv ++ rs[i].map iv) hp') => ih (i + 1, w', hp') ⟨hlt, by simp only; rw [flatten_succ rs hlt, List.map_append]; exact g, fun r hr => by
      simp only at hr
      rw [List.take_succ_eq_append_getElem hlt, List.mem_append, List.mem_singleton] at hr
      rcases hr with hr | rfl
      · exact hok r hr
      · exact h1⟩ (by simp; omega)
    clear ih
    have hdrop : ∀ b : Bool, b = decide (x.rsOk rs) → Post (fun v h' => v = .bool (decide (x.rsOk rs)) ∧ h' = h) (.bool b) (hp ++ h) := fun b hb => hg.dropped (.base ⟨by rw [hb], rfl⟩)
    generalize hr0 : rs[i] = r at *
    by_cases hA : r ≠ [] ∧ rising r ∧ allIn r x.ts.length
    · obtain ⟨a1, a2, a3⟩ := hA
      have hall : ∀ a ∈ r, x.inR a := a3
      have a1' : ¬ r.length = 0 := fun e => a1 (List.eq_nil_of_length_eq_zero e)
      refine Run2.of I 1000 ?_
      simp -implicitDefEqProofs [hlt, hcell, hr0, a1, a2, a3, hrl, hE, hE2]
      refine Run2.loopE (fun (j : Nat) => [(2, .ip [.int .i64 x.n, .snap 3 (x.ts.map T.av)]), (5, w), (7, .snap 1 (r.map iv)), (10, .snap 1 (rs.map il)), (11, .int .i64 rs.length), (12, .int .i64 i), (32, .snap 1 (r.map iv)), (33, .int .i64 r.length), (34, .int .i64 j)]) (fun j => hp ++ h) (fun j => r.length - j) (fun j => j ≤ r.length ∧ ∀ i' (hi' : i' < r.length), i' < j → x.free (r.take i') r[i']) 0 (by simp) rfl ⟨Nat.zero_le _, fun _ _ h => by omega⟩ fun j hj ihj => ?_
      by_cases hlt2 : j < r.length
      · have hR : x.inR r[j] := hall _ (List.getElem_mem hlt2)
        have hT : x.allR (r.take j) := fun a ha => hall a (List.mem_of_mem_take ha)
        have hTl : min j r.length ≤ 1048576 := by omega
        have hmt : (r.map iv).take j = (r.take j).map iv := (List.map_take).symm
        by_cases hf : x.free (r.take j) r[j]
        · have goj := ihj (j + 1) ⟨by omega, fun i' hi' hij => by
            rcases Nat.lt_or_ge i' j with h | h
            · exact hj.2 i' hi' h
            · obtain rfl : i' = j := by omega
              exact hf⟩ (by omega)
          refine Run2.of I 1000 ?_
          simp -implicitDefEqProofs [-List.map_take, hlt2, hcell, hR, hT, hTl, hmt, hf]
          refine ⟨by omega, by omega, ?_⟩
          simpa using goj
        · have hb : ¬ x.rsOk rs := hbad fun h => hf (h.2.2.2 j hlt2)
          refine Run2.of I 1000 ?_
          simp -implicitDefEqProofs [-List.map_take, hlt2, hcell, hR, hT, hTl, hmt, hf]
          refine ⟨by omega, hdrop false (by simp [hb])⟩
      · obtain rfl : j = r.length := by omega
        have hrok : x.rOk r := ⟨a1, a2, a3, fun i' hi' => hj.2 i' hi' hi'⟩
        have go1 := go hrok
        refine Run2.of I 1000 ?_
        simp -implicitDefEqProofs [hcell]
        refine hg.app (by rw [List.length_map, List.length_map, hfl]; omega) (by simpa using a1) fun w' hp' hg' => ?_
        have hcell' := hg'.cell
        simp -implicitDefEqProofs [hcell']
        refine ⟨by omega, ?_⟩
        simpa using go1 w' hp' hg'
    · have hb : ¬ x.rsOk rs := hbad fun h => hA ⟨h.1, h.2.1, h.2.2.1⟩
      refine Run2.of I 1000 ?_
      simp -implicitDefEqProofs [hlt, hcell, hr0, hrl, hE, hE2]
      repeat' (first | refine And.intro ?_ ?_ | intro _)
      all_goals first | exact hdrop false (by simp [hb]) | (exfalso; exact hA ⟨by assumption, by assumption, by assumption⟩)
  · have hie : i = rs.length := by omega
    subst hie
    rw [List.take_length] at hg hok
    refine Run2.of I 1000 ?_
    simp -implicitDefEqProofs [hcell]
    have hin : ∀ a ∈ rs.flatten, 0 ≤ a ∧ a < x.ts.length := fun a ha => by
      obtain ⟨r, hr, ha⟩ := List.mem_flatten.1 ha
      exact (hok r hr).2.2.1 a ha
    have hflen : rs.flatten.length ≤ 1048576 := by rw [sumL_flatten]; exact htot
    have hsl : (sorted rs.flatten).length = rs.flatten.length := (List.mergeSort_perm _ _).length_eq
    have key : decide (sorted rs.flatten = upto x.ts.length) = decide (x.rsOk rs) := by
      have := sorted_iff hin
      have h2 : x.rsOk rs ↔ rs.flatten.Nodup ∧ rs.flatten.length = x.ts.length := ⟨fun h => h.2, fun h => ⟨hok, h⟩⟩
      simp [this, h2]
    refine (sortG hg h (by omega)).mono ?_
    rintro v h' ⟨rfl, hp', hg', hd, rfl⟩
    have hcell' := hg'.cell
    refine gK.go ?_
    simp -implicitDefEqProofs [hcell']
    refine (firstChoice_c x.ts.length _ (by omega)).mono ?_
    rintro v h' ⟨rfl, rfl⟩
    refine gK.go ?_
    simp -implicitDefEqProofs [hcell']
    have o := hg'.own
    refine (ACalls.reads hp' (fun p hp => List.mem_append_left _ hp) (v0 := .bool (decide (sorted rs.flatten = upto x.ts.length))) ?_ rfl).mono ?_
    · rw [lend_cons, lend_cons, lend_nil', lend1_cold hp' (x := .snap 1 ((upto x.ts.length).map iv)) (by simp [cold])]
      exact ACalls.wk (.cons o.lent.wk (.refl _)) (Equal_s _ _ [] (by omega))
    rintro v h' ⟨rfl, rfl⟩
    refine gK.go ?_
    simp -implicitDefEqProofs
    exact hg'.dropped (.base ⟨by simp only [decide_eq_decide] at key; simp [key], rfl⟩)
end Go.AG
