/- Bars of two lists: the program. No statement is made here. -/
import Derived.Test.YteheocdkjmfgdaaBrSort
import Derived.Test.YteheocdkjmfgdaaBrMs
namespace Go.AG
end Go.AG
namespace Go.Proofs
open Go.Shelf
def Try.laySortB_ren : Go.Shelf.Ren := ⟨fun | 6 => 16 | 15 => 27 | 14 => 26 | 28 => 40 | 29 => 41 | 20 => 32 | 21 => 33 | 22 => 34 | 23 => 35 | 24 => 36 | 25 => 37 | 26 => 38 | 27 => 39 | 46 => 43 | 47 => 44 | 48 => 45 | 49 => 46 | 50 => 47 | 57 => 48 | n => n, fun | 22 => 24 | 24 => 34 | 25 => 39 | 3 => 3 | 39 => 49 | 0 => 0 | 53 => 62 | 55 => 64 | 4 => 4 | 46 => 55 | 45 => 54 | 50 => 59 | 5 => 5 | 9 => 9 | 66 => 66 | 70 => 70 | 76 => 72 | 77 => 73 | n => n, fun | n => n⟩
theorem Try.laySortB : Go.Proofs.SlLaysF0.n6 Try.prog Try.laySortB_ren := {
  mixed := by kernel_rfl
  f6 := ⟨Try.f16.name, by decide, Try.func16.trans (congrArg some (by kernel_rfl))⟩
  f14 := ⟨Try.f26.name, by decide, Try.func26.trans (congrArg some (by kernel_rfl))⟩
  f15 := Try.func27.trans (congrArg some (by kernel_rfl))
  f20 := ⟨Try.f32.name, by decide, Try.func32.trans (congrArg some (by kernel_rfl))⟩
  f21 := ⟨Try.f33.name, by decide, Try.func33.trans (congrArg some (by kernel_rfl))⟩
  f22 := ⟨Try.f34.name, by decide, Try.func34.trans (congrArg some (by kernel_rfl))⟩
  f23 := ⟨Try.f35.name, by decide, Try.func35.trans (congrArg some (by kernel_rfl))⟩
  f24 := ⟨Try.f36.name, by decide, Try.func36.trans (congrArg some (by kernel_rfl))⟩
  f25 := ⟨Try.f37.name, by decide, Try.func37.trans (congrArg some (by kernel_rfl))⟩
  f26 := ⟨Try.f38.name, by decide, Try.func38.trans (congrArg some (by kernel_rfl))⟩
  f27 := ⟨Try.f39.name, by decide, Try.func39.trans (congrArg some (by kernel_rfl))⟩
  f28 := Try.func40.trans (congrArg some (by kernel_rfl))
  f29 := Try.func41.trans (congrArg some (by kernel_rfl))
  f46 := ⟨Try.f43.name, by decide, Try.func43.trans (congrArg some (by kernel_rfl))⟩
  f47 := Try.func44.trans (congrArg some (by kernel_rfl))
  f48 := Try.func45.trans (congrArg some (by kernel_rfl))
  f49 := ⟨Try.f46.name, by decide, Try.func46.trans (congrArg some (by kernel_rfl))⟩
  f50 := ⟨Try.f47.name, by decide, Try.func47.trans (congrArg some (by kernel_rfl))⟩
  f57 := ⟨Try.f48.name, by decide, Try.func48.trans (congrArg some (by kernel_rfl))⟩
  t0 := Try.underlying0
  a0 := Try.isAgg0
  z0 := Try.sizeOf0
  v0 := Try.zeroValue0
  t3 := Try.underlying3
  a3 := Try.isAgg3
  z3 := Try.sizeOf3
  v3 := Try.zeroValue3
  t4 := Try.underlying4
  a4 := Try.isAgg4
  z4 := Try.sizeOf4
  v4 := Try.zeroValue4
  t5 := Try.underlying5
  a5 := Try.isAgg5
  z5 := Try.sizeOf5
  v5 := Try.zeroValue5
  t9 := Try.underlying9
  a9 := Try.isAgg9
  z9 := Try.sizeOf9
  v9 := Try.zeroValue9
  t22 := Try.underlying24
  a22 := Try.isAgg24
  z22 := Try.sizeOf24
  v22 := Try.zeroValue24
  t25 := Try.underlying39
  a25 := Try.isAgg39
  z25 := Try.sizeOf39
  v25 := Try.zeroValue39
  t39 := Try.underlying49
  a39 := Try.isAgg49
  z39 := Try.sizeOf49
  v39 := Try.zeroValue49
  t45 := Try.underlying54
  a45 := Try.isAgg54
  z45 := Try.sizeOf54
  v45 := Try.zeroValue54
  t46 := Try.underlying55
  a46 := Try.isAgg55
  z46 := Try.sizeOf55
  v46 := Try.zeroValue55
  t50 := Try.underlying59
  a50 := Try.isAgg59
  z50 := Try.sizeOf59
  v50 := Try.zeroValue59
  t53 := Try.underlying62
  a53 := Try.isAgg62
  z53 := Try.sizeOf62
  v53 := Try.zeroValue62
  t55 := Try.underlying64
  a55 := Try.isAgg64
  z55 := Try.sizeOf64
  v55 := Try.zeroValue64
  t66 := Try.underlying66
  a66 := Try.isAgg66
  z66 := Try.sizeOf66
  v66 := Try.zeroValue66
  t70 := Try.underlying70
  a70 := Try.isAgg70
  z70 := Try.sizeOf70
  v70 := Try.zeroValue70
  t76 := Try.underlying72
  a76 := Try.isAgg72
  z76 := Try.sizeOf72
  v76 := Try.zeroValue72
  t77 := Try.underlying73
  a77 := Try.isAgg73
  z77 := Try.sizeOf73
  v77 := Try.zeroValue73 }
end Go.Proofs
namespace Go.AG
open Go.RowKit Go.Sort Go.Shelf Go.Proofs Go.Proofs.Yteheocdkjmfgdaa
set_option linter.unusedSimpArgs false
set_option linter.unusedVariables false
set_option maxRecDepth 4000
theorem sortB_g {v : AV} {l : List T} {hp : Heap} (G : Grow 3 v (l.map T.av) hp) (h : Heap) (hl : l.length ≤ 1099511627776) :
    ACalls Try.prog 16 [v, .fn 17 []] (hp ++ h) (fun r h' => r = .tup [] ∧ ∃ (l' : List T) (hp' : Heap), l'.Perm l ∧ l'.Pairwise (fun a b => ¬ b.lt a) ∧ Grow 3 v (l'.map T.av) hp' ∧ dom hp' = dom hp ∧ h' = hp' ++ h) :=
  sortBars_of ⟨Try.f16, Try.func16, by decide +kernel, rfl⟩ (fun x y => compareBars_c x y []) rfl
    (fun blk off cap d w hc hH hb hs => AnyQ.slices_SortFunc Try.laySortB 3 Try.isAgg34 Try.sizeOf34 encT (fun _ => rfl) (fun x v hv => by simp [encT] at hv; rcases hv with rfl | rfl | rfl <;> rfl) cmpB swoB 17 #[] blk off cap d w (enters_of Try.func17 (by kernel_rfl) rfl) hc hH hb hs)
    (fun p cap fv w => AnyF.slices_SortFunc_none Try.laySortB p cap fv w) G h hl
noncomputable def orcMi : List (Nat × (List AV → Option (Prop × AV))) := (14, o_valid) :: []
theorem orcMi_p : Pure Try.prog (lk orcMi) := (lk_pure o_valid_k lk_pure0)
@[simp] theorem orcMi_l (b : Bool) (g : FuncId) (l : List AV) : lk orcMi b g l = if g = 14 then o_valid l else none := nr rfl
abbrev k7_o0 : List AJ := [.o ⟨(some 4), none, false, .mv (.c .nilsl), none⟩, .o ⟨(some 5), none, false, .mv (.c (.int .i64 0)), (some [0, 1])⟩]
abbrev k7_o1 : List AJ := [.o ⟨(some 7), none, false, .mv (.t 0), none⟩, .o ⟨(some 8), none, false, .call 14 [(.t 7)], none⟩, .o ⟨(some 9), none, false, .un .not (.t 8), none⟩, .o ⟨(some 10), none, false, .mv (.t 9), none⟩, .o ⟨(some 11), (some (10, false)), false, .mv (.t 1), none⟩, .o ⟨(some 12), (some (10, false)), false, .call 14 [(.t 11)], none⟩, .o ⟨(some 13), (some (10, false)), false, .un .not (.t 12), none⟩, .o ⟨(some 14), none, false, .pick (.t 10) (.c (.bool true)) (.t 13), (some [0, 1, 14])⟩]
abbrev k7_o2 : List AJ := [.o ⟨(some 4), none, false, .mv (.c .nilsl), none⟩, .o ⟨(some 5), none, false, .mv (.c (.int .i64 1)), (some [4, 5])⟩]
def k7_3 : ACode := .seq (.region k7_o2) .ret
def k7_4 : ACode := .cond (.t 14) k7_3 .skip
def k7_5 : ACode := .seq (.region k7_o1) k7_4
abbrev k7_o3 : List AJ := [.o ⟨(some 15), none, false, .mv (.t 0), none⟩, .o ⟨(some 16), none, false, .len (.t 15), none⟩, .o ⟨(some 17), none, false, .mv (.t 1), none⟩, .o ⟨(some 18), none, false, .len (.t 17), none⟩, .o ⟨(some 19), none, true, .bin .add (.t 16) (.t 18), none⟩, .o ⟨(some 20), none, false, .bin .gtr (.t 19) (.c (.int .i64 24)), (some [0, 1, 20])⟩]
abbrev k7_o4 : List AJ := [.o ⟨(some 4), none, false, .mv (.c .nilsl), none⟩, .o ⟨(some 5), none, false, .mv (.c (.int .i64 5)), (some [4, 5])⟩]
def k7_8 : ACode := .seq (.region k7_o4) .ret
def k7_9 : ACode := .cond (.t 20) k7_8 .skip
def k7_10 : ACode := .seq (.region k7_o3) k7_9
abbrev k7_o5 : List AJ := [.o ⟨(some 21), none, false, .mv (.t 0), none⟩, .o ⟨(some 22), none, false, .mv (.t 1), none⟩, .o ⟨(some 23), none, false, .bsl false 1 [(.t 21), (.t 22)], none⟩, .o ⟨(some 24), none, false, .call 15 [(.t 23)], none⟩, .o ⟨(some 6), none, false, .mv (.t 24), (some [6])⟩]
abbrev k7_o6 : List AJ := [.o ⟨(some 25), none, false, .mv (.t 6), none⟩, .o ⟨(some 26), none, false, .call 16 [(.t 25), (.c (.fn 17 []))], (some [6])⟩]
abbrev k7_o7 : List AJ := [.o ⟨(some 27), none, false, .mv (.t 6), none⟩, .o ⟨(some 4), none, false, .mv (.t 27), none⟩, .o ⟨(some 5), none, false, .mv (.c (.int .i64 0)), (some [4, 5])⟩]
def k7_14 : ACode := .seq (.region k7_o7) .ret
def k7_15 : ACode := .seq (.region k7_o6) k7_14
def k7_16 : ACode := .seq (.region k7_o5) k7_15
def k7_17 : ACode := .seq k7_10 k7_16
def k7_18 : ACode := .seq k7_5 k7_17
def k7_19 : ACode := .seq (.region k7_o0) k7_18
@[simp, simp ↓] theorem k7_3r : sR k7_3 k7_o2 .ret := yR rfl
@[simp, simp ↓] theorem k7_4r : rC k7_4 (.t 14) k7_3 .skip := zC rfl
@[simp, simp ↓] theorem k7_5r : sR k7_5 k7_o1 k7_4 := yR rfl
@[simp, simp ↓] theorem k7_8r : sR k7_8 k7_o4 .ret := yR rfl
@[simp, simp ↓] theorem k7_9r : rC k7_9 (.t 20) k7_8 .skip := zC rfl
@[simp, simp ↓] theorem k7_10r : sR k7_10 k7_o3 k7_9 := yR rfl
@[simp, simp ↓] theorem k7_14r : sR k7_14 k7_o7 .ret := yR rfl
@[simp, simp ↓] theorem k7_15r : sR k7_15 k7_o6 k7_14 := yR rfl
@[simp, simp ↓] theorem k7_16r : sR k7_16 k7_o5 k7_15 := yR rfl
@[simp, simp ↓] theorem k7_17r : rS k7_17 k7_10 k7_16 := zS rfl
@[simp, simp ↓] theorem k7_18r : rS k7_18 k7_5 k7_17 := zS rfl
@[simp, simp ↓] theorem k7_19r : sR k7_19 k7_o0 k7_18 := yR rfl
noncomputable abbrev k7_C : Orc → Cx := mkC Try.prog [] 7 28 [.tmp 4, .tmp 5]
theorem k7_of0 : OfP0 Try.prog Try.f7 7 28 k7_C k7_19 := @ofP0 _ _ _ _ _ _ _ _ Try.func7 (by decide +kernel) rfl (by kernel_rfl) rfl (by kernel_rfl)
theorem implMB_o (a b : List T) (hla : a.length ≤ 1048576) (hlb : b.length ≤ 1048576) (oa : okB a) (ob : okB b) : ACalls Try.prog 7 [.snap 3 (a.map T.av), .snap 3 (b.map T.av)] [] (fun v h' => ∃ w, v = .tup [w, .int .i64 (mbC a b)] ∧ OwnL T.av 3 w (mbL a b) h') := by
  refine k7_of0 rfl orcMi_p fun I => ?_
  by_cases hv : validB a ∧ validB b
  · obtain ⟨va, vb⟩ := hv
    have ha24 := va.2
    have hb24 := vb.2
    obtain ⟨sa, ea⟩ := valid_srt va
    obtain ⟨sb, eb⟩ := valid_srt vb
    have hcC : mbC a b = if a.length + b.length ≤ 24 then 0 else 5 := by unfold mbC; rw [if_pos ⟨va, vb⟩]
    by_cases h24 : a.length + b.length ≤ 24
    · rw [if_pos h24] at hcC
      have hL : mbL a b = mgB a b := by unfold mbL; rw [if_pos hcC]
      rw [hL, hcC]
      have h24I : ¬ (24 : Int) < a.length + b.length := by omega
      have hcat := Concat2_g a b [] (by omega)
      refine Run2.of I 1000 ?_
      simp -implicitDefEqProofs [hla, hlb, oa, ob, va, vb, h24I]
      refine ⟨⟨by omega, by omega⟩, hcat.mono ?_⟩
      rintro v h' ⟨hp, G, e⟩
      rw [List.append_nil] at e
      subst e
      have hcell := G.cell
      have hs := sortB_g G [] (by simp; omega)
      rw [List.append_nil] at hs
      refine gK.go ?_
      simp -implicitDefEqProofs [hcell]
      refine hs.mono ?_
      rintro r h2 ⟨rfl, l', hp', p1, p2, G', _, e⟩
      rw [List.append_nil] at e
      subst e
      refine gK.go ?_
      simp -implicitDefEqProofs [hcell]
      rw [← mgB_of sa ea eb p1 p2]
      exact G'.own
    · rw [if_neg h24] at hcC
      have hL : mbL a b = [] := by unfold mbL; rw [if_neg (by omega)]
      rw [hL, hcC]
      have h24I : (24 : Int) < a.length + b.length := by omega
      refine Run2.of I 1000 ?_
      simp -implicitDefEqProofs [hla, hlb, oa, ob, va, vb, h24I]
      exact ⟨⟨by omega, by omega⟩, .nil⟩
  · have hc : mbC a b = 1 := by unfold mbC; rw [if_neg hv]
    have hL : mbL a b = [] := by unfold mbL; rw [if_neg (by omega)]
    rw [hc, hL]
    by_cases va : validB a
    · have vb : ¬ validB b := fun h => hv ⟨va, h⟩
      refine Run2.of I 1000 ?_
      simp -implicitDefEqProofs [hla, hlb, oa, ob, va, vb]
      exact .nil
    · refine Run2.of I 1000 ?_
      simp -implicitDefEqProofs [hla, hlb, oa, ob, va]
      exact .nil
theorem froze_bars {P : Program} {g : FuncId} {args : List AV} {F : List T} {c : Int} (H : ACalls P g args [] (fun v h' => ∃ w, v = .tup [w, .int .i64 c] ∧ OwnL T.av 3 w F h')) (h : Heap) : ACalls P g args h (fun v h' => v = .tup [.snap 3 (F.map T.av), .int .i64 c] ∧ h' = h) := by
  refine ACalls.post ((ACalls.gives (h := h) [] (by simp) (S := fun v h' => ∃ w, v = .tup [w, .int .i64 c] ∧ OwnL T.av 3 w F h') H ?_).mono ?_)
  · rintro v h' ⟨w, rfl, o⟩
    have := o.own T.own
    exact ⟨by simp [own, owns, this.1], this.2⟩
  · rintro v h' ⟨g, ⟨w, rfl, o⟩, _, rfl⟩
    refine Post.lend ?_
    rw [lend1_tup2, lend1_cold g (x := .int .i64 c) rfl]
    exact .wk (Wk.tup (.cons o.lent.wk (.cons (.refl _) .nil))) (.base ⟨rfl, rfl⟩)
end Go.AG
