/- Filtrations as data of the laws: how they are copied, compared, counted. No statement is made here. -/
import Derived.Test.YtamjnegnoijjlaaFxT
import Derived.Test.YtamjnegnoijjlaaISSM
import Derived.Test.YtamjnegnoijjlaaAGLists2
namespace Go.AG
open Go.Proofs Go.Proofs.Ytamjnegnoijjlaa
set_option linter.unusedSimpArgs false
set_option linter.unusedVariables false
set_option maxRecDepth 4000
@[simp] def Fil.av (x : Fil) : AV := .agg [.snap 1 (x.rs.map il), .snap 1 (x.ts.map iv)]
def Fil.wf (x : Fil) : Prop := wfSS x.rs ∧ wfI x.ts
def Fil.tot (x : Fil) : Nat := ssTot x.rs + x.ts.length
theorem Fil.ext' {x y : Fil} (h1 : x.rs = y.rs) (h2 : x.ts = y.ts) : x = y := by
  cases x; cases y; simp at h1 h2; simp [h1, h2]
theorem Fil.eq_iff (x y : Fil) : x = y ↔ x.rs = y.rs ∧ x.ts = y.ts := ⟨fun h => by rw [h]; exact ⟨rfl, rfl⟩, fun h => Fil.ext' h.1 h.2⟩
def tyF : Ty := .struct (.cons (.struct (.cons tySS .nil)) (.cons (.slice (.int .i64)) .nil))
theorem Fil_of_shape {x : AV} (h : shV tyF x) : ∃ p : Fil, x = p.av ∧ p.wf := by
  obtain ⟨h1, a1, b1, e1, ⟨a2, b2, rfl, ⟨xs, rfl, hlen, r3⟩, hb2⟩, a3, b3, rfl, ⟨ys, rfl, hlen2, r4⟩, h3⟩ := h
  have hm : maxLen ≤ 9223372036854775807 := by decide
  have h3' : b3 = [] := h3
  have hb2' : b2 = [] := hb2
  subst h3' hb2'
  obtain ⟨rs, rfl, hrs⟩ := Lists_list r3
  obtain ⟨ts, hts, hwt⟩ := Ints_of_shape (x := .snap 1 ys) ⟨rfl, ys, rfl, hlen2, r4⟩
  cases x <;> simp [isAgg, tyF, Ty.isS] at h1
  rename_i l
  refine ⟨⟨rs, ts⟩, ?_, ⟨⟨hrs, by simp only [List.length_map] at hlen; exact Nat.le_trans hlen hm⟩, hwt⟩⟩
  simp only [cellsOf] at e1
  rw [e1]
  simp only [AV.snap.injEq, true_and] at hts
  simp [Fil.av, hts, Ty.n]
/-- v is a complex in blocks of its own. -/
def OwnCx (v : AV) (rs : List (List Int)) (hp : Heap) : Prop := ∃ u, v = .agg [u] ∧ OwnLL u rs hp
def IsCx (v : AV) (rs : List (List Int)) : Prop := ∃ u, v = .agg [u] ∧ IsLL u rs
@[simp] def cx (rs : List (List Int)) : AV := .agg [.snap 1 (rs.map il)]
theorem IsCx.wk {v : AV} {rs : List (List Int)} (h : IsCx v rs) : Wk v (cx rs) := by
  obtain ⟨u, rfl, hu⟩ := h
  exact Wk.agg (.cons hu.wk .nil)
theorem IsCx.cold {v : AV} {rs : List (List Int)} (h : IsCx v rs) : Go.AG.cold v = true := by
  obtain ⟨u, rfl, hu⟩ := h
  simp [Go.AG.cold, colds, hu.cold]
theorem lend1_agg1 (L : Heap) (a : AV) : lend1 L (.agg [a]) = .agg [lend1 L a] := by
  induction L generalizing a with
  | nil => rfl
  | cons p L ih => simp only [lend1, fz, fzs]; exact ih _
theorem OwnCx.lentMid {v : AV} {rs : List (List Int)} {hp : Heap} (h : OwnCx v rs hp) {A B : Heap} (nd : (dom (A ++ (hp ++ B))).Nodup) : IsCx (lend1 (A ++ (hp ++ B)) v) rs := by
  obtain ⟨u, rfl, hu⟩ := h
  rw [lend1_agg1]
  exact ⟨_, rfl, hu.lentMid nd⟩
theorem OwnCx.nodup {v : AV} {rs : List (List Int)} {hp : Heap} (h : OwnCx v rs hp) : (dom hp).Nodup := by
  obtain ⟨u, rfl, hu⟩ := h
  exact hu.nodup
theorem OwnCx.lent {v : AV} {rs : List (List Int)} {hp : Heap} (h : OwnCx v rs hp) : IsCx (lend1 hp v) rs := by
  have := h.lentMid (A := []) (B := []) (by simpa using h.nodup)
  simpa using this
theorem OwnCx.own {v : AV} {rs : List (List Int)} {hp : Heap} (h : OwnCx v rs hp) : Go.AG.own v = true ∧ (hp.all fun p => p.2.l.all Go.AG.own) = true := by
  obtain ⟨u, rfl, hu⟩ := h
  exact ⟨by simp [Go.AG.own, owns, hu.own.1], hu.own.2⟩
theorem cx_is (rs : List (List Int)) : IsCx (cx rs) rs := ⟨_, rfl, .is _⟩
def tyCx : Ty := .struct (.cons tySS .nil)
theorem Cx_of_shape {x : AV} (h : shV tyCx x) : ∃ rs, x = cx rs ∧ wfSS rs := by
  obtain ⟨h1, a1, b1, e1, ⟨xs, rfl, hlen, r3⟩, h3⟩ := h
  have hm : maxLen ≤ 9223372036854775807 := by decide
  have h3' : b1 = [] := h3
  subst h3'
  obtain ⟨rs, rfl, hrs⟩ := Lists_list r3
  cases x <;> simp [isAgg, tyCx, Ty.isS] at h1
  rename_i l
  refine ⟨rs, ?_, ⟨hrs, by simp only [List.length_map] at hlen; exact Nat.le_trans hlen hm⟩⟩
  simp only [cellsOf] at e1
  rw [e1]; rfl
/-- v is a filtration in blocks of its own. -/
def OwnFil (v : AV) (x : Fil) (hp : Heap) : Prop := ∃ u w h1 h2, v = .agg [u, w] ∧ OwnLL u x.rs h1 ∧ OwnL iv 1 w x.ts h2 ∧ (∀ i ∈ dom h1, i ∉ dom h2) ∧ hp = h1 ++ h2
/-- v is a filtration that nobody writes. -/
def IsFil (v : AV) (x : Fil) : Prop := ∃ u w, v = .agg [u, w] ∧ IsLL u x.rs ∧ IsL iv 1 w x.ts
theorem IsFil.wk {v : AV} {x : Fil} (h : IsFil v x) : Wk v x.av := by
  obtain ⟨u, w, rfl, hu, hw⟩ := h
  exact Wk.agg (.cons hu.wk (.cons hw.wk .nil))
theorem IsFil.cold {v : AV} {x : Fil} (h : IsFil v x) : Go.AG.cold v = true := by
  obtain ⟨u, w, rfl, hu, hw⟩ := h
  simp [Go.AG.cold, colds, hu.cold, hw.cold cold_iv1]
theorem lend1_agg (L : Heap) (a u : AV) : lend1 L (.agg [a, u]) = .agg [lend1 L a, lend1 L u] := by
  induction L generalizing a u with
  | nil => rfl
  | cons p L ih => simp only [lend1, fz, fzs]; exact ih _ _
theorem OwnFil.lentMid {v : AV} {x : Fil} {hp : Heap} (h : OwnFil v x hp) {A B : Heap} (nd : (dom (A ++ (hp ++ B))).Nodup) : IsFil (lend1 (A ++ (hp ++ B)) v) x := by
  obtain ⟨u, w, h1, h2, rfl, hu, hw, hd, rfl⟩ := h
  rw [lend1_agg]
  refine ⟨_, _, rfl, ?_, hw.lentIn cold_iv1 (fun p hp => by simp [hp]) nd⟩
  have e : A ++ ((h1 ++ h2) ++ B) = A ++ (h1 ++ (h2 ++ B)) := by simp
  rw [e] at nd ⊢
  exact hu.lentMid nd
theorem OwnFil.lent {v : AV} {x : Fil} {hp : Heap} (h : OwnFil v x hp) (nd : (dom hp).Nodup) : IsFil (lend1 hp v) x := by
  have := h.lentMid (A := []) (B := []) (by simpa using nd)
  simpa using this
theorem OwnFil.own {v : AV} {x : Fil} {hp : Heap} (h : OwnFil v x hp) : Go.AG.own v = true ∧ (hp.all fun p => p.2.l.all Go.AG.own) = true := by
  obtain ⟨u, w, h1, h2, rfl, hu, hw, hd, rfl⟩ := h
  exact ⟨by simp [Go.AG.own, owns, hu.own.1, (hw.own own_iv1).1], by rw [List.all_append, hu.own.2, (hw.own own_iv1).2]; rfl⟩
theorem OwnFil.nodup {v : AV} {x : Fil} {hp : Heap} (h : OwnFil v x hp) : (dom hp).Nodup := by
  obtain ⟨u, w, h1, h2, rfl, hu, hw, hd, rfl⟩ := h
  rw [dom_append]
  exact List.nodup_append.2 ⟨hu.nodup, hw.nodup, fun a ha b hb e => hd a ha (e ▸ hb)⟩
theorem Fil.is (x : Fil) : IsFil x.av x := ⟨_, _, rfl, .is _, .snap _⟩
noncomputable def orcL : List (Nat × (List AV → Option (Prop × AV))) := (37, o_toInt64S) :: (20, o_eqInt64S) :: (50, o_toInt64SS) :: (48, o_szInt64SS) :: (45, o_eqInt64SS) :: []
theorem orcL_p : Pure Try.prog (lk orcL) := (lk_pure o_toInt64S_k (lk_pure o_eqInt64S_k (lk_pure o_toInt64SS_k (lk_pure o_szInt64SS_k (lk_pure o_eqInt64SS_k lk_pure0)))))
@[simp] theorem orcL_l (g : FuncId) (l : List AV) : lk orcL g l = if g = 37 then o_toInt64S l else if g = 20 then o_eqInt64S l else if g = 50 then o_toInt64SS l else if g = 48 then o_szInt64SS l else if g = 45 then o_eqInt64SS l else none := nr rfl
abbrev c_laws_toComplex_o0 : List AJ := [.o ⟨(some 1), none, false, .box false 1 (.t 0), none⟩, .o ⟨(some 2), none, false, .alloc true 1 (.agg [.nilsl]), (some [1, 2])⟩]
def c_laws_toComplex_0 : ACode := .region c_laws_toComplex_o0
abbrev c_laws_toComplex_o1 : List AJ := [.o ⟨(some 3), none, false, .alloc true 1 (.agg [.nilsl]), (some [1, 2, 3])⟩]
def c_laws_toComplex_1 : ACode := .region c_laws_toComplex_o1
abbrev c_laws_toComplex_o2 : List AJ := [.o ⟨(some 4), none, false, .fieldA 0 (.t 1), none⟩, .o ⟨(some 5), none, false, .load 1 false (.t 4), none⟩, .o ⟨(some 6), none, false, .call 50 [(.t 5)], none⟩, .o ⟨(some 7), none, false, .fieldA 0 (.t 3), none⟩, .o ⟨none, none, false, .store 1 (.t 7) (.t 6), (some [2, 3])⟩]
def c_laws_toComplex_2 : ACode := .region c_laws_toComplex_o2
abbrev c_laws_toComplex_o3 : List AJ := [.o ⟨(some 8), none, false, .load 1 true (.t 3), none⟩, .o ⟨none, none, false, .store 1 (.t 2) (.t 8), (some [2])⟩]
def c_laws_toComplex_3 : ACode := .region c_laws_toComplex_o3
def c_laws_toComplex_4 : ACode := .seq c_laws_toComplex_3 .ret
def c_laws_toComplex_5 : ACode := .seq c_laws_toComplex_2 c_laws_toComplex_4
def c_laws_toComplex_6 : ACode := .seq c_laws_toComplex_1 c_laws_toComplex_5
def c_laws_toComplex_7 : ACode := .seq c_laws_toComplex_0 c_laws_toComplex_6
section
variable (C : Cx) (n : Nat) (sk : List AItem) (e : Env) (h : Heap) (R : AV → Heap → Prop)
@[simp, simp ↓] theorem c_laws_toComplex_0_r : vc2 C (n + 1) [] (.code c_laws_toComplex_0 :: sk) e h R = (vc2 C n c_laws_toComplex_o0 sk e h R) := nr rfl
@[simp, simp ↓] theorem c_laws_toComplex_1_r : vc2 C (n + 1) [] (.code c_laws_toComplex_1 :: sk) e h R = (vc2 C n c_laws_toComplex_o1 sk e h R) := nr rfl
@[simp, simp ↓] theorem c_laws_toComplex_2_r : vc2 C (n + 1) [] (.code c_laws_toComplex_2 :: sk) e h R = (vc2 C n c_laws_toComplex_o2 sk e h R) := nr rfl
@[simp, simp ↓] theorem c_laws_toComplex_3_r : vc2 C (n + 1) [] (.code c_laws_toComplex_3 :: sk) e h R = (vc2 C n c_laws_toComplex_o3 sk e h R) := nr rfl
@[simp, simp ↓] theorem c_laws_toComplex_4_r : vc2 C (n + 1) [] (.code c_laws_toComplex_4 :: sk) e h R = (vc2 C n [] (.code c_laws_toComplex_3 :: .code .ret :: sk) e h R) := nr rfl
@[simp, simp ↓] theorem c_laws_toComplex_5_r : vc2 C (n + 1) [] (.code c_laws_toComplex_5 :: sk) e h R = (vc2 C n [] (.code c_laws_toComplex_2 :: .code c_laws_toComplex_4 :: sk) e h R) := nr rfl
@[simp, simp ↓] theorem c_laws_toComplex_6_r : vc2 C (n + 1) [] (.code c_laws_toComplex_6 :: sk) e h R = (vc2 C n [] (.code c_laws_toComplex_1 :: .code c_laws_toComplex_5 :: sk) e h R) := nr rfl
@[simp, simp ↓] theorem c_laws_toComplex_7_r : vc2 C (n + 1) [] (.code c_laws_toComplex_7 :: sk) e h R = (vc2 C n [] (.code c_laws_toComplex_0 :: .code c_laws_toComplex_6 :: sk) e h R) := nr rfl
end
noncomputable def c_laws_toComplex_C (orc : Orc) : Cx := ⟨Try.prog, [2, 3], 34, 9, [.cell 2 1 true], orc⟩
@[simp] theorem c_laws_toComplex_C_P (orc : Orc) : (c_laws_toComplex_C orc).P = Try.prog := nr rfl
@[simp] theorem c_laws_toComplex_C_o (orc : Orc) : (c_laws_toComplex_C orc).orc = orc := nr rfl
@[simp] theorem c_laws_toComplex_C_r (orc : Orc) : (c_laws_toComplex_C orc).res = [.cell 2 1 true] := nr rfl
theorem c_laws_toComplex_of {args : List AV} {h : Heap} {R : AV → Heap → Prop} {k : Nat} (ha : args.length = k) {orc : Orc} (hp : Pure Try.prog orc) (hk : Is (c_laws_toComplex_C orc) Try.f34 → Run2 (c_laws_toComplex_C orc) [.code c_laws_toComplex_7] (argEnv 0 args) h (Post R)) (hle : k ≤ 9 := by simp) : ACalls Try.prog 34 args h R :=
  contract2 [2, 3] c_laws_toComplex_7 [.cell 2 1 true] Try.func34 (by decide +kernel) rfl (by kernel_rfl) (by rw [ha]; exact hle) (by kernel_rfl) hp hk
theorem c_laws_toComplex_of0 {args : List AV} {h : Heap} {R : AV → Heap → Prop} {k : Nat} (ha : args.length = k) {orc : Orc} (hp : Pure Try.prog orc) (hk : Is (c_laws_toComplex_C orc) Try.f34 → Run2 (c_laws_toComplex_C orc) [.code c_laws_toComplex_7] (argEnv 0 args) h R) (hle : k ≤ 9 := by simp) : ACalls Try.prog 34 args h R :=
  contract20 [2, 3] c_laws_toComplex_7 [.cell 2 1 true] Try.func34 (by decide +kernel) rfl (by kernel_rfl) (by rw [ha]; exact hle) (by kernel_rfl) hp hk
theorem toCx_c (rs : List (List Int)) (h : Heap) (hl : ssTot rs ≤ 1048576) : ACalls Try.prog 34 [cx rs] h (fun v h' => v = cx rs ∧ h' = h) := by
  refine c_laws_toComplex_of rfl noPure fun I => ?_
  refine Run2.of I 1000 ?_
  simp -implicitDefEqProofs
  intro a ha b hb1 hb2
  refine gK.go ?_
  simp -implicitDefEqProofs [hb1]
  refine (toInt64SS_t rs _ hl).mono ?_
  rintro v h' ⟨rfl, rfl⟩
  refine gK.go ?_
  simp -implicitDefEqProofs [hb1]
  refine .drop b (.drop a (.base ?_))
  simp -implicitDefEqProofs [hb1]
theorem toCx_o (rs : List (List Int)) (h : Heap) (hl : ssTot rs ≤ 1048576) : ACalls Try.prog 34 [cx rs] h (fun v h' => ∃ h1, OwnCx v rs h1 ∧ (∀ i ∈ dom h1, i ∉ dom h) ∧ h' = h1 ++ h) := by
  refine c_laws_toComplex_of rfl noPure fun I => ?_
  refine Run2.of I 1000 ?_
  simp -implicitDefEqProofs
  intro a ha b hb1 hb2
  refine gK.go ?_
  simp -implicitDefEqProofs [hb1]
  refine (toInt64SS_n rs _ hl).mono ?_
  rintro u h' ⟨h1, o, hd, rfl⟩
  have hcell := o.cell
  have hst := stor_of hcell
  have hcl := cells_of hcell
  have hd1 : ∀ i ∈ dom h1, i ≠ b ∧ i ≠ a ∧ i ∉ dom h := fun i hi => by
    have := hd i hi
    simpa [dom] using this
  have hA : a ∉ dom h1 := fun hm => (hd1 a hm).2.1 rfl
  have hB : b ∉ dom h1 := fun hm => (hd1 b hm).1 rfl
  have gA : ∀ z, hget (h1 ++ z) a = hget z a := fun z => hget_app hA
  have gB : ∀ z, hget (h1 ++ z) b = hget z b := fun z => hget_app hB
  have sA : ∀ z c, hset (h1 ++ z) a c = h1 ++ hset z a c := fun z c => hset_app hA
  have sB : ∀ z c, hset (h1 ++ z) b c = h1 ++ hset z b c := fun z c => hset_app hB
  refine gK.go ?_
  simp -implicitDefEqProofs [hb1, hcell, hst, hcl, gA, gB, sA, sB]
  refine .drop b (.drop a (.base ?_))
  rw [hdel_app hB, hdel_app hA]
  refine ⟨h1, ⟨_, rfl, o⟩, fun i hi => (hd1 i hi).2.2, ?_⟩
  simp [hdel, hb1]
abbrev c_laws_szComplex_o0 : List AJ := [.o ⟨(some 2), none, false, .box false 1 (.t 0), none⟩, .o ⟨(some 4), none, false, .mv (.c (.int .i64 0)), (some [1, 2])⟩]
def c_laws_szComplex_0 : ACode := .region c_laws_szComplex_o0
abbrev c_laws_szComplex_o1 : List AJ := [.o ⟨(some 5), none, false, .fieldA 0 (.t 2), none⟩, .o ⟨(some 6), none, false, .load 1 false (.t 5), none⟩, .o ⟨(some 7), none, false, .mv (.t 1), none⟩, .o ⟨(some 8), none, false, .call 48 [(.t 6), (.t 7)], none⟩, .o ⟨(some 1), none, false, .mv (.t 8), (some [1])⟩]
def c_laws_szComplex_1 : ACode := .region c_laws_szComplex_o1
abbrev c_laws_szComplex_o2 : List AJ := [.o ⟨(some 9), none, false, .mv (.t 1), none⟩, .o ⟨(some 10), none, false, .bin .lss (.t 9) (.c (.int .i64 0)), (some [1, 10])⟩]
def c_laws_szComplex_2 : ACode := .region c_laws_szComplex_o2
abbrev c_laws_szComplex_o3 : List AJ := [.o ⟨(some 4), none, false, .mv (.c (.int .i64 (-1))), (some [4])⟩]
def c_laws_szComplex_3 : ACode := .region c_laws_szComplex_o3
def c_laws_szComplex_4 : ACode := .seq c_laws_szComplex_3 .ret
def c_laws_szComplex_5 : ACode := .cond (.t 10) c_laws_szComplex_4 .skip
def c_laws_szComplex_6 : ACode := .seq c_laws_szComplex_2 c_laws_szComplex_5
abbrev c_laws_szComplex_o4 : List AJ := [.o ⟨(some 11), none, false, .mv (.t 1), none⟩, .o ⟨(some 4), none, false, .mv (.t 11), (some [4])⟩]
def c_laws_szComplex_7 : ACode := .region c_laws_szComplex_o4
def c_laws_szComplex_8 : ACode := .seq c_laws_szComplex_7 .ret
def c_laws_szComplex_9 : ACode := .seq c_laws_szComplex_6 c_laws_szComplex_8
def c_laws_szComplex_10 : ACode := .seq c_laws_szComplex_1 c_laws_szComplex_9
def c_laws_szComplex_11 : ACode := .seq c_laws_szComplex_0 c_laws_szComplex_10
section
variable (C : Cx) (n : Nat) (sk : List AItem) (e : Env) (h : Heap) (R : AV → Heap → Prop)
@[simp, simp ↓] theorem c_laws_szComplex_0_r : vc2 C (n + 1) [] (.code c_laws_szComplex_0 :: sk) e h R = (vc2 C n c_laws_szComplex_o0 sk e h R) := nr rfl
@[simp, simp ↓] theorem c_laws_szComplex_1_r : vc2 C (n + 1) [] (.code c_laws_szComplex_1 :: sk) e h R = (vc2 C n c_laws_szComplex_o1 sk e h R) := nr rfl
@[simp, simp ↓] theorem c_laws_szComplex_2_r : vc2 C (n + 1) [] (.code c_laws_szComplex_2 :: sk) e h R = (vc2 C n c_laws_szComplex_o2 sk e h R) := nr rfl
@[simp, simp ↓] theorem c_laws_szComplex_3_r : vc2 C (n + 1) [] (.code c_laws_szComplex_3 :: sk) e h R = (vc2 C n c_laws_szComplex_o3 sk e h R) := nr rfl
@[simp, simp ↓] theorem c_laws_szComplex_4_r : vc2 C (n + 1) [] (.code c_laws_szComplex_4 :: sk) e h R = (vc2 C n [] (.code c_laws_szComplex_3 :: .code .ret :: sk) e h R) := nr rfl
@[simp, simp ↓] theorem c_laws_szComplex_5_r : vc2 C (n + 1) [] (.code c_laws_szComplex_5 :: sk) e h R = (condK (ev e (.t 10)) (vc2 C n [] (.code c_laws_szComplex_4 :: sk) e h R) (vc2 C n [] (.code .skip :: sk) e h R)) := nr rfl
@[simp, simp ↓] theorem c_laws_szComplex_6_r : vc2 C (n + 1) [] (.code c_laws_szComplex_6 :: sk) e h R = (vc2 C n [] (.code c_laws_szComplex_2 :: .code c_laws_szComplex_5 :: sk) e h R) := nr rfl
@[simp, simp ↓] theorem c_laws_szComplex_7_r : vc2 C (n + 1) [] (.code c_laws_szComplex_7 :: sk) e h R = (vc2 C n c_laws_szComplex_o4 sk e h R) := nr rfl
@[simp, simp ↓] theorem c_laws_szComplex_8_r : vc2 C (n + 1) [] (.code c_laws_szComplex_8 :: sk) e h R = (vc2 C n [] (.code c_laws_szComplex_7 :: .code .ret :: sk) e h R) := nr rfl
@[simp, simp ↓] theorem c_laws_szComplex_9_r : vc2 C (n + 1) [] (.code c_laws_szComplex_9 :: sk) e h R = (vc2 C n [] (.code c_laws_szComplex_6 :: .code c_laws_szComplex_8 :: sk) e h R) := nr rfl
@[simp, simp ↓] theorem c_laws_szComplex_10_r : vc2 C (n + 1) [] (.code c_laws_szComplex_10 :: sk) e h R = (vc2 C n [] (.code c_laws_szComplex_1 :: .code c_laws_szComplex_9 :: sk) e h R) := nr rfl
@[simp, simp ↓] theorem c_laws_szComplex_11_r : vc2 C (n + 1) [] (.code c_laws_szComplex_11 :: sk) e h R = (vc2 C n [] (.code c_laws_szComplex_0 :: .code c_laws_szComplex_10 :: sk) e h R) := nr rfl
end
noncomputable def c_laws_szComplex_C (orc : Orc) : Cx := ⟨Try.prog, [], 32, 12, [.tmp 4], orc⟩
@[simp] theorem c_laws_szComplex_C_P (orc : Orc) : (c_laws_szComplex_C orc).P = Try.prog := nr rfl
@[simp] theorem c_laws_szComplex_C_o (orc : Orc) : (c_laws_szComplex_C orc).orc = orc := nr rfl
@[simp] theorem c_laws_szComplex_C_r (orc : Orc) : (c_laws_szComplex_C orc).res = [.tmp 4] := nr rfl
theorem c_laws_szComplex_of {args : List AV} {h : Heap} {R : AV → Heap → Prop} {k : Nat} (ha : args.length = k) {orc : Orc} (hp : Pure Try.prog orc) (hk : Is (c_laws_szComplex_C orc) Try.f32 → Run2 (c_laws_szComplex_C orc) [.code c_laws_szComplex_11] (argEnv 0 args) h (Post R)) (hle : k ≤ 12 := by simp) : ACalls Try.prog 32 args h R :=
  contract2 [] c_laws_szComplex_11 [.tmp 4] Try.func32 (by decide +kernel) rfl (by kernel_rfl) (by rw [ha]; exact hle) (by kernel_rfl) hp hk
theorem c_laws_szComplex_of0 {args : List AV} {h : Heap} {R : AV → Heap → Prop} {k : Nat} (ha : args.length = k) {orc : Orc} (hp : Pure Try.prog orc) (hk : Is (c_laws_szComplex_C orc) Try.f32 → Run2 (c_laws_szComplex_C orc) [.code c_laws_szComplex_11] (argEnv 0 args) h R) (hle : k ≤ 12 := by simp) : ACalls Try.prog 32 args h R :=
  contract20 [] c_laws_szComplex_11 [.tmp 4] Try.func32 (by decide +kernel) rfl (by kernel_rfl) (by rw [ha]; exact hle) (by kernel_rfl) hp hk
theorem szCx_c (rs : List (List Int)) (n : Int) (h : Heap) (hn : 0 ≤ n ∧ n ≤ 1048576) (hw : wfSS rs) : ACalls Try.prog 32 [cx rs, .int .i64 n] h (fun v h' => v = .int .i64 (if n < ssTot rs then -1 else n - ssTot rs) ∧ h' = h) := by
  refine c_laws_szComplex_of0 rfl orcL_p fun I => ?_
  refine Run2.of I 1000 ?_
  simp -implicitDefEqProofs [hn.1, hn.2, hw]
  grind
abbrev c_laws_eqComplex_o0 : List AJ := [.o ⟨(some 2), none, false, .box false 1 (.t 0), none⟩, .o ⟨(some 3), none, false, .box false 1 (.t 1), none⟩, .o ⟨(some 4), none, false, .mv (.c (.bool false)), (some [2, 3])⟩]
def c_laws_eqComplex_0 : ACode := .region c_laws_eqComplex_o0
abbrev c_laws_eqComplex_o1 : List AJ := [.o ⟨(some 5), none, false, .fieldA 0 (.t 2), none⟩, .o ⟨(some 6), none, false, .load 1 false (.t 5), none⟩, .o ⟨(some 7), none, false, .fieldA 0 (.t 3), none⟩, .o ⟨(some 8), none, false, .load 1 false (.t 7), none⟩, .o ⟨(some 9), none, false, .call 45 [(.t 6), (.t 8)], none⟩, .o ⟨(some 10), none, false, .un .not (.t 9), (some [10])⟩]
def c_laws_eqComplex_1 : ACode := .region c_laws_eqComplex_o1
abbrev c_laws_eqComplex_o2 : List AJ := [.o ⟨(some 4), none, false, .mv (.c (.bool false)), (some [4])⟩]
def c_laws_eqComplex_2 : ACode := .region c_laws_eqComplex_o2
def c_laws_eqComplex_3 : ACode := .seq c_laws_eqComplex_2 .ret
def c_laws_eqComplex_4 : ACode := .cond (.t 10) c_laws_eqComplex_3 .skip
def c_laws_eqComplex_5 : ACode := .seq c_laws_eqComplex_1 c_laws_eqComplex_4
abbrev c_laws_eqComplex_o3 : List AJ := [.o ⟨(some 4), none, false, .mv (.c (.bool true)), (some [4])⟩]
def c_laws_eqComplex_6 : ACode := .region c_laws_eqComplex_o3
def c_laws_eqComplex_7 : ACode := .seq c_laws_eqComplex_6 .ret
def c_laws_eqComplex_8 : ACode := .seq c_laws_eqComplex_5 c_laws_eqComplex_7
def c_laws_eqComplex_9 : ACode := .seq c_laws_eqComplex_0 c_laws_eqComplex_8
section
variable (C : Cx) (n : Nat) (sk : List AItem) (e : Env) (h : Heap) (R : AV → Heap → Prop)
@[simp, simp ↓] theorem c_laws_eqComplex_0_r : vc2 C (n + 1) [] (.code c_laws_eqComplex_0 :: sk) e h R = (vc2 C n c_laws_eqComplex_o0 sk e h R) := nr rfl
@[simp, simp ↓] theorem c_laws_eqComplex_1_r : vc2 C (n + 1) [] (.code c_laws_eqComplex_1 :: sk) e h R = (vc2 C n c_laws_eqComplex_o1 sk e h R) := nr rfl
@[simp, simp ↓] theorem c_laws_eqComplex_2_r : vc2 C (n + 1) [] (.code c_laws_eqComplex_2 :: sk) e h R = (vc2 C n c_laws_eqComplex_o2 sk e h R) := nr rfl
@[simp, simp ↓] theorem c_laws_eqComplex_3_r : vc2 C (n + 1) [] (.code c_laws_eqComplex_3 :: sk) e h R = (vc2 C n [] (.code c_laws_eqComplex_2 :: .code .ret :: sk) e h R) := nr rfl
@[simp, simp ↓] theorem c_laws_eqComplex_4_r : vc2 C (n + 1) [] (.code c_laws_eqComplex_4 :: sk) e h R = (condK (ev e (.t 10)) (vc2 C n [] (.code c_laws_eqComplex_3 :: sk) e h R) (vc2 C n [] (.code .skip :: sk) e h R)) := nr rfl
@[simp, simp ↓] theorem c_laws_eqComplex_5_r : vc2 C (n + 1) [] (.code c_laws_eqComplex_5 :: sk) e h R = (vc2 C n [] (.code c_laws_eqComplex_1 :: .code c_laws_eqComplex_4 :: sk) e h R) := nr rfl
@[simp, simp ↓] theorem c_laws_eqComplex_6_r : vc2 C (n + 1) [] (.code c_laws_eqComplex_6 :: sk) e h R = (vc2 C n c_laws_eqComplex_o3 sk e h R) := nr rfl
@[simp, simp ↓] theorem c_laws_eqComplex_7_r : vc2 C (n + 1) [] (.code c_laws_eqComplex_7 :: sk) e h R = (vc2 C n [] (.code c_laws_eqComplex_6 :: .code .ret :: sk) e h R) := nr rfl
@[simp, simp ↓] theorem c_laws_eqComplex_8_r : vc2 C (n + 1) [] (.code c_laws_eqComplex_8 :: sk) e h R = (vc2 C n [] (.code c_laws_eqComplex_5 :: .code c_laws_eqComplex_7 :: sk) e h R) := nr rfl
@[simp, simp ↓] theorem c_laws_eqComplex_9_r : vc2 C (n + 1) [] (.code c_laws_eqComplex_9 :: sk) e h R = (vc2 C n [] (.code c_laws_eqComplex_0 :: .code c_laws_eqComplex_8 :: sk) e h R) := nr rfl
end
noncomputable def c_laws_eqComplex_C (orc : Orc) : Cx := ⟨Try.prog, [], 26, 11, [.tmp 4], orc⟩
@[simp] theorem c_laws_eqComplex_C_P (orc : Orc) : (c_laws_eqComplex_C orc).P = Try.prog := nr rfl
@[simp] theorem c_laws_eqComplex_C_o (orc : Orc) : (c_laws_eqComplex_C orc).orc = orc := nr rfl
@[simp] theorem c_laws_eqComplex_C_r (orc : Orc) : (c_laws_eqComplex_C orc).res = [.tmp 4] := nr rfl
theorem c_laws_eqComplex_of {args : List AV} {h : Heap} {R : AV → Heap → Prop} {k : Nat} (ha : args.length = k) {orc : Orc} (hp : Pure Try.prog orc) (hk : Is (c_laws_eqComplex_C orc) Try.f26 → Run2 (c_laws_eqComplex_C orc) [.code c_laws_eqComplex_9] (argEnv 0 args) h (Post R)) (hle : k ≤ 11 := by simp) : ACalls Try.prog 26 args h R :=
  contract2 [] c_laws_eqComplex_9 [.tmp 4] Try.func26 (by decide +kernel) rfl (by kernel_rfl) (by rw [ha]; exact hle) (by kernel_rfl) hp hk
theorem c_laws_eqComplex_of0 {args : List AV} {h : Heap} {R : AV → Heap → Prop} {k : Nat} (ha : args.length = k) {orc : Orc} (hp : Pure Try.prog orc) (hk : Is (c_laws_eqComplex_C orc) Try.f26 → Run2 (c_laws_eqComplex_C orc) [.code c_laws_eqComplex_9] (argEnv 0 args) h R) (hle : k ≤ 11 := by simp) : ACalls Try.prog 26 args h R :=
  contract20 [] c_laws_eqComplex_9 [.tmp 4] Try.func26 (by decide +kernel) rfl (by kernel_rfl) (by rw [ha]; exact hle) (by kernel_rfl) hp hk
theorem eqCx_c (rs qs : List (List Int)) (h : Heap) (hl : ssTot rs ≤ 1048576) : ACalls Try.prog 26 [cx rs, cx qs] h (fun v h' => v = .bool (decide (rs = qs)) ∧ h' = h) := by
  have hf := fit_of_tot hl
  refine c_laws_eqComplex_of0 rfl orcL_p fun I => ?_
  refine Run2.of I 1000 ?_
  simp -implicitDefEqProofs [hf]
abbrev c_laws_toFiltration_o0 : List AJ := [.o ⟨(some 1), none, false, .box false 2 (.t 0), none⟩, .o ⟨(some 2), none, false, .alloc true 2 (.agg [.nilsl, .nilsl]), (some [1, 2])⟩]
def c_laws_toFiltration_0 : ACode := .region c_laws_toFiltration_o0
abbrev c_laws_toFiltration_o1 : List AJ := [.o ⟨(some 3), none, false, .alloc true 2 (.agg [.nilsl, .nilsl]), (some [1, 2, 3])⟩]
def c_laws_toFiltration_1 : ACode := .region c_laws_toFiltration_o1
abbrev c_laws_toFiltration_o2 : List AJ := [.o ⟨(some 4), none, false, .fieldA 0 (.t 1), none⟩, .o ⟨(some 5), none, false, .load 1 true (.t 4), none⟩, .o ⟨(some 6), none, false, .call 34 [(.t 5)], none⟩, .o ⟨(some 7), none, false, .fieldA 0 (.t 3), none⟩, .o ⟨none, none, false, .store 1 (.t 7) (.t 6), (some [1, 2, 3])⟩]
def c_laws_toFiltration_2 : ACode := .region c_laws_toFiltration_o2
abbrev c_laws_toFiltration_o3 : List AJ := [.o ⟨(some 8), none, false, .fieldA 1 (.t 1), none⟩, .o ⟨(some 9), none, false, .load 1 false (.t 8), none⟩, .o ⟨(some 10), none, false, .call 37 [(.t 9)], none⟩, .o ⟨(some 11), none, false, .fieldA 1 (.t 3), none⟩, .o ⟨none, none, false, .store 1 (.t 11) (.t 10), (some [2, 3])⟩]
def c_laws_toFiltration_3 : ACode := .region c_laws_toFiltration_o3
abbrev c_laws_toFiltration_o4 : List AJ := [.o ⟨(some 12), none, false, .load 2 true (.t 3), none⟩, .o ⟨none, none, false, .store 2 (.t 2) (.t 12), (some [2])⟩]
def c_laws_toFiltration_4 : ACode := .region c_laws_toFiltration_o4
def c_laws_toFiltration_5 : ACode := .seq c_laws_toFiltration_4 .ret
def c_laws_toFiltration_6 : ACode := .seq c_laws_toFiltration_3 c_laws_toFiltration_5
def c_laws_toFiltration_7 : ACode := .seq c_laws_toFiltration_2 c_laws_toFiltration_6
def c_laws_toFiltration_8 : ACode := .seq c_laws_toFiltration_1 c_laws_toFiltration_7
def c_laws_toFiltration_9 : ACode := .seq c_laws_toFiltration_0 c_laws_toFiltration_8
section
variable (C : Cx) (n : Nat) (sk : List AItem) (e : Env) (h : Heap) (R : AV → Heap → Prop)
@[simp, simp ↓] theorem c_laws_toFiltration_0_r : vc2 C (n + 1) [] (.code c_laws_toFiltration_0 :: sk) e h R = (vc2 C n c_laws_toFiltration_o0 sk e h R) := nr rfl
@[simp, simp ↓] theorem c_laws_toFiltration_1_r : vc2 C (n + 1) [] (.code c_laws_toFiltration_1 :: sk) e h R = (vc2 C n c_laws_toFiltration_o1 sk e h R) := nr rfl
@[simp, simp ↓] theorem c_laws_toFiltration_2_r : vc2 C (n + 1) [] (.code c_laws_toFiltration_2 :: sk) e h R = (vc2 C n c_laws_toFiltration_o2 sk e h R) := nr rfl
@[simp, simp ↓] theorem c_laws_toFiltration_3_r : vc2 C (n + 1) [] (.code c_laws_toFiltration_3 :: sk) e h R = (vc2 C n c_laws_toFiltration_o3 sk e h R) := nr rfl
@[simp, simp ↓] theorem c_laws_toFiltration_4_r : vc2 C (n + 1) [] (.code c_laws_toFiltration_4 :: sk) e h R = (vc2 C n c_laws_toFiltration_o4 sk e h R) := nr rfl
@[simp, simp ↓] theorem c_laws_toFiltration_5_r : vc2 C (n + 1) [] (.code c_laws_toFiltration_5 :: sk) e h R = (vc2 C n [] (.code c_laws_toFiltration_4 :: .code .ret :: sk) e h R) := nr rfl
@[simp, simp ↓] theorem c_laws_toFiltration_6_r : vc2 C (n + 1) [] (.code c_laws_toFiltration_6 :: sk) e h R = (vc2 C n [] (.code c_laws_toFiltration_3 :: .code c_laws_toFiltration_5 :: sk) e h R) := nr rfl
@[simp, simp ↓] theorem c_laws_toFiltration_7_r : vc2 C (n + 1) [] (.code c_laws_toFiltration_7 :: sk) e h R = (vc2 C n [] (.code c_laws_toFiltration_2 :: .code c_laws_toFiltration_6 :: sk) e h R) := nr rfl
@[simp, simp ↓] theorem c_laws_toFiltration_8_r : vc2 C (n + 1) [] (.code c_laws_toFiltration_8 :: sk) e h R = (vc2 C n [] (.code c_laws_toFiltration_1 :: .code c_laws_toFiltration_7 :: sk) e h R) := nr rfl
@[simp, simp ↓] theorem c_laws_toFiltration_9_r : vc2 C (n + 1) [] (.code c_laws_toFiltration_9 :: sk) e h R = (vc2 C n [] (.code c_laws_toFiltration_0 :: .code c_laws_toFiltration_8 :: sk) e h R) := nr rfl
end
noncomputable def c_laws_toFiltration_C (orc : Orc) : Cx := ⟨Try.prog, [2, 3], 15, 13, [.cell 2 2 true], orc⟩
@[simp] theorem c_laws_toFiltration_C_P (orc : Orc) : (c_laws_toFiltration_C orc).P = Try.prog := nr rfl
@[simp] theorem c_laws_toFiltration_C_o (orc : Orc) : (c_laws_toFiltration_C orc).orc = orc := nr rfl
@[simp] theorem c_laws_toFiltration_C_r (orc : Orc) : (c_laws_toFiltration_C orc).res = [.cell 2 2 true] := nr rfl
theorem c_laws_toFiltration_of {args : List AV} {h : Heap} {R : AV → Heap → Prop} {k : Nat} (ha : args.length = k) {orc : Orc} (hp : Pure Try.prog orc) (hk : Is (c_laws_toFiltration_C orc) Try.f15 → Run2 (c_laws_toFiltration_C orc) [.code c_laws_toFiltration_9] (argEnv 0 args) h (Post R)) (hle : k ≤ 13 := by simp) : ACalls Try.prog 15 args h R :=
  contract2 [2, 3] c_laws_toFiltration_9 [.cell 2 2 true] Try.func15 (by decide +kernel) rfl (by kernel_rfl) (by rw [ha]; exact hle) (by kernel_rfl) hp hk
theorem c_laws_toFiltration_of0 {args : List AV} {h : Heap} {R : AV → Heap → Prop} {k : Nat} (ha : args.length = k) {orc : Orc} (hp : Pure Try.prog orc) (hk : Is (c_laws_toFiltration_C orc) Try.f15 → Run2 (c_laws_toFiltration_C orc) [.code c_laws_toFiltration_9] (argEnv 0 args) h R) (hle : k ≤ 13 := by simp) : ACalls Try.prog 15 args h R :=
  contract20 [2, 3] c_laws_toFiltration_9 [.cell 2 2 true] Try.func15 (by decide +kernel) rfl (by kernel_rfl) (by rw [ha]; exact hle) (by kernel_rfl) hp hk
theorem Fil.lens {x : Fil} (hl : x.tot ≤ 1048576) : ssTot x.rs ≤ 1048576 ∧ x.ts.length ≤ 1048576 := by unfold Fil.tot at hl; omega
theorem toFil_c (x : Fil) (h : Heap) (hl : x.tot ≤ 1048576) : ACalls Try.prog 15 [x.av] h (fun v h' => v = x.av ∧ h' = h) := by
  obtain ⟨hl1, hl2⟩ := x.lens hl
  refine c_laws_toFiltration_of rfl orcL_p fun I => ?_
  refine Run2.of I 1000 ?_
  simp -implicitDefEqProofs
  intro a ha b hb1 hb2
  refine gK.go ?_
  simp -implicitDefEqProofs [hb1]
  refine (toCx_c x.rs _ hl1).mono ?_
  rintro v h' ⟨rfl, rfl⟩
  refine gK.go ?_
  simp -implicitDefEqProofs [hb1, hl2]
  refine .drop b (.drop a (.base ?_))
  simp -implicitDefEqProofs [hb1]
theorem toFil_o (x : Fil) (h : Heap) (hl : x.tot ≤ 1048576) : ACalls Try.prog 15 [x.av] h (fun v h' => ∃ h1, OwnFil v x h1 ∧ (∀ i ∈ dom h1, i ∉ dom h) ∧ h' = h1 ++ h) := by
  obtain ⟨hl1, hl2⟩ := x.lens hl
  refine ACalls.permR ?_
  refine c_laws_toFiltration_of rfl noPure fun I => ?_
  refine Run2.of I 1000 ?_
  simp -implicitDefEqProofs
  intro a ha b hb1 hb2
  refine gK.go ?_
  simp -implicitDefEqProofs [hb1]
  refine (toCx_o x.rs _ hl1).mono ?_
  rintro u h' ⟨h1, ⟨u, rfl, o⟩, hd, rfl⟩
  have hcell := o.cell
  have hst := stor_of hcell
  have hcl := cells_of hcell
  have hd1 : ∀ i ∈ dom h1, i ≠ b ∧ i ≠ a ∧ i ∉ dom h := fun i hi => by
    have := hd i hi
    simpa [dom] using this
  have hA : a ∉ dom h1 := fun hm => (hd1 a hm).2.1 rfl
  have hB : b ∉ dom h1 := fun hm => (hd1 b hm).1 rfl
  have gA : ∀ z, hget (h1 ++ z) a = hget z a := fun z => hget_app hA
  have gB : ∀ z, hget (h1 ++ z) b = hget z b := fun z => hget_app hB
  have sA : ∀ z c, hset (h1 ++ z) a c = h1 ++ hset z a c := fun z c => hset_app hA
  have sB : ∀ z c, hset (h1 ++ z) b c = h1 ++ hset z b c := fun z c => hset_app hB
  refine gK.go ?_
  simp -implicitDefEqProofs [hb1, hcell, hst, hcl, gA, gB, sA, sB]
  refine (toInt64S_o x.ts _ hl2).mono ?_
  rintro w h' ⟨h2, o2, hd2, rfl⟩
  have hcell2 := o2.cell
  have hst2 := stor_of hcell2
  have hcl2 := cells_of hcell2
  have hd3 : ∀ i ∈ dom h2, i ∉ dom h1 ∧ i ≠ b ∧ i ≠ a ∧ i ∉ dom h := fun i hi => by
    have := hd2 i hi
    simpa [dom] using this
  have hA2 : a ∉ dom h2 := fun hm => (hd3 a hm).2.2.1 rfl
  have hB2 : b ∉ dom h2 := fun hm => (hd3 b hm).2.1 rfl
  have gA2 : ∀ z, hget (h2 ++ z) a = hget z a := fun z => hget_app hA2
  have gB2 : ∀ z, hget (h2 ++ z) b = hget z b := fun z => hget_app hB2
  have sA2 : ∀ z c, hset (h2 ++ z) a c = h2 ++ hset z a c := fun z c => hset_app hA2
  have sB2 : ∀ z c, hset (h2 ++ z) b c = h2 ++ hset z b c := fun z c => hset_app hB2
  refine gK.go ?_
  simp -implicitDefEqProofs [hb1, hcell, hst, hcl, gA, gB, sA, sB, hst2, hcl2, gA2, gB2, sA2, sB2, hcell2]
  refine .drop b (.drop a (.base ?_))
  rw [hdel_app hB2, hdel_app hB, hdel_app hA2, hdel_app hA]
  intro _
  refine ⟨(h1 ++ h2) ++ h, ?_, h1 ++ h2, ⟨_, _, h1, h2, rfl, o, o2, fun i hi hi2 => (hd3 i hi2).1 hi, rfl⟩, fun i hi => ?_, rfl⟩
  · simp [hdel, hb1]
    rw [← List.append_assoc, ← List.append_assoc]
    exact List.perm_append_comm.append_right h
  · rw [dom_append, List.mem_append] at hi
    rcases hi with hi | hi
    · exact (hd1 i hi).2.2
    · exact (hd3 i hi).2.2.2
abbrev c_laws_szFiltration_o0 : List AJ := [.o ⟨(some 2), none, false, .box false 2 (.t 0), none⟩, .o ⟨(some 4), none, false, .mv (.c (.int .i64 0)), (some [1, 2])⟩]
def c_laws_szFiltration_0 : ACode := .region c_laws_szFiltration_o0
abbrev c_laws_szFiltration_o1 : List AJ := [.o ⟨(some 5), none, false, .fieldA 0 (.t 2), none⟩, .o ⟨(some 6), none, false, .load 1 true (.t 5), none⟩, .o ⟨(some 7), none, false, .mv (.t 1), none⟩, .o ⟨(some 8), none, false, .call 32 [(.t 6), (.t 7)], none⟩, .o ⟨(some 1), none, false, .mv (.t 8), (some [1, 2])⟩]
def c_laws_szFiltration_1 : ACode := .region c_laws_szFiltration_o1
abbrev c_laws_szFiltration_o2 : List AJ := [.o ⟨(some 9), none, false, .mv (.t 1), none⟩, .o ⟨(some 10), none, false, .bin .lss (.t 9) (.c (.int .i64 0)), (some [1, 2, 10])⟩]
def c_laws_szFiltration_2 : ACode := .region c_laws_szFiltration_o2
abbrev c_laws_szFiltration_o3 : List AJ := [.o ⟨(some 4), none, false, .mv (.c (.int .i64 (-1))), (some [4])⟩]
def c_laws_szFiltration_3 : ACode := .region c_laws_szFiltration_o3
def c_laws_szFiltration_4 : ACode := .seq c_laws_szFiltration_3 .ret
def c_laws_szFiltration_5 : ACode := .cond (.t 10) c_laws_szFiltration_4 .skip
def c_laws_szFiltration_6 : ACode := .seq c_laws_szFiltration_2 c_laws_szFiltration_5
abbrev c_laws_szFiltration_o4 : List AJ := [.o ⟨(some 11), none, false, .fieldA 1 (.t 2), none⟩, .o ⟨(some 12), none, false, .load 1 false (.t 11), none⟩, .o ⟨(some 13), none, false, .mv (.t 1), none⟩, .o ⟨(some 14), none, false, .call 52 [(.t 12), (.t 13)], none⟩, .o ⟨(some 1), none, false, .mv (.t 14), (some [1])⟩]
def c_laws_szFiltration_7 : ACode := .region c_laws_szFiltration_o4
abbrev c_laws_szFiltration_o5 : List AJ := [.o ⟨(some 15), none, false, .mv (.t 1), none⟩, .o ⟨(some 16), none, false, .bin .lss (.t 15) (.c (.int .i64 0)), (some [1, 16])⟩]
def c_laws_szFiltration_8 : ACode := .region c_laws_szFiltration_o5
abbrev c_laws_szFiltration_o6 : List AJ := [.o ⟨(some 4), none, false, .mv (.c (.int .i64 (-1))), (some [4])⟩]
def c_laws_szFiltration_9 : ACode := .region c_laws_szFiltration_o6
def c_laws_szFiltration_10 : ACode := .seq c_laws_szFiltration_9 .ret
def c_laws_szFiltration_11 : ACode := .cond (.t 16) c_laws_szFiltration_10 .skip
def c_laws_szFiltration_12 : ACode := .seq c_laws_szFiltration_8 c_laws_szFiltration_11
abbrev c_laws_szFiltration_o7 : List AJ := [.o ⟨(some 17), none, false, .mv (.t 1), none⟩, .o ⟨(some 4), none, false, .mv (.t 17), (some [4])⟩]
def c_laws_szFiltration_13 : ACode := .region c_laws_szFiltration_o7
def c_laws_szFiltration_14 : ACode := .seq c_laws_szFiltration_13 .ret
def c_laws_szFiltration_15 : ACode := .seq c_laws_szFiltration_12 c_laws_szFiltration_14
def c_laws_szFiltration_16 : ACode := .seq c_laws_szFiltration_7 c_laws_szFiltration_15
def c_laws_szFiltration_17 : ACode := .seq c_laws_szFiltration_6 c_laws_szFiltration_16
def c_laws_szFiltration_18 : ACode := .seq c_laws_szFiltration_1 c_laws_szFiltration_17
def c_laws_szFiltration_19 : ACode := .seq c_laws_szFiltration_0 c_laws_szFiltration_18
section
variable (C : Cx) (n : Nat) (sk : List AItem) (e : Env) (h : Heap) (R : AV → Heap → Prop)
@[simp, simp ↓] theorem c_laws_szFiltration_0_r : vc2 C (n + 1) [] (.code c_laws_szFiltration_0 :: sk) e h R = (vc2 C n c_laws_szFiltration_o0 sk e h R) := nr rfl
@[simp, simp ↓] theorem c_laws_szFiltration_1_r : vc2 C (n + 1) [] (.code c_laws_szFiltration_1 :: sk) e h R = (vc2 C n c_laws_szFiltration_o1 sk e h R) := nr rfl
@[simp, simp ↓] theorem c_laws_szFiltration_2_r : vc2 C (n + 1) [] (.code c_laws_szFiltration_2 :: sk) e h R = (vc2 C n c_laws_szFiltration_o2 sk e h R) := nr rfl
@[simp, simp ↓] theorem c_laws_szFiltration_3_r : vc2 C (n + 1) [] (.code c_laws_szFiltration_3 :: sk) e h R = (vc2 C n c_laws_szFiltration_o3 sk e h R) := nr rfl
@[simp, simp ↓] theorem c_laws_szFiltration_4_r : vc2 C (n + 1) [] (.code c_laws_szFiltration_4 :: sk) e h R = (vc2 C n [] (.code c_laws_szFiltration_3 :: .code .ret :: sk) e h R) := nr rfl
@[simp, simp ↓] theorem c_laws_szFiltration_5_r : vc2 C (n + 1) [] (.code c_laws_szFiltration_5 :: sk) e h R = (condK (ev e (.t 10)) (vc2 C n [] (.code c_laws_szFiltration_4 :: sk) e h R) (vc2 C n [] (.code .skip :: sk) e h R)) := nr rfl
@[simp, simp ↓] theorem c_laws_szFiltration_6_r : vc2 C (n + 1) [] (.code c_laws_szFiltration_6 :: sk) e h R = (vc2 C n [] (.code c_laws_szFiltration_2 :: .code c_laws_szFiltration_5 :: sk) e h R) := nr rfl
@[simp, simp ↓] theorem c_laws_szFiltration_7_r : vc2 C (n + 1) [] (.code c_laws_szFiltration_7 :: sk) e h R = (vc2 C n c_laws_szFiltration_o4 sk e h R) := nr rfl
@[simp, simp ↓] theorem c_laws_szFiltration_8_r : vc2 C (n + 1) [] (.code c_laws_szFiltration_8 :: sk) e h R = (vc2 C n c_laws_szFiltration_o5 sk e h R) := nr rfl
@[simp, simp ↓] theorem c_laws_szFiltration_9_r : vc2 C (n + 1) [] (.code c_laws_szFiltration_9 :: sk) e h R = (vc2 C n c_laws_szFiltration_o6 sk e h R) := nr rfl
@[simp, simp ↓] theorem c_laws_szFiltration_10_r : vc2 C (n + 1) [] (.code c_laws_szFiltration_10 :: sk) e h R = (vc2 C n [] (.code c_laws_szFiltration_9 :: .code .ret :: sk) e h R) := nr rfl
@[simp, simp ↓] theorem c_laws_szFiltration_11_r : vc2 C (n + 1) [] (.code c_laws_szFiltration_11 :: sk) e h R = (condK (ev e (.t 16)) (vc2 C n [] (.code c_laws_szFiltration_10 :: sk) e h R) (vc2 C n [] (.code .skip :: sk) e h R)) := nr rfl
@[simp, simp ↓] theorem c_laws_szFiltration_12_r : vc2 C (n + 1) [] (.code c_laws_szFiltration_12 :: sk) e h R = (vc2 C n [] (.code c_laws_szFiltration_8 :: .code c_laws_szFiltration_11 :: sk) e h R) := nr rfl
@[simp, simp ↓] theorem c_laws_szFiltration_13_r : vc2 C (n + 1) [] (.code c_laws_szFiltration_13 :: sk) e h R = (vc2 C n c_laws_szFiltration_o7 sk e h R) := nr rfl
@[simp, simp ↓] theorem c_laws_szFiltration_14_r : vc2 C (n + 1) [] (.code c_laws_szFiltration_14 :: sk) e h R = (vc2 C n [] (.code c_laws_szFiltration_13 :: .code .ret :: sk) e h R) := nr rfl
@[simp, simp ↓] theorem c_laws_szFiltration_15_r : vc2 C (n + 1) [] (.code c_laws_szFiltration_15 :: sk) e h R = (vc2 C n [] (.code c_laws_szFiltration_12 :: .code c_laws_szFiltration_14 :: sk) e h R) := nr rfl
@[simp, simp ↓] theorem c_laws_szFiltration_16_r : vc2 C (n + 1) [] (.code c_laws_szFiltration_16 :: sk) e h R = (vc2 C n [] (.code c_laws_szFiltration_7 :: .code c_laws_szFiltration_15 :: sk) e h R) := nr rfl
@[simp, simp ↓] theorem c_laws_szFiltration_17_r : vc2 C (n + 1) [] (.code c_laws_szFiltration_17 :: sk) e h R = (vc2 C n [] (.code c_laws_szFiltration_6 :: .code c_laws_szFiltration_16 :: sk) e h R) := nr rfl
@[simp, simp ↓] theorem c_laws_szFiltration_18_r : vc2 C (n + 1) [] (.code c_laws_szFiltration_18 :: sk) e h R = (vc2 C n [] (.code c_laws_szFiltration_1 :: .code c_laws_szFiltration_17 :: sk) e h R) := nr rfl
@[simp, simp ↓] theorem c_laws_szFiltration_19_r : vc2 C (n + 1) [] (.code c_laws_szFiltration_19 :: sk) e h R = (vc2 C n [] (.code c_laws_szFiltration_0 :: .code c_laws_szFiltration_18 :: sk) e h R) := nr rfl
end
noncomputable def c_laws_szFiltration_C (orc : Orc) : Cx := ⟨Try.prog, [], 13, 18, [.tmp 4], orc⟩
@[simp] theorem c_laws_szFiltration_C_P (orc : Orc) : (c_laws_szFiltration_C orc).P = Try.prog := nr rfl
@[simp] theorem c_laws_szFiltration_C_o (orc : Orc) : (c_laws_szFiltration_C orc).orc = orc := nr rfl
@[simp] theorem c_laws_szFiltration_C_r (orc : Orc) : (c_laws_szFiltration_C orc).res = [.tmp 4] := nr rfl
theorem c_laws_szFiltration_of {args : List AV} {h : Heap} {R : AV → Heap → Prop} {k : Nat} (ha : args.length = k) {orc : Orc} (hp : Pure Try.prog orc) (hk : Is (c_laws_szFiltration_C orc) Try.f13 → Run2 (c_laws_szFiltration_C orc) [.code c_laws_szFiltration_19] (argEnv 0 args) h (Post R)) (hle : k ≤ 18 := by simp) : ACalls Try.prog 13 args h R :=
  contract2 [] c_laws_szFiltration_19 [.tmp 4] Try.func13 (by decide +kernel) rfl (by kernel_rfl) (by rw [ha]; exact hle) (by kernel_rfl) hp hk
theorem c_laws_szFiltration_of0 {args : List AV} {h : Heap} {R : AV → Heap → Prop} {k : Nat} (ha : args.length = k) {orc : Orc} (hp : Pure Try.prog orc) (hk : Is (c_laws_szFiltration_C orc) Try.f13 → Run2 (c_laws_szFiltration_C orc) [.code c_laws_szFiltration_19] (argEnv 0 args) h R) (hle : k ≤ 18 := by simp) : ACalls Try.prog 13 args h R :=
  contract20 [] c_laws_szFiltration_19 [.tmp 4] Try.func13 (by decide +kernel) rfl (by kernel_rfl) (by rw [ha]; exact hle) (by kernel_rfl) hp hk
theorem szFil_c (x : Fil) (n : Int) (h : Heap) (hn : 0 ≤ n ∧ n ≤ 1048576) (hw : x.wf) : ACalls Try.prog 13 [x.av, .int .i64 n] h (fun v h' => v = .int .i64 (if n < x.tot then -1 else n - x.tot) ∧ h' = h) := by
  have hw2 := hw.2.2
  refine c_laws_szFiltration_of0 rfl noPure fun I => ?_
  refine Run2.of I 1000 ?_
  simp -implicitDefEqProofs
  refine (szCx_c x.rs n h hn hw.1).mono ?_
  rintro v h' ⟨rfl, rfl⟩
  have e : (x.tot : Int) = ssTot x.rs + x.ts.length := by unfold Fil.tot; omega
  by_cases h1 : n < ssTot x.rs
  · refine gK.go ?_
    simp -implicitDefEqProofs [h1]
    omega
  · refine gK.go ?_
    simp -implicitDefEqProofs [h1]
    refine ⟨by omega, fun h2 => ?_⟩
    refine (szInt64S_c x.ts _ _ (by omega) hw2).mono ?_
    rintro v h' ⟨rfl, rfl⟩
    refine gK.go ?_
    simp -implicitDefEqProofs
    grind
abbrev c_laws_eqFiltration_o0 : List AJ := [.o ⟨(some 2), none, false, .box false 2 (.t 0), none⟩, .o ⟨(some 3), none, false, .box false 2 (.t 1), none⟩, .o ⟨(some 4), none, false, .mv (.c (.bool false)), (some [2, 3])⟩]
def c_laws_eqFiltration_0 : ACode := .region c_laws_eqFiltration_o0
abbrev c_laws_eqFiltration_o1 : List AJ := [.o ⟨(some 5), none, false, .fieldA 0 (.t 2), none⟩, .o ⟨(some 6), none, false, .load 1 true (.t 5), none⟩, .o ⟨(some 7), none, false, .fieldA 0 (.t 3), none⟩, .o ⟨(some 8), none, false, .load 1 true (.t 7), none⟩, .o ⟨(some 9), none, false, .call 26 [(.t 6), (.t 8)], none⟩, .o ⟨(some 10), none, false, .un .not (.t 9), (some [2, 3, 10])⟩]
def c_laws_eqFiltration_1 : ACode := .region c_laws_eqFiltration_o1
abbrev c_laws_eqFiltration_o2 : List AJ := [.o ⟨(some 4), none, false, .mv (.c (.bool false)), (some [4])⟩]
def c_laws_eqFiltration_2 : ACode := .region c_laws_eqFiltration_o2
def c_laws_eqFiltration_3 : ACode := .seq c_laws_eqFiltration_2 .ret
def c_laws_eqFiltration_4 : ACode := .cond (.t 10) c_laws_eqFiltration_3 .skip
def c_laws_eqFiltration_5 : ACode := .seq c_laws_eqFiltration_1 c_laws_eqFiltration_4
abbrev c_laws_eqFiltration_o3 : List AJ := [.o ⟨(some 11), none, false, .fieldA 1 (.t 2), none⟩, .o ⟨(some 12), none, false, .load 1 false (.t 11), none⟩, .o ⟨(some 13), none, false, .fieldA 1 (.t 3), none⟩, .o ⟨(some 14), none, false, .load 1 false (.t 13), none⟩, .o ⟨(some 15), none, false, .call 20 [(.t 12), (.t 14)], none⟩, .o ⟨(some 16), none, false, .un .not (.t 15), (some [16])⟩]
def c_laws_eqFiltration_6 : ACode := .region c_laws_eqFiltration_o3
abbrev c_laws_eqFiltration_o4 : List AJ := [.o ⟨(some 4), none, false, .mv (.c (.bool false)), (some [4])⟩]
def c_laws_eqFiltration_7 : ACode := .region c_laws_eqFiltration_o4
def c_laws_eqFiltration_8 : ACode := .seq c_laws_eqFiltration_7 .ret
def c_laws_eqFiltration_9 : ACode := .cond (.t 16) c_laws_eqFiltration_8 .skip
def c_laws_eqFiltration_10 : ACode := .seq c_laws_eqFiltration_6 c_laws_eqFiltration_9
abbrev c_laws_eqFiltration_o5 : List AJ := [.o ⟨(some 4), none, false, .mv (.c (.bool true)), (some [4])⟩]
def c_laws_eqFiltration_11 : ACode := .region c_laws_eqFiltration_o5
def c_laws_eqFiltration_12 : ACode := .seq c_laws_eqFiltration_11 .ret
def c_laws_eqFiltration_13 : ACode := .seq c_laws_eqFiltration_10 c_laws_eqFiltration_12
def c_laws_eqFiltration_14 : ACode := .seq c_laws_eqFiltration_5 c_laws_eqFiltration_13
def c_laws_eqFiltration_15 : ACode := .seq c_laws_eqFiltration_0 c_laws_eqFiltration_14
section
variable (C : Cx) (n : Nat) (sk : List AItem) (e : Env) (h : Heap) (R : AV → Heap → Prop)
@[simp, simp ↓] theorem c_laws_eqFiltration_0_r : vc2 C (n + 1) [] (.code c_laws_eqFiltration_0 :: sk) e h R = (vc2 C n c_laws_eqFiltration_o0 sk e h R) := nr rfl
@[simp, simp ↓] theorem c_laws_eqFiltration_1_r : vc2 C (n + 1) [] (.code c_laws_eqFiltration_1 :: sk) e h R = (vc2 C n c_laws_eqFiltration_o1 sk e h R) := nr rfl
@[simp, simp ↓] theorem c_laws_eqFiltration_2_r : vc2 C (n + 1) [] (.code c_laws_eqFiltration_2 :: sk) e h R = (vc2 C n c_laws_eqFiltration_o2 sk e h R) := nr rfl
@[simp, simp ↓] theorem c_laws_eqFiltration_3_r : vc2 C (n + 1) [] (.code c_laws_eqFiltration_3 :: sk) e h R = (vc2 C n [] (.code c_laws_eqFiltration_2 :: .code .ret :: sk) e h R) := nr rfl
@[simp, simp ↓] theorem c_laws_eqFiltration_4_r : vc2 C (n + 1) [] (.code c_laws_eqFiltration_4 :: sk) e h R = (condK (ev e (.t 10)) (vc2 C n [] (.code c_laws_eqFiltration_3 :: sk) e h R) (vc2 C n [] (.code .skip :: sk) e h R)) := nr rfl
@[simp, simp ↓] theorem c_laws_eqFiltration_5_r : vc2 C (n + 1) [] (.code c_laws_eqFiltration_5 :: sk) e h R = (vc2 C n [] (.code c_laws_eqFiltration_1 :: .code c_laws_eqFiltration_4 :: sk) e h R) := nr rfl
@[simp, simp ↓] theorem c_laws_eqFiltration_6_r : vc2 C (n + 1) [] (.code c_laws_eqFiltration_6 :: sk) e h R = (vc2 C n c_laws_eqFiltration_o3 sk e h R) := nr rfl
@[simp, simp ↓] theorem c_laws_eqFiltration_7_r : vc2 C (n + 1) [] (.code c_laws_eqFiltration_7 :: sk) e h R = (vc2 C n c_laws_eqFiltration_o4 sk e h R) := nr rfl
@[simp, simp ↓] theorem c_laws_eqFiltration_8_r : vc2 C (n + 1) [] (.code c_laws_eqFiltration_8 :: sk) e h R = (vc2 C n [] (.code c_laws_eqFiltration_7 :: .code .ret :: sk) e h R) := nr rfl
@[simp, simp ↓] theorem c_laws_eqFiltration_9_r : vc2 C (n + 1) [] (.code c_laws_eqFiltration_9 :: sk) e h R = (condK (ev e (.t 16)) (vc2 C n [] (.code c_laws_eqFiltration_8 :: sk) e h R) (vc2 C n [] (.code .skip :: sk) e h R)) := nr rfl
@[simp, simp ↓] theorem c_laws_eqFiltration_10_r : vc2 C (n + 1) [] (.code c_laws_eqFiltration_10 :: sk) e h R = (vc2 C n [] (.code c_laws_eqFiltration_6 :: .code c_laws_eqFiltration_9 :: sk) e h R) := nr rfl
@[simp, simp ↓] theorem c_laws_eqFiltration_11_r : vc2 C (n + 1) [] (.code c_laws_eqFiltration_11 :: sk) e h R = (vc2 C n c_laws_eqFiltration_o5 sk e h R) := nr rfl
@[simp, simp ↓] theorem c_laws_eqFiltration_12_r : vc2 C (n + 1) [] (.code c_laws_eqFiltration_12 :: sk) e h R = (vc2 C n [] (.code c_laws_eqFiltration_11 :: .code .ret :: sk) e h R) := nr rfl
@[simp, simp ↓] theorem c_laws_eqFiltration_13_r : vc2 C (n + 1) [] (.code c_laws_eqFiltration_13 :: sk) e h R = (vc2 C n [] (.code c_laws_eqFiltration_10 :: .code c_laws_eqFiltration_12 :: sk) e h R) := nr rfl
@[simp, simp ↓] theorem c_laws_eqFiltration_14_r : vc2 C (n + 1) [] (.code c_laws_eqFiltration_14 :: sk) e h R = (vc2 C n [] (.code c_laws_eqFiltration_5 :: .code c_laws_eqFiltration_13 :: sk) e h R) := nr rfl
@[simp, simp ↓] theorem c_laws_eqFiltration_15_r : vc2 C (n + 1) [] (.code c_laws_eqFiltration_15 :: sk) e h R = (vc2 C n [] (.code c_laws_eqFiltration_0 :: .code c_laws_eqFiltration_14 :: sk) e h R) := nr rfl
end
noncomputable def c_laws_eqFiltration_C (orc : Orc) : Cx := ⟨Try.prog, [], 17, 17, [.tmp 4], orc⟩
@[simp] theorem c_laws_eqFiltration_C_P (orc : Orc) : (c_laws_eqFiltration_C orc).P = Try.prog := nr rfl
@[simp] theorem c_laws_eqFiltration_C_o (orc : Orc) : (c_laws_eqFiltration_C orc).orc = orc := nr rfl
@[simp] theorem c_laws_eqFiltration_C_r (orc : Orc) : (c_laws_eqFiltration_C orc).res = [.tmp 4] := nr rfl
theorem c_laws_eqFiltration_of {args : List AV} {h : Heap} {R : AV → Heap → Prop} {k : Nat} (ha : args.length = k) {orc : Orc} (hp : Pure Try.prog orc) (hk : Is (c_laws_eqFiltration_C orc) Try.f17 → Run2 (c_laws_eqFiltration_C orc) [.code c_laws_eqFiltration_15] (argEnv 0 args) h (Post R)) (hle : k ≤ 17 := by simp) : ACalls Try.prog 17 args h R :=
  contract2 [] c_laws_eqFiltration_15 [.tmp 4] Try.func17 (by decide +kernel) rfl (by kernel_rfl) (by rw [ha]; exact hle) (by kernel_rfl) hp hk
theorem c_laws_eqFiltration_of0 {args : List AV} {h : Heap} {R : AV → Heap → Prop} {k : Nat} (ha : args.length = k) {orc : Orc} (hp : Pure Try.prog orc) (hk : Is (c_laws_eqFiltration_C orc) Try.f17 → Run2 (c_laws_eqFiltration_C orc) [.code c_laws_eqFiltration_15] (argEnv 0 args) h R) (hle : k ≤ 17 := by simp) : ACalls Try.prog 17 args h R :=
  contract20 [] c_laws_eqFiltration_15 [.tmp 4] Try.func17 (by decide +kernel) rfl (by kernel_rfl) (by rw [ha]; exact hle) (by kernel_rfl) hp hk
theorem eqFil_c (x y : Fil) (h : Heap) (hl : x.tot ≤ 1048576) : ACalls Try.prog 17 [x.av, y.av] h (fun v h' => v = .bool (decide (x = y)) ∧ h' = h) := by
  obtain ⟨hl1, hl2⟩ := x.lens hl
  have hf := fit_of_tot hl1
  refine c_laws_eqFiltration_of0 rfl orcL_p fun I => ?_
  cases x; cases y
  refine Run2.of I 1000 ?_
  simp -implicitDefEqProofs
  refine (eqCx_c _ _ _ hl1).mono ?_
  rintro v h' ⟨rfl, rfl⟩
  refine gK.go ?_
  simp -implicitDefEqProofs [hl2]
  grind
/-! ## In the laws: with other memory about -/
theorem eqFil_own {w u : AV} {x y : Fil} {g h : Heap} (o : OwnFil w x g) (hu : IsFil u y) (hs : ∀ p ∈ g, p ∈ h) (hl : x.tot ≤ 1048576) : ACalls Try.prog 17 [w, u] h (fun r h' => r = .bool (decide (x = y)) ∧ h' = h) := by
  refine ACalls.reads g hs ?_ rfl
  rw [lend_cons, lend_cons, lend_nil', lend1_cold g hu.cold]
  exact ACalls.wk (.cons (o.lent o.nodup).wk (.cons hu.wk .nil)) (eqFil_c x y [] hl)
theorem eqCx_own {w u : AV} {x y : List (List Int)} {g h : Heap} (o : OwnCx w x g) (hu : IsCx u y) (hs : ∀ p ∈ g, p ∈ h) (hl : ssTot x ≤ 1048576) : ACalls Try.prog 26 [w, u] h (fun r h' => r = .bool (decide (x = y)) ∧ h' = h) := by
  refine ACalls.reads g hs ?_ rfl
  rw [lend_cons, lend_cons, lend_nil', lend1_cold g hu.cold]
  exact ACalls.wk (.cons o.lent.wk (.cons hu.wk .nil)) (eqCx_c x y [] hl)
/-! ## Marks -/
abbrev c_laws_markComplex_o0 : List AJ := [.o ⟨(some 2), none, false, .box false 1 (.t 0), none⟩, .o ⟨(some 4), none, false, .mv (.c (.int .i64 0)), (some [1, 2])⟩]
def c_laws_markComplex_0 : ACode := .region c_laws_markComplex_o0
abbrev c_laws_markComplex_o1 : List AJ := [.o ⟨(some 5), none, false, .fieldA 0 (.t 2), none⟩, .o ⟨(some 6), none, false, .load 1 false (.t 5), none⟩, .o ⟨(some 7), none, false, .mv (.t 1), none⟩, .o ⟨(some 8), none, false, .call 46 [(.t 6), (.t 7)], none⟩, .o ⟨(some 1), none, false, .mv (.t 8), (some [1])⟩]
def c_laws_markComplex_1 : ACode := .region c_laws_markComplex_o1
abbrev c_laws_markComplex_o2 : List AJ := [.o ⟨(some 9), none, false, .mv (.t 1), none⟩, .o ⟨(some 4), none, false, .mv (.t 9), (some [4])⟩]
def c_laws_markComplex_2 : ACode := .region c_laws_markComplex_o2
def c_laws_markComplex_3 : ACode := .seq c_laws_markComplex_2 .ret
def c_laws_markComplex_4 : ACode := .seq c_laws_markComplex_1 c_laws_markComplex_3
def c_laws_markComplex_5 : ACode := .seq c_laws_markComplex_0 c_laws_markComplex_4
section
variable (C : Cx) (n : Nat) (sk : List AItem) (e : Env) (h : Heap) (R : AV → Heap → Prop)
@[simp, simp ↓] theorem c_laws_markComplex_0_r : vc2 C (n + 1) [] (.code c_laws_markComplex_0 :: sk) e h R = (vc2 C n c_laws_markComplex_o0 sk e h R) := nr rfl
@[simp, simp ↓] theorem c_laws_markComplex_1_r : vc2 C (n + 1) [] (.code c_laws_markComplex_1 :: sk) e h R = (vc2 C n c_laws_markComplex_o1 sk e h R) := nr rfl
@[simp, simp ↓] theorem c_laws_markComplex_2_r : vc2 C (n + 1) [] (.code c_laws_markComplex_2 :: sk) e h R = (vc2 C n c_laws_markComplex_o2 sk e h R) := nr rfl
@[simp, simp ↓] theorem c_laws_markComplex_3_r : vc2 C (n + 1) [] (.code c_laws_markComplex_3 :: sk) e h R = (vc2 C n [] (.code c_laws_markComplex_2 :: .code .ret :: sk) e h R) := nr rfl
@[simp, simp ↓] theorem c_laws_markComplex_4_r : vc2 C (n + 1) [] (.code c_laws_markComplex_4 :: sk) e h R = (vc2 C n [] (.code c_laws_markComplex_1 :: .code c_laws_markComplex_3 :: sk) e h R) := nr rfl
@[simp, simp ↓] theorem c_laws_markComplex_5_r : vc2 C (n + 1) [] (.code c_laws_markComplex_5 :: sk) e h R = (vc2 C n [] (.code c_laws_markComplex_0 :: .code c_laws_markComplex_4 :: sk) e h R) := nr rfl
end
noncomputable def c_laws_markComplex_C (orc : Orc) : Cx := ⟨Try.prog, [], 27, 10, [.tmp 4], orc⟩
@[simp] theorem c_laws_markComplex_C_P (orc : Orc) : (c_laws_markComplex_C orc).P = Try.prog := nr rfl
@[simp] theorem c_laws_markComplex_C_o (orc : Orc) : (c_laws_markComplex_C orc).orc = orc := nr rfl
@[simp] theorem c_laws_markComplex_C_r (orc : Orc) : (c_laws_markComplex_C orc).res = [.tmp 4] := nr rfl
theorem c_laws_markComplex_of {args : List AV} {h : Heap} {R : AV → Heap → Prop} {k : Nat} (ha : args.length = k) {orc : Orc} (hp : Pure Try.prog orc) (hk : Is (c_laws_markComplex_C orc) Try.f27 → Run2 (c_laws_markComplex_C orc) [.code c_laws_markComplex_5] (argEnv 0 args) h (Post R)) (hle : k ≤ 10 := by simp) : ACalls Try.prog 27 args h R :=
  contract2 [] c_laws_markComplex_5 [.tmp 4] Try.func27 (by decide +kernel) rfl (by kernel_rfl) (by rw [ha]; exact hle) (by kernel_rfl) hp hk
theorem c_laws_markComplex_of0 {args : List AV} {h : Heap} {R : AV → Heap → Prop} {k : Nat} (ha : args.length = k) {orc : Orc} (hp : Pure Try.prog orc) (hk : Is (c_laws_markComplex_C orc) Try.f27 → Run2 (c_laws_markComplex_C orc) [.code c_laws_markComplex_5] (argEnv 0 args) h R) (hle : k ≤ 10 := by simp) : ACalls Try.prog 27 args h R :=
  contract20 [] c_laws_markComplex_5 [.tmp 4] Try.func27 (by decide +kernel) rfl (by kernel_rfl) (by rw [ha]; exact hle) (by kernel_rfl) hp hk
theorem markCx_o {v : AV} {rs : List (List Int)} {hs : Heap} (ho : OwnCx v rs hs) (k : Int) (hk : 0 ≤ k ∧ k ≤ 1073741824) (hl : ssTot rs ≤ 1048576) : ACalls Try.prog 27 [v, .int .i64 k] hs (fun r h' => r = .int .i64 (k + sumL rs) ∧ OwnCx v (marksL k rs) h') := by
  obtain ⟨u, rfl, hu⟩ := ho
  have hc := hu.cell
  refine c_laws_markComplex_of0 rfl noPure fun I => ?_
  refine Run2.of I 1000 ?_
  simp -implicitDefEqProofs [hc]
  refine (markInt64SS_o hu k hk hl).mono ?_
  rintro r h' ⟨rfl, hu'⟩
  refine gK.go ?_
  simp -implicitDefEqProofs
  exact ⟨_, rfl, hu'⟩
abbrev c_laws_heldComplex_o0 : List AJ := [.o ⟨(some 2), none, false, .box false 1 (.t 0), none⟩, .o ⟨(some 4), none, false, .mv (.c (.int .i64 0)), (some [1, 2])⟩]
def c_laws_heldComplex_0 : ACode := .region c_laws_heldComplex_o0
abbrev c_laws_heldComplex_o1 : List AJ := [.o ⟨(some 5), none, false, .fieldA 0 (.t 2), none⟩, .o ⟨(some 6), none, false, .load 1 false (.t 5), none⟩, .o ⟨(some 7), none, false, .mv (.t 1), none⟩, .o ⟨(some 8), none, false, .call 47 [(.t 6), (.t 7)], none⟩, .o ⟨(some 1), none, false, .mv (.t 8), (some [1])⟩]
def c_laws_heldComplex_1 : ACode := .region c_laws_heldComplex_o1
abbrev c_laws_heldComplex_o2 : List AJ := [.o ⟨(some 9), none, false, .mv (.t 1), none⟩, .o ⟨(some 10), none, false, .bin .lss (.t 9) (.c (.int .i64 0)), (some [1, 10])⟩]
def c_laws_heldComplex_2 : ACode := .region c_laws_heldComplex_o2
abbrev c_laws_heldComplex_o3 : List AJ := [.o ⟨(some 4), none, false, .mv (.c (.int .i64 (-1))), (some [4])⟩]
def c_laws_heldComplex_3 : ACode := .region c_laws_heldComplex_o3
def c_laws_heldComplex_4 : ACode := .seq c_laws_heldComplex_3 .ret
def c_laws_heldComplex_5 : ACode := .cond (.t 10) c_laws_heldComplex_4 .skip
def c_laws_heldComplex_6 : ACode := .seq c_laws_heldComplex_2 c_laws_heldComplex_5
abbrev c_laws_heldComplex_o4 : List AJ := [.o ⟨(some 11), none, false, .mv (.t 1), none⟩, .o ⟨(some 4), none, false, .mv (.t 11), (some [4])⟩]
def c_laws_heldComplex_7 : ACode := .region c_laws_heldComplex_o4
def c_laws_heldComplex_8 : ACode := .seq c_laws_heldComplex_7 .ret
def c_laws_heldComplex_9 : ACode := .seq c_laws_heldComplex_6 c_laws_heldComplex_8
def c_laws_heldComplex_10 : ACode := .seq c_laws_heldComplex_1 c_laws_heldComplex_9
def c_laws_heldComplex_11 : ACode := .seq c_laws_heldComplex_0 c_laws_heldComplex_10
section
variable (C : Cx) (n : Nat) (sk : List AItem) (e : Env) (h : Heap) (R : AV → Heap → Prop)
@[simp, simp ↓] theorem c_laws_heldComplex_0_r : vc2 C (n + 1) [] (.code c_laws_heldComplex_0 :: sk) e h R = (vc2 C n c_laws_heldComplex_o0 sk e h R) := nr rfl
@[simp, simp ↓] theorem c_laws_heldComplex_1_r : vc2 C (n + 1) [] (.code c_laws_heldComplex_1 :: sk) e h R = (vc2 C n c_laws_heldComplex_o1 sk e h R) := nr rfl
@[simp, simp ↓] theorem c_laws_heldComplex_2_r : vc2 C (n + 1) [] (.code c_laws_heldComplex_2 :: sk) e h R = (vc2 C n c_laws_heldComplex_o2 sk e h R) := nr rfl
@[simp, simp ↓] theorem c_laws_heldComplex_3_r : vc2 C (n + 1) [] (.code c_laws_heldComplex_3 :: sk) e h R = (vc2 C n c_laws_heldComplex_o3 sk e h R) := nr rfl
@[simp, simp ↓] theorem c_laws_heldComplex_4_r : vc2 C (n + 1) [] (.code c_laws_heldComplex_4 :: sk) e h R = (vc2 C n [] (.code c_laws_heldComplex_3 :: .code .ret :: sk) e h R) := nr rfl
@[simp, simp ↓] theorem c_laws_heldComplex_5_r : vc2 C (n + 1) [] (.code c_laws_heldComplex_5 :: sk) e h R = (condK (ev e (.t 10)) (vc2 C n [] (.code c_laws_heldComplex_4 :: sk) e h R) (vc2 C n [] (.code .skip :: sk) e h R)) := nr rfl
@[simp, simp ↓] theorem c_laws_heldComplex_6_r : vc2 C (n + 1) [] (.code c_laws_heldComplex_6 :: sk) e h R = (vc2 C n [] (.code c_laws_heldComplex_2 :: .code c_laws_heldComplex_5 :: sk) e h R) := nr rfl
@[simp, simp ↓] theorem c_laws_heldComplex_7_r : vc2 C (n + 1) [] (.code c_laws_heldComplex_7 :: sk) e h R = (vc2 C n c_laws_heldComplex_o4 sk e h R) := nr rfl
@[simp, simp ↓] theorem c_laws_heldComplex_8_r : vc2 C (n + 1) [] (.code c_laws_heldComplex_8 :: sk) e h R = (vc2 C n [] (.code c_laws_heldComplex_7 :: .code .ret :: sk) e h R) := nr rfl
@[simp, simp ↓] theorem c_laws_heldComplex_9_r : vc2 C (n + 1) [] (.code c_laws_heldComplex_9 :: sk) e h R = (vc2 C n [] (.code c_laws_heldComplex_6 :: .code c_laws_heldComplex_8 :: sk) e h R) := nr rfl
@[simp, simp ↓] theorem c_laws_heldComplex_10_r : vc2 C (n + 1) [] (.code c_laws_heldComplex_10 :: sk) e h R = (vc2 C n [] (.code c_laws_heldComplex_1 :: .code c_laws_heldComplex_9 :: sk) e h R) := nr rfl
@[simp, simp ↓] theorem c_laws_heldComplex_11_r : vc2 C (n + 1) [] (.code c_laws_heldComplex_11 :: sk) e h R = (vc2 C n [] (.code c_laws_heldComplex_0 :: .code c_laws_heldComplex_10 :: sk) e h R) := nr rfl
end
noncomputable def c_laws_heldComplex_C (orc : Orc) : Cx := ⟨Try.prog, [], 28, 12, [.tmp 4], orc⟩
@[simp] theorem c_laws_heldComplex_C_P (orc : Orc) : (c_laws_heldComplex_C orc).P = Try.prog := nr rfl
@[simp] theorem c_laws_heldComplex_C_o (orc : Orc) : (c_laws_heldComplex_C orc).orc = orc := nr rfl
@[simp] theorem c_laws_heldComplex_C_r (orc : Orc) : (c_laws_heldComplex_C orc).res = [.tmp 4] := nr rfl
theorem c_laws_heldComplex_of {args : List AV} {h : Heap} {R : AV → Heap → Prop} {k : Nat} (ha : args.length = k) {orc : Orc} (hp : Pure Try.prog orc) (hk : Is (c_laws_heldComplex_C orc) Try.f28 → Run2 (c_laws_heldComplex_C orc) [.code c_laws_heldComplex_11] (argEnv 0 args) h (Post R)) (hle : k ≤ 12 := by simp) : ACalls Try.prog 28 args h R :=
  contract2 [] c_laws_heldComplex_11 [.tmp 4] Try.func28 (by decide +kernel) rfl (by kernel_rfl) (by rw [ha]; exact hle) (by kernel_rfl) hp hk
theorem c_laws_heldComplex_of0 {args : List AV} {h : Heap} {R : AV → Heap → Prop} {k : Nat} (ha : args.length = k) {orc : Orc} (hp : Pure Try.prog orc) (hk : Is (c_laws_heldComplex_C orc) Try.f28 → Run2 (c_laws_heldComplex_C orc) [.code c_laws_heldComplex_11] (argEnv 0 args) h R) (hle : k ≤ 12 := by simp) : ACalls Try.prog 28 args h R :=
  contract20 [] c_laws_heldComplex_11 [.tmp 4] Try.func28 (by decide +kernel) rfl (by kernel_rfl) (by rw [ha]; exact hle) (by kernel_rfl) hp hk
theorem heldCx_s (rs : List (List Int)) (k : Int) (h : Heap) (hk : 0 ≤ k ∧ k ≤ 1073741824) (hl : ssTot rs ≤ 1048576) : ACalls Try.prog 28 [cx rs, .int .i64 k] h (fun v h' => v = .int .i64 (if rs = marksL k rs then k + sumL rs else -1) ∧ h' = h) := by
  refine c_laws_heldComplex_of0 rfl noPure fun I => ?_
  refine Run2.of I 1000 ?_
  simp -implicitDefEqProofs
  refine (heldInt64SS_s rs k h hk hl).mono ?_
  rintro r h' ⟨rfl, rfl⟩
  refine gK.go ?_
  simp -implicitDefEqProofs
  grind
abbrev c_laws_markFiltration_o0 : List AJ := [.o ⟨(some 2), none, false, .box false 2 (.t 0), none⟩, .o ⟨(some 4), none, false, .mv (.c (.int .i64 0)), (some [1, 2])⟩]
def c_laws_markFiltration_0 : ACode := .region c_laws_markFiltration_o0
abbrev c_laws_markFiltration_o1 : List AJ := [.o ⟨(some 5), none, false, .fieldA 0 (.t 2), none⟩, .o ⟨(some 6), none, false, .load 1 true (.t 5), none⟩, .o ⟨(some 7), none, false, .mv (.t 1), none⟩, .o ⟨(some 8), none, false, .call 27 [(.t 6), (.t 7)], none⟩, .o ⟨(some 1), none, false, .mv (.t 8), (some [1, 2])⟩]
def c_laws_markFiltration_1 : ACode := .region c_laws_markFiltration_o1
abbrev c_laws_markFiltration_o2 : List AJ := [.o ⟨(some 9), none, false, .fieldA 1 (.t 2), none⟩, .o ⟨(some 10), none, false, .load 1 false (.t 9), none⟩, .o ⟨(some 11), none, false, .mv (.t 1), none⟩, .o ⟨(some 12), none, false, .call 22 [(.t 10), (.t 11)], none⟩, .o ⟨(some 1), none, false, .mv (.t 12), (some [1])⟩]
def c_laws_markFiltration_2 : ACode := .region c_laws_markFiltration_o2
abbrev c_laws_markFiltration_o3 : List AJ := [.o ⟨(some 13), none, false, .mv (.t 1), none⟩, .o ⟨(some 4), none, false, .mv (.t 13), (some [4])⟩]
def c_laws_markFiltration_3 : ACode := .region c_laws_markFiltration_o3
def c_laws_markFiltration_4 : ACode := .seq c_laws_markFiltration_3 .ret
def c_laws_markFiltration_5 : ACode := .seq c_laws_markFiltration_2 c_laws_markFiltration_4
def c_laws_markFiltration_6 : ACode := .seq c_laws_markFiltration_1 c_laws_markFiltration_5
def c_laws_markFiltration_7 : ACode := .seq c_laws_markFiltration_0 c_laws_markFiltration_6
section
variable (C : Cx) (n : Nat) (sk : List AItem) (e : Env) (h : Heap) (R : AV → Heap → Prop)
@[simp, simp ↓] theorem c_laws_markFiltration_0_r : vc2 C (n + 1) [] (.code c_laws_markFiltration_0 :: sk) e h R = (vc2 C n c_laws_markFiltration_o0 sk e h R) := nr rfl
@[simp, simp ↓] theorem c_laws_markFiltration_1_r : vc2 C (n + 1) [] (.code c_laws_markFiltration_1 :: sk) e h R = (vc2 C n c_laws_markFiltration_o1 sk e h R) := nr rfl
@[simp, simp ↓] theorem c_laws_markFiltration_2_r : vc2 C (n + 1) [] (.code c_laws_markFiltration_2 :: sk) e h R = (vc2 C n c_laws_markFiltration_o2 sk e h R) := nr rfl
@[simp, simp ↓] theorem c_laws_markFiltration_3_r : vc2 C (n + 1) [] (.code c_laws_markFiltration_3 :: sk) e h R = (vc2 C n c_laws_markFiltration_o3 sk e h R) := nr rfl
@[simp, simp ↓] theorem c_laws_markFiltration_4_r : vc2 C (n + 1) [] (.code c_laws_markFiltration_4 :: sk) e h R = (vc2 C n [] (.code c_laws_markFiltration_3 :: .code .ret :: sk) e h R) := nr rfl
@[simp, simp ↓] theorem c_laws_markFiltration_5_r : vc2 C (n + 1) [] (.code c_laws_markFiltration_5 :: sk) e h R = (vc2 C n [] (.code c_laws_markFiltration_2 :: .code c_laws_markFiltration_4 :: sk) e h R) := nr rfl
@[simp, simp ↓] theorem c_laws_markFiltration_6_r : vc2 C (n + 1) [] (.code c_laws_markFiltration_6 :: sk) e h R = (vc2 C n [] (.code c_laws_markFiltration_1 :: .code c_laws_markFiltration_5 :: sk) e h R) := nr rfl
@[simp, simp ↓] theorem c_laws_markFiltration_7_r : vc2 C (n + 1) [] (.code c_laws_markFiltration_7 :: sk) e h R = (vc2 C n [] (.code c_laws_markFiltration_0 :: .code c_laws_markFiltration_6 :: sk) e h R) := nr rfl
end
noncomputable def c_laws_markFiltration_C (orc : Orc) : Cx := ⟨Try.prog, [], 21, 14, [.tmp 4], orc⟩
@[simp] theorem c_laws_markFiltration_C_P (orc : Orc) : (c_laws_markFiltration_C orc).P = Try.prog := nr rfl
@[simp] theorem c_laws_markFiltration_C_o (orc : Orc) : (c_laws_markFiltration_C orc).orc = orc := nr rfl
@[simp] theorem c_laws_markFiltration_C_r (orc : Orc) : (c_laws_markFiltration_C orc).res = [.tmp 4] := nr rfl
theorem c_laws_markFiltration_of {args : List AV} {h : Heap} {R : AV → Heap → Prop} {k : Nat} (ha : args.length = k) {orc : Orc} (hp : Pure Try.prog orc) (hk : Is (c_laws_markFiltration_C orc) Try.f21 → Run2 (c_laws_markFiltration_C orc) [.code c_laws_markFiltration_7] (argEnv 0 args) h (Post R)) (hle : k ≤ 14 := by simp) : ACalls Try.prog 21 args h R :=
  contract2 [] c_laws_markFiltration_7 [.tmp 4] Try.func21 (by decide +kernel) rfl (by kernel_rfl) (by rw [ha]; exact hle) (by kernel_rfl) hp hk
theorem c_laws_markFiltration_of0 {args : List AV} {h : Heap} {R : AV → Heap → Prop} {k : Nat} (ha : args.length = k) {orc : Orc} (hp : Pure Try.prog orc) (hk : Is (c_laws_markFiltration_C orc) Try.f21 → Run2 (c_laws_markFiltration_C orc) [.code c_laws_markFiltration_7] (argEnv 0 args) h R) (hle : k ≤ 14 := by simp) : ACalls Try.prog 21 args h R :=
  contract20 [] c_laws_markFiltration_7 [.tmp 4] Try.func21 (by decide +kernel) rfl (by kernel_rfl) (by rw [ha]; exact hle) (by kernel_rfl) hp hk
def Fil.cnt (x : Fil) : Nat := sumL x.rs + x.ts.length
def marksF (k : Int) (x : Fil) : Fil := ⟨marksL k x.rs, marks (k + sumL x.rs) x.ts.length⟩
theorem Fil.cnt_le (x : Fil) : x.cnt ≤ x.tot := by unfold Fil.cnt Fil.tot ssTot; omega
@[simp] theorem marksF_tot (k : Int) (x : Fil) : (marksF k x).tot = x.tot := by simp [marksF, Fil.tot]
@[simp] theorem marksF_cnt (k : Int) (x : Fil) : (marksF k x).cnt = x.cnt := by simp [marksF, Fil.cnt]
@[simp] theorem marksF_marksF (k : Int) (x : Fil) : marksF k (marksF k x) = marksF k x := by simp [marksF]
theorem markFil_o {v : AV} {x : Fil} {hs : Heap} (ho : OwnFil v x hs) (k : Int) (hk : 0 ≤ k ∧ k ≤ 1073741824) (hl : x.tot ≤ 1048576) : ACalls Try.prog 21 [v, .int .i64 k] hs (fun r h' => r = .int .i64 (k + x.cnt) ∧ OwnFil v (marksF k x) h') := by
  obtain ⟨hl1, hl2⟩ := x.lens hl
  obtain ⟨u, w, h1, h2, rfl, hu, hw, hd, rfl⟩ := ho
  have hc := hu.cell
  have hc2 := hw.cell
  have htot : sumL x.rs ≤ 1048576 := by unfold ssTot at hl1; omega
  refine ACalls.permR ?_
  refine c_laws_markFiltration_of0 rfl noPure fun I => ?_
  refine Run2.of I 1000 ?_
  simp -implicitDefEqProofs [hc, hc2]
  refine (ACalls.frame h1 [] h2 hu.nodup (fun p hp => List.mem_append_left _ hp) (by simp) (fun p hp => ⟨List.mem_append_right _ hp, fun hm => hd _ hm (List.mem_map.2 ⟨p, hp, rfl⟩)⟩) (fun nd => by rw [dom_append] at nd; exact (List.nodup_append.1 nd).2.1) (S := fun r h' => r = .int .i64 (k + sumL x.rs) ∧ OwnCx (.agg [u]) (marksL k x.rs) h') (by simpa [lend] using markCx_o ⟨u, rfl, hu⟩ k hk hl1) (fun v h' e => by obtain ⟨rfl, e⟩ := e; exact ⟨rfl, e.own.2⟩)).monoN ?_
  rintro v h' ⟨g', ⟨rfl, u', e, og⟩, hdg, rfl⟩ nd
  simp only [AV.agg.injEq, List.cons.injEq, and_true] at e
  subst e
  refine gK.go ?_
  simp -implicitDefEqProofs [hc, hc2]
  refine (markI_keep hw g' (fun p hp => List.mem_append_right _ hp) (fun p hp => ⟨List.mem_append_left _ hp, fun hm => ?_⟩) (fun nd => by rw [dom_append] at nd; exact (List.nodup_append.1 nd).1) (k + sumL x.rs) (by omega) (by omega)).monoN ?_
  · rw [dom_append] at nd
    exact (List.nodup_append.1 nd).2.2 _ (List.mem_map.2 ⟨p, hp, rfl⟩) _ hm rfl
  rintro v h' ⟨g2, rfl, og2, rfl⟩ nd2
  refine gK.go ?_
  simp -implicitDefEqProofs
  intro _
  refine ⟨g' ++ g2, List.perm_append_comm, by simp [Fil.cnt, Int.add_assoc], _, _, g', g2, rfl, og, og2, fun i hi hi2 => ?_, rfl⟩
  rw [dom_append] at nd2
  exact (List.nodup_append.1 nd2).2.2 _ hi2 _ hi rfl
abbrev c_laws_heldFiltration_o0 : List AJ := [.o ⟨(some 2), none, false, .box false 2 (.t 0), none⟩, .o ⟨(some 4), none, false, .mv (.c (.int .i64 0)), (some [1, 2])⟩]
def c_laws_heldFiltration_0 : ACode := .region c_laws_heldFiltration_o0
abbrev c_laws_heldFiltration_o1 : List AJ := [.o ⟨(some 5), none, false, .fieldA 0 (.t 2), none⟩, .o ⟨(some 6), none, false, .load 1 true (.t 5), none⟩, .o ⟨(some 7), none, false, .mv (.t 1), none⟩, .o ⟨(some 8), none, false, .call 28 [(.t 6), (.t 7)], none⟩, .o ⟨(some 1), none, false, .mv (.t 8), (some [1, 2])⟩]
def c_laws_heldFiltration_1 : ACode := .region c_laws_heldFiltration_o1
abbrev c_laws_heldFiltration_o2 : List AJ := [.o ⟨(some 9), none, false, .mv (.t 1), none⟩, .o ⟨(some 10), none, false, .bin .lss (.t 9) (.c (.int .i64 0)), (some [1, 2, 10])⟩]
def c_laws_heldFiltration_2 : ACode := .region c_laws_heldFiltration_o2
abbrev c_laws_heldFiltration_o3 : List AJ := [.o ⟨(some 4), none, false, .mv (.c (.int .i64 (-1))), (some [4])⟩]
def c_laws_heldFiltration_3 : ACode := .region c_laws_heldFiltration_o3
def c_laws_heldFiltration_4 : ACode := .seq c_laws_heldFiltration_3 .ret
def c_laws_heldFiltration_5 : ACode := .cond (.t 10) c_laws_heldFiltration_4 .skip
def c_laws_heldFiltration_6 : ACode := .seq c_laws_heldFiltration_2 c_laws_heldFiltration_5
abbrev c_laws_heldFiltration_o4 : List AJ := [.o ⟨(some 11), none, false, .fieldA 1 (.t 2), none⟩, .o ⟨(some 12), none, false, .load 1 false (.t 11), none⟩, .o ⟨(some 13), none, false, .mv (.t 1), none⟩, .o ⟨(some 14), none, false, .call 23 [(.t 12), (.t 13)], none⟩, .o ⟨(some 1), none, false, .mv (.t 14), (some [1])⟩]
def c_laws_heldFiltration_7 : ACode := .region c_laws_heldFiltration_o4
abbrev c_laws_heldFiltration_o5 : List AJ := [.o ⟨(some 15), none, false, .mv (.t 1), none⟩, .o ⟨(some 16), none, false, .bin .lss (.t 15) (.c (.int .i64 0)), (some [1, 16])⟩]
def c_laws_heldFiltration_8 : ACode := .region c_laws_heldFiltration_o5
abbrev c_laws_heldFiltration_o6 : List AJ := [.o ⟨(some 4), none, false, .mv (.c (.int .i64 (-1))), (some [4])⟩]
def c_laws_heldFiltration_9 : ACode := .region c_laws_heldFiltration_o6
def c_laws_heldFiltration_10 : ACode := .seq c_laws_heldFiltration_9 .ret
def c_laws_heldFiltration_11 : ACode := .cond (.t 16) c_laws_heldFiltration_10 .skip
def c_laws_heldFiltration_12 : ACode := .seq c_laws_heldFiltration_8 c_laws_heldFiltration_11
abbrev c_laws_heldFiltration_o7 : List AJ := [.o ⟨(some 17), none, false, .mv (.t 1), none⟩, .o ⟨(some 4), none, false, .mv (.t 17), (some [4])⟩]
def c_laws_heldFiltration_13 : ACode := .region c_laws_heldFiltration_o7
def c_laws_heldFiltration_14 : ACode := .seq c_laws_heldFiltration_13 .ret
def c_laws_heldFiltration_15 : ACode := .seq c_laws_heldFiltration_12 c_laws_heldFiltration_14
def c_laws_heldFiltration_16 : ACode := .seq c_laws_heldFiltration_7 c_laws_heldFiltration_15
def c_laws_heldFiltration_17 : ACode := .seq c_laws_heldFiltration_6 c_laws_heldFiltration_16
def c_laws_heldFiltration_18 : ACode := .seq c_laws_heldFiltration_1 c_laws_heldFiltration_17
def c_laws_heldFiltration_19 : ACode := .seq c_laws_heldFiltration_0 c_laws_heldFiltration_18
section
variable (C : Cx) (n : Nat) (sk : List AItem) (e : Env) (h : Heap) (R : AV → Heap → Prop)
@[simp, simp ↓] theorem c_laws_heldFiltration_0_r : vc2 C (n + 1) [] (.code c_laws_heldFiltration_0 :: sk) e h R = (vc2 C n c_laws_heldFiltration_o0 sk e h R) := nr rfl
@[simp, simp ↓] theorem c_laws_heldFiltration_1_r : vc2 C (n + 1) [] (.code c_laws_heldFiltration_1 :: sk) e h R = (vc2 C n c_laws_heldFiltration_o1 sk e h R) := nr rfl
@[simp, simp ↓] theorem c_laws_heldFiltration_2_r : vc2 C (n + 1) [] (.code c_laws_heldFiltration_2 :: sk) e h R = (vc2 C n c_laws_heldFiltration_o2 sk e h R) := nr rfl
@[simp, simp ↓] theorem c_laws_heldFiltration_3_r : vc2 C (n + 1) [] (.code c_laws_heldFiltration_3 :: sk) e h R = (vc2 C n c_laws_heldFiltration_o3 sk e h R) := nr rfl
@[simp, simp ↓] theorem c_laws_heldFiltration_4_r : vc2 C (n + 1) [] (.code c_laws_heldFiltration_4 :: sk) e h R = (vc2 C n [] (.code c_laws_heldFiltration_3 :: .code .ret :: sk) e h R) := nr rfl
@[simp, simp ↓] theorem c_laws_heldFiltration_5_r : vc2 C (n + 1) [] (.code c_laws_heldFiltration_5 :: sk) e h R = (condK (ev e (.t 10)) (vc2 C n [] (.code c_laws_heldFiltration_4 :: sk) e h R) (vc2 C n [] (.code .skip :: sk) e h R)) := nr rfl
@[simp, simp ↓] theorem c_laws_heldFiltration_6_r : vc2 C (n + 1) [] (.code c_laws_heldFiltration_6 :: sk) e h R = (vc2 C n [] (.code c_laws_heldFiltration_2 :: .code c_laws_heldFiltration_5 :: sk) e h R) := nr rfl
@[simp, simp ↓] theorem c_laws_heldFiltration_7_r : vc2 C (n + 1) [] (.code c_laws_heldFiltration_7 :: sk) e h R = (vc2 C n c_laws_heldFiltration_o4 sk e h R) := nr rfl
@[simp, simp ↓] theorem c_laws_heldFiltration_8_r : vc2 C (n + 1) [] (.code c_laws_heldFiltration_8 :: sk) e h R = (vc2 C n c_laws_heldFiltration_o5 sk e h R) := nr rfl
@[simp, simp ↓] theorem c_laws_heldFiltration_9_r : vc2 C (n + 1) [] (.code c_laws_heldFiltration_9 :: sk) e h R = (vc2 C n c_laws_heldFiltration_o6 sk e h R) := nr rfl
@[simp, simp ↓] theorem c_laws_heldFiltration_10_r : vc2 C (n + 1) [] (.code c_laws_heldFiltration_10 :: sk) e h R = (vc2 C n [] (.code c_laws_heldFiltration_9 :: .code .ret :: sk) e h R) := nr rfl
@[simp, simp ↓] theorem c_laws_heldFiltration_11_r : vc2 C (n + 1) [] (.code c_laws_heldFiltration_11 :: sk) e h R = (condK (ev e (.t 16)) (vc2 C n [] (.code c_laws_heldFiltration_10 :: sk) e h R) (vc2 C n [] (.code .skip :: sk) e h R)) := nr rfl
@[simp, simp ↓] theorem c_laws_heldFiltration_12_r : vc2 C (n + 1) [] (.code c_laws_heldFiltration_12 :: sk) e h R = (vc2 C n [] (.code c_laws_heldFiltration_8 :: .code c_laws_heldFiltration_11 :: sk) e h R) := nr rfl
@[simp, simp ↓] theorem c_laws_heldFiltration_13_r : vc2 C (n + 1) [] (.code c_laws_heldFiltration_13 :: sk) e h R = (vc2 C n c_laws_heldFiltration_o7 sk e h R) := nr rfl
@[simp, simp ↓] theorem c_laws_heldFiltration_14_r : vc2 C (n + 1) [] (.code c_laws_heldFiltration_14 :: sk) e h R = (vc2 C n [] (.code c_laws_heldFiltration_13 :: .code .ret :: sk) e h R) := nr rfl
@[simp, simp ↓] theorem c_laws_heldFiltration_15_r : vc2 C (n + 1) [] (.code c_laws_heldFiltration_15 :: sk) e h R = (vc2 C n [] (.code c_laws_heldFiltration_12 :: .code c_laws_heldFiltration_14 :: sk) e h R) := nr rfl
@[simp, simp ↓] theorem c_laws_heldFiltration_16_r : vc2 C (n + 1) [] (.code c_laws_heldFiltration_16 :: sk) e h R = (vc2 C n [] (.code c_laws_heldFiltration_7 :: .code c_laws_heldFiltration_15 :: sk) e h R) := nr rfl
@[simp, simp ↓] theorem c_laws_heldFiltration_17_r : vc2 C (n + 1) [] (.code c_laws_heldFiltration_17 :: sk) e h R = (vc2 C n [] (.code c_laws_heldFiltration_6 :: .code c_laws_heldFiltration_16 :: sk) e h R) := nr rfl
@[simp, simp ↓] theorem c_laws_heldFiltration_18_r : vc2 C (n + 1) [] (.code c_laws_heldFiltration_18 :: sk) e h R = (vc2 C n [] (.code c_laws_heldFiltration_1 :: .code c_laws_heldFiltration_17 :: sk) e h R) := nr rfl
@[simp, simp ↓] theorem c_laws_heldFiltration_19_r : vc2 C (n + 1) [] (.code c_laws_heldFiltration_19 :: sk) e h R = (vc2 C n [] (.code c_laws_heldFiltration_0 :: .code c_laws_heldFiltration_18 :: sk) e h R) := nr rfl
end
noncomputable def c_laws_heldFiltration_C (orc : Orc) : Cx := ⟨Try.prog, [], 31, 18, [.tmp 4], orc⟩
@[simp] theorem c_laws_heldFiltration_C_P (orc : Orc) : (c_laws_heldFiltration_C orc).P = Try.prog := nr rfl
@[simp] theorem c_laws_heldFiltration_C_o (orc : Orc) : (c_laws_heldFiltration_C orc).orc = orc := nr rfl
@[simp] theorem c_laws_heldFiltration_C_r (orc : Orc) : (c_laws_heldFiltration_C orc).res = [.tmp 4] := nr rfl
theorem c_laws_heldFiltration_of {args : List AV} {h : Heap} {R : AV → Heap → Prop} {k : Nat} (ha : args.length = k) {orc : Orc} (hp : Pure Try.prog orc) (hk : Is (c_laws_heldFiltration_C orc) Try.f31 → Run2 (c_laws_heldFiltration_C orc) [.code c_laws_heldFiltration_19] (argEnv 0 args) h (Post R)) (hle : k ≤ 18 := by simp) : ACalls Try.prog 31 args h R :=
  contract2 [] c_laws_heldFiltration_19 [.tmp 4] Try.func31 (by decide +kernel) rfl (by kernel_rfl) (by rw [ha]; exact hle) (by kernel_rfl) hp hk
theorem c_laws_heldFiltration_of0 {args : List AV} {h : Heap} {R : AV → Heap → Prop} {k : Nat} (ha : args.length = k) {orc : Orc} (hp : Pure Try.prog orc) (hk : Is (c_laws_heldFiltration_C orc) Try.f31 → Run2 (c_laws_heldFiltration_C orc) [.code c_laws_heldFiltration_19] (argEnv 0 args) h R) (hle : k ≤ 18 := by simp) : ACalls Try.prog 31 args h R :=
  contract20 [] c_laws_heldFiltration_19 [.tmp 4] Try.func31 (by decide +kernel) rfl (by kernel_rfl) (by rw [ha]; exact hle) (by kernel_rfl) hp hk
theorem heldFil_s (x : Fil) (k : Int) (h : Heap) (hk : 0 ≤ k ∧ k ≤ 1073741824) (hl : x.tot ≤ 1048576) : ACalls Try.prog 31 [x.av, .int .i64 k] h (fun v h' => v = .int .i64 (if x = marksF k x then k + x.cnt else -1) ∧ h' = h) := by
  obtain ⟨hl1, hl2⟩ := x.lens hl
  have htot : sumL x.rs ≤ 1048576 := by unfold ssTot at hl1; omega
  refine c_laws_heldFiltration_of0 rfl noPure fun I => ?_
  refine Run2.of I 1000 ?_
  simp -implicitDefEqProofs
  refine (heldCx_s x.rs k h hk hl1).mono ?_
  rintro r h' ⟨rfl, rfl⟩
  have e : x = marksF k x ↔ x.rs = marksL k x.rs ∧ x.ts = marks (k + sumL x.rs) x.ts.length := Fil.eq_iff _ _
  by_cases h1 : x.rs = marksL k x.rs
  · rw [if_pos h1]
    refine gK.go ?_
    simp -implicitDefEqProofs
    refine ⟨fun h => by omega, fun _ => ?_⟩
    refine (heldInt64S_s x.ts (k + sumL x.rs) h' (by omega) (by omega)).mono ?_
    rintro r h' ⟨rfl, rfl⟩
    by_cases h2 : x.ts = marks (k + sumL x.rs) x.ts.length
    · rw [if_pos h2]
      have e2 := e.2 ⟨h1, h2⟩
      have hz : ¬ (k + sumL x.rs + x.ts.length < 0) := by omega
      refine gK.go ?_
      simp -implicitDefEqProofs [hz]
      rw [if_pos e2]; unfold Fil.cnt; omega
    · rw [if_neg h2]
      have e2 : ¬ x = marksF k x := fun h => h2 (e.1 h).2
      refine gK.go ?_
      simp -implicitDefEqProofs [e2]
  · rw [if_neg h1]
    have e2 : ¬ x = marksF k x := fun h => h1 (e.1 h).1
    refine gK.go ?_
    simp -implicitDefEqProofs [e2]
theorem heldFil_own {w : AV} {l : Fil} {g h : Heap} (o : OwnFil w l g) (hs : ∀ p ∈ g, p ∈ h) (k : Int) (hk : 0 ≤ k ∧ k ≤ 1073741824) (hl : l.tot ≤ 1048576) : ACalls Try.prog 31 [w, .int .i64 k] h (fun r h' => r = .int .i64 (if l = marksF k l then k + l.cnt else -1) ∧ h' = h) := by
  refine ACalls.reads g hs ?_ rfl
  rw [lend_cons, lend_cons, lend_nil', lend1_cold g (x := .int .i64 k) rfl]
  exact ACalls.wk (.cons (o.lent o.nodup).wk (.refl _)) (heldFil_s l k [] hk hl)
theorem heldCx_own {w : AV} {l : List (List Int)} {g h : Heap} (o : OwnCx w l g) (hs : ∀ p ∈ g, p ∈ h) (k : Int) (hk : 0 ≤ k ∧ k ≤ 1073741824) (hl : ssTot l ≤ 1048576) : ACalls Try.prog 28 [w, .int .i64 k] h (fun r h' => r = .int .i64 (if l = marksL k l then k + sumL l else -1) ∧ h' = h) := by
  refine ACalls.reads g hs ?_ rfl
  rw [lend_cons, lend_cons, lend_nil', lend1_cold g (x := .int .i64 k) rfl]
  exact ACalls.wk (.cons o.lent.wk (.refl _)) (heldCx_s l k [] hk hl)
theorem markFil_drop {w : AV} {l : Fil} {g h : Heap} (o : OwnFil w l g) (keep : Heap) (hs : ∀ p ∈ g, p ∈ h) (hk : ∀ p ∈ keep, p ∈ h ∧ p.1 ∉ dom g) (nk : (dom h).Nodup → (dom keep).Nodup) (k : Int) (hk1 : 0 ≤ k ∧ k ≤ 1073741824) (hl : l.tot ≤ 1048576) : ACalls Try.prog 21 [w, .int .i64 k] h (fun r h' => r = .int .i64 (k + l.cnt) ∧ h' = keep) :=
  ACalls.marks g keep o.nodup hs hk nk (S := fun h' => OwnFil w (marksF k l) h') (markFil_o o k hk1 hl) ⟨rfl, fun h' ho => ho.own.2⟩
theorem markFil_keep {w : AV} {l : Fil} {g h : Heap} (o : OwnFil w l g) (keep : Heap) (hs : ∀ p ∈ g, p ∈ h) (hk : ∀ p ∈ keep, p ∈ h ∧ p.1 ∉ dom g) (nk : (dom h).Nodup → (dom keep).Nodup) (k : Int) (hk1 : 0 ≤ k ∧ k ≤ 1073741824) (hl : l.tot ≤ 1048576) : ACalls Try.prog 21 [w, .int .i64 k] h (fun r h' => ∃ g', r = .int .i64 (k + l.cnt) ∧ OwnFil w (marksF k l) g' ∧ h' = g' ++ keep) :=
  (ACalls.frame g [] keep o.nodup hs (by simp) hk nk (S := fun v h' => v = .int .i64 (k + l.cnt) ∧ OwnFil w (marksF k l) h') (by simpa [lend] using markFil_o o k hk1 hl) (fun v h' e => by obtain ⟨rfl, e⟩ := e; exact ⟨rfl, e.own.2⟩)).mono fun v h' ⟨g', ⟨e1, e2⟩, _, e3⟩ => ⟨g', e1, e2, e3⟩
theorem markCx_drop {w : AV} {l : List (List Int)} {g h : Heap} (o : OwnCx w l g) (keep : Heap) (hs : ∀ p ∈ g, p ∈ h) (hk : ∀ p ∈ keep, p ∈ h ∧ p.1 ∉ dom g) (nk : (dom h).Nodup → (dom keep).Nodup) (k : Int) (hk1 : 0 ≤ k ∧ k ≤ 1073741824) (hl : ssTot l ≤ 1048576) : ACalls Try.prog 27 [w, .int .i64 k] h (fun r h' => r = .int .i64 (k + sumL l) ∧ h' = keep) :=
  ACalls.marks g keep o.nodup hs hk nk (S := fun h' => OwnCx w (marksL k l) h') (markCx_o o k hk1 hl) ⟨rfl, fun h' ho => ho.own.2⟩
theorem markCx_keep {w : AV} {l : List (List Int)} {g h : Heap} (o : OwnCx w l g) (keep : Heap) (hs : ∀ p ∈ g, p ∈ h) (hk : ∀ p ∈ keep, p ∈ h ∧ p.1 ∉ dom g) (nk : (dom h).Nodup → (dom keep).Nodup) (k : Int) (hk1 : 0 ≤ k ∧ k ≤ 1073741824) (hl : ssTot l ≤ 1048576) : ACalls Try.prog 27 [w, .int .i64 k] h (fun r h' => ∃ g', r = .int .i64 (k + sumL l) ∧ OwnCx w (marksL k l) g' ∧ h' = g' ++ keep) :=
  (ACalls.frame g [] keep o.nodup hs (by simp) hk nk (S := fun v h' => v = .int .i64 (k + sumL l) ∧ OwnCx w (marksL k l) h') (by simpa [lend] using markCx_o o k hk1 hl) (fun v h' e => by obtain ⟨rfl, e⟩ := e; exact ⟨rfl, e.own.2⟩)).mono fun v h' ⟨g', ⟨e1, e2⟩, _, e3⟩ => ⟨g', e1, e2, e3⟩
end Go.AG
