/- What the laws count. No statement is made here. -/
import Derived.Test.YtebkdegjiollbaaFilA
namespace Go.AG
open Go.Proofs Go.Proofs.Ytebkdegjiollbaa
theorem sumL_le_tot (rs : List (List Int)) : sumL rs ≤ ssTot rs := by unfold ssTot; omega
@[simp] theorem Fil_eta' (x : Fil) : (⟨x.rs, x.ts⟩ : Fil) = x := rfl
@[simp] theorem fzs_il (id : Nat) (b : Blk) (rs : LS) : fzs id b (rs.map il) = rs.map il := fzs_cold id b _ (colds_il rs)

noncomputable def o_szCx : List AV → Option (Prop × AV) := tab (fun (x : LS × Int) => match x with | (rs, k) => [.agg [.snap 1 (rs.map il)], .int .i64 k]) (fun x => match x with | (rs, k) => ((0 ≤ k ∧ k ≤ 1048576) ∧ wfSS rs)) (fun x => match x with | (rs, k) => .int .i64 (if k < ssTot rs then -1 else k - ssTot rs))
@[simp] theorem o_szCx_e (rs : LS) (k : Int) : o_szCx [.agg [.snap 1 (rs.map il)], .int .i64 k] = some (((0 ≤ k ∧ k ≤ 1048576) ∧ wfSS rs), .int .i64 (if k < ssTot rs then -1 else k - ssTot rs)) := tab_at (enc := fun (x : LS × Int) => match x with | (rs, k) => [.agg [.snap 1 (rs.map il)], .int .i64 k]) (fun x y h => by
  obtain ⟨rs1, k1⟩ := x; obtain ⟨rs2, k2⟩ := y; simp at h; simp [h] <;> omega) _ _ (rs, k)
theorem o_szCx_k : Knows Try.prog 17 o_szCx := tab_knows fun x hx h => by
  obtain ⟨rs, k⟩ := x; exact szCx_c rs k h hx.1 hx.2
/-- What a function gives in memory of its own, where nobody writes it. -/
theorem froze_fil {P : Program} {g : FuncId} {args : List AV} {F : Fil} {c : Int} (H : ACalls P g args [] (fun v h' => ∃ w, v = .tup [w, .int .i64 c] ∧ OwnFil w F h')) (h : Heap) : ACalls P g args h (fun v h' => v = .tup [F.av, .int .i64 c] ∧ h' = h) := by
  refine ACalls.post ((ACalls.gives (h := h) [] (by simp) (S := fun v h' => ∃ w, v = .tup [w, .int .i64 c] ∧ OwnFil w F h') H ?_).mono ?_)
  · rintro v h' ⟨w, rfl, o⟩
    have := o.own
    exact ⟨by simp [own, owns, this.1], this.2⟩
  · rintro v h' ⟨g, ⟨w, rfl, o⟩, _, rfl⟩
    refine Post.lend ?_
    rw [lend1_tup2, lend1_cold g (x := .int .i64 c) rfl]
    exact .wk (Wk.tup (.cons (o.lent o.nodup).wk (.cons (.refl _) .nil))) (.base ⟨rfl, rfl⟩)

noncomputable def o_toCx : List AV → Option (Prop × AV) := tab (fun (x : LS) => match x with | rs => [.agg [.snap 1 (rs.map il)]]) (fun x => match x with | rs => ssTot rs ≤ 1048576) (fun x => match x with | rs => .agg [.snap 1 (rs.map il)])
@[simp] theorem o_toCx_e (rs : LS) : o_toCx [.agg [.snap 1 (rs.map il)]] = some (ssTot rs ≤ 1048576, .agg [.snap 1 (rs.map il)]) := tab_at (enc := fun (x : LS) => match x with | rs => [.agg [.snap 1 (rs.map il)]]) (fun x y h => by
  simp at h; simp [h] <;> omega) _ _ rs
theorem o_toCx_k : Knows Try.prog 19 o_toCx := tab_knows fun x hx h => by
  exact toCx_c x h hx

noncomputable def orcLaw : List (Nat × (List AV → Option (Prop × AV))) := (19, o_toCx) :: (82, o_toInt64S) :: (38, o_toInt64SS) :: []
theorem orcLaw_p : Pure Try.prog (lk orcLaw) := (lk_pure o_toCx_k (lk_pure o_toInt64S_k (lk_pure o_toInt64SS_k lk_pure0)))
@[simp] theorem orcLaw_l (b : Bool) (g : FuncId) (l : List AV) : lk orcLaw b g l = if g = 19 then o_toCx l else if g = 82 then o_toInt64S l else if g = 38 then o_toInt64SS l else none := nr rfl
noncomputable def orcM : List (Nat × (List AV → Option (Prop × AV))) := (17, o_szCx) :: (36, o_szInt64SS) :: []
theorem orcM_p : Pure Try.prog (lk orcM) := (lk_pure o_szCx_k (lk_pure o_szInt64SS_k lk_pure0))
@[simp] theorem orcM_l (b : Bool) (g : FuncId) (l : List AV) : lk orcM b g l = if g = 17 then o_szCx l else if g = 36 then o_szInt64SS l else none := nr rfl
end Go.AG
