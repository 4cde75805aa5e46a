/- What the laws count. No statement is made here. -/
import Derived.Test.YtamjnegnoijjlaaFilA
namespace Go.AG
open Go.Proofs Go.Proofs.Ytamjnegnoijjlaa
theorem sumL_le_tot (rs : List (List Int)) : sumL rs ≤ ssTot rs := by unfold ssTot; omega
@[simp] theorem Fil_eta' (x : Fil) : (⟨x.rs, x.ts⟩ : Fil) = x := rfl
noncomputable def o_szFil : List AV → Option (Prop × AV) := tab (fun (x : LS × List Int × Int) => match x with | (rs, ts, k) => [.agg [.snap 1 (rs.map il), .snap 1 (ts.map iv)], .int .i64 k]) (fun x => match x with | (rs, ts, k) => ((0 ≤ k ∧ k ≤ 1048576) ∧ (⟨rs, ts⟩ : Fil).wf)) (fun x => match x with | (rs, ts, k) => .int .i64 (if k < (⟨rs, ts⟩ : Fil).tot then -1 else k - (⟨rs, ts⟩ : Fil).tot))
@[simp] theorem o_szFil_e (rs : LS) (ts : List Int) (k : Int) : o_szFil [.agg [.snap 1 (rs.map il), .snap 1 (ts.map iv)], .int .i64 k] = some (((0 ≤ k ∧ k ≤ 1048576) ∧ (⟨rs, ts⟩ : Fil).wf), .int .i64 (if k < (⟨rs, ts⟩ : Fil).tot then -1 else k - (⟨rs, ts⟩ : Fil).tot)) := tab_at (enc := fun (x : LS × List Int × Int) => match x with | (rs, ts, k) => [.agg [.snap 1 (rs.map il), .snap 1 (ts.map iv)], .int .i64 k]) (fun x y h => by
  obtain ⟨rs1, ts1, k1⟩ := x; obtain ⟨rs2, ts2, k2⟩ := y; simp at h; simp [h] <;> omega) _ _ (rs, ts, k)
theorem o_szFil_k : Knows Try.prog 13 o_szFil := tab_knows fun x hx h => by
  obtain ⟨rs, ts, k⟩ := x; exact szFil_c ⟨rs, ts⟩ k h hx.1 hx.2
noncomputable def o_szCx : List AV → Option (Prop × AV) := tab (fun (x : LS × Int) => match x with | (rs, k) => [.agg [.snap 1 (rs.map il)], .int .i64 k]) (fun x => match x with | (rs, k) => ((0 ≤ k ∧ k ≤ 1048576) ∧ wfSS rs)) (fun x => match x with | (rs, k) => .int .i64 (if k < ssTot rs then -1 else k - ssTot rs))
@[simp] theorem o_szCx_e (rs : LS) (k : Int) : o_szCx [.agg [.snap 1 (rs.map il)], .int .i64 k] = some (((0 ≤ k ∧ k ≤ 1048576) ∧ wfSS rs), .int .i64 (if k < ssTot rs then -1 else k - ssTot rs)) := tab_at (enc := fun (x : LS × Int) => match x with | (rs, k) => [.agg [.snap 1 (rs.map il)], .int .i64 k]) (fun x y h => by
  obtain ⟨rs1, k1⟩ := x; obtain ⟨rs2, k2⟩ := y; simp at h; simp [h] <;> omega) _ _ (rs, k)
theorem o_szCx_k : Knows Try.prog 32 o_szCx := tab_knows fun x hx h => by
  obtain ⟨rs, k⟩ := x; exact szCx_c rs k h hx.1 hx.2
noncomputable def orcM : List (Nat × (List AV → Option (Prop × AV))) := (13, o_szFil) :: (32, o_szCx) :: (48, o_szInt64SS) :: []
theorem orcM_p : Pure Try.prog (lk orcM) := (lk_pure o_szFil_k (lk_pure o_szCx_k (lk_pure o_szInt64SS_k lk_pure0)))
@[simp] theorem orcM_l (g : FuncId) (l : List AV) : lk orcM g l = if g = 13 then o_szFil l else if g = 32 then o_szCx l else if g = 48 then o_szInt64SS l else none := nr rfl
end Go.AG
