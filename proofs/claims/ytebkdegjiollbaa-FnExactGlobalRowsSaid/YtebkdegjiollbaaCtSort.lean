/- slices.Sort at this program: the kit's contract, laid and told in the words of our own layer. No statement is made here. -/
import Derived.Test.YtebkdegjiollbaaRows
import Derived.Test.YtebkdegjiollbaaAGSort
import Derived.Shelf.SortM.Plain
import Derived.Shelf.SortM.SortNone
namespace Go.AG
end Go.AG
namespace Go.Proofs
open Go.Shelf
def Try.laySort_ren : Go.Shelf.Ren := ⟨fun | 5 => 152 | 8 => 171 | 7 => 170 | 19 => 187 | 20 => 188 | 10 => 178 | 11 => 179 | 12 => 180 | 13 => 181 | 14 => 182 | 15 => 183 | 16 => 184 | 17 => 185 | 18 => 186 | 30 => 192 | 31 => 193 | 32 => 194 | 33 => 195 | 34 => 196 | 35 => 158 | 40 => 198 | n => n, fun | 23 => 49 | 25 => 2 | 3 => 3 | 32 => 196 | 22 => 49 | 0 => 0 | 44 => 213 | 46 => 215 | 4 => 4 | 36 => 207 | 35 => 206 | 41 => 182 | 5 => 5 | 9 => 9 | 53 => 218 | 57 => 222 | 63 => 224 | 64 => 225 | n => n, fun | n => n⟩
theorem Try.laySort : Go.Proofs.SlLaysM.n5 Try.prog Try.laySort_ren := {
  mixed := by kernel_rfl
  f5 := ⟨Try.f152.name, by decide, Try.func152.trans (congrArg some (by kernel_rfl))⟩
  f7 := ⟨Try.f170.name, by decide, Try.func170.trans (congrArg some (by kernel_rfl))⟩
  f8 := Try.func171.trans (congrArg some (by kernel_rfl))
  f10 := ⟨Try.f178.name, by decide, Try.func178.trans (congrArg some (by kernel_rfl))⟩
  f11 := ⟨Try.f179.name, by decide, Try.func179.trans (congrArg some (by kernel_rfl))⟩
  f12 := ⟨Try.f180.name, by decide, Try.func180.trans (congrArg some (by kernel_rfl))⟩
  f13 := ⟨Try.f181.name, by decide, Try.func181.trans (congrArg some (by kernel_rfl))⟩
  f14 := ⟨Try.f182.name, by decide, Try.func182.trans (congrArg some (by kernel_rfl))⟩
  f15 := ⟨Try.f183.name, by decide, Try.func183.trans (congrArg some (by kernel_rfl))⟩
  f16 := ⟨Try.f184.name, by decide, Try.func184.trans (congrArg some (by kernel_rfl))⟩
  f17 := ⟨Try.f185.name, by decide, Try.func185.trans (congrArg some (by kernel_rfl))⟩
  f18 := ⟨Try.f186.name, by decide, Try.func186.trans (congrArg some (by kernel_rfl))⟩
  f19 := Try.func187.trans (congrArg some (by kernel_rfl))
  f20 := Try.func188.trans (congrArg some (by kernel_rfl))
  f30 := ⟨Try.f192.name, by decide, Try.func192.trans (congrArg some (by kernel_rfl))⟩
  f31 := Try.func193.trans (congrArg some (by kernel_rfl))
  f32 := Try.func194.trans (congrArg some (by kernel_rfl))
  f33 := ⟨Try.f195.name, by decide, Try.func195.trans (congrArg some (by kernel_rfl))⟩
  f34 := ⟨Try.f196.name, by decide, Try.func196.trans (congrArg some (by kernel_rfl))⟩
  f35 := ⟨Try.f158.name, by decide, Try.func158.trans (congrArg some (by kernel_rfl))⟩
  f40 := ⟨Try.f198.name, by decide, Try.func198.trans (congrArg some (by kernel_rfl))⟩
  t0 := Try.underlying0
  a0 := Try.isAgg0
  z0 := Try.sizeOf0
  v0 := Try.zeroValue0
  t3 := Try.underlying3
  a3 := Try.isAgg3
  z3 := Try.sizeOf3
  v3 := Try.zeroValue3
  t4 := Try.underlying4
  a4 := Try.isAgg4
  z4 := Try.sizeOf4
  v4 := Try.zeroValue4
  t5 := Try.underlying5
  a5 := Try.isAgg5
  z5 := Try.sizeOf5
  v5 := Try.zeroValue5
  t9 := Try.underlying9
  a9 := Try.isAgg9
  z9 := Try.sizeOf9
  v9 := Try.zeroValue9
  t22 := Try.underlying49
  a22 := Try.isAgg49
  z22 := Try.sizeOf49
  v22 := Try.zeroValue49
  t23 := Try.underlying49
  a23 := Try.isAgg49
  z23 := Try.sizeOf49
  v23 := Try.zeroValue49
  t25 := Try.underlying2
  a25 := Try.isAgg2
  z25 := Try.sizeOf2
  v25 := Try.zeroValue2
  t32 := Try.underlying196
  a32 := Try.isAgg196
  z32 := Try.sizeOf196
  v32 := Try.zeroValue196
  t35 := Try.underlying206
  a35 := Try.isAgg206
  z35 := Try.sizeOf206
  v35 := Try.zeroValue206
  t36 := Try.underlying207
  a36 := Try.isAgg207
  z36 := Try.sizeOf207
  v36 := Try.zeroValue207
  t41 := Try.underlying182
  a41 := Try.isAgg182
  z41 := Try.sizeOf182
  v41 := Try.zeroValue182
  t44 := Try.underlying213
  a44 := Try.isAgg213
  z44 := Try.sizeOf213
  v44 := Try.zeroValue213
  t46 := Try.underlying215
  a46 := Try.isAgg215
  z46 := Try.sizeOf215
  v46 := Try.zeroValue215
  t53 := Try.underlying218
  a53 := Try.isAgg218
  z53 := Try.sizeOf218
  v53 := Try.zeroValue218
  t57 := Try.underlying222
  a57 := Try.isAgg222
  z57 := Try.sizeOf222
  v57 := Try.zeroValue222
  t63 := Try.underlying224
  a63 := Try.isAgg224
  z63 := Try.sizeOf224
  v63 := Try.zeroValue224
  t64 := Try.underlying225
  a64 := Try.isAgg225
  z64 := Try.sizeOf225
  v64 := Try.zeroValue225 }
end Go.Proofs
namespace Go.AG
open Go.RowKit Go.Sort Go.Proofs Go.Proofs.Ytebkdegjiollbaa
theorem sortG {v : AV} {l : List Int} {hp : Heap} (G : Grow 1 v (l.map iv) hp) (h : Heap) (hl : l.length ≤ 1099511627776) :
    ACalls Try.prog 152 [v] (hp ++ h) (fun r h' => r = .tup [] ∧ ∃ hp', Grow 1 v ((sorted l).map iv) hp' ∧ dom hp' = dom hp ∧ h' = hp' ++ h) :=
  sortGrow_of ⟨Try.f152, Try.func152, by decide +kernel, rfl⟩ (fun blk off cap zs w => Go.Proofs.AnyM.slices_Sort_int Try.laySort blk off cap zs w) (fun p cap w => Go.Proofs.AnyM.slices_Sort_int_none Try.laySort p cap w) G h hl
end Go.AG
