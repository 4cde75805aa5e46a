/- Texts divided and numbers read: the library's contracts of the kit, at this program. No statement is made here. -/
import Derived.Test.YtiahlbbljmngnaaDoorAGRd
import Derived.Test.YtiahlbbljmngnaaDoorStF
import Derived.Shelf.Strings.Prefix
import Derived.Shelf.Strings.Cut
import Derived.Shelf.LaysM
import Derived.Shelf.Strings.Split
import Derived.Shelf.Strconv.ParseIntPublic10
namespace Go.AG
end Go.AG
namespace Go.Proofs
open Go.Shelf
def Tryd.layTrim_ren : Go.Shelf.Ren := ⟨fun | 101 => 39 | 208 => 58 | 206 => 77 | n => n, fun | 9 => 9 | 4 => 4 | 3 => 3 | n => n, fun | n => n⟩
theorem Tryd.layTrim : Go.Proofs.Lays.n101 Tryd.prog Tryd.layTrim_ren := {
  mixed := by kernel_rfl
  f101 := Tryd.func39.trans (congrArg some (by kernel_rfl))
  f206 := Tryd.func77.trans (congrArg some (by kernel_rfl))
  f208 := Tryd.func58.trans (congrArg some (by kernel_rfl))
  t3 := Tryd.underlying3
  a3 := Tryd.isAgg3
  z3 := Tryd.sizeOf3
  v3 := Tryd.zeroValue3
  t4 := Tryd.underlying4
  a4 := Tryd.isAgg4
  z4 := Tryd.sizeOf4
  v4 := Tryd.zeroValue4
  t9 := Tryd.underlying9
  a9 := Tryd.isAgg9
  z9 := Tryd.sizeOf9
  v9 := Tryd.zeroValue9 }
end Go.Proofs
namespace Go.AG
end Go.AG
namespace Go.Proofs
open Go.Shelf
def Tryd.layCut_ren : Go.Shelf.Ren := ⟨fun | 145 => 19 | 220 => 38 | 219 => 57 | 217 => 73 | 225 => 74 | 224 => 75 | 267 => 76 | 266 => 88 | 314 => 89 | n => n, fun | 9 => 9 | 4 => 4 | 59 => 43 | 3 => 3 | 5 => 5 | 46 => 100 | 146 => 112 | 51 => 111 | n => n, fun | 1 => 0 | n => n⟩
theorem Tryd.layCut : Go.Proofs.LaysM.n145 Tryd.prog Tryd.layCut_ren := {
  mixed := by kernel_rfl
  f145 := Tryd.func19.trans (congrArg some (by kernel_rfl))
  f217 := Tryd.func73.trans (congrArg some (by kernel_rfl))
  f219 := Tryd.func57.trans (congrArg some (by kernel_rfl))
  f220 := Tryd.func38.trans (congrArg some (by kernel_rfl))
  f224 := Tryd.func75.trans (congrArg some (by kernel_rfl))
  f225 := Tryd.func74.trans (congrArg some (by kernel_rfl))
  f266 := Tryd.func88.trans (congrArg some (by kernel_rfl))
  f267 := Tryd.func76.trans (congrArg some (by kernel_rfl))
  f314 := Tryd.func89.trans (congrArg some (by kernel_rfl))
  t3 := Tryd.underlying3
  a3 := Tryd.isAgg3
  z3 := Tryd.sizeOf3
  v3 := Tryd.zeroValue3
  t4 := Tryd.underlying4
  a4 := Tryd.isAgg4
  z4 := Tryd.sizeOf4
  v4 := Tryd.zeroValue4
  t5 := Tryd.underlying5
  a5 := Tryd.isAgg5
  z5 := Tryd.sizeOf5
  v5 := Tryd.zeroValue5
  t9 := Tryd.underlying9
  a9 := Tryd.isAgg9
  z9 := Tryd.sizeOf9
  v9 := Tryd.zeroValue9
  t46 := Tryd.underlying100
  a46 := Tryd.isAgg100
  z46 := Tryd.sizeOf100
  v46 := Tryd.zeroValue100
  t51 := Tryd.underlying111
  a51 := Tryd.isAgg111
  z51 := Tryd.sizeOf111
  v51 := Tryd.zeroValue111
  t59 := Tryd.underlying43
  a59 := Tryd.isAgg43
  z59 := Tryd.sizeOf43
  v59 := Tryd.zeroValue43
  t146 := Tryd.underlying112
  a146 := Tryd.isAgg112
  z146 := Tryd.sizeOf112
  v146 := Tryd.zeroValue112
  g1 := by kernel_rfl
  i3 := by kernel_rfl
  i4 := by kernel_rfl
  i5 := by kernel_rfl
  i9 := by kernel_rfl
  i46 := by kernel_rfl
  i51 := by kernel_rfl
  i59 := by kernel_rfl
  i146 := by kernel_rfl
  m1 := by kernel_rfl
  s1_3 := fun w h => Go.Proofs.cell_of_shapedOpen_int (zero := #[.int .i64 0]) (t := 3) h (of_decide_eq_true (by kernel_rfl)) (by kernel_rfl) rfl (by kernel_rfl) (by kernel_rfl) Tryd.underlying3 }
end Go.Proofs
namespace Go.AG
end Go.AG
namespace Go.Proofs
open Go.Shelf
def Tryd.laySplit_ren : Go.Shelf.Ren := ⟨fun | 146 => 18 | 221 => 37 | 268 => 54 | 138 => 55 | 143 => 56 | 195 => 70 | 197 => 71 | 218 => 72 | 219 => 57 | 260 => 87 | 217 => 73 | 225 => 74 | 224 => 75 | 267 => 76 | 266 => 88 | 314 => 89 | n => n, fun | 9 => 9 | 31 => 35 | 3 => 3 | 4 => 4 | 0 => 0 | 105 => 96 | 21 => 21 | 5 => 5 | 46 => 100 | 119 => 128 | 139 => 131 | 138 => 130 | 146 => 112 | 51 => 111 | n => n, fun | 1 => 0 | 3 => 3 | 4 => 4 | n => n⟩
theorem Tryd.laySplit : Go.Proofs.Lays.n146 Tryd.prog Tryd.laySplit_ren := {
  mixed := by kernel_rfl
  f138 := Tryd.func55.trans (congrArg some (by kernel_rfl))
  f143 := Tryd.func56.trans (congrArg some (by kernel_rfl))
  f146 := Tryd.func18.trans (congrArg some (by kernel_rfl))
  f195 := Tryd.func70.trans (congrArg some (by kernel_rfl))
  f197 := Tryd.func71.trans (congrArg some (by kernel_rfl))
  f217 := Tryd.func73.trans (congrArg some (by kernel_rfl))
  f218 := Tryd.func72.trans (congrArg some (by kernel_rfl))
  f219 := Tryd.func57.trans (congrArg some (by kernel_rfl))
  f221 := Tryd.func37.trans (congrArg some (by kernel_rfl))
  f224 := Tryd.func75.trans (congrArg some (by kernel_rfl))
  f225 := Tryd.func74.trans (congrArg some (by kernel_rfl))
  f260 := Tryd.func87.trans (congrArg some (by kernel_rfl))
  f266 := Tryd.func88.trans (congrArg some (by kernel_rfl))
  f267 := Tryd.func76.trans (congrArg some (by kernel_rfl))
  f268 := Tryd.func54.trans (congrArg some (by kernel_rfl))
  f314 := Tryd.func89.trans (congrArg some (by kernel_rfl))
  t0 := Tryd.underlying0
  a0 := Tryd.isAgg0
  z0 := Tryd.sizeOf0
  v0 := Tryd.zeroValue0
  t3 := Tryd.underlying3
  a3 := Tryd.isAgg3
  z3 := Tryd.sizeOf3
  v3 := Tryd.zeroValue3
  t4 := Tryd.underlying4
  a4 := Tryd.isAgg4
  z4 := Tryd.sizeOf4
  v4 := Tryd.zeroValue4
  t5 := Tryd.underlying5
  a5 := Tryd.isAgg5
  z5 := Tryd.sizeOf5
  v5 := Tryd.zeroValue5
  t9 := Tryd.underlying9
  a9 := Tryd.isAgg9
  z9 := Tryd.sizeOf9
  v9 := Tryd.zeroValue9
  t21 := Tryd.underlying21
  a21 := Tryd.isAgg21
  z21 := Tryd.sizeOf21
  v21 := Tryd.zeroValue21
  t31 := Tryd.underlying35
  a31 := Tryd.isAgg35
  z31 := Tryd.sizeOf35
  v31 := Tryd.zeroValue35
  t46 := Tryd.underlying100
  a46 := Tryd.isAgg100
  z46 := Tryd.sizeOf100
  v46 := Tryd.zeroValue100
  t51 := Tryd.underlying111
  a51 := Tryd.isAgg111
  z51 := Tryd.sizeOf111
  v51 := Tryd.zeroValue111
  t105 := Tryd.underlying96
  a105 := Tryd.isAgg96
  z105 := Tryd.sizeOf96
  v105 := Tryd.zeroValue96
  t119 := Tryd.underlying128
  a119 := Tryd.isAgg128
  z119 := Tryd.sizeOf128
  t138 := Tryd.underlying130
  a138 := Tryd.isAgg130
  z138 := Tryd.sizeOf130
  v138 := Tryd.zeroValue130
  t139 := Tryd.underlying131
  a139 := Tryd.isAgg131
  z139 := Tryd.sizeOf131
  v139 := Tryd.zeroValue131
  t146 := Tryd.underlying112
  a146 := Tryd.isAgg112
  z146 := Tryd.sizeOf112
  v146 := Tryd.zeroValue112
  g1 := by kernel_rfl
  g3 := by kernel_rfl
  g4 := by kernel_rfl }
end Go.Proofs
namespace Go.AG
end Go.AG
namespace Go.Proofs
open Go.Shelf
def Tryd.layParse_ren : Go.Shelf.Ren := ⟨fun | 174 => 40 | 247 => 59 | 245 => 60 | 287 => 78 | 279 => 79 | 280 => 80 | 281 => 81 | 282 => 82 | 321 => 90 | 322 => 91 | 316 => 92 | 171 => 94 | 205 => 93 | 243 => 101 | 246 => 83 | 283 => 95 | 284 => 96 | 285 => 97 | 286 => 98 | 129 => 103 | 317 => 102 | 318 => 104 | 319 => 105 | 320 => 106 | 337 => 107 | 338 => 108 | n => n, fun | 9 => 9 | 3 => 3 | 2 => 2 | 75 => 67 | 85 => 68 | 4 => 4 | 167 => 102 | 5 => 5 | 53 => 103 | 175 => 104 | 46 => 100 | 168 => 106 | 37 => 86 | 0 => 0 | 210 => 117 | 21 => 21 | 127 => 109 | 145 => 134 | 143 => 132 | 171 => 120 | 173 => 123 | 212 => 136 | 51 => 111 | 20 => 20 | 213 => 137 | 232 => 141 | 233 => 142 | 80 => 92 | n => n, fun | 15 => 1 | 16 => 2 | 17 => 5 | 18 => 6 | 19 => 7 | n => n⟩
theorem Tryd.layParse : Go.Proofs.LaysC.n174 Tryd.prog Tryd.layParse_ren := {
  mixed := by kernel_rfl
  f129 := Tryd.func103.trans (congrArg some (by kernel_rfl))
  f171 := Tryd.func94.trans (congrArg some (by kernel_rfl))
  f174 := Tryd.func40.trans (congrArg some (by kernel_rfl))
  f205 := Tryd.func93.trans (congrArg some (by kernel_rfl))
  f243 := Tryd.func101.trans (congrArg some (by kernel_rfl))
  f245 := Tryd.func60.trans (congrArg some (by kernel_rfl))
  f246 := Tryd.func83.trans (congrArg some (by kernel_rfl))
  f247 := Tryd.func59.trans (congrArg some (by kernel_rfl))
  f279 := Tryd.func79.trans (congrArg some (by kernel_rfl))
  f280 := Tryd.func80.trans (congrArg some (by kernel_rfl))
  f281 := Tryd.func81.trans (congrArg some (by kernel_rfl))
  f282 := Tryd.func82.trans (congrArg some (by kernel_rfl))
  f283 := Tryd.func95.trans (congrArg some (by kernel_rfl))
  f284 := Tryd.func96.trans (congrArg some (by kernel_rfl))
  f285 := Tryd.func97.trans (congrArg some (by kernel_rfl))
  f286 := Tryd.func98.trans (congrArg some (by kernel_rfl))
  f287 := Tryd.func78.trans (congrArg some (by kernel_rfl))
  f316 := Tryd.func92.trans (congrArg some (by kernel_rfl))
  f317 := Tryd.func102.trans (congrArg some (by kernel_rfl))
  f318 := Tryd.func104.trans (congrArg some (by kernel_rfl))
  f319 := Tryd.func105.trans (congrArg some (by kernel_rfl))
  f320 := Tryd.func106.trans (congrArg some (by kernel_rfl))
  f321 := Tryd.func90.trans (congrArg some (by kernel_rfl))
  f322 := Tryd.func91.trans (congrArg some (by kernel_rfl))
  f337 := Tryd.func107.trans (congrArg some (by kernel_rfl))
  f338 := Tryd.func108.trans (congrArg some (by kernel_rfl))
  t0 := Tryd.underlying0
  a0 := Tryd.isAgg0
  z0 := Tryd.sizeOf0
  v0 := Tryd.zeroValue0
  t2 := Tryd.underlying2
  a2 := Tryd.isAgg2
  z2 := Tryd.sizeOf2
  v2 := Tryd.zeroValue2
  t3 := Tryd.underlying3
  a3 := Tryd.isAgg3
  z3 := Tryd.sizeOf3
  v3 := Tryd.zeroValue3
  t4 := Tryd.underlying4
  a4 := Tryd.isAgg4
  z4 := Tryd.sizeOf4
  v4 := Tryd.zeroValue4
  t5 := Tryd.underlying5
  a5 := Tryd.isAgg5
  z5 := Tryd.sizeOf5
  v5 := Tryd.zeroValue5
  t9 := Tryd.underlying9
  a9 := Tryd.isAgg9
  z9 := Tryd.sizeOf9
  v9 := Tryd.zeroValue9
  t20 := Tryd.underlying20
  a20 := Tryd.isAgg20
  z20 := Tryd.sizeOf20
  v20 := Tryd.zeroValue20
  t21 := Tryd.underlying21
  a21 := Tryd.isAgg21
  z21 := Tryd.sizeOf21
  v21 := Tryd.zeroValue21
  t37 := Tryd.underlying86
  a37 := Tryd.isAgg86
  z37 := Tryd.sizeOf86
  v37 := Tryd.zeroValue86
  t46 := Tryd.underlying100
  a46 := Tryd.isAgg100
  z46 := Tryd.sizeOf100
  v46 := Tryd.zeroValue100
  t51 := Tryd.underlying111
  a51 := Tryd.isAgg111
  z51 := Tryd.sizeOf111
  v51 := Tryd.zeroValue111
  t53 := Tryd.underlying103
  a53 := Tryd.isAgg103
  z53 := Tryd.sizeOf103
  v53 := Tryd.zeroValue103
  t75 := Tryd.underlying67
  a75 := Tryd.isAgg67
  z75 := Tryd.sizeOf67
  v75 := Tryd.zeroValue67
  t85 := Tryd.underlying68
  a85 := Tryd.isAgg68
  z85 := Tryd.sizeOf68
  v85 := Tryd.zeroValue68
  t127 := Tryd.underlying109
  a127 := Tryd.isAgg109
  z127 := Tryd.sizeOf109
  v127 := Tryd.zeroValue109
  t143 := Tryd.underlying132
  a143 := Tryd.isAgg132
  z143 := Tryd.sizeOf132
  v143 := Tryd.zeroValue132
  t145 := Tryd.underlying134
  a145 := Tryd.isAgg134
  z145 := Tryd.sizeOf134
  v145 := Tryd.zeroValue134
  t167 := Tryd.underlying102
  a167 := Tryd.isAgg102
  z167 := Tryd.sizeOf102
  v167 := Tryd.zeroValue102
  t168 := Tryd.underlying106
  a168 := Tryd.isAgg106
  z168 := Tryd.sizeOf106
  v168 := Tryd.zeroValue106
  t171 := Tryd.underlying120
  a171 := Tryd.isAgg120
  z171 := Tryd.sizeOf120
  v171 := Tryd.zeroValue120
  t173 := Tryd.underlying123
  a173 := Tryd.isAgg123
  z173 := Tryd.sizeOf123
  v173 := Tryd.zeroValue123
  t175 := Tryd.underlying104
  a175 := Tryd.isAgg104
  z175 := Tryd.sizeOf104
  v175 := Tryd.zeroValue104
  t210 := Tryd.underlying117
  a210 := Tryd.isAgg117
  z210 := Tryd.sizeOf117
  v210 := Tryd.zeroValue117
  t212 := Tryd.underlying136
  a212 := Tryd.isAgg136
  z212 := Tryd.sizeOf136
  v212 := Tryd.zeroValue136
  t213 := Tryd.underlying137
  a213 := Tryd.isAgg137
  z213 := Tryd.sizeOf137
  t232 := Tryd.underlying141
  a232 := Tryd.isAgg141
  z232 := Tryd.sizeOf141
  v232 := Tryd.zeroValue141
  t233 := Tryd.underlying142
  a233 := Tryd.isAgg142
  z233 := Tryd.sizeOf142
  v233 := Tryd.zeroValue142
  g15 := by kernel_rfl
  g16 := by kernel_rfl
  g17 := by kernel_rfl
  g18 := by kernel_rfl
  g19 := by kernel_rfl
  t80 := Tryd.underlying92
  a80 := Tryd.isAgg92
  z80 := Tryd.sizeOf92
  v80 := Tryd.zeroValue92
  i0 := by kernel_rfl
  i2 := by kernel_rfl
  i3 := by kernel_rfl
  i4 := by kernel_rfl
  i5 := by kernel_rfl
  i9 := by kernel_rfl
  i20 := by kernel_rfl
  i21 := by kernel_rfl
  i37 := by kernel_rfl
  i46 := by kernel_rfl
  i51 := by kernel_rfl
  i53 := by kernel_rfl
  i75 := by kernel_rfl
  i80 := by kernel_rfl
  i85 := by kernel_rfl
  i127 := by kernel_rfl
  i143 := by kernel_rfl
  i145 := by kernel_rfl
  i167 := by kernel_rfl
  i168 := by kernel_rfl
  i171 := by kernel_rfl
  i173 := by kernel_rfl
  i175 := by kernel_rfl
  i210 := by kernel_rfl
  i212 := by kernel_rfl
  i232 := by kernel_rfl
  i233 := by kernel_rfl
  m15 := by kernel_rfl
  m16 := by kernel_rfl
  m17 := by kernel_rfl
  m18 := by kernel_rfl
  m19 := by kernel_rfl
  c0 := by kernel_rfl
  c2 := by kernel_rfl
  c3 := by kernel_rfl
  c4 := by kernel_rfl
  c5 := by kernel_rfl
  c9 := by kernel_rfl
  c20 := by kernel_rfl
  c21 := by kernel_rfl
  c37 := by kernel_rfl
  c46 := by kernel_rfl
  c51 := by kernel_rfl
  c53 := by kernel_rfl
  c75 := by kernel_rfl
  c80 := by kernel_rfl
  c85 := by kernel_rfl
  c127 := by kernel_rfl
  c143 := by kernel_rfl
  c145 := by kernel_rfl
  c167 := by kernel_rfl
  c168 := by kernel_rfl
  c171 := by kernel_rfl
  c173 := by kernel_rfl
  c175 := by kernel_rfl
  c210 := by kernel_rfl
  c212 := by kernel_rfl
  c213 := by kernel_rfl
  c232 := by kernel_rfl
  c233 := by kernel_rfl }
end Go.Proofs
namespace Go.AG
open Go.RowKit Go.Sort Go.Proofs Go.Proofs.YtiahlbbljmngnaaDoor
set_option linter.unusedVariables false
theorem trim_c (s p : List UInt8) (h : Heap) : ACalls Tryd.prog 39 [.str s, .str p] h (fun v h' => v = .str (Lib.trimPrefix s p) ∧ h' = h) :=
  trim_of ⟨Tryd.f39, Tryd.func39, by decide +kernel, rfl⟩ (fun s p w => Any.strings_TrimPrefix Tryd.layTrim s p w) s p h
theorem cut_c (s p : List UInt8) (h : Heap) (hs : s.length < 4294967281) : ACalls Tryd.prog 19 [.str s, .str p] h (fun v h' => v = .tup [.str (Lib.cut s p).1, .str (Lib.cut s p).2.1, .bool (Lib.cut s p).2.2] ∧ h' = h) :=
  cut_of ⟨Tryd.f19, Tryd.func19, by decide +kernel, rfl⟩ (gid := 0) (by decide) (fun s sep m w hs hm => Any.strings_Cut { Tryd.layCut with } s sep m w hs hm) s p h hs
theorem split_w (s : List UInt8) (c : UInt8) (h : Heap) (hs : s.length < 4294967281) : ACalls Tryd.prog 18 [.str s, .str [c]] h (fun v h' => ∃ id, id ∉ dom h ∧ v = .sl id 1 0 (spl c s).length (some (spl c s).length) ∧ h' = (id, ⟨1, (spl c s).map sv⟩) :: h) :=
  split_of ⟨Tryd.f18, Tryd.func18, by decide +kernel, rfl⟩ (gid := 0) (by decide) (fun s sep m w hs hm h1 => Any.strings_Split Tryd.laySplit (by kernel_rfl) s sep m w hs hm h1) s c h hs
theorem split_c (s : List UInt8) (c : UInt8) (h : Heap) (hs : s.length < 4294967281) : ACalls Tryd.prog 18 [.str s, .str [c]] h (fun v h' => v = .snap 1 ((spl c s).map sv) ∧ h' = h) := by
  refine ACalls.post ((split_w s c h hs).mono ?_)
  rintro v h' ⟨id, hid, rfl, rfl⟩
  refine .freeze id (by simp; rfl) (.base ?_)
  simp [List.take_of_length_le]
theorem parse_c (s : List UInt8) (h : Heap) (hs : s.length ≤ 281474976710656) : ACalls Tryd.prog 40 [.str s, .int .i64 10, .int .i64 64] h (fun v h' => h' = h ∧ ((∃ n, Lib.parseIntB 64 s = .ok n ∧ v = .tup [.int .i64 n, .nili]) ∨ ((∀ n, Lib.parseIntB 64 s ≠ .ok n) ∧ ∃ k, v = .tup [.int .i64 k, .ifc]))) :=
  parse_of ⟨Tryd.f40, Tryd.func40, by decide +kernel, rfl⟩ (g15 := 1) (g16 := 2) (by decide) (by decide)
    (fun s hs v hv w => Any.strconv_ParseInt_10_at64_ok Tryd.layParse s hs v hv w)
    (fun s hs h1 h2 ev w hv he => Any.strconv_ParseInt_10_at64_syntax Tryd.layParse s hs (by cases h : Lib.parseIntB 64 s.data.toList with
      | ok v => exact absurd h (h1 v)
      | range => exact absurd h h2
      | _ => rfl) ev w hv he)
    (fun s hs h ev w hv he => Any.strconv_ParseInt_10_at64_range Tryd.layParse s hs h ev w hv he) s h hs
abbrev Txt := List UInt8
noncomputable def o_trim : List AV → Option (Prop × AV) := tab (fun (x : Txt × Txt) => match x with | (s, p) => [.str s, .str p]) (fun x => match x with | (s, p) => True) (fun x => match x with | (s, p) => .str (Lib.trimPrefix s p))
@[simp] theorem o_trim_e (s : Txt) (p : Txt) : o_trim [.str s, .str p] = some (True, .str (Lib.trimPrefix s p)) := tab_at (enc := fun (x : Txt × Txt) => match x with | (s, p) => [.str s, .str p]) (fun x y h => by
  obtain ⟨s1, p1⟩ := x; obtain ⟨s2, p2⟩ := y; simp at h; simp [h] <;> omega) _ _ (s, p)
theorem o_trim_k : Knows Tryd.prog 39 o_trim := tab_knows fun x hx h => by
  obtain ⟨s, p⟩ := x; exact trim_c s p h
noncomputable def o_cut : List AV → Option (Prop × AV) := tab (fun (x : Txt × Txt) => match x with | (s, p) => [.str s, .str p]) (fun x => match x with | (s, p) => s.length < 4294967281) (fun x => match x with | (s, p) => .tup [.str (Lib.cut s p).1, .str (Lib.cut s p).2.1, .bool (Lib.cut s p).2.2])
@[simp] theorem o_cut_e (s : Txt) (p : Txt) : o_cut [.str s, .str p] = some (s.length < 4294967281, .tup [.str (Lib.cut s p).1, .str (Lib.cut s p).2.1, .bool (Lib.cut s p).2.2]) := tab_at (enc := fun (x : Txt × Txt) => match x with | (s, p) => [.str s, .str p]) (fun x y h => by
  obtain ⟨s1, p1⟩ := x; obtain ⟨s2, p2⟩ := y; simp at h; simp [h] <;> omega) _ _ (s, p)
theorem o_cut_k : Knows Tryd.prog 19 o_cut := tab_knows fun x hx h => by
  obtain ⟨s, p⟩ := x; exact cut_c s p h hx
noncomputable def o_split : List AV → Option (Prop × AV) := tab (fun (x : Txt × UInt8) => match x with | (s, c) => [.str s, .str [c]]) (fun x => match x with | (s, c) => s.length < 4294967281) (fun x => match x with | (s, c) => .snap 1 ((spl c s).map sv))
@[simp] theorem o_split_e (s : Txt) (c : UInt8) : o_split [.str s, .str [c]] = some (s.length < 4294967281, .snap 1 ((spl c s).map sv)) := tab_at (enc := fun (x : Txt × UInt8) => match x with | (s, c) => [.str s, .str [c]]) (fun x y h => by
  obtain ⟨s1, c1⟩ := x; obtain ⟨s2, c2⟩ := y; simp at h; simp [h] <;> omega) _ _ (s, c)
theorem o_split_k : Knows Tryd.prog 18 o_split := tab_knows fun x hx h => by
  obtain ⟨s, c⟩ := x; exact split_c s c h hx
end Go.AG
