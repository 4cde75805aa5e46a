/- Values that are exchanged: what the program's and the reference's functions give. No statement is made here. -/
import Derived.Test.YtpndpligcphonaaCtX
import Derived.Test.YtpndpligcphonaaCtOwn
import Derived.Test.YtpndpligcphonaaCtIdle
namespace Go.AG
open Go.Proofs Go.Proofs.Ytpndpligcphonaa
set_option linter.unusedSimpArgs false
set_option linter.unusedVariables false
set_option maxRecDepth 4000
/-- The lesser value to the one node, the greater to the other. -/
def exch (l : List Int) (e : T) : List Int := (l.set e.f.toNat (min (l.getD e.f.toNat 0) (l.getD e.t.toNat 0))).set e.t.toNat (max (l.getD e.f.toNat 0) (l.getD e.t.toNat 0))
@[simp] theorem exch_length (l : List Int) (e : T) : (exch l e).length = l.length := by simp [exch]
theorem exch_iv (l : List Int) (e : T) (hf : e.f.toNat < l.length) (ht : e.t.toNat < l.length) : ((l.map iv).set e.f.toNat (.int .i64 (min l[e.f.toNat] l[e.t.toNat]))).set e.t.toNat (.int .i64 (max l[e.f.toNat] l[e.t.toNat])) = (exch l e).map iv := by
  unfold exch
  rw [getD_at hf, getD_at ht, List.map_set, List.map_set]
  rfl
abbrev k35_o0 : List AJ := [.o ⟨(some 2), none, false, .box false 3 (.t 0), (some [1, 2])⟩]
abbrev k35_o1 : List AI := [⟨(some 5), none, false, .load 1 false (.t 1), none⟩, ⟨(some 6), none, false, .fieldA 0 (.t 2), none⟩, ⟨(some 7), none, false, .load 1 false (.t 6), none⟩, ⟨(some 8), none, false, .idxA 1 (.t 5) (.t 7), none⟩, ⟨(some 9), none, false, .load 1 false (.t 8), none⟩, ⟨(some 10), none, false, .load 1 false (.t 1), none⟩, ⟨(some 11), none, false, .fieldA 1 (.t 2), none⟩, ⟨(some 12), none, false, .load 1 false (.t 11), none⟩, ⟨(some 13), none, false, .idxA 1 (.t 10) (.t 12), none⟩, ⟨(some 14), none, false, .load 1 false (.t 13), none⟩, ⟨(some 3), none, false, .mv (.t 9), none⟩, ⟨(some 4), none, false, .mv (.t 14), (some [1, 2, 3, 4])⟩]
abbrev k35_o2 : List AJ := [.o ⟨(some 15), none, true, .load 1 false (.t 1), none⟩, .o ⟨(some 16), none, false, .fieldA 0 (.t 2), none⟩, .o ⟨(some 17), none, true, .load 1 false (.t 16), none⟩, .o ⟨(some 18), none, true, .load 1 false (.t 1), none⟩, .o ⟨(some 19), none, false, .fieldA 1 (.t 2), none⟩, .o ⟨(some 20), none, true, .load 1 false (.t 19), none⟩, .o ⟨(some 21), none, false, .mv (.t 3), none⟩, .o ⟨(some 22), none, false, .mv (.t 4), none⟩, .o ⟨(some 23), none, false, .mx false [(.t 21), (.t 22)], none⟩, .o ⟨(some 24), none, false, .mv (.t 3), none⟩, .o ⟨(some 25), none, false, .mv (.t 4), none⟩, .o ⟨(some 26), none, false, .mx true [(.t 24), (.t 25)], none⟩, .o ⟨(some 27), none, false, .idxA 1 (.t 15) (.t 17), none⟩, .o ⟨none, none, false, .store 1 (.t 27) (.t 23), (some [18, 20, 26])⟩, .o ⟨(some 28), none, false, .idxA 1 (.t 18) (.t 20), none⟩, .o ⟨none, none, false, .store 1 (.t 28) (.t 26), (some [])⟩]
def k35_2 : ACode := .drawT 2 k35_o2 rfl
def k35_3 : ACode := .seq (.draw k35_o1 [] rfl) k35_2
def k35_4 : ACode := .seq (.region k35_o0) k35_3
@[simp, simp ↓] theorem k35_2r : rT k35_2 k35_o2 := zT rfl
@[simp, simp ↓] theorem k35_3r : sD k35_3 k35_o1 [] k35_2 := yD rfl
@[simp, simp ↓] theorem k35_4r : sR k35_4 k35_o0 k35_3 := yR rfl
noncomputable abbrev k35_C : Orc → Cx := mkC Try.prog [] 35 29 []
theorem k35_of0 : OfP0 Try.prog Try.f35 35 29 k35_C k35_4 := @ofP0 _ _ _ _ _ _ _ _ Try.func35 (by decide +kernel) rfl (by kernel_rfl) rfl (by kernel_rfl)
theorem exchanged1_c (id : Nat) (l : List Int) (e : T) (h0 : 0 ≤ e.f ∧ 0 ≤ e.t) (hf : e.f.toNat < l.length) (ht : e.t.toNat < l.length) : ACalls Try.prog 35 (e.av :: [.ip [.sl id 1 0 l.length none]]) [(id, ⟨1, l.map iv⟩)] (fun v h' => v = .tup [] ∧ h' = [(id, ⟨1, (exch l e).map iv⟩)]) := by
  refine k35_of0 rfl noPure fun I => ?_
  have he := exch_iv l e hf ht
  refine Run2.of I 1000 ?_
  simp -implicitDefEqProofs [h0.1, h0.2, hf, ht, he]
  exact ⟨by omega, by omega⟩
/-- Values of a graph's nodes. -/
def vIn (v : List Int) : Prop := ∀ a ∈ v, -1000000 ≤ a ∧ a ≤ 1000000
noncomputable instance (v : List Int) : Decidable (vIn v) := Classical.propDecidable _
def Gr.vecG (x : Gr) (v : List Int) : Prop := (v.length : Int) = x.n ∧ vIn v
noncomputable instance (x : Gr) (v : List Int) : Decidable (x.vecG v) := Classical.propDecidable _
abbrev k29_o0 : List AJ := [.o ⟨(some 2), none, false, .mv (.c (.int .i64 0)), (some [0])⟩]
abbrev k29_o1 : List AJ := [.o ⟨(some 3), none, false, .mv (.t 0), none⟩, .o ⟨(some 4), none, false, .len (.t 3), none⟩, .o ⟨(some 2), none, false, .mv (.t 4), (some [2])⟩]
def k29_2 : ACode := .seq (.region k29_o1) .ret
def k29_3 : ACode := .seq (.region k29_o0) k29_2
@[simp, simp ↓] theorem k29_2r : sR k29_2 k29_o1 .ret := yR rfl
@[simp, simp ↓] theorem k29_3r : sR k29_3 k29_o0 k29_2 := yR rfl
noncomputable abbrev k29_C : Orc → Cx := mkC Try.prog [] 29 5 [.tmp 2]
theorem k29_of0 : OfP0 Try.prog Try.f29 29 5 k29_C k29_3 := @ofP0 _ _ _ _ _ _ _ _ Try.func29 (by decide +kernel) rfl (by kernel_rfl) rfl (by kernel_rfl)
theorem sizeI_s (l : List Int) (h : Heap) : ACalls Try.prog 29 [.snap 1 (l.map iv)] h (fun v h' => v = .int .i64 l.length ∧ h' = h) := by
  refine k29_of0 rfl noPure fun I => ?_
  refine Run2.of I 1000 ?_
  simp -implicitDefEqProofs
abbrev k31_o0 : List AJ := [.o ⟨(some 2), none, false, .mv (.c (.bool false)), (some [0])⟩]
abbrev k31_o1 : List AJ := [.o ⟨(some 3), none, false, .mv (.t 0), none⟩, .o ⟨(some 4), none, false, .call 32 [(.t 3), (.c (.int .i64 (-1000000))), (.c (.int .i64 1000000))], none⟩, .o ⟨(some 5), none, false, .un .not (.t 4), none⟩, .o ⟨(some 2), none, false, .mv (.t 5), (some [2])⟩]
def k31_2 : ACode := .seq (.region k31_o1) .ret
def k31_3 : ACode := .seq (.region k31_o0) k31_2
@[simp, simp ↓] theorem k31_2r : sR k31_2 k31_o1 .ret := yR rfl
@[simp, simp ↓] theorem k31_3r : sR k31_3 k31_o0 k31_2 := yR rfl
noncomputable abbrev k31_C : Orc → Cx := mkC Try.prog [] 31 6 [.tmp 2]
theorem k31_of0 : OfP0 Try.prog Try.f31 31 6 k31_C k31_3 := @ofP0 _ _ _ _ _ _ _ _ Try.func31 (by decide +kernel) rfl (by kernel_rfl) rfl (by kernel_rfl)
theorem isGV1_c (a : Int) (h : Heap) : ACalls Try.prog 31 [.int .i64 a] h (fun v h' => v = .bool (!decide (-1000000 ≤ a ∧ a ≤ 1000000)) ∧ h' = h) := by
  refine k31_of0 rfl orc1_p fun I => ?_
  refine Run2.of I 1000 ?_
  simp -implicitDefEqProofs
abbrev k17_o0 : List AJ := [.o ⟨(some 2), none, false, .box false 2 (.t 0), none⟩, .o ⟨(some 4), none, false, .mv (.c (.bool false)), (some [1, 2])⟩]
abbrev k17_o1 : List AI := [⟨(some 5), none, false, .mv (.t 1), none⟩, ⟨(some 6), none, false, .call 29 [(.t 5)], none⟩, ⟨(some 7), none, false, .fieldA 0 (.t 2), none⟩, ⟨(some 8), none, false, .load 1 false (.t 7), none⟩, ⟨(some 9), none, false, .bin .eql (.t 6) (.t 8), none⟩, ⟨(some 10), none, false, .mv (.t 9), none⟩, ⟨(some 11), (some (10, true)), false, .mv (.t 1), none⟩, ⟨(some 12), (some (10, true)), false, .call 30 [(.t 11), (.c (.fn 31 []))], none⟩, ⟨(some 13), (some (10, true)), false, .un .not (.t 12), none⟩, ⟨(some 14), none, false, .pick (.t 10) (.t 13) (.c (.bool false)), none⟩, ⟨(some 4), none, false, .mv (.t 14), (some [4])⟩]
def k17_2 : ACode := .seq (.draw k17_o1 [] rfl) .ret
def k17_3 : ACode := .seq (.region k17_o0) k17_2
@[simp, simp ↓] theorem k17_2r : sD k17_2 k17_o1 [] .ret := yD rfl
@[simp, simp ↓] theorem k17_3r : sR k17_3 k17_o0 k17_2 := yR rfl
noncomputable abbrev k17_C : Orc → Cx := mkC Try.prog [] 17 15 [.tmp 4]
theorem k17_of0 : OfP0 Try.prog Try.f17 17 15 k17_C k17_3 := @ofP0 _ _ _ _ _ _ _ _ Try.func17 (by decide +kernel) rfl (by kernel_rfl) rfl (by kernel_rfl)
theorem isGV_c (x : Gr) (v : List Int) (h : Heap) (hl : v.length ≤ 1048576) : ACalls Try.prog 17 [x.av, .snap 1 (v.map iv)] h (fun r h' => r = .bool (decide (x.vecG v)) ∧ h' = h) := by
  refine k17_of0 rfl noPure fun I => ?_
  refine Run2.of I 1000 ?_
  simp -implicitDefEqProofs
  refine dcallK (sizeI_s v h) ?_
  simp -implicitDefEqProofs
  have hc := ContainsFunc_s v 31 [] (fun a => !decide (-1000000 ≤ a ∧ a ≤ 1000000)) h hl fun a _ => isGV1_c a h
  have hany : v.any (fun a => !decide (-1000000 ≤ a ∧ a ≤ 1000000)) = !decide (vIn v) := by
    rw [Bool.eq_iff_iff]
    simp [vIn]
    grind
  rw [hany] at hc
  refine ⟨fun h1 => ?_, fun h1 => ?_⟩
  · refine dcallK hc ?_
    simp -implicitDefEqProofs [Gr.vecG, h1]
  · simp [Gr.vecG, h1]
noncomputable def o_isGV : List AV → Option (Prop × AV) := tab (fun (x : Int × List T × List Int) => match x with | (n, ts, v) => [.agg [.int .i64 n, .snap 3 (ts.map T.av)], .snap 1 (v.map iv)]) (fun x => match x with | (n, ts, v) => v.length ≤ 1048576) (fun x => match x with | (n, ts, v) => .bool (decide (Gr.vecG ⟨n, ts⟩ v)))
@[simp] theorem o_isGV_e (n : Int) (ts : List T) (v : List Int) : o_isGV [.agg [.int .i64 n, .snap 3 (ts.map T.av)], .snap 1 (v.map iv)] = some (v.length ≤ 1048576, .bool (decide (Gr.vecG ⟨n, ts⟩ v))) := tab_at (enc := fun (x : Int × List T × List Int) => match x with | (n, ts, v) => [.agg [.int .i64 n, .snap 3 (ts.map T.av)], .snap 1 (v.map iv)]) (fun x y h => by
  obtain ⟨n1, ts1, v1⟩ := x; obtain ⟨n2, ts2, v2⟩ := y; simp at h; simp [h] <;> omega) _ _ (n, ts, v)
theorem o_isGV_k : Knows Try.prog 17 o_isGV := tab_knows fun x hx h => by
  obtain ⟨n, ts, v⟩ := x; exact isGV_c ⟨n, ts⟩ v h hx

abbrev k19_o0 : List AJ := [.o ⟨(some 4), none, false, .box false 2 (.t 0), none⟩, .o ⟨(some 8), none, false, .mv (.c .nilsl), (some [1, 2, 3, 4])⟩]
abbrev k19_o1 : List AJ := [.o ⟨(some 10), none, false, .mv (.t 2), none⟩, .o ⟨(some 11), none, false, .call 33 [(.t 10)], none⟩, .v 9 1 .nilsl [] (.t 11) (some [1, 3, 4, 9])]
abbrev k19_o2 : List AJ := [.o ⟨(some 12), none, false, .load 2 true (.t 4), none⟩, .o ⟨(some 13), none, false, .mv (.t 1), none⟩, .o ⟨(some 14), none, false, .mv (.t 3), none⟩, .o ⟨(some 15), none, false, .mkfn 35 [(.t 9)], none⟩, .o ⟨(some 16), none, false, .call 34 [(.t 12), (.t 13), (.t 14), (.t 15)], (some [9])⟩]
abbrev k19_o3 : List AJ := [.o ⟨(some 17), none, false, .load 1 false (.t 9), none⟩, .o ⟨(some 8), none, false, .mv (.t 17), (some [8])⟩]
def k19_4 : ACode := .seq (.region k19_o3) .ret
def k19_5 : ACode := .seq (.region k19_o2) k19_4
def k19_6 : ACode := .seq (.region k19_o1) k19_5
def k19_7 : ACode := .seq (.region k19_o0) k19_6
@[simp, simp ↓] theorem k19_4r : sR k19_4 k19_o3 .ret := yR rfl
@[simp, simp ↓] theorem k19_5r : sR k19_5 k19_o2 k19_4 := yR rfl
@[simp, simp ↓] theorem k19_6r : sR k19_6 k19_o1 k19_5 := yR rfl
@[simp, simp ↓] theorem k19_7r : sR k19_7 k19_o0 k19_6 := yR rfl
noncomputable abbrev k19_C : Orc → Cx := mkC Try.prog [9] 19 18 [.tmp 8]
theorem k19_of0 : OfP0 Try.prog Try.f19 19 18 k19_C k19_7 := @ofP0 _ _ _ _ _ _ _ _ Try.func19 (by decide +kernel) rfl (by kernel_rfl) rfl (by kernel_rfl)
theorem exchanged_n (x : Gr) (rs : List (List Int)) (v : List Int) (times : Int) (hr : ssTot rs ≤ 1048576) (hv : x.valid) (hok : x.rsOk rs) (hvl : (v.length : Int) = x.n) (ht : 0 ≤ times ∧ times ≤ 100) : ACalls Try.prog 19 [x.av, .snap 1 (rs.map il), .snap 1 (v.map iv), .int .i64 times] [] (fun w h' => OwnL iv 1 w (runT x exch rs v times.toNat) h') := by
  have hn1 := hv.1
  have hn2 := hv.2.1
  refine k19_of0 rfl noPure fun I => ?_
  refine Run2.of I 1000 ?_
  simp -implicitDefEqProofs
  refine (Clone_w v [] (by omega)).mono ?_
  rintro u h' ⟨hp, G, rfl⟩
  refine gK.go ?_
  generalize hm : v.map iv = m at G
  cases G with
  | nil => simp at hm; subst hm; simp at hvl; omega
  | emp => simp at hm; subst hm; simp at hvl; omega
  | sl id m n hn =>
    subst hm
    simp only [List.length_map] at hn
    subst hn
    simp -implicitDefEqProofs
    have hex := exchanges_w (fun l => [(id, (⟨1, l.map iv⟩ : Blk))]) exch (fun l => l.length = v.length) x rs times 35 [.ip [.sl id 1 0 v.length none]] v rfl hr (fun r hr k hk => (hok.1 r hr).2.2.1 k hk) ⟨ht.1, by omega⟩ (fun a e he ha => by
      have hel := hv.el he
      unfold Gr.el at hel
      rw [← ha]
      exact ⟨exchanged1_c id a e ⟨hel.1, by omega⟩ (by omega) (by omega), exch_length a e⟩)
    refine hex.mono ?_
    rintro u h' ⟨rfl, rfl⟩
    have hl := runT_inv x exch (Inv := fun l => l.length = v.length) (fun a e _ ha => by rw [exch_length]; exact ha) (fun r hr k hk => (hok.1 r hr).2.2.1 k hk) (rs := rs) (a := v) rfl times.toNat
    refine gK.go ?_
    simp -implicitDefEqProofs
    have := OwnL.sl (enc := iv) (sz := 1) (l := runT x exch rs v times.toNat) id none [] rfl
    rw [List.append_nil] at this
    rw [hl] at this
    exact this
noncomputable def Gr.xCode (x : Gr) (rs : List (List Int)) (v : List Int) (times : Int) : Int := if x.sCode rs = 0 then if x.vecG v ∧ 0 ≤ times ∧ times ≤ 100 then 0 else 2 else x.sCode rs
noncomputable def Gr.xL (x : Gr) (rs : List (List Int)) (v : List Int) (times : Int) : List Int := if x.xCode rs v times = 0 then runT x exch rs v times.toNat else []
theorem Gr.xCode_ok {x : Gr} {rs : List (List Int)} {v : List Int} {times : Int} (h : x.xCode rs v times = 0) : (x.valid ∧ x.rsOk rs) ∧ x.vecG v ∧ 0 ≤ times ∧ times ≤ 100 := by
  unfold Gr.xCode at h
  split at h
  · rename_i h1
    split at h
    · exact ⟨Gr.sCode_ok h1, by assumption⟩
    · omega
  · rename_i h1; exact absurd h h1
theorem Gr.xL_len (x : Gr) (rs : List (List Int)) (v : List Int) (times : Int) : (x.xL rs v times).length ≤ 12 := by
  unfold Gr.xL
  split
  · rename_i h
    obtain ⟨⟨hv, hok⟩, hg, _⟩ := Gr.xCode_ok h
    have hl := runT_inv x exch (Inv := fun l => l.length = v.length) (fun a e _ ha => by rw [exch_length]; exact ha) (fun r hr k hk => (hok.1 r hr).2.2.1 k hk) (rs := rs) (a := v) rfl times.toNat
    have := hg.1
    have := hv.2.1
    omega
  · simp
noncomputable def orcK : List (Nat × (List AV → Option (Prop × AV))) := (17, o_isGV) :: (18, o_isRepeat) :: (39, o_l00In) :: orcJ
theorem orcK_p : Pure Try.prog (lk orcK) := (lk_pure o_isGV_k (lk_pure o_isRepeat_k (lk_pure o_l00In_k orcJ_p)))
@[simp] theorem orcK_l (b : Bool) (g : FuncId) (l : List AV) : lk orcK b g l = if g = 17 then o_isGV l else if g = 18 then o_isRepeat l else if g = 39 then o_l00In l else lk orcJ b g l := nr rfl
abbrev k6_o0 : List AJ := [.o ⟨(some 4), none, false, .box false 2 (.t 0), none⟩, .o ⟨(some 8), none, false, .mv (.c .nilsl), none⟩, .o ⟨(some 9), none, false, .mv (.c (.int .i64 0)), (some [1, 2, 3, 4])⟩]
abbrev k6_o1 : List AJ := [.o ⟨(some 11), none, false, .load 2 true (.t 4), none⟩, .o ⟨(some 12), none, false, .mv (.t 1), none⟩, .o ⟨(some 13), none, false, .call 16 [(.t 11), (.t 12)], none⟩, .o ⟨(some 10), none, false, .mv (.t 13), (some [1, 2, 3, 4, 10])⟩]
abbrev k6_o2 : List AJ := [.o ⟨(some 14), none, false, .mv (.t 10), none⟩, .o ⟨(some 15), none, false, .bin .neq (.t 14) (.c (.int .i64 0)), (some [1, 2, 3, 4, 10, 15])⟩]
abbrev k6_o3 : List AJ := [.o ⟨(some 16), none, false, .mv (.t 10), none⟩, .o ⟨(some 8), none, false, .mv (.c .nilsl), none⟩, .o ⟨(some 9), none, false, .mv (.t 16), (some [8, 9])⟩]
def k6_4 : ACode := .seq (.region k6_o3) .ret
def k6_5 : ACode := .cond (.t 15) k6_4 .skip
def k6_6 : ACode := .seq (.region k6_o2) k6_5
def k6_7 : ACode := .seq (.region k6_o1) k6_6
abbrev k6_o4 : List AJ := [.o ⟨(some 17), none, false, .load 2 true (.t 4), none⟩, .o ⟨(some 18), none, false, .mv (.t 2), none⟩, .o ⟨(some 19), none, false, .call 17 [(.t 17), (.t 18)], none⟩, .o ⟨(some 20), none, false, .un .not (.t 19), none⟩, .o ⟨(some 21), none, false, .mv (.t 20), none⟩, .o ⟨(some 22), (some (21, false)), false, .mv (.t 3), none⟩, .o ⟨(some 23), (some (21, false)), false, .call 18 [(.t 22)], none⟩, .o ⟨(some 24), (some (21, false)), false, .un .not (.t 23), none⟩, .o ⟨(some 25), none, false, .pick (.t 21) (.c (.bool true)) (.t 24), (some [1, 2, 3, 4, 25])⟩]
abbrev k6_o5 : List AJ := [.o ⟨(some 8), none, false, .mv (.c .nilsl), none⟩, .o ⟨(some 9), none, false, .mv (.c (.int .i64 2)), (some [8, 9])⟩]
def k6_10 : ACode := .seq (.region k6_o5) .ret
def k6_11 : ACode := .cond (.t 25) k6_10 .skip
def k6_12 : ACode := .seq (.region k6_o4) k6_11
abbrev k6_o6 : List AJ := [.o ⟨(some 26), none, false, .load 2 true (.t 4), none⟩, .o ⟨(some 27), none, false, .mv (.t 1), none⟩, .o ⟨(some 28), none, false, .mv (.t 2), none⟩, .o ⟨(some 29), none, false, .mv (.t 3), none⟩, .o ⟨(some 30), none, false, .call 19 [(.t 26), (.t 27), (.t 28), (.t 29)], none⟩, .o ⟨(some 8), none, false, .mv (.t 30), none⟩, .o ⟨(some 9), none, false, .mv (.c (.int .i64 0)), (some [8, 9])⟩]
def k6_14 : ACode := .seq (.region k6_o6) .ret
def k6_15 : ACode := .seq k6_12 k6_14
def k6_16 : ACode := .seq k6_7 k6_15
def k6_17 : ACode := .seq (.region k6_o0) k6_16
@[simp, simp ↓] theorem k6_4r : sR k6_4 k6_o3 .ret := yR rfl
@[simp, simp ↓] theorem k6_5r : rC k6_5 (.t 15) k6_4 .skip := zC rfl
@[simp, simp ↓] theorem k6_6r : sR k6_6 k6_o2 k6_5 := yR rfl
@[simp, simp ↓] theorem k6_7r : sR k6_7 k6_o1 k6_6 := yR rfl
@[simp, simp ↓] theorem k6_10r : sR k6_10 k6_o5 .ret := yR rfl
@[simp, simp ↓] theorem k6_11r : rC k6_11 (.t 25) k6_10 .skip := zC rfl
@[simp, simp ↓] theorem k6_12r : sR k6_12 k6_o4 k6_11 := yR rfl
@[simp, simp ↓] theorem k6_14r : sR k6_14 k6_o6 .ret := yR rfl
@[simp, simp ↓] theorem k6_15r : rS k6_15 k6_12 k6_14 := zS rfl
@[simp, simp ↓] theorem k6_16r : rS k6_16 k6_7 k6_15 := zS rfl
@[simp, simp ↓] theorem k6_17r : sR k6_17 k6_o0 k6_16 := yR rfl
noncomputable abbrev k6_C : Orc → Cx := mkC Try.prog [] 6 31 [.tmp 8, .tmp 9]
theorem k6_of0 : OfP0 Try.prog Try.f6 6 31 k6_C k6_17 := @ofP0 _ _ _ _ _ _ _ _ Try.func6 (by decide +kernel) rfl (by kernel_rfl) rfl (by kernel_rfl)
theorem implEx_o (x : Gr) (rs : List (List Int)) (v : List Int) (times : Int) (hl : x.ts.length ≤ 1048576) (ok : x.ok) (hr : ssTot rs ≤ 1048576) (hvl : v.length ≤ 1048576) : ACalls Try.prog 6 [x.av, .snap 1 (rs.map il), .snap 1 (v.map iv), .int .i64 times] [] (fun r h' => ∃ w, r = .tup [w, .int .i64 (x.xCode rs v times)] ∧ OwnL iv 1 w (x.xL rs v times) h') := by
  refine k6_of0 rfl orcK_p fun I => ?_
  refine Run2.of I 1000 ?_
  by_cases hs : x.sCode rs = 0
  · by_cases hk : x.vecG v ∧ 0 ≤ times ∧ times ≤ 100
    · have hc : x.xCode rs v times = 0 := by simp [Gr.xCode, hs, hk]
      have hid : x.xL rs v times = runT x exch rs v times.toNat := by simp [Gr.xL, hc]
      obtain ⟨⟨hv, hrs⟩, _⟩ := Gr.xCode_ok hc
      simp -implicitDefEqProofs [hl, ok, hr, hs, hvl, hk.1, hk.2.1, hk.2.2]
      refine (exchanged_n x rs v times hr hv hrs hk.1.1 hk.2).mono ?_
      intro w h' o
      have hcell := o.cell
      refine gK.go ?_
      simp -implicitDefEqProofs [hcell]
      exact ⟨w, ⟨rfl, hc.symm⟩, by rw [hid]; exact o⟩
    · have hc : x.xCode rs v times = 2 := by simp [Gr.xCode, hs, hk]
      have hid : x.xL rs v times = [] := by simp [Gr.xL, hc]
      simp -implicitDefEqProofs [hl, ok, hr, hs, hvl, hc, hid]
      repeat' (first | refine And.intro ?_ ?_ | intro _)
      all_goals first | exact .nil | (exfalso; exact hk ⟨by assumption, by omega, by omega⟩)
  · have hc : x.xCode rs v times = x.sCode rs := by simp [Gr.xCode, hs]
    have hid : x.xL rs v times = [] := by simp [Gr.xL, hc, hs]
    simp -implicitDefEqProofs [hl, ok, hr, hs, hc, hid]
    exact .nil


noncomputable def orcX : List (Nat × (List AV → Option (Prop × AV))) := []
theorem orcX_p : Pure Try.prog (lk orcX) := lk_pure0
@[simp] theorem orcX_l (b : Bool) (g : FuncId) (l : List AV) : lk orcX b g l = none := nr rfl
end Go.AG
