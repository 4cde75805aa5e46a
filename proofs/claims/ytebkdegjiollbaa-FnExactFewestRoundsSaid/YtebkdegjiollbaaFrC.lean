/- The fewest rounds, as the program finds them. No statement is made here. -/
import Derived.Test.YtebkdegjiollbaaFrB
namespace Go.AG
open Go.Proofs Go.Proofs.Ytebkdegjiollbaa
set_option linter.unusedSimpArgs false
set_option linter.unusedVariables false
set_option maxRecDepth 4000
theorem frL_f {x : Gr} {F : List (List Int) → Int → FrR} {B : Int} {rs : List (List Int)} {e : Int} {r : List (List Int)} (hF : ∀ rs k r, (F rs k).1 = some r → (F rs k).2.2 = false) : ∀ {is : List Nat} {k : Int}, (frL x F B rs e is k).1 = some r → (frL x F B rs e is k).2.2 = false
  | [], k, h => by simp [frL] at h
  | i :: is, k, h => by
    by_cases h1 : i < rs.length ∧ ¬ x.free (rs.getD i []) e
    · rw [frL_skip h1] at h ⊢; exact frL_f hF h
    · by_cases h2 : k = B
      · rw [frL_full h1 h2] at h; cases h
      · rw [frL_go h1 h2] at h ⊢
        have hi := hF (frPut rs i e) (k + 1)
        generalize F (frPut rs i e) (k + 1) = G at *
        obtain ⟨o, k', f⟩ := G
        cases o with
        | some r' => exact hi r' rfl
        | none =>
          cases f with
          | true => simp at h
          | false => exact frL_f hF h
theorem frS_f (x : Gr) (m : Nat) (B : Int) : ∀ (d : Nat) (rs : List (List Int)) (k : Int) (r : List (List Int)), (frS x m B d rs k).1 = some r → (frS x m B d rs k).2.2 = false
  | 0, rs, k, r, h => rfl
  | d + 1, rs, k, r, h => by
    rw [frS_succ] at h ⊢
    exact frL_f (frS_f x m B d) h
theorem OwnLs_rep (m : Nat) : OwnLs (List.replicate m .nilsl) (List.replicate m []) [] := by
  induction m with
  | zero => exact .nil
  | succ m ih =>
    rw [List.replicate_succ, List.replicate_succ]
    exact OwnLs.cons (h1 := []) .nil ih (by simp [dom])
theorem padR_full {m : Nat} {r : List (List Int)} (h : r.length = m) : padR m r = r := by
  unfold padR; rw [h]; simp
abbrev k50_o0 : List AJ := [.o ⟨(some 2), none, false, .mv (.c (.bool false)), (some [0])⟩]
abbrev k50_o1 : List AJ := [.o ⟨(some 3), none, false, .mv (.t 0), none⟩, .o ⟨(some 4), none, false, .call 91 [(.t 3), (.c (.int .i64 1)), (.c (.int .i64 20000))], none⟩, .o ⟨(some 2), none, false, .mv (.t 4), (some [2])⟩]
def k50_2 : ACode := .seq (.region k50_o1) .ret
def k50_3 : ACode := .seq (.region k50_o0) k50_2
@[simp, simp ↓] theorem k50_2r : sR k50_2 k50_o1 .ret := yR rfl
@[simp, simp ↓] theorem k50_3r : sR k50_3 k50_o0 k50_2 := yR rfl
noncomputable abbrev k50_C : Orc → Cx := mkC Try.prog [] 50 5 [.tmp 2]
theorem k50_of0 : OfP0 Try.prog Try.f50 50 5 k50_C k50_3 := @ofP0 _ _ _ _ _ _ _ _ Try.func50 (by decide +kernel) rfl (by kernel_rfl) rfl (by kernel_rfl)
theorem isBudget_f (a : Int) (h : Heap) : ACalls Try.prog 50 [.int .i64 a] h (fun v h' => v = .bool (decide (1 ≤ a) && decide (a ≤ 20000)) ∧ h' = h) := by
  refine k50_of0 rfl orc1_p fun I => ?_
  refine Run2.of I 1000 ?_
  simp -implicitDefEqProofs
noncomputable def o_isBudget : List AV → Option (Prop × AV) := tab (fun (x : Int) => match x with | a => [.int .i64 a]) (fun x => match x with | a => True) (fun x => match x with | a => .bool (decide (1 ≤ a) && decide (a ≤ 20000)))
@[simp] theorem o_isBudget_e (a : Int) : o_isBudget [.int .i64 a] = some (True, .bool (decide (1 ≤ a) && decide (a ≤ 20000))) := tab_at (enc := fun (x : Int) => match x with | a => [.int .i64 a]) (fun x y h => by
  simp at h; simp [h] <;> omega) _ _ a
theorem o_isBudget_k : Knows Try.prog 50 o_isBudget := tab_knows fun x hx h => by
  exact isBudget_f _ h
noncomputable def orcFr2 : List (Nat × (List AV → Option (Prop × AV))) := (49, o_valid) :: (50, o_isBudget) :: []
theorem orcFr2_p : Pure Try.prog (lk orcFr2) := (lk_pure o_valid_k (lk_pure o_isBudget_k lk_pure0))
@[simp] theorem orcFr2_l (b : Bool) (g : FuncId) (l : List AV) : lk orcFr2 b g l = if g = 49 then o_valid l else if g = 50 then o_isBudget l else none := nr rfl
abbrev k11_o0 : List AJ := [.o ⟨(some 2), none, false, .box false 2 (.t 0), none⟩, .o ⟨(some 4), none, false, .mv (.c .nilsl), none⟩, .o ⟨(some 5), none, false, .mv (.c (.int .i64 0)), (some [1, 2])⟩]
abbrev k11_o1 : List AJ := [.o ⟨(some 9), none, false, .load 2 true (.t 2), none⟩, .o ⟨(some 10), none, false, .call 49 [(.t 9)], none⟩, .o ⟨(some 11), none, false, .un .not (.t 10), (some [1, 2, 11])⟩]
abbrev k11_o2 : List AJ := [.o ⟨(some 4), none, false, .mv (.c .nilsl), none⟩, .o ⟨(some 5), none, false, .mv (.c (.int .i64 1)), (some [4, 5])⟩]
def k11_3 : ACode := .seq (.region k11_o2) .ret
def k11_4 : ACode := .cond (.t 11) k11_3 .skip
def k11_5 : ACode := .seq (.region k11_o1) k11_4
abbrev k11_o3 : List AJ := [.o ⟨(some 12), none, false, .mv (.t 1), none⟩, .o ⟨(some 13), none, false, .call 50 [(.t 12)], none⟩, .o ⟨(some 14), none, false, .un .not (.t 13), (some [1, 2, 14])⟩]
abbrev k11_o4 : List AJ := [.o ⟨(some 4), none, false, .mv (.c .nilsl), none⟩, .o ⟨(some 5), none, false, .mv (.c (.int .i64 2)), (some [4, 5])⟩]
def k11_8 : ACode := .seq (.region k11_o4) .ret
def k11_9 : ACode := .cond (.t 14) k11_8 .skip
def k11_10 : ACode := .seq (.region k11_o3) k11_9
abbrev k11_o5 : List AJ := [.o ⟨(some 15), none, false, .mv (.t 1), none⟩, .o ⟨(some 16), none, false, .build [(.int .i64 0), (.bool false)] [(0, 1, (.t 15))], none⟩, .o ⟨(some 17), none, false, .load 2 true (.t 2), none⟩, .o ⟨(some 18), none, false, .build [(.int .i64 0), (.bool false), (.int .i64 0), .nilsl, .nilsl] [(0, 2, (.t 16)), (2, 2, (.t 17))], none⟩, .o ⟨(some 19), none, false, .box true 5 (.t 18), none⟩, .o ⟨(some 6), none, false, .mv (.t 19), (some [6])⟩]
abbrev k11_o6 : List AJ := [.o ⟨(some 7), none, false, .mv (.c (.int .i64 0)), (some [6, 7])⟩]
abbrev k11_o7 : List AJ := [.o ⟨(some 22), none, false, .mv (.t 6), none⟩, .o ⟨(some 23), none, false, .mv (.t 7), none⟩, .o ⟨(some 24), none, false, .mksl 1 24 .nilsl (.t 23) (.t 23), none⟩, .o ⟨(some 25), none, false, .nilchk (.t 22), none⟩, .o ⟨(some 26), none, false, .fieldA 4 (.t 25), none⟩, .o ⟨none, none, false, .store 1 (.t 26) (.t 24), (some [6, 7])⟩]
abbrev k11_o8 : List AJ := [.o ⟨(some 27), none, false, .mv (.t 6), none⟩, .o ⟨(some 28), none, false, .call 51 [(.t 27), (.c (.int .i64 0))], none⟩, .o ⟨(some 8), none, false, .mv (.t 28), (some [6, 7, 8])⟩]
abbrev k11_o9 : List AJ := [.o ⟨(some 29), none, false, .mv (.t 6), none⟩, .o ⟨(some 30), none, false, .nilchk (.t 29), none⟩, .o ⟨(some 31), none, false, .fieldA 0 (.t 30), none⟩, .o ⟨(some 32), none, false, .fieldA 1 (.t 31), none⟩, .o ⟨(some 33), none, false, .load 1 false (.t 32), (some [6, 7, 8, 33])⟩]
abbrev k11_o10 : List AJ := [.o ⟨(some 4), none, false, .mv (.c .nilsl), none⟩, .o ⟨(some 5), none, false, .mv (.c (.int .i64 5)), (some [4, 5])⟩]
def k11_17 : ACode := .seq (.region k11_o10) .ret
def k11_18 : ACode := .cond (.t 33) k11_17 .skip
def k11_19 : ACode := .seq (.region k11_o9) k11_18
abbrev k11_o11 : List AJ := [.o ⟨(some 34), none, false, .mv (.t 8), (some [6, 7, 34])⟩]
abbrev k11_o12 : List AJ := [.o ⟨(some 35), none, false, .mv (.t 6), none⟩, .o ⟨(some 36), none, false, .nilchk (.t 35), none⟩, .o ⟨(some 37), none, false, .fieldA 4 (.t 36), none⟩, .o ⟨(some 38), none, false, .load 1 false (.t 37), none⟩, .o ⟨(some 4), none, false, .mv (.t 38), none⟩, .o ⟨(some 5), none, false, .mv (.c (.int .i64 0)), (some [4, 5])⟩]
def k11_22 : ACode := .seq (.region k11_o12) .ret
def k11_23 : ACode := .cond (.t 34) k11_22 .skip
def k11_24 : ACode := .seq (.region k11_o11) k11_23
def k11_25 : ACode := .seq k11_19 k11_24
def k11_26 : ACode := .seq (.region k11_o8) k11_25
def k11_27 : ACode := .seq (.region k11_o7) k11_26
abbrev k11_o13 : List AJ := [.o ⟨(some 20), none, false, .mv (.t 7), none⟩, .o ⟨(some 21), none, true, .bin .add (.t 20) (.c (.int .i64 1)), none⟩, .o ⟨(some 7), none, false, .mv (.t 21), (some [6, 7])⟩]
def k11_29 : ACode := .region k11_o13
def k11_30 : ACode := .seq (.block 1 k11_27) k11_29
def k11_31 : ACode := .loop k11_30
def k11_32 : ACode := .block 0 k11_31
def k11_33 : ACode := .seq (.region k11_o6) k11_32
def k11_34 : ACode := .seq (.region k11_o5) k11_33
def k11_35 : ACode := .seq k11_10 k11_34
def k11_36 : ACode := .seq k11_5 k11_35
def k11_37 : ACode := .seq (.region k11_o0) k11_36
@[simp, simp ↓] theorem k11_3r : sR k11_3 k11_o2 .ret := yR rfl
@[simp, simp ↓] theorem k11_4r : rC k11_4 (.t 11) k11_3 .skip := zC rfl
@[simp, simp ↓] theorem k11_5r : sR k11_5 k11_o1 k11_4 := yR rfl
@[simp, simp ↓] theorem k11_8r : sR k11_8 k11_o4 .ret := yR rfl
@[simp, simp ↓] theorem k11_9r : rC k11_9 (.t 14) k11_8 .skip := zC rfl
@[simp, simp ↓] theorem k11_10r : sR k11_10 k11_o3 k11_9 := yR rfl
@[simp, simp ↓] theorem k11_17r : sR k11_17 k11_o10 .ret := yR rfl
@[simp, simp ↓] theorem k11_18r : rC k11_18 (.t 33) k11_17 .skip := zC rfl
@[simp, simp ↓] theorem k11_19r : sR k11_19 k11_o9 k11_18 := yR rfl
@[simp, simp ↓] theorem k11_22r : sR k11_22 k11_o12 .ret := yR rfl
@[simp, simp ↓] theorem k11_23r : rC k11_23 (.t 34) k11_22 .skip := zC rfl
@[simp, simp ↓] theorem k11_24r : sR k11_24 k11_o11 k11_23 := yR rfl
@[simp, simp ↓] theorem k11_25r : rS k11_25 k11_19 k11_24 := zS rfl
@[simp, simp ↓] theorem k11_26r : sR k11_26 k11_o8 k11_25 := yR rfl
@[simp, simp ↓] theorem k11_27r : sR k11_27 k11_o7 k11_26 := yR rfl
@[simp, simp ↓] theorem k11_29r : rR k11_29 k11_o13 := zR rfl
@[simp, simp ↓] theorem k11_30r : sB k11_30 1 k11_27 k11_29 := yB rfl
@[simp, simp ↓] theorem k11_31r : rL k11_31 k11_30 := zL rfl
@[simp, simp ↓] theorem k11_32r : rB k11_32 0 k11_31 := zB rfl
@[simp, simp ↓] theorem k11_33r : sR k11_33 k11_o6 k11_32 := yR rfl
@[simp, simp ↓] theorem k11_34r : sR k11_34 k11_o5 k11_33 := yR rfl
@[simp, simp ↓] theorem k11_35r : rS k11_35 k11_10 k11_34 := zS rfl
@[simp, simp ↓] theorem k11_36r : rS k11_36 k11_5 k11_35 := zS rfl
@[simp, simp ↓] theorem k11_37r : sR k11_37 k11_o0 k11_36 := yR rfl
noncomputable abbrev k11_C : Orc → Cx := mkC Try.prog [19] 11 39 [.tmp 4, .tmp 5]
theorem k11_of0 : OfP0 Try.prog Try.f11 11 39 k11_C k11_37 := @ofP0 _ _ _ _ _ _ _ _ Try.func11 (by decide +kernel) rfl (by kernel_rfl) rfl (by kernel_rfl)
theorem implFw_o (x : Gr) (B : Int) (hl : x.ts.length ≤ 1048576) (ok : x.ok) : ACalls Try.prog 11 [x.av, .int .i64 B] [] (fun v h' => ∃ w, v = .tup [w, .int .i64 (x.fwC B)] ∧ OwnLL w (x.fwL B) h') := by
  have conv : ∀ (Q : AV → Heap → Prop), ACalls Try.prog 11 [x.av, .int .i64 B] [] (fun v h'' => (dom h'').Nodup → ∃ h', (∀ p ∈ h', p ∈ h'') ∧ (dom h').Nodup ∧ Q v h') → ACalls Try.prog 11 [x.av, .int .i64 B] [] Q := fun Q H => ACalls.sub (H.monoN fun v h' hs nd => by
    obtain ⟨h', a, b, c⟩ := hs nd
    exact ⟨h', a, fun _ => b, c⟩)
  refine conv _ ?_
  by_cases hv : x.valid
  · by_cases hB : 1 ≤ B ∧ B ≤ 20000
    · have h24 := hv.2.2.2
      obtain ⟨O, hO⟩ : ∃ O, O = frT x B (x.ts.length + 1 - 0) 0 0 := ⟨_, rfl⟩
      have hfO : x.fwO B = O := by unfold Gr.fwO; rw [if_pos ⟨hv, hB⟩, hO]; rfl
      have hfc : x.fwC B = if O.isSome = true then 0 else 5 := by unfold Gr.fwC; rw [if_pos hv, if_pos hB, hfO]
      have hfl : x.fwL B = O.getD [] := by unfold Gr.fwL; rw [hfO]
      rw [hfc, hfl]
      obtain ⟨S, hS⟩ : ∃ S, S = fun (v : AV) (h'' : Heap) => (dom h'').Nodup → ∃ h', (∀ p ∈ h', p ∈ h'') ∧ (dom h').Nodup ∧ ∃ w, v = .tup [w, .int .i64 (if O.isSome = true then 0 else 5)] ∧ OwnLL w (O.getD []) h' := ⟨_, rfl⟩
      rw [← hS]
      have leaf0 : ∀ h, O = none → S (.tup [.nilsl, .int .i64 5]) h := fun h e => by
        rw [hS, e]
        exact fun _ => ⟨[], by simp, by simp [dom], .nilsl, rfl, .nil⟩
      have leaf1 : ∀ (r : List (List Int)) (m : Nat) (idr : Nat) (us' : List AV) (a : Nat × Blk) (g : Heap), O = some r → r.length = m → OwnRs us' r g → S (.tup [.sl idr 1 0 m (some m), .int .i64 0]) (a :: (idr, ⟨1, us'⟩) :: g) := fun r m idr us' a g e hm ho => by
        obtain ⟨hi, o, hX⟩ := ho
        rw [hS, e]
        intro nd
        have hid : idr ∉ dom g := by
          simp only [dom, List.map_cons, List.nodup_cons] at nd
          exact nd.2.1
        refine ⟨(idr, ⟨1, us' ++ []⟩) :: hi, fun p hp => ?_, ?_, _, rfl, OwnLL.sl idr m (some m) [] hm.symm rfl o fun h => hid ?_⟩
        · rw [List.append_nil] at hp
          rcases List.mem_cons.1 hp with rfl | hp
          · exact List.mem_cons_of_mem _ (List.mem_cons_self ..)
          · exact List.mem_cons_of_mem _ (List.mem_cons_of_mem _ (hX p hp))
        · simp only [dom, List.map_cons, List.nodup_cons]
          refine ⟨fun h => hid ?_, o.nodup⟩
          obtain ⟨p, hp, e⟩ := List.mem_map.1 h
          exact List.mem_map.2 ⟨p, hX p hp, e⟩
        · obtain ⟨p, hp, e⟩ := List.mem_map.1 h
          exact List.mem_map.2 ⟨p, hX p hp, e⟩
      clear hS
      refine k11_of0 rfl orcFr2_p fun I => ?_
      refine Run2.of I 1000 ?_
      simp -implicitDefEqProofs [hl, ok, hv, hB.1, hB.2]
      intro idp
      refine Run2.loopE (α := Nat × Int × AV) (fun s => [(6, .ptr idp 5 0 0), (7, .int .i64 (s.1 : Nat))]) (fun s => [(idp, plB x (B - s.2.1) false s.2.2)]) (fun s => x.ts.length - s.1)
        (fun s => s.1 ≤ x.ts.length ∧ 0 ≤ s.2.1 ∧ s.2.1 ≤ B ∧ O = frT x B (x.ts.length + 1 - s.1) s.1 s.2.1 ∧ isCell s.2.2 = true ∧ (∀ m, s.1 = m + 1 → ∃ k0, k0 ≤ s.2.1 ∧ (frS x m B x.ts.length [] k0).1 = none))
        (0, 0, .nilsl) (by simp) (by simp [plB]) ⟨Nat.zero_le _, Int.le_refl _, by simp only; omega, hO, rfl, fun m h => by simp at h⟩ ?_
      clear hO
      rintro ⟨m, k, u⟩ ⟨hm, hk0, hkB, hO, hu, hmin⟩ ih
      replace hm : m ≤ x.ts.length := hm
      replace hk0 : 0 ≤ k := hk0
      replace hkB : k ≤ B := hkB
      simp only at hO hu hmin ih ⊢
      obtain ⟨n, hn⟩ : ∃ n, x.ts.length + 1 - m = n + 1 := ⟨x.ts.length - m, by omega⟩
      rw [hn, frT] at hO
      have hsome := frS_some x m B x.ts.length [] k
      have hsf := frS_f x m B x.ts.length [] k
      have hbd := frS_bd x m B x.ts.length [] k hkB
      have hen := frS_enough x m B x.ts.length [] k
      have hmono := fun m' => frS_mono x m' B x.ts.length []
      have he0 : x.eNo x.ts.length = 0 := by simp [Gr.eNo]
      have hm24 : m ≤ 24 := by omega
      unfold plB
      refine Run2.of I 1000 ?_
      simp -implicitDefEqProofs [hu]
      refine ⟨by omega, fun idr hne => ?_⟩
      have hne' : ¬ idp = idr := fun e => hne e.symm
      have hcall := plan_w x hv m hm24 B hB idp idr hne' x.ts.length [] k (List.replicate m .nilsl) [] (frI_nil x m) hk0 hkB ⟨[], by unfold padR; simpa using OwnLs_rep m, by simp⟩ (by simp [dom]) (by simp [dom])
      rw [he0] at hcall
      have hmn : ∀ m', m = m' + 1 → ∀ r, (frS x m B x.ts.length [] k).1 = some r → ¬ r.length ≤ m' := fun m' e r hr hle => by
        subst e
        obtain ⟨k0, h1, h2⟩ := hmin m' rfl
        have := (frS_mono x m' B x.ts.length [] k0 k (frI_nil x m') h1 hkB).2 r hr hle
        rw [h2] at this; cases this
      obtain ⟨F, hF⟩ : ∃ F, frS x m B x.ts.length [] k = F := ⟨_, rfl⟩
      rw [hF] at hcall hO hsome hsf hbd hen hmn
      obtain ⟨o, k', f⟩ := F
      replace hbd : k ≤ k' ∧ k' ≤ B := hbd
      unfold plB at hcall
      refine gK.go ?_
      simp -implicitDefEqProofs [hu, hne, hne']
      refine ACalls.inSub (h' := (idp, _) :: (idr, ⟨1, List.replicate m .nilsl⟩) :: []) ?_ ?_ (hcall.mono ?_)
      · intro p hp
        simp only [List.mem_cons, List.not_mem_nil, or_false] at hp ⊢
        exact hp.symm
      · intro nd
        simp [dom, hne']
      · rintro v h' ⟨q1, q2⟩
        cases o with
        | some r =>
          obtain ⟨us', g, rfl, rfl, o3⟩ := q2 r rfl
          obtain rfl : f = false := hsf r rfl
          replace hO : O = some r := hO
          obtain ⟨hI, _⟩ := hsome r (frI_nil x m) rfl
          have hrm : r.length = m := by
            rcases Nat.lt_or_ge r.length m with h | h
            · exact absurd (by omega) (hmn (m - 1) (by omega) r rfl)
            · have := hI.1
              omega
          rw [List.append_nil] at o3
          rw [padR_full hrm] at o3
          unfold plB
          refine gK.go ?_
          simp -implicitDefEqProofs [hne, hne']
          exact leaf1 r m idr us' _ g hO hrm o3
        | none =>
          obtain ⟨rfl, rfl⟩ := q1 rfl
          unfold plB
          cases f with
          | true =>
            replace hO : O = none := hO
            refine gK.go ?_
            simp -implicitDefEqProofs [hne, hne']
            exact leaf0 _ hO
          | false =>
            replace hO : O = frT x B n (m + 1) k' := hO
            have hmE : m < x.ts.length := by
              rcases Nat.lt_or_ge m x.ts.length with h | h
              · exact h
              · have := hen (by simp; omega) rfl
                cases this
            have hmk : ∀ m', m = m' → (frS x m' B x.ts.length [] k).1 = none := fun m' e => by rw [← e, hF]
            have go := ih (m + 1, k', .sl idr 1 0 m (some m)) ⟨by simp only; omega, by simp only; omega, by simp only; omega, by simp only; rw [hO]; congr 1; omega, rfl, fun m' hm' => ⟨k, by simp only; omega, hmk m' (by simpa using hm')⟩⟩ (by simp; omega)
            simp only at go
            unfold plB at go
            refine gK.go ?_
            simp -implicitDefEqProofs [hne, hne']
            refine ⟨by omega, Run2.sub (h' := [(idp, ⟨5, [.agg [.int .i64 (B - k'), .bool false, .int .i64 x.n, .snap 3 (x.ts.map T.av), .sl idr 1 0 m (some m)]]⟩)]) (fun p hp => ?_) (fun nd => by simp [dom]) (by simpa using go)⟩
            rw [List.mem_singleton.1 hp]
            exact List.mem_cons_self ..
    · have hc : x.fwC B = 2 := by unfold Gr.fwC; rw [if_pos hv, if_neg hB]
      have hL : x.fwL B = [] := by unfold Gr.fwL Gr.fwO; rw [if_neg (fun h => hB h.2)]; rfl
      rw [hc, hL]
      refine k11_of0 rfl orcFr2_p fun I => ?_
      refine Run2.of I 1000 ?_
      simp -implicitDefEqProofs [hl, ok, hv]
      exact ⟨fun _ => ⟨[], by simp, by simp [dom], .nil⟩, fun h1 h2 => absurd ⟨h1, h2⟩ hB⟩
  · have hc : x.fwC B = 1 := by unfold Gr.fwC; rw [if_neg hv]
    have hL : x.fwL B = [] := by unfold Gr.fwL Gr.fwO; rw [if_neg (fun h => hv h.1)]; rfl
    rw [hc, hL]
    refine k11_of0 rfl orcFr2_p fun I => ?_
    refine Run2.of I 1000 ?_
    simp -implicitDefEqProofs [hl, ok, hv]
    exact ⟨[], by simp, by simp [dom], .nil⟩
end Go.AG
