/- DistanceFiltration: the reference's lists of vertices. No statement is made here. -/
import Derived.Test.YtebkdegjiollbaaDfB
namespace Go.AG
open Go.Proofs Go.Proofs.Ytebkdegjiollbaa
set_option linter.unusedSimpArgs false
set_option linter.unusedVariables false
set_option maxRecDepth 4000
/-- From the call on, the block is not written any more. -/
theorem ACalls.frz {P : Program} {g : FuncId} {args : List AV} {h : Heap} {R : AV → Heap → Prop} (id : Nat) {b : Blk} (hb : hget h id = some b) (H : ACalls P g (fzs id b args) (hdel h id) R) : ACalls P g args h R :=
  ⟨H.1, fun w vs hw hv => by
    obtain ⟨H', Ev⟩ := hw.del id
    have hd2 : Held w (dom (hdel h id)) id b := hw.held hb (fun _ => dom_hdel_sub) (hdel_out hw.nd)
    exact (H.2 w vs H' (Reps.fz hd2 _ _ (Reps.mono Ev.keeps _ _ hv))).mono fun _ _ ⟨cv, v, h', e1, e2, e3, e4, e5⟩ => ⟨cv, v, h', e1, e2, e3, Ev.trans e4, e5⟩⟩
theorem cb_cnt : ∀ (d m f : Nat), (cb m d f).length ≤ 2 ^ d
  | d, 0, f => by rw [cb_zero]; simpa using Nat.one_le_two_pow
  | 0, m + 1, f => by simp [cb]
  | d + 1, m + 1, f => by
    have h1 := cb_cnt d m (f + 1)
    have h2 := cb_cnt d (m + 1) (f + 1)
    rw [cb_succ, List.length_append, List.length_map, Nat.pow_succ]
    omega
/-- All lists that begin so. -/
def cbP (m d f : Nat) (p : List Int) : LS := (cb m d f).map (p ++ ·)
theorem cbP_zero (d f : Nat) (p : List Int) : cbP 0 d f p = [p] := by simp [cbP, cb_zero]
theorem cbP_succ (m d f : Nat) (p : List Int) : cbP (m + 1) (d + 1) f p = cbP m d (f + 1) (p ++ [(f : Int)]) ++ cbP (m + 1) d (f + 1) p := by
  simp [cbP, cb_succ, Function.comp_def]
theorem cbP_end (m f : Nat) (p : List Int) : cbP (m + 1) 0 f p = [] := rfl
theorem cbP_cnt (m d f : Nat) (p : List Int) : (cbP m d f p).length ≤ 2 ^ d := by simpa [cbP] using cb_cnt d m f
noncomputable def o_l00Own : List AV → Option (Prop × AV) := tab (fun (x : List Int) => match x with | l => [.snap 1 (l.map iv)]) (fun x => match x with | l => l.length ≤ 1048576) (fun x => match x with | l => .snap 1 (l.map iv))
@[simp] theorem o_l00Own_e (l : List Int) : o_l00Own [.snap 1 (l.map iv)] = some (l.length ≤ 1048576, .snap 1 (l.map iv)) := tab_at (enc := fun (x : List Int) => match x with | l => [.snap 1 (l.map iv)]) (fun x y h => by
  simp at h; simp [h] <;> omega) _ _ l
theorem o_l00Own_k : Knows Try.prog 47 o_l00Own := tab_knows fun x hx h => by
  exact (ACalls.post ((l00Own_g x h hx).mono fun v h' ⟨hp, g, e⟩ => by subst e; exact g.froze (fun x => x) (fun _ _ _ => rfl) (fun _ _ h => h) (.base ⟨rfl, rfl⟩)))
noncomputable def orcX0 : List (Nat × (List AV → Option (Prop × AV))) := (47, o_l00Own) :: []
theorem orcX0_p : Pure Try.prog (lk orcX0) := (lk_pure o_l00Own_k lk_pure0)
@[simp] theorem orcX0_l (b : Bool) (g : FuncId) (l : List AV) : lk orcX0 b g l = if g = 47 then o_l00Own l else none := nr rfl
abbrev k81_o0 : List AJ := [.o ⟨(some 8), none, false, .mv (.c .nilsl), (some [0, 1, 2, 3])⟩]
abbrev k81_o1 : List AJ := [.o ⟨(some 11), none, false, .mv (.t 1), none⟩, .o ⟨(some 12), none, false, .bin .eql (.t 11) (.c (.int .i64 0)), (some [0, 1, 2, 3, 12])⟩]
abbrev k81_o2 : List AJ := [.o ⟨(some 13), none, false, .mv (.t 3), none⟩, .o ⟨(some 14), none, false, .call 47 [(.t 13)], none⟩, .o ⟨(some 15), none, false, .bsl false 1 [(.t 14)], none⟩, .o ⟨(some 8), none, false, .mv (.t 15), (some [8])⟩]
def k81_3 : ACode := .seq (.region k81_o2) .ret
def k81_4 : ACode := .cond (.t 12) k81_3 .skip
def k81_5 : ACode := .seq (.region k81_o1) k81_4
abbrev k81_o3 : List AJ := [.e 16 1 none, .o ⟨(some 9), none, false, .mv (.t 16), (some [0, 1, 2, 3, 9])⟩]
abbrev k81_o4 : List AJ := [.o ⟨(some 17), none, false, .mv (.t 2), none⟩, .o ⟨(some 10), none, false, .mv (.t 17), (some [0, 1, 3, 9, 10])⟩]
abbrev k81_o5 : List AJ := [.o ⟨(some 18), none, false, .mv (.t 10), none⟩, .o ⟨(some 19), none, false, .mv (.t 0), none⟩, .o ⟨(some 20), none, false, .bin .lss (.t 18) (.t 19), (some [0, 1, 3, 9, 10, 20])⟩]
def k81_9 : ACode := .cond (.t 20) .skip (.exit 0)
def k81_10 : ACode := .seq (.region k81_o5) k81_9
abbrev k81_o6 : List AJ := [.o ⟨(some 23), none, false, .mv (.t 9), none⟩, .o ⟨(some 24), none, false, .mv (.t 0), none⟩, .o ⟨(some 25), none, false, .mv (.t 1), none⟩, .o ⟨(some 26), none, true, .bin .sub (.t 25) (.c (.int .i64 1)), none⟩, .o ⟨(some 27), none, false, .mv (.t 10), none⟩, .o ⟨(some 28), none, true, .bin .add (.t 27) (.c (.int .i64 1)), none⟩, .o ⟨(some 29), none, false, .mv (.t 3), none⟩, .o ⟨(some 30), none, false, .call 47 [(.t 29)], none⟩, .o ⟨(some 31), none, false, .mv (.t 10), none⟩, .o ⟨(some 32), none, false, .bsl false 1 [(.t 31)], none⟩, .o ⟨(some 33), none, false, .append 1 8 (.t 30) (.t 32), none⟩, .o ⟨(some 34), none, false, .call 81 [(.t 24), (.t 26), (.t 28), (.t 33)], none⟩, .o ⟨(some 35), none, false, .append 1 24 (.t 23) (.t 34), none⟩, .o ⟨(some 9), none, false, .mv (.t 35), (some [0, 1, 3, 9, 10])⟩]
def k81_11 : ACode := .region k81_o6
abbrev k81_o7 : List AJ := [.o ⟨(some 21), none, false, .mv (.t 10), none⟩, .o ⟨(some 22), none, true, .bin .add (.t 21) (.c (.int .i64 1)), none⟩, .o ⟨(some 10), none, false, .mv (.t 22), (some [0, 1, 3, 9, 10])⟩]
def k81_13 : ACode := .region k81_o7
def k81_14 : ACode := .seq (.block 1 k81_11) k81_13
def k81_15 : ACode := .seq k81_10 k81_14
def k81_16 : ACode := .loop k81_15
def k81_17 : ACode := .block 0 k81_16
def k81_18 : ACode := .seq (.region k81_o4) k81_17
abbrev k81_o8 : List AJ := [.o ⟨(some 36), none, false, .mv (.t 9), none⟩, .o ⟨(some 8), none, false, .mv (.t 36), (some [8])⟩]
def k81_20 : ACode := .seq (.region k81_o8) .ret
def k81_21 : ACode := .seq k81_18 k81_20
def k81_22 : ACode := .seq (.region k81_o3) k81_21
def k81_23 : ACode := .seq k81_5 k81_22
def k81_24 : ACode := .seq (.region k81_o0) k81_23
@[simp, simp ↓] theorem k81_3r : sR k81_3 k81_o2 .ret := yR rfl
@[simp, simp ↓] theorem k81_4r : rC k81_4 (.t 12) k81_3 .skip := zC rfl
@[simp, simp ↓] theorem k81_5r : sR k81_5 k81_o1 k81_4 := yR rfl
@[simp, simp ↓] theorem k81_9r : rC k81_9 (.t 20) .skip (.exit 0) := zC rfl
@[simp, simp ↓] theorem k81_10r : sR k81_10 k81_o5 k81_9 := yR rfl
@[simp, simp ↓] theorem k81_11r : rR k81_11 k81_o6 := zR rfl
@[simp, simp ↓] theorem k81_13r : rR k81_13 k81_o7 := zR rfl
@[simp, simp ↓] theorem k81_14r : sB k81_14 1 k81_11 k81_13 := yB rfl
@[simp, simp ↓] theorem k81_15r : rS k81_15 k81_10 k81_14 := zS rfl
@[simp, simp ↓] theorem k81_16r : rL k81_16 k81_15 := zL rfl
@[simp, simp ↓] theorem k81_17r : rB k81_17 0 k81_16 := zB rfl
@[simp, simp ↓] theorem k81_18r : sR k81_18 k81_o4 k81_17 := yR rfl
@[simp, simp ↓] theorem k81_20r : sR k81_20 k81_o8 .ret := yR rfl
@[simp, simp ↓] theorem k81_21r : rS k81_21 k81_18 k81_20 := zS rfl
@[simp, simp ↓] theorem k81_22r : sR k81_22 k81_o3 k81_21 := yR rfl
@[simp, simp ↓] theorem k81_23r : rS k81_23 k81_5 k81_22 := zS rfl
@[simp, simp ↓] theorem k81_24r : sR k81_24 k81_o0 k81_23 := yR rfl
noncomputable abbrev k81_C : Orc → Cx := mkC Try.prog [16] 81 37 [.tmp 8]
theorem k81_of : OfP Try.prog Try.f81 81 37 k81_C k81_24 := @ofP _ _ _ _ _ _ _ _ Try.func81 (by decide +kernel) rfl (by kernel_rfl) rfl (by kernel_rfl)
theorem l22All_c : ∀ (m N f : Nat) (p : List Int) (h : Heap), m ≤ 10 → N ≤ 10 → f ≤ N → p.length + m ≤ 100 → ACalls Try.prog 81 [.int .i64 (N : Nat), .int .i64 (m : Nat), .int .i64 (f : Nat), .snap 1 (p.map iv)] h (fun v h' => v = .snap 1 ((cbP m (N - f) f p).map il) ∧ h' = h)
  | 0, N, f, p, h, hm, hN, hf, hp => by
    have hpl : p.length ≤ 1048576 := by omega
    refine k81_of rfl orcX0_p fun I => ?_
    refine Run2.of I 1000 ?_
    simp -implicitDefEqProofs [hpl]
    exact .base ⟨by simp [cbP_zero], rfl⟩
  | m + 1, N, f, p, h, hm, hN, hf, hp => by
    have hpl : p.length ≤ 1048576 := by omega
    have hm0 : ¬ ((m : Int) + 1 = 0) := by omega
    refine k81_of rfl noPure fun I => ?_
    refine Run2.of I 1000 ?_
    simp -implicitDefEqProofs [hpl, hm0]
    refine Run2.loopE (α := Nat × AV × Heap × LS) (fun s => [(0, .int .i64 (N : Nat)), (1, .int .i64 ((m : Int) + 1)), (3, .snap 1 (p.map iv)), (9, s.2.1), (10, .int .i64 (s.1 : Nat))]) (fun s => s.2.2.1 ++ h) (fun s => N - s.1) (fun s => s.1 ≤ N ∧ Grow 1 s.2.1 (s.2.2.2.map il) s.2.2.1 ∧ s.2.2.2 ++ cbP (m + 1) (N - s.1) s.1 p = cbP (m + 1) (N - f) f p) (f, .emp, [], []) (by simp) rfl ⟨hf, by simpa using Grow.emp, by simp⟩ ?_
    rintro ⟨i, w, hp, L⟩ ⟨hi, hg, hL⟩ ih
    simp only at hi hg hL ih ⊢
    have hcn := cbP_cnt (m + 1) (N - f) f p
    have hcn2 : 2 ^ (N - f) ≤ 2 ^ 10 := Nat.pow_le_pow_right (by omega) (by omega)
    have hLl : L.length ≤ 1024 := by
      have := congrArg List.length hL
      rw [List.length_append] at this
      omega
    by_cases hlt : i < N
    · have go := fun w' hp' a b => ih (i + 1, w', hp', L ++ cbP m (N - (i + 1)) (i + 1) (p ++ [(i : Int)])) ⟨by simp; omega, a, b⟩ (by simp; omega)
      clear ih
      refine Run2.of I 1000 ?_
      simp -implicitDefEqProofs [hlt]
      refine ⟨by omega, by omega, ?_⟩
      refine (l00Own_g p _ hpl).mono ?_
      rintro u h' ⟨gu, hgu, rfl⟩
      refine gK.go ?_
      simp -implicitDefEqProofs
      refine hgu.app (by simp; omega) (by simp) fun w2 hq hgq => ?_
      obtain ⟨id, rfl, rfl⟩ := hgq.ne (by simp)
      simp -implicitDefEqProofs
      refine ACalls.frz id (by simp [hget]; rfl) ?_
      have e1 : ((i : Int) + 1) = ((i + 1 : Nat) : Int) := by omega
      have H := l22All_c m N (i + 1) (p ++ [(i : Int)]) (hp ++ h) (by omega) hN (by omega) (by simp; omega)
      have e2 : fzs id ⟨1, p.map iv ++ [AV.int .i64 (i : Nat)]⟩ [.int .i64 (N : Nat), .int .i64 (m : Nat), .int .i64 ((i : Int) + 1), .sl id 1 0 (p.length + 1) none] = [.int .i64 (N : Nat), .int .i64 (m : Nat), .int .i64 ((i + 1 : Nat) : Int), .snap 1 ((p ++ [(i : Int)]).map iv)] := by
        simp [fzs, fz]
        rw [List.take_of_length_le (by simp)]
      rw [e2, show hdel ((id, (⟨1, p.map iv ++ [AV.int .i64 (i : Nat)]⟩ : Blk)) :: (hp ++ h)) id = hp ++ h by simp [hdel]]
      refine H.mono ?_
      rintro v h' ⟨rfl, rfl⟩
      have hcm := cbP_cnt m (N - (i + 1)) (i + 1) (p ++ [(i : Int)])
      have hcm2 : 2 ^ (N - (i + 1)) ≤ 2 ^ 10 := Nat.pow_le_pow_right (by omega) (by omega)
      refine gK.go ?_
      simp -implicitDefEqProofs
      refine hg.appAny (by simp; omega) fun w3 hp3 hg3 => ?_
      have := go w3 hp3 (by simpa using hg3) (by
        simp only
        rw [← hL, show N - i = (N - (i + 1)) + 1 by omega, cbP_succ, List.append_assoc])
      simp -implicitDefEqProofs
      refine ⟨by omega, ?_⟩
      simpa using this
    · obtain rfl : i = N := by omega
      rw [Nat.sub_self, cbP_end, List.append_nil] at hL
      refine Run2.of I 1000 ?_
      simp -implicitDefEqProofs [hlt]
      rw [← hL]
      exact hg.froze (fun x => x) (fun _ _ _ => rfl) (fun _ _ h => h) (.base ⟨rfl, rfl⟩)
end Go.AG
