/- Bars of two lists: the reference's walk. No statement is made here. -/
import Derived.Test.YteheocdkjmfgdaaBrMr
namespace Go.AG
open Go.Proofs Go.Proofs.Yteheocdkjmfgdaa
set_option linter.unusedSimpArgs false
set_option linter.unusedVariables false
set_option maxRecDepth 4000
theorem Grow.appAny {sz : Nat} {w : AV} {l new : List AV} {hp h : Heap} {C : Cx} {n : Nat} {d : Option Nat} {ks : Option (List Nat)} {is : List AJ} {sk : List AItem} {R : AV → Heap → Prop} {e : Env} {bytes : Nat} (g : Grow sz w l hp) (hb : (2 * (l.length + new.length)) * bytes ≤ 281474976710656)
    (k : ∀ w' hp', Grow sz w' (l ++ new) hp' → vc2 C n is sk (kp (put e d w') ks) (hp' ++ h) R) : resK C n d ks is sk R e (hp ++ h) (appR (hp ++ h) sz bytes w new) := by
  by_cases hn : new = []
  · subst hn
    cases g with
    | nil =>
      simp only [appR_n]
      exact ⟨fun _ => k _ _ .nil, fun h => by cases h⟩
    | emp =>
      simp only [appR_e]
      exact ⟨fun _ => k _ _ .emp, fun h => by cases h⟩
    | sl id l m hm =>
      subst hm
      have hd : hdel ((id, ⟨sz, l⟩) :: h) id = h := by simp [hdel]
      rw [appR_ln]
      refine ⟨rfl, ⟨sz, l⟩, by simp [hget], rfl, by simp, rfl, hb, fun id' _ => ?_⟩
      have := k _ _ (.sl id' (l ++ []) (l.length + 0) (by simp))
      simpa [hd] using this
  · exact g.app hb hn k
theorem post_snap {R : AV → Heap → Prop} {id n sz : Nat} {L : List AV} {h : Heap} (hn : n = L.length) (hR : R (.snap sz L) h) : Post R (.sl id sz 0 n none) ((id, ⟨sz, L⟩) :: h) :=
  (Grow.sl (sz := sz) id L n hn).froze (h := h) (fun x => x) (fun _ _ _ => rfl) (fun _ _ h => h) (.base hR)
abbrev k12_o0 : List AJ := [.o ⟨(some 3), none, false, .box false 3 (.t 1), none⟩, .o ⟨(some 4), none, false, .mv (.c .nilsl), (some [0, 3])⟩]
abbrev k12_o1 : List AJ := [.o ⟨(some 7), none, false, .mv (.t 0), none⟩, .o ⟨(some 8), none, false, .len (.t 7), none⟩, .o ⟨(some 5), none, false, .mv (.t 8), (some [0, 3, 5])⟩]
abbrev k12_o2 : List AJ := [.o ⟨(some 9), none, false, .mv (.t 5), none⟩, .o ⟨(some 10), none, false, .bin .gtr (.t 9) (.c (.int .i64 0)), none⟩, .o ⟨(some 11), none, false, .mv (.t 10), none⟩, .o ⟨(some 12), (some (11, true)), false, .mv (.t 0), none⟩, .o ⟨(some 13), (some (11, true)), false, .mv (.t 5), none⟩, .o ⟨(some 14), (some (11, true)), true, .bin .sub (.t 13) (.c (.int .i64 1)), none⟩, .o ⟨(some 15), (some (11, true)), false, .idxA 3 (.t 12) (.t 14), none⟩, .o ⟨(some 16), (some (11, true)), false, .call 21 [(.t 3), (.t 15)], none⟩, .o ⟨(some 17), none, false, .pick (.t 11) (.t 16) (.c (.bool false)), (some [0, 3, 5, 17])⟩]
def k12_3 : ACode := .cond (.t 17) .skip (.exit 0)
def k12_4 : ACode := .seq (.region k12_o2) k12_3
abbrev k12_o3 : List AJ := [.o ⟨(some 18), none, false, .mv (.t 5), none⟩, .o ⟨(some 19), none, true, .bin .sub (.t 18) (.c (.int .i64 1)), none⟩, .o ⟨(some 5), none, false, .mv (.t 19), (some [0, 3, 5])⟩]
def k12_5 : ACode := .region k12_o3
def k12_6 : ACode := .block 1 k12_5
def k12_7 : ACode := .seq k12_4 k12_6
def k12_8 : ACode := .loop k12_7
abbrev k12_o4 : List AJ := [.e 20 3 none, .o ⟨(some 21), none, false, .mv (.t 0), none⟩, .o ⟨(some 22), none, false, .mv (.t 5), none⟩, .o ⟨(some 23), none, false, .slice 3 (.t 21) none (some (.t 22)) none, none⟩, .o ⟨(some 24), none, false, .append 3 24 (.t 20) (.t 23), none⟩, .o ⟨(some 6), none, false, .mv (.t 24), (some [0, 3, 5, 6])⟩]
abbrev k12_o5 : List AJ := [.o ⟨(some 25), none, false, .mv (.t 6), none⟩, .o ⟨(some 26), none, false, .load 3 true (.t 3), none⟩, .o ⟨(some 27), none, false, .bsl false 3 [(.t 26)], none⟩, .o ⟨(some 28), none, false, .append 3 24 (.t 25) (.t 27), none⟩, .o ⟨(some 6), none, false, .mv (.t 28), (some [0, 5, 6])⟩]
abbrev k12_o6 : List AJ := [.o ⟨(some 29), none, false, .mv (.t 6), none⟩, .o ⟨(some 30), none, false, .mv (.t 0), none⟩, .o ⟨(some 31), none, false, .mv (.t 5), none⟩, .o ⟨(some 32), none, false, .slice 3 (.t 30) (some (.t 31)) none none, none⟩, .o ⟨(some 33), none, false, .append 3 24 (.t 29) (.t 32), none⟩, .o ⟨(some 4), none, false, .mv (.t 33), (some [4])⟩]
def k12_13 : ACode := .seq (.region k12_o6) .ret
def k12_14 : ACode := .seq (.region k12_o5) k12_13
def k12_15 : ACode := .seq (.region k12_o4) k12_14
def k12_16 : ACode := .seq (.block 0 k12_8) k12_15
def k12_17 : ACode := .seq (.region k12_o1) k12_16
def k12_18 : ACode := .seq (.region k12_o0) k12_17
@[simp, simp ↓] theorem k12_3r : rC k12_3 (.t 17) .skip (.exit 0) := zC rfl
@[simp, simp ↓] theorem k12_4r : sR k12_4 k12_o2 k12_3 := yR rfl
@[simp, simp ↓] theorem k12_5r : rR k12_5 k12_o3 := zR rfl
@[simp, simp ↓] theorem k12_6r : rB k12_6 1 k12_5 := zB rfl
@[simp, simp ↓] theorem k12_7r : rS k12_7 k12_4 k12_6 := zS rfl
@[simp, simp ↓] theorem k12_8r : rL k12_8 k12_7 := zL rfl
@[simp, simp ↓] theorem k12_13r : sR k12_13 k12_o6 .ret := yR rfl
@[simp, simp ↓] theorem k12_14r : sR k12_14 k12_o5 k12_13 := yR rfl
@[simp, simp ↓] theorem k12_15r : sR k12_15 k12_o4 k12_14 := yR rfl
@[simp, simp ↓] theorem k12_16r : sB k12_16 0 k12_8 k12_15 := yB rfl
@[simp, simp ↓] theorem k12_17r : sR k12_17 k12_o1 k12_16 := yR rfl
@[simp, simp ↓] theorem k12_18r : sR k12_18 k12_o0 k12_17 := yR rfl
noncomputable abbrev k12_C : Orc → Cx := mkC Try.prog [20] 12 34 [.tmp 4]
theorem k12_of : OfP Try.prog Try.f12 12 34 k12_C k12_18 := @ofP _ _ _ _ _ _ _ _ Try.func12 (by decide +kernel) rfl (by kernel_rfl) rfl (by kernel_rfl)
theorem l21Put_s (l : List T) (b : T) (h : Heap) (hl : l.length ≤ 1048576) : ACalls Try.prog 12 [.snap 3 (l.map T.av), b.av] h (fun v h' => v = .snap 3 ((insB l b).map T.av) ∧ h' = h) := by
  refine k12_of rfl orc3_p fun I => ?_
  unfold insB
  refine Run2.of I 1000 ?_
  simp -implicitDefEqProofs
  refine Run2.loopE (fun (q : Nat) => [(0, .snap 3 (l.map T.av)), (3, .ip [.int .i64 b.f, .int .i64 b.t, .int .i64 b.s]), (5, .int .i64 q)]) (fun _ => h) (fun q => q) (fun q => q ≤ l.length ∧ posB l b l.length = posB l b q) l.length (by simp) rfl ⟨Nat.le_refl _, rfl⟩ fun q hq ih => ?_
  obtain ⟨hq1, hq2⟩ := hq
  rw [hq2]
  have key : ∀ p ≤ l.length, (List.map T.av l).take p = (l.take p).map T.av ∧ (List.map T.av l).drop p = (l.drop p).map T.av := fun p _ => ⟨List.map_take.symm, List.map_drop.symm⟩
  by_cases hq0 : 0 < q
  · obtain ⟨p, rfl⟩ : ∃ p, q = p + 1 := ⟨q - 1, by omega⟩
    have hpl : p < l.length := by omega
    have t1 : ((p : Int) + 1 - 1).toNat = p := by omega
    have hget : l.getD p default = l[p] := by simp [hpl]
    have hav : ∀ t : T, T.av t = .agg [.int .i64 t.f, .int .i64 t.t, .int .i64 t.s] := fun _ => rfl
    by_cases hcmp : b.bef l[p]
    · have hstep : posB l b (p + 1) = posB l b p := by rw [posB, hget, if_pos hcmp]
      have go := ih p ⟨by omega, hq2.trans hstep⟩ (by omega)
      rw [hq2, hstep] at *
      clear ih
      generalize hte : l[p] = t at *
      refine Run2.of I 1000 ?_
      simp -implicitDefEqProofs [hpl, t1, hte, hcmp]
      exact ⟨by omega, go⟩
    · have hstep : posB l b (p + 1) = p + 1 := by rw [posB, hget, if_neg hcmp]
      rw [hstep]
      clear ih
      generalize hte : l[p] = t at *
      refine Run2.of I 1000 ?_
      have hne : l ≠ [] := fun e => by rw [e] at hpl; simp at hpl
      have hm1 : min (p + 1) l.length = p + 1 := by omega
      have hm2 : min ((l.length : Int) - (p + 1)).toNat (l.length - (p + 1)) = l.length - (p + 1) := by omega
      have htk : List.take ((l.length : Int) - (p + 1)).toNat (List.drop (p + 1) (List.map T.av l)) = List.drop (p + 1) (List.map T.av l) := List.take_of_length_le (by simp; omega)
      simp -implicitDefEqProofs [hpl, t1, hte, hcmp, hne, hm1, hm2, htk]
      refine ⟨by omega, ⟨by omega, by omega⟩, by omega, fun _ _ => ⟨by omega, fun _ _ => ⟨⟨by omega, by omega⟩, by omega, fun id3 _ => ?_⟩⟩⟩
      have e1 : ∀ B : AV, List.take (p + 1 + 1) (List.take (p + 1) (List.take (p + 1) (List.map T.av l)) ++ [B]) = List.take (p + 1) (List.map T.av l) ++ [B] := fun B => by
        rw [List.take_take, Nat.min_self, List.take_of_length_le (by simp; omega)]
      rw [e1]
      exact post_snap (by simp; omega) ⟨by simp, rfl⟩
  · obtain rfl : q = 0 := by omega
    have hstep : posB l b 0 = 0 := rfl
    rw [hstep]
    clear ih
    have htk : List.take l.length (List.map T.av l) = List.map T.av l := List.take_of_length_le (by simp)
    refine Run2.of I 1000 ?_
    simp -implicitDefEqProofs [htk]
    refine fun _ _ => ⟨by omega, fun id3 _ => ?_⟩
    exact post_snap (by simp; omega) ⟨rfl, rfl⟩
theorem Run2.wkB {C : Cx} {sk : List AItem} {e e' : Env} {h : Heap} {R : AV → Heap → Prop} (he : ∀ t, Wk (eget e t) (eget e' t)) (g : Run2 C sk e' h R) : Run2 C sk e h R := by
  unfold Run2 at g ⊢
  intro k tmps w cs w0 D0 hk S
  exact g k tmps w cs w0 D0 hk ⟨fun t => he t _ _ _ (S.env t), S.size, S.heap, S.ev⟩
theorem T.colds {l : List T} : Go.AG.colds (l.map T.av) = true := by
  induction l with
  | nil => rfl
  | cons a l ih => simp only [List.map_cons, Go.AG.colds, ih]; rfl
theorem okB_el {l : List T} (h : elB l) : okB l := fun t ht => by
  have := h t ht
  unfold T.el at this
  unfold T.ok in64
  omega
noncomputable def o_l21Put : List AV → Option (Prop × AV) := tab (fun (x : List T × Int × Int × Int) => match x with | (l, f, t, s) => [.snap 3 (l.map T.av), .agg [.int .i64 f, .int .i64 t, .int .i64 s]]) (fun x => match x with | (l, f, t, s) => l.length ≤ 1048576) (fun x => match x with | (l, f, t, s) => .snap 3 ((insB l ⟨f, t, s⟩).map T.av))
@[simp] theorem o_l21Put_e (l : List T) (f : Int) (t : Int) (s : Int) : o_l21Put [.snap 3 (l.map T.av), .agg [.int .i64 f, .int .i64 t, .int .i64 s]] = some (l.length ≤ 1048576, .snap 3 ((insB l ⟨f, t, s⟩).map T.av)) := tab_at (enc := fun (x : List T × Int × Int × Int) => match x with | (l, f, t, s) => [.snap 3 (l.map T.av), .agg [.int .i64 f, .int .i64 t, .int .i64 s]]) (fun x y h => by
  obtain ⟨l1, f1, t1, s1⟩ := x; obtain ⟨l2, f2, t2, s2⟩ := y; simp at h; simp [h] <;> omega) _ _ (l, f, t, s)
theorem o_l21Put_k : Knows Try.prog 12 o_l21Put := tab_knows fun x hx h => by
  obtain ⟨l, f, t, s⟩ := x; exact l21Put_s l ⟨f, t, s⟩ h hx
noncomputable def mbC (a b : List T) : Int := if validB a ∧ validB b then if a.length + b.length ≤ 24 then 0 else 5 else 1
noncomputable def mbL (a b : List T) : List T := if mbC a b = 0 then mgB a b else []
theorem mbC_ok {a b : List T} (h : mbC a b = 0) : (validB a ∧ validB b) ∧ a.length + b.length ≤ 24 := by
  unfold mbC at h
  split at h
  · rename_i h1
    split at h
    · exact ⟨h1, by assumption⟩
    · omega
  · omega
theorem mbL_len (a b : List T) : (mbL a b).length ≤ 24 := by
  unfold mbL
  split
  · rename_i h
    obtain ⟨⟨h1, h2⟩, h3⟩ := mbC_ok h
    have := (mgB_all (valid_srt h1).1 (valid_srt h1).2 b (valid_srt h2).2).2.2.2
    omega
  · simp
noncomputable def orcMr : List (Nat × (List AV → Option (Prop × AV))) := (11, o_l21List) :: (12, o_l21Put) :: []
theorem orcMr_p : Pure Try.prog (lk orcMr) := (lk_pure o_l21List_k (lk_pure o_l21Put_k lk_pure0))
@[simp] theorem orcMr_l (b : Bool) (g : FuncId) (l : List AV) : lk orcMr b g l = if g = 11 then o_l21List l else if g = 12 then o_l21Put l else none := nr rfl
abbrev k5_o0 : List AJ := [.o ⟨(some 4), none, false, .mv (.c .nilsl), none⟩, .o ⟨(some 5), none, false, .mv (.c (.int .i64 0)), (some [0, 1])⟩]
abbrev k5_o1 : List AJ := [.o ⟨(some 8), none, false, .mv (.t 0), none⟩, .o ⟨(some 9), none, false, .call 11 [(.t 8)], none⟩, .o ⟨(some 10), none, false, .un .not (.t 9), none⟩, .o ⟨(some 11), none, false, .mv (.t 10), none⟩, .o ⟨(some 12), (some (11, false)), false, .mv (.t 1), none⟩, .o ⟨(some 13), (some (11, false)), false, .call 11 [(.t 12)], none⟩, .o ⟨(some 14), (some (11, false)), false, .un .not (.t 13), none⟩, .o ⟨(some 15), none, false, .pick (.t 11) (.c (.bool true)) (.t 14), (some [0, 1, 15])⟩]
abbrev k5_o2 : List AJ := [.o ⟨(some 4), none, false, .mv (.c .nilsl), none⟩, .o ⟨(some 5), none, false, .mv (.c (.int .i64 1)), (some [4, 5])⟩]
def k5_3 : ACode := .seq (.region k5_o2) .ret
def k5_4 : ACode := .cond (.t 15) k5_3 .skip
def k5_5 : ACode := .seq (.region k5_o1) k5_4
abbrev k5_o3 : List AJ := [.e 16 3 none, .o ⟨(some 17), none, false, .mv (.t 0), none⟩, .o ⟨(some 18), none, false, .append 3 24 (.t 16) (.t 17), none⟩, .o ⟨(some 6), none, false, .mv (.t 18), (some [1, 6])⟩]
abbrev k5_o4 : List AJ := [.o ⟨(some 7), none, false, .mv (.c (.int .i64 0)), (some [1, 6, 7])⟩]
abbrev k5_o5 : List AJ := [.o ⟨(some 19), none, false, .mv (.t 7), none⟩, .o ⟨(some 20), none, false, .mv (.t 1), none⟩, .o ⟨(some 21), none, false, .len (.t 20), none⟩, .o ⟨(some 22), none, false, .bin .lss (.t 19) (.t 21), (some [1, 6, 7, 22])⟩]
def k5_9 : ACode := .cond (.t 22) .skip (.exit 0)
def k5_10 : ACode := .seq (.region k5_o5) k5_9
abbrev k5_o6 : List AJ := [.o ⟨(some 25), none, false, .mv (.t 6), none⟩, .o ⟨(some 26), none, false, .mv (.t 1), none⟩, .o ⟨(some 27), none, false, .mv (.t 7), none⟩, .o ⟨(some 28), none, false, .idxA 3 (.t 26) (.t 27), none⟩, .o ⟨(some 29), none, false, .load 3 true (.t 28), none⟩, .o ⟨(some 30), none, false, .call 12 [(.t 25), (.t 29)], none⟩, .o ⟨(some 6), none, false, .mv (.t 30), (some [1, 6, 7])⟩]
def k5_11 : ACode := .region k5_o6
abbrev k5_o7 : List AJ := [.o ⟨(some 23), none, false, .mv (.t 7), none⟩, .o ⟨(some 24), none, true, .bin .add (.t 23) (.c (.int .i64 1)), none⟩, .o ⟨(some 7), none, false, .mv (.t 24), (some [1, 6, 7])⟩]
def k5_13 : ACode := .region k5_o7
def k5_14 : ACode := .seq (.block 1 k5_11) k5_13
def k5_15 : ACode := .seq k5_10 k5_14
def k5_16 : ACode := .loop k5_15
def k5_17 : ACode := .block 0 k5_16
def k5_18 : ACode := .seq (.region k5_o4) k5_17
abbrev k5_o8 : List AJ := [.o ⟨(some 31), none, false, .mv (.t 6), none⟩, .o ⟨(some 32), none, false, .len (.t 31), none⟩, .o ⟨(some 33), none, false, .bin .gtr (.t 32) (.c (.int .i64 24)), (some [6, 33])⟩]
abbrev k5_o9 : List AJ := [.o ⟨(some 4), none, false, .mv (.c .nilsl), none⟩, .o ⟨(some 5), none, false, .mv (.c (.int .i64 5)), (some [4, 5])⟩]
def k5_21 : ACode := .seq (.region k5_o9) .ret
def k5_22 : ACode := .cond (.t 33) k5_21 .skip
def k5_23 : ACode := .seq (.region k5_o8) k5_22
abbrev k5_o10 : List AJ := [.o ⟨(some 34), none, false, .mv (.t 6), none⟩, .o ⟨(some 4), none, false, .mv (.t 34), none⟩, .o ⟨(some 5), none, false, .mv (.c (.int .i64 0)), (some [4, 5])⟩]
def k5_25 : ACode := .seq (.region k5_o10) .ret
def k5_26 : ACode := .seq k5_23 k5_25
def k5_27 : ACode := .seq k5_18 k5_26
def k5_28 : ACode := .seq (.region k5_o3) k5_27
def k5_29 : ACode := .seq k5_5 k5_28
def k5_30 : ACode := .seq (.region k5_o0) k5_29
@[simp, simp ↓] theorem k5_3r : sR k5_3 k5_o2 .ret := yR rfl
@[simp, simp ↓] theorem k5_4r : rC k5_4 (.t 15) k5_3 .skip := zC rfl
@[simp, simp ↓] theorem k5_5r : sR k5_5 k5_o1 k5_4 := yR rfl
@[simp, simp ↓] theorem k5_9r : rC k5_9 (.t 22) .skip (.exit 0) := zC rfl
@[simp, simp ↓] theorem k5_10r : sR k5_10 k5_o5 k5_9 := yR rfl
@[simp, simp ↓] theorem k5_11r : rR k5_11 k5_o6 := zR rfl
@[simp, simp ↓] theorem k5_13r : rR k5_13 k5_o7 := zR rfl
@[simp, simp ↓] theorem k5_14r : sB k5_14 1 k5_11 k5_13 := yB rfl
@[simp, simp ↓] theorem k5_15r : rS k5_15 k5_10 k5_14 := zS rfl
@[simp, simp ↓] theorem k5_16r : rL k5_16 k5_15 := zL rfl
@[simp, simp ↓] theorem k5_17r : rB k5_17 0 k5_16 := zB rfl
@[simp, simp ↓] theorem k5_18r : sR k5_18 k5_o4 k5_17 := yR rfl
@[simp, simp ↓] theorem k5_21r : sR k5_21 k5_o9 .ret := yR rfl
@[simp, simp ↓] theorem k5_22r : rC k5_22 (.t 33) k5_21 .skip := zC rfl
@[simp, simp ↓] theorem k5_23r : sR k5_23 k5_o8 k5_22 := yR rfl
@[simp, simp ↓] theorem k5_25r : sR k5_25 k5_o10 .ret := yR rfl
@[simp, simp ↓] theorem k5_26r : rS k5_26 k5_23 k5_25 := zS rfl
@[simp, simp ↓] theorem k5_27r : rS k5_27 k5_18 k5_26 := zS rfl
@[simp, simp ↓] theorem k5_28r : sR k5_28 k5_o3 k5_27 := yR rfl
@[simp, simp ↓] theorem k5_29r : rS k5_29 k5_5 k5_28 := zS rfl
@[simp, simp ↓] theorem k5_30r : sR k5_30 k5_o0 k5_29 := yR rfl
noncomputable abbrev k5_C : Orc → Cx := mkC Try.prog [16] 5 35 [.tmp 4, .tmp 5]
theorem k5_of : OfP Try.prog Try.f5 5 35 k5_C k5_30 := @ofP _ _ _ _ _ _ _ _ Try.func5 (by decide +kernel) rfl (by kernel_rfl) rfl (by kernel_rfl)
theorem specMB_c (a b : List T) (h : Heap) (hla : a.length ≤ 1048576) (hlb : b.length ≤ 1048576) (oa : okB a) (ob : okB b) : ACalls Try.prog 5 [.snap 3 (a.map T.av), .snap 3 (b.map T.av)] h (fun v h' => v = .tup [.snap 3 ((mbL a b).map T.av), .int .i64 (mbC a b)] ∧ h' = h) := by
  refine k5_of rfl orcMr_p fun I => ?_
  by_cases hv : validB a ∧ validB b
  · obtain ⟨va, vb⟩ := hv
    have ha24 := va.2
    have hb24 := vb.2
    obtain ⟨sa, ea⟩ := valid_srt va
    obtain ⟨sb, eb⟩ := valid_srt vb
    have hinv := mgB_take sa ea b eb
    refine Run2.of I 1000 ?_
    simp -implicitDefEqProofs [hla, hlb, oa, ob, va, vb]
    refine ⟨fun h0 => ?_, fun h0 => ⟨by omega, fun id hid => ?_⟩⟩
    · refine Run2.wkB (e' := [(1, .snap 3 (b.map T.av)), (6, .snap 3 (a.map T.av)), (7, .int .i64 0)]) (fun t => ?_) ?_
      · have hw : Wk .emp (.snap 3 (a.map T.av)) := by rw [h0]; exact Wk.emp 3
        simp only [eget]
        repeat' split
        all_goals first | exact Wk.refl _ | exact hw
      refine Run2.loopE (fun (i : Nat) => [(1, .snap 3 (b.map T.av)), (6, .snap 3 ((mgB a (b.take i)).map T.av)), (7, .int .i64 i)]) (fun _ => h) (fun i => b.length - i) (fun i => i ≤ b.length) 0 (by simp [mgB]) rfl (Nat.zero_le _) fun i hi ih => ?_
      obtain ⟨_, _, i3, i4⟩ := hinv i hi
      by_cases hlt : i < b.length
      · have go := ih (i + 1) hlt (by omega)
        rw [List.take_succ_eq_append_getElem hlt, mgB_snoc] at go
        have hML : (mgB a (b.take i)).length ≤ 1048576 := by omega
        clear ih
        generalize mgB a (b.take i) = M at *
        have hav : ∀ t : T, T.av t = .agg [.int .i64 t.f, .int .i64 t.t, .int .i64 t.s] := fun _ => rfl
        refine Run2.of I 1000 ?_
        simp -implicitDefEqProofs [hlt, hML]
        exact ⟨by omega, by simpa using go⟩
      · obtain rfl : i = b.length := by omega
        rw [List.take_length] at i4 ⊢
        have hcC : mbC a b = if a.length + b.length ≤ 24 then 0 else 5 := by unfold mbC; rw [if_pos ⟨va, vb⟩]
        clear ih
        by_cases h24 : a.length + b.length ≤ 24
        · rw [if_pos h24] at hcC
          have hL : mbL a b = mgB a b := by unfold mbL; rw [if_pos hcC]
          rw [hL, hcC]
          generalize mgB a b = M at *
          have hM : ¬ (24 : Int) < M.length := by omega
          refine Run2.of I 1000 ?_
          simp -implicitDefEqProofs [hlt, hM]
          exact .base ⟨rfl, rfl⟩
        · rw [if_neg h24] at hcC
          have hL : mbL a b = [] := by unfold mbL; rw [if_neg (by omega)]
          rw [hL, hcC]
          generalize mgB a b = M at *
          have hM : (24 : Int) < M.length := by omega
          refine Run2.of I 1000 ?_
          simp -implicitDefEqProofs [hlt, hM]
          exact .wk (Wk.tup (.cons (Wk.nil 3) (.cons (.refl _) .nil))) (.base ⟨rfl, rfl⟩)
    · refine Run2.freeze id (by simp [hget]; rfl) ?_
      have htk : List.take a.length (List.map T.av a) = List.map T.av a := List.take_of_length_le (by simp)
      have hfb : ∀ bl, fzs id bl (List.map T.av b) = List.map T.av b := fun bl => fzs_cold id bl _ T.colds
      simp -implicitDefEqProofs [fzE, fz, fzs, hdel, htk, hfb]
      refine Run2.loopE (fun (i : Nat) => [(1, .snap 3 (b.map T.av)), (6, .snap 3 ((mgB a (b.take i)).map T.av)), (7, .int .i64 i)]) (fun _ => h) (fun i => b.length - i) (fun i => i ≤ b.length) 0 (by simp [mgB]) rfl (Nat.zero_le _) fun i hi ih => ?_
      obtain ⟨_, _, i3, i4⟩ := hinv i hi
      by_cases hlt : i < b.length
      · have go := ih (i + 1) hlt (by omega)
        rw [List.take_succ_eq_append_getElem hlt, mgB_snoc] at go
        have hML : (mgB a (b.take i)).length ≤ 1048576 := by omega
        clear ih
        generalize mgB a (b.take i) = M at *
        have hav : ∀ t : T, T.av t = .agg [.int .i64 t.f, .int .i64 t.t, .int .i64 t.s] := fun _ => rfl
        refine Run2.of I 1000 ?_
        simp -implicitDefEqProofs [hlt, hML]
        exact ⟨by omega, by simpa using go⟩
      · obtain rfl : i = b.length := by omega
        rw [List.take_length] at i4 ⊢
        have hcC : mbC a b = if a.length + b.length ≤ 24 then 0 else 5 := by unfold mbC; rw [if_pos ⟨va, vb⟩]
        clear ih
        by_cases h24 : a.length + b.length ≤ 24
        · rw [if_pos h24] at hcC
          have hL : mbL a b = mgB a b := by unfold mbL; rw [if_pos hcC]
          rw [hL, hcC]
          generalize mgB a b = M at *
          have hM : ¬ (24 : Int) < M.length := by omega
          refine Run2.of I 1000 ?_
          simp -implicitDefEqProofs [hlt, hM]
          exact .base ⟨rfl, rfl⟩
        · rw [if_neg h24] at hcC
          have hL : mbL a b = [] := by unfold mbL; rw [if_neg (by omega)]
          rw [hL, hcC]
          generalize mgB a b = M at *
          have hM : (24 : Int) < M.length := by omega
          refine Run2.of I 1000 ?_
          simp -implicitDefEqProofs [hlt, hM]
          exact .wk (Wk.tup (.cons (Wk.nil 3) (.cons (.refl _) .nil))) (.base ⟨rfl, rfl⟩)
  · have hc : mbC a b = 1 := by unfold mbC; rw [if_neg hv]
    have hL : mbL a b = [] := by unfold mbL; rw [if_neg (by omega)]
    rw [hc, hL]
    by_cases va : validB a
    · have vb : ¬ validB b := fun h => hv ⟨va, h⟩
      refine Run2.of I 1000 ?_
      simp -implicitDefEqProofs [hla, hlb, oa, ob, va, vb]
      exact .wk (Wk.tup (.cons (Wk.nil 3) (.cons (.refl _) .nil))) (.base ⟨rfl, rfl⟩)
    · refine Run2.of I 1000 ?_
      simp -implicitDefEqProofs [hla, hlb, oa, ob, va]
      exact .wk (Wk.tup (.cons (Wk.nil 3) (.cons (.refl _) .nil))) (.base ⟨rfl, rfl⟩)
end Go.AG
