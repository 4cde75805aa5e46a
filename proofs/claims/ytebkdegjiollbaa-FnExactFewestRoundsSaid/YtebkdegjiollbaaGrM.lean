/- Marks on a graph that nobody looks at any more. No statement is made here. -/
import Derived.Test.YtebkdegjiollbaaGrA
namespace Go.AG
open Go.Proofs Go.Proofs.Ytebkdegjiollbaa
set_option linter.unusedSimpArgs false
set_option linter.unusedVariables false
set_option maxRecDepth 4000
def marksT (k : Int) (n : Nat) : List T := (List.range n).map fun i => ⟨k + 3 * (i : Nat), k + 3 * (i : Nat) + 1, k + 3 * (i : Nat) + 1 + 1⟩
@[simp] theorem marksT_length (k : Int) (n : Nat) : (marksT k n).length = n := by simp [marksT]
theorem marksT_succ (k : Int) (n : Nat) : marksT k (n + 1) = marksT k n ++ [⟨k + 3 * n, k + 3 * n + 1, k + 3 * n + 1 + 1⟩] := by simp [marksT, List.range_succ]
theorem marksT_get (k : Int) (n i : Nat) (h : i < (marksT k n).length) : (marksT k n)[i] = ⟨k + 3 * i, k + 3 * i + 1, k + 3 * i + 1 + 1⟩ := by simp [marksT]
theorem markT_step (l : List T) (ex : List AV) (k : Int) (i : Nat) (hi : i < l.length) : ((marksT k i).map T.av ++ (l.drop i).map T.av ++ ex).set i (T.av ⟨k + 3 * i, k + 3 * i + 1, k + 3 * i + 1 + 1⟩) = (marksT k (i + 1)).map T.av ++ (l.drop (i + 1)).map T.av ++ ex := by
  rw [List.drop_eq_getElem_cons hi, marksT_succ]
  simp only [List.map_cons, List.map_append, List.map_nil, List.append_assoc, List.cons_append, List.nil_append]
  rw [List.set_append_right _ _ (by simp)]
  simp
abbrev k53_o0 : List AJ := [.o ⟨(some 4), none, false, .mv (.c (.int .i64 0)), (some [0, 1])⟩]
abbrev k53_o1 : List AJ := [.o ⟨(some 5), none, false, .mv (.c (.int .i64 0)), (some [0, 1, 5])⟩]
abbrev k53_o2 : List AJ := [.o ⟨(some 6), none, false, .mv (.t 5), none⟩, .o ⟨(some 7), none, false, .mv (.t 0), none⟩, .o ⟨(some 8), none, false, .len (.t 7), none⟩, .o ⟨(some 9), none, false, .bin .lss (.t 6) (.t 8), (some [0, 1, 5, 9])⟩]
def k53_3 : ACode := .cond (.t 9) .skip (.exit 0)
def k53_4 : ACode := .seq (.region k53_o2) k53_3
abbrev k53_o3 : List AJ := [.o ⟨(some 12), none, false, .mv (.t 0), none⟩, .o ⟨(some 13), none, false, .mv (.t 5), none⟩, .o ⟨(some 14), none, false, .mv (.t 1), none⟩, .o ⟨(some 15), none, false, .idxA 3 (.t 12) (.t 13), none⟩, .o ⟨(some 16), none, false, .fieldA 0 (.t 15), none⟩, .o ⟨none, none, false, .store 1 (.t 16) (.t 14), (some [0, 1, 5])⟩]
abbrev k53_o4 : List AJ := [.o ⟨(some 17), none, false, .mv (.t 1), none⟩, .o ⟨(some 18), none, true, .bin .add (.t 17) (.c (.int .i64 1)), none⟩, .o ⟨(some 1), none, false, .mv (.t 18), (some [0, 1, 5])⟩]
abbrev k53_o5 : List AJ := [.o ⟨(some 19), none, false, .mv (.t 0), none⟩, .o ⟨(some 20), none, false, .mv (.t 5), none⟩, .o ⟨(some 21), none, false, .mv (.t 1), none⟩, .o ⟨(some 22), none, false, .idxA 3 (.t 19) (.t 20), none⟩, .o ⟨(some 23), none, false, .fieldA 1 (.t 22), none⟩, .o ⟨none, none, false, .store 1 (.t 23) (.t 21), (some [0, 1, 5])⟩]
abbrev k53_o6 : List AJ := [.o ⟨(some 24), none, false, .mv (.t 1), none⟩, .o ⟨(some 25), none, true, .bin .add (.t 24) (.c (.int .i64 1)), none⟩, .o ⟨(some 1), none, false, .mv (.t 25), (some [0, 1, 5])⟩]
abbrev k53_o7 : List AJ := [.o ⟨(some 26), none, false, .mv (.t 0), none⟩, .o ⟨(some 27), none, false, .mv (.t 5), none⟩, .o ⟨(some 28), none, false, .mv (.t 1), none⟩, .o ⟨(some 29), none, false, .idxA 3 (.t 26) (.t 27), none⟩, .o ⟨(some 30), none, false, .fieldA 2 (.t 29), none⟩, .o ⟨none, none, false, .store 1 (.t 30) (.t 28), (some [0, 1, 5])⟩]
abbrev k53_o8 : List AJ := [.o ⟨(some 31), none, false, .mv (.t 1), none⟩, .o ⟨(some 32), none, true, .bin .add (.t 31) (.c (.int .i64 1)), none⟩, .o ⟨(some 1), none, false, .mv (.t 32), (some [0, 1, 5])⟩]
def k53_10 : ACode := .region k53_o8
def k53_11 : ACode := .seq (.region k53_o7) k53_10
def k53_12 : ACode := .seq (.region k53_o6) k53_11
def k53_13 : ACode := .seq (.region k53_o5) k53_12
def k53_14 : ACode := .seq (.region k53_o4) k53_13
def k53_15 : ACode := .seq (.region k53_o3) k53_14
abbrev k53_o9 : List AJ := [.o ⟨(some 10), none, false, .mv (.t 5), none⟩, .o ⟨(some 11), none, true, .bin .add (.t 10) (.c (.int .i64 1)), none⟩, .o ⟨(some 5), none, false, .mv (.t 11), (some [0, 1, 5])⟩]
def k53_17 : ACode := .region k53_o9
def k53_18 : ACode := .seq (.block 1 k53_15) k53_17
def k53_19 : ACode := .seq k53_4 k53_18
def k53_20 : ACode := .loop k53_19
def k53_21 : ACode := .block 0 k53_20
def k53_22 : ACode := .seq (.region k53_o1) k53_21
abbrev k53_o10 : List AJ := [.o ⟨(some 33), none, false, .mv (.t 1), none⟩, .o ⟨(some 4), none, false, .mv (.t 33), (some [4])⟩]
def k53_24 : ACode := .seq (.region k53_o10) .ret
def k53_25 : ACode := .seq k53_22 k53_24
def k53_26 : ACode := .seq (.region k53_o0) k53_25
@[simp, simp ↓] theorem k53_3r : rC k53_3 (.t 9) .skip (.exit 0) := zC rfl
@[simp, simp ↓] theorem k53_4r : sR k53_4 k53_o2 k53_3 := yR rfl
@[simp, simp ↓] theorem k53_10r : rR k53_10 k53_o8 := zR rfl
@[simp, simp ↓] theorem k53_11r : sR k53_11 k53_o7 k53_10 := yR rfl
@[simp, simp ↓] theorem k53_12r : sR k53_12 k53_o6 k53_11 := yR rfl
@[simp, simp ↓] theorem k53_13r : sR k53_13 k53_o5 k53_12 := yR rfl
@[simp, simp ↓] theorem k53_14r : sR k53_14 k53_o4 k53_13 := yR rfl
@[simp, simp ↓] theorem k53_15r : sR k53_15 k53_o3 k53_14 := yR rfl
@[simp, simp ↓] theorem k53_17r : rR k53_17 k53_o9 := zR rfl
@[simp, simp ↓] theorem k53_18r : sB k53_18 1 k53_15 k53_17 := yB rfl
@[simp, simp ↓] theorem k53_19r : rS k53_19 k53_4 k53_18 := zS rfl
@[simp, simp ↓] theorem k53_20r : rL k53_20 k53_19 := zL rfl
@[simp, simp ↓] theorem k53_21r : rB k53_21 0 k53_20 := zB rfl
@[simp, simp ↓] theorem k53_22r : sR k53_22 k53_o1 k53_21 := yR rfl
@[simp, simp ↓] theorem k53_24r : sR k53_24 k53_o10 .ret := yR rfl
@[simp, simp ↓] theorem k53_25r : rS k53_25 k53_22 k53_24 := zS rfl
@[simp, simp ↓] theorem k53_26r : sR k53_26 k53_o0 k53_25 := yR rfl
noncomputable abbrev k53_C : Orc → Cx := mkC Try.prog [] 53 34 [.tmp 4]
theorem k53_of0 : OfP0 Try.prog Try.f53 53 34 k53_C k53_26 := @ofP0 _ _ _ _ _ _ _ _ Try.func53 (by decide +kernel) rfl (by kernel_rfl) rfl (by kernel_rfl)
theorem markEdgeS_s (id : Nat) (l : List T) (ex : List AV) (cap : Option Nat) (k : Int) (hk : 0 ≤ k ∧ k ≤ 1099511627776) (hl : l.length ≤ 1073741824) : ACalls Try.prog 53 [.sl id 3 0 l.length cap, .int .i64 k] [(id, ⟨3, l.map T.av ++ ex⟩)] (fun v h' => v = .int .i64 (k + 3 * l.length) ∧ h' = [(id, ⟨3, (marksT k l.length).map T.av ++ ex⟩)]) := by
  refine k53_of0 rfl noPure fun I => ?_
  refine Run2.of I 1000 ?_
  simp -implicitDefEqProofs
  obtain ⟨f, hf0, hfn, hlen, hset, hget⟩ : ∃ f : Nat → List AV, l.map T.av ++ ex = f 0 ∧ (marksT k l.length).map T.av ++ ex = f l.length ∧ (∀ i, i ≤ l.length → (f i).length = l.length + ex.length) ∧ (∀ i, i < l.length → (f i).set i (T.av ⟨k + 3 * i, k + 3 * i + 1, k + 3 * i + 1 + 1⟩) = f (i + 1)) ∧ ∀ i, (hi : i < l.length) → (f i)[i]? = some l[i].av :=
    ⟨fun i => (marksT k i).map T.av ++ (l.drop i).map T.av ++ ex, by simp [marksT], by simp, fun i hi => by simp; omega, fun i hi => markT_step l ex k i hi, fun i hi => by
      show ((marksT k i).map T.av ++ (l.drop i).map T.av ++ ex)[i]? = _
      rw [List.append_assoc, List.getElem?_append_right (by simp)]
      rw [show i - ((marksT k i).map T.av).length = 0 by simp, List.drop_eq_getElem_cons hi]; rfl⟩
  have hz : l.map (fun x : T => AV.agg [.int .i64 x.f, .int .i64 x.t, .int .i64 x.s]) = l.map T.av := rfl
  rw [hf0, hfn]
  refine Run2.loopE (fun i => [(0, .sl id 3 0 l.length cap), (1, .int .i64 (k + 3 * (i : Nat))), (5, .int .i64 (i : Nat))]) (fun i => [(id, ⟨3, f i⟩)]) (fun i => l.length - i) (fun i => i ≤ l.length) 0 (by simp) rfl (Nat.zero_le _) fun i hi ih => ?_
  by_cases hlt : i < l.length
  · have go := ih (i + 1) (by omega) (by omega)
    have hl2 := hlen i hi
    have hg := hget i hlt
    have hlf : i < (f i).length := by omega
    have hs := hset i hlt
    clear ih
    refine Run2.of I 1000 ?_
    have hsg : ∀ A, ((f i).set i A)[i]? = some A := fun A => List.getElem?_set_self hlf
    simp -implicitDefEqProofs [hlt, hl2, hg, hsg]
    simp at hs
    rw [hs]
    refine ⟨by omega, by omega, by omega, by omega, ?_⟩
    have e : k + 3 * ((i + 1 : Nat) : Int) = k + 3 * i + 1 + 1 + 1 := by omega
    rw [e] at go
    simpa using go
  · obtain rfl : i = l.length := by omega
    refine Run2.of I 1000 ?_
    simp -implicitDefEqProofs
theorem markEdgeS_o {v : AV} {l : List T} {hs : Heap} (ho : OwnL T.av 3 v l hs) (k : Int) (hk : 0 ≤ k ∧ k ≤ 1099511627776) (hl : l.length ≤ 1073741824) : ACalls Try.prog 53 [v, .int .i64 k] hs (fun r h' => r = .int .i64 (k + 3 * l.length) ∧ OwnL T.av 3 v (marksT k l.length) h') := by
  have nil : ∀ u, (u = AV.nilsl ∨ u = .emp) → ACalls Try.prog 53 [u, .int .i64 k] [] (fun r h' => r = .int .i64 (k + 3 * ([] : List T).length) ∧ OwnL T.av 3 u (marksT k 0) h') := by
    rintro u (rfl | rfl)
    all_goals
      refine k53_of0 rfl noPure fun I => ?_
      refine Run2.of I 1000 ?_
      simp -implicitDefEqProofs
      refine Run2.loopE (fun (_ : Unit) => [(0, _), (1, .int .i64 k), (5, .int .i64 0)]) (fun _ => []) (fun _ => 0) (fun _ => True) () (by rfl) rfl trivial fun _ _ _ => ?_
      refine Run2.of I 1000 ?_
      simp -implicitDefEqProofs
      constructor
  cases ho with
  | nil => exact nil _ (.inl rfl)
  | emp => exact nil _ (.inr rfl)
  | sl id cap ex hex =>
    refine (markEdgeS_s id l ex cap k hk hl).mono ?_
    rintro r h' ⟨rfl, rfl⟩
    refine ⟨rfl, ?_⟩
    have := OwnL.sl (enc := T.av) (sz := 3) (l := marksT k l.length) id cap ex hex
    rwa [marksT_length] at this
abbrev k14_o0 : List AJ := [.o ⟨(some 2), none, false, .box false 2 (.t 0), none⟩, .o ⟨(some 4), none, false, .mv (.c (.int .i64 0)), (some [1, 2])⟩]
abbrev k14_o1 : List AJ := [.o ⟨(some 5), none, false, .fieldA 1 (.t 2), none⟩, .o ⟨(some 6), none, false, .load 1 false (.t 5), none⟩, .o ⟨(some 7), none, false, .mv (.t 1), none⟩, .o ⟨(some 8), none, false, .call 53 [(.t 6), (.t 7)], none⟩, .o ⟨(some 1), none, false, .mv (.t 8), (some [1])⟩]
abbrev k14_o2 : List AJ := [.o ⟨(some 9), none, false, .mv (.t 1), none⟩, .o ⟨(some 4), none, false, .mv (.t 9), (some [4])⟩]
def k14_3 : ACode := .seq (.region k14_o2) .ret
def k14_4 : ACode := .seq (.region k14_o1) k14_3
def k14_5 : ACode := .seq (.region k14_o0) k14_4
@[simp, simp ↓] theorem k14_3r : sR k14_3 k14_o2 .ret := yR rfl
@[simp, simp ↓] theorem k14_4r : sR k14_4 k14_o1 k14_3 := yR rfl
@[simp, simp ↓] theorem k14_5r : sR k14_5 k14_o0 k14_4 := yR rfl
noncomputable abbrev k14_C : Orc → Cx := mkC Try.prog [] 14 10 [.tmp 4]
theorem k14_of0 : OfP0 Try.prog Try.f14 14 10 k14_C k14_5 := @ofP0 _ _ _ _ _ _ _ _ Try.func14 (by decide +kernel) rfl (by kernel_rfl) rfl (by kernel_rfl)
theorem markGraph_o {v : AV} {x : Gr} {hs : Heap} (ho : OwnG v x hs) (k : Int) (hk : 0 ≤ k ∧ k ≤ 1099511627776) (hl : x.ts.length ≤ 1073741824) : ACalls Try.prog 14 [v, .int .i64 k] hs (fun r h' => r = .int .i64 (k + 3 * x.ts.length) ∧ OwnG v ⟨x.n, marksT k x.ts.length⟩ h') := by
  obtain ⟨u, rfl, hu⟩ := ho
  have hc := hu.cell
  refine k14_of0 rfl noPure fun I => ?_
  refine Run2.of I 1000 ?_
  simp -implicitDefEqProofs [hc]
  refine (markEdgeS_o hu k hk hl).mono ?_
  rintro r h' ⟨rfl, hu'⟩
  refine gK.go ?_
  simp -implicitDefEqProofs
  exact ⟨_, rfl, hu'⟩
theorem markG_drop {w : AV} {x : Gr} {g h : Heap} (o : OwnG w x g) (keep : Heap) (hs : ∀ p ∈ g, p ∈ h) (hk : ∀ p ∈ keep, p ∈ h ∧ p.1 ∉ dom g) (nk : (dom h).Nodup → (dom keep).Nodup) (k : Int) (hk1 : 0 ≤ k ∧ k ≤ 1099511627776) (hl : x.ts.length ≤ 1073741824) : ACalls Try.prog 14 [w, .int .i64 k] h (fun r h' => r = .int .i64 (k + 3 * x.ts.length) ∧ h' = keep) :=
  ACalls.marks g keep o.nodup hs hk nk (S := fun h' => OwnG w ⟨x.n, marksT k x.ts.length⟩ h') (markGraph_o o k hk1 hl) ⟨rfl, fun h' ho => ho.own.2⟩
end Go.AG
