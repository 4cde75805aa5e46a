/- Marks on a graph that nobody looks at any more. No statement is made here. -/
import Derived.Test.YtlncpnefkpfojaaGrA
namespace Go.AG
open Go.Proofs Go.Proofs.Ytlncpnefkpfojaa
set_option linter.unusedSimpArgs false
set_option linter.unusedVariables false
set_option maxRecDepth 4000
def marksT (k : Int) (n : Nat) : List T := (List.range n).map fun i => ⟨k + 3 * (i : Nat), k + 3 * (i : Nat) + 1, k + 3 * (i : Nat) + 1 + 1⟩
@[simp] theorem marksT_length (k : Int) (n : Nat) : (marksT k n).length = n := by simp [marksT]
theorem marksT_succ (k : Int) (n : Nat) : marksT k (n + 1) = marksT k n ++ [⟨k + 3 * n, k + 3 * n + 1, k + 3 * n + 1 + 1⟩] := by simp [marksT, List.range_succ]
theorem marksT_get (k : Int) (n i : Nat) (h : i < (marksT k n).length) : (marksT k n)[i] = ⟨k + 3 * i, k + 3 * i + 1, k + 3 * i + 1 + 1⟩ := by simp [marksT]
theorem markT_step (l : List T) (ex : List AV) (k : Int) (i : Nat) (hi : i < l.length) : ((marksT k i).map T.av ++ (l.drop i).map T.av ++ ex).set i (T.av ⟨k + 3 * i, k + 3 * i + 1, k + 3 * i + 1 + 1⟩) = (marksT k (i + 1)).map T.av ++ (l.drop (i + 1)).map T.av ++ ex := by
  rw [List.drop_eq_getElem_cons hi, marksT_succ]
  simp only [List.map_cons, List.map_append, List.map_nil, List.append_assoc, List.cons_append, List.nil_append]
  rw [List.set_append_right _ _ (by simp)]
  simp
abbrev c_laws_markEdgeS_o0 : List AJ := [.o ⟨(some 4), none, false, .mv (.c (.int .i64 0)), (some [0, 1])⟩]
def c_laws_markEdgeS_0 : ACode := .region c_laws_markEdgeS_o0
abbrev c_laws_markEdgeS_o1 : List AJ := [.o ⟨(some 5), none, false, .mv (.c (.int .i64 0)), (some [0, 1, 5])⟩]
def c_laws_markEdgeS_1 : ACode := .region c_laws_markEdgeS_o1
abbrev c_laws_markEdgeS_o2 : List AJ := [.o ⟨(some 6), none, false, .mv (.t 5), none⟩, .o ⟨(some 7), none, false, .mv (.t 0), none⟩, .o ⟨(some 8), none, false, .len (.t 7), none⟩, .o ⟨(some 9), none, false, .bin .lss (.t 6) (.t 8), (some [0, 1, 5, 9])⟩]
def c_laws_markEdgeS_2 : ACode := .region c_laws_markEdgeS_o2
def c_laws_markEdgeS_3 : ACode := .cond (.t 9) .skip (.exit 0)
def c_laws_markEdgeS_4 : ACode := .seq c_laws_markEdgeS_2 c_laws_markEdgeS_3
abbrev c_laws_markEdgeS_o3 : List AJ := [.o ⟨(some 12), none, false, .mv (.t 0), none⟩, .o ⟨(some 13), none, false, .mv (.t 5), none⟩, .o ⟨(some 14), none, false, .mv (.t 1), none⟩, .o ⟨(some 15), none, false, .idxA 3 (.t 12) (.t 13), none⟩, .o ⟨(some 16), none, false, .fieldA 0 (.t 15), none⟩, .o ⟨none, none, false, .store 1 (.t 16) (.t 14), (some [0, 1, 5])⟩]
def c_laws_markEdgeS_5 : ACode := .region c_laws_markEdgeS_o3
abbrev c_laws_markEdgeS_o4 : List AJ := [.o ⟨(some 17), none, false, .mv (.t 1), none⟩, .o ⟨(some 18), none, true, .bin .add (.t 17) (.c (.int .i64 1)), none⟩, .o ⟨(some 1), none, false, .mv (.t 18), (some [0, 1, 5])⟩]
def c_laws_markEdgeS_6 : ACode := .region c_laws_markEdgeS_o4
abbrev c_laws_markEdgeS_o5 : List AJ := [.o ⟨(some 19), none, false, .mv (.t 0), none⟩, .o ⟨(some 20), none, false, .mv (.t 5), none⟩, .o ⟨(some 21), none, false, .mv (.t 1), none⟩, .o ⟨(some 22), none, false, .idxA 3 (.t 19) (.t 20), none⟩, .o ⟨(some 23), none, false, .fieldA 1 (.t 22), none⟩, .o ⟨none, none, false, .store 1 (.t 23) (.t 21), (some [0, 1, 5])⟩]
def c_laws_markEdgeS_7 : ACode := .region c_laws_markEdgeS_o5
abbrev c_laws_markEdgeS_o6 : List AJ := [.o ⟨(some 24), none, false, .mv (.t 1), none⟩, .o ⟨(some 25), none, true, .bin .add (.t 24) (.c (.int .i64 1)), none⟩, .o ⟨(some 1), none, false, .mv (.t 25), (some [0, 1, 5])⟩]
def c_laws_markEdgeS_8 : ACode := .region c_laws_markEdgeS_o6
abbrev c_laws_markEdgeS_o7 : List AJ := [.o ⟨(some 26), none, false, .mv (.t 0), none⟩, .o ⟨(some 27), none, false, .mv (.t 5), none⟩, .o ⟨(some 28), none, false, .mv (.t 1), none⟩, .o ⟨(some 29), none, false, .idxA 3 (.t 26) (.t 27), none⟩, .o ⟨(some 30), none, false, .fieldA 2 (.t 29), none⟩, .o ⟨none, none, false, .store 1 (.t 30) (.t 28), (some [0, 1, 5])⟩]
def c_laws_markEdgeS_9 : ACode := .region c_laws_markEdgeS_o7
abbrev c_laws_markEdgeS_o8 : List AJ := [.o ⟨(some 31), none, false, .mv (.t 1), none⟩, .o ⟨(some 32), none, true, .bin .add (.t 31) (.c (.int .i64 1)), none⟩, .o ⟨(some 1), none, false, .mv (.t 32), (some [0, 1, 5])⟩]
def c_laws_markEdgeS_10 : ACode := .region c_laws_markEdgeS_o8
def c_laws_markEdgeS_11 : ACode := .seq c_laws_markEdgeS_9 c_laws_markEdgeS_10
def c_laws_markEdgeS_12 : ACode := .seq c_laws_markEdgeS_8 c_laws_markEdgeS_11
def c_laws_markEdgeS_13 : ACode := .seq c_laws_markEdgeS_7 c_laws_markEdgeS_12
def c_laws_markEdgeS_14 : ACode := .seq c_laws_markEdgeS_6 c_laws_markEdgeS_13
def c_laws_markEdgeS_15 : ACode := .seq c_laws_markEdgeS_5 c_laws_markEdgeS_14
def c_laws_markEdgeS_16 : ACode := .block 1 c_laws_markEdgeS_15
abbrev c_laws_markEdgeS_o9 : List AJ := [.o ⟨(some 10), none, false, .mv (.t 5), none⟩, .o ⟨(some 11), none, true, .bin .add (.t 10) (.c (.int .i64 1)), none⟩, .o ⟨(some 5), none, false, .mv (.t 11), (some [0, 1, 5])⟩]
def c_laws_markEdgeS_17 : ACode := .region c_laws_markEdgeS_o9
def c_laws_markEdgeS_18 : ACode := .seq c_laws_markEdgeS_16 c_laws_markEdgeS_17
def c_laws_markEdgeS_19 : ACode := .seq c_laws_markEdgeS_4 c_laws_markEdgeS_18
def c_laws_markEdgeS_20 : ACode := .loop c_laws_markEdgeS_19
def c_laws_markEdgeS_21 : ACode := .block 0 c_laws_markEdgeS_20
def c_laws_markEdgeS_22 : ACode := .seq c_laws_markEdgeS_1 c_laws_markEdgeS_21
abbrev c_laws_markEdgeS_o10 : List AJ := [.o ⟨(some 33), none, false, .mv (.t 1), none⟩, .o ⟨(some 4), none, false, .mv (.t 33), (some [4])⟩]
def c_laws_markEdgeS_23 : ACode := .region c_laws_markEdgeS_o10
def c_laws_markEdgeS_24 : ACode := .seq c_laws_markEdgeS_23 .ret
def c_laws_markEdgeS_25 : ACode := .seq c_laws_markEdgeS_22 c_laws_markEdgeS_24
def c_laws_markEdgeS_26 : ACode := .seq c_laws_markEdgeS_0 c_laws_markEdgeS_25
section
variable (C : Cx) (n : Nat) (sk : List AItem) (e : Env) (h : Heap) (R : AV → Heap → Prop)
@[simp, simp ↓] theorem c_laws_markEdgeS_0_r : vc2 C (n + 1) [] (.code c_laws_markEdgeS_0 :: sk) e h R = (vc2 C n c_laws_markEdgeS_o0 sk e h R) := nr rfl
@[simp, simp ↓] theorem c_laws_markEdgeS_1_r : vc2 C (n + 1) [] (.code c_laws_markEdgeS_1 :: sk) e h R = (vc2 C n c_laws_markEdgeS_o1 sk e h R) := nr rfl
@[simp, simp ↓] theorem c_laws_markEdgeS_2_r : vc2 C (n + 1) [] (.code c_laws_markEdgeS_2 :: sk) e h R = (vc2 C n c_laws_markEdgeS_o2 sk e h R) := nr rfl
@[simp, simp ↓] theorem c_laws_markEdgeS_3_r : vc2 C (n + 1) [] (.code c_laws_markEdgeS_3 :: sk) e h R = (condK (ev e (.t 9)) (vc2 C n [] (.code .skip :: sk) e h R) (vc2 C n [] (.code (.exit 0) :: sk) e h R)) := nr rfl
@[simp, simp ↓] theorem c_laws_markEdgeS_4_r : vc2 C (n + 1) [] (.code c_laws_markEdgeS_4 :: sk) e h R = (vc2 C n [] (.code c_laws_markEdgeS_2 :: .code c_laws_markEdgeS_3 :: sk) e h R) := nr rfl
@[simp, simp ↓] theorem c_laws_markEdgeS_5_r : vc2 C (n + 1) [] (.code c_laws_markEdgeS_5 :: sk) e h R = (vc2 C n c_laws_markEdgeS_o3 sk e h R) := nr rfl
@[simp, simp ↓] theorem c_laws_markEdgeS_6_r : vc2 C (n + 1) [] (.code c_laws_markEdgeS_6 :: sk) e h R = (vc2 C n c_laws_markEdgeS_o4 sk e h R) := nr rfl
@[simp, simp ↓] theorem c_laws_markEdgeS_7_r : vc2 C (n + 1) [] (.code c_laws_markEdgeS_7 :: sk) e h R = (vc2 C n c_laws_markEdgeS_o5 sk e h R) := nr rfl
@[simp, simp ↓] theorem c_laws_markEdgeS_8_r : vc2 C (n + 1) [] (.code c_laws_markEdgeS_8 :: sk) e h R = (vc2 C n c_laws_markEdgeS_o6 sk e h R) := nr rfl
@[simp, simp ↓] theorem c_laws_markEdgeS_9_r : vc2 C (n + 1) [] (.code c_laws_markEdgeS_9 :: sk) e h R = (vc2 C n c_laws_markEdgeS_o7 sk e h R) := nr rfl
@[simp, simp ↓] theorem c_laws_markEdgeS_10_r : vc2 C (n + 1) [] (.code c_laws_markEdgeS_10 :: sk) e h R = (vc2 C n c_laws_markEdgeS_o8 sk e h R) := nr rfl
@[simp, simp ↓] theorem c_laws_markEdgeS_11_r : vc2 C (n + 1) [] (.code c_laws_markEdgeS_11 :: sk) e h R = (vc2 C n [] (.code c_laws_markEdgeS_9 :: .code c_laws_markEdgeS_10 :: sk) e h R) := nr rfl
@[simp, simp ↓] theorem c_laws_markEdgeS_12_r : vc2 C (n + 1) [] (.code c_laws_markEdgeS_12 :: sk) e h R = (vc2 C n [] (.code c_laws_markEdgeS_8 :: .code c_laws_markEdgeS_11 :: sk) e h R) := nr rfl
@[simp, simp ↓] theorem c_laws_markEdgeS_13_r : vc2 C (n + 1) [] (.code c_laws_markEdgeS_13 :: sk) e h R = (vc2 C n [] (.code c_laws_markEdgeS_7 :: .code c_laws_markEdgeS_12 :: sk) e h R) := nr rfl
@[simp, simp ↓] theorem c_laws_markEdgeS_14_r : vc2 C (n + 1) [] (.code c_laws_markEdgeS_14 :: sk) e h R = (vc2 C n [] (.code c_laws_markEdgeS_6 :: .code c_laws_markEdgeS_13 :: sk) e h R) := nr rfl
@[simp, simp ↓] theorem c_laws_markEdgeS_15_r : vc2 C (n + 1) [] (.code c_laws_markEdgeS_15 :: sk) e h R = (vc2 C n [] (.code c_laws_markEdgeS_5 :: .code c_laws_markEdgeS_14 :: sk) e h R) := nr rfl
@[simp, simp ↓] theorem c_laws_markEdgeS_16_r : vc2 C (n + 1) [] (.code c_laws_markEdgeS_16 :: sk) e h R = (vc2 C n [] (.code c_laws_markEdgeS_15 :: .inBlock 1 :: sk) e h R) := nr rfl
@[simp, simp ↓] theorem c_laws_markEdgeS_17_r : vc2 C (n + 1) [] (.code c_laws_markEdgeS_17 :: sk) e h R = (vc2 C n c_laws_markEdgeS_o9 sk e h R) := nr rfl
@[simp, simp ↓] theorem c_laws_markEdgeS_18_r : vc2 C (n + 1) [] (.code c_laws_markEdgeS_18 :: sk) e h R = (vc2 C n [] (.code c_laws_markEdgeS_16 :: .code c_laws_markEdgeS_17 :: sk) e h R) := nr rfl
@[simp, simp ↓] theorem c_laws_markEdgeS_19_r : vc2 C (n + 1) [] (.code c_laws_markEdgeS_19 :: sk) e h R = (vc2 C n [] (.code c_laws_markEdgeS_4 :: .code c_laws_markEdgeS_18 :: sk) e h R) := nr rfl
@[simp, simp ↓] theorem c_laws_markEdgeS_20_r : vc2 C (n + 1) [] (.code c_laws_markEdgeS_20 :: sk) e h R = (Run2 C (.code c_laws_markEdgeS_19 :: .inLoop c_laws_markEdgeS_19 :: sk) e h R) := nr rfl
@[simp, simp ↓] theorem c_laws_markEdgeS_21_r : vc2 C (n + 1) [] (.code c_laws_markEdgeS_21 :: sk) e h R = (vc2 C n [] (.code c_laws_markEdgeS_20 :: .inBlock 0 :: sk) e h R) := nr rfl
@[simp, simp ↓] theorem c_laws_markEdgeS_22_r : vc2 C (n + 1) [] (.code c_laws_markEdgeS_22 :: sk) e h R = (vc2 C n [] (.code c_laws_markEdgeS_1 :: .code c_laws_markEdgeS_21 :: sk) e h R) := nr rfl
@[simp, simp ↓] theorem c_laws_markEdgeS_23_r : vc2 C (n + 1) [] (.code c_laws_markEdgeS_23 :: sk) e h R = (vc2 C n c_laws_markEdgeS_o10 sk e h R) := nr rfl
@[simp, simp ↓] theorem c_laws_markEdgeS_24_r : vc2 C (n + 1) [] (.code c_laws_markEdgeS_24 :: sk) e h R = (vc2 C n [] (.code c_laws_markEdgeS_23 :: .code .ret :: sk) e h R) := nr rfl
@[simp, simp ↓] theorem c_laws_markEdgeS_25_r : vc2 C (n + 1) [] (.code c_laws_markEdgeS_25 :: sk) e h R = (vc2 C n [] (.code c_laws_markEdgeS_22 :: .code c_laws_markEdgeS_24 :: sk) e h R) := nr rfl
@[simp, simp ↓] theorem c_laws_markEdgeS_26_r : vc2 C (n + 1) [] (.code c_laws_markEdgeS_26 :: sk) e h R = (vc2 C n [] (.code c_laws_markEdgeS_0 :: .code c_laws_markEdgeS_25 :: sk) e h R) := nr rfl
end
noncomputable def c_laws_markEdgeS_C (orc : Orc) : Cx := ⟨Try.prog, [], 68, 34, [.tmp 4], orc⟩
@[simp] theorem c_laws_markEdgeS_C_P (orc : Orc) : (c_laws_markEdgeS_C orc).P = Try.prog := nr rfl
@[simp] theorem c_laws_markEdgeS_C_o (orc : Orc) : (c_laws_markEdgeS_C orc).orc = orc := nr rfl
@[simp] theorem c_laws_markEdgeS_C_r (orc : Orc) : (c_laws_markEdgeS_C orc).res = [.tmp 4] := nr rfl
theorem c_laws_markEdgeS_of {args : List AV} {h : Heap} {R : AV → Heap → Prop} {k : Nat} (ha : args.length = k) {orc : Orc} (hp : Pure Try.prog orc) (hk : Is (c_laws_markEdgeS_C orc) Try.f68 → Run2 (c_laws_markEdgeS_C orc) [.code c_laws_markEdgeS_26] (argEnv 0 args) h (Post R)) (hle : k ≤ 34 := by simp) : ACalls Try.prog 68 args h R :=
  contract2 [] c_laws_markEdgeS_26 [.tmp 4] Try.func68 (by decide +kernel) rfl (by kernel_rfl) (by rw [ha]; exact hle) (by kernel_rfl) hp hk
theorem c_laws_markEdgeS_of0 {args : List AV} {h : Heap} {R : AV → Heap → Prop} {k : Nat} (ha : args.length = k) {orc : Orc} (hp : Pure Try.prog orc) (hk : Is (c_laws_markEdgeS_C orc) Try.f68 → Run2 (c_laws_markEdgeS_C orc) [.code c_laws_markEdgeS_26] (argEnv 0 args) h R) (hle : k ≤ 34 := by simp) : ACalls Try.prog 68 args h R :=
  contract20 [] c_laws_markEdgeS_26 [.tmp 4] Try.func68 (by decide +kernel) rfl (by kernel_rfl) (by rw [ha]; exact hle) (by kernel_rfl) hp hk
theorem markEdgeS_s (id : Nat) (l : List T) (ex : List AV) (cap : Option Nat) (k : Int) (hk : 0 ≤ k ∧ k ≤ 1099511627776) (hl : l.length ≤ 1073741824) : ACalls Try.prog 68 [.sl id 3 0 l.length cap, .int .i64 k] [(id, ⟨3, l.map T.av ++ ex⟩)] (fun v h' => v = .int .i64 (k + 3 * l.length) ∧ h' = [(id, ⟨3, (marksT k l.length).map T.av ++ ex⟩)]) := by
  refine c_laws_markEdgeS_of0 rfl noPure fun I => ?_
  refine Run2.of I 1000 ?_
  simp -implicitDefEqProofs
  obtain ⟨f, hf0, hfn, hlen, hset, hget⟩ : ∃ f : Nat → List AV, l.map T.av ++ ex = f 0 ∧ (marksT k l.length).map T.av ++ ex = f l.length ∧ (∀ i, i ≤ l.length → (f i).length = l.length + ex.length) ∧ (∀ i, i < l.length → (f i).set i (T.av ⟨k + 3 * i, k + 3 * i + 1, k + 3 * i + 1 + 1⟩) = f (i + 1)) ∧ ∀ i, (hi : i < l.length) → (f i)[i]? = some l[i].av :=
    ⟨fun i => (marksT k i).map T.av ++ (l.drop i).map T.av ++ ex, by simp [marksT], by simp, fun i hi => by simp; omega, fun i hi => markT_step l ex k i hi, fun i hi => by
      show ((marksT k i).map T.av ++ (l.drop i).map T.av ++ ex)[i]? = _
      rw [List.append_assoc, List.getElem?_append_right (by simp)]
      rw [show i - ((marksT k i).map T.av).length = 0 by simp, List.drop_eq_getElem_cons hi]; rfl⟩
  have hz : l.map (fun x : T => AV.agg [.int .i64 x.f, .int .i64 x.t, .int .i64 x.s]) = l.map T.av := rfl
  rw [hf0, hfn]
  refine Run2.loopE (fun i => [(0, .sl id 3 0 l.length cap), (1, .int .i64 (k + 3 * (i : Nat))), (5, .int .i64 (i : Nat))]) (fun i => [(id, ⟨3, f i⟩)]) (fun i => l.length - i) (fun i => i ≤ l.length) 0 (by simp) rfl (Nat.zero_le _) fun i hi ih => ?_
  by_cases hlt : i < l.length
  · have go := ih (i + 1) (by omega) (by omega)
    have hl2 := hlen i hi
    have hg := hget i hlt
    have hlf : i < (f i).length := by omega
    have hs := hset i hlt
    clear ih
    refine Run2.of I 1000 ?_
    have hsg : ∀ A, ((f i).set i A)[i]? = some A := fun A => List.getElem?_set_self hlf
    simp -implicitDefEqProofs [hlt, hl2, hg, hsg]
    simp at hs
    rw [hs]
    refine ⟨by omega, by omega, by omega, by omega, ?_⟩
    have e : k + 3 * ((i + 1 : Nat) : Int) = k + 3 * i + 1 + 1 + 1 := by omega
    rw [e] at go
    simpa using go
  · obtain rfl : i = l.length := by omega
    refine Run2.of I 1000 ?_
    simp -implicitDefEqProofs
theorem markEdgeS_o {v : AV} {l : List T} {hs : Heap} (ho : OwnL T.av 3 v l hs) (k : Int) (hk : 0 ≤ k ∧ k ≤ 1099511627776) (hl : l.length ≤ 1073741824) : ACalls Try.prog 68 [v, .int .i64 k] hs (fun r h' => r = .int .i64 (k + 3 * l.length) ∧ OwnL T.av 3 v (marksT k l.length) h') := by
  have nil : ∀ u, (u = AV.nilsl ∨ u = .emp) → ACalls Try.prog 68 [u, .int .i64 k] [] (fun r h' => r = .int .i64 (k + 3 * ([] : List T).length) ∧ OwnL T.av 3 u (marksT k 0) h') := by
    rintro u (rfl | rfl)
    all_goals
      refine c_laws_markEdgeS_of0 rfl noPure fun I => ?_
      refine Run2.of I 1000 ?_
      simp -implicitDefEqProofs
      refine Run2.loopE (fun (_ : Unit) => [(0, _), (1, .int .i64 k), (5, .int .i64 0)]) (fun _ => []) (fun _ => 0) (fun _ => True) () (by rfl) rfl trivial fun _ _ _ => ?_
      refine Run2.of I 1000 ?_
      simp -implicitDefEqProofs
      constructor
  cases ho with
  | nil => exact nil _ (.inl rfl)
  | emp => exact nil _ (.inr rfl)
  | sl id cap ex hex =>
    refine (markEdgeS_s id l ex cap k hk hl).mono ?_
    rintro r h' ⟨rfl, rfl⟩
    refine ⟨rfl, ?_⟩
    have := OwnL.sl (enc := T.av) (sz := 3) (l := marksT k l.length) id cap ex hex
    rwa [marksT_length] at this
abbrev c_laws_markGraph_o0 : List AJ := [.o ⟨(some 2), none, false, .box false 2 (.t 0), none⟩, .o ⟨(some 4), none, false, .mv (.c (.int .i64 0)), (some [1, 2])⟩]
def c_laws_markGraph_0 : ACode := .region c_laws_markGraph_o0
abbrev c_laws_markGraph_o1 : List AJ := [.o ⟨(some 5), none, false, .fieldA 1 (.t 2), none⟩, .o ⟨(some 6), none, false, .load 1 false (.t 5), none⟩, .o ⟨(some 7), none, false, .mv (.t 1), none⟩, .o ⟨(some 8), none, false, .call 68 [(.t 6), (.t 7)], none⟩, .o ⟨(some 1), none, false, .mv (.t 8), (some [1])⟩]
def c_laws_markGraph_1 : ACode := .region c_laws_markGraph_o1
abbrev c_laws_markGraph_o2 : List AJ := [.o ⟨(some 9), none, false, .mv (.t 1), none⟩, .o ⟨(some 4), none, false, .mv (.t 9), (some [4])⟩]
def c_laws_markGraph_2 : ACode := .region c_laws_markGraph_o2
def c_laws_markGraph_3 : ACode := .seq c_laws_markGraph_2 .ret
def c_laws_markGraph_4 : ACode := .seq c_laws_markGraph_1 c_laws_markGraph_3
def c_laws_markGraph_5 : ACode := .seq c_laws_markGraph_0 c_laws_markGraph_4
section
variable (C : Cx) (n : Nat) (sk : List AItem) (e : Env) (h : Heap) (R : AV → Heap → Prop)
@[simp, simp ↓] theorem c_laws_markGraph_0_r : vc2 C (n + 1) [] (.code c_laws_markGraph_0 :: sk) e h R = (vc2 C n c_laws_markGraph_o0 sk e h R) := nr rfl
@[simp, simp ↓] theorem c_laws_markGraph_1_r : vc2 C (n + 1) [] (.code c_laws_markGraph_1 :: sk) e h R = (vc2 C n c_laws_markGraph_o1 sk e h R) := nr rfl
@[simp, simp ↓] theorem c_laws_markGraph_2_r : vc2 C (n + 1) [] (.code c_laws_markGraph_2 :: sk) e h R = (vc2 C n c_laws_markGraph_o2 sk e h R) := nr rfl
@[simp, simp ↓] theorem c_laws_markGraph_3_r : vc2 C (n + 1) [] (.code c_laws_markGraph_3 :: sk) e h R = (vc2 C n [] (.code c_laws_markGraph_2 :: .code .ret :: sk) e h R) := nr rfl
@[simp, simp ↓] theorem c_laws_markGraph_4_r : vc2 C (n + 1) [] (.code c_laws_markGraph_4 :: sk) e h R = (vc2 C n [] (.code c_laws_markGraph_1 :: .code c_laws_markGraph_3 :: sk) e h R) := nr rfl
@[simp, simp ↓] theorem c_laws_markGraph_5_r : vc2 C (n + 1) [] (.code c_laws_markGraph_5 :: sk) e h R = (vc2 C n [] (.code c_laws_markGraph_0 :: .code c_laws_markGraph_4 :: sk) e h R) := nr rfl
end
noncomputable def c_laws_markGraph_C (orc : Orc) : Cx := ⟨Try.prog, [], 23, 10, [.tmp 4], orc⟩
@[simp] theorem c_laws_markGraph_C_P (orc : Orc) : (c_laws_markGraph_C orc).P = Try.prog := nr rfl
@[simp] theorem c_laws_markGraph_C_o (orc : Orc) : (c_laws_markGraph_C orc).orc = orc := nr rfl
@[simp] theorem c_laws_markGraph_C_r (orc : Orc) : (c_laws_markGraph_C orc).res = [.tmp 4] := nr rfl
theorem c_laws_markGraph_of {args : List AV} {h : Heap} {R : AV → Heap → Prop} {k : Nat} (ha : args.length = k) {orc : Orc} (hp : Pure Try.prog orc) (hk : Is (c_laws_markGraph_C orc) Try.f23 → Run2 (c_laws_markGraph_C orc) [.code c_laws_markGraph_5] (argEnv 0 args) h (Post R)) (hle : k ≤ 10 := by simp) : ACalls Try.prog 23 args h R :=
  contract2 [] c_laws_markGraph_5 [.tmp 4] Try.func23 (by decide +kernel) rfl (by kernel_rfl) (by rw [ha]; exact hle) (by kernel_rfl) hp hk
theorem c_laws_markGraph_of0 {args : List AV} {h : Heap} {R : AV → Heap → Prop} {k : Nat} (ha : args.length = k) {orc : Orc} (hp : Pure Try.prog orc) (hk : Is (c_laws_markGraph_C orc) Try.f23 → Run2 (c_laws_markGraph_C orc) [.code c_laws_markGraph_5] (argEnv 0 args) h R) (hle : k ≤ 10 := by simp) : ACalls Try.prog 23 args h R :=
  contract20 [] c_laws_markGraph_5 [.tmp 4] Try.func23 (by decide +kernel) rfl (by kernel_rfl) (by rw [ha]; exact hle) (by kernel_rfl) hp hk
theorem markGraph_o {v : AV} {x : Gr} {hs : Heap} (ho : OwnG v x hs) (k : Int) (hk : 0 ≤ k ∧ k ≤ 1099511627776) (hl : x.ts.length ≤ 1073741824) : ACalls Try.prog 23 [v, .int .i64 k] hs (fun r h' => r = .int .i64 (k + 3 * x.ts.length) ∧ OwnG v ⟨x.n, marksT k x.ts.length⟩ h') := by
  obtain ⟨u, rfl, hu⟩ := ho
  have hc := hu.cell
  refine c_laws_markGraph_of0 rfl noPure fun I => ?_
  refine Run2.of I 1000 ?_
  simp -implicitDefEqProofs [hc]
  refine (markEdgeS_o hu k hk hl).mono ?_
  rintro r h' ⟨rfl, hu'⟩
  refine gK.go ?_
  simp -implicitDefEqProofs
  exact ⟨_, rfl, hu'⟩
theorem markG_drop {w : AV} {x : Gr} {g h : Heap} (o : OwnG w x g) (keep : Heap) (hs : ∀ p ∈ g, p ∈ h) (hk : ∀ p ∈ keep, p ∈ h ∧ p.1 ∉ dom g) (nk : (dom h).Nodup → (dom keep).Nodup) (k : Int) (hk1 : 0 ≤ k ∧ k ≤ 1099511627776) (hl : x.ts.length ≤ 1073741824) : ACalls Try.prog 23 [w, .int .i64 k] h (fun r h' => r = .int .i64 (k + 3 * x.ts.length) ∧ h' = keep) :=
  ACalls.marks g keep o.nodup hs hk nk (S := fun h' => OwnG w ⟨x.n, marksT k x.ts.length⟩ h') (markGraph_o o k hk1 hl) ⟨rfl, fun h' ho => ho.own.2⟩
end Go.AG
