/- Rounds that begin with another one: what the program's and the reference's functions give. No statement is made here. -/
import Derived.Test.YtlncpnefkpfojaaCtDel
import Derived.Test.YtlncpnefkpfojaaAGLists2
namespace Go.AG
open Go.Proofs Go.Proofs.Ytlncpnefkpfojaa
set_option linter.unusedSimpArgs false
set_option linter.unusedVariables false
set_option maxRecDepth 4000
/-- Slices in blocks of their own, in whatever order these stand. -/
def OwnP (us : List AV) (rs : List (List Int)) (hp : Heap) : Prop := ∃ hi, OwnLs us rs hi ∧ hp.Perm hi
theorem OwnP.app {us : List AV} {rs : List (List Int)} {hp : Heap} (o : OwnP us rs hp) {u : AV} {r : List Int} {h1 : Heap} (o1 : OwnL iv 1 u r h1) (hd : ∀ i ∈ dom h1, i ∉ dom hp) : OwnP (us ++ [u]) (rs ++ [r]) (h1 ++ hp) := by
  obtain ⟨hi, o, p⟩ := o
  refine ⟨hi ++ h1, o.append (.one o1) fun i hi hm => hd i hm ?_, ?_⟩
  · exact ((p.map (·.1)).mem_iff).2 hi
  · exact List.perm_append_comm.trans (p.append_right h1)
theorem OwnLL.of_grow {w : AV} {us : List AV} {rs : List (List Int)} {hp hi : Heap} (g : Grow 1 w us hp) (o : OwnP us rs hi) (nd : (dom (hp ++ hi)).Nodup) : ∃ h', (hp ++ hi).Perm h' ∧ OwnLL w rs h' := by
  obtain ⟨hj, o, p⟩ := o
  cases g with
  | nil =>
    cases o
    exact ⟨[], by simpa using p, .nil⟩
  | emp =>
    cases o
    exact ⟨[], by simpa using p, .emp⟩
  | sl id us n hn =>
    subst hn
    refine ⟨(id, ⟨1, us ++ []⟩) :: hj, by simpa using p, .sl id _ none [] (by rw [o.len]) rfl o fun hm => ?_⟩
    have h1 : id ∈ dom hi := ((p.map (·.1)).mem_iff).2 hm
    simp only [List.cons_append, List.nil_append, dom_cons, List.nodup_cons] at nd
    exact nd.1 h1
abbrev c_impl_copyLists_o0 : List AJ := [.o ⟨(some 2), none, false, .mv (.c .nilsl), (some [0])⟩]
def c_impl_copyLists_0 : ACode := .region c_impl_copyLists_o0
abbrev c_impl_copyLists_o1 : List AJ := [.o ⟨(some 3), none, false, .mv (.c .nilsl), (some [0, 3])⟩]
def c_impl_copyLists_1 : ACode := .region c_impl_copyLists_o1
abbrev c_impl_copyLists_o2 : List AJ := [.o ⟨(some 6), none, false, .mv (.t 0), none⟩, .o ⟨(some 7), none, false, .len (.t 6), none⟩, .o ⟨(some 8), none, false, .mv (.c (.int .i64 0)), (some [3, 6, 7, 8])⟩]
def c_impl_copyLists_2 : ACode := .region c_impl_copyLists_o2
abbrev c_impl_copyLists_o3 : List AJ := [.o ⟨(some 9), none, false, .bin .lss (.t 8) (.t 7), (some [3, 6, 7, 8, 9])⟩]
def c_impl_copyLists_3 : ACode := .region c_impl_copyLists_o3
def c_impl_copyLists_4 : ACode := .cond (.t 9) .skip (.exit 0)
abbrev c_impl_copyLists_o4 : List AJ := [.o ⟨(some 10), none, false, .idxA 1 (.t 6) (.t 8), none⟩, .o ⟨(some 11), none, false, .load 1 false (.t 10), none⟩, .o ⟨(some 5), none, false, .mv (.t 11), (some [3, 5, 6, 7, 8])⟩]
def c_impl_copyLists_5 : ACode := .region c_impl_copyLists_o4
abbrev c_impl_copyLists_o5 : List AJ := [.o ⟨(some 12), none, false, .mv (.t 3), none⟩, .o ⟨(some 13), none, false, .mv (.t 5), none⟩, .o ⟨(some 14), none, false, .call 111 [(.t 13)], none⟩, .o ⟨(some 15), none, false, .bsl false 1 [(.t 14)], none⟩, .o ⟨(some 16), none, false, .append 1 24 (.t 12) (.t 15), none⟩, .o ⟨(some 3), none, false, .mv (.t 16), (some [3, 6, 7, 8])⟩]
def c_impl_copyLists_6 : ACode := .region c_impl_copyLists_o5
def c_impl_copyLists_7 : ACode := .seq c_impl_copyLists_5 c_impl_copyLists_6
def c_impl_copyLists_8 : ACode := .block 1 c_impl_copyLists_7
abbrev c_impl_copyLists_o6 : List AJ := [.o ⟨(some 17), none, true, .bin .add (.t 8) (.c (.int .i64 1)), none⟩, .o ⟨(some 8), none, false, .mv (.t 17), (some [3, 6, 7, 8])⟩]
def c_impl_copyLists_9 : ACode := .region c_impl_copyLists_o6
def c_impl_copyLists_10 : ACode := .seq c_impl_copyLists_8 c_impl_copyLists_9
def c_impl_copyLists_11 : ACode := .seq c_impl_copyLists_4 c_impl_copyLists_10
def c_impl_copyLists_12 : ACode := .seq c_impl_copyLists_3 c_impl_copyLists_11
def c_impl_copyLists_13 : ACode := .loop c_impl_copyLists_12
def c_impl_copyLists_14 : ACode := .block 0 c_impl_copyLists_13
def c_impl_copyLists_15 : ACode := .seq c_impl_copyLists_2 c_impl_copyLists_14
abbrev c_impl_copyLists_o7 : List AJ := [.o ⟨(some 18), none, false, .mv (.t 3), none⟩, .o ⟨(some 2), none, false, .mv (.t 18), (some [2])⟩]
def c_impl_copyLists_16 : ACode := .region c_impl_copyLists_o7
def c_impl_copyLists_17 : ACode := .seq c_impl_copyLists_16 .ret
def c_impl_copyLists_18 : ACode := .seq c_impl_copyLists_15 c_impl_copyLists_17
def c_impl_copyLists_19 : ACode := .seq c_impl_copyLists_1 c_impl_copyLists_18
def c_impl_copyLists_20 : ACode := .seq c_impl_copyLists_0 c_impl_copyLists_19
section
variable (C : Cx) (n : Nat) (sk : List AItem) (e : Env) (h : Heap) (R : AV → Heap → Prop)
@[simp, simp ↓] theorem c_impl_copyLists_0_r : vc2 C (n + 1) [] (.code c_impl_copyLists_0 :: sk) e h R = (vc2 C n c_impl_copyLists_o0 sk e h R) := nr rfl
@[simp, simp ↓] theorem c_impl_copyLists_1_r : vc2 C (n + 1) [] (.code c_impl_copyLists_1 :: sk) e h R = (vc2 C n c_impl_copyLists_o1 sk e h R) := nr rfl
@[simp, simp ↓] theorem c_impl_copyLists_2_r : vc2 C (n + 1) [] (.code c_impl_copyLists_2 :: sk) e h R = (vc2 C n c_impl_copyLists_o2 sk e h R) := nr rfl
@[simp, simp ↓] theorem c_impl_copyLists_3_r : vc2 C (n + 1) [] (.code c_impl_copyLists_3 :: sk) e h R = (vc2 C n c_impl_copyLists_o3 sk e h R) := nr rfl
@[simp, simp ↓] theorem c_impl_copyLists_4_r : vc2 C (n + 1) [] (.code c_impl_copyLists_4 :: sk) e h R = (condK (ev e (.t 9)) (vc2 C n [] (.code .skip :: sk) e h R) (vc2 C n [] (.code (.exit 0) :: sk) e h R)) := nr rfl
@[simp, simp ↓] theorem c_impl_copyLists_5_r : vc2 C (n + 1) [] (.code c_impl_copyLists_5 :: sk) e h R = (vc2 C n c_impl_copyLists_o4 sk e h R) := nr rfl
@[simp, simp ↓] theorem c_impl_copyLists_6_r : vc2 C (n + 1) [] (.code c_impl_copyLists_6 :: sk) e h R = (vc2 C n c_impl_copyLists_o5 sk e h R) := nr rfl
@[simp, simp ↓] theorem c_impl_copyLists_7_r : vc2 C (n + 1) [] (.code c_impl_copyLists_7 :: sk) e h R = (vc2 C n [] (.code c_impl_copyLists_5 :: .code c_impl_copyLists_6 :: sk) e h R) := nr rfl
@[simp, simp ↓] theorem c_impl_copyLists_8_r : vc2 C (n + 1) [] (.code c_impl_copyLists_8 :: sk) e h R = (vc2 C n [] (.code c_impl_copyLists_7 :: .inBlock 1 :: sk) e h R) := nr rfl
@[simp, simp ↓] theorem c_impl_copyLists_9_r : vc2 C (n + 1) [] (.code c_impl_copyLists_9 :: sk) e h R = (vc2 C n c_impl_copyLists_o6 sk e h R) := nr rfl
@[simp, simp ↓] theorem c_impl_copyLists_10_r : vc2 C (n + 1) [] (.code c_impl_copyLists_10 :: sk) e h R = (vc2 C n [] (.code c_impl_copyLists_8 :: .code c_impl_copyLists_9 :: sk) e h R) := nr rfl
@[simp, simp ↓] theorem c_impl_copyLists_11_r : vc2 C (n + 1) [] (.code c_impl_copyLists_11 :: sk) e h R = (vc2 C n [] (.code c_impl_copyLists_4 :: .code c_impl_copyLists_10 :: sk) e h R) := nr rfl
@[simp, simp ↓] theorem c_impl_copyLists_12_r : vc2 C (n + 1) [] (.code c_impl_copyLists_12 :: sk) e h R = (vc2 C n [] (.code c_impl_copyLists_3 :: .code c_impl_copyLists_11 :: sk) e h R) := nr rfl
@[simp, simp ↓] theorem c_impl_copyLists_13_r : vc2 C (n + 1) [] (.code c_impl_copyLists_13 :: sk) e h R = (Run2 C (.code c_impl_copyLists_12 :: .inLoop c_impl_copyLists_12 :: sk) e h R) := nr rfl
@[simp, simp ↓] theorem c_impl_copyLists_14_r : vc2 C (n + 1) [] (.code c_impl_copyLists_14 :: sk) e h R = (vc2 C n [] (.code c_impl_copyLists_13 :: .inBlock 0 :: sk) e h R) := nr rfl
@[simp, simp ↓] theorem c_impl_copyLists_15_r : vc2 C (n + 1) [] (.code c_impl_copyLists_15 :: sk) e h R = (vc2 C n [] (.code c_impl_copyLists_2 :: .code c_impl_copyLists_14 :: sk) e h R) := nr rfl
@[simp, simp ↓] theorem c_impl_copyLists_16_r : vc2 C (n + 1) [] (.code c_impl_copyLists_16 :: sk) e h R = (vc2 C n c_impl_copyLists_o7 sk e h R) := nr rfl
@[simp, simp ↓] theorem c_impl_copyLists_17_r : vc2 C (n + 1) [] (.code c_impl_copyLists_17 :: sk) e h R = (vc2 C n [] (.code c_impl_copyLists_16 :: .code .ret :: sk) e h R) := nr rfl
@[simp, simp ↓] theorem c_impl_copyLists_18_r : vc2 C (n + 1) [] (.code c_impl_copyLists_18 :: sk) e h R = (vc2 C n [] (.code c_impl_copyLists_15 :: .code c_impl_copyLists_17 :: sk) e h R) := nr rfl
@[simp, simp ↓] theorem c_impl_copyLists_19_r : vc2 C (n + 1) [] (.code c_impl_copyLists_19 :: sk) e h R = (vc2 C n [] (.code c_impl_copyLists_1 :: .code c_impl_copyLists_18 :: sk) e h R) := nr rfl
@[simp, simp ↓] theorem c_impl_copyLists_20_r : vc2 C (n + 1) [] (.code c_impl_copyLists_20 :: sk) e h R = (vc2 C n [] (.code c_impl_copyLists_0 :: .code c_impl_copyLists_19 :: sk) e h R) := nr rfl
end
noncomputable def c_impl_copyLists_C (orc : Orc) : Cx := ⟨Try.prog, [], 128, 19, [.tmp 2], orc⟩
@[simp] theorem c_impl_copyLists_C_P (orc : Orc) : (c_impl_copyLists_C orc).P = Try.prog := nr rfl
@[simp] theorem c_impl_copyLists_C_o (orc : Orc) : (c_impl_copyLists_C orc).orc = orc := nr rfl
@[simp] theorem c_impl_copyLists_C_r (orc : Orc) : (c_impl_copyLists_C orc).res = [.tmp 2] := nr rfl
theorem c_impl_copyLists_of {args : List AV} {h : Heap} {R : AV → Heap → Prop} {k : Nat} (ha : args.length = k) {orc : Orc} (hp : Pure Try.prog orc) (hk : Is (c_impl_copyLists_C orc) Try.f128 → Run2 (c_impl_copyLists_C orc) [.code c_impl_copyLists_20] (argEnv 0 args) h (Post R)) (hle : k ≤ 19 := by simp) : ACalls Try.prog 128 args h R :=
  contract2 [] c_impl_copyLists_20 [.tmp 2] Try.func128 (by decide +kernel) rfl (by kernel_rfl) (by rw [ha]; exact hle) (by kernel_rfl) hp hk
theorem c_impl_copyLists_of0 {args : List AV} {h : Heap} {R : AV → Heap → Prop} {k : Nat} (ha : args.length = k) {orc : Orc} (hp : Pure Try.prog orc) (hk : Is (c_impl_copyLists_C orc) Try.f128 → Run2 (c_impl_copyLists_C orc) [.code c_impl_copyLists_20] (argEnv 0 args) h R) (hle : k ≤ 19 := by simp) : ACalls Try.prog 128 args h R :=
  contract20 [] c_impl_copyLists_20 [.tmp 2] Try.func128 (by decide +kernel) rfl (by kernel_rfl) (by rw [ha]; exact hle) (by kernel_rfl) hp hk
theorem copyLists_o (rs : List (List Int)) (hr : ssTot rs ≤ 1048576) : ACalls Try.prog 128 [.snap 1 (rs.map il)] [] (fun v h' => OwnLL v rs h') := by
  have hn := (fit_of_tot hr).1
  refine ACalls.permR ?_
  refine c_impl_copyLists_of0 rfl noPure fun I => ?_
  refine Run2.of I 1000 ?_
  simp -implicitDefEqProofs
  refine Run2.loopE (α := Nat × AV × List AV × Heap × Heap) (fun s => [(3, s.2.1), (6, .snap 1 (rs.map il)), (7, .int .i64 rs.length), (8, .int .i64 (s.1 : Nat))]) (fun s => s.2.2.2.1 ++ s.2.2.2.2) (fun s => rs.length - s.1) (fun s => s.1 ≤ rs.length ∧ Grow 1 s.2.1 s.2.2.1 s.2.2.2.1 ∧ OwnP s.2.2.1 (rs.take s.1) s.2.2.2.2) (0, .nilsl, [], [], []) (by simp) rfl ⟨Nat.zero_le _, .nil, [], .nil, .refl _⟩ ?_
  rintro ⟨i, w, us, hp, hi⟩ ⟨hin, hg, ho⟩ ih
  simp only at hin hg ho
  have hcell := hg.cell
  have hul : us.length = i := by
    obtain ⟨hj, o, _⟩ := ho
    rw [o.len, List.length_take]; omega
  by_cases hlt : i < rs.length
  · have hrl := (fit_of_tot hr).2 _ (List.getElem_mem hlt)
    refine Run2.of I 1000 ?_
    simp -implicitDefEqProofs [hlt]
    refine (Clone_w rs[i] _ hrl).monoN ?_
    rintro v h' ⟨hc, G, rfl⟩ nd
    have hvcell := G.cell
    have hst := stor_of hvcell
    have hcl : (cellsOf v).length = 1 := by rw [cells_of hvcell]; rfl
    rw [dom_append, List.nodup_append] at nd
    have hd1 : ∀ j ∈ dom hp, j ∉ dom hc := fun j hj hm => nd.2.2 j hm j (by rw [dom_append]; exact List.mem_append_left _ hj) rfl
    have hd2 : ∀ j ∈ dom hc, j ∉ dom hi := fun j hj hm => nd.2.2 j hj j (by rw [dom_append]; exact List.mem_append_right _ hm) rfl
    refine gK.go ?_
    simp -implicitDefEqProofs [hcell, hst, hcl]
    refine hg.app_mid (pre := hc) (post := hi) hd1 (by simp; omega) (by simp) fun w' hp' hg' hd' => ?_
    have hcell' := hg'.cell
    have go := ih (i + 1, w', us ++ [v], hp', hc ++ hi) ⟨hlt, hg', by
      simp only
      rw [List.take_succ_eq_append_getElem hlt]
      exact ho.app G.own hd2⟩ (by simp; omega)
    simp -implicitDefEqProofs [hcell']
    refine ⟨by omega, ?_⟩
    simpa using go
  · obtain rfl : i = rs.length := by omega
    rw [List.take_length] at ho
    refine Run2.of I 1000 ?_
    simp -implicitDefEqProofs [hcell]
    intro nd
    simpa using OwnLL.of_grow hg ho (by simpa using nd)
/-- A slice that is only appended to, with room behind it. -/
inductive GrowX (sz : Nat) : AV → List AV → Heap → Prop
  | nil : GrowX sz .nilsl [] []
  | sl (id : Nat) (l ex : List AV) (n : Nat) (hn : n = l.length) : GrowX sz (.sl id sz 0 n none) l [(id, ⟨sz, l ++ ex⟩)]
theorem GrowX.cell {sz : Nat} {w : AV} {l : List AV} {hp : Heap} (h : GrowX sz w l hp) : isCell w = true := by cases h <;> rfl
theorem GrowX.len {sz : Nat} {w : AV} {l : List AV} {hp : Heap} (h : GrowX sz w l hp) : lenR w = .val (.int .i64 l.length) := by
  cases h with
  | nil => simp
  | sl id l ex n hn => subst hn; simp
theorem GrowX.app {sz : Nat} {w : AV} {l new : List AV} {hp h : Heap} {C : Cx} {n : Nat} {d : Option Nat} {ks : Option (List Nat)} {is : List AJ} {sk : List AItem} {R : AV → Heap → Prop} {e : Env} {bytes : Nat} (g : GrowX sz w l hp) (hb : (2 * (l.length + new.length)) * bytes ≤ 281474976710656)
    (k : ∀ w' hp', GrowX sz w' (l ++ new) hp' → vc2 C n is sk (kp (put e d w') ks) (hp' ++ h) R) : resK C n d ks is sk R e (hp ++ h) (appR (hp ++ h) sz bytes w new) := by
  cases g with
  | nil =>
    simp only [appR_n, List.nil_append]
    refine ⟨fun he => ?_, fun _ => ⟨by simpa using hb, fun id _ => ?_⟩⟩
    · have : new = [] := by cases new <;> simp_all
      subst this
      exact k _ _ .nil
    · have := k _ _ (.sl id new [] new.length rfl)
      simpa using this
  | sl id l ex m hm =>
    subst hm
    have hd : hdel ((id, ⟨sz, l ++ ex⟩) :: h) id = h := by simp [hdel]
    rw [appR_ln]
    refine ⟨rfl, ⟨sz, l ++ ex⟩, by simp [hget], rfl, by simp, rfl, hb, fun id' _ => ?_⟩
    have := k _ _ (.sl id' (l ++ new) [] (l.length + new.length) (by simp))
    simpa [hd] using this
/-- Lent: it reads as frozen. -/
theorem GrowX.lent {w : AV} {l : List AV} {hp : Heap} (h : GrowX 1 w l hp) : Wk (lend1 hp w) (.snap 1 l) := by
  cases h with
  | nil => exact Wk.nil 1
  | sl id l ex n hn =>
    subst hn
    have : lend1 [(id, (⟨1, l ++ ex⟩ : Blk))] (.sl id 1 0 l.length none) = .snap 1 l := by simp [lend1, fz]
    rw [this]
    exact Wk.refl _
abbrev c_slices_Grow_int64_int64_o0 : List AJ := [.o ⟨(some 4), none, false, .mv (.c .nilsl), (some [0, 1])⟩]
def c_slices_Grow_int64_int64_0 : ACode := .region c_slices_Grow_int64_int64_o0
abbrev c_slices_Grow_int64_int64_o1 : List AJ := [.o ⟨(some 5), none, false, .mv (.t 1), none⟩, .o ⟨(some 6), none, false, .bin .lss (.t 5) (.c (.int .i64 0)), (some [0, 1, 6])⟩]
def c_slices_Grow_int64_int64_1 : ACode := .region c_slices_Grow_int64_int64_o1
def c_slices_Grow_int64_int64_2 : ACode := .cond (.t 6) .bad .skip
def c_slices_Grow_int64_int64_3 : ACode := .seq c_slices_Grow_int64_int64_1 c_slices_Grow_int64_int64_2
abbrev c_slices_Grow_int64_int64_o2 : List AJ := [.o ⟨(some 8), none, false, .mv (.t 1), none⟩, .o ⟨(some 9), none, false, .mv (.t 0), none⟩, .o ⟨(some 10), none, false, .capk (.t 9), none⟩, .o ⟨(some 11), none, false, .mv (.t 0), none⟩, .o ⟨(some 12), none, false, .len (.t 11), none⟩, .o ⟨(some 13), none, true, .bin .sub (.t 10) (.t 12), none⟩, .o ⟨(some 14), none, true, .bin .sub (.t 8) (.t 13), none⟩, .o ⟨(some 1), none, false, .mv (.t 14), (some [0, 1])⟩]
def c_slices_Grow_int64_int64_4 : ACode := .region c_slices_Grow_int64_int64_o2
abbrev c_slices_Grow_int64_int64_o3 : List AJ := [.o ⟨(some 15), none, false, .mv (.t 1), none⟩, .o ⟨(some 16), none, false, .bin .gtr (.t 15) (.c (.int .i64 0)), (some [0, 1, 16])⟩]
def c_slices_Grow_int64_int64_5 : ACode := .region c_slices_Grow_int64_int64_o3
abbrev c_slices_Grow_int64_int64_o4 : List AJ := [.o ⟨(some 17), none, false, .mv (.t 0), none⟩, .o ⟨(some 18), none, false, .mv (.t 0), none⟩, .o ⟨(some 19), none, false, .capk (.t 18), none⟩, .o ⟨(some 20), none, false, .slice 1 (.t 17) none (some (.t 19)) none, none⟩, .o ⟨(some 21), none, false, .mv (.t 1), none⟩, .o ⟨(some 22), none, false, .appendz 1 24 .nilsl (.t 20) (.t 21), none⟩, .o ⟨(some 23), none, false, .mv (.t 0), none⟩, .o ⟨(some 24), none, false, .len (.t 23), none⟩, .o ⟨(some 25), none, false, .slice 1 (.t 22) none (some (.t 24)) none, none⟩, .o ⟨(some 0), none, false, .mv (.t 25), (some [0])⟩]
def c_slices_Grow_int64_int64_6 : ACode := .region c_slices_Grow_int64_int64_o4
def c_slices_Grow_int64_int64_7 : ACode := .cond (.t 16) c_slices_Grow_int64_int64_6 .skip
def c_slices_Grow_int64_int64_8 : ACode := .seq c_slices_Grow_int64_int64_5 c_slices_Grow_int64_int64_7
def c_slices_Grow_int64_int64_9 : ACode := .seq c_slices_Grow_int64_int64_4 c_slices_Grow_int64_int64_8
abbrev c_slices_Grow_int64_int64_o5 : List AJ := [.o ⟨(some 26), none, false, .mv (.t 0), none⟩, .o ⟨(some 4), none, false, .mv (.t 26), (some [4])⟩]
def c_slices_Grow_int64_int64_10 : ACode := .region c_slices_Grow_int64_int64_o5
def c_slices_Grow_int64_int64_11 : ACode := .seq c_slices_Grow_int64_int64_10 .ret
def c_slices_Grow_int64_int64_12 : ACode := .seq c_slices_Grow_int64_int64_9 c_slices_Grow_int64_int64_11
def c_slices_Grow_int64_int64_13 : ACode := .seq c_slices_Grow_int64_int64_3 c_slices_Grow_int64_int64_12
def c_slices_Grow_int64_int64_14 : ACode := .seq c_slices_Grow_int64_int64_0 c_slices_Grow_int64_int64_13
section
variable (C : Cx) (n : Nat) (sk : List AItem) (e : Env) (h : Heap) (R : AV → Heap → Prop)
@[simp, simp ↓] theorem c_slices_Grow_int64_int64_0_r : vc2 C (n + 1) [] (.code c_slices_Grow_int64_int64_0 :: sk) e h R = (vc2 C n c_slices_Grow_int64_int64_o0 sk e h R) := nr rfl
@[simp, simp ↓] theorem c_slices_Grow_int64_int64_1_r : vc2 C (n + 1) [] (.code c_slices_Grow_int64_int64_1 :: sk) e h R = (vc2 C n c_slices_Grow_int64_int64_o1 sk e h R) := nr rfl
@[simp, simp ↓] theorem c_slices_Grow_int64_int64_2_r : vc2 C (n + 1) [] (.code c_slices_Grow_int64_int64_2 :: sk) e h R = (condK (ev e (.t 6)) (vc2 C n [] (.code .bad :: sk) e h R) (vc2 C n [] (.code .skip :: sk) e h R)) := nr rfl
@[simp, simp ↓] theorem c_slices_Grow_int64_int64_3_r : vc2 C (n + 1) [] (.code c_slices_Grow_int64_int64_3 :: sk) e h R = (vc2 C n [] (.code c_slices_Grow_int64_int64_1 :: .code c_slices_Grow_int64_int64_2 :: sk) e h R) := nr rfl
@[simp, simp ↓] theorem c_slices_Grow_int64_int64_4_r : vc2 C (n + 1) [] (.code c_slices_Grow_int64_int64_4 :: sk) e h R = (vc2 C n c_slices_Grow_int64_int64_o2 sk e h R) := nr rfl
@[simp, simp ↓] theorem c_slices_Grow_int64_int64_5_r : vc2 C (n + 1) [] (.code c_slices_Grow_int64_int64_5 :: sk) e h R = (vc2 C n c_slices_Grow_int64_int64_o3 sk e h R) := nr rfl
@[simp, simp ↓] theorem c_slices_Grow_int64_int64_6_r : vc2 C (n + 1) [] (.code c_slices_Grow_int64_int64_6 :: sk) e h R = (vc2 C n c_slices_Grow_int64_int64_o4 sk e h R) := nr rfl
@[simp, simp ↓] theorem c_slices_Grow_int64_int64_7_r : vc2 C (n + 1) [] (.code c_slices_Grow_int64_int64_7 :: sk) e h R = (condK (ev e (.t 16)) (vc2 C n [] (.code c_slices_Grow_int64_int64_6 :: sk) e h R) (vc2 C n [] (.code .skip :: sk) e h R)) := nr rfl
@[simp, simp ↓] theorem c_slices_Grow_int64_int64_8_r : vc2 C (n + 1) [] (.code c_slices_Grow_int64_int64_8 :: sk) e h R = (vc2 C n [] (.code c_slices_Grow_int64_int64_5 :: .code c_slices_Grow_int64_int64_7 :: sk) e h R) := nr rfl
@[simp, simp ↓] theorem c_slices_Grow_int64_int64_9_r : vc2 C (n + 1) [] (.code c_slices_Grow_int64_int64_9 :: sk) e h R = (vc2 C n [] (.code c_slices_Grow_int64_int64_4 :: .code c_slices_Grow_int64_int64_8 :: sk) e h R) := nr rfl
@[simp, simp ↓] theorem c_slices_Grow_int64_int64_10_r : vc2 C (n + 1) [] (.code c_slices_Grow_int64_int64_10 :: sk) e h R = (vc2 C n c_slices_Grow_int64_int64_o5 sk e h R) := nr rfl
@[simp, simp ↓] theorem c_slices_Grow_int64_int64_11_r : vc2 C (n + 1) [] (.code c_slices_Grow_int64_int64_11 :: sk) e h R = (vc2 C n [] (.code c_slices_Grow_int64_int64_10 :: .code .ret :: sk) e h R) := nr rfl
@[simp, simp ↓] theorem c_slices_Grow_int64_int64_12_r : vc2 C (n + 1) [] (.code c_slices_Grow_int64_int64_12 :: sk) e h R = (vc2 C n [] (.code c_slices_Grow_int64_int64_9 :: .code c_slices_Grow_int64_int64_11 :: sk) e h R) := nr rfl
@[simp, simp ↓] theorem c_slices_Grow_int64_int64_13_r : vc2 C (n + 1) [] (.code c_slices_Grow_int64_int64_13 :: sk) e h R = (vc2 C n [] (.code c_slices_Grow_int64_int64_3 :: .code c_slices_Grow_int64_int64_12 :: sk) e h R) := nr rfl
@[simp, simp ↓] theorem c_slices_Grow_int64_int64_14_r : vc2 C (n + 1) [] (.code c_slices_Grow_int64_int64_14 :: sk) e h R = (vc2 C n [] (.code c_slices_Grow_int64_int64_0 :: .code c_slices_Grow_int64_int64_13 :: sk) e h R) := nr rfl
end
noncomputable def c_slices_Grow_int64_int64_C (orc : Orc) : Cx := ⟨Try.prog, [], 146, 27, [.tmp 4], orc⟩
@[simp] theorem c_slices_Grow_int64_int64_C_P (orc : Orc) : (c_slices_Grow_int64_int64_C orc).P = Try.prog := nr rfl
@[simp] theorem c_slices_Grow_int64_int64_C_o (orc : Orc) : (c_slices_Grow_int64_int64_C orc).orc = orc := nr rfl
@[simp] theorem c_slices_Grow_int64_int64_C_r (orc : Orc) : (c_slices_Grow_int64_int64_C orc).res = [.tmp 4] := nr rfl
theorem c_slices_Grow_int64_int64_of {args : List AV} {h : Heap} {R : AV → Heap → Prop} {k : Nat} (ha : args.length = k) {orc : Orc} (hp : Pure Try.prog orc) (hk : Is (c_slices_Grow_int64_int64_C orc) Try.f146 → Run2 (c_slices_Grow_int64_int64_C orc) [.code c_slices_Grow_int64_int64_14] (argEnv 0 args) h (Post R)) (hle : k ≤ 27 := by simp) : ACalls Try.prog 146 args h R :=
  contract2 [] c_slices_Grow_int64_int64_14 [.tmp 4] Try.func146 (by decide +kernel) rfl (by kernel_rfl) (by rw [ha]; exact hle) (by kernel_rfl) hp hk
theorem c_slices_Grow_int64_int64_of0 {args : List AV} {h : Heap} {R : AV → Heap → Prop} {k : Nat} (ha : args.length = k) {orc : Orc} (hp : Pure Try.prog orc) (hk : Is (c_slices_Grow_int64_int64_C orc) Try.f146 → Run2 (c_slices_Grow_int64_int64_C orc) [.code c_slices_Grow_int64_int64_14] (argEnv 0 args) h R) (hle : k ≤ 27 := by simp) : ACalls Try.prog 146 args h R :=
  contract20 [] c_slices_Grow_int64_int64_14 [.tmp 4] Try.func146 (by decide +kernel) rfl (by kernel_rfl) (by rw [ha]; exact hle) (by kernel_rfl) hp hk
theorem GrowLL_g (n : Nat) (h : Heap) (hn : n ≤ 1048576) : ACalls Try.prog 146 [.nilsl, .int .i64 n] h (fun v h' => ∃ hp, GrowX 1 v [] hp ∧ h' = hp ++ h) := by
  refine c_slices_Grow_int64_int64_of0 rfl noPure fun I => ?_
  refine Run2.of I 1000 ?_
  simp -implicitDefEqProofs
  refine ⟨by omega, fun h1 => ⟨h1, by omega, fun id _ => ⟨[(id, ⟨1, [] ++ List.replicate n .nilsl⟩)], .sl id [] _ 0 rfl, by simp⟩⟩, fun _ => .nil⟩
abbrev c_slices_Concat_int64_int64_o0 : List AJ := [.o ⟨(some 2), none, false, .mv (.c .nilsl), (some [0])⟩]
def c_slices_Concat_int64_int64_0 : ACode := .region c_slices_Concat_int64_int64_o0
abbrev c_slices_Concat_int64_int64_o1 : List AJ := [.o ⟨(some 3), none, false, .mv (.c (.int .i64 0)), (some [0, 3])⟩]
def c_slices_Concat_int64_int64_1 : ACode := .region c_slices_Concat_int64_int64_o1
abbrev c_slices_Concat_int64_int64_o2 : List AJ := [.o ⟨(some 9), none, false, .mv (.t 0), none⟩, .o ⟨(some 10), none, false, .len (.t 9), none⟩, .o ⟨(some 11), none, false, .mv (.c (.int .i64 0)), (some [0, 3, 9, 10, 11])⟩]
def c_slices_Concat_int64_int64_2 : ACode := .region c_slices_Concat_int64_int64_o2
abbrev c_slices_Concat_int64_int64_o3 : List AJ := [.o ⟨(some 12), none, false, .bin .lss (.t 11) (.t 10), (some [0, 3, 9, 10, 11, 12])⟩]
def c_slices_Concat_int64_int64_3 : ACode := .region c_slices_Concat_int64_int64_o3
def c_slices_Concat_int64_int64_4 : ACode := .cond (.t 12) .skip (.exit 0)
abbrev c_slices_Concat_int64_int64_o4 : List AJ := [.o ⟨(some 13), none, false, .idxA 1 (.t 9) (.t 11), none⟩, .o ⟨(some 14), none, false, .load 1 false (.t 13), none⟩, .o ⟨(some 5), none, false, .mv (.t 14), (some [0, 3, 5, 9, 10, 11])⟩]
def c_slices_Concat_int64_int64_5 : ACode := .region c_slices_Concat_int64_int64_o4
abbrev c_slices_Concat_int64_int64_o5 : List AJ := [.o ⟨(some 15), none, false, .mv (.t 3), none⟩, .o ⟨(some 16), none, false, .mv (.t 5), none⟩, .o ⟨(some 17), none, false, .len (.t 16), none⟩, .o ⟨(some 18), none, true, .bin .add (.t 15) (.t 17), none⟩, .o ⟨(some 3), none, false, .mv (.t 18), (some [0, 3, 9, 10, 11])⟩]
def c_slices_Concat_int64_int64_6 : ACode := .region c_slices_Concat_int64_int64_o5
abbrev c_slices_Concat_int64_int64_o6 : List AJ := [.o ⟨(some 19), none, false, .mv (.t 3), none⟩, .o ⟨(some 20), none, false, .bin .lss (.t 19) (.c (.int .i64 0)), (some [0, 3, 9, 10, 11, 20])⟩]
def c_slices_Concat_int64_int64_7 : ACode := .region c_slices_Concat_int64_int64_o6
def c_slices_Concat_int64_int64_8 : ACode := .cond (.t 20) .bad .skip
def c_slices_Concat_int64_int64_9 : ACode := .seq c_slices_Concat_int64_int64_7 c_slices_Concat_int64_int64_8
def c_slices_Concat_int64_int64_10 : ACode := .seq c_slices_Concat_int64_int64_6 c_slices_Concat_int64_int64_9
def c_slices_Concat_int64_int64_11 : ACode := .seq c_slices_Concat_int64_int64_5 c_slices_Concat_int64_int64_10
def c_slices_Concat_int64_int64_12 : ACode := .block 1 c_slices_Concat_int64_int64_11
abbrev c_slices_Concat_int64_int64_o7 : List AJ := [.o ⟨(some 22), none, true, .bin .add (.t 11) (.c (.int .i64 1)), none⟩, .o ⟨(some 11), none, false, .mv (.t 22), (some [0, 3, 9, 10, 11])⟩]
def c_slices_Concat_int64_int64_13 : ACode := .region c_slices_Concat_int64_int64_o7
def c_slices_Concat_int64_int64_14 : ACode := .seq c_slices_Concat_int64_int64_12 c_slices_Concat_int64_int64_13
def c_slices_Concat_int64_int64_15 : ACode := .seq c_slices_Concat_int64_int64_4 c_slices_Concat_int64_int64_14
def c_slices_Concat_int64_int64_16 : ACode := .seq c_slices_Concat_int64_int64_3 c_slices_Concat_int64_int64_15
def c_slices_Concat_int64_int64_17 : ACode := .loop c_slices_Concat_int64_int64_16
def c_slices_Concat_int64_int64_18 : ACode := .block 0 c_slices_Concat_int64_int64_17
def c_slices_Concat_int64_int64_19 : ACode := .seq c_slices_Concat_int64_int64_2 c_slices_Concat_int64_int64_18
abbrev c_slices_Concat_int64_int64_o8 : List AJ := [.o ⟨(some 23), none, false, .mv (.t 3), none⟩, .o ⟨(some 24), none, false, .call 146 [(.c .nilsl), (.t 23)], none⟩, .o ⟨(some 6), none, false, .mv (.t 24), (some [0, 6])⟩]
def c_slices_Concat_int64_int64_20 : ACode := .region c_slices_Concat_int64_int64_o8
abbrev c_slices_Concat_int64_int64_o9 : List AJ := [.o ⟨(some 25), none, false, .mv (.t 0), none⟩, .o ⟨(some 26), none, false, .len (.t 25), none⟩, .o ⟨(some 27), none, false, .mv (.c (.int .i64 0)), (some [6, 25, 26, 27])⟩]
def c_slices_Concat_int64_int64_21 : ACode := .region c_slices_Concat_int64_int64_o9
abbrev c_slices_Concat_int64_int64_o10 : List AJ := [.o ⟨(some 28), none, false, .bin .lss (.t 27) (.t 26), (some [6, 25, 26, 27, 28])⟩]
def c_slices_Concat_int64_int64_22 : ACode := .region c_slices_Concat_int64_int64_o10
def c_slices_Concat_int64_int64_23 : ACode := .cond (.t 28) .skip (.exit 2)
abbrev c_slices_Concat_int64_int64_o11 : List AJ := [.o ⟨(some 29), none, false, .idxA 1 (.t 25) (.t 27), none⟩, .o ⟨(some 30), none, false, .load 1 false (.t 29), none⟩, .o ⟨(some 8), none, false, .mv (.t 30), (some [6, 8, 25, 26, 27])⟩]
def c_slices_Concat_int64_int64_24 : ACode := .region c_slices_Concat_int64_int64_o11
abbrev c_slices_Concat_int64_int64_o12 : List AJ := [.o ⟨(some 31), none, false, .mv (.t 6), none⟩, .o ⟨(some 32), none, false, .mv (.t 8), none⟩, .o ⟨(some 33), none, false, .append 1 24 (.t 31) (.t 32), none⟩, .o ⟨(some 6), none, false, .mv (.t 33), (some [6, 25, 26, 27])⟩]
def c_slices_Concat_int64_int64_25 : ACode := .region c_slices_Concat_int64_int64_o12
def c_slices_Concat_int64_int64_26 : ACode := .seq c_slices_Concat_int64_int64_24 c_slices_Concat_int64_int64_25
def c_slices_Concat_int64_int64_27 : ACode := .block 3 c_slices_Concat_int64_int64_26
abbrev c_slices_Concat_int64_int64_o13 : List AJ := [.o ⟨(some 34), none, true, .bin .add (.t 27) (.c (.int .i64 1)), none⟩, .o ⟨(some 27), none, false, .mv (.t 34), (some [6, 25, 26, 27])⟩]
def c_slices_Concat_int64_int64_28 : ACode := .region c_slices_Concat_int64_int64_o13
def c_slices_Concat_int64_int64_29 : ACode := .seq c_slices_Concat_int64_int64_27 c_slices_Concat_int64_int64_28
def c_slices_Concat_int64_int64_30 : ACode := .seq c_slices_Concat_int64_int64_23 c_slices_Concat_int64_int64_29
def c_slices_Concat_int64_int64_31 : ACode := .seq c_slices_Concat_int64_int64_22 c_slices_Concat_int64_int64_30
def c_slices_Concat_int64_int64_32 : ACode := .loop c_slices_Concat_int64_int64_31
def c_slices_Concat_int64_int64_33 : ACode := .block 2 c_slices_Concat_int64_int64_32
def c_slices_Concat_int64_int64_34 : ACode := .seq c_slices_Concat_int64_int64_21 c_slices_Concat_int64_int64_33
abbrev c_slices_Concat_int64_int64_o14 : List AJ := [.o ⟨(some 35), none, false, .mv (.t 6), none⟩, .o ⟨(some 2), none, false, .mv (.t 35), (some [2])⟩]
def c_slices_Concat_int64_int64_35 : ACode := .region c_slices_Concat_int64_int64_o14
def c_slices_Concat_int64_int64_36 : ACode := .seq c_slices_Concat_int64_int64_35 .ret
def c_slices_Concat_int64_int64_37 : ACode := .seq c_slices_Concat_int64_int64_34 c_slices_Concat_int64_int64_36
def c_slices_Concat_int64_int64_38 : ACode := .seq c_slices_Concat_int64_int64_20 c_slices_Concat_int64_int64_37
def c_slices_Concat_int64_int64_39 : ACode := .seq c_slices_Concat_int64_int64_19 c_slices_Concat_int64_int64_38
def c_slices_Concat_int64_int64_40 : ACode := .seq c_slices_Concat_int64_int64_1 c_slices_Concat_int64_int64_39
def c_slices_Concat_int64_int64_41 : ACode := .seq c_slices_Concat_int64_int64_0 c_slices_Concat_int64_int64_40
section
variable (C : Cx) (n : Nat) (sk : List AItem) (e : Env) (h : Heap) (R : AV → Heap → Prop)
@[simp, simp ↓] theorem c_slices_Concat_int64_int64_0_r : vc2 C (n + 1) [] (.code c_slices_Concat_int64_int64_0 :: sk) e h R = (vc2 C n c_slices_Concat_int64_int64_o0 sk e h R) := nr rfl
@[simp, simp ↓] theorem c_slices_Concat_int64_int64_1_r : vc2 C (n + 1) [] (.code c_slices_Concat_int64_int64_1 :: sk) e h R = (vc2 C n c_slices_Concat_int64_int64_o1 sk e h R) := nr rfl
@[simp, simp ↓] theorem c_slices_Concat_int64_int64_2_r : vc2 C (n + 1) [] (.code c_slices_Concat_int64_int64_2 :: sk) e h R = (vc2 C n c_slices_Concat_int64_int64_o2 sk e h R) := nr rfl
@[simp, simp ↓] theorem c_slices_Concat_int64_int64_3_r : vc2 C (n + 1) [] (.code c_slices_Concat_int64_int64_3 :: sk) e h R = (vc2 C n c_slices_Concat_int64_int64_o3 sk e h R) := nr rfl
@[simp, simp ↓] theorem c_slices_Concat_int64_int64_4_r : vc2 C (n + 1) [] (.code c_slices_Concat_int64_int64_4 :: sk) e h R = (condK (ev e (.t 12)) (vc2 C n [] (.code .skip :: sk) e h R) (vc2 C n [] (.code (.exit 0) :: sk) e h R)) := nr rfl
@[simp, simp ↓] theorem c_slices_Concat_int64_int64_5_r : vc2 C (n + 1) [] (.code c_slices_Concat_int64_int64_5 :: sk) e h R = (vc2 C n c_slices_Concat_int64_int64_o4 sk e h R) := nr rfl
@[simp, simp ↓] theorem c_slices_Concat_int64_int64_6_r : vc2 C (n + 1) [] (.code c_slices_Concat_int64_int64_6 :: sk) e h R = (vc2 C n c_slices_Concat_int64_int64_o5 sk e h R) := nr rfl
@[simp, simp ↓] theorem c_slices_Concat_int64_int64_7_r : vc2 C (n + 1) [] (.code c_slices_Concat_int64_int64_7 :: sk) e h R = (vc2 C n c_slices_Concat_int64_int64_o6 sk e h R) := nr rfl
@[simp, simp ↓] theorem c_slices_Concat_int64_int64_8_r : vc2 C (n + 1) [] (.code c_slices_Concat_int64_int64_8 :: sk) e h R = (condK (ev e (.t 20)) (vc2 C n [] (.code .bad :: sk) e h R) (vc2 C n [] (.code .skip :: sk) e h R)) := nr rfl
@[simp, simp ↓] theorem c_slices_Concat_int64_int64_9_r : vc2 C (n + 1) [] (.code c_slices_Concat_int64_int64_9 :: sk) e h R = (vc2 C n [] (.code c_slices_Concat_int64_int64_7 :: .code c_slices_Concat_int64_int64_8 :: sk) e h R) := nr rfl
@[simp, simp ↓] theorem c_slices_Concat_int64_int64_10_r : vc2 C (n + 1) [] (.code c_slices_Concat_int64_int64_10 :: sk) e h R = (vc2 C n [] (.code c_slices_Concat_int64_int64_6 :: .code c_slices_Concat_int64_int64_9 :: sk) e h R) := nr rfl
@[simp, simp ↓] theorem c_slices_Concat_int64_int64_11_r : vc2 C (n + 1) [] (.code c_slices_Concat_int64_int64_11 :: sk) e h R = (vc2 C n [] (.code c_slices_Concat_int64_int64_5 :: .code c_slices_Concat_int64_int64_10 :: sk) e h R) := nr rfl
@[simp, simp ↓] theorem c_slices_Concat_int64_int64_12_r : vc2 C (n + 1) [] (.code c_slices_Concat_int64_int64_12 :: sk) e h R = (vc2 C n [] (.code c_slices_Concat_int64_int64_11 :: .inBlock 1 :: sk) e h R) := nr rfl
@[simp, simp ↓] theorem c_slices_Concat_int64_int64_13_r : vc2 C (n + 1) [] (.code c_slices_Concat_int64_int64_13 :: sk) e h R = (vc2 C n c_slices_Concat_int64_int64_o7 sk e h R) := nr rfl
@[simp, simp ↓] theorem c_slices_Concat_int64_int64_14_r : vc2 C (n + 1) [] (.code c_slices_Concat_int64_int64_14 :: sk) e h R = (vc2 C n [] (.code c_slices_Concat_int64_int64_12 :: .code c_slices_Concat_int64_int64_13 :: sk) e h R) := nr rfl
@[simp, simp ↓] theorem c_slices_Concat_int64_int64_15_r : vc2 C (n + 1) [] (.code c_slices_Concat_int64_int64_15 :: sk) e h R = (vc2 C n [] (.code c_slices_Concat_int64_int64_4 :: .code c_slices_Concat_int64_int64_14 :: sk) e h R) := nr rfl
@[simp, simp ↓] theorem c_slices_Concat_int64_int64_16_r : vc2 C (n + 1) [] (.code c_slices_Concat_int64_int64_16 :: sk) e h R = (vc2 C n [] (.code c_slices_Concat_int64_int64_3 :: .code c_slices_Concat_int64_int64_15 :: sk) e h R) := nr rfl
@[simp, simp ↓] theorem c_slices_Concat_int64_int64_17_r : vc2 C (n + 1) [] (.code c_slices_Concat_int64_int64_17 :: sk) e h R = (Run2 C (.code c_slices_Concat_int64_int64_16 :: .inLoop c_slices_Concat_int64_int64_16 :: sk) e h R) := nr rfl
@[simp, simp ↓] theorem c_slices_Concat_int64_int64_18_r : vc2 C (n + 1) [] (.code c_slices_Concat_int64_int64_18 :: sk) e h R = (vc2 C n [] (.code c_slices_Concat_int64_int64_17 :: .inBlock 0 :: sk) e h R) := nr rfl
@[simp, simp ↓] theorem c_slices_Concat_int64_int64_19_r : vc2 C (n + 1) [] (.code c_slices_Concat_int64_int64_19 :: sk) e h R = (vc2 C n [] (.code c_slices_Concat_int64_int64_2 :: .code c_slices_Concat_int64_int64_18 :: sk) e h R) := nr rfl
@[simp, simp ↓] theorem c_slices_Concat_int64_int64_20_r : vc2 C (n + 1) [] (.code c_slices_Concat_int64_int64_20 :: sk) e h R = (vc2 C n c_slices_Concat_int64_int64_o8 sk e h R) := nr rfl
@[simp, simp ↓] theorem c_slices_Concat_int64_int64_21_r : vc2 C (n + 1) [] (.code c_slices_Concat_int64_int64_21 :: sk) e h R = (vc2 C n c_slices_Concat_int64_int64_o9 sk e h R) := nr rfl
@[simp, simp ↓] theorem c_slices_Concat_int64_int64_22_r : vc2 C (n + 1) [] (.code c_slices_Concat_int64_int64_22 :: sk) e h R = (vc2 C n c_slices_Concat_int64_int64_o10 sk e h R) := nr rfl
@[simp, simp ↓] theorem c_slices_Concat_int64_int64_23_r : vc2 C (n + 1) [] (.code c_slices_Concat_int64_int64_23 :: sk) e h R = (condK (ev e (.t 28)) (vc2 C n [] (.code .skip :: sk) e h R) (vc2 C n [] (.code (.exit 2) :: sk) e h R)) := nr rfl
@[simp, simp ↓] theorem c_slices_Concat_int64_int64_24_r : vc2 C (n + 1) [] (.code c_slices_Concat_int64_int64_24 :: sk) e h R = (vc2 C n c_slices_Concat_int64_int64_o11 sk e h R) := nr rfl
@[simp, simp ↓] theorem c_slices_Concat_int64_int64_25_r : vc2 C (n + 1) [] (.code c_slices_Concat_int64_int64_25 :: sk) e h R = (vc2 C n c_slices_Concat_int64_int64_o12 sk e h R) := nr rfl
@[simp, simp ↓] theorem c_slices_Concat_int64_int64_26_r : vc2 C (n + 1) [] (.code c_slices_Concat_int64_int64_26 :: sk) e h R = (vc2 C n [] (.code c_slices_Concat_int64_int64_24 :: .code c_slices_Concat_int64_int64_25 :: sk) e h R) := nr rfl
@[simp, simp ↓] theorem c_slices_Concat_int64_int64_27_r : vc2 C (n + 1) [] (.code c_slices_Concat_int64_int64_27 :: sk) e h R = (vc2 C n [] (.code c_slices_Concat_int64_int64_26 :: .inBlock 3 :: sk) e h R) := nr rfl
@[simp, simp ↓] theorem c_slices_Concat_int64_int64_28_r : vc2 C (n + 1) [] (.code c_slices_Concat_int64_int64_28 :: sk) e h R = (vc2 C n c_slices_Concat_int64_int64_o13 sk e h R) := nr rfl
@[simp, simp ↓] theorem c_slices_Concat_int64_int64_29_r : vc2 C (n + 1) [] (.code c_slices_Concat_int64_int64_29 :: sk) e h R = (vc2 C n [] (.code c_slices_Concat_int64_int64_27 :: .code c_slices_Concat_int64_int64_28 :: sk) e h R) := nr rfl
@[simp, simp ↓] theorem c_slices_Concat_int64_int64_30_r : vc2 C (n + 1) [] (.code c_slices_Concat_int64_int64_30 :: sk) e h R = (vc2 C n [] (.code c_slices_Concat_int64_int64_23 :: .code c_slices_Concat_int64_int64_29 :: sk) e h R) := nr rfl
@[simp, simp ↓] theorem c_slices_Concat_int64_int64_31_r : vc2 C (n + 1) [] (.code c_slices_Concat_int64_int64_31 :: sk) e h R = (vc2 C n [] (.code c_slices_Concat_int64_int64_22 :: .code c_slices_Concat_int64_int64_30 :: sk) e h R) := nr rfl
@[simp, simp ↓] theorem c_slices_Concat_int64_int64_32_r : vc2 C (n + 1) [] (.code c_slices_Concat_int64_int64_32 :: sk) e h R = (Run2 C (.code c_slices_Concat_int64_int64_31 :: .inLoop c_slices_Concat_int64_int64_31 :: sk) e h R) := nr rfl
@[simp, simp ↓] theorem c_slices_Concat_int64_int64_33_r : vc2 C (n + 1) [] (.code c_slices_Concat_int64_int64_33 :: sk) e h R = (vc2 C n [] (.code c_slices_Concat_int64_int64_32 :: .inBlock 2 :: sk) e h R) := nr rfl
@[simp, simp ↓] theorem c_slices_Concat_int64_int64_34_r : vc2 C (n + 1) [] (.code c_slices_Concat_int64_int64_34 :: sk) e h R = (vc2 C n [] (.code c_slices_Concat_int64_int64_21 :: .code c_slices_Concat_int64_int64_33 :: sk) e h R) := nr rfl
@[simp, simp ↓] theorem c_slices_Concat_int64_int64_35_r : vc2 C (n + 1) [] (.code c_slices_Concat_int64_int64_35 :: sk) e h R = (vc2 C n c_slices_Concat_int64_int64_o14 sk e h R) := nr rfl
@[simp, simp ↓] theorem c_slices_Concat_int64_int64_36_r : vc2 C (n + 1) [] (.code c_slices_Concat_int64_int64_36 :: sk) e h R = (vc2 C n [] (.code c_slices_Concat_int64_int64_35 :: .code .ret :: sk) e h R) := nr rfl
@[simp, simp ↓] theorem c_slices_Concat_int64_int64_37_r : vc2 C (n + 1) [] (.code c_slices_Concat_int64_int64_37 :: sk) e h R = (vc2 C n [] (.code c_slices_Concat_int64_int64_34 :: .code c_slices_Concat_int64_int64_36 :: sk) e h R) := nr rfl
@[simp, simp ↓] theorem c_slices_Concat_int64_int64_38_r : vc2 C (n + 1) [] (.code c_slices_Concat_int64_int64_38 :: sk) e h R = (vc2 C n [] (.code c_slices_Concat_int64_int64_20 :: .code c_slices_Concat_int64_int64_37 :: sk) e h R) := nr rfl
@[simp, simp ↓] theorem c_slices_Concat_int64_int64_39_r : vc2 C (n + 1) [] (.code c_slices_Concat_int64_int64_39 :: sk) e h R = (vc2 C n [] (.code c_slices_Concat_int64_int64_19 :: .code c_slices_Concat_int64_int64_38 :: sk) e h R) := nr rfl
@[simp, simp ↓] theorem c_slices_Concat_int64_int64_40_r : vc2 C (n + 1) [] (.code c_slices_Concat_int64_int64_40 :: sk) e h R = (vc2 C n [] (.code c_slices_Concat_int64_int64_1 :: .code c_slices_Concat_int64_int64_39 :: sk) e h R) := nr rfl
@[simp, simp ↓] theorem c_slices_Concat_int64_int64_41_r : vc2 C (n + 1) [] (.code c_slices_Concat_int64_int64_41 :: sk) e h R = (vc2 C n [] (.code c_slices_Concat_int64_int64_0 :: .code c_slices_Concat_int64_int64_40 :: sk) e h R) := nr rfl
end
noncomputable def c_slices_Concat_int64_int64_C (orc : Orc) : Cx := ⟨Try.prog, [], 129, 36, [.tmp 2], orc⟩
@[simp] theorem c_slices_Concat_int64_int64_C_P (orc : Orc) : (c_slices_Concat_int64_int64_C orc).P = Try.prog := nr rfl
@[simp] theorem c_slices_Concat_int64_int64_C_o (orc : Orc) : (c_slices_Concat_int64_int64_C orc).orc = orc := nr rfl
@[simp] theorem c_slices_Concat_int64_int64_C_r (orc : Orc) : (c_slices_Concat_int64_int64_C orc).res = [.tmp 2] := nr rfl
theorem c_slices_Concat_int64_int64_of {args : List AV} {h : Heap} {R : AV → Heap → Prop} {k : Nat} (ha : args.length = k) {orc : Orc} (hp : Pure Try.prog orc) (hk : Is (c_slices_Concat_int64_int64_C orc) Try.f129 → Run2 (c_slices_Concat_int64_int64_C orc) [.code c_slices_Concat_int64_int64_41] (argEnv 0 args) h (Post R)) (hle : k ≤ 36 := by simp) : ACalls Try.prog 129 args h R :=
  contract2 [] c_slices_Concat_int64_int64_41 [.tmp 2] Try.func129 (by decide +kernel) rfl (by kernel_rfl) (by rw [ha]; exact hle) (by kernel_rfl) hp hk
theorem c_slices_Concat_int64_int64_of0 {args : List AV} {h : Heap} {R : AV → Heap → Prop} {k : Nat} (ha : args.length = k) {orc : Orc} (hp : Pure Try.prog orc) (hk : Is (c_slices_Concat_int64_int64_C orc) Try.f129 → Run2 (c_slices_Concat_int64_int64_C orc) [.code c_slices_Concat_int64_int64_41] (argEnv 0 args) h R) (hle : k ≤ 36 := by simp) : ACalls Try.prog 129 args h R :=
  contract20 [] c_slices_Concat_int64_int64_41 [.tmp 2] Try.func129 (by decide +kernel) rfl (by kernel_rfl) (by rw [ha]; exact hle) (by kernel_rfl) hp hk
theorem ConcatLL_g (parts : List (List AV)) (h : Heap) (hl : parts.length ≤ 1048576) (ht : parts.flatten.length ≤ 1048576) : ACalls Try.prog 129 [.snap 1 (parts.map (.snap 1))] h (fun v h' => ∃ hp, GrowX 1 v parts.flatten hp ∧ h' = hp ++ h) := by
  have hfl : ∀ i, (parts.take i).flatten.length ≤ parts.flatten.length := fun i => by
    conv => rhs; rw [← List.take_append_drop i parts]
    rw [List.flatten_append, List.length_append]; omega
  have hfs : ∀ i (hi : i < parts.length), (parts.take (i + 1)).flatten = (parts.take i).flatten ++ parts[i] := fun i hi => by
    rw [List.take_succ_eq_append_getElem hi, List.flatten_append]; simp
  refine c_slices_Concat_int64_int64_of0 rfl noPure fun I => ?_
  refine Run2.of I 1000 ?_
  simp -implicitDefEqProofs
  refine Run2.loopE (fun (i : Nat) => [(0, .snap 1 (parts.map (.snap 1))), (3, .int .i64 ((parts.take i).flatten.length : Nat)), (9, .snap 1 (parts.map (.snap 1))), (10, .int .i64 parts.length), (11, .int .i64 i)]) (fun i => h) (fun i => parts.length - i) (fun i => i ≤ parts.length) 0 (by simp) rfl (Nat.zero_le _) fun i hi ih => ?_
  by_cases hlt : i < parts.length
  · have go := ih (i + 1) (by omega) (by omega)
    have h1 := hfl (i + 1)
    rw [hfs i hlt, List.length_append] at go h1
    clear ih
    generalize hL : (parts.take i).flatten.length = L at *
    generalize hP : parts[i] = p at *
    refine Run2.of I 1000 ?_
    simp -implicitDefEqProofs [hlt, hP]
    refine ⟨by omega, by omega, fun _ => ⟨by omega, ?_⟩⟩
    simpa using go
  · obtain rfl : i = parts.length := by omega
    rw [List.take_length]
    refine Run2.of I 1000 ?_
    simp -implicitDefEqProofs
    have hS : (parts.map List.length).sum ≤ 1048576 := by rw [← List.length_flatten]; exact ht
    refine (GrowLL_g _ h hS).mono ?_
    rintro v h' ⟨hp0, g0, rfl⟩
    have hcell0 := g0.cell
    refine gK.go ?_
    simp -implicitDefEqProofs [hcell0]
    refine Run2.loopE (α := Nat × AV × Heap) (fun s => [(6, s.2.1), (25, .snap 1 (parts.map (.snap 1))), (26, .int .i64 parts.length), (27, .int .i64 (s.1 : Nat))]) (fun s => s.2.2 ++ h) (fun s => parts.length - s.1) (fun s => s.1 ≤ parts.length ∧ GrowX 1 s.2.1 (parts.take s.1).flatten s.2.2) (0, v, hp0) (by simp) rfl ⟨Nat.zero_le _, by simpa using g0⟩ ?_
    rintro ⟨i, w, hp⟩ ⟨hi2, hg⟩ ih2
    simp only at hi2 hg
    have hcell := hg.cell
    by_cases hlt : i < parts.length
    · have go := fun w' hp' (g : GrowX 1 w' ((parts.take i).flatten ++ parts[i]) hp') => ih2 (i + 1, w', hp') ⟨hlt, by simp only; rw [hfs i hlt]; exact g⟩ (by simp; omega)
      have h1 := hfl (i + 1)
      rw [hfs i hlt, List.length_append] at h1
      clear ih2
      generalize hP : parts[i] = p at *
      refine Run2.of I 1000 ?_
      simp -implicitDefEqProofs [hlt, hP, hcell]
      refine hg.app (by omega) fun w' hp' hg' => ?_
      have hcell' := hg'.cell
      simp -implicitDefEqProofs [hcell']
      refine ⟨by omega, ?_⟩
      simpa using go w' hp' hg'
    · obtain rfl : i = parts.length := by omega
      rw [List.take_length] at hg
      refine Run2.of I 1000 ?_
      simp -implicitDefEqProofs [hcell]
      exact hg
theorem flatten2 (a b : List AV) : [a, b].flatten = a ++ b := by simp
end Go.AG
