/- A complex in order, copied: the program and the reference give the same again. No statement is made here. -/
import Derived.Test.YtamjnegnoijjlaaFxG
import Derived.Test.YtamjnegnoijjlaaFxU
namespace Go.AG
open Go.Proofs Go.Proofs.Ytamjnegnoijjlaa
set_option linter.unusedSimpArgs false
set_option linter.unusedVariables false
set_option maxRecDepth 4000
abbrev k109_o0 : List AJ := [.o ⟨(some 2), none, false, .mv (.c .nilsl), (some [0])⟩]
abbrev k109_o1 : List AJ := [.o ⟨(some 3), none, false, .mv (.t 0), none⟩, .o ⟨(some 4), none, false, .eqn 0 false (.t 3), (some [0, 4])⟩]
abbrev k109_o2 : List AJ := [.o ⟨(some 2), none, false, .mv (.c .nilsl), (some [2])⟩]
def k109_3 : ACode := .seq (.region k109_o2) .ret
def k109_4 : ACode := .cond (.t 4) k109_3 .skip
def k109_5 : ACode := .seq (.region k109_o1) k109_4
abbrev k109_o3 : List AJ := [.e 5 1 none, .o ⟨(some 6), none, false, .mv (.t 0), none⟩, .o ⟨(some 7), none, false, .append 1 8 (.t 5) (.t 6), none⟩, .o ⟨(some 2), none, false, .mv (.t 7), (some [2])⟩]
def k109_7 : ACode := .seq (.region k109_o3) .ret
def k109_8 : ACode := .seq k109_5 k109_7
def k109_9 : ACode := .seq (.region k109_o0) k109_8
@[simp, simp ↓] theorem k109_3r : sR k109_3 k109_o2 .ret := yR rfl
@[simp, simp ↓] theorem k109_4r : rC k109_4 (.t 4) k109_3 .skip := zC rfl
@[simp, simp ↓] theorem k109_5r : sR k109_5 k109_o1 k109_4 := yR rfl
@[simp, simp ↓] theorem k109_7r : sR k109_7 k109_o3 .ret := yR rfl
@[simp, simp ↓] theorem k109_8r : rS k109_8 k109_5 k109_7 := zS rfl
@[simp, simp ↓] theorem k109_9r : sR k109_9 k109_o0 k109_8 := yR rfl
noncomputable abbrev k109_C : Orc → Cx := mkC Try.prog [5] 109 8 [.tmp 2]
theorem k109_of0 : OfP0 Try.prog Try.f109 109 8 k109_C k109_9 := @ofP0 _ _ _ _ _ _ _ _ Try.func109 (by decide +kernel) rfl (by kernel_rfl) rfl (by kernel_rfl)
theorem Clone_w (l : List Int) (h : Heap) (hl : l.length ≤ 1048576) : ACalls Try.prog 109 [.snap 1 (l.map iv)] h (fun v h' => ∃ hp, Grow 1 v (l.map iv) hp ∧ h' = hp ++ h) := by
  refine k109_of0 rfl noPure fun I => ?_
  cases l with
  | nil =>
    refine Run2.of I 1000 ?_
    simp -implicitDefEqProofs
    exact ⟨.nil, .emp⟩
  | cons a l =>
    refine Run2.of I 1000 ?_
    simp -implicitDefEqProofs
    refine ⟨by simp at hl; omega, fun id hid => ⟨[(id, _)], .sl id _ _ (by simp), rfl⟩⟩
/-- Slices in blocks of their own, in whatever order these stand. -/
def OwnP (us : List AV) (rs : List (List Int)) (hp : Heap) : Prop := ∃ hi, OwnLs us rs hi ∧ hp.Perm hi
theorem OwnP.app {us : List AV} {rs : List (List Int)} {hp : Heap} (o : OwnP us rs hp) {u : AV} {r : List Int} {h1 : Heap} (o1 : OwnL iv 1 u r h1) (hd : ∀ i ∈ dom h1, i ∉ dom hp) : OwnP (us ++ [u]) (rs ++ [r]) (h1 ++ hp) := by
  obtain ⟨hi, o, p⟩ := o
  refine ⟨hi ++ h1, o.append (.one o1) fun i hi hm => hd i hm ?_, ?_⟩
  · exact ((p.map (·.1)).mem_iff).2 hi
  · exact List.perm_append_comm.trans (p.append_right h1)
theorem OwnLL.of_grow {w : AV} {us : List AV} {rs : List (List Int)} {hp hi : Heap} (g : Grow 1 w us hp) (o : OwnP us rs hi) (nd : (dom (hp ++ hi)).Nodup) : ∃ h', (hp ++ hi).Perm h' ∧ OwnLL w rs h' := by
  obtain ⟨hj, o, p⟩ := o
  cases g with
  | nil =>
    cases o
    exact ⟨[], by simpa using p, .nil⟩
  | emp =>
    cases o
    exact ⟨[], by simpa using p, .emp⟩
  | sl id us n hn =>
    subst hn
    refine ⟨(id, ⟨1, us ++ []⟩) :: hj, by simpa using p, .sl id _ none [] (by rw [o.len]) rfl o fun hm => ?_⟩
    have h1 : id ∈ dom hi := ((p.map (·.1)).mem_iff).2 hm
    simp only [List.cons_append, List.nil_append, dom_cons, List.nodup_cons] at nd
    exact nd.1 h1
abbrev k118_o0 : List AJ := [.o ⟨(some 2), none, false, .mv (.c .nilsl), (some [0])⟩]
abbrev k118_o1 : List AJ := [.o ⟨(some 3), none, false, .mv (.c .nilsl), (some [0, 3])⟩]
abbrev k118_o2 : List AJ := [.o ⟨(some 6), none, false, .mv (.t 0), none⟩, .o ⟨(some 7), none, false, .len (.t 6), none⟩, .o ⟨(some 8), none, false, .mv (.c (.int .i64 0)), (some [3, 6, 7, 8])⟩]
abbrev k118_o3 : List AJ := [.o ⟨(some 9), none, false, .bin .lss (.t 8) (.t 7), (some [3, 6, 7, 8, 9])⟩]
abbrev k118_o4 : List AJ := [.o ⟨(some 10), none, false, .idxA 1 (.t 6) (.t 8), none⟩, .o ⟨(some 11), none, false, .load 1 false (.t 10), none⟩, .o ⟨(some 5), none, false, .mv (.t 11), (some [3, 5, 6, 7, 8])⟩]
abbrev k118_o5 : List AJ := [.o ⟨(some 12), none, false, .mv (.t 3), none⟩, .o ⟨(some 13), none, false, .mv (.t 5), none⟩, .o ⟨(some 14), none, false, .call 109 [(.t 13)], none⟩, .o ⟨(some 15), none, false, .bsl false 1 [(.t 14)], none⟩, .o ⟨(some 16), none, false, .append 1 24 (.t 12) (.t 15), none⟩, .o ⟨(some 3), none, false, .mv (.t 16), (some [3, 6, 7, 8])⟩]
def k118_6 : ACode := .region k118_o5
def k118_7 : ACode := .seq (.region k118_o4) k118_6
abbrev k118_o6 : List AJ := [.o ⟨(some 17), none, true, .bin .add (.t 8) (.c (.int .i64 1)), none⟩, .o ⟨(some 8), none, false, .mv (.t 17), (some [3, 6, 7, 8])⟩]
def k118_9 : ACode := .region k118_o6
def k118_10 : ACode := .seq (.block 1 k118_7) k118_9
def k118_11 : ACode := .seq (.cond (.t 9) .skip (.exit 0)) k118_10
def k118_12 : ACode := .seq (.region k118_o3) k118_11
def k118_13 : ACode := .loop k118_12
def k118_14 : ACode := .block 0 k118_13
def k118_15 : ACode := .seq (.region k118_o2) k118_14
abbrev k118_o7 : List AJ := [.o ⟨(some 18), none, false, .mv (.t 3), none⟩, .o ⟨(some 2), none, false, .mv (.t 18), (some [2])⟩]
def k118_17 : ACode := .seq (.region k118_o7) .ret
def k118_18 : ACode := .seq k118_15 k118_17
def k118_19 : ACode := .seq (.region k118_o1) k118_18
def k118_20 : ACode := .seq (.region k118_o0) k118_19
@[simp, simp ↓] theorem k118_6r : rR k118_6 k118_o5 := zR rfl
@[simp, simp ↓] theorem k118_7r : sR k118_7 k118_o4 k118_6 := yR rfl
@[simp, simp ↓] theorem k118_9r : rR k118_9 k118_o6 := zR rfl
@[simp, simp ↓] theorem k118_10r : sB k118_10 1 k118_7 k118_9 := yB rfl
@[simp, simp ↓] theorem k118_11r : sC k118_11 (.t 9) .skip (.exit 0) k118_10 := yC rfl
@[simp, simp ↓] theorem k118_12r : sR k118_12 k118_o3 k118_11 := yR rfl
@[simp, simp ↓] theorem k118_13r : rL k118_13 k118_12 := zL rfl
@[simp, simp ↓] theorem k118_14r : rB k118_14 0 k118_13 := zB rfl
@[simp, simp ↓] theorem k118_15r : sR k118_15 k118_o2 k118_14 := yR rfl
@[simp, simp ↓] theorem k118_17r : sR k118_17 k118_o7 .ret := yR rfl
@[simp, simp ↓] theorem k118_18r : rS k118_18 k118_15 k118_17 := zS rfl
@[simp, simp ↓] theorem k118_19r : sR k118_19 k118_o1 k118_18 := yR rfl
@[simp, simp ↓] theorem k118_20r : sR k118_20 k118_o0 k118_19 := yR rfl
noncomputable abbrev k118_C : Orc → Cx := mkC Try.prog [] 118 19 [.tmp 2]
theorem k118_of0 : OfP0 Try.prog Try.f118 118 19 k118_C k118_20 := @ofP0 _ _ _ _ _ _ _ _ Try.func118 (by decide +kernel) rfl (by kernel_rfl) rfl (by kernel_rfl)
theorem copyLists_o (rs : List (List Int)) (hr : ssTot rs ≤ 1048576) : ACalls Try.prog 118 [.snap 1 (rs.map il)] [] (fun v h' => OwnLL v rs h') := by
  have hn := (fit_of_tot hr).1
  refine ACalls.permR ?_
  refine k118_of0 rfl noPure fun I => ?_
  refine Run2.of I 1000 ?_
  simp -implicitDefEqProofs
  refine Run2.loopE (α := Nat × AV × List AV × Heap × Heap) (fun s => [(3, s.2.1), (6, .snap 1 (rs.map il)), (7, .int .i64 rs.length), (8, .int .i64 (s.1 : Nat))]) (fun s => s.2.2.2.1 ++ s.2.2.2.2) (fun s => rs.length - s.1) (fun s => s.1 ≤ rs.length ∧ Grow 1 s.2.1 s.2.2.1 s.2.2.2.1 ∧ OwnP s.2.2.1 (rs.take s.1) s.2.2.2.2) (0, .nilsl, [], [], []) (by simp) rfl ⟨Nat.zero_le _, .nil, [], .nil, .refl _⟩ ?_
  rintro ⟨i, w, us, hp, hi⟩ ⟨hin, hg, ho⟩ ih
  simp only at hin hg ho
  have hcell := hg.cell
  have hul : us.length = i := by
    obtain ⟨hj, o, _⟩ := ho
    rw [o.len, List.length_take]; omega
  by_cases hlt : i < rs.length
  · have hrl := (fit_of_tot hr).2 _ (List.getElem_mem hlt)
    refine Run2.of I 1000 ?_
    simp -implicitDefEqProofs [hlt]
    refine (Clone_w rs[i] _ hrl).monoN ?_
    rintro v h' ⟨hc, G, rfl⟩ nd
    have hvcell := G.cell
    have hst := stor_of hvcell
    have hcl : (cellsOf v).length = 1 := by rw [cells_of hvcell]; rfl
    rw [dom_append, List.nodup_append] at nd
    have hd1 : ∀ j ∈ dom hp, j ∉ dom hc := fun j hj hm => nd.2.2 j hm j (by rw [dom_append]; exact List.mem_append_left _ hj) rfl
    have hd2 : ∀ j ∈ dom hc, j ∉ dom hi := fun j hj hm => nd.2.2 j hj j (by rw [dom_append]; exact List.mem_append_right _ hm) rfl
    refine gK.go ?_
    simp -implicitDefEqProofs [hcell, hst, hcl]
    refine hg.app_mid (pre := hc) (post := hi) hd1 (by simp; omega) (by simp) fun w' hp' hg' hd' => ?_
    have hcell' := hg'.cell
    have go := ih (i + 1, w', us ++ [v], hp', hc ++ hi) ⟨hlt, hg', by
      simp only
      rw [List.take_succ_eq_append_getElem hlt]
      exact ho.app G.own hd2⟩ (by simp; omega)
    simp -implicitDefEqProofs [hcell']
    refine ⟨by omega, ?_⟩
    simpa using go
  · obtain rfl : i = rs.length := by omega
    rw [List.take_length] at ho
    refine Run2.of I 1000 ?_
    simp -implicitDefEqProofs [hcell]
    intro nd
    simpa using OwnLL.of_grow hg ho (by simpa using nd)
theorem OwnLs.isLs {us : List AV} {rs : List (List Int)} {hp : Heap} (h : OwnLs us rs hp) : All2 (IsL iv 1) (us.map (lend1 hp)) rs := h.lentIn (fun p hp => hp) h.nodup
theorem All2.at {α β : Type} {p : α → β → Prop} {xs : List α} {ys : List β} (h : All2 p xs ys) : ∀ {i : Nat} (hx : i < xs.length) (hy : i < ys.length), p xs[i] ys[i] := by
  induction h with
  | nil => intro i hx; simp at hx
  | cons h1 _ ih =>
    intro i hx hy
    cases i with
    | zero => exact h1
    | succ i => exact ih (by simpa using hx) (by simpa using hy)
theorem OwnLs.isAt {us : List AV} {rs : List (List Int)} {hp : Heap} (h : OwnLs us rs hp) {i : Nat} (hu : i < us.length) (hr : i < rs.length) : IsL iv 1 (lend1 hp us[i]) rs[i] := by
  have := h.isLs.at (i := i) (by simpa using hu) hr
  simpa using this
theorem srt_of {id : Nat} {us ex : List AV} {rs : List (List Int)} {hi : Heap} (tl : Heap) (o : OwnLs us rs hi) (h48 : rs.length ≤ 48) (hs : sortS rs) (ht : ssTot rs ≤ 1048576) : Srt Try.prog id us ex 101 ((id, ⟨1, us ++ ex⟩) :: (hi ++ tl)) := by
  have hl := o.len
  refine ⟨by simp [hget], by omega, fun i h => o.cell _ (List.getElem_mem h), fun i j hi' hj hji => ?_⟩
  have h1 : i < rs.length := by omega
  have h2 : j < rs.length := by omega
  have hr := (fit_of_tot ht).2 _ (List.getElem_mem h1)
  refine ⟨cmpS rs[i] rs[j], ?_, ?_⟩
  · have := hs.lt hji h1
    have := cmpS_total rs[i] rs[j]
    omega
  · refine ACalls.reads hi (fun p hp => List.mem_cons_of_mem _ (List.mem_append_left _ hp)) ?_ rfl
    rw [lend_cons, lend_cons, lend_nil']
    exact ACalls.wk (.cons (o.isAt hi' h1).wk (.cons (o.isAt hj h2).wk .nil)) (cmpS_s rs[i] rs[j] [] hr)
theorem cmp_of {id : Nat} {us ex : List AV} {rs : List (List Int)} {hi : Heap} (tl : Heap) (o : OwnLs us rs hi) (hs : sortS rs) (ht : ssTot rs ≤ 1048576) : Cmp Try.prog id us ex 121 ((id, ⟨1, us ++ ex⟩) :: (hi ++ tl)) := by
  have hl := o.len
  have hf := fit_of_tot ht
  refine ⟨by simp [hget], by have := hf.1; omega, fun i h => o.cell _ (List.getElem_mem h), fun i h => ?_⟩
  have h1 : i + 1 < rs.length := by omega
  have h2 : i < rs.length := by omega
  have hr := hf.2 _ (List.getElem_mem h1)
  have hne : decide (rs[i + 1] = rs[i]) = false := by
    rw [decide_eq_false_iff_not]
    intro e
    have := hs i h1
    rw [e] at this
    have := (cmpS_zero rs[i] rs[i]).2 rfl
    omega
  have hu : i < us.length := by omega
  refine ACalls.reads hi (fun p hp => List.mem_cons_of_mem _ (List.mem_append_left _ hp)) ?_ rfl
  rw [lend_cons, lend_cons, lend_nil']
  have := equal_s rs[i + 1] rs[i] [] hr
  rw [hne] at this
  exact ACalls.wk (.cons (o.isAt h h1).wk (.cons (o.isAt hu h2).wk .nil)) this
theorem insS0 (u : AV) (hu : u = .nilsl ∨ u = .emp) (g : FuncId) (H : Heap) : ACalls Try.prog 156 [u, .int .i64 0, .int .i64 0, .fn g []] H (fun v h' => v = .tup [] ∧ h' = H) := by
  refine k156_of0 rfl noPure fun I => ?_
  refine Run2.of I 1000 ?_
  simp -implicitDefEqProofs
  refine Run2.loopE (fun (i : Unit) => [(0, u), (1, .int .i64 0), (2, .int .i64 0), (3, .fn g []), (8, .int .i64 1)]) (fun _ => H) (fun i => 0) (fun i => True) () (by simp) rfl trivial fun i hi ih => ?_
  refine Run2.of I 1000 ?_
  simp -implicitDefEqProofs
theorem pdqS0 (u : AV) (hu : u = .nilsl ∨ u = .emp) (g : FuncId) (H : Heap) (L : Int) : ACalls Try.prog 140 [u, .int .i64 0, .int .i64 0, .int .i64 L, .fn g []] H (fun v h' => v = .tup [] ∧ h' = H) := by
  refine k140_of0 rfl noPure fun I => ?_
  refine Run2.of I 1000 ?_
  simp -implicitDefEqProofs
  refine Run2.loopE (fun (_ : Unit) => [(0, u), (1, .int .i64 0), (2, .int .i64 0), (3, .int .i64 L), (4, .fn g []), (10, .bool true), (11, .bool true)]) (fun _ => H) (fun _ => 0) (fun _ => True) () (by simp) rfl trivial fun _ _ _ => ?_
  refine Run2.of I 1000 ?_
  simp -implicitDefEqProofs
  refine (insS0 u hu g H).mono ?_
  rintro v h' ⟨rfl, rfl⟩
  refine gK.go ?_
  simp -implicitDefEqProofs
theorem sortS0 (u : AV) (hu : u = .nilsl ∨ u = .emp) (g : FuncId) (H : Heap) : ACalls Try.prog 119 [u, .fn g []] H (fun v h' => v = .tup [] ∧ h' = H) := by
  have hl : lenR u = .val (.int .i64 0) := by rcases hu with rfl | rfl <;> simp
  refine k119_of0 rfl noPure fun I => ?_
  have hw := arR_u64 (w := true) (n := 0) (by omega) (by omega)
  refine Run2.of I 1000 ?_
  simp -implicitDefEqProofs [hl, hw]
  refine (lenS 0 H (by omega)).mono ?_
  rintro v h' ⟨L, rfl, _, rfl⟩
  refine gK.go ?_
  simp -implicitDefEqProofs
  refine (pdqS0 u hu g _ L).mono ?_
  rintro v h' ⟨rfl, rfl⟩
  refine gK.go ?_
  simp -implicitDefEqProofs
theorem compact0 (u : AV) (hu : u = .nilsl ∨ u = .emp) (g : FuncId) (H : Heap) : ACalls Try.prog 120 [u, .fn g []] H (fun v h' => v = u ∧ h' = H) := by
  have hl : lenR u = .val (.int .i64 0) := by rcases hu with rfl | rfl <;> simp
  have hc : isCell u = true := by rcases hu with rfl | rfl <;> rfl
  refine k120_of0 rfl noPure fun I => ?_
  refine Run2.of I 1000 ?_
  simp -implicitDefEqProofs [hl, hc]
/-- In order already: sorting and joining equal ones changes nothing. -/
theorem sortL_s {v : AV} {rs : List (List Int)} {g : Heap} (o : OwnLL v rs g) (tl : Heap) (h48 : rs.length ≤ 48) (hs : sortS rs) (ht : ssTot rs ≤ 1048576) :
    ACalls Try.prog 119 [v, .fn 101 []] (g ++ tl) (fun r h' => r = .tup [] ∧ h' = g ++ tl) ∧
    ACalls Try.prog 120 [v, .fn 121 []] (g ++ tl) (fun r h' => r = v ∧ h' = g ++ tl) := by
  cases o with
  | nil => exact ⟨sortS0 _ (.inl rfl) _ _, compact0 _ (.inl rfl) _ _⟩
  | emp => exact ⟨sortS0 _ (.inr rfl) _ _, compact0 _ (.inr rfl) _ _⟩
  | @sl us rs hi id n cap ex hn hex o hid =>
    have hl := o.len
    obtain rfl : n = us.length := by omega
    exact ⟨sortS_s (srt_of tl o h48 hs ht), compact_s (cmp_of tl o hs ht)⟩
abbrev k75_o0 : List AJ := [.o ⟨(some 2), none, false, .alloc true 1 (.agg [.nilsl]), (some [0, 2])⟩]
abbrev k75_o1 : List AJ := [.o ⟨(some 4), none, false, .mv (.t 0), none⟩, .o ⟨(some 5), none, false, .call 118 [(.t 4)], none⟩, .o ⟨(some 3), none, false, .mv (.t 5), (some [2, 3])⟩]
abbrev k75_o2 : List AJ := [.o ⟨(some 6), none, false, .mv (.t 3), none⟩, .o ⟨(some 7), none, false, .call 119 [(.t 6), (.c (.fn 101 []))], (some [2, 3])⟩]
abbrev k75_o3 : List AJ := [.o ⟨(some 8), none, false, .mv (.t 3), none⟩, .o ⟨(some 9), none, false, .call 120 [(.t 8), (.c (.fn 121 []))], none⟩, .o ⟨(some 10), none, false, .build [.nilsl] [(0, 1, (.t 9))], none⟩, .o ⟨none, none, false, .store 1 (.t 2) (.t 10), (some [2])⟩]
def k75_4 : ACode := .seq (.region k75_o3) .ret
def k75_5 : ACode := .seq (.region k75_o2) k75_4
def k75_6 : ACode := .seq (.region k75_o1) k75_5
def k75_7 : ACode := .seq (.region k75_o0) k75_6
@[simp, simp ↓] theorem k75_4r : sR k75_4 k75_o3 .ret := yR rfl
@[simp, simp ↓] theorem k75_5r : sR k75_5 k75_o2 k75_4 := yR rfl
@[simp, simp ↓] theorem k75_6r : sR k75_6 k75_o1 k75_5 := yR rfl
@[simp, simp ↓] theorem k75_7r : sR k75_7 k75_o0 k75_6 := yR rfl
noncomputable abbrev k75_C : Orc → Cx := mkC Try.prog [2] 75 11 [.cell 2 1 true]
theorem k75_of : OfP Try.prog Try.f75 75 11 k75_C k75_7 := @ofP _ _ _ _ _ _ _ _ Try.func75 (by decide +kernel) rfl (by kernel_rfl) rfl (by kernel_rfl)
theorem inOrder_o (rs : List (List Int)) (hr : ssTot rs ≤ 1048576) (h48 : rs.length ≤ 48) (hs : sortS rs) : ACalls Try.prog 75 [.snap 1 (rs.map il)] [] (fun v h' => OwnCx v rs h') := by
  refine k75_of rfl noPure fun I => ?_
  refine Run2.of I 1000 ?_
  simp -implicitDefEqProofs
  intro t
  refine (ACalls.gives [] (by simp) (copyLists_o rs hr) fun v h' o => o.own).mono ?_
  rintro v h' ⟨g, o, hd, rfl⟩
  have hcell := o.cell
  have hst := stor_of hcell
  have hcl := cells_of hcell
  have ht : t ∉ dom g := fun hm => hd t hm (by simp [dom])
  have hg : ∀ z, hget (g ++ z) t = hget z t := fun z => hget_app ht
  have hs' : ∀ z c, hset (g ++ z) t c = g ++ hset z t c := fun z c => hset_app ht
  obtain ⟨s1, s2⟩ := sortL_s o [(t, ⟨1, [.agg [.nilsl]]⟩)] h48 hs hr
  refine gK.go ?_
  simp -implicitDefEqProofs [hcell, hst, hcl]
  refine s1.mono ?_
  rintro r h' ⟨rfl, rfl⟩
  refine gK.go ?_
  simp -implicitDefEqProofs [hcell, hst, hcl]
  refine s2.mono ?_
  rintro r h' ⟨rfl, rfl⟩
  refine gK.go ?_
  simp -implicitDefEqProofs [hcell, hst, hcl, hg, hs']
  refine .drop t (.base ?_)
  rw [hdel_app ht]
  exact ⟨_, rfl, by simpa [hdel] using o⟩
theorem Grow.lentWk {sz : Nat} {w : AV} {l : List AV} {hp : Heap} (G : Grow sz w l hp) : Wk (lend1 hp w) (.snap sz l) := by
  cases G with
  | nil => exact Wk.nil sz
  | emp => exact Wk.emp sz
  | sl id l n hn =>
    subst hn
    have : lend1 [(id, (⟨sz, l⟩ : Blk))] (.sl id sz 0 l.length none) = .snap sz l := by simp [lend1, fz]
    rw [this]
    exact Wk.refl _
/-- The same, of a slice in blocks that may be written. -/
theorem inOrder_g {w : AV} {rs : List (List Int)} {hp : Heap} (G : Grow 1 w (rs.map il) hp) (h : Heap) (hr : ssTot rs ≤ 1048576) (h48 : rs.length ≤ 48) (hs : sortS rs) : ACalls Try.prog 75 [w] (hp ++ h) (fun v h' => ∃ g, OwnCx v rs g ∧ (∀ i ∈ dom g, i ∉ dom (hp ++ h)) ∧ h' = g ++ (hp ++ h)) := by
  refine ACalls.gives hp (fun p hp => List.mem_append_left _ hp) ?_ fun v h' o => o.own
  rw [lend_cons, lend_nil']
  refine ACalls.wk (.cons ?_ .nil) (inOrder_o rs hr h48 hs)
  exact G.lentWk
end Go.AG
