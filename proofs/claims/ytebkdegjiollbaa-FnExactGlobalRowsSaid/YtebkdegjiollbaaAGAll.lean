/- Our own small layer: a function's conditions, proved, are its contract. No statement about the program is made here. -/
import Derived.Test.YtebkdegjiollbaaAGDraw
namespace Go.AG
open Go.RowKit
section
variable {C : Cx} {e : Env} {h : Heap} {w0 : World} {D0 : List Nat} {tmps : Array Value} {w : World} {R : AV → Heap → Prop} {cs : List Frame}

def cnt : List Bool → Nat
  | [] => 0
  | true :: l => cnt l + 1
  | false :: l => cnt l
theorem cnt_le : ∀ l : List Bool, cnt l ≤ l.length
  | [] => Nat.le_refl _
  | true :: l => by simp [cnt, cnt_le l]
  | false :: l => by have := cnt_le l; simp only [cnt, List.length_cons]; omega
theorem cnt_all : ∀ (l : List Bool), cnt l = l.length → ∀ (j : Nat) (b : Bool), l[j]? = some b → b = true
  | [], _, j, b, h => by simp at h
  | true :: l, hc, j, b, h => by
    cases j with
    | zero => simp at h; exact h.symm ▸ rfl
    | succ j => exact cnt_all l (by simpa [cnt] using hc) j b (by simpa using h)
  | false :: l, hc, _, _, _ => by have := cnt_le l; simp only [cnt, List.length_cons] at hc; omega
theorem cnt_set : ∀ (l : List Bool) (j : Nat), l[j]? = some false → cnt (l.set j true) = cnt l + 1
  | [], j, h => by simp at h
  | b :: l, 0, h => by simp at h; subst h; simp [cnt]
  | true :: l, j + 1, h => by simp only [List.set_cons_succ, cnt]; rw [cnt_set l j (by simpa using h)]
  | false :: l, j + 1, h => by simp only [List.set_cons_succ, cnt]; rw [cnt_set l j (by simpa using h)]

/-- What stands before an operation that can come next has all come. -/
theorem ready_bef {ops : Array Oper} {listed : Array Bool} (hedge : ∀ (j : Nat) (o : Oper), ops[j]? = some o → ∀ e ∈ o.after, Region.binds .any e = true → e.on < j) (hcl : Closed ops listed) {j m : Nat} (hj : j ∈ Region.ready .any ops listed) (hm : ((Region.before ops).getD j 0).testBit m = true) :
    listed.getD m false = true := by
  obtain ⟨_, o, ho, hafter⟩ := mem_ready.1 hj
  obtain ⟨ed, he, hb, h⟩ := before_spec ho (fun e he => hedge j o ho e he) hm
  have := hafter ed he hb
  rcases h with rfl | h
  · exact this
  · exact hcl _ _ this h
theorem cnt_split : ∀ (l : List Bool) (p : Nat), p ≤ l.length → (∀ j, j < p → l[j]? = some true) → (∀ j, p ≤ j → l[j]? ≠ some true) → cnt l = p
  | [], p, h, _, _ => by simp only [List.length_nil, Nat.le_zero] at h; subst h; rfl
  | b :: l, 0, _, _, h2 => by
    have hb : b = false := by cases b; rfl; exact absurd rfl (h2 0 (Nat.le_refl _))
    subst hb
    exact cnt_split l 0 (Nat.zero_le _) (fun j hj => absurd hj (Nat.not_lt_zero _)) fun j _ => h2 (j + 1) (Nat.zero_le _)
  | b :: l, p + 1, h, h1, h2 => by
    have hb : b = true := by have := h1 0 (Nat.zero_lt_succ _); simpa using this
    subst hb
    simp only [cnt]
    rw [cnt_split l p (by simpa using h) (fun j hj => by have := h1 (j + 1) (by omega); simpa using this) fun j hj => by have := h2 (j + 1) (by omega); simpa using this]
theorem getD_iff {a : Array Bool} {j : Nat} : a.getD j false = true ↔ a[j]? = some true := by
  simp only [Array.getD_eq_getD_getElem?]
  cases a[j]? <;> simp
/-- The last operations come in the text's order. -/
theorem go_tail {ops : Array Oper} (hedge : ∀ (j : Nat) (o : Oper), ops[j]? = some o → ∀ e ∈ o.after, Region.binds .any e = true → e.on < j) {p0 : Nat} (tail : ∀ j i, p0 ≤ j → j < ops.size → i < j → ((Region.before ops).getD j 0).testBit i = true) :
    ∀ (fuel t p : Nat) (listed : Array Bool), p0 ≤ p → p + fuel = ops.size → listed.size = ops.size → Closed ops listed → (∀ j, j < p → listed.getD j false = true) → (∀ j, p ≤ j → listed.getD j false = false) → Region.linearise.go .any ops fuel t listed [] = List.range' p fuel
  | 0, t, p, listed, _, _, _, _, _, _ => by simp [Region.linearise.go]
  | fuel + 1, t, p, listed, h0, hf, hls, hcl, h1, h2 => by
    have hpl : p < listed.size := by omega
    have hpo : p < ops.size := by omega
    have hp : p ∈ Region.ready .any ops listed := mem_ready.2 ⟨by have := h2 p (Nat.le_refl _); simpa [hpl] using this, ops[p], Array.getElem?_eq_getElem hpo, fun ed he hb => h1 _ (hedge p _ (Array.getElem?_eq_getElem hpo) ed he hb)⟩
    have hall : ∀ j ∈ Region.ready .any ops listed, j = p := by
      intro j hj
      obtain ⟨hnot, o, ho, _⟩ := mem_ready.1 hj
      have hjo : j < ops.size := (Array.getElem?_eq_some_iff.1 ho).1
      rcases Nat.lt_trichotomy j p with hlt | rfl | hgt
      · have := h1 j hlt
        have hjl : j < listed.size := by omega
        have hnot' : listed.getD j true = false := hnot
        simp [hjl] at this hnot'
        rw [this] at hnot'; cases hnot'
      · rfl
      · have := ready_bef hedge hcl hj (tail j p (by omega) hjo hgt)
        rw [h2 p (Nat.le_refl _)] at this; cases this
    simp only [Region.linearise.go]
    change (match (Region.ready .any ops listed)[t % (Region.ready .any ops listed).length]? with
      | some i => Region.linearise.go .any ops fuel (t / (Region.ready .any ops listed).length) (listed.setIfInBounds i true) [i]
      | none => [].reverse) = _
    have hlen : 0 < (Region.ready .any ops listed).length := List.length_pos_of_mem hp
    have hlt : t % (Region.ready .any ops listed).length < (Region.ready .any ops listed).length := Nat.mod_lt _ hlen
    rw [List.getElem?_eq_getElem hlt, hall _ (List.getElem_mem hlt)]
    simp only []
    rw [linearise_go_acc, List.reverse_singleton, List.singleton_append, List.range'_succ]
    congr 1
    refine go_tail hedge tail fuel _ (p + 1) _ (by omega) (by omega) (by simp [hls]) ?_ ?_ ?_
    · intro a b ha hb
      by_cases hbp : b = p
      · subst hbp; exact getD_set_eq hpl _
      · rw [getD_set_ne false (fun h => hbp h.symm)]
        by_cases hap : a = p
        · subst hap
          exact ready_bef hedge hcl hp hb
        · rw [getD_set_ne false (fun h => hap h.symm)] at ha
          exact hcl a b ha hb
    · intro j hj
      by_cases hjp : j = p
      · subst hjp; exact getD_set_eq hpl _
      · rw [getD_set_ne false (fun h => hjp h.symm)]; exact h1 j (by omega)
    · intro j hj
      rw [getD_set_ne false (by omega)]; exact h2 j (by omega)
theorem draw_end {ops : Array Oper} {is : List SI} {vals : List AV} (_ : DrawOk C ops is vals e h) {listed : Array Bool} (hall : ∀ j, j < is.length → listed.getD j false = true)
    (S : SRel C (envSel (fun m => listed.getD m false) 0 e is vals) h w0 D0 tmps w) : SRel C (envSel (fun _ => true) 0 e is vals) h w0 D0 tmps w :=
  ⟨fun t => by
    have : eget (envSel (fun m => listed.getD m false) 0 e is vals) t = eget (envSel (fun _ => true) 0 e is vals) t := envSel_agree is vals 0 e e rfl fun m p hp _ => by
      rw [Nat.zero_add]
      exact hall m (List.getElem?_eq_some_iff.1 hp).1
    rw [← this]; exact S.env t, S.size, S.heap, S.ev⟩
/-- Every order: as long as the first p operations are not all done one of them is carried out; then the others follow in the text's order. -/
theorem draw_goG {ops : Array Oper} {p : Nat} (hp : p ≤ ops.size) (edges : ∀ (j : Nat) (o : Oper), ops[j]? = some o → ∀ e ∈ o.after, Region.binds .any e = true → e.on < j)
    (tail : ∀ j i, p ≤ j → j < ops.size → i < j → ((Region.before ops).getD j 0).testBit i = true) {k : List Item} (St : Array Bool → Array Value → World → Prop)
    (stepj : ∀ (listed : Array Bool) (tmps : Array Value) (w : World) (j : Nat) (rest : List Nat), listed.size = ops.size → Closed ops listed → St listed tmps w → j ∈ Region.ready .any ops listed → j < p →
      (∀ tmps' w', Closed ops (listed.setIfInBounds j true) → St (listed.setIfInBounds j true) tmps' w' → Fin C w0 D0 R cs (lone ((bF C.fn).at ⟨tmps', []⟩ (.inRegion ops rest :: k)) cs w')) → Fin C w0 D0 R cs (lone ((bF C.fn).at ⟨tmps, []⟩ (.inRegion ops (j :: rest) :: k)) cs w))
    (hrest : ∀ listed tmps' w', listed.size = ops.size → (∀ j, j < p → listed.getD j false = true) → St listed tmps' w' → Fin C w0 D0 R cs (lone ((bF C.fn).at ⟨tmps', []⟩ (.inRegion ops (List.range' p (ops.size - p)) :: k)) cs w')) :
    ∀ (fuel t : Nat) (listed : Array Bool) (tmps : Array Value) (w : World), listed.size = ops.size → cnt listed.toList + fuel = ops.size → Closed ops listed → (∀ j, p ≤ j → listed.getD j false = false) → St listed tmps w →
      Fin C w0 D0 R cs (lone ((bF C.fn).at ⟨tmps, []⟩ (.inRegion ops (Region.linearise.go .any ops fuel t listed []) :: k)) cs w) := by
  intro fuel
  induction fuel with
  | zero =>
    intro t listed tmps w hls hc hcl hno S
    have hall : ∀ j, j < ops.size → listed.getD j false = true := fun j hj => by
      have hjl : j < listed.size := by omega
      have := cnt_all listed.toList (by simp only [Array.length_toList]; omega) j listed[j] (by simp [hjl])
      simp [hjl, this]
    have hn : ops.size - p = 0 := by
      rcases Nat.lt_or_ge p ops.size with hlt | hge
      · have := hall _ hlt; rw [hno _ (Nat.le_refl _)] at this; cases this
      · omega
    have := hrest listed tmps w hls (fun j hj => hall j (by omega)) S
    rw [hn] at this
    exact this
  | succ fuel ih =>
    intro t listed tmps w hls hc hcl hno S
    by_cases hall : ∀ j, j < p → listed.getD j false = true
    · have hcnt : cnt listed.toList = p := cnt_split _ _ (by simp only [Array.length_toList]; rw [hls]; exact hp) (fun j hj => by
        have := getD_iff.1 (hall j hj); simpa using this) fun j hj hh => by
        have := hno j hj
        rw [getD_iff.2 (by simpa using hh)] at this; cases this
      have hf : fuel + 1 = ops.size - p := by omega
      rw [hf, go_tail edges tail (ops.size - p) t p listed (Nat.le_refl _) (by omega) hls hcl hall hno]
      exact hrest listed tmps w hls hall S
    · obtain ⟨j0, hj0⟩ : ∃ j, j < p ∧ listed.getD j false = false := by
        refine Classical.byContradiction fun hn => hall fun j hj => ?_
        cases hl : listed.getD j false with
        | true => rfl
        | false => exact absurd ⟨j, hj, hl⟩ hn
      have hpos : ∀ n, (∃ j, j < n ∧ j < p ∧ listed.getD j false = false) → ∃ j, j ∈ Region.ready .any ops listed := by
        intro n
        induction n with
        | zero => rintro ⟨_, h, _⟩; cases h
        | succ n ihn =>
          rintro ⟨j, hj, hji, hl⟩
          by_cases hbef : ∃ m, m < n ∧ m < p ∧ listed.getD m false = false
          · exact ihn hbef
          · have hjn : j = n := by
              rcases Nat.lt_or_ge j n with hlt | hge
              · exact absurd ⟨j, hlt, hji, hl⟩ hbef
              · omega
            subst hjn
            have hjo : j < ops.size := by omega
            have hjl : j < listed.size := by omega
            refine ⟨j, mem_ready.2 ⟨by simpa [hjl] using hl, ops[j], Array.getElem?_eq_getElem hjo, fun ed he hb => ?_⟩⟩
            have hlt := edges j _ (Array.getElem?_eq_getElem hjo) ed he hb
            cases hl2 : listed.getD ed.on false with
            | true => rfl
            | false => exact absurd ⟨ed.on, hlt, by omega, hl2⟩ hbef
      obtain ⟨jr, hjr⟩ := hpos _ ⟨j0, Nat.lt_succ_self _, hj0⟩
      simp only [Region.linearise.go]
      change Fin C w0 D0 R cs (lone ((bF C.fn).at ⟨tmps, []⟩ (.inRegion ops (match (Region.ready .any ops listed)[t % (Region.ready .any ops listed).length]? with
        | some i => Region.linearise.go .any ops fuel (t / (Region.ready .any ops listed).length) (listed.setIfInBounds i true) [i]
        | none => [].reverse) :: k)) cs w)
      have hlen : 0 < (Region.ready .any ops listed).length := List.length_pos_of_mem hjr
      have hlt : t % (Region.ready .any ops listed).length < (Region.ready .any ops listed).length := Nat.mod_lt _ hlen
      cases hi : (Region.ready .any ops listed)[t % (Region.ready .any ops listed).length]? with
      | none => rw [List.getElem?_eq_getElem hlt] at hi; cases hi
      | some j =>
        simp only []
        rw [linearise_go_acc, List.reverse_singleton, List.singleton_append]
        have hj := List.mem_of_getElem? hi
        obtain ⟨hnot, o, ho, _⟩ := mem_ready.1 hj
        have hjo : j < ops.size := (Array.getElem?_eq_some_iff.1 ho).1
        have hjp : j < p := by
          rcases Nat.lt_or_ge j p with h | hge
          · exact h
          · have := ready_bef edges hcl hj (tail j j0 hge hjo (by omega))
            rw [hj0.2] at this; cases this
        refine stepj listed tmps w j _ hls hcl S hj hjp fun tmps' w' hcl' S' => ?_
        have hjlt : j < listed.size := by omega
        refine ih _ _ tmps' w' (by simp [hls]) ?_ hcl' (fun m hm => by rw [getD_set_ne false (by omega)]; exact hno m hm) S'
        have : listed.toList[j]? = some false := by
          have : listed.getD j true = false := hnot
          simpa [hjlt] using this
        rw [Array.toList_setIfInBounds, cnt_set _ _ this]
        omega
theorem draw_go {ops : Array Oper} {is : List SI} {vals : List AV} (D : DrawOk C ops is vals e h) (tail : ∀ j i, is.length ≤ j → j < ops.size → i < j → ((Region.before ops).getD j 0).testBit i = true) {k : List Item}
    (hrest : ∀ tmps' w', SRel C (envSel (fun _ => true) 0 e is vals) h w0 D0 tmps' w' → Fin C w0 D0 R cs (lone ((bF C.fn).at ⟨tmps', []⟩ (.inRegion ops (List.range' is.length (ops.size - is.length)) :: k)) cs w')) :
    ∀ (fuel t : Nat) (listed : Array Bool) (tmps : Array Value) (w : World), listed.size = ops.size → cnt listed.toList + fuel = ops.size → Closed ops listed → (∀ j, is.length ≤ j → listed.getD j false = false) → SRel C (envSel (fun m => listed.getD m false) 0 e is vals) h w0 D0 tmps w →
      Fin C w0 D0 R cs (lone ((bF C.fn).at ⟨tmps, []⟩ (.inRegion ops (Region.linearise.go .any ops fuel t listed []) :: k)) cs w) :=
  draw_goG D.len D.edges tail (fun listed tmps w => SRel C (envSel (fun m => listed.getD m false) 0 e is vals) h w0 D0 tmps w)
    (fun listed tmps w j rest hls hcl S hj hjp hk => draw_step D hls hcl S hj hjp hk) (fun listed tmps' w' _ hall S => hrest tmps' w' (draw_end D hall S))

theorem cInstrs_get (ops : Array Oper) : ∀ (os : List Oper) (is : List SI), cInstrs C.P C.M C.nt ops os = some is → is.length = os.length ∧ ∀ (j : Nat) (o : Oper), os[j]? = some o → ∃ i, is[j]? = some i ∧ cInstr C.P C.M C.nt ops o = some i
  | [], is, hc => by simp [cInstrs] at hc; subst hc; simp
  | o :: os, is, hc => by
    simp only [cInstrs] at hc
    split at hc <;> first | (cases hc; done) | skip
    rename_i i is' h1 h2
    cases hc
    obtain ⟨g1, g2⟩ := cInstrs_get ops os is' h2
    refine ⟨by simp [g1], fun j o' ho => ?_⟩
    cases j with
    | zero => simp at ho; subst ho; exact ⟨i, rfl, h1⟩
    | succ j => simpa using g2 j o' (by simpa using ho)
theorem pivot_le : ∀ is : List SI, pivot is ≤ is.length
  | [] => Nat.le_refl _
  | i :: is => by have := pivot_le is; simp only [pivot]; split <;> simp only [List.length_cons] <;> omega
theorem drawOk_of {ops : Array Oper} {is : List SI} {vals : List AV} (hc : cInstrs C.P C.M C.nt ops ops.toList = some is) (hok : orderOk (Region.before ops) (is.take (pivot is)) = true ∧ edgesOk ops = true) (hv : vals.length = (is.take (pivot is)).length)
    (hev : ∀ (j : Nat) (i : SI) (v : AV), (is.take (pivot is))[j]? = some i → vals[j]? = some v → InstrEval C i (envSel (fun m => decide (m < 0 + j)) 0 e (is.take (pivot is)) vals) h v) : DrawOk C ops (is.take (pivot is)) vals e h := by
  obtain ⟨g1, g2⟩ := cInstrs_get ops _ _ hc
  obtain ⟨ho, he⟩ := hok
  have hle : (is.take (pivot is)).length ≤ ops.size := by simp only [List.length_take, g1, Array.length_toList]; omega
  have hp : pivot is ≤ is.length := pivot_le is
  refine ⟨hle, hv, fun j o hjl hj => ?_, fun j i v hi hvv => by simpa using hev j i v hi hvv, fun i j p o hp hoj hij => ?_, fun j o hj ed hed => ?_⟩
  · obtain ⟨i, h1, h2⟩ := g2 j o (by simpa using hj)
    refine ⟨i, ?_, h2⟩
    rw [List.getElem?_take, if_pos (by simp only [List.length_take] at hjl; omega)]
    exact h1
  · unfold orderOk at ho
    rw [List.all_eq_true] at ho
    have h1 := ho (o, j) (by rw [List.mem_zipIdx_iff_getElem?]; simpa using hoj)
    simp only [List.all_eq_true] at h1
    have h2 := h1 (p, i) (by rw [List.mem_zipIdx_iff_getElem?]; simpa using hp)
    simp only [Bool.or_eq_true, Bool.not_eq_true', decide_eq_false_iff_not, Bool.and_eq_true] at h2
    rcases h2 with (h2 | h2) | ⟨h2, h3⟩
    · exact absurd hij h2
    · exact .inl h2
    · refine .inr ⟨fun d hd => ?_, fun d hd => ?_⟩
      · rw [hd] at h2
        simp only [Bool.and_eq_true, Bool.not_eq_true', decide_eq_false_iff_not] at h2
        exact ⟨by have := h2.1; simpa using this, h2.2⟩
      · rw [hd] at h3
        simp only [Bool.not_eq_true'] at h3
        simpa using h3
  · unfold edgesOk at he
    rw [List.all_eq_true] at he
    have h1 := he (o, j) (by rw [List.mem_zipIdx_iff_getElem?]; simpa using hj)
    simp only [List.all_eq_true] at h1
    have h2 := h1 ed (by simpa using hed)
    intro hb
    simp only [Bool.or_eq_true, Bool.not_eq_true', decide_eq_true_eq] at h2
    rcases h2 with h2 | h2
    · rw [hb] at h2; cases h2
    · exact h2

theorem tail_of {b : Array Nat} {p n : Nat} (ht : tailOk b p n = true) : ∀ j i, p ≤ j → j < n → i < j → (b.getD j 0).testBit i = true := by
  intro j i hj hjo hij
  unfold tailOk at ht
  rw [List.all_eq_true] at ht
  have h1 := ht j (List.mem_range.2 hjo)
  simp only [Bool.or_eq_true, decide_eq_true_eq, List.all_eq_true] at h1
  rcases h1 with h1 | h1
  · omega
  · exact h1 i (List.mem_range.2 hij)
end
end Go.AG
