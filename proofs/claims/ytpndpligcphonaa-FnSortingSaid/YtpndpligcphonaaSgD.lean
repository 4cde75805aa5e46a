/- Drawn graphs that are bent. No statement is made here. -/
import Derived.Test.YtpndpligcphonaaSrA
import Derived.Test.YtpndpligcphonaaGrVal
import Derived.Test.YtpndpligcphonaaAGLists2
namespace Go.AG
open Go.Proofs Go.Proofs.Ytpndpligcphonaa
set_option linter.unusedSimpArgs false
set_option linter.unusedVariables false
set_option maxRecDepth 4000
/-- A block that is the source of draws, of which not more than k numbers were taken. -/
def isSrc (code : List UInt8) (k : Int) (b : Blk) : Prop := ∃ at0 seed : Int, b = ⟨3, [.agg [.snap 1 (code.map bv), .int .i64 at0, .int .u64 seed]]⟩ ∧ (0 ≤ at0 ∧ at0 ≤ k) ∧ (0 ≤ seed ∧ seed < 18446744073709551616)
theorem isSrc.mono {code : List UInt8} {k k' : Int} {b : Blk} (h : isSrc code k b) (hk : k ≤ k') : isSrc code k' b := by
  obtain ⟨a, s, e, h1, h2⟩ := h
  exact ⟨a, s, e, by omega, h2⟩
theorem hget_split : ∀ {H : Heap} {ids : Nat} {b : Blk}, hget H ids = some b → ∃ pre post, H = pre ++ (ids, b) :: post ∧ ids ∉ dom pre
  | [], ids, b, h => by simp [hget] at h
  | (i, c) :: H, ids, b, h => by
    simp only [hget] at h
    split at h
    · rename_i e
      cases h
      subst e
      exact ⟨[], H, rfl, by simp [dom]⟩
    · rename_i e
      obtain ⟨pre, post, rfl, hp⟩ := hget_split h
      exact ⟨(i, c) :: pre, post, rfl, by
        simp only [dom, List.map_cons, List.mem_cons, not_or]
        exact ⟨fun h => e h.symm, hp⟩⟩
theorem hset_split {pre post : Heap} {ids : Nat} {b c : Blk} (hp : ids ∉ dom pre) : hset (pre ++ (ids, b) :: post) ids c = pre ++ (ids, c) :: post := by
  rw [hset_app hp]
  simp [hset]
theorem pick_m {ids : Nat} {code : List UInt8} {k n : Int} {b : Blk} {H : Heap} (hg : hget H ids = some b) (hb : isSrc code k b) (hk : k ≤ 900000) (hl : code.length ≤ 1048576) (hn : 1 ≤ n ∧ n ≤ 1000000) :
    ACalls Try.prog 24 [.ptr ids 3 0 0, .int .i64 n] H (fun v h' => ∃ r b', v = .int .i64 r ∧ (0 ≤ r ∧ r < n) ∧ isSrc code (k + 2) b' ∧ h' = hset H ids b') := by
  obtain ⟨pre, post, rfl, hp⟩ := hget_split hg
  obtain ⟨a, s, rfl, h1, h2⟩ := hb
  refine (pick_w ids code a s n pre post hp (by omega) h2 hl hn).mono ?_
  rintro v h' ⟨r, a', s', e, hr, ha, hs, e2⟩
  exact ⟨r, _, e, hr, ⟨a', s', rfl, by omega, hs⟩, by rw [e2, hset_split hp]⟩
theorem one_m {ids : Nat} {code : List UInt8} {k n : Int} {b : Blk} {H : Heap} (hg : hget H ids = some b) (hb : isSrc code k b) (hk : k ≤ 900000) (hl : code.length ≤ 1048576) (hn : 1 ≤ n ∧ n ≤ 1000000) :
    ACalls Try.prog 23 [.ptr ids 3 0 0, .int .i64 n] H (fun v h' => ∃ (c : Bool) (b' : Blk), v = .bool c ∧ isSrc code (k + 2) b' ∧ h' = hset H ids b') := by
  obtain ⟨pre, post, rfl, hp⟩ := hget_split hg
  obtain ⟨a, s, rfl, h1, h2⟩ := hb
  refine (one_w ids code a s n pre post hp (by omega) h2 hl hn).mono ?_
  rintro v h' ⟨r, a', s', e, ha, hs, e2⟩
  exact ⟨r, _, e, ⟨a', s', rfl, by omega, hs⟩, by rw [e2, hset_split hp]⟩
theorem among_m {ids : Nat} {code : List UInt8} {k : Int} {l : List Int} {b : Blk} {H : Heap} (hg : hget H ids = some b) (hb : isSrc code k b) (hk : k ≤ 900000) (hl : code.length ≤ 1048576) (hn : 1 ≤ l.length ∧ l.length ≤ 1000000) :
    ACalls Try.prog 20 [.ptr ids 3 0 0, .snap 1 (l.map iv)] H (fun v h' => ∃ (c : Int) (b' : Blk), v = .int .i64 c ∧ c ∈ l ∧ isSrc code (k + 2) b' ∧ h' = hset H ids b') := by
  obtain ⟨pre, post, rfl, hp⟩ := hget_split hg
  obtain ⟨a, s, rfl, h1, h2⟩ := hb
  refine (among_w ids code a s l pre post hp (by omega) h2 hl hn).mono ?_
  rintro v h' ⟨r, a', s', e, hr, ha, hs, e2⟩
  exact ⟨r, _, e, hr, ⟨a', s', rfl, by omega, hs⟩, by rw [e2, hset_split hp]⟩
abbrev k12_o0 : List AJ := [.o ⟨(some 2), none, false, .mv (.c .nilp), (some [0])⟩]
abbrev k12_o1 : List AJ := [.o ⟨(some 3), none, false, .mv (.t 0), none⟩, .o ⟨(some 4), none, false, .build [.nilsl, (.int .i64 0), (.int .u64 0)] [(0, 1, (.t 3))], none⟩, .o ⟨(some 5), none, false, .box true 3 (.t 4), none⟩, .o ⟨(some 2), none, false, .mv (.t 5), (some [2])⟩]
def k12_2 : ACode := .seq (.region k12_o1) .ret
def k12_3 : ACode := .seq (.region k12_o0) k12_2
@[simp, simp ↓] theorem k12_2r : sR k12_2 k12_o1 .ret := yR rfl
@[simp, simp ↓] theorem k12_3r : sR k12_3 k12_o0 k12_2 := yR rfl
noncomputable abbrev k12_C : Orc → Cx := mkC Try.prog [5] 12 6 [.tmp 2]
theorem k12_of0 : OfP0 Try.prog Try.f12 12 6 k12_C k12_3 := @ofP0 _ _ _ _ _ _ _ _ Try.func12 (by decide +kernel) rfl (by kernel_rfl) rfl (by kernel_rfl)
theorem l00From_m (code : List UInt8) (h : Heap) (hl : code.length ≤ 1048576) : ACalls Try.prog 12 [.snap 1 (code.map bv)] h (fun v h' => ∃ id b, id ∉ dom h ∧ isSrc code 0 b ∧ v = .ptr id 3 0 0 ∧ h' = (id, b) :: h) := by
  refine k12_of0 rfl noPure fun I => ?_
  refine Run2.of I 1000 ?_
  simp -implicitDefEqProofs
  exact fun id hid => ⟨hid, ⟨0, 0, rfl, by omega, by omega⟩⟩
abbrev k15_o0 : List AJ := [.o ⟨(some 2), none, false, .mv (.c (.int .i64 0)), (some [0])⟩]
abbrev k15_o1 : List AJ := [.o ⟨(some 3), none, false, .mv (.t 0), none⟩, .o ⟨(some 4), none, false, .bsl false 1 [(.c (.int .i64 0)), (.c (.int .i64 1)), (.c (.int .i64 2)), (.c (.int .i64 3)), (.c (.int .i64 4)), (.c (.int .i64 5)), (.c (.int .i64 7)), (.c (.int .i64 100)), (.c (.int .i64 101)), (.c (.int .i64 (-1)))], none⟩, .o ⟨(some 5), none, false, .call 20 [(.t 3), (.t 4)], none⟩, .o ⟨(some 2), none, false, .mv (.t 5), (some [2])⟩]
def k15_2 : ACode := .seq (.region k15_o1) .ret
def k15_3 : ACode := .seq (.region k15_o0) k15_2
@[simp, simp ↓] theorem k15_2r : sR k15_2 k15_o1 .ret := yR rfl
@[simp, simp ↓] theorem k15_3r : sR k15_3 k15_o0 k15_2 := yR rfl
noncomputable abbrev k15_C : Orc → Cx := mkC Try.prog [] 15 6 [.tmp 2]
theorem k15_of0 : OfP0 Try.prog Try.f15 15 6 k15_C k15_3 := @ofP0 _ _ _ _ _ _ _ _ Try.func15 (by decide +kernel) rfl (by kernel_rfl) rfl (by kernel_rfl)
theorem l24DrawTimes_m {ids : Nat} {code : List UInt8} {k : Int} {b : Blk} {H : Heap} (hg : hget H ids = some b) (hb : isSrc code k b) (hk : k ≤ 900000) (hl : code.length ≤ 1048576) :
    ACalls Try.prog 15 [.ptr ids 3 0 0] H (fun v h' => ∃ (c : Int) (b' : Blk), v = .int .i64 c ∧ (-1 ≤ c ∧ c ≤ 101) ∧ isSrc code (k + 2) b' ∧ h' = hset H ids b') := by
  refine k15_of0 rfl noPure fun I => ?_
  refine Run2.of I 1000 ?_
  simp -implicitDefEqProofs
  refine (among_m (l := [0, 1, 2, 3, 4, 5, 7, 100, 101, -1]) hg hb hk hl (by simp)).mono ?_
  rintro v h' ⟨c, b', rfl, hc, hb', rfl⟩
  refine gK.go ?_
  simp -implicitDefEqProofs
  refine ⟨?_, b', hb', rfl⟩
  simp at hc
  omega
end Go.AG
namespace Go.AG
open Go.Proofs Go.Proofs.Ytpndpligcphonaa
set_option linter.unusedSimpArgs false
set_option linter.unusedVariables false
set_option maxRecDepth 4000
/-- Edges of a drawn graph. -/
def eOk (t : T) : Prop := (0 ≤ t.f ∧ t.f ≤ 100) ∧ (0 ≤ t.t ∧ t.t ≤ 100) ∧ 0 ≤ t.s ∧ t.s ≤ 100
def esOk (ts : List T) : Prop := ts.length ≤ 60 ∧ ∀ t ∈ ts, eOk t
theorem esOk.put {ts : List T} (h : esOk ts) {t : T} (hl : ts.length < 60) (ht : eOk t) : esOk (ts ++ [t]) := by
  refine ⟨by simp; omega, fun x hx => ?_⟩
  rcases List.mem_append.1 hx with hx | hx
  · exact h.2 x hx
  · rw [List.mem_singleton.1 hx]; exact ht
theorem Post.dmid' {R : AV → Heap → Prop} {v : AV} {id : Nat} {b : Blk} {rest : Heap} : ∀ {pre : Heap}, id ∉ dom pre → Post R v (pre ++ rest) → Post R v (pre ++ (id, b) :: rest) := fun {pre} hid h => .drop id (by rw [hdel_app hid]; simpa [hdel] using h)
/-- A drawn graph. -/
def DrG (code : List UInt8) (ids : Nat) (k : Int) (L : Nat) (h : Heap) (v : AV) (h' : Heap) : Prop := ∃ (n : Int) (ts : List T) (w : AV) (g : Heap) (b' : Blk), v = .agg [.int .i64 n, w] ∧ (0 ≤ n ∧ n ≤ 100) ∧ esOk ts ∧ ts.length ≤ L ∧ Grow 3 w (ts.map T.av) g ∧ isSrc code k b' ∧ h' = g ++ ((ids, b') :: h)
abbrev k37_o0 : List AJ := [.o ⟨(some 2), none, false, .alloc true 2 (.agg [(.int .i64 0), .nilsl]), (some [0, 2])⟩]
abbrev k37_o1 : List AJ := [.o ⟨(some 7), none, false, .mv (.t 0), none⟩, .o ⟨(some 8), none, false, .call 24 [(.t 7), (.c (.int .i64 6))], none⟩, .o ⟨(some 9), none, true, .bin .add (.c (.int .i64 1)) (.t 8), none⟩, .o ⟨(some 10), none, false, .build [(.int .i64 0), .nilsl] [(0, 1, (.t 9))], none⟩, .o ⟨(some 3), none, false, .alloc true 2 (.agg [(.int .i64 0), .nilsl]), none⟩, .o ⟨none, none, false, .store 2 (.t 3) (.t 10), (some [0, 2, 3])⟩]
abbrev k37_o2 : List AJ := [.o ⟨(some 11), none, false, .mv (.t 0), none⟩, .o ⟨(some 12), none, false, .bsl false 1 [(.c (.int .i64 2)), (.c (.int .i64 2)), (.c (.int .i64 3)), (.c (.int .i64 9))], none⟩, .o ⟨(some 13), none, false, .call 20 [(.t 11), (.t 12)], none⟩, .o ⟨(some 4), none, false, .mv (.t 13), (some [0, 2, 3, 4])⟩]
abbrev k37_o3 : List AJ := [.o ⟨(some 14), none, false, .mv (.t 0), none⟩, .o ⟨(some 15), none, false, .call 23 [(.t 14), (.c (.int .i64 14))], (some [0, 2, 3, 4, 15])⟩]
abbrev k37_o4 : List AJ := [.o ⟨(some 16), none, false, .fieldA 0 (.t 3), none⟩, .o ⟨none, none, false, .store 1 (.t 16) (.c (.int .i64 12)), (some [0, 2, 3])⟩]
abbrev k37_o5 : List AJ := [.o ⟨(some 4), none, false, .mv (.c (.int .i64 4)), (some [0, 2, 3, 4])⟩]
def k37_5 : ACode := .region k37_o5
def k37_6 : ACode := .seq (.region k37_o4) k37_5
def k37_7 : ACode := .cond (.t 15) k37_6 .skip
def k37_8 : ACode := .seq (.region k37_o3) k37_7
abbrev k37_o6 : List AJ := [.o ⟨(some 5), none, false, .mv (.c (.int .i64 0)), (some [0, 2, 3, 4, 5])⟩]
abbrev k37_o7 : List AJ := [.o ⟨(some 17), none, false, .mv (.t 5), none⟩, .o ⟨(some 18), none, false, .fieldA 0 (.t 3), none⟩, .o ⟨(some 19), none, false, .load 1 false (.t 18), none⟩, .o ⟨(some 20), none, false, .bin .lss (.t 17) (.t 19), (some [0, 2, 3, 4, 5, 20])⟩]
def k37_11 : ACode := .cond (.t 20) .skip (.exit 0)
def k37_12 : ACode := .seq (.region k37_o7) k37_11
abbrev k37_o8 : List AJ := [.o ⟨(some 23), none, false, .mv (.t 5), none⟩, .o ⟨(some 24), none, true, .bin .add (.t 23) (.c (.int .i64 1)), none⟩, .o ⟨(some 6), none, false, .mv (.t 24), (some [0, 2, 3, 4, 5, 6])⟩]
abbrev k37_o9 : List AJ := [.o ⟨(some 25), none, false, .mv (.t 6), none⟩, .o ⟨(some 26), none, false, .fieldA 0 (.t 3), none⟩, .o ⟨(some 27), none, false, .load 1 false (.t 26), none⟩, .o ⟨(some 28), none, false, .bin .lss (.t 25) (.t 27), (some [0, 2, 3, 4, 5, 6, 28])⟩]
def k37_15 : ACode := .cond (.t 28) .skip (.exit 2)
def k37_16 : ACode := .seq (.region k37_o9) k37_15
abbrev k37_o10 : List AJ := [.o ⟨(some 31), none, false, .mv (.t 0), none⟩, .o ⟨(some 32), none, false, .mv (.t 4), none⟩, .o ⟨(some 33), none, false, .call 23 [(.t 31), (.t 32)], none⟩, .o ⟨(some 34), none, false, .un .not (.t 33), none⟩, .o ⟨(some 35), none, false, .mv (.t 34), none⟩, .o ⟨(some 36), (some (35, true)), false, .fieldA 1 (.t 3), none⟩, .o ⟨(some 37), (some (35, true)), false, .load 1 false (.t 36), none⟩, .o ⟨(some 38), (some (35, true)), false, .len (.t 37), none⟩, .o ⟨(some 39), (some (35, true)), false, .bin .lss (.t 38) (.c (.int .i64 24)), none⟩, .o ⟨(some 40), none, false, .pick (.t 35) (.t 39) (.c (.bool false)), (some [0, 2, 3, 4, 5, 6, 40])⟩]
abbrev k37_o11 : List AI := [⟨(some 41), none, false, .fieldA 1 (.t 3), none⟩, ⟨(some 42), none, false, .load 1 false (.t 41), none⟩, ⟨(some 43), none, false, .mv (.t 5), none⟩, ⟨(some 44), none, false, .mv (.t 6), none⟩, ⟨(some 45), none, false, .mv (.t 0), none⟩, ⟨(some 46), none, false, .bsl false 1 [(.c (.int .i64 1)), (.c (.int .i64 1)), (.c (.int .i64 2)), (.c (.int .i64 3)), (.c (.int .i64 9))], none⟩, ⟨(some 47), none, false, .call 20 [(.t 45), (.t 46)], none⟩, ⟨(some 48), none, false, .build [(.int .i64 0), (.int .i64 0), (.int .i64 0)] [(0, 1, (.t 43)), (1, 1, (.t 44)), (2, 1, (.t 47))], none⟩, ⟨(some 49), none, false, .bsl false 3 [(.t 48)], none⟩, ⟨(some 50), none, false, .append 3 24 (.t 42) (.t 49), none⟩, ⟨(some 51), none, false, .fieldA 1 (.t 3), none⟩, ⟨none, none, false, .store 1 (.t 51) (.t 50), none⟩]
abbrev k37_o12 : List AJ := [.o ⟨(some 41), none, false, .fieldA 1 (.t 3), none⟩, .o ⟨(some 43), none, false, .mv (.t 5), none⟩, .o ⟨(some 44), none, false, .mv (.t 6), none⟩, .o ⟨(some 45), none, false, .mv (.t 0), none⟩, .o ⟨(some 46), none, false, .bsl false 1 [(.c (.int .i64 1)), (.c (.int .i64 1)), (.c (.int .i64 2)), (.c (.int .i64 3)), (.c (.int .i64 9))], none⟩, .o ⟨(some 42), none, false, .load 1 false (.t 41), none⟩, .o ⟨(some 47), none, false, .call 20 [(.t 45), (.t 46)], none⟩, .o ⟨(some 48), none, false, .build [(.int .i64 0), (.int .i64 0), (.int .i64 0)] [(0, 1, (.t 43)), (1, 1, (.t 44)), (2, 1, (.t 47))], none⟩, .o ⟨(some 49), none, false, .bsl false 3 [(.t 48)], none⟩, .o ⟨(some 50), none, false, .append 3 24 (.t 42) (.t 49), none⟩, .o ⟨(some 51), none, false, .fieldA 1 (.t 3), none⟩, .o ⟨none, none, false, .store 1 (.t 51) (.t 50), (some [0, 2, 3, 4, 5, 6])⟩]
abbrev k37_o13 : List AJ := [.o ⟨(some 41), none, false, .fieldA 1 (.t 3), none⟩, .o ⟨(some 43), none, false, .mv (.t 5), none⟩, .o ⟨(some 44), none, false, .mv (.t 6), none⟩, .o ⟨(some 45), none, false, .mv (.t 0), none⟩, .o ⟨(some 46), none, false, .bsl false 1 [(.c (.int .i64 1)), (.c (.int .i64 1)), (.c (.int .i64 2)), (.c (.int .i64 3)), (.c (.int .i64 9))], none⟩, .o ⟨(some 47), none, false, .call 20 [(.t 45), (.t 46)], none⟩, .o ⟨(some 42), none, false, .load 1 false (.t 41), none⟩, .o ⟨(some 48), none, false, .build [(.int .i64 0), (.int .i64 0), (.int .i64 0)] [(0, 1, (.t 43)), (1, 1, (.t 44)), (2, 1, (.t 47))], none⟩, .o ⟨(some 49), none, false, .bsl false 3 [(.t 48)], none⟩, .o ⟨(some 50), none, false, .append 3 24 (.t 42) (.t 49), none⟩, .o ⟨(some 51), none, false, .fieldA 1 (.t 3), none⟩, .o ⟨none, none, false, .store 1 (.t 51) (.t 50), (some [0, 2, 3, 4, 5, 6])⟩]
def k37_18 : ACode := .drawE k37_o11 [k37_o12, k37_o13] [[0, 2, 3, 4, 5, 1, 6, 7, 8, 9, 10, 11], [0, 2, 3, 4, 5, 6, 1, 7, 8, 9, 10, 11]] rfl rfl
def k37_19 : ACode := .cond (.t 40) k37_18 .skip
def k37_20 : ACode := .seq (.region k37_o10) k37_19
abbrev k37_o14 : List AJ := [.o ⟨(some 29), none, false, .mv (.t 6), none⟩, .o ⟨(some 30), none, true, .bin .add (.t 29) (.c (.int .i64 1)), none⟩, .o ⟨(some 6), none, false, .mv (.t 30), (some [0, 2, 3, 4, 5, 6])⟩]
def k37_22 : ACode := .region k37_o14
def k37_23 : ACode := .seq (.block 3 k37_20) k37_22
def k37_24 : ACode := .seq k37_16 k37_23
def k37_25 : ACode := .loop k37_24
def k37_26 : ACode := .block 2 k37_25
def k37_27 : ACode := .seq (.region k37_o8) k37_26
abbrev k37_o15 : List AJ := [.o ⟨(some 21), none, false, .mv (.t 5), none⟩, .o ⟨(some 22), none, true, .bin .add (.t 21) (.c (.int .i64 1)), none⟩, .o ⟨(some 5), none, false, .mv (.t 22), (some [0, 2, 3, 4, 5])⟩]
def k37_29 : ACode := .region k37_o15
def k37_30 : ACode := .seq (.block 1 k37_27) k37_29
def k37_31 : ACode := .seq k37_12 k37_30
def k37_32 : ACode := .loop k37_31
def k37_33 : ACode := .block 0 k37_32
def k37_34 : ACode := .seq (.region k37_o6) k37_33
abbrev k37_o16 : List AJ := [.o ⟨(some 52), none, false, .load 2 true (.t 3), none⟩, .o ⟨none, none, false, .store 2 (.t 2) (.t 52), (some [2])⟩]
def k37_36 : ACode := .seq (.region k37_o16) .ret
def k37_37 : ACode := .seq k37_34 k37_36
def k37_38 : ACode := .seq k37_8 k37_37
def k37_39 : ACode := .seq (.region k37_o2) k37_38
def k37_40 : ACode := .seq (.region k37_o1) k37_39
def k37_41 : ACode := .seq (.region k37_o0) k37_40
@[simp, simp ↓] theorem k37_5r : rR k37_5 k37_o5 := zR rfl
@[simp, simp ↓] theorem k37_6r : sR k37_6 k37_o4 k37_5 := yR rfl
@[simp, simp ↓] theorem k37_7r : rC k37_7 (.t 15) k37_6 .skip := zC rfl
@[simp, simp ↓] theorem k37_8r : sR k37_8 k37_o3 k37_7 := yR rfl
@[simp, simp ↓] theorem k37_11r : rC k37_11 (.t 20) .skip (.exit 0) := zC rfl
@[simp, simp ↓] theorem k37_12r : sR k37_12 k37_o7 k37_11 := yR rfl
@[simp, simp ↓] theorem k37_15r : rC k37_15 (.t 28) .skip (.exit 2) := zC rfl
@[simp, simp ↓] theorem k37_16r : sR k37_16 k37_o9 k37_15 := yR rfl
@[simp, simp ↓] theorem k37_18r : rE k37_18 [k37_o12, k37_o13] := zE rfl
@[simp, simp ↓] theorem k37_19r : rC k37_19 (.t 40) k37_18 .skip := zC rfl
@[simp, simp ↓] theorem k37_20r : sR k37_20 k37_o10 k37_19 := yR rfl
@[simp, simp ↓] theorem k37_22r : rR k37_22 k37_o14 := zR rfl
@[simp, simp ↓] theorem k37_23r : sB k37_23 3 k37_20 k37_22 := yB rfl
@[simp, simp ↓] theorem k37_24r : rS k37_24 k37_16 k37_23 := zS rfl
@[simp, simp ↓] theorem k37_25r : rL k37_25 k37_24 := zL rfl
@[simp, simp ↓] theorem k37_26r : rB k37_26 2 k37_25 := zB rfl
@[simp, simp ↓] theorem k37_27r : sR k37_27 k37_o8 k37_26 := yR rfl
@[simp, simp ↓] theorem k37_29r : rR k37_29 k37_o15 := zR rfl
@[simp, simp ↓] theorem k37_30r : sB k37_30 1 k37_27 k37_29 := yB rfl
@[simp, simp ↓] theorem k37_31r : rS k37_31 k37_12 k37_30 := zS rfl
@[simp, simp ↓] theorem k37_32r : rL k37_32 k37_31 := zL rfl
@[simp, simp ↓] theorem k37_33r : rB k37_33 0 k37_32 := zB rfl
@[simp, simp ↓] theorem k37_34r : sR k37_34 k37_o6 k37_33 := yR rfl
@[simp, simp ↓] theorem k37_36r : sR k37_36 k37_o16 .ret := yR rfl
@[simp, simp ↓] theorem k37_37r : rS k37_37 k37_34 k37_36 := zS rfl
@[simp, simp ↓] theorem k37_38r : rS k37_38 k37_8 k37_37 := zS rfl
@[simp, simp ↓] theorem k37_39r : sR k37_39 k37_o2 k37_38 := yR rfl
@[simp, simp ↓] theorem k37_40r : sR k37_40 k37_o1 k37_39 := yR rfl
@[simp, simp ↓] theorem k37_41r : sR k37_41 k37_o0 k37_40 := yR rfl
noncomputable abbrev k37_C : Orc → Cx := mkC Try.prog [2, 3, 99998] 37 53 [.cell 2 2 true]
theorem k37_of : OfP Try.prog Try.f37 37 53 k37_C k37_41 := @ofP _ _ _ _ _ _ _ _ Try.func37 (by decide +kernel) rfl (by kernel_rfl) rfl (by kernel_rfl)
theorem l16DrawOk_m {ids : Nat} {code : List UInt8} {k : Int} {b : Blk} {h : Heap} (hid : ids ∉ dom h) (hb : isSrc code k b) (hk : k ≤ 100000) (hl : code.length ≤ 1048576) :
    ACalls Try.prog 37 [.ptr ids 3 0 0] ((ids, b) :: h) (DrG code ids (k + 1000) 24 h) := by
  obtain ⟨R, hR⟩ : ∃ R, R = DrG code ids (k + 1000) 24 h := ⟨_, rfl⟩
  rw [← hR]
  refine k37_of rfl noPure fun I => ?_
  refine Run2.of I 1000 ?_
  simp -implicitDefEqProofs
  intro id2 a1 a2
  have a1' : ¬ ids = id2 := fun e => a1 e.symm
  refine gK.go ?_
  simp -implicitDefEqProofs
  refine (pick_m (b := b) (by simp [hget, a1]) hb (by omega) hl (by omega)).mono ?_
  rintro v h' ⟨n0, b1, rfl, hn0, hb1, rfl⟩
  refine gK.go ?_
  simp -implicitDefEqProofs [a1]
  refine ⟨by omega, fun id3 c1 c2 c3 => ?_⟩
  have c1' : ¬ id2 = id3 := fun e => c1 e.symm
  have c2' : ¬ ids = id3 := fun e => c2 e.symm
  refine gK.go ?_
  simp -implicitDefEqProofs [a1, a1', c1, c2, c1', c2']
  refine (among_m (l := [2, 2, 3, 9]) (b := b1) (by simp [hget, a1, c2]) hb1 (by omega) hl (by simp)).mono ?_
  rintro v h' ⟨many, b2, rfl, hmany, hb2, rfl⟩
  have hmany : 1 ≤ many ∧ many ≤ 9 := by simp at hmany; omega
  refine gK.go ?_
  simp -implicitDefEqProofs [a1, a1', c1, c2, c1', c2']
  refine (one_m (b := b2) (by simp [hget, a1, c2]) hb2 (by omega) hl (by omega)).mono ?_
  rintro v h' ⟨q, b3, rfl, hb3, rfl⟩
  have tail : ∀ (n : Nat) (many : Int), n ≤ 12 → (1 ≤ many ∧ many ≤ 9) → Run2 (k37_C noOrc) [.code k37_31, .inLoop k37_31, .inBlock 0, .code k37_36] [(0, .ptr ids 3 0 0), (2, .ptr id2 2 0 0), (3, .ptr id3 2 0 0), (4, .int .i64 many), (5, .int .i64 0)] ((id3, ⟨2, [.agg [.int .i64 n, .nilsl]]⟩) :: (id2, ⟨2, [.agg [.int .i64 0, .nilsl]]⟩) :: (ids, b3) :: h) (Post R) := by
    intro n many hn hmany
    refine Run2.loopE (α := Nat × Blk × List T × AV × Heap) (fun s => [(0, .ptr ids 3 0 0), (2, .ptr id2 2 0 0), (3, .ptr id3 2 0 0), (4, .int .i64 many), (5, .int .i64 (s.1 : Nat))])
      (fun s => s.2.2.2.2 ++ (id3, ⟨2, [.agg [.int .i64 n, s.2.2.2.1]]⟩) :: (id2, ⟨2, [.agg [.int .i64 0, .nilsl]]⟩) :: (ids, s.2.1) :: h) (fun s => n - s.1)
      (fun s => s.1 ≤ n ∧ isSrc code (k + 6 + 60 * (s.1 : Int)) s.2.1 ∧ esOk s.2.2.1 ∧ s.2.2.1.length ≤ 24 ∧ Grow 3 s.2.2.2.1 (s.2.2.1.map T.av) s.2.2.2.2)
      (0, b3, [], .nilsl, []) (by simp) (by simp) ⟨Nat.zero_le _, hb3.mono (by simp only; omega), ⟨by simp, by simp⟩, by simp, .nil⟩ ?_
    rintro ⟨a, bl, ts, w, gt⟩ ⟨ha, hbl, hts, htl, hg⟩ ih
    replace ha : a ≤ n := ha
    simp only at hbl hts htl hg ih ⊢
    refine Run2.nd fun nd => ?_
    have nd0 := nd
    simp only [dom_append, dom_cons, List.nodup_append, List.nodup_cons, List.mem_cons, not_or] at nd
    have g3 : id3 ∉ dom gt := fun h => nd.2.2 id3 h id3 (.inl rfl) rfl
    have g2 : id2 ∉ dom gt := fun h => nd.2.2 id2 h id2 (.inr (.inl rfl)) rfl
    have gs : ids ∉ dom gt := fun h => nd.2.2 ids h ids (.inr (.inr (.inl rfl))) rfl
    have hc := hg.cell
    by_cases hlt : a < n
    · have go := fun bl' ts' w' g' q1 q2 q3 q4 => ih (a + 1, bl', ts', w', g') ⟨hlt, q1, q2, q3, q4⟩ (by simp only; omega)
      clear ih
      simp only at go
      refine Run2.of I 1000 ?_
      simp -implicitDefEqProofs [hlt, hget_app g3, hget_app g2, hget_app gs, c1, c1', c2, c2', a1, a1', hc]
      refine ⟨by omega, ?_⟩
      refine Run2.loopE (α := Nat × Blk × List T × AV × Heap) (fun s => [(0, .ptr ids 3 0 0), (2, .ptr id2 2 0 0), (3, .ptr id3 2 0 0), (4, .int .i64 many), (5, .int .i64 a), (6, .int .i64 (s.1 : Nat))])
        (fun s => s.2.2.2.2 ++ (id3, ⟨2, [.agg [.int .i64 n, s.2.2.2.1]]⟩) :: (id2, ⟨2, [.agg [.int .i64 0, .nilsl]]⟩) :: (ids, s.2.1) :: h) (fun s => n - s.1)
        (fun s => (a + 1 ≤ s.1 ∧ s.1 ≤ n) ∧ isSrc code (k + 6 + 60 * (a : Int) + 4 * (s.1 : Int)) s.2.1 ∧ esOk s.2.2.1 ∧ s.2.2.1.length ≤ 24 ∧ Grow 3 s.2.2.2.1 (s.2.2.1.map T.av) s.2.2.2.2)
        (a + 1, bl, ts, w, gt) (by simp) (by simp) ⟨⟨Nat.le_refl _, hlt⟩, hbl.mono (by simp only; omega), hts, htl, hg⟩ ?_
      clear nd nd0 g3 g2 gs hc hbl hts htl hg
      rintro ⟨b, bl, ts, w, gt⟩ ⟨hb, hbl, hts, htl, hg⟩ ih
      simp only at hb hbl hts htl hg ih ⊢
      refine Run2.nd fun nd => ?_
      have nd0 := nd
      simp only [dom_append, dom_cons, List.nodup_append, List.nodup_cons, List.mem_cons, not_or] at nd
      have g3 : id3 ∉ dom gt := fun h => nd.2.2 id3 h id3 (.inl rfl) rfl
      have g2 : id2 ∉ dom gt := fun h => nd.2.2 id2 h id2 (.inr (.inl rfl)) rfl
      have gs : ids ∉ dom gt := fun h => nd.2.2 ids h ids (.inr (.inr (.inl rfl))) rfl
      have hc := hg.cell
      have hlen := hg.len
      by_cases hlb : b < n
      · have go2 := fun bl' ts' w' g' q1 q2 q3 q4 => ih (b + 1, bl', ts', w', g') ⟨⟨by simp only; omega, by simp only; omega⟩, q1, q2, q3, q4⟩ (by simp only; omega)
        clear ih go
        simp only at go2
        refine Run2.of I 1000 ?_
        simp -implicitDefEqProofs [hlb, hget_app g3, hget_app g2, hget_app gs, c1, c1', c2, c2', a1, a1', hc]
        refine (one_m (b := bl) (by simp [hget_app gs, hget, a1, c2]) hbl (by omega) hl (by omega)).mono ?_
        rintro v h' ⟨q, b4, rfl, hb4, rfl⟩
        rw [hset_app gs]
        simp only [hset, if_neg c2, if_neg a1, if_true]
        by_cases hq : q = false ∧ ts.length < 24
        · obtain ⟨rfl, hl24⟩ := hq
          have hl24 : (ts.length : Int) < 24 := by omega
          refine gK.go ?_
          simp -implicitDefEqProofs [hlb, hget_app g3, hget_app g2, hget_app gs, c1, c1', c2, c2', a1, a1', hc, hlen, hl24]
          refine ⟨?_, ?_⟩
          all_goals
            refine (among_m (l := [1, 1, 2, 3, 9]) (b := b4) (by simp [hget_app gs, hget, a1, c2]) hb4 (by omega) hl (by simp)).mono ?_
            rintro v h' ⟨wt, b5, rfl, hwt, hb5, rfl⟩
            have hwt : 1 ≤ wt ∧ wt ≤ 9 := by simp at hwt; omega
            rw [hset_app gs]
            simp only [hset, if_neg c2, if_neg a1, if_true]
            refine gK.go ?_
            simp -implicitDefEqProofs [hget_app g3, hget_app g2, hget_app gs, c1, c1', c2, c2', a1, a1', hc, cells_of hc, stor_of hc]
            refine hg.app_mid (pre := []) (by simp [dom]) (by simp; omega) (by simp) fun w' gt' hg' hd' => ?_
            have q3 : id3 ∉ dom gt' := fun h => hd' _ h (by simp [dom])
            have q2 : id2 ∉ dom gt' := fun h => hd' _ h (by simp [dom])
            have qs : ids ∉ dom gt' := fun h => hd' _ h (by simp [dom])
            have hc' := hg'.cell
            have go3 := go2 b5 (ts ++ [⟨a, b, wt⟩]) w' gt' (hb5.mono (by omega)) (hts.put (by omega) (by unfold eOk; simp only; omega)) (by simp; omega) (by simpa using hg')
            simp -implicitDefEqProofs [hget_app q3, hget_app q2, hget_app qs, hset_app q3, c1, c1', c2, c2', a1, a1', hc', cells_of hc', stor_of hc']
            exact ⟨by omega, by simpa using go3⟩
        · have go3 := go2 b4 ts w gt (hb4.mono (by omega)) hts htl hg
          cases q with
          | true =>
            refine gK.go ?_
            simp -implicitDefEqProofs [hlb, hget_app g3, hget_app g2, hget_app gs, c1, c1', c2, c2', a1, a1', hc]
            exact ⟨by omega, by simpa using go3⟩
          | false =>
            have hl24 : ¬ (ts.length : Int) < 24 := fun h => hq ⟨rfl, by omega⟩
            refine gK.go ?_
            simp -implicitDefEqProofs [hlb, hget_app g3, hget_app g2, hget_app gs, c1, c1', c2, c2', a1, a1', hc, hlen, hl24]
            exact ⟨by omega, by simpa using go3⟩
      · obtain rfl : b = n := by omega
        have go3 := go bl ts w gt (hbl.mono (by omega)) hts htl hg
        clear go ih
        refine Run2.of I 1000 ?_
        simp -implicitDefEqProofs [hget_app g3, hget_app g2, hget_app gs, c1, c1', c2, c2', a1, a1', hc]
        exact ⟨by omega, by simpa using go3⟩
    · obtain rfl : a = n := by omega
      clear ih
      refine Run2.of I 1000 ?_
      simp -implicitDefEqProofs [hget_app g3, hget_app g2, hget_app gs, hset_app g2, c1, c1', c2, c2', a1, a1', hc, cells_of hc, stor_of hc]
      refine .dmid g3 (.dmid g2 (.base ?_))
      rw [hR]
      exact ⟨a, ts, w, gt, bl, rfl, by omega, hts, htl, hg, hbl.mono (by omega), rfl⟩
  cases q with
  | true =>
    refine gK.go ?_
    simp -implicitDefEqProofs [a1, a1', c1, c2, c1', c2']
    exact tail 12 4 (by omega) (by omega)
  | false =>
    refine gK.go ?_
    simp -implicitDefEqProofs [a1, a1', c1, c2, c1', c2']
    have := tail (1 + n0).toNat many (by omega) hmany
    rw [show (((1 + n0).toNat : Nat) : Int) = 1 + n0 by omega] at this
    exact this
end Go.AG
namespace Go.AG
open Go.Proofs Go.Proofs.Ytpndpligcphonaa
set_option linter.unusedSimpArgs false
set_option linter.unusedVariables false
set_option maxRecDepth 4000
theorem ACalls.inSub' {P : Program} {g : FuncId} {args : List AV} {h h' : Heap} {R : AV → Heap → Prop} (p : h.Perm h') (H : ACalls P g args h' R) : ACalls P g args h R :=
  ⟨H.1, fun w vs hw hv => by
    obtain ⟨H', Ev⟩ := hw.sub (fun _ hq => p.mem_iff.2 hq) (nodup_perm p hw.nd)
    exact (H.2 w vs H' (Reps.mono Ev.keeps _ _ hv)).mono fun _ _ ⟨cv, v, h', e1, e2, e3, e4, e5⟩ => ⟨cv, v, h', e1, e2, e3, Ev.trans e4, e5⟩⟩
abbrev k22_o0 : List AJ := [.o ⟨(some 2), none, false, .alloc true 2 (.agg [(.int .i64 0), .nilsl]), (some [0, 2])⟩]
abbrev k22_o1 : List AJ := [.o ⟨(some 6), none, false, .mv (.t 0), none⟩, .o ⟨(some 7), none, false, .call 37 [(.t 6)], none⟩, .o ⟨(some 3), none, false, .alloc true 2 (.agg [(.int .i64 0), .nilsl]), none⟩, .o ⟨none, none, false, .store 2 (.t 3) (.t 7), (some [0, 2, 3])⟩]
abbrev k22_o2 : List AJ := [.o ⟨(some 8), none, false, .mv (.t 0), none⟩, .o ⟨(some 9), none, false, .call 24 [(.t 8), (.c (.int .i64 20))], (some [0, 2, 3, 9])⟩]
abbrev k22_o3 : List AJ := [.o ⟨(some 11), none, false, .bin .eql (.t 9) (.c (.int .i64 0)), none⟩, .o ⟨(some 10), none, false, .mv (.t 11), (some [0, 2, 3, 9, 10])⟩]
abbrev k22_o4 : List AJ := [.o ⟨(some 12), none, false, .mv (.t 0), none⟩, .o ⟨(some 13), none, false, .bsl false 1 [(.c (.int .i64 0)), (.c (.int .i64 12)), (.c (.int .i64 13))], none⟩, .o ⟨(some 14), none, false, .call 20 [(.t 12), (.t 13)], none⟩, .o ⟨(some 15), none, false, .fieldA 0 (.t 3), none⟩, .o ⟨none, none, false, .store 1 (.t 15) (.t 14), (some [2, 3])⟩]
def k22_4 : ACode := .region k22_o4
abbrev k22_o5 : List AJ := [.o ⟨(some 17), none, false, .bin .eql (.t 9) (.c (.int .i64 1)), none⟩, .o ⟨(some 16), none, false, .mv (.t 17), (some [0, 2, 3, 9, 16])⟩]
abbrev k22_o6 : List AI := [⟨(some 18), none, false, .fieldA 1 (.t 3), none⟩, ⟨(some 19), none, false, .load 1 false (.t 18), none⟩, ⟨(some 20), none, false, .mv (.t 0), none⟩, ⟨(some 21), none, false, .call 24 [(.t 20), (.c (.int .i64 3))], none⟩, ⟨(some 22), none, false, .mv (.t 0), none⟩, ⟨(some 23), none, false, .call 24 [(.t 22), (.c (.int .i64 4))], none⟩, ⟨(some 24), none, false, .build [(.int .i64 0), (.int .i64 0), (.int .i64 0)] [(0, 1, (.t 21)), (1, 1, (.t 23)), (2, 1, (.c (.int .i64 1)))], none⟩, ⟨(some 25), none, false, .bsl false 3 [(.t 24)], none⟩, ⟨(some 26), none, false, .append 3 24 (.t 19) (.t 25), none⟩, ⟨(some 27), none, false, .fieldA 1 (.t 3), none⟩, ⟨none, none, false, .store 1 (.t 27) (.t 26), none⟩]
abbrev k22_o7 : List AJ := [.o ⟨(some 18), none, false, .fieldA 1 (.t 3), none⟩, .o ⟨(some 20), none, false, .mv (.t 0), none⟩, .o ⟨(some 22), none, false, .mv (.t 0), none⟩, .o ⟨(some 19), none, false, .load 1 false (.t 18), none⟩, .o ⟨(some 21), none, false, .call 24 [(.t 20), (.c (.int .i64 3))], none⟩, .o ⟨(some 23), none, false, .call 24 [(.t 22), (.c (.int .i64 4))], none⟩, .o ⟨(some 24), none, false, .build [(.int .i64 0), (.int .i64 0), (.int .i64 0)] [(0, 1, (.t 21)), (1, 1, (.t 23)), (2, 1, (.c (.int .i64 1)))], none⟩, .o ⟨(some 25), none, false, .bsl false 3 [(.t 24)], none⟩, .o ⟨(some 26), none, false, .append 3 24 (.t 19) (.t 25), none⟩, .o ⟨(some 27), none, false, .fieldA 1 (.t 3), none⟩, .o ⟨none, none, false, .store 1 (.t 27) (.t 26), (some [2, 3])⟩]
abbrev k22_o8 : List AJ := [.o ⟨(some 18), none, false, .fieldA 1 (.t 3), none⟩, .o ⟨(some 20), none, false, .mv (.t 0), none⟩, .o ⟨(some 22), none, false, .mv (.t 0), none⟩, .o ⟨(some 21), none, false, .call 24 [(.t 20), (.c (.int .i64 3))], none⟩, .o ⟨(some 19), none, false, .load 1 false (.t 18), none⟩, .o ⟨(some 23), none, false, .call 24 [(.t 22), (.c (.int .i64 4))], none⟩, .o ⟨(some 24), none, false, .build [(.int .i64 0), (.int .i64 0), (.int .i64 0)] [(0, 1, (.t 21)), (1, 1, (.t 23)), (2, 1, (.c (.int .i64 1)))], none⟩, .o ⟨(some 25), none, false, .bsl false 3 [(.t 24)], none⟩, .o ⟨(some 26), none, false, .append 3 24 (.t 19) (.t 25), none⟩, .o ⟨(some 27), none, false, .fieldA 1 (.t 3), none⟩, .o ⟨none, none, false, .store 1 (.t 27) (.t 26), (some [2, 3])⟩]
abbrev k22_o9 : List AJ := [.o ⟨(some 18), none, false, .fieldA 1 (.t 3), none⟩, .o ⟨(some 20), none, false, .mv (.t 0), none⟩, .o ⟨(some 22), none, false, .mv (.t 0), none⟩, .o ⟨(some 21), none, false, .call 24 [(.t 20), (.c (.int .i64 3))], none⟩, .o ⟨(some 23), none, false, .call 24 [(.t 22), (.c (.int .i64 4))], none⟩, .o ⟨(some 19), none, false, .load 1 false (.t 18), none⟩, .o ⟨(some 24), none, false, .build [(.int .i64 0), (.int .i64 0), (.int .i64 0)] [(0, 1, (.t 21)), (1, 1, (.t 23)), (2, 1, (.c (.int .i64 1)))], none⟩, .o ⟨(some 25), none, false, .bsl false 3 [(.t 24)], none⟩, .o ⟨(some 26), none, false, .append 3 24 (.t 19) (.t 25), none⟩, .o ⟨(some 27), none, false, .fieldA 1 (.t 3), none⟩, .o ⟨none, none, false, .store 1 (.t 27) (.t 26), (some [2, 3])⟩]
def k22_6 : ACode := .drawE k22_o6 [k22_o7, k22_o8, k22_o9] [[0, 2, 4, 1, 3, 5, 6, 7, 8, 9, 10], [0, 2, 4, 3, 1, 5, 6, 7, 8, 9, 10], [0, 2, 4, 3, 5, 1, 6, 7, 8, 9, 10]] rfl rfl
abbrev k22_o10 : List AJ := [.o ⟨(some 29), none, false, .bin .eql (.t 9) (.c (.int .i64 2)), none⟩, .o ⟨(some 28), none, false, .mv (.t 29), (some [0, 2, 3, 9, 28])⟩]
abbrev k22_o11 : List AJ := [.o ⟨(some 30), none, false, .fieldA 1 (.t 3), none⟩, .o ⟨(some 31), none, false, .load 1 false (.t 30), none⟩, .o ⟨(some 32), none, false, .len (.t 31), none⟩, .o ⟨(some 33), none, false, .bin .gtr (.t 32) (.c (.int .i64 0)), (some [0, 2, 3, 33])⟩]
abbrev k22_o12 : List AI := [⟨(some 34), none, false, .fieldA 1 (.t 3), none⟩, ⟨(some 35), none, false, .load 1 false (.t 34), none⟩, ⟨(some 36), none, false, .mv (.t 0), none⟩, ⟨(some 37), none, false, .bsl false 1 [(.c (.int .i64 0)), (.c (.int .i64 9)), (.c (.int .i64 10))], none⟩, ⟨(some 38), none, false, .call 20 [(.t 36), (.t 37)], none⟩, ⟨(some 39), none, false, .idxA 3 (.t 35) (.c (.int .i64 0)), none⟩, ⟨(some 40), none, false, .fieldA 2 (.t 39), none⟩, ⟨none, none, false, .store 1 (.t 40) (.t 38), none⟩]
abbrev k22_o13 : List AJ := [.o ⟨(some 34), none, false, .fieldA 1 (.t 3), none⟩, .o ⟨(some 36), none, false, .mv (.t 0), none⟩, .o ⟨(some 37), none, false, .bsl false 1 [(.c (.int .i64 0)), (.c (.int .i64 9)), (.c (.int .i64 10))], none⟩, .o ⟨(some 35), none, false, .load 1 false (.t 34), none⟩, .o ⟨(some 38), none, false, .call 20 [(.t 36), (.t 37)], none⟩, .o ⟨(some 39), none, false, .idxA 3 (.t 35) (.c (.int .i64 0)), none⟩, .o ⟨(some 40), none, false, .fieldA 2 (.t 39), none⟩, .o ⟨none, none, false, .store 1 (.t 40) (.t 38), (some [2, 3])⟩]
abbrev k22_o14 : List AJ := [.o ⟨(some 34), none, false, .fieldA 1 (.t 3), none⟩, .o ⟨(some 36), none, false, .mv (.t 0), none⟩, .o ⟨(some 37), none, false, .bsl false 1 [(.c (.int .i64 0)), (.c (.int .i64 9)), (.c (.int .i64 10))], none⟩, .o ⟨(some 38), none, false, .call 20 [(.t 36), (.t 37)], none⟩, .o ⟨(some 35), none, false, .load 1 false (.t 34), none⟩, .o ⟨(some 39), none, false, .idxA 3 (.t 35) (.c (.int .i64 0)), none⟩, .o ⟨(some 40), none, false, .fieldA 2 (.t 39), none⟩, .o ⟨none, none, false, .store 1 (.t 40) (.t 38), (some [2, 3])⟩]
def k22_9 : ACode := .drawE k22_o12 [k22_o13, k22_o14] [[0, 2, 3, 1, 4, 5, 6, 7], [0, 2, 3, 4, 1, 5, 6, 7]] rfl rfl
def k22_10 : ACode := .cond (.t 33) k22_9 .skip
def k22_11 : ACode := .seq (.region k22_o11) k22_10
abbrev k22_o15 : List AJ := [.o ⟨(some 42), none, false, .bin .eql (.t 9) (.c (.int .i64 3)), none⟩, .o ⟨(some 41), none, false, .mv (.t 42), (some [0, 2, 3, 41])⟩]
abbrev k22_o16 : List AJ := [.o ⟨(some 43), none, false, .mv (.t 0), none⟩, .o ⟨(some 44), none, false, .bsl false 1 [(.c (.int .i64 24)), (.c (.int .i64 25))], none⟩, .o ⟨(some 45), none, false, .call 20 [(.t 43), (.t 44)], none⟩, .o ⟨(some 4), none, false, .mv (.t 45), (some [2, 3, 4])⟩]
abbrev k22_o17 : List AJ := [.o ⟨(some 46), none, false, .build [(.int .i64 0), .nilsl] [(0, 1, (.c (.int .i64 12)))], none⟩, .o ⟨none, none, false, .store 2 (.t 3) (.t 46), (some [2, 3, 4])⟩]
abbrev k22_o18 : List AJ := [.o ⟨(some 5), none, false, .mv (.c (.int .i64 0)), (some [2, 3, 4, 5])⟩]
abbrev k22_o19 : List AJ := [.o ⟨(some 47), none, false, .mv (.t 5), none⟩, .o ⟨(some 48), none, false, .mv (.t 4), none⟩, .o ⟨(some 49), none, false, .bin .lss (.t 47) (.t 48), (some [2, 3, 4, 5, 49])⟩]
def k22_17 : ACode := .cond (.t 49) .skip (.exit 1)
def k22_18 : ACode := .seq (.region k22_o19) k22_17
abbrev k22_o20 : List AJ := [.o ⟨(some 52), none, false, .fieldA 1 (.t 3), none⟩, .o ⟨(some 53), none, false, .load 1 false (.t 52), none⟩, .o ⟨(some 54), none, false, .mv (.t 5), none⟩, .o ⟨(some 55), none, true, .bin .quo (.t 54) (.c (.int .i64 8)), none⟩, .o ⟨(some 56), none, false, .mv (.t 5), none⟩, .o ⟨(some 57), none, false, .bin .rem (.t 56) (.c (.int .i64 8)), none⟩, .o ⟨(some 58), none, true, .bin .add (.c (.int .i64 3)) (.t 57), none⟩, .o ⟨(some 59), none, false, .build [(.int .i64 0), (.int .i64 0), (.int .i64 0)] [(0, 1, (.t 55)), (1, 1, (.t 58)), (2, 1, (.c (.int .i64 1)))], none⟩, .o ⟨(some 60), none, false, .bsl false 3 [(.t 59)], none⟩, .o ⟨(some 61), none, false, .append 3 24 (.t 53) (.t 60), none⟩, .o ⟨(some 62), none, false, .fieldA 1 (.t 3), none⟩, .o ⟨none, none, false, .store 1 (.t 62) (.t 61), (some [2, 3, 4, 5])⟩]
def k22_19 : ACode := .region k22_o20
abbrev k22_o21 : List AJ := [.o ⟨(some 50), none, false, .mv (.t 5), none⟩, .o ⟨(some 51), none, true, .bin .add (.t 50) (.c (.int .i64 1)), none⟩, .o ⟨(some 5), none, false, .mv (.t 51), (some [2, 3, 4, 5])⟩]
def k22_21 : ACode := .region k22_o21
def k22_22 : ACode := .seq (.block 2 k22_19) k22_21
def k22_23 : ACode := .seq k22_18 k22_22
def k22_24 : ACode := .loop k22_23
def k22_25 : ACode := .block 1 k22_24
def k22_26 : ACode := .seq (.region k22_o18) k22_25
def k22_27 : ACode := .seq (.region k22_o17) k22_26
def k22_28 : ACode := .seq (.region k22_o16) k22_27
def k22_29 : ACode := .cond (.t 41) k22_28 .skip
def k22_30 : ACode := .seq (.region k22_o15) k22_29
def k22_31 : ACode := .cond (.t 28) k22_11 k22_30
def k22_32 : ACode := .seq (.region k22_o10) k22_31
def k22_33 : ACode := .cond (.t 16) k22_6 k22_32
def k22_34 : ACode := .seq (.region k22_o5) k22_33
def k22_35 : ACode := .cond (.t 10) k22_4 k22_34
def k22_36 : ACode := .seq (.region k22_o3) k22_35
def k22_37 : ACode := .block 0 k22_36
def k22_38 : ACode := .seq (.region k22_o2) k22_37
abbrev k22_o22 : List AJ := [.o ⟨(some 63), none, false, .load 2 true (.t 3), none⟩, .o ⟨none, none, false, .store 2 (.t 2) (.t 63), (some [2])⟩]
def k22_40 : ACode := .seq (.region k22_o22) .ret
def k22_41 : ACode := .seq k22_38 k22_40
def k22_42 : ACode := .seq (.region k22_o1) k22_41
def k22_43 : ACode := .seq (.region k22_o0) k22_42
@[simp, simp ↓] theorem k22_4r : rR k22_4 k22_o4 := zR rfl
@[simp, simp ↓] theorem k22_6r : rE k22_6 [k22_o7, k22_o8, k22_o9] := zE rfl
@[simp, simp ↓] theorem k22_9r : rE k22_9 [k22_o13, k22_o14] := zE rfl
@[simp, simp ↓] theorem k22_10r : rC k22_10 (.t 33) k22_9 .skip := zC rfl
@[simp, simp ↓] theorem k22_11r : sR k22_11 k22_o11 k22_10 := yR rfl
@[simp, simp ↓] theorem k22_17r : rC k22_17 (.t 49) .skip (.exit 1) := zC rfl
@[simp, simp ↓] theorem k22_18r : sR k22_18 k22_o19 k22_17 := yR rfl
@[simp, simp ↓] theorem k22_19r : rR k22_19 k22_o20 := zR rfl
@[simp, simp ↓] theorem k22_21r : rR k22_21 k22_o21 := zR rfl
@[simp, simp ↓] theorem k22_22r : sB k22_22 2 k22_19 k22_21 := yB rfl
@[simp, simp ↓] theorem k22_23r : rS k22_23 k22_18 k22_22 := zS rfl
@[simp, simp ↓] theorem k22_24r : rL k22_24 k22_23 := zL rfl
@[simp, simp ↓] theorem k22_25r : rB k22_25 1 k22_24 := zB rfl
@[simp, simp ↓] theorem k22_26r : sR k22_26 k22_o18 k22_25 := yR rfl
@[simp, simp ↓] theorem k22_27r : sR k22_27 k22_o17 k22_26 := yR rfl
@[simp, simp ↓] theorem k22_28r : sR k22_28 k22_o16 k22_27 := yR rfl
@[simp, simp ↓] theorem k22_29r : rC k22_29 (.t 41) k22_28 .skip := zC rfl
@[simp, simp ↓] theorem k22_30r : sR k22_30 k22_o15 k22_29 := yR rfl
@[simp, simp ↓] theorem k22_31r : rC k22_31 (.t 28) k22_11 k22_30 := zC rfl
@[simp, simp ↓] theorem k22_32r : sR k22_32 k22_o10 k22_31 := yR rfl
@[simp, simp ↓] theorem k22_33r : rC k22_33 (.t 16) k22_6 k22_32 := zC rfl
@[simp, simp ↓] theorem k22_34r : sR k22_34 k22_o5 k22_33 := yR rfl
@[simp, simp ↓] theorem k22_35r : rC k22_35 (.t 10) k22_4 k22_34 := zC rfl
@[simp, simp ↓] theorem k22_36r : sR k22_36 k22_o3 k22_35 := yR rfl
@[simp, simp ↓] theorem k22_37r : rB k22_37 0 k22_36 := zB rfl
@[simp, simp ↓] theorem k22_38r : sR k22_38 k22_o2 k22_37 := yR rfl
@[simp, simp ↓] theorem k22_40r : sR k22_40 k22_o22 .ret := yR rfl
@[simp, simp ↓] theorem k22_41r : rS k22_41 k22_38 k22_40 := zS rfl
@[simp, simp ↓] theorem k22_42r : sR k22_42 k22_o1 k22_41 := yR rfl
@[simp, simp ↓] theorem k22_43r : sR k22_43 k22_o0 k22_42 := yR rfl
noncomputable abbrev k22_C : Orc → Cx := mkC Try.prog [2, 3, 99998] 22 64 [.cell 2 2 true]
theorem k22_of : OfP Try.prog Try.f22 22 64 k22_C k22_43 := @ofP _ _ _ _ _ _ _ _ Try.func22 (by decide +kernel) rfl (by kernel_rfl) rfl (by kernel_rfl)
theorem l16Draw_m {ids : Nat} {code : List UInt8} {k : Int} {b : Blk} {h : Heap} (hid : ids ∉ dom h) (hb : isSrc code k b) (hk : k ≤ 50000) (hl : code.length ≤ 1048576) :
    ACalls Try.prog 22 [.ptr ids 3 0 0] ((ids, b) :: h) (DrG code ids (k + 2000) 60 h) := by
  obtain ⟨R, hR⟩ : ∃ R, R = DrG code ids (k + 2000) 60 h := ⟨_, rfl⟩
  rw [← hR]
  have fin : ∀ (n : Int) (ts : List T) (w : AV) (g : Heap) (b' : Blk), (0 ≤ n ∧ n ≤ 100) → esOk ts → Grow 3 w (ts.map T.av) g → isSrc code (k + 2000) b' → R (.agg [.int .i64 n, w]) (g ++ ((ids, b') :: h)) := fun n ts w g b' a1 a2 a3 a4 => by
    rw [hR]; exact ⟨n, ts, w, g, b', rfl, a1, a2, a2.1, a3, a4, rfl⟩
  clear hR
  refine k22_of rfl noPure fun I => ?_
  refine Run2.of I 1000 ?_
  simp -implicitDefEqProofs
  intro id2 a1 a2
  have a1' : ¬ ids = id2 := fun e => a1 e.symm
  refine gK.go ?_
  simp -implicitDefEqProofs
  refine ACalls.inSub' (List.Perm.swap ..) ((l16DrawOk_m (h := (id2, ⟨2, [.agg [.int .i64 0, .nilsl]]⟩) :: h) (by simp only [dom_cons, List.mem_cons, not_or]; exact ⟨a1', hid⟩) hb (by omega) hl).monoN ?_)
  rintro v h' ⟨n, ts, w, g, b1, rfl, hn, hts, h24, hg, hb1, rfl⟩ nd
  have hc := hg.cell
  have hlen := hg.len
  have hst := stor_of hc
  have hcl := cells_of hc
  simp only [dom_append, dom_cons, List.nodup_append, List.nodup_cons, List.mem_cons, not_or] at nd
  have gs : ids ∉ dom g := fun h => nd.2.2 ids h ids (.inl rfl) rfl
  have g2 : id2 ∉ dom g := fun h => nd.2.2 id2 h id2 (.inr (.inl rfl)) rfl
  refine gK.go ?_
  simp -implicitDefEqProofs [hc]
  intro id3 c1 c2 c3 c4
  have c2' : ¬ ids = id3 := fun e => c2 e.symm
  have c3' : ¬ id2 = id3 := fun e => c3 e.symm
  refine gK.go ?_
  simp -implicitDefEqProofs [hc, c1, c2, c3, c2', c3', a1, a1', hget_app gs, hget_app g2, hget_app c1]
  refine (pick_m (b := b1) (by simp [hget, c2, hget_app gs]) hb1 (by omega) hl (by omega)).mono ?_
  rintro v h' ⟨q, b2, rfl, hq, hb2, rfl⟩
  simp only [hset, if_neg c2, hset_app gs, if_true]
  have fin2 : ∀ (n : Int) (ts : List T) (w : AV) (g : Heap) (b' : Blk) (blk3 blk2 : Blk), id2 ∉ dom g → (0 ≤ n ∧ n ≤ 100) → esOk ts → Grow 3 w (ts.map T.av) g → isSrc code (k + 2000) b' → Post R (.agg [.int .i64 n, w]) ((id3, blk3) :: (g ++ (ids, b') :: (id2, blk2) :: h)) := fun n ts w g b' blk3 blk2 p2 q1 q2 q3 q4 => by
    refine .drop id3 ?_
    simp only [hdel, if_true]
    refine .drop id2 ?_
    rw [hdel_app p2]
    simp only [hdel, if_neg a1', if_true]
    exact .base (fin n ts w g b' q1 q2 q3 q4)
  have fin3 : ∀ (n : Int) (ts : List T) (w : AV) (g : Heap) (b' : Blk) (blk3 blk2 : Blk), id3 ∉ dom g → id2 ∉ dom g → (0 ≤ n ∧ n ≤ 100) → esOk ts → Grow 3 w (ts.map T.av) g → isSrc code (k + 2000) b' → Post R (.agg [.int .i64 n, w]) (g ++ (id3, blk3) :: (ids, b') :: (id2, blk2) :: h) := fun n ts w g b' blk3 blk2 p3 p2 q1 q2 q3 q4 => by
    refine .drop id3 ?_
    rw [hdel_app p3]
    simp only [hdel, if_true]
    refine .drop id2 ?_
    rw [hdel_app p2]
    simp only [hdel, if_neg a1', if_true]
    exact .base (fin n ts w g b' q1 q2 q3 q4)
  have hq4 : q = 0 ∨ q = 1 ∨ q = 2 ∨ q = 3 ∨ (¬ q = 0 ∧ ¬ q = 1 ∧ ¬ q = 2 ∧ ¬ q = 3) := by omega
  rcases hq4 with rfl | rfl | rfl | rfl | ⟨q0, q1, q2, q3⟩
  · refine gK.go ?_
    simp -implicitDefEqProofs
    refine (among_m (l := [0, 12, 13]) (b := b2) (by simp [hget, c2, hget_app gs]) hb2 (by omega) hl (by simp)).mono ?_
    rintro v h' ⟨n', b3, rfl, hn', hb3, rfl⟩
    have hn' : 0 ≤ n' ∧ n' ≤ 13 := by simp at hn'; omega
    simp only [hset, if_neg c2, hset_app gs, if_true]
    refine gK.go ?_
    simp -implicitDefEqProofs [hc, hst, hcl, c1, c2, c3, c2', c3', a1, a1', hget_app gs, hget_app g2, hget_app c1, hset_app g2]
    exact fin2 n' ts w g b3 _ _ g2 (by omega) hts hg (hb3.mono (by omega))
  · refine gK.go ?_
    simp -implicitDefEqProofs [hc, hst, hcl, c1, c2, c3, c2', c3', a1, a1', hget_app gs, hget_app g2, hget_app c1]
    refine ⟨?_, ?_, ?_⟩
    all_goals
      refine (pick_m (b := b2) (by simp [hget, c2, hget_app gs]) hb2 (by omega) hl (by omega)).mono ?_
      rintro v h' ⟨r1, b3, rfl, hr1, hb3, rfl⟩
      simp only [hset, if_neg c2, hset_app gs, if_true]
      refine gK.go ?_
      simp -implicitDefEqProofs [hc, hst, hcl, c1, c2, c3, c2', c3', a1, a1', hget_app gs, hget_app g2, hget_app c1]
      refine (pick_m (b := b3) (by simp [hget, c2, hget_app gs]) hb3 (by omega) hl (by omega)).mono ?_
      rintro v h' ⟨r2, b4, rfl, hr2, hb4, rfl⟩
      simp only [hset, if_neg c2, hset_app gs, if_true]
      refine gK.go ?_
      simp -implicitDefEqProofs [hc, hst, hcl, c1, c2, c3, c2', c3', a1, a1', hget_app gs, hget_app g2, hget_app c1]
      refine hg.app_mid (pre := [(id3, _)]) (post := (ids, b4) :: (id2, _) :: h) (fun j hj hm => ?_) (by have := hts.1; simp; omega) (by simp) fun w' gt' hg' hd' => ?_
      · simp only [dom, List.map_cons, List.map_nil, List.mem_singleton] at hm
        subst hm
        exact c1 hj
      · have p3 : id3 ∉ dom gt' := fun h => hd' _ h (by simp [dom])
        have p2 : id2 ∉ dom gt' := fun h => hd' _ h (by simp [dom])
        have ps : ids ∉ dom gt' := fun h => hd' _ h (by simp [dom])
        have hc' := hg'.cell
        simp -implicitDefEqProofs [hget_app p3, hget_app p2, hget_app ps, hset_app p3, hset_app p2, hc', cells_of hc', stor_of hc', c1, c2, c3, c2', c3', a1, a1']
        exact fin3 n (ts ++ [⟨r1, r2, 1⟩]) w' gt' b4 _ _ p3 p2 hn (hts.put (by omega) (by unfold eOk; simp only; omega)) (by simpa using hg') (hb4.mono (by omega))
  · by_cases hts0 : ts = []
    · subst hts0
      refine gK.go ?_
      simp -implicitDefEqProofs [hc, hst, hcl, hlen, c1, c2, c3, c2', c3', a1, a1', hget_app gs, hget_app g2, hget_app c1, hset_app g2]
      exact fin2 n [] w g b2 _ _ g2 hn hts hg (hb2.mono (by omega))
    · have hpos : 0 < ts.length := List.length_pos_iff.2 hts0
      refine gK.go ?_
      simp -implicitDefEqProofs [hc, hst, hcl, hlen, hpos, c1, c2, c3, c2', c3', a1, a1', hget_app gs, hget_app g2, hget_app c1]
      refine ⟨?_, ?_⟩
      all_goals
        refine (among_m (l := [0, 9, 10]) (b := b2) (by simp [hget, c2, hget_app gs]) hb2 (by omega) hl (by simp)).mono ?_
        rintro v h' ⟨c, b3, rfl, hcm, hb3, rfl⟩
        have hcm : 0 ≤ c ∧ c ≤ 10 := by simp at hcm; omega
        simp only [hset, if_neg c2, hset_app gs, if_true]
        obtain ⟨idg, rfl, rfl⟩ := hg.ne (by simpa using hts0)
        simp only [dom, List.map_cons, List.map_nil, List.mem_singleton] at gs g2 c1
        obtain ⟨t0, ts', rfl⟩ : ∃ t0 ts', ts = t0 :: ts' := by
          cases ts with
          | nil => exact absurd rfl hts0
          | cons t0 ts' => exact ⟨t0, ts', rfl⟩
        have gs' : ¬ idg = ids := fun e => gs e.symm
        have g2' : ¬ idg = id2 := fun e => g2 e.symm
        have c1' : ¬ idg = id3 := fun e => c1 e.symm
        refine gK.go ?_
        simp -implicitDefEqProofs [hlen, hpos, gs, g2, c1, gs', g2', c1', c2, c3, c2', c3', a1, a1']
        have hts' : esOk (⟨t0.f, t0.t, c⟩ :: ts') := ⟨hts.1, fun x hx => by
          rcases List.mem_cons.1 hx with rfl | hx
          · have := hts.2 t0 (List.mem_cons_self ..)
            unfold eOk at this ⊢
            simp only
            omega
          · exact hts.2 x (List.mem_cons_of_mem _ hx)⟩
        exact fin2 n (⟨t0.f, t0.t, c⟩ :: ts') (.sl idg 3 0 (ts'.length + 1) none) [(idg, ⟨3, (⟨t0.f, t0.t, c⟩ :: ts' : List T).map T.av⟩)] b3 _ _ (by simpa [dom] using g2) hn hts' (.sl idg _ _ (by simp)) (hb3.mono (by omega))
  · refine gK.go ?_
    simp -implicitDefEqProofs [hc, hst, hcl, c1, c2, c3, c2', c3', a1, a1', hget_app gs, hget_app g2, hget_app c1]
    refine (among_m (l := [24, 25]) (b := b2) (by simp [hget, c2, hget_app gs]) hb2 (by omega) hl (by simp)).mono ?_
    rintro v h' ⟨c, b3, rfl, hcm, hb3, rfl⟩
    have hcm : 24 ≤ c ∧ c ≤ 25 := by simp at hcm; omega
    obtain ⟨m, rfl⟩ : ∃ m : Nat, c = (m : Int) := ⟨c.toNat, by omega⟩
    simp only [hset, if_neg c2, hset_app gs, if_true]
    refine gK.go ?_
    simp -implicitDefEqProofs [hc, hst, hcl, c1, c2, c3, c2', c3', a1, a1', hget_app gs, hget_app g2, hget_app c1]
    refine Run2.sub (h' := (id3, ⟨2, [.agg [.int .i64 12, .nilsl]]⟩) :: (ids, b3) :: (id2, ⟨2, [.agg [.int .i64 0, .nilsl]]⟩) :: h) (fun p hp => ?_) (fun nd2 => ?_) ?_
    · simp only [List.mem_cons, List.mem_append] at hp ⊢
      rcases hp with hp | hp
      · exact .inl hp
      · exact .inr (.inr hp)
    · simp only [dom_append, dom_cons, List.nodup_cons, List.nodup_append, List.mem_append, List.mem_cons, not_or] at nd2 ⊢
      exact ⟨nd2.1.2, nd2.2.2.1⟩
    refine Run2.loopE (α := Nat × List T × AV × Heap) (fun s => [(2, .ptr id2 2 0 0), (3, .ptr id3 2 0 0), (4, .int .i64 m), (5, .int .i64 (s.1 : Nat))])
      (fun s => s.2.2.2 ++ (id3, ⟨2, [.agg [.int .i64 12, s.2.2.1]]⟩) :: (ids, b3) :: (id2, ⟨2, [.agg [.int .i64 0, .nilsl]]⟩) :: h) (fun s => m - s.1)
      (fun s => s.1 ≤ m ∧ esOk s.2.1 ∧ s.2.1.length = s.1 ∧ Grow 3 s.2.2.1 (s.2.1.map T.av) s.2.2.2) (0, [], .nilsl, []) (by simp) (by simp) ⟨Nat.zero_le _, ⟨by simp, by simp⟩, rfl, .nil⟩ ?_
    rintro ⟨i, es, w', gt⟩ ⟨hi, hes, hel, hgt⟩ ih
    replace hi : i ≤ m := hi
    simp only at hes hel hgt ih ⊢
    refine Run2.nd fun nd2 => ?_
    simp only [dom_append, dom_cons, List.nodup_append, List.nodup_cons, List.mem_cons, not_or] at nd2
    have p3 : id3 ∉ dom gt := fun h => nd2.2.2 id3 h id3 (.inl rfl) rfl
    have ps : ids ∉ dom gt := fun h => nd2.2.2 ids h ids (.inr (.inl rfl)) rfl
    have p2 : id2 ∉ dom gt := fun h => nd2.2.2 id2 h id2 (.inr (.inr (.inl rfl))) rfl
    have hc' := hgt.cell
    by_cases hlt : i < m
    · have hd : (i : Int).tdiv 8 = (i : Int) / 8 := Int.tdiv_eq_ediv_of_nonneg (by omega)
      have hm : (i : Int).tmod 8 = (i : Int) % 8 := Int.tmod_eq_emod_of_nonneg (by omega)
      have go := fun es' w'' g' q1 q2 q3 => ih (i + 1, es', w'', g') ⟨hlt, q1, q2, q3⟩ (by simp only; omega)
      clear ih
      simp only at go
      refine Run2.of I 1000 ?_
      simp -implicitDefEqProofs [hlt, hd, hm, hget_app p3, hget_app p2, hget_app ps, hc', cells_of hc', stor_of hc', c2, c3, c2', c3', a1, a1']
      refine ⟨by omega, by omega, ?_⟩
      refine hgt.app_mid (pre := []) (by simp [dom]) (by simp; omega) (by simp) fun w2 g2 hg2 hd2 => ?_
      have q3 : id3 ∉ dom g2 := fun h => hd2 _ h (by simp [dom])
      have q2 : id2 ∉ dom g2 := fun h => hd2 _ h (by simp [dom])
      have qs : ids ∉ dom g2 := fun h => hd2 _ h (by simp [dom])
      have hc2 := hg2.cell
      have go3 := go (es ++ [⟨i / 8, 3 + i % 8, 1⟩]) w2 g2 (hes.put (by omega) (by unfold eOk; simp only; omega)) (by simp; omega) (by simpa using hg2)
      simp -implicitDefEqProofs [hget_app q3, hget_app q2, hget_app qs, hset_app q3, hc2, cells_of hc2, stor_of hc2, c2, c3, c2', c3', a1, a1']
      exact ⟨by omega, by simpa using go3⟩
    · obtain rfl : i = m := by omega
      clear ih
      refine Run2.of I 1000 ?_
      simp -implicitDefEqProofs [hget_app p3, hget_app p2, hget_app ps, hset_app p2, hc', cells_of hc', stor_of hc', c2, c3, c2', c3', a1, a1']
      exact fin3 12 es w' gt b3 _ _ p3 p2 (by omega) hes hgt (hb3.mono (by omega))
  · refine gK.go ?_
    simp -implicitDefEqProofs [q0, q1, q2, q3, hc, hst, hcl, c1, c2, c3, c2', c3', a1, a1', hget_app gs, hget_app g2, hget_app c1, hset_app g2]
    exact fin2 n ts w g b2 _ _ g2 hn hts hg (hb2.mono (by omega))
end Go.AG
