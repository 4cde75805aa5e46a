/- Appending, making, clearing and storing are right. No statement about the program is made here. -/
import Derived.Test.YtebkdegjiollbaaAGEff
namespace Go.AG
open Go.RowKit
section
variable {P : Program} {M : List Nat} {w : World} {h : Heap} {e : Env} {tmps : Array Value} {ds : List Deferred}

theorem dom_cons (i : Nat) (b : Blk) (h : Heap) : dom ((i, b) :: h) = i :: dom h := rfl
theorem mem_dom_hdel : ∀ {h : Heap} {k x : Nat}, x ∈ dom h → x ≠ k → x ∈ dom (hdel h k)
  | [], _, _, hm, _ => by simp [dom] at hm
  | (i, b) :: h, k, x, hm, hx => by
    simp only [hdel]
    rcases List.mem_cons.1 hm with rfl | hm
    · rw [if_neg hx]; exact List.mem_cons_self ..
    · split
      · exact hm
      · exact List.mem_cons_of_mem _ (mem_dom_hdel hm hx)
theorem notMem_hdel {h : Heap} {k : Nat} (nd : (dom h).Nodup) : k ∉ dom (hdel h k) := fun hm => by
  obtain ⟨p, hp, e⟩ := List.mem_map.1 hm
  exact (mem_hdel nd hp).1 e
/-- The same blocks in another order. -/
theorem HRel.perm (H : HRel w h) {h' : Heap} (nd : (dom h').Nodup) (hm : ∀ p ∈ h', p ∈ h) : HRel w h' ∧ Keeps w w (dom h) (dom h') := by
  have K : Keeps w w (dom h) (dom h') := ⟨Nat.le_refl _, fun _ _ _ => rfl, fun b _ hb hm' => hb (by
    obtain ⟨p, hp, e⟩ := List.mem_map.1 hm'
    exact List.mem_map.2 ⟨p, hm p hp, e⟩), fun _ c _ _ h => ⟨c, h, rfl⟩⟩
  refine ⟨⟨nd, fun p hp => ?_, H.fix.mono K⟩, K⟩
  obtain ⟨c, el, e, hE⟩ := H.all p (hm p hp)
  exact ⟨c, el, e, Elems.mono K _ _ _ _ (fun _ => rfl) hE⟩
theorem mem_hset_of : ∀ {h : Heap} {k : Nat} {c : Blk}, k ∈ dom h → (k, c) ∈ hset h k c
  | [], _, _, hm => by simp [dom] at hm
  | (i, b) :: h, k, c, hm => by
    simp only [hset]
    split
    · rename_i hik; rw [hik]; exact List.mem_cons_self ..
    · rename_i hik
      rcases List.mem_cons.1 hm with rfl | hm
      · exact absurd rfl hik
      · exact List.mem_cons_of_mem _ (mem_hset_of hm)
theorem mem_hset_other : ∀ {h : Heap} {k : Nat} {c : Blk} {p : Nat × Blk}, p ∈ h → p.1 ≠ k → p ∈ hset h k c
  | [], _, _, _, hm, _ => by cases hm
  | (i, b) :: h, k, c, p, hm, hp => by
    simp only [hset]
    split
    · rename_i hik
      rcases List.mem_cons.1 hm with rfl | hm
      · exact absurd hik hp
      · exact List.mem_cons_of_mem _ hm
    · rcases List.mem_cons.1 hm with rfl | hm
      · exact List.mem_cons_self ..
      · exact List.mem_cons_of_mem _ (mem_hset_other hm hp)
theorem HRel.front {k : Nat} {c : Blk} (H : HRel w (hset h k c)) (nd : (dom h).Nodup) (hk : k ∈ dom h) : HRel w ((k, c) :: hdel h k) ∧ Keeps w w (dom (hset h k c)) (dom ((k, c) :: hdel h k)) := by
  refine H.perm ?_ (fun p hp => ?_)
  · rw [dom_cons]; exact List.nodup_cons.2 ⟨notMem_hdel nd, nodup_hdel nd⟩
  · rcases List.mem_cons.1 hp with rfl | hp
    · exact mem_hset_of hk
    · exact mem_hset_other (mem_hdel nd hp).2 (mem_hdel nd hp).1

/-- A new row of elements, with cells behind them. -/
theorem HRel.row (H : HRel w h) {sz : Nat} {L : List AV} {fl rest : List Value} (F : FlatRep w (dom h) sz L fl) (el : TypeId) :
    HRel (w.alloc (.cells ⟨fl ++ rest⟩ el)) ((w.heap.size, ⟨sz, L⟩) :: h) ∧ Evolve w (dom h) (w.alloc (.cells ⟨fl ++ rest⟩ el)) (w.heap.size :: dom h) := by
  have K : Keeps w (w.alloc (.cells ⟨fl ++ rest⟩ el)) (dom h) (w.heap.size :: dom h) := by
    refine ⟨by simp, fun b hb _ => Below.heap_alloc _ _ _ hb, fun b hb hd hm => ?_, alloc_rows w _⟩
    rcases List.mem_cons.1 hm with rfl | hm
    · omega
    · exact hd hm
  exact H.alloc ⟨fl ++ rest⟩ el ⟨sz, L⟩ ((F.mono K).elems (fun j v hv => by
    have hlt := (List.getElem?_eq_some_iff.1 hv).1
    rw [Nat.zero_add, World.cell?_alloc_new]
    simp only [List.getElem?_toArray, List.getElem?_append_left hlt]
    exact hv))

theorem append_run {t u el : TypeId} (hel : elemT P t = some el) (hu : (match P.underlying u with | some (.slice _) => true | _ => false) = true) {z : AV} (hz : zeroT P el = some z)
    (H : HRel w h) {x : AV} {new : List AV} (hx : elemsOf h (P.cellsOf el) x = some new) {xv : Value} (hxv : Rep w (dom h) x xv)
    {old : List AV} {A : Option Addr} {n c : Nat} {fo : List Value} (ty : TypeId) :
    (n + new.length ≤ c → ∃ fl, FlatRep w (dom h) (P.cellsOf el) new fl ∧ (Builtin.append_ #[t, u] ty #[.slice A n c, xv]).run P w =
        (match A with | some a => (storeCells (a.add (n * P.cellsOf el)) fl).run P w | none => .ok () w).andThen fun _ w' => .ok (.slice A (n + new.length) c) w') ∧
    (¬ n + new.length ≤ c → (2 * (n + new.length)) * P.bytesOf el ≤ 281474976710656 → (∀ w1, w1.heap = w.heap → (Builtin.firstCells (P.cellsOf el) n (.slice A n c)).run P w1 = .ok ⟨fo⟩ w1) → FlatRep w (dom h) (P.cellsOf el) old fo →
      ∃ (rest : List Value) (fl : List Value) (nc : Nat) (w1 : World), n + new.length ≤ nc ∧ w1 = { w with drawn := w.drawn + 1 } ∧ FlatRep w (dom h) (P.cellsOf el) (old ++ new) fl ∧
        (Builtin.append_ #[t, u] ty #[.slice A n c, xv]).run P w = .ok (.slice (some ⟨w.heap.size, 0, none⟩) (n + new.length) nc) (w1.alloc (.cells ⟨fl ++ rest⟩ el)) ∧ (n = old.length → (fl ++ rest).length = nc * P.cellsOf el)) := by
  obtain ⟨hut, hkn, hne, hby⟩ := elemT_spec hel
  obtain ⟨us, A', c', rfl, hfc, F⟩ := firstCells_run (P := P) H hx hxv
  obtain ⟨du, hdu⟩ : ∃ d, P.underlying u = some (.slice d) := by
    split at hu <;> first | (cases hu; done) | exact ⟨_, ‹_›⟩
  obtain ⟨i, v, hi, hzv, hzz, hzl, hzs⟩ := zeroT_spec hz
  have hbo : P.bytesOf el = i.bytes := by simp [Program.bytesOf, hi]
  constructor
  · intro hle
    refine ⟨us, F, ?_⟩
    simp only [Builtin.append_]
    simp [run_underlying hut, run_underlying hdu, run_sizeOf_k hkn, Builtin.lenOf, hle, hfc w rfl]
    cases A <;> simp
  · intro hgt hbnd hold Fo
    have hpos : 0 < P.bytesOf el := Nat.pos_of_ne_zero hby
    have hfit : Builtin.nextslicecap (n + new.length) c * i.bytes ≤ 281474976710656 := by
      rw [← hbo]
      exact Nat.le_trans (Nat.mul_le_mul_right _ (nextslicecap_le (by omega))) hbnd
    have hneed : n + new.length ≤ 281474976710656 := by
      have : (2 * (n + new.length)) * 1 ≤ (2 * (n + new.length)) * P.bytesOf el := Nat.mul_le_mul_left _ hpos
      omega
    let w1 : World := { w with drawn := w.drawn + 1 }
    have hfc1 := hfc w1 rfl
    have hold1 := hold w1 rfl
    let q : Question := .appendCap (n + new.length) c el
    let nc : Nat := q.cut (w.tape w.drawn q)
    have hnc : n + new.length ≤ nc := by simp only [nc, q, Question.cut]; omega
    have hvs : v.cells.size = P.cellsOf el := by
      have := Reps_length ((zeroAV_rep (w := w) (D := []) hzz).cells hzs).1
      rw [hzl] at this
      simpa [Program.cellsOf, hi] using this
    refine ⟨(Builtin.zeroCells v.cells (nc - (n + new.length))).toList, fo ++ us, nc, w1, hnc, rfl, Fo.append F, ?_, fun hn => by
      have h1 := Fo.len
      have h2 := F.len
      simp only [List.length_append, Array.length_toList, Builtin.zeroCells, Array.size_map, Array.size_range, h1, h2, hvs, ← Nat.add_mul]
      congr 1
      omega⟩
    simp only [Builtin.append_]
    have hb0 : i.bytes ≠ 0 := by rw [← hbo]; exact hby
    have hzr : (zeroValue el).run P w1 = .ok v w1 := by simp [zeroValue, run_typeInfo w1 hi, hzv]
    have hi1 := run_typeInfo w1 hi
    simp [run_underlying hut, run_underlying hdu, run_sizeOf_k hkn, Builtin.lenOf, hgt, run_typeInfo w hi, hb0]
    rw [if_neg (by omega), if_neg (by simp [Question.forced])]
    have e1 : w.drew = w1 := rfl
    rw [e1, hi1]
    simp only [Result.andThen_ok, hold1, hfc1, hzr, newRow, Sem.run_bind, run_newObj, Sem.run_pure]
    congr 1
    show World.alloc w1 _ = World.alloc w1 _
    congr 2
    apply Array.ext'
    simp [nc, q]
theorem appendz_run {t u el : TypeId} (hel : elemT P t = some el) (hu : P.underlying u = some (.int .i64)) {z : AV} (hz : zeroT P el = some z)
    {m : Int} (hm : 0 < m) (hbnd : (2 * m.toNat) * P.bytesOf el ≤ 281474976710656) (ty : TypeId) {D : List Nat} :
      ∃ (rest : List Value) (fl : List Value) (nc : Nat) (w1 : World), m.toNat ≤ nc ∧ w1 = { w with drawn := w.drawn + 1 } ∧ FlatRep w D (P.cellsOf el) (List.replicate m.toNat z) fl ∧
        (Builtin.append_ #[t, u] ty #[.slice none 0 0, .int .i64 m]).run P w = .ok (.slice (some ⟨w.heap.size, 0, none⟩) m.toNat nc) (w1.alloc (.cells ⟨fl ++ rest⟩ el)) ∧ (fl ++ rest).length = nc * P.cellsOf el := by
  obtain ⟨hut, hkn, hne, hby⟩ := elemT_spec hel
  obtain ⟨i, v, hi, hzv, hzz, hzl, hzs⟩ := zeroT_spec hz
  have hbo : P.bytesOf el = i.bytes := by simp [Program.bytesOf, hi]
  have hpos : 0 < P.bytesOf el := Nat.pos_of_ne_zero hby
  have hfit : Builtin.nextslicecap m.toNat 0 * i.bytes ≤ 281474976710656 := by
    rw [← hbo]
    exact Nat.le_trans (Nat.mul_le_mul_right _ (nextslicecap_le (by omega))) hbnd
  have hneed : m.toNat ≤ 281474976710656 := by
    have : (2 * m.toNat) * 1 ≤ (2 * m.toNat) * P.bytesOf el := Nat.mul_le_mul_left _ hpos
    omega
  have hmul : m.toNat * i.bytes ≤ 281474976710656 := by
    rw [← hbo]
    exact Nat.le_trans (Nat.mul_le_mul_right _ (by omega)) hbnd
  let w1 : World := { w with drawn := w.drawn + 1 }
  let q : Question := .appendCap m.toNat 0 el
  let nc : Nat := q.cut (w.tape w.drawn q)
  have hnc : m.toNat ≤ nc := by simp only [nc, q, Question.cut]; omega
  have hvs : v.cells.size = P.cellsOf el := by
    have := Reps_length ((zeroAV_rep (w := w) (D := []) hzz).cells hzs).1
    rw [hzl] at this
    simpa [Program.cellsOf, hi] using this
  have hcel : (cellsOf z).length = P.cellsOf el := by rw [hzl]; simp [Program.cellsOf, hi]
  have F : FlatRep w D (P.cellsOf el) (List.replicate m.toNat z) (Builtin.zeroCells v.cells m.toNat).toList := FlatRep.zeros (zeroAV_rep hzz) hzs hcel _
  refine ⟨(Builtin.zeroCells v.cells (nc - m.toNat)).toList, (Builtin.zeroCells v.cells m.toNat).toList, nc, w1, hnc, rfl, F, ?_, ?_⟩
  · have hw : IntKind.i64.wrap m = m := IntWalk.i64_in _ (by omega)
    have hb0 : i.bytes ≠ 0 := by rw [← hbo]; exact hby
    have hzr : ∀ w, (zeroValue el).run P w = .ok v w := fun w => by simp [zeroValue, run_typeInfo w hi, hzv]
    have hi1 := run_typeInfo w1 hi
    have hmi : ¬ (281474976710656 < m * (i.bytes : Int)) := by
      have h1 : ((m.toNat * i.bytes : Nat) : Int) = m * i.bytes := by rw [Int.natCast_mul, Int.toNat_of_nonneg (by omega)]
      omega
    have hn0 : ¬ (m.toNat = 0 ∨ P.cellsOf el = 0) := by omega
    simp only [Builtin.append_]
    have hti : ∀ w, (typeInfo el).run P w = .ok i w := fun w => run_typeInfo w hi
    have hm0 : ¬ m < 0 := by omega
    have hm1 : ¬ m ≤ 0 := by omega
    have hm2 : ¬ (9223372036854775807 : Int) < max m 0 := by omega
    have hfit' : ¬ 281474976710656 < Builtin.nextslicecap m.toNat 0 * i.bytes := by omega
    have hforced : (Question.appendCap m.toNat 0 el).forced = false := rfl
    have hcz : ¬ m.toNat * P.cellsOf el = 0 := by
      have := Nat.mul_pos (show 0 < m.toNat by omega) (Nat.pos_of_ne_zero hne)
      omega
    have e1 : w.drew = w1 := rfl
    simp [run_underlying hut, run_underlying hu, run_sizeOf_k hkn, asInt, asIntOf, hw, hti, hm0, hm1, hm2, hmi, hfit', hforced, hzr, e1, Builtin.firstCells, hcz, newRow]
    refine ⟨rfl, ?_⟩
    congr 2
    apply Array.ext'
    simp [nc, q]
  · simp only [List.length_append, Array.length_toList, Builtin.zeroCells, Array.size_map, Array.size_range, hvs, ← Nat.add_mul]
    congr 1
    omega
end
end Go.AG
