/- Texts divided and numbers read: what the library's contracts of the kit say in the words of our own layer. No statement about the program is made here. -/
import Derived.Test.YtiahlbbljmngnaaDoorRdP
import Derived.Lib.AtoiErrMem
namespace Go.AG
open Go.RowKit Go.Sort
set_option linter.unusedVariables false
set_option linter.unusedSimpArgs false
theorem trim_of {P : Program} {g : FuncId} (hok : CallOk P g)
    (HC : ∀ (s p : ByteArray) (w : World), Calls P g #[.string s, .string p] w fun e w' => e = .returned (.string ⟨(Lib.trimPrefix s.data.toList p.data.toList).toArray⟩) ∧ w' = w)
    (s p : List UInt8) (h : Heap) : ACalls P g [.str s, .str p] h (fun v h' => v = .str (Lib.trimPrefix s p) ∧ h' = h) := by
  refine ⟨hok, fun w vs H hv => ?_⟩
  obtain ⟨v, r, rfl, hv, u, r', rfl, hu, hr⟩ := hv
  cases hr
  have hv' : v = .string ⟨s.toArray⟩ := hv
  have hu' : u = .string ⟨p.toArray⟩ := hu
  subst hv' hu'
  refine (HC _ _ w).mono fun e w' ⟨e1, e2⟩ => ?_
  subst e2
  exact ⟨_, .str (Lib.trimPrefix s p), _, e1, rfl, H, .refl _ _, rfl, rfl⟩
theorem Fix.int {w : World} {D : List Nat} (F : Fix w D) {gid : Nat} (hm : (gid, true) ∈ laidS) : ∃ m, w.cell? ⟨gid, 0, none⟩ = some (.int .i64 m) := by
  obtain ⟨_, v, e, m, rfl⟩ := F.2 _ hm
  exact ⟨m, e⟩
theorem Fix.ifc {w : World} {D : List Nat} (F : Fix w D) {gid : Nat} (hm : (gid, false) ∈ laidS) : ∃ v, w.cell? ⟨gid, 0, none⟩ = some v ∧ (v = .nilIface ∨ ∃ t p, v = .iface t p) := by
  obtain ⟨_, v, e, ho⟩ := F.2 _ hm
  exact ⟨v, e, by simpa [okS] using ho⟩
theorem cut_of {P : Program} {g : FuncId} (hok : CallOk P g) {gid : Nat} (hm : (gid, true) ∈ laidS)
    (HC : ∀ (s sep : ByteArray) (m : Int) (w : World), s.size < 4294967281 → w.cell? ⟨gid, 0, none⟩ = some (.int .i64 m) →
      Calls P g #[.string s, .string sep] w fun e w' => e = .returned (.tuple #[.string ⟨(Lib.cut s.data.toList sep.data.toList).1.toArray⟩, .string ⟨(Lib.cut s.data.toList sep.data.toList).2.1.toArray⟩, .bool (Lib.cut s.data.toList sep.data.toList).2.2]) ∧ ∃ n, w' = w.drewN n)
    (s p : List UInt8) (h : Heap) (hs : s.length < 4294967281) : ACalls P g [.str s, .str p] h (fun v h' => v = .tup [.str (Lib.cut s p).1, .str (Lib.cut s p).2.1, .bool (Lib.cut s p).2.2] ∧ h' = h) := by
  refine ⟨hok, fun w vs H hv => ?_⟩
  obtain ⟨v, r, rfl, hv, u, r', rfl, hu, hr⟩ := hv
  cases hr
  have hv' : v = .string ⟨s.toArray⟩ := hv
  have hu' : u = .string ⟨p.toArray⟩ := hu
  subst hv' hu'
  obtain ⟨m, hc⟩ := H.fix.int hm
  refine (HC _ _ m w (by simpa [ByteArray.size] using hs) hc).mono fun e w' ⟨e1, n, e2⟩ => ?_
  subst e2
  obtain ⟨H', E'⟩ := H.drewN n
  exact ⟨_, .tup [.str (Lib.cut s p).1, .str (Lib.cut s p).2.1, .bool (Lib.cut s p).2.2], _, e1, ⟨_, rfl, _, _, rfl, rfl, _, _, rfl, rfl, _, _, rfl, rfl, rfl⟩, H', E', rfl, rfl⟩
theorem split_of {P : Program} {g : FuncId} (hok : CallOk P g) {gid : Nat} (hm : (gid, true) ∈ laidS) {el : TypeId}
    (HC : ∀ (s sep : ByteArray) (m : Int) (w : World), s.size < 4294967281 → w.cell? ⟨gid, 0, none⟩ = some (.int .i64 m) → 1 ≤ sep.size →
      Calls P g #[.string s, .string sep] w fun e w' => e = .returned (.slice (some ⟨w.heap.size, 0, none⟩) (Lib.countB s sep + 1) (Lib.countB s sep + 1)) ∧ w' = w.alloc (.cells ((Lib.splitB sep 0 (Lib.countB s sep) s).map Value.string).toArray el))
    (s : List UInt8) (c : UInt8) (h : Heap) (hs : s.length < 4294967281) :
    ACalls P g [.str s, .str [c]] h (fun v h' => ∃ id, id ∉ dom h ∧ v = .sl id 1 0 (spl c s).length (some (spl c s).length) ∧ h' = (id, ⟨1, (spl c s).map sv⟩) :: h) := by
  refine ⟨hok, fun w vs H hv => ?_⟩
  obtain ⟨v, r, rfl, hv, u, r', rfl, hu, hr⟩ := hv
  cases hr
  have hv' : v = .string ⟨s.toArray⟩ := hv
  have hu' : u = .string ⟨#[c]⟩ := hu
  subst hv' hu'
  obtain ⟨m, hc⟩ := H.fix.int hm
  refine (HC ⟨s.toArray⟩ ⟨#[c]⟩ m w (by simpa [ByteArray.size] using hs) hc (Nat.le_refl 1)).mono fun e w' ⟨e1, e2⟩ => ?_
  have hsp := split_spl c ⟨s.toArray⟩
  simp only at hsp
  generalize hL : Lib.splitB ⟨#[c]⟩ 0 (Lib.countB ⟨s.toArray⟩ ⟨#[c]⟩) ⟨s.toArray⟩ = L at *
  have hlen : L.length = (spl c s).length := by
    have := congrArg List.length hsp
    simpa using this
  have hcount : Lib.countB ⟨s.toArray⟩ ⟨#[c]⟩ + 1 = (spl c s).length := by
    rw [← hlen, ← hL]
    exact (Lib.splitB_all ⟨#[c]⟩ (Nat.le_refl 1) 0 _ _ rfl).symm
  rw [hcount] at e1
  have hget : ∀ (i : Nat) (x : List UInt8), (spl c s)[i]? = some x → (L.map Value.string)[i]? = some (.string ⟨x.toArray⟩) := fun i x hx => by
    rw [← hsp] at hx
    simp only [List.getElem?_map, Option.map_eq_some_iff] at hx ⊢
    obtain ⟨b, h1, h2⟩ := hx
    refine ⟨b, h1, ?_⟩
    subst h2
    obtain ⟨⟨l⟩⟩ := b
    rfl
  obtain ⟨H', E'⟩ := H.alloc (L.map Value.string).toArray el ⟨1, (spl c s).map sv⟩ (by
    rw [Elems_iff]
    intro i x hx
    simp only [List.getElem?_map, Option.map_eq_some_iff] at hx
    obtain ⟨y, h1, rfl⟩ := hx
    refine ⟨rfl, ?_⟩
    rw [Cells_iff]
    intro j u hu
    have hj : j = 0 ∧ u = .str y := by
      cases j with
      | zero => exact ⟨rfl, by simpa [cellsOf] using hu.symm⟩
      | succ j => simp [cellsOf] at hu
    obtain ⟨rfl, rfl⟩ := hj
    refine ⟨_, ?_, rfl, rfl⟩
    have := hget i y h1
    simpa [World.cell?_alloc_new] using this)
  subst e2
  refine ⟨_, .sl w.heap.size 1 0 (spl c s).length (some (spl c s).length), _, e1, ?_, H', E', w.heap.size, fun hm => Nat.lt_irrefl _ (H.lt hm), rfl, rfl⟩
  refine ⟨_, _, rfl, Nat.le_refl _, fun _ => ⟨by simp, (L.map Value.string).toArray, el, (0, 0), by show (w.heap.push _)[w.heap.size]? = _; simp, by simp [hlen]⟩, fun k hk => by simpa using hk⟩
theorem parse_of {P : Program} {g : FuncId} (hok : CallOk P g) {g15 g16 : Nat} (h15 : (g15, false) ∈ laidS) (h16 : (g16, false) ∈ laidS) {t5 t168 t210 : TypeId}
    (HO : ∀ (s : ByteArray), s.size ≤ 9223372036854775806 → ∀ (v : Int), Lib.parseIntB 64 s.data.toList = .ok v → ∀ (w : World),
      Calls P g #[.string s, .int .i64 10, .int .i64 64] w fun e w' => e = .returned (.tuple #[.int .i64 v, .nilIface]) ∧ (w' = w ∨ ∃ t, w' = Lib.bytesWorld w t5 t))
    (HS : ∀ (s : ByteArray), s.size ≤ 281474976710656 → (∀ v, Lib.parseIntB 64 s.data.toList ≠ .ok v) → Lib.parseIntB 64 s.data.toList ≠ .range → ∀ (ev : Value) (w : World), w.cell? ⟨g15, 0, none⟩ = some ev → (ev = .nilIface ∨ ∃ te pe, ev = .iface te pe) →
      Calls P g #[.string s, .int .i64 10, .int .i64 64] w fun e w' => ∃ N, e = .returned (.tuple #[.int .i64 (0), .iface t168 (.pointer (some ⟨N, 0, none⟩))]) ∧ w.heap.size ≤ N ∧ w'.heap[N]? = some (.cells #[.string ⟨#[80, 97, 114, 115, 101, 73, 110, 116]⟩, .string s, ev] t210 (0, 0)) ∧ Below w.heap.size w w')
    (HR : ∀ (s : ByteArray), s.size ≤ 281474976710656 → Lib.parseIntB 64 s.data.toList = .range → ∀ (ev : Value) (w : World), w.cell? ⟨g16, 0, none⟩ = some ev → (ev = .nilIface ∨ ∃ te pe, ev = .iface te pe) →
      Calls P g #[.string s, .int .i64 10, .int .i64 64] w fun e w' => ∃ N, e = .returned (.tuple #[.int .i64 (Lib.intSat 64 s.data.toList), .iface t168 (.pointer (some ⟨N, 0, none⟩))]) ∧ w.heap.size ≤ N ∧ w'.heap[N]? = some (.cells #[.string ⟨#[80, 97, 114, 115, 101, 73, 110, 116]⟩, .string s, ev] t210 (0, 0)) ∧ Below w.heap.size w w')
    (s : List UInt8) (h : Heap) (hs : s.length ≤ 281474976710656) :
    ACalls P g [.str s, .int .i64 10, .int .i64 64] h (fun v h' => h' = h ∧ ((∃ n, Lib.parseIntB 64 s = .ok n ∧ v = .tup [.int .i64 n, .nili]) ∨ ((∀ n, Lib.parseIntB 64 s ≠ .ok n) ∧ ∃ k, v = .tup [.int .i64 k, .ifc]))) := by
  refine ⟨hok, fun w vs H hv => ?_⟩
  obtain ⟨v, r, rfl, hv, u, r', rfl, hu, u2, r2, rfl, hu2, hr⟩ := hv
  cases hr
  have hv' : v = .string ⟨s.toArray⟩ := hv
  have hu' : u = .int .i64 10 := hu
  have hu2' : u2 = .int .i64 64 := hu2
  subst hv' hu' hu2'
  have hsz : (⟨s.toArray⟩ : ByteArray).size ≤ 281474976710656 := by simpa [ByteArray.size] using hs
  cases hp : Lib.parseIntB 64 s with
  | ok n =>
    refine (HO ⟨s.toArray⟩ (by omega) n (by simpa using hp) w).mono fun e w' ⟨e1, e2⟩ => ?_
    have hb : Below w.heap.size w w' := by
      rcases e2 with rfl | ⟨t, rfl⟩
      · exact Below.refl _ _
      · exact Lib.bytesWorld_below _ _ _
    obtain ⟨H', E'⟩ := H.below hb
    exact ⟨_, .tup [.int .i64 n, .nili], h, e1, ⟨_, rfl, _, _, rfl, rfl, _, _, rfl, rfl, rfl⟩, H', E', rfl, .inl ⟨n, rfl, rfl⟩⟩
  | range =>
    obtain ⟨ev, hc, he⟩ := H.fix.ifc h16
    refine (HR ⟨s.toArray⟩ hsz (by simpa using hp) ev w hc he).mono fun e w' ⟨N, e1, _, _, hb⟩ => ?_
    obtain ⟨H', E'⟩ := H.below hb
    exact ⟨_, .tup [.int .i64 (Lib.intSat 64 s), .ifc], h, e1, ⟨_, rfl, _, _, rfl, rfl, _, _, rfl, ⟨_, _, rfl⟩, rfl⟩, H', E', rfl, .inr ⟨fun n hn => by simp at hn, _, rfl⟩⟩
  | _ =>
    have hd : (⟨s.toArray⟩ : ByteArray).data.toList = s := by simp
    obtain ⟨ev, hc, he⟩ := H.fix.ifc h15
    refine (HS ⟨s.toArray⟩ hsz (fun v h2 => by rw [hd, hp] at h2; cases h2) (fun h2 => by rw [hd, hp] at h2; cases h2) ev w hc he).mono fun e w' ⟨N, e1, _, _, hb⟩ => ?_
    obtain ⟨H', E'⟩ := H.below hb
    exact ⟨_, .tup [.int .i64 0, .ifc], h, e1, ⟨_, rfl, _, _, rfl, rfl, _, _, rfl, ⟨_, _, rfl⟩, rfl⟩, H', E', rfl, .inr ⟨fun n hn => by simp at hn, 0, rfl⟩⟩
end Go.AG
