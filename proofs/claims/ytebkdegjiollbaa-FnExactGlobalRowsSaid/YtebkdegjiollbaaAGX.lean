/- Our own small layer, second form: code with notes on what is still needed, and conditions whose continuations are data. No statement about the program is made here. -/
import Derived.Test.YtebkdegjiollbaaAGSimp
namespace Go.AG
open Go.RowKit

/-- What an operation gives. -/
inductive Res : Type 1
  | val (v : AV)
  | vh (v : AV) (h : Heap)
  | need (p : Prop) (r : Res)
  | opt {α : Type} (o : Option α) (f : α → Res)
  | two (r s : Res)
  | ite (t : Bool) (r s : Res)
  | fresh (l : List Nat) (f : Nat → AV × Heap)
  | call (g : FuncId) (args : List AV)
  | callp (g : FuncId) (args : List AV)
  | no
def Res.den (P : Program) (h : Heap) (k : AV → Heap → Prop) : Res → Prop
  | .val v => k v h
  | .vh v h' => k v h'
  | .need p r => p ∧ r.den P h k
  | .opt o f => ∃ y, o = some y ∧ (f y).den P h k
  | .two r s => r.den P h k ∧ s.den P h k
  | .ite t r s => guardK t true (r.den P h k) (s.den P h k)
  | .fresh l f => ∀ id, id ∉ l → k (f id).1 (f id).2
  | .call g args => ACalls P g args h k
  | .callp g args => ACalls P g args h k
  | .no => False
def Res.dend (P : Program) (h : Heap) (k : AV → Prop) : Res → Prop
  | .val v => k v
  | .vh _ _ => False
  | .need p r => p ∧ r.dend P h k
  | .opt o f => ∃ y, o = some y ∧ (f y).dend P h k
  | .two _ _ => False
  | .ite t r s => guardK t true (r.dend P h k) (s.dend P h k)
  | .fresh _ _ => False
  | .call g args => ∃ v, ACalls P g args h (fun v' h' => v' = v ∧ h' = h) ∧ k v
  | .callp g args => ∃ v, ACalls P g args h (fun v' h' => v' = v ∧ h' = h) ∧ k v
  | .no => False

def in64 (n : Int) : Prop := -9223372036854775808 ≤ n ∧ n ≤ 9223372036854775807
/-- A sum: with a note that it stays in bounds, or wrapped. -/
def arR : Bool → IntKind → Int → Res
  | true, .i64, n => .need (in64 n) (.val (.int .i64 n))
  | _, kd, n => .val (.int kd (kd.wrap n))
theorem arR_snd {w : Bool} {kd : IntKind} {n : Int} {P : Program} {h : Heap} {k : AV → Prop} (hk : (arR w kd n).dend P h k) : k (.int kd (kd.wrap n)) := by
  unfold arR at hk
  split at hk
  · obtain ⟨h1, h2⟩ := hk
    unfold in64 at h1
    rw [w64 (by omega)]; exact h2
  · exact hk
def binR (w : Bool) (op : BinOp) : AV → AV → Res
  | .int kd a, .int kd' b => match op with
    | .shl => .need (0 ≤ b) (.val (.int kd (kd.wrap (a * 2 ^ (min b.toNat kd.bits)))))
    | .shr => .need (0 ≤ b) (.val (.int kd (a.fdiv (2 ^ (min b.toNat kd.bits)))))
    | .add => .need (kd = kd') (arR w kd (a + b))
    | .sub => .need (kd = kd') (arR w kd (a - b))
    | .mul => .need (kd = kd') (arR w kd (a * b))
    | .quo => .need (kd = kd') (.need (b ≠ 0) (arR w kd (a.tdiv b)))
    | .rem => .need (kd = kd') (.need (b ≠ 0) (.val (.int kd (a.tmod b))))
    | .and => .need (kd = kd') (.val (.int kd (bits .and kd a b)))
    | .or => .need (kd = kd') (.val (.int kd (bits .or kd a b)))
    | .xor => .need (kd = kd') (.val (.int kd (bits .xor kd a b)))
    | .andNot => .need (kd = kd') (.val (.int kd (bits .andNot kd a b)))
    | .eql => .need (kd = kd') (.val (.bool (decide (a = b))))
    | .neq => .need (kd = kd') (.val (.bool (!decide (a = b))))
    | .lss => .need (kd = kd') (.val (.bool (decide (a < b))))
    | .leq => .need (kd = kd') (.val (.bool (decide (a ≤ b))))
    | .gtr => .need (kd = kd') (.val (.bool (decide (b < a))))
    | .geq => .need (kd = kd') (.val (.bool (decide (b ≤ a))))
  | .str a, .str b => match op with
    | .add => .need (a.length + b.length ≤ 9223372036854775807) (.val (.str (a ++ b)))
    | .eql => .val (.bool (decide (a = b)))
    | .neq => .val (.bool (!decide (a = b)))
    | .lss => .val (.bool (Op.bytesLess a b))
    | .leq => .val (.bool (Op.bytesLess a b || a == b))
    | .gtr => .val (.bool (!(Op.bytesLess a b || a == b)))
    | .geq => .val (.bool (!(Op.bytesLess a b)))
    | _ => .no
  | _, _ => .no
theorem beq_dec (a b : List UInt8) : (a == b) = decide (a = b) := by by_cases h : a = b <;> simp [h]
theorem binR_snd {w : Bool} {op : BinOp} {x y : AV} {P : Program} {h : Heap} {k : AV → Prop} (hk : (binR w op x y).dend P h k) : binK op x y k := by
  unfold binR at hk
  unfold binK
  split at hk
  · rename_i kd a kd' b
    cases op <;> simp only [Res.dend] at hk ⊢
    case add => exact ⟨hk.1, arR_snd hk.2⟩
    case sub => exact ⟨hk.1, arR_snd hk.2⟩
    case mul => exact ⟨hk.1, arR_snd hk.2⟩
    case quo => exact ⟨hk.1, hk.2.1, arR_snd hk.2.2⟩
    case eql => refine ⟨hk.1, ?_⟩; rw [show (a == b) = decide (a = b) from rfl]; exact hk.2
    case neq => refine ⟨hk.1, ?_⟩; rw [show (a != b) = !decide (a = b) from rfl]; exact hk.2
    all_goals exact hk
  · rename_i a b
    cases op <;> simp only [Res.dend] at hk ⊢
    case eql => rw [beq_dec a b]; exact hk
    case neq => rw [beq_dec a b]; exact hk
    all_goals exact hk
  · exact hk.elim

def loadR (n : Nat) (ag : Bool) (cs : List AV) : Res :=
  if ag then .need (n ≤ cs.length) (.val (.agg (cs.take n))) else match cs with
    | x :: _ => .val x
    | [] => .no
/-- What is loaded; with a note: nobody writes it. -/
def loadC (h : Heap) : Bool → AV → Option (List AV)
  | false, x => cellsAt h x
  | true, .ip l => some l
  | true, _ => none
theorem loadC_cells {h : Heap} {w : Bool} {x : AV} {cs : List AV} (hc : loadC h w x = some cs) : cellsAt h x = some cs := by
  cases w
  · exact hc
  · cases x <;> simp only [loadC, reduceCtorEq] at hc
    exact hc
def sliceR (x : AV) (lo hi mx : Option Int) : Res :=
  match x with
  | .nilsl => .need (sliceC lo hi mx 0 0) (.val .nilsl)
  | .emp => .need (sliceC lo hi mx 0 0) (.val .emp)
  | .snap s l => .need (sliceC lo hi mx l.length l.length) (match mx with
    | none => .val (.snap s ((l.drop (lo.getD 0).toNat).take (hi.getD l.length - lo.getD 0).toNat))
    | some m => .need (m = lo.getD 0) (.val .emp))
  | .sl id s off len cap => .need (sliceC lo hi mx len (cap.getD len)) (.val (.sl id s (off + (lo.getD 0).toNat) (hi.getD len - lo.getD 0).toNat (match mx with
    | some m => some (m - lo.getD 0).toNat
    | none => cap.map fun c => c - (lo.getD 0).toNat)))
  | _ => .no
def pickR (c a b : AV) : Res := match c with
  | .bool t => .ite t (.val a) (.val b)
  | _ => .no
def beqR (neg : Bool) (x y : AV) : Res := match x, y with
  | .bool a, .bool b => .val (.bool (if neg then a != b else a == b))
  | _, _ => .no
def eqsR (ks : List Nat) (neg : Bool) (x y : AV) : Res := match x, y with
  | .agg xs, .agg ys => .opt (eqAVs ks xs ys) fun b => .val (.bool (if neg then !b else b))
  | _, _ => .no
def eqnR (kd : Nat) (neg : Bool) (x : AV) : Res := .opt (nilOf kd x) fun b => .val (.bool (if neg then !b else b))
def unR (op : UnOp) (x : AV) : Res := match op, x with
  | .neg, .int kd n => .val (.int kd (kd.wrap (0 - n)))
  | .not, .bool b => .val (.bool (!b))
  | .xor, .int kd n => .val (.int kd (bits .xor kd (if kd.signed then -1 else kd.max) n))
  | _, _ => .no
def convR (w : Bool) (kd : IntKind) : AV → Res
  | .int _ n => arR w kd n
  | _ => .no
def fieldAR (o : Nat) : AV → Res
  | .ptr id sz i o' => .val (.ptr id sz i (o' + o))
  | .ip l => .val (.ip (l.drop o))
  | _ => .no
def fieldR (o n : Nat) (ag : Bool) : AV → Res
  | .agg l => if ag then .val (.agg ((l.drop o).take n)) else .opt l[o]? .val
  | _ => .no
def idxAR (sz : Nat) : AV → AV → Res
  | .snap s l, .int _ n => .need (s = sz) (.need (0 ≤ n) (.opt l[n.toNat]? fun x => .val (.ip (cellsOf x))))
  | .sl id s off len _, .int _ n => .need (s = sz) (.need (0 ≤ n) (.need (n.toNat < len) (.val (.ptr id sz (off + n.toNat) 0))))
  | _, _ => .no
def idxR : AV → AV → Res
  | .str s, .int _ n => .need (0 ≤ n) (.opt s[n.toNat]? fun c => .val (.int .u8 c.toNat))
  | _, _ => .no
def nilchkR : AV → Res
  | .ptr id sz i o => .val (.ptr id sz i o)
  | .ip l => .val (.ip l)
  | _ => .no
def sslR (x : AV) (l h' : Option Int) : Res := match x with
  | .str s => .need (0 ≤ l.getD 0) (.need (l.getD 0 ≤ h'.getD s.length) (.need (h'.getD s.length ≤ s.length) (.val (.str ((s.drop (l.getD 0).toNat).take (h'.getD s.length - l.getD 0).toNat)))))
  | _ => .no
def extractR (i : Nat) : AV → Res
  | .tup l => .opt l[i]? .val
  | _ => .no
def lenR : AV → Res
  | .nilsl | .emp => .val (.int .i64 0)
  | .snap _ l => .val (.int .i64 l.length)
  | .sl _ _ _ len _ => .val (.int .i64 len)
  | _ => .no
def capR : AV → Res
  | .nilsl | .emp => .val (.int .i64 0)
  | .sl _ _ _ _ (some c) => .val (.int .i64 c)
  | _ => .no
def slenR : AV → Res
  | .str s => .val (.int .i64 s.length)
  | _ => .no
def bstrR : AV → Res
  | .nilsl => .val (.str [])
  | .emp => .val (.str [])
  | .snap 1 l => .opt (bytesAV l) fun s => .val (.str s)
  | _ => .no
def mxR (m : Bool) : List AV → Res
  | x :: r => .opt (mmAV m x r) .val
  | [] => .no
def callvR (args : List AV) : AV → Res
  | .fn g caps => .call g (args ++ caps)
  | _ => .no
/-- A call; with a note that it must be one of those that are known. -/
def callR : Bool → FuncId → List AV → Res
  | true, g, l => .callp g l
  | false, g, l => .call g l
def callvE (w : Bool) (args : List AV) : AV → Res
  | .fn g caps => callR w g (args ++ caps)
  | _ => .no
/-- Calls alone are changed: those that are known. -/
def opR (h : Heap) (e : Env) (w : Bool) : SOp → Res
  | .mv x => .val (ev e x)
  | .pick c a b => pickR (ev e c) (ev e a) (ev e b)
  | .bin op x y => binR w op (ev e x) (ev e y)
  | .beq neg x y => beqR neg (ev e x) (ev e y)
  | .eqs ks neg x y => eqsR ks neg (ev e x) (ev e y)
  | .eqn kd neg x => eqnR kd neg (ev e x)
  | .un op x => unR op (ev e x)
  | .conv kd x => convR w kd (ev e x)
  | .fieldA o x => fieldAR o (ev e x)
  | .field o n ag x => fieldR o n ag (ev e x)
  | .idxA sz x i => idxAR sz (ev e x) (ev e i)
  | .idx x i => idxR (ev e x) (ev e i)
  | .load n ag x => .opt (loadC h w (ev e x)) fun cs => loadR n ag cs
  | .nilchk x => nilchkR (ev e x)
  | .slice sz x lo hi mx => .need (szOk sz (ev e x)) (.opt (bnd e lo) fun l => .opt (bnd e hi) fun h' => .opt (bnd e mx) fun m => sliceR (ev e x) l h' m)
  | .sslice x lo hi => .opt (bnd e lo) fun l => .opt (bnd e hi) fun h' => sslR (ev e x) l h'
  | .mkfn g caps => .val (.fn g (caps.map (ev e)))
  | .extract x i => extractR i (ev e x)
  | .len x => lenR (ev e x)
  | .slen x => slenR (ev e x)
  | .bstr x => bstrR (ev e x)
  | .capk x => capR (ev e x)
  | .mx m xs => mxR m (xs.map (ev e))
  | .box m sz x => .need (m = false) (.need (storable (ev e x) = true) (.need ((cellsOf (ev e x)).length = sz) (.val (.ip (cellsOf (ev e x))))))
  | .alloc m sz z => .need (m = false) (.need (storable z = true) (.need ((cellsOf z).length = sz) (.val (.ip (cellsOf z)))))
  | .build z parts => .opt (fillAV e z parts) fun l => .val (.agg l)
  | .bsl m sz parts => .need (m = false) (.need (∀ x ∈ parts.map (ev e), storable x = true ∧ (cellsOf x).length = sz) (.val (.snap sz (parts.map (ev e)))))
  | .call g args => .call g (args.map (ev e))
  | .callv f args => callvR (args.map (ev e)) (ev e f)
  | .mksl .. | .store .. | .append .. | .appendz .. | .clear .. => .no

theorem sliceR_snd {x : AV} {lo hi mx : Option Int} {P : Program} {h : Heap} {k : AV → Prop} (hk : (sliceR x lo hi mx).dend P h k) : sliceK x lo hi mx k := by
  cases x <;> first | exact hk | skip
  obtain ⟨a, b⟩ := hk
  refine ⟨a, ?_⟩
  cases mx <;> exact b
theorem opR_snd {h : Heap} {e : Env} {w : Bool} {op : SOp} {P : Program} {k : AV → Prop} (hc : isCall op = false) (hk : (opR h e w op).dend P h k) : opVC h e op k := by
  cases op <;> simp only [isCall, reduceCtorEq] at hc <;> simp only [opR] at hk <;> simp only [opVC] <;> first | (exact hk.elim) | skip
  case mv => exact hk
  case pick c a b => revert hk; generalize ev e c = v; intro hk; cases v <;> first | exact hk | exact hk.elim
  case bin => exact binR_snd hk
  case beq neg x y => revert hk; generalize ev e x = v; generalize ev e y = u; intro hk; cases v <;> cases u <;> first | exact hk | exact hk.elim
  case eqs ks neg x y => revert hk; generalize ev e x = v; generalize ev e y = u; intro hk; cases v <;> cases u <;> first | exact hk | exact hk.elim
  case eqn => exact hk
  case un o x => revert hk; generalize ev e x = v; intro hk; cases o <;> cases v <;> first | exact hk | exact hk.elim
  case conv kd x => revert hk; generalize ev e x = v; intro hk; cases v <;> first | exact hk.elim | exact arR_snd hk
  case fieldA o x => revert hk; generalize ev e x = v; intro hk; cases v <;> first | exact hk | exact hk.elim
  case field o n ag x =>
    revert hk; generalize ev e x = v; intro hk
    cases v <;> first | (exact hk.elim) | skip
    cases ag
    · exact hk
    · exact hk
  case idxA sz x i =>
    revert hk; generalize ev e x = v; generalize ev e i = u; intro hk
    cases v <;> cases u <;> first | (exact hk.elim) | skip
    · obtain ⟨h1, h2, x, h3, h4⟩ := hk
      obtain ⟨hn, rfl⟩ := List.getElem?_eq_some_iff.1 h3
      exact ⟨h1, h2, hn, h4⟩
    · exact hk
  case idx x i =>
    revert hk; generalize ev e x = v; generalize ev e i = u; intro hk
    cases v <;> cases u <;> first | (exact hk.elim) | skip
    obtain ⟨h2, x, h3, h4⟩ := hk
    obtain ⟨hn, rfl⟩ := List.getElem?_eq_some_iff.1 h3
    exact ⟨h2, hn, h4⟩
  case load n ag x =>
    obtain ⟨cs, h1, h2⟩ := hk
    refine ⟨cs, loadC_cells h1, ?_⟩
    cases ag
    · cases cs <;> exact h2
    · exact h2
  case nilchk x => revert hk; generalize ev e x = v; intro hk; cases v <;> first | exact hk | exact hk.elim
  case slice =>
    obtain ⟨h0, l, h1, h', h2, m, h3, h4⟩ := hk
    exact ⟨h0, l, h1, h', h2, m, h3, sliceR_snd h4⟩
  case sslice x lo hi =>
    obtain ⟨l, h1, h', h2, h3⟩ := hk
    refine ⟨l, h1, h', h2, ?_⟩
    revert h3; generalize ev e x = v; intro h3
    cases v <;> first | exact h3 | exact h3.elim
  case mkfn => exact hk
  case extract x i => revert hk; generalize ev e x = v; intro hk; cases v <;> first | exact hk | exact hk.elim
  case len x => revert hk; generalize ev e x = v; intro hk; cases v <;> first | exact hk | exact hk.elim
  case capk x =>
    revert hk; generalize ev e x = v; intro hk
    cases v <;> first | exact hk | exact hk.elim | skip
    rename_i c
    cases c <;> first | exact hk | exact hk.elim
  case slen x => revert hk; generalize ev e x = v; intro hk; cases v <;> first | exact hk | exact hk.elim
  case bstr x =>
    revert hk; generalize ev e x = v; intro hk
    unfold bstrR at hk
    split at hk <;> first | exact hk.elim | exact hk
  case mx m xs => revert hk; generalize xs.map (ev e) = v; intro hk; cases v <;> first | exact hk | exact hk.elim
  case box => exact hk
  case alloc => exact hk
  case build => exact hk
  case bsl => exact hk

/-! ## With memory -/
def storeR (h : Heap) (n : Nat) (p x : AV) : Res := match p with
  | .ptr id sz i o => .need (storable x = true) (.need ((cellsOf x).length = n) (.opt (hget h id) fun blk => .need (blk.sz = sz) (.need (o + n ≤ sz)
      (if n = sz then .need (i < blk.l.length) (.vh .undef (hset h id ⟨sz, blk.l.set i x⟩))
       else .opt blk.l[i]? fun el => .vh .undef (hset h id ⟨sz, blk.l.set i (.agg (splice (cellsOf el) o (cellsOf x)))⟩)))))
  | _ => .no
def appR (h : Heap) (sz bytes : Nat) (s : AV) (new : List AV) : Res := match s with
  | .nilsl => .ite new.isEmpty (.val .nilsl) (.need ((2 * new.length) * bytes ≤ 281474976710656) (.fresh (dom h) fun id => (.sl id sz 0 new.length none, (id, ⟨sz, new⟩) :: h)))
  | .emp => .ite new.isEmpty (.val .emp) (.need ((2 * new.length) * bytes ≤ 281474976710656) (.fresh (dom h) fun id => (.sl id sz 0 new.length none, (id, ⟨sz, new⟩) :: h)))
  | .sl id s off len cap => .need (s = sz) (.opt (hget h id) fun blk => .need (blk.sz = sz) (.need (off + len ≤ blk.l.length) (match cap with
    | none => .need (off = 0) (.need ((2 * (len + new.length)) * bytes ≤ 281474976710656) (.fresh (dom (hdel h id)) fun id' => (.sl id' sz 0 (len + new.length) none, (id', ⟨sz, blk.l.take len ++ new⟩) :: hdel h id)))
    | some c => .ite (decide (len + new.length ≤ c)) (.need (off + c ≤ blk.l.length) (.vh (.sl id sz off (len + new.length) (some c)) (hset h id ⟨sz, splice blk.l (off + len) new⟩)))
        (.need ((2 * (len + new.length)) * bytes ≤ 281474976710656) (.fresh (dom h) fun id' => (.sl id' sz 0 (len + new.length) none, (id', ⟨sz, (blk.l.drop off).take len ++ new⟩) :: h))))))
  | _ => .no
def eqnE (kd : Nat) (neg : Bool) (x : AV) : Res := match nilOf kd x with
  | some b => .val (.bool (if neg then !b else b))
  | none => match kd, x with
    | 0, .snap .. | 0, .sl .. | 0, .emp => .two (.val (.bool true)) (.val (.bool false))
    | _, _ => .no
def mkslR (h : Heap) (sz bytes : Nat) (z : AV) : AV → AV → Res
  | .int .i64 l, .int .i64 c => .need (0 ≤ l) (.need (l ≤ c) (.need (bytes * c ≤ 281474976710656) (.need (storable z = true) (.need ((cellsOf z).length = sz) (.fresh (dom h) fun id => (.sl id sz 0 l.toNat (some c.toNat), (id, ⟨sz, List.replicate c.toNat z⟩) :: h))))))
  | _, _ => .no
def clearR (h : Heap) (sz : Nat) (z : AV) : AV → Res
  | .nilsl | .emp => .vh .undef h
  | .sl id s off len _ => .need (s = sz) (.opt (hget h id) fun blk => .need (blk.sz = sz) (.need (off + len ≤ blk.l.length) (.vh .undef (hset h id ⟨sz, splice blk.l off (List.replicate len z)⟩))))
  | _ => .no
def appzR (h : Heap) (sz bytes : Nat) (z : AV) : AV → AV → Res
  | .nilsl, .int .i64 n => .need (0 < n) (.need ((2 * n.toNat) * bytes ≤ 281474976710656) (.fresh (dom h) fun id => (.sl id sz 0 n.toNat none, (id, ⟨sz, List.replicate n.toNat z⟩) :: h)))
  | _, _ => .no
def effR (h : Heap) (e : Env) (w : Bool) : SOp → Res
  | .mv x => .val (ev e x)
  | .pick c a b => pickR (ev e c) (ev e a) (ev e b)
  | .bin op x y => binR w op (ev e x) (ev e y)
  | .beq neg x y => beqR neg (ev e x) (ev e y)
  | .eqs ks neg x y => eqsR ks neg (ev e x) (ev e y)
  | .eqn kd neg x => eqnE kd neg (ev e x)
  | .un op x => unR op (ev e x)
  | .conv kd x => convR w kd (ev e x)
  | .fieldA o x => fieldAR o (ev e x)
  | .field o n ag x => fieldR o n ag (ev e x)
  | .idxA sz x i => idxAR sz (ev e x) (ev e i)
  | .idx x i => idxR (ev e x) (ev e i)
  | .load n ag x => .opt (loadC h w (ev e x)) fun cs => loadR n ag cs
  | .nilchk x => nilchkR (ev e x)
  | .slice sz x lo hi mx => .need (szOk sz (ev e x)) (.opt (bnd e lo) fun l => .opt (bnd e hi) fun h' => .opt (bnd e mx) fun m => sliceR (ev e x) l h' m)
  | .sslice x lo hi => .opt (bnd e lo) fun l => .opt (bnd e hi) fun h' => sslR (ev e x) l h'
  | .mkfn g caps => .val (.fn g (caps.map (ev e)))
  | .extract x i => extractR i (ev e x)
  | .len x => lenR (ev e x)
  | .slen x => slenR (ev e x)
  | .bstr x => bstrR (ev e x)
  | .capk x => capR (ev e x)
  | .mx m xs => mxR m (xs.map (ev e))
  | .box false sz x => .need (storable (ev e x) = true) (.need ((cellsOf (ev e x)).length = sz) (.val (.ip (cellsOf (ev e x)))))
  | .box true sz x => .need (storable (ev e x) = true) (.need ((cellsOf (ev e x)).length = sz) (.fresh (dom h) fun id => (.ptr id sz 0 0, (id, ⟨sz, [ev e x]⟩) :: h)))
  | .alloc false sz z => .need (storable z = true) (.need ((cellsOf z).length = sz) (.val (.ip (cellsOf z))))
  | .alloc true sz z => .need (storable z = true) (.need ((cellsOf z).length = sz) (.fresh (dom h) fun id => (.ptr id sz 0 0, (id, ⟨sz, [z]⟩) :: h)))
  | .build z parts => .opt (fillAV e z parts) fun l => .val (.agg l)
  | .bsl false sz parts => .need (∀ x ∈ parts.map (ev e), storable x = true ∧ (cellsOf x).length = sz) (.val (.snap sz (parts.map (ev e))))
  | .bsl true sz parts => .need (∀ x ∈ parts.map (ev e), storable x = true ∧ (cellsOf x).length = sz) (.fresh (dom h) fun id => (.sl id sz 0 parts.length (some parts.length), (id, ⟨sz, parts.map (ev e)⟩) :: h))
  | .mksl sz bytes z len cap => mkslR h sz bytes z (ev e len) (ev e cap)
  | .store n p x => storeR h n (ev e p) (ev e x)
  | .append sz bytes s x => .opt (elemsOf h sz (ev e x)) fun new => appR h sz bytes (ev e s) new
  | .call g args => callR w g (args.map (ev e))
  | .callv f args => callvE w (args.map (ev e)) (ev e f)
  | .appendz sz bytes z s x => appzR h sz bytes z (ev e s) (ev e x)
  | .clear sz z x => clearR h sz z (ev e x)
/-- No memory is touched. -/
def Res.plain : Res → Prop
  | .vh _ _ => False
  | .need _ r => r.plain
  | .opt _ f => ∀ y, (f y).plain
  | .two _ _ => False
  | .ite _ r s => r.plain ∧ s.plain
  | .fresh _ _ => False
  | .call _ _ => False
  | .callp _ _ => False
  | _ => True
theorem Res.dend_of {P : Program} {h : Heap} {K : AV → Heap → Prop} : ∀ {r : Res}, r.plain → r.den P h K → r.dend P h fun v => K v h
  | .val _, _, hk => hk
  | .vh _ _, hp, _ => hp.elim
  | .need _ _, hp, hk => ⟨hk.1, Res.dend_of hp hk.2⟩
  | .opt _ _, hp, ⟨y, h1, h2⟩ => ⟨y, h1, Res.dend_of (hp y) h2⟩
  | .two _ _, hp, _ => hp.elim
  | .ite _ _ _, hp, hk => ⟨fun t => Res.dend_of hp.1 (hk.1 t), fun t => Res.dend_of hp.2 (hk.2 t)⟩
  | .fresh _ _, hp, _ => hp.elim
  | .call _ _, hp, _ => hp.elim
  | .callp _ _, hp, _ => hp.elim
  | .no, _, hk => hk
theorem arR_plain (w : Bool) (kd : IntKind) (n : Int) : (arR w kd n).plain := by unfold arR; split <;> trivial
theorem opR_plain {h : Heap} {e : Env} {w : Bool} {op : SOp} (hc : isCall op = false) : (opR h e w op).plain := by
  cases op <;> simp only [isCall, reduceCtorEq] at hc <;> simp only [opR]
  case pick => unfold pickR; split <;> first | trivial | exact ⟨trivial, trivial⟩
  case bin o x y =>
    unfold binR
    split
    · cases o <;> first | trivial | exact arR_plain ..
    · cases o <;> trivial
    · trivial
  case beq => unfold beqR; split <;> trivial
  case eqs => unfold eqsR; split <;> first | trivial | exact fun _ => trivial
  case eqn => exact fun _ => trivial
  case un => unfold unR; split <;> trivial
  case conv => unfold convR; split <;> first | trivial | exact arR_plain ..
  case fieldA => unfold fieldAR; split <;> trivial
  case field => unfold fieldR; split <;> first | trivial | (split <;> first | trivial | exact fun _ => trivial)
  case idxA => unfold idxAR; split <;> first | trivial | exact fun _ => trivial
  case idx => unfold idxR; split <;> first | trivial | exact fun _ => trivial
  case load n ag x => exact fun cs => by cases ag <;> cases cs <;> trivial
  case nilchk => unfold nilchkR; split <;> trivial
  case slice =>
    refine fun _ _ m => ?_
    unfold sliceR
    split
    case h_3 => cases m <;> trivial
    all_goals trivial
  case sslice => refine fun _ _ => ?_; unfold sslR; split <;> trivial
  case extract => unfold extractR; split <;> first | trivial | exact fun _ => trivial
  case len => unfold lenR; split <;> trivial
  case slen => unfold slenR; split <;> trivial
  case bstr => unfold bstrR; split <;> first | trivial | exact fun _ => trivial
  case capk => unfold capR; split <;> trivial
  case mx => unfold mxR; split <;> first | trivial | exact fun _ => trivial
  case build => exact fun _ => trivial
  all_goals trivial
theorem effR_snd {h : Heap} {e : Env} {w : Bool} {op : SOp} {P : Program} {K : AV → Heap → Prop} (hc : isCall op = false) (hk : (effR h e w op).den P h K) : effVC h e op K := by
  have key : effR h e w op = opR h e w op → opVC h e op fun v => K v h := fun he =>
    opR_snd hc (Res.dend_of (opR_plain hc) (he ▸ hk))
  cases op <;> simp only [isCall, reduceCtorEq] at hc <;> simp only [effVC]
  case box m sz x =>
    cases m
    · rw [if_neg (by simp)]
      obtain ⟨h1, h2, h3⟩ := hk
      exact ⟨rfl, h1, h2, h3⟩
    · rw [if_pos rfl]; exact hk
  case alloc m sz x =>
    cases m
    · rw [if_neg (by simp)]
      obtain ⟨h1, h2, h3⟩ := hk
      exact ⟨rfl, h1, h2, h3⟩
    · rw [if_pos rfl]; exact hk
  case bsl m sz x =>
    cases m
    · rw [if_neg (by simp)]
      obtain ⟨h1, h2⟩ := hk
      exact ⟨rfl, h1, h2⟩
    · rw [if_pos rfl]; exact hk
  case mksl sz bytes z len cap =>
    simp only [effR, mkslR] at hk
    split at hk <;> first | (exact hk.elim) | skip
    rename_i h1 h2
    rw [h1, h2]; exact hk
  case store n p x =>
    simp only [effR, storeR] at hk
    split at hk <;> first | (exact hk.elim) | skip
    rename_i id sz i o hp
    rw [hp]
    obtain ⟨h1, h2, blk, h3, h4, h5, h6⟩ := hk
    refine ⟨h1, h2, blk, h3, h4, ?_⟩
    split at h6
    · rename_i hn
      obtain ⟨h7, h8⟩ := h6
      refine ⟨h7, h5, ?_⟩
      simp only [if_pos hn]; exact h8
    · rename_i hn
      obtain ⟨el, h7, h8⟩ := h6
      obtain ⟨hi, rfl⟩ := List.getElem?_eq_some_iff.1 h7
      refine ⟨hi, h5, ?_⟩
      simp only [if_neg hn]; exact h8
  case append sz bytes s x =>
    obtain ⟨new, h1, h2⟩ := hk
    refine ⟨new, h1, ?_⟩
    simp only [appR] at h2
    split at h2 <;> first | (exact h2.elim) | skip
    · rename_i hs
      rw [hs]
      by_cases hn : new = []
      · subst hn; simp only [if_true]; exact h2.1 rfl
      · simp only [if_neg hn]; exact h2.2 (by cases new <;> simp_all)
    · rename_i hs
      rw [hs]
      by_cases hn : new = []
      · subst hn; simp only [if_true]; exact h2.1 rfl
      · simp only [if_neg hn]; exact h2.2 (by cases new <;> simp_all)
    · rename_i id s' off len cap hs
      rw [hs]
      obtain ⟨h3, blk, h4, h5, h6, h7⟩ := h2
      refine ⟨h3, blk, h4, h5, h6, ?_⟩
      cases cap with
      | none => exact h7
      | some c =>
        by_cases hc : len + new.length ≤ c
        · simp only [if_pos hc]; exact h7.1 (by simpa using hc)
        · simp only [if_neg hc]; exact h7.2 (by simpa using hc)
  case clear sz z x =>
    simp only [effR, clearR] at hk
    split at hk <;> first | (exact hk.elim) | skip
    all_goals
      rename_i hp
      rw [hp]
      exact hk
  case appendz sz bytes z s x =>
    simp only [effR, appzR] at hk
    split at hk <;> first | (exact hk.elim) | skip
    rename_i h1 h2
    rw [h1, h2]; exact hk
  case eqn kd neg x =>
    simp only [effR] at hk
    revert hk; generalize ev e x = v; intro hk
    unfold eqnE at hk
    cases hb : nilOf kd v with
    | some b => rw [hb] at hk; exact hk
    | none =>
      rw [hb] at hk
      rcases kd with _ | kd
      · cases v <;> first | exact hk | exact hk.elim
      · exact hk.elim
  case mv => exact hk
  all_goals exact key rfl

/-! ## Code with notes -/
structure AI where
  d : Option Nat
  g : Option (Nat × Bool)
  w : Bool
  op : SOp
  ks : Option (List Nat)
def AI.er (a : AI) : SI := ⟨a.d, a.g, a.op⟩
def addK (d : Option Nat) (S : List Nat) : List Nat := match d with
  | some d => d :: S
  | none => S
/-- What is forgotten within a drawn region is not read any more. -/
def kOk : List AI → Option (List Nat) → Bool
  | [], _ => true
  | i :: is, S => (match S with
    | none => true
    | some S => i.er.uses.all fun t => S.contains t) && (match i.ks with
    | none => kOk is (S.map (addK i.d))
    | some ks => (match S with
      | none => true
      | some S => ks.all fun t => (addK i.d S).contains t) && kOk is (some ks))
/-- One operation, or a variable that gets its value at once and is not written again, or a new slice without elements. -/
inductive AJ where
  | o (a : AI)
  | v (d sz : Nat) (z : AV) (ms : List (Nat × Opd)) (x : Opd) (ks : Option (List Nat))
  | e (d sz : Nat) (ks : Option (List Nat))
def mvSI (m : Nat × Opd) : SI := ⟨some m.1, none, .mv m.2⟩
def mvs : Env → List (Nat × Opd) → Env
  | e, [] => e
  | e, m :: ms => mvs (put e (some m.1) (ev e m.2)) ms
def AJ.er : AJ → List SI
  | .o a => [a.er]
  | .e d sz _ => [⟨some d, none, .bsl true sz []⟩]
  | .v d sz z ms x _ => ⟨some d, none, .alloc true sz z⟩ :: (ms.map mvSI ++ [⟨none, none, .store sz (.t d) x⟩])
def anyShape : List AJ → Bool
  | [] => true
  | [.v ..] => true
  | .o _ :: js => anyShape js
  | _ => false
def AJ.ais : AJ → List AI
  | .o a => [a]
  | .e d sz ks => [⟨some d, none, false, .bsl true sz [], ks⟩]
  | .v d sz z ms x ks => ⟨some d, none, false, .alloc true sz z, none⟩ :: (ms.map (fun m => ⟨some m.1, none, false, .mv m.2, none⟩) ++ [⟨none, none, false, .store sz (.t d) x, ks⟩])
/-- What a region needs whose order is open. -/
def tOk (st : Nat) (js : List AJ) : Bool := anyShape js && kOk (js.flatMap AJ.ais) none && decide (js.length ≤ 200) && (js.flatMap AJ.ais).all fun a => (!(cK st) || !(callK0 a.op) || a.w) && (decide (st ≤ 1) || !(isLoad a.op) || a.w)
def AI.nk (a : AI) : AI := ⟨a.d, a.g, a.w, a.op, none⟩
def aAt (as : List AI) (j : Nat) : AI := as.getD j ⟨none, none, true, .mv (.c .undef), none⟩
def allK {α : Type} (f : α → Prop) : List α → Prop
  | [] => True
  | [a] => f a
  | a :: l => f a ∧ allK f l
inductive ACode where
  | skip
  | region (is : List AJ)
  | draw (is : List AI) (js : List AJ) (ok : kOk is none = true)
  | drawT (st : Nat) (js : List AJ) (ok : tOk st js = true)
  | drawE (as : List AI) (jss : List (List AJ)) (ords : List (List Nat)) (ok : jss.all (tOk 0) = true) (lk : jss.map (fun js => (js.flatMap AJ.ais).map AI.nk) = ords.map fun o => o.map (aAt as))
  | seq (a b : ACode)
  | cond (c : Opd) (a b : ACode)
  | block (id : Nat) (a : ACode)
  | loop (a : ACode)
  | cut (a : ACode)
  | exit (id : Nat)
  | ret
  | bad
def ACode.er : ACode → SCode
  | .skip => .skip
  | .region is => .region (is.flatMap AJ.er)
  | .draw is js _ => .draw (is.map AI.er) (js.flatMap AJ.er)
  | .drawT st js _ => .drawT st (js.flatMap AJ.er)
  | .drawE as _ ords _ _ => .drawE (as.map AI.er) ords
  | .seq a b => .seq a.er b.er
  | .cond c a b => .cond c a.er b.er
  | .block id a => .block id a.er
  | .loop a => .loop a.er
  | .cut a => a.er
  | .exit id => .exit id
  | .ret => .ret
  | .bad => .bad
inductive AItem where
  | code (c : ACode)
  | inBlock (id : Nat)
  | inLoop (c : ACode)
def AItem.er : AItem → SItem
  | .code c => .code c.er
  | .inBlock id => .inBlock id
  | .inLoop c => .inLoop c.er
def Run2 (C : Cx) (sk : List AItem) (e : Env) (h : Heap) (R : AV → Heap → Prop) : Prop := Run C (sk.map AItem.er) e h R
def Go2 (C : Cx) (is : List AJ) (sk : List AItem) (e : Env) (h : Heap) (R : AV → Heap → Prop) : Prop := Go C (is.flatMap AJ.er) (sk.map AItem.er) e h R
def kp (e : Env) : Option (List Nat) → Env
  | none => e
  | some l => keep e l
/-- Calls of functions that are known. -/
def callP : Option (Prop × AV) → Res
  | some (p, v) => .need p (.val v)
  | none => .no
def callK (g : FuncId) (args : List AV) : Option (Prop × AV) → Res
  | some (p, v) => .need p (.val v)
  | none => .call g args
def known (C : Cx) : Res → Res
  | .call g args => callK g args (C.orc false g args)
  | .callp g args => callP (C.orc true g args)
  | r => r
def draw2 (C : Cx) (h : Heap) (k : Env → Prop) : List AI → Env → Prop
  | [], e => k e
  | i :: is, e =>
    let f : Env → Prop := fun e => (known C (opR h e i.w i.op)).dend C.P h fun v => draw2 C h k is (kp (put e i.d v) i.ks)
    match i.g with
    | none => f e
    | some (s, b) => match eget e s with
      | .bool t => guardK t b (f ((s, .bool b) :: e)) (draw2 C h k is (kp (put ((s, .bool !b) :: e) i.d (.tup [])) i.ks))
      | .tup [] => draw2 C h k is (kp (put e i.d (.tup [])) i.ks)
      | _ => False
def exit2 (id : Nat) : List AItem → Option (List AItem)
  | .inBlock id' :: k => if id' = id then some k else exit2 id k
  | _ :: k => exit2 id k
  | [] => none
def varOk (d : Nat) (ms : List (Nat × Opd)) (x : Opd) : Bool := ms.all (fun m => !(m.1 == d) && !(m.2.uses.contains d)) && !(x.uses.contains d)
def varR (d sz : Nat) (z : AV) (ms : List (Nat × Opd)) (x : Opd) (v : AV) : Res := .need (storable z = true) (.need ((cellsOf z).length = sz) (.need (varOk d ms x = true) (.need (storable v = true) (.need ((cellsOf v).length = sz) (.val (.ip (cellsOf v)))))))
def vc2 (C : Cx) : Nat → List AJ → List AItem → Env → Heap → (AV → Heap → Prop) → Prop
  | 0, is, sk, e, h, R => Go2 C is sk e h R
  | n + 1, .v d sz z ms x ks :: is, sk, e, h, R => (varR d sz z ms x (ev (mvs e ms) x)).den C.P h fun v h' => vc2 C n is sk (kp (put (mvs e ms) (some d) v) ks) h' R
  | n + 1, .e d _ ks :: is, sk, e, h, R => vc2 C n is sk (kp (put e (some d) .emp) ks) h R
  | n + 1, .o i :: is, sk, e, h, R =>
    let f : Env → Prop := fun e => (known C (effR h e i.w i.op)).den C.P h fun v h' => vc2 C n is sk (kp (put e i.d v) i.ks) h' R
    match i.g with
    | none => f e
    | some (s, b) => match eget e s with
      | .bool t => guardK t b (f ((s, .bool b) :: e)) (vc2 C n is sk (kp (put ((s, .bool !b) :: e) i.d (.tup [])) i.ks) h R)
      | .tup [] => vc2 C n is sk (kp (put e i.d (.tup [])) i.ks) h R
      | _ => False
  | n + 1, [], sk, e, h, R => match sk with
    | [] => retVC C e h R
    | .inBlock _ :: sk => vc2 C n [] sk e h R
    | .inLoop a :: sk => Run2 C (.code a :: .inLoop a :: sk) e h R
    | .code c :: sk => match c with
      | .skip => vc2 C n [] sk e h R
      | .seq a b => vc2 C n [] (.code a :: .code b :: sk) e h R
      | .cond c a b => match ev e c with
        | .bool t => guardK t true (vc2 C n [] (.code a :: sk) e h R) (vc2 C n [] (.code b :: sk) e h R)
        | _ => False
      | .block id a => vc2 C n [] (.code a :: .inBlock id :: sk) e h R
      | .loop a => Run2 C (.code a :: .inLoop a :: sk) e h R
      | .cut a => Run2 C (.code a :: sk) e h R
      | .exit id => match exit2 id sk with
        | some sk' => vc2 C n [] sk' e h R
        | none => False
      | .ret => retVC C e h R
      | .bad => False
      | .region is => vc2 C n is sk e h R
      | .draw is js _ => draw2 C h (fun e => vc2 C n js sk e h R) is e
      | .drawT _ js _ => 200 ≤ n ∧ vc2 C n js sk e h R
      | .drawE _ jss _ _ _ => 200 ≤ n ∧ allK (fun js => vc2 C n js sk e h R) jss
attribute [irreducible] Run2 Go2
end Go.AG
