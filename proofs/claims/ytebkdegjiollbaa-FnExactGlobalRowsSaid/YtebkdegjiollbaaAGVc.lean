/- The operations of our own small layer: how an operation of the machine is read as one of ours ('cOp'), and what each of ours asks and gives ('opVC': reads alone; 'effVC': memory too). No statement about the program is made here. -/
import Derived.Test.YtebkdegjiollbaaAGRep
namespace Go.AG
open Go.RowKit

inductive Opd where
  | t (n : Nat)
  | c (v : AV)
  deriving Inhabited
abbrev Env := List (Nat × AV)
def eget : Env → Nat → AV
  | [], _ => .undef
  | (k, v) :: r, t => if k = t then v else eget r t
def ev (e : Env) : Opd → AV
  | .t n => eget e n
  | .c v => v

inductive SOp where
  | mv (x : Opd)
  | pick (c a b : Opd)
  | bin (op : BinOp) (x y : Opd)
  | beq (neg : Bool) (x y : Opd)
  | eqs (ks : List Nat) (neg : Bool) (x y : Opd)
  | eqn (kd : Nat) (neg : Bool) (x : Opd)
  | un (op : UnOp) (x : Opd)
  | conv (k : IntKind) (x : Opd)
  | fieldA (o : Nat) (x : Opd)
  | field (o n : Nat) (ag : Bool) (x : Opd)
  | idxA (sz : Nat) (x i : Opd)
  | idx (x i : Opd)
  | load (n : Nat) (ag : Bool) (x : Opd)
  | nilchk (x : Opd)
  | slice (sz : Nat) (x : Opd) (lo hi mx : Option Opd)
  | sslice (x : Opd) (lo hi : Option Opd)
  | mkfn (g : FuncId) (caps : List Opd)
  | extract (x : Opd) (i : Nat)
  | len (x : Opd)
  | slen (x : Opd)
  | bstr (x : Opd)
  | capk (x : Opd)
  | mx (isMax : Bool) (xs : List Opd)
  | box (m : Bool) (sz : Nat) (x : Opd)
  | alloc (m : Bool) (sz : Nat) (z : AV)
  | build (z : List AV) (parts : List (Nat × Nat × Opd))
  | bsl (m : Bool) (sz : Nat) (parts : List Opd)
  | mksl (sz bytes : Nat) (z : AV) (len cap : Opd)
  | store (n : Nat) (p x : Opd)
  | append (sz bytes : Nat) (s x : Opd)
  | appendz (sz bytes : Nat) (z : AV) (s x : Opd)
  | clear (sz : Nat) (z : AV) (x : Opd)
  | call (g : FuncId) (args : List Opd)
  | callv (f : Opd) (args : List Opd)
  deriving Inhabited

/-! ## What an operation gives -/
def binK (op : BinOp) : AV → AV → (AV → Prop) → Prop
  | .int kd a, .int kd' b, k => match op with
    | .shl => 0 ≤ b ∧ k (.int kd (kd.wrap (a * 2 ^ (min b.toNat kd.bits))))
    | .shr => 0 ≤ b ∧ k (.int kd (a.fdiv (2 ^ (min b.toNat kd.bits))))
    | .add => kd = kd' ∧ k (.int kd (kd.wrap (a + b)))
    | .sub => kd = kd' ∧ k (.int kd (kd.wrap (a - b)))
    | .mul => kd = kd' ∧ k (.int kd (kd.wrap (a * b)))
    | .quo => kd = kd' ∧ b ≠ 0 ∧ k (.int kd (kd.wrap (a.tdiv b)))
    | .rem => kd = kd' ∧ b ≠ 0 ∧ k (.int kd (a.tmod b))
    | .and => kd = kd' ∧ k (.int kd (bits .and kd a b))
    | .or => kd = kd' ∧ k (.int kd (bits .or kd a b))
    | .xor => kd = kd' ∧ k (.int kd (bits .xor kd a b))
    | .andNot => kd = kd' ∧ k (.int kd (bits .andNot kd a b))
    | .eql => kd = kd' ∧ k (.bool (a == b))
    | .neq => kd = kd' ∧ k (.bool (a != b))
    | .lss => kd = kd' ∧ k (.bool (decide (a < b)))
    | .leq => kd = kd' ∧ k (.bool (decide (a ≤ b)))
    | .gtr => kd = kd' ∧ k (.bool (decide (b < a)))
    | .geq => kd = kd' ∧ k (.bool (decide (b ≤ a)))
  | .str a, .str b, k => match op with
    | .add => a.length + b.length ≤ 9223372036854775807 ∧ k (.str (a ++ b))
    | .eql => k (.bool (a == b))
    | .neq => k (.bool (!(a == b)))
    | .lss => k (.bool (Op.bytesLess a b))
    | .leq => k (.bool (Op.bytesLess a b || a == b))
    | .gtr => k (.bool (!(Op.bytesLess a b || a == b)))
    | .geq => k (.bool (!(Op.bytesLess a b)))
    | _ => False
  | _, _, _ => False
def eqAV : Nat → AV → AV → Option Bool   -- 0: numbers, 1: bools, 2: strings
  | 0, .int k a, .int k' b => if k = k' then some (a == b) else none
  | 1, .bool a, .bool b => some (a == b)
  | 2, .str a, .str b => some (a == b)
  | _, _, _ => none
def eqAVs : List Nat → List AV → List AV → Option Bool
  | [], [], [] => some true
  | c :: cs, x :: xs, y :: ys => match eqAV c x y, eqAVs cs xs ys with
    | some b, some d => some (b && d)
    | _, _ => none
  | _, _, _ => none
def nilOf : Nat → AV → Option Bool   -- is it nil? 0: slices, 1: addresses, 2: functions
  | 0, .nilsl => some true
  | 0, .snap _ (_ :: _) => some false
  | 0, .sl _ _ _ (_ + 1) _ => some false
  | 1, .nilp => some true
  | 1, .ptr .. => some false
  | 1, .ip _ => some false
  | 2, .nilfn => some true
  | 3, .nili => some true
  | 3, .ifc => some false
  | 2, .fn .. => some false
  | _, _ => none
def mmAV (isMax : Bool) : AV → List AV → Option AV
  | x, [] => match x with
    | .int k a => some (.int k a)
    | _ => none
  | .int k a, .int _ b :: r => mmAV isMax (.int k (if isMax then max a b else min a b)) r
  | _, _ => none
def bytesAV : List AV → Option (List UInt8)
  | [] => some []
  | .int .u8 n :: r => (bytesAV r).map fun s => UInt8.ofNat n.toNat :: s
  | _ => none
def cellsAt (h : Heap) : AV → Option (List AV)
  | .ip l => some l
  | .ptr id sz i o => match hget h id with
    | some blk => if blk.sz = sz then (blk.l[i]?).map fun el => (cellsOf el).drop o else none
    | none => none
  | _ => none
def loadK (n : Nat) (ag : Bool) (cs : List AV) (k : AV → Prop) : Prop :=
  if ag then n ≤ cs.length ∧ k (.agg (cs.take n)) else match cs with
    | x :: _ => k x
    | [] => False
/-- The elements of a slice. -/
def elemsOf (h : Heap) (sz : Nat) : AV → Option (List AV)
  | .nilsl | .emp => some []
  | .snap s l => if s = sz then some l else none
  | .sl id s off len _ => if len = 0 then some [] else match hget h id with
    | some blk => if s = sz ∧ blk.sz = sz ∧ off + len ≤ blk.l.length then some ((blk.l.drop off).take len) else none
    | none => none
  | _ => none
def asN : AV → Option Int
  | .int _ n => some n
  | _ => none
/-- The bounds of a cut: present ones are whole numbers. -/
def bnd (e : Env) : Option Opd → Option (Option Int)
  | none => some none
  | some o => match ev e o with
    | .int _ n => some (some n)
    | _ => none
/-- Has a slice elements of this size? -/
def szOk (sz : Nat) : AV → Prop
  | .snap s _ | .sl _ s _ _ _ => s = sz
  | _ => True
/-- What a cut asks: the slice's length, and the capacity that is known. -/
def sliceC (lo hi mx : Option Int) (len cap : Nat) : Prop :=
  0 ≤ lo.getD 0 ∧ lo.getD 0 ≤ hi.getD len ∧ (mx ≠ none → hi ≠ none) ∧ hi.getD len ≤ mx.getD (hi.getD len) ∧ mx.getD (hi.getD len) ≤ cap
def sliceK (x : AV) (lo hi mx : Option Int) (k : AV → Prop) : Prop :=
  match x with
  | .nilsl => sliceC lo hi mx 0 0 ∧ k .nilsl
  | .emp => sliceC lo hi mx 0 0 ∧ k .emp
  | .snap s l => sliceC lo hi mx l.length l.length ∧ match mx with
    | none => k (.snap s ((l.drop (lo.getD 0).toNat).take (hi.getD l.length - lo.getD 0).toNat))
    | some m => m = lo.getD 0 ∧ k .emp
  | .sl id s off len cap => sliceC lo hi mx len (cap.getD len) ∧ k (.sl id s (off + (lo.getD 0).toNat) (hi.getD len - lo.getD 0).toNat (match mx with
    | some m => some (m - lo.getD 0).toNat
    | none => cap.map fun c => c - (lo.getD 0).toNat))
  | _ => False
def splice (l : List AV) (o : Nat) (vs : List AV) : List AV := l.take o ++ vs ++ l.drop (o + vs.length)
def fillAV (e : Env) : List AV → List (Nat × Nat × Opd) → Option (List AV)
  | z, [] => some z
  | z, (o, n, x) :: r => if storable (ev e x) = true ∧ (cellsOf (ev e x)).length = n ∧ o + n ≤ z.length then fillAV e (splice z o (cellsOf (ev e x))) r else none

/-- Two ways to go on: t is b, or it is not. -/
def guardK (t b : Bool) (A B : Prop) : Prop := (t = b → A) ∧ (t = !b → B)
def opVC (h : Heap) (e : Env) : SOp → (AV → Prop) → Prop
  | .mv x, k => k (ev e x)
  | .pick c a b, k => match ev e c with
    | .bool t => guardK t true (k (ev e a)) (k (ev e b))
    | _ => False
  | .bin op x y, k => binK op (ev e x) (ev e y) k
  | .beq neg x y, k => match ev e x, ev e y with
    | .bool a, .bool b => k (.bool (if neg then a != b else a == b))
    | _, _ => False
  | .eqs ks neg x y, k => match ev e x, ev e y with
    | .agg xs, .agg ys => ∃ b, eqAVs ks xs ys = some b ∧ k (.bool (if neg then !b else b))
    | _, _ => False
  | .eqn kd neg x, k => ∃ b, nilOf kd (ev e x) = some b ∧ k (.bool (if neg then !b else b))
  | .un op x, k => match op, ev e x with
    | .neg, .int kd n => k (.int kd (kd.wrap (0 - n)))
    | .not, .bool b => k (.bool (!b))
    | .xor, .int kd n => k (.int kd (bits .xor kd (if kd.signed then -1 else kd.max) n))
    | _, _ => False
  | .conv kd x, k => match ev e x with
    | .int _ n => k (.int kd (kd.wrap n))
    | _ => False
  | .fieldA o x, k => match ev e x with
    | .ptr id sz i o' => k (.ptr id sz i (o' + o))
    | .ip l => k (.ip (l.drop o))
    | _ => False
  | .field o n ag x, k => match ev e x with
    | .agg l => if ag then k (.agg ((l.drop o).take n)) else ∃ y, l[o]? = some y ∧ k y
    | _ => False
  | .idxA sz x i, k => match ev e x, ev e i with
    | .snap s l, .int _ n => s = sz ∧ 0 ≤ n ∧ ∃ hn : n.toNat < l.length, k (.ip (cellsOf l[n.toNat]))
    | .sl id s off len _, .int _ n => s = sz ∧ 0 ≤ n ∧ n.toNat < len ∧ k (.ptr id sz (off + n.toNat) 0)
    | _, _ => False
  | .idx x i, k => match ev e x, ev e i with
    | .str s, .int _ n => 0 ≤ n ∧ ∃ hn : n.toNat < s.length, k (.int .u8 s[n.toNat].toNat)
    | _, _ => False
  | .load n ag x, k => ∃ cs, cellsAt h (ev e x) = some cs ∧ loadK n ag cs k
  | .nilchk x, k => match ev e x with
    | .ptr id sz i o => k (.ptr id sz i o)
    | .ip l => k (.ip l)
    | _ => False
  | .slice sz x lo hi mx, k => szOk sz (ev e x) ∧ ∃ l, bnd e lo = some l ∧ ∃ h', bnd e hi = some h' ∧ ∃ m, bnd e mx = some m ∧ sliceK (ev e x) l h' m k
  | .sslice x lo hi, k => ∃ l, bnd e lo = some l ∧ ∃ h', bnd e hi = some h' ∧ match ev e x with
    | .str s => 0 ≤ l.getD 0 ∧ l.getD 0 ≤ h'.getD s.length ∧ h'.getD s.length ≤ s.length ∧ k (.str ((s.drop (l.getD 0).toNat).take (h'.getD s.length - l.getD 0).toNat))
    | _ => False
  | .mkfn g caps, k => k (.fn g (caps.map (ev e)))
  | .extract x i, k => match ev e x with
    | .tup l => ∃ y, l[i]? = some y ∧ k y
    | _ => False
  | .len x, k => match ev e x with
    | .nilsl | .emp => k (.int .i64 0)
    | .snap _ l => k (.int .i64 l.length)
    | .sl _ _ _ len _ => k (.int .i64 len)
    | _ => False
  | .capk x, k => match ev e x with
    | .nilsl | .emp => k (.int .i64 0)
    | .sl _ _ _ _ (some c) => k (.int .i64 c)
    | _ => False
  | .slen x, k => match ev e x with
    | .str s => k (.int .i64 s.length)
    | _ => False
  | .bstr x, k => match ev e x with
    | .nilsl => k (.str [])
    | .emp => k (.str [])
    | .snap 1 l => ∃ s, bytesAV l = some s ∧ k (.str s)
    | _ => False
  | .mx isMax xs, k => match xs.map (ev e) with
    | x :: r => ∃ y, mmAV isMax x r = some y ∧ k y
    | [] => False
  | .box m sz x, k => m = false ∧ storable (ev e x) = true ∧ (cellsOf (ev e x)).length = sz ∧ k (.ip (cellsOf (ev e x)))
  | .alloc m sz z, k => m = false ∧ storable z = true ∧ (cellsOf z).length = sz ∧ k (.ip (cellsOf z))
  | .build z parts, k => ∃ l, fillAV e z parts = some l ∧ k (.agg l)
  | .bsl m sz parts, k => m = false ∧ (∀ x ∈ parts.map (ev e), storable x = true ∧ (cellsOf x).length = sz) ∧ k (.snap sz (parts.map (ev e)))
  | _, _ => False

/-- With memory: what an operation asks of the blocks that may be written, and leaves. -/
def effVC (h : Heap) (e : Env) : SOp → (AV → Heap → Prop) → Prop
  | .box m sz x, K => if m then storable (ev e x) = true ∧ (cellsOf (ev e x)).length = sz ∧ ∀ id, id ∉ dom h → K (.ptr id sz 0 0) ((id, ⟨sz, [ev e x]⟩) :: h) else opVC h e (.box m sz x) fun v => K v h
  | .alloc m sz z, K => if m then storable z = true ∧ (cellsOf z).length = sz ∧ ∀ id, id ∉ dom h → K (.ptr id sz 0 0) ((id, ⟨sz, [z]⟩) :: h) else opVC h e (.alloc m sz z) fun v => K v h
  | .bsl m sz parts, K => if m then (∀ x ∈ parts.map (ev e), storable x = true ∧ (cellsOf x).length = sz) ∧ ∀ id, id ∉ dom h → K (.sl id sz 0 parts.length (some parts.length)) ((id, ⟨sz, parts.map (ev e)⟩) :: h) else opVC h e (.bsl m sz parts) fun v => K v h
  | .mksl sz bytes z len cap, K => match ev e len, ev e cap with
    | .int .i64 l, .int .i64 c => 0 ≤ l ∧ l ≤ c ∧ bytes * c ≤ 281474976710656 ∧ storable z = true ∧ (cellsOf z).length = sz ∧ ∀ id, id ∉ dom h → K (.sl id sz 0 l.toNat (some c.toNat)) ((id, ⟨sz, List.replicate c.toNat z⟩) :: h)
    | _, _ => False
  | .store n p x, K => match ev e p with
    | .ptr id sz i o => storable (ev e x) = true ∧ (cellsOf (ev e x)).length = n ∧ ∃ blk, hget h id = some blk ∧ blk.sz = sz ∧ ∃ hi : i < blk.l.length, o + n ≤ sz ∧
        K .undef (hset h id ⟨sz, blk.l.set i (if n = sz then ev e x else .agg (splice (cellsOf blk.l[i]) o (cellsOf (ev e x))))⟩)
    | _ => False
  | .append sz bytes s x, K => ∃ new, elemsOf h sz (ev e x) = some new ∧ match ev e s with
    | .nilsl => if new = [] then K .nilsl h else (2 * new.length) * bytes ≤ 281474976710656 ∧ ∀ id, id ∉ dom h → K (.sl id sz 0 new.length none) ((id, ⟨sz, new⟩) :: h)
    | .emp => if new = [] then K .emp h else (2 * new.length) * bytes ≤ 281474976710656 ∧ ∀ id, id ∉ dom h → K (.sl id sz 0 new.length none) ((id, ⟨sz, new⟩) :: h)
    | .sl id s off len cap => s = sz ∧ ∃ blk, hget h id = some blk ∧ blk.sz = sz ∧ off + len ≤ blk.l.length ∧ match cap with
      | none => off = 0 ∧ (2 * (len + new.length)) * bytes ≤ 281474976710656 ∧ ∀ id', id' ∉ dom (hdel h id) → K (.sl id' sz 0 (len + new.length) none) ((id', ⟨sz, blk.l.take len ++ new⟩) :: hdel h id)
      | some c => if len + new.length ≤ c then off + c ≤ blk.l.length ∧ K (.sl id sz off (len + new.length) (some c)) (hset h id ⟨sz, splice blk.l (off + len) new⟩)
        else (2 * (len + new.length)) * bytes ≤ 281474976710656 ∧ ∀ id', id' ∉ dom h → K (.sl id' sz 0 (len + new.length) none) ((id', ⟨sz, (blk.l.drop off).take len ++ new⟩) :: h)
    | _ => False
  | .eqn kd neg x, K => match nilOf kd (ev e x) with
    | some b => K (.bool (if neg then !b else b)) h
    | none => match kd, ev e x with
      | 0, .snap .. | 0, .sl .. | 0, .emp => K (.bool true) h ∧ K (.bool false) h
      | _, _ => False
  | .appendz sz bytes z s x, K => match ev e s, ev e x with
    | .nilsl, .int .i64 n => 0 < n ∧ (2 * n.toNat) * bytes ≤ 281474976710656 ∧ ∀ id, id ∉ dom h → K (.sl id sz 0 n.toNat none) ((id, ⟨sz, List.replicate n.toNat z⟩) :: h)
    | _, _ => False
  | .clear sz z x, K => match ev e x with
    | .nilsl | .emp => K .undef h
    | .sl id s off len _ => s = sz ∧ ∃ blk, hget h id = some blk ∧ blk.sz = sz ∧ off + len ≤ blk.l.length ∧ K .undef (hset h id ⟨sz, splice blk.l off (List.replicate len z)⟩)
    | _ => False
  | .mv x, K => K (ev e x) h
  | op, K => opVC h e op fun v => K v h

/-! ## Reading the machine's operations -/
def toAV : Value → Option AV
  | .int k n => some (.int k n)
  | .bool b => some (.bool b)
  | .string s => some (.str s.data.toList)
  | .slice none 0 0 => some .nilsl
  | .pointer none => some .nilp
  | .nilFunc => some .nilfn
  | .nilIface => some .nili
  | _ => none
def toAVs : List Value → Option (List AV)
  | [] => some []
  | v :: r => match toAV v, toAVs r with
    | some x, some xs => some (x :: xs)
    | _, _ => none
def zeroAV : Value → Option AV
  | .agg cs => (toAVs cs.toList).map .agg
  | v => toAV v
def cOpd : Operand → Option Opd
  | .tmp t => some (.t t)
  | .const v => (toAV v).map .c
  | .func f => some (.c (.fn f []))
  | .global _ => none
def cOpds : List Operand → Option (List Opd)
  | [] => some []
  | x :: r => match cOpd x, cOpds r with
    | some y, some ys => some (y :: ys)
    | _, _ => none
def cOptd : Option Operand → Option (Option Opd)
  | none => some none
  | some x => (cOpd x).map some
section
variable (P : Program)
def aggT (t : TypeId) : Bool := match P.underlying t with
  | some (.struct _) | some (.array ..) => true
  | _ => false
def knownT (t : TypeId) : Bool := (P.underlying t).isSome && (P.info? t).isSome
def elemT (t : TypeId) : Option TypeId := match P.underlying t with
  | some (.slice e) => if knownT P e && P.cellsOf e != 0 && P.bytesOf e != 0 then some e else none
  | _ => none
def zeroT (t : TypeId) : Option AV := match P.info? t with
  | some i => match i.zero with
    | some v => match zeroAV v with
      | some z => if decide ((cellsOf z).length = i.size) && storable z then some z else none
      | none => none
    | none => none
  | none => none
def scalK (t : TypeId) : Option Nat := match P.underlying t with
  | some (.int _) => some 0
  | some .bool => some 1
  | some .string => some 2
  | _ => none
def flatFs : Nat → List Field → Option (List Nat)   -- a struct of numbers, bools and strings
  | _, [] => some []
  | j, f :: r => match scalK P f.type, flatFs (j + 1) r with
    | some c, some cs => if f.name != "_" && decide (f.offset = j) && knownT P f.type then some (c :: cs) else none
    | _, _ => none
def flatT (t : TypeId) : Option (List Nat) := match P.underlying t with
  | some (.struct fs) => if !(P.stoodInHeld t) && !(P.eqGuardType P.depth t) then flatFs P 0 fs.toList else none
  | _ => none
def cParts (fs : Array Field) : List (Nat × Operand) → Option (List (Nat × Nat × Opd))
  | [] => some []
  | (i, x) :: r => match fs[i]?, cOpd x, cParts fs r with
    | some f, some y, some ys => if knownT P f.type then some ((f.offset, P.cellsOf f.type, y) :: ys) else none
    | _, _, _ => none
def cSeq : Nat → List (Nat × Operand) → Option (List Opd)   -- a slice's literal whose places are all told, in order
  | _, [] => some []
  | k, (i, x) :: r => if i = k then match cOpd x, cSeq (k + 1) r with
      | some y, some ys => some (y :: ys)
      | _, _ => none
    else none
def cBuiltin (b : Builtin) (argTypes : List TypeId) (args : List Operand) : Option SOp :=
  match b, argTypes, args with
  | .len, [t], [x] => match P.underlying t, cOpd x with
    | some (.slice _), some y => some (.len y)
    | some .string, some y => some (.slen y)
    | _, _ => none
  | .cap, [t], [x] => match P.underlying t, cOpd x with
    | some (.slice _), some y => some (.capk y)
    | _, _ => none
  | .append, [t, u], [s, x] => match elemT P t, cOpd s, cOpd x with
    | some el, some a, some b => match P.underlying u with
      | some (.slice _) => (zeroT P el).map fun _ => .append (P.cellsOf el) (P.bytesOf el) a b
      | some (.int .i64) => (zeroT P el).map fun z => .appendz (P.cellsOf el) (P.bytesOf el) z a b
      | _ => none
    | _, _, _ => none
  | .clear, [t], [x] => match elemT P t, cOpd x with
    | some el, some y => (zeroT P el).map fun z => .clear (P.cellsOf el) z y
    | _, _ => none
  | .max, _, xs => (cOpds xs).map (.mx true)
  | .min, _, xs => (cOpds xs).map (.mx false)
  | _, _, _ => none
def isNilC : Nat → Operand → Bool
  | 0, .const (.slice none _ _) => true
  | 1, .const (.pointer none) => true
  | 2, .const .nilFunc => true
  | 3, .const .nilIface => true
  | _, _ => false
def nilK (t : TypeId) : Option Nat := match P.underlying t with
  | some (.slice _) => some 0
  | some (.pointer _) => some 1
  | some (.func ..) => some 2
  | some (.interface _) => some 3
  | _ => none
def cBin (op : BinOp) (t : TypeId) (x y : Operand) : Option SOp :=
  match P.underlying t with
  | some (.int _) | some .string => match cOpd x, cOpd y with
    | some a, some b => some (.bin op a b)
    | _, _ => none
  | some .bool => match op, cOpd x, cOpd y with
    | .eql, some a, some b => some (.beq false a b)
    | .neq, some a, some b => some (.beq true a b)
    | _, _, _ => none
  | some (.struct _) => match flatT P t with
    | some ks => match op, cOpd x, cOpd y with
      | .eql, some a, some b => some (.eqs ks false a b)
      | .neq, some a, some b => some (.eqs ks true a b)
      | _, _, _ => none
    | none => none
  | _ => match nilK P t with
    | some kd => if isNilC kd y then match op, cOpd x with
        | .eql, some a => some (.eqn kd false a)
        | .neq, some a => some (.eqn kd true a)
        | _, _ => none
      else none
    | none => none
/-- M: the slots whose new memory may be written. -/
def cOp (M : List Nat) (o : Oper) : Option SOp :=
  let m : Bool := match o.dst with
    | some d => M.contains d
    | none => false
  match o.op with
  | .move x | .assign x => (cOpd x).map .mv
  | .pick c a b => match cOpd c, cOpd a, cOpd b with
    | some c, some a, some b => some (.pick c a b)
    | _, _, _ => none
  | .alloc t => if knownT P t then (zeroT P t).map fun z => .alloc m (P.cellsOf t) z else none
  | .box t x => (cOpd x).map fun y => .box m (P.cellsOf t) y
  | .build t parts => match P.underlying t, zeroT P t with
    | some (.struct fs), some (.agg z) => if fs.toList.all (fun f => knownT P f.type) then (cParts P fs parts.toList).map fun ps => .build z ps else none
    | _, _ => none
  | .buildSlice t len parts => match elemT P t, cSeq 0 parts.toList with
    | some el, some ps => if ps.length = len && len * P.cellsOf el ≤ 16777216 && (zeroT P el).isSome then some (.bsl m (P.cellsOf el) ps) else none
    | _, _ => none
  | .load t a => if knownT P t && (aggT P t || P.cellsOf t == 1) then (cOpd a).map fun y => .load (P.cellsOf t) (aggT P t) y else none
  | .store t a x => match cOpd a, cOpd x with
    | some a, some x => if knownT P t && P.cellsOf t != 0 then some (.store (P.cellsOf t) a x) else none
    | _, _ => none
  | .nilCheck x => (cOpd x).map .nilchk
  | .binOp op t x y _ => cBin P op t x y
  | .unOp op _ x => (cOpd x).map (.un op)
  | .convert s d x => match P.underlying s, P.underlying d, cOpd x with
    | some (.int _), some (.int k), some y => some (.conv k y)
    | some (.slice el), some .string, some y => if (match P.underlying el with | some (.int .u8) => true | _ => false) then some (.bstr y) else none
    | _, _, _ => none
  | .makeFunc (.func g) first caps => if first.size = 0 then (cOpds caps.toList).map (.mkfn g) else none
  | .makeSlice t l c => match elemT P t, cOpd l, cOpd c with
    | some el, some a, some b => (zeroT P el).map fun z => .mksl (P.cellsOf el) (P.bytesOf el) z a b
    | _, _, _ => none
  | .slice t x lo hi mx => match P.underlying t, cOpd x, cOptd lo, cOptd hi, cOptd mx with
    | some .string, some y, some l, some h, some none => some (.sslice y l h)
    | some (.slice el), some y, some l, some h, some m => if knownT P el then some (.slice (P.cellsOf el) y l h m) else none
    | _, _, _, _, _ => none
  | .fieldAddr s x f => match P.underlying s, cOpd x with
    | some (.struct fs), some y => match fs[f]? with
      | some fd => if knownT P fd.type && P.cellsOf fd.type != 0 then some (.fieldA fd.offset y) else none
      | none => none
    | _, _ => none
  | .field s x f => match P.underlying s, cOpd x with
    | some (.struct fs), some y => match fs[f]? with
      | some fd => if knownT P fd.type then some (.field fd.offset (P.cellsOf fd.type) (aggT P fd.type) y) else none
      | none => none
    | _, _ => none
  | .indexAddr t x i => match elemT P t, cOpd x, cOpd i with
    | some el, some a, some b => some (.idxA (P.cellsOf el) a b)
    | _, _, _ => none
  | .index t x i => match P.underlying t, cOpd x, cOpd i with
    | some .string, some a, some b => some (.idx a b)
    | _, _, _ => none
  | .extract x i => (cOpd x).map fun y => .extract y i
  | .call c => match c.callee, cOpds c.args.toList with
    | .builtin b, _ => cBuiltin P b c.argTypes.toList c.args.toList
    | .value (.func g), some xs => some (.call g xs)
    | .value f, some xs => (cOpd f).map fun y => .callv y xs
    | _, _ => none
  | _ => none
end
end Go.AG
