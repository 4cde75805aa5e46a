/- Our own small layer: how 'simp' runs through the conditions, each value once. No statement about the program is made here. -/
import Derived.Test.YtknonamjhdlmlaaAGSimp
namespace Go.AG
/-- Go on with what is there. -/
def optK {α : Type} (o : Option α) (f : α → Prop) : Prop := ∃ y, o = some y ∧ f y
@[simp ↓] theorem ex_some {α : Type} (o : Option α) (f : α → Prop) : (∃ y, o = some y ∧ f y) = optK o f := rfl
@[congr] theorem optK_congr {α : Type} {o o' : Option α} {f : α → Prop} (h : o = o') : optK o f = optK o' f := by rw [h]
@[simp, simp ↓] theorem optK_some {α : Type} (x : α) (f : α → Prop) : optK (some x) f = f x := by simp only [optK, Option.some.injEq, exists_eq_left']
@[simp, simp ↓] theorem optK_none {α : Type} (f : α → Prop) : optK none f = False := by simp only [optK, reduceCtorEq, false_and, exists_false]
@[congr] theorem guardK_congr {t t' b : Bool} {A B : Prop} (h : t = t') : guardK t b A B = guardK t' b A B := by rw [h]
section
variable (h : Heap) (e : Env) (k : AV → Prop)
@[simp ↓] theorem op_mv (x : Opd) : opVC h e (.mv x) k = k (ev e x) := rfl

def pickK (v a b : AV) (k : AV → Prop) : Prop := match v with
  | .bool t => guardK t true (k a) (k b)
  | _ => False
@[congr] theorem pickK_congr {v v' a b : AV} {k : AV → Prop} (h : v = v') : pickK v a b k = pickK v' a b k := by rw [h]
@[simp, simp ↓] theorem pickK_b (t : Bool) (a b : AV) : pickK (.bool t) a b k = guardK t true (k a) (k b) := rfl
@[simp ↓] theorem op_pick (c a b : Opd) : opVC h e (.pick c a b) k = pickK (ev e c) (ev e a) (ev e b) k := rfl

@[congr] theorem binK_congr {op : BinOp} {a a' b b' : AV} {k : AV → Prop} (h : a = a') (h' : b = b') : binK op a b k = binK op a' b' k := by rw [h, h']
@[simp ↓] theorem op_bin (o : BinOp) (a b : Opd) : opVC h e (.bin o a b) k = binK o (ev e a) (ev e b) k := rfl
section
variable (kd : IntKind) (a b : Int) (s t : List UInt8)
@[simp, simp ↓] theorem bin_add : binK .add (.int kd a) (.int kd b) k = k (.int kd (kd.wrap (a + b))) := by simp only [binK, true_and]
@[simp, simp ↓] theorem bin_sub : binK .sub (.int kd a) (.int kd b) k = k (.int kd (kd.wrap (a - b))) := by simp only [binK, true_and]
@[simp, simp ↓] theorem bin_mul : binK .mul (.int kd a) (.int kd b) k = k (.int kd (kd.wrap (a * b))) := by simp only [binK, true_and]
@[simp, simp ↓] theorem bin_quo : binK .quo (.int kd a) (.int kd b) k = (b ≠ 0 ∧ k (.int kd (kd.wrap (a.tdiv b)))) := by simp only [binK, true_and]
@[simp, simp ↓] theorem bin_rem : binK .rem (.int kd a) (.int kd b) k = (b ≠ 0 ∧ k (.int kd (a.tmod b))) := by simp only [binK, true_and]
@[simp, simp ↓] theorem bin_eql : binK .eql (.int kd a) (.int kd b) k = k (.bool (decide (a = b))) := by simp only [binK, true_and]; rfl
@[simp, simp ↓] theorem bin_neq : binK .neq (.int kd a) (.int kd b) k = k (.bool (!decide (a = b))) := by simp only [binK, true_and]; rfl
@[simp, simp ↓] theorem bin_lss : binK .lss (.int kd a) (.int kd b) k = k (.bool (decide (a < b))) := by simp only [binK, true_and]
@[simp, simp ↓] theorem bin_leq : binK .leq (.int kd a) (.int kd b) k = k (.bool (decide (a ≤ b))) := by simp only [binK, true_and]
@[simp, simp ↓] theorem bin_gtr : binK .gtr (.int kd a) (.int kd b) k = k (.bool (decide (b < a))) := by simp only [binK, true_and]
@[simp, simp ↓] theorem bin_geq : binK .geq (.int kd a) (.int kd b) k = k (.bool (decide (b ≤ a))) := by simp only [binK, true_and]
@[simp, simp ↓] theorem bin_and : binK .and (.int kd a) (.int kd b) k = k (.int kd (bits .and kd a b)) := by simp only [binK, true_and]
@[simp, simp ↓] theorem bin_or : binK .or (.int kd a) (.int kd b) k = k (.int kd (bits .or kd a b)) := by simp only [binK, true_and]
@[simp, simp ↓] theorem bin_xor : binK .xor (.int kd a) (.int kd b) k = k (.int kd (bits .xor kd a b)) := by simp only [binK, true_and]
@[simp, simp ↓] theorem bin_shl (kd' : IntKind) : binK .shl (.int kd a) (.int kd' b) k = (0 ≤ b ∧ k (.int kd (kd.wrap (a * 2 ^ (min b.toNat kd.bits))))) := by simp only [binK]
@[simp, simp ↓] theorem bin_shr (kd' : IntKind) : binK .shr (.int kd a) (.int kd' b) k = (0 ≤ b ∧ k (.int kd (a.fdiv (2 ^ (min b.toNat kd.bits))))) := by simp only [binK]
@[simp, simp ↓] theorem bin_sadd : binK .add (.str s) (.str t) k = (s.length + t.length ≤ 9223372036854775807 ∧ k (.str (s ++ t))) := by simp only [binK]
@[simp, simp ↓] theorem bin_seql : binK .eql (.str s) (.str t) k = k (.bool (s == t)) := by simp only [binK]
@[simp, simp ↓] theorem bin_sneq : binK .neq (.str s) (.str t) k = k (.bool (!(s == t))) := by simp only [binK]
end

def beqK (neg : Bool) (v w : AV) (k : AV → Prop) : Prop := match v, w with
  | .bool a, .bool b => k (.bool (if neg then a != b else a == b))
  | _, _ => False
@[congr] theorem beqK_congr {n : Bool} {a a' b b' : AV} {k : AV → Prop} (h : a = a') (h' : b = b') : beqK n a b k = beqK n a' b' k := by rw [h, h']
@[simp, simp ↓] theorem beqK_t (a b : Bool) : beqK true (.bool a) (.bool b) k = k (.bool (a != b)) := rfl
@[simp, simp ↓] theorem beqK_f (a b : Bool) : beqK false (.bool a) (.bool b) k = k (.bool (a == b)) := rfl
@[simp ↓] theorem op_beq (n : Bool) (a b : Opd) : opVC h e (.beq n a b) k = beqK n (ev e a) (ev e b) k := rfl

def eqsK (ks : List Nat) (neg : Bool) (v w : AV) (k : AV → Prop) : Prop := match v, w with
  | .agg xs, .agg ys => ∃ b, eqAVs ks xs ys = some b ∧ k (.bool (if neg then !b else b))
  | _, _ => False
@[congr] theorem eqsK_congr {ks : List Nat} {n : Bool} {a a' b b' : AV} {k : AV → Prop} (h : a = a') (h' : b = b') : eqsK ks n a b k = eqsK ks n a' b' k := by rw [h, h']
@[simp, simp ↓] theorem eqsK_t (ks : List Nat) (xs ys : List AV) : eqsK ks true (.agg xs) (.agg ys) k = optK (eqAVs ks xs ys) fun b => k (.bool (!b)) := rfl
@[simp, simp ↓] theorem eqsK_f (ks : List Nat) (xs ys : List AV) : eqsK ks false (.agg xs) (.agg ys) k = optK (eqAVs ks xs ys) fun b => k (.bool b) := rfl
@[simp ↓] theorem op_eqs (ks : List Nat) (n : Bool) (a b : Opd) : opVC h e (.eqs ks n a b) k = eqsK ks n (ev e a) (ev e b) k := rfl

def eqnD (kd : Nat) (neg : Bool) (v : AV) (k : AV → Prop) : Prop := ∃ b, nilOf kd v = some b ∧ k (.bool (if neg then !b else b))
@[congr] theorem eqnD_congr {kd : Nat} {n : Bool} {a a' : AV} {k : AV → Prop} (h : a = a') : eqnD kd n a k = eqnD kd n a' k := by rw [h]
@[simp, simp ↓] theorem eqnD_t (kd : Nat) (v : AV) : eqnD kd true v k = optK (nilOf kd v) fun b => k (.bool (!b)) := rfl
@[simp, simp ↓] theorem eqnD_f (kd : Nat) (v : AV) : eqnD kd false v k = optK (nilOf kd v) fun b => k (.bool b) := rfl
@[simp ↓] theorem op_eqn (kd : Nat) (n : Bool) (a : Opd) : opVC h e (.eqn kd n a) k = eqnD kd n (ev e a) k := rfl

def unK (op : UnOp) (v : AV) (k : AV → Prop) : Prop := match op, v with
  | .neg, .int kd n => k (.int kd (kd.wrap (0 - n)))
  | .not, .bool b => k (.bool (!b))
  | .xor, .int kd n => k (.int kd (bits .xor kd (if kd.signed then -1 else kd.max) n))
  | _, _ => False
@[congr] theorem unK_congr {op : UnOp} {a a' : AV} {k : AV → Prop} (h : a = a') : unK op a k = unK op a' k := by rw [h]
@[simp, simp ↓] theorem unK_neg (kd : IntKind) (n : Int) : unK .neg (.int kd n) k = k (.int kd (kd.wrap (0 - n))) := rfl
@[simp, simp ↓] theorem unK_not (b : Bool) : unK .not (.bool b) k = k (.bool (!b)) := rfl
@[simp ↓] theorem op_un (o : UnOp) (a : Opd) : opVC h e (.un o a) k = unK o (ev e a) k := rfl

def convK (kd : IntKind) (v : AV) (k : AV → Prop) : Prop := match v with
  | .int _ n => k (.int kd (kd.wrap n))
  | _ => False
@[congr] theorem convK_congr {kd : IntKind} {a a' : AV} {k : AV → Prop} (h : a = a') : convK kd a k = convK kd a' k := by rw [h]
@[simp, simp ↓] theorem convK_i (kd kd' : IntKind) (n : Int) : convK kd (.int kd' n) k = k (.int kd (kd.wrap n)) := rfl
@[simp ↓] theorem op_conv (kd : IntKind) (a : Opd) : opVC h e (.conv kd a) k = convK kd (ev e a) k := rfl

def fieldAK (o : Nat) (v : AV) (k : AV → Prop) : Prop := match v with
  | .ptr id sz i o' => k (.ptr id sz i (o' + o))
  | .ip l => k (.ip (l.drop o))
  | _ => False
@[congr] theorem fieldAK_congr {o : Nat} {a a' : AV} {k : AV → Prop} (h : a = a') : fieldAK o a k = fieldAK o a' k := by rw [h]
@[simp, simp ↓] theorem fieldAK_p (o id sz i o' : Nat) : fieldAK o (.ptr id sz i o') k = k (.ptr id sz i (o' + o)) := rfl
@[simp, simp ↓] theorem fieldAK_i (o : Nat) (l : List AV) : fieldAK o (.ip l) k = k (.ip (l.drop o)) := rfl
@[simp ↓] theorem op_fieldA (o : Nat) (a : Opd) : opVC h e (.fieldA o a) k = fieldAK o (ev e a) k := rfl

def fieldK (o n : Nat) (ag : Bool) (v : AV) (k : AV → Prop) : Prop := match v with
  | .agg l => if ag then k (.agg ((l.drop o).take n)) else ∃ y, l[o]? = some y ∧ k y
  | _ => False
@[congr] theorem fieldK_congr {o n : Nat} {ag : Bool} {a a' : AV} {k : AV → Prop} (h : a = a') : fieldK o n ag a k = fieldK o n ag a' k := by rw [h]
@[simp, simp ↓] theorem fieldK_t (o n : Nat) (l : List AV) : fieldK o n true (.agg l) k = k (.agg ((l.drop o).take n)) := rfl
@[simp, simp ↓] theorem fieldK_f (o n : Nat) (l : List AV) : fieldK o n false (.agg l) k = optK l[o]? k := rfl
@[simp ↓] theorem op_field (o n : Nat) (ag : Bool) (a : Opd) : opVC h e (.field o n ag a) k = fieldK o n ag (ev e a) k := rfl

def idxAK (sz : Nat) (v w : AV) (k : AV → Prop) : Prop := match v, w with
  | .snap s l, .int _ n => s = sz ∧ 0 ≤ n ∧ ∃ hn : n.toNat < l.length, k (.ip (cellsOf l[n.toNat]))
  | .sl id s off len _, .int _ n => s = sz ∧ 0 ≤ n ∧ n.toNat < len ∧ k (.ptr id sz (off + n.toNat) 0)
  | _, _ => False
@[congr] theorem idxAK_congr {s : Nat} {a a' b b' : AV} {k : AV → Prop} (h : a = a') (h' : b = b') : idxAK s a b k = idxAK s a' b' k := by rw [h, h']
@[simp, simp ↓] theorem idxAK_s (sz s : Nat) (l : List AV) (kd : IntKind) (n : Int) : idxAK sz (.snap s l) (.int kd n) k = (s = sz ∧ 0 ≤ n ∧ ∃ hn : n.toNat < l.length, k (.ip (cellsOf l[n.toNat]))) := rfl
@[simp, simp ↓] theorem idxAK_m (sz id s off len : Nat) (c : Option Nat) (kd : IntKind) (n : Int) : idxAK sz (.sl id s off len c) (.int kd n) k = (s = sz ∧ 0 ≤ n ∧ n.toNat < len ∧ k (.ptr id sz (off + n.toNat) 0)) := rfl
@[simp ↓] theorem op_idxA (sz : Nat) (a b : Opd) : opVC h e (.idxA sz a b) k = idxAK sz (ev e a) (ev e b) k := rfl

def idxK (v w : AV) (k : AV → Prop) : Prop := match v, w with
  | .str s, .int _ n => 0 ≤ n ∧ ∃ hn : n.toNat < s.length, k (.int .u8 s[n.toNat].toNat)
  | _, _ => False
@[congr] theorem idxK_congr {a a' b b' : AV} {k : AV → Prop} (h : a = a') (h' : b = b') : idxK a b k = idxK a' b' k := by rw [h, h']
@[simp, simp ↓] theorem idxK_s (s : List UInt8) (kd : IntKind) (n : Int) : idxK (.str s) (.int kd n) k = (0 ≤ n ∧ ∃ hn : n.toNat < s.length, k (.int .u8 s[n.toNat].toNat)) := rfl
@[simp ↓] theorem op_idx (a b : Opd) : opVC h e (.idx a b) k = idxK (ev e a) (ev e b) k := rfl

@[congr] theorem loadK_congr {n : Nat} {ag : Bool} {l l' : List AV} {k : AV → Prop} (h : l = l') : loadK n ag l k = loadK n ag l' k := by rw [h]
@[simp, simp ↓] theorem loadK_ag (n : Nat) (l : List AV) : loadK n true l k = (n ≤ l.length ∧ k (.agg (l.take n))) := rfl
@[simp, simp ↓] theorem loadK_one (n : Nat) (x : AV) (l : List AV) : loadK n false (x :: l) k = k x := rfl
@[simp ↓] theorem op_load (n : Nat) (ag : Bool) (a : Opd) : opVC h e (.load n ag a) k = optK (cellsAt h (ev e a)) fun cs => loadK n ag cs k := rfl

def nilchkK (v : AV) (k : AV → Prop) : Prop := match v with
  | .ptr id sz i o => k (.ptr id sz i o)
  | .ip l => k (.ip l)
  | _ => False
@[congr] theorem nilchkK_congr {a a' : AV} {k : AV → Prop} (h : a = a') : nilchkK a k = nilchkK a' k := by rw [h]
@[simp, simp ↓] theorem nilchkK_p (id sz i o : Nat) : nilchkK (.ptr id sz i o) k = k (.ptr id sz i o) := rfl
@[simp, simp ↓] theorem nilchkK_i (l : List AV) : nilchkK (.ip l) k = k (.ip l) := rfl
@[simp ↓] theorem op_nilchk (a : Opd) : opVC h e (.nilchk a) k = nilchkK (ev e a) k := rfl

@[congr] theorem sliceK_congr {x x' : AV} {a a' b b' c c' : Option Int} {k : AV → Prop} (h : x = x') (h1 : a = a') (h2 : b = b') (h3 : c = c') : sliceK x a b c k = sliceK x' a' b' c' k := by rw [h, h1, h2, h3]
attribute [simp] sliceK
@[simp ↓] theorem op_slice (sz : Nat) (a : Opd) (lo hi mx : Option Opd) : opVC h e (.slice sz a lo hi mx) k = (szOk sz (ev e a) ∧ optK (bnd e lo) fun l => optK (bnd e hi) fun h' => optK (bnd e mx) fun m => sliceK (ev e a) l h' m k) := rfl

def ssliceK (v : AV) (l h' : Option Int) (k : AV → Prop) : Prop := match v with
  | .str s => 0 ≤ l.getD 0 ∧ l.getD 0 ≤ h'.getD s.length ∧ h'.getD s.length ≤ s.length ∧ k (.str ((s.drop (l.getD 0).toNat).take (h'.getD s.length - l.getD 0).toNat))
  | _ => False
@[congr] theorem ssliceK_congr {x x' : AV} {a a' b b' : Option Int} {k : AV → Prop} (h : x = x') (h1 : a = a') (h2 : b = b') : ssliceK x a b k = ssliceK x' a' b' k := by rw [h, h1, h2]
@[simp, simp ↓] theorem ssliceK_s (s : List UInt8) (l h' : Option Int) : ssliceK (.str s) l h' k = (0 ≤ l.getD 0 ∧ l.getD 0 ≤ h'.getD s.length ∧ h'.getD s.length ≤ s.length ∧ k (.str ((s.drop (l.getD 0).toNat).take (h'.getD s.length - l.getD 0).toNat))) := rfl
@[simp ↓] theorem op_sslice (a : Opd) (lo hi : Option Opd) : opVC h e (.sslice a lo hi) k = (optK (bnd e lo) fun l => optK (bnd e hi) fun h' => ssliceK (ev e a) l h' k) := rfl

@[simp ↓] theorem op_mkfn (g : FuncId) (xs : List Opd) : opVC h e (.mkfn g xs) k = k (.fn g (xs.map (ev e))) := rfl

def extK (v : AV) (i : Nat) (k : AV → Prop) : Prop := match v with
  | .tup l => ∃ y, l[i]? = some y ∧ k y
  | _ => False
@[congr] theorem extK_congr {i : Nat} {a a' : AV} {k : AV → Prop} (h : a = a') : extK a i k = extK a' i k := by rw [h]
@[simp, simp ↓] theorem extK_t (i : Nat) (l : List AV) : extK (.tup l) i k = optK l[i]? k := rfl
@[simp ↓] theorem op_extract (a : Opd) (i : Nat) : opVC h e (.extract a i) k = extK (ev e a) i k := rfl

def lenK (v : AV) (k : AV → Prop) : Prop := match v with
  | .nilsl | .emp => k (.int .i64 0)
  | .snap _ l => k (.int .i64 l.length)
  | .sl _ _ _ len _ => k (.int .i64 len)
  | _ => False
@[congr] theorem lenK_congr {a a' : AV} {k : AV → Prop} (h : a = a') : lenK a k = lenK a' k := by rw [h]
@[simp, simp ↓] theorem lenK_n : lenK .nilsl k = k (.int .i64 0) := rfl
@[simp, simp ↓] theorem lenK_e : lenK .emp k = k (.int .i64 0) := rfl
@[simp, simp ↓] theorem lenK_s (s : Nat) (l : List AV) : lenK (.snap s l) k = k (.int .i64 l.length) := rfl
@[simp, simp ↓] theorem lenK_m (id s off len : Nat) (c : Option Nat) : lenK (.sl id s off len c) k = k (.int .i64 len) := rfl
@[simp ↓] theorem op_len (a : Opd) : opVC h e (.len a) k = lenK (ev e a) k := rfl

def slenK (v : AV) (k : AV → Prop) : Prop := match v with
  | .str s => k (.int .i64 s.length)
  | _ => False
@[congr] theorem slenK_congr {a a' : AV} {k : AV → Prop} (h : a = a') : slenK a k = slenK a' k := by rw [h]
@[simp, simp ↓] theorem slenK_s (s : List UInt8) : slenK (.str s) k = k (.int .i64 s.length) := rfl
@[simp ↓] theorem op_slen (a : Opd) : opVC h e (.slen a) k = slenK (ev e a) k := rfl

def mxK (m : Bool) (l : List AV) (k : AV → Prop) : Prop := match l with
  | x :: r => ∃ y, mmAV m x r = some y ∧ k y
  | [] => False
@[congr] theorem mxK_congr {m : Bool} {a a' : List AV} {k : AV → Prop} (h : a = a') : mxK m a k = mxK m a' k := by rw [h]
@[simp, simp ↓] theorem mxK_c (m : Bool) (x : AV) (r : List AV) : mxK m (x :: r) k = optK (mmAV m x r) k := rfl
@[simp ↓] theorem op_mx (m : Bool) (xs : List Opd) : opVC h e (.mx m xs) k = mxK m (xs.map (ev e)) k := rfl

def boxK (sz : Nat) (v : AV) (k : AV → Prop) : Prop := storable v = true ∧ (cellsOf v).length = sz ∧ k (.ip (cellsOf v))
@[congr] theorem boxK_congr {m : Nat} {a a' : AV} {k : AV → Prop} (h : a = a') : boxK m a k = boxK m a' k := by rw [h]
@[simp, simp ↓] theorem boxK_eq (sz : Nat) (v : AV) : boxK sz v k = (storable v = true ∧ (cellsOf v).length = sz ∧ k (.ip (cellsOf v))) := rfl
@[simp ↓] theorem op_box (sz : Nat) (a : Opd) : opVC h e (.box false sz a) k = boxK sz (ev e a) k := by simp only [opVC, boxK, true_and]
@[simp ↓] theorem op_alloc (sz : Nat) (z : AV) : opVC h e (.alloc false sz z) k = (storable z = true ∧ (cellsOf z).length = sz ∧ k (.ip (cellsOf z))) := by simp only [opVC, true_and]
@[simp ↓] theorem op_build (z : List AV) (ps : List (Nat × Nat × Opd)) : opVC h e (.build z ps) k = optK (fillAV e z ps) fun l => k (.agg l) := rfl
def bslK (sz : Nat) (l : List AV) (k : AV → Prop) : Prop := (∀ x ∈ l, storable x = true ∧ (cellsOf x).length = sz) ∧ k (.snap sz l)
@[congr] theorem bslK_congr {m : Nat} {a a' : List AV} {k : AV → Prop} (h : a = a') : bslK m a k = bslK m a' k := by rw [h]
@[simp, simp ↓] theorem bslK_eq (sz : Nat) (l : List AV) : bslK sz l k = ((∀ x ∈ l, storable x = true ∧ (cellsOf x).length = sz) ∧ k (.snap sz l)) := rfl
@[simp ↓] theorem op_bsl (sz : Nat) (xs : List Opd) : opVC h e (.bsl false sz xs) k = bslK sz (xs.map (ev e)) k := by simp only [opVC, bslK, true_and]
end

section
variable (h : Heap) (e : Env) (K : AV → Heap → Prop)
@[simp ↓] theorem eff_mv (x : Opd) : effVC h e (.mv x) K = K (ev e x) h := rfl
@[simp ↓] theorem eff_pick (c a b : Opd) : effVC h e (.pick c a b) K = opVC h e (.pick c a b) fun v => K v h := rfl
@[simp ↓] theorem eff_bin (o : BinOp) (a b : Opd) : effVC h e (.bin o a b) K = opVC h e (.bin o a b) fun v => K v h := rfl
@[simp ↓] theorem eff_beq (n : Bool) (a b : Opd) : effVC h e (.beq n a b) K = opVC h e (.beq n a b) fun v => K v h := rfl
@[simp ↓] theorem eff_eqs (ks : List Nat) (n : Bool) (a b : Opd) : effVC h e (.eqs ks n a b) K = opVC h e (.eqs ks n a b) fun v => K v h := rfl
@[simp ↓] theorem eff_un (o : UnOp) (a : Opd) : effVC h e (.un o a) K = opVC h e (.un o a) fun v => K v h := rfl
@[simp ↓] theorem eff_conv (kd : IntKind) (a : Opd) : effVC h e (.conv kd a) K = opVC h e (.conv kd a) fun v => K v h := rfl
@[simp ↓] theorem eff_fieldA (o : Nat) (a : Opd) : effVC h e (.fieldA o a) K = opVC h e (.fieldA o a) fun v => K v h := rfl
@[simp ↓] theorem eff_field (o n : Nat) (ag : Bool) (a : Opd) : effVC h e (.field o n ag a) K = opVC h e (.field o n ag a) fun v => K v h := rfl
@[simp ↓] theorem eff_idxA (o : Nat) (a b : Opd) : effVC h e (.idxA o a b) K = opVC h e (.idxA o a b) fun v => K v h := rfl
@[simp ↓] theorem eff_idx (a b : Opd) : effVC h e (.idx a b) K = opVC h e (.idx a b) fun v => K v h := rfl
@[simp ↓] theorem eff_load (n : Nat) (ag : Bool) (a : Opd) : effVC h e (.load n ag a) K = opVC h e (.load n ag a) fun v => K v h := rfl
@[simp ↓] theorem eff_nilchk (a : Opd) : effVC h e (.nilchk a) K = opVC h e (.nilchk a) fun v => K v h := rfl
@[simp ↓] theorem eff_slice (n : Nat) (a : Opd) (b c d : Option Opd) : effVC h e (.slice n a b c d) K = opVC h e (.slice n a b c d) fun v => K v h := rfl
@[simp ↓] theorem eff_sslice (a : Opd) (b c : Option Opd) : effVC h e (.sslice a b c) K = opVC h e (.sslice a b c) fun v => K v h := rfl
@[simp ↓] theorem eff_mkfn (g : FuncId) (xs : List Opd) : effVC h e (.mkfn g xs) K = opVC h e (.mkfn g xs) fun v => K v h := rfl
@[simp ↓] theorem eff_extract (a : Opd) (i : Nat) : effVC h e (.extract a i) K = opVC h e (.extract a i) fun v => K v h := rfl
@[simp ↓] theorem eff_len (a : Opd) : effVC h e (.len a) K = opVC h e (.len a) fun v => K v h := rfl
@[simp ↓] theorem eff_slen (a : Opd) : effVC h e (.slen a) K = opVC h e (.slen a) fun v => K v h := rfl
@[simp ↓] theorem eff_mx (m : Bool) (xs : List Opd) : effVC h e (.mx m xs) K = opVC h e (.mx m xs) fun v => K v h := rfl
@[simp ↓] theorem eff_build (z : List AV) (ps : List (Nat × Nat × Opd)) : effVC h e (.build z ps) K = opVC h e (.build z ps) fun v => K v h := rfl
@[simp ↓] theorem eff_box0 (sz : Nat) (a : Opd) : effVC h e (.box false sz a) K = opVC h e (.box false sz a) fun v => K v h := rfl
@[simp ↓] theorem eff_alloc0 (sz : Nat) (z : AV) : effVC h e (.alloc false sz z) K = opVC h e (.alloc false sz z) fun v => K v h := rfl
@[simp ↓] theorem eff_bsl0 (sz : Nat) (xs : List Opd) : effVC h e (.bsl false sz xs) K = opVC h e (.bsl false sz xs) fun v => K v h := rfl
@[simp ↓] theorem eff_box1 (sz : Nat) (a : Opd) : effVC h e (.box true sz a) K = (storable (ev e a) = true ∧ (cellsOf (ev e a)).length = sz ∧ ∀ id, id ∉ dom h → K (.ptr id sz 0 0) ((id, ⟨sz, [ev e a]⟩) :: h)) := rfl
@[simp ↓] theorem eff_alloc1 (sz : Nat) (z : AV) : effVC h e (.alloc true sz z) K = (storable z = true ∧ (cellsOf z).length = sz ∧ ∀ id, id ∉ dom h → K (.ptr id sz 0 0) ((id, ⟨sz, [z]⟩) :: h)) := rfl
@[simp ↓] theorem eff_bsl1 (sz : Nat) (xs : List Opd) : effVC h e (.bsl true sz xs) K = ((∀ x ∈ xs.map (ev e), storable x = true ∧ (cellsOf x).length = sz) ∧ ∀ id, id ∉ dom h → K (.sl id sz 0 xs.length (some xs.length)) ((id, ⟨sz, xs.map (ev e)⟩) :: h)) := rfl

/-- Nil or not: where a slice may be either, both. -/
def eqnK (kd : Nat) (neg : Bool) (v : AV) (h : Heap) (K : AV → Heap → Prop) : Prop := match nilOf kd v with
  | some b => K (.bool (if neg then !b else b)) h
  | none => match kd, v with
    | 0, .snap .. | 0, .sl .. | 0, .emp => K (.bool true) h ∧ K (.bool false) h
    | _, _ => False
@[congr] theorem eqnK_congr {kd : Nat} {n : Bool} {a a' : AV} {h : Heap} {K : AV → Heap → Prop} (e : a = a') : eqnK kd n a h K = eqnK kd n a' h K := by rw [e]
@[simp, simp ↓] theorem eqnK_nil (n : Bool) : eqnK 0 n .nilsl h K = K (.bool (!n)) h := by cases n <;> rfl
@[simp, simp ↓] theorem eqnK_cons (n : Bool) (s : Nat) (x : AV) (l : List AV) : eqnK 0 n (.snap s (x :: l)) h K = K (.bool n) h := by cases n <;> rfl
theorem eqnK_any (n : Bool) (s : Nat) (l : List AV) (g : K (.bool true) h ∧ K (.bool false) h) : eqnK 0 n (.snap s l) h K := by
  cases l with
  | nil => exact g
  | cons x l => rw [eqnK_cons]; cases n; exact g.2; exact g.1
@[simp, simp ↓] theorem eqnK_p0 (n : Bool) : eqnK 1 n .nilp h K = K (.bool (!n)) h := by cases n <;> rfl
@[simp, simp ↓] theorem eqnK_p1 (n : Bool) (id sz i o : Nat) : eqnK 1 n (.ptr id sz i o) h K = K (.bool n) h := by cases n <;> rfl
@[simp, simp ↓] theorem eqnK_p2 (n : Bool) (l : List AV) : eqnK 1 n (.ip l) h K = K (.bool n) h := by cases n <;> rfl
@[simp, simp ↓] theorem eqnK_f0 (n : Bool) : eqnK 2 n .nilfn h K = K (.bool (!n)) h := by cases n <;> rfl
@[simp, simp ↓] theorem eqnK_f1 (n : Bool) (g : FuncId) (l : List AV) : eqnK 2 n (.fn g l) h K = K (.bool n) h := by cases n <;> rfl
@[simp ↓] theorem eff_eqn (kd : Nat) (n : Bool) (a : Opd) : effVC h e (.eqn kd n a) K = eqnK kd n (ev e a) h K := rfl

def mkslK (h : Heap) (sz bytes : Nat) (z : AV) (v w : AV) (K : AV → Heap → Prop) : Prop := match v, w with
  | .int .i64 l, .int .i64 c => 0 ≤ l ∧ l ≤ c ∧ bytes * c ≤ 281474976710656 ∧ storable z = true ∧ (cellsOf z).length = sz ∧ ∀ id, id ∉ dom h → K (.sl id sz 0 l.toNat (some c.toNat)) ((id, ⟨sz, List.replicate c.toNat z⟩) :: h)
  | _, _ => False
@[congr] theorem mkslK_congr {h : Heap} {sz b : Nat} {z v v' w w' : AV} {K : AV → Heap → Prop} (e1 : v = v') (e2 : w = w') : mkslK h sz b z v w K = mkslK h sz b z v' w' K := by rw [e1, e2]
@[simp, simp ↓] theorem mkslK_i (sz bytes : Nat) (z : AV) (l c : Int) : mkslK h sz bytes z (.int .i64 l) (.int .i64 c) K = (0 ≤ l ∧ l ≤ c ∧ bytes * c ≤ 281474976710656 ∧ storable z = true ∧ (cellsOf z).length = sz ∧ ∀ id, id ∉ dom h → K (.sl id sz 0 l.toNat (some c.toNat)) ((id, ⟨sz, List.replicate c.toNat z⟩) :: h)) := rfl
@[simp ↓] theorem eff_mksl (sz bytes : Nat) (z : AV) (a b : Opd) : effVC h e (.mksl sz bytes z a b) K = mkslK h sz bytes z (ev e a) (ev e b) K := rfl

def storeK (h : Heap) (n : Nat) (v w : AV) (K : AV → Heap → Prop) : Prop := match v with
  | .ptr id sz i o => storable w = true ∧ (cellsOf w).length = n ∧ ∃ blk, hget h id = some blk ∧ blk.sz = sz ∧ ∃ hi : i < blk.l.length, o + n ≤ sz ∧
      K .undef (hset h id ⟨sz, blk.l.set i (if n = sz then w else .agg (splice (cellsOf blk.l[i]) o (cellsOf w)))⟩)
  | _ => False
@[congr] theorem storeK_congr {h : Heap} {n : Nat} {v v' w w' : AV} {K : AV → Heap → Prop} (e1 : v = v') (e2 : w = w') : storeK h n v w K = storeK h n v' w' K := by rw [e1, e2]
@[simp, simp ↓] theorem storeK_p (n id sz i o : Nat) (w : AV) : storeK h n (.ptr id sz i o) w K = (storable w = true ∧ (cellsOf w).length = n ∧ optK (hget h id) fun blk => blk.sz = sz ∧ ∃ hi : i < blk.l.length, o + n ≤ sz ∧
      K .undef (hset h id ⟨sz, blk.l.set i (if n = sz then w else .agg (splice (cellsOf blk.l[i]) o (cellsOf w)))⟩)) := rfl
@[simp ↓] theorem eff_store (n : Nat) (a b : Opd) : effVC h e (.store n a b) K = storeK h n (ev e a) (ev e b) K := rfl

def appK (h : Heap) (sz bytes : Nat) (v w : AV) (K : AV → Heap → Prop) : Prop := ∃ new, elemsOf h sz w = some new ∧ match v with
    | .nilsl => if new = [] then K .nilsl h else (2 * new.length) * bytes ≤ 281474976710656 ∧ ∀ id, id ∉ dom h → K (.sl id sz 0 new.length none) ((id, ⟨sz, new⟩) :: h)
    | .emp => if new = [] then K .emp h else (2 * new.length) * bytes ≤ 281474976710656 ∧ ∀ id, id ∉ dom h → K (.sl id sz 0 new.length none) ((id, ⟨sz, new⟩) :: h)
    | .sl id s off len cap => s = sz ∧ ∃ blk, hget h id = some blk ∧ blk.sz = sz ∧ off + len ≤ blk.l.length ∧ match cap with
      | none => off = 0 ∧ (2 * (len + new.length)) * bytes ≤ 281474976710656 ∧ ∀ id', id' ∉ dom (hdel h id) → K (.sl id' sz 0 (len + new.length) none) ((id', ⟨sz, blk.l.take len ++ new⟩) :: hdel h id)
      | some c => if len + new.length ≤ c then off + c ≤ blk.l.length ∧ K (.sl id sz off (len + new.length) (some c)) (hset h id ⟨sz, splice blk.l (off + len) new⟩)
        else (2 * (len + new.length)) * bytes ≤ 281474976710656 ∧ ∀ id', id' ∉ dom h → K (.sl id' sz 0 (len + new.length) none) ((id', ⟨sz, (blk.l.drop off).take len ++ new⟩) :: h)
    | _ => False
@[congr] theorem appK_congr {h : Heap} {sz b : Nat} {v v' w w' : AV} {K : AV → Heap → Prop} (e1 : v = v') (e2 : w = w') : appK h sz b v w K = appK h sz b v' w' K := by rw [e1, e2]
section
variable (sz bytes : Nat) (w : AV)
@[simp, simp ↓] theorem appK_n : appK h sz bytes .nilsl w K = optK (elemsOf h sz w) fun new => if new = [] then K .nilsl h else (2 * new.length) * bytes ≤ 281474976710656 ∧ ∀ id, id ∉ dom h → K (.sl id sz 0 new.length none) ((id, ⟨sz, new⟩) :: h) := rfl
@[simp, simp ↓] theorem appK_e : appK h sz bytes .emp w K = optK (elemsOf h sz w) fun new => if new = [] then K .emp h else (2 * new.length) * bytes ≤ 281474976710656 ∧ ∀ id, id ∉ dom h → K (.sl id sz 0 new.length none) ((id, ⟨sz, new⟩) :: h) := rfl
@[simp, simp ↓] theorem appK_u (id s off len : Nat) : appK h sz bytes (.sl id s off len none) w K = optK (elemsOf h sz w) fun new => s = sz ∧ optK (hget h id) fun blk => blk.sz = sz ∧ off + len ≤ blk.l.length ∧
      off = 0 ∧ (2 * (len + new.length)) * bytes ≤ 281474976710656 ∧ ∀ id', id' ∉ dom (hdel h id) → K (.sl id' sz 0 (len + new.length) none) ((id', ⟨sz, blk.l.take len ++ new⟩) :: hdel h id) := rfl
@[simp, simp ↓] theorem appK_c (id s off len c : Nat) : appK h sz bytes (.sl id s off len (some c)) w K = optK (elemsOf h sz w) fun new => s = sz ∧ optK (hget h id) fun blk => blk.sz = sz ∧ off + len ≤ blk.l.length ∧
      if len + new.length ≤ c then off + c ≤ blk.l.length ∧ K (.sl id sz off (len + new.length) (some c)) (hset h id ⟨sz, splice blk.l (off + len) new⟩)
        else (2 * (len + new.length)) * bytes ≤ 281474976710656 ∧ ∀ id', id' ∉ dom h → K (.sl id' sz 0 (len + new.length) none) ((id', ⟨sz, (blk.l.drop off).take len ++ new⟩) :: h) := rfl
end
@[simp ↓] theorem eff_append (sz bytes : Nat) (a b : Opd) : effVC h e (.append sz bytes a b) K = appK h sz bytes (ev e a) (ev e b) K := rfl
end

section
variable (C : Cx) (n : Nat) (is : List SI) (sk : List SItem) (e : Env) (h : Heap) (R : AV → Heap → Prop) (d : Option Nat)
/-- A call. -/
def callK (P : Program) (v : AV) (args : List AV) (h : Heap) (R : AV → Heap → Prop) : Prop := match v with
  | .fn g caps => ACalls P g (args ++ caps) h R
  | _ => False
@[congr] theorem callK_congr {P : Program} {v v' : AV} {a a' : List AV} {h : Heap} {R : AV → Heap → Prop} (e1 : v = v') (e2 : a = a') : callK P v a h R = callK P v' a' h R := by rw [e1, e2]
@[simp, simp ↓] theorem callK_f (P : Program) (g : FuncId) (caps args : List AV) : callK P (.fn g caps) args h R = ACalls P g (args ++ caps) h R := rfl
def stepK (C : Cx) (n : Nat) (is : List SI) (sk : List SItem) (h : Heap) (R : AV → Heap → Prop) (d : Option Nat) (op : SOp) (e : Env) : Prop := match op with
  | .call g args => ACalls C.P g (args.map (ev e)) h fun v h' => Go C is sk (put e d v) h' R
  | .callv f args => match ev e f with
    | .fn g caps => ACalls C.P g (args.map (ev e) ++ caps) h fun v h' => Go C is sk (put e d v) h' R
    | _ => False
  | op => effVC h e op fun v h' => if newK op then Go C is sk (put e d v) h' R else vc C n is sk (put e d v) h' R
section
variable (K1 : Nat)
@[simp ↓] theorem step_call (g : FuncId) (xs : List Opd) : stepK C n is sk h R d (.call g xs) e = ACalls C.P g (xs.map (ev e)) h fun v h' => Go C is sk (put e d v) h' R := rfl
@[simp ↓] theorem step_callv (f : Opd) (xs : List Opd) : stepK C n is sk h R d (.callv f xs) e = callK C.P (ev e f) (xs.map (ev e)) h fun v h' => Go C is sk (put e d v) h' R := rfl
@[simp ↓] theorem step_mv (x : Opd) : stepK C n is sk h R d (.mv x) e = effVC h e (.mv x) fun v h' => vc C n is sk (put e d v) h' R := rfl
@[simp ↓] theorem step_pick (c a b : Opd) : stepK C n is sk h R d (.pick c a b) e = effVC h e (.pick c a b) fun v h' => vc C n is sk (put e d v) h' R := rfl
@[simp ↓] theorem step_bin (o : BinOp) (a b : Opd) : stepK C n is sk h R d (.bin o a b) e = effVC h e (.bin o a b) fun v h' => vc C n is sk (put e d v) h' R := rfl
@[simp ↓] theorem step_beq (m : Bool) (a b : Opd) : stepK C n is sk h R d (.beq m a b) e = effVC h e (.beq m a b) fun v h' => vc C n is sk (put e d v) h' R := rfl
@[simp ↓] theorem step_eqs (ks : List Nat) (m : Bool) (a b : Opd) : stepK C n is sk h R d (.eqs ks m a b) e = effVC h e (.eqs ks m a b) fun v h' => vc C n is sk (put e d v) h' R := rfl
@[simp ↓] theorem step_eqn (kd : Nat) (m : Bool) (a : Opd) : stepK C n is sk h R d (.eqn kd m a) e = effVC h e (.eqn kd m a) fun v h' => vc C n is sk (put e d v) h' R := rfl
@[simp ↓] theorem step_un (o : UnOp) (a : Opd) : stepK C n is sk h R d (.un o a) e = effVC h e (.un o a) fun v h' => vc C n is sk (put e d v) h' R := rfl
@[simp ↓] theorem step_conv (kd : IntKind) (a : Opd) : stepK C n is sk h R d (.conv kd a) e = effVC h e (.conv kd a) fun v h' => vc C n is sk (put e d v) h' R := rfl
@[simp ↓] theorem step_fieldA (o : Nat) (a : Opd) : stepK C n is sk h R d (.fieldA o a) e = effVC h e (.fieldA o a) fun v h' => vc C n is sk (put e d v) h' R := rfl
@[simp ↓] theorem step_field (o m : Nat) (ag : Bool) (a : Opd) : stepK C n is sk h R d (.field o m ag a) e = effVC h e (.field o m ag a) fun v h' => vc C n is sk (put e d v) h' R := rfl
@[simp ↓] theorem step_idxA (o : Nat) (a b : Opd) : stepK C n is sk h R d (.idxA o a b) e = effVC h e (.idxA o a b) fun v h' => vc C n is sk (put e d v) h' R := rfl
@[simp ↓] theorem step_idx (a b : Opd) : stepK C n is sk h R d (.idx a b) e = effVC h e (.idx a b) fun v h' => vc C n is sk (put e d v) h' R := rfl
@[simp ↓] theorem step_load (m : Nat) (ag : Bool) (a : Opd) : stepK C n is sk h R d (.load m ag a) e = effVC h e (.load m ag a) fun v h' => vc C n is sk (put e d v) h' R := rfl
@[simp ↓] theorem step_nilchk (a : Opd) : stepK C n is sk h R d (.nilchk a) e = effVC h e (.nilchk a) fun v h' => vc C n is sk (put e d v) h' R := rfl
@[simp ↓] theorem step_slice (m : Nat) (a : Opd) (b c f : Option Opd) : stepK C n is sk h R d (.slice m a b c f) e = effVC h e (.slice m a b c f) fun v h' => vc C n is sk (put e d v) h' R := rfl
@[simp ↓] theorem step_sslice (a : Opd) (b c : Option Opd) : stepK C n is sk h R d (.sslice a b c) e = effVC h e (.sslice a b c) fun v h' => vc C n is sk (put e d v) h' R := rfl
@[simp ↓] theorem step_mkfn (g : FuncId) (xs : List Opd) : stepK C n is sk h R d (.mkfn g xs) e = effVC h e (.mkfn g xs) fun v h' => vc C n is sk (put e d v) h' R := rfl
@[simp ↓] theorem step_extract (a : Opd) (i : Nat) : stepK C n is sk h R d (.extract a i) e = effVC h e (.extract a i) fun v h' => vc C n is sk (put e d v) h' R := rfl
@[simp ↓] theorem step_len (a : Opd) : stepK C n is sk h R d (.len a) e = effVC h e (.len a) fun v h' => vc C n is sk (put e d v) h' R := rfl
@[simp ↓] theorem step_slen (a : Opd) : stepK C n is sk h R d (.slen a) e = effVC h e (.slen a) fun v h' => vc C n is sk (put e d v) h' R := rfl
@[simp ↓] theorem step_mx (m : Bool) (xs : List Opd) : stepK C n is sk h R d (.mx m xs) e = effVC h e (.mx m xs) fun v h' => vc C n is sk (put e d v) h' R := rfl
@[simp ↓] theorem step_build (z : List AV) (ps : List (Nat × Nat × Opd)) : stepK C n is sk h R d (.build z ps) e = effVC h e (.build z ps) fun v h' => vc C n is sk (put e d v) h' R := rfl
@[simp ↓] theorem step_box (sz : Nat) (a : Opd) : stepK C n is sk h R d (.box false sz a) e = effVC h e (.box false sz a) fun v h' => vc C n is sk (put e d v) h' R := rfl
@[simp ↓] theorem step_alloc (sz : Nat) (z : AV) : stepK C n is sk h R d (.alloc false sz z) e = effVC h e (.alloc false sz z) fun v h' => vc C n is sk (put e d v) h' R := rfl
@[simp ↓] theorem step_bsl (sz : Nat) (xs : List Opd) : stepK C n is sk h R d (.bsl false sz xs) e = effVC h e (.bsl false sz xs) fun v h' => vc C n is sk (put e d v) h' R := rfl
@[simp ↓] theorem step_store (m : Nat) (a b : Opd) : stepK C n is sk h R d (.store m a b) e = effVC h e (.store m a b) fun v h' => vc C n is sk (put e d v) h' R := rfl
@[simp ↓] theorem step_box1 (sz : Nat) (a : Opd) : stepK C n is sk h R d (.box true sz a) e = effVC h e (.box true sz a) fun v h' => Go C is sk (put e d v) h' R := rfl
@[simp ↓] theorem step_alloc1 (sz : Nat) (z : AV) : stepK C n is sk h R d (.alloc true sz z) e = effVC h e (.alloc true sz z) fun v h' => Go C is sk (put e d v) h' R := rfl
@[simp ↓] theorem step_bsl1 (sz : Nat) (xs : List Opd) : stepK C n is sk h R d (.bsl true sz xs) e = effVC h e (.bsl true sz xs) fun v h' => Go C is sk (put e d v) h' R := rfl
@[simp ↓] theorem step_mksl1 (sz bs : Nat) (z : AV) (a b : Opd) : stepK C n is sk h R d (.mksl sz bs z a b) e = effVC h e (.mksl sz bs z a b) fun v h' => Go C is sk (put e d v) h' R := rfl
@[simp ↓] theorem step_append1 (sz bs : Nat) (a b : Opd) : stepK C n is sk h R d (.append sz bs a b) e = effVC h e (.append sz bs a b) fun v h' => Go C is sk (put e d v) h' R := rfl
end
/-- Only where this holds. -/
def grdK (v : AV) (b : Bool) (A B D : Prop) : Prop := match v with
  | .bool t => guardK t b A B
  | .tup [] => D
  | _ => False
@[congr] theorem grdK_congr {v v' : AV} {b : Bool} {A B D : Prop} (e1 : v = v') : grdK v b A B D = grdK v' b A B D := by rw [e1]
@[simp, simp ↓] theorem grdK_b (t b : Bool) (A B D : Prop) : grdK (.bool t) b A B D = guardK t b A B := rfl
@[simp, simp ↓] theorem grdK_u (b : Bool) (A B D : Prop) : grdK (.tup []) b A B D = D := rfl
@[simp] theorem vc_op (op : SOp) : vc C (n + 1) (⟨d, none, op⟩ :: is) sk e h R = stepK C n is sk h R d op e := rfl
@[simp] theorem vc_gd (op : SOp) (s : Nat) (b : Bool) : vc C (n + 1) (⟨d, some (s, b), op⟩ :: is) sk e h R =
    grdK (eget e s) b (stepK C n is sk h R d op ((s, .bool b) :: e)) (vc C n is sk (put ((s, .bool !b) :: e) d (.tup [])) h R) (vc C n is sk (put e d (.tup [])) h R) := rfl
def retK (o : Option (List AV)) (h : Heap) (R : AV → Heap → Prop) : Prop := ∃ l, o = some l ∧ match l with
  | [x] => R x h
  | l => R (.tup l) h
@[congr] theorem retK_congr {o o' : Option (List AV)} {h : Heap} {R : AV → Heap → Prop} (e1 : o = o') : retK o h R = retK o' h R := by rw [e1]
@[simp, simp ↓] theorem retK_one (x : AV) : retK (some [x]) h R = R x h := by simp only [retK, Option.some.injEq, exists_eq_left']
@[simp, simp ↓] theorem retK_two (x y : AV) (l : List AV) : retK (some (x :: y :: l)) h R = R (.tup (x :: y :: l)) h := by simp only [retK, Option.some.injEq, exists_eq_left']
@[simp, simp ↓] theorem retK_none : retK (some []) h R = R (.tup []) h := by simp only [retK, Option.some.injEq, exists_eq_left']
@[simp, simp ↓] theorem ret_eq : retVC C e h R = retK (resAVs e h C.res) h R := rfl
def condK (v : AV) (A B : Prop) : Prop := match v with
  | .bool t => guardK t true A B
  | _ => False
@[congr] theorem condK_congr {v v' : AV} {A B : Prop} (e1 : v = v') : condK v A B = condK v' A B := by rw [e1]
@[simp, simp ↓] theorem condK_b (t : Bool) (A B : Prop) : condK (.bool t) A B = guardK t true A B := rfl
def exK (o : Option (List SItem)) (f : List SItem → Prop) : Prop := match o with
  | some s => f s
  | none => False
@[congr] theorem exK_congr {o o' : Option (List SItem)} {f : List SItem → Prop} (e1 : o = o') : exK o f = exK o' f := by rw [e1]
@[simp, simp ↓] theorem exK_s (s : List SItem) (f : List SItem → Prop) : exK (some s) f = f s := rfl
@[simp] theorem vc_end : vc C (n + 1) [] [] e h R = retVC C e h R := rfl
@[simp] theorem vc_inBlock (id : Nat) : vc C (n + 1) [] (.inBlock id :: sk) e h R = vc C n [] sk e h R := rfl
@[simp] theorem vc_inLoop (a : SCode) : vc C (n + 1) [] (.inLoop a :: sk) e h R = Run C (.code a :: .inLoop a :: sk) e h R := rfl
@[simp] theorem vc_skip : vc C (n + 1) [] (.code .skip :: sk) e h R = vc C n [] sk e h R := rfl
@[simp] theorem vc_seq (a b : SCode) : vc C (n + 1) [] (.code (.seq a b) :: sk) e h R = vc C n [] (.code a :: .code b :: sk) e h R := rfl
@[simp] theorem vc_cond (c : Opd) (a b : SCode) : vc C (n + 1) [] (.code (.cond c a b) :: sk) e h R = condK (ev e c) (vc C n [] (.code a :: sk) e h R) (vc C n [] (.code b :: sk) e h R) := rfl
@[simp] theorem vc_block (id : Nat) (a : SCode) : vc C (n + 1) [] (.code (.block id a) :: sk) e h R = vc C n [] (.code a :: .inBlock id :: sk) e h R := rfl
@[simp] theorem vc_loop (a : SCode) : vc C (n + 1) [] (.code (.loop a) :: sk) e h R = Run C (.code a :: .inLoop a :: sk) e h R := rfl
@[simp] theorem vc_exit (id : Nat) : vc C (n + 1) [] (.code (.exit id) :: sk) e h R = exK (sExit id sk) fun sk' => vc C n [] sk' e h R := rfl
@[simp] theorem vc_ret : vc C (n + 1) [] (.code .ret :: sk) e h R = retVC C e h R := rfl
@[simp] theorem vc_region (l : List SI) : vc C (n + 1) [] (.code (.region l) :: sk) e h R = vc C n l sk e h R := rfl
@[simp] theorem vc_draw (l j : List SI) : vc C (n + 1) [] (.code (.draw l j) :: sk) e h R = drawVC C l e h fun e => vc C n j sk e h R := rfl
@[congr] theorem vc_congr {C : Cx} {n : Nat} {is : List SI} {sk : List SItem} {e e' : Env} {h h' : Heap} {R : AV → Heap → Prop} (e1 : e = e') (e2 : h = h') : vc C n is sk e h R = vc C n is sk e' h' R := by rw [e1, e2]
end
section
variable (C : Cx) (is : List SI) (e : Env) (h : Heap) (k : Env → Prop) (d : Option Nat)
/-- A call in a region of no set order: it gives one value and changes nothing. -/
def dcallK (P : Program) (g : FuncId) (args : List AV) (h : Heap) (k : AV → Prop) : Prop := ∃ v, ACalls P g args h (fun v' h' => v' = v ∧ h' = h) ∧ k v
@[congr] theorem dcallK_congr {P : Program} {g : FuncId} {a a' : List AV} {h : Heap} {k : AV → Prop} (e1 : a = a') : dcallK P g a h k = dcallK P g a' h k := by rw [e1]
def dcallvK (P : Program) (v : AV) (args : List AV) (h : Heap) (k : AV → Prop) : Prop := match v with
  | .fn g caps => dcallK P g (args ++ caps) h k
  | _ => False
@[congr] theorem dcallvK_congr {P : Program} {v v' : AV} {a a' : List AV} {h : Heap} {k : AV → Prop} (e1 : v = v') (e2 : a = a') : dcallvK P v a h k = dcallvK P v' a' h k := by rw [e1, e2]
@[simp, simp ↓] theorem dcallvK_f (P : Program) (g : FuncId) (caps args : List AV) (k : AV → Prop) : dcallvK P (.fn g caps) args h k = dcallK P g (args ++ caps) h k := rfl
def dstepK (C : Cx) (is : List SI) (h : Heap) (k : Env → Prop) (d : Option Nat) (op : SOp) (e : Env) : Prop := match op with
  | .call g args => ∃ v, ACalls C.P g (args.map (ev e)) h (fun v' h' => v' = v ∧ h' = h) ∧ drawVC C is (put e d v) h k
  | .callv f args => match ev e f with
    | .fn g caps => ∃ v, ACalls C.P g (args.map (ev e) ++ caps) h (fun v' h' => v' = v ∧ h' = h) ∧ drawVC C is (put e d v) h k
    | _ => False
  | op => opVC h e op fun v => drawVC C is (put e d v) h k
@[simp ↓] theorem dstep_call (g : FuncId) (xs : List Opd) : dstepK C is h k d (.call g xs) e = dcallK C.P g (xs.map (ev e)) h fun v => drawVC C is (put e d v) h k := rfl
@[simp ↓] theorem dstep_callv (f : Opd) (xs : List Opd) : dstepK C is h k d (.callv f xs) e = dcallvK C.P (ev e f) (xs.map (ev e)) h fun v => drawVC C is (put e d v) h k := rfl
@[simp ↓] theorem dstep_mv (x : Opd) : dstepK C is h k d (.mv x) e = opVC h e (.mv x) fun v => drawVC C is (put e d v) h k := rfl
@[simp ↓] theorem dstep_pick (c a b : Opd) : dstepK C is h k d (.pick c a b) e = opVC h e (.pick c a b) fun v => drawVC C is (put e d v) h k := rfl
@[simp ↓] theorem dstep_bin (o : BinOp) (a b : Opd) : dstepK C is h k d (.bin o a b) e = opVC h e (.bin o a b) fun v => drawVC C is (put e d v) h k := rfl
@[simp ↓] theorem dstep_beq (m : Bool) (a b : Opd) : dstepK C is h k d (.beq m a b) e = opVC h e (.beq m a b) fun v => drawVC C is (put e d v) h k := rfl
@[simp ↓] theorem dstep_eqs (ks : List Nat) (m : Bool) (a b : Opd) : dstepK C is h k d (.eqs ks m a b) e = opVC h e (.eqs ks m a b) fun v => drawVC C is (put e d v) h k := rfl
@[simp ↓] theorem dstep_eqn (kd : Nat) (m : Bool) (a : Opd) : dstepK C is h k d (.eqn kd m a) e = opVC h e (.eqn kd m a) fun v => drawVC C is (put e d v) h k := rfl
@[simp ↓] theorem dstep_un (o : UnOp) (a : Opd) : dstepK C is h k d (.un o a) e = opVC h e (.un o a) fun v => drawVC C is (put e d v) h k := rfl
@[simp ↓] theorem dstep_conv (kd : IntKind) (a : Opd) : dstepK C is h k d (.conv kd a) e = opVC h e (.conv kd a) fun v => drawVC C is (put e d v) h k := rfl
@[simp ↓] theorem dstep_fieldA (o : Nat) (a : Opd) : dstepK C is h k d (.fieldA o a) e = opVC h e (.fieldA o a) fun v => drawVC C is (put e d v) h k := rfl
@[simp ↓] theorem dstep_field (o m : Nat) (ag : Bool) (a : Opd) : dstepK C is h k d (.field o m ag a) e = opVC h e (.field o m ag a) fun v => drawVC C is (put e d v) h k := rfl
@[simp ↓] theorem dstep_idxA (o : Nat) (a b : Opd) : dstepK C is h k d (.idxA o a b) e = opVC h e (.idxA o a b) fun v => drawVC C is (put e d v) h k := rfl
@[simp ↓] theorem dstep_idx (a b : Opd) : dstepK C is h k d (.idx a b) e = opVC h e (.idx a b) fun v => drawVC C is (put e d v) h k := rfl
@[simp ↓] theorem dstep_load (m : Nat) (ag : Bool) (a : Opd) : dstepK C is h k d (.load m ag a) e = opVC h e (.load m ag a) fun v => drawVC C is (put e d v) h k := rfl
@[simp ↓] theorem dstep_nilchk (a : Opd) : dstepK C is h k d (.nilchk a) e = opVC h e (.nilchk a) fun v => drawVC C is (put e d v) h k := rfl
@[simp ↓] theorem dstep_slice (m : Nat) (a : Opd) (b c f : Option Opd) : dstepK C is h k d (.slice m a b c f) e = opVC h e (.slice m a b c f) fun v => drawVC C is (put e d v) h k := rfl
@[simp ↓] theorem dstep_sslice (a : Opd) (b c : Option Opd) : dstepK C is h k d (.sslice a b c) e = opVC h e (.sslice a b c) fun v => drawVC C is (put e d v) h k := rfl
@[simp ↓] theorem dstep_mkfn (g : FuncId) (xs : List Opd) : dstepK C is h k d (.mkfn g xs) e = opVC h e (.mkfn g xs) fun v => drawVC C is (put e d v) h k := rfl
@[simp ↓] theorem dstep_extract (a : Opd) (i : Nat) : dstepK C is h k d (.extract a i) e = opVC h e (.extract a i) fun v => drawVC C is (put e d v) h k := rfl
@[simp ↓] theorem dstep_len (a : Opd) : dstepK C is h k d (.len a) e = opVC h e (.len a) fun v => drawVC C is (put e d v) h k := rfl
@[simp ↓] theorem dstep_slen (a : Opd) : dstepK C is h k d (.slen a) e = opVC h e (.slen a) fun v => drawVC C is (put e d v) h k := rfl
@[simp ↓] theorem dstep_mx (m : Bool) (xs : List Opd) : dstepK C is h k d (.mx m xs) e = opVC h e (.mx m xs) fun v => drawVC C is (put e d v) h k := rfl
@[simp ↓] theorem dstep_build (z : List AV) (ps : List (Nat × Nat × Opd)) : dstepK C is h k d (.build z ps) e = opVC h e (.build z ps) fun v => drawVC C is (put e d v) h k := rfl
@[simp ↓] theorem dstep_box (sz : Nat) (a : Opd) : dstepK C is h k d (.box false sz a) e = opVC h e (.box false sz a) fun v => drawVC C is (put e d v) h k := rfl
@[simp ↓] theorem dstep_alloc (sz : Nat) (z : AV) : dstepK C is h k d (.alloc false sz z) e = opVC h e (.alloc false sz z) fun v => drawVC C is (put e d v) h k := rfl
@[simp ↓] theorem dstep_bsl (sz : Nat) (xs : List Opd) : dstepK C is h k d (.bsl false sz xs) e = opVC h e (.bsl false sz xs) fun v => drawVC C is (put e d v) h k := rfl
@[simp] theorem draw_nil : drawVC C [] e h k = k e := rfl
@[simp] theorem draw_op (op : SOp) : drawVC C (⟨d, none, op⟩ :: is) e h k = dstepK C is h k d op e := rfl
@[simp] theorem draw_gd (op : SOp) (s : Nat) (b : Bool) : drawVC C (⟨d, some (s, b), op⟩ :: is) e h k =
    grdK (eget e s) b (dstepK C is h k d op e) (drawVC C is (put e d (.tup [])) h k) (drawVC C is (put e d (.tup [])) h k) := rfl
@[congr] theorem drawVC_congr {C : Cx} {is : List SI} {e e' : Env} {h h' : Heap} {k : Env → Prop} (e1 : e = e') (e2 : h = h') : drawVC C is e h k = drawVC C is e' h' k := by rw [e1, e2]
end
end Go.AG
