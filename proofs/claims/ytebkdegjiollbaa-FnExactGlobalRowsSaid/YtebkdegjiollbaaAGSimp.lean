/- Our own small layer: what 'simp' may unfold. No statement about the program is made here. -/
import Derived.Test.YtebkdegjiollbaaAGFrz
namespace Go.AG
open Go.RowKit
attribute [simp] fz fzs fzE fzH asN
universe u
theorem nr {α : Sort u} {a b : α} (h : a = b) : a = b := h
@[simp] theorem s_eget_nil (t : Nat) : eget [] t = .undef := nr rfl
@[simp] theorem s_eget_cons (k t : Nat) (v : AV) (r : Env) : eget ((k, v) :: r) t = if k = t then v else eget r t := nr rfl
@[simp] theorem s_ev_t (e : Env) (n : Nat) : ev e (.t n) = eget e n := nr rfl
@[simp] theorem s_ev_c (e : Env) (v : AV) : ev e (.c v) = v := nr rfl
@[simp] theorem s_put_s (e : Env) (d : Nat) (v : AV) : put e (some d) v = (d, v) :: e := nr rfl
@[simp] theorem s_put_n (e : Env) (v : AV) : put e none v = e := nr rfl
@[simp] theorem s_arg_nil (j : Nat) : argEnv j [] = [] := nr rfl
@[simp] theorem s_arg_cons (j : Nat) (v : AV) (vs : List AV) : argEnv j (v :: vs) = (j, v) :: argEnv (j + 1) vs := nr rfl
@[simp] theorem s_res_nil (e : Env) (h : Heap) : resAVs e h [] = some [] := nr rfl
@[simp] theorem s_res_t (e : Env) (h : Heap) (t : Nat) (rs : List RV) : resAVs e h (.tmp t :: rs) = (resAVs e h rs).map (eget e t :: ·) := by simp only [resAVs, resAV]; cases resAVs e h rs <;> rfl
@[simp] theorem s_res_c (e : Env) (h : Heap) (a n : Nat) (ag : Bool) (rs : List RV) : resAVs e h (.cell a n ag :: rs) = (cellsAt h (eget e a)).bind fun cs => (if ag then (if n ≤ cs.length then some (.agg (cs.take n)) else none) else cs.head?).bind fun x => (resAVs e h rs).map (x :: ·) := by
  simp only [resAVs, resAV]
  cases cellsAt h (eget e a) with
  | none => rfl
  | some cs =>
    simp only [Option.bind_some]
    cases (if ag then (if n ≤ cs.length then some (AV.agg (cs.take n)) else none) else cs.head?) with
    | none => rfl
    | some x => cases resAVs e h rs <;> rfl
@[simp] theorem s_st_int (k : IntKind) (n : Int) : storable (.int k n) = true := nr rfl
@[simp] theorem s_cl_int (k : IntKind) (n : Int) : cellsOf (.int k n) = [(.int k n)] := nr rfl
@[simp] theorem s_ic_int (k : IntKind) (n : Int) : isCell (.int k n) = true := nr rfl
@[simp] theorem s_st_bool (b : Bool) : storable (.bool b) = true := nr rfl
@[simp] theorem s_cl_bool (b : Bool) : cellsOf (.bool b) = [(.bool b)] := nr rfl
@[simp] theorem s_ic_bool (b : Bool) : isCell (.bool b) = true := nr rfl
@[simp] theorem s_st_str (s : List UInt8) : storable (.str s) = true := nr rfl
@[simp] theorem s_cl_str (s : List UInt8) : cellsOf (.str s) = [(.str s)] := nr rfl
@[simp] theorem s_ic_str (s : List UInt8) : isCell (.str s) = true := nr rfl
@[simp] theorem s_st_nilsl  : storable (.nilsl) = true := nr rfl
@[simp] theorem s_cl_nilsl  : cellsOf (.nilsl) = [(.nilsl)] := nr rfl
@[simp] theorem s_ic_nilsl  : isCell (.nilsl) = true := nr rfl
@[simp] theorem s_st_emp  : storable (.emp) = true := nr rfl
@[simp] theorem s_cl_emp  : cellsOf (.emp) = [(.emp)] := nr rfl
@[simp] theorem s_ic_emp  : isCell (.emp) = true := nr rfl
@[simp] theorem s_st_snap (z : Nat) (l : List AV) : storable (.snap z l) = true := nr rfl
@[simp] theorem s_cl_snap (z : Nat) (l : List AV) : cellsOf (.snap z l) = [(.snap z l)] := nr rfl
@[simp] theorem s_ic_snap (z : Nat) (l : List AV) : isCell (.snap z l) = true := nr rfl
@[simp] theorem s_st_sl (i z o n : Nat) (c : Option Nat) : storable (.sl i z o n c) = true := nr rfl
@[simp] theorem s_cl_sl (i z o n : Nat) (c : Option Nat) : cellsOf (.sl i z o n c) = [(.sl i z o n c)] := nr rfl
@[simp] theorem s_ic_sl (i z o n : Nat) (c : Option Nat) : isCell (.sl i z o n c) = true := nr rfl
@[simp] theorem s_st_ptr (i z j o : Nat) : storable (.ptr i z j o) = true := nr rfl
@[simp] theorem s_cl_ptr (i z j o : Nat) : cellsOf (.ptr i z j o) = [(.ptr i z j o)] := nr rfl
@[simp] theorem s_ic_ptr (i z j o : Nat) : isCell (.ptr i z j o) = true := nr rfl
@[simp] theorem s_st_ip (l : List AV) : storable (.ip l) = true := nr rfl
@[simp] theorem s_cl_ip (l : List AV) : cellsOf (.ip l) = [(.ip l)] := nr rfl
@[simp] theorem s_ic_ip (l : List AV) : isCell (.ip l) = true := nr rfl
@[simp] theorem s_st_fn (f : FuncId) (l : List AV) : storable (.fn f l) = true := nr rfl
@[simp] theorem s_cl_fn (f : FuncId) (l : List AV) : cellsOf (.fn f l) = [(.fn f l)] := nr rfl
@[simp] theorem s_ic_fn (f : FuncId) (l : List AV) : isCell (.fn f l) = true := nr rfl
@[simp] theorem s_st_nilp  : storable (.nilp) = true := nr rfl
@[simp] theorem s_cl_nilp  : cellsOf (.nilp) = [(.nilp)] := nr rfl
@[simp] theorem s_ic_nilp  : isCell (.nilp) = true := nr rfl
@[simp] theorem s_st_nilfn  : storable (.nilfn) = true := nr rfl
@[simp] theorem s_st_nili  : storable (.nili) = true := nr rfl
@[simp] theorem s_st_ifc  : storable (.ifc) = true := nr rfl
@[simp] theorem s_cl_nilfn  : cellsOf (.nilfn) = [(.nilfn)] := nr rfl
@[simp] theorem s_cl_nili  : cellsOf (.nili) = [(.nili)] := nr rfl
@[simp] theorem s_cl_ifc  : cellsOf (.ifc) = [(.ifc)] := nr rfl
@[simp] theorem s_ic_nilfn  : isCell (.nilfn) = true := nr rfl
@[simp] theorem s_ic_nili  : isCell (.nili) = true := nr rfl
@[simp] theorem s_ic_ifc  : isCell (.ifc) = true := nr rfl
@[simp] theorem s_st_agg (l : List AV) : storable (.agg l) = l.all isCell := nr rfl
@[simp] theorem s_cl_agg (l : List AV) : cellsOf (.agg l) = l := nr rfl
@[simp] theorem s_hget_nil (k : Nat) : hget [] k = none := nr rfl
@[simp] theorem s_hget_cons (i k : Nat) (b : Blk) (h : Heap) : hget ((i, b) :: h) k = if i = k then some b else hget h k := nr rfl
@[simp] theorem s_hset_nil (k : Nat) (c : Blk) : hset [] k c = [] := nr rfl
@[simp] theorem s_hset_cons (i k : Nat) (b c : Blk) (h : Heap) : hset ((i, b) :: h) k c = if i = k then (i, c) :: h else (i, b) :: hset h k c := nr rfl
@[simp] theorem s_at_ip (h : Heap) (l : List AV) : cellsAt h (.ip l) = some l := nr rfl
@[simp] theorem s_at_ptr (h : Heap) (id sz i o : Nat) : cellsAt h (.ptr id sz i o) = (hget h id).bind fun blk => if blk.sz = sz then (blk.l[i]?).map fun el => (cellsOf el).drop o else none := by simp only [cellsAt]; cases hget h id <;> rfl
@[simp] theorem s_splice (l : List AV) (o : Nat) (vs : List AV) : splice l o vs = l.take o ++ vs ++ l.drop (o + vs.length) := nr rfl
@[simp] theorem s_keep_nil (e : Env) : keep e [] = [] := nr rfl
@[simp] theorem s_keep_cons (e : Env) (t : Nat) (ts : List Nat) : keep e (t :: ts) = (t, eget e t) :: keep e ts := nr rfl
@[simp] theorem s_el_nil (h : Heap) (z : Nat) : elemsOf h z .nilsl = some [] := nr rfl
@[simp] theorem s_el_emp (h : Heap) (z : Nat) : elemsOf h z .emp = some [] := nr rfl
@[simp] theorem s_el_snap (h : Heap) (z s : Nat) (l : List AV) : elemsOf h z (.snap s l) = if s = z then some l else none := nr rfl
@[simp] theorem s_el_sl (h : Heap) (sz id s off len : Nat) (c : Option Nat) : elemsOf h sz (.sl id s off len c) = if len = 0 then some [] else (hget h id).bind fun blk => if s = sz ∧ blk.sz = sz ∧ off + len ≤ blk.l.length then some ((blk.l.drop off).take len) else none := by simp only [elemsOf]; cases hget h id <;> rfl
@[simp] theorem s_bnd_n (e : Env) : bnd e none = some none := nr rfl
def bndV : AV → Option (Option Int)
  | .int _ n => some (some n)
  | _ => none
@[simp] theorem s_bnd_s (e : Env) (o : Opd) : bnd e (some o) = bndV (ev e o) := nr rfl
@[simp] theorem s_bndV (k : IntKind) (n : Int) : bndV (.int k n) = some (some n) := nr rfl
@[simp] theorem s_sz_int (y : Nat) (k : IntKind) (n : Int) : szOk y (.int k n) = True := nr rfl
@[simp] theorem s_sz_bool (y : Nat) (b : Bool) : szOk y (.bool b) = True := nr rfl
@[simp] theorem s_sz_str (y : Nat) (s : List UInt8) : szOk y (.str s) = True := nr rfl
@[simp] theorem s_sz_nilsl (y : Nat)  : szOk y (.nilsl) = True := nr rfl
@[simp] theorem s_sz_emp (y : Nat)  : szOk y (.emp) = True := nr rfl
@[simp] theorem s_sz_snap (y : Nat) (z : Nat) (l : List AV) : szOk y (.snap z l) = (z = y) := nr rfl
@[simp] theorem s_sz_sl (y : Nat) (i z o n : Nat) (c : Option Nat) : szOk y (.sl i z o n c) = (z = y) := nr rfl
@[simp] theorem s_sz_ptr (y : Nat) (i z j o : Nat) : szOk y (.ptr i z j o) = True := nr rfl
@[simp] theorem s_sz_ip (y : Nat) (l : List AV) : szOk y (.ip l) = True := nr rfl
@[simp] theorem s_sz_fn (y : Nat) (f : FuncId) (l : List AV) : szOk y (.fn f l) = True := nr rfl
@[simp] theorem s_sz_nilp (y : Nat)  : szOk y (.nilp) = True := nr rfl
@[simp] theorem s_sz_nilfn (y : Nat)  : szOk y (.nilfn) = True := nr rfl
@[simp] theorem s_sz_nili (y : Nat)  : szOk y (.nili) = True := nr rfl
@[simp] theorem s_sz_ifc (y : Nat)  : szOk y (.ifc) = True := nr rfl
@[simp] theorem s_sliceC (lo hi mx : Option Int) (len cap : Nat) : sliceC lo hi mx len cap = (0 ≤ lo.getD 0 ∧ lo.getD 0 ≤ hi.getD len ∧ (mx ≠ none → hi ≠ none) ∧ hi.getD len ≤ mx.getD (hi.getD len) ∧ mx.getD (hi.getD len) ≤ cap) := nr rfl
@[simp] theorem s_eq0 (k : IntKind) (a b : Int) : eqAV 0 (.int k a) (.int k b) = some (decide (a = b)) := by simp only [eqAV, if_true]; rfl
@[simp] theorem s_eq1 (a b : Bool) : eqAV 1 (.bool a) (.bool b) = some (a == b) := nr rfl
@[simp] theorem s_eq2 (a b : List UInt8) : eqAV 2 (.str a) (.str b) = some (a == b) := nr rfl
@[simp] theorem s_eqs_nil  : eqAVs [] [] [] = some true := nr rfl
@[simp] theorem s_eqs_cons (c : Nat) (cs : List Nat) (x y : AV) (xs ys : List AV) : eqAVs (c :: cs) (x :: xs) (y :: ys) = (eqAV c x y).bind fun b => (eqAVs cs xs ys).map (b && ·) := by simp only [eqAVs]; cases eqAV c x y <;> cases eqAVs cs xs ys <;> rfl
@[simp] theorem s_nil0  : nilOf 0 .nilsl = some true := nr rfl
@[simp] theorem s_nil1 (s : Nat) (x : AV) (l : List AV) : nilOf 0 (.snap s (x :: l)) = some false := nr rfl
@[simp] theorem s_nil2  : nilOf 1 .nilp = some true := nr rfl
@[simp] theorem s_nil3 (i z j o : Nat) : nilOf 1 (.ptr i z j o) = some false := nr rfl
@[simp] theorem s_nil4 (l : List AV) : nilOf 1 (.ip l) = some false := nr rfl
@[simp] theorem s_nil5  : nilOf 2 .nilfn = some true := nr rfl
@[simp] theorem s_nilA  : nilOf 3 .nili = some true := nr rfl
@[simp] theorem s_nilB  : nilOf 3 .ifc = some false := nr rfl
@[simp] theorem s_nil6 (f : FuncId) (l : List AV) : nilOf 2 (.fn f l) = some false := nr rfl
@[simp] theorem s_mm0 (m : Bool) (k : IntKind) (a : Int) : mmAV m (.int k a) [] = some (.int k a) := nr rfl
@[simp] theorem s_mm1 (k k' : IntKind) (a b : Int) (r : List AV) : mmAV true (.int k a) (.int k' b :: r) = mmAV true (.int k (max a b)) r := nr rfl
@[simp] theorem s_mm2 (k k' : IntKind) (a b : Int) (r : List AV) : mmAV false (.int k a) (.int k' b :: r) = mmAV false (.int k (min a b)) r := nr rfl
@[simp] theorem s_fill_nil (e : Env) (z : List AV) : fillAV e z [] = some z := nr rfl
@[simp] theorem s_fill_cons (e : Env) (z : List AV) (o n : Nat) (x : Opd) (r : List (Nat × Nat × Opd)) : fillAV e z ((o, n, x) :: r) = if storable (ev e x) = true ∧ (cellsOf (ev e x)).length = n ∧ o + n ≤ z.length then fillAV e (splice z o (cellsOf (ev e x))) r else none := nr rfl
@[simp] theorem dom_nil : dom [] = [] := rfl
@[simp high, simp ↓ high] theorem guardK_tt (A B : Prop) : guardK true true A B = A := by simp [guardK]
@[simp high, simp ↓ high] theorem guardK_tf (A B : Prop) : guardK true false A B = B := by simp [guardK]
@[simp high, simp ↓ high] theorem guardK_ft (A B : Prop) : guardK false true A B = B := by simp [guardK]
@[simp high, simp ↓ high] theorem guardK_ff (A B : Prop) : guardK false false A B = A := by simp [guardK]
@[simp low, simp ↓ low] theorem guardK_t (t : Bool) (A B : Prop) : guardK t true A B = ((t = true → A) ∧ (t = false → B)) := rfl
@[simp low, simp ↓ low] theorem guardK_f (t : Bool) (A B : Prop) : guardK t false A B = ((t = false → A) ∧ (t = true → B)) := rfl
attribute [simp] dom_cons
@[simp] theorem hdel_cons (i k : Nat) (b : Blk) (h : Heap) : hdel ((i, b) :: h) k = if i = k then h else (i, b) :: hdel h k := rfl
theorem w64 {n : Int} (h : -9223372036854775808 ≤ n ∧ n < 9223372036854775808) : IntKind.i64.wrap n = n := by apply IntWalk.i64_in <;> omega
def noOrc : Orc := fun _ _ _ => none
@[simp] theorem noOrc_eq (b : Bool) (g : FuncId) (l : List AV) : noOrc b g l = none := rfl
theorem noPure {P : Program} : Pure P noOrc := fun _ _ _ _ _ h => by simp at h
theorem set_fill {α : Type} (A : List α) (z : α) {i n : Nat} (hn : n = A.length) (hi : i < A.length) {x : α} (hx : x = A[i]) : (A.take i ++ List.replicate (n - i) z).set i x = A.take (i + 1) ++ List.replicate (n - (i + 1)) z := by
  subst hn hx
  apply List.ext_getElem?
  intro j
  rw [List.getElem?_set]
  simp only [List.length_append, List.length_take, List.length_replicate, List.getElem?_append, List.getElem?_take, List.getElem?_replicate]
  grind
end Go.AG
