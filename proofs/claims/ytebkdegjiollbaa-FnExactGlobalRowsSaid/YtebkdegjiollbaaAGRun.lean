/- The run of a function in our own small layer: contracts ('ACalls'), what is left of a body ('Go'), and the conditions that a piece of code leads to ('vc'). No statement about the program is made here. -/
import Derived.Test.YtebkdegjiollbaaAGEff3
namespace Go.AG
open Go.RowKit

structure SI where
  dst : Option Nat
  guard : Option (Nat × Bool)
  op : SOp
  deriving Inhabited
inductive SCode where
  | skip
  | region (is : List SI)
  | draw (is js : List SI)
  | drawT (st : Nat) (is : List SI)
  | drawE (is : List SI) (ords : List (List Nat))
  | seq (a b : SCode)
  | cond (c : Opd) (a b : SCode)
  | block (id : Nat) (a : SCode)
  | loop (a : SCode)
  | exit (id : Nat)
  | ret
  | bad
  deriving Inhabited
inductive SItem where
  | code (c : SCode)
  | inBlock (id : Nat)
  | inLoop (c : SCode)
  deriving Inhabited

/-- Where a result stands: in a slot, or in memory, as n cells. -/
inductive RV where
  | tmp (t : Nat)
  | cell (a n : Nat) (ag : Bool)
  deriving Inhabited
def cRes (P : Program) : List ResultVar → Option (List RV)
  | [] => some []
  | .tmp t :: r => (cRes P r).map (.tmp t :: ·)
  | .cell a t :: r => if knownT P t && (aggT P t || P.cellsOf t == 1) then (cRes P r).map (.cell a (P.cellsOf t) (aggT P t) :: ·) else none
/-- What is known of functions without effect: on a condition, what they give (first: of calls that must be known). -/
abbrev Orc := Bool → FuncId → List AV → Option (Prop × AV)
/-- What is fixed while a body runs: the program, the slots whose memory may be written, the function; 'orc': what functions without effect are known to give. -/
structure Cx where
  P : Program
  M : List Nat
  fn : FuncId
  nt : Nat
  res : List RV
  orc : Orc := fun _ _ _ => none

def put (e : Env) (d : Option Nat) (v : AV) : Env := match d with
  | some d => (d, v) :: e
  | none => e

def dstOk (nt : Nat) : Option Nat → Bool
  | some d => decide (d < nt)
  | none => true
section
variable (P : Program) (M : List Nat) (nt : Nat)
def cInstr (ops : Array Oper) (o : Oper) : Option SI :=
  if dstOk nt o.dst then
    match cOp P M o with
    | some op => match o.guard with
      | none => some ⟨o.dst, none, op⟩
      | some (j, b) => match (ops[j]?).bind (·.dst) with
        | some s => if s < nt then some ⟨o.dst, some (s, b), op⟩ else none
        | none => none
    | none => none
  else none
def cInstrs (ops : Array Oper) : List Oper → Option (List SI)
  | [] => some []
  | o :: r => match cInstr P M nt ops o, cInstrs ops r with
    | some i, some is => some (i :: is)
    | _, _ => none
end

/-! ## Orders that Go leaves open: when the text's own order tells all -/
def Opd.uses : Opd → List Nat
  | .t n => [n]
  | .c _ => []
def optUses : Option Opd → List Nat
  | some x => x.uses
  | none => []
def SOp.uses : SOp → List Nat
  | .mv x | .eqn _ _ x | .un _ x | .conv _ x | .fieldA _ x | .field _ _ _ x | .load _ _ x | .nilchk x | .extract x _ | .len x | .slen x | .bstr x | .capk x | .box _ _ x | .clear _ _ x => x.uses
  | .pick c a b => c.uses ++ a.uses ++ b.uses
  | .bin _ x y | .beq _ x y | .eqs _ _ x y | .idxA _ x y | .idx x y | .mksl _ _ _ x y | .store _ x y | .append _ _ x y | .appendz _ _ _ x y => x.uses ++ y.uses
  | .slice _ x lo hi m => x.uses ++ optUses lo ++ optUses hi ++ optUses m
  | .sslice x lo hi => x.uses ++ optUses lo ++ optUses hi
  | .mkfn _ xs | .mx _ xs | .bsl _ _ xs | .call _ xs => xs.flatMap Opd.uses
  | .callv f xs => f.uses ++ xs.flatMap Opd.uses
  | .build _ ps => ps.flatMap fun p => p.2.2.uses
  | .alloc .. => []
def SI.uses (i : SI) : List Nat := i.op.uses ++ (match i.guard with | some (s, _) => [s] | none => [])
/-- Every operation that writes a slot and every one that reads or writes it stand in the order of the text. -/
def orderOk (b : Array Nat) (is : List SI) : Bool :=
  is.zipIdx.all fun (o, j) => is.zipIdx.all fun (p, i) =>
    !(decide (i < j)) || (b.getD j 0).testBit i ||
      ((match p.dst with | some d => !(o.uses.contains d) && !(decide (o.dst = some d)) | none => true) && (match o.dst with | some d => !(p.uses.contains d) | none => true))
/-- Edges lead back alone. -/
def edgesOk (ops : Array Oper) : Bool := ops.toList.zipIdx.all fun (o, j) => o.after.toList.all fun e => !Region.binds .any e || decide (e.on < j)

/-- Operations that make or change memory that may be written. -/
def effK : SOp → Bool
  | .store .. | .append .. | .appendz .. | .clear .. | .mksl .. => true
  | .box m _ _ | .alloc m _ _ | .bsl m _ _ => m
  | _ => false
/-- Operations that make memory that may be written. -/
def newK : SOp → Bool
  | .append .. | .appendz .. | .mksl .. => true
  | .box m _ _ | .alloc m _ _ | .bsl m _ _ => m
  | _ => false
def pivot : List SI → Nat
  | [] => 0
  | i :: is => if effK i.op then 0 else pivot is + 1
/-- From p on, every operation stands behind all that the text has before it. -/
def tailOk (b : Array Nat) (p n : Nat) : Bool := (List.range n).all fun j => decide (j < p) || (List.range j).all fun i => (b.getD j 0).testBit i
def drawOk (P : Program) (ops : Array Oper) (is : List SI) : Bool :=
  orderOk (Region.before ops) (is.take (pivot is)) && edgesOk ops && tailOk (Region.before ops) (pivot is) ops.size && P.follows .mixedOrders

def isPure : SOp → Bool
  | .store .. | .append .. | .appendz .. | .clear .. | .mksl .. | .load .. | .eqn .. | .call .. | .callv .. => false
  | .box m _ _ | .alloc m _ _ | .bsl m _ _ => !m
  | _ => true
def isLoad : SOp → Bool
  | .load .. => true
  | _ => false
def isAlloc : SOp → Bool
  | .box m _ _ | .alloc m _ _ | .bsl m _ _ => m
  | .mksl .. => true
  | _ => false
def callK0 : SOp → Bool
  | .call .. | .callv .. => true
  | _ => false
/-- Are calls known? -/
def cK (st : Nat) : Bool := decide (1 ≤ st) && decide (st ≤ 2)
/-- Its value is that of the slots that it reads, whatever the memory is (st = 1: calls are known; st = 2: and nobody writes what is loaded; st = 3: only the latter). -/
def detK (st : Nat) (i : SI) : Bool := isPure i.op || (cK st && callK0 i.op) || (decide (2 ≤ st) && isLoad i.op)
/-- It reads memory or makes some, and that is all. -/
def mildK (st : Nat) (i : SI) : Bool := detK st i || isLoad i.op || (isAlloc i.op && i.guard.isNone)
/-- Nothing is lost if the later one comes first. -/
def swapK (st : Nat) (md : Bool) (p o : SI) : Bool :=
  (match p.dst with | some d => !(o.uses.contains d) && !(decide (o.dst = some d)) | none => true) && (match o.dst with | some d => !(p.uses.contains d) | none => true) &&
    (detK st p || detK st o || (isLoad p.op && isLoad o.op) || (isAlloc p.op && isLoad o.op && p.guard.isNone) || (isLoad p.op && isAlloc o.op && o.guard.isNone) || (md && isAlloc p.op && isAlloc o.op && p.guard.isNone && o.guard.isNone))
def swapsOk (b : Array Nat) (st : Nat) (is : List SI) : Bool :=
  is.zipIdx.all fun (o, j) => is.zipIdx.all fun (p, i) => !(decide (i < j)) || (b.getD j 0).testBit i || swapK st (is.all (mildK st)) p o
/-- Any order that the edges leave open gives the same. -/
def anyOk (P : Program) (ops : Array Oper) (st : Nat) (is : List SI) : Bool := swapsOk (Region.before ops) st is && edgesOk ops && P.follows .mixedOrders

/-- One call takes the value of the one ahead of it: f(g(x)). -/
def isBsl : SOp → Bool
  | .bsl .. => true
  | _ => false
/-- A list of lists is made and given to a call. -/
def litK (is : List SI) : Bool := is.any fun p => isBsl p.op && is.any fun q => isBsl q.op && (match p.dst with | some d => q.uses.contains d | none => false) && is.any fun c => callK0 c.op && (match q.dst with | some d => c.uses.contains d | none => false)
def nestK (is : List SI) : Bool := litK is || (is.zip (is.drop 1)).any fun p => callK0 p.1.op && callK0 p.2.op && (match p.1.dst with | some d => p.2.uses.contains d | none => false)
def isBuild : SOp → Bool
  | .build .. => true
  | _ => false
/-- What two calls give is put together: T{f(x), g(x)}. -/
def nest3K (is : List SI) : Bool := ((is.zip (is.drop 1)).zip (is.drop 2)).any fun p => nestK [p.1.1, p.1.2] && nestK [p.1.2, p.2]
def pairK (is : List SI) : Bool := nest3K is || is.any fun i => isBuild i.op && decide (2 ≤ (is.filter fun j => callK0 j.op && (match j.dst with | some d => i.uses.contains d | none => false)).length)
/-! Orders that may differ: where one operation can change places with all the others, it is first; else each that may be first. -/
def expl (ex : Nat → List Nat → Bool) (en : List Nat → Nat → Bool) : Nat → List Nat → List (List Nat)
  | _, [] => [[]]
  | 0, _ :: _ => []
  | n + 1, i :: rest => if ex i rest then (expl ex en n rest).map (i :: ·) else ((i :: rest).filter (en (i :: rest))).flatMap fun q => (expl ex en n ((i :: rest).erase q)).map (q :: ·)
def bfb (b : Array Nat) (i j : Nat) : Bool := (b.getD j 0).testBit i
def exE (b : Array Nat) (md : Bool) (s : Nat → SI) (i : Nat) (l : List Nat) : Bool := l.all fun j => bfb b i j || swapK 0 md (s i) (s j)
def enE (b : Array Nat) (l : List Nat) (q : Nat) : Bool := l.all fun p => !bfb b p q
def sAt (is : List SI) (j : Nat) : SI := is.getD j ⟨none, none, .mv (.c .undef)⟩
/-- The operations in an order that the edges allow, those without effect as early as may be. -/
def ordGo (b : Array Nat) (s : Nat → SI) : Nat → List Nat → List Nat
  | 0, _ => []
  | n + 1, rem => match rem.find? fun q => enE b rem q && isPure (s q).op with
    | some q => q :: ordGo b s n (rem.erase q)
    | none => match rem.find? fun q => enE b rem q with
      | some q => q :: ordGo b s n (rem.erase q)
      | none => []
def ordOf (ops : Array Oper) (is : List SI) : List Nat := ordGo (Region.before ops) (sAt is) is.length (List.range is.length)
def nodupB : List Nat → Bool
  | [] => true
  | a :: l => !l.contains a && nodupB l
def ordOk (n : Nat) (l : List Nat) : Bool := nodupB l && l.length == n && l.all (fun j => decide (j < n)) && (List.range n).all fun j => l.contains j
def explOf (ops : Array Oper) (is : List SI) : List (List Nat) := expl (exE (Region.before ops) (is.all (mildK 0)) (sAt is)) (enE (Region.before ops)) is.length (ordOf ops is)
def expOk (P : Program) (ops : Array Oper) (is : List SI) : Bool := edgesOk ops && P.follows .mixedOrders && ordOk is.length (ordOf ops is)
section
variable (P : Program) (M : List Nat) (nt : Nat)
def cCode : Code → SCode
  | .skip => .skip
  | .region _ ops dr => match cInstrs P M nt ops ops.toList with
    | some is => if dr then (if drawOk P ops is && !(nestK is && anyOk P ops 0 is) && !(pairK is && anyOk P ops 3 is) then .draw (is.take (pivot is)) (is.drop (pivot is)) else if pairK is && anyOk P ops 3 is then .drawT 3 is else if anyOk P ops 0 is then .drawT 0 is else if nestK is && anyOk P ops 3 is then .drawT 3 is else if M.contains 99999 && expOk P ops is then .drawE is (explOf ops is) else if anyOk P ops 1 is then .drawT 1 is else if anyOk P ops 2 is then .drawT 2 is else if anyOk P ops 3 is then .drawT 3 is else if expOk P ops is then .drawE is (explOf ops is) else .bad) else .region is
    | none => .bad
  | .seq a b => .seq (cCode a) (cCode b)
  | .cond c a b => match cOpd c with
    | some x => .cond x (cCode a) (cCode b)
    | none => .bad
  | .block id a => .block id (cCode a)
  | .loop a => .loop (cCode a)
  | .exit id => .exit id
  | .ret => .ret
  | _ => .bad
def cItem : Item → Option SItem
  | .code c => some (.code (cCode P M nt c))
  | .inBlock id => some (.inBlock id)
  | .inLoop c => some (.inLoop (cCode P M nt c))
  | _ => none
def cItems : List Item → Option (List SItem)
  | [] => some []
  | i :: r => match cItem P M nt i, cItems r with
    | some x, some xs => some (x :: xs)
    | _, _ => none
end
def sExit (id : Nat) : List SItem → Option (List SItem)
  | .inBlock id' :: k => if id' = id then some k else sExit id k
  | _ :: k => sExit id k
  | [] => none

/-! ## Contracts -/
def CallOk (P : Program) (g : FuncId) : Prop := ∃ fn, P.funcs[g]? = some fn ∧ (fn.name == "runtime.NumGoroutine") = false ∧ fn.body.isNone = false
/-- Called with these values, where the blocks h may be written: the function returns, and R holds of what it gives and of the blocks that may be written then. -/
def ACalls (P : Program) (g : FuncId) (args : List AV) (h : Heap) (R : AV → Heap → Prop) : Prop :=
  CallOk P g ∧ ∀ w vs, HRel w h → Reps w (dom h) args vs → Calls P g ⟨vs⟩ w fun e w' => ∃ cv v h', e = .returned cv ∧ Rep w' (dom h') v cv ∧ HRel w' h' ∧ Evolve w (dom h) w' (dom h') ∧ R v h'
theorem ACalls.mono {P : Program} {g : FuncId} {args : List AV} {h : Heap} {R R' : AV → Heap → Prop} (H : ACalls P g args h R) (hr : ∀ v h', R v h' → R' v h') : ACalls P g args h R' :=
  ⟨H.1, fun w vs hw hv => (H.2 w vs hw hv).mono fun _ _ ⟨cv, v, h', e1, e2, e3, e4, e5⟩ => ⟨cv, v, h', e1, e2, e3, e4, hr _ _ e5⟩⟩

def bF (fn : FuncId) : Frame := { (default : Frame) with fn := fn, kind := .normal }
/-- The call comes to its end. -/
def Fin (C : Cx) (w0 : World) (D0 : List Nat) (R : AV → Heap → Prop) (cs : List Frame) (m : Machine) : Prop :=
  ∃ cv w' fr v h', Steps C.P m (lone fr cs w') ∧ fr.fn = C.fn ∧ fr.leaving C.P w' (.returned cv) ∧ Rep w' (dom h') v cv ∧ HRel w' h' ∧ Evolve w0 D0 w' (dom h') ∧ R v h'
theorem Fin.head {C : Cx} {w0 : World} {D0 : List Nat} {R : AV → Heap → Prop} {cs : List Frame} {m m' : Machine} (h : step C.P m = .next m') (k : Fin C w0 D0 R cs m') : Fin C w0 D0 R cs m := by
  obtain ⟨cv, w', fr, v, h', h1, h2⟩ := k
  exact ⟨cv, w', fr, v, h', .head h h1, h2⟩
theorem Fin.steps {C : Cx} {w0 : World} {D0 : List Nat} {R : AV → Heap → Prop} {cs : List Frame} {m m' : Machine} (h : Steps C.P m m') (k : Fin C w0 D0 R cs m') : Fin C w0 D0 R cs m := by
  obtain ⟨cv, w', fr, v, h', h1, h2⟩ := k
  exact ⟨cv, w', fr, v, h', h.trans h1, h2⟩

/-- The frame's slots, the world and the blocks, as the abstract state tells them. -/
structure SRel (C : Cx) (e : Env) (h : Heap) (w0 : World) (D0 : List Nat) (tmps : Array Value) (w : World) : Prop where
  env : EnvRel w (dom h) e tmps
  size : tmps.size = C.nt
  heap : HRel w h
  ev : Evolve w0 D0 w (dom h)
def AllOps (C : Cx) (ops : Array Oper) : List SI → List Nat → Prop
  | [], l => l = []
  | i :: is, l => ∃ j r o, l = j :: r ∧ ops[j]? = some o ∧ cInstr C.P C.M C.nt ops o = some i ∧ AllOps C ops is r
/-- What is left of a body comes to the function's end, and R holds there. -/
def Run (C : Cx) (sk : List SItem) (e : Env) (h : Heap) (R : AV → Heap → Prop) : Prop :=
  ∀ k tmps w cs w0 D0, cItems C.P C.M C.nt k = some sk → SRel C e h w0 D0 tmps w → Fin C w0 D0 R cs (lone ((bF C.fn).at ⟨tmps, []⟩ k) cs w)
def RunOps (C : Cx) (is : List SI) (sk : List SItem) (e : Env) (h : Heap) (R : AV → Heap → Prop) : Prop :=
  ∀ ops l k tmps w cs w0 D0, AllOps C ops is l → cItems C.P C.M C.nt k = some sk → SRel C e h w0 D0 tmps w → Fin C w0 D0 R cs (lone ((bF C.fn).at ⟨tmps, []⟩ (.inRegion ops l :: k)) cs w)
def Go (C : Cx) : List SI → List SItem → Env → Heap → (AV → Heap → Prop) → Prop
  | [], sk, e, h, R => Run C sk e h R
  | i :: is, sk, e, h, R => RunOps C (i :: is) sk e h R

/-! ## The conditions -/
def resAV (e : Env) (h : Heap) : RV → Option AV
  | .tmp t => some (eget e t)
  | .cell a n ag => match cellsAt h (eget e a) with
    | some cs => if ag then (if n ≤ cs.length then some (.agg (cs.take n)) else none) else cs.head?
    | none => none
def resAVs (e : Env) (h : Heap) : List RV → Option (List AV)
  | [] => some []
  | r :: rs => match resAV e h r, resAVs e h rs with
    | some x, some xs => some (x :: xs)
    | _, _ => none
def retVC (C : Cx) (e : Env) (h : Heap) (R : AV → Heap → Prop) : Prop := ∃ l, resAVs e h C.res = some l ∧ match l with
  | [x] => R x h
  | l => R (.tup l) h

def Pure (P : Program) (orc : Orc) : Prop := ∀ b g args p v, orc b g args = some (p, v) → p → ∀ h, ACalls P g args h (fun v' h' => v' = v ∧ h' = h)
end Go.AG
