/- Our own small layer, second form: how 'simp' runs through the conditions. No statement about the program is made here. -/
import Derived.Test.YtebkdegjiollbaaAGX2
namespace Go.AG
open Go.RowKit
@[simp] theorem dom_app (h g : Heap) : dom (h ++ g) = dom h ++ dom g := by simp [dom]
/-! ## Where the run stands -/
section
variable (C : Cx) (n : Nat) (d : Option Nat) (ks : Option (List Nat)) (is js : List AJ) (ds : List AI) (sk : List AItem) (R : AV → Heap → Prop) (e : Env) (h : Heap)
/-- To go on behind a call, or with new memory: 'simp' stops here. -/
def gK : AV → Heap → Prop := fun v h' => vc2 C n is sk (kp (put e d v) ks) h' R
def resK (r : Res) : Prop := r.den C.P h fun v h' => vc2 C n is sk (kp (put e d v) ks) h' R
def vK : Env → Prop := fun e => vc2 C n js sk e h R
variable (k : Env → Prop)
def dK : AV → Prop := fun v => draw2 C h k ds (kp (put e d v) ks)
def dresK (r : Res) : Prop := r.dend C.P h fun v => draw2 C h k ds (kp (put e d v) ks)
end
theorem gK.go {C n d ks is sk R e v h} (hk : vc2 C n is sk (kp (put e d v) ks) h R) : gK C n d ks is sk R e v h := hk
theorem dK.go {C d ks ds e h k v} (hk : draw2 C h k ds (kp (put e d v) ks)) : dK C d ks ds e h k v := hk
section
variable {C : Cx} {n : Nat} {d : Option Nat} {ks : Option (List Nat)} {is js : List AJ} {ds : List AI} {sk : List AItem} {R : AV → Heap → Prop} {e e' : Env} {h h' : Heap} {k : Env → Prop} {r r' : Res}
@[congr] theorem resK_congr (e1 : r = r') : resK C n d ks is sk R e h r = resK C n d ks is sk R e h r' := by rw [e1]
@[congr] theorem dresK_congr (e1 : r = r') : dresK C d ks ds e h k r = dresK C d ks ds e h k r' := by rw [e1]
@[congr] theorem vc2_congr (e1 : e = e') (e2 : h = h') : vc2 C n is sk e h R = vc2 C n is sk e' h' R := by rw [e1, e2]
@[congr] theorem draw2_congr (e1 : e = e') : draw2 C h k ds e = draw2 C h k ds e' := by rw [e1]
theorem resK.opt {α : Type} {o : Option α} {f : α → Res} {y : α} (hy : o = some y) (hk : resK C n d ks is sk R e h (f y)) : resK C n d ks is sk R e h (.opt o f) := ⟨y, hy, hk⟩
theorem dresK.opt {α : Type} {o : Option α} {f : α → Res} {y : α} (hy : o = some y) (hk : dresK C d ks ds e h k (f y)) : dresK C d ks ds e h k (.opt o f) := ⟨y, hy, hk⟩
def bothK (P Q : Prop) : Prop := P ∧ Q

@[simp, simp ↓] theorem resK_val (v : AV) : resK C n d ks is sk R e h (.val v) = vc2 C n is sk (kp (put e d v) ks) h R := nr rfl
@[simp, simp ↓] theorem resK_vh (v : AV) (h' : Heap) : resK C n d ks is sk R e h (.vh v h') = vc2 C n is sk (kp (put e d v) ks) h' R := nr rfl
@[simp, simp ↓] theorem resK_need (p : Prop) (r : Res) : resK C n d ks is sk R e h (.need p r) = (p ∧ resK C n d ks is sk R e h r) := nr rfl
@[simp, simp ↓] theorem resK_opt_s {α : Type} (y : α) (f : α → Res) : resK C n d ks is sk R e h (.opt (some y) f) = resK C n d ks is sk R e h (f y) := by simp only [resK, Res.den, Option.some.injEq, exists_eq_left']
@[simp, simp ↓] theorem resK_opt_n {α : Type} (f : α → Res) : resK C n d ks is sk R e h (.opt none f) = False := by simp only [resK, Res.den, reduceCtorEq, false_and, exists_false]
@[simp, simp ↓] theorem resK_two (r s : Res) : resK C n d ks is sk R e h (.two r s) = (resK C n d ks is sk R e h r ∧ resK C n d ks is sk R e h s) := nr rfl
@[simp, simp ↓] theorem resK_ite (t : Bool) (r s : Res) : resK C n d ks is sk R e h (.ite t r s) = guardK t true (resK C n d ks is sk R e h r) (resK C n d ks is sk R e h s) := nr rfl
@[simp, simp ↓] theorem resK_fresh (a : Nat) (l : List Nat) (f : Nat → AV × Heap) : resK C n d ks is sk R e h (.fresh (a :: l) f) = ∀ id, id ∉ a :: l → gK C n d ks is sk R e (f id).1 (f id).2 := nr rfl
@[simp] theorem resK_freshA (l l' : List Nat) (f : Nat → AV × Heap) : resK C n d ks is sk R e h (.fresh (l ++ l') f) = ∀ id, id ∉ l ++ l' → gK C n d ks is sk R e (f id).1 (f id).2 := nr rfl
@[simp] theorem resK_fresh0 (g : Heap) (f : Nat → AV × Heap) : resK C n d ks is sk R e h (.fresh (dom g) f) = ∀ id, id ∉ dom g → vc2 C n is sk (kp (put e d (f id).1) ks) (f id).2 R := nr rfl
@[simp] theorem resK_fresh1 (f : Nat → AV × Heap) : resK C n d ks is sk R e h (.fresh [] f) = ∀ id, vc2 C n is sk (kp (put e d (f id).1) ks) (f id).2 R := by simp only [resK, Res.den, List.not_mem_nil, not_false_eq_true, forall_const]
@[simp, simp ↓] theorem resK_call (g : FuncId) (l : List AV) : resK C n d ks is sk R e h (.call g l) = ACalls C.P g l h (gK C n d ks is sk R e) := nr rfl
@[simp, simp ↓] theorem resK_no : resK C n d ks is sk R e h .no = False := nr rfl
@[simp, simp ↓] theorem dresK_val (v : AV) : dresK C d ks ds e h k (.val v) = draw2 C h k ds (kp (put e d v) ks) := nr rfl
@[simp, simp ↓] theorem dresK_vh (v : AV) (h' : Heap) : dresK C d ks ds e h k (.vh v h') = False := nr rfl
@[simp, simp ↓] theorem dresK_need (p : Prop) (r : Res) : dresK C d ks ds e h k (.need p r) = (p ∧ dresK C d ks ds e h k r) := nr rfl
@[simp, simp ↓] theorem dresK_opt_s {α : Type} (y : α) (f : α → Res) : dresK C d ks ds e h k (.opt (some y) f) = dresK C d ks ds e h k (f y) := by simp only [dresK, Res.dend, Option.some.injEq, exists_eq_left']
@[simp, simp ↓] theorem dresK_opt_n {α : Type} (f : α → Res) : dresK C d ks ds e h k (.opt none f) = False := by simp only [dresK, Res.dend, reduceCtorEq, false_and, exists_false]
@[simp, simp ↓] theorem dresK_two (r s : Res) : dresK C d ks ds e h k (.two r s) = False := nr rfl
@[simp, simp ↓] theorem dresK_ite (t : Bool) (r s : Res) : dresK C d ks ds e h k (.ite t r s) = guardK t true (dresK C d ks ds e h k r) (dresK C d ks ds e h k s) := nr rfl
@[simp, simp ↓] theorem dresK_fresh (l : List Nat) (f : Nat → AV × Heap) : dresK C d ks ds e h k (.fresh l f) = False := nr rfl
@[simp, simp ↓] theorem dresK_call (g : FuncId) (l : List AV) : dresK C d ks ds e h k (.call g l) = ∃ v, ACalls C.P g l h (fun v' h' => v' = v ∧ h' = h) ∧ dK C d ks ds e h k v := nr rfl
@[simp, simp ↓] theorem dresK_no : dresK C d ks ds e h k .no = False := nr rfl
theorem dcallK {P : Program} {g : FuncId} {l : List AV} {v : AV} (hc : ACalls P g l h (fun v' h' => v' = v ∧ h' = h)) (hk : draw2 C h k ds (kp (put e d v) ks)) : ∃ v, ACalls P g l h (fun v' h' => v' = v ∧ h' = h) ∧ dK C d ks ds e h k v := ⟨v, hc, hk⟩
def grd2 (v : AV) (b : Bool) (A B D : Prop) : Prop := match v with
  | .bool t => guardK t b A B
  | .tup [] => D
  | _ => False
@[congr] theorem grd2_congr {v v' : AV} {b : Bool} {A B D : Prop} (e1 : v = v') : grd2 v b A B D = grd2 v' b A B D := by rw [e1]
@[simp, simp ↓] theorem grd2_b (t b : Bool) (A B D : Prop) : grd2 (.bool t) b A B D = guardK t b A B := nr rfl
@[simp, simp ↓] theorem grd2_u (b : Bool) (A B D : Prop) : grd2 (.tup []) b A B D = D := nr rfl
@[congr] theorem guardK_congr {t t' b : Bool} {A B : Prop} (h : t = t') : guardK t b A B = guardK t' b A B := by rw [h]
@[simp] theorem vc2_op (w : Bool) (op : SOp) : vc2 C (n + 1) (.o ⟨d, none, w, op, ks⟩ :: is) sk e h R = resK C n d ks is sk R e h (known C (effR h e w op)) := nr rfl
@[simp] theorem vc2_var (dd sz : Nat) (z : AV) (ms : List (Nat × Opd)) (x : Opd) : vc2 C (n + 1) (.v dd sz z ms x ks :: is) sk e h R = resK C n (some dd) ks is sk R (mvs e ms) h (varR dd sz z ms x (ev (mvs e ms) x)) := nr rfl
@[simp] theorem vc2_emp (dd sz : Nat) : vc2 C (n + 1) (.e dd sz ks :: is) sk e h R = vc2 C n is sk (kp (put e (some dd) .emp) ks) h R := nr rfl
@[simp] theorem varR_eq (d sz : Nat) (z : AV) (ms : List (Nat × Opd)) (x : Opd) (v : AV) : varR d sz z ms x v = .need (storable z = true) (.need ((cellsOf z).length = sz) (.need (varOk d ms x = true) (.need (storable v = true) (.need ((cellsOf v).length = sz) (.val (.ip (cellsOf v))))))) := nr rfl
@[simp] theorem mvs_nil : mvs e [] = e := nr rfl
@[simp] theorem mvs_cons (m : Nat × Opd) (ms : List (Nat × Opd)) : mvs e (m :: ms) = mvs (put e (some m.1) (ev e m.2)) ms := nr rfl
@[simp] theorem varOk_eq (d : Nat) (ms : List (Nat × Opd)) (x : Opd) : varOk d ms x = (ms.all (fun m => !(m.1 == d) && !(m.2.uses.contains d)) && !(x.uses.contains d)) := nr rfl
@[simp] theorem uses_t (n : Nat) : (Opd.t n).uses = [n] := nr rfl
@[simp] theorem uses_c (v : AV) : (Opd.c v).uses = [] := nr rfl
@[simp] theorem vc2_gd (w : Bool) (op : SOp) (s : Nat) (b : Bool) : vc2 C (n + 1) (.o ⟨d, some (s, b), w, op, ks⟩ :: is) sk e h R =
    grd2 (eget e s) b (resK C n d ks is sk R ((s, .bool b) :: e) h (known C (effR h ((s, .bool b) :: e) w op))) (vc2 C n is sk (kp (put ((s, .bool !b) :: e) d (.tup [])) ks) h R) (vc2 C n is sk (kp (put e d (.tup [])) ks) h R) := nr rfl
@[simp] theorem draw2_op (w : Bool) (op : SOp) : draw2 C h k (⟨d, none, w, op, ks⟩ :: ds) e = dresK C d ks ds e h k (known C (opR h e w op)) := nr rfl
@[simp] theorem draw2_gd (w : Bool) (op : SOp) (s : Nat) (b : Bool) : draw2 C h k (⟨d, some (s, b), w, op, ks⟩ :: ds) e =
    grd2 (eget e s) b (dresK C d ks ds ((s, .bool b) :: e) h k (known C (opR h ((s, .bool b) :: e) w op))) (draw2 C h k ds (kp (put ((s, .bool !b) :: e) d (.tup [])) ks)) (draw2 C h k ds (kp (put e d (.tup [])) ks)) := nr rfl
@[simp] theorem draw2_nil : draw2 C h k [] e = k e := nr rfl
@[simp] theorem vK_eq : vK C n js sk R h e = vc2 C n js sk e h R := nr rfl
def retK (o : Option (List AV)) (h : Heap) (R : AV → Heap → Prop) : Prop := ∃ l, o = some l ∧ match l with
  | [x] => R x h
  | l => R (.tup l) h
@[congr] theorem retK_congr {o o' : Option (List AV)} {h : Heap} {R : AV → Heap → Prop} (e1 : o = o') : retK o h R = retK o' h R := by rw [e1]
@[simp, simp ↓] theorem retK_one (x : AV) : retK (some [x]) h R = R x h := by simp only [retK, Option.some.injEq, exists_eq_left']
@[simp, simp ↓] theorem retK_two (x y : AV) (l : List AV) : retK (some (x :: y :: l)) h R = R (.tup (x :: y :: l)) h := by simp only [retK, Option.some.injEq, exists_eq_left']
@[simp, simp ↓] theorem retK_none : retK (some []) h R = R (.tup []) h := by simp only [retK, Option.some.injEq, exists_eq_left']
@[simp, simp ↓] theorem ret_eq : retVC C e h R = retK (resAVs e h C.res) h R := nr rfl
def condK (v : AV) (A B : Prop) : Prop := match v with
  | .bool t => guardK t true A B
  | _ => False
@[congr] theorem condK_congr {v v' : AV} {A B : Prop} (e1 : v = v') : condK v A B = condK v' A B := by rw [e1]
@[simp, simp ↓] theorem condK_b (t : Bool) (A B : Prop) : condK (.bool t) A B = guardK t true A B := nr rfl
def exK (C : Cx) (n : Nat) (e : Env) (h : Heap) (R : AV → Heap → Prop) (o : Option (List AItem)) : Prop := match o with
  | some s => vc2 C n [] s e h R
  | none => False
@[congr] theorem exK_congr {o o' : Option (List AItem)} (e1 : o = o') : exK C n e h R o = exK C n e h R o' := by rw [e1]
@[simp, simp ↓] theorem exK_s (s : List AItem) : exK C n e h R (some s) = vc2 C n [] s e h R := nr rfl
@[simp] theorem exit2_b (id j : Nat) (sk : List AItem) : exit2 id (.inBlock j :: sk) = if j = id then some sk else exit2 id sk := nr rfl
@[simp] theorem exit2_l (id : Nat) (a : ACode) (sk : List AItem) : exit2 id (.inLoop a :: sk) = exit2 id sk := nr rfl
@[simp] theorem exit2_c (id : Nat) (a : ACode) (sk : List AItem) : exit2 id (.code a :: sk) = exit2 id sk := nr rfl
@[simp] theorem vc2_end : vc2 C (n + 1) [] [] e h R = retVC C e h R := nr rfl
@[simp] theorem vc2_inBlock (id : Nat) : vc2 C (n + 1) [] (.inBlock id :: sk) e h R = vc2 C n [] sk e h R := nr rfl
@[simp] theorem vc2_inLoop (a : ACode) : vc2 C (n + 1) [] (.inLoop a :: sk) e h R = Run2 C (.code a :: .inLoop a :: sk) e h R := nr rfl
@[simp] theorem vc2_skip : vc2 C (n + 1) [] (.code .skip :: sk) e h R = vc2 C n [] sk e h R := nr rfl
@[simp] theorem vc2_seq (a b : ACode) : vc2 C (n + 1) [] (.code (.seq a b) :: sk) e h R = vc2 C n [] (.code a :: .code b :: sk) e h R := nr rfl
@[simp] theorem vc2_cond (c : Opd) (a b : ACode) : vc2 C (n + 1) [] (.code (.cond c a b) :: sk) e h R = condK (ev e c) (vc2 C n [] (.code a :: sk) e h R) (vc2 C n [] (.code b :: sk) e h R) := nr rfl
@[simp] theorem vc2_block (id : Nat) (a : ACode) : vc2 C (n + 1) [] (.code (.block id a) :: sk) e h R = vc2 C n [] (.code a :: .inBlock id :: sk) e h R := nr rfl
@[simp] theorem vc2_cut (a : ACode) : vc2 C (n + 1) [] (.code (.cut a) :: sk) e h R = Run2 C (.code a :: sk) e h R := nr rfl
@[simp] theorem vc2_loop (a : ACode) : vc2 C (n + 1) [] (.code (.loop a) :: sk) e h R = Run2 C (.code a :: .inLoop a :: sk) e h R := nr rfl
@[simp] theorem vc2_exit (id : Nat) : vc2 C (n + 1) [] (.code (.exit id) :: sk) e h R = exK C n e h R (exit2 id sk) := nr rfl
@[simp] theorem vc2_bad : vc2 C (n + 1) [] (.code .bad :: sk) e h R = False := nr rfl
@[simp] theorem vc2_ret : vc2 C (n + 1) [] (.code .ret :: sk) e h R = retVC C e h R := nr rfl
@[simp] theorem vc2_region (l : List AJ) : vc2 C (n + 1) [] (.code (.region l) :: sk) e h R = vc2 C n l sk e h R := nr rfl
@[simp] theorem vc2_draw (l : List AI) (j : List AJ) (ok : kOk l none = true) : vc2 C (n + 1) [] (.code (.draw l j ok) :: sk) e h R = draw2 C h (vK C n j sk R h) l e := nr rfl
@[simp] theorem vc2_drawE (as : List AI) (jss : List (List AJ)) (ords : List (List Nat)) (ok : jss.all (tOk 0) = true) (lk : jss.map (fun js => (js.flatMap AJ.ais).map AI.nk) = ords.map fun o => o.map (aAt as)) : vc2 C (n + 1) [] (.code (.drawE as jss ords ok lk) :: sk) e h R = (200 ≤ n ∧ allK (fun js => vc2 C n js sk e h R) jss) := nr rfl
@[simp] theorem allK_1 {α : Type} (f : α → Prop) (a : α) : allK f [a] = f a := nr rfl
@[simp] theorem allK_2 {α : Type} (f : α → Prop) (a b : α) (l : List α) : allK f (a :: b :: l) = (f a ∧ allK f (b :: l)) := nr rfl
@[simp] theorem vc2_drawT (st : Nat) (j : List AJ) (ok : tOk st j = true) : vc2 C (n + 1) [] (.code (.drawT st j ok) :: sk) e h R = (200 ≤ n ∧ vc2 C n j sk e h R) := nr rfl
@[simp] theorem kp_n : kp e none = e := nr rfl
@[simp] theorem kp_s (l : List Nat) : kp e (some l) = keep e l := nr rfl
end
section
variable (C : Cx) (h : Heap) (e : Env) (w : Bool)
@[simp] theorem known_call (g : FuncId) (l : List AV) : known C (.call g l) = callK g l (C.orc false g l) := nr rfl
@[simp] theorem callK_s (g : FuncId) (l : List AV) (p : Prop) (v : AV) : callK g l (some (p, v)) = .need p (.val v) := nr rfl
@[simp] theorem callK_n (g : FuncId) (l : List AV) : callK g l none = .call g l := nr rfl
@[simp] theorem known_callp (g : FuncId) (l : List AV) : known C (.callp g l) = callP (C.orc true g l) := nr rfl
@[simp] theorem callP_s (p : Prop) (v : AV) : callP (some (p, v)) = .need p (.val v) := nr rfl
@[simp] theorem callP_n : callP none = .no := nr rfl
@[simp] theorem callR_t (g : FuncId) (l : List AV) : callR true g l = .callp g l := nr rfl
@[simp] theorem callR_f (g : FuncId) (l : List AV) : callR false g l = .call g l := nr rfl
@[simp] theorem callvE_f (l : List AV) (g : FuncId) (c : List AV) : callvE w l (.fn g c) = callR w g (l ++ c) := nr rfl
@[simp] theorem known_val (v : AV) : known C (.val v) = .val v := nr rfl
@[simp] theorem known_vh (v : AV) (h : Heap) : known C (.vh v h) = .vh v h := nr rfl
@[simp] theorem known_need (p : Prop) (r : Res) : known C (.need p r) = .need p r := nr rfl
@[simp] theorem known_opt {α : Type} (o : Option α) (f : α → Res) : known C (.opt o f) = .opt o f := nr rfl
@[simp] theorem known_two (r s : Res) : known C (.two r s) = .two r s := nr rfl
@[simp] theorem known_ite (t : Bool) (r s : Res) : known C (.ite t r s) = .ite t r s := nr rfl
@[simp] theorem known_fresh (l : List Nat) (f : Nat → AV × Heap) : known C (.fresh l f) = .fresh l f := nr rfl
@[simp] theorem known_no : known C .no = .no := nr rfl
@[simp] theorem arR_t (n : Int) : arR true .i64 n = .need (in64 n) (.val (.int .i64 n)) := nr rfl
@[simp] theorem arR_f (k : IntKind) (n : Int) : arR false k n = .val (.int k (k.wrap n)) := nr rfl
theorem in64_of {n : Int} (h1 : -9223372036854775808 ≤ n) (h2 : n ≤ 9223372036854775807) : in64 n := ⟨h1, h2⟩
attribute [simp] in64

@[simp] theorem opR_mv (x : Opd) : opR h e w (.mv x) = .val (ev e x) := nr rfl
@[simp] theorem opR_pick (c a b : Opd) : opR h e w (.pick c a b) = pickR (ev e c) (ev e a) (ev e b) := nr rfl
@[simp] theorem opR_bin (op : BinOp) (x y : Opd) : opR h e w (.bin op x y) = binR w op (ev e x) (ev e y) := nr rfl
@[simp] theorem opR_beq (neg : Bool) (x y : Opd) : opR h e w (.beq neg x y) = beqR neg (ev e x) (ev e y) := nr rfl
@[simp] theorem opR_eqs (ks : List Nat) (neg : Bool) (x y : Opd) : opR h e w (.eqs ks neg x y) = eqsR ks neg (ev e x) (ev e y) := nr rfl
@[simp] theorem opR_un (op : UnOp) (x : Opd) : opR h e w (.un op x) = unR op (ev e x) := nr rfl
@[simp] theorem opR_conv (kd : IntKind) (x : Opd) : opR h e w (.conv kd x) = convR w kd (ev e x) := nr rfl
@[simp] theorem opR_fieldA (o : Nat) (x : Opd) : opR h e w (.fieldA o x) = fieldAR o (ev e x) := nr rfl
@[simp] theorem opR_field (o n : Nat) (ag : Bool) (x : Opd) : opR h e w (.field o n ag x) = fieldR o n ag (ev e x) := nr rfl
@[simp] theorem opR_idxA (sz : Nat) (x i : Opd) : opR h e w (.idxA sz x i) = idxAR sz (ev e x) (ev e i) := nr rfl
@[simp] theorem opR_idx (x i : Opd) : opR h e w (.idx x i) = idxR (ev e x) (ev e i) := nr rfl
@[simp] theorem opR_load (n : Nat) (ag : Bool) (x : Opd) : opR h e w (.load n ag x) = .opt (loadC h w (ev e x)) fun cs => loadR n ag cs := nr rfl
@[simp] theorem opR_nilchk (x : Opd) : opR h e w (.nilchk x) = nilchkR (ev e x) := nr rfl
@[simp] theorem opR_slice (sz : Nat) (x : Opd) (lo hi mx : Option Opd) : opR h e w (.slice sz x lo hi mx) = .need (szOk sz (ev e x)) (.opt (bnd e lo) fun l => .opt (bnd e hi) fun h' => .opt (bnd e mx) fun m => sliceR (ev e x) l h' m) := nr rfl
@[simp] theorem opR_sslice (x : Opd) (lo hi : Option Opd) : opR h e w (.sslice x lo hi) = .opt (bnd e lo) fun l => .opt (bnd e hi) fun h' => sslR (ev e x) l h' := nr rfl
@[simp] theorem opR_mkfn (g : FuncId) (caps : List Opd) : opR h e w (.mkfn g caps) = .val (.fn g (caps.map (ev e))) := nr rfl
@[simp] theorem opR_extract (x : Opd) (i : Nat) : opR h e w (.extract x i) = extractR i (ev e x) := nr rfl
@[simp] theorem opR_len (x : Opd) : opR h e w (.len x) = lenR (ev e x) := nr rfl
@[simp] theorem opR_slen (x : Opd) : opR h e w (.slen x) = slenR (ev e x) := nr rfl
@[simp] theorem opR_bstr (x : Opd) : opR h e w (.bstr x) = bstrR (ev e x) := nr rfl
@[simp] theorem opR_capk (x : Opd) : opR h e w (.capk x) = capR (ev e x) := nr rfl
@[simp] theorem opR_mx (m : Bool) (xs : List Opd) : opR h e w (.mx m xs) = mxR m (xs.map (ev e)) := nr rfl
@[simp] theorem opR_build (z : List AV) (ps : List (Nat × Nat × Opd)) : opR h e w (.build z ps) = .opt (fillAV e z ps) fun l => .val (.agg l) := nr rfl
@[simp] theorem effR_mv (x : Opd) : effR h e w (.mv x) = .val (ev e x) := nr rfl
@[simp] theorem effR_pick (c a b : Opd) : effR h e w (.pick c a b) = pickR (ev e c) (ev e a) (ev e b) := nr rfl
@[simp] theorem effR_bin (op : BinOp) (x y : Opd) : effR h e w (.bin op x y) = binR w op (ev e x) (ev e y) := nr rfl
@[simp] theorem effR_beq (neg : Bool) (x y : Opd) : effR h e w (.beq neg x y) = beqR neg (ev e x) (ev e y) := nr rfl
@[simp] theorem effR_eqs (ks : List Nat) (neg : Bool) (x y : Opd) : effR h e w (.eqs ks neg x y) = eqsR ks neg (ev e x) (ev e y) := nr rfl
@[simp] theorem effR_un (op : UnOp) (x : Opd) : effR h e w (.un op x) = unR op (ev e x) := nr rfl
@[simp] theorem effR_conv (kd : IntKind) (x : Opd) : effR h e w (.conv kd x) = convR w kd (ev e x) := nr rfl
@[simp] theorem effR_fieldA (o : Nat) (x : Opd) : effR h e w (.fieldA o x) = fieldAR o (ev e x) := nr rfl
@[simp] theorem effR_field (o n : Nat) (ag : Bool) (x : Opd) : effR h e w (.field o n ag x) = fieldR o n ag (ev e x) := nr rfl
@[simp] theorem effR_idxA (sz : Nat) (x i : Opd) : effR h e w (.idxA sz x i) = idxAR sz (ev e x) (ev e i) := nr rfl
@[simp] theorem effR_idx (x i : Opd) : effR h e w (.idx x i) = idxR (ev e x) (ev e i) := nr rfl
@[simp] theorem effR_load (n : Nat) (ag : Bool) (x : Opd) : effR h e w (.load n ag x) = .opt (loadC h w (ev e x)) fun cs => loadR n ag cs := nr rfl
@[simp] theorem effR_nilchk (x : Opd) : effR h e w (.nilchk x) = nilchkR (ev e x) := nr rfl
@[simp] theorem effR_slice (sz : Nat) (x : Opd) (lo hi mx : Option Opd) : effR h e w (.slice sz x lo hi mx) = .need (szOk sz (ev e x)) (.opt (bnd e lo) fun l => .opt (bnd e hi) fun h' => .opt (bnd e mx) fun m => sliceR (ev e x) l h' m) := nr rfl
@[simp] theorem effR_sslice (x : Opd) (lo hi : Option Opd) : effR h e w (.sslice x lo hi) = .opt (bnd e lo) fun l => .opt (bnd e hi) fun h' => sslR (ev e x) l h' := nr rfl
@[simp] theorem effR_mkfn (g : FuncId) (caps : List Opd) : effR h e w (.mkfn g caps) = .val (.fn g (caps.map (ev e))) := nr rfl
@[simp] theorem effR_extract (x : Opd) (i : Nat) : effR h e w (.extract x i) = extractR i (ev e x) := nr rfl
@[simp] theorem effR_len (x : Opd) : effR h e w (.len x) = lenR (ev e x) := nr rfl
@[simp] theorem effR_slen (x : Opd) : effR h e w (.slen x) = slenR (ev e x) := nr rfl
@[simp] theorem effR_bstr (x : Opd) : effR h e w (.bstr x) = bstrR (ev e x) := nr rfl
@[simp] theorem effR_capk (x : Opd) : effR h e w (.capk x) = capR (ev e x) := nr rfl
@[simp] theorem effR_mx (m : Bool) (xs : List Opd) : effR h e w (.mx m xs) = mxR m (xs.map (ev e)) := nr rfl
@[simp] theorem effR_build (z : List AV) (ps : List (Nat × Nat × Opd)) : effR h e w (.build z ps) = .opt (fillAV e z ps) fun l => .val (.agg l) := nr rfl
@[simp] theorem opR_call (g : FuncId) (xs : List Opd) : opR h e w (.call g xs) = .call g (xs.map (ev e)) := nr rfl
@[simp] theorem opR_callv (f : Opd) (xs : List Opd) : opR h e w (.callv f xs) = callvR (xs.map (ev e)) (ev e f) := nr rfl
@[simp] theorem effR_call (g : FuncId) (xs : List Opd) : effR h e w (.call g xs) = callR w g (xs.map (ev e)) := nr rfl
@[simp] theorem effR_callv (f : Opd) (xs : List Opd) : effR h e w (.callv f xs) = callvE w (xs.map (ev e)) (ev e f) := nr rfl
@[simp] theorem opR_eqn (kd : Nat) (neg : Bool) (x : Opd) : opR h e w (.eqn kd neg x) = eqnR kd neg (ev e x) := nr rfl
@[simp] theorem effR_eqn (kd : Nat) (neg : Bool) (x : Opd) : effR h e w (.eqn kd neg x) = eqnE kd neg (ev e x) := nr rfl
@[simp] theorem opR_box (sz : Nat) (x : Opd) : opR h e w (.box false sz x) = .need (false = false) (.need (storable (ev e x) = true) (.need ((cellsOf (ev e x)).length = sz) (.val (.ip (cellsOf (ev e x)))))) := nr rfl
@[simp] theorem opR_alloc (sz : Nat) (z : AV) : opR h e w (.alloc false sz z) = .need (false = false) (.need (storable z = true) (.need ((cellsOf z).length = sz) (.val (.ip (cellsOf z))))) := nr rfl
@[simp] theorem opR_bsl (sz : Nat) (ps : List Opd) : opR h e w (.bsl false sz ps) = .need (false = false) (.need (∀ x ∈ ps.map (ev e), storable x = true ∧ (cellsOf x).length = sz) (.val (.snap sz (ps.map (ev e))))) := nr rfl
@[simp] theorem effR_boxf (sz : Nat) (x : Opd) : effR h e w (.box false sz x) = .need (storable (ev e x) = true) (.need ((cellsOf (ev e x)).length = sz) (.val (.ip (cellsOf (ev e x))))) := nr rfl
@[simp] theorem effR_boxt (sz : Nat) (x : Opd) : effR h e w (.box true sz x) = .need (storable (ev e x) = true) (.need ((cellsOf (ev e x)).length = sz) (.fresh (dom h) fun id => (.ptr id sz 0 0, (id, ⟨sz, [ev e x]⟩) :: h))) := nr rfl
@[simp] theorem effR_allocf (sz : Nat) (z : AV) : effR h e w (.alloc false sz z) = .need (storable z = true) (.need ((cellsOf z).length = sz) (.val (.ip (cellsOf z)))) := nr rfl
@[simp] theorem effR_alloct (sz : Nat) (z : AV) : effR h e w (.alloc true sz z) = .need (storable z = true) (.need ((cellsOf z).length = sz) (.fresh (dom h) fun id => (.ptr id sz 0 0, (id, ⟨sz, [z]⟩) :: h))) := nr rfl
@[simp] theorem effR_bslf (sz : Nat) (ps : List Opd) : effR h e w (.bsl false sz ps) = .need (∀ x ∈ ps.map (ev e), storable x = true ∧ (cellsOf x).length = sz) (.val (.snap sz (ps.map (ev e)))) := nr rfl
@[simp] theorem effR_bslt (sz : Nat) (ps : List Opd) : effR h e w (.bsl true sz ps) = .need (∀ x ∈ ps.map (ev e), storable x = true ∧ (cellsOf x).length = sz) (.fresh (dom h) fun id => (.sl id sz 0 ps.length (some ps.length), (id, ⟨sz, ps.map (ev e)⟩) :: h)) := nr rfl
@[simp] theorem effR_mksl (sz bytes : Nat) (z : AV) (l c : Opd) : effR h e w (.mksl sz bytes z l c) = mkslR h sz bytes z (ev e l) (ev e c) := nr rfl
@[simp] theorem effR_clear (sz : Nat) (z : AV) (x : Opd) : effR h e w (.clear sz z x) = clearR h sz z (ev e x) := nr rfl
@[simp] theorem effR_appendz (sz bytes : Nat) (z : AV) (s x : Opd) : effR h e w (.appendz sz bytes z s x) = appzR h sz bytes z (ev e s) (ev e x) := nr rfl
@[simp] theorem effR_store (n : Nat) (p x : Opd) : effR h e w (.store n p x) = storeR h n (ev e p) (ev e x) := nr rfl
@[simp] theorem effR_append (sz bytes : Nat) (s x : Opd) : effR h e w (.append sz bytes s x) = .opt (elemsOf h sz (ev e x)) fun new => appR h sz bytes (ev e s) new := nr rfl
@[simp] theorem binR_add (kd kd' : IntKind) (a b : Int) : binR w .add (.int kd a) (.int kd' b) = .need (kd = kd') (arR w kd (a + b)) := nr rfl
@[simp] theorem binR_sub (kd kd' : IntKind) (a b : Int) : binR w .sub (.int kd a) (.int kd' b) = .need (kd = kd') (arR w kd (a - b)) := nr rfl
@[simp] theorem binR_mul (kd kd' : IntKind) (a b : Int) : binR w .mul (.int kd a) (.int kd' b) = .need (kd = kd') (arR w kd (a * b)) := nr rfl
@[simp] theorem binR_quo (kd kd' : IntKind) (a b : Int) : binR w .quo (.int kd a) (.int kd' b) = .need (kd = kd') (.need (b ≠ 0) (arR w kd (a.tdiv b))) := nr rfl
@[simp] theorem binR_rem (kd kd' : IntKind) (a b : Int) : binR w .rem (.int kd a) (.int kd' b) = .need (kd = kd') (.need (b ≠ 0) (.val (.int kd (a.tmod b)))) := nr rfl
@[simp] theorem binR_and (kd kd' : IntKind) (a b : Int) : binR w .and (.int kd a) (.int kd' b) = .need (kd = kd') (.val (.int kd (bits .and kd a b))) := nr rfl
@[simp] theorem binR_or (kd kd' : IntKind) (a b : Int) : binR w .or (.int kd a) (.int kd' b) = .need (kd = kd') (.val (.int kd (bits .or kd a b))) := nr rfl
@[simp] theorem binR_xor (kd kd' : IntKind) (a b : Int) : binR w .xor (.int kd a) (.int kd' b) = .need (kd = kd') (.val (.int kd (bits .xor kd a b))) := nr rfl
@[simp] theorem binR_andNot (kd kd' : IntKind) (a b : Int) : binR w .andNot (.int kd a) (.int kd' b) = .need (kd = kd') (.val (.int kd (bits .andNot kd a b))) := nr rfl
@[simp] theorem binR_eql (kd kd' : IntKind) (a b : Int) : binR w .eql (.int kd a) (.int kd' b) = .need (kd = kd') (.val (.bool (decide (a = b)))) := nr rfl
@[simp] theorem binR_neq (kd kd' : IntKind) (a b : Int) : binR w .neq (.int kd a) (.int kd' b) = .need (kd = kd') (.val (.bool (!decide (a = b)))) := nr rfl
@[simp] theorem binR_lss (kd kd' : IntKind) (a b : Int) : binR w .lss (.int kd a) (.int kd' b) = .need (kd = kd') (.val (.bool (decide (a < b)))) := nr rfl
@[simp] theorem binR_leq (kd kd' : IntKind) (a b : Int) : binR w .leq (.int kd a) (.int kd' b) = .need (kd = kd') (.val (.bool (decide (a ≤ b)))) := nr rfl
@[simp] theorem binR_gtr (kd kd' : IntKind) (a b : Int) : binR w .gtr (.int kd a) (.int kd' b) = .need (kd = kd') (.val (.bool (decide (b < a)))) := nr rfl
@[simp] theorem binR_geq (kd kd' : IntKind) (a b : Int) : binR w .geq (.int kd a) (.int kd' b) = .need (kd = kd') (.val (.bool (decide (b ≤ a)))) := nr rfl
@[simp] theorem binR_shl (kd kd' : IntKind) (a b : Int) : binR w .shl (.int kd a) (.int kd' b) = .need (0 ≤ b) (.val (.int kd (kd.wrap (a * 2 ^ (min b.toNat kd.bits))))) := nr rfl
@[simp] theorem binR_shr (kd kd' : IntKind) (a b : Int) : binR w .shr (.int kd a) (.int kd' b) = .need (0 ≤ b) (.val (.int kd (a.fdiv (2 ^ (min b.toNat kd.bits))))) := nr rfl
@[simp] theorem binS_add (a b : List UInt8) : binR w .add (.str a) (.str b) = .need (a.length + b.length ≤ 9223372036854775807) (.val (.str (a ++ b))) := nr rfl
@[simp] theorem binS_eql (a b : List UInt8) : binR w .eql (.str a) (.str b) = .val (.bool (decide (a = b))) := nr rfl
@[simp] theorem binS_neq (a b : List UInt8) : binR w .neq (.str a) (.str b) = .val (.bool (!decide (a = b))) := nr rfl
@[simp] theorem binS_lss (a b : List UInt8) : binR w .lss (.str a) (.str b) = .val (.bool (Op.bytesLess a b)) := nr rfl
@[simp] theorem binS_leq (a b : List UInt8) : binR w .leq (.str a) (.str b) = .val (.bool (Op.bytesLess a b || a == b)) := nr rfl
@[simp] theorem binS_gtr (a b : List UInt8) : binR w .gtr (.str a) (.str b) = .val (.bool (!(Op.bytesLess a b || a == b))) := nr rfl
@[simp] theorem binS_geq (a b : List UInt8) : binR w .geq (.str a) (.str b) = .val (.bool (!(Op.bytesLess a b))) := nr rfl
@[simp] theorem loadR_t (n : Nat) (cs : List AV) : loadR n true cs = .need (n ≤ cs.length) (.val (.agg (cs.take n))) := nr rfl
@[simp] theorem loadR_f (n : Nat) (x : AV) (cs : List AV) : loadR n false (x :: cs) = .val x := nr rfl
@[simp] theorem pickR_b (t : Bool) (a b : AV) : pickR (.bool t) a b = .ite t (.val a) (.val b) := nr rfl
@[simp] theorem beqR_f (a b : Bool) : beqR false (.bool a) (.bool b) = .val (.bool (a == b)) := nr rfl
@[simp] theorem beqR_t (a b : Bool) : beqR true (.bool a) (.bool b) = .val (.bool (a != b)) := nr rfl
@[simp] theorem eqsR_f (ks : List Nat) (xs ys : List AV) : eqsR ks false (.agg xs) (.agg ys) = .opt (eqAVs ks xs ys) fun b => .val (.bool b) := nr (by simp [eqsR])
@[simp] theorem eqsR_t (ks : List Nat) (xs ys : List AV) : eqsR ks true (.agg xs) (.agg ys) = .opt (eqAVs ks xs ys) fun b => .val (.bool (!b)) := nr (by simp [eqsR])
@[simp] theorem eqnR_f (kd : Nat) (x : AV) : eqnR kd false x = .opt (nilOf kd x) fun b => .val (.bool b) := nr (by simp [eqnR])
@[simp] theorem eqnR_t (kd : Nat) (x : AV) : eqnR kd true x = .opt (nilOf kd x) fun b => .val (.bool (!b)) := nr (by simp [eqnR])
@[simp] theorem unR_neg (kd : IntKind) (n : Int) : unR .neg (.int kd n) = .val (.int kd (kd.wrap (0 - n))) := nr rfl
@[simp] theorem unR_not (b : Bool) : unR .not (.bool b) = .val (.bool (!b)) := nr rfl
@[simp] theorem convR_i (kd k : IntKind) (n : Int) : convR w kd (.int k n) = arR w kd n := nr rfl
@[simp] theorem fieldAR_p (o id sz i o' : Nat) : fieldAR o (.ptr id sz i o') = .val (.ptr id sz i (o' + o)) := nr rfl
@[simp] theorem fieldAR_i (o : Nat) (l : List AV) : fieldAR o (.ip l) = .val (.ip (l.drop o)) := nr rfl
@[simp] theorem fieldR_t (o n : Nat) (l : List AV) : fieldR o n true (.agg l) = .val (.agg ((l.drop o).take n)) := nr rfl
@[simp] theorem fieldR_f (o n : Nat) (l : List AV) : fieldR o n false (.agg l) = .opt l[o]? .val := nr rfl
@[simp] theorem idxAR_n (sz s : Nat) (l : List AV) (k : IntKind) (n : Int) : idxAR sz (.snap s l) (.int k n) = .need (s = sz) (.need (0 ≤ n) (.opt l[n.toNat]? fun x => .val (.ip (cellsOf x)))) := nr rfl
@[simp] theorem idxAR_s (sz id s off len : Nat) (c : Option Nat) (k : IntKind) (n : Int) : idxAR sz (.sl id s off len c) (.int k n) = .need (s = sz) (.need (0 ≤ n) (.need (n.toNat < len) (.val (.ptr id sz (off + n.toNat) 0)))) := nr rfl
@[simp] theorem idxR_s (s : List UInt8) (k : IntKind) (n : Int) : idxR (.str s) (.int k n) = .need (0 ≤ n) (.opt s[n.toNat]? fun c => .val (.int .u8 c.toNat)) := nr rfl
@[simp] theorem nilchkR_p (id sz i o : Nat) : nilchkR (.ptr id sz i o) = .val (.ptr id sz i o) := nr rfl
@[simp] theorem nilchkR_i (l : List AV) : nilchkR (.ip l) = .val (.ip l) := nr rfl
@[simp] theorem sslR_s (s : List UInt8) (l h' : Option Int) : sslR (.str s) l h' = .need (0 ≤ l.getD 0) (.need (l.getD 0 ≤ h'.getD s.length) (.need (h'.getD s.length ≤ s.length) (.val (.str ((s.drop (l.getD 0).toNat).take (h'.getD s.length - l.getD 0).toNat))))) := nr rfl
@[simp] theorem extractR_t (i : Nat) (l : List AV) : extractR i (.tup l) = .opt l[i]? .val := nr rfl
@[simp] theorem lenR_n : lenR .nilsl = .val (.int .i64 0) := nr rfl
@[simp] theorem lenR_e : lenR .emp = .val (.int .i64 0) := nr rfl
@[simp] theorem lenR_sn (s : Nat) (l : List AV) : lenR (.snap s l) = .val (.int .i64 l.length) := nr rfl
@[simp] theorem lenR_sl (id s off len : Nat) (c : Option Nat) : lenR (.sl id s off len c) = .val (.int .i64 len) := nr rfl
@[simp] theorem loadC_f (x : AV) : loadC h false x = cellsAt h x := nr rfl
@[simp] theorem loadC_t (l : List AV) : loadC h true (.ip l) = some l := nr rfl
@[simp] theorem capR_n : capR .nilsl = .val (.int .i64 0) := nr rfl
@[simp] theorem capR_e : capR .emp = .val (.int .i64 0) := nr rfl
@[simp] theorem capR_s (id s off len c : Nat) : capR (.sl id s off len (some c)) = .val (.int .i64 c) := nr rfl
@[simp] theorem slenR_s (s : List UInt8) : slenR (.str s) = .val (.int .i64 s.length) := nr rfl
@[simp] theorem bstrR_n : bstrR .nilsl = .val (.str []) := nr rfl
@[simp] theorem bstrR_e : bstrR .emp = .val (.str []) := nr rfl
@[simp] theorem bstrR_s (l : List AV) : bstrR (.snap 1 l) = .opt (bytesAV l) (fun s => .val (.str s)) := nr rfl
@[simp] theorem mxR_c (m : Bool) (x : AV) (r : List AV) : mxR m (x :: r) = .opt (mmAV m x r) .val := nr rfl
@[simp] theorem callvR_f (args caps : List AV) (g : FuncId) : callvR args (.fn g caps) = .call g (args ++ caps) := nr rfl
@[simp] theorem sliceR_n (lo hi mx : Option Int) : sliceR .nilsl lo hi mx = .need (sliceC lo hi mx 0 0) (.val .nilsl) := nr rfl
@[simp] theorem sliceR_e (lo hi mx : Option Int) : sliceR .emp lo hi mx = .need (sliceC lo hi mx 0 0) (.val .emp) := nr rfl
@[simp] theorem sliceR_sn (s : Nat) (l : List AV) (lo hi : Option Int) : sliceR (.snap s l) lo hi none = .need (sliceC lo hi none l.length l.length) (.val (.snap s ((l.drop (lo.getD 0).toNat).take (hi.getD l.length - lo.getD 0).toNat))) := nr rfl
@[simp] theorem sliceR_sm (s : Nat) (l : List AV) (lo hi : Option Int) (m : Int) : sliceR (.snap s l) lo hi (some m) = .need (sliceC lo hi (some m) l.length l.length) (.need (m = lo.getD 0) (.val .emp)) := nr rfl
@[simp] theorem sliceR_ln (id s off len : Nat) (cap : Option Nat) (lo hi : Option Int) : sliceR (.sl id s off len cap) lo hi none = .need (sliceC lo hi none len (cap.getD len)) (.val (.sl id s (off + (lo.getD 0).toNat) (hi.getD len - lo.getD 0).toNat (cap.map fun c => c - (lo.getD 0).toNat))) := nr rfl
@[simp] theorem sliceR_lm (id s off len : Nat) (cap : Option Nat) (lo hi : Option Int) (m : Int) : sliceR (.sl id s off len cap) lo hi (some m) = .need (sliceC lo hi (some m) len (cap.getD len)) (.val (.sl id s (off + (lo.getD 0).toNat) (hi.getD len - lo.getD 0).toNat (some (m - lo.getD 0).toNat))) := nr rfl
@[simp] theorem clearR_n (sz : Nat) (z : AV) : clearR h sz z .nilsl = .vh .undef h := nr rfl
@[simp] theorem clearR_e (sz : Nat) (z : AV) : clearR h sz z .emp = .vh .undef h := nr rfl
@[simp] theorem clearR_s (sz id s off len : Nat) (z : AV) (cap : Option Nat) : clearR h sz z (.sl id s off len cap) = .need (s = sz) (.opt (hget h id) fun blk => .need (blk.sz = sz) (.need (off + len ≤ blk.l.length) (.vh .undef (hset h id ⟨sz, splice blk.l off (List.replicate len z)⟩)))) := nr rfl
@[simp] theorem appzR_n (sz bytes : Nat) (z : AV) (n : Int) : appzR h sz bytes z .nilsl (.int .i64 n) = .need (0 < n) (.need ((2 * n.toNat) * bytes ≤ 281474976710656) (.fresh (dom h) fun id => (.sl id sz 0 n.toNat none, (id, ⟨sz, List.replicate n.toNat z⟩) :: h))) := nr rfl
@[simp] theorem storeR_p (n id sz i o : Nat) (x : AV) : storeR h n (.ptr id sz i o) x = .need (storable x = true) (.need ((cellsOf x).length = n) (.opt (hget h id) fun blk => .need (blk.sz = sz) (.need (o + n ≤ sz)
      (if n = sz then .need (i < blk.l.length) (.vh .undef (hset h id ⟨sz, blk.l.set i x⟩))
       else .opt blk.l[i]? fun el => .vh .undef (hset h id ⟨sz, blk.l.set i (.agg (splice (cellsOf el) o (cellsOf x)))⟩))))) := nr rfl
@[simp] theorem appR_n (sz bytes : Nat) (new : List AV) : appR h sz bytes .nilsl new = .ite new.isEmpty (.val .nilsl) (.need ((2 * new.length) * bytes ≤ 281474976710656) (.fresh (dom h) fun id => (.sl id sz 0 new.length none, (id, ⟨sz, new⟩) :: h))) := nr rfl
@[simp] theorem appR_e (sz bytes : Nat) (new : List AV) : appR h sz bytes .emp new = .ite new.isEmpty (.val .emp) (.need ((2 * new.length) * bytes ≤ 281474976710656) (.fresh (dom h) fun id => (.sl id sz 0 new.length none, (id, ⟨sz, new⟩) :: h))) := nr rfl
@[simp] theorem appR_ln (sz bytes id s off len : Nat) (new : List AV) : appR h sz bytes (.sl id s off len none) new = .need (s = sz) (.opt (hget h id) fun blk => .need (blk.sz = sz) (.need (off + len ≤ blk.l.length) (.need (off = 0) (.need ((2 * (len + new.length)) * bytes ≤ 281474976710656) (.fresh (dom (hdel h id)) fun id' => (.sl id' sz 0 (len + new.length) none, (id', ⟨sz, blk.l.take len ++ new⟩) :: hdel h id)))))) := nr rfl
@[simp] theorem appR_ls (sz bytes id s off len c : Nat) (new : List AV) : appR h sz bytes (.sl id s off len (some c)) new = .need (s = sz) (.opt (hget h id) fun blk => .need (blk.sz = sz) (.need (off + len ≤ blk.l.length) (.ite (decide (len + new.length ≤ c)) (.need (off + c ≤ blk.l.length) (.vh (.sl id sz off (len + new.length) (some c)) (hset h id ⟨sz, splice blk.l (off + len) new⟩)))
        (.need ((2 * (len + new.length)) * bytes ≤ 281474976710656) (.fresh (dom h) fun id' => (.sl id' sz 0 (len + new.length) none, (id', ⟨sz, (blk.l.drop off).take len ++ new⟩) :: h)))))) := nr rfl
@[simp] theorem mkslR_i (sz bytes : Nat) (z : AV) (l c : Int) : mkslR h sz bytes z (.int .i64 l) (.int .i64 c) = .need (0 ≤ l) (.need (l ≤ c) (.need (bytes * c ≤ 281474976710656) (.need (storable z = true) (.need ((cellsOf z).length = sz) (.fresh (dom h) fun id => (.sl id sz 0 l.toNat (some c.toNat), (id, ⟨sz, List.replicate c.toNat z⟩) :: h)))))) := nr rfl

/-! ## Tables of known functions -/
end
def lk : List (Nat × (List AV → Option (Prop × AV))) → Orc
  | [], _, _, _ => none
  | (n, f) :: r, b, g, l => if g = n then f l else lk r b g l
@[simp] theorem lk_nil (b : Bool) (g : FuncId) (l : List AV) : lk [] b g l = none := nr rfl
@[simp] theorem lk_cons (n : Nat) (f : List AV → Option (Prop × AV)) (r : List (Nat × (List AV → Option (Prop × AV)))) (b : Bool) (g : FuncId) (l : List AV) : lk ((n, f) :: r) b g l = if g = n then f l else lk r b g l := nr rfl
def Knows (P : Program) (g : FuncId) (f : List AV → Option (Prop × AV)) : Prop := ∀ l p v, f l = some (p, v) → p → ∀ h, ACalls P g l h (fun v' h' => v' = v ∧ h' = h)
theorem lk_pure0 {P : Program} : Pure P (lk []) := fun _ _ _ _ _ h => by simp at h
theorem lk_pure {P : Program} {n : Nat} {f : List AV → Option (Prop × AV)} {r : List (Nat × (List AV → Option (Prop × AV)))} (hf : Knows P n f) (hr : Pure P (lk r)) : Pure P (lk ((n, f) :: r)) := by
  intro b g l p v h
  rw [lk_cons] at h
  split at h
  · rename_i hg; subst hg; exact hf l p v h
  · exact hr b g l p v h
/-- One table for calls that must be known, one for the others. -/
def orS (s t : Orc) : Orc := fun b g l => if b then s b g l else t b g l
@[simp] theorem orS_t (s t : Orc) (g : FuncId) (l : List AV) : orS s t true g l = s true g l := nr rfl
@[simp] theorem orS_f (s t : Orc) (g : FuncId) (l : List AV) : orS s t false g l = t false g l := nr rfl
theorem orS_pure {P : Program} {s t : Orc} (hs : Pure P s) (ht : Pure P t) : Pure P (orS s t) := fun b g l p v h => by
  cases b
  · exact ht _ _ _ _ _ h
  · exact hs _ _ _ _ _ h
open Classical in
/-- A function that is known at values of one form. -/
noncomputable def tab {α : Type} (enc : α → List AV) (pre : α → Prop) (val : α → AV) (l : List AV) : Option (Prop × AV) := if h : ∃ x, enc x = l then some (pre h.choose, val h.choose) else none
theorem tab_at {α : Type} {enc : α → List AV} (inj : ∀ x y, enc x = enc y → x = y) (pre : α → Prop) (val : α → AV) (x : α) : tab enc pre val (enc x) = some (pre x, val x) := by
  have h : ∃ y, enc y = enc x := ⟨x, rfl⟩
  unfold tab
  rw [dif_pos h, inj _ _ h.choose_spec]
theorem tab_knows {P : Program} {g : FuncId} {α : Type} {enc : α → List AV} {pre : α → Prop} {val : α → AV} (hc : ∀ x, pre x → ∀ h, ACalls P g (enc x) h (fun v h' => v = val x ∧ h' = h)) : Knows P g (tab enc pre val) := by
  intro l p v hv hp h
  unfold tab at hv
  split at hv
  · rename_i hx
    cases hv
    have := hc _ hp h
    rwa [hx.choose_spec] at this
  · cases hv
section
/-- Is it nil? -/
@[simp] theorem eqnE_n (neg : Bool) : eqnE 0 neg .nilsl = .val (.bool (if neg then !true else true)) := nr rfl
@[simp] theorem eqnE_c (neg : Bool) (s : Nat) (x : AV) (l : List AV) : eqnE 0 neg (.snap s (x :: l)) = .val (.bool (if neg then !false else false)) := nr rfl
@[simp] theorem eqnE_e (neg : Bool) : eqnE 0 neg .emp = .two (.val (.bool true)) (.val (.bool false)) := nr rfl
@[simp] theorem eqnE_s0 (neg : Bool) (s : Nat) : eqnE 0 neg (.snap s []) = .two (.val (.bool true)) (.val (.bool false)) := nr rfl
@[simp] theorem eqnE_l (neg : Bool) (id s off len : Nat) (c : Option Nat) : eqnE 0 neg (.sl id s off (len + 1) c) = .val (.bool (if neg then !false else false)) := nr rfl
@[simp] theorem eqnE_l0 (neg : Bool) (id s off : Nat) (c : Option Nat) : eqnE 0 neg (.sl id s off 0 c) = .two (.val (.bool true)) (.val (.bool false)) := nr rfl
@[simp] theorem eqnE_p (neg : Bool) : eqnE 1 neg .nilp = .val (.bool (if neg then !true else true)) := nr rfl
@[simp] theorem eqnE_pp (neg : Bool) (i z j o : Nat) : eqnE 1 neg (.ptr i z j o) = .val (.bool (if neg then !false else false)) := nr rfl
@[simp] theorem eqnE_pi (neg : Bool) (l : List AV) : eqnE 1 neg (.ip l) = .val (.bool (if neg then !false else false)) := nr rfl
@[simp] theorem eqnE_f (neg : Bool) : eqnE 2 neg .nilfn = .val (.bool (if neg then !true else true)) := nr rfl
@[simp] theorem eqnE_i (neg : Bool) : eqnE 3 neg .nili = .val (.bool (if neg then !true else true)) := nr rfl
@[simp] theorem eqnE_j (neg : Bool) : eqnE 3 neg .ifc = .val (.bool (if neg then !false else false)) := nr rfl
@[simp] theorem eqnE_ff (neg : Bool) (g : FuncId) (l : List AV) : eqnE 2 neg (.fn g l) = .val (.bool (if neg then !false else false)) := nr rfl
end
attribute [irreducible] gK dK
end Go.AG
