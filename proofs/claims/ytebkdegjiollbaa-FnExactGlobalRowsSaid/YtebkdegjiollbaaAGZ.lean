/- Our own small layer: short words for what is printed of a function's code. No statement about the program is made here. -/
import Derived.Test.YtebkdegjiollbaaAGXS
namespace Go.AG
section
variable (k : ACode)
abbrev rR (l : List AJ) : Prop := ∀ (C : Cx) (n : Nat) (sk : List AItem) (e : Env) (h : Heap) (R : AV → Heap → Prop), vc2 C (n + 1) [] (.code k :: sk) e h R = vc2 C n l sk e h R
abbrev rD (is : List AI) (js : List AJ) : Prop := ∀ (C : Cx) (n : Nat) (sk : List AItem) (e : Env) (h : Heap) (R : AV → Heap → Prop), vc2 C (n + 1) [] (.code k :: sk) e h R = draw2 C h (vK C n js sk R h) is e
abbrev rT (l : List AJ) : Prop := ∀ (C : Cx) (n : Nat) (sk : List AItem) (e : Env) (h : Heap) (R : AV → Heap → Prop), vc2 C (n + 1) [] (.code k :: sk) e h R = (200 ≤ n ∧ vc2 C n l sk e h R)
abbrev rE (ls : List (List AJ)) : Prop := ∀ (C : Cx) (n : Nat) (sk : List AItem) (e : Env) (h : Heap) (R : AV → Heap → Prop), vc2 C (n + 1) [] (.code k :: sk) e h R = (200 ≤ n ∧ allK (fun l => vc2 C n l sk e h R) ls)
abbrev rS (a b : ACode) : Prop := ∀ (C : Cx) (n : Nat) (sk : List AItem) (e : Env) (h : Heap) (R : AV → Heap → Prop), vc2 C (n + 1) [] (.code k :: sk) e h R = vc2 C n [] (.code a :: .code b :: sk) e h R
abbrev rC (c : Opd) (a b : ACode) : Prop := ∀ (C : Cx) (n : Nat) (sk : List AItem) (e : Env) (h : Heap) (R : AV → Heap → Prop), vc2 C (n + 1) [] (.code k :: sk) e h R = condK (ev e c) (vc2 C n [] (.code a :: sk) e h R) (vc2 C n [] (.code b :: sk) e h R)
abbrev rB (i : Nat) (a : ACode) : Prop := ∀ (C : Cx) (n : Nat) (sk : List AItem) (e : Env) (h : Heap) (R : AV → Heap → Prop), vc2 C (n + 1) [] (.code k :: sk) e h R = vc2 C n [] (.code a :: .inBlock i :: sk) e h R
abbrev rL (a : ACode) : Prop := ∀ (C : Cx) (n : Nat) (sk : List AItem) (e : Env) (h : Heap) (R : AV → Heap → Prop), vc2 C (n + 1) [] (.code k :: sk) e h R = Run2 C (.code a :: .inLoop a :: sk) e h R
abbrev sR (l : List AJ) (b : ACode) : Prop := ∀ (C : Cx) (n : Nat) (sk : List AItem) (e : Env) (h : Heap) (R : AV → Heap → Prop), vc2 C (n + 2) [] (.code k :: sk) e h R = vc2 C n l (.code b :: sk) e h R
abbrev sD (is : List AI) (js : List AJ) (b : ACode) : Prop := ∀ (C : Cx) (n : Nat) (sk : List AItem) (e : Env) (h : Heap) (R : AV → Heap → Prop), vc2 C (n + 2) [] (.code k :: sk) e h R = draw2 C h (vK C n js (.code b :: sk) R h) is e
abbrev sT (l : List AJ) (b : ACode) : Prop := ∀ (C : Cx) (n : Nat) (sk : List AItem) (e : Env) (h : Heap) (R : AV → Heap → Prop), vc2 C (n + 2) [] (.code k :: sk) e h R = (200 ≤ n ∧ vc2 C n l (.code b :: sk) e h R)
abbrev sE (ls : List (List AJ)) (b : ACode) : Prop := ∀ (C : Cx) (n : Nat) (sk : List AItem) (e : Env) (h : Heap) (R : AV → Heap → Prop), vc2 C (n + 2) [] (.code k :: sk) e h R = (200 ≤ n ∧ allK (fun l => vc2 C n l (.code b :: sk) e h R) ls)
abbrev sC (c : Opd) (x y b : ACode) : Prop := ∀ (C : Cx) (n : Nat) (sk : List AItem) (e : Env) (h : Heap) (R : AV → Heap → Prop), vc2 C (n + 2) [] (.code k :: sk) e h R = condK (ev e c) (vc2 C n [] (.code x :: .code b :: sk) e h R) (vc2 C n [] (.code y :: .code b :: sk) e h R)
abbrev sB (i : Nat) (a b : ACode) : Prop := ∀ (C : Cx) (n : Nat) (sk : List AItem) (e : Env) (h : Heap) (R : AV → Heap → Prop), vc2 C (n + 2) [] (.code k :: sk) e h R = vc2 C n [] (.code a :: .inBlock i :: .code b :: sk) e h R
abbrev sL (a b : ACode) : Prop := ∀ (C : Cx) (n : Nat) (sk : List AItem) (e : Env) (h : Heap) (R : AV → Heap → Prop), vc2 C (n + 2) [] (.code k :: sk) e h R = Run2 C (.code a :: .inLoop a :: .code b :: sk) e h R
variable {k : ACode} {l : List AJ} {is : List AI} {a b x y : ACode} {c : Opd} {i : Nat}
theorem zR (h : k = .region l) : rR k l := by subst h; intro _ _ _ _ _ _; rfl
theorem zD {ok} (h : k = .draw is l ok) : rD k is l := by subst h; intro _ _ _ _ _ _; rfl
theorem zT {st ok} (h : k = .drawT st l ok) : rT k l := by subst h; intro _ _ _ _ _ _; rfl
theorem zE {as ls ords ok lk} (h : k = .drawE as ls ords ok lk) : rE k ls := by subst h; intro _ _ _ _ _ _; rfl
theorem zS (h : k = .seq a b) : rS k a b := by subst h; intro _ _ _ _ _ _; rfl
theorem zC (h : k = .cond c a b) : rC k c a b := by subst h; intro _ _ _ _ _ _; rfl
theorem zB (h : k = .block i a) : rB k i a := by subst h; intro _ _ _ _ _ _; rfl
theorem zL (h : k = .loop a) : rL k a := by subst h; intro _ _ _ _ _ _; rfl
theorem yR (h : k = .seq (.region l) b) : sR k l b := by subst h; intro _ _ _ _ _ _; rfl
theorem yD {ok} (h : k = .seq (.draw is l ok) b) : sD k is l b := by subst h; intro _ _ _ _ _ _; rfl
theorem yT {st ok} (h : k = .seq (.drawT st l ok) b) : sT k l b := by subst h; intro _ _ _ _ _ _; rfl
theorem yE {as ls ords ok lk} (h : k = .seq (.drawE as ls ords ok lk) b) : sE k ls b := by subst h; intro _ _ _ _ _ _; rfl
theorem yC (h : k = .seq (.cond c x y) b) : sC k c x y b := by subst h; intro _ _ _ _ _ _; rfl
theorem yB (h : k = .seq (.block i a) b) : sB k i a b := by subst h; intro _ _ _ _ _ _; rfl
theorem yL (h : k = .seq (.loop a) b) : sL k a b := by subst h; intro _ _ _ _ _ _; rfl
end
def mkC (P : Program) (M : List Nat) (g nt : Nat) (res : List RV) (orc : Orc) : Cx := ⟨P, M, g, nt, res, orc⟩
section
variable (P : Program) (M : List Nat) (g nt : Nat) (res : List RV) (orc : Orc)
@[simp] theorem mkC_P : (mkC P M g nt res orc).P = P := nr rfl
@[simp] theorem mkC_o : (mkC P M g nt res orc).orc = orc := nr rfl
@[simp] theorem mkC_r : (mkC P M g nt res orc).res = res := nr rfl
end
def OfP (P : Program) (F : Func) (g nt : Nat) (C : Orc → Cx) (top : ACode) : Prop := ∀ {args : List AV} {h : Heap} {R : AV → Heap → Prop} {k : Nat} (_ : args.length = k) {orc : Orc} (_ : Pure P orc) (_ : Is (C orc) F → Run2 (C orc) [.code top] (argEnv 0 args) h (Post R)) (_ : k ≤ nt := by simp), ACalls P g args h R
def OfP0 (P : Program) (F : Func) (g nt : Nat) (C : Orc → Cx) (top : ACode) : Prop := ∀ {args : List AV} {h : Heap} {R : AV → Heap → Prop} {k : Nat} (_ : args.length = k) {orc : Orc} (_ : Pure P orc) (_ : Is (C orc) F → Run2 (C orc) [.code top] (argEnv 0 args) h R) (_ : k ≤ nt := by simp), ACalls P g args h R
section
variable {P : Program} {F : Func} {g nt : Nat} {M : List Nat} {res : List RV} {top : ACode} {body : Code}
theorem ofP (hf : P.funcs[g]? = some F) (hn : (F.name == "runtime.NumGoroutine") = false) (hb : F.body = some body) (hr : cRes P F.results.toList = some res) (ht : nt = F.ntmps) (hcode : cCode P M F.ntmps body = top.er) : OfP P F g nt (mkC P M g nt res) top := by
  subst ht
  intro args h R k ha orc hp hk hle
  exact contract2 M top res hf hn hb hr (by rw [ha]; exact hle) hcode hp hk
theorem ofP0 (hf : P.funcs[g]? = some F) (hn : (F.name == "runtime.NumGoroutine") = false) (hb : F.body = some body) (hr : cRes P F.results.toList = some res) (ht : nt = F.ntmps) (hcode : cCode P M F.ntmps body = top.er) : OfP0 P F g nt (mkC P M g nt res) top := by
  subst ht
  intro args h R k ha orc hp hk hle
  exact contract20 M top res hf hn hb hr (by rw [ha]; exact hle) hcode hp hk
end
end Go.AG
