/- Tables of functions; loops whose rounds are given by one equation; words of the printed equations. No condition. -/
import Derived.Test.YtjgmiilapnekfaaEvX
import Derived.KernelRfl
namespace Go.Proofs.Ytjgmiilapnekfaa.Ev
open Go
set_option linter.unusedVariables false
/-- A table by number. -/
inductive Tr (α : Type) where
  | nil
  | node (l : Tr α) (k : Nat) (v : α) (r : Tr α)
def Tr.get {α : Type} : Tr α → Nat → Option α
  | .nil, _ => none
  | .node l k v r, n => bif Nat.beq n k then some v else bif Nat.blt n k then l.get n else r.get n
def AllF (P : Program) : Tr Func → Prop
  | .nil => True
  | .node l k b r => (P.funcs[k]? = some b ∧ b.body.isNone = false ∧ (b.name == "runtime.NumGoroutine") = false) ∧ AllF P l ∧ AllF P r
theorem tabF_of {P : Program} : ∀ {t : Tr Func}, AllF P t → ∀ f fn, t.get f = some fn → P.funcs[f]? = some fn ∧ fn.body.isNone = false ∧ (fn.name == "runtime.NumGoroutine") = false
  | .node l k v r, h, f, fn, hf => by
    unfold Tr.get at hf
    cases hb : Nat.beq f k with
    | true => rw [hb] at hf; cases hf; rw [Nat.eq_of_beq_eq_true hb]; exact h.1
    | false =>
      rw [hb] at hf
      cases hc : Nat.blt f k with
      | true => rw [hc] at hf; exact tabF_of h.2.1 f fn hf
      | false => rw [hc] at hf; exact tabF_of h.2.2 f fn hf
def sigOf (t : Tr Sig) (n : Nat) : Sig := match t.get n with | some s => s | none => ⟨[], [], [], false⟩
/-- Rounds of a loop, on what turns alone. -/
def fixN {V R : Type} (b : (V → Option R) → V → Option R) : Nat → V → Option R
  | 0, _ => none
  | j + 1, v => b (fixN b j) v
theorem iter_fix {V R : Type} {E : Env} {B : St → (Ex → St → Option R) → Option R} {pins keep : List Nat} {K : Ex → St → Option R} (S : V → St) (b : (V → Option R) → V → Option R)
    (h : ∀ j v, iter E B pins keep K (j + 1) (S v) = b (fun v => iter E B pins keep K j (S v)) v) (j : Nat) : ∀ v, iter E B pins keep K j (S v) = fixN b j v := by
  induction j with
  | zero => intro v; rfl
  | succ j ih =>
    intro v
    rw [h, fixN]
    exact congrArg (fun G => b G v) (funext ih)
/-! Where a loop stands in a function's code: its round, and what follows it -/
inductive Stp where | sl | sr | ct | ce | bl | lp
def codeAt : List Stp → Code → Code
  | .sl :: p, .seq a _ => codeAt p a
  | .sr :: p, .seq _ b => codeAt p b
  | .ct :: p, .cond _ a _ => codeAt p a
  | .ce :: p, .cond _ _ b => codeAt p b
  | .bl :: p, .block _ a => codeAt p a
  | .lp :: p, .loop a => codeAt p a
  | _, c => c
def outAt : List Stp → Code → List Nat → List Nat
  | .sl :: p, .seq a b, out => outAt p a (reads b ++ out)
  | .sr :: p, .seq _ b, out => outAt p b out
  | .ct :: p, .cond _ a _, out => outAt p a out
  | .ce :: p, .cond _ _ b, out => outAt p b out
  | .bl :: p, .block _ a, out => outAt p a out
  | .lp :: p, .loop a, out => outAt p a ((exposed a []).1 ++ out)
  | _, _, out => out
def kAt {R : Type} (E : Env) (F : Call) (k : Nat) (pins : List Nat) : List Stp → Code → List Nat → (Ex → St → Option R) → List Nat → Ex → St → Option R
  | .sl :: p, .seq a b, out, K, js => kAt E F k pins p a (reads b ++ out) (fun ex σ' => match ex with | .normal => evalCode E F k pins b out σ' K | e => K e σ') js
  | .sr :: p, .seq _ b, out, K, js => kAt E F k pins p b out K js
  | .ct :: p, .cond _ a _, out, K, js => kAt E F k pins p a out K js
  | .ce :: p, .cond _ _ b, out, K, js => kAt E F k pins p b out K js
  | .bl :: p, .block id a, out, K, js => kAt E F k pins p a out (fun ex σ' => match ex with | .exit i => bif Nat.beq i id then K .normal σ' else K (.exit i) σ' | e => K e σ') js
  | .lp :: p, .loop a, out, K, j :: js => kAt E F k pins p a ((exposed a []).1 ++ out) (fun ex σ' => match ex with | .normal => (match canonD E pins (sortN (dedup ((exposed a []).1 ++ out))) σ' with | some σ'' => iter E (fun σ K' => evalCode E F k pins a ((exposed a []).1 ++ out) σ K') pins (sortN (dedup ((exposed a []).1 ++ out))) K j σ'' | none => none) | e => K e σ') js
  | _, _, _, K, _ => K
def fnAt (E : Env) (f : FuncId) : Func := match E.fn f with | some fn => fn | none => default
def bodyOf (fn : Func) : Code := match fn.body with | some c => c | none => .skip
def outOf (fn : Func) : List Nat := fn.results.toList.map fun | .tmp t => t | .cell p _ => p
/-- A loop's round. -/
def LB (E : Env) (F : Call) (k : Nat) (pins : List Nat) (f : FuncId) (p : List Stp) : St → (Ex → St → Option Outs) → Option Outs :=
  match codeAt p (bodyOf (fnAt E f)) with
  | .loop a => fun σ K' => evalCode E F k pins a ((exposed a []).1 ++ outAt p (bodyOf (fnAt E f)) (outOf (fnAt E f))) σ K'
  | _ => fun _ _ => none
/-- What follows a loop; js: the rounds left of the loops around it. -/
def LK (E : Env) (F : Call) (k : Nat) (pins : List Nat) (f : FuncId) (ins : List Arg) (p : List Stp) (js : List Nat) : Ex → St → Option Outs :=
  kAt E F k pins p (bodyOf (fnAt E f)) (outOf (fnAt E f)) (fun ex σ' => match ex with
    | .exit _ => none
    | _ => (outMem E (E.sig f) (fnAt E f) ins σ').run σ'.mem ⟨[], []⟩ fun o _ _ => some o) js
def chk {R : Type} (c : Bool) (x : Option R) : Option R := bif c then x else none
def bindO {R : Type} (o : Option Outs) (k : Outs → Option R) : Option R := match o with | none => none | some out => k out
def Outs.t (o : Outs) (j : Nat) : T := o.res.getD j (.i 0)
def Outs.vt (o : Outs) (i j : Nat) : T := ((o.vars.drop i).headD []).getD j (.i 0)
def at_ (es : List (List T)) (i j : Nat) : T := (es.getD i []).getD j (.i 0)
def put_ (es : List (List T)) (i j : Nat) (ts : List T) : List (List T) := es.set i (spliceT (es.getD i []) j ts)
end Go.Proofs.Ytjgmiilapnekfaa.Ev
