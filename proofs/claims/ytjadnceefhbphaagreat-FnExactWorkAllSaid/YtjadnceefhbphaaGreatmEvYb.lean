/- Tables of functions; loops whose rounds are given by one equation; words of the printed equations. No condition. -/
import Derived.Test.YtjadnceefhbphaaGreatmEvX
import Derived.KernelRfl
namespace Go.Proofs.YtjadnceefhbphaaGreat.Ev
open Go
set_option linter.unusedVariables false
inductive Tr (α:Type) where
 | nil
 | node (l:Tr α) (k:Nat) (v:α) (r:Tr α)
def Tr.get {α:Type}:Tr α→Nat→Option α
 | .nil,_=>none
 | .node l k v r,n=>bif Nat.beq n k then some v else bif Nat.blt n k then l.get n else r.get n
def i7j (P:Program):Tr Func→Prop
 | .nil=>True
 | .node l k b r=>(P.funcs[k]?=some b∧b.body.isNone=false∧(b.name == "runtime.NumGoroutine")=false)∧i7j P l∧i7j P r
def i8z (P:Program):Tr Func→Prop
 | .nil=>True
 | .node l k b r=>P.funcs[k]?=some b∧i8z P l∧i8z P r
def okT:Tr Func→Bool
 | .nil=>true
 | .node l k b r=>(!b.body.isNone&&!(b.name == "runtime.NumGoroutine"))&&(okT l&&okT r)
theorem g6h {P:Program}:∀ {t:Tr Func},i8z P t→okT t=true→i7j P t
 | .nil,_,_=>trivial
 | .node l k b r,h,h2=>by
  obtain ⟨h3,h4⟩:=a0d h2;obtain ⟨h5,h6⟩:=a0d h3;obtain ⟨h7,h8⟩:=a0d h4;exact ⟨⟨h.1,by simpa using h5,by simpa using h6⟩,g6h h.2.1 h7,g6h h.2.2 h8⟩
theorem g6i {P:Program}:∀ {t:Tr Func},i7j P t→∀ f fn,t.get f=some fn→P.funcs[f]?=some fn∧fn.body.isNone=false∧(fn.name == "runtime.NumGoroutine")=false
 | .node l k v r,h,f,fn,hf=>by
  unfold Tr.get at hf;cases hb:Nat.beq f k with
  | true=>rw [hb] at hf;cases hf;rw [Nat.eq_of_beq_eq_true hb];exact h.1
  | false=>
   rw [hb] at hf;cases hc:Nat.blt f k with
   | true=>rw [hc] at hf;exact g6i h.2.1 f fn hf
   | false=>rw [hc] at hf;exact g6i h.2.2 f fn hf
def j0d (t:Tr Sig) (n:Nat):Sig:=match t.get n with | some s=>s | none=>⟨[],[],[],false⟩
def a1k {V R:Type} (b:(V→Option R)→V→Option R):Nat→V→Option R
 | 0,_=>none
 | j+1,v=>b (a1k b j) v
theorem a1v {V R:Type} {E:Env} {B:St→(Ex→St→Option R)→Option R} {pins keep:List Nat} {K:Ex→St→Option R} (S:V→St) (b:(V→Option R)→V→Option R)
  (h:∀ j v,h8p E B pins keep K (j+1) (S v)=b (fun v=>h8p E B pins keep K j (S v)) v) (j:Nat):∀ v,h8p E B pins keep K j (S v)=a1k b j v:=by
 induction j with
 | zero=>intro v;rfl
 | succ j ih=>
  intro v;rw [h,a1k];exact congrArg (fun G=>b G v) (funext ih)
inductive Stp where | sl | sr | ct | ce | bl | lp
def e4c:List Stp→Code→Code
 | .sl :: p,.seq a _=>e4c p a
 | .sr :: p,.seq _ b=>e4c p b
 | .ct :: p,.cond _ a _=>e4c p a
 | .ce :: p,.cond _ _ b=>e4c p b
 | .bl :: p,.block _ a=>e4c p a
 | .lp :: p,.loop a=>e4c p a
 | _,c=>c
def g6j:List Stp→Code→List Nat→List Nat
 | .sl :: p,.seq a b,out=>g6j p a (f5b b++out)
 | .sr :: p,.seq _ b,out=>g6j p b out
 | .ct :: p,.cond _ a _,out=>g6j p a out
 | .ce :: p,.cond _ _ b,out=>g6j p b out
 | .bl :: p,.block _ a,out=>g6j p a out
 | .lp :: p,.loop a,out=>g6j p a ((a8n a []).1++out)
 | _,_,out=>out
def kAt {R:Type} (E:Env) (F:Call) (I:Inl R) (k:Nat) (pins:List Nat):List Stp→Code→List Nat→(Ex→St→Option R)→List Nat→Ex→St→Option R
 | .sl :: p,.seq a b,out,K,js=>kAt E F I k pins p a (f5b b++out) (fun ex σ'=>match ex with | .normal=>a5d E F I k pins b out σ' K | e=>K e σ') js
 | .sr :: p,.seq _ b,out,K,js=>kAt E F I k pins p b out K js
 | .ct :: p,.cond _ a _,out,K,js=>kAt E F I k pins p a out K js
 | .ce :: p,.cond _ _ b,out,K,js=>kAt E F I k pins p b out K js
 | .bl :: p,.block id a,out,K,js=>kAt E F I k pins p a out (fun ex σ'=>match ex with | .exit i=>bif Nat.beq i id then K .normal σ' else K (.exit i) σ' | e=>K e σ') js
 | .lp :: p,.loop a,out,K,j :: js=>kAt E F I k pins p a ((a8n a []).1++out) (fun ex σ'=>match ex with | .normal=>(match g1e E pins (g1b (f5c ((a8n a []).1++out))) σ' with | some σ''=>h8p E (fun σ K'=>a5d E F I k pins a ((a8n a []).1++out) σ K') pins (g1b (f5c ((a8n a []).1++out))) K j σ'' | none=>none) | e=>K e σ') js
 | _,_,_,K,_=>K
def i2o (E:Env) (f:FuncId):Func:=match E.fn f with | some fn=>fn | none=>default
def h5i (fn:Func):Code:=match fn.body with | some c=>c | none=>.skip
def i7k (fn:Func):List Nat:=fn.results.toList.map fun | .tmp t=>t | .cell p _=>p
def LB (E:Env) (F:Call) (k:Nat) (pins:List Nat) (f:FuncId) (p:List Stp):St→(Ex→St→Option Outs)→Option Outs:=
 match e4c p (h5i (i2o E f)) with
 | .loop a=>fun σ K'=>a5d E F (h3p E F k (f4t (E.sig f) (i2o E f)).length) k pins a ((a8n a []).1++g6j p (h5i (i2o E f)) (i7k (i2o E f))) σ K'
 | _=>fun _ _=>none
def LK (E:Env) (F:Call) (k:Nat) (pins:List Nat) (f:FuncId) (ins:List Arg) (p:List Stp) (js:List Nat):Ex→St→Option Outs:=
 kAt E F (h3p E F k (f4t (E.sig f) (i2o E f)).length) k pins p (h5i (i2o E f)) (i7k (i2o E f)) (fun ex σ'=>match ex with
  | .exit _=>none
  | _=>(g7y E (E.sig f) (i2o E f) ins σ').run σ'.mem ⟨[],[]⟩ fun o _ _=>some o) js
def chk {R:Type} (c:Bool) (x:Option R):Option R:=bif c then x else none
def a0f {R:Type} (o:Option Outs) (k:Outs→Option R):Option R:=match o with | none=>none | some out=>k out
def Outs.t (o:Outs) (j:Nat):T:=o.res.getD j (.i 0)
def Outs.vt (o:Outs) (i j:Nat):T:=((o.vars.drop i).headD []).getD j (.i 0)
def at_ (es:List (List T)) (i j:Nat):T:=(es.getD i []).getD j (.i 0)
def a0x (es:List (List T)) (i j:Nat) (ts:List T):List (List T):=es.set i (a1g (es.getD i []) j ts)
end Go.Proofs.YtjadnceefhbphaaGreat.Ev
