/- Tables of functions; loops whose rounds are given by one equation; words of the printed equations. No condition. -/
import Derived.Test.YtdbopobkdpmpgaamEvX
import Derived.KernelRfl
namespace Go.Proofs.Ytdbopobkdpmpgaa.Ev
open Go
set_option linter.unusedVariables false
inductive Tr (α:Type) where
 | nil
 | node (l:Tr α) (k:Nat) (v:α) (r:Tr α)
def Tr.get {α:Type}:Tr α→Nat→Option α
 | .nil,_=>none
 | .node l k v r,n=>bif Nat.beq n k then some v else bif Nat.blt n k then l.get n else r.get n
def f7z (P:Program):Tr Func→Prop
 | .nil=>True
 | .node l k b r=>(P.funcs[k]?=some b∧b.body.isNone=false∧(b.name == "runtime.NumGoroutine")=false)∧f7z P l∧f7z P r
def f9j (P:Program):Tr Func→Prop
 | .nil=>True
 | .node l k b r=>P.funcs[k]?=some b∧f9j P l∧f9j P r
def okT:Tr Func→Bool
 | .nil=>true
 | .node l k b r=>(!b.body.isNone&&!(b.name == "runtime.NumGoroutine"))&&(okT l&&okT r)
theorem e1j {P:Program}:∀ {t:Tr Func},f9j P t→okT t=true→f7z P t
 | .nil,_,_=>trivial
 | .node l k b r,h,h2=>by
  obtain ⟨h3,h4⟩:=a0a h2;obtain ⟨h5,h6⟩:=a0a h3;obtain ⟨h7,h8⟩:=a0a h4;exact ⟨⟨h.1,by simpa using h5,by simpa using h6⟩,e1j h.2.1 h7,e1j h.2.2 h8⟩
theorem e1k {P:Program}:∀ {t:Tr Func},f7z P t→∀ f fn,t.get f=some fn→P.funcs[f]?=some fn∧fn.body.isNone=false∧(fn.name == "runtime.NumGoroutine")=false
 | .node l k v r,h,f,fn,hf=>by
  unfold Tr.get at hf;cases hb:Nat.beq f k with
  | true=>rw [hb] at hf;cases hf;rw [Nat.eq_of_beq_eq_true hb];exact h.1
  | false=>
   rw [hb] at hf;cases hc:Nat.blt f k with
   | true=>rw [hc] at hf;exact e1k h.2.1 f fn hf
   | false=>rw [hc] at hf;exact e1k h.2.2 f fn hf
def g0g (t:Tr Sig) (n:Nat):Sig:=match t.get n with | some s=>s | none=>⟨[],[],[],false⟩
def a2z {V R:Type} (b:(V→Option R)→V→Option R):Nat→V→Option R
 | 0,_=>none
 | j+1,v=>b (a2z b j) v
theorem a2d {V R:Type} {E:Env} {B:St→(Ex→St→Option R)→Option R} {pins keep:List Nat} {K:Ex→St→Option R} (S:V→St) (b:(V→Option R)→V→Option R)
  (h:∀ j v,f1f E B pins keep K (j+1) (S v)=b (fun v=>f1f E B pins keep K j (S v)) v) (j:Nat):∀ v,f1f E B pins keep K j (S v)=a2z b j v:=by
 induction j with
 | zero=>intro v;rfl
 | succ j ih=>
  intro v;rw [h,a2z];exact congrArg (fun G=>b G v) (funext ih)
inductive Stp where | sl | sr | ct | ce | bl | lp
def c7z:List Stp→Code→Code
 | .sl :: p,.seq a _=>c7z p a
 | .sr :: p,.seq _ b=>c7z p b
 | .ct :: p,.cond _ a _=>c7z p a
 | .ce :: p,.cond _ _ b=>c7z p b
 | .bl :: p,.block _ a=>c7z p a
 | .lp :: p,.loop a=>c7z p a
 | _,c=>c
def e1l:List Stp→Code→List Nat→List Nat
 | .sl :: p,.seq a b,out=>e1l p a (d3h b++out)
 | .sr :: p,.seq _ b,out=>e1l p b out
 | .ct :: p,.cond _ a _,out=>e1l p a out
 | .ce :: p,.cond _ _ b,out=>e1l p b out
 | .bl :: p,.block _ a,out=>e1l p a out
 | .lp :: p,.loop a,out=>e1l p a ((a6i a []).1++out)
 | _,_,out=>out
def kAt {R:Type} (E:Env) (F:Call) (I:Inl R) (k:Nat) (pins:List Nat):List Stp→Code→List Nat→(Ex→St→Option R)→List Nat→Ex→St→Option R
 | .sl :: p,.seq a b,out,K,js=>kAt E F I k pins p a (d3h b++out) (fun ex σ'=>match ex with | .normal=>a3u E F I k pins b out σ' K | e=>K e σ') js
 | .sr :: p,.seq _ b,out,K,js=>kAt E F I k pins p b out K js
 | .ct :: p,.cond _ a _,out,K,js=>kAt E F I k pins p a out K js
 | .ce :: p,.cond _ _ b,out,K,js=>kAt E F I k pins p b out K js
 | .bl :: p,.block id a,out,K,js=>kAt E F I k pins p a out (fun ex σ'=>match ex with | .exit i=>bif Nat.beq i id then K .normal σ' else K (.exit i) σ' | e=>K e σ') js
 | .lp :: p,.loop a,out,K,j :: js=>kAt E F I k pins p a ((a6i a []).1++out) (fun ex σ'=>match ex with | .normal=>(match d7j E pins (d7g (d3i ((a6i a []).1++out))) σ' with | some σ''=>f1f E (fun σ K'=>a3u E F I k pins a ((a6i a []).1++out) σ K') pins (d7g (d3i ((a6i a []).1++out))) K j σ'' | none=>none) | e=>K e σ') js
 | _,_,_,K,_=>K
def f4i (E:Env) (f:FuncId):Func:=match E.fn f with | some fn=>fn | none=>default
def e8t (fn:Func):Code:=match fn.body with | some c=>c | none=>.skip
def f8a (fn:Func):List Nat:=fn.results.toList.map fun | .tmp t=>t | .cell p _=>p
def LB (E:Env) (F:Call) (k:Nat) (pins:List Nat) (f:FuncId) (p:List Stp):St→(Ex→St→Option Outs)→Option Outs:=
 match c7z p (e8t (f4i E f)) with
 | .loop a=>fun σ K'=>a3u E F (e7b E F k (d2z (E.sig f) (f4i E f)).length) k pins a ((a6i a []).1++e1l p (e8t (f4i E f)) (f8a (f4i E f))) σ K'
 | _=>fun _ _=>none
def LK (E:Env) (F:Call) (k:Nat) (pins:List Nat) (f:FuncId) (ins:List Arg) (p:List Stp) (js:List Nat):Ex→St→Option Outs:=
 kAt E F (e7b E F k (d2z (E.sig f) (f4i E f)).length) k pins p (e8t (f4i E f)) (f8a (f4i E f)) (fun ex σ'=>match ex with
  | .exit _=>none
  | _=>(e2f E (E.sig f) (f4i E f) ins σ').run σ'.mem ⟨[],[]⟩ fun o _ _=>some o) js
def chk {R:Type} (c:Bool) (x:Option R):Option R:=bif c then x else none
def a0i {R:Type} (o:Option Outs) (k:Outs→Option R):Option R:=match o with | none=>none | some out=>k out
def Outs.t (o:Outs) (j:Nat):T:=o.res.getD j (.i 0)
def Outs.vt (o:Outs) (i j:Nat):T:=((o.vars.drop i).headD []).getD j (.i 0)
def at_ (es:List (List T)) (i j:Nat):T:=(es.getD i []).getD j (.i 0)
def a4f (es:List (List T)) (i j:Nat) (ts:List T):List (List T):=es.set i (a1q (es.getD i []) j ts)
end Go.Proofs.Ytdbopobkdpmpgaa.Ev
