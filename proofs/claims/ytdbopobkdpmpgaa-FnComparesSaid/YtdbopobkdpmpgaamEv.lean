/- An evaluator of the model's code on trees and on objects that a call owns: what it answers the machine's call answers (shown in the texts behind this one). No condition. -/
import Derived.Calls
import Derived.Orders
import Derived.Maps.AppendAt
import Derived.Laws.OwnMore
import GoSem.Dispatch
namespace Go.Proofs.Ytdbopobkdpmpgaa.Ev
open Go
set_option linter.unusedVariables false
inductive Ty where
 | int (k:IntKind) | bool | str | row (e:Nat) | ptr (e:Nat)
 | deep (e:Nat)
inductive T where
 | i (n:Int) | b (x:Bool) | s (x:ByteArray) | r (es:List (List T))
instance:Inhabited T:=⟨.i 0⟩
def T.asI:T→Int | .i n=>n | _=>0
def T.asB:T→Bool | .b x=>x | _=>false
def T.asS:T→ByteArray | .s x=>x | _=>ByteArray.empty
def T.asR:T→List (List T) | .r es=>es | _=>[]
abbrev Nm:=Nat×Nat
inductive A where
 | i (k:IntKind) (n:Int) | b (x:Bool) | s (x:ByteArray)
 | sl (e:Nat) (es:List (List T))
 | nil (e:Nat)
 | ref (n:Nm)
 | cut (n:Nm) (e f l:Nat)
 | agg (cs:List A) | tup (vs:List A)
 | ptr (n:Nm) (o:Nat)
 | ep (n:Nm) (e i o:Nat)
 | vp (tys:List Ty) (cs:List T) (o:Nat)
 | nilp | skip | undef
 | clo (f:FuncId) (n:Option Nm)
inductive O where
 | var (cs:List A)
 | row (e:Nat) (own:Bool) (es:List (List T))
 | deep (e:Nat) (es:List (List T)) (h:Option (Nat×Nat×Nm))
 | dead
 | save (as:List A)
abbrev Mem:=Nm→Option O
structure St where
 sl:Nat→A
 mem:Mem
inductive Kn where
 | int (k:IntKind) | bool | str | slice (e:Nat) | struct (offs:List (Nat×Nat)) | ptr (e:Nat) | fptr (e:Nat) | other
structure TI where
 kn:Kn
 flat:List Ty
 bytes:Nat
structure Sig where
 ins:List (List Bool)
 res:List Bool
 free:List Nat
 deep:Bool:=false
structure Env where
 tys:List TI
 fn:FuncId→Option Func
 sig:FuncId→Sig
 gl:List (Nat×(Option Obj→Prop)):=[]
 del:List (Nat×Nat):=[]
 inl:List Nat:=[]
 frz:List (List Nat):=[]
def Env.ti (E:Env) (t:Nat):TI:=bif Nat.ble 1000000 t then ⟨.fptr (t - 1000000),[],0⟩ else E.tys.getD t ⟨.other,[],0⟩
def Env.flat (E:Env) (t:Nat):List Ty:=(E.ti t).flat
def Env.sz (E:Env) (t:Nat):Nat:=(E.flat t).length
def Env.known (E:Env) (t:Nat):Bool:=Nat.ble 1 (E.sz t)
def Env.isAgg (E:Env) (t:Nat):Bool:=match (E.ti t).kn with | .struct _=>true | _=>false
def Env.elem (E:Env) (t:Nat):Nat:=match (E.ti t).kn with | .slice e=>e | .ptr e=>e | .fptr e=>e | _=>0
def Ty.flatB:Ty→Bool | .row _ | .deep _=>false | _=>true
def Env.pel (E:Env) (t:Nat):Option Nat:=match (E.ti t).kn with | .ptr e=>some e | .fptr e=>some e | _=>none
def dT:List Bool→List Ty→List Ty
 | d :: ds,.row e :: tys=>(bif d then .deep e else .row e) :: dT ds tys
 | _ :: ds,ty :: tys=>ty :: dT ds tys
 | _,tys=>tys
def fl (ws:List Bool) (tys:List Ty):List Ty:=dT (ws.drop tys.length) tys
def d2z (sg:Sig) (fn:Func):List Nat:=fn.params.toList++sg.free.map (·+1000000)
def Env.fe (E:Env) (f:FuncId):Nat:=(E.sig f).free.headD 0
def Env.plain (E:Env) (e:Nat):Bool:=(E.flat e).all Ty.flatB
inductive M (α:Type) where
 | ret (a:α) | fail
 | get (n:Nm) (k:Option O→M α)
 | set (n:Nm) (o:O) (k:M α)
 | chk (c:Bool) (k:M α)
def M.bind {α β:Type}:M α→(α→M β)→M β
 | .ret a,f=>f a
 | .fail,_=>.fail
 | .get n k,f=>.get n fun o=>(k o).bind f
 | .set n o k,f=>.set n o (k.bind f)
 | .chk c k,f=>.chk c (k.bind f)
def a6h (a b:Nm):Bool:=Nat.beq a.1 b.1&&Nat.beq a.2 b.2
def Mem.put (m:Mem) (n:Nm) (o:O):Mem:=fun x=>bif a6h x n then some o else m x
structure FP where
 rd:List Nm
 wr:List Nm
def M.run {α R:Type}:M α→Mem→FP→(α→Mem→FP→Option R)→Option R
 | .ret a,m,p,K=>K a m p
 | .fail,_,_,_=>none
 | .get n k,m,p,K=>(k (m n)).run m ⟨n :: p.rd,p.wr⟩ K
 | .set n o k,m,p,K=>k.run (m.put n o) ⟨p.rd,n :: p.wr⟩ K
 | .chk c k,m,p,K=>bif c then k.run m p K else none
def d6y:List (Nat×Nat)→Nat→Option Nat
 | [],_=>none
 | (g,e) :: r,f=>bif Nat.beq f g then some e else d6y r f
def a6e:Nm:=(999999,0)
def M.g5m:M Bool:=.get a6e fun | some _=>.ret true | none=>.ret false
def M.g5n:M Nat:=.get a6e fun | some (.row k _ _)=>.ret k | _=>.ret 0
def M.lowD (n:Nm):M Unit:=.get n fun | some (.deep e es none)=>.set n (.row e true es) (.ret ()) | _=>.ret ()
def M.g5o (n:Nm):M (Nat×List (List T)):=.get n fun | some (.row e _ es)=>.ret (e,es) | some (.deep e es none)=>.ret (e,es) | _=>.fail
def M.g5p (n:Nm):M (Nat×Nat):=.get n fun | some (.row e _ es)=>.ret (e,es.length) | some (.deep e es _)=>.ret (e,es.length) | _=>.fail
def M.row (n:Nm):M (Nat×Bool×List (List T)):=.get n fun | some (.row e d es)=>.ret (e,d,es) | _=>.fail
def M.var (n:Nm):M (List A):=.get n fun | some (.var cs)=>.ret cs | _=>.fail
def M.new (n:Nm) (o:O):M Unit:=.get n fun | none=>.set n o (.ret ()) | _=>.fail
def ofT:Ty→T→A
 | .int k,t=>.i k t.asI
 | .bool,t=>.b t.asB
 | .str,t=>.s t.asS
 | .row e,t=>.sl e t.asR
 | .ptr _,_=>.undef
 | .deep _,_=>.undef
def d0b:Nat→List Ty→List T→List A
 | _,[],_=>[]
 | j,ty :: tys,cs=>ofT ty (cs.getD j (.i 0)) :: d0b (j+1) tys cs
def d6z:Ty→A
 | .int k=>.i k 0
 | .bool=>.b false
 | .str=>.s ByteArray.empty
 | .row e=>.nil e
 | .ptr _=>.nilp
 | .deep e=>.nil e
def e4i:Ty→T
 | .int _=>.i 0
 | .bool=>.b false
 | .str=>.s ByteArray.empty
 | .row _=>.r []
 | .ptr _=>.i 0
 | .deep _=>.r []
def A.cells:A→List A | .agg cs=>cs | a=>[a]
def A.solid:A→Bool | .agg _ | .tup _ | .skip | .undef | .clo _ _=>false | _=>true
def a0o:List A→Bool
 | []=>true
 | a :: as=>a.solid&&a0o as
def b1x (E:Env) (t:Nat) (cs:List A):A:=bif E.isAgg t then .agg cs else match cs with | [a]=>a | _=>.undef
def f6x (E:Env):Ty→A→M T
 | .int k,.i k' n=>bif decide (k=k') then .ret (.i n) else .fail
 | .bool,.b x=>.ret (.b x)
 | .str,.s x=>.ret (.s x)
 | .row _,.nil _=>.ret (.r [])
 | .row e,.sl e' es=>bif Nat.beq e e' then .ret (.r es) else .fail
 | .row e,.ref n=>(M.lowD n).bind fun _=>(M.row n).bind fun (e',d,es)=>bif Nat.beq e e' then (match d with | true=>.set n (.row e' false es) (.ret (.r es)) | false=>.ret (.r es)) else .fail
 | .row e,.cut n e₁ f l=>(M.row n).bind fun (e',d,es)=>bif Nat.beq e e'&&Nat.beq e₁ e then (match d with | true=>.set n (.row e' false es) (.ret (.r ((es.drop f).take l))) | false=>.ret (.r ((es.drop f).take l))) else .fail
 | _,_=>.fail
def e4j (E:Env):List Ty→List A→M (List T)
 | [],[]=>.ret []
 | ty :: tys,a :: as=>(f6x E ty a).bind fun t=>(e4j E tys as).bind fun ts=>.ret (t :: ts)
 | _,_=>.fail
def e2b (E:Env):Ty→A→M T
 | .int k,.i k' n=>bif decide (k=k') then .ret (.i n) else .fail
 | .bool,.b x=>.ret (.b x)
 | .str,.s x=>.ret (.s x)
 | .row _,.nil _=>.ret (.r [])
 | .row e,.sl e' es=>bif Nat.beq e e' then .ret (.r es) else .fail
 | .row e,.ref n=>(M.g5o n).bind fun (e',es)=>bif Nat.beq e e' then .ret (.r es) else .fail
 | .row e,.cut n e₁ f l=>(M.row n).bind fun (e',_,es)=>bif Nat.beq e e'&&Nat.beq e₁ e then .ret (.r ((es.drop f).take l)) else .fail
 | _,_=>.fail
def b9h (E:Env):Bool→Ty→A→M T
 | true,.row _,.nil _=>.ret (.r [])
 | true,.row e,.ref n=>(M.lowD n).bind fun _=>(M.row n).bind fun (e',d,es)=>bif Nat.beq e e'&&d then .set n .dead (.ret (.r es)) else .fail
 | true,.row e,.cut n e₁ f l=>(M.row n).bind fun (e',d,es)=>bif Nat.beq e e'&&Nat.beq e₁ e&&Nat.beq f 0&&d then .chk (decide (0<es.length)) (.set n .dead (.ret (.r (es.take l)))) else .fail
 | true,.row _,_=>.fail
 | true,.deep _,.nil _=>.ret (.r [])
 | true,.deep e,.ref n=>.get n fun
  | some (.deep e' es none)=>bif Nat.beq e e' then .set n .dead (.ret (.r es)) else .fail
  | _=>.fail
 | true,.deep _,_=>.fail
 | true,.ptr e,.ptr n 0=>(M.var n).bind fun cs=>(e4j E (E.flat e) cs).bind fun c=>(M.var n).bind fun _=>.set n .dead (.ret (.r [c]))
 | _,ty,a=>f6x E ty a
def b5v (E:Env):List Bool→List Ty→List A→M (List T)
 | _,[],[]=>.ret []
 | ws,ty :: tys,a :: as=>(b9h E (ws.headD false) ty a).bind fun t=>(b5v E ws.tail tys as).bind fun ts=>.ret (t :: ts)
 | _,_,_=>.fail
def b9i (E:Env):List Bool→List Ty→List A→M (List T)
 | _,[],[]=>.ret []
 | ws,ty :: tys,a :: as=>(bif ws.headD false then b9h E true ty a else e2b E ty a).bind fun t=>(b9i E ws.tail tys as).bind fun ts=>.ret (t :: ts)
 | _,_,_=>.fail
def c3h:List Bool→List A→List Nm
 | ws,a :: as=>match ws.headD false,a with
  | false,.ref n=>n :: c3h ws.tail as
  | false,.cut n _ _ _=>n :: c3h ws.tail as
  | _,_=>c3h ws.tail as
 | _,[]=>[]
def A.fits (E:Env) (t:Nat):A→Bool
 | .agg cs=>E.isAgg t&&Nat.beq cs.length (E.sz t)
 | .tup _=>false
 | _=>!E.isAgg t&&Nat.beq (E.sz t) 1
def b5w {α:Type}:List α→Nat→List α→List α
 | cs,0,vs=>vs++cs.drop vs.length
 | c :: cs,o+1,vs=>c :: b5w cs o vs
 | [],_+1,_=>[]
def a1q:List T→Nat→List T→List T
 | cs,0,vs=>vs++cs.drop vs.length
 | c :: cs,o+1,vs=>c :: a1q cs o vs
 | [],o+1,vs=>.i 0 :: a1q [] o vs
def d0c (E:Env):List Ty→List Ty
 | .row e :: tys=>(bif E.plain e then .row e else .deep e) :: d0c E tys
 | ty :: tys=>ty :: d0c E tys
 | []=>[]
def b0y (E:Env):List Ty→List A→M Bool
 | .row e :: tys,.ref n :: as=>.get n fun
  | some (.row _ d _)=>(match d with | true=>bif E.plain e then b0y E tys as else .ret false | false=>.ret false)
  | some (.deep _ _ none)=>b0y E tys as
  | _=>.ret false
 | .row _ :: tys,.nil _ :: as=>b0y E tys as
 | .row _ :: _,_ :: _=>.ret false
 | _ :: tys,_ :: as=>b0y E tys as
 | _,_=>.ret true
def d1h (E:Env) (tys:List Ty) (as:List A):M (List T):=b5v E (tys.map fun | .row _=>true | _=>false) (d0c E tys) as
def f0w (es:List (List T)) (i j:Nat) (t:T):List (List T):=es.set i (a1q (es.getD i []) j [t])
def f3p (E:Env) (e j e':Nat):Bool:=match (E.flat e)[j]? with | some (.row x)=>Nat.beq x e' | _=>false
def d1i (E:Env):Nat→Nm→M Unit
 | 0,_=>.ret ()
 | k+1,n=>.get n fun
  | some (.deep _ _ (some (_,_,n₀)))=>(d1i E k n₀).bind fun _=>.get n fun
   | some (.deep e es (some (i,j,n')))=>.get n' fun
    | some (.row e' true es')=>bif f3p E e j e'&&E.plain e' then .set n' .dead (.set n (.deep e (f0w es i j (.r es')) none) (.ret ())) else .ret ()
    | some (.deep e' es' none)=>bif f3p E e j e' then .set n' .dead (.set n (.deep e (f0w es i j (.r es')) none) (.ret ())) else .ret ()
    | _=>.ret ()
   | _=>.ret ()
  | _=>.ret ()
def d7a (E:Env):List Nm→M Unit
 | []=>.ret ()
 | n :: ns=>(d1i E 3 n).bind fun _=>d7a E ns
def A.nms:A→List Nm
 | .ref n=>[n]
 | .cut n _ _ _=>[n]
 | .ep n _ _ _=>[n]
 | _=>[]
def f9u:List A→List Nm
 | []=>[]
 | a :: as=>a.nms++f9u as
def A.tops:A→List Nm
 | .agg cs=>f9u cs
 | .ptr n _=>[n]
 | .clo _ (some n)=>[n]
 | a=>a.nms
def d3a (n:Nm):M (List Nm):=.get n fun | some (.var cs)=>.ret (f9u cs) | _=>.ret [n]
def d3b (E:Env):List Nm→M Unit
 | []=>.ret ()
 | n :: ns=>(d3a n).bind fun l=>(d7a E l).bind fun _=>d3b E ns
def a1y (E:Env) (σ:St) (t:Nat):Operand→A
 | .tmp i=>σ.sl i
 | .const (.int k n)=>.i k n
 | .const (.bool x)=>.b x
 | .const (.string x)=>.s x
 | .const (.slice none 0 0)=>.nil (E.elem t)
 | .const (.pointer none)=>.nilp
 | .func f=>.clo f none
 | _=>.undef
def c6g (E:Env) (t:Nat):A→M A
 | .ptr n o=>(M.var n).bind fun cs=>bif E.known t&&Nat.ble (o+E.sz t) cs.length then .ret (b1x E t ((cs.drop o).take (E.sz t))) else .fail
 | .ep n e i o=>(M.row n).bind fun (e',_,es)=>bif Nat.beq e e'&&E.known t&&Nat.ble (o+E.sz t) (E.sz e) then .ret (b1x E t (d0b o (((E.flat e).drop o).take (E.sz t)) (es.getD i []))) else .fail
 | .vp tys cs o=>bif E.known t&&Nat.ble (o+E.sz t) tys.length then .ret (b1x E t (d0b o ((tys.drop o).take (E.sz t)) cs)) else .fail
 | _=>.fail
def c3i (E:Env) (t:Nat) (v:A):A→M A
 | .ptr n o=>(M.var n).bind fun cs=>bif E.known t&&Nat.ble (o+E.sz t) cs.length&&Nat.beq v.cells.length (E.sz t)&&a0o v.cells then .set n (.var (b5w cs o v.cells)) (.ret .skip) else .fail
 | .ep n e i o=>(e4j E (((E.flat e).drop o).take (E.sz t)) v.cells).bind fun ts=>(M.row n).bind fun (e',d,es)=>bif Nat.beq e e'&&d&&E.known t&&Nat.ble (o+E.sz t) (E.sz e)&&a0o v.cells then .set n (.row e d (es.set i (a1q (es.getD i []) o ts))) (.ret .skip) else .fail
 | _=>.fail
def e4k (E:Env) (dst t:Nat) (n:Nm) (e i o:Nat) (es:List (List T)):M A:=
 bif E.known t&&Nat.ble (o+E.sz t) (E.sz e) then
  bif (((E.flat e).drop o).take (E.sz t)).all Ty.flatB then .ret (b1x E t (d0b o (((E.flat e).drop o).take (E.sz t)) (es.getD i [])))
  else match E.isAgg t,(E.flat e)[o]? with
   | false,some (.row e')=>(M.new (dst,0) (bif E.plain e' then .row e' true ((es.getD i []).getD o (.i 0)).asR else .deep e' ((es.getD i []).getD o (.i 0)).asR none)).bind fun _=>.set n (.deep e es (some (i,o,(dst,0)))) (.ret (.ref (dst,0)))
   | _,_=>.fail
 else .fail
def a8o (E:Env) (s nm:Nat):Nat→List Bool→List Ty→List T→M (List A)
 | _,_,[],_=>.ret []
 | j,ws,ty :: tys,cs=>(match ws.headD false,ty with
  | true,.row e=>(M.new (s,nm+j+1) (.row e true ((cs.getD j (.i 0)).asR))).bind fun _=>.ret (.ref (s,nm+j+1))
  | true,.deep e=>(M.new (s,nm+j+1) (.deep e ((cs.getD j (.i 0)).asR) none)).bind fun _=>.ret (.ref (s,nm+j+1))
  | true,.ptr e=>(M.new (s,nm+j+1) (.var (d0b 0 (E.flat e) ((cs.getD j (.i 0)).asR.headD [])))).bind fun _=>.ret (.ptr (s,nm+j+1) 0)
  | _,ty=>.ret (ofT ty (cs.getD j (.i 0))):M A).bind fun a=>(a8o E s nm (j+1) ws.tail tys cs).bind fun r=>.ret (a :: r)
def f4v (tys:List Ty):List Bool:=tys.map fun | .row _=>true | _=>false
def c1w (es:List (List T)) (i:Nat):Nat→Nat→List T
 | _,0=>[]
 | o,n+1=>(es.getD i []).getD o (.i 0) :: c1w es i (o+1) n
def e6g (E:Env) (dst t:Nat) (n:Nm) (e i o:Nat) (es:List (List T)):M A:=
 bif E.known t&&E.isAgg t&&Nat.ble (o+E.sz t) (E.sz e) then
  .set n (.deep e es (some (i,E.sz e,a6e))) ((a8o E dst 0 0 (f4v (((E.flat e).drop o).take (E.sz t))) (d0c E (((E.flat e).drop o).take (E.sz t))) (c1w es i o (E.sz t))).bind fun as=>bif Nat.beq o 0&&Nat.beq (E.sz t) (E.sz e) then .set n (.deep e es (some (i,E.sz e,(dst,0)))) (.ret (.agg as)) else .ret (.agg as))
 else .fail
def b9j:Nat→List Ty→Option (Nat×Nat)
 | _,[]=>none
 | j,.row e :: r=>bif r.all Ty.flatB then some (j,e) else none
 | j,ty :: r=>bif ty.flatB then b9j (j+1) r else none
def e6h (E:Env) (dst t:Nat) (n:Nm) (e i o:Nat) (es:List (List T)) (j e':Nat):M A:=
 bif E.known t&&E.isAgg t&&Nat.ble (o+E.sz t) (E.sz e) then
  (M.new (dst,j+1) (bif E.plain e' then .row e' true ((es.getD i []).getD (o+j) (.i 0)).asR else .deep e' ((es.getD i []).getD (o+j) (.i 0)).asR none)).bind fun _=>
   .set n (.deep e es (some (i,o+j,(dst,j+1)))) (.ret (.agg ((d0b o (((E.flat e).drop o).take (E.sz t)) (es.getD i [])).set j (.ref (dst,j+1)))))
 else .fail
def f3q (E:Env) (t e o:Nat):Bool:=!E.isAgg t&&(match (E.flat e)[o]? with | some (.row _)=>true | _=>false)
def f4w (E:Env) (dst t:Nat):A→M A
 | .ep n e i o=>.get n fun
  | some (.deep e' es none)=>M.g5m.bind fun md=>bif Nat.beq e e'&&((((E.flat e).drop o).take (E.sz t)).all Ty.flatB || (md&&f3q E t e o)) then e4k E dst t n e i o es else bif Nat.beq e e'&&md&&E.isAgg t then (match b9j 0 (((E.flat e).drop o).take (E.sz t)) with | some (j,e₁)=>e6h E dst t n e i o es j e₁ | none=>e6g E dst t n e i o es) else (M.lowD n).bind fun _=>c6g E t (.ep n e i o)
  | some (.deep e' es (some (i',j',nm)))=>bif Nat.beq e e'&&(((E.flat e).drop o).take (E.sz t)).all Ty.flatB&&Nat.blt j' (E.sz e)&&!((E.flat e).getD j' .bool).flatB then e4k E dst t n e i o es
   else (match b9j 0 (((E.flat e).drop o).take (E.sz t)) with
    | some (j,_)=>bif Nat.beq e e'&&E.isAgg t&&E.known t&&Nat.ble (o+E.sz t) (E.sz e)&&Nat.beq (o+j) j' then .chk (Nat.beq i i') (.ret (.agg ((d0b o (((E.flat e).drop o).take (E.sz t)) (es.getD i [])).set j (.ref nm)))) else c6g E t (.ep n e i o)
    | none=>c6g E t (.ep n e i o))
  | _=>c6g E t (.ep n e i o)
 | a=>c6g E t a
def d7b (E:Env) (t:Nat) (v:A) (n:Nm) (e i o:Nat):M A:=
 bif E.known t&&Nat.ble (o+E.sz t) (E.sz e)&&Nat.beq v.cells.length (E.sz t)&&a0o v.cells then
  (d1h E (((E.flat e).drop o).take (E.sz t)) v.cells).bind fun ts=>.get n fun
   | some (.deep e' es none)=>bif Nat.beq e e' then .set n (.deep e (es.set i (a1q (es.getD i []) o ts)) none) (.ret .skip) else .fail
   | some (.deep e' es (some (i',j',_)))=>bif Nat.beq e e'&&(Nat.beq j' o&&Nat.beq (E.sz t) 1 || Nat.ble (E.sz e) j'&&Nat.beq (E.sz t) (E.sz e)) then .chk (Nat.beq i' i) (.set n (.deep e (es.set i (a1q (es.getD i []) o ts)) none) (.ret .skip)) else .fail
   | _=>.fail
 else .fail
def b7v (E:Env):List Ty→List A→List T→M Unit
 | .row e :: tys,.ref n :: as,t :: ts=>.get n fun | some .dead=>.set n (.row e false t.asR) (b7v E tys as ts) | _=>b7v E tys as ts
 | _ :: tys,_ :: as,_ :: ts=>b7v E tys as ts
 | _,_,_=>.ret ()
def e2c (E:Env) (t:Nat) (v:A) (n:Nm) (e i o:Nat):M A:=
 bif E.known t&&Nat.ble (o+E.sz t) (E.sz e)&&Nat.beq v.cells.length (E.sz t)&&a0o v.cells&&Nat.beq (E.sz t) (E.sz e) then
  (d1h E (((E.flat e).drop o).take (E.sz t)) v.cells).bind fun ts=>.get n fun
   | some (.deep e' es (some (i',_,_)))=>bif Nat.beq e e' then .chk (Nat.beq i' i) (.set n (.row e true (es.set i (a1q (es.getD i []) o ts))) ((b7v E (((E.flat e).drop o).take (E.sz t)) v.cells ts).bind fun _=>.ret .skip)) else .fail
   | _=>.fail
 else .fail
def d7c (n:Nm):List A→Bool
 | []=>false
 | .ref x :: as=>Nat.beq x.1 n.1 || d7c n as
 | _ :: as=>d7c n as
def e6i (E:Env) (t:Nat) (v:A):A→M A
 | .ep n e i o=>.get n fun
  | some (.deep _ _ (some (_,j',n')))=>(b0y E (((E.flat e).drop o).take (E.sz t)) v.cells).bind fun b=>bif b then (bif Nat.ble (E.sz e) j'&&d7c n' v.cells then e2c E t v n e i o else d7b E t v n e i o) else (M.lowD n).bind fun _=>c3i E t v (.ep n e i o)
  | some (.deep _ _ none)=>(b0y E (((E.flat e).drop o).take (E.sz t)) v.cells).bind fun b=>bif b then d7b E t v n e i o else (M.lowD n).bind fun _=>c3i E t v (.ep n e i o)
  | _=>c3i E t v (.ep n e i o)
 | a=>c3i E t v a
def b9k (E:Env) (t j:Nat):Option (Nat×Nat):=match (E.ti t).kn with | .struct fs=>fs[j]? | _=>none
def c1x (E:Env) (t j:Nat) (p:A):M A:=
 match b9k E t j,p with
 | some (o',_),.ptr n o=>.ret (.ptr n (o+o'))
 | some (o',_),.ep n e i o=>.ret (.ep n e i (o+o'))
 | some (o',_),.vp tys cs o=>.ret (.vp tys cs (o+o'))
 | _,_=>.fail
def e6j (E:Env) (t j:Nat) (v:A):M A:=
 match b9k E t j,v with
 | some (o',ft),.agg cs=>bif E.known ft&&Nat.ble (o'+E.sz ft) cs.length then .ret (b1x E ft ((cs.drop o').take (E.sz ft))) else .fail
 | _,_=>.fail
def Ty.notPtr:Ty→Bool | .ptr _ | .deep _=>false | _=>true
def b5u (E:Env) (t e:Nat):Bool:=(E.flat e).all Ty.notPtr&&Nat.beq (E.elem t) e&&(match (E.ti t).kn with | .slice _=>true | _=>false)&&Nat.ble 1 (E.sz e)&&Nat.ble 1 (E.ti e).bytes
def c1y (E:Env) (t:Nat) (x i:A):M A:=
 match x,i with
 | .ref n,.i _ j=>(M.g5p n).bind fun (e,l)=>bif b5u E t e then .chk (decide (0≤j)&&decide (j<(l:Int))) (.ret (.ep n e j.toNat 0)) else .fail
 | .cut n e f l,.i _ j=>bif b5u E t e then .chk (decide (0≤j)&&decide (j<(l:Int))) (.ret (.ep n e (f+j.toNat) 0)) else .fail
 | .sl e es,.i _ j=>bif b5u E t e then .chk (decide (0≤j)&&decide (j<(es.length:Int))) (.ret (.vp (E.flat e) (es.getD j.toNat []) 0)) else .fail
 | _,_=>.fail
def f9v:A→M A
 | .nil _=>.ret (.i .i64 0)
 | .sl _ es=>.ret (.i .i64 (es.length:Int))
 | .ref n=>(M.g5p n).bind fun (_,l)=>.ret (.i .i64 (l:Int))
 | .cut _ _ _ l=>.ret (.i .i64 (l:Int))
 | _=>.fail
def c1z (k:IntKind) (a b:Int):Int:=k.wrap (BitVec.ofInt k.bits a ^^^ BitVec.ofInt k.bits b).toNat
def e6k (k:IntKind) (a b:Int):Int:=k.wrap (BitVec.ofInt k.bits a&&& BitVec.ofInt k.bits b).toNat
def f3r (k:IntKind) (a b:Int):Int:=k.wrap (BitVec.ofInt k.bits a ||| BitVec.ofInt k.bits b).toNat
def f9w (op:BinOp) (x y:A):M A:=
 match x,y with
 | .i k a,.i k' b=>
  match op with
  | .shl=>.chk (decide (0≤b)) (.ret (.i k (k.wrap (a*2 ^ (min b.toNat k.bits)))))
  | .shr=>.chk (decide (0≤b)) (.ret (.i k (a.fdiv (2 ^ (min b.toNat k.bits)))))
  | _=>bif decide (k=k') then
   match op with
   | .add=>.ret (.i k (k.wrap (a+b)))
   | .sub=>.ret (.i k (k.wrap (a - b)))
   | .mul=>.ret (.i k (k.wrap (a*b)))
   | .quo=>.chk (!decide (b=0)) (.ret (.i k (k.wrap (a.tdiv b))))
   | .rem=>.chk (!decide (b=0)) (.ret (.i k (a.tmod b)))
   | .eql=>.ret (.b (a == b))
   | .neq=>.ret (.b (a != b))
   | .lss=>.ret (.b (decide (a<b)))
   | .leq=>.ret (.b (decide (a≤b)))
   | .gtr=>.ret (.b (decide (a > b)))
   | .geq=>.ret (.b (decide (a≥b)))
   | .xor=>.ret (.i k (c1z k a b))
   | .and=>.ret (.i k (e6k k a b))
   | .or=>.ret (.i k (f3r k a b))
   | _=>.fail
  else .fail
 | .s a,.s b=>match op with
  | .add=>.chk (Nat.ble (a.size+b.size) 9223372036854775807) (.ret (.s (a++b)))
  | .eql=>.ret (.b (a.toList == b.toList))
  | .neq=>.ret (.b (!(a.toList == b.toList)))
  | _=>.fail
 | _,_=>.fail
def f7i:Kn→Bool | .bool=>true | _=>false
def f9x (E:Env) (op:BinOp) (xt:Nat) (x y:A):M A:=
 match x,y with
 | .b a,.b b=>bif f7i (E.ti xt).kn then (match op with | .eql=>.ret (.b (a == b)) | .neq=>.ret (.b (!(a == b))) | _=>.fail) else .fail
 | x,y=>f9w op x y
def unM (op:UnOp) (x:A):M A:=
 match op,x with
 | .not,.b x=>.ret (.b (!x))
 | _,_=>.fail
def f4x (E:Env) (dst:Nat) (x:A):M A:=
 match (E.ti dst).kn,x with
 | .int k,.i _ n=>.ret (.i k (k.wrap n))
 | _,_=>.fail
def e6l:Kn→Bool | .str=>true | _=>false
def e2d (s:ByteArray) (j:Nat):Int:=((s.data.toList.getD j 0).toNat:Int)
def e6m (E:Env) (t:Nat) (x i:A):M A:=
 match x,i with
 | .s s,.i _ j=>bif e6l (E.ti t).kn then .chk (decide (0≤j)&&decide (j<(s.size:Int))) (.ret (.i .u8 (e2d s j.toNat))) else .fail
 | _,_=>.fail
def e6n (es:List (List T)):ByteArray:=⟨(es.map fun c=>UInt8.ofNat (c.getD 0 (.i 0)).asI.toNat).toArray⟩
def u8s:List Ty→Bool | [.int .u8]=>true | _=>false
def u8K:Kn→Bool | .int .u8=>true | _=>false
def b8r (e:Nat):A→M (List (List T))
 | .nil _=>.ret []
 | .sl e' es=>bif Nat.beq e e' then .ret es else .fail
 | .cut n e₁ f l=>(M.row n).bind fun (e',_,es)=>bif Nat.beq e e'&&Nat.beq e e₁ then .ret ((es.drop f).take l) else .fail
 | .ref n=>(M.row n).bind fun (e',_,es)=>bif Nat.beq e e' then .ret es else .fail
 | _=>.fail
def f4y (E:Env) (s t:Nat) (x:A):M A:=
 bif e6l (E.ti t).kn then
  bif b5u E s (E.elem s)&&u8s (E.flat (E.elem s))&&u8K (E.ti (E.elem s)).kn then (b8r (E.elem s) x).bind fun es=>.ret (.s (e6n es)) else .fail
 else f4x E t x
def b8s:Operand→Option Nat | .tmp i=>some i | _=>none
def b8t (E:Env) (dst t:Nat) (x:A) (y:A):M A:=
 bif b5u E t (E.elem t) then
 match x with
 | .nil _=>(b8r (E.elem t) y).bind fun es'=>
  .chk (decide (es'.length*(E.ti (E.elem t)).bytes≤140737488355328)) ((M.new (dst,0) (.row (E.elem t) true es')).bind fun _=>.ret (.ref (dst,0)))
 | .ref n=>(M.row n).bind fun (e,d,es)=>(b8r (E.elem t) y).bind fun es'=>
  bif Nat.beq (E.elem t) e&&d then .chk (decide ((es.length+es'.length)*(E.ti (E.elem t)).bytes≤140737488355328)) (.set n .dead ((M.new (dst,0) (.row (E.elem t) true (es++es'))).bind fun _=>.ret (.ref (dst,0)))) else .fail
 | _=>.fail
 else .fail
def f0x:A→M Unit
 | .ref n=>M.lowD n
 | _=>.ret ()
def d0d (n:Nm):Nat→List Ty→List T→List A
 | _,[],_=>[]
 | j,.row _ :: tys,cs=>.ref (n.1,n.2+j+1) :: d0d n (j+1) tys cs
 | j,ty :: tys,cs=>ofT ty (cs.getD j (.i 0)) :: d0d n (j+1) tys cs
def f9y (E:Env) (n:Nm):M Unit:=.get n fun
 | some (.deep e es (some (i,k,n')))=>bif Nat.ble (E.sz e) k&&!(Nat.beq n'.1 999999) then
   (e4j E (E.flat e) (d0d n' 0 (E.flat e) (es.getD i []))).bind fun ts=>.get n fun
    | some (.deep e2 es2 (some (i2,_,_)))=>bif Nat.beq e e2 then .chk (Nat.beq i i2) (.set n (.row e true (es2.set i (a1q (es2.getD i []) 0 ts))) (.ret ())) else .fail
    | _=>.fail
  else .ret ()
 | _=>.ret ()
def f9f (E:Env):A→M Unit
 | .ref n=>(M.lowD n).bind fun _=>f9y E n
 | _=>.ret ()
def f0y:A→M (Bool×Bool)
 | .nil _=>.ret (true,false)
 | .ref n=>.get n fun | some (.deep _ _ none)=>.ret (true,true) | _=>.ret (false,false)
 | _=>.ret (false,false)
def c6h (E:Env) (dst t:Nat) (x:A) (y:A):M A:=
 bif b5u E t (E.elem t) then
  (b9h E true (.deep (E.elem t)) x).bind fun a=>(b9h E true (.deep (E.elem t)) y).bind fun b=>
   .chk (decide ((a.asR.length+b.asR.length)*(E.ti (E.elem t)).bytes≤140737488355328)) ((M.new (dst,0) (.deep (E.elem t) (a.asR++b.asR) none)).bind fun _=>.ret (.ref (dst,0)))
 else .fail
def f0z:A→M Bool
 | .ref n=>.get n fun | some (.deep _ _ (some (_,_,nm)))=>M.g5n.bind fun k=>.ret (Nat.blt nm.1 k) | _=>.ret false
 | _=>.ret false
def d3c (E:Env) (dst t:Nat) (x:A):A→M A
 | .ref n=>bif b5u E t (E.elem t) then
  (b9h E true (.deep (E.elem t)) x).bind fun a=>.get n fun
   | some (.deep e' es (some (i,j,nm)))=>bif Nat.beq (E.elem t) e'&&Nat.blt j (E.sz e') then .set n .dead
    (.chk (decide ((a.asR.length+es.length)*(E.ti (E.elem t)).bytes≤140737488355328)) ((M.new (dst,0) (.deep (E.elem t) (a.asR++es) (some (a.asR.length+i,j,nm)))).bind fun _=>.ret (.ref (dst,0)))) else .fail
   | _=>.fail
  else .fail
 | _=>.fail
def e0j (E:Env) (dst t:Nat) (x:A) (y:A):M A:=
 bif E.plain (E.elem t) then b8t E dst t x y else
 M.g5m.bind fun md=>(f0y x).bind fun dx=>(f0y y).bind fun dy=>
  (f0z y).bind fun ly=>bif dx.1&&ly then d3c E dst t x y else
  bif dx.1&&dy.1&&(dx.2 || (md&&dy.2)) then c6h E dst t x y else (f0x x).bind fun _=>(f0x y).bind fun _=>b8t E dst t x y
def b0c (E:Env) (e:Nat):List T:=(E.flat e).map e4i
def a2o (es:List (List T)) (f:Nat) (xs:List (List T)):List (List T):=es.take f++(xs++es.drop (f+xs.length))
def f4z (E:Env) (t:Nat) (x y:A):M A:=
 bif b5u E t (E.elem t)&&Nat.beq (E.sz (E.elem t)) 1 then
 match x with
 | .ref n=>(M.row n).bind fun (e,d,es)=>(b8r (E.elem t) y).bind fun ys=>bif Nat.beq (E.elem t) e&&d then .set n (.row e true (a2o es 0 (ys.take es.length))) (.ret (.i .i64 ((ys.take es.length).length:Int))) else .fail
 | .cut n e₁ f l=>(M.row n).bind fun (e,d,es)=>(b8r (E.elem t) y).bind fun ys=>bif Nat.beq (E.elem t) e&&Nat.beq e₁ e&&d then .set n (.row e true (a2o es f (ys.take l))) (.ret (.i .i64 ((ys.take l).length:Int))) else .fail
 | _=>.fail
 else .fail
def e6o (E:Env) (t:Nat) (x:A):M A:=
 bif b5u E t (E.elem t) then
 match x with
 | .ref n=>(M.row n).bind fun (e,d,es)=>bif Nat.beq (E.elem t) e&&d then .set n (.row e true (a2o es 0 (List.replicate es.length (b0c E e)))) (.ret (.tup [])) else .fail
 | .cut n e₁ f l=>(M.row n).bind fun (e,d,es)=>bif Nat.beq (E.elem t) e&&Nat.beq e₁ e&&d then .set n (.row e true (a2o es f (List.replicate l (b0c E e)))) (.ret (.tup [])) else .fail
 | _=>.fail
 else .fail
def f1a (E:Env) (dst t:Nat) (n c:A):M A:=
 match n,c with
 | .i .i64 n,.i .i64 c=>bif b5u E t (E.elem t) then .chk (decide (n=c)&&decide (0≤n)&&decide (n*(E.ti (E.elem t)).bytes≤140737488355328)) ((M.new (dst,0) (.row (E.elem t) true (List.replicate n.toNat (b0c E (E.elem t))))).bind fun _=>.ret (.ref (dst,0))) else .fail
 | _,_=>.fail
def f5a (E:Env) (dst t:Nat) (n c:A):M A:=
 match n,c with
 | .i .i64 n,.i .i64 c=>bif b5u E t (E.elem t) then .chk (decide (n=c)&&decide (0≤n)&&decide (n*(E.ti (E.elem t)).bytes≤140737488355328)) ((M.new (dst,0) (.deep (E.elem t) (List.replicate n.toNat (b0c E (E.elem t))) none)).bind fun _=>.ret (.ref (dst,0))) else .fail
 | _,_=>.fail
def f5b (E:Env) (dst t:Nat) (n c:A):M A:=
 bif E.plain (E.elem t) then f1a E dst t n c else
 M.g5m.bind fun md=>bif md then f5a E dst t n c else f1a E dst t n c
def f5c (E:Env) (σ:St) (t:Nat) (j:Nat):List (Nat×Operand)→Option A
 | []=>none
 | (i,x) :: r=>bif Nat.beq i j then some (a1y E σ t x) else f5c E σ t j r
def f1b (E:Env) (σ:St) (e:Nat):Nat→List (Nat×Operand)→M (List (List T))
 | _,[]=>.ret []
 | j,(i,x) :: r=>bif Nat.beq i j&&a0o (a1y E σ e x).cells then (e4j E (E.flat e) (a1y E σ e x).cells).bind fun c=>(f1b E σ e (j+1) r).bind fun cs=>.ret (c :: cs) else .fail
def f3s (E:Env) (σ:St) (e:Nat):Nat→List (Nat×Operand)→M (List (List T))
 | _,[]=>.ret []
 | j,(i,x) :: r=>bif Nat.beq i j&&a0o (a1y E σ e x).cells&&Nat.beq (a1y E σ e x).cells.length (E.sz e) then (d1h E (E.flat e) (a1y E σ e x).cells).bind fun c=>(f3s E σ e (j+1) r).bind fun cs=>.ret (c :: cs) else .fail
def d3d:A→Bool | .i _ _ | .b _ | .s _ | .nil _=>true | _=>false
def c3j (k:Nat):Nat→List A→Option (Nat×Nm)
 | _,[]=>none
 | j,.ref n :: r=>bif Nat.blt n.1 k&&r.all d3d then some (j,n) else none
 | j,a :: r=>bif d3d a then c3j k (j+1) r else none
def d1j (E:Env) (σ:St) (e k:Nat):List (Nat×Operand)→Option (Nat×Nm)
 | [(0,x)]=>c3j k 0 (a1y E σ e x).cells
 | _=>none
def a9b (E:Env) (σ:St) (e:Nat):List (Nat×Operand)→M Bool
 | []=>.ret true
 | (_,x) :: r=>(b0y E (E.flat e) (a1y E σ e x).cells).bind fun b=>bif b then a9b E σ e r else .ret false
def b2b (E:Env) (σ:St) (fs:List (Nat×Nat)):List (Nat×Operand)→List A→Option (List A)
 | [],cs=>some cs
 | (j,x) :: r,cs=>match fs[j]? with
  | some (o,ft)=>bif Nat.beq (a1y E σ ft x).cells.length (E.sz ft)&&Nat.ble (o+(a1y E σ ft x).cells.length) cs.length&&a0o (a1y E σ ft x).cells then b2b E σ fs r (b5w cs o (a1y E σ ft x).cells) else none
  | none=>none
def bnd (d:Int):Option A→Option Int
 | none=>some d
 | some (.i _ a)=>some a
 | _=>none
def e6p (E:Env) (t:Nat) (x:A) (lo hi:Option A):M A:=
 match x with
 | .s s=>(match bnd 0 lo,bnd s.size hi with
  | some a,some b=>bif e6l (E.ti t).kn then .chk (decide (0≤a)&&decide (a≤b)&&decide (b≤(s.size:Int))) (.ret (.s (s.extract a.toNat b.toNat))) else .fail
  | _,_=>.fail)
 | .sl e es=>(match bnd 0 lo,bnd es.length hi with
  | some a,some b=>bif b5u E t e then .chk (decide (0≤a)&&decide (a≤b)&&decide (b≤(es.length:Int))) (.ret (.sl e ((es.drop a.toNat).take (b.toNat - a.toNat)))) else .fail
  | _,_=>.fail)
 | .ref n=>(M.row n).bind fun (e,_,es)=>(match bnd 0 lo,bnd es.length hi with
  | some a,some b=>bif b5u E t e then .chk (decide (0≤a)&&decide (a≤b)&&decide (b≤(es.length:Int))) (.ret (.cut n e a.toNat (b.toNat - a.toNat))) else .fail
  | _,_=>.fail)
 | .cut n e₁ f l=>(M.row n).bind fun (e,_,es)=>(match bnd 0 lo,bnd l hi with
  | some a,some b=>bif b5u E t e&&Nat.beq e₁ e then .chk (decide (0≤a)&&decide (a≤b)&&decide (b+(f:Int)≤(es.length:Int))&&decide (f<es.length)) (.ret (.cut n e (f+a.toNat) (b.toNat - a.toNat))) else .fail
  | _,_=>.fail)
 | _=>.fail
def a9u (l:Nat) (a b:Int):Bool:=decide (0≤a)&&decide (a<b)&&decide (b≤(l:Int))
def c6i (E:Env) (e dst:Nat):List A→M A
 | [.ref n,.i .i64 a,.i .i64 b]=>.get n fun
  | some (.row e' true es)=>bif Nat.beq e e' then .chk (a9u es.length a b) (.set n .dead ((M.new (dst,0) (.row e true (es.take a.toNat++es.drop b.toNat))).bind fun _=>.ret (.ref (dst,0)))) else .fail
  | some (.deep e' es none)=>bif Nat.beq e e' then .chk (a9u es.length a b) (.set n .dead ((M.new (dst,0) (.deep e (es.take a.toNat++es.drop b.toNat) none)).bind fun _=>.ret (.ref (dst,0)))) else .fail
  | some (.deep e' es (some (i,_,_)))=>bif Nat.beq e e' then .chk (a9u es.length a b) (.chk (decide (a≤(i:Int))&&decide ((i:Int)<b)) (.set n .dead ((M.new (dst,0) (.deep e (es.take a.toNat++es.drop b.toNat) none)).bind fun _=>.ret (.ref (dst,0))))) else .fail
  | _=>.fail
 | _=>.fail
def f7j (E:Env) (e dst:Nat):List A→M A
 | [x,.i .i64 i,y]=>bif Nat.ble 1 (E.sz e) then (b9h E true (.deep e) x).bind fun a=>(b9h E true (.deep e) y).bind fun b=>
  .chk (decide (0<b.asR.length)) (.chk (decide (0≤i)&&decide (i≤(a.asR.length:Int))) (.chk (decide ((a.asR.length+b.asR.length)*(E.ti e).bytes≤140737488355328))
   ((M.new (dst,0) (.deep e (a.asR.take i.toNat++b.asR++a.asR.drop i.toNat) none)).bind fun _=>.ret (.ref (dst,0))))) else .fail
 | _=>.fail
def e4l (E:Env) (e dst:Nat) (as:List A):M A:=bif Nat.blt e 1000000 then c6i E e dst as else f7j E (e - 1000000) dst as
inductive Arg where
 | v (cs:List T)
 | p (cs:List T)
 | c (f:FuncId) (o:Option (List T))
 | r (es:List (List T))
 | s (cs:List T)
structure Outs where
 res:List T
 vars:List (List T)
structure Lent where
 n:Nm
 ws:List Bool
 tys:List Ty
 row:Bool
 as:Option (List A)
def b0d (ws:List Bool) (e:Nat):Ty:=bif ws.headD false then .deep e else .row e
def f3t (E:Env) (t:Nat) (ws:List Bool):Option Nat:=match E.flat t,ws with | [.row e],[_,true]=>some e | _,_=>none
def e4m (ws:List Bool) (e:Nat) (es:List (List T)):O:=bif ws.headD false then .deep e es none else .row e true es
def Ty.isRow:Ty→Bool | .row _ | .deep _=>true | _=>false
def d3e:List Bool→List Ty→Bool
 | ws,ty :: tys=>(!ty.isRow || ws.headD false)&&d3e ws.tail tys
 | _,[]=>true
def b5x:List A→Bool
 | .ref _ :: as=>b5x as
 | .nil _ :: as=>b5x as
 | .i _ _ :: as=>b5x as
 | .b _ :: as=>b5x as
 | .s _ :: as=>b5x as
 | []=>true
 | _=>false
def e6q (E:Env) (t:Nat) (ws:List Bool):Bool:=E.isAgg t&&Nat.beq ws.length (2*E.sz t+1)&&(E.flat t).all Ty.notPtr&&d3e ws (fl ws (E.flat t))
def c2a (E:Env):List (List Bool)→List Nat→List A→M (List Arg×List Lent×List Nm)
 | _,[],[]=>.ret ([],[],[])
 | ws,t :: ts,a :: as=>
  match a with
  | .clo f none=>(c2a E ws.tail ts as).bind fun (r,l,v)=>.ret (.c f none :: r,l,v)
  | .clo f (some n)=>(M.var n).bind fun cs=>(b5v E [] (E.flat (E.fe f)) cs).bind fun c=>(M.var n).bind fun _=>.set n .dead ((c2a E ws.tail ts as).bind fun (r,l,v)=>.ret (.c f (some c) :: r,⟨n,[],E.flat (E.fe f),false,none⟩ :: l,v))
  | a=>
  match E.pel t with
  | some e=>(match a with
   | .ptr n 0=>(M.var n).bind fun cs=>(b5v E (ws.headD []) (fl (ws.headD []) (E.flat e)) cs).bind fun c=>(M.var n).bind fun _=>.set n .dead ((c2a E ws.tail ts as).bind fun (r,l,v)=>.ret (.p c :: r,⟨n,ws.headD [],fl (ws.headD []) (E.flat e),false,none⟩ :: l,v))
   | _=>.fail)
  | none=>
  match f3t E t (ws.headD []) with
  | some e=>(match a with
   | .ref n=>(b9h E true (b0d (ws.headD []) e) (.ref n)).bind fun c=>(c2a E ws.tail ts as).bind fun (r,l,v)=>.ret (.r c.asR :: r,⟨n,[true],[b0d (ws.headD []) e],true,none⟩ :: l,v)
   | _=>.fail)
  | none=>bif a.fits E t then bif e6q E t (ws.headD []) then
    bif b5x a.cells then (b5v E (ws.headD []) (fl (ws.headD []) (E.flat t)) a.cells).bind fun c=>(c2a E ws.tail ts as).bind fun (r,l,v)=>.ret (.s c :: r,⟨(0,0),ws.headD [],fl (ws.headD []) (E.flat t),false,some a.cells⟩ :: l,v) else .fail
   else (b9i E (ws.headD []) (fl (ws.headD []) (E.flat t)) a.cells).bind fun c=>(c2a E ws.tail ts as).bind fun (r,l,v)=>.ret (.v c :: r,l,c3h (ws.headD []) a.cells++v) else .fail
 | _,_,_=>.fail
def M.back (n:Nm) (o:O):M Unit:=.get n fun | some .dead=>.set n o (.ret ()) | _=>.fail
def e6r:Nat→List Bool→List Ty→List A→List T→M Unit
 | j,ws,ty :: tys,a :: as,cs=>(match ws.headD false,ty,a with
  | true,.row e,.ref n=>M.back n (.row e true (cs.getD j (.i 0)).asR)
  | true,.deep e,.ref n=>M.back n (.deep e (cs.getD j (.i 0)).asR none)
  | _,_,_=>.ret ():M Unit).bind fun _=>e6r (j+1) ws.tail tys as cs
 | _,_,_,_,_=>.ret ()
def b0z (E:Env) (d:Nat):Nat→List Lent→List (List T)→M Unit
 | _,[],_=>.ret ()
 | i,l :: ls,vs=>(match l.as with
  | some as=>e6r 0 l.ws l.tys as (vs.headD [])
  | none=>match l.row,l.tys with
  | true,[.row e]=>M.back l.n (.row e true ((vs.headD []).getD 0 (.i 0)).asR)
  | true,[.deep e]=>M.back l.n (.deep e ((vs.headD []).getD 0 (.i 0)).asR none)
  | true,_=>.fail
  | false,_=>(a8o E d (100*(i+1)) 0 l.ws l.tys (vs.headD [])).bind fun cs=>M.back l.n (.var cs):M Unit).bind fun _=>b0z E d (i+1) ls vs.tail
def b7g:List Nm→M Unit
 | []=>.ret ()
 | n :: ns=>.get n fun | some (.row _ _ _)=>b7g ns | some (.deep _ _ _)=>b7g ns | _=>.fail
def b3o:List Nm→M Unit
 | []=>.ret ()
 | n :: ns=>.get n fun
  | some (.row e true es)=>.set n (.row e false es) (b3o ns)
  | some (.row _ false _)=>b3o ns
  | some (.deep e es none)=>.set n (.row e false es) (b3o ns)
  | _=>.fail
def b0e (E:Env):List Bool→List Ty→Bool
 | ws,.row e :: tys=>!(ws.headD false) || !E.plain e || b0e E ws.tail tys
 | ws,.deep _ :: tys=>!(ws.headD false) || b0e E ws.tail tys
 | ws,.ptr e :: tys=>!E.plain e || b0e E ws.tail tys
 | ws,_ :: tys=>b0e E ws.tail tys
 | _,[]=>false
def a7m (E:Env):List Lent→Bool
 | []=>false
 | l :: ls=>b0e E l.ws l.tys || a7m E ls
def f1c (E:Env) (cs:List A):List Nat→List A
 | []=>[]
 | t :: ts=>b1x E t (cs.take (E.sz t)) :: f1c E (cs.drop (E.sz t)) ts
def d7d (E:Env):List Nat→List Ty
 | []=>[]
 | t :: ts=>E.flat t++d7d E ts
def f1d (E:Env) (sg:Sig) (fn:Func):List Ty:=fl sg.res (d7d E fn.resultTypes.toList)
abbrev Call:=FuncId→List Arg→Option Outs
def b7h (E:Env) (σ:St) (dst:Nat) (b:Builtin) (args:List Operand) (tys:List Nat):M A:=
 match b,args,tys with
 | .len,[x],[t]=>(match (E.ti t).kn with | .slice _=>f9v (a1y E σ t x) | .str=>(match a1y E σ t x with | .s x=>.ret (.i .i64 (x.size:Int)) | _=>.fail) | _=>.fail)
 | .append,[x,y],[t,u]=>bif Nat.beq t u then e0j E dst t (a1y E σ t x) (a1y E σ u y) else .fail
 | .copy,[x,y],[t,u]=>f4z E t (a1y E σ t x) (a1y E σ u y)
 | .clear,[x],[t]=>e6o E t (a1y E σ t x)
 | .max,[x,y],[t,u]=>(match a1y E σ t x,a1y E σ u y with | .i k a,.i k' b=>bif decide (k=k') then .ret (.i k (if b > a then b else a)) else .fail | _,_=>.fail)
 | .min,[x,y],[t,u]=>(match a1y E σ t x,a1y E σ u y with | .i k a,.i k' b=>bif decide (k=k') then .ret (.i k (if b<a then b else a)) else .fail | _,_=>.fail)
 | _,_,_=>.fail
def c3k (E:Env) (σ:St) (dst t n:Nat) (ps:Array (Nat×Operand)):M A:=
 bif b5u E t (E.elem t)&&Nat.beq ps.toList.length n&&Nat.ble (n*E.sz (E.elem t)) 16777216 then
  (f1b E σ (E.elem t) 0 ps.toList).bind fun es=>(M.new (dst,0) (.row (E.elem t) true es)).bind fun _=>.ret (.ref (dst,0)) else .fail
def d7e (E:Env) (σ:St) (dst t n:Nat) (ps:Array (Nat×Operand)):M A:=
 bif b5u E t (E.elem t)&&Nat.beq ps.toList.length n&&Nat.ble (n*E.sz (E.elem t)) 16777216 then
  (f3s E σ (E.elem t) 0 ps.toList).bind fun es=>(M.new (dst,0) (.deep (E.elem t) es none)).bind fun _=>.ret (.ref (dst,0)) else .fail
def c6j (E:Env) (σ:St) (dst t n j:Nat) (nm:Nm):List (Nat×Operand)→M A
 | [(
  0,x)]=>bif b5u E t (E.elem t)&&Nat.beq n 1&&Nat.ble (E.sz (E.elem t)) 16777216&&a0o (a1y E σ (E.elem t) x).cells&&Nat.beq (a1y E σ (E.elem t) x).cells.length (E.sz (E.elem t)) then
  (b9i E [] (E.flat (E.elem t)) (a1y E σ (E.elem t) x).cells).bind fun c=>(M.new (dst,0) (.deep (E.elem t) [c] (some (0,j,nm)))).bind fun _=>.ret (.ref (dst,0)) else .fail
 | _=>.fail
def opM (E:Env) (σ:St) (o:Oper) (dst:Nat):M A:=
 match o.op with
 | .move x | .assign x=>.ret (a1y E σ o.type x)
 | .pick c a b=>match a1y E σ 0 c with
  | .b x=>(match a1y E σ o.type a,a1y E σ o.type b with
   | .b p,.b q=>.ret (.b (bif x then p else q))
   | p,q=>(match x with | true=>.ret p | false=>.ret q))
  | _=>.fail
 | .alloc t=>bif E.known t then (M.new (dst,0) (.var ((E.flat t).map d6z))).bind fun _=>.ret (.ptr (dst,0) 0) else .fail
 | .box t v=>bif Nat.beq (a1y E σ t v).cells.length (E.sz t)&&a0o (a1y E σ t v).cells then (M.new (dst,0) (.var (a1y E σ t v).cells)).bind fun _=>.ret (.ptr (dst,0) 0) else .fail
 | .build t ps=>match (E.ti t).kn with
  | .struct fs=>(match b2b E σ fs ps.toList ((E.flat t).map d6z) with | some cs=>bif E.known t then .ret (.agg cs) else .fail | none=>.fail)
  | _=>.fail
 | .buildSlice t n ps=>bif E.plain (E.elem t) then c3k E σ dst t n ps else
   M.g5m.bind fun md=>bif md then ((a9b E σ (E.elem t) ps.toList).bind fun b=>bif b then (M.g5n.bind fun k=>match d1j E σ (E.elem t) k ps.toList with | some (j,nm)=>c6j E σ dst t n j nm ps.toList | none=>d7e E σ dst t n ps) else c3k E σ dst t n ps) else c3k E σ dst t n ps
 | .load t p=>f4w E dst t (a1y E σ 0 p)
 | .store t p v=>e6i E t (a1y E σ t v) (a1y E σ 0 p)
 | .nilCheck x=>match a1y E σ 0 x with | .ptr n o=>.ret (.ptr n o) | .ep n e i o=>.ret (.ep n e i o) | .vp t c o=>.ret (.vp t c o) | _=>.fail
 | .binOp op xt x y yt=>f9x E op xt (a1y E σ xt x) (a1y E σ yt y)
 | .unOp op xt x=>unM op (a1y E σ xt x)
 | .convert s t x=>bif E.known s then f4y E s t (a1y E σ s x) else .fail
 | .makeSlice t n c=>f5b E dst t (a1y E σ 0 n) (a1y E σ 0 c)
 | .slice t x lo hi none=>(f9f E (a1y E σ t x)).bind fun _=>e6p E t (a1y E σ t x) (lo.map (a1y E σ 0)) (hi.map (a1y E σ 0))
 | .fieldAddr t x j=>c1x E t j (a1y E σ 0 x)
 | .field t x j=>e6j E t j (a1y E σ t x)
 | .indexAddr t x i=>c1y E t (a1y E σ t x) (a1y E σ 0 i)
 | .index t x i=>e6m E t (a1y E σ t x) (a1y E σ 0 i)
 | .makeFunc (.func f) first captured=>(match first.toList,captured.toList.map (a1y E σ 0) with
  | [],[]=>.ret (.clo f none)
  | [],[.ptr n 0]=>.ret (.clo f (some n))
  | _,_=>.fail)
 | .extract x j=>match a1y E σ 0 x with | .tup vs=>(match vs[j]? with | some v=>.ret v | none=>.fail) | _=>.fail
 | .call c=>(match c.callee with | .builtin b=>b7h E σ dst b c.args.toList c.argTypes.toList | _=>.fail)
 | _=>.fail
def St.put (σ:St) (d:Option Nat) (a:A):St:=
 match d with
 | none=>σ
 | some i=>⟨fun j=>bif Nat.beq j i then a else σ.sl j,σ.mem⟩
def callee? (σ:St) (o:Oper):Option (FuncId×List Operand×List A):=
 match o.op with
 | .call { callee:=.value (.func f),args,.. }=>some (f,args.toList,[])
 | .call { callee:=.value (.tmp i),args,.. }=>(match σ.sl i with
  | .clo f none=>some (f,args.toList,[])
  | .clo f (some n)=>some (f,args.toList,[.ptr n 0])
  | _=>none)
 | _=>none
def b5y (E:Env) (σ:St):List Nat→List Operand→List A
 | t :: ts,x :: xs=>a1y E σ t x :: b5y E σ ts xs
 | _,_=>[]
def c6k:List A→Bool
 | []=>true
 | .tup _ :: _=>false
 | _ :: r=>c6k r
def behind (E:Env) (sg:Sig) (fn:Func) (d:Nat) (l:List Lent) (seen:List Nm) (out:Outs):M A:=
 (bif b0e E sg.res (f1d E sg fn) || a7m E l then b3o seen else .ret ()).bind fun _=>
 (a8o E d 0 0 sg.res (f1d E sg fn) out.res).bind fun cs=>(b0z E d 0 l out.vars).bind fun _=>
  .ret (match fn.resultTypes.toList with | [t]=>b1x E t cs | ts=>.tup (f1c E cs ts))
def f9z (ls:Bool):A→List Nm
 | .ptr n _=>bif ls then [] else [n]
 | a=>a.tops
def b2w (σ:St) (ls:Bool):List Operand→List Nm
 | []=>[]
 | .tmp i :: r=>f9z ls (σ.sl i)++b2w σ ls r
 | _ :: r=>b2w σ ls r
def d7f:Op→Bool | .load _ _ | .store _ _ _=>true | _=>false
def f3u:Op→Bool | .load _ _ | .store _ _ _ | .call _ | .buildSlice _ _ _ | .slice _ _ _ _ _=>true | _=>false
def e0k (E:Env):List Nm→M Unit
 | []=>.ret ()
 | n :: ns=>(f0z (.ref n)).bind fun l=>(bif l then .ret () else d1i E 3 n).bind fun _=>e0k E ns
def b9l (E:Env):List Nm→M Unit
 | []=>.ret ()
 | n :: ns=>(d3a n).bind fun l=>(e0k E l).bind fun _=>b9l E ns
def b7i (E:Env) (σ:St):Op→Bool
 | .load t p=>(match a1y E σ 0 p with | .ep _ e _ o=>(((E.flat e).drop o).take (E.sz t)).all Ty.flatB | _=>false)
 | _=>false
def e0l (E:Env) (σ:St):Op→M Bool
 | .load t p=>(match a1y E σ 0 p with
  | .ep n e _ o=>(match E.isAgg t,b9j 0 (((E.flat e).drop o).take (E.sz t)) with
   | true,some (j,_)=>.get n fun | some (.deep _ _ (some (_,j',nm)))=>.ret (Nat.ble 500000 nm.2&&Nat.beq (o+j) j') | _=>.ret false
   | _,_=>.ret false)
  | _=>.ret false)
 | _=>.ret false
def d0e (E:Env) (σ:St) (o:Oper):M Unit:=bif !f3u o.op || b7i E σ o.op then .ret () else (e0l E σ o.op).bind fun hd=>bif hd then .ret () else match b2w σ (d7f o.op) o.op.operands.toList with | []=>.ret () | n :: ns=>M.g5m.bind fun md=>bif md then b9l E (n :: ns) else .ret ()
def c1v {R:Type} (E:Env) (F:Call) (σ:St) (o:Oper) (K:St→FP→Option R):Option R:=
 match callee? σ o with
 | some (f,args,more)=>
  match d6y E.del f with
  | some e=>(match more with
   | []=>(e4l E e (o.dst.getD 0) (args.map (a1y E σ 0))).run σ.mem ⟨[],[]⟩ fun a m p=>K (St.put ⟨σ.sl,m⟩ o.dst a) p
   | _=>none)
  | none=>
  match E.fn f with
  | none=>none
  | some fn=>bif Nat.beq args.length fn.params.toList.length&&Nat.beq more.length (E.sig f).free.length&&c6k (b5y E σ fn.params.toList args) then
   ((
    d0e E σ o).bind fun _=>(c2a E (E.sig f).ins (d2z (E.sig f) fn) (b5y E σ fn.params.toList args++more)).bind fun r=>(b7g r.2.2).bind fun _=>.ret r).run σ.mem ⟨[],[]⟩ fun (ins,l,seen) m p=>
    match F f ins with
    | none=>none
    | some out=>(behind E (E.sig f) fn (o.dst.getD 0) l seen out).run m p fun a m p=>K (St.put ⟨σ.sl,m⟩ o.dst a) p
   else none
 | none=>((d0e E σ o).bind fun _=>opM E σ o (o.dst.getD 0)).run σ.mem ⟨[],[]⟩ fun a m p=>K (St.put ⟨σ.sl,m⟩ o.dst a) p
def e2e (ops:List Oper) (j:Nat):Option Nat:=match ops[j]? with | some o=>o.dst | none=>none
def a3i {R:Type} (E:Env) (F:Call) (all:List Oper):List Oper→St→List FP→(St→List FP→Option R)→Option R
 | [],σ,ps,K=>K σ ps
 | o :: os,σ,ps,K=>
  match o.guard with
  | none=>c1v E F σ o fun σ' p=>a3i E F all os σ' (p :: ps) K
  | some (j,want)=>
   match e2e all j with
   | none=>none
   | some s=>
    match σ.sl s with
    | .b x=>
     match want with
     | true=>bif x then c1v E F (σ.put (some s) (.b true)) o fun σ' p=>a3i E F all os σ' (p :: ps) K else a3i E F all os ((σ.put (some s) (.b false)).put o.dst .skip) (⟨[],[]⟩ :: ps) K
     | false=>bif x then a3i E F all os ((σ.put (some s) (.b true)).put o.dst .skip) (⟨[],[]⟩ :: ps) K else c1v E F (σ.put (some s) (.b false)) o fun σ' p=>a3i E F all os σ' (p :: ps) K
    | .skip=>a3i E F all os (σ.put o.dst .skip) (⟨[],[]⟩ :: ps) K
    | _=>none
def a9v:List Oper→List Nat→List Nat
 | [],acc=>acc
 | o :: os,acc=>a9v os (acc++[o.after.toList.foldl (fun s e=>bif Region.binds .any e then Nat.lor (Nat.lor s (2 ^ e.on)) (acc.getD e.on 0) else s) 0])
def d3f (all:List Oper) (o:Oper):List Nat:=(o.op.operands.toList.filterMap b8s)++(match o.guard with | some (j,_)=>(e2e all j).toList | none=>[])
def f3v (x:Nat) (l:List Nat):Bool:=l.any (Nat.beq x)
def e6s (a b:List Nm):Bool:=a.any fun x=>b.any (a6h x)
def b0x (all:List Oper) (x y:Oper):Bool:=
 (match x.dst with | some d=>!f3v d (d3f all y)&&!(match y.dst with | some e=>Nat.beq d e | none=>false) | none=>true)&&(match y.dst with | some d=>!f3v d (d3f all x) | none=>true)
def c2b (p q:FP):Bool:=!e6s p.wr q.rd&&!e6s p.wr q.wr&&!e6s q.wr p.rd
def e6t (all:List Oper) (bs:List Nat) (ps:List FP):Bool:=
 (List.range all.length).all fun j=>(List.range j).all fun i=>
  Nat.testBit (bs.getD j 0) i || (match all[i]?,all[j]? with | some x,some y=>b0x all x y&&c2b (ps.getD i ⟨[],[]⟩) (ps.getD j ⟨[],[]⟩) | _,_=>false)
def c6l:List Oper→Nat→Bool
 | [],_=>true
 | o :: os,j=>o.after.toList.all (fun e=>!(Region.binds .any e) || Nat.blt e.on j)&&c6l os (j+1)
def g0a:List Oper→Bool
 | []=>true
 | o :: os=>(match o.op with | .select _ _=>false | _=>true)&&g0a os
def f5d (all:List Oper) (ps:List FP):Bool:=c6l all 0&&e6t all (a9v all []) ps
def d3g (all:List Oper):List Nat:=all.flatMap (d3f all)
def d3h:Code→List Nat
 | .region _ ops _=>d3g ops.toList
 | .seq a b=>d3h a++d3h b
 | .cond c a b=>(b8s c).toList++d3h a++d3h b
 | .block _ a | .loop a | .scope a=>d3h a
 | _=>[]
def f3w (all:List Oper):List Oper→List Nat→List Nat×List Nat
 | [],as=>([],as)
 | o :: os,as=>let r:=f3w all os (o.dst.toList++as);((d3f all o).filter (fun x=>!f3v x as)++r.1,r.2)
def a6i:Code→List Nat→List Nat×List Nat
 | .region _ ops _,as=>f3w ops.toList ops.toList as
 | .seq a b,as=>let r:=a6i a as;let q:=a6i b r.2;(r.1++q.1,q.2)
 | .cond c a b,as=>((b8s c).toList.filter (fun x=>!f3v x as)++(a6i a as).1++(a6i b as).1,as)
 | .block _ a,as | .loop a,as | .scope a,as=>((a6i a as).1,as)
 | _,as=>([],as)
def d3i:List Nat→List Nat
 | []=>[]
 | x :: xs=>bif f3v x xs then d3i xs else x :: d3i xs
def e6u (x:Nat):List Nat→List Nat
 | []=>[x]
 | y :: ys=>bif Nat.blt x y then x :: y :: ys else y :: e6u x ys
def d7g:List Nat→List Nat
 | []=>[]
 | x :: xs=>e6u x (d7g xs)
def b1a (l:List (Nm×Nm)) (n:Nm):Option Nm:=match l with | []=>none | (a,b) :: r=>bif a6h n a then some b else b1a r n
def d3j (m:Mem) (at_:Nm) (ren:List (Nm×Nm)) (n:Nm):List (Nm×Nm):=
 match b1a ren n with
 | some _=>ren
 | none=>match m n with | some (.row _ _ _)=>ren++[(n,at_)] | some (.deep _ _ _)=>ren++[(n,at_)] | _=>ren
def f7k (m:Mem) (at_:Nm) (ren:List (Nm×Nm)):A→List (Nm×Nm)
 | .ref n=>d3j m at_ ren n
 | .cut n _ _ _=>d3j m at_ ren n
 | .ep n _ _ _=>d3j m at_ ren n
 | _=>ren
def e6v (m:Mem) (s:Nat):Nat→List (Nm×Nm)→List A→List (Nm×Nm)
 | _,ren,[]=>ren
 | j,ren,a :: as=>e6v m s (j+1) (f7k m (s,j) ren a) as
def f7l (m:Mem) (s:Nat) (ren:List (Nm×Nm)):A→List (Nm×Nm)
 | .agg as=>e6v m s 1 ren as
 | .ptr n _ | .clo _ (some n)=>match b1a ren n with
  | some _=>ren
  | none=>match m n with
   | some (.var cs)=>e6v m n.1 1 (ren++[(n,n)]) cs
   | _=>ren
 | a=>f7k m (s,0) ren a
def e6w (σ:St):List Nat→List (Nm×Nm)→List (Nm×Nm)
 | [],ren=>ren
 | i :: is,ren=>e6w σ is (f7l σ.mem i ren (σ.sl i))
def e0m (ren:List (Nm×Nm)):A→A
 | .ref n=>match b1a ren n with | some n'=>.ref n' | none=>.undef
 | .cut n e f l=>match b1a ren n with | some n'=>.cut n' e f l | none=>.undef
 | .ep n e i o=>match b1a ren n with | some n'=>.ep n' e i o | none=>.undef
 | .ptr n o=>match b1a ren n with | some n'=>.ptr n' o | none=>.undef
 | .clo f (some n)=>match b1a ren n with | some n'=>.clo f (some n') | none=>.undef
 | .agg _=>.undef
 | .tup _=>.undef
 | a=>a
def b8u (ren:List (Nm×Nm)):List A→List A
 | []=>[]
 | a :: as=>e0m ren a :: b8u ren as
def f6y (ren:List (Nm×Nm)):A→A
 | .agg as=>bif a0o (b8u ren as) then .agg (b8u ren as) else .undef
 | a=>e0m ren a
def f7m (ren:List (Nm×Nm)):Option O→O
 | some (.var cs)=>bif a0o (b8u ren cs) then .var (b8u ren cs) else .dead
 | some (.deep e es none)=>.deep e es none
 | some (.deep _ _ _)=>.dead
 | some (.save _)=>.dead
 | some o=>o
 | none=>.dead
def b1b (m:Mem) (ren:List (Nm×Nm)):List (Nm×Nm)→List (Nm×O)
 | []=>[]
 | (a,b) :: r=>(b,f7m ren (m a)) :: b1b m ren r
def e6x (σ:St) (ren:List (Nm×Nm)):List Nat→List (Nat×A)
 | []=>[]
 | i :: is=>(i,f6y ren (σ.sl i)) :: e6x σ ren is
def d7h (D:Nat→Bool) (at_:Nm):A→A×List (Nm×O)
 | .nil e=>(.ref at_,[(at_,bif D e then .deep e [] none else .row e true [])])
 | a=>(a,[])
def b0f (D:Nat→Bool) (s:Nat):Nat→List A→List A×List (Nm×O)
 | _,[]=>([],[])
 | j,a :: as=>((d7h D (s,j) a).1 :: (b0f D s (j+1) as).1,(d7h D (s,j) a).2++(b0f D s (j+1) as).2)
def e0n (D:Nat→Bool) (s:Nat):A→A×List (Nm×O)
 | .agg as=>(.agg (b0f D s 1 as).1,(b0f D s 1 as).2)
 | a=>d7h D (s,0) a
def b7s (D:Nat→Bool):List (Nat×A)→List (Nat×A)×List (Nm×O)
 | []=>([],[])
 | (i,a) :: r=>((i,(e0n D i a).1) :: (b7s D r).1,(e0n D i a).2++(b7s D r).2)
def b2x (D:Nat→Bool):List (Nm×O)→List (Nm×O)×List (Nm×O)
 | []=>([],[])
 | (n,.var cs) :: r=>((n,.var (b0f D n.1 1 cs).1) :: (b2x D r).1,(b0f D n.1 1 cs).2++(b2x D r).2)
 | (n,o) :: r=>((n,o) :: (b2x D r).1,(b2x D r).2)
def b2c:List (Nat×A)→Nat→A
 | [],_=>.undef
 | (i,a) :: r,j=>bif Nat.beq j i then a else b2c r j
def a2m:List (Nm×O)→Mem
 | [],_=>none
 | (n,o) :: r,x=>bif a6h x n then some o else a2m r x
def b0g:List Nm→Bool
 | []=>true
 | n :: ns=>!(ns.any (a6h n))&&b0g ns
def b9m {α β:Type}:List (α×β)→List α
 | []=>[]
 | (a,_) :: r=>a :: b9m r
def f6z {α β:Type}:List (α×β)→List β
 | []=>[]
 | (_,b) :: r=>b :: f6z r
def b7j (m:Mem):List Nm→Bool
 | []=>true
 | n :: ns=>match m n with | some _=>b7j m ns | none=>false
def d7i (ren:List (Nm×Nm)):List Nat→Bool
 | []=>true
 | i :: is=>(match b1a ren (i,0) with | some n=>a6h n (i,0) | none=>false)&&d7i ren is
def c5p (D:Nat→Bool) (pins keep:List Nat) (σ:St) (ren:List (Nm×Nm)):Option St:=
 bif d7i ren pins&&b0g (b9m ren)&&b0g (f6z ren)&&b7j σ.mem (b9m ren)&&b0g (b9m ((b7s D (e6x σ ren keep)).2++(b2x D (b1b σ.mem ren ren)).2++(b2x D (b1b σ.mem ren ren)).1)) then
  some ⟨b2c (b7s D (e6x σ ren keep)).1,a2m ((b7s D (e6x σ ren keep)).2++(b2x D (b1b σ.mem ren ren)).2++(b2x D (b1b σ.mem ren ren)).1)⟩
 else none
def g0b (a b:Nm):Bool:=Nat.blt a.1 b.1 || (Nat.beq a.1 b.1&&Nat.blt a.2 b.2)
def b8v (p:Nm×O):List (Nm×O)→List (Nm×O)
 | []=>[p]
 | q :: r=>bif g0b p.1 q.1 then p :: q :: r else q :: b8v p r
def e4n:List (Nm×O)→List (Nm×O)
 | []=>[]
 | p :: r=>b8v p (e4n r)
def e0o (D:Nat→Bool) (pins keep:List Nat) (σ:St) (ren:List (Nm×Nm)):Option St:=
 bif d7i ren pins&&b0g (b9m ren)&&b0g (f6z ren)&&b7j σ.mem (b9m ren)&&b0g (b9m ((b7s D (e6x σ ren keep)).2++(b2x D (b1b σ.mem ren ren)).2++(b2x D (b1b σ.mem ren ren)).1)) then
  some ⟨b2c (b7s D (e6x σ ren keep)).1,a2m (e4n ((b7s D (e6x σ ren keep)).2++(b2x D (b1b σ.mem ren ren)).2++(b2x D (b1b σ.mem ren ren)).1))⟩
 else none
def e6y (m:Mem):List Nat→List (Nm×Nm)→List (Nm×Nm)
 | [],ren=>ren
 | i :: is,ren=>e6y m is (d3j m (i,0) (f7l m i ren (.ptr (i,0) 0)) (i,0))
def f5e (D:Nat→Bool) (pins keep:List Nat) (σ:St):Option St:=e0o D pins keep σ (e6w σ keep (e6y σ.mem pins []))
def b9n (m:Mem):Bool:=match m a6e with | some _=>true | none=>false
def g0c (E:Env) (m:Mem) (e:Nat):Bool:=b9n m&&!E.plain e
def d3k (m:Mem) (σ:St):St:=bif b9n m&&!b9n σ.mem then ⟨σ.sl,σ.mem.put a6e .dead⟩ else σ
def f9g:List Nm→M Unit
 | []=>.ret ()
 | n :: ns=>(M.lowD n).bind fun _=>f9g ns
def g0d (E:Env):A→M A
 | .ref n=>.get n fun
  | some (.row e _ _)=>(f6x E (.row e) (.ref n)).bind fun t=>.ret (.sl e t.asR)
  | _=>.ret (.ref n)
 | .nil e=>.ret (.sl e [])
 | a=>.ret a
def f5f (E:Env):List A→M (List A)
 | []=>.ret []
 | a :: as=>(g0d E a).bind fun b=>(f5f E as).bind fun bs=>.ret (b :: bs)
def f7n (E:Env):List Nm→M Unit
 | []=>.ret ()
 | n :: ns=>.get n fun
  | some (.var cs)=>(f5f E cs).bind fun cs'=>(M.var n).bind fun _=>.set n (.var cs') (f7n E ns)
  | _=>f7n E ns
def g0w:List Nat→List Nat→Bool
 | [],[]=>true
 | a :: as,b :: bs=>Nat.beq a b&&g0w as bs
 | _,_=>false
def f5g:List (List Nat)→List Nat→Bool
 | [],_=>false
 | l :: ls,keep=>g0w l keep || f5g ls keep
def d7j (E:Env) (pins keep:List Nat) (σ:St):Option St:=
 bif b9n σ.mem then
  (d7a E (b9m (e6w σ keep (e6y σ.mem pins [])))).run σ.mem ⟨[],[]⟩ fun _ m _=>match f5e (g0c E m) pins keep ⟨σ.sl,m⟩ with | some σ'=>some (d3k m σ') | none=>none
 else ((f9g (b9m (e6w σ keep (e6y σ.mem pins [])))).bind fun _=>bif f5g E.frz keep then f7n E (b9m (e6w σ keep (e6y σ.mem pins []))) else .ret ()).run σ.mem ⟨[],[]⟩ fun _ m _=>f5e (fun _=>false) pins keep ⟨σ.sl,m⟩
def c2c (a:Nat):Bool:=Nat.blt a 2 || (Nat.ble 900000 a&&Nat.blt a 1000000)
def b9o (n:Nm):Nm:=bif c2c n.1 then n else (n.1+1000000,n.2)
def b9p (n:Nm):Option Nm:=bif c2c n.1 then some n else bif Nat.blt n.1 1000002 || c2c (n.1 - 1000000) then none else some (n.1 - 1000000,n.2)
def upA:A→A
 | .ref n=>.ref (b9o n)
 | .cut n e f l=>.cut (b9o n) e f l
 | .ptr n o=>.ptr (b9o n) o
 | .ep n e i o=>.ep (b9o n) e i o
 | .clo f (some n)=>.clo f (some (b9o n))
 | a=>a
def f7a:List A→List A
 | []=>[]
 | a :: as=>upA a :: f7a as
def upV:A→A
 | .agg cs=>.agg (f7a cs)
 | a=>upA a
def f7b:List A→List A
 | []=>[]
 | a :: as=>upV a :: f7b as
def upW:A→A
 | .tup vs=>.tup (f7b vs)
 | a=>upV a
def e6f:List A→List A
 | []=>[]
 | a :: as=>upW a :: e6f as
def upO:O→O
 | .var cs=>.var (f7a cs)
 | .deep e es (some (i,j,n))=>.deep e es (some (i,j,b9o n))
 | .save as=>.save (e6f as)
 | o=>o
def b5z (m:Mem):Mem:=fun x=>match b9p x with
 | some n=>(match m n with | some o=>some (upO o) | none=>none)
 | none=>none
abbrev Inl (R:Type):=FuncId→List A→List A→Nat→Mem→(A→List A→Mem→Option R)→Option R
def e6z (E:Env) (σ:St) (o:Oper):Option (FuncId×Func×List Operand):=
 match o.guard,callee? σ o with
 | none,some (f,args,[])=>bif f3v f E.inl then (match E.fn f with | some fn=>some (f,fn,args) | none=>none) else none
 | _,_=>none
def f1e (σ:St):List Nat→List A
 | []=>[]
 | i :: is=>σ.sl i :: f1e σ is
def e0p:List Nat→List A→List (Nat×A)
 | i :: is,a :: as=>(i,a) :: e0p is as
 | _,_=>[]
def b9q {R:Type} (E:Env) (F:Call) (I:Inl R) (all:List Oper) (keep:List Nat):List Oper→St→(St→Option R)→Option R
 | [],σ,K=>K σ
 | o :: os,σ,K=>match e6z E σ o with
  | some (f,fn,args)=>bif Nat.beq args.length fn.params.toList.length&&c6k (b5y E σ fn.params.toList args) then
    I f (b5y E σ fn.params.toList args) (f1e σ keep) (o.dst.getD 0) σ.mem fun a sv m=>b9q E F I all keep os (St.put ⟨b2c (e0p keep sv),m⟩ o.dst a) K
   else none
  | none=>a3i E F all [o] σ [] fun σ' _=>b9q E F I all keep os σ' K
inductive Pre where | low (n:Nm) | opn (n d:Nm) (i j:Nat)
def M.dry {α:Type}:M α→Mem→Option (α×Mem)
 | .ret a,m=>some (a,m)
 | .fail,_=>none
 | .get n k,m=>(k (m n)).dry m
 | .set n o k,m=>k.dry (m.put n o)
 | .chk _ k,m=>k.dry m
def f7o (E:Env) (m0:Mem) (σ:St) (o:Oper):List Pre:=match o.op with
 | .slice t x _ _ _=>(match a1y E σ t x with
  | .ref n=>(match m0 n with | some (.deep _ _ _)=>[.low n] | _=>[])
  | _=>[])
 | .load t p=>(match a1y E σ 0 p with
  | .ep n e i o'=>(match m0 n with
   | some (.deep _ _ none)=>bif E.isAgg t&&b9n m0 then (match b9j 0 (((E.flat e).drop o').take (E.sz t)) with | some (j,_)=>[.opn n (o.dst.getD 0,500000+j) i (o'+j)] | none=>[]) else []
   | _=>[])
  | _=>[])
 | _=>[]
def f5h (E:Env) (m0:Mem):List Oper→St→List Pre
 | [],_=>[]
 | o :: os,σ=>match o.guard,callee? σ o with
  | none,none=>f7o E m0 σ o++(match ((d0e E σ o).bind fun _=>opM E σ o (o.dst.getD 0)).dry σ.mem with
   | some (a,m)=>f5h E m0 os (St.put ⟨σ.sl,m⟩ o.dst a)
   | none=>[])
  | _,_=>[]
def f7c (E:Env):List Pre→M Unit
 | []=>.ret ()
 | .low n :: r=>(f9f E (.ref n)).bind fun _=>f7c E r
 | .opn n d i j :: r=>(M.get n fun
  | some (.deep e es none)=>(match (E.flat e)[j]? with
   | some (.row e')=>.chk (Nat.blt i es.length) ((M.new d (bif E.plain e' then .row e' true ((es.getD i []).getD j (.i 0)).asR else .deep e' ((es.getD i []).getD j (.i 0)).asR none)).bind fun _=>.set n (.deep e es (some (i,j,d))) (.ret ()))
   | _=>.ret ())
  | _=>.ret ():M Unit).bind fun _=>f7c E r
def f7p (E:Env):Nat→List Oper→Option Nat
 | _,[]=>none
 | i,o :: os=>match e6z E ⟨fun _=>.undef,fun _=>none⟩ o with
  | some _=>some i
  | none=>f7p E (i+1) os
def d3l (all:List Oper) (bs:List Nat) (ps:List FP) (i0 i1:Nat):Bool:=
 (List.range i1).all fun j=>(List.range j).all fun i=>Nat.blt i i0 ||
  (Nat.testBit (bs.getD j 0) i || (match all[i]?,all[j]? with | some x,some y=>b0x all x y&&c2b (ps.getD (i - i0) ⟨[],[]⟩) (ps.getD (j - i0) ⟨[],[]⟩) | _,_=>false))
def g0e (all:List Oper) (bs:List Nat) (i:Nat):Bool:=
 (List.range all.length).all fun k=>Nat.blt k i || ((List.range i).all (fun j=>Nat.testBit (bs.getD k 0) j)&&(Nat.beq k i || Nat.testBit (bs.getD k 0) i))
def d3m {R:Type} (E:Env) (F:Call) (I:Inl R) (all:List Oper) (keep:List Nat) (σ:St) (K:St→Option R):Option R:=
 match f7p E 0 all with
 | none=>a3i E F all all σ [] fun σ' ps=>bif f5d all ps.reverse then K σ' else none
 | some i=>bif c6l all 0&&g0e all (a9v all []) i&&Nat.blt i all.length then
   a3i E F all (all.take i) σ [] fun σ1 ps=>bif d3l all (a9v all []) ps.reverse 0 i then
    (match all[i]? with
    | some o=>(match e6z E σ1 o with
     | some (f,fn,args)=>bif Nat.beq args.length fn.params.toList.length&&c6k (b5y E σ1 fn.params.toList args) then
       I f (b5y E σ1 fn.params.toList args) (f1e σ1 keep) (o.dst.getD 0) σ1.mem fun a sv m=>
        a3i E F all (all.drop (i+1)) (St.put ⟨b2c (e0p keep sv),m⟩ o.dst a) [] fun σ' ps=>bif d3l all (a9v all []) ps.reverse (i+1) all.length then K σ' else none
      else none
     | none=>none)
    | none=>none)
   else none
  else none
inductive Ex where | normal | exit (id:Nat) | ret
def f1f {R:Type} (E:Env) (body:St→(Ex→St→Option R)→Option R) (pins keep:List Nat) (K:Ex→St→Option R):Nat→St→Option R
 | 0,_=>none
 | k+1,σ=>body σ fun ex σ'=>match ex with | .normal=>(match d7j E pins keep σ' with | some σ''=>f1f E body pins keep K k σ'' | none=>none) | e=>K e σ'
def a3u {R:Type} (E:Env) (F:Call) (I:Inl R) (k:Nat) (pins:List Nat):Code→List Nat→St→(Ex→St→Option R)→Option R
 | .skip,_,σ,K=>K .normal σ
 | .region _ ops draw,out,σ,K=>match draw with
  | true=>(f7c E (f5h E σ.mem ops.toList σ)).run σ.mem ⟨[],[]⟩ fun _ m _=>d3m E F I ops.toList (d7g (d3i (d3g ops.toList++out))) ⟨σ.sl,m⟩ fun σ'=>K .normal σ'
  | false=>b9q E F I ops.toList (d7g (d3i (d3g ops.toList++out))) ops.toList σ fun σ'=>K .normal σ'
 | .seq a b,out,σ,K=>a3u E F I k pins a (d3h b++out) σ fun ex σ'=>match ex with | .normal=>a3u E F I k pins b out σ' K | e=>K e σ'
 | .cond c a b,out,σ,K=>match a1y E σ 0 c with
  | .b x=>bif x then a3u E F I k pins a out (σ.put (b8s c) (.b true)) K else a3u E F I k pins b out (σ.put (b8s c) (.b false)) K
  | _=>none
 | .block id a,out,σ,K=>a3u E F I k pins a out σ fun ex σ'=>match ex with | .exit i=>bif Nat.beq i id then K .normal σ' else K (.exit i) σ' | e=>K e σ'
 | .loop a,out,σ,K=>
  match d7j E pins (d7g (d3i ((a6i a []).1++out))) σ with
  | some σ'=>f1f E (fun σ K'=>a3u E F I k pins a ((a6i a []).1++out) σ K') pins (d7g (d3i ((a6i a []).1++out))) K k σ'
  | none=>none
 | .exit id,_,σ,K=>K (.exit id) σ
 | .ret,_,σ,K=>K .ret σ
 | _,_,_,_=>none
def enter (E:Env):Nat→List (List Bool)→List Nat→List Arg→M (List A)
 | _,_,[],[]=>.ret []
 | i,ws,t :: ts,.v cs :: r=>(a8o E i 0 0 (ws.headD []) (fl (ws.headD []) (E.flat t)) cs).bind fun as=>(enter E (i+1) ws.tail ts r).bind fun q=>.ret (b1x E t as :: q)
 | i,ws,t :: ts,.s cs :: r=>(a8o E i 0 0 (ws.headD []) (fl (ws.headD []) (E.flat t)) cs).bind fun as=>(enter E (i+1) ws.tail ts r).bind fun q=>.ret (b1x E t as :: q)
 | i,ws,t :: ts,.p cs :: r=>(a8o E i 0 0 (ws.headD []) (fl (ws.headD []) (E.flat (E.elem t))) cs).bind fun as=>(M.new (i,0) (.var as)).bind fun _=>(enter E (i+1) ws.tail ts r).bind fun q=>.ret (.ptr (i,0) 0 :: q)
 | i,ws,t :: ts,.r es :: r=>(match E.flat t with
  | [.row e]=>(M.new (i,0) (e4m (ws.headD []) e es)).bind fun _=>(enter E (i+1) ws.tail ts r).bind fun q=>.ret (.ref (i,0) :: q)
  | _=>.fail)
 | i,ws,_ :: ts,.c f none :: r=>(enter E (i+1) ws.tail ts r).bind fun q=>.ret (.clo f none :: q)
 | i,ws,_ :: ts,.c f (some cs) :: r=>(a8o E i 0 0 [] (E.flat (E.fe f)) cs).bind fun as=>(M.new (i,0) (.var as)).bind fun _=>(enter E (i+1) ws.tail ts r).bind fun q=>.ret (.clo f (some (i,0)) :: q)
 | _,_,_,_=>.fail
def b5d (E:Env) (σ:St):List ResultVar→List Nat→M (List A)
 | [],[]=>.ret []
 | .tmp t :: r,ty :: tys=>bif (σ.sl t).fits E ty then (b5d E σ r tys).bind fun as=>.ret ((σ.sl t).cells++as) else .fail
 | .cell p t :: r,ty :: tys=>(c6g E t (σ.sl p)).bind fun a=>bif a.fits E ty then (b5d E σ r tys).bind fun as=>.ret (a.cells++as) else .fail
 | _,_=>.fail
def f7q (E:Env) (i:Nat):Nat→List Bool→List Ty→List T→M (List T)
 | j,ws,ty :: tys,c :: cs=>(bif ty.isRow&&ws.headD false then b9h E true ty (.ref (i,j+1)) else .ret c).bind fun t=>(f7q E i (j+1) ws.tail tys cs).bind fun ts=>.ret (t :: ts)
 | _,_,[],[]=>.ret []
 | _,_,_,_=>.fail
def a5d (E:Env):Nat→List (List Bool)→List Nat→List Arg→M (List (List T))
 | _,_,[],[]=>.ret []
 | i,ws,t :: ts,.p _ :: r=>(M.var (i,0)).bind fun cs=>(b5v E (ws.headD []) (fl (ws.headD []) (E.flat (E.elem t))) cs).bind fun c=>(M.var (i,0)).bind fun _=>.set (i,0) .dead ((a5d E (i+1) ws.tail ts r).bind fun cs=>.ret (c :: cs))
 | i,ws,_ :: ts,.c f (some _) :: r=>(M.var (i,0)).bind fun cs=>(b5v E [] (E.flat (E.fe f)) cs).bind fun c=>(M.var (i,0)).bind fun _=>.set (i,0) .dead ((a5d E (i+1) ws.tail ts r).bind fun cs=>.ret (c :: cs))
 | i,ws,t :: ts,.s cs :: r=>(f7q E i 0 (ws.headD []) (fl (ws.headD []) (E.flat t)) cs).bind fun c=>(a5d E (i+1) ws.tail ts r).bind fun cs=>.ret (c :: cs)
 | i,ws,t :: ts,.r _ :: r=>(match E.flat t with
  | [.row e]=>(b9h E true (b0d (ws.headD []) e) (.ref (i,0))).bind fun c=>(a5d E (i+1) ws.tail ts r).bind fun cs=>.ret ([c] :: cs)
  | _=>.fail)
 | i,ws,_ :: ts,.c _ none :: r=>a5d E (i+1) ws.tail ts r
 | i,ws,_ :: ts,.v _ :: r=>a5d E (i+1) ws.tail ts r
 | _,_,_,_=>.fail
def c3l (n:Nat):Code→Bool
 | .region _ ops _=>ops.toList.all fun o=>match o.dst with | some d=>Nat.blt d n | none=>true
 | .seq a b=>c3l n a&&c3l n b
 | .cond _ a b=>c3l n a&&c3l n b
 | .block _ a | .loop a | .scope a=>c3l n a
 | _=>true
def b9r:Nat→List Arg→List Nat
 | _,[]=>[]
 | i,.p _ :: r=>i :: b9r (i+1) r
 | i,.r _ :: r=>i :: b9r (i+1) r
 | i,.c _ (some _) :: r=>i :: b9r (i+1) r
 | i,.c _ none :: r=>b9r (i+1) r
 | i,.v _ :: r=>b9r (i+1) r
 | i,.s _ :: r=>b9r (i+1) r
def noS:List Arg→Bool
 | []=>true
 | .s _ :: _=>false
 | _ :: r=>noS r
def b5e:Code→Bool
 | .seq a b=>b5e a&&b5e b
 | .cond _ a b=>b5e a&&b5e b
 | .block _ a=>b5e a
 | .loop _ | .scope _=>false
 | _=>true
def c6m:List A→Nat→A
 | [],_=>.skip
 | a :: _,0=>a
 | _ :: r,i+1=>c6m r i
def e7a (σ:St):List ResultVar→List Nm
 | []=>[]
 | .tmp t :: r=>(σ.sl t).tops++e7a σ r
 | .cell p _ :: r=>(σ.sl p).tops++e7a σ r
def f3x:List Nat→List Nm
 | []=>[]
 | i :: is=>(i,0) :: f3x is
def f9h (E:Env) (ts:List Nat) (as:List A):A:=match ts with
 | [t]=>b1x E t as
 | ts=>.tup (f1c E as ts)
def f1g {R:Type} (E:Env) (F:Call) (k:Nat):Nat→Inl R
 | 0=>fun _ _ _ _ _ _=>none
 | d+1=>fun f as sv dst m K=>match E.fn f with
  | some fn=>(match fn.body with
   | some c=>bif b5e c&&c3l fn.ntmps c&&Nat.ble as.length fn.ntmps&&Nat.blt d 10 then
     (M.new (900000+d,dst) (.save (e6f sv))).run (b5z m) ⟨[],[]⟩ fun _ m1 _=>
     a3u E F (f1g E F k d) k [] c (fn.results.toList.map fun | .tmp t=>t | .cell p _=>p) ⟨c6m (f7b as),m1⟩ fun ex σ'=>match ex with
      | .exit _=>none
      | _=>(b5d E σ' fn.results.toList fn.resultTypes.toList).run σ'.mem ⟨[],[]⟩ fun as' m' _=>bif !a0o as' then none else match m' (900000+d,dst) with
       | some (.save sv')=>K (upW (f9h E fn.resultTypes.toList as')) (e6f sv') (b5z m')
       | _=>none
    else none
   | none=>none)
  | none=>none
def e7b {R:Type} (E:Env) (F:Call) (k n:Nat):Inl R:=bif Nat.ble n 2 then f1g E F k 4 else fun _ _ _ _ _ _=>none
def e2f (E:Env) (sg:Sig) (fn:Func) (ins:List Arg) (σ:St):M Outs:=
 (M.g5m.bind fun md=>bif md then d3b E (e7a σ fn.results.toList++f3x (b9r 0 ins)) else .ret ()).bind fun _=>
 (b5d E σ fn.results.toList fn.resultTypes.toList).bind fun as=>(b5v E sg.res (f1d E sg fn) as).bind fun res=>(a5d E 0 sg.ins (d2z sg fn) ins).bind fun vars=>.ret ⟨res,vars⟩
def d3n (E:Env) (F:Call) (k:Nat) (sg:Sig) (fn:Func) (ins:List Arg):Option Outs:=
 match fn.body with
 | some c=>((enter E 0 sg.ins (d2z sg fn) ins).bind fun as=>(bif sg.deep then M.new a6e (.row fn.params.toList.length false []) else .ret ()).bind fun _=>.ret as).run (fun _=>none) ⟨[],[]⟩ fun as m _=>
  bif c3l fn.ntmps c&&Nat.ble (d2z sg fn).length fn.ntmps&&(noS ins || b5e c) then
   a3u E F (e7b E F k (d2z sg fn).length) k (b9r 0 ins) c (fn.results.toList.map fun | .tmp t=>t | .cell p _=>p) ⟨c6m as,m⟩ fun ex σ'=>match ex with
    | .exit _=>none
    | _=>(e2f E sg fn ins σ').run σ'.mem ⟨[],[]⟩ fun o _ _=>some o
  else none
 | none=>none
def a0d (E:Env) (prim:FuncId→Option (List Arg→Option Outs)):Nat→FuncId→List Arg→Option Outs
 | 0,_,_=>none
 | k+1,f,ins=>match prim f with
  | some g=>g ins
  | none=>match E.fn f with
   | some fn=>d3n E (a0d E prim k) k (E.sig f) fn ins
   | none=>none
end Go.Proofs.Ytdbopobkdpmpgaa.Ev
