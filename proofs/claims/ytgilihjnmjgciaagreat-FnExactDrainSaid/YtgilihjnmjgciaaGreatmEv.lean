/- An evaluator of the model's code on trees and on objects that a call owns: what it answers the machine's call answers (shown in the texts behind this one). No condition. -/
import Derived.Calls
import Derived.Orders
import Derived.Maps.AppendAt
import Derived.Laws.OwnMore
import GoSem.Dispatch
namespace Go.Proofs.YtgilihjnmjgciaaGreat.Ev
open Go
set_option linter.unusedVariables false
inductive Ty where
 | int (k:IntKind) | bool | str | row (e:Nat) | ptr (e:Nat)
 | deep (e:Nat)
inductive T where
 | i (n:Int) | b (x:Bool) | s (x:ByteArray) | r (es:List (List T))
instance:Inhabited T:=⟨.i 0⟩
def T.asI:T→Int | .i n=>n | _=>0
def T.asB:T→Bool | .b x=>x | _=>false
def T.asS:T→ByteArray | .s x=>x | _=>ByteArray.empty
def T.asR:T→List (List T) | .r es=>es | _=>[]
abbrev Nm:=Nat×Nat
inductive A where
 | i (k:IntKind) (n:Int) | b (x:Bool) | s (x:ByteArray)
 | sl (e:Nat) (es:List (List T))
 | nil (e:Nat)
 | ref (n:Nm)
 | cut (n:Nm) (e f l:Nat)
 | agg (cs:List A) | tup (vs:List A)
 | ptr (n:Nm) (o:Nat)
 | ep (n:Nm) (e i o:Nat)
 | vp (tys:List Ty) (cs:List T) (o:Nat)
 | nilp | skip | undef
 | clo (f:FuncId) (n:Option Nm)
inductive O where
 | var (cs:List A)
 | row (e:Nat) (own:Bool) (es:List (List T))
 | deep (e:Nat) (es:List (List T)) (h:Option (Nat×Nat×Nm))
 | dead
 | save (as:List A)
abbrev Mem:=Nm→Option O
structure St where
 sl:Nat→A
 mem:Mem
inductive Kn where
 | int (k:IntKind) | bool | str | slice (e:Nat) | struct (offs:List (Nat×Nat)) | ptr (e:Nat) | fptr (e:Nat) | other
structure TI where
 kn:Kn
 flat:List Ty
 bytes:Nat
structure Sig where
 ins:List (List Bool)
 res:List Bool
 free:List Nat
 deep:Bool:=false
structure Env where
 tys:List TI
 fn:FuncId→Option Func
 sig:FuncId→Sig
 gl:List (Nat×(Option Obj→Prop)):=[]
 del:List (Nat×Nat):=[]
 inl:List Nat:=[]
 frz:List (List Nat):=[]
def Env.ti (E:Env) (t:Nat):TI:=bif Nat.ble 1000000 t then ⟨.fptr (t - 1000000),[],0⟩ else E.tys.getD t ⟨.other,[],0⟩
def Env.flat (E:Env) (t:Nat):List Ty:=(E.ti t).flat
def Env.sz (E:Env) (t:Nat):Nat:=(E.flat t).length
def Env.known (E:Env) (t:Nat):Bool:=Nat.ble 1 (E.sz t)
def Env.isAgg (E:Env) (t:Nat):Bool:=match (E.ti t).kn with | .struct _=>true | _=>false
def Env.elem (E:Env) (t:Nat):Nat:=match (E.ti t).kn with | .slice e=>e | .ptr e=>e | .fptr e=>e | _=>0
def Ty.flatB:Ty→Bool | .row _ | .deep _=>false | _=>true
def Env.pel (E:Env) (t:Nat):Option Nat:=match (E.ti t).kn with | .ptr e=>some e | .fptr e=>some e | _=>none
def dT:List Bool→List Ty→List Ty
 | d :: ds,.row e :: tys=>(bif d then .deep e else .row e) :: dT ds tys
 | _ :: ds,ty :: tys=>ty :: dT ds tys
 | _,tys=>tys
def fl (ws:List Bool) (tys:List Ty):List Ty:=dT (ws.drop tys.length) tys
def f7q (sg:Sig) (fn:Func):List Nat:=fn.params.toList++sg.free.map (·+1000000)
def Env.fe (E:Env) (f:FuncId):Nat:=(E.sig f).free.headD 0
def Env.plain (E:Env) (e:Nat):Bool:=(E.flat e).all Ty.flatB
inductive M (α:Type) where
 | ret (a:α) | fail
 | get (n:Nm) (k:Option O→M α)
 | set (n:Nm) (o:O) (k:M α)
 | chk (c:Bool) (k:M α)
def M.bind {α β:Type}:M α→(α→M β)→M β
 | .ret a,f=>f a
 | .fail,_=>.fail
 | .get n k,f=>.get n fun o=>(k o).bind f
 | .set n o k,f=>.set n o (k.bind f)
 | .chk c k,f=>.chk c (k.bind f)
def a9c (a b:Nm):Bool:=Nat.beq a.1 b.1&&Nat.beq a.2 b.2
def Mem.put (m:Mem) (n:Nm) (o:O):Mem:=fun x=>bif a9c x n then some o else m x
structure FP where
 rd:List Nm
 wr:List Nm
def M.run {α R:Type}:M α→Mem→FP→(α→Mem→FP→Option R)→Option R
 | .ret a,m,p,K=>K a m p
 | .fail,_,_,_=>none
 | .get n k,m,p,K=>(k (m n)).run m ⟨n :: p.rd,p.wr⟩ K
 | .set n o k,m,p,K=>k.run (m.put n o) ⟨p.rd,n :: p.wr⟩ K
 | .chk c k,m,p,K=>bif c then k.run m p K else none
def g3v:List (Nat×Nat)→Nat→Option Nat
 | [],_=>none
 | (g,e) :: r,f=>bif Nat.beq f g then some e else g3v r f
def a3l:Nm:=(999999,0)
def M.k4x:M Bool:=.get a3l fun | some _=>.ret true | none=>.ret false
def M.k4y:M Nat:=.get a3l fun | some (.row k _ _)=>.ret k | _=>.ret 0
def M.lowD (n:Nm):M Unit:=.get n fun | some (.deep e es none)=>.set n (.row e true es) (.ret ()) | _=>.ret ()
def M.k4z (n:Nm):M (Nat×List (List T)):=.get n fun | some (.row e _ es)=>.ret (e,es) | some (.deep e es none)=>.ret (e,es) | _=>.fail
def M.k5a (n:Nm):M (Nat×Nat):=.get n fun | some (.row e _ es)=>.ret (e,es.length) | some (.deep e es _)=>.ret (e,es.length) | _=>.fail
def M.row (n:Nm):M (Nat×Bool×List (List T)):=.get n fun | some (.row e d es)=>.ret (e,d,es) | _=>.fail
def M.var (n:Nm):M (List A):=.get n fun | some (.var cs)=>.ret cs | _=>.fail
def M.new (n:Nm) (o:O):M Unit:=.get n fun | none=>.set n o (.ret ()) | _=>.fail
def ofT:Ty→T→A
 | .int k,t=>.i k t.asI
 | .bool,t=>.b t.asB
 | .str,t=>.s t.asS
 | .row e,t=>.sl e t.asR
 | .ptr _,_=>.undef
 | .deep _,_=>.undef
def f1s:Nat→List Ty→List T→List A
 | _,[],_=>[]
 | j,ty :: tys,cs=>ofT ty (cs.getD j (.i 0)) :: f1s (j+1) tys cs
def g3w:Ty→A
 | .int k=>.i k 0
 | .bool=>.b false
 | .str=>.s ByteArray.empty
 | .row e=>.nil e
 | .ptr _=>.nilp
 | .deep e=>.nil e
def h3y:Ty→T
 | .int _=>.i 0
 | .bool=>.b false
 | .str=>.s ByteArray.empty
 | .row _=>.r []
 | .ptr _=>.i 0
 | .deep _=>.r []
def A.cells:A→List A | .agg cs=>cs | a=>[a]
def A.solid:A→Bool | .agg _ | .tup _ | .skip | .undef | .clo _ _=>false | _=>true
def a1f:List A→Bool
 | []=>true
 | a :: as=>a.solid&&a1f as
def c0b (E:Env) (t:Nat) (cs:List A):A:=bif E.isAgg t then .agg cs else match cs with | [a]=>a | _=>.undef
def i9w (E:Env):Ty→A→M T
 | .int k,.i k' n=>bif decide (k=k') then .ret (.i n) else .fail
 | .bool,.b x=>.ret (.b x)
 | .str,.s x=>.ret (.s x)
 | .row _,.nil _=>.ret (.r [])
 | .row e,.sl e' es=>bif Nat.beq e e' then .ret (.r es) else .fail
 | .row e,.ref n=>(M.lowD n).bind fun _=>(M.row n).bind fun (e',d,es)=>bif Nat.beq e e' then (match d with | true=>.set n (.row e' false es) (.ret (.r es)) | false=>.ret (.r es)) else .fail
 | .row e,.cut n e₁ f l=>(M.row n).bind fun (e',d,es)=>bif Nat.beq e e'&&Nat.beq e₁ e then (match d with | true=>.set n (.row e' false es) (.ret (.r ((es.drop f).take l))) | false=>.ret (.r ((es.drop f).take l))) else .fail
 | _,_=>.fail
def h3z (E:Env):List Ty→List A→M (List T)
 | [],[]=>.ret []
 | ty :: tys,a :: as=>(i9w E ty a).bind fun t=>(h3z E tys as).bind fun ts=>.ret (t :: ts)
 | _,_=>.fail
def h1h (E:Env):Ty→A→M T
 | .int k,.i k' n=>bif decide (k=k') then .ret (.i n) else .fail
 | .bool,.b x=>.ret (.b x)
 | .str,.s x=>.ret (.s x)
 | .row _,.nil _=>.ret (.r [])
 | .row e,.sl e' es=>bif Nat.beq e e' then .ret (.r es) else .fail
 | .row e,.ref n=>(M.k4z n).bind fun (e',es)=>bif Nat.beq e e' then .ret (.r es) else .fail
 | .row e,.cut n e₁ f l=>(M.row n).bind fun (e',_,es)=>bif Nat.beq e e'&&Nat.beq e₁ e then .ret (.r ((es.drop f).take l)) else .fail
 | _,_=>.fail
def d2z (E:Env):Bool→Ty→A→M T
 | true,.row _,.nil _=>.ret (.r [])
 | true,.row e,.ref n=>(M.lowD n).bind fun _=>(M.row n).bind fun (e',d,es)=>bif Nat.beq e e'&&d then .set n .dead (.ret (.r es)) else .fail
 | true,.row e,.cut n e₁ f l=>(M.row n).bind fun (e',d,es)=>bif Nat.beq e e'&&Nat.beq e₁ e&&Nat.beq f 0&&d then .chk (decide (0<es.length)) (.set n .dead (.ret (.r (es.take l)))) else .fail
 | true,.row _,_=>.fail
 | true,.deep _,.nil _=>.ret (.r [])
 | true,.deep e,.ref n=>.get n fun
  | some (.deep e' es none)=>bif Nat.beq e e' then .set n .dead (.ret (.r es)) else .fail
  | _=>.fail
 | true,.deep _,_=>.fail
 | true,.ptr e,.ptr n 0=>(M.var n).bind fun cs=>(h3z E (E.flat e) cs).bind fun c=>(M.var n).bind fun _=>.set n .dead (.ret (.r [c]))
 | _,ty,a=>i9w E ty a
def c5x (E:Env):List Bool→List Ty→List A→M (List T)
 | _,[],[]=>.ret []
 | ws,ty :: tys,a :: as=>(d2z E (ws.headD false) ty a).bind fun t=>(c5x E ws.tail tys as).bind fun ts=>.ret (t :: ts)
 | _,_,_=>.fail
def d3a (E:Env):List Bool→List Ty→List A→M (List T)
 | _,[],[]=>.ret []
 | ws,ty :: tys,a :: as=>(bif ws.headD false then d2z E true ty a else h1h E ty a).bind fun t=>(d3a E ws.tail tys as).bind fun ts=>.ret (t :: ts)
 | _,_,_=>.fail
def d9g:List Bool→List A→List Nm
 | ws,a :: as=>match ws.headD false,a with
  | false,.ref n=>n :: d9g ws.tail as
  | false,.cut n _ _ _=>n :: d9g ws.tail as
  | _,_=>d9g ws.tail as
 | _,[]=>[]
def A.fits (E:Env) (t:Nat):A→Bool
 | .agg cs=>E.isAgg t&&Nat.beq cs.length (E.sz t)
 | .tup _=>false
 | _=>!E.isAgg t&&Nat.beq (E.sz t) 1
def c5y {α:Type}:List α→Nat→List α→List α
 | cs,0,vs=>vs++cs.drop vs.length
 | c :: cs,o+1,vs=>c :: c5y cs o vs
 | [],_+1,_=>[]
def a1g:List T→Nat→List T→List T
 | cs,0,vs=>vs++cs.drop vs.length
 | c :: cs,o+1,vs=>c :: a1g cs o vs
 | [],o+1,vs=>.i 0 :: a1g [] o vs
def f1t (E:Env):List Ty→List Ty
 | .row e :: tys=>(bif E.plain e then .row e else .deep e) :: f1t E tys
 | ty :: tys=>ty :: f1t E tys
 | []=>[]
def b8q (E:Env):List Ty→List A→M Bool
 | .row e :: tys,.ref n :: as=>.get n fun
  | some (.row _ d _)=>(match d with | true=>bif E.plain e then b8q E tys as else .ret false | false=>.ret false)
  | some (.deep _ _ none)=>b8q E tys as
  | _=>.ret false
 | .row _ :: tys,.nil _ :: as=>b8q E tys as
 | .row _ :: _,_ :: _=>.ret false
 | _ :: tys,_ :: as=>b8q E tys as
 | _,_=>.ret true
def f5z (E:Env) (tys:List Ty) (as:List A):M (List T):=c5x E (tys.map fun | .row _=>true | _=>false) (f1t E tys) as
def i1t (es:List (List T)) (i j:Nat) (t:T):List (List T):=es.set i (a1g (es.getD i []) j [t])
def i5n (E:Env) (e j e':Nat):Bool:=match (E.flat e)[j]? with | some (.row x)=>Nat.beq x e' | _=>false
def f6a (E:Env):Nat→Nm→M Unit
 | 0,_=>.ret ()
 | k+1,n=>.get n fun
  | some (.deep _ _ (some (_,_,n₀)))=>(f6a E k n₀).bind fun _=>.get n fun
   | some (.deep e es (some (i,j,n')))=>.get n' fun
    | some (.row e' true es')=>bif i5n E e j e'&&E.plain e' then .set n' .dead (.set n (.deep e (i1t es i j (.r es')) none) (.ret ())) else .ret ()
    | some (.deep e' es' none)=>bif i5n E e j e' then .set n' .dead (.set n (.deep e (i1t es i j (.r es')) none) (.ret ())) else .ret ()
    | _=>.ret ()
   | _=>.ret ()
  | _=>.ret ()
def g3x (E:Env):List Nm→M Unit
 | []=>.ret ()
 | n :: ns=>(f6a E 3 n).bind fun _=>g3x E ns
def A.nms:A→List Nm
 | .ref n=>[n]
 | .cut n _ _ _=>[n]
 | .ep n _ _ _=>[n]
 | _=>[]
def j3k:List A→List Nm
 | []=>[]
 | a :: as=>a.nms++j3k as
def A.tops:A→List Nm
 | .agg cs=>j3k cs
 | .ptr n _=>[n]
 | .clo _ (some n)=>[n]
 | a=>a.nms
def f7r (n:Nm):M (List Nm):=.get n fun | some (.var cs)=>.ret (j3k cs) | _=>.ret [n]
def f7s (E:Env):List Nm→M Unit
 | []=>.ret ()
 | n :: ns=>(f7r n).bind fun l=>(g3x E l).bind fun _=>f7s E ns
def a3e (E:Env) (σ:St) (t:Nat):Operand→A
 | .tmp i=>σ.sl i
 | .const (.int k n)=>.i k n
 | .const (.bool x)=>.b x
 | .const (.string x)=>.s x
 | .const (.slice none 0 0)=>.nil (E.elem t)
 | .const (.pointer none)=>.nilp
 | .func f=>.clo f none
 | _=>.undef
def e4y (E:Env) (t:Nat):A→M A
 | .ptr n o=>(M.var n).bind fun cs=>bif E.known t&&Nat.ble (o+E.sz t) cs.length then .ret (c0b E t ((cs.drop o).take (E.sz t))) else .fail
 | .ep n e i o=>(M.row n).bind fun (e',_,es)=>bif Nat.beq e e'&&E.known t&&Nat.ble (o+E.sz t) (E.sz e) then .ret (c0b E t (f1s o (((E.flat e).drop o).take (E.sz t)) (es.getD i []))) else .fail
 | .vp tys cs o=>bif E.known t&&Nat.ble (o+E.sz t) tys.length then .ret (c0b E t (f1s o ((tys.drop o).take (E.sz t)) cs)) else .fail
 | _=>.fail
def d9h (E:Env) (t:Nat) (v:A):A→M A
 | .ptr n o=>(M.var n).bind fun cs=>bif E.known t&&Nat.ble (o+E.sz t) cs.length&&Nat.beq v.cells.length (E.sz t)&&a1f v.cells then .set n (.var (c5y cs o v.cells)) (.ret .skip) else .fail
 | .ep n e i o=>(h3z E (((E.flat e).drop o).take (E.sz t)) v.cells).bind fun ts=>(M.row n).bind fun (e',d,es)=>bif Nat.beq e e'&&d&&E.known t&&Nat.ble (o+E.sz t) (E.sz e)&&a1f v.cells then .set n (.row e d (es.set i (a1g (es.getD i []) o ts))) (.ret .skip) else .fail
 | _=>.fail
def h4a (E:Env) (dst t:Nat) (n:Nm) (e i o:Nat) (es:List (List T)):M A:=
 bif E.known t&&Nat.ble (o+E.sz t) (E.sz e) then
  bif (((E.flat e).drop o).take (E.sz t)).all Ty.flatB then .ret (c0b E t (f1s o (((E.flat e).drop o).take (E.sz t)) (es.getD i [])))
  else match E.isAgg t,(E.flat e)[o]? with
   | false,some (.row e')=>(M.new (dst,0) (bif E.plain e' then .row e' true ((es.getD i []).getD o (.i 0)).asR else .deep e' ((es.getD i []).getD o (.i 0)).asR none)).bind fun _=>.set n (.deep e es (some (i,o,(dst,0)))) (.ret (.ref (dst,0)))
   | _,_=>.fail
 else .fail
def b4d (E:Env) (s nm:Nat):Nat→List Bool→List Ty→List T→M (List A)
 | _,_,[],_=>.ret []
 | j,ws,ty :: tys,cs=>(match ws.headD false,ty with
  | true,.row e=>(M.new (s,nm+j+1) (.row e true ((cs.getD j (.i 0)).asR))).bind fun _=>.ret (.ref (s,nm+j+1))
  | true,.deep e=>(M.new (s,nm+j+1) (.deep e ((cs.getD j (.i 0)).asR) none)).bind fun _=>.ret (.ref (s,nm+j+1))
  | true,.ptr e=>(M.new (s,nm+j+1) (.var (f1s 0 (E.flat e) ((cs.getD j (.i 0)).asR.headD [])))).bind fun _=>.ret (.ptr (s,nm+j+1) 0)
  | _,ty=>.ret (ofT ty (cs.getD j (.i 0))):M A).bind fun a=>(b4d E s nm (j+1) ws.tail tys cs).bind fun r=>.ret (a :: r)
def i6v (tys:List Ty):List Bool:=tys.map fun | .row _=>true | _=>false
def d7n (es:List (List T)) (i:Nat):Nat→Nat→List T
 | _,0=>[]
 | o,n+1=>(es.getD i []).getD o (.i 0) :: d7n es i (o+1) n
def h6l (E:Env) (dst t:Nat) (n:Nm) (e i o:Nat) (es:List (List T)):M A:=
 bif E.known t&&E.isAgg t&&Nat.ble (o+E.sz t) (E.sz e) then
  .set n (.deep e es (some (i,E.sz e,a3l))) ((b4d E dst 0 0 (i6v (((E.flat e).drop o).take (E.sz t))) (f1t E (((E.flat e).drop o).take (E.sz t))) (d7n es i o (E.sz t))).bind fun as=>bif Nat.beq o 0&&Nat.beq (E.sz t) (E.sz e) then .set n (.deep e es (some (i,E.sz e,(dst,0)))) (.ret (.agg as)) else .ret (.agg as))
 else .fail
def d3b:Nat→List Ty→Option (Nat×Nat)
 | _,[]=>none
 | j,.row e :: r=>bif r.all Ty.flatB then some (j,e) else none
 | j,ty :: r=>bif ty.flatB then d3b (j+1) r else none
def h6m (E:Env) (dst t:Nat) (n:Nm) (e i o:Nat) (es:List (List T)) (j e':Nat):M A:=
 bif E.known t&&E.isAgg t&&Nat.ble (o+E.sz t) (E.sz e) then
  (M.new (dst,j+1) (bif E.plain e' then .row e' true ((es.getD i []).getD (o+j) (.i 0)).asR else .deep e' ((es.getD i []).getD (o+j) (.i 0)).asR none)).bind fun _=>
   .set n (.deep e es (some (i,o+j,(dst,j+1)))) (.ret (.agg ((f1s o (((E.flat e).drop o).take (E.sz t)) (es.getD i [])).set j (.ref (dst,j+1)))))
 else .fail
def i5o (E:Env) (t e o:Nat):Bool:=!E.isAgg t&&(match (E.flat e)[o]? with | some (.row _)=>true | _=>false)
def i6w (E:Env) (dst t:Nat):A→M A
 | .ep n e i o=>.get n fun
  | some (.deep e' es none)=>M.k4x.bind fun md=>bif Nat.beq e e'&&((((E.flat e).drop o).take (E.sz t)).all Ty.flatB || (md&&i5o E t e o)) then h4a E dst t n e i o es else bif Nat.beq e e'&&md&&E.isAgg t then (match d3b 0 (((E.flat e).drop o).take (E.sz t)) with | some (j,e₁)=>h6m E dst t n e i o es j e₁ | none=>h6l E dst t n e i o es) else (M.lowD n).bind fun _=>e4y E t (.ep n e i o)
  | some (.deep e' es (some (i',j',nm)))=>bif Nat.beq e e'&&(((E.flat e).drop o).take (E.sz t)).all Ty.flatB&&Nat.blt j' (E.sz e)&&!((E.flat e).getD j' .bool).flatB then h4a E dst t n e i o es
   else (match d3b 0 (((E.flat e).drop o).take (E.sz t)) with
    | some (j,_)=>bif Nat.beq e e'&&E.isAgg t&&E.known t&&Nat.ble (o+E.sz t) (E.sz e)&&Nat.beq (o+j) j' then .chk (Nat.beq i i') (.ret (.agg ((f1s o (((E.flat e).drop o).take (E.sz t)) (es.getD i [])).set j (.ref nm)))) else e4y E t (.ep n e i o)
    | none=>e4y E t (.ep n e i o))
  | _=>e4y E t (.ep n e i o)
 | a=>e4y E t a
def g3y (E:Env) (t:Nat) (v:A) (n:Nm) (e i o:Nat):M A:=
 bif E.known t&&Nat.ble (o+E.sz t) (E.sz e)&&Nat.beq v.cells.length (E.sz t)&&a1f v.cells then
  (f5z E (((E.flat e).drop o).take (E.sz t)) v.cells).bind fun ts=>.get n fun
   | some (.deep e' es none)=>bif Nat.beq e e' then .set n (.deep e (es.set i (a1g (es.getD i []) o ts)) none) (.ret .skip) else .fail
   | some (.deep e' es (some (i',j',_)))=>bif Nat.beq e e'&&(Nat.beq j' o&&Nat.beq (E.sz t) 1 || Nat.ble (E.sz e) j'&&Nat.beq (E.sz t) (E.sz e)) then .chk (Nat.beq i' i) (.set n (.deep e (es.set i (a1g (es.getD i []) o ts)) none) (.ret .skip)) else .fail
   | _=>.fail
 else .fail
def c9u (E:Env):List Ty→List A→List T→M Unit
 | .row e :: tys,.ref n :: as,t :: ts=>.get n fun | some .dead=>.set n (.row e false t.asR) (c9u E tys as ts) | _=>c9u E tys as ts
 | _ :: tys,_ :: as,_ :: ts=>c9u E tys as ts
 | _,_,_=>.ret ()
def h1i (E:Env) (t:Nat) (v:A) (n:Nm) (e i o:Nat):M A:=
 bif E.known t&&Nat.ble (o+E.sz t) (E.sz e)&&Nat.beq v.cells.length (E.sz t)&&a1f v.cells&&Nat.beq (E.sz t) (E.sz e) then
  (f5z E (((E.flat e).drop o).take (E.sz t)) v.cells).bind fun ts=>.get n fun
   | some (.deep e' es (some (i',_,_)))=>bif Nat.beq e e' then .chk (Nat.beq i' i) (.set n (.row e true (es.set i (a1g (es.getD i []) o ts))) ((c9u E (((E.flat e).drop o).take (E.sz t)) v.cells ts).bind fun _=>.ret .skip)) else .fail
   | _=>.fail
 else .fail
def g3z (n:Nm):List A→Bool
 | []=>false
 | .ref x :: as=>Nat.beq x.1 n.1 || g3z n as
 | _ :: as=>g3z n as
def h6n (E:Env) (t:Nat) (v:A):A→M A
 | .ep n e i o=>.get n fun
  | some (.deep _ _ (some (_,j',n')))=>(b8q E (((E.flat e).drop o).take (E.sz t)) v.cells).bind fun b=>bif b then (bif Nat.ble (E.sz e) j'&&g3z n' v.cells then h1i E t v n e i o else g3y E t v n e i o) else (M.lowD n).bind fun _=>d9h E t v (.ep n e i o)
  | some (.deep _ _ none)=>(b8q E (((E.flat e).drop o).take (E.sz t)) v.cells).bind fun b=>bif b then g3y E t v n e i o else (M.lowD n).bind fun _=>d9h E t v (.ep n e i o)
  | _=>d9h E t v (.ep n e i o)
 | a=>d9h E t v a
def d3c (E:Env) (t j:Nat):Option (Nat×Nat):=match (E.ti t).kn with | .struct fs=>fs[j]? | _=>none
def d7o (E:Env) (t j:Nat) (p:A):M A:=
 match d3c E t j,p with
 | some (o',_),.ptr n o=>.ret (.ptr n (o+o'))
 | some (o',_),.ep n e i o=>.ret (.ep n e i (o+o'))
 | some (o',_),.vp tys cs o=>.ret (.vp tys cs (o+o'))
 | _,_=>.fail
def h6o (E:Env) (t j:Nat) (v:A):M A:=
 match d3c E t j,v with
 | some (o',ft),.agg cs=>bif E.known ft&&Nat.ble (o'+E.sz ft) cs.length then .ret (c0b E ft ((cs.drop o').take (E.sz ft))) else .fail
 | _,_=>.fail
def Ty.notPtr:Ty→Bool | .ptr _ | .deep _=>false | _=>true
def c5w (E:Env) (t e:Nat):Bool:=(E.flat e).all Ty.notPtr&&Nat.beq (E.elem t) e&&(match (E.ti t).kn with | .slice _=>true | _=>false)&&Nat.ble 1 (E.sz e)&&Nat.ble 1 (E.ti e).bytes
def d7p (E:Env) (t:Nat) (x i:A):M A:=
 match x,i with
 | .ref n,.i _ j=>(M.k5a n).bind fun (e,l)=>bif c5w E t e then .chk (decide (0≤j)&&decide (j<(l:Int))) (.ret (.ep n e j.toNat 0)) else .fail
 | .cut n e f l,.i _ j=>bif c5w E t e then .chk (decide (0≤j)&&decide (j<(l:Int))) (.ret (.ep n e (f+j.toNat) 0)) else .fail
 | .sl e es,.i _ j=>bif c5w E t e then .chk (decide (0≤j)&&decide (j<(es.length:Int))) (.ret (.vp (E.flat e) (es.getD j.toNat []) 0)) else .fail
 | _,_=>.fail
def j3l:A→M A
 | .nil _=>.ret (.i .i64 0)
 | .sl _ es=>.ret (.i .i64 (es.length:Int))
 | .ref n=>(M.k5a n).bind fun (_,l)=>.ret (.i .i64 (l:Int))
 | .cut _ _ _ l=>.ret (.i .i64 (l:Int))
 | _=>.fail
def c5z (k:IntKind) (a b:Int):Int:=k.wrap (BitVec.ofInt k.bits a ^^^ BitVec.ofInt k.bits b).toNat
def h6p (k:IntKind) (a b:Int):Int:=k.wrap (BitVec.ofInt k.bits a&&& BitVec.ofInt k.bits b).toNat
def i5p (k:IntKind) (a b:Int):Int:=k.wrap (BitVec.ofInt k.bits a ||| BitVec.ofInt k.bits b).toNat
def j3m (op:BinOp) (x y:A):M A:=
 match x,y with
 | .i k a,.i k' b=>
  match op with
  | .shl=>.chk (decide (0≤b)) (.ret (.i k (k.wrap (a*2 ^ (min b.toNat k.bits)))))
  | .shr=>.chk (decide (0≤b)) (.ret (.i k (a.fdiv (2 ^ (min b.toNat k.bits)))))
  | _=>bif decide (k=k') then
   match op with
   | .add=>.ret (.i k (k.wrap (a+b)))
   | .sub=>.ret (.i k (k.wrap (a - b)))
   | .mul=>.ret (.i k (k.wrap (a*b)))
   | .quo=>.chk (!decide (b=0)) (.ret (.i k (k.wrap (a.tdiv b))))
   | .rem=>.chk (!decide (b=0)) (.ret (.i k (a.tmod b)))
   | .eql=>.ret (.b (a == b))
   | .neq=>.ret (.b (a != b))
   | .lss=>.ret (.b (decide (a<b)))
   | .leq=>.ret (.b (decide (a≤b)))
   | .gtr=>.ret (.b (decide (a > b)))
   | .geq=>.ret (.b (decide (a≥b)))
   | .xor=>.ret (.i k (c5z k a b))
   | .and=>.ret (.i k (h6p k a b))
   | .or=>.ret (.i k (i5p k a b))
   | _=>.fail
  else .fail
 | .s a,.s b=>match op with
  | .add=>.chk (Nat.ble (a.size+b.size) 9223372036854775807) (.ret (.s (a++b)))
  | .eql=>.ret (.b (a.toList == b.toList))
  | .neq=>.ret (.b (!(a.toList == b.toList)))
  | _=>.fail
 | _,_=>.fail
def j0i:Kn→Bool | .bool=>true | _=>false
def j3n (E:Env) (op:BinOp) (xt:Nat) (x y:A):M A:=
 match x,y with
 | .b a,.b b=>bif j0i (E.ti xt).kn then (match op with | .eql=>.ret (.b (a == b)) | .neq=>.ret (.b (!(a == b))) | _=>.fail) else .fail
 | x,y=>j3m op x y
def unM (op:UnOp) (x:A):M A:=
 match op,x with
 | .not,.b x=>.ret (.b (!x))
 | _,_=>.fail
def i6x (E:Env) (dst:Nat) (x:A):M A:=
 match (E.ti dst).kn,x with
 | .int k,.i _ n=>.ret (.i k (k.wrap n))
 | _,_=>.fail
def h6q:Kn→Bool | .str=>true | _=>false
def h1j (s:ByteArray) (j:Nat):Int:=((s.data.toList.getD j 0).toNat:Int)
def h6r (E:Env) (t:Nat) (x i:A):M A:=
 match x,i with
 | .s s,.i _ j=>bif h6q (E.ti t).kn then .chk (decide (0≤j)&&decide (j<(s.size:Int))) (.ret (.i .u8 (h1j s j.toNat))) else .fail
 | _,_=>.fail
def h6s (es:List (List T)):ByteArray:=⟨(es.map fun c=>UInt8.ofNat (c.getD 0 (.i 0)).asI.toNat).toArray⟩
def u8s:List Ty→Bool | [.int .u8]=>true | _=>false
def u8K:Kn→Bool | .int .u8=>true | _=>false
def d1t (e:Nat):A→M (List (List T))
 | .nil _=>.ret []
 | .sl e' es=>bif Nat.beq e e' then .ret es else .fail
 | .cut n e₁ f l=>(M.row n).bind fun (e',_,es)=>bif Nat.beq e e'&&Nat.beq e e₁ then .ret ((es.drop f).take l) else .fail
 | .ref n=>(M.row n).bind fun (e',_,es)=>bif Nat.beq e e' then .ret es else .fail
 | _=>.fail
def i6y (E:Env) (s t:Nat) (x:A):M A:=
 bif h6q (E.ti t).kn then
  bif c5w E s (E.elem s)&&u8s (E.flat (E.elem s))&&u8K (E.ti (E.elem s)).kn then (d1t (E.elem s) x).bind fun es=>.ret (.s (h6s es)) else .fail
 else i6x E t x
def d1u:Operand→Option Nat | .tmp i=>some i | _=>none
def d1v (E:Env) (dst t:Nat) (x:A) (y:A):M A:=
 bif c5w E t (E.elem t) then
 match x with
 | .nil _=>(d1t (E.elem t) y).bind fun es'=>
  .chk (decide (es'.length*(E.ti (E.elem t)).bytes≤140737488355328)) ((M.new (dst,0) (.row (E.elem t) true es')).bind fun _=>.ret (.ref (dst,0)))
 | .ref n=>(M.row n).bind fun (e,d,es)=>(d1t (E.elem t) y).bind fun es'=>
  bif Nat.beq (E.elem t) e&&d then .chk (decide ((es.length+es'.length)*(E.ti (E.elem t)).bytes≤140737488355328)) (.set n .dead ((M.new (dst,0) (.row (E.elem t) true (es++es'))).bind fun _=>.ret (.ref (dst,0)))) else .fail
 | _=>.fail
 else .fail
def i1u:A→M Unit
 | .ref n=>M.lowD n
 | _=>.ret ()
def f1u (n:Nm):Nat→List Ty→List T→List A
 | _,[],_=>[]
 | j,.row _ :: tys,cs=>.ref (n.1,n.2+j+1) :: f1u n (j+1) tys cs
 | j,ty :: tys,cs=>ofT ty (cs.getD j (.i 0)) :: f1u n (j+1) tys cs
def j3o (E:Env) (n:Nm):M Unit:=.get n fun
 | some (.deep e es (some (i,k,n')))=>bif Nat.ble (E.sz e) k&&!(Nat.beq n'.1 999999) then
   (h3z E (E.flat e) (f1u n' 0 (E.flat e) (es.getD i []))).bind fun ts=>.get n fun
    | some (.deep e2 es2 (some (i2,_,_)))=>bif Nat.beq e e2 then .chk (Nat.beq i i2) (.set n (.row e true (es2.set i (a1g (es2.getD i []) 0 ts))) (.ret ())) else .fail
    | _=>.fail
  else .ret ()
 | _=>.ret ()
def j2m (E:Env):A→M Unit
 | .ref n=>(M.lowD n).bind fun _=>j3o E n
 | _=>.ret ()
def i1y:A→M (Bool×Bool)
 | .nil _=>.ret (true,false)
 | .ref n=>.get n fun | some (.deep _ _ none)=>.ret (true,true) | _=>.ret (false,false)
 | _=>.ret (false,false)
def e4z (E:Env) (dst t:Nat) (x:A) (y:A):M A:=
 bif c5w E t (E.elem t) then
  (d2z E true (.deep (E.elem t)) x).bind fun a=>(d2z E true (.deep (E.elem t)) y).bind fun b=>
   .chk (decide ((a.asR.length+b.asR.length)*(E.ti (E.elem t)).bytes≤140737488355328)) ((M.new (dst,0) (.deep (E.elem t) (a.asR++b.asR) none)).bind fun _=>.ret (.ref (dst,0)))
 else .fail
def i1z:A→M Bool
 | .ref n=>.get n fun | some (.deep _ _ (some (_,_,nm)))=>M.k4y.bind fun k=>.ret (Nat.blt nm.1 k) | _=>.ret false
 | _=>.ret false
def f7t (E:Env) (dst t:Nat) (x:A):A→M A
 | .ref n=>bif c5w E t (E.elem t) then
  (d2z E true (.deep (E.elem t)) x).bind fun a=>.get n fun
   | some (.deep e' es (some (i,j,nm)))=>bif Nat.beq (E.elem t) e'&&Nat.blt j (E.sz e') then .set n .dead
    (.chk (decide ((a.asR.length+es.length)*(E.ti (E.elem t)).bytes≤140737488355328)) ((M.new (dst,0) (.deep (E.elem t) (a.asR++es) (some (a.asR.length+i,j,nm)))).bind fun _=>.ret (.ref (dst,0)))) else .fail
   | _=>.fail
  else .fail
 | _=>.fail
def g8p (E:Env) (dst t:Nat) (x:A) (y:A):M A:=
 bif E.plain (E.elem t) then d1v E dst t x y else
 M.k4x.bind fun md=>(i1y x).bind fun dx=>(i1y y).bind fun dy=>
  (i1z y).bind fun ly=>bif dx.1&&ly then f7t E dst t x y else
  bif dx.1&&dy.1&&(dx.2 || (md&&dy.2)) then e4z E dst t x y else (i1u x).bind fun _=>(i1u y).bind fun _=>d1v E dst t x y
def b7e (E:Env) (e:Nat):List T:=(E.flat e).map h3y
def a3u (es:List (List T)) (f:Nat) (xs:List (List T)):List (List T):=es.take f++(xs++es.drop (f+xs.length))
def i6z (E:Env) (t:Nat) (x y:A):M A:=
 bif c5w E t (E.elem t)&&Nat.beq (E.sz (E.elem t)) 1 then
 match x with
 | .ref n=>(M.row n).bind fun (e,d,es)=>(d1t (E.elem t) y).bind fun ys=>bif Nat.beq (E.elem t) e&&d then .set n (.row e true (a3u es 0 (ys.take es.length))) (.ret (.i .i64 ((ys.take es.length).length:Int))) else .fail
 | .cut n e₁ f l=>(M.row n).bind fun (e,d,es)=>(d1t (E.elem t) y).bind fun ys=>bif Nat.beq (E.elem t) e&&Nat.beq e₁ e&&d then .set n (.row e true (a3u es f (ys.take l))) (.ret (.i .i64 ((ys.take l).length:Int))) else .fail
 | _=>.fail
 else .fail
def h6t (E:Env) (t:Nat) (x:A):M A:=
 bif c5w E t (E.elem t) then
 match x with
 | .ref n=>(M.row n).bind fun (e,d,es)=>bif Nat.beq (E.elem t) e&&d then .set n (.row e true (a3u es 0 (List.replicate es.length (b7e E e)))) (.ret (.tup [])) else .fail
 | .cut n e₁ f l=>(M.row n).bind fun (e,d,es)=>bif Nat.beq (E.elem t) e&&Nat.beq e₁ e&&d then .set n (.row e true (a3u es f (List.replicate l (b7e E e)))) (.ret (.tup [])) else .fail
 | _=>.fail
 else .fail
def i2a (E:Env) (dst t:Nat) (n c:A):M A:=
 match n,c with
 | .i .i64 n,.i .i64 c=>bif c5w E t (E.elem t) then .chk (decide (n=c)&&decide (0≤n)&&decide (n*(E.ti (E.elem t)).bytes≤140737488355328)) ((M.new (dst,0) (.row (E.elem t) true (List.replicate n.toNat (b7e E (E.elem t))))).bind fun _=>.ret (.ref (dst,0))) else .fail
 | _,_=>.fail
def i7a (E:Env) (dst t:Nat) (n c:A):M A:=
 match n,c with
 | .i .i64 n,.i .i64 c=>bif c5w E t (E.elem t) then .chk (decide (n=c)&&decide (0≤n)&&decide (n*(E.ti (E.elem t)).bytes≤140737488355328)) ((M.new (dst,0) (.deep (E.elem t) (List.replicate n.toNat (b7e E (E.elem t))) none)).bind fun _=>.ret (.ref (dst,0))) else .fail
 | _,_=>.fail
def i7b (E:Env) (dst t:Nat) (n c:A):M A:=
 bif E.plain (E.elem t) then i2a E dst t n c else
 M.k4x.bind fun md=>bif md then i7a E dst t n c else i2a E dst t n c
def i7c (E:Env) (σ:St) (t:Nat) (j:Nat):List (Nat×Operand)→Option A
 | []=>none
 | (i,x) :: r=>bif Nat.beq i j then some (a3e E σ t x) else i7c E σ t j r
def i2b (E:Env) (σ:St) (e:Nat):Nat→List (Nat×Operand)→M (List (List T))
 | _,[]=>.ret []
 | j,(i,x) :: r=>bif Nat.beq i j&&a1f (a3e E σ e x).cells then (h3z E (E.flat e) (a3e E σ e x).cells).bind fun c=>(i2b E σ e (j+1) r).bind fun cs=>.ret (c :: cs) else .fail
def i5q (E:Env) (σ:St) (e:Nat):Nat→List (Nat×Operand)→M (List (List T))
 | _,[]=>.ret []
 | j,(i,x) :: r=>bif Nat.beq i j&&a1f (a3e E σ e x).cells&&Nat.beq (a3e E σ e x).cells.length (E.sz e) then (f5z E (E.flat e) (a3e E σ e x).cells).bind fun c=>(i5q E σ e (j+1) r).bind fun cs=>.ret (c :: cs) else .fail
def f7u:A→Bool | .i _ _ | .b _ | .s _ | .nil _=>true | _=>false
def d9i (k:Nat):Nat→List A→Option (Nat×Nm)
 | _,[]=>none
 | j,.ref n :: r=>bif Nat.blt n.1 k&&r.all f7u then some (j,n) else none
 | j,a :: r=>bif f7u a then d9i k (j+1) r else none
def f6b (E:Env) (σ:St) (e k:Nat):List (Nat×Operand)→Option (Nat×Nm)
 | [(0,x)]=>d9i k 0 (a3e E σ e x).cells
 | _=>none
def b4s (E:Env) (σ:St) (e:Nat):List (Nat×Operand)→M Bool
 | []=>.ret true
 | (_,x) :: r=>(b8q E (E.flat e) (a3e E σ e x).cells).bind fun b=>bif b then b4s E σ e r else .ret false
def c0e (E:Env) (σ:St) (fs:List (Nat×Nat)):List (Nat×Operand)→List A→Option (List A)
 | [],cs=>some cs
 | (j,x) :: r,cs=>match fs[j]? with
  | some (o,ft)=>bif Nat.beq (a3e E σ ft x).cells.length (E.sz ft)&&Nat.ble (o+(a3e E σ ft x).cells.length) cs.length&&a1f (a3e E σ ft x).cells then c0e E σ fs r (c5y cs o (a3e E σ ft x).cells) else none
  | none=>none
def bnd (d:Int):Option A→Option Int
 | none=>some d
 | some (.i _ a)=>some a
 | _=>none
def h6u (E:Env) (t:Nat) (x:A) (lo hi:Option A):M A:=
 match x with
 | .s s=>(match bnd 0 lo,bnd s.size hi with
  | some a,some b=>bif h6q (E.ti t).kn then .chk (decide (0≤a)&&decide (a≤b)&&decide (b≤(s.size:Int))) (.ret (.s (s.extract a.toNat b.toNat))) else .fail
  | _,_=>.fail)
 | .sl e es=>(match bnd 0 lo,bnd es.length hi with
  | some a,some b=>bif c5w E t e then .chk (decide (0≤a)&&decide (a≤b)&&decide (b≤(es.length:Int))) (.ret (.sl e ((es.drop a.toNat).take (b.toNat - a.toNat)))) else .fail
  | _,_=>.fail)
 | .ref n=>(M.row n).bind fun (e,_,es)=>(match bnd 0 lo,bnd es.length hi with
  | some a,some b=>bif c5w E t e then .chk (decide (0≤a)&&decide (a≤b)&&decide (b≤(es.length:Int))) (.ret (.cut n e a.toNat (b.toNat - a.toNat))) else .fail
  | _,_=>.fail)
 | .cut n e₁ f l=>(M.row n).bind fun (e,_,es)=>(match bnd 0 lo,bnd l hi with
  | some a,some b=>bif c5w E t e&&Nat.beq e₁ e then .chk (decide (0≤a)&&decide (a≤b)&&decide (b+(f:Int)≤(es.length:Int))&&decide (f<es.length)) (.ret (.cut n e (f+a.toNat) (b.toNat - a.toNat))) else .fail
  | _,_=>.fail)
 | _=>.fail
def b6q (l:Nat) (a b:Int):Bool:=decide (0≤a)&&decide (a<b)&&decide (b≤(l:Int))
def e5a (E:Env) (e dst:Nat):List A→M A
 | [.ref n,.i .i64 a,.i .i64 b]=>.get n fun
  | some (.row e' true es)=>bif Nat.beq e e' then .chk (b6q es.length a b) (.set n .dead ((M.new (dst,0) (.row e true (es.take a.toNat++es.drop b.toNat))).bind fun _=>.ret (.ref (dst,0)))) else .fail
  | some (.deep e' es none)=>bif Nat.beq e e' then .chk (b6q es.length a b) (.set n .dead ((M.new (dst,0) (.deep e (es.take a.toNat++es.drop b.toNat) none)).bind fun _=>.ret (.ref (dst,0)))) else .fail
  | some (.deep e' es (some (i,_,_)))=>bif Nat.beq e e' then .chk (b6q es.length a b) (.chk (decide (a≤(i:Int))&&decide ((i:Int)<b)) (.set n .dead ((M.new (dst,0) (.deep e (es.take a.toNat++es.drop b.toNat) none)).bind fun _=>.ret (.ref (dst,0))))) else .fail
  | _=>.fail
 | _=>.fail
def j0j (E:Env) (e dst:Nat):List A→M A
 | [x,.i .i64 i,y]=>bif Nat.ble 1 (E.sz e) then (d2z E true (.deep e) x).bind fun a=>(d2z E true (.deep e) y).bind fun b=>
  .chk (decide (0<b.asR.length)) (.chk (decide (0≤i)&&decide (i≤(a.asR.length:Int))) (.chk (decide ((a.asR.length+b.asR.length)*(E.ti e).bytes≤140737488355328))
   ((M.new (dst,0) (.deep e (a.asR.take i.toNat++b.asR++a.asR.drop i.toNat) none)).bind fun _=>.ret (.ref (dst,0))))) else .fail
 | _=>.fail
def h4b (E:Env) (e dst:Nat) (as:List A):M A:=bif Nat.blt e 1000000 then e5a E e dst as else j0j E (e - 1000000) dst as
inductive Arg where
 | v (cs:List T)
 | p (cs:List T)
 | c (f:FuncId) (o:Option (List T))
 | r (es:List (List T))
 | s (cs:List T)
structure Outs where
 res:List T
 vars:List (List T)
structure Lent where
 n:Nm
 ws:List Bool
 tys:List Ty
 row:Bool
 as:Option (List A)
def b7f (ws:List Bool) (e:Nat):Ty:=bif ws.headD false then .deep e else .row e
def i5r (E:Env) (t:Nat) (ws:List Bool):Option Nat:=match E.flat t,ws with | [.row e],[_,true]=>some e | _,_=>none
def h4c (ws:List Bool) (e:Nat) (es:List (List T)):O:=bif ws.headD false then .deep e es none else .row e true es
def Ty.isRow:Ty→Bool | .row _ | .deep _=>true | _=>false
def f7v:List Bool→List Ty→Bool
 | ws,ty :: tys=>(!ty.isRow || ws.headD false)&&f7v ws.tail tys
 | _,[]=>true
def c6a:List A→Bool
 | .ref _ :: as=>c6a as
 | .nil _ :: as=>c6a as
 | .i _ _ :: as=>c6a as
 | .b _ :: as=>c6a as
 | .s _ :: as=>c6a as
 | []=>true
 | _=>false
def h6v (E:Env) (t:Nat) (ws:List Bool):Bool:=E.isAgg t&&Nat.beq ws.length (2*E.sz t+1)&&(E.flat t).all Ty.notPtr&&f7v ws (fl ws (E.flat t))
def d7q (E:Env):List (List Bool)→List Nat→List A→M (List Arg×List Lent×List Nm)
 | _,[],[]=>.ret ([],[],[])
 | ws,t :: ts,a :: as=>
  match a with
  | .clo f none=>(d7q E ws.tail ts as).bind fun (r,l,v)=>.ret (.c f none :: r,l,v)
  | .clo f (some n)=>(M.var n).bind fun cs=>(c5x E [] (E.flat (E.fe f)) cs).bind fun c=>(M.var n).bind fun _=>.set n .dead ((d7q E ws.tail ts as).bind fun (r,l,v)=>.ret (.c f (some c) :: r,⟨n,[],E.flat (E.fe f),false,none⟩ :: l,v))
  | a=>
  match E.pel t with
  | some e=>(match a with
   | .ptr n 0=>(M.var n).bind fun cs=>(c5x E (ws.headD []) (fl (ws.headD []) (E.flat e)) cs).bind fun c=>(M.var n).bind fun _=>.set n .dead ((d7q E ws.tail ts as).bind fun (r,l,v)=>.ret (.p c :: r,⟨n,ws.headD [],fl (ws.headD []) (E.flat e),false,none⟩ :: l,v))
   | _=>.fail)
  | none=>
  match i5r E t (ws.headD []) with
  | some e=>(match a with
   | .ref n=>(d2z E true (b7f (ws.headD []) e) (.ref n)).bind fun c=>(d7q E ws.tail ts as).bind fun (r,l,v)=>.ret (.r c.asR :: r,⟨n,[true],[b7f (ws.headD []) e],true,none⟩ :: l,v)
   | _=>.fail)
  | none=>bif a.fits E t then bif h6v E t (ws.headD []) then
    bif c6a a.cells then (c5x E (ws.headD []) (fl (ws.headD []) (E.flat t)) a.cells).bind fun c=>(d7q E ws.tail ts as).bind fun (r,l,v)=>.ret (.s c :: r,⟨(0,0),ws.headD [],fl (ws.headD []) (E.flat t),false,some a.cells⟩ :: l,v) else .fail
   else (d3a E (ws.headD []) (fl (ws.headD []) (E.flat t)) a.cells).bind fun c=>(d7q E ws.tail ts as).bind fun (r,l,v)=>.ret (.v c :: r,l,d9g (ws.headD []) a.cells++v) else .fail
 | _,_,_=>.fail
def M.back (n:Nm) (o:O):M Unit:=.get n fun | some .dead=>.set n o (.ret ()) | _=>.fail
def h6w:Nat→List Bool→List Ty→List A→List T→M Unit
 | j,ws,ty :: tys,a :: as,cs=>(match ws.headD false,ty,a with
  | true,.row e,.ref n=>M.back n (.row e true (cs.getD j (.i 0)).asR)
  | true,.deep e,.ref n=>M.back n (.deep e (cs.getD j (.i 0)).asR none)
  | _,_,_=>.ret ():M Unit).bind fun _=>h6w (j+1) ws.tail tys as cs
 | _,_,_,_,_=>.ret ()
def b8r (E:Env) (d:Nat):Nat→List Lent→List (List T)→M Unit
 | _,[],_=>.ret ()
 | i,l :: ls,vs=>(match l.as with
  | some as=>h6w 0 l.ws l.tys as (vs.headD [])
  | none=>match l.row,l.tys with
  | true,[.row e]=>M.back l.n (.row e true ((vs.headD []).getD 0 (.i 0)).asR)
  | true,[.deep e]=>M.back l.n (.deep e ((vs.headD []).getD 0 (.i 0)).asR none)
  | true,_=>.fail
  | false,_=>(b4d E d (100*(i+1)) 0 l.ws l.tys (vs.headD [])).bind fun cs=>M.back l.n (.var cs):M Unit).bind fun _=>b8r E d (i+1) ls vs.tail
def c8x:List Nm→M Unit
 | []=>.ret ()
 | n :: ns=>.get n fun | some (.row _ _ _)=>c8x ns | some (.deep _ _ _)=>c8x ns | _=>.fail
def c2i:List Nm→M Unit
 | []=>.ret ()
 | n :: ns=>.get n fun
  | some (.row e true es)=>.set n (.row e false es) (c2i ns)
  | some (.row _ false _)=>c2i ns
  | some (.deep e es none)=>.set n (.row e false es) (c2i ns)
  | _=>.fail
def b7g (E:Env):List Bool→List Ty→Bool
 | ws,.row e :: tys=>!(ws.headD false) || !E.plain e || b7g E ws.tail tys
 | ws,.deep _ :: tys=>!(ws.headD false) || b7g E ws.tail tys
 | ws,.ptr e :: tys=>!E.plain e || b7g E ws.tail tys
 | ws,_ :: tys=>b7g E ws.tail tys
 | _,[]=>false
def b1l (E:Env):List Lent→Bool
 | []=>false
 | l :: ls=>b7g E l.ws l.tys || b1l E ls
def i2c (E:Env) (cs:List A):List Nat→List A
 | []=>[]
 | t :: ts=>c0b E t (cs.take (E.sz t)) :: i2c E (cs.drop (E.sz t)) ts
def g4a (E:Env):List Nat→List Ty
 | []=>[]
 | t :: ts=>E.flat t++g4a E ts
def i2d (E:Env) (sg:Sig) (fn:Func):List Ty:=fl sg.res (g4a E fn.resultTypes.toList)
abbrev Call:=FuncId→List Arg→Option Outs
def c8y (E:Env) (σ:St) (dst:Nat) (b:Builtin) (args:List Operand) (tys:List Nat):M A:=
 match b,args,tys with
 | .len,[x],[t]=>(match (E.ti t).kn with | .slice _=>j3l (a3e E σ t x) | .str=>(match a3e E σ t x with | .s x=>.ret (.i .i64 (x.size:Int)) | _=>.fail) | _=>.fail)
 | .append,[x,y],[t,u]=>bif Nat.beq t u then g8p E dst t (a3e E σ t x) (a3e E σ u y) else .fail
 | .copy,[x,y],[t,u]=>i6z E t (a3e E σ t x) (a3e E σ u y)
 | .clear,[x],[t]=>h6t E t (a3e E σ t x)
 | .max,[x,y],[t,u]=>(match a3e E σ t x,a3e E σ u y with | .i k a,.i k' b=>bif decide (k=k') then .ret (.i k (if b > a then b else a)) else .fail | _,_=>.fail)
 | .min,[x,y],[t,u]=>(match a3e E σ t x,a3e E σ u y with | .i k a,.i k' b=>bif decide (k=k') then .ret (.i k (if b<a then b else a)) else .fail | _,_=>.fail)
 | _,_,_=>.fail
def d9j (E:Env) (σ:St) (dst t n:Nat) (ps:Array (Nat×Operand)):M A:=
 bif c5w E t (E.elem t)&&Nat.beq ps.toList.length n&&Nat.ble (n*E.sz (E.elem t)) 16777216 then
  (i2b E σ (E.elem t) 0 ps.toList).bind fun es=>(M.new (dst,0) (.row (E.elem t) true es)).bind fun _=>.ret (.ref (dst,0)) else .fail
def g4b (E:Env) (σ:St) (dst t n:Nat) (ps:Array (Nat×Operand)):M A:=
 bif c5w E t (E.elem t)&&Nat.beq ps.toList.length n&&Nat.ble (n*E.sz (E.elem t)) 16777216 then
  (i5q E σ (E.elem t) 0 ps.toList).bind fun es=>(M.new (dst,0) (.deep (E.elem t) es none)).bind fun _=>.ret (.ref (dst,0)) else .fail
def e5b (E:Env) (σ:St) (dst t n j:Nat) (nm:Nm):List (Nat×Operand)→M A
 | [(
  0,x)]=>bif c5w E t (E.elem t)&&Nat.beq n 1&&Nat.ble (E.sz (E.elem t)) 16777216&&a1f (a3e E σ (E.elem t) x).cells&&Nat.beq (a3e E σ (E.elem t) x).cells.length (E.sz (E.elem t)) then
  (d3a E [] (E.flat (E.elem t)) (a3e E σ (E.elem t) x).cells).bind fun c=>(M.new (dst,0) (.deep (E.elem t) [c] (some (0,j,nm)))).bind fun _=>.ret (.ref (dst,0)) else .fail
 | _=>.fail
def opM (E:Env) (σ:St) (o:Oper) (dst:Nat):M A:=
 match o.op with
 | .move x | .assign x=>.ret (a3e E σ o.type x)
 | .pick c a b=>match a3e E σ 0 c with
  | .b x=>(match a3e E σ o.type a,a3e E σ o.type b with
   | .b p,.b q=>.ret (.b (bif x then p else q))
   | p,q=>(match x with | true=>.ret p | false=>.ret q))
  | _=>.fail
 | .alloc t=>bif E.known t then (M.new (dst,0) (.var ((E.flat t).map g3w))).bind fun _=>.ret (.ptr (dst,0) 0) else .fail
 | .box t v=>bif Nat.beq (a3e E σ t v).cells.length (E.sz t)&&a1f (a3e E σ t v).cells then (M.new (dst,0) (.var (a3e E σ t v).cells)).bind fun _=>.ret (.ptr (dst,0) 0) else .fail
 | .build t ps=>match (E.ti t).kn with
  | .struct fs=>(match c0e E σ fs ps.toList ((E.flat t).map g3w) with | some cs=>bif E.known t then .ret (.agg cs) else .fail | none=>.fail)
  | _=>.fail
 | .buildSlice t n ps=>bif E.plain (E.elem t) then d9j E σ dst t n ps else
   M.k4x.bind fun md=>bif md then ((b4s E σ (E.elem t) ps.toList).bind fun b=>bif b then (M.k4y.bind fun k=>match f6b E σ (E.elem t) k ps.toList with | some (j,nm)=>e5b E σ dst t n j nm ps.toList | none=>g4b E σ dst t n ps) else d9j E σ dst t n ps) else d9j E σ dst t n ps
 | .load t p=>i6w E dst t (a3e E σ 0 p)
 | .store t p v=>h6n E t (a3e E σ t v) (a3e E σ 0 p)
 | .nilCheck x=>match a3e E σ 0 x with | .ptr n o=>.ret (.ptr n o) | .ep n e i o=>.ret (.ep n e i o) | .vp t c o=>.ret (.vp t c o) | _=>.fail
 | .binOp op xt x y yt=>j3n E op xt (a3e E σ xt x) (a3e E σ yt y)
 | .unOp op xt x=>unM op (a3e E σ xt x)
 | .convert s t x=>bif E.known s then i6y E s t (a3e E σ s x) else .fail
 | .makeSlice t n c=>i7b E dst t (a3e E σ 0 n) (a3e E σ 0 c)
 | .slice t x lo hi none=>(j2m E (a3e E σ t x)).bind fun _=>h6u E t (a3e E σ t x) (lo.map (a3e E σ 0)) (hi.map (a3e E σ 0))
 | .fieldAddr t x j=>d7o E t j (a3e E σ 0 x)
 | .field t x j=>h6o E t j (a3e E σ t x)
 | .indexAddr t x i=>d7p E t (a3e E σ t x) (a3e E σ 0 i)
 | .index t x i=>h6r E t (a3e E σ t x) (a3e E σ 0 i)
 | .makeFunc (.func f) first captured=>(match first.toList,captured.toList.map (a3e E σ 0) with
  | [],[]=>.ret (.clo f none)
  | [],[.ptr n 0]=>.ret (.clo f (some n))
  | _,_=>.fail)
 | .extract x j=>match a3e E σ 0 x with | .tup vs=>(match vs[j]? with | some v=>.ret v | none=>.fail) | _=>.fail
 | .call c=>(match c.callee with | .builtin b=>c8y E σ dst b c.args.toList c.argTypes.toList | _=>.fail)
 | _=>.fail
def St.put (σ:St) (d:Option Nat) (a:A):St:=
 match d with
 | none=>σ
 | some i=>⟨fun j=>bif Nat.beq j i then a else σ.sl j,σ.mem⟩
def callee? (σ:St) (o:Oper):Option (FuncId×List Operand×List A):=
 match o.op with
 | .call { callee:=.value (.func f),args,.. }=>some (f,args.toList,[])
 | .call { callee:=.value (.tmp i),args,.. }=>(match σ.sl i with
  | .clo f none=>some (f,args.toList,[])
  | .clo f (some n)=>some (f,args.toList,[.ptr n 0])
  | _=>none)
 | _=>none
def c6b (E:Env) (σ:St):List Nat→List Operand→List A
 | t :: ts,x :: xs=>a3e E σ t x :: c6b E σ ts xs
 | _,_=>[]
def e5c:List A→Bool
 | []=>true
 | .tup _ :: _=>false
 | _ :: r=>e5c r
def behind (E:Env) (sg:Sig) (fn:Func) (d:Nat) (l:List Lent) (seen:List Nm) (out:Outs):M A:=
 (bif b7g E sg.res (i2d E sg fn) || b1l E l then c2i seen else .ret ()).bind fun _=>
 (b4d E d 0 0 sg.res (i2d E sg fn) out.res).bind fun cs=>(b8r E d 0 l out.vars).bind fun _=>
  .ret (match fn.resultTypes.toList with | [t]=>c0b E t cs | ts=>.tup (i2c E cs ts))
def j3p (ls:Bool):A→List Nm
 | .ptr n _=>bif ls then [] else [n]
 | a=>a.tops
def c1a (σ:St) (ls:Bool):List Operand→List Nm
 | []=>[]
 | .tmp i :: r=>j3p ls (σ.sl i)++c1a σ ls r
 | _ :: r=>c1a σ ls r
def g4c:Op→Bool | .load _ _ | .store _ _ _=>true | _=>false
def i5s:Op→Bool | .load _ _ | .store _ _ _ | .call _ | .buildSlice _ _ _ | .slice _ _ _ _ _=>true | _=>false
def g8q (E:Env):List Nm→M Unit
 | []=>.ret ()
 | n :: ns=>(i1z (.ref n)).bind fun l=>(bif l then .ret () else f6a E 3 n).bind fun _=>g8q E ns
def d3d (E:Env):List Nm→M Unit
 | []=>.ret ()
 | n :: ns=>(f7r n).bind fun l=>(g8q E l).bind fun _=>d3d E ns
def c8z (E:Env) (σ:St):Op→Bool
 | .load t p=>(match a3e E σ 0 p with | .ep _ e _ o=>(((E.flat e).drop o).take (E.sz t)).all Ty.flatB | _=>false)
 | _=>false
def g8r (E:Env) (σ:St):Op→M Bool
 | .load t p=>(match a3e E σ 0 p with
  | .ep n e _ o=>(match E.isAgg t,d3b 0 (((E.flat e).drop o).take (E.sz t)) with
   | true,some (j,_)=>.get n fun | some (.deep _ _ (some (_,j',nm)))=>.ret (Nat.ble 500000 nm.2&&Nat.beq (o+j) j') | _=>.ret false
   | _,_=>.ret false)
  | _=>.ret false)
 | _=>.ret false
def f1v (E:Env) (σ:St) (o:Oper):M Unit:=bif !i5s o.op || c8z E σ o.op then .ret () else (g8r E σ o.op).bind fun hd=>bif hd then .ret () else match c1a σ (g4c o.op) o.op.operands.toList with | []=>.ret () | n :: ns=>M.k4x.bind fun md=>bif md then d3d E (n :: ns) else .ret ()
def d7m {R:Type} (E:Env) (F:Call) (σ:St) (o:Oper) (K:St→FP→Option R):Option R:=
 match callee? σ o with
 | some (f,args,more)=>
  match g3v E.del f with
  | some e=>(match more with
   | []=>(h4b E e (o.dst.getD 0) (args.map (a3e E σ 0))).run σ.mem ⟨[],[]⟩ fun a m p=>K (St.put ⟨σ.sl,m⟩ o.dst a) p
   | _=>none)
  | none=>
  match E.fn f with
  | none=>none
  | some fn=>bif Nat.beq args.length fn.params.toList.length&&Nat.beq more.length (E.sig f).free.length&&e5c (c6b E σ fn.params.toList args) then
   ((
    f1v E σ o).bind fun _=>(d7q E (E.sig f).ins (f7q (E.sig f) fn) (c6b E σ fn.params.toList args++more)).bind fun r=>(c8x r.2.2).bind fun _=>.ret r).run σ.mem ⟨[],[]⟩ fun (ins,l,seen) m p=>
    match F f ins with
    | none=>none
    | some out=>(behind E (E.sig f) fn (o.dst.getD 0) l seen out).run m p fun a m p=>K (St.put ⟨σ.sl,m⟩ o.dst a) p
   else none
 | none=>((f1v E σ o).bind fun _=>opM E σ o (o.dst.getD 0)).run σ.mem ⟨[],[]⟩ fun a m p=>K (St.put ⟨σ.sl,m⟩ o.dst a) p
def h1k (ops:List Oper) (j:Nat):Option Nat:=match ops[j]? with | some o=>o.dst | none=>none
def a4q {R:Type} (E:Env) (F:Call) (all:List Oper):List Oper→St→List FP→(St→List FP→Option R)→Option R
 | [],σ,ps,K=>K σ ps
 | o :: os,σ,ps,K=>
  match o.guard with
  | none=>d7m E F σ o fun σ' p=>a4q E F all os σ' (p :: ps) K
  | some (j,want)=>
   match h1k all j with
   | none=>none
   | some s=>
    match σ.sl s with
    | .b x=>
     match want with
     | true=>bif x then d7m E F (σ.put (some s) (.b true)) o fun σ' p=>a4q E F all os σ' (p :: ps) K else a4q E F all os ((σ.put (some s) (.b false)).put o.dst .skip) (⟨[],[]⟩ :: ps) K
     | false=>bif x then a4q E F all os ((σ.put (some s) (.b true)).put o.dst .skip) (⟨[],[]⟩ :: ps) K else d7m E F (σ.put (some s) (.b false)) o fun σ' p=>a4q E F all os σ' (p :: ps) K
    | .skip=>a4q E F all os (σ.put o.dst .skip) (⟨[],[]⟩ :: ps) K
    | _=>none
def b6r:List Oper→List Nat→List Nat
 | [],acc=>acc
 | o :: os,acc=>b6r os (acc++[o.after.toList.foldl (fun s e=>bif Region.binds .any e then Nat.lor (Nat.lor s (2 ^ e.on)) (acc.getD e.on 0) else s) 0])
def f7w (all:List Oper) (o:Oper):List Nat:=(o.op.operands.toList.filterMap d1u)++(match o.guard with | some (j,_)=>(h1k all j).toList | none=>[])
def i5t (x:Nat) (l:List Nat):Bool:=l.any (Nat.beq x)
def h6x (a b:List Nm):Bool:=a.any fun x=>b.any (a9c x)
def b8p (all:List Oper) (x y:Oper):Bool:=
 (match x.dst with | some d=>!i5t d (f7w all y)&&!(match y.dst with | some e=>Nat.beq d e | none=>false) | none=>true)&&(match y.dst with | some d=>!i5t d (f7w all x) | none=>true)
def d7r (p q:FP):Bool:=!h6x p.wr q.rd&&!h6x p.wr q.wr&&!h6x q.wr p.rd
def h6y (all:List Oper) (bs:List Nat) (ps:List FP):Bool:=
 (List.range all.length).all fun j=>(List.range j).all fun i=>
  Nat.testBit (bs.getD j 0) i || (match all[i]?,all[j]? with | some x,some y=>b8p all x y&&d7r (ps.getD i ⟨[],[]⟩) (ps.getD j ⟨[],[]⟩) | _,_=>false)
def e5d:List Oper→Nat→Bool
 | [],_=>true
 | o :: os,j=>o.after.toList.all (fun e=>!(Region.binds .any e) || Nat.blt e.on j)&&e5d os (j+1)
def j3q:List Oper→Bool
 | []=>true
 | o :: os=>(match o.op with | .select _ _=>false | _=>true)&&j3q os
def i7d (all:List Oper) (ps:List FP):Bool:=e5d all 0&&h6y all (b6r all []) ps
def f7x (all:List Oper):List Nat:=all.flatMap (f7w all)
def f7y:Code→List Nat
 | .region _ ops _=>f7x ops.toList
 | .seq a b=>f7y a++f7y b
 | .cond c a b=>(d1u c).toList++f7y a++f7y b
 | .block _ a | .loop a | .scope a=>f7y a
 | _=>[]
def i5u (all:List Oper):List Oper→List Nat→List Nat×List Nat
 | [],as=>([],as)
 | o :: os,as=>let r:=i5u all os (o.dst.toList++as);((f7w all o).filter (fun x=>!i5t x as)++r.1,r.2)
def a9d:Code→List Nat→List Nat×List Nat
 | .region _ ops _,as=>i5u ops.toList ops.toList as
 | .seq a b,as=>let r:=a9d a as;let q:=a9d b r.2;(r.1++q.1,q.2)
 | .cond c a b,as=>((d1u c).toList.filter (fun x=>!i5t x as)++(a9d a as).1++(a9d b as).1,as)
 | .block _ a,as | .loop a,as | .scope a,as=>((a9d a as).1,as)
 | _,as=>([],as)
def f7z:List Nat→List Nat
 | []=>[]
 | x :: xs=>bif i5t x xs then f7z xs else x :: f7z xs
def h6z (x:Nat):List Nat→List Nat
 | []=>[x]
 | y :: ys=>bif Nat.blt x y then x :: y :: ys else y :: h6z x ys
def g4d:List Nat→List Nat
 | []=>[]
 | x :: xs=>h6z x (g4d xs)
def b8s (l:List (Nm×Nm)) (n:Nm):Option Nm:=match l with | []=>none | (a,b) :: r=>bif a9c n a then some b else b8s r n
def f8a (m:Mem) (at_:Nm) (ren:List (Nm×Nm)) (n:Nm):List (Nm×Nm):=
 match b8s ren n with
 | some _=>ren
 | none=>match m n with | some (.row _ _ _)=>ren++[(n,at_)] | some (.deep _ _ _)=>ren++[(n,at_)] | _=>ren
def j0k (m:Mem) (at_:Nm) (ren:List (Nm×Nm)):A→List (Nm×Nm)
 | .ref n=>f8a m at_ ren n
 | .cut n _ _ _=>f8a m at_ ren n
 | .ep n _ _ _=>f8a m at_ ren n
 | _=>ren
def h7a (m:Mem) (s:Nat):Nat→List (Nm×Nm)→List A→List (Nm×Nm)
 | _,ren,[]=>ren
 | j,ren,a :: as=>h7a m s (j+1) (j0k m (s,j) ren a) as
def j0l (m:Mem) (s:Nat) (ren:List (Nm×Nm)):A→List (Nm×Nm)
 | .agg as=>h7a m s 1 ren as
 | .ptr n _ | .clo _ (some n)=>match b8s ren n with
  | some _=>ren
  | none=>match m n with
   | some (.var cs)=>h7a m n.1 1 (ren++[(n,n)]) cs
   | _=>ren
 | a=>j0k m (s,0) ren a
def h7b (σ:St):List Nat→List (Nm×Nm)→List (Nm×Nm)
 | [],ren=>ren
 | i :: is,ren=>h7b σ is (j0l σ.mem i ren (σ.sl i))
def g8s (ren:List (Nm×Nm)):A→A
 | .ref n=>match b8s ren n with | some n'=>.ref n' | none=>.undef
 | .cut n e f l=>match b8s ren n with | some n'=>.cut n' e f l | none=>.undef
 | .ep n e i o=>match b8s ren n with | some n'=>.ep n' e i o | none=>.undef
 | .ptr n o=>match b8s ren n with | some n'=>.ptr n' o | none=>.undef
 | .clo f (some n)=>match b8s ren n with | some n'=>.clo f (some n') | none=>.undef
 | .agg _=>.undef
 | .tup _=>.undef
 | a=>a
def d1w (ren:List (Nm×Nm)):List A→List A
 | []=>[]
 | a :: as=>g8s ren a :: d1w ren as
def i9x (ren:List (Nm×Nm)):A→A
 | .agg as=>bif a1f (d1w ren as) then .agg (d1w ren as) else .undef
 | a=>g8s ren a
def j0m (ren:List (Nm×Nm)):Option O→O
 | some (.var cs)=>bif a1f (d1w ren cs) then .var (d1w ren cs) else .dead
 | some (.deep e es none)=>.deep e es none
 | some (.deep _ _ _)=>.dead
 | some (.save _)=>.dead
 | some o=>o
 | none=>.dead
def b8t (m:Mem) (ren:List (Nm×Nm)):List (Nm×Nm)→List (Nm×O)
 | []=>[]
 | (a,b) :: r=>(b,j0m ren (m a)) :: b8t m ren r
def h7c (σ:St) (ren:List (Nm×Nm)):List Nat→List (Nat×A)
 | []=>[]
 | i :: is=>(i,i9x ren (σ.sl i)) :: h7c σ ren is
def g4e (D:Nat→Bool) (at_:Nm):A→A×List (Nm×O)
 | .nil e=>(.ref at_,[(at_,bif D e then .deep e [] none else .row e true [])])
 | a=>(a,[])
def b7h (D:Nat→Bool) (s:Nat):Nat→List A→List A×List (Nm×O)
 | _,[]=>([],[])
 | j,a :: as=>((g4e D (s,j) a).1 :: (b7h D s (j+1) as).1,(g4e D (s,j) a).2++(b7h D s (j+1) as).2)
def g8t (D:Nat→Bool) (s:Nat):A→A×List (Nm×O)
 | .agg as=>(.agg (b7h D s 1 as).1,(b7h D s 1 as).2)
 | a=>g4e D (s,0) a
def c9r (D:Nat→Bool):List (Nat×A)→List (Nat×A)×List (Nm×O)
 | []=>([],[])
 | (i,a) :: r=>((i,(g8t D i a).1) :: (c9r D r).1,(g8t D i a).2++(c9r D r).2)
def c1b (D:Nat→Bool):List (Nm×O)→List (Nm×O)×List (Nm×O)
 | []=>([],[])
 | (n,.var cs) :: r=>((n,.var (b7h D n.1 1 cs).1) :: (c1b D r).1,(b7h D n.1 1 cs).2++(c1b D r).2)
 | (n,o) :: r=>((n,o) :: (c1b D r).1,(c1b D r).2)
def a3k:List (Nat×A)→Nat→A
 | [],_=>.undef
 | (i,a) :: r,j=>bif Nat.beq j i then a else a3k r j
def a1e:List (Nm×O)→Mem
 | [],_=>none
 | (n,o) :: r,x=>bif a9c x n then some o else a1e r x
def b7i:List Nm→Bool
 | []=>true
 | n :: ns=>!(ns.any (a9c n))&&b7i ns
def d3e {α β:Type}:List (α×β)→List α
 | []=>[]
 | (a,_) :: r=>a :: d3e r
def i9y {α β:Type}:List (α×β)→List β
 | []=>[]
 | (_,b) :: r=>b :: i9y r
def c9a (m:Mem):List Nm→Bool
 | []=>true
 | n :: ns=>match m n with | some _=>c9a m ns | none=>false
def g4f (ren:List (Nm×Nm)):List Nat→Bool
 | []=>true
 | i :: is=>(match b8s ren (i,0) with | some n=>a9c n (i,0) | none=>false)&&g4f ren is
def e4g (D:Nat→Bool) (pins keep:List Nat) (σ:St) (ren:List (Nm×Nm)):Option St:=
 bif g4f ren pins&&b7i (d3e ren)&&b7i (i9y ren)&&c9a σ.mem (d3e ren)&&b7i (d3e ((c9r D (h7c σ ren keep)).2++(c1b D (b8t σ.mem ren ren)).2++(c1b D (b8t σ.mem ren ren)).1)) then
  some ⟨a3k (c9r D (h7c σ ren keep)).1,a1e ((c9r D (h7c σ ren keep)).2++(c1b D (b8t σ.mem ren ren)).2++(c1b D (b8t σ.mem ren ren)).1)⟩
 else none
def j3r (a b:Nm):Bool:=Nat.blt a.1 b.1 || (Nat.beq a.1 b.1&&Nat.blt a.2 b.2)
def d1x (p:Nm×O):List (Nm×O)→List (Nm×O)
 | []=>[p]
 | q :: r=>bif j3r p.1 q.1 then p :: q :: r else q :: d1x p r
def h4d:List (Nm×O)→List (Nm×O)
 | []=>[]
 | p :: r=>d1x p (h4d r)
def g8u (D:Nat→Bool) (pins keep:List Nat) (σ:St) (ren:List (Nm×Nm)):Option St:=
 bif g4f ren pins&&b7i (d3e ren)&&b7i (i9y ren)&&c9a σ.mem (d3e ren)&&b7i (d3e ((c9r D (h7c σ ren keep)).2++(c1b D (b8t σ.mem ren ren)).2++(c1b D (b8t σ.mem ren ren)).1)) then
  some ⟨a3k (c9r D (h7c σ ren keep)).1,a1e (h4d ((c9r D (h7c σ ren keep)).2++(c1b D (b8t σ.mem ren ren)).2++(c1b D (b8t σ.mem ren ren)).1))⟩
 else none
def h7d (m:Mem):List Nat→List (Nm×Nm)→List (Nm×Nm)
 | [],ren=>ren
 | i :: is,ren=>h7d m is (f8a m (i,0) (j0l m i ren (.ptr (i,0) 0)) (i,0))
def i7e (D:Nat→Bool) (pins keep:List Nat) (σ:St):Option St:=g8u D pins keep σ (h7b σ keep (h7d σ.mem pins []))
def d3f (m:Mem):Bool:=match m a3l with | some _=>true | none=>false
def j3s (E:Env) (m:Mem) (e:Nat):Bool:=d3f m&&!E.plain e
def f8b (m:Mem) (σ:St):St:=bif d3f m&&!d3f σ.mem then ⟨σ.sl,σ.mem.put a3l .dead⟩ else σ
def j2n:List Nm→M Unit
 | []=>.ret ()
 | n :: ns=>(M.lowD n).bind fun _=>j2n ns
def j3t (E:Env):A→M A
 | .ref n=>.get n fun
  | some (.row e _ _)=>(i9w E (.row e) (.ref n)).bind fun t=>.ret (.sl e t.asR)
  | _=>.ret (.ref n)
 | .nil e=>.ret (.sl e [])
 | a=>.ret a
def i7f (E:Env):List A→M (List A)
 | []=>.ret []
 | a :: as=>(j3t E a).bind fun b=>(i7f E as).bind fun bs=>.ret (b :: bs)
def j0n (E:Env):List Nm→M Unit
 | []=>.ret ()
 | n :: ns=>.get n fun
  | some (.var cs)=>(i7f E cs).bind fun cs'=>(M.var n).bind fun _=>.set n (.var cs') (j0n E ns)
  | _=>j0n E ns
def j4k:List Nat→List Nat→Bool
 | [],[]=>true
 | a :: as,b :: bs=>Nat.beq a b&&j4k as bs
 | _,_=>false
def i7g:List (List Nat)→List Nat→Bool
 | [],_=>false
 | l :: ls,keep=>j4k l keep || i7g ls keep
def g4g (E:Env) (pins keep:List Nat) (σ:St):Option St:=
 bif d3f σ.mem then
  (g3x E (d3e (h7b σ keep (h7d σ.mem pins [])))).run σ.mem ⟨[],[]⟩ fun _ m _=>match i7e (j3s E m) pins keep ⟨σ.sl,m⟩ with | some σ'=>some (f8b m σ') | none=>none
 else ((j2n (d3e (h7b σ keep (h7d σ.mem pins [])))).bind fun _=>bif i7g E.frz keep then j0n E (d3e (h7b σ keep (h7d σ.mem pins []))) else .ret ()).run σ.mem ⟨[],[]⟩ fun _ m _=>i7e (fun _=>false) pins keep ⟨σ.sl,m⟩
def d7s (a:Nat):Bool:=Nat.blt a 2 || (Nat.ble 900000 a&&Nat.blt a 1000000)
def d3g (n:Nm):Nm:=bif d7s n.1 then n else (n.1+1000000,n.2)
def d3h (n:Nm):Option Nm:=bif d7s n.1 then some n else bif Nat.blt n.1 1000002 || d7s (n.1 - 1000000) then none else some (n.1 - 1000000,n.2)
def upA:A→A
 | .ref n=>.ref (d3g n)
 | .cut n e f l=>.cut (d3g n) e f l
 | .ptr n o=>.ptr (d3g n) o
 | .ep n e i o=>.ep (d3g n) e i o
 | .clo f (some n)=>.clo f (some (d3g n))
 | a=>a
def i9z:List A→List A
 | []=>[]
 | a :: as=>upA a :: i9z as
def upV:A→A
 | .agg cs=>.agg (i9z cs)
 | a=>upA a
def j0a:List A→List A
 | []=>[]
 | a :: as=>upV a :: j0a as
def upW:A→A
 | .tup vs=>.tup (j0a vs)
 | a=>upV a
def h6i:List A→List A
 | []=>[]
 | a :: as=>upW a :: h6i as
def upO:O→O
 | .var cs=>.var (i9z cs)
 | .deep e es (some (i,j,n))=>.deep e es (some (i,j,d3g n))
 | .save as=>.save (h6i as)
 | o=>o
def c6c (m:Mem):Mem:=fun x=>match d3h x with
 | some n=>(match m n with | some o=>some (upO o) | none=>none)
 | none=>none
abbrev Inl (R:Type):=FuncId→List A→List A→Nat→Mem→(A→List A→Mem→Option R)→Option R
def h7e (E:Env) (σ:St) (o:Oper):Option (FuncId×Func×List Operand):=
 match o.guard,callee? σ o with
 | none,some (f,args,[])=>bif i5t f E.inl then (match E.fn f with | some fn=>some (f,fn,args) | none=>none) else none
 | _,_=>none
def i2e (σ:St):List Nat→List A
 | []=>[]
 | i :: is=>σ.sl i :: i2e σ is
def g8v:List Nat→List A→List (Nat×A)
 | i :: is,a :: as=>(i,a) :: g8v is as
 | _,_=>[]
def d3i {R:Type} (E:Env) (F:Call) (I:Inl R) (all:List Oper) (keep:List Nat):List Oper→St→(St→Option R)→Option R
 | [],σ,K=>K σ
 | o :: os,σ,K=>match h7e E σ o with
  | some (f,fn,args)=>bif Nat.beq args.length fn.params.toList.length&&e5c (c6b E σ fn.params.toList args) then
    I f (c6b E σ fn.params.toList args) (i2e σ keep) (o.dst.getD 0) σ.mem fun a sv m=>d3i E F I all keep os (St.put ⟨a3k (g8v keep sv),m⟩ o.dst a) K
   else none
  | none=>a4q E F all [o] σ [] fun σ' _=>d3i E F I all keep os σ' K
inductive Pre where | low (n:Nm) | opn (n d:Nm) (i j:Nat)
def M.dry {α:Type}:M α→Mem→Option (α×Mem)
 | .ret a,m=>some (a,m)
 | .fail,_=>none
 | .get n k,m=>(k (m n)).dry m
 | .set n o k,m=>k.dry (m.put n o)
 | .chk _ k,m=>k.dry m
def j0o (E:Env) (m0:Mem) (σ:St) (o:Oper):List Pre:=match o.op with
 | .slice t x _ _ _=>(match a3e E σ t x with
  | .ref n=>(match m0 n with | some (.deep _ _ _)=>[.low n] | _=>[])
  | _=>[])
 | .load t p=>(match a3e E σ 0 p with
  | .ep n e i o'=>(match m0 n with
   | some (.deep _ _ none)=>bif E.isAgg t&&d3f m0 then (match d3b 0 (((E.flat e).drop o').take (E.sz t)) with | some (j,_)=>[.opn n (o.dst.getD 0,500000+j) i (o'+j)] | none=>[]) else []
   | _=>[])
  | _=>[])
 | _=>[]
def i7h (E:Env) (m0:Mem):List Oper→St→List Pre
 | [],_=>[]
 | o :: os,σ=>match o.guard,callee? σ o with
  | none,none=>j0o E m0 σ o++(match ((f1v E σ o).bind fun _=>opM E σ o (o.dst.getD 0)).dry σ.mem with
   | some (a,m)=>i7h E m0 os (St.put ⟨σ.sl,m⟩ o.dst a)
   | none=>[])
  | _,_=>[]
def j0b (E:Env):List Pre→M Unit
 | []=>.ret ()
 | .low n :: r=>(j2m E (.ref n)).bind fun _=>j0b E r
 | .opn n d i j :: r=>(M.get n fun
  | some (.deep e es none)=>(match (E.flat e)[j]? with
   | some (.row e')=>.chk (Nat.blt i es.length) ((M.new d (bif E.plain e' then .row e' true ((es.getD i []).getD j (.i 0)).asR else .deep e' ((es.getD i []).getD j (.i 0)).asR none)).bind fun _=>.set n (.deep e es (some (i,j,d))) (.ret ()))
   | _=>.ret ())
  | _=>.ret ():M Unit).bind fun _=>j0b E r
def j0p (E:Env):Nat→List Oper→Option Nat
 | _,[]=>none
 | i,o :: os=>match h7e E ⟨fun _=>.undef,fun _=>none⟩ o with
  | some _=>some i
  | none=>j0p E (i+1) os
def f8c (all:List Oper) (bs:List Nat) (ps:List FP) (i0 i1:Nat):Bool:=
 (List.range i1).all fun j=>(List.range j).all fun i=>Nat.blt i i0 ||
  (Nat.testBit (bs.getD j 0) i || (match all[i]?,all[j]? with | some x,some y=>b8p all x y&&d7r (ps.getD (i - i0) ⟨[],[]⟩) (ps.getD (j - i0) ⟨[],[]⟩) | _,_=>false))
def j3u (all:List Oper) (bs:List Nat) (i:Nat):Bool:=
 (List.range all.length).all fun k=>Nat.blt k i || ((List.range i).all (fun j=>Nat.testBit (bs.getD k 0) j)&&(Nat.beq k i || Nat.testBit (bs.getD k 0) i))
def f8d {R:Type} (E:Env) (F:Call) (I:Inl R) (all:List Oper) (keep:List Nat) (σ:St) (K:St→Option R):Option R:=
 match j0p E 0 all with
 | none=>a4q E F all all σ [] fun σ' ps=>bif i7d all ps.reverse then K σ' else none
 | some i=>bif e5d all 0&&j3u all (b6r all []) i&&Nat.blt i all.length then
   a4q E F all (all.take i) σ [] fun σ1 ps=>bif f8c all (b6r all []) ps.reverse 0 i then
    (match all[i]? with
    | some o=>(match h7e E σ1 o with
     | some (f,fn,args)=>bif Nat.beq args.length fn.params.toList.length&&e5c (c6b E σ1 fn.params.toList args) then
       I f (c6b E σ1 fn.params.toList args) (i2e σ1 keep) (o.dst.getD 0) σ1.mem fun a sv m=>
        a4q E F all (all.drop (i+1)) (St.put ⟨a3k (g8v keep sv),m⟩ o.dst a) [] fun σ' ps=>bif f8c all (b6r all []) ps.reverse (i+1) all.length then K σ' else none
      else none
     | none=>none)
    | none=>none)
   else none
  else none
inductive Ex where | normal | exit (id:Nat) | ret
def i2f {R:Type} (E:Env) (body:St→(Ex→St→Option R)→Option R) (pins keep:List Nat) (K:Ex→St→Option R):Nat→St→Option R
 | 0,_=>none
 | k+1,σ=>body σ fun ex σ'=>match ex with | .normal=>(match g4g E pins keep σ' with | some σ''=>i2f E body pins keep K k σ'' | none=>none) | e=>K e σ'
def a5l {R:Type} (E:Env) (F:Call) (I:Inl R) (k:Nat) (pins:List Nat):Code→List Nat→St→(Ex→St→Option R)→Option R
 | .skip,_,σ,K=>K .normal σ
 | .region _ ops draw,out,σ,K=>match draw with
  | true=>(j0b E (i7h E σ.mem ops.toList σ)).run σ.mem ⟨[],[]⟩ fun _ m _=>f8d E F I ops.toList (g4d (f7z (f7x ops.toList++out))) ⟨σ.sl,m⟩ fun σ'=>K .normal σ'
  | false=>d3i E F I ops.toList (g4d (f7z (f7x ops.toList++out))) ops.toList σ fun σ'=>K .normal σ'
 | .seq a b,out,σ,K=>a5l E F I k pins a (f7y b++out) σ fun ex σ'=>match ex with | .normal=>a5l E F I k pins b out σ' K | e=>K e σ'
 | .cond c a b,out,σ,K=>match a3e E σ 0 c with
  | .b x=>bif x then a5l E F I k pins a out (σ.put (d1u c) (.b true)) K else a5l E F I k pins b out (σ.put (d1u c) (.b false)) K
  | _=>none
 | .block id a,out,σ,K=>a5l E F I k pins a out σ fun ex σ'=>match ex with | .exit i=>bif Nat.beq i id then K .normal σ' else K (.exit i) σ' | e=>K e σ'
 | .loop a,out,σ,K=>
  match g4g E pins (g4d (f7z ((a9d a []).1++out))) σ with
  | some σ'=>i2f E (fun σ K'=>a5l E F I k pins a ((a9d a []).1++out) σ K') pins (g4d (f7z ((a9d a []).1++out))) K k σ'
  | none=>none
 | .exit id,_,σ,K=>K (.exit id) σ
 | .ret,_,σ,K=>K .ret σ
 | _,_,_,_=>none
def enter (E:Env):Nat→List (List Bool)→List Nat→List Arg→M (List A)
 | _,_,[],[]=>.ret []
 | i,ws,t :: ts,.v cs :: r=>(b4d E i 0 0 (ws.headD []) (fl (ws.headD []) (E.flat t)) cs).bind fun as=>(enter E (i+1) ws.tail ts r).bind fun q=>.ret (c0b E t as :: q)
 | i,ws,t :: ts,.s cs :: r=>(b4d E i 0 0 (ws.headD []) (fl (ws.headD []) (E.flat t)) cs).bind fun as=>(enter E (i+1) ws.tail ts r).bind fun q=>.ret (c0b E t as :: q)
 | i,ws,t :: ts,.p cs :: r=>(b4d E i 0 0 (ws.headD []) (fl (ws.headD []) (E.flat (E.elem t))) cs).bind fun as=>(M.new (i,0) (.var as)).bind fun _=>(enter E (i+1) ws.tail ts r).bind fun q=>.ret (.ptr (i,0) 0 :: q)
 | i,ws,t :: ts,.r es :: r=>(match E.flat t with
  | [.row e]=>(M.new (i,0) (h4c (ws.headD []) e es)).bind fun _=>(enter E (i+1) ws.tail ts r).bind fun q=>.ret (.ref (i,0) :: q)
  | _=>.fail)
 | i,ws,_ :: ts,.c f none :: r=>(enter E (i+1) ws.tail ts r).bind fun q=>.ret (.clo f none :: q)
 | i,ws,_ :: ts,.c f (some cs) :: r=>(b4d E i 0 0 [] (E.flat (E.fe f)) cs).bind fun as=>(M.new (i,0) (.var as)).bind fun _=>(enter E (i+1) ws.tail ts r).bind fun q=>.ret (.clo f (some (i,0)) :: q)
 | _,_,_,_=>.fail
def c5b (E:Env) (σ:St):List ResultVar→List Nat→M (List A)
 | [],[]=>.ret []
 | .tmp t :: r,ty :: tys=>bif (σ.sl t).fits E ty then (c5b E σ r tys).bind fun as=>.ret ((σ.sl t).cells++as) else .fail
 | .cell p t :: r,ty :: tys=>(e4y E t (σ.sl p)).bind fun a=>bif a.fits E ty then (c5b E σ r tys).bind fun as=>.ret (a.cells++as) else .fail
 | _,_=>.fail
def j0q (E:Env) (i:Nat):Nat→List Bool→List Ty→List T→M (List T)
 | j,ws,ty :: tys,c :: cs=>(bif ty.isRow&&ws.headD false then d2z E true ty (.ref (i,j+1)) else .ret c).bind fun t=>(j0q E i (j+1) ws.tail tys cs).bind fun ts=>.ret (t :: ts)
 | _,_,[],[]=>.ret []
 | _,_,_,_=>.fail
def a7m (E:Env):Nat→List (List Bool)→List Nat→List Arg→M (List (List T))
 | _,_,[],[]=>.ret []
 | i,ws,t :: ts,.p _ :: r=>(M.var (i,0)).bind fun cs=>(c5x E (ws.headD []) (fl (ws.headD []) (E.flat (E.elem t))) cs).bind fun c=>(M.var (i,0)).bind fun _=>.set (i,0) .dead ((a7m E (i+1) ws.tail ts r).bind fun cs=>.ret (c :: cs))
 | i,ws,_ :: ts,.c f (some _) :: r=>(M.var (i,0)).bind fun cs=>(c5x E [] (E.flat (E.fe f)) cs).bind fun c=>(M.var (i,0)).bind fun _=>.set (i,0) .dead ((a7m E (i+1) ws.tail ts r).bind fun cs=>.ret (c :: cs))
 | i,ws,t :: ts,.s cs :: r=>(j0q E i 0 (ws.headD []) (fl (ws.headD []) (E.flat t)) cs).bind fun c=>(a7m E (i+1) ws.tail ts r).bind fun cs=>.ret (c :: cs)
 | i,ws,t :: ts,.r _ :: r=>(match E.flat t with
  | [.row e]=>(d2z E true (b7f (ws.headD []) e) (.ref (i,0))).bind fun c=>(a7m E (i+1) ws.tail ts r).bind fun cs=>.ret ([c] :: cs)
  | _=>.fail)
 | i,ws,_ :: ts,.c _ none :: r=>a7m E (i+1) ws.tail ts r
 | i,ws,_ :: ts,.v _ :: r=>a7m E (i+1) ws.tail ts r
 | _,_,_,_=>.fail
def d9k (n:Nat):Code→Bool
 | .region _ ops _=>ops.toList.all fun o=>match o.dst with | some d=>Nat.blt d n | none=>true
 | .seq a b=>d9k n a&&d9k n b
 | .cond _ a b=>d9k n a&&d9k n b
 | .block _ a | .loop a | .scope a=>d9k n a
 | _=>true
def d3j:Nat→List Arg→List Nat
 | _,[]=>[]
 | i,.p _ :: r=>i :: d3j (i+1) r
 | i,.r _ :: r=>i :: d3j (i+1) r
 | i,.c _ (some _) :: r=>i :: d3j (i+1) r
 | i,.c _ none :: r=>d3j (i+1) r
 | i,.v _ :: r=>d3j (i+1) r
 | i,.s _ :: r=>d3j (i+1) r
def noS:List Arg→Bool
 | []=>true
 | .s _ :: _=>false
 | _ :: r=>noS r
def c5c:Code→Bool
 | .seq a b=>c5c a&&c5c b
 | .cond _ a b=>c5c a&&c5c b
 | .block _ a=>c5c a
 | .loop _ | .scope _=>false
 | _=>true
def e5e:List A→Nat→A
 | [],_=>.skip
 | a :: _,0=>a
 | _ :: r,i+1=>e5e r i
def h7f (σ:St):List ResultVar→List Nm
 | []=>[]
 | .tmp t :: r=>(σ.sl t).tops++h7f σ r
 | .cell p _ :: r=>(σ.sl p).tops++h7f σ r
def i5v:List Nat→List Nm
 | []=>[]
 | i :: is=>(i,0) :: i5v is
def j2o (E:Env) (ts:List Nat) (as:List A):A:=match ts with
 | [t]=>c0b E t as
 | ts=>.tup (i2c E as ts)
def i2g {R:Type} (E:Env) (F:Call) (k:Nat):Nat→Inl R
 | 0=>fun _ _ _ _ _ _=>none
 | d+1=>fun f as sv dst m K=>match E.fn f with
  | some fn=>(match fn.body with
   | some c=>bif c5c c&&d9k fn.ntmps c&&Nat.ble as.length fn.ntmps&&Nat.blt d 10 then
     (M.new (900000+d,dst) (.save (h6i sv))).run (c6c m) ⟨[],[]⟩ fun _ m1 _=>
     a5l E F (i2g E F k d) k [] c (fn.results.toList.map fun | .tmp t=>t | .cell p _=>p) ⟨e5e (j0a as),m1⟩ fun ex σ'=>match ex with
      | .exit _=>none
      | _=>(c5b E σ' fn.results.toList fn.resultTypes.toList).run σ'.mem ⟨[],[]⟩ fun as' m' _=>bif !a1f as' then none else match m' (900000+d,dst) with
       | some (.save sv')=>K (upW (j2o E fn.resultTypes.toList as')) (h6i sv') (c6c m')
       | _=>none
    else none
   | none=>none)
  | none=>none
def h7g {R:Type} (E:Env) (F:Call) (k n:Nat):Inl R:=bif Nat.ble n 2 then i2g E F k 4 else fun _ _ _ _ _ _=>none
def h1l (E:Env) (sg:Sig) (fn:Func) (ins:List Arg) (σ:St):M Outs:=
 (M.k4x.bind fun md=>bif md then f7s E (h7f σ fn.results.toList++i5v (d3j 0 ins)) else .ret ()).bind fun _=>
 (c5b E σ fn.results.toList fn.resultTypes.toList).bind fun as=>(c5x E sg.res (i2d E sg fn) as).bind fun res=>(a7m E 0 sg.ins (f7q sg fn) ins).bind fun vars=>.ret ⟨res,vars⟩
def f8e (E:Env) (F:Call) (k:Nat) (sg:Sig) (fn:Func) (ins:List Arg):Option Outs:=
 match fn.body with
 | some c=>((enter E 0 sg.ins (f7q sg fn) ins).bind fun as=>(bif sg.deep then M.new a3l (.row fn.params.toList.length false []) else .ret ()).bind fun _=>.ret as).run (fun _=>none) ⟨[],[]⟩ fun as m _=>
  bif d9k fn.ntmps c&&Nat.ble (f7q sg fn).length fn.ntmps&&(noS ins || c5c c) then
   a5l E F (h7g E F k (f7q sg fn).length) k (d3j 0 ins) c (fn.results.toList.map fun | .tmp t=>t | .cell p _=>p) ⟨e5e as,m⟩ fun ex σ'=>match ex with
    | .exit _=>none
    | _=>(h1l E sg fn ins σ').run σ'.mem ⟨[],[]⟩ fun o _ _=>some o
  else none
 | none=>none
def a0a (E:Env) (prim:FuncId→Option (List Arg→Option Outs)):Nat→FuncId→List Arg→Option Outs
 | 0,_,_=>none
 | k+1,f,ins=>match prim f with
  | some g=>g ins
  | none=>match E.fn f with
   | some fn=>f8e E (a0a E prim k) k (E.sig f) fn ins
   | none=>none
end Go.Proofs.YtgilihjnmjgciaaGreat.Ev
