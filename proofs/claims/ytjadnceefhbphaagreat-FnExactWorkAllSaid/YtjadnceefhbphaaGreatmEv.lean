/- An evaluator of the model's code on trees and on objects that a call owns: what it answers the machine's call answers (shown in the texts behind this one). No condition. -/
import Derived.Calls
import Derived.Orders
import Derived.Maps.AppendAt
import Derived.Laws.OwnMore
import GoSem.Dispatch
namespace Go.Proofs.YtjadnceefhbphaaGreat.Ev
open Go
set_option linter.unusedVariables false
inductive Ty where
 | int (k:IntKind) | bool | str | row (e:Nat) | ptr (e:Nat)
 | deep (e:Nat)
inductive T where
 | i (n:Int) | b (x:Bool) | s (x:ByteArray) | r (es:List (List T))
instance:Inhabited T:=⟨.i 0⟩
def T.asI:T→Int | .i n=>n | _=>0
def T.asB:T→Bool | .b x=>x | _=>false
def T.asS:T→ByteArray | .s x=>x | _=>ByteArray.empty
def T.asR:T→List (List T) | .r es=>es | _=>[]
abbrev Nm:=Nat×Nat
inductive A where
 | i (k:IntKind) (n:Int) | b (x:Bool) | s (x:ByteArray)
 | sl (e:Nat) (es:List (List T))
 | nil (e:Nat)
 | ref (n:Nm)
 | cut (n:Nm) (e f l:Nat)
 | agg (cs:List A) | tup (vs:List A)
 | ptr (n:Nm) (o:Nat)
 | ep (n:Nm) (e i o:Nat)
 | vp (tys:List Ty) (cs:List T) (o:Nat)
 | nilp | skip | undef
 | clo (f:FuncId) (n:Option Nm)
inductive O where
 | var (cs:List A)
 | row (e:Nat) (own:Bool) (es:List (List T))
 | deep (e:Nat) (es:List (List T)) (h:Option (Nat×Nat×Nm))
 | dead
 | save (as:List A)
abbrev Mem:=Nm→Option O
structure St where
 sl:Nat→A
 mem:Mem
inductive Kn where
 | int (k:IntKind) | bool | str | slice (e:Nat) | struct (offs:List (Nat×Nat)) | ptr (e:Nat) | fptr (e:Nat) | other
structure TI where
 kn:Kn
 flat:List Ty
 bytes:Nat
structure Sig where
 ins:List (List Bool)
 res:List Bool
 free:List Nat
 deep:Bool:=false
structure Env where
 tys:List TI
 fn:FuncId→Option Func
 sig:FuncId→Sig
 gl:List (Nat×(Option Obj→Prop)):=[]
 del:List (Nat×Nat):=[]
 inl:List Nat:=[]
 frz:List (List Nat):=[]
def Env.ti (E:Env) (t:Nat):TI:=bif Nat.ble 1000000 t then ⟨.fptr (t - 1000000),[],0⟩ else E.tys.getD t ⟨.other,[],0⟩
def Env.flat (E:Env) (t:Nat):List Ty:=(E.ti t).flat
def Env.sz (E:Env) (t:Nat):Nat:=(E.flat t).length
def Env.known (E:Env) (t:Nat):Bool:=Nat.ble 1 (E.sz t)
def Env.isAgg (E:Env) (t:Nat):Bool:=match (E.ti t).kn with | .struct _=>true | _=>false
def Env.elem (E:Env) (t:Nat):Nat:=match (E.ti t).kn with | .slice e=>e | .ptr e=>e | .fptr e=>e | _=>0
def Ty.flatB:Ty→Bool | .row _ | .deep _=>false | _=>true
def Env.pel (E:Env) (t:Nat):Option Nat:=match (E.ti t).kn with | .ptr e=>some e | .fptr e=>some e | _=>none
def dT:List Bool→List Ty→List Ty
 | d :: ds,.row e :: tys=>(bif d then .deep e else .row e) :: dT ds tys
 | _ :: ds,ty :: tys=>ty :: dT ds tys
 | _,tys=>tys
def fl (ws:List Bool) (tys:List Ty):List Ty:=dT (ws.drop tys.length) tys
def f4t (sg:Sig) (fn:Func):List Nat:=fn.params.toList++sg.free.map (·+1000000)
def Env.fe (E:Env) (f:FuncId):Nat:=(E.sig f).free.headD 0
def Env.plain (E:Env) (e:Nat):Bool:=(E.flat e).all Ty.flatB
inductive M (α:Type) where
 | ret (a:α) | fail
 | get (n:Nm) (k:Option O→M α)
 | set (n:Nm) (o:O) (k:M α)
 | chk (c:Bool) (k:M α)
def M.bind {α β:Type}:M α→(α→M β)→M β
 | .ret a,f=>f a
 | .fail,_=>.fail
 | .get n k,f=>.get n fun o=>(k o).bind f
 | .set n o k,f=>.set n o (k.bind f)
 | .chk c k,f=>.chk c (k.bind f)
def a8m (a b:Nm):Bool:=Nat.beq a.1 b.1&&Nat.beq a.2 b.2
def Mem.put (m:Mem) (n:Nm) (o:O):Mem:=fun x=>bif a8m x n then some o else m x
structure FP where
 rd:List Nm
 wr:List Nm
def M.run {α R:Type}:M α→Mem→FP→(α→Mem→FP→Option R)→Option R
 | .ret a,m,p,K=>K a m p
 | .fail,_,_,_=>none
 | .get n k,m,p,K=>(k (m n)).run m ⟨n :: p.rd,p.wr⟩ K
 | .set n o k,m,p,K=>k.run (m.put n o) ⟨p.rd,n :: p.wr⟩ K
 | .chk c k,m,p,K=>bif c then k.run m p K else none
def g0t:List (Nat×Nat)→Nat→Option Nat
 | [],_=>none
 | (g,e) :: r,f=>bif Nat.beq f g then some e else g0t r f
def a3i:Nm:=(999999,0)
def M.k0s:M Bool:=.get a3i fun | some _=>.ret true | none=>.ret false
def M.k0t:M Nat:=.get a3i fun | some (.row k _ _)=>.ret k | _=>.ret 0
def M.lowD (n:Nm):M Unit:=.get n fun | some (.deep e es none)=>.set n (.row e true es) (.ret ()) | _=>.ret ()
def M.k0u (n:Nm):M (Nat×List (List T)):=.get n fun | some (.row e _ es)=>.ret (e,es) | some (.deep e es none)=>.ret (e,es) | _=>.fail
def M.k0v (n:Nm):M (Nat×Nat):=.get n fun | some (.row e _ es)=>.ret (e,es.length) | some (.deep e es _)=>.ret (e,es.length) | _=>.fail
def M.row (n:Nm):M (Nat×Bool×List (List T)):=.get n fun | some (.row e d es)=>.ret (e,d,es) | _=>.fail
def M.var (n:Nm):M (List A):=.get n fun | some (.var cs)=>.ret cs | _=>.fail
def M.new (n:Nm) (o:O):M Unit:=.get n fun | none=>.set n o (.ret ()) | _=>.fail
def ofT:Ty→T→A
 | .int k,t=>.i k t.asI
 | .bool,t=>.b t.asB
 | .str,t=>.s t.asS
 | .row e,t=>.sl e t.asR
 | .ptr _,_=>.undef
 | .deep _,_=>.undef
def e9b:Nat→List Ty→List T→List A
 | _,[],_=>[]
 | j,ty :: tys,cs=>ofT ty (cs.getD j (.i 0)) :: e9b (j+1) tys cs
def g0u:Ty→A
 | .int k=>.i k 0
 | .bool=>.b false
 | .str=>.s ByteArray.empty
 | .row e=>.nil e
 | .ptr _=>.nilp
 | .deep e=>.nil e
def h0h:Ty→T
 | .int _=>.i 0
 | .bool=>.b false
 | .str=>.s ByteArray.empty
 | .row _=>.r []
 | .ptr _=>.i 0
 | .deep _=>.r []
def A.cells:A→List A | .agg cs=>cs | a=>[a]
def A.solid:A→Bool | .agg _ | .tup _ | .skip | .undef | .clo _ _=>false | _=>true
def a1d:List A→Bool
 | []=>true
 | a :: as=>a.solid&&a1d as
def b8s (E:Env) (t:Nat) (cs:List A):A:=bif E.isAgg t then .agg cs else match cs with | [a]=>a | _=>.undef
def i6g (E:Env):Ty→A→M T
 | .int k,.i k' n=>bif decide (k=k') then .ret (.i n) else .fail
 | .bool,.b x=>.ret (.b x)
 | .str,.s x=>.ret (.s x)
 | .row _,.nil _=>.ret (.r [])
 | .row e,.sl e' es=>bif Nat.beq e e' then .ret (.r es) else .fail
 | .row e,.ref n=>(M.lowD n).bind fun _=>(M.row n).bind fun (e',d,es)=>bif Nat.beq e e' then (match d with | true=>.set n (.row e' false es) (.ret (.r es)) | false=>.ret (.r es)) else .fail
 | .row e,.cut n e₁ f l=>(M.row n).bind fun (e',d,es)=>bif Nat.beq e e'&&Nat.beq e₁ e then (match d with | true=>.set n (.row e' false es) (.ret (.r ((es.drop f).take l))) | false=>.ret (.r ((es.drop f).take l))) else .fail
 | _,_=>.fail
def h0i (E:Env):List Ty→List A→M (List T)
 | [],[]=>.ret []
 | ty :: tys,a :: as=>(i6g E ty a).bind fun t=>(h0i E tys as).bind fun ts=>.ret (t :: ts)
 | _,_=>.fail
def g7u (E:Env):Ty→A→M T
 | .int k,.i k' n=>bif decide (k=k') then .ret (.i n) else .fail
 | .bool,.b x=>.ret (.b x)
 | .str,.s x=>.ret (.s x)
 | .row _,.nil _=>.ret (.r [])
 | .row e,.sl e' es=>bif Nat.beq e e' then .ret (.r es) else .fail
 | .row e,.ref n=>(M.k0u n).bind fun (e',es)=>bif Nat.beq e e' then .ret (.r es) else .fail
 | .row e,.cut n e₁ f l=>(M.row n).bind fun (e',_,es)=>bif Nat.beq e e'&&Nat.beq e₁ e then .ret (.r ((es.drop f).take l)) else .fail
 | _,_=>.fail
def d1e (E:Env):Bool→Ty→A→M T
 | true,.row _,.nil _=>.ret (.r [])
 | true,.row e,.ref n=>(M.lowD n).bind fun _=>(M.row n).bind fun (e',d,es)=>bif Nat.beq e e'&&d then .set n .dead (.ret (.r es)) else .fail
 | true,.row e,.cut n e₁ f l=>(M.row n).bind fun (e',d,es)=>bif Nat.beq e e'&&Nat.beq e₁ e&&Nat.beq f 0&&d then .chk (decide (0<es.length)) (.set n .dead (.ret (.r (es.take l)))) else .fail
 | true,.row _,_=>.fail
 | true,.deep _,.nil _=>.ret (.r [])
 | true,.deep e,.ref n=>.get n fun
  | some (.deep e' es none)=>bif Nat.beq e e' then .set n .dead (.ret (.r es)) else .fail
  | _=>.fail
 | true,.deep _,_=>.fail
 | true,.ptr e,.ptr n 0=>(M.var n).bind fun cs=>(h0i E (E.flat e) cs).bind fun c=>(M.var n).bind fun _=>.set n .dead (.ret (.r [c]))
 | _,ty,a=>i6g E ty a
def c4i (E:Env):List Bool→List Ty→List A→M (List T)
 | _,[],[]=>.ret []
 | ws,ty :: tys,a :: as=>(d1e E (ws.headD false) ty a).bind fun t=>(c4i E ws.tail tys as).bind fun ts=>.ret (t :: ts)
 | _,_,_=>.fail
def d1f (E:Env):List Bool→List Ty→List A→M (List T)
 | _,[],[]=>.ret []
 | ws,ty :: tys,a :: as=>(bif ws.headD false then d1e E true ty a else g7u E ty a).bind fun t=>(d1f E ws.tail tys as).bind fun ts=>.ret (t :: ts)
 | _,_,_=>.fail
def d7a:List Bool→List A→List Nm
 | ws,a :: as=>match ws.headD false,a with
  | false,.ref n=>n :: d7a ws.tail as
  | false,.cut n _ _ _=>n :: d7a ws.tail as
  | _,_=>d7a ws.tail as
 | _,[]=>[]
def A.fits (E:Env) (t:Nat):A→Bool
 | .agg cs=>E.isAgg t&&Nat.beq cs.length (E.sz t)
 | .tup _=>false
 | _=>!E.isAgg t&&Nat.beq (E.sz t) 1
def c4j {α:Type}:List α→Nat→List α→List α
 | cs,0,vs=>vs++cs.drop vs.length
 | c :: cs,o+1,vs=>c :: c4j cs o vs
 | [],_+1,_=>[]
def a1g:List T→Nat→List T→List T
 | cs,0,vs=>vs++cs.drop vs.length
 | c :: cs,o+1,vs=>c :: a1g cs o vs
 | [],o+1,vs=>.i 0 :: a1g [] o vs
def e9c (E:Env):List Ty→List Ty
 | .row e :: tys=>(bif E.plain e then .row e else .deep e) :: e9c E tys
 | ty :: tys=>ty :: e9c E tys
 | []=>[]
def b7l (E:Env):List Ty→List A→M Bool
 | .row e :: tys,.ref n :: as=>.get n fun
  | some (.row _ d _)=>(match d with | true=>bif E.plain e then b7l E tys as else .ret false | false=>.ret false)
  | some (.deep _ _ none)=>b7l E tys as
  | _=>.ret false
 | .row _ :: tys,.nil _ :: as=>b7l E tys as
 | .row _ :: _,_ :: _=>.ret false
 | _ :: tys,_ :: as=>b7l E tys as
 | _,_=>.ret true
def f3e (E:Env) (tys:List Ty) (as:List A):M (List T):=c4i E (tys.map fun | .row _=>true | _=>false) (e9c E tys) as
def h8d (es:List (List T)) (i j:Nat) (t:T):List (List T):=es.set i (a1g (es.getD i []) j [t])
def i1v (E:Env) (e j e':Nat):Bool:=match (E.flat e)[j]? with | some (.row x)=>Nat.beq x e' | _=>false
def f3f (E:Env):Nat→Nm→M Unit
 | 0,_=>.ret ()
 | k+1,n=>.get n fun
  | some (.deep _ _ (some (_,_,n₀)))=>(f3f E k n₀).bind fun _=>.get n fun
   | some (.deep e es (some (i,j,n')))=>.get n' fun
    | some (.row e' true es')=>bif i1v E e j e'&&E.plain e' then .set n' .dead (.set n (.deep e (h8d es i j (.r es')) none) (.ret ())) else .ret ()
    | some (.deep e' es' none)=>bif i1v E e j e' then .set n' .dead (.set n (.deep e (h8d es i j (.r es')) none) (.ret ())) else .ret ()
    | _=>.ret ()
   | _=>.ret ()
  | _=>.ret ()
def g0v (E:Env):List Nm→M Unit
 | []=>.ret ()
 | n :: ns=>(f3f E 3 n).bind fun _=>g0v E ns
def A.nms:A→List Nm
 | .ref n=>[n]
 | .cut n _ _ _=>[n]
 | .ep n _ _ _=>[n]
 | _=>[]
def i9r:List A→List Nm
 | []=>[]
 | a :: as=>a.nms++i9r as
def A.tops:A→List Nm
 | .agg cs=>i9r cs
 | .ptr n _=>[n]
 | .clo _ (some n)=>[n]
 | a=>a.nms
def f4u (n:Nm):M (List Nm):=.get n fun | some (.var cs)=>.ret (i9r cs) | _=>.ret [n]
def f4v (E:Env):List Nm→M Unit
 | []=>.ret ()
 | n :: ns=>(f4u n).bind fun l=>(g0v E l).bind fun _=>f4v E ns
def a3c (E:Env) (σ:St) (t:Nat):Operand→A
 | .tmp i=>σ.sl i
 | .const (.int k n)=>.i k n
 | .const (.bool x)=>.b x
 | .const (.string x)=>.s x
 | .const (.slice none 0 0)=>.nil (E.elem t)
 | .const (.pointer none)=>.nilp
 | .func f=>.clo f none
 | _=>.undef
def e2k (E:Env) (t:Nat):A→M A
 | .ptr n o=>(M.var n).bind fun cs=>bif E.known t&&Nat.ble (o+E.sz t) cs.length then .ret (b8s E t ((cs.drop o).take (E.sz t))) else .fail
 | .ep n e i o=>(M.row n).bind fun (e',_,es)=>bif Nat.beq e e'&&E.known t&&Nat.ble (o+E.sz t) (E.sz e) then .ret (b8s E t (e9b o (((E.flat e).drop o).take (E.sz t)) (es.getD i []))) else .fail
 | .vp tys cs o=>bif E.known t&&Nat.ble (o+E.sz t) tys.length then .ret (b8s E t (e9b o ((tys.drop o).take (E.sz t)) cs)) else .fail
 | _=>.fail
def d7b (E:Env) (t:Nat) (v:A):A→M A
 | .ptr n o=>(M.var n).bind fun cs=>bif E.known t&&Nat.ble (o+E.sz t) cs.length&&Nat.beq v.cells.length (E.sz t)&&a1d v.cells then .set n (.var (c4j cs o v.cells)) (.ret .skip) else .fail
 | .ep n e i o=>(h0i E (((E.flat e).drop o).take (E.sz t)) v.cells).bind fun ts=>(M.row n).bind fun (e',d,es)=>bif Nat.beq e e'&&d&&E.known t&&Nat.ble (o+E.sz t) (E.sz e)&&a1d v.cells then .set n (.row e d (es.set i (a1g (es.getD i []) o ts))) (.ret .skip) else .fail
 | _=>.fail
def h0j (E:Env) (dst t:Nat) (n:Nm) (e i o:Nat) (es:List (List T)):M A:=
 bif E.known t&&Nat.ble (o+E.sz t) (E.sz e) then
  bif (((E.flat e).drop o).take (E.sz t)).all Ty.flatB then .ret (b8s E t (e9b o (((E.flat e).drop o).take (E.sz t)) (es.getD i [])))
  else match E.isAgg t,(E.flat e)[o]? with
   | false,some (.row e')=>(M.new (dst,0) (bif E.plain e' then .row e' true ((es.getD i []).getD o (.i 0)).asR else .deep e' ((es.getD i []).getD o (.i 0)).asR none)).bind fun _=>.set n (.deep e es (some (i,o,(dst,0)))) (.ret (.ref (dst,0)))
   | _,_=>.fail
 else .fail
def b3d (E:Env) (s nm:Nat):Nat→List Bool→List Ty→List T→M (List A)
 | _,_,[],_=>.ret []
 | j,ws,ty :: tys,cs=>(match ws.headD false,ty with
  | true,.row e=>(M.new (s,nm+j+1) (.row e true ((cs.getD j (.i 0)).asR))).bind fun _=>.ret (.ref (s,nm+j+1))
  | true,.deep e=>(M.new (s,nm+j+1) (.deep e ((cs.getD j (.i 0)).asR) none)).bind fun _=>.ret (.ref (s,nm+j+1))
  | true,.ptr e=>(M.new (s,nm+j+1) (.var (e9b 0 (E.flat e) ((cs.getD j (.i 0)).asR.headD [])))).bind fun _=>.ret (.ptr (s,nm+j+1) 0)
  | _,ty=>.ret (ofT ty (cs.getD j (.i 0))):M A).bind fun a=>(b3d E s nm (j+1) ws.tail tys cs).bind fun r=>.ret (a :: r)
def i3g (tys:List Ty):List Bool:=tys.map fun | .row _=>true | _=>false
def d5k (es:List (List T)) (i:Nat):Nat→Nat→List T
 | _,0=>[]
 | o,n+1=>(es.getD i []).getD o (.i 0) :: d5k es i (o+1) n
def h2u (E:Env) (dst t:Nat) (n:Nm) (e i o:Nat) (es:List (List T)):M A:=
 bif E.known t&&E.isAgg t&&Nat.ble (o+E.sz t) (E.sz e) then
  .set n (.deep e es (some (i,E.sz e,a3i))) ((b3d E dst 0 0 (i3g (((E.flat e).drop o).take (E.sz t))) (e9c E (((E.flat e).drop o).take (E.sz t))) (d5k es i o (E.sz t))).bind fun as=>bif Nat.beq o 0&&Nat.beq (E.sz t) (E.sz e) then .set n (.deep e es (some (i,E.sz e,(dst,0)))) (.ret (.agg as)) else .ret (.agg as))
 else .fail
def d1g:Nat→List Ty→Option (Nat×Nat)
 | _,[]=>none
 | j,.row e :: r=>bif r.all Ty.flatB then some (j,e) else none
 | j,ty :: r=>bif ty.flatB then d1g (j+1) r else none
def h2v (E:Env) (dst t:Nat) (n:Nm) (e i o:Nat) (es:List (List T)) (j e':Nat):M A:=
 bif E.known t&&E.isAgg t&&Nat.ble (o+E.sz t) (E.sz e) then
  (M.new (dst,j+1) (bif E.plain e' then .row e' true ((es.getD i []).getD (o+j) (.i 0)).asR else .deep e' ((es.getD i []).getD (o+j) (.i 0)).asR none)).bind fun _=>
   .set n (.deep e es (some (i,o+j,(dst,j+1)))) (.ret (.agg ((e9b o (((E.flat e).drop o).take (E.sz t)) (es.getD i [])).set j (.ref (dst,j+1)))))
 else .fail
def i1w (E:Env) (t e o:Nat):Bool:=!E.isAgg t&&(match (E.flat e)[o]? with | some (.row _)=>true | _=>false)
def i3h (E:Env) (dst t:Nat):A→M A
 | .ep n e i o=>.get n fun
  | some (.deep e' es none)=>M.k0s.bind fun md=>bif Nat.beq e e'&&((((E.flat e).drop o).take (E.sz t)).all Ty.flatB || (md&&i1w E t e o)) then h0j E dst t n e i o es else bif Nat.beq e e'&&md&&E.isAgg t then (match d1g 0 (((E.flat e).drop o).take (E.sz t)) with | some (j,e₁)=>h2v E dst t n e i o es j e₁ | none=>h2u E dst t n e i o es) else (M.lowD n).bind fun _=>e2k E t (.ep n e i o)
  | some (.deep e' es (some (i',j',nm)))=>bif Nat.beq e e'&&(((E.flat e).drop o).take (E.sz t)).all Ty.flatB&&Nat.blt j' (E.sz e)&&!((E.flat e).getD j' .bool).flatB then h0j E dst t n e i o es
   else (match d1g 0 (((E.flat e).drop o).take (E.sz t)) with
    | some (j,_)=>bif Nat.beq e e'&&E.isAgg t&&E.known t&&Nat.ble (o+E.sz t) (E.sz e)&&Nat.beq (o+j) j' then .chk (Nat.beq i i') (.ret (.agg ((e9b o (((E.flat e).drop o).take (E.sz t)) (es.getD i [])).set j (.ref nm)))) else e2k E t (.ep n e i o)
    | none=>e2k E t (.ep n e i o))
  | _=>e2k E t (.ep n e i o)
 | a=>e2k E t a
def g0w (E:Env) (t:Nat) (v:A) (n:Nm) (e i o:Nat):M A:=
 bif E.known t&&Nat.ble (o+E.sz t) (E.sz e)&&Nat.beq v.cells.length (E.sz t)&&a1d v.cells then
  (f3e E (((E.flat e).drop o).take (E.sz t)) v.cells).bind fun ts=>.get n fun
   | some (.deep e' es none)=>bif Nat.beq e e' then .set n (.deep e (es.set i (a1g (es.getD i []) o ts)) none) (.ret .skip) else .fail
   | some (.deep e' es (some (i',j',_)))=>bif Nat.beq e e'&&(Nat.beq j' o&&Nat.beq (E.sz t) 1 || Nat.ble (E.sz e) j'&&Nat.beq (E.sz t) (E.sz e)) then .chk (Nat.beq i' i) (.set n (.deep e (es.set i (a1g (es.getD i []) o ts)) none) (.ret .skip)) else .fail
   | _=>.fail
 else .fail
def c8d (E:Env):List Ty→List A→List T→M Unit
 | .row e :: tys,.ref n :: as,t :: ts=>.get n fun | some .dead=>.set n (.row e false t.asR) (c8d E tys as ts) | _=>c8d E tys as ts
 | _ :: tys,_ :: as,_ :: ts=>c8d E tys as ts
 | _,_,_=>.ret ()
def g7v (E:Env) (t:Nat) (v:A) (n:Nm) (e i o:Nat):M A:=
 bif E.known t&&Nat.ble (o+E.sz t) (E.sz e)&&Nat.beq v.cells.length (E.sz t)&&a1d v.cells&&Nat.beq (E.sz t) (E.sz e) then
  (f3e E (((E.flat e).drop o).take (E.sz t)) v.cells).bind fun ts=>.get n fun
   | some (.deep e' es (some (i',_,_)))=>bif Nat.beq e e' then .chk (Nat.beq i' i) (.set n (.row e true (es.set i (a1g (es.getD i []) o ts))) ((c8d E (((E.flat e).drop o).take (E.sz t)) v.cells ts).bind fun _=>.ret .skip)) else .fail
   | _=>.fail
 else .fail
def g0x (n:Nm):List A→Bool
 | []=>false
 | .ref x :: as=>Nat.beq x.1 n.1 || g0x n as
 | _ :: as=>g0x n as
def h2w (E:Env) (t:Nat) (v:A):A→M A
 | .ep n e i o=>.get n fun
  | some (.deep _ _ (some (_,j',n')))=>(b7l E (((E.flat e).drop o).take (E.sz t)) v.cells).bind fun b=>bif b then (bif Nat.ble (E.sz e) j'&&g0x n' v.cells then g7v E t v n e i o else g0w E t v n e i o) else (M.lowD n).bind fun _=>d7b E t v (.ep n e i o)
  | some (.deep _ _ none)=>(b7l E (((E.flat e).drop o).take (E.sz t)) v.cells).bind fun b=>bif b then g0w E t v n e i o else (M.lowD n).bind fun _=>d7b E t v (.ep n e i o)
  | _=>d7b E t v (.ep n e i o)
 | a=>d7b E t v a
def d1h (E:Env) (t j:Nat):Option (Nat×Nat):=match (E.ti t).kn with | .struct fs=>fs[j]? | _=>none
def d5l (E:Env) (t j:Nat) (p:A):M A:=
 match d1h E t j,p with
 | some (o',_),.ptr n o=>.ret (.ptr n (o+o'))
 | some (o',_),.ep n e i o=>.ret (.ep n e i (o+o'))
 | some (o',_),.vp tys cs o=>.ret (.vp tys cs (o+o'))
 | _,_=>.fail
def h2x (E:Env) (t j:Nat) (v:A):M A:=
 match d1h E t j,v with
 | some (o',ft),.agg cs=>bif E.known ft&&Nat.ble (o'+E.sz ft) cs.length then .ret (b8s E ft ((cs.drop o').take (E.sz ft))) else .fail
 | _,_=>.fail
def Ty.notPtr:Ty→Bool | .ptr _ | .deep _=>false | _=>true
def c4k (E:Env) (t e:Nat):Bool:=(E.flat e).all Ty.notPtr&&Nat.beq (E.elem t) e&&(match (E.ti t).kn with | .slice _=>true | _=>false)&&Nat.ble 1 (E.sz e)&&Nat.ble 1 (E.ti e).bytes
def d5m (E:Env) (t:Nat) (x i:A):M A:=
 match x,i with
 | .ref n,.i _ j=>(M.k0v n).bind fun (e,l)=>bif c4k E t e then .chk (decide (0≤j)&&decide (j<(l:Int))) (.ret (.ep n e j.toNat 0)) else .fail
 | .cut n e f l,.i _ j=>bif c4k E t e then .chk (decide (0≤j)&&decide (j<(l:Int))) (.ret (.ep n e (f+j.toNat) 0)) else .fail
 | .sl e es,.i _ j=>bif c4k E t e then .chk (decide (0≤j)&&decide (j<(es.length:Int))) (.ret (.vp (E.flat e) (es.getD j.toNat []) 0)) else .fail
 | _,_=>.fail
def i9s:A→M A
 | .nil _=>.ret (.i .i64 0)
 | .sl _ es=>.ret (.i .i64 (es.length:Int))
 | .ref n=>(M.k0v n).bind fun (_,l)=>.ret (.i .i64 (l:Int))
 | .cut _ _ _ l=>.ret (.i .i64 (l:Int))
 | _=>.fail
def c4l (k:IntKind) (a b:Int):Int:=k.wrap (BitVec.ofInt k.bits a ^^^ BitVec.ofInt k.bits b).toNat
def h2y (k:IntKind) (a b:Int):Int:=k.wrap (BitVec.ofInt k.bits a&&& BitVec.ofInt k.bits b).toNat
def i1x (k:IntKind) (a b:Int):Int:=k.wrap (BitVec.ofInt k.bits a ||| BitVec.ofInt k.bits b).toNat
def i9t (op:BinOp) (x y:A):M A:=
 match x,y with
 | .i k a,.i k' b=>
  match op with
  | .shl=>.chk (decide (0≤b)) (.ret (.i k (k.wrap (a*2 ^ (min b.toNat k.bits)))))
  | .shr=>.chk (decide (0≤b)) (.ret (.i k (a.fdiv (2 ^ (min b.toNat k.bits)))))
  | _=>bif decide (k=k') then
   match op with
   | .add=>.ret (.i k (k.wrap (a+b)))
   | .sub=>.ret (.i k (k.wrap (a - b)))
   | .mul=>.ret (.i k (k.wrap (a*b)))
   | .quo=>.chk (!decide (b=0)) (.ret (.i k (k.wrap (a.tdiv b))))
   | .rem=>.chk (!decide (b=0)) (.ret (.i k (a.tmod b)))
   | .eql=>.ret (.b (a == b))
   | .neq=>.ret (.b (a != b))
   | .lss=>.ret (.b (decide (a<b)))
   | .leq=>.ret (.b (decide (a≤b)))
   | .gtr=>.ret (.b (decide (a > b)))
   | .geq=>.ret (.b (decide (a≥b)))
   | .xor=>.ret (.i k (c4l k a b))
   | .and=>.ret (.i k (h2y k a b))
   | .or=>.ret (.i k (i1x k a b))
   | _=>.fail
  else .fail
 | .s a,.s b=>match op with
  | .add=>.chk (Nat.ble (a.size+b.size) 9223372036854775807) (.ret (.s (a++b)))
  | .eql=>.ret (.b (a.toList == b.toList))
  | .neq=>.ret (.b (!(a.toList == b.toList)))
  | _=>.fail
 | _,_=>.fail
def i6s:Kn→Bool | .bool=>true | _=>false
def i9u (E:Env) (op:BinOp) (xt:Nat) (x y:A):M A:=
 match x,y with
 | .b a,.b b=>bif i6s (E.ti xt).kn then (match op with | .eql=>.ret (.b (a == b)) | .neq=>.ret (.b (!(a == b))) | _=>.fail) else .fail
 | x,y=>i9t op x y
def unM (op:UnOp) (x:A):M A:=
 match op,x with
 | .not,.b x=>.ret (.b (!x))
 | _,_=>.fail
def i3i (E:Env) (dst:Nat) (x:A):M A:=
 match (E.ti dst).kn,x with
 | .int k,.i _ n=>.ret (.i k (k.wrap n))
 | _,_=>.fail
def h2z:Kn→Bool | .str=>true | _=>false
def g7w (s:ByteArray) (j:Nat):Int:=((s.data.toList.getD j 0).toNat:Int)
def h3a (E:Env) (t:Nat) (x i:A):M A:=
 match x,i with
 | .s s,.i _ j=>bif h2z (E.ti t).kn then .chk (decide (0≤j)&&decide (j<(s.size:Int))) (.ret (.i .u8 (g7w s j.toNat))) else .fail
 | _,_=>.fail
def h3b (es:List (List T)):ByteArray:=⟨(es.map fun c=>UInt8.ofNat (c.getD 0 (.i 0)).asI.toNat).toArray⟩
def u8s:List Ty→Bool | [.int .u8]=>true | _=>false
def u8K:Kn→Bool | .int .u8=>true | _=>false
def d0b (e:Nat):A→M (List (List T))
 | .nil _=>.ret []
 | .sl e' es=>bif Nat.beq e e' then .ret es else .fail
 | .cut n e₁ f l=>(M.row n).bind fun (e',_,es)=>bif Nat.beq e e'&&Nat.beq e e₁ then .ret ((es.drop f).take l) else .fail
 | .ref n=>(M.row n).bind fun (e',_,es)=>bif Nat.beq e e' then .ret es else .fail
 | _=>.fail
def i3j (E:Env) (s t:Nat) (x:A):M A:=
 bif h2z (E.ti t).kn then
  bif c4k E s (E.elem s)&&u8s (E.flat (E.elem s))&&u8K (E.ti (E.elem s)).kn then (d0b (E.elem s) x).bind fun es=>.ret (.s (h3b es)) else .fail
 else i3i E t x
def d0c:Operand→Option Nat | .tmp i=>some i | _=>none
def d0d (E:Env) (dst t:Nat) (x:A) (y:A):M A:=
 bif c4k E t (E.elem t) then
 match x with
 | .nil _=>(d0b (E.elem t) y).bind fun es'=>
  .chk (decide (es'.length*(E.ti (E.elem t)).bytes≤140737488355328)) ((M.new (dst,0) (.row (E.elem t) true es')).bind fun _=>.ret (.ref (dst,0)))
 | .ref n=>(M.row n).bind fun (e,d,es)=>(d0b (E.elem t) y).bind fun es'=>
  bif Nat.beq (E.elem t) e&&d then .chk (decide ((es.length+es'.length)*(E.ti (E.elem t)).bytes≤140737488355328)) (.set n .dead ((M.new (dst,0) (.row (E.elem t) true (es++es'))).bind fun _=>.ret (.ref (dst,0)))) else .fail
 | _=>.fail
 else .fail
def h8e:A→M Unit
 | .ref n=>M.lowD n
 | _=>.ret ()
def e9d (n:Nm):Nat→List Ty→List T→List A
 | _,[],_=>[]
 | j,.row _ :: tys,cs=>.ref (n.1,n.2+j+1) :: e9d n (j+1) tys cs
 | j,ty :: tys,cs=>ofT ty (cs.getD j (.i 0)) :: e9d n (j+1) tys cs
def i9v (E:Env) (n:Nm):M Unit:=.get n fun
 | some (.deep e es (some (i,k,n')))=>bif Nat.ble (E.sz e) k&&!(Nat.beq n'.1 999999) then
   (h0i E (E.flat e) (e9d n' 0 (E.flat e) (es.getD i []))).bind fun ts=>.get n fun
    | some (.deep e2 es2 (some (i2,_,_)))=>bif Nat.beq e e2 then .chk (Nat.beq i i2) (.set n (.row e true (es2.set i (a1g (es2.getD i []) 0 ts))) (.ret ())) else .fail
    | _=>.fail
  else .ret ()
 | _=>.ret ()
def i8v (E:Env):A→M Unit
 | .ref n=>(M.lowD n).bind fun _=>i9v E n
 | _=>.ret ()
def h8i:A→M (Bool×Bool)
 | .nil _=>.ret (true,false)
 | .ref n=>.get n fun | some (.deep _ _ none)=>.ret (true,true) | _=>.ret (false,false)
 | _=>.ret (false,false)
def e2l (E:Env) (dst t:Nat) (x:A) (y:A):M A:=
 bif c4k E t (E.elem t) then
  (d1e E true (.deep (E.elem t)) x).bind fun a=>(d1e E true (.deep (E.elem t)) y).bind fun b=>
   .chk (decide ((a.asR.length+b.asR.length)*(E.ti (E.elem t)).bytes≤140737488355328)) ((M.new (dst,0) (.deep (E.elem t) (a.asR++b.asR) none)).bind fun _=>.ret (.ref (dst,0)))
 else .fail
def h8j:A→M Bool
 | .ref n=>.get n fun | some (.deep _ _ (some (_,_,nm)))=>M.k0t.bind fun k=>.ret (Nat.blt nm.1 k) | _=>.ret false
 | _=>.ret false
def f4w (E:Env) (dst t:Nat) (x:A):A→M A
 | .ref n=>bif c4k E t (E.elem t) then
  (d1e E true (.deep (E.elem t)) x).bind fun a=>.get n fun
   | some (.deep e' es (some (i,j,nm)))=>bif Nat.beq (E.elem t) e'&&Nat.blt j (E.sz e') then .set n .dead
    (.chk (decide ((a.asR.length+es.length)*(E.ti (E.elem t)).bytes≤140737488355328)) ((M.new (dst,0) (.deep (E.elem t) (a.asR++es) (some (a.asR.length+i,j,nm)))).bind fun _=>.ret (.ref (dst,0)))) else .fail
   | _=>.fail
  else .fail
 | _=>.fail
def g5i (E:Env) (dst t:Nat) (x:A) (y:A):M A:=
 bif E.plain (E.elem t) then d0d E dst t x y else
 M.k0s.bind fun md=>(h8i x).bind fun dx=>(h8i y).bind fun dy=>
  (h8j y).bind fun ly=>bif dx.1&&ly then f4w E dst t x y else
  bif dx.1&&dy.1&&(dx.2 || (md&&dy.2)) then e2l E dst t x y else (h8e x).bind fun _=>(h8e y).bind fun _=>d0d E dst t x y
def b5y (E:Env) (e:Nat):List T:=(E.flat e).map h0h
def a3r (es:List (List T)) (f:Nat) (xs:List (List T)):List (List T):=es.take f++(xs++es.drop (f+xs.length))
def i3k (E:Env) (t:Nat) (x y:A):M A:=
 bif c4k E t (E.elem t)&&Nat.beq (E.sz (E.elem t)) 1 then
 match x with
 | .ref n=>(M.row n).bind fun (e,d,es)=>(d0b (E.elem t) y).bind fun ys=>bif Nat.beq (E.elem t) e&&d then .set n (.row e true (a3r es 0 (ys.take es.length))) (.ret (.i .i64 ((ys.take es.length).length:Int))) else .fail
 | .cut n e₁ f l=>(M.row n).bind fun (e,d,es)=>(d0b (E.elem t) y).bind fun ys=>bif Nat.beq (E.elem t) e&&Nat.beq e₁ e&&d then .set n (.row e true (a3r es f (ys.take l))) (.ret (.i .i64 ((ys.take l).length:Int))) else .fail
 | _=>.fail
 else .fail
def h3c (E:Env) (t:Nat) (x:A):M A:=
 bif c4k E t (E.elem t) then
 match x with
 | .ref n=>(M.row n).bind fun (e,d,es)=>bif Nat.beq (E.elem t) e&&d then .set n (.row e true (a3r es 0 (List.replicate es.length (b5y E e)))) (.ret (.tup [])) else .fail
 | .cut n e₁ f l=>(M.row n).bind fun (e,d,es)=>bif Nat.beq (E.elem t) e&&Nat.beq e₁ e&&d then .set n (.row e true (a3r es f (List.replicate l (b5y E e)))) (.ret (.tup [])) else .fail
 | _=>.fail
 else .fail
def h8k (E:Env) (dst t:Nat) (n c:A):M A:=
 match n,c with
 | .i .i64 n,.i .i64 c=>bif c4k E t (E.elem t) then .chk (decide (n=c)&&decide (0≤n)&&decide (n*(E.ti (E.elem t)).bytes≤140737488355328)) ((M.new (dst,0) (.row (E.elem t) true (List.replicate n.toNat (b5y E (E.elem t))))).bind fun _=>.ret (.ref (dst,0))) else .fail
 | _,_=>.fail
def i3l (E:Env) (dst t:Nat) (n c:A):M A:=
 match n,c with
 | .i .i64 n,.i .i64 c=>bif c4k E t (E.elem t) then .chk (decide (n=c)&&decide (0≤n)&&decide (n*(E.ti (E.elem t)).bytes≤140737488355328)) ((M.new (dst,0) (.deep (E.elem t) (List.replicate n.toNat (b5y E (E.elem t))) none)).bind fun _=>.ret (.ref (dst,0))) else .fail
 | _,_=>.fail
def i3m (E:Env) (dst t:Nat) (n c:A):M A:=
 bif E.plain (E.elem t) then h8k E dst t n c else
 M.k0s.bind fun md=>bif md then i3l E dst t n c else h8k E dst t n c
def i3n (E:Env) (σ:St) (t:Nat) (j:Nat):List (Nat×Operand)→Option A
 | []=>none
 | (i,x) :: r=>bif Nat.beq i j then some (a3c E σ t x) else i3n E σ t j r
def h8l (E:Env) (σ:St) (e:Nat):Nat→List (Nat×Operand)→M (List (List T))
 | _,[]=>.ret []
 | j,(i,x) :: r=>bif Nat.beq i j&&a1d (a3c E σ e x).cells then (h0i E (E.flat e) (a3c E σ e x).cells).bind fun c=>(h8l E σ e (j+1) r).bind fun cs=>.ret (c :: cs) else .fail
def i1y (E:Env) (σ:St) (e:Nat):Nat→List (Nat×Operand)→M (List (List T))
 | _,[]=>.ret []
 | j,(i,x) :: r=>bif Nat.beq i j&&a1d (a3c E σ e x).cells&&Nat.beq (a3c E σ e x).cells.length (E.sz e) then (f3e E (E.flat e) (a3c E σ e x).cells).bind fun c=>(i1y E σ e (j+1) r).bind fun cs=>.ret (c :: cs) else .fail
def f4x:A→Bool | .i _ _ | .b _ | .s _ | .nil _=>true | _=>false
def d7c (k:Nat):Nat→List A→Option (Nat×Nm)
 | _,[]=>none
 | j,.ref n :: r=>bif Nat.blt n.1 k&&r.all f4x then some (j,n) else none
 | j,a :: r=>bif f4x a then d7c k (j+1) r else none
def f3g (E:Env) (σ:St) (e k:Nat):List (Nat×Operand)→Option (Nat×Nm)
 | [(0,x)]=>d7c k 0 (a3c E σ e x).cells
 | _=>none
def b3p (E:Env) (σ:St) (e:Nat):List (Nat×Operand)→M Bool
 | []=>.ret true
 | (_,x) :: r=>(b7l E (E.flat e) (a3c E σ e x).cells).bind fun b=>bif b then b3p E σ e r else .ret false
def b8v (E:Env) (σ:St) (fs:List (Nat×Nat)):List (Nat×Operand)→List A→Option (List A)
 | [],cs=>some cs
 | (j,x) :: r,cs=>match fs[j]? with
  | some (o,ft)=>bif Nat.beq (a3c E σ ft x).cells.length (E.sz ft)&&Nat.ble (o+(a3c E σ ft x).cells.length) cs.length&&a1d (a3c E σ ft x).cells then b8v E σ fs r (c4j cs o (a3c E σ ft x).cells) else none
  | none=>none
def bnd (d:Int):Option A→Option Int
 | none=>some d
 | some (.i _ a)=>some a
 | _=>none
def h3d (E:Env) (t:Nat) (x:A) (lo hi:Option A):M A:=
 match x with
 | .s s=>(match bnd 0 lo,bnd s.size hi with
  | some a,some b=>bif h2z (E.ti t).kn then .chk (decide (0≤a)&&decide (a≤b)&&decide (b≤(s.size:Int))) (.ret (.s (s.extract a.toNat b.toNat))) else .fail
  | _,_=>.fail)
 | .sl e es=>(match bnd 0 lo,bnd es.length hi with
  | some a,some b=>bif c4k E t e then .chk (decide (0≤a)&&decide (a≤b)&&decide (b≤(es.length:Int))) (.ret (.sl e ((es.drop a.toNat).take (b.toNat - a.toNat)))) else .fail
  | _,_=>.fail)
 | .ref n=>(M.row n).bind fun (e,_,es)=>(match bnd 0 lo,bnd es.length hi with
  | some a,some b=>bif c4k E t e then .chk (decide (0≤a)&&decide (a≤b)&&decide (b≤(es.length:Int))) (.ret (.cut n e a.toNat (b.toNat - a.toNat))) else .fail
  | _,_=>.fail)
 | .cut n e₁ f l=>(M.row n).bind fun (e,_,es)=>(match bnd 0 lo,bnd l hi with
  | some a,some b=>bif c4k E t e&&Nat.beq e₁ e then .chk (decide (0≤a)&&decide (a≤b)&&decide (b+(f:Int)≤(es.length:Int))&&decide (f<es.length)) (.ret (.cut n e (f+a.toNat) (b.toNat - a.toNat))) else .fail
  | _,_=>.fail)
 | _=>.fail
def b6e (l:Nat) (a b:Int):Bool:=decide (0≤a)&&decide (a<b)&&decide (b≤(l:Int))
def e2m (E:Env) (e dst:Nat):List A→M A
 | [.ref n,.i .i64 a,.i .i64 b]=>.get n fun
  | some (.row e' true es)=>bif Nat.beq e e' then .chk (b6e es.length a b) (.set n .dead ((M.new (dst,0) (.row e true (es.take a.toNat++es.drop b.toNat))).bind fun _=>.ret (.ref (dst,0)))) else .fail
  | some (.deep e' es none)=>bif Nat.beq e e' then .chk (b6e es.length a b) (.set n .dead ((M.new (dst,0) (.deep e (es.take a.toNat++es.drop b.toNat) none)).bind fun _=>.ret (.ref (dst,0)))) else .fail
  | some (.deep e' es (some (i,_,_)))=>bif Nat.beq e e' then .chk (b6e es.length a b) (.chk (decide (a≤(i:Int))&&decide ((i:Int)<b)) (.set n .dead ((M.new (dst,0) (.deep e (es.take a.toNat++es.drop b.toNat) none)).bind fun _=>.ret (.ref (dst,0))))) else .fail
  | _=>.fail
 | _=>.fail
def i6t (E:Env) (e dst:Nat):List A→M A
 | [x,.i .i64 i,y]=>bif Nat.ble 1 (E.sz e) then (d1e E true (.deep e) x).bind fun a=>(d1e E true (.deep e) y).bind fun b=>
  .chk (decide (0<b.asR.length)) (.chk (decide (0≤i)&&decide (i≤(a.asR.length:Int))) (.chk (decide ((a.asR.length+b.asR.length)*(E.ti e).bytes≤140737488355328))
   ((M.new (dst,0) (.deep e (a.asR.take i.toNat++b.asR++a.asR.drop i.toNat) none)).bind fun _=>.ret (.ref (dst,0))))) else .fail
 | _=>.fail
def h0k (E:Env) (e dst:Nat) (as:List A):M A:=bif Nat.blt e 1000000 then e2m E e dst as else i6t E (e - 1000000) dst as
inductive Arg where
 | v (cs:List T)
 | p (cs:List T)
 | c (f:FuncId) (o:Option (List T))
 | r (es:List (List T))
 | s (cs:List T)
structure Outs where
 res:List T
 vars:List (List T)
structure Lent where
 n:Nm
 ws:List Bool
 tys:List Ty
 row:Bool
 as:Option (List A)
def b5z (ws:List Bool) (e:Nat):Ty:=bif ws.headD false then .deep e else .row e
def i1z (E:Env) (t:Nat) (ws:List Bool):Option Nat:=match E.flat t,ws with | [.row e],[_,true]=>some e | _,_=>none
def h0l (ws:List Bool) (e:Nat) (es:List (List T)):O:=bif ws.headD false then .deep e es none else .row e true es
def Ty.isRow:Ty→Bool | .row _ | .deep _=>true | _=>false
def f4y:List Bool→List Ty→Bool
 | ws,ty :: tys=>(!ty.isRow || ws.headD false)&&f4y ws.tail tys
 | _,[]=>true
def c4m:List A→Bool
 | .ref _ :: as=>c4m as
 | .nil _ :: as=>c4m as
 | .i _ _ :: as=>c4m as
 | .b _ :: as=>c4m as
 | .s _ :: as=>c4m as
 | []=>true
 | _=>false
def h3e (E:Env) (t:Nat) (ws:List Bool):Bool:=E.isAgg t&&Nat.beq ws.length (2*E.sz t+1)&&(E.flat t).all Ty.notPtr&&f4y ws (fl ws (E.flat t))
def d5n (E:Env):List (List Bool)→List Nat→List A→M (List Arg×List Lent×List Nm)
 | _,[],[]=>.ret ([],[],[])
 | ws,t :: ts,a :: as=>
  match a with
  | .clo f none=>(d5n E ws.tail ts as).bind fun (r,l,v)=>.ret (.c f none :: r,l,v)
  | .clo f (some n)=>(M.var n).bind fun cs=>(c4i E [] (E.flat (E.fe f)) cs).bind fun c=>(M.var n).bind fun _=>.set n .dead ((d5n E ws.tail ts as).bind fun (r,l,v)=>.ret (.c f (some c) :: r,⟨n,[],E.flat (E.fe f),false,none⟩ :: l,v))
  | a=>
  match E.pel t with
  | some e=>(match a with
   | .ptr n 0=>(M.var n).bind fun cs=>(c4i E (ws.headD []) (fl (ws.headD []) (E.flat e)) cs).bind fun c=>(M.var n).bind fun _=>.set n .dead ((d5n E ws.tail ts as).bind fun (r,l,v)=>.ret (.p c :: r,⟨n,ws.headD [],fl (ws.headD []) (E.flat e),false,none⟩ :: l,v))
   | _=>.fail)
  | none=>
  match i1z E t (ws.headD []) with
  | some e=>(match a with
   | .ref n=>(d1e E true (b5z (ws.headD []) e) (.ref n)).bind fun c=>(d5n E ws.tail ts as).bind fun (r,l,v)=>.ret (.r c.asR :: r,⟨n,[true],[b5z (ws.headD []) e],true,none⟩ :: l,v)
   | _=>.fail)
  | none=>bif a.fits E t then bif h3e E t (ws.headD []) then
    bif c4m a.cells then (c4i E (ws.headD []) (fl (ws.headD []) (E.flat t)) a.cells).bind fun c=>(d5n E ws.tail ts as).bind fun (r,l,v)=>.ret (.s c :: r,⟨(0,0),ws.headD [],fl (ws.headD []) (E.flat t),false,some a.cells⟩ :: l,v) else .fail
   else (d1f E (ws.headD []) (fl (ws.headD []) (E.flat t)) a.cells).bind fun c=>(d5n E ws.tail ts as).bind fun (r,l,v)=>.ret (.v c :: r,l,d7a (ws.headD []) a.cells++v) else .fail
 | _,_,_=>.fail
def M.back (n:Nm) (o:O):M Unit:=.get n fun | some .dead=>.set n o (.ret ()) | _=>.fail
def h3f:Nat→List Bool→List Ty→List A→List T→M Unit
 | j,ws,ty :: tys,a :: as,cs=>(match ws.headD false,ty,a with
  | true,.row e,.ref n=>M.back n (.row e true (cs.getD j (.i 0)).asR)
  | true,.deep e,.ref n=>M.back n (.deep e (cs.getD j (.i 0)).asR none)
  | _,_,_=>.ret ():M Unit).bind fun _=>h3f (j+1) ws.tail tys as cs
 | _,_,_,_,_=>.ret ()
def b7m (E:Env) (d:Nat):Nat→List Lent→List (List T)→M Unit
 | _,[],_=>.ret ()
 | i,l :: ls,vs=>(match l.as with
  | some as=>h3f 0 l.ws l.tys as (vs.headD [])
  | none=>match l.row,l.tys with
  | true,[.row e]=>M.back l.n (.row e true ((vs.headD []).getD 0 (.i 0)).asR)
  | true,[.deep e]=>M.back l.n (.deep e ((vs.headD []).getD 0 (.i 0)).asR none)
  | true,_=>.fail
  | false,_=>(b3d E d (100*(i+1)) 0 l.ws l.tys (vs.headD [])).bind fun cs=>M.back l.n (.var cs):M Unit).bind fun _=>b7m E d (i+1) ls vs.tail
def c7f:List Nm→M Unit
 | []=>.ret ()
 | n :: ns=>.get n fun | some (.row _ _ _)=>c7f ns | some (.deep _ _ _)=>c7f ns | _=>.fail
def c0x:List Nm→M Unit
 | []=>.ret ()
 | n :: ns=>.get n fun
  | some (.row e true es)=>.set n (.row e false es) (c0x ns)
  | some (.row _ false _)=>c0x ns
  | some (.deep e es none)=>.set n (.row e false es) (c0x ns)
  | _=>.fail
def b6a (E:Env):List Bool→List Ty→Bool
 | ws,.row e :: tys=>!(ws.headD false) || !E.plain e || b6a E ws.tail tys
 | ws,.deep _ :: tys=>!(ws.headD false) || b6a E ws.tail tys
 | ws,.ptr e :: tys=>!E.plain e || b6a E ws.tail tys
 | ws,_ :: tys=>b6a E ws.tail tys
 | _,[]=>false
def b0r (E:Env):List Lent→Bool
 | []=>false
 | l :: ls=>b6a E l.ws l.tys || b0r E ls
def h8m (E:Env) (cs:List A):List Nat→List A
 | []=>[]
 | t :: ts=>b8s E t (cs.take (E.sz t)) :: h8m E (cs.drop (E.sz t)) ts
def g0y (E:Env):List Nat→List Ty
 | []=>[]
 | t :: ts=>E.flat t++g0y E ts
def h8n (E:Env) (sg:Sig) (fn:Func):List Ty:=fl sg.res (g0y E fn.resultTypes.toList)
abbrev Call:=FuncId→List Arg→Option Outs
def c7g (E:Env) (σ:St) (dst:Nat) (b:Builtin) (args:List Operand) (tys:List Nat):M A:=
 match b,args,tys with
 | .len,[x],[t]=>(match (E.ti t).kn with | .slice _=>i9s (a3c E σ t x) | .str=>(match a3c E σ t x with | .s x=>.ret (.i .i64 (x.size:Int)) | _=>.fail) | _=>.fail)
 | .append,[x,y],[t,u]=>bif Nat.beq t u then g5i E dst t (a3c E σ t x) (a3c E σ u y) else .fail
 | .copy,[x,y],[t,u]=>i3k E t (a3c E σ t x) (a3c E σ u y)
 | .clear,[x],[t]=>h3c E t (a3c E σ t x)
 | .max,[x,y],[t,u]=>(match a3c E σ t x,a3c E σ u y with | .i k a,.i k' b=>bif decide (k=k') then .ret (.i k (if b > a then b else a)) else .fail | _,_=>.fail)
 | .min,[x,y],[t,u]=>(match a3c E σ t x,a3c E σ u y with | .i k a,.i k' b=>bif decide (k=k') then .ret (.i k (if b<a then b else a)) else .fail | _,_=>.fail)
 | _,_,_=>.fail
def d7d (E:Env) (σ:St) (dst t n:Nat) (ps:Array (Nat×Operand)):M A:=
 bif c4k E t (E.elem t)&&Nat.beq ps.toList.length n&&Nat.ble (n*E.sz (E.elem t)) 16777216 then
  (h8l E σ (E.elem t) 0 ps.toList).bind fun es=>(M.new (dst,0) (.row (E.elem t) true es)).bind fun _=>.ret (.ref (dst,0)) else .fail
def g0z (E:Env) (σ:St) (dst t n:Nat) (ps:Array (Nat×Operand)):M A:=
 bif c4k E t (E.elem t)&&Nat.beq ps.toList.length n&&Nat.ble (n*E.sz (E.elem t)) 16777216 then
  (i1y E σ (E.elem t) 0 ps.toList).bind fun es=>(M.new (dst,0) (.deep (E.elem t) es none)).bind fun _=>.ret (.ref (dst,0)) else .fail
def e2n (E:Env) (σ:St) (dst t n j:Nat) (nm:Nm):List (Nat×Operand)→M A
 | [(
  0,x)]=>bif c4k E t (E.elem t)&&Nat.beq n 1&&Nat.ble (E.sz (E.elem t)) 16777216&&a1d (a3c E σ (E.elem t) x).cells&&Nat.beq (a3c E σ (E.elem t) x).cells.length (E.sz (E.elem t)) then
  (d1f E [] (E.flat (E.elem t)) (a3c E σ (E.elem t) x).cells).bind fun c=>(M.new (dst,0) (.deep (E.elem t) [c] (some (0,j,nm)))).bind fun _=>.ret (.ref (dst,0)) else .fail
 | _=>.fail
def opM (E:Env) (σ:St) (o:Oper) (dst:Nat):M A:=
 match o.op with
 | .move x | .assign x=>.ret (a3c E σ o.type x)
 | .pick c a b=>match a3c E σ 0 c with
  | .b x=>(match a3c E σ o.type a,a3c E σ o.type b with
   | .b p,.b q=>.ret (.b (bif x then p else q))
   | p,q=>(match x with | true=>.ret p | false=>.ret q))
  | _=>.fail
 | .alloc t=>bif E.known t then (M.new (dst,0) (.var ((E.flat t).map g0u))).bind fun _=>.ret (.ptr (dst,0) 0) else .fail
 | .box t v=>bif Nat.beq (a3c E σ t v).cells.length (E.sz t)&&a1d (a3c E σ t v).cells then (M.new (dst,0) (.var (a3c E σ t v).cells)).bind fun _=>.ret (.ptr (dst,0) 0) else .fail
 | .build t ps=>match (E.ti t).kn with
  | .struct fs=>(match b8v E σ fs ps.toList ((E.flat t).map g0u) with | some cs=>bif E.known t then .ret (.agg cs) else .fail | none=>.fail)
  | _=>.fail
 | .buildSlice t n ps=>bif E.plain (E.elem t) then d7d E σ dst t n ps else
   M.k0s.bind fun md=>bif md then ((b3p E σ (E.elem t) ps.toList).bind fun b=>bif b then (M.k0t.bind fun k=>match f3g E σ (E.elem t) k ps.toList with | some (j,nm)=>e2n E σ dst t n j nm ps.toList | none=>g0z E σ dst t n ps) else d7d E σ dst t n ps) else d7d E σ dst t n ps
 | .load t p=>i3h E dst t (a3c E σ 0 p)
 | .store t p v=>h2w E t (a3c E σ t v) (a3c E σ 0 p)
 | .nilCheck x=>match a3c E σ 0 x with | .ptr n o=>.ret (.ptr n o) | .ep n e i o=>.ret (.ep n e i o) | .vp t c o=>.ret (.vp t c o) | _=>.fail
 | .binOp op xt x y yt=>i9u E op xt (a3c E σ xt x) (a3c E σ yt y)
 | .unOp op xt x=>unM op (a3c E σ xt x)
 | .convert s t x=>bif E.known s then i3j E s t (a3c E σ s x) else .fail
 | .makeSlice t n c=>i3m E dst t (a3c E σ 0 n) (a3c E σ 0 c)
 | .slice t x lo hi none=>(i8v E (a3c E σ t x)).bind fun _=>h3d E t (a3c E σ t x) (lo.map (a3c E σ 0)) (hi.map (a3c E σ 0))
 | .fieldAddr t x j=>d5l E t j (a3c E σ 0 x)
 | .field t x j=>h2x E t j (a3c E σ t x)
 | .indexAddr t x i=>d5m E t (a3c E σ t x) (a3c E σ 0 i)
 | .index t x i=>h3a E t (a3c E σ t x) (a3c E σ 0 i)
 | .makeFunc (.func f) first captured=>(match first.toList,captured.toList.map (a3c E σ 0) with
  | [],[]=>.ret (.clo f none)
  | [],[.ptr n 0]=>.ret (.clo f (some n))
  | _,_=>.fail)
 | .extract x j=>match a3c E σ 0 x with | .tup vs=>(match vs[j]? with | some v=>.ret v | none=>.fail) | _=>.fail
 | .call c=>(match c.callee with | .builtin b=>c7g E σ dst b c.args.toList c.argTypes.toList | _=>.fail)
 | _=>.fail
def St.put (σ:St) (d:Option Nat) (a:A):St:=
 match d with
 | none=>σ
 | some i=>⟨fun j=>bif Nat.beq j i then a else σ.sl j,σ.mem⟩
def callee? (σ:St) (o:Oper):Option (FuncId×List Operand×List A):=
 match o.op with
 | .call { callee:=.value (.func f),args,.. }=>some (f,args.toList,[])
 | .call { callee:=.value (.tmp i),args,.. }=>(match σ.sl i with
  | .clo f none=>some (f,args.toList,[])
  | .clo f (some n)=>some (f,args.toList,[.ptr n 0])
  | _=>none)
 | _=>none
def c4n (E:Env) (σ:St):List Nat→List Operand→List A
 | t :: ts,x :: xs=>a3c E σ t x :: c4n E σ ts xs
 | _,_=>[]
def e2o:List A→Bool
 | []=>true
 | .tup _ :: _=>false
 | _ :: r=>e2o r
def behind (E:Env) (sg:Sig) (fn:Func) (d:Nat) (l:List Lent) (seen:List Nm) (out:Outs):M A:=
 (bif b6a E sg.res (h8n E sg fn) || b0r E l then c0x seen else .ret ()).bind fun _=>
 (b3d E d 0 0 sg.res (h8n E sg fn) out.res).bind fun cs=>(b7m E d 0 l out.vars).bind fun _=>
  .ret (match fn.resultTypes.toList with | [t]=>b8s E t cs | ts=>.tup (h8m E cs ts))
def i9w (ls:Bool):A→List Nm
 | .ptr n _=>bif ls then [] else [n]
 | a=>a.tops
def b9q (σ:St) (ls:Bool):List Operand→List Nm
 | []=>[]
 | .tmp i :: r=>i9w ls (σ.sl i)++b9q σ ls r
 | _ :: r=>b9q σ ls r
def g1a:Op→Bool | .load _ _ | .store _ _ _=>true | _=>false
def i2a:Op→Bool | .load _ _ | .store _ _ _ | .call _ | .buildSlice _ _ _ | .slice _ _ _ _ _=>true | _=>false
def g5j (E:Env):List Nm→M Unit
 | []=>.ret ()
 | n :: ns=>(h8j (.ref n)).bind fun l=>(bif l then .ret () else f3f E 3 n).bind fun _=>g5j E ns
def d1i (E:Env):List Nm→M Unit
 | []=>.ret ()
 | n :: ns=>(f4u n).bind fun l=>(g5j E l).bind fun _=>d1i E ns
def c7h (E:Env) (σ:St):Op→Bool
 | .load t p=>(match a3c E σ 0 p with | .ep _ e _ o=>(((E.flat e).drop o).take (E.sz t)).all Ty.flatB | _=>false)
 | _=>false
def g5k (E:Env) (σ:St):Op→M Bool
 | .load t p=>(match a3c E σ 0 p with
  | .ep n e _ o=>(match E.isAgg t,d1g 0 (((E.flat e).drop o).take (E.sz t)) with
   | true,some (j,_)=>.get n fun | some (.deep _ _ (some (_,j',nm)))=>.ret (Nat.ble 500000 nm.2&&Nat.beq (o+j) j') | _=>.ret false
   | _,_=>.ret false)
  | _=>.ret false)
 | _=>.ret false
def e9e (E:Env) (σ:St) (o:Oper):M Unit:=bif !i2a o.op || c7h E σ o.op then .ret () else (g5k E σ o.op).bind fun hd=>bif hd then .ret () else match b9q σ (g1a o.op) o.op.operands.toList with | []=>.ret () | n :: ns=>M.k0s.bind fun md=>bif md then d1i E (n :: ns) else .ret ()
def d5j {R:Type} (E:Env) (F:Call) (σ:St) (o:Oper) (K:St→FP→Option R):Option R:=
 match callee? σ o with
 | some (f,args,more)=>
  match g0t E.del f with
  | some e=>(match more with
   | []=>(h0k E e (o.dst.getD 0) (args.map (a3c E σ 0))).run σ.mem ⟨[],[]⟩ fun a m p=>K (St.put ⟨σ.sl,m⟩ o.dst a) p
   | _=>none)
  | none=>
  match E.fn f with
  | none=>none
  | some fn=>bif Nat.beq args.length fn.params.toList.length&&Nat.beq more.length (E.sig f).free.length&&e2o (c4n E σ fn.params.toList args) then
   ((
    e9e E σ o).bind fun _=>(d5n E (E.sig f).ins (f4t (E.sig f) fn) (c4n E σ fn.params.toList args++more)).bind fun r=>(c7f r.2.2).bind fun _=>.ret r).run σ.mem ⟨[],[]⟩ fun (ins,l,seen) m p=>
    match F f ins with
    | none=>none
    | some out=>(behind E (E.sig f) fn (o.dst.getD 0) l seen out).run m p fun a m p=>K (St.put ⟨σ.sl,m⟩ o.dst a) p
   else none
 | none=>((e9e E σ o).bind fun _=>opM E σ o (o.dst.getD 0)).run σ.mem ⟨[],[]⟩ fun a m p=>K (St.put ⟨σ.sl,m⟩ o.dst a) p
def g7x (ops:List Oper) (j:Nat):Option Nat:=match ops[j]? with | some o=>o.dst | none=>none
def a4m {R:Type} (E:Env) (F:Call) (all:List Oper):List Oper→St→List FP→(St→List FP→Option R)→Option R
 | [],σ,ps,K=>K σ ps
 | o :: os,σ,ps,K=>
  match o.guard with
  | none=>d5j E F σ o fun σ' p=>a4m E F all os σ' (p :: ps) K
  | some (j,want)=>
   match g7x all j with
   | none=>none
   | some s=>
    match σ.sl s with
    | .b x=>
     match want with
     | true=>bif x then d5j E F (σ.put (some s) (.b true)) o fun σ' p=>a4m E F all os σ' (p :: ps) K else a4m E F all os ((σ.put (some s) (.b false)).put o.dst .skip) (⟨[],[]⟩ :: ps) K
     | false=>bif x then a4m E F all os ((σ.put (some s) (.b true)).put o.dst .skip) (⟨[],[]⟩ :: ps) K else d5j E F (σ.put (some s) (.b false)) o fun σ' p=>a4m E F all os σ' (p :: ps) K
    | .skip=>a4m E F all os (σ.put o.dst .skip) (⟨[],[]⟩ :: ps) K
    | _=>none
def b5m:List Oper→List Nat→List Nat
 | [],acc=>acc
 | o :: os,acc=>b5m os (acc++[o.after.toList.foldl (fun s e=>bif Region.binds .any e then Nat.lor (Nat.lor s (2 ^ e.on)) (acc.getD e.on 0) else s) 0])
def f4z (all:List Oper) (o:Oper):List Nat:=(o.op.operands.toList.filterMap d0c)++(match o.guard with | some (j,_)=>(g7x all j).toList | none=>[])
def i2b (x:Nat) (l:List Nat):Bool:=l.any (Nat.beq x)
def h3g (a b:List Nm):Bool:=a.any fun x=>b.any (a8m x)
def b7k (all:List Oper) (x y:Oper):Bool:=
 (match x.dst with | some d=>!i2b d (f4z all y)&&!(match y.dst with | some e=>Nat.beq d e | none=>false) | none=>true)&&(match y.dst with | some d=>!i2b d (f4z all x) | none=>true)
def d5o (p q:FP):Bool:=!h3g p.wr q.rd&&!h3g p.wr q.wr&&!h3g q.wr p.rd
def h3h (all:List Oper) (bs:List Nat) (ps:List FP):Bool:=
 (List.range all.length).all fun j=>(List.range j).all fun i=>
  Nat.testBit (bs.getD j 0) i || (match all[i]?,all[j]? with | some x,some y=>b7k all x y&&d5o (ps.getD i ⟨[],[]⟩) (ps.getD j ⟨[],[]⟩) | _,_=>false)
def e2p:List Oper→Nat→Bool
 | [],_=>true
 | o :: os,j=>o.after.toList.all (fun e=>!(Region.binds .any e) || Nat.blt e.on j)&&e2p os (j+1)
def i9x:List Oper→Bool
 | []=>true
 | o :: os=>(match o.op with | .select _ _=>false | _=>true)&&i9x os
def i3o (all:List Oper) (ps:List FP):Bool:=e2p all 0&&h3h all (b5m all []) ps
def f5a (all:List Oper):List Nat:=all.flatMap (f4z all)
def f5b:Code→List Nat
 | .region _ ops _=>f5a ops.toList
 | .seq a b=>f5b a++f5b b
 | .cond c a b=>(d0c c).toList++f5b a++f5b b
 | .block _ a | .loop a | .scope a=>f5b a
 | _=>[]
def i2c (all:List Oper):List Oper→List Nat→List Nat×List Nat
 | [],as=>([],as)
 | o :: os,as=>let r:=i2c all os (o.dst.toList++as);((f4z all o).filter (fun x=>!i2b x as)++r.1,r.2)
def a8n:Code→List Nat→List Nat×List Nat
 | .region _ ops _,as=>i2c ops.toList ops.toList as
 | .seq a b,as=>let r:=a8n a as;let q:=a8n b r.2;(r.1++q.1,q.2)
 | .cond c a b,as=>((d0c c).toList.filter (fun x=>!i2b x as)++(a8n a as).1++(a8n b as).1,as)
 | .block _ a,as | .loop a,as | .scope a,as=>((a8n a as).1,as)
 | _,as=>([],as)
def f5c:List Nat→List Nat
 | []=>[]
 | x :: xs=>bif i2b x xs then f5c xs else x :: f5c xs
def h3i (x:Nat):List Nat→List Nat
 | []=>[x]
 | y :: ys=>bif Nat.blt x y then x :: y :: ys else y :: h3i x ys
def g1b:List Nat→List Nat
 | []=>[]
 | x :: xs=>h3i x (g1b xs)
def b7n (l:List (Nm×Nm)) (n:Nm):Option Nm:=match l with | []=>none | (a,b) :: r=>bif a8m n a then some b else b7n r n
def f5d (m:Mem) (at_:Nm) (ren:List (Nm×Nm)) (n:Nm):List (Nm×Nm):=
 match b7n ren n with
 | some _=>ren
 | none=>match m n with | some (.row _ _ _)=>ren++[(n,at_)] | some (.deep _ _ _)=>ren++[(n,at_)] | _=>ren
def i6u (m:Mem) (at_:Nm) (ren:List (Nm×Nm)):A→List (Nm×Nm)
 | .ref n=>f5d m at_ ren n
 | .cut n _ _ _=>f5d m at_ ren n
 | .ep n _ _ _=>f5d m at_ ren n
 | _=>ren
def h3j (m:Mem) (s:Nat):Nat→List (Nm×Nm)→List A→List (Nm×Nm)
 | _,ren,[]=>ren
 | j,ren,a :: as=>h3j m s (j+1) (i6u m (s,j) ren a) as
def i6v (m:Mem) (s:Nat) (ren:List (Nm×Nm)):A→List (Nm×Nm)
 | .agg as=>h3j m s 1 ren as
 | .ptr n _ | .clo _ (some n)=>match b7n ren n with
  | some _=>ren
  | none=>match m n with
   | some (.var cs)=>h3j m n.1 1 (ren++[(n,n)]) cs
   | _=>ren
 | a=>i6u m (s,0) ren a
def h3k (σ:St):List Nat→List (Nm×Nm)→List (Nm×Nm)
 | [],ren=>ren
 | i :: is,ren=>h3k σ is (i6v σ.mem i ren (σ.sl i))
def g5l (ren:List (Nm×Nm)):A→A
 | .ref n=>match b7n ren n with | some n'=>.ref n' | none=>.undef
 | .cut n e f l=>match b7n ren n with | some n'=>.cut n' e f l | none=>.undef
 | .ep n e i o=>match b7n ren n with | some n'=>.ep n' e i o | none=>.undef
 | .ptr n o=>match b7n ren n with | some n'=>.ptr n' o | none=>.undef
 | .clo f (some n)=>match b7n ren n with | some n'=>.clo f (some n') | none=>.undef
 | .agg _=>.undef
 | .tup _=>.undef
 | a=>a
def d0e (ren:List (Nm×Nm)):List A→List A
 | []=>[]
 | a :: as=>g5l ren a :: d0e ren as
def i6h (ren:List (Nm×Nm)):A→A
 | .agg as=>bif a1d (d0e ren as) then .agg (d0e ren as) else .undef
 | a=>g5l ren a
def i6w (ren:List (Nm×Nm)):Option O→O
 | some (.var cs)=>bif a1d (d0e ren cs) then .var (d0e ren cs) else .dead
 | some (.deep e es none)=>.deep e es none
 | some (.deep _ _ _)=>.dead
 | some (.save _)=>.dead
 | some o=>o
 | none=>.dead
def b7o (m:Mem) (ren:List (Nm×Nm)):List (Nm×Nm)→List (Nm×O)
 | []=>[]
 | (a,b) :: r=>(b,i6w ren (m a)) :: b7o m ren r
def h3l (σ:St) (ren:List (Nm×Nm)):List Nat→List (Nat×A)
 | []=>[]
 | i :: is=>(i,i6h ren (σ.sl i)) :: h3l σ ren is
def g1c (D:Nat→Bool) (at_:Nm):A→A×List (Nm×O)
 | .nil e=>(.ref at_,[(at_,bif D e then .deep e [] none else .row e true [])])
 | a=>(a,[])
def b6b (D:Nat→Bool) (s:Nat):Nat→List A→List A×List (Nm×O)
 | _,[]=>([],[])
 | j,a :: as=>((g1c D (s,j) a).1 :: (b6b D s (j+1) as).1,(g1c D (s,j) a).2++(b6b D s (j+1) as).2)
def g5m (D:Nat→Bool) (s:Nat):A→A×List (Nm×O)
 | .agg as=>(.agg (b6b D s 1 as).1,(b6b D s 1 as).2)
 | a=>g1c D (s,0) a
def c8a (D:Nat→Bool):List (Nat×A)→List (Nat×A)×List (Nm×O)
 | []=>([],[])
 | (i,a) :: r=>((i,(g5m D i a).1) :: (c8a D r).1,(g5m D i a).2++(c8a D r).2)
def b9r (D:Nat→Bool):List (Nm×O)→List (Nm×O)×List (Nm×O)
 | []=>([],[])
 | (n,.var cs) :: r=>((n,.var (b6b D n.1 1 cs).1) :: (b9r D r).1,(b6b D n.1 1 cs).2++(b9r D r).2)
 | (n,o) :: r=>((n,o) :: (b9r D r).1,(b9r D r).2)
def a3q:List (Nat×A)→Nat→A
 | [],_=>.undef
 | (i,a) :: r,j=>bif Nat.beq j i then a else a3q r j
def a1f:List (Nm×O)→Mem
 | [],_=>none
 | (n,o) :: r,x=>bif a8m x n then some o else a1f r x
def b6c:List Nm→Bool
 | []=>true
 | n :: ns=>!(ns.any (a8m n))&&b6c ns
def d1j {α β:Type}:List (α×β)→List α
 | []=>[]
 | (a,_) :: r=>a :: d1j r
def i6i {α β:Type}:List (α×β)→List β
 | []=>[]
 | (_,b) :: r=>b :: i6i r
def c7i (m:Mem):List Nm→Bool
 | []=>true
 | n :: ns=>match m n with | some _=>c7i m ns | none=>false
def g1d (ren:List (Nm×Nm)):List Nat→Bool
 | []=>true
 | i :: is=>(match b7n ren (i,0) with | some n=>a8m n (i,0) | none=>false)&&g1d ren is
def e1t (D:Nat→Bool) (pins keep:List Nat) (σ:St) (ren:List (Nm×Nm)):Option St:=
 bif g1d ren pins&&b6c (d1j ren)&&b6c (i6i ren)&&c7i σ.mem (d1j ren)&&b6c (d1j ((c8a D (h3l σ ren keep)).2++(b9r D (b7o σ.mem ren ren)).2++(b9r D (b7o σ.mem ren ren)).1)) then
  some ⟨a3q (c8a D (h3l σ ren keep)).1,a1f ((c8a D (h3l σ ren keep)).2++(b9r D (b7o σ.mem ren ren)).2++(b9r D (b7o σ.mem ren ren)).1)⟩
 else none
def i9y (a b:Nm):Bool:=Nat.blt a.1 b.1 || (Nat.beq a.1 b.1&&Nat.blt a.2 b.2)
def d0f (p:Nm×O):List (Nm×O)→List (Nm×O)
 | []=>[p]
 | q :: r=>bif i9y p.1 q.1 then p :: q :: r else q :: d0f p r
def h0m:List (Nm×O)→List (Nm×O)
 | []=>[]
 | p :: r=>d0f p (h0m r)
def g5n (D:Nat→Bool) (pins keep:List Nat) (σ:St) (ren:List (Nm×Nm)):Option St:=
 bif g1d ren pins&&b6c (d1j ren)&&b6c (i6i ren)&&c7i σ.mem (d1j ren)&&b6c (d1j ((c8a D (h3l σ ren keep)).2++(b9r D (b7o σ.mem ren ren)).2++(b9r D (b7o σ.mem ren ren)).1)) then
  some ⟨a3q (c8a D (h3l σ ren keep)).1,a1f (h0m ((c8a D (h3l σ ren keep)).2++(b9r D (b7o σ.mem ren ren)).2++(b9r D (b7o σ.mem ren ren)).1))⟩
 else none
def h3m (m:Mem):List Nat→List (Nm×Nm)→List (Nm×Nm)
 | [],ren=>ren
 | i :: is,ren=>h3m m is (f5d m (i,0) (i6v m i ren (.ptr (i,0) 0)) (i,0))
def i3p (D:Nat→Bool) (pins keep:List Nat) (σ:St):Option St:=g5n D pins keep σ (h3k σ keep (h3m σ.mem pins []))
def d1k (m:Mem):Bool:=match m a3i with | some _=>true | none=>false
def i9z (E:Env) (m:Mem) (e:Nat):Bool:=d1k m&&!E.plain e
def f5e (m:Mem) (σ:St):St:=bif d1k m&&!d1k σ.mem then ⟨σ.sl,σ.mem.put a3i .dead⟩ else σ
def i8w:List Nm→M Unit
 | []=>.ret ()
 | n :: ns=>(M.lowD n).bind fun _=>i8w ns
def j0a (E:Env):A→M A
 | .ref n=>.get n fun
  | some (.row e _ _)=>(i6g E (.row e) (.ref n)).bind fun t=>.ret (.sl e t.asR)
  | _=>.ret (.ref n)
 | .nil e=>.ret (.sl e [])
 | a=>.ret a
def i3q (E:Env):List A→M (List A)
 | []=>.ret []
 | a :: as=>(j0a E a).bind fun b=>(i3q E as).bind fun bs=>.ret (b :: bs)
def i6x (E:Env):List Nm→M Unit
 | []=>.ret ()
 | n :: ns=>.get n fun
  | some (.var cs)=>(i3q E cs).bind fun cs'=>(M.var n).bind fun _=>.set n (.var cs') (i6x E ns)
  | _=>i6x E ns
def j0r:List Nat→List Nat→Bool
 | [],[]=>true
 | a :: as,b :: bs=>Nat.beq a b&&j0r as bs
 | _,_=>false
def i3r:List (List Nat)→List Nat→Bool
 | [],_=>false
 | l :: ls,keep=>j0r l keep || i3r ls keep
def g1e (E:Env) (pins keep:List Nat) (σ:St):Option St:=
 bif d1k σ.mem then
  (g0v E (d1j (h3k σ keep (h3m σ.mem pins [])))).run σ.mem ⟨[],[]⟩ fun _ m _=>match i3p (i9z E m) pins keep ⟨σ.sl,m⟩ with | some σ'=>some (f5e m σ') | none=>none
 else ((i8w (d1j (h3k σ keep (h3m σ.mem pins [])))).bind fun _=>bif i3r E.frz keep then i6x E (d1j (h3k σ keep (h3m σ.mem pins []))) else .ret ()).run σ.mem ⟨[],[]⟩ fun _ m _=>i3p (fun _=>false) pins keep ⟨σ.sl,m⟩
def d5p (a:Nat):Bool:=Nat.blt a 2 || (Nat.ble 900000 a&&Nat.blt a 1000000)
def d1l (n:Nm):Nm:=bif d5p n.1 then n else (n.1+1000000,n.2)
def d1m (n:Nm):Option Nm:=bif d5p n.1 then some n else bif Nat.blt n.1 1000002 || d5p (n.1 - 1000000) then none else some (n.1 - 1000000,n.2)
def upA:A→A
 | .ref n=>.ref (d1l n)
 | .cut n e f l=>.cut (d1l n) e f l
 | .ptr n o=>.ptr (d1l n) o
 | .ep n e i o=>.ep (d1l n) e i o
 | .clo f (some n)=>.clo f (some (d1l n))
 | a=>a
def i6j:List A→List A
 | []=>[]
 | a :: as=>upA a :: i6j as
def upV:A→A
 | .agg cs=>.agg (i6j cs)
 | a=>upA a
def i6k:List A→List A
 | []=>[]
 | a :: as=>upV a :: i6k as
def upW:A→A
 | .tup vs=>.tup (i6k vs)
 | a=>upV a
def h2r:List A→List A
 | []=>[]
 | a :: as=>upW a :: h2r as
def upO:O→O
 | .var cs=>.var (i6j cs)
 | .deep e es (some (i,j,n))=>.deep e es (some (i,j,d1l n))
 | .save as=>.save (h2r as)
 | o=>o
def c4o (m:Mem):Mem:=fun x=>match d1m x with
 | some n=>(match m n with | some o=>some (upO o) | none=>none)
 | none=>none
abbrev Inl (R:Type):=FuncId→List A→List A→Nat→Mem→(A→List A→Mem→Option R)→Option R
def h3n (E:Env) (σ:St) (o:Oper):Option (FuncId×Func×List Operand):=
 match o.guard,callee? σ o with
 | none,some (f,args,[])=>bif i2b f E.inl then (match E.fn f with | some fn=>some (f,fn,args) | none=>none) else none
 | _,_=>none
def h8o (σ:St):List Nat→List A
 | []=>[]
 | i :: is=>σ.sl i :: h8o σ is
def g5o:List Nat→List A→List (Nat×A)
 | i :: is,a :: as=>(i,a) :: g5o is as
 | _,_=>[]
def d1n {R:Type} (E:Env) (F:Call) (I:Inl R) (all:List Oper) (keep:List Nat):List Oper→St→(St→Option R)→Option R
 | [],σ,K=>K σ
 | o :: os,σ,K=>match h3n E σ o with
  | some (f,fn,args)=>bif Nat.beq args.length fn.params.toList.length&&e2o (c4n E σ fn.params.toList args) then
    I f (c4n E σ fn.params.toList args) (h8o σ keep) (o.dst.getD 0) σ.mem fun a sv m=>d1n E F I all keep os (St.put ⟨a3q (g5o keep sv),m⟩ o.dst a) K
   else none
  | none=>a4m E F all [o] σ [] fun σ' _=>d1n E F I all keep os σ' K
inductive Pre where | low (n:Nm) | opn (n d:Nm) (i j:Nat)
def M.dry {α:Type}:M α→Mem→Option (α×Mem)
 | .ret a,m=>some (a,m)
 | .fail,_=>none
 | .get n k,m=>(k (m n)).dry m
 | .set n o k,m=>k.dry (m.put n o)
 | .chk _ k,m=>k.dry m
def i6y (E:Env) (m0:Mem) (σ:St) (o:Oper):List Pre:=match o.op with
 | .slice t x _ _ _=>(match a3c E σ t x with
  | .ref n=>(match m0 n with | some (.deep _ _ _)=>[.low n] | _=>[])
  | _=>[])
 | .load t p=>(match a3c E σ 0 p with
  | .ep n e i o'=>(match m0 n with
   | some (.deep _ _ none)=>bif E.isAgg t&&d1k m0 then (match d1g 0 (((E.flat e).drop o').take (E.sz t)) with | some (j,_)=>[.opn n (o.dst.getD 0,500000+j) i (o'+j)] | none=>[]) else []
   | _=>[])
  | _=>[])
 | _=>[]
def i3s (E:Env) (m0:Mem):List Oper→St→List Pre
 | [],_=>[]
 | o :: os,σ=>match o.guard,callee? σ o with
  | none,none=>i6y E m0 σ o++(match ((e9e E σ o).bind fun _=>opM E σ o (o.dst.getD 0)).dry σ.mem with
   | some (a,m)=>i3s E m0 os (St.put ⟨σ.sl,m⟩ o.dst a)
   | none=>[])
  | _,_=>[]
def i6l (E:Env):List Pre→M Unit
 | []=>.ret ()
 | .low n :: r=>(i8v E (.ref n)).bind fun _=>i6l E r
 | .opn n d i j :: r=>(M.get n fun
  | some (.deep e es none)=>(match (E.flat e)[j]? with
   | some (.row e')=>.chk (Nat.blt i es.length) ((M.new d (bif E.plain e' then .row e' true ((es.getD i []).getD j (.i 0)).asR else .deep e' ((es.getD i []).getD j (.i 0)).asR none)).bind fun _=>.set n (.deep e es (some (i,j,d))) (.ret ()))
   | _=>.ret ())
  | _=>.ret ():M Unit).bind fun _=>i6l E r
def i6z (E:Env):Nat→List Oper→Option Nat
 | _,[]=>none
 | i,o :: os=>match h3n E ⟨fun _=>.undef,fun _=>none⟩ o with
  | some _=>some i
  | none=>i6z E (i+1) os
def f5f (all:List Oper) (bs:List Nat) (ps:List FP) (i0 i1:Nat):Bool:=
 (List.range i1).all fun j=>(List.range j).all fun i=>Nat.blt i i0 ||
  (Nat.testBit (bs.getD j 0) i || (match all[i]?,all[j]? with | some x,some y=>b7k all x y&&d5o (ps.getD (i - i0) ⟨[],[]⟩) (ps.getD (j - i0) ⟨[],[]⟩) | _,_=>false))
def j0b (all:List Oper) (bs:List Nat) (i:Nat):Bool:=
 (List.range all.length).all fun k=>Nat.blt k i || ((List.range i).all (fun j=>Nat.testBit (bs.getD k 0) j)&&(Nat.beq k i || Nat.testBit (bs.getD k 0) i))
def f5g {R:Type} (E:Env) (F:Call) (I:Inl R) (all:List Oper) (keep:List Nat) (σ:St) (K:St→Option R):Option R:=
 match i6z E 0 all with
 | none=>a4m E F all all σ [] fun σ' ps=>bif i3o all ps.reverse then K σ' else none
 | some i=>bif e2p all 0&&j0b all (b5m all []) i&&Nat.blt i all.length then
   a4m E F all (all.take i) σ [] fun σ1 ps=>bif f5f all (b5m all []) ps.reverse 0 i then
    (match all[i]? with
    | some o=>(match h3n E σ1 o with
     | some (f,fn,args)=>bif Nat.beq args.length fn.params.toList.length&&e2o (c4n E σ1 fn.params.toList args) then
       I f (c4n E σ1 fn.params.toList args) (h8o σ1 keep) (o.dst.getD 0) σ1.mem fun a sv m=>
        a4m E F all (all.drop (i+1)) (St.put ⟨a3q (g5o keep sv),m⟩ o.dst a) [] fun σ' ps=>bif f5f all (b5m all []) ps.reverse (i+1) all.length then K σ' else none
      else none
     | none=>none)
    | none=>none)
   else none
  else none
inductive Ex where | normal | exit (id:Nat) | ret
def h8p {R:Type} (E:Env) (body:St→(Ex→St→Option R)→Option R) (pins keep:List Nat) (K:Ex→St→Option R):Nat→St→Option R
 | 0,_=>none
 | k+1,σ=>body σ fun ex σ'=>match ex with | .normal=>(match g1e E pins keep σ' with | some σ''=>h8p E body pins keep K k σ'' | none=>none) | e=>K e σ'
def a5d {R:Type} (E:Env) (F:Call) (I:Inl R) (k:Nat) (pins:List Nat):Code→List Nat→St→(Ex→St→Option R)→Option R
 | .skip,_,σ,K=>K .normal σ
 | .region _ ops draw,out,σ,K=>match draw with
  | true=>(i6l E (i3s E σ.mem ops.toList σ)).run σ.mem ⟨[],[]⟩ fun _ m _=>f5g E F I ops.toList (g1b (f5c (f5a ops.toList++out))) ⟨σ.sl,m⟩ fun σ'=>K .normal σ'
  | false=>d1n E F I ops.toList (g1b (f5c (f5a ops.toList++out))) ops.toList σ fun σ'=>K .normal σ'
 | .seq a b,out,σ,K=>a5d E F I k pins a (f5b b++out) σ fun ex σ'=>match ex with | .normal=>a5d E F I k pins b out σ' K | e=>K e σ'
 | .cond c a b,out,σ,K=>match a3c E σ 0 c with
  | .b x=>bif x then a5d E F I k pins a out (σ.put (d0c c) (.b true)) K else a5d E F I k pins b out (σ.put (d0c c) (.b false)) K
  | _=>none
 | .block id a,out,σ,K=>a5d E F I k pins a out σ fun ex σ'=>match ex with | .exit i=>bif Nat.beq i id then K .normal σ' else K (.exit i) σ' | e=>K e σ'
 | .loop a,out,σ,K=>
  match g1e E pins (g1b (f5c ((a8n a []).1++out))) σ with
  | some σ'=>h8p E (fun σ K'=>a5d E F I k pins a ((a8n a []).1++out) σ K') pins (g1b (f5c ((a8n a []).1++out))) K k σ'
  | none=>none
 | .exit id,_,σ,K=>K (.exit id) σ
 | .ret,_,σ,K=>K .ret σ
 | _,_,_,_=>none
def enter (E:Env):Nat→List (List Bool)→List Nat→List Arg→M (List A)
 | _,_,[],[]=>.ret []
 | i,ws,t :: ts,.v cs :: r=>(b3d E i 0 0 (ws.headD []) (fl (ws.headD []) (E.flat t)) cs).bind fun as=>(enter E (i+1) ws.tail ts r).bind fun q=>.ret (b8s E t as :: q)
 | i,ws,t :: ts,.s cs :: r=>(b3d E i 0 0 (ws.headD []) (fl (ws.headD []) (E.flat t)) cs).bind fun as=>(enter E (i+1) ws.tail ts r).bind fun q=>.ret (b8s E t as :: q)
 | i,ws,t :: ts,.p cs :: r=>(b3d E i 0 0 (ws.headD []) (fl (ws.headD []) (E.flat (E.elem t))) cs).bind fun as=>(M.new (i,0) (.var as)).bind fun _=>(enter E (i+1) ws.tail ts r).bind fun q=>.ret (.ptr (i,0) 0 :: q)
 | i,ws,t :: ts,.r es :: r=>(match E.flat t with
  | [.row e]=>(M.new (i,0) (h0l (ws.headD []) e es)).bind fun _=>(enter E (i+1) ws.tail ts r).bind fun q=>.ret (.ref (i,0) :: q)
  | _=>.fail)
 | i,ws,_ :: ts,.c f none :: r=>(enter E (i+1) ws.tail ts r).bind fun q=>.ret (.clo f none :: q)
 | i,ws,_ :: ts,.c f (some cs) :: r=>(b3d E i 0 0 [] (E.flat (E.fe f)) cs).bind fun as=>(M.new (i,0) (.var as)).bind fun _=>(enter E (i+1) ws.tail ts r).bind fun q=>.ret (.clo f (some (i,0)) :: q)
 | _,_,_,_=>.fail
def c3m (E:Env) (σ:St):List ResultVar→List Nat→M (List A)
 | [],[]=>.ret []
 | .tmp t :: r,ty :: tys=>bif (σ.sl t).fits E ty then (c3m E σ r tys).bind fun as=>.ret ((σ.sl t).cells++as) else .fail
 | .cell p t :: r,ty :: tys=>(e2k E t (σ.sl p)).bind fun a=>bif a.fits E ty then (c3m E σ r tys).bind fun as=>.ret (a.cells++as) else .fail
 | _,_=>.fail
def i7a (E:Env) (i:Nat):Nat→List Bool→List Ty→List T→M (List T)
 | j,ws,ty :: tys,c :: cs=>(bif ty.isRow&&ws.headD false then d1e E true ty (.ref (i,j+1)) else .ret c).bind fun t=>(i7a E i (j+1) ws.tail tys cs).bind fun ts=>.ret (t :: ts)
 | _,_,[],[]=>.ret []
 | _,_,_,_=>.fail
def a7a (E:Env):Nat→List (List Bool)→List Nat→List Arg→M (List (List T))
 | _,_,[],[]=>.ret []
 | i,ws,t :: ts,.p _ :: r=>(M.var (i,0)).bind fun cs=>(c4i E (ws.headD []) (fl (ws.headD []) (E.flat (E.elem t))) cs).bind fun c=>(M.var (i,0)).bind fun _=>.set (i,0) .dead ((a7a E (i+1) ws.tail ts r).bind fun cs=>.ret (c :: cs))
 | i,ws,_ :: ts,.c f (some _) :: r=>(M.var (i,0)).bind fun cs=>(c4i E [] (E.flat (E.fe f)) cs).bind fun c=>(M.var (i,0)).bind fun _=>.set (i,0) .dead ((a7a E (i+1) ws.tail ts r).bind fun cs=>.ret (c :: cs))
 | i,ws,t :: ts,.s cs :: r=>(i7a E i 0 (ws.headD []) (fl (ws.headD []) (E.flat t)) cs).bind fun c=>(a7a E (i+1) ws.tail ts r).bind fun cs=>.ret (c :: cs)
 | i,ws,t :: ts,.r _ :: r=>(match E.flat t with
  | [.row e]=>(d1e E true (b5z (ws.headD []) e) (.ref (i,0))).bind fun c=>(a7a E (i+1) ws.tail ts r).bind fun cs=>.ret ([c] :: cs)
  | _=>.fail)
 | i,ws,_ :: ts,.c _ none :: r=>a7a E (i+1) ws.tail ts r
 | i,ws,_ :: ts,.v _ :: r=>a7a E (i+1) ws.tail ts r
 | _,_,_,_=>.fail
def d7e (n:Nat):Code→Bool
 | .region _ ops _=>ops.toList.all fun o=>match o.dst with | some d=>Nat.blt d n | none=>true
 | .seq a b=>d7e n a&&d7e n b
 | .cond _ a b=>d7e n a&&d7e n b
 | .block _ a | .loop a | .scope a=>d7e n a
 | _=>true
def d1o:Nat→List Arg→List Nat
 | _,[]=>[]
 | i,.p _ :: r=>i :: d1o (i+1) r
 | i,.r _ :: r=>i :: d1o (i+1) r
 | i,.c _ (some _) :: r=>i :: d1o (i+1) r
 | i,.c _ none :: r=>d1o (i+1) r
 | i,.v _ :: r=>d1o (i+1) r
 | i,.s _ :: r=>d1o (i+1) r
def noS:List Arg→Bool
 | []=>true
 | .s _ :: _=>false
 | _ :: r=>noS r
def c3n:Code→Bool
 | .seq a b=>c3n a&&c3n b
 | .cond _ a b=>c3n a&&c3n b
 | .block _ a=>c3n a
 | .loop _ | .scope _=>false
 | _=>true
def e2q:List A→Nat→A
 | [],_=>.skip
 | a :: _,0=>a
 | _ :: r,i+1=>e2q r i
def h3o (σ:St):List ResultVar→List Nm
 | []=>[]
 | .tmp t :: r=>(σ.sl t).tops++h3o σ r
 | .cell p _ :: r=>(σ.sl p).tops++h3o σ r
def i2d:List Nat→List Nm
 | []=>[]
 | i :: is=>(i,0) :: i2d is
def i8x (E:Env) (ts:List Nat) (as:List A):A:=match ts with
 | [t]=>b8s E t as
 | ts=>.tup (h8m E as ts)
def h8q {R:Type} (E:Env) (F:Call) (k:Nat):Nat→Inl R
 | 0=>fun _ _ _ _ _ _=>none
 | d+1=>fun f as sv dst m K=>match E.fn f with
  | some fn=>(match fn.body with
   | some c=>bif c3n c&&d7e fn.ntmps c&&Nat.ble as.length fn.ntmps&&Nat.blt d 10 then
     (M.new (900000+d,dst) (.save (h2r sv))).run (c4o m) ⟨[],[]⟩ fun _ m1 _=>
     a5d E F (h8q E F k d) k [] c (fn.results.toList.map fun | .tmp t=>t | .cell p _=>p) ⟨e2q (i6k as),m1⟩ fun ex σ'=>match ex with
      | .exit _=>none
      | _=>(c3m E σ' fn.results.toList fn.resultTypes.toList).run σ'.mem ⟨[],[]⟩ fun as' m' _=>bif !a1d as' then none else match m' (900000+d,dst) with
       | some (.save sv')=>K (upW (i8x E fn.resultTypes.toList as')) (h2r sv') (c4o m')
       | _=>none
    else none
   | none=>none)
  | none=>none
def h3p {R:Type} (E:Env) (F:Call) (k n:Nat):Inl R:=bif Nat.ble n 2 then h8q E F k 4 else fun _ _ _ _ _ _=>none
def g7y (E:Env) (sg:Sig) (fn:Func) (ins:List Arg) (σ:St):M Outs:=
 (M.k0s.bind fun md=>bif md then f4v E (h3o σ fn.results.toList++i2d (d1o 0 ins)) else .ret ()).bind fun _=>
 (c3m E σ fn.results.toList fn.resultTypes.toList).bind fun as=>(c4i E sg.res (h8n E sg fn) as).bind fun res=>(a7a E 0 sg.ins (f4t sg fn) ins).bind fun vars=>.ret ⟨res,vars⟩
def f5h (E:Env) (F:Call) (k:Nat) (sg:Sig) (fn:Func) (ins:List Arg):Option Outs:=
 match fn.body with
 | some c=>((enter E 0 sg.ins (f4t sg fn) ins).bind fun as=>(bif sg.deep then M.new a3i (.row fn.params.toList.length false []) else .ret ()).bind fun _=>.ret as).run (fun _=>none) ⟨[],[]⟩ fun as m _=>
  bif d7e fn.ntmps c&&Nat.ble (f4t sg fn).length fn.ntmps&&(noS ins || c3n c) then
   a5d E F (h3p E F k (f4t sg fn).length) k (d1o 0 ins) c (fn.results.toList.map fun | .tmp t=>t | .cell p _=>p) ⟨e2q as,m⟩ fun ex σ'=>match ex with
    | .exit _=>none
    | _=>(g7y E sg fn ins σ').run σ'.mem ⟨[],[]⟩ fun o _ _=>some o
  else none
 | none=>none
def a0a (E:Env) (prim:FuncId→Option (List Arg→Option Outs)):Nat→FuncId→List Arg→Option Outs
 | 0,_,_=>none
 | k+1,f,ins=>match prim f with
  | some g=>g ins
  | none=>match E.fn f with
   | some fn=>f5h E (a0a E prim k) k (E.sig f) fn ins
   | none=>none
end Go.Proofs.YtjadnceefhbphaaGreat.Ev
