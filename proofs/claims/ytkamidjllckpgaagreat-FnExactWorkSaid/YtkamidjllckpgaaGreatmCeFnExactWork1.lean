/- What functions answer under the evaluator, as Lean terms, part 1: what FnExactWork needs. No condition. -/
import Derived.Test.YtkamidjllckpgaaGreatmTab
namespace Go.Proofs.YtkamidjllckpgaaGreat.Ev
open Go Go.Proofs
set_option linter.unusedVariables false
set_option maxRecDepth 100000
set_option maxHeartbeats 4000000
noncomputable section
def d8o (k:Nat) (h l m:Int) (c:LL) (d e n o p:Int) (q:LL) (r:Int) (u w:Bool) (a f:Int):OO:=
 a0c (a0a E P0 k N.j5y [.v [.i a],.v [.i 0],.v [.i (W64 ((c.length:Int) - 1))]]) fun g=>
 bif (g.t 0).asB then
  chk (decide (0≤a)&&decide (a<(c.length:Int))) <|
  bif (!(at_ c a.toNat 2).asB) then
   bif (a != d) then some ⟨[.b true],[]⟩ else some ⟨[.b (decide (f<e))],[]⟩
  else
   some ⟨[.b false],[]⟩
 else
  some ⟨[.b false],[]⟩
theorem g3p (k:Nat) (a c d:Int) (e:LL) (f g h l m:Int) (n:LL) (o:Int) (p q:Bool) (t u:Int):a0a E P0 (k+1) N.k1h [.v [.i a,.i c,.i d,.r e,.i f,.i g,.i h,.i l,.i m,.r n,.i o,.b p,.b q],.v [.i t],.v [.i u]]=d8o k a c d e f g h l m n o p q t u:=by kernel_rfl
def d8p (k:Nat) (a:Int):OO:=
 a0c (a0a E P0 k N.j5y [.v [.i a],.v [.i 0],.v [.i 1099511627776]]) fun b=>
 bif (!(b.t 0).asB) then
  some ⟨[.i (-1)],[]⟩
 else
  some ⟨[.i (W64 ((W64 (a+2))+4))],[]⟩
theorem g3q (k:Nat) (a:Int):a0a E P0 (k+1) N.k1i [.v [.i a]]=d8p k a:=by kernel_rfl
def c6s (k:Nat) (c:LL) (d:Int) (e:(Int)→OO):(Int)→OO:=fun a=>
 bif (decide (a<(c.length:Int))) then
  chk (decide (0≤a)&&decide (a<(c.length:Int))) <|
  bif ((at_ c a.toNat 0).asI == d) then some ⟨[.b true],[]⟩ else e (W64 (a+1))
 else
  some ⟨[.b false],[]⟩
def g3r:List Nat:=[0,1,4,5]
def d8q (a:LL) (c:Int):(Int)→St:=fun d=>⟨a2y [(0,.sl 3 a),(1,.i .i64 c),(4,.b false),(5,.i .i64 d)],a0y []⟩
def b9m (k:Nat) (a:LL) (b:Int) (c:(Int)→OO):(Int)→OO:=
 c6s k a b c
def c2s (k:Nat) (b:LL) (c:Int) (a:(Int)→OO):OO:=
 a 0
def e4w (k:Nat) (a:LL) (b:Int):OO:=
 c2s k a b (fun v=>a1l (b9m k a b) k v)
def f6w (k:Nat) (a:LL) (b:Int) (js:List Nat) (j:Nat) (s:St):OO:=a3g E (LB E (a0a E P0 k) k [] N.j9a [.sr,.sl,.sr,.bl]) [] g3r (LK E (a0a E P0 k) k [] N.j9a [.v [.r a],.v [.i b]] [.sr,.sl,.sr,.bl] js) j s
theorem g8q (k:Nat) (a:LL) (c:Int):a0a E P0 (k+1) N.j9a [.v [.r a],.v [.i c]]=e4w k a c:=
 Eq.trans (b:=c2s k a c (fun v=>f6w k a c [] k (d8q a c v))) (by kernel_rfl) (congrArg (c2s k a c) (funext fun v=>a0j (d8q a c) (b9m k a c) (fun j v=>by kernel_rfl) k v))
def c1l (k:Nat) (g c:LL) (h:Bool) (i:LL) (f:Int) (e:(V4_)→OO):(V4_)→OO:=fun (d,a)=>
 bif (decide (a<(c.length:Int))) then
  chk (decide (0≤a)&&decide (a<(c.length:Int))) <|
  bif ((at_ c a.toNat 0).asI == f) then
   chk (decide (0≤a)&&decide (a<(c.length:Int))) <|
   e ((at_ c a.toNat 1).asR,(W64 (a+1)))
  else
   e (d,(W64 (a+1)))
 else
  chk (decide ((([]:LL).length+d.length)*8≤140737488355328)) <|
  some ⟨[.r (([]:LL)++d),.b true],[]⟩
def f1q:List Nat:=[1,2,4,5,6,7,57,58,59]
def c9u (a c:LL) (d:Bool) (e:LL) (f:Int):(V4_)→St:=fun (g,h)=>⟨a2y [(1,.i .i64 f),(2,.ptr (2,0) 0),(4,.ref (4,0)),(5,.b false),(6,.sl 3 g),(7,.i .i64 h),(57,.skip),(58,.skip),(59,.skip)],a0y [((2,0),.var [.sl 68 a,.sl 176 c,.b d,.sl 3 e]),((4,0),.row 3 true [])]⟩
def a7m (k:Nat) (c:LL) (a:Int) (d:(V4_)→OO) (e:Bool):OO:=
 bif e then
  some ⟨[.r [],.b false],[]⟩
 else
  chk (decide (0≤a)&&decide (a<(c.length:Int))) <|
  d ((at_ c a.toNat 0).asR,0)
def b2f (k:Nat) (a b:LL) (c:Bool) (d:LL) (e:Int) (f:(V4_)→OO):(V4_)→OO:=
 c1l k a b c d e f
def b5y (k:Nat) (a g:LL) (e:Bool) (f:LL) (c:Int) (d:(V4_)→OO):OO:=
 a0c (a0a E P0 k N.j6g [.v [.r a,.r g,.b e,.r f]]) fun h=>
 bif (!(h.t 0).asB) then
  a7m k a c d true
 else
  bif e then
   a7m k a c d true
  else
   a0c (a0a E P0 k N.j5y [.v [.i c],.v [.i 0],.v [.i (W64 ((a.length:Int) - 1))]]) fun l=>
   bif (!(l.t 0).asB) then
    a7m k a c d true
   else
    a0c (a0a E P0 k N.j9a [.v [.r f],.v [.i c]]) fun m=>
    a7m k a c d ((m.t 0).asB)
def d3y (k:Nat) (a b:LL) (c:Bool) (d:LL) (e:Int):OO:=
 b5y k a b c d e (fun v=>a1l (b2f k a b c d e) k v)
def e6m (k:Nat) (a c:LL) (d:Bool) (e:LL) (f:Int) (js:List Nat) (j:Nat) (s:St):OO:=a3g E (LB E (a0a E P0 k) k [] N.j9b [.sr,.sr,.sr,.sl,.sr,.bl]) [] f1q (LK E (a0a E P0 k) k [] N.j9b [.v [.r a,.r c,.b d,.r e],.v [.i f]] [.sr,.sr,.sr,.sl,.sr,.bl] js) j s
theorem f6x (k:Nat) (a c:LL) (d:Bool) (e:LL) (f:Int):a0a E P0 (k+1) N.j9b [.v [.r a,.r c,.b d,.r e],.v [.i f]]=d3y k a c d e f:=
 Eq.trans (b:=b5y k a c d e f (fun v=>e6m k a c d e f [] k (c9u a c d e f v))) (by kernel_rfl) (congrArg (b5y k a c d e f) (funext fun v=>a0j (c9u a c d e f) (b2f k a c d e f) (fun j v=>by kernel_rfl) k v))
def d8r (k:Nat) (f g h:Int) (c:LL) (l m n o p:Int) (q:LL) (u:Int) (w x:Bool) (a e:Int):OO:=
 a0c (a0a E P0 k N.k1h [.v [.i f,.i g,.i h,.r c,.i l,.i m,.i n,.i o,.i p,.r q,.i u,.b w,.b x],.v [.i a],.v [.i e]]) fun y=>
 bif (!(y.t 0).asB) then
  some ⟨[.i 0,.b false],[]⟩
 else
  chk (decide (0≤a)&&decide (a<(c.length:Int))) <|
  a0c (a0a E P0 k N.k1i [.v [.i e]]) fun z=>
  a0c (a0a E P0 k N.j9b [.v [.r (at_ c a.toNat 0).asR,.r (at_ c a.toNat 1).asR,.b (at_ c a.toNat 2).asB,.r (at_ c a.toNat 3).asR],.v [.i (z.t 0).asI]]) fun d=>
  bif (!(d.t 1).asB) then
   some ⟨[.i 0,.b false],[]⟩
  else
   bif (((d.t 0).asR.length:Int) != 1) then
    some ⟨[.i 0,.b false],[]⟩
   else
    chk (decide ((0:Int)<((d.t 0).asR.length:Int))) <|
    some ⟨[.i (at_ (d.t 0).asR 0 0).asI,.b true],[]⟩
theorem g3s (k:Nat) (a c d:Int) (e:LL) (f g h l m:Int) (n:LL) (o:Int) (p q:Bool) (t u:Int):a0a E P0 (k+1) N.k3c [.v [.i a,.i c,.i d,.r e,.i f,.i g,.i h,.i l,.i m,.r n,.i o,.b p,.b q],.v [.i t],.v [.i u]]=d8r k a c d e f g h l m n o p q t u:=by kernel_rfl
def b0x (k:Nat) (b:LL) (e:Int) (d:(V1_)→OO):(V1_)→OO:=fun (c,a)=>
 bif (decide (a<(b.length:Int))) then
  bif (a != e) then
   chk (decide (0≤a)&&decide (a<(b.length:Int))) <|
   d ((c9d .i64 c (at_ b a.toNat 0).asI),(W64 (a+1)))
  else
   d (c,(W64 (a+1)))
 else
  some ⟨[.i c],[]⟩
def d6a:List Nat:=[0,1,4,5,6,22]
def c1m (a:LL) (b:Int):(V1_)→St:=fun (c,d)=>⟨a2y [(0,.sl 3 a),(1,.i .i64 b),(4,.i .i64 0),(5,.i .i64 c),(6,.i .i64 d),(22,.skip)],a0y []⟩
def a5v (k:Nat) (a:LL) (b:Int) (c:(V1_)→OO):(V1_)→OO:=
 b0x k a b c
def a6v (k:Nat) (b:LL) (c:Int) (a:(V1_)→OO):OO:=
 a (0,0)
def c2t (k:Nat) (a:LL) (b:Int):OO:=
 a6v k a b (fun v=>a1l (a5v k a b) k v)
def d2u (k:Nat) (a:LL) (b:Int) (js:List Nat) (j:Nat) (s:St):OO:=a3g E (LB E (a0a E P0 k) k [] N.j9c [.sr,.sr,.sl,.sr,.bl]) [] d6a (LK E (a0a E P0 k) k [] N.j9c [.v [.r a],.v [.i b]] [.sr,.sr,.sl,.sr,.bl] js) j s
theorem d8s (k:Nat) (a:LL) (c:Int):a0a E P0 (k+1) N.j9c [.v [.r a],.v [.i c]]=c2t k a c:=
 Eq.trans (b:=a6v k a c (fun v=>d2u k a c [] k (c1m a c v))) (by kernel_rfl) (congrArg (a6v k a c) (funext fun v=>a0j (c1m a c) (a5v k a c) (fun j v=>by kernel_rfl) k v))
def c1n (k:Nat) (h f l:Int) (m:LL) (n o p q u:Int) (w:LL) (x:Int) (y z:Bool) (A:Int) (g:(V2_)→OO):(V2_)→OO:=fun (c,d,a)=>
 bif (decide (d<f)) then
  a0c (a0a E P0 k N.k3c [.v [.i h,.i f,.i l,.r m,.i n,.i o,.i p,.i q,.i u,.r w,.i x,.b y,.b z],.v [.i d],.v [.i A]]) fun e=>
  bif (!(e.t 1).asB) then
   bif (decide (c≥0)) then
    some ⟨[.r [],.b false],[]⟩
   else
    chk (decide ((a.length+([[.i (e.t 0).asI]]:LL).length)*8≤140737488355328)) <|
    g (d,(W64 (d+1)),(a++([[.i (e.t 0).asI]]:LL)))
  else
   chk (decide ((a.length+([[.i (e.t 0).asI]]:LL).length)*8≤140737488355328)) <|
   g (c,(W64 (d+1)),(a++([[.i (e.t 0).asI]]:LL)))
 else
  bif (decide (c≥0)) then
   a0c (a0a E P0 k N.j9c [.v [.r a],.v [.i c]]) fun B=>
   chk (decide (0≤c)&&decide (c<(a.length:Int))) <|
   some ⟨[.r (a0z a c.toNat 0 [.i (B.t 0).asI]),.b true],[]⟩
  else
   some ⟨[.r a,.b true],[]⟩
def f1r:List Nat:=[1,2,4,5,6,7,8,36,37,38,39,40,41,42,43,44]
def c9v (a c d:Int) (e:LL) (f g h l m:Int) (n:LL) (o:Int) (p q:Bool) (r:Int):(V2_)→St:=fun (t,u,w)=>⟨a2y [(1,.i .i64 r),(2,.ptr (2,0) 0),(4,.ref (4,0)),(5,.b false),(6,.ref (6,0)),(7,.i .i64 t),(8,.i .i64 u),(36,.skip),(37,.skip),(38,.skip),(39,.skip),(40,.skip),(41,.skip),(42,.skip),(43,.skip),(44,.skip)],a0y [((2,0),.var [.i .i64 a,.i .i64 c,.i .i64 d,.sl 147 e,.i .i64 f,.i .i64 g,.i .i64 h,.i .i64 l,.i .i64 m,.sl 149 n,.i .i64 o,.b p,.b q]),((4,0),.row 3 true []),((6,0),.row 3 true w)]⟩
def b2g (k:Nat) (a b c:Int) (d:LL) (e f g h i:Int) (l:LL) (m:Int) (n o:Bool) (p:Int) (q:(V2_)→OO):(V2_)→OO:=
 c1n k a b c d e f g h i l m n o p q
def b5z (k:Nat) (b c d:Int) (e:LL) (f g h i l:Int) (m:LL) (n:Int) (o p:Bool) (q:Int) (a:(V2_)→OO):OO:=
 a ((-1),0,[])
def d3z (k:Nat) (a b c:Int) (d:LL) (e f g h i:Int) (l:LL) (m:Int) (n o:Bool) (p:Int):OO:=
 b5z k a b c d e f g h i l m n o p (fun v=>a1l (b2g k a b c d e f g h i l m n o p) k v)
def e6n (k:Nat) (a c d:Int) (e:LL) (f g h l m:Int) (n:LL) (o:Int) (p q:Bool) (t:Int) (js:List Nat) (j:Nat) (s:St):OO:=a3g E (LB E (a0a E P0 k) k [] N.j9d [.sr,.sr,.sr,.sl,.sr,.bl]) [] f1r (LK E (a0a E P0 k) k [] N.j9d [.v [.i a,.i c,.i d,.r e,.i f,.i g,.i h,.i l,.i m,.r n,.i o,.b p,.b q],.v [.i t]] [.sr,.sr,.sr,.sl,.sr,.bl] js) j s
theorem f6y (k:Nat) (a c d:Int) (e:LL) (f g h l m:Int) (n:LL) (o:Int) (p q:Bool) (t:Int):a0a E P0 (k+1) N.j9d [.v [.i a,.i c,.i d,.r e,.i f,.i g,.i h,.i l,.i m,.r n,.i o,.b p,.b q],.v [.i t]]=d3z k a c d e f g h l m n o p q t:=
 Eq.trans (b:=b5z k a c d e f g h l m n o p q t (fun v=>e6n k a c d e f g h l m n o p q t [] k (c9v a c d e f g h l m n o p q t v))) (by kernel_rfl) (congrArg (b5z k a c d e f g h l m n o p q t) (funext fun v=>a0j (c9v a c d e f g h l m n o p q t) (b2g k a c d e f g h l m n o p q t) (fun j v=>by kernel_rfl) k v))
def c9w (k:Nat) (c a d:Int):OO:=
 a0c (a0a E P0 k N.j7b [.v [.i c,.i a]]) fun e=>
 bif (e.t 0).asB then
  a0c (a0a E P0 k N.j5y [.v [.i d],.v [.i 0],.v [.i (W64 (a - 1))]]) fun f=>
  some ⟨[.b (f.t 0).asB],[]⟩
 else
  some ⟨[.b false],[]⟩
theorem f1s (k:Nat) (a b c:Int):a0a E P0 (k+1) N.k1j [.v [.i a,.i b],.v [.i c]]=c9w k a b c:=by kernel_rfl
def c9x (k:Nat) (a c b:Int):OO:=
 a0c (a0a E P0 k N.k1j [.v [.i a,.i c],.v [.i b]]) fun d=>
 bif (!(d.t 0).asB) then
  some ⟨[.i (-1)],[]⟩
 else
  chk (!decide (a=0)) <|
  some ⟨[.i (W64 ((W64 (a - 1)) - (Int.tmod b a)))],[]⟩
theorem f1t (k:Nat) (a b c:Int):a0a E P0 (k+1) N.k1k [.v [.i a,.i b],.v [.i c]]=c9x k a b c:=by kernel_rfl
def d8t (k:Nat) (a b c d:Int):OO:=
 a0c (a0a E P0 k N.k1j [.v [.i a,.i b],.v [.i c]]) fun e=>
 bif (!(e.t 0).asB) then
  some ⟨[.i (-1)],[]⟩
 else
  a0c (a0a E P0 k N.j5y [.v [.i d],.v [.i 0],.v [.i (W64 (a - 2))]]) fun f=>
  bif (!(f.t 0).asB) then
   some ⟨[.i (-1)],[]⟩
  else
   a0c (a0a E P0 k N.k1k [.v [.i a,.i b],.v [.i c]]) fun g=>
   chk (!decide (a=0)) <|
   some ⟨[.i (Int.tmod (W64 ((W64 ((g.t 0).asI+1))+d)) a)],[]⟩
theorem g3t (k:Nat) (a b c d:Int):a0a E P0 (k+1) N.k3d [.v [.i a,.i b],.v [.i c],.v [.i d]]=d8t k a b c d:=by kernel_rfl
def a9c (k:Nat) (f g h:Int) (a:Outs) (e:Int) (d:LL) (l:(V0_)→OO) (m:Bool):OO:=
 bif m then
  a0c (a0a E P0 k N.k3d [.v [.i f,.i g],.v [.i h],.v [.i e]]) fun c=>
  chk (decide (0≤(c.t 0).asI)&&decide ((c.t 0).asI<((a.t 0).asR.length:Int))) <|
  chk (decide ((d.length+([[.i (at_ (a.t 0).asR (c.t 0).asI.toNat 0).asI]]:LL).length)*8≤140737488355328)) <|
  l ((W64 (e+1)),(d++([[.i (at_ (a.t 0).asR (c.t 0).asI.toNat 0).asI]]:LL)))
 else
  some ⟨[.r d,.b (a.t 1).asB],[]⟩
def b6a (k:Nat) (h a d:Int) (i:LL) (l m n o p:Int) (q:LL) (r:Int) (u w:Bool) (e:Int) (b:Outs) (f:(V0_)→OO):(V0_)→OO:=fun (c,g)=>
 bif (decide (c<(W64 (a - 1)))) then
  a9c k a d e b c g f ((b.t 1).asB)
 else
  a9c k a d e b c g f false
def f6z:List Nat:=[1,2,4,5,6,7,8,9,39,40]
def d4a (c d e:Int) (f:LL) (g h l m n:Int) (o:LL) (p:Int) (q r:Bool) (u:Int) (a:Outs):(V0_)→St:=fun (w,x)=>⟨a2y [(1,.i .i64 u),(2,.ptr (2,0) 0),(4,.ref (4,0)),(5,.b false),(6,.ref (6,0)),(7,.b (a.t 1).asB),(8,.ref (8,0)),(9,.i .i64 w),(39,.skip),(40,.skip)],a0y [((2,0),.var [.i .i64 c,.i .i64 d,.i .i64 e,.sl 147 f,.i .i64 g,.i .i64 h,.i .i64 l,.i .i64 m,.i .i64 n,.sl 149 o,.i .i64 p,.b q,.b r]),((4,0),.row 3 true []),((6,0),.row 3 true (a.t 0).asR),((8,0),.row 3 true x)]⟩
def a6o (k:Nat) (a b c:Int) (d:LL) (e f g h i:Int) (l:LL) (m:Int) (n o:Bool) (p:Int) (q:Outs) (r:(V0_)→OO):(V0_)→OO:=
 b6a k a b c d e f g h i l m n o p q r
def b9n (k:Nat) (a c d:Int) (e:LL) (f g h l m:Int) (n:LL) (o:Int) (p q:Bool) (t:Int) (u:Outs→(V0_)→OO):OO:=
 a0c (a0a E P0 k N.j9d [.v [.i a,.i c,.i d,.r e,.i f,.i g,.i h,.i l,.i m,.r n,.i o,.b p,.b q],.v [.i t]]) fun w=>
 u w (0,[])
def d8u (k:Nat) (a b c:Int) (d:LL) (e f g h i:Int) (l:LL) (m:Int) (n o:Bool) (p:Int):OO:=
 b9n k a b c d e f g h i l m n o p (fun q v=>a1l (a6o k a b c d e f g h i l m n o p q) k v)
def f1u (k:Nat) (a c d:Int) (e:LL) (f g h l m:Int) (n:LL) (o:Int) (p q:Bool) (t:Int) (js:List Nat) (j:Nat) (s:St):OO:=a3g E (LB E (a0a E P0 k) k [] N.j9e [.sr,.sr,.sr,.sl,.sr,.bl]) [] f6z (LK E (a0a E P0 k) k [] N.j9e [.v [.i a,.i c,.i d,.r e,.i f,.i g,.i h,.i l,.i m,.r n,.i o,.b p,.b q],.v [.i t]] [.sr,.sr,.sr,.sl,.sr,.bl] js) j s
theorem g3u (k:Nat) (a c d:Int) (e:LL) (f g h l m:Int) (n:LL) (o:Int) (p q:Bool) (t:Int):a0a E P0 (k+1) N.j9e [.v [.i a,.i c,.i d,.r e,.i f,.i g,.i h,.i l,.i m,.r n,.i o,.b p,.b q],.v [.i t]]=d8u k a c d e f g h l m n o p q t:=
 Eq.trans (b:=b9n k a c d e f g h l m n o p q t (fun u v=>f1u k a c d e f g h l m n o p q t [] k (d4a a c d e f g h l m n o p q t u v))) (by kernel_rfl) (congrArg (b9n k a c d e f g h l m n o p q t) (funext fun u=>funext fun v=>a0j (d4a a c d e f g h l m n o p q t u) (a6o k a c d e f g h l m n o p q t u) (fun j v=>by kernel_rfl) k v))
def c9y (k:Nat) (e f g:Int) (h:LL) (l m n o p:Int) (a:LL) (q:Int) (u d:Bool) (w:Int):OO:=
 a0c (a0a E P0 k N.j7k [.v [.i e,.i f,.i g,.r h,.i l,.i m,.i n,.i o,.i p,.r a,.i q,.b u,.b d],.v [.i w]]) fun c=>
 bif (decide ((c.t 0).asI≥0)) then
  chk (decide (0≤(c.t 0).asI)&&decide ((c.t 0).asI<(a.length:Int))) <|
  chk (decide ((([]:LL).length+(at_ a (c.t 0).asI.toNat 1).asR.length)*8≤140737488355328)) <|
  some ⟨[.r (([]:LL)++(at_ a (c.t 0).asI.toNat 1).asR),.b true],[]⟩
 else
  bif d then
   some ⟨[.r [],.b false],[]⟩
  else
   a0c (a0a E P0 k N.j9e [.v [.i e,.i f,.i g,.r h,.i l,.i m,.i n,.i o,.i p,.r a,.i q,.b u,.b d],.v [.i w]]) fun x=>
   some ⟨[.r (x.t 0).asR,.b (x.t 1).asB],[]⟩
theorem f1v (k:Nat) (a c d:Int) (e:LL) (f g h l m:Int) (n:LL) (o:Int) (p q:Bool) (t:Int):a0a E P0 (k+1) N.k1l [.v [.i a,.i c,.i d,.r e,.i f,.i g,.i h,.i l,.i m,.r n,.i o,.b p,.b q],.v [.i t]]=c9y k a c d e f g h l m n o p q t:=by kernel_rfl
def d4b (k:Nat) (a c b:Int):OO:=
 a0c (a0a E P0 k N.j7c [.v [.i a,.i c]]) fun d=>
 a0c (a0a E P0 k N.j5y [.v [.i b],.v [.i 0],.v [.i (W64 ((d.t 0).asI - 1))]]) fun e=>
 bif (!(e.t 0).asB) then
  some ⟨[.i (-1)],[]⟩
 else
  chk (!decide ((W64 (a - 1))=0)) <|
  some ⟨[.i (Int.tmod b (W64 (a - 1)))],[]⟩
theorem f7a (k:Nat) (a b c:Int):a0a E P0 (k+1) N.k1m [.v [.i a,.i b],.v [.i c]]=d4b k a b c:=by kernel_rfl
def c9z (k:Nat) (g a c:Int) (h:LL) (l m n o p:Int) (q:LL) (u:Int) (w x:Bool) (d:Int):OO:=
 a0c (a0a E P0 k N.k1g [.v [.i g,.i a,.i c,.r h,.i l,.i m,.i n,.i o,.i p,.r q,.i u,.b w,.b x],.v [.i d]]) fun y=>
 bif ((y.t 0).asI != 0) then
  some ⟨[.i 0,.i (y.t 0).asI],[]⟩
 else
  a0c (a0a E P0 k N.j6x [.v [.i a,.i c],.v [.i d]]) fun z=>
  a0c (a0a E P0 k N.k1l [.v [.i g,.i a,.i c,.r h,.i l,.i m,.i n,.i o,.i p,.r q,.i u,.b w,.b x],.v [.i (z.t 0).asI]]) fun e=>
  bif (!(e.t 1).asB) then
   some ⟨[.i 0,.i 5],[]⟩
  else
   a0c (a0a E P0 k N.k1m [.v [.i a,.i c],.v [.i d]]) fun f=>
   chk (decide (0≤(f.t 0).asI)&&decide ((f.t 0).asI<((e.t 0).asR.length:Int))) <|
   some ⟨[.i (at_ (e.t 0).asR (f.t 0).asI.toNat 0).asI,.i 0],[]⟩
theorem f1w (k:Nat) (a c d:Int) (e:LL) (f g h l m:Int) (n:LL) (o:Int) (p q:Bool) (t:Int):a0a E P0 (k+1) N.j7l [.v [.i a,.i c,.i d,.r e,.i f,.i g,.i h,.i l,.i m,.r n,.i o,.b p,.b q],.v [.i t]]=c9z k a c d e f g h l m n o p q t:=by kernel_rfl
def e4x (k:Nat) (c d e:Int) (f:LL) (g h l m n:Int) (o:LL) (p:Int) (a q:Bool):OO:=
 a0c (a0a E P0 k N.j7j [.v [.i c,.i d,.i e,.r f,.i g,.i h,.i l,.i m,.i n,.r o,.i p,.b a,.b q]]) fun u=>
 bif (!(u.t 0).asB) then some ⟨[.i 1],[]⟩ else (bif a then some ⟨[.i 6],[]⟩ else some ⟨[.i 0],[]⟩)
theorem g8r (k:Nat) (a c d:Int) (e:LL) (f g h l m:Int) (n:LL) (o:Int) (p q:Bool):a0a E P0 (k+1) N.k3e [.v [.i a,.i c,.i d,.r e,.i f,.i g,.i h,.i l,.i m,.r n,.i o,.b p,.b q]]=e4x k a c d e f g h l m n o p q:=by kernel_rfl
def a4w (k:Nat) (a b c:Int) (d e:Bool) (f:Int) (g:Bool):OO:=
 bif g then
  some ⟨[.i 1],[]⟩
 else
  bif d then
   some ⟨[.i 6],[]⟩
  else
   a0c (a0a E P0 k N.j5y [.v [.i f],.v [.i 0],.v [.i (W64 (a - 1))]]) fun h=>
   bif (!(h.t 0).asB) then
    some ⟨[.i 2],[]⟩
   else
    bif e then
     some ⟨[.i 5],[]⟩
    else
     bif (decide (b≥60000)) then
      some ⟨[.i 7],[]⟩
     else
      bif (decide (c≥59990)) then some ⟨[.i 7],[]⟩ else some ⟨[.i 0],[]⟩
def d8v (k:Nat) (m h a:Int) (n:LL) (o p c q d:Int) (u:LL) (w:Int) (e f:Bool) (g:Int) (l:LL):OO:=
 a0c (a0a E P0 k N.j7j [.v [.i m,.i h,.i a,.r n,.i o,.i p,.i c,.i q,.i d,.r u,.i w,.b e,.b f]]) fun x=>
 bif (!(x.t 0).asB) then
  a4w k a c d e f g true
 else
  bif ((l.length:Int) != (W64 (h - 1))) then
   a4w k a c d e f g true
  else
   a0c (a0a E P0 k N.j6m [.v [.r l]]) fun y=>
   a4w k a c d e f g (!(y.t 0).asB)
theorem g3v (k:Nat) (a c d:Int) (e:LL) (f g h l m:Int) (n:LL) (o:Int) (p q:Bool) (t:Int) (u:LL):a0a E P0 (k+1) N.k1n [.v [.i a,.i c,.i d,.r e,.i f,.i g,.i h,.i l,.i m,.r n,.i o,.b p,.b q],.v [.i t],.v [.r u]]=d8v k a c d e f g h l m n o p q t u:=by kernel_rfl
def f1x (k:Nat) (c d e:Int) (f:LL) (g h l m n:Int) (o:LL) (a:Int) (p q:Bool):OO:=
 bif p then
  some ⟨[.b false],[[.i c,.i d,.i e,.r f,.i g,.i h,.i l,.i m,.i n,.r o,.i a,.b p,.b q]]⟩
 else
  bif (a == 0) then
   some ⟨[.b false],[[.i c,.i d,.i e,.r f,.i g,.i h,.i l,.i m,.i n,.r o,.i (-1),.b true,.b q]]⟩
  else
   bif (decide (a > 0)) then
    some ⟨[.b true],[[.i c,.i d,.i e,.r f,.i g,.i h,.i l,.i m,.i n,.r o,.i (W64 (a - 1)),.b p,.b q]]⟩
   else
    some ⟨[.b true],[[.i c,.i d,.i e,.r f,.i g,.i h,.i l,.i m,.i n,.r o,.i a,.b p,.b q]]⟩
theorem h2d (k:Nat) (a c d:Int) (e:LL) (f g h l m:Int) (n:LL) (o:Int) (q t:Bool):a0a E P0 (k+1) N.k1o [.p [.i a,.i c,.i d,.r e,.i f,.i g,.i h,.i l,.i m,.r n,.i o,.b q,.b t]]=f1x k a c d e f g h l m n o q t:=by kernel_rfl
def b7k (k:Nat) (c:Outs) (e:(V0_)→OO):(V0_)→OO:=fun (a,d)=>
 bif (decide (a<((c.t 1).asR.length:Int))) then
  chk (decide (0≤a)&&decide (a<((c.t 1).asR.length:Int))) <|
  chk (decide (0≤a)&&decide (a<((c.t 1).asR.length:Int))) <|
  chk (decide (0≤(at_ (c.t 1).asR a.toNat 0).asI)&&decide ((at_ (c.t 1).asR a.toNat 0).asI<(d.length:Int))) <|
  e ((W64 (a+1)),(a0z d (at_ (c.t 1).asR a.toNat 0).asI.toNat 0 [.r (at_ (c.t 1).asR a.toNat 1).asR]))
 else
  some ⟨[.r d,.r [],.b (c.t 2).asB,.r (c.t 3).asR],[]⟩
def e6o:List Nat:=[2,3,4,37,38,39]
def c7s (a:Outs):(V0_)→St:=fun (c,d)=>⟨a2y [(2,.ptr (2,0) 0),(3,.ptr (3,0) 0),(4,.i .i64 c),(37,.skip),(38,.skip),(39,.skip)],a0y [((2,0),.var [.ref (2,1),.ref (2,2),.b false,.ref (2,4)]),((2,1),.row 68 true []),((2,2),.row 176 true []),((2,4),.row 3 true []),((3,0),.var [.ref (3,1),.ref (3,2),.b (a.t 2).asB,.ref (3,4)]),((3,1),.row 68 true d),((3,2),.row 176 true (a.t 1).asR),((3,4),.row 3 true (a.t 3).asR)]⟩
def c7t (k:Nat) (a:Outs) (c:Outs→(V0_)→OO) (d:Bool):OO:=
 bif d then
  some ⟨[.r (a.t 0).asR,.r (a.t 1).asR,.b (a.t 2).asB,.r (a.t 3).asR],[]⟩
 else
  c a (0,(a.t 0).asR)
def a6f (k:Nat) (a:Outs) (b:(V0_)→OO):(V0_)→OO:=
 b7k k a b
def b2h (k:Nat) (c d:LL) (a:Bool) (e:LL) (f:Outs→(V0_)→OO):OO:=
 a0c (a0a E P0 k N.j6r [.v [.r c,.r d,.b a,.r e]]) fun g=>
 a0c (a0a E P0 k N.j6g [.v [.r c,.r d,.b a,.r e]]) fun h=>
 bif (!(h.t 0).asB) then c7t k g f true else c7t k g f a
def d0a (k:Nat) (a b:LL) (c:Bool) (d:LL):OO:=
 b2h k a b c d (fun e v=>a1l (a6f k e) k v)
def e1z (k:Nat) (a c:LL) (d:Bool) (e:LL) (js:List Nat) (j:Nat) (s:St):OO:=a3g E (LB E (a0a E P0 k) k [] N.j7m [.sr,.sr,.sr,.sl,.sr,.bl]) [] e6o (LK E (a0a E P0 k) k [] N.j7m [.v [.r a,.r c,.b d,.r e]] [.sr,.sr,.sr,.sl,.sr,.bl] js) j s
theorem f1y (k:Nat) (a c:LL) (d:Bool) (e:LL):a0a E P0 (k+1) N.j7m [.v [.r a,.r c,.b d,.r e]]=d0a k a c d e:=
 Eq.trans (b:=b2h k a c d e (fun f v=>e1z k a c d e [] k (c7s f v))) (by kernel_rfl) (congrArg (b2h k a c d e) (funext fun f=>funext fun v=>a0j (c7s f) (a6f k f) (fun j v=>by kernel_rfl) k v))
def c4j (k:Nat) (f:(V3_)→OO):(V3_)→OO:=fun (c,g,h,l,m,n,o,q,u,w,x,y,d,z)=>
 bif (decide (c<(d.length:Int))) then
  chk (decide (0≤c)&&decide (c<(d.length:Int))) <|
  bif (!(at_ d c.toNat 2).asB) then
   a0c (a0a E P0 k N.k1o [.p [.i g,.i h,.i l,.r d,.i m,.i n,.i o,.i q,.i u,.r z,.i w,.b x,.b y]]) fun a=>
   bif (a.t 0).asB then
    chk (decide (0≤c)&&decide (c<((a.vt 0 3).asR.length:Int))) <|
    a0c (a0a E P0 k N.j7m [.v [.r (at_ (a.vt 0 3).asR c.toNat 0).asR,.r (at_ (a.vt 0 3).asR c.toNat 1).asR,.b (at_ (a.vt 0 3).asR c.toNat 2).asB,.r (at_ (a.vt 0 3).asR c.toNat 3).asR]]) fun e=>
    chk (decide (0≤c)&&decide (c<((a.vt 0 3).asR.length:Int))) <|
    f ((W64 (c+1)),(a.vt 0 0).asI,(a.vt 0 1).asI,(a.vt 0 2).asI,(a.vt 0 4).asI,(a.vt 0 5).asI,(a.vt 0 6).asI,(a.vt 0 7).asI,(a.vt 0 8).asI,(a.vt 0 10).asI,(a.vt 0 11).asB,(a.vt 0 12).asB,(a0z (a.vt 0 3).asR c.toNat 0 [.r (e.t 0).asR,.r (e.t 1).asR,.b (e.t 2).asB,.r (e.t 3).asR]),(a.vt 0 9).asR)
   else
    f ((W64 (c+1)),(a.vt 0 0).asI,(a.vt 0 1).asI,(a.vt 0 2).asI,(a.vt 0 4).asI,(a.vt 0 5).asI,(a.vt 0 6).asI,(a.vt 0 7).asI,(a.vt 0 8).asI,(a.vt 0 10).asI,(a.vt 0 11).asB,(a.vt 0 12).asB,(a.vt 0 3).asR,(a.vt 0 9).asR)
  else
   f ((W64 (c+1)),g,h,l,m,n,o,q,u,w,x,y,d,z)
 else
  some ⟨[],[[.i g,.i h,.i l,.r d,.i m,.i n,.i o,.i q,.i u,.r z,.i w,.b x,.b y]]⟩
def f7b:List Nat:=[0,2]
def d4c:(V3_)→St:=fun (a,c,d,e,f,g,h,l,m,n,o,p,q,r)=>⟨a2y [(0,.ptr (0,0) 0),(2,.i .i64 a)],a0y [((0,0),.var [.i .i64 c,.i .i64 d,.i .i64 e,.ref (0,4),.i .i64 f,.i .i64 g,.i .i64 h,.i .i64 l,.i .i64 m,.ref (0,10),.i .i64 n,.b o,.b p]),((0,4),.row 147 true q),((0,10),.row 149 true r)]⟩
def b6b (k:Nat) (a:(V3_)→OO):(V3_)→OO:=
 c4j k a
def b9o (k:Nat) (a b c:Int) (d:LL) (e f g h i:Int) (l:LL) (m:Int) (n o:Bool) (p:(V3_)→OO):OO:=
 p (0,a,b,c,e,f,g,h,i,m,n,o,d,l)
def d8w (k:Nat) (a b c:Int) (d:LL) (e f g h i:Int) (l:LL) (m:Int) (n o:Bool):OO:=
 b9o k a b c d e f g h i l m n o (fun v=>a1l (b6b k) k v)
def f1z (k:Nat) (a c d:Int) (e:LL) (f g h l m:Int) (n:LL) (o:Int) (q t:Bool) (js:List Nat) (j:Nat) (s:St):OO:=a3g E (LB E (a0a E P0 k) k [0] N.j7d [.sr,.bl]) [0] f7b (LK E (a0a E P0 k) k [0] N.j7d [.p [.i a,.i c,.i d,.r e,.i f,.i g,.i h,.i l,.i m,.r n,.i o,.b q,.b t]] [.sr,.bl] js) j s
theorem g3w (k:Nat) (a c d:Int) (e:LL) (f g h l m:Int) (n:LL) (o:Int) (q t:Bool):a0a E P0 (k+1) N.j7d [.p [.i a,.i c,.i d,.r e,.i f,.i g,.i h,.i l,.i m,.r n,.i o,.b q,.b t]]=d8w k a c d e f g h l m n o q t:=
 Eq.trans (b:=b9o k a c d e f g h l m n o q t (fun v=>f1z k a c d e f g h l m n o q t [] k (d4c v))) (by kernel_rfl) (congrArg (b9o k a c d e f g h l m n o q t) (funext fun v=>a0j (d4c) (b6b k) (fun j v=>by kernel_rfl) k v))
def a5f (k:Nat) (d e a c:Int) (f:Bool):OO:=
 bif f then
  some ⟨[.b false],[]⟩
 else
  a0c (a0a E P0 k N.j5y [.v [.i a],.v [.i (-1)],.v [.i (W64 (d - 1))]]) fun g=>
  bif (g.t 0).asB then
   a0c (a0a E P0 k N.j5y [.v [.i c],.v [.i 0],.v [.i e]]) fun h=>
   bif (h.t 0).asB then
    bif (decide (a≥0)) then some ⟨[.b true],[]⟩ else some ⟨[.b (c == 0)],[]⟩
   else
    some ⟨[.b false],[]⟩
  else
   some ⟨[.b false],[]⟩
def d4d (k:Nat) (e f g a b h c d:Int):OO:=
 a0c (a0a E P0 k N.j7b [.v [.i a,.i b]]) fun l=>
 bif (!(l.t 0).asB) then
  a5f k a b c d true
 else
  a0c (a0a E P0 k N.j5y [.v [.i e],.v [.i 1],.v [.i 60000]]) fun m=>
  bif (!(m.t 0).asB) then
   a5f k a b c d true
  else
   a0c (a0a E P0 k N.j5y [.v [.i f],.v [.i 0],.v [.i 60000]]) fun n=>
   bif (!(n.t 0).asB) then
    a5f k a b c d true
   else
    a0c (a0a E P0 k N.j5y [.v [.i g],.v [.i 0],.v [.i (W64 (a - 1))]]) fun o=>
    bif (!(o.t 0).asB) then
     a5f k a b c d true
    else
     a0c (a0a E P0 k N.j5y [.v [.i h],.v [.i 0],.v [.i 60000]]) fun p=>
     a5f k a b c d (!(p.t 0).asB)
theorem f7c (k:Nat) (a b c d e f g h:Int):a0a E P0 (k+1) N.k3f [.v [.i a,.i b,.i c,.i d,.i e,.i f,.i g,.i h]]=d4d k a b c d e f g h:=by kernel_rfl
def d0b (k:Nat) (a b c d e f g h:Int):OO:=
 a0c (a0a E P0 k N.k3f [.v [.i a,.i b,.i c,.i d,.i e,.i f,.i g,.i h]]) fun l=>
 bif (!(l.t 0).asB) then
  some ⟨[.r []],[]⟩
 else
  some ⟨[.r [[.i 21317],[.i a],[.i b],[.i c],[.i d],[.i e],[.i f],[.i (W64 (g+1))],[.i h]]],[]⟩
theorem f2a (k:Nat) (a b c d e f g h:Int):a0a E P0 (k+1) N.k3g [.v [.i a,.i b,.i c,.i d,.i e,.i f,.i g,.i h]]=d0b k a b c d e f g h:=by kernel_rfl
def b4o (k:Nat) (b:LL) (e:Int) (d:(V0_)→OO):(V0_)→OO:=fun (a,c)=>
 bif (decide (a<(b.length:Int))) then
  chk (decide (0≤a)&&decide (a<(b.length:Int))) <|
  bif ((at_ b a.toNat 0).asI != e) then
   chk (decide (0≤a)&&decide (a<(b.length:Int))) <|
   chk (decide ((c.length+([[.i (at_ b a.toNat 0).asI]]:LL).length)*8≤140737488355328)) <|
   d ((W64 (a+1)),(c++([[.i (at_ b a.toNat 0).asI]]:LL)))
  else
   d ((W64 (a+1)),c)
 else
  some ⟨[.r c],[]⟩
def e2a:List Nat:=[0,1,4,5,6,27]
def c5n (a:LL) (b:Int):(V0_)→St:=fun (c,d)=>⟨a2y [(0,.sl 3 a),(1,.i .i64 b),(4,.ref (4,0)),(5,.ref (5,0)),(6,.i .i64 c),(27,.skip)],a0y [((4,0),.row 3 true []),((5,0),.row 3 true d)]⟩
def a4a (k:Nat) (a:LL) (b:Int) (c:(V0_)→OO):(V0_)→OO:=
 b4o k a b c
def a9s (k:Nat) (b:LL) (c:Int) (a:(V0_)→OO):OO:=
 a (0,[])
def c7u (k:Nat) (a:LL) (b:Int):OO:=
 a9s k a b (fun v=>a1l (a4a k a b) k v)
def d8x (k:Nat) (a:LL) (b:Int) (js:List Nat) (j:Nat) (s:St):OO:=a3g E (LB E (a0a E P0 k) k [] N.j9f [.sr,.sr,.sl,.sr,.bl]) [] e2a (LK E (a0a E P0 k) k [] N.j9f [.v [.r a],.v [.i b]] [.sr,.sr,.sl,.sr,.bl] js) j s
theorem e6p (k:Nat) (a:LL) (c:Int):a0a E P0 (k+1) N.j9f [.v [.r a],.v [.i c]]=c7u k a c:=
 Eq.trans (b:=a9s k a c (fun v=>d8x k a c [] k (c5n a c v))) (by kernel_rfl) (congrArg (a9s k a c) (funext fun v=>a0j (c5n a c) (a4a k a c) (fun j v=>by kernel_rfl) k v))
def a4l (k:Nat) (e:LL) (c:Int) (d:LL) (a:Outs) (f:Bool):OO:=
 bif f then
  some ⟨[.r (a.t 0).asR,.r (a.t 1).asR,.b (a.t 2).asB,.r (a.t 3).asR,.b false],[]⟩
 else
  chk (decide ((([]:LL).length+d.length)*8≤140737488355328)) <|
  chk (decide (((a.t 1).asR.length+([[.i c,.r (([]:LL)++d)]]:LL).length)*32≤140737488355328)) <|
  a0c (a0a E P0 k N.j9f [.v [.r e],.v [.i c]]) fun g=>
  some ⟨[.r (a.t 0).asR,.r ((a.t 1).asR++([[.i c,.r (([]:LL)++d)]]:LL)),.b (a.t 2).asB,.r (g.t 0).asR,.b true],[]⟩
def d0c (k:Nat) (f g:LL) (h:Bool) (a:LL) (c:Int) (d:LL):OO:=
 a0c (a0a E P0 k N.j6r [.v [.r f,.r g,.b h,.r a]]) fun e=>
 a0c (a0a E P0 k N.j6g [.v [.r f,.r g,.b h,.r a]]) fun l=>
 bif (!(l.t 0).asB) then
  a4l k a c d e true
 else
  bif h then
   a4l k a c d e true
  else
   a0c (a0a E P0 k N.j5y [.v [.i c],.v [.i 0],.v [.i (W64 ((f.length:Int) - 1))]]) fun m=>
   bif (!(m.t 0).asB) then
    a4l k a c d e true
   else
    a0c (a0a E P0 k N.j8w [.v [.r d]]) fun n=>
    bif (!(n.t 0).asB) then
     a4l k a c d e true
    else
     a4l k a c d e (decide ((g.length:Int)≥60))
theorem f2b (k:Nat) (a c:LL) (d:Bool) (e:LL) (f:Int) (g:LL):a0a E P0 (k+1) N.k1p [.v [.r a,.r c,.b d,.r e],.v [.i f],.v [.r g]]=d0c k a c d e f g:=by kernel_rfl
def e4y (k:Nat) (f g h:Int) (d:LL) (l m n o q:Int) (u:LL) (w:Int) (x y:Bool) (c z:Int) (A:LL):OO:=
 chk (decide (0≤c)&&decide (c<(d.length:Int))) <|
 bif (at_ d c.toNat 2).asB then
  some ⟨[],[[.i f,.i g,.i h,.r d,.i l,.i m,.i n,.i o,.i q,.r u,.i w,.b x,.b y]]⟩
 else
  a0c (a0a E P0 k N.k1o [.p [.i f,.i g,.i h,.r d,.i l,.i m,.i n,.i o,.i q,.r u,.i w,.b x,.b y]]) fun a=>
  bif (!(a.t 0).asB) then
   some ⟨[],[[.i (a.vt 0 0).asI,.i (a.vt 0 1).asI,.i (a.vt 0 2).asI,.r (a.vt 0 3).asR,.i (a.vt 0 4).asI,.i (a.vt 0 5).asI,.i (a.vt 0 6).asI,.i (a.vt 0 7).asI,.i (a.vt 0 8).asI,.r (a.vt 0 9).asR,.i (a.vt 0 10).asI,.b (a.vt 0 11).asB,.b (a.vt 0 12).asB]]⟩
  else
   chk (decide (0≤c)&&decide (c<((a.vt 0 3).asR.length:Int))) <|
   a0c (a0a E P0 k N.k1p [.v [.r (at_ (a.vt 0 3).asR c.toNat 0).asR,.r (at_ (a.vt 0 3).asR c.toNat 1).asR,.b (at_ (a.vt 0 3).asR c.toNat 2).asB,.r (at_ (a.vt 0 3).asR c.toNat 3).asR],.v [.i z],.v [.r A]]) fun e=>
   chk (decide (0≤c)&&decide (c<((a.vt 0 3).asR.length:Int))) <|
   some ⟨[],[[.i (a.vt 0 0).asI,.i (a.vt 0 1).asI,.i (a.vt 0 2).asI,.r (a0z (a.vt 0 3).asR c.toNat 0 [.r (e.t 0).asR,.r (e.t 1).asR,.b (e.t 2).asB,.r (e.t 3).asR]),.i (a.vt 0 4).asI,.i (a.vt 0 5).asI,.i (a.vt 0 6).asI,.i (a.vt 0 7).asI,.i (a.vt 0 8).asI,.r (a.vt 0 9).asR,.i (a.vt 0 10).asI,.b (a.vt 0 11).asB,.b (a.vt 0 12).asB]]⟩
theorem g8s (k:Nat) (a c d:Int) (e:LL) (f g h l m:Int) (n:LL) (o:Int) (q t:Bool) (u w:Int) (x:LL):a0a E P0 (k+1) N.j9g [.p [.i a,.i c,.i d,.r e,.i f,.i g,.i h,.i l,.i m,.r n,.i o,.b q,.b t],.v [.i u],.v [.i w],.v [.r x]]=e4y k a c d e f g h l m n o q t u w x:=by kernel_rfl
def c4k (k:Nat) (z:(V3_)→OO):(V3_)→OO:=fun (d,f,g,h,l,m,q,n,e,u,w,x,o,y)=>
 bif (decide (d<(o.length:Int))) then
  a0c (a0a E P0 k N.k3g [.v [.i f,.i e,.i d,.i g,.i h,.i n,.i l,.i m]]) fun A=>
  a0c (a0a E P0 k N.j9g [.p [.i f,.i g,.i h,.r o,.i l,.i m,.i q,.i n,.i e,.r y,.i u,.b w,.b x],.v [.i d],.v [.i (Int.tmod e 2)],.v [.r (A.t 0).asR]]) fun a=>
  z ((W64 (d+1)),(a.vt 0 0).asI,(a.vt 0 1).asI,(a.vt 0 2).asI,(a.vt 0 4).asI,(a.vt 0 5).asI,(a.vt 0 6).asI,(a.vt 0 7).asI,(a.vt 0 8).asI,(a.vt 0 10).asI,(a.vt 0 11).asB,(a.vt 0 12).asB,(a.vt 0 3).asR,(a.vt 0 9).asR)
 else
  a0c (a0a E P0 k N.j7d [.p [.i f,.i g,.i h,.r o,.i l,.i m,.i q,.i n,.i e,.r y,.i u,.b w,.b x]]) fun c=>
  some ⟨[],[[.i (c.vt 0 0).asI,.i (c.vt 0 1).asI,.i (c.vt 0 2).asI,.r (c.vt 0 3).asR,.i (c.vt 0 4).asI,.i (c.vt 0 5).asI,.i (c.vt 0 6).asI,.i (c.vt 0 7).asI,.i (c.vt 0 8).asI,.r (c.vt 0 9).asR,.i (c.vt 0 10).asI,.b (c.vt 0 11).asB,.b (c.vt 0 12).asB]]⟩
def f7d:List Nat:=[0,2,61]
def d4e:(V3_)→St:=fun (a,c,d,e,f,g,h,l,m,n,o,p,q,r)=>⟨a2y [(0,.ptr (0,0) 0),(2,.i .i64 a),(61,.skip)],a0y [((0,0),.var [.i .i64 c,.i .i64 d,.i .i64 e,.ref (0,4),.i .i64 f,.i .i64 g,.i .i64 h,.i .i64 l,.i .i64 m,.ref (0,10),.i .i64 n,.b o,.b p]),((0,4),.row 147 true q),((0,10),.row 149 true r)]⟩
def b6c (k:Nat) (a:(V3_)→OO):(V3_)→OO:=
 c4k k a
def b9p (k:Nat) (a b c:Int) (d:LL) (e f g h i:Int) (l:LL) (m:Int) (n o:Bool) (p:(V3_)→OO):OO:=
 p (0,a,b,c,e,f,g,h,(W64 (i+1)),m,n,o,d,l)
def d8y (k:Nat) (a b c:Int) (d:LL) (e f g h i:Int) (l:LL) (m:Int) (n o:Bool):OO:=
 b9p k a b c d e f g h i l m n o (fun v=>a1l (b6c k) k v)
def f2c (k:Nat) (a c d:Int) (e:LL) (f g h l m:Int) (n:LL) (o:Int) (q t:Bool) (js:List Nat) (j:Nat) (s:St):OO:=a3g E (LB E (a0a E P0 k) k [0] N.j9h [.sr,.sl,.sr,.bl]) [0] f7d (LK E (a0a E P0 k) k [0] N.j9h [.p [.i a,.i c,.i d,.r e,.i f,.i g,.i h,.i l,.i m,.r n,.i o,.b q,.b t]] [.sr,.sl,.sr,.bl] js) j s
theorem g3x (k:Nat) (a c d:Int) (e:LL) (f g h l m:Int) (n:LL) (o:Int) (q t:Bool):a0a E P0 (k+1) N.j9h [.p [.i a,.i c,.i d,.r e,.i f,.i g,.i h,.i l,.i m,.r n,.i o,.b q,.b t]]=d8y k a c d e f g h l m n o q t:=
 Eq.trans (b:=b9p k a c d e f g h l m n o q t (fun v=>f2c k a c d e f g h l m n o q t [] k (d4e v))) (by kernel_rfl) (congrArg (b9p k a c d e f g h l m n o q t) (funext fun v=>a0j (d4e) (b6c k) (fun j v=>by kernel_rfl) k v))
def d4f (k:Nat) (d e f:Int) (g:LL) (h l m n o:Int) (q:LL) (t:Int) (u w:Bool):OO:=
 a0c (a0a E P0 k N.j7d [.p [.i d,.i e,.i f,.r g,.i h,.i l,.i m,.i n,.i o,.r q,.i t,.b u,.b w]]) fun a=>
 bif (a.vt 0 11).asB then
  some ⟨[],[[.i (a.vt 0 0).asI,.i (a.vt 0 1).asI,.i (a.vt 0 2).asI,.r (a.vt 0 3).asR,.i (a.vt 0 4).asI,.i (a.vt 0 5).asI,.i (a.vt 0 6).asI,.i (a.vt 0 7).asI,.i (a.vt 0 8).asI,.r (a.vt 0 9).asR,.i (a.vt 0 10).asI,.b (a.vt 0 11).asB,.b (a.vt 0 12).asB]]⟩
 else
  a0c (a0a E P0 k N.j9h [.p [.i (a.vt 0 0).asI,.i (a.vt 0 1).asI,.i (a.vt 0 2).asI,.r (a.vt 0 3).asR,.i (a.vt 0 4).asI,.i (a.vt 0 5).asI,.i (a.vt 0 6).asI,.i (a.vt 0 6).asI,.i (a.vt 0 8).asI,.r (a.vt 0 9).asR,.i (a.vt 0 10).asI,.b (a.vt 0 11).asB,.b (a.vt 0 12).asB]]) fun c=>
  some ⟨[],[[.i (c.vt 0 0).asI,.i (c.vt 0 1).asI,.i (c.vt 0 2).asI,.r (c.vt 0 3).asR,.i (c.vt 0 4).asI,.i (c.vt 0 5).asI,.i (c.vt 0 6).asI,.i (c.vt 0 7).asI,.i (c.vt 0 8).asI,.r (c.vt 0 9).asR,.i (c.vt 0 10).asI,.b (c.vt 0 11).asB,.b (c.vt 0 12).asB]]⟩
theorem f7e (k:Nat) (a c d:Int) (e:LL) (f g h l m:Int) (n:LL) (o:Int) (q t:Bool):a0a E P0 (k+1) N.k3h [.p [.i a,.i c,.i d,.r e,.i f,.i g,.i h,.i l,.i m,.r n,.i o,.b q,.b t]]=d4f k a c d e f g h l m n o q t:=by kernel_rfl
def d8z (k:Nat) (a:Int):OO:=
 bif (decide (a<0)) then some ⟨[.i (-1)],[]⟩ else some ⟨[.i (W64 (2+(Int.tmod a 4)))],[]⟩
theorem g3y (k:Nat) (a:Int):a0a E P0 (k+1) N.k3i [.v [.i a]]=d8z k a:=by kernel_rfl
def e4z (k:Nat) (c d:Int) (a:LL):OO:=
 a0c (a0a E P0 k N.j5y [.v [.i c],.v [.i 0],.v [.i 60000]]) fun e=>
 bif (e.t 0).asB then
  a0c (a0a E P0 k N.j5y [.v [.i d],.v [.i 0],.v [.i 7]]) fun f=>
  bif (f.t 0).asB then
   a0c (a0a E P0 k N.j5y [.v [.i (a.length:Int)],.v [.i 2],.v [.i 4]]) fun g=>
   bif (g.t 0).asB then
    a0c (a0a E P0 k N.j6m [.v [.r a]]) fun h=>
    some ⟨[.b (h.t 0).asB],[]⟩
   else
    some ⟨[.b false],[]⟩
  else
   some ⟨[.b false],[]⟩
 else
  some ⟨[.b false],[]⟩
theorem g8t (k:Nat) (a b:Int) (c:LL):a0a E P0 (k+1) N.k3j [.v [.i a,.i b,.r c]]=e4z k a b c:=by kernel_rfl
def d9a (k:Nat) (b c:Int) (a:LL):OO:=
 a0c (a0a E P0 k N.k3j [.v [.i b,.i c,.r a]]) fun d=>
 bif (!(d.t 0).asB) then
  some ⟨[.r []],[]⟩
 else
  chk (decide ((([[.i 21322],[.i b],[.i c],[.i (a.length:Int)]]:LL).length+a.length)*8≤140737488355328)) <|
  some ⟨[.r (([[.i 21322],[.i b],[.i c],[.i (a.length:Int)]]:LL)++a)],[]⟩
theorem g3z (k:Nat) (a b:Int) (c:LL):a0a E P0 (k+1) N.k3k [.v [.i a,.i b,.r c]]=d9a k a b c:=by kernel_rfl
def c6t (k:Nat) (f A:Int) (B:LL) (C:(V3_)→OO):(V3_)→OO:=fun (d,g,h,l,m,n,o,q,u,w,x,y,e,z)=>
 bif (decide (d<(e.length:Int))) then
  a0c (a0a E P0 k N.k3i [.v [.i f]]) fun D=>
  a0c (a0a E P0 k N.k3k [.v [.i f,.i A,.r B]]) fun F=>
  a0c (a0a E P0 k N.j9g [.p [.i g,.i h,.i l,.r e,.i m,.i n,.i o,.i q,.i u,.r z,.i w,.b x,.b y],.v [.i d],.v [.i (D.t 0).asI],.v [.r (F.t 0).asR]]) fun a=>
  C ((W64 (d+1)),(a.vt 0 0).asI,(a.vt 0 1).asI,(a.vt 0 2).asI,(a.vt 0 4).asI,(a.vt 0 5).asI,(a.vt 0 6).asI,(a.vt 0 7).asI,(a.vt 0 8).asI,(a.vt 0 10).asI,(a.vt 0 11).asB,(a.vt 0 12).asB,(a.vt 0 3).asR,(a.vt 0 9).asR)
 else
  a0c (a0a E P0 k N.j7d [.p [.i g,.i h,.i l,.r e,.i m,.i n,.i o,.i q,.i u,.r z,.i w,.b x,.b y]]) fun c=>
  some ⟨[],[[.i (c.vt 0 0).asI,.i (c.vt 0 1).asI,.i (c.vt 0 2).asI,.r (c.vt 0 3).asR,.i (c.vt 0 4).asI,.i (c.vt 0 5).asI,.i (c.vt 0 6).asI,.i (c.vt 0 7).asI,.i (c.vt 0 8).asI,.r (c.vt 0 9).asR,.i (c.vt 0 10).asI,.b (c.vt 0 11).asB,.b (c.vt 0 12).asB]]⟩
def g4a:List Nat:=[0,3,4,22]
def d9b (a c:Int) (d:LL):(V3_)→St:=fun (e,f,g,h,l,m,n,o,p,q,r,t,u,w)=>⟨a2y [(0,.ptr (0,0) 0),(3,.ptr (3,0) 0),(4,.i .i64 e),(22,.skip)],a0y [((0,0),.var [.i .i64 f,.i .i64 g,.i .i64 h,.ref (0,4),.i .i64 l,.i .i64 m,.i .i64 n,.i .i64 o,.i .i64 p,.ref (0,10),.i .i64 q,.b r,.b t]),((0,4),.row 147 true u),((0,10),.row 149 true w),((3,0),.var [.i .i64 a,.i .i64 c,.sl 3 d])]⟩
def b9q (k:Nat) (a b:Int) (c:LL) (d:(V3_)→OO):(V3_)→OO:=
 c6t k a b c d
def c2u (k:Nat) (a b c:Int) (d:LL) (e f g h i:Int) (l:LL) (m:Int) (n o:Bool) (q r:Int) (t:LL) (p:(V3_)→OO):OO:=
 p (0,a,b,c,e,f,g,h,i,m,n,o,d,l)
def e5a (k:Nat) (d e f:Int) (g:LL) (h i l m n:Int) (o:LL) (p:Int) (q r:Bool) (a b:Int) (c:LL):OO:=
 c2u k d e f g h i l m n o p q r a b c (fun v=>a1l (b9q k a b c) k v)
def f7f (k:Nat) (a c d:Int) (e:LL) (f g h l m:Int) (n:LL) (o:Int) (q t:Bool) (u w:Int) (x:LL) (js:List Nat) (j:Nat) (s:St):OO:=a3g E (LB E (a0a E P0 k) k [0] N.j7n [.sr,.sl,.sr,.bl]) [0] g4a (LK E (a0a E P0 k) k [0] N.j7n [.p [.i a,.i c,.i d,.r e,.i f,.i g,.i h,.i l,.i m,.r n,.i o,.b q,.b t],.v [.i u,.i w,.r x]] [.sr,.sl,.sr,.bl] js) j s
theorem g8u (k:Nat) (e f g:Int) (h:LL) (l m n o q:Int) (t:LL) (u:Int) (w x:Bool) (a c:Int) (d:LL):a0a E P0 (k+1) N.j7n [.p [.i e,.i f,.i g,.r h,.i l,.i m,.i n,.i o,.i q,.r t,.i u,.b w,.b x],.v [.i a,.i c,.r d]]=e5a k e f g h l m n o q t u w x a c d:=
 Eq.trans (b:=c2u k e f g h l m n o q t u w x a c d (fun v=>f7f k e f g h l m n o q t u w x a c d [] k (d9b a c d v))) (by kernel_rfl) (congrArg (c2u k e f g h l m n o q t u w x a c d) (funext fun v=>a0j (d9b a c d) (b9q k a c d) (fun j v=>by kernel_rfl) k v))
def c6u (k:Nat) (b:LL) (d:(V1_)→OO):(V1_)→OO:=fun (c,a)=>
 bif (decide (a<(b.length:Int))) then
  chk (decide (0≤a)&&decide (a<(b.length:Int))) <|
  d ((c9d .i64 c (at_ b a.toNat 0).asI),(W64 (a+1)))
 else
  some ⟨[.i c],[]⟩
def g4b:List Nat:=[0,2,3,4,17]
def d9c (a:LL):(V1_)→St:=fun (b,c)=>⟨a2y [(0,.sl 3 a),(2,.i .i64 0),(3,.i .i64 b),(4,.i .i64 c),(17,.skip)],a0y []⟩
def b9r (k:Nat) (a:LL) (b:(V1_)→OO):(V1_)→OO:=
 c6u k a b
def c2v (k:Nat) (b:LL) (a:(V1_)→OO):OO:=
 a (0,0)
def e5b (k:Nat) (a:LL):OO:=
 c2v k a (fun v=>a1l (b9r k a) k v)
def f7g (k:Nat) (a:LL) (js:List Nat) (j:Nat) (s:St):OO:=a3g E (LB E (a0a E P0 k) k [] N.j9i [.sr,.sr,.sl,.sr,.bl]) [] g4b (LK E (a0a E P0 k) k [] N.j9i [.v [.r a]] [.sr,.sr,.sl,.sr,.bl] js) j s
theorem g8v (k:Nat) (a:LL):a0a E P0 (k+1) N.j9i [.v [.r a]]=e5b k a:=
 Eq.trans (b:=c2v k a (fun v=>f7g k a [] k (d9c a v))) (by kernel_rfl) (congrArg (c2v k a) (funext fun v=>a0j (d9c a) (b9r k a) (fun j v=>by kernel_rfl) k v))
def c5o (k:Nat) (a:LL):OO:=
 a0c (a0a E P0 k N.j9i [.v [.r a]]) fun b=>
 some ⟨[.i (b.t 0).asI],[]⟩
theorem e2b (k:Nat) (a:LL):a0a E P0 (k+1) N.k3l [.v [.r a]]=c5o k a:=by kernel_rfl
def b6d (k:Nat) (y:Int) (d e:Bool) (c f g h l m n o q u:Int) (w x:LL) (z:(V3_)→OO) (A:Int):OO:=
 a0c (a0a E P0 k N.k1h [.v [.i f,.i g,.i h,.r w,.i l,.i m,.i n,.i o,.i q,.r x,.i u,.b d,.b e],.v [.i c],.v [.i y]]) fun B=>
 bif (B.t 0).asB then
  a0c (a0a E P0 k N.k1i [.v [.i y]]) fun C=>
  a0c (a0a E P0 k N.j9g [.p [.i f,.i g,.i h,.r w,.i l,.i m,.i n,.i o,.i q,.r x,.i u,.b d,.b e],.v [.i c],.v [.i (C.t 0).asI],.v [.r [[.i A]]]]) fun a=>
  z ((W64 (c+1)),(a.vt 0 0).asI,(a.vt 0 1).asI,(a.vt 0 2).asI,(a.vt 0 4).asI,(a.vt 0 5).asI,(a.vt 0 6).asI,(a.vt 0 7).asI,(a.vt 0 8).asI,(a.vt 0 10).asI,(a.vt 0 11).asB,(a.vt 0 12).asB,(a.vt 0 3).asR,(a.vt 0 9).asR)
 else
  z ((W64 (c+1)),f,g,h,l,m,n,o,q,u,d,e,w,x)
def c4l (k:Nat) (y:Int) (f:LL) (d:Outs) (z:(V3_)→OO):(V3_)→OO:=fun (c,g,a,h,l,m,n,o,p,q,u,w,e,x)=>
 bif (decide (c<(e.length:Int))) then
  a0c (a0a E P0 k N.k3l [.v [.r f]]) fun A=>
  bif (c != (d.t 0).asI) then
   chk (!decide (a=0)) <|
   chk (decide (0≤(Int.tmod (W64 ((W64 ((W64 (c - (d.t 0).asI)) - 1))+a)) a))&&decide ((Int.tmod (W64 ((W64 ((W64 (c - (d.t 0).asI)) - 1))+a)) a)<(f.length:Int))) <|
   b6d k y u w c g a h l m n o p q e x z ((at_ f (Int.tmod (W64 ((W64 ((W64 (c - (d.t 0).asI)) - 1))+a)) a).toNat 0).asI)
  else
   b6d k y u w c g a h l m n o p q e x z ((A.t 0).asI)
 else
  some ⟨[],[[.i g,.i a,.i h,.r e,.i l,.i m,.i n,.i o,.i p,.r x,.i q,.b u,.b w]]⟩
def f7h:List Nat:=[0,1,2,6,7]
def d4g (a:Int) (c:LL) (d:Outs):(V3_)→St:=fun (e,f,g,h,l,m,n,o,p,q,r,u,w,x)=>⟨a2y [(0,.ptr (0,0) 0),(1,.i .i64 a),(2,.sl 3 c),(6,.i .i64 (d.t 0).asI),(7,.i .i64 e)],a0y [((0,0),.var [.i .i64 f,.i .i64 g,.i .i64 h,.ref (0,4),.i .i64 l,.i .i64 m,.i .i64 n,.i .i64 o,.i .i64 p,.ref (0,10),.i .i64 q,.b r,.b u]),((0,4),.row 147 true w),((0,10),.row 149 true x)]⟩
def b6e (k:Nat) (a:Int) (b:LL) (c:Outs) (d:(V3_)→OO):(V3_)→OO:=
 c4l k a b c d
def b9s (k:Nat) (c a b:Int) (d:LL) (e f g h l:Int) (m:LL) (n:Int) (o p:Bool) (q:Int) (u:LL) (r:Outs→(V3_)→OO):OO:=
 a0c (a0a E P0 k N.k1k [.v [.i a,.i b],.v [.i q]]) fun t=>
 r t (0,c,a,b,e,f,g,h,l,n,o,p,d,m)
def d9d (k:Nat) (c d e:Int) (f:LL) (g h i l m:Int) (n:LL) (o:Int) (p q:Bool) (a:Int) (b:LL):OO:=
 b9s k c d e f g h i l m n o p q a b (fun r v=>a1l (b6e k a b r) k v)
def f2d (k:Nat) (a c d:Int) (e:LL) (f g h l m:Int) (n:LL) (o:Int) (q t:Bool) (u:Int) (w:LL) (js:List Nat) (j:Nat) (s:St):OO:=a3g E (LB E (a0a E P0 k) k [0] N.j6y [.sr,.sr,.bl]) [0] f7h (LK E (a0a E P0 k) k [0] N.j6y [.p [.i a,.i c,.i d,.r e,.i f,.i g,.i h,.i l,.i m,.r n,.i o,.b q,.b t],.v [.i u],.v [.r w]] [.sr,.sr,.bl] js) j s
theorem g4c (k:Nat) (d e f:Int) (g:LL) (h l m n o:Int) (q:LL) (t:Int) (u w:Bool) (a:Int) (c:LL):a0a E P0 (k+1) N.j6y [.p [.i d,.i e,.i f,.r g,.i h,.i l,.i m,.i n,.i o,.r q,.i t,.b u,.b w],.v [.i a],.v [.r c]]=d9d k d e f g h l m n o q t u w a c:=
 Eq.trans (b:=b9s k d e f g h l m n o q t u w a c (fun x v=>f2d k d e f g h l m n o q t u w a c [] k (d4g a c x v))) (by kernel_rfl) (congrArg (b9s k d e f g h l m n o q t u w a c) (funext fun x=>funext fun v=>a0j (d4g a c x) (b6e k a c x) (fun j v=>by kernel_rfl) k v))
def d4h (k:Nat) (o q t:Int) (u:LL) (w x h l y:Int) (z:LL) (A:Int) (m B:Bool) (n:Int) (g:LL):OO:=
 bif (decide ((W64 (h - l))≥4)) then
  a0c (a0a E P0 k N.k3h [.p [.i o,.i q,.i t,.r u,.i w,.i x,.i h,.i l,.i y,.r z,.i A,.b m,.b B]]) fun a=>
  bif (a.vt 0 11).asB then
   some ⟨[.i 6],[[.i (a.vt 0 0).asI,.i (a.vt 0 1).asI,.i (a.vt 0 2).asI,.r (a.vt 0 3).asR,.i (a.vt 0 4).asI,.i (a.vt 0 5).asI,.i (a.vt 0 6).asI,.i (a.vt 0 7).asI,.i (a.vt 0 8).asI,.r (a.vt 0 9).asR,.i (a.vt 0 10).asI,.b (a.vt 0 11).asB,.b (a.vt 0 12).asB]]⟩
  else
   chk (decide ((([]:LL).length+g.length)*8≤140737488355328)) <|
   a0c (a0a E P0 k N.j7n [.p [.i (a.vt 0 0).asI,.i (a.vt 0 1).asI,.i (a.vt 0 2).asI,.r (a.vt 0 3).asR,.i (a.vt 0 4).asI,.i (a.vt 0 5).asI,.i (a.vt 0 6).asI,.i (a.vt 0 7).asI,.i (a.vt 0 8).asI,.r (a.vt 0 9).asR,.i (a.vt 0 10).asI,.b (a.vt 0 11).asB,.b (a.vt 0 12).asB],.v [.i (a.vt 0 6).asI,.i n,.r (([]:LL)++g)]]) fun c=>
   bif (c.vt 0 11).asB then
    some ⟨[.i 6],[[.i (c.vt 0 0).asI,.i (c.vt 0 1).asI,.i (c.vt 0 2).asI,.r (c.vt 0 3).asR,.i (c.vt 0 4).asI,.i (c.vt 0 5).asI,.i (c.vt 0 6).asI,.i (c.vt 0 7).asI,.i (c.vt 0 8).asI,.r (c.vt 0 9).asR,.i (c.vt 0 10).asI,.b (c.vt 0 11).asB,.b (c.vt 0 12).asB]]⟩
   else
    a0c (a0a E P0 k N.j6y [.p [.i (c.vt 0 0).asI,.i (c.vt 0 1).asI,.i (c.vt 0 2).asI,.r (c.vt 0 3).asR,.i (c.vt 0 4).asI,.i (c.vt 0 5).asI,.i (W64 ((c.vt 0 6).asI+1)),.i (c.vt 0 7).asI,.i (c.vt 0 8).asI,.r (c.vt 0 9).asR,.i (c.vt 0 10).asI,.b (c.vt 0 11).asB,.b (c.vt 0 12).asB],.v [.i n],.v [.r g]]) fun d=>
    bif (d.vt 0 11).asB then
     some ⟨[.i 6],[[.i (d.vt 0 0).asI,.i (d.vt 0 1).asI,.i (d.vt 0 2).asI,.r (d.vt 0 3).asR,.i (d.vt 0 4).asI,.i (d.vt 0 5).asI,.i (d.vt 0 6).asI,.i (d.vt 0 7).asI,.i (d.vt 0 8).asI,.r (d.vt 0 9).asR,.i (d.vt 0 10).asI,.b (d.vt 0 11).asB,.b (d.vt 0 12).asB]]⟩
    else
     some ⟨[.i 0],[[.i (d.vt 0 0).asI,.i (d.vt 0 1).asI,.i (d.vt 0 2).asI,.r (d.vt 0 3).asR,.i (d.vt 0 4).asI,.i (d.vt 0 5).asI,.i (d.vt 0 6).asI,.i (d.vt 0 7).asI,.i (d.vt 0 8).asI,.r (d.vt 0 9).asR,.i (d.vt 0 10).asI,.b (d.vt 0 11).asB,.b (d.vt 0 12).asB]]⟩
 else
  bif m then
   some ⟨[.i 6],[[.i o,.i q,.i t,.r u,.i w,.i x,.i h,.i l,.i y,.r z,.i A,.b m,.b B]]⟩
  else
   chk (decide ((([]:LL).length+g.length)*8≤140737488355328)) <|
   a0c (a0a E P0 k N.j7n [.p [.i o,.i q,.i t,.r u,.i w,.i x,.i h,.i l,.i y,.r z,.i A,.b m,.b B],.v [.i h,.i n,.r (([]:LL)++g)]]) fun e=>
   bif (e.vt 0 11).asB then
    some ⟨[.i 6],[[.i (e.vt 0 0).asI,.i (e.vt 0 1).asI,.i (e.vt 0 2).asI,.r (e.vt 0 3).asR,.i (e.vt 0 4).asI,.i (e.vt 0 5).asI,.i (e.vt 0 6).asI,.i (e.vt 0 7).asI,.i (e.vt 0 8).asI,.r (e.vt 0 9).asR,.i (e.vt 0 10).asI,.b (e.vt 0 11).asB,.b (e.vt 0 12).asB]]⟩
   else
    a0c (a0a E P0 k N.j6y [.p [.i (e.vt 0 0).asI,.i (e.vt 0 1).asI,.i (e.vt 0 2).asI,.r (e.vt 0 3).asR,.i (e.vt 0 4).asI,.i (e.vt 0 5).asI,.i (W64 ((e.vt 0 6).asI+1)),.i (e.vt 0 7).asI,.i (e.vt 0 8).asI,.r (e.vt 0 9).asR,.i (e.vt 0 10).asI,.b (e.vt 0 11).asB,.b (e.vt 0 12).asB],.v [.i n],.v [.r g]]) fun f=>
    bif (f.vt 0 11).asB then
     some ⟨[.i 6],[[.i (f.vt 0 0).asI,.i (f.vt 0 1).asI,.i (f.vt 0 2).asI,.r (f.vt 0 3).asR,.i (f.vt 0 4).asI,.i (f.vt 0 5).asI,.i (f.vt 0 6).asI,.i (f.vt 0 7).asI,.i (f.vt 0 8).asI,.r (f.vt 0 9).asR,.i (f.vt 0 10).asI,.b (f.vt 0 11).asB,.b (f.vt 0 12).asB]]⟩
    else
     some ⟨[.i 0],[[.i (f.vt 0 0).asI,.i (f.vt 0 1).asI,.i (f.vt 0 2).asI,.r (f.vt 0 3).asR,.i (f.vt 0 4).asI,.i (f.vt 0 5).asI,.i (f.vt 0 6).asI,.i (f.vt 0 7).asI,.i (f.vt 0 8).asI,.r (f.vt 0 9).asR,.i (f.vt 0 10).asI,.b (f.vt 0 11).asB,.b (f.vt 0 12).asB]]⟩
theorem f7i (k:Nat) (a c d:Int) (e:LL) (f g h l m:Int) (n:LL) (o:Int) (q t:Bool) (u:Int) (w:LL):a0a E P0 (k+1) N.k1q [.p [.i a,.i c,.i d,.r e,.i f,.i g,.i h,.i l,.i m,.r n,.i o,.b q,.b t],.v [.i u],.v [.r w]]=d4h k a c d e f g h l m n o q t u w:=by kernel_rfl
def d4i (k:Nat) (e f g:Int) (h:LL) (l m n o q:Int) (d:LL) (u:Int) (w x:Bool) (y:Int):OO:=
 a0c (a0a E P0 k N.j7k [.v [.i e,.i f,.i g,.r h,.i l,.i m,.i n,.i o,.i q,.r d,.i u,.b w,.b x],.v [.i y]]) fun c=>
 bif (decide ((c.t 0).asI<0)) then
  some ⟨[.i 0],[[.i e,.i f,.i g,.r h,.i l,.i m,.i n,.i o,.i q,.r d,.i u,.b w,.b x]]⟩
 else
  chk (decide (0≤(c.t 0).asI)&&decide ((c.t 0).asI<(d.length:Int))) <|
  a0c (a0a E P0 k N.k1n [.v [.i e,.i f,.i g,.r h,.i l,.i m,.i n,.i o,.i q,.r d,.i u,.b w,.b x],.v [.i y],.v [.r (at_ d (c.t 0).asI.toNat 1).asR]]) fun z=>
  bif ((z.t 0).asI != 0) then
   some ⟨[.i (z.t 0).asI],[[.i e,.i f,.i g,.r h,.i l,.i m,.i n,.i o,.i q,.r d,.i u,.b w,.b x]]⟩
  else
   chk (decide (0≤(c.t 0).asI)&&decide ((c.t 0).asI<(d.length:Int))) <|
   a0c (a0a E P0 k N.k1q [.p [.i e,.i f,.i g,.r h,.i l,.i m,.i n,.i o,.i q,.r d,.i u,.b w,.b x],.v [.i y],.v [.r (at_ d (c.t 0).asI.toNat 1).asR]]) fun a=>
   bif ((a.t 0).asI == 0) then
    chk (decide (0≤0)&&decide (0≤(c.t 0).asI)&&decide ((c.t 0).asI≤((a.vt 0 9).asR.length:Int))) <|
    chk (decide ((([]:LL).length+(((a.vt 0 9).asR.drop (0:Int).toNat).take ((c.t 0).asI.toNat - (0:Int).toNat)).length)*32≤140737488355328)) <|
    chk (decide (0≤(W64 ((c.t 0).asI+1)))&&decide ((W64 ((c.t 0).asI+1))≤((a.vt 0 9).asR.length:Int))&&decide (((a.vt 0 9).asR.length:Int)≤((a.vt 0 9).asR.length:Int))) <|
    chk (decide (((([]:LL)++(((a.vt 0 9).asR.drop (0:Int).toNat).take ((c.t 0).asI.toNat - (0:Int).toNat))).length+(((a.vt 0 9).asR.drop (W64 ((c.t 0).asI+1)).toNat).take (((a.vt 0 9).asR.length:Int).toNat - (W64 ((c.t 0).asI+1)).toNat)).length)*32≤140737488355328)) <|
    some ⟨[.i (a.t 0).asI],[[.i (a.vt 0 0).asI,.i (a.vt 0 1).asI,.i (a.vt 0 2).asI,.r (a.vt 0 3).asR,.i (a.vt 0 4).asI,.i (a.vt 0 5).asI,.i (a.vt 0 6).asI,.i (a.vt 0 7).asI,.i (a.vt 0 8).asI,.r ((([]:LL)++(((a.vt 0 9).asR.drop (0:Int).toNat).take ((c.t 0).asI.toNat - (0:Int).toNat)))++(((a.vt 0 9).asR.drop (W64 ((c.t 0).asI+1)).toNat).take (((a.vt 0 9).asR.length:Int).toNat - (W64 ((c.t 0).asI+1)).toNat))),.i (a.vt 0 10).asI,.b (a.vt 0 11).asB,.b (a.vt 0 12).asB]]⟩
   else
    some ⟨[.i (a.t 0).asI],[[.i (a.vt 0 0).asI,.i (a.vt 0 1).asI,.i (a.vt 0 2).asI,.r (a.vt 0 3).asR,.i (a.vt 0 4).asI,.i (a.vt 0 5).asI,.i (a.vt 0 6).asI,.i (a.vt 0 7).asI,.i (a.vt 0 8).asI,.r (a.vt 0 9).asR,.i (a.vt 0 10).asI,.b (a.vt 0 11).asB,.b (a.vt 0 12).asB]]⟩
theorem f7j (k:Nat) (a c d:Int) (e:LL) (f g h l m:Int) (n:LL) (o:Int) (q t:Bool) (u:Int):a0a E P0 (k+1) N.k1r [.p [.i a,.i c,.i d,.r e,.i f,.i g,.i h,.i l,.i m,.r n,.i o,.b q,.b t],.v [.i u]]=d4i k a c d e f g h l m n o q t u:=by kernel_rfl
def b0y (k:Nat) (e:Int) (a:Outs) (d:Int):OO:=
 bif (d != 0) then
  some ⟨[.i (a.t 0).asI,.i (a.t 1).asI,.i (a.t 2).asI,.r (a.t 3).asR,.i (a.t 4).asI,.i (a.t 5).asI,.i (a.t 6).asI,.i (a.t 7).asI,.i (a.t 8).asI,.r (a.t 9).asR,.i (a.t 10).asI,.b (a.t 11).asB,.b (a.t 12).asB,.i d],[]⟩
 else
  a0c (a0a E P0 k N.k1r [.p [.i (a.t 0).asI,.i (a.t 1).asI,.i (a.t 2).asI,.r (a.t 3).asR,.i (a.t 4).asI,.i (a.t 5).asI,.i (a.t 6).asI,.i (a.t 7).asI,.i (a.t 8).asI,.r (a.t 9).asR,.i (a.t 10).asI,.b (a.t 11).asB,.b (a.t 12).asB],.v [.i e]]) fun c=>
  some ⟨[.i (c.vt 0 0).asI,.i (c.vt 0 1).asI,.i (c.vt 0 2).asI,.r (c.vt 0 3).asR,.i (c.vt 0 4).asI,.i (c.vt 0 5).asI,.i (c.vt 0 6).asI,.i (c.vt 0 7).asI,.i (c.vt 0 8).asI,.r (c.vt 0 9).asR,.i (c.vt 0 10).asI,.b (c.vt 0 11).asB,.b (c.vt 0 12).asB,.i (c.t 0).asI],[]⟩
def c2w (k:Nat) (g h f:Int) (l:LL) (m n o q u:Int) (w:LL) (x:Int) (y z:Bool) (d:Int):OO:=
 a0c (a0a E P0 k N.j6s [.v [.i g,.i h,.i f,.r l,.i m,.i n,.i o,.i q,.i u,.r w,.i x,.b y,.b z]]) fun a=>
 a0c (a0a E P0 k N.k3e [.v [.i g,.i h,.i f,.r l,.i m,.i n,.i o,.i q,.i u,.r w,.i x,.b y,.b z]]) fun e=>
 bif ((e.t 0).asI == 0) then
  a0c (a0a E P0 k N.j5y [.v [.i d],.v [.i 0],.v [.i (W64 (f - 1))]]) fun A=>
  bif (!(A.t 0).asB) then b0y k d a 2 else b0y k d a ((e.t 0).asI)
 else
  bif ((e.t 0).asI != 0) then
   some ⟨[.i (a.t 0).asI,.i (a.t 1).asI,.i (a.t 2).asI,.r (a.t 3).asR,.i (a.t 4).asI,.i (a.t 5).asI,.i (a.t 6).asI,.i (a.t 7).asI,.i (a.t 8).asI,.r (a.t 9).asR,.i (a.t 10).asI,.b (a.t 11).asB,.b (a.t 12).asB,.i (e.t 0).asI],[]⟩
  else
   a0c (a0a E P0 k N.k1r [.p [.i (a.t 0).asI,.i (a.t 1).asI,.i (a.t 2).asI,.r (a.t 3).asR,.i (a.t 4).asI,.i (a.t 5).asI,.i (a.t 6).asI,.i (a.t 7).asI,.i (a.t 8).asI,.r (a.t 9).asR,.i (a.t 10).asI,.b (a.t 11).asB,.b (a.t 12).asB],.v [.i d]]) fun c=>
   some ⟨[.i (c.vt 0 0).asI,.i (c.vt 0 1).asI,.i (c.vt 0 2).asI,.r (c.vt 0 3).asR,.i (c.vt 0 4).asI,.i (c.vt 0 5).asI,.i (c.vt 0 6).asI,.i (c.vt 0 7).asI,.i (c.vt 0 8).asI,.r (c.vt 0 9).asR,.i (c.vt 0 10).asI,.b (c.vt 0 11).asB,.b (c.vt 0 12).asB,.i (c.t 0).asI],[]⟩
theorem d9e (k:Nat) (a c d:Int) (e:LL) (f g h l m:Int) (n:LL) (o:Int) (p q:Bool) (t:Int):a0a E P0 (k+1) N.j7o [.v [.i a,.i c,.i d,.r e,.i f,.i g,.i h,.i l,.i m,.r n,.i o,.b p,.b q],.v [.i t]]=c2w k a c d e f g h l m n o p q t:=by kernel_rfl
def b9t (k:Nat) (b:LL) (d:Int) (e:LL) (g:Bool) (a:Int) (c:LL) (f:(V5_)→OO) (h:Bool):OO:=
 bif h then
  chk (decide ((c.length+([[.i d,.r e]]:LL).length)*32≤140737488355328)) <|
  chk (decide (0≤a)&&decide (a<(b.length:Int))) <|
  bif ((at_ b a.toNat 0).asI != d) then
   chk (decide (0≤a)&&decide (a<(b.length:Int))) <|
   chk (decide (((c++([[.i d,.r e]]:LL)).length+([[.i (at_ b a.toNat 0).asI,.r (at_ b a.toNat 1).asR]]:LL).length)*32≤140737488355328)) <|
   f (true,(W64 (a+1)),((c++([[.i d,.r e]]:LL))++([[.i (at_ b a.toNat 0).asI,.r (at_ b a.toNat 1).asR]]:LL)))
  else
   f (true,(W64 (a+1)),(c++([[.i d,.r e]]:LL)))
 else
  chk (decide (0≤a)&&decide (a<(b.length:Int))) <|
  bif ((at_ b a.toNat 0).asI != d) then
   chk (decide (0≤a)&&decide (a<(b.length:Int))) <|
   chk (decide ((c.length+([[.i (at_ b a.toNat 0).asI,.r (at_ b a.toNat 1).asR]]:LL).length)*32≤140737488355328)) <|
   f (g,(W64 (a+1)),(c++([[.i (at_ b a.toNat 0).asI,.r (at_ b a.toNat 1).asR]]:LL)))
  else
   f (g,(W64 (a+1)),c)
def c6v (k:Nat) (h l m:Int) (n:LL) (o p q t u:Int) (c:LL) (w:Int) (x y:Bool) (d:Int) (f:LL) (z:(V5_)→OO):(V5_)→OO:=fun (g,a,e)=>
 bif (decide (a<(c.length:Int))) then
  bif (!g) then
   chk (decide (0≤a)&&decide (a<(c.length:Int))) <|
   b9t k c d f g a e z (decide ((at_ c a.toNat 0).asI≥d))
  else
   b9t k c d f g a e z false
 else
  bif (!g) then
   chk (decide ((e.length+([[.i d,.r f]]:LL).length)*32≤140737488355328)) <|
   some ⟨[],[[.i h,.i l,.i m,.r n,.i o,.i p,.i q,.i t,.i u,.r (e++([[.i d,.r f]]:LL)),.i w,.b x,.b y]]⟩
  else
   some ⟨[],[[.i h,.i l,.i m,.r n,.i o,.i p,.i q,.i t,.i u,.r e,.i w,.b x,.b y]]⟩
def g4d:List Nat:=[0,3,4,5,6,57,58,59,60,61,62,63,64,65,66]
def d9f (a c d:Int) (e:LL) (f g h l m:Int) (n:LL) (o:Int) (p q:Bool) (r:Int) (t:LL):(V5_)→St:=fun (u,w,x)=>⟨a2y [(0,.ptr (0,0) 0),(3,.ptr (3,0) 0),(4,.ref (4,0)),(5,.b u),(6,.i .i64 w),(57,.skip),(58,.skip),(59,.skip),(60,.skip),(61,.skip),(62,.skip),(63,.skip),(64,.skip),(65,.skip),(66,.skip)],a0y [((0,0),.var [.i .i64 a,.i .i64 c,.i .i64 d,.ref (0,4),.i .i64 f,.i .i64 g,.i .i64 h,.i .i64 l,.i .i64 m,.ref (0,10),.i .i64 o,.b p,.b q]),((0,4),.row 147 true e),((0,10),.row 149 true n),((3,0),.var [.i .i64 r,.sl 3 t]),((4,0),.row 149 true x)]⟩
def b9u (k:Nat) (a b c:Int) (d:LL) (e f g h i:Int) (l:LL) (m:Int) (n o:Bool) (p:Int) (q:LL) (r:(V5_)→OO):(V5_)→OO:=
 c6v k a b c d e f g h i l m n o p q r
def c2x (k:Nat) (b c d:Int) (e:LL) (f g h i l:Int) (m:LL) (n:Int) (o p:Bool) (q:Int) (r:LL) (a:(V5_)→OO):OO:=
 a (false,0,[])
def e5c (k:Nat) (a b c:Int) (d:LL) (e f g h i:Int) (l:LL) (m:Int) (n o:Bool) (p:Int) (q:LL):OO:=
 c2x k a b c d e f g h i l m n o p q (fun v=>a1l (b9u k a b c d e f g h i l m n o p q) k v)
def f7k (k:Nat) (a c d:Int) (e:LL) (f g h l m:Int) (n:LL) (o:Int) (q t:Bool) (u:Int) (w:LL) (js:List Nat) (j:Nat) (s:St):OO:=a3g E (LB E (a0a E P0 k) k [0] N.j7p [.sr,.sr,.sr,.sl,.sr,.bl]) [0] g4d (LK E (a0a E P0 k) k [0] N.j7p [.p [.i a,.i c,.i d,.r e,.i f,.i g,.i h,.i l,.i m,.r n,.i o,.b q,.b t],.v [.i u,.r w]] [.sr,.sr,.sr,.sl,.sr,.bl] js) j s
theorem g8w (k:Nat) (a c d:Int) (e:LL) (f g h l m:Int) (n:LL) (o:Int) (q t:Bool) (u:Int) (w:LL):a0a E P0 (k+1) N.j7p [.p [.i a,.i c,.i d,.r e,.i f,.i g,.i h,.i l,.i m,.r n,.i o,.b q,.b t],.v [.i u,.r w]]=e5c k a c d e f g h l m n o q t u w:=
 Eq.trans (b:=c2x k a c d e f g h l m n o q t u w (fun v=>f7k k a c d e f g h l m n o q t u w [] k (d9f a c d e f g h l m n o q t u w v))) (by kernel_rfl) (congrArg (c2x k a c d e f g h l m n o q t u w) (funext fun v=>a0j (d9f a c d e f g h l m n o q t u w) (b9u k a c d e f g h l m n o q t u w) (fun j v=>by kernel_rfl) k v))
def e5d (k:Nat) (e c d:Int) (f:LL) (g h l m n:Int) (o:LL) (q:Int) (u w:Bool) (z B:Int):OO:=
 a0c (a0a E P0 k N.j6x [.v [.i c,.i d],.v [.i z]]) fun A=>
 a0c (a0a E P0 k N.k1l [.v [.i e,.i c,.i d,.r f,.i g,.i h,.i l,.i m,.i n,.r o,.i q,.b u,.b w],.v [.i (A.t 0).asI]]) fun x=>
 bif (!(x.t 1).asB) then
  some ⟨[.i 5],[[.i e,.i c,.i d,.r f,.i g,.i h,.i l,.i m,.i n,.r o,.i q,.b u,.b w]]⟩
 else
  a0c (a0a E P0 k N.k1m [.v [.i c,.i d],.v [.i z]]) fun y=>
  chk (decide (0≤(y.t 0).asI)&&decide ((y.t 0).asI<((x.t 0).asR.length:Int))) <|
  a0c (a0a E P0 k N.j7p [.p [.i e,.i c,.i d,.r f,.i g,.i h,.i l,.i m,.i n,.r o,.i q,.b u,.b w],.v [.i (A.t 0).asI,.r (a0z (x.t 0).asR (y.t 0).asI.toNat 0 [.i B])]]) fun a=>
  some ⟨[.i 0],[[.i (a.vt 0 0).asI,.i (a.vt 0 1).asI,.i (a.vt 0 2).asI,.r (a.vt 0 3).asR,.i (a.vt 0 4).asI,.i (a.vt 0 5).asI,.i (a.vt 0 6).asI,.i (a.vt 0 7).asI,.i (a.vt 0 8).asI,.r (a.vt 0 9).asR,.i (a.vt 0 10).asI,.b (a.vt 0 11).asB,.b (a.vt 0 12).asB]]⟩
theorem g8x (k:Nat) (a c d:Int) (e:LL) (f g h l m:Int) (n:LL) (o:Int) (q t:Bool) (u w:Int):a0a E P0 (k+1) N.k1s [.p [.i a,.i c,.i d,.r e,.i f,.i g,.i h,.i l,.i m,.r n,.i o,.b q,.b t],.v [.i u],.v [.i w]]=e5d k a c d e f g h l m n o q t u w:=by kernel_rfl
def b7l (k:Nat) (e f:Int) (a:Outs) (d:Int):OO:=
 bif (d != 0) then
  some ⟨[.i (a.t 0).asI,.i (a.t 1).asI,.i (a.t 2).asI,.r (a.t 3).asR,.i (a.t 4).asI,.i (a.t 5).asI,.i (a.t 6).asI,.i (a.t 7).asI,.i (a.t 8).asI,.r (a.t 9).asR,.i (a.t 10).asI,.b (a.t 11).asB,.b (a.t 12).asB,.i d],[]⟩
 else
  a0c (a0a E P0 k N.k1s [.p [.i (a.t 0).asI,.i (a.t 1).asI,.i (a.t 2).asI,.r (a.t 3).asR,.i (a.t 4).asI,.i (a.t 5).asI,.i (a.t 6).asI,.i (a.t 7).asI,.i (a.t 8).asI,.r (a.t 9).asR,.i (a.t 10).asI,.b (a.t 11).asB,.b (a.t 12).asB],.v [.i e],.v [.i f]]) fun c=>
  some ⟨[.i (c.vt 0 0).asI,.i (c.vt 0 1).asI,.i (c.vt 0 2).asI,.r (c.vt 0 3).asR,.i (c.vt 0 4).asI,.i (c.vt 0 5).asI,.i (c.vt 0 6).asI,.i (c.vt 0 7).asI,.i (c.vt 0 8).asI,.r (c.vt 0 9).asR,.i (c.vt 0 10).asI,.b (c.vt 0 11).asB,.b (c.vt 0 12).asB,.i (c.t 0).asI],[]⟩
def d0d (k:Nat) (g h l:Int) (m:LL) (n o q u w:Int) (x:LL) (y:Int) (z A:Bool) (d e:Int):OO:=
 a0c (a0a E P0 k N.j6s [.v [.i g,.i h,.i l,.r m,.i n,.i o,.i q,.i u,.i w,.r x,.i y,.b z,.b A]]) fun a=>
 a0c (a0a E P0 k N.k1g [.v [.i g,.i h,.i l,.r m,.i n,.i o,.i q,.i u,.i w,.r x,.i y,.b z,.b A],.v [.i d]]) fun f=>
 bif ((f.t 0).asI == 0) then
  a0c (a0a E P0 k N.k1d [.v [.i e]]) fun B=>
  bif (!(B.t 0).asB) then b7l k d e a 3 else b7l k d e a ((f.t 0).asI)
 else
  bif ((f.t 0).asI != 0) then
   some ⟨[.i (a.t 0).asI,.i (a.t 1).asI,.i (a.t 2).asI,.r (a.t 3).asR,.i (a.t 4).asI,.i (a.t 5).asI,.i (a.t 6).asI,.i (a.t 7).asI,.i (a.t 8).asI,.r (a.t 9).asR,.i (a.t 10).asI,.b (a.t 11).asB,.b (a.t 12).asB,.i (f.t 0).asI],[]⟩
  else
   a0c (a0a E P0 k N.k1s [.p [.i (a.t 0).asI,.i (a.t 1).asI,.i (a.t 2).asI,.r (a.t 3).asR,.i (a.t 4).asI,.i (a.t 5).asI,.i (a.t 6).asI,.i (a.t 7).asI,.i (a.t 8).asI,.r (a.t 9).asR,.i (a.t 10).asI,.b (a.t 11).asB,.b (a.t 12).asB],.v [.i d],.v [.i e]]) fun c=>
   some ⟨[.i (c.vt 0 0).asI,.i (c.vt 0 1).asI,.i (c.vt 0 2).asI,.r (c.vt 0 3).asR,.i (c.vt 0 4).asI,.i (c.vt 0 5).asI,.i (c.vt 0 6).asI,.i (c.vt 0 7).asI,.i (c.vt 0 8).asI,.r (c.vt 0 9).asR,.i (c.vt 0 10).asI,.b (c.vt 0 11).asB,.b (c.vt 0 12).asB,.i (c.t 0).asI],[]⟩
theorem f2e (k:Nat) (a c d:Int) (e:LL) (f g h l m:Int) (n:LL) (o:Int) (p q:Bool) (t u:Int):a0a E P0 (k+1) N.j6n [.v [.i a,.i c,.i d,.r e,.i f,.i g,.i h,.i l,.i m,.r n,.i o,.b p,.b q],.v [.i t],.v [.i u]]=d0d k a c d e f g h l m n o p q t u:=by kernel_rfl
def a0k (a:Outs) (b c:Int):LL:=a0z (a.t 14).asR b.toNat 0 [.i (at_ (a.t 14).asR b.toNat 0).asI,.i (at_ (a.t 14).asR b.toNat 1).asI,.i (at_ (a.t 14).asR b.toNat 2).asI,.i (at_ (a.t 14).asR b.toNat 3).asI,.r (at_ (a.t 14).asR b.toNat 4).asR,.i (W64 ((at_ (a.t 14).asR b.toNat 5).asI+1)),.r (at_ (a.t 14).asR b.toNat 6).asR,.i c]
def a0l (a:Outs) (b:Int) (c:Outs):LL:=a0z (a.t 14).asR b.toNat 0 [.i (at_ (a.t 14).asR b.toNat 0).asI,.i (at_ (a.t 14).asR b.toNat 1).asI,.i (at_ (a.t 14).asR b.toNat 2).asI,.i (at_ (a.t 14).asR b.toNat 3).asI,.r (at_ (a.t 14).asR b.toNat 4).asR,.i (W64 ((at_ (a.t 14).asR b.toNat 5).asI+1)),.r (at_ (a.t 14).asR b.toNat 6).asR,.i (c.t 13).asI]
def a0q (a:Outs) (b:Int) (c:Outs):LL:=a0z (a.t 14).asR b.toNat 0 [.i (at_ (a.t 14).asR b.toNat 0).asI,.i (at_ (a.t 14).asR b.toNat 1).asI,.i (at_ (a.t 14).asR b.toNat 2).asI,.i (at_ (a.t 14).asR b.toNat 3).asI,.r (at_ (a.t 14).asR b.toNat 4).asR,.i (W64 ((at_ (a.t 14).asR b.toNat 5).asI+1)),.r ((at_ (a.t 14).asR b.toNat 6).asR++([[.i (c.t 0).asI]]:LL)),.i (c.t 1).asI]
def a0v (a:Outs) (b:Int):LL:=a0z (a.t 14).asR b.toNat 0 [.i (at_ (a.t 14).asR b.toNat 0).asI,.i (at_ (a.t 14).asR b.toNat 1).asI,.i (at_ (a.t 14).asR b.toNat 2).asI,.i (at_ (a.t 14).asR b.toNat 3).asI,.r (at_ (a.t 14).asR b.toNat 4).asR,.i (at_ (a.t 14).asR b.toNat 5).asI,.r (at_ (a.t 14).asR b.toNat 6).asR,.i (at_ (a.t 14).asR b.toNat 7).asI]
def a1m (a:Outs):List T:=[.i (a.t 0).asI,.i (a.t 1).asI,.i (a.t 2).asI,.r (a.t 3).asR,.i (a.t 4).asI,.i (a.t 5).asI,.i (a.t 6).asI,.i (a.t 7).asI,.i (a.t 8).asI,.r (a.t 9).asR,.i (a.t 10).asI,.b (a.t 11).asB,.b (a.t 12).asB]
def a2d (a:Outs) (b:Int) (c:Outs):List T:=[.i (at_ (a.t 14).asR b.toNat 0).asI,.i (at_ (a.t 14).asR b.toNat 1).asI,.i (at_ (a.t 14).asR b.toNat 2).asI,.i (at_ (a.t 14).asR b.toNat 3).asI,.r (at_ (a.t 14).asR b.toNat 4).asR,.i (at_ (a.t 14).asR b.toNat 1).asI,.i (c.t 13).asI,.r (at_ (a.t 14).asR b.toNat 6).asR]
def a2e (a:Outs) (b c:Int):List T:=[.i (at_ (a.t 14).asR b.toNat 0).asI,.i (at_ (a.t 14).asR b.toNat 1).asI,.i (at_ (a.t 14).asR b.toNat 2).asI,.i (at_ (a.t 14).asR b.toNat 3).asI,.r (at_ (a.t 14).asR b.toNat 4).asR,.i (at_ (a.t 14).asR b.toNat 1).asI,.i c,.r (at_ (a.t 14).asR b.toNat 6).asR]
def a2f (a:Outs) (b:Int) (c:Outs):List T:=[.i (at_ (a.t 14).asR b.toNat 0).asI,.i (at_ (a.t 14).asR b.toNat 1).asI,.i (at_ (a.t 14).asR b.toNat 2).asI,.i (at_ (a.t 14).asR b.toNat 3).asI,.r (at_ (a.t 14).asR b.toNat 4).asR,.i (at_ (a.t 14).asR b.toNat 1).asI,.i (c.t 13).asI,.r []]
def a2g (a:Outs) (b c:Int):List T:=[.i (at_ (a.t 14).asR b.toNat 0).asI,.i (at_ (a.t 14).asR b.toNat 1).asI,.i (at_ (a.t 14).asR b.toNat 2).asI,.i (at_ (a.t 14).asR b.toNat 3).asI,.r (at_ (a.t 14).asR b.toNat 4).asR,.i (at_ (a.t 14).asR b.toNat 1).asI,.i c,.r []]
def c2y (k:Nat) (a:Outs) (c:LL):OO:=
 some ⟨[.i (a.t 0).asI,.i (a.t 1).asI,.i (a.t 2).asI,.r (a.t 3).asR,.i (a.t 4).asI,.i (a.t 5).asI,.i (a.t 6).asI,.i (a.t 7).asI,.i (a.t 8).asI,.r (a.t 9).asR,.i (a.t 10).asI,.b (a.t 11).asB,.b (a.t 12).asB,.r (a.t 13).asR,.r c,.r (a.t 15).asR,.r (a.t 16).asR,.b true],[]⟩
def b7a (k:Nat) (a:Outs) (c d e:LL):OO:=
 some ⟨[.i (a.t 0).asI,.i (a.t 1).asI,.i (a.t 2).asI,.r (a.t 3).asR,.i (a.t 4).asI,.i (a.t 5).asI,.i (a.t 6).asI,.i (a.t 7).asI,.i (a.t 8).asI,.r (a.t 9).asR,.i (a.t 10).asI,.b (a.t 11).asB,.b (a.t 12).asB,.r (a.t 13).asR,.r c,.r d,.r e,.b true],[]⟩
def e5e (k:Nat) (a:Int) (b c:Outs) (f:Bool):OO:=
 bif f then
  chk (decide (0≤0)&&decide (0≤a)&&decide (a≤((a0q b a c).length:Int))) <|
  chk (decide ((([]:LL).length+(((a0q b a c).drop (0:Int).toNat).take (a.toNat - (0:Int).toNat)).length)*96≤140737488355328)) <|
  chk (decide (0≤(W64 (a+1)))&&decide ((W64 (a+1))≤((a0q b a c).length:Int))&&decide (((a0q b a c).length:Int)≤((a0q b a c).length:Int))) <|
  chk (decide (((([]:LL)++(((a0q b a c).drop (0:Int).toNat).take (a.toNat - (0:Int).toNat))).length+(((a0q b a c).drop (W64 (a+1)).toNat).take (((a0q b a c).length:Int).toNat - (W64 (a+1)).toNat)).length)*96≤140737488355328)) <|
  a0c (a0a E P0 k N.j6c [.v [.i (at_ (b.t 14).asR a.toNat 1).asI,.i (c.t 1).asI,.r ((at_ (b.t 14).asR a.toNat 6).asR++([[.i (c.t 0).asI]]:LL))]]) fun d=>
  chk (decide (((b.t 15).asR.length+([[.i (d.t 0).asI,.i (d.t 1).asI,.r (d.t 2).asR]]:LL).length)*40≤140737488355328)) <|
  chk (decide (((b.t 16).asR.length+([[.i (at_ (b.t 14).asR a.toNat 0).asI,.i (at_ (b.t 14).asR a.toNat 1).asI,.i (at_ (b.t 14).asR a.toNat 2).asI,.i (at_ (b.t 14).asR a.toNat 3).asI,.r (at_ (b.t 14).asR a.toNat 4).asR,.i (at_ (b.t 14).asR a.toNat 1).asI,.i (c.t 1).asI,.r ((at_ (b.t 14).asR a.toNat 6).asR++([[.i (c.t 0).asI]]:LL))]]:LL).length)*96≤140737488355328)) <|
  b7a k b ((([]:LL)++(((a0q b a c).drop (0:Int).toNat).take (a.toNat - (0:Int).toNat)))++(((a0q b a c).drop (W64 (a+1)).toNat).take (((a0q b a c).length:Int).toNat - (W64 (a+1)).toNat))) ((b.t 15).asR++([[.i (d.t 0).asI,.i (d.t 1).asI,.r (d.t 2).asR]]:LL)) ((b.t 16).asR++([[.i (at_ (b.t 14).asR a.toNat 0).asI,.i (at_ (b.t 14).asR a.toNat 1).asI,.i (at_ (b.t 14).asR a.toNat 2).asI,.i (at_ (b.t 14).asR a.toNat 3).asI,.r (at_ (b.t 14).asR a.toNat 4).asR,.i (at_ (b.t 14).asR a.toNat 1).asI,.i (c.t 1).asI,.r ((at_ (b.t 14).asR a.toNat 6).asR++([[.i (c.t 0).asI]]:LL))]]:LL))
 else
  chk (decide (0≤0)&&decide (0≤a)&&decide (a≤((a0q b a c).length:Int))) <|
  chk (decide ((([]:LL).length+(((a0q b a c).drop (0:Int).toNat).take (a.toNat - (0:Int).toNat)).length)*96≤140737488355328)) <|
  chk (decide (0≤(W64 (a+1)))&&decide ((W64 (a+1))≤((a0q b a c).length:Int))&&decide (((a0q b a c).length:Int)≤((a0q b a c).length:Int))) <|
  chk (decide (((([]:LL)++(((a0q b a c).drop (0:Int).toNat).take (a.toNat - (0:Int).toNat))).length+(((a0q b a c).drop (W64 (a+1)).toNat).take (((a0q b a c).length:Int).toNat - (W64 (a+1)).toNat)).length)*96≤140737488355328)) <|
  a0c (a0a E P0 k N.j6c [.v [.i (at_ (b.t 14).asR a.toNat 1).asI,.i (c.t 1).asI,.r []]]) fun e=>
  chk (decide (((b.t 15).asR.length+([[.i (e.t 0).asI,.i (e.t 1).asI,.r (e.t 2).asR]]:LL).length)*40≤140737488355328)) <|
  chk (decide (((b.t 16).asR.length+([[.i (at_ (b.t 14).asR a.toNat 0).asI,.i (at_ (b.t 14).asR a.toNat 1).asI,.i (at_ (b.t 14).asR a.toNat 2).asI,.i (at_ (b.t 14).asR a.toNat 3).asI,.r (at_ (b.t 14).asR a.toNat 4).asR,.i (at_ (b.t 14).asR a.toNat 1).asI,.i (c.t 1).asI,.r []]]:LL).length)*96≤140737488355328)) <|
  b7a k b ((([]:LL)++(((a0q b a c).drop (0:Int).toNat).take (a.toNat - (0:Int).toNat)))++(((a0q b a c).drop (W64 (a+1)).toNat).take (((a0q b a c).length:Int).toNat - (W64 (a+1)).toNat))) ((b.t 15).asR++([[.i (e.t 0).asI,.i (e.t 1).asI,.r (e.t 2).asR]]:LL)) ((b.t 16).asR++([[.i (at_ (b.t 14).asR a.toNat 0).asI,.i (at_ (b.t 14).asR a.toNat 1).asI,.i (at_ (b.t 14).asR a.toNat 2).asI,.i (at_ (b.t 14).asR a.toNat 3).asI,.r (at_ (b.t 14).asR a.toNat 4).asR,.i (at_ (b.t 14).asR a.toNat 1).asI,.i (c.t 1).asI,.r []]]:LL))
def b7b (k:Nat) (a:Int) (b:Outs) (c:Int) (f:Bool):OO:=
 bif f then
  chk (decide (0≤0)&&decide (0≤a)&&decide (a≤((a0k b a c).length:Int))) <|
  chk (decide ((([]:LL).length+(((a0k b a c).drop (0:Int).toNat).take (a.toNat - (0:Int).toNat)).length)*96≤140737488355328)) <|
  chk (decide (0≤(W64 (a+1)))&&decide ((W64 (a+1))≤((a0k b a c).length:Int))&&decide (((a0k b a c).length:Int)≤((a0k b a c).length:Int))) <|
  chk (decide (((([]:LL)++(((a0k b a c).drop (0:Int).toNat).take (a.toNat - (0:Int).toNat))).length+(((a0k b a c).drop (W64 (a+1)).toNat).take (((a0k b a c).length:Int).toNat - (W64 (a+1)).toNat)).length)*96≤140737488355328)) <|
  a0c (a0a E P0 k N.j6c [.v [.i (at_ (b.t 14).asR a.toNat 1).asI,.i c,.r (at_ (b.t 14).asR a.toNat 6).asR]]) fun d=>
  chk (decide (((b.t 15).asR.length+([[.i (d.t 0).asI,.i (d.t 1).asI,.r (d.t 2).asR]]:LL).length)*40≤140737488355328)) <|
  chk (decide (((b.t 16).asR.length+([(a2e b a c)]:LL).length)*96≤140737488355328)) <|
  b7a k b ((([]:LL)++(((a0k b a c).drop (0:Int).toNat).take (a.toNat - (0:Int).toNat)))++(((a0k b a c).drop (W64 (a+1)).toNat).take (((a0k b a c).length:Int).toNat - (W64 (a+1)).toNat))) ((b.t 15).asR++([[.i (d.t 0).asI,.i (d.t 1).asI,.r (d.t 2).asR]]:LL)) ((b.t 16).asR++([(a2e b a c)]:LL))
 else
  chk (decide (0≤0)&&decide (0≤a)&&decide (a≤((a0k b a c).length:Int))) <|
  chk (decide ((([]:LL).length+(((a0k b a c).drop (0:Int).toNat).take (a.toNat - (0:Int).toNat)).length)*96≤140737488355328)) <|
  chk (decide (0≤(W64 (a+1)))&&decide ((W64 (a+1))≤((a0k b a c).length:Int))&&decide (((a0k b a c).length:Int)≤((a0k b a c).length:Int))) <|
  chk (decide (((([]:LL)++(((a0k b a c).drop (0:Int).toNat).take (a.toNat - (0:Int).toNat))).length+(((a0k b a c).drop (W64 (a+1)).toNat).take (((a0k b a c).length:Int).toNat - (W64 (a+1)).toNat)).length)*96≤140737488355328)) <|
  a0c (a0a E P0 k N.j6c [.v [.i (at_ (b.t 14).asR a.toNat 1).asI,.i c,.r []]]) fun e=>
  chk (decide (((b.t 15).asR.length+([[.i (e.t 0).asI,.i (e.t 1).asI,.r (e.t 2).asR]]:LL).length)*40≤140737488355328)) <|
  chk (decide (((b.t 16).asR.length+([(a2g b a c)]:LL).length)*96≤140737488355328)) <|
  b7a k b ((([]:LL)++(((a0k b a c).drop (0:Int).toNat).take (a.toNat - (0:Int).toNat)))++(((a0k b a c).drop (W64 (a+1)).toNat).take (((a0k b a c).length:Int).toNat - (W64 (a+1)).toNat))) ((b.t 15).asR++([[.i (e.t 0).asI,.i (e.t 1).asI,.r (e.t 2).asR]]:LL)) ((b.t 16).asR++([(a2g b a c)]:LL))
def b7c (k:Nat) (a:Int) (b:Outs) (c:Int):OO:=
 chk (decide (0≤a)&&decide (a<((b.t 14).asR.length:Int))) <|
 chk (Nat.beq a.toNat a.toNat) <|
 bif (c == 0) then
  c2y k b (a0k b a c)
 else
  bif ((at_ (b.t 14).asR a.toNat 0).asI == 1) then
   b7b k a b c (c == 0)
  else
   b7b k a b c false
def d0e (k:Nat) (c:Int) (d a:Outs) (e f:LL):OO:=
 some ⟨[.i (a.t 0).asI,.i (a.t 1).asI,.i (a.t 2).asI,.r (a.t 3).asR,.i (a.t 4).asI,.i (a.t 5).asI,.i (a.t 6).asI,.i (a.t 7).asI,.i (a.t 8).asI,.r (a.t 9).asR,.i (a.t 10).asI,.b (a.t 11).asB,.b (a.t 12).asB,.r (d.t 13).asR,.r ((([]:LL)++(((a0l d c a).drop (0:Int).toNat).take (c.toNat - (0:Int).toNat)))++(((a0l d c a).drop (W64 (c+1)).toNat).take (((a0l d c a).length:Int).toNat - (W64 (c+1)).toNat))),.r e,.r f,.b true],[]⟩
def c2z (k:Nat) (a:Int) (b c:Outs) (f:Bool):OO:=
 bif f then
  chk (decide (0≤0)&&decide (0≤a)&&decide (a≤((a0l b a c).length:Int))) <|
  chk (decide ((([]:LL).length+(((a0l b a c).drop (0:Int).toNat).take (a.toNat - (0:Int).toNat)).length)*96≤140737488355328)) <|
  chk (decide (0≤(W64 (a+1)))&&decide ((W64 (a+1))≤((a0l b a c).length:Int))&&decide (((a0l b a c).length:Int)≤((a0l b a c).length:Int))) <|
  chk (decide (((([]:LL)++(((a0l b a c).drop (0:Int).toNat).take (a.toNat - (0:Int).toNat))).length+(((a0l b a c).drop (W64 (a+1)).toNat).take (((a0l b a c).length:Int).toNat - (W64 (a+1)).toNat)).length)*96≤140737488355328)) <|
  a0c (a0a E P0 k N.j6c [.v [.i (at_ (b.t 14).asR a.toNat 1).asI,.i (c.t 13).asI,.r (at_ (b.t 14).asR a.toNat 6).asR]]) fun d=>
  chk (decide (((b.t 15).asR.length+([[.i (d.t 0).asI,.i (d.t 1).asI,.r (d.t 2).asR]]:LL).length)*40≤140737488355328)) <|
  chk (decide (((b.t 16).asR.length+([(a2d b a c)]:LL).length)*96≤140737488355328)) <|
  d0e k a b c ((b.t 15).asR++([[.i (d.t 0).asI,.i (d.t 1).asI,.r (d.t 2).asR]]:LL)) ((b.t 16).asR++([(a2d b a c)]:LL))
 else
  chk (decide (0≤0)&&decide (0≤a)&&decide (a≤((a0l b a c).length:Int))) <|
  chk (decide ((([]:LL).length+(((a0l b a c).drop (0:Int).toNat).take (a.toNat - (0:Int).toNat)).length)*96≤140737488355328)) <|
  chk (decide (0≤(W64 (a+1)))&&decide ((W64 (a+1))≤((a0l b a c).length:Int))&&decide (((a0l b a c).length:Int)≤((a0l b a c).length:Int))) <|
  chk (decide (((([]:LL)++(((a0l b a c).drop (0:Int).toNat).take (a.toNat - (0:Int).toNat))).length+(((a0l b a c).drop (W64 (a+1)).toNat).take (((a0l b a c).length:Int).toNat - (W64 (a+1)).toNat)).length)*96≤140737488355328)) <|
  a0c (a0a E P0 k N.j6c [.v [.i (at_ (b.t 14).asR a.toNat 1).asI,.i (c.t 13).asI,.r []]]) fun e=>
  chk (decide (((b.t 15).asR.length+([[.i (e.t 0).asI,.i (e.t 1).asI,.r (e.t 2).asR]]:LL).length)*40≤140737488355328)) <|
  chk (decide (((b.t 16).asR.length+([(a2f b a c)]:LL).length)*96≤140737488355328)) <|
  d0e k a b c ((b.t 15).asR++([[.i (e.t 0).asI,.i (e.t 1).asI,.r (e.t 2).asR]]:LL)) ((b.t 16).asR++([(a2f b a c)]:LL))
def c6w (k:Nat) (a:Int) (e f:Bool) (g h:LL) (c:Outs) (l m n o p q u w x d:Int) (y z:LL):OO:=
 some ⟨[.i l,.i m,.i n,.r g,.i o,.i p,.i q,.i u,.i w,.r h,.i x,.b e,.b f,.r (c.t 13).asR,.r ((([]:LL)++(((a0k c a d).drop (0:Int).toNat).take (a.toNat - (0:Int).toNat)))++(((a0k c a d).drop (W64 (a+1)).toNat).take (((a0k c a d).length:Int).toNat - (W64 (a+1)).toNat))),.r y,.r z,.b true],[]⟩
def b2i (k:Nat) (a:Int) (f g:Bool) (h l:LL) (b:Outs) (m n o p q u w x y c:Int) (z:Bool):OO:=
 bif z then
  chk (decide (0≤0)&&decide (0≤a)&&decide (a≤((a0k b a c).length:Int))) <|
  chk (decide ((([]:LL).length+(((a0k b a c).drop (0:Int).toNat).take (a.toNat - (0:Int).toNat)).length)*96≤140737488355328)) <|
  chk (decide (0≤(W64 (a+1)))&&decide ((W64 (a+1))≤((a0k b a c).length:Int))&&decide (((a0k b a c).length:Int)≤((a0k b a c).length:Int))) <|
  chk (decide (((([]:LL)++(((a0k b a c).drop (0:Int).toNat).take (a.toNat - (0:Int).toNat))).length+(((a0k b a c).drop (W64 (a+1)).toNat).take (((a0k b a c).length:Int).toNat - (W64 (a+1)).toNat)).length)*96≤140737488355328)) <|
  a0c (a0a E P0 k N.j6c [.v [.i (at_ (b.t 14).asR a.toNat 1).asI,.i c,.r (at_ (b.t 14).asR a.toNat 6).asR]]) fun d=>
  chk (decide (((b.t 15).asR.length+([[.i (d.t 0).asI,.i (d.t 1).asI,.r (d.t 2).asR]]:LL).length)*40≤140737488355328)) <|
  chk (decide (((b.t 16).asR.length+([(a2e b a c)]:LL).length)*96≤140737488355328)) <|
  c6w k a f g h l b m n o p q u w x y c ((b.t 15).asR++([[.i (d.t 0).asI,.i (d.t 1).asI,.r (d.t 2).asR]]:LL)) ((b.t 16).asR++([(a2e b a c)]:LL))
 else
  chk (decide (0≤0)&&decide (0≤a)&&decide (a≤((a0k b a c).length:Int))) <|
  chk (decide ((([]:LL).length+(((a0k b a c).drop (0:Int).toNat).take (a.toNat - (0:Int).toNat)).length)*96≤140737488355328)) <|
  chk (decide (0≤(W64 (a+1)))&&decide ((W64 (a+1))≤((a0k b a c).length:Int))&&decide (((a0k b a c).length:Int)≤((a0k b a c).length:Int))) <|
  chk (decide (((([]:LL)++(((a0k b a c).drop (0:Int).toNat).take (a.toNat - (0:Int).toNat))).length+(((a0k b a c).drop (W64 (a+1)).toNat).take (((a0k b a c).length:Int).toNat - (W64 (a+1)).toNat)).length)*96≤140737488355328)) <|
  a0c (a0a E P0 k N.j6c [.v [.i (at_ (b.t 14).asR a.toNat 1).asI,.i c,.r []]]) fun e=>
  chk (decide (((b.t 15).asR.length+([[.i (e.t 0).asI,.i (e.t 1).asI,.r (e.t 2).asR]]:LL).length)*40≤140737488355328)) <|
  chk (decide (((b.t 16).asR.length+([(a2g b a c)]:LL).length)*96≤140737488355328)) <|
  c6w k a f g h l b m n o p q u w x y c ((b.t 15).asR++([[.i (e.t 0).asI,.i (e.t 1).asI,.r (e.t 2).asR]]:LL)) ((b.t 16).asR++([(a2g b a c)]:LL))
def b2j (k:Nat) (a:Int) (c:Outs) (e f g:Int) (h:LL) (l m n o p:Int) (q:LL) (u:Int) (w x:Bool) (d:Int):OO:=
 chk (decide (0≤a)&&decide (a<((c.t 14).asR.length:Int))) <|
 chk (Nat.beq a.toNat a.toNat) <|
 bif (d == 0) then
  some ⟨[.i e,.i f,.i g,.r h,.i l,.i m,.i n,.i o,.i p,.r q,.i u,.b w,.b x,.r (c.t 13).asR,.r (a0k c a d),.r (c.t 15).asR,.r (c.t 16).asR,.b true],[]⟩
 else
  bif ((at_ (c.t 14).asR a.toNat 0).asI == 1) then
   b2i k a w x h q c e f g l m n o p u d (d == 0)
  else
   b2i k a w x h q c e f g l m n o p u d false
def c6x (k:Nat) (c:Int) (d a:Outs) (e f:LL):OO:=
 some ⟨[.i (a.t 0).asI,.i (a.t 1).asI,.i (a.t 2).asI,.r (a.t 3).asR,.i (a.t 4).asI,.i (a.t 5).asI,.i (a.t 6).asI,.i (a.t 7).asI,.i (a.t 8).asI,.r (a.t 9).asR,.i (a.t 10).asI,.b (a.t 11).asB,.b (a.t 12).asB,.r (d.t 13).asR,.r ((([]:LL)++(((a0l d c a).drop (0:Int).toNat).take (c.toNat - (0:Int).toNat)))++(((a0l d c a).drop (W64 (c+1)).toNat).take (((a0l d c a).length:Int).toNat - (W64 (c+1)).toNat))),.r e,.r f,.b true],[]⟩
def b9v (k:Nat) (a:Int) (b c:Outs) (f:Bool):OO:=
 bif f then
  chk (decide (0≤0)&&decide (0≤a)&&decide (a≤((a0l b a c).length:Int))) <|
  chk (decide ((([]:LL).length+(((a0l b a c).drop (0:Int).toNat).take (a.toNat - (0:Int).toNat)).length)*96≤140737488355328)) <|
  chk (decide (0≤(W64 (a+1)))&&decide ((W64 (a+1))≤((a0l b a c).length:Int))&&decide (((a0l b a c).length:Int)≤((a0l b a c).length:Int))) <|
  chk (decide (((([]:LL)++(((a0l b a c).drop (0:Int).toNat).take (a.toNat - (0:Int).toNat))).length+(((a0l b a c).drop (W64 (a+1)).toNat).take (((a0l b a c).length:Int).toNat - (W64 (a+1)).toNat)).length)*96≤140737488355328)) <|
  a0c (a0a E P0 k N.j6c [.v [.i (at_ (b.t 14).asR a.toNat 1).asI,.i (c.t 13).asI,.r (at_ (b.t 14).asR a.toNat 6).asR]]) fun d=>
  chk (decide (((b.t 15).asR.length+([[.i (d.t 0).asI,.i (d.t 1).asI,.r (d.t 2).asR]]:LL).length)*40≤140737488355328)) <|
  chk (decide (((b.t 16).asR.length+([(a2d b a c)]:LL).length)*96≤140737488355328)) <|
  c6x k a b c ((b.t 15).asR++([[.i (d.t 0).asI,.i (d.t 1).asI,.r (d.t 2).asR]]:LL)) ((b.t 16).asR++([(a2d b a c)]:LL))
 else
  chk (decide (0≤0)&&decide (0≤a)&&decide (a≤((a0l b a c).length:Int))) <|
  chk (decide ((([]:LL).length+(((a0l b a c).drop (0:Int).toNat).take (a.toNat - (0:Int).toNat)).length)*96≤140737488355328)) <|
  chk (decide (0≤(W64 (a+1)))&&decide ((W64 (a+1))≤((a0l b a c).length:Int))&&decide (((a0l b a c).length:Int)≤((a0l b a c).length:Int))) <|
  chk (decide (((([]:LL)++(((a0l b a c).drop (0:Int).toNat).take (a.toNat - (0:Int).toNat))).length+(((a0l b a c).drop (W64 (a+1)).toNat).take (((a0l b a c).length:Int).toNat - (W64 (a+1)).toNat)).length)*96≤140737488355328)) <|
  a0c (a0a E P0 k N.j6c [.v [.i (at_ (b.t 14).asR a.toNat 1).asI,.i (c.t 13).asI,.r []]]) fun e=>
  chk (decide (((b.t 15).asR.length+([[.i (e.t 0).asI,.i (e.t 1).asI,.r (e.t 2).asR]]:LL).length)*40≤140737488355328)) <|
  chk (decide (((b.t 16).asR.length+([(a2f b a c)]:LL).length)*96≤140737488355328)) <|
  c6x k a b c ((b.t 15).asR++([[.i (e.t 0).asI,.i (e.t 1).asI,.r (e.t 2).asR]]:LL)) ((b.t 16).asR++([(a2f b a c)]:LL))
def b9w (k:Nat) (c:Int) (a:Outs) (d e:LL):OO:=
 some ⟨[.i (a.t 0).asI,.i (a.t 1).asI,.i (a.t 2).asI,.r (a.t 3).asR,.i (a.t 4).asI,.i (a.t 5).asI,.i (a.t 6).asI,.i (a.t 7).asI,.i (a.t 8).asI,.r (a.t 9).asR,.i (a.t 10).asI,.b (a.t 11).asB,.b (a.t 12).asB,.r (a.t 13).asR,.r ((([]:LL)++(((a0v a c).drop (0:Int).toNat).take (c.toNat - (0:Int).toNat)))++(((a0v a c).drop (W64 (c+1)).toNat).take (((a0v a c).length:Int).toNat - (W64 (c+1)).toNat))),.r d,.r e,.b true],[]⟩
def a5w (k:Nat) (a:Int) (b:Outs) (e:Bool):OO:=
 bif e then
  chk (Nat.beq a.toNat a.toNat) <|
  chk (decide (0≤0)&&decide (0≤a)&&decide (a≤((a0v b a).length:Int))) <|
  chk (decide ((([]:LL).length+(((a0v b a).drop (0:Int).toNat).take (a.toNat - (0:Int).toNat)).length)*96≤140737488355328)) <|
  chk (decide (0≤(W64 (a+1)))&&decide ((W64 (a+1))≤((a0v b a).length:Int))&&decide (((a0v b a).length:Int)≤((a0v b a).length:Int))) <|
  chk (decide (((([]:LL)++(((a0v b a).drop (0:Int).toNat).take (a.toNat - (0:Int).toNat))).length+(((a0v b a).drop (W64 (a+1)).toNat).take (((a0v b a).length:Int).toNat - (W64 (a+1)).toNat)).length)*96≤140737488355328)) <|
  a0c (a0a E P0 k N.j6c [.v [.i (at_ (b.t 14).asR a.toNat 1).asI,.i (at_ (b.t 14).asR a.toNat 7).asI,.r (at_ (b.t 14).asR a.toNat 6).asR]]) fun c=>
  chk (decide (((b.t 15).asR.length+([[.i (c.t 0).asI,.i (c.t 1).asI,.r (c.t 2).asR]]:LL).length)*40≤140737488355328)) <|
  chk (decide (((b.t 16).asR.length+([[.i (at_ (b.t 14).asR a.toNat 0).asI,.i (at_ (b.t 14).asR a.toNat 1).asI,.i (at_ (b.t 14).asR a.toNat 2).asI,.i (at_ (b.t 14).asR a.toNat 3).asI,.r (at_ (b.t 14).asR a.toNat 4).asR,.i (at_ (b.t 14).asR a.toNat 1).asI,.i (at_ (b.t 14).asR a.toNat 7).asI,.r (at_ (b.t 14).asR a.toNat 6).asR]]:LL).length)*96≤140737488355328)) <|
  b9w k a b ((b.t 15).asR++([[.i (c.t 0).asI,.i (c.t 1).asI,.r (c.t 2).asR]]:LL)) ((b.t 16).asR++([[.i (at_ (b.t 14).asR a.toNat 0).asI,.i (at_ (b.t 14).asR a.toNat 1).asI,.i (at_ (b.t 14).asR a.toNat 2).asI,.i (at_ (b.t 14).asR a.toNat 3).asI,.r (at_ (b.t 14).asR a.toNat 4).asR,.i (at_ (b.t 14).asR a.toNat 1).asI,.i (at_ (b.t 14).asR a.toNat 7).asI,.r (at_ (b.t 14).asR a.toNat 6).asR]]:LL))
 else
  chk (Nat.beq a.toNat a.toNat) <|
  chk (decide (0≤0)&&decide (0≤a)&&decide (a≤((a0v b a).length:Int))) <|
  chk (decide ((([]:LL).length+(((a0v b a).drop (0:Int).toNat).take (a.toNat - (0:Int).toNat)).length)*96≤140737488355328)) <|
  chk (decide (0≤(W64 (a+1)))&&decide ((W64 (a+1))≤((a0v b a).length:Int))&&decide (((a0v b a).length:Int)≤((a0v b a).length:Int))) <|
  chk (decide (((([]:LL)++(((a0v b a).drop (0:Int).toNat).take (a.toNat - (0:Int).toNat))).length+(((a0v b a).drop (W64 (a+1)).toNat).take (((a0v b a).length:Int).toNat - (W64 (a+1)).toNat)).length)*96≤140737488355328)) <|
  a0c (a0a E P0 k N.j6c [.v [.i (at_ (b.t 14).asR a.toNat 1).asI,.i (at_ (b.t 14).asR a.toNat 7).asI,.r []]]) fun d=>
  chk (decide (((b.t 15).asR.length+([[.i (d.t 0).asI,.i (d.t 1).asI,.r (d.t 2).asR]]:LL).length)*40≤140737488355328)) <|
  chk (decide (((b.t 16).asR.length+([[.i (at_ (b.t 14).asR a.toNat 0).asI,.i (at_ (b.t 14).asR a.toNat 1).asI,.i (at_ (b.t 14).asR a.toNat 2).asI,.i (at_ (b.t 14).asR a.toNat 3).asI,.r (at_ (b.t 14).asR a.toNat 4).asR,.i (at_ (b.t 14).asR a.toNat 1).asI,.i (at_ (b.t 14).asR a.toNat 7).asI,.r []]]:LL).length)*96≤140737488355328)) <|
  b9w k a b ((b.t 15).asR++([[.i (d.t 0).asI,.i (d.t 1).asI,.r (d.t 2).asR]]:LL)) ((b.t 16).asR++([[.i (at_ (b.t 14).asR a.toNat 0).asI,.i (at_ (b.t 14).asR a.toNat 1).asI,.i (at_ (b.t 14).asR a.toNat 2).asI,.i (at_ (b.t 14).asR a.toNat 3).asI,.r (at_ (b.t 14).asR a.toNat 4).asR,.i (at_ (b.t 14).asR a.toNat 1).asI,.i (at_ (b.t 14).asR a.toNat 7).asI,.r []]]:LL))
def a7n (k:Nat) (c:Int) (a:Outs) (n:Bool):OO:=
 bif n then
  bif ((at_ (a.t 14).asR c.toNat 0).asI == 1) then
   a0c (a0a E P0 k N.j7l [.v (a1m a),.v [.i (W64 ((at_ (a.t 14).asR c.toNat 2).asI+(at_ (a.t 14).asR c.toNat 5).asI))]]) fun l=>
   bif ((l.t 1).asI == 0) then
    chk (decide (((at_ (a.t 14).asR c.toNat 6).asR.length+([[.i (l.t 0).asI]]:LL).length)*8≤140737488355328)) <|
    chk (decide (0≤c)&&decide (c<((a.t 14).asR.length:Int))) <|
    chk (Nat.beq c.toNat c.toNat) <|
    bif ((l.t 1).asI == 0) then
     c2y k a (a0q a c l)
    else
     bif ((at_ (a.t 14).asR c.toNat 0).asI == 1) then
      e5e k c a l ((l.t 1).asI == 0)
     else
      e5e k c a l false
   else
    b7c k c a ((l.t 1).asI)
  else
   bif ((at_ (a.t 14).asR c.toNat 0).asI == 4) then
    a0c (a0a E P0 k N.j7o [.v (a1m a),.v [.i (at_ (a.t 14).asR c.toNat 5).asI]]) fun d=>
    chk (decide (0≤c)&&decide (c<((a.t 14).asR.length:Int))) <|
    chk (Nat.beq c.toNat c.toNat) <|
    bif ((d.t 13).asI == 0) then
     some ⟨[.i (d.t 0).asI,.i (d.t 1).asI,.i (d.t 2).asI,.r (d.t 3).asR,.i (d.t 4).asI,.i (d.t 5).asI,.i (d.t 6).asI,.i (d.t 7).asI,.i (d.t 8).asI,.r (d.t 9).asR,.i (d.t 10).asI,.b (d.t 11).asB,.b (d.t 12).asB,.r (a.t 13).asR,.r (a0l a c d),.r (a.t 15).asR,.r (a.t 16).asR,.b true],[]⟩
    else
     bif ((at_ (a.t 14).asR c.toNat 0).asI == 1) then
      c2z k c a d ((d.t 13).asI == 0)
     else
      c2z k c a d false
   else
    bif ((at_ (a.t 14).asR c.toNat 0).asI == 5) then
     a0c (a0a E P0 k N.j7l [.v (a1m a),.v [.i (at_ (a.t 14).asR c.toNat 2).asI]]) fun m=>
     bif ((m.t 1).asI != 0) then
      b7c k c a ((m.t 1).asI)
     else
      chk (decide ((0:Int)<((at_ (a.t 14).asR c.toNat 4).asR.length:Int))) <|
      bif ((m.t 0).asI != (at_ (at_ (a.t 14).asR c.toNat 4).asR 0 0).asI) then
       b7c k c a 4
      else
       chk (decide ((1:Int)<((at_ (a.t 14).asR c.toNat 4).asR.length:Int))) <|
       a0c (a0a E P0 k N.j6n [.v (a1m a),.v [.i (at_ (a.t 14).asR c.toNat 2).asI],.v [.i (at_ (at_ (a.t 14).asR c.toNat 4).asR 1 0).asI]]) fun f=>
       b2j k c a ((f.t 0).asI) ((f.t 1).asI) ((f.t 2).asI) ((f.t 3).asR) ((f.t 4).asI) ((f.t 5).asI) ((f.t 6).asI) ((f.t 7).asI) ((f.t 8).asI) ((f.t 9).asR) ((f.t 10).asI) ((f.t 11).asB) ((f.t 12).asB) ((f.t 13).asI)
    else
     bif ((at_ (a.t 14).asR c.toNat 0).asI == 6) then
      a0c (a0a E P0 k N.j6n [.v (a1m a),.v [.i (W64 ((at_ (a.t 14).asR c.toNat 2).asI+(at_ (a.t 14).asR c.toNat 5).asI))],.v [.i 0]]) fun g=>
      b2j k c a ((g.t 0).asI) ((g.t 1).asI) ((g.t 2).asI) ((g.t 3).asR) ((g.t 4).asI) ((g.t 5).asI) ((g.t 6).asI) ((g.t 7).asI) ((g.t 8).asI) ((g.t 9).asR) ((g.t 10).asI) ((g.t 11).asB) ((g.t 12).asB) ((g.t 13).asI)
     else
      bif (decide ((at_ (a.t 14).asR c.toNat 5).asI<((at_ (a.t 14).asR c.toNat 4).asR.length:Int))) then
       chk (decide (0≤(at_ (a.t 14).asR c.toNat 5).asI)&&decide ((at_ (a.t 14).asR c.toNat 5).asI<((at_ (a.t 14).asR c.toNat 4).asR.length:Int))) <|
       a0c (a0a E P0 k N.j6n [.v (a1m a),.v [.i (W64 ((at_ (a.t 14).asR c.toNat 2).asI+(at_ (a.t 14).asR c.toNat 5).asI))],.v [.i (at_ (at_ (a.t 14).asR c.toNat 4).asR (at_ (a.t 14).asR c.toNat 5).asI.toNat 0).asI]]) fun h=>
       b2j k c a ((h.t 0).asI) ((h.t 1).asI) ((h.t 2).asI) ((h.t 3).asR) ((h.t 4).asI) ((h.t 5).asI) ((h.t 6).asI) ((h.t 7).asI) ((h.t 8).asI) ((h.t 9).asR) ((h.t 10).asI) ((h.t 11).asB) ((h.t 12).asB) ((h.t 13).asI)
      else
       a0c (a0a E P0 k N.j6x [.v [.i (a.t 1).asI,.i (a.t 2).asI],.v [.i (at_ (a.t 14).asR c.toNat 2).asI]]) fun o=>
       a0c (a0a E P0 k N.j7o [.v (a1m a),.v [.i (W64 ((W64 ((o.t 0).asI+(at_ (a.t 14).asR c.toNat 5).asI)) - ((at_ (a.t 14).asR c.toNat 4).asR.length:Int)))]]) fun e=>
       chk (decide (0≤c)&&decide (c<((a.t 14).asR.length:Int))) <|
       chk (Nat.beq c.toNat c.toNat) <|
       bif ((e.t 13).asI == 0) then
        some ⟨[.i (e.t 0).asI,.i (e.t 1).asI,.i (e.t 2).asI,.r (e.t 3).asR,.i (e.t 4).asI,.i (e.t 5).asI,.i (e.t 6).asI,.i (e.t 7).asI,.i (e.t 8).asI,.r (e.t 9).asR,.i (e.t 10).asI,.b (e.t 11).asB,.b (e.t 12).asB,.r (a.t 13).asR,.r (a0l a c e),.r (a.t 15).asR,.r (a.t 16).asR,.b true],[]⟩
       else
        bif ((at_ (a.t 14).asR c.toNat 0).asI == 1) then
         b9v k c a e ((e.t 13).asI == 0)
        else
         b9v k c a e false
 else
  bif ((at_ (a.t 14).asR c.toNat 0).asI == 1) then
   a5w k c a ((at_ (a.t 14).asR c.toNat 7).asI == 0)
  else
   a5w k c a false
def a7o (k:Nat) (c:Int) (a:Outs) (d:Bool):OO:=
 bif d then
  some ⟨[.i (a.t 0).asI,.i (a.t 1).asI,.i (a.t 2).asI,.r (a.t 3).asR,.i (a.t 4).asI,.i (a.t 5).asI,.i (a.t 6).asI,.i (a.t 7).asI,.i (a.t 8).asI,.r (a.t 9).asR,.i (a.t 10).asI,.b (a.t 11).asB,.b (a.t 12).asB,.r (a.t 13).asR,.r (a.t 14).asR,.r (a.t 15).asR,.r (a.t 16).asR,.b false],[]⟩
 else
  chk (decide (0≤c)&&decide (c<((a.t 14).asR.length:Int))) <|
  a0c (a0a E P0 k N.k1f [.v [.i (a.t 1).asI,.i (a.t 2).asI],.v [.i (at_ (a.t 14).asR c.toNat 0).asI,.i (at_ (a.t 14).asR c.toNat 1).asI,.i (at_ (a.t 14).asR c.toNat 2).asI,.i (at_ (a.t 14).asR c.toNat 3).asI,.r (at_ (a.t 14).asR c.toNat 4).asR]]) fun e=>
  bif (decide ((at_ (a.t 14).asR c.toNat 5).asI<(W64 ((e.t 0).asI - 1)))) then
   a7n k c a ((at_ (a.t 14).asR c.toNat 7).asI == 0)
  else
   a7n k c a false
def f2f (k:Nat) (f g h:Int) (l:LL) (m n o p q:Int) (u:LL) (w:Int) (x y:Bool) (z c A d:LL) (a:Int):OO:=
 a0c (a0a E P0 k N.j6j [.v [.i f,.i g,.i h,.r l,.i m,.i n,.i o,.i p,.i q,.r u,.i w,.b x,.b y,.r z,.r c,.r A,.r d]]) fun e=>
 a0c (a0a E P0 k N.j8z [.v [.i f,.i g,.i h,.r l,.i m,.i n,.i o,.i p,.i q,.r u,.i w,.b x,.b y,.r z,.r c,.r A,.r d]]) fun B=>
 bif (!(B.t 0).asB) then
  a7o k a e true
 else
  a0c (a0a E P0 k N.j5y [.v [.i a],.v [.i 0],.v [.i (W64 ((c.length:Int) - 1))]]) fun C=>
  bif (!(C.t 0).asB) then
   a7o k a e true
  else
   a7o k a e (decide ((d.length:Int)≥400))
theorem h2e (k:Nat) (a c d:Int) (e:LL) (f g h l m:Int) (n:LL) (o:Int) (p q:Bool) (t u w x:LL) (y:Int):a0a E P0 (k+1) N.k3m [.v [.i a,.i c,.i d,.r e,.i f,.i g,.i h,.i l,.i m,.r n,.i o,.b p,.b q,.r t,.r u,.r w,.r x],.v [.i y]]=f2f k a c d e f g h l m n o p q t u w x y:=by kernel_rfl
def d0f (k:Nat) (a:LL):OO:=
 chk (decide ((([]:LL).length+a.length)*8≤140737488355328)) <|
 some ⟨[.r (([]:LL)++a)],[]⟩
theorem f2g (k:Nat) (a:LL):a0a E P0 (k+1) N.j6a [.v [.r a]]=d0f k a:=by kernel_rfl
def b2k (k:Nat) (c:LL) (f:Bool) (g:Outs) (h:LL) (l:(V0_)→OO):(V0_)→OO:=fun (a,d)=>
 bif (decide (a<(c.length:Int))) then
  chk (decide (0≤a)&&decide (a<(c.length:Int))) <|
  a0c (a0a E P0 k N.j6a [.v [.r (at_ c a.toNat 1).asR]]) fun e=>
  chk (decide ((d.length+([[.i (at_ c a.toNat 0).asI,.r (e.t 0).asR]]:LL).length)*32≤140737488355328)) <|
  l ((W64 (a+1)),(d++([[.i (at_ c a.toNat 0).asI,.r (e.t 0).asR]]:LL)))
 else
  some ⟨[.r h,.r d,.b f,.r (g.t 0).asR],[]⟩
def f2h:List Nat:=[2,3,30,31,32,48]
def a7p (a:LL) (c:Bool) (d:Outs) (e:LL):(V0_)→St:=fun (f,g)=>⟨a2y [(2,.ptr (2,0) 0),(3,.ptr (3,0) 0),(30,.sl 176 a),(31,.i .i64 (a.length:Int)),(32,.i .i64 f),(48,.skip)],Mem.put (a0y [((2,0),.var [.ref (2,1),.ref (2,2),.b false,.ref (2,4)]),((2,1),.deep 68 [] none),((2,2),.deep 176 [] none),((2,4),.row 3 true []),((3,0),.var [.ref (3,1),.ref (3,2),.b c,.ref (3,4)]),((3,1),.deep 68 e none),((3,2),.deep 176 g none),((3,4),.row 3 true (d.t 0).asR)]) a2h .dead⟩
def b2l (k:Nat) (b h:LL) (i:Bool) (l:LL) (e:Outs) (f:Outs→LL→(V0_)→OO) (g:(V0_)→OO):(V0_)→OO:=fun (a,c)=>
 bif (decide (a<(b.length:Int))) then
  chk (decide (0≤a)&&decide (a<(b.length:Int))) <|
  a0c (a0a E P0 k N.j6a [.v [.r (at_ b a.toNat 0).asR]]) fun d=>
  chk (decide ((c.length+([[.r (d.t 0).asR]]:LL).length)*24≤140737488355328)) <|
  g ((W64 (a+1)),(c++([[.r (d.t 0).asR]]:LL)))
 else
  f e c (0,[])
def f2i:List Nat:=[1,2,3,7,15,16,17,29,30,31,32,33,34,35,36,37,38,39,40,41,42,43,44,45,46,47,48]
def a7q (a d:LL) (c:Bool) (e:LL) (f:Outs):(V0_)→St:=fun (g,h)=>⟨a2y [(1,.ptr (1,0) 0),(2,.ptr (2,0) 0),(3,.ptr (3,0) 0),(7,.skip),(15,.sl 68 a),(16,.i .i64 (a.length:Int)),(17,.i .i64 g),(29,.skip),(30,.skip),(31,.skip),(32,.skip),(33,.skip),(34,.skip),(35,.skip),(36,.skip),(37,.skip),(38,.skip),(39,.skip),(40,.skip),(41,.skip),(42,.skip),(43,.skip),(44,.skip),(45,.skip),(46,.skip),(47,.skip),(48,.skip)],Mem.put (a0y [((1,0),.var [.sl 68 a,.sl 176 d,.b c,.sl 3 e]),((2,0),.var [.ref (2,1),.ref (2,2),.b false,.ref (2,4)]),((2,1),.deep 68 [] none),((2,2),.deep 176 [] none),((2,4),.row 3 true []),((3,0),.var [.ref (3,1),.ref (3,2),.b c,.ref (3,4)]),((3,1),.deep 68 h none),((3,2),.deep 176 [] none),((3,4),.row 3 true (f.t 0).asR)]) a2h .dead⟩
def a5g (k:Nat) (a:LL) (b:Bool) (c:Outs) (d:LL) (e:(V0_)→OO):(V0_)→OO:=
 b2k k a b c d e
def a5h (k:Nat) (c a:LL) (b:Bool) (d:LL) (e:Outs) (f:(V0_)→OO):(V0_)→OO:=
 b2l k c a b d e (fun g h v=>a1l (a5g k a b g h) k v) f
def c4m (k:Nat) (d e:LL) (f:Bool) (a:LL) (b:Outs→(V0_)→OO):OO:=
 a0c (a0a E P0 k N.j6a [.v [.r a]]) fun c=>
 b c (0,[])
def c4n (k:Nat) (a b:LL) (c:Bool) (d:LL):OO:=
 c4m k a b c d (fun e v=>a1l (a5h k a b c d e) k v)
def a9t (k:Nat) (a c:LL) (d:Bool) (e:LL) (js:List Nat) (j:Nat) (s:St):OO:=a3g E (LB E (a0a E P0 k) k [] N.j6t [.sr,.sr,.sl,.sr,.bl]) [] f2i (LK E (a0a E P0 k) k [] N.j6t [.v [.r a,.r c,.b d,.r e]] [.sr,.sr,.sl,.sr,.bl] js) j s
def a9u (k:Nat) (a c:LL) (d:Bool) (e:LL) (js:List Nat) (j:Nat) (s:St):OO:=a3g E (LB E (a0a E P0 k) k [] N.j6t [.sr,.sr,.sr,.sl,.sr,.bl]) [] f2h (LK E (a0a E P0 k) k [] N.j6t [.v [.r a,.r c,.b d,.r e]] [.sr,.sr,.sr,.sl,.sr,.bl] js) j s
theorem f7l (k:Nat) (e a:LL) (c:Bool) (f:LL):a0a E P0 (k+1) N.j6t [.v [.r e,.r a,.b c,.r f]]=c4n k e a c f:=by
 have m:a0a E P0 (k+1) N.j6t [.v [.r e,.r a,.b c,.r f]]=c4m k e a c f (fun l v=>a9t k e a c f [] k (a7q e a c f l v)):=by kernel_rfl
 have n:∀ (d:Outs) (g:LL) (h:Nat) (v:V0_),a9u k e a c f [] (h+1) (a7p a c d g v)=b2k k a c d g (fun v=>a9u k e a c f [] h (a7p a c d g v)) v:=by
  intro d g h v;kernel_rfl
 have o:∀ (d:Outs) (g:LL) (h:Nat) (v:V0_),a9u k e a c f [] h (a7p a c d g v)=a1l (a5g k a c d g) h v:=by
  intro d g h v
  refine a0j (a7p a c d g) (a5g k a c d g) (fun h v=>(n d g h v).trans ?_) h v
  unfold a5g
  rfl
 have p:∀ (d:Outs) (i:Nat) (v:V0_),a9t k e a c f [] (i+1) (a7q e a c f d v)=b2l k e a c f d (fun l q v=>a9u k e a c f [] k (a7p a c l q v)) (fun v=>a9t k e a c f [] i (a7q e a c f d v)) v:=by
  intro d i v;kernel_rfl
 have t:∀ (d:Outs) (i:Nat) (v:V0_),a9t k e a c f [] i (a7q e a c f d v)=a1l (a5h k e a c f d) i v:=by
  intro d i v
  refine a0j (a7q e a c f d) (a5h k e a c f d) (fun i v=>(p d i v).trans ?_) i v
  unfold a5h
  simp only [o] <;> rfl
 rw [m];unfold c4n
 simp only [t]
def b7m (k:Nat) (d:LL) (f:(V0_)→OO):(V0_)→OO:=fun (a,e)=>
 bif (decide (a<(d.length:Int))) then
  chk (decide (0≤a)&&decide (a<(d.length:Int))) <|
  a0c (a0a E P0 k N.j6t [.v [.r (at_ d a.toNat 0).asR,.r (at_ d a.toNat 1).asR,.b (at_ d a.toNat 2).asB,.r (at_ d a.toNat 3).asR]]) fun c=>
  chk (decide ((e.length+([[.r (c.t 0).asR,.r (c.t 1).asR,.b (c.t 2).asB,.r (c.t 3).asR]]:LL).length)*80≤140737488355328)) <|
  f ((W64 (a+1)),(e++([[.r (c.t 0).asR,.r (c.t 1).asR,.b (c.t 2).asB,.r (c.t 3).asR]]:LL)))
 else
  some ⟨[.r e],[]⟩
def e6q:List Nat:=[2,3,7,8,9,19]
def c7v (a:LL):(V0_)→St:=fun (b,c)=>⟨a2y [(2,.ref (2,0)),(3,.ref (3,0)),(7,.sl 147 a),(8,.i .i64 (a.length:Int)),(9,.i .i64 b),(19,.skip)],Mem.put (a0y [((2,0),.deep 147 [] none),((3,0),.deep 147 c none)]) a2h .dead⟩
def a9v (k:Nat) (a:LL) (b:(V0_)→OO):(V0_)→OO:=
 b7m k a b
def b2m (k:Nat) (b:LL) (a:(V0_)→OO):OO:=
 a (0,[])
def d0g (k:Nat) (a:LL):OO:=
 b2m k a (fun v=>a1l (a9v k a) k v)
def e2c (k:Nat) (a:LL) (js:List Nat) (j:Nat) (s:St):OO:=a3g E (LB E (a0a E P0 k) k [] N.j9j [.sr,.sr,.sl,.sr,.bl]) [] e6q (LK E (a0a E P0 k) k [] N.j9j [.v [.r a]] [.sr,.sr,.sl,.sr,.bl] js) j s
theorem f2j (k:Nat) (a:LL):a0a E P0 (k+1) N.j9j [.v [.r a]]=d0g k a:=
 Eq.trans (b:=b2m k a (fun v=>e2c k a [] k (c7v a v))) (by kernel_rfl) (congrArg (b2m k a) (funext fun v=>a0j (c7v a) (a9v k a) (fun j v=>by kernel_rfl) k v))
def c1o (k:Nat) (f g h:Int) (l:LL) (m n o p q:Int) (c:LL) (u:Int) (w x:Bool) (y:(V0_)→OO):(V0_)→OO:=fun (a,d)=>
 bif (decide (a<(c.length:Int))) then
  chk (decide (0≤a)&&decide (a<(c.length:Int))) <|
  a0c (a0a E P0 k N.j6a [.v [.r (at_ c a.toNat 1).asR]]) fun e=>
  chk (decide ((d.length+([[.i (at_ c a.toNat 0).asI,.r (e.t 0).asR]]:LL).length)*32≤140737488355328)) <|
  y ((W64 (a+1)),(d++([[.i (at_ c a.toNat 0).asI,.r (e.t 0).asR]]:LL)))
 else
  a0c (a0a E P0 k N.j9j [.v [.r l]]) fun z=>
  some ⟨[.i f,.i g,.i h,.r (z.t 0).asR,.i m,.i n,.i o,.i p,.i q,.r d,.i u,.b w,.b x],[]⟩
def f2k:List Nat:=[1,2,3,8,9,10,24,25,26,27,28,29,30]
def d0h (c d e:Int) (f:LL) (g h l m n:Int) (a:LL) (o:Int) (p q:Bool):(V0_)→St:=fun (r,t)=>⟨a2y [(1,.ptr (1,0) 0),(2,.ptr (2,0) 0),(3,.ref (3,0)),(8,.sl 149 a),(9,.i .i64 (a.length:Int)),(10,.i .i64 r),(24,.skip),(25,.skip),(26,.skip),(27,.skip),(28,.skip),(29,.skip),(30,.skip)],Mem.put (a0y [((1,0),.var [.i .i64 c,.i .i64 d,.i .i64 e,.sl 147 f,.i .i64 g,.i .i64 h,.i .i64 l,.i .i64 m,.i .i64 n,.sl 149 a,.i .i64 o,.b p,.b q]),((2,0),.var [.i .i64 0,.i .i64 0,.i .i64 0,.ref (2,4),.i .i64 0,.i .i64 0,.i .i64 0,.i .i64 0,.i .i64 0,.ref (2,10),.i .i64 0,.b false,.b false]),((2,4),.deep 147 [] none),((2,10),.deep 149 [] none),((3,0),.deep 149 t none)]) a2h .dead⟩
def b2n (k:Nat) (a b c:Int) (d:LL) (e f g h i:Int) (l:LL) (m:Int) (n o:Bool) (p:(V0_)→OO):(V0_)→OO:=
 c1o k a b c d e f g h i l m n o p
def b6f (k:Nat) (b c d:Int) (e:LL) (f g h i l:Int) (m:LL) (n:Int) (o p:Bool) (a:(V0_)→OO):OO:=
 a (0,[])
def d4j (k:Nat) (a b c:Int) (d:LL) (e f g h i:Int) (l:LL) (m:Int) (n o:Bool):OO:=
 b6f k a b c d e f g h i l m n o (fun v=>a1l (b2n k a b c d e f g h i l m n o) k v)
def e6r (k:Nat) (a c d:Int) (e:LL) (f g h l m:Int) (n:LL) (o:Int) (p q:Bool) (js:List Nat) (j:Nat) (s:St):OO:=a3g E (LB E (a0a E P0 k) k [] N.j6o [.sr,.sr,.sl,.sr,.bl]) [] f2k (LK E (a0a E P0 k) k [] N.j6o [.v [.i a,.i c,.i d,.r e,.i f,.i g,.i h,.i l,.i m,.r n,.i o,.b p,.b q]] [.sr,.sr,.sl,.sr,.bl] js) j s
theorem f7m (k:Nat) (a c d:Int) (e:LL) (f g h l m:Int) (n:LL) (o:Int) (p q:Bool):a0a E P0 (k+1) N.j6o [.v [.i a,.i c,.i d,.r e,.i f,.i g,.i h,.i l,.i m,.r n,.i o,.b p,.b q]]=d4j k a c d e f g h l m n o p q:=
 Eq.trans (b:=b6f k a c d e f g h l m n o p q (fun v=>e6r k a c d e f g h l m n o p q [] k (d0h a c d e f g h l m n o p q v))) (by kernel_rfl) (congrArg (b6f k a c d e f g h l m n o p q) (funext fun v=>a0j (d0h a c d e f g h l m n o p q) (b2n k a c d e f g h l m n o p q) (fun j v=>by kernel_rfl) k v))
def d4k (k:Nat) (a b c d:Int) (e:LL):OO:=
 a0c (a0a E P0 k N.j6a [.v [.r e]]) fun f=>
 some ⟨[.i a,.i b,.i c,.i d,.r (f.t 0).asR],[]⟩
theorem f7n (k:Nat) (a b c d:Int) (e:LL):a0a E P0 (k+1) N.j7q [.v [.i a,.i b,.i c,.i d,.r e]]=d4k k a b c d e:=by kernel_rfl
def d4l (k:Nat) (a b:Int) (c:LL):OO:=
 a0c (a0a E P0 k N.j6a [.v [.r c]]) fun d=>
 some ⟨[.i a,.i b,.r (d.t 0).asR],[]⟩
theorem f7o (k:Nat) (a b:Int) (c:LL):a0a E P0 (k+1) N.j9k [.v [.i a,.i b,.r c]]=d4l k a b c:=by kernel_rfl
def b2o (k:Nat) (d:LL) (a:Outs) (h l m:LL) (n:(V0_)→OO):(V0_)→OO:=fun (c,g)=>
 bif (decide (c<(d.length:Int))) then
  chk (decide (0≤c)&&decide (c<(d.length:Int))) <|
  a0c (a0a E P0 k N.j7q [.v [.i (at_ d c.toNat 0).asI,.i (at_ d c.toNat 1).asI,.i (at_ d c.toNat 2).asI,.i (at_ d c.toNat 3).asI,.r (at_ d c.toNat 4).asR]]) fun e=>
  a0c (a0a E P0 k N.j9k [.v [.i (at_ d c.toNat 5).asI,.i (at_ d c.toNat 6).asI,.r (at_ d c.toNat 7).asR]]) fun f=>
  chk (decide ((g.length+([[.i (e.t 0).asI,.i (e.t 1).asI,.i (e.t 2).asI,.i (e.t 3).asI,.r (e.t 4).asR,.i (f.t 0).asI,.i (f.t 1).asI,.r (f.t 2).asR]]:LL).length)*96≤140737488355328)) <|
  n ((W64 (c+1)),(g++([[.i (e.t 0).asI,.i (e.t 1).asI,.i (e.t 2).asI,.i (e.t 3).asI,.r (e.t 4).asR,.i (f.t 0).asI,.i (f.t 1).asI,.r (f.t 2).asR]]:LL)))
 else
  some ⟨[.i (a.t 0).asI,.i (a.t 1).asI,.i (a.t 2).asI,.r (a.t 3).asR,.i (a.t 4).asI,.i (a.t 5).asI,.i (a.t 6).asI,.i (a.t 7).asI,.i (a.t 8).asI,.r (a.t 9).asR,.i (a.t 10).asI,.b (a.t 11).asB,.b (a.t 12).asB,.r h,.r l,.r m,.r g],[]⟩
def f2l:List Nat:=[2,3,71,72,73,90]
def a7r (c:LL) (a:Outs) (d e f:LL):(V0_)→St:=fun (g,h)=>⟨a2y [(2,.ptr (2,0) 0),(3,.ptr (3,0) 0),(71,.sl 106 c),(72,.i .i64 (c.length:Int)),(73,.i .i64 g),(90,.skip)],Mem.put (a0y [((2,0),.var [.i .i64 0,.i .i64 0,.i .i64 0,.ref (2,4),.i .i64 0,.i .i64 0,.i .i64 0,.i .i64 0,.i .i64 0,.ref (2,10),.i .i64 0,.b false,.b false,.ref (2,14),.ref (2,15),.ref (2,16),.ref (2,17)]),((2,4),.deep 147 [] none),((2,10),.deep 149 [] none),((2,14),.deep 70 [] none),((2,15),.deep 72 [] none),((2,16),.deep 76 [] none),((2,17),.deep 106 [] none),((3,0),.var [.i .i64 (a.t 0).asI,.i .i64 (a.t 1).asI,.i .i64 (a.t 2).asI,.ref (3,4),.i .i64 (a.t 4).asI,.i .i64 (a.t 5).asI,.i .i64 (a.t 6).asI,.i .i64 (a.t 7).asI,.i .i64 (a.t 8).asI,.ref (3,10),.i .i64 (a.t 10).asI,.b (a.t 11).asB,.b (a.t 12).asB,.ref (3,14),.ref (3,15),.ref (3,16),.ref (3,17)]),((3,4),.deep 147 (a.t 3).asR none),((3,10),.deep 149 (a.t 9).asR none),((3,14),.deep 70 d none),((3,15),.deep 72 e none),((3,16),.deep 76 f none),((3,17),.deep 106 h none)]) a2h .dead⟩
def b2p (k:Nat) (m n o:Int) (p:LL) (q u w x y:Int) (z:LL) (A:Int) (B C:Bool) (D F c G:LL) (e:Outs) (f g:LL) (h:Outs→LL→LL→LL→(V0_)→OO) (l:(V0_)→OO):(V0_)→OO:=fun (a,d)=>
 bif (decide (a<(c.length:Int))) then
  chk (decide (0≤a)&&decide (a<(c.length:Int))) <|
  a0c (a0a E P0 k N.j9k [.v [.i (at_ c a.toNat 0).asI,.i (at_ c a.toNat 1).asI,.r (at_ c a.toNat 2).asR]]) fun b=>
  chk (decide ((d.length+([[.i (b.t 0).asI,.i (b.t 1).asI,.r (b.t 2).asR]]:LL).length)*40≤140737488355328)) <|
  l ((W64 (a+1)),(d++([[.i (b.t 0).asI,.i (b.t 1).asI,.r (b.t 2).asR]]:LL)))
 else
  h e f g d (0,[])
def f2m:List Nat:=[1,2,3,11,56,57,58,70,71,72,73,74,75,76,77,78,79,80,81,82,83,84,85,86,87,88,89,90]
def a7s (d e f:Int) (g:LL) (h l m n o:Int) (p:LL) (q:Int) (r u:Bool) (w x c y:LL) (a:Outs) (z A:LL):(V0_)→St:=fun (B,C)=>⟨a2y [(1,.ptr (1,0) 0),(2,.ptr (2,0) 0),(3,.ptr (3,0) 0),(11,.skip),(56,.sl 76 c),(57,.i .i64 (c.length:Int)),(58,.i .i64 B),(70,.skip),(71,.skip),(72,.skip),(73,.skip),(74,.skip),(75,.skip),(76,.skip),(77,.skip),(78,.skip),(79,.skip),(80,.skip),(81,.skip),(82,.skip),(83,.skip),(84,.skip),(85,.skip),(86,.skip),(87,.skip),(88,.skip),(89,.skip),(90,.skip)],Mem.put (a0y [((1,0),.var [.i .i64 d,.i .i64 e,.i .i64 f,.sl 147 g,.i .i64 h,.i .i64 l,.i .i64 m,.i .i64 n,.i .i64 o,.sl 149 p,.i .i64 q,.b r,.b u,.sl 70 w,.sl 72 x,.sl 76 c,.sl 106 y]),((2,0),.var [.i .i64 0,.i .i64 0,.i .i64 0,.ref (2,4),.i .i64 0,.i .i64 0,.i .i64 0,.i .i64 0,.i .i64 0,.ref (2,10),.i .i64 0,.b false,.b false,.ref (2,14),.ref (2,15),.ref (2,16),.ref (2,17)]),((2,4),.deep 147 [] none),((2,10),.deep 149 [] none),((2,14),.deep 70 [] none),((2,15),.deep 72 [] none),((2,16),.deep 76 [] none),((2,17),.deep 106 [] none),((3,0),.var [.i .i64 (a.t 0).asI,.i .i64 (a.t 1).asI,.i .i64 (a.t 2).asI,.ref (3,4),.i .i64 (a.t 4).asI,.i .i64 (a.t 5).asI,.i .i64 (a.t 6).asI,.i .i64 (a.t 7).asI,.i .i64 (a.t 8).asI,.ref (3,10),.i .i64 (a.t 10).asI,.b (a.t 11).asB,.b (a.t 12).asB,.ref (3,14),.ref (3,15),.ref (3,16),.ref (3,17)]),((3,4),.deep 147 (a.t 3).asR none),((3,10),.deep 149 (a.t 9).asR none),((3,14),.deep 70 z none),((3,15),.deep 72 A none),((3,16),.deep 76 C none),((3,17),.deep 106 [] none)]) a2h .dead⟩
def b2q (k:Nat) (m n o:Int) (p:LL) (q u w x y:Int) (z:LL) (A:Int) (B C:Bool) (D b F G:LL) (f:Outs) (g:LL) (h:Outs→LL→LL→(V0_)→OO) (l:(V0_)→OO):(V0_)→OO:=fun (a,d)=>
 bif (decide (a<(b.length:Int))) then
  chk (decide (0≤a)&&decide (a<(b.length:Int))) <|
  a0c (a0a E P0 k N.j7q [.v [.i (at_ b a.toNat 0).asI,.i (at_ b a.toNat 1).asI,.i (at_ b a.toNat 2).asI,.i (at_ b a.toNat 3).asI,.r (at_ b a.toNat 4).asR]]) fun c=>
  a0c (a0a E P0 k N.j6a [.v [.r (at_ b a.toNat 6).asR]]) fun e=>
  chk (decide ((d.length+([[.i (c.t 0).asI,.i (c.t 1).asI,.i (c.t 2).asI,.i (c.t 3).asI,.r (c.t 4).asR,.i (at_ b a.toNat 5).asI,.r (e.t 0).asR,.i (at_ b a.toNat 7).asI]]:LL).length)*96≤140737488355328)) <|
  l ((W64 (a+1)),(d++([[.i (c.t 0).asI,.i (c.t 1).asI,.i (c.t 2).asI,.i (c.t 3).asI,.r (c.t 4).asR,.i (at_ b a.toNat 5).asI,.r (e.t 0).asR,.i (at_ b a.toNat 7).asI]]:LL)))
 else
  h f g d (0,[])
def f2n:List Nat:=[1,2,3,9,11,32,33,34,55,56,57,58,59,60,61,62,63,64,65,66,67,68,69,70,71,72,73,74,75,76,77,78,79,80,81,82,83,84,85,86,87,88,89,90]
def a7t (d e f:Int) (g:LL) (h l m n o:Int) (p:LL) (q:Int) (r u:Bool) (w c x y:LL) (a:Outs) (z:LL):(V0_)→St:=fun (A,B)=>⟨a2y [(1,.ptr (1,0) 0),(2,.ptr (2,0) 0),(3,.ptr (3,0) 0),(9,.skip),(11,.skip),(32,.sl 72 c),(33,.i .i64 (c.length:Int)),(34,.i .i64 A),(55,.skip),(56,.skip),(57,.skip),(58,.skip),(59,.skip),(60,.skip),(61,.skip),(62,.skip),(63,.skip),(64,.skip),(65,.skip),(66,.skip),(67,.skip),(68,.skip),(69,.skip),(70,.skip),(71,.skip),(72,.skip),(73,.skip),(74,.skip),(75,.skip),(76,.skip),(77,.skip),(78,.skip),(79,.skip),(80,.skip),(81,.skip),(82,.skip),(83,.skip),(84,.skip),(85,.skip),(86,.skip),(87,.skip),(88,.skip),(89,.skip),(90,.skip)],Mem.put (a0y [((1,0),.var [.i .i64 d,.i .i64 e,.i .i64 f,.sl 147 g,.i .i64 h,.i .i64 l,.i .i64 m,.i .i64 n,.i .i64 o,.sl 149 p,.i .i64 q,.b r,.b u,.sl 70 w,.sl 72 c,.sl 76 x,.sl 106 y]),((2,0),.var [.i .i64 0,.i .i64 0,.i .i64 0,.ref (2,4),.i .i64 0,.i .i64 0,.i .i64 0,.i .i64 0,.i .i64 0,.ref (2,10),.i .i64 0,.b false,.b false,.ref (2,14),.ref (2,15),.ref (2,16),.ref (2,17)]),((2,4),.deep 147 [] none),((2,10),.deep 149 [] none),((2,14),.deep 70 [] none),((2,15),.deep 72 [] none),((2,16),.deep 76 [] none),((2,17),.deep 106 [] none),((3,0),.var [.i .i64 (a.t 0).asI,.i .i64 (a.t 1).asI,.i .i64 (a.t 2).asI,.ref (3,4),.i .i64 (a.t 4).asI,.i .i64 (a.t 5).asI,.i .i64 (a.t 6).asI,.i .i64 (a.t 7).asI,.i .i64 (a.t 8).asI,.ref (3,10),.i .i64 (a.t 10).asI,.b (a.t 11).asB,.b (a.t 12).asB,.ref (3,14),.ref (3,15),.ref (3,16),.ref (3,17)]),((3,4),.deep 147 (a.t 3).asR none),((3,10),.deep 149 (a.t 9).asR none),((3,14),.deep 70 z none),((3,15),.deep 72 B none),((3,16),.deep 76 [] none),((3,17),.deep 106 [] none)]) a2h .dead⟩
def b2r (k:Nat) (h l m:Int) (n:LL) (o p q u w:Int) (x:LL) (y:Int) (z A:Bool) (c B C D:LL) (e:Outs) (f:Outs→LL→(V0_)→OO) (g:(V0_)→OO):(V0_)→OO:=fun (b,d)=>
 bif (decide (b<(c.length:Int))) then
  chk (decide (0≤b)&&decide (b<(c.length:Int))) <|
  a0c (a0a E P0 k N.j7q [.v [.i (at_ c b.toNat 0).asI,.i (at_ c b.toNat 1).asI,.i (at_ c b.toNat 2).asI,.i (at_ c b.toNat 3).asI,.r (at_ c b.toNat 4).asR]]) fun a=>
  chk (decide ((d.length+([[.i (a.t 0).asI,.i (a.t 1).asI,.i (a.t 2).asI,.i (a.t 3).asI,.r (a.t 4).asR]]:LL).length)*56≤140737488355328)) <|
  g ((W64 (b+1)),(d++([[.i (a.t 0).asI,.i (a.t 1).asI,.i (a.t 2).asI,.i (a.t 3).asI,.r (a.t 4).asR]]:LL)))
 else
  f e d (0,[])
def f2o:List Nat:=[1,2,3,7,9,11,17,18,19,31,32,33,34,35,36,37,38,39,40,41,42,43,44,45,46,47,48,49,50,51,52,53,54,55,56,57,58,59,60,61,62,63,64,65,66,67,68,69,70,71,72,73,74,75,76,77,78,79,80,81,82,83,84,85,86,87,88,89,90]
def a7u (d e f:Int) (g:LL) (h l m n o:Int) (p:LL) (q:Int) (r u:Bool) (c w x y:LL) (a:Outs):(V0_)→St:=fun (z,A)=>⟨a2y [(1,.ptr (1,0) 0),(2,.ptr (2,0) 0),(3,.ptr (3,0) 0),(7,.skip),(9,.skip),(11,.skip),(17,.sl 70 c),(18,.i .i64 (c.length:Int)),(19,.i .i64 z),(31,.skip),(32,.skip),(33,.skip),(34,.skip),(35,.skip),(36,.skip),(37,.skip),(38,.skip),(39,.skip),(40,.skip),(41,.skip),(42,.skip),(43,.skip),(44,.skip),(45,.skip),(46,.skip),(47,.skip),(48,.skip),(49,.skip),(50,.skip),(51,.skip),(52,.skip),(53,.skip),(54,.skip),(55,.skip),(56,.skip),(57,.skip),(58,.skip),(59,.skip),(60,.skip),(61,.skip),(62,.skip),(63,.skip),(64,.skip),(65,.skip),(66,.skip),(67,.skip),(68,.skip),(69,.skip),(70,.skip),(71,.skip),(72,.skip),(73,.skip),(74,.skip),(75,.skip),(76,.skip),(77,.skip),(78,.skip),(79,.skip),(80,.skip),(81,.skip),(82,.skip),(83,.skip),(84,.skip),(85,.skip),(86,.skip),(87,.skip),(88,.skip),(89,.skip),(90,.skip)],Mem.put (a0y [((1,0),.var [.i .i64 d,.i .i64 e,.i .i64 f,.sl 147 g,.i .i64 h,.i .i64 l,.i .i64 m,.i .i64 n,.i .i64 o,.sl 149 p,.i .i64 q,.b r,.b u,.sl 70 c,.sl 72 w,.sl 76 x,.sl 106 y]),((2,0),.var [.i .i64 0,.i .i64 0,.i .i64 0,.ref (2,4),.i .i64 0,.i .i64 0,.i .i64 0,.i .i64 0,.i .i64 0,.ref (2,10),.i .i64 0,.b false,.b false,.ref (2,14),.ref (2,15),.ref (2,16),.ref (2,17)]),((2,4),.deep 147 [] none),((2,10),.deep 149 [] none),((2,14),.deep 70 [] none),((2,15),.deep 72 [] none),((2,16),.deep 76 [] none),((2,17),.deep 106 [] none),((3,0),.var [.i .i64 (a.t 0).asI,.i .i64 (a.t 1).asI,.i .i64 (a.t 2).asI,.ref (3,4),.i .i64 (a.t 4).asI,.i .i64 (a.t 5).asI,.i .i64 (a.t 6).asI,.i .i64 (a.t 7).asI,.i .i64 (a.t 8).asI,.ref (3,10),.i .i64 (a.t 10).asI,.b (a.t 11).asB,.b (a.t 12).asB,.ref (3,14),.ref (3,15),.ref (3,16),.ref (3,17)]),((3,4),.deep 147 (a.t 3).asR none),((3,10),.deep 149 (a.t 9).asR none),((3,14),.deep 70 A none),((3,15),.deep 72 [] none),((3,16),.deep 76 [] none),((3,17),.deep 106 [] none)]) a2h .dead⟩
def a5i (k:Nat) (a:LL) (b:Outs) (c d e:LL) (f:(V0_)→OO):(V0_)→OO:=
 b2o k a b c d e f
def a5j (k:Nat) (b c d:Int) (e:LL) (f g h i l:Int) (m:LL) (n:Int) (o p:Bool) (q r t a:LL) (u:Outs) (w x:LL) (y:(V0_)→OO):(V0_)→OO:=
 b2p k b c d e f g h i l m n o p q r t a u w x (fun z A B C v=>a1l (a5i k a z A B C) k v) y
def a5k (k:Nat) (a b c:Int) (d:LL) (e f g h i:Int) (l:LL) (m:Int) (n o:Bool) (p q r t:LL) (u:Outs) (w:LL) (x:(V0_)→OO):(V0_)→OO:=
 b2q k a b c d e f g h i l m n o p q r t u w (fun y z A v=>a1l (a5j k a b c d e f g h i l m n o p q r t y z A) k v) x
def a5l (k:Nat) (a b c:Int) (d:LL) (e f g h i:Int) (l:LL) (m:Int) (n o:Bool) (p q r t:LL) (u:Outs) (w:(V0_)→OO):(V0_)→OO:=
 b2r k a b c d e f g h i l m n o p q r t u (fun x y v=>a1l (a5k k a b c d e f g h i l m n o p q r t x y) k v) w
def c4o (k:Nat) (a c d:Int) (e:LL) (f g h l m:Int) (n:LL) (o:Int) (p q:Bool) (w x y z:LL) (t:Outs→(V0_)→OO):OO:=
 a0c (a0a E P0 k N.j6o [.v [.i a,.i c,.i d,.r e,.i f,.i g,.i h,.i l,.i m,.r n,.i o,.b p,.b q]]) fun u=>
 t u (0,[])
def c4p (k:Nat) (a b c:Int) (d:LL) (e f g h i:Int) (l:LL) (m:Int) (n o:Bool) (p q r t:LL):OO:=
 c4o k a b c d e f g h i l m n o p q r t (fun u v=>a1l (a5l k a b c d e f g h i l m n o p q r t u) k v)
def a9w (k:Nat) (a c d:Int) (e:LL) (f g h l m:Int) (n:LL) (o:Int) (p q:Bool) (t u w x:LL) (js:List Nat) (j:Nat) (s:St):OO:=a3g E (LB E (a0a E P0 k) k [] N.j6k [.sr,.sr,.sl,.sr,.bl]) [] f2o (LK E (a0a E P0 k) k [] N.j6k [.v [.i a,.i c,.i d,.r e,.i f,.i g,.i h,.i l,.i m,.r n,.i o,.b p,.b q,.r t,.r u,.r w,.r x]] [.sr,.sr,.sl,.sr,.bl] js) j s
def a9x (k:Nat) (a c d:Int) (e:LL) (f g h l m:Int) (n:LL) (o:Int) (p q:Bool) (t u w x:LL) (js:List Nat) (j:Nat) (s:St):OO:=a3g E (LB E (a0a E P0 k) k [] N.j6k [.sr,.sr,.sr,.sl,.sr,.bl]) [] f2n (LK E (a0a E P0 k) k [] N.j6k [.v [.i a,.i c,.i d,.r e,.i f,.i g,.i h,.i l,.i m,.r n,.i o,.b p,.b q,.r t,.r u,.r w,.r x]] [.sr,.sr,.sr,.sl,.sr,.bl] js) j s
def a9y (k:Nat) (a c d:Int) (e:LL) (f g h l m:Int) (n:LL) (o:Int) (p q:Bool) (t u w x:LL) (js:List Nat) (j:Nat) (s:St):OO:=a3g E (LB E (a0a E P0 k) k [] N.j6k [.sr,.sr,.sr,.sr,.sl,.sr,.bl]) [] f2m (LK E (a0a E P0 k) k [] N.j6k [.v [.i a,.i c,.i d,.r e,.i f,.i g,.i h,.i l,.i m,.r n,.i o,.b p,.b q,.r t,.r u,.r w,.r x]] [.sr,.sr,.sr,.sr,.sl,.sr,.bl] js) j s
def a9z (k:Nat) (a c d:Int) (e:LL) (f g h l m:Int) (n:LL) (o:Int) (p q:Bool) (t u w x:LL) (js:List Nat) (j:Nat) (s:St):OO:=a3g E (LB E (a0a E P0 k) k [] N.j6k [.sr,.sr,.sr,.sr,.sr,.sl,.sr,.bl]) [] f2l (LK E (a0a E P0 k) k [] N.j6k [.v [.i a,.i c,.i d,.r e,.i f,.i g,.i h,.i l,.i m,.r n,.i o,.b p,.b q,.r t,.r u,.r w,.r x]] [.sr,.sr,.sr,.sr,.sr,.sl,.sr,.bl] js) j s
theorem f7p (k:Nat) (d e f:Int) (g:LL) (h l m n o:Int) (p:LL) (q:Int) (t u:Bool) (w x y a:LL):a0a E P0 (k+1) N.j6k [.v [.i d,.i e,.i f,.r g,.i h,.i l,.i m,.i n,.i o,.r p,.i q,.b t,.b u,.r w,.r x,.r y,.r a]]=c4p k d e f g h l m n o p q t u w x y a:=by
 have L:a0a E P0 (k+1) N.j6k [.v [.i d,.i e,.i f,.r g,.i h,.i l,.i m,.i n,.i o,.r p,.i q,.b t,.b u,.r w,.r x,.r y,.r a]]=c4o k d e f g h l m n o p q t u w x y a (fun H v=>a9w k d e f g h l m n o p q t u w x y a [] k (a7u d e f g h l m n o p q t u w x y a H v)):=by kernel_rfl
 have M:∀ (c:Outs) (z A B:LL) (C:Nat) (v:V0_),a9z k d e f g h l m n o p q t u w x y a [] (C+1) (a7r a c z A B v)=b2o k a c z A B (fun v=>a9z k d e f g h l m n o p q t u w x y a [] C (a7r a c z A B v)) v:=by
  intro c z A B C v;kernel_rfl
 have O:∀ (c:Outs) (z A B:LL) (C:Nat) (v:V0_),a9z k d e f g h l m n o p q t u w x y a [] C (a7r a c z A B v)=a1l (a5i k a c z A B) C v:=by
  intro c z A B C v
  refine a0j (a7r a c z A B) (a5i k a c z A B) (fun C v=>(M c z A B C v).trans ?_) C v
  unfold a5i
  rfl
 have Q:∀ (c:Outs) (z A:LL) (D:Nat) (v:V0_),a9y k d e f g h l m n o p q t u w x y a [] (D+1) (a7s d e f g h l m n o p q t u w x y a c z A v)=b2p k d e f g h l m n o p q t u w x y a c z A (fun H J K R v=>a9z k d e f g h l m n o p q t u w x y a [] k (a7r a H J K R v)) (fun v=>a9y k d e f g h l m n o p q t u w x y a [] D (a7s d e f g h l m n o p q t u w x y a c z A v)) v:=by
  intro c z A D v;kernel_rfl
 have S:∀ (c:Outs) (z A:LL) (D:Nat) (v:V0_),a9y k d e f g h l m n o p q t u w x y a [] D (a7s d e f g h l m n o p q t u w x y a c z A v)=a1l (a5j k d e f g h l m n o p q t u w x y a c z A) D v:=by
  intro c z A D v
  refine a0j (a7s d e f g h l m n o p q t u w x y a c z A) (a5j k d e f g h l m n o p q t u w x y a c z A) (fun D v=>(Q c z A D v).trans ?_) D v
  unfold a5j
  simp only [O] <;> rfl
 have U:∀ (c:Outs) (z:LL) (F:Nat) (v:V0_),a9x k d e f g h l m n o p q t u w x y a [] (F+1) (a7t d e f g h l m n o p q t u w x y a c z v)=b2q k d e f g h l m n o p q t u w x y a c z (fun H J K v=>a9y k d e f g h l m n o p q t u w x y a [] k (a7s d e f g h l m n o p q t u w x y a H J K v)) (fun v=>a9x k d e f g h l m n o p q t u w x y a [] F (a7t d e f g h l m n o p q t u w x y a c z v)) v:=by
  intro c z F v;kernel_rfl
 have V:∀ (c:Outs) (z:LL) (F:Nat) (v:V0_),a9x k d e f g h l m n o p q t u w x y a [] F (a7t d e f g h l m n o p q t u w x y a c z v)=a1l (a5k k d e f g h l m n o p q t u w x y a c z) F v:=by
  intro c z F v
  refine a0j (a7t d e f g h l m n o p q t u w x y a c z) (a5k k d e f g h l m n o p q t u w x y a c z) (fun F v=>(U c z F v).trans ?_) F v
  unfold a5k
  simp only [S] <;> rfl
 have W:∀ (c:Outs) (G:Nat) (v:V0_),a9w k d e f g h l m n o p q t u w x y a [] (G+1) (a7u d e f g h l m n o p q t u w x y a c v)=b2r k d e f g h l m n o p q t u w x y a c (fun H J v=>a9x k d e f g h l m n o p q t u w x y a [] k (a7t d e f g h l m n o p q t u w x y a H J v)) (fun v=>a9w k d e f g h l m n o p q t u w x y a [] G (a7u d e f g h l m n o p q t u w x y a c v)) v:=by
  intro c G v;kernel_rfl
 have X:∀ (c:Outs) (G:Nat) (v:V0_),a9w k d e f g h l m n o p q t u w x y a [] G (a7u d e f g h l m n o p q t u w x y a c v)=a1l (a5l k d e f g h l m n o p q t u w x y a c) G v:=by
  intro c G v
  refine a0j (a7u d e f g h l m n o p q t u w x y a c) (a5l k d e f g h l m n o p q t u w x y a c) (fun G v=>(W c G v).trans ?_) G v
  unfold a5l
  simp only [V] <;> rfl
 rw [L];unfold c4p
 simp only [X]
end
end Go.Proofs.YtkamidjllckpgaaGreat.Ev
