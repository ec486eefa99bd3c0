/- What functions answer under the evaluator, as Lean terms, part 1: what FnExactDrain needs. No condition. -/
import Derived.Test.YtgilihjnmjgciaaGreatmTab
namespace Go.Proofs.YtgilihjnmjgciaaGreat.Ev
open Go Go.Proofs
set_option linter.unusedVariables false
set_option maxRecDepth 100000
set_option maxHeartbeats 4000000
noncomputable section
def d4x (k:Nat) (e a c:Int) (f:LL) (g h l m n:Int) (o:LL) (p:Int) (d q:Bool) (u:Int):OO:=
 a0f (a0a E P0 k N.j6u [.v [.i e,.i a,.i c,.r f,.i g,.i h,.i l,.i m,.i n,.r o,.i p,.b d,.b q]]) fun w=>
 bif (!(w.t 0).asB) then
  some ⟨[.i 1],[]⟩
 else
  bif d then
   some ⟨[.i 6],[]⟩
  else
   a0f (a0a E P0 k N.j6m [.v [.i a,.i c]]) fun x=>
   a0f (a0a E P0 k N.j5l [.v [.i u],.v [.i 0],.v [.i (W64 ((x.t 0).asI - 1))]]) fun y=>
   bif (!(y.t 0).asB) then some ⟨[.i 2],[]⟩ else some ⟨[.i 0],[]⟩
theorem g0l (k:Nat) (a c d:Int) (e:LL) (f g h l m:Int) (n:LL) (o:Int) (p q:Bool) (t:Int):a0a E P0 (k+1) N.j8l [.v [.i a,.i c,.i d,.r e,.i f,.i g,.i h,.i l,.i m,.r n,.i o,.b p,.b q],.v [.i t]]=d4x k a c d e f g h l m n o p q t:=by kernel_rfl
def c0l (k:Nat) (e f g:Int) (h:LL) (l m n o p:Int) (b:LL) (q:Int) (r t:Bool) (c:Int) (d:(Int)→OO):(Int)→OO:=fun a=>
 bif (decide (a<(b.length:Int))) then
  chk (decide (0≤a)&&decide (a<(b.length:Int))) <|
  bif ((at_ b a.toNat 0).asI == c) then some ⟨[.i a],[]⟩ else d (W64 (a+1))
 else
  some ⟨[.i (-1)],[]⟩
def g5z:List Nat:=[1,2,4,5]
def g6a (a c d:Int) (e:LL) (f g h l m:Int) (n:LL) (o:Int) (p q:Bool) (r:Int):(Int)→St:=fun t=>⟨a3k [(1,.i .i64 r),(2,.ptr (2,0) 0),(4,.i .i64 0),(5,.i .i64 t)],a1e [((2,0),.var [.i .i64 a,.i .i64 c,.i .i64 d,.sl 134 e,.i .i64 f,.i .i64 g,.i .i64 h,.i .i64 l,.i .i64 m,.sl 136 n,.i .i64 o,.b p,.b q])]⟩
def d2h (k:Nat) (b c d:Int) (e:LL) (f g h i l:Int) (m:LL) (n:Int) (o p:Bool) (q:Int) (a:(Int)→OO):OO:=
 a 0
def e7o (k:Nat) (a b c:Int) (d:LL) (e f g h i:Int) (l:LL) (m:Int) (n o:Bool) (p:Int):OO:=
 d2h k a b c d e f g h i l m n o p (fun v=>a1i (c0l k a b c d e f g h i l m n o p) k v)
theorem g9w (k:Nat) (a c d:Int) (e:LL) (f g h l m:Int) (n:LL) (o:Int) (p q:Bool) (t:Int):a0a E P0 (k+1) N.j8m [.v [.i a,.i c,.i d,.r e,.i f,.i g,.i h,.i l,.i m,.r n,.i o,.b p,.b q],.v [.i t]]=e7o k a c d e f g h l m n o p q t:=a1y [] [.sr,.sl,.sr,.bl] g5z (d2h k a c d e f g h l m n o p q t) (g6a a c d e f g h l m n o p q t) (c0l k a c d e f g h l m n o p q t) (by kernel_rfl) (fun j v=>by kernel_rfl)
def d4y (k:Nat) (h l m:Int) (c:LL) (d e n o p:Int) (q:LL) (r:Int) (u w:Bool) (a f:Int):OO:=
 a0f (a0a E P0 k N.j5l [.v [.i a],.v [.i 0],.v [.i (W64 ((c.length:Int) - 1))]]) fun g=>
 bif (g.t 0).asB then
  chk (decide (0≤a)&&decide (a<(c.length:Int))) <|
  bif (!(at_ c a.toNat 2).asB) then
   bif (a != d) then some ⟨[.b true],[]⟩ else some ⟨[.b (decide (f<e))],[]⟩
  else
   some ⟨[.b false],[]⟩
 else
  some ⟨[.b false],[]⟩
theorem g0m (k:Nat) (a c d:Int) (e:LL) (f g h l m:Int) (n:LL) (o:Int) (p q:Bool) (t u:Int):a0a E P0 (k+1) N.j8n [.v [.i a,.i c,.i d,.r e,.i f,.i g,.i h,.i l,.i m,.r n,.i o,.b p,.b q],.v [.i t],.v [.i u]]=d4y k a c d e f g h l m n o p q t u:=by kernel_rfl
def d4z (k:Nat) (a:Int):OO:=
 a0f (a0a E P0 k N.j5l [.v [.i a],.v [.i 0],.v [.i 1099511627776]]) fun b=>
 bif (!(b.t 0).asB) then
  some ⟨[.i (-1)],[]⟩
 else
  some ⟨[.i (W64 ((W64 (a+2))+4))],[]⟩
theorem g0n (k:Nat) (a:Int):a0a E P0 (k+1) N.j8o [.v [.i a]]=d4z k a:=by kernel_rfl
def b7t (k:Nat) (c:LL) (d:Int) (e:(Int)→OO):(Int)→OO:=fun a=>
 bif (decide (a<(c.length:Int))) then
  chk (decide (0≤a)&&decide (a<(c.length:Int))) <|
  bif ((at_ c a.toNat 0).asI == d) then some ⟨[.b true],[]⟩ else e (W64 (a+1))
 else
  some ⟨[.b false],[]⟩
def g0o:List Nat:=[0,1,4,5]
def g0p (a:LL) (c:Int):(Int)→St:=fun d=>⟨a3k [(0,.sl 3 a),(1,.i .i64 c),(4,.b false),(5,.i .i64 d)],a1e []⟩
def c6n (k:Nat) (b:LL) (c:Int) (a:(Int)→OO):OO:=
 a 0
def e0q (k:Nat) (a:LL) (b:Int):OO:=
 c6n k a b (fun v=>a1i (b7t k a b) k v)
theorem g6b (k:Nat) (a:LL) (c:Int):a0a E P0 (k+1) N.k1h [.v [.r a],.v [.i c]]=e0q k a c:=a1y [] [.sr,.sl,.sr,.bl] g0o (c6n k a c) (g0p a c) (b7t k a c) (by kernel_rfl) (fun j v=>by kernel_rfl)
def b2n (k:Nat) (g c:LL) (h:Bool) (i:LL) (f:Int) (e:(V5_)→OO):(V5_)→OO:=fun (d,a)=>
 bif (decide (a<(c.length:Int))) then
  chk (decide (0≤a)&&decide (a<(c.length:Int))) <|
  bif ((at_ c a.toNat 0).asI == f) then
   chk (decide (0≤a)&&decide (a<(c.length:Int))) <|
   e ((at_ c a.toNat 1).asR,(W64 (a+1)))
  else
   e (d,(W64 (a+1)))
 else
  chk (decide ((([]:LL).length+d.length)*8≤140737488355328)) <|
  some ⟨[.r (([]:LL)++d),.b true],[]⟩
def e7p:List Nat:=[1,2,4,5,6,7,57,58,59]
def e7q (a c:LL) (d:Bool) (e:LL) (f:Int):(V5_)→St:=fun (g,h)=>⟨a3k [(1,.i .i64 f),(2,.ptr (2,0) 0),(4,.ref (4,0)),(5,.b false),(6,.sl 3 g),(7,.i .i64 h),(57,.skip),(58,.skip),(59,.skip)],a1e [((2,0),.var [.sl 79 a,.sl 157 c,.b d,.sl 3 e]),((4,0),.row 3 true [])]⟩
def a7u (k:Nat) (c:LL) (a:Int) (d:(V5_)→OO) (e:Bool):OO:=
 bif e then
  some ⟨[.r [],.b false],[]⟩
 else
  chk (decide (0≤a)&&decide (a<(c.length:Int))) <|
  d ((at_ c a.toNat 0).asR,0)
def c1l (k:Nat) (a g:LL) (e:Bool) (f:LL) (c:Int) (d:(V5_)→OO):OO:=
 a0f (a0a E P0 k N.j5x [.v [.r a,.r g,.b e,.r f]]) fun h=>
 bif (!(h.t 0).asB) then
  a7u k a c d true
 else
  bif e then
   a7u k a c d true
  else
   a0f (a0a E P0 k N.j5l [.v [.i c],.v [.i 0],.v [.i (W64 ((a.length:Int) - 1))]]) fun l=>
   bif (!(l.t 0).asB) then
    a7u k a c d true
   else
    a0f (a0a E P0 k N.k1h [.v [.r f],.v [.i c]]) fun m=>
    a7u k a c d ((m.t 0).asB)
def d0j (k:Nat) (a b:LL) (c:Bool) (d:LL) (e:Int):OO:=
 c1l k a b c d e (fun v=>a1i (b2n k a b c d e) k v)
theorem f3n (k:Nat) (a c:LL) (d:Bool) (e:LL) (f:Int):a0a E P0 (k+1) N.k1i [.v [.r a,.r c,.b d,.r e],.v [.i f]]=d0j k a c d e f:=a1y [] [.sr,.sr,.sr,.sl,.sr,.bl] e7p (c1l k a c d e f) (e7q a c d e f) (b2n k a c d e f) (by kernel_rfl) (fun j v=>by kernel_rfl)
def d5a (k:Nat) (f g h:Int) (c:LL) (l m n o p:Int) (q:LL) (u:Int) (w x:Bool) (a e:Int):OO:=
 a0f (a0a E P0 k N.j8n [.v [.i f,.i g,.i h,.r c,.i l,.i m,.i n,.i o,.i p,.r q,.i u,.b w,.b x],.v [.i a],.v [.i e]]) fun y=>
 bif (!(y.t 0).asB) then
  some ⟨[.i 0,.b false],[]⟩
 else
  chk (decide (0≤a)&&decide (a<(c.length:Int))) <|
  a0f (a0a E P0 k N.j8o [.v [.i e]]) fun z=>
  a0f (a0a E P0 k N.k1i [.v [.r (at_ c a.toNat 0).asR,.r (at_ c a.toNat 1).asR,.b (at_ c a.toNat 2).asB,.r (at_ c a.toNat 3).asR],.v [.i (z.t 0).asI]]) fun d=>
  bif (!(d.t 1).asB) then
   some ⟨[.i 0,.b false],[]⟩
  else
   bif (((d.t 0).asR.length:Int) != 1) then
    some ⟨[.i 0,.b false],[]⟩
   else
    chk (decide ((0:Int)<((d.t 0).asR.length:Int))) <|
    some ⟨[.i (at_ (d.t 0).asR 0 0).asI,.b true],[]⟩
theorem g0q (k:Nat) (a c d:Int) (e:LL) (f g h l m:Int) (n:LL) (o:Int) (p q:Bool) (t u:Int):a0a E P0 (k+1) N.k1j [.v [.i a,.i c,.i d,.r e,.i f,.i g,.i h,.i l,.i m,.r n,.i o,.b p,.b q],.v [.i t],.v [.i u]]=d5a k a c d e f g h l m n o p q t u:=by kernel_rfl
def a6c (k:Nat) (b:LL) (e:Int) (d:(V1_)→OO):(V1_)→OO:=fun (c,a)=>
 bif (decide (a<(b.length:Int))) then
  bif (a != e) then
   chk (decide (0≤a)&&decide (a<(b.length:Int))) <|
   d ((c5z .i64 c (at_ b a.toNat 0).asI),(W64 (a+1)))
  else
   d (c,(W64 (a+1)))
 else
  some ⟨[.i c],[]⟩
def d2i:List Nat:=[0,1,4,5,6,22]
def d2j (a:LL) (b:Int):(V1_)→St:=fun (c,d)=>⟨a3k [(0,.sl 3 a),(1,.i .i64 b),(4,.i .i64 0),(5,.i .i64 c),(6,.i .i64 d),(22,.skip)],a1e []⟩
def b2o (k:Nat) (b:LL) (c:Int) (a:(V1_)→OO):OO:=
 a (0,0)
def c0m (k:Nat) (a:LL) (b:Int):OO:=
 b2o k a b (fun v=>a1i (a6c k a b) k v)
theorem d5b (k:Nat) (a:LL) (c:Int):a0a E P0 (k+1) N.k1k [.v [.r a],.v [.i c]]=c0m k a c:=a1y [] [.sr,.sr,.sl,.sr,.bl] d2i (b2o k a c) (d2j a c) (a6c k a c) (by kernel_rfl) (fun j v=>by kernel_rfl)
def b2p (k:Nat) (h f l:Int) (m:LL) (n o p q u:Int) (w:LL) (x:Int) (y z:Bool) (A:Int) (g:(V2_)→OO):(V2_)→OO:=fun (c,d,a)=>
 bif (decide (d<f)) then
  a0f (a0a E P0 k N.k1j [.v [.i h,.i f,.i l,.r m,.i n,.i o,.i p,.i q,.i u,.r w,.i x,.b y,.b z],.v [.i d],.v [.i A]]) fun e=>
  bif (!(e.t 1).asB) then
   bif (decide (c≥0)) then
    some ⟨[.r [],.b false],[]⟩
   else
    chk (decide ((a.length+([[.i (e.t 0).asI]]:LL).length)*8≤140737488355328)) <|
    g (d,(W64 (d+1)),(a++([[.i (e.t 0).asI]]:LL)))
  else
   chk (decide ((a.length+([[.i (e.t 0).asI]]:LL).length)*8≤140737488355328)) <|
   g (c,(W64 (d+1)),(a++([[.i (e.t 0).asI]]:LL)))
 else
  bif (decide (c≥0)) then
   a0f (a0a E P0 k N.k1k [.v [.r a],.v [.i c]]) fun B=>
   chk (decide (0≤c)&&decide (c<(a.length:Int))) <|
   some ⟨[.r (a0x a c.toNat 0 [.i (B.t 0).asI]),.b true],[]⟩
  else
   some ⟨[.r a,.b true],[]⟩
def e7r:List Nat:=[1,2,4,5,6,7,8,36,37,38,39,40,41,42,43,44]
def e7s (a c d:Int) (e:LL) (f g h l m:Int) (n:LL) (o:Int) (p q:Bool) (r:Int):(V2_)→St:=fun (t,u,w)=>⟨a3k [(1,.i .i64 r),(2,.ptr (2,0) 0),(4,.ref (4,0)),(5,.b false),(6,.ref (6,0)),(7,.i .i64 t),(8,.i .i64 u),(36,.skip),(37,.skip),(38,.skip),(39,.skip),(40,.skip),(41,.skip),(42,.skip),(43,.skip),(44,.skip)],a1e [((2,0),.var [.i .i64 a,.i .i64 c,.i .i64 d,.sl 134 e,.i .i64 f,.i .i64 g,.i .i64 h,.i .i64 l,.i .i64 m,.sl 136 n,.i .i64 o,.b p,.b q]),((4,0),.row 3 true []),((6,0),.row 3 true w)]⟩
def c1m (k:Nat) (b c d:Int) (e:LL) (f g h i l:Int) (m:LL) (n:Int) (o p:Bool) (q:Int) (a:(V2_)→OO):OO:=
 a ((-1),0,[])
def d0k (k:Nat) (a b c:Int) (d:LL) (e f g h i:Int) (l:LL) (m:Int) (n o:Bool) (p:Int):OO:=
 c1m k a b c d e f g h i l m n o p (fun v=>a1i (b2p k a b c d e f g h i l m n o p) k v)
theorem f3o (k:Nat) (a c d:Int) (e:LL) (f g h l m:Int) (n:LL) (o:Int) (p q:Bool) (t:Int):a0a E P0 (k+1) N.k1l [.v [.i a,.i c,.i d,.r e,.i f,.i g,.i h,.i l,.i m,.r n,.i o,.b p,.b q],.v [.i t]]=d0k k a c d e f g h l m n o p q t:=a1y [] [.sr,.sr,.sr,.sl,.sr,.bl] e7r (c1m k a c d e f g h l m n o p q t) (e7s a c d e f g h l m n o p q t) (b2p k a c d e f g h l m n o p q t) (by kernel_rfl) (fun j v=>by kernel_rfl)
def c6o (k:Nat) (c a d:Int):OO:=
 a0f (a0a E P0 k N.j6l [.v [.i c,.i a]]) fun e=>
 bif (e.t 0).asB then
  a0f (a0a E P0 k N.j5l [.v [.i d],.v [.i 0],.v [.i (W64 (a - 1))]]) fun f=>
  some ⟨[.b (f.t 0).asB],[]⟩
 else
  some ⟨[.b false],[]⟩
theorem e7t (k:Nat) (a b c:Int):a0a E P0 (k+1) N.j8p [.v [.i a,.i b],.v [.i c]]=c6o k a b c:=by kernel_rfl
def c6p (k:Nat) (a c b:Int):OO:=
 a0f (a0a E P0 k N.j8p [.v [.i a,.i c],.v [.i b]]) fun d=>
 bif (!(d.t 0).asB) then
  some ⟨[.i (-1)],[]⟩
 else
  chk (!decide (a=0)) <|
  some ⟨[.i (W64 ((W64 (a - 1)) - (Int.tmod b a)))],[]⟩
theorem e7u (k:Nat) (a b c:Int):a0a E P0 (k+1) N.j8q [.v [.i a,.i b],.v [.i c]]=c6p k a b c:=by kernel_rfl
def d5c (k:Nat) (a b c d:Int):OO:=
 a0f (a0a E P0 k N.j8p [.v [.i a,.i b],.v [.i c]]) fun e=>
 bif (!(e.t 0).asB) then
  some ⟨[.i (-1)],[]⟩
 else
  a0f (a0a E P0 k N.j5l [.v [.i d],.v [.i 0],.v [.i (W64 (a - 2))]]) fun f=>
  bif (!(f.t 0).asB) then
   some ⟨[.i (-1)],[]⟩
  else
   a0f (a0a E P0 k N.j8q [.v [.i a,.i b],.v [.i c]]) fun g=>
   chk (!decide (a=0)) <|
   some ⟨[.i (Int.tmod (W64 ((W64 ((g.t 0).asI+1))+d)) a)],[]⟩
theorem g0r (k:Nat) (a b c d:Int):a0a E P0 (k+1) N.k1m [.v [.i a,.i b],.v [.i c],.v [.i d]]=d5c k a b c d:=by kernel_rfl
def a9q (k:Nat) (f g h:Int) (a:Outs) (e:Int) (d:LL) (l:(V0_)→OO) (m:Bool):OO:=
 bif m then
  a0f (a0a E P0 k N.k1m [.v [.i f,.i g],.v [.i h],.v [.i e]]) fun c=>
  chk (decide (0≤(c.t 0).asI)&&decide ((c.t 0).asI<((a.t 0).asR.length:Int))) <|
  chk (decide ((d.length+([[.i (at_ (a.t 0).asR (c.t 0).asI.toNat 0).asI]]:LL).length)*8≤140737488355328)) <|
  l ((W64 (e+1)),(d++([[.i (at_ (a.t 0).asR (c.t 0).asI.toNat 0).asI]]:LL)))
 else
  some ⟨[.r d,.b (a.t 1).asB],[]⟩
def a6w (k:Nat) (h a d:Int) (i:LL) (l m n o p:Int) (q:LL) (r:Int) (u w:Bool) (e:Int) (b:Outs) (f:(V0_)→OO):(V0_)→OO:=fun (c,g)=>
 bif (decide (c<(W64 (a - 1)))) then
  a9q k a d e b c g f ((b.t 1).asB)
 else
  a9q k a d e b c g f false
def f3p:List Nat:=[1,2,4,5,6,7,8,9,39,40]
def d0l (c d e:Int) (f:LL) (g h l m n:Int) (o:LL) (p:Int) (q r:Bool) (u:Int) (a:Outs):(V0_)→St:=fun (w,x)=>⟨a3k [(1,.i .i64 u),(2,.ptr (2,0) 0),(4,.ref (4,0)),(5,.b false),(6,.ref (6,0)),(7,.b (a.t 1).asB),(8,.ref (8,0)),(9,.i .i64 w),(39,.skip),(40,.skip)],a1e [((2,0),.var [.i .i64 c,.i .i64 d,.i .i64 e,.sl 134 f,.i .i64 g,.i .i64 h,.i .i64 l,.i .i64 m,.i .i64 n,.sl 136 o,.i .i64 p,.b q,.b r]),((4,0),.row 3 true []),((6,0),.row 3 true (a.t 0).asR),((8,0),.row 3 true x)]⟩
def b7u (k:Nat) (a c d:Int) (e:LL) (f g h l m:Int) (n:LL) (o:Int) (p q:Bool) (t:Int) (u:Outs→(V0_)→OO):OO:=
 a0f (a0a E P0 k N.k1l [.v [.i a,.i c,.i d,.r e,.i f,.i g,.i h,.i l,.i m,.r n,.i o,.b p,.b q],.v [.i t]]) fun w=>
 u w (0,[])
def d5d (k:Nat) (a b c:Int) (d:LL) (e f g h i:Int) (l:LL) (m:Int) (n o:Bool) (p:Int):OO:=
 b7u k a b c d e f g h i l m n o p (fun q v=>a1i (a6w k a b c d e f g h i l m n o p q) k v)
def e7v (k:Nat) (a c d:Int) (e:LL) (f g h l m:Int) (n:LL) (o:Int) (p q:Bool) (t:Int) (js:List Nat) (j:Nat) (s:St):OO:=IT_ k N.j8r [.v [.i a,.i c,.i d,.r e,.i f,.i g,.i h,.i l,.i m,.r n,.i o,.b p,.b q],.v [.i t]] [] [.sr,.sr,.sr,.sl,.sr,.bl] f3p js j s
theorem g0s (k:Nat) (a c d:Int) (e:LL) (f g h l m:Int) (n:LL) (o:Int) (p q:Bool) (t:Int):a0a E P0 (k+1) N.j8r [.v [.i a,.i c,.i d,.r e,.i f,.i g,.i h,.i l,.i m,.r n,.i o,.b p,.b q],.v [.i t]]=d5d k a c d e f g h l m n o p q t:=
 Eq.trans (b:=b7u k a c d e f g h l m n o p q t (fun u v=>e7v k a c d e f g h l m n o p q t [] k (d0l a c d e f g h l m n o p q t u v))) (by kernel_rfl) (congrArg (b7u k a c d e f g h l m n o p q t) (funext fun u=>funext fun v=>a1p (d0l a c d e f g h l m n o p q t u) (a6w k a c d e f g h l m n o p q t u) (fun j v=>by kernel_rfl) k v))
def c6q (k:Nat) (e f g:Int) (h:LL) (l m n o p:Int) (a:LL) (q:Int) (u d:Bool) (w:Int):OO:=
 a0f (a0a E P0 k N.j8m [.v [.i e,.i f,.i g,.r h,.i l,.i m,.i n,.i o,.i p,.r a,.i q,.b u,.b d],.v [.i w]]) fun c=>
 bif (decide ((c.t 0).asI≥0)) then
  chk (decide (0≤(c.t 0).asI)&&decide ((c.t 0).asI<(a.length:Int))) <|
  chk (decide ((([]:LL).length+(at_ a (c.t 0).asI.toNat 1).asR.length)*8≤140737488355328)) <|
  some ⟨[.r (([]:LL)++(at_ a (c.t 0).asI.toNat 1).asR),.b true],[]⟩
 else
  bif d then
   some ⟨[.r [],.b false],[]⟩
  else
   a0f (a0a E P0 k N.j8r [.v [.i e,.i f,.i g,.r h,.i l,.i m,.i n,.i o,.i p,.r a,.i q,.b u,.b d],.v [.i w]]) fun x=>
   some ⟨[.r (x.t 0).asR,.b (x.t 1).asB],[]⟩
theorem e7w (k:Nat) (a c d:Int) (e:LL) (f g h l m:Int) (n:LL) (o:Int) (p q:Bool) (t:Int):a0a E P0 (k+1) N.j8s [.v [.i a,.i c,.i d,.r e,.i f,.i g,.i h,.i l,.i m,.r n,.i o,.b p,.b q],.v [.i t]]=c6q k a c d e f g h l m n o p q t:=by kernel_rfl
def d0m (k:Nat) (a c b:Int):OO:=
 a0f (a0a E P0 k N.j6m [.v [.i a,.i c]]) fun d=>
 a0f (a0a E P0 k N.j5l [.v [.i b],.v [.i 0],.v [.i (W64 ((d.t 0).asI - 1))]]) fun e=>
 bif (!(e.t 0).asB) then
  some ⟨[.i (-1)],[]⟩
 else
  chk (!decide ((W64 (a - 1))=0)) <|
  some ⟨[.i (Int.tmod b (W64 (a - 1)))],[]⟩
theorem f3q (k:Nat) (a b c:Int):a0a E P0 (k+1) N.j8t [.v [.i a,.i b],.v [.i c]]=d0m k a b c:=by kernel_rfl
def c6r (k:Nat) (g a c:Int) (h:LL) (l m n o p:Int) (q:LL) (u:Int) (w x:Bool) (d:Int):OO:=
 a0f (a0a E P0 k N.j8l [.v [.i g,.i a,.i c,.r h,.i l,.i m,.i n,.i o,.i p,.r q,.i u,.b w,.b x],.v [.i d]]) fun y=>
 bif ((y.t 0).asI != 0) then
  some ⟨[.i 0,.i (y.t 0).asI],[]⟩
 else
  a0f (a0a E P0 k N.j6h [.v [.i a,.i c],.v [.i d]]) fun z=>
  a0f (a0a E P0 k N.j8s [.v [.i g,.i a,.i c,.r h,.i l,.i m,.i n,.i o,.i p,.r q,.i u,.b w,.b x],.v [.i (z.t 0).asI]]) fun e=>
  bif (!(e.t 1).asB) then
   some ⟨[.i 0,.i 5],[]⟩
  else
   a0f (a0a E P0 k N.j8t [.v [.i a,.i c],.v [.i d]]) fun f=>
   chk (decide (0≤(f.t 0).asI)&&decide ((f.t 0).asI<((e.t 0).asR.length:Int))) <|
   some ⟨[.i (at_ (e.t 0).asR (f.t 0).asI.toNat 0).asI,.i 0],[]⟩
theorem e7x (k:Nat) (a c d:Int) (e:LL) (f g h l m:Int) (n:LL) (o:Int) (p q:Bool) (t:Int):a0a E P0 (k+1) N.j6w [.v [.i a,.i c,.i d,.r e,.i f,.i g,.i h,.i l,.i m,.r n,.i o,.b p,.b q],.v [.i t]]=c6r k a c d e f g h l m n o p q t:=by kernel_rfl
def e0r (k:Nat) (c d e:Int) (f:LL) (g h l m n:Int) (o:LL) (p:Int) (a q:Bool):OO:=
 BK_ k N.j6u [.v (S0_ c d e f g h l m n o p a q)] fun u=>
 bif (!(u.t 0).asB) then so_ [.i 1] else (bif a then so_ [.i 6] else so_ [.i 0])
theorem g6c (k:Nat) (a c d:Int) (e:LL) (f g h l m:Int) (n:LL) (o:Int) (p q:Bool):a0a E P0 (k+1) N.k1n [.v (S0_ a c d e f g h l m n o p q)]=e0r k a c d e f g h l m n o p q:=by kernel_rfl
def a5h (k:Nat) (a b c:Int) (d e:Bool) (f:Int) (g:Bool):OO:=
 bif g then
  so_ [.i 1]
 else
  bif d then
   so_ [.i 6]
  else
   BK_ k N.j5l [vi_ f,vi_ 0,vi_ (W64 (a - 1))] fun h=>
   bif (!(h.t 0).asB) then
    so_ [.i 2]
   else
    bif e then
     so_ [.i 5]
    else
     bif (decide (b≥60000)) then
      so_ [.i 7]
     else
      bif (decide (c≥59990)) then so_ [.i 7] else so_ [.i 0]
def d5e (k:Nat) (m h a:Int) (n:LL) (o p c q d:Int) (u:LL) (w:Int) (e f:Bool) (g:Int) (l:LL):OO:=
 BK_ k N.j6u [.v (S0_ m h a n o p c q d u w e f)] fun x=>
 bif (!(x.t 0).asB) then
  a5h k a c d e f g true
 else
  bif ((l.length:Int) != (W64 (h - 1))) then
   a5h k a c d e f g true
  else
   BK_ k N.j6b [vr_ l] fun y=>
   a5h k a c d e f g (!(y.t 0).asB)
theorem g0t (k:Nat) (a c d:Int) (e:LL) (f g h l m:Int) (n:LL) (o:Int) (p q:Bool) (t:Int) (u:LL):a0a E P0 (k+1) N.j8u [.v (S0_ a c d e f g h l m n o p q),vi_ t,vr_ u]=d5e k a c d e f g h l m n o p q t u:=by kernel_rfl
def e7y (k:Nat) (c d e:Int) (f:LL) (g h l m n:Int) (o:LL) (a:Int) (p q:Bool):OO:=
 bif p then
  some ⟨[.b false],[(S0_ c d e f g h l m n o a p q)]⟩
 else
  bif (a == 0) then
   some ⟨[.b false],[[.i c,.i d,.i e,.r f,.i g,.i h,.i l,.i m,.i n,.r o,.i (-1),.b true,.b q]]⟩
  else
   bif (decide (a > 0)) then
    some ⟨[.b true],[(S0_ c d e f g h l m n o (W64 (a - 1)) p q)]⟩
   else
    some ⟨[.b true],[(S0_ c d e f g h l m n o a p q)]⟩
theorem g9x (k:Nat) (a c d:Int) (e:LL) (f g h l m:Int) (n:LL) (o:Int) (q t:Bool):a0a E P0 (k+1) N.j8v [.p (S0_ a c d e f g h l m n o q t)]=e7y k a c d e f g h l m n o q t:=by kernel_rfl
def a6m (k:Nat) (c:Outs) (e:(V0_)→OO):(V0_)→OO:=fun (a,d)=>
 bif (decide (a<((c.t 1).asR.length:Int))) then
  chk (decide (0≤a)&&decide (a<((c.t 1).asR.length:Int))) <|
  chk (decide (0≤a)&&decide (a<((c.t 1).asR.length:Int))) <|
  chk (decide (0≤(at_ (c.t 1).asR a.toNat 0).asI)&&decide ((at_ (c.t 1).asR a.toNat 0).asI<(d.length:Int))) <|
  e ((W64 (a+1)),(a0x d (at_ (c.t 1).asR a.toNat 0).asI.toNat 0 [.r (at_ (c.t 1).asR a.toNat 1).asR]))
 else
  so_ [.r d,.r [],.b (c.t 2).asB,.r (c.t 3).asR]
def e2f:List Nat:=[2,3,4,37,38,39]
def c5d (a:Outs):(V0_)→St:=fun (c,d)=>ST_ [(2,.ptr (2,0) 0),(3,.ptr (3,0) 0),(4,.w_ c),(37,.skip),(38,.skip),(39,.skip)] [((2,0),.var [.ref (2,1),.ref (2,2),.b false,.ref (2,4)]),((2,1),.row 79 true []),((2,2),.row 157 true []),((2,4),.row 3 true []),((3,0),.var [.ref (3,1),.ref (3,2),.b (a.t 2).asB,.ref (3,4)]),((3,1),.row 79 true d),((3,2),.row 157 true (a.t 1).asR),((3,4),.row 3 true (a.t 3).asR)]
def c5e (k:Nat) (a:Outs) (c:Outs→(V0_)→OO) (d:Bool):OO:=
 bif d then
  so_ (j1o a)
 else
  c a (0,(a.t 0).asR)
def b2q (k:Nat) (c d:LL) (a:Bool) (e:LL) (f:Outs→(V0_)→OO):OO:=
 BK_ k N.j6f [.v (S7_ c d a e)] fun g=>
 BK_ k N.j5x [.v (S7_ c d a e)] fun h=>
 bif (!(h.t 0).asB) then c5e k g f true else c5e k g f a
def c6s (k:Nat) (a b:LL) (c:Bool) (d:LL):OO:=
 b2q k a b c d (fun e v=>a1i (a6m k e) k v)
def d8e (k:Nat) (a c:LL) (d:Bool) (e:LL) (js:List Nat) (j:Nat) (s:St):OO:=IT_ k N.j7p [.v (S7_ a c d e)] [] [.sr,.sr,.sr,.sl,.sr,.bl] e2f js j s
theorem e7z (k:Nat) (a c:LL) (d:Bool) (e:LL):a0a E P0 (k+1) N.j7p [.v (S7_ a c d e)]=c6s k a c d e:=
 Eq.trans (b:=b2q k a c d e (fun f v=>d8e k a c d e [] k (c5d f v))) (by kernel_rfl) (congrArg (b2q k a c d e) (funext fun f=>funext fun v=>a1p (c5d f) (a6m k f) (fun j v=>by kernel_rfl) k v))
def b5o (k:Nat) (f:(V3_)→OO):(V3_)→OO:=fun (c,g,h,l,m,n,o,q,u,w,x,y,d,z)=>
 bif (decide (c<(d.length:Int))) then
  ck_ c d <|
  bif (!(at_ d c.toNat 2).asB) then
   BK_ k N.j8v [.p (S0_ g h l d m n o q u z w x y)] fun a=>
   bif (a.t 0).asB then
    chk (decide (0≤c)&&decide (c<((a.vt 0 3).asR.length:Int))) <|
    BK_ k N.j7p [.v (S7_ (at_ (a.vt 0 3).asR c.toNat 0).asR (at_ (a.vt 0 3).asR c.toNat 1).asR (at_ (a.vt 0 3).asR c.toNat 2).asB (at_ (a.vt 0 3).asR c.toNat 3).asR)] fun e=>
    chk (decide (0≤c)&&decide (c<((a.vt 0 3).asR.length:Int))) <|
    f ((W64 (c+1)),(a.vt 0 0).asI,(a.vt 0 1).asI,(a.vt 0 2).asI,(a.vt 0 4).asI,(a.vt 0 5).asI,(a.vt 0 6).asI,(a.vt 0 7).asI,(a.vt 0 8).asI,(a.vt 0 10).asI,(a.vt 0 11).asB,(a.vt 0 12).asB,(a0x (a.vt 0 3).asR c.toNat 0 (j1o e)),(a.vt 0 9).asR)
   else
    f ((W64 (c+1)),(a.vt 0 0).asI,(a.vt 0 1).asI,(a.vt 0 2).asI,(a.vt 0 4).asI,(a.vt 0 5).asI,(a.vt 0 6).asI,(a.vt 0 7).asI,(a.vt 0 8).asI,(a.vt 0 10).asI,(a.vt 0 11).asB,(a.vt 0 12).asB,(a.vt 0 3).asR,(a.vt 0 9).asR)
  else
   f ((W64 (c+1)),g,h,l,m,n,o,q,u,w,x,y,d,z)
 else
  some ⟨[],[(S0_ g h l d m n o q u z w x y)]⟩
def f3r:List Nat:=[0,2]
def f3s:(V3_)→St:=fun (a,c,d,e,f,g,h,l,m,n,o,p,q,r)=>ST_ [(0,.ptr (0,0) 0),(2,.w_ a)] [((0,0),.var [.w_ c,.w_ d,.w_ e,.ref (0,4),.w_ f,.w_ g,.w_ h,.w_ l,.w_ m,.ref (0,10),.w_ n,.b o,.b p]),((0,4),.row 134 true q),((0,10),.row 136 true r)]
def c4d (k:Nat) (a b c:Int) (d:LL) (e f g h i:Int) (l:LL) (m:Int) (n o:Bool) (p:(V3_)→OO):OO:=
 p (0,a,b,c,e,f,g,h,i,m,n,o,d,l)
def d5f (k:Nat) (a b c:Int) (d:LL) (e f g h i:Int) (l:LL) (m:Int) (n o:Bool):OO:=
 c4d k a b c d e f g h i l m n o (fun v=>a1i (b5o k) k v)
theorem g0u (k:Nat) (a c d:Int) (e:LL) (f g h l m:Int) (n:LL) (o:Int) (q t:Bool):a0a E P0 (k+1) N.j7q [.p (S0_ a c d e f g h l m n o q t)]=d5f k a c d e f g h l m n o q t:=a1y [0] [.sr,.bl] f3r (c4d k a c d e f g h l m n o q t) (f3s) (b5o k) (by kernel_rfl) (fun j v=>by kernel_rfl)
def a5q (k:Nat) (d e a c:Int) (f:Bool):OO:=
 bif f then
  so_ [.b false]
 else
  BK_ k N.j5l [vi_ a,vi_ (-1),vi_ (W64 (d - 1))] fun g=>
  bif (g.t 0).asB then
   BK_ k N.j5l [vi_ c,vi_ 0,vi_ e] fun h=>
   bif (h.t 0).asB then
    bif (decide (a≥0)) then so_ [.b true] else so_ [.b (c == 0)]
   else
    so_ [.b false]
  else
   so_ [.b false]
def d0n (k:Nat) (e f g a b h c d:Int):OO:=
 BK_ k N.j6l [.v [.i a,.i b]] fun l=>
 bif (!(l.t 0).asB) then
  a5q k a b c d true
 else
  BK_ k N.j5l [vi_ e,vi_ 1,vi_ 60000] fun m=>
  bif (!(m.t 0).asB) then
   a5q k a b c d true
  else
   BK_ k N.j5l [vi_ f,vi_ 0,vi_ 60000] fun n=>
   bif (!(n.t 0).asB) then
    a5q k a b c d true
   else
    BK_ k N.j5l [vi_ g,vi_ 0,vi_ (W64 (a - 1))] fun o=>
    bif (!(o.t 0).asB) then
     a5q k a b c d true
    else
     BK_ k N.j5l [vi_ h,vi_ 0,vi_ 60000] fun p=>
     a5q k a b c d (!(p.t 0).asB)
theorem f3t (k:Nat) (a b c d e f g h:Int):a0a E P0 (k+1) N.k1o [.v (i6i a b c d e f g h)]=d0n k a b c d e f g h:=by kernel_rfl
def c6t (k:Nat) (a b c d e f g h:Int):OO:=
 BK_ k N.k1o [.v (i6i a b c d e f g h)] fun l=>
 bif (!(l.t 0).asB) then
  so_ [.r []]
 else
  so_ [.r [[.i 21317],[.i a],[.i b],[.i c],[.i d],[.i e],[.i f],[.i (W64 (g+1))],[.i h]]]
theorem e8a (k:Nat) (a b c d e f g h:Int):a0a E P0 (k+1) N.k1p [.v (i6i a b c d e f g h)]=c6t k a b c d e f g h:=by kernel_rfl
def a4d (k:Nat) (b:LL) (e:Int) (d:(V0_)→OO):(V0_)→OO:=fun (a,c)=>
 bif (decide (a<(b.length:Int))) then
  chk (decide (0≤a)&&decide (a<(b.length:Int))) <|
  bif ((at_ b a.toNat 0).asI != e) then
   chk (decide (0≤a)&&decide (a<(b.length:Int))) <|
   chk (decide ((c.length+([[.i (at_ b a.toNat 0).asI]]:LL).length)*8≤140737488355328)) <|
   d ((W64 (a+1)),(c++([[.i (at_ b a.toNat 0).asI]]:LL)))
  else
   d ((W64 (a+1)),c)
 else
  some ⟨[.r c],[]⟩
def d8f:List Nat:=[0,1,4,5,6,27]
def d8g (a:LL) (b:Int):(V0_)→St:=fun (c,d)=>⟨a3k [(0,.sl 3 a),(1,.i .i64 b),(4,.ref (4,0)),(5,.ref (5,0)),(6,.i .i64 c),(27,.skip)],a1e [((4,0),.row 3 true []),((5,0),.row 3 true d)]⟩
def b6s (k:Nat) (b:LL) (c:Int) (a:(V0_)→OO):OO:=
 a (0,[])
def c5f (k:Nat) (a:LL) (b:Int):OO:=
 b6s k a b (fun v=>a1i (a4d k a b) k v)
theorem e2g (k:Nat) (a:LL) (c:Int):a0a E P0 (k+1) N.k1q [.v [.r a],.v [.i c]]=c5f k a c:=a1y [] [.sr,.sr,.sl,.sr,.bl] d8f (b6s k a c) (d8g a c) (a4d k a c) (by kernel_rfl) (fun j v=>by kernel_rfl)
def a4s (k:Nat) (e:LL) (c:Int) (d:LL) (a:Outs) (f:Bool):OO:=
 bif f then
  so_ (j4o a)
 else
  chk (decide ((([]:LL).length+d.length)*8≤140737488355328)) <|
  chk (decide (((a.t 1).asR.length+([[.i c,.r (([]:LL)++d)]]:LL).length)*32≤140737488355328)) <|
  BK_ k N.k1q [vr_ e,vi_ c] fun g=>
  so_ [.r (a.t 0).asR,.r ((a.t 1).asR++([[.i c,.r (([]:LL)++d)]]:LL)),.b (a.t 2).asB,.r (g.t 0).asR,.b true]
def c6u (k:Nat) (f g:LL) (h:Bool) (a:LL) (c:Int) (d:LL):OO:=
 BK_ k N.j6f [.v (S7_ f g h a)] fun e=>
 BK_ k N.j5x [.v (S7_ f g h a)] fun l=>
 bif (!(l.t 0).asB) then
  a4s k a c d e true
 else
  bif h then
   a4s k a c d e true
  else
   BK_ k N.j5l [vi_ c,vi_ 0,vi_ (W64 ((f.length:Int) - 1))] fun m=>
   bif (!(m.t 0).asB) then
    a4s k a c d e true
   else
    BK_ k N.j7n [vr_ d] fun n=>
    bif (!(n.t 0).asB) then
     a4s k a c d e true
    else
     a4s k a c d e (decide ((g.length:Int)≥60))
theorem e8b (k:Nat) (a c:LL) (d:Bool) (e:LL) (f:Int) (g:LL):a0a E P0 (k+1) N.j8w [.v (S7_ a c d e),vi_ f,vr_ g]=c6u k a c d e f g:=by kernel_rfl
def e0s (k:Nat) (f g h:Int) (d:LL) (l m n o q:Int) (u:LL) (w:Int) (x y:Bool) (c z:Int) (A:LL):OO:=
 ck_ c d <|
 bif (at_ d c.toNat 2).asB then
  some ⟨[],[(S0_ f g h d l m n o q u w x y)]⟩
 else
  BK_ k N.j8v [.p (S0_ f g h d l m n o q u w x y)] fun a=>
  bif (!(a.t 0).asB) then
   some ⟨[],[(S2_ a)]⟩
  else
   chk (decide (0≤c)&&decide (c<((a.vt 0 3).asR.length:Int))) <|
   BK_ k N.j8w [.v (S7_ (at_ (a.vt 0 3).asR c.toNat 0).asR (at_ (a.vt 0 3).asR c.toNat 1).asR (at_ (a.vt 0 3).asR c.toNat 2).asB (at_ (a.vt 0 3).asR c.toNat 3).asR),vi_ z,vr_ A] fun e=>
   chk (decide (0≤c)&&decide (c<((a.vt 0 3).asR.length:Int))) <|
   some ⟨[],[[.i (a.vt 0 0).asI,.i (a.vt 0 1).asI,.i (a.vt 0 2).asI,.r (a0x (a.vt 0 3).asR c.toNat 0 (j1o e)),.i (a.vt 0 4).asI,.i (a.vt 0 5).asI,.i (a.vt 0 6).asI,.i (a.vt 0 7).asI,.i (a.vt 0 8).asI,.r (a.vt 0 9).asR,.i (a.vt 0 10).asI,.b (a.vt 0 11).asB,.b (a.vt 0 12).asB]]⟩
theorem g6d (k:Nat) (a c d:Int) (e:LL) (f g h l m:Int) (n:LL) (o:Int) (q t:Bool) (u w:Int) (x:LL):a0a E P0 (k+1) N.j7r [.p (S0_ a c d e f g h l m n o q t),vi_ u,vi_ w,vr_ x]=e0s k a c d e f g h l m n o q t u w x:=by kernel_rfl
def b5p (k:Nat) (z:(V3_)→OO):(V3_)→OO:=fun (d,f,g,h,l,m,q,n,e,u,w,x,o,y)=>
 bif (decide (d<(o.length:Int))) then
  BK_ k N.k1p [.v (i6i f e d g h n l m)] fun A=>
  BK_ k N.j7r [.p (S0_ f g h o l m q n e y u w x),vi_ d,vi_ (Int.tmod e 2),vr_ (A.t 0).asR] fun a=>
  z ((W64 (d+1)),(a.vt 0 0).asI,(a.vt 0 1).asI,(a.vt 0 2).asI,(a.vt 0 4).asI,(a.vt 0 5).asI,(a.vt 0 6).asI,(a.vt 0 7).asI,(a.vt 0 8).asI,(a.vt 0 10).asI,(a.vt 0 11).asB,(a.vt 0 12).asB,(a.vt 0 3).asR,(a.vt 0 9).asR)
 else
  BK_ k N.j7q [.p (S0_ f g h o l m q n e y u w x)] fun c=>
  some ⟨[],[(S2_ c)]⟩
def f3u:List Nat:=[0,2,61]
def f3v:(V3_)→St:=fun (a,c,d,e,f,g,h,l,m,n,o,p,q,r)=>ST_ [(0,.ptr (0,0) 0),(2,.w_ a),(61,.skip)] [((0,0),.var [.w_ c,.w_ d,.w_ e,.ref (0,4),.w_ f,.w_ g,.w_ h,.w_ l,.w_ m,.ref (0,10),.w_ n,.b o,.b p]),((0,4),.row 134 true q),((0,10),.row 136 true r)]
def c4e (k:Nat) (a b c:Int) (d:LL) (e f g h i:Int) (l:LL) (m:Int) (n o:Bool) (p:(V3_)→OO):OO:=
 p (0,a,b,c,e,f,g,h,(W64 (i+1)),m,n,o,d,l)
def d5g (k:Nat) (a b c:Int) (d:LL) (e f g h i:Int) (l:LL) (m:Int) (n o:Bool):OO:=
 c4e k a b c d e f g h i l m n o (fun v=>a1i (b5p k) k v)
theorem g0v (k:Nat) (a c d:Int) (e:LL) (f g h l m:Int) (n:LL) (o:Int) (q t:Bool):a0a E P0 (k+1) N.k1r [.p (S0_ a c d e f g h l m n o q t)]=d5g k a c d e f g h l m n o q t:=a1y [0] [.sr,.sl,.sr,.bl] f3u (c4e k a c d e f g h l m n o q t) (f3v) (b5p k) (by kernel_rfl) (fun j v=>by kernel_rfl)
def d0o (k:Nat) (d e f:Int) (g:LL) (h l m n o:Int) (q:LL) (t:Int) (u w:Bool):OO:=
 BK_ k N.j7q [.p (S0_ d e f g h l m n o q t u w)] fun a=>
 bif (a.vt 0 11).asB then
  some ⟨[],[(S2_ a)]⟩
 else
  BK_ k N.k1r [.p (j4p a)] fun c=>
  some ⟨[],[(S2_ c)]⟩
theorem f3w (k:Nat) (a c d:Int) (e:LL) (f g h l m:Int) (n:LL) (o:Int) (q t:Bool):a0a E P0 (k+1) N.k1s [.p (S0_ a c d e f g h l m n o q t)]=d0o k a c d e f g h l m n o q t:=by kernel_rfl
def d5h (k:Nat) (a:Int):OO:=
 bif (decide (a<0)) then so_ [.i (-1)] else so_ [.i (W64 (2+(Int.tmod a 4)))]
theorem g0w (k:Nat) (a:Int):a0a E P0 (k+1) N.k1t [vi_ a]=d5h k a:=by kernel_rfl
def e0t (k:Nat) (c d:Int) (a:LL):OO:=
 BK_ k N.j5l [vi_ c,vi_ 0,vi_ 60000] fun e=>
 bif (e.t 0).asB then
  BK_ k N.j5l [vi_ d,vi_ 0,vi_ 7] fun f=>
  bif (f.t 0).asB then
   BK_ k N.j5l [vi_ (a.length:Int),vi_ 2,vi_ 4] fun g=>
   bif (g.t 0).asB then
    BK_ k N.j6b [vr_ a] fun h=>
    so_ [.b (h.t 0).asB]
   else
    so_ [.b false]
  else
   so_ [.b false]
 else
  so_ [.b false]
theorem g6e (k:Nat) (a b:Int) (c:LL):a0a E P0 (k+1) N.k1u [.v (S4_ a b c)]=e0t k a b c:=by kernel_rfl
def d5i (k:Nat) (b c:Int) (a:LL):OO:=
 BK_ k N.k1u [.v (S4_ b c a)] fun d=>
 bif (!(d.t 0).asB) then
  so_ [.r []]
 else
  chk (decide ((([[.i 21322],[.i b],[.i c],[.i (a.length:Int)]]:LL).length+a.length)*8≤140737488355328)) <|
  so_ [.r (([[.i 21322],[.i b],[.i c],[.i (a.length:Int)]]:LL)++a)]
theorem g0x (k:Nat) (a b:Int) (c:LL):a0a E P0 (k+1) N.k1v [.v (S4_ a b c)]=d5i k a b c:=by kernel_rfl
def b7v (k:Nat) (f A:Int) (B:LL) (C:(V3_)→OO):(V3_)→OO:=fun (d,g,h,l,m,n,o,q,u,w,x,y,e,z)=>
 bif (decide (d<(e.length:Int))) then
  BK_ k N.k1t [vi_ f] fun D=>
  BK_ k N.k1v [.v (S4_ f A B)] fun F=>
  BK_ k N.j7r [.p (S0_ g h l e m n o q u z w x y),vi_ d,vi_ (D.t 0).asI,vr_ (F.t 0).asR] fun a=>
  C ((W64 (d+1)),(a.vt 0 0).asI,(a.vt 0 1).asI,(a.vt 0 2).asI,(a.vt 0 4).asI,(a.vt 0 5).asI,(a.vt 0 6).asI,(a.vt 0 7).asI,(a.vt 0 8).asI,(a.vt 0 10).asI,(a.vt 0 11).asB,(a.vt 0 12).asB,(a.vt 0 3).asR,(a.vt 0 9).asR)
 else
  BK_ k N.j7q [.p (S0_ g h l e m n o q u z w x y)] fun c=>
  some ⟨[],[(S2_ c)]⟩
def g0y:List Nat:=[0,3,4,22]
def g0z (a c:Int) (d:LL):(V3_)→St:=fun (e,f,g,h,l,m,n,o,p,q,r,t,u,w)=>ST_ [(0,.ptr (0,0) 0),(3,.ptr (3,0) 0),(4,.w_ e),(22,.skip)] [((0,0),.var [.w_ f,.w_ g,.w_ h,.ref (0,4),.w_ l,.w_ m,.w_ n,.w_ o,.w_ p,.ref (0,10),.w_ q,.b r,.b t]),((0,4),.row 134 true u),((0,10),.row 136 true w),((3,0),.var [.w_ a,.w_ c,.sl 3 d])]
def c6v (k:Nat) (a b c:Int) (d:LL) (e f g h i:Int) (l:LL) (m:Int) (n o:Bool) (q r:Int) (t:LL) (p:(V3_)→OO):OO:=
 p (0,a,b,c,e,f,g,h,i,m,n,o,d,l)
def e0u (k:Nat) (d e f:Int) (g:LL) (h i l m n:Int) (o:LL) (p:Int) (q r:Bool) (a b:Int) (c:LL):OO:=
 c6v k d e f g h i l m n o p q r a b c (fun v=>a1i (b7v k a b c) k v)
theorem g6f (k:Nat) (e f g:Int) (h:LL) (l m n o q:Int) (t:LL) (u:Int) (w x:Bool) (a c:Int) (d:LL):a0a E P0 (k+1) N.j8x [.p (S0_ e f g h l m n o q t u w x),.v (S4_ a c d)]=e0u k e f g h l m n o q t u w x a c d:=a1y [0] [.sr,.sl,.sr,.bl] g0y (c6v k e f g h l m n o q t u w x a c d) (g0z a c d) (b7v k a c d) (by kernel_rfl) (fun j v=>by kernel_rfl)
def b7w (k:Nat) (b:LL) (d:(V1_)→OO):(V1_)→OO:=fun (c,a)=>
 bif (decide (a<(b.length:Int))) then
  chk (decide (0≤a)&&decide (a<(b.length:Int))) <|
  d ((c5z .i64 c (at_ b a.toNat 0).asI),(W64 (a+1)))
 else
  some ⟨[.i c],[]⟩
def g1a:List Nat:=[0,2,3,4,17]
def g1b (a:LL):(V1_)→St:=fun (b,c)=>⟨a3k [(0,.sl 3 a),(2,.i .i64 0),(3,.i .i64 b),(4,.i .i64 c),(17,.skip)],a1e []⟩
def c6w (k:Nat) (b:LL) (a:(V1_)→OO):OO:=
 a (0,0)
def e0v (k:Nat) (a:LL):OO:=
 c6w k a (fun v=>a1i (b7w k a) k v)
theorem g6g (k:Nat) (a:LL):a0a E P0 (k+1) N.k1w [.v [.r a]]=e0v k a:=a1y [] [.sr,.sr,.sl,.sr,.bl] g1a (c6w k a) (g1b a) (b7w k a) (by kernel_rfl) (fun j v=>by kernel_rfl)
def c2r (k:Nat) (a:LL):OO:=
 BK_ k N.k1w [vr_ a] fun b=>
 so_ [.i (b.t 0).asI]
theorem d8h (k:Nat) (a:LL):a0a E P0 (k+1) N.k1x [vr_ a]=c2r k a:=by kernel_rfl
def b5q (k:Nat) (y:Int) (d e:Bool) (c f g h l m n o q u:Int) (w x:LL) (z:(V3_)→OO) (A:Int):OO:=
 BK_ k N.j8n [.v (S0_ f g h w l m n o q x u d e),vi_ c,vi_ y] fun B=>
 bif (B.t 0).asB then
  BK_ k N.j8o [vi_ y] fun C=>
  BK_ k N.j7r [.p (S0_ f g h w l m n o q x u d e),vi_ c,vi_ (C.t 0).asI,vr_ [[.i A]]] fun a=>
  z ((W64 (c+1)),(a.vt 0 0).asI,(a.vt 0 1).asI,(a.vt 0 2).asI,(a.vt 0 4).asI,(a.vt 0 5).asI,(a.vt 0 6).asI,(a.vt 0 7).asI,(a.vt 0 8).asI,(a.vt 0 10).asI,(a.vt 0 11).asB,(a.vt 0 12).asB,(a.vt 0 3).asR,(a.vt 0 9).asR)
 else
  z ((W64 (c+1)),f,g,h,l,m,n,o,q,u,d,e,w,x)
def b5r (k:Nat) (y:Int) (f:LL) (d:Outs) (z:(V3_)→OO):(V3_)→OO:=fun (c,g,a,h,l,m,n,o,p,q,u,w,e,x)=>
 bif (decide (c<(e.length:Int))) then
  BK_ k N.k1x [vr_ f] fun A=>
  bif (c != (d.t 0).asI) then
   chk (!decide (a=0)) <|
   chk (decide (0≤(Int.tmod (W64 ((W64 ((W64 (c - (d.t 0).asI)) - 1))+a)) a))&&decide ((Int.tmod (W64 ((W64 ((W64 (c - (d.t 0).asI)) - 1))+a)) a)<(f.length:Int))) <|
   b5q k y u w c g a h l m n o p q e x z ((at_ f (Int.tmod (W64 ((W64 ((W64 (c - (d.t 0).asI)) - 1))+a)) a).toNat 0).asI)
  else
   b5q k y u w c g a h l m n o p q e x z ((A.t 0).asI)
 else
  some ⟨[],[(S0_ g a h e l m n o p x q u w)]⟩
def f3x:List Nat:=[0,1,2,6,7]
def d0p (a:Int) (c:LL) (d:Outs):(V3_)→St:=fun (e,f,g,h,l,m,n,o,p,q,r,u,w,x)=>ST_ [(0,.ptr (0,0) 0),(1,.w_ a),(2,.sl 3 c),(6,.w_ (d.t 0).asI),(7,.w_ e)] [((0,0),.var [.w_ f,.w_ g,.w_ h,.ref (0,4),.w_ l,.w_ m,.w_ n,.w_ o,.w_ p,.ref (0,10),.w_ q,.b r,.b u]),((0,4),.row 134 true w),((0,10),.row 136 true x)]
def b7x (k:Nat) (c a b:Int) (d:LL) (e f g h l:Int) (m:LL) (n:Int) (o p:Bool) (q:Int) (u:LL) (r:Outs→(V3_)→OO):OO:=
 BK_ k N.j8q [.v [.i a,.i b],vi_ q] fun t=>
 r t (0,c,a,b,e,f,g,h,l,n,o,p,d,m)
def d5j (k:Nat) (c d e:Int) (f:LL) (g h i l m:Int) (n:LL) (o:Int) (p q:Bool) (a:Int) (b:LL):OO:=
 b7x k c d e f g h i l m n o p q a b (fun r v=>a1i (b5r k a b r) k v)
def e8c (k:Nat) (a c d:Int) (e:LL) (f g h l m:Int) (n:LL) (o:Int) (q t:Bool) (u:Int) (w:LL) (js:List Nat) (j:Nat) (s:St):OO:=IT_ k N.j6n [.p (S0_ a c d e f g h l m n o q t),vi_ u,vr_ w] [0] [.sr,.sr,.bl] f3x js j s
theorem g1c (k:Nat) (d e f:Int) (g:LL) (h l m n o:Int) (q:LL) (t:Int) (u w:Bool) (a:Int) (c:LL):a0a E P0 (k+1) N.j6n [.p (S0_ d e f g h l m n o q t u w),vi_ a,vr_ c]=d5j k d e f g h l m n o q t u w a c:=
 Eq.trans (b:=b7x k d e f g h l m n o q t u w a c (fun x v=>e8c k d e f g h l m n o q t u w a c [] k (d0p a c x v))) (by kernel_rfl) (congrArg (b7x k d e f g h l m n o q t u w a c) (funext fun x=>funext fun v=>a1p (d0p a c x) (b5r k a c x) (fun j v=>by kernel_rfl) k v))
def d0q (k:Nat) (o q t:Int) (u:LL) (w x h l y:Int) (z:LL) (A:Int) (m B:Bool) (n:Int) (g:LL):OO:=
 bif (decide ((W64 (h - l))≥4)) then
  BK_ k N.k1s [.p (S0_ o q t u w x h l y z A m B)] fun a=>
  bif (a.vt 0 11).asB then
   some ⟨[.i 6],[(S2_ a)]⟩
  else
   chk (decide ((([]:LL).length+g.length)*8≤140737488355328)) <|
   BK_ k N.j8x [.p (S2_ a),.v [.i (a.vt 0 6).asI,.i n,.r (([]:LL)++g)]] fun c=>
   bif (c.vt 0 11).asB then
    some ⟨[.i 6],[(S2_ c)]⟩
   else
    BK_ k N.j6n [.p (j3h c (W64 ((c.vt 0 6).asI+1))),vi_ n,vr_ g] fun d=>
    bif (d.vt 0 11).asB then
     some ⟨[.i 6],[(S2_ d)]⟩
    else
     some ⟨[.i 0],[(S2_ d)]⟩
 else
  bif m then
   some ⟨[.i 6],[(S0_ o q t u w x h l y z A m B)]⟩
  else
   chk (decide ((([]:LL).length+g.length)*8≤140737488355328)) <|
   BK_ k N.j8x [.p (S0_ o q t u w x h l y z A m B),.v (S4_ h n (([]:LL)++g))] fun e=>
   bif (e.vt 0 11).asB then
    some ⟨[.i 6],[(S2_ e)]⟩
   else
    BK_ k N.j6n [.p (j3h e (W64 ((e.vt 0 6).asI+1))),vi_ n,vr_ g] fun f=>
    bif (f.vt 0 11).asB then
     some ⟨[.i 6],[(S2_ f)]⟩
    else
     some ⟨[.i 0],[(S2_ f)]⟩
theorem f3y (k:Nat) (a c d:Int) (e:LL) (f g h l m:Int) (n:LL) (o:Int) (q t:Bool) (u:Int) (w:LL):a0a E P0 (k+1) N.j8y [.p (S0_ a c d e f g h l m n o q t),vi_ u,vr_ w]=d0q k a c d e f g h l m n o q t u w:=by kernel_rfl
def d0r (k:Nat) (e f g:Int) (h:LL) (l m n o q:Int) (d:LL) (u:Int) (w x:Bool) (y:Int):OO:=
 BK_ k N.j8m [.v (S0_ e f g h l m n o q d u w x),vi_ y] fun c=>
 bif (decide ((c.t 0).asI<0)) then
  some ⟨[.i 0],[(S0_ e f g h l m n o q d u w x)]⟩
 else
  chk (decide (0≤(c.t 0).asI)&&decide ((c.t 0).asI<(d.length:Int))) <|
  BK_ k N.j8u [.v (S0_ e f g h l m n o q d u w x),vi_ y,vr_ (at_ d (c.t 0).asI.toNat 1).asR] fun z=>
  bif ((z.t 0).asI != 0) then
   some ⟨[.i (z.t 0).asI],[(S0_ e f g h l m n o q d u w x)]⟩
  else
   chk (decide (0≤(c.t 0).asI)&&decide ((c.t 0).asI<(d.length:Int))) <|
   BK_ k N.j8y [.p (S0_ e f g h l m n o q d u w x),vi_ y,vr_ (at_ d (c.t 0).asI.toNat 1).asR] fun a=>
   bif ((a.t 0).asI == 0) then
    chk (decide (0≤0)&&decide (0≤(c.t 0).asI)&&decide ((c.t 0).asI≤((a.vt 0 9).asR.length:Int))) <|
    chk (decide ((([]:LL).length+(((a.vt 0 9).asR.drop (0:Int).toNat).take ((c.t 0).asI.toNat - (0:Int).toNat)).length)*32≤140737488355328)) <|
    chk (decide (0≤(W64 ((c.t 0).asI+1)))&&decide ((W64 ((c.t 0).asI+1))≤((a.vt 0 9).asR.length:Int))&&decide (((a.vt 0 9).asR.length:Int)≤((a.vt 0 9).asR.length:Int))) <|
    chk (decide (((([]:LL)++(((a.vt 0 9).asR.drop (0:Int).toNat).take ((c.t 0).asI.toNat - (0:Int).toNat))).length+(((a.vt 0 9).asR.drop (W64 ((c.t 0).asI+1)).toNat).take (((a.vt 0 9).asR.length:Int).toNat - (W64 ((c.t 0).asI+1)).toNat)).length)*32≤140737488355328)) <|
    some ⟨[.i (a.t 0).asI],[[.i (a.vt 0 0).asI,.i (a.vt 0 1).asI,.i (a.vt 0 2).asI,.r (a.vt 0 3).asR,.i (a.vt 0 4).asI,.i (a.vt 0 5).asI,.i (a.vt 0 6).asI,.i (a.vt 0 7).asI,.i (a.vt 0 8).asI,.r ((([]:LL)++(((a.vt 0 9).asR.drop (0:Int).toNat).take ((c.t 0).asI.toNat - (0:Int).toNat)))++(((a.vt 0 9).asR.drop (W64 ((c.t 0).asI+1)).toNat).take (((a.vt 0 9).asR.length:Int).toNat - (W64 ((c.t 0).asI+1)).toNat))),.i (a.vt 0 10).asI,.b (a.vt 0 11).asB,.b (a.vt 0 12).asB]]⟩
   else
    some ⟨[.i (a.t 0).asI],[(S2_ a)]⟩
theorem f3z (k:Nat) (a c d:Int) (e:LL) (f g h l m:Int) (n:LL) (o:Int) (q t:Bool) (u:Int):a0a E P0 (k+1) N.j8z [.p (S0_ a c d e f g h l m n o q t),vi_ u]=d0r k a c d e f g h l m n o q t u:=by kernel_rfl
def b1f (k:Nat) (e:Int) (a:Outs) (d:Int):OO:=
 bif (d != 0) then
  so_ (S8_ a d)
 else
  BK_ k N.j8z [.p (i8e a),vi_ e] fun c=>
  so_ (j3i c)
def c0n (k:Nat) (g h f:Int) (l:LL) (m n o q u:Int) (w:LL) (x:Int) (y z:Bool) (d:Int):OO:=
 BK_ k N.j6g [.v (S0_ g h f l m n o q u w x y z)] fun a=>
 BK_ k N.k1n [.v (S0_ g h f l m n o q u w x y z)] fun e=>
 bif ((e.t 0).asI == 0) then
  BK_ k N.j5l [vi_ d,vi_ 0,vi_ (W64 (f - 1))] fun A=>
  bif (!(A.t 0).asB) then b1f k d a 2 else b1f k d a ((e.t 0).asI)
 else
  bif ((e.t 0).asI != 0) then
   so_ (j4q a e)
  else
   BK_ k N.j8z [.p (i8e a),vi_ d] fun c=>
   so_ (j3i c)
theorem d5k (k:Nat) (a c d:Int) (e:LL) (f g h l m:Int) (n:LL) (o:Int) (p q:Bool) (t:Int):a0a E P0 (k+1) N.j6x [.v (S0_ a c d e f g h l m n o p q),vi_ t]=c0n k a c d e f g h l m n o p q t:=by kernel_rfl
def b7y (k:Nat) (b:LL) (d:Int) (e:LL) (g:Bool) (a:Int) (c:LL) (f:(V6_)→OO) (h:Bool):OO:=
 bif h then
  chk (decide ((c.length+([[.i d,.r e]]:LL).length)*32≤140737488355328)) <|
  ck_ a b <|
  bif ((at_ b a.toNat 0).asI != d) then
   ck_ a b <|
   chk (decide (((c++([[.i d,.r e]]:LL)).length+([[.i (at_ b a.toNat 0).asI,.r (at_ b a.toNat 1).asR]]:LL).length)*32≤140737488355328)) <|
   f (true,(W64 (a+1)),((c++([[.i d,.r e]]:LL))++([[.i (at_ b a.toNat 0).asI,.r (at_ b a.toNat 1).asR]]:LL)))
  else
   f (true,(W64 (a+1)),(c++([[.i d,.r e]]:LL)))
 else
  ck_ a b <|
  bif ((at_ b a.toNat 0).asI != d) then
   ck_ a b <|
   chk (decide ((c.length+([[.i (at_ b a.toNat 0).asI,.r (at_ b a.toNat 1).asR]]:LL).length)*32≤140737488355328)) <|
   f (g,(W64 (a+1)),(c++([[.i (at_ b a.toNat 0).asI,.r (at_ b a.toNat 1).asR]]:LL)))
  else
   f (g,(W64 (a+1)),c)
def b7z (k:Nat) (h l m:Int) (n:LL) (o p q t u:Int) (c:LL) (w:Int) (x y:Bool) (d:Int) (f:LL) (z:(V6_)→OO):(V6_)→OO:=fun (g,a,e)=>
 bif (decide (a<(c.length:Int))) then
  bif (!g) then
   ck_ a c <|
   b7y k c d f g a e z (decide ((at_ c a.toNat 0).asI≥d))
  else
   b7y k c d f g a e z false
 else
  bif (!g) then
   chk (decide ((e.length+([[.i d,.r f]]:LL).length)*32≤140737488355328)) <|
   some ⟨[],[[.i h,.i l,.i m,.r n,.i o,.i p,.i q,.i t,.i u,.r (e++([[.i d,.r f]]:LL)),.i w,.b x,.b y]]⟩
  else
   some ⟨[],[(S0_ h l m n o p q t u e w x y)]⟩
def g1d:List Nat:=[0,3,4,5,6,57,58,59,60,61,62,63,64,65,66]
def g1e (a c d:Int) (e:LL) (f g h l m:Int) (n:LL) (o:Int) (p q:Bool) (r:Int) (t:LL):(V6_)→St:=fun (u,w,x)=>ST_ [(0,.ptr (0,0) 0),(3,.ptr (3,0) 0),(4,.ref (4,0)),(5,.b u),(6,.w_ w),(57,.skip),(58,.skip),(59,.skip),(60,.skip),(61,.skip),(62,.skip),(63,.skip),(64,.skip),(65,.skip),(66,.skip)] [((0,0),.var [.w_ a,.w_ c,.w_ d,.ref (0,4),.w_ f,.w_ g,.w_ h,.w_ l,.w_ m,.ref (0,10),.w_ o,.b p,.b q]),((0,4),.row 134 true e),((0,10),.row 136 true n),((3,0),.var [.w_ r,.sl 3 t]),((4,0),.row 136 true x)]
def c6x (k:Nat) (b c d:Int) (e:LL) (f g h i l:Int) (m:LL) (n:Int) (o p:Bool) (q:Int) (r:LL) (a:(V6_)→OO):OO:=
 a (false,0,[])
def e0w (k:Nat) (a b c:Int) (d:LL) (e f g h i:Int) (l:LL) (m:Int) (n o:Bool) (p:Int) (q:LL):OO:=
 c6x k a b c d e f g h i l m n o p q (fun v=>a1i (b7z k a b c d e f g h i l m n o p q) k v)
theorem g6h (k:Nat) (a c d:Int) (e:LL) (f g h l m:Int) (n:LL) (o:Int) (q t:Bool) (u:Int) (w:LL):a0a E P0 (k+1) N.j9a [.p (S0_ a c d e f g h l m n o q t),.v [.i u,.r w]]=e0w k a c d e f g h l m n o q t u w:=a1y [0] [.sr,.sr,.sr,.sl,.sr,.bl] g1d (c6x k a c d e f g h l m n o q t u w) (g1e a c d e f g h l m n o q t u w) (b7z k a c d e f g h l m n o q t u w) (by kernel_rfl) (fun j v=>by kernel_rfl)
def e0x (k:Nat) (e c d:Int) (f:LL) (g h l m n:Int) (o:LL) (q:Int) (u w:Bool) (z B:Int):OO:=
 BK_ k N.j6h [.v [.i c,.i d],vi_ z] fun A=>
 BK_ k N.j8s [.v (S0_ e c d f g h l m n o q u w),vi_ (A.t 0).asI] fun x=>
 bif (!(x.t 1).asB) then
  some ⟨[.i 5],[(S0_ e c d f g h l m n o q u w)]⟩
 else
  BK_ k N.j8t [.v [.i c,.i d],vi_ z] fun y=>
  chk (decide (0≤(y.t 0).asI)&&decide ((y.t 0).asI<((x.t 0).asR.length:Int))) <|
  BK_ k N.j9a [.p (S0_ e c d f g h l m n o q u w),.v [.i (A.t 0).asI,.r (a0x (x.t 0).asR (y.t 0).asI.toNat 0 [.i B])]] fun a=>
  some ⟨[.i 0],[(S2_ a)]⟩
theorem g6i (k:Nat) (a c d:Int) (e:LL) (f g h l m:Int) (n:LL) (o:Int) (q t:Bool) (u w:Int):a0a E P0 (k+1) N.j9b [.p (S0_ a c d e f g h l m n o q t),vi_ u,vi_ w]=e0x k a c d e f g h l m n o q t u w:=by kernel_rfl
def b6t (k:Nat) (e f:Int) (a:Outs) (d:Int):OO:=
 bif (d != 0) then
  so_ (S8_ a d)
 else
  BK_ k N.j9b [.p (i8e a),vi_ e,vi_ f] fun c=>
  so_ (j3i c)
def c6y (k:Nat) (g h l:Int) (m:LL) (n o q u w:Int) (x:LL) (y:Int) (z A:Bool) (d e:Int):OO:=
 BK_ k N.j6g [.v (S0_ g h l m n o q u w x y z A)] fun a=>
 BK_ k N.j8l [.v (S0_ g h l m n o q u w x y z A),vi_ d] fun f=>
 bif ((f.t 0).asI == 0) then
  BK_ k N.j8g [vi_ e] fun B=>
  bif (!(B.t 0).asB) then b6t k d e a 3 else b6t k d e a ((f.t 0).asI)
 else
  bif ((f.t 0).asI != 0) then
   so_ (j4q a f)
  else
   BK_ k N.j9b [.p (i8e a),vi_ d,vi_ e] fun c=>
   so_ (j3i c)
theorem e8d (k:Nat) (a c d:Int) (e:LL) (f g h l m:Int) (n:LL) (o:Int) (p q:Bool) (t u:Int):a0a E P0 (k+1) N.j5u [.v (S0_ a c d e f g h l m n o p q),vi_ t,vi_ u]=c6y k a c d e f g h l m n o p q t u:=by kernel_rfl
def a0j (a:Outs) (b c:Int):LL:=a0x (a.t 14).asR b.toNat 0 [.i (at_ (a.t 14).asR b.toNat 0).asI,.i (at_ (a.t 14).asR b.toNat 1).asI,.i (at_ (a.t 14).asR b.toNat 2).asI,.i (at_ (a.t 14).asR b.toNat 3).asI,.r (at_ (a.t 14).asR b.toNat 4).asR,.i (W64 ((at_ (a.t 14).asR b.toNat 5).asI+1)),.r (at_ (a.t 14).asR b.toNat 6).asR,.i c]
def a0l (a:Outs) (b:Int) (c:Outs):LL:=a0x (a.t 14).asR b.toNat 0 [.i (at_ (a.t 14).asR b.toNat 0).asI,.i (at_ (a.t 14).asR b.toNat 1).asI,.i (at_ (a.t 14).asR b.toNat 2).asI,.i (at_ (a.t 14).asR b.toNat 3).asI,.r (at_ (a.t 14).asR b.toNat 4).asR,.i (W64 ((at_ (a.t 14).asR b.toNat 5).asI+1)),.r (at_ (a.t 14).asR b.toNat 6).asR,.i (c.t 13).asI]
def a0r (a:Outs) (b:Int) (c:Outs):LL:=a0x (a.t 14).asR b.toNat 0 [.i (at_ (a.t 14).asR b.toNat 0).asI,.i (at_ (a.t 14).asR b.toNat 1).asI,.i (at_ (a.t 14).asR b.toNat 2).asI,.i (at_ (a.t 14).asR b.toNat 3).asI,.r (at_ (a.t 14).asR b.toNat 4).asR,.i (W64 ((at_ (a.t 14).asR b.toNat 5).asI+1)),.r ((at_ (a.t 14).asR b.toNat 6).asR++([[.i (c.t 0).asI]]:LL)),.i (c.t 1).asI]
def a0v (a:Outs) (b:Int):LL:=a0x (a.t 14).asR b.toNat 0 [.i (at_ (a.t 14).asR b.toNat 0).asI,.i (at_ (a.t 14).asR b.toNat 1).asI,.i (at_ (a.t 14).asR b.toNat 2).asI,.i (at_ (a.t 14).asR b.toNat 3).asI,.r (at_ (a.t 14).asR b.toNat 4).asR,.i (at_ (a.t 14).asR b.toNat 5).asI,.r (at_ (a.t 14).asR b.toNat 6).asR,.i (at_ (a.t 14).asR b.toNat 7).asI]
def a1s (a:Outs):List T:=(i8e a)
def a2h (a:Outs) (b:Int) (c:Outs):List T:=[.i (at_ (a.t 14).asR b.toNat 0).asI,.i (at_ (a.t 14).asR b.toNat 1).asI,.i (at_ (a.t 14).asR b.toNat 2).asI,.i (at_ (a.t 14).asR b.toNat 3).asI,.r (at_ (a.t 14).asR b.toNat 4).asR,.i (at_ (a.t 14).asR b.toNat 1).asI,.i (c.t 13).asI,.r (at_ (a.t 14).asR b.toNat 6).asR]
def a2i (a:Outs) (b c:Int):List T:=[.i (at_ (a.t 14).asR b.toNat 0).asI,.i (at_ (a.t 14).asR b.toNat 1).asI,.i (at_ (a.t 14).asR b.toNat 2).asI,.i (at_ (a.t 14).asR b.toNat 3).asI,.r (at_ (a.t 14).asR b.toNat 4).asR,.i (at_ (a.t 14).asR b.toNat 1).asI,.i c,.r (at_ (a.t 14).asR b.toNat 6).asR]
def a2j (a:Outs) (b:Int) (c:Outs):List T:=[.i (at_ (a.t 14).asR b.toNat 0).asI,.i (at_ (a.t 14).asR b.toNat 1).asI,.i (at_ (a.t 14).asR b.toNat 2).asI,.i (at_ (a.t 14).asR b.toNat 3).asI,.r (at_ (a.t 14).asR b.toNat 4).asR,.i (at_ (a.t 14).asR b.toNat 1).asI,.i (c.t 13).asI,.r []]
def a2k (a:Outs) (b c:Int):List T:=[.i (at_ (a.t 14).asR b.toNat 0).asI,.i (at_ (a.t 14).asR b.toNat 1).asI,.i (at_ (a.t 14).asR b.toNat 2).asI,.i (at_ (a.t 14).asR b.toNat 3).asI,.r (at_ (a.t 14).asR b.toNat 4).asR,.i (at_ (a.t 14).asR b.toNat 1).asI,.i c,.r []]
def c0o (k:Nat) (a:Outs) (c:LL):OO:=
 so_ (j4r a c)
def b6f (k:Nat) (a:Outs) (c d e:LL):OO:=
 so_ (j4s a c d e)
def e0y (k:Nat) (a:Int) (b c:Outs) (f:Bool):OO:=
 bif f then
  chk (decide (0≤0)&&decide (0≤a)&&decide (a≤((a0r b a c).length:Int))) <|
  chk (decide ((([]:LL).length+(((a0r b a c).drop (0:Int).toNat).take (a.toNat - (0:Int).toNat)).length)*96≤140737488355328)) <|
  chk (decide (0≤(W64 (a+1)))&&decide ((W64 (a+1))≤((a0r b a c).length:Int))&&decide (((a0r b a c).length:Int)≤((a0r b a c).length:Int))) <|
  chk (decide (((([]:LL)++(((a0r b a c).drop (0:Int).toNat).take (a.toNat - (0:Int).toNat))).length+(((a0r b a c).drop (W64 (a+1)).toNat).take (((a0r b a c).length:Int).toNat - (W64 (a+1)).toNat)).length)*96≤140737488355328)) <|
  BK_ k N.j5p [.v [.i (at_ (b.t 14).asR a.toNat 1).asI,.i (c.t 1).asI,.r ((at_ (b.t 14).asR a.toNat 6).asR++([[.i (c.t 0).asI]]:LL))]] fun d=>
  chk (decide (((b.t 15).asR.length+([(S3_ d)]:LL).length)*40≤140737488355328)) <|
  chk (decide (((b.t 16).asR.length+([[.i (at_ (b.t 14).asR a.toNat 0).asI,.i (at_ (b.t 14).asR a.toNat 1).asI,.i (at_ (b.t 14).asR a.toNat 2).asI,.i (at_ (b.t 14).asR a.toNat 3).asI,.r (at_ (b.t 14).asR a.toNat 4).asR,.i (at_ (b.t 14).asR a.toNat 1).asI,.i (c.t 1).asI,.r ((at_ (b.t 14).asR a.toNat 6).asR++([[.i (c.t 0).asI]]:LL))]]:LL).length)*96≤140737488355328)) <|
  b6f k b ((([]:LL)++(((a0r b a c).drop (0:Int).toNat).take (a.toNat - (0:Int).toNat)))++(((a0r b a c).drop (W64 (a+1)).toNat).take (((a0r b a c).length:Int).toNat - (W64 (a+1)).toNat))) ((b.t 15).asR++([(S3_ d)]:LL)) ((b.t 16).asR++([[.i (at_ (b.t 14).asR a.toNat 0).asI,.i (at_ (b.t 14).asR a.toNat 1).asI,.i (at_ (b.t 14).asR a.toNat 2).asI,.i (at_ (b.t 14).asR a.toNat 3).asI,.r (at_ (b.t 14).asR a.toNat 4).asR,.i (at_ (b.t 14).asR a.toNat 1).asI,.i (c.t 1).asI,.r ((at_ (b.t 14).asR a.toNat 6).asR++([[.i (c.t 0).asI]]:LL))]]:LL))
 else
  chk (decide (0≤0)&&decide (0≤a)&&decide (a≤((a0r b a c).length:Int))) <|
  chk (decide ((([]:LL).length+(((a0r b a c).drop (0:Int).toNat).take (a.toNat - (0:Int).toNat)).length)*96≤140737488355328)) <|
  chk (decide (0≤(W64 (a+1)))&&decide ((W64 (a+1))≤((a0r b a c).length:Int))&&decide (((a0r b a c).length:Int)≤((a0r b a c).length:Int))) <|
  chk (decide (((([]:LL)++(((a0r b a c).drop (0:Int).toNat).take (a.toNat - (0:Int).toNat))).length+(((a0r b a c).drop (W64 (a+1)).toNat).take (((a0r b a c).length:Int).toNat - (W64 (a+1)).toNat)).length)*96≤140737488355328)) <|
  BK_ k N.j5p [.v [.i (at_ (b.t 14).asR a.toNat 1).asI,.i (c.t 1).asI,.r []]] fun e=>
  chk (decide (((b.t 15).asR.length+([(S3_ e)]:LL).length)*40≤140737488355328)) <|
  chk (decide (((b.t 16).asR.length+([[.i (at_ (b.t 14).asR a.toNat 0).asI,.i (at_ (b.t 14).asR a.toNat 1).asI,.i (at_ (b.t 14).asR a.toNat 2).asI,.i (at_ (b.t 14).asR a.toNat 3).asI,.r (at_ (b.t 14).asR a.toNat 4).asR,.i (at_ (b.t 14).asR a.toNat 1).asI,.i (c.t 1).asI,.r []]]:LL).length)*96≤140737488355328)) <|
  b6f k b ((([]:LL)++(((a0r b a c).drop (0:Int).toNat).take (a.toNat - (0:Int).toNat)))++(((a0r b a c).drop (W64 (a+1)).toNat).take (((a0r b a c).length:Int).toNat - (W64 (a+1)).toNat))) ((b.t 15).asR++([(S3_ e)]:LL)) ((b.t 16).asR++([[.i (at_ (b.t 14).asR a.toNat 0).asI,.i (at_ (b.t 14).asR a.toNat 1).asI,.i (at_ (b.t 14).asR a.toNat 2).asI,.i (at_ (b.t 14).asR a.toNat 3).asI,.r (at_ (b.t 14).asR a.toNat 4).asR,.i (at_ (b.t 14).asR a.toNat 1).asI,.i (c.t 1).asI,.r []]]:LL))
def b6g (k:Nat) (a:Int) (b:Outs) (c:Int) (f:Bool):OO:=
 bif f then
  chk (decide (0≤0)&&decide (0≤a)&&decide (a≤((a0j b a c).length:Int))) <|
  chk (decide ((([]:LL).length+(((a0j b a c).drop (0:Int).toNat).take (a.toNat - (0:Int).toNat)).length)*96≤140737488355328)) <|
  chk (decide (0≤(W64 (a+1)))&&decide ((W64 (a+1))≤((a0j b a c).length:Int))&&decide (((a0j b a c).length:Int)≤((a0j b a c).length:Int))) <|
  chk (decide (((([]:LL)++(((a0j b a c).drop (0:Int).toNat).take (a.toNat - (0:Int).toNat))).length+(((a0j b a c).drop (W64 (a+1)).toNat).take (((a0j b a c).length:Int).toNat - (W64 (a+1)).toNat)).length)*96≤140737488355328)) <|
  BK_ k N.j5p [.v (S4_ (at_ (b.t 14).asR a.toNat 1).asI c (at_ (b.t 14).asR a.toNat 6).asR)] fun d=>
  chk (decide (((b.t 15).asR.length+([(S3_ d)]:LL).length)*40≤140737488355328)) <|
  chk (decide (((b.t 16).asR.length+([(a2i b a c)]:LL).length)*96≤140737488355328)) <|
  b6f k b ((([]:LL)++(((a0j b a c).drop (0:Int).toNat).take (a.toNat - (0:Int).toNat)))++(((a0j b a c).drop (W64 (a+1)).toNat).take (((a0j b a c).length:Int).toNat - (W64 (a+1)).toNat))) ((b.t 15).asR++([(S3_ d)]:LL)) ((b.t 16).asR++([(a2i b a c)]:LL))
 else
  chk (decide (0≤0)&&decide (0≤a)&&decide (a≤((a0j b a c).length:Int))) <|
  chk (decide ((([]:LL).length+(((a0j b a c).drop (0:Int).toNat).take (a.toNat - (0:Int).toNat)).length)*96≤140737488355328)) <|
  chk (decide (0≤(W64 (a+1)))&&decide ((W64 (a+1))≤((a0j b a c).length:Int))&&decide (((a0j b a c).length:Int)≤((a0j b a c).length:Int))) <|
  chk (decide (((([]:LL)++(((a0j b a c).drop (0:Int).toNat).take (a.toNat - (0:Int).toNat))).length+(((a0j b a c).drop (W64 (a+1)).toNat).take (((a0j b a c).length:Int).toNat - (W64 (a+1)).toNat)).length)*96≤140737488355328)) <|
  BK_ k N.j5p [.v (S9_ (at_ (b.t 14).asR a.toNat 1).asI c)] fun e=>
  chk (decide (((b.t 15).asR.length+([(S3_ e)]:LL).length)*40≤140737488355328)) <|
  chk (decide (((b.t 16).asR.length+([(a2k b a c)]:LL).length)*96≤140737488355328)) <|
  b6f k b ((([]:LL)++(((a0j b a c).drop (0:Int).toNat).take (a.toNat - (0:Int).toNat)))++(((a0j b a c).drop (W64 (a+1)).toNat).take (((a0j b a c).length:Int).toNat - (W64 (a+1)).toNat))) ((b.t 15).asR++([(S3_ e)]:LL)) ((b.t 16).asR++([(a2k b a c)]:LL))
def b6h (k:Nat) (a:Int) (b:Outs) (c:Int):OO:=
 chk (decide (0≤a)&&decide (a<((b.t 14).asR.length:Int))) <|
 chk (Nat.beq a.toNat a.toNat) <|
 bif (c == 0) then
  c0o k b (a0j b a c)
 else
  bif ((at_ (b.t 14).asR a.toNat 0).asI == 1) then
   b6g k a b c (c == 0)
  else
   b6g k a b c false
def c6z (k:Nat) (c:Int) (d a:Outs) (e f:LL):OO:=
 so_ (j4t a d ((([]:LL)++(((a0l d c a).drop (0:Int).toNat).take (c.toNat - (0:Int).toNat)))++(((a0l d c a).drop (W64 (c+1)).toNat).take (((a0l d c a).length:Int).toNat - (W64 (c+1)).toNat))) e f)
def c0p (k:Nat) (a:Int) (b c:Outs) (f:Bool):OO:=
 bif f then
  chk (decide (0≤0)&&decide (0≤a)&&decide (a≤((a0l b a c).length:Int))) <|
  chk (decide ((([]:LL).length+(((a0l b a c).drop (0:Int).toNat).take (a.toNat - (0:Int).toNat)).length)*96≤140737488355328)) <|
  chk (decide (0≤(W64 (a+1)))&&decide ((W64 (a+1))≤((a0l b a c).length:Int))&&decide (((a0l b a c).length:Int)≤((a0l b a c).length:Int))) <|
  chk (decide (((([]:LL)++(((a0l b a c).drop (0:Int).toNat).take (a.toNat - (0:Int).toNat))).length+(((a0l b a c).drop (W64 (a+1)).toNat).take (((a0l b a c).length:Int).toNat - (W64 (a+1)).toNat)).length)*96≤140737488355328)) <|
  BK_ k N.j5p [.v [.i (at_ (b.t 14).asR a.toNat 1).asI,.i (c.t 13).asI,.r (at_ (b.t 14).asR a.toNat 6).asR]] fun d=>
  chk (decide (((b.t 15).asR.length+([(S3_ d)]:LL).length)*40≤140737488355328)) <|
  chk (decide (((b.t 16).asR.length+([(a2h b a c)]:LL).length)*96≤140737488355328)) <|
  c6z k a b c ((b.t 15).asR++([(S3_ d)]:LL)) ((b.t 16).asR++([(a2h b a c)]:LL))
 else
  chk (decide (0≤0)&&decide (0≤a)&&decide (a≤((a0l b a c).length:Int))) <|
  chk (decide ((([]:LL).length+(((a0l b a c).drop (0:Int).toNat).take (a.toNat - (0:Int).toNat)).length)*96≤140737488355328)) <|
  chk (decide (0≤(W64 (a+1)))&&decide ((W64 (a+1))≤((a0l b a c).length:Int))&&decide (((a0l b a c).length:Int)≤((a0l b a c).length:Int))) <|
  chk (decide (((([]:LL)++(((a0l b a c).drop (0:Int).toNat).take (a.toNat - (0:Int).toNat))).length+(((a0l b a c).drop (W64 (a+1)).toNat).take (((a0l b a c).length:Int).toNat - (W64 (a+1)).toNat)).length)*96≤140737488355328)) <|
  BK_ k N.j5p [.v [.i (at_ (b.t 14).asR a.toNat 1).asI,.i (c.t 13).asI,.r []]] fun e=>
  chk (decide (((b.t 15).asR.length+([(S3_ e)]:LL).length)*40≤140737488355328)) <|
  chk (decide (((b.t 16).asR.length+([(a2j b a c)]:LL).length)*96≤140737488355328)) <|
  c6z k a b c ((b.t 15).asR++([(S3_ e)]:LL)) ((b.t 16).asR++([(a2j b a c)]:LL))
def c4f (k:Nat) (a:Int) (e f:Bool) (g h:LL) (c:Outs) (l m n o p q u w x d:Int) (y z:LL):OO:=
 so_ [.i l,.i m,.i n,.r g,.i o,.i p,.i q,.i u,.i w,.r h,.i x,.b e,.b f,.r (c.t 13).asR,.r ((([]:LL)++(((a0j c a d).drop (0:Int).toNat).take (a.toNat - (0:Int).toNat)))++(((a0j c a d).drop (W64 (a+1)).toNat).take (((a0j c a d).length:Int).toNat - (W64 (a+1)).toNat))),.r y,.r z,.b true]
def b2r (k:Nat) (a:Int) (f g:Bool) (h l:LL) (b:Outs) (m n o p q u w x y c:Int) (z:Bool):OO:=
 bif z then
  chk (decide (0≤0)&&decide (0≤a)&&decide (a≤((a0j b a c).length:Int))) <|
  chk (decide ((([]:LL).length+(((a0j b a c).drop (0:Int).toNat).take (a.toNat - (0:Int).toNat)).length)*96≤140737488355328)) <|
  chk (decide (0≤(W64 (a+1)))&&decide ((W64 (a+1))≤((a0j b a c).length:Int))&&decide (((a0j b a c).length:Int)≤((a0j b a c).length:Int))) <|
  chk (decide (((([]:LL)++(((a0j b a c).drop (0:Int).toNat).take (a.toNat - (0:Int).toNat))).length+(((a0j b a c).drop (W64 (a+1)).toNat).take (((a0j b a c).length:Int).toNat - (W64 (a+1)).toNat)).length)*96≤140737488355328)) <|
  BK_ k N.j5p [.v (S4_ (at_ (b.t 14).asR a.toNat 1).asI c (at_ (b.t 14).asR a.toNat 6).asR)] fun d=>
  chk (decide (((b.t 15).asR.length+([(S3_ d)]:LL).length)*40≤140737488355328)) <|
  chk (decide (((b.t 16).asR.length+([(a2i b a c)]:LL).length)*96≤140737488355328)) <|
  c4f k a f g h l b m n o p q u w x y c ((b.t 15).asR++([(S3_ d)]:LL)) ((b.t 16).asR++([(a2i b a c)]:LL))
 else
  chk (decide (0≤0)&&decide (0≤a)&&decide (a≤((a0j b a c).length:Int))) <|
  chk (decide ((([]:LL).length+(((a0j b a c).drop (0:Int).toNat).take (a.toNat - (0:Int).toNat)).length)*96≤140737488355328)) <|
  chk (decide (0≤(W64 (a+1)))&&decide ((W64 (a+1))≤((a0j b a c).length:Int))&&decide (((a0j b a c).length:Int)≤((a0j b a c).length:Int))) <|
  chk (decide (((([]:LL)++(((a0j b a c).drop (0:Int).toNat).take (a.toNat - (0:Int).toNat))).length+(((a0j b a c).drop (W64 (a+1)).toNat).take (((a0j b a c).length:Int).toNat - (W64 (a+1)).toNat)).length)*96≤140737488355328)) <|
  BK_ k N.j5p [.v (S9_ (at_ (b.t 14).asR a.toNat 1).asI c)] fun e=>
  chk (decide (((b.t 15).asR.length+([(S3_ e)]:LL).length)*40≤140737488355328)) <|
  chk (decide (((b.t 16).asR.length+([(a2k b a c)]:LL).length)*96≤140737488355328)) <|
  c4f k a f g h l b m n o p q u w x y c ((b.t 15).asR++([(S3_ e)]:LL)) ((b.t 16).asR++([(a2k b a c)]:LL))
def b2s (k:Nat) (a:Int) (c:Outs) (e f g:Int) (h:LL) (l m n o p:Int) (q:LL) (u:Int) (w x:Bool) (d:Int):OO:=
 chk (decide (0≤a)&&decide (a<((c.t 14).asR.length:Int))) <|
 chk (Nat.beq a.toNat a.toNat) <|
 bif (d == 0) then
  so_ [.i e,.i f,.i g,.r h,.i l,.i m,.i n,.i o,.i p,.r q,.i u,.b w,.b x,.r (c.t 13).asR,.r (a0j c a d),.r (c.t 15).asR,.r (c.t 16).asR,.b true]
 else
  bif ((at_ (c.t 14).asR a.toNat 0).asI == 1) then
   b2r k a w x h q c e f g l m n o p u d (d == 0)
  else
   b2r k a w x h q c e f g l m n o p u d false
def c4g (k:Nat) (c:Int) (d a:Outs) (e f:LL):OO:=
 so_ (j4t a d ((([]:LL)++(((a0l d c a).drop (0:Int).toNat).take (c.toNat - (0:Int).toNat)))++(((a0l d c a).drop (W64 (c+1)).toNat).take (((a0l d c a).length:Int).toNat - (W64 (c+1)).toNat))) e f)
def b8a (k:Nat) (a:Int) (b c:Outs) (f:Bool):OO:=
 bif f then
  chk (decide (0≤0)&&decide (0≤a)&&decide (a≤((a0l b a c).length:Int))) <|
  chk (decide ((([]:LL).length+(((a0l b a c).drop (0:Int).toNat).take (a.toNat - (0:Int).toNat)).length)*96≤140737488355328)) <|
  chk (decide (0≤(W64 (a+1)))&&decide ((W64 (a+1))≤((a0l b a c).length:Int))&&decide (((a0l b a c).length:Int)≤((a0l b a c).length:Int))) <|
  chk (decide (((([]:LL)++(((a0l b a c).drop (0:Int).toNat).take (a.toNat - (0:Int).toNat))).length+(((a0l b a c).drop (W64 (a+1)).toNat).take (((a0l b a c).length:Int).toNat - (W64 (a+1)).toNat)).length)*96≤140737488355328)) <|
  BK_ k N.j5p [.v [.i (at_ (b.t 14).asR a.toNat 1).asI,.i (c.t 13).asI,.r (at_ (b.t 14).asR a.toNat 6).asR]] fun d=>
  chk (decide (((b.t 15).asR.length+([(S3_ d)]:LL).length)*40≤140737488355328)) <|
  chk (decide (((b.t 16).asR.length+([(a2h b a c)]:LL).length)*96≤140737488355328)) <|
  c4g k a b c ((b.t 15).asR++([(S3_ d)]:LL)) ((b.t 16).asR++([(a2h b a c)]:LL))
 else
  chk (decide (0≤0)&&decide (0≤a)&&decide (a≤((a0l b a c).length:Int))) <|
  chk (decide ((([]:LL).length+(((a0l b a c).drop (0:Int).toNat).take (a.toNat - (0:Int).toNat)).length)*96≤140737488355328)) <|
  chk (decide (0≤(W64 (a+1)))&&decide ((W64 (a+1))≤((a0l b a c).length:Int))&&decide (((a0l b a c).length:Int)≤((a0l b a c).length:Int))) <|
  chk (decide (((([]:LL)++(((a0l b a c).drop (0:Int).toNat).take (a.toNat - (0:Int).toNat))).length+(((a0l b a c).drop (W64 (a+1)).toNat).take (((a0l b a c).length:Int).toNat - (W64 (a+1)).toNat)).length)*96≤140737488355328)) <|
  BK_ k N.j5p [.v [.i (at_ (b.t 14).asR a.toNat 1).asI,.i (c.t 13).asI,.r []]] fun e=>
  chk (decide (((b.t 15).asR.length+([(S3_ e)]:LL).length)*40≤140737488355328)) <|
  chk (decide (((b.t 16).asR.length+([(a2j b a c)]:LL).length)*96≤140737488355328)) <|
  c4g k a b c ((b.t 15).asR++([(S3_ e)]:LL)) ((b.t 16).asR++([(a2j b a c)]:LL))
def b8b (k:Nat) (c:Int) (a:Outs) (d e:LL):OO:=
 so_ (j4s a ((([]:LL)++(((a0v a c).drop (0:Int).toNat).take (c.toNat - (0:Int).toNat)))++(((a0v a c).drop (W64 (c+1)).toNat).take (((a0v a c).length:Int).toNat - (W64 (c+1)).toNat))) d e)
def a6d (k:Nat) (a:Int) (b:Outs) (e:Bool):OO:=
 bif e then
  chk (Nat.beq a.toNat a.toNat) <|
  chk (decide (0≤0)&&decide (0≤a)&&decide (a≤((a0v b a).length:Int))) <|
  chk (decide ((([]:LL).length+(((a0v b a).drop (0:Int).toNat).take (a.toNat - (0:Int).toNat)).length)*96≤140737488355328)) <|
  chk (decide (0≤(W64 (a+1)))&&decide ((W64 (a+1))≤((a0v b a).length:Int))&&decide (((a0v b a).length:Int)≤((a0v b a).length:Int))) <|
  chk (decide (((([]:LL)++(((a0v b a).drop (0:Int).toNat).take (a.toNat - (0:Int).toNat))).length+(((a0v b a).drop (W64 (a+1)).toNat).take (((a0v b a).length:Int).toNat - (W64 (a+1)).toNat)).length)*96≤140737488355328)) <|
  BK_ k N.j5p [.v (S4_ (at_ (b.t 14).asR a.toNat 1).asI (at_ (b.t 14).asR a.toNat 7).asI (at_ (b.t 14).asR a.toNat 6).asR)] fun c=>
  chk (decide (((b.t 15).asR.length+([(S3_ c)]:LL).length)*40≤140737488355328)) <|
  chk (decide (((b.t 16).asR.length+([[.i (at_ (b.t 14).asR a.toNat 0).asI,.i (at_ (b.t 14).asR a.toNat 1).asI,.i (at_ (b.t 14).asR a.toNat 2).asI,.i (at_ (b.t 14).asR a.toNat 3).asI,.r (at_ (b.t 14).asR a.toNat 4).asR,.i (at_ (b.t 14).asR a.toNat 1).asI,.i (at_ (b.t 14).asR a.toNat 7).asI,.r (at_ (b.t 14).asR a.toNat 6).asR]]:LL).length)*96≤140737488355328)) <|
  b8b k a b ((b.t 15).asR++([(S3_ c)]:LL)) ((b.t 16).asR++([[.i (at_ (b.t 14).asR a.toNat 0).asI,.i (at_ (b.t 14).asR a.toNat 1).asI,.i (at_ (b.t 14).asR a.toNat 2).asI,.i (at_ (b.t 14).asR a.toNat 3).asI,.r (at_ (b.t 14).asR a.toNat 4).asR,.i (at_ (b.t 14).asR a.toNat 1).asI,.i (at_ (b.t 14).asR a.toNat 7).asI,.r (at_ (b.t 14).asR a.toNat 6).asR]]:LL))
 else
  chk (Nat.beq a.toNat a.toNat) <|
  chk (decide (0≤0)&&decide (0≤a)&&decide (a≤((a0v b a).length:Int))) <|
  chk (decide ((([]:LL).length+(((a0v b a).drop (0:Int).toNat).take (a.toNat - (0:Int).toNat)).length)*96≤140737488355328)) <|
  chk (decide (0≤(W64 (a+1)))&&decide ((W64 (a+1))≤((a0v b a).length:Int))&&decide (((a0v b a).length:Int)≤((a0v b a).length:Int))) <|
  chk (decide (((([]:LL)++(((a0v b a).drop (0:Int).toNat).take (a.toNat - (0:Int).toNat))).length+(((a0v b a).drop (W64 (a+1)).toNat).take (((a0v b a).length:Int).toNat - (W64 (a+1)).toNat)).length)*96≤140737488355328)) <|
  BK_ k N.j5p [.v (S9_ (at_ (b.t 14).asR a.toNat 1).asI (at_ (b.t 14).asR a.toNat 7).asI)] fun d=>
  chk (decide (((b.t 15).asR.length+([(S3_ d)]:LL).length)*40≤140737488355328)) <|
  chk (decide (((b.t 16).asR.length+([[.i (at_ (b.t 14).asR a.toNat 0).asI,.i (at_ (b.t 14).asR a.toNat 1).asI,.i (at_ (b.t 14).asR a.toNat 2).asI,.i (at_ (b.t 14).asR a.toNat 3).asI,.r (at_ (b.t 14).asR a.toNat 4).asR,.i (at_ (b.t 14).asR a.toNat 1).asI,.i (at_ (b.t 14).asR a.toNat 7).asI,.r []]]:LL).length)*96≤140737488355328)) <|
  b8b k a b ((b.t 15).asR++([(S3_ d)]:LL)) ((b.t 16).asR++([[.i (at_ (b.t 14).asR a.toNat 0).asI,.i (at_ (b.t 14).asR a.toNat 1).asI,.i (at_ (b.t 14).asR a.toNat 2).asI,.i (at_ (b.t 14).asR a.toNat 3).asI,.r (at_ (b.t 14).asR a.toNat 4).asR,.i (at_ (b.t 14).asR a.toNat 1).asI,.i (at_ (b.t 14).asR a.toNat 7).asI,.r []]]:LL))
def a7v (k:Nat) (c:Int) (a:Outs) (n:Bool):OO:=
 bif n then
  bif ((at_ (a.t 14).asR c.toNat 0).asI == 1) then
   BK_ k N.j6w [.v (a1s a),vi_ (W64 ((at_ (a.t 14).asR c.toNat 2).asI+(at_ (a.t 14).asR c.toNat 5).asI))] fun l=>
   bif ((l.t 1).asI == 0) then
    chk (decide (((at_ (a.t 14).asR c.toNat 6).asR.length+([[.i (l.t 0).asI]]:LL).length)*8≤140737488355328)) <|
    chk (decide (0≤c)&&decide (c<((a.t 14).asR.length:Int))) <|
    chk (Nat.beq c.toNat c.toNat) <|
    bif ((l.t 1).asI == 0) then
     c0o k a (a0r a c l)
    else
     bif ((at_ (a.t 14).asR c.toNat 0).asI == 1) then
      e0y k c a l ((l.t 1).asI == 0)
     else
      e0y k c a l false
   else
    b6h k c a ((l.t 1).asI)
  else
   bif ((at_ (a.t 14).asR c.toNat 0).asI == 4) then
    BK_ k N.j6x [.v (a1s a),vi_ (at_ (a.t 14).asR c.toNat 5).asI] fun d=>
    chk (decide (0≤c)&&decide (c<((a.t 14).asR.length:Int))) <|
    chk (Nat.beq c.toNat c.toNat) <|
    bif ((d.t 13).asI == 0) then
     so_ (j4b d a (a0l a c d))
    else
     bif ((at_ (a.t 14).asR c.toNat 0).asI == 1) then
      c0p k c a d ((d.t 13).asI == 0)
     else
      c0p k c a d false
   else
    bif ((at_ (a.t 14).asR c.toNat 0).asI == 5) then
     BK_ k N.j6w [.v (a1s a),vi_ (at_ (a.t 14).asR c.toNat 2).asI] fun m=>
     bif ((m.t 1).asI != 0) then
      b6h k c a ((m.t 1).asI)
     else
      chk (decide ((0:Int)<((at_ (a.t 14).asR c.toNat 4).asR.length:Int))) <|
      bif ((m.t 0).asI != (at_ (at_ (a.t 14).asR c.toNat 4).asR 0 0).asI) then
       b6h k c a 4
      else
       chk (decide ((1:Int)<((at_ (a.t 14).asR c.toNat 4).asR.length:Int))) <|
       BK_ k N.j5u [.v (a1s a),vi_ (at_ (a.t 14).asR c.toNat 2).asI,vi_ (at_ (at_ (a.t 14).asR c.toNat 4).asR 1 0).asI] fun f=>
       b2s k c a ((f.t 0).asI) ((f.t 1).asI) ((f.t 2).asI) ((f.t 3).asR) ((f.t 4).asI) ((f.t 5).asI) ((f.t 6).asI) ((f.t 7).asI) ((f.t 8).asI) ((f.t 9).asR) ((f.t 10).asI) ((f.t 11).asB) ((f.t 12).asB) ((f.t 13).asI)
    else
     bif ((at_ (a.t 14).asR c.toNat 0).asI == 6) then
      BK_ k N.j5u [.v (a1s a),vi_ (W64 ((at_ (a.t 14).asR c.toNat 2).asI+(at_ (a.t 14).asR c.toNat 5).asI)),vi_ 0] fun g=>
      b2s k c a ((g.t 0).asI) ((g.t 1).asI) ((g.t 2).asI) ((g.t 3).asR) ((g.t 4).asI) ((g.t 5).asI) ((g.t 6).asI) ((g.t 7).asI) ((g.t 8).asI) ((g.t 9).asR) ((g.t 10).asI) ((g.t 11).asB) ((g.t 12).asB) ((g.t 13).asI)
     else
      bif (decide ((at_ (a.t 14).asR c.toNat 5).asI<((at_ (a.t 14).asR c.toNat 4).asR.length:Int))) then
       chk (decide (0≤(at_ (a.t 14).asR c.toNat 5).asI)&&decide ((at_ (a.t 14).asR c.toNat 5).asI<((at_ (a.t 14).asR c.toNat 4).asR.length:Int))) <|
       BK_ k N.j5u [.v (a1s a),vi_ (W64 ((at_ (a.t 14).asR c.toNat 2).asI+(at_ (a.t 14).asR c.toNat 5).asI)),vi_ (at_ (at_ (a.t 14).asR c.toNat 4).asR (at_ (a.t 14).asR c.toNat 5).asI.toNat 0).asI] fun h=>
       b2s k c a ((h.t 0).asI) ((h.t 1).asI) ((h.t 2).asI) ((h.t 3).asR) ((h.t 4).asI) ((h.t 5).asI) ((h.t 6).asI) ((h.t 7).asI) ((h.t 8).asI) ((h.t 9).asR) ((h.t 10).asI) ((h.t 11).asB) ((h.t 12).asB) ((h.t 13).asI)
      else
       BK_ k N.j6h [.v (j3g a),vi_ (at_ (a.t 14).asR c.toNat 2).asI] fun o=>
       BK_ k N.j6x [.v (a1s a),vi_ (W64 ((W64 ((o.t 0).asI+(at_ (a.t 14).asR c.toNat 5).asI)) - ((at_ (a.t 14).asR c.toNat 4).asR.length:Int)))] fun e=>
       chk (decide (0≤c)&&decide (c<((a.t 14).asR.length:Int))) <|
       chk (Nat.beq c.toNat c.toNat) <|
       bif ((e.t 13).asI == 0) then
        so_ (j4b e a (a0l a c e))
       else
        bif ((at_ (a.t 14).asR c.toNat 0).asI == 1) then
         b8a k c a e ((e.t 13).asI == 0)
        else
         b8a k c a e false
 else
  bif ((at_ (a.t 14).asR c.toNat 0).asI == 1) then
   a6d k c a ((at_ (a.t 14).asR c.toNat 7).asI == 0)
  else
   a6d k c a false
def a7w (k:Nat) (c:Int) (a:Outs) (d:Bool):OO:=
 bif d then
  so_ (j3f a)
 else
  chk (decide (0≤c)&&decide (c<((a.t 14).asR.length:Int))) <|
  BK_ k N.j8k [.v (j3g a),.v (S5_ (at_ (a.t 14).asR c.toNat 0).asI (at_ (a.t 14).asR c.toNat 1).asI (at_ (a.t 14).asR c.toNat 2).asI (at_ (a.t 14).asR c.toNat 3).asI (at_ (a.t 14).asR c.toNat 4).asR)] fun e=>
  bif (decide ((at_ (a.t 14).asR c.toNat 5).asI<(W64 ((e.t 0).asI - 1)))) then
   a7v k c a ((at_ (a.t 14).asR c.toNat 7).asI == 0)
  else
   a7v k c a false
def e8e (k:Nat) (f g h:Int) (l:LL) (m n o p q:Int) (u:LL) (w:Int) (x y:Bool) (z c A d:LL) (a:Int):OO:=
 BK_ k N.j5t [.v (S1_ f g h l m n o p q u w x y z c A d)] fun e=>
 BK_ k N.j7o [.v (S1_ f g h l m n o p q u w x y z c A d)] fun B=>
 bif (!(B.t 0).asB) then
  a7w k a e true
 else
  BK_ k N.j5l [vi_ a,vi_ 0,vi_ (W64 ((c.length:Int) - 1))] fun C=>
  bif (!(C.t 0).asB) then
   a7w k a e true
  else
   a7w k a e (decide ((d.length:Int)≥400))
theorem g9y (k:Nat) (a c d:Int) (e:LL) (f g h l m:Int) (n:LL) (o:Int) (p q:Bool) (t u w x:LL) (y:Int):a0a E P0 (k+1) N.k1y [.v (S1_ a c d e f g h l m n o p q t u w x),vi_ y]=e8e k a c d e f g h l m n o p q t u w x y:=by kernel_rfl
def a5r (k:Nat) (c d:Bool) (A e f g h l m n o p:Int) (q u w x y z:LL) (B:(V4_)→OO) (C:Bool):OO:=
 bif C then
  BK_ k N.k1y [.v (S1_ e f g q h l m n o u p c d w x y z),vi_ 0] fun a=>
  bif (!(a.t 17).asB) then
   so_ (S1_ e f g q h l m n o u p c d w x y z)
  else
   B ((W64 (A+1)),(a.t 0).asI,(a.t 1).asI,(a.t 2).asI,(a.t 4).asI,(a.t 5).asI,(a.t 6).asI,(a.t 7).asI,(a.t 8).asI,(a.t 10).asI,(a.t 11).asB,(a.t 12).asB,(a.t 3).asR,(a.t 9).asR,(a.t 13).asR,(a.t 14).asR,(a.t 15).asR,(a.t 16).asR)
 else
  so_ (S1_ e f g q h l m n o u p c d w x y z)
def a4h (k:Nat) (z:Int) (c:(V4_)→OO):(V4_)→OO:=fun (a,d,e,f,g,h,l,m,n,o,p,q,r,u,w,b,x,y)=>
 BK_ k N.j5l [vi_ z,vi_ 0,vi_ 1000] fun A=>
 bif (A.t 0).asB then
  bif (decide (a<z)) then
   a5r k p q a d e f g h l m n o r u w b x y c (decide ((b.length:Int) > 0))
  else
   a5r k p q a d e f g h l m n o r u w b x y c false
 else
  a5r k p q a d e f g h l m n o r u w b x y c false
def e8f:List Nat:=[1,4,5,6,35]
def e8g (a:Int):(V4_)→St:=fun (c,d,e,f,g,h,l,m,n,o,p,q,r,t,u,w,x,y)=>ST_ [(1,.w_ a),(4,.ptr (4,0) 0),(5,.ptr (5,0) 0),(6,.w_ c),(35,.skip)] [((4,0),.var [.w_ 0,.w_ 0,.w_ 0,.ref (4,4),.w_ 0,.w_ 0,.w_ 0,.w_ 0,.w_ 0,.ref (4,10),.w_ 0,.b false,.b false,.ref (4,14),.ref (4,15),.ref (4,16),.ref (4,17)]),((4,4),.row 134 true []),((4,10),.row 136 true []),((4,14),.row 92 true []),((4,15),.row 95 true []),((4,16),.row 96 true []),((4,17),.row 99 true []),((5,0),.var [.w_ d,.w_ e,.w_ f,.ref (5,4),.w_ g,.w_ h,.w_ l,.w_ m,.w_ n,.ref (5,10),.w_ o,.b p,.b q,.ref (5,14),.ref (5,15),.ref (5,16),.ref (5,17)]),((5,4),.row 134 true r),((5,10),.row 136 true t),((5,14),.row 92 true u),((5,15),.row 95 true w),((5,16),.row 96 true x),((5,17),.row 99 true y)]
def c1n (k:Nat) (c d e:Int) (f:LL) (g h l m n:Int) (o:LL) (p:Int) (q u:Bool) (w x y z:LL) (B:Int) (A:(V4_)→OO):OO:=
 BK_ k N.j5t [.v (S1_ c d e f g h l m n o p q u w x y z)] fun a=>
 A (0,(a.t 0).asI,(a.t 1).asI,(a.t 2).asI,(a.t 4).asI,(a.t 5).asI,(a.t 6).asI,(a.t 7).asI,(a.t 8).asI,(a.t 10).asI,(a.t 11).asB,(a.t 12).asB,(a.t 3).asR,(a.t 9).asR,(a.t 13).asR,(a.t 14).asR,(a.t 15).asR,(a.t 16).asR)
def d0s (k:Nat) (b c d:Int) (e:LL) (f g h i l:Int) (m:LL) (n:Int) (o p:Bool) (q r t u:LL) (a:Int):OO:=
 c1n k b c d e f g h i l m n o p q r t u a (fun v=>a1i (a4h k a) k v)
theorem f4a (k:Nat) (c d e:Int) (f:LL) (g h l m n:Int) (o:LL) (p:Int) (q t:Bool) (u w x y:LL) (a:Int):a0a E P0 (k+1) N.k1z [.v (S1_ c d e f g h l m n o p q t u w x y),vi_ a]=d0s k c d e f g h l m n o p q t u w x y a:=a1y [] [.sr,.sr,.sl,.sr,.bl] e8f (c1n k c d e f g h l m n o p q t u w x y a) (e8g a) (a4h k a) (by kernel_rfl) (fun j v=>by kernel_rfl)
def a8p (k:Nat) (d e:Bool) (B f g h l m n o p q:Int) (u w x y z A:LL) (C:(V7_)→OO) (F:Bool):OO:=
 bif F then
  BK_ k N.k1f [.v (S1_ f g h u l m n o p w q d e x y z A)] fun D=>
  bif (decide ((D.t 0).asI≥0)) then
   BK_ k N.k1g [.v (S1_ f g h u l m n o p w q d e x y z A),vi_ (D.t 0).asI] fun a=>
   C ((W64 (B+1)),(a.t 0).asI,(a.t 1).asI,(a.t 2).asI,(a.t 3).asR,(a.t 4).asI,(a.t 5).asI,(a.t 6).asI,(a.t 7).asI,(a.t 8).asI,(a.t 9).asR,(a.t 10).asI,(a.t 11).asB,(a.t 12).asB,(a.t 13).asR,(a.t 14).asR,[],(a.t 16).asR)
  else
   BK_ k N.k1z [.v (S1_ f g h u l m n o p w q d e x y z A),vi_ 200] fun c=>
   C ((W64 (B+1)),(c.t 0).asI,(c.t 1).asI,(c.t 2).asI,(c.t 3).asR,(c.t 4).asI,(c.t 5).asI,(c.t 6).asI,(c.t 7).asI,(c.t 8).asI,(c.t 9).asR,(c.t 10).asI,(c.t 11).asB,(c.t 12).asB,(c.t 13).asR,(c.t 14).asR,[],(c.t 16).asR)
 else
  so_ (S1_ f g h u l m n o p w q d e x y z A)
def b2t (k:Nat) (A:(V7_)→OO):(V7_)→OO:=fun (d,e,f,g,h,l,m,n,o,p,q,u,w,x,a,c,y,z)=>
 bif (decide (d<60)) then
  BK_ k N.j7o [.v (S1_ e f g h l m n o p q u w x a c y z)] fun B=>
  bif (B.t 0).asB then
   a8p k w x d e f g l m n o p u h q a c y z A (decide ((W64 ((a.length:Int)+(c.length:Int))) > 0))
  else
   a8p k w x d e f g l m n o p u h q a c y z A false
 else
  a8p k w x d e f g l m n o p u h q a c y z A false
def g1f:List Nat:=[2,3,4,40]
def g1g:(V7_)→St:=fun (a,c,d,e,f,g,h,l,m,n,o,p,q,r,t,u,w,x)=>ST_ [(2,.ptr (2,0) 0),(3,.ptr (3,0) 0),(4,.w_ a),(40,.skip)] [((2,0),.var [.w_ 0,.w_ 0,.w_ 0,.sl 134 [],.w_ 0,.w_ 0,.w_ 0,.w_ 0,.w_ 0,.sl 136 [],.w_ 0,.b false,.b false,.sl 92 [],.sl 95 [],.sl 96 [],.sl 99 []]),((3,0),.var [.w_ c,.w_ d,.w_ e,.sl 134 f,.w_ g,.w_ h,.w_ l,.w_ m,.w_ n,.sl 136 o,.w_ p,.b q,.b r,.sl 92 t,.sl 95 u,.sl 96 w,.sl 99 x])]
def c7a (k:Nat) (c d e:Int) (f:LL) (g h l m n:Int) (o:LL) (p:Int) (q u:Bool) (w x y z:LL) (A:(V7_)→OO):OO:=
 BK_ k N.j5t [.v (S1_ c d e f g h l m n o p q u w x y z)] fun a=>
 A (0,(a.t 0).asI,(a.t 1).asI,(a.t 2).asI,(a.t 3).asR,(a.t 4).asI,(a.t 5).asI,(a.t 6).asI,(a.t 7).asI,(a.t 8).asI,(a.t 9).asR,(a.t 10).asI,(a.t 11).asB,(a.t 12).asB,(a.t 13).asR,(a.t 14).asR,(a.t 15).asR,(a.t 16).asR)
def e0z (k:Nat) (a b c:Int) (d:LL) (e f g h i:Int) (l:LL) (m:Int) (n o:Bool) (p q r t:LL):OO:=
 c7a k a b c d e f g h i l m n o p q r t (fun v=>a1i (b2t k) k v)
theorem g6j (k:Nat) (a c d:Int) (e:LL) (f g h l m:Int) (n:LL) (o:Int) (p q:Bool) (t u w x:LL):a0a E P0 (k+1) N.k2a [.v (S1_ a c d e f g h l m n o p q t u w x)]=e0z k a c d e f g h l m n o p q t u w x:=a1y [] [.sr,.sr,.sl,.sr,.bl] g1f (c7a k a c d e f g h l m n o p q t u w x) (g1g) (b2t k) (by kernel_rfl) (fun j v=>by kernel_rfl)
def c7b (k:Nat) (a:LL):OO:=
 chk (decide ((([]:LL).length+a.length)*8≤140737488355328)) <|
 so_ [.r (([]:LL)++a)]
theorem e8h (k:Nat) (a:LL):a0a E P0 (k+1) N.j5n [vr_ a]=c7b k a:=by kernel_rfl
def a4i (k:Nat) (c:LL) (f:Bool) (g:Outs) (h:LL) (l:(V0_)→OO):(V0_)→OO:=fun (a,d)=>
 bif (decide (a<(c.length:Int))) then
  chk (decide (0≤a)&&decide (a<(c.length:Int))) <|
  a0f (a0a E P0 k N.j5n [.v [.r (at_ c a.toNat 1).asR]]) fun e=>
  chk (decide ((d.length+([[.i (at_ c a.toNat 0).asI,.r (e.t 0).asR]]:LL).length)*32≤140737488355328)) <|
  l ((W64 (a+1)),(d++([[.i (at_ c a.toNat 0).asI,.r (e.t 0).asR]]:LL)))
 else
  some ⟨[.r h,.r d,.b f,.r (g.t 0).asR],[]⟩
def e8i:List Nat:=[2,3,30,31,32,48]
def a7x (a:LL) (c:Bool) (d:Outs) (e:LL):(V0_)→St:=fun (f,g)=>⟨a3k [(2,.ptr (2,0) 0),(3,.ptr (3,0) 0),(30,.sl 157 a),(31,.i .i64 (a.length:Int)),(32,.i .i64 f),(48,.skip)],Mem.put (a1e [((2,0),.var [.ref (2,1),.ref (2,2),.b false,.ref (2,4)]),((2,1),.deep 79 [] none),((2,2),.deep 157 [] none),((2,4),.row 3 true []),((3,0),.var [.ref (3,1),.ref (3,2),.b c,.ref (3,4)]),((3,1),.deep 79 e none),((3,2),.deep 157 g none),((3,4),.row 3 true (d.t 0).asR)]) a3l .dead⟩
def b2u (k:Nat) (b h:LL) (i:Bool) (l:LL) (e:Outs) (f:Outs→LL→(V0_)→OO) (g:(V0_)→OO):(V0_)→OO:=fun (a,c)=>
 bif (decide (a<(b.length:Int))) then
  chk (decide (0≤a)&&decide (a<(b.length:Int))) <|
  a0f (a0a E P0 k N.j5n [.v [.r (at_ b a.toNat 0).asR]]) fun d=>
  chk (decide ((c.length+([[.r (d.t 0).asR]]:LL).length)*24≤140737488355328)) <|
  g ((W64 (a+1)),(c++([[.r (d.t 0).asR]]:LL)))
 else
  f e c (0,[])
def e8j:List Nat:=[1,2,3,7,15,16,17,29,30,31,32,33,34,35,36,37,38,39,40,41,42,43,44,45,46,47,48]
def a7y (a d:LL) (c:Bool) (e:LL) (f:Outs):(V0_)→St:=fun (g,h)=>⟨a3k [(1,.ptr (1,0) 0),(2,.ptr (2,0) 0),(3,.ptr (3,0) 0),(7,.skip),(15,.sl 79 a),(16,.i .i64 (a.length:Int)),(17,.i .i64 g),(29,.skip),(30,.skip),(31,.skip),(32,.skip),(33,.skip),(34,.skip),(35,.skip),(36,.skip),(37,.skip),(38,.skip),(39,.skip),(40,.skip),(41,.skip),(42,.skip),(43,.skip),(44,.skip),(45,.skip),(46,.skip),(47,.skip),(48,.skip)],Mem.put (a1e [((1,0),.var [.sl 79 a,.sl 157 d,.b c,.sl 3 e]),((2,0),.var [.ref (2,1),.ref (2,2),.b false,.ref (2,4)]),((2,1),.deep 79 [] none),((2,2),.deep 157 [] none),((2,4),.row 3 true []),((3,0),.var [.ref (3,1),.ref (3,2),.b c,.ref (3,4)]),((3,1),.deep 79 h none),((3,2),.deep 157 [] none),((3,4),.row 3 true (f.t 0).asR)]) a3l .dead⟩
def a5s (k:Nat) (c a:LL) (b:Bool) (d:LL) (e:Outs) (f:(V0_)→OO):(V0_)→OO:=
 b2u k c a b d e (fun g h v=>a1i (a4i k a b g h) k v) f
def c1o (k:Nat) (d e:LL) (f:Bool) (a:LL) (b:Outs→(V0_)→OO):OO:=
 a0f (a0a E P0 k N.j5n [.v [.r a]]) fun c=>
 b c (0,[])
def c1p (k:Nat) (a b:LL) (c:Bool) (d:LL):OO:=
 c1o k a b c d (fun e v=>a1i (a5s k a b c d e) k v)
def b0e (k:Nat) (a c:LL) (d:Bool) (e:LL) (js:List Nat) (j:Nat) (s:St):OO:=IT_ k N.j6i [.v [.r a,.r c,.b d,.r e]] [] [.sr,.sr,.sl,.sr,.bl] e8j js j s
def b0f (k:Nat) (a c:LL) (d:Bool) (e:LL) (js:List Nat) (j:Nat) (s:St):OO:=IT_ k N.j6i [.v [.r a,.r c,.b d,.r e]] [] [.sr,.sr,.sr,.sl,.sr,.bl] e8i js j s
theorem f4b (k:Nat) (e a:LL) (c:Bool) (f:LL):a0a E P0 (k+1) N.j6i [.v [.r e,.r a,.b c,.r f]]=c1p k e a c f:=by
 have m:a0a E P0 (k+1) N.j6i [.v [.r e,.r a,.b c,.r f]]=c1o k e a c f (fun l v=>b0e k e a c f [] k (a7y e a c f l v)):=by kernel_rfl
 have n:∀ (d:Outs) (g:LL) (h:Nat) (v:V0_),b0f k e a c f [] (h+1) (a7x a c d g v)=a4i k a c d g (fun v=>b0f k e a c f [] h (a7x a c d g v)) v:=by
  intro d g h v;kernel_rfl
 have o:∀ (d:Outs) (g:LL) (h:Nat) (v:V0_),b0f k e a c f [] h (a7x a c d g v)=a1i (a4i k a c d g) h v:=by
  intro d g h v;refine a1p (a7x a c d g) (a4i k a c d g) (fun h v=>(n d g h v).trans ?_) h v;unfold a4i;rfl
 have p:∀ (d:Outs) (i:Nat) (v:V0_),b0e k e a c f [] (i+1) (a7y e a c f d v)=b2u k e a c f d (fun l q v=>b0f k e a c f [] k (a7x a c l q v)) (fun v=>b0e k e a c f [] i (a7y e a c f d v)) v:=by
  intro d i v;kernel_rfl
 have t:∀ (d:Outs) (i:Nat) (v:V0_),b0e k e a c f [] i (a7y e a c f d v)=a1i (a5s k e a c f d) i v:=by
  intro d i v;refine a1p (a7y e a c f d) (a5s k e a c f d) (fun i v=>(p d i v).trans ?_) i v;unfold a5s;simp only [o] <;> rfl
 rw [m];unfold c1p;simp only [t]
def b0g (k:Nat) (d:LL) (f:(V0_)→OO):(V0_)→OO:=fun (a,e)=>
 bif (decide (a<(d.length:Int))) then
  chk (decide (0≤a)&&decide (a<(d.length:Int))) <|
  a0f (a0a E P0 k N.j6i [.v [.r (at_ d a.toNat 0).asR,.r (at_ d a.toNat 1).asR,.b (at_ d a.toNat 2).asB,.r (at_ d a.toNat 3).asR]]) fun c=>
  chk (decide ((e.length+([[.r (c.t 0).asR,.r (c.t 1).asR,.b (c.t 2).asB,.r (c.t 3).asR]]:LL).length)*80≤140737488355328)) <|
  f ((W64 (a+1)),(e++([[.r (c.t 0).asR,.r (c.t 1).asR,.b (c.t 2).asB,.r (c.t 3).asR]]:LL)))
 else
  some ⟨[.r e],[]⟩
def e2h:List Nat:=[2,3,7,8,9,19]
def e2i (a:LL):(V0_)→St:=fun (b,c)=>⟨a3k [(2,.ref (2,0)),(3,.ref (3,0)),(7,.sl 134 a),(8,.i .i64 (a.length:Int)),(9,.i .i64 b),(19,.skip)],Mem.put (a1e [((2,0),.deep 134 [] none),((3,0),.deep 134 c none)]) a3l .dead⟩
def b9b (k:Nat) (b:LL) (a:(V0_)→OO):OO:=
 a (0,[])
def c7c (k:Nat) (a:LL):OO:=
 b9b k a (fun v=>a1i (b0g k a) k v)
theorem e8k (k:Nat) (a:LL):a0a E P0 (k+1) N.k2b [.v [.r a]]=c7c k a:=a1y [] [.sr,.sr,.sl,.sr,.bl] e2h (b9b k a) (e2i a) (b0g k a) (by kernel_rfl) (fun j v=>by kernel_rfl)
def b2v (k:Nat) (f g h:Int) (l:LL) (m n o p q:Int) (c:LL) (u:Int) (w x:Bool) (y:(V0_)→OO):(V0_)→OO:=fun (a,d)=>
 bif (decide (a<(c.length:Int))) then
  chk (decide (0≤a)&&decide (a<(c.length:Int))) <|
  a0f (a0a E P0 k N.j5n [.v [.r (at_ c a.toNat 1).asR]]) fun e=>
  chk (decide ((d.length+([[.i (at_ c a.toNat 0).asI,.r (e.t 0).asR]]:LL).length)*32≤140737488355328)) <|
  y ((W64 (a+1)),(d++([[.i (at_ c a.toNat 0).asI,.r (e.t 0).asR]]:LL)))
 else
  a0f (a0a E P0 k N.k2b [.v [.r l]]) fun z=>
  some ⟨[.i f,.i g,.i h,.r (z.t 0).asR,.i m,.i n,.i o,.i p,.i q,.r d,.i u,.b w,.b x],[]⟩
def e8l:List Nat:=[1,2,3,8,9,10,24,25,26,27,28,29,30]
def e8m (c d e:Int) (f:LL) (g h l m n:Int) (a:LL) (o:Int) (p q:Bool):(V0_)→St:=fun (r,t)=>⟨a3k [(1,.ptr (1,0) 0),(2,.ptr (2,0) 0),(3,.ref (3,0)),(8,.sl 136 a),(9,.i .i64 (a.length:Int)),(10,.i .i64 r),(24,.skip),(25,.skip),(26,.skip),(27,.skip),(28,.skip),(29,.skip),(30,.skip)],Mem.put (a1e [((1,0),.var [.i .i64 c,.i .i64 d,.i .i64 e,.sl 134 f,.i .i64 g,.i .i64 h,.i .i64 l,.i .i64 m,.i .i64 n,.sl 136 a,.i .i64 o,.b p,.b q]),((2,0),.var [.i .i64 0,.i .i64 0,.i .i64 0,.ref (2,4),.i .i64 0,.i .i64 0,.i .i64 0,.i .i64 0,.i .i64 0,.ref (2,10),.i .i64 0,.b false,.b false]),((2,4),.deep 134 [] none),((2,10),.deep 136 [] none),((3,0),.deep 136 t none)]) a3l .dead⟩
def c1q (k:Nat) (b c d:Int) (e:LL) (f g h i l:Int) (m:LL) (n:Int) (o p:Bool) (a:(V0_)→OO):OO:=
 a (0,[])
def d0t (k:Nat) (a b c:Int) (d:LL) (e f g h i:Int) (l:LL) (m:Int) (n o:Bool):OO:=
 c1q k a b c d e f g h i l m n o (fun v=>a1i (b2v k a b c d e f g h i l m n o) k v)
theorem f4c (k:Nat) (a c d:Int) (e:LL) (f g h l m:Int) (n:LL) (o:Int) (p q:Bool):a0a E P0 (k+1) N.j6c [.v [.i a,.i c,.i d,.r e,.i f,.i g,.i h,.i l,.i m,.r n,.i o,.b p,.b q]]=d0t k a c d e f g h l m n o p q:=a1y [] [.sr,.sr,.sl,.sr,.bl] e8l (c1q k a c d e f g h l m n o p q) (e8m a c d e f g h l m n o p q) (b2v k a c d e f g h l m n o p q) (by kernel_rfl) (fun j v=>by kernel_rfl)
def d0u (k:Nat) (a b c d:Int) (e:LL):OO:=
 a0f (a0a E P0 k N.j5n [.v [.r e]]) fun f=>
 some ⟨[.i a,.i b,.i c,.i d,.r (f.t 0).asR],[]⟩
theorem f4d (k:Nat) (a b c d:Int) (e:LL):a0a E P0 (k+1) N.j6y [.v [.i a,.i b,.i c,.i d,.r e]]=d0u k a b c d e:=by kernel_rfl
def d0v (k:Nat) (a b:Int) (c:LL):OO:=
 a0f (a0a E P0 k N.j5n [.v [.r c]]) fun d=>
 some ⟨[.i a,.i b,.r (d.t 0).asR],[]⟩
theorem f4e (k:Nat) (a b:Int) (c:LL):a0a E P0 (k+1) N.j7s [.v [.i a,.i b,.r c]]=d0v k a b c:=by kernel_rfl
def a4j (k:Nat) (d:LL) (a:Outs) (h l m:LL) (n:(V0_)→OO):(V0_)→OO:=fun (c,g)=>
 bif (decide (c<(d.length:Int))) then
  chk (decide (0≤c)&&decide (c<(d.length:Int))) <|
  a0f (a0a E P0 k N.j6y [.v [.i (at_ d c.toNat 0).asI,.i (at_ d c.toNat 1).asI,.i (at_ d c.toNat 2).asI,.i (at_ d c.toNat 3).asI,.r (at_ d c.toNat 4).asR]]) fun e=>
  a0f (a0a E P0 k N.j7s [.v [.i (at_ d c.toNat 5).asI,.i (at_ d c.toNat 6).asI,.r (at_ d c.toNat 7).asR]]) fun f=>
  chk (decide ((g.length+([[.i (e.t 0).asI,.i (e.t 1).asI,.i (e.t 2).asI,.i (e.t 3).asI,.r (e.t 4).asR,.i (f.t 0).asI,.i (f.t 1).asI,.r (f.t 2).asR]]:LL).length)*96≤140737488355328)) <|
  n ((W64 (c+1)),(g++([[.i (e.t 0).asI,.i (e.t 1).asI,.i (e.t 2).asI,.i (e.t 3).asI,.r (e.t 4).asR,.i (f.t 0).asI,.i (f.t 1).asI,.r (f.t 2).asR]]:LL)))
 else
  some ⟨[.i (a.t 0).asI,.i (a.t 1).asI,.i (a.t 2).asI,.r (a.t 3).asR,.i (a.t 4).asI,.i (a.t 5).asI,.i (a.t 6).asI,.i (a.t 7).asI,.i (a.t 8).asI,.r (a.t 9).asR,.i (a.t 10).asI,.b (a.t 11).asB,.b (a.t 12).asB,.r h,.r l,.r m,.r g],[]⟩
def e8n:List Nat:=[2,3,71,72,73,90]
def a7z (c:LL) (a:Outs) (d e f:LL):(V0_)→St:=fun (g,h)=>⟨a3k [(2,.ptr (2,0) 0),(3,.ptr (3,0) 0),(71,.sl 99 c),(72,.i .i64 (c.length:Int)),(73,.i .i64 g),(90,.skip)],Mem.put (a1e [((2,0),.var [.i .i64 0,.i .i64 0,.i .i64 0,.ref (2,4),.i .i64 0,.i .i64 0,.i .i64 0,.i .i64 0,.i .i64 0,.ref (2,10),.i .i64 0,.b false,.b false,.ref (2,14),.ref (2,15),.ref (2,16),.ref (2,17)]),((2,4),.deep 134 [] none),((2,10),.deep 136 [] none),((2,14),.deep 92 [] none),((2,15),.deep 95 [] none),((2,16),.deep 96 [] none),((2,17),.deep 99 [] none),((3,0),.var [.i .i64 (a.t 0).asI,.i .i64 (a.t 1).asI,.i .i64 (a.t 2).asI,.ref (3,4),.i .i64 (a.t 4).asI,.i .i64 (a.t 5).asI,.i .i64 (a.t 6).asI,.i .i64 (a.t 7).asI,.i .i64 (a.t 8).asI,.ref (3,10),.i .i64 (a.t 10).asI,.b (a.t 11).asB,.b (a.t 12).asB,.ref (3,14),.ref (3,15),.ref (3,16),.ref (3,17)]),((3,4),.deep 134 (a.t 3).asR none),((3,10),.deep 136 (a.t 9).asR none),((3,14),.deep 92 d none),((3,15),.deep 95 e none),((3,16),.deep 96 f none),((3,17),.deep 99 h none)]) a3l .dead⟩
def b2w (k:Nat) (m n o:Int) (p:LL) (q u w x y:Int) (z:LL) (A:Int) (B C:Bool) (D F c G:LL) (e:Outs) (f g:LL) (h:Outs→LL→LL→LL→(V0_)→OO) (l:(V0_)→OO):(V0_)→OO:=fun (a,d)=>
 bif (decide (a<(c.length:Int))) then
  chk (decide (0≤a)&&decide (a<(c.length:Int))) <|
  a0f (a0a E P0 k N.j7s [.v [.i (at_ c a.toNat 0).asI,.i (at_ c a.toNat 1).asI,.r (at_ c a.toNat 2).asR]]) fun b=>
  chk (decide ((d.length+([[.i (b.t 0).asI,.i (b.t 1).asI,.r (b.t 2).asR]]:LL).length)*40≤140737488355328)) <|
  l ((W64 (a+1)),(d++([[.i (b.t 0).asI,.i (b.t 1).asI,.r (b.t 2).asR]]:LL)))
 else
  h e f g d (0,[])
def e8o:List Nat:=[1,2,3,11,56,57,58,70,71,72,73,74,75,76,77,78,79,80,81,82,83,84,85,86,87,88,89,90]
def a8a (d e f:Int) (g:LL) (h l m n o:Int) (p:LL) (q:Int) (r u:Bool) (w x c y:LL) (a:Outs) (z A:LL):(V0_)→St:=fun (B,C)=>⟨a3k [(1,.ptr (1,0) 0),(2,.ptr (2,0) 0),(3,.ptr (3,0) 0),(11,.skip),(56,.sl 96 c),(57,.i .i64 (c.length:Int)),(58,.i .i64 B),(70,.skip),(71,.skip),(72,.skip),(73,.skip),(74,.skip),(75,.skip),(76,.skip),(77,.skip),(78,.skip),(79,.skip),(80,.skip),(81,.skip),(82,.skip),(83,.skip),(84,.skip),(85,.skip),(86,.skip),(87,.skip),(88,.skip),(89,.skip),(90,.skip)],Mem.put (a1e [((1,0),.var [.i .i64 d,.i .i64 e,.i .i64 f,.sl 134 g,.i .i64 h,.i .i64 l,.i .i64 m,.i .i64 n,.i .i64 o,.sl 136 p,.i .i64 q,.b r,.b u,.sl 92 w,.sl 95 x,.sl 96 c,.sl 99 y]),((2,0),.var [.i .i64 0,.i .i64 0,.i .i64 0,.ref (2,4),.i .i64 0,.i .i64 0,.i .i64 0,.i .i64 0,.i .i64 0,.ref (2,10),.i .i64 0,.b false,.b false,.ref (2,14),.ref (2,15),.ref (2,16),.ref (2,17)]),((2,4),.deep 134 [] none),((2,10),.deep 136 [] none),((2,14),.deep 92 [] none),((2,15),.deep 95 [] none),((2,16),.deep 96 [] none),((2,17),.deep 99 [] none),((3,0),.var [.i .i64 (a.t 0).asI,.i .i64 (a.t 1).asI,.i .i64 (a.t 2).asI,.ref (3,4),.i .i64 (a.t 4).asI,.i .i64 (a.t 5).asI,.i .i64 (a.t 6).asI,.i .i64 (a.t 7).asI,.i .i64 (a.t 8).asI,.ref (3,10),.i .i64 (a.t 10).asI,.b (a.t 11).asB,.b (a.t 12).asB,.ref (3,14),.ref (3,15),.ref (3,16),.ref (3,17)]),((3,4),.deep 134 (a.t 3).asR none),((3,10),.deep 136 (a.t 9).asR none),((3,14),.deep 92 z none),((3,15),.deep 95 A none),((3,16),.deep 96 C none),((3,17),.deep 99 [] none)]) a3l .dead⟩
def b2x (k:Nat) (m n o:Int) (p:LL) (q u w x y:Int) (z:LL) (A:Int) (B C:Bool) (D b F G:LL) (f:Outs) (g:LL) (h:Outs→LL→LL→(V0_)→OO) (l:(V0_)→OO):(V0_)→OO:=fun (a,d)=>
 bif (decide (a<(b.length:Int))) then
  chk (decide (0≤a)&&decide (a<(b.length:Int))) <|
  a0f (a0a E P0 k N.j6y [.v [.i (at_ b a.toNat 0).asI,.i (at_ b a.toNat 1).asI,.i (at_ b a.toNat 2).asI,.i (at_ b a.toNat 3).asI,.r (at_ b a.toNat 4).asR]]) fun c=>
  a0f (a0a E P0 k N.j5n [.v [.r (at_ b a.toNat 6).asR]]) fun e=>
  chk (decide ((d.length+([[.i (c.t 0).asI,.i (c.t 1).asI,.i (c.t 2).asI,.i (c.t 3).asI,.r (c.t 4).asR,.i (at_ b a.toNat 5).asI,.r (e.t 0).asR,.i (at_ b a.toNat 7).asI]]:LL).length)*96≤140737488355328)) <|
  l ((W64 (a+1)),(d++([[.i (c.t 0).asI,.i (c.t 1).asI,.i (c.t 2).asI,.i (c.t 3).asI,.r (c.t 4).asR,.i (at_ b a.toNat 5).asI,.r (e.t 0).asR,.i (at_ b a.toNat 7).asI]]:LL)))
 else
  h f g d (0,[])
def e8p:List Nat:=[1,2,3,9,11,32,33,34,55,56,57,58,59,60,61,62,63,64,65,66,67,68,69,70,71,72,73,74,75,76,77,78,79,80,81,82,83,84,85,86,87,88,89,90]
def a8b (d e f:Int) (g:LL) (h l m n o:Int) (p:LL) (q:Int) (r u:Bool) (w c x y:LL) (a:Outs) (z:LL):(V0_)→St:=fun (A,B)=>⟨a3k [(1,.ptr (1,0) 0),(2,.ptr (2,0) 0),(3,.ptr (3,0) 0),(9,.skip),(11,.skip),(32,.sl 95 c),(33,.i .i64 (c.length:Int)),(34,.i .i64 A),(55,.skip),(56,.skip),(57,.skip),(58,.skip),(59,.skip),(60,.skip),(61,.skip),(62,.skip),(63,.skip),(64,.skip),(65,.skip),(66,.skip),(67,.skip),(68,.skip),(69,.skip),(70,.skip),(71,.skip),(72,.skip),(73,.skip),(74,.skip),(75,.skip),(76,.skip),(77,.skip),(78,.skip),(79,.skip),(80,.skip),(81,.skip),(82,.skip),(83,.skip),(84,.skip),(85,.skip),(86,.skip),(87,.skip),(88,.skip),(89,.skip),(90,.skip)],Mem.put (a1e [((1,0),.var [.i .i64 d,.i .i64 e,.i .i64 f,.sl 134 g,.i .i64 h,.i .i64 l,.i .i64 m,.i .i64 n,.i .i64 o,.sl 136 p,.i .i64 q,.b r,.b u,.sl 92 w,.sl 95 c,.sl 96 x,.sl 99 y]),((2,0),.var [.i .i64 0,.i .i64 0,.i .i64 0,.ref (2,4),.i .i64 0,.i .i64 0,.i .i64 0,.i .i64 0,.i .i64 0,.ref (2,10),.i .i64 0,.b false,.b false,.ref (2,14),.ref (2,15),.ref (2,16),.ref (2,17)]),((2,4),.deep 134 [] none),((2,10),.deep 136 [] none),((2,14),.deep 92 [] none),((2,15),.deep 95 [] none),((2,16),.deep 96 [] none),((2,17),.deep 99 [] none),((3,0),.var [.i .i64 (a.t 0).asI,.i .i64 (a.t 1).asI,.i .i64 (a.t 2).asI,.ref (3,4),.i .i64 (a.t 4).asI,.i .i64 (a.t 5).asI,.i .i64 (a.t 6).asI,.i .i64 (a.t 7).asI,.i .i64 (a.t 8).asI,.ref (3,10),.i .i64 (a.t 10).asI,.b (a.t 11).asB,.b (a.t 12).asB,.ref (3,14),.ref (3,15),.ref (3,16),.ref (3,17)]),((3,4),.deep 134 (a.t 3).asR none),((3,10),.deep 136 (a.t 9).asR none),((3,14),.deep 92 z none),((3,15),.deep 95 B none),((3,16),.deep 96 [] none),((3,17),.deep 99 [] none)]) a3l .dead⟩
def b2y (k:Nat) (h l m:Int) (n:LL) (o p q u w:Int) (x:LL) (y:Int) (z A:Bool) (c B C D:LL) (e:Outs) (f:Outs→LL→(V0_)→OO) (g:(V0_)→OO):(V0_)→OO:=fun (b,d)=>
 bif (decide (b<(c.length:Int))) then
  chk (decide (0≤b)&&decide (b<(c.length:Int))) <|
  a0f (a0a E P0 k N.j6y [.v [.i (at_ c b.toNat 0).asI,.i (at_ c b.toNat 1).asI,.i (at_ c b.toNat 2).asI,.i (at_ c b.toNat 3).asI,.r (at_ c b.toNat 4).asR]]) fun a=>
  chk (decide ((d.length+([[.i (a.t 0).asI,.i (a.t 1).asI,.i (a.t 2).asI,.i (a.t 3).asI,.r (a.t 4).asR]]:LL).length)*56≤140737488355328)) <|
  g ((W64 (b+1)),(d++([[.i (a.t 0).asI,.i (a.t 1).asI,.i (a.t 2).asI,.i (a.t 3).asI,.r (a.t 4).asR]]:LL)))
 else
  f e d (0,[])
def e8q:List Nat:=[1,2,3,7,9,11,17,18,19,31,32,33,34,35,36,37,38,39,40,41,42,43,44,45,46,47,48,49,50,51,52,53,54,55,56,57,58,59,60,61,62,63,64,65,66,67,68,69,70,71,72,73,74,75,76,77,78,79,80,81,82,83,84,85,86,87,88,89,90]
def a8c (d e f:Int) (g:LL) (h l m n o:Int) (p:LL) (q:Int) (r u:Bool) (c w x y:LL) (a:Outs):(V0_)→St:=fun (z,A)=>⟨a3k [(1,.ptr (1,0) 0),(2,.ptr (2,0) 0),(3,.ptr (3,0) 0),(7,.skip),(9,.skip),(11,.skip),(17,.sl 92 c),(18,.i .i64 (c.length:Int)),(19,.i .i64 z),(31,.skip),(32,.skip),(33,.skip),(34,.skip),(35,.skip),(36,.skip),(37,.skip),(38,.skip),(39,.skip),(40,.skip),(41,.skip),(42,.skip),(43,.skip),(44,.skip),(45,.skip),(46,.skip),(47,.skip),(48,.skip),(49,.skip),(50,.skip),(51,.skip),(52,.skip),(53,.skip),(54,.skip),(55,.skip),(56,.skip),(57,.skip),(58,.skip),(59,.skip),(60,.skip),(61,.skip),(62,.skip),(63,.skip),(64,.skip),(65,.skip),(66,.skip),(67,.skip),(68,.skip),(69,.skip),(70,.skip),(71,.skip),(72,.skip),(73,.skip),(74,.skip),(75,.skip),(76,.skip),(77,.skip),(78,.skip),(79,.skip),(80,.skip),(81,.skip),(82,.skip),(83,.skip),(84,.skip),(85,.skip),(86,.skip),(87,.skip),(88,.skip),(89,.skip),(90,.skip)],Mem.put (a1e [((1,0),.var [.i .i64 d,.i .i64 e,.i .i64 f,.sl 134 g,.i .i64 h,.i .i64 l,.i .i64 m,.i .i64 n,.i .i64 o,.sl 136 p,.i .i64 q,.b r,.b u,.sl 92 c,.sl 95 w,.sl 96 x,.sl 99 y]),((2,0),.var [.i .i64 0,.i .i64 0,.i .i64 0,.ref (2,4),.i .i64 0,.i .i64 0,.i .i64 0,.i .i64 0,.i .i64 0,.ref (2,10),.i .i64 0,.b false,.b false,.ref (2,14),.ref (2,15),.ref (2,16),.ref (2,17)]),((2,4),.deep 134 [] none),((2,10),.deep 136 [] none),((2,14),.deep 92 [] none),((2,15),.deep 95 [] none),((2,16),.deep 96 [] none),((2,17),.deep 99 [] none),((3,0),.var [.i .i64 (a.t 0).asI,.i .i64 (a.t 1).asI,.i .i64 (a.t 2).asI,.ref (3,4),.i .i64 (a.t 4).asI,.i .i64 (a.t 5).asI,.i .i64 (a.t 6).asI,.i .i64 (a.t 7).asI,.i .i64 (a.t 8).asI,.ref (3,10),.i .i64 (a.t 10).asI,.b (a.t 11).asB,.b (a.t 12).asB,.ref (3,14),.ref (3,15),.ref (3,16),.ref (3,17)]),((3,4),.deep 134 (a.t 3).asR none),((3,10),.deep 136 (a.t 9).asR none),((3,14),.deep 92 A none),((3,15),.deep 95 [] none),((3,16),.deep 96 [] none),((3,17),.deep 99 [] none)]) a3l .dead⟩
def a5t (k:Nat) (b c d:Int) (e:LL) (f g h i l:Int) (m:LL) (n:Int) (o p:Bool) (q r t a:LL) (u:Outs) (w x:LL) (y:(V0_)→OO):(V0_)→OO:=
 b2w k b c d e f g h i l m n o p q r t a u w x (fun z A B C v=>a1i (a4j k a z A B C) k v) y
def a5u (k:Nat) (a b c:Int) (d:LL) (e f g h i:Int) (l:LL) (m:Int) (n o:Bool) (p q r t:LL) (u:Outs) (w:LL) (x:(V0_)→OO):(V0_)→OO:=
 b2x k a b c d e f g h i l m n o p q r t u w (fun y z A v=>a1i (a5t k a b c d e f g h i l m n o p q r t y z A) k v) x
def a5v (k:Nat) (a b c:Int) (d:LL) (e f g h i:Int) (l:LL) (m:Int) (n o:Bool) (p q r t:LL) (u:Outs) (w:(V0_)→OO):(V0_)→OO:=
 b2y k a b c d e f g h i l m n o p q r t u (fun x y v=>a1i (a5u k a b c d e f g h i l m n o p q r t x y) k v) w
def c1r (k:Nat) (a c d:Int) (e:LL) (f g h l m:Int) (n:LL) (o:Int) (p q:Bool) (w x y z:LL) (t:Outs→(V0_)→OO):OO:=
 a0f (a0a E P0 k N.j6c [.v [.i a,.i c,.i d,.r e,.i f,.i g,.i h,.i l,.i m,.r n,.i o,.b p,.b q]]) fun u=>
 t u (0,[])
def c1s (k:Nat) (a b c:Int) (d:LL) (e f g h i:Int) (l:LL) (m:Int) (n o:Bool) (p q r t:LL):OO:=
 c1r k a b c d e f g h i l m n o p q r t (fun u v=>a1i (a5v k a b c d e f g h i l m n o p q r t u) k v)
def b0h (k:Nat) (a c d:Int) (e:LL) (f g h l m:Int) (n:LL) (o:Int) (p q:Bool) (t u w x:LL) (js:List Nat) (j:Nat) (s:St):OO:=IT_ k N.j5v [.v [.i a,.i c,.i d,.r e,.i f,.i g,.i h,.i l,.i m,.r n,.i o,.b p,.b q,.r t,.r u,.r w,.r x]] [] [.sr,.sr,.sl,.sr,.bl] e8q js j s
def b0i (k:Nat) (a c d:Int) (e:LL) (f g h l m:Int) (n:LL) (o:Int) (p q:Bool) (t u w x:LL) (js:List Nat) (j:Nat) (s:St):OO:=IT_ k N.j5v [.v [.i a,.i c,.i d,.r e,.i f,.i g,.i h,.i l,.i m,.r n,.i o,.b p,.b q,.r t,.r u,.r w,.r x]] [] [.sr,.sr,.sr,.sl,.sr,.bl] e8p js j s
def b0j (k:Nat) (a c d:Int) (e:LL) (f g h l m:Int) (n:LL) (o:Int) (p q:Bool) (t u w x:LL) (js:List Nat) (j:Nat) (s:St):OO:=IT_ k N.j5v [.v [.i a,.i c,.i d,.r e,.i f,.i g,.i h,.i l,.i m,.r n,.i o,.b p,.b q,.r t,.r u,.r w,.r x]] [] [.sr,.sr,.sr,.sr,.sl,.sr,.bl] e8o js j s
def b0k (k:Nat) (a c d:Int) (e:LL) (f g h l m:Int) (n:LL) (o:Int) (p q:Bool) (t u w x:LL) (js:List Nat) (j:Nat) (s:St):OO:=IT_ k N.j5v [.v [.i a,.i c,.i d,.r e,.i f,.i g,.i h,.i l,.i m,.r n,.i o,.b p,.b q,.r t,.r u,.r w,.r x]] [] [.sr,.sr,.sr,.sr,.sr,.sl,.sr,.bl] e8n js j s
theorem f4f (k:Nat) (d e f:Int) (g:LL) (h l m n o:Int) (p:LL) (q:Int) (t u:Bool) (w x y a:LL):a0a E P0 (k+1) N.j5v [.v [.i d,.i e,.i f,.r g,.i h,.i l,.i m,.i n,.i o,.r p,.i q,.b t,.b u,.r w,.r x,.r y,.r a]]=c1s k d e f g h l m n o p q t u w x y a:=by
 have L:a0a E P0 (k+1) N.j5v [.v [.i d,.i e,.i f,.r g,.i h,.i l,.i m,.i n,.i o,.r p,.i q,.b t,.b u,.r w,.r x,.r y,.r a]]=c1r k d e f g h l m n o p q t u w x y a (fun H v=>b0h k d e f g h l m n o p q t u w x y a [] k (a8c d e f g h l m n o p q t u w x y a H v)):=by kernel_rfl
 have M:∀ (c:Outs) (z A B:LL) (C:Nat) (v:V0_),b0k k d e f g h l m n o p q t u w x y a [] (C+1) (a7z a c z A B v)=a4j k a c z A B (fun v=>b0k k d e f g h l m n o p q t u w x y a [] C (a7z a c z A B v)) v:=by
  intro c z A B C v;kernel_rfl
 have O:∀ (c:Outs) (z A B:LL) (C:Nat) (v:V0_),b0k k d e f g h l m n o p q t u w x y a [] C (a7z a c z A B v)=a1i (a4j k a c z A B) C v:=by
  intro c z A B C v;refine a1p (a7z a c z A B) (a4j k a c z A B) (fun C v=>(M c z A B C v).trans ?_) C v;unfold a4j;rfl
 have Q:∀ (c:Outs) (z A:LL) (D:Nat) (v:V0_),b0j k d e f g h l m n o p q t u w x y a [] (D+1) (a8a d e f g h l m n o p q t u w x y a c z A v)=b2w k d e f g h l m n o p q t u w x y a c z A (fun H J K R v=>b0k k d e f g h l m n o p q t u w x y a [] k (a7z a H J K R v)) (fun v=>b0j k d e f g h l m n o p q t u w x y a [] D (a8a d e f g h l m n o p q t u w x y a c z A v)) v:=by
  intro c z A D v;kernel_rfl
 have S:∀ (c:Outs) (z A:LL) (D:Nat) (v:V0_),b0j k d e f g h l m n o p q t u w x y a [] D (a8a d e f g h l m n o p q t u w x y a c z A v)=a1i (a5t k d e f g h l m n o p q t u w x y a c z A) D v:=by
  intro c z A D v;refine a1p (a8a d e f g h l m n o p q t u w x y a c z A) (a5t k d e f g h l m n o p q t u w x y a c z A) (fun D v=>(Q c z A D v).trans ?_) D v;unfold a5t;simp only [O] <;> rfl
 have U:∀ (c:Outs) (z:LL) (F:Nat) (v:V0_),b0i k d e f g h l m n o p q t u w x y a [] (F+1) (a8b d e f g h l m n o p q t u w x y a c z v)=b2x k d e f g h l m n o p q t u w x y a c z (fun H J K v=>b0j k d e f g h l m n o p q t u w x y a [] k (a8a d e f g h l m n o p q t u w x y a H J K v)) (fun v=>b0i k d e f g h l m n o p q t u w x y a [] F (a8b d e f g h l m n o p q t u w x y a c z v)) v:=by
  intro c z F v;kernel_rfl
 have V:∀ (c:Outs) (z:LL) (F:Nat) (v:V0_),b0i k d e f g h l m n o p q t u w x y a [] F (a8b d e f g h l m n o p q t u w x y a c z v)=a1i (a5u k d e f g h l m n o p q t u w x y a c z) F v:=by
  intro c z F v;refine a1p (a8b d e f g h l m n o p q t u w x y a c z) (a5u k d e f g h l m n o p q t u w x y a c z) (fun F v=>(U c z F v).trans ?_) F v;unfold a5u;simp only [S] <;> rfl
 have W:∀ (c:Outs) (G:Nat) (v:V0_),b0h k d e f g h l m n o p q t u w x y a [] (G+1) (a8c d e f g h l m n o p q t u w x y a c v)=b2y k d e f g h l m n o p q t u w x y a c (fun H J v=>b0i k d e f g h l m n o p q t u w x y a [] k (a8b d e f g h l m n o p q t u w x y a H J v)) (fun v=>b0h k d e f g h l m n o p q t u w x y a [] G (a8c d e f g h l m n o p q t u w x y a c v)) v:=by
  intro c G v;kernel_rfl
 have X:∀ (c:Outs) (G:Nat) (v:V0_),b0h k d e f g h l m n o p q t u w x y a [] G (a8c d e f g h l m n o p q t u w x y a c v)=a1i (a5v k d e f g h l m n o p q t u w x y a c) G v:=by
  intro c G v;refine a1p (a8c d e f g h l m n o p q t u w x y a c) (a5v k d e f g h l m n o p q t u w x y a c) (fun G v=>(W c G v).trans ?_) G v;unfold a5v;simp only [V] <;> rfl
 rw [L];unfold c1s;simp only [X]
end
end Go.Proofs.YtgilihjnmjgciaaGreat.Ev
