/- What functions answer under the evaluator, as Lean terms, part 1: what FnExactWorkAll needs. No condition. -/
import Derived.Test.YtjadnceefhbphaaGreatmTab
namespace Go.Proofs.YtjadnceefhbphaaGreat.Ev
open Go Go.Proofs
set_option linter.unusedVariables false
set_option maxRecDepth 100000
set_option maxHeartbeats 4000000
noncomputable section
def b1r (k:Nat) (g c:LL) (h:Bool) (i:LL) (f:Int) (e:(V4_)→OO):(V4_)→OO:=fun (d,a)=>
 bif (decide (a<(c.length:Int))) then
  chk (decide (0≤a)&&decide (a<(c.length:Int))) <|
  bif ((at_ c a.toNat 0).asI == f) then
   chk (decide (0≤a)&&decide (a<(c.length:Int))) <|
   e ((at_ c a.toNat 1).asR,(W64 (a+1)))
  else
   e (d,(W64 (a+1)))
 else
  chk (decide ((([]:LL).length+d.length)*8≤140737488355328)) <|
  some ⟨[.r (([]:LL)++d),.b true],[]⟩
def e4z:List Nat:=[1,2,4,5,6,7,57,58,59]
def e5a (a c:LL) (d:Bool) (e:LL) (f:Int):(V4_)→St:=fun (g,h)=>⟨a3q [(1,.i .i64 f),(2,.ptr (2,0) 0),(4,.ref (4,0)),(5,.b false),(6,.sl 3 g),(7,.i .i64 h),(57,.skip),(58,.skip),(59,.skip)],a1f [((2,0),.var [.sl 78 a,.sl 161 c,.b d,.sl 3 e]),((4,0),.row 3 true [])]⟩
def a7i (k:Nat) (c:LL) (a:Int) (d:(V4_)→OO) (e:Bool):OO:=
 bif e then
  some ⟨[.r [],.b false],[]⟩
 else
  chk (decide (0≤a)&&decide (a<(c.length:Int))) <|
  d ((at_ c a.toNat 0).asR,0)
def c0b (k:Nat) (a g:LL) (e:Bool) (f:LL) (c:Int) (d:(V4_)→OO):OO:=
 a0f (a0a E P0 k N.j2c [.v [.r a,.r g,.b e,.r f]]) fun h=>
 bif (!(h.t 0).asB) then
  a7i k a c d true
 else
  bif e then
   a7i k a c d true
  else
   a0f (a0a E P0 k N.j1s [.v [.i c],.v [.i 0],.v [.i (W64 ((a.length:Int) - 1))]]) fun l=>
   bif (!(l.t 0).asB) then
    a7i k a c d true
   else
    a0f (a0a E P0 k N.j7h [.v [.r f],.v [.i c]]) fun m=>
    a7i k a c d ((m.t 0).asB)
def c8s (k:Nat) (a b:LL) (c:Bool) (d:LL) (e:Int):OO:=
 c0b k a b c d e (fun v=>a1k (b1r k a b c d e) k v)
theorem f0u (k:Nat) (a c:LL) (d:Bool) (e:LL) (f:Int):a0a E P0 (k+1) N.j7i [.v [.r a,.r c,.b d,.r e],.v [.i f]]=c8s k a c d e f:=a2c [] [.sr,.sr,.sr,.sl,.sr,.bl] e4z (c0b k a c d e f) (e5a a c d e f) (b1r k a c d e f) (by kernel_rfl) (fun j v=>by kernel_rfl)
def d3e (k:Nat) (f g h:Int) (c:LL) (l m n o p:Int) (q:LL) (u:Int) (w x:Bool) (a e:Int):OO:=
 a0f (a0a E P0 k N.j4n [.v [.i f,.i g,.i h,.r c,.i l,.i m,.i n,.i o,.i p,.r q,.i u,.b w,.b x],.v [.i a],.v [.i e]]) fun y=>
 bif (!(y.t 0).asB) then
  some ⟨[.i 0,.b false],[]⟩
 else
  chk (decide (0≤a)&&decide (a<(c.length:Int))) <|
  a0f (a0a E P0 k N.j4o [.v [.i e]]) fun z=>
  a0f (a0a E P0 k N.j7i [.v [.r (at_ c a.toNat 0).asR,.r (at_ c a.toNat 1).asR,.b (at_ c a.toNat 2).asB,.r (at_ c a.toNat 3).asR],.v [.i (z.t 0).asI]]) fun d=>
  bif (!(d.t 1).asB) then
   some ⟨[.i 0,.b false],[]⟩
  else
   bif (((d.t 0).asR.length:Int) != 1) then
    some ⟨[.i 0,.b false],[]⟩
   else
    chk (decide ((0:Int)<((d.t 0).asR.length:Int))) <|
    some ⟨[.i (at_ (d.t 0).asR 0 0).asI,.b true],[]⟩
theorem f7s (k:Nat) (a c d:Int) (e:LL) (f g h l m:Int) (n:LL) (o:Int) (p q:Bool) (t u:Int):a0a E P0 (k+1) N.j7j [.v [.i a,.i c,.i d,.r e,.i f,.i g,.i h,.i l,.i m,.r n,.i o,.b p,.b q],.v [.i t],.v [.i u]]=d3e k a c d e f g h l m n o p q t u:=by kernel_rfl
def a5u (k:Nat) (b:LL) (e:Int) (d:(V1_)→OO):(V1_)→OO:=fun (c,a)=>
 bif (decide (a<(b.length:Int))) then
  bif (a != e) then
   chk (decide (0≤a)&&decide (a<(b.length:Int))) <|
   d ((c4l .i64 c (at_ b a.toNat 0).asI),(W64 (a+1)))
  else
   d (c,(W64 (a+1)))
 else
  some ⟨[.i c],[]⟩
def d0p:List Nat:=[0,1,4,5,6,22]
def d0q (a:LL) (b:Int):(V1_)→St:=fun (c,d)=>⟨a3q [(0,.sl 3 a),(1,.i .i64 b),(4,.i .i64 0),(5,.i .i64 c),(6,.i .i64 d),(22,.skip)],a1f []⟩
def b1s (k:Nat) (b:LL) (c:Int) (a:(V1_)→OO):OO:=
 a (0,0)
def b9c (k:Nat) (a:LL) (b:Int):OO:=
 b1s k a b (fun v=>a1k (a5u k a b) k v)
theorem d3f (k:Nat) (a:LL) (c:Int):a0a E P0 (k+1) N.j7k [.v [.r a],.v [.i c]]=b9c k a c:=a2c [] [.sr,.sr,.sl,.sr,.bl] d0p (b1s k a c) (d0q a c) (a5u k a c) (by kernel_rfl) (fun j v=>by kernel_rfl)
def b1t (k:Nat) (h f l:Int) (m:LL) (n o p q u:Int) (w:LL) (x:Int) (y z:Bool) (A:Int) (g:(V2_)→OO):(V2_)→OO:=fun (c,d,a)=>
 bif (decide (d<f)) then
  a0f (a0a E P0 k N.j7j [.v [.i h,.i f,.i l,.r m,.i n,.i o,.i p,.i q,.i u,.r w,.i x,.b y,.b z],.v [.i d],.v [.i A]]) fun e=>
  bif (!(e.t 1).asB) then
   bif (decide (c≥0)) then
    some ⟨[.r [],.b false],[]⟩
   else
    chk (decide ((a.length+([[.i (e.t 0).asI]]:LL).length)*8≤140737488355328)) <|
    g (d,(W64 (d+1)),(a++([[.i (e.t 0).asI]]:LL)))
  else
   chk (decide ((a.length+([[.i (e.t 0).asI]]:LL).length)*8≤140737488355328)) <|
   g (c,(W64 (d+1)),(a++([[.i (e.t 0).asI]]:LL)))
 else
  bif (decide (c≥0)) then
   a0f (a0a E P0 k N.j7k [.v [.r a],.v [.i c]]) fun B=>
   chk (decide (0≤c)&&decide (c<(a.length:Int))) <|
   some ⟨[.r (a0x a c.toNat 0 [.i (B.t 0).asI]),.b true],[]⟩
  else
   some ⟨[.r a,.b true],[]⟩
def e5b:List Nat:=[1,2,4,5,6,7,8,36,37,38,39,40,41,42,43,44]
def e5c (a c d:Int) (e:LL) (f g h l m:Int) (n:LL) (o:Int) (p q:Bool) (r:Int):(V2_)→St:=fun (t,u,w)=>⟨a3q [(1,.i .i64 r),(2,.ptr (2,0) 0),(4,.ref (4,0)),(5,.b false),(6,.ref (6,0)),(7,.i .i64 t),(8,.i .i64 u),(36,.skip),(37,.skip),(38,.skip),(39,.skip),(40,.skip),(41,.skip),(42,.skip),(43,.skip),(44,.skip)],a1f [((2,0),.var [.i .i64 a,.i .i64 c,.i .i64 d,.sl 135 e,.i .i64 f,.i .i64 g,.i .i64 h,.i .i64 l,.i .i64 m,.sl 137 n,.i .i64 o,.b p,.b q]),((4,0),.row 3 true []),((6,0),.row 3 true w)]⟩
def c0c (k:Nat) (b c d:Int) (e:LL) (f g h i l:Int) (m:LL) (n:Int) (o p:Bool) (q:Int) (a:(V2_)→OO):OO:=
 a ((-1),0,[])
def c8t (k:Nat) (a b c:Int) (d:LL) (e f g h i:Int) (l:LL) (m:Int) (n o:Bool) (p:Int):OO:=
 c0c k a b c d e f g h i l m n o p (fun v=>a1k (b1t k a b c d e f g h i l m n o p) k v)
theorem f0v (k:Nat) (a c d:Int) (e:LL) (f g h l m:Int) (n:LL) (o:Int) (p q:Bool) (t:Int):a0a E P0 (k+1) N.j7l [.v [.i a,.i c,.i d,.r e,.i f,.i g,.i h,.i l,.i m,.r n,.i o,.b p,.b q],.v [.i t]]=c8t k a c d e f g h l m n o p q t:=a2c [] [.sr,.sr,.sr,.sl,.sr,.bl] e5b (c0c k a c d e f g h l m n o p q t) (e5c a c d e f g h l m n o p q t) (b1t k a c d e f g h l m n o p q t) (by kernel_rfl) (fun j v=>by kernel_rfl)
def c4z (k:Nat) (c a d:Int):OO:=
 a0f (a0a E P0 k N.j2s [.v [.i c,.i a]]) fun e=>
 bif (e.t 0).asB then
  a0f (a0a E P0 k N.j1s [.v [.i d],.v [.i 0],.v [.i (W64 (a - 1))]]) fun f=>
  some ⟨[.b (f.t 0).asB],[]⟩
 else
  some ⟨[.b false],[]⟩
theorem e5d (k:Nat) (a b c:Int):a0a E P0 (k+1) N.j4p [.v [.i a,.i b],.v [.i c]]=c4z k a b c:=by kernel_rfl
def c5a (k:Nat) (a c b:Int):OO:=
 a0f (a0a E P0 k N.j4p [.v [.i a,.i c],.v [.i b]]) fun d=>
 bif (!(d.t 0).asB) then
  some ⟨[.i (-1)],[]⟩
 else
  chk (!decide (a=0)) <|
  some ⟨[.i (W64 ((W64 (a - 1)) - (Int.tmod b a)))],[]⟩
theorem e5e (k:Nat) (a b c:Int):a0a E P0 (k+1) N.j4q [.v [.i a,.i b],.v [.i c]]=c5a k a b c:=by kernel_rfl
def d3g (k:Nat) (a b c d:Int):OO:=
 a0f (a0a E P0 k N.j4p [.v [.i a,.i b],.v [.i c]]) fun e=>
 bif (!(e.t 0).asB) then
  some ⟨[.i (-1)],[]⟩
 else
  a0f (a0a E P0 k N.j1s [.v [.i d],.v [.i 0],.v [.i (W64 (a - 2))]]) fun f=>
  bif (!(f.t 0).asB) then
   some ⟨[.i (-1)],[]⟩
  else
   a0f (a0a E P0 k N.j4q [.v [.i a,.i b],.v [.i c]]) fun g=>
   chk (!decide (a=0)) <|
   some ⟨[.i (Int.tmod (W64 ((W64 ((g.t 0).asI+1))+d)) a)],[]⟩
theorem f7t (k:Nat) (a b c d:Int):a0a E P0 (k+1) N.j7m [.v [.i a,.i b],.v [.i c],.v [.i d]]=d3g k a b c d:=by kernel_rfl
def a8w (k:Nat) (f g h:Int) (a:Outs) (e:Int) (d:LL) (l:(V0_)→OO) (m:Bool):OO:=
 bif m then
  a0f (a0a E P0 k N.j7m [.v [.i f,.i g],.v [.i h],.v [.i e]]) fun c=>
  chk (decide (0≤(c.t 0).asI)&&decide ((c.t 0).asI<((a.t 0).asR.length:Int))) <|
  chk (decide ((d.length+([[.i (at_ (a.t 0).asR (c.t 0).asI.toNat 0).asI]]:LL).length)*8≤140737488355328)) <|
  l ((W64 (e+1)),(d++([[.i (at_ (a.t 0).asR (c.t 0).asI.toNat 0).asI]]:LL)))
 else
  some ⟨[.r d,.b (a.t 1).asB],[]⟩
def a6l (k:Nat) (h a d:Int) (i:LL) (l m n o p:Int) (q:LL) (r:Int) (u w:Bool) (e:Int) (b:Outs) (f:(V0_)→OO):(V0_)→OO:=fun (c,g)=>
 bif (decide (c<(W64 (a - 1)))) then
  a8w k a d e b c g f ((b.t 1).asB)
 else
  a8w k a d e b c g f false
def f0w:List Nat:=[1,2,4,5,6,7,8,9,39,40]
def c8u (c d e:Int) (f:LL) (g h l m n:Int) (o:LL) (p:Int) (q r:Bool) (u:Int) (a:Outs):(V0_)→St:=fun (w,x)=>⟨a3q [(1,.i .i64 u),(2,.ptr (2,0) 0),(4,.ref (4,0)),(5,.b false),(6,.ref (6,0)),(7,.b (a.t 1).asB),(8,.ref (8,0)),(9,.i .i64 w),(39,.skip),(40,.skip)],a1f [((2,0),.var [.i .i64 c,.i .i64 d,.i .i64 e,.sl 135 f,.i .i64 g,.i .i64 h,.i .i64 l,.i .i64 m,.i .i64 n,.sl 137 o,.i .i64 p,.b q,.b r]),((4,0),.row 3 true []),((6,0),.row 3 true (a.t 0).asR),((8,0),.row 3 true x)]⟩
def b6o (k:Nat) (a c d:Int) (e:LL) (f g h l m:Int) (n:LL) (o:Int) (p q:Bool) (t:Int) (u:Outs→(V0_)→OO):OO:=
 a0f (a0a E P0 k N.j7l [.v [.i a,.i c,.i d,.r e,.i f,.i g,.i h,.i l,.i m,.r n,.i o,.b p,.b q],.v [.i t]]) fun w=>
 u w (0,[])
def d3h (k:Nat) (a b c:Int) (d:LL) (e f g h i:Int) (l:LL) (m:Int) (n o:Bool) (p:Int):OO:=
 b6o k a b c d e f g h i l m n o p (fun q v=>a1k (a6l k a b c d e f g h i l m n o p q) k v)
def e5f (k:Nat) (a c d:Int) (e:LL) (f g h l m:Int) (n:LL) (o:Int) (p q:Bool) (t:Int) (js:List Nat) (j:Nat) (s:St):OO:=IT_ k N.j4r [.v [.i a,.i c,.i d,.r e,.i f,.i g,.i h,.i l,.i m,.r n,.i o,.b p,.b q],.v [.i t]] [] [.sr,.sr,.sr,.sl,.sr,.bl] f0w js j s
theorem f7u (k:Nat) (a c d:Int) (e:LL) (f g h l m:Int) (n:LL) (o:Int) (p q:Bool) (t:Int):a0a E P0 (k+1) N.j4r [.v [.i a,.i c,.i d,.r e,.i f,.i g,.i h,.i l,.i m,.r n,.i o,.b p,.b q],.v [.i t]]=d3h k a c d e f g h l m n o p q t:=
 Eq.trans (b:=b6o k a c d e f g h l m n o p q t (fun u v=>e5f k a c d e f g h l m n o p q t [] k (c8u a c d e f g h l m n o p q t u v))) (by kernel_rfl) (congrArg (b6o k a c d e f g h l m n o p q t) (funext fun u=>funext fun v=>a1v (c8u a c d e f g h l m n o p q t u) (a6l k a c d e f g h l m n o p q t u) (fun j v=>by kernel_rfl) k v))
def c5b (k:Nat) (e f g:Int) (h:LL) (l m n o p:Int) (a:LL) (q:Int) (u d:Bool) (w:Int):OO:=
 a0f (a0a E P0 k N.j4m [.v [.i e,.i f,.i g,.r h,.i l,.i m,.i n,.i o,.i p,.r a,.i q,.b u,.b d],.v [.i w]]) fun c=>
 bif (decide ((c.t 0).asI≥0)) then
  chk (decide (0≤(c.t 0).asI)&&decide ((c.t 0).asI<(a.length:Int))) <|
  chk (decide ((([]:LL).length+(at_ a (c.t 0).asI.toNat 1).asR.length)*8≤140737488355328)) <|
  some ⟨[.r (([]:LL)++(at_ a (c.t 0).asI.toNat 1).asR),.b true],[]⟩
 else
  bif d then
   some ⟨[.r [],.b false],[]⟩
  else
   a0f (a0a E P0 k N.j4r [.v [.i e,.i f,.i g,.r h,.i l,.i m,.i n,.i o,.i p,.r a,.i q,.b u,.b d],.v [.i w]]) fun x=>
   some ⟨[.r (x.t 0).asR,.b (x.t 1).asB],[]⟩
theorem e5g (k:Nat) (a c d:Int) (e:LL) (f g h l m:Int) (n:LL) (o:Int) (p q:Bool) (t:Int):a0a E P0 (k+1) N.j4s [.v [.i a,.i c,.i d,.r e,.i f,.i g,.i h,.i l,.i m,.r n,.i o,.b p,.b q],.v [.i t]]=c5b k a c d e f g h l m n o p q t:=by kernel_rfl
def c8v (k:Nat) (a c b:Int):OO:=
 a0f (a0a E P0 k N.j2t [.v [.i a,.i c]]) fun d=>
 a0f (a0a E P0 k N.j1s [.v [.i b],.v [.i 0],.v [.i (W64 ((d.t 0).asI - 1))]]) fun e=>
 bif (!(e.t 0).asB) then
  some ⟨[.i (-1)],[]⟩
 else
  chk (!decide ((W64 (a - 1))=0)) <|
  some ⟨[.i (Int.tmod b (W64 (a - 1)))],[]⟩
theorem f0x (k:Nat) (a b c:Int):a0a E P0 (k+1) N.j4t [.v [.i a,.i b],.v [.i c]]=c8v k a b c:=by kernel_rfl
def c5c (k:Nat) (g a c:Int) (h:LL) (l m n o p:Int) (q:LL) (u:Int) (w x:Bool) (d:Int):OO:=
 a0f (a0a E P0 k N.j4l [.v [.i g,.i a,.i c,.r h,.i l,.i m,.i n,.i o,.i p,.r q,.i u,.b w,.b x],.v [.i d]]) fun y=>
 bif ((y.t 0).asI != 0) then
  some ⟨[.i 0,.i (y.t 0).asI],[]⟩
 else
  a0f (a0a E P0 k N.j2o [.v [.i a,.i c],.v [.i d]]) fun z=>
  a0f (a0a E P0 k N.j4s [.v [.i g,.i a,.i c,.r h,.i l,.i m,.i n,.i o,.i p,.r q,.i u,.b w,.b x],.v [.i (z.t 0).asI]]) fun e=>
  bif (!(e.t 1).asB) then
   some ⟨[.i 0,.i 5],[]⟩
  else
   a0f (a0a E P0 k N.j4t [.v [.i a,.i c],.v [.i d]]) fun f=>
   chk (decide (0≤(f.t 0).asI)&&decide ((f.t 0).asI<((e.t 0).asR.length:Int))) <|
   some ⟨[.i (at_ (e.t 0).asR (f.t 0).asI.toNat 0).asI,.i 0],[]⟩
theorem e5h (k:Nat) (a c d:Int) (e:LL) (f g h l m:Int) (n:LL) (o:Int) (p q:Bool) (t:Int):a0a E P0 (k+1) N.j3a [.v [.i a,.i c,.i d,.r e,.i f,.i g,.i h,.i l,.i m,.r n,.i o,.b p,.b q],.v [.i t]]=c5c k a c d e f g h l m n o p q t:=by kernel_rfl
def d8l (k:Nat) (c d e:Int) (f:LL) (g h l m n:Int) (o:LL) (p:Int) (a q:Bool):OO:=
 BK_ k N.j2z [.v (S0_ c d e f g h l m n o p a q)] fun u=>
 bif (!(u.t 0).asB) then so_ [.i 1] else (bif a then so_ [.i 6] else so_ [.i 0])
theorem g3a (k:Nat) (a c d:Int) (e:LL) (f g h l m:Int) (n:LL) (o:Int) (p q:Bool):a0a E P0 (k+1) N.j7n [.v (S0_ a c d e f g h l m n o p q)]=d8l k a c d e f g h l m n o p q:=by kernel_rfl
def a4z (k:Nat) (a b c:Int) (d e:Bool) (f:Int) (g:Bool):OO:=
 bif g then
  so_ [.i 1]
 else
  bif d then
   so_ [.i 6]
  else
   BK_ k N.j1s [vi_ f,vi_ 0,vi_ (W64 (a - 1))] fun h=>
   bif (!(h.t 0).asB) then
    so_ [.i 2]
   else
    bif e then
     so_ [.i 5]
    else
     bif (decide (b≥60000)) then
      so_ [.i 7]
     else
      bif (decide (c≥59990)) then so_ [.i 7] else so_ [.i 0]
def d3i (k:Nat) (m h a:Int) (n:LL) (o p c q d:Int) (u:LL) (w:Int) (e f:Bool) (g:Int) (l:LL):OO:=
 BK_ k N.j2z [.v (S0_ m h a n o p c q d u w e f)] fun x=>
 bif (!(x.t 0).asB) then
  a4z k a c d e f g true
 else
  bif ((l.length:Int) != (W64 (h - 1))) then
   a4z k a c d e f g true
  else
   BK_ k N.j2h [vr_ l] fun y=>
   a4z k a c d e f g (!(y.t 0).asB)
theorem f7v (k:Nat) (a c d:Int) (e:LL) (f g h l m:Int) (n:LL) (o:Int) (p q:Bool) (t:Int) (u:LL):a0a E P0 (k+1) N.j4u [.v (S0_ a c d e f g h l m n o p q),vi_ t,vr_ u]=d3i k a c d e f g h l m n o p q t u:=by kernel_rfl
def e5i (k:Nat) (c d e:Int) (f:LL) (g h l m n:Int) (o:LL) (a:Int) (p q:Bool):OO:=
 bif p then
  some ⟨[.b false],[(S0_ c d e f g h l m n o a p q)]⟩
 else
  bif (a == 0) then
   some ⟨[.b false],[[.i c,.i d,.i e,.r f,.i g,.i h,.i l,.i m,.i n,.r o,.i (-1),.b true,.b q]]⟩
  else
   bif (decide (a > 0)) then
    some ⟨[.b true],[(S0_ c d e f g h l m n o (W64 (a - 1)) p q)]⟩
   else
    some ⟨[.b true],[(S0_ c d e f g h l m n o a p q)]⟩
theorem g6p (k:Nat) (a c d:Int) (e:LL) (f g h l m:Int) (n:LL) (o:Int) (q t:Bool):a0a E P0 (k+1) N.j4v [.p (S0_ a c d e f g h l m n o q t)]=e5i k a c d e f g h l m n o q t:=by kernel_rfl
def a6e (k:Nat) (c:Outs) (e:(V0_)→OO):(V0_)→OO:=fun (a,d)=>
 bif (decide (a<((c.t 1).asR.length:Int))) then
  chk (decide (0≤a)&&decide (a<((c.t 1).asR.length:Int))) <|
  chk (decide (0≤a)&&decide (a<((c.t 1).asR.length:Int))) <|
  chk (decide (0≤(at_ (c.t 1).asR a.toNat 0).asI)&&decide ((at_ (c.t 1).asR a.toNat 0).asI<(d.length:Int))) <|
  e ((W64 (a+1)),(a0x d (at_ (c.t 1).asR a.toNat 0).asI.toNat 0 [.r (at_ (c.t 1).asR a.toNat 1).asR]))
 else
  so_ [.r d,.r [],.b (c.t 2).asB,.r (c.t 3).asR]
def d9u:List Nat:=[2,3,4,37,38,39]
def c3o (a:Outs):(V0_)→St:=fun (c,d)=>ST_ [(2,.ptr (2,0) 0),(3,.ptr (3,0) 0),(4,.w_ c),(37,.skip),(38,.skip),(39,.skip)] [((2,0),.var [.ref (2,1),.ref (2,2),.b false,.ref (2,4)]),((2,1),.row 78 true []),((2,2),.row 161 true []),((2,4),.row 3 true []),((3,0),.var [.ref (3,1),.ref (3,2),.b (a.t 2).asB,.ref (3,4)]),((3,1),.row 78 true d),((3,2),.row 161 true (a.t 1).asR),((3,4),.row 3 true (a.t 3).asR)]
def c3p (k:Nat) (a:Outs) (c:Outs→(V0_)→OO) (d:Bool):OO:=
 bif d then
  so_ (i7y a)
 else
  c a (0,(a.t 0).asR)
def b1u (k:Nat) (c d:LL) (a:Bool) (e:LL) (f:Outs→(V0_)→OO):OO:=
 BK_ k N.j2m [.v (S5_ c d a e)] fun g=>
 BK_ k N.j2c [.v (S5_ c d a e)] fun h=>
 bif (!(h.t 0).asB) then c3p k g f true else c3p k g f a
def c5d (k:Nat) (a b:LL) (c:Bool) (d:LL):OO:=
 b1u k a b c d (fun e v=>a1k (a6e k e) k v)
def d5z (k:Nat) (a c:LL) (d:Bool) (e:LL) (js:List Nat) (j:Nat) (s:St):OO:=IT_ k N.j3r [.v (S5_ a c d e)] [] [.sr,.sr,.sr,.sl,.sr,.bl] d9u js j s
theorem e5j (k:Nat) (a c:LL) (d:Bool) (e:LL):a0a E P0 (k+1) N.j3r [.v (S5_ a c d e)]=c5d k a c d e:=
 Eq.trans (b:=b1u k a c d e (fun f v=>d5z k a c d e [] k (c3o f v))) (by kernel_rfl) (congrArg (b1u k a c d e) (funext fun f=>funext fun v=>a1v (c3o f) (a6e k f) (fun j v=>by kernel_rfl) k v))
def b4k (k:Nat) (f:(V3_)→OO):(V3_)→OO:=fun (c,g,h,l,m,n,o,q,u,w,x,y,d,z)=>
 bif (decide (c<(d.length:Int))) then
  ck_ c d <|
  bif (!(at_ d c.toNat 2).asB) then
   BK_ k N.j4v [.p (S0_ g h l d m n o q u z w x y)] fun a=>
   bif (a.t 0).asB then
    chk (decide (0≤c)&&decide (c<((a.vt 0 3).asR.length:Int))) <|
    BK_ k N.j3r [.v (S5_ (at_ (a.vt 0 3).asR c.toNat 0).asR (at_ (a.vt 0 3).asR c.toNat 1).asR (at_ (a.vt 0 3).asR c.toNat 2).asB (at_ (a.vt 0 3).asR c.toNat 3).asR)] fun e=>
    chk (decide (0≤c)&&decide (c<((a.vt 0 3).asR.length:Int))) <|
    f ((W64 (c+1)),(a.vt 0 0).asI,(a.vt 0 1).asI,(a.vt 0 2).asI,(a.vt 0 4).asI,(a.vt 0 5).asI,(a.vt 0 6).asI,(a.vt 0 7).asI,(a.vt 0 8).asI,(a.vt 0 10).asI,(a.vt 0 11).asB,(a.vt 0 12).asB,(a0x (a.vt 0 3).asR c.toNat 0 (i7y e)),(a.vt 0 9).asR)
   else
    f ((W64 (c+1)),(a.vt 0 0).asI,(a.vt 0 1).asI,(a.vt 0 2).asI,(a.vt 0 4).asI,(a.vt 0 5).asI,(a.vt 0 6).asI,(a.vt 0 7).asI,(a.vt 0 8).asI,(a.vt 0 10).asI,(a.vt 0 11).asB,(a.vt 0 12).asB,(a.vt 0 3).asR,(a.vt 0 9).asR)
  else
   f ((W64 (c+1)),g,h,l,m,n,o,q,u,w,x,y,d,z)
 else
  some ⟨[],[(S0_ g h l d m n o q u z w x y)]⟩
def f0y:List Nat:=[0,2]
def f0z:(V3_)→St:=fun (a,c,d,e,f,g,h,l,m,n,o,p,q,r)=>ST_ [(0,.ptr (0,0) 0),(2,.w_ a)] [((0,0),.var [.w_ c,.w_ d,.w_ e,.ref (0,4),.w_ f,.w_ g,.w_ h,.w_ l,.w_ m,.ref (0,10),.w_ n,.b o,.b p]),((0,4),.row 135 true q),((0,10),.row 137 true r)]
def c2n (k:Nat) (a b c:Int) (d:LL) (e f g h i:Int) (l:LL) (m:Int) (n o:Bool) (p:(V3_)→OO):OO:=
 p (0,a,b,c,e,f,g,h,i,m,n,o,d,l)
def d3j (k:Nat) (a b c:Int) (d:LL) (e f g h i:Int) (l:LL) (m:Int) (n o:Bool):OO:=
 c2n k a b c d e f g h i l m n o (fun v=>a1k (b4k k) k v)
theorem f7w (k:Nat) (a c d:Int) (e:LL) (f g h l m:Int) (n:LL) (o:Int) (q t:Bool):a0a E P0 (k+1) N.j3s [.p (S0_ a c d e f g h l m n o q t)]=d3j k a c d e f g h l m n o q t:=a2c [0] [.sr,.bl] f0y (c2n k a c d e f g h l m n o q t) (f0z) (b4k k) (by kernel_rfl) (fun j v=>by kernel_rfl)
def a5i (k:Nat) (d e a c:Int) (f:Bool):OO:=
 bif f then
  so_ [.b false]
 else
  BK_ k N.j1s [vi_ a,vi_ (-1),vi_ (W64 (d - 1))] fun g=>
  bif (g.t 0).asB then
   BK_ k N.j1s [vi_ c,vi_ 0,vi_ e] fun h=>
   bif (h.t 0).asB then
    bif (decide (a≥0)) then so_ [.b true] else so_ [.b (c == 0)]
   else
    so_ [.b false]
  else
   so_ [.b false]
def c8w (k:Nat) (e f g a b h c d:Int):OO:=
 BK_ k N.j2s [.v [.i a,.i b]] fun l=>
 bif (!(l.t 0).asB) then
  a5i k a b c d true
 else
  BK_ k N.j1s [vi_ e,vi_ 1,vi_ 60000] fun m=>
  bif (!(m.t 0).asB) then
   a5i k a b c d true
  else
   BK_ k N.j1s [vi_ f,vi_ 0,vi_ 60000] fun n=>
   bif (!(n.t 0).asB) then
    a5i k a b c d true
   else
    BK_ k N.j1s [vi_ g,vi_ 0,vi_ (W64 (a - 1))] fun o=>
    bif (!(o.t 0).asB) then
     a5i k a b c d true
    else
     BK_ k N.j1s [vi_ h,vi_ 0,vi_ 60000] fun p=>
     a5i k a b c d (!(p.t 0).asB)
theorem f1a (k:Nat) (a b c d e f g h:Int):a0a E P0 (k+1) N.j7o [.v (i2q a b c d e f g h)]=c8w k a b c d e f g h:=by kernel_rfl
def c5e (k:Nat) (a b c d e f g h:Int):OO:=
 BK_ k N.j7o [.v (i2q a b c d e f g h)] fun l=>
 bif (!(l.t 0).asB) then
  so_ [.r []]
 else
  so_ [.r [[.i 21317],[.i a],[.i b],[.i c],[.i d],[.i e],[.i f],[.i (W64 (g+1))],[.i h]]]
theorem e5k (k:Nat) (a b c d e f g h:Int):a0a E P0 (k+1) N.j7p [.v (i2q a b c d e f g h)]=c5e k a b c d e f g h:=by kernel_rfl
def a4b (k:Nat) (b:LL) (e:Int) (d:(V0_)→OO):(V0_)→OO:=fun (a,c)=>
 bif (decide (a<(b.length:Int))) then
  chk (decide (0≤a)&&decide (a<(b.length:Int))) <|
  bif ((at_ b a.toNat 0).asI != e) then
   chk (decide (0≤a)&&decide (a<(b.length:Int))) <|
   chk (decide ((c.length+([[.i (at_ b a.toNat 0).asI]]:LL).length)*8≤140737488355328)) <|
   d ((W64 (a+1)),(c++([[.i (at_ b a.toNat 0).asI]]:LL)))
  else
   d ((W64 (a+1)),c)
 else
  some ⟨[.r c],[]⟩
def d6a:List Nat:=[0,1,4,5,6,27]
def d6b (a:LL) (b:Int):(V0_)→St:=fun (c,d)=>⟨a3q [(0,.sl 3 a),(1,.i .i64 b),(4,.ref (4,0)),(5,.ref (5,0)),(6,.i .i64 c),(27,.skip)],a1f [((4,0),.row 3 true []),((5,0),.row 3 true d)]⟩
def b5n (k:Nat) (b:LL) (c:Int) (a:(V0_)→OO):OO:=
 a (0,[])
def c3q (k:Nat) (a:LL) (b:Int):OO:=
 b5n k a b (fun v=>a1k (a4b k a b) k v)
theorem d9v (k:Nat) (a:LL) (c:Int):a0a E P0 (k+1) N.j7q [.v [.r a],.v [.i c]]=c3q k a c:=a2c [] [.sr,.sr,.sl,.sr,.bl] d6a (b5n k a c) (d6b a c) (a4b k a c) (by kernel_rfl) (fun j v=>by kernel_rfl)
def a4o (k:Nat) (e:LL) (c:Int) (d:LL) (a:Outs) (f:Bool):OO:=
 bif f then
  so_ (j0v a)
 else
  chk (decide ((([]:LL).length+d.length)*8≤140737488355328)) <|
  chk (decide (((a.t 1).asR.length+([[.i c,.r (([]:LL)++d)]]:LL).length)*32≤140737488355328)) <|
  BK_ k N.j7q [vr_ e,vi_ c] fun g=>
  so_ [.r (a.t 0).asR,.r ((a.t 1).asR++([[.i c,.r (([]:LL)++d)]]:LL)),.b (a.t 2).asB,.r (g.t 0).asR,.b true]
def c5f (k:Nat) (f g:LL) (h:Bool) (a:LL) (c:Int) (d:LL):OO:=
 BK_ k N.j2m [.v (S5_ f g h a)] fun e=>
 BK_ k N.j2c [.v (S5_ f g h a)] fun l=>
 bif (!(l.t 0).asB) then
  a4o k a c d e true
 else
  bif h then
   a4o k a c d e true
  else
   BK_ k N.j1s [vi_ c,vi_ 0,vi_ (W64 ((f.length:Int) - 1))] fun m=>
   bif (!(m.t 0).asB) then
    a4o k a c d e true
   else
    BK_ k N.j3q [vr_ d] fun n=>
    bif (!(n.t 0).asB) then
     a4o k a c d e true
    else
     a4o k a c d e (decide ((g.length:Int)≥60))
theorem e5l (k:Nat) (a c:LL) (d:Bool) (e:LL) (f:Int) (g:LL):a0a E P0 (k+1) N.j4w [.v (S5_ a c d e),vi_ f,vr_ g]=c5f k a c d e f g:=by kernel_rfl
def d8m (k:Nat) (f g h:Int) (d:LL) (l m n o q:Int) (u:LL) (w:Int) (x y:Bool) (c z:Int) (A:LL):OO:=
 ck_ c d <|
 bif (at_ d c.toNat 2).asB then
  some ⟨[],[(S0_ f g h d l m n o q u w x y)]⟩
 else
  BK_ k N.j4v [.p (S0_ f g h d l m n o q u w x y)] fun a=>
  bif (!(a.t 0).asB) then
   some ⟨[],[(S1_ a)]⟩
  else
   chk (decide (0≤c)&&decide (c<((a.vt 0 3).asR.length:Int))) <|
   BK_ k N.j4w [.v (S5_ (at_ (a.vt 0 3).asR c.toNat 0).asR (at_ (a.vt 0 3).asR c.toNat 1).asR (at_ (a.vt 0 3).asR c.toNat 2).asB (at_ (a.vt 0 3).asR c.toNat 3).asR),vi_ z,vr_ A] fun e=>
   chk (decide (0≤c)&&decide (c<((a.vt 0 3).asR.length:Int))) <|
   some ⟨[],[[.i (a.vt 0 0).asI,.i (a.vt 0 1).asI,.i (a.vt 0 2).asI,.r (a0x (a.vt 0 3).asR c.toNat 0 (i7y e)),.i (a.vt 0 4).asI,.i (a.vt 0 5).asI,.i (a.vt 0 6).asI,.i (a.vt 0 7).asI,.i (a.vt 0 8).asI,.r (a.vt 0 9).asR,.i (a.vt 0 10).asI,.b (a.vt 0 11).asB,.b (a.vt 0 12).asB]]⟩
theorem g3b (k:Nat) (a c d:Int) (e:LL) (f g h l m:Int) (n:LL) (o:Int) (q t:Bool) (u w:Int) (x:LL):a0a E P0 (k+1) N.j3t [.p (S0_ a c d e f g h l m n o q t),vi_ u,vi_ w,vr_ x]=d8m k a c d e f g h l m n o q t u w x:=by kernel_rfl
def b4l (k:Nat) (z:(V3_)→OO):(V3_)→OO:=fun (d,f,g,h,l,m,q,n,e,u,w,x,o,y)=>
 bif (decide (d<(o.length:Int))) then
  BK_ k N.j7p [.v (i2q f e d g h n l m)] fun A=>
  BK_ k N.j3t [.p (S0_ f g h o l m q n e y u w x),vi_ d,vi_ (Int.tmod e 2),vr_ (A.t 0).asR] fun a=>
  z ((W64 (d+1)),(a.vt 0 0).asI,(a.vt 0 1).asI,(a.vt 0 2).asI,(a.vt 0 4).asI,(a.vt 0 5).asI,(a.vt 0 6).asI,(a.vt 0 7).asI,(a.vt 0 8).asI,(a.vt 0 10).asI,(a.vt 0 11).asB,(a.vt 0 12).asB,(a.vt 0 3).asR,(a.vt 0 9).asR)
 else
  BK_ k N.j3s [.p (S0_ f g h o l m q n e y u w x)] fun c=>
  some ⟨[],[(S1_ c)]⟩
def f1b:List Nat:=[0,2,61]
def f1c:(V3_)→St:=fun (a,c,d,e,f,g,h,l,m,n,o,p,q,r)=>ST_ [(0,.ptr (0,0) 0),(2,.w_ a),(61,.skip)] [((0,0),.var [.w_ c,.w_ d,.w_ e,.ref (0,4),.w_ f,.w_ g,.w_ h,.w_ l,.w_ m,.ref (0,10),.w_ n,.b o,.b p]),((0,4),.row 135 true q),((0,10),.row 137 true r)]
def c2o (k:Nat) (a b c:Int) (d:LL) (e f g h i:Int) (l:LL) (m:Int) (n o:Bool) (p:(V3_)→OO):OO:=
 p (0,a,b,c,e,f,g,h,(W64 (i+1)),m,n,o,d,l)
def d3k (k:Nat) (a b c:Int) (d:LL) (e f g h i:Int) (l:LL) (m:Int) (n o:Bool):OO:=
 c2o k a b c d e f g h i l m n o (fun v=>a1k (b4l k) k v)
theorem f7x (k:Nat) (a c d:Int) (e:LL) (f g h l m:Int) (n:LL) (o:Int) (q t:Bool):a0a E P0 (k+1) N.j7r [.p (S0_ a c d e f g h l m n o q t)]=d3k k a c d e f g h l m n o q t:=a2c [0] [.sr,.sl,.sr,.bl] f1b (c2o k a c d e f g h l m n o q t) (f1c) (b4l k) (by kernel_rfl) (fun j v=>by kernel_rfl)
def c8x (k:Nat) (d e f:Int) (g:LL) (h l m n o:Int) (q:LL) (t:Int) (u w:Bool):OO:=
 BK_ k N.j3s [.p (S0_ d e f g h l m n o q t u w)] fun a=>
 bif (a.vt 0 11).asB then
  some ⟨[],[(S1_ a)]⟩
 else
  BK_ k N.j7r [.p (j0w a)] fun c=>
  some ⟨[],[(S1_ c)]⟩
theorem f1d (k:Nat) (a c d:Int) (e:LL) (f g h l m:Int) (n:LL) (o:Int) (q t:Bool):a0a E P0 (k+1) N.j7s [.p (S0_ a c d e f g h l m n o q t)]=c8x k a c d e f g h l m n o q t:=by kernel_rfl
def d3l (k:Nat) (a:Int):OO:=
 bif (decide (a<0)) then so_ [.i (-1)] else so_ [.i (W64 (2+(Int.tmod a 4)))]
theorem f7y (k:Nat) (a:Int):a0a E P0 (k+1) N.j7t [vi_ a]=d3l k a:=by kernel_rfl
def d8n (k:Nat) (c d:Int) (a:LL):OO:=
 BK_ k N.j1s [vi_ c,vi_ 0,vi_ 60000] fun e=>
 bif (e.t 0).asB then
  BK_ k N.j1s [vi_ d,vi_ 0,vi_ 7] fun f=>
  bif (f.t 0).asB then
   BK_ k N.j1s [vi_ (a.length:Int),vi_ 2,vi_ 4] fun g=>
   bif (g.t 0).asB then
    BK_ k N.j2h [vr_ a] fun h=>
    so_ [.b (h.t 0).asB]
   else
    so_ [.b false]
  else
   so_ [.b false]
 else
  so_ [.b false]
theorem g3c (k:Nat) (a b:Int) (c:LL):a0a E P0 (k+1) N.j7u [.v (S4_ a b c)]=d8n k a b c:=by kernel_rfl
def d3m (k:Nat) (b c:Int) (a:LL):OO:=
 BK_ k N.j7u [.v (S4_ b c a)] fun d=>
 bif (!(d.t 0).asB) then
  so_ [.r []]
 else
  chk (decide ((([[.i 21322],[.i b],[.i c],[.i (a.length:Int)]]:LL).length+a.length)*8≤140737488355328)) <|
  so_ [.r (([[.i 21322],[.i b],[.i c],[.i (a.length:Int)]]:LL)++a)]
theorem f7z (k:Nat) (a b:Int) (c:LL):a0a E P0 (k+1) N.j7v [.v (S4_ a b c)]=d3m k a b c:=by kernel_rfl
def b6p (k:Nat) (f A:Int) (B:LL) (C:(V3_)→OO):(V3_)→OO:=fun (d,g,h,l,m,n,o,q,u,w,x,y,e,z)=>
 bif (decide (d<(e.length:Int))) then
  BK_ k N.j7t [vi_ f] fun D=>
  BK_ k N.j7v [.v (S4_ f A B)] fun F=>
  BK_ k N.j3t [.p (S0_ g h l e m n o q u z w x y),vi_ d,vi_ (D.t 0).asI,vr_ (F.t 0).asR] fun a=>
  C ((W64 (d+1)),(a.vt 0 0).asI,(a.vt 0 1).asI,(a.vt 0 2).asI,(a.vt 0 4).asI,(a.vt 0 5).asI,(a.vt 0 6).asI,(a.vt 0 7).asI,(a.vt 0 8).asI,(a.vt 0 10).asI,(a.vt 0 11).asB,(a.vt 0 12).asB,(a.vt 0 3).asR,(a.vt 0 9).asR)
 else
  BK_ k N.j3s [.p (S0_ g h l e m n o q u z w x y)] fun c=>
  some ⟨[],[(S1_ c)]⟩
def f8a:List Nat:=[0,3,4,22]
def f8b (a c:Int) (d:LL):(V3_)→St:=fun (e,f,g,h,l,m,n,o,p,q,r,t,u,w)=>ST_ [(0,.ptr (0,0) 0),(3,.ptr (3,0) 0),(4,.w_ e),(22,.skip)] [((0,0),.var [.w_ f,.w_ g,.w_ h,.ref (0,4),.w_ l,.w_ m,.w_ n,.w_ o,.w_ p,.ref (0,10),.w_ q,.b r,.b t]),((0,4),.row 135 true u),((0,10),.row 137 true w),((3,0),.var [.w_ a,.w_ c,.sl 3 d])]
def c5g (k:Nat) (a b c:Int) (d:LL) (e f g h i:Int) (l:LL) (m:Int) (n o:Bool) (q r:Int) (t:LL) (p:(V3_)→OO):OO:=
 p (0,a,b,c,e,f,g,h,i,m,n,o,d,l)
def d8o (k:Nat) (d e f:Int) (g:LL) (h i l m n:Int) (o:LL) (p:Int) (q r:Bool) (a b:Int) (c:LL):OO:=
 c5g k d e f g h i l m n o p q r a b c (fun v=>a1k (b6p k a b c) k v)
theorem g3d (k:Nat) (e f g:Int) (h:LL) (l m n o q:Int) (t:LL) (u:Int) (w x:Bool) (a c:Int) (d:LL):a0a E P0 (k+1) N.j4x [.p (S0_ e f g h l m n o q t u w x),.v (S4_ a c d)]=d8o k e f g h l m n o q t u w x a c d:=a2c [0] [.sr,.sl,.sr,.bl] f8a (c5g k e f g h l m n o q t u w x a c d) (f8b a c d) (b6p k a c d) (by kernel_rfl) (fun j v=>by kernel_rfl)
def b6q (k:Nat) (b:LL) (d:(V1_)→OO):(V1_)→OO:=fun (c,a)=>
 bif (decide (a<(b.length:Int))) then
  chk (decide (0≤a)&&decide (a<(b.length:Int))) <|
  d ((c4l .i64 c (at_ b a.toNat 0).asI),(W64 (a+1)))
 else
  some ⟨[.i c],[]⟩
def f8c:List Nat:=[0,2,3,4,17]
def f8d (a:LL):(V1_)→St:=fun (b,c)=>⟨a3q [(0,.sl 3 a),(2,.i .i64 0),(3,.i .i64 b),(4,.i .i64 c),(17,.skip)],a1f []⟩
def c5h (k:Nat) (b:LL) (a:(V1_)→OO):OO:=
 a (0,0)
def d8p (k:Nat) (a:LL):OO:=
 c5h k a (fun v=>a1k (b6q k a) k v)
theorem g3e (k:Nat) (a:LL):a0a E P0 (k+1) N.j7w [.v [.r a]]=d8p k a:=a2c [] [.sr,.sr,.sl,.sr,.bl] f8c (c5h k a) (f8d a) (b6q k a) (by kernel_rfl) (fun j v=>by kernel_rfl)
def c1g (k:Nat) (a:LL):OO:=
 BK_ k N.j7w [vr_ a] fun b=>
 so_ [.i (b.t 0).asI]
theorem d6c (k:Nat) (a:LL):a0a E P0 (k+1) N.j7x [vr_ a]=c1g k a:=by kernel_rfl
def b4m (k:Nat) (y:Int) (d e:Bool) (c f g h l m n o q u:Int) (w x:LL) (z:(V3_)→OO) (A:Int):OO:=
 BK_ k N.j4n [.v (S0_ f g h w l m n o q x u d e),vi_ c,vi_ y] fun B=>
 bif (B.t 0).asB then
  BK_ k N.j4o [vi_ y] fun C=>
  BK_ k N.j3t [.p (S0_ f g h w l m n o q x u d e),vi_ c,vi_ (C.t 0).asI,vr_ [[.i A]]] fun a=>
  z ((W64 (c+1)),(a.vt 0 0).asI,(a.vt 0 1).asI,(a.vt 0 2).asI,(a.vt 0 4).asI,(a.vt 0 5).asI,(a.vt 0 6).asI,(a.vt 0 7).asI,(a.vt 0 8).asI,(a.vt 0 10).asI,(a.vt 0 11).asB,(a.vt 0 12).asB,(a.vt 0 3).asR,(a.vt 0 9).asR)
 else
  z ((W64 (c+1)),f,g,h,l,m,n,o,q,u,d,e,w,x)
def b4n (k:Nat) (y:Int) (f:LL) (d:Outs) (z:(V3_)→OO):(V3_)→OO:=fun (c,g,a,h,l,m,n,o,p,q,u,w,e,x)=>
 bif (decide (c<(e.length:Int))) then
  BK_ k N.j7x [vr_ f] fun A=>
  bif (c != (d.t 0).asI) then
   chk (!decide (a=0)) <|
   chk (decide (0≤(Int.tmod (W64 ((W64 ((W64 (c - (d.t 0).asI)) - 1))+a)) a))&&decide ((Int.tmod (W64 ((W64 ((W64 (c - (d.t 0).asI)) - 1))+a)) a)<(f.length:Int))) <|
   b4m k y u w c g a h l m n o p q e x z ((at_ f (Int.tmod (W64 ((W64 ((W64 (c - (d.t 0).asI)) - 1))+a)) a).toNat 0).asI)
  else
   b4m k y u w c g a h l m n o p q e x z ((A.t 0).asI)
 else
  some ⟨[],[(S0_ g a h e l m n o p x q u w)]⟩
def f1e:List Nat:=[0,1,2,6,7]
def c8y (a:Int) (c:LL) (d:Outs):(V3_)→St:=fun (e,f,g,h,l,m,n,o,p,q,r,u,w,x)=>ST_ [(0,.ptr (0,0) 0),(1,.w_ a),(2,.sl 3 c),(6,.w_ (d.t 0).asI),(7,.w_ e)] [((0,0),.var [.w_ f,.w_ g,.w_ h,.ref (0,4),.w_ l,.w_ m,.w_ n,.w_ o,.w_ p,.ref (0,10),.w_ q,.b r,.b u]),((0,4),.row 135 true w),((0,10),.row 137 true x)]
def b6r (k:Nat) (c a b:Int) (d:LL) (e f g h l:Int) (m:LL) (n:Int) (o p:Bool) (q:Int) (u:LL) (r:Outs→(V3_)→OO):OO:=
 BK_ k N.j4q [.v [.i a,.i b],vi_ q] fun t=>
 r t (0,c,a,b,e,f,g,h,l,n,o,p,d,m)
def d3n (k:Nat) (c d e:Int) (f:LL) (g h i l m:Int) (n:LL) (o:Int) (p q:Bool) (a:Int) (b:LL):OO:=
 b6r k c d e f g h i l m n o p q a b (fun r v=>a1k (b4n k a b r) k v)
def e5m (k:Nat) (a c d:Int) (e:LL) (f g h l m:Int) (n:LL) (o:Int) (q t:Bool) (u:Int) (w:LL) (js:List Nat) (j:Nat) (s:St):OO:=IT_ k N.j2u [.p (S0_ a c d e f g h l m n o q t),vi_ u,vr_ w] [0] [.sr,.sr,.bl] f1e js j s
theorem f8e (k:Nat) (d e f:Int) (g:LL) (h l m n o:Int) (q:LL) (t:Int) (u w:Bool) (a:Int) (c:LL):a0a E P0 (k+1) N.j2u [.p (S0_ d e f g h l m n o q t u w),vi_ a,vr_ c]=d3n k d e f g h l m n o q t u w a c:=
 Eq.trans (b:=b6r k d e f g h l m n o q t u w a c (fun x v=>e5m k d e f g h l m n o q t u w a c [] k (c8y a c x v))) (by kernel_rfl) (congrArg (b6r k d e f g h l m n o q t u w a c) (funext fun x=>funext fun v=>a1v (c8y a c x) (b4n k a c x) (fun j v=>by kernel_rfl) k v))
def c8z (k:Nat) (o q t:Int) (u:LL) (w x h l y:Int) (z:LL) (A:Int) (m B:Bool) (n:Int) (g:LL):OO:=
 bif (decide ((W64 (h - l))≥4)) then
  BK_ k N.j7s [.p (S0_ o q t u w x h l y z A m B)] fun a=>
  bif (a.vt 0 11).asB then
   some ⟨[.i 6],[(S1_ a)]⟩
  else
   chk (decide ((([]:LL).length+g.length)*8≤140737488355328)) <|
   BK_ k N.j4x [.p (S1_ a),.v [.i (a.vt 0 6).asI,.i n,.r (([]:LL)++g)]] fun c=>
   bif (c.vt 0 11).asB then
    some ⟨[.i 6],[(S1_ c)]⟩
   else
    BK_ k N.j2u [.p (i9o c (W64 ((c.vt 0 6).asI+1))),vi_ n,vr_ g] fun d=>
    bif (d.vt 0 11).asB then
     some ⟨[.i 6],[(S1_ d)]⟩
    else
     some ⟨[.i 0],[(S1_ d)]⟩
 else
  bif m then
   some ⟨[.i 6],[(S0_ o q t u w x h l y z A m B)]⟩
  else
   chk (decide ((([]:LL).length+g.length)*8≤140737488355328)) <|
   BK_ k N.j4x [.p (S0_ o q t u w x h l y z A m B),.v (S4_ h n (([]:LL)++g))] fun e=>
   bif (e.vt 0 11).asB then
    some ⟨[.i 6],[(S1_ e)]⟩
   else
    BK_ k N.j2u [.p (i9o e (W64 ((e.vt 0 6).asI+1))),vi_ n,vr_ g] fun f=>
    bif (f.vt 0 11).asB then
     some ⟨[.i 6],[(S1_ f)]⟩
    else
     some ⟨[.i 0],[(S1_ f)]⟩
theorem f1f (k:Nat) (a c d:Int) (e:LL) (f g h l m:Int) (n:LL) (o:Int) (q t:Bool) (u:Int) (w:LL):a0a E P0 (k+1) N.j4y [.p (S0_ a c d e f g h l m n o q t),vi_ u,vr_ w]=c8z k a c d e f g h l m n o q t u w:=by kernel_rfl
def c9a (k:Nat) (e f g:Int) (h:LL) (l m n o q:Int) (d:LL) (u:Int) (w x:Bool) (y:Int):OO:=
 BK_ k N.j4m [.v (S0_ e f g h l m n o q d u w x),vi_ y] fun c=>
 bif (decide ((c.t 0).asI<0)) then
  some ⟨[.i 0],[(S0_ e f g h l m n o q d u w x)]⟩
 else
  chk (decide (0≤(c.t 0).asI)&&decide ((c.t 0).asI<(d.length:Int))) <|
  BK_ k N.j4u [.v (S0_ e f g h l m n o q d u w x),vi_ y,vr_ (at_ d (c.t 0).asI.toNat 1).asR] fun z=>
  bif ((z.t 0).asI != 0) then
   some ⟨[.i (z.t 0).asI],[(S0_ e f g h l m n o q d u w x)]⟩
  else
   chk (decide (0≤(c.t 0).asI)&&decide ((c.t 0).asI<(d.length:Int))) <|
   BK_ k N.j4y [.p (S0_ e f g h l m n o q d u w x),vi_ y,vr_ (at_ d (c.t 0).asI.toNat 1).asR] fun a=>
   bif ((a.t 0).asI == 0) then
    chk (decide (0≤0)&&decide (0≤(c.t 0).asI)&&decide ((c.t 0).asI≤((a.vt 0 9).asR.length:Int))) <|
    chk (decide ((([]:LL).length+(((a.vt 0 9).asR.drop (0:Int).toNat).take ((c.t 0).asI.toNat - (0:Int).toNat)).length)*32≤140737488355328)) <|
    chk (decide (0≤(W64 ((c.t 0).asI+1)))&&decide ((W64 ((c.t 0).asI+1))≤((a.vt 0 9).asR.length:Int))&&decide (((a.vt 0 9).asR.length:Int)≤((a.vt 0 9).asR.length:Int))) <|
    chk (decide (((([]:LL)++(((a.vt 0 9).asR.drop (0:Int).toNat).take ((c.t 0).asI.toNat - (0:Int).toNat))).length+(((a.vt 0 9).asR.drop (W64 ((c.t 0).asI+1)).toNat).take (((a.vt 0 9).asR.length:Int).toNat - (W64 ((c.t 0).asI+1)).toNat)).length)*32≤140737488355328)) <|
    some ⟨[.i (a.t 0).asI],[[.i (a.vt 0 0).asI,.i (a.vt 0 1).asI,.i (a.vt 0 2).asI,.r (a.vt 0 3).asR,.i (a.vt 0 4).asI,.i (a.vt 0 5).asI,.i (a.vt 0 6).asI,.i (a.vt 0 7).asI,.i (a.vt 0 8).asI,.r ((([]:LL)++(((a.vt 0 9).asR.drop (0:Int).toNat).take ((c.t 0).asI.toNat - (0:Int).toNat)))++(((a.vt 0 9).asR.drop (W64 ((c.t 0).asI+1)).toNat).take (((a.vt 0 9).asR.length:Int).toNat - (W64 ((c.t 0).asI+1)).toNat))),.i (a.vt 0 10).asI,.b (a.vt 0 11).asB,.b (a.vt 0 12).asB]]⟩
   else
    some ⟨[.i (a.t 0).asI],[(S1_ a)]⟩
theorem f1g (k:Nat) (a c d:Int) (e:LL) (f g h l m:Int) (n:LL) (o:Int) (q t:Bool) (u:Int):a0a E P0 (k+1) N.j4z [.p (S0_ a c d e f g h l m n o q t),vi_ u]=c9a k a c d e f g h l m n o q t u:=by kernel_rfl
def b0m (k:Nat) (e:Int) (a:Outs) (d:Int):OO:=
 bif (d != 0) then
  so_ (S8_ a d)
 else
  BK_ k N.j4z [.p (i4p a),vi_ e] fun c=>
  so_ (i9p c)
def b9d (k:Nat) (g h f:Int) (l:LL) (m n o q u:Int) (w:LL) (x:Int) (y z:Bool) (d:Int):OO:=
 BK_ k N.j2n [.v (S0_ g h f l m n o q u w x y z)] fun a=>
 BK_ k N.j7n [.v (S0_ g h f l m n o q u w x y z)] fun e=>
 bif ((e.t 0).asI == 0) then
  BK_ k N.j1s [vi_ d,vi_ 0,vi_ (W64 (f - 1))] fun A=>
  bif (!(A.t 0).asB) then b0m k d a 2 else b0m k d a ((e.t 0).asI)
 else
  bif ((e.t 0).asI != 0) then
   so_ (j0x a e)
  else
   BK_ k N.j4z [.p (i4p a),vi_ d] fun c=>
   so_ (i9p c)
theorem d3o (k:Nat) (a c d:Int) (e:LL) (f g h l m:Int) (n:LL) (o:Int) (p q:Bool) (t:Int):a0a E P0 (k+1) N.j3b [.v (S0_ a c d e f g h l m n o p q),vi_ t]=b9d k a c d e f g h l m n o p q t:=by kernel_rfl
def b6s (k:Nat) (b:LL) (d:Int) (e:LL) (g:Bool) (a:Int) (c:LL) (f:(V6_)→OO) (h:Bool):OO:=
 bif h then
  chk (decide ((c.length+([[.i d,.r e]]:LL).length)*32≤140737488355328)) <|
  ck_ a b <|
  bif ((at_ b a.toNat 0).asI != d) then
   ck_ a b <|
   chk (decide (((c++([[.i d,.r e]]:LL)).length+([[.i (at_ b a.toNat 0).asI,.r (at_ b a.toNat 1).asR]]:LL).length)*32≤140737488355328)) <|
   f (true,(W64 (a+1)),((c++([[.i d,.r e]]:LL))++([[.i (at_ b a.toNat 0).asI,.r (at_ b a.toNat 1).asR]]:LL)))
  else
   f (true,(W64 (a+1)),(c++([[.i d,.r e]]:LL)))
 else
  ck_ a b <|
  bif ((at_ b a.toNat 0).asI != d) then
   ck_ a b <|
   chk (decide ((c.length+([[.i (at_ b a.toNat 0).asI,.r (at_ b a.toNat 1).asR]]:LL).length)*32≤140737488355328)) <|
   f (g,(W64 (a+1)),(c++([[.i (at_ b a.toNat 0).asI,.r (at_ b a.toNat 1).asR]]:LL)))
  else
   f (g,(W64 (a+1)),c)
def b6t (k:Nat) (h l m:Int) (n:LL) (o p q t u:Int) (c:LL) (w:Int) (x y:Bool) (d:Int) (f:LL) (z:(V6_)→OO):(V6_)→OO:=fun (g,a,e)=>
 bif (decide (a<(c.length:Int))) then
  bif (!g) then
   ck_ a c <|
   b6s k c d f g a e z (decide ((at_ c a.toNat 0).asI≥d))
  else
   b6s k c d f g a e z false
 else
  bif (!g) then
   chk (decide ((e.length+([[.i d,.r f]]:LL).length)*32≤140737488355328)) <|
   some ⟨[],[[.i h,.i l,.i m,.r n,.i o,.i p,.i q,.i t,.i u,.r (e++([[.i d,.r f]]:LL)),.i w,.b x,.b y]]⟩
  else
   some ⟨[],[(S0_ h l m n o p q t u e w x y)]⟩
def f8f:List Nat:=[0,3,4,5,6,57,58,59,60,61,62,63,64,65,66]
def f8g (a c d:Int) (e:LL) (f g h l m:Int) (n:LL) (o:Int) (p q:Bool) (r:Int) (t:LL):(V6_)→St:=fun (u,w,x)=>ST_ [(0,.ptr (0,0) 0),(3,.ptr (3,0) 0),(4,.ref (4,0)),(5,.b u),(6,.w_ w),(57,.skip),(58,.skip),(59,.skip),(60,.skip),(61,.skip),(62,.skip),(63,.skip),(64,.skip),(65,.skip),(66,.skip)] [((0,0),.var [.w_ a,.w_ c,.w_ d,.ref (0,4),.w_ f,.w_ g,.w_ h,.w_ l,.w_ m,.ref (0,10),.w_ o,.b p,.b q]),((0,4),.row 135 true e),((0,10),.row 137 true n),((3,0),.var [.w_ r,.sl 3 t]),((4,0),.row 137 true x)]
def c5i (k:Nat) (b c d:Int) (e:LL) (f g h i l:Int) (m:LL) (n:Int) (o p:Bool) (q:Int) (r:LL) (a:(V6_)→OO):OO:=
 a (false,0,[])
def d8q (k:Nat) (a b c:Int) (d:LL) (e f g h i:Int) (l:LL) (m:Int) (n o:Bool) (p:Int) (q:LL):OO:=
 c5i k a b c d e f g h i l m n o p q (fun v=>a1k (b6t k a b c d e f g h i l m n o p q) k v)
theorem g3f (k:Nat) (a c d:Int) (e:LL) (f g h l m:Int) (n:LL) (o:Int) (q t:Bool) (u:Int) (w:LL):a0a E P0 (k+1) N.j5a [.p (S0_ a c d e f g h l m n o q t),.v [.i u,.r w]]=d8q k a c d e f g h l m n o q t u w:=a2c [0] [.sr,.sr,.sr,.sl,.sr,.bl] f8f (c5i k a c d e f g h l m n o q t u w) (f8g a c d e f g h l m n o q t u w) (b6t k a c d e f g h l m n o q t u w) (by kernel_rfl) (fun j v=>by kernel_rfl)
def d8r (k:Nat) (e c d:Int) (f:LL) (g h l m n:Int) (o:LL) (q:Int) (u w:Bool) (z B:Int):OO:=
 BK_ k N.j2o [.v [.i c,.i d],vi_ z] fun A=>
 BK_ k N.j4s [.v (S0_ e c d f g h l m n o q u w),vi_ (A.t 0).asI] fun x=>
 bif (!(x.t 1).asB) then
  some ⟨[.i 5],[(S0_ e c d f g h l m n o q u w)]⟩
 else
  BK_ k N.j4t [.v [.i c,.i d],vi_ z] fun y=>
  chk (decide (0≤(y.t 0).asI)&&decide ((y.t 0).asI<((x.t 0).asR.length:Int))) <|
  BK_ k N.j5a [.p (S0_ e c d f g h l m n o q u w),.v [.i (A.t 0).asI,.r (a0x (x.t 0).asR (y.t 0).asI.toNat 0 [.i B])]] fun a=>
  some ⟨[.i 0],[(S1_ a)]⟩
theorem g3g (k:Nat) (a c d:Int) (e:LL) (f g h l m:Int) (n:LL) (o:Int) (q t:Bool) (u w:Int):a0a E P0 (k+1) N.j5b [.p (S0_ a c d e f g h l m n o q t),vi_ u,vi_ w]=d8r k a c d e f g h l m n o q t u w:=by kernel_rfl
def b5o (k:Nat) (e f:Int) (a:Outs) (d:Int):OO:=
 bif (d != 0) then
  so_ (S8_ a d)
 else
  BK_ k N.j5b [.p (i4p a),vi_ e,vi_ f] fun c=>
  so_ (i9p c)
def c5j (k:Nat) (g h l:Int) (m:LL) (n o q u w:Int) (x:LL) (y:Int) (z A:Bool) (d e:Int):OO:=
 BK_ k N.j2n [.v (S0_ g h l m n o q u w x y z A)] fun a=>
 BK_ k N.j4l [.v (S0_ g h l m n o q u w x y z A),vi_ d] fun f=>
 bif ((f.t 0).asI == 0) then
  BK_ k N.j4h [vi_ e] fun B=>
  bif (!(B.t 0).asB) then b5o k d e a 3 else b5o k d e a ((f.t 0).asI)
 else
  bif ((f.t 0).asI != 0) then
   so_ (j0x a f)
  else
   BK_ k N.j5b [.p (i4p a),vi_ d,vi_ e] fun c=>
   so_ (i9p c)
theorem e5n (k:Nat) (a c d:Int) (e:LL) (f g h l m:Int) (n:LL) (o:Int) (p q:Bool) (t u:Int):a0a E P0 (k+1) N.j2a [.v (S0_ a c d e f g h l m n o p q),vi_ t,vi_ u]=c5j k a c d e f g h l m n o p q t u:=by kernel_rfl
def a0j (a:Outs) (b c:Int):LL:=a0x (a.t 14).asR b.toNat 0 [.i (at_ (a.t 14).asR b.toNat 0).asI,.i (at_ (a.t 14).asR b.toNat 1).asI,.i (at_ (a.t 14).asR b.toNat 2).asI,.i (at_ (a.t 14).asR b.toNat 3).asI,.r (at_ (a.t 14).asR b.toNat 4).asR,.i (W64 ((at_ (a.t 14).asR b.toNat 5).asI+1)),.r (at_ (a.t 14).asR b.toNat 6).asR,.i c]
def a0l (a:Outs) (b:Int) (c:Outs):LL:=a0x (a.t 14).asR b.toNat 0 [.i (at_ (a.t 14).asR b.toNat 0).asI,.i (at_ (a.t 14).asR b.toNat 1).asI,.i (at_ (a.t 14).asR b.toNat 2).asI,.i (at_ (a.t 14).asR b.toNat 3).asI,.r (at_ (a.t 14).asR b.toNat 4).asR,.i (W64 ((at_ (a.t 14).asR b.toNat 5).asI+1)),.r (at_ (a.t 14).asR b.toNat 6).asR,.i (c.t 13).asI]
def a0p (a:Outs) (b:Int) (c:Outs):LL:=a0x (a.t 14).asR b.toNat 0 [.i (at_ (a.t 14).asR b.toNat 0).asI,.i (at_ (a.t 14).asR b.toNat 1).asI,.i (at_ (a.t 14).asR b.toNat 2).asI,.i (at_ (a.t 14).asR b.toNat 3).asI,.r (at_ (a.t 14).asR b.toNat 4).asR,.i (W64 ((at_ (a.t 14).asR b.toNat 5).asI+1)),.r ((at_ (a.t 14).asR b.toNat 6).asR++([[.i (c.t 0).asI]]:LL)),.i (c.t 1).asI]
def a0v (a:Outs) (b:Int):LL:=a0x (a.t 14).asR b.toNat 0 [.i (at_ (a.t 14).asR b.toNat 0).asI,.i (at_ (a.t 14).asR b.toNat 1).asI,.i (at_ (a.t 14).asR b.toNat 2).asI,.i (at_ (a.t 14).asR b.toNat 3).asI,.r (at_ (a.t 14).asR b.toNat 4).asR,.i (at_ (a.t 14).asR b.toNat 5).asI,.r (at_ (a.t 14).asR b.toNat 6).asR,.i (at_ (a.t 14).asR b.toNat 7).asI]
def a1n (a:Outs):List T:=(i4p a)
def a2e (a:Outs) (b:Int) (c:Outs):List T:=[.i (at_ (a.t 14).asR b.toNat 0).asI,.i (at_ (a.t 14).asR b.toNat 1).asI,.i (at_ (a.t 14).asR b.toNat 2).asI,.i (at_ (a.t 14).asR b.toNat 3).asI,.r (at_ (a.t 14).asR b.toNat 4).asR,.i (at_ (a.t 14).asR b.toNat 1).asI,.i (c.t 13).asI,.r (at_ (a.t 14).asR b.toNat 6).asR]
def a2f (a:Outs) (b c:Int):List T:=[.i (at_ (a.t 14).asR b.toNat 0).asI,.i (at_ (a.t 14).asR b.toNat 1).asI,.i (at_ (a.t 14).asR b.toNat 2).asI,.i (at_ (a.t 14).asR b.toNat 3).asI,.r (at_ (a.t 14).asR b.toNat 4).asR,.i (at_ (a.t 14).asR b.toNat 1).asI,.i c,.r (at_ (a.t 14).asR b.toNat 6).asR]
def a2g (a:Outs) (b:Int) (c:Outs):List T:=[.i (at_ (a.t 14).asR b.toNat 0).asI,.i (at_ (a.t 14).asR b.toNat 1).asI,.i (at_ (a.t 14).asR b.toNat 2).asI,.i (at_ (a.t 14).asR b.toNat 3).asI,.r (at_ (a.t 14).asR b.toNat 4).asR,.i (at_ (a.t 14).asR b.toNat 1).asI,.i (c.t 13).asI,.r []]
def a2h (a:Outs) (b c:Int):List T:=[.i (at_ (a.t 14).asR b.toNat 0).asI,.i (at_ (a.t 14).asR b.toNat 1).asI,.i (at_ (a.t 14).asR b.toNat 2).asI,.i (at_ (a.t 14).asR b.toNat 3).asI,.r (at_ (a.t 14).asR b.toNat 4).asR,.i (at_ (a.t 14).asR b.toNat 1).asI,.i c,.r []]
def b9e (k:Nat) (a:Outs) (c:LL):OO:=
 so_ (j0y a c)
def b5a (k:Nat) (a:Outs) (c d e:LL):OO:=
 so_ (j0z a c d e)
def d8s (k:Nat) (a:Int) (b c:Outs) (f:Bool):OO:=
 bif f then
  chk (decide (0≤0)&&decide (0≤a)&&decide (a≤((a0p b a c).length:Int))) <|
  chk (decide ((([]:LL).length+(((a0p b a c).drop (0:Int).toNat).take (a.toNat - (0:Int).toNat)).length)*96≤140737488355328)) <|
  chk (decide (0≤(W64 (a+1)))&&decide ((W64 (a+1))≤((a0p b a c).length:Int))&&decide (((a0p b a c).length:Int)≤((a0p b a c).length:Int))) <|
  chk (decide (((([]:LL)++(((a0p b a c).drop (0:Int).toNat).take (a.toNat - (0:Int).toNat))).length+(((a0p b a c).drop (W64 (a+1)).toNat).take (((a0p b a c).length:Int).toNat - (W64 (a+1)).toNat)).length)*96≤140737488355328)) <|
  BK_ k N.j1w [.v [.i (at_ (b.t 14).asR a.toNat 1).asI,.i (c.t 1).asI,.r ((at_ (b.t 14).asR a.toNat 6).asR++([[.i (c.t 0).asI]]:LL))]] fun d=>
  chk (decide (((b.t 15).asR.length+([(S3_ d)]:LL).length)*40≤140737488355328)) <|
  chk (decide (((b.t 16).asR.length+([[.i (at_ (b.t 14).asR a.toNat 0).asI,.i (at_ (b.t 14).asR a.toNat 1).asI,.i (at_ (b.t 14).asR a.toNat 2).asI,.i (at_ (b.t 14).asR a.toNat 3).asI,.r (at_ (b.t 14).asR a.toNat 4).asR,.i (at_ (b.t 14).asR a.toNat 1).asI,.i (c.t 1).asI,.r ((at_ (b.t 14).asR a.toNat 6).asR++([[.i (c.t 0).asI]]:LL))]]:LL).length)*96≤140737488355328)) <|
  b5a k b ((([]:LL)++(((a0p b a c).drop (0:Int).toNat).take (a.toNat - (0:Int).toNat)))++(((a0p b a c).drop (W64 (a+1)).toNat).take (((a0p b a c).length:Int).toNat - (W64 (a+1)).toNat))) ((b.t 15).asR++([(S3_ d)]:LL)) ((b.t 16).asR++([[.i (at_ (b.t 14).asR a.toNat 0).asI,.i (at_ (b.t 14).asR a.toNat 1).asI,.i (at_ (b.t 14).asR a.toNat 2).asI,.i (at_ (b.t 14).asR a.toNat 3).asI,.r (at_ (b.t 14).asR a.toNat 4).asR,.i (at_ (b.t 14).asR a.toNat 1).asI,.i (c.t 1).asI,.r ((at_ (b.t 14).asR a.toNat 6).asR++([[.i (c.t 0).asI]]:LL))]]:LL))
 else
  chk (decide (0≤0)&&decide (0≤a)&&decide (a≤((a0p b a c).length:Int))) <|
  chk (decide ((([]:LL).length+(((a0p b a c).drop (0:Int).toNat).take (a.toNat - (0:Int).toNat)).length)*96≤140737488355328)) <|
  chk (decide (0≤(W64 (a+1)))&&decide ((W64 (a+1))≤((a0p b a c).length:Int))&&decide (((a0p b a c).length:Int)≤((a0p b a c).length:Int))) <|
  chk (decide (((([]:LL)++(((a0p b a c).drop (0:Int).toNat).take (a.toNat - (0:Int).toNat))).length+(((a0p b a c).drop (W64 (a+1)).toNat).take (((a0p b a c).length:Int).toNat - (W64 (a+1)).toNat)).length)*96≤140737488355328)) <|
  BK_ k N.j1w [.v [.i (at_ (b.t 14).asR a.toNat 1).asI,.i (c.t 1).asI,.r []]] fun e=>
  chk (decide (((b.t 15).asR.length+([(S3_ e)]:LL).length)*40≤140737488355328)) <|
  chk (decide (((b.t 16).asR.length+([[.i (at_ (b.t 14).asR a.toNat 0).asI,.i (at_ (b.t 14).asR a.toNat 1).asI,.i (at_ (b.t 14).asR a.toNat 2).asI,.i (at_ (b.t 14).asR a.toNat 3).asI,.r (at_ (b.t 14).asR a.toNat 4).asR,.i (at_ (b.t 14).asR a.toNat 1).asI,.i (c.t 1).asI,.r []]]:LL).length)*96≤140737488355328)) <|
  b5a k b ((([]:LL)++(((a0p b a c).drop (0:Int).toNat).take (a.toNat - (0:Int).toNat)))++(((a0p b a c).drop (W64 (a+1)).toNat).take (((a0p b a c).length:Int).toNat - (W64 (a+1)).toNat))) ((b.t 15).asR++([(S3_ e)]:LL)) ((b.t 16).asR++([[.i (at_ (b.t 14).asR a.toNat 0).asI,.i (at_ (b.t 14).asR a.toNat 1).asI,.i (at_ (b.t 14).asR a.toNat 2).asI,.i (at_ (b.t 14).asR a.toNat 3).asI,.r (at_ (b.t 14).asR a.toNat 4).asR,.i (at_ (b.t 14).asR a.toNat 1).asI,.i (c.t 1).asI,.r []]]:LL))
def b5b (k:Nat) (a:Int) (b:Outs) (c:Int) (f:Bool):OO:=
 bif f then
  chk (decide (0≤0)&&decide (0≤a)&&decide (a≤((a0j b a c).length:Int))) <|
  chk (decide ((([]:LL).length+(((a0j b a c).drop (0:Int).toNat).take (a.toNat - (0:Int).toNat)).length)*96≤140737488355328)) <|
  chk (decide (0≤(W64 (a+1)))&&decide ((W64 (a+1))≤((a0j b a c).length:Int))&&decide (((a0j b a c).length:Int)≤((a0j b a c).length:Int))) <|
  chk (decide (((([]:LL)++(((a0j b a c).drop (0:Int).toNat).take (a.toNat - (0:Int).toNat))).length+(((a0j b a c).drop (W64 (a+1)).toNat).take (((a0j b a c).length:Int).toNat - (W64 (a+1)).toNat)).length)*96≤140737488355328)) <|
  BK_ k N.j1w [.v (S4_ (at_ (b.t 14).asR a.toNat 1).asI c (at_ (b.t 14).asR a.toNat 6).asR)] fun d=>
  chk (decide (((b.t 15).asR.length+([(S3_ d)]:LL).length)*40≤140737488355328)) <|
  chk (decide (((b.t 16).asR.length+([(a2f b a c)]:LL).length)*96≤140737488355328)) <|
  b5a k b ((([]:LL)++(((a0j b a c).drop (0:Int).toNat).take (a.toNat - (0:Int).toNat)))++(((a0j b a c).drop (W64 (a+1)).toNat).take (((a0j b a c).length:Int).toNat - (W64 (a+1)).toNat))) ((b.t 15).asR++([(S3_ d)]:LL)) ((b.t 16).asR++([(a2f b a c)]:LL))
 else
  chk (decide (0≤0)&&decide (0≤a)&&decide (a≤((a0j b a c).length:Int))) <|
  chk (decide ((([]:LL).length+(((a0j b a c).drop (0:Int).toNat).take (a.toNat - (0:Int).toNat)).length)*96≤140737488355328)) <|
  chk (decide (0≤(W64 (a+1)))&&decide ((W64 (a+1))≤((a0j b a c).length:Int))&&decide (((a0j b a c).length:Int)≤((a0j b a c).length:Int))) <|
  chk (decide (((([]:LL)++(((a0j b a c).drop (0:Int).toNat).take (a.toNat - (0:Int).toNat))).length+(((a0j b a c).drop (W64 (a+1)).toNat).take (((a0j b a c).length:Int).toNat - (W64 (a+1)).toNat)).length)*96≤140737488355328)) <|
  BK_ k N.j1w [.v (S9_ (at_ (b.t 14).asR a.toNat 1).asI c)] fun e=>
  chk (decide (((b.t 15).asR.length+([(S3_ e)]:LL).length)*40≤140737488355328)) <|
  chk (decide (((b.t 16).asR.length+([(a2h b a c)]:LL).length)*96≤140737488355328)) <|
  b5a k b ((([]:LL)++(((a0j b a c).drop (0:Int).toNat).take (a.toNat - (0:Int).toNat)))++(((a0j b a c).drop (W64 (a+1)).toNat).take (((a0j b a c).length:Int).toNat - (W64 (a+1)).toNat))) ((b.t 15).asR++([(S3_ e)]:LL)) ((b.t 16).asR++([(a2h b a c)]:LL))
def b5c (k:Nat) (a:Int) (b:Outs) (c:Int):OO:=
 chk (decide (0≤a)&&decide (a<((b.t 14).asR.length:Int))) <|
 chk (Nat.beq a.toNat a.toNat) <|
 bif (c == 0) then
  b9e k b (a0j b a c)
 else
  bif ((at_ (b.t 14).asR a.toNat 0).asI == 1) then
   b5b k a b c (c == 0)
  else
   b5b k a b c false
def c5k (k:Nat) (c:Int) (d a:Outs) (e f:LL):OO:=
 so_ (j1a a d ((([]:LL)++(((a0l d c a).drop (0:Int).toNat).take (c.toNat - (0:Int).toNat)))++(((a0l d c a).drop (W64 (c+1)).toNat).take (((a0l d c a).length:Int).toNat - (W64 (c+1)).toNat))) e f)
def b9f (k:Nat) (a:Int) (b c:Outs) (f:Bool):OO:=
 bif f then
  chk (decide (0≤0)&&decide (0≤a)&&decide (a≤((a0l b a c).length:Int))) <|
  chk (decide ((([]:LL).length+(((a0l b a c).drop (0:Int).toNat).take (a.toNat - (0:Int).toNat)).length)*96≤140737488355328)) <|
  chk (decide (0≤(W64 (a+1)))&&decide ((W64 (a+1))≤((a0l b a c).length:Int))&&decide (((a0l b a c).length:Int)≤((a0l b a c).length:Int))) <|
  chk (decide (((([]:LL)++(((a0l b a c).drop (0:Int).toNat).take (a.toNat - (0:Int).toNat))).length+(((a0l b a c).drop (W64 (a+1)).toNat).take (((a0l b a c).length:Int).toNat - (W64 (a+1)).toNat)).length)*96≤140737488355328)) <|
  BK_ k N.j1w [.v [.i (at_ (b.t 14).asR a.toNat 1).asI,.i (c.t 13).asI,.r (at_ (b.t 14).asR a.toNat 6).asR]] fun d=>
  chk (decide (((b.t 15).asR.length+([(S3_ d)]:LL).length)*40≤140737488355328)) <|
  chk (decide (((b.t 16).asR.length+([(a2e b a c)]:LL).length)*96≤140737488355328)) <|
  c5k k a b c ((b.t 15).asR++([(S3_ d)]:LL)) ((b.t 16).asR++([(a2e b a c)]:LL))
 else
  chk (decide (0≤0)&&decide (0≤a)&&decide (a≤((a0l b a c).length:Int))) <|
  chk (decide ((([]:LL).length+(((a0l b a c).drop (0:Int).toNat).take (a.toNat - (0:Int).toNat)).length)*96≤140737488355328)) <|
  chk (decide (0≤(W64 (a+1)))&&decide ((W64 (a+1))≤((a0l b a c).length:Int))&&decide (((a0l b a c).length:Int)≤((a0l b a c).length:Int))) <|
  chk (decide (((([]:LL)++(((a0l b a c).drop (0:Int).toNat).take (a.toNat - (0:Int).toNat))).length+(((a0l b a c).drop (W64 (a+1)).toNat).take (((a0l b a c).length:Int).toNat - (W64 (a+1)).toNat)).length)*96≤140737488355328)) <|
  BK_ k N.j1w [.v [.i (at_ (b.t 14).asR a.toNat 1).asI,.i (c.t 13).asI,.r []]] fun e=>
  chk (decide (((b.t 15).asR.length+([(S3_ e)]:LL).length)*40≤140737488355328)) <|
  chk (decide (((b.t 16).asR.length+([(a2g b a c)]:LL).length)*96≤140737488355328)) <|
  c5k k a b c ((b.t 15).asR++([(S3_ e)]:LL)) ((b.t 16).asR++([(a2g b a c)]:LL))
def c2p (k:Nat) (a:Int) (e f:Bool) (g h:LL) (c:Outs) (l m n o p q u w x d:Int) (y z:LL):OO:=
 so_ [.i l,.i m,.i n,.r g,.i o,.i p,.i q,.i u,.i w,.r h,.i x,.b e,.b f,.r (c.t 13).asR,.r ((([]:LL)++(((a0j c a d).drop (0:Int).toNat).take (a.toNat - (0:Int).toNat)))++(((a0j c a d).drop (W64 (a+1)).toNat).take (((a0j c a d).length:Int).toNat - (W64 (a+1)).toNat))),.r y,.r z,.b true]
def b1v (k:Nat) (a:Int) (f g:Bool) (h l:LL) (b:Outs) (m n o p q u w x y c:Int) (z:Bool):OO:=
 bif z then
  chk (decide (0≤0)&&decide (0≤a)&&decide (a≤((a0j b a c).length:Int))) <|
  chk (decide ((([]:LL).length+(((a0j b a c).drop (0:Int).toNat).take (a.toNat - (0:Int).toNat)).length)*96≤140737488355328)) <|
  chk (decide (0≤(W64 (a+1)))&&decide ((W64 (a+1))≤((a0j b a c).length:Int))&&decide (((a0j b a c).length:Int)≤((a0j b a c).length:Int))) <|
  chk (decide (((([]:LL)++(((a0j b a c).drop (0:Int).toNat).take (a.toNat - (0:Int).toNat))).length+(((a0j b a c).drop (W64 (a+1)).toNat).take (((a0j b a c).length:Int).toNat - (W64 (a+1)).toNat)).length)*96≤140737488355328)) <|
  BK_ k N.j1w [.v (S4_ (at_ (b.t 14).asR a.toNat 1).asI c (at_ (b.t 14).asR a.toNat 6).asR)] fun d=>
  chk (decide (((b.t 15).asR.length+([(S3_ d)]:LL).length)*40≤140737488355328)) <|
  chk (decide (((b.t 16).asR.length+([(a2f b a c)]:LL).length)*96≤140737488355328)) <|
  c2p k a f g h l b m n o p q u w x y c ((b.t 15).asR++([(S3_ d)]:LL)) ((b.t 16).asR++([(a2f b a c)]:LL))
 else
  chk (decide (0≤0)&&decide (0≤a)&&decide (a≤((a0j b a c).length:Int))) <|
  chk (decide ((([]:LL).length+(((a0j b a c).drop (0:Int).toNat).take (a.toNat - (0:Int).toNat)).length)*96≤140737488355328)) <|
  chk (decide (0≤(W64 (a+1)))&&decide ((W64 (a+1))≤((a0j b a c).length:Int))&&decide (((a0j b a c).length:Int)≤((a0j b a c).length:Int))) <|
  chk (decide (((([]:LL)++(((a0j b a c).drop (0:Int).toNat).take (a.toNat - (0:Int).toNat))).length+(((a0j b a c).drop (W64 (a+1)).toNat).take (((a0j b a c).length:Int).toNat - (W64 (a+1)).toNat)).length)*96≤140737488355328)) <|
  BK_ k N.j1w [.v (S9_ (at_ (b.t 14).asR a.toNat 1).asI c)] fun e=>
  chk (decide (((b.t 15).asR.length+([(S3_ e)]:LL).length)*40≤140737488355328)) <|
  chk (decide (((b.t 16).asR.length+([(a2h b a c)]:LL).length)*96≤140737488355328)) <|
  c2p k a f g h l b m n o p q u w x y c ((b.t 15).asR++([(S3_ e)]:LL)) ((b.t 16).asR++([(a2h b a c)]:LL))
def b1w (k:Nat) (a:Int) (c:Outs) (e f g:Int) (h:LL) (l m n o p:Int) (q:LL) (u:Int) (w x:Bool) (d:Int):OO:=
 chk (decide (0≤a)&&decide (a<((c.t 14).asR.length:Int))) <|
 chk (Nat.beq a.toNat a.toNat) <|
 bif (d == 0) then
  so_ [.i e,.i f,.i g,.r h,.i l,.i m,.i n,.i o,.i p,.r q,.i u,.b w,.b x,.r (c.t 13).asR,.r (a0j c a d),.r (c.t 15).asR,.r (c.t 16).asR,.b true]
 else
  bif ((at_ (c.t 14).asR a.toNat 0).asI == 1) then
   b1v k a w x h q c e f g l m n o p u d (d == 0)
  else
   b1v k a w x h q c e f g l m n o p u d false
def c2q (k:Nat) (c:Int) (d a:Outs) (e f:LL):OO:=
 so_ (j1a a d ((([]:LL)++(((a0l d c a).drop (0:Int).toNat).take (c.toNat - (0:Int).toNat)))++(((a0l d c a).drop (W64 (c+1)).toNat).take (((a0l d c a).length:Int).toNat - (W64 (c+1)).toNat))) e f)
def b6u (k:Nat) (a:Int) (b c:Outs) (f:Bool):OO:=
 bif f then
  chk (decide (0≤0)&&decide (0≤a)&&decide (a≤((a0l b a c).length:Int))) <|
  chk (decide ((([]:LL).length+(((a0l b a c).drop (0:Int).toNat).take (a.toNat - (0:Int).toNat)).length)*96≤140737488355328)) <|
  chk (decide (0≤(W64 (a+1)))&&decide ((W64 (a+1))≤((a0l b a c).length:Int))&&decide (((a0l b a c).length:Int)≤((a0l b a c).length:Int))) <|
  chk (decide (((([]:LL)++(((a0l b a c).drop (0:Int).toNat).take (a.toNat - (0:Int).toNat))).length+(((a0l b a c).drop (W64 (a+1)).toNat).take (((a0l b a c).length:Int).toNat - (W64 (a+1)).toNat)).length)*96≤140737488355328)) <|
  BK_ k N.j1w [.v [.i (at_ (b.t 14).asR a.toNat 1).asI,.i (c.t 13).asI,.r (at_ (b.t 14).asR a.toNat 6).asR]] fun d=>
  chk (decide (((b.t 15).asR.length+([(S3_ d)]:LL).length)*40≤140737488355328)) <|
  chk (decide (((b.t 16).asR.length+([(a2e b a c)]:LL).length)*96≤140737488355328)) <|
  c2q k a b c ((b.t 15).asR++([(S3_ d)]:LL)) ((b.t 16).asR++([(a2e b a c)]:LL))
 else
  chk (decide (0≤0)&&decide (0≤a)&&decide (a≤((a0l b a c).length:Int))) <|
  chk (decide ((([]:LL).length+(((a0l b a c).drop (0:Int).toNat).take (a.toNat - (0:Int).toNat)).length)*96≤140737488355328)) <|
  chk (decide (0≤(W64 (a+1)))&&decide ((W64 (a+1))≤((a0l b a c).length:Int))&&decide (((a0l b a c).length:Int)≤((a0l b a c).length:Int))) <|
  chk (decide (((([]:LL)++(((a0l b a c).drop (0:Int).toNat).take (a.toNat - (0:Int).toNat))).length+(((a0l b a c).drop (W64 (a+1)).toNat).take (((a0l b a c).length:Int).toNat - (W64 (a+1)).toNat)).length)*96≤140737488355328)) <|
  BK_ k N.j1w [.v [.i (at_ (b.t 14).asR a.toNat 1).asI,.i (c.t 13).asI,.r []]] fun e=>
  chk (decide (((b.t 15).asR.length+([(S3_ e)]:LL).length)*40≤140737488355328)) <|
  chk (decide (((b.t 16).asR.length+([(a2g b a c)]:LL).length)*96≤140737488355328)) <|
  c2q k a b c ((b.t 15).asR++([(S3_ e)]:LL)) ((b.t 16).asR++([(a2g b a c)]:LL))
def b6v (k:Nat) (c:Int) (a:Outs) (d e:LL):OO:=
 so_ (j0z a ((([]:LL)++(((a0v a c).drop (0:Int).toNat).take (c.toNat - (0:Int).toNat)))++(((a0v a c).drop (W64 (c+1)).toNat).take (((a0v a c).length:Int).toNat - (W64 (c+1)).toNat))) d e)
def a5v (k:Nat) (a:Int) (b:Outs) (e:Bool):OO:=
 bif e then
  chk (Nat.beq a.toNat a.toNat) <|
  chk (decide (0≤0)&&decide (0≤a)&&decide (a≤((a0v b a).length:Int))) <|
  chk (decide ((([]:LL).length+(((a0v b a).drop (0:Int).toNat).take (a.toNat - (0:Int).toNat)).length)*96≤140737488355328)) <|
  chk (decide (0≤(W64 (a+1)))&&decide ((W64 (a+1))≤((a0v b a).length:Int))&&decide (((a0v b a).length:Int)≤((a0v b a).length:Int))) <|
  chk (decide (((([]:LL)++(((a0v b a).drop (0:Int).toNat).take (a.toNat - (0:Int).toNat))).length+(((a0v b a).drop (W64 (a+1)).toNat).take (((a0v b a).length:Int).toNat - (W64 (a+1)).toNat)).length)*96≤140737488355328)) <|
  BK_ k N.j1w [.v (S4_ (at_ (b.t 14).asR a.toNat 1).asI (at_ (b.t 14).asR a.toNat 7).asI (at_ (b.t 14).asR a.toNat 6).asR)] fun c=>
  chk (decide (((b.t 15).asR.length+([(S3_ c)]:LL).length)*40≤140737488355328)) <|
  chk (decide (((b.t 16).asR.length+([[.i (at_ (b.t 14).asR a.toNat 0).asI,.i (at_ (b.t 14).asR a.toNat 1).asI,.i (at_ (b.t 14).asR a.toNat 2).asI,.i (at_ (b.t 14).asR a.toNat 3).asI,.r (at_ (b.t 14).asR a.toNat 4).asR,.i (at_ (b.t 14).asR a.toNat 1).asI,.i (at_ (b.t 14).asR a.toNat 7).asI,.r (at_ (b.t 14).asR a.toNat 6).asR]]:LL).length)*96≤140737488355328)) <|
  b6v k a b ((b.t 15).asR++([(S3_ c)]:LL)) ((b.t 16).asR++([[.i (at_ (b.t 14).asR a.toNat 0).asI,.i (at_ (b.t 14).asR a.toNat 1).asI,.i (at_ (b.t 14).asR a.toNat 2).asI,.i (at_ (b.t 14).asR a.toNat 3).asI,.r (at_ (b.t 14).asR a.toNat 4).asR,.i (at_ (b.t 14).asR a.toNat 1).asI,.i (at_ (b.t 14).asR a.toNat 7).asI,.r (at_ (b.t 14).asR a.toNat 6).asR]]:LL))
 else
  chk (Nat.beq a.toNat a.toNat) <|
  chk (decide (0≤0)&&decide (0≤a)&&decide (a≤((a0v b a).length:Int))) <|
  chk (decide ((([]:LL).length+(((a0v b a).drop (0:Int).toNat).take (a.toNat - (0:Int).toNat)).length)*96≤140737488355328)) <|
  chk (decide (0≤(W64 (a+1)))&&decide ((W64 (a+1))≤((a0v b a).length:Int))&&decide (((a0v b a).length:Int)≤((a0v b a).length:Int))) <|
  chk (decide (((([]:LL)++(((a0v b a).drop (0:Int).toNat).take (a.toNat - (0:Int).toNat))).length+(((a0v b a).drop (W64 (a+1)).toNat).take (((a0v b a).length:Int).toNat - (W64 (a+1)).toNat)).length)*96≤140737488355328)) <|
  BK_ k N.j1w [.v (S9_ (at_ (b.t 14).asR a.toNat 1).asI (at_ (b.t 14).asR a.toNat 7).asI)] fun d=>
  chk (decide (((b.t 15).asR.length+([(S3_ d)]:LL).length)*40≤140737488355328)) <|
  chk (decide (((b.t 16).asR.length+([[.i (at_ (b.t 14).asR a.toNat 0).asI,.i (at_ (b.t 14).asR a.toNat 1).asI,.i (at_ (b.t 14).asR a.toNat 2).asI,.i (at_ (b.t 14).asR a.toNat 3).asI,.r (at_ (b.t 14).asR a.toNat 4).asR,.i (at_ (b.t 14).asR a.toNat 1).asI,.i (at_ (b.t 14).asR a.toNat 7).asI,.r []]]:LL).length)*96≤140737488355328)) <|
  b6v k a b ((b.t 15).asR++([(S3_ d)]:LL)) ((b.t 16).asR++([[.i (at_ (b.t 14).asR a.toNat 0).asI,.i (at_ (b.t 14).asR a.toNat 1).asI,.i (at_ (b.t 14).asR a.toNat 2).asI,.i (at_ (b.t 14).asR a.toNat 3).asI,.r (at_ (b.t 14).asR a.toNat 4).asR,.i (at_ (b.t 14).asR a.toNat 1).asI,.i (at_ (b.t 14).asR a.toNat 7).asI,.r []]]:LL))
def a7j (k:Nat) (c:Int) (a:Outs) (n:Bool):OO:=
 bif n then
  bif ((at_ (a.t 14).asR c.toNat 0).asI == 1) then
   BK_ k N.j3a [.v (a1n a),vi_ (W64 ((at_ (a.t 14).asR c.toNat 2).asI+(at_ (a.t 14).asR c.toNat 5).asI))] fun l=>
   bif ((l.t 1).asI == 0) then
    chk (decide (((at_ (a.t 14).asR c.toNat 6).asR.length+([[.i (l.t 0).asI]]:LL).length)*8≤140737488355328)) <|
    chk (decide (0≤c)&&decide (c<((a.t 14).asR.length:Int))) <|
    chk (Nat.beq c.toNat c.toNat) <|
    bif ((l.t 1).asI == 0) then
     b9e k a (a0p a c l)
    else
     bif ((at_ (a.t 14).asR c.toNat 0).asI == 1) then
      d8s k c a l ((l.t 1).asI == 0)
     else
      d8s k c a l false
   else
    b5c k c a ((l.t 1).asI)
  else
   bif ((at_ (a.t 14).asR c.toNat 0).asI == 4) then
    BK_ k N.j3b [.v (a1n a),vi_ (at_ (a.t 14).asR c.toNat 5).asI] fun d=>
    chk (decide (0≤c)&&decide (c<((a.t 14).asR.length:Int))) <|
    chk (Nat.beq c.toNat c.toNat) <|
    bif ((d.t 13).asI == 0) then
     so_ (j0i d a (a0l a c d))
    else
     bif ((at_ (a.t 14).asR c.toNat 0).asI == 1) then
      b9f k c a d ((d.t 13).asI == 0)
     else
      b9f k c a d false
   else
    bif ((at_ (a.t 14).asR c.toNat 0).asI == 5) then
     BK_ k N.j3a [.v (a1n a),vi_ (at_ (a.t 14).asR c.toNat 2).asI] fun m=>
     bif ((m.t 1).asI != 0) then
      b5c k c a ((m.t 1).asI)
     else
      chk (decide ((0:Int)<((at_ (a.t 14).asR c.toNat 4).asR.length:Int))) <|
      bif ((m.t 0).asI != (at_ (at_ (a.t 14).asR c.toNat 4).asR 0 0).asI) then
       b5c k c a 4
      else
       chk (decide ((1:Int)<((at_ (a.t 14).asR c.toNat 4).asR.length:Int))) <|
       BK_ k N.j2a [.v (a1n a),vi_ (at_ (a.t 14).asR c.toNat 2).asI,vi_ (at_ (at_ (a.t 14).asR c.toNat 4).asR 1 0).asI] fun f=>
       b1w k c a ((f.t 0).asI) ((f.t 1).asI) ((f.t 2).asI) ((f.t 3).asR) ((f.t 4).asI) ((f.t 5).asI) ((f.t 6).asI) ((f.t 7).asI) ((f.t 8).asI) ((f.t 9).asR) ((f.t 10).asI) ((f.t 11).asB) ((f.t 12).asB) ((f.t 13).asI)
    else
     bif ((at_ (a.t 14).asR c.toNat 0).asI == 6) then
      BK_ k N.j2a [.v (a1n a),vi_ (W64 ((at_ (a.t 14).asR c.toNat 2).asI+(at_ (a.t 14).asR c.toNat 5).asI)),vi_ 0] fun g=>
      b1w k c a ((g.t 0).asI) ((g.t 1).asI) ((g.t 2).asI) ((g.t 3).asR) ((g.t 4).asI) ((g.t 5).asI) ((g.t 6).asI) ((g.t 7).asI) ((g.t 8).asI) ((g.t 9).asR) ((g.t 10).asI) ((g.t 11).asB) ((g.t 12).asB) ((g.t 13).asI)
     else
      bif (decide ((at_ (a.t 14).asR c.toNat 5).asI<((at_ (a.t 14).asR c.toNat 4).asR.length:Int))) then
       chk (decide (0≤(at_ (a.t 14).asR c.toNat 5).asI)&&decide ((at_ (a.t 14).asR c.toNat 5).asI<((at_ (a.t 14).asR c.toNat 4).asR.length:Int))) <|
       BK_ k N.j2a [.v (a1n a),vi_ (W64 ((at_ (a.t 14).asR c.toNat 2).asI+(at_ (a.t 14).asR c.toNat 5).asI)),vi_ (at_ (at_ (a.t 14).asR c.toNat 4).asR (at_ (a.t 14).asR c.toNat 5).asI.toNat 0).asI] fun h=>
       b1w k c a ((h.t 0).asI) ((h.t 1).asI) ((h.t 2).asI) ((h.t 3).asR) ((h.t 4).asI) ((h.t 5).asI) ((h.t 6).asI) ((h.t 7).asI) ((h.t 8).asI) ((h.t 9).asR) ((h.t 10).asI) ((h.t 11).asB) ((h.t 12).asB) ((h.t 13).asI)
      else
       BK_ k N.j2o [.v (j0j a),vi_ (at_ (a.t 14).asR c.toNat 2).asI] fun o=>
       BK_ k N.j3b [.v (a1n a),vi_ (W64 ((W64 ((o.t 0).asI+(at_ (a.t 14).asR c.toNat 5).asI)) - ((at_ (a.t 14).asR c.toNat 4).asR.length:Int)))] fun e=>
       chk (decide (0≤c)&&decide (c<((a.t 14).asR.length:Int))) <|
       chk (Nat.beq c.toNat c.toNat) <|
       bif ((e.t 13).asI == 0) then
        so_ (j0i e a (a0l a c e))
       else
        bif ((at_ (a.t 14).asR c.toNat 0).asI == 1) then
         b6u k c a e ((e.t 13).asI == 0)
        else
         b6u k c a e false
 else
  bif ((at_ (a.t 14).asR c.toNat 0).asI == 1) then
   a5v k c a ((at_ (a.t 14).asR c.toNat 7).asI == 0)
  else
   a5v k c a false
def a7k (k:Nat) (c:Int) (a:Outs) (d:Bool):OO:=
 bif d then
  so_ (j1b a)
 else
  chk (decide (0≤c)&&decide (c<((a.t 14).asR.length:Int))) <|
  BK_ k N.j4k [.v (j0j a),.v (S7_ (at_ (a.t 14).asR c.toNat 0).asI (at_ (a.t 14).asR c.toNat 1).asI (at_ (a.t 14).asR c.toNat 2).asI (at_ (a.t 14).asR c.toNat 3).asI (at_ (a.t 14).asR c.toNat 4).asR)] fun e=>
  bif (decide ((at_ (a.t 14).asR c.toNat 5).asI<(W64 ((e.t 0).asI - 1)))) then
   a7j k c a ((at_ (a.t 14).asR c.toNat 7).asI == 0)
  else
   a7j k c a false
def e5o (k:Nat) (f g h:Int) (l:LL) (m n o p q:Int) (u:LL) (w:Int) (x y:Bool) (z c A d:LL) (a:Int):OO:=
 BK_ k N.j2g [.v (S2_ f g h l m n o p q u w x y z c A d)] fun e=>
 BK_ k N.j7g [.v (S2_ f g h l m n o p q u w x y z c A d)] fun B=>
 bif (!(B.t 0).asB) then
  a7k k a e true
 else
  BK_ k N.j1s [vi_ a,vi_ 0,vi_ (W64 ((c.length:Int) - 1))] fun C=>
  bif (!(C.t 0).asB) then
   a7k k a e true
  else
   a7k k a e (decide ((d.length:Int)≥400))
theorem g6q (k:Nat) (a c d:Int) (e:LL) (f g h l m:Int) (n:LL) (o:Int) (p q:Bool) (t u w x:LL) (y:Int):a0a E P0 (k+1) N.j7y [.v (S2_ a c d e f g h l m n o p q t u w x),vi_ y]=e5o k a c d e f g h l m n o p q t u w x y:=by kernel_rfl
def a5j (k:Nat) (c d:Bool) (A e f g h l m n o p:Int) (q u w x y z:LL) (B:(V5_)→OO) (C:Bool):OO:=
 bif C then
  BK_ k N.j7y [.v (S2_ e f g q h l m n o u p c d w x y z),vi_ 0] fun a=>
  bif (!(a.t 17).asB) then
   so_ (S2_ e f g q h l m n o u p c d w x y z)
  else
   B ((W64 (A+1)),(a.t 0).asI,(a.t 1).asI,(a.t 2).asI,(a.t 4).asI,(a.t 5).asI,(a.t 6).asI,(a.t 7).asI,(a.t 8).asI,(a.t 10).asI,(a.t 11).asB,(a.t 12).asB,(a.t 3).asR,(a.t 9).asR,(a.t 13).asR,(a.t 14).asR,(a.t 15).asR,(a.t 16).asR)
 else
  so_ (S2_ e f g q h l m n o u p c d w x y z)
def a4f (k:Nat) (z:Int) (c:(V5_)→OO):(V5_)→OO:=fun (a,d,e,f,g,h,l,m,n,o,p,q,r,u,w,b,x,y)=>
 BK_ k N.j1s [vi_ z,vi_ 0,vi_ 1000] fun A=>
 bif (A.t 0).asB then
  bif (decide (a<z)) then
   a5j k p q a d e f g h l m n o r u w b x y c (decide ((b.length:Int) > 0))
  else
   a5j k p q a d e f g h l m n o r u w b x y c false
 else
  a5j k p q a d e f g h l m n o r u w b x y c false
def e5p:List Nat:=[1,4,5,6,35]
def e5q (a:Int):(V5_)→St:=fun (c,d,e,f,g,h,l,m,n,o,p,q,r,t,u,w,x,y)=>ST_ [(1,.w_ a),(4,.ptr (4,0) 0),(5,.ptr (5,0) 0),(6,.w_ c),(35,.skip)] [((4,0),.var [.w_ 0,.w_ 0,.w_ 0,.ref (4,4),.w_ 0,.w_ 0,.w_ 0,.w_ 0,.w_ 0,.ref (4,10),.w_ 0,.b false,.b false,.ref (4,14),.ref (4,15),.ref (4,16),.ref (4,17)]),((4,4),.row 135 true []),((4,10),.row 137 true []),((4,14),.row 91 true []),((4,15),.row 94 true []),((4,16),.row 95 true []),((4,17),.row 98 true []),((5,0),.var [.w_ d,.w_ e,.w_ f,.ref (5,4),.w_ g,.w_ h,.w_ l,.w_ m,.w_ n,.ref (5,10),.w_ o,.b p,.b q,.ref (5,14),.ref (5,15),.ref (5,16),.ref (5,17)]),((5,4),.row 135 true r),((5,10),.row 137 true t),((5,14),.row 91 true u),((5,15),.row 94 true w),((5,16),.row 95 true x),((5,17),.row 98 true y)]
def c0d (k:Nat) (c d e:Int) (f:LL) (g h l m n:Int) (o:LL) (p:Int) (q u:Bool) (w x y z:LL) (B:Int) (A:(V5_)→OO):OO:=
 BK_ k N.j2g [.v (S2_ c d e f g h l m n o p q u w x y z)] fun a=>
 A (0,(a.t 0).asI,(a.t 1).asI,(a.t 2).asI,(a.t 4).asI,(a.t 5).asI,(a.t 6).asI,(a.t 7).asI,(a.t 8).asI,(a.t 10).asI,(a.t 11).asB,(a.t 12).asB,(a.t 3).asR,(a.t 9).asR,(a.t 13).asR,(a.t 14).asR,(a.t 15).asR,(a.t 16).asR)
def c9b (k:Nat) (b c d:Int) (e:LL) (f g h i l:Int) (m:LL) (n:Int) (o p:Bool) (q r t u:LL) (a:Int):OO:=
 c0d k b c d e f g h i l m n o p q r t u a (fun v=>a1k (a4f k a) k v)
theorem f1h (k:Nat) (c d e:Int) (f:LL) (g h l m n:Int) (o:LL) (p:Int) (q t:Bool) (u w x y:LL) (a:Int):a0a E P0 (k+1) N.j7z [.v (S2_ c d e f g h l m n o p q t u w x y),vi_ a]=c9b k c d e f g h l m n o p q t u w x y a:=a2c [] [.sr,.sr,.sl,.sr,.bl] e5p (c0d k c d e f g h l m n o p q t u w x y a) (e5q a) (a4f k a) (by kernel_rfl) (fun j v=>by kernel_rfl)
def c5l (k:Nat) (a:LL):OO:=
 chk (decide ((([]:LL).length+a.length)*8≤140737488355328)) <|
 so_ [.r (([]:LL)++a)]
theorem e5r (k:Nat) (a:LL):a0a E P0 (k+1) N.j1u [vr_ a]=c5l k a:=by kernel_rfl
def a4g (k:Nat) (c:LL) (f:Bool) (g:Outs) (h:LL) (l:(V0_)→OO):(V0_)→OO:=fun (a,d)=>
 bif (decide (a<(c.length:Int))) then
  chk (decide (0≤a)&&decide (a<(c.length:Int))) <|
  a0f (a0a E P0 k N.j1u [.v [.r (at_ c a.toNat 1).asR]]) fun e=>
  chk (decide ((d.length+([[.i (at_ c a.toNat 0).asI,.r (e.t 0).asR]]:LL).length)*32≤140737488355328)) <|
  l ((W64 (a+1)),(d++([[.i (at_ c a.toNat 0).asI,.r (e.t 0).asR]]:LL)))
 else
  some ⟨[.r h,.r d,.b f,.r (g.t 0).asR],[]⟩
def e5s:List Nat:=[2,3,30,31,32,48]
def a7l (a:LL) (c:Bool) (d:Outs) (e:LL):(V0_)→St:=fun (f,g)=>⟨a3q [(2,.ptr (2,0) 0),(3,.ptr (3,0) 0),(30,.sl 161 a),(31,.i .i64 (a.length:Int)),(32,.i .i64 f),(48,.skip)],Mem.put (a1f [((2,0),.var [.ref (2,1),.ref (2,2),.b false,.ref (2,4)]),((2,1),.deep 78 [] none),((2,2),.deep 161 [] none),((2,4),.row 3 true []),((3,0),.var [.ref (3,1),.ref (3,2),.b c,.ref (3,4)]),((3,1),.deep 78 e none),((3,2),.deep 161 g none),((3,4),.row 3 true (d.t 0).asR)]) a3i .dead⟩
def b1x (k:Nat) (b h:LL) (i:Bool) (l:LL) (e:Outs) (f:Outs→LL→(V0_)→OO) (g:(V0_)→OO):(V0_)→OO:=fun (a,c)=>
 bif (decide (a<(b.length:Int))) then
  chk (decide (0≤a)&&decide (a<(b.length:Int))) <|
  a0f (a0a E P0 k N.j1u [.v [.r (at_ b a.toNat 0).asR]]) fun d=>
  chk (decide ((c.length+([[.r (d.t 0).asR]]:LL).length)*24≤140737488355328)) <|
  g ((W64 (a+1)),(c++([[.r (d.t 0).asR]]:LL)))
 else
  f e c (0,[])
def e5t:List Nat:=[1,2,3,7,15,16,17,29,30,31,32,33,34,35,36,37,38,39,40,41,42,43,44,45,46,47,48]
def a7m (a d:LL) (c:Bool) (e:LL) (f:Outs):(V0_)→St:=fun (g,h)=>⟨a3q [(1,.ptr (1,0) 0),(2,.ptr (2,0) 0),(3,.ptr (3,0) 0),(7,.skip),(15,.sl 78 a),(16,.i .i64 (a.length:Int)),(17,.i .i64 g),(29,.skip),(30,.skip),(31,.skip),(32,.skip),(33,.skip),(34,.skip),(35,.skip),(36,.skip),(37,.skip),(38,.skip),(39,.skip),(40,.skip),(41,.skip),(42,.skip),(43,.skip),(44,.skip),(45,.skip),(46,.skip),(47,.skip),(48,.skip)],Mem.put (a1f [((1,0),.var [.sl 78 a,.sl 161 d,.b c,.sl 3 e]),((2,0),.var [.ref (2,1),.ref (2,2),.b false,.ref (2,4)]),((2,1),.deep 78 [] none),((2,2),.deep 161 [] none),((2,4),.row 3 true []),((3,0),.var [.ref (3,1),.ref (3,2),.b c,.ref (3,4)]),((3,1),.deep 78 h none),((3,2),.deep 161 [] none),((3,4),.row 3 true (f.t 0).asR)]) a3i .dead⟩
def a5k (k:Nat) (c a:LL) (b:Bool) (d:LL) (e:Outs) (f:(V0_)→OO):(V0_)→OO:=
 b1x k c a b d e (fun g h v=>a1k (a4g k a b g h) k v) f
def c0e (k:Nat) (d e:LL) (f:Bool) (a:LL) (b:Outs→(V0_)→OO):OO:=
 a0f (a0a E P0 k N.j1u [.v [.r a]]) fun c=>
 b c (0,[])
def c0f (k:Nat) (a b:LL) (c:Bool) (d:LL):OO:=
 c0e k a b c d (fun e v=>a1k (a5k k a b c d e) k v)
def a9m (k:Nat) (a c:LL) (d:Bool) (e:LL) (js:List Nat) (j:Nat) (s:St):OO:=IT_ k N.j2p [.v [.r a,.r c,.b d,.r e]] [] [.sr,.sr,.sl,.sr,.bl] e5t js j s
def a9n (k:Nat) (a c:LL) (d:Bool) (e:LL) (js:List Nat) (j:Nat) (s:St):OO:=IT_ k N.j2p [.v [.r a,.r c,.b d,.r e]] [] [.sr,.sr,.sr,.sl,.sr,.bl] e5s js j s
theorem f1i (k:Nat) (e a:LL) (c:Bool) (f:LL):a0a E P0 (k+1) N.j2p [.v [.r e,.r a,.b c,.r f]]=c0f k e a c f:=by
 have m:a0a E P0 (k+1) N.j2p [.v [.r e,.r a,.b c,.r f]]=c0e k e a c f (fun l v=>a9m k e a c f [] k (a7m e a c f l v)):=by kernel_rfl
 have n:∀ (d:Outs) (g:LL) (h:Nat) (v:V0_),a9n k e a c f [] (h+1) (a7l a c d g v)=a4g k a c d g (fun v=>a9n k e a c f [] h (a7l a c d g v)) v:=by
  intro d g h v;kernel_rfl
 have o:∀ (d:Outs) (g:LL) (h:Nat) (v:V0_),a9n k e a c f [] h (a7l a c d g v)=a1k (a4g k a c d g) h v:=by
  intro d g h v;refine a1v (a7l a c d g) (a4g k a c d g) (fun h v=>(n d g h v).trans ?_) h v;unfold a4g;rfl
 have p:∀ (d:Outs) (i:Nat) (v:V0_),a9m k e a c f [] (i+1) (a7m e a c f d v)=b1x k e a c f d (fun l q v=>a9n k e a c f [] k (a7l a c l q v)) (fun v=>a9m k e a c f [] i (a7m e a c f d v)) v:=by
  intro d i v;kernel_rfl
 have t:∀ (d:Outs) (i:Nat) (v:V0_),a9m k e a c f [] i (a7m e a c f d v)=a1k (a5k k e a c f d) i v:=by
  intro d i v;refine a1v (a7m e a c f d) (a5k k e a c f d) (fun i v=>(p d i v).trans ?_) i v;unfold a5k;simp only [o] <;> rfl
 rw [m];unfold c0f;simp only [t]
def a9o (k:Nat) (d:LL) (f:(V0_)→OO):(V0_)→OO:=fun (a,e)=>
 bif (decide (a<(d.length:Int))) then
  chk (decide (0≤a)&&decide (a<(d.length:Int))) <|
  a0f (a0a E P0 k N.j2p [.v [.r (at_ d a.toNat 0).asR,.r (at_ d a.toNat 1).asR,.b (at_ d a.toNat 2).asB,.r (at_ d a.toNat 3).asR]]) fun c=>
  chk (decide ((e.length+([[.r (c.t 0).asR,.r (c.t 1).asR,.b (c.t 2).asB,.r (c.t 3).asR]]:LL).length)*80≤140737488355328)) <|
  f ((W64 (a+1)),(e++([[.r (c.t 0).asR,.r (c.t 1).asR,.b (c.t 2).asB,.r (c.t 3).asR]]:LL)))
 else
  some ⟨[.r e],[]⟩
def d9w:List Nat:=[2,3,7,8,9,19]
def d9x (a:LL):(V0_)→St:=fun (b,c)=>⟨a3q [(2,.ref (2,0)),(3,.ref (3,0)),(7,.sl 135 a),(8,.i .i64 (a.length:Int)),(9,.i .i64 b),(19,.skip)],Mem.put (a1f [((2,0),.deep 135 [] none),((3,0),.deep 135 c none)]) a3i .dead⟩
def b7v (k:Nat) (b:LL) (a:(V0_)→OO):OO:=
 a (0,[])
def c5m (k:Nat) (a:LL):OO:=
 b7v k a (fun v=>a1k (a9o k a) k v)
theorem e5u (k:Nat) (a:LL):a0a E P0 (k+1) N.j8a [.v [.r a]]=c5m k a:=a2c [] [.sr,.sr,.sl,.sr,.bl] d9w (b7v k a) (d9x a) (a9o k a) (by kernel_rfl) (fun j v=>by kernel_rfl)
def b1y (k:Nat) (f g h:Int) (l:LL) (m n o p q:Int) (c:LL) (u:Int) (w x:Bool) (y:(V0_)→OO):(V0_)→OO:=fun (a,d)=>
 bif (decide (a<(c.length:Int))) then
  chk (decide (0≤a)&&decide (a<(c.length:Int))) <|
  a0f (a0a E P0 k N.j1u [.v [.r (at_ c a.toNat 1).asR]]) fun e=>
  chk (decide ((d.length+([[.i (at_ c a.toNat 0).asI,.r (e.t 0).asR]]:LL).length)*32≤140737488355328)) <|
  y ((W64 (a+1)),(d++([[.i (at_ c a.toNat 0).asI,.r (e.t 0).asR]]:LL)))
 else
  a0f (a0a E P0 k N.j8a [.v [.r l]]) fun z=>
  some ⟨[.i f,.i g,.i h,.r (z.t 0).asR,.i m,.i n,.i o,.i p,.i q,.r d,.i u,.b w,.b x],[]⟩
def e5v:List Nat:=[1,2,3,8,9,10,24,25,26,27,28,29,30]
def e5w (c d e:Int) (f:LL) (g h l m n:Int) (a:LL) (o:Int) (p q:Bool):(V0_)→St:=fun (r,t)=>⟨a3q [(1,.ptr (1,0) 0),(2,.ptr (2,0) 0),(3,.ref (3,0)),(8,.sl 137 a),(9,.i .i64 (a.length:Int)),(10,.i .i64 r),(24,.skip),(25,.skip),(26,.skip),(27,.skip),(28,.skip),(29,.skip),(30,.skip)],Mem.put (a1f [((1,0),.var [.i .i64 c,.i .i64 d,.i .i64 e,.sl 135 f,.i .i64 g,.i .i64 h,.i .i64 l,.i .i64 m,.i .i64 n,.sl 137 a,.i .i64 o,.b p,.b q]),((2,0),.var [.i .i64 0,.i .i64 0,.i .i64 0,.ref (2,4),.i .i64 0,.i .i64 0,.i .i64 0,.i .i64 0,.i .i64 0,.ref (2,10),.i .i64 0,.b false,.b false]),((2,4),.deep 135 [] none),((2,10),.deep 137 [] none),((3,0),.deep 137 t none)]) a3i .dead⟩
def c0g (k:Nat) (b c d:Int) (e:LL) (f g h i l:Int) (m:LL) (n:Int) (o p:Bool) (a:(V0_)→OO):OO:=
 a (0,[])
def c9c (k:Nat) (a b c:Int) (d:LL) (e f g h i:Int) (l:LL) (m:Int) (n o:Bool):OO:=
 c0g k a b c d e f g h i l m n o (fun v=>a1k (b1y k a b c d e f g h i l m n o) k v)
theorem f1j (k:Nat) (a c d:Int) (e:LL) (f g h l m:Int) (n:LL) (o:Int) (p q:Bool):a0a E P0 (k+1) N.j2i [.v [.i a,.i c,.i d,.r e,.i f,.i g,.i h,.i l,.i m,.r n,.i o,.b p,.b q]]=c9c k a c d e f g h l m n o p q:=a2c [] [.sr,.sr,.sl,.sr,.bl] e5v (c0g k a c d e f g h l m n o p q) (e5w a c d e f g h l m n o p q) (b1y k a c d e f g h l m n o p q) (by kernel_rfl) (fun j v=>by kernel_rfl)
def c9d (k:Nat) (a b c d:Int) (e:LL):OO:=
 a0f (a0a E P0 k N.j1u [.v [.r e]]) fun f=>
 some ⟨[.i a,.i b,.i c,.i d,.r (f.t 0).asR],[]⟩
theorem f1k (k:Nat) (a b c d:Int) (e:LL):a0a E P0 (k+1) N.j3c [.v [.i a,.i b,.i c,.i d,.r e]]=c9d k a b c d e:=by kernel_rfl
def c9e (k:Nat) (a b:Int) (c:LL):OO:=
 a0f (a0a E P0 k N.j1u [.v [.r c]]) fun d=>
 some ⟨[.i a,.i b,.r (d.t 0).asR],[]⟩
theorem f1l (k:Nat) (a b:Int) (c:LL):a0a E P0 (k+1) N.j3u [.v [.i a,.i b,.r c]]=c9e k a b c:=by kernel_rfl
def a4h (k:Nat) (d:LL) (a:Outs) (h l m:LL) (n:(V0_)→OO):(V0_)→OO:=fun (c,g)=>
 bif (decide (c<(d.length:Int))) then
  chk (decide (0≤c)&&decide (c<(d.length:Int))) <|
  a0f (a0a E P0 k N.j3c [.v [.i (at_ d c.toNat 0).asI,.i (at_ d c.toNat 1).asI,.i (at_ d c.toNat 2).asI,.i (at_ d c.toNat 3).asI,.r (at_ d c.toNat 4).asR]]) fun e=>
  a0f (a0a E P0 k N.j3u [.v [.i (at_ d c.toNat 5).asI,.i (at_ d c.toNat 6).asI,.r (at_ d c.toNat 7).asR]]) fun f=>
  chk (decide ((g.length+([[.i (e.t 0).asI,.i (e.t 1).asI,.i (e.t 2).asI,.i (e.t 3).asI,.r (e.t 4).asR,.i (f.t 0).asI,.i (f.t 1).asI,.r (f.t 2).asR]]:LL).length)*96≤140737488355328)) <|
  n ((W64 (c+1)),(g++([[.i (e.t 0).asI,.i (e.t 1).asI,.i (e.t 2).asI,.i (e.t 3).asI,.r (e.t 4).asR,.i (f.t 0).asI,.i (f.t 1).asI,.r (f.t 2).asR]]:LL)))
 else
  some ⟨[.i (a.t 0).asI,.i (a.t 1).asI,.i (a.t 2).asI,.r (a.t 3).asR,.i (a.t 4).asI,.i (a.t 5).asI,.i (a.t 6).asI,.i (a.t 7).asI,.i (a.t 8).asI,.r (a.t 9).asR,.i (a.t 10).asI,.b (a.t 11).asB,.b (a.t 12).asB,.r h,.r l,.r m,.r g],[]⟩
def e5x:List Nat:=[2,3,71,72,73,90]
def a7n (c:LL) (a:Outs) (d e f:LL):(V0_)→St:=fun (g,h)=>⟨a3q [(2,.ptr (2,0) 0),(3,.ptr (3,0) 0),(71,.sl 98 c),(72,.i .i64 (c.length:Int)),(73,.i .i64 g),(90,.skip)],Mem.put (a1f [((2,0),.var [.i .i64 0,.i .i64 0,.i .i64 0,.ref (2,4),.i .i64 0,.i .i64 0,.i .i64 0,.i .i64 0,.i .i64 0,.ref (2,10),.i .i64 0,.b false,.b false,.ref (2,14),.ref (2,15),.ref (2,16),.ref (2,17)]),((2,4),.deep 135 [] none),((2,10),.deep 137 [] none),((2,14),.deep 91 [] none),((2,15),.deep 94 [] none),((2,16),.deep 95 [] none),((2,17),.deep 98 [] none),((3,0),.var [.i .i64 (a.t 0).asI,.i .i64 (a.t 1).asI,.i .i64 (a.t 2).asI,.ref (3,4),.i .i64 (a.t 4).asI,.i .i64 (a.t 5).asI,.i .i64 (a.t 6).asI,.i .i64 (a.t 7).asI,.i .i64 (a.t 8).asI,.ref (3,10),.i .i64 (a.t 10).asI,.b (a.t 11).asB,.b (a.t 12).asB,.ref (3,14),.ref (3,15),.ref (3,16),.ref (3,17)]),((3,4),.deep 135 (a.t 3).asR none),((3,10),.deep 137 (a.t 9).asR none),((3,14),.deep 91 d none),((3,15),.deep 94 e none),((3,16),.deep 95 f none),((3,17),.deep 98 h none)]) a3i .dead⟩
def b1z (k:Nat) (m n o:Int) (p:LL) (q u w x y:Int) (z:LL) (A:Int) (B C:Bool) (D F c G:LL) (e:Outs) (f g:LL) (h:Outs→LL→LL→LL→(V0_)→OO) (l:(V0_)→OO):(V0_)→OO:=fun (a,d)=>
 bif (decide (a<(c.length:Int))) then
  chk (decide (0≤a)&&decide (a<(c.length:Int))) <|
  a0f (a0a E P0 k N.j3u [.v [.i (at_ c a.toNat 0).asI,.i (at_ c a.toNat 1).asI,.r (at_ c a.toNat 2).asR]]) fun b=>
  chk (decide ((d.length+([[.i (b.t 0).asI,.i (b.t 1).asI,.r (b.t 2).asR]]:LL).length)*40≤140737488355328)) <|
  l ((W64 (a+1)),(d++([[.i (b.t 0).asI,.i (b.t 1).asI,.r (b.t 2).asR]]:LL)))
 else
  h e f g d (0,[])
def e5y:List Nat:=[1,2,3,11,56,57,58,70,71,72,73,74,75,76,77,78,79,80,81,82,83,84,85,86,87,88,89,90]
def a7o (d e f:Int) (g:LL) (h l m n o:Int) (p:LL) (q:Int) (r u:Bool) (w x c y:LL) (a:Outs) (z A:LL):(V0_)→St:=fun (B,C)=>⟨a3q [(1,.ptr (1,0) 0),(2,.ptr (2,0) 0),(3,.ptr (3,0) 0),(11,.skip),(56,.sl 95 c),(57,.i .i64 (c.length:Int)),(58,.i .i64 B),(70,.skip),(71,.skip),(72,.skip),(73,.skip),(74,.skip),(75,.skip),(76,.skip),(77,.skip),(78,.skip),(79,.skip),(80,.skip),(81,.skip),(82,.skip),(83,.skip),(84,.skip),(85,.skip),(86,.skip),(87,.skip),(88,.skip),(89,.skip),(90,.skip)],Mem.put (a1f [((1,0),.var [.i .i64 d,.i .i64 e,.i .i64 f,.sl 135 g,.i .i64 h,.i .i64 l,.i .i64 m,.i .i64 n,.i .i64 o,.sl 137 p,.i .i64 q,.b r,.b u,.sl 91 w,.sl 94 x,.sl 95 c,.sl 98 y]),((2,0),.var [.i .i64 0,.i .i64 0,.i .i64 0,.ref (2,4),.i .i64 0,.i .i64 0,.i .i64 0,.i .i64 0,.i .i64 0,.ref (2,10),.i .i64 0,.b false,.b false,.ref (2,14),.ref (2,15),.ref (2,16),.ref (2,17)]),((2,4),.deep 135 [] none),((2,10),.deep 137 [] none),((2,14),.deep 91 [] none),((2,15),.deep 94 [] none),((2,16),.deep 95 [] none),((2,17),.deep 98 [] none),((3,0),.var [.i .i64 (a.t 0).asI,.i .i64 (a.t 1).asI,.i .i64 (a.t 2).asI,.ref (3,4),.i .i64 (a.t 4).asI,.i .i64 (a.t 5).asI,.i .i64 (a.t 6).asI,.i .i64 (a.t 7).asI,.i .i64 (a.t 8).asI,.ref (3,10),.i .i64 (a.t 10).asI,.b (a.t 11).asB,.b (a.t 12).asB,.ref (3,14),.ref (3,15),.ref (3,16),.ref (3,17)]),((3,4),.deep 135 (a.t 3).asR none),((3,10),.deep 137 (a.t 9).asR none),((3,14),.deep 91 z none),((3,15),.deep 94 A none),((3,16),.deep 95 C none),((3,17),.deep 98 [] none)]) a3i .dead⟩
def b2a (k:Nat) (m n o:Int) (p:LL) (q u w x y:Int) (z:LL) (A:Int) (B C:Bool) (D b F G:LL) (f:Outs) (g:LL) (h:Outs→LL→LL→(V0_)→OO) (l:(V0_)→OO):(V0_)→OO:=fun (a,d)=>
 bif (decide (a<(b.length:Int))) then
  chk (decide (0≤a)&&decide (a<(b.length:Int))) <|
  a0f (a0a E P0 k N.j3c [.v [.i (at_ b a.toNat 0).asI,.i (at_ b a.toNat 1).asI,.i (at_ b a.toNat 2).asI,.i (at_ b a.toNat 3).asI,.r (at_ b a.toNat 4).asR]]) fun c=>
  a0f (a0a E P0 k N.j1u [.v [.r (at_ b a.toNat 6).asR]]) fun e=>
  chk (decide ((d.length+([[.i (c.t 0).asI,.i (c.t 1).asI,.i (c.t 2).asI,.i (c.t 3).asI,.r (c.t 4).asR,.i (at_ b a.toNat 5).asI,.r (e.t 0).asR,.i (at_ b a.toNat 7).asI]]:LL).length)*96≤140737488355328)) <|
  l ((W64 (a+1)),(d++([[.i (c.t 0).asI,.i (c.t 1).asI,.i (c.t 2).asI,.i (c.t 3).asI,.r (c.t 4).asR,.i (at_ b a.toNat 5).asI,.r (e.t 0).asR,.i (at_ b a.toNat 7).asI]]:LL)))
 else
  h f g d (0,[])
def e5z:List Nat:=[1,2,3,9,11,32,33,34,55,56,57,58,59,60,61,62,63,64,65,66,67,68,69,70,71,72,73,74,75,76,77,78,79,80,81,82,83,84,85,86,87,88,89,90]
def a7p (d e f:Int) (g:LL) (h l m n o:Int) (p:LL) (q:Int) (r u:Bool) (w c x y:LL) (a:Outs) (z:LL):(V0_)→St:=fun (A,B)=>⟨a3q [(1,.ptr (1,0) 0),(2,.ptr (2,0) 0),(3,.ptr (3,0) 0),(9,.skip),(11,.skip),(32,.sl 94 c),(33,.i .i64 (c.length:Int)),(34,.i .i64 A),(55,.skip),(56,.skip),(57,.skip),(58,.skip),(59,.skip),(60,.skip),(61,.skip),(62,.skip),(63,.skip),(64,.skip),(65,.skip),(66,.skip),(67,.skip),(68,.skip),(69,.skip),(70,.skip),(71,.skip),(72,.skip),(73,.skip),(74,.skip),(75,.skip),(76,.skip),(77,.skip),(78,.skip),(79,.skip),(80,.skip),(81,.skip),(82,.skip),(83,.skip),(84,.skip),(85,.skip),(86,.skip),(87,.skip),(88,.skip),(89,.skip),(90,.skip)],Mem.put (a1f [((1,0),.var [.i .i64 d,.i .i64 e,.i .i64 f,.sl 135 g,.i .i64 h,.i .i64 l,.i .i64 m,.i .i64 n,.i .i64 o,.sl 137 p,.i .i64 q,.b r,.b u,.sl 91 w,.sl 94 c,.sl 95 x,.sl 98 y]),((2,0),.var [.i .i64 0,.i .i64 0,.i .i64 0,.ref (2,4),.i .i64 0,.i .i64 0,.i .i64 0,.i .i64 0,.i .i64 0,.ref (2,10),.i .i64 0,.b false,.b false,.ref (2,14),.ref (2,15),.ref (2,16),.ref (2,17)]),((2,4),.deep 135 [] none),((2,10),.deep 137 [] none),((2,14),.deep 91 [] none),((2,15),.deep 94 [] none),((2,16),.deep 95 [] none),((2,17),.deep 98 [] none),((3,0),.var [.i .i64 (a.t 0).asI,.i .i64 (a.t 1).asI,.i .i64 (a.t 2).asI,.ref (3,4),.i .i64 (a.t 4).asI,.i .i64 (a.t 5).asI,.i .i64 (a.t 6).asI,.i .i64 (a.t 7).asI,.i .i64 (a.t 8).asI,.ref (3,10),.i .i64 (a.t 10).asI,.b (a.t 11).asB,.b (a.t 12).asB,.ref (3,14),.ref (3,15),.ref (3,16),.ref (3,17)]),((3,4),.deep 135 (a.t 3).asR none),((3,10),.deep 137 (a.t 9).asR none),((3,14),.deep 91 z none),((3,15),.deep 94 B none),((3,16),.deep 95 [] none),((3,17),.deep 98 [] none)]) a3i .dead⟩
def b2b (k:Nat) (h l m:Int) (n:LL) (o p q u w:Int) (x:LL) (y:Int) (z A:Bool) (c B C D:LL) (e:Outs) (f:Outs→LL→(V0_)→OO) (g:(V0_)→OO):(V0_)→OO:=fun (b,d)=>
 bif (decide (b<(c.length:Int))) then
  chk (decide (0≤b)&&decide (b<(c.length:Int))) <|
  a0f (a0a E P0 k N.j3c [.v [.i (at_ c b.toNat 0).asI,.i (at_ c b.toNat 1).asI,.i (at_ c b.toNat 2).asI,.i (at_ c b.toNat 3).asI,.r (at_ c b.toNat 4).asR]]) fun a=>
  chk (decide ((d.length+([[.i (a.t 0).asI,.i (a.t 1).asI,.i (a.t 2).asI,.i (a.t 3).asI,.r (a.t 4).asR]]:LL).length)*56≤140737488355328)) <|
  g ((W64 (b+1)),(d++([[.i (a.t 0).asI,.i (a.t 1).asI,.i (a.t 2).asI,.i (a.t 3).asI,.r (a.t 4).asR]]:LL)))
 else
  f e d (0,[])
def e6a:List Nat:=[1,2,3,7,9,11,17,18,19,31,32,33,34,35,36,37,38,39,40,41,42,43,44,45,46,47,48,49,50,51,52,53,54,55,56,57,58,59,60,61,62,63,64,65,66,67,68,69,70,71,72,73,74,75,76,77,78,79,80,81,82,83,84,85,86,87,88,89,90]
def a7q (d e f:Int) (g:LL) (h l m n o:Int) (p:LL) (q:Int) (r u:Bool) (c w x y:LL) (a:Outs):(V0_)→St:=fun (z,A)=>⟨a3q [(1,.ptr (1,0) 0),(2,.ptr (2,0) 0),(3,.ptr (3,0) 0),(7,.skip),(9,.skip),(11,.skip),(17,.sl 91 c),(18,.i .i64 (c.length:Int)),(19,.i .i64 z),(31,.skip),(32,.skip),(33,.skip),(34,.skip),(35,.skip),(36,.skip),(37,.skip),(38,.skip),(39,.skip),(40,.skip),(41,.skip),(42,.skip),(43,.skip),(44,.skip),(45,.skip),(46,.skip),(47,.skip),(48,.skip),(49,.skip),(50,.skip),(51,.skip),(52,.skip),(53,.skip),(54,.skip),(55,.skip),(56,.skip),(57,.skip),(58,.skip),(59,.skip),(60,.skip),(61,.skip),(62,.skip),(63,.skip),(64,.skip),(65,.skip),(66,.skip),(67,.skip),(68,.skip),(69,.skip),(70,.skip),(71,.skip),(72,.skip),(73,.skip),(74,.skip),(75,.skip),(76,.skip),(77,.skip),(78,.skip),(79,.skip),(80,.skip),(81,.skip),(82,.skip),(83,.skip),(84,.skip),(85,.skip),(86,.skip),(87,.skip),(88,.skip),(89,.skip),(90,.skip)],Mem.put (a1f [((1,0),.var [.i .i64 d,.i .i64 e,.i .i64 f,.sl 135 g,.i .i64 h,.i .i64 l,.i .i64 m,.i .i64 n,.i .i64 o,.sl 137 p,.i .i64 q,.b r,.b u,.sl 91 c,.sl 94 w,.sl 95 x,.sl 98 y]),((2,0),.var [.i .i64 0,.i .i64 0,.i .i64 0,.ref (2,4),.i .i64 0,.i .i64 0,.i .i64 0,.i .i64 0,.i .i64 0,.ref (2,10),.i .i64 0,.b false,.b false,.ref (2,14),.ref (2,15),.ref (2,16),.ref (2,17)]),((2,4),.deep 135 [] none),((2,10),.deep 137 [] none),((2,14),.deep 91 [] none),((2,15),.deep 94 [] none),((2,16),.deep 95 [] none),((2,17),.deep 98 [] none),((3,0),.var [.i .i64 (a.t 0).asI,.i .i64 (a.t 1).asI,.i .i64 (a.t 2).asI,.ref (3,4),.i .i64 (a.t 4).asI,.i .i64 (a.t 5).asI,.i .i64 (a.t 6).asI,.i .i64 (a.t 7).asI,.i .i64 (a.t 8).asI,.ref (3,10),.i .i64 (a.t 10).asI,.b (a.t 11).asB,.b (a.t 12).asB,.ref (3,14),.ref (3,15),.ref (3,16),.ref (3,17)]),((3,4),.deep 135 (a.t 3).asR none),((3,10),.deep 137 (a.t 9).asR none),((3,14),.deep 91 A none),((3,15),.deep 94 [] none),((3,16),.deep 95 [] none),((3,17),.deep 98 [] none)]) a3i .dead⟩
def a5l (k:Nat) (b c d:Int) (e:LL) (f g h i l:Int) (m:LL) (n:Int) (o p:Bool) (q r t a:LL) (u:Outs) (w x:LL) (y:(V0_)→OO):(V0_)→OO:=
 b1z k b c d e f g h i l m n o p q r t a u w x (fun z A B C v=>a1k (a4h k a z A B C) k v) y
def a5m (k:Nat) (a b c:Int) (d:LL) (e f g h i:Int) (l:LL) (m:Int) (n o:Bool) (p q r t:LL) (u:Outs) (w:LL) (x:(V0_)→OO):(V0_)→OO:=
 b2a k a b c d e f g h i l m n o p q r t u w (fun y z A v=>a1k (a5l k a b c d e f g h i l m n o p q r t y z A) k v) x
def a5n (k:Nat) (a b c:Int) (d:LL) (e f g h i:Int) (l:LL) (m:Int) (n o:Bool) (p q r t:LL) (u:Outs) (w:(V0_)→OO):(V0_)→OO:=
 b2b k a b c d e f g h i l m n o p q r t u (fun x y v=>a1k (a5m k a b c d e f g h i l m n o p q r t x y) k v) w
def c0h (k:Nat) (a c d:Int) (e:LL) (f g h l m:Int) (n:LL) (o:Int) (p q:Bool) (w x y z:LL) (t:Outs→(V0_)→OO):OO:=
 a0f (a0a E P0 k N.j2i [.v [.i a,.i c,.i d,.r e,.i f,.i g,.i h,.i l,.i m,.r n,.i o,.b p,.b q]]) fun u=>
 t u (0,[])
def c0i (k:Nat) (a b c:Int) (d:LL) (e f g h i:Int) (l:LL) (m:Int) (n o:Bool) (p q r t:LL):OO:=
 c0h k a b c d e f g h i l m n o p q r t (fun u v=>a1k (a5n k a b c d e f g h i l m n o p q r t u) k v)
def a9p (k:Nat) (a c d:Int) (e:LL) (f g h l m:Int) (n:LL) (o:Int) (p q:Bool) (t u w x:LL) (js:List Nat) (j:Nat) (s:St):OO:=IT_ k N.j2j [.v [.i a,.i c,.i d,.r e,.i f,.i g,.i h,.i l,.i m,.r n,.i o,.b p,.b q,.r t,.r u,.r w,.r x]] [] [.sr,.sr,.sl,.sr,.bl] e6a js j s
def a9q (k:Nat) (a c d:Int) (e:LL) (f g h l m:Int) (n:LL) (o:Int) (p q:Bool) (t u w x:LL) (js:List Nat) (j:Nat) (s:St):OO:=IT_ k N.j2j [.v [.i a,.i c,.i d,.r e,.i f,.i g,.i h,.i l,.i m,.r n,.i o,.b p,.b q,.r t,.r u,.r w,.r x]] [] [.sr,.sr,.sr,.sl,.sr,.bl] e5z js j s
def a9r (k:Nat) (a c d:Int) (e:LL) (f g h l m:Int) (n:LL) (o:Int) (p q:Bool) (t u w x:LL) (js:List Nat) (j:Nat) (s:St):OO:=IT_ k N.j2j [.v [.i a,.i c,.i d,.r e,.i f,.i g,.i h,.i l,.i m,.r n,.i o,.b p,.b q,.r t,.r u,.r w,.r x]] [] [.sr,.sr,.sr,.sr,.sl,.sr,.bl] e5y js j s
def a9s (k:Nat) (a c d:Int) (e:LL) (f g h l m:Int) (n:LL) (o:Int) (p q:Bool) (t u w x:LL) (js:List Nat) (j:Nat) (s:St):OO:=IT_ k N.j2j [.v [.i a,.i c,.i d,.r e,.i f,.i g,.i h,.i l,.i m,.r n,.i o,.b p,.b q,.r t,.r u,.r w,.r x]] [] [.sr,.sr,.sr,.sr,.sr,.sl,.sr,.bl] e5x js j s
theorem f1m (k:Nat) (d e f:Int) (g:LL) (h l m n o:Int) (p:LL) (q:Int) (t u:Bool) (w x y a:LL):a0a E P0 (k+1) N.j2j [.v [.i d,.i e,.i f,.r g,.i h,.i l,.i m,.i n,.i o,.r p,.i q,.b t,.b u,.r w,.r x,.r y,.r a]]=c0i k d e f g h l m n o p q t u w x y a:=by
 have L:a0a E P0 (k+1) N.j2j [.v [.i d,.i e,.i f,.r g,.i h,.i l,.i m,.i n,.i o,.r p,.i q,.b t,.b u,.r w,.r x,.r y,.r a]]=c0h k d e f g h l m n o p q t u w x y a (fun H v=>a9p k d e f g h l m n o p q t u w x y a [] k (a7q d e f g h l m n o p q t u w x y a H v)):=by kernel_rfl
 have M:∀ (c:Outs) (z A B:LL) (C:Nat) (v:V0_),a9s k d e f g h l m n o p q t u w x y a [] (C+1) (a7n a c z A B v)=a4h k a c z A B (fun v=>a9s k d e f g h l m n o p q t u w x y a [] C (a7n a c z A B v)) v:=by
  intro c z A B C v;kernel_rfl
 have O:∀ (c:Outs) (z A B:LL) (C:Nat) (v:V0_),a9s k d e f g h l m n o p q t u w x y a [] C (a7n a c z A B v)=a1k (a4h k a c z A B) C v:=by
  intro c z A B C v;refine a1v (a7n a c z A B) (a4h k a c z A B) (fun C v=>(M c z A B C v).trans ?_) C v;unfold a4h;rfl
 have Q:∀ (c:Outs) (z A:LL) (D:Nat) (v:V0_),a9r k d e f g h l m n o p q t u w x y a [] (D+1) (a7o d e f g h l m n o p q t u w x y a c z A v)=b1z k d e f g h l m n o p q t u w x y a c z A (fun H J K R v=>a9s k d e f g h l m n o p q t u w x y a [] k (a7n a H J K R v)) (fun v=>a9r k d e f g h l m n o p q t u w x y a [] D (a7o d e f g h l m n o p q t u w x y a c z A v)) v:=by
  intro c z A D v;kernel_rfl
 have S:∀ (c:Outs) (z A:LL) (D:Nat) (v:V0_),a9r k d e f g h l m n o p q t u w x y a [] D (a7o d e f g h l m n o p q t u w x y a c z A v)=a1k (a5l k d e f g h l m n o p q t u w x y a c z A) D v:=by
  intro c z A D v;refine a1v (a7o d e f g h l m n o p q t u w x y a c z A) (a5l k d e f g h l m n o p q t u w x y a c z A) (fun D v=>(Q c z A D v).trans ?_) D v;unfold a5l;simp only [O] <;> rfl
 have U:∀ (c:Outs) (z:LL) (F:Nat) (v:V0_),a9q k d e f g h l m n o p q t u w x y a [] (F+1) (a7p d e f g h l m n o p q t u w x y a c z v)=b2a k d e f g h l m n o p q t u w x y a c z (fun H J K v=>a9r k d e f g h l m n o p q t u w x y a [] k (a7o d e f g h l m n o p q t u w x y a H J K v)) (fun v=>a9q k d e f g h l m n o p q t u w x y a [] F (a7p d e f g h l m n o p q t u w x y a c z v)) v:=by
  intro c z F v;kernel_rfl
 have V:∀ (c:Outs) (z:LL) (F:Nat) (v:V0_),a9q k d e f g h l m n o p q t u w x y a [] F (a7p d e f g h l m n o p q t u w x y a c z v)=a1k (a5m k d e f g h l m n o p q t u w x y a c z) F v:=by
  intro c z F v;refine a1v (a7p d e f g h l m n o p q t u w x y a c z) (a5m k d e f g h l m n o p q t u w x y a c z) (fun F v=>(U c z F v).trans ?_) F v;unfold a5m;simp only [S] <;> rfl
 have W:∀ (c:Outs) (G:Nat) (v:V0_),a9p k d e f g h l m n o p q t u w x y a [] (G+1) (a7q d e f g h l m n o p q t u w x y a c v)=b2b k d e f g h l m n o p q t u w x y a c (fun H J v=>a9q k d e f g h l m n o p q t u w x y a [] k (a7p d e f g h l m n o p q t u w x y a H J v)) (fun v=>a9p k d e f g h l m n o p q t u w x y a [] G (a7q d e f g h l m n o p q t u w x y a c v)) v:=by
  intro c G v;kernel_rfl
 have X:∀ (c:Outs) (G:Nat) (v:V0_),a9p k d e f g h l m n o p q t u w x y a [] G (a7q d e f g h l m n o p q t u w x y a c v)=a1k (a5n k d e f g h l m n o p q t u w x y a c) G v:=by
  intro c G v;refine a1v (a7q d e f g h l m n o p q t u w x y a c) (a5n k d e f g h l m n o p q t u w x y a c) (fun G v=>(W c G v).trans ?_) G v;unfold a5n;simp only [V] <;> rfl
 rw [L];unfold c0i;simp only [X]
end
end Go.Proofs.YtjadnceefhbphaaGreat.Ev
