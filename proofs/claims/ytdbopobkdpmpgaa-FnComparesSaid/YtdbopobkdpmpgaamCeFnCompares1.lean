/- What functions answer under the evaluator, as Lean terms, part 1: what FnCompares needs. No condition. -/
import Derived.Test.YtdbopobkdpmpgaamTab
namespace Go.Proofs.Ytdbopobkdpmpgaa.Ev
open Go Go.Proofs
set_option linter.unusedVariables false
set_option maxRecDepth 100000
set_option maxHeartbeats 4000000
noncomputable section
def b6o (k:Nat) (a c d:Int):OO:=
 a0i (a0d E P0 k N.g3b [.v [.i a,.i c]]) fun e=>
 a0i (a0d E P0 k N.g1t [.v [.i d],.v [.i 0],.v [.i (W64 ((e.t 0).asI - 1))]]) fun f=>
 some ⟨[.b (f.t 0).asB],[]⟩
theorem c8t (k:Nat) (a b c:Int):a0d E P0 (k+1) N.g3f [.v [.i a,.i b],.v [.i c]]=b6o k a b c:=by kernel_rfl
def b6p (k:Nat) (a c b:Int):OO:=
 a0i (a0d E P0 k N.g3f [.v [.i a,.i c],.v [.i b]]) fun d=>
 bif (!(d.t 0).asB) then
  some ⟨[.i (-1)],[]⟩
 else
  chk (!decide ((W64 (a - 1))=0)) <|
  some ⟨[.i (W64 (Int.tdiv b (W64 (a - 1))))],[]⟩
theorem c8u (k:Nat) (a b c:Int):a0d E P0 (k+1) N.g2s [.v [.i a,.i b],.v [.i c]]=b6p k a b c:=by kernel_rfl
def b5i (k:Nat) (a b d e f g:Int) (h:LL):OO:=
 a0i (a0d E P0 k N.g3d [.v [.i a,.i b],.v [.i d,.i e,.i f,.i g,.r h]]) fun c=>
 a0i (a0d E P0 k N.g2s [.v [.i a,.i b],.v [.i (c.t 0).asI]]) fun l=>
 a0i (a0d E P0 k N.g2s [.v [.i a,.i b],.v [.i (W64 ((c.t 1).asI - 1))]]) fun m=>
 some ⟨[.i (l.t 0).asI,.i (m.t 0).asI],[]⟩
theorem c4z (k:Nat) (a b c d e f:Int) (g:LL):a0d E P0 (k+1) N.g3g [.v [.i a,.i b],.v [.i c,.i d,.i e,.i f,.r g]]=b5i k a b c d e f g:=by kernel_rfl
def b8i (k:Nat) (g f a b c d:Int) (e:LL):OO:=
 a0i (a0d E P0 k N.g2p [.v [.i g,.i f],.v [.i a,.i b,.i c,.i d,.r e]]) fun l=>
 bif ((l.t 0).asI != 0) then
  some ⟨[.i 0],[]⟩
 else
  bif (a == 3) then
   a0i (a0d E P0 k N.g3g [.v [.i g,.i f],.v [.i a,.i b,.i c,.i d,.r e]]) fun h=>
   a0i (a0d E P0 k N.g2o [.v [.i a,.i b,.i c,.i d,.r e]]) fun m=>
   some ⟨[.i (W64 ((W64 ((W64 ((m.t 0).asI+(h.t 1).asI)) - (h.t 0).asI))+2))],[]⟩
  else
   bif (a == 4) then
    some ⟨[.i (W64 (f+1))],[]⟩
   else
    a0i (a0d E P0 k N.g2o [.v [.i a,.i b,.i c,.i d,.r e]]) fun n=>
    some ⟨[.i (W64 ((n.t 0).asI+1))],[]⟩
theorem d0s (k:Nat) (a b c d e f:Int) (g:LL):a0d E P0 (k+1) N.g3o [.v [.i a,.i b],.v [.i c,.i d,.i e,.i f,.r g]]=b8i k a b c d e f g:=by kernel_rfl
def b5j (k:Nat) (e a c:Int) (f:LL) (g h l m n:Int) (o:LL) (p:Int) (d q:Bool) (u:Int):OO:=
 a0i (a0d E P0 k N.g2h [.v [.i e,.i a,.i c,.r f,.i g,.i h,.i l,.i m,.i n,.r o,.i p,.b d,.b q]]) fun w=>
 bif (!(w.t 0).asB) then
  some ⟨[.i 1],[]⟩
 else
  bif d then
   some ⟨[.i 6],[]⟩
  else
   a0i (a0d E P0 k N.g3f [.v [.i a,.i c],.v [.i u]]) fun x=>
   bif (!(x.t 0).asB) then some ⟨[.i 2],[]⟩ else some ⟨[.i 0],[]⟩
theorem c5a (k:Nat) (a c d:Int) (e:LL) (f g h l m:Int) (n:LL) (o:Int) (p q:Bool) (t:Int):a0d E P0 (k+1) N.g3p [.v [.i a,.i c,.i d,.r e,.i f,.i g,.i h,.i l,.i m,.r n,.i o,.b p,.b q],.v [.i t]]=b5j k a c d e f g h l m n o p q t:=by kernel_rfl
def b8j (k:Nat) (c:Int) (d:LL) (a:Int):OO:=
 some ⟨[.b (c == a)],[[.i a]]⟩
theorem d0t (k:Nat) (a:Int) (b:LL) (c:Int):a0d E P0 (k+1) N.g2t [.v [.i a,.r b],.p [.i c]]=b8j k a b c:=by kernel_rfl
def a0z (k:Nat) (b:LL) (e:(V2_)→OO):(V2_)→OO:=fun (a,d)=>
 bif (decide (a<(b.length:Int))) then
  chk (decide (0≤a)&&decide (a<(b.length:Int))) <|
  a0i (a0d E P0 k N.g2t [.v [.i (at_ b a.toNat 0).asI,.r (at_ b a.toNat 1).asR],.p [.i d]]) fun c=>
  bif (c.t 0).asB then
   some ⟨[.i a],[[.i (c.vt 0 0).asI]]⟩
  else
   e ((W64 (a+1)),(c.vt 0 0).asI)
 else
  some ⟨[.i (-1)],[[.i d]]⟩
def a6j:List Nat:=[0,1,4,7,8]
def a6k (a:LL):(V2_)→St:=fun (b,c)=>⟨b2c [(0,.sl 85 a),(1,.clo N.g2t (some (1,0))),(4,.i .i64 0),(7,.i .i64 (a.length:Int)),(8,.i .i64 b)],a2m [((1,0),.var [.i .i64 c])]⟩
def a1t (k:Nat) (c:LL) (a:Int) (b:(V2_)→OO):OO:=
 b (0,a)
def a2v (k:Nat) (a:LL) (b:Int):OO:=
 a1t k a b (fun v=>a2z (a0z k a) k v)
theorem a6m (k:Nat) (a:LL) (d:Int):a0d E P0 (k+1) N.g4m [.v [.r a],.c N.g2t (some [.i d])]=a2v k a d:=b4n [1] [.sr,.sl,.sr,.bl] a6j (a1t k a d) (a6k a) (a0z k a) (by kernel_rfl) (fun j v=>by kernel_rfl)
def c4b (k:Nat) (e f g:Int) (h:LL) (l m n o p:Int) (a:LL) (q:Int) (u w:Bool) (b:Int):OO:=
 a0i (a0d E P0 k N.g4m [.v [.r a],.c N.g2t (some [.i b])]) fun d=>
 some ⟨[.i (d.t 0).asI],[]⟩
theorem d8o (k:Nat) (a c d:Int) (e:LL) (f g h l m:Int) (n:LL) (o:Int) (p q:Bool) (t:Int):a0d E P0 (k+1) N.g3q [.v [.i a,.i c,.i d,.r e,.i f,.i g,.i h,.i l,.i m,.r n,.i o,.b p,.b q],.v [.i t]]=c4b k a c d e f g h l m n o p q t:=by kernel_rfl
def a2r (k:Nat) (b:LL) (c:Int) (d:(Int)→OO):(Int)→OO:=fun a=>
 bif (decide (a<(b.length:Int))) then
  chk (decide (0≤a)&&decide (a<(b.length:Int))) <|
  bif (c == (at_ b a.toNat 0).asI) then some ⟨[.i a],[]⟩ else d (W64 (a+1))
 else
  some ⟨[.i (-1)],[]⟩
def b4r:List Nat:=[0,1,4,7,8]
def b4s (a:LL) (b:Int):(Int)→St:=fun c=>⟨b2c [(0,.sl 3 a),(1,.i .i64 b),(4,.i .i64 0),(7,.i .i64 (a.length:Int)),(8,.i .i64 c)],a2m []⟩
def a4y (k:Nat) (b:LL) (c:Int) (a:(Int)→OO):OO:=
 a 0
def a8q (k:Nat) (a:LL) (b:Int):OO:=
 a4y k a b (fun v=>a2z (a2r k a b) k v)
theorem b5r (k:Nat) (a:LL) (c:Int):a0d E P0 (k+1) N.g4n [.v [.r a],.v [.i c]]=a8q k a c:=b4n [] [.sr,.sl,.sr,.bl] b4r (a4y k a c) (b4s a c) (a2r k a c) (by kernel_rfl) (fun j v=>by kernel_rfl)
def a6n (k:Nat) (a:LL) (c:Int):OO:=
 a0i (a0d E P0 k N.g4n [.v [.r a],.v [.i c]]) fun d=>
 some ⟨[.b (decide ((d.t 0).asI≥0))],[]⟩
theorem b3j (k:Nat) (a:LL) (b:Int):a0d E P0 (k+1) N.g4o [.v [.r a],.v [.i b]]=a6n k a b:=by kernel_rfl
def a8i (k:Nat) (c:LL) (f:Int) (d:(V6_)→OO):(V6_)→OO:=fun (e,a)=>
 bif (decide (a<(c.length:Int))) then
  chk (decide (0≤a)&&decide (a<(c.length:Int))) <|
  bif ((at_ c a.toNat 0).asI == f) then
   d ((at_ c a.toNat 1).asR,(W64 (a+1)))
  else
   d (e,(W64 (a+1)))
 else
  a0i (a0d E P0 k N.g1u [.v [.r e]]) fun g=>
  some ⟨[.r (g.t 0).asR,.b true],[]⟩
def c8v:List Nat:=[1,4,5,6,34,35,36,47,48]
def c8w (a:LL) (c:Int):(V6_)→St:=fun (d,e)=>⟨b2c [(1,.i .i64 c),(4,.ref (4,0)),(5,.b false),(6,.sl 3 d),(34,.sl 92 a),(35,.i .i64 (a.length:Int)),(36,.i .i64 e),(47,.skip),(48,.skip)],a2m [((4,0),.row 3 true [])]⟩
def a5o (k:Nat) (c:LL) (a:Int) (d:(V6_)→OO) (e:Bool):OO:=
 bif e then
  some ⟨[.r [],.b false],[]⟩
 else
  chk (decide (0≤a)&&decide (a<(c.length:Int))) <|
  d ((at_ c a.toNat 0).asR,0)
def b3k (k:Nat) (a g:LL) (e:Bool) (f:LL) (c:Int) (d:(V6_)→OO):OO:=
 a0i (a0d E P0 k N.g1z [.v [.r a,.r g,.b e,.r f]]) fun h=>
 bif (!(h.t 0).asB) then
  a5o k a c d true
 else
  bif e then
   a5o k a c d true
  else
   a0i (a0d E P0 k N.g2k [.v [.r a,.r g,.b e,.r f],.v [.i c]]) fun l=>
   bif (!(l.t 0).asB) then
    a5o k a c d true
   else
    a0i (a0d E P0 k N.g4o [.v [.r f],.v [.i c]]) fun m=>
    a5o k a c d ((m.t 0).asB)
def b8k (k:Nat) (c a:LL) (d:Bool) (e:LL) (b:Int):OO:=
 b3k k c a d e b (fun v=>a2z (a8i k a b) k v)
theorem d0u (k:Nat) (d a:LL) (e:Bool) (f:LL) (c:Int):a0d E P0 (k+1) N.g4p [.v [.r d,.r a,.b e,.r f],.v [.i c]]=b8k k d a e f c:=b4n [] [.sr,.sr,.sr,.sl,.sr,.bl] c8v (b3k k d a e f c) (c8w a c) (a8i k a c) (by kernel_rfl) (fun j v=>by kernel_rfl)
def c0v (k:Nat) (h l m:Int) (c:LL) (d e n o p:Int) (q:LL) (r:Int) (u w:Bool) (a f:Int):OO:=
 a0i (a0d E P0 k N.g1t [.v [.i a],.v [.i 0],.v [.i (W64 ((c.length:Int) - 1))]]) fun g=>
 bif (g.t 0).asB then
  chk (decide (0≤a)&&decide (a<(c.length:Int))) <|
  bif (!(at_ c a.toNat 2).asB) then
   bif (d != a) then some ⟨[.b true],[]⟩ else some ⟨[.b (decide (f<e))],[]⟩
  else
   some ⟨[.b false],[]⟩
 else
  some ⟨[.b false],[]⟩
theorem d5i (k:Nat) (a c d:Int) (e:LL) (f g h l m:Int) (n:LL) (o:Int) (p q:Bool) (t u:Int):a0d E P0 (k+1) N.g3r [.v [.i a,.i c,.i d,.r e,.i f,.i g,.i h,.i l,.i m,.r n,.i o,.b p,.b q],.v [.i t],.v [.i u]]=c0v k a c d e f g h l m n o p q t u:=by kernel_rfl
def a9k (k:Nat) (a:Outs) (c:Bool):OO:=
 bif c then
  some ⟨[.i 0,.b false],[]⟩
 else
  chk (decide ((0:Int)<((a.t 0).asR.length:Int))) <|
  some ⟨[.i (at_ (a.t 0).asR 0 0).asI,.b true],[]⟩
def c0w (k:Nat) (f g h:Int) (c:LL) (l m n o p:Int) (q:LL) (u:Int) (w x:Bool) (a e:Int):OO:=
 chk (decide (0≤a)&&decide (a<(c.length:Int))) <|
 a0i (a0d E P0 k N.g2z [.v [.i e]]) fun y=>
 a0i (a0d E P0 k N.g4p [.v [.r (at_ c a.toNat 0).asR,.r (at_ c a.toNat 1).asR,.b (at_ c a.toNat 2).asB,.r (at_ c a.toNat 3).asR],.v [.i (y.t 0).asI]]) fun d=>
 a0i (a0d E P0 k N.g3r [.v [.i f,.i g,.i h,.r c,.i l,.i m,.i n,.i o,.i p,.r q,.i u,.b w,.b x],.v [.i a],.v [.i e]]) fun z=>
 bif (!(z.t 0).asB) then
  a9k k d true
 else
  bif (!(d.t 1).asB) then a9k k d true else a9k k d (((d.t 0).asR.length:Int) != 1)
theorem d5j (k:Nat) (a c d:Int) (e:LL) (f g h l m:Int) (n:LL) (o:Int) (p q:Bool) (t u:Int):a0d E P0 (k+1) N.g4q [.v [.i a,.i c,.i d,.r e,.i f,.i g,.i h,.i l,.i m,.r n,.i o,.b p,.b q],.v [.i t],.v [.i u]]=c0w k a c d e f g h l m n o p q t u:=by kernel_rfl
def b0s (k:Nat) (b:LL) (d:(V2_)→OO):(V2_)→OO:=fun (c,a)=>
 bif (decide (a<(b.length:Int))) then
  chk (decide (0≤a)&&decide (a<(b.length:Int))) <|
  d ((c1z .i64 c (at_ b a.toNat 0).asI),(W64 (a+1)))
 else
  some ⟨[.i c],[]⟩
def d5k:List Nat:=[2,3,6,7,8,16]
def d5l (a:LL):(V2_)→St:=fun (b,c)=>⟨b2c [(2,.i .i64 0),(3,.i .i64 b),(6,.sl 3 a),(7,.i .i64 (a.length:Int)),(8,.i .i64 c),(16,.skip)],a2m []⟩
def b6q (k:Nat) (b:LL) (a:(V2_)→OO):OO:=
 a (0,0)
def c4c (k:Nat) (a:LL):OO:=
 b6q k a (fun v=>a2z (b0s k a) k v)
theorem d8p (k:Nat) (a:LL):a0d E P0 (k+1) N.g3s [.v [.r a]]=c4c k a:=b4n [] [.sr,.sr,.sl,.sr,.bl] d5k (b6q k a) (d5l a) (b0s k a) (by kernel_rfl) (fun j v=>by kernel_rfl)
def b2j (k:Nat) (a:LL) (b:Int):OO:=
 a0i (a0d E P0 k N.g3s [.v [.r a]]) fun c=>
 a0i (a0d E P0 k N.g1t [.v [.i b],.v [.i 0],.v [.i (W64 ((a.length:Int) - 1))]]) fun d=>
 bif (d.t 0).asB then
  chk (decide (0≤b)&&decide (b<(a.length:Int))) <|
  some ⟨[.i (c1z .i64 (c.t 0).asI (at_ a b.toNat 0).asI)],[]⟩
 else
  some ⟨[.i (c.t 0).asI],[]⟩
theorem c0x (k:Nat) (a:LL) (b:Int):a0d E P0 (k+1) N.g4r [.v [.r a],.v [.i b]]=b2j k a b:=by kernel_rfl
def b4t (k:Nat) (a:Outs) (f d:Int) (c:LL) (e:(V5_)→OO) (g:Bool):OO:=
 bif g then
  some ⟨[.r [],.b false],[]⟩
 else
  bif (!(a.t 1).asB) then
   chk (decide ((c.length+([[.i (a.t 0).asI]]:LL).length)*8≤140737488355328)) <|
   e (d,(W64 (d+1)),(c++([[.i (a.t 0).asI]]:LL)))
  else
   chk (decide ((c.length+([[.i (a.t 0).asI]]:LL).length)*8≤140737488355328)) <|
   e (f,(W64 (d+1)),(c++([[.i (a.t 0).asI]]:LL)))
def a8j (k:Nat) (h l m:Int) (f:LL) (n o p q u:Int) (w:LL) (x:Int) (y z:Bool) (A:Int) (g:(V5_)→OO):(V5_)→OO:=fun (a,d,c)=>
 bif (decide (d<(f.length:Int))) then
  a0i (a0d E P0 k N.g4q [.v [.i h,.i l,.i m,.r f,.i n,.i o,.i p,.i q,.i u,.r w,.i x,.b y,.b z],.v [.i d],.v [.i A]]) fun e=>
  bif (!(e.t 1).asB) then
   b4t k e a d c g (decide (a≥0))
  else
   b4t k e a d c g false
 else
  bif (decide (a≥0)) then
   a0i (a0d E P0 k N.g4r [.v [.r c],.v [.i a]]) fun B=>
   chk (decide (0≤a)&&decide (a<(c.length:Int))) <|
   some ⟨[.r (a4f c a.toNat 0 [.i (B.t 0).asI]),.b true],[]⟩
  else
   some ⟨[.r c,.b true],[]⟩
def d5m:List Nat:=[1,2,4,5,6,7,28,29,53,54,55,56,57,58,59,60,61]
def d5n (c d e:Int) (a:LL) (f g h l m:Int) (n:LL) (o:Int) (p q:Bool) (r:Int):(V5_)→St:=fun (t,u,w)=>⟨b2c [(1,.i .i64 r),(2,.ptr (2,0) 0),(4,.ref (4,0)),(5,.b false),(6,.ref (6,0)),(7,.i .i64 t),(28,.i .i64 (a.length:Int)),(29,.i .i64 u),(53,.skip),(54,.skip),(55,.skip),(56,.skip),(57,.skip),(58,.skip),(59,.skip),(60,.skip),(61,.skip)],a2m [((2,0),.var [.i .i64 c,.i .i64 d,.i .i64 e,.sl 62 a,.i .i64 f,.i .i64 g,.i .i64 h,.i .i64 l,.i .i64 m,.sl 85 n,.i .i64 o,.b p,.b q]),((4,0),.row 3 true []),((6,0),.row 3 true w)]⟩
def b0t (k:Nat) (a:(V5_)→OO) (c:Bool):OO:=
 bif c then some ⟨[.r [],.b false],[]⟩ else a ((-1),0,[])
def b6r (k:Nat) (f c d:Int) (g:LL) (h l m n o:Int) (p:LL) (q:Int) (u e:Bool) (w:Int) (a:(V5_)→OO):OO:=
 a0i (a0d E P0 k N.g2h [.v [.i f,.i c,.i d,.r g,.i h,.i l,.i m,.i n,.i o,.r p,.i q,.b u,.b e]]) fun x=>
 bif (!(x.t 0).asB) then
  b0t k a true
 else
  bif e then
   b0t k a true
  else
   a0i (a0d E P0 k N.g2f [.v [.i c,.i d],.v [.i w]]) fun y=>
   b0t k a (!(y.t 0).asB)
def c4d (k:Nat) (a b c:Int) (d:LL) (e f g h i:Int) (l:LL) (m:Int) (n o:Bool) (p:Int):OO:=
 b6r k a b c d e f g h i l m n o p (fun v=>a2z (a8j k a b c d e f g h i l m n o p) k v)
theorem d8q (k:Nat) (a c d:Int) (e:LL) (f g h l m:Int) (n:LL) (o:Int) (p q:Bool) (t:Int):a0d E P0 (k+1) N.g4s [.v [.i a,.i c,.i d,.r e,.i f,.i g,.i h,.i l,.i m,.r n,.i o,.b p,.b q],.v [.i t]]=c4d k a c d e f g h l m n o p q t:=b4n [] [.sr,.sr,.sr,.sr,.sl,.sr,.bl] d5m (b6r k a c d e f g h l m n o p q t) (d5n a c d e f g h l m n o p q t) (a8j k a c d e f g h l m n o p q t) (by kernel_rfl) (fun j v=>by kernel_rfl)
def b6s (k:Nat) (a c b:Int):OO:=
 a0i (a0d E P0 k N.g2f [.v [.i a,.i c],.v [.i b]]) fun d=>
 bif (!(d.t 0).asB) then
  some ⟨[.i (-1)],[]⟩
 else
  chk (!decide (a=0)) <|
  some ⟨[.i (W64 ((W64 (a - 1)) - (Int.tmod b a)))],[]⟩
theorem c8x (k:Nat) (a b c:Int):a0d E P0 (k+1) N.g3t [.v [.i a,.i b],.v [.i c]]=b6s k a b c:=by kernel_rfl
def c0y (k:Nat) (a b c d:Int):OO:=
 a0i (a0d E P0 k N.g2f [.v [.i a,.i b],.v [.i c]]) fun e=>
 bif (!(e.t 0).asB) then
  some ⟨[.i (-1)],[]⟩
 else
  a0i (a0d E P0 k N.g1t [.v [.i d],.v [.i 0],.v [.i (W64 (a - 2))]]) fun f=>
  bif (!(f.t 0).asB) then
   some ⟨[.i (-1)],[]⟩
  else
   a0i (a0d E P0 k N.g3t [.v [.i a,.i b],.v [.i c]]) fun g=>
   chk (!decide (a=0)) <|
   some ⟨[.i (Int.tmod (W64 ((W64 ((g.t 0).asI+1))+d)) a)],[]⟩
theorem d5o (k:Nat) (a b c d:Int):a0d E P0 (k+1) N.g3u [.v [.i a,.i b],.v [.i c],.v [.i d]]=c0y k a b c d:=by kernel_rfl
def a6o (k:Nat) (n f g:Int) (o:LL) (p q u w x:Int) (y:LL) (z:Int) (A B:Bool) (h:Int) (c:Outs) (l:Int) (m:(V0_)→OO):(V0_)→OO:=fun (d,e)=>
 bif (decide (d<l)) then
  a0i (a0d E P0 k N.g3u [.v [.i f,.i g],.v [.i h],.v [.i d]]) fun a=>
  chk (decide (0≤(a.t 0).asI)&&decide ((a.t 0).asI<((c.t 0).asR.length:Int))) <|
  chk (decide ((e.length+([[.i (at_ (c.t 0).asR (a.t 0).asI.toNat 0).asI]]:LL).length)*8≤140737488355328)) <|
  m ((W64 (d+1)),(e++([[.i (at_ (c.t 0).asR (a.t 0).asI.toNat 0).asI]]:LL)))
 else
  some ⟨[.r e,.b true],[]⟩
def d0v:List Nat:=[1,2,4,5,6,8,22,23,38]
def b8l (a c d:Int) (e:LL) (f g h l m:Int) (n:LL) (o:Int) (p q:Bool) (r:Int) (u:Outs) (w:Int):(V0_)→St:=fun (x,y)=>⟨b2c [(1,.i .i64 r),(2,.ptr (2,0) 0),(4,.ref (4,0)),(5,.b false),(6,.ref (6,0)),(8,.ref (8,0)),(22,.i .i64 w),(23,.i .i64 x),(38,.skip)],a2m [((2,0),.var [.i .i64 a,.i .i64 c,.i .i64 d,.sl 62 e,.i .i64 f,.i .i64 g,.i .i64 h,.i .i64 l,.i .i64 m,.sl 85 n,.i .i64 o,.b p,.b q]),((4,0),.row 3 true []),((6,0),.row 3 true (u.t 0).asR),((8,0),.row 3 true y)]⟩
def b0u (k:Nat) (d a e:Int) (f:LL) (g h l m n:Int) (o:LL) (p:Int) (q u:Bool) (w:Int) (x:Outs→Int→(V0_)→OO):OO:=
 a0i (a0d E P0 k N.g4s [.v [.i d,.i a,.i e,.r f,.i g,.i h,.i l,.i m,.i n,.r o,.i p,.b q,.b u],.v [.i w]]) fun c=>
 bif (!(c.t 1).asB) then some ⟨[.r [],.b false],[]⟩ else x c (W64 (a - 1)) (0,[])
def c0z (k:Nat) (a b c:Int) (d:LL) (e f g h i:Int) (l:LL) (m:Int) (n o:Bool) (p:Int):OO:=
 b0u k a b c d e f g h i l m n o p (fun q r v=>a2z (a6o k a b c d e f g h i l m n o p q r) k v)
def c8y (k:Nat) (a c d:Int) (e:LL) (f g h l m:Int) (n:LL) (o:Int) (p q:Bool) (t:Int) (js:List Nat) (j:Nat) (s:St):OO:=IT_ k N.g3v [.v [.i a,.i c,.i d,.r e,.i f,.i g,.i h,.i l,.i m,.r n,.i o,.b p,.b q],.v [.i t]] [] [.sr,.sr,.sr,.sr,.sl,.sr,.bl] d0v js j s
theorem d5p (k:Nat) (a c d:Int) (e:LL) (f g h l m:Int) (n:LL) (o:Int) (p q:Bool) (t:Int):a0d E P0 (k+1) N.g3v [.v [.i a,.i c,.i d,.r e,.i f,.i g,.i h,.i l,.i m,.r n,.i o,.b p,.b q],.v [.i t]]=c0z k a c d e f g h l m n o p q t:=
 Eq.trans (b:=b0u k a c d e f g h l m n o p q t (fun u w v=>c8y k a c d e f g h l m n o p q t [] k (b8l a c d e f g h l m n o p q t u w v))) (by kernel_rfl) (congrArg (b0u k a c d e f g h l m n o p q t) (funext fun u=>funext fun w=>funext fun v=>a2d (b8l a c d e f g h l m n o p q t u w) (a6o k a c d e f g h l m n o p q t u w) (fun j v=>by kernel_rfl) k v))
def b8m (k:Nat) (d e f:Int) (g:LL) (h l m n o:Int) (a:LL) (p:Int) (q u:Bool) (w:Int):OO:=
 a0i (a0d E P0 k N.g3q [.v [.i d,.i e,.i f,.r g,.i h,.i l,.i m,.i n,.i o,.r a,.i p,.b q,.b u],.v [.i w]]) fun c=>
 bif (decide ((c.t 0).asI≥0)) then
  chk (decide (0≤(c.t 0).asI)&&decide ((c.t 0).asI<(a.length:Int))) <|
  a0i (a0d E P0 k N.g1u [.v [.r (at_ a (c.t 0).asI.toNat 1).asR]]) fun y=>
  some ⟨[.r (y.t 0).asR,.b true],[]⟩
 else
  a0i (a0d E P0 k N.g3v [.v [.i d,.i e,.i f,.r g,.i h,.i l,.i m,.i n,.i o,.r a,.i p,.b q,.b u],.v [.i w]]) fun x=>
  some ⟨[.r (x.t 0).asR,.b (x.t 1).asB],[]⟩
theorem d0w (k:Nat) (a c d:Int) (e:LL) (f g h l m:Int) (n:LL) (o:Int) (p q:Bool) (t:Int):a0d E P0 (k+1) N.g3w [.v [.i a,.i c,.i d,.r e,.i f,.i g,.i h,.i l,.i m,.r n,.i o,.b p,.b q],.v [.i t]]=b8m k a c d e f g h l m n o p q t:=by kernel_rfl
def b8n (k:Nat) (a c b:Int):OO:=
 a0i (a0d E P0 k N.g3f [.v [.i a,.i c],.v [.i b]]) fun d=>
 bif (!(d.t 0).asB) then
  some ⟨[.i (-1)],[]⟩
 else
  chk (!decide ((W64 (a - 1))=0)) <|
  some ⟨[.i (Int.tmod b (W64 (a - 1)))],[]⟩
theorem d0x (k:Nat) (a b c:Int):a0d E P0 (k+1) N.g3x [.v [.i a,.i b],.v [.i c]]=b8n k a b c:=by kernel_rfl
def b6t (k:Nat) (g a c:Int) (h:LL) (l m n o p:Int) (q:LL) (u:Int) (w x:Bool) (d:Int):OO:=
 a0i (a0d E P0 k N.g3p [.v [.i g,.i a,.i c,.r h,.i l,.i m,.i n,.i o,.i p,.r q,.i u,.b w,.b x],.v [.i d]]) fun y=>
 bif ((y.t 0).asI != 0) then
  some ⟨[.i 0,.i (y.t 0).asI],[]⟩
 else
  a0i (a0d E P0 k N.g2s [.v [.i a,.i c],.v [.i d]]) fun z=>
  a0i (a0d E P0 k N.g3w [.v [.i g,.i a,.i c,.r h,.i l,.i m,.i n,.i o,.i p,.r q,.i u,.b w,.b x],.v [.i (z.t 0).asI]]) fun e=>
  bif (!(e.t 1).asB) then
   some ⟨[.i 0,.i 5],[]⟩
  else
   a0i (a0d E P0 k N.g3x [.v [.i a,.i c],.v [.i d]]) fun f=>
   chk (decide (0≤(f.t 0).asI)&&decide ((f.t 0).asI<((e.t 0).asR.length:Int))) <|
   some ⟨[.i (at_ (e.t 0).asR (f.t 0).asI.toNat 0).asI,.i 0],[]⟩
theorem c8z (k:Nat) (a c d:Int) (e:LL) (f g h l m:Int) (n:LL) (o:Int) (p q:Bool) (t:Int):a0d E P0 (k+1) N.g2j [.v [.i a,.i c,.i d,.r e,.i f,.i g,.i h,.i l,.i m,.r n,.i o,.b p,.b q],.v [.i t]]=b6t k a c d e f g h l m n o p q t:=by kernel_rfl
def a3n (k:Nat) (a e:Outs) (d:LL) (c:Int) (f:Bool):OO:=
 bif f then
  chk (decide (0≤c)&&decide (c<((a.t 9).asR.length:Int))) <|
  so_ [.i (a.t 0).asI,.i (a.t 1).asI,.i (a.t 2).asI,.r (a.t 3).asR,.i (a.t 4).asI,.i (a.t 5).asI,.i (a.t 6).asI,.i (a.t 7).asI,.i (a.t 8).asI,.r (a4f (a.t 9).asR c.toNat 1 [.r d]),.i (a.t 10).asI,.b (a.t 11).asB,.b (a.t 12).asB,.i 0]
 else
  chk (decide (0≤c)&&decide (c≤((a.t 9).asR.length:Int))) <|
  chk (decide (((a.t 9).asR.length+([[.i (e.t 0).asI,.r d]]:LL).length)*32≤140737488355328)) <|
  so_ [.i (a.t 0).asI,.i (a.t 1).asI,.i (a.t 2).asI,.r (a.t 3).asR,.i (a.t 4).asI,.i (a.t 5).asI,.i (a.t 6).asI,.i (a.t 7).asI,.i (a.t 8).asI,.r ((a.t 9).asR.take c.toNat++([[.i (e.t 0).asI,.r d]]:LL)++(a.t 9).asR.drop c.toNat),.i (a.t 10).asI,.b (a.t 11).asB,.b (a.t 12).asB,.i 0]
def a4u (k:Nat) (b c:Outs) (d:LL) (a:Int) (e:(Int)→OO) (f:Bool):OO:=
 bif f then
  e (W64 (a+1))
 else
  bif (decide (a<((b.t 9).asR.length:Int))) then
   chk (decide (0≤a)&&decide (a<((b.t 9).asR.length:Int))) <|
   a3n k b c d a ((at_ (b.t 9).asR a.toNat 0).asI == (c.t 0).asI)
  else
   a3n k b c d a false
def a2l (k:Nat) (b c:Outs) (d:LL) (e:(Int)→OO):(Int)→OO:=fun a=>
 bif (decide (a<((b.t 9).asR.length:Int))) then
  chk (decide (0≤a)&&decide (a<((b.t 9).asR.length:Int))) <|
  a4u k b c d a e (decide ((at_ (b.t 9).asR a.toNat 0).asI<(c.t 0).asI))
 else
  a4u k b c d a e false
def c5b:List Nat:=[6,7,8,10,11,13,67,68,69,70,71,72,73,74,75,76,77,78,79,80,81,82,83,84,85,86,87,88,89,90,91,92,93,94,95,96,97]
def b5k (a c:Outs) (d:LL):(Int)→St:=fun e=>SD_ [(6,.ptr (6,0) 0),(7,.w_ 0),(8,.ptr (8,0) 0),(10,.w_ (c.t 0).asI),(11,.ref (11,0)),(13,.w_ e),(67,.skip),(68,.skip),(69,.skip),(70,.skip),(71,.skip),(72,.skip),(73,.skip),(74,.skip),(75,.skip),(76,.skip),(77,.skip),(78,.skip),(79,.skip),(80,.skip),(81,.skip),(82,.skip),(83,.skip),(84,.skip),(85,.skip),(86,.skip),(87,.skip),(88,.skip),(89,.skip),(90,.skip),(91,.skip),(92,.skip),(93,.skip),(94,.skip),(95,.skip),(96,.skip),(97,.skip)] [((6,0),.var [.w_ 0,.w_ 0,.w_ 0,.ref (6,4),.w_ 0,.w_ 0,.w_ 0,.w_ 0,.w_ 0,.ref (6,10),.w_ 0,.b false,.b false]),((6,4),.deep 62 [] none),((6,10),.deep 85 [] none),((8,0),.var [.w_ (a.t 0).asI,.w_ (a.t 1).asI,.w_ (a.t 2).asI,.ref (8,4),.w_ (a.t 4).asI,.w_ (a.t 5).asI,.w_ (a.t 6).asI,.w_ (a.t 7).asI,.w_ (a.t 8).asI,.ref (8,10),.w_ (a.t 10).asI,.b (a.t 11).asB,.b (a.t 12).asB]),((8,4),.deep 62 (a.t 3).asR none),((8,10),.deep 85 (a.t 9).asR none),((11,0),.row 3 true d)]
def a7c (k:Nat) (m c d:Int) (n:LL) (o p q u w:Int) (x:LL) (y:Int) (z A:Bool) (g B:Int) (a:Outs) (C:Outs→Outs→LL→(Int)→OO) (h:Int):OO:=
 bif (h != 0) then
  so_ (S5_ a h)
 else
  BK_ k N.g2s [.v [.i c,.i d],vi_ g] fun l=>
  BK_ k N.g3w [.v (S0_ m c d n o p q u w x y z A),vi_ (l.t 0).asI] fun e=>
  bif (!(e.t 1).asB) then
   so_ (S5_ a 5)
  else
   BK_ k N.g3x [.v [.i c,.i d],vi_ g] fun f=>
   chk (decide (0≤(f.t 0).asI)&&decide ((f.t 0).asI<((e.t 0).asR.length:Int))) <|
   C a l (a4f (e.t 0).asR (f.t 0).asI.toNat 0 [.i B]) 0
def a7d (k:Nat) (a b c:Int) (d:LL) (e f g h i:Int) (l:LL) (m:Int) (n o:Bool) (p q:Int) (r w:Outs) (u:Outs→Outs→LL→(Int)→OO) (x:Bool):OO:=
 bif x then
  a7c k a b c d e f g h i l m n o p q r u 3
 else
  a7c k a b c d e f g h i l m n o p q r u ((w.t 0).asI)
def a8k (k:Nat) (a c d:Int) (e:LL) (f g h l m:Int) (n:LL) (o:Int) (p q:Bool) (u w:Int) (y:Outs→Outs→LL→(Int)→OO):OO:=
 BK_ k N.g2b [.v (S0_ a c d e f g h l m n o p q)] fun z=>
 BK_ k N.g3p [.v (S0_ a c d e f g h l m n o p q),vi_ u] fun x=>
 bif ((x.t 0).asI == 0) then
  BK_ k N.g3l [vi_ w] fun A=>
  a7d k a c d e f g h l m n o p q u w z x y (!(A.t 0).asB)
 else
  a7d k a c d e f g h l m n o p q u w z x y false
def b6u (k:Nat) (a b c:Int) (d:LL) (e f g h i:Int) (l:LL) (m:Int) (n o:Bool) (p q:Int):OO:=
 a8k k a b c d e f g h i l m n o p q (fun r t u v=>a2z (a2l k r t u) k v)
def c2q (k:Nat) (a c d:Int) (e:LL) (f g h l m:Int) (n:LL) (o:Int) (p q:Bool) (t u:Int) (js:List Nat) (j:Nat) (s:St):OO:=IT_ k N.g1w [.v (S0_ a c d e f g h l m n o p q),vi_ t,vi_ u] [] [.sr,.sr,.sr,.sr,.sr,.sr,.sr,.sr,.sr,.sr,.sl,.bl] c5b js j s
theorem c9a (k:Nat) (a c d:Int) (e:LL) (f g h l m:Int) (n:LL) (o:Int) (p q:Bool) (t u:Int):a0d E P0 (k+1) N.g1w [.v (S0_ a c d e f g h l m n o p q),vi_ t,vi_ u]=b6u k a c d e f g h l m n o p q t u:=
 Eq.trans (b:=a8k k a c d e f g h l m n o p q t u (fun w x y v=>c2q k a c d e f g h l m n o p q t u [] k (b5k w x y v))) (by kernel_rfl) (congrArg (a8k k a c d e f g h l m n o p q t u) (funext fun w=>funext fun x=>funext fun y=>funext fun v=>a2d (b5k w x y) (a2l k w x y) (fun j v=>by kernel_rfl) k v))
def c1a (k:Nat) (c d e:Int) (f:LL) (g h l m n:Int) (o:LL) (a:Int) (q p:Bool):OO:=
 bif (a == 0) then
  some ⟨[.b false],[[.i c,.i d,.i e,.r f,.i g,.i h,.i l,.i m,.i n,.r o,.i (-1),.b true,.b p]]⟩
 else
  bif (decide (a > 0)) then
   some ⟨[.b true],[(S0_ c d e f g h l m n o (W64 (a - 1)) q p)]⟩
  else
   some ⟨[.b true],[(S0_ c d e f g h l m n o a q p)]⟩
theorem d5q (k:Nat) (a c d:Int) (e:LL) (f g h l m:Int) (n:LL) (o:Int) (q t:Bool):a0d E P0 (k+1) N.g3y [.p (S0_ a c d e f g h l m n o q t)]=c1a k a c d e f g h l m n o q t:=by kernel_rfl
def a7e (k:Nat) (A:LL) (z:(V1_)→OO):(V1_)→OO:=fun (c,f,g,h,l,m,n,o,q,u,w,x,d,y)=>
 bif (decide (c<(A.length:Int))) then
  ck_ c d <|
  bif (at_ d c.toNat 2).asB then
   z ((W64 (c+1)),f,g,h,l,m,n,o,q,u,w,x,d,y)
  else
   BK_ k N.g3y [.p (S0_ f g h d l m n o q y u w x)] fun a=>
   bif (!(a.t 0).asB) then
    some ⟨[.b false],[(S2_ a)]⟩
   else
    chk (decide (0≤c)&&decide (c<((a.vt 0 3).asR.length:Int))) <|
    BK_ k N.g2m [.v (S4_ (at_ (a.vt 0 3).asR c.toNat 0).asR (at_ (a.vt 0 3).asR c.toNat 1).asR (at_ (a.vt 0 3).asR c.toNat 2).asB (at_ (a.vt 0 3).asR c.toNat 3).asR)] fun e=>
    chk (decide (0≤c)&&decide (c<((a.vt 0 3).asR.length:Int))) <|
    chk (Nat.beq c.toNat c.toNat) <|
    z ((W64 (c+1)),(a.vt 0 0).asI,(a.vt 0 1).asI,(a.vt 0 2).asI,(a.vt 0 4).asI,(a.vt 0 5).asI,(a.vt 0 6).asI,(a.vt 0 7).asI,(a.vt 0 8).asI,(a.vt 0 10).asI,(a.vt 0 11).asB,(a.vt 0 12).asB,(a4f (a.vt 0 3).asR c.toNat 0 (S7_ e)),(a.vt 0 9).asR)
 else
  some ⟨[.b true],[(S0_ f g h d l m n o q y u w x)]⟩
def c5c:List Nat:=[0,2,8,9]
def c5d (a:LL):(V1_)→St:=fun (c,d,e,f,g,h,l,m,n,o,p,q,r,t)=>SD_ [(0,.ptr (0,0) 0),(2,.b false),(8,.w_ (a.length:Int)),(9,.w_ c)] [((0,0),.var [.w_ d,.w_ e,.w_ f,.ref (0,4),.w_ g,.w_ h,.w_ l,.w_ m,.w_ n,.ref (0,10),.w_ o,.b p,.b q]),((0,4),.deep 62 r none),((0,10),.deep 85 t none)]
def b1o (k:Nat) (a b c:Int) (d:LL) (e f g h i:Int) (l:LL) (m:Int) (n o:Bool) (p:(V1_)→OO):OO:=
 p (0,a,b,c,e,f,g,h,i,m,n,o,d,l)
def b6v (k:Nat) (b c d:Int) (a:LL) (e f g h i:Int) (l:LL) (m:Int) (n o:Bool):OO:=
 b1o k b c d a e f g h i l m n o (fun v=>a2z (a7e k a) k v)
theorem c9b (k:Nat) (c d e:Int) (a:LL) (f g h l m:Int) (n:LL) (o:Int) (q t:Bool):a0d E P0 (k+1) N.g3h [.p (S0_ c d e a f g h l m n o q t)]=b6v k c d e a f g h l m n o q t:=b4n [0] [.sr,.sl,.sr,.bl] c5c (b1o k c d e a f g h l m n o q t) (c5d a) (a7e k a) (by kernel_rfl) (fun j v=>by kernel_rfl)
def b5l (k:Nat) (f g h:Int) (d:LL) (l m n o q:Int) (u:LL) (w:Int) (x y:Bool) (c z:Int) (A:LL):OO:=
 ck_ c d <|
 bif (at_ d c.toNat 2).asB then
  some ⟨[.b true],[(S0_ f g h d l m n o q u w x y)]⟩
 else
  BK_ k N.g3y [.p (S0_ f g h d l m n o q u w x y)] fun a=>
  bif (!(a.t 0).asB) then
   some ⟨[.b false],[(S2_ a)]⟩
  else
   chk (decide (0≤c)&&decide (c<((a.vt 0 3).asR.length:Int))) <|
   BK_ k N.g2l [.v (S4_ (at_ (a.vt 0 3).asR c.toNat 0).asR (at_ (a.vt 0 3).asR c.toNat 1).asR (at_ (a.vt 0 3).asR c.toNat 2).asB (at_ (a.vt 0 3).asR c.toNat 3).asR),vi_ z,vr_ A] fun e=>
   chk (decide (0≤c)&&decide (c<((a.vt 0 3).asR.length:Int))) <|
   chk (Nat.beq c.toNat c.toNat) <|
   some ⟨[.b true],[[.i (a.vt 0 0).asI,.i (a.vt 0 1).asI,.i (a.vt 0 2).asI,.r (a4f (a.vt 0 3).asR c.toNat 0 (S7_ e)),.i (a.vt 0 4).asI,.i (a.vt 0 5).asI,.i (a.vt 0 6).asI,.i (a.vt 0 7).asI,.i (a.vt 0 8).asI,.r (a.vt 0 9).asR,.i (a.vt 0 10).asI,.b (a.vt 0 11).asB,.b (a.vt 0 12).asB]]⟩
theorem c5e (k:Nat) (a c d:Int) (e:LL) (f g h l m:Int) (n:LL) (o:Int) (q t:Bool) (u w:Int) (x:LL):a0d E P0 (k+1) N.g2u [.p (S0_ a c d e f g h l m n o q t),vi_ u,vi_ w,vr_ x]=b5l k a c d e f g h l m n o q t u w x:=by kernel_rfl
def a7f (k:Nat) (A:LL) (B:(V1_)→OO):(V1_)→OO:=fun (e,g,h,l,m,n,o,q,f,u,w,x,y,z)=>
 bif (decide (e<(A.length:Int))) then
  BK_ k N.g2x [.v (S0_ g h l y m n o q f z u w x),vi_ e] fun d=>
  BK_ k N.g3k [.v (g1b d)] fun C=>
  BK_ k N.g2u [.p (S0_ g h l y m n o q f z u w x),vi_ e,vi_ (Int.tmod f 2),vr_ (C.t 0).asR] fun a=>
  bif (!(a.t 0).asB) then
   some ⟨[.b false],[(S2_ a)]⟩
  else
   B ((W64 (e+1)),(a.vt 0 0).asI,(a.vt 0 1).asI,(a.vt 0 2).asI,(a.vt 0 4).asI,(a.vt 0 5).asI,(a.vt 0 6).asI,(a.vt 0 7).asI,(a.vt 0 8).asI,(a.vt 0 10).asI,(a.vt 0 11).asB,(a.vt 0 12).asB,(a.vt 0 3).asR,(a.vt 0 9).asR)
 else
  BK_ k N.g3h [.p (S0_ g h l y m n o q f z u w x)] fun c=>
  some ⟨[.b (c.t 0).asB],[(S2_ c)]⟩
def c5f:List Nat:=[0,2,15,16,35,36]
def c5g (a:LL):(V1_)→St:=fun (c,d,e,f,g,h,l,m,n,o,p,q,r,t)=>SD_ [(0,.ptr (0,0) 0),(2,.b false),(15,.w_ (a.length:Int)),(16,.w_ c),(35,.skip),(36,.skip)] [((0,0),.var [.w_ d,.w_ e,.w_ f,.ref (0,4),.w_ g,.w_ h,.w_ l,.w_ m,.w_ n,.ref (0,10),.w_ o,.b p,.b q]),((0,4),.deep 62 r none),((0,10),.deep 85 t none)]
def b1p (k:Nat) (a b c:Int) (d:LL) (e f g h i:Int) (l:LL) (m:Int) (n o:Bool) (p:(V1_)→OO):OO:=
 p (0,a,b,c,e,f,g,h,(W64 (i+1)),m,n,o,d,l)
def b6w (k:Nat) (b c d:Int) (a:LL) (e f g h i:Int) (l:LL) (m:Int) (n o:Bool):OO:=
 b1p k b c d a e f g h i l m n o (fun v=>a2z (a7f k a) k v)
theorem c9c (k:Nat) (c d e:Int) (a:LL) (f g h l m:Int) (n:LL) (o:Int) (q t:Bool):a0d E P0 (k+1) N.g4t [.p (S0_ c d e a f g h l m n o q t)]=b6w k c d e a f g h l m n o q t:=b4n [0] [.sr,.sr,.sl,.sr,.bl] c5f (b1p k c d e a f g h l m n o q t) (c5g a) (a7f k a) (by kernel_rfl) (fun j v=>by kernel_rfl)
def b5m (k:Nat) (d e f:Int) (g:LL) (h l m n o:Int) (q:LL) (u:Int) (w x:Bool):OO:=
 BK_ k N.g3h [.p (S0_ d e f g h l m n o q u w x)] fun a=>
 bif (!(a.t 0).asB) then
  some ⟨[.b false],[(S2_ a)]⟩
 else
  BK_ k N.g4t [.p [.i (a.vt 0 0).asI,.i (a.vt 0 1).asI,.i (a.vt 0 2).asI,.r (a.vt 0 3).asR,.i (a.vt 0 4).asI,.i (a.vt 0 5).asI,.i (a.vt 0 6).asI,.i (a.vt 0 6).asI,.i (a.vt 0 8).asI,.r (a.vt 0 9).asR,.i (a.vt 0 10).asI,.b (a.vt 0 11).asB,.b (a.vt 0 12).asB]] fun c=>
  some ⟨[.b (c.t 0).asB],[(S2_ c)]⟩
theorem c5h (k:Nat) (a c d:Int) (e:LL) (f g h l m:Int) (n:LL) (o:Int) (q t:Bool):a0d E P0 (k+1) N.g4u [.p (S0_ a c d e f g h l m n o q t)]=b5m k a c d e f g h l m n o q t:=by kernel_rfl
def c1b (k:Nat) (a:Int):OO:=
 bif (decide (a<0)) then so_ [.i (-1)] else so_ [.i (W64 (2+(Int.tmod a 4)))]
theorem d5r (k:Nat) (a:Int):a0d E P0 (k+1) N.g4v [vi_ a]=c1b k a:=by kernel_rfl
def c4e (k:Nat) (c d:Int) (a:LL):OO:=
 BK_ k N.g1t [vi_ c,vi_ 0,vi_ 60000] fun e=>
 bif (e.t 0).asB then
  BK_ k N.g1t [vi_ d,vi_ 0,vi_ 7] fun f=>
  bif (f.t 0).asB then
   BK_ k N.g1t [vi_ (a.length:Int),vi_ 2,vi_ 4] fun g=>
   bif (g.t 0).asB then
    BK_ k N.g2e [vr_ a] fun h=>
    so_ [.b (h.t 0).asB]
   else
    so_ [.b false]
  else
   so_ [.b false]
 else
  so_ [.b false]
theorem d8r (k:Nat) (a b:Int) (c:LL):a0d E P0 (k+1) N.g4w [.v [.i a,.i b,.r c]]=c4e k a b c:=by kernel_rfl
def c1c (k:Nat) (b c:Int) (a:LL):OO:=
 BK_ k N.g4w [.v [.i b,.i c,.r a]] fun d=>
 bif (!(d.t 0).asB) then
  so_ [.r []]
 else
  chk (decide ((([[.i 21322],[.i b],[.i c],[.i (a.length:Int)]]:LL).length+a.length)*8≤140737488355328)) <|
  so_ [.r (([[.i 21322],[.i b],[.i c],[.i (a.length:Int)]]:LL)++a)]
theorem d5s (k:Nat) (a b:Int) (c:LL):a0d E P0 (k+1) N.g4x [.v [.i a,.i b,.r c]]=c1c k a b c:=by kernel_rfl
def a5a (k:Nat) (A:LL) (e B:Int) (C:LL) (D:(V1_)→OO):(V1_)→OO:=fun (d,f,g,h,l,m,n,o,q,u,w,x,y,z)=>
 bif (decide (d<(A.length:Int))) then
  BK_ k N.g4v [vi_ e] fun F=>
  BK_ k N.g4x [.v [.i e,.i B,.r C]] fun G=>
  BK_ k N.g2u [.p (S0_ f g h y l m n o q z u w x),vi_ d,vi_ (F.t 0).asI,vr_ (G.t 0).asR] fun a=>
  bif (!(a.t 0).asB) then
   some ⟨[.b false],[(S2_ a)]⟩
  else
   D ((W64 (d+1)),(a.vt 0 0).asI,(a.vt 0 1).asI,(a.vt 0 2).asI,(a.vt 0 4).asI,(a.vt 0 5).asI,(a.vt 0 6).asI,(a.vt 0 7).asI,(a.vt 0 8).asI,(a.vt 0 10).asI,(a.vt 0 11).asB,(a.vt 0 12).asB,(a.vt 0 3).asR,(a.vt 0 9).asR)
 else
  BK_ k N.g3h [.p (S0_ f g h y l m n o q z u w x)] fun c=>
  some ⟨[.b (c.t 0).asB],[(S2_ c)]⟩
def c1d:List Nat:=[0,3,4,10,11,24,25]
def c1e (a:LL) (c d:Int) (e:LL):(V1_)→St:=fun (f,g,h,l,m,n,o,p,q,r,t,u,w,x)=>SD_ [(0,.ptr (0,0) 0),(3,.ptr (3,0) 0),(4,.b false),(10,.w_ (a.length:Int)),(11,.w_ f),(24,.skip),(25,.skip)] [((0,0),.var [.w_ g,.w_ h,.w_ l,.ref (0,4),.w_ m,.w_ n,.w_ o,.w_ p,.w_ q,.ref (0,10),.w_ r,.b t,.b u]),((0,4),.deep 62 w none),((0,10),.deep 85 x none),((3,0),.var [.w_ c,.w_ d,.sl 3 e])]
def a8y (k:Nat) (a b c:Int) (d:LL) (e f g h i:Int) (l:LL) (m:Int) (n o:Bool) (q r:Int) (t:LL) (p:(V1_)→OO):OO:=
 p (0,a,b,c,e,f,g,h,i,m,n,o,d,l)
def b3z (k:Nat) (e f g:Int) (a:LL) (h i l m n:Int) (o:LL) (p:Int) (q r:Bool) (b c:Int) (d:LL):OO:=
 a8y k e f g a h i l m n o p q r b c d (fun v=>a2z (a5a k a b c d) k v)
theorem c2r (k:Nat) (f g h:Int) (a:LL) (l m n o q:Int) (t:LL) (u:Int) (w x:Bool) (c d:Int) (e:LL):a0d E P0 (k+1) N.g3z [.p (S0_ f g h a l m n o q t u w x),.v [.i c,.i d,.r e]]=b3z k f g h a l m n o q t u w x c d e:=b4n [0] [.sr,.sl,.sr,.bl] c1d (a8y k f g h a l m n o q t u w x c d e) (c1e a c d e) (a5a k a c d e) (by kernel_rfl) (fun j v=>by kernel_rfl)
def b4a (k:Nat) (a:LL):OO:=
 BK_ k N.g3s [vr_ a] fun b=>
 so_ [.i (b.t 0).asI]
theorem c2s (k:Nat) (a:LL):a0d E P0 (k+1) N.g4y [vr_ a]=b4a k a:=by kernel_rfl
def a2a (k:Nat) (z:Int) (y:LL) (A:(V1_)→OO):(V1_)→OO:=fun (c,d,e,f,g,h,l,m,n,o,q,u,w,x)=>
 bif (decide (c<(y.length:Int))) then
  ck_ c y <|
  BK_ k N.g3r [.v (S0_ d e f w g h l m n x o q u),vi_ c,vi_ z] fun B=>
  bif (B.t 0).asB then
   BK_ k N.g2z [vi_ z] fun C=>
   BK_ k N.g2u [.p (S0_ d e f w g h l m n x o q u),vi_ c,vi_ (C.t 0).asI,vr_ [[.i (at_ y c.toNat 0).asI]]] fun a=>
   bif (!(a.t 0).asB) then
    some ⟨[.b false],[(S2_ a)]⟩
   else
    A ((W64 (c+1)),(a.vt 0 0).asI,(a.vt 0 1).asI,(a.vt 0 2).asI,(a.vt 0 4).asI,(a.vt 0 5).asI,(a.vt 0 6).asI,(a.vt 0 7).asI,(a.vt 0 8).asI,(a.vt 0 10).asI,(a.vt 0 11).asB,(a.vt 0 12).asB,(a.vt 0 3).asR,(a.vt 0 9).asR)
  else
   A ((W64 (c+1)),d,e,f,g,h,l,m,n,o,q,u,w,x)
 else
  some ⟨[.b true],[(S0_ d e f w g h l m n x o q u)]⟩
def c2t:List Nat:=[0,1,6,46,47,48]
def a4a (c:Int) (a:LL):(V1_)→St:=fun (d,e,f,g,h,l,m,n,o,p,q,r,t,u)=>SD_ [(0,.ptr (0,0) 0),(1,.w_ c),(6,.b false),(46,.ref (46,0)),(47,.w_ (a.length:Int)),(48,.w_ d)] [((0,0),.var [.w_ e,.w_ f,.w_ g,.ref (0,4),.w_ h,.w_ l,.w_ m,.w_ n,.w_ o,.ref (0,10),.w_ p,.b q,.b r]),((0,4),.deep 62 t none),((0,10),.deep 85 u none),((46,0),.row 3 true a)]
def a6d (k:Nat) (g e f:Int) (h:LL) (l m n o p:Int) (q:LL) (r:Int) (u w:Bool) (x:Int) (b:LL) (y:LL→(V1_)→OO) (z:(V0_)→OO):(V0_)→OO:=fun (a,c)=>
 bif (decide (a<(b.length:Int))) then
  ck_ a b <|
  BK_ k N.g3u [.v [.i e,.i f],vi_ x,vi_ a] fun d=>
  chk (decide (0≤(d.t 0).asI)&&decide ((d.t 0).asI<(c.length:Int))) <|
  z ((W64 (a+1)),(a4f c (d.t 0).asI.toNat 0 [.i (at_ b a.toNat 0).asI]))
 else
  y c (0,g,e,f,l,m,n,o,p,r,u,w,h,q)
def c2u:List Nat:=[0,1,6,7,10,11,28,29,30,46,47,48,49,50,51,52,53,54,55,56,57,58,59,60,61,62,63,64,65,66,67,68,69]
def a4b (c d e:Int) (f:LL) (g h l m n:Int) (o:LL) (p:Int) (q r:Bool) (t:Int) (a:LL):(V0_)→St:=fun (u,w)=>SD_ [(0,.ptr (0,0) 0),(1,.w_ t),(6,.b false),(7,.ref (7,0)),(10,.skip),(11,.skip),(28,.sl 3 a),(29,.w_ (a.length:Int)),(30,.w_ u),(46,.skip),(47,.skip),(48,.skip),(49,.skip),(50,.skip),(51,.skip),(52,.skip),(53,.skip),(54,.skip),(55,.skip),(56,.skip),(57,.skip),(58,.skip),(59,.skip),(60,.skip),(61,.skip),(62,.skip),(63,.skip),(64,.skip),(65,.skip),(66,.skip),(67,.skip),(68,.skip),(69,.skip)] [((0,0),.var [.w_ c,.w_ d,.w_ e,.ref (0,4),.w_ g,.w_ h,.w_ l,.w_ m,.w_ n,.ref (0,10),.w_ p,.b q,.b r]),((0,4),.deep 62 f none),((0,10),.deep 85 o none),((7,0),.row 3 true w)]
def a2x (k:Nat) (b c d:Int) (e:LL) (f g h i l:Int) (m:LL) (n:Int) (o p:Bool) (a:Int) (q:LL) (r:(V0_)→OO):(V0_)→OO:=
 a6d k b c d e f g h i l m n o p a q (fun t v=>a2z (a2a k a t) k v) r
def a9x (k:Nat) (h a c:Int) (l:LL) (m n o p q:Int) (u:LL) (w:Int) (x y:Bool) (d:Int) (e:LL) (f:(V0_)→OO):OO:=
 chk (decide (a=a)&&decide (0≤a)&&decide (a*((8:Nat):Int)≤140737488355328)) <|
 BK_ k N.g3t [.v [.i a,.i c],vi_ d] fun b=>
 BK_ k N.g4y [vr_ e] fun g=>
 chk (decide (0≤(b.t 0).asI)&&decide ((b.t 0).asI<((List.replicate (a:Int).toNat ([.i 0]:List T)).length:Int))) <|
 f (0,(a4f (List.replicate (a:Int).toNat ([.i 0]:List T)) (b.t 0).asI.toNat 0 [.i (g.t 0).asI]))
def a9y (k:Nat) (a b c:Int) (d:LL) (e f g h i:Int) (l:LL) (m:Int) (n o:Bool) (p:Int) (q:LL):OO:=
 a9x k a b c d e f g h i l m n o p q (fun v=>a2z (a2x k a b c d e f g h i l m n o p q) k v)
def a5b (k:Nat) (a c d:Int) (e:LL) (f g h l m:Int) (n:LL) (o:Int) (q t:Bool) (u:Int) (w:LL) (js:List Nat) (j:Nat) (s:St):OO:=IT_ k N.g2c [.p (S0_ a c d e f g h l m n o q t),vi_ u,vr_ w] [0] [.sr,.sr,.sr,.sl,.sr,.bl] c2u js j s
def a5c (k:Nat) (a c d:Int) (e:LL) (f g h l m:Int) (n:LL) (o:Int) (q t:Bool) (u:Int) (w:LL) (js:List Nat) (j:Nat) (s:St):OO:=IT_ k N.g2c [.p (S0_ a c d e f g h l m n o q t),vi_ u,vr_ w] [0] [.sr,.sr,.sr,.sr,.sl,.sr,.bl] c2t js j s
theorem c5i (k:Nat) (c d e:Int) (f:LL) (g h l m n:Int) (o:LL) (q:Int) (t u:Bool) (a:Int) (w:LL):a0d E P0 (k+1) N.g2c [.p (S0_ c d e f g h l m n o q t u),vi_ a,vr_ w]=a9y k c d e f g h l m n o q t u a w:=by
 have A:a0d E P0 (k+1) N.g2c [.p (S0_ c d e f g h l m n o q t u),vi_ a,vr_ w]=a9x k c d e f g h l m n o q t u a w (fun v=>a5b k c d e f g h l m n o q t u a w [] k (a4b c d e f g h l m n o q t u a w v)):=by kernel_rfl
 have B:∀ (x:LL) (y:Nat) (v:V1_),a5c k c d e f g h l m n o q t u a w [] (y+1) (a4a a x v)=a2a k a x (fun v=>a5c k c d e f g h l m n o q t u a w [] y (a4a a x v)) v:=by
  intro x y v;kernel_rfl
 have C:∀ (x:LL) (y:Nat) (v:V1_),a5c k c d e f g h l m n o q t u a w [] y (a4a a x v)=a2z (a2a k a x) y v:=by
  intro x y v;refine a2d (a4a a x) (a2a k a x) (fun y v=>(B x y v).trans ?_) y v;unfold a2a;rfl
 have D:∀ (z:Nat) (v:V0_),a5b k c d e f g h l m n o q t u a w [] (z+1) (a4b c d e f g h l m n o q t u a w v)=a6d k c d e f g h l m n o q t u a w (fun F v=>a5c k c d e f g h l m n o q t u a w [] k (a4a a F v)) (fun v=>a5b k c d e f g h l m n o q t u a w [] z (a4b c d e f g h l m n o q t u a w v)) v:=by
  intro z v;kernel_rfl
 have G:∀ (z:Nat) (v:V0_),a5b k c d e f g h l m n o q t u a w [] z (a4b c d e f g h l m n o q t u a w v)=a2z (a2x k c d e f g h l m n o q t u a w) z v:=by
  intro z v;refine a2d (a4b c d e f g h l m n o q t u a w) (a2x k c d e f g h l m n o q t u a w) (fun z v=>(D z v).trans ?_) z v;unfold a2x;simp only [C] <;> rfl
 rw [A];unfold a9y;simp only [G]
def b4b (k:Nat) (n o q:Int) (u:LL) (w x g m y:Int) (z:LL) (A:Int) (B C:Bool) (h:Int) (l:LL):OO:=
 bif (decide ((W64 (g - m))≥4)) then
  BK_ k N.g4u [.p (S0_ n o q u w x g m y z A B C)] fun a=>
  bif (!(a.t 0).asB) then
   some ⟨[.b false],[(S2_ a)]⟩
  else
   BK_ k N.g1u [vr_ l] fun D=>
   BK_ k N.g3z [.p (S2_ a),.v [.i (a.vt 0 6).asI,.i h,.r (D.t 0).asR]] fun c=>
   bif (!(c.t 0).asB) then
    some ⟨[.b false],[(S2_ c)]⟩
   else
    BK_ k N.g2c [.p (g1d c (W64 ((c.vt 0 6).asI+1))),vi_ h,vr_ l] fun e=>
    some ⟨[.b (e.t 0).asB],[(S2_ e)]⟩
 else
  BK_ k N.g1u [vr_ l] fun F=>
  BK_ k N.g3z [.p (S0_ n o q u w x g m y z A B C),.v [.i g,.i h,.r (F.t 0).asR]] fun d=>
  bif (!(d.t 0).asB) then
   some ⟨[.b false],[(S2_ d)]⟩
  else
   BK_ k N.g2c [.p (g1d d (W64 ((d.vt 0 6).asI+1))),vi_ h,vr_ l] fun f=>
   some ⟨[.b (f.t 0).asB],[(S2_ f)]⟩
theorem c2v (k:Nat) (a c d:Int) (e:LL) (f g h l m:Int) (n:LL) (o:Int) (q t:Bool) (u:Int) (w:LL):a0d E P0 (k+1) N.g4z [.p (S0_ a c d e f g h l m n o q t),vi_ u,vr_ w]=b4b k a c d e f g h l m n o q t u w:=by kernel_rfl
def d5t (k:Nat) (a:Bool):OO:=
 bif a then so_ [.i 0] else so_ [.i 6]
theorem d5u (k:Nat) (a:Bool):a0d E P0 (k+1) N.g5a [.v [.b a]]=d5t k a:=by kernel_rfl
def a4j (k:Nat) (d:Int) (e:LL) (a:Outs) (f:Bool):OO:=
 bif f then
  so_ (S5_ a 7)
 else
  BK_ k N.g4z [.p (g0m a),vi_ d,vr_ e] fun c=>
  BK_ k N.g5a [.v [.b (c.t 0).asB]] fun g=>
  so_ [.i (c.vt 0 0).asI,.i (c.vt 0 1).asI,.i (c.vt 0 2).asI,.r (c.vt 0 3).asR,.i (c.vt 0 4).asI,.i (c.vt 0 5).asI,.i (c.vt 0 6).asI,.i (c.vt 0 7).asI,.i (c.vt 0 8).asI,.r (c.vt 0 9).asR,.i (c.vt 0 10).asI,.b (c.vt 0 11).asB,.b (c.vt 0 12).asB,.i (g.t 0).asI]
def a7j (k:Nat) (e f g h:Int) (l m:Bool) (c:Int) (d:LL) (a:Outs) (n:Bool):OO:=
 bif n then
  so_ (S5_ a 1)
 else
  bif l then
   so_ (S5_ a 6)
  else
   BK_ k N.g2f [.v [.i e,.i f],vi_ c] fun o=>
   bif (!(o.t 0).asB) then
    so_ (S5_ a 2)
   else
    bif m then
     so_ (S5_ a 5)
    else
     bif (g == 60000) then
      a4j k c d a true
     else
      a4j k c d a (decide (h≥59990))
def b2k (k:Nat) (l a c:Int) (m:LL) (n o d p e:Int) (q:LL) (u:Int) (f g:Bool) (w:Int) (h:LL):OO:=
 BK_ k N.g2b [.v (S0_ l a c m n o d p e q u f g)] fun x=>
 BK_ k N.g2h [.v (S0_ l a c m n o d p e q u f g)] fun y=>
 bif (!(y.t 0).asB) then
  a7j k a c d e f g w h x true
 else
  BK_ k N.g3c [.v [.i a,.i c],vr_ h] fun z=>
  a7j k a c d e f g w h x (!(z.t 0).asB)
theorem c1f (k:Nat) (a c d:Int) (e:LL) (f g h l m:Int) (n:LL) (o:Int) (p q:Bool) (t:Int) (u:LL):a0d E P0 (k+1) N.g4a [.v (S0_ a c d e f g h l m n o p q),vi_ t,vr_ u]=b2k k a c d e f g h l m n o p q t u:=by kernel_rfl
def b2l (k:Nat) (o h l:Int) (p:LL) (q u w x y:Int) (g:LL) (z:Int) (m A:Bool) (B:Int):OO:=
 BK_ k N.g2h [.v (S0_ o h l p q u w x y g z m A)] fun C=>
 bif (!(C.t 0).asB) then
  BK_ k N.g2b [.v (S0_ o h l p q u w x y g z m A)] fun c=>
  so_ (S5_ c 1)
 else
  bif m then
   BK_ k N.g2b [.v (S0_ o h l p q u w x y g z m A)] fun d=>
   so_ (S5_ d 6)
  else
   BK_ k N.g2f [.v [.i h,.i l],vi_ B] fun D=>
   bif (!(D.t 0).asB) then
    BK_ k N.g2b [.v (S0_ o h l p q u w x y g z m A)] fun e=>
    so_ (S5_ e 2)
   else
    BK_ k N.g3q [.v (S0_ o h l p q u w x y g z m A),vi_ B] fun n=>
    bif (decide ((n.t 0).asI<0)) then
     BK_ k N.g2b [.v (S0_ o h l p q u w x y g z m A)] fun f=>
     so_ (S5_ f 0)
    else
     chk (decide (0≤(n.t 0).asI)&&decide ((n.t 0).asI<(g.length:Int))) <|
     BK_ k N.g4a [.v (S0_ o h l p q u w x y g z m A),vi_ B,vr_ (at_ g (n.t 0).asI.toNat 1).asR] fun a=>
     bif ((a.t 13).asI == 0) then
      chk (a9u (a.t 9).asR.length (n.t 0).asI (W64 ((n.t 0).asI+1))) <|
      so_ [.i (a.t 0).asI,.i (a.t 1).asI,.i (a.t 2).asI,.r (a.t 3).asR,.i (a.t 4).asI,.i (a.t 5).asI,.i (a.t 6).asI,.i (a.t 7).asI,.i (a.t 8).asI,.r ((a.t 9).asR.take (n.t 0).asI.toNat++(a.t 9).asR.drop (W64 ((n.t 0).asI+1)).toNat),.i (a.t 10).asI,.b (a.t 11).asB,.b (a.t 12).asB,.i (a.t 13).asI]
     else
      so_ [.i (a.t 0).asI,.i (a.t 1).asI,.i (a.t 2).asI,.r (a.t 3).asR,.i (a.t 4).asI,.i (a.t 5).asI,.i (a.t 6).asI,.i (a.t 7).asI,.i (a.t 8).asI,.r (a.t 9).asR,.i (a.t 10).asI,.b (a.t 11).asB,.b (a.t 12).asB,.i (a.t 13).asI]
theorem c1g (k:Nat) (a c d:Int) (e:LL) (f g h l m:Int) (n:LL) (o:Int) (p q:Bool) (t:Int):a0d E P0 (k+1) N.g2v [.v (S0_ a c d e f g h l m n o p q),vi_ t]=b2l k a c d e f g h l m n o p q t:=by kernel_rfl
def b4c (k:Nat) (l m n:Int) (o:LL) (p q u w x:Int) (y:LL) (z:Int) (A B:Bool) (C D e h:LL) (F G H J:Int) (K:LL) (f g:Int) (d:LL):OO:=
 chk (decide ((e.length+([[.i f,.i g,.r d]]:LL).length)*40≤140737488355328)) <|
 BK_ k N.g2g [.v (S3_ F G H J K)] fun a=>
 BK_ k N.g3a [.v [.i f,.i g,.r d]] fun c=>
 chk (decide ((h.length+([(g1e a c)]:LL).length)*96≤140737488355328)) <|
 some ⟨[],[[.i l,.i m,.i n,.r o,.i p,.i q,.i u,.i w,.i x,.r y,.i z,.b A,.b B,.r C,.r D,.r (a4f (e++([[.i f,.i g,.r d]]:LL)) (e.length+0) 2 [.r d]),.r (h++([(g1e a c)]:LL))]]⟩
theorem c2w (k:Nat) (a c d:Int) (e:LL) (f g h l m:Int) (n:LL) (o:Int) (q t:Bool) (u w x y:LL) (z A B C:Int) (D:LL) (F G:Int) (H:LL):a0d E P0 (k+1) N.g1v [.p (S1_ a c d e f g h l m n o q t u w x y),.v (S3_ z A B C D),.v [.i F,.i G,.r H]]=b4c k a c d e f g h l m n o q t u w x y z A B C D F G H:=by kernel_rfl
def a0y (a:Outs) (b:Int):LL:=a4f (a.t 14).asR b.toNat 4 [.r ((at_ (a.t 14).asR b.toNat 4).asR)]
def a2f (b:Outs) (a:Int) (c:Outs):LL:=a4f (a0y b a) a.toNat 7 [.i (c.t 13).asI]
def a0c (b:Outs) (a:Int) (c:Outs):LL:=a4f (a2f b a c) a.toNat 5 [.i (W64 ((at_ (a2f b a c) a.toNat 5).asI+1))]
def a0s (b:Outs) (a:Int) (c:Outs):LL:=a4f (a0c b a c) a.toNat 6 [.r ((at_ (a0c b a c) a.toNat 6).asR)]
def a0j (a:LL) (b:Int):LL:=a4f a b.toNat 5 [.i (W64 ((at_ a b.toNat 5).asI+1))]
def a1b (b:LL) (a:Int):LL:=a4f (a0j b a) a.toNat 6 [.r ((at_ (a0j b a) a.toNat 6).asR)]
def a1c (b:Outs) (a:Int):LL:=a4f (a0y b a) a.toNat 6 [.r ((at_ (a0y b a) a.toNat 6).asR)]
def a0m (a:Outs):List T:=(g1f a)
def a1g (a c:Outs) (d:Int):List T:=(g1g a c ((a0s c d a).take d.toNat++(a0s c d a).drop (W64 (d+1)).toNat))
def a1h (a c:Outs) (d:Int):List T:=(g1g a c ((a0c c d a).take d.toNat++(a0c c d a).drop (W64 (d+1)).toNat))
def a1i (a c:Outs) (d:Int):List T:=[.i (a.t 0).asI,.i (a.t 1).asI,.i (a.t 2).asI,.r (a.t 3).asR,.i (a.t 4).asI,.i (a.t 5).asI,.i (a.t 6).asI,.i (a.t 7).asI,.i (a.t 8).asI,.r (a.t 9).asR,.i (a.t 10).asI,.b (a.t 11).asB,.b (a.t 12).asB,.r (c.t 13).asR,.r (a0c c d a),.r (c.t 15).asR,.r (c.t 16).asR,.b true]
def a1d (a:Outs):List T:=(g0m a)
def a1j (b:Outs) (a:Int) (c:Outs):List T:=(S3_ (at_ (a0s b a c) a.toNat 0).asI (at_ (a0s b a c) a.toNat 1).asI (at_ (a0s b a c) a.toNat 2).asI (at_ (a0s b a c) a.toNat 3).asI (at_ (a0s b a c) a.toNat 4).asR)
def a1k (b:Outs) (a:Int) (c:Outs):List T:=(S3_ (at_ (a0c b a c) a.toNat 0).asI (at_ (a0c b a c) a.toNat 1).asI (at_ (a0c b a c) a.toNat 2).asI (at_ (a0c b a c) a.toNat 3).asI (at_ (a0c b a c) a.toNat 4).asR)
def a1l (b:Outs) (a:Int) (c d:Outs):List T:=[.i (at_ (a0c b a c) a.toNat 1).asI,.i (at_ (a0c b a c) a.toNat 7).asI,.r (d.t 0).asR]
def a1x (a:Outs) (b:Int):List T:=(S3_ (at_ (a.t 14).asR b.toNat 0).asI (at_ (a.t 14).asR b.toNat 1).asI (at_ (a.t 14).asR b.toNat 2).asI (at_ (a.t 14).asR b.toNat 3).asI (at_ (a.t 14).asR b.toNat 4).asR)
def a9p (k:Nat) (a:Int) (d:LL) (c:Outs) (e:Bool):OO:=
 bif e then
  BK_ k N.g1u [vr_ (at_ (a0j d a) a.toNat 6).asR] fun f=>
  chk (a9u (a1b d a).length a (W64 (a+1))) <|
  chk (decide (a≤((a.toNat:Nat):Int))&&decide (((a.toNat:Nat):Int)<(W64 (a+1)))) <|
  BK_ k N.g1v [.p (S9_ c ((a1b d a).take a.toNat++(a1b d a).drop (W64 (a+1)).toNat)),.v (S3_ (at_ (a1b d a) a.toNat 0).asI (at_ (a1b d a) a.toNat 1).asI (at_ (a1b d a) a.toNat 2).asI (at_ (a1b d a) a.toNat 3).asI (at_ (a1b d a) a.toNat 4).asR),.v [.i (at_ (a0j d a) a.toNat 1).asI,.i (at_ (a0j d a) a.toNat 7).asI,.r (f.t 0).asR]] fun g=>
  some ⟨(a0m g),[]⟩
 else
  chk (a9u (a0j d a).length a (W64 (a+1))) <|
  chk (decide (a≤((a.toNat:Nat):Int))&&decide (((a.toNat:Nat):Int)<(W64 (a+1)))) <|
  BK_ k N.g1v [.p (S9_ c ((a0j d a).take a.toNat++(a0j d a).drop (W64 (a+1)).toNat)),.v (S3_ (at_ (a0j d a) a.toNat 0).asI (at_ (a0j d a) a.toNat 1).asI (at_ (a0j d a) a.toNat 2).asI (at_ (a0j d a) a.toNat 3).asI (at_ (a0j d a) a.toNat 4).asR),.v [.i (at_ (a0j d a) a.toNat 1).asI,.i (at_ (a0j d a) a.toNat 7).asI,.r []]] fun h=>
  some ⟨(a0m h),[]⟩
def a2w (k:Nat) (c:Int) (a:Outs) (d:LL):OO:=
 bif ((at_ (a0j d c) c.toNat 7).asI == 0) then
  so_ [.i (a.t 0).asI,.i (a.t 1).asI,.i (a.t 2).asI,.r (a.t 3).asR,.i (a.t 4).asI,.i (a.t 5).asI,.i (a.t 6).asI,.i (a.t 7).asI,.i (a.t 8).asI,.r (a.t 9).asR,.i (a.t 10).asI,.b (a.t 11).asB,.b (a.t 12).asB,.r (a.t 13).asR,.r (a0j d c),.r (a.t 15).asR,.r (a.t 16).asR,.b true]
 else
  bif ((at_ (a0j d c) c.toNat 0).asI == 1) then
   a9p k c d a ((at_ (a0j d c) c.toNat 7).asI == 0)
  else
   a9p k c d a false
def b2m (k:Nat) (a:Int) (b c:Outs) (d:Bool):OO:=
 bif d then
  BK_ k N.g1u [vr_ (at_ (a0c b a c) a.toNat 6).asR] fun e=>
  chk (a9u (a0s b a c).length a (W64 (a+1))) <|
  chk (decide (a≤((a.toNat:Nat):Int))&&decide (((a.toNat:Nat):Int)<(W64 (a+1)))) <|
  BK_ k N.g1v [.p (a1g c b a),.v (a1j b a c),.v (a1l b a c e)] fun f=>
  some ⟨(a0m f),[]⟩
 else
  chk (a9u (a0c b a c).length a (W64 (a+1))) <|
  chk (decide (a≤((a.toNat:Nat):Int))&&decide (((a.toNat:Nat):Int)<(W64 (a+1)))) <|
  BK_ k N.g1v [.p (a1h c b a),.v (a1k b a c),.v [.i (at_ (a0c b a c) a.toNat 1).asI,.i (at_ (a0c b a c) a.toNat 7).asI,.r []]] fun g=>
  some ⟨(a0m g),[]⟩
def b2n (k:Nat) (a:Int) (b c:Outs) (d:Bool):OO:=
 bif d then
  BK_ k N.g1u [vr_ (at_ (a0c b a c) a.toNat 6).asR] fun e=>
  chk (a9u (a0s b a c).length a (W64 (a+1))) <|
  chk (decide (a≤((a.toNat:Nat):Int))&&decide (((a.toNat:Nat):Int)<(W64 (a+1)))) <|
  BK_ k N.g1v [.p (a1g c b a),.v (a1j b a c),.v (a1l b a c e)] fun f=>
  some ⟨(a0m f),[]⟩
 else
  chk (a9u (a0c b a c).length a (W64 (a+1))) <|
  chk (decide (a≤((a.toNat:Nat):Int))&&decide (((a.toNat:Nat):Int)<(W64 (a+1)))) <|
  BK_ k N.g1v [.p (a1h c b a),.v (a1k b a c),.v [.i (at_ (a0c b a c) a.toNat 1).asI,.i (at_ (a0c b a c) a.toNat 7).asI,.r []]] fun g=>
  some ⟨(a0m g),[]⟩
def b2o (k:Nat) (a:Int) (b c:Outs) (d:Bool):OO:=
 bif d then
  BK_ k N.g1u [vr_ (at_ (a0c b a c) a.toNat 6).asR] fun e=>
  chk (a9u (a0s b a c).length a (W64 (a+1))) <|
  chk (decide (a≤((a.toNat:Nat):Int))&&decide (((a.toNat:Nat):Int)<(W64 (a+1)))) <|
  BK_ k N.g1v [.p (a1g c b a),.v (a1j b a c),.v (a1l b a c e)] fun f=>
  some ⟨(a0m f),[]⟩
 else
  chk (a9u (a0c b a c).length a (W64 (a+1))) <|
  chk (decide (a≤((a.toNat:Nat):Int))&&decide (((a.toNat:Nat):Int)<(W64 (a+1)))) <|
  BK_ k N.g1v [.p (a1h c b a),.v (a1k b a c),.v [.i (at_ (a0c b a c) a.toNat 1).asI,.i (at_ (a0c b a c) a.toNat 7).asI,.r []]] fun g=>
  some ⟨(a0m g),[]⟩
def b2p (k:Nat) (a:Int) (b c:Outs) (d:Bool):OO:=
 bif d then
  BK_ k N.g1u [vr_ (at_ (a0c b a c) a.toNat 6).asR] fun e=>
  chk (a9u (a0s b a c).length a (W64 (a+1))) <|
  chk (decide (a≤((a.toNat:Nat):Int))&&decide (((a.toNat:Nat):Int)<(W64 (a+1)))) <|
  BK_ k N.g1v [.p (a1g c b a),.v (a1j b a c),.v (a1l b a c e)] fun f=>
  some ⟨(a0m f),[]⟩
 else
  chk (a9u (a0c b a c).length a (W64 (a+1))) <|
  chk (decide (a≤((a.toNat:Nat):Int))&&decide (((a.toNat:Nat):Int)<(W64 (a+1)))) <|
  BK_ k N.g1v [.p (a1h c b a),.v (a1k b a c),.v [.i (at_ (a0c b a c) a.toNat 1).asI,.i (at_ (a0c b a c) a.toNat 7).asI,.r []]] fun g=>
  some ⟨(a0m g),[]⟩
def b2q (k:Nat) (a:Int) (b c:Outs) (d:Bool):OO:=
 bif d then
  BK_ k N.g1u [vr_ (at_ (a0c b a c) a.toNat 6).asR] fun e=>
  chk (a9u (a0s b a c).length a (W64 (a+1))) <|
  chk (decide (a≤((a.toNat:Nat):Int))&&decide (((a.toNat:Nat):Int)<(W64 (a+1)))) <|
  BK_ k N.g1v [.p (a1g c b a),.v (a1j b a c),.v (a1l b a c e)] fun f=>
  some ⟨(a0m f),[]⟩
 else
  chk (a9u (a0c b a c).length a (W64 (a+1))) <|
  chk (decide (a≤((a.toNat:Nat):Int))&&decide (((a.toNat:Nat):Int)<(W64 (a+1)))) <|
  BK_ k N.g1v [.p (a1h c b a),.v (a1k b a c),.v [.i (at_ (a0c b a c) a.toNat 1).asI,.i (at_ (a0c b a c) a.toNat 7).asI,.r []]] fun g=>
  some ⟨(a0m g),[]⟩
def b0v (k:Nat) (a:Int) (b c:Outs) (d:Bool):OO:=
 bif d then
  BK_ k N.g1u [vr_ (at_ (a0c b a c) a.toNat 6).asR] fun e=>
  chk (a9u (a0s b a c).length a (W64 (a+1))) <|
  chk (decide (a≤((a.toNat:Nat):Int))&&decide (((a.toNat:Nat):Int)<(W64 (a+1)))) <|
  BK_ k N.g1v [.p (a1g c b a),.v (a1j b a c),.v (a1l b a c e)] fun f=>
  some ⟨(a0m f),[]⟩
 else
  chk (a9u (a0c b a c).length a (W64 (a+1))) <|
  chk (decide (a≤((a.toNat:Nat):Int))&&decide (((a.toNat:Nat):Int)<(W64 (a+1)))) <|
  BK_ k N.g1v [.p (a1h c b a),.v (a1k b a c),.v [.i (at_ (a0c b a c) a.toNat 1).asI,.i (at_ (a0c b a c) a.toNat 7).asI,.r []]] fun g=>
  some ⟨(a0m g),[]⟩
def a4k (k:Nat) (c:Int) (a:Outs) (d:Bool):OO:=
 bif d then
  BK_ k N.g1u [vr_ (at_ (a0y a c) c.toNat 6).asR] fun e=>
  chk (a9u (a1c a c).length c (W64 (c+1))) <|
  chk (decide (c≤((c.toNat:Nat):Int))&&decide (((c.toNat:Nat):Int)<(W64 (c+1)))) <|
  BK_ k N.g1v [.p (S9_ a ((a1c a c).take c.toNat++(a1c a c).drop (W64 (c+1)).toNat)),.v (S3_ (at_ (a1c a c) c.toNat 0).asI (at_ (a1c a c) c.toNat 1).asI (at_ (a1c a c) c.toNat 2).asI (at_ (a1c a c) c.toNat 3).asI (at_ (a1c a c) c.toNat 4).asR),.v [.i (at_ (a.t 14).asR c.toNat 1).asI,.i (at_ (a.t 14).asR c.toNat 7).asI,.r (e.t 0).asR]] fun f=>
  some ⟨(a0m f),[]⟩
 else
  chk (Nat.beq c.toNat c.toNat) <|
  chk (a9u (a.t 14).asR.length c (W64 (c+1))) <|
  chk (decide (c≤((c.toNat:Nat):Int))&&decide (((c.toNat:Nat):Int)<(W64 (c+1)))) <|
  BK_ k N.g1v [.p (S9_ a ((a.t 14).asR.take c.toNat++(a.t 14).asR.drop (W64 (c+1)).toNat)),.v (a1x a c),.v [.i (at_ (a.t 14).asR c.toNat 1).asI,.i (at_ (a.t 14).asR c.toNat 7).asI,.r []]] fun g=>
  some ⟨(a0m g),[]⟩
def a5p (k:Nat) (a:Int) (b:Outs) (n:Bool):OO:=
 bif n then
  chk (Nat.beq a.toNat a.toNat) <|
  bif ((at_ (b.t 14).asR a.toNat 0).asI == 1) then
   BK_ k N.g2j [.v (a1d b),vi_ (W64 ((at_ (b.t 14).asR a.toNat 2).asI+(at_ (b.t 14).asR a.toNat 5).asI))] fun l=>
   bif ((l.t 1).asI == 0) then
    chk (decide (((at_ (a0y b a) a.toNat 6).asR.length+([[.i (l.t 0).asI]]:LL).length)*8≤140737488355328)) <|
    chk (Nat.beq a.toNat a.toNat) <|
    a2w k a b (a4f (a4f (a0y b a) a.toNat 6 [.r ((at_ (a0y b a) a.toNat 6).asR++([[.i (l.t 0).asI]]:LL))]) a.toNat 7 [.i (l.t 1).asI])
   else
    a2w k a b (a4f (a0y b a) a.toNat 7 [.i (l.t 1).asI])
  else
   bif ((at_ (b.t 14).asR a.toNat 0).asI == 2) then
    chk (decide (0≤(at_ (b.t 14).asR a.toNat 5).asI)&&decide ((at_ (b.t 14).asR a.toNat 5).asI<((at_ (b.t 14).asR a.toNat 4).asR.length:Int))) <|
    BK_ k N.g1w [.v (a1d b),vi_ (W64 ((at_ (b.t 14).asR a.toNat 2).asI+(at_ (b.t 14).asR a.toNat 5).asI)),vi_ (at_ (at_ (b.t 14).asR a.toNat 4).asR (at_ (b.t 14).asR a.toNat 5).asI.toNat 0).asI] fun c=>
    bif ((at_ (a0c b a c) a.toNat 7).asI == 0) then
     some ⟨(a1i c b a),[]⟩
    else
     bif ((at_ (a0c b a c) a.toNat 0).asI == 1) then
      b2m k a b c ((at_ (a0c b a c) a.toNat 7).asI == 0)
     else
      b2m k a b c false
   else
    bif ((at_ (b.t 14).asR a.toNat 0).asI == 6) then
     BK_ k N.g1w [.v (a1d b),vi_ (W64 ((at_ (b.t 14).asR a.toNat 2).asI+(at_ (b.t 14).asR a.toNat 5).asI)),vi_ 0] fun d=>
     bif ((at_ (a0c b a d) a.toNat 7).asI == 0) then
      some ⟨(a1i d b a),[]⟩
     else
      bif ((at_ (a0c b a d) a.toNat 0).asI == 1) then
       b2n k a b d ((at_ (a0c b a d) a.toNat 7).asI == 0)
      else
       b2n k a b d false
    else
     bif ((at_ (b.t 14).asR a.toNat 0).asI == 3) then
      bif (decide ((at_ (b.t 14).asR a.toNat 5).asI<((at_ (b.t 14).asR a.toNat 4).asR.length:Int))) then
       chk (decide (0≤(at_ (b.t 14).asR a.toNat 5).asI)&&decide ((at_ (b.t 14).asR a.toNat 5).asI<((at_ (b.t 14).asR a.toNat 4).asR.length:Int))) <|
       BK_ k N.g1w [.v (a1d b),vi_ (W64 ((at_ (b.t 14).asR a.toNat 2).asI+(at_ (b.t 14).asR a.toNat 5).asI)),vi_ (at_ (at_ (b.t 14).asR a.toNat 4).asR (at_ (b.t 14).asR a.toNat 5).asI.toNat 0).asI] fun e=>
       bif ((at_ (a0c b a e) a.toNat 7).asI == 0) then
        some ⟨(a1i e b a),[]⟩
       else
        bif ((at_ (a0c b a e) a.toNat 0).asI == 1) then
         b2o k a b e ((at_ (a0c b a e) a.toNat 7).asI == 0)
        else
         b2o k a b e false
      else
       BK_ k N.g3g [.v [.i (b.t 1).asI,.i (b.t 2).asI],.v (a1x b a)] fun o=>
       BK_ k N.g2v [.v (a1d b),vi_ (W64 ((W64 ((o.t 0).asI+(at_ (b.t 14).asR a.toNat 5).asI)) - ((at_ (b.t 14).asR a.toNat 4).asR.length:Int)))] fun f=>
       bif ((at_ (a0c b a f) a.toNat 7).asI == 0) then
        some ⟨(a1i f b a),[]⟩
       else
        bif ((at_ (a0c b a f) a.toNat 0).asI == 1) then
         b2p k a b f ((at_ (a0c b a f) a.toNat 7).asI == 0)
        else
         b2p k a b f false
     else
      bif ((at_ (b.t 14).asR a.toNat 0).asI == 4) then
       BK_ k N.g2v [.v (a1d b),vi_ (at_ (b.t 14).asR a.toNat 5).asI] fun g=>
       bif ((at_ (a0c b a g) a.toNat 7).asI == 0) then
        some ⟨(a1i g b a),[]⟩
       else
        bif ((at_ (a0c b a g) a.toNat 0).asI == 1) then
         b2q k a b g ((at_ (a0c b a g) a.toNat 7).asI == 0)
        else
         b2q k a b g false
      else
       BK_ k N.g2j [.v (a1d b),vi_ (W64 ((at_ (b.t 14).asR a.toNat 2).asI+(at_ (b.t 14).asR a.toNat 5).asI))] fun m=>
       bif ((m.t 1).asI != 0) then
        a2w k a b (a4f (a0y b a) a.toNat 7 [.i (m.t 1).asI])
       else
        chk (decide ((0:Int)<((at_ (b.t 14).asR a.toNat 4).asR.length:Int))) <|
        bif ((m.t 0).asI != (at_ (at_ (b.t 14).asR a.toNat 4).asR 0 0).asI) then
         a2w k a b (a4f (a0y b a) a.toNat 7 [.i 4])
        else
         chk (decide ((1:Int)<((at_ (b.t 14).asR a.toNat 4).asR.length:Int))) <|
         BK_ k N.g1w [.v (a1d b),vi_ (W64 ((at_ (b.t 14).asR a.toNat 2).asI+(at_ (b.t 14).asR a.toNat 5).asI)),vi_ (at_ (at_ (b.t 14).asR a.toNat 4).asR 1 0).asI] fun h=>
         bif ((at_ (a0c b a h) a.toNat 7).asI == 0) then
          some ⟨(a1i h b a),[]⟩
         else
          bif ((at_ (a0c b a h) a.toNat 0).asI == 1) then
           b0v k a b h ((at_ (a0c b a h) a.toNat 7).asI == 0)
          else
           b0v k a b h false
 else
  bif ((at_ (b.t 14).asR a.toNat 0).asI == 1) then
   a4k k a b ((at_ (b.t 14).asR a.toNat 7).asI == 0)
  else
   a4k k a b false
def a5q (k:Nat) (d e c:Int) (a:Outs) (f:Bool):OO:=
 bif f then
  so_ (g0l a)
 else
  chk (decide (0≤c)&&decide (c<((a.t 14).asR.length:Int))) <|
  chk (Nat.blt c.toNat (a.t 14).asR.length) <|
  chk (Nat.beq c.toNat c.toNat) <|
  BK_ k N.g3o [.v [.i d,.i e],.v (a1x a c)] fun g=>
  bif (decide ((at_ (a.t 14).asR c.toNat 5).asI<(W64 ((g.t 0).asI - 1)))) then
   a5p k c a ((at_ (a.t 14).asR c.toNat 7).asI == 0)
  else
   a5p k c a false
def c9d (k:Nat) (h a c:Int) (l:LL) (m n o p q:Int) (u:LL) (w:Int) (x y:Bool) (z e A f:LL) (d:Int):OO:=
 BK_ k N.g1x [.v (S1_ h a c l m n o p q u w x y z e A f)] fun g=>
 BK_ k N.g2r [.v (S1_ h a c l m n o p q u w x y z e A f)] fun B=>
 bif (!(B.t 0).asB) then
  a5q k a c d g true
 else
  BK_ k N.g1t [vi_ d,vi_ 0,vi_ (W64 ((e.length:Int) - 1))] fun C=>
  bif (!(C.t 0).asB) then
   a5q k a c d g true
  else
   a5q k a c d g ((f.length:Int) == 400)
theorem e1n (k:Nat) (a c d:Int) (e:LL) (f g h l m:Int) (n:LL) (o:Int) (p q:Bool) (t u w x:LL) (y:Int):a0d E P0 (k+1) N.g5b [.v (S1_ a c d e f g h l m n o p q t u w x),vi_ y]=c9d k a c d e f g h l m n o p q t u w x y:=by kernel_rfl
def a5r (k:Nat) (c d:Bool) (A e f g h l m n o p:Int) (q u w x y z:LL) (B:(V3_)→OO) (C:Bool):OO:=
 bif C then
  BK_ k N.g5b [.v (S1_ e f g q h l m n o u p c d w x y z),vi_ 0] fun a=>
  bif (!(a.t 17).asB) then
   so_ (S1_ e f g q h l m n o u p c d w x y z)
  else
   B ((W64 (A+1)),(a.t 0).asI,(a.t 1).asI,(a.t 2).asI,(a.t 4).asI,(a.t 5).asI,(a.t 6).asI,(a.t 7).asI,(a.t 8).asI,(a.t 10).asI,(a.t 11).asB,(a.t 12).asB,(a.t 3).asR,(a.t 9).asR,(a.t 13).asR,(a.t 14).asR,(a.t 15).asR,(a.t 16).asR)
 else
  so_ (S1_ e f g q h l m n o u p c d w x y z)
def a5s (k:Nat) (x:Int) (c:(V3_)→OO):(V3_)→OO:=fun (a,d,e,f,g,h,i,l,m,n,o,p,q,r,t,b,u,w)=>
 bif (decide (a<x)) then
  a5r k o p a d e f g h i l m n q r t b u w c (decide ((b.length:Int) > 0))
 else
  a5r k o p a d e f g h i l m n q r t b u w c false
def c9e:List Nat:=[1,4,5,6,34]
def c9f (a:Int):(V3_)→St:=fun (c,d,e,f,g,h,l,m,n,o,p,q,r,t,u,w,x,y)=>ST_ [(1,.w_ a),(4,.ptr (4,0) 0),(5,.ptr (5,0) 0),(6,.w_ c),(34,.skip)] [((4,0),.var [.w_ 0,.w_ 0,.w_ 0,.ref (4,4),.w_ 0,.w_ 0,.w_ 0,.w_ 0,.w_ 0,.ref (4,10),.w_ 0,.b false,.b false,.ref (4,14),.ref (4,15),.ref (4,16),.ref (4,17)]),((4,4),.row 62 true []),((4,10),.row 85 true []),((4,14),.row 42 true []),((4,15),.row 75 true []),((4,16),.row 47 true []),((4,17),.row 49 true []),((5,0),.var [.w_ d,.w_ e,.w_ f,.ref (5,4),.w_ g,.w_ h,.w_ l,.w_ m,.w_ n,.ref (5,10),.w_ o,.b p,.b q,.ref (5,14),.ref (5,15),.ref (5,16),.ref (5,17)]),((5,4),.row 62 true r),((5,10),.row 85 true t),((5,14),.row 42 true u),((5,15),.row 75 true w),((5,16),.row 47 true x),((5,17),.row 49 true y)]
def b3l (k:Nat) (c d e:Int) (f:LL) (g h l m n:Int) (o:LL) (p:Int) (q u:Bool) (w x y z:LL) (A:Int) (B:(V3_)→OO):OO:=
 BK_ k N.g1x [.v (S1_ c d e f g h l m n o p q u w x y z)] fun a=>
 BK_ k N.g1t [vi_ A,vi_ 0,vi_ 1000] fun C=>
 bif (!(C.t 0).asB) then
  so_ (S8_ a)
 else
  B (0,(a.t 0).asI,(a.t 1).asI,(a.t 2).asI,(a.t 4).asI,(a.t 5).asI,(a.t 6).asI,(a.t 7).asI,(a.t 8).asI,(a.t 10).asI,(a.t 11).asB,(a.t 12).asB,(a.t 3).asR,(a.t 9).asR,(a.t 13).asR,(a.t 14).asR,(a.t 15).asR,(a.t 16).asR)
def b8o (k:Nat) (b c d:Int) (e:LL) (f g h i l:Int) (m:LL) (n:Int) (o p:Bool) (q r t u:LL) (a:Int):OO:=
 b3l k b c d e f g h i l m n o p q r t u a (fun v=>a2z (a5s k a) k v)
theorem d0y (k:Nat) (c d e:Int) (f:LL) (g h l m n:Int) (o:LL) (p:Int) (q t:Bool) (u w x y:LL) (a:Int):a0d E P0 (k+1) N.g5c [.v (S1_ c d e f g h l m n o p q t u w x y),vi_ a]=b8o k c d e f g h l m n o p q t u w x y a:=b4n [] [.sr,.sr,.sr,.sl,.sr,.bl] c9e (b3l k c d e f g h l m n o p q t u w x y a) (c9f a) (a5s k a) (by kernel_rfl) (fun j v=>by kernel_rfl)
def c4f (k:Nat) (g e f:Int) (h:LL) (l m n o q:Int) (u:LL) (w:Int) (x y:Bool) (z A B C:LL) (c:Int):OO:=
 BK_ k N.g1x [.v (S1_ g e f h l m n o q u w x y z A B C)] fun a=>
 BK_ k N.g2i [.v (S1_ g e f h l m n o q u w x y z A B C),vi_ c] fun F=>
 bif (!(F.t 0).asB) then
  so_ (g0l a)
 else
  chk (decide (0≤c)&&decide (c<((a.t 13).asR.length:Int))) <|
  chk (a9u (a.t 13).asR.length c (W64 (c+1))) <|
  chk (decide (c≤((c.toNat:Nat):Int))&&decide (((c.toNat:Nat):Int)<(W64 (c+1)))) <|
  BK_ k N.g2p [.v [.i e,.i f],.v (S3_ (at_ (a.t 13).asR c.toNat 0).asI (at_ (a.t 13).asR c.toNat 1).asI (at_ (a.t 13).asR c.toNat 2).asI (at_ (a.t 13).asR c.toNat 3).asI (at_ (a.t 13).asR c.toNat 4).asR)] fun D=>
  bif ((D.t 0).asI == 0) then
   chk (decide (((a.t 14).asR.length+([[.i (at_ (a.t 13).asR c.toNat 0).asI,.i (at_ (a.t 13).asR c.toNat 1).asI,.i (at_ (a.t 13).asR c.toNat 2).asI,.i (at_ (a.t 13).asR c.toNat 3).asI,.r (at_ (a.t 13).asR c.toNat 4).asR,.i 0,.r [],.i 0]]:LL).length)*96≤140737488355328)) <|
   so_ [.i (a.t 0).asI,.i (a.t 1).asI,.i (a.t 2).asI,.r (a.t 3).asR,.i (a.t 4).asI,.i (a.t 5).asI,.i (a.t 6).asI,.i (a.t 7).asI,.i (a.t 8).asI,.r (a.t 9).asR,.i (a.t 10).asI,.b (a.t 11).asB,.b (a.t 12).asB,.r ((a.t 13).asR.take c.toNat++(a.t 13).asR.drop (W64 (c+1)).toNat),.r ((a.t 14).asR++([[.i (at_ (a.t 13).asR c.toNat 0).asI,.i (at_ (a.t 13).asR c.toNat 1).asI,.i (at_ (a.t 13).asR c.toNat 2).asI,.i (at_ (a.t 13).asR c.toNat 3).asI,.r (at_ (a.t 13).asR c.toNat 4).asR,.i 0,.r [],.i 0]]:LL)),.r (a.t 15).asR,.r (a.t 16).asR,.b true]
  else
   BK_ k N.g1v [.p [.i (a.t 0).asI,.i (a.t 1).asI,.i (a.t 2).asI,.r (a.t 3).asR,.i (a.t 4).asI,.i (a.t 5).asI,.i (a.t 6).asI,.i (a.t 7).asI,.i (a.t 8).asI,.r (a.t 9).asR,.i (a.t 10).asI,.b (a.t 11).asB,.b (a.t 12).asB,.r ((a.t 13).asR.take c.toNat++(a.t 13).asR.drop (W64 (c+1)).toNat),.r (a.t 14).asR,.r (a.t 15).asR,.r (a.t 16).asR],.v (S3_ (at_ (a.t 13).asR c.toNat 0).asI (at_ (a.t 13).asR c.toNat 1).asI (at_ (a.t 13).asR c.toNat 2).asI (at_ (a.t 13).asR c.toNat 3).asI (at_ (a.t 13).asR c.toNat 4).asR),.v [.i (at_ (a.t 13).asR c.toNat 1).asI,.i (D.t 0).asI,.r []]] fun d=>
   so_ (g1f d)
theorem d8s (k:Nat) (a c d:Int) (e:LL) (f g h l m:Int) (n:LL) (o:Int) (p q:Bool) (t u w x:LL) (y:Int):a0d E P0 (k+1) N.g5d [.v (S1_ a c d e f g h l m n o p q t u w x),vi_ y]=c4f k a c d e f g h l m n o p q t u w x y:=by kernel_rfl
def b6x (k:Nat) (d e f:Int) (g:LL) (h l m n o:Int) (p:LL) (q:Int) (u w:Bool) (x y z A:LL):OO:=
 BK_ k N.g4l [.v (S1_ d e f g h l m n o p q u w x y z A)] fun B=>
 bif (decide ((B.t 0).asI<0)) then
  BK_ k N.g5c [.v (S1_ d e f g h l m n o p q u w x y z A),vi_ 200] fun a=>
  so_ (S8_ a)
 else
  BK_ k N.g5d [.v (S1_ d e f g h l m n o p q u w x y z A),vi_ (B.t 0).asI] fun c=>
  so_ (S8_ c)
theorem c9g (k:Nat) (a c d:Int) (e:LL) (f g h l m:Int) (n:LL) (o:Int) (p q:Bool) (t u w x:LL):a0d E P0 (k+1) N.g5e [.v (S1_ a c d e f g h l m n o p q t u w x)]=b6x k a c d e f g h l m n o p q t u w x:=by kernel_rfl
def a8l (k:Nat) (c d:Bool) (A e f g h l m n o p:Int) (q u w x y z:LL) (B:(V3_)→OO) (C:Bool):OO:=
 bif C then
  so_ (S1_ e f g q h l m n o u p c d w x y z)
 else
  BK_ k N.g5e [.v (S1_ e f g q h l m n o u p c d w x y z)] fun a=>
  B ((W64 (A+1)),(a.t 0).asI,(a.t 1).asI,(a.t 2).asI,(a.t 4).asI,(a.t 5).asI,(a.t 6).asI,(a.t 7).asI,(a.t 8).asI,(a.t 10).asI,(a.t 11).asB,(a.t 12).asB,(a.t 3).asR,(a.t 9).asR,(a.t 13).asR,(a.t 14).asR,[],(a.t 16).asR)
def a8m (k:Nat) (A:(V3_)→OO):(V3_)→OO:=fun (z,d,e,f,g,h,l,m,n,o,p,q,u,w,a,c,x,y)=>
 bif (decide (z<60)) then
  BK_ k N.g2r [.v (S1_ d e f u g h l m n w o p q a c x y)] fun B=>
  bif (!(B.t 0).asB) then
   a8l k p q z d e f g h l m n o u w a c x y A true
  else
   a8l k p q z d e f g h l m n o u w a c x y A ((W64 ((a.length:Int)+(c.length:Int))) == 0)
 else
  so_ (S1_ d e f u g h l m n w o p q a c x y)
def d5v:List Nat:=[2,3,6,25]
def d5w:(V3_)→St:=fun (a,c,d,e,f,g,h,l,m,n,o,p,q,r,t,u,w,x)=>ST_ [(2,.ptr (2,0) 0),(3,.ptr (3,0) 0),(6,.w_ a),(25,.skip)] [((2,0),.var [.w_ 0,.w_ 0,.w_ 0,.ref (2,4),.w_ 0,.w_ 0,.w_ 0,.w_ 0,.w_ 0,.ref (2,10),.w_ 0,.b false,.b false,.ref (2,14),.ref (2,15),.ref (2,16),.ref (2,17)]),((2,4),.row 62 true []),((2,10),.row 85 true []),((2,14),.row 42 true []),((2,15),.row 75 true []),((2,16),.row 47 true []),((2,17),.row 49 true []),((3,0),.var [.w_ c,.w_ d,.w_ e,.ref (3,4),.w_ f,.w_ g,.w_ h,.w_ l,.w_ m,.ref (3,10),.w_ n,.b o,.b p,.ref (3,14),.ref (3,15),.ref (3,16),.ref (3,17)]),((3,4),.row 62 true q),((3,10),.row 85 true r),((3,14),.row 42 true t),((3,15),.row 75 true u),((3,16),.row 47 true w),((3,17),.row 49 true x)]
def b6y (k:Nat) (c d e:Int) (f:LL) (g h l m n:Int) (o:LL) (p:Int) (q u:Bool) (w x y z:LL) (A:(V3_)→OO):OO:=
 BK_ k N.g1x [.v (S1_ c d e f g h l m n o p q u w x y z)] fun a=>
 A (0,(a.t 0).asI,(a.t 1).asI,(a.t 2).asI,(a.t 4).asI,(a.t 5).asI,(a.t 6).asI,(a.t 7).asI,(a.t 8).asI,(a.t 10).asI,(a.t 11).asB,(a.t 12).asB,(a.t 3).asR,(a.t 9).asR,(a.t 13).asR,(a.t 14).asR,(a.t 15).asR,(a.t 16).asR)
def c4g (k:Nat) (a b c:Int) (d:LL) (e f g h i:Int) (l:LL) (m:Int) (n o:Bool) (p q r t:LL):OO:=
 b6y k a b c d e f g h i l m n o p q r t (fun v=>a2z (a8m k) k v)
theorem d8t (k:Nat) (a c d:Int) (e:LL) (f g h l m:Int) (n:LL) (o:Int) (p q:Bool) (t u w x:LL):a0d E P0 (k+1) N.g5f [.v (S1_ a c d e f g h l m n o p q t u w x)]=c4g k a c d e f g h l m n o p q t u w x:=b4n [] [.sr,.sr,.sl,.sr,.bl] d5v (b6y k a c d e f g h l m n o p q t u w x) (d5w) (a8m k) (by kernel_rfl) (fun j v=>by kernel_rfl)
def b4d (k:Nat) (f:LL):OO:=
 BK_ k N.g4b [vr_ f] fun m=>
 bif (m.t 0).asB then
  so_ [.b true]
 else
  BK_ k N.g4g [vi_ 1,.v [.i 3,.i 2]] fun e=>
  BK_ k N.g3m [vr_ f,vi_ 2] fun g=>
  BK_ k N.g3m [vr_ f,vi_ 3] fun h=>
  BK_ k N.g3n [.v (S8_ e),.v [.i 5,.i 1,.i (Int.tmod (g.t 0).asI 4),.i 0,.r [[.i 0],[.i (W64 (1+(h.t 0).asI))]]]] fun c=>
  BK_ k N.g3n [.v (S8_ c),.v [.i 5,.i 2,.i (Int.tmod (g.t 0).asI 4),.i 0,.r [[.i 0],[.i (W64 ((W64 (1+(h.t 0).asI))+1))]]]] fun d=>
  BK_ k N.g5f [.v (S8_ d)] fun a=>
  BK_ k N.g2j [.v (g0m a),vi_ (Int.tmod (g.t 0).asI 4)] fun l=>
  bif (c.t 17).asB then
   bif (d.t 17).asB then
    bif (((a.t 16).asR.length:Int) == 2) then
     chk (decide ((0:Int)<((a.t 16).asR.length:Int))) <|
     bif ((at_ (a.t 16).asR 0 5).asI == 1) then
      chk (decide ((0:Int)<((a.t 16).asR.length:Int))) <|
      bif ((at_ (a.t 16).asR 0 6).asI == 0) then
       chk (decide ((1:Int)<((a.t 16).asR.length:Int))) <|
       bif ((at_ (a.t 16).asR 1 6).asI == 4) then
        bif ((l.t 0).asI == (W64 (1+(h.t 0).asI))) then
         so_ [.b ((l.t 1).asI == 0)]
        else
         so_ [.b false]
       else
        so_ [.b false]
      else
       so_ [.b false]
     else
      so_ [.b false]
    else
     so_ [.b false]
   else
    so_ [.b false]
  else
   so_ [.b false]
theorem c2x (k:Nat) (a:LL):a0d E P0 (k+1) N.g5g [vr_ a]=b4d k a:=by kernel_rfl
end
end Go.Proofs.Ytdbopobkdpmpgaa.Ev
