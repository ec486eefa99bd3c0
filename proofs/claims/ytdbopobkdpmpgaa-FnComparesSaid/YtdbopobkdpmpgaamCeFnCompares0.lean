/- What functions answer under the evaluator, as Lean terms, part 0: what FnCompares needs. No condition. -/
import Derived.Test.YtdbopobkdpmpgaamTab
namespace Go.Proofs.Ytdbopobkdpmpgaa.Ev
open Go Go.Proofs
set_option linter.unusedVariables false
set_option maxRecDepth 100000
set_option maxHeartbeats 4000000
noncomputable section
def d2i (k:Nat) (a:LL):OO:=
 so_ [.b (decide ((a.length:Int) > 1048576))]
theorem e5i (k:Nat) (a:LL):a0d E P0 (k+1) N.g4b [vr_ a]=d2i k a:=by kernel_rfl
def c0h (k:Nat) (a c d:Int):OO:=
 bif (decide (a≥c)) then so_ [.b (decide (a≤d))] else so_ [.b false]
theorem d4m (k:Nat) (a b c:Int):a0d E P0 (k+1) N.g1t [vi_ a,vi_ b,vi_ c]=c0h k a b c:=by kernel_rfl
def c3u (k:Nat) (a c:Int):OO:=
 a0i (a0d E P0 k N.g1t [.v [.i a],.v [.i 3],.v [.i 5]]) fun d=>
 bif (d.t 0).asB then
  a0i (a0d E P0 k N.g1t [.v [.i c],.v [.i 1],.v [.i 8]]) fun e=>
  some ⟨[.b (e.t 0).asB],[]⟩
 else
  some ⟨[.b false],[]⟩
theorem d8e (k:Nat) (a b:Int):a0d E P0 (k+1) N.g2d [.v [.i a,.i b]]=c3u k a b:=by kernel_rfl
def b2z (k:Nat) (b a:Int):OO:=
 some ⟨[.i (W64 (6+a))],[]⟩
theorem b7z (k:Nat) (a b:Int):a0d E P0 (k+1) N.g2w [.v [.i a,.i b]]=b2z k a b:=by kernel_rfl
def c0i (k:Nat) (a:Int):OO:=
 BK_ k N.g1t [vi_ a,vi_ 1,vi_ 20] fun c=>
 bif (!(c.t 0).asB) then
  so_ [.r [],.r [],.b false,.r []]
 else
  chk (decide (a=a)&&decide (0≤a)&&decide (a*((24:Nat):Int)≤140737488355328)) <|
  so_ [.r (List.replicate (a:Int).toNat ([.r []]:List T)),.r [],.b false,.r []]
theorem d4n (k:Nat) (a:Int):a0d E P0 (k+1) N.g4c [vi_ a]=c0i k a:=by kernel_rfl
def d0g (k:Nat) (a b c:Int) (l:LL) (d e m f g:Int) (n:LL) (o:Int) (p q:Bool) (h:Int):OO:=
 so_ (S6_ a g h b c f d e)
theorem b8a (k:Nat) (a c d:Int) (e:LL) (f g h l m:Int) (n:LL) (o:Int) (p q:Bool) (t:Int):a0d E P0 (k+1) N.g2x [.v (S0_ a c d e f g h l m n o p q),vi_ t]=d0g k a c d e f g h l m n o p q t:=by kernel_rfl
def c0j (k:Nat) (d e a c:Int):OO:=
 a0i (a0d E P0 k N.g1t [.v [.i a],.v [.i (-1)],.v [.i (W64 (d - 1))]]) fun f=>
 bif (f.t 0).asB then
  a0i (a0d E P0 k N.g1t [.v [.i c],.v [.i 0],.v [.i e]]) fun g=>
  bif (g.t 0).asB then
   bif (c == 0) then some ⟨[.b true],[]⟩ else some ⟨[.b (a != (-1))],[]⟩
  else
   some ⟨[.b false],[]⟩
 else
  some ⟨[.b false],[]⟩
theorem d4o (k:Nat) (a b c d:Int):a0d E P0 (k+1) N.g3i [.v [.i a,.i b],.v [.i c],.v [.i d]]=c0j k a b c d:=by kernel_rfl
def a7s (k:Nat) (d a c e f:Int) (g:Bool):OO:=
 bif g then
  BK_ k N.g2d [.v [.i a,.i c]] fun h=>
  bif (h.t 0).asB then
   BK_ k N.g1t [vi_ d,vi_ 0,vi_ (W64 (a - 1))] fun l=>
   bif (l.t 0).asB then
    BK_ k N.g3i [.v [.i a,.i c],vi_ e,vi_ f] fun m=>
    so_ [.b (m.t 0).asB]
   else
    so_ [.b false]
  else
   so_ [.b false]
 else
  so_ [.b false]
def b8b (k:Nat) (f g a b c h d e:Int):OO:=
 BK_ k N.g1t [vi_ f,vi_ 1,vi_ 60000] fun l=>
 bif (l.t 0).asB then
  BK_ k N.g1t [vi_ g,vi_ 0,vi_ 60000] fun m=>
  bif (m.t 0).asB then
   BK_ k N.g1t [vi_ h,vi_ 0,vi_ 60000] fun n=>
   a7s k a b c d e ((n.t 0).asB)
  else
   a7s k a b c d e false
 else
  a7s k a b c d e false
theorem d0h (k:Nat) (a b c d e f g h:Int):a0d E P0 (k+1) N.g3j [.v (S6_ a b c d e f g h)]=b8b k a b c d e f g h:=by kernel_rfl
def b6d (k:Nat) (a:LL):OO:=
 chk (decide ((([]:LL).length+a.length)*8≤140737488355328)) <|
 so_ [.r (([]:LL)++a)]
theorem c8a (k:Nat) (a:LL):a0d E P0 (k+1) N.g1u [vr_ a]=b6d k a:=by kernel_rfl
def a3a (k:Nat) (c:LL) (f:Bool) (g:Outs) (h:LL) (l:(V0_)→OO):(V0_)→OO:=fun (a,d)=>
 bif (decide (a<(c.length:Int))) then
  chk (decide (0≤a)&&decide (a<(c.length:Int))) <|
  a0i (a0d E P0 k N.g1u [.v [.r (at_ c a.toNat 1).asR]]) fun e=>
  chk (decide ((d.length+([[.i (at_ c a.toNat 0).asI,.r (e.t 0).asR]]:LL).length)*32≤140737488355328)) <|
  l ((W64 (a+1)),(d++([[.i (at_ c a.toNat 0).asI,.r (e.t 0).asR]]:LL)))
 else
  some ⟨[.r h,.r d,.b f,.r (g.t 0).asR],[]⟩
def c8b:List Nat:=[2,3,30,31,32,48]
def a5h (a:LL) (c:Bool) (d:Outs) (e:LL):(V0_)→St:=fun (f,g)=>⟨b2c [(2,.ptr (2,0) 0),(3,.ptr (3,0) 0),(30,.sl 92 a),(31,.i .i64 (a.length:Int)),(32,.i .i64 f),(48,.skip)],Mem.put (a2m [((2,0),.var [.ref (2,1),.ref (2,2),.b false,.ref (2,4)]),((2,1),.deep 40 [] none),((2,2),.deep 92 [] none),((2,4),.row 3 true []),((3,0),.var [.ref (3,1),.ref (3,2),.b c,.ref (3,4)]),((3,1),.deep 40 e none),((3,2),.deep 92 g none),((3,4),.row 3 true (d.t 0).asR)]) a6e .dead⟩
def a7t (k:Nat) (b h:LL) (i:Bool) (l:LL) (e:Outs) (f:Outs→LL→(V0_)→OO) (g:(V0_)→OO):(V0_)→OO:=fun (a,c)=>
 bif (decide (a<(b.length:Int))) then
  chk (decide (0≤a)&&decide (a<(b.length:Int))) <|
  a0i (a0d E P0 k N.g1u [.v [.r (at_ b a.toNat 0).asR]]) fun d=>
  chk (decide ((c.length+([[.r (d.t 0).asR]]:LL).length)*24≤140737488355328)) <|
  g ((W64 (a+1)),(c++([[.r (d.t 0).asR]]:LL)))
 else
  f e c (0,[])
def c8c:List Nat:=[1,2,3,7,15,16,17,29,30,31,32,33,34,35,36,37,38,39,40,41,42,43,44,45,46,47,48]
def a5i (a d:LL) (c:Bool) (e:LL) (f:Outs):(V0_)→St:=fun (g,h)=>⟨b2c [(1,.ptr (1,0) 0),(2,.ptr (2,0) 0),(3,.ptr (3,0) 0),(7,.skip),(15,.sl 40 a),(16,.i .i64 (a.length:Int)),(17,.i .i64 g),(29,.skip),(30,.skip),(31,.skip),(32,.skip),(33,.skip),(34,.skip),(35,.skip),(36,.skip),(37,.skip),(38,.skip),(39,.skip),(40,.skip),(41,.skip),(42,.skip),(43,.skip),(44,.skip),(45,.skip),(46,.skip),(47,.skip),(48,.skip)],Mem.put (a2m [((1,0),.var [.sl 40 a,.sl 92 d,.b c,.sl 3 e]),((2,0),.var [.ref (2,1),.ref (2,2),.b false,.ref (2,4)]),((2,1),.deep 40 [] none),((2,2),.deep 92 [] none),((2,4),.row 3 true []),((3,0),.var [.ref (3,1),.ref (3,2),.b c,.ref (3,4)]),((3,1),.deep 40 h none),((3,2),.deep 92 [] none),((3,4),.row 3 true (f.t 0).asR)]) a6e .dead⟩
def a3w (k:Nat) (c a:LL) (b:Bool) (d:LL) (e:Outs) (f:(V0_)→OO):(V0_)→OO:=
 a7t k c a b d e (fun g h v=>a2z (a3a k a b g h) k v) f
def b3a (k:Nat) (d e:LL) (f:Bool) (a:LL) (b:Outs→(V0_)→OO):OO:=
 a0i (a0d E P0 k N.g1u [.v [.r a]]) fun c=>
 b c (0,[])
def b3b (k:Nat) (a b:LL) (c:Bool) (d:LL):OO:=
 b3a k a b c d (fun e v=>a2z (a3w k a b c d e) k v)
def a6u (k:Nat) (a c:LL) (d:Bool) (e:LL) (js:List Nat) (j:Nat) (s:St):OO:=IT_ k N.g2a [.v [.r a,.r c,.b d,.r e]] [] [.sr,.sr,.sl,.sr,.bl] c8c js j s
def a6v (k:Nat) (a c:LL) (d:Bool) (e:LL) (js:List Nat) (j:Nat) (s:St):OO:=IT_ k N.g2a [.v [.r a,.r c,.b d,.r e]] [] [.sr,.sr,.sr,.sl,.sr,.bl] c8b js j s
theorem d0i (k:Nat) (e a:LL) (c:Bool) (f:LL):a0d E P0 (k+1) N.g2a [.v [.r e,.r a,.b c,.r f]]=b3b k e a c f:=by
 have m:a0d E P0 (k+1) N.g2a [.v [.r e,.r a,.b c,.r f]]=b3a k e a c f (fun l v=>a6u k e a c f [] k (a5i e a c f l v)):=by kernel_rfl
 have n:∀ (d:Outs) (g:LL) (h:Nat) (v:V0_),a6v k e a c f [] (h+1) (a5h a c d g v)=a3a k a c d g (fun v=>a6v k e a c f [] h (a5h a c d g v)) v:=by
  intro d g h v;kernel_rfl
 have o:∀ (d:Outs) (g:LL) (h:Nat) (v:V0_),a6v k e a c f [] h (a5h a c d g v)=a2z (a3a k a c d g) h v:=by
  intro d g h v;refine a2d (a5h a c d g) (a3a k a c d g) (fun h v=>(n d g h v).trans ?_) h v;unfold a3a;rfl
 have p:∀ (d:Outs) (i:Nat) (v:V0_),a6u k e a c f [] (i+1) (a5i e a c f d v)=a7t k e a c f d (fun l q v=>a6v k e a c f [] k (a5h a c l q v)) (fun v=>a6u k e a c f [] i (a5i e a c f d v)) v:=by
  intro d i v;kernel_rfl
 have t:∀ (d:Outs) (i:Nat) (v:V0_),a6u k e a c f [] i (a5i e a c f d v)=a2z (a3w k e a c f d) i v:=by
  intro d i v;refine a2d (a5i e a c f d) (a3w k e a c f d) (fun i v=>(p d i v).trans ?_) i v;unfold a3w;simp only [o] <;> rfl
 rw [m];unfold b3b;simp only [t]
def b6e (k:Nat) (a b c d e f g h:Int):OO:=
 BK_ k N.g3j [.v (S6_ a b c d e f g h)] fun l=>
 bif (!(l.t 0).asB) then
  so_ [.r []]
 else
  so_ [.r [[.i 21317],[.i a],[.i b],[.i c],[.i d],[.i e],[.i f],[.i (W64 (g+1))],[.i h]]]
theorem c8d (k:Nat) (a b c d e f g h:Int):a0d E P0 (k+1) N.g3k [.v (S6_ a b c d e f g h)]=b6e k a b c d e f g h:=by kernel_rfl
def c0k (k:Nat) (a:Int):OO:=
 a0i (a0d E P0 k N.g1t [.v [.i a],.v [.i 0],.v [.i 65535]]) fun c=>
 some ⟨[.b (c.t 0).asB],[]⟩
theorem d4p (k:Nat) (a:Int):a0d E P0 (k+1) N.g3l [.v [.i a]]=c0k k a:=by kernel_rfl
def a7u (k:Nat) (c:LL) (d:(Int)→OO):(Int)→OO:=fun a=>
 bif (decide (a<(c.length:Int))) then
  chk (decide (0≤a)&&decide (a<(c.length:Int))) <|
  a0i (a0d E P0 k N.g3l [.v [.i (at_ c a.toNat 0).asI]]) fun e=>
  bif (!(e.t 0).asB) then some ⟨[.b false],[]⟩ else d (W64 (a+1))
 else
  some ⟨[.b true],[]⟩
def c8e:List Nat:=[2,5,6,7]
def c8f (a:LL):(Int)→St:=fun c=>⟨b2c [(2,.b false),(5,.sl 3 a),(6,.i .i64 (a.length:Int)),(7,.i .i64 c)],a2m []⟩
def b3c (k:Nat) (b:LL) (a:(Int)→OO):OO:=
 a 0
def b8c (k:Nat) (a:LL):OO:=
 b3c k a (fun v=>a2z (a7u k a) k v)
theorem d0j (k:Nat) (a:LL):a0d E P0 (k+1) N.g2e [.v [.r a]]=b8c k a:=b4n [] [.sr,.sl,.sr,.bl] c8e (b3c k a) (c8f a) (a7u k a) (by kernel_rfl) (fun j v=>by kernel_rfl)
def c3v (k:Nat) (a:LL):OO:=
 bif (decide ((a.length:Int)≤12)) then
  a0i (a0d E P0 k N.g2e [.v [.r a]]) fun c=>
  some ⟨[.b (c.t 0).asB],[]⟩
 else
  some ⟨[.b false],[]⟩
theorem d8f (k:Nat) (a:LL):a0d E P0 (k+1) N.g2y [.v [.r a]]=c3v k a:=by kernel_rfl
def c0l (k:Nat) (a e:LL) (f:Bool) (g:LL) (c:Int):OO:=
 a0i (a0d E P0 k N.g1t [.v [.i c],.v [.i 0],.v [.i (W64 ((a.length:Int) - 1))]]) fun d=>
 some ⟨[.b (d.t 0).asB],[]⟩
theorem d4q (k:Nat) (a c:LL) (d:Bool) (e:LL) (f:Int):a0d E P0 (k+1) N.g2k [.v [.r a,.r c,.b d,.r e],.v [.i f]]=c0l k a c d e f:=by kernel_rfl
def a2q (k:Nat) (d e:LL) (g:Bool) (c:LL) (f:(Int)→OO):(Int)→OO:=fun a=>
 bif (decide (a<(c.length:Int))) then
  chk (decide (0≤a)&&decide (a<(c.length:Int))) <|
  a0i (a0d E P0 k N.g2k [.v [.r d,.r e,.b g,.r c],.v [.i (at_ c a.toNat 0).asI]]) fun h=>
  bif (!(h.t 0).asB) then
   some ⟨[.b false],[]⟩
  else
   bif (decide (a > 0)) then
    chk (decide (0≤(W64 (a - 1)))&&decide ((W64 (a - 1))<(c.length:Int))) <|
    bif (decide ((at_ c (W64 (a - 1)).toNat 0).asI≥(at_ c a.toNat 0).asI)) then
     some ⟨[.b false],[]⟩
    else
     f (W64 (a+1))
   else
    f (W64 (a+1))
 else
  a0i (a0d E P0 k N.g1t [.v [.i (d.length:Int)],.v [.i 1],.v [.i 20]]) fun l=>
  bif (l.t 0).asB then some ⟨[.b (decide ((e.length:Int)≤60))],[]⟩ else some ⟨[.b false],[]⟩
def d4r:List Nat:=[1,2,40,41,42,66,67,68,69,70,71,72,73,74,75]
def a7v (c d:LL) (e:Bool) (a:LL):(Int)→St:=fun f=>⟨b2c [(1,.ptr (1,0) 0),(2,.b false),(40,.sl 3 a),(41,.i .i64 (a.length:Int)),(42,.i .i64 f),(66,.skip),(67,.skip),(68,.skip),(69,.skip),(70,.skip),(71,.skip),(72,.skip),(73,.skip),(74,.skip),(75,.skip)],a2m [((1,0),.var [.sl 40 c,.sl 92 d,.b e,.sl 3 a])]⟩
def b0k (k:Nat) (d c:LL) (e:Bool) (f:LL) (g h:(Int)→OO):(Int)→OO:=fun a=>
 bif (decide (a<(c.length:Int))) then
  chk (decide (0≤a)&&decide (a<(c.length:Int))) <|
  a0i (a0d E P0 k N.g2k [.v [.r d,.r c,.b e,.r f],.v [.i (at_ c a.toNat 0).asI]]) fun l=>
  bif (!(l.t 0).asB) then
   some ⟨[.b false],[]⟩
  else
   a0i (a0d E P0 k N.g2y [.v [.r (at_ c a.toNat 1).asR]]) fun m=>
   bif (!(m.t 0).asB) then some ⟨[.b false],[]⟩ else h (W64 (a+1))
 else
  g 0
def d4s:List Nat:=[1,2,7,8,21,22,23,39,40,41,42,43,44,45,46,47,48,49,50,51,52,53,54,55,56,57,58,59,60,61,62,63,64,65,66,67,68,69,70,71,72,73,74,75]
def a7w (c a:LL) (d:Bool) (e:LL):(Int)→St:=fun f=>⟨b2c [(1,.ptr (1,0) 0),(2,.b false),(7,.skip),(8,.skip),(21,.sl 92 a),(22,.i .i64 (a.length:Int)),(23,.i .i64 f),(39,.skip),(40,.skip),(41,.skip),(42,.skip),(43,.skip),(44,.skip),(45,.skip),(46,.skip),(47,.skip),(48,.skip),(49,.skip),(50,.skip),(51,.skip),(52,.skip),(53,.skip),(54,.skip),(55,.skip),(56,.skip),(57,.skip),(58,.skip),(59,.skip),(60,.skip),(61,.skip),(62,.skip),(63,.skip),(64,.skip),(65,.skip),(66,.skip),(67,.skip),(68,.skip),(69,.skip),(70,.skip),(71,.skip),(72,.skip),(73,.skip),(74,.skip),(75,.skip)],a2m [((1,0),.var [.sl 40 c,.sl 92 a,.b d,.sl 3 e])]⟩
def b0l (k:Nat) (c g:LL) (h:Bool) (i:LL) (d e:(Int)→OO):(Int)→OO:=fun a=>
 bif (decide (a<(c.length:Int))) then
  chk (decide (0≤a)&&decide (a<(c.length:Int))) <|
  a0i (a0d E P0 k N.g2y [.v [.r (at_ c a.toNat 0).asR]]) fun f=>
  bif (!(f.t 0).asB) then some ⟨[.b false],[]⟩ else e (W64 (a+1))
 else
  d 0
def d4t:List Nat:=[1,2,6,7,8,10,11,12,20,21,22,23,24,25,26,27,28,29,30,31,32,33,34,35,36,37,38,39,40,41,42,43,44,45,46,47,48,49,50,51,52,53,54,55,56,57,58,59,60,61,62,63,64,65,66,67,68,69,70,71,72,73,74,75]
def a7x (a c:LL) (d:Bool) (e:LL):(Int)→St:=fun f=>⟨b2c [(1,.ptr (1,0) 0),(2,.b false),(6,.skip),(7,.skip),(8,.skip),(10,.sl 40 a),(11,.i .i64 (a.length:Int)),(12,.i .i64 f),(20,.skip),(21,.skip),(22,.skip),(23,.skip),(24,.skip),(25,.skip),(26,.skip),(27,.skip),(28,.skip),(29,.skip),(30,.skip),(31,.skip),(32,.skip),(33,.skip),(34,.skip),(35,.skip),(36,.skip),(37,.skip),(38,.skip),(39,.skip),(40,.skip),(41,.skip),(42,.skip),(43,.skip),(44,.skip),(45,.skip),(46,.skip),(47,.skip),(48,.skip),(49,.skip),(50,.skip),(51,.skip),(52,.skip),(53,.skip),(54,.skip),(55,.skip),(56,.skip),(57,.skip),(58,.skip),(59,.skip),(60,.skip),(61,.skip),(62,.skip),(63,.skip),(64,.skip),(65,.skip),(66,.skip),(67,.skip),(68,.skip),(69,.skip),(70,.skip),(71,.skip),(72,.skip),(73,.skip),(74,.skip),(75,.skip)],a2m [((1,0),.var [.sl 40 a,.sl 92 c,.b d,.sl 3 e])]⟩
def a3p (k:Nat) (a b:LL) (c:Bool) (d:LL) (e:(Int)→OO):(Int)→OO:=
 b0k k a b c d (fun v=>a2z (a2q k a b c d) k v) e
def a5y (k:Nat) (a b:LL) (c:Bool) (d:LL) (e:(Int)→OO):(Int)→OO:=
 b0l k a b c d (fun v=>a2z (a3p k a b c d) k v) e
def b6f (k:Nat) (b c:LL) (d:Bool) (e:LL) (a:(Int)→OO):OO:=
 a 0
def b6g (k:Nat) (a b:LL) (c:Bool) (d:LL):OO:=
 b6f k a b c d (fun v=>a2z (a5y k a b c d) k v)
def a9e (k:Nat) (a c:LL) (d:Bool) (e:LL) (js:List Nat) (j:Nat) (s:St):OO:=IT_ k N.g1z [.v [.r a,.r c,.b d,.r e]] [] [.sr,.sl,.sr,.bl] d4t js j s
def a9f (k:Nat) (a c:LL) (d:Bool) (e:LL) (js:List Nat) (j:Nat) (s:St):OO:=IT_ k N.g1z [.v [.r a,.r c,.b d,.r e]] [] [.sr,.sr,.sl,.sr,.bl] d4s js j s
def a9g (k:Nat) (a c:LL) (d:Bool) (e:LL) (js:List Nat) (j:Nat) (s:St):OO:=IT_ k N.g1z [.v [.r a,.r c,.b d,.r e]] [] [.sr,.sr,.sr,.sl,.sr,.bl] d4r js j s
theorem d8g (k:Nat) (a c:LL) (d:Bool) (e:LL):a0d E P0 (k+1) N.g1z [.v [.r a,.r c,.b d,.r e]]=b6g k a c d e:=by
 have i:a0d E P0 (k+1) N.g1z [.v [.r a,.r c,.b d,.r e]]=b6f k a c d e (fun v=>a9e k a c d e [] k (a7x a c d e v)):=by kernel_rfl
 have l:∀ (f:Nat) (v:Int),a9g k a c d e [] (f+1) (a7v a c d e v)=a2q k a c d e (fun v=>a9g k a c d e [] f (a7v a c d e v)) v:=by
  intro f v;kernel_rfl
 have m:∀ (f:Nat) (v:Int),a9g k a c d e [] f (a7v a c d e v)=a2z (a2q k a c d e) f v:=by
  intro f v;refine a2d (a7v a c d e) (a2q k a c d e) (fun f v=>(l f v).trans ?_) f v;unfold a2q;rfl
 have n:∀ (g:Nat) (v:Int),a9f k a c d e [] (g+1) (a7w a c d e v)=b0k k a c d e (fun v=>a9g k a c d e [] k (a7v a c d e v)) (fun v=>a9f k a c d e [] g (a7w a c d e v)) v:=by
  intro g v;kernel_rfl
 have o:∀ (g:Nat) (v:Int),a9f k a c d e [] g (a7w a c d e v)=a2z (a3p k a c d e) g v:=by
  intro g v;refine a2d (a7w a c d e) (a3p k a c d e) (fun g v=>(n g v).trans ?_) g v;unfold a3p;simp only [m] <;> rfl
 have p:∀ (h:Nat) (v:Int),a9e k a c d e [] (h+1) (a7x a c d e v)=b0l k a c d e (fun v=>a9f k a c d e [] k (a7w a c d e v)) (fun v=>a9e k a c d e [] h (a7x a c d e v)) v:=by
  intro h v;kernel_rfl
 have q:∀ (h:Nat) (v:Int),a9e k a c d e [] h (a7x a c d e v)=a2z (a5y k a c d e) h v:=by
  intro h v;refine a2d (a7x a c d e) (a5y k a c d e) (fun h v=>(p h v).trans ?_) h v;unfold a5y;simp only [o] <;> rfl
 rw [i];unfold b6g;simp only [q]
def a8w (k:Nat) (c a:Int):OO:=
 some ⟨[.b (c == a)],[[.i a]]⟩
theorem b3w (k:Nat) (a b:Int):a0d E P0 (k+1) N.g1y [.v [.i a],.p [.i b]]=a8w k a b:=by kernel_rfl
def a1v (k:Nat) (b:LL) (e:(V2_)→OO):(V2_)→OO:=fun (a,d)=>
 bif (decide (a<(b.length:Int))) then
  chk (decide (0≤a)&&decide (a<(b.length:Int))) <|
  a0i (a0d E P0 k N.g1y [.v [.i (at_ b a.toNat 0).asI],.p [.i d]]) fun c=>
  bif (c.t 0).asB then
   some ⟨[.i a],[[.i (c.vt 0 0).asI]]⟩
  else
   e ((W64 (a+1)),(c.vt 0 0).asI)
 else
  some ⟨[.i (-1)],[[.i d]]⟩
def b1i:List Nat:=[0,1,4,7,8]
def b1j (a:LL):(V2_)→St:=fun (b,c)=>⟨b2c [(0,.sl 3 a),(1,.clo N.g1y (some (1,0))),(4,.i .i64 0),(7,.i .i64 (a.length:Int)),(8,.i .i64 b)],a2m [((1,0),.var [.i .i64 c])]⟩
def a3j (k:Nat) (c:LL) (a:Int) (b:(V2_)→OO):OO:=
 b (0,a)
def a6f (k:Nat) (a:LL) (b:Int):OO:=
 a3j k a b (fun v=>a2z (a1v k a) k v)
theorem b1z (k:Nat) (a:LL) (d:Int):a0d E P0 (k+1) N.g4d [.v [.r a],.c N.g1y (some [.i d])]=a6f k a d:=b4n [1] [.sr,.sl,.sr,.bl] b1i (a3j k a d) (b1j a) (a1v k a) (by kernel_rfl) (fun j v=>by kernel_rfl)
def a0u (k:Nat) (e:(V7_)→OO):(V7_)→OO:=fun (a,c,b,f)=>
 bif (decide (c<(b.length:Int))) then
  chk (decide (0≤c)&&decide (c<(b.length:Int))) <|
  a0i (a0d E P0 k N.g1y [.v [.i (at_ b c.toNat 0).asI],.p [.i f]]) fun d=>
  bif (!(d.t 0).asB) then
   chk (decide (0≤a)&&decide (a<(b.length:Int))) <|
   e ((W64 (a+1)),(W64 (c+1)),(a4f b a.toNat 0 [.i (at_ b c.toNat 0).asI]),(d.vt 0 0).asI)
  else
   e (a,(W64 (c+1)),b,(d.vt 0 0).asI)
 else
  chk (decide (0≤a)&&decide (a≤(b.length:Int))&&decide ((b.length:Int)≤(b.length:Int))) <|
  chk (decide (0≤0)&&decide (0≤a)&&decide (a≤((a2o b a.toNat (List.replicate ((b.length:Int).toNat - a.toNat) [.i 0])).length:Int))) <|
  chk (decide (0<(a2o b a.toNat (List.replicate ((b.length:Int).toNat - a.toNat) [.i 0])).length)) <|
  some ⟨[.r ((a2o b a.toNat (List.replicate ((b.length:Int).toNat - a.toNat) [.i 0])).take (a.toNat - (0:Int).toNat))],[[.i f]]⟩
def b0m:List Nat:=[0,1,4,5,6,36,37,38,39,40,41]
def b0n:(V7_)→St:=fun (a,b,c,d)=>ST_ [(0,.ref (0,0)),(1,.clo N.g1y (some (1,0))),(4,.ref (4,0)),(5,.w_ a),(6,.w_ b),(36,.skip),(37,.skip),(38,.skip),(39,.skip),(40,.skip),(41,.skip)] [((0,0),.row 3 true c),((1,0),.var [.w_ d]),((4,0),.row 3 true [])]
def a3b (k:Nat) (b:LL) (d:Int) (e:(V7_)→OO):OO:=
 a0i (a0d E P0 k N.g4d [.v [.r b],.c N.g1y (some [.i d])]) fun a=>
 bif ((a.t 0).asI == (-1)) then
  some ⟨[.r b],[[.i (a.vt 0 0).asI]]⟩
 else
  e ((a.t 0).asI,(W64 ((a.t 0).asI+1)),b,(a.vt 0 0).asI)
def a5j (k:Nat) (a:LL) (b:Int):OO:=
 a3b k a b (fun v=>a2z (a0u k) k v)
theorem b1k (k:Nat) (a:LL) (d:Int):a0d E P0 (k+1) N.g4e [.v [.r a],.c N.g1y (some [.i d])]=a5j k a d:=b4n [1] [.sr,.sr,.sr,.sl,.sr,.bl] b0m (a3b k a d) (b0n) (a0u k) (by kernel_rfl) (fun j v=>by kernel_rfl)
def a3l (k:Nat) (d:Int) (f:LL) (a:Outs) (g:Bool):OO:=
 bif g then
  so_ [.r (a.t 0).asR,.r (a.t 1).asR,.b (a.t 2).asB,.r (a.t 3).asR,.b false]
 else
  BK_ k N.g1u [vr_ f] fun e=>
  chk (decide (((a.t 1).asR.length+([[.i d,.r (e.t 0).asR]]:LL).length)*32≤140737488355328)) <|
  BK_ k N.g4e [vr_ (a.t 3).asR,.c N.g1y (some [.i d])] fun h=>
  so_ [.r (a.t 0).asR,.r ((a.t 1).asR++([[.i d,.r (e.t 0).asR]]:LL)),.b (a.t 2).asB,.r (h.t 0).asR,.b true]
def b6h (k:Nat) (g e:LL) (f:Bool) (h:LL) (a:Int) (c:LL):OO:=
 BK_ k N.g2a [.v (S4_ g e f h)] fun d=>
 BK_ k N.g1z [.v (S4_ g e f h)] fun l=>
 bif (!(l.t 0).asB) then
  a3l k a c d true
 else
  bif f then
   a3l k a c d true
  else
   BK_ k N.g2k [.v (S4_ g e f h),vi_ a] fun m=>
   bif (!(m.t 0).asB) then
    a3l k a c d true
   else
    BK_ k N.g2y [vr_ c] fun n=>
    bif (!(n.t 0).asB) then
     a3l k a c d true
    else
     a3l k a c d ((e.length:Int) == 60)
theorem c8g (k:Nat) (a c:LL) (d:Bool) (e:LL) (f:Int) (g:LL):a0d E P0 (k+1) N.g2l [.v (S4_ a c d e),vi_ f,vr_ g]=b6h k a c d e f g:=by kernel_rfl
def b3x (k:Nat) (e f:LL) (g:Bool) (h:LL) (l d m n o p q u:Int):OO:=
 BK_ k N.g3j [.v (S6_ l d m n o p q u)] fun w=>
 bif (!(w.t 0).asB) then
  BK_ k N.g2a [.v (S4_ e f g h)] fun a=>
  so_ (S7_ a)
 else
  BK_ k N.g3k [.v (S6_ l d m n o p q u)] fun x=>
  BK_ k N.g2l [.v (S4_ e f g h),vi_ (Int.tmod d 2),vr_ (x.t 0).asR] fun c=>
  so_ (S7_ c)
theorem c2n (k:Nat) (a c:LL) (d:Bool) (e:LL) (f g h l m n o p:Int):a0d E P0 (k+1) N.g4f [.v (S4_ a c d e),.v (S6_ f g h l m n o p)]=b3x k a c d e f g h l m n o p:=by kernel_rfl
def c0m (k:Nat) (a:Int):OO:=
 a0i (a0d E P0 k N.g1t [.v [.i a],.v [.i 0],.v [.i 1099511627776]]) fun b=>
 bif (!(b.t 0).asB) then
  some ⟨[.i (-1)],[]⟩
 else
  some ⟨[.i (W64 ((W64 (a+2))+4))],[]⟩
theorem d4u (k:Nat) (a:Int):a0d E P0 (k+1) N.g2z [.v [.i a]]=c0m k a:=by kernel_rfl
def a4r (k:Nat) (c:LL) (e:Outs) (f:(V0_)→OO):(V0_)→OO:=fun (a,d)=>
 bif (decide (a<(c.length:Int))) then
  chk (decide (0≤a)&&decide (a<(c.length:Int))) <|
  a0i (a0d E P0 k N.g1u [.v [.r (at_ c a.toNat 1).asR]]) fun g=>
  chk (decide (0≤(at_ c a.toNat 0).asI)&&decide ((at_ c a.toNat 0).asI<(d.length:Int))) <|
  f ((W64 (a+1)),(a4f d (at_ c a.toNat 0).asI.toNat 0 [.r (g.t 0).asR]))
 else
  some ⟨[.r d,.r [],.b (e.t 2).asB,.r (e.t 3).asR],[]⟩
def c4t:List Nat:=[2,3,17,18,19,32,33]
def b5f (c:LL) (a:Outs):(V0_)→St:=fun (d,e)=>⟨b2c [(2,.ptr (2,0) 0),(3,.ptr (3,0) 0),(17,.sl 92 c),(18,.i .i64 (c.length:Int)),(19,.i .i64 d),(32,.skip),(33,.skip)],Mem.put (a2m [((2,0),.var [.ref (2,1),.ref (2,2),.b false,.ref (2,4)]),((2,1),.deep 40 [] none),((2,2),.deep 92 [] none),((2,4),.row 3 true []),((3,0),.var [.ref (3,1),.ref (3,2),.b (a.t 2).asB,.ref (3,4)]),((3,1),.deep 40 e none),((3,2),.deep 92 (a.t 1).asR none),((3,4),.row 3 true (a.t 3).asR)]) a6e .dead⟩
def b5g (k:Nat) (a:Outs) (c:Outs→(V0_)→OO) (d:Bool):OO:=
 bif d then
  some ⟨[.r (a.t 0).asR,.r (a.t 1).asR,.b (a.t 2).asB,.r (a.t 3).asR],[]⟩
 else
  c a (0,(a.t 0).asR)
def a7y (k:Nat) (c d:LL) (a:Bool) (e:LL) (f:Outs→(V0_)→OO):OO:=
 a0i (a0d E P0 k N.g2a [.v [.r c,.r d,.b a,.r e]]) fun g=>
 a0i (a0d E P0 k N.g1z [.v [.r c,.r d,.b a,.r e]]) fun h=>
 bif (!(h.t 0).asB) then b5g k g f true else b5g k g f a
def b6i (k:Nat) (b a:LL) (c:Bool) (d:LL):OO:=
 a7y k b a c d (fun e v=>a2z (a4r k a e) k v)
def c2o (k:Nat) (a c:LL) (d:Bool) (e:LL) (js:List Nat) (j:Nat) (s:St):OO:=IT_ k N.g2m [.v [.r a,.r c,.b d,.r e]] [] [.sr,.sr,.sr,.sl,.sr,.bl] c4t js j s
theorem c8h (k:Nat) (c a:LL) (d:Bool) (e:LL):a0d E P0 (k+1) N.g2m [.v [.r c,.r a,.b d,.r e]]=b6i k c a d e:=
 Eq.trans (b:=a7y k c a d e (fun f v=>c2o k c a d e [] k (b5f a f v))) (by kernel_rfl) (congrArg (a7y k c a d e) (funext fun f=>funext fun v=>a2d (b5f a f) (a4r k a f) (fun j v=>by kernel_rfl) k v))
def a2t (k:Nat) (u w m n:Int) (e:LL) (o:(V0_)→OO) (p:(V4_)→OO):(V4_)→OO:=fun (d,f,g,h,l)=>
 bif (decide (d<m)) then
  BK_ k N.g2z [vi_ d] fun q=>
  BK_ k N.g2l [.v (S4_ g h f l),vi_ (q.t 0).asI,vr_ [[.i 0]]] fun c=>
  p ((W64 (d+1)),(c.t 2).asB,(c.t 0).asR,(c.t 1).asR,(c.t 3).asR)
 else
  BK_ k N.g2m [.v (S4_ g h f l)] fun a=>
  chk (decide ((e.length+([(S7_ a)]:LL).length)*80≤140737488355328)) <|
  o ((W64 (n+1)),(e++([(S7_ a)]:LL)))
def d0k:List Nat:=[3,4,5,7,22,23,34,35,47,48,49,50,51,52,53,54,55]
def a6l (d a c e:Int) (f:LL):(V4_)→St:=fun (g,h,l,m,n)=>ST_ [(3,.ptr (3,0) 0),(4,.ptr (4,0) 0),(5,.ptr (5,0) 0),(7,.ptr (7,0) 0),(22,.w_ a),(23,.w_ e),(34,.w_ c),(35,.w_ g),(47,.undef),(48,.undef),(49,.undef),(50,.undef),(51,.undef),(52,.undef),(53,.undef),(54,.undef),(55,.skip)] [((3,0),.var [.w_ a,.w_ c]),((4,0),.var [.w_ 0,.w_ 0,.w_ 0,.ref (4,4),.w_ 0,.w_ 0,.w_ 0,.w_ 0,.w_ 0,.ref (4,10),.w_ 0,.b false,.b false]),((4,4),.row 62 true []),((4,10),.row 85 true []),((5,0),.var [.w_ d,.w_ a,.w_ c,.ref (5,4),.w_ (-1),.w_ 0,.w_ 0,.w_ 0,.w_ 0,.ref (5,10),.w_ (-1),.b false,.b false]),((5,4),.row 62 true f),((5,10),.row 85 true []),((7,0),.var [.ref (7,1),.ref (7,2),.b h,.ref (7,4)]),((7,1),.row 40 true l),((7,2),.row 92 true m),((7,4),.row 3 true n)]
def a9h (k:Nat) (l c f:Int) (m:Int→LL→(V4_)→OO) (o:(V0_)→OO):(V0_)→OO:=fun (g,h)=>
 bif (decide (g<c)) then
  BK_ k N.g2w [.v [.i c,.i f]] fun n=>
  BK_ k N.g4c [vi_ (n.t 0).asI] fun d=>
  BK_ k N.g2x [.v [.i l,.i c,.i f,.r h,.i (-1),.i 0,.i 0,.i 0,.i 0,.r [],.i (-1),.b false,.b false],vi_ g] fun a=>
  BK_ k N.g4f [.v (S7_ d),.v (g1b a)] fun e=>
  m g h (0,(e.t 2).asB,(e.t 0).asR,(e.t 1).asR,(e.t 3).asR)
 else
  so_ [.i l,.i c,.i f,.r h,.i (-1),.i 0,.i 0,.i 0,.i 0,.r [],.i (-1),.b false,.b false]
def d0l:List Nat:=[3,4,5,22,23,55]
def a2u (d a c:Int):(V0_)→St:=fun (e,f)=>ST_ [(3,.ptr (3,0) 0),(4,.ptr (4,0) 0),(5,.ptr (5,0) 0),(22,.w_ a),(23,.w_ e),(55,.skip)] [((3,0),.var [.w_ a,.w_ c]),((4,0),.var [.w_ 0,.w_ 0,.w_ 0,.ref (4,4),.w_ 0,.w_ 0,.w_ 0,.w_ 0,.w_ 0,.ref (4,10),.w_ 0,.b false,.b false]),((4,4),.row 62 true []),((4,10),.row 85 true []),((5,0),.var [.w_ d,.w_ a,.w_ c,.ref (5,4),.w_ (-1),.w_ 0,.w_ 0,.w_ 0,.w_ 0,.ref (5,10),.w_ (-1),.b false,.b false]),((5,4),.row 62 true f),((5,10),.row 85 true [])]
def b3d (k:Nat) (a:(V0_)→OO) (c:Bool):OO:=
 bif c then
  so_ [.i 0,.i 0,.i 0,.r [],.i 0,.i 0,.i 0,.i 0,.i 0,.r [],.i 0,.b false,.b false]
 else
  a (0,[])
def a4v (k:Nat) (a b c:Int) (d:(V0_)→OO):(V0_)→OO:=
 a9h k a b c (fun e f v=>a2z (a2t k a b c e f d) k v) d
def b4o (k:Nat) (b c d:Int) (a:(V0_)→OO):OO:=
 BK_ k N.g2d [.v [.i c,.i d]] fun e=>
 bif (!(e.t 0).asB) then
  b3d k a true
 else
  BK_ k N.g1t [vi_ b,vi_ 1,vi_ 60000] fun f=>
  b3d k a (!(f.t 0).asB)
def b4p (k:Nat) (a b c:Int):OO:=
 b4o k a b c (fun v=>a2z (a4v k a b c) k v)
def a3c (k:Nat) (a b c:Int) (js:List Nat) (j:Nat) (s:St):OO:=IT_ k N.g2n [vi_ a,.v [.i b,.i c]] [] [.sr,.sr,.sr,.sl,.sr,.bl] d0l js j s
def a7z (k:Nat) (a b c:Int) (js:List Nat) (j:Nat) (s:St):OO:=IT_ k N.g2n [vi_ a,.v [.i b,.i c]] [] [.sr,.sr,.sr,.sl,.sr,.bl,.lp,.sr,.sr,.sl,.bl,.sr,.sr,.sl,.sr,.bl] d0k js j s
theorem d4v (k:Nat) (a b c:Int):a0d E P0 (k+1) N.g2n [vi_ a,.v [.i b,.i c]]=b4p k a b c:=by
 have h:a0d E P0 (k+1) N.g2n [vi_ a,.v [.i b,.i c]]=b4o k a b c (fun v=>a3c k a b c [] k (a2u a b c v)):=by kernel_rfl
 have l:∀ (d:Nat) (e:Int) (f:LL) (g:Nat) (v:V4_),a7z k a b c [d] (g+1) (a6l a b c e f v)=a2t k a b c e f (fun v=>a3c k a b c [] d (a2u a b c v)) (fun v=>a7z k a b c [d] g (a6l a b c e f v)) v:=by
  intro d e f g v;kernel_rfl
 have m:∀ (d:Nat) (e:Int) (f:LL) (g:Nat) (v:V4_),a7z k a b c [d] g (a6l a b c e f v)=a2z (a2t k a b c e f (fun v=>a3c k a b c [] d (a2u a b c v))) g v:=by
  intro d e f g v;refine a2d (a6l a b c e f) (a2t k a b c e f (fun v=>a3c k a b c [] d (a2u a b c v))) (fun g v=>(l d e f g v).trans ?_) g v;unfold a2t;rfl
 have n:∀ (d:Nat) (v:V0_),a3c k a b c [] (d+1) (a2u a b c v)=a9h k a b c (fun o p v=>a7z k a b c [d] k (a6l a b c o p v)) (fun v=>a3c k a b c [] d (a2u a b c v)) v:=by
  intro d v;kernel_rfl
 have q:∀ (d:Nat) (v:V0_),a3c k a b c [] d (a2u a b c v)=a2z (a4v k a b c) d v:=by
  intro d v;refine a2d (a2u a b c) (a4v k a b c) (fun d v=>(n d v).trans ?_) d v;unfold a4v;simp only [m] <;> rfl
 rw [h];unfold b4p;simp only [q]
def c0n (k:Nat) (c d e:Int):OO:=
 BK_ k N.g2n [vi_ c,.v [.i d,.i e]] fun a=>
 so_ [.i (a.t 0).asI,.i (a.t 1).asI,.i (a.t 2).asI,.r (a.t 3).asR,.i (a.t 4).asI,.i (a.t 5).asI,.i (a.t 6).asI,.i (a.t 7).asI,.i (a.t 8).asI,.r (a.t 9).asR,.i (a.t 10).asI,.b (a.t 11).asB,.b (a.t 12).asB,.r [],.r [],.r [],.r []]
theorem d4w (k:Nat) (a b c:Int):a0d E P0 (k+1) N.g4g [vi_ a,.v [.i b,.i c]]=c0n k a b c:=by kernel_rfl
def c8i (k:Nat) (b:LL) (a:Int):OO:=
 bif (decide (a<(b.length:Int))) then
  ck_ a b <|
  so_ [.i (W64 (at_ b a.toNat 0).asI)]
 else
  so_ [.i (Int.tmod (W64 ((W64 (a*31))+(W64 ((b.length:Int)*7)))) 256)]
theorem d8h (k:Nat) (a:LL) (b:Int):a0d E P0 (k+1) N.g3m [vr_ a,vi_ b]=c8i k a b:=by kernel_rfl
def a6w (k:Nat) (d:LL) (f:(V0_)→OO):(V0_)→OO:=fun (a,e)=>
 bif (decide (a<(d.length:Int))) then
  chk (decide (0≤a)&&decide (a<(d.length:Int))) <|
  a0i (a0d E P0 k N.g2a [.v [.r (at_ d a.toNat 0).asR,.r (at_ d a.toNat 1).asR,.b (at_ d a.toNat 2).asB,.r (at_ d a.toNat 3).asR]]) fun c=>
  chk (decide ((e.length+([[.r (c.t 0).asR,.r (c.t 1).asR,.b (c.t 2).asB,.r (c.t 3).asR]]:LL).length)*80≤140737488355328)) <|
  f ((W64 (a+1)),(e++([[.r (c.t 0).asR,.r (c.t 1).asR,.b (c.t 2).asB,.r (c.t 3).asR]]:LL)))
 else
  some ⟨[.r e],[]⟩
def c4u:List Nat:=[2,3,7,8,9,19]
def c4v (a:LL):(V0_)→St:=fun (b,c)=>⟨b2c [(2,.ref (2,0)),(3,.ref (3,0)),(7,.sl 62 a),(8,.i .i64 (a.length:Int)),(9,.i .i64 b),(19,.skip)],Mem.put (a2m [((2,0),.deep 62 [] none),((3,0),.deep 62 c none)]) a6e .dead⟩
def b1l (k:Nat) (b:LL) (a:(V0_)→OO):OO:=
 a (0,[])
def b6j (k:Nat) (a:LL):OO:=
 b1l k a (fun v=>a2z (a6w k a) k v)
theorem c8j (k:Nat) (a:LL):a0d E P0 (k+1) N.g4h [.v [.r a]]=b6j k a:=b4n [] [.sr,.sr,.sl,.sr,.bl] c4u (b1l k a) (c4v a) (a6w k a) (by kernel_rfl) (fun j v=>by kernel_rfl)
def a8a (k:Nat) (f g h:Int) (l:LL) (m n o p q:Int) (c:LL) (u:Int) (w x:Bool) (y:(V0_)→OO):(V0_)→OO:=fun (a,d)=>
 bif (decide (a<(c.length:Int))) then
  chk (decide (0≤a)&&decide (a<(c.length:Int))) <|
  a0i (a0d E P0 k N.g1u [.v [.r (at_ c a.toNat 1).asR]]) fun e=>
  chk (decide ((d.length+([[.i (at_ c a.toNat 0).asI,.r (e.t 0).asR]]:LL).length)*32≤140737488355328)) <|
  y ((W64 (a+1)),(d++([[.i (at_ c a.toNat 0).asI,.r (e.t 0).asR]]:LL)))
 else
  a0i (a0d E P0 k N.g4h [.v [.r l]]) fun z=>
  some ⟨[.i f,.i g,.i h,.r (z.t 0).asR,.i m,.i n,.i o,.i p,.i q,.r d,.i u,.b w,.b x],[]⟩
def c8k:List Nat:=[1,2,3,8,9,10,24,25,26,27,28,29,30]
def c8l (c d e:Int) (f:LL) (g h l m n:Int) (a:LL) (o:Int) (p q:Bool):(V0_)→St:=fun (r,t)=>⟨b2c [(1,.ptr (1,0) 0),(2,.ptr (2,0) 0),(3,.ref (3,0)),(8,.sl 85 a),(9,.i .i64 (a.length:Int)),(10,.i .i64 r),(24,.skip),(25,.skip),(26,.skip),(27,.skip),(28,.skip),(29,.skip),(30,.skip)],Mem.put (a2m [((1,0),.var [.i .i64 c,.i .i64 d,.i .i64 e,.sl 62 f,.i .i64 g,.i .i64 h,.i .i64 l,.i .i64 m,.i .i64 n,.sl 85 a,.i .i64 o,.b p,.b q]),((2,0),.var [.i .i64 0,.i .i64 0,.i .i64 0,.ref (2,4),.i .i64 0,.i .i64 0,.i .i64 0,.i .i64 0,.i .i64 0,.ref (2,10),.i .i64 0,.b false,.b false]),((2,4),.deep 62 [] none),((2,10),.deep 85 [] none),((3,0),.deep 85 t none)]) a6e .dead⟩
def b3e (k:Nat) (b c d:Int) (e:LL) (f g h i l:Int) (m:LL) (n:Int) (o p:Bool) (a:(V0_)→OO):OO:=
 a (0,[])
def b8d (k:Nat) (a b c:Int) (d:LL) (e f g h i:Int) (l:LL) (m:Int) (n o:Bool):OO:=
 b3e k a b c d e f g h i l m n o (fun v=>a2z (a8a k a b c d e f g h i l m n o) k v)
theorem d0m (k:Nat) (a c d:Int) (e:LL) (f g h l m:Int) (n:LL) (o:Int) (p q:Bool):a0d E P0 (k+1) N.g2b [.v [.i a,.i c,.i d,.r e,.i f,.i g,.i h,.i l,.i m,.r n,.i o,.b p,.b q]]=b8d k a c d e f g h l m n o p q:=b4n [] [.sr,.sr,.sl,.sr,.bl] c8k (b3e k a c d e f g h l m n o p q) (c8l a c d e f g h l m n o p q) (a8a k a c d e f g h l m n o p q) (by kernel_rfl) (fun j v=>by kernel_rfl)
def b8e (k:Nat) (a b c d:Int) (e:LL):OO:=
 a0i (a0d E P0 k N.g1u [.v [.r e]]) fun f=>
 some ⟨[.i a,.i b,.i c,.i d,.r (f.t 0).asR],[]⟩
theorem d0n (k:Nat) (a b c d:Int) (e:LL):a0d E P0 (k+1) N.g2g [.v [.i a,.i b,.i c,.i d,.r e]]=b8e k a b c d e:=by kernel_rfl
def b8f (k:Nat) (a b:Int) (c:LL):OO:=
 a0i (a0d E P0 k N.g1u [.v [.r c]]) fun d=>
 some ⟨[.i a,.i b,.r (d.t 0).asR],[]⟩
theorem d0o (k:Nat) (a b:Int) (c:LL):a0d E P0 (k+1) N.g3a [.v [.i a,.i b,.r c]]=b8f k a b c:=by kernel_rfl
def a3d (k:Nat) (d:LL) (a:Outs) (h l m:LL) (n:(V0_)→OO):(V0_)→OO:=fun (c,g)=>
 bif (decide (c<(d.length:Int))) then
  chk (decide (0≤c)&&decide (c<(d.length:Int))) <|
  a0i (a0d E P0 k N.g2g [.v [.i (at_ d c.toNat 0).asI,.i (at_ d c.toNat 1).asI,.i (at_ d c.toNat 2).asI,.i (at_ d c.toNat 3).asI,.r (at_ d c.toNat 4).asR]]) fun e=>
  a0i (a0d E P0 k N.g3a [.v [.i (at_ d c.toNat 5).asI,.i (at_ d c.toNat 6).asI,.r (at_ d c.toNat 7).asR]]) fun f=>
  chk (decide ((g.length+([[.i (e.t 0).asI,.i (e.t 1).asI,.i (e.t 2).asI,.i (e.t 3).asI,.r (e.t 4).asR,.i (f.t 0).asI,.i (f.t 1).asI,.r (f.t 2).asR]]:LL).length)*96≤140737488355328)) <|
  n ((W64 (c+1)),(g++([[.i (e.t 0).asI,.i (e.t 1).asI,.i (e.t 2).asI,.i (e.t 3).asI,.r (e.t 4).asR,.i (f.t 0).asI,.i (f.t 1).asI,.r (f.t 2).asR]]:LL)))
 else
  some ⟨[.i (a.t 0).asI,.i (a.t 1).asI,.i (a.t 2).asI,.r (a.t 3).asR,.i (a.t 4).asI,.i (a.t 5).asI,.i (a.t 6).asI,.i (a.t 7).asI,.i (a.t 8).asI,.r (a.t 9).asR,.i (a.t 10).asI,.b (a.t 11).asB,.b (a.t 12).asB,.r h,.r l,.r m,.r g],[]⟩
def c8m:List Nat:=[2,3,71,72,73,90]
def a5k (c:LL) (a:Outs) (d e f:LL):(V0_)→St:=fun (g,h)=>⟨b2c [(2,.ptr (2,0) 0),(3,.ptr (3,0) 0),(71,.sl 49 c),(72,.i .i64 (c.length:Int)),(73,.i .i64 g),(90,.skip)],Mem.put (a2m [((2,0),.var [.i .i64 0,.i .i64 0,.i .i64 0,.ref (2,4),.i .i64 0,.i .i64 0,.i .i64 0,.i .i64 0,.i .i64 0,.ref (2,10),.i .i64 0,.b false,.b false,.ref (2,14),.ref (2,15),.ref (2,16),.ref (2,17)]),((2,4),.deep 62 [] none),((2,10),.deep 85 [] none),((2,14),.deep 42 [] none),((2,15),.deep 75 [] none),((2,16),.deep 47 [] none),((2,17),.deep 49 [] none),((3,0),.var [.i .i64 (a.t 0).asI,.i .i64 (a.t 1).asI,.i .i64 (a.t 2).asI,.ref (3,4),.i .i64 (a.t 4).asI,.i .i64 (a.t 5).asI,.i .i64 (a.t 6).asI,.i .i64 (a.t 7).asI,.i .i64 (a.t 8).asI,.ref (3,10),.i .i64 (a.t 10).asI,.b (a.t 11).asB,.b (a.t 12).asB,.ref (3,14),.ref (3,15),.ref (3,16),.ref (3,17)]),((3,4),.deep 62 (a.t 3).asR none),((3,10),.deep 85 (a.t 9).asR none),((3,14),.deep 42 d none),((3,15),.deep 75 e none),((3,16),.deep 47 f none),((3,17),.deep 49 h none)]) a6e .dead⟩
def a8b (k:Nat) (m n o:Int) (p:LL) (q u w x y:Int) (z:LL) (A:Int) (B C:Bool) (D F c G:LL) (e:Outs) (f g:LL) (h:Outs→LL→LL→LL→(V0_)→OO) (l:(V0_)→OO):(V0_)→OO:=fun (a,d)=>
 bif (decide (a<(c.length:Int))) then
  chk (decide (0≤a)&&decide (a<(c.length:Int))) <|
  a0i (a0d E P0 k N.g3a [.v [.i (at_ c a.toNat 0).asI,.i (at_ c a.toNat 1).asI,.r (at_ c a.toNat 2).asR]]) fun b=>
  chk (decide ((d.length+([[.i (b.t 0).asI,.i (b.t 1).asI,.r (b.t 2).asR]]:LL).length)*40≤140737488355328)) <|
  l ((W64 (a+1)),(d++([[.i (b.t 0).asI,.i (b.t 1).asI,.r (b.t 2).asR]]:LL)))
 else
  h e f g d (0,[])
def c8n:List Nat:=[1,2,3,11,56,57,58,70,71,72,73,74,75,76,77,78,79,80,81,82,83,84,85,86,87,88,89,90]
def a5l (d e f:Int) (g:LL) (h l m n o:Int) (p:LL) (q:Int) (r u:Bool) (w x c y:LL) (a:Outs) (z A:LL):(V0_)→St:=fun (B,C)=>⟨b2c [(1,.ptr (1,0) 0),(2,.ptr (2,0) 0),(3,.ptr (3,0) 0),(11,.skip),(56,.sl 47 c),(57,.i .i64 (c.length:Int)),(58,.i .i64 B),(70,.skip),(71,.skip),(72,.skip),(73,.skip),(74,.skip),(75,.skip),(76,.skip),(77,.skip),(78,.skip),(79,.skip),(80,.skip),(81,.skip),(82,.skip),(83,.skip),(84,.skip),(85,.skip),(86,.skip),(87,.skip),(88,.skip),(89,.skip),(90,.skip)],Mem.put (a2m [((1,0),.var [.i .i64 d,.i .i64 e,.i .i64 f,.sl 62 g,.i .i64 h,.i .i64 l,.i .i64 m,.i .i64 n,.i .i64 o,.sl 85 p,.i .i64 q,.b r,.b u,.sl 42 w,.sl 75 x,.sl 47 c,.sl 49 y]),((2,0),.var [.i .i64 0,.i .i64 0,.i .i64 0,.ref (2,4),.i .i64 0,.i .i64 0,.i .i64 0,.i .i64 0,.i .i64 0,.ref (2,10),.i .i64 0,.b false,.b false,.ref (2,14),.ref (2,15),.ref (2,16),.ref (2,17)]),((2,4),.deep 62 [] none),((2,10),.deep 85 [] none),((2,14),.deep 42 [] none),((2,15),.deep 75 [] none),((2,16),.deep 47 [] none),((2,17),.deep 49 [] none),((3,0),.var [.i .i64 (a.t 0).asI,.i .i64 (a.t 1).asI,.i .i64 (a.t 2).asI,.ref (3,4),.i .i64 (a.t 4).asI,.i .i64 (a.t 5).asI,.i .i64 (a.t 6).asI,.i .i64 (a.t 7).asI,.i .i64 (a.t 8).asI,.ref (3,10),.i .i64 (a.t 10).asI,.b (a.t 11).asB,.b (a.t 12).asB,.ref (3,14),.ref (3,15),.ref (3,16),.ref (3,17)]),((3,4),.deep 62 (a.t 3).asR none),((3,10),.deep 85 (a.t 9).asR none),((3,14),.deep 42 z none),((3,15),.deep 75 A none),((3,16),.deep 47 C none),((3,17),.deep 49 [] none)]) a6e .dead⟩
def a8c (k:Nat) (m n o:Int) (p:LL) (q u w x y:Int) (z:LL) (A:Int) (B C:Bool) (D b F G:LL) (f:Outs) (g:LL) (h:Outs→LL→LL→(V0_)→OO) (l:(V0_)→OO):(V0_)→OO:=fun (a,d)=>
 bif (decide (a<(b.length:Int))) then
  chk (decide (0≤a)&&decide (a<(b.length:Int))) <|
  a0i (a0d E P0 k N.g2g [.v [.i (at_ b a.toNat 0).asI,.i (at_ b a.toNat 1).asI,.i (at_ b a.toNat 2).asI,.i (at_ b a.toNat 3).asI,.r (at_ b a.toNat 4).asR]]) fun c=>
  a0i (a0d E P0 k N.g1u [.v [.r (at_ b a.toNat 6).asR]]) fun e=>
  chk (decide ((d.length+([[.i (c.t 0).asI,.i (c.t 1).asI,.i (c.t 2).asI,.i (c.t 3).asI,.r (c.t 4).asR,.i (at_ b a.toNat 5).asI,.r (e.t 0).asR,.i (at_ b a.toNat 7).asI]]:LL).length)*96≤140737488355328)) <|
  l ((W64 (a+1)),(d++([[.i (c.t 0).asI,.i (c.t 1).asI,.i (c.t 2).asI,.i (c.t 3).asI,.r (c.t 4).asR,.i (at_ b a.toNat 5).asI,.r (e.t 0).asR,.i (at_ b a.toNat 7).asI]]:LL)))
 else
  h f g d (0,[])
def c8o:List Nat:=[1,2,3,9,11,32,33,34,55,56,57,58,59,60,61,62,63,64,65,66,67,68,69,70,71,72,73,74,75,76,77,78,79,80,81,82,83,84,85,86,87,88,89,90]
def a5m (d e f:Int) (g:LL) (h l m n o:Int) (p:LL) (q:Int) (r u:Bool) (w c x y:LL) (a:Outs) (z:LL):(V0_)→St:=fun (A,B)=>⟨b2c [(1,.ptr (1,0) 0),(2,.ptr (2,0) 0),(3,.ptr (3,0) 0),(9,.skip),(11,.skip),(32,.sl 75 c),(33,.i .i64 (c.length:Int)),(34,.i .i64 A),(55,.skip),(56,.skip),(57,.skip),(58,.skip),(59,.skip),(60,.skip),(61,.skip),(62,.skip),(63,.skip),(64,.skip),(65,.skip),(66,.skip),(67,.skip),(68,.skip),(69,.skip),(70,.skip),(71,.skip),(72,.skip),(73,.skip),(74,.skip),(75,.skip),(76,.skip),(77,.skip),(78,.skip),(79,.skip),(80,.skip),(81,.skip),(82,.skip),(83,.skip),(84,.skip),(85,.skip),(86,.skip),(87,.skip),(88,.skip),(89,.skip),(90,.skip)],Mem.put (a2m [((1,0),.var [.i .i64 d,.i .i64 e,.i .i64 f,.sl 62 g,.i .i64 h,.i .i64 l,.i .i64 m,.i .i64 n,.i .i64 o,.sl 85 p,.i .i64 q,.b r,.b u,.sl 42 w,.sl 75 c,.sl 47 x,.sl 49 y]),((2,0),.var [.i .i64 0,.i .i64 0,.i .i64 0,.ref (2,4),.i .i64 0,.i .i64 0,.i .i64 0,.i .i64 0,.i .i64 0,.ref (2,10),.i .i64 0,.b false,.b false,.ref (2,14),.ref (2,15),.ref (2,16),.ref (2,17)]),((2,4),.deep 62 [] none),((2,10),.deep 85 [] none),((2,14),.deep 42 [] none),((2,15),.deep 75 [] none),((2,16),.deep 47 [] none),((2,17),.deep 49 [] none),((3,0),.var [.i .i64 (a.t 0).asI,.i .i64 (a.t 1).asI,.i .i64 (a.t 2).asI,.ref (3,4),.i .i64 (a.t 4).asI,.i .i64 (a.t 5).asI,.i .i64 (a.t 6).asI,.i .i64 (a.t 7).asI,.i .i64 (a.t 8).asI,.ref (3,10),.i .i64 (a.t 10).asI,.b (a.t 11).asB,.b (a.t 12).asB,.ref (3,14),.ref (3,15),.ref (3,16),.ref (3,17)]),((3,4),.deep 62 (a.t 3).asR none),((3,10),.deep 85 (a.t 9).asR none),((3,14),.deep 42 z none),((3,15),.deep 75 B none),((3,16),.deep 47 [] none),((3,17),.deep 49 [] none)]) a6e .dead⟩
def a8d (k:Nat) (h l m:Int) (n:LL) (o p q u w:Int) (x:LL) (y:Int) (z A:Bool) (c B C D:LL) (e:Outs) (f:Outs→LL→(V0_)→OO) (g:(V0_)→OO):(V0_)→OO:=fun (b,d)=>
 bif (decide (b<(c.length:Int))) then
  chk (decide (0≤b)&&decide (b<(c.length:Int))) <|
  a0i (a0d E P0 k N.g2g [.v [.i (at_ c b.toNat 0).asI,.i (at_ c b.toNat 1).asI,.i (at_ c b.toNat 2).asI,.i (at_ c b.toNat 3).asI,.r (at_ c b.toNat 4).asR]]) fun a=>
  chk (decide ((d.length+([[.i (a.t 0).asI,.i (a.t 1).asI,.i (a.t 2).asI,.i (a.t 3).asI,.r (a.t 4).asR]]:LL).length)*56≤140737488355328)) <|
  g ((W64 (b+1)),(d++([[.i (a.t 0).asI,.i (a.t 1).asI,.i (a.t 2).asI,.i (a.t 3).asI,.r (a.t 4).asR]]:LL)))
 else
  f e d (0,[])
def c8p:List Nat:=[1,2,3,7,9,11,17,18,19,31,32,33,34,35,36,37,38,39,40,41,42,43,44,45,46,47,48,49,50,51,52,53,54,55,56,57,58,59,60,61,62,63,64,65,66,67,68,69,70,71,72,73,74,75,76,77,78,79,80,81,82,83,84,85,86,87,88,89,90]
def a5n (d e f:Int) (g:LL) (h l m n o:Int) (p:LL) (q:Int) (r u:Bool) (c w x y:LL) (a:Outs):(V0_)→St:=fun (z,A)=>⟨b2c [(1,.ptr (1,0) 0),(2,.ptr (2,0) 0),(3,.ptr (3,0) 0),(7,.skip),(9,.skip),(11,.skip),(17,.sl 42 c),(18,.i .i64 (c.length:Int)),(19,.i .i64 z),(31,.skip),(32,.skip),(33,.skip),(34,.skip),(35,.skip),(36,.skip),(37,.skip),(38,.skip),(39,.skip),(40,.skip),(41,.skip),(42,.skip),(43,.skip),(44,.skip),(45,.skip),(46,.skip),(47,.skip),(48,.skip),(49,.skip),(50,.skip),(51,.skip),(52,.skip),(53,.skip),(54,.skip),(55,.skip),(56,.skip),(57,.skip),(58,.skip),(59,.skip),(60,.skip),(61,.skip),(62,.skip),(63,.skip),(64,.skip),(65,.skip),(66,.skip),(67,.skip),(68,.skip),(69,.skip),(70,.skip),(71,.skip),(72,.skip),(73,.skip),(74,.skip),(75,.skip),(76,.skip),(77,.skip),(78,.skip),(79,.skip),(80,.skip),(81,.skip),(82,.skip),(83,.skip),(84,.skip),(85,.skip),(86,.skip),(87,.skip),(88,.skip),(89,.skip),(90,.skip)],Mem.put (a2m [((1,0),.var [.i .i64 d,.i .i64 e,.i .i64 f,.sl 62 g,.i .i64 h,.i .i64 l,.i .i64 m,.i .i64 n,.i .i64 o,.sl 85 p,.i .i64 q,.b r,.b u,.sl 42 c,.sl 75 w,.sl 47 x,.sl 49 y]),((2,0),.var [.i .i64 0,.i .i64 0,.i .i64 0,.ref (2,4),.i .i64 0,.i .i64 0,.i .i64 0,.i .i64 0,.i .i64 0,.ref (2,10),.i .i64 0,.b false,.b false,.ref (2,14),.ref (2,15),.ref (2,16),.ref (2,17)]),((2,4),.deep 62 [] none),((2,10),.deep 85 [] none),((2,14),.deep 42 [] none),((2,15),.deep 75 [] none),((2,16),.deep 47 [] none),((2,17),.deep 49 [] none),((3,0),.var [.i .i64 (a.t 0).asI,.i .i64 (a.t 1).asI,.i .i64 (a.t 2).asI,.ref (3,4),.i .i64 (a.t 4).asI,.i .i64 (a.t 5).asI,.i .i64 (a.t 6).asI,.i .i64 (a.t 7).asI,.i .i64 (a.t 8).asI,.ref (3,10),.i .i64 (a.t 10).asI,.b (a.t 11).asB,.b (a.t 12).asB,.ref (3,14),.ref (3,15),.ref (3,16),.ref (3,17)]),((3,4),.deep 62 (a.t 3).asR none),((3,10),.deep 85 (a.t 9).asR none),((3,14),.deep 42 A none),((3,15),.deep 75 [] none),((3,16),.deep 47 [] none),((3,17),.deep 49 [] none)]) a6e .dead⟩
def a3x (k:Nat) (b c d:Int) (e:LL) (f g h i l:Int) (m:LL) (n:Int) (o p:Bool) (q r t a:LL) (u:Outs) (w x:LL) (y:(V0_)→OO):(V0_)→OO:=
 a8b k b c d e f g h i l m n o p q r t a u w x (fun z A B C v=>a2z (a3d k a z A B C) k v) y
def a3y (k:Nat) (a b c:Int) (d:LL) (e f g h i:Int) (l:LL) (m:Int) (n o:Bool) (p q r t:LL) (u:Outs) (w:LL) (x:(V0_)→OO):(V0_)→OO:=
 a8c k a b c d e f g h i l m n o p q r t u w (fun y z A v=>a2z (a3x k a b c d e f g h i l m n o p q r t y z A) k v) x
def a3z (k:Nat) (a b c:Int) (d:LL) (e f g h i:Int) (l:LL) (m:Int) (n o:Bool) (p q r t:LL) (u:Outs) (w:(V0_)→OO):(V0_)→OO:=
 a8d k a b c d e f g h i l m n o p q r t u (fun x y v=>a2z (a3y k a b c d e f g h i l m n o p q r t x y) k v) w
def b3f (k:Nat) (a c d:Int) (e:LL) (f g h l m:Int) (n:LL) (o:Int) (p q:Bool) (w x y z:LL) (t:Outs→(V0_)→OO):OO:=
 a0i (a0d E P0 k N.g2b [.v [.i a,.i c,.i d,.r e,.i f,.i g,.i h,.i l,.i m,.r n,.i o,.b p,.b q]]) fun u=>
 t u (0,[])
def b3g (k:Nat) (a b c:Int) (d:LL) (e f g h i:Int) (l:LL) (m:Int) (n o:Bool) (p q r t:LL):OO:=
 b3f k a b c d e f g h i l m n o p q r t (fun u v=>a2z (a3z k a b c d e f g h i l m n o p q r t u) k v)
def a6x (k:Nat) (a c d:Int) (e:LL) (f g h l m:Int) (n:LL) (o:Int) (p q:Bool) (t u w x:LL) (js:List Nat) (j:Nat) (s:St):OO:=IT_ k N.g1x [.v [.i a,.i c,.i d,.r e,.i f,.i g,.i h,.i l,.i m,.r n,.i o,.b p,.b q,.r t,.r u,.r w,.r x]] [] [.sr,.sr,.sl,.sr,.bl] c8p js j s
def a6y (k:Nat) (a c d:Int) (e:LL) (f g h l m:Int) (n:LL) (o:Int) (p q:Bool) (t u w x:LL) (js:List Nat) (j:Nat) (s:St):OO:=IT_ k N.g1x [.v [.i a,.i c,.i d,.r e,.i f,.i g,.i h,.i l,.i m,.r n,.i o,.b p,.b q,.r t,.r u,.r w,.r x]] [] [.sr,.sr,.sr,.sl,.sr,.bl] c8o js j s
def a6z (k:Nat) (a c d:Int) (e:LL) (f g h l m:Int) (n:LL) (o:Int) (p q:Bool) (t u w x:LL) (js:List Nat) (j:Nat) (s:St):OO:=IT_ k N.g1x [.v [.i a,.i c,.i d,.r e,.i f,.i g,.i h,.i l,.i m,.r n,.i o,.b p,.b q,.r t,.r u,.r w,.r x]] [] [.sr,.sr,.sr,.sr,.sl,.sr,.bl] c8n js j s
def a7a (k:Nat) (a c d:Int) (e:LL) (f g h l m:Int) (n:LL) (o:Int) (p q:Bool) (t u w x:LL) (js:List Nat) (j:Nat) (s:St):OO:=IT_ k N.g1x [.v [.i a,.i c,.i d,.r e,.i f,.i g,.i h,.i l,.i m,.r n,.i o,.b p,.b q,.r t,.r u,.r w,.r x]] [] [.sr,.sr,.sr,.sr,.sr,.sl,.sr,.bl] c8m js j s
theorem d0p (k:Nat) (d e f:Int) (g:LL) (h l m n o:Int) (p:LL) (q:Int) (t u:Bool) (w x y a:LL):a0d E P0 (k+1) N.g1x [.v [.i d,.i e,.i f,.r g,.i h,.i l,.i m,.i n,.i o,.r p,.i q,.b t,.b u,.r w,.r x,.r y,.r a]]=b3g k d e f g h l m n o p q t u w x y a:=by
 have L:a0d E P0 (k+1) N.g1x [.v [.i d,.i e,.i f,.r g,.i h,.i l,.i m,.i n,.i o,.r p,.i q,.b t,.b u,.r w,.r x,.r y,.r a]]=b3f k d e f g h l m n o p q t u w x y a (fun H v=>a6x k d e f g h l m n o p q t u w x y a [] k (a5n d e f g h l m n o p q t u w x y a H v)):=by kernel_rfl
 have M:∀ (c:Outs) (z A B:LL) (C:Nat) (v:V0_),a7a k d e f g h l m n o p q t u w x y a [] (C+1) (a5k a c z A B v)=a3d k a c z A B (fun v=>a7a k d e f g h l m n o p q t u w x y a [] C (a5k a c z A B v)) v:=by
  intro c z A B C v;kernel_rfl
 have O:∀ (c:Outs) (z A B:LL) (C:Nat) (v:V0_),a7a k d e f g h l m n o p q t u w x y a [] C (a5k a c z A B v)=a2z (a3d k a c z A B) C v:=by
  intro c z A B C v;refine a2d (a5k a c z A B) (a3d k a c z A B) (fun C v=>(M c z A B C v).trans ?_) C v;unfold a3d;rfl
 have Q:∀ (c:Outs) (z A:LL) (D:Nat) (v:V0_),a6z k d e f g h l m n o p q t u w x y a [] (D+1) (a5l d e f g h l m n o p q t u w x y a c z A v)=a8b k d e f g h l m n o p q t u w x y a c z A (fun H J K R v=>a7a k d e f g h l m n o p q t u w x y a [] k (a5k a H J K R v)) (fun v=>a6z k d e f g h l m n o p q t u w x y a [] D (a5l d e f g h l m n o p q t u w x y a c z A v)) v:=by
  intro c z A D v;kernel_rfl
 have S:∀ (c:Outs) (z A:LL) (D:Nat) (v:V0_),a6z k d e f g h l m n o p q t u w x y a [] D (a5l d e f g h l m n o p q t u w x y a c z A v)=a2z (a3x k d e f g h l m n o p q t u w x y a c z A) D v:=by
  intro c z A D v;refine a2d (a5l d e f g h l m n o p q t u w x y a c z A) (a3x k d e f g h l m n o p q t u w x y a c z A) (fun D v=>(Q c z A D v).trans ?_) D v;unfold a3x;simp only [O] <;> rfl
 have U:∀ (c:Outs) (z:LL) (F:Nat) (v:V0_),a6y k d e f g h l m n o p q t u w x y a [] (F+1) (a5m d e f g h l m n o p q t u w x y a c z v)=a8c k d e f g h l m n o p q t u w x y a c z (fun H J K v=>a6z k d e f g h l m n o p q t u w x y a [] k (a5l d e f g h l m n o p q t u w x y a H J K v)) (fun v=>a6y k d e f g h l m n o p q t u w x y a [] F (a5m d e f g h l m n o p q t u w x y a c z v)) v:=by
  intro c z F v;kernel_rfl
 have V:∀ (c:Outs) (z:LL) (F:Nat) (v:V0_),a6y k d e f g h l m n o p q t u w x y a [] F (a5m d e f g h l m n o p q t u w x y a c z v)=a2z (a3y k d e f g h l m n o p q t u w x y a c z) F v:=by
  intro c z F v;refine a2d (a5m d e f g h l m n o p q t u w x y a c z) (a3y k d e f g h l m n o p q t u w x y a c z) (fun F v=>(U c z F v).trans ?_) F v;unfold a3y;simp only [S] <;> rfl
 have W:∀ (c:Outs) (G:Nat) (v:V0_),a6x k d e f g h l m n o p q t u w x y a [] (G+1) (a5n d e f g h l m n o p q t u w x y a c v)=a8d k d e f g h l m n o p q t u w x y a c (fun H J v=>a6y k d e f g h l m n o p q t u w x y a [] k (a5m d e f g h l m n o p q t u w x y a H J v)) (fun v=>a6x k d e f g h l m n o p q t u w x y a [] G (a5n d e f g h l m n o p q t u w x y a c v)) v:=by
  intro c G v;kernel_rfl
 have X:∀ (c:Outs) (G:Nat) (v:V0_),a6x k d e f g h l m n o p q t u w x y a [] G (a5n d e f g h l m n o p q t u w x y a c v)=a2z (a3z k d e f g h l m n o p q t u w x y a c) G v:=by
  intro c G v;refine a2d (a5n d e f g h l m n o p q t u w x y a c) (a3z k d e f g h l m n o p q t u w x y a c) (fun G v=>(W c G v).trans ?_) G v;unfold a3z;simp only [V] <;> rfl
 rw [L];unfold b3g;simp only [X]
def b3h (k:Nat) (c:Int) (a:LL) (d:Bool):OO:=
 bif d then
  a0i (a0d E P0 k N.g1t [.v [.i (a.length:Int)],.v [.i 1],.v [.i 6]]) fun e=>
  bif (e.t 0).asB then
   a0i (a0d E P0 k N.g2e [.v [.r a]]) fun f=>
   some ⟨[.b (f.t 0).asB],[]⟩
  else
   some ⟨[.b false],[]⟩
 else
  bif (c == 5) then
   bif ((a.length:Int) == 2) then
    a0i (a0d E P0 k N.g2e [.v [.r a]]) fun g=>
    some ⟨[.b (g.t 0).asB],[]⟩
   else
    some ⟨[.b false],[]⟩
  else
   some ⟨[.b true],[]⟩
def c0o (k:Nat) (a g h c:Int) (d:LL):OO:=
 bif (a == 1) then
  a0i (a0d E P0 k N.g1t [.v [.i c],.v [.i 1],.v [.i 6]]) fun e=>
  some ⟨[.b (e.t 0).asB],[]⟩
 else
  bif (a == 6) then
   a0i (a0d E P0 k N.g1t [.v [.i c],.v [.i 1],.v [.i 6]]) fun f=>
   some ⟨[.b (f.t 0).asB],[]⟩
  else
   bif (a == 2) then b3h k a d true else b3h k a d (a == 3)
theorem d4x (k:Nat) (a b c d:Int) (e:LL):a0d E P0 (k+1) N.g4i [.v [.i a,.i b,.i c,.i d,.r e]]=c0o k a b c d e:=by kernel_rfl
def c0p (k:Nat) (a b:Int):OO:=
 a0i (a0d E P0 k N.g2d [.v [.i a,.i b]]) fun c=>
 bif (!(c.t 0).asB) then
  some ⟨[.i 0],[]⟩
 else
  some ⟨[.i (W64 (b*(W64 (a - 1))))],[]⟩
theorem d4y (k:Nat) (a b:Int):a0d E P0 (k+1) N.g3b [.v [.i a,.i b]]=c0p k a b:=by kernel_rfl
def c3w (k:Nat) (a d e b:Int) (c:LL):OO:=
 bif (a == 1) then
  so_ [.i b]
 else
  bif (a == 6) then
   so_ [.i b]
  else
   bif (a == 2) then
    so_ [.i (c.length:Int)]
   else
    bif (a == 3) then
     so_ [.i (c.length:Int)]
    else
     bif (a == 5) then so_ [.i 1] else so_ [.i 0]
theorem d8i (k:Nat) (a b c d:Int) (e:LL):a0d E P0 (k+1) N.g2o [.v (S3_ a b c d e)]=c3w k a b c d e:=by kernel_rfl
def a8e (k:Nat) (f g a c b d:Int) (e:LL) (h:Bool):OO:=
 bif h then
  some ⟨[.i 1],[]⟩
 else
  a0i (a0d E P0 k N.g4i [.v [.i a,.i c,.i b,.i d,.r e]]) fun l=>
  bif (!(l.t 0).asB) then
   some ⟨[.i 3],[]⟩
  else
   bif (a != 4) then
    a0i (a0d E P0 k N.g3b [.v [.i f,.i g]]) fun m=>
    a0i (a0d E P0 k N.g2o [.v [.i a,.i c,.i b,.i d,.r e]]) fun n=>
    a0i (a0d E P0 k N.g1t [.v [.i b],.v [.i 0],.v [.i (W64 ((m.t 0).asI - (n.t 0).asI))]]) fun o=>
    bif (!(o.t 0).asB) then some ⟨[.i 2],[]⟩ else some ⟨[.i 0],[]⟩
   else
    some ⟨[.i 0],[]⟩
def b8g (k:Nat) (a b c d e f:Int) (g:LL):OO:=
 a0i (a0d E P0 k N.g2d [.v [.i a,.i b]]) fun h=>
 bif (!(h.t 0).asB) then
  a8e k a b c d e f g true
 else
  a0i (a0d E P0 k N.g1t [.v [.i c],.v [.i 1],.v [.i 6]]) fun l=>
  bif (!(l.t 0).asB) then
   a8e k a b c d e f g true
  else
   a0i (a0d E P0 k N.g1t [.v [.i d],.v [.i 1],.v [.i 999]]) fun m=>
   a8e k a b c d e f g (!(m.t 0).asB)
theorem d0q (k:Nat) (a b c d e f:Int) (g:LL):a0d E P0 (k+1) N.g2p [.v [.i a,.i b],.v [.i c,.i d,.i e,.i f,.r g]]=b8g k a b c d e f g:=by kernel_rfl
def b4q (k:Nat) (c d e f g h:Int) (l:LL) (m:Int) (a:LL) (n:Bool):OO:=
 a0i (a0d E P0 k N.g2p [.v [.i c,.i d],.v [.i e,.i f,.i g,.i h,.r l]]) fun o=>
 bif ((o.t 0).asI == 0) then
  a0i (a0d E P0 k N.g1t [.v [.i m],.v [.i 0],.v [.i 40]]) fun p=>
  bif (p.t 0).asB then
   bif (decide ((a.length:Int)≤6)) then
    a0i (a0d E P0 k N.g2e [.v [.r a]]) fun q=>
    bif (q.t 0).asB then some ⟨[.b n],[]⟩ else some ⟨[.b false],[]⟩
   else
    some ⟨[.b false],[]⟩
  else
   some ⟨[.b false],[]⟩
 else
  some ⟨[.b false],[]⟩
def c3x (k:Nat) (a b c d e f:Int) (g:LL) (h:Int) (l:LL) (m:Int):OO:=
 bif (m == 0) then
  b4q k a b c d e f g h l true
 else
  a0i (a0d E P0 k N.g1t [.v [.i m],.v [.i 4],.v [.i 7]]) fun n=>
  b4q k a b c d e f g h l ((n.t 0).asB)
theorem d8j (k:Nat) (a b c d e f:Int) (g:LL) (h:Int) (l:LL) (m:Int):a0d E P0 (k+1) N.g4j [.v [.i a,.i b],.v [.i c,.i d,.i e,.i f,.r g,.i h,.r l,.i m]]=c3x k a b c d e f g h l m:=by kernel_rfl
def b5h (k:Nat) (c a d:Int):OO:=
 a0i (a0d E P0 k N.g2d [.v [.i c,.i a]]) fun e=>
 bif (e.t 0).asB then
  a0i (a0d E P0 k N.g1t [.v [.i d],.v [.i 0],.v [.i (W64 (a - 1))]]) fun f=>
  some ⟨[.b (f.t 0).asB],[]⟩
 else
  some ⟨[.b false],[]⟩
theorem c4w (k:Nat) (a b c:Int):a0d E P0 (k+1) N.g2f [.v [.i a,.i b],.v [.i c]]=b5h k a b c:=by kernel_rfl
def c0q (k:Nat) (c e:Int) (a:LL):OO:=
 bif ((a.length:Int) == (W64 (c - 1))) then
  a0i (a0d E P0 k N.g2e [.v [.r a]]) fun d=>
  some ⟨[.b (d.t 0).asB],[]⟩
 else
  some ⟨[.b false],[]⟩
theorem d4z (k:Nat) (a b:Int) (c:LL):a0d E P0 (k+1) N.g3c [.v [.i a,.i b],.v [.r c]]=c0q k a b c:=by kernel_rfl
def a8f (k:Nat) (m d e:Int) (n:LL) (o p q u w:Int) (c:LL) (x:Int) (y z:Bool) (f:(Int)→OO):(Int)→OO:=fun a=>
 bif (decide (a<(c.length:Int))) then
  chk (decide (0≤a)&&decide (a<(c.length:Int))) <|
  a0i (a0d E P0 k N.g2f [.v [.i d,.i e],.v [.i (at_ c a.toNat 0).asI]]) fun g=>
  bif (!(g.t 0).asB) then
   some ⟨[.b false],[]⟩
  else
   bif (decide (a > 0)) then
    chk (decide (0≤(W64 (a - 1)))&&decide ((W64 (a - 1))<(c.length:Int))) <|
    bif (decide ((at_ c (W64 (a - 1)).toNat 0).asI≥(at_ c a.toNat 0).asI)) then
     some ⟨[.b false],[]⟩
    else
     a0i (a0d E P0 k N.g3c [.v [.i d,.i e],.v [.r (at_ c a.toNat 1).asR]]) fun h=>
     bif (!(h.t 0).asB) then some ⟨[.b false],[]⟩ else f (W64 (a+1))
   else
    a0i (a0d E P0 k N.g3c [.v [.i d,.i e],.v [.r (at_ c a.toNat 1).asR]]) fun l=>
    bif (!(l.t 0).asB) then some ⟨[.b false],[]⟩ else f (W64 (a+1))
 else
  some ⟨[.b true],[]⟩
def c8q:List Nat:=[1,2,6,7,8]
def c8r (c d e:Int) (f:LL) (g h l m n:Int) (a:LL) (o:Int) (p q:Bool):(Int)→St:=fun r=>⟨b2c [(1,.ptr (1,0) 0),(2,.b false),(6,.sl 85 a),(7,.i .i64 (a.length:Int)),(8,.i .i64 r)],a2m [((1,0),.var [.i .i64 c,.i .i64 d,.i .i64 e,.sl 62 f,.i .i64 g,.i .i64 h,.i .i64 l,.i .i64 m,.i .i64 n,.sl 85 a,.i .i64 o,.b p,.b q])]⟩
def b3i (k:Nat) (b c d:Int) (e:LL) (f g h i l:Int) (m:LL) (n:Int) (o p:Bool) (a:(Int)→OO):OO:=
 a 0
def b8h (k:Nat) (a b c:Int) (d:LL) (e f g h i:Int) (l:LL) (m:Int) (n o:Bool):OO:=
 b3i k a b c d e f g h i l m n o (fun v=>a2z (a8f k a b c d e f g h i l m n o) k v)
theorem d0r (k:Nat) (a c d:Int) (e:LL) (f g h l m:Int) (n:LL) (o:Int) (p q:Bool):a0d E P0 (k+1) N.g4k [.v [.i a,.i c,.i d,.r e,.i f,.i g,.i h,.i l,.i m,.r n,.i o,.b p,.b q]]=b8h k a c d e f g h l m n o p q:=b4n [] [.sr,.sl,.sr,.bl] c8q (b3i k a c d e f g h l m n o p q) (c8r a c d e f g h l m n o p q) (a8f k a c d e f g h l m n o p q) (by kernel_rfl) (fun j v=>by kernel_rfl)
def b0o (k:Nat) (a c d:Int) (e:Bool):OO:=
 bif e then
  a0i (a0d E P0 k N.g1t [.v [.i (W64 (a - c))],.v [.i 0],.v [.i 4]]) fun f=>
  bif (f.t 0).asB then
   a0i (a0d E P0 k N.g1t [.v [.i d],.v [.i (-1)],.v [.i 1000]]) fun g=>
   some ⟨[.b (g.t 0).asB],[]⟩
  else
   some ⟨[.b false],[]⟩
 else
  some ⟨[.b false],[]⟩
def b0p (k:Nat) (y h l:Int) (c:LL) (m z d e n:Int) (A:LL) (f:Int) (B o:Bool) (g:(Int)→OO):(Int)→OO:=fun a=>
 bif (decide (a<(c.length:Int))) then
  chk (decide (0≤a)&&decide (a<(c.length:Int))) <|
  a0i (a0d E P0 k N.g1z [.v [.r (at_ c a.toNat 0).asR,.r (at_ c a.toNat 1).asR,.b (at_ c a.toNat 2).asB,.r (at_ c a.toNat 3).asR]]) fun p=>
  bif (!(p.t 0).asB) then
   some ⟨[.b false],[]⟩
  else
   a0i (a0d E P0 k N.g2w [.v [.i h,.i l]]) fun q=>
   bif (((at_ c a.toNat 0).asR.length:Int) != (q.t 0).asI) then
    some ⟨[.b false],[]⟩
   else
    bif (at_ c a.toNat 2).asB then
     bif (m != a) then
      bif (!o) then some ⟨[.b false],[]⟩ else g (W64 (a+1))
     else
      g (W64 (a+1))
    else
     g (W64 (a+1))
 else
  a0i (a0d E P0 k N.g1t [.v [.i d],.v [.i 0],.v [.i 60000]]) fun u=>
  bif (u.t 0).asB then
   a0i (a0d E P0 k N.g1t [.v [.i e],.v [.i 0],.v [.i 60000]]) fun w=>
   bif (w.t 0).asB then
    a0i (a0d E P0 k N.g1t [.v [.i n],.v [.i 0],.v [.i 60000]]) fun x=>
    b0o k d e f ((x.t 0).asB)
   else
    b0o k d e f false
  else
   b0o k d e f false
def d5a:List Nat:=[1,2,5,41,42,43,76,77,78,79,80,81,82,83,84,85,86,87,88,89,90,91,92,93,94,95,96,97,98,99,100,101,102]
def d5b (c d e:Int) (a:LL) (f g h l m:Int) (n:LL) (o:Int) (p q:Bool):(Int)→St:=fun r=>⟨b2c [(1,.ptr (1,0) 0),(2,.b false),(5,.skip),(41,.sl 62 a),(42,.i .i64 (a.length:Int)),(43,.i .i64 r),(76,.skip),(77,.skip),(78,.skip),(79,.skip),(80,.skip),(81,.skip),(82,.skip),(83,.skip),(84,.skip),(85,.skip),(86,.skip),(87,.skip),(88,.skip),(89,.skip),(90,.skip),(91,.skip),(92,.skip),(93,.skip),(94,.skip),(95,.skip),(96,.skip),(97,.skip),(98,.skip),(99,.skip),(100,.skip),(101,.skip),(102,.skip)],a2m [((1,0),.var [.i .i64 c,.i .i64 d,.i .i64 e,.sl 62 a,.i .i64 f,.i .i64 g,.i .i64 h,.i .i64 l,.i .i64 m,.sl 85 n,.i .i64 o,.b p,.b q])]⟩
def a5z (k:Nat) (a:(Int)→OO) (c:Bool):OO:=
 bif c then some ⟨[.b false],[]⟩ else a 0
def b6k (k:Nat) (e c d:Int) (f:LL) (g h l m n:Int) (o:LL) (p:Int) (q u:Bool) (a:(Int)→OO):OO:=
 a0i (a0d E P0 k N.g2d [.v [.i c,.i d]]) fun w=>
 bif (!(w.t 0).asB) then
  a5z k a true
 else
  bif ((f.length:Int) != c) then
   a5z k a true
  else
   a0i (a0d E P0 k N.g1t [.v [.i e],.v [.i 1],.v [.i 60000]]) fun x=>
   bif (!(x.t 0).asB) then
    a5z k a true
   else
    a0i (a0d E P0 k N.g3i [.v [.i c,.i d],.v [.i g],.v [.i h]]) fun y=>
    bif (!(y.t 0).asB) then
     a5z k a true
    else
     a0i (a0d E P0 k N.g4k [.v [.i e,.i c,.i d,.r f,.i g,.i h,.i l,.i m,.i n,.r o,.i p,.b q,.b u]]) fun z=>
     a5z k a (!(z.t 0).asB)
def c3y (k:Nat) (a b c:Int) (d:LL) (e f g h i:Int) (l:LL) (m:Int) (n o:Bool):OO:=
 b6k k a b c d e f g h i l m n o (fun v=>a2z (b0p k a b c d e f g h i l m n o) k v)
theorem d8k (k:Nat) (a c d:Int) (e:LL) (f g h l m:Int) (n:LL) (o:Int) (p q:Bool):a0d E P0 (k+1) N.g2h [.v [.i a,.i c,.i d,.r e,.i f,.i g,.i h,.i l,.i m,.r n,.i o,.b p,.b q]]=c3y k a c d e f g h l m n o p q:=b4n [] [.sr,.sr,.sl,.sr,.bl] d5a (b6k k a c d e f g h l m n o p q) (d5b a c d e f g h l m n o p q) (b0p k a c d e f g h l m n o p q) (by kernel_rfl) (fun j v=>by kernel_rfl)
def c0r (k:Nat) (c d b e a f:Int) (g:LL):OO:=
 a0i (a0d E P0 k N.g2p [.v [.i c,.i d],.v [.i b,.i e,.i a,.i f,.r g]]) fun h=>
 bif ((h.t 0).asI != 0) then
  some ⟨[.i 0,.i 0],[]⟩
 else
  bif (b == 4) then
   a0i (a0d E P0 k N.g3b [.v [.i c,.i d]]) fun l=>
   some ⟨[.i 0,.i (l.t 0).asI],[]⟩
  else
   a0i (a0d E P0 k N.g2o [.v [.i b,.i e,.i a,.i f,.r g]]) fun m=>
   some ⟨[.i a,.i (W64 (a+(m.t 0).asI))],[]⟩
theorem d5c (k:Nat) (a b c d e f:Int) (g:LL):a0d E P0 (k+1) N.g3d [.v [.i a,.i b],.v [.i c,.i d,.i e,.i f,.r g]]=c0r k a b c d e f g:=by kernel_rfl
def c3z (k:Nat) (d e f g h l:Int) (m:LL) (n o p q:Int) (u:LL):OO:=
 a0i (a0d E P0 k N.g3d [.v [.i d,.i e],.v [.i f,.i g,.i h,.i l,.r m]]) fun a=>
 a0i (a0d E P0 k N.g3d [.v [.i d,.i e],.v [.i n,.i o,.i p,.i q,.r u]]) fun c=>
 some ⟨[.b (decide ((if (c.t 0).asI > (a.t 0).asI then (c.t 0).asI else (a.t 0).asI)<(if (c.t 1).asI<(a.t 1).asI then (c.t 1).asI else (a.t 1).asI)))],[]⟩
theorem d8l (k:Nat) (a b c d e f:Int) (g:LL) (h l m n:Int) (o:LL):a0d E P0 (k+1) N.g3e [.v [.i a,.i b],.v [.i c,.i d,.i e,.i f,.r g],.v [.i h,.i l,.i m,.i n,.r o]]=c3z k a b c d e f g h l m n o:=by kernel_rfl
def a4i (k:Nat) (w d e:Int) (x:LL) (y z A B C:Int) (D:LL) (F:Int) (G H:Bool) (J K L M c:LL) (f g h l m:Int) (n:LL) (O:Int) (Q:LL) (R o:Int) (p q:(Int)→OO):(Int)→OO:=fun a=>
 bif (decide (a<f)) then
  chk (decide (0≤a)&&decide (a<(c.length:Int))) <|
  a0i (a0d E P0 k N.g3e [.v [.i d,.i e],.v [.i g,.i h,.i l,.i m,.r n],.v [.i (at_ c a.toNat 0).asI,.i (at_ c a.toNat 1).asI,.i (at_ c a.toNat 2).asI,.i (at_ c a.toNat 3).asI,.r (at_ c a.toNat 4).asR]]) fun u=>
  bif (u.t 0).asB then some ⟨[.b false],[]⟩ else q (W64 (a+1))
 else
  p (W64 (o+1))
def d5d:List Nat:=[1,2,4,8,9,10,18,19,20,33]
def a8g (c d e:Int) (f:LL) (g h l m n:Int) (o:LL) (p:Int) (q r:Bool) (t a u w x:LL) (y z A B C:Int) (D:LL) (F:Int) (G:LL) (H J:Int):(Int)→St:=fun K=>⟨b2c [(1,.ptr (1,0) 0),(2,.b false),(4,.ptr (4,0) 0),(8,.sl 75 a),(9,.i .i64 (a.length:Int)),(10,.i .i64 J),(18,.sl 75 x),(19,.i .i64 y),(20,.i .i64 K),(33,.undef)],a2m [((1,0),.var [.i .i64 c,.i .i64 d,.i .i64 e,.sl 62 f,.i .i64 g,.i .i64 h,.i .i64 l,.i .i64 m,.i .i64 n,.sl 85 o,.i .i64 p,.b q,.b r,.sl 42 t,.sl 75 a,.sl 47 u,.sl 49 w]),((4,0),.var [.i .i64 z,.i .i64 A,.i .i64 B,.i .i64 C,.sl 3 D,.i .i64 F,.sl 3 G,.i .i64 H])]⟩
def b0q (k:Nat) (e f g:Int) (h:LL) (i l m n o:Int) (p:LL) (q:Int) (r t:Bool) (u c w x:LL) (d:LL→Int→Int→Int→Int→Int→LL→Int→LL→Int→Int→(Int)→OO) (y:(Int)→OO):(Int)→OO:=fun a=>
 bif (decide (a<(c.length:Int))) then
  chk (decide (0≤a)&&decide (a<(c.length:Int))) <|
  chk (decide (0≤0)&&decide (0≤a)&&decide (a≤(c.length:Int))) <|
  d ((c.drop (0:Int).toNat).take (a.toNat - (0:Int).toNat)) (((c.drop (0:Int).toNat).take (a.toNat - (0:Int).toNat)).length:Int) ((at_ c a.toNat 0).asI) ((at_ c a.toNat 1).asI) ((at_ c a.toNat 2).asI) ((at_ c a.toNat 3).asI) ((at_ c a.toNat 4).asR) ((at_ c a.toNat 5).asI) ((at_ c a.toNat 6).asR) ((at_ c a.toNat 7).asI) a 0
 else
  some ⟨[.b true],[]⟩
def d5e:List Nat:=[1,2,8,9,10]
def a3q (c d e:Int) (f:LL) (g h l m n:Int) (o:LL) (p:Int) (q r:Bool) (t a u w:LL):(Int)→St:=fun x=>⟨b2c [(1,.ptr (1,0) 0),(2,.b false),(8,.sl 75 a),(9,.i .i64 (a.length:Int)),(10,.i .i64 x)],a2m [((1,0),.var [.i .i64 c,.i .i64 d,.i .i64 e,.sl 62 f,.i .i64 g,.i .i64 h,.i .i64 l,.i .i64 m,.i .i64 n,.sl 85 o,.i .i64 p,.b q,.b r,.sl 42 t,.sl 75 a,.sl 47 u,.sl 49 w])]⟩
def a6a (k:Nat) (a b c:Int) (d:LL) (e f g h i:Int) (l:LL) (m:Int) (n o:Bool) (p q r t:LL) (u:(Int)→OO):(Int)→OO:=
 b0q k a b c d e f g h i l m n o p q r t (fun w x y z A B C D F G H v=>a2z (a4i k a b c d e f g h i l m n o p q r t w x y z A B C D F G H u) k v) u
def b6l (k:Nat) (b c d:Int) (e:LL) (f g h i l:Int) (m:LL) (n:Int) (o p:Bool) (q r t u:LL) (a:(Int)→OO):OO:=
 a 0
def b6m (k:Nat) (a b c:Int) (d:LL) (e f g h i:Int) (l:LL) (m:Int) (n o:Bool) (p q r t:LL):OO:=
 b6l k a b c d e f g h i l m n o p q r t (fun v=>a2z (a6a k a b c d e f g h i l m n o p q r t) k v)
def a3s (k:Nat) (a c d:Int) (e:LL) (f g h l m:Int) (n:LL) (o:Int) (p q:Bool) (t u w x:LL) (js:List Nat) (j:Nat) (s:St):OO:=IT_ k N.g2q [.v [.i a,.i c,.i d,.r e,.i f,.i g,.i h,.i l,.i m,.r n,.i o,.b p,.b q,.r t,.r u,.r w,.r x]] [] [.sr,.sl,.sr,.bl] d5e js j s
def a9i (k:Nat) (a c d:Int) (e:LL) (f g h l m:Int) (n:LL) (o:Int) (p q:Bool) (t u w x:LL) (js:List Nat) (j:Nat) (s:St):OO:=IT_ k N.g2q [.v [.i a,.i c,.i d,.r e,.i f,.i g,.i h,.i l,.i m,.r n,.i o,.b p,.b q,.r t,.r u,.r w,.r x]] [] [.sr,.sl,.sr,.bl,.lp,.sr,.sr,.sl,.bl,.sr,.sr,.bl] d5d js j s
theorem d8m (k:Nat) (a c d:Int) (e:LL) (f g h l m:Int) (n:LL) (o:Int) (p q:Bool) (t u w x:LL):a0d E P0 (k+1) N.g2q [.v [.i a,.i c,.i d,.r e,.i f,.i g,.i h,.i l,.i m,.r n,.i o,.b p,.b q,.r t,.r u,.r w,.r x]]=b6m k a c d e f g h l m n o p q t u w x:=by
 have O:a0d E P0 (k+1) N.g2q [.v [.i a,.i c,.i d,.r e,.i f,.i g,.i h,.i l,.i m,.r n,.i o,.b p,.b q,.r t,.r u,.r w,.r x]]=b6l k a c d e f g h l m n o p q t u w x (fun v=>a3s k a c d e f g h l m n o p q t u w x [] k (a3q a c d e f g h l m n o p q t u w x v)):=by kernel_rfl
 have Q:∀ (y:Nat) (z:LL) (A B C D F:Int) (G:LL) (H:Int) (J:LL) (K L:Int) (M:Nat) (v:Int),a9i k a c d e f g h l m n o p q t u w x [y] (M+1) (a8g a c d e f g h l m n o p q t u w x z A B C D F G H J K L v)=a4i k a c d e f g h l m n o p q t u w x z A B C D F G H J K L (fun v=>a3s k a c d e f g h l m n o p q t u w x [] y (a3q a c d e f g h l m n o p q t u w x v)) (fun v=>a9i k a c d e f g h l m n o p q t u w x [y] M (a8g a c d e f g h l m n o p q t u w x z A B C D F G H J K L v)) v:=by
  intro y z A B C D F G H J K L M v;kernel_rfl
 have R:∀ (y:Nat) (z:LL) (A B C D F:Int) (G:LL) (H:Int) (J:LL) (K L:Int) (M:Nat) (v:Int),a9i k a c d e f g h l m n o p q t u w x [y] M (a8g a c d e f g h l m n o p q t u w x z A B C D F G H J K L v)=a2z (a4i k a c d e f g h l m n o p q t u w x z A B C D F G H J K L (fun v=>a3s k a c d e f g h l m n o p q t u w x [] y (a3q a c d e f g h l m n o p q t u w x v))) M v:=by
  intro y z A B C D F G H J K L M v;refine a2d (a8g a c d e f g h l m n o p q t u w x z A B C D F G H J K L) (a4i k a c d e f g h l m n o p q t u w x z A B C D F G H J K L (fun v=>a3s k a c d e f g h l m n o p q t u w x [] y (a3q a c d e f g h l m n o p q t u w x v))) (fun M v=>(Q y z A B C D F G H J K L M v).trans ?_) M v;unfold a4i;rfl
 have S:∀ (y:Nat) (v:Int),a3s k a c d e f g h l m n o p q t u w x [] (y+1) (a3q a c d e f g h l m n o p q t u w x v)=b0q k a c d e f g h l m n o p q t u w x (fun U V W X Y Z aa ab ac ad ae v=>a9i k a c d e f g h l m n o p q t u w x [y] k (a8g a c d e f g h l m n o p q t u w x U V W X Y Z aa ab ac ad ae v)) (fun v=>a3s k a c d e f g h l m n o p q t u w x [] y (a3q a c d e f g h l m n o p q t u w x v)) v:=by
  intro y v;kernel_rfl
 have af:∀ (y:Nat) (v:Int),a3s k a c d e f g h l m n o p q t u w x [] y (a3q a c d e f g h l m n o p q t u w x v)=a2z (a6a k a c d e f g h l m n o p q t u w x) y v:=by
  intro y v;refine a2d (a3q a c d e f g h l m n o p q t u w x) (a6a k a c d e f g h l m n o p q t u w x) (fun y v=>(S y v).trans ?_) y v;unfold a6a;simp only [R] <;> rfl
 rw [O];unfold b6m;simp only [af]
def a8h (k:Nat) (a c d:Int) (e:LL) (f g h l m:Int) (n:LL) (o:Int) (p q:Bool) (u w x y:LL) (z:Bool):OO:=
 bif z then
  a0i (a0d E P0 k N.g2h [.v [.i a,.i c,.i d,.r e,.i f,.i g,.i h,.i l,.i m,.r n,.i o,.b p,.b q]]) fun A=>
  bif (A.t 0).asB then
   a0i (a0d E P0 k N.g2q [.v [.i a,.i c,.i d,.r e,.i f,.i g,.i h,.i l,.i m,.r n,.i o,.b p,.b q,.r u,.r w,.r x,.r y]]) fun B=>
   some ⟨[.b (B.t 0).asB],[]⟩
  else
   some ⟨[.b false],[]⟩
 else
  some ⟨[.b false],[]⟩
def b0r (k:Nat) (l d e:Int) (m:LL) (n o p q u:Int) (w:LL) (x:Int) (y z:Bool) (f a g h:LL) (A:(Int)→OO):(Int)→OO:=fun c=>
 bif (decide (c<(a.length:Int))) then
  chk (decide (0≤c)&&decide (c<(a.length:Int))) <|
  a0i (a0d E P0 k N.g4j [.v [.i d,.i e],.v [.i (at_ a c.toNat 0).asI,.i (at_ a c.toNat 1).asI,.i (at_ a c.toNat 2).asI,.i (at_ a c.toNat 3).asI,.r (at_ a c.toNat 4).asR,.i (at_ a c.toNat 5).asI,.r (at_ a c.toNat 6).asR,.i (at_ a c.toNat 7).asI]]) fun B=>
  bif (!(B.t 0).asB) then some ⟨[.b false],[]⟩ else A (W64 (c+1))
 else
  bif (decide ((f.length:Int)≤8)) then
   bif (decide ((a.length:Int)≤4)) then
    bif (decide ((g.length:Int)≤8)) then
     a8h k l d e m n o p q u w x y z f a g h (decide ((h.length:Int)≤400))
    else
     a8h k l d e m n o p q u w x y z f a g h false
   else
    a8h k l d e m n o p q u w x y z f a g h false
  else
   a8h k l d e m n o p q u w x y z f a g h false
def d5f:List Nat:=[1,2,5,7,8,9,20,21,22,23,24,25,26,27,28,29,30,31,32,33,34,35,36,37,38,39,40,41,42,43,44,45,46,47,48,49,50,51]
def d5g (c d e:Int) (f:LL) (g h l m n:Int) (o:LL) (p:Int) (q r:Bool) (t a u w:LL):(Int)→St:=fun x=>⟨b2c [(1,.ptr (1,0) 0),(2,.b false),(5,.skip),(7,.sl 75 a),(8,.i .i64 (a.length:Int)),(9,.i .i64 x),(20,.skip),(21,.skip),(22,.skip),(23,.skip),(24,.skip),(25,.skip),(26,.skip),(27,.skip),(28,.skip),(29,.skip),(30,.skip),(31,.skip),(32,.skip),(33,.skip),(34,.skip),(35,.skip),(36,.skip),(37,.skip),(38,.skip),(39,.skip),(40,.skip),(41,.skip),(42,.skip),(43,.skip),(44,.skip),(45,.skip),(46,.skip),(47,.skip),(48,.skip),(49,.skip),(50,.skip),(51,.skip)],a2m [((1,0),.var [.i .i64 c,.i .i64 d,.i .i64 e,.sl 62 f,.i .i64 g,.i .i64 h,.i .i64 l,.i .i64 m,.i .i64 n,.sl 85 o,.i .i64 p,.b q,.b r,.sl 42 t,.sl 75 a,.sl 47 u,.sl 49 w])]⟩
def b6n (k:Nat) (b c d:Int) (e:LL) (f g h i l:Int) (m:LL) (n:Int) (o p:Bool) (q r t u:LL) (a:(Int)→OO):OO:=
 a 0
def c4a (k:Nat) (a b c:Int) (d:LL) (e f g h i:Int) (l:LL) (m:Int) (n o:Bool) (p q r t:LL):OO:=
 b6n k a b c d e f g h i l m n o p q r t (fun v=>a2z (b0r k a b c d e f g h i l m n o p q r t) k v)
theorem d8n (k:Nat) (a c d:Int) (e:LL) (f g h l m:Int) (n:LL) (o:Int) (p q:Bool) (t u w x:LL):a0d E P0 (k+1) N.g2r [.v [.i a,.i c,.i d,.r e,.i f,.i g,.i h,.i l,.i m,.r n,.i o,.b p,.b q,.r t,.r u,.r w,.r x]]=c4a k a c d e f g h l m n o p q t u w x:=b4n [] [.sr,.sl,.sr,.bl] d5f (b6n k a c d e f g h l m n o p q t u w x) (d5g a c d e f g h l m n o p q t u w x) (b0r k a c d e f g h l m n o p q t u w x) (by kernel_rfl) (fun j v=>by kernel_rfl)
def a9j (k:Nat) (d e f g:Int) (h:LL) (a:Outs) (l:Bool):OO:=
 bif l then
  so_ (g0l a)
 else
  BK_ k N.g2g [.v (S3_ d e f g h)] fun c=>
  chk (decide (((a.t 13).asR.length+([(g1c c)]:LL).length)*56≤140737488355328)) <|
  so_ [.i (a.t 0).asI,.i (a.t 1).asI,.i (a.t 2).asI,.r (a.t 3).asR,.i (a.t 4).asI,.i (a.t 5).asI,.i (a.t 6).asI,.i (a.t 7).asI,.i (a.t 8).asI,.r (a.t 9).asR,.i (a.t 10).asI,.b (a.t 11).asB,.b (a.t 12).asB,.r ((a.t 13).asR++([(g1c c)]:LL)),.r (a.t 14).asR,.r (a.t 15).asR,.r (a.t 16).asR,.b true]
def c0s (k:Nat) (c d e:Int) (f:LL) (g h l m n:Int) (o:LL) (p:Int) (q u:Bool) (a w x y:LL) (z A B C:Int) (D:LL):OO:=
 BK_ k N.g1x [.v (S1_ c d e f g h l m n o p q u a w x y)] fun F=>
 BK_ k N.g2r [.v (S1_ c d e f g h l m n o p q u a w x y)] fun G=>
 bif (!(G.t 0).asB) then
  a9j k z A B C D F true
 else
  a9j k z A B C D F ((a.length:Int) == 8)
theorem d5h (k:Nat) (a c d:Int) (e:LL) (f g h l m:Int) (n:LL) (o:Int) (p q:Bool) (t u w x:LL) (y z A B:Int) (C:LL):a0d E P0 (k+1) N.g3n [.v (S1_ a c d e f g h l m n o p q t u w x),.v (S3_ y z A B C)]=c0s k a c d e f g h l m n o p q t u w x y z A B C:=by kernel_rfl
def a2k (k:Nat) (q g h:Int) (u:LL) (w x y z A:Int) (B:LL) (C:Int) (D F:Bool) (d f l m:LL) (c:Int) (e:LL) (n:Int) (o:(Int)→OO):(Int)→OO:=fun a=>
 bif (decide (a<n)) then
  chk (decide (0≤a)&&decide (a<(e.length:Int))) <|
  chk (decide (0≤c)&&decide (c<(d.length:Int))) <|
  a0i (a0d E P0 k N.g3e [.v [.i g,.i h],.v [.i (at_ d c.toNat 0).asI,.i (at_ d c.toNat 1).asI,.i (at_ d c.toNat 2).asI,.i (at_ d c.toNat 3).asI,.r (at_ d c.toNat 4).asR],.v [.i (at_ e a.toNat 0).asI,.i (at_ e a.toNat 1).asI,.i (at_ e a.toNat 2).asI,.i (at_ e a.toNat 3).asI,.r (at_ e a.toNat 4).asR]]) fun p=>
  bif (p.t 0).asB then some ⟨[.b false],[]⟩ else o (W64 (a+1))
 else
  bif (decide ((f.length:Int)<4)) then
   bif (decide ((W64 ((l.length:Int)+(f.length:Int)))<8)) then
    some ⟨[.b (decide ((W64 ((m.length:Int)+(f.length:Int)))<400))],[]⟩
   else
    some ⟨[.b false],[]⟩
  else
   some ⟨[.b false],[]⟩
def c4x:List Nat:=[1,2,4,9,44,45,46,61,62,63,64,65,66,67,68,69,70,71,72,73,74,75,76,77,78,79,80,81]
def a4s (a c d:Int) (e:LL) (f g h l m:Int) (n:LL) (o:Int) (p q:Bool) (r t u w:LL) (x:Int) (y:LL) (z:Int):(Int)→St:=fun A=>⟨b2c [(1,.i .i64 x),(2,.ptr (2,0) 0),(4,.b false),(9,.skip),(44,.sl 42 y),(45,.i .i64 z),(46,.i .i64 A),(61,.skip),(62,.skip),(63,.skip),(64,.skip),(65,.skip),(66,.skip),(67,.skip),(68,.skip),(69,.skip),(70,.skip),(71,.skip),(72,.skip),(73,.skip),(74,.skip),(75,.skip),(76,.skip),(77,.skip),(78,.skip),(79,.skip),(80,.skip),(81,.skip)],a2m [((2,0),.var [.i .i64 a,.i .i64 c,.i .i64 d,.sl 62 e,.i .i64 f,.i .i64 g,.i .i64 h,.i .i64 l,.i .i64 m,.sl 85 n,.i .i64 o,.b p,.b q,.sl 42 r,.sl 75 t,.sl 47 u,.sl 49 w])]⟩
def a7b (k:Nat) (n f g:Int) (o:LL) (p q u w x:Int) (y:LL) (z:Int) (A B:Bool) (c e C D:LL) (a:Int) (h:LL→Int→(Int)→OO) (l:(Int)→OO):(Int)→OO:=fun d=>
 bif (decide (d<(e.length:Int))) then
  chk (decide (0≤d)&&decide (d<(e.length:Int))) <|
  chk (decide (0≤a)&&decide (a<(c.length:Int))) <|
  a0i (a0d E P0 k N.g3e [.v [.i f,.i g],.v [.i (at_ c a.toNat 0).asI,.i (at_ c a.toNat 1).asI,.i (at_ c a.toNat 2).asI,.i (at_ c a.toNat 3).asI,.r (at_ c a.toNat 4).asR],.v [.i (at_ e d.toNat 0).asI,.i (at_ e d.toNat 1).asI,.i (at_ e d.toNat 2).asI,.i (at_ e d.toNat 3).asI,.r (at_ e d.toNat 4).asR]]) fun m=>
  bif (m.t 0).asB then some ⟨[.b false],[]⟩ else l (W64 (d+1))
 else
  chk (decide (0≤0)&&decide (0≤a)&&decide (a≤(c.length:Int))) <|
  h ((c.drop (0:Int).toNat).take (a.toNat - (0:Int).toNat)) (((c.drop (0:Int).toNat).take (a.toNat - (0:Int).toNat)).length:Int) 0
def c4y:List Nat:=[1,2,4,8,9,23,24,25,41,42,43,44,45,46,47,48,49,50,51,52,53,54,55,56,57,58,59,60,61,62,63,64,65,66,67,68,69,70,71,72,73,74,75,76,77,78,79,80,81]
def a4t (c d e:Int) (f:LL) (g h l m n:Int) (o:LL) (p:Int) (q r:Bool) (t a u w:LL) (x:Int):(Int)→St:=fun y=>⟨b2c [(1,.i .i64 x),(2,.ptr (2,0) 0),(4,.b false),(8,.skip),(9,.skip),(23,.sl 75 a),(24,.i .i64 (a.length:Int)),(25,.i .i64 y),(41,.skip),(42,.skip),(43,.skip),(44,.skip),(45,.skip),(46,.skip),(47,.skip),(48,.skip),(49,.skip),(50,.skip),(51,.skip),(52,.skip),(53,.skip),(54,.skip),(55,.skip),(56,.skip),(57,.skip),(58,.skip),(59,.skip),(60,.skip),(61,.skip),(62,.skip),(63,.skip),(64,.skip),(65,.skip),(66,.skip),(67,.skip),(68,.skip),(69,.skip),(70,.skip),(71,.skip),(72,.skip),(73,.skip),(74,.skip),(75,.skip),(76,.skip),(77,.skip),(78,.skip),(79,.skip),(80,.skip),(81,.skip)],a2m [((2,0),.var [.i .i64 c,.i .i64 d,.i .i64 e,.sl 62 f,.i .i64 g,.i .i64 h,.i .i64 l,.i .i64 m,.i .i64 n,.sl 85 o,.i .i64 p,.b q,.b r,.sl 42 t,.sl 75 a,.sl 47 u,.sl 49 w])]⟩
def a9w (k:Nat) (a:(Int)→OO) (c:Bool):OO:=
 bif c then some ⟨[.b false],[]⟩ else a 0
def a3m (k:Nat) (a b c:Int) (d:LL) (e f g h i:Int) (l:LL) (m:Int) (n o:Bool) (p q r t:LL) (u:Int) (w:(Int)→OO):(Int)→OO:=
 a7b k a b c d e f g h i l m n o p q r t u (fun x y v=>a2z (a2k k a b c d e f g h i l m n o p q r t u x y) k v) w
def b1m (k:Nat) (d e f:Int) (g:LL) (h l m n o:Int) (p:LL) (q:Int) (u w:Bool) (a x y z:LL) (A:Int) (c:(Int)→OO):OO:=
 a0i (a0d E P0 k N.g2r [.v [.i d,.i e,.i f,.r g,.i h,.i l,.i m,.i n,.i o,.r p,.i q,.b u,.b w,.r a,.r x,.r y,.r z]]) fun B=>
 bif (!(B.t 0).asB) then
  a9w k c true
 else
  a0i (a0d E P0 k N.g1t [.v [.i A],.v [.i 0],.v [.i (W64 ((a.length:Int) - 1))]]) fun C=>
  a9w k c (!(C.t 0).asB)
def b1n (k:Nat) (a b c:Int) (d:LL) (e f g h i:Int) (l:LL) (m:Int) (n o:Bool) (p q r t:LL) (u:Int):OO:=
 b1m k a b c d e f g h i l m n o p q r t u (fun v=>a2z (a3m k a b c d e f g h i l m n o p q r t u) k v)
def a6b (k:Nat) (a c d:Int) (e:LL) (f g h l m:Int) (n:LL) (o:Int) (p q:Bool) (t u w x:LL) (y:Int) (js:List Nat) (j:Nat) (s:St):OO:=IT_ k N.g2i [.v [.i a,.i c,.i d,.r e,.i f,.i g,.i h,.i l,.i m,.r n,.i o,.b p,.b q,.r t,.r u,.r w,.r x],.v [.i y]] [] [.sr,.sr,.sl,.sr,.bl] c4y js j s
def a6c (k:Nat) (a c d:Int) (e:LL) (f g h l m:Int) (n:LL) (o:Int) (p q:Bool) (t u w x:LL) (y:Int) (js:List Nat) (j:Nat) (s:St):OO:=IT_ k N.g2i [.v [.i a,.i c,.i d,.r e,.i f,.i g,.i h,.i l,.i m,.r n,.i o,.b p,.b q,.r t,.r u,.r w,.r x],.v [.i y]] [] [.sr,.sr,.sr,.sl,.sr,.bl] c4x js j s
theorem c8s (k:Nat) (a c d:Int) (e:LL) (f g h l m:Int) (n:LL) (o:Int) (p q:Bool) (t u w x:LL) (y:Int):a0d E P0 (k+1) N.g2i [.v [.i a,.i c,.i d,.r e,.i f,.i g,.i h,.i l,.i m,.r n,.i o,.b p,.b q,.r t,.r u,.r w,.r x],.v [.i y]]=b1n k a c d e f g h l m n o p q t u w x y:=by
 have D:a0d E P0 (k+1) N.g2i [.v [.i a,.i c,.i d,.r e,.i f,.i g,.i h,.i l,.i m,.r n,.i o,.b p,.b q,.r t,.r u,.r w,.r x],.v [.i y]]=b1m k a c d e f g h l m n o p q t u w x y (fun v=>a6b k a c d e f g h l m n o p q t u w x y [] k (a4t a c d e f g h l m n o p q t u w x y v)):=by kernel_rfl
 have F:∀ (z:LL) (A:Int) (B:Nat) (v:Int),a6c k a c d e f g h l m n o p q t u w x y [] (B+1) (a4s a c d e f g h l m n o p q t u w x y z A v)=a2k k a c d e f g h l m n o p q t u w x y z A (fun v=>a6c k a c d e f g h l m n o p q t u w x y [] B (a4s a c d e f g h l m n o p q t u w x y z A v)) v:=by
  intro z A B v;kernel_rfl
 have G:∀ (z:LL) (A:Int) (B:Nat) (v:Int),a6c k a c d e f g h l m n o p q t u w x y [] B (a4s a c d e f g h l m n o p q t u w x y z A v)=a2z (a2k k a c d e f g h l m n o p q t u w x y z A) B v:=by
  intro z A B v;refine a2d (a4s a c d e f g h l m n o p q t u w x y z A) (a2k k a c d e f g h l m n o p q t u w x y z A) (fun B v=>(F z A B v).trans ?_) B v;unfold a2k;rfl
 have H:∀ (C:Nat) (v:Int),a6b k a c d e f g h l m n o p q t u w x y [] (C+1) (a4t a c d e f g h l m n o p q t u w x y v)=a7b k a c d e f g h l m n o p q t u w x y (fun J K v=>a6c k a c d e f g h l m n o p q t u w x y [] k (a4s a c d e f g h l m n o p q t u w x y J K v)) (fun v=>a6b k a c d e f g h l m n o p q t u w x y [] C (a4t a c d e f g h l m n o p q t u w x y v)) v:=by
  intro C v;kernel_rfl
 have L:∀ (C:Nat) (v:Int),a6b k a c d e f g h l m n o p q t u w x y [] C (a4t a c d e f g h l m n o p q t u w x y v)=a2z (a3m k a c d e f g h l m n o p q t u w x y) C v:=by
  intro C v;refine a2d (a4t a c d e f g h l m n o p q t u w x y) (a3m k a c d e f g h l m n o p q t u w x y) (fun C v=>(H C v).trans ?_) C v;unfold a3m;simp only [G] <;> rfl
 rw [D];unfold b1n;simp only [L]
def a4z (k:Nat) (d e f:Int) (g:LL) (h l m n o:Int) (p:LL) (q:Int) (u w:Bool) (c x y z:LL) (A:(Int)→OO):(Int)→OO:=fun a=>
 bif (decide (a<(c.length:Int))) then
  a0i (a0d E P0 k N.g2i [.v [.i d,.i e,.i f,.r g,.i h,.i l,.i m,.i n,.i o,.r p,.i q,.b u,.b w,.r c,.r x,.r y,.r z],.v [.i a]]) fun B=>
  bif (B.t 0).asB then some ⟨[.i a],[]⟩ else A (W64 (a+1))
 else
  some ⟨[.i (-1)],[]⟩
def c0t:List Nat:=[1,2,6,7]
def c0u (c d e:Int) (f:LL) (g h l m n:Int) (o:LL) (p:Int) (q r:Bool) (a t u w:LL):(Int)→St:=fun x=>⟨b2c [(1,.ptr (1,0) 0),(2,.i .i64 0),(6,.i .i64 (a.length:Int)),(7,.i .i64 x)],a2m [((1,0),.var [.i .i64 c,.i .i64 d,.i .i64 e,.sl 62 f,.i .i64 g,.i .i64 h,.i .i64 l,.i .i64 m,.i .i64 n,.sl 85 o,.i .i64 p,.b q,.b r,.sl 42 a,.sl 75 t,.sl 47 u,.sl 49 w])]⟩
def a8x (k:Nat) (b c d:Int) (e:LL) (f g h i l:Int) (m:LL) (n:Int) (o p:Bool) (q r t u:LL) (a:(Int)→OO):OO:=
 a 0
def b3y (k:Nat) (a b c:Int) (d:LL) (e f g h i:Int) (l:LL) (m:Int) (n o:Bool) (p q r t:LL):OO:=
 a8x k a b c d e f g h i l m n o p q r t (fun v=>a2z (a4z k a b c d e f g h i l m n o p q r t) k v)
theorem c2p (k:Nat) (a c d:Int) (e:LL) (f g h l m:Int) (n:LL) (o:Int) (p q:Bool) (t u w x:LL):a0d E P0 (k+1) N.g4l [.v [.i a,.i c,.i d,.r e,.i f,.i g,.i h,.i l,.i m,.r n,.i o,.b p,.b q,.r t,.r u,.r w,.r x]]=b3y k a c d e f g h l m n o p q t u w x:=b4n [] [.sr,.sl,.sr,.bl] c0t (a8x k a c d e f g h l m n o p q t u w x) (c0u a c d e f g h l m n o p q t u w x) (a4z k a c d e f g h l m n o p q t u w x) (by kernel_rfl) (fun j v=>by kernel_rfl)
end
end Go.Proofs.Ytdbopobkdpmpgaa.Ev
