/- What functions answer under the evaluator, as Lean terms, part 2: what FnExactDrain needs. No condition. -/
import Derived.Test.YtgilihjnmjgciaaGreatmTab
namespace Go.Proofs.YtgilihjnmjgciaaGreat.Ev
open Go Go.Proofs
set_option linter.unusedVariables false
set_option maxRecDepth 100000
set_option maxHeartbeats 4000000
noncomputable section
def d5l (k:Nat) (a c d:Int):OO:=
 bif (decide (a≥c)) then so_ [.b (decide (a≤d))] else so_ [.b false]
theorem g1h (k:Nat) (a b c:Int):a0a E P0 (k+1) N.j5m [vi_ a,vi_ b,vi_ c]=d5l k a b c:=by kernel_rfl
def e1a (k:Nat) (a c:Int):OO:=
 a0f (a0a E P0 k N.j5m [.v [.i a],.v [.i 3],.v [.i 5]]) fun d=>
 bif (d.t 0).asB then
  a0f (a0a E P0 k N.j5m [.v [.i c],.v [.i 1],.v [.i 8]]) fun e=>
  some ⟨[.b (e.t 0).asB],[]⟩
 else
  some ⟨[.b false],[]⟩
theorem g6k (k:Nat) (a b:Int):a0a E P0 (k+1) N.j6o [.v [.i a,.i b]]=e1a k a b:=by kernel_rfl
def d5m (k:Nat) (a:Int):OO:=
 a0f (a0a E P0 k N.j5m [.v [.i a],.v [.i 0],.v [.i 65535]]) fun c=>
 some ⟨[.b (c.t 0).asB],[]⟩
theorem g1i (k:Nat) (a:Int):a0a E P0 (k+1) N.j9c [.v [.i a]]=d5m k a:=by kernel_rfl
def b2z (k:Nat) (c:LL) (d:(Int)→OO):(Int)→OO:=fun a=>
 bif (decide (a<(c.length:Int))) then
  chk (decide (0≤a)&&decide (a<(c.length:Int))) <|
  a0f (a0a E P0 k N.j9c [.v [.i (at_ c a.toNat 0).asI]]) fun e=>
  bif (!(e.t 0).asB) then some ⟨[.b false],[]⟩ else d (W64 (a+1))
 else
  some ⟨[.b true],[]⟩
def e8r:List Nat:=[2,5,6,7]
def e8s (a:LL):(Int)→St:=fun c=>⟨a3k [(2,.b false),(5,.sl 3 a),(6,.i .i64 (a.length:Int)),(7,.i .i64 c)],a1e []⟩
def c1t (k:Nat) (b:LL) (a:(Int)→OO):OO:=
 a 0
def d0w (k:Nat) (a:LL):OO:=
 c1t k a (fun v=>a1i (b2z k a) k v)
theorem f4g (k:Nat) (a:LL):a0a E P0 (k+1) N.j6j [.v [.r a]]=d0w k a:=a1y [] [.sr,.sl,.sr,.bl] e8r (c1t k a) (e8s a) (b2z k a) (by kernel_rfl) (fun j v=>by kernel_rfl)
def c1u (k:Nat) (c:Int) (a:LL) (d:Bool):OO:=
 bif d then
  a0f (a0a E P0 k N.j5m [.v [.i (a.length:Int)],.v [.i 1],.v [.i 6]]) fun e=>
  bif (e.t 0).asB then
   a0f (a0a E P0 k N.j6j [.v [.r a]]) fun f=>
   some ⟨[.b (f.t 0).asB],[]⟩
  else
   some ⟨[.b false],[]⟩
 else
  bif (c == 5) then
   bif ((a.length:Int) == 2) then
    a0f (a0a E P0 k N.j6j [.v [.r a]]) fun g=>
    some ⟨[.b (g.t 0).asB],[]⟩
   else
    some ⟨[.b false],[]⟩
  else
   some ⟨[.b true],[]⟩
def d5n (k:Nat) (a g h c:Int) (d:LL):OO:=
 bif (a == 1) then
  a0f (a0a E P0 k N.j5m [.v [.i c],.v [.i 1],.v [.i 6]]) fun e=>
  some ⟨[.b (e.t 0).asB],[]⟩
 else
  bif (a == 6) then
   a0f (a0a E P0 k N.j5m [.v [.i c],.v [.i 1],.v [.i 6]]) fun f=>
   some ⟨[.b (f.t 0).asB],[]⟩
  else
   bif (a == 2) then c1u k a d true else c1u k a d (a == 3)
theorem g1j (k:Nat) (a b c d:Int) (e:LL):a0a E P0 (k+1) N.k2c [.v [.i a,.i b,.i c,.i d,.r e]]=d5n k a b c d e:=by kernel_rfl
def d5o (k:Nat) (a b:Int):OO:=
 a0f (a0a E P0 k N.j6o [.v [.i a,.i b]]) fun c=>
 bif (!(c.t 0).asB) then
  some ⟨[.i 0],[]⟩
 else
  some ⟨[.i (W64 (b*(W64 (a - 1))))],[]⟩
theorem g1k (k:Nat) (a b:Int):a0a E P0 (k+1) N.j7t [.v [.i a,.i b]]=d5o k a b:=by kernel_rfl
def e1b (k:Nat) (a d e b:Int) (c:LL):OO:=
 bif (a == 1) then
  so_ [.i b]
 else
  bif (a == 6) then
   so_ [.i b]
  else
   bif (a == 2) then
    so_ [.i (c.length:Int)]
   else
    bif (a == 3) then
     so_ [.i (c.length:Int)]
    else
     bif (a == 5) then so_ [.i 1] else so_ [.i 0]
theorem g6l (k:Nat) (a b c d:Int) (e:LL):a0a E P0 (k+1) N.j6z [.v (S5_ a b c d e)]=e1b k a b c d e:=by kernel_rfl
def b3a (k:Nat) (f g a c b d:Int) (e:LL) (h:Bool):OO:=
 bif h then
  some ⟨[.i 1],[]⟩
 else
  a0f (a0a E P0 k N.k2c [.v [.i a,.i c,.i b,.i d,.r e]]) fun l=>
  bif (!(l.t 0).asB) then
   some ⟨[.i 3],[]⟩
  else
   bif (a != 4) then
    a0f (a0a E P0 k N.j7t [.v [.i f,.i g]]) fun m=>
    a0f (a0a E P0 k N.j6z [.v [.i a,.i c,.i b,.i d,.r e]]) fun n=>
    a0f (a0a E P0 k N.j5m [.v [.i b],.v [.i 0],.v [.i (W64 ((m.t 0).asI - (n.t 0).asI))]]) fun o=>
    bif (!(o.t 0).asB) then some ⟨[.i 2],[]⟩ else some ⟨[.i 0],[]⟩
   else
    some ⟨[.i 0],[]⟩
def d0x (k:Nat) (a b c d e f:Int) (g:LL):OO:=
 a0f (a0a E P0 k N.j6o [.v [.i a,.i b]]) fun h=>
 bif (!(h.t 0).asB) then
  b3a k a b c d e f g true
 else
  a0f (a0a E P0 k N.j5m [.v [.i c],.v [.i 1],.v [.i 6]]) fun l=>
  bif (!(l.t 0).asB) then
   b3a k a b c d e f g true
  else
   a0f (a0a E P0 k N.j5m [.v [.i d],.v [.i 1],.v [.i 999]]) fun m=>
   b3a k a b c d e f g (!(m.t 0).asB)
theorem f4h (k:Nat) (a b c d e f:Int) (g:LL):a0a E P0 (k+1) N.j7a [.v [.i a,.i b],.v [.i c,.i d,.i e,.i f,.r g]]=d0x k a b c d e f g:=by kernel_rfl
def c4h (k:Nat) (c d e f g h:Int) (l:LL) (m:Int) (a:LL) (n:Bool):OO:=
 a0f (a0a E P0 k N.j7a [.v [.i c,.i d],.v [.i e,.i f,.i g,.i h,.r l]]) fun o=>
 bif ((o.t 0).asI == 0) then
  a0f (a0a E P0 k N.j5m [.v [.i m],.v [.i 0],.v [.i 40]]) fun p=>
  bif (p.t 0).asB then
   bif (decide ((a.length:Int)≤6)) then
    a0f (a0a E P0 k N.j6j [.v [.r a]]) fun q=>
    bif (q.t 0).asB then some ⟨[.b n],[]⟩ else some ⟨[.b false],[]⟩
   else
    some ⟨[.b false],[]⟩
  else
   some ⟨[.b false],[]⟩
 else
  some ⟨[.b false],[]⟩
def e1c (k:Nat) (a b c d e f:Int) (g:LL) (h:Int) (l:LL) (m:Int):OO:=
 bif (m == 0) then
  c4h k a b c d e f g h l true
 else
  a0f (a0a E P0 k N.j5m [.v [.i m],.v [.i 4],.v [.i 7]]) fun n=>
  c4h k a b c d e f g h l ((n.t 0).asB)
theorem g6m (k:Nat) (a b c d e f:Int) (g:LL) (h:Int) (l:LL) (m:Int):a0a E P0 (k+1) N.k2d [.v [.i a,.i b],.v [.i c,.i d,.i e,.i f,.r g,.i h,.r l,.i m]]=e1c k a b c d e f g h l m:=by kernel_rfl
def d5p (k:Nat) (d e a c:Int):OO:=
 a0f (a0a E P0 k N.j5m [.v [.i a],.v [.i (-1)],.v [.i (W64 (d - 1))]]) fun f=>
 bif (f.t 0).asB then
  a0f (a0a E P0 k N.j5m [.v [.i c],.v [.i 0],.v [.i e]]) fun g=>
  bif (g.t 0).asB then
   bif (c == 0) then some ⟨[.b true],[]⟩ else some ⟨[.b (a != (-1))],[]⟩
  else
   some ⟨[.b false],[]⟩
 else
  some ⟨[.b false],[]⟩
theorem g1l (k:Nat) (a b c d:Int):a0a E P0 (k+1) N.j9d [.v [.i a,.i b],.v [.i c],.v [.i d]]=d5p k a b c d:=by kernel_rfl
def c5g (k:Nat) (c a d:Int):OO:=
 a0f (a0a E P0 k N.j6o [.v [.i c,.i a]]) fun e=>
 bif (e.t 0).asB then
  a0f (a0a E P0 k N.j5m [.v [.i d],.v [.i 0],.v [.i (W64 (a - 1))]]) fun f=>
  some ⟨[.b (f.t 0).asB],[]⟩
 else
  some ⟨[.b false],[]⟩
theorem e2j (k:Nat) (a b c:Int):a0a E P0 (k+1) N.j6k [.v [.i a,.i b],.v [.i c]]=c5g k a b c:=by kernel_rfl
def d5q (k:Nat) (c e:Int) (a:LL):OO:=
 bif ((a.length:Int) == (W64 (c - 1))) then
  a0f (a0a E P0 k N.j6j [.v [.r a]]) fun d=>
  some ⟨[.b (d.t 0).asB],[]⟩
 else
  some ⟨[.b false],[]⟩
theorem g1m (k:Nat) (a b:Int) (c:LL):a0a E P0 (k+1) N.j7u [.v [.i a,.i b],.v [.r c]]=d5q k a b c:=by kernel_rfl
def b3b (k:Nat) (m d e:Int) (n:LL) (o p q u w:Int) (c:LL) (x:Int) (y z:Bool) (f:(Int)→OO):(Int)→OO:=fun a=>
 bif (decide (a<(c.length:Int))) then
  chk (decide (0≤a)&&decide (a<(c.length:Int))) <|
  a0f (a0a E P0 k N.j6k [.v [.i d,.i e],.v [.i (at_ c a.toNat 0).asI]]) fun g=>
  bif (!(g.t 0).asB) then
   some ⟨[.b false],[]⟩
  else
   bif (decide (a > 0)) then
    chk (decide (0≤(W64 (a - 1)))&&decide ((W64 (a - 1))<(c.length:Int))) <|
    bif (decide ((at_ c (W64 (a - 1)).toNat 0).asI≥(at_ c a.toNat 0).asI)) then
     some ⟨[.b false],[]⟩
    else
     a0f (a0a E P0 k N.j7u [.v [.i d,.i e],.v [.r (at_ c a.toNat 1).asR]]) fun h=>
     bif (!(h.t 0).asB) then some ⟨[.b false],[]⟩ else f (W64 (a+1))
   else
    a0f (a0a E P0 k N.j7u [.v [.i d,.i e],.v [.r (at_ c a.toNat 1).asR]]) fun l=>
    bif (!(l.t 0).asB) then some ⟨[.b false],[]⟩ else f (W64 (a+1))
 else
  some ⟨[.b true],[]⟩
def e8t:List Nat:=[1,2,6,7,8]
def e8u (c d e:Int) (f:LL) (g h l m n:Int) (a:LL) (o:Int) (p q:Bool):(Int)→St:=fun r=>⟨a3k [(1,.ptr (1,0) 0),(2,.b false),(6,.sl 136 a),(7,.i .i64 (a.length:Int)),(8,.i .i64 r)],a1e [((1,0),.var [.i .i64 c,.i .i64 d,.i .i64 e,.sl 134 f,.i .i64 g,.i .i64 h,.i .i64 l,.i .i64 m,.i .i64 n,.sl 136 a,.i .i64 o,.b p,.b q])]⟩
def c1v (k:Nat) (b c d:Int) (e:LL) (f g h i l:Int) (m:LL) (n:Int) (o p:Bool) (a:(Int)→OO):OO:=
 a 0
def d0y (k:Nat) (a b c:Int) (d:LL) (e f g h i:Int) (l:LL) (m:Int) (n o:Bool):OO:=
 c1v k a b c d e f g h i l m n o (fun v=>a1i (b3b k a b c d e f g h i l m n o) k v)
theorem f4i (k:Nat) (a c d:Int) (e:LL) (f g h l m:Int) (n:LL) (o:Int) (p q:Bool):a0a E P0 (k+1) N.k2e [.v [.i a,.i c,.i d,.r e,.i f,.i g,.i h,.i l,.i m,.r n,.i o,.b p,.b q]]=d0y k a c d e f g h l m n o p q:=a1y [] [.sr,.sl,.sr,.bl] e8t (c1v k a c d e f g h l m n o p q) (e8u a c d e f g h l m n o p q) (b3b k a c d e f g h l m n o p q) (by kernel_rfl) (fun j v=>by kernel_rfl)
def e1d (k:Nat) (a:LL):OO:=
 bif (decide ((a.length:Int)≤12)) then
  a0f (a0a E P0 k N.j6j [.v [.r a]]) fun c=>
  some ⟨[.b (c.t 0).asB],[]⟩
 else
  some ⟨[.b false],[]⟩
theorem g6n (k:Nat) (a:LL):a0a E P0 (k+1) N.j7v [.v [.r a]]=e1d k a:=by kernel_rfl
def d5r (k:Nat) (a e:LL) (f:Bool) (g:LL) (c:Int):OO:=
 a0f (a0a E P0 k N.j5m [.v [.i c],.v [.i 0],.v [.i (W64 ((a.length:Int) - 1))]]) fun d=>
 some ⟨[.b (d.t 0).asB],[]⟩
theorem g1n (k:Nat) (a c:LL) (d:Bool) (e:LL) (f:Int):a0a E P0 (k+1) N.j7b [.v [.r a,.r c,.b d,.r e],.v [.i f]]=d5r k a c d e f:=by kernel_rfl
def a3x (k:Nat) (d e:LL) (g:Bool) (c:LL) (f:(Int)→OO):(Int)→OO:=fun a=>
 bif (decide (a<(c.length:Int))) then
  chk (decide (0≤a)&&decide (a<(c.length:Int))) <|
  a0f (a0a E P0 k N.j7b [.v [.r d,.r e,.b g,.r c],.v [.i (at_ c a.toNat 0).asI]]) fun h=>
  bif (!(h.t 0).asB) then
   some ⟨[.b false],[]⟩
  else
   bif (decide (a > 0)) then
    chk (decide (0≤(W64 (a - 1)))&&decide ((W64 (a - 1))<(c.length:Int))) <|
    bif (decide ((at_ c (W64 (a - 1)).toNat 0).asI≥(at_ c a.toNat 0).asI)) then
     some ⟨[.b false],[]⟩
    else
     f (W64 (a+1))
   else
    f (W64 (a+1))
 else
  a0f (a0a E P0 k N.j5m [.v [.i (d.length:Int)],.v [.i 1],.v [.i 20]]) fun l=>
  bif (l.t 0).asB then some ⟨[.b (decide ((e.length:Int)≤60))],[]⟩ else some ⟨[.b false],[]⟩
def g1o:List Nat:=[1,2,40,41,42,66,67,68,69,70,71,72,73,74,75]
def b3c (c d:LL) (e:Bool) (a:LL):(Int)→St:=fun f=>⟨a3k [(1,.ptr (1,0) 0),(2,.b false),(40,.sl 3 a),(41,.i .i64 (a.length:Int)),(42,.i .i64 f),(66,.skip),(67,.skip),(68,.skip),(69,.skip),(70,.skip),(71,.skip),(72,.skip),(73,.skip),(74,.skip),(75,.skip)],a1e [((1,0),.var [.sl 79 c,.sl 157 d,.b e,.sl 3 a])]⟩
def b8c (k:Nat) (d c:LL) (e:Bool) (f:LL) (g h:(Int)→OO):(Int)→OO:=fun a=>
 bif (decide (a<(c.length:Int))) then
  chk (decide (0≤a)&&decide (a<(c.length:Int))) <|
  a0f (a0a E P0 k N.j7b [.v [.r d,.r c,.b e,.r f],.v [.i (at_ c a.toNat 0).asI]]) fun l=>
  bif (!(l.t 0).asB) then
   some ⟨[.b false],[]⟩
  else
   a0f (a0a E P0 k N.j7v [.v [.r (at_ c a.toNat 1).asR]]) fun m=>
   bif (!(m.t 0).asB) then some ⟨[.b false],[]⟩ else h (W64 (a+1))
 else
  g 0
def g1p:List Nat:=[1,2,7,8,21,22,23,39,40,41,42,43,44,45,46,47,48,49,50,51,52,53,54,55,56,57,58,59,60,61,62,63,64,65,66,67,68,69,70,71,72,73,74,75]
def b3d (c a:LL) (d:Bool) (e:LL):(Int)→St:=fun f=>⟨a3k [(1,.ptr (1,0) 0),(2,.b false),(7,.skip),(8,.skip),(21,.sl 157 a),(22,.i .i64 (a.length:Int)),(23,.i .i64 f),(39,.skip),(40,.skip),(41,.skip),(42,.skip),(43,.skip),(44,.skip),(45,.skip),(46,.skip),(47,.skip),(48,.skip),(49,.skip),(50,.skip),(51,.skip),(52,.skip),(53,.skip),(54,.skip),(55,.skip),(56,.skip),(57,.skip),(58,.skip),(59,.skip),(60,.skip),(61,.skip),(62,.skip),(63,.skip),(64,.skip),(65,.skip),(66,.skip),(67,.skip),(68,.skip),(69,.skip),(70,.skip),(71,.skip),(72,.skip),(73,.skip),(74,.skip),(75,.skip)],a1e [((1,0),.var [.sl 79 c,.sl 157 a,.b d,.sl 3 e])]⟩
def b8d (k:Nat) (c g:LL) (h:Bool) (i:LL) (d e:(Int)→OO):(Int)→OO:=fun a=>
 bif (decide (a<(c.length:Int))) then
  chk (decide (0≤a)&&decide (a<(c.length:Int))) <|
  a0f (a0a E P0 k N.j7v [.v [.r (at_ c a.toNat 0).asR]]) fun f=>
  bif (!(f.t 0).asB) then some ⟨[.b false],[]⟩ else e (W64 (a+1))
 else
  d 0
def g1q:List Nat:=[1,2,6,7,8,10,11,12,20,21,22,23,24,25,26,27,28,29,30,31,32,33,34,35,36,37,38,39,40,41,42,43,44,45,46,47,48,49,50,51,52,53,54,55,56,57,58,59,60,61,62,63,64,65,66,67,68,69,70,71,72,73,74,75]
def b3e (a c:LL) (d:Bool) (e:LL):(Int)→St:=fun f=>⟨a3k [(1,.ptr (1,0) 0),(2,.b false),(6,.skip),(7,.skip),(8,.skip),(10,.sl 79 a),(11,.i .i64 (a.length:Int)),(12,.i .i64 f),(20,.skip),(21,.skip),(22,.skip),(23,.skip),(24,.skip),(25,.skip),(26,.skip),(27,.skip),(28,.skip),(29,.skip),(30,.skip),(31,.skip),(32,.skip),(33,.skip),(34,.skip),(35,.skip),(36,.skip),(37,.skip),(38,.skip),(39,.skip),(40,.skip),(41,.skip),(42,.skip),(43,.skip),(44,.skip),(45,.skip),(46,.skip),(47,.skip),(48,.skip),(49,.skip),(50,.skip),(51,.skip),(52,.skip),(53,.skip),(54,.skip),(55,.skip),(56,.skip),(57,.skip),(58,.skip),(59,.skip),(60,.skip),(61,.skip),(62,.skip),(63,.skip),(64,.skip),(65,.skip),(66,.skip),(67,.skip),(68,.skip),(69,.skip),(70,.skip),(71,.skip),(72,.skip),(73,.skip),(74,.skip),(75,.skip)],a1e [((1,0),.var [.sl 79 a,.sl 157 c,.b d,.sl 3 e])]⟩
def a4y (k:Nat) (a b:LL) (c:Bool) (d:LL) (e:(Int)→OO):(Int)→OO:=
 b8c k a b c d (fun v=>a1i (a3x k a b c d) k v) e
def a8q (k:Nat) (a b:LL) (c:Bool) (d:LL) (e:(Int)→OO):(Int)→OO:=
 b8d k a b c d (fun v=>a1i (a4y k a b c d) k v) e
def c7d (k:Nat) (b c:LL) (d:Bool) (e:LL) (a:(Int)→OO):OO:=
 a 0
def c7e (k:Nat) (a b:LL) (c:Bool) (d:LL):OO:=
 c7d k a b c d (fun v=>a1i (a8q k a b c d) k v)
def b5s (k:Nat) (a c:LL) (d:Bool) (e:LL) (js:List Nat) (j:Nat) (s:St):OO:=IT_ k N.j5y [.v [.r a,.r c,.b d,.r e]] [] [.sr,.sl,.sr,.bl] g1q js j s
def b5t (k:Nat) (a c:LL) (d:Bool) (e:LL) (js:List Nat) (j:Nat) (s:St):OO:=IT_ k N.j5y [.v [.r a,.r c,.b d,.r e]] [] [.sr,.sr,.sl,.sr,.bl] g1p js j s
def b5u (k:Nat) (a c:LL) (d:Bool) (e:LL) (js:List Nat) (j:Nat) (s:St):OO:=IT_ k N.j5y [.v [.r a,.r c,.b d,.r e]] [] [.sr,.sr,.sr,.sl,.sr,.bl] g1o js j s
theorem g6o (k:Nat) (a c:LL) (d:Bool) (e:LL):a0a E P0 (k+1) N.j5y [.v [.r a,.r c,.b d,.r e]]=c7e k a c d e:=by
 have i:a0a E P0 (k+1) N.j5y [.v [.r a,.r c,.b d,.r e]]=c7d k a c d e (fun v=>b5s k a c d e [] k (b3e a c d e v)):=by kernel_rfl
 have l:∀ (f:Nat) (v:Int),b5u k a c d e [] (f+1) (b3c a c d e v)=a3x k a c d e (fun v=>b5u k a c d e [] f (b3c a c d e v)) v:=by
  intro f v;kernel_rfl
 have m:∀ (f:Nat) (v:Int),b5u k a c d e [] f (b3c a c d e v)=a1i (a3x k a c d e) f v:=by
  intro f v;refine a1p (b3c a c d e) (a3x k a c d e) (fun f v=>(l f v).trans ?_) f v;unfold a3x;rfl
 have n:∀ (g:Nat) (v:Int),b5t k a c d e [] (g+1) (b3d a c d e v)=b8c k a c d e (fun v=>b5u k a c d e [] k (b3c a c d e v)) (fun v=>b5t k a c d e [] g (b3d a c d e v)) v:=by
  intro g v;kernel_rfl
 have o:∀ (g:Nat) (v:Int),b5t k a c d e [] g (b3d a c d e v)=a1i (a4y k a c d e) g v:=by
  intro g v;refine a1p (b3d a c d e) (a4y k a c d e) (fun g v=>(n g v).trans ?_) g v;unfold a4y;simp only [m] <;> rfl
 have p:∀ (h:Nat) (v:Int),b5s k a c d e [] (h+1) (b3e a c d e v)=b8d k a c d e (fun v=>b5t k a c d e [] k (b3d a c d e v)) (fun v=>b5s k a c d e [] h (b3e a c d e v)) v:=by
  intro h v;kernel_rfl
 have q:∀ (h:Nat) (v:Int),b5s k a c d e [] h (b3e a c d e v)=a1i (a8q k a c d e) h v:=by
  intro h v;refine a1p (b3e a c d e) (a8q k a c d e) (fun h v=>(p h v).trans ?_) h v;unfold a8q;simp only [o] <;> rfl
 rw [i];unfold c7e;simp only [q]
def d0z (k:Nat) (b a:Int):OO:=
 some ⟨[.i (W64 (6+a))],[]⟩
theorem f4j (k:Nat) (a b:Int):a0a E P0 (k+1) N.k2f [.v [.i a,.i b]]=d0z k a b:=by kernel_rfl
def b8e (k:Nat) (a c d:Int) (e:Bool):OO:=
 bif e then
  a0f (a0a E P0 k N.j5m [.v [.i (W64 (a - c))],.v [.i 0],.v [.i 4]]) fun f=>
  bif (f.t 0).asB then
   a0f (a0a E P0 k N.j5m [.v [.i d],.v [.i (-1)],.v [.i 1000]]) fun g=>
   some ⟨[.b (g.t 0).asB],[]⟩
  else
   some ⟨[.b false],[]⟩
 else
  some ⟨[.b false],[]⟩
def b8f (k:Nat) (y h l:Int) (c:LL) (m z d e n:Int) (A:LL) (f:Int) (B o:Bool) (g:(Int)→OO):(Int)→OO:=fun a=>
 bif (decide (a<(c.length:Int))) then
  chk (decide (0≤a)&&decide (a<(c.length:Int))) <|
  a0f (a0a E P0 k N.j5y [.v [.r (at_ c a.toNat 0).asR,.r (at_ c a.toNat 1).asR,.b (at_ c a.toNat 2).asB,.r (at_ c a.toNat 3).asR]]) fun p=>
  bif (!(p.t 0).asB) then
   some ⟨[.b false],[]⟩
  else
   a0f (a0a E P0 k N.k2f [.v [.i h,.i l]]) fun q=>
   bif (((at_ c a.toNat 0).asR.length:Int) != (q.t 0).asI) then
    some ⟨[.b false],[]⟩
   else
    bif (at_ c a.toNat 2).asB then
     bif (m != a) then
      bif (!o) then some ⟨[.b false],[]⟩ else g (W64 (a+1))
     else
      g (W64 (a+1))
    else
     g (W64 (a+1))
 else
  a0f (a0a E P0 k N.j5m [.v [.i d],.v [.i 0],.v [.i 60000]]) fun u=>
  bif (u.t 0).asB then
   a0f (a0a E P0 k N.j5m [.v [.i e],.v [.i 0],.v [.i 60000]]) fun w=>
   bif (w.t 0).asB then
    a0f (a0a E P0 k N.j5m [.v [.i n],.v [.i 0],.v [.i 60000]]) fun x=>
    b8e k d e f ((x.t 0).asB)
   else
    b8e k d e f false
  else
   b8e k d e f false
def g1r:List Nat:=[1,2,5,41,42,43,76,77,78,79,80,81,82,83,84,85,86,87,88,89,90,91,92,93,94,95,96,97,98,99,100,101,102]
def g1s (c d e:Int) (a:LL) (f g h l m:Int) (n:LL) (o:Int) (p q:Bool):(Int)→St:=fun r=>⟨a3k [(1,.ptr (1,0) 0),(2,.b false),(5,.skip),(41,.sl 134 a),(42,.i .i64 (a.length:Int)),(43,.i .i64 r),(76,.skip),(77,.skip),(78,.skip),(79,.skip),(80,.skip),(81,.skip),(82,.skip),(83,.skip),(84,.skip),(85,.skip),(86,.skip),(87,.skip),(88,.skip),(89,.skip),(90,.skip),(91,.skip),(92,.skip),(93,.skip),(94,.skip),(95,.skip),(96,.skip),(97,.skip),(98,.skip),(99,.skip),(100,.skip),(101,.skip),(102,.skip)],a1e [((1,0),.var [.i .i64 c,.i .i64 d,.i .i64 e,.sl 134 a,.i .i64 f,.i .i64 g,.i .i64 h,.i .i64 l,.i .i64 m,.sl 136 n,.i .i64 o,.b p,.b q])]⟩
def a8r (k:Nat) (a:(Int)→OO) (c:Bool):OO:=
 bif c then some ⟨[.b false],[]⟩ else a 0
def c7f (k:Nat) (e c d:Int) (f:LL) (g h l m n:Int) (o:LL) (p:Int) (q u:Bool) (a:(Int)→OO):OO:=
 a0f (a0a E P0 k N.j6o [.v [.i c,.i d]]) fun w=>
 bif (!(w.t 0).asB) then
  a8r k a true
 else
  bif ((f.length:Int) != c) then
   a8r k a true
  else
   a0f (a0a E P0 k N.j5m [.v [.i e],.v [.i 1],.v [.i 60000]]) fun x=>
   bif (!(x.t 0).asB) then
    a8r k a true
   else
    a0f (a0a E P0 k N.j9d [.v [.i c,.i d],.v [.i g],.v [.i h]]) fun y=>
    bif (!(y.t 0).asB) then
     a8r k a true
    else
     a0f (a0a E P0 k N.k2e [.v [.i e,.i c,.i d,.r f,.i g,.i h,.i l,.i m,.i n,.r o,.i p,.b q,.b u]]) fun z=>
     a8r k a (!(z.t 0).asB)
def e1e (k:Nat) (a b c:Int) (d:LL) (e f g h i:Int) (l:LL) (m:Int) (n o:Bool):OO:=
 c7f k a b c d e f g h i l m n o (fun v=>a1i (b8f k a b c d e f g h i l m n o) k v)
theorem g6p (k:Nat) (a c d:Int) (e:LL) (f g h l m:Int) (n:LL) (o:Int) (p q:Bool):a0a E P0 (k+1) N.j6p [.v [.i a,.i c,.i d,.r e,.i f,.i g,.i h,.i l,.i m,.r n,.i o,.b p,.b q]]=e1e k a c d e f g h l m n o p q:=a1y [] [.sr,.sr,.sl,.sr,.bl] g1r (c7f k a c d e f g h l m n o p q) (g1s a c d e f g h l m n o p q) (b8f k a c d e f g h l m n o p q) (by kernel_rfl) (fun j v=>by kernel_rfl)
def d5s (k:Nat) (c d b e a f:Int) (g:LL):OO:=
 a0f (a0a E P0 k N.j7a [.v [.i c,.i d],.v [.i b,.i e,.i a,.i f,.r g]]) fun h=>
 bif ((h.t 0).asI != 0) then
  some ⟨[.i 0,.i 0],[]⟩
 else
  bif (b == 4) then
   a0f (a0a E P0 k N.j7t [.v [.i c,.i d]]) fun l=>
   some ⟨[.i 0,.i (l.t 0).asI],[]⟩
  else
   a0f (a0a E P0 k N.j6z [.v [.i b,.i e,.i a,.i f,.r g]]) fun m=>
   some ⟨[.i a,.i (W64 (a+(m.t 0).asI))],[]⟩
theorem g1t (k:Nat) (a b c d e f:Int) (g:LL):a0a E P0 (k+1) N.j7w [.v [.i a,.i b],.v [.i c,.i d,.i e,.i f,.r g]]=d5s k a b c d e f g:=by kernel_rfl
def e1f (k:Nat) (d e f g h l:Int) (m:LL) (n o p q:Int) (u:LL):OO:=
 a0f (a0a E P0 k N.j7w [.v [.i d,.i e],.v [.i f,.i g,.i h,.i l,.r m]]) fun a=>
 a0f (a0a E P0 k N.j7w [.v [.i d,.i e],.v [.i n,.i o,.i p,.i q,.r u]]) fun c=>
 some ⟨[.b (decide ((if (c.t 0).asI > (a.t 0).asI then (c.t 0).asI else (a.t 0).asI)<(if (c.t 1).asI<(a.t 1).asI then (c.t 1).asI else (a.t 1).asI)))],[]⟩
theorem g6q (k:Nat) (a b c d e f:Int) (g:LL) (h l m n:Int) (o:LL):a0a E P0 (k+1) N.j7x [.v [.i a,.i b],.v [.i c,.i d,.i e,.i f,.r g],.v [.i h,.i l,.i m,.i n,.r o]]=e1f k a b c d e f g h l m n o:=by kernel_rfl
def a6e (k:Nat) (w d e:Int) (x:LL) (y z A B C:Int) (D:LL) (F:Int) (G H:Bool) (J K L M c:LL) (f g h l m:Int) (n:LL) (O:Int) (Q:LL) (R o:Int) (p q:(Int)→OO):(Int)→OO:=fun a=>
 bif (decide (a<f)) then
  chk (decide (0≤a)&&decide (a<(c.length:Int))) <|
  a0f (a0a E P0 k N.j7x [.v [.i d,.i e],.v [.i g,.i h,.i l,.i m,.r n],.v [.i (at_ c a.toNat 0).asI,.i (at_ c a.toNat 1).asI,.i (at_ c a.toNat 2).asI,.i (at_ c a.toNat 3).asI,.r (at_ c a.toNat 4).asR]]) fun u=>
  bif (u.t 0).asB then some ⟨[.b false],[]⟩ else q (W64 (a+1))
 else
  p (W64 (o+1))
def g1u:List Nat:=[1,2,4,8,9,10,18,19,20,33]
def b3f (c d e:Int) (f:LL) (g h l m n:Int) (o:LL) (p:Int) (q r:Bool) (t a u w x:LL) (y z A B C:Int) (D:LL) (F:Int) (G:LL) (H J:Int):(Int)→St:=fun K=>⟨a3k [(1,.ptr (1,0) 0),(2,.b false),(4,.ptr (4,0) 0),(8,.sl 95 a),(9,.i .i64 (a.length:Int)),(10,.i .i64 J),(18,.sl 95 x),(19,.i .i64 y),(20,.i .i64 K),(33,.undef)],a1e [((1,0),.var [.i .i64 c,.i .i64 d,.i .i64 e,.sl 134 f,.i .i64 g,.i .i64 h,.i .i64 l,.i .i64 m,.i .i64 n,.sl 136 o,.i .i64 p,.b q,.b r,.sl 92 t,.sl 95 a,.sl 96 u,.sl 99 w]),((4,0),.var [.i .i64 z,.i .i64 A,.i .i64 B,.i .i64 C,.sl 3 D,.i .i64 F,.sl 3 G,.i .i64 H])]⟩
def b8g (k:Nat) (e f g:Int) (h:LL) (i l m n o:Int) (p:LL) (q:Int) (r t:Bool) (u c w x:LL) (d:LL→Int→Int→Int→Int→Int→LL→Int→LL→Int→Int→(Int)→OO) (y:(Int)→OO):(Int)→OO:=fun a=>
 bif (decide (a<(c.length:Int))) then
  chk (decide (0≤a)&&decide (a<(c.length:Int))) <|
  chk (decide (0≤0)&&decide (0≤a)&&decide (a≤(c.length:Int))) <|
  d ((c.drop (0:Int).toNat).take (a.toNat - (0:Int).toNat)) (((c.drop (0:Int).toNat).take (a.toNat - (0:Int).toNat)).length:Int) ((at_ c a.toNat 0).asI) ((at_ c a.toNat 1).asI) ((at_ c a.toNat 2).asI) ((at_ c a.toNat 3).asI) ((at_ c a.toNat 4).asR) ((at_ c a.toNat 5).asI) ((at_ c a.toNat 6).asR) ((at_ c a.toNat 7).asI) a 0
 else
  some ⟨[.b true],[]⟩
def g1v:List Nat:=[1,2,8,9,10]
def a4z (c d e:Int) (f:LL) (g h l m n:Int) (o:LL) (p:Int) (q r:Bool) (t a u w:LL):(Int)→St:=fun x=>⟨a3k [(1,.ptr (1,0) 0),(2,.b false),(8,.sl 95 a),(9,.i .i64 (a.length:Int)),(10,.i .i64 x)],a1e [((1,0),.var [.i .i64 c,.i .i64 d,.i .i64 e,.sl 134 f,.i .i64 g,.i .i64 h,.i .i64 l,.i .i64 m,.i .i64 n,.sl 136 o,.i .i64 p,.b q,.b r,.sl 92 t,.sl 95 a,.sl 96 u,.sl 99 w])]⟩
def a8s (k:Nat) (a b c:Int) (d:LL) (e f g h i:Int) (l:LL) (m:Int) (n o:Bool) (p q r t:LL) (u:(Int)→OO):(Int)→OO:=
 b8g k a b c d e f g h i l m n o p q r t (fun w x y z A B C D F G H v=>a1i (a6e k a b c d e f g h i l m n o p q r t w x y z A B C D F G H u) k v) u
def c7g (k:Nat) (b c d:Int) (e:LL) (f g h i l:Int) (m:LL) (n:Int) (o p:Bool) (q r t u:LL) (a:(Int)→OO):OO:=
 a 0
def c7h (k:Nat) (a b c:Int) (d:LL) (e f g h i:Int) (l:LL) (m:Int) (n o:Bool) (p q r t:LL):OO:=
 c7g k a b c d e f g h i l m n o p q r t (fun v=>a1i (a8s k a b c d e f g h i l m n o p q r t) k v)
def a5i (k:Nat) (a c d:Int) (e:LL) (f g h l m:Int) (n:LL) (o:Int) (p q:Bool) (t u w x:LL) (js:List Nat) (j:Nat) (s:St):OO:=IT_ k N.j7c [.v [.i a,.i c,.i d,.r e,.i f,.i g,.i h,.i l,.i m,.r n,.i o,.b p,.b q,.r t,.r u,.r w,.r x]] [] [.sr,.sl,.sr,.bl] g1v js j s
def b5v (k:Nat) (a c d:Int) (e:LL) (f g h l m:Int) (n:LL) (o:Int) (p q:Bool) (t u w x:LL) (js:List Nat) (j:Nat) (s:St):OO:=IT_ k N.j7c [.v [.i a,.i c,.i d,.r e,.i f,.i g,.i h,.i l,.i m,.r n,.i o,.b p,.b q,.r t,.r u,.r w,.r x]] [] [.sr,.sl,.sr,.bl,.lp,.sr,.sr,.sl,.bl,.sr,.sr,.bl] g1u js j s
theorem g6r (k:Nat) (a c d:Int) (e:LL) (f g h l m:Int) (n:LL) (o:Int) (p q:Bool) (t u w x:LL):a0a E P0 (k+1) N.j7c [.v [.i a,.i c,.i d,.r e,.i f,.i g,.i h,.i l,.i m,.r n,.i o,.b p,.b q,.r t,.r u,.r w,.r x]]=c7h k a c d e f g h l m n o p q t u w x:=by
 have O:a0a E P0 (k+1) N.j7c [.v [.i a,.i c,.i d,.r e,.i f,.i g,.i h,.i l,.i m,.r n,.i o,.b p,.b q,.r t,.r u,.r w,.r x]]=c7g k a c d e f g h l m n o p q t u w x (fun v=>a5i k a c d e f g h l m n o p q t u w x [] k (a4z a c d e f g h l m n o p q t u w x v)):=by kernel_rfl
 have Q:∀ (y:Nat) (z:LL) (A B C D F:Int) (G:LL) (H:Int) (J:LL) (K L:Int) (M:Nat) (v:Int),b5v k a c d e f g h l m n o p q t u w x [y] (M+1) (b3f a c d e f g h l m n o p q t u w x z A B C D F G H J K L v)=a6e k a c d e f g h l m n o p q t u w x z A B C D F G H J K L (fun v=>a5i k a c d e f g h l m n o p q t u w x [] y (a4z a c d e f g h l m n o p q t u w x v)) (fun v=>b5v k a c d e f g h l m n o p q t u w x [y] M (b3f a c d e f g h l m n o p q t u w x z A B C D F G H J K L v)) v:=by
  intro y z A B C D F G H J K L M v;kernel_rfl
 have R:∀ (y:Nat) (z:LL) (A B C D F:Int) (G:LL) (H:Int) (J:LL) (K L:Int) (M:Nat) (v:Int),b5v k a c d e f g h l m n o p q t u w x [y] M (b3f a c d e f g h l m n o p q t u w x z A B C D F G H J K L v)=a1i (a6e k a c d e f g h l m n o p q t u w x z A B C D F G H J K L (fun v=>a5i k a c d e f g h l m n o p q t u w x [] y (a4z a c d e f g h l m n o p q t u w x v))) M v:=by
  intro y z A B C D F G H J K L M v;refine a1p (b3f a c d e f g h l m n o p q t u w x z A B C D F G H J K L) (a6e k a c d e f g h l m n o p q t u w x z A B C D F G H J K L (fun v=>a5i k a c d e f g h l m n o p q t u w x [] y (a4z a c d e f g h l m n o p q t u w x v))) (fun M v=>(Q y z A B C D F G H J K L M v).trans ?_) M v;unfold a6e;rfl
 have S:∀ (y:Nat) (v:Int),a5i k a c d e f g h l m n o p q t u w x [] (y+1) (a4z a c d e f g h l m n o p q t u w x v)=b8g k a c d e f g h l m n o p q t u w x (fun U V W X Y Z aa ab ac ad ae v=>b5v k a c d e f g h l m n o p q t u w x [y] k (b3f a c d e f g h l m n o p q t u w x U V W X Y Z aa ab ac ad ae v)) (fun v=>a5i k a c d e f g h l m n o p q t u w x [] y (a4z a c d e f g h l m n o p q t u w x v)) v:=by
  intro y v;kernel_rfl
 have af:∀ (y:Nat) (v:Int),a5i k a c d e f g h l m n o p q t u w x [] y (a4z a c d e f g h l m n o p q t u w x v)=a1i (a8s k a c d e f g h l m n o p q t u w x) y v:=by
  intro y v;refine a1p (a4z a c d e f g h l m n o p q t u w x) (a8s k a c d e f g h l m n o p q t u w x) (fun y v=>(S y v).trans ?_) y v;unfold a8s;simp only [R] <;> rfl
 rw [O];unfold c7h;simp only [af]
def b3g (k:Nat) (a c d:Int) (e:LL) (f g h l m:Int) (n:LL) (o:Int) (p q:Bool) (u w x y:LL) (z:Bool):OO:=
 bif z then
  a0f (a0a E P0 k N.j6p [.v [.i a,.i c,.i d,.r e,.i f,.i g,.i h,.i l,.i m,.r n,.i o,.b p,.b q]]) fun A=>
  bif (A.t 0).asB then
   a0f (a0a E P0 k N.j7c [.v [.i a,.i c,.i d,.r e,.i f,.i g,.i h,.i l,.i m,.r n,.i o,.b p,.b q,.r u,.r w,.r x,.r y]]) fun B=>
   some ⟨[.b (B.t 0).asB],[]⟩
  else
   some ⟨[.b false],[]⟩
 else
  some ⟨[.b false],[]⟩
def b8h (k:Nat) (l d e:Int) (m:LL) (n o p q u:Int) (w:LL) (x:Int) (y z:Bool) (f a g h:LL) (A:(Int)→OO):(Int)→OO:=fun c=>
 bif (decide (c<(a.length:Int))) then
  chk (decide (0≤c)&&decide (c<(a.length:Int))) <|
  a0f (a0a E P0 k N.k2d [.v [.i d,.i e],.v [.i (at_ a c.toNat 0).asI,.i (at_ a c.toNat 1).asI,.i (at_ a c.toNat 2).asI,.i (at_ a c.toNat 3).asI,.r (at_ a c.toNat 4).asR,.i (at_ a c.toNat 5).asI,.r (at_ a c.toNat 6).asR,.i (at_ a c.toNat 7).asI]]) fun B=>
  bif (!(B.t 0).asB) then some ⟨[.b false],[]⟩ else A (W64 (c+1))
 else
  bif (decide ((f.length:Int)≤8)) then
   bif (decide ((a.length:Int)≤4)) then
    bif (decide ((g.length:Int)≤8)) then
     b3g k l d e m n o p q u w x y z f a g h (decide ((h.length:Int)≤400))
    else
     b3g k l d e m n o p q u w x y z f a g h false
   else
    b3g k l d e m n o p q u w x y z f a g h false
  else
   b3g k l d e m n o p q u w x y z f a g h false
def g1w:List Nat:=[1,2,5,7,8,9,20,21,22,23,24,25,26,27,28,29,30,31,32,33,34,35,36,37,38,39,40,41,42,43,44,45,46,47,48,49,50,51]
def g1x (c d e:Int) (f:LL) (g h l m n:Int) (o:LL) (p:Int) (q r:Bool) (t a u w:LL):(Int)→St:=fun x=>⟨a3k [(1,.ptr (1,0) 0),(2,.b false),(5,.skip),(7,.sl 95 a),(8,.i .i64 (a.length:Int)),(9,.i .i64 x),(20,.skip),(21,.skip),(22,.skip),(23,.skip),(24,.skip),(25,.skip),(26,.skip),(27,.skip),(28,.skip),(29,.skip),(30,.skip),(31,.skip),(32,.skip),(33,.skip),(34,.skip),(35,.skip),(36,.skip),(37,.skip),(38,.skip),(39,.skip),(40,.skip),(41,.skip),(42,.skip),(43,.skip),(44,.skip),(45,.skip),(46,.skip),(47,.skip),(48,.skip),(49,.skip),(50,.skip),(51,.skip)],a1e [((1,0),.var [.i .i64 c,.i .i64 d,.i .i64 e,.sl 134 f,.i .i64 g,.i .i64 h,.i .i64 l,.i .i64 m,.i .i64 n,.sl 136 o,.i .i64 p,.b q,.b r,.sl 92 t,.sl 95 a,.sl 96 u,.sl 99 w])]⟩
def c7i (k:Nat) (b c d:Int) (e:LL) (f g h i l:Int) (m:LL) (n:Int) (o p:Bool) (q r t u:LL) (a:(Int)→OO):OO:=
 a 0
def e1g (k:Nat) (a b c:Int) (d:LL) (e f g h i:Int) (l:LL) (m:Int) (n o:Bool) (p q r t:LL):OO:=
 c7i k a b c d e f g h i l m n o p q r t (fun v=>a1i (b8h k a b c d e f g h i l m n o p q r t) k v)
theorem g6s (k:Nat) (a c d:Int) (e:LL) (f g h l m:Int) (n:LL) (o:Int) (p q:Bool) (t u w x:LL):a0a E P0 (k+1) N.j7y [.v [.i a,.i c,.i d,.r e,.i f,.i g,.i h,.i l,.i m,.r n,.i o,.b p,.b q,.r t,.r u,.r w,.r x]]=e1g k a c d e f g h l m n o p q t u w x:=a1y [] [.sr,.sl,.sr,.bl] g1w (c7i k a c d e f g h l m n o p q t u w x) (g1x a c d e f g h l m n o p q t u w x) (b8h k a c d e f g h l m n o p q t u w x) (by kernel_rfl) (fun j v=>by kernel_rfl)
def a3n (k:Nat) (q g h:Int) (u:LL) (w x y z A:Int) (B:LL) (C:Int) (D F:Bool) (d f l m:LL) (c:Int) (e:LL) (n:Int) (o:(Int)→OO):(Int)→OO:=fun a=>
 bif (decide (a<n)) then
  chk (decide (0≤a)&&decide (a<(e.length:Int))) <|
  chk (decide (0≤c)&&decide (c<(d.length:Int))) <|
  a0f (a0a E P0 k N.j7x [.v [.i g,.i h],.v [.i (at_ d c.toNat 0).asI,.i (at_ d c.toNat 1).asI,.i (at_ d c.toNat 2).asI,.i (at_ d c.toNat 3).asI,.r (at_ d c.toNat 4).asR],.v [.i (at_ e a.toNat 0).asI,.i (at_ e a.toNat 1).asI,.i (at_ e a.toNat 2).asI,.i (at_ e a.toNat 3).asI,.r (at_ e a.toNat 4).asR]]) fun p=>
  bif (p.t 0).asB then some ⟨[.b false],[]⟩ else o (W64 (a+1))
 else
  bif (decide ((f.length:Int)<4)) then
   bif (decide ((W64 ((l.length:Int)+(f.length:Int)))<8)) then
    some ⟨[.b (decide ((W64 ((m.length:Int)+(f.length:Int)))<400))],[]⟩
   else
    some ⟨[.b false],[]⟩
  else
   some ⟨[.b false],[]⟩
def e2k:List Nat:=[1,2,4,9,44,45,46,61,62,63,64,65,66,67,68,69,70,71,72,73,74,75,76,77,78,79,80,81]
def a6n (a c d:Int) (e:LL) (f g h l m:Int) (n:LL) (o:Int) (p q:Bool) (r t u w:LL) (x:Int) (y:LL) (z:Int):(Int)→St:=fun A=>⟨a3k [(1,.i .i64 x),(2,.ptr (2,0) 0),(4,.b false),(9,.skip),(44,.sl 92 y),(45,.i .i64 z),(46,.i .i64 A),(61,.skip),(62,.skip),(63,.skip),(64,.skip),(65,.skip),(66,.skip),(67,.skip),(68,.skip),(69,.skip),(70,.skip),(71,.skip),(72,.skip),(73,.skip),(74,.skip),(75,.skip),(76,.skip),(77,.skip),(78,.skip),(79,.skip),(80,.skip),(81,.skip)],a1e [((2,0),.var [.i .i64 a,.i .i64 c,.i .i64 d,.sl 134 e,.i .i64 f,.i .i64 g,.i .i64 h,.i .i64 l,.i .i64 m,.sl 136 n,.i .i64 o,.b p,.b q,.sl 92 r,.sl 95 t,.sl 96 u,.sl 99 w])]⟩
def b0l (k:Nat) (n f g:Int) (o:LL) (p q u w x:Int) (y:LL) (z:Int) (A B:Bool) (c e C D:LL) (a:Int) (h:LL→Int→(Int)→OO) (l:(Int)→OO):(Int)→OO:=fun d=>
 bif (decide (d<(e.length:Int))) then
  chk (decide (0≤d)&&decide (d<(e.length:Int))) <|
  chk (decide (0≤a)&&decide (a<(c.length:Int))) <|
  a0f (a0a E P0 k N.j7x [.v [.i f,.i g],.v [.i (at_ c a.toNat 0).asI,.i (at_ c a.toNat 1).asI,.i (at_ c a.toNat 2).asI,.i (at_ c a.toNat 3).asI,.r (at_ c a.toNat 4).asR],.v [.i (at_ e d.toNat 0).asI,.i (at_ e d.toNat 1).asI,.i (at_ e d.toNat 2).asI,.i (at_ e d.toNat 3).asI,.r (at_ e d.toNat 4).asR]]) fun m=>
  bif (m.t 0).asB then some ⟨[.b false],[]⟩ else l (W64 (d+1))
 else
  chk (decide (0≤0)&&decide (0≤a)&&decide (a≤(c.length:Int))) <|
  h ((c.drop (0:Int).toNat).take (a.toNat - (0:Int).toNat)) (((c.drop (0:Int).toNat).take (a.toNat - (0:Int).toNat)).length:Int) 0
def e2l:List Nat:=[1,2,4,8,9,23,24,25,41,42,43,44,45,46,47,48,49,50,51,52,53,54,55,56,57,58,59,60,61,62,63,64,65,66,67,68,69,70,71,72,73,74,75,76,77,78,79,80,81]
def a6o (c d e:Int) (f:LL) (g h l m n:Int) (o:LL) (p:Int) (q r:Bool) (t a u w:LL) (x:Int):(Int)→St:=fun y=>⟨a3k [(1,.i .i64 x),(2,.ptr (2,0) 0),(4,.b false),(8,.skip),(9,.skip),(23,.sl 95 a),(24,.i .i64 (a.length:Int)),(25,.i .i64 y),(41,.skip),(42,.skip),(43,.skip),(44,.skip),(45,.skip),(46,.skip),(47,.skip),(48,.skip),(49,.skip),(50,.skip),(51,.skip),(52,.skip),(53,.skip),(54,.skip),(55,.skip),(56,.skip),(57,.skip),(58,.skip),(59,.skip),(60,.skip),(61,.skip),(62,.skip),(63,.skip),(64,.skip),(65,.skip),(66,.skip),(67,.skip),(68,.skip),(69,.skip),(70,.skip),(71,.skip),(72,.skip),(73,.skip),(74,.skip),(75,.skip),(76,.skip),(77,.skip),(78,.skip),(79,.skip),(80,.skip),(81,.skip)],a1e [((2,0),.var [.i .i64 c,.i .i64 d,.i .i64 e,.sl 134 f,.i .i64 g,.i .i64 h,.i .i64 l,.i .i64 m,.i .i64 n,.sl 136 o,.i .i64 p,.b q,.b r,.sl 92 t,.sl 95 a,.sl 96 u,.sl 99 w])]⟩
def b6u (k:Nat) (a:(Int)→OO) (c:Bool):OO:=
 bif c then some ⟨[.b false],[]⟩ else a 0
def a4t (k:Nat) (a b c:Int) (d:LL) (e f g h i:Int) (l:LL) (m:Int) (n o:Bool) (p q r t:LL) (u:Int) (w:(Int)→OO):(Int)→OO:=
 b0l k a b c d e f g h i l m n o p q r t u (fun x y v=>a1i (a3n k a b c d e f g h i l m n o p q r t u x y) k v) w
def b9c (k:Nat) (d e f:Int) (g:LL) (h l m n o:Int) (p:LL) (q:Int) (u w:Bool) (a x y z:LL) (A:Int) (c:(Int)→OO):OO:=
 a0f (a0a E P0 k N.j7y [.v [.i d,.i e,.i f,.r g,.i h,.i l,.i m,.i n,.i o,.r p,.i q,.b u,.b w,.r a,.r x,.r y,.r z]]) fun B=>
 bif (!(B.t 0).asB) then
  b6u k c true
 else
  a0f (a0a E P0 k N.j5m [.v [.i A],.v [.i 0],.v [.i (W64 ((a.length:Int) - 1))]]) fun C=>
  b6u k c (!(C.t 0).asB)
def b9d (k:Nat) (a b c:Int) (d:LL) (e f g h i:Int) (l:LL) (m:Int) (n o:Bool) (p q r t:LL) (u:Int):OO:=
 b9c k a b c d e f g h i l m n o p q r t u (fun v=>a1i (a4t k a b c d e f g h i l m n o p q r t u) k v)
def a8t (k:Nat) (a c d:Int) (e:LL) (f g h l m:Int) (n:LL) (o:Int) (p q:Bool) (t u w x:LL) (y:Int) (js:List Nat) (j:Nat) (s:St):OO:=IT_ k N.j6q [.v [.i a,.i c,.i d,.r e,.i f,.i g,.i h,.i l,.i m,.r n,.i o,.b p,.b q,.r t,.r u,.r w,.r x],.v [.i y]] [] [.sr,.sr,.sl,.sr,.bl] e2l js j s
def a8u (k:Nat) (a c d:Int) (e:LL) (f g h l m:Int) (n:LL) (o:Int) (p q:Bool) (t u w x:LL) (y:Int) (js:List Nat) (j:Nat) (s:St):OO:=IT_ k N.j6q [.v [.i a,.i c,.i d,.r e,.i f,.i g,.i h,.i l,.i m,.r n,.i o,.b p,.b q,.r t,.r u,.r w,.r x],.v [.i y]] [] [.sr,.sr,.sr,.sl,.sr,.bl] e2k js j s
theorem e8v (k:Nat) (a c d:Int) (e:LL) (f g h l m:Int) (n:LL) (o:Int) (p q:Bool) (t u w x:LL) (y:Int):a0a E P0 (k+1) N.j6q [.v [.i a,.i c,.i d,.r e,.i f,.i g,.i h,.i l,.i m,.r n,.i o,.b p,.b q,.r t,.r u,.r w,.r x],.v [.i y]]=b9d k a c d e f g h l m n o p q t u w x y:=by
 have D:a0a E P0 (k+1) N.j6q [.v [.i a,.i c,.i d,.r e,.i f,.i g,.i h,.i l,.i m,.r n,.i o,.b p,.b q,.r t,.r u,.r w,.r x],.v [.i y]]=b9c k a c d e f g h l m n o p q t u w x y (fun v=>a8t k a c d e f g h l m n o p q t u w x y [] k (a6o a c d e f g h l m n o p q t u w x y v)):=by kernel_rfl
 have F:∀ (z:LL) (A:Int) (B:Nat) (v:Int),a8u k a c d e f g h l m n o p q t u w x y [] (B+1) (a6n a c d e f g h l m n o p q t u w x y z A v)=a3n k a c d e f g h l m n o p q t u w x y z A (fun v=>a8u k a c d e f g h l m n o p q t u w x y [] B (a6n a c d e f g h l m n o p q t u w x y z A v)) v:=by
  intro z A B v;kernel_rfl
 have G:∀ (z:LL) (A:Int) (B:Nat) (v:Int),a8u k a c d e f g h l m n o p q t u w x y [] B (a6n a c d e f g h l m n o p q t u w x y z A v)=a1i (a3n k a c d e f g h l m n o p q t u w x y z A) B v:=by
  intro z A B v;refine a1p (a6n a c d e f g h l m n o p q t u w x y z A) (a3n k a c d e f g h l m n o p q t u w x y z A) (fun B v=>(F z A B v).trans ?_) B v;unfold a3n;rfl
 have H:∀ (C:Nat) (v:Int),a8t k a c d e f g h l m n o p q t u w x y [] (C+1) (a6o a c d e f g h l m n o p q t u w x y v)=b0l k a c d e f g h l m n o p q t u w x y (fun J K v=>a8u k a c d e f g h l m n o p q t u w x y [] k (a6n a c d e f g h l m n o p q t u w x y J K v)) (fun v=>a8t k a c d e f g h l m n o p q t u w x y [] C (a6o a c d e f g h l m n o p q t u w x y v)) v:=by
  intro C v;kernel_rfl
 have L:∀ (C:Nat) (v:Int),a8t k a c d e f g h l m n o p q t u w x y [] C (a6o a c d e f g h l m n o p q t u w x y v)=a1i (a4t k a c d e f g h l m n o p q t u w x y) C v:=by
  intro C v;refine a1p (a6o a c d e f g h l m n o p q t u w x y) (a4t k a c d e f g h l m n o p q t u w x y) (fun C v=>(H C v).trans ?_) C v;unfold a4t;simp only [G] <;> rfl
 rw [D];unfold b9d;simp only [L]
def a7e (k:Nat) (d e f:Int) (g:LL) (h l m n o:Int) (p:LL) (q:Int) (u w:Bool) (c x y z:LL) (A:(Int)→OO):(Int)→OO:=fun a=>
 bif (decide (a<(c.length:Int))) then
  a0f (a0a E P0 k N.j6q [.v [.i d,.i e,.i f,.r g,.i h,.i l,.i m,.i n,.i o,.r p,.i q,.b u,.b w,.r c,.r x,.r y,.r z],.v [.i a]]) fun B=>
  bif (B.t 0).asB then some ⟨[.i a],[]⟩ else A (W64 (a+1))
 else
  some ⟨[.i (-1)],[]⟩
def d5t:List Nat:=[1,2,6,7]
def d5u (c d e:Int) (f:LL) (g h l m n:Int) (o:LL) (p:Int) (q r:Bool) (a t u w:LL):(Int)→St:=fun x=>⟨a3k [(1,.ptr (1,0) 0),(2,.i .i64 0),(6,.i .i64 (a.length:Int)),(7,.i .i64 x)],a1e [((1,0),.var [.i .i64 c,.i .i64 d,.i .i64 e,.sl 134 f,.i .i64 g,.i .i64 h,.i .i64 l,.i .i64 m,.i .i64 n,.sl 136 o,.i .i64 p,.b q,.b r,.sl 92 a,.sl 95 t,.sl 96 u,.sl 99 w])]⟩
def b4l (k:Nat) (b c d:Int) (e:LL) (f g h i l:Int) (m:LL) (n:Int) (o p:Bool) (q r t u:LL) (a:(Int)→OO):OO:=
 a 0
def c2s (k:Nat) (a b c:Int) (d:LL) (e f g h i:Int) (l:LL) (m:Int) (n o:Bool) (p q r t:LL):OO:=
 b4l k a b c d e f g h i l m n o p q r t (fun v=>a1i (a7e k a b c d e f g h i l m n o p q r t) k v)
theorem d8i (k:Nat) (a c d:Int) (e:LL) (f g h l m:Int) (n:LL) (o:Int) (p q:Bool) (t u w x:LL):a0a E P0 (k+1) N.k2g [.v [.i a,.i c,.i d,.r e,.i f,.i g,.i h,.i l,.i m,.r n,.i o,.b p,.b q,.r t,.r u,.r w,.r x]]=c2s k a c d e f g h l m n o p q t u w x:=a1y [] [.sr,.sl,.sr,.bl] d5t (b4l k a c d e f g h l m n o p q t u w x) (d5u a c d e f g h l m n o p q t u w x) (a7e k a c d e f g h l m n o p q t u w x) (by kernel_rfl) (fun j v=>by kernel_rfl)
def c7j (k:Nat) (a c d:Int):OO:=
 a0f (a0a E P0 k N.j7t [.v [.i a,.i c]]) fun e=>
 a0f (a0a E P0 k N.j5m [.v [.i d],.v [.i 0],.v [.i (W64 ((e.t 0).asI - 1))]]) fun f=>
 some ⟨[.b (f.t 0).asB],[]⟩
theorem e8w (k:Nat) (a b c:Int):a0a E P0 (k+1) N.j7z [.v [.i a,.i b],.v [.i c]]=c7j k a b c:=by kernel_rfl
def c7k (k:Nat) (a c b:Int):OO:=
 a0f (a0a E P0 k N.j7z [.v [.i a,.i c],.v [.i b]]) fun d=>
 bif (!(d.t 0).asB) then
  some ⟨[.i (-1)],[]⟩
 else
  chk (!decide ((W64 (a - 1))=0)) <|
  some ⟨[.i (W64 (Int.tdiv b (W64 (a - 1))))],[]⟩
theorem e8x (k:Nat) (a b c:Int):a0a E P0 (k+1) N.j7d [.v [.i a,.i b],.v [.i c]]=c7k k a b c:=by kernel_rfl
def c5h (k:Nat) (a b d e f g:Int) (h:LL):OO:=
 a0f (a0a E P0 k N.j7w [.v [.i a,.i b],.v [.i d,.i e,.i f,.i g,.r h]]) fun c=>
 a0f (a0a E P0 k N.j7d [.v [.i a,.i b],.v [.i (c.t 0).asI]]) fun l=>
 a0f (a0a E P0 k N.j7d [.v [.i a,.i b],.v [.i (W64 ((c.t 1).asI - 1))]]) fun m=>
 some ⟨[.i (l.t 0).asI,.i (m.t 0).asI],[]⟩
theorem e2m (k:Nat) (a b c d e f:Int) (g:LL):a0a E P0 (k+1) N.j8a [.v [.i a,.i b],.v [.i c,.i d,.i e,.i f,.r g]]=c5h k a b c d e f g:=by kernel_rfl
def d1a (k:Nat) (g f a b c d:Int) (e:LL):OO:=
 a0f (a0a E P0 k N.j7a [.v [.i g,.i f],.v [.i a,.i b,.i c,.i d,.r e]]) fun l=>
 bif ((l.t 0).asI != 0) then
  some ⟨[.i 0],[]⟩
 else
  bif (a == 3) then
   a0f (a0a E P0 k N.j8a [.v [.i g,.i f],.v [.i a,.i b,.i c,.i d,.r e]]) fun h=>
   a0f (a0a E P0 k N.j6z [.v [.i a,.i b,.i c,.i d,.r e]]) fun m=>
   some ⟨[.i (W64 ((W64 ((W64 ((m.t 0).asI+(h.t 1).asI)) - (h.t 0).asI))+2))],[]⟩
  else
   bif (a == 4) then
    some ⟨[.i (W64 (f+1))],[]⟩
   else
    a0f (a0a E P0 k N.j6z [.v [.i a,.i b,.i c,.i d,.r e]]) fun n=>
    some ⟨[.i (W64 ((n.t 0).asI+1))],[]⟩
theorem f4k (k:Nat) (a b c d e f:Int) (g:LL):a0a E P0 (k+1) N.j9e [.v [.i a,.i b],.v [.i c,.i d,.i e,.i f,.r g]]=d1a k a b c d e f g:=by kernel_rfl
def c5i (k:Nat) (e a c:Int) (f:LL) (g h l m n:Int) (o:LL) (p:Int) (d q:Bool) (u:Int):OO:=
 a0f (a0a E P0 k N.j6p [.v [.i e,.i a,.i c,.r f,.i g,.i h,.i l,.i m,.i n,.r o,.i p,.b d,.b q]]) fun w=>
 bif (!(w.t 0).asB) then
  some ⟨[.i 1],[]⟩
 else
  bif d then
   some ⟨[.i 6],[]⟩
  else
   a0f (a0a E P0 k N.j7z [.v [.i a,.i c],.v [.i u]]) fun x=>
   bif (!(x.t 0).asB) then some ⟨[.i 2],[]⟩ else some ⟨[.i 0],[]⟩
theorem e2n (k:Nat) (a c d:Int) (e:LL) (f g h l m:Int) (n:LL) (o:Int) (p q:Bool) (t:Int):a0a E P0 (k+1) N.j9f [.v [.i a,.i c,.i d,.r e,.i f,.i g,.i h,.i l,.i m,.r n,.i o,.b p,.b q],.v [.i t]]=c5i k a c d e f g h l m n o p q t:=by kernel_rfl
def d1b (k:Nat) (c:Int) (d:LL) (a:Int):OO:=
 some ⟨[.b (c == a)],[[.i a]]⟩
theorem f4l (k:Nat) (a:Int) (b:LL) (c:Int):a0a E P0 (k+1) N.j7e [.v [.i a,.r b],.p [.i c]]=d1b k a b c:=by kernel_rfl
def a1x (k:Nat) (b:LL) (e:(V1_)→OO):(V1_)→OO:=fun (a,d)=>
 bif (decide (a<(b.length:Int))) then
  chk (decide (0≤a)&&decide (a<(b.length:Int))) <|
  a0f (a0a E P0 k N.j7e [.v [.i (at_ b a.toNat 0).asI,.r (at_ b a.toNat 1).asR],.p [.i d]]) fun c=>
  bif (c.t 0).asB then
   some ⟨[.i a],[[.i (c.vt 0 0).asI]]⟩
  else
   e ((W64 (a+1)),(c.vt 0 0).asI)
 else
  some ⟨[.i (-1)],[[.i d]]⟩
def a9e:List Nat:=[0,1,4,7,8]
def a9f (a:LL):(V1_)→St:=fun (b,c)=>⟨a3k [(0,.sl 136 a),(1,.clo N.j7e (some (1,0))),(4,.i .i64 0),(7,.i .i64 (a.length:Int)),(8,.i .i64 b)],a1e [((1,0),.var [.i .i64 c])]⟩
def a2w (k:Nat) (c:LL) (a:Int) (b:(V1_)→OO):OO:=
 b (0,a)
def a4a (k:Nat) (a:LL) (b:Int):OO:=
 a2w k a b (fun v=>a1i (a1x k a) k v)
theorem a9r (k:Nat) (a:LL) (d:Int):a0a E P0 (k+1) N.k2h [.v [.r a],.c N.j7e (some [.i d])]=a4a k a d:=a1y [1] [.sr,.sl,.sr,.bl] a9e (a2w k a d) (a9f a) (a1x k a) (by kernel_rfl) (fun j v=>by kernel_rfl)
def e1h (k:Nat) (e f g:Int) (h:LL) (l m n o p:Int) (a:LL) (q:Int) (u w:Bool) (b:Int):OO:=
 a0f (a0a E P0 k N.k2h [.v [.r a],.c N.j7e (some [.i b])]) fun d=>
 some ⟨[.i (d.t 0).asI],[]⟩
theorem g6t (k:Nat) (a c d:Int) (e:LL) (f g h l m:Int) (n:LL) (o:Int) (p q:Bool) (t:Int):a0a E P0 (k+1) N.j9g [.v [.i a,.i c,.i d,.r e,.i f,.i g,.i h,.i l,.i m,.r n,.i o,.b p,.b q],.v [.i t]]=e1h k a c d e f g h l m n o p q t:=by kernel_rfl
def d5v (k:Nat) (a:Int):OO:=
 a0f (a0a E P0 k N.j5m [.v [.i a],.v [.i 0],.v [.i 1099511627776]]) fun b=>
 bif (!(b.t 0).asB) then
  some ⟨[.i (-1)],[]⟩
 else
  some ⟨[.i (W64 ((W64 (a+2))+4))],[]⟩
theorem g1y (k:Nat) (a:Int):a0a E P0 (k+1) N.j9h [.v [.i a]]=d5v k a:=by kernel_rfl
def a3y (k:Nat) (b:LL) (c:Int) (d:(Int)→OO):(Int)→OO:=fun a=>
 bif (decide (a<(b.length:Int))) then
  chk (decide (0≤a)&&decide (a<(b.length:Int))) <|
  bif (c == (at_ b a.toNat 0).asI) then some ⟨[.i a],[]⟩ else d (W64 (a+1))
 else
  some ⟨[.i (-1)],[]⟩
def c4i:List Nat:=[0,1,4,7,8]
def c4j (a:LL) (b:Int):(Int)→St:=fun c=>⟨a3k [(0,.sl 3 a),(1,.i .i64 b),(4,.i .i64 0),(7,.i .i64 (a.length:Int)),(8,.i .i64 c)],a1e []⟩
def a7b (k:Nat) (b:LL) (c:Int) (a:(Int)→OO):OO:=
 a 0
def b4f (k:Nat) (a:LL) (b:Int):OO:=
 a7b k a b (fun v=>a1i (a3y k a b) k v)
theorem c5t (k:Nat) (a:LL) (c:Int):a0a E P0 (k+1) N.k2i [.v [.r a],.v [.i c]]=b4f k a c:=a1y [] [.sr,.sl,.sr,.bl] c4i (a7b k a c) (c4j a c) (a3y k a c) (by kernel_rfl) (fun j v=>by kernel_rfl)
def a9s (k:Nat) (a:LL) (c:Int):OO:=
 a0f (a0a E P0 k N.k2i [.v [.r a],.v [.i c]]) fun d=>
 some ⟨[.b (decide ((d.t 0).asI≥0))],[]⟩
theorem c1w (k:Nat) (a:LL) (b:Int):a0a E P0 (k+1) N.k2j [.v [.r a],.v [.i b]]=a9s k a b:=by kernel_rfl
def b3h (k:Nat) (c:LL) (f:Int) (d:(V5_)→OO):(V5_)→OO:=fun (e,a)=>
 bif (decide (a<(c.length:Int))) then
  chk (decide (0≤a)&&decide (a<(c.length:Int))) <|
  bif ((at_ c a.toNat 0).asI == f) then
   d ((at_ c a.toNat 1).asR,(W64 (a+1)))
  else
   d (e,(W64 (a+1)))
 else
  a0f (a0a E P0 k N.j5n [.v [.r e]]) fun g=>
  some ⟨[.r (g.t 0).asR,.b true],[]⟩
def e8y:List Nat:=[1,4,5,6,34,35,36,47,48]
def e8z (a:LL) (c:Int):(V5_)→St:=fun (d,e)=>⟨a3k [(1,.i .i64 c),(4,.ref (4,0)),(5,.b false),(6,.sl 3 d),(34,.sl 157 a),(35,.i .i64 (a.length:Int)),(36,.i .i64 e),(47,.skip),(48,.skip)],a1e [((4,0),.row 3 true [])]⟩
def a8d (k:Nat) (c:LL) (a:Int) (d:(V5_)→OO) (e:Bool):OO:=
 bif e then
  some ⟨[.r [],.b false],[]⟩
 else
  chk (decide (0≤a)&&decide (a<(c.length:Int))) <|
  d ((at_ c a.toNat 0).asR,0)
def c1x (k:Nat) (a g:LL) (e:Bool) (f:LL) (c:Int) (d:(V5_)→OO):OO:=
 a0f (a0a E P0 k N.j5y [.v [.r a,.r g,.b e,.r f]]) fun h=>
 bif (!(h.t 0).asB) then
  a8d k a c d true
 else
  bif e then
   a8d k a c d true
  else
   a0f (a0a E P0 k N.j7b [.v [.r a,.r g,.b e,.r f],.v [.i c]]) fun l=>
   bif (!(l.t 0).asB) then
    a8d k a c d true
   else
    a0f (a0a E P0 k N.k2j [.v [.r f],.v [.i c]]) fun m=>
    a8d k a c d ((m.t 0).asB)
def d1c (k:Nat) (c a:LL) (d:Bool) (e:LL) (b:Int):OO:=
 c1x k c a d e b (fun v=>a1i (b3h k a b) k v)
theorem f4m (k:Nat) (d a:LL) (e:Bool) (f:LL) (c:Int):a0a E P0 (k+1) N.k2k [.v [.r d,.r a,.b e,.r f],.v [.i c]]=d1c k d a e f c:=a1y [] [.sr,.sr,.sr,.sl,.sr,.bl] e8y (c1x k d a e f c) (e8z a c) (b3h k a c) (by kernel_rfl) (fun j v=>by kernel_rfl)
def d5w (k:Nat) (h l m:Int) (c:LL) (d e n o p:Int) (q:LL) (r:Int) (u w:Bool) (a f:Int):OO:=
 a0f (a0a E P0 k N.j5m [.v [.i a],.v [.i 0],.v [.i (W64 ((c.length:Int) - 1))]]) fun g=>
 bif (g.t 0).asB then
  chk (decide (0≤a)&&decide (a<(c.length:Int))) <|
  bif (!(at_ c a.toNat 2).asB) then
   bif (d != a) then some ⟨[.b true],[]⟩ else some ⟨[.b (decide (f<e))],[]⟩
  else
   some ⟨[.b false],[]⟩
 else
  some ⟨[.b false],[]⟩
theorem g1z (k:Nat) (a c d:Int) (e:LL) (f g h l m:Int) (n:LL) (o:Int) (p q:Bool) (t u:Int):a0a E P0 (k+1) N.j9i [.v [.i a,.i c,.i d,.r e,.i f,.i g,.i h,.i l,.i m,.r n,.i o,.b p,.b q],.v [.i t],.v [.i u]]=d5w k a c d e f g h l m n o p q t u:=by kernel_rfl
def b5w (k:Nat) (a:Outs) (c:Bool):OO:=
 bif c then
  some ⟨[.i 0,.b false],[]⟩
 else
  chk (decide ((0:Int)<((a.t 0).asR.length:Int))) <|
  some ⟨[.i (at_ (a.t 0).asR 0 0).asI,.b true],[]⟩
def d5x (k:Nat) (f g h:Int) (c:LL) (l m n o p:Int) (q:LL) (u:Int) (w x:Bool) (a e:Int):OO:=
 chk (decide (0≤a)&&decide (a<(c.length:Int))) <|
 a0f (a0a E P0 k N.j9h [.v [.i e]]) fun y=>
 a0f (a0a E P0 k N.k2k [.v [.r (at_ c a.toNat 0).asR,.r (at_ c a.toNat 1).asR,.b (at_ c a.toNat 2).asB,.r (at_ c a.toNat 3).asR],.v [.i (y.t 0).asI]]) fun d=>
 a0f (a0a E P0 k N.j9i [.v [.i f,.i g,.i h,.r c,.i l,.i m,.i n,.i o,.i p,.r q,.i u,.b w,.b x],.v [.i a],.v [.i e]]) fun z=>
 bif (!(z.t 0).asB) then
  b5w k d true
 else
  bif (!(d.t 1).asB) then b5w k d true else b5w k d (((d.t 0).asR.length:Int) != 1)
theorem g2a (k:Nat) (a c d:Int) (e:LL) (f g h l m:Int) (n:LL) (o:Int) (p q:Bool) (t u:Int):a0a E P0 (k+1) N.k2l [.v [.i a,.i c,.i d,.r e,.i f,.i g,.i h,.i l,.i m,.r n,.i o,.b p,.b q],.v [.i t],.v [.i u]]=d5x k a c d e f g h l m n o p q t u:=by kernel_rfl
def b8i (k:Nat) (b:LL) (d:(V1_)→OO):(V1_)→OO:=fun (c,a)=>
 bif (decide (a<(b.length:Int))) then
  chk (decide (0≤a)&&decide (a<(b.length:Int))) <|
  d ((c5z .i64 c (at_ b a.toNat 0).asI),(W64 (a+1)))
 else
  some ⟨[.i c],[]⟩
def g2b:List Nat:=[2,3,6,7,8,16]
def g2c (a:LL):(V1_)→St:=fun (b,c)=>⟨a3k [(2,.i .i64 0),(3,.i .i64 b),(6,.sl 3 a),(7,.i .i64 (a.length:Int)),(8,.i .i64 c),(16,.skip)],a1e []⟩
def c7l (k:Nat) (b:LL) (a:(V1_)→OO):OO:=
 a (0,0)
def e1i (k:Nat) (a:LL):OO:=
 c7l k a (fun v=>a1i (b8i k a) k v)
theorem g6u (k:Nat) (a:LL):a0a E P0 (k+1) N.j9j [.v [.r a]]=e1i k a:=a1y [] [.sr,.sr,.sl,.sr,.bl] g2b (c7l k a) (g2c a) (b8i k a) (by kernel_rfl) (fun j v=>by kernel_rfl)
def c0q (k:Nat) (a:LL) (b:Int):OO:=
 a0f (a0a E P0 k N.j9j [.v [.r a]]) fun c=>
 a0f (a0a E P0 k N.j5m [.v [.i b],.v [.i 0],.v [.i (W64 ((a.length:Int) - 1))]]) fun d=>
 bif (d.t 0).asB then
  chk (decide (0≤b)&&decide (b<(a.length:Int))) <|
  some ⟨[.i (c5z .i64 (c.t 0).asI (at_ a b.toNat 0).asI)],[]⟩
 else
  some ⟨[.i (c.t 0).asI],[]⟩
theorem d5y (k:Nat) (a:LL) (b:Int):a0a E P0 (k+1) N.k2m [.v [.r a],.v [.i b]]=c0q k a b:=by kernel_rfl
def c4k (k:Nat) (a:Outs) (f d:Int) (c:LL) (e:(V2_)→OO) (g:Bool):OO:=
 bif g then
  some ⟨[.r [],.b false],[]⟩
 else
  bif (!(a.t 1).asB) then
   chk (decide ((c.length+([[.i (a.t 0).asI]]:LL).length)*8≤140737488355328)) <|
   e (d,(W64 (d+1)),(c++([[.i (a.t 0).asI]]:LL)))
  else
   chk (decide ((c.length+([[.i (a.t 0).asI]]:LL).length)*8≤140737488355328)) <|
   e (f,(W64 (d+1)),(c++([[.i (a.t 0).asI]]:LL)))
def b3i (k:Nat) (h l m:Int) (f:LL) (n o p q u:Int) (w:LL) (x:Int) (y z:Bool) (A:Int) (g:(V2_)→OO):(V2_)→OO:=fun (a,d,c)=>
 bif (decide (d<(f.length:Int))) then
  a0f (a0a E P0 k N.k2l [.v [.i h,.i l,.i m,.r f,.i n,.i o,.i p,.i q,.i u,.r w,.i x,.b y,.b z],.v [.i d],.v [.i A]]) fun e=>
  bif (!(e.t 1).asB) then
   c4k k e a d c g (decide (a≥0))
  else
   c4k k e a d c g false
 else
  bif (decide (a≥0)) then
   a0f (a0a E P0 k N.k2m [.v [.r c],.v [.i a]]) fun B=>
   chk (decide (0≤a)&&decide (a<(c.length:Int))) <|
   some ⟨[.r (a0x c a.toNat 0 [.i (B.t 0).asI]),.b true],[]⟩
  else
   some ⟨[.r c,.b true],[]⟩
def g2d:List Nat:=[1,2,4,5,6,7,28,29,53,54,55,56,57,58,59,60,61]
def g2e (c d e:Int) (a:LL) (f g h l m:Int) (n:LL) (o:Int) (p q:Bool) (r:Int):(V2_)→St:=fun (t,u,w)=>⟨a3k [(1,.i .i64 r),(2,.ptr (2,0) 0),(4,.ref (4,0)),(5,.b false),(6,.ref (6,0)),(7,.i .i64 t),(28,.i .i64 (a.length:Int)),(29,.i .i64 u),(53,.skip),(54,.skip),(55,.skip),(56,.skip),(57,.skip),(58,.skip),(59,.skip),(60,.skip),(61,.skip)],a1e [((2,0),.var [.i .i64 c,.i .i64 d,.i .i64 e,.sl 134 a,.i .i64 f,.i .i64 g,.i .i64 h,.i .i64 l,.i .i64 m,.sl 136 n,.i .i64 o,.b p,.b q]),((4,0),.row 3 true []),((6,0),.row 3 true w)]⟩
def b8j (k:Nat) (a:(V2_)→OO) (c:Bool):OO:=
 bif c then some ⟨[.r [],.b false],[]⟩ else a ((-1),0,[])
def c7m (k:Nat) (f c d:Int) (g:LL) (h l m n o:Int) (p:LL) (q:Int) (u e:Bool) (w:Int) (a:(V2_)→OO):OO:=
 a0f (a0a E P0 k N.j6p [.v [.i f,.i c,.i d,.r g,.i h,.i l,.i m,.i n,.i o,.r p,.i q,.b u,.b e]]) fun x=>
 bif (!(x.t 0).asB) then
  b8j k a true
 else
  bif e then
   b8j k a true
  else
   a0f (a0a E P0 k N.j6k [.v [.i c,.i d],.v [.i w]]) fun y=>
   b8j k a (!(y.t 0).asB)
def e1j (k:Nat) (a b c:Int) (d:LL) (e f g h i:Int) (l:LL) (m:Int) (n o:Bool) (p:Int):OO:=
 c7m k a b c d e f g h i l m n o p (fun v=>a1i (b3i k a b c d e f g h i l m n o p) k v)
theorem g6v (k:Nat) (a c d:Int) (e:LL) (f g h l m:Int) (n:LL) (o:Int) (p q:Bool) (t:Int):a0a E P0 (k+1) N.k2n [.v [.i a,.i c,.i d,.r e,.i f,.i g,.i h,.i l,.i m,.r n,.i o,.b p,.b q],.v [.i t]]=e1j k a c d e f g h l m n o p q t:=a1y [] [.sr,.sr,.sr,.sr,.sl,.sr,.bl] g2d (c7m k a c d e f g h l m n o p q t) (g2e a c d e f g h l m n o p q t) (b3i k a c d e f g h l m n o p q t) (by kernel_rfl) (fun j v=>by kernel_rfl)
def c7n (k:Nat) (a c b:Int):OO:=
 a0f (a0a E P0 k N.j6k [.v [.i a,.i c],.v [.i b]]) fun d=>
 bif (!(d.t 0).asB) then
  some ⟨[.i (-1)],[]⟩
 else
  chk (!decide (a=0)) <|
  some ⟨[.i (W64 ((W64 (a - 1)) - (Int.tmod b a)))],[]⟩
theorem e9a (k:Nat) (a b c:Int):a0a E P0 (k+1) N.j9k [.v [.i a,.i b],.v [.i c]]=c7n k a b c:=by kernel_rfl
def d5z (k:Nat) (a b c d:Int):OO:=
 a0f (a0a E P0 k N.j6k [.v [.i a,.i b],.v [.i c]]) fun e=>
 bif (!(e.t 0).asB) then
  some ⟨[.i (-1)],[]⟩
 else
  a0f (a0a E P0 k N.j5m [.v [.i d],.v [.i 0],.v [.i (W64 (a - 2))]]) fun f=>
  bif (!(f.t 0).asB) then
   some ⟨[.i (-1)],[]⟩
  else
   a0f (a0a E P0 k N.j9k [.v [.i a,.i b],.v [.i c]]) fun g=>
   chk (!decide (a=0)) <|
   some ⟨[.i (Int.tmod (W64 ((W64 ((g.t 0).asI+1))+d)) a)],[]⟩
theorem g2f (k:Nat) (a b c d:Int):a0a E P0 (k+1) N.j9l [.v [.i a,.i b],.v [.i c],.v [.i d]]=d5z k a b c d:=by kernel_rfl
def a9t (k:Nat) (n f g:Int) (o:LL) (p q u w x:Int) (y:LL) (z:Int) (A B:Bool) (h:Int) (c:Outs) (l:Int) (m:(V0_)→OO):(V0_)→OO:=fun (d,e)=>
 bif (decide (d<l)) then
  a0f (a0a E P0 k N.j9l [.v [.i f,.i g],.v [.i h],.v [.i d]]) fun a=>
  chk (decide (0≤(a.t 0).asI)&&decide ((a.t 0).asI<((c.t 0).asR.length:Int))) <|
  chk (decide ((e.length+([[.i (at_ (c.t 0).asR (a.t 0).asI.toNat 0).asI]]:LL).length)*8≤140737488355328)) <|
  m ((W64 (d+1)),(e++([[.i (at_ (c.t 0).asR (a.t 0).asI.toNat 0).asI]]:LL)))
 else
  some ⟨[.r e,.b true],[]⟩
def f4n:List Nat:=[1,2,4,5,6,8,22,23,38]
def d1d (a c d:Int) (e:LL) (f g h l m:Int) (n:LL) (o:Int) (p q:Bool) (r:Int) (u:Outs) (w:Int):(V0_)→St:=fun (x,y)=>⟨a3k [(1,.i .i64 r),(2,.ptr (2,0) 0),(4,.ref (4,0)),(5,.b false),(6,.ref (6,0)),(8,.ref (8,0)),(22,.i .i64 w),(23,.i .i64 x),(38,.skip)],a1e [((2,0),.var [.i .i64 a,.i .i64 c,.i .i64 d,.sl 134 e,.i .i64 f,.i .i64 g,.i .i64 h,.i .i64 l,.i .i64 m,.sl 136 n,.i .i64 o,.b p,.b q]),((4,0),.row 3 true []),((6,0),.row 3 true (u.t 0).asR),((8,0),.row 3 true y)]⟩
def b8k (k:Nat) (d a e:Int) (f:LL) (g h l m n:Int) (o:LL) (p:Int) (q u:Bool) (w:Int) (x:Outs→Int→(V0_)→OO):OO:=
 a0f (a0a E P0 k N.k2n [.v [.i d,.i a,.i e,.r f,.i g,.i h,.i l,.i m,.i n,.r o,.i p,.b q,.b u],.v [.i w]]) fun c=>
 bif (!(c.t 1).asB) then some ⟨[.r [],.b false],[]⟩ else x c (W64 (a - 1)) (0,[])
def d6a (k:Nat) (a b c:Int) (d:LL) (e f g h i:Int) (l:LL) (m:Int) (n o:Bool) (p:Int):OO:=
 b8k k a b c d e f g h i l m n o p (fun q r v=>a1i (a9t k a b c d e f g h i l m n o p q r) k v)
def e9b (k:Nat) (a c d:Int) (e:LL) (f g h l m:Int) (n:LL) (o:Int) (p q:Bool) (t:Int) (js:List Nat) (j:Nat) (s:St):OO:=IT_ k N.j9m [.v [.i a,.i c,.i d,.r e,.i f,.i g,.i h,.i l,.i m,.r n,.i o,.b p,.b q],.v [.i t]] [] [.sr,.sr,.sr,.sr,.sl,.sr,.bl] f4n js j s
theorem g2g (k:Nat) (a c d:Int) (e:LL) (f g h l m:Int) (n:LL) (o:Int) (p q:Bool) (t:Int):a0a E P0 (k+1) N.j9m [.v [.i a,.i c,.i d,.r e,.i f,.i g,.i h,.i l,.i m,.r n,.i o,.b p,.b q],.v [.i t]]=d6a k a c d e f g h l m n o p q t:=
 Eq.trans (b:=b8k k a c d e f g h l m n o p q t (fun u w v=>e9b k a c d e f g h l m n o p q t [] k (d1d a c d e f g h l m n o p q t u w v))) (by kernel_rfl) (congrArg (b8k k a c d e f g h l m n o p q t) (funext fun u=>funext fun w=>funext fun v=>a1p (d1d a c d e f g h l m n o p q t u w) (a9t k a c d e f g h l m n o p q t u w) (fun j v=>by kernel_rfl) k v))
def d1e (k:Nat) (d e f:Int) (g:LL) (h l m n o:Int) (a:LL) (p:Int) (q u:Bool) (w:Int):OO:=
 a0f (a0a E P0 k N.j9g [.v [.i d,.i e,.i f,.r g,.i h,.i l,.i m,.i n,.i o,.r a,.i p,.b q,.b u],.v [.i w]]) fun c=>
 bif (decide ((c.t 0).asI≥0)) then
  chk (decide (0≤(c.t 0).asI)&&decide ((c.t 0).asI<(a.length:Int))) <|
  a0f (a0a E P0 k N.j5n [.v [.r (at_ a (c.t 0).asI.toNat 1).asR]]) fun y=>
  some ⟨[.r (y.t 0).asR,.b true],[]⟩
 else
  a0f (a0a E P0 k N.j9m [.v [.i d,.i e,.i f,.r g,.i h,.i l,.i m,.i n,.i o,.r a,.i p,.b q,.b u],.v [.i w]]) fun x=>
  some ⟨[.r (x.t 0).asR,.b (x.t 1).asB],[]⟩
theorem f4o (k:Nat) (a c d:Int) (e:LL) (f g h l m:Int) (n:LL) (o:Int) (p q:Bool) (t:Int):a0a E P0 (k+1) N.j9n [.v [.i a,.i c,.i d,.r e,.i f,.i g,.i h,.i l,.i m,.r n,.i o,.b p,.b q],.v [.i t]]=d1e k a c d e f g h l m n o p q t:=by kernel_rfl
def d1f (k:Nat) (a c b:Int):OO:=
 a0f (a0a E P0 k N.j7z [.v [.i a,.i c],.v [.i b]]) fun d=>
 bif (!(d.t 0).asB) then
  some ⟨[.i (-1)],[]⟩
 else
  chk (!decide ((W64 (a - 1))=0)) <|
  some ⟨[.i (Int.tmod b (W64 (a - 1)))],[]⟩
theorem f4p (k:Nat) (a b c:Int):a0a E P0 (k+1) N.j9o [.v [.i a,.i b],.v [.i c]]=d1f k a b c:=by kernel_rfl
def c7o (k:Nat) (g a c:Int) (h:LL) (l m n o p:Int) (q:LL) (u:Int) (w x:Bool) (d:Int):OO:=
 a0f (a0a E P0 k N.j9f [.v [.i g,.i a,.i c,.r h,.i l,.i m,.i n,.i o,.i p,.r q,.i u,.b w,.b x],.v [.i d]]) fun y=>
 bif ((y.t 0).asI != 0) then
  some ⟨[.i 0,.i (y.t 0).asI],[]⟩
 else
  a0f (a0a E P0 k N.j7d [.v [.i a,.i c],.v [.i d]]) fun z=>
  a0f (a0a E P0 k N.j9n [.v [.i g,.i a,.i c,.r h,.i l,.i m,.i n,.i o,.i p,.r q,.i u,.b w,.b x],.v [.i (z.t 0).asI]]) fun e=>
  bif (!(e.t 1).asB) then
   some ⟨[.i 0,.i 5],[]⟩
  else
   a0f (a0a E P0 k N.j9o [.v [.i a,.i c],.v [.i d]]) fun f=>
   chk (decide (0≤(f.t 0).asI)&&decide ((f.t 0).asI<((e.t 0).asR.length:Int))) <|
   some ⟨[.i (at_ (e.t 0).asR (f.t 0).asI.toNat 0).asI,.i 0],[]⟩
theorem e9c (k:Nat) (a c d:Int) (e:LL) (f g h l m:Int) (n:LL) (o:Int) (p q:Bool) (t:Int):a0a E P0 (k+1) N.j7f [.v [.i a,.i c,.i d,.r e,.i f,.i g,.i h,.i l,.i m,.r n,.i o,.b p,.b q],.v [.i t]]=c7o k a c d e f g h l m n o p q t:=by kernel_rfl
def a4u (k:Nat) (a e:Outs) (d:LL) (c:Int) (f:Bool):OO:=
 bif f then
  chk (decide (0≤c)&&decide (c<((a.t 9).asR.length:Int))) <|
  so_ [.i (a.t 0).asI,.i (a.t 1).asI,.i (a.t 2).asI,.r (a.t 3).asR,.i (a.t 4).asI,.i (a.t 5).asI,.i (a.t 6).asI,.i (a.t 7).asI,.i (a.t 8).asI,.r (a0x (a.t 9).asR c.toNat 1 [.r d]),.i (a.t 10).asI,.b (a.t 11).asB,.b (a.t 12).asB,.i 0]
 else
  chk (decide (0≤c)&&decide (c≤((a.t 9).asR.length:Int))) <|
  chk (decide (((a.t 9).asR.length+([[.i (e.t 0).asI,.r d]]:LL).length)*32≤140737488355328)) <|
  so_ [.i (a.t 0).asI,.i (a.t 1).asI,.i (a.t 2).asI,.r (a.t 3).asR,.i (a.t 4).asI,.i (a.t 5).asI,.i (a.t 6).asI,.i (a.t 7).asI,.i (a.t 8).asI,.r ((a.t 9).asR.take c.toNat++([[.i (e.t 0).asI,.r d]]:LL)++(a.t 9).asR.drop c.toNat),.i (a.t 10).asI,.b (a.t 11).asB,.b (a.t 12).asB,.i 0]
def a6p (k:Nat) (b c:Outs) (d:LL) (a:Int) (e:(Int)→OO) (f:Bool):OO:=
 bif f then
  e (W64 (a+1))
 else
  bif (decide (a<((b.t 9).asR.length:Int))) then
   chk (decide (0≤a)&&decide (a<((b.t 9).asR.length:Int))) <|
   a4u k b c d a ((at_ (b.t 9).asR a.toNat 0).asI == (c.t 0).asI)
  else
   a4u k b c d a false
def a3o (k:Nat) (b c:Outs) (d:LL) (e:(Int)→OO):(Int)→OO:=fun a=>
 bif (decide (a<((b.t 9).asR.length:Int))) then
  chk (decide (0≤a)&&decide (a<((b.t 9).asR.length:Int))) <|
  a6p k b c d a e (decide ((at_ (b.t 9).asR a.toNat 0).asI<(c.t 0).asI))
 else
  a6p k b c d a e false
def e2o:List Nat:=[6,7,8,10,11,13,67,68,69,70,71,72,73,74,75,76,77,78,79,80,81,82,83,84,85,86,87,88,89,90,91,92,93,94,95,96,97]
def c5j (a c:Outs) (d:LL):(Int)→St:=fun e=>SD_ [(6,.ptr (6,0) 0),(7,.w_ 0),(8,.ptr (8,0) 0),(10,.w_ (c.t 0).asI),(11,.ref (11,0)),(13,.w_ e),(67,.skip),(68,.skip),(69,.skip),(70,.skip),(71,.skip),(72,.skip),(73,.skip),(74,.skip),(75,.skip),(76,.skip),(77,.skip),(78,.skip),(79,.skip),(80,.skip),(81,.skip),(82,.skip),(83,.skip),(84,.skip),(85,.skip),(86,.skip),(87,.skip),(88,.skip),(89,.skip),(90,.skip),(91,.skip),(92,.skip),(93,.skip),(94,.skip),(95,.skip),(96,.skip),(97,.skip)] [((6,0),.var [.w_ 0,.w_ 0,.w_ 0,.ref (6,4),.w_ 0,.w_ 0,.w_ 0,.w_ 0,.w_ 0,.ref (6,10),.w_ 0,.b false,.b false]),((6,4),.deep 134 [] none),((6,10),.deep 136 [] none),((8,0),.var [.w_ (a.t 0).asI,.w_ (a.t 1).asI,.w_ (a.t 2).asI,.ref (8,4),.w_ (a.t 4).asI,.w_ (a.t 5).asI,.w_ (a.t 6).asI,.w_ (a.t 7).asI,.w_ (a.t 8).asI,.ref (8,10),.w_ (a.t 10).asI,.b (a.t 11).asB,.b (a.t 12).asB]),((8,4),.deep 134 (a.t 3).asR none),((8,10),.deep 136 (a.t 9).asR none),((11,0),.row 3 true d)]
def b0m (k:Nat) (m c d:Int) (n:LL) (o p q u w:Int) (x:LL) (y:Int) (z A:Bool) (g B:Int) (a:Outs) (C:Outs→Outs→LL→(Int)→OO) (h:Int):OO:=
 bif (h != 0) then
  so_ (S8_ a h)
 else
  BK_ k N.j7d [.v [.i c,.i d],vi_ g] fun l=>
  BK_ k N.j9n [.v (S0_ m c d n o p q u w x y z A),vi_ (l.t 0).asI] fun e=>
  bif (!(e.t 1).asB) then
   so_ (S8_ a 5)
  else
   BK_ k N.j9o [.v [.i c,.i d],vi_ g] fun f=>
   chk (decide (0≤(f.t 0).asI)&&decide ((f.t 0).asI<((e.t 0).asR.length:Int))) <|
   C a l (a0x (e.t 0).asR (f.t 0).asI.toNat 0 [.i B]) 0
def b0n (k:Nat) (a b c:Int) (d:LL) (e f g h i:Int) (l:LL) (m:Int) (n o:Bool) (p q:Int) (r w:Outs) (u:Outs→Outs→LL→(Int)→OO) (x:Bool):OO:=
 bif x then
  b0m k a b c d e f g h i l m n o p q r u 3
 else
  b0m k a b c d e f g h i l m n o p q r u ((w.t 0).asI)
def b3j (k:Nat) (a c d:Int) (e:LL) (f g h l m:Int) (n:LL) (o:Int) (p q:Bool) (u w:Int) (y:Outs→Outs→LL→(Int)→OO):OO:=
 BK_ k N.j6c [.v (S0_ a c d e f g h l m n o p q)] fun z=>
 BK_ k N.j9f [.v (S0_ a c d e f g h l m n o p q),vi_ u] fun x=>
 bif ((x.t 0).asI == 0) then
  BK_ k N.j9c [vi_ w] fun A=>
  b0n k a c d e f g h l m n o p q u w z x y (!(A.t 0).asB)
 else
  b0n k a c d e f g h l m n o p q u w z x y false
def c7p (k:Nat) (a b c:Int) (d:LL) (e f g h i:Int) (l:LL) (m:Int) (n o:Bool) (p q:Int):OO:=
 b3j k a b c d e f g h i l m n o p q (fun r t u v=>a1i (a3o k r t u) k v)
def d8j (k:Nat) (a c d:Int) (e:LL) (f g h l m:Int) (n:LL) (o:Int) (p q:Bool) (t u:Int) (js:List Nat) (j:Nat) (s:St):OO:=IT_ k N.j5q [.v (S0_ a c d e f g h l m n o p q),vi_ t,vi_ u] [] [.sr,.sr,.sr,.sr,.sr,.sr,.sr,.sr,.sr,.sr,.sl,.bl] e2o js j s
theorem e9d (k:Nat) (a c d:Int) (e:LL) (f g h l m:Int) (n:LL) (o:Int) (p q:Bool) (t u:Int):a0a E P0 (k+1) N.j5q [.v (S0_ a c d e f g h l m n o p q),vi_ t,vi_ u]=c7p k a c d e f g h l m n o p q t u:=
 Eq.trans (b:=b3j k a c d e f g h l m n o p q t u (fun w x y v=>d8j k a c d e f g h l m n o p q t u [] k (c5j w x y v))) (by kernel_rfl) (congrArg (b3j k a c d e f g h l m n o p q t u) (funext fun w=>funext fun x=>funext fun y=>funext fun v=>a1p (c5j w x y) (a3o k w x y) (fun j v=>by kernel_rfl) k v))
def d6b (k:Nat) (c d e:Int) (f:LL) (g h l m n:Int) (o:LL) (a:Int) (q p:Bool):OO:=
 bif (a == 0) then
  some ⟨[.b false],[[.i c,.i d,.i e,.r f,.i g,.i h,.i l,.i m,.i n,.r o,.i (-1),.b true,.b p]]⟩
 else
  bif (decide (a > 0)) then
   some ⟨[.b true],[(S0_ c d e f g h l m n o (W64 (a - 1)) q p)]⟩
  else
   some ⟨[.b true],[(S0_ c d e f g h l m n o a q p)]⟩
theorem g2h (k:Nat) (a c d:Int) (e:LL) (f g h l m:Int) (n:LL) (o:Int) (q t:Bool):a0a E P0 (k+1) N.j9p [.p (S0_ a c d e f g h l m n o q t)]=d6b k a c d e f g h l m n o q t:=by kernel_rfl
def a6q (k:Nat) (c:LL) (e:Outs) (f:(V0_)→OO):(V0_)→OO:=fun (a,d)=>
 bif (decide (a<(c.length:Int))) then
  chk (decide (0≤a)&&decide (a<(c.length:Int))) <|
  a0f (a0a E P0 k N.j5n [.v [.r (at_ c a.toNat 1).asR]]) fun g=>
  chk (decide (0≤(at_ c a.toNat 0).asI)&&decide ((at_ c a.toNat 0).asI<(d.length:Int))) <|
  f ((W64 (a+1)),(a0x d (at_ c a.toNat 0).asI.toNat 0 [.r (g.t 0).asR]))
 else
  some ⟨[.r d,.r [],.b (e.t 2).asB,.r (e.t 3).asR],[]⟩
def e2p:List Nat:=[2,3,17,18,19,32,33]
def c5k (c:LL) (a:Outs):(V0_)→St:=fun (d,e)=>⟨a3k [(2,.ptr (2,0) 0),(3,.ptr (3,0) 0),(17,.sl 157 c),(18,.i .i64 (c.length:Int)),(19,.i .i64 d),(32,.skip),(33,.skip)],Mem.put (a1e [((2,0),.var [.ref (2,1),.ref (2,2),.b false,.ref (2,4)]),((2,1),.deep 79 [] none),((2,2),.deep 157 [] none),((2,4),.row 3 true []),((3,0),.var [.ref (3,1),.ref (3,2),.b (a.t 2).asB,.ref (3,4)]),((3,1),.deep 79 e none),((3,2),.deep 157 (a.t 1).asR none),((3,4),.row 3 true (a.t 3).asR)]) a3l .dead⟩
def c5l (k:Nat) (a:Outs) (c:Outs→(V0_)→OO) (d:Bool):OO:=
 bif d then
  some ⟨[.r (a.t 0).asR,.r (a.t 1).asR,.b (a.t 2).asB,.r (a.t 3).asR],[]⟩
 else
  c a (0,(a.t 0).asR)
def b3k (k:Nat) (c d:LL) (a:Bool) (e:LL) (f:Outs→(V0_)→OO):OO:=
 a0f (a0a E P0 k N.j6i [.v [.r c,.r d,.b a,.r e]]) fun g=>
 a0f (a0a E P0 k N.j5y [.v [.r c,.r d,.b a,.r e]]) fun h=>
 bif (!(h.t 0).asB) then c5l k g f true else c5l k g f a
def c7q (k:Nat) (b a:LL) (c:Bool) (d:LL):OO:=
 b3k k b a c d (fun e v=>a1i (a6q k a e) k v)
def d8k (k:Nat) (a c:LL) (d:Bool) (e:LL) (js:List Nat) (j:Nat) (s:St):OO:=IT_ k N.j8b [.v [.r a,.r c,.b d,.r e]] [] [.sr,.sr,.sr,.sl,.sr,.bl] e2p js j s
theorem e9e (k:Nat) (c a:LL) (d:Bool) (e:LL):a0a E P0 (k+1) N.j8b [.v [.r c,.r a,.b d,.r e]]=c7q k c a d e:=
 Eq.trans (b:=b3k k c a d e (fun f v=>d8k k c a d e [] k (c5k a f v))) (by kernel_rfl) (congrArg (b3k k c a d e) (funext fun f=>funext fun v=>a1p (c5k a f) (a6q k a f) (fun j v=>by kernel_rfl) k v))
def b0o (k:Nat) (A:LL) (z:(V3_)→OO):(V3_)→OO:=fun (c,f,g,h,l,m,n,o,q,u,w,x,d,y)=>
 bif (decide (c<(A.length:Int))) then
  ck_ c d <|
  bif (at_ d c.toNat 2).asB then
   z ((W64 (c+1)),f,g,h,l,m,n,o,q,u,w,x,d,y)
  else
   BK_ k N.j9p [.p (S0_ f g h d l m n o q y u w x)] fun a=>
   bif (!(a.t 0).asB) then
    some ⟨[.b false],[(S2_ a)]⟩
   else
    chk (decide (0≤c)&&decide (c<((a.vt 0 3).asR.length:Int))) <|
    BK_ k N.j8b [.v (S7_ (at_ (a.vt 0 3).asR c.toNat 0).asR (at_ (a.vt 0 3).asR c.toNat 1).asR (at_ (a.vt 0 3).asR c.toNat 2).asB (at_ (a.vt 0 3).asR c.toNat 3).asR)] fun e=>
    chk (decide (0≤c)&&decide (c<((a.vt 0 3).asR.length:Int))) <|
    chk (Nat.beq c.toNat c.toNat) <|
    z ((W64 (c+1)),(a.vt 0 0).asI,(a.vt 0 1).asI,(a.vt 0 2).asI,(a.vt 0 4).asI,(a.vt 0 5).asI,(a.vt 0 6).asI,(a.vt 0 7).asI,(a.vt 0 8).asI,(a.vt 0 10).asI,(a.vt 0 11).asB,(a.vt 0 12).asB,(a0x (a.vt 0 3).asR c.toNat 0 (j1o e)),(a.vt 0 9).asR)
 else
  some ⟨[.b true],[(S0_ f g h d l m n o q y u w x)]⟩
def e2q:List Nat:=[0,2,8,9]
def e2r (a:LL):(V3_)→St:=fun (c,d,e,f,g,h,l,m,n,o,p,q,r,t)=>SD_ [(0,.ptr (0,0) 0),(2,.b false),(8,.w_ (a.length:Int)),(9,.w_ c)] [((0,0),.var [.w_ d,.w_ e,.w_ f,.ref (0,4),.w_ g,.w_ h,.w_ l,.w_ m,.w_ n,.ref (0,10),.w_ o,.b p,.b q]),((0,4),.deep 134 r none),((0,10),.deep 136 t none)]
def b9e (k:Nat) (a b c:Int) (d:LL) (e f g h i:Int) (l:LL) (m:Int) (n o:Bool) (p:(V3_)→OO):OO:=
 p (0,a,b,c,e,f,g,h,i,m,n,o,d,l)
def c7r (k:Nat) (b c d:Int) (a:LL) (e f g h i:Int) (l:LL) (m:Int) (n o:Bool):OO:=
 b9e k b c d a e f g h i l m n o (fun v=>a1i (b0o k a) k v)
theorem e9f (k:Nat) (c d e:Int) (a:LL) (f g h l m:Int) (n:LL) (o:Int) (q t:Bool):a0a E P0 (k+1) N.j8c [.p (S0_ c d e a f g h l m n o q t)]=c7r k c d e a f g h l m n o q t:=a1y [0] [.sr,.sl,.sr,.bl] e2q (b9e k c d e a f g h l m n o q t) (e2r a) (b0o k a) (by kernel_rfl) (fun j v=>by kernel_rfl)
def f4q (k:Nat) (a b c:Int) (l:LL) (d e m f g:Int) (n:LL) (o:Int) (p q:Bool) (h:Int):OO:=
 so_ (i6i a g h b c f d e)
theorem f4r (k:Nat) (a c d:Int) (e:LL) (f g h l m:Int) (n:LL) (o:Int) (p q:Bool) (t:Int):a0a E P0 (k+1) N.k2o [.v (S0_ a c d e f g h l m n o p q),vi_ t]=f4q k a c d e f g h l m n o p q t:=by kernel_rfl
def b3l (k:Nat) (d a c e f:Int) (g:Bool):OO:=
 bif g then
  BK_ k N.j6o [.v [.i a,.i c]] fun h=>
  bif (h.t 0).asB then
   BK_ k N.j5m [vi_ d,vi_ 0,vi_ (W64 (a - 1))] fun l=>
   bif (l.t 0).asB then
    BK_ k N.j9d [.v [.i a,.i c],vi_ e,vi_ f] fun m=>
    so_ [.b (m.t 0).asB]
   else
    so_ [.b false]
  else
   so_ [.b false]
 else
  so_ [.b false]
def d1g (k:Nat) (f g a b c h d e:Int):OO:=
 BK_ k N.j5m [vi_ f,vi_ 1,vi_ 60000] fun l=>
 bif (l.t 0).asB then
  BK_ k N.j5m [vi_ g,vi_ 0,vi_ 60000] fun m=>
  bif (m.t 0).asB then
   BK_ k N.j5m [vi_ h,vi_ 0,vi_ 60000] fun n=>
   b3l k a b c d e ((n.t 0).asB)
  else
   b3l k a b c d e false
 else
  b3l k a b c d e false
theorem f4s (k:Nat) (a b c d e f g h:Int):a0a E P0 (k+1) N.k2p [.v (i6i a b c d e f g h)]=d1g k a b c d e f g h:=by kernel_rfl
def c7s (k:Nat) (a b c d e f g h:Int):OO:=
 BK_ k N.k2p [.v (i6i a b c d e f g h)] fun l=>
 bif (!(l.t 0).asB) then
  so_ [.r []]
 else
  so_ [.r [[.i 21317],[.i a],[.i b],[.i c],[.i d],[.i e],[.i f],[.i (W64 (g+1))],[.i h]]]
theorem e9g (k:Nat) (a b c d e f g h:Int):a0a E P0 (k+1) N.k2q [.v (i6i a b c d e f g h)]=c7s k a b c d e f g h:=by kernel_rfl
def b4m (k:Nat) (c a:Int):OO:=
 some ⟨[.b (c == a)],[[.i a]]⟩
theorem c2t (k:Nat) (a b:Int):a0a E P0 (k+1) N.j5w [.v [.i a],.p [.i b]]=b4m k a b:=by kernel_rfl
def a3a (k:Nat) (b:LL) (e:(V1_)→OO):(V1_)→OO:=fun (a,d)=>
 bif (decide (a<(b.length:Int))) then
  chk (decide (0≤a)&&decide (a<(b.length:Int))) <|
  a0f (a0a E P0 k N.j5w [.v [.i (at_ b a.toNat 0).asI],.p [.i d]]) fun c=>
  bif (c.t 0).asB then
   some ⟨[.i a],[[.i (c.vt 0 0).asI]]⟩
  else
   e ((W64 (a+1)),(c.vt 0 0).asI)
 else
  some ⟨[.i (-1)],[[.i d]]⟩
def b9f:List Nat:=[0,1,4,7,8]
def b9g (a:LL):(V1_)→St:=fun (b,c)=>⟨a3k [(0,.sl 3 a),(1,.clo N.j5w (some (1,0))),(4,.i .i64 0),(7,.i .i64 (a.length:Int)),(8,.i .i64 b)],a1e [((1,0),.var [.i .i64 c])]⟩
def a4r (k:Nat) (c:LL) (a:Int) (b:(V1_)→OO):OO:=
 b (0,a)
def a9a (k:Nat) (a:LL) (b:Int):OO:=
 a4r k a b (fun v=>a1i (a3a k a) k v)
theorem c0d (k:Nat) (a:LL) (d:Int):a0a E P0 (k+1) N.k2r [.v [.r a],.c N.j5w (some [.i d])]=a9a k a d:=a1y [1] [.sr,.sl,.sr,.bl] b9f (a4r k a d) (b9g a) (a3a k a) (by kernel_rfl) (fun j v=>by kernel_rfl)
def a1k (k:Nat) (e:(V8_)→OO):(V8_)→OO:=fun (a,c,b,f)=>
 bif (decide (c<(b.length:Int))) then
  chk (decide (0≤c)&&decide (c<(b.length:Int))) <|
  a0f (a0a E P0 k N.j5w [.v [.i (at_ b c.toNat 0).asI],.p [.i f]]) fun d=>
  bif (!(d.t 0).asB) then
   chk (decide (0≤a)&&decide (a<(b.length:Int))) <|
   e ((W64 (a+1)),(W64 (c+1)),(a0x b a.toNat 0 [.i (at_ b c.toNat 0).asI]),(d.vt 0 0).asI)
  else
   e (a,(W64 (c+1)),b,(d.vt 0 0).asI)
 else
  chk (decide (0≤a)&&decide (a≤(b.length:Int))&&decide ((b.length:Int)≤(b.length:Int))) <|
  chk (decide (0≤0)&&decide (0≤a)&&decide (a≤((a3u b a.toNat (List.replicate ((b.length:Int).toNat - a.toNat) [.i 0])).length:Int))) <|
  chk (decide (0<(a3u b a.toNat (List.replicate ((b.length:Int).toNat - a.toNat) [.i 0])).length)) <|
  some ⟨[.r ((a3u b a.toNat (List.replicate ((b.length:Int).toNat - a.toNat) [.i 0])).take (a.toNat - (0:Int).toNat))],[[.i f]]⟩
def b8l:List Nat:=[0,1,4,5,6,36,37,38,39,40,41]
def b8m:(V8_)→St:=fun (a,b,c,d)=>ST_ [(0,.ref (0,0)),(1,.clo N.j5w (some (1,0))),(4,.ref (4,0)),(5,.w_ a),(6,.w_ b),(36,.skip),(37,.skip),(38,.skip),(39,.skip),(40,.skip),(41,.skip)] [((0,0),.row 3 true c),((1,0),.var [.w_ d]),((4,0),.row 3 true [])]
def a4k (k:Nat) (b:LL) (d:Int) (e:(V8_)→OO):OO:=
 a0f (a0a E P0 k N.k2r [.v [.r b],.c N.j5w (some [.i d])]) fun a=>
 bif ((a.t 0).asI == (-1)) then
  some ⟨[.r b],[[.i (a.vt 0 0).asI]]⟩
 else
  e ((a.t 0).asI,(W64 ((a.t 0).asI+1)),b,(a.vt 0 0).asI)
def a8e (k:Nat) (a:LL) (b:Int):OO:=
 a4k k a b (fun v=>a1i (a1k k) k v)
theorem b9h (k:Nat) (a:LL) (d:Int):a0a E P0 (k+1) N.k2s [.v [.r a],.c N.j5w (some [.i d])]=a8e k a d:=a1y [1] [.sr,.sr,.sr,.sl,.sr,.bl] b8l (a4k k a d) (b8m) (a1k k) (by kernel_rfl) (fun j v=>by kernel_rfl)
def a4v (k:Nat) (d:Int) (f:LL) (a:Outs) (g:Bool):OO:=
 bif g then
  so_ (j4o a)
 else
  BK_ k N.j5n [vr_ f] fun e=>
  chk (decide (((a.t 1).asR.length+([[.i d,.r (e.t 0).asR]]:LL).length)*32≤140737488355328)) <|
  BK_ k N.k2s [vr_ (a.t 3).asR,.c N.j5w (some [.i d])] fun h=>
  so_ [.r (a.t 0).asR,.r ((a.t 1).asR++([[.i d,.r (e.t 0).asR]]:LL)),.b (a.t 2).asB,.r (h.t 0).asR,.b true]
def c7t (k:Nat) (g e:LL) (f:Bool) (h:LL) (a:Int) (c:LL):OO:=
 BK_ k N.j6i [.v (S7_ g e f h)] fun d=>
 BK_ k N.j5y [.v (S7_ g e f h)] fun l=>
 bif (!(l.t 0).asB) then
  a4v k a c d true
 else
  bif f then
   a4v k a c d true
  else
   BK_ k N.j7b [.v (S7_ g e f h),vi_ a] fun m=>
   bif (!(m.t 0).asB) then
    a4v k a c d true
   else
    BK_ k N.j7v [vr_ c] fun n=>
    bif (!(n.t 0).asB) then
     a4v k a c d true
    else
     a4v k a c d ((e.length:Int) == 60)
theorem e9h (k:Nat) (a c:LL) (d:Bool) (e:LL) (f:Int) (g:LL):a0a E P0 (k+1) N.j9q [.v (S7_ a c d e),vi_ f,vr_ g]=c7t k a c d e f g:=by kernel_rfl
def c5m (k:Nat) (f g h:Int) (d:LL) (l m n o q:Int) (u:LL) (w:Int) (x y:Bool) (c z:Int) (A:LL):OO:=
 ck_ c d <|
 bif (at_ d c.toNat 2).asB then
  some ⟨[.b true],[(S0_ f g h d l m n o q u w x y)]⟩
 else
  BK_ k N.j9p [.p (S0_ f g h d l m n o q u w x y)] fun a=>
  bif (!(a.t 0).asB) then
   some ⟨[.b false],[(S2_ a)]⟩
  else
   chk (decide (0≤c)&&decide (c<((a.vt 0 3).asR.length:Int))) <|
   BK_ k N.j9q [.v (S7_ (at_ (a.vt 0 3).asR c.toNat 0).asR (at_ (a.vt 0 3).asR c.toNat 1).asR (at_ (a.vt 0 3).asR c.toNat 2).asB (at_ (a.vt 0 3).asR c.toNat 3).asR),vi_ z,vr_ A] fun e=>
   chk (decide (0≤c)&&decide (c<((a.vt 0 3).asR.length:Int))) <|
   chk (Nat.beq c.toNat c.toNat) <|
   some ⟨[.b true],[[.i (a.vt 0 0).asI,.i (a.vt 0 1).asI,.i (a.vt 0 2).asI,.r (a0x (a.vt 0 3).asR c.toNat 0 (j1o e)),.i (a.vt 0 4).asI,.i (a.vt 0 5).asI,.i (a.vt 0 6).asI,.i (a.vt 0 7).asI,.i (a.vt 0 8).asI,.r (a.vt 0 9).asR,.i (a.vt 0 10).asI,.b (a.vt 0 11).asB,.b (a.vt 0 12).asB]]⟩
theorem e2s (k:Nat) (a c d:Int) (e:LL) (f g h l m:Int) (n:LL) (o:Int) (q t:Bool) (u w:Int) (x:LL):a0a E P0 (k+1) N.j7g [.p (S0_ a c d e f g h l m n o q t),vi_ u,vi_ w,vr_ x]=c5m k a c d e f g h l m n o q t u w x:=by kernel_rfl
def b0p (k:Nat) (A:LL) (B:(V3_)→OO):(V3_)→OO:=fun (e,g,h,l,m,n,o,q,f,u,w,x,y,z)=>
 bif (decide (e<(A.length:Int))) then
  BK_ k N.k2o [.v (S0_ g h l y m n o q f z u w x),vi_ e] fun d=>
  BK_ k N.k2q [.v [.i (d.t 0).asI,.i (d.t 1).asI,.i (d.t 2).asI,.i (d.t 3).asI,.i (d.t 4).asI,.i (d.t 5).asI,.i (d.t 6).asI,.i (d.t 7).asI]] fun C=>
  BK_ k N.j7g [.p (S0_ g h l y m n o q f z u w x),vi_ e,vi_ (Int.tmod f 2),vr_ (C.t 0).asR] fun a=>
  bif (!(a.t 0).asB) then
   some ⟨[.b false],[(S2_ a)]⟩
  else
   B ((W64 (e+1)),(a.vt 0 0).asI,(a.vt 0 1).asI,(a.vt 0 2).asI,(a.vt 0 4).asI,(a.vt 0 5).asI,(a.vt 0 6).asI,(a.vt 0 7).asI,(a.vt 0 8).asI,(a.vt 0 10).asI,(a.vt 0 11).asB,(a.vt 0 12).asB,(a.vt 0 3).asR,(a.vt 0 9).asR)
 else
  BK_ k N.j8c [.p (S0_ g h l y m n o q f z u w x)] fun c=>
  some ⟨[.b (c.t 0).asB],[(S2_ c)]⟩
def e2t:List Nat:=[0,2,15,16,35,36]
def e2u (a:LL):(V3_)→St:=fun (c,d,e,f,g,h,l,m,n,o,p,q,r,t)=>SD_ [(0,.ptr (0,0) 0),(2,.b false),(15,.w_ (a.length:Int)),(16,.w_ c),(35,.skip),(36,.skip)] [((0,0),.var [.w_ d,.w_ e,.w_ f,.ref (0,4),.w_ g,.w_ h,.w_ l,.w_ m,.w_ n,.ref (0,10),.w_ o,.b p,.b q]),((0,4),.deep 134 r none),((0,10),.deep 136 t none)]
def b9i (k:Nat) (a b c:Int) (d:LL) (e f g h i:Int) (l:LL) (m:Int) (n o:Bool) (p:(V3_)→OO):OO:=
 p (0,a,b,c,e,f,g,h,(W64 (i+1)),m,n,o,d,l)
def c7u (k:Nat) (b c d:Int) (a:LL) (e f g h i:Int) (l:LL) (m:Int) (n o:Bool):OO:=
 b9i k b c d a e f g h i l m n o (fun v=>a1i (b0p k a) k v)
theorem e9i (k:Nat) (c d e:Int) (a:LL) (f g h l m:Int) (n:LL) (o:Int) (q t:Bool):a0a E P0 (k+1) N.k2t [.p (S0_ c d e a f g h l m n o q t)]=c7u k c d e a f g h l m n o q t:=a1y [0] [.sr,.sr,.sl,.sr,.bl] e2t (b9i k c d e a f g h l m n o q t) (e2u a) (b0p k a) (by kernel_rfl) (fun j v=>by kernel_rfl)
def c5n (k:Nat) (d e f:Int) (g:LL) (h l m n o:Int) (q:LL) (u:Int) (w x:Bool):OO:=
 BK_ k N.j8c [.p (S0_ d e f g h l m n o q u w x)] fun a=>
 bif (!(a.t 0).asB) then
  some ⟨[.b false],[(S2_ a)]⟩
 else
  BK_ k N.k2t [.p (j4p a)] fun c=>
  some ⟨[.b (c.t 0).asB],[(S2_ c)]⟩
theorem e2v (k:Nat) (a c d:Int) (e:LL) (f g h l m:Int) (n:LL) (o:Int) (q t:Bool):a0a E P0 (k+1) N.k2u [.p (S0_ a c d e f g h l m n o q t)]=c5n k a c d e f g h l m n o q t:=by kernel_rfl
def d6c (k:Nat) (a:Int):OO:=
 bif (decide (a<0)) then so_ [.i (-1)] else so_ [.i (W64 (2+(Int.tmod a 4)))]
theorem g2i (k:Nat) (a:Int):a0a E P0 (k+1) N.k2v [vi_ a]=d6c k a:=by kernel_rfl
def e1k (k:Nat) (c d:Int) (a:LL):OO:=
 BK_ k N.j5m [vi_ c,vi_ 0,vi_ 60000] fun e=>
 bif (e.t 0).asB then
  BK_ k N.j5m [vi_ d,vi_ 0,vi_ 7] fun f=>
  bif (f.t 0).asB then
   BK_ k N.j5m [vi_ (a.length:Int),vi_ 2,vi_ 4] fun g=>
   bif (g.t 0).asB then
    BK_ k N.j6j [vr_ a] fun h=>
    so_ [.b (h.t 0).asB]
   else
    so_ [.b false]
  else
   so_ [.b false]
 else
  so_ [.b false]
theorem g6w (k:Nat) (a b:Int) (c:LL):a0a E P0 (k+1) N.k2w [.v (S4_ a b c)]=e1k k a b c:=by kernel_rfl
def d6d (k:Nat) (b c:Int) (a:LL):OO:=
 BK_ k N.k2w [.v (S4_ b c a)] fun d=>
 bif (!(d.t 0).asB) then
  so_ [.r []]
 else
  chk (decide ((([[.i 21322],[.i b],[.i c],[.i (a.length:Int)]]:LL).length+a.length)*8≤140737488355328)) <|
  so_ [.r (([[.i 21322],[.i b],[.i c],[.i (a.length:Int)]]:LL)++a)]
theorem g2j (k:Nat) (a b:Int) (c:LL):a0a E P0 (k+1) N.k2x [.v (S4_ a b c)]=d6d k a b c:=by kernel_rfl
def a7f (k:Nat) (A:LL) (e B:Int) (C:LL) (D:(V3_)→OO):(V3_)→OO:=fun (d,f,g,h,l,m,n,o,q,u,w,x,y,z)=>
 bif (decide (d<(A.length:Int))) then
  BK_ k N.k2v [vi_ e] fun F=>
  BK_ k N.k2x [.v (S4_ e B C)] fun G=>
  BK_ k N.j7g [.p (S0_ f g h y l m n o q z u w x),vi_ d,vi_ (F.t 0).asI,vr_ (G.t 0).asR] fun a=>
  bif (!(a.t 0).asB) then
   some ⟨[.b false],[(S2_ a)]⟩
  else
   D ((W64 (d+1)),(a.vt 0 0).asI,(a.vt 0 1).asI,(a.vt 0 2).asI,(a.vt 0 4).asI,(a.vt 0 5).asI,(a.vt 0 6).asI,(a.vt 0 7).asI,(a.vt 0 8).asI,(a.vt 0 10).asI,(a.vt 0 11).asB,(a.vt 0 12).asB,(a.vt 0 3).asR,(a.vt 0 9).asR)
 else
  BK_ k N.j8c [.p (S0_ f g h y l m n o q z u w x)] fun c=>
  some ⟨[.b (c.t 0).asB],[(S2_ c)]⟩
def d6e:List Nat:=[0,3,4,10,11,24,25]
def d6f (a:LL) (c d:Int) (e:LL):(V3_)→St:=fun (f,g,h,l,m,n,o,p,q,r,t,u,w,x)=>SD_ [(0,.ptr (0,0) 0),(3,.ptr (3,0) 0),(4,.b false),(10,.w_ (a.length:Int)),(11,.w_ f),(24,.skip),(25,.skip)] [((0,0),.var [.w_ g,.w_ h,.w_ l,.ref (0,4),.w_ m,.w_ n,.w_ o,.w_ p,.w_ q,.ref (0,10),.w_ r,.b t,.b u]),((0,4),.deep 134 w none),((0,10),.deep 136 x none),((3,0),.var [.w_ c,.w_ d,.sl 3 e])]
def b4n (k:Nat) (a b c:Int) (d:LL) (e f g h i:Int) (l:LL) (m:Int) (n o:Bool) (q r:Int) (t:LL) (p:(V3_)→OO):OO:=
 p (0,a,b,c,e,f,g,h,i,m,n,o,d,l)
def c2u (k:Nat) (e f g:Int) (a:LL) (h i l m n:Int) (o:LL) (p:Int) (q r:Bool) (b c:Int) (d:LL):OO:=
 b4n k e f g a h i l m n o p q r b c d (fun v=>a1i (a7f k a b c d) k v)
theorem d8l (k:Nat) (f g h:Int) (a:LL) (l m n o q:Int) (t:LL) (u:Int) (w x:Bool) (c d:Int) (e:LL):a0a E P0 (k+1) N.j9r [.p (S0_ f g h a l m n o q t u w x),.v (S4_ c d e)]=c2u k f g h a l m n o q t u w x c d e:=a1y [0] [.sr,.sl,.sr,.bl] d6e (b4n k f g h a l m n o q t u w x c d e) (d6f a c d e) (a7f k a c d e) (by kernel_rfl) (fun j v=>by kernel_rfl)
def c2v (k:Nat) (a:LL):OO:=
 BK_ k N.j9j [vr_ a] fun b=>
 so_ [.i (b.t 0).asI]
theorem d8m (k:Nat) (a:LL):a0a E P0 (k+1) N.k2y [vr_ a]=c2v k a:=by kernel_rfl
def a3h (k:Nat) (z:Int) (y:LL) (A:(V3_)→OO):(V3_)→OO:=fun (c,d,e,f,g,h,l,m,n,o,q,u,w,x)=>
 bif (decide (c<(y.length:Int))) then
  ck_ c y <|
  BK_ k N.j9i [.v (S0_ d e f w g h l m n x o q u),vi_ c,vi_ z] fun B=>
  bif (B.t 0).asB then
   BK_ k N.j9h [vi_ z] fun C=>
   BK_ k N.j7g [.p (S0_ d e f w g h l m n x o q u),vi_ c,vi_ (C.t 0).asI,vr_ [[.i (at_ y c.toNat 0).asI]]] fun a=>
   bif (!(a.t 0).asB) then
    some ⟨[.b false],[(S2_ a)]⟩
   else
    A ((W64 (c+1)),(a.vt 0 0).asI,(a.vt 0 1).asI,(a.vt 0 2).asI,(a.vt 0 4).asI,(a.vt 0 5).asI,(a.vt 0 6).asI,(a.vt 0 7).asI,(a.vt 0 8).asI,(a.vt 0 10).asI,(a.vt 0 11).asB,(a.vt 0 12).asB,(a.vt 0 3).asR,(a.vt 0 9).asR)
  else
   A ((W64 (c+1)),d,e,f,g,h,l,m,n,o,q,u,w,x)
 else
  some ⟨[.b true],[(S0_ d e f w g h l m n x o q u)]⟩
def d8n:List Nat:=[0,1,6,46,47,48]
def a5w (c:Int) (a:LL):(V3_)→St:=fun (d,e,f,g,h,l,m,n,o,p,q,r,t,u)=>SD_ [(0,.ptr (0,0) 0),(1,.w_ c),(6,.b false),(46,.ref (46,0)),(47,.w_ (a.length:Int)),(48,.w_ d)] [((0,0),.var [.w_ e,.w_ f,.w_ g,.ref (0,4),.w_ h,.w_ l,.w_ m,.w_ n,.w_ o,.ref (0,10),.w_ p,.b q,.b r]),((0,4),.deep 134 t none),((0,10),.deep 136 u none),((46,0),.row 3 true a)]
def a8v (k:Nat) (g e f:Int) (h:LL) (l m n o p:Int) (q:LL) (r:Int) (u w:Bool) (x:Int) (b:LL) (y:LL→(V3_)→OO) (z:(V0_)→OO):(V0_)→OO:=fun (a,c)=>
 bif (decide (a<(b.length:Int))) then
  ck_ a b <|
  BK_ k N.j9l [.v [.i e,.i f],vi_ x,vi_ a] fun d=>
  chk (decide (0≤(d.t 0).asI)&&decide ((d.t 0).asI<(c.length:Int))) <|
  z ((W64 (a+1)),(a0x c (d.t 0).asI.toNat 0 [.i (at_ b a.toNat 0).asI]))
 else
  y c (0,g,e,f,l,m,n,o,p,r,u,w,h,q)
def d8o:List Nat:=[0,1,6,7,10,11,28,29,30,46,47,48,49,50,51,52,53,54,55,56,57,58,59,60,61,62,63,64,65,66,67,68,69]
def a5x (c d e:Int) (f:LL) (g h l m n:Int) (o:LL) (p:Int) (q r:Bool) (t:Int) (a:LL):(V0_)→St:=fun (u,w)=>SD_ [(0,.ptr (0,0) 0),(1,.w_ t),(6,.b false),(7,.ref (7,0)),(10,.skip),(11,.skip),(28,.sl 3 a),(29,.w_ (a.length:Int)),(30,.w_ u),(46,.skip),(47,.skip),(48,.skip),(49,.skip),(50,.skip),(51,.skip),(52,.skip),(53,.skip),(54,.skip),(55,.skip),(56,.skip),(57,.skip),(58,.skip),(59,.skip),(60,.skip),(61,.skip),(62,.skip),(63,.skip),(64,.skip),(65,.skip),(66,.skip),(67,.skip),(68,.skip),(69,.skip)] [((0,0),.var [.w_ c,.w_ d,.w_ e,.ref (0,4),.w_ g,.w_ h,.w_ l,.w_ m,.w_ n,.ref (0,10),.w_ p,.b q,.b r]),((0,4),.deep 134 f none),((0,10),.deep 136 o none),((7,0),.row 3 true w)]
def a4e (k:Nat) (b c d:Int) (e:LL) (f g h i l:Int) (m:LL) (n:Int) (o p:Bool) (a:Int) (q:LL) (r:(V0_)→OO):(V0_)→OO:=
 a8v k b c d e f g h i l m n o p a q (fun t v=>a1i (a3h k a t) k v) r
def b6v (k:Nat) (h a c:Int) (l:LL) (m n o p q:Int) (u:LL) (w:Int) (x y:Bool) (d:Int) (e:LL) (f:(V0_)→OO):OO:=
 chk (decide (a=a)&&decide (0≤a)&&decide (a*((8:Nat):Int)≤140737488355328)) <|
 BK_ k N.j9k [.v [.i a,.i c],vi_ d] fun b=>
 BK_ k N.k2y [vr_ e] fun g=>
 chk (decide (0≤(b.t 0).asI)&&decide ((b.t 0).asI<((List.replicate (a:Int).toNat ([.i 0]:List T)).length:Int))) <|
 f (0,(a0x (List.replicate (a:Int).toNat ([.i 0]:List T)) (b.t 0).asI.toNat 0 [.i (g.t 0).asI]))
def b6w (k:Nat) (a b c:Int) (d:LL) (e f g h i:Int) (l:LL) (m:Int) (n o:Bool) (p:Int) (q:LL):OO:=
 b6v k a b c d e f g h i l m n o p q (fun v=>a1i (a4e k a b c d e f g h i l m n o p q) k v)
def a7g (k:Nat) (a c d:Int) (e:LL) (f g h l m:Int) (n:LL) (o:Int) (q t:Bool) (u:Int) (w:LL) (js:List Nat) (j:Nat) (s:St):OO:=IT_ k N.j6d [.p (S0_ a c d e f g h l m n o q t),vi_ u,vr_ w] [0] [.sr,.sr,.sr,.sl,.sr,.bl] d8o js j s
def a7h (k:Nat) (a c d:Int) (e:LL) (f g h l m:Int) (n:LL) (o:Int) (q t:Bool) (u:Int) (w:LL) (js:List Nat) (j:Nat) (s:St):OO:=IT_ k N.j6d [.p (S0_ a c d e f g h l m n o q t),vi_ u,vr_ w] [0] [.sr,.sr,.sr,.sr,.sl,.sr,.bl] d8n js j s
theorem e2w (k:Nat) (c d e:Int) (f:LL) (g h l m n:Int) (o:LL) (q:Int) (t u:Bool) (a:Int) (w:LL):a0a E P0 (k+1) N.j6d [.p (S0_ c d e f g h l m n o q t u),vi_ a,vr_ w]=b6w k c d e f g h l m n o q t u a w:=by
 have A:a0a E P0 (k+1) N.j6d [.p (S0_ c d e f g h l m n o q t u),vi_ a,vr_ w]=b6v k c d e f g h l m n o q t u a w (fun v=>a7g k c d e f g h l m n o q t u a w [] k (a5x c d e f g h l m n o q t u a w v)):=by kernel_rfl
 have B:∀ (x:LL) (y:Nat) (v:V3_),a7h k c d e f g h l m n o q t u a w [] (y+1) (a5w a x v)=a3h k a x (fun v=>a7h k c d e f g h l m n o q t u a w [] y (a5w a x v)) v:=by
  intro x y v;kernel_rfl
 have C:∀ (x:LL) (y:Nat) (v:V3_),a7h k c d e f g h l m n o q t u a w [] y (a5w a x v)=a1i (a3h k a x) y v:=by
  intro x y v;refine a1p (a5w a x) (a3h k a x) (fun y v=>(B x y v).trans ?_) y v;unfold a3h;rfl
 have D:∀ (z:Nat) (v:V0_),a7g k c d e f g h l m n o q t u a w [] (z+1) (a5x c d e f g h l m n o q t u a w v)=a8v k c d e f g h l m n o q t u a w (fun F v=>a7h k c d e f g h l m n o q t u a w [] k (a5w a F v)) (fun v=>a7g k c d e f g h l m n o q t u a w [] z (a5x c d e f g h l m n o q t u a w v)) v:=by
  intro z v;kernel_rfl
 have G:∀ (z:Nat) (v:V0_),a7g k c d e f g h l m n o q t u a w [] z (a5x c d e f g h l m n o q t u a w v)=a1i (a4e k c d e f g h l m n o q t u a w) z v:=by
  intro z v;refine a1p (a5x c d e f g h l m n o q t u a w) (a4e k c d e f g h l m n o q t u a w) (fun z v=>(D z v).trans ?_) z v;unfold a4e;simp only [C] <;> rfl
 rw [A];unfold b6w;simp only [G]
def c2w (k:Nat) (n o q:Int) (u:LL) (w x g m y:Int) (z:LL) (A:Int) (B C:Bool) (h:Int) (l:LL):OO:=
 bif (decide ((W64 (g - m))≥4)) then
  BK_ k N.k2u [.p (S0_ n o q u w x g m y z A B C)] fun a=>
  bif (!(a.t 0).asB) then
   some ⟨[.b false],[(S2_ a)]⟩
  else
   BK_ k N.j5n [vr_ l] fun D=>
   BK_ k N.j9r [.p (S2_ a),.v [.i (a.vt 0 6).asI,.i h,.r (D.t 0).asR]] fun c=>
   bif (!(c.t 0).asB) then
    some ⟨[.b false],[(S2_ c)]⟩
   else
    BK_ k N.j6d [.p (j3h c (W64 ((c.vt 0 6).asI+1))),vi_ h,vr_ l] fun e=>
    some ⟨[.b (e.t 0).asB],[(S2_ e)]⟩
 else
  BK_ k N.j5n [vr_ l] fun F=>
  BK_ k N.j9r [.p (S0_ n o q u w x g m y z A B C),.v [.i g,.i h,.r (F.t 0).asR]] fun d=>
  bif (!(d.t 0).asB) then
   some ⟨[.b false],[(S2_ d)]⟩
  else
   BK_ k N.j6d [.p (j3h d (W64 ((d.vt 0 6).asI+1))),vi_ h,vr_ l] fun f=>
   some ⟨[.b (f.t 0).asB],[(S2_ f)]⟩
theorem d8p (k:Nat) (a c d:Int) (e:LL) (f g h l m:Int) (n:LL) (o:Int) (q t:Bool) (u:Int) (w:LL):a0a E P0 (k+1) N.k2z [.p (S0_ a c d e f g h l m n o q t),vi_ u,vr_ w]=c2w k a c d e f g h l m n o q t u w:=by kernel_rfl
end
end Go.Proofs.YtgilihjnmjgciaaGreat.Ev
