/- What functions answer under the evaluator, as Lean terms, part 2: what FnExactWork needs. No condition. -/
import Derived.Test.YtkamidjllckpgaaGreatmTab
namespace Go.Proofs.YtkamidjllckpgaaGreat.Ev
open Go Go.Proofs
set_option linter.unusedVariables false
set_option maxRecDepth 100000
set_option maxHeartbeats 4000000
noncomputable section
def d9g (k:Nat) (a c d:Int):OO:=
 bif (decide (a≥c)) then some ⟨[.b (decide (a≤d))],[]⟩ else some ⟨[.b false],[]⟩
theorem g4e (k:Nat) (a b c:Int):a0a E P0 (k+1) N.j5z [.v [.i a],.v [.i b],.v [.i c]]=d9g k a b c:=by kernel_rfl
def e5f (k:Nat) (a c:Int):OO:=
 a0c (a0a E P0 k N.j5z [.v [.i a],.v [.i 3],.v [.i 5]]) fun d=>
 bif (d.t 0).asB then
  a0c (a0a E P0 k N.j5z [.v [.i c],.v [.i 1],.v [.i 8]]) fun e=>
  some ⟨[.b (e.t 0).asB],[]⟩
 else
  some ⟨[.b false],[]⟩
theorem g8y (k:Nat) (a b:Int):a0a E P0 (k+1) N.j7e [.v [.i a,.i b]]=e5f k a b:=by kernel_rfl
def d9h (k:Nat) (a:Int):OO:=
 a0c (a0a E P0 k N.j5z [.v [.i a],.v [.i 0],.v [.i 65535]]) fun c=>
 some ⟨[.b (c.t 0).asB],[]⟩
theorem g4f (k:Nat) (a:Int):a0a E P0 (k+1) N.k1t [.v [.i a]]=d9h k a:=by kernel_rfl
def c1p (k:Nat) (c:LL) (d:(Int)→OO):(Int)→OO:=fun a=>
 bif (decide (a<(c.length:Int))) then
  chk (decide (0≤a)&&decide (a<(c.length:Int))) <|
  a0c (a0a E P0 k N.k1t [.v [.i (at_ c a.toNat 0).asI]]) fun e=>
  bif (!(e.t 0).asB) then some ⟨[.b false],[]⟩ else d (W64 (a+1))
 else
  some ⟨[.b true],[]⟩
def f2p:List Nat:=[2,5,6,7]
def d0i (a:LL):(Int)→St:=fun c=>⟨a2y [(2,.b false),(5,.sl 3 a),(6,.i .i64 (a.length:Int)),(7,.i .i64 c)],a0y []⟩
def b2s (k:Nat) (a:LL) (b:(Int)→OO):(Int)→OO:=
 c1p k a b
def b6g (k:Nat) (b:LL) (a:(Int)→OO):OO:=
 a 0
def d4m (k:Nat) (a:LL):OO:=
 b6g k a (fun v=>a1l (b2s k a) k v)
def e6s (k:Nat) (a:LL) (js:List Nat) (j:Nat) (s:St):OO:=a3g E (LB E (a0a E P0 k) k [] N.j6u [.sr,.sl,.sr,.bl]) [] f2p (LK E (a0a E P0 k) k [] N.j6u [.v [.r a]] [.sr,.sl,.sr,.bl] js) j s
theorem f7q (k:Nat) (a:LL):a0a E P0 (k+1) N.j6u [.v [.r a]]=d4m k a:=
 Eq.trans (b:=b6g k a (fun v=>e6s k a [] k (d0i a v))) (by kernel_rfl) (congrArg (b6g k a) (funext fun v=>a0j (d0i a) (b2s k a) (fun j v=>by kernel_rfl) k v))
def c4q (k:Nat) (c:Int) (a:LL) (d:Bool):OO:=
 bif d then
  a0c (a0a E P0 k N.j5z [.v [.i (a.length:Int)],.v [.i 1],.v [.i 6]]) fun e=>
  bif (e.t 0).asB then
   a0c (a0a E P0 k N.j6u [.v [.r a]]) fun f=>
   some ⟨[.b (f.t 0).asB],[]⟩
  else
   some ⟨[.b false],[]⟩
 else
  bif (c == 5) then
   bif ((a.length:Int) == 2) then
    a0c (a0a E P0 k N.j6u [.v [.r a]]) fun g=>
    some ⟨[.b (g.t 0).asB],[]⟩
   else
    some ⟨[.b false],[]⟩
  else
   some ⟨[.b true],[]⟩
def d9i (k:Nat) (a g h c:Int) (d:LL):OO:=
 bif (a == 1) then
  a0c (a0a E P0 k N.j5z [.v [.i c],.v [.i 1],.v [.i 6]]) fun e=>
  some ⟨[.b (e.t 0).asB],[]⟩
 else
  bif (a == 6) then
   a0c (a0a E P0 k N.j5z [.v [.i c],.v [.i 1],.v [.i 6]]) fun f=>
   some ⟨[.b (f.t 0).asB],[]⟩
  else
   bif (a == 2) then c4q k a d true else c4q k a d (a == 3)
theorem g4g (k:Nat) (a b c d:Int) (e:LL):a0a E P0 (k+1) N.k3n [.v [.i a,.i b,.i c,.i d,.r e]]=d9i k a b c d e:=by kernel_rfl
def d9j (k:Nat) (a b:Int):OO:=
 a0c (a0a E P0 k N.j7e [.v [.i a,.i b]]) fun c=>
 bif (!(c.t 0).asB) then
  some ⟨[.i 0],[]⟩
 else
  some ⟨[.i (W64 (b*(W64 (a - 1))))],[]⟩
theorem g4h (k:Nat) (a b:Int):a0a E P0 (k+1) N.j9l [.v [.i a,.i b]]=d9j k a b:=by kernel_rfl
def e5g (k:Nat) (a d e b:Int) (c:LL):OO:=
 bif (a == 1) then
  some ⟨[.i b],[]⟩
 else
  bif (a == 6) then
   some ⟨[.i b],[]⟩
  else
   bif (a == 2) then
    some ⟨[.i (c.length:Int)],[]⟩
   else
    bif (a == 3) then
     some ⟨[.i (c.length:Int)],[]⟩
    else
     bif (a == 5) then some ⟨[.i 1],[]⟩ else some ⟨[.i 0],[]⟩
theorem g8z (k:Nat) (a b c d:Int) (e:LL):a0a E P0 (k+1) N.j7r [.v [.i a,.i b,.i c,.i d,.r e]]=e5g k a b c d e:=by kernel_rfl
def b2t (k:Nat) (f g a c b d:Int) (e:LL) (h:Bool):OO:=
 bif h then
  some ⟨[.i 1],[]⟩
 else
  a0c (a0a E P0 k N.k3n [.v [.i a,.i c,.i b,.i d,.r e]]) fun l=>
  bif (!(l.t 0).asB) then
   some ⟨[.i 3],[]⟩
  else
   bif (a != 4) then
    a0c (a0a E P0 k N.j9l [.v [.i f,.i g]]) fun m=>
    a0c (a0a E P0 k N.j7r [.v [.i a,.i c,.i b,.i d,.r e]]) fun n=>
    a0c (a0a E P0 k N.j5z [.v [.i b],.v [.i 0],.v [.i (W64 ((m.t 0).asI - (n.t 0).asI))]]) fun o=>
    bif (!(o.t 0).asB) then some ⟨[.i 2],[]⟩ else some ⟨[.i 0],[]⟩
   else
    some ⟨[.i 0],[]⟩
def d4n (k:Nat) (a b c d e f:Int) (g:LL):OO:=
 a0c (a0a E P0 k N.j7e [.v [.i a,.i b]]) fun h=>
 bif (!(h.t 0).asB) then
  b2t k a b c d e f g true
 else
  a0c (a0a E P0 k N.j5z [.v [.i c],.v [.i 1],.v [.i 6]]) fun l=>
  bif (!(l.t 0).asB) then
   b2t k a b c d e f g true
  else
   a0c (a0a E P0 k N.j5z [.v [.i d],.v [.i 1],.v [.i 999]]) fun m=>
   b2t k a b c d e f g (!(m.t 0).asB)
theorem f7r (k:Nat) (a b c d e f:Int) (g:LL):a0a E P0 (k+1) N.j9m [.v [.i a,.i b],.v [.i c,.i d,.i e,.i f,.r g]]=d4n k a b c d e f g:=by kernel_rfl
def c6y (k:Nat) (c d e f g h:Int) (l:LL) (m:Int) (a:LL) (n:Bool):OO:=
 a0c (a0a E P0 k N.j9m [.v [.i c,.i d],.v [.i e,.i f,.i g,.i h,.r l]]) fun o=>
 bif ((o.t 0).asI == 0) then
  a0c (a0a E P0 k N.j5z [.v [.i m],.v [.i 0],.v [.i 40]]) fun p=>
  bif (p.t 0).asB then
   bif (decide ((a.length:Int)≤6)) then
    a0c (a0a E P0 k N.j6u [.v [.r a]]) fun q=>
    bif (q.t 0).asB then some ⟨[.b n],[]⟩ else some ⟨[.b false],[]⟩
   else
    some ⟨[.b false],[]⟩
  else
   some ⟨[.b false],[]⟩
 else
  some ⟨[.b false],[]⟩
def e5h (k:Nat) (a b c d e f:Int) (g:LL) (h:Int) (l:LL) (m:Int):OO:=
 bif (m == 0) then
  c6y k a b c d e f g h l true
 else
  a0c (a0a E P0 k N.j5z [.v [.i m],.v [.i 4],.v [.i 7]]) fun n=>
  c6y k a b c d e f g h l ((n.t 0).asB)
theorem g9a (k:Nat) (a b c d e f:Int) (g:LL) (h:Int) (l:LL) (m:Int):a0a E P0 (k+1) N.k3o [.v [.i a,.i b],.v [.i c,.i d,.i e,.i f,.r g,.i h,.r l,.i m]]=e5h k a b c d e f g h l m:=by kernel_rfl
def d9k (k:Nat) (d e a c:Int):OO:=
 a0c (a0a E P0 k N.j5z [.v [.i a],.v [.i (-1)],.v [.i (W64 (d - 1))]]) fun f=>
 bif (f.t 0).asB then
  a0c (a0a E P0 k N.j5z [.v [.i c],.v [.i 0],.v [.i e]]) fun g=>
  bif (g.t 0).asB then
   bif (c == 0) then some ⟨[.b true],[]⟩ else some ⟨[.b (a != (-1))],[]⟩
  else
   some ⟨[.b false],[]⟩
 else
  some ⟨[.b false],[]⟩
theorem g4i (k:Nat) (a b c d:Int):a0a E P0 (k+1) N.k1u [.v [.i a,.i b],.v [.i c],.v [.i d]]=d9k k a b c d:=by kernel_rfl
def c7w (k:Nat) (c a d:Int):OO:=
 a0c (a0a E P0 k N.j7e [.v [.i c,.i a]]) fun e=>
 bif (e.t 0).asB then
  a0c (a0a E P0 k N.j5z [.v [.i d],.v [.i 0],.v [.i (W64 (a - 1))]]) fun f=>
  some ⟨[.b (f.t 0).asB],[]⟩
 else
  some ⟨[.b false],[]⟩
theorem e6t (k:Nat) (a b c:Int):a0a E P0 (k+1) N.j6z [.v [.i a,.i b],.v [.i c]]=c7w k a b c:=by kernel_rfl
def d9l (k:Nat) (c e:Int) (a:LL):OO:=
 bif ((a.length:Int) == (W64 (c - 1))) then
  a0c (a0a E P0 k N.j6u [.v [.r a]]) fun d=>
  some ⟨[.b (d.t 0).asB],[]⟩
 else
  some ⟨[.b false],[]⟩
theorem g4j (k:Nat) (a b:Int) (c:LL):a0a E P0 (k+1) N.j9n [.v [.i a,.i b],.v [.r c]]=d9l k a b c:=by kernel_rfl
def c1q (k:Nat) (m d e:Int) (n:LL) (o p q u w:Int) (c:LL) (x:Int) (y z:Bool) (f:(Int)→OO):(Int)→OO:=fun a=>
 bif (decide (a<(c.length:Int))) then
  chk (decide (0≤a)&&decide (a<(c.length:Int))) <|
  a0c (a0a E P0 k N.j6z [.v [.i d,.i e],.v [.i (at_ c a.toNat 0).asI]]) fun g=>
  bif (!(g.t 0).asB) then
   some ⟨[.b false],[]⟩
  else
   bif (decide (a > 0)) then
    chk (decide (0≤(W64 (a - 1)))&&decide ((W64 (a - 1))<(c.length:Int))) <|
    bif (decide ((at_ c (W64 (a - 1)).toNat 0).asI≥(at_ c a.toNat 0).asI)) then
     some ⟨[.b false],[]⟩
    else
     a0c (a0a E P0 k N.j9n [.v [.i d,.i e],.v [.r (at_ c a.toNat 1).asR]]) fun h=>
     bif (!(h.t 0).asB) then some ⟨[.b false],[]⟩ else f (W64 (a+1))
   else
    a0c (a0a E P0 k N.j9n [.v [.i d,.i e],.v [.r (at_ c a.toNat 1).asR]]) fun l=>
    bif (!(l.t 0).asB) then some ⟨[.b false],[]⟩ else f (W64 (a+1))
 else
  some ⟨[.b true],[]⟩
def f2q:List Nat:=[1,2,6,7,8]
def d0j (c d e:Int) (f:LL) (g h l m n:Int) (a:LL) (o:Int) (p q:Bool):(Int)→St:=fun r=>⟨a2y [(1,.ptr (1,0) 0),(2,.b false),(6,.sl 149 a),(7,.i .i64 (a.length:Int)),(8,.i .i64 r)],a0y [((1,0),.var [.i .i64 c,.i .i64 d,.i .i64 e,.sl 147 f,.i .i64 g,.i .i64 h,.i .i64 l,.i .i64 m,.i .i64 n,.sl 149 a,.i .i64 o,.b p,.b q])]⟩
def b2u (k:Nat) (a b c:Int) (d:LL) (e f g h i:Int) (l:LL) (m:Int) (n o:Bool) (p:(Int)→OO):(Int)→OO:=
 c1q k a b c d e f g h i l m n o p
def b6h (k:Nat) (b c d:Int) (e:LL) (f g h i l:Int) (m:LL) (n:Int) (o p:Bool) (a:(Int)→OO):OO:=
 a 0
def d4o (k:Nat) (a b c:Int) (d:LL) (e f g h i:Int) (l:LL) (m:Int) (n o:Bool):OO:=
 b6h k a b c d e f g h i l m n o (fun v=>a1l (b2u k a b c d e f g h i l m n o) k v)
def e6u (k:Nat) (a c d:Int) (e:LL) (f g h l m:Int) (n:LL) (o:Int) (p q:Bool) (js:List Nat) (j:Nat) (s:St):OO:=a3g E (LB E (a0a E P0 k) k [] N.j9o [.sr,.sl,.sr,.bl]) [] f2q (LK E (a0a E P0 k) k [] N.j9o [.v [.i a,.i c,.i d,.r e,.i f,.i g,.i h,.i l,.i m,.r n,.i o,.b p,.b q]] [.sr,.sl,.sr,.bl] js) j s
theorem f7s (k:Nat) (a c d:Int) (e:LL) (f g h l m:Int) (n:LL) (o:Int) (p q:Bool):a0a E P0 (k+1) N.j9o [.v [.i a,.i c,.i d,.r e,.i f,.i g,.i h,.i l,.i m,.r n,.i o,.b p,.b q]]=d4o k a c d e f g h l m n o p q:=
 Eq.trans (b:=b6h k a c d e f g h l m n o p q (fun v=>e6u k a c d e f g h l m n o p q [] k (d0j a c d e f g h l m n o p q v))) (by kernel_rfl) (congrArg (b6h k a c d e f g h l m n o p q) (funext fun v=>a0j (d0j a c d e f g h l m n o p q) (b2u k a c d e f g h l m n o p q) (fun j v=>by kernel_rfl) k v))
def e5i (k:Nat) (a:LL):OO:=
 bif (decide ((a.length:Int)≤12)) then
  a0c (a0a E P0 k N.j6u [.v [.r a]]) fun c=>
  some ⟨[.b (c.t 0).asB],[]⟩
 else
  some ⟨[.b false],[]⟩
theorem g9b (k:Nat) (a:LL):a0a E P0 (k+1) N.j9p [.v [.r a]]=e5i k a:=by kernel_rfl
def d9m (k:Nat) (a e:LL) (f:Bool) (g:LL) (c:Int):OO:=
 a0c (a0a E P0 k N.j5z [.v [.i c],.v [.i 0],.v [.i (W64 ((a.length:Int) - 1))]]) fun d=>
 some ⟨[.b (d.t 0).asB],[]⟩
theorem g4k (k:Nat) (a c:LL) (d:Bool) (e:LL) (f:Int):a0a E P0 (k+1) N.j7s [.v [.r a,.r c,.b d,.r e],.v [.i f]]=d9m k a c d e f:=by kernel_rfl
def b9x (k:Nat) (d e:LL) (g:Bool) (c:LL) (f:(Int)→OO):(Int)→OO:=fun a=>
 bif (decide (a<(c.length:Int))) then
  chk (decide (0≤a)&&decide (a<(c.length:Int))) <|
  a0c (a0a E P0 k N.j7s [.v [.r d,.r e,.b g,.r c],.v [.i (at_ c a.toNat 0).asI]]) fun h=>
  bif (!(h.t 0).asB) then
   some ⟨[.b false],[]⟩
  else
   bif (decide (a > 0)) then
    chk (decide (0≤(W64 (a - 1)))&&decide ((W64 (a - 1))<(c.length:Int))) <|
    bif (decide ((at_ c (W64 (a - 1)).toNat 0).asI≥(at_ c a.toNat 0).asI)) then
     some ⟨[.b false],[]⟩
    else
     f (W64 (a+1))
   else
    f (W64 (a+1))
 else
  a0c (a0a E P0 k N.j5z [.v [.i (d.length:Int)],.v [.i 1],.v [.i 20]]) fun l=>
  bif (l.t 0).asB then some ⟨[.b (decide ((e.length:Int)≤60))],[]⟩ else some ⟨[.b false],[]⟩
def g4l:List Nat:=[1,2,40,41,42,66,67,68,69,70,71,72,73,74,75]
def b2v (c d:LL) (e:Bool) (a:LL):(Int)→St:=fun f=>⟨a2y [(1,.ptr (1,0) 0),(2,.b false),(40,.sl 3 a),(41,.i .i64 (a.length:Int)),(42,.i .i64 f),(66,.skip),(67,.skip),(68,.skip),(69,.skip),(70,.skip),(71,.skip),(72,.skip),(73,.skip),(74,.skip),(75,.skip)],a0y [((1,0),.var [.sl 68 c,.sl 176 d,.b e,.sl 3 a])]⟩
def b9y (k:Nat) (d c:LL) (e:Bool) (f:LL) (g h:(Int)→OO):(Int)→OO:=fun a=>
 bif (decide (a<(c.length:Int))) then
  chk (decide (0≤a)&&decide (a<(c.length:Int))) <|
  a0c (a0a E P0 k N.j7s [.v [.r d,.r c,.b e,.r f],.v [.i (at_ c a.toNat 0).asI]]) fun l=>
  bif (!(l.t 0).asB) then
   some ⟨[.b false],[]⟩
  else
   a0c (a0a E P0 k N.j9p [.v [.r (at_ c a.toNat 1).asR]]) fun m=>
   bif (!(m.t 0).asB) then some ⟨[.b false],[]⟩ else h (W64 (a+1))
 else
  g 0
def g4m:List Nat:=[1,2,7,8,21,22,23,39,40,41,42,43,44,45,46,47,48,49,50,51,52,53,54,55,56,57,58,59,60,61,62,63,64,65,66,67,68,69,70,71,72,73,74,75]
def b2w (c a:LL) (d:Bool) (e:LL):(Int)→St:=fun f=>⟨a2y [(1,.ptr (1,0) 0),(2,.b false),(7,.skip),(8,.skip),(21,.sl 176 a),(22,.i .i64 (a.length:Int)),(23,.i .i64 f),(39,.skip),(40,.skip),(41,.skip),(42,.skip),(43,.skip),(44,.skip),(45,.skip),(46,.skip),(47,.skip),(48,.skip),(49,.skip),(50,.skip),(51,.skip),(52,.skip),(53,.skip),(54,.skip),(55,.skip),(56,.skip),(57,.skip),(58,.skip),(59,.skip),(60,.skip),(61,.skip),(62,.skip),(63,.skip),(64,.skip),(65,.skip),(66,.skip),(67,.skip),(68,.skip),(69,.skip),(70,.skip),(71,.skip),(72,.skip),(73,.skip),(74,.skip),(75,.skip)],a0y [((1,0),.var [.sl 68 c,.sl 176 a,.b d,.sl 3 e])]⟩
def b9z (k:Nat) (c g:LL) (h:Bool) (i:LL) (d e:(Int)→OO):(Int)→OO:=fun a=>
 bif (decide (a<(c.length:Int))) then
  chk (decide (0≤a)&&decide (a<(c.length:Int))) <|
  a0c (a0a E P0 k N.j9p [.v [.r (at_ c a.toNat 0).asR]]) fun f=>
  bif (!(f.t 0).asB) then some ⟨[.b false],[]⟩ else e (W64 (a+1))
 else
  d 0
def g4n:List Nat:=[1,2,6,7,8,10,11,12,20,21,22,23,24,25,26,27,28,29,30,31,32,33,34,35,36,37,38,39,40,41,42,43,44,45,46,47,48,49,50,51,52,53,54,55,56,57,58,59,60,61,62,63,64,65,66,67,68,69,70,71,72,73,74,75]
def b2x (a c:LL) (d:Bool) (e:LL):(Int)→St:=fun f=>⟨a2y [(1,.ptr (1,0) 0),(2,.b false),(6,.skip),(7,.skip),(8,.skip),(10,.sl 68 a),(11,.i .i64 (a.length:Int)),(12,.i .i64 f),(20,.skip),(21,.skip),(22,.skip),(23,.skip),(24,.skip),(25,.skip),(26,.skip),(27,.skip),(28,.skip),(29,.skip),(30,.skip),(31,.skip),(32,.skip),(33,.skip),(34,.skip),(35,.skip),(36,.skip),(37,.skip),(38,.skip),(39,.skip),(40,.skip),(41,.skip),(42,.skip),(43,.skip),(44,.skip),(45,.skip),(46,.skip),(47,.skip),(48,.skip),(49,.skip),(50,.skip),(51,.skip),(52,.skip),(53,.skip),(54,.skip),(55,.skip),(56,.skip),(57,.skip),(58,.skip),(59,.skip),(60,.skip),(61,.skip),(62,.skip),(63,.skip),(64,.skip),(65,.skip),(66,.skip),(67,.skip),(68,.skip),(69,.skip),(70,.skip),(71,.skip),(72,.skip),(73,.skip),(74,.skip),(75,.skip)],a0y [((1,0),.var [.sl 68 a,.sl 176 c,.b d,.sl 3 e])]⟩
def a4r (k:Nat) (a b:LL) (c:Bool) (d:LL) (e:(Int)→OO):(Int)→OO:=
 b9x k a b c d e
def a4s (k:Nat) (a b:LL) (c:Bool) (d:LL) (e:(Int)→OO):(Int)→OO:=
 b9y k a b c d (fun v=>a1l (a4r k a b c d) k v) e
def a8f (k:Nat) (a b:LL) (c:Bool) (d:LL) (e:(Int)→OO):(Int)→OO:=
 b9z k a b c d (fun v=>a1l (a4s k a b c d) k v) e
def d0k (k:Nat) (b c:LL) (d:Bool) (e:LL) (a:(Int)→OO):OO:=
 a 0
def d0l (k:Nat) (a b:LL) (c:Bool) (d:LL):OO:=
 d0k k a b c d (fun v=>a1l (a8f k a b c d) k v)
def b6i (k:Nat) (a c:LL) (d:Bool) (e:LL) (js:List Nat) (j:Nat) (s:St):OO:=a3g E (LB E (a0a E P0 k) k [] N.j6h [.sr,.sl,.sr,.bl]) [] g4n (LK E (a0a E P0 k) k [] N.j6h [.v [.r a,.r c,.b d,.r e]] [.sr,.sl,.sr,.bl] js) j s
def b6j (k:Nat) (a c:LL) (d:Bool) (e:LL) (js:List Nat) (j:Nat) (s:St):OO:=a3g E (LB E (a0a E P0 k) k [] N.j6h [.sr,.sr,.sl,.sr,.bl]) [] g4m (LK E (a0a E P0 k) k [] N.j6h [.v [.r a,.r c,.b d,.r e]] [.sr,.sr,.sl,.sr,.bl] js) j s
def b6k (k:Nat) (a c:LL) (d:Bool) (e:LL) (js:List Nat) (j:Nat) (s:St):OO:=a3g E (LB E (a0a E P0 k) k [] N.j6h [.sr,.sr,.sr,.sl,.sr,.bl]) [] g4l (LK E (a0a E P0 k) k [] N.j6h [.v [.r a,.r c,.b d,.r e]] [.sr,.sr,.sr,.sl,.sr,.bl] js) j s
theorem g9c (k:Nat) (a c:LL) (d:Bool) (e:LL):a0a E P0 (k+1) N.j6h [.v [.r a,.r c,.b d,.r e]]=d0l k a c d e:=by
 have i:a0a E P0 (k+1) N.j6h [.v [.r a,.r c,.b d,.r e]]=d0k k a c d e (fun v=>b6i k a c d e [] k (b2x a c d e v)):=by kernel_rfl
 have l:∀ (f:Nat) (v:Int),b6k k a c d e [] (f+1) (b2v a c d e v)=b9x k a c d e (fun v=>b6k k a c d e [] f (b2v a c d e v)) v:=by
  intro f v;kernel_rfl
 have m:∀ (f:Nat) (v:Int),b6k k a c d e [] f (b2v a c d e v)=a1l (a4r k a c d e) f v:=by
  intro f v
  refine a0j (b2v a c d e) (a4r k a c d e) (fun f v=>(l f v).trans ?_) f v
  unfold a4r
  rfl
 have n:∀ (g:Nat) (v:Int),b6j k a c d e [] (g+1) (b2w a c d e v)=b9y k a c d e (fun v=>b6k k a c d e [] k (b2v a c d e v)) (fun v=>b6j k a c d e [] g (b2w a c d e v)) v:=by
  intro g v;kernel_rfl
 have o:∀ (g:Nat) (v:Int),b6j k a c d e [] g (b2w a c d e v)=a1l (a4s k a c d e) g v:=by
  intro g v
  refine a0j (b2w a c d e) (a4s k a c d e) (fun g v=>(n g v).trans ?_) g v
  unfold a4s
  simp only [m] <;> rfl
 have p:∀ (h:Nat) (v:Int),b6i k a c d e [] (h+1) (b2x a c d e v)=b9z k a c d e (fun v=>b6j k a c d e [] k (b2w a c d e v)) (fun v=>b6i k a c d e [] h (b2x a c d e v)) v:=by
  intro h v;kernel_rfl
 have q:∀ (h:Nat) (v:Int),b6i k a c d e [] h (b2x a c d e v)=a1l (a8f k a c d e) h v:=by
  intro h v
  refine a0j (b2x a c d e) (a8f k a c d e) (fun h v=>(p h v).trans ?_) h v
  unfold a8f
  simp only [o] <;> rfl
 rw [i];unfold d0l
 simp only [q]
def d4p (k:Nat) (b a:Int):OO:=
 some ⟨[.i (W64 (6+a))],[]⟩
theorem f7t (k:Nat) (a b:Int):a0a E P0 (k+1) N.k3p [.v [.i a,.i b]]=d4p k a b:=by kernel_rfl
def c0a (k:Nat) (a c d:Int) (e:Bool):OO:=
 bif e then
  a0c (a0a E P0 k N.j5z [.v [.i (W64 (a - c))],.v [.i 0],.v [.i 4]]) fun f=>
  bif (f.t 0).asB then
   a0c (a0a E P0 k N.j5z [.v [.i d],.v [.i (-1)],.v [.i 1000]]) fun g=>
   some ⟨[.b (g.t 0).asB],[]⟩
  else
   some ⟨[.b false],[]⟩
 else
  some ⟨[.b false],[]⟩
def c6z (k:Nat) (y h l:Int) (c:LL) (m z d e n:Int) (A:LL) (f:Int) (B o:Bool) (g:(Int)→OO):(Int)→OO:=fun a=>
 bif (decide (a<(c.length:Int))) then
  chk (decide (0≤a)&&decide (a<(c.length:Int))) <|
  a0c (a0a E P0 k N.j6h [.v [.r (at_ c a.toNat 0).asR,.r (at_ c a.toNat 1).asR,.b (at_ c a.toNat 2).asB,.r (at_ c a.toNat 3).asR]]) fun p=>
  bif (!(p.t 0).asB) then
   some ⟨[.b false],[]⟩
  else
   a0c (a0a E P0 k N.k3p [.v [.i h,.i l]]) fun q=>
   bif (((at_ c a.toNat 0).asR.length:Int) != (q.t 0).asI) then
    some ⟨[.b false],[]⟩
   else
    bif (at_ c a.toNat 2).asB then
     bif (m != a) then
      bif (!o) then some ⟨[.b false],[]⟩ else g (W64 (a+1))
     else
      g (W64 (a+1))
    else
     g (W64 (a+1))
 else
  a0c (a0a E P0 k N.j5z [.v [.i d],.v [.i 0],.v [.i 60000]]) fun u=>
  bif (u.t 0).asB then
   a0c (a0a E P0 k N.j5z [.v [.i e],.v [.i 0],.v [.i 60000]]) fun w=>
   bif (w.t 0).asB then
    a0c (a0a E P0 k N.j5z [.v [.i n],.v [.i 0],.v [.i 60000]]) fun x=>
    c0a k d e f ((x.t 0).asB)
   else
    c0a k d e f false
  else
   c0a k d e f false
def g4o:List Nat:=[1,2,5,41,42,43,76,77,78,79,80,81,82,83,84,85,86,87,88,89,90,91,92,93,94,95,96,97,98,99,100,101,102]
def d9n (c d e:Int) (a:LL) (f g h l m:Int) (n:LL) (o:Int) (p q:Bool):(Int)→St:=fun r=>⟨a2y [(1,.ptr (1,0) 0),(2,.b false),(5,.skip),(41,.sl 147 a),(42,.i .i64 (a.length:Int)),(43,.i .i64 r),(76,.skip),(77,.skip),(78,.skip),(79,.skip),(80,.skip),(81,.skip),(82,.skip),(83,.skip),(84,.skip),(85,.skip),(86,.skip),(87,.skip),(88,.skip),(89,.skip),(90,.skip),(91,.skip),(92,.skip),(93,.skip),(94,.skip),(95,.skip),(96,.skip),(97,.skip),(98,.skip),(99,.skip),(100,.skip),(101,.skip),(102,.skip)],a0y [((1,0),.var [.i .i64 c,.i .i64 d,.i .i64 e,.sl 147 a,.i .i64 f,.i .i64 g,.i .i64 h,.i .i64 l,.i .i64 m,.sl 149 n,.i .i64 o,.b p,.b q])]⟩
def a8g (k:Nat) (a:(Int)→OO) (c:Bool):OO:=
 bif c then some ⟨[.b false],[]⟩ else a 0
def c0b (k:Nat) (a b c:Int) (d:LL) (e f g h i:Int) (l:LL) (m:Int) (n o:Bool) (p:(Int)→OO):(Int)→OO:=
 c6z k a b c d e f g h i l m n o p
def c3a (k:Nat) (e c d:Int) (f:LL) (g h l m n:Int) (o:LL) (p:Int) (q u:Bool) (a:(Int)→OO):OO:=
 a0c (a0a E P0 k N.j7e [.v [.i c,.i d]]) fun w=>
 bif (!(w.t 0).asB) then
  a8g k a true
 else
  bif ((f.length:Int) != c) then
   a8g k a true
  else
   a0c (a0a E P0 k N.j5z [.v [.i e],.v [.i 1],.v [.i 60000]]) fun x=>
   bif (!(x.t 0).asB) then
    a8g k a true
   else
    a0c (a0a E P0 k N.k1u [.v [.i c,.i d],.v [.i g],.v [.i h]]) fun y=>
    bif (!(y.t 0).asB) then
     a8g k a true
    else
     a0c (a0a E P0 k N.j9o [.v [.i e,.i c,.i d,.r f,.i g,.i h,.i l,.i m,.i n,.r o,.i p,.b q,.b u]]) fun z=>
     a8g k a (!(z.t 0).asB)
def e5j (k:Nat) (a b c:Int) (d:LL) (e f g h i:Int) (l:LL) (m:Int) (n o:Bool):OO:=
 c3a k a b c d e f g h i l m n o (fun v=>a1l (c0b k a b c d e f g h i l m n o) k v)
def f7u (k:Nat) (a c d:Int) (e:LL) (f g h l m:Int) (n:LL) (o:Int) (p q:Bool) (js:List Nat) (j:Nat) (s:St):OO:=a3g E (LB E (a0a E P0 k) k [] N.j6w [.sr,.sr,.sl,.sr,.bl]) [] g4o (LK E (a0a E P0 k) k [] N.j6w [.v [.i a,.i c,.i d,.r e,.i f,.i g,.i h,.i l,.i m,.r n,.i o,.b p,.b q]] [.sr,.sr,.sl,.sr,.bl] js) j s
theorem g9d (k:Nat) (a c d:Int) (e:LL) (f g h l m:Int) (n:LL) (o:Int) (p q:Bool):a0a E P0 (k+1) N.j6w [.v [.i a,.i c,.i d,.r e,.i f,.i g,.i h,.i l,.i m,.r n,.i o,.b p,.b q]]=e5j k a c d e f g h l m n o p q:=
 Eq.trans (b:=c3a k a c d e f g h l m n o p q (fun v=>f7u k a c d e f g h l m n o p q [] k (d9n a c d e f g h l m n o p q v))) (by kernel_rfl) (congrArg (c3a k a c d e f g h l m n o p q) (funext fun v=>a0j (d9n a c d e f g h l m n o p q) (c0b k a c d e f g h l m n o p q) (fun j v=>by kernel_rfl) k v))
def d9o (k:Nat) (c d b e a f:Int) (g:LL):OO:=
 a0c (a0a E P0 k N.j9m [.v [.i c,.i d],.v [.i b,.i e,.i a,.i f,.r g]]) fun h=>
 bif ((h.t 0).asI != 0) then
  some ⟨[.i 0,.i 0],[]⟩
 else
  bif (b == 4) then
   a0c (a0a E P0 k N.j9l [.v [.i c,.i d]]) fun l=>
   some ⟨[.i 0,.i (l.t 0).asI],[]⟩
  else
   a0c (a0a E P0 k N.j7r [.v [.i b,.i e,.i a,.i f,.r g]]) fun m=>
   some ⟨[.i a,.i (W64 (a+(m.t 0).asI))],[]⟩
theorem g4p (k:Nat) (a b c d e f:Int) (g:LL):a0a E P0 (k+1) N.j9q [.v [.i a,.i b],.v [.i c,.i d,.i e,.i f,.r g]]=d9o k a b c d e f g:=by kernel_rfl
def e5k (k:Nat) (d e f g h l:Int) (m:LL) (n o p q:Int) (u:LL):OO:=
 a0c (a0a E P0 k N.j9q [.v [.i d,.i e],.v [.i f,.i g,.i h,.i l,.r m]]) fun a=>
 a0c (a0a E P0 k N.j9q [.v [.i d,.i e],.v [.i n,.i o,.i p,.i q,.r u]]) fun c=>
 some ⟨[.b (decide ((if (c.t 0).asI > (a.t 0).asI then (c.t 0).asI else (a.t 0).asI)<(if (c.t 1).asI<(a.t 1).asI then (c.t 1).asI else (a.t 1).asI)))],[]⟩
theorem g9e (k:Nat) (a b c d e f:Int) (g:LL) (h l m n:Int) (o:LL):a0a E P0 (k+1) N.k3q [.v [.i a,.i b],.v [.i c,.i d,.i e,.i f,.r g],.v [.i h,.i l,.i m,.i n,.r o]]=e5k k a b c d e f g h l m n o:=by kernel_rfl
def c0c (k:Nat) (w d e:Int) (x:LL) (y z A B C:Int) (D:LL) (F:Int) (G H:Bool) (J K L M c:LL) (f g h l m:Int) (n:LL) (O:Int) (Q:LL) (R o:Int) (p q:(Int)→OO):(Int)→OO:=fun a=>
 bif (decide (a<f)) then
  chk (decide (0≤a)&&decide (a<(c.length:Int))) <|
  a0c (a0a E P0 k N.k3q [.v [.i d,.i e],.v [.i g,.i h,.i l,.i m,.r n],.v [.i (at_ c a.toNat 0).asI,.i (at_ c a.toNat 1).asI,.i (at_ c a.toNat 2).asI,.i (at_ c a.toNat 3).asI,.r (at_ c a.toNat 4).asR]]) fun u=>
  bif (u.t 0).asB then some ⟨[.b false],[]⟩ else q (W64 (a+1))
 else
  p (W64 (o+1))
def g4q:List Nat:=[1,2,4,8,9,10,18,19,20,33]
def b2y (c d e:Int) (f:LL) (g h l m n:Int) (o:LL) (p:Int) (q r:Bool) (t a u w x:LL) (y z A B C:Int) (D:LL) (F:Int) (G:LL) (H J:Int):(Int)→St:=fun K=>⟨a2y [(1,.ptr (1,0) 0),(2,.b false),(4,.ptr (4,0) 0),(8,.sl 72 a),(9,.i .i64 (a.length:Int)),(10,.i .i64 J),(18,.sl 72 x),(19,.i .i64 y),(20,.i .i64 K),(33,.undef)],a0y [((1,0),.var [.i .i64 c,.i .i64 d,.i .i64 e,.sl 147 f,.i .i64 g,.i .i64 h,.i .i64 l,.i .i64 m,.i .i64 n,.sl 149 o,.i .i64 p,.b q,.b r,.sl 70 t,.sl 72 a,.sl 76 u,.sl 106 w]),((4,0),.var [.i .i64 z,.i .i64 A,.i .i64 B,.i .i64 C,.sl 3 D,.i .i64 F,.sl 3 G,.i .i64 H])]⟩
def c0d (k:Nat) (e f g:Int) (h:LL) (i l m n o:Int) (p:LL) (q:Int) (r t:Bool) (u c w x:LL) (d:LL→Int→Int→Int→Int→Int→LL→Int→LL→Int→Int→(Int)→OO) (y:(Int)→OO):(Int)→OO:=fun a=>
 bif (decide (a<(c.length:Int))) then
  chk (decide (0≤a)&&decide (a<(c.length:Int))) <|
  chk (decide (0≤0)&&decide (0≤a)&&decide (a≤(c.length:Int))) <|
  d ((c.drop (0:Int).toNat).take (a.toNat - (0:Int).toNat)) (((c.drop (0:Int).toNat).take (a.toNat - (0:Int).toNat)).length:Int) ((at_ c a.toNat 0).asI) ((at_ c a.toNat 1).asI) ((at_ c a.toNat 2).asI) ((at_ c a.toNat 3).asI) ((at_ c a.toNat 4).asR) ((at_ c a.toNat 5).asI) ((at_ c a.toNat 6).asR) ((at_ c a.toNat 7).asI) a 0
 else
  some ⟨[.b true],[]⟩
def g4r:List Nat:=[1,2,8,9,10]
def a4t (c d e:Int) (f:LL) (g h l m n:Int) (o:LL) (p:Int) (q r:Bool) (t a u w:LL):(Int)→St:=fun x=>⟨a2y [(1,.ptr (1,0) 0),(2,.b false),(8,.sl 72 a),(9,.i .i64 (a.length:Int)),(10,.i .i64 x)],a0y [((1,0),.var [.i .i64 c,.i .i64 d,.i .i64 e,.sl 147 f,.i .i64 g,.i .i64 h,.i .i64 l,.i .i64 m,.i .i64 n,.sl 149 o,.i .i64 p,.b q,.b r,.sl 70 t,.sl 72 a,.sl 76 u,.sl 106 w])]⟩
def a8h (k:Nat) (a b c:Int) (d:LL) (e f g h i:Int) (l:LL) (m:Int) (n o:Bool) (p q r t u:LL) (w x y z A:Int) (B:LL) (C:Int) (D:LL) (F G:Int) (H J:(Int)→OO):(Int)→OO:=
 c0c k a b c d e f g h i l m n o p q r t u w x y z A B C D F G H J
def a8i (k:Nat) (a b c:Int) (d:LL) (e f g h i:Int) (l:LL) (m:Int) (n o:Bool) (p q r t:LL) (u:(Int)→OO):(Int)→OO:=
 c0d k a b c d e f g h i l m n o p q r t (fun w x y z A B C D F G H v=>a1l (a8h k a b c d e f g h i l m n o p q r t w x y z A B C D F G H u) k v) u
def d0m (k:Nat) (b c d:Int) (e:LL) (f g h i l:Int) (m:LL) (n:Int) (o p:Bool) (q r t u:LL) (a:(Int)→OO):OO:=
 a 0
def d0n (k:Nat) (a b c:Int) (d:LL) (e f g h i:Int) (l:LL) (m:Int) (n o:Bool) (p q r t:LL):OO:=
 d0m k a b c d e f g h i l m n o p q r t (fun v=>a1l (a8i k a b c d e f g h i l m n o p q r t) k v)
def a4x (k:Nat) (a c d:Int) (e:LL) (f g h l m:Int) (n:LL) (o:Int) (p q:Bool) (t u w x:LL) (js:List Nat) (j:Nat) (s:St):OO:=a3g E (LB E (a0a E P0 k) k [] N.j7a [.sr,.sl,.sr,.bl]) [] g4r (LK E (a0a E P0 k) k [] N.j7a [.v [.i a,.i c,.i d,.r e,.i f,.i g,.i h,.i l,.i m,.r n,.i o,.b p,.b q,.r t,.r u,.r w,.r x]] [.sr,.sl,.sr,.bl] js) j s
def b6l (k:Nat) (a c d:Int) (e:LL) (f g h l m:Int) (n:LL) (o:Int) (p q:Bool) (t u w x:LL) (js:List Nat) (j:Nat) (s:St):OO:=a3g E (LB E (a0a E P0 k) k [] N.j7a [.sr,.sl,.sr,.bl,.lp,.sr,.sr,.sl,.bl,.sr,.sr,.bl]) [] g4q (LK E (a0a E P0 k) k [] N.j7a [.v [.i a,.i c,.i d,.r e,.i f,.i g,.i h,.i l,.i m,.r n,.i o,.b p,.b q,.r t,.r u,.r w,.r x]] [.sr,.sl,.sr,.bl,.lp,.sr,.sr,.sl,.bl,.sr,.sr,.bl] js) j s
theorem g9f (k:Nat) (a c d:Int) (e:LL) (f g h l m:Int) (n:LL) (o:Int) (p q:Bool) (t u w x:LL):a0a E P0 (k+1) N.j7a [.v [.i a,.i c,.i d,.r e,.i f,.i g,.i h,.i l,.i m,.r n,.i o,.b p,.b q,.r t,.r u,.r w,.r x]]=d0n k a c d e f g h l m n o p q t u w x:=by
 have O:a0a E P0 (k+1) N.j7a [.v [.i a,.i c,.i d,.r e,.i f,.i g,.i h,.i l,.i m,.r n,.i o,.b p,.b q,.r t,.r u,.r w,.r x]]=d0m k a c d e f g h l m n o p q t u w x (fun v=>a4x k a c d e f g h l m n o p q t u w x [] k (a4t a c d e f g h l m n o p q t u w x v)):=by kernel_rfl
 have Q:∀ (y:Nat) (z:LL) (A B C D F:Int) (G:LL) (H:Int) (J:LL) (K L:Int) (M:Nat) (v:Int),b6l k a c d e f g h l m n o p q t u w x [y] (M+1) (b2y a c d e f g h l m n o p q t u w x z A B C D F G H J K L v)=c0c k a c d e f g h l m n o p q t u w x z A B C D F G H J K L (fun v=>a4x k a c d e f g h l m n o p q t u w x [] y (a4t a c d e f g h l m n o p q t u w x v)) (fun v=>b6l k a c d e f g h l m n o p q t u w x [y] M (b2y a c d e f g h l m n o p q t u w x z A B C D F G H J K L v)) v:=by
  intro y z A B C D F G H J K L M v;kernel_rfl
 have R:∀ (y:Nat) (z:LL) (A B C D F:Int) (G:LL) (H:Int) (J:LL) (K L:Int) (M:Nat) (v:Int),b6l k a c d e f g h l m n o p q t u w x [y] M (b2y a c d e f g h l m n o p q t u w x z A B C D F G H J K L v)=a1l (a8h k a c d e f g h l m n o p q t u w x z A B C D F G H J K L (fun v=>a4x k a c d e f g h l m n o p q t u w x [] y (a4t a c d e f g h l m n o p q t u w x v))) M v:=by
  intro y z A B C D F G H J K L M v
  refine a0j (b2y a c d e f g h l m n o p q t u w x z A B C D F G H J K L) (a8h k a c d e f g h l m n o p q t u w x z A B C D F G H J K L (fun v=>a4x k a c d e f g h l m n o p q t u w x [] y (a4t a c d e f g h l m n o p q t u w x v))) (fun M v=>(Q y z A B C D F G H J K L M v).trans ?_) M v
  unfold a8h
  rfl
 have S:∀ (y:Nat) (v:Int),a4x k a c d e f g h l m n o p q t u w x [] (y+1) (a4t a c d e f g h l m n o p q t u w x v)=c0d k a c d e f g h l m n o p q t u w x (fun U V W X Y Z aa ab ac ad ae v=>b6l k a c d e f g h l m n o p q t u w x [y] k (b2y a c d e f g h l m n o p q t u w x U V W X Y Z aa ab ac ad ae v)) (fun v=>a4x k a c d e f g h l m n o p q t u w x [] y (a4t a c d e f g h l m n o p q t u w x v)) v:=by
  intro y v;kernel_rfl
 have af:∀ (y:Nat) (v:Int),a4x k a c d e f g h l m n o p q t u w x [] y (a4t a c d e f g h l m n o p q t u w x v)=a1l (a8i k a c d e f g h l m n o p q t u w x) y v:=by
  intro y v
  refine a0j (a4t a c d e f g h l m n o p q t u w x) (a8i k a c d e f g h l m n o p q t u w x) (fun y v=>(S y v).trans ?_) y v
  unfold a8i
  simp only [R] <;> rfl
 rw [O];unfold d0n
 simp only [af]
def b2z (k:Nat) (a c d:Int) (e:LL) (f g h l m:Int) (n:LL) (o:Int) (p q:Bool) (u w x y:LL) (z:Bool):OO:=
 bif z then
  a0c (a0a E P0 k N.j6w [.v [.i a,.i c,.i d,.r e,.i f,.i g,.i h,.i l,.i m,.r n,.i o,.b p,.b q]]) fun A=>
  bif (A.t 0).asB then
   a0c (a0a E P0 k N.j7a [.v [.i a,.i c,.i d,.r e,.i f,.i g,.i h,.i l,.i m,.r n,.i o,.b p,.b q,.r u,.r w,.r x,.r y]]) fun B=>
   some ⟨[.b (B.t 0).asB],[]⟩
  else
   some ⟨[.b false],[]⟩
 else
  some ⟨[.b false],[]⟩
def c7a (k:Nat) (l d e:Int) (m:LL) (n o p q u:Int) (w:LL) (x:Int) (y z:Bool) (f a g h:LL) (A:(Int)→OO):(Int)→OO:=fun c=>
 bif (decide (c<(a.length:Int))) then
  chk (decide (0≤c)&&decide (c<(a.length:Int))) <|
  a0c (a0a E P0 k N.k3o [.v [.i d,.i e],.v [.i (at_ a c.toNat 0).asI,.i (at_ a c.toNat 1).asI,.i (at_ a c.toNat 2).asI,.i (at_ a c.toNat 3).asI,.r (at_ a c.toNat 4).asR,.i (at_ a c.toNat 5).asI,.r (at_ a c.toNat 6).asR,.i (at_ a c.toNat 7).asI]]) fun B=>
  bif (!(B.t 0).asB) then some ⟨[.b false],[]⟩ else A (W64 (c+1))
 else
  bif (decide ((f.length:Int)≤8)) then
   bif (decide ((a.length:Int)≤4)) then
    bif (decide ((g.length:Int)≤8)) then
     b2z k l d e m n o p q u w x y z f a g h (decide ((h.length:Int)≤400))
    else
     b2z k l d e m n o p q u w x y z f a g h false
   else
    b2z k l d e m n o p q u w x y z f a g h false
  else
   b2z k l d e m n o p q u w x y z f a g h false
def g4s:List Nat:=[1,2,5,7,8,9,20,21,22,23,24,25,26,27,28,29,30,31,32,33,34,35,36,37,38,39,40,41,42,43,44,45,46,47,48,49,50,51]
def d9p (c d e:Int) (f:LL) (g h l m n:Int) (o:LL) (p:Int) (q r:Bool) (t a u w:LL):(Int)→St:=fun x=>⟨a2y [(1,.ptr (1,0) 0),(2,.b false),(5,.skip),(7,.sl 72 a),(8,.i .i64 (a.length:Int)),(9,.i .i64 x),(20,.skip),(21,.skip),(22,.skip),(23,.skip),(24,.skip),(25,.skip),(26,.skip),(27,.skip),(28,.skip),(29,.skip),(30,.skip),(31,.skip),(32,.skip),(33,.skip),(34,.skip),(35,.skip),(36,.skip),(37,.skip),(38,.skip),(39,.skip),(40,.skip),(41,.skip),(42,.skip),(43,.skip),(44,.skip),(45,.skip),(46,.skip),(47,.skip),(48,.skip),(49,.skip),(50,.skip),(51,.skip)],a0y [((1,0),.var [.i .i64 c,.i .i64 d,.i .i64 e,.sl 147 f,.i .i64 g,.i .i64 h,.i .i64 l,.i .i64 m,.i .i64 n,.sl 149 o,.i .i64 p,.b q,.b r,.sl 70 t,.sl 72 a,.sl 76 u,.sl 106 w])]⟩
def c0e (k:Nat) (a b c:Int) (d:LL) (e f g h i:Int) (l:LL) (m:Int) (n o:Bool) (p q r t:LL) (u:(Int)→OO):(Int)→OO:=
 c7a k a b c d e f g h i l m n o p q r t u
def c3b (k:Nat) (b c d:Int) (e:LL) (f g h i l:Int) (m:LL) (n:Int) (o p:Bool) (q r t u:LL) (a:(Int)→OO):OO:=
 a 0
def e5l (k:Nat) (a b c:Int) (d:LL) (e f g h i:Int) (l:LL) (m:Int) (n o:Bool) (p q r t:LL):OO:=
 c3b k a b c d e f g h i l m n o p q r t (fun v=>a1l (c0e k a b c d e f g h i l m n o p q r t) k v)
def f7v (k:Nat) (a c d:Int) (e:LL) (f g h l m:Int) (n:LL) (o:Int) (p q:Bool) (t u w x:LL) (js:List Nat) (j:Nat) (s:St):OO:=a3g E (LB E (a0a E P0 k) k [] N.j9r [.sr,.sl,.sr,.bl]) [] g4s (LK E (a0a E P0 k) k [] N.j9r [.v [.i a,.i c,.i d,.r e,.i f,.i g,.i h,.i l,.i m,.r n,.i o,.b p,.b q,.r t,.r u,.r w,.r x]] [.sr,.sl,.sr,.bl] js) j s
theorem g9g (k:Nat) (a c d:Int) (e:LL) (f g h l m:Int) (n:LL) (o:Int) (p q:Bool) (t u w x:LL):a0a E P0 (k+1) N.j9r [.v [.i a,.i c,.i d,.r e,.i f,.i g,.i h,.i l,.i m,.r n,.i o,.b p,.b q,.r t,.r u,.r w,.r x]]=e5l k a c d e f g h l m n o p q t u w x:=
 Eq.trans (b:=c3b k a c d e f g h l m n o p q t u w x (fun v=>f7v k a c d e f g h l m n o p q t u w x [] k (d9p a c d e f g h l m n o p q t u w x v))) (by kernel_rfl) (congrArg (c3b k a c d e f g h l m n o p q t u w x) (funext fun v=>a0j (d9p a c d e f g h l m n o p q t u w x) (c0e k a c d e f g h l m n o p q t u w x) (fun j v=>by kernel_rfl) k v))
def d0o (k:Nat) (a c d:Int):OO:=
 a0c (a0a E P0 k N.j9l [.v [.i a,.i c]]) fun e=>
 a0c (a0a E P0 k N.j5z [.v [.i d],.v [.i 0],.v [.i (W64 ((e.t 0).asI - 1))]]) fun f=>
 some ⟨[.b (f.t 0).asB],[]⟩
theorem f2r (k:Nat) (a b c:Int):a0a E P0 (k+1) N.j9s [.v [.i a,.i b],.v [.i c]]=d0o k a b c:=by kernel_rfl
def d0p (k:Nat) (a c b:Int):OO:=
 a0c (a0a E P0 k N.j9s [.v [.i a,.i c],.v [.i b]]) fun d=>
 bif (!(d.t 0).asB) then
  some ⟨[.i (-1)],[]⟩
 else
  chk (!decide ((W64 (a - 1))=0)) <|
  some ⟨[.i (W64 (Int.tdiv b (W64 (a - 1))))],[]⟩
theorem f2s (k:Nat) (a b c:Int):a0a E P0 (k+1) N.j7t [.v [.i a,.i b],.v [.i c]]=d0p k a b c:=by kernel_rfl
def c7x (k:Nat) (a b d e f g:Int) (h:LL):OO:=
 a0c (a0a E P0 k N.j9q [.v [.i a,.i b],.v [.i d,.i e,.i f,.i g,.r h]]) fun c=>
 a0c (a0a E P0 k N.j7t [.v [.i a,.i b],.v [.i (c.t 0).asI]]) fun l=>
 a0c (a0a E P0 k N.j7t [.v [.i a,.i b],.v [.i (W64 ((c.t 1).asI - 1))]]) fun m=>
 some ⟨[.i (l.t 0).asI,.i (m.t 0).asI],[]⟩
theorem e6v (k:Nat) (a b c d e f:Int) (g:LL):a0a E P0 (k+1) N.j9t [.v [.i a,.i b],.v [.i c,.i d,.i e,.i f,.r g]]=c7x k a b c d e f g:=by kernel_rfl
def d4q (k:Nat) (g f a b c d:Int) (e:LL):OO:=
 a0c (a0a E P0 k N.j9m [.v [.i g,.i f],.v [.i a,.i b,.i c,.i d,.r e]]) fun l=>
 bif ((l.t 0).asI != 0) then
  some ⟨[.i 0],[]⟩
 else
  bif (a == 3) then
   a0c (a0a E P0 k N.j9t [.v [.i g,.i f],.v [.i a,.i b,.i c,.i d,.r e]]) fun h=>
   a0c (a0a E P0 k N.j7r [.v [.i a,.i b,.i c,.i d,.r e]]) fun m=>
   some ⟨[.i (W64 ((W64 ((W64 ((m.t 0).asI+(h.t 1).asI)) - (h.t 0).asI))+2))],[]⟩
  else
   bif (a == 4) then
    some ⟨[.i (W64 (f+1))],[]⟩
   else
    a0c (a0a E P0 k N.j7r [.v [.i a,.i b,.i c,.i d,.r e]]) fun n=>
    some ⟨[.i (W64 ((n.t 0).asI+1))],[]⟩
theorem f7w (k:Nat) (a b c d e f:Int) (g:LL):a0a E P0 (k+1) N.k1v [.v [.i a,.i b],.v [.i c,.i d,.i e,.i f,.r g]]=d4q k a b c d e f g:=by kernel_rfl
def c7y (k:Nat) (e a c:Int) (f:LL) (g h l m n:Int) (o:LL) (p:Int) (d q:Bool) (u:Int):OO:=
 a0c (a0a E P0 k N.j6w [.v [.i e,.i a,.i c,.r f,.i g,.i h,.i l,.i m,.i n,.r o,.i p,.b d,.b q]]) fun w=>
 bif (!(w.t 0).asB) then
  some ⟨[.i 1],[]⟩
 else
  bif d then
   some ⟨[.i 6],[]⟩
  else
   a0c (a0a E P0 k N.j9s [.v [.i a,.i c],.v [.i u]]) fun x=>
   bif (!(x.t 0).asB) then some ⟨[.i 2],[]⟩ else some ⟨[.i 0],[]⟩
theorem e6w (k:Nat) (a c d:Int) (e:LL) (f g h l m:Int) (n:LL) (o:Int) (p q:Bool) (t:Int):a0a E P0 (k+1) N.k1w [.v [.i a,.i c,.i d,.r e,.i f,.i g,.i h,.i l,.i m,.r n,.i o,.b p,.b q],.v [.i t]]=c7y k a c d e f g h l m n o p q t:=by kernel_rfl
def d4r (k:Nat) (c:Int) (d:LL) (a:Int):OO:=
 some ⟨[.b (c == a)],[[.i a]]⟩
theorem f7x (k:Nat) (a:Int) (b:LL) (c:Int):a0a E P0 (k+1) N.j7f [.v [.i a,.r b],.p [.i c]]=d4r k a b c:=by kernel_rfl
def a2r (k:Nat) (b:LL) (e:(V1_)→OO):(V1_)→OO:=fun (a,d)=>
 bif (decide (a<(b.length:Int))) then
  chk (decide (0≤a)&&decide (a<(b.length:Int))) <|
  a0c (a0a E P0 k N.j7f [.v [.i (at_ b a.toNat 0).asI,.r (at_ b a.toNat 1).asR],.p [.i d]]) fun c=>
  bif (c.t 0).asB then
   some ⟨[.i a],[[.i (c.vt 0 0).asI]]⟩
  else
   e ((W64 (a+1)),(c.vt 0 0).asI)
 else
  some ⟨[.i (-1)],[[.i d]]⟩
def a8v:List Nat:=[0,1,4,7,8]
def a3r (a:LL):(V1_)→St:=fun (b,c)=>⟨a2y [(0,.sl 149 a),(1,.clo N.j7f (some (1,0))),(4,.i .i64 0),(7,.i .i64 (a.length:Int)),(8,.i .i64 b)],a0y [((1,0),.var [.i .i64 c])]⟩
def a1t (k:Nat) (a:LL) (b:(V1_)→OO):(V1_)→OO:=
 a2r k a b
def a1w (k:Nat) (c:LL) (a:Int) (b:(V1_)→OO):OO:=
 b (0,a)
def a3y (k:Nat) (a:LL) (b:Int):OO:=
 a1w k a b (fun v=>a1l (a1t k a) k v)
def a8j (k:Nat) (a:LL) (b:Int) (js:List Nat) (j:Nat) (s:St):OO:=a3g E (LB E (a0a E P0 k) k [1] N.j9u [.sr,.sl,.sr,.bl]) [1] a8v (LK E (a0a E P0 k) k [1] N.j9u [.v [.r a],.c N.j7f (some [.i b])] [.sr,.sl,.sr,.bl] js) j s
theorem a9d (k:Nat) (a:LL) (d:Int):a0a E P0 (k+1) N.j9u [.v [.r a],.c N.j7f (some [.i d])]=a3y k a d:=
 Eq.trans (b:=a1w k a d (fun v=>a8j k a d [] k (a3r a v))) (by kernel_rfl) (congrArg (a1w k a d) (funext fun v=>a0j (a3r a) (a1t k a) (fun j v=>by kernel_rfl) k v))
def e5m (k:Nat) (e f g:Int) (h:LL) (l m n o p:Int) (a:LL) (q:Int) (u w:Bool) (b:Int):OO:=
 a0c (a0a E P0 k N.j9u [.v [.r a],.c N.j7f (some [.i b])]) fun d=>
 some ⟨[.i (d.t 0).asI],[]⟩
theorem g9h (k:Nat) (a c d:Int) (e:LL) (f g h l m:Int) (n:LL) (o:Int) (p q:Bool) (t:Int):a0a E P0 (k+1) N.k1x [.v [.i a,.i c,.i d,.r e,.i f,.i g,.i h,.i l,.i m,.r n,.i o,.b p,.b q],.v [.i t]]=e5m k a c d e f g h l m n o p q t:=by kernel_rfl
def d9q (k:Nat) (a:Int):OO:=
 a0c (a0a E P0 k N.j5z [.v [.i a],.v [.i 0],.v [.i 1099511627776]]) fun b=>
 bif (!(b.t 0).asB) then
  some ⟨[.i (-1)],[]⟩
 else
  some ⟨[.i (W64 ((W64 (a+2))+4))],[]⟩
theorem g4t (k:Nat) (a:Int):a0a E P0 (k+1) N.k1y [.v [.i a]]=d9q k a:=by kernel_rfl
def a5x (k:Nat) (b:LL) (c:Int) (d:(Int)→OO):(Int)→OO:=fun a=>
 bif (decide (a<(b.length:Int))) then
  chk (decide (0≤a)&&decide (a<(b.length:Int))) <|
  bif (c == (at_ b a.toNat 0).asI) then some ⟨[.i a],[]⟩ else d (W64 (a+1))
 else
  some ⟨[.i (-1)],[]⟩
def c7b:List Nat:=[0,1,4,7,8]
def b3a (a:LL) (b:Int):(Int)→St:=fun c=>⟨a2y [(0,.sl 3 a),(1,.i .i64 b),(4,.i .i64 0),(7,.i .i64 (a.length:Int)),(8,.i .i64 c)],a0y []⟩
def a3v (k:Nat) (a:LL) (b:Int) (c:(Int)→OO):(Int)→OO:=
 a5x k a b c
def a4h (k:Nat) (b:LL) (c:Int) (a:(Int)→OO):OO:=
 a 0
def b4k (k:Nat) (a:LL) (b:Int):OO:=
 a4h k a b (fun v=>a1l (a3v k a b) k v)
def c5p (k:Nat) (a:LL) (b:Int) (js:List Nat) (j:Nat) (s:St):OO:=a3g E (LB E (a0a E P0 k) k [] N.j9v [.sr,.sl,.sr,.bl]) [] c7b (LK E (a0a E P0 k) k [] N.j9v [.v [.r a],.v [.i b]] [.sr,.sl,.sr,.bl] js) j s
theorem c8x (k:Nat) (a:LL) (c:Int):a0a E P0 (k+1) N.j9v [.v [.r a],.v [.i c]]=b4k k a c:=
 Eq.trans (b:=a4h k a c (fun v=>c5p k a c [] k (b3a a c v))) (by kernel_rfl) (congrArg (a4h k a c) (funext fun v=>a0j (b3a a c) (a3v k a c) (fun j v=>by kernel_rfl) k v))
def a9e (k:Nat) (a:LL) (c:Int):OO:=
 a0c (a0a E P0 k N.j9v [.v [.r a],.v [.i c]]) fun d=>
 some ⟨[.b (decide ((d.t 0).asI≥0))],[]⟩
theorem c4r (k:Nat) (a:LL) (b:Int):a0a E P0 (k+1) N.k3r [.v [.r a],.v [.i b]]=a9e k a b:=by kernel_rfl
def c1r (k:Nat) (c:LL) (f:Int) (d:(V4_)→OO):(V4_)→OO:=fun (e,a)=>
 bif (decide (a<(c.length:Int))) then
  chk (decide (0≤a)&&decide (a<(c.length:Int))) <|
  bif ((at_ c a.toNat 0).asI == f) then
   d ((at_ c a.toNat 1).asR,(W64 (a+1)))
  else
   d (e,(W64 (a+1)))
 else
  a0c (a0a E P0 k N.j6a [.v [.r e]]) fun g=>
  some ⟨[.r (g.t 0).asR,.b true],[]⟩
def f2t:List Nat:=[1,4,5,6,34,35,36,47,48]
def d0q (a:LL) (c:Int):(V4_)→St:=fun (d,e)=>⟨a2y [(1,.i .i64 c),(4,.ref (4,0)),(5,.b false),(6,.sl 3 d),(34,.sl 176 a),(35,.i .i64 (a.length:Int)),(36,.i .i64 e),(47,.skip),(48,.skip)],a0y [((4,0),.row 3 true [])]⟩
def a7v (k:Nat) (c:LL) (a:Int) (d:(V4_)→OO) (e:Bool):OO:=
 bif e then
  some ⟨[.r [],.b false],[]⟩
 else
  chk (decide (0≤a)&&decide (a<(c.length:Int))) <|
  d ((at_ c a.toNat 0).asR,0)
def b3b (k:Nat) (a:LL) (b:Int) (c:(V4_)→OO):(V4_)→OO:=
 c1r k a b c
def b6m (k:Nat) (a g:LL) (e:Bool) (f:LL) (c:Int) (d:(V4_)→OO):OO:=
 a0c (a0a E P0 k N.j6h [.v [.r a,.r g,.b e,.r f]]) fun h=>
 bif (!(h.t 0).asB) then
  a7v k a c d true
 else
  bif e then
   a7v k a c d true
  else
   a0c (a0a E P0 k N.j7s [.v [.r a,.r g,.b e,.r f],.v [.i c]]) fun l=>
   bif (!(l.t 0).asB) then
    a7v k a c d true
   else
    a0c (a0a E P0 k N.k3r [.v [.r f],.v [.i c]]) fun m=>
    a7v k a c d ((m.t 0).asB)
def d4s (k:Nat) (c a:LL) (d:Bool) (e:LL) (b:Int):OO:=
 b6m k c a d e b (fun v=>a1l (b3b k a b) k v)
def e6x (k:Nat) (a c:LL) (d:Bool) (e:LL) (f:Int) (js:List Nat) (j:Nat) (s:St):OO:=a3g E (LB E (a0a E P0 k) k [] N.j9w [.sr,.sr,.sr,.sl,.sr,.bl]) [] f2t (LK E (a0a E P0 k) k [] N.j9w [.v [.r a,.r c,.b d,.r e],.v [.i f]] [.sr,.sr,.sr,.sl,.sr,.bl] js) j s
theorem f7y (k:Nat) (d a:LL) (e:Bool) (f:LL) (c:Int):a0a E P0 (k+1) N.j9w [.v [.r d,.r a,.b e,.r f],.v [.i c]]=d4s k d a e f c:=
 Eq.trans (b:=b6m k d a e f c (fun v=>e6x k d a e f c [] k (d0q a c v))) (by kernel_rfl) (congrArg (b6m k d a e f c) (funext fun v=>a0j (d0q a c) (b3b k a c) (fun j v=>by kernel_rfl) k v))
def d9r (k:Nat) (h l m:Int) (c:LL) (d e n o p:Int) (q:LL) (r:Int) (u w:Bool) (a f:Int):OO:=
 a0c (a0a E P0 k N.j5z [.v [.i a],.v [.i 0],.v [.i (W64 ((c.length:Int) - 1))]]) fun g=>
 bif (g.t 0).asB then
  chk (decide (0≤a)&&decide (a<(c.length:Int))) <|
  bif (!(at_ c a.toNat 2).asB) then
   bif (d != a) then some ⟨[.b true],[]⟩ else some ⟨[.b (decide (f<e))],[]⟩
  else
   some ⟨[.b false],[]⟩
 else
  some ⟨[.b false],[]⟩
theorem g4u (k:Nat) (a c d:Int) (e:LL) (f g h l m:Int) (n:LL) (o:Int) (p q:Bool) (t u:Int):a0a E P0 (k+1) N.k1z [.v [.i a,.i c,.i d,.r e,.i f,.i g,.i h,.i l,.i m,.r n,.i o,.b p,.b q],.v [.i t],.v [.i u]]=d9r k a c d e f g h l m n o p q t u:=by kernel_rfl
def b6n (k:Nat) (a:Outs) (c:Bool):OO:=
 bif c then
  some ⟨[.i 0,.b false],[]⟩
 else
  chk (decide ((0:Int)<((a.t 0).asR.length:Int))) <|
  some ⟨[.i (at_ (a.t 0).asR 0 0).asI,.b true],[]⟩
def d9s (k:Nat) (f g h:Int) (c:LL) (l m n o p:Int) (q:LL) (u:Int) (w x:Bool) (a e:Int):OO:=
 chk (decide (0≤a)&&decide (a<(c.length:Int))) <|
 a0c (a0a E P0 k N.k1y [.v [.i e]]) fun y=>
 a0c (a0a E P0 k N.j9w [.v [.r (at_ c a.toNat 0).asR,.r (at_ c a.toNat 1).asR,.b (at_ c a.toNat 2).asB,.r (at_ c a.toNat 3).asR],.v [.i (y.t 0).asI]]) fun d=>
 a0c (a0a E P0 k N.k1z [.v [.i f,.i g,.i h,.r c,.i l,.i m,.i n,.i o,.i p,.r q,.i u,.b w,.b x],.v [.i a],.v [.i e]]) fun z=>
 bif (!(z.t 0).asB) then
  b6n k d true
 else
  bif (!(d.t 1).asB) then b6n k d true else b6n k d (((d.t 0).asR.length:Int) != 1)
theorem g4v (k:Nat) (a c d:Int) (e:LL) (f g h l m:Int) (n:LL) (o:Int) (p q:Bool) (t u:Int):a0a E P0 (k+1) N.k3s [.v [.i a,.i c,.i d,.r e,.i f,.i g,.i h,.i l,.i m,.r n,.i o,.b p,.b q],.v [.i t],.v [.i u]]=d9s k a c d e f g h l m n o p q t u:=by kernel_rfl
def c7c (k:Nat) (b:LL) (d:(V1_)→OO):(V1_)→OO:=fun (c,a)=>
 bif (decide (a<(b.length:Int))) then
  chk (decide (0≤a)&&decide (a<(b.length:Int))) <|
  d ((c9d .i64 c (at_ b a.toNat 0).asI),(W64 (a+1)))
 else
  some ⟨[.i c],[]⟩
def g4w:List Nat:=[2,3,6,7,8,16]
def d9t (a:LL):(V1_)→St:=fun (b,c)=>⟨a2y [(2,.i .i64 0),(3,.i .i64 b),(6,.sl 3 a),(7,.i .i64 (a.length:Int)),(8,.i .i64 c),(16,.skip)],a0y []⟩
def c0f (k:Nat) (a:LL) (b:(V1_)→OO):(V1_)→OO:=
 c7c k a b
def c3c (k:Nat) (b:LL) (a:(V1_)→OO):OO:=
 a (0,0)
def e5n (k:Nat) (a:LL):OO:=
 c3c k a (fun v=>a1l (c0f k a) k v)
def f7z (k:Nat) (a:LL) (js:List Nat) (j:Nat) (s:St):OO:=a3g E (LB E (a0a E P0 k) k [] N.j7u [.sr,.sr,.sl,.sr,.bl]) [] g4w (LK E (a0a E P0 k) k [] N.j7u [.v [.r a]] [.sr,.sr,.sl,.sr,.bl] js) j s
theorem g9i (k:Nat) (a:LL):a0a E P0 (k+1) N.j7u [.v [.r a]]=e5n k a:=
 Eq.trans (b:=c3c k a (fun v=>f7z k a [] k (d9t a v))) (by kernel_rfl) (congrArg (c3c k a) (funext fun v=>a0j (d9t a) (c0f k a) (fun j v=>by kernel_rfl) k v))
def c3d (k:Nat) (a:LL) (b:Int):OO:=
 a0c (a0a E P0 k N.j7u [.v [.r a]]) fun c=>
 a0c (a0a E P0 k N.j5z [.v [.i b],.v [.i 0],.v [.i (W64 ((a.length:Int) - 1))]]) fun d=>
 bif (d.t 0).asB then
  chk (decide (0≤b)&&decide (b<(a.length:Int))) <|
  some ⟨[.i (c9d .i64 (c.t 0).asI (at_ a b.toNat 0).asI)],[]⟩
 else
  some ⟨[.i (c.t 0).asI],[]⟩
theorem d9u (k:Nat) (a:LL) (b:Int):a0a E P0 (k+1) N.k3t [.v [.r a],.v [.i b]]=c3d k a b:=by kernel_rfl
def c7d (k:Nat) (a:Outs) (f d:Int) (c:LL) (e:(V2_)→OO) (g:Bool):OO:=
 bif g then
  some ⟨[.r [],.b false],[]⟩
 else
  bif (!(a.t 1).asB) then
   chk (decide ((c.length+([[.i (a.t 0).asI]]:LL).length)*8≤140737488355328)) <|
   e (d,(W64 (d+1)),(c++([[.i (a.t 0).asI]]:LL)))
  else
   chk (decide ((c.length+([[.i (a.t 0).asI]]:LL).length)*8≤140737488355328)) <|
   e (f,(W64 (d+1)),(c++([[.i (a.t 0).asI]]:LL)))
def c7e (k:Nat) (h l m:Int) (f:LL) (n o p q u:Int) (w:LL) (x:Int) (y z:Bool) (A:Int) (g:(V2_)→OO):(V2_)→OO:=fun (a,d,c)=>
 bif (decide (d<(f.length:Int))) then
  a0c (a0a E P0 k N.k3s [.v [.i h,.i l,.i m,.r f,.i n,.i o,.i p,.i q,.i u,.r w,.i x,.b y,.b z],.v [.i d],.v [.i A]]) fun e=>
  bif (!(e.t 1).asB) then
   c7d k e a d c g (decide (a≥0))
  else
   c7d k e a d c g false
 else
  bif (decide (a≥0)) then
   a0c (a0a E P0 k N.k3t [.v [.r c],.v [.i a]]) fun B=>
   chk (decide (0≤a)&&decide (a<(c.length:Int))) <|
   some ⟨[.r (a0z c a.toNat 0 [.i (B.t 0).asI]),.b true],[]⟩
  else
   some ⟨[.r c,.b true],[]⟩
def g4x:List Nat:=[1,2,4,5,6,7,28,29,53,54,55,56,57,58,59,60,61]
def d9v (c d e:Int) (a:LL) (f g h l m:Int) (n:LL) (o:Int) (p q:Bool) (r:Int):(V2_)→St:=fun (t,u,w)=>⟨a2y [(1,.i .i64 r),(2,.ptr (2,0) 0),(4,.ref (4,0)),(5,.b false),(6,.ref (6,0)),(7,.i .i64 t),(28,.i .i64 (a.length:Int)),(29,.i .i64 u),(53,.skip),(54,.skip),(55,.skip),(56,.skip),(57,.skip),(58,.skip),(59,.skip),(60,.skip),(61,.skip)],a0y [((2,0),.var [.i .i64 c,.i .i64 d,.i .i64 e,.sl 147 a,.i .i64 f,.i .i64 g,.i .i64 h,.i .i64 l,.i .i64 m,.sl 149 n,.i .i64 o,.b p,.b q]),((4,0),.row 3 true []),((6,0),.row 3 true w)]⟩
def c0g (k:Nat) (a:(V2_)→OO) (c:Bool):OO:=
 bif c then some ⟨[.r [],.b false],[]⟩ else a ((-1),0,[])
def b3c (k:Nat) (a b c:Int) (d:LL) (e f g h i:Int) (l:LL) (m:Int) (n o:Bool) (p:Int) (q:(V2_)→OO):(V2_)→OO:=
 c7e k a b c d e f g h i l m n o p q
def c3e (k:Nat) (f c d:Int) (g:LL) (h l m n o:Int) (p:LL) (q:Int) (u e:Bool) (w:Int) (a:(V2_)→OO):OO:=
 a0c (a0a E P0 k N.j6w [.v [.i f,.i c,.i d,.r g,.i h,.i l,.i m,.i n,.i o,.r p,.i q,.b u,.b e]]) fun x=>
 bif (!(x.t 0).asB) then
  c0g k a true
 else
  bif e then
   c0g k a true
  else
   a0c (a0a E P0 k N.j6z [.v [.i c,.i d],.v [.i w]]) fun y=>
   c0g k a (!(y.t 0).asB)
def e5o (k:Nat) (a b c:Int) (d:LL) (e f g h i:Int) (l:LL) (m:Int) (n o:Bool) (p:Int):OO:=
 c3e k a b c d e f g h i l m n o p (fun v=>a1l (b3c k a b c d e f g h i l m n o p) k v)
def f8a (k:Nat) (a c d:Int) (e:LL) (f g h l m:Int) (n:LL) (o:Int) (p q:Bool) (t:Int) (js:List Nat) (j:Nat) (s:St):OO:=a3g E (LB E (a0a E P0 k) k [] N.j9x [.sr,.sr,.sr,.sr,.sl,.sr,.bl]) [] g4x (LK E (a0a E P0 k) k [] N.j9x [.v [.i a,.i c,.i d,.r e,.i f,.i g,.i h,.i l,.i m,.r n,.i o,.b p,.b q],.v [.i t]] [.sr,.sr,.sr,.sr,.sl,.sr,.bl] js) j s
theorem g9j (k:Nat) (a c d:Int) (e:LL) (f g h l m:Int) (n:LL) (o:Int) (p q:Bool) (t:Int):a0a E P0 (k+1) N.j9x [.v [.i a,.i c,.i d,.r e,.i f,.i g,.i h,.i l,.i m,.r n,.i o,.b p,.b q],.v [.i t]]=e5o k a c d e f g h l m n o p q t:=
 Eq.trans (b:=c3e k a c d e f g h l m n o p q t (fun v=>f8a k a c d e f g h l m n o p q t [] k (d9v a c d e f g h l m n o p q t v))) (by kernel_rfl) (congrArg (c3e k a c d e f g h l m n o p q t) (funext fun v=>a0j (d9v a c d e f g h l m n o p q t) (b3c k a c d e f g h l m n o p q t) (fun j v=>by kernel_rfl) k v))
def d0r (k:Nat) (a c b:Int):OO:=
 a0c (a0a E P0 k N.j6z [.v [.i a,.i c],.v [.i b]]) fun d=>
 bif (!(d.t 0).asB) then
  some ⟨[.i (-1)],[]⟩
 else
  chk (!decide (a=0)) <|
  some ⟨[.i (W64 ((W64 (a - 1)) - (Int.tmod b a)))],[]⟩
theorem f2u (k:Nat) (a b c:Int):a0a E P0 (k+1) N.k2a [.v [.i a,.i b],.v [.i c]]=d0r k a b c:=by kernel_rfl
def d9w (k:Nat) (a b c d:Int):OO:=
 a0c (a0a E P0 k N.j6z [.v [.i a,.i b],.v [.i c]]) fun e=>
 bif (!(e.t 0).asB) then
  some ⟨[.i (-1)],[]⟩
 else
  a0c (a0a E P0 k N.j5z [.v [.i d],.v [.i 0],.v [.i (W64 (a - 2))]]) fun f=>
  bif (!(f.t 0).asB) then
   some ⟨[.i (-1)],[]⟩
  else
   a0c (a0a E P0 k N.k2a [.v [.i a,.i b],.v [.i c]]) fun g=>
   chk (!decide (a=0)) <|
   some ⟨[.i (Int.tmod (W64 ((W64 ((g.t 0).asI+1))+d)) a)],[]⟩
theorem g4y (k:Nat) (a b c d:Int):a0a E P0 (k+1) N.k2b [.v [.i a,.i b],.v [.i c],.v [.i d]]=d9w k a b c d:=by kernel_rfl
def c4s (k:Nat) (n f g:Int) (o:LL) (p q u w x:Int) (y:LL) (z:Int) (A B:Bool) (h:Int) (c:Outs) (l:Int) (m:(V0_)→OO):(V0_)→OO:=fun (d,e)=>
 bif (decide (d<l)) then
  a0c (a0a E P0 k N.k2b [.v [.i f,.i g],.v [.i h],.v [.i d]]) fun a=>
  chk (decide (0≤(a.t 0).asI)&&decide ((a.t 0).asI<((c.t 0).asR.length:Int))) <|
  chk (decide ((e.length+([[.i (at_ (c.t 0).asR (a.t 0).asI.toNat 0).asI]]:LL).length)*8≤140737488355328)) <|
  m ((W64 (d+1)),(e++([[.i (at_ (c.t 0).asR (a.t 0).asI.toNat 0).asI]]:LL)))
 else
  some ⟨[.r e,.b true],[]⟩
def f8b:List Nat:=[1,2,4,5,6,8,22,23,38]
def d4t (a c d:Int) (e:LL) (f g h l m:Int) (n:LL) (o:Int) (p q:Bool) (r:Int) (u:Outs) (w:Int):(V0_)→St:=fun (x,y)=>⟨a2y [(1,.i .i64 r),(2,.ptr (2,0) 0),(4,.ref (4,0)),(5,.b false),(6,.ref (6,0)),(8,.ref (8,0)),(22,.i .i64 w),(23,.i .i64 x),(38,.skip)],a0y [((2,0),.var [.i .i64 a,.i .i64 c,.i .i64 d,.sl 147 e,.i .i64 f,.i .i64 g,.i .i64 h,.i .i64 l,.i .i64 m,.sl 149 n,.i .i64 o,.b p,.b q]),((4,0),.row 3 true []),((6,0),.row 3 true (u.t 0).asR),((8,0),.row 3 true y)]⟩
def a9f (k:Nat) (a b c:Int) (d:LL) (e f g h i:Int) (l:LL) (m:Int) (n o:Bool) (p:Int) (q:Outs) (r:Int) (t:(V0_)→OO):(V0_)→OO:=
 c4s k a b c d e f g h i l m n o p q r t
def c0h (k:Nat) (d a e:Int) (f:LL) (g h l m n:Int) (o:LL) (p:Int) (q u:Bool) (w:Int) (x:Outs→Int→(V0_)→OO):OO:=
 a0c (a0a E P0 k N.j9x [.v [.i d,.i a,.i e,.r f,.i g,.i h,.i l,.i m,.i n,.r o,.i p,.b q,.b u],.v [.i w]]) fun c=>
 bif (!(c.t 1).asB) then some ⟨[.r [],.b false],[]⟩ else x c (W64 (a - 1)) (0,[])
def d9x (k:Nat) (a b c:Int) (d:LL) (e f g h i:Int) (l:LL) (m:Int) (n o:Bool) (p:Int):OO:=
 c0h k a b c d e f g h i l m n o p (fun q r v=>a1l (a9f k a b c d e f g h i l m n o p q r) k v)
def f2v (k:Nat) (a c d:Int) (e:LL) (f g h l m:Int) (n:LL) (o:Int) (p q:Bool) (t:Int) (js:List Nat) (j:Nat) (s:St):OO:=a3g E (LB E (a0a E P0 k) k [] N.j9y [.sr,.sr,.sr,.sr,.sl,.sr,.bl]) [] f8b (LK E (a0a E P0 k) k [] N.j9y [.v [.i a,.i c,.i d,.r e,.i f,.i g,.i h,.i l,.i m,.r n,.i o,.b p,.b q],.v [.i t]] [.sr,.sr,.sr,.sr,.sl,.sr,.bl] js) j s
theorem g4z (k:Nat) (a c d:Int) (e:LL) (f g h l m:Int) (n:LL) (o:Int) (p q:Bool) (t:Int):a0a E P0 (k+1) N.j9y [.v [.i a,.i c,.i d,.r e,.i f,.i g,.i h,.i l,.i m,.r n,.i o,.b p,.b q],.v [.i t]]=d9x k a c d e f g h l m n o p q t:=
 Eq.trans (b:=c0h k a c d e f g h l m n o p q t (fun u w v=>f2v k a c d e f g h l m n o p q t [] k (d4t a c d e f g h l m n o p q t u w v))) (by kernel_rfl) (congrArg (c0h k a c d e f g h l m n o p q t) (funext fun u=>funext fun w=>funext fun v=>a0j (d4t a c d e f g h l m n o p q t u w) (a9f k a c d e f g h l m n o p q t u w) (fun j v=>by kernel_rfl) k v))
def d4u (k:Nat) (d e f:Int) (g:LL) (h l m n o:Int) (a:LL) (p:Int) (q u:Bool) (w:Int):OO:=
 a0c (a0a E P0 k N.k1x [.v [.i d,.i e,.i f,.r g,.i h,.i l,.i m,.i n,.i o,.r a,.i p,.b q,.b u],.v [.i w]]) fun c=>
 bif (decide ((c.t 0).asI≥0)) then
  chk (decide (0≤(c.t 0).asI)&&decide ((c.t 0).asI<(a.length:Int))) <|
  a0c (a0a E P0 k N.j6a [.v [.r (at_ a (c.t 0).asI.toNat 1).asR]]) fun y=>
  some ⟨[.r (y.t 0).asR,.b true],[]⟩
 else
  a0c (a0a E P0 k N.j9y [.v [.i d,.i e,.i f,.r g,.i h,.i l,.i m,.i n,.i o,.r a,.i p,.b q,.b u],.v [.i w]]) fun x=>
  some ⟨[.r (x.t 0).asR,.b (x.t 1).asB],[]⟩
theorem f8c (k:Nat) (a c d:Int) (e:LL) (f g h l m:Int) (n:LL) (o:Int) (p q:Bool) (t:Int):a0a E P0 (k+1) N.k2c [.v [.i a,.i c,.i d,.r e,.i f,.i g,.i h,.i l,.i m,.r n,.i o,.b p,.b q],.v [.i t]]=d4u k a c d e f g h l m n o p q t:=by kernel_rfl
def d4v (k:Nat) (a c b:Int):OO:=
 a0c (a0a E P0 k N.j9s [.v [.i a,.i c],.v [.i b]]) fun d=>
 bif (!(d.t 0).asB) then
  some ⟨[.i (-1)],[]⟩
 else
  chk (!decide ((W64 (a - 1))=0)) <|
  some ⟨[.i (Int.tmod b (W64 (a - 1)))],[]⟩
theorem f8d (k:Nat) (a b c:Int):a0a E P0 (k+1) N.k2d [.v [.i a,.i b],.v [.i c]]=d4v k a b c:=by kernel_rfl
def d0s (k:Nat) (g a c:Int) (h:LL) (l m n o p:Int) (q:LL) (u:Int) (w x:Bool) (d:Int):OO:=
 a0c (a0a E P0 k N.k1w [.v [.i g,.i a,.i c,.r h,.i l,.i m,.i n,.i o,.i p,.r q,.i u,.b w,.b x],.v [.i d]]) fun y=>
 bif ((y.t 0).asI != 0) then
  some ⟨[.i 0,.i (y.t 0).asI],[]⟩
 else
  a0c (a0a E P0 k N.j7t [.v [.i a,.i c],.v [.i d]]) fun z=>
  a0c (a0a E P0 k N.k2c [.v [.i g,.i a,.i c,.r h,.i l,.i m,.i n,.i o,.i p,.r q,.i u,.b w,.b x],.v [.i (z.t 0).asI]]) fun e=>
  bif (!(e.t 1).asB) then
   some ⟨[.i 0,.i 5],[]⟩
  else
   a0c (a0a E P0 k N.k2d [.v [.i a,.i c],.v [.i d]]) fun f=>
   chk (decide (0≤(f.t 0).asI)&&decide ((f.t 0).asI<((e.t 0).asR.length:Int))) <|
   some ⟨[.i (at_ (e.t 0).asR (f.t 0).asI.toNat 0).asI,.i 0],[]⟩
theorem f2w (k:Nat) (a c d:Int) (e:LL) (f g h l m:Int) (n:LL) (o:Int) (p q:Bool) (t:Int):a0a E P0 (k+1) N.j7v [.v [.i a,.i c,.i d,.r e,.i f,.i g,.i h,.i l,.i m,.r n,.i o,.b p,.b q],.v [.i t]]=d0s k a c d e f g h l m n o p q t:=by kernel_rfl
def a4m (k:Nat) (a e:Outs) (d:LL) (c:Int) (f:Bool):OO:=
 bif f then
  chk (decide (0≤c)&&decide (c<((a.t 9).asR.length:Int))) <|
  some ⟨[.i (a.t 0).asI,.i (a.t 1).asI,.i (a.t 2).asI,.r (a.t 3).asR,.i (a.t 4).asI,.i (a.t 5).asI,.i (a.t 6).asI,.i (a.t 7).asI,.i (a.t 8).asI,.r (a0z (a.t 9).asR c.toNat 1 [.r d]),.i (a.t 10).asI,.b (a.t 11).asB,.b (a.t 12).asB,.i 0],[]⟩
 else
  chk (decide (0≤c)&&decide (c≤((a.t 9).asR.length:Int))) <|
  chk (decide (((a.t 9).asR.length+([[.i (e.t 0).asI,.r d]]:LL).length)*32≤140737488355328)) <|
  some ⟨[.i (a.t 0).asI,.i (a.t 1).asI,.i (a.t 2).asI,.r (a.t 3).asR,.i (a.t 4).asI,.i (a.t 5).asI,.i (a.t 6).asI,.i (a.t 7).asI,.i (a.t 8).asI,.r ((a.t 9).asR.take c.toNat++([[.i (e.t 0).asI,.r d]]:LL)++(a.t 9).asR.drop c.toNat),.i (a.t 10).asI,.b (a.t 11).asB,.b (a.t 12).asB,.i 0],[]⟩
def a6g (k:Nat) (b c:Outs) (d:LL) (a:Int) (e:(Int)→OO) (f:Bool):OO:=
 bif f then
  e (W64 (a+1))
 else
  bif (decide (a<((b.t 9).asR.length:Int))) then
   chk (decide (0≤a)&&decide (a<((b.t 9).asR.length:Int))) <|
   a4m k b c d a ((at_ (b.t 9).asR a.toNat 0).asI == (c.t 0).asI)
  else
   a4m k b c d a false
def b7n (k:Nat) (b c:Outs) (d:LL) (e:(Int)→OO):(Int)→OO:=fun a=>
 bif (decide (a<((b.t 9).asR.length:Int))) then
  chk (decide (0≤a)&&decide (a<((b.t 9).asR.length:Int))) <|
  a6g k b c d a e (decide ((at_ (b.t 9).asR a.toNat 0).asI<(c.t 0).asI))
 else
  a6g k b c d a e false
def e6y:List Nat:=[6,7,8,10,11,13,67,68,69,70,71,72,73,74,75,76,77,78,79,80,81,82,83,84,85,86,87,88,89,90,91,92,93,94,95,96,97]
def c7z (a c:Outs) (d:LL):(Int)→St:=fun e=>⟨a2y [(6,.ptr (6,0) 0),(7,.i .i64 0),(8,.ptr (8,0) 0),(10,.i .i64 (c.t 0).asI),(11,.ref (11,0)),(13,.i .i64 e),(67,.skip),(68,.skip),(69,.skip),(70,.skip),(71,.skip),(72,.skip),(73,.skip),(74,.skip),(75,.skip),(76,.skip),(77,.skip),(78,.skip),(79,.skip),(80,.skip),(81,.skip),(82,.skip),(83,.skip),(84,.skip),(85,.skip),(86,.skip),(87,.skip),(88,.skip),(89,.skip),(90,.skip),(91,.skip),(92,.skip),(93,.skip),(94,.skip),(95,.skip),(96,.skip),(97,.skip)],Mem.put (a0y [((6,0),.var [.i .i64 0,.i .i64 0,.i .i64 0,.ref (6,4),.i .i64 0,.i .i64 0,.i .i64 0,.i .i64 0,.i .i64 0,.ref (6,10),.i .i64 0,.b false,.b false]),((6,4),.deep 147 [] none),((6,10),.deep 149 [] none),((8,0),.var [.i .i64 (a.t 0).asI,.i .i64 (a.t 1).asI,.i .i64 (a.t 2).asI,.ref (8,4),.i .i64 (a.t 4).asI,.i .i64 (a.t 5).asI,.i .i64 (a.t 6).asI,.i .i64 (a.t 7).asI,.i .i64 (a.t 8).asI,.ref (8,10),.i .i64 (a.t 10).asI,.b (a.t 11).asB,.b (a.t 12).asB]),((8,4),.deep 147 (a.t 3).asR none),((8,10),.deep 149 (a.t 9).asR none),((11,0),.row 3 true d)]) a2h .dead⟩
def b0a (k:Nat) (m c d:Int) (n:LL) (o p q u w:Int) (x:LL) (y:Int) (z A:Bool) (g B:Int) (a:Outs) (C:Outs→Outs→LL→(Int)→OO) (h:Int):OO:=
 bif (h != 0) then
  some ⟨[.i (a.t 0).asI,.i (a.t 1).asI,.i (a.t 2).asI,.r (a.t 3).asR,.i (a.t 4).asI,.i (a.t 5).asI,.i (a.t 6).asI,.i (a.t 7).asI,.i (a.t 8).asI,.r (a.t 9).asR,.i (a.t 10).asI,.b (a.t 11).asB,.b (a.t 12).asB,.i h],[]⟩
 else
  a0c (a0a E P0 k N.j7t [.v [.i c,.i d],.v [.i g]]) fun l=>
  a0c (a0a E P0 k N.k2c [.v [.i m,.i c,.i d,.r n,.i o,.i p,.i q,.i u,.i w,.r x,.i y,.b z,.b A],.v [.i (l.t 0).asI]]) fun e=>
  bif (!(e.t 1).asB) then
   some ⟨[.i (a.t 0).asI,.i (a.t 1).asI,.i (a.t 2).asI,.r (a.t 3).asR,.i (a.t 4).asI,.i (a.t 5).asI,.i (a.t 6).asI,.i (a.t 7).asI,.i (a.t 8).asI,.r (a.t 9).asR,.i (a.t 10).asI,.b (a.t 11).asB,.b (a.t 12).asB,.i 5],[]⟩
  else
   a0c (a0a E P0 k N.k2d [.v [.i c,.i d],.v [.i g]]) fun f=>
   chk (decide (0≤(f.t 0).asI)&&decide ((f.t 0).asI<((e.t 0).asR.length:Int))) <|
   C a l (a0z (e.t 0).asR (f.t 0).asI.toNat 0 [.i B]) 0
def b0b (k:Nat) (a b c:Int) (d:LL) (e f g h i:Int) (l:LL) (m:Int) (n o:Bool) (p q:Int) (r w:Outs) (u:Outs→Outs→LL→(Int)→OO) (x:Bool):OO:=
 bif x then
  b0a k a b c d e f g h i l m n o p q r u 3
 else
  b0a k a b c d e f g h i l m n o p q r u ((w.t 0).asI)
def a3n (k:Nat) (a b:Outs) (c:LL) (d:(Int)→OO):(Int)→OO:=
 b7n k a b c d
def b3d (k:Nat) (a c d:Int) (e:LL) (f g h l m:Int) (n:LL) (o:Int) (p q:Bool) (u w:Int) (y:Outs→Outs→LL→(Int)→OO):OO:=
 a0c (a0a E P0 k N.j6o [.v [.i a,.i c,.i d,.r e,.i f,.i g,.i h,.i l,.i m,.r n,.i o,.b p,.b q]]) fun z=>
 a0c (a0a E P0 k N.k1w [.v [.i a,.i c,.i d,.r e,.i f,.i g,.i h,.i l,.i m,.r n,.i o,.b p,.b q],.v [.i u]]) fun x=>
 bif ((x.t 0).asI == 0) then
  a0c (a0a E P0 k N.k1t [.v [.i w]]) fun A=>
  b0b k a c d e f g h l m n o p q u w z x y (!(A.t 0).asB)
 else
  b0b k a c d e f g h l m n o p q u w z x y false
def d0t (k:Nat) (a b c:Int) (d:LL) (e f g h i:Int) (l:LL) (m:Int) (n o:Bool) (p q:Int):OO:=
 b3d k a b c d e f g h i l m n o p q (fun r t u v=>a1l (a3n k r t u) k v)
def e2d (k:Nat) (a c d:Int) (e:LL) (f g h l m:Int) (n:LL) (o:Int) (p q:Bool) (t u:Int) (js:List Nat) (j:Nat) (s:St):OO:=a3g E (LB E (a0a E P0 k) k [] N.j6d [.sr,.sr,.sr,.sr,.sr,.sr,.sr,.sr,.sr,.sr,.sl,.bl]) [] e6y (LK E (a0a E P0 k) k [] N.j6d [.v [.i a,.i c,.i d,.r e,.i f,.i g,.i h,.i l,.i m,.r n,.i o,.b p,.b q],.v [.i t],.v [.i u]] [.sr,.sr,.sr,.sr,.sr,.sr,.sr,.sr,.sr,.sr,.sl,.bl] js) j s
theorem f2x (k:Nat) (a c d:Int) (e:LL) (f g h l m:Int) (n:LL) (o:Int) (p q:Bool) (t u:Int):a0a E P0 (k+1) N.j6d [.v [.i a,.i c,.i d,.r e,.i f,.i g,.i h,.i l,.i m,.r n,.i o,.b p,.b q],.v [.i t],.v [.i u]]=d0t k a c d e f g h l m n o p q t u:=
 Eq.trans (b:=b3d k a c d e f g h l m n o p q t u (fun w x y v=>e2d k a c d e f g h l m n o p q t u [] k (c7z w x y v))) (by kernel_rfl) (congrArg (b3d k a c d e f g h l m n o p q t u) (funext fun w=>funext fun x=>funext fun y=>funext fun v=>a0j (c7z w x y) (a3n k w x y) (fun j v=>by kernel_rfl) k v))
def d9y (k:Nat) (c d e:Int) (f:LL) (g h l m n:Int) (o:LL) (a:Int) (q p:Bool):OO:=
 bif (a == 0) then
  some ⟨[.b false],[[.i c,.i d,.i e,.r f,.i g,.i h,.i l,.i m,.i n,.r o,.i (-1),.b true,.b p]]⟩
 else
  bif (decide (a > 0)) then
   some ⟨[.b true],[[.i c,.i d,.i e,.r f,.i g,.i h,.i l,.i m,.i n,.r o,.i (W64 (a - 1)),.b q,.b p]]⟩
  else
   some ⟨[.b true],[[.i c,.i d,.i e,.r f,.i g,.i h,.i l,.i m,.i n,.r o,.i a,.b q,.b p]]⟩
theorem g5a (k:Nat) (a c d:Int) (e:LL) (f g h l m:Int) (n:LL) (o:Int) (q t:Bool):a0a E P0 (k+1) N.k2e [.p [.i a,.i c,.i d,.r e,.i f,.i g,.i h,.i l,.i m,.r n,.i o,.b q,.b t]]=d9y k a c d e f g h l m n o q t:=by kernel_rfl
def b7o (k:Nat) (c:LL) (e:Outs) (f:(V0_)→OO):(V0_)→OO:=fun (a,d)=>
 bif (decide (a<(c.length:Int))) then
  chk (decide (0≤a)&&decide (a<(c.length:Int))) <|
  a0c (a0a E P0 k N.j6a [.v [.r (at_ c a.toNat 1).asR]]) fun g=>
  chk (decide (0≤(at_ c a.toNat 0).asI)&&decide ((at_ c a.toNat 0).asI<(d.length:Int))) <|
  f ((W64 (a+1)),(a0z d (at_ c a.toNat 0).asI.toNat 0 [.r (g.t 0).asR]))
 else
  some ⟨[.r d,.r [],.b (e.t 2).asB,.r (e.t 3).asR],[]⟩
def e6z:List Nat:=[2,3,17,18,19,32,33]
def c8a (c:LL) (a:Outs):(V0_)→St:=fun (d,e)=>⟨a2y [(2,.ptr (2,0) 0),(3,.ptr (3,0) 0),(17,.sl 176 c),(18,.i .i64 (c.length:Int)),(19,.i .i64 d),(32,.skip),(33,.skip)],Mem.put (a0y [((2,0),.var [.ref (2,1),.ref (2,2),.b false,.ref (2,4)]),((2,1),.deep 68 [] none),((2,2),.deep 176 [] none),((2,4),.row 3 true []),((3,0),.var [.ref (3,1),.ref (3,2),.b (a.t 2).asB,.ref (3,4)]),((3,1),.deep 68 e none),((3,2),.deep 176 (a.t 1).asR none),((3,4),.row 3 true (a.t 3).asR)]) a2h .dead⟩
def c8b (k:Nat) (a:Outs) (c:Outs→(V0_)→OO) (d:Bool):OO:=
 bif d then
  some ⟨[.r (a.t 0).asR,.r (a.t 1).asR,.b (a.t 2).asB,.r (a.t 3).asR],[]⟩
 else
  c a (0,(a.t 0).asR)
def a6h (k:Nat) (a:LL) (b:Outs) (c:(V0_)→OO):(V0_)→OO:=
 b7o k a b c
def b3e (k:Nat) (c d:LL) (a:Bool) (e:LL) (f:Outs→(V0_)→OO):OO:=
 a0c (a0a E P0 k N.j6t [.v [.r c,.r d,.b a,.r e]]) fun g=>
 a0c (a0a E P0 k N.j6h [.v [.r c,.r d,.b a,.r e]]) fun h=>
 bif (!(h.t 0).asB) then c8b k g f true else c8b k g f a
def d0u (k:Nat) (b a:LL) (c:Bool) (d:LL):OO:=
 b3e k b a c d (fun e v=>a1l (a6h k a e) k v)
def e2e (k:Nat) (a c:LL) (d:Bool) (e:LL) (js:List Nat) (j:Nat) (s:St):OO:=a3g E (LB E (a0a E P0 k) k [] N.j7w [.sr,.sr,.sr,.sl,.sr,.bl]) [] e6z (LK E (a0a E P0 k) k [] N.j7w [.v [.r a,.r c,.b d,.r e]] [.sr,.sr,.sr,.sl,.sr,.bl] js) j s
theorem f2y (k:Nat) (c a:LL) (d:Bool) (e:LL):a0a E P0 (k+1) N.j7w [.v [.r c,.r a,.b d,.r e]]=d0u k c a d e:=
 Eq.trans (b:=b3e k c a d e (fun f v=>e2e k c a d e [] k (c8a a f v))) (by kernel_rfl) (congrArg (b3e k c a d e) (funext fun f=>funext fun v=>a0j (c8a a f) (a6h k a f) (fun j v=>by kernel_rfl) k v))
def b7p (k:Nat) (A:LL) (z:(V3_)→OO):(V3_)→OO:=fun (c,f,g,h,l,m,n,o,q,u,w,x,d,y)=>
 bif (decide (c<(A.length:Int))) then
  chk (decide (0≤c)&&decide (c<(d.length:Int))) <|
  bif (at_ d c.toNat 2).asB then
   z ((W64 (c+1)),f,g,h,l,m,n,o,q,u,w,x,d,y)
  else
   a0c (a0a E P0 k N.k2e [.p [.i f,.i g,.i h,.r d,.i l,.i m,.i n,.i o,.i q,.r y,.i u,.b w,.b x]]) fun a=>
   bif (!(a.t 0).asB) then
    some ⟨[.b false],[[.i (a.vt 0 0).asI,.i (a.vt 0 1).asI,.i (a.vt 0 2).asI,.r (a.vt 0 3).asR,.i (a.vt 0 4).asI,.i (a.vt 0 5).asI,.i (a.vt 0 6).asI,.i (a.vt 0 7).asI,.i (a.vt 0 8).asI,.r (a.vt 0 9).asR,.i (a.vt 0 10).asI,.b (a.vt 0 11).asB,.b (a.vt 0 12).asB]]⟩
   else
    chk (decide (0≤c)&&decide (c<((a.vt 0 3).asR.length:Int))) <|
    a0c (a0a E P0 k N.j7w [.v [.r (at_ (a.vt 0 3).asR c.toNat 0).asR,.r (at_ (a.vt 0 3).asR c.toNat 1).asR,.b (at_ (a.vt 0 3).asR c.toNat 2).asB,.r (at_ (a.vt 0 3).asR c.toNat 3).asR]]) fun e=>
    chk (decide (0≤c)&&decide (c<((a.vt 0 3).asR.length:Int))) <|
    chk (Nat.beq c.toNat c.toNat) <|
    z ((W64 (c+1)),(a.vt 0 0).asI,(a.vt 0 1).asI,(a.vt 0 2).asI,(a.vt 0 4).asI,(a.vt 0 5).asI,(a.vt 0 6).asI,(a.vt 0 7).asI,(a.vt 0 8).asI,(a.vt 0 10).asI,(a.vt 0 11).asB,(a.vt 0 12).asB,(a0z (a.vt 0 3).asR c.toNat 0 [.r (e.t 0).asR,.r (e.t 1).asR,.b (e.t 2).asB,.r (e.t 3).asR]),(a.vt 0 9).asR)
 else
  some ⟨[.b true],[[.i f,.i g,.i h,.r d,.i l,.i m,.i n,.i o,.i q,.r y,.i u,.b w,.b x]]⟩
def e7a:List Nat:=[0,2,8,9]
def c8c (a:LL):(V3_)→St:=fun (c,d,e,f,g,h,l,m,n,o,p,q,r,t)=>⟨a2y [(0,.ptr (0,0) 0),(2,.b false),(8,.i .i64 (a.length:Int)),(9,.i .i64 c)],Mem.put (a0y [((0,0),.var [.i .i64 d,.i .i64 e,.i .i64 f,.ref (0,4),.i .i64 g,.i .i64 h,.i .i64 l,.i .i64 m,.i .i64 n,.ref (0,10),.i .i64 o,.b p,.b q]),((0,4),.deep 147 r none),((0,10),.deep 149 t none)]) a2h .dead⟩
def b0c (k:Nat) (a:LL) (b:(V3_)→OO):(V3_)→OO:=
 b7p k a b
def b3f (k:Nat) (a b c:Int) (d:LL) (e f g h i:Int) (l:LL) (m:Int) (n o:Bool) (p:(V3_)→OO):OO:=
 p (0,a,b,c,e,f,g,h,i,m,n,o,d,l)
def d0v (k:Nat) (b c d:Int) (a:LL) (e f g h i:Int) (l:LL) (m:Int) (n o:Bool):OO:=
 b3f k b c d a e f g h i l m n o (fun v=>a1l (b0c k a) k v)
def e2f (k:Nat) (a c d:Int) (e:LL) (f g h l m:Int) (n:LL) (o:Int) (q t:Bool) (js:List Nat) (j:Nat) (s:St):OO:=a3g E (LB E (a0a E P0 k) k [0] N.j7g [.sr,.sl,.sr,.bl]) [0] e7a (LK E (a0a E P0 k) k [0] N.j7g [.p [.i a,.i c,.i d,.r e,.i f,.i g,.i h,.i l,.i m,.r n,.i o,.b q,.b t]] [.sr,.sl,.sr,.bl] js) j s
theorem f2z (k:Nat) (c d e:Int) (a:LL) (f g h l m:Int) (n:LL) (o:Int) (q t:Bool):a0a E P0 (k+1) N.j7g [.p [.i c,.i d,.i e,.r a,.i f,.i g,.i h,.i l,.i m,.r n,.i o,.b q,.b t]]=d0v k c d e a f g h l m n o q t:=
 Eq.trans (b:=b3f k c d e a f g h l m n o q t (fun v=>e2f k c d e a f g h l m n o q t [] k (c8c a v))) (by kernel_rfl) (congrArg (b3f k c d e a f g h l m n o q t) (funext fun v=>a0j (c8c a) (b0c k a) (fun j v=>by kernel_rfl) k v))
def f8e (k:Nat) (a b c:Int) (l:LL) (d e m f g:Int) (n:LL) (o:Int) (p q:Bool) (h:Int):OO:=
 some ⟨[.i a,.i g,.i h,.i b,.i c,.i f,.i d,.i e],[]⟩
theorem f8f (k:Nat) (a c d:Int) (e:LL) (f g h l m:Int) (n:LL) (o:Int) (p q:Bool) (t:Int):a0a E P0 (k+1) N.k3u [.v [.i a,.i c,.i d,.r e,.i f,.i g,.i h,.i l,.i m,.r n,.i o,.b p,.b q],.v [.i t]]=f8e k a c d e f g h l m n o p q t:=by kernel_rfl
def b3g (k:Nat) (d a c e f:Int) (g:Bool):OO:=
 bif g then
  a0c (a0a E P0 k N.j7e [.v [.i a,.i c]]) fun h=>
  bif (h.t 0).asB then
   a0c (a0a E P0 k N.j5z [.v [.i d],.v [.i 0],.v [.i (W64 (a - 1))]]) fun l=>
   bif (l.t 0).asB then
    a0c (a0a E P0 k N.k1u [.v [.i a,.i c],.v [.i e],.v [.i f]]) fun m=>
    some ⟨[.b (m.t 0).asB],[]⟩
   else
    some ⟨[.b false],[]⟩
  else
   some ⟨[.b false],[]⟩
 else
  some ⟨[.b false],[]⟩
def d4w (k:Nat) (f g a b c h d e:Int):OO:=
 a0c (a0a E P0 k N.j5z [.v [.i f],.v [.i 1],.v [.i 60000]]) fun l=>
 bif (l.t 0).asB then
  a0c (a0a E P0 k N.j5z [.v [.i g],.v [.i 0],.v [.i 60000]]) fun m=>
  bif (m.t 0).asB then
   a0c (a0a E P0 k N.j5z [.v [.i h],.v [.i 0],.v [.i 60000]]) fun n=>
   b3g k a b c d e ((n.t 0).asB)
  else
   b3g k a b c d e false
 else
  b3g k a b c d e false
theorem f8g (k:Nat) (a b c d e f g h:Int):a0a E P0 (k+1) N.k3v [.v [.i a,.i b,.i c,.i d,.i e,.i f,.i g,.i h]]=d4w k a b c d e f g h:=by kernel_rfl
def d0w (k:Nat) (a b c d e f g h:Int):OO:=
 a0c (a0a E P0 k N.k3v [.v [.i a,.i b,.i c,.i d,.i e,.i f,.i g,.i h]]) fun l=>
 bif (!(l.t 0).asB) then
  some ⟨[.r []],[]⟩
 else
  some ⟨[.r [[.i 21317],[.i a],[.i b],[.i c],[.i d],[.i e],[.i f],[.i (W64 (g+1))],[.i h]]],[]⟩
theorem f3a (k:Nat) (a b c d e f g h:Int):a0a E P0 (k+1) N.k3w [.v [.i a,.i b,.i c,.i d,.i e,.i f,.i g,.i h]]=d0w k a b c d e f g h:=by kernel_rfl
def b4p (k:Nat) (c a:Int):OO:=
 some ⟨[.b (c == a)],[[.i a]]⟩
theorem c5q (k:Nat) (a b:Int):a0a E P0 (k+1) N.j6i [.v [.i a],.p [.i b]]=b4p k a b:=by kernel_rfl
def a4e (k:Nat) (b:LL) (e:(V1_)→OO):(V1_)→OO:=fun (a,d)=>
 bif (decide (a<(b.length:Int))) then
  chk (decide (0≤a)&&decide (a<(b.length:Int))) <|
  a0c (a0a E P0 k N.j6i [.v [.i (at_ b a.toNat 0).asI],.p [.i d]]) fun c=>
  bif (c.t 0).asB then
   some ⟨[.i a],[[.i (c.vt 0 0).asI]]⟩
  else
   e ((W64 (a+1)),(c.vt 0 0).asI)
 else
  some ⟨[.i (-1)],[[.i d]]⟩
def c1s:List Nat:=[0,1,4,7,8]
def a7w (a:LL):(V1_)→St:=fun (b,c)=>⟨a2y [(0,.sl 3 a),(1,.clo N.j6i (some (1,0))),(4,.i .i64 0),(7,.i .i64 (a.length:Int)),(8,.i .i64 b)],a0y [((1,0),.var [.i .i64 c])]⟩
def a2z (k:Nat) (a:LL) (b:(V1_)→OO):(V1_)→OO:=
 a4e k a b
def a3h (k:Nat) (c:LL) (a:Int) (b:(V1_)→OO):OO:=
 b (0,a)
def a8r (k:Nat) (a:LL) (b:Int):OO:=
 a3h k a b (fun v=>a1l (a2z k a) k v)
def c0i (k:Nat) (a:LL) (b:Int) (js:List Nat) (j:Nat) (s:St):OO:=a3g E (LB E (a0a E P0 k) k [1] N.j9z [.sr,.sl,.sr,.bl]) [1] c1s (LK E (a0a E P0 k) k [1] N.j9z [.v [.r a],.c N.j6i (some [.i b])] [.sr,.sl,.sr,.bl] js) j s
theorem c2h (k:Nat) (a:LL) (d:Int):a0a E P0 (k+1) N.j9z [.v [.r a],.c N.j6i (some [.i d])]=a8r k a d:=
 Eq.trans (b:=a3h k a d (fun v=>c0i k a d [] k (a7w a v))) (by kernel_rfl) (congrArg (a3h k a d) (funext fun v=>a0j (a7w a) (a2z k a) (fun j v=>by kernel_rfl) k v))
def a3w (k:Nat) (e:(V6_)→OO):(V6_)→OO:=fun (a,c,b,f)=>
 bif (decide (c<(b.length:Int))) then
  chk (decide (0≤c)&&decide (c<(b.length:Int))) <|
  a0c (a0a E P0 k N.j6i [.v [.i (at_ b c.toNat 0).asI],.p [.i f]]) fun d=>
  bif (!(d.t 0).asB) then
   chk (decide (0≤a)&&decide (a<(b.length:Int))) <|
   e ((W64 (a+1)),(W64 (c+1)),(a0z b a.toNat 0 [.i (at_ b c.toNat 0).asI]),(d.vt 0 0).asI)
  else
   e (a,(W64 (c+1)),b,(d.vt 0 0).asI)
 else
  chk (decide (0≤a)&&decide (a≤(b.length:Int))&&decide ((b.length:Int)≤(b.length:Int))) <|
  chk (decide (0≤0)&&decide (0≤a)&&decide (a≤((a3t b a.toNat (List.replicate ((b.length:Int).toNat - a.toNat) [.i 0])).length:Int))) <|
  chk (decide (0<(a3t b a.toNat (List.replicate ((b.length:Int).toNat - a.toNat) [.i 0])).length)) <|
  some ⟨[.r ((a3t b a.toNat (List.replicate ((b.length:Int).toNat - a.toNat) [.i 0])).take (a.toNat - (0:Int).toNat))],[[.i f]]⟩
def c0j:List Nat:=[0,1,4,5,6,36,37,38,39,40,41]
def a6w:(V6_)→St:=fun (a,b,c,d)=>⟨a2y [(0,.ref (0,0)),(1,.clo N.j6i (some (1,0))),(4,.ref (4,0)),(5,.i .i64 a),(6,.i .i64 b),(36,.skip),(37,.skip),(38,.skip),(39,.skip),(40,.skip),(41,.skip)],a0y [((0,0),.row 3 true c),((1,0),.var [.i .i64 d]),((4,0),.row 3 true [])]⟩
def a1j (k:Nat) (a:(V6_)→OO):(V6_)→OO:=
 a3w k a
def a3a (k:Nat) (b:LL) (d:Int) (e:(V6_)→OO):OO:=
 a0c (a0a E P0 k N.j9z [.v [.r b],.c N.j6i (some [.i d])]) fun a=>
 bif ((a.t 0).asI == (-1)) then
  some ⟨[.r b],[[.i (a.vt 0 0).asI]]⟩
 else
  e ((a.t 0).asI,(W64 ((a.t 0).asI+1)),b,(a.vt 0 0).asI)
def a7x (k:Nat) (a:LL) (b:Int):OO:=
 a3a k a b (fun v=>a1l (a1j k) k v)
def b7q (k:Nat) (a:LL) (b:Int) (js:List Nat) (j:Nat) (s:St):OO:=a3g E (LB E (a0a E P0 k) k [1] N.k0a [.sr,.sr,.sr,.sl,.sr,.bl]) [1] c0j (LK E (a0a E P0 k) k [1] N.k0a [.v [.r a],.c N.j6i (some [.i b])] [.sr,.sr,.sr,.sl,.sr,.bl] js) j s
theorem c1t (k:Nat) (a:LL) (d:Int):a0a E P0 (k+1) N.k0a [.v [.r a],.c N.j6i (some [.i d])]=a7x k a d:=
 Eq.trans (b:=a3a k a d (fun v=>b7q k a d [] k (a6w v))) (by kernel_rfl) (congrArg (a3a k a d) (funext fun v=>a0j (a6w) (a1j k) (fun j v=>by kernel_rfl) k v))
def a4n (k:Nat) (d:Int) (f:LL) (a:Outs) (g:Bool):OO:=
 bif g then
  some ⟨[.r (a.t 0).asR,.r (a.t 1).asR,.b (a.t 2).asB,.r (a.t 3).asR,.b false],[]⟩
 else
  a0c (a0a E P0 k N.j6a [.v [.r f]]) fun e=>
  chk (decide (((a.t 1).asR.length+([[.i d,.r (e.t 0).asR]]:LL).length)*32≤140737488355328)) <|
  a0c (a0a E P0 k N.k0a [.v [.r (a.t 3).asR],.c N.j6i (some [.i d])]) fun h=>
  some ⟨[.r (a.t 0).asR,.r ((a.t 1).asR++([[.i d,.r (e.t 0).asR]]:LL)),.b (a.t 2).asB,.r (h.t 0).asR,.b true],[]⟩
def d0x (k:Nat) (g e:LL) (f:Bool) (h:LL) (a:Int) (c:LL):OO:=
 a0c (a0a E P0 k N.j6t [.v [.r g,.r e,.b f,.r h]]) fun d=>
 a0c (a0a E P0 k N.j6h [.v [.r g,.r e,.b f,.r h]]) fun l=>
 bif (!(l.t 0).asB) then
  a4n k a c d true
 else
  bif f then
   a4n k a c d true
  else
   a0c (a0a E P0 k N.j7s [.v [.r g,.r e,.b f,.r h],.v [.i a]]) fun m=>
   bif (!(m.t 0).asB) then
    a4n k a c d true
   else
    a0c (a0a E P0 k N.j9p [.v [.r c]]) fun n=>
    bif (!(n.t 0).asB) then
     a4n k a c d true
    else
     a4n k a c d ((e.length:Int) == 60)
theorem f3b (k:Nat) (a c:LL) (d:Bool) (e:LL) (f:Int) (g:LL):a0a E P0 (k+1) N.k2f [.v [.r a,.r c,.b d,.r e],.v [.i f],.v [.r g]]=d0x k a c d e f g:=by kernel_rfl
def c8d (k:Nat) (f g h:Int) (d:LL) (l m n o q:Int) (u:LL) (w:Int) (x y:Bool) (c z:Int) (A:LL):OO:=
 chk (decide (0≤c)&&decide (c<(d.length:Int))) <|
 bif (at_ d c.toNat 2).asB then
  some ⟨[.b true],[[.i f,.i g,.i h,.r d,.i l,.i m,.i n,.i o,.i q,.r u,.i w,.b x,.b y]]⟩
 else
  a0c (a0a E P0 k N.k2e [.p [.i f,.i g,.i h,.r d,.i l,.i m,.i n,.i o,.i q,.r u,.i w,.b x,.b y]]) fun a=>
  bif (!(a.t 0).asB) then
   some ⟨[.b false],[[.i (a.vt 0 0).asI,.i (a.vt 0 1).asI,.i (a.vt 0 2).asI,.r (a.vt 0 3).asR,.i (a.vt 0 4).asI,.i (a.vt 0 5).asI,.i (a.vt 0 6).asI,.i (a.vt 0 7).asI,.i (a.vt 0 8).asI,.r (a.vt 0 9).asR,.i (a.vt 0 10).asI,.b (a.vt 0 11).asB,.b (a.vt 0 12).asB]]⟩
  else
   chk (decide (0≤c)&&decide (c<((a.vt 0 3).asR.length:Int))) <|
   a0c (a0a E P0 k N.k2f [.v [.r (at_ (a.vt 0 3).asR c.toNat 0).asR,.r (at_ (a.vt 0 3).asR c.toNat 1).asR,.b (at_ (a.vt 0 3).asR c.toNat 2).asB,.r (at_ (a.vt 0 3).asR c.toNat 3).asR],.v [.i z],.v [.r A]]) fun e=>
   chk (decide (0≤c)&&decide (c<((a.vt 0 3).asR.length:Int))) <|
   chk (Nat.beq c.toNat c.toNat) <|
   some ⟨[.b true],[[.i (a.vt 0 0).asI,.i (a.vt 0 1).asI,.i (a.vt 0 2).asI,.r (a0z (a.vt 0 3).asR c.toNat 0 [.r (e.t 0).asR,.r (e.t 1).asR,.b (e.t 2).asB,.r (e.t 3).asR]),.i (a.vt 0 4).asI,.i (a.vt 0 5).asI,.i (a.vt 0 6).asI,.i (a.vt 0 7).asI,.i (a.vt 0 8).asI,.r (a.vt 0 9).asR,.i (a.vt 0 10).asI,.b (a.vt 0 11).asB,.b (a.vt 0 12).asB]]⟩
theorem e7b (k:Nat) (a c d:Int) (e:LL) (f g h l m:Int) (n:LL) (o:Int) (q t:Bool) (u w:Int) (x:LL):a0a E P0 (k+1) N.j7x [.p [.i a,.i c,.i d,.r e,.i f,.i g,.i h,.i l,.i m,.r n,.i o,.b q,.b t],.v [.i u],.v [.i w],.v [.r x]]=c8d k a c d e f g h l m n o q t u w x:=by kernel_rfl
def b7r (k:Nat) (A:LL) (B:(V3_)→OO):(V3_)→OO:=fun (e,g,h,l,m,n,o,q,f,u,w,x,y,z)=>
 bif (decide (e<(A.length:Int))) then
  a0c (a0a E P0 k N.k3u [.v [.i g,.i h,.i l,.r y,.i m,.i n,.i o,.i q,.i f,.r z,.i u,.b w,.b x],.v [.i e]]) fun d=>
  a0c (a0a E P0 k N.k3w [.v [.i (d.t 0).asI,.i (d.t 1).asI,.i (d.t 2).asI,.i (d.t 3).asI,.i (d.t 4).asI,.i (d.t 5).asI,.i (d.t 6).asI,.i (d.t 7).asI]]) fun C=>
  a0c (a0a E P0 k N.j7x [.p [.i g,.i h,.i l,.r y,.i m,.i n,.i o,.i q,.i f,.r z,.i u,.b w,.b x],.v [.i e],.v [.i (Int.tmod f 2)],.v [.r (C.t 0).asR]]) fun a=>
  bif (!(a.t 0).asB) then
   some ⟨[.b false],[[.i (a.vt 0 0).asI,.i (a.vt 0 1).asI,.i (a.vt 0 2).asI,.r (a.vt 0 3).asR,.i (a.vt 0 4).asI,.i (a.vt 0 5).asI,.i (a.vt 0 6).asI,.i (a.vt 0 7).asI,.i (a.vt 0 8).asI,.r (a.vt 0 9).asR,.i (a.vt 0 10).asI,.b (a.vt 0 11).asB,.b (a.vt 0 12).asB]]⟩
  else
   B ((W64 (e+1)),(a.vt 0 0).asI,(a.vt 0 1).asI,(a.vt 0 2).asI,(a.vt 0 4).asI,(a.vt 0 5).asI,(a.vt 0 6).asI,(a.vt 0 7).asI,(a.vt 0 8).asI,(a.vt 0 10).asI,(a.vt 0 11).asB,(a.vt 0 12).asB,(a.vt 0 3).asR,(a.vt 0 9).asR)
 else
  a0c (a0a E P0 k N.j7g [.p [.i g,.i h,.i l,.r y,.i m,.i n,.i o,.i q,.i f,.r z,.i u,.b w,.b x]]) fun c=>
  some ⟨[.b (c.t 0).asB],[[.i (c.vt 0 0).asI,.i (c.vt 0 1).asI,.i (c.vt 0 2).asI,.r (c.vt 0 3).asR,.i (c.vt 0 4).asI,.i (c.vt 0 5).asI,.i (c.vt 0 6).asI,.i (c.vt 0 7).asI,.i (c.vt 0 8).asI,.r (c.vt 0 9).asR,.i (c.vt 0 10).asI,.b (c.vt 0 11).asB,.b (c.vt 0 12).asB]]⟩
def e7c:List Nat:=[0,2,15,16,35,36]
def c8e (a:LL):(V3_)→St:=fun (c,d,e,f,g,h,l,m,n,o,p,q,r,t)=>⟨a2y [(0,.ptr (0,0) 0),(2,.b false),(15,.i .i64 (a.length:Int)),(16,.i .i64 c),(35,.skip),(36,.skip)],Mem.put (a0y [((0,0),.var [.i .i64 d,.i .i64 e,.i .i64 f,.ref (0,4),.i .i64 g,.i .i64 h,.i .i64 l,.i .i64 m,.i .i64 n,.ref (0,10),.i .i64 o,.b p,.b q]),((0,4),.deep 147 r none),((0,10),.deep 149 t none)]) a2h .dead⟩
def b0d (k:Nat) (a:LL) (b:(V3_)→OO):(V3_)→OO:=
 b7r k a b
def b3h (k:Nat) (a b c:Int) (d:LL) (e f g h i:Int) (l:LL) (m:Int) (n o:Bool) (p:(V3_)→OO):OO:=
 p (0,a,b,c,e,f,g,h,(W64 (i+1)),m,n,o,d,l)
def d0y (k:Nat) (b c d:Int) (a:LL) (e f g h i:Int) (l:LL) (m:Int) (n o:Bool):OO:=
 b3h k b c d a e f g h i l m n o (fun v=>a1l (b0d k a) k v)
def e2g (k:Nat) (a c d:Int) (e:LL) (f g h l m:Int) (n:LL) (o:Int) (q t:Bool) (js:List Nat) (j:Nat) (s:St):OO:=a3g E (LB E (a0a E P0 k) k [0] N.k0b [.sr,.sr,.sl,.sr,.bl]) [0] e7c (LK E (a0a E P0 k) k [0] N.k0b [.p [.i a,.i c,.i d,.r e,.i f,.i g,.i h,.i l,.i m,.r n,.i o,.b q,.b t]] [.sr,.sr,.sl,.sr,.bl] js) j s
theorem f3c (k:Nat) (c d e:Int) (a:LL) (f g h l m:Int) (n:LL) (o:Int) (q t:Bool):a0a E P0 (k+1) N.k0b [.p [.i c,.i d,.i e,.r a,.i f,.i g,.i h,.i l,.i m,.r n,.i o,.b q,.b t]]=d0y k c d e a f g h l m n o q t:=
 Eq.trans (b:=b3h k c d e a f g h l m n o q t (fun v=>e2g k c d e a f g h l m n o q t [] k (c8e a v))) (by kernel_rfl) (congrArg (b3h k c d e a f g h l m n o q t) (funext fun v=>a0j (c8e a) (b0d k a) (fun j v=>by kernel_rfl) k v))
def c8f (k:Nat) (d e f:Int) (g:LL) (h l m n o:Int) (q:LL) (u:Int) (w x:Bool):OO:=
 a0c (a0a E P0 k N.j7g [.p [.i d,.i e,.i f,.r g,.i h,.i l,.i m,.i n,.i o,.r q,.i u,.b w,.b x]]) fun a=>
 bif (!(a.t 0).asB) then
  some ⟨[.b false],[[.i (a.vt 0 0).asI,.i (a.vt 0 1).asI,.i (a.vt 0 2).asI,.r (a.vt 0 3).asR,.i (a.vt 0 4).asI,.i (a.vt 0 5).asI,.i (a.vt 0 6).asI,.i (a.vt 0 7).asI,.i (a.vt 0 8).asI,.r (a.vt 0 9).asR,.i (a.vt 0 10).asI,.b (a.vt 0 11).asB,.b (a.vt 0 12).asB]]⟩
 else
  a0c (a0a E P0 k N.k0b [.p [.i (a.vt 0 0).asI,.i (a.vt 0 1).asI,.i (a.vt 0 2).asI,.r (a.vt 0 3).asR,.i (a.vt 0 4).asI,.i (a.vt 0 5).asI,.i (a.vt 0 6).asI,.i (a.vt 0 6).asI,.i (a.vt 0 8).asI,.r (a.vt 0 9).asR,.i (a.vt 0 10).asI,.b (a.vt 0 11).asB,.b (a.vt 0 12).asB]]) fun c=>
  some ⟨[.b (c.t 0).asB],[[.i (c.vt 0 0).asI,.i (c.vt 0 1).asI,.i (c.vt 0 2).asI,.r (c.vt 0 3).asR,.i (c.vt 0 4).asI,.i (c.vt 0 5).asI,.i (c.vt 0 6).asI,.i (c.vt 0 7).asI,.i (c.vt 0 8).asI,.r (c.vt 0 9).asR,.i (c.vt 0 10).asI,.b (c.vt 0 11).asB,.b (c.vt 0 12).asB]]⟩
theorem e7d (k:Nat) (a c d:Int) (e:LL) (f g h l m:Int) (n:LL) (o:Int) (q t:Bool):a0a E P0 (k+1) N.k3x [.p [.i a,.i c,.i d,.r e,.i f,.i g,.i h,.i l,.i m,.r n,.i o,.b q,.b t]]=c8f k a c d e f g h l m n o q t:=by kernel_rfl
def d9z (k:Nat) (a:Int):OO:=
 bif (decide (a<0)) then some ⟨[.i (-1)],[]⟩ else some ⟨[.i (W64 (2+(Int.tmod a 4)))],[]⟩
theorem g5b (k:Nat) (a:Int):a0a E P0 (k+1) N.k3y [.v [.i a]]=d9z k a:=by kernel_rfl
def e5p (k:Nat) (c d:Int) (a:LL):OO:=
 a0c (a0a E P0 k N.j5z [.v [.i c],.v [.i 0],.v [.i 60000]]) fun e=>
 bif (e.t 0).asB then
  a0c (a0a E P0 k N.j5z [.v [.i d],.v [.i 0],.v [.i 7]]) fun f=>
  bif (f.t 0).asB then
   a0c (a0a E P0 k N.j5z [.v [.i (a.length:Int)],.v [.i 2],.v [.i 4]]) fun g=>
   bif (g.t 0).asB then
    a0c (a0a E P0 k N.j6u [.v [.r a]]) fun h=>
    some ⟨[.b (h.t 0).asB],[]⟩
   else
    some ⟨[.b false],[]⟩
  else
   some ⟨[.b false],[]⟩
 else
  some ⟨[.b false],[]⟩
theorem g9k (k:Nat) (a b:Int) (c:LL):a0a E P0 (k+1) N.k3z [.v [.i a,.i b,.r c]]=e5p k a b c:=by kernel_rfl
def e0a (k:Nat) (b c:Int) (a:LL):OO:=
 a0c (a0a E P0 k N.k3z [.v [.i b,.i c,.r a]]) fun d=>
 bif (!(d.t 0).asB) then
  some ⟨[.r []],[]⟩
 else
  chk (decide ((([[.i 21322],[.i b],[.i c],[.i (a.length:Int)]]:LL).length+a.length)*8≤140737488355328)) <|
  some ⟨[.r (([[.i 21322],[.i b],[.i c],[.i (a.length:Int)]]:LL)++a)],[]⟩
theorem g5c (k:Nat) (a b:Int) (c:LL):a0a E P0 (k+1) N.k4a [.v [.i a,.i b,.r c]]=e0a k a b c:=by kernel_rfl
def b3i (k:Nat) (A:LL) (e B:Int) (C:LL) (D:(V3_)→OO):(V3_)→OO:=fun (d,f,g,h,l,m,n,o,q,u,w,x,y,z)=>
 bif (decide (d<(A.length:Int))) then
  a0c (a0a E P0 k N.k3y [.v [.i e]]) fun F=>
  a0c (a0a E P0 k N.k4a [.v [.i e,.i B,.r C]]) fun G=>
  a0c (a0a E P0 k N.j7x [.p [.i f,.i g,.i h,.r y,.i l,.i m,.i n,.i o,.i q,.r z,.i u,.b w,.b x],.v [.i d],.v [.i (F.t 0).asI],.v [.r (G.t 0).asR]]) fun a=>
  bif (!(a.t 0).asB) then
   some ⟨[.b false],[[.i (a.vt 0 0).asI,.i (a.vt 0 1).asI,.i (a.vt 0 2).asI,.r (a.vt 0 3).asR,.i (a.vt 0 4).asI,.i (a.vt 0 5).asI,.i (a.vt 0 6).asI,.i (a.vt 0 7).asI,.i (a.vt 0 8).asI,.r (a.vt 0 9).asR,.i (a.vt 0 10).asI,.b (a.vt 0 11).asB,.b (a.vt 0 12).asB]]⟩
  else
   D ((W64 (d+1)),(a.vt 0 0).asI,(a.vt 0 1).asI,(a.vt 0 2).asI,(a.vt 0 4).asI,(a.vt 0 5).asI,(a.vt 0 6).asI,(a.vt 0 7).asI,(a.vt 0 8).asI,(a.vt 0 10).asI,(a.vt 0 11).asB,(a.vt 0 12).asB,(a.vt 0 3).asR,(a.vt 0 9).asR)
 else
  a0c (a0a E P0 k N.j7g [.p [.i f,.i g,.i h,.r y,.i l,.i m,.i n,.i o,.i q,.r z,.i u,.b w,.b x]]) fun c=>
  some ⟨[.b (c.t 0).asB],[[.i (c.vt 0 0).asI,.i (c.vt 0 1).asI,.i (c.vt 0 2).asI,.r (c.vt 0 3).asR,.i (c.vt 0 4).asI,.i (c.vt 0 5).asI,.i (c.vt 0 6).asI,.i (c.vt 0 7).asI,.i (c.vt 0 8).asI,.r (c.vt 0 9).asR,.i (c.vt 0 10).asI,.b (c.vt 0 11).asB,.b (c.vt 0 12).asB]]⟩
def e0b:List Nat:=[0,3,4,10,11,24,25]
def c3f (a:LL) (c d:Int) (e:LL):(V3_)→St:=fun (f,g,h,l,m,n,o,p,q,r,t,u,w,x)=>⟨a2y [(0,.ptr (0,0) 0),(3,.ptr (3,0) 0),(4,.b false),(10,.i .i64 (a.length:Int)),(11,.i .i64 f),(24,.skip),(25,.skip)],Mem.put (a0y [((0,0),.var [.i .i64 g,.i .i64 h,.i .i64 l,.ref (0,4),.i .i64 m,.i .i64 n,.i .i64 o,.i .i64 p,.i .i64 q,.ref (0,10),.i .i64 r,.b t,.b u]),((0,4),.deep 147 w none),((0,10),.deep 149 x none),((3,0),.var [.i .i64 c,.i .i64 d,.sl 3 e])]) a2h .dead⟩
def a6x (k:Nat) (a:LL) (b c:Int) (d:LL) (e:(V3_)→OO):(V3_)→OO:=
 b3i k a b c d e
def a8k (k:Nat) (a b c:Int) (d:LL) (e f g h i:Int) (l:LL) (m:Int) (n o:Bool) (q r:Int) (t:LL) (p:(V3_)→OO):OO:=
 p (0,a,b,c,e,f,g,h,i,m,n,o,d,l)
def c5r (k:Nat) (e f g:Int) (a:LL) (h i l m n:Int) (o:LL) (p:Int) (q r:Bool) (b c:Int) (d:LL):OO:=
 a8k k e f g a h i l m n o p q r b c d (fun v=>a1l (a6x k a b c d) k v)
def d6b (k:Nat) (a c d:Int) (e:LL) (f g h l m:Int) (n:LL) (o:Int) (q t:Bool) (u w:Int) (x:LL) (js:List Nat) (j:Nat) (s:St):OO:=a3g E (LB E (a0a E P0 k) k [0] N.j7y [.sr,.sl,.sr,.bl]) [0] e0b (LK E (a0a E P0 k) k [0] N.j7y [.p [.i a,.i c,.i d,.r e,.i f,.i g,.i h,.i l,.i m,.r n,.i o,.b q,.b t],.v [.i u,.i w,.r x]] [.sr,.sl,.sr,.bl] js) j s
theorem e2h (k:Nat) (f g h:Int) (a:LL) (l m n o q:Int) (t:LL) (u:Int) (w x:Bool) (c d:Int) (e:LL):a0a E P0 (k+1) N.j7y [.p [.i f,.i g,.i h,.r a,.i l,.i m,.i n,.i o,.i q,.r t,.i u,.b w,.b x],.v [.i c,.i d,.r e]]=c5r k f g h a l m n o q t u w x c d e:=
 Eq.trans (b:=a8k k f g h a l m n o q t u w x c d e (fun v=>d6b k f g h a l m n o q t u w x c d e [] k (c3f a c d e v))) (by kernel_rfl) (congrArg (a8k k f g h a l m n o q t u w x c d e) (funext fun v=>a0j (c3f a c d e) (a6x k a c d e) (fun j v=>by kernel_rfl) k v))
def c5s (k:Nat) (a:LL):OO:=
 a0c (a0a E P0 k N.j7u [.v [.r a]]) fun b=>
 some ⟨[.i (b.t 0).asI],[]⟩
theorem e2i (k:Nat) (a:LL):a0a E P0 (k+1) N.k4b [.v [.r a]]=c5s k a:=by kernel_rfl
def a8l (k:Nat) (z:Int) (y:LL) (A:(V3_)→OO):(V3_)→OO:=fun (c,d,e,f,g,h,l,m,n,o,q,u,w,x)=>
 bif (decide (c<(y.length:Int))) then
  chk (decide (0≤c)&&decide (c<(y.length:Int))) <|
  a0c (a0a E P0 k N.k1z [.v [.i d,.i e,.i f,.r w,.i g,.i h,.i l,.i m,.i n,.r x,.i o,.b q,.b u],.v [.i c],.v [.i z]]) fun B=>
  bif (B.t 0).asB then
   a0c (a0a E P0 k N.k1y [.v [.i z]]) fun C=>
   a0c (a0a E P0 k N.j7x [.p [.i d,.i e,.i f,.r w,.i g,.i h,.i l,.i m,.i n,.r x,.i o,.b q,.b u],.v [.i c],.v [.i (C.t 0).asI],.v [.r [[.i (at_ y c.toNat 0).asI]]]]) fun a=>
   bif (!(a.t 0).asB) then
    some ⟨[.b false],[[.i (a.vt 0 0).asI,.i (a.vt 0 1).asI,.i (a.vt 0 2).asI,.r (a.vt 0 3).asR,.i (a.vt 0 4).asI,.i (a.vt 0 5).asI,.i (a.vt 0 6).asI,.i (a.vt 0 7).asI,.i (a.vt 0 8).asI,.r (a.vt 0 9).asR,.i (a.vt 0 10).asI,.b (a.vt 0 11).asB,.b (a.vt 0 12).asB]]⟩
   else
    A ((W64 (c+1)),(a.vt 0 0).asI,(a.vt 0 1).asI,(a.vt 0 2).asI,(a.vt 0 4).asI,(a.vt 0 5).asI,(a.vt 0 6).asI,(a.vt 0 7).asI,(a.vt 0 8).asI,(a.vt 0 10).asI,(a.vt 0 11).asB,(a.vt 0 12).asB,(a.vt 0 3).asR,(a.vt 0 9).asR)
  else
   A ((W64 (c+1)),d,e,f,g,h,l,m,n,o,q,u,w,x)
 else
  some ⟨[.b true],[[.i d,.i e,.i f,.r w,.i g,.i h,.i l,.i m,.i n,.r x,.i o,.b q,.b u]]⟩
def e2j:List Nat:=[0,1,6,46,47,48]
def a5m (c:Int) (a:LL):(V3_)→St:=fun (d,e,f,g,h,l,m,n,o,p,q,r,t,u)=>⟨a2y [(0,.ptr (0,0) 0),(1,.i .i64 c),(6,.b false),(46,.ref (46,0)),(47,.i .i64 (a.length:Int)),(48,.i .i64 d)],Mem.put (a0y [((0,0),.var [.i .i64 e,.i .i64 f,.i .i64 g,.ref (0,4),.i .i64 h,.i .i64 l,.i .i64 m,.i .i64 n,.i .i64 o,.ref (0,10),.i .i64 p,.b q,.b r]),((0,4),.deep 147 t none),((0,10),.deep 149 u none),((46,0),.row 3 true a)]) a2h .dead⟩
def a8m (k:Nat) (g e f:Int) (h:LL) (l m n o p:Int) (q:LL) (r:Int) (u w:Bool) (x:Int) (b:LL) (y:LL→(V3_)→OO) (z:(V0_)→OO):(V0_)→OO:=fun (a,c)=>
 bif (decide (a<(b.length:Int))) then
  chk (decide (0≤a)&&decide (a<(b.length:Int))) <|
  a0c (a0a E P0 k N.k2b [.v [.i e,.i f],.v [.i x],.v [.i a]]) fun d=>
  chk (decide (0≤(d.t 0).asI)&&decide ((d.t 0).asI<(c.length:Int))) <|
  z ((W64 (a+1)),(a0z c (d.t 0).asI.toNat 0 [.i (at_ b a.toNat 0).asI]))
 else
  y c (0,g,e,f,l,m,n,o,p,r,u,w,h,q)
def e2k:List Nat:=[0,1,6,7,10,11,28,29,30,46,47,48,49,50,51,52,53,54,55,56,57,58,59,60,61,62,63,64,65,66,67,68,69]
def a5n (c d e:Int) (f:LL) (g h l m n:Int) (o:LL) (p:Int) (q r:Bool) (t:Int) (a:LL):(V0_)→St:=fun (u,w)=>⟨a2y [(0,.ptr (0,0) 0),(1,.i .i64 t),(6,.b false),(7,.ref (7,0)),(10,.skip),(11,.skip),(28,.sl 3 a),(29,.i .i64 (a.length:Int)),(30,.i .i64 u),(46,.skip),(47,.skip),(48,.skip),(49,.skip),(50,.skip),(51,.skip),(52,.skip),(53,.skip),(54,.skip),(55,.skip),(56,.skip),(57,.skip),(58,.skip),(59,.skip),(60,.skip),(61,.skip),(62,.skip),(63,.skip),(64,.skip),(65,.skip),(66,.skip),(67,.skip),(68,.skip),(69,.skip)],Mem.put (a0y [((0,0),.var [.i .i64 c,.i .i64 d,.i .i64 e,.ref (0,4),.i .i64 g,.i .i64 h,.i .i64 l,.i .i64 m,.i .i64 n,.ref (0,10),.i .i64 p,.b q,.b r]),((0,4),.deep 147 f none),((0,10),.deep 149 o none),((7,0),.row 3 true w)]) a2h .dead⟩
def a4b (k:Nat) (a:Int) (b:LL) (c:(V3_)→OO):(V3_)→OO:=
 a8l k a b c
def a4c (k:Nat) (b c d:Int) (e:LL) (f g h i l:Int) (m:LL) (n:Int) (o p:Bool) (a:Int) (q:LL) (r:(V0_)→OO):(V0_)→OO:=
 a8m k b c d e f g h i l m n o p a q (fun t v=>a1l (a4b k a t) k v) r
def b7s (k:Nat) (h a c:Int) (l:LL) (m n o p q:Int) (u:LL) (w:Int) (x y:Bool) (d:Int) (e:LL) (f:(V0_)→OO):OO:=
 chk (decide (a=a)&&decide (0≤a)&&decide (a*((8:Nat):Int)≤140737488355328)) <|
 a0c (a0a E P0 k N.k2a [.v [.i a,.i c],.v [.i d]]) fun b=>
 a0c (a0a E P0 k N.k4b [.v [.r e]]) fun g=>
 chk (decide (0≤(b.t 0).asI)&&decide ((b.t 0).asI<((List.replicate (a:Int).toNat ([.i 0]:List T)).length:Int))) <|
 f (0,(a0z (List.replicate (a:Int).toNat ([.i 0]:List T)) (b.t 0).asI.toNat 0 [.i (g.t 0).asI]))
def b7t (k:Nat) (a b c:Int) (d:LL) (e f g h i:Int) (l:LL) (m:Int) (n o:Bool) (p:Int) (q:LL):OO:=
 b7s k a b c d e f g h i l m n o p q (fun v=>a1l (a4c k a b c d e f g h i l m n o p q) k v)
def a6y (k:Nat) (a c d:Int) (e:LL) (f g h l m:Int) (n:LL) (o:Int) (q t:Bool) (u:Int) (w:LL) (js:List Nat) (j:Nat) (s:St):OO:=a3g E (LB E (a0a E P0 k) k [0] N.j6p [.sr,.sr,.sr,.sl,.sr,.bl]) [0] e2k (LK E (a0a E P0 k) k [0] N.j6p [.p [.i a,.i c,.i d,.r e,.i f,.i g,.i h,.i l,.i m,.r n,.i o,.b q,.b t],.v [.i u],.v [.r w]] [.sr,.sr,.sr,.sl,.sr,.bl] js) j s
def a6z (k:Nat) (a c d:Int) (e:LL) (f g h l m:Int) (n:LL) (o:Int) (q t:Bool) (u:Int) (w:LL) (js:List Nat) (j:Nat) (s:St):OO:=a3g E (LB E (a0a E P0 k) k [0] N.j6p [.sr,.sr,.sr,.sr,.sl,.sr,.bl]) [0] e2j (LK E (a0a E P0 k) k [0] N.j6p [.p [.i a,.i c,.i d,.r e,.i f,.i g,.i h,.i l,.i m,.r n,.i o,.b q,.b t],.v [.i u],.v [.r w]] [.sr,.sr,.sr,.sr,.sl,.sr,.bl] js) j s
theorem e7e (k:Nat) (c d e:Int) (f:LL) (g h l m n:Int) (o:LL) (q:Int) (t u:Bool) (a:Int) (w:LL):a0a E P0 (k+1) N.j6p [.p [.i c,.i d,.i e,.r f,.i g,.i h,.i l,.i m,.i n,.r o,.i q,.b t,.b u],.v [.i a],.v [.r w]]=b7t k c d e f g h l m n o q t u a w:=by
 have A:a0a E P0 (k+1) N.j6p [.p [.i c,.i d,.i e,.r f,.i g,.i h,.i l,.i m,.i n,.r o,.i q,.b t,.b u],.v [.i a],.v [.r w]]=b7s k c d e f g h l m n o q t u a w (fun v=>a6y k c d e f g h l m n o q t u a w [] k (a5n c d e f g h l m n o q t u a w v)):=by kernel_rfl
 have B:∀ (x:LL) (y:Nat) (v:V3_),a6z k c d e f g h l m n o q t u a w [] (y+1) (a5m a x v)=a8l k a x (fun v=>a6z k c d e f g h l m n o q t u a w [] y (a5m a x v)) v:=by
  intro x y v;kernel_rfl
 have C:∀ (x:LL) (y:Nat) (v:V3_),a6z k c d e f g h l m n o q t u a w [] y (a5m a x v)=a1l (a4b k a x) y v:=by
  intro x y v
  refine a0j (a5m a x) (a4b k a x) (fun y v=>(B x y v).trans ?_) y v
  unfold a4b
  rfl
 have D:∀ (z:Nat) (v:V0_),a6y k c d e f g h l m n o q t u a w [] (z+1) (a5n c d e f g h l m n o q t u a w v)=a8m k c d e f g h l m n o q t u a w (fun F v=>a6z k c d e f g h l m n o q t u a w [] k (a5m a F v)) (fun v=>a6y k c d e f g h l m n o q t u a w [] z (a5n c d e f g h l m n o q t u a w v)) v:=by
  intro z v;kernel_rfl
 have G:∀ (z:Nat) (v:V0_),a6y k c d e f g h l m n o q t u a w [] z (a5n c d e f g h l m n o q t u a w v)=a1l (a4c k c d e f g h l m n o q t u a w) z v:=by
  intro z v
  refine a0j (a5n c d e f g h l m n o q t u a w) (a4c k c d e f g h l m n o q t u a w) (fun z v=>(D z v).trans ?_) z v
  unfold a4c
  simp only [C] <;> rfl
 rw [A];unfold b7t
 simp only [G]
def c5t (k:Nat) (n o q:Int) (u:LL) (w x g m y:Int) (z:LL) (A:Int) (B C:Bool) (h:Int) (l:LL):OO:=
 bif (decide ((W64 (g - m))≥4)) then
  a0c (a0a E P0 k N.k3x [.p [.i n,.i o,.i q,.r u,.i w,.i x,.i g,.i m,.i y,.r z,.i A,.b B,.b C]]) fun a=>
  bif (!(a.t 0).asB) then
   some ⟨[.b false],[[.i (a.vt 0 0).asI,.i (a.vt 0 1).asI,.i (a.vt 0 2).asI,.r (a.vt 0 3).asR,.i (a.vt 0 4).asI,.i (a.vt 0 5).asI,.i (a.vt 0 6).asI,.i (a.vt 0 7).asI,.i (a.vt 0 8).asI,.r (a.vt 0 9).asR,.i (a.vt 0 10).asI,.b (a.vt 0 11).asB,.b (a.vt 0 12).asB]]⟩
  else
   a0c (a0a E P0 k N.j6a [.v [.r l]]) fun D=>
   a0c (a0a E P0 k N.j7y [.p [.i (a.vt 0 0).asI,.i (a.vt 0 1).asI,.i (a.vt 0 2).asI,.r (a.vt 0 3).asR,.i (a.vt 0 4).asI,.i (a.vt 0 5).asI,.i (a.vt 0 6).asI,.i (a.vt 0 7).asI,.i (a.vt 0 8).asI,.r (a.vt 0 9).asR,.i (a.vt 0 10).asI,.b (a.vt 0 11).asB,.b (a.vt 0 12).asB],.v [.i (a.vt 0 6).asI,.i h,.r (D.t 0).asR]]) fun c=>
   bif (!(c.t 0).asB) then
    some ⟨[.b false],[[.i (c.vt 0 0).asI,.i (c.vt 0 1).asI,.i (c.vt 0 2).asI,.r (c.vt 0 3).asR,.i (c.vt 0 4).asI,.i (c.vt 0 5).asI,.i (c.vt 0 6).asI,.i (c.vt 0 7).asI,.i (c.vt 0 8).asI,.r (c.vt 0 9).asR,.i (c.vt 0 10).asI,.b (c.vt 0 11).asB,.b (c.vt 0 12).asB]]⟩
   else
    a0c (a0a E P0 k N.j6p [.p [.i (c.vt 0 0).asI,.i (c.vt 0 1).asI,.i (c.vt 0 2).asI,.r (c.vt 0 3).asR,.i (c.vt 0 4).asI,.i (c.vt 0 5).asI,.i (W64 ((c.vt 0 6).asI+1)),.i (c.vt 0 7).asI,.i (c.vt 0 8).asI,.r (c.vt 0 9).asR,.i (c.vt 0 10).asI,.b (c.vt 0 11).asB,.b (c.vt 0 12).asB],.v [.i h],.v [.r l]]) fun e=>
    some ⟨[.b (e.t 0).asB],[[.i (e.vt 0 0).asI,.i (e.vt 0 1).asI,.i (e.vt 0 2).asI,.r (e.vt 0 3).asR,.i (e.vt 0 4).asI,.i (e.vt 0 5).asI,.i (e.vt 0 6).asI,.i (e.vt 0 7).asI,.i (e.vt 0 8).asI,.r (e.vt 0 9).asR,.i (e.vt 0 10).asI,.b (e.vt 0 11).asB,.b (e.vt 0 12).asB]]⟩
 else
  a0c (a0a E P0 k N.j6a [.v [.r l]]) fun F=>
  a0c (a0a E P0 k N.j7y [.p [.i n,.i o,.i q,.r u,.i w,.i x,.i g,.i m,.i y,.r z,.i A,.b B,.b C],.v [.i g,.i h,.r (F.t 0).asR]]) fun d=>
  bif (!(d.t 0).asB) then
   some ⟨[.b false],[[.i (d.vt 0 0).asI,.i (d.vt 0 1).asI,.i (d.vt 0 2).asI,.r (d.vt 0 3).asR,.i (d.vt 0 4).asI,.i (d.vt 0 5).asI,.i (d.vt 0 6).asI,.i (d.vt 0 7).asI,.i (d.vt 0 8).asI,.r (d.vt 0 9).asR,.i (d.vt 0 10).asI,.b (d.vt 0 11).asB,.b (d.vt 0 12).asB]]⟩
  else
   a0c (a0a E P0 k N.j6p [.p [.i (d.vt 0 0).asI,.i (d.vt 0 1).asI,.i (d.vt 0 2).asI,.r (d.vt 0 3).asR,.i (d.vt 0 4).asI,.i (d.vt 0 5).asI,.i (W64 ((d.vt 0 6).asI+1)),.i (d.vt 0 7).asI,.i (d.vt 0 8).asI,.r (d.vt 0 9).asR,.i (d.vt 0 10).asI,.b (d.vt 0 11).asB,.b (d.vt 0 12).asB],.v [.i h],.v [.r l]]) fun f=>
   some ⟨[.b (f.t 0).asB],[[.i (f.vt 0 0).asI,.i (f.vt 0 1).asI,.i (f.vt 0 2).asI,.r (f.vt 0 3).asR,.i (f.vt 0 4).asI,.i (f.vt 0 5).asI,.i (f.vt 0 6).asI,.i (f.vt 0 7).asI,.i (f.vt 0 8).asI,.r (f.vt 0 9).asR,.i (f.vt 0 10).asI,.b (f.vt 0 11).asB,.b (f.vt 0 12).asB]]⟩
theorem e2l (k:Nat) (a c d:Int) (e:LL) (f g h l m:Int) (n:LL) (o:Int) (q t:Bool) (u:Int) (w:LL):a0a E P0 (k+1) N.k4c [.p [.i a,.i c,.i d,.r e,.i f,.i g,.i h,.i l,.i m,.r n,.i o,.b q,.b t],.v [.i u],.v [.r w]]=c5t k a c d e f g h l m n o q t u w:=by kernel_rfl
end
end Go.Proofs.YtkamidjllckpgaaGreat.Ev
