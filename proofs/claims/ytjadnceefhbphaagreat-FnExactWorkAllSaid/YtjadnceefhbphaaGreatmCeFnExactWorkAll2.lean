/- What functions answer under the evaluator, as Lean terms, part 2: what FnExactWorkAll needs. No condition. -/
import Derived.Test.YtjadnceefhbphaaGreatmTab
namespace Go.Proofs.YtjadnceefhbphaaGreat.Ev
open Go Go.Proofs
set_option linter.unusedVariables false
set_option maxRecDepth 100000
set_option maxHeartbeats 4000000
noncomputable section
def d3p (k:Nat) (a c d:Int):OO:=
 bif (decide (a≥c)) then so_ [.b (decide (a≤d))] else so_ [.b false]
theorem f8h (k:Nat) (a b c:Int):a0a E P0 (k+1) N.j1t [vi_ a,vi_ b,vi_ c]=d3p k a b c:=by kernel_rfl
def d8t (k:Nat) (a c:Int):OO:=
 a0f (a0a E P0 k N.j1t [.v [.i a],.v [.i 3],.v [.i 5]]) fun d=>
 bif (d.t 0).asB then
  a0f (a0a E P0 k N.j1t [.v [.i c],.v [.i 1],.v [.i 8]]) fun e=>
  some ⟨[.b (e.t 0).asB],[]⟩
 else
  some ⟨[.b false],[]⟩
theorem g3h (k:Nat) (a b:Int):a0a E P0 (k+1) N.j2v [.v [.i a,.i b]]=d8t k a b:=by kernel_rfl
def d3q (k:Nat) (a:Int):OO:=
 a0f (a0a E P0 k N.j1t [.v [.i a],.v [.i 0],.v [.i 65535]]) fun c=>
 some ⟨[.b (c.t 0).asB],[]⟩
theorem f8i (k:Nat) (a:Int):a0a E P0 (k+1) N.j5c [.v [.i a]]=d3q k a:=by kernel_rfl
def b2c (k:Nat) (c:LL) (d:(Int)→OO):(Int)→OO:=fun a=>
 bif (decide (a<(c.length:Int))) then
  chk (decide (0≤a)&&decide (a<(c.length:Int))) <|
  a0f (a0a E P0 k N.j5c [.v [.i (at_ c a.toNat 0).asI]]) fun e=>
  bif (!(e.t 0).asB) then some ⟨[.b false],[]⟩ else d (W64 (a+1))
 else
  some ⟨[.b true],[]⟩
def e6b:List Nat:=[2,5,6,7]
def e6c (a:LL):(Int)→St:=fun c=>⟨a3q [(2,.b false),(5,.sl 3 a),(6,.i .i64 (a.length:Int)),(7,.i .i64 c)],a1f []⟩
def c0j (k:Nat) (b:LL) (a:(Int)→OO):OO:=
 a 0
def c9f (k:Nat) (a:LL):OO:=
 c0j k a (fun v=>a1k (b2c k a) k v)
theorem f1n (k:Nat) (a:LL):a0a E P0 (k+1) N.j2q [.v [.r a]]=c9f k a:=a2c [] [.sr,.sl,.sr,.bl] e6b (c0j k a) (e6c a) (b2c k a) (by kernel_rfl) (fun j v=>by kernel_rfl)
def c0k (k:Nat) (c:Int) (a:LL) (d:Bool):OO:=
 bif d then
  a0f (a0a E P0 k N.j1t [.v [.i (a.length:Int)],.v [.i 1],.v [.i 6]]) fun e=>
  bif (e.t 0).asB then
   a0f (a0a E P0 k N.j2q [.v [.r a]]) fun f=>
   some ⟨[.b (f.t 0).asB],[]⟩
  else
   some ⟨[.b false],[]⟩
 else
  bif (c == 5) then
   bif ((a.length:Int) == 2) then
    a0f (a0a E P0 k N.j2q [.v [.r a]]) fun g=>
    some ⟨[.b (g.t 0).asB],[]⟩
   else
    some ⟨[.b false],[]⟩
  else
   some ⟨[.b true],[]⟩
def d3r (k:Nat) (a g h c:Int) (d:LL):OO:=
 bif (a == 1) then
  a0f (a0a E P0 k N.j1t [.v [.i c],.v [.i 1],.v [.i 6]]) fun e=>
  some ⟨[.b (e.t 0).asB],[]⟩
 else
  bif (a == 6) then
   a0f (a0a E P0 k N.j1t [.v [.i c],.v [.i 1],.v [.i 6]]) fun f=>
   some ⟨[.b (f.t 0).asB],[]⟩
  else
   bif (a == 2) then c0k k a d true else c0k k a d (a == 3)
theorem f8j (k:Nat) (a b c d:Int) (e:LL):a0a E P0 (k+1) N.j8b [.v [.i a,.i b,.i c,.i d,.r e]]=d3r k a b c d e:=by kernel_rfl
def d3s (k:Nat) (a b:Int):OO:=
 a0f (a0a E P0 k N.j2v [.v [.i a,.i b]]) fun c=>
 bif (!(c.t 0).asB) then
  some ⟨[.i 0],[]⟩
 else
  some ⟨[.i (W64 (b*(W64 (a - 1))))],[]⟩
theorem f8k (k:Nat) (a b:Int):a0a E P0 (k+1) N.j3v [.v [.i a,.i b]]=d3s k a b:=by kernel_rfl
def d8u (k:Nat) (a d e b:Int) (c:LL):OO:=
 bif (a == 1) then
  so_ [.i b]
 else
  bif (a == 6) then
   so_ [.i b]
  else
   bif (a == 2) then
    so_ [.i (c.length:Int)]
   else
    bif (a == 3) then
     so_ [.i (c.length:Int)]
    else
     bif (a == 5) then so_ [.i 1] else so_ [.i 0]
theorem g3i (k:Nat) (a b c d:Int) (e:LL):a0a E P0 (k+1) N.j3d [.v (S7_ a b c d e)]=d8u k a b c d e:=by kernel_rfl
def b2d (k:Nat) (f g a c b d:Int) (e:LL) (h:Bool):OO:=
 bif h then
  some ⟨[.i 1],[]⟩
 else
  a0f (a0a E P0 k N.j8b [.v [.i a,.i c,.i b,.i d,.r e]]) fun l=>
  bif (!(l.t 0).asB) then
   some ⟨[.i 3],[]⟩
  else
   bif (a != 4) then
    a0f (a0a E P0 k N.j3v [.v [.i f,.i g]]) fun m=>
    a0f (a0a E P0 k N.j3d [.v [.i a,.i c,.i b,.i d,.r e]]) fun n=>
    a0f (a0a E P0 k N.j1t [.v [.i b],.v [.i 0],.v [.i (W64 ((m.t 0).asI - (n.t 0).asI))]]) fun o=>
    bif (!(o.t 0).asB) then some ⟨[.i 2],[]⟩ else some ⟨[.i 0],[]⟩
   else
    some ⟨[.i 0],[]⟩
def c9g (k:Nat) (a b c d e f:Int) (g:LL):OO:=
 a0f (a0a E P0 k N.j2v [.v [.i a,.i b]]) fun h=>
 bif (!(h.t 0).asB) then
  b2d k a b c d e f g true
 else
  a0f (a0a E P0 k N.j1t [.v [.i c],.v [.i 1],.v [.i 6]]) fun l=>
  bif (!(l.t 0).asB) then
   b2d k a b c d e f g true
  else
   a0f (a0a E P0 k N.j1t [.v [.i d],.v [.i 1],.v [.i 999]]) fun m=>
   b2d k a b c d e f g (!(m.t 0).asB)
theorem f1o (k:Nat) (a b c d e f:Int) (g:LL):a0a E P0 (k+1) N.j3w [.v [.i a,.i b],.v [.i c,.i d,.i e,.i f,.r g]]=c9g k a b c d e f g:=by kernel_rfl
def c2r (k:Nat) (c d e f g h:Int) (l:LL) (m:Int) (a:LL) (n:Bool):OO:=
 a0f (a0a E P0 k N.j3w [.v [.i c,.i d],.v [.i e,.i f,.i g,.i h,.r l]]) fun o=>
 bif ((o.t 0).asI == 0) then
  a0f (a0a E P0 k N.j1t [.v [.i m],.v [.i 0],.v [.i 40]]) fun p=>
  bif (p.t 0).asB then
   bif (decide ((a.length:Int)≤6)) then
    a0f (a0a E P0 k N.j2q [.v [.r a]]) fun q=>
    bif (q.t 0).asB then some ⟨[.b n],[]⟩ else some ⟨[.b false],[]⟩
   else
    some ⟨[.b false],[]⟩
  else
   some ⟨[.b false],[]⟩
 else
  some ⟨[.b false],[]⟩
def d8v (k:Nat) (a b c d e f:Int) (g:LL) (h:Int) (l:LL) (m:Int):OO:=
 bif (m == 0) then
  c2r k a b c d e f g h l true
 else
  a0f (a0a E P0 k N.j1t [.v [.i m],.v [.i 4],.v [.i 7]]) fun n=>
  c2r k a b c d e f g h l ((n.t 0).asB)
theorem g3j (k:Nat) (a b c d e f:Int) (g:LL) (h:Int) (l:LL) (m:Int):a0a E P0 (k+1) N.j8c [.v [.i a,.i b],.v [.i c,.i d,.i e,.i f,.r g,.i h,.r l,.i m]]=d8v k a b c d e f g h l m:=by kernel_rfl
def d3t (k:Nat) (d e a c:Int):OO:=
 a0f (a0a E P0 k N.j1t [.v [.i a],.v [.i (-1)],.v [.i (W64 (d - 1))]]) fun f=>
 bif (f.t 0).asB then
  a0f (a0a E P0 k N.j1t [.v [.i c],.v [.i 0],.v [.i e]]) fun g=>
  bif (g.t 0).asB then
   bif (c == 0) then some ⟨[.b true],[]⟩ else some ⟨[.b (a != (-1))],[]⟩
  else
   some ⟨[.b false],[]⟩
 else
  some ⟨[.b false],[]⟩
theorem f8l (k:Nat) (a b c d:Int):a0a E P0 (k+1) N.j5d [.v [.i a,.i b],.v [.i c],.v [.i d]]=d3t k a b c d:=by kernel_rfl
def c3r (k:Nat) (c a d:Int):OO:=
 a0f (a0a E P0 k N.j2v [.v [.i c,.i a]]) fun e=>
 bif (e.t 0).asB then
  a0f (a0a E P0 k N.j1t [.v [.i d],.v [.i 0],.v [.i (W64 (a - 1))]]) fun f=>
  some ⟨[.b (f.t 0).asB],[]⟩
 else
  some ⟨[.b false],[]⟩
theorem d9y (k:Nat) (a b c:Int):a0a E P0 (k+1) N.j2r [.v [.i a,.i b],.v [.i c]]=c3r k a b c:=by kernel_rfl
def d3u (k:Nat) (c e:Int) (a:LL):OO:=
 bif ((a.length:Int) == (W64 (c - 1))) then
  a0f (a0a E P0 k N.j2q [.v [.r a]]) fun d=>
  some ⟨[.b (d.t 0).asB],[]⟩
 else
  some ⟨[.b false],[]⟩
theorem f8m (k:Nat) (a b:Int) (c:LL):a0a E P0 (k+1) N.j3x [.v [.i a,.i b],.v [.r c]]=d3u k a b c:=by kernel_rfl
def b2e (k:Nat) (m d e:Int) (n:LL) (o p q u w:Int) (c:LL) (x:Int) (y z:Bool) (f:(Int)→OO):(Int)→OO:=fun a=>
 bif (decide (a<(c.length:Int))) then
  chk (decide (0≤a)&&decide (a<(c.length:Int))) <|
  a0f (a0a E P0 k N.j2r [.v [.i d,.i e],.v [.i (at_ c a.toNat 0).asI]]) fun g=>
  bif (!(g.t 0).asB) then
   some ⟨[.b false],[]⟩
  else
   bif (decide (a > 0)) then
    chk (decide (0≤(W64 (a - 1)))&&decide ((W64 (a - 1))<(c.length:Int))) <|
    bif (decide ((at_ c (W64 (a - 1)).toNat 0).asI≥(at_ c a.toNat 0).asI)) then
     some ⟨[.b false],[]⟩
    else
     a0f (a0a E P0 k N.j3x [.v [.i d,.i e],.v [.r (at_ c a.toNat 1).asR]]) fun h=>
     bif (!(h.t 0).asB) then some ⟨[.b false],[]⟩ else f (W64 (a+1))
   else
    a0f (a0a E P0 k N.j3x [.v [.i d,.i e],.v [.r (at_ c a.toNat 1).asR]]) fun l=>
    bif (!(l.t 0).asB) then some ⟨[.b false],[]⟩ else f (W64 (a+1))
 else
  some ⟨[.b true],[]⟩
def e6d:List Nat:=[1,2,6,7,8]
def e6e (c d e:Int) (f:LL) (g h l m n:Int) (a:LL) (o:Int) (p q:Bool):(Int)→St:=fun r=>⟨a3q [(1,.ptr (1,0) 0),(2,.b false),(6,.sl 137 a),(7,.i .i64 (a.length:Int)),(8,.i .i64 r)],a1f [((1,0),.var [.i .i64 c,.i .i64 d,.i .i64 e,.sl 135 f,.i .i64 g,.i .i64 h,.i .i64 l,.i .i64 m,.i .i64 n,.sl 137 a,.i .i64 o,.b p,.b q])]⟩
def c0l (k:Nat) (b c d:Int) (e:LL) (f g h i l:Int) (m:LL) (n:Int) (o p:Bool) (a:(Int)→OO):OO:=
 a 0
def c9h (k:Nat) (a b c:Int) (d:LL) (e f g h i:Int) (l:LL) (m:Int) (n o:Bool):OO:=
 c0l k a b c d e f g h i l m n o (fun v=>a1k (b2e k a b c d e f g h i l m n o) k v)
theorem f1p (k:Nat) (a c d:Int) (e:LL) (f g h l m:Int) (n:LL) (o:Int) (p q:Bool):a0a E P0 (k+1) N.j8d [.v [.i a,.i c,.i d,.r e,.i f,.i g,.i h,.i l,.i m,.r n,.i o,.b p,.b q]]=c9h k a c d e f g h l m n o p q:=a2c [] [.sr,.sl,.sr,.bl] e6d (c0l k a c d e f g h l m n o p q) (e6e a c d e f g h l m n o p q) (b2e k a c d e f g h l m n o p q) (by kernel_rfl) (fun j v=>by kernel_rfl)
def d8w (k:Nat) (a:LL):OO:=
 bif (decide ((a.length:Int)≤12)) then
  a0f (a0a E P0 k N.j2q [.v [.r a]]) fun c=>
  some ⟨[.b (c.t 0).asB],[]⟩
 else
  some ⟨[.b false],[]⟩
theorem g3k (k:Nat) (a:LL):a0a E P0 (k+1) N.j3y [.v [.r a]]=d8w k a:=by kernel_rfl
def d3v (k:Nat) (a e:LL) (f:Bool) (g:LL) (c:Int):OO:=
 a0f (a0a E P0 k N.j1t [.v [.i c],.v [.i 0],.v [.i (W64 ((a.length:Int) - 1))]]) fun d=>
 some ⟨[.b (d.t 0).asB],[]⟩
theorem f8n (k:Nat) (a c:LL) (d:Bool) (e:LL) (f:Int):a0a E P0 (k+1) N.j3e [.v [.r a,.r c,.b d,.r e],.v [.i f]]=d3v k a c d e f:=by kernel_rfl
def a3u (k:Nat) (d e:LL) (g:Bool) (c:LL) (f:(Int)→OO):(Int)→OO:=fun a=>
 bif (decide (a<(c.length:Int))) then
  chk (decide (0≤a)&&decide (a<(c.length:Int))) <|
  a0f (a0a E P0 k N.j3e [.v [.r d,.r e,.b g,.r c],.v [.i (at_ c a.toNat 0).asI]]) fun h=>
  bif (!(h.t 0).asB) then
   some ⟨[.b false],[]⟩
  else
   bif (decide (a > 0)) then
    chk (decide (0≤(W64 (a - 1)))&&decide ((W64 (a - 1))<(c.length:Int))) <|
    bif (decide ((at_ c (W64 (a - 1)).toNat 0).asI≥(at_ c a.toNat 0).asI)) then
     some ⟨[.b false],[]⟩
    else
     f (W64 (a+1))
   else
    f (W64 (a+1))
 else
  a0f (a0a E P0 k N.j1t [.v [.i (d.length:Int)],.v [.i 1],.v [.i 20]]) fun l=>
  bif (l.t 0).asB then some ⟨[.b (decide ((e.length:Int)≤60))],[]⟩ else some ⟨[.b false],[]⟩
def f8o:List Nat:=[1,2,40,41,42,66,67,68,69,70,71,72,73,74,75]
def b2f (c d:LL) (e:Bool) (a:LL):(Int)→St:=fun f=>⟨a3q [(1,.ptr (1,0) 0),(2,.b false),(40,.sl 3 a),(41,.i .i64 (a.length:Int)),(42,.i .i64 f),(66,.skip),(67,.skip),(68,.skip),(69,.skip),(70,.skip),(71,.skip),(72,.skip),(73,.skip),(74,.skip),(75,.skip)],a1f [((1,0),.var [.sl 78 c,.sl 161 d,.b e,.sl 3 a])]⟩
def b6w (k:Nat) (d c:LL) (e:Bool) (f:LL) (g h:(Int)→OO):(Int)→OO:=fun a=>
 bif (decide (a<(c.length:Int))) then
  chk (decide (0≤a)&&decide (a<(c.length:Int))) <|
  a0f (a0a E P0 k N.j3e [.v [.r d,.r c,.b e,.r f],.v [.i (at_ c a.toNat 0).asI]]) fun l=>
  bif (!(l.t 0).asB) then
   some ⟨[.b false],[]⟩
  else
   a0f (a0a E P0 k N.j3y [.v [.r (at_ c a.toNat 1).asR]]) fun m=>
   bif (!(m.t 0).asB) then some ⟨[.b false],[]⟩ else h (W64 (a+1))
 else
  g 0
def f8p:List Nat:=[1,2,7,8,21,22,23,39,40,41,42,43,44,45,46,47,48,49,50,51,52,53,54,55,56,57,58,59,60,61,62,63,64,65,66,67,68,69,70,71,72,73,74,75]
def b2g (c a:LL) (d:Bool) (e:LL):(Int)→St:=fun f=>⟨a3q [(1,.ptr (1,0) 0),(2,.b false),(7,.skip),(8,.skip),(21,.sl 161 a),(22,.i .i64 (a.length:Int)),(23,.i .i64 f),(39,.skip),(40,.skip),(41,.skip),(42,.skip),(43,.skip),(44,.skip),(45,.skip),(46,.skip),(47,.skip),(48,.skip),(49,.skip),(50,.skip),(51,.skip),(52,.skip),(53,.skip),(54,.skip),(55,.skip),(56,.skip),(57,.skip),(58,.skip),(59,.skip),(60,.skip),(61,.skip),(62,.skip),(63,.skip),(64,.skip),(65,.skip),(66,.skip),(67,.skip),(68,.skip),(69,.skip),(70,.skip),(71,.skip),(72,.skip),(73,.skip),(74,.skip),(75,.skip)],a1f [((1,0),.var [.sl 78 c,.sl 161 a,.b d,.sl 3 e])]⟩
def b6x (k:Nat) (c g:LL) (h:Bool) (i:LL) (d e:(Int)→OO):(Int)→OO:=fun a=>
 bif (decide (a<(c.length:Int))) then
  chk (decide (0≤a)&&decide (a<(c.length:Int))) <|
  a0f (a0a E P0 k N.j3y [.v [.r (at_ c a.toNat 0).asR]]) fun f=>
  bif (!(f.t 0).asB) then some ⟨[.b false],[]⟩ else e (W64 (a+1))
 else
  d 0
def f8q:List Nat:=[1,2,6,7,8,10,11,12,20,21,22,23,24,25,26,27,28,29,30,31,32,33,34,35,36,37,38,39,40,41,42,43,44,45,46,47,48,49,50,51,52,53,54,55,56,57,58,59,60,61,62,63,64,65,66,67,68,69,70,71,72,73,74,75]
def b2h (a c:LL) (d:Bool) (e:LL):(Int)→St:=fun f=>⟨a3q [(1,.ptr (1,0) 0),(2,.b false),(6,.skip),(7,.skip),(8,.skip),(10,.sl 78 a),(11,.i .i64 (a.length:Int)),(12,.i .i64 f),(20,.skip),(21,.skip),(22,.skip),(23,.skip),(24,.skip),(25,.skip),(26,.skip),(27,.skip),(28,.skip),(29,.skip),(30,.skip),(31,.skip),(32,.skip),(33,.skip),(34,.skip),(35,.skip),(36,.skip),(37,.skip),(38,.skip),(39,.skip),(40,.skip),(41,.skip),(42,.skip),(43,.skip),(44,.skip),(45,.skip),(46,.skip),(47,.skip),(48,.skip),(49,.skip),(50,.skip),(51,.skip),(52,.skip),(53,.skip),(54,.skip),(55,.skip),(56,.skip),(57,.skip),(58,.skip),(59,.skip),(60,.skip),(61,.skip),(62,.skip),(63,.skip),(64,.skip),(65,.skip),(66,.skip),(67,.skip),(68,.skip),(69,.skip),(70,.skip),(71,.skip),(72,.skip),(73,.skip),(74,.skip),(75,.skip)],a1f [((1,0),.var [.sl 78 a,.sl 161 c,.b d,.sl 3 e])]⟩
def a4t (k:Nat) (a b:LL) (c:Bool) (d:LL) (e:(Int)→OO):(Int)→OO:=
 b6w k a b c d (fun v=>a1k (a3u k a b c d) k v) e
def a8c (k:Nat) (a b:LL) (c:Bool) (d:LL) (e:(Int)→OO):(Int)→OO:=
 b6x k a b c d (fun v=>a1k (a4t k a b c d) k v) e
def c5n (k:Nat) (b c:LL) (d:Bool) (e:LL) (a:(Int)→OO):OO:=
 a 0
def c5o (k:Nat) (a b:LL) (c:Bool) (d:LL):OO:=
 c5n k a b c d (fun v=>a1k (a8c k a b c d) k v)
def b4o (k:Nat) (a c:LL) (d:Bool) (e:LL) (js:List Nat) (j:Nat) (s:St):OO:=IT_ k N.j2d [.v [.r a,.r c,.b d,.r e]] [] [.sr,.sl,.sr,.bl] f8q js j s
def b4p (k:Nat) (a c:LL) (d:Bool) (e:LL) (js:List Nat) (j:Nat) (s:St):OO:=IT_ k N.j2d [.v [.r a,.r c,.b d,.r e]] [] [.sr,.sr,.sl,.sr,.bl] f8p js j s
def b4q (k:Nat) (a c:LL) (d:Bool) (e:LL) (js:List Nat) (j:Nat) (s:St):OO:=IT_ k N.j2d [.v [.r a,.r c,.b d,.r e]] [] [.sr,.sr,.sr,.sl,.sr,.bl] f8o js j s
theorem g3l (k:Nat) (a c:LL) (d:Bool) (e:LL):a0a E P0 (k+1) N.j2d [.v [.r a,.r c,.b d,.r e]]=c5o k a c d e:=by
 have i:a0a E P0 (k+1) N.j2d [.v [.r a,.r c,.b d,.r e]]=c5n k a c d e (fun v=>b4o k a c d e [] k (b2h a c d e v)):=by kernel_rfl
 have l:∀ (f:Nat) (v:Int),b4q k a c d e [] (f+1) (b2f a c d e v)=a3u k a c d e (fun v=>b4q k a c d e [] f (b2f a c d e v)) v:=by
  intro f v;kernel_rfl
 have m:∀ (f:Nat) (v:Int),b4q k a c d e [] f (b2f a c d e v)=a1k (a3u k a c d e) f v:=by
  intro f v;refine a1v (b2f a c d e) (a3u k a c d e) (fun f v=>(l f v).trans ?_) f v;unfold a3u;rfl
 have n:∀ (g:Nat) (v:Int),b4p k a c d e [] (g+1) (b2g a c d e v)=b6w k a c d e (fun v=>b4q k a c d e [] k (b2f a c d e v)) (fun v=>b4p k a c d e [] g (b2g a c d e v)) v:=by
  intro g v;kernel_rfl
 have o:∀ (g:Nat) (v:Int),b4p k a c d e [] g (b2g a c d e v)=a1k (a4t k a c d e) g v:=by
  intro g v;refine a1v (b2g a c d e) (a4t k a c d e) (fun g v=>(n g v).trans ?_) g v;unfold a4t;simp only [m] <;> rfl
 have p:∀ (h:Nat) (v:Int),b4o k a c d e [] (h+1) (b2h a c d e v)=b6x k a c d e (fun v=>b4p k a c d e [] k (b2g a c d e v)) (fun v=>b4o k a c d e [] h (b2h a c d e v)) v:=by
  intro h v;kernel_rfl
 have q:∀ (h:Nat) (v:Int),b4o k a c d e [] h (b2h a c d e v)=a1k (a8c k a c d e) h v:=by
  intro h v;refine a1v (b2h a c d e) (a8c k a c d e) (fun h v=>(p h v).trans ?_) h v;unfold a8c;simp only [o] <;> rfl
 rw [i];unfold c5o;simp only [q]
def c9i (k:Nat) (b a:Int):OO:=
 some ⟨[.i (W64 (6+a))],[]⟩
theorem f1q (k:Nat) (a b:Int):a0a E P0 (k+1) N.j8e [.v [.i a,.i b]]=c9i k a b:=by kernel_rfl
def b6y (k:Nat) (a c d:Int) (e:Bool):OO:=
 bif e then
  a0f (a0a E P0 k N.j1t [.v [.i (W64 (a - c))],.v [.i 0],.v [.i 4]]) fun f=>
  bif (f.t 0).asB then
   a0f (a0a E P0 k N.j1t [.v [.i d],.v [.i (-1)],.v [.i 1000]]) fun g=>
   some ⟨[.b (g.t 0).asB],[]⟩
  else
   some ⟨[.b false],[]⟩
 else
  some ⟨[.b false],[]⟩
def b6z (k:Nat) (y h l:Int) (c:LL) (m z d e n:Int) (A:LL) (f:Int) (B o:Bool) (g:(Int)→OO):(Int)→OO:=fun a=>
 bif (decide (a<(c.length:Int))) then
  chk (decide (0≤a)&&decide (a<(c.length:Int))) <|
  a0f (a0a E P0 k N.j2d [.v [.r (at_ c a.toNat 0).asR,.r (at_ c a.toNat 1).asR,.b (at_ c a.toNat 2).asB,.r (at_ c a.toNat 3).asR]]) fun p=>
  bif (!(p.t 0).asB) then
   some ⟨[.b false],[]⟩
  else
   a0f (a0a E P0 k N.j8e [.v [.i h,.i l]]) fun q=>
   bif (((at_ c a.toNat 0).asR.length:Int) != (q.t 0).asI) then
    some ⟨[.b false],[]⟩
   else
    bif (at_ c a.toNat 2).asB then
     bif (m != a) then
      bif (!o) then some ⟨[.b false],[]⟩ else g (W64 (a+1))
     else
      g (W64 (a+1))
    else
     g (W64 (a+1))
 else
  a0f (a0a E P0 k N.j1t [.v [.i d],.v [.i 0],.v [.i 60000]]) fun u=>
  bif (u.t 0).asB then
   a0f (a0a E P0 k N.j1t [.v [.i e],.v [.i 0],.v [.i 60000]]) fun w=>
   bif (w.t 0).asB then
    a0f (a0a E P0 k N.j1t [.v [.i n],.v [.i 0],.v [.i 60000]]) fun x=>
    b6y k d e f ((x.t 0).asB)
   else
    b6y k d e f false
  else
   b6y k d e f false
def f8r:List Nat:=[1,2,5,41,42,43,76,77,78,79,80,81,82,83,84,85,86,87,88,89,90,91,92,93,94,95,96,97,98,99,100,101,102]
def f8s (c d e:Int) (a:LL) (f g h l m:Int) (n:LL) (o:Int) (p q:Bool):(Int)→St:=fun r=>⟨a3q [(1,.ptr (1,0) 0),(2,.b false),(5,.skip),(41,.sl 135 a),(42,.i .i64 (a.length:Int)),(43,.i .i64 r),(76,.skip),(77,.skip),(78,.skip),(79,.skip),(80,.skip),(81,.skip),(82,.skip),(83,.skip),(84,.skip),(85,.skip),(86,.skip),(87,.skip),(88,.skip),(89,.skip),(90,.skip),(91,.skip),(92,.skip),(93,.skip),(94,.skip),(95,.skip),(96,.skip),(97,.skip),(98,.skip),(99,.skip),(100,.skip),(101,.skip),(102,.skip)],a1f [((1,0),.var [.i .i64 c,.i .i64 d,.i .i64 e,.sl 135 a,.i .i64 f,.i .i64 g,.i .i64 h,.i .i64 l,.i .i64 m,.sl 137 n,.i .i64 o,.b p,.b q])]⟩
def a8d (k:Nat) (a:(Int)→OO) (c:Bool):OO:=
 bif c then some ⟨[.b false],[]⟩ else a 0
def c5p (k:Nat) (e c d:Int) (f:LL) (g h l m n:Int) (o:LL) (p:Int) (q u:Bool) (a:(Int)→OO):OO:=
 a0f (a0a E P0 k N.j2v [.v [.i c,.i d]]) fun w=>
 bif (!(w.t 0).asB) then
  a8d k a true
 else
  bif ((f.length:Int) != c) then
   a8d k a true
  else
   a0f (a0a E P0 k N.j1t [.v [.i e],.v [.i 1],.v [.i 60000]]) fun x=>
   bif (!(x.t 0).asB) then
    a8d k a true
   else
    a0f (a0a E P0 k N.j5d [.v [.i c,.i d],.v [.i g],.v [.i h]]) fun y=>
    bif (!(y.t 0).asB) then
     a8d k a true
    else
     a0f (a0a E P0 k N.j8d [.v [.i e,.i c,.i d,.r f,.i g,.i h,.i l,.i m,.i n,.r o,.i p,.b q,.b u]]) fun z=>
     a8d k a (!(z.t 0).asB)
def d8x (k:Nat) (a b c:Int) (d:LL) (e f g h i:Int) (l:LL) (m:Int) (n o:Bool):OO:=
 c5p k a b c d e f g h i l m n o (fun v=>a1k (b6z k a b c d e f g h i l m n o) k v)
theorem g3m (k:Nat) (a c d:Int) (e:LL) (f g h l m:Int) (n:LL) (o:Int) (p q:Bool):a0a E P0 (k+1) N.j2w [.v [.i a,.i c,.i d,.r e,.i f,.i g,.i h,.i l,.i m,.r n,.i o,.b p,.b q]]=d8x k a c d e f g h l m n o p q:=a2c [] [.sr,.sr,.sl,.sr,.bl] f8r (c5p k a c d e f g h l m n o p q) (f8s a c d e f g h l m n o p q) (b6z k a c d e f g h l m n o p q) (by kernel_rfl) (fun j v=>by kernel_rfl)
def d3w (k:Nat) (c d b e a f:Int) (g:LL):OO:=
 a0f (a0a E P0 k N.j3w [.v [.i c,.i d],.v [.i b,.i e,.i a,.i f,.r g]]) fun h=>
 bif ((h.t 0).asI != 0) then
  some ⟨[.i 0,.i 0],[]⟩
 else
  bif (b == 4) then
   a0f (a0a E P0 k N.j3v [.v [.i c,.i d]]) fun l=>
   some ⟨[.i 0,.i (l.t 0).asI],[]⟩
  else
   a0f (a0a E P0 k N.j3d [.v [.i b,.i e,.i a,.i f,.r g]]) fun m=>
   some ⟨[.i a,.i (W64 (a+(m.t 0).asI))],[]⟩
theorem f8t (k:Nat) (a b c d e f:Int) (g:LL):a0a E P0 (k+1) N.j3z [.v [.i a,.i b],.v [.i c,.i d,.i e,.i f,.r g]]=d3w k a b c d e f g:=by kernel_rfl
def d8y (k:Nat) (d e f g h l:Int) (m:LL) (n o p q:Int) (u:LL):OO:=
 a0f (a0a E P0 k N.j3z [.v [.i d,.i e],.v [.i f,.i g,.i h,.i l,.r m]]) fun a=>
 a0f (a0a E P0 k N.j3z [.v [.i d,.i e],.v [.i n,.i o,.i p,.i q,.r u]]) fun c=>
 some ⟨[.b (decide ((if (c.t 0).asI > (a.t 0).asI then (c.t 0).asI else (a.t 0).asI)<(if (c.t 1).asI<(a.t 1).asI then (c.t 1).asI else (a.t 1).asI)))],[]⟩
theorem g3n (k:Nat) (a b c d e f:Int) (g:LL) (h l m n:Int) (o:LL):a0a E P0 (k+1) N.j8f [.v [.i a,.i b],.v [.i c,.i d,.i e,.i f,.r g],.v [.i h,.i l,.i m,.i n,.r o]]=d8y k a b c d e f g h l m n o:=by kernel_rfl
def a5w (k:Nat) (w d e:Int) (x:LL) (y z A B C:Int) (D:LL) (F:Int) (G H:Bool) (J K L M c:LL) (f g h l m:Int) (n:LL) (O:Int) (Q:LL) (R o:Int) (p q:(Int)→OO):(Int)→OO:=fun a=>
 bif (decide (a<f)) then
  chk (decide (0≤a)&&decide (a<(c.length:Int))) <|
  a0f (a0a E P0 k N.j8f [.v [.i d,.i e],.v [.i g,.i h,.i l,.i m,.r n],.v [.i (at_ c a.toNat 0).asI,.i (at_ c a.toNat 1).asI,.i (at_ c a.toNat 2).asI,.i (at_ c a.toNat 3).asI,.r (at_ c a.toNat 4).asR]]) fun u=>
  bif (u.t 0).asB then some ⟨[.b false],[]⟩ else q (W64 (a+1))
 else
  p (W64 (o+1))
def f8u:List Nat:=[1,2,4,8,9,10,18,19,20,33]
def b2i (c d e:Int) (f:LL) (g h l m n:Int) (o:LL) (p:Int) (q r:Bool) (t a u w x:LL) (y z A B C:Int) (D:LL) (F:Int) (G:LL) (H J:Int):(Int)→St:=fun K=>⟨a3q [(1,.ptr (1,0) 0),(2,.b false),(4,.ptr (4,0) 0),(8,.sl 94 a),(9,.i .i64 (a.length:Int)),(10,.i .i64 J),(18,.sl 94 x),(19,.i .i64 y),(20,.i .i64 K),(33,.undef)],a1f [((1,0),.var [.i .i64 c,.i .i64 d,.i .i64 e,.sl 135 f,.i .i64 g,.i .i64 h,.i .i64 l,.i .i64 m,.i .i64 n,.sl 137 o,.i .i64 p,.b q,.b r,.sl 91 t,.sl 94 a,.sl 95 u,.sl 98 w]),((4,0),.var [.i .i64 z,.i .i64 A,.i .i64 B,.i .i64 C,.sl 3 D,.i .i64 F,.sl 3 G,.i .i64 H])]⟩
def b7a (k:Nat) (e f g:Int) (h:LL) (i l m n o:Int) (p:LL) (q:Int) (r t:Bool) (u c w x:LL) (d:LL→Int→Int→Int→Int→Int→LL→Int→LL→Int→Int→(Int)→OO) (y:(Int)→OO):(Int)→OO:=fun a=>
 bif (decide (a<(c.length:Int))) then
  chk (decide (0≤a)&&decide (a<(c.length:Int))) <|
  chk (decide (0≤0)&&decide (0≤a)&&decide (a≤(c.length:Int))) <|
  d ((c.drop (0:Int).toNat).take (a.toNat - (0:Int).toNat)) (((c.drop (0:Int).toNat).take (a.toNat - (0:Int).toNat)).length:Int) ((at_ c a.toNat 0).asI) ((at_ c a.toNat 1).asI) ((at_ c a.toNat 2).asI) ((at_ c a.toNat 3).asI) ((at_ c a.toNat 4).asR) ((at_ c a.toNat 5).asI) ((at_ c a.toNat 6).asR) ((at_ c a.toNat 7).asI) a 0
 else
  some ⟨[.b true],[]⟩
def f8v:List Nat:=[1,2,8,9,10]
def a4u (c d e:Int) (f:LL) (g h l m n:Int) (o:LL) (p:Int) (q r:Bool) (t a u w:LL):(Int)→St:=fun x=>⟨a3q [(1,.ptr (1,0) 0),(2,.b false),(8,.sl 94 a),(9,.i .i64 (a.length:Int)),(10,.i .i64 x)],a1f [((1,0),.var [.i .i64 c,.i .i64 d,.i .i64 e,.sl 135 f,.i .i64 g,.i .i64 h,.i .i64 l,.i .i64 m,.i .i64 n,.sl 137 o,.i .i64 p,.b q,.b r,.sl 91 t,.sl 94 a,.sl 95 u,.sl 98 w])]⟩
def a8e (k:Nat) (a b c:Int) (d:LL) (e f g h i:Int) (l:LL) (m:Int) (n o:Bool) (p q r t:LL) (u:(Int)→OO):(Int)→OO:=
 b7a k a b c d e f g h i l m n o p q r t (fun w x y z A B C D F G H v=>a1k (a5w k a b c d e f g h i l m n o p q r t w x y z A B C D F G H u) k v) u
def c5q (k:Nat) (b c d:Int) (e:LL) (f g h i l:Int) (m:LL) (n:Int) (o p:Bool) (q r t u:LL) (a:(Int)→OO):OO:=
 a 0
def c5r (k:Nat) (a b c:Int) (d:LL) (e f g h i:Int) (l:LL) (m:Int) (n o:Bool) (p q r t:LL):OO:=
 c5q k a b c d e f g h i l m n o p q r t (fun v=>a1k (a8e k a b c d e f g h i l m n o p q r t) k v)
def a5a (k:Nat) (a c d:Int) (e:LL) (f g h l m:Int) (n:LL) (o:Int) (p q:Bool) (t u w x:LL) (js:List Nat) (j:Nat) (s:St):OO:=IT_ k N.j3f [.v [.i a,.i c,.i d,.r e,.i f,.i g,.i h,.i l,.i m,.r n,.i o,.b p,.b q,.r t,.r u,.r w,.r x]] [] [.sr,.sl,.sr,.bl] f8v js j s
def b4r (k:Nat) (a c d:Int) (e:LL) (f g h l m:Int) (n:LL) (o:Int) (p q:Bool) (t u w x:LL) (js:List Nat) (j:Nat) (s:St):OO:=IT_ k N.j3f [.v [.i a,.i c,.i d,.r e,.i f,.i g,.i h,.i l,.i m,.r n,.i o,.b p,.b q,.r t,.r u,.r w,.r x]] [] [.sr,.sl,.sr,.bl,.lp,.sr,.sr,.sl,.bl,.sr,.sr,.bl] f8u js j s
theorem g3o (k:Nat) (a c d:Int) (e:LL) (f g h l m:Int) (n:LL) (o:Int) (p q:Bool) (t u w x:LL):a0a E P0 (k+1) N.j3f [.v [.i a,.i c,.i d,.r e,.i f,.i g,.i h,.i l,.i m,.r n,.i o,.b p,.b q,.r t,.r u,.r w,.r x]]=c5r k a c d e f g h l m n o p q t u w x:=by
 have O:a0a E P0 (k+1) N.j3f [.v [.i a,.i c,.i d,.r e,.i f,.i g,.i h,.i l,.i m,.r n,.i o,.b p,.b q,.r t,.r u,.r w,.r x]]=c5q k a c d e f g h l m n o p q t u w x (fun v=>a5a k a c d e f g h l m n o p q t u w x [] k (a4u a c d e f g h l m n o p q t u w x v)):=by kernel_rfl
 have Q:∀ (y:Nat) (z:LL) (A B C D F:Int) (G:LL) (H:Int) (J:LL) (K L:Int) (M:Nat) (v:Int),b4r k a c d e f g h l m n o p q t u w x [y] (M+1) (b2i a c d e f g h l m n o p q t u w x z A B C D F G H J K L v)=a5w k a c d e f g h l m n o p q t u w x z A B C D F G H J K L (fun v=>a5a k a c d e f g h l m n o p q t u w x [] y (a4u a c d e f g h l m n o p q t u w x v)) (fun v=>b4r k a c d e f g h l m n o p q t u w x [y] M (b2i a c d e f g h l m n o p q t u w x z A B C D F G H J K L v)) v:=by
  intro y z A B C D F G H J K L M v;kernel_rfl
 have R:∀ (y:Nat) (z:LL) (A B C D F:Int) (G:LL) (H:Int) (J:LL) (K L:Int) (M:Nat) (v:Int),b4r k a c d e f g h l m n o p q t u w x [y] M (b2i a c d e f g h l m n o p q t u w x z A B C D F G H J K L v)=a1k (a5w k a c d e f g h l m n o p q t u w x z A B C D F G H J K L (fun v=>a5a k a c d e f g h l m n o p q t u w x [] y (a4u a c d e f g h l m n o p q t u w x v))) M v:=by
  intro y z A B C D F G H J K L M v;refine a1v (b2i a c d e f g h l m n o p q t u w x z A B C D F G H J K L) (a5w k a c d e f g h l m n o p q t u w x z A B C D F G H J K L (fun v=>a5a k a c d e f g h l m n o p q t u w x [] y (a4u a c d e f g h l m n o p q t u w x v))) (fun M v=>(Q y z A B C D F G H J K L M v).trans ?_) M v;unfold a5w;rfl
 have S:∀ (y:Nat) (v:Int),a5a k a c d e f g h l m n o p q t u w x [] (y+1) (a4u a c d e f g h l m n o p q t u w x v)=b7a k a c d e f g h l m n o p q t u w x (fun U V W X Y Z aa ab ac ad ae v=>b4r k a c d e f g h l m n o p q t u w x [y] k (b2i a c d e f g h l m n o p q t u w x U V W X Y Z aa ab ac ad ae v)) (fun v=>a5a k a c d e f g h l m n o p q t u w x [] y (a4u a c d e f g h l m n o p q t u w x v)) v:=by
  intro y v;kernel_rfl
 have af:∀ (y:Nat) (v:Int),a5a k a c d e f g h l m n o p q t u w x [] y (a4u a c d e f g h l m n o p q t u w x v)=a1k (a8e k a c d e f g h l m n o p q t u w x) y v:=by
  intro y v;refine a1v (a4u a c d e f g h l m n o p q t u w x) (a8e k a c d e f g h l m n o p q t u w x) (fun y v=>(S y v).trans ?_) y v;unfold a8e;simp only [R] <;> rfl
 rw [O];unfold c5r;simp only [af]
def b2j (k:Nat) (a c d:Int) (e:LL) (f g h l m:Int) (n:LL) (o:Int) (p q:Bool) (u w x y:LL) (z:Bool):OO:=
 bif z then
  a0f (a0a E P0 k N.j2w [.v [.i a,.i c,.i d,.r e,.i f,.i g,.i h,.i l,.i m,.r n,.i o,.b p,.b q]]) fun A=>
  bif (A.t 0).asB then
   a0f (a0a E P0 k N.j3f [.v [.i a,.i c,.i d,.r e,.i f,.i g,.i h,.i l,.i m,.r n,.i o,.b p,.b q,.r u,.r w,.r x,.r y]]) fun B=>
   some ⟨[.b (B.t 0).asB],[]⟩
  else
   some ⟨[.b false],[]⟩
 else
  some ⟨[.b false],[]⟩
def b7b (k:Nat) (l d e:Int) (m:LL) (n o p q u:Int) (w:LL) (x:Int) (y z:Bool) (f a g h:LL) (A:(Int)→OO):(Int)→OO:=fun c=>
 bif (decide (c<(a.length:Int))) then
  chk (decide (0≤c)&&decide (c<(a.length:Int))) <|
  a0f (a0a E P0 k N.j8c [.v [.i d,.i e],.v [.i (at_ a c.toNat 0).asI,.i (at_ a c.toNat 1).asI,.i (at_ a c.toNat 2).asI,.i (at_ a c.toNat 3).asI,.r (at_ a c.toNat 4).asR,.i (at_ a c.toNat 5).asI,.r (at_ a c.toNat 6).asR,.i (at_ a c.toNat 7).asI]]) fun B=>
  bif (!(B.t 0).asB) then some ⟨[.b false],[]⟩ else A (W64 (c+1))
 else
  bif (decide ((f.length:Int)≤8)) then
   bif (decide ((a.length:Int)≤4)) then
    bif (decide ((g.length:Int)≤8)) then
     b2j k l d e m n o p q u w x y z f a g h (decide ((h.length:Int)≤400))
    else
     b2j k l d e m n o p q u w x y z f a g h false
   else
    b2j k l d e m n o p q u w x y z f a g h false
  else
   b2j k l d e m n o p q u w x y z f a g h false
def f8w:List Nat:=[1,2,5,7,8,9,20,21,22,23,24,25,26,27,28,29,30,31,32,33,34,35,36,37,38,39,40,41,42,43,44,45,46,47,48,49,50,51]
def f8x (c d e:Int) (f:LL) (g h l m n:Int) (o:LL) (p:Int) (q r:Bool) (t a u w:LL):(Int)→St:=fun x=>⟨a3q [(1,.ptr (1,0) 0),(2,.b false),(5,.skip),(7,.sl 94 a),(8,.i .i64 (a.length:Int)),(9,.i .i64 x),(20,.skip),(21,.skip),(22,.skip),(23,.skip),(24,.skip),(25,.skip),(26,.skip),(27,.skip),(28,.skip),(29,.skip),(30,.skip),(31,.skip),(32,.skip),(33,.skip),(34,.skip),(35,.skip),(36,.skip),(37,.skip),(38,.skip),(39,.skip),(40,.skip),(41,.skip),(42,.skip),(43,.skip),(44,.skip),(45,.skip),(46,.skip),(47,.skip),(48,.skip),(49,.skip),(50,.skip),(51,.skip)],a1f [((1,0),.var [.i .i64 c,.i .i64 d,.i .i64 e,.sl 135 f,.i .i64 g,.i .i64 h,.i .i64 l,.i .i64 m,.i .i64 n,.sl 137 o,.i .i64 p,.b q,.b r,.sl 91 t,.sl 94 a,.sl 95 u,.sl 98 w])]⟩
def c5s (k:Nat) (b c d:Int) (e:LL) (f g h i l:Int) (m:LL) (n:Int) (o p:Bool) (q r t u:LL) (a:(Int)→OO):OO:=
 a 0
def d8z (k:Nat) (a b c:Int) (d:LL) (e f g h i:Int) (l:LL) (m:Int) (n o:Bool) (p q r t:LL):OO:=
 c5s k a b c d e f g h i l m n o p q r t (fun v=>a1k (b7b k a b c d e f g h i l m n o p q r t) k v)
theorem g3p (k:Nat) (a c d:Int) (e:LL) (f g h l m:Int) (n:LL) (o:Int) (p q:Bool) (t u w x:LL):a0a E P0 (k+1) N.j8g [.v [.i a,.i c,.i d,.r e,.i f,.i g,.i h,.i l,.i m,.r n,.i o,.b p,.b q,.r t,.r u,.r w,.r x]]=d8z k a c d e f g h l m n o p q t u w x:=a2c [] [.sr,.sl,.sr,.bl] f8w (c5s k a c d e f g h l m n o p q t u w x) (f8x a c d e f g h l m n o p q t u w x) (b7b k a c d e f g h l m n o p q t u w x) (by kernel_rfl) (fun j v=>by kernel_rfl)
def c5t (k:Nat) (a c d:Int):OO:=
 a0f (a0a E P0 k N.j3v [.v [.i a,.i c]]) fun e=>
 a0f (a0a E P0 k N.j1t [.v [.i d],.v [.i 0],.v [.i (W64 ((e.t 0).asI - 1))]]) fun f=>
 some ⟨[.b (f.t 0).asB],[]⟩
theorem e6f (k:Nat) (a b c:Int):a0a E P0 (k+1) N.j4a [.v [.i a,.i b],.v [.i c]]=c5t k a b c:=by kernel_rfl
def c5u (k:Nat) (a c b:Int):OO:=
 a0f (a0a E P0 k N.j4a [.v [.i a,.i c],.v [.i b]]) fun d=>
 bif (!(d.t 0).asB) then
  some ⟨[.i (-1)],[]⟩
 else
  chk (!decide ((W64 (a - 1))=0)) <|
  some ⟨[.i (W64 (Int.tdiv b (W64 (a - 1))))],[]⟩
theorem e6g (k:Nat) (a b c:Int):a0a E P0 (k+1) N.j3g [.v [.i a,.i b],.v [.i c]]=c5u k a b c:=by kernel_rfl
def c3s (k:Nat) (a b d e f g:Int) (h:LL):OO:=
 a0f (a0a E P0 k N.j3z [.v [.i a,.i b],.v [.i d,.i e,.i f,.i g,.r h]]) fun c=>
 a0f (a0a E P0 k N.j3g [.v [.i a,.i b],.v [.i (c.t 0).asI]]) fun l=>
 a0f (a0a E P0 k N.j3g [.v [.i a,.i b],.v [.i (W64 ((c.t 1).asI - 1))]]) fun m=>
 some ⟨[.i (l.t 0).asI,.i (m.t 0).asI],[]⟩
theorem d9z (k:Nat) (a b c d e f:Int) (g:LL):a0a E P0 (k+1) N.j4b [.v [.i a,.i b],.v [.i c,.i d,.i e,.i f,.r g]]=c3s k a b c d e f g:=by kernel_rfl
def c9j (k:Nat) (g f a b c d:Int) (e:LL):OO:=
 a0f (a0a E P0 k N.j3w [.v [.i g,.i f],.v [.i a,.i b,.i c,.i d,.r e]]) fun l=>
 bif ((l.t 0).asI != 0) then
  some ⟨[.i 0],[]⟩
 else
  bif (a == 3) then
   a0f (a0a E P0 k N.j4b [.v [.i g,.i f],.v [.i a,.i b,.i c,.i d,.r e]]) fun h=>
   a0f (a0a E P0 k N.j3d [.v [.i a,.i b,.i c,.i d,.r e]]) fun m=>
   some ⟨[.i (W64 ((W64 ((W64 ((m.t 0).asI+(h.t 1).asI)) - (h.t 0).asI))+2))],[]⟩
  else
   bif (a == 4) then
    some ⟨[.i (W64 (f+1))],[]⟩
   else
    a0f (a0a E P0 k N.j3d [.v [.i a,.i b,.i c,.i d,.r e]]) fun n=>
    some ⟨[.i (W64 ((n.t 0).asI+1))],[]⟩
theorem f1r (k:Nat) (a b c d e f:Int) (g:LL):a0a E P0 (k+1) N.j5e [.v [.i a,.i b],.v [.i c,.i d,.i e,.i f,.r g]]=c9j k a b c d e f g:=by kernel_rfl
def c3t (k:Nat) (e a c:Int) (f:LL) (g h l m n:Int) (o:LL) (p:Int) (d q:Bool) (u:Int):OO:=
 a0f (a0a E P0 k N.j2w [.v [.i e,.i a,.i c,.r f,.i g,.i h,.i l,.i m,.i n,.r o,.i p,.b d,.b q]]) fun w=>
 bif (!(w.t 0).asB) then
  some ⟨[.i 1],[]⟩
 else
  bif d then
   some ⟨[.i 6],[]⟩
  else
   a0f (a0a E P0 k N.j4a [.v [.i a,.i c],.v [.i u]]) fun x=>
   bif (!(x.t 0).asB) then some ⟨[.i 2],[]⟩ else some ⟨[.i 0],[]⟩
theorem e0a (k:Nat) (a c d:Int) (e:LL) (f g h l m:Int) (n:LL) (o:Int) (p q:Bool) (t:Int):a0a E P0 (k+1) N.j5f [.v [.i a,.i c,.i d,.r e,.i f,.i g,.i h,.i l,.i m,.r n,.i o,.b p,.b q],.v [.i t]]=c3t k a c d e f g h l m n o p q t:=by kernel_rfl
def c9k (k:Nat) (c:Int) (d:LL) (a:Int):OO:=
 some ⟨[.b (c == a)],[[.i a]]⟩
theorem f1s (k:Nat) (a:Int) (b:LL) (c:Int):a0a E P0 (k+1) N.j3h [.v [.i a,.r b],.p [.i c]]=c9k k a b c:=by kernel_rfl
def a1u (k:Nat) (b:LL) (e:(V1_)→OO):(V1_)→OO:=fun (a,d)=>
 bif (decide (a<(b.length:Int))) then
  chk (decide (0≤a)&&decide (a<(b.length:Int))) <|
  a0f (a0a E P0 k N.j3h [.v [.i (at_ b a.toNat 0).asI,.r (at_ b a.toNat 1).asR],.p [.i d]]) fun c=>
  bif (c.t 0).asB then
   some ⟨[.i a],[[.i (c.vt 0 0).asI]]⟩
  else
   e ((W64 (a+1)),(c.vt 0 0).asI)
 else
  some ⟨[.i (-1)],[[.i d]]⟩
def a8o:List Nat:=[0,1,4,7,8]
def a8p (a:LL):(V1_)→St:=fun (b,c)=>⟨a3q [(0,.sl 137 a),(1,.clo N.j3h (some (1,0))),(4,.i .i64 0),(7,.i .i64 (a.length:Int)),(8,.i .i64 b)],a1f [((1,0),.var [.i .i64 c])]⟩
def a2t (k:Nat) (c:LL) (a:Int) (b:(V1_)→OO):OO:=
 b (0,a)
def a3x (k:Nat) (a:LL) (b:Int):OO:=
 a2t k a b (fun v=>a1k (a1u k a) k v)
theorem a8x (k:Nat) (a:LL) (d:Int):a0a E P0 (k+1) N.j8h [.v [.r a],.c N.j3h (some [.i d])]=a3x k a d:=a2c [1] [.sr,.sl,.sr,.bl] a8o (a2t k a d) (a8p a) (a1u k a) (by kernel_rfl) (fun j v=>by kernel_rfl)
def d9a (k:Nat) (e f g:Int) (h:LL) (l m n o p:Int) (a:LL) (q:Int) (u w:Bool) (b:Int):OO:=
 a0f (a0a E P0 k N.j8h [.v [.r a],.c N.j3h (some [.i b])]) fun d=>
 some ⟨[.i (d.t 0).asI],[]⟩
theorem g3q (k:Nat) (a c d:Int) (e:LL) (f g h l m:Int) (n:LL) (o:Int) (p q:Bool) (t:Int):a0a E P0 (k+1) N.j5g [.v [.i a,.i c,.i d,.r e,.i f,.i g,.i h,.i l,.i m,.r n,.i o,.b p,.b q],.v [.i t]]=d9a k a c d e f g h l m n o p q t:=by kernel_rfl
def d3x (k:Nat) (a:Int):OO:=
 a0f (a0a E P0 k N.j1t [.v [.i a],.v [.i 0],.v [.i 1099511627776]]) fun b=>
 bif (!(b.t 0).asB) then
  some ⟨[.i (-1)],[]⟩
 else
  some ⟨[.i (W64 ((W64 (a+2))+4))],[]⟩
theorem f8y (k:Nat) (a:Int):a0a E P0 (k+1) N.j5h [.v [.i a]]=d3x k a:=by kernel_rfl
def a3v (k:Nat) (b:LL) (c:Int) (d:(Int)→OO):(Int)→OO:=fun a=>
 bif (decide (a<(b.length:Int))) then
  chk (decide (0≤a)&&decide (a<(b.length:Int))) <|
  bif (c == (at_ b a.toNat 0).asI) then some ⟨[.i a],[]⟩ else d (W64 (a+1))
 else
  some ⟨[.i (-1)],[]⟩
def c2s:List Nat:=[0,1,4,7,8]
def c2t (a:LL) (b:Int):(Int)→St:=fun c=>⟨a3q [(0,.sl 3 a),(1,.i .i64 b),(4,.i .i64 0),(7,.i .i64 (a.length:Int)),(8,.i .i64 c)],a1f []⟩
def a6q (k:Nat) (b:LL) (c:Int) (a:(Int)→OO):OO:=
 a 0
def b3f (k:Nat) (a:LL) (b:Int):OO:=
 a6q k a b (fun v=>a1k (a3v k a b) k v)
theorem c4e (k:Nat) (a:LL) (c:Int):a0a E P0 (k+1) N.j8i [.v [.r a],.v [.i c]]=b3f k a c:=a2c [] [.sr,.sl,.sr,.bl] c2s (a6q k a c) (c2t a c) (a3v k a c) (by kernel_rfl) (fun j v=>by kernel_rfl)
def a8y (k:Nat) (a:LL) (c:Int):OO:=
 a0f (a0a E P0 k N.j8i [.v [.r a],.v [.i c]]) fun d=>
 some ⟨[.b (decide ((d.t 0).asI≥0))],[]⟩
theorem c0m (k:Nat) (a:LL) (b:Int):a0a E P0 (k+1) N.j8j [.v [.r a],.v [.i b]]=a8y k a b:=by kernel_rfl
def b2k (k:Nat) (c:LL) (f:Int) (d:(V4_)→OO):(V4_)→OO:=fun (e,a)=>
 bif (decide (a<(c.length:Int))) then
  chk (decide (0≤a)&&decide (a<(c.length:Int))) <|
  bif ((at_ c a.toNat 0).asI == f) then
   d ((at_ c a.toNat 1).asR,(W64 (a+1)))
  else
   d (e,(W64 (a+1)))
 else
  a0f (a0a E P0 k N.j1u [.v [.r e]]) fun g=>
  some ⟨[.r (g.t 0).asR,.b true],[]⟩
def e6h:List Nat:=[1,4,5,6,34,35,36,47,48]
def e6i (a:LL) (c:Int):(V4_)→St:=fun (d,e)=>⟨a3q [(1,.i .i64 c),(4,.ref (4,0)),(5,.b false),(6,.sl 3 d),(34,.sl 161 a),(35,.i .i64 (a.length:Int)),(36,.i .i64 e),(47,.skip),(48,.skip)],a1f [((4,0),.row 3 true [])]⟩
def a7r (k:Nat) (c:LL) (a:Int) (d:(V4_)→OO) (e:Bool):OO:=
 bif e then
  some ⟨[.r [],.b false],[]⟩
 else
  chk (decide (0≤a)&&decide (a<(c.length:Int))) <|
  d ((at_ c a.toNat 0).asR,0)
def c0n (k:Nat) (a g:LL) (e:Bool) (f:LL) (c:Int) (d:(V4_)→OO):OO:=
 a0f (a0a E P0 k N.j2d [.v [.r a,.r g,.b e,.r f]]) fun h=>
 bif (!(h.t 0).asB) then
  a7r k a c d true
 else
  bif e then
   a7r k a c d true
  else
   a0f (a0a E P0 k N.j3e [.v [.r a,.r g,.b e,.r f],.v [.i c]]) fun l=>
   bif (!(l.t 0).asB) then
    a7r k a c d true
   else
    a0f (a0a E P0 k N.j8j [.v [.r f],.v [.i c]]) fun m=>
    a7r k a c d ((m.t 0).asB)
def c9l (k:Nat) (c a:LL) (d:Bool) (e:LL) (b:Int):OO:=
 c0n k c a d e b (fun v=>a1k (b2k k a b) k v)
theorem f1t (k:Nat) (d a:LL) (e:Bool) (f:LL) (c:Int):a0a E P0 (k+1) N.j8k [.v [.r d,.r a,.b e,.r f],.v [.i c]]=c9l k d a e f c:=a2c [] [.sr,.sr,.sr,.sl,.sr,.bl] e6h (c0n k d a e f c) (e6i a c) (b2k k a c) (by kernel_rfl) (fun j v=>by kernel_rfl)
def d3y (k:Nat) (h l m:Int) (c:LL) (d e n o p:Int) (q:LL) (r:Int) (u w:Bool) (a f:Int):OO:=
 a0f (a0a E P0 k N.j1t [.v [.i a],.v [.i 0],.v [.i (W64 ((c.length:Int) - 1))]]) fun g=>
 bif (g.t 0).asB then
  chk (decide (0≤a)&&decide (a<(c.length:Int))) <|
  bif (!(at_ c a.toNat 2).asB) then
   bif (d != a) then some ⟨[.b true],[]⟩ else some ⟨[.b (decide (f<e))],[]⟩
  else
   some ⟨[.b false],[]⟩
 else
  some ⟨[.b false],[]⟩
theorem f8z (k:Nat) (a c d:Int) (e:LL) (f g h l m:Int) (n:LL) (o:Int) (p q:Bool) (t u:Int):a0a E P0 (k+1) N.j5i [.v [.i a,.i c,.i d,.r e,.i f,.i g,.i h,.i l,.i m,.r n,.i o,.b p,.b q],.v [.i t],.v [.i u]]=d3y k a c d e f g h l m n o p q t u:=by kernel_rfl
def b4s (k:Nat) (a:Outs) (c:Bool):OO:=
 bif c then
  some ⟨[.i 0,.b false],[]⟩
 else
  chk (decide ((0:Int)<((a.t 0).asR.length:Int))) <|
  some ⟨[.i (at_ (a.t 0).asR 0 0).asI,.b true],[]⟩
def d3z (k:Nat) (f g h:Int) (c:LL) (l m n o p:Int) (q:LL) (u:Int) (w x:Bool) (a e:Int):OO:=
 chk (decide (0≤a)&&decide (a<(c.length:Int))) <|
 a0f (a0a E P0 k N.j5h [.v [.i e]]) fun y=>
 a0f (a0a E P0 k N.j8k [.v [.r (at_ c a.toNat 0).asR,.r (at_ c a.toNat 1).asR,.b (at_ c a.toNat 2).asB,.r (at_ c a.toNat 3).asR],.v [.i (y.t 0).asI]]) fun d=>
 a0f (a0a E P0 k N.j5i [.v [.i f,.i g,.i h,.r c,.i l,.i m,.i n,.i o,.i p,.r q,.i u,.b w,.b x],.v [.i a],.v [.i e]]) fun z=>
 bif (!(z.t 0).asB) then
  b4s k d true
 else
  bif (!(d.t 1).asB) then b4s k d true else b4s k d (((d.t 0).asR.length:Int) != 1)
theorem f9a (k:Nat) (a c d:Int) (e:LL) (f g h l m:Int) (n:LL) (o:Int) (p q:Bool) (t u:Int):a0a E P0 (k+1) N.j8l [.v [.i a,.i c,.i d,.r e,.i f,.i g,.i h,.i l,.i m,.r n,.i o,.b p,.b q],.v [.i t],.v [.i u]]=d3z k a c d e f g h l m n o p q t u:=by kernel_rfl
def b7c (k:Nat) (b:LL) (d:(V1_)→OO):(V1_)→OO:=fun (c,a)=>
 bif (decide (a<(b.length:Int))) then
  chk (decide (0≤a)&&decide (a<(b.length:Int))) <|
  d ((c4l .i64 c (at_ b a.toNat 0).asI),(W64 (a+1)))
 else
  some ⟨[.i c],[]⟩
def f9b:List Nat:=[2,3,6,7,8,16]
def f9c (a:LL):(V1_)→St:=fun (b,c)=>⟨a3q [(2,.i .i64 0),(3,.i .i64 b),(6,.sl 3 a),(7,.i .i64 (a.length:Int)),(8,.i .i64 c),(16,.skip)],a1f []⟩
def c5v (k:Nat) (b:LL) (a:(V1_)→OO):OO:=
 a (0,0)
def d9b (k:Nat) (a:LL):OO:=
 c5v k a (fun v=>a1k (b7c k a) k v)
theorem g3r (k:Nat) (a:LL):a0a E P0 (k+1) N.j5j [.v [.r a]]=d9b k a:=a2c [] [.sr,.sr,.sl,.sr,.bl] f9b (c5v k a) (f9c a) (b7c k a) (by kernel_rfl) (fun j v=>by kernel_rfl)
def b9g (k:Nat) (a:LL) (b:Int):OO:=
 a0f (a0a E P0 k N.j5j [.v [.r a]]) fun c=>
 a0f (a0a E P0 k N.j1t [.v [.i b],.v [.i 0],.v [.i (W64 ((a.length:Int) - 1))]]) fun d=>
 bif (d.t 0).asB then
  chk (decide (0≤b)&&decide (b<(a.length:Int))) <|
  some ⟨[.i (c4l .i64 (c.t 0).asI (at_ a b.toNat 0).asI)],[]⟩
 else
  some ⟨[.i (c.t 0).asI],[]⟩
theorem d4a (k:Nat) (a:LL) (b:Int):a0a E P0 (k+1) N.j8m [.v [.r a],.v [.i b]]=b9g k a b:=by kernel_rfl
def c2u (k:Nat) (a:Outs) (f d:Int) (c:LL) (e:(V2_)→OO) (g:Bool):OO:=
 bif g then
  some ⟨[.r [],.b false],[]⟩
 else
  bif (!(a.t 1).asB) then
   chk (decide ((c.length+([[.i (a.t 0).asI]]:LL).length)*8≤140737488355328)) <|
   e (d,(W64 (d+1)),(c++([[.i (a.t 0).asI]]:LL)))
  else
   chk (decide ((c.length+([[.i (a.t 0).asI]]:LL).length)*8≤140737488355328)) <|
   e (f,(W64 (d+1)),(c++([[.i (a.t 0).asI]]:LL)))
def b2l (k:Nat) (h l m:Int) (f:LL) (n o p q u:Int) (w:LL) (x:Int) (y z:Bool) (A:Int) (g:(V2_)→OO):(V2_)→OO:=fun (a,d,c)=>
 bif (decide (d<(f.length:Int))) then
  a0f (a0a E P0 k N.j8l [.v [.i h,.i l,.i m,.r f,.i n,.i o,.i p,.i q,.i u,.r w,.i x,.b y,.b z],.v [.i d],.v [.i A]]) fun e=>
  bif (!(e.t 1).asB) then
   c2u k e a d c g (decide (a≥0))
  else
   c2u k e a d c g false
 else
  bif (decide (a≥0)) then
   a0f (a0a E P0 k N.j8m [.v [.r c],.v [.i a]]) fun B=>
   chk (decide (0≤a)&&decide (a<(c.length:Int))) <|
   some ⟨[.r (a0x c a.toNat 0 [.i (B.t 0).asI]),.b true],[]⟩
  else
   some ⟨[.r c,.b true],[]⟩
def f9d:List Nat:=[1,2,4,5,6,7,28,29,53,54,55,56,57,58,59,60,61]
def f9e (c d e:Int) (a:LL) (f g h l m:Int) (n:LL) (o:Int) (p q:Bool) (r:Int):(V2_)→St:=fun (t,u,w)=>⟨a3q [(1,.i .i64 r),(2,.ptr (2,0) 0),(4,.ref (4,0)),(5,.b false),(6,.ref (6,0)),(7,.i .i64 t),(28,.i .i64 (a.length:Int)),(29,.i .i64 u),(53,.skip),(54,.skip),(55,.skip),(56,.skip),(57,.skip),(58,.skip),(59,.skip),(60,.skip),(61,.skip)],a1f [((2,0),.var [.i .i64 c,.i .i64 d,.i .i64 e,.sl 135 a,.i .i64 f,.i .i64 g,.i .i64 h,.i .i64 l,.i .i64 m,.sl 137 n,.i .i64 o,.b p,.b q]),((4,0),.row 3 true []),((6,0),.row 3 true w)]⟩
def b7d (k:Nat) (a:(V2_)→OO) (c:Bool):OO:=
 bif c then some ⟨[.r [],.b false],[]⟩ else a ((-1),0,[])
def c5w (k:Nat) (f c d:Int) (g:LL) (h l m n o:Int) (p:LL) (q:Int) (u e:Bool) (w:Int) (a:(V2_)→OO):OO:=
 a0f (a0a E P0 k N.j2w [.v [.i f,.i c,.i d,.r g,.i h,.i l,.i m,.i n,.i o,.r p,.i q,.b u,.b e]]) fun x=>
 bif (!(x.t 0).asB) then
  b7d k a true
 else
  bif e then
   b7d k a true
  else
   a0f (a0a E P0 k N.j2r [.v [.i c,.i d],.v [.i w]]) fun y=>
   b7d k a (!(y.t 0).asB)
def d9c (k:Nat) (a b c:Int) (d:LL) (e f g h i:Int) (l:LL) (m:Int) (n o:Bool) (p:Int):OO:=
 c5w k a b c d e f g h i l m n o p (fun v=>a1k (b2l k a b c d e f g h i l m n o p) k v)
theorem g3s (k:Nat) (a c d:Int) (e:LL) (f g h l m:Int) (n:LL) (o:Int) (p q:Bool) (t:Int):a0a E P0 (k+1) N.j8n [.v [.i a,.i c,.i d,.r e,.i f,.i g,.i h,.i l,.i m,.r n,.i o,.b p,.b q],.v [.i t]]=d9c k a c d e f g h l m n o p q t:=a2c [] [.sr,.sr,.sr,.sr,.sl,.sr,.bl] f9d (c5w k a c d e f g h l m n o p q t) (f9e a c d e f g h l m n o p q t) (b2l k a c d e f g h l m n o p q t) (by kernel_rfl) (fun j v=>by kernel_rfl)
def c5x (k:Nat) (a c b:Int):OO:=
 a0f (a0a E P0 k N.j2r [.v [.i a,.i c],.v [.i b]]) fun d=>
 bif (!(d.t 0).asB) then
  some ⟨[.i (-1)],[]⟩
 else
  chk (!decide (a=0)) <|
  some ⟨[.i (W64 ((W64 (a - 1)) - (Int.tmod b a)))],[]⟩
theorem e6j (k:Nat) (a b c:Int):a0a E P0 (k+1) N.j5k [.v [.i a,.i b],.v [.i c]]=c5x k a b c:=by kernel_rfl
def d4b (k:Nat) (a b c d:Int):OO:=
 a0f (a0a E P0 k N.j2r [.v [.i a,.i b],.v [.i c]]) fun e=>
 bif (!(e.t 0).asB) then
  some ⟨[.i (-1)],[]⟩
 else
  a0f (a0a E P0 k N.j1t [.v [.i d],.v [.i 0],.v [.i (W64 (a - 2))]]) fun f=>
  bif (!(f.t 0).asB) then
   some ⟨[.i (-1)],[]⟩
  else
   a0f (a0a E P0 k N.j5k [.v [.i a,.i b],.v [.i c]]) fun g=>
   chk (!decide (a=0)) <|
   some ⟨[.i (Int.tmod (W64 ((W64 ((g.t 0).asI+1))+d)) a)],[]⟩
theorem f9f (k:Nat) (a b c d:Int):a0a E P0 (k+1) N.j5l [.v [.i a,.i b],.v [.i c],.v [.i d]]=d4b k a b c d:=by kernel_rfl
def a8z (k:Nat) (n f g:Int) (o:LL) (p q u w x:Int) (y:LL) (z:Int) (A B:Bool) (h:Int) (c:Outs) (l:Int) (m:(V0_)→OO):(V0_)→OO:=fun (d,e)=>
 bif (decide (d<l)) then
  a0f (a0a E P0 k N.j5l [.v [.i f,.i g],.v [.i h],.v [.i d]]) fun a=>
  chk (decide (0≤(a.t 0).asI)&&decide ((a.t 0).asI<((c.t 0).asR.length:Int))) <|
  chk (decide ((e.length+([[.i (at_ (c.t 0).asR (a.t 0).asI.toNat 0).asI]]:LL).length)*8≤140737488355328)) <|
  m ((W64 (d+1)),(e++([[.i (at_ (c.t 0).asR (a.t 0).asI.toNat 0).asI]]:LL)))
 else
  some ⟨[.r e,.b true],[]⟩
def f1u:List Nat:=[1,2,4,5,6,8,22,23,38]
def c9m (a c d:Int) (e:LL) (f g h l m:Int) (n:LL) (o:Int) (p q:Bool) (r:Int) (u:Outs) (w:Int):(V0_)→St:=fun (x,y)=>⟨a3q [(1,.i .i64 r),(2,.ptr (2,0) 0),(4,.ref (4,0)),(5,.b false),(6,.ref (6,0)),(8,.ref (8,0)),(22,.i .i64 w),(23,.i .i64 x),(38,.skip)],a1f [((2,0),.var [.i .i64 a,.i .i64 c,.i .i64 d,.sl 135 e,.i .i64 f,.i .i64 g,.i .i64 h,.i .i64 l,.i .i64 m,.sl 137 n,.i .i64 o,.b p,.b q]),((4,0),.row 3 true []),((6,0),.row 3 true (u.t 0).asR),((8,0),.row 3 true y)]⟩
def b7e (k:Nat) (d a e:Int) (f:LL) (g h l m n:Int) (o:LL) (p:Int) (q u:Bool) (w:Int) (x:Outs→Int→(V0_)→OO):OO:=
 a0f (a0a E P0 k N.j8n [.v [.i d,.i a,.i e,.r f,.i g,.i h,.i l,.i m,.i n,.r o,.i p,.b q,.b u],.v [.i w]]) fun c=>
 bif (!(c.t 1).asB) then some ⟨[.r [],.b false],[]⟩ else x c (W64 (a - 1)) (0,[])
def d4c (k:Nat) (a b c:Int) (d:LL) (e f g h i:Int) (l:LL) (m:Int) (n o:Bool) (p:Int):OO:=
 b7e k a b c d e f g h i l m n o p (fun q r v=>a1k (a8z k a b c d e f g h i l m n o p q r) k v)
def e6k (k:Nat) (a c d:Int) (e:LL) (f g h l m:Int) (n:LL) (o:Int) (p q:Bool) (t:Int) (js:List Nat) (j:Nat) (s:St):OO:=IT_ k N.j5m [.v [.i a,.i c,.i d,.r e,.i f,.i g,.i h,.i l,.i m,.r n,.i o,.b p,.b q],.v [.i t]] [] [.sr,.sr,.sr,.sr,.sl,.sr,.bl] f1u js j s
theorem f9g (k:Nat) (a c d:Int) (e:LL) (f g h l m:Int) (n:LL) (o:Int) (p q:Bool) (t:Int):a0a E P0 (k+1) N.j5m [.v [.i a,.i c,.i d,.r e,.i f,.i g,.i h,.i l,.i m,.r n,.i o,.b p,.b q],.v [.i t]]=d4c k a c d e f g h l m n o p q t:=
 Eq.trans (b:=b7e k a c d e f g h l m n o p q t (fun u w v=>e6k k a c d e f g h l m n o p q t [] k (c9m a c d e f g h l m n o p q t u w v))) (by kernel_rfl) (congrArg (b7e k a c d e f g h l m n o p q t) (funext fun u=>funext fun w=>funext fun v=>a1v (c9m a c d e f g h l m n o p q t u w) (a8z k a c d e f g h l m n o p q t u w) (fun j v=>by kernel_rfl) k v))
def c9n (k:Nat) (d e f:Int) (g:LL) (h l m n o:Int) (a:LL) (p:Int) (q u:Bool) (w:Int):OO:=
 a0f (a0a E P0 k N.j5g [.v [.i d,.i e,.i f,.r g,.i h,.i l,.i m,.i n,.i o,.r a,.i p,.b q,.b u],.v [.i w]]) fun c=>
 bif (decide ((c.t 0).asI≥0)) then
  chk (decide (0≤(c.t 0).asI)&&decide ((c.t 0).asI<(a.length:Int))) <|
  a0f (a0a E P0 k N.j1u [.v [.r (at_ a (c.t 0).asI.toNat 1).asR]]) fun y=>
  some ⟨[.r (y.t 0).asR,.b true],[]⟩
 else
  a0f (a0a E P0 k N.j5m [.v [.i d,.i e,.i f,.r g,.i h,.i l,.i m,.i n,.i o,.r a,.i p,.b q,.b u],.v [.i w]]) fun x=>
  some ⟨[.r (x.t 0).asR,.b (x.t 1).asB],[]⟩
theorem f1v (k:Nat) (a c d:Int) (e:LL) (f g h l m:Int) (n:LL) (o:Int) (p q:Bool) (t:Int):a0a E P0 (k+1) N.j5n [.v [.i a,.i c,.i d,.r e,.i f,.i g,.i h,.i l,.i m,.r n,.i o,.b p,.b q],.v [.i t]]=c9n k a c d e f g h l m n o p q t:=by kernel_rfl
def c9o (k:Nat) (a c b:Int):OO:=
 a0f (a0a E P0 k N.j4a [.v [.i a,.i c],.v [.i b]]) fun d=>
 bif (!(d.t 0).asB) then
  some ⟨[.i (-1)],[]⟩
 else
  chk (!decide ((W64 (a - 1))=0)) <|
  some ⟨[.i (Int.tmod b (W64 (a - 1)))],[]⟩
theorem f1w (k:Nat) (a b c:Int):a0a E P0 (k+1) N.j5o [.v [.i a,.i b],.v [.i c]]=c9o k a b c:=by kernel_rfl
def c5y (k:Nat) (g a c:Int) (h:LL) (l m n o p:Int) (q:LL) (u:Int) (w x:Bool) (d:Int):OO:=
 a0f (a0a E P0 k N.j5f [.v [.i g,.i a,.i c,.r h,.i l,.i m,.i n,.i o,.i p,.r q,.i u,.b w,.b x],.v [.i d]]) fun y=>
 bif ((y.t 0).asI != 0) then
  some ⟨[.i 0,.i (y.t 0).asI],[]⟩
 else
  a0f (a0a E P0 k N.j3g [.v [.i a,.i c],.v [.i d]]) fun z=>
  a0f (a0a E P0 k N.j5n [.v [.i g,.i a,.i c,.r h,.i l,.i m,.i n,.i o,.i p,.r q,.i u,.b w,.b x],.v [.i (z.t 0).asI]]) fun e=>
  bif (!(e.t 1).asB) then
   some ⟨[.i 0,.i 5],[]⟩
  else
   a0f (a0a E P0 k N.j5o [.v [.i a,.i c],.v [.i d]]) fun f=>
   chk (decide (0≤(f.t 0).asI)&&decide ((f.t 0).asI<((e.t 0).asR.length:Int))) <|
   some ⟨[.i (at_ (e.t 0).asR (f.t 0).asI.toNat 0).asI,.i 0],[]⟩
theorem e6l (k:Nat) (a c d:Int) (e:LL) (f g h l m:Int) (n:LL) (o:Int) (p q:Bool) (t:Int):a0a E P0 (k+1) N.j3i [.v [.i a,.i c,.i d,.r e,.i f,.i g,.i h,.i l,.i m,.r n,.i o,.b p,.b q],.v [.i t]]=c5y k a c d e f g h l m n o p q t:=by kernel_rfl
def a4p (k:Nat) (a e:Outs) (d:LL) (c:Int) (f:Bool):OO:=
 bif f then
  chk (decide (0≤c)&&decide (c<((a.t 9).asR.length:Int))) <|
  so_ [.i (a.t 0).asI,.i (a.t 1).asI,.i (a.t 2).asI,.r (a.t 3).asR,.i (a.t 4).asI,.i (a.t 5).asI,.i (a.t 6).asI,.i (a.t 7).asI,.i (a.t 8).asI,.r (a0x (a.t 9).asR c.toNat 1 [.r d]),.i (a.t 10).asI,.b (a.t 11).asB,.b (a.t 12).asB,.i 0]
 else
  chk (decide (0≤c)&&decide (c≤((a.t 9).asR.length:Int))) <|
  chk (decide (((a.t 9).asR.length+([[.i (e.t 0).asI,.r d]]:LL).length)*32≤140737488355328)) <|
  so_ [.i (a.t 0).asI,.i (a.t 1).asI,.i (a.t 2).asI,.r (a.t 3).asR,.i (a.t 4).asI,.i (a.t 5).asI,.i (a.t 6).asI,.i (a.t 7).asI,.i (a.t 8).asI,.r ((a.t 9).asR.take c.toNat++([[.i (e.t 0).asI,.r d]]:LL)++(a.t 9).asR.drop c.toNat),.i (a.t 10).asI,.b (a.t 11).asB,.b (a.t 12).asB,.i 0]
def a6f (k:Nat) (b c:Outs) (d:LL) (a:Int) (e:(Int)→OO) (f:Bool):OO:=
 bif f then
  e (W64 (a+1))
 else
  bif (decide (a<((b.t 9).asR.length:Int))) then
   chk (decide (0≤a)&&decide (a<((b.t 9).asR.length:Int))) <|
   a4p k b c d a ((at_ (b.t 9).asR a.toNat 0).asI == (c.t 0).asI)
  else
   a4p k b c d a false
def a3k (k:Nat) (b c:Outs) (d:LL) (e:(Int)→OO):(Int)→OO:=fun a=>
 bif (decide (a<((b.t 9).asR.length:Int))) then
  chk (decide (0≤a)&&decide (a<((b.t 9).asR.length:Int))) <|
  a6f k b c d a e (decide ((at_ (b.t 9).asR a.toNat 0).asI<(c.t 0).asI))
 else
  a6f k b c d a e false
def e0b:List Nat:=[6,7,8,10,11,13,67,68,69,70,71,72,73,74,75,76,77,78,79,80,81,82,83,84,85,86,87,88,89,90,91,92,93,94,95,96,97]
def c3u (a c:Outs) (d:LL):(Int)→St:=fun e=>SD_ [(6,.ptr (6,0) 0),(7,.w_ 0),(8,.ptr (8,0) 0),(10,.w_ (c.t 0).asI),(11,.ref (11,0)),(13,.w_ e),(67,.skip),(68,.skip),(69,.skip),(70,.skip),(71,.skip),(72,.skip),(73,.skip),(74,.skip),(75,.skip),(76,.skip),(77,.skip),(78,.skip),(79,.skip),(80,.skip),(81,.skip),(82,.skip),(83,.skip),(84,.skip),(85,.skip),(86,.skip),(87,.skip),(88,.skip),(89,.skip),(90,.skip),(91,.skip),(92,.skip),(93,.skip),(94,.skip),(95,.skip),(96,.skip),(97,.skip)] [((6,0),.var [.w_ 0,.w_ 0,.w_ 0,.ref (6,4),.w_ 0,.w_ 0,.w_ 0,.w_ 0,.w_ 0,.ref (6,10),.w_ 0,.b false,.b false]),((6,4),.deep 135 [] none),((6,10),.deep 137 [] none),((8,0),.var [.w_ (a.t 0).asI,.w_ (a.t 1).asI,.w_ (a.t 2).asI,.ref (8,4),.w_ (a.t 4).asI,.w_ (a.t 5).asI,.w_ (a.t 6).asI,.w_ (a.t 7).asI,.w_ (a.t 8).asI,.ref (8,10),.w_ (a.t 10).asI,.b (a.t 11).asB,.b (a.t 12).asB]),((8,4),.deep 135 (a.t 3).asR none),((8,10),.deep 137 (a.t 9).asR none),((11,0),.row 3 true d)]
def a9t (k:Nat) (m c d:Int) (n:LL) (o p q u w:Int) (x:LL) (y:Int) (z A:Bool) (g B:Int) (a:Outs) (C:Outs→Outs→LL→(Int)→OO) (h:Int):OO:=
 bif (h != 0) then
  so_ (S8_ a h)
 else
  BK_ k N.j3g [.v [.i c,.i d],vi_ g] fun l=>
  BK_ k N.j5n [.v (S0_ m c d n o p q u w x y z A),vi_ (l.t 0).asI] fun e=>
  bif (!(e.t 1).asB) then
   so_ (S8_ a 5)
  else
   BK_ k N.j5o [.v [.i c,.i d],vi_ g] fun f=>
   chk (decide (0≤(f.t 0).asI)&&decide ((f.t 0).asI<((e.t 0).asR.length:Int))) <|
   C a l (a0x (e.t 0).asR (f.t 0).asI.toNat 0 [.i B]) 0
def a9u (k:Nat) (a b c:Int) (d:LL) (e f g h i:Int) (l:LL) (m:Int) (n o:Bool) (p q:Int) (r w:Outs) (u:Outs→Outs→LL→(Int)→OO) (x:Bool):OO:=
 bif x then
  a9t k a b c d e f g h i l m n o p q r u 3
 else
  a9t k a b c d e f g h i l m n o p q r u ((w.t 0).asI)
def b2m (k:Nat) (a c d:Int) (e:LL) (f g h l m:Int) (n:LL) (o:Int) (p q:Bool) (u w:Int) (y:Outs→Outs→LL→(Int)→OO):OO:=
 BK_ k N.j2i [.v (S0_ a c d e f g h l m n o p q)] fun z=>
 BK_ k N.j5f [.v (S0_ a c d e f g h l m n o p q),vi_ u] fun x=>
 bif ((x.t 0).asI == 0) then
  BK_ k N.j5c [vi_ w] fun A=>
  a9u k a c d e f g h l m n o p q u w z x y (!(A.t 0).asB)
 else
  a9u k a c d e f g h l m n o p q u w z x y false
def c5z (k:Nat) (a b c:Int) (d:LL) (e f g h i:Int) (l:LL) (m:Int) (n o:Bool) (p q:Int):OO:=
 b2m k a b c d e f g h i l m n o p q (fun r t u v=>a1k (a3k k r t u) k v)
def d6d (k:Nat) (a c d:Int) (e:LL) (f g h l m:Int) (n:LL) (o:Int) (p q:Bool) (t u:Int) (js:List Nat) (j:Nat) (s:St):OO:=IT_ k N.j1x [.v (S0_ a c d e f g h l m n o p q),vi_ t,vi_ u] [] [.sr,.sr,.sr,.sr,.sr,.sr,.sr,.sr,.sr,.sr,.sl,.bl] e0b js j s
theorem e6m (k:Nat) (a c d:Int) (e:LL) (f g h l m:Int) (n:LL) (o:Int) (p q:Bool) (t u:Int):a0a E P0 (k+1) N.j1x [.v (S0_ a c d e f g h l m n o p q),vi_ t,vi_ u]=c5z k a c d e f g h l m n o p q t u:=
 Eq.trans (b:=b2m k a c d e f g h l m n o p q t u (fun w x y v=>d6d k a c d e f g h l m n o p q t u [] k (c3u w x y v))) (by kernel_rfl) (congrArg (b2m k a c d e f g h l m n o p q t u) (funext fun w=>funext fun x=>funext fun y=>funext fun v=>a1v (c3u w x y) (a3k k w x y) (fun j v=>by kernel_rfl) k v))
def d4d (k:Nat) (c d e:Int) (f:LL) (g h l m n:Int) (o:LL) (a:Int) (q p:Bool):OO:=
 bif (a == 0) then
  some ⟨[.b false],[[.i c,.i d,.i e,.r f,.i g,.i h,.i l,.i m,.i n,.r o,.i (-1),.b true,.b p]]⟩
 else
  bif (decide (a > 0)) then
   some ⟨[.b true],[(S0_ c d e f g h l m n o (W64 (a - 1)) q p)]⟩
  else
   some ⟨[.b true],[(S0_ c d e f g h l m n o a q p)]⟩
theorem f9h (k:Nat) (a c d:Int) (e:LL) (f g h l m:Int) (n:LL) (o:Int) (q t:Bool):a0a E P0 (k+1) N.j5p [.p (S0_ a c d e f g h l m n o q t)]=d4d k a c d e f g h l m n o q t:=by kernel_rfl
def a6g (k:Nat) (c:LL) (e:Outs) (f:(V0_)→OO):(V0_)→OO:=fun (a,d)=>
 bif (decide (a<(c.length:Int))) then
  chk (decide (0≤a)&&decide (a<(c.length:Int))) <|
  a0f (a0a E P0 k N.j1u [.v [.r (at_ c a.toNat 1).asR]]) fun g=>
  chk (decide (0≤(at_ c a.toNat 0).asI)&&decide ((at_ c a.toNat 0).asI<(d.length:Int))) <|
  f ((W64 (a+1)),(a0x d (at_ c a.toNat 0).asI.toNat 0 [.r (g.t 0).asR]))
 else
  some ⟨[.r d,.r [],.b (e.t 2).asB,.r (e.t 3).asR],[]⟩
def e0c:List Nat:=[2,3,17,18,19,32,33]
def c3v (c:LL) (a:Outs):(V0_)→St:=fun (d,e)=>⟨a3q [(2,.ptr (2,0) 0),(3,.ptr (3,0) 0),(17,.sl 161 c),(18,.i .i64 (c.length:Int)),(19,.i .i64 d),(32,.skip),(33,.skip)],Mem.put (a1f [((2,0),.var [.ref (2,1),.ref (2,2),.b false,.ref (2,4)]),((2,1),.deep 78 [] none),((2,2),.deep 161 [] none),((2,4),.row 3 true []),((3,0),.var [.ref (3,1),.ref (3,2),.b (a.t 2).asB,.ref (3,4)]),((3,1),.deep 78 e none),((3,2),.deep 161 (a.t 1).asR none),((3,4),.row 3 true (a.t 3).asR)]) a3i .dead⟩
def c3w (k:Nat) (a:Outs) (c:Outs→(V0_)→OO) (d:Bool):OO:=
 bif d then
  some ⟨[.r (a.t 0).asR,.r (a.t 1).asR,.b (a.t 2).asB,.r (a.t 3).asR],[]⟩
 else
  c a (0,(a.t 0).asR)
def b2n (k:Nat) (c d:LL) (a:Bool) (e:LL) (f:Outs→(V0_)→OO):OO:=
 a0f (a0a E P0 k N.j2p [.v [.r c,.r d,.b a,.r e]]) fun g=>
 a0f (a0a E P0 k N.j2d [.v [.r c,.r d,.b a,.r e]]) fun h=>
 bif (!(h.t 0).asB) then c3w k g f true else c3w k g f a
def c6a (k:Nat) (b a:LL) (c:Bool) (d:LL):OO:=
 b2n k b a c d (fun e v=>a1k (a6g k a e) k v)
def d6e (k:Nat) (a c:LL) (d:Bool) (e:LL) (js:List Nat) (j:Nat) (s:St):OO:=IT_ k N.j4c [.v [.r a,.r c,.b d,.r e]] [] [.sr,.sr,.sr,.sl,.sr,.bl] e0c js j s
theorem e6n (k:Nat) (c a:LL) (d:Bool) (e:LL):a0a E P0 (k+1) N.j4c [.v [.r c,.r a,.b d,.r e]]=c6a k c a d e:=
 Eq.trans (b:=b2n k c a d e (fun f v=>d6e k c a d e [] k (c3v a f v))) (by kernel_rfl) (congrArg (b2n k c a d e) (funext fun f=>funext fun v=>a1v (c3v a f) (a6g k a f) (fun j v=>by kernel_rfl) k v))
def a9v (k:Nat) (A:LL) (z:(V3_)→OO):(V3_)→OO:=fun (c,f,g,h,l,m,n,o,q,u,w,x,d,y)=>
 bif (decide (c<(A.length:Int))) then
  ck_ c d <|
  bif (at_ d c.toNat 2).asB then
   z ((W64 (c+1)),f,g,h,l,m,n,o,q,u,w,x,d,y)
  else
   BK_ k N.j5p [.p (S0_ f g h d l m n o q y u w x)] fun a=>
   bif (!(a.t 0).asB) then
    some ⟨[.b false],[(S1_ a)]⟩
   else
    chk (decide (0≤c)&&decide (c<((a.vt 0 3).asR.length:Int))) <|
    BK_ k N.j4c [.v (S5_ (at_ (a.vt 0 3).asR c.toNat 0).asR (at_ (a.vt 0 3).asR c.toNat 1).asR (at_ (a.vt 0 3).asR c.toNat 2).asB (at_ (a.vt 0 3).asR c.toNat 3).asR)] fun e=>
    chk (decide (0≤c)&&decide (c<((a.vt 0 3).asR.length:Int))) <|
    chk (Nat.beq c.toNat c.toNat) <|
    z ((W64 (c+1)),(a.vt 0 0).asI,(a.vt 0 1).asI,(a.vt 0 2).asI,(a.vt 0 4).asI,(a.vt 0 5).asI,(a.vt 0 6).asI,(a.vt 0 7).asI,(a.vt 0 8).asI,(a.vt 0 10).asI,(a.vt 0 11).asB,(a.vt 0 12).asB,(a0x (a.vt 0 3).asR c.toNat 0 (i7y e)),(a.vt 0 9).asR)
 else
  some ⟨[.b true],[(S0_ f g h d l m n o q y u w x)]⟩
def e0d:List Nat:=[0,2,8,9]
def e0e (a:LL):(V3_)→St:=fun (c,d,e,f,g,h,l,m,n,o,p,q,r,t)=>SD_ [(0,.ptr (0,0) 0),(2,.b false),(8,.w_ (a.length:Int)),(9,.w_ c)] [((0,0),.var [.w_ d,.w_ e,.w_ f,.ref (0,4),.w_ g,.w_ h,.w_ l,.w_ m,.w_ n,.ref (0,10),.w_ o,.b p,.b q]),((0,4),.deep 135 r none),((0,10),.deep 137 t none)]
def b7w (k:Nat) (a b c:Int) (d:LL) (e f g h i:Int) (l:LL) (m:Int) (n o:Bool) (p:(V3_)→OO):OO:=
 p (0,a,b,c,e,f,g,h,i,m,n,o,d,l)
def c6b (k:Nat) (b c d:Int) (a:LL) (e f g h i:Int) (l:LL) (m:Int) (n o:Bool):OO:=
 b7w k b c d a e f g h i l m n o (fun v=>a1k (a9v k a) k v)
theorem e6o (k:Nat) (c d e:Int) (a:LL) (f g h l m:Int) (n:LL) (o:Int) (q t:Bool):a0a E P0 (k+1) N.j4d [.p (S0_ c d e a f g h l m n o q t)]=c6b k c d e a f g h l m n o q t:=a2c [0] [.sr,.sl,.sr,.bl] e0d (b7w k c d e a f g h l m n o q t) (e0e a) (a9v k a) (by kernel_rfl) (fun j v=>by kernel_rfl)
def f1x (k:Nat) (a b c:Int) (l:LL) (d e m f g:Int) (n:LL) (o:Int) (p q:Bool) (h:Int):OO:=
 so_ (i2q a g h b c f d e)
theorem f1y (k:Nat) (a c d:Int) (e:LL) (f g h l m:Int) (n:LL) (o:Int) (p q:Bool) (t:Int):a0a E P0 (k+1) N.j8o [.v (S0_ a c d e f g h l m n o p q),vi_ t]=f1x k a c d e f g h l m n o p q t:=by kernel_rfl
def b2o (k:Nat) (d a c e f:Int) (g:Bool):OO:=
 bif g then
  BK_ k N.j2v [.v [.i a,.i c]] fun h=>
  bif (h.t 0).asB then
   BK_ k N.j1t [vi_ d,vi_ 0,vi_ (W64 (a - 1))] fun l=>
   bif (l.t 0).asB then
    BK_ k N.j5d [.v [.i a,.i c],vi_ e,vi_ f] fun m=>
    so_ [.b (m.t 0).asB]
   else
    so_ [.b false]
  else
   so_ [.b false]
 else
  so_ [.b false]
def c9p (k:Nat) (f g a b c h d e:Int):OO:=
 BK_ k N.j1t [vi_ f,vi_ 1,vi_ 60000] fun l=>
 bif (l.t 0).asB then
  BK_ k N.j1t [vi_ g,vi_ 0,vi_ 60000] fun m=>
  bif (m.t 0).asB then
   BK_ k N.j1t [vi_ h,vi_ 0,vi_ 60000] fun n=>
   b2o k a b c d e ((n.t 0).asB)
  else
   b2o k a b c d e false
 else
  b2o k a b c d e false
theorem f1z (k:Nat) (a b c d e f g h:Int):a0a E P0 (k+1) N.j8p [.v (i2q a b c d e f g h)]=c9p k a b c d e f g h:=by kernel_rfl
def c6c (k:Nat) (a b c d e f g h:Int):OO:=
 BK_ k N.j8p [.v (i2q a b c d e f g h)] fun l=>
 bif (!(l.t 0).asB) then
  so_ [.r []]
 else
  so_ [.r [[.i 21317],[.i a],[.i b],[.i c],[.i d],[.i e],[.i f],[.i (W64 (g+1))],[.i h]]]
theorem e6p (k:Nat) (a b c d e f g h:Int):a0a E P0 (k+1) N.j8q [.v (i2q a b c d e f g h)]=c6c k a b c d e f g h:=by kernel_rfl
def b3k (k:Nat) (c a:Int):OO:=
 some ⟨[.b (c == a)],[[.i a]]⟩
theorem c1h (k:Nat) (a b:Int):a0a E P0 (k+1) N.j2b [.v [.i a],.p [.i b]]=b3k k a b:=by kernel_rfl
def a2y (k:Nat) (b:LL) (e:(V1_)→OO):(V1_)→OO:=fun (a,d)=>
 bif (decide (a<(b.length:Int))) then
  chk (decide (0≤a)&&decide (a<(b.length:Int))) <|
  a0f (a0a E P0 k N.j2b [.v [.i (at_ b a.toNat 0).asI],.p [.i d]]) fun c=>
  bif (c.t 0).asB then
   some ⟨[.i a],[[.i (c.vt 0 0).asI]]⟩
  else
   e ((W64 (a+1)),(c.vt 0 0).asI)
 else
  some ⟨[.i (-1)],[[.i d]]⟩
def b7x:List Nat:=[0,1,4,7,8]
def b7y (a:LL):(V1_)→St:=fun (b,c)=>⟨a3q [(0,.sl 3 a),(1,.clo N.j2b (some (1,0))),(4,.i .i64 0),(7,.i .i64 (a.length:Int)),(8,.i .i64 b)],a1f [((1,0),.var [.i .i64 c])]⟩
def a4n (k:Nat) (c:LL) (a:Int) (b:(V1_)→OO):OO:=
 b (0,a)
def a8k (k:Nat) (a:LL) (b:Int):OO:=
 a4n k a b (fun v=>a1k (a2y k a) k v)
theorem b8u (k:Nat) (a:LL) (d:Int):a0a E P0 (k+1) N.j8r [.v [.r a],.c N.j2b (some [.i d])]=a8k k a d:=a2c [1] [.sr,.sl,.sr,.bl] b7x (a4n k a d) (b7y a) (a2y k a) (by kernel_rfl) (fun j v=>by kernel_rfl)
def a1i (k:Nat) (e:(V7_)→OO):(V7_)→OO:=fun (a,c,b,f)=>
 bif (decide (c<(b.length:Int))) then
  chk (decide (0≤c)&&decide (c<(b.length:Int))) <|
  a0f (a0a E P0 k N.j2b [.v [.i (at_ b c.toNat 0).asI],.p [.i f]]) fun d=>
  bif (!(d.t 0).asB) then
   chk (decide (0≤a)&&decide (a<(b.length:Int))) <|
   e ((W64 (a+1)),(W64 (c+1)),(a0x b a.toNat 0 [.i (at_ b c.toNat 0).asI]),(d.vt 0 0).asI)
  else
   e (a,(W64 (c+1)),b,(d.vt 0 0).asI)
 else
  chk (decide (0≤a)&&decide (a≤(b.length:Int))&&decide ((b.length:Int)≤(b.length:Int))) <|
  chk (decide (0≤0)&&decide (0≤a)&&decide (a≤((a3r b a.toNat (List.replicate ((b.length:Int).toNat - a.toNat) [.i 0])).length:Int))) <|
  chk (decide (0<(a3r b a.toNat (List.replicate ((b.length:Int).toNat - a.toNat) [.i 0])).length)) <|
  some ⟨[.r ((a3r b a.toNat (List.replicate ((b.length:Int).toNat - a.toNat) [.i 0])).take (a.toNat - (0:Int).toNat))],[[.i f]]⟩
def b7f:List Nat:=[0,1,4,5,6,36,37,38,39,40,41]
def b7g:(V7_)→St:=fun (a,b,c,d)=>ST_ [(0,.ref (0,0)),(1,.clo N.j2b (some (1,0))),(4,.ref (4,0)),(5,.w_ a),(6,.w_ b),(36,.skip),(37,.skip),(38,.skip),(39,.skip),(40,.skip),(41,.skip)] [((0,0),.row 3 true c),((1,0),.var [.w_ d]),((4,0),.row 3 true [])]
def a4i (k:Nat) (b:LL) (d:Int) (e:(V7_)→OO):OO:=
 a0f (a0a E P0 k N.j8r [.v [.r b],.c N.j2b (some [.i d])]) fun a=>
 bif ((a.t 0).asI == (-1)) then
  some ⟨[.r b],[[.i (a.vt 0 0).asI]]⟩
 else
  e ((a.t 0).asI,(W64 ((a.t 0).asI+1)),b,(a.vt 0 0).asI)
def a7s (k:Nat) (a:LL) (b:Int):OO:=
 a4i k a b (fun v=>a1k (a1i k) k v)
theorem b7z (k:Nat) (a:LL) (d:Int):a0a E P0 (k+1) N.j8s [.v [.r a],.c N.j2b (some [.i d])]=a7s k a d:=a2c [1] [.sr,.sr,.sr,.sl,.sr,.bl] b7f (a4i k a d) (b7g) (a1i k) (by kernel_rfl) (fun j v=>by kernel_rfl)
def a4q (k:Nat) (d:Int) (f:LL) (a:Outs) (g:Bool):OO:=
 bif g then
  so_ (j0v a)
 else
  BK_ k N.j1u [vr_ f] fun e=>
  chk (decide (((a.t 1).asR.length+([[.i d,.r (e.t 0).asR]]:LL).length)*32≤140737488355328)) <|
  BK_ k N.j8s [vr_ (a.t 3).asR,.c N.j2b (some [.i d])] fun h=>
  so_ [.r (a.t 0).asR,.r ((a.t 1).asR++([[.i d,.r (e.t 0).asR]]:LL)),.b (a.t 2).asB,.r (h.t 0).asR,.b true]
def c6d (k:Nat) (g e:LL) (f:Bool) (h:LL) (a:Int) (c:LL):OO:=
 BK_ k N.j2p [.v (S5_ g e f h)] fun d=>
 BK_ k N.j2d [.v (S5_ g e f h)] fun l=>
 bif (!(l.t 0).asB) then
  a4q k a c d true
 else
  bif f then
   a4q k a c d true
  else
   BK_ k N.j3e [.v (S5_ g e f h),vi_ a] fun m=>
   bif (!(m.t 0).asB) then
    a4q k a c d true
   else
    BK_ k N.j3y [vr_ c] fun n=>
    bif (!(n.t 0).asB) then
     a4q k a c d true
    else
     a4q k a c d ((e.length:Int) == 60)
theorem e6q (k:Nat) (a c:LL) (d:Bool) (e:LL) (f:Int) (g:LL):a0a E P0 (k+1) N.j5q [.v (S5_ a c d e),vi_ f,vr_ g]=c6d k a c d e f g:=by kernel_rfl
def c3x (k:Nat) (f g h:Int) (d:LL) (l m n o q:Int) (u:LL) (w:Int) (x y:Bool) (c z:Int) (A:LL):OO:=
 ck_ c d <|
 bif (at_ d c.toNat 2).asB then
  some ⟨[.b true],[(S0_ f g h d l m n o q u w x y)]⟩
 else
  BK_ k N.j5p [.p (S0_ f g h d l m n o q u w x y)] fun a=>
  bif (!(a.t 0).asB) then
   some ⟨[.b false],[(S1_ a)]⟩
  else
   chk (decide (0≤c)&&decide (c<((a.vt 0 3).asR.length:Int))) <|
   BK_ k N.j5q [.v (S5_ (at_ (a.vt 0 3).asR c.toNat 0).asR (at_ (a.vt 0 3).asR c.toNat 1).asR (at_ (a.vt 0 3).asR c.toNat 2).asB (at_ (a.vt 0 3).asR c.toNat 3).asR),vi_ z,vr_ A] fun e=>
   chk (decide (0≤c)&&decide (c<((a.vt 0 3).asR.length:Int))) <|
   chk (Nat.beq c.toNat c.toNat) <|
   some ⟨[.b true],[[.i (a.vt 0 0).asI,.i (a.vt 0 1).asI,.i (a.vt 0 2).asI,.r (a0x (a.vt 0 3).asR c.toNat 0 (i7y e)),.i (a.vt 0 4).asI,.i (a.vt 0 5).asI,.i (a.vt 0 6).asI,.i (a.vt 0 7).asI,.i (a.vt 0 8).asI,.r (a.vt 0 9).asR,.i (a.vt 0 10).asI,.b (a.vt 0 11).asB,.b (a.vt 0 12).asB]]⟩
theorem e0f (k:Nat) (a c d:Int) (e:LL) (f g h l m:Int) (n:LL) (o:Int) (q t:Bool) (u w:Int) (x:LL):a0a E P0 (k+1) N.j3j [.p (S0_ a c d e f g h l m n o q t),vi_ u,vi_ w,vr_ x]=c3x k a c d e f g h l m n o q t u w x:=by kernel_rfl
def a9w (k:Nat) (A:LL) (B:(V3_)→OO):(V3_)→OO:=fun (e,g,h,l,m,n,o,q,f,u,w,x,y,z)=>
 bif (decide (e<(A.length:Int))) then
  BK_ k N.j8o [.v (S0_ g h l y m n o q f z u w x),vi_ e] fun d=>
  BK_ k N.j8q [.v [.i (d.t 0).asI,.i (d.t 1).asI,.i (d.t 2).asI,.i (d.t 3).asI,.i (d.t 4).asI,.i (d.t 5).asI,.i (d.t 6).asI,.i (d.t 7).asI]] fun C=>
  BK_ k N.j3j [.p (S0_ g h l y m n o q f z u w x),vi_ e,vi_ (Int.tmod f 2),vr_ (C.t 0).asR] fun a=>
  bif (!(a.t 0).asB) then
   some ⟨[.b false],[(S1_ a)]⟩
  else
   B ((W64 (e+1)),(a.vt 0 0).asI,(a.vt 0 1).asI,(a.vt 0 2).asI,(a.vt 0 4).asI,(a.vt 0 5).asI,(a.vt 0 6).asI,(a.vt 0 7).asI,(a.vt 0 8).asI,(a.vt 0 10).asI,(a.vt 0 11).asB,(a.vt 0 12).asB,(a.vt 0 3).asR,(a.vt 0 9).asR)
 else
  BK_ k N.j4d [.p (S0_ g h l y m n o q f z u w x)] fun c=>
  some ⟨[.b (c.t 0).asB],[(S1_ c)]⟩
def e0g:List Nat:=[0,2,15,16,35,36]
def e0h (a:LL):(V3_)→St:=fun (c,d,e,f,g,h,l,m,n,o,p,q,r,t)=>SD_ [(0,.ptr (0,0) 0),(2,.b false),(15,.w_ (a.length:Int)),(16,.w_ c),(35,.skip),(36,.skip)] [((0,0),.var [.w_ d,.w_ e,.w_ f,.ref (0,4),.w_ g,.w_ h,.w_ l,.w_ m,.w_ n,.ref (0,10),.w_ o,.b p,.b q]),((0,4),.deep 135 r none),((0,10),.deep 137 t none)]
def b8a (k:Nat) (a b c:Int) (d:LL) (e f g h i:Int) (l:LL) (m:Int) (n o:Bool) (p:(V3_)→OO):OO:=
 p (0,a,b,c,e,f,g,h,(W64 (i+1)),m,n,o,d,l)
def c6e (k:Nat) (b c d:Int) (a:LL) (e f g h i:Int) (l:LL) (m:Int) (n o:Bool):OO:=
 b8a k b c d a e f g h i l m n o (fun v=>a1k (a9w k a) k v)
theorem e6r (k:Nat) (c d e:Int) (a:LL) (f g h l m:Int) (n:LL) (o:Int) (q t:Bool):a0a E P0 (k+1) N.j8t [.p (S0_ c d e a f g h l m n o q t)]=c6e k c d e a f g h l m n o q t:=a2c [0] [.sr,.sr,.sl,.sr,.bl] e0g (b8a k c d e a f g h l m n o q t) (e0h a) (a9w k a) (by kernel_rfl) (fun j v=>by kernel_rfl)
def c3y (k:Nat) (d e f:Int) (g:LL) (h l m n o:Int) (q:LL) (u:Int) (w x:Bool):OO:=
 BK_ k N.j4d [.p (S0_ d e f g h l m n o q u w x)] fun a=>
 bif (!(a.t 0).asB) then
  some ⟨[.b false],[(S1_ a)]⟩
 else
  BK_ k N.j8t [.p (j0w a)] fun c=>
  some ⟨[.b (c.t 0).asB],[(S1_ c)]⟩
theorem e0i (k:Nat) (a c d:Int) (e:LL) (f g h l m:Int) (n:LL) (o:Int) (q t:Bool):a0a E P0 (k+1) N.j8u [.p (S0_ a c d e f g h l m n o q t)]=c3y k a c d e f g h l m n o q t:=by kernel_rfl
def d4e (k:Nat) (a:Int):OO:=
 bif (decide (a<0)) then so_ [.i (-1)] else so_ [.i (W64 (2+(Int.tmod a 4)))]
theorem f9i (k:Nat) (a:Int):a0a E P0 (k+1) N.j8v [vi_ a]=d4e k a:=by kernel_rfl
def d9d (k:Nat) (c d:Int) (a:LL):OO:=
 BK_ k N.j1t [vi_ c,vi_ 0,vi_ 60000] fun e=>
 bif (e.t 0).asB then
  BK_ k N.j1t [vi_ d,vi_ 0,vi_ 7] fun f=>
  bif (f.t 0).asB then
   BK_ k N.j1t [vi_ (a.length:Int),vi_ 2,vi_ 4] fun g=>
   bif (g.t 0).asB then
    BK_ k N.j2q [vr_ a] fun h=>
    so_ [.b (h.t 0).asB]
   else
    so_ [.b false]
  else
   so_ [.b false]
 else
  so_ [.b false]
theorem g3t (k:Nat) (a b:Int) (c:LL):a0a E P0 (k+1) N.j8w [.v (S4_ a b c)]=d9d k a b c:=by kernel_rfl
def d4f (k:Nat) (b c:Int) (a:LL):OO:=
 BK_ k N.j8w [.v (S4_ b c a)] fun d=>
 bif (!(d.t 0).asB) then
  so_ [.r []]
 else
  chk (decide ((([[.i 21322],[.i b],[.i c],[.i (a.length:Int)]]:LL).length+a.length)*8≤140737488355328)) <|
  so_ [.r (([[.i 21322],[.i b],[.i c],[.i (a.length:Int)]]:LL)++a)]
theorem f9j (k:Nat) (a b:Int) (c:LL):a0a E P0 (k+1) N.j8x [.v (S4_ a b c)]=d4f k a b c:=by kernel_rfl
def a6u (k:Nat) (A:LL) (e B:Int) (C:LL) (D:(V3_)→OO):(V3_)→OO:=fun (d,f,g,h,l,m,n,o,q,u,w,x,y,z)=>
 bif (decide (d<(A.length:Int))) then
  BK_ k N.j8v [vi_ e] fun F=>
  BK_ k N.j8x [.v (S4_ e B C)] fun G=>
  BK_ k N.j3j [.p (S0_ f g h y l m n o q z u w x),vi_ d,vi_ (F.t 0).asI,vr_ (G.t 0).asR] fun a=>
  bif (!(a.t 0).asB) then
   some ⟨[.b false],[(S1_ a)]⟩
  else
   D ((W64 (d+1)),(a.vt 0 0).asI,(a.vt 0 1).asI,(a.vt 0 2).asI,(a.vt 0 4).asI,(a.vt 0 5).asI,(a.vt 0 6).asI,(a.vt 0 7).asI,(a.vt 0 8).asI,(a.vt 0 10).asI,(a.vt 0 11).asB,(a.vt 0 12).asB,(a.vt 0 3).asR,(a.vt 0 9).asR)
 else
  BK_ k N.j4d [.p (S0_ f g h y l m n o q z u w x)] fun c=>
  some ⟨[.b (c.t 0).asB],[(S1_ c)]⟩
def d4g:List Nat:=[0,3,4,10,11,24,25]
def d4h (a:LL) (c d:Int) (e:LL):(V3_)→St:=fun (f,g,h,l,m,n,o,p,q,r,t,u,w,x)=>SD_ [(0,.ptr (0,0) 0),(3,.ptr (3,0) 0),(4,.b false),(10,.w_ (a.length:Int)),(11,.w_ f),(24,.skip),(25,.skip)] [((0,0),.var [.w_ g,.w_ h,.w_ l,.ref (0,4),.w_ m,.w_ n,.w_ o,.w_ p,.w_ q,.ref (0,10),.w_ r,.b t,.b u]),((0,4),.deep 135 w none),((0,10),.deep 137 x none),((3,0),.var [.w_ c,.w_ d,.sl 3 e])]
def b3l (k:Nat) (a b c:Int) (d:LL) (e f g h i:Int) (l:LL) (m:Int) (n o:Bool) (q r:Int) (t:LL) (p:(V3_)→OO):OO:=
 p (0,a,b,c,e,f,g,h,i,m,n,o,d,l)
def c1i (k:Nat) (e f g:Int) (a:LL) (h i l m n:Int) (o:LL) (p:Int) (q r:Bool) (b c:Int) (d:LL):OO:=
 b3l k e f g a h i l m n o p q r b c d (fun v=>a1k (a6u k a b c d) k v)
theorem d6f (k:Nat) (f g h:Int) (a:LL) (l m n o q:Int) (t:LL) (u:Int) (w x:Bool) (c d:Int) (e:LL):a0a E P0 (k+1) N.j5r [.p (S0_ f g h a l m n o q t u w x),.v (S4_ c d e)]=c1i k f g h a l m n o q t u w x c d e:=a2c [0] [.sr,.sl,.sr,.bl] d4g (b3l k f g h a l m n o q t u w x c d e) (d4h a c d e) (a6u k a c d e) (by kernel_rfl) (fun j v=>by kernel_rfl)
def c1j (k:Nat) (a:LL):OO:=
 BK_ k N.j5j [vr_ a] fun b=>
 so_ [.i (b.t 0).asI]
theorem d6g (k:Nat) (a:LL):a0a E P0 (k+1) N.j8y [vr_ a]=c1j k a:=by kernel_rfl
def a3f (k:Nat) (z:Int) (y:LL) (A:(V3_)→OO):(V3_)→OO:=fun (c,d,e,f,g,h,l,m,n,o,q,u,w,x)=>
 bif (decide (c<(y.length:Int))) then
  ck_ c y <|
  BK_ k N.j5i [.v (S0_ d e f w g h l m n x o q u),vi_ c,vi_ z] fun B=>
  bif (B.t 0).asB then
   BK_ k N.j5h [vi_ z] fun C=>
   BK_ k N.j3j [.p (S0_ d e f w g h l m n x o q u),vi_ c,vi_ (C.t 0).asI,vr_ [[.i (at_ y c.toNat 0).asI]]] fun a=>
   bif (!(a.t 0).asB) then
    some ⟨[.b false],[(S1_ a)]⟩
   else
    A ((W64 (c+1)),(a.vt 0 0).asI,(a.vt 0 1).asI,(a.vt 0 2).asI,(a.vt 0 4).asI,(a.vt 0 5).asI,(a.vt 0 6).asI,(a.vt 0 7).asI,(a.vt 0 8).asI,(a.vt 0 10).asI,(a.vt 0 11).asB,(a.vt 0 12).asB,(a.vt 0 3).asR,(a.vt 0 9).asR)
  else
   A ((W64 (c+1)),d,e,f,g,h,l,m,n,o,q,u,w,x)
 else
  some ⟨[.b true],[(S0_ d e f w g h l m n x o q u)]⟩
def d6h:List Nat:=[0,1,6,46,47,48]
def a5o (c:Int) (a:LL):(V3_)→St:=fun (d,e,f,g,h,l,m,n,o,p,q,r,t,u)=>SD_ [(0,.ptr (0,0) 0),(1,.w_ c),(6,.b false),(46,.ref (46,0)),(47,.w_ (a.length:Int)),(48,.w_ d)] [((0,0),.var [.w_ e,.w_ f,.w_ g,.ref (0,4),.w_ h,.w_ l,.w_ m,.w_ n,.w_ o,.ref (0,10),.w_ p,.b q,.b r]),((0,4),.deep 135 t none),((0,10),.deep 137 u none),((46,0),.row 3 true a)]
def a8f (k:Nat) (g e f:Int) (h:LL) (l m n o p:Int) (q:LL) (r:Int) (u w:Bool) (x:Int) (b:LL) (y:LL→(V3_)→OO) (z:(V0_)→OO):(V0_)→OO:=fun (a,c)=>
 bif (decide (a<(b.length:Int))) then
  ck_ a b <|
  BK_ k N.j5l [.v [.i e,.i f],vi_ x,vi_ a] fun d=>
  chk (decide (0≤(d.t 0).asI)&&decide ((d.t 0).asI<(c.length:Int))) <|
  z ((W64 (a+1)),(a0x c (d.t 0).asI.toNat 0 [.i (at_ b a.toNat 0).asI]))
 else
  y c (0,g,e,f,l,m,n,o,p,r,u,w,h,q)
def d6i:List Nat:=[0,1,6,7,10,11,28,29,30,46,47,48,49,50,51,52,53,54,55,56,57,58,59,60,61,62,63,64,65,66,67,68,69]
def a5p (c d e:Int) (f:LL) (g h l m n:Int) (o:LL) (p:Int) (q r:Bool) (t:Int) (a:LL):(V0_)→St:=fun (u,w)=>SD_ [(0,.ptr (0,0) 0),(1,.w_ t),(6,.b false),(7,.ref (7,0)),(10,.skip),(11,.skip),(28,.sl 3 a),(29,.w_ (a.length:Int)),(30,.w_ u),(46,.skip),(47,.skip),(48,.skip),(49,.skip),(50,.skip),(51,.skip),(52,.skip),(53,.skip),(54,.skip),(55,.skip),(56,.skip),(57,.skip),(58,.skip),(59,.skip),(60,.skip),(61,.skip),(62,.skip),(63,.skip),(64,.skip),(65,.skip),(66,.skip),(67,.skip),(68,.skip),(69,.skip)] [((0,0),.var [.w_ c,.w_ d,.w_ e,.ref (0,4),.w_ g,.w_ h,.w_ l,.w_ m,.w_ n,.ref (0,10),.w_ p,.b q,.b r]),((0,4),.deep 135 f none),((0,10),.deep 137 o none),((7,0),.row 3 true w)]
def a4c (k:Nat) (b c d:Int) (e:LL) (f g h i l:Int) (m:LL) (n:Int) (o p:Bool) (a:Int) (q:LL) (r:(V0_)→OO):(V0_)→OO:=
 a8f k b c d e f g h i l m n o p a q (fun t v=>a1k (a3f k a t) k v) r
def b5p (k:Nat) (h a c:Int) (l:LL) (m n o p q:Int) (u:LL) (w:Int) (x y:Bool) (d:Int) (e:LL) (f:(V0_)→OO):OO:=
 chk (decide (a=a)&&decide (0≤a)&&decide (a*((8:Nat):Int)≤140737488355328)) <|
 BK_ k N.j5k [.v [.i a,.i c],vi_ d] fun b=>
 BK_ k N.j8y [vr_ e] fun g=>
 chk (decide (0≤(b.t 0).asI)&&decide ((b.t 0).asI<((List.replicate (a:Int).toNat ([.i 0]:List T)).length:Int))) <|
 f (0,(a0x (List.replicate (a:Int).toNat ([.i 0]:List T)) (b.t 0).asI.toNat 0 [.i (g.t 0).asI]))
def b5q (k:Nat) (a b c:Int) (d:LL) (e f g h i:Int) (l:LL) (m:Int) (n o:Bool) (p:Int) (q:LL):OO:=
 b5p k a b c d e f g h i l m n o p q (fun v=>a1k (a4c k a b c d e f g h i l m n o p q) k v)
def a6v (k:Nat) (a c d:Int) (e:LL) (f g h l m:Int) (n:LL) (o:Int) (q t:Bool) (u:Int) (w:LL) (js:List Nat) (j:Nat) (s:St):OO:=IT_ k N.j2k [.p (S0_ a c d e f g h l m n o q t),vi_ u,vr_ w] [0] [.sr,.sr,.sr,.sl,.sr,.bl] d6i js j s
def a6w (k:Nat) (a c d:Int) (e:LL) (f g h l m:Int) (n:LL) (o:Int) (q t:Bool) (u:Int) (w:LL) (js:List Nat) (j:Nat) (s:St):OO:=IT_ k N.j2k [.p (S0_ a c d e f g h l m n o q t),vi_ u,vr_ w] [0] [.sr,.sr,.sr,.sr,.sl,.sr,.bl] d6h js j s
theorem e0j (k:Nat) (c d e:Int) (f:LL) (g h l m n:Int) (o:LL) (q:Int) (t u:Bool) (a:Int) (w:LL):a0a E P0 (k+1) N.j2k [.p (S0_ c d e f g h l m n o q t u),vi_ a,vr_ w]=b5q k c d e f g h l m n o q t u a w:=by
 have A:a0a E P0 (k+1) N.j2k [.p (S0_ c d e f g h l m n o q t u),vi_ a,vr_ w]=b5p k c d e f g h l m n o q t u a w (fun v=>a6v k c d e f g h l m n o q t u a w [] k (a5p c d e f g h l m n o q t u a w v)):=by kernel_rfl
 have B:∀ (x:LL) (y:Nat) (v:V3_),a6w k c d e f g h l m n o q t u a w [] (y+1) (a5o a x v)=a3f k a x (fun v=>a6w k c d e f g h l m n o q t u a w [] y (a5o a x v)) v:=by
  intro x y v;kernel_rfl
 have C:∀ (x:LL) (y:Nat) (v:V3_),a6w k c d e f g h l m n o q t u a w [] y (a5o a x v)=a1k (a3f k a x) y v:=by
  intro x y v;refine a1v (a5o a x) (a3f k a x) (fun y v=>(B x y v).trans ?_) y v;unfold a3f;rfl
 have D:∀ (z:Nat) (v:V0_),a6v k c d e f g h l m n o q t u a w [] (z+1) (a5p c d e f g h l m n o q t u a w v)=a8f k c d e f g h l m n o q t u a w (fun F v=>a6w k c d e f g h l m n o q t u a w [] k (a5o a F v)) (fun v=>a6v k c d e f g h l m n o q t u a w [] z (a5p c d e f g h l m n o q t u a w v)) v:=by
  intro z v;kernel_rfl
 have G:∀ (z:Nat) (v:V0_),a6v k c d e f g h l m n o q t u a w [] z (a5p c d e f g h l m n o q t u a w v)=a1k (a4c k c d e f g h l m n o q t u a w) z v:=by
  intro z v;refine a1v (a5p c d e f g h l m n o q t u a w) (a4c k c d e f g h l m n o q t u a w) (fun z v=>(D z v).trans ?_) z v;unfold a4c;simp only [C] <;> rfl
 rw [A];unfold b5q;simp only [G]
def c1k (k:Nat) (n o q:Int) (u:LL) (w x g m y:Int) (z:LL) (A:Int) (B C:Bool) (h:Int) (l:LL):OO:=
 bif (decide ((W64 (g - m))≥4)) then
  BK_ k N.j8u [.p (S0_ n o q u w x g m y z A B C)] fun a=>
  bif (!(a.t 0).asB) then
   some ⟨[.b false],[(S1_ a)]⟩
  else
   BK_ k N.j1u [vr_ l] fun D=>
   BK_ k N.j5r [.p (S1_ a),.v [.i (a.vt 0 6).asI,.i h,.r (D.t 0).asR]] fun c=>
   bif (!(c.t 0).asB) then
    some ⟨[.b false],[(S1_ c)]⟩
   else
    BK_ k N.j2k [.p (i9o c (W64 ((c.vt 0 6).asI+1))),vi_ h,vr_ l] fun e=>
    some ⟨[.b (e.t 0).asB],[(S1_ e)]⟩
 else
  BK_ k N.j1u [vr_ l] fun F=>
  BK_ k N.j5r [.p (S0_ n o q u w x g m y z A B C),.v [.i g,.i h,.r (F.t 0).asR]] fun d=>
  bif (!(d.t 0).asB) then
   some ⟨[.b false],[(S1_ d)]⟩
  else
   BK_ k N.j2k [.p (i9o d (W64 ((d.vt 0 6).asI+1))),vi_ h,vr_ l] fun f=>
   some ⟨[.b (f.t 0).asB],[(S1_ f)]⟩
theorem d6j (k:Nat) (a c d:Int) (e:LL) (f g h l m:Int) (n:LL) (o:Int) (q t:Bool) (u:Int) (w:LL):a0a E P0 (k+1) N.j8z [.p (S0_ a c d e f g h l m n o q t),vi_ u,vr_ w]=c1k k a c d e f g h l m n o q t u w:=by kernel_rfl
def f9k (k:Nat) (a:Bool):OO:=
 bif a then so_ [.i 0] else so_ [.i 6]
theorem f9l (k:Nat) (a:Bool):a0a E P0 (k+1) N.j9a [.v [.b a]]=f9k k a:=by kernel_rfl
def a5x (k:Nat) (d:Int) (e:LL) (a:Outs) (f:Bool):OO:=
 bif f then
  so_ (S8_ a 7)
 else
  BK_ k N.j8z [.p (i4p a),vi_ d,vr_ e] fun c=>
  BK_ k N.j9a [.v [.b (c.t 0).asB]] fun g=>
  so_ [.i (c.vt 0 0).asI,.i (c.vt 0 1).asI,.i (c.vt 0 2).asI,.r (c.vt 0 3).asR,.i (c.vt 0 4).asI,.i (c.vt 0 5).asI,.i (c.vt 0 6).asI,.i (c.vt 0 7).asI,.i (c.vt 0 8).asI,.r (c.vt 0 9).asR,.i (c.vt 0 10).asI,.b (c.vt 0 11).asB,.b (c.vt 0 12).asB,.i (g.t 0).asI]
def b0n (k:Nat) (e f g h:Int) (l m:Bool) (c:Int) (d:LL) (a:Outs) (n:Bool):OO:=
 bif n then
  so_ (S8_ a 1)
 else
  bif l then
   so_ (S8_ a 6)
  else
   BK_ k N.j2r [.v [.i e,.i f],vi_ c] fun o=>
   bif (!(o.t 0).asB) then
    so_ (S8_ a 2)
   else
    bif m then
     so_ (S8_ a 5)
    else
     bif (g == 60000) then
      a5x k c d a true
     else
      a5x k c d a (decide (h≥59990))
def b9h (k:Nat) (l a c:Int) (m:LL) (n o d p e:Int) (q:LL) (u:Int) (f g:Bool) (w:Int) (h:LL):OO:=
 BK_ k N.j2i [.v (S0_ l a c m n o d p e q u f g)] fun x=>
 BK_ k N.j2w [.v (S0_ l a c m n o d p e q u f g)] fun y=>
 bif (!(y.t 0).asB) then
  b0n k a c d e f g w h x true
 else
  BK_ k N.j3x [.v [.i a,.i c],vr_ h] fun z=>
  b0n k a c d e f g w h x (!(z.t 0).asB)
theorem d4i (k:Nat) (a c d:Int) (e:LL) (f g h l m:Int) (n:LL) (o:Int) (p q:Bool) (t:Int) (u:LL):a0a E P0 (k+1) N.j5s [.v (S0_ a c d e f g h l m n o p q),vi_ t,vr_ u]=b9h k a c d e f g h l m n o p q t u:=by kernel_rfl
end
end Go.Proofs.YtjadnceefhbphaaGreat.Ev
