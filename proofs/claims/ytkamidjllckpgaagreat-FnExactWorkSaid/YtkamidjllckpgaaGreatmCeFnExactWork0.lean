/- What functions answer under the evaluator, as Lean terms, part 0: what FnExactWork needs. No condition. -/
import Derived.Test.YtkamidjllckpgaaGreatmTab
namespace Go.Proofs.YtkamidjllckpgaaGreat.Ev
open Go Go.Proofs
set_option linter.unusedVariables false
set_option maxRecDepth 100000
set_option maxHeartbeats 4000000
noncomputable section
def d7o (k:Nat) (a:LL) (b:Int):OO:=
 bif (decide ((W64 (b - (a.length:Int)))<0)) then
  some ⟨[.i (-1)],[]⟩
 else
  some ⟨[.i (W64 (b - (a.length:Int)))],[]⟩
theorem g2j (k:Nat) (a:LL) (b:Int):a0a E P0 (k+1) N.j6v [.v [.r a],.v [.i b]]=d7o k a b:=by kernel_rfl
def c1e (k:Nat) (b:LL) (e:(V1_)→OO):(V1_)→OO:=fun (c,a)=>
 bif (decide (a<(b.length:Int))) then
  chk (decide (0≤a)&&decide (a<(b.length:Int))) <|
  a0c (a0a E P0 k N.j6v [.v [.r (at_ b a.toNat 0).asR],.v [.i c]]) fun d=>
  bif (decide ((d.t 0).asI<0)) then some ⟨[.i (-1)],[]⟩ else e ((d.t 0).asI,(W64 (a+1)))
 else
  some ⟨[.i c],[]⟩
def f0o:List Nat:=[0,1,4,5,26]
def c9k (a:LL):(V1_)→St:=fun (b,c)=>⟨a2y [(0,.sl 68 a),(1,.i .i64 b),(4,.i .i64 0),(5,.i .i64 c),(26,.skip)],a0y []⟩
def b1l (k:Nat) (a:LL) (b:(V1_)→OO):(V1_)→OO:=
 c1e k a b
def b4y (k:Nat) (a:LL) (b:Int) (c:(V1_)→OO):OO:=
 bif (decide ((W64 (b - (a.length:Int)))<0)) then
  some ⟨[.i (-1)],[]⟩
 else
  c ((W64 (b - (a.length:Int))),0)
def d3b (k:Nat) (a:LL) (b:Int):OO:=
 b4y k a b (fun v=>a1l (b1l k a) k v)
def e6g (k:Nat) (a:LL) (b:Int) (js:List Nat) (j:Nat) (s:St):OO:=a3g E (LB E (a0a E P0 k) k [] N.j8a [.sr,.sr,.sr,.sl,.sr,.bl]) [] f0o (LK E (a0a E P0 k) k [] N.j8a [.v [.r a],.v [.i b]] [.sr,.sr,.sr,.sl,.sr,.bl] js) j s
theorem f5r (k:Nat) (a:LL) (c:Int):a0a E P0 (k+1) N.j8a [.v [.r a],.v [.i c]]=d3b k a c:=
 Eq.trans (b:=b4y k a c (fun v=>e6g k a c [] k (c9k a v))) (by kernel_rfl) (congrArg (b4y k a c) (funext fun v=>a0j (c9k a) (b1l k a) (fun j v=>by kernel_rfl) k v))
def f0p (k:Nat) (d:Int) (b:LL) (c:Int):OO:=
 a0c (a0a E P0 k N.j6v [.v [.r b],.v [.i c]]) fun a=>
 bif (decide ((a.t 0).asI<0)) then some ⟨[.i (-1)],[]⟩ else some ⟨[.i (a.t 0).asI],[]⟩
theorem h1z (k:Nat) (a:Int) (b:LL) (c:Int):a0a E P0 (k+1) N.k2l [.v [.i a,.r b],.v [.i c]]=f0p k a b c:=by kernel_rfl
def c6k (k:Nat) (b:LL) (e:(V1_)→OO):(V1_)→OO:=fun (c,a)=>
 bif (decide (a<(b.length:Int))) then
  chk (decide (0≤a)&&decide (a<(b.length:Int))) <|
  a0c (a0a E P0 k N.k2l [.v [.i (at_ b a.toNat 0).asI,.r (at_ b a.toNat 1).asR],.v [.i c]]) fun d=>
  bif (decide ((d.t 0).asI<0)) then some ⟨[.i (-1)],[]⟩ else e ((d.t 0).asI,(W64 (a+1)))
 else
  some ⟨[.i c],[]⟩
def g2k:List Nat:=[0,1,4,5,26]
def d7p (a:LL):(V1_)→St:=fun (b,c)=>⟨a2y [(0,.sl 191 a),(1,.i .i64 b),(4,.i .i64 0),(5,.i .i64 c),(26,.skip)],a0y []⟩
def b8t (k:Nat) (a:LL) (b:(V1_)→OO):(V1_)→OO:=
 c6k k a b
def c2o (k:Nat) (a:LL) (b:Int) (c:(V1_)→OO):OO:=
 bif (decide ((W64 (b - (a.length:Int)))<0)) then
  some ⟨[.i (-1)],[]⟩
 else
  c ((W64 (b - (a.length:Int))),0)
def e3z (k:Nat) (a:LL) (b:Int):OO:=
 c2o k a b (fun v=>a1l (b8t k a) k v)
def f5s (k:Nat) (a:LL) (b:Int) (js:List Nat) (j:Nat) (s:St):OO:=a3g E (LB E (a0a E P0 k) k [] N.j8b [.sr,.sr,.sr,.sl,.sr,.bl]) [] g2k (LK E (a0a E P0 k) k [] N.j8b [.v [.r a],.v [.i b]] [.sr,.sr,.sr,.sl,.sr,.bl] js) j s
theorem g7s (k:Nat) (a:LL) (c:Int):a0a E P0 (k+1) N.j8b [.v [.r a],.v [.i c]]=e3z k a c:=
 Eq.trans (b:=c2o k a c (fun v=>f5s k a c [] k (d7p a v))) (by kernel_rfl) (congrArg (c2o k a c) (funext fun v=>a0j (d7p a) (b8t k a) (fun j v=>by kernel_rfl) k v))
def e4a (k:Nat) (d e:LL) (h:Bool) (f:LL) (g:Int):OO:=
 a0c (a0a E P0 k N.j8a [.v [.r d],.v [.i g]]) fun a=>
 bif (decide ((a.t 0).asI<0)) then
  some ⟨[.i (-1)],[]⟩
 else
  a0c (a0a E P0 k N.j8b [.v [.r e],.v [.i (a.t 0).asI]]) fun b=>
  bif (decide ((b.t 0).asI<0)) then
   some ⟨[.i (-1)],[]⟩
  else
   a0c (a0a E P0 k N.j6v [.v [.r f],.v [.i (b.t 0).asI]]) fun c=>
   bif (decide ((c.t 0).asI<0)) then some ⟨[.i (-1)],[]⟩ else some ⟨[.i (c.t 0).asI],[]⟩
theorem g7t (k:Nat) (a c:LL) (d:Bool) (e:LL) (f:Int):a0a E P0 (k+1) N.k2m [.v [.r a,.r c,.b d,.r e],.v [.i f]]=e4a k a c d e f:=by kernel_rfl
def c3u (k:Nat) (c:LL) (f:(V1_)→OO):(V1_)→OO:=fun (d,a)=>
 bif (decide (a<(c.length:Int))) then
  chk (decide (0≤a)&&decide (a<(c.length:Int))) <|
  a0c (a0a E P0 k N.k2m [.v [.r (at_ c a.toNat 0).asR,.r (at_ c a.toNat 1).asR,.b (at_ c a.toNat 2).asB,.r (at_ c a.toNat 3).asR],.v [.i d]]) fun e=>
  bif (decide ((e.t 0).asI<0)) then some ⟨[.i (-1)],[]⟩ else f ((e.t 0).asI,(W64 (a+1)))
 else
  some ⟨[.i d],[]⟩
def f5t:List Nat:=[0,1,4,5,26]
def d3c (a:LL):(V1_)→St:=fun (b,c)=>⟨a2y [(0,.sl 141 a),(1,.i .i64 b),(4,.i .i64 0),(5,.i .i64 c),(26,.skip)],a0y []⟩
def b4z (k:Nat) (a:LL) (b:(V1_)→OO):(V1_)→OO:=
 c3u k a b
def b8u (k:Nat) (a:LL) (b:Int) (c:(V1_)→OO):OO:=
 bif (decide ((W64 (b - (a.length:Int)))<0)) then
  some ⟨[.i (-1)],[]⟩
 else
  c ((W64 (b - (a.length:Int))),0)
def d7q (k:Nat) (a:LL) (b:Int):OO:=
 b8u k a b (fun v=>a1l (b4z k a) k v)
def f0q (k:Nat) (a:LL) (b:Int) (js:List Nat) (j:Nat) (s:St):OO:=a3g E (LB E (a0a E P0 k) k [] N.j8c [.sr,.sr,.sr,.sl,.sr,.bl]) [] f5t (LK E (a0a E P0 k) k [] N.j8c [.v [.r a],.v [.i b]] [.sr,.sr,.sr,.sl,.sr,.bl] js) j s
theorem g2l (k:Nat) (a:LL) (c:Int):a0a E P0 (k+1) N.j8c [.v [.r a],.v [.i c]]=d7q k a c:=
 Eq.trans (b:=b8u k a c (fun v=>f0q k a c [] k (d3c a v))) (by kernel_rfl) (congrArg (b8u k a c) (funext fun v=>a0j (d3c a) (b4z k a) (fun j v=>by kernel_rfl) k v))
def e4b (k:Nat) (d:Int) (b:LL) (c:Int):OO:=
 a0c (a0a E P0 k N.j6v [.v [.r b],.v [.i c]]) fun a=>
 bif (decide ((a.t 0).asI<0)) then some ⟨[.i (-1)],[]⟩ else some ⟨[.i (a.t 0).asI],[]⟩
theorem g7u (k:Nat) (a:Int) (b:LL) (c:Int):a0a E P0 (k+1) N.k2n [.v [.i a,.r b],.v [.i c]]=e4b k a b c:=by kernel_rfl
def c3v (k:Nat) (b:LL) (e:(V1_)→OO):(V1_)→OO:=fun (c,a)=>
 bif (decide (a<(b.length:Int))) then
  chk (decide (0≤a)&&decide (a<(b.length:Int))) <|
  a0c (a0a E P0 k N.k2n [.v [.i (at_ b a.toNat 0).asI,.r (at_ b a.toNat 1).asR],.v [.i c]]) fun d=>
  bif (decide ((d.t 0).asI<0)) then some ⟨[.i (-1)],[]⟩ else e ((d.t 0).asI,(W64 (a+1)))
 else
  some ⟨[.i c],[]⟩
def f5u:List Nat:=[0,1,4,5,26]
def d3d (a:LL):(V1_)→St:=fun (b,c)=>⟨a2y [(0,.sl 144 a),(1,.i .i64 b),(4,.i .i64 0),(5,.i .i64 c),(26,.skip)],a0y []⟩
def b5a (k:Nat) (a:LL) (b:(V1_)→OO):(V1_)→OO:=
 c3v k a b
def b8v (k:Nat) (a:LL) (b:Int) (c:(V1_)→OO):OO:=
 bif (decide ((W64 (b - (a.length:Int)))<0)) then
  some ⟨[.i (-1)],[]⟩
 else
  c ((W64 (b - (a.length:Int))),0)
def d7r (k:Nat) (a:LL) (b:Int):OO:=
 b8v k a b (fun v=>a1l (b5a k a) k v)
def f0r (k:Nat) (a:LL) (b:Int) (js:List Nat) (j:Nat) (s:St):OO:=a3g E (LB E (a0a E P0 k) k [] N.j8d [.sr,.sr,.sr,.sl,.sr,.bl]) [] f5u (LK E (a0a E P0 k) k [] N.j8d [.v [.r a],.v [.i b]] [.sr,.sr,.sr,.sl,.sr,.bl] js) j s
theorem g2m (k:Nat) (a:LL) (c:Int):a0a E P0 (k+1) N.j8d [.v [.r a],.v [.i c]]=d7r k a c:=
 Eq.trans (b:=b8v k a c (fun v=>f0r k a c [] k (d3d a v))) (by kernel_rfl) (congrArg (b8v k a c) (funext fun v=>a0j (d3d a) (b5a k a) (fun j v=>by kernel_rfl) k v))
def e4c (k:Nat) (f g h:Int) (c:LL) (l m n o p:Int) (d:LL) (q:Int) (u w:Bool) (e:Int):OO:=
 a0c (a0a E P0 k N.j8c [.v [.r c],.v [.i e]]) fun a=>
 bif (decide ((a.t 0).asI<0)) then
  some ⟨[.i (-1)],[]⟩
 else
  a0c (a0a E P0 k N.j8d [.v [.r d],.v [.i (a.t 0).asI]]) fun b=>
  bif (decide ((b.t 0).asI<0)) then some ⟨[.i (-1)],[]⟩ else some ⟨[.i (b.t 0).asI],[]⟩
theorem g7v (k:Nat) (a c d:Int) (e:LL) (f g h l m:Int) (n:LL) (o:Int) (p q:Bool) (t:Int):a0a E P0 (k+1) N.k2o [.v [.i a,.i c,.i d,.r e,.i f,.i g,.i h,.i l,.i m,.r n,.i o,.b p,.b q],.v [.i t]]=e4c k a c d e f g h l m n o p q t:=by kernel_rfl
def e4d (k:Nat) (d e f g:Int) (b:LL) (c:Int):OO:=
 a0c (a0a E P0 k N.j6v [.v [.r b],.v [.i c]]) fun a=>
 bif (decide ((a.t 0).asI<0)) then some ⟨[.i (-1)],[]⟩ else some ⟨[.i (a.t 0).asI],[]⟩
theorem g7w (k:Nat) (a b c d:Int) (e:LL) (f:Int):a0a E P0 (k+1) N.j8e [.v [.i a,.i b,.i c,.i d,.r e],.v [.i f]]=e4d k a b c d e f:=by kernel_rfl
def c3w (k:Nat) (b:LL) (e:(V1_)→OO):(V1_)→OO:=fun (c,a)=>
 bif (decide (a<(b.length:Int))) then
  chk (decide (0≤a)&&decide (a<(b.length:Int))) <|
  a0c (a0a E P0 k N.j8e [.v [.i (at_ b a.toNat 0).asI,.i (at_ b a.toNat 1).asI,.i (at_ b a.toNat 2).asI,.i (at_ b a.toNat 3).asI,.r (at_ b a.toNat 4).asR],.v [.i c]]) fun d=>
  bif (decide ((d.t 0).asI<0)) then some ⟨[.i (-1)],[]⟩ else e ((d.t 0).asI,(W64 (a+1)))
 else
  some ⟨[.i c],[]⟩
def f5v:List Nat:=[0,1,4,5,26]
def d3e (a:LL):(V1_)→St:=fun (b,c)=>⟨a2y [(0,.sl 93 a),(1,.i .i64 b),(4,.i .i64 0),(5,.i .i64 c),(26,.skip)],a0y []⟩
def b5b (k:Nat) (a:LL) (b:(V1_)→OO):(V1_)→OO:=
 c3w k a b
def b8w (k:Nat) (a:LL) (b:Int) (c:(V1_)→OO):OO:=
 bif (decide ((W64 (b - (a.length:Int)))<0)) then
  some ⟨[.i (-1)],[]⟩
 else
  c ((W64 (b - (a.length:Int))),0)
def d7s (k:Nat) (a:LL) (b:Int):OO:=
 b8w k a b (fun v=>a1l (b5b k a) k v)
def f0s (k:Nat) (a:LL) (b:Int) (js:List Nat) (j:Nat) (s:St):OO:=a3g E (LB E (a0a E P0 k) k [] N.j8f [.sr,.sr,.sr,.sl,.sr,.bl]) [] f5v (LK E (a0a E P0 k) k [] N.j8f [.v [.r a],.v [.i b]] [.sr,.sr,.sr,.sl,.sr,.bl] js) j s
theorem g2n (k:Nat) (a:LL) (c:Int):a0a E P0 (k+1) N.j8f [.v [.r a],.v [.i c]]=d7s k a c:=
 Eq.trans (b:=b8w k a c (fun v=>f0s k a c [] k (d3e a v))) (by kernel_rfl) (congrArg (b8w k a c) (funext fun v=>a0j (d3e a) (b5b k a) (fun j v=>by kernel_rfl) k v))
def e4e (k:Nat) (c d e f:Int) (g:LL) (m:Int) (h:LL) (n l:Int):OO:=
 a0c (a0a E P0 k N.j8e [.v [.i c,.i d,.i e,.i f,.r g],.v [.i l]]) fun a=>
 bif (decide ((a.t 0).asI<0)) then
  some ⟨[.i (-1)],[]⟩
 else
  a0c (a0a E P0 k N.j6v [.v [.r h],.v [.i (a.t 0).asI]]) fun b=>
  bif (decide ((b.t 0).asI<0)) then some ⟨[.i (-1)],[]⟩ else some ⟨[.i (b.t 0).asI],[]⟩
theorem g7x (k:Nat) (a b c d:Int) (e:LL) (f:Int) (g:LL) (h l:Int):a0a E P0 (k+1) N.k2p [.v [.i a,.i b,.i c,.i d,.r e,.i f,.r g,.i h],.v [.i l]]=e4e k a b c d e f g h l:=by kernel_rfl
def c3x (k:Nat) (b:LL) (e:(V1_)→OO):(V1_)→OO:=fun (c,a)=>
 bif (decide (a<(b.length:Int))) then
  chk (decide (0≤a)&&decide (a<(b.length:Int))) <|
  a0c (a0a E P0 k N.k2p [.v [.i (at_ b a.toNat 0).asI,.i (at_ b a.toNat 1).asI,.i (at_ b a.toNat 2).asI,.i (at_ b a.toNat 3).asI,.r (at_ b a.toNat 4).asR,.i (at_ b a.toNat 5).asI,.r (at_ b a.toNat 6).asR,.i (at_ b a.toNat 7).asI],.v [.i c]]) fun d=>
  bif (decide ((d.t 0).asI<0)) then some ⟨[.i (-1)],[]⟩ else e ((d.t 0).asI,(W64 (a+1)))
 else
  some ⟨[.i c],[]⟩
def f5w:List Nat:=[0,1,4,5,26]
def d3f (a:LL):(V1_)→St:=fun (b,c)=>⟨a2y [(0,.sl 96 a),(1,.i .i64 b),(4,.i .i64 0),(5,.i .i64 c),(26,.skip)],a0y []⟩
def b5c (k:Nat) (a:LL) (b:(V1_)→OO):(V1_)→OO:=
 c3x k a b
def b8x (k:Nat) (a:LL) (b:Int) (c:(V1_)→OO):OO:=
 bif (decide ((W64 (b - (a.length:Int)))<0)) then
  some ⟨[.i (-1)],[]⟩
 else
  c ((W64 (b - (a.length:Int))),0)
def d7t (k:Nat) (a:LL) (b:Int):OO:=
 b8x k a b (fun v=>a1l (b5c k a) k v)
def f0t (k:Nat) (a:LL) (b:Int) (js:List Nat) (j:Nat) (s:St):OO:=a3g E (LB E (a0a E P0 k) k [] N.j8g [.sr,.sr,.sr,.sl,.sr,.bl]) [] f5w (LK E (a0a E P0 k) k [] N.j8g [.v [.r a],.v [.i b]] [.sr,.sr,.sr,.sl,.sr,.bl] js) j s
theorem g2o (k:Nat) (a:LL) (c:Int):a0a E P0 (k+1) N.j8g [.v [.r a],.v [.i c]]=d7t k a c:=
 Eq.trans (b:=b8x k a c (fun v=>f0t k a c [] k (d3f a v))) (by kernel_rfl) (congrArg (b8x k a c) (funext fun v=>a0j (d3f a) (b5c k a) (fun j v=>by kernel_rfl) k v))
def e4f (k:Nat) (d e:Int) (b:LL) (c:Int):OO:=
 a0c (a0a E P0 k N.j6v [.v [.r b],.v [.i c]]) fun a=>
 bif (decide ((a.t 0).asI<0)) then some ⟨[.i (-1)],[]⟩ else some ⟨[.i (a.t 0).asI],[]⟩
theorem g7y (k:Nat) (a b:Int) (c:LL) (d:Int):a0a E P0 (k+1) N.k1b [.v [.i a,.i b,.r c],.v [.i d]]=e4f k a b c d:=by kernel_rfl
def c3y (k:Nat) (b:LL) (e:(V1_)→OO):(V1_)→OO:=fun (c,a)=>
 bif (decide (a<(b.length:Int))) then
  chk (decide (0≤a)&&decide (a<(b.length:Int))) <|
  a0c (a0a E P0 k N.k1b [.v [.i (at_ b a.toNat 0).asI,.i (at_ b a.toNat 1).asI,.r (at_ b a.toNat 2).asR],.v [.i c]]) fun d=>
  bif (decide ((d.t 0).asI<0)) then some ⟨[.i (-1)],[]⟩ else e ((d.t 0).asI,(W64 (a+1)))
 else
  some ⟨[.i c],[]⟩
def f5x:List Nat:=[0,1,4,5,26]
def d3g (a:LL):(V1_)→St:=fun (b,c)=>⟨a2y [(0,.sl 98 a),(1,.i .i64 b),(4,.i .i64 0),(5,.i .i64 c),(26,.skip)],a0y []⟩
def b5d (k:Nat) (a:LL) (b:(V1_)→OO):(V1_)→OO:=
 c3y k a b
def b8y (k:Nat) (a:LL) (b:Int) (c:(V1_)→OO):OO:=
 bif (decide ((W64 (b - (a.length:Int)))<0)) then
  some ⟨[.i (-1)],[]⟩
 else
  c ((W64 (b - (a.length:Int))),0)
def d7u (k:Nat) (a:LL) (b:Int):OO:=
 b8y k a b (fun v=>a1l (b5d k a) k v)
def f0u (k:Nat) (a:LL) (b:Int) (js:List Nat) (j:Nat) (s:St):OO:=a3g E (LB E (a0a E P0 k) k [] N.j8h [.sr,.sr,.sr,.sl,.sr,.bl]) [] f5x (LK E (a0a E P0 k) k [] N.j8h [.v [.r a],.v [.i b]] [.sr,.sr,.sr,.sl,.sr,.bl] js) j s
theorem g2p (k:Nat) (a:LL) (c:Int):a0a E P0 (k+1) N.j8h [.v [.r a],.v [.i c]]=d7u k a c:=
 Eq.trans (b:=b8y k a c (fun v=>f0u k a c [] k (d3g a v))) (by kernel_rfl) (congrArg (b8y k a c) (funext fun v=>a0j (d3g a) (b5d k a) (fun j v=>by kernel_rfl) k v))
def d7v (k:Nat) (c d e f:Int) (g:LL) (h l:Int) (m:LL) (n:Int):OO:=
 a0c (a0a E P0 k N.j8e [.v [.i c,.i d,.i e,.i f,.r g],.v [.i n]]) fun a=>
 bif (decide ((a.t 0).asI<0)) then
  some ⟨[.i (-1)],[]⟩
 else
  a0c (a0a E P0 k N.k1b [.v [.i h,.i l,.r m],.v [.i (a.t 0).asI]]) fun b=>
  bif (decide ((b.t 0).asI<0)) then some ⟨[.i (-1)],[]⟩ else some ⟨[.i (b.t 0).asI],[]⟩
theorem g2q (k:Nat) (a b c d:Int) (e:LL) (f g:Int) (h:LL) (l:Int):a0a E P0 (k+1) N.k2q [.v [.i a,.i b,.i c,.i d,.r e,.i f,.i g,.r h],.v [.i l]]=d7v k a b c d e f g h l:=by kernel_rfl
def c1f (k:Nat) (b:LL) (e:(V1_)→OO):(V1_)→OO:=fun (c,a)=>
 bif (decide (a<(b.length:Int))) then
  chk (decide (0≤a)&&decide (a<(b.length:Int))) <|
  a0c (a0a E P0 k N.k2q [.v [.i (at_ b a.toNat 0).asI,.i (at_ b a.toNat 1).asI,.i (at_ b a.toNat 2).asI,.i (at_ b a.toNat 3).asI,.r (at_ b a.toNat 4).asR,.i (at_ b a.toNat 5).asI,.i (at_ b a.toNat 6).asI,.r (at_ b a.toNat 7).asR],.v [.i c]]) fun d=>
  bif (decide ((d.t 0).asI<0)) then some ⟨[.i (-1)],[]⟩ else e ((d.t 0).asI,(W64 (a+1)))
 else
  some ⟨[.i c],[]⟩
def f0v:List Nat:=[0,1,4,5,26]
def c9l (a:LL):(V1_)→St:=fun (b,c)=>⟨a2y [(0,.sl 101 a),(1,.i .i64 b),(4,.i .i64 0),(5,.i .i64 c),(26,.skip)],a0y []⟩
def b1m (k:Nat) (a:LL) (b:(V1_)→OO):(V1_)→OO:=
 c1f k a b
def b5e (k:Nat) (a:LL) (b:Int) (c:(V1_)→OO):OO:=
 bif (decide ((W64 (b - (a.length:Int)))<0)) then
  some ⟨[.i (-1)],[]⟩
 else
  c ((W64 (b - (a.length:Int))),0)
def d3h (k:Nat) (a:LL) (b:Int):OO:=
 b5e k a b (fun v=>a1l (b1m k a) k v)
def e6h (k:Nat) (a:LL) (b:Int) (js:List Nat) (j:Nat) (s:St):OO:=a3g E (LB E (a0a E P0 k) k [] N.j8i [.sr,.sr,.sr,.sl,.sr,.bl]) [] f0v (LK E (a0a E P0 k) k [] N.j8i [.v [.r a],.v [.i b]] [.sr,.sr,.sr,.sl,.sr,.bl] js) j s
theorem f5y (k:Nat) (a:LL) (c:Int):a0a E P0 (k+1) N.j8i [.v [.r a],.v [.i c]]=d3h k a c:=
 Eq.trans (b:=b5e k a c (fun v=>e6h k a c [] k (c9l a v))) (by kernel_rfl) (congrArg (b5e k a c) (funext fun v=>a0j (c9l a) (b1m k a) (fun j v=>by kernel_rfl) k v))
def e4g (k:Nat) (g h l:Int) (m:LL) (n o p q u:Int) (w:LL) (x:Int) (y z:Bool) (A B C D:LL) (F:Int):OO:=
 a0c (a0a E P0 k N.k2o [.v [.i g,.i h,.i l,.r m,.i n,.i o,.i p,.i q,.i u,.r w,.i x,.b y,.b z],.v [.i F]]) fun a=>
 bif (decide ((a.t 0).asI<0)) then
  some ⟨[.i (-1)],[]⟩
 else
  a0c (a0a E P0 k N.j8f [.v [.r A],.v [.i (a.t 0).asI]]) fun c=>
  bif (decide ((c.t 0).asI<0)) then
   some ⟨[.i (-1)],[]⟩
  else
   a0c (a0a E P0 k N.j8g [.v [.r B],.v [.i (c.t 0).asI]]) fun d=>
   bif (decide ((d.t 0).asI<0)) then
    some ⟨[.i (-1)],[]⟩
   else
    a0c (a0a E P0 k N.j8h [.v [.r C],.v [.i (d.t 0).asI]]) fun e=>
    bif (decide ((e.t 0).asI<0)) then
     some ⟨[.i (-1)],[]⟩
    else
     a0c (a0a E P0 k N.j8i [.v [.r D],.v [.i (e.t 0).asI]]) fun f=>
     bif (decide ((f.t 0).asI<0)) then some ⟨[.i (-1)],[]⟩ else some ⟨[.i (f.t 0).asI],[]⟩
theorem g7z (k:Nat) (a c d:Int) (e:LL) (f g h l m:Int) (n:LL) (o:Int) (p q:Bool) (t u w x:LL) (y:Int):a0a E P0 (k+1) N.k2r [.v [.i a,.i c,.i d,.r e,.i f,.i g,.i h,.i l,.i m,.r n,.i o,.b p,.b q,.r t,.r u,.r w,.r x],.v [.i y]]=e4g k a c d e f g h l m n o p q t u w x y:=by kernel_rfl
def e4h (k:Nat) (a b:Int):OO:=
 some ⟨[.i a,.i b],[]⟩
theorem g8a (k:Nat) (a b:Int):a0a E P0 (k+1) N.k2s [.v [.i a,.i b]]=e4h k a b:=by kernel_rfl
def c3z (k:Nat) (b:LL) (d:(V0_)→OO):(V0_)→OO:=fun (a,c)=>
 bif (decide (a<(b.length:Int))) then
  chk (decide (0≤a)&&decide (a<(b.length:Int))) <|
  chk (decide (0≤a)&&decide (a<(c.length:Int))) <|
  d ((W64 (a+1)),(a0z c a.toNat 0 [.i (at_ b a.toNat 0).asI]))
 else
  some ⟨[.r c],[]⟩
def f5z:List Nat:=[0,2,3,4,21]
def d3i (a:LL):(V0_)→St:=fun (b,c)=>⟨a2y [(0,.sl 3 a),(2,.ref (2,0)),(3,.ref (3,0)),(4,.i .i64 b),(21,.skip)],a0y [((2,0),.row 3 true []),((3,0),.row 3 true c)]⟩
def b5f (k:Nat) (a:LL) (b:(V0_)→OO):(V0_)→OO:=
 c3z k a b
def b8z (k:Nat) (a:LL) (b:(V0_)→OO):OO:=
 chk (decide ((a.length:Int)=(a.length:Int))&&decide (0≤(a.length:Int))&&decide ((a.length:Int)*((8:Nat):Int)≤140737488355328)) <|
 b (0,(List.replicate ((a.length:Int):Int).toNat ([.i 0]:List T)))
def d7w (k:Nat) (a:LL):OO:=
 b8z k a (fun v=>a1l (b5f k a) k v)
def f0w (k:Nat) (a:LL) (js:List Nat) (j:Nat) (s:St):OO:=a3g E (LB E (a0a E P0 k) k [] N.j6l [.sr,.sr,.sl,.sr,.bl]) [] f5z (LK E (a0a E P0 k) k [] N.j6l [.v [.r a]] [.sr,.sr,.sl,.sr,.bl] js) j s
theorem g2r (k:Nat) (a:LL):a0a E P0 (k+1) N.j6l [.v [.r a]]=d7w k a:=
 Eq.trans (b:=b8z k a (fun v=>f0w k a [] k (d3i a v))) (by kernel_rfl) (congrArg (b8z k a) (funext fun v=>a0j (d3i a) (b5f k a) (fun j v=>by kernel_rfl) k v))
def c1g (k:Nat) (b:LL) (d:(V0_)→OO):(V0_)→OO:=fun (a,c)=>
 bif (decide (a<(b.length:Int))) then
  chk (decide (0≤a)&&decide (a<(b.length:Int))) <|
  a0c (a0a E P0 k N.j6l [.v [.r (at_ b a.toNat 0).asR]]) fun e=>
  chk (decide (0≤a)&&decide (a<(c.length:Int))) <|
  d ((W64 (a+1)),(a0z c a.toNat 0 [.r (e.t 0).asR]))
 else
  some ⟨[.r c],[]⟩
def f0x:List Nat:=[0,2,3,4,22]
def c9m (a:LL):(V0_)→St:=fun (b,c)=>⟨a2y [(0,.sl 68 a),(2,.ref (2,0)),(3,.ref (3,0)),(4,.i .i64 b),(22,.skip)],Mem.put (a0y [((2,0),.deep 68 [] none),((3,0),.deep 68 c none)]) a2h .dead⟩
def b1n (k:Nat) (a:LL) (b:(V0_)→OO):(V0_)→OO:=
 c1g k a b
def b5g (k:Nat) (a:LL) (b:(V0_)→OO):OO:=
 chk (decide ((a.length:Int)=(a.length:Int))&&decide (0≤(a.length:Int))&&decide ((a.length:Int)*((24:Nat):Int)≤140737488355328)) <|
 b (0,(List.replicate ((a.length:Int):Int).toNat ([.r []]:List T)))
def d3j (k:Nat) (a:LL):OO:=
 b5g k a (fun v=>a1l (b1n k a) k v)
def e6i (k:Nat) (a:LL) (js:List Nat) (j:Nat) (s:St):OO:=a3g E (LB E (a0a E P0 k) k [] N.j8j [.sr,.sr,.sl,.sr,.bl]) [] f0x (LK E (a0a E P0 k) k [] N.j8j [.v [.r a]] [.sr,.sr,.sl,.sr,.bl] js) j s
theorem f6a (k:Nat) (a:LL):a0a E P0 (k+1) N.j8j [.v [.r a]]=d3j k a:=
 Eq.trans (b:=b5g k a (fun v=>e6i k a [] k (c9m a v))) (by kernel_rfl) (congrArg (b5g k a) (funext fun v=>a0j (c9m a) (b1n k a) (fun j v=>by kernel_rfl) k v))
def f0y (k:Nat) (a:Int) (b:LL):OO:=
 a0c (a0a E P0 k N.j6l [.v [.r b]]) fun c=>
 some ⟨[.i a,.r (c.t 0).asR],[]⟩
theorem h2a (k:Nat) (a:Int) (b:LL):a0a E P0 (k+1) N.k2t [.v [.i a,.r b]]=f0y k a b:=by kernel_rfl
def c6l (k:Nat) (b:LL) (e:(V0_)→OO):(V0_)→OO:=fun (a,c)=>
 bif (decide (a<(b.length:Int))) then
  chk (decide (0≤a)&&decide (a<(b.length:Int))) <|
  a0c (a0a E P0 k N.k2t [.v [.i (at_ b a.toNat 0).asI,.r (at_ b a.toNat 1).asR]]) fun d=>
  chk (decide (0≤a)&&decide (a<(c.length:Int))) <|
  e ((W64 (a+1)),(a0z c a.toNat 0 [.i (d.t 0).asI,.r (d.t 1).asR]))
 else
  some ⟨[.r c],[]⟩
def g2s:List Nat:=[0,2,3,4,22]
def d7x (a:LL):(V0_)→St:=fun (b,c)=>⟨a2y [(0,.sl 191 a),(2,.ref (2,0)),(3,.ref (3,0)),(4,.i .i64 b),(22,.skip)],Mem.put (a0y [((2,0),.deep 176 [] none),((3,0),.deep 176 c none)]) a2h .dead⟩
def b9a (k:Nat) (a:LL) (b:(V0_)→OO):(V0_)→OO:=
 c6l k a b
def c2p (k:Nat) (a:LL) (b:(V0_)→OO):OO:=
 chk (decide ((a.length:Int)=(a.length:Int))&&decide (0≤(a.length:Int))&&decide ((a.length:Int)*((32:Nat):Int)≤140737488355328)) <|
 b (0,(List.replicate ((a.length:Int):Int).toNat ([.i 0,.r []]:List T)))
def e4i (k:Nat) (a:LL):OO:=
 c2p k a (fun v=>a1l (b9a k a) k v)
def f6b (k:Nat) (a:LL) (js:List Nat) (j:Nat) (s:St):OO:=a3g E (LB E (a0a E P0 k) k [] N.j8k [.sr,.sr,.sl,.sr,.bl]) [] g2s (LK E (a0a E P0 k) k [] N.j8k [.v [.r a]] [.sr,.sr,.sl,.sr,.bl] js) j s
theorem g8b (k:Nat) (a:LL):a0a E P0 (k+1) N.j8k [.v [.r a]]=e4i k a:=
 Eq.trans (b:=c2p k a (fun v=>f6b k a [] k (d7x a v))) (by kernel_rfl) (congrArg (c2p k a) (funext fun v=>a0j (d7x a) (b9a k a) (fun j v=>by kernel_rfl) k v))
def e4j (k:Nat) (a c:LL) (d:Bool) (e:LL):OO:=
 a0c (a0a E P0 k N.j8j [.v [.r a]]) fun f=>
 a0c (a0a E P0 k N.j8k [.v [.r c]]) fun g=>
 a0c (a0a E P0 k N.j6l [.v [.r e]]) fun h=>
 some ⟨[.r (f.t 0).asR,.r (g.t 0).asR,.b d,.r (h.t 0).asR],[]⟩
theorem g8c (k:Nat) (a c:LL) (d:Bool) (e:LL):a0a E P0 (k+1) N.k2u [.v [.r a,.r c,.b d,.r e]]=e4j k a c d e:=by kernel_rfl
def c4a (k:Nat) (c:LL) (f:(V0_)→OO):(V0_)→OO:=fun (a,e)=>
 bif (decide (a<(c.length:Int))) then
  chk (decide (0≤a)&&decide (a<(c.length:Int))) <|
  a0c (a0a E P0 k N.k2u [.v [.r (at_ c a.toNat 0).asR,.r (at_ c a.toNat 1).asR,.b (at_ c a.toNat 2).asB,.r (at_ c a.toNat 3).asR]]) fun d=>
  chk (decide (0≤a)&&decide (a<(e.length:Int))) <|
  f ((W64 (a+1)),(a0z e a.toNat 0 [.r (d.t 0).asR,.r (d.t 1).asR,.b (d.t 2).asB,.r (d.t 3).asR]))
 else
  some ⟨[.r e],[]⟩
def f6c:List Nat:=[0,2,3,4,22]
def d3k (a:LL):(V0_)→St:=fun (b,c)=>⟨a2y [(0,.sl 141 a),(2,.ref (2,0)),(3,.ref (3,0)),(4,.i .i64 b),(22,.skip)],Mem.put (a0y [((2,0),.deep 147 [] none),((3,0),.deep 147 c none)]) a2h .dead⟩
def b5h (k:Nat) (a:LL) (b:(V0_)→OO):(V0_)→OO:=
 c4a k a b
def b9b (k:Nat) (a:LL) (c:(V0_)→OO):OO:=
 chk (decide ((a.length:Int)=(a.length:Int))&&decide (0≤(a.length:Int))&&decide ((a.length:Int)*((80:Nat):Int)≤140737488355328)) <|
 c (0,(List.replicate ((a.length:Int):Int).toNat ([.r [],.r [],.b false,.r []]:List T)))
def d7y (k:Nat) (a:LL):OO:=
 b9b k a (fun v=>a1l (b5h k a) k v)
def f0z (k:Nat) (a:LL) (js:List Nat) (j:Nat) (s:St):OO:=a3g E (LB E (a0a E P0 k) k [] N.j8l [.sr,.sr,.sl,.sr,.bl]) [] f6c (LK E (a0a E P0 k) k [] N.j8l [.v [.r a]] [.sr,.sr,.sl,.sr,.bl] js) j s
theorem g2t (k:Nat) (a:LL):a0a E P0 (k+1) N.j8l [.v [.r a]]=d7y k a:=
 Eq.trans (b:=b9b k a (fun v=>f0z k a [] k (d3k a v))) (by kernel_rfl) (congrArg (b9b k a) (funext fun v=>a0j (d3k a) (b5h k a) (fun j v=>by kernel_rfl) k v))
def e4k (k:Nat) (a:Int) (b:LL):OO:=
 a0c (a0a E P0 k N.j6l [.v [.r b]]) fun c=>
 some ⟨[.i a,.r (c.t 0).asR],[]⟩
theorem g8d (k:Nat) (a:Int) (b:LL):a0a E P0 (k+1) N.k2v [.v [.i a,.r b]]=e4k k a b:=by kernel_rfl
def c4b (k:Nat) (b:LL) (e:(V0_)→OO):(V0_)→OO:=fun (a,c)=>
 bif (decide (a<(b.length:Int))) then
  chk (decide (0≤a)&&decide (a<(b.length:Int))) <|
  a0c (a0a E P0 k N.k2v [.v [.i (at_ b a.toNat 0).asI,.r (at_ b a.toNat 1).asR]]) fun d=>
  chk (decide (0≤a)&&decide (a<(c.length:Int))) <|
  e ((W64 (a+1)),(a0z c a.toNat 0 [.i (d.t 0).asI,.r (d.t 1).asR]))
 else
  some ⟨[.r c],[]⟩
def f6d:List Nat:=[0,2,3,4,22]
def d3l (a:LL):(V0_)→St:=fun (b,c)=>⟨a2y [(0,.sl 144 a),(2,.ref (2,0)),(3,.ref (3,0)),(4,.i .i64 b),(22,.skip)],Mem.put (a0y [((2,0),.deep 149 [] none),((3,0),.deep 149 c none)]) a2h .dead⟩
def b5i (k:Nat) (a:LL) (b:(V0_)→OO):(V0_)→OO:=
 c4b k a b
def b9c (k:Nat) (a:LL) (b:(V0_)→OO):OO:=
 chk (decide ((a.length:Int)=(a.length:Int))&&decide (0≤(a.length:Int))&&decide ((a.length:Int)*((32:Nat):Int)≤140737488355328)) <|
 b (0,(List.replicate ((a.length:Int):Int).toNat ([.i 0,.r []]:List T)))
def d7z (k:Nat) (a:LL):OO:=
 b9c k a (fun v=>a1l (b5i k a) k v)
def f1a (k:Nat) (a:LL) (js:List Nat) (j:Nat) (s:St):OO:=a3g E (LB E (a0a E P0 k) k [] N.j8m [.sr,.sr,.sl,.sr,.bl]) [] f6d (LK E (a0a E P0 k) k [] N.j8m [.v [.r a]] [.sr,.sr,.sl,.sr,.bl] js) j s
theorem g2u (k:Nat) (a:LL):a0a E P0 (k+1) N.j8m [.v [.r a]]=d7z k a:=
 Eq.trans (b:=b9c k a (fun v=>f1a k a [] k (d3l a v))) (by kernel_rfl) (congrArg (b9c k a) (funext fun v=>a0j (d3l a) (b5i k a) (fun j v=>by kernel_rfl) k v))
def e4l (k:Nat) (c d e:Int) (f:LL) (g h l m n:Int) (o:LL) (p:Int) (q u:Bool):OO:=
 a0c (a0a E P0 k N.k2s [.v [.i d,.i e]]) fun a=>
 a0c (a0a E P0 k N.j8l [.v [.r f]]) fun w=>
 a0c (a0a E P0 k N.j8m [.v [.r o]]) fun x=>
 some ⟨[.i c,.i (a.t 0).asI,.i (a.t 1).asI,.r (w.t 0).asR,.i g,.i h,.i l,.i m,.i n,.r (x.t 0).asR,.i p,.b q,.b u],[]⟩
theorem g8e (k:Nat) (a c d:Int) (e:LL) (f g h l m:Int) (n:LL) (o:Int) (p q:Bool):a0a E P0 (k+1) N.k2w [.v [.i a,.i c,.i d,.r e,.i f,.i g,.i h,.i l,.i m,.r n,.i o,.b p,.b q]]=e4l k a c d e f g h l m n o p q:=by kernel_rfl
def e4m (k:Nat) (a b c d:Int) (e:LL):OO:=
 a0c (a0a E P0 k N.j6l [.v [.r e]]) fun f=>
 some ⟨[.i a,.i b,.i c,.i d,.r (f.t 0).asR],[]⟩
theorem g8f (k:Nat) (a b c d:Int) (e:LL):a0a E P0 (k+1) N.j8n [.v [.i a,.i b,.i c,.i d,.r e]]=e4m k a b c d e:=by kernel_rfl
def c4c (k:Nat) (b:LL) (e:(V0_)→OO):(V0_)→OO:=fun (a,d)=>
 bif (decide (a<(b.length:Int))) then
  chk (decide (0≤a)&&decide (a<(b.length:Int))) <|
  a0c (a0a E P0 k N.j8n [.v [.i (at_ b a.toNat 0).asI,.i (at_ b a.toNat 1).asI,.i (at_ b a.toNat 2).asI,.i (at_ b a.toNat 3).asI,.r (at_ b a.toNat 4).asR]]) fun c=>
  chk (decide (0≤a)&&decide (a<(d.length:Int))) <|
  e ((W64 (a+1)),(a0z d a.toNat 0 [.i (c.t 0).asI,.i (c.t 1).asI,.i (c.t 2).asI,.i (c.t 3).asI,.r (c.t 4).asR]))
 else
  some ⟨[.r d],[]⟩
def f6e:List Nat:=[0,2,3,4,22]
def d3m (a:LL):(V0_)→St:=fun (b,c)=>⟨a2y [(0,.sl 93 a),(2,.ref (2,0)),(3,.ref (3,0)),(4,.i .i64 b),(22,.skip)],Mem.put (a0y [((2,0),.deep 70 [] none),((3,0),.deep 70 c none)]) a2h .dead⟩
def b5j (k:Nat) (a:LL) (b:(V0_)→OO):(V0_)→OO:=
 c4c k a b
def b9d (k:Nat) (a:LL) (b:(V0_)→OO):OO:=
 chk (decide ((a.length:Int)=(a.length:Int))&&decide (0≤(a.length:Int))&&decide ((a.length:Int)*((56:Nat):Int)≤140737488355328)) <|
 b (0,(List.replicate ((a.length:Int):Int).toNat ([.i 0,.i 0,.i 0,.i 0,.r []]:List T)))
def d8a (k:Nat) (a:LL):OO:=
 b9d k a (fun v=>a1l (b5j k a) k v)
def f1b (k:Nat) (a:LL) (js:List Nat) (j:Nat) (s:St):OO:=a3g E (LB E (a0a E P0 k) k [] N.j8o [.sr,.sr,.sl,.sr,.bl]) [] f6e (LK E (a0a E P0 k) k [] N.j8o [.v [.r a]] [.sr,.sr,.sl,.sr,.bl] js) j s
theorem g2v (k:Nat) (a:LL):a0a E P0 (k+1) N.j8o [.v [.r a]]=d8a k a:=
 Eq.trans (b:=b9d k a (fun v=>f1b k a [] k (d3m a v))) (by kernel_rfl) (congrArg (b9d k a) (funext fun v=>a0j (d3m a) (b5j k a) (fun j v=>by kernel_rfl) k v))
def e4n (k:Nat) (b c d e:Int) (f:LL) (g:Int) (h:LL) (l:Int):OO:=
 a0c (a0a E P0 k N.j8n [.v [.i b,.i c,.i d,.i e,.r f]]) fun a=>
 a0c (a0a E P0 k N.j6l [.v [.r h]]) fun m=>
 some ⟨[.i (a.t 0).asI,.i (a.t 1).asI,.i (a.t 2).asI,.i (a.t 3).asI,.r (a.t 4).asR,.i g,.r (m.t 0).asR,.i l],[]⟩
theorem g8g (k:Nat) (a b c d:Int) (e:LL) (f:Int) (g:LL) (h:Int):a0a E P0 (k+1) N.k2x [.v [.i a,.i b,.i c,.i d,.r e,.i f,.r g,.i h]]=e4n k a b c d e f g h:=by kernel_rfl
def c4d (k:Nat) (b:LL) (e:(V0_)→OO):(V0_)→OO:=fun (a,d)=>
 bif (decide (a<(b.length:Int))) then
  chk (decide (0≤a)&&decide (a<(b.length:Int))) <|
  a0c (a0a E P0 k N.k2x [.v [.i (at_ b a.toNat 0).asI,.i (at_ b a.toNat 1).asI,.i (at_ b a.toNat 2).asI,.i (at_ b a.toNat 3).asI,.r (at_ b a.toNat 4).asR,.i (at_ b a.toNat 5).asI,.r (at_ b a.toNat 6).asR,.i (at_ b a.toNat 7).asI]]) fun c=>
  chk (decide (0≤a)&&decide (a<(d.length:Int))) <|
  e ((W64 (a+1)),(a0z d a.toNat 0 [.i (c.t 0).asI,.i (c.t 1).asI,.i (c.t 2).asI,.i (c.t 3).asI,.r (c.t 4).asR,.i (c.t 5).asI,.r (c.t 6).asR,.i (c.t 7).asI]))
 else
  some ⟨[.r d],[]⟩
def f6f:List Nat:=[0,2,3,4,22]
def d3n (a:LL):(V0_)→St:=fun (b,c)=>⟨a2y [(0,.sl 96 a),(2,.ref (2,0)),(3,.ref (3,0)),(4,.i .i64 b),(22,.skip)],Mem.put (a0y [((2,0),.deep 72 [] none),((3,0),.deep 72 c none)]) a2h .dead⟩
def b5k (k:Nat) (a:LL) (b:(V0_)→OO):(V0_)→OO:=
 c4d k a b
def b9e (k:Nat) (a:LL) (b:(V0_)→OO):OO:=
 chk (decide ((a.length:Int)=(a.length:Int))&&decide (0≤(a.length:Int))&&decide ((a.length:Int)*((96:Nat):Int)≤140737488355328)) <|
 b (0,(List.replicate ((a.length:Int):Int).toNat ([.i 0,.i 0,.i 0,.i 0,.r [],.i 0,.r [],.i 0]:List T)))
def d8b (k:Nat) (a:LL):OO:=
 b9e k a (fun v=>a1l (b5k k a) k v)
def f1c (k:Nat) (a:LL) (js:List Nat) (j:Nat) (s:St):OO:=a3g E (LB E (a0a E P0 k) k [] N.j8p [.sr,.sr,.sl,.sr,.bl]) [] f6f (LK E (a0a E P0 k) k [] N.j8p [.v [.r a]] [.sr,.sr,.sl,.sr,.bl] js) j s
theorem g2w (k:Nat) (a:LL):a0a E P0 (k+1) N.j8p [.v [.r a]]=d8b k a:=
 Eq.trans (b:=b9e k a (fun v=>f1c k a [] k (d3n a v))) (by kernel_rfl) (congrArg (b9e k a) (funext fun v=>a0j (d3n a) (b5k k a) (fun j v=>by kernel_rfl) k v))
def e4o (k:Nat) (a b:Int) (c:LL):OO:=
 a0c (a0a E P0 k N.j6l [.v [.r c]]) fun d=>
 some ⟨[.i a,.i b,.r (d.t 0).asR],[]⟩
theorem g8h (k:Nat) (a b:Int) (c:LL):a0a E P0 (k+1) N.k1c [.v [.i a,.i b,.r c]]=e4o k a b c:=by kernel_rfl
def c4e (k:Nat) (b:LL) (e:(V0_)→OO):(V0_)→OO:=fun (a,c)=>
 bif (decide (a<(b.length:Int))) then
  chk (decide (0≤a)&&decide (a<(b.length:Int))) <|
  a0c (a0a E P0 k N.k1c [.v [.i (at_ b a.toNat 0).asI,.i (at_ b a.toNat 1).asI,.r (at_ b a.toNat 2).asR]]) fun d=>
  chk (decide (0≤a)&&decide (a<(c.length:Int))) <|
  e ((W64 (a+1)),(a0z c a.toNat 0 [.i (d.t 0).asI,.i (d.t 1).asI,.r (d.t 2).asR]))
 else
  some ⟨[.r c],[]⟩
def f6g:List Nat:=[0,2,3,4,22]
def d3o (a:LL):(V0_)→St:=fun (b,c)=>⟨a2y [(0,.sl 98 a),(2,.ref (2,0)),(3,.ref (3,0)),(4,.i .i64 b),(22,.skip)],Mem.put (a0y [((2,0),.deep 76 [] none),((3,0),.deep 76 c none)]) a2h .dead⟩
def b5l (k:Nat) (a:LL) (b:(V0_)→OO):(V0_)→OO:=
 c4e k a b
def b9f (k:Nat) (a:LL) (b:(V0_)→OO):OO:=
 chk (decide ((a.length:Int)=(a.length:Int))&&decide (0≤(a.length:Int))&&decide ((a.length:Int)*((40:Nat):Int)≤140737488355328)) <|
 b (0,(List.replicate ((a.length:Int):Int).toNat ([.i 0,.i 0,.r []]:List T)))
def d8c (k:Nat) (a:LL):OO:=
 b9f k a (fun v=>a1l (b5l k a) k v)
def f1d (k:Nat) (a:LL) (js:List Nat) (j:Nat) (s:St):OO:=a3g E (LB E (a0a E P0 k) k [] N.j8q [.sr,.sr,.sl,.sr,.bl]) [] f6g (LK E (a0a E P0 k) k [] N.j8q [.v [.r a]] [.sr,.sr,.sl,.sr,.bl] js) j s
theorem g2x (k:Nat) (a:LL):a0a E P0 (k+1) N.j8q [.v [.r a]]=d8c k a:=
 Eq.trans (b:=b9f k a (fun v=>f1d k a [] k (d3o a v))) (by kernel_rfl) (congrArg (b9f k a) (funext fun v=>a0j (d3o a) (b5l k a) (fun j v=>by kernel_rfl) k v))
def d8d (k:Nat) (c d e f:Int) (g:LL) (h l:Int) (m:LL):OO:=
 a0c (a0a E P0 k N.j8n [.v [.i c,.i d,.i e,.i f,.r g]]) fun a=>
 a0c (a0a E P0 k N.k1c [.v [.i h,.i l,.r m]]) fun b=>
 some ⟨[.i (a.t 0).asI,.i (a.t 1).asI,.i (a.t 2).asI,.i (a.t 3).asI,.r (a.t 4).asR,.i (b.t 0).asI,.i (b.t 1).asI,.r (b.t 2).asR],[]⟩
theorem g2y (k:Nat) (a b c d:Int) (e:LL) (f g:Int) (h:LL):a0a E P0 (k+1) N.k2y [.v [.i a,.i b,.i c,.i d,.r e,.i f,.i g,.r h]]=d8d k a b c d e f g h:=by kernel_rfl
def c1h (k:Nat) (b:LL) (e:(V0_)→OO):(V0_)→OO:=fun (a,d)=>
 bif (decide (a<(b.length:Int))) then
  chk (decide (0≤a)&&decide (a<(b.length:Int))) <|
  a0c (a0a E P0 k N.k2y [.v [.i (at_ b a.toNat 0).asI,.i (at_ b a.toNat 1).asI,.i (at_ b a.toNat 2).asI,.i (at_ b a.toNat 3).asI,.r (at_ b a.toNat 4).asR,.i (at_ b a.toNat 5).asI,.i (at_ b a.toNat 6).asI,.r (at_ b a.toNat 7).asR]]) fun c=>
  chk (decide (0≤a)&&decide (a<(d.length:Int))) <|
  e ((W64 (a+1)),(a0z d a.toNat 0 [.i (c.t 0).asI,.i (c.t 1).asI,.i (c.t 2).asI,.i (c.t 3).asI,.r (c.t 4).asR,.i (c.t 5).asI,.i (c.t 6).asI,.r (c.t 7).asR]))
 else
  some ⟨[.r d],[]⟩
def f1e:List Nat:=[0,2,3,4,22]
def c9n (a:LL):(V0_)→St:=fun (b,c)=>⟨a2y [(0,.sl 101 a),(2,.ref (2,0)),(3,.ref (3,0)),(4,.i .i64 b),(22,.skip)],Mem.put (a0y [((2,0),.deep 106 [] none),((3,0),.deep 106 c none)]) a2h .dead⟩
def b1o (k:Nat) (a:LL) (b:(V0_)→OO):(V0_)→OO:=
 c1h k a b
def b5m (k:Nat) (a:LL) (b:(V0_)→OO):OO:=
 chk (decide ((a.length:Int)=(a.length:Int))&&decide (0≤(a.length:Int))&&decide ((a.length:Int)*((96:Nat):Int)≤140737488355328)) <|
 b (0,(List.replicate ((a.length:Int):Int).toNat ([.i 0,.i 0,.i 0,.i 0,.r [],.i 0,.i 0,.r []]:List T)))
def d3p (k:Nat) (a:LL):OO:=
 b5m k a (fun v=>a1l (b1o k a) k v)
def e6j (k:Nat) (a:LL) (js:List Nat) (j:Nat) (s:St):OO:=a3g E (LB E (a0a E P0 k) k [] N.j8r [.sr,.sr,.sl,.sr,.bl]) [] f1e (LK E (a0a E P0 k) k [] N.j8r [.v [.r a]] [.sr,.sr,.sl,.sr,.bl] js) j s
theorem f6h (k:Nat) (a:LL):a0a E P0 (k+1) N.j8r [.v [.r a]]=d3p k a:=
 Eq.trans (b:=b5m k a (fun v=>e6j k a [] k (c9n a v))) (by kernel_rfl) (congrArg (b5m k a) (funext fun v=>a0j (c9n a) (b1o k a) (fun j v=>by kernel_rfl) k v))
def e4p (k:Nat) (c d e:Int) (f:LL) (g h l m n:Int) (o:LL) (p:Int) (q u:Bool) (w x y z:LL):OO:=
 a0c (a0a E P0 k N.k2w [.v [.i c,.i d,.i e,.r f,.i g,.i h,.i l,.i m,.i n,.r o,.i p,.b q,.b u]]) fun a=>
 a0c (a0a E P0 k N.j8o [.v [.r w]]) fun A=>
 a0c (a0a E P0 k N.j8p [.v [.r x]]) fun B=>
 a0c (a0a E P0 k N.j8q [.v [.r y]]) fun C=>
 a0c (a0a E P0 k N.j8r [.v [.r z]]) fun D=>
 some ⟨[.i (a.t 0).asI,.i (a.t 1).asI,.i (a.t 2).asI,.r (a.t 3).asR,.i (a.t 4).asI,.i (a.t 5).asI,.i (a.t 6).asI,.i (a.t 7).asI,.i (a.t 8).asI,.r (a.t 9).asR,.i (a.t 10).asI,.b (a.t 11).asB,.b (a.t 12).asB,.r (A.t 0).asR,.r (B.t 0).asR,.r (C.t 0).asR,.r (D.t 0).asR],[]⟩
theorem g8i (k:Nat) (a c d:Int) (e:LL) (f g h l m:Int) (n:LL) (o:Int) (p q:Bool) (t u w x:LL):a0a E P0 (k+1) N.j7i [.v [.i a,.i c,.i d,.r e,.i f,.i g,.i h,.i l,.i m,.r n,.i o,.b p,.b q,.r t,.r u,.r w,.r x]]=e4p k a c d e f g h l m n o p q t u w x:=by kernel_rfl
def b5n (k:Nat) (l c:LL) (e:Bool) (m f g:LL) (h:(V0_)→OO):(V0_)→OO:=fun (a,d)=>
 bif (decide (a<(c.length:Int))) then
  chk (decide (0≤a)&&decide (a<(c.length:Int))) <|
  chk (decide (0≤a)&&decide (a<(c.length:Int))) <|
  chk (decide ((([]:LL).length+(at_ c a.toNat 1).asR.length)*8≤140737488355328)) <|
  chk (decide ((d.length+([[.i (at_ c a.toNat 0).asI,.r (([]:LL)++(at_ c a.toNat 1).asR)]]:LL).length)*32≤140737488355328)) <|
  h ((W64 (a+1)),(d++([[.i (at_ c a.toNat 0).asI,.r (([]:LL)++(at_ c a.toNat 1).asR)]]:LL)))
 else
  some ⟨[.r g,.r d,.b e,.r f],[]⟩
def f6i:List Nat:=[1,2,3,5,59]
def a8x (c d:LL) (a:Bool) (e f g:LL):(V0_)→St:=fun (h,l)=>⟨a2y [(1,.ptr (1,0) 0),(2,.ptr (2,0) 0),(3,.ptr (3,0) 0),(5,.i .i64 h),(59,.skip)],a0y [((1,0),.var [.sl 68 c,.sl 176 d,.b a,.sl 3 e]),((2,0),.var [.ref (2,1),.ref (2,2),.b false,.ref (2,4)]),((2,1),.row 68 true []),((2,2),.row 176 true []),((2,4),.row 3 true []),((3,0),.var [.ref (3,1),.ref (3,2),.b a,.ref (3,4)]),((3,1),.row 68 true g),((3,2),.row 176 true l),((3,4),.row 3 true f)]⟩
def b5o (k:Nat) (b g:LL) (h:Bool) (i d:LL) (e:LL→LL→(V0_)→OO) (f:(V0_)→OO):(V0_)→OO:=fun (a,c)=>
 bif (decide (a<(b.length:Int))) then
  chk (decide (0≤a)&&decide (a<(b.length:Int))) <|
  chk (decide ((([]:LL).length+(at_ b a.toNat 0).asR.length)*8≤140737488355328)) <|
  chk (decide ((c.length+([[.r (([]:LL)++(at_ b a.toNat 0).asR)]]:LL).length)*24≤140737488355328)) <|
  f ((W64 (a+1)),(c++([[.r (([]:LL)++(at_ b a.toNat 0).asR)]]:LL)))
 else
  e d c (0,[])
def f6j:List Nat:=[1,2,3,4,5,32,33,34,35,36,37,38,39,40,41,42,43,44,45,46,47,48,49,50,51,52,53,54,55,56,57,58,59]
def a8y (c d:LL) (a:Bool) (e f:LL):(V0_)→St:=fun (g,h)=>⟨a2y [(1,.ptr (1,0) 0),(2,.ptr (2,0) 0),(3,.ptr (3,0) 0),(4,.i .i64 g),(5,.skip),(32,.skip),(33,.skip),(34,.skip),(35,.skip),(36,.skip),(37,.skip),(38,.skip),(39,.skip),(40,.skip),(41,.skip),(42,.skip),(43,.skip),(44,.skip),(45,.skip),(46,.skip),(47,.skip),(48,.skip),(49,.skip),(50,.skip),(51,.skip),(52,.skip),(53,.skip),(54,.skip),(55,.skip),(56,.skip),(57,.skip),(58,.skip),(59,.skip)],a0y [((1,0),.var [.sl 68 c,.sl 176 d,.b a,.sl 3 e]),((2,0),.var [.ref (2,1),.ref (2,2),.b false,.ref (2,4)]),((2,1),.row 68 true []),((2,2),.row 176 true []),((2,4),.row 3 true []),((3,0),.var [.ref (3,1),.ref (3,2),.b a,.ref (3,4)]),((3,1),.row 68 true h),((3,2),.row 176 true []),((3,4),.row 3 true f)]⟩
def a6k (k:Nat) (a b:LL) (c:Bool) (d e f:LL) (g:(V0_)→OO):(V0_)→OO:=
 b5n k a b c d e f g
def a6l (k:Nat) (a b:LL) (c:Bool) (d e:LL) (f:(V0_)→OO):(V0_)→OO:=
 b5o k a b c d e (fun g h v=>a1l (a6k k a b c d g h) k v) f
def c6m (k:Nat) (c d:LL) (e:Bool) (a:LL) (b:LL→(V0_)→OO):OO:=
 chk (decide ((([]:LL).length+a.length)*8≤140737488355328)) <|
 b (([]:LL)++a) (0,[])
def c6n (k:Nat) (a b:LL) (c:Bool) (d:LL):OO:=
 c6m k a b c d (fun e v=>a1l (a6l k a b c d e) k v)
def b1p (k:Nat) (a c:LL) (d:Bool) (e:LL) (js:List Nat) (j:Nat) (s:St):OO:=a3g E (LB E (a0a E P0 k) k [] N.j6r [.sr,.sr,.sl,.sr,.bl]) [] f6j (LK E (a0a E P0 k) k [] N.j6r [.v [.r a,.r c,.b d,.r e]] [.sr,.sr,.sl,.sr,.bl] js) j s
def b1q (k:Nat) (a c:LL) (d:Bool) (e:LL) (js:List Nat) (j:Nat) (s:St):OO:=a3g E (LB E (a0a E P0 k) k [] N.j6r [.sr,.sr,.sr,.sl,.sr,.bl]) [] f6i (LK E (a0a E P0 k) k [] N.j6r [.v [.r a,.r c,.b d,.r e]] [.sr,.sr,.sr,.sl,.sr,.bl] js) j s
theorem g2z (k:Nat) (a c:LL) (d:Bool) (e:LL):a0a E P0 (k+1) N.j6r [.v [.r a,.r c,.b d,.r e]]=c6n k a c d e:=by
 have m:a0a E P0 (k+1) N.j6r [.v [.r a,.r c,.b d,.r e]]=c6m k a c d e (fun l v=>b1p k a c d e [] k (a8y a c d e l v)):=by kernel_rfl
 have n:∀ (f g:LL) (h:Nat) (v:V0_),b1q k a c d e [] (h+1) (a8x a c d e f g v)=b5n k a c d e f g (fun v=>b1q k a c d e [] h (a8x a c d e f g v)) v:=by
  intro f g h v;kernel_rfl
 have o:∀ (f g:LL) (h:Nat) (v:V0_),b1q k a c d e [] h (a8x a c d e f g v)=a1l (a6k k a c d e f g) h v:=by
  intro f g h v
  refine a0j (a8x a c d e f g) (a6k k a c d e f g) (fun h v=>(n f g h v).trans ?_) h v
  unfold a6k
  rfl
 have p:∀ (f:LL) (i:Nat) (v:V0_),b1p k a c d e [] (i+1) (a8y a c d e f v)=b5o k a c d e f (fun l q v=>b1q k a c d e [] k (a8x a c d e l q v)) (fun v=>b1p k a c d e [] i (a8y a c d e f v)) v:=by
  intro f i v;kernel_rfl
 have t:∀ (f:LL) (i:Nat) (v:V0_),b1p k a c d e [] i (a8y a c d e f v)=a1l (a6l k a c d e f) i v:=by
  intro f i v
  refine a0j (a8y a c d e f) (a6l k a c d e f) (fun i v=>(p f i v).trans ?_) i v
  unfold a6l
  simp only [o] <;> rfl
 rw [m];unfold c6n
 simp only [t]
def b5p (k:Nat) (e f g:Int) (x:LL) (h l m n o:Int) (c:LL) (p:Int) (q t:Bool) (u:LL) (w:(V0_)→OO):(V0_)→OO:=fun (a,d)=>
 bif (decide (a<(c.length:Int))) then
  chk (decide (0≤a)&&decide (a<(c.length:Int))) <|
  chk (decide (0≤a)&&decide (a<(c.length:Int))) <|
  chk (decide ((([]:LL).length+(at_ c a.toNat 1).asR.length)*8≤140737488355328)) <|
  chk (decide ((d.length+([[.i (at_ c a.toNat 0).asI,.r (([]:LL)++(at_ c a.toNat 1).asR)]]:LL).length)*32≤140737488355328)) <|
  w ((W64 (a+1)),(d++([[.i (at_ c a.toNat 0).asI,.r (([]:LL)++(at_ c a.toNat 1).asR)]]:LL)))
 else
  some ⟨[.i e,.i f,.i g,.r u,.i h,.i l,.i m,.i n,.i o,.r d,.i p,.b q,.b t],[]⟩
def f6k:List Nat:=[1,2,3,5,56]
def a8z (a c d:Int) (p:LL) (e f g h l:Int) (q:LL) (m:Int) (n o:Bool) (r:LL):(V0_)→St:=fun (t,u)=>⟨a2y [(1,.ptr (1,0) 0),(2,.ptr (2,0) 0),(3,.ptr (3,0) 0),(5,.i .i64 t),(56,.skip)],a0y [((1,0),.var [.i .i64 a,.i .i64 c,.i .i64 d,.sl 147 p,.i .i64 e,.i .i64 f,.i .i64 g,.i .i64 h,.i .i64 l,.sl 149 q,.i .i64 m,.b n,.b o]),((2,0),.var [.i .i64 0,.i .i64 0,.i .i64 0,.ref (2,4),.i .i64 0,.i .i64 0,.i .i64 0,.i .i64 0,.i .i64 0,.ref (2,10),.i .i64 0,.b false,.b false]),((2,4),.row 147 true []),((2,10),.row 149 true []),((3,0),.var [.i .i64 a,.i .i64 c,.i .i64 d,.ref (3,4),.i .i64 e,.i .i64 f,.i .i64 g,.i .i64 h,.i .i64 l,.ref (3,10),.i .i64 m,.b n,.b o]),((3,4),.row 147 true r),((3,10),.row 149 true u)]⟩
def b5q (k:Nat) (h i l:Int) (d:LL) (m n o p q:Int) (u:LL) (w:Int) (x y:Bool) (f:LL→(V0_)→OO) (g:(V0_)→OO):(V0_)→OO:=fun (a,e)=>
 bif (decide (a<(d.length:Int))) then
  chk (decide (0≤a)&&decide (a<(d.length:Int))) <|
  a0c (a0a E P0 k N.j6r [.v [.r (at_ d a.toNat 0).asR,.r (at_ d a.toNat 1).asR,.b (at_ d a.toNat 2).asB,.r (at_ d a.toNat 3).asR]]) fun c=>
  chk (decide ((e.length+([[.r (c.t 0).asR,.r (c.t 1).asR,.b (c.t 2).asB,.r (c.t 3).asR]]:LL).length)*80≤140737488355328)) <|
  g ((W64 (a+1)),(e++([[.r (c.t 0).asR,.r (c.t 1).asR,.b (c.t 2).asB,.r (c.t 3).asR]]:LL)))
 else
  f e (0,[])
def f6l:List Nat:=[1,2,3,4,5,27,28,29,30,31,32,33,34,35,36,37,38,39,40,41,42,43,44,45,46,47,48,49,50,51,52,53,54,55,56]
def a9a (a c d:Int) (q:LL) (e f g h l:Int) (m:LL) (n:Int) (o p:Bool):(V0_)→St:=fun (r,t)=>⟨a2y [(1,.ptr (1,0) 0),(2,.ptr (2,0) 0),(3,.ptr (3,0) 0),(4,.i .i64 r),(5,.skip),(27,.skip),(28,.skip),(29,.skip),(30,.skip),(31,.skip),(32,.skip),(33,.skip),(34,.skip),(35,.skip),(36,.skip),(37,.skip),(38,.skip),(39,.skip),(40,.skip),(41,.skip),(42,.skip),(43,.skip),(44,.skip),(45,.skip),(46,.skip),(47,.skip),(48,.skip),(49,.skip),(50,.skip),(51,.skip),(52,.skip),(53,.skip),(54,.skip),(55,.skip),(56,.skip)],a0y [((1,0),.var [.i .i64 a,.i .i64 c,.i .i64 d,.sl 147 q,.i .i64 e,.i .i64 f,.i .i64 g,.i .i64 h,.i .i64 l,.sl 149 m,.i .i64 n,.b o,.b p]),((2,0),.var [.i .i64 0,.i .i64 0,.i .i64 0,.ref (2,4),.i .i64 0,.i .i64 0,.i .i64 0,.i .i64 0,.i .i64 0,.ref (2,10),.i .i64 0,.b false,.b false]),((2,4),.row 147 true []),((2,10),.row 149 true []),((3,0),.var [.i .i64 a,.i .i64 c,.i .i64 d,.ref (3,4),.i .i64 e,.i .i64 f,.i .i64 g,.i .i64 h,.i .i64 l,.sl 149 m,.i .i64 n,.b o,.b p]),((3,4),.row 147 true t)]⟩
def a6m (k:Nat) (a b c:Int) (d:LL) (e f g h i:Int) (l:LL) (m:Int) (n o:Bool) (p:LL) (q:(V0_)→OO):(V0_)→OO:=
 b5p k a b c d e f g h i l m n o p q
def a6n (k:Nat) (a b c:Int) (d:LL) (e f g h i:Int) (l:LL) (m:Int) (n o:Bool) (p:(V0_)→OO):(V0_)→OO:=
 b5q k a b c d e f g h i l m n o (fun q v=>a1l (a6m k a b c d e f g h i l m n o q) k v) p
def c6o (k:Nat) (b c d:Int) (e:LL) (f g h i l:Int) (m:LL) (n:Int) (o p:Bool) (a:(V0_)→OO):OO:=
 a (0,[])
def c6p (k:Nat) (a b c:Int) (d:LL) (e f g h i:Int) (l:LL) (m:Int) (n o:Bool):OO:=
 c6o k a b c d e f g h i l m n o (fun v=>a1l (a6n k a b c d e f g h i l m n o) k v)
def b1r (k:Nat) (a c d:Int) (e:LL) (f g h l m:Int) (n:LL) (o:Int) (p q:Bool) (js:List Nat) (j:Nat) (s:St):OO:=a3g E (LB E (a0a E P0 k) k [] N.j6s [.sr,.sr,.sr,.sl,.sr,.bl]) [] f6l (LK E (a0a E P0 k) k [] N.j6s [.v [.i a,.i c,.i d,.r e,.i f,.i g,.i h,.i l,.i m,.r n,.i o,.b p,.b q]] [.sr,.sr,.sr,.sl,.sr,.bl] js) j s
def b1s (k:Nat) (a c d:Int) (e:LL) (f g h l m:Int) (n:LL) (o:Int) (p q:Bool) (js:List Nat) (j:Nat) (s:St):OO:=a3g E (LB E (a0a E P0 k) k [] N.j6s [.sr,.sr,.sr,.sr,.sr,.sl,.sr,.bl]) [] f6k (LK E (a0a E P0 k) k [] N.j6s [.v [.i a,.i c,.i d,.r e,.i f,.i g,.i h,.i l,.i m,.r n,.i o,.b p,.b q]] [.sr,.sr,.sr,.sr,.sr,.sl,.sr,.bl] js) j s
theorem g3a (k:Nat) (a c d:Int) (e:LL) (f g h l m:Int) (n:LL) (o:Int) (p q:Bool):a0a E P0 (k+1) N.j6s [.v [.i a,.i c,.i d,.r e,.i f,.i g,.i h,.i l,.i m,.r n,.i o,.b p,.b q]]=c6p k a c d e f g h l m n o p q:=by
 have x:a0a E P0 (k+1) N.j6s [.v [.i a,.i c,.i d,.r e,.i f,.i g,.i h,.i l,.i m,.r n,.i o,.b p,.b q]]=c6o k a c d e f g h l m n o p q (fun v=>b1r k a c d e f g h l m n o p q [] k (a9a a c d e f g h l m n o p q v)):=by kernel_rfl
 have y:∀ (t:LL) (u:Nat) (v:V0_),b1s k a c d e f g h l m n o p q [] (u+1) (a8z a c d e f g h l m n o p q t v)=b5p k a c d e f g h l m n o p q t (fun v=>b1s k a c d e f g h l m n o p q [] u (a8z a c d e f g h l m n o p q t v)) v:=by
  intro t u v;kernel_rfl
 have z:∀ (t:LL) (u:Nat) (v:V0_),b1s k a c d e f g h l m n o p q [] u (a8z a c d e f g h l m n o p q t v)=a1l (a6m k a c d e f g h l m n o p q t) u v:=by
  intro t u v
  refine a0j (a8z a c d e f g h l m n o p q t) (a6m k a c d e f g h l m n o p q t) (fun u v=>(y t u v).trans ?_) u v
  unfold a6m
  rfl
 have A:∀ (w:Nat) (v:V0_),b1r k a c d e f g h l m n o p q [] (w+1) (a9a a c d e f g h l m n o p q v)=b5q k a c d e f g h l m n o p q (fun B v=>b1s k a c d e f g h l m n o p q [] k (a8z a c d e f g h l m n o p q B v)) (fun v=>b1r k a c d e f g h l m n o p q [] w (a9a a c d e f g h l m n o p q v)) v:=by
  intro w v;kernel_rfl
 have C:∀ (w:Nat) (v:V0_),b1r k a c d e f g h l m n o p q [] w (a9a a c d e f g h l m n o p q v)=a1l (a6n k a c d e f g h l m n o p q) w v:=by
  intro w v
  refine a0j (a9a a c d e f g h l m n o p q) (a6n k a c d e f g h l m n o p q) (fun w v=>(A w v).trans ?_) w v
  unfold a6n
  simp only [z] <;> rfl
 rw [x];unfold c6p
 simp only [C]
def d3q (k:Nat) (b c d e:Int) (a:LL):OO:=
 chk (decide ((([]:LL).length+a.length)*8≤140737488355328)) <|
 some ⟨[.i b,.i c,.i d,.i e,.r (([]:LL)++a)],[]⟩
theorem f6m (k:Nat) (a b c d:Int) (e:LL):a0a E P0 (k+1) N.j8s [.v [.i a,.i b,.i c,.i d,.r e]]=d3q k a b c d e:=by kernel_rfl
def d8e (k:Nat) (b c:Int) (a:LL):OO:=
 chk (decide ((([]:LL).length+a.length)*8≤140737488355328)) <|
 some ⟨[.i b,.i c,.r (([]:LL)++a)],[]⟩
theorem g3b (k:Nat) (a b:Int) (c:LL):a0a E P0 (k+1) N.j6c [.v [.i a,.i b,.r c]]=d8e k a b c:=by kernel_rfl
def b1t (k:Nat) (o p q:Int) (u:LL) (w x y z A:Int) (B:LL) (C:Int) (D F:Bool) (G H J d:LL) (c:Outs) (h l m:LL) (n:(V0_)→OO):(V0_)→OO:=fun (a,g)=>
 bif (decide (a<(d.length:Int))) then
  chk (decide (0≤a)&&decide (a<(d.length:Int))) <|
  a0c (a0a E P0 k N.j8s [.v [.i (at_ d a.toNat 0).asI,.i (at_ d a.toNat 1).asI,.i (at_ d a.toNat 2).asI,.i (at_ d a.toNat 3).asI,.r (at_ d a.toNat 4).asR]]) fun e=>
  chk (decide (0≤a)&&decide (a<(d.length:Int))) <|
  a0c (a0a E P0 k N.j6c [.v [.i (at_ d a.toNat 5).asI,.i (at_ d a.toNat 6).asI,.r (at_ d a.toNat 7).asR]]) fun f=>
  chk (decide ((g.length+([[.i (e.t 0).asI,.i (e.t 1).asI,.i (e.t 2).asI,.i (e.t 3).asI,.r (e.t 4).asR,.i (f.t 0).asI,.i (f.t 1).asI,.r (f.t 2).asR]]:LL).length)*96≤140737488355328)) <|
  n ((W64 (a+1)),(g++([[.i (e.t 0).asI,.i (e.t 1).asI,.i (e.t 2).asI,.i (e.t 3).asI,.r (e.t 4).asR,.i (f.t 0).asI,.i (f.t 1).asI,.r (f.t 2).asR]]:LL)))
 else
  some ⟨[.i (c.t 0).asI,.i (c.t 1).asI,.i (c.t 2).asI,.r (c.t 3).asR,.i (c.t 4).asI,.i (c.t 5).asI,.i (c.t 6).asI,.i (c.t 7).asI,.i (c.t 8).asI,.r (c.t 9).asR,.i (c.t 10).asI,.b (c.t 11).asB,.b (c.t 12).asB,.r h,.r l,.r m,.r g],[]⟩
def f1f:List Nat:=[1,2,3,8,105]
def a7i (c d e:Int) (f:LL) (g h l m n:Int) (o:LL) (p:Int) (q r:Bool) (u w x y:LL) (a:Outs) (z A B:LL):(V0_)→St:=fun (C,D)=>⟨a2y [(1,.ptr (1,0) 0),(2,.ptr (2,0) 0),(3,.ptr (3,0) 0),(8,.i .i64 C),(105,.skip)],Mem.put (a0y [((1,0),.var [.i .i64 c,.i .i64 d,.i .i64 e,.sl 147 f,.i .i64 g,.i .i64 h,.i .i64 l,.i .i64 m,.i .i64 n,.sl 149 o,.i .i64 p,.b q,.b r,.sl 70 u,.sl 72 w,.sl 76 x,.sl 106 y]),((2,0),.var [.i .i64 0,.i .i64 0,.i .i64 0,.ref (2,4),.i .i64 0,.i .i64 0,.i .i64 0,.i .i64 0,.i .i64 0,.ref (2,10),.i .i64 0,.b false,.b false,.ref (2,14),.ref (2,15),.ref (2,16),.ref (2,17)]),((2,4),.deep 147 [] none),((2,10),.deep 149 [] none),((2,14),.deep 70 [] none),((2,15),.deep 72 [] none),((2,16),.deep 76 [] none),((2,17),.deep 106 [] none),((3,0),.var [.i .i64 (a.t 0).asI,.i .i64 (a.t 1).asI,.i .i64 (a.t 2).asI,.ref (3,4),.i .i64 (a.t 4).asI,.i .i64 (a.t 5).asI,.i .i64 (a.t 6).asI,.i .i64 (a.t 7).asI,.i .i64 (a.t 8).asI,.ref (3,10),.i .i64 (a.t 10).asI,.b (a.t 11).asB,.b (a.t 12).asB,.ref (3,14),.ref (3,15),.ref (3,16),.ref (3,17)]),((3,4),.row 147 true (a.t 3).asR),((3,10),.row 149 true (a.t 9).asR),((3,14),.deep 70 z none),((3,15),.deep 72 A none),((3,16),.deep 76 B none),((3,17),.deep 106 D none)]) a2h .dead⟩
def b1u (k:Nat) (m n o:Int) (p:LL) (q u w x y:Int) (z:LL) (A:Int) (B C:Bool) (D F c G:LL) (e:Outs) (f g:LL) (h:Outs→LL→LL→LL→(V0_)→OO) (l:(V0_)→OO):(V0_)→OO:=fun (a,d)=>
 bif (decide (a<(c.length:Int))) then
  chk (decide (0≤a)&&decide (a<(c.length:Int))) <|
  a0c (a0a E P0 k N.j6c [.v [.i (at_ c a.toNat 0).asI,.i (at_ c a.toNat 1).asI,.r (at_ c a.toNat 2).asR]]) fun b=>
  chk (decide ((d.length+([[.i (b.t 0).asI,.i (b.t 1).asI,.r (b.t 2).asR]]:LL).length)*40≤140737488355328)) <|
  l ((W64 (a+1)),(d++([[.i (b.t 0).asI,.i (b.t 1).asI,.r (b.t 2).asR]]:LL)))
 else
  h e f g d (0,[])
def f1g:List Nat:=[1,2,3,7,8,78,79,80,81,82,83,84,85,86,87,88,89,90,91,92,93,94,95,96,97,98,99,100,101,102,103,104,105]
def a7j (c d e:Int) (f:LL) (g h l m n:Int) (o:LL) (p:Int) (q r:Bool) (u w x y:LL) (a:Outs) (z A:LL):(V0_)→St:=fun (B,C)=>⟨a2y [(1,.ptr (1,0) 0),(2,.ptr (2,0) 0),(3,.ptr (3,0) 0),(7,.i .i64 B),(8,.skip),(78,.skip),(79,.skip),(80,.skip),(81,.skip),(82,.skip),(83,.skip),(84,.skip),(85,.skip),(86,.skip),(87,.skip),(88,.skip),(89,.skip),(90,.skip),(91,.skip),(92,.skip),(93,.skip),(94,.skip),(95,.skip),(96,.skip),(97,.skip),(98,.skip),(99,.skip),(100,.skip),(101,.skip),(102,.skip),(103,.skip),(104,.skip),(105,.skip)],Mem.put (a0y [((1,0),.var [.i .i64 c,.i .i64 d,.i .i64 e,.sl 147 f,.i .i64 g,.i .i64 h,.i .i64 l,.i .i64 m,.i .i64 n,.sl 149 o,.i .i64 p,.b q,.b r,.sl 70 u,.sl 72 w,.sl 76 x,.sl 106 y]),((2,0),.var [.i .i64 0,.i .i64 0,.i .i64 0,.ref (2,4),.i .i64 0,.i .i64 0,.i .i64 0,.i .i64 0,.i .i64 0,.ref (2,10),.i .i64 0,.b false,.b false,.ref (2,14),.ref (2,15),.ref (2,16),.ref (2,17)]),((2,4),.deep 147 [] none),((2,10),.deep 149 [] none),((2,14),.deep 70 [] none),((2,15),.deep 72 [] none),((2,16),.deep 76 [] none),((2,17),.deep 106 [] none),((3,0),.var [.i .i64 (a.t 0).asI,.i .i64 (a.t 1).asI,.i .i64 (a.t 2).asI,.ref (3,4),.i .i64 (a.t 4).asI,.i .i64 (a.t 5).asI,.i .i64 (a.t 6).asI,.i .i64 (a.t 7).asI,.i .i64 (a.t 8).asI,.ref (3,10),.i .i64 (a.t 10).asI,.b (a.t 11).asB,.b (a.t 12).asB,.ref (3,14),.ref (3,15),.ref (3,16),.ref (3,17)]),((3,4),.row 147 true (a.t 3).asR),((3,10),.row 149 true (a.t 9).asR),((3,14),.deep 70 z none),((3,15),.deep 72 A none),((3,16),.deep 76 C none),((3,17),.deep 106 [] none)]) a2h .dead⟩
def b1v (k:Nat) (l m n:Int) (o:LL) (p q u w x:Int) (y:LL) (z:Int) (A B:Bool) (C b D F:LL) (e:Outs) (f:LL) (g:Outs→LL→LL→(V0_)→OO) (h:(V0_)→OO):(V0_)→OO:=fun (a,d)=>
 bif (decide (a<(b.length:Int))) then
  chk (decide (0≤a)&&decide (a<(b.length:Int))) <|
  a0c (a0a E P0 k N.j8s [.v [.i (at_ b a.toNat 0).asI,.i (at_ b a.toNat 1).asI,.i (at_ b a.toNat 2).asI,.i (at_ b a.toNat 3).asI,.r (at_ b a.toNat 4).asR]]) fun c=>
  chk (decide ((([]:LL).length+(at_ b a.toNat 6).asR.length)*8≤140737488355328)) <|
  chk (decide ((d.length+([[.i (c.t 0).asI,.i (c.t 1).asI,.i (c.t 2).asI,.i (c.t 3).asI,.r (c.t 4).asR,.i (at_ b a.toNat 5).asI,.r (([]:LL)++(at_ b a.toNat 6).asR),.i (at_ b a.toNat 7).asI]]:LL).length)*96≤140737488355328)) <|
  h ((W64 (a+1)),(d++([[.i (c.t 0).asI,.i (c.t 1).asI,.i (c.t 2).asI,.i (c.t 3).asI,.r (c.t 4).asR,.i (at_ b a.toNat 5).asI,.r (([]:LL)++(at_ b a.toNat 6).asR),.i (at_ b a.toNat 7).asI]]:LL)))
 else
  g e f d (0,[])
def f1h:List Nat:=[1,2,3,5,7,8,60,61,62,63,64,65,66,67,68,69,70,71,72,73,74,75,76,77,78,79,80,81,82,83,84,85,86,87,88,89,90,91,92,93,94,95,96,97,98,99,100,101,102,103,104,105]
def a7k (c d e:Int) (f:LL) (g h l m n:Int) (o:LL) (p:Int) (q r:Bool) (u w x y:LL) (a:Outs) (z:LL):(V0_)→St:=fun (A,B)=>⟨a2y [(1,.ptr (1,0) 0),(2,.ptr (2,0) 0),(3,.ptr (3,0) 0),(5,.i .i64 A),(7,.skip),(8,.skip),(60,.skip),(61,.skip),(62,.skip),(63,.skip),(64,.skip),(65,.skip),(66,.skip),(67,.skip),(68,.skip),(69,.skip),(70,.skip),(71,.skip),(72,.skip),(73,.skip),(74,.skip),(75,.skip),(76,.skip),(77,.skip),(78,.skip),(79,.skip),(80,.skip),(81,.skip),(82,.skip),(83,.skip),(84,.skip),(85,.skip),(86,.skip),(87,.skip),(88,.skip),(89,.skip),(90,.skip),(91,.skip),(92,.skip),(93,.skip),(94,.skip),(95,.skip),(96,.skip),(97,.skip),(98,.skip),(99,.skip),(100,.skip),(101,.skip),(102,.skip),(103,.skip),(104,.skip),(105,.skip)],Mem.put (a0y [((1,0),.var [.i .i64 c,.i .i64 d,.i .i64 e,.sl 147 f,.i .i64 g,.i .i64 h,.i .i64 l,.i .i64 m,.i .i64 n,.sl 149 o,.i .i64 p,.b q,.b r,.sl 70 u,.sl 72 w,.sl 76 x,.sl 106 y]),((2,0),.var [.i .i64 0,.i .i64 0,.i .i64 0,.ref (2,4),.i .i64 0,.i .i64 0,.i .i64 0,.i .i64 0,.i .i64 0,.ref (2,10),.i .i64 0,.b false,.b false,.ref (2,14),.ref (2,15),.ref (2,16),.ref (2,17)]),((2,4),.deep 147 [] none),((2,10),.deep 149 [] none),((2,14),.deep 70 [] none),((2,15),.deep 72 [] none),((2,16),.deep 76 [] none),((2,17),.deep 106 [] none),((3,0),.var [.i .i64 (a.t 0).asI,.i .i64 (a.t 1).asI,.i .i64 (a.t 2).asI,.ref (3,4),.i .i64 (a.t 4).asI,.i .i64 (a.t 5).asI,.i .i64 (a.t 6).asI,.i .i64 (a.t 7).asI,.i .i64 (a.t 8).asI,.ref (3,10),.i .i64 (a.t 10).asI,.b (a.t 11).asB,.b (a.t 12).asB,.ref (3,14),.ref (3,15),.ref (3,16),.ref (3,17)]),((3,4),.row 147 true (a.t 3).asR),((3,10),.row 149 true (a.t 9).asR),((3,14),.deep 70 z none),((3,15),.deep 72 B none),((3,16),.deep 76 [] none),((3,17),.deep 106 [] none)]) a2h .dead⟩
def b1w (k:Nat) (h l m:Int) (n:LL) (o p q u w:Int) (x:LL) (y:Int) (z A:Bool) (c B C D:LL) (e:Outs) (f:Outs→LL→(V0_)→OO) (g:(V0_)→OO):(V0_)→OO:=fun (b,d)=>
 bif (decide (b<(c.length:Int))) then
  chk (decide (0≤b)&&decide (b<(c.length:Int))) <|
  a0c (a0a E P0 k N.j8s [.v [.i (at_ c b.toNat 0).asI,.i (at_ c b.toNat 1).asI,.i (at_ c b.toNat 2).asI,.i (at_ c b.toNat 3).asI,.r (at_ c b.toNat 4).asR]]) fun a=>
  chk (decide ((d.length+([[.i (a.t 0).asI,.i (a.t 1).asI,.i (a.t 2).asI,.i (a.t 3).asI,.r (a.t 4).asR]]:LL).length)*56≤140737488355328)) <|
  g ((W64 (b+1)),(d++([[.i (a.t 0).asI,.i (a.t 1).asI,.i (a.t 2).asI,.i (a.t 3).asI,.r (a.t 4).asR]]:LL)))
 else
  f e d (0,[])
def f1i:List Nat:=[1,2,3,4,5,6,7,8,31,32,33,34,35,36,37,38,39,40,41,42,43,44,45,46,47,48,49,50,51,52,53,54,55,56,57,58,59,60,61,62,63,64,65,66,67,68,69,70,71,72,73,74,75,76,77,78,79,80,81,82,83,84,85,86,87,88,89,90,91,92,93,94,95,96,97,98,99,100,101,102,103,104,105]
def a7l (c d e:Int) (f:LL) (g h l m n:Int) (o:LL) (p:Int) (q r:Bool) (u w x y:LL) (a:Outs):(V0_)→St:=fun (z,A)=>⟨a2y [(1,.ptr (1,0) 0),(2,.ptr (2,0) 0),(3,.ptr (3,0) 0),(4,.i .i64 z),(5,.skip),(6,.skip),(7,.skip),(8,.skip),(31,.skip),(32,.skip),(33,.skip),(34,.skip),(35,.skip),(36,.skip),(37,.skip),(38,.skip),(39,.skip),(40,.skip),(41,.skip),(42,.skip),(43,.skip),(44,.skip),(45,.skip),(46,.skip),(47,.skip),(48,.skip),(49,.skip),(50,.skip),(51,.skip),(52,.skip),(53,.skip),(54,.skip),(55,.skip),(56,.skip),(57,.skip),(58,.skip),(59,.skip),(60,.skip),(61,.skip),(62,.skip),(63,.skip),(64,.skip),(65,.skip),(66,.skip),(67,.skip),(68,.skip),(69,.skip),(70,.skip),(71,.skip),(72,.skip),(73,.skip),(74,.skip),(75,.skip),(76,.skip),(77,.skip),(78,.skip),(79,.skip),(80,.skip),(81,.skip),(82,.skip),(83,.skip),(84,.skip),(85,.skip),(86,.skip),(87,.skip),(88,.skip),(89,.skip),(90,.skip),(91,.skip),(92,.skip),(93,.skip),(94,.skip),(95,.skip),(96,.skip),(97,.skip),(98,.skip),(99,.skip),(100,.skip),(101,.skip),(102,.skip),(103,.skip),(104,.skip),(105,.skip)],Mem.put (a0y [((1,0),.var [.i .i64 c,.i .i64 d,.i .i64 e,.sl 147 f,.i .i64 g,.i .i64 h,.i .i64 l,.i .i64 m,.i .i64 n,.sl 149 o,.i .i64 p,.b q,.b r,.sl 70 u,.sl 72 w,.sl 76 x,.sl 106 y]),((2,0),.var [.i .i64 0,.i .i64 0,.i .i64 0,.ref (2,4),.i .i64 0,.i .i64 0,.i .i64 0,.i .i64 0,.i .i64 0,.ref (2,10),.i .i64 0,.b false,.b false,.ref (2,14),.ref (2,15),.ref (2,16),.ref (2,17)]),((2,4),.deep 147 [] none),((2,10),.deep 149 [] none),((2,14),.deep 70 [] none),((2,15),.deep 72 [] none),((2,16),.deep 76 [] none),((2,17),.deep 106 [] none),((3,0),.var [.i .i64 (a.t 0).asI,.i .i64 (a.t 1).asI,.i .i64 (a.t 2).asI,.ref (3,4),.i .i64 (a.t 4).asI,.i .i64 (a.t 5).asI,.i .i64 (a.t 6).asI,.i .i64 (a.t 7).asI,.i .i64 (a.t 8).asI,.ref (3,10),.i .i64 (a.t 10).asI,.b (a.t 11).asB,.b (a.t 12).asB,.ref (3,14),.ref (3,15),.ref (3,16),.ref (3,17)]),((3,4),.row 147 true (a.t 3).asR),((3,10),.row 149 true (a.t 9).asR),((3,14),.deep 70 A none),((3,15),.deep 72 [] none),((3,16),.deep 76 [] none),((3,17),.deep 106 [] none)]) a2h .dead⟩
def a5b (k:Nat) (a b c:Int) (d:LL) (e f g h i:Int) (l:LL) (m:Int) (n o:Bool) (p q r t:LL) (u:Outs) (w x y:LL) (z:(V0_)→OO):(V0_)→OO:=
 b1t k a b c d e f g h i l m n o p q r t u w x y z
def a5c (k:Nat) (a b c:Int) (d:LL) (e f g h i:Int) (l:LL) (m:Int) (n o:Bool) (p q r t:LL) (u:Outs) (w x:LL) (y:(V0_)→OO):(V0_)→OO:=
 b1u k a b c d e f g h i l m n o p q r t u w x (fun z A B C v=>a1l (a5b k a b c d e f g h i l m n o p q r t z A B C) k v) y
def a5d (k:Nat) (a b c:Int) (d:LL) (e f g h i:Int) (l:LL) (m:Int) (n o:Bool) (p q r t:LL) (u:Outs) (w:LL) (x:(V0_)→OO):(V0_)→OO:=
 b1v k a b c d e f g h i l m n o p q r t u w (fun y z A v=>a1l (a5c k a b c d e f g h i l m n o p q r t y z A) k v) x
def a5e (k:Nat) (a b c:Int) (d:LL) (e f g h i:Int) (l:LL) (m:Int) (n o:Bool) (p q r t:LL) (u:Outs) (w:(V0_)→OO):(V0_)→OO:=
 b1w k a b c d e f g h i l m n o p q r t u (fun x y v=>a1l (a5d k a b c d e f g h i l m n o p q r t x y) k v) w
def c4f (k:Nat) (a c d:Int) (e:LL) (f g h l m:Int) (n:LL) (o:Int) (p q:Bool) (w x y z:LL) (t:Outs→(V0_)→OO):OO:=
 a0c (a0a E P0 k N.j6s [.v [.i a,.i c,.i d,.r e,.i f,.i g,.i h,.i l,.i m,.r n,.i o,.b p,.b q]]) fun u=>
 t u (0,[])
def c4g (k:Nat) (a b c:Int) (d:LL) (e f g h i:Int) (l:LL) (m:Int) (n o:Bool) (p q r t:LL):OO:=
 c4f k a b c d e f g h i l m n o p q r t (fun u v=>a1l (a5e k a b c d e f g h i l m n o p q r t u) k v)
def a9o (k:Nat) (a c d:Int) (e:LL) (f g h l m:Int) (n:LL) (o:Int) (p q:Bool) (t u w x:LL) (js:List Nat) (j:Nat) (s:St):OO:=a3g E (LB E (a0a E P0 k) k [] N.j6j [.sr,.sr,.sl,.sr,.bl]) [] f1i (LK E (a0a E P0 k) k [] N.j6j [.v [.i a,.i c,.i d,.r e,.i f,.i g,.i h,.i l,.i m,.r n,.i o,.b p,.b q,.r t,.r u,.r w,.r x]] [.sr,.sr,.sl,.sr,.bl] js) j s
def a9p (k:Nat) (a c d:Int) (e:LL) (f g h l m:Int) (n:LL) (o:Int) (p q:Bool) (t u w x:LL) (js:List Nat) (j:Nat) (s:St):OO:=a3g E (LB E (a0a E P0 k) k [] N.j6j [.sr,.sr,.sr,.sl,.sr,.bl]) [] f1h (LK E (a0a E P0 k) k [] N.j6j [.v [.i a,.i c,.i d,.r e,.i f,.i g,.i h,.i l,.i m,.r n,.i o,.b p,.b q,.r t,.r u,.r w,.r x]] [.sr,.sr,.sr,.sl,.sr,.bl] js) j s
def a9q (k:Nat) (a c d:Int) (e:LL) (f g h l m:Int) (n:LL) (o:Int) (p q:Bool) (t u w x:LL) (js:List Nat) (j:Nat) (s:St):OO:=a3g E (LB E (a0a E P0 k) k [] N.j6j [.sr,.sr,.sr,.sr,.sl,.sr,.bl]) [] f1g (LK E (a0a E P0 k) k [] N.j6j [.v [.i a,.i c,.i d,.r e,.i f,.i g,.i h,.i l,.i m,.r n,.i o,.b p,.b q,.r t,.r u,.r w,.r x]] [.sr,.sr,.sr,.sr,.sl,.sr,.bl] js) j s
def a9r (k:Nat) (a c d:Int) (e:LL) (f g h l m:Int) (n:LL) (o:Int) (p q:Bool) (t u w x:LL) (js:List Nat) (j:Nat) (s:St):OO:=a3g E (LB E (a0a E P0 k) k [] N.j6j [.sr,.sr,.sr,.sr,.sr,.sl,.sr,.bl]) [] f1f (LK E (a0a E P0 k) k [] N.j6j [.v [.i a,.i c,.i d,.r e,.i f,.i g,.i h,.i l,.i m,.r n,.i o,.b p,.b q,.r t,.r u,.r w,.r x]] [.sr,.sr,.sr,.sr,.sr,.sl,.sr,.bl] js) j s
theorem f6n (k:Nat) (a c d:Int) (e:LL) (f g h l m:Int) (n:LL) (o:Int) (p q:Bool) (t u w x:LL):a0a E P0 (k+1) N.j6j [.v [.i a,.i c,.i d,.r e,.i f,.i g,.i h,.i l,.i m,.r n,.i o,.b p,.b q,.r t,.r u,.r w,.r x]]=c4g k a c d e f g h l m n o p q t u w x:=by
 have L:a0a E P0 (k+1) N.j6j [.v [.i a,.i c,.i d,.r e,.i f,.i g,.i h,.i l,.i m,.r n,.i o,.b p,.b q,.r t,.r u,.r w,.r x]]=c4f k a c d e f g h l m n o p q t u w x (fun H v=>a9o k a c d e f g h l m n o p q t u w x [] k (a7l a c d e f g h l m n o p q t u w x H v)):=by kernel_rfl
 have M:∀ (y:Outs) (z A B:LL) (C:Nat) (v:V0_),a9r k a c d e f g h l m n o p q t u w x [] (C+1) (a7i a c d e f g h l m n o p q t u w x y z A B v)=b1t k a c d e f g h l m n o p q t u w x y z A B (fun v=>a9r k a c d e f g h l m n o p q t u w x [] C (a7i a c d e f g h l m n o p q t u w x y z A B v)) v:=by
  intro y z A B C v;kernel_rfl
 have O:∀ (y:Outs) (z A B:LL) (C:Nat) (v:V0_),a9r k a c d e f g h l m n o p q t u w x [] C (a7i a c d e f g h l m n o p q t u w x y z A B v)=a1l (a5b k a c d e f g h l m n o p q t u w x y z A B) C v:=by
  intro y z A B C v
  refine a0j (a7i a c d e f g h l m n o p q t u w x y z A B) (a5b k a c d e f g h l m n o p q t u w x y z A B) (fun C v=>(M y z A B C v).trans ?_) C v
  unfold a5b
  rfl
 have Q:∀ (y:Outs) (z A:LL) (D:Nat) (v:V0_),a9q k a c d e f g h l m n o p q t u w x [] (D+1) (a7j a c d e f g h l m n o p q t u w x y z A v)=b1u k a c d e f g h l m n o p q t u w x y z A (fun H J K R v=>a9r k a c d e f g h l m n o p q t u w x [] k (a7i a c d e f g h l m n o p q t u w x H J K R v)) (fun v=>a9q k a c d e f g h l m n o p q t u w x [] D (a7j a c d e f g h l m n o p q t u w x y z A v)) v:=by
  intro y z A D v;kernel_rfl
 have S:∀ (y:Outs) (z A:LL) (D:Nat) (v:V0_),a9q k a c d e f g h l m n o p q t u w x [] D (a7j a c d e f g h l m n o p q t u w x y z A v)=a1l (a5c k a c d e f g h l m n o p q t u w x y z A) D v:=by
  intro y z A D v
  refine a0j (a7j a c d e f g h l m n o p q t u w x y z A) (a5c k a c d e f g h l m n o p q t u w x y z A) (fun D v=>(Q y z A D v).trans ?_) D v
  unfold a5c
  simp only [O] <;> rfl
 have U:∀ (y:Outs) (z:LL) (F:Nat) (v:V0_),a9p k a c d e f g h l m n o p q t u w x [] (F+1) (a7k a c d e f g h l m n o p q t u w x y z v)=b1v k a c d e f g h l m n o p q t u w x y z (fun H J K v=>a9q k a c d e f g h l m n o p q t u w x [] k (a7j a c d e f g h l m n o p q t u w x H J K v)) (fun v=>a9p k a c d e f g h l m n o p q t u w x [] F (a7k a c d e f g h l m n o p q t u w x y z v)) v:=by
  intro y z F v;kernel_rfl
 have V:∀ (y:Outs) (z:LL) (F:Nat) (v:V0_),a9p k a c d e f g h l m n o p q t u w x [] F (a7k a c d e f g h l m n o p q t u w x y z v)=a1l (a5d k a c d e f g h l m n o p q t u w x y z) F v:=by
  intro y z F v
  refine a0j (a7k a c d e f g h l m n o p q t u w x y z) (a5d k a c d e f g h l m n o p q t u w x y z) (fun F v=>(U y z F v).trans ?_) F v
  unfold a5d
  simp only [S] <;> rfl
 have W:∀ (y:Outs) (G:Nat) (v:V0_),a9o k a c d e f g h l m n o p q t u w x [] (G+1) (a7l a c d e f g h l m n o p q t u w x y v)=b1w k a c d e f g h l m n o p q t u w x y (fun H J v=>a9p k a c d e f g h l m n o p q t u w x [] k (a7k a c d e f g h l m n o p q t u w x H J v)) (fun v=>a9o k a c d e f g h l m n o p q t u w x [] G (a7l a c d e f g h l m n o p q t u w x y v)) v:=by
  intro y G v;kernel_rfl
 have X:∀ (y:Outs) (G:Nat) (v:V0_),a9o k a c d e f g h l m n o p q t u w x [] G (a7l a c d e f g h l m n o p q t u w x y v)=a1l (a5e k a c d e f g h l m n o p q t u w x y) G v:=by
  intro y G v
  refine a0j (a7l a c d e f g h l m n o p q t u w x y) (a5e k a c d e f g h l m n o p q t u w x y) (fun G v=>(W y G v).trans ?_) G v
  unfold a5e
  simp only [V] <;> rfl
 rw [L];unfold c4g
 simp only [X]
def f1j (k:Nat) (a c d:Int):OO:=
 bif (decide (a≥c)) then some ⟨[.b (decide (a≤d))],[]⟩ else some ⟨[.b false],[]⟩
theorem h2b (k:Nat) (a b c:Int):a0a E P0 (k+1) N.j5y [.v [.i a],.v [.i b],.v [.i c]]=f1j k a b c:=by kernel_rfl
def e4q (k:Nat) (a c:Int):OO:=
 a0c (a0a E P0 k N.j5y [.v [.i a],.v [.i 3],.v [.i 5]]) fun d=>
 bif (d.t 0).asB then
  a0c (a0a E P0 k N.j5y [.v [.i c],.v [.i 1],.v [.i 8]]) fun e=>
  some ⟨[.b (e.t 0).asB],[]⟩
 else
  some ⟨[.b false],[]⟩
theorem g8j (k:Nat) (a b:Int):a0a E P0 (k+1) N.j7b [.v [.i a,.i b]]=e4q k a b:=by kernel_rfl
def d8f (k:Nat) (a:Int):OO:=
 a0c (a0a E P0 k N.j5y [.v [.i a],.v [.i 0],.v [.i 65535]]) fun c=>
 some ⟨[.b (c.t 0).asB],[]⟩
theorem g3c (k:Nat) (a:Int):a0a E P0 (k+1) N.k1d [.v [.i a]]=d8f k a:=by kernel_rfl
def c1i (k:Nat) (c:LL) (d:(Int)→OO):(Int)→OO:=fun a=>
 bif (decide (a<(c.length:Int))) then
  chk (decide (0≤a)&&decide (a<(c.length:Int))) <|
  a0c (a0a E P0 k N.k1d [.v [.i (at_ c a.toNat 0).asI]]) fun e=>
  bif (!(e.t 0).asB) then some ⟨[.b false],[]⟩ else d (W64 (a+1))
 else
  some ⟨[.b true],[]⟩
def f1k:List Nat:=[0,2,3]
def c9o (a:LL):(Int)→St:=fun c=>⟨a2y [(0,.sl 3 a),(2,.b false),(3,.i .i64 c)],a0y []⟩
def b1x (k:Nat) (a:LL) (b:(Int)→OO):(Int)→OO:=
 c1i k a b
def b5r (k:Nat) (b:LL) (a:(Int)→OO):OO:=
 a 0
def d3r (k:Nat) (a:LL):OO:=
 b5r k a (fun v=>a1l (b1x k a) k v)
def e6k (k:Nat) (a:LL) (js:List Nat) (j:Nat) (s:St):OO:=a3g E (LB E (a0a E P0 k) k [] N.j6m [.sr,.sl,.sr,.bl]) [] f1k (LK E (a0a E P0 k) k [] N.j6m [.v [.r a]] [.sr,.sl,.sr,.bl] js) j s
theorem f6o (k:Nat) (a:LL):a0a E P0 (k+1) N.j6m [.v [.r a]]=d3r k a:=
 Eq.trans (b:=b5r k a (fun v=>e6k k a [] k (c9o a v))) (by kernel_rfl) (congrArg (b5r k a) (funext fun v=>a0j (c9o a) (b1x k a) (fun j v=>by kernel_rfl) k v))
def c1j (k:Nat) (c:Int) (a:LL) (d:Bool):OO:=
 bif d then
  a0c (a0a E P0 k N.j5y [.v [.i (a.length:Int)],.v [.i 1],.v [.i 6]]) fun e=>
  bif (e.t 0).asB then
   a0c (a0a E P0 k N.j6m [.v [.r a]]) fun f=>
   some ⟨[.b (f.t 0).asB],[]⟩
  else
   some ⟨[.b false],[]⟩
 else
  bif (c == 5) then
   bif ((a.length:Int) == 2) then
    a0c (a0a E P0 k N.j6m [.v [.r a]]) fun g=>
    some ⟨[.b (g.t 0).asB],[]⟩
   else
    some ⟨[.b false],[]⟩
  else
   some ⟨[.b true],[]⟩
def d3s (k:Nat) (a g h c:Int) (d:LL):OO:=
 bif (a == 1) then
  a0c (a0a E P0 k N.j5y [.v [.i c],.v [.i 1],.v [.i 6]]) fun e=>
  some ⟨[.b (e.t 0).asB],[]⟩
 else
  bif (a == 6) then
   a0c (a0a E P0 k N.j5y [.v [.i c],.v [.i 1],.v [.i 6]]) fun f=>
   some ⟨[.b (f.t 0).asB],[]⟩
  else
   bif (a == 2) then c1j k a d true else c1j k a d (a == 3)
theorem f6p (k:Nat) (a b c d:Int) (e:LL):a0a E P0 (k+1) N.k2z [.v [.i a,.i b,.i c,.i d,.r e]]=d3s k a b c d e:=by kernel_rfl
def d8g (k:Nat) (a b:Int):OO:=
 a0c (a0a E P0 k N.j7b [.v [.i a,.i b]]) fun c=>
 bif (!(c.t 0).asB) then
  some ⟨[.i 0],[]⟩
 else
  some ⟨[.i (W64 (b*(W64 (a - 1))))],[]⟩
theorem g3d (k:Nat) (a b:Int):a0a E P0 (k+1) N.j7c [.v [.i a,.i b]]=d8g k a b:=by kernel_rfl
def d8h (k:Nat) (a d e b:Int) (c:LL):OO:=
 bif (a == 1) then
  some ⟨[.i b],[]⟩
 else
  bif (a == 6) then
   some ⟨[.i b],[]⟩
  else
   bif (a == 2) then
    some ⟨[.i (c.length:Int)],[]⟩
   else
    bif (a == 3) then
     some ⟨[.i (c.length:Int)],[]⟩
    else
     bif (a == 5) then some ⟨[.i 1],[]⟩ else some ⟨[.i 0],[]⟩
theorem g3e (k:Nat) (a b c d:Int) (e:LL):a0a E P0 (k+1) N.j8t [.v [.i a,.i b,.i c,.i d,.r e]]=d8h k a b c d e:=by kernel_rfl
def b1y (k:Nat) (f g a c b d:Int) (e:LL) (h:Bool):OO:=
 bif h then
  some ⟨[.i 1],[]⟩
 else
  a0c (a0a E P0 k N.k2z [.v [.i a,.i c,.i b,.i d,.r e]]) fun l=>
  bif (!(l.t 0).asB) then
   some ⟨[.i 3],[]⟩
  else
   bif (a == 4) then
    some ⟨[.i 0],[]⟩
   else
    a0c (a0a E P0 k N.j7c [.v [.i f,.i g]]) fun m=>
    a0c (a0a E P0 k N.j8t [.v [.i a,.i c,.i b,.i d,.r e]]) fun n=>
    a0c (a0a E P0 k N.j5y [.v [.i b],.v [.i 0],.v [.i (W64 ((m.t 0).asI - (n.t 0).asI))]]) fun o=>
    bif (!(o.t 0).asB) then some ⟨[.i 2],[]⟩ else some ⟨[.i 0],[]⟩
def d3t (k:Nat) (a b c d e f:Int) (g:LL):OO:=
 a0c (a0a E P0 k N.j7b [.v [.i a,.i b]]) fun h=>
 bif (!(h.t 0).asB) then
  b1y k a b c d e f g true
 else
  a0c (a0a E P0 k N.j5y [.v [.i c],.v [.i 1],.v [.i 6]]) fun l=>
  bif (!(l.t 0).asB) then
   b1y k a b c d e f g true
  else
   a0c (a0a E P0 k N.j5y [.v [.i d],.v [.i 1],.v [.i 999]]) fun m=>
   b1y k a b c d e f g (!(m.t 0).asB)
theorem f6q (k:Nat) (a b c d e f:Int) (g:LL):a0a E P0 (k+1) N.j8u [.v [.i a,.i b],.v [.i c,.i d,.i e,.i f,.r g]]=d3t k a b c d e f g:=by kernel_rfl
def d8i (k:Nat) (c d b e a f:Int) (g:LL):OO:=
 a0c (a0a E P0 k N.j8u [.v [.i c,.i d],.v [.i b,.i e,.i a,.i f,.r g]]) fun h=>
 bif ((h.t 0).asI != 0) then
  some ⟨[.i 0,.i 0],[]⟩
 else
  bif (b == 4) then
   a0c (a0a E P0 k N.j7c [.v [.i c,.i d]]) fun l=>
   some ⟨[.i 0,.i (l.t 0).asI],[]⟩
  else
   a0c (a0a E P0 k N.j8t [.v [.i b,.i e,.i a,.i f,.r g]]) fun m=>
   some ⟨[.i a,.i (W64 (a+(m.t 0).asI))],[]⟩
theorem g3f (k:Nat) (a b c d e f:Int) (g:LL):a0a E P0 (k+1) N.k1e [.v [.i a,.i b],.v [.i c,.i d,.i e,.i f,.r g]]=d8i k a b c d e f g:=by kernel_rfl
def e4r (k:Nat) (a c f g h l:Int) (m:LL) (n o p q:Int) (u:LL):OO:=
 a0c (a0a E P0 k N.k1e [.v [.i a,.i c],.v [.i f,.i g,.i h,.i l,.r m]]) fun d=>
 a0c (a0a E P0 k N.k1e [.v [.i a,.i c],.v [.i n,.i o,.i p,.i q,.r u]]) fun e=>
 bif (decide ((d.t 0).asI<(e.t 1).asI)) then
  some ⟨[.b (decide ((e.t 0).asI<(d.t 1).asI))],[]⟩
 else
  some ⟨[.b false],[]⟩
theorem g8k (k:Nat) (a b c d e f:Int) (g:LL) (h l m n:Int) (o:LL):a0a E P0 (k+1) N.k3a [.v [.i a,.i b],.v [.i c,.i d,.i e,.i f,.r g],.v [.i h,.i l,.i m,.i n,.r o]]=e4r k a b c d e f g h l m n o:=by kernel_rfl
def c4h (k:Nat) (w e f:Int) (x:LL) (y z A B C:Int) (D:LL) (F:Int) (G H:Bool) (J c K L:LL) (g h l m n:Int) (o:LL) (M:Int) (O:LL) (d:Int) (p:(Int)→OO):(Int)→OO:=fun a=>
 bif (decide (a<g)) then
  chk (decide (0≤a)&&decide (a<(c.length:Int))) <|
  a0c (a0a E P0 k N.k3a [.v [.i e,.i f],.v [.i (at_ c a.toNat 0).asI,.i (at_ c a.toNat 1).asI,.i (at_ c a.toNat 2).asI,.i (at_ c a.toNat 3).asI,.r (at_ c a.toNat 4).asR],.v [.i h,.i l,.i m,.i n,.r o]]) fun q=>
  bif (q.t 0).asB then some ⟨[.b false],[]⟩ else p (W64 (a+1))
 else
  bif (d == 0) then
   some ⟨[.b true],[]⟩
  else
   a0c (a0a E P0 k N.j5y [.v [.i d],.v [.i 4],.v [.i 7]]) fun u=>
   some ⟨[.b (u.t 0).asB],[]⟩
def f6r:List Nat:=[1,2,4,5,6,54,55,56,57,58,59,60,61]
def d3u (a c d:Int) (e:LL) (f g h l m:Int) (n:LL) (o:Int) (p q:Bool) (r t u w:LL) (x y z A B:Int) (C:LL) (D:Int) (F:LL) (G:Int):(Int)→St:=fun H=>⟨a2y [(1,.i .i64 x),(2,.ptr (2,0) 0),(4,.b false),(5,.ptr (5,0) 0),(6,.i .i64 H),(54,.skip),(55,.skip),(56,.skip),(57,.skip),(58,.skip),(59,.skip),(60,.skip),(61,.skip)],a0y [((2,0),.var [.i .i64 a,.i .i64 c,.i .i64 d,.sl 147 e,.i .i64 f,.i .i64 g,.i .i64 h,.i .i64 l,.i .i64 m,.sl 149 n,.i .i64 o,.b p,.b q,.sl 70 r,.sl 72 t,.sl 76 u,.sl 106 w]),((5,0),.var [.i .i64 y,.i .i64 z,.i .i64 A,.i .i64 B,.sl 3 C,.i .i64 D,.sl 3 F,.i .i64 G])]⟩
def a9b (k:Nat) (a:LL) (c:Int) (d:Int→Int→Int→Int→LL→Int→LL→Int→(Int)→OO) (e:Bool):OO:=
 bif e then
  some ⟨[.b false],[]⟩
 else
  d ((at_ a c.toNat 0).asI) ((at_ a c.toNat 1).asI) ((at_ a c.toNat 2).asI) ((at_ a c.toNat 3).asI) ((at_ a c.toNat 4).asR) ((at_ a c.toNat 5).asI) ((at_ a c.toNat 6).asR) ((at_ a c.toNat 7).asI) 0
def b5s (k:Nat) (a b c:Int) (d:LL) (e f g h i:Int) (l:LL) (m:Int) (n o:Bool) (p q r t:LL) (u w x y z:Int) (A:LL) (B:Int) (C:LL) (D:Int) (F:(Int)→OO):(Int)→OO:=
 c4h k a b c d e f g h i l m n o p q r t u w x y z A B C D F
def b9g (k:Nat) (l d e:Int) (m:LL) (n o p q u:Int) (w:LL) (x:Int) (y z:Bool) (A b B C:LL) (a:Int) (c:Int→Int→Int→Int→LL→Int→LL→Int→(Int)→OO):OO:=
 chk (decide (0≤a)&&decide (a<(b.length:Int))) <|
 a0c (a0a E P0 k N.j8u [.v [.i d,.i e],.v [.i (at_ b a.toNat 0).asI,.i (at_ b a.toNat 1).asI,.i (at_ b a.toNat 2).asI,.i (at_ b a.toNat 3).asI,.r (at_ b a.toNat 4).asR]]) fun f=>
 bif ((f.t 0).asI != 0) then
  a9b k b a c true
 else
  a0c (a0a E P0 k N.j5y [.v [.i (at_ b a.toNat 5).asI],.v [.i 0],.v [.i 40]]) fun g=>
  bif (!(g.t 0).asB) then
   a9b k b a c true
  else
   a0c (a0a E P0 k N.j6m [.v [.r (at_ b a.toNat 6).asR]]) fun h=>
   bif (!(h.t 0).asB) then
    a9b k b a c true
   else
    a9b k b a c (decide (((at_ b a.toNat 6).asR.length:Int) > 6))
def d8j (k:Nat) (a b c:Int) (d:LL) (e f g h i:Int) (l:LL) (m:Int) (n o:Bool) (p q r t:LL) (u:Int):OO:=
 b9g k a b c d e f g h i l m n o p q r t u (fun w x y z A B C D v=>a1l (b5s k a b c d e f g h i l m n o p q r t u w x y z A B C D) k v)
def f1l (k:Nat) (a c d:Int) (e:LL) (f g h l m:Int) (n:LL) (o:Int) (p q:Bool) (t u w x:LL) (y:Int) (js:List Nat) (j:Nat) (s:St):OO:=a3g E (LB E (a0a E P0 k) k [] N.j8v [.sr,.sr,.sr,.sl,.sr,.bl]) [] f6r (LK E (a0a E P0 k) k [] N.j8v [.v [.i a,.i c,.i d,.r e,.i f,.i g,.i h,.i l,.i m,.r n,.i o,.b p,.b q,.r t,.r u,.r w,.r x],.v [.i y]] [.sr,.sr,.sr,.sl,.sr,.bl] js) j s
theorem g3g (k:Nat) (a c d:Int) (e:LL) (f g h l m:Int) (n:LL) (o:Int) (p q:Bool) (t u w x:LL) (y:Int):a0a E P0 (k+1) N.j8v [.v [.i a,.i c,.i d,.r e,.i f,.i g,.i h,.i l,.i m,.r n,.i o,.b p,.b q,.r t,.r u,.r w,.r x],.v [.i y]]=d8j k a c d e f g h l m n o p q t u w x y:=
 Eq.trans (b:=b9g k a c d e f g h l m n o p q t u w x y (fun z A B C D F G H v=>f1l k a c d e f g h l m n o p q t u w x y [] k (d3u a c d e f g h l m n o p q t u w x y z A B C D F G H v))) (by kernel_rfl) (congrArg (b9g k a c d e f g h l m n o p q t u w x y) (funext fun z=>funext fun A=>funext fun B=>funext fun C=>funext fun D=>funext fun F=>funext fun G=>funext fun H=>funext fun v=>a0j (d3u a c d e f g h l m n o p q t u w x y z A B C D F G H) (b5s k a c d e f g h l m n o p q t u w x y z A B C D F G H) (fun j v=>by kernel_rfl) k v))
def e4s (k:Nat) (a:LL):OO:=
 bif (decide ((a.length:Int)≤12)) then
  a0c (a0a E P0 k N.j6m [.v [.r a]]) fun c=>
  some ⟨[.b (c.t 0).asB],[]⟩
 else
  some ⟨[.b false],[]⟩
theorem g8l (k:Nat) (a:LL):a0a E P0 (k+1) N.j8w [.v [.r a]]=e4s k a:=by kernel_rfl
def b9h (k:Nat) (d f:LL) (l:Bool) (c:LL) (e:(Int)→OO):(Int)→OO:=fun a=>
 bif (decide (a<(c.length:Int))) then
  chk (decide (0≤a)&&decide (a<(c.length:Int))) <|
  a0c (a0a E P0 k N.j5y [.v [.i (at_ c a.toNat 0).asI],.v [.i 0],.v [.i (W64 ((d.length:Int) - 1))]]) fun g=>
  bif (!(g.t 0).asB) then
   some ⟨[.b false],[]⟩
  else
   bif (decide (a > 0)) then
    chk (decide (0≤(W64 (a - 1)))&&decide ((W64 (a - 1))<(c.length:Int))) <|
    chk (decide (0≤a)&&decide (a<(c.length:Int))) <|
    bif (decide ((at_ c (W64 (a - 1)).toNat 0).asI≥(at_ c a.toNat 0).asI)) then
     some ⟨[.b false],[]⟩
    else
     e (W64 (a+1))
   else
    e (W64 (a+1))
 else
  a0c (a0a E P0 k N.j5y [.v [.i (d.length:Int)],.v [.i 1],.v [.i 20]]) fun h=>
  bif (h.t 0).asB then some ⟨[.b (decide ((f.length:Int)≤60))],[]⟩ else some ⟨[.b false],[]⟩
def g3h:List Nat:=[1,2,3,6,83,84,85,86,87,88,89,90]
def b1z (a c:LL) (d:Bool) (e:LL):(Int)→St:=fun f=>⟨a2y [(1,.ptr (1,0) 0),(2,.b false),(3,.i .i64 (a.length:Int)),(6,.i .i64 f),(83,.skip),(84,.skip),(85,.skip),(86,.skip),(87,.skip),(88,.skip),(89,.skip),(90,.skip)],a0y [((1,0),.var [.sl 68 a,.sl 176 c,.b d,.sl 3 e])]⟩
def b9i (k:Nat) (d c:LL) (l:Bool) (m:LL) (e f:(Int)→OO):(Int)→OO:=fun a=>
 bif (decide (a<(c.length:Int))) then
  chk (decide (0≤a)&&decide (a<(c.length:Int))) <|
  a0c (a0a E P0 k N.j5y [.v [.i (at_ c a.toNat 0).asI],.v [.i 0],.v [.i (W64 ((d.length:Int) - 1))]]) fun g=>
  bif (!(g.t 0).asB) then
   some ⟨[.b false],[]⟩
  else
   chk (decide (0≤a)&&decide (a<(c.length:Int))) <|
   a0c (a0a E P0 k N.j8w [.v [.r (at_ c a.toNat 1).asR]]) fun h=>
   bif (!(h.t 0).asB) then some ⟨[.b false],[]⟩ else f (W64 (a+1))
 else
  e 0
def g3i:List Nat:=[1,2,3,5,6,49,50,51,52,53,54,55,56,57,58,59,60,61,62,63,64,65,66,67,68,69,70,71,72,73,74,75,76,77,78,79,80,81,82,83,84,85,86,87,88,89,90]
def b2a (a c:LL) (d:Bool) (e:LL):(Int)→St:=fun f=>⟨a2y [(1,.ptr (1,0) 0),(2,.b false),(3,.i .i64 (a.length:Int)),(5,.i .i64 f),(6,.skip),(49,.skip),(50,.skip),(51,.skip),(52,.skip),(53,.skip),(54,.skip),(55,.skip),(56,.skip),(57,.skip),(58,.skip),(59,.skip),(60,.skip),(61,.skip),(62,.skip),(63,.skip),(64,.skip),(65,.skip),(66,.skip),(67,.skip),(68,.skip),(69,.skip),(70,.skip),(71,.skip),(72,.skip),(73,.skip),(74,.skip),(75,.skip),(76,.skip),(77,.skip),(78,.skip),(79,.skip),(80,.skip),(81,.skip),(82,.skip),(83,.skip),(84,.skip),(85,.skip),(86,.skip),(87,.skip),(88,.skip),(89,.skip),(90,.skip)],a0y [((1,0),.var [.sl 68 a,.sl 176 c,.b d,.sl 3 e])]⟩
def b9j (k:Nat) (c g:LL) (h:Bool) (i:LL) (d e:(Int)→OO):(Int)→OO:=fun a=>
 bif (decide (a<(c.length:Int))) then
  chk (decide (0≤a)&&decide (a<(c.length:Int))) <|
  a0c (a0a E P0 k N.j8w [.v [.r (at_ c a.toNat 0).asR]]) fun f=>
  bif (!(f.t 0).asB) then some ⟨[.b false],[]⟩ else e (W64 (a+1))
 else
  d 0
def g3j:List Nat:=[1,2,3,4,5,6,22,23,24,25,26,27,28,29,30,31,32,33,34,35,36,37,38,39,40,41,42,43,44,45,46,47,48,49,50,51,52,53,54,55,56,57,58,59,60,61,62,63,64,65,66,67,68,69,70,71,72,73,74,75,76,77,78,79,80,81,82,83,84,85,86,87,88,89,90]
def b2b (a c:LL) (d:Bool) (e:LL):(Int)→St:=fun f=>⟨a2y [(1,.ptr (1,0) 0),(2,.b false),(3,.i .i64 (a.length:Int)),(4,.i .i64 f),(5,.skip),(6,.skip),(22,.skip),(23,.skip),(24,.skip),(25,.skip),(26,.skip),(27,.skip),(28,.skip),(29,.skip),(30,.skip),(31,.skip),(32,.skip),(33,.skip),(34,.skip),(35,.skip),(36,.skip),(37,.skip),(38,.skip),(39,.skip),(40,.skip),(41,.skip),(42,.skip),(43,.skip),(44,.skip),(45,.skip),(46,.skip),(47,.skip),(48,.skip),(49,.skip),(50,.skip),(51,.skip),(52,.skip),(53,.skip),(54,.skip),(55,.skip),(56,.skip),(57,.skip),(58,.skip),(59,.skip),(60,.skip),(61,.skip),(62,.skip),(63,.skip),(64,.skip),(65,.skip),(66,.skip),(67,.skip),(68,.skip),(69,.skip),(70,.skip),(71,.skip),(72,.skip),(73,.skip),(74,.skip),(75,.skip),(76,.skip),(77,.skip),(78,.skip),(79,.skip),(80,.skip),(81,.skip),(82,.skip),(83,.skip),(84,.skip),(85,.skip),(86,.skip),(87,.skip),(88,.skip),(89,.skip),(90,.skip)],a0y [((1,0),.var [.sl 68 a,.sl 176 c,.b d,.sl 3 e])]⟩
def a4p (k:Nat) (a b:LL) (c:Bool) (d:LL) (e:(Int)→OO):(Int)→OO:=
 b9h k a b c d e
def a4q (k:Nat) (a b:LL) (c:Bool) (d:LL) (e:(Int)→OO):(Int)→OO:=
 b9i k a b c d (fun v=>a1l (a4p k a b c d) k v) e
def a8e (k:Nat) (a b:LL) (c:Bool) (d:LL) (e:(Int)→OO):(Int)→OO:=
 b9j k a b c d (fun v=>a1l (a4q k a b c d) k v) e
def c9p (k:Nat) (b c:LL) (d:Bool) (e:LL) (a:(Int)→OO):OO:=
 a 0
def c9q (k:Nat) (a b:LL) (c:Bool) (d:LL):OO:=
 c9p k a b c d (fun v=>a1l (a8e k a b c d) k v)
def b5t (k:Nat) (a c:LL) (d:Bool) (e:LL) (js:List Nat) (j:Nat) (s:St):OO:=a3g E (LB E (a0a E P0 k) k [] N.j6g [.sr,.sr,.sl,.sr,.bl]) [] g3j (LK E (a0a E P0 k) k [] N.j6g [.v [.r a,.r c,.b d,.r e]] [.sr,.sr,.sl,.sr,.bl] js) j s
def b5u (k:Nat) (a c:LL) (d:Bool) (e:LL) (js:List Nat) (j:Nat) (s:St):OO:=a3g E (LB E (a0a E P0 k) k [] N.j6g [.sr,.sr,.sr,.sl,.sr,.bl]) [] g3i (LK E (a0a E P0 k) k [] N.j6g [.v [.r a,.r c,.b d,.r e]] [.sr,.sr,.sr,.sl,.sr,.bl] js) j s
def b5v (k:Nat) (a c:LL) (d:Bool) (e:LL) (js:List Nat) (j:Nat) (s:St):OO:=a3g E (LB E (a0a E P0 k) k [] N.j6g [.sr,.sr,.sr,.sr,.sl,.sr,.bl]) [] g3h (LK E (a0a E P0 k) k [] N.j6g [.v [.r a,.r c,.b d,.r e]] [.sr,.sr,.sr,.sr,.sl,.sr,.bl] js) j s
theorem g8m (k:Nat) (a c:LL) (d:Bool) (e:LL):a0a E P0 (k+1) N.j6g [.v [.r a,.r c,.b d,.r e]]=c9q k a c d e:=by
 have i:a0a E P0 (k+1) N.j6g [.v [.r a,.r c,.b d,.r e]]=c9p k a c d e (fun v=>b5t k a c d e [] k (b2b a c d e v)):=by kernel_rfl
 have l:∀ (f:Nat) (v:Int),b5v k a c d e [] (f+1) (b1z a c d e v)=b9h k a c d e (fun v=>b5v k a c d e [] f (b1z a c d e v)) v:=by
  intro f v;kernel_rfl
 have m:∀ (f:Nat) (v:Int),b5v k a c d e [] f (b1z a c d e v)=a1l (a4p k a c d e) f v:=by
  intro f v
  refine a0j (b1z a c d e) (a4p k a c d e) (fun f v=>(l f v).trans ?_) f v
  unfold a4p
  rfl
 have n:∀ (g:Nat) (v:Int),b5u k a c d e [] (g+1) (b2a a c d e v)=b9i k a c d e (fun v=>b5v k a c d e [] k (b1z a c d e v)) (fun v=>b5u k a c d e [] g (b2a a c d e v)) v:=by
  intro g v;kernel_rfl
 have o:∀ (g:Nat) (v:Int),b5u k a c d e [] g (b2a a c d e v)=a1l (a4q k a c d e) g v:=by
  intro g v
  refine a0j (b2a a c d e) (a4q k a c d e) (fun g v=>(n g v).trans ?_) g v
  unfold a4q
  simp only [m] <;> rfl
 have p:∀ (h:Nat) (v:Int),b5t k a c d e [] (h+1) (b2b a c d e v)=b9j k a c d e (fun v=>b5u k a c d e [] k (b2a a c d e v)) (fun v=>b5t k a c d e [] h (b2b a c d e v)) v:=by
  intro h v;kernel_rfl
 have q:∀ (h:Nat) (v:Int),b5t k a c d e [] h (b2b a c d e v)=a1l (a8e k a c d e) h v:=by
  intro h v
  refine a0j (b2b a c d e) (a8e k a c d e) (fun h v=>(p h v).trans ?_) h v
  unfold a8e
  simp only [o] <;> rfl
 rw [i];unfold c9q
 simp only [q]
def d8k (k:Nat) (b a:Int):OO:=
 some ⟨[.i (W64 (6+a))],[]⟩
theorem g3k (k:Nat) (a b:Int):a0a E P0 (k+1) N.k3b [.v [.i a,.i b]]=d8k k a b:=by kernel_rfl
def c4i (k:Nat) (n e f:Int) (c:LL) (g o p q u:Int) (w:LL) (x:Int) (y h:Bool) (d:(Int)→OO):(Int)→OO:=fun a=>
 bif (decide (a<(c.length:Int))) then
  chk (decide (0≤a)&&decide (a<(c.length:Int))) <|
  a0c (a0a E P0 k N.j6g [.v [.r (at_ c a.toNat 0).asR,.r (at_ c a.toNat 1).asR,.b (at_ c a.toNat 2).asB,.r (at_ c a.toNat 3).asR]]) fun l=>
  bif (!(l.t 0).asB) then
   some ⟨[.b false],[]⟩
  else
   a0c (a0a E P0 k N.k3b [.v [.i e,.i f]]) fun m=>
   bif (((at_ c a.toNat 0).asR.length:Int) != (m.t 0).asI) then
    some ⟨[.b false],[]⟩
   else
    bif (at_ c a.toNat 2).asB then
     bif (a != g) then
      bif (!h) then some ⟨[.b false],[]⟩ else d (W64 (a+1))
     else
      d (W64 (a+1))
    else
     d (W64 (a+1))
 else
  some ⟨[.b ((c.length:Int) == e)],[]⟩
def f6s:List Nat:=[1,2,3,44,45,46,47,48,49,50]
def d3v (a c d:Int) (e:LL) (f g h l m:Int) (n:LL) (o:Int) (p q:Bool):(Int)→St:=fun r=>⟨a2y [(1,.ptr (1,0) 0),(2,.b false),(3,.i .i64 r),(44,.skip),(45,.skip),(46,.skip),(47,.skip),(48,.skip),(49,.skip),(50,.skip)],a0y [((1,0),.var [.i .i64 a,.i .i64 c,.i .i64 d,.sl 147 e,.i .i64 f,.i .i64 g,.i .i64 h,.i .i64 l,.i .i64 m,.sl 149 n,.i .i64 o,.b p,.b q])]⟩
def b5w (k:Nat) (a b c:Int) (d:LL) (e f g h i:Int) (l:LL) (m:Int) (n o:Bool) (p:(Int)→OO):(Int)→OO:=
 c4i k a b c d e f g h i l m n o p
def b9k (k:Nat) (b c d:Int) (e:LL) (f g h i l:Int) (m:LL) (n:Int) (o p:Bool) (a:(Int)→OO):OO:=
 a 0
def d8l (k:Nat) (a b c:Int) (d:LL) (e f g h i:Int) (l:LL) (m:Int) (n o:Bool):OO:=
 b9k k a b c d e f g h i l m n o (fun v=>a1l (b5w k a b c d e f g h i l m n o) k v)
def f1m (k:Nat) (a c d:Int) (e:LL) (f g h l m:Int) (n:LL) (o:Int) (p q:Bool) (js:List Nat) (j:Nat) (s:St):OO:=a3g E (LB E (a0a E P0 k) k [] N.j8x [.sr,.sl,.sr,.bl]) [] f6s (LK E (a0a E P0 k) k [] N.j8x [.v [.i a,.i c,.i d,.r e,.i f,.i g,.i h,.i l,.i m,.r n,.i o,.b p,.b q]] [.sr,.sl,.sr,.bl] js) j s
theorem g3l (k:Nat) (a c d:Int) (e:LL) (f g h l m:Int) (n:LL) (o:Int) (p q:Bool):a0a E P0 (k+1) N.j8x [.v [.i a,.i c,.i d,.r e,.i f,.i g,.i h,.i l,.i m,.r n,.i o,.b p,.b q]]=d8l k a c d e f g h l m n o p q:=
 Eq.trans (b:=b9k k a c d e f g h l m n o p q (fun v=>f1m k a c d e f g h l m n o p q [] k (d3v a c d e f g h l m n o p q v))) (by kernel_rfl) (congrArg (b9k k a c d e f g h l m n o p q) (funext fun v=>a0j (d3v a c d e f g h l m n o p q) (b5w k a c d e f g h l m n o p q) (fun j v=>by kernel_rfl) k v))
def c1k (k:Nat) (l e f:Int) (m:LL) (n o p q u:Int) (c:LL) (w:Int) (x y:Bool) (d:(Int)→OO):(Int)→OO:=fun a=>
 bif (decide (a<(c.length:Int))) then
  chk (decide (0≤a)&&decide (a<(c.length:Int))) <|
  a0c (a0a E P0 k N.j5y [.v [.i (at_ c a.toNat 0).asI],.v [.i 0],.v [.i (W64 (f - 1))]]) fun g=>
  bif (!(g.t 0).asB) then
   some ⟨[.b false],[]⟩
  else
   bif (((at_ c a.toNat 1).asR.length:Int) != (W64 (e - 1))) then
    some ⟨[.b false],[]⟩
   else
    a0c (a0a E P0 k N.j6m [.v [.r (at_ c a.toNat 1).asR]]) fun h=>
    bif (!(h.t 0).asB) then
     some ⟨[.b false],[]⟩
    else
     bif (decide (a > 0)) then
      chk (decide (0≤(W64 (a - 1)))&&decide ((W64 (a - 1))<(c.length:Int))) <|
      bif (decide ((at_ c (W64 (a - 1)).toNat 0).asI≥(at_ c a.toNat 0).asI)) then
       some ⟨[.b false],[]⟩
      else
       d (W64 (a+1))
     else
      d (W64 (a+1))
 else
  some ⟨[.b true],[]⟩
def f1n:List Nat:=[1,2,3]
def c9r (a c d:Int) (e:LL) (f g h l m:Int) (n:LL) (o:Int) (p q:Bool):(Int)→St:=fun r=>⟨a2y [(1,.ptr (1,0) 0),(2,.b false),(3,.i .i64 r)],a0y [((1,0),.var [.i .i64 a,.i .i64 c,.i .i64 d,.sl 147 e,.i .i64 f,.i .i64 g,.i .i64 h,.i .i64 l,.i .i64 m,.sl 149 n,.i .i64 o,.b p,.b q])]⟩
def b2c (k:Nat) (a b c:Int) (d:LL) (e f g h i:Int) (l:LL) (m:Int) (n o:Bool) (p:(Int)→OO):(Int)→OO:=
 c1k k a b c d e f g h i l m n o p
def b5x (k:Nat) (b c d:Int) (e:LL) (f g h i l:Int) (m:LL) (n:Int) (o p:Bool) (a:(Int)→OO):OO:=
 a 0
def d3w (k:Nat) (a b c:Int) (d:LL) (e f g h i:Int) (l:LL) (m:Int) (n o:Bool):OO:=
 b5x k a b c d e f g h i l m n o (fun v=>a1l (b2c k a b c d e f g h i l m n o) k v)
def e6l (k:Nat) (a c d:Int) (e:LL) (f g h l m:Int) (n:LL) (o:Int) (p q:Bool) (js:List Nat) (j:Nat) (s:St):OO:=a3g E (LB E (a0a E P0 k) k [] N.j8y [.sr,.sl,.sr,.bl]) [] f1n (LK E (a0a E P0 k) k [] N.j8y [.v [.i a,.i c,.i d,.r e,.i f,.i g,.i h,.i l,.i m,.r n,.i o,.b p,.b q]] [.sr,.sl,.sr,.bl] js) j s
theorem f6t (k:Nat) (a c d:Int) (e:LL) (f g h l m:Int) (n:LL) (o:Int) (p q:Bool):a0a E P0 (k+1) N.j8y [.v [.i a,.i c,.i d,.r e,.i f,.i g,.i h,.i l,.i m,.r n,.i o,.b p,.b q]]=d3w k a c d e f g h l m n o p q:=
 Eq.trans (b:=b5x k a c d e f g h l m n o p q (fun v=>e6l k a c d e f g h l m n o p q [] k (c9r a c d e f g h l m n o p q v))) (by kernel_rfl) (congrArg (b5x k a c d e f g h l m n o p q) (funext fun v=>a0j (c9r a c d e f g h l m n o p q) (b2c k a c d e f g h l m n o p q) (fun j v=>by kernel_rfl) k v))
def b2d (k:Nat) (c a d e:Int) (f:Bool):OO:=
 bif f then
  some ⟨[.b false],[]⟩
 else
  a0c (a0a E P0 k N.j5y [.v [.i a],.v [.i 0],.v [.i 60000]]) fun g=>
  bif (g.t 0).asB then
   a0c (a0a E P0 k N.j5y [.v [.i c],.v [.i a],.v [.i 60000]]) fun h=>
   bif (h.t 0).asB then
    bif (decide (c≤(W64 (a+4)))) then
     a0c (a0a E P0 k N.j5y [.v [.i d],.v [.i 0],.v [.i 60000]]) fun l=>
     bif (l.t 0).asB then
      a0c (a0a E P0 k N.j5y [.v [.i e],.v [.i (-1)],.v [.i 1000]]) fun m=>
      some ⟨[.b (m.t 0).asB],[]⟩
     else
      some ⟨[.b false],[]⟩
    else
     some ⟨[.b false],[]⟩
   else
    some ⟨[.b false],[]⟩
  else
   some ⟨[.b false],[]⟩
def b2e (k:Nat) (h l f g a c d e:Int) (m:Bool):OO:=
 bif m then
  some ⟨[.b false],[]⟩
 else
  a0c (a0a E P0 k N.j5y [.v [.i f],.v [.i (-1)],.v [.i (W64 (h - 1))]]) fun n=>
  bif (!(n.t 0).asB) then
   b2d k a c d e true
  else
   a0c (a0a E P0 k N.j5y [.v [.i g],.v [.i 0],.v [.i l]]) fun o=>
   bif (!(o.t 0).asB) then
    b2d k a c d e true
   else
    bif (f == (-1)) then
     b2d k a c d e (g != 0)
    else
     b2d k a c d e false
def e4t (k:Nat) (m a c:Int) (n:LL) (d e f g h:Int) (o:LL) (l:Int) (p q:Bool):OO:=
 a0c (a0a E P0 k N.j7b [.v [.i a,.i c]]) fun u=>
 bif (!(u.t 0).asB) then
  b2e k a c d e f g h l true
 else
  a0c (a0a E P0 k N.j5y [.v [.i m],.v [.i 1],.v [.i 60000]]) fun w=>
  bif (!(w.t 0).asB) then
   b2e k a c d e f g h l true
  else
   a0c (a0a E P0 k N.j8x [.v [.i m,.i a,.i c,.r n,.i d,.i e,.i f,.i g,.i h,.r o,.i l,.b p,.b q]]) fun x=>
   bif (!(x.t 0).asB) then
    b2e k a c d e f g h l true
   else
    a0c (a0a E P0 k N.j8y [.v [.i m,.i a,.i c,.r n,.i d,.i e,.i f,.i g,.i h,.r o,.i l,.b p,.b q]]) fun y=>
    b2e k a c d e f g h l (!(y.t 0).asB)
theorem g8n (k:Nat) (a c d:Int) (e:LL) (f g h l m:Int) (n:LL) (o:Int) (p q:Bool):a0a E P0 (k+1) N.j7j [.v [.i a,.i c,.i d,.r e,.i f,.i g,.i h,.i l,.i m,.r n,.i o,.b p,.b q]]=e4t k a c d e f g h l m n o p q:=by kernel_rfl
def c6q (k:Nat) (d e f:Int) (g:LL) (h l m n o:Int) (p:LL) (q:Int) (u w:Bool) (x a y z:LL) (A:(Int)→OO):(Int)→OO:=fun c=>
 bif (decide (c<(a.length:Int))) then
  a0c (a0a E P0 k N.j8v [.v [.i d,.i e,.i f,.r g,.i h,.i l,.i m,.i n,.i o,.r p,.i q,.b u,.b w,.r x,.r a,.r y,.r z],.v [.i c]]) fun B=>
  bif (!(B.t 0).asB) then some ⟨[.b false],[]⟩ else A (W64 (c+1))
 else
  a0c (a0a E P0 k N.j7j [.v [.i d,.i e,.i f,.r g,.i h,.i l,.i m,.i n,.i o,.r p,.i q,.b u,.b w]]) fun C=>
  bif (C.t 0).asB then
   bif (decide ((x.length:Int)≤8)) then
    bif (decide ((a.length:Int)≤4)) then
     bif (decide ((y.length:Int)≤8)) then
      some ⟨[.b (decide ((z.length:Int)≤400))],[]⟩
     else
      some ⟨[.b false],[]⟩
    else
     some ⟨[.b false],[]⟩
   else
    some ⟨[.b false],[]⟩
  else
   some ⟨[.b false],[]⟩
def g3m:List Nat:=[1,2,3,15,16,17,18,19,20,21,22,23,24,25,26,27,28,29,30,31,32,33,34,35,36,37,38,39,40,41]
def d8m (a c d:Int) (e:LL) (f g h l m:Int) (n:LL) (o:Int) (p q:Bool) (r t u w:LL):(Int)→St:=fun x=>⟨a2y [(1,.ptr (1,0) 0),(2,.b false),(3,.i .i64 x),(15,.skip),(16,.skip),(17,.skip),(18,.skip),(19,.skip),(20,.skip),(21,.skip),(22,.skip),(23,.skip),(24,.skip),(25,.skip),(26,.skip),(27,.skip),(28,.skip),(29,.skip),(30,.skip),(31,.skip),(32,.skip),(33,.skip),(34,.skip),(35,.skip),(36,.skip),(37,.skip),(38,.skip),(39,.skip),(40,.skip),(41,.skip)],a0y [((1,0),.var [.i .i64 a,.i .i64 c,.i .i64 d,.sl 147 e,.i .i64 f,.i .i64 g,.i .i64 h,.i .i64 l,.i .i64 m,.sl 149 n,.i .i64 o,.b p,.b q,.sl 70 r,.sl 72 t,.sl 76 u,.sl 106 w])]⟩
def b9l (k:Nat) (a b c:Int) (d:LL) (e f g h i:Int) (l:LL) (m:Int) (n o:Bool) (p q r t:LL) (u:(Int)→OO):(Int)→OO:=
 c6q k a b c d e f g h i l m n o p q r t u
def c2q (k:Nat) (b c d:Int) (e:LL) (f g h i l:Int) (m:LL) (n:Int) (o p:Bool) (q r t u:LL) (a:(Int)→OO):OO:=
 a 0
def e4u (k:Nat) (a b c:Int) (d:LL) (e f g h i:Int) (l:LL) (m:Int) (n o:Bool) (p q r t:LL):OO:=
 c2q k a b c d e f g h i l m n o p q r t (fun v=>a1l (b9l k a b c d e f g h i l m n o p q r t) k v)
def f6u (k:Nat) (a c d:Int) (e:LL) (f g h l m:Int) (n:LL) (o:Int) (p q:Bool) (t u w x:LL) (js:List Nat) (j:Nat) (s:St):OO:=a3g E (LB E (a0a E P0 k) k [] N.j8z [.sr,.sl,.sr,.bl]) [] g3m (LK E (a0a E P0 k) k [] N.j8z [.v [.i a,.i c,.i d,.r e,.i f,.i g,.i h,.i l,.i m,.r n,.i o,.b p,.b q,.r t,.r u,.r w,.r x]] [.sr,.sl,.sr,.bl] js) j s
theorem g8o (k:Nat) (a c d:Int) (e:LL) (f g h l m:Int) (n:LL) (o:Int) (p q:Bool) (t u w x:LL):a0a E P0 (k+1) N.j8z [.v [.i a,.i c,.i d,.r e,.i f,.i g,.i h,.i l,.i m,.r n,.i o,.b p,.b q,.r t,.r u,.r w,.r x]]=e4u k a c d e f g h l m n o p q t u w x:=
 Eq.trans (b:=c2q k a c d e f g h l m n o p q t u w x (fun v=>f6u k a c d e f g h l m n o p q t u w x [] k (d8m a c d e f g h l m n o p q t u w x v))) (by kernel_rfl) (congrArg (c2q k a c d e f g h l m n o p q t u w x) (funext fun v=>a0j (d8m a c d e f g h l m n o p q t u w x) (b9l k a c d e f g h l m n o p q t u w x) (fun j v=>by kernel_rfl) k v))
def c9s (k:Nat) (a c b:Int):OO:=
 a0c (a0a E P0 k N.j7c [.v [.i a,.i c]]) fun d=>
 a0c (a0a E P0 k N.j5y [.v [.i b],.v [.i 0],.v [.i (W64 ((d.t 0).asI - 1))]]) fun e=>
 bif (!(e.t 0).asB) then
  some ⟨[.i (-1)],[]⟩
 else
  chk (!decide ((W64 (a - 1))=0)) <|
  some ⟨[.i (W64 (Int.tdiv b (W64 (a - 1))))],[]⟩
theorem f1o (k:Nat) (a b c:Int):a0a E P0 (k+1) N.j6x [.v [.i a,.i b],.v [.i c]]=c9s k a b c:=by kernel_rfl
def d3x (k:Nat) (e b a f c g:Int) (d:LL):OO:=
 a0c (a0a E P0 k N.j8u [.v [.i e,.i b],.v [.i a,.i f,.i c,.i g,.r d]]) fun h=>
 bif ((h.t 0).asI != 0) then
  some ⟨[.i 0],[]⟩
 else
  bif (a == 4) then
   some ⟨[.i (W64 (b+1))],[]⟩
  else
   bif (a == 5) then
    some ⟨[.i 2],[]⟩
   else
    bif (a == 3) then
     a0c (a0a E P0 k N.j6x [.v [.i e,.i b],.v [.i (W64 ((W64 (c+(d.length:Int))) - 1))]]) fun l=>
     a0c (a0a E P0 k N.j6x [.v [.i e,.i b],.v [.i c]]) fun m=>
     some ⟨[.i (W64 ((W64 ((W64 ((d.length:Int)+(l.t 0).asI)) - (m.t 0).asI))+2))],[]⟩
    else
     a0c (a0a E P0 k N.j8t [.v [.i a,.i f,.i c,.i g,.r d]]) fun n=>
     some ⟨[.i (W64 ((n.t 0).asI+1))],[]⟩
theorem f6v (k:Nat) (a b c d e f:Int) (g:LL):a0a E P0 (k+1) N.k1f [.v [.i a,.i b],.v [.i c,.i d,.i e,.i f,.r g]]=d3x k a b c d e f g:=by kernel_rfl
def d8n (k:Nat) (e a c:Int) (f:LL) (g h l m n:Int) (o:LL) (p:Int) (d q:Bool) (u:Int):OO:=
 a0c (a0a E P0 k N.j7j [.v [.i e,.i a,.i c,.r f,.i g,.i h,.i l,.i m,.i n,.r o,.i p,.b d,.b q]]) fun w=>
 bif (!(w.t 0).asB) then
  some ⟨[.i 1],[]⟩
 else
  bif d then
   some ⟨[.i 6],[]⟩
  else
   a0c (a0a E P0 k N.j7c [.v [.i a,.i c]]) fun x=>
   a0c (a0a E P0 k N.j5y [.v [.i u],.v [.i 0],.v [.i (W64 ((x.t 0).asI - 1))]]) fun y=>
   bif (!(y.t 0).asB) then some ⟨[.i 2],[]⟩ else some ⟨[.i 0],[]⟩
theorem g3n (k:Nat) (a c d:Int) (e:LL) (f g h l m:Int) (n:LL) (o:Int) (p q:Bool) (t:Int):a0a E P0 (k+1) N.k1g [.v [.i a,.i c,.i d,.r e,.i f,.i g,.i h,.i l,.i m,.r n,.i o,.b p,.b q],.v [.i t]]=d8n k a c d e f g h l m n o p q t:=by kernel_rfl
def c9t (k:Nat) (e f g:Int) (h:LL) (l m n o p:Int) (b:LL) (q:Int) (r t:Bool) (c:Int) (d:(Int)→OO):(Int)→OO:=fun a=>
 bif (decide (a<(b.length:Int))) then
  chk (decide (0≤a)&&decide (a<(b.length:Int))) <|
  bif ((at_ b a.toNat 0).asI == c) then some ⟨[.i a],[]⟩ else d (W64 (a+1))
 else
  some ⟨[.i (-1)],[]⟩
def g8p:List Nat:=[1,2,4,5]
def e4v (a c d:Int) (e:LL) (f g h l m:Int) (n:LL) (o:Int) (p q:Bool) (r:Int):(Int)→St:=fun t=>⟨a2y [(1,.i .i64 r),(2,.ptr (2,0) 0),(4,.i .i64 0),(5,.i .i64 t)],a0y [((2,0),.var [.i .i64 a,.i .i64 c,.i .i64 d,.sl 147 e,.i .i64 f,.i .i64 g,.i .i64 h,.i .i64 l,.i .i64 m,.sl 149 n,.i .i64 o,.b p,.b q])]⟩
def c2r (k:Nat) (a b c:Int) (d:LL) (e f g h i:Int) (l:LL) (m:Int) (n o:Bool) (p:Int) (q:(Int)→OO):(Int)→OO:=
 c9t k a b c d e f g h i l m n o p q
def c6r (k:Nat) (b c d:Int) (e:LL) (f g h i l:Int) (m:LL) (n:Int) (o p:Bool) (q:Int) (a:(Int)→OO):OO:=
 a 0
def f1p (k:Nat) (a b c:Int) (d:LL) (e f g h i:Int) (l:LL) (m:Int) (n o:Bool) (p:Int):OO:=
 c6r k a b c d e f g h i l m n o p (fun v=>a1l (c2r k a b c d e f g h i l m n o p) k v)
def g3o (k:Nat) (a c d:Int) (e:LL) (f g h l m:Int) (n:LL) (o:Int) (p q:Bool) (t:Int) (js:List Nat) (j:Nat) (s:St):OO:=a3g E (LB E (a0a E P0 k) k [] N.j7k [.sr,.sl,.sr,.bl]) [] g8p (LK E (a0a E P0 k) k [] N.j7k [.v [.i a,.i c,.i d,.r e,.i f,.i g,.i h,.i l,.i m,.r n,.i o,.b p,.b q],.v [.i t]] [.sr,.sl,.sr,.bl] js) j s
theorem h2c (k:Nat) (a c d:Int) (e:LL) (f g h l m:Int) (n:LL) (o:Int) (p q:Bool) (t:Int):a0a E P0 (k+1) N.j7k [.v [.i a,.i c,.i d,.r e,.i f,.i g,.i h,.i l,.i m,.r n,.i o,.b p,.b q],.v [.i t]]=f1p k a c d e f g h l m n o p q t:=
 Eq.trans (b:=c6r k a c d e f g h l m n o p q t (fun v=>g3o k a c d e f g h l m n o p q t [] k (e4v a c d e f g h l m n o p q t v))) (by kernel_rfl) (congrArg (c6r k a c d e f g h l m n o p q t) (funext fun v=>a0j (e4v a c d e f g h l m n o p q t) (c2r k a c d e f g h l m n o p q t) (fun j v=>by kernel_rfl) k v))
end
end Go.Proofs.YtkamidjllckpgaaGreat.Ev
