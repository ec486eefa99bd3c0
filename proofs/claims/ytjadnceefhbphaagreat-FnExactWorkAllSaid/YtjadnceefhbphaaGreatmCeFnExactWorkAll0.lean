/- What functions answer under the evaluator, as Lean terms, part 0: what FnExactWorkAll needs. No condition. -/
import Derived.Test.YtjadnceefhbphaaGreatmTab
namespace Go.Proofs.YtjadnceefhbphaaGreat.Ev
open Go Go.Proofs
set_option linter.unusedVariables false
set_option maxRecDepth 100000
set_option maxHeartbeats 4000000
noncomputable section
def d2f (k:Nat) (a:LL) (b:Int):OO:=
 bif (decide ((W64 (b - (a.length:Int)))<0)) then
  so_ [.i (-1)]
 else
  so_ [.i (W64 (b - (a.length:Int)))]
theorem f6g (k:Nat) (a:LL) (b:Int):a0a E P0 (k+1) N.j2e [vr_ a,vi_ b]=d2f k a b:=by kernel_rfl
def b0y (k:Nat) (b:LL) (e:(V1_)→OO):(V1_)→OO:=fun (c,a)=>
 bif (decide (a<(b.length:Int))) then
  chk (decide (0≤a)&&decide (a<(b.length:Int))) <|
  a0f (a0a E P0 k N.j2e [.v [.r (at_ b a.toNat 0).asR],.v [.i c]]) fun d=>
  bif (decide ((d.t 0).asI<0)) then some ⟨[.i (-1)],[]⟩ else e ((d.t 0).asI,(W64 (a+1)))
 else
  some ⟨[.i c],[]⟩
def e4d:List Nat:=[0,1,4,5,26]
def e4e (a:LL):(V1_)→St:=fun (b,c)=>⟨a3q [(0,.sl 78 a),(1,.i .i64 b),(4,.i .i64 0),(5,.i .i64 c),(26,.skip)],a1f []⟩
def b9t (k:Nat) (a:LL) (b:Int) (c:(V1_)→OO):OO:=
 bif (decide ((W64 (b - (a.length:Int)))<0)) then
  some ⟨[.i (-1)],[]⟩
 else
  c ((W64 (b - (a.length:Int))),0)
def c8h (k:Nat) (a:LL) (b:Int):OO:=
 b9t k a b (fun v=>a1k (b0y k a) k v)
theorem e9g (k:Nat) (a:LL) (c:Int):a0a E P0 (k+1) N.j5x [.v [.r a],.v [.i c]]=c8h k a c:=a2c [] [.sr,.sr,.sr,.sl,.sr,.bl] e4d (b9t k a c) (e4e a) (b0y k a) (by kernel_rfl) (fun j v=>by kernel_rfl)
def e4f (k:Nat) (d:Int) (b:LL) (c:Int):OO:=
 a0f (a0a E P0 k N.j2e [.v [.r b],.v [.i c]]) fun a=>
 bif (decide ((a.t 0).asI<0)) then some ⟨[.i (-1)],[]⟩ else some ⟨[.i (a.t 0).asI],[]⟩
theorem g6l (k:Nat) (a:Int) (b:LL) (c:Int):a0a E P0 (k+1) N.j5y [.v [.i a,.r b],.v [.i c]]=e4f k a b c:=by kernel_rfl
def b6h (k:Nat) (b:LL) (e:(V1_)→OO):(V1_)→OO:=fun (c,a)=>
 bif (decide (a<(b.length:Int))) then
  chk (decide (0≤a)&&decide (a<(b.length:Int))) <|
  a0f (a0a E P0 k N.j5y [.v [.i (at_ b a.toNat 0).asI,.r (at_ b a.toNat 1).asR],.v [.i c]]) fun d=>
  bif (decide ((d.t 0).asI<0)) then some ⟨[.i (-1)],[]⟩ else e ((d.t 0).asI,(W64 (a+1)))
 else
  some ⟨[.i c],[]⟩
def f6h:List Nat:=[0,1,4,5,26]
def f6i (a:LL):(V1_)→St:=fun (b,c)=>⟨a3q [(0,.sl 183 a),(1,.i .i64 b),(4,.i .i64 0),(5,.i .i64 c),(26,.skip)],a1f []⟩
def c4s (k:Nat) (a:LL) (b:Int) (c:(V1_)→OO):OO:=
 bif (decide ((W64 (b - (a.length:Int)))<0)) then
  some ⟨[.i (-1)],[]⟩
 else
  c ((W64 (b - (a.length:Int))),0)
def d7o (k:Nat) (a:LL) (b:Int):OO:=
 c4s k a b (fun v=>a1k (b6h k a) k v)
theorem g2a (k:Nat) (a:LL) (c:Int):a0a E P0 (k+1) N.j5z [.v [.r a],.v [.i c]]=d7o k a c:=a2c [] [.sr,.sr,.sr,.sl,.sr,.bl] f6h (c4s k a c) (f6i a) (b6h k a) (by kernel_rfl) (fun j v=>by kernel_rfl)
def d7p (k:Nat) (d e:LL) (h:Bool) (f:LL) (g:Int):OO:=
 a0f (a0a E P0 k N.j5x [.v [.r d],.v [.i g]]) fun a=>
 bif (decide ((a.t 0).asI<0)) then
  some ⟨[.i (-1)],[]⟩
 else
  a0f (a0a E P0 k N.j5z [.v [.r e],.v [.i (a.t 0).asI]]) fun b=>
  bif (decide ((b.t 0).asI<0)) then
   some ⟨[.i (-1)],[]⟩
  else
   a0f (a0a E P0 k N.j2e [.v [.r f],.v [.i (b.t 0).asI]]) fun c=>
   bif (decide ((c.t 0).asI<0)) then some ⟨[.i (-1)],[]⟩ else some ⟨[.i (c.t 0).asI],[]⟩
theorem g2b (k:Nat) (a c:LL) (d:Bool) (e:LL) (f:Int):a0a E P0 (k+1) N.j6a [.v [.r a,.r c,.b d,.r e],.v [.i f]]=d7p k a c d e f:=by kernel_rfl
def b3s (k:Nat) (c:LL) (f:(V1_)→OO):(V1_)→OO:=fun (d,a)=>
 bif (decide (a<(c.length:Int))) then
  chk (decide (0≤a)&&decide (a<(c.length:Int))) <|
  a0f (a0a E P0 k N.j6a [.v [.r (at_ c a.toNat 0).asR,.r (at_ c a.toNat 1).asR,.b (at_ c a.toNat 2).asB,.r (at_ c a.toNat 3).asR],.v [.i d]]) fun e=>
  bif (decide ((e.t 0).asI<0)) then some ⟨[.i (-1)],[]⟩ else f ((e.t 0).asI,(W64 (a+1)))
 else
  some ⟨[.i d],[]⟩
def e9h:List Nat:=[0,1,4,5,26]
def e9i (a:LL):(V1_)→St:=fun (b,c)=>⟨a3q [(0,.sl 129 a),(1,.i .i64 b),(4,.i .i64 0),(5,.i .i64 c),(26,.skip)],a1f []⟩
def c1x (k:Nat) (a:LL) (b:Int) (c:(V1_)→OO):OO:=
 bif (decide ((W64 (b - (a.length:Int)))<0)) then
  some ⟨[.i (-1)],[]⟩
 else
  c ((W64 (b - (a.length:Int))),0)
def d2g (k:Nat) (a:LL) (b:Int):OO:=
 c1x k a b (fun v=>a1k (b3s k a) k v)
theorem f6j (k:Nat) (a:LL) (c:Int):a0a E P0 (k+1) N.j6b [.v [.r a],.v [.i c]]=d2g k a c:=a2c [] [.sr,.sr,.sr,.sl,.sr,.bl] e9h (c1x k a c) (e9i a) (b3s k a) (by kernel_rfl) (fun j v=>by kernel_rfl)
def d7q (k:Nat) (d:Int) (b:LL) (c:Int):OO:=
 a0f (a0a E P0 k N.j2e [.v [.r b],.v [.i c]]) fun a=>
 bif (decide ((a.t 0).asI<0)) then some ⟨[.i (-1)],[]⟩ else some ⟨[.i (a.t 0).asI],[]⟩
theorem g2c (k:Nat) (a:Int) (b:LL) (c:Int):a0a E P0 (k+1) N.j6c [.v [.i a,.r b],.v [.i c]]=d7q k a b c:=by kernel_rfl
def b3t (k:Nat) (b:LL) (e:(V1_)→OO):(V1_)→OO:=fun (c,a)=>
 bif (decide (a<(b.length:Int))) then
  chk (decide (0≤a)&&decide (a<(b.length:Int))) <|
  a0f (a0a E P0 k N.j6c [.v [.i (at_ b a.toNat 0).asI,.r (at_ b a.toNat 1).asR],.v [.i c]]) fun d=>
  bif (decide ((d.t 0).asI<0)) then some ⟨[.i (-1)],[]⟩ else e ((d.t 0).asI,(W64 (a+1)))
 else
  some ⟨[.i c],[]⟩
def e9j:List Nat:=[0,1,4,5,26]
def e9k (a:LL):(V1_)→St:=fun (b,c)=>⟨a3q [(0,.sl 132 a),(1,.i .i64 b),(4,.i .i64 0),(5,.i .i64 c),(26,.skip)],a1f []⟩
def c1y (k:Nat) (a:LL) (b:Int) (c:(V1_)→OO):OO:=
 bif (decide ((W64 (b - (a.length:Int)))<0)) then
  some ⟨[.i (-1)],[]⟩
 else
  c ((W64 (b - (a.length:Int))),0)
def d2h (k:Nat) (a:LL) (b:Int):OO:=
 c1y k a b (fun v=>a1k (b3t k a) k v)
theorem f6k (k:Nat) (a:LL) (c:Int):a0a E P0 (k+1) N.j6d [.v [.r a],.v [.i c]]=d2h k a c:=a2c [] [.sr,.sr,.sr,.sl,.sr,.bl] e9j (c1y k a c) (e9k a) (b3t k a) (by kernel_rfl) (fun j v=>by kernel_rfl)
def d7r (k:Nat) (f g h:Int) (c:LL) (l m n o p:Int) (d:LL) (q:Int) (u w:Bool) (e:Int):OO:=
 a0f (a0a E P0 k N.j6b [.v [.r c],.v [.i e]]) fun a=>
 bif (decide ((a.t 0).asI<0)) then
  some ⟨[.i (-1)],[]⟩
 else
  a0f (a0a E P0 k N.j6d [.v [.r d],.v [.i (a.t 0).asI]]) fun b=>
  bif (decide ((b.t 0).asI<0)) then some ⟨[.i (-1)],[]⟩ else some ⟨[.i (b.t 0).asI],[]⟩
theorem g2d (k:Nat) (a c d:Int) (e:LL) (f g h l m:Int) (n:LL) (o:Int) (p q:Bool) (t:Int):a0a E P0 (k+1) N.j6e [.v [.i a,.i c,.i d,.r e,.i f,.i g,.i h,.i l,.i m,.r n,.i o,.b p,.b q],.v [.i t]]=d7r k a c d e f g h l m n o p q t:=by kernel_rfl
def d7s (k:Nat) (d e f g:Int) (b:LL) (c:Int):OO:=
 a0f (a0a E P0 k N.j2e [.v [.r b],.v [.i c]]) fun a=>
 bif (decide ((a.t 0).asI<0)) then some ⟨[.i (-1)],[]⟩ else some ⟨[.i (a.t 0).asI],[]⟩
theorem g2e (k:Nat) (a b c d:Int) (e:LL) (f:Int):a0a E P0 (k+1) N.j3l [.v [.i a,.i b,.i c,.i d,.r e],.v [.i f]]=d7s k a b c d e f:=by kernel_rfl
def b3u (k:Nat) (b:LL) (e:(V1_)→OO):(V1_)→OO:=fun (c,a)=>
 bif (decide (a<(b.length:Int))) then
  chk (decide (0≤a)&&decide (a<(b.length:Int))) <|
  a0f (a0a E P0 k N.j3l [.v [.i (at_ b a.toNat 0).asI,.i (at_ b a.toNat 1).asI,.i (at_ b a.toNat 2).asI,.i (at_ b a.toNat 3).asI,.r (at_ b a.toNat 4).asR],.v [.i c]]) fun d=>
  bif (decide ((d.t 0).asI<0)) then some ⟨[.i (-1)],[]⟩ else e ((d.t 0).asI,(W64 (a+1)))
 else
  some ⟨[.i c],[]⟩
def e9l:List Nat:=[0,1,4,5,26]
def e9m (a:LL):(V1_)→St:=fun (b,c)=>⟨a3q [(0,.sl 80 a),(1,.i .i64 b),(4,.i .i64 0),(5,.i .i64 c),(26,.skip)],a1f []⟩
def c1z (k:Nat) (a:LL) (b:Int) (c:(V1_)→OO):OO:=
 bif (decide ((W64 (b - (a.length:Int)))<0)) then
  some ⟨[.i (-1)],[]⟩
 else
  c ((W64 (b - (a.length:Int))),0)
def d2i (k:Nat) (a:LL) (b:Int):OO:=
 c1z k a b (fun v=>a1k (b3u k a) k v)
theorem f6l (k:Nat) (a:LL) (c:Int):a0a E P0 (k+1) N.j6f [.v [.r a],.v [.i c]]=d2i k a c:=a2c [] [.sr,.sr,.sr,.sl,.sr,.bl] e9l (c1z k a c) (e9m a) (b3u k a) (by kernel_rfl) (fun j v=>by kernel_rfl)
def d7t (k:Nat) (c d e f:Int) (g:LL) (m:Int) (h:LL) (n l:Int):OO:=
 a0f (a0a E P0 k N.j3l [.v [.i c,.i d,.i e,.i f,.r g],.v [.i l]]) fun a=>
 bif (decide ((a.t 0).asI<0)) then
  some ⟨[.i (-1)],[]⟩
 else
  a0f (a0a E P0 k N.j2e [.v [.r h],.v [.i (a.t 0).asI]]) fun b=>
  bif (decide ((b.t 0).asI<0)) then some ⟨[.i (-1)],[]⟩ else some ⟨[.i (b.t 0).asI],[]⟩
theorem g2f (k:Nat) (a b c d:Int) (e:LL) (f:Int) (g:LL) (h l:Int):a0a E P0 (k+1) N.j6g [.v [.i a,.i b,.i c,.i d,.r e,.i f,.r g,.i h],.v [.i l]]=d7t k a b c d e f g h l:=by kernel_rfl
def b3v (k:Nat) (b:LL) (e:(V1_)→OO):(V1_)→OO:=fun (c,a)=>
 bif (decide (a<(b.length:Int))) then
  chk (decide (0≤a)&&decide (a<(b.length:Int))) <|
  a0f (a0a E P0 k N.j6g [.v [.i (at_ b a.toNat 0).asI,.i (at_ b a.toNat 1).asI,.i (at_ b a.toNat 2).asI,.i (at_ b a.toNat 3).asI,.r (at_ b a.toNat 4).asR,.i (at_ b a.toNat 5).asI,.r (at_ b a.toNat 6).asR,.i (at_ b a.toNat 7).asI],.v [.i c]]) fun d=>
  bif (decide ((d.t 0).asI<0)) then some ⟨[.i (-1)],[]⟩ else e ((d.t 0).asI,(W64 (a+1)))
 else
  some ⟨[.i c],[]⟩
def e9n:List Nat:=[0,1,4,5,26]
def e9o (a:LL):(V1_)→St:=fun (b,c)=>⟨a3q [(0,.sl 83 a),(1,.i .i64 b),(4,.i .i64 0),(5,.i .i64 c),(26,.skip)],a1f []⟩
def c2a (k:Nat) (a:LL) (b:Int) (c:(V1_)→OO):OO:=
 bif (decide ((W64 (b - (a.length:Int)))<0)) then
  some ⟨[.i (-1)],[]⟩
 else
  c ((W64 (b - (a.length:Int))),0)
def d2j (k:Nat) (a:LL) (b:Int):OO:=
 c2a k a b (fun v=>a1k (b3v k a) k v)
theorem f6m (k:Nat) (a:LL) (c:Int):a0a E P0 (k+1) N.j6h [.v [.r a],.v [.i c]]=d2j k a c:=a2c [] [.sr,.sr,.sr,.sl,.sr,.bl] e9n (c2a k a c) (e9o a) (b3v k a) (by kernel_rfl) (fun j v=>by kernel_rfl)
def d7u (k:Nat) (d e:Int) (b:LL) (c:Int):OO:=
 a0f (a0a E P0 k N.j2e [.v [.r b],.v [.i c]]) fun a=>
 bif (decide ((a.t 0).asI<0)) then some ⟨[.i (-1)],[]⟩ else some ⟨[.i (a.t 0).asI],[]⟩
theorem g2g (k:Nat) (a b:Int) (c:LL) (d:Int):a0a E P0 (k+1) N.j4f [.v [.i a,.i b,.r c],.v [.i d]]=d7u k a b c d:=by kernel_rfl
def b3w (k:Nat) (b:LL) (e:(V1_)→OO):(V1_)→OO:=fun (c,a)=>
 bif (decide (a<(b.length:Int))) then
  chk (decide (0≤a)&&decide (a<(b.length:Int))) <|
  a0f (a0a E P0 k N.j4f [.v [.i (at_ b a.toNat 0).asI,.i (at_ b a.toNat 1).asI,.r (at_ b a.toNat 2).asR],.v [.i c]]) fun d=>
  bif (decide ((d.t 0).asI<0)) then some ⟨[.i (-1)],[]⟩ else e ((d.t 0).asI,(W64 (a+1)))
 else
  some ⟨[.i c],[]⟩
def e9p:List Nat:=[0,1,4,5,26]
def e9q (a:LL):(V1_)→St:=fun (b,c)=>⟨a3q [(0,.sl 86 a),(1,.i .i64 b),(4,.i .i64 0),(5,.i .i64 c),(26,.skip)],a1f []⟩
def c2b (k:Nat) (a:LL) (b:Int) (c:(V1_)→OO):OO:=
 bif (decide ((W64 (b - (a.length:Int)))<0)) then
  some ⟨[.i (-1)],[]⟩
 else
  c ((W64 (b - (a.length:Int))),0)
def d2k (k:Nat) (a:LL) (b:Int):OO:=
 c2b k a b (fun v=>a1k (b3w k a) k v)
theorem f6n (k:Nat) (a:LL) (c:Int):a0a E P0 (k+1) N.j6i [.v [.r a],.v [.i c]]=d2k k a c:=a2c [] [.sr,.sr,.sr,.sl,.sr,.bl] e9p (c2b k a c) (e9q a) (b3w k a) (by kernel_rfl) (fun j v=>by kernel_rfl)
def d2l (k:Nat) (c d e f:Int) (g:LL) (h l:Int) (m:LL) (n:Int):OO:=
 a0f (a0a E P0 k N.j3l [.v [.i c,.i d,.i e,.i f,.r g],.v [.i n]]) fun a=>
 bif (decide ((a.t 0).asI<0)) then
  some ⟨[.i (-1)],[]⟩
 else
  a0f (a0a E P0 k N.j4f [.v [.i h,.i l,.r m],.v [.i (a.t 0).asI]]) fun b=>
  bif (decide ((b.t 0).asI<0)) then some ⟨[.i (-1)],[]⟩ else some ⟨[.i (b.t 0).asI],[]⟩
theorem f6o (k:Nat) (a b c d:Int) (e:LL) (f g:Int) (h:LL) (l:Int):a0a E P0 (k+1) N.j6j [.v [.i a,.i b,.i c,.i d,.r e,.i f,.i g,.r h],.v [.i l]]=d2l k a b c d e f g h l:=by kernel_rfl
def b0z (k:Nat) (b:LL) (e:(V1_)→OO):(V1_)→OO:=fun (c,a)=>
 bif (decide (a<(b.length:Int))) then
  chk (decide (0≤a)&&decide (a<(b.length:Int))) <|
  a0f (a0a E P0 k N.j6j [.v [.i (at_ b a.toNat 0).asI,.i (at_ b a.toNat 1).asI,.i (at_ b a.toNat 2).asI,.i (at_ b a.toNat 3).asI,.r (at_ b a.toNat 4).asR,.i (at_ b a.toNat 5).asI,.i (at_ b a.toNat 6).asI,.r (at_ b a.toNat 7).asR],.v [.i c]]) fun d=>
  bif (decide ((d.t 0).asI<0)) then some ⟨[.i (-1)],[]⟩ else e ((d.t 0).asI,(W64 (a+1)))
 else
  some ⟨[.i c],[]⟩
def e4g:List Nat:=[0,1,4,5,26]
def e4h (a:LL):(V1_)→St:=fun (b,c)=>⟨a3q [(0,.sl 89 a),(1,.i .i64 b),(4,.i .i64 0),(5,.i .i64 c),(26,.skip)],a1f []⟩
def b9u (k:Nat) (a:LL) (b:Int) (c:(V1_)→OO):OO:=
 bif (decide ((W64 (b - (a.length:Int)))<0)) then
  some ⟨[.i (-1)],[]⟩
 else
  c ((W64 (b - (a.length:Int))),0)
def c8i (k:Nat) (a:LL) (b:Int):OO:=
 b9u k a b (fun v=>a1k (b0z k a) k v)
theorem e9r (k:Nat) (a:LL) (c:Int):a0a E P0 (k+1) N.j6k [.v [.r a],.v [.i c]]=c8i k a c:=a2c [] [.sr,.sr,.sr,.sl,.sr,.bl] e4g (b9u k a c) (e4h a) (b0z k a) (by kernel_rfl) (fun j v=>by kernel_rfl)
def d7v (k:Nat) (g h l:Int) (m:LL) (n o p q u:Int) (w:LL) (x:Int) (y z:Bool) (A B C D:LL) (F:Int):OO:=
 a0f (a0a E P0 k N.j6e [.v [.i g,.i h,.i l,.r m,.i n,.i o,.i p,.i q,.i u,.r w,.i x,.b y,.b z],.v [.i F]]) fun a=>
 bif (decide ((a.t 0).asI<0)) then
  some ⟨[.i (-1)],[]⟩
 else
  a0f (a0a E P0 k N.j6f [.v [.r A],.v [.i (a.t 0).asI]]) fun c=>
  bif (decide ((c.t 0).asI<0)) then
   some ⟨[.i (-1)],[]⟩
  else
   a0f (a0a E P0 k N.j6h [.v [.r B],.v [.i (c.t 0).asI]]) fun d=>
   bif (decide ((d.t 0).asI<0)) then
    some ⟨[.i (-1)],[]⟩
   else
    a0f (a0a E P0 k N.j6i [.v [.r C],.v [.i (d.t 0).asI]]) fun e=>
    bif (decide ((e.t 0).asI<0)) then
     some ⟨[.i (-1)],[]⟩
    else
     a0f (a0a E P0 k N.j6k [.v [.r D],.v [.i (e.t 0).asI]]) fun f=>
     bif (decide ((f.t 0).asI<0)) then some ⟨[.i (-1)],[]⟩ else some ⟨[.i (f.t 0).asI],[]⟩
theorem g2h (k:Nat) (a c d:Int) (e:LL) (f g h l m:Int) (n:LL) (o:Int) (p q:Bool) (t u w x:LL) (y:Int):a0a E P0 (k+1) N.j6l [.v [.i a,.i c,.i d,.r e,.i f,.i g,.i h,.i l,.i m,.r n,.i o,.b p,.b q,.r t,.r u,.r w,.r x],.v [.i y]]=d7v k a c d e f g h l m n o p q t u w x y:=by kernel_rfl
def d7w (k:Nat) (a b:Int):OO:=
 so_ [.i a,.i b]
theorem g2i (k:Nat) (a b:Int):a0a E P0 (k+1) N.j6m [.v [.i a,.i b]]=d7w k a b:=by kernel_rfl
def b3x (k:Nat) (b:LL) (d:(V0_)→OO):(V0_)→OO:=fun (a,c)=>
 bif (decide (a<(b.length:Int))) then
  chk (decide (0≤a)&&decide (a<(b.length:Int))) <|
  chk (decide (0≤a)&&decide (a<(c.length:Int))) <|
  d ((W64 (a+1)),(a0x c a.toNat 0 [.i (at_ b a.toNat 0).asI]))
 else
  some ⟨[.r c],[]⟩
def e9s:List Nat:=[0,2,3,4,21]
def e9t (a:LL):(V0_)→St:=fun (b,c)=>⟨a3q [(0,.sl 3 a),(2,.ref (2,0)),(3,.ref (3,0)),(4,.i .i64 b),(21,.skip)],a1f [((2,0),.row 3 true []),((3,0),.row 3 true c)]⟩
def c2c (k:Nat) (a:LL) (b:(V0_)→OO):OO:=
 chk (decide ((a.length:Int)=(a.length:Int))&&decide (0≤(a.length:Int))&&decide ((a.length:Int)*((8:Nat):Int)≤140737488355328)) <|
 b (0,(List.replicate ((a.length:Int):Int).toNat ([.i 0]:List T)))
def d2m (k:Nat) (a:LL):OO:=
 c2c k a (fun v=>a1k (b3x k a) k v)
theorem f6p (k:Nat) (a:LL):a0a E P0 (k+1) N.j2f [.v [.r a]]=d2m k a:=a2c [] [.sr,.sr,.sl,.sr,.bl] e9s (c2c k a) (e9t a) (b3x k a) (by kernel_rfl) (fun j v=>by kernel_rfl)
def b1a (k:Nat) (b:LL) (d:(V0_)→OO):(V0_)→OO:=fun (a,c)=>
 bif (decide (a<(b.length:Int))) then
  chk (decide (0≤a)&&decide (a<(b.length:Int))) <|
  a0f (a0a E P0 k N.j2f [.v [.r (at_ b a.toNat 0).asR]]) fun e=>
  chk (decide (0≤a)&&decide (a<(c.length:Int))) <|
  d ((W64 (a+1)),(a0x c a.toNat 0 [.r (e.t 0).asR]))
 else
  some ⟨[.r c],[]⟩
def e4i:List Nat:=[0,2,3,4,22]
def e4j (a:LL):(V0_)→St:=fun (b,c)=>⟨a3q [(0,.sl 78 a),(2,.ref (2,0)),(3,.ref (3,0)),(4,.i .i64 b),(22,.skip)],Mem.put (a1f [((2,0),.deep 78 [] none),((3,0),.deep 78 c none)]) a3i .dead⟩
def b9v (k:Nat) (a:LL) (b:(V0_)→OO):OO:=
 chk (decide ((a.length:Int)=(a.length:Int))&&decide (0≤(a.length:Int))&&decide ((a.length:Int)*((24:Nat):Int)≤140737488355328)) <|
 b (0,(List.replicate ((a.length:Int):Int).toNat ([.r []]:List T)))
def c8j (k:Nat) (a:LL):OO:=
 b9v k a (fun v=>a1k (b1a k a) k v)
theorem e9u (k:Nat) (a:LL):a0a E P0 (k+1) N.j6n [.v [.r a]]=c8j k a:=a2c [] [.sr,.sr,.sl,.sr,.bl] e4i (b9v k a) (e4j a) (b1a k a) (by kernel_rfl) (fun j v=>by kernel_rfl)
def e4k (k:Nat) (a:Int) (b:LL):OO:=
 a0f (a0a E P0 k N.j2f [.v [.r b]]) fun c=>
 some ⟨[.i a,.r (c.t 0).asR],[]⟩
theorem g6m (k:Nat) (a:Int) (b:LL):a0a E P0 (k+1) N.j6o [.v [.i a,.r b]]=e4k k a b:=by kernel_rfl
def b6i (k:Nat) (b:LL) (e:(V0_)→OO):(V0_)→OO:=fun (a,c)=>
 bif (decide (a<(b.length:Int))) then
  chk (decide (0≤a)&&decide (a<(b.length:Int))) <|
  a0f (a0a E P0 k N.j6o [.v [.i (at_ b a.toNat 0).asI,.r (at_ b a.toNat 1).asR]]) fun d=>
  chk (decide (0≤a)&&decide (a<(c.length:Int))) <|
  e ((W64 (a+1)),(a0x c a.toNat 0 [.i (d.t 0).asI,.r (d.t 1).asR]))
 else
  some ⟨[.r c],[]⟩
def f6q:List Nat:=[0,2,3,4,22]
def f6r (a:LL):(V0_)→St:=fun (b,c)=>⟨a3q [(0,.sl 183 a),(2,.ref (2,0)),(3,.ref (3,0)),(4,.i .i64 b),(22,.skip)],Mem.put (a1f [((2,0),.deep 161 [] none),((3,0),.deep 161 c none)]) a3i .dead⟩
def c4t (k:Nat) (a:LL) (b:(V0_)→OO):OO:=
 chk (decide ((a.length:Int)=(a.length:Int))&&decide (0≤(a.length:Int))&&decide ((a.length:Int)*((32:Nat):Int)≤140737488355328)) <|
 b (0,(List.replicate ((a.length:Int):Int).toNat ([.i 0,.r []]:List T)))
def d7x (k:Nat) (a:LL):OO:=
 c4t k a (fun v=>a1k (b6i k a) k v)
theorem g2j (k:Nat) (a:LL):a0a E P0 (k+1) N.j6p [.v [.r a]]=d7x k a:=a2c [] [.sr,.sr,.sl,.sr,.bl] f6q (c4t k a) (f6r a) (b6i k a) (by kernel_rfl) (fun j v=>by kernel_rfl)
def d7y (k:Nat) (a c:LL) (d:Bool) (e:LL):OO:=
 a0f (a0a E P0 k N.j6n [.v [.r a]]) fun f=>
 a0f (a0a E P0 k N.j6p [.v [.r c]]) fun g=>
 a0f (a0a E P0 k N.j2f [.v [.r e]]) fun h=>
 some ⟨[.r (f.t 0).asR,.r (g.t 0).asR,.b d,.r (h.t 0).asR],[]⟩
theorem g2k (k:Nat) (a c:LL) (d:Bool) (e:LL):a0a E P0 (k+1) N.j6q [.v [.r a,.r c,.b d,.r e]]=d7y k a c d e:=by kernel_rfl
def b3y (k:Nat) (c:LL) (f:(V0_)→OO):(V0_)→OO:=fun (a,e)=>
 bif (decide (a<(c.length:Int))) then
  chk (decide (0≤a)&&decide (a<(c.length:Int))) <|
  a0f (a0a E P0 k N.j6q [.v [.r (at_ c a.toNat 0).asR,.r (at_ c a.toNat 1).asR,.b (at_ c a.toNat 2).asB,.r (at_ c a.toNat 3).asR]]) fun d=>
  chk (decide (0≤a)&&decide (a<(e.length:Int))) <|
  f ((W64 (a+1)),(a0x e a.toNat 0 [.r (d.t 0).asR,.r (d.t 1).asR,.b (d.t 2).asB,.r (d.t 3).asR]))
 else
  some ⟨[.r e],[]⟩
def e9v:List Nat:=[0,2,3,4,22]
def e9w (a:LL):(V0_)→St:=fun (b,c)=>⟨a3q [(0,.sl 129 a),(2,.ref (2,0)),(3,.ref (3,0)),(4,.i .i64 b),(22,.skip)],Mem.put (a1f [((2,0),.deep 135 [] none),((3,0),.deep 135 c none)]) a3i .dead⟩
def c2d (k:Nat) (a:LL) (c:(V0_)→OO):OO:=
 chk (decide ((a.length:Int)=(a.length:Int))&&decide (0≤(a.length:Int))&&decide ((a.length:Int)*((80:Nat):Int)≤140737488355328)) <|
 c (0,(List.replicate ((a.length:Int):Int).toNat ([.r [],.r [],.b false,.r []]:List T)))
def d2n (k:Nat) (a:LL):OO:=
 c2d k a (fun v=>a1k (b3y k a) k v)
theorem f6s (k:Nat) (a:LL):a0a E P0 (k+1) N.j6r [.v [.r a]]=d2n k a:=a2c [] [.sr,.sr,.sl,.sr,.bl] e9v (c2d k a) (e9w a) (b3y k a) (by kernel_rfl) (fun j v=>by kernel_rfl)
def d7z (k:Nat) (a:Int) (b:LL):OO:=
 a0f (a0a E P0 k N.j2f [.v [.r b]]) fun c=>
 some ⟨[.i a,.r (c.t 0).asR],[]⟩
theorem g2l (k:Nat) (a:Int) (b:LL):a0a E P0 (k+1) N.j6s [.v [.i a,.r b]]=d7z k a b:=by kernel_rfl
def b3z (k:Nat) (b:LL) (e:(V0_)→OO):(V0_)→OO:=fun (a,c)=>
 bif (decide (a<(b.length:Int))) then
  chk (decide (0≤a)&&decide (a<(b.length:Int))) <|
  a0f (a0a E P0 k N.j6s [.v [.i (at_ b a.toNat 0).asI,.r (at_ b a.toNat 1).asR]]) fun d=>
  chk (decide (0≤a)&&decide (a<(c.length:Int))) <|
  e ((W64 (a+1)),(a0x c a.toNat 0 [.i (d.t 0).asI,.r (d.t 1).asR]))
 else
  some ⟨[.r c],[]⟩
def e9x:List Nat:=[0,2,3,4,22]
def e9y (a:LL):(V0_)→St:=fun (b,c)=>⟨a3q [(0,.sl 132 a),(2,.ref (2,0)),(3,.ref (3,0)),(4,.i .i64 b),(22,.skip)],Mem.put (a1f [((2,0),.deep 137 [] none),((3,0),.deep 137 c none)]) a3i .dead⟩
def c2e (k:Nat) (a:LL) (b:(V0_)→OO):OO:=
 chk (decide ((a.length:Int)=(a.length:Int))&&decide (0≤(a.length:Int))&&decide ((a.length:Int)*((32:Nat):Int)≤140737488355328)) <|
 b (0,(List.replicate ((a.length:Int):Int).toNat ([.i 0,.r []]:List T)))
def d2o (k:Nat) (a:LL):OO:=
 c2e k a (fun v=>a1k (b3z k a) k v)
theorem f6t (k:Nat) (a:LL):a0a E P0 (k+1) N.j6t [.v [.r a]]=d2o k a:=a2c [] [.sr,.sr,.sl,.sr,.bl] e9x (c2e k a) (e9y a) (b3z k a) (by kernel_rfl) (fun j v=>by kernel_rfl)
def d8a (k:Nat) (c d e:Int) (f:LL) (g h l m n:Int) (o:LL) (p:Int) (q u:Bool):OO:=
 a0f (a0a E P0 k N.j6m [.v [.i d,.i e]]) fun a=>
 a0f (a0a E P0 k N.j6r [.v [.r f]]) fun w=>
 a0f (a0a E P0 k N.j6t [.v [.r o]]) fun x=>
 some ⟨[.i c,.i (a.t 0).asI,.i (a.t 1).asI,.r (w.t 0).asR,.i g,.i h,.i l,.i m,.i n,.r (x.t 0).asR,.i p,.b q,.b u],[]⟩
theorem g2m (k:Nat) (a c d:Int) (e:LL) (f g h l m:Int) (n:LL) (o:Int) (p q:Bool):a0a E P0 (k+1) N.j6u [.v [.i a,.i c,.i d,.r e,.i f,.i g,.i h,.i l,.i m,.r n,.i o,.b p,.b q]]=d8a k a c d e f g h l m n o p q:=by kernel_rfl
def d8b (k:Nat) (a b c d:Int) (e:LL):OO:=
 a0f (a0a E P0 k N.j2f [.v [.r e]]) fun f=>
 some ⟨[.i a,.i b,.i c,.i d,.r (f.t 0).asR],[]⟩
theorem g2n (k:Nat) (a b c d:Int) (e:LL):a0a E P0 (k+1) N.j3m [.v [.i a,.i b,.i c,.i d,.r e]]=d8b k a b c d e:=by kernel_rfl
def b4a (k:Nat) (b:LL) (e:(V0_)→OO):(V0_)→OO:=fun (a,d)=>
 bif (decide (a<(b.length:Int))) then
  chk (decide (0≤a)&&decide (a<(b.length:Int))) <|
  a0f (a0a E P0 k N.j3m [.v [.i (at_ b a.toNat 0).asI,.i (at_ b a.toNat 1).asI,.i (at_ b a.toNat 2).asI,.i (at_ b a.toNat 3).asI,.r (at_ b a.toNat 4).asR]]) fun c=>
  chk (decide (0≤a)&&decide (a<(d.length:Int))) <|
  e ((W64 (a+1)),(a0x d a.toNat 0 [.i (c.t 0).asI,.i (c.t 1).asI,.i (c.t 2).asI,.i (c.t 3).asI,.r (c.t 4).asR]))
 else
  some ⟨[.r d],[]⟩
def e9z:List Nat:=[0,2,3,4,22]
def f0a (a:LL):(V0_)→St:=fun (b,c)=>⟨a3q [(0,.sl 80 a),(2,.ref (2,0)),(3,.ref (3,0)),(4,.i .i64 b),(22,.skip)],Mem.put (a1f [((2,0),.deep 91 [] none),((3,0),.deep 91 c none)]) a3i .dead⟩
def c2f (k:Nat) (a:LL) (b:(V0_)→OO):OO:=
 chk (decide ((a.length:Int)=(a.length:Int))&&decide (0≤(a.length:Int))&&decide ((a.length:Int)*((56:Nat):Int)≤140737488355328)) <|
 b (0,(List.replicate ((a.length:Int):Int).toNat ([.i 0,.i 0,.i 0,.i 0,.r []]:List T)))
def d2p (k:Nat) (a:LL):OO:=
 c2f k a (fun v=>a1k (b4a k a) k v)
theorem f6u (k:Nat) (a:LL):a0a E P0 (k+1) N.j6v [.v [.r a]]=d2p k a:=a2c [] [.sr,.sr,.sl,.sr,.bl] e9z (c2f k a) (f0a a) (b4a k a) (by kernel_rfl) (fun j v=>by kernel_rfl)
def d8c (k:Nat) (b c d e:Int) (f:LL) (g:Int) (h:LL) (l:Int):OO:=
 a0f (a0a E P0 k N.j3m [.v [.i b,.i c,.i d,.i e,.r f]]) fun a=>
 a0f (a0a E P0 k N.j2f [.v [.r h]]) fun m=>
 some ⟨[.i (a.t 0).asI,.i (a.t 1).asI,.i (a.t 2).asI,.i (a.t 3).asI,.r (a.t 4).asR,.i g,.r (m.t 0).asR,.i l],[]⟩
theorem g2o (k:Nat) (a b c d:Int) (e:LL) (f:Int) (g:LL) (h:Int):a0a E P0 (k+1) N.j6w [.v [.i a,.i b,.i c,.i d,.r e,.i f,.r g,.i h]]=d8c k a b c d e f g h:=by kernel_rfl
def b4b (k:Nat) (b:LL) (e:(V0_)→OO):(V0_)→OO:=fun (a,d)=>
 bif (decide (a<(b.length:Int))) then
  chk (decide (0≤a)&&decide (a<(b.length:Int))) <|
  a0f (a0a E P0 k N.j6w [.v [.i (at_ b a.toNat 0).asI,.i (at_ b a.toNat 1).asI,.i (at_ b a.toNat 2).asI,.i (at_ b a.toNat 3).asI,.r (at_ b a.toNat 4).asR,.i (at_ b a.toNat 5).asI,.r (at_ b a.toNat 6).asR,.i (at_ b a.toNat 7).asI]]) fun c=>
  chk (decide (0≤a)&&decide (a<(d.length:Int))) <|
  e ((W64 (a+1)),(a0x d a.toNat 0 [.i (c.t 0).asI,.i (c.t 1).asI,.i (c.t 2).asI,.i (c.t 3).asI,.r (c.t 4).asR,.i (c.t 5).asI,.r (c.t 6).asR,.i (c.t 7).asI]))
 else
  some ⟨[.r d],[]⟩
def f0b:List Nat:=[0,2,3,4,22]
def f0c (a:LL):(V0_)→St:=fun (b,c)=>⟨a3q [(0,.sl 83 a),(2,.ref (2,0)),(3,.ref (3,0)),(4,.i .i64 b),(22,.skip)],Mem.put (a1f [((2,0),.deep 94 [] none),((3,0),.deep 94 c none)]) a3i .dead⟩
def c2g (k:Nat) (a:LL) (b:(V0_)→OO):OO:=
 chk (decide ((a.length:Int)=(a.length:Int))&&decide (0≤(a.length:Int))&&decide ((a.length:Int)*((96:Nat):Int)≤140737488355328)) <|
 b (0,(List.replicate ((a.length:Int):Int).toNat ([.i 0,.i 0,.i 0,.i 0,.r [],.i 0,.r [],.i 0]:List T)))
def d2q (k:Nat) (a:LL):OO:=
 c2g k a (fun v=>a1k (b4b k a) k v)
theorem f6v (k:Nat) (a:LL):a0a E P0 (k+1) N.j6x [.v [.r a]]=d2q k a:=a2c [] [.sr,.sr,.sl,.sr,.bl] f0b (c2g k a) (f0c a) (b4b k a) (by kernel_rfl) (fun j v=>by kernel_rfl)
def d8d (k:Nat) (a b:Int) (c:LL):OO:=
 a0f (a0a E P0 k N.j2f [.v [.r c]]) fun d=>
 some ⟨[.i a,.i b,.r (d.t 0).asR],[]⟩
theorem g2p (k:Nat) (a b:Int) (c:LL):a0a E P0 (k+1) N.j4g [.v [.i a,.i b,.r c]]=d8d k a b c:=by kernel_rfl
def b4c (k:Nat) (b:LL) (e:(V0_)→OO):(V0_)→OO:=fun (a,c)=>
 bif (decide (a<(b.length:Int))) then
  chk (decide (0≤a)&&decide (a<(b.length:Int))) <|
  a0f (a0a E P0 k N.j4g [.v [.i (at_ b a.toNat 0).asI,.i (at_ b a.toNat 1).asI,.r (at_ b a.toNat 2).asR]]) fun d=>
  chk (decide (0≤a)&&decide (a<(c.length:Int))) <|
  e ((W64 (a+1)),(a0x c a.toNat 0 [.i (d.t 0).asI,.i (d.t 1).asI,.r (d.t 2).asR]))
 else
  some ⟨[.r c],[]⟩
def f0d:List Nat:=[0,2,3,4,22]
def f0e (a:LL):(V0_)→St:=fun (b,c)=>⟨a3q [(0,.sl 86 a),(2,.ref (2,0)),(3,.ref (3,0)),(4,.i .i64 b),(22,.skip)],Mem.put (a1f [((2,0),.deep 95 [] none),((3,0),.deep 95 c none)]) a3i .dead⟩
def c2h (k:Nat) (a:LL) (b:(V0_)→OO):OO:=
 chk (decide ((a.length:Int)=(a.length:Int))&&decide (0≤(a.length:Int))&&decide ((a.length:Int)*((40:Nat):Int)≤140737488355328)) <|
 b (0,(List.replicate ((a.length:Int):Int).toNat ([.i 0,.i 0,.r []]:List T)))
def d2r (k:Nat) (a:LL):OO:=
 c2h k a (fun v=>a1k (b4c k a) k v)
theorem f6w (k:Nat) (a:LL):a0a E P0 (k+1) N.j6y [.v [.r a]]=d2r k a:=a2c [] [.sr,.sr,.sl,.sr,.bl] f0d (c2h k a) (f0e a) (b4c k a) (by kernel_rfl) (fun j v=>by kernel_rfl)
def d2s (k:Nat) (c d e f:Int) (g:LL) (h l:Int) (m:LL):OO:=
 a0f (a0a E P0 k N.j3m [.v [.i c,.i d,.i e,.i f,.r g]]) fun a=>
 a0f (a0a E P0 k N.j4g [.v [.i h,.i l,.r m]]) fun b=>
 some ⟨[.i (a.t 0).asI,.i (a.t 1).asI,.i (a.t 2).asI,.i (a.t 3).asI,.r (a.t 4).asR,.i (b.t 0).asI,.i (b.t 1).asI,.r (b.t 2).asR],[]⟩
theorem f6x (k:Nat) (a b c d:Int) (e:LL) (f g:Int) (h:LL):a0a E P0 (k+1) N.j6z [.v [.i a,.i b,.i c,.i d,.r e,.i f,.i g,.r h]]=d2s k a b c d e f g h:=by kernel_rfl
def b1b (k:Nat) (b:LL) (e:(V0_)→OO):(V0_)→OO:=fun (a,d)=>
 bif (decide (a<(b.length:Int))) then
  chk (decide (0≤a)&&decide (a<(b.length:Int))) <|
  a0f (a0a E P0 k N.j6z [.v [.i (at_ b a.toNat 0).asI,.i (at_ b a.toNat 1).asI,.i (at_ b a.toNat 2).asI,.i (at_ b a.toNat 3).asI,.r (at_ b a.toNat 4).asR,.i (at_ b a.toNat 5).asI,.i (at_ b a.toNat 6).asI,.r (at_ b a.toNat 7).asR]]) fun c=>
  chk (decide (0≤a)&&decide (a<(d.length:Int))) <|
  e ((W64 (a+1)),(a0x d a.toNat 0 [.i (c.t 0).asI,.i (c.t 1).asI,.i (c.t 2).asI,.i (c.t 3).asI,.r (c.t 4).asR,.i (c.t 5).asI,.i (c.t 6).asI,.r (c.t 7).asR]))
 else
  some ⟨[.r d],[]⟩
def e4l:List Nat:=[0,2,3,4,22]
def e4m (a:LL):(V0_)→St:=fun (b,c)=>⟨a3q [(0,.sl 89 a),(2,.ref (2,0)),(3,.ref (3,0)),(4,.i .i64 b),(22,.skip)],Mem.put (a1f [((2,0),.deep 98 [] none),((3,0),.deep 98 c none)]) a3i .dead⟩
def b9w (k:Nat) (a:LL) (b:(V0_)→OO):OO:=
 chk (decide ((a.length:Int)=(a.length:Int))&&decide (0≤(a.length:Int))&&decide ((a.length:Int)*((96:Nat):Int)≤140737488355328)) <|
 b (0,(List.replicate ((a.length:Int):Int).toNat ([.i 0,.i 0,.i 0,.i 0,.r [],.i 0,.i 0,.r []]:List T)))
def c8k (k:Nat) (a:LL):OO:=
 b9w k a (fun v=>a1k (b1b k a) k v)
theorem f0f (k:Nat) (a:LL):a0a E P0 (k+1) N.j7a [.v [.r a]]=c8k k a:=a2c [] [.sr,.sr,.sl,.sr,.bl] e4l (b9w k a) (e4m a) (b1b k a) (by kernel_rfl) (fun j v=>by kernel_rfl)
def d8e (k:Nat) (c d e:Int) (f:LL) (g h l m n:Int) (o:LL) (p:Int) (q u:Bool) (w x y z:LL):OO:=
 a0f (a0a E P0 k N.j6u [.v [.i c,.i d,.i e,.r f,.i g,.i h,.i l,.i m,.i n,.r o,.i p,.b q,.b u]]) fun a=>
 a0f (a0a E P0 k N.j6v [.v [.r w]]) fun A=>
 a0f (a0a E P0 k N.j6x [.v [.r x]]) fun B=>
 a0f (a0a E P0 k N.j6y [.v [.r y]]) fun C=>
 a0f (a0a E P0 k N.j7a [.v [.r z]]) fun D=>
 some ⟨[.i (a.t 0).asI,.i (a.t 1).asI,.i (a.t 2).asI,.r (a.t 3).asR,.i (a.t 4).asI,.i (a.t 5).asI,.i (a.t 6).asI,.i (a.t 7).asI,.i (a.t 8).asI,.r (a.t 9).asR,.i (a.t 10).asI,.b (a.t 11).asB,.b (a.t 12).asB,.r (A.t 0).asR,.r (B.t 0).asR,.r (C.t 0).asR,.r (D.t 0).asR],[]⟩
theorem g2q (k:Nat) (a c d:Int) (e:LL) (f g h l m:Int) (n:LL) (o:Int) (p q:Bool) (t u w x:LL):a0a E P0 (k+1) N.j2y [.v [.i a,.i c,.i d,.r e,.i f,.i g,.i h,.i l,.i m,.r n,.i o,.b p,.b q,.r t,.r u,.r w,.r x]]=d8e k a c d e f g h l m n o p q t u w x:=by kernel_rfl
def a4x (k:Nat) (l c:LL) (e:Bool) (m f g:LL) (h:(V0_)→OO):(V0_)→OO:=fun (a,d)=>
 bif (decide (a<(c.length:Int))) then
  chk (decide (0≤a)&&decide (a<(c.length:Int))) <|
  chk (decide (0≤a)&&decide (a<(c.length:Int))) <|
  chk (decide ((([]:LL).length+(at_ c a.toNat 1).asR.length)*8≤140737488355328)) <|
  chk (decide ((d.length+([[.i (at_ c a.toNat 0).asI,.r (([]:LL)++(at_ c a.toNat 1).asR)]]:LL).length)*32≤140737488355328)) <|
  h ((W64 (a+1)),(d++([[.i (at_ c a.toNat 0).asI,.r (([]:LL)++(at_ c a.toNat 1).asR)]]:LL)))
 else
  some ⟨[.r g,.r d,.b e,.r f],[]⟩
def f0g:List Nat:=[1,2,3,5,59]
def a8r (c d:LL) (a:Bool) (e f g:LL):(V0_)→St:=fun (h,l)=>⟨a3q [(1,.ptr (1,0) 0),(2,.ptr (2,0) 0),(3,.ptr (3,0) 0),(5,.i .i64 h),(59,.skip)],a1f [((1,0),.var [.sl 78 c,.sl 161 d,.b a,.sl 3 e]),((2,0),.var [.ref (2,1),.ref (2,2),.b false,.ref (2,4)]),((2,1),.row 78 true []),((2,2),.row 161 true []),((2,4),.row 3 true []),((3,0),.var [.ref (3,1),.ref (3,2),.b a,.ref (3,4)]),((3,1),.row 78 true g),((3,2),.row 161 true l),((3,4),.row 3 true f)]⟩
def b4d (k:Nat) (b g:LL) (h:Bool) (i d:LL) (e:LL→LL→(V0_)→OO) (f:(V0_)→OO):(V0_)→OO:=fun (a,c)=>
 bif (decide (a<(b.length:Int))) then
  chk (decide (0≤a)&&decide (a<(b.length:Int))) <|
  chk (decide ((([]:LL).length+(at_ b a.toNat 0).asR.length)*8≤140737488355328)) <|
  chk (decide ((c.length+([[.r (([]:LL)++(at_ b a.toNat 0).asR)]]:LL).length)*24≤140737488355328)) <|
  f ((W64 (a+1)),(c++([[.r (([]:LL)++(at_ b a.toNat 0).asR)]]:LL)))
 else
  e d c (0,[])
def f0h:List Nat:=[1,2,3,4,5,32,33,34,35,36,37,38,39,40,41,42,43,44,45,46,47,48,49,50,51,52,53,54,55,56,57,58,59]
def a8s (c d:LL) (a:Bool) (e f:LL):(V0_)→St:=fun (g,h)=>⟨a3q [(1,.ptr (1,0) 0),(2,.ptr (2,0) 0),(3,.ptr (3,0) 0),(4,.i .i64 g),(5,.skip),(32,.skip),(33,.skip),(34,.skip),(35,.skip),(36,.skip),(37,.skip),(38,.skip),(39,.skip),(40,.skip),(41,.skip),(42,.skip),(43,.skip),(44,.skip),(45,.skip),(46,.skip),(47,.skip),(48,.skip),(49,.skip),(50,.skip),(51,.skip),(52,.skip),(53,.skip),(54,.skip),(55,.skip),(56,.skip),(57,.skip),(58,.skip),(59,.skip)],a1f [((1,0),.var [.sl 78 c,.sl 161 d,.b a,.sl 3 e]),((2,0),.var [.ref (2,1),.ref (2,2),.b false,.ref (2,4)]),((2,1),.row 78 true []),((2,2),.row 161 true []),((2,4),.row 3 true []),((3,0),.var [.ref (3,1),.ref (3,2),.b a,.ref (3,4)]),((3,1),.row 78 true h),((3,2),.row 161 true []),((3,4),.row 3 true f)]⟩
def a6j (k:Nat) (a b:LL) (c:Bool) (d e:LL) (f:(V0_)→OO):(V0_)→OO:=
 b4d k a b c d e (fun g h v=>a1k (a4x k a b c d g h) k v) f
def c2i (k:Nat) (c d:LL) (e:Bool) (a:LL) (b:LL→(V0_)→OO):OO:=
 chk (decide ((([]:LL).length+a.length)*8≤140737488355328)) <|
 b (([]:LL)++a) (0,[])
def c2j (k:Nat) (a b:LL) (c:Bool) (d:LL):OO:=
 c2i k a b c d (fun e v=>a1k (a6j k a b c d e) k v)
def b1c (k:Nat) (a c:LL) (d:Bool) (e:LL) (js:List Nat) (j:Nat) (s:St):OO:=IT_ k N.j2m [.v [.r a,.r c,.b d,.r e]] [] [.sr,.sr,.sl,.sr,.bl] f0h js j s
def b1d (k:Nat) (a c:LL) (d:Bool) (e:LL) (js:List Nat) (j:Nat) (s:St):OO:=IT_ k N.j2m [.v [.r a,.r c,.b d,.r e]] [] [.sr,.sr,.sr,.sl,.sr,.bl] f0g js j s
theorem f6y (k:Nat) (a c:LL) (d:Bool) (e:LL):a0a E P0 (k+1) N.j2m [.v [.r a,.r c,.b d,.r e]]=c2j k a c d e:=by
 have m:a0a E P0 (k+1) N.j2m [.v [.r a,.r c,.b d,.r e]]=c2i k a c d e (fun l v=>b1c k a c d e [] k (a8s a c d e l v)):=by kernel_rfl
 have n:∀ (f g:LL) (h:Nat) (v:V0_),b1d k a c d e [] (h+1) (a8r a c d e f g v)=a4x k a c d e f g (fun v=>b1d k a c d e [] h (a8r a c d e f g v)) v:=by
  intro f g h v;kernel_rfl
 have o:∀ (f g:LL) (h:Nat) (v:V0_),b1d k a c d e [] h (a8r a c d e f g v)=a1k (a4x k a c d e f g) h v:=by
  intro f g h v;refine a1v (a8r a c d e f g) (a4x k a c d e f g) (fun h v=>(n f g h v).trans ?_) h v;unfold a4x;rfl
 have p:∀ (f:LL) (i:Nat) (v:V0_),b1c k a c d e [] (i+1) (a8s a c d e f v)=b4d k a c d e f (fun l q v=>b1d k a c d e [] k (a8r a c d e l q v)) (fun v=>b1c k a c d e [] i (a8s a c d e f v)) v:=by
  intro f i v;kernel_rfl
 have t:∀ (f:LL) (i:Nat) (v:V0_),b1c k a c d e [] i (a8s a c d e f v)=a1k (a6j k a c d e f) i v:=by
  intro f i v;refine a1v (a8s a c d e f) (a6j k a c d e f) (fun i v=>(p f i v).trans ?_) i v;unfold a6j;simp only [o] <;> rfl
 rw [m];unfold c2j;simp only [t]
def a4y (k:Nat) (e f g:Int) (x:LL) (h l m n o:Int) (c:LL) (p:Int) (q t:Bool) (u:LL) (w:(V0_)→OO):(V0_)→OO:=fun (a,d)=>
 bif (decide (a<(c.length:Int))) then
  chk (decide (0≤a)&&decide (a<(c.length:Int))) <|
  chk (decide (0≤a)&&decide (a<(c.length:Int))) <|
  chk (decide ((([]:LL).length+(at_ c a.toNat 1).asR.length)*8≤140737488355328)) <|
  chk (decide ((d.length+([[.i (at_ c a.toNat 0).asI,.r (([]:LL)++(at_ c a.toNat 1).asR)]]:LL).length)*32≤140737488355328)) <|
  w ((W64 (a+1)),(d++([[.i (at_ c a.toNat 0).asI,.r (([]:LL)++(at_ c a.toNat 1).asR)]]:LL)))
 else
  some ⟨[.i e,.i f,.i g,.r u,.i h,.i l,.i m,.i n,.i o,.r d,.i p,.b q,.b t],[]⟩
def f0i:List Nat:=[1,2,3,5,56]
def a8t (a c d:Int) (p:LL) (e f g h l:Int) (q:LL) (m:Int) (n o:Bool) (r:LL):(V0_)→St:=fun (t,u)=>⟨a3q [(1,.ptr (1,0) 0),(2,.ptr (2,0) 0),(3,.ptr (3,0) 0),(5,.i .i64 t),(56,.skip)],a1f [((1,0),.var [.i .i64 a,.i .i64 c,.i .i64 d,.sl 135 p,.i .i64 e,.i .i64 f,.i .i64 g,.i .i64 h,.i .i64 l,.sl 137 q,.i .i64 m,.b n,.b o]),((2,0),.var [.i .i64 0,.i .i64 0,.i .i64 0,.ref (2,4),.i .i64 0,.i .i64 0,.i .i64 0,.i .i64 0,.i .i64 0,.ref (2,10),.i .i64 0,.b false,.b false]),((2,4),.row 135 true []),((2,10),.row 137 true []),((3,0),.var [.i .i64 a,.i .i64 c,.i .i64 d,.ref (3,4),.i .i64 e,.i .i64 f,.i .i64 g,.i .i64 h,.i .i64 l,.ref (3,10),.i .i64 m,.b n,.b o]),((3,4),.row 135 true r),((3,10),.row 137 true u)]⟩
def b4e (k:Nat) (h i l:Int) (d:LL) (m n o p q:Int) (u:LL) (w:Int) (x y:Bool) (f:LL→(V0_)→OO) (g:(V0_)→OO):(V0_)→OO:=fun (a,e)=>
 bif (decide (a<(d.length:Int))) then
  chk (decide (0≤a)&&decide (a<(d.length:Int))) <|
  a0f (a0a E P0 k N.j2m [.v [.r (at_ d a.toNat 0).asR,.r (at_ d a.toNat 1).asR,.b (at_ d a.toNat 2).asB,.r (at_ d a.toNat 3).asR]]) fun c=>
  chk (decide ((e.length+([[.r (c.t 0).asR,.r (c.t 1).asR,.b (c.t 2).asB,.r (c.t 3).asR]]:LL).length)*80≤140737488355328)) <|
  g ((W64 (a+1)),(e++([[.r (c.t 0).asR,.r (c.t 1).asR,.b (c.t 2).asB,.r (c.t 3).asR]]:LL)))
 else
  f e (0,[])
def f0j:List Nat:=[1,2,3,4,5,27,28,29,30,31,32,33,34,35,36,37,38,39,40,41,42,43,44,45,46,47,48,49,50,51,52,53,54,55,56]
def a8u (a c d:Int) (q:LL) (e f g h l:Int) (m:LL) (n:Int) (o p:Bool):(V0_)→St:=fun (r,t)=>⟨a3q [(1,.ptr (1,0) 0),(2,.ptr (2,0) 0),(3,.ptr (3,0) 0),(4,.i .i64 r),(5,.skip),(27,.skip),(28,.skip),(29,.skip),(30,.skip),(31,.skip),(32,.skip),(33,.skip),(34,.skip),(35,.skip),(36,.skip),(37,.skip),(38,.skip),(39,.skip),(40,.skip),(41,.skip),(42,.skip),(43,.skip),(44,.skip),(45,.skip),(46,.skip),(47,.skip),(48,.skip),(49,.skip),(50,.skip),(51,.skip),(52,.skip),(53,.skip),(54,.skip),(55,.skip),(56,.skip)],a1f [((1,0),.var [.i .i64 a,.i .i64 c,.i .i64 d,.sl 135 q,.i .i64 e,.i .i64 f,.i .i64 g,.i .i64 h,.i .i64 l,.sl 137 m,.i .i64 n,.b o,.b p]),((2,0),.var [.i .i64 0,.i .i64 0,.i .i64 0,.ref (2,4),.i .i64 0,.i .i64 0,.i .i64 0,.i .i64 0,.i .i64 0,.ref (2,10),.i .i64 0,.b false,.b false]),((2,4),.row 135 true []),((2,10),.row 137 true []),((3,0),.var [.i .i64 a,.i .i64 c,.i .i64 d,.ref (3,4),.i .i64 e,.i .i64 f,.i .i64 g,.i .i64 h,.i .i64 l,.sl 137 m,.i .i64 n,.b o,.b p]),((3,4),.row 135 true t)]⟩
def a6k (k:Nat) (a b c:Int) (d:LL) (e f g h i:Int) (l:LL) (m:Int) (n o:Bool) (p:(V0_)→OO):(V0_)→OO:=
 b4e k a b c d e f g h i l m n o (fun q v=>a1k (a4y k a b c d e f g h i l m n o q) k v) p
def c2k (k:Nat) (b c d:Int) (e:LL) (f g h i l:Int) (m:LL) (n:Int) (o p:Bool) (a:(V0_)→OO):OO:=
 a (0,[])
def c2l (k:Nat) (a b c:Int) (d:LL) (e f g h i:Int) (l:LL) (m:Int) (n o:Bool):OO:=
 c2k k a b c d e f g h i l m n o (fun v=>a1k (a6k k a b c d e f g h i l m n o) k v)
def b1e (k:Nat) (a c d:Int) (e:LL) (f g h l m:Int) (n:LL) (o:Int) (p q:Bool) (js:List Nat) (j:Nat) (s:St):OO:=IT_ k N.j2n [.v [.i a,.i c,.i d,.r e,.i f,.i g,.i h,.i l,.i m,.r n,.i o,.b p,.b q]] [] [.sr,.sr,.sr,.sl,.sr,.bl] f0j js j s
def b1f (k:Nat) (a c d:Int) (e:LL) (f g h l m:Int) (n:LL) (o:Int) (p q:Bool) (js:List Nat) (j:Nat) (s:St):OO:=IT_ k N.j2n [.v [.i a,.i c,.i d,.r e,.i f,.i g,.i h,.i l,.i m,.r n,.i o,.b p,.b q]] [] [.sr,.sr,.sr,.sr,.sr,.sl,.sr,.bl] f0i js j s
theorem f6z (k:Nat) (a c d:Int) (e:LL) (f g h l m:Int) (n:LL) (o:Int) (p q:Bool):a0a E P0 (k+1) N.j2n [.v [.i a,.i c,.i d,.r e,.i f,.i g,.i h,.i l,.i m,.r n,.i o,.b p,.b q]]=c2l k a c d e f g h l m n o p q:=by
 have x:a0a E P0 (k+1) N.j2n [.v [.i a,.i c,.i d,.r e,.i f,.i g,.i h,.i l,.i m,.r n,.i o,.b p,.b q]]=c2k k a c d e f g h l m n o p q (fun v=>b1e k a c d e f g h l m n o p q [] k (a8u a c d e f g h l m n o p q v)):=by kernel_rfl
 have y:∀ (t:LL) (u:Nat) (v:V0_),b1f k a c d e f g h l m n o p q [] (u+1) (a8t a c d e f g h l m n o p q t v)=a4y k a c d e f g h l m n o p q t (fun v=>b1f k a c d e f g h l m n o p q [] u (a8t a c d e f g h l m n o p q t v)) v:=by
  intro t u v;kernel_rfl
 have z:∀ (t:LL) (u:Nat) (v:V0_),b1f k a c d e f g h l m n o p q [] u (a8t a c d e f g h l m n o p q t v)=a1k (a4y k a c d e f g h l m n o p q t) u v:=by
  intro t u v;refine a1v (a8t a c d e f g h l m n o p q t) (a4y k a c d e f g h l m n o p q t) (fun u v=>(y t u v).trans ?_) u v;unfold a4y;rfl
 have A:∀ (w:Nat) (v:V0_),b1e k a c d e f g h l m n o p q [] (w+1) (a8u a c d e f g h l m n o p q v)=b4e k a c d e f g h l m n o p q (fun B v=>b1f k a c d e f g h l m n o p q [] k (a8t a c d e f g h l m n o p q B v)) (fun v=>b1e k a c d e f g h l m n o p q [] w (a8u a c d e f g h l m n o p q v)) v:=by
  intro w v;kernel_rfl
 have C:∀ (w:Nat) (v:V0_),b1e k a c d e f g h l m n o p q [] w (a8u a c d e f g h l m n o p q v)=a1k (a6k k a c d e f g h l m n o p q) w v:=by
  intro w v;refine a1v (a8u a c d e f g h l m n o p q) (a6k k a c d e f g h l m n o p q) (fun w v=>(A w v).trans ?_) w v;unfold a6k;simp only [z] <;> rfl
 rw [x];unfold c2l;simp only [C]
def c8l (k:Nat) (b c d e:Int) (a:LL):OO:=
 chk (decide ((([]:LL).length+a.length)*8≤140737488355328)) <|
 so_ (S7_ b c d e (([]:LL)++a))
theorem f0k (k:Nat) (a b c d:Int) (e:LL):a0a E P0 (k+1) N.j3n [.v (S7_ a b c d e)]=c8l k a b c d e:=by kernel_rfl
def d2t (k:Nat) (b c:Int) (a:LL):OO:=
 chk (decide ((([]:LL).length+a.length)*8≤140737488355328)) <|
 so_ (S4_ b c (([]:LL)++a))
theorem f7a (k:Nat) (a b:Int) (c:LL):a0a E P0 (k+1) N.j1w [.v (S4_ a b c)]=d2t k a b c:=by kernel_rfl
def a4e (k:Nat) (o p q:Int) (u:LL) (w x y z A:Int) (B:LL) (C:Int) (D F:Bool) (G H J d:LL) (c:Outs) (h l m:LL) (n:(V0_)→OO):(V0_)→OO:=fun (a,g)=>
 bif (decide (a<(d.length:Int))) then
  chk (decide (0≤a)&&decide (a<(d.length:Int))) <|
  a0f (a0a E P0 k N.j3n [.v [.i (at_ d a.toNat 0).asI,.i (at_ d a.toNat 1).asI,.i (at_ d a.toNat 2).asI,.i (at_ d a.toNat 3).asI,.r (at_ d a.toNat 4).asR]]) fun e=>
  chk (decide (0≤a)&&decide (a<(d.length:Int))) <|
  a0f (a0a E P0 k N.j1w [.v [.i (at_ d a.toNat 5).asI,.i (at_ d a.toNat 6).asI,.r (at_ d a.toNat 7).asR]]) fun f=>
  chk (decide ((g.length+([[.i (e.t 0).asI,.i (e.t 1).asI,.i (e.t 2).asI,.i (e.t 3).asI,.r (e.t 4).asR,.i (f.t 0).asI,.i (f.t 1).asI,.r (f.t 2).asR]]:LL).length)*96≤140737488355328)) <|
  n ((W64 (a+1)),(g++([[.i (e.t 0).asI,.i (e.t 1).asI,.i (e.t 2).asI,.i (e.t 3).asI,.r (e.t 4).asR,.i (f.t 0).asI,.i (f.t 1).asI,.r (f.t 2).asR]]:LL)))
 else
  some ⟨[.i (c.t 0).asI,.i (c.t 1).asI,.i (c.t 2).asI,.r (c.t 3).asR,.i (c.t 4).asI,.i (c.t 5).asI,.i (c.t 6).asI,.i (c.t 7).asI,.i (c.t 8).asI,.r (c.t 9).asR,.i (c.t 10).asI,.b (c.t 11).asB,.b (c.t 12).asB,.r h,.r l,.r m,.r g],[]⟩
def e4n:List Nat:=[1,2,3,8,105]
def a7e (c d e:Int) (f:LL) (g h l m n:Int) (o:LL) (p:Int) (q r:Bool) (u w x y:LL) (a:Outs) (z A B:LL):(V0_)→St:=fun (C,D)=>⟨a3q [(1,.ptr (1,0) 0),(2,.ptr (2,0) 0),(3,.ptr (3,0) 0),(8,.i .i64 C),(105,.skip)],Mem.put (a1f [((1,0),.var [.i .i64 c,.i .i64 d,.i .i64 e,.sl 135 f,.i .i64 g,.i .i64 h,.i .i64 l,.i .i64 m,.i .i64 n,.sl 137 o,.i .i64 p,.b q,.b r,.sl 91 u,.sl 94 w,.sl 95 x,.sl 98 y]),((2,0),.var [.i .i64 0,.i .i64 0,.i .i64 0,.ref (2,4),.i .i64 0,.i .i64 0,.i .i64 0,.i .i64 0,.i .i64 0,.ref (2,10),.i .i64 0,.b false,.b false,.ref (2,14),.ref (2,15),.ref (2,16),.ref (2,17)]),((2,4),.deep 135 [] none),((2,10),.deep 137 [] none),((2,14),.deep 91 [] none),((2,15),.deep 94 [] none),((2,16),.deep 95 [] none),((2,17),.deep 98 [] none),((3,0),.var [.i .i64 (a.t 0).asI,.i .i64 (a.t 1).asI,.i .i64 (a.t 2).asI,.ref (3,4),.i .i64 (a.t 4).asI,.i .i64 (a.t 5).asI,.i .i64 (a.t 6).asI,.i .i64 (a.t 7).asI,.i .i64 (a.t 8).asI,.ref (3,10),.i .i64 (a.t 10).asI,.b (a.t 11).asB,.b (a.t 12).asB,.ref (3,14),.ref (3,15),.ref (3,16),.ref (3,17)]),((3,4),.row 135 true (a.t 3).asR),((3,10),.row 137 true (a.t 9).asR),((3,14),.deep 91 z none),((3,15),.deep 94 A none),((3,16),.deep 95 B none),((3,17),.deep 98 D none)]) a3i .dead⟩
def b1g (k:Nat) (m n o:Int) (p:LL) (q u w x y:Int) (z:LL) (A:Int) (B C:Bool) (D F c G:LL) (e:Outs) (f g:LL) (h:Outs→LL→LL→LL→(V0_)→OO) (l:(V0_)→OO):(V0_)→OO:=fun (a,d)=>
 bif (decide (a<(c.length:Int))) then
  chk (decide (0≤a)&&decide (a<(c.length:Int))) <|
  a0f (a0a E P0 k N.j1w [.v [.i (at_ c a.toNat 0).asI,.i (at_ c a.toNat 1).asI,.r (at_ c a.toNat 2).asR]]) fun b=>
  chk (decide ((d.length+([[.i (b.t 0).asI,.i (b.t 1).asI,.r (b.t 2).asR]]:LL).length)*40≤140737488355328)) <|
  l ((W64 (a+1)),(d++([[.i (b.t 0).asI,.i (b.t 1).asI,.r (b.t 2).asR]]:LL)))
 else
  h e f g d (0,[])
def e4o:List Nat:=[1,2,3,7,8,78,79,80,81,82,83,84,85,86,87,88,89,90,91,92,93,94,95,96,97,98,99,100,101,102,103,104,105]
def a7f (c d e:Int) (f:LL) (g h l m n:Int) (o:LL) (p:Int) (q r:Bool) (u w x y:LL) (a:Outs) (z A:LL):(V0_)→St:=fun (B,C)=>⟨a3q [(1,.ptr (1,0) 0),(2,.ptr (2,0) 0),(3,.ptr (3,0) 0),(7,.i .i64 B),(8,.skip),(78,.skip),(79,.skip),(80,.skip),(81,.skip),(82,.skip),(83,.skip),(84,.skip),(85,.skip),(86,.skip),(87,.skip),(88,.skip),(89,.skip),(90,.skip),(91,.skip),(92,.skip),(93,.skip),(94,.skip),(95,.skip),(96,.skip),(97,.skip),(98,.skip),(99,.skip),(100,.skip),(101,.skip),(102,.skip),(103,.skip),(104,.skip),(105,.skip)],Mem.put (a1f [((1,0),.var [.i .i64 c,.i .i64 d,.i .i64 e,.sl 135 f,.i .i64 g,.i .i64 h,.i .i64 l,.i .i64 m,.i .i64 n,.sl 137 o,.i .i64 p,.b q,.b r,.sl 91 u,.sl 94 w,.sl 95 x,.sl 98 y]),((2,0),.var [.i .i64 0,.i .i64 0,.i .i64 0,.ref (2,4),.i .i64 0,.i .i64 0,.i .i64 0,.i .i64 0,.i .i64 0,.ref (2,10),.i .i64 0,.b false,.b false,.ref (2,14),.ref (2,15),.ref (2,16),.ref (2,17)]),((2,4),.deep 135 [] none),((2,10),.deep 137 [] none),((2,14),.deep 91 [] none),((2,15),.deep 94 [] none),((2,16),.deep 95 [] none),((2,17),.deep 98 [] none),((3,0),.var [.i .i64 (a.t 0).asI,.i .i64 (a.t 1).asI,.i .i64 (a.t 2).asI,.ref (3,4),.i .i64 (a.t 4).asI,.i .i64 (a.t 5).asI,.i .i64 (a.t 6).asI,.i .i64 (a.t 7).asI,.i .i64 (a.t 8).asI,.ref (3,10),.i .i64 (a.t 10).asI,.b (a.t 11).asB,.b (a.t 12).asB,.ref (3,14),.ref (3,15),.ref (3,16),.ref (3,17)]),((3,4),.row 135 true (a.t 3).asR),((3,10),.row 137 true (a.t 9).asR),((3,14),.deep 91 z none),((3,15),.deep 94 A none),((3,16),.deep 95 C none),((3,17),.deep 98 [] none)]) a3i .dead⟩
def b1h (k:Nat) (l m n:Int) (o:LL) (p q u w x:Int) (y:LL) (z:Int) (A B:Bool) (C b D F:LL) (e:Outs) (f:LL) (g:Outs→LL→LL→(V0_)→OO) (h:(V0_)→OO):(V0_)→OO:=fun (a,d)=>
 bif (decide (a<(b.length:Int))) then
  chk (decide (0≤a)&&decide (a<(b.length:Int))) <|
  a0f (a0a E P0 k N.j3n [.v [.i (at_ b a.toNat 0).asI,.i (at_ b a.toNat 1).asI,.i (at_ b a.toNat 2).asI,.i (at_ b a.toNat 3).asI,.r (at_ b a.toNat 4).asR]]) fun c=>
  chk (decide ((([]:LL).length+(at_ b a.toNat 6).asR.length)*8≤140737488355328)) <|
  chk (decide ((d.length+([[.i (c.t 0).asI,.i (c.t 1).asI,.i (c.t 2).asI,.i (c.t 3).asI,.r (c.t 4).asR,.i (at_ b a.toNat 5).asI,.r (([]:LL)++(at_ b a.toNat 6).asR),.i (at_ b a.toNat 7).asI]]:LL).length)*96≤140737488355328)) <|
  h ((W64 (a+1)),(d++([[.i (c.t 0).asI,.i (c.t 1).asI,.i (c.t 2).asI,.i (c.t 3).asI,.r (c.t 4).asR,.i (at_ b a.toNat 5).asI,.r (([]:LL)++(at_ b a.toNat 6).asR),.i (at_ b a.toNat 7).asI]]:LL)))
 else
  g e f d (0,[])
def e4p:List Nat:=[1,2,3,5,7,8,60,61,62,63,64,65,66,67,68,69,70,71,72,73,74,75,76,77,78,79,80,81,82,83,84,85,86,87,88,89,90,91,92,93,94,95,96,97,98,99,100,101,102,103,104,105]
def a7g (c d e:Int) (f:LL) (g h l m n:Int) (o:LL) (p:Int) (q r:Bool) (u w x y:LL) (a:Outs) (z:LL):(V0_)→St:=fun (A,B)=>⟨a3q [(1,.ptr (1,0) 0),(2,.ptr (2,0) 0),(3,.ptr (3,0) 0),(5,.i .i64 A),(7,.skip),(8,.skip),(60,.skip),(61,.skip),(62,.skip),(63,.skip),(64,.skip),(65,.skip),(66,.skip),(67,.skip),(68,.skip),(69,.skip),(70,.skip),(71,.skip),(72,.skip),(73,.skip),(74,.skip),(75,.skip),(76,.skip),(77,.skip),(78,.skip),(79,.skip),(80,.skip),(81,.skip),(82,.skip),(83,.skip),(84,.skip),(85,.skip),(86,.skip),(87,.skip),(88,.skip),(89,.skip),(90,.skip),(91,.skip),(92,.skip),(93,.skip),(94,.skip),(95,.skip),(96,.skip),(97,.skip),(98,.skip),(99,.skip),(100,.skip),(101,.skip),(102,.skip),(103,.skip),(104,.skip),(105,.skip)],Mem.put (a1f [((1,0),.var [.i .i64 c,.i .i64 d,.i .i64 e,.sl 135 f,.i .i64 g,.i .i64 h,.i .i64 l,.i .i64 m,.i .i64 n,.sl 137 o,.i .i64 p,.b q,.b r,.sl 91 u,.sl 94 w,.sl 95 x,.sl 98 y]),((2,0),.var [.i .i64 0,.i .i64 0,.i .i64 0,.ref (2,4),.i .i64 0,.i .i64 0,.i .i64 0,.i .i64 0,.i .i64 0,.ref (2,10),.i .i64 0,.b false,.b false,.ref (2,14),.ref (2,15),.ref (2,16),.ref (2,17)]),((2,4),.deep 135 [] none),((2,10),.deep 137 [] none),((2,14),.deep 91 [] none),((2,15),.deep 94 [] none),((2,16),.deep 95 [] none),((2,17),.deep 98 [] none),((3,0),.var [.i .i64 (a.t 0).asI,.i .i64 (a.t 1).asI,.i .i64 (a.t 2).asI,.ref (3,4),.i .i64 (a.t 4).asI,.i .i64 (a.t 5).asI,.i .i64 (a.t 6).asI,.i .i64 (a.t 7).asI,.i .i64 (a.t 8).asI,.ref (3,10),.i .i64 (a.t 10).asI,.b (a.t 11).asB,.b (a.t 12).asB,.ref (3,14),.ref (3,15),.ref (3,16),.ref (3,17)]),((3,4),.row 135 true (a.t 3).asR),((3,10),.row 137 true (a.t 9).asR),((3,14),.deep 91 z none),((3,15),.deep 94 B none),((3,16),.deep 95 [] none),((3,17),.deep 98 [] none)]) a3i .dead⟩
def b1i (k:Nat) (h l m:Int) (n:LL) (o p q u w:Int) (x:LL) (y:Int) (z A:Bool) (c B C D:LL) (e:Outs) (f:Outs→LL→(V0_)→OO) (g:(V0_)→OO):(V0_)→OO:=fun (b,d)=>
 bif (decide (b<(c.length:Int))) then
  chk (decide (0≤b)&&decide (b<(c.length:Int))) <|
  a0f (a0a E P0 k N.j3n [.v [.i (at_ c b.toNat 0).asI,.i (at_ c b.toNat 1).asI,.i (at_ c b.toNat 2).asI,.i (at_ c b.toNat 3).asI,.r (at_ c b.toNat 4).asR]]) fun a=>
  chk (decide ((d.length+([[.i (a.t 0).asI,.i (a.t 1).asI,.i (a.t 2).asI,.i (a.t 3).asI,.r (a.t 4).asR]]:LL).length)*56≤140737488355328)) <|
  g ((W64 (b+1)),(d++([[.i (a.t 0).asI,.i (a.t 1).asI,.i (a.t 2).asI,.i (a.t 3).asI,.r (a.t 4).asR]]:LL)))
 else
  f e d (0,[])
def e4q:List Nat:=[1,2,3,4,5,6,7,8,31,32,33,34,35,36,37,38,39,40,41,42,43,44,45,46,47,48,49,50,51,52,53,54,55,56,57,58,59,60,61,62,63,64,65,66,67,68,69,70,71,72,73,74,75,76,77,78,79,80,81,82,83,84,85,86,87,88,89,90,91,92,93,94,95,96,97,98,99,100,101,102,103,104,105]
def a7h (c d e:Int) (f:LL) (g h l m n:Int) (o:LL) (p:Int) (q r:Bool) (u w x y:LL) (a:Outs):(V0_)→St:=fun (z,A)=>⟨a3q [(1,.ptr (1,0) 0),(2,.ptr (2,0) 0),(3,.ptr (3,0) 0),(4,.i .i64 z),(5,.skip),(6,.skip),(7,.skip),(8,.skip),(31,.skip),(32,.skip),(33,.skip),(34,.skip),(35,.skip),(36,.skip),(37,.skip),(38,.skip),(39,.skip),(40,.skip),(41,.skip),(42,.skip),(43,.skip),(44,.skip),(45,.skip),(46,.skip),(47,.skip),(48,.skip),(49,.skip),(50,.skip),(51,.skip),(52,.skip),(53,.skip),(54,.skip),(55,.skip),(56,.skip),(57,.skip),(58,.skip),(59,.skip),(60,.skip),(61,.skip),(62,.skip),(63,.skip),(64,.skip),(65,.skip),(66,.skip),(67,.skip),(68,.skip),(69,.skip),(70,.skip),(71,.skip),(72,.skip),(73,.skip),(74,.skip),(75,.skip),(76,.skip),(77,.skip),(78,.skip),(79,.skip),(80,.skip),(81,.skip),(82,.skip),(83,.skip),(84,.skip),(85,.skip),(86,.skip),(87,.skip),(88,.skip),(89,.skip),(90,.skip),(91,.skip),(92,.skip),(93,.skip),(94,.skip),(95,.skip),(96,.skip),(97,.skip),(98,.skip),(99,.skip),(100,.skip),(101,.skip),(102,.skip),(103,.skip),(104,.skip),(105,.skip)],Mem.put (a1f [((1,0),.var [.i .i64 c,.i .i64 d,.i .i64 e,.sl 135 f,.i .i64 g,.i .i64 h,.i .i64 l,.i .i64 m,.i .i64 n,.sl 137 o,.i .i64 p,.b q,.b r,.sl 91 u,.sl 94 w,.sl 95 x,.sl 98 y]),((2,0),.var [.i .i64 0,.i .i64 0,.i .i64 0,.ref (2,4),.i .i64 0,.i .i64 0,.i .i64 0,.i .i64 0,.i .i64 0,.ref (2,10),.i .i64 0,.b false,.b false,.ref (2,14),.ref (2,15),.ref (2,16),.ref (2,17)]),((2,4),.deep 135 [] none),((2,10),.deep 137 [] none),((2,14),.deep 91 [] none),((2,15),.deep 94 [] none),((2,16),.deep 95 [] none),((2,17),.deep 98 [] none),((3,0),.var [.i .i64 (a.t 0).asI,.i .i64 (a.t 1).asI,.i .i64 (a.t 2).asI,.ref (3,4),.i .i64 (a.t 4).asI,.i .i64 (a.t 5).asI,.i .i64 (a.t 6).asI,.i .i64 (a.t 7).asI,.i .i64 (a.t 8).asI,.ref (3,10),.i .i64 (a.t 10).asI,.b (a.t 11).asB,.b (a.t 12).asB,.ref (3,14),.ref (3,15),.ref (3,16),.ref (3,17)]),((3,4),.row 135 true (a.t 3).asR),((3,10),.row 137 true (a.t 9).asR),((3,14),.deep 91 A none),((3,15),.deep 94 [] none),((3,16),.deep 95 [] none),((3,17),.deep 98 [] none)]) a3i .dead⟩
def a5f (k:Nat) (a b c:Int) (d:LL) (e f g h i:Int) (l:LL) (m:Int) (n o:Bool) (p q r t:LL) (u:Outs) (w x:LL) (y:(V0_)→OO):(V0_)→OO:=
 b1g k a b c d e f g h i l m n o p q r t u w x (fun z A B C v=>a1k (a4e k a b c d e f g h i l m n o p q r t z A B C) k v) y
def a5g (k:Nat) (a b c:Int) (d:LL) (e f g h i:Int) (l:LL) (m:Int) (n o:Bool) (p q r t:LL) (u:Outs) (w:LL) (x:(V0_)→OO):(V0_)→OO:=
 b1h k a b c d e f g h i l m n o p q r t u w (fun y z A v=>a1k (a5f k a b c d e f g h i l m n o p q r t y z A) k v) x
def a5h (k:Nat) (a b c:Int) (d:LL) (e f g h i:Int) (l:LL) (m:Int) (n o:Bool) (p q r t:LL) (u:Outs) (w:(V0_)→OO):(V0_)→OO:=
 b1i k a b c d e f g h i l m n o p q r t u (fun x y v=>a1k (a5g k a b c d e f g h i l m n o p q r t x y) k v) w
def b9x (k:Nat) (a c d:Int) (e:LL) (f g h l m:Int) (n:LL) (o:Int) (p q:Bool) (w x y z:LL) (t:Outs→(V0_)→OO):OO:=
 a0f (a0a E P0 k N.j2n [.v [.i a,.i c,.i d,.r e,.i f,.i g,.i h,.i l,.i m,.r n,.i o,.b p,.b q]]) fun u=>
 t u (0,[])
def b9y (k:Nat) (a b c:Int) (d:LL) (e f g h i:Int) (l:LL) (m:Int) (n o:Bool) (p q r t:LL):OO:=
 b9x k a b c d e f g h i l m n o p q r t (fun u v=>a1k (a5h k a b c d e f g h i l m n o p q r t u) k v)
def a9i (k:Nat) (a c d:Int) (e:LL) (f g h l m:Int) (n:LL) (o:Int) (p q:Bool) (t u w x:LL) (js:List Nat) (j:Nat) (s:St):OO:=IT_ k N.j2g [.v [.i a,.i c,.i d,.r e,.i f,.i g,.i h,.i l,.i m,.r n,.i o,.b p,.b q,.r t,.r u,.r w,.r x]] [] [.sr,.sr,.sl,.sr,.bl] e4q js j s
def a9j (k:Nat) (a c d:Int) (e:LL) (f g h l m:Int) (n:LL) (o:Int) (p q:Bool) (t u w x:LL) (js:List Nat) (j:Nat) (s:St):OO:=IT_ k N.j2g [.v [.i a,.i c,.i d,.r e,.i f,.i g,.i h,.i l,.i m,.r n,.i o,.b p,.b q,.r t,.r u,.r w,.r x]] [] [.sr,.sr,.sr,.sl,.sr,.bl] e4p js j s
def a9k (k:Nat) (a c d:Int) (e:LL) (f g h l m:Int) (n:LL) (o:Int) (p q:Bool) (t u w x:LL) (js:List Nat) (j:Nat) (s:St):OO:=IT_ k N.j2g [.v [.i a,.i c,.i d,.r e,.i f,.i g,.i h,.i l,.i m,.r n,.i o,.b p,.b q,.r t,.r u,.r w,.r x]] [] [.sr,.sr,.sr,.sr,.sl,.sr,.bl] e4o js j s
def a9l (k:Nat) (a c d:Int) (e:LL) (f g h l m:Int) (n:LL) (o:Int) (p q:Bool) (t u w x:LL) (js:List Nat) (j:Nat) (s:St):OO:=IT_ k N.j2g [.v [.i a,.i c,.i d,.r e,.i f,.i g,.i h,.i l,.i m,.r n,.i o,.b p,.b q,.r t,.r u,.r w,.r x]] [] [.sr,.sr,.sr,.sr,.sr,.sl,.sr,.bl] e4n js j s
theorem f0l (k:Nat) (a c d:Int) (e:LL) (f g h l m:Int) (n:LL) (o:Int) (p q:Bool) (t u w x:LL):a0a E P0 (k+1) N.j2g [.v [.i a,.i c,.i d,.r e,.i f,.i g,.i h,.i l,.i m,.r n,.i o,.b p,.b q,.r t,.r u,.r w,.r x]]=b9y k a c d e f g h l m n o p q t u w x:=by
 have L:a0a E P0 (k+1) N.j2g [.v [.i a,.i c,.i d,.r e,.i f,.i g,.i h,.i l,.i m,.r n,.i o,.b p,.b q,.r t,.r u,.r w,.r x]]=b9x k a c d e f g h l m n o p q t u w x (fun H v=>a9i k a c d e f g h l m n o p q t u w x [] k (a7h a c d e f g h l m n o p q t u w x H v)):=by kernel_rfl
 have M:∀ (y:Outs) (z A B:LL) (C:Nat) (v:V0_),a9l k a c d e f g h l m n o p q t u w x [] (C+1) (a7e a c d e f g h l m n o p q t u w x y z A B v)=a4e k a c d e f g h l m n o p q t u w x y z A B (fun v=>a9l k a c d e f g h l m n o p q t u w x [] C (a7e a c d e f g h l m n o p q t u w x y z A B v)) v:=by
  intro y z A B C v;kernel_rfl
 have O:∀ (y:Outs) (z A B:LL) (C:Nat) (v:V0_),a9l k a c d e f g h l m n o p q t u w x [] C (a7e a c d e f g h l m n o p q t u w x y z A B v)=a1k (a4e k a c d e f g h l m n o p q t u w x y z A B) C v:=by
  intro y z A B C v;refine a1v (a7e a c d e f g h l m n o p q t u w x y z A B) (a4e k a c d e f g h l m n o p q t u w x y z A B) (fun C v=>(M y z A B C v).trans ?_) C v;unfold a4e;rfl
 have Q:∀ (y:Outs) (z A:LL) (D:Nat) (v:V0_),a9k k a c d e f g h l m n o p q t u w x [] (D+1) (a7f a c d e f g h l m n o p q t u w x y z A v)=b1g k a c d e f g h l m n o p q t u w x y z A (fun H J K R v=>a9l k a c d e f g h l m n o p q t u w x [] k (a7e a c d e f g h l m n o p q t u w x H J K R v)) (fun v=>a9k k a c d e f g h l m n o p q t u w x [] D (a7f a c d e f g h l m n o p q t u w x y z A v)) v:=by
  intro y z A D v;kernel_rfl
 have S:∀ (y:Outs) (z A:LL) (D:Nat) (v:V0_),a9k k a c d e f g h l m n o p q t u w x [] D (a7f a c d e f g h l m n o p q t u w x y z A v)=a1k (a5f k a c d e f g h l m n o p q t u w x y z A) D v:=by
  intro y z A D v;refine a1v (a7f a c d e f g h l m n o p q t u w x y z A) (a5f k a c d e f g h l m n o p q t u w x y z A) (fun D v=>(Q y z A D v).trans ?_) D v;unfold a5f;simp only [O] <;> rfl
 have U:∀ (y:Outs) (z:LL) (F:Nat) (v:V0_),a9j k a c d e f g h l m n o p q t u w x [] (F+1) (a7g a c d e f g h l m n o p q t u w x y z v)=b1h k a c d e f g h l m n o p q t u w x y z (fun H J K v=>a9k k a c d e f g h l m n o p q t u w x [] k (a7f a c d e f g h l m n o p q t u w x H J K v)) (fun v=>a9j k a c d e f g h l m n o p q t u w x [] F (a7g a c d e f g h l m n o p q t u w x y z v)) v:=by
  intro y z F v;kernel_rfl
 have V:∀ (y:Outs) (z:LL) (F:Nat) (v:V0_),a9j k a c d e f g h l m n o p q t u w x [] F (a7g a c d e f g h l m n o p q t u w x y z v)=a1k (a5g k a c d e f g h l m n o p q t u w x y z) F v:=by
  intro y z F v;refine a1v (a7g a c d e f g h l m n o p q t u w x y z) (a5g k a c d e f g h l m n o p q t u w x y z) (fun F v=>(U y z F v).trans ?_) F v;unfold a5g;simp only [S] <;> rfl
 have W:∀ (y:Outs) (G:Nat) (v:V0_),a9i k a c d e f g h l m n o p q t u w x [] (G+1) (a7h a c d e f g h l m n o p q t u w x y v)=b1i k a c d e f g h l m n o p q t u w x y (fun H J v=>a9j k a c d e f g h l m n o p q t u w x [] k (a7g a c d e f g h l m n o p q t u w x H J v)) (fun v=>a9i k a c d e f g h l m n o p q t u w x [] G (a7h a c d e f g h l m n o p q t u w x y v)) v:=by
  intro y G v;kernel_rfl
 have X:∀ (y:Outs) (G:Nat) (v:V0_),a9i k a c d e f g h l m n o p q t u w x [] G (a7h a c d e f g h l m n o p q t u w x y v)=a1k (a5h k a c d e f g h l m n o p q t u w x y) G v:=by
  intro y G v;refine a1v (a7h a c d e f g h l m n o p q t u w x y) (a5h k a c d e f g h l m n o p q t u w x y) (fun G v=>(W y G v).trans ?_) G v;unfold a5h;simp only [V] <;> rfl
 rw [L];unfold b9y;simp only [X]
def e4r (k:Nat) (a c d:Int):OO:=
 bif (decide (a≥c)) then so_ [.b (decide (a≤d))] else so_ [.b false]
theorem g6n (k:Nat) (a b c:Int):a0a E P0 (k+1) N.j1s [vi_ a,vi_ b,vi_ c]=e4r k a b c:=by kernel_rfl
def d8f (k:Nat) (a c:Int):OO:=
 a0f (a0a E P0 k N.j1s [.v [.i a],.v [.i 3],.v [.i 5]]) fun d=>
 bif (d.t 0).asB then
  a0f (a0a E P0 k N.j1s [.v [.i c],.v [.i 1],.v [.i 8]]) fun e=>
  some ⟨[.b (e.t 0).asB],[]⟩
 else
  some ⟨[.b false],[]⟩
theorem g2r (k:Nat) (a b:Int):a0a E P0 (k+1) N.j2s [.v [.i a,.i b]]=d8f k a b:=by kernel_rfl
def d2u (k:Nat) (a:Int):OO:=
 a0f (a0a E P0 k N.j1s [.v [.i a],.v [.i 0],.v [.i 65535]]) fun c=>
 some ⟨[.b (c.t 0).asB],[]⟩
theorem f7b (k:Nat) (a:Int):a0a E P0 (k+1) N.j4h [.v [.i a]]=d2u k a:=by kernel_rfl
def b1j (k:Nat) (c:LL) (d:(Int)→OO):(Int)→OO:=fun a=>
 bif (decide (a<(c.length:Int))) then
  chk (decide (0≤a)&&decide (a<(c.length:Int))) <|
  a0f (a0a E P0 k N.j4h [.v [.i (at_ c a.toNat 0).asI]]) fun e=>
  bif (!(e.t 0).asB) then some ⟨[.b false],[]⟩ else d (W64 (a+1))
 else
  some ⟨[.b true],[]⟩
def e4s:List Nat:=[0,2,3]
def e4t (a:LL):(Int)→St:=fun c=>⟨a3q [(0,.sl 3 a),(2,.b false),(3,.i .i64 c)],a1f []⟩
def b9z (k:Nat) (b:LL) (a:(Int)→OO):OO:=
 a 0
def c8m (k:Nat) (a:LL):OO:=
 b9z k a (fun v=>a1k (b1j k a) k v)
theorem f0m (k:Nat) (a:LL):a0a E P0 (k+1) N.j2h [.v [.r a]]=c8m k a:=a2c [] [.sr,.sl,.sr,.bl] e4s (b9z k a) (e4t a) (b1j k a) (by kernel_rfl) (fun j v=>by kernel_rfl)
def b7u (k:Nat) (c:Int) (a:LL) (d:Bool):OO:=
 bif d then
  a0f (a0a E P0 k N.j1s [.v [.i (a.length:Int)],.v [.i 1],.v [.i 6]]) fun e=>
  bif (e.t 0).asB then
   a0f (a0a E P0 k N.j2h [.v [.r a]]) fun f=>
   some ⟨[.b (f.t 0).asB],[]⟩
  else
   some ⟨[.b false],[]⟩
 else
  bif (c == 5) then
   bif ((a.length:Int) == 2) then
    a0f (a0a E P0 k N.j2h [.v [.r a]]) fun g=>
    some ⟨[.b (g.t 0).asB],[]⟩
   else
    some ⟨[.b false],[]⟩
  else
   some ⟨[.b true],[]⟩
def c8n (k:Nat) (a g h c:Int) (d:LL):OO:=
 bif (a == 1) then
  a0f (a0a E P0 k N.j1s [.v [.i c],.v [.i 1],.v [.i 6]]) fun e=>
  some ⟨[.b (e.t 0).asB],[]⟩
 else
  bif (a == 6) then
   a0f (a0a E P0 k N.j1s [.v [.i c],.v [.i 1],.v [.i 6]]) fun f=>
   some ⟨[.b (f.t 0).asB],[]⟩
  else
   bif (a == 2) then b7u k a d true else b7u k a d (a == 3)
theorem f0n (k:Nat) (a b c d:Int) (e:LL):a0a E P0 (k+1) N.j7b [.v [.i a,.i b,.i c,.i d,.r e]]=c8n k a b c d e:=by kernel_rfl
def d2v (k:Nat) (a b:Int):OO:=
 a0f (a0a E P0 k N.j2s [.v [.i a,.i b]]) fun c=>
 bif (!(c.t 0).asB) then
  some ⟨[.i 0],[]⟩
 else
  some ⟨[.i (W64 (b*(W64 (a - 1))))],[]⟩
theorem f7c (k:Nat) (a b:Int):a0a E P0 (k+1) N.j2t [.v [.i a,.i b]]=d2v k a b:=by kernel_rfl
def d2w (k:Nat) (a d e b:Int) (c:LL):OO:=
 bif (a == 1) then
  so_ [.i b]
 else
  bif (a == 6) then
   so_ [.i b]
  else
   bif (a == 2) then
    so_ [.i (c.length:Int)]
   else
    bif (a == 3) then
     so_ [.i (c.length:Int)]
    else
     bif (a == 5) then so_ [.i 1] else so_ [.i 0]
theorem f7d (k:Nat) (a b c d:Int) (e:LL):a0a E P0 (k+1) N.j3o [.v (S7_ a b c d e)]=d2w k a b c d e:=by kernel_rfl
def b1k (k:Nat) (f g a c b d:Int) (e:LL) (h:Bool):OO:=
 bif h then
  some ⟨[.i 1],[]⟩
 else
  a0f (a0a E P0 k N.j7b [.v [.i a,.i c,.i b,.i d,.r e]]) fun l=>
  bif (!(l.t 0).asB) then
   some ⟨[.i 3],[]⟩
  else
   bif (a == 4) then
    some ⟨[.i 0],[]⟩
   else
    a0f (a0a E P0 k N.j2t [.v [.i f,.i g]]) fun m=>
    a0f (a0a E P0 k N.j3o [.v [.i a,.i c,.i b,.i d,.r e]]) fun n=>
    a0f (a0a E P0 k N.j1s [.v [.i b],.v [.i 0],.v [.i (W64 ((m.t 0).asI - (n.t 0).asI))]]) fun o=>
    bif (!(o.t 0).asB) then some ⟨[.i 2],[]⟩ else some ⟨[.i 0],[]⟩
def c8o (k:Nat) (a b c d e f:Int) (g:LL):OO:=
 a0f (a0a E P0 k N.j2s [.v [.i a,.i b]]) fun h=>
 bif (!(h.t 0).asB) then
  b1k k a b c d e f g true
 else
  a0f (a0a E P0 k N.j1s [.v [.i c],.v [.i 1],.v [.i 6]]) fun l=>
  bif (!(l.t 0).asB) then
   b1k k a b c d e f g true
  else
   a0f (a0a E P0 k N.j1s [.v [.i d],.v [.i 1],.v [.i 999]]) fun m=>
   b1k k a b c d e f g (!(m.t 0).asB)
theorem f0o (k:Nat) (a b c d e f:Int) (g:LL):a0a E P0 (k+1) N.j3p [.v [.i a,.i b],.v [.i c,.i d,.i e,.i f,.r g]]=c8o k a b c d e f g:=by kernel_rfl
def d2x (k:Nat) (c d b e a f:Int) (g:LL):OO:=
 a0f (a0a E P0 k N.j3p [.v [.i c,.i d],.v [.i b,.i e,.i a,.i f,.r g]]) fun h=>
 bif ((h.t 0).asI != 0) then
  some ⟨[.i 0,.i 0],[]⟩
 else
  bif (b == 4) then
   a0f (a0a E P0 k N.j2t [.v [.i c,.i d]]) fun l=>
   some ⟨[.i 0,.i (l.t 0).asI],[]⟩
  else
   a0f (a0a E P0 k N.j3o [.v [.i b,.i e,.i a,.i f,.r g]]) fun m=>
   some ⟨[.i a,.i (W64 (a+(m.t 0).asI))],[]⟩
theorem f7e (k:Nat) (a b c d e f:Int) (g:LL):a0a E P0 (k+1) N.j4i [.v [.i a,.i b],.v [.i c,.i d,.i e,.i f,.r g]]=d2x k a b c d e f g:=by kernel_rfl
def d8g (k:Nat) (a c f g h l:Int) (m:LL) (n o p q:Int) (u:LL):OO:=
 a0f (a0a E P0 k N.j4i [.v [.i a,.i c],.v [.i f,.i g,.i h,.i l,.r m]]) fun d=>
 a0f (a0a E P0 k N.j4i [.v [.i a,.i c],.v [.i n,.i o,.i p,.i q,.r u]]) fun e=>
 bif (decide ((d.t 0).asI<(e.t 1).asI)) then
  some ⟨[.b (decide ((e.t 0).asI<(d.t 1).asI))],[]⟩
 else
  some ⟨[.b false],[]⟩
theorem g2s (k:Nat) (a b c d e f:Int) (g:LL) (h l m n:Int) (o:LL):a0a E P0 (k+1) N.j7c [.v [.i a,.i b],.v [.i c,.i d,.i e,.i f,.r g],.v [.i h,.i l,.i m,.i n,.r o]]=d8g k a b c d e f g h l m n o:=by kernel_rfl
def b4f (k:Nat) (w e f:Int) (x:LL) (y z A B C:Int) (D:LL) (F:Int) (G H:Bool) (J c K L:LL) (g h l m n:Int) (o:LL) (M:Int) (O:LL) (d:Int) (p:(Int)→OO):(Int)→OO:=fun a=>
 bif (decide (a<g)) then
  chk (decide (0≤a)&&decide (a<(c.length:Int))) <|
  a0f (a0a E P0 k N.j7c [.v [.i e,.i f],.v [.i (at_ c a.toNat 0).asI,.i (at_ c a.toNat 1).asI,.i (at_ c a.toNat 2).asI,.i (at_ c a.toNat 3).asI,.r (at_ c a.toNat 4).asR],.v [.i h,.i l,.i m,.i n,.r o]]) fun q=>
  bif (q.t 0).asB then some ⟨[.b false],[]⟩ else p (W64 (a+1))
 else
  bif (d == 0) then
   some ⟨[.b true],[]⟩
  else
   a0f (a0a E P0 k N.j1s [.v [.i d],.v [.i 4],.v [.i 7]]) fun u=>
   some ⟨[.b (u.t 0).asB],[]⟩
def f0p:List Nat:=[1,2,4,5,6,54,55,56,57,58,59,60,61]
def c8p (a c d:Int) (e:LL) (f g h l m:Int) (n:LL) (o:Int) (p q:Bool) (r t u w:LL) (x y z A B:Int) (C:LL) (D:Int) (F:LL) (G:Int):(Int)→St:=fun H=>⟨a3q [(1,.i .i64 x),(2,.ptr (2,0) 0),(4,.b false),(5,.ptr (5,0) 0),(6,.i .i64 H),(54,.skip),(55,.skip),(56,.skip),(57,.skip),(58,.skip),(59,.skip),(60,.skip),(61,.skip)],a1f [((2,0),.var [.i .i64 a,.i .i64 c,.i .i64 d,.sl 135 e,.i .i64 f,.i .i64 g,.i .i64 h,.i .i64 l,.i .i64 m,.sl 137 n,.i .i64 o,.b p,.b q,.sl 91 r,.sl 94 t,.sl 95 u,.sl 98 w]),((5,0),.var [.i .i64 y,.i .i64 z,.i .i64 A,.i .i64 B,.sl 3 C,.i .i64 D,.sl 3 F,.i .i64 G])]⟩
def a8v (k:Nat) (a:LL) (c:Int) (d:Int→Int→Int→Int→LL→Int→LL→Int→(Int)→OO) (e:Bool):OO:=
 bif e then
  some ⟨[.b false],[]⟩
 else
  d ((at_ a c.toNat 0).asI) ((at_ a c.toNat 1).asI) ((at_ a c.toNat 2).asI) ((at_ a c.toNat 3).asI) ((at_ a c.toNat 4).asR) ((at_ a c.toNat 5).asI) ((at_ a c.toNat 6).asR) ((at_ a c.toNat 7).asI) 0
def b6j (k:Nat) (l d e:Int) (m:LL) (n o p q u:Int) (w:LL) (x:Int) (y z:Bool) (A b B C:LL) (a:Int) (c:Int→Int→Int→Int→LL→Int→LL→Int→(Int)→OO):OO:=
 chk (decide (0≤a)&&decide (a<(b.length:Int))) <|
 a0f (a0a E P0 k N.j3p [.v [.i d,.i e],.v [.i (at_ b a.toNat 0).asI,.i (at_ b a.toNat 1).asI,.i (at_ b a.toNat 2).asI,.i (at_ b a.toNat 3).asI,.r (at_ b a.toNat 4).asR]]) fun f=>
 bif ((f.t 0).asI != 0) then
  a8v k b a c true
 else
  a0f (a0a E P0 k N.j1s [.v [.i (at_ b a.toNat 5).asI],.v [.i 0],.v [.i 40]]) fun g=>
  bif (!(g.t 0).asB) then
   a8v k b a c true
  else
   a0f (a0a E P0 k N.j2h [.v [.r (at_ b a.toNat 6).asR]]) fun h=>
   bif (!(h.t 0).asB) then
    a8v k b a c true
   else
    a8v k b a c (decide (((at_ b a.toNat 6).asR.length:Int) > 6))
def d2y (k:Nat) (a b c:Int) (d:LL) (e f g h i:Int) (l:LL) (m:Int) (n o:Bool) (p q r t:LL) (u:Int):OO:=
 b6j k a b c d e f g h i l m n o p q r t u (fun w x y z A B C D v=>a1k (b4f k a b c d e f g h i l m n o p q r t u w x y z A B C D) k v)
def e4u (k:Nat) (a c d:Int) (e:LL) (f g h l m:Int) (n:LL) (o:Int) (p q:Bool) (t u w x:LL) (y:Int) (js:List Nat) (j:Nat) (s:St):OO:=IT_ k N.j4j [.v [.i a,.i c,.i d,.r e,.i f,.i g,.i h,.i l,.i m,.r n,.i o,.b p,.b q,.r t,.r u,.r w,.r x],.v [.i y]] [] [.sr,.sr,.sr,.sl,.sr,.bl] f0p js j s
theorem f7f (k:Nat) (a c d:Int) (e:LL) (f g h l m:Int) (n:LL) (o:Int) (p q:Bool) (t u w x:LL) (y:Int):a0a E P0 (k+1) N.j4j [.v [.i a,.i c,.i d,.r e,.i f,.i g,.i h,.i l,.i m,.r n,.i o,.b p,.b q,.r t,.r u,.r w,.r x],.v [.i y]]=d2y k a c d e f g h l m n o p q t u w x y:=
 Eq.trans (b:=b6j k a c d e f g h l m n o p q t u w x y (fun z A B C D F G H v=>e4u k a c d e f g h l m n o p q t u w x y [] k (c8p a c d e f g h l m n o p q t u w x y z A B C D F G H v))) (by kernel_rfl) (congrArg (b6j k a c d e f g h l m n o p q t u w x y) (funext fun z=>funext fun A=>funext fun B=>funext fun C=>funext fun D=>funext fun F=>funext fun G=>funext fun H=>funext fun v=>a1v (c8p a c d e f g h l m n o p q t u w x y z A B C D F G H) (b4f k a c d e f g h l m n o p q t u w x y z A B C D F G H) (fun j v=>by kernel_rfl) k v))
def d8h (k:Nat) (a:LL):OO:=
 bif (decide ((a.length:Int)≤12)) then
  a0f (a0a E P0 k N.j2h [.v [.r a]]) fun c=>
  some ⟨[.b (c.t 0).asB],[]⟩
 else
  some ⟨[.b false],[]⟩
theorem g2t (k:Nat) (a:LL):a0a E P0 (k+1) N.j3q [.v [.r a]]=d8h k a:=by kernel_rfl
def a3t (k:Nat) (d f:LL) (l:Bool) (c:LL) (e:(Int)→OO):(Int)→OO:=fun a=>
 bif (decide (a<(c.length:Int))) then
  chk (decide (0≤a)&&decide (a<(c.length:Int))) <|
  a0f (a0a E P0 k N.j1s [.v [.i (at_ c a.toNat 0).asI],.v [.i 0],.v [.i (W64 ((d.length:Int) - 1))]]) fun g=>
  bif (!(g.t 0).asB) then
   some ⟨[.b false],[]⟩
  else
   bif (decide (a > 0)) then
    chk (decide (0≤(W64 (a - 1)))&&decide ((W64 (a - 1))<(c.length:Int))) <|
    chk (decide (0≤a)&&decide (a<(c.length:Int))) <|
    bif (decide ((at_ c (W64 (a - 1)).toNat 0).asI≥(at_ c a.toNat 0).asI)) then
     some ⟨[.b false],[]⟩
    else
     e (W64 (a+1))
   else
    e (W64 (a+1))
 else
  a0f (a0a E P0 k N.j1s [.v [.i (d.length:Int)],.v [.i 1],.v [.i 20]]) fun h=>
  bif (h.t 0).asB then some ⟨[.b (decide ((f.length:Int)≤60))],[]⟩ else some ⟨[.b false],[]⟩
def f7g:List Nat:=[1,2,3,6,83,84,85,86,87,88,89,90]
def b1l (a c:LL) (d:Bool) (e:LL):(Int)→St:=fun f=>⟨a3q [(1,.ptr (1,0) 0),(2,.b false),(3,.i .i64 (a.length:Int)),(6,.i .i64 f),(83,.skip),(84,.skip),(85,.skip),(86,.skip),(87,.skip),(88,.skip),(89,.skip),(90,.skip)],a1f [((1,0),.var [.sl 78 a,.sl 161 c,.b d,.sl 3 e])]⟩
def b6k (k:Nat) (d c:LL) (l:Bool) (m:LL) (e f:(Int)→OO):(Int)→OO:=fun a=>
 bif (decide (a<(c.length:Int))) then
  chk (decide (0≤a)&&decide (a<(c.length:Int))) <|
  a0f (a0a E P0 k N.j1s [.v [.i (at_ c a.toNat 0).asI],.v [.i 0],.v [.i (W64 ((d.length:Int) - 1))]]) fun g=>
  bif (!(g.t 0).asB) then
   some ⟨[.b false],[]⟩
  else
   chk (decide (0≤a)&&decide (a<(c.length:Int))) <|
   a0f (a0a E P0 k N.j3q [.v [.r (at_ c a.toNat 1).asR]]) fun h=>
   bif (!(h.t 0).asB) then some ⟨[.b false],[]⟩ else f (W64 (a+1))
 else
  e 0
def f7h:List Nat:=[1,2,3,5,6,49,50,51,52,53,54,55,56,57,58,59,60,61,62,63,64,65,66,67,68,69,70,71,72,73,74,75,76,77,78,79,80,81,82,83,84,85,86,87,88,89,90]
def b1m (a c:LL) (d:Bool) (e:LL):(Int)→St:=fun f=>⟨a3q [(1,.ptr (1,0) 0),(2,.b false),(3,.i .i64 (a.length:Int)),(5,.i .i64 f),(6,.skip),(49,.skip),(50,.skip),(51,.skip),(52,.skip),(53,.skip),(54,.skip),(55,.skip),(56,.skip),(57,.skip),(58,.skip),(59,.skip),(60,.skip),(61,.skip),(62,.skip),(63,.skip),(64,.skip),(65,.skip),(66,.skip),(67,.skip),(68,.skip),(69,.skip),(70,.skip),(71,.skip),(72,.skip),(73,.skip),(74,.skip),(75,.skip),(76,.skip),(77,.skip),(78,.skip),(79,.skip),(80,.skip),(81,.skip),(82,.skip),(83,.skip),(84,.skip),(85,.skip),(86,.skip),(87,.skip),(88,.skip),(89,.skip),(90,.skip)],a1f [((1,0),.var [.sl 78 a,.sl 161 c,.b d,.sl 3 e])]⟩
def b6l (k:Nat) (c g:LL) (h:Bool) (i:LL) (d e:(Int)→OO):(Int)→OO:=fun a=>
 bif (decide (a<(c.length:Int))) then
  chk (decide (0≤a)&&decide (a<(c.length:Int))) <|
  a0f (a0a E P0 k N.j3q [.v [.r (at_ c a.toNat 0).asR]]) fun f=>
  bif (!(f.t 0).asB) then some ⟨[.b false],[]⟩ else e (W64 (a+1))
 else
  d 0
def f7i:List Nat:=[1,2,3,4,5,6,22,23,24,25,26,27,28,29,30,31,32,33,34,35,36,37,38,39,40,41,42,43,44,45,46,47,48,49,50,51,52,53,54,55,56,57,58,59,60,61,62,63,64,65,66,67,68,69,70,71,72,73,74,75,76,77,78,79,80,81,82,83,84,85,86,87,88,89,90]
def b1n (a c:LL) (d:Bool) (e:LL):(Int)→St:=fun f=>⟨a3q [(1,.ptr (1,0) 0),(2,.b false),(3,.i .i64 (a.length:Int)),(4,.i .i64 f),(5,.skip),(6,.skip),(22,.skip),(23,.skip),(24,.skip),(25,.skip),(26,.skip),(27,.skip),(28,.skip),(29,.skip),(30,.skip),(31,.skip),(32,.skip),(33,.skip),(34,.skip),(35,.skip),(36,.skip),(37,.skip),(38,.skip),(39,.skip),(40,.skip),(41,.skip),(42,.skip),(43,.skip),(44,.skip),(45,.skip),(46,.skip),(47,.skip),(48,.skip),(49,.skip),(50,.skip),(51,.skip),(52,.skip),(53,.skip),(54,.skip),(55,.skip),(56,.skip),(57,.skip),(58,.skip),(59,.skip),(60,.skip),(61,.skip),(62,.skip),(63,.skip),(64,.skip),(65,.skip),(66,.skip),(67,.skip),(68,.skip),(69,.skip),(70,.skip),(71,.skip),(72,.skip),(73,.skip),(74,.skip),(75,.skip),(76,.skip),(77,.skip),(78,.skip),(79,.skip),(80,.skip),(81,.skip),(82,.skip),(83,.skip),(84,.skip),(85,.skip),(86,.skip),(87,.skip),(88,.skip),(89,.skip),(90,.skip)],a1f [((1,0),.var [.sl 78 a,.sl 161 c,.b d,.sl 3 e])]⟩
def a4s (k:Nat) (a b:LL) (c:Bool) (d:LL) (e:(Int)→OO):(Int)→OO:=
 b6k k a b c d (fun v=>a1k (a3t k a b c d) k v) e
def a8b (k:Nat) (a b:LL) (c:Bool) (d:LL) (e:(Int)→OO):(Int)→OO:=
 b6l k a b c d (fun v=>a1k (a4s k a b c d) k v) e
def c4u (k:Nat) (b c:LL) (d:Bool) (e:LL) (a:(Int)→OO):OO:=
 a 0
def c4v (k:Nat) (a b:LL) (c:Bool) (d:LL):OO:=
 c4u k a b c d (fun v=>a1k (a8b k a b c d) k v)
def b4g (k:Nat) (a c:LL) (d:Bool) (e:LL) (js:List Nat) (j:Nat) (s:St):OO:=IT_ k N.j2c [.v [.r a,.r c,.b d,.r e]] [] [.sr,.sr,.sl,.sr,.bl] f7i js j s
def b4h (k:Nat) (a c:LL) (d:Bool) (e:LL) (js:List Nat) (j:Nat) (s:St):OO:=IT_ k N.j2c [.v [.r a,.r c,.b d,.r e]] [] [.sr,.sr,.sr,.sl,.sr,.bl] f7h js j s
def b4i (k:Nat) (a c:LL) (d:Bool) (e:LL) (js:List Nat) (j:Nat) (s:St):OO:=IT_ k N.j2c [.v [.r a,.r c,.b d,.r e]] [] [.sr,.sr,.sr,.sr,.sl,.sr,.bl] f7g js j s
theorem g2u (k:Nat) (a c:LL) (d:Bool) (e:LL):a0a E P0 (k+1) N.j2c [.v [.r a,.r c,.b d,.r e]]=c4v k a c d e:=by
 have i:a0a E P0 (k+1) N.j2c [.v [.r a,.r c,.b d,.r e]]=c4u k a c d e (fun v=>b4g k a c d e [] k (b1n a c d e v)):=by kernel_rfl
 have l:∀ (f:Nat) (v:Int),b4i k a c d e [] (f+1) (b1l a c d e v)=a3t k a c d e (fun v=>b4i k a c d e [] f (b1l a c d e v)) v:=by
  intro f v;kernel_rfl
 have m:∀ (f:Nat) (v:Int),b4i k a c d e [] f (b1l a c d e v)=a1k (a3t k a c d e) f v:=by
  intro f v;refine a1v (b1l a c d e) (a3t k a c d e) (fun f v=>(l f v).trans ?_) f v;unfold a3t;rfl
 have n:∀ (g:Nat) (v:Int),b4h k a c d e [] (g+1) (b1m a c d e v)=b6k k a c d e (fun v=>b4i k a c d e [] k (b1l a c d e v)) (fun v=>b4h k a c d e [] g (b1m a c d e v)) v:=by
  intro g v;kernel_rfl
 have o:∀ (g:Nat) (v:Int),b4h k a c d e [] g (b1m a c d e v)=a1k (a4s k a c d e) g v:=by
  intro g v;refine a1v (b1m a c d e) (a4s k a c d e) (fun g v=>(n g v).trans ?_) g v;unfold a4s;simp only [m] <;> rfl
 have p:∀ (h:Nat) (v:Int),b4g k a c d e [] (h+1) (b1n a c d e v)=b6l k a c d e (fun v=>b4h k a c d e [] k (b1m a c d e v)) (fun v=>b4g k a c d e [] h (b1n a c d e v)) v:=by
  intro h v;kernel_rfl
 have q:∀ (h:Nat) (v:Int),b4g k a c d e [] h (b1n a c d e v)=a1k (a8b k a c d e) h v:=by
  intro h v;refine a1v (b1n a c d e) (a8b k a c d e) (fun h v=>(p h v).trans ?_) h v;unfold a8b;simp only [o] <;> rfl
 rw [i];unfold c4v;simp only [q]
def d2z (k:Nat) (b a:Int):OO:=
 some ⟨[.i (W64 (6+a))],[]⟩
theorem f7j (k:Nat) (a b:Int):a0a E P0 (k+1) N.j7d [.v [.i a,.i b]]=d2z k a b:=by kernel_rfl
def b4j (k:Nat) (n e f:Int) (c:LL) (g o p q u:Int) (w:LL) (x:Int) (y h:Bool) (d:(Int)→OO):(Int)→OO:=fun a=>
 bif (decide (a<(c.length:Int))) then
  chk (decide (0≤a)&&decide (a<(c.length:Int))) <|
  a0f (a0a E P0 k N.j2c [.v [.r (at_ c a.toNat 0).asR,.r (at_ c a.toNat 1).asR,.b (at_ c a.toNat 2).asB,.r (at_ c a.toNat 3).asR]]) fun l=>
  bif (!(l.t 0).asB) then
   some ⟨[.b false],[]⟩
  else
   a0f (a0a E P0 k N.j7d [.v [.i e,.i f]]) fun m=>
   bif (((at_ c a.toNat 0).asR.length:Int) != (m.t 0).asI) then
    some ⟨[.b false],[]⟩
   else
    bif (at_ c a.toNat 2).asB then
     bif (a != g) then
      bif (!h) then some ⟨[.b false],[]⟩ else d (W64 (a+1))
     else
      d (W64 (a+1))
    else
     d (W64 (a+1))
 else
  some ⟨[.b ((c.length:Int) == e)],[]⟩
def f0q:List Nat:=[1,2,3,44,45,46,47,48,49,50]
def f0r (a c d:Int) (e:LL) (f g h l m:Int) (n:LL) (o:Int) (p q:Bool):(Int)→St:=fun r=>⟨a3q [(1,.ptr (1,0) 0),(2,.b false),(3,.i .i64 r),(44,.skip),(45,.skip),(46,.skip),(47,.skip),(48,.skip),(49,.skip),(50,.skip)],a1f [((1,0),.var [.i .i64 a,.i .i64 c,.i .i64 d,.sl 135 e,.i .i64 f,.i .i64 g,.i .i64 h,.i .i64 l,.i .i64 m,.sl 137 n,.i .i64 o,.b p,.b q])]⟩
def c2m (k:Nat) (b c d:Int) (e:LL) (f g h i l:Int) (m:LL) (n:Int) (o p:Bool) (a:(Int)→OO):OO:=
 a 0
def d3a (k:Nat) (a b c:Int) (d:LL) (e f g h i:Int) (l:LL) (m:Int) (n o:Bool):OO:=
 c2m k a b c d e f g h i l m n o (fun v=>a1k (b4j k a b c d e f g h i l m n o) k v)
theorem f7k (k:Nat) (a c d:Int) (e:LL) (f g h l m:Int) (n:LL) (o:Int) (p q:Bool):a0a E P0 (k+1) N.j7e [.v [.i a,.i c,.i d,.r e,.i f,.i g,.i h,.i l,.i m,.r n,.i o,.b p,.b q]]=d3a k a c d e f g h l m n o p q:=a2c [] [.sr,.sl,.sr,.bl] f0q (c2m k a c d e f g h l m n o p q) (f0r a c d e f g h l m n o p q) (b4j k a c d e f g h l m n o p q) (by kernel_rfl) (fun j v=>by kernel_rfl)
def b1o (k:Nat) (l e f:Int) (m:LL) (n o p q u:Int) (c:LL) (w:Int) (x y:Bool) (d:(Int)→OO):(Int)→OO:=fun a=>
 bif (decide (a<(c.length:Int))) then
  chk (decide (0≤a)&&decide (a<(c.length:Int))) <|
  a0f (a0a E P0 k N.j1s [.v [.i (at_ c a.toNat 0).asI],.v [.i 0],.v [.i (W64 (f - 1))]]) fun g=>
  bif (!(g.t 0).asB) then
   some ⟨[.b false],[]⟩
  else
   bif (((at_ c a.toNat 1).asR.length:Int) != (W64 (e - 1))) then
    some ⟨[.b false],[]⟩
   else
    a0f (a0a E P0 k N.j2h [.v [.r (at_ c a.toNat 1).asR]]) fun h=>
    bif (!(h.t 0).asB) then
     some ⟨[.b false],[]⟩
    else
     bif (decide (a > 0)) then
      chk (decide (0≤(W64 (a - 1)))&&decide ((W64 (a - 1))<(c.length:Int))) <|
      bif (decide ((at_ c (W64 (a - 1)).toNat 0).asI≥(at_ c a.toNat 0).asI)) then
       some ⟨[.b false],[]⟩
      else
       d (W64 (a+1))
     else
      d (W64 (a+1))
 else
  some ⟨[.b true],[]⟩
def e4v:List Nat:=[1,2,3]
def e4w (a c d:Int) (e:LL) (f g h l m:Int) (n:LL) (o:Int) (p q:Bool):(Int)→St:=fun r=>⟨a3q [(1,.ptr (1,0) 0),(2,.b false),(3,.i .i64 r)],a1f [((1,0),.var [.i .i64 a,.i .i64 c,.i .i64 d,.sl 135 e,.i .i64 f,.i .i64 g,.i .i64 h,.i .i64 l,.i .i64 m,.sl 137 n,.i .i64 o,.b p,.b q])]⟩
def c0a (k:Nat) (b c d:Int) (e:LL) (f g h i l:Int) (m:LL) (n:Int) (o p:Bool) (a:(Int)→OO):OO:=
 a 0
def c8q (k:Nat) (a b c:Int) (d:LL) (e f g h i:Int) (l:LL) (m:Int) (n o:Bool):OO:=
 c0a k a b c d e f g h i l m n o (fun v=>a1k (b1o k a b c d e f g h i l m n o) k v)
theorem f0s (k:Nat) (a c d:Int) (e:LL) (f g h l m:Int) (n:LL) (o:Int) (p q:Bool):a0a E P0 (k+1) N.j7f [.v [.i a,.i c,.i d,.r e,.i f,.i g,.i h,.i l,.i m,.r n,.i o,.b p,.b q]]=c8q k a c d e f g h l m n o p q:=a2c [] [.sr,.sl,.sr,.bl] e4v (c0a k a c d e f g h l m n o p q) (e4w a c d e f g h l m n o p q) (b1o k a c d e f g h l m n o p q) (by kernel_rfl) (fun j v=>by kernel_rfl)
def b1p (k:Nat) (c a d e:Int) (f:Bool):OO:=
 bif f then
  some ⟨[.b false],[]⟩
 else
  a0f (a0a E P0 k N.j1s [.v [.i a],.v [.i 0],.v [.i 60000]]) fun g=>
  bif (g.t 0).asB then
   a0f (a0a E P0 k N.j1s [.v [.i c],.v [.i a],.v [.i 60000]]) fun h=>
   bif (h.t 0).asB then
    bif (decide (c≤(W64 (a+4)))) then
     a0f (a0a E P0 k N.j1s [.v [.i d],.v [.i 0],.v [.i 60000]]) fun l=>
     bif (l.t 0).asB then
      a0f (a0a E P0 k N.j1s [.v [.i e],.v [.i (-1)],.v [.i 1000]]) fun m=>
      some ⟨[.b (m.t 0).asB],[]⟩
     else
      some ⟨[.b false],[]⟩
    else
     some ⟨[.b false],[]⟩
   else
    some ⟨[.b false],[]⟩
  else
   some ⟨[.b false],[]⟩
def b1q (k:Nat) (h l f g a c d e:Int) (m:Bool):OO:=
 bif m then
  some ⟨[.b false],[]⟩
 else
  a0f (a0a E P0 k N.j1s [.v [.i f],.v [.i (-1)],.v [.i (W64 (h - 1))]]) fun n=>
  bif (!(n.t 0).asB) then
   b1p k a c d e true
  else
   a0f (a0a E P0 k N.j1s [.v [.i g],.v [.i 0],.v [.i l]]) fun o=>
   bif (!(o.t 0).asB) then
    b1p k a c d e true
   else
    bif (f == (-1)) then
     b1p k a c d e (g != 0)
    else
     b1p k a c d e false
def d8i (k:Nat) (m a c:Int) (n:LL) (d e f g h:Int) (o:LL) (l:Int) (p q:Bool):OO:=
 a0f (a0a E P0 k N.j2s [.v [.i a,.i c]]) fun u=>
 bif (!(u.t 0).asB) then
  b1q k a c d e f g h l true
 else
  a0f (a0a E P0 k N.j1s [.v [.i m],.v [.i 1],.v [.i 60000]]) fun w=>
  bif (!(w.t 0).asB) then
   b1q k a c d e f g h l true
  else
   a0f (a0a E P0 k N.j7e [.v [.i m,.i a,.i c,.r n,.i d,.i e,.i f,.i g,.i h,.r o,.i l,.b p,.b q]]) fun x=>
   bif (!(x.t 0).asB) then
    b1q k a c d e f g h l true
   else
    a0f (a0a E P0 k N.j7f [.v [.i m,.i a,.i c,.r n,.i d,.i e,.i f,.i g,.i h,.r o,.i l,.b p,.b q]]) fun y=>
    b1q k a c d e f g h l (!(y.t 0).asB)
theorem g2v (k:Nat) (a c d:Int) (e:LL) (f g h l m:Int) (n:LL) (o:Int) (p q:Bool):a0a E P0 (k+1) N.j2z [.v [.i a,.i c,.i d,.r e,.i f,.i g,.i h,.i l,.i m,.r n,.i o,.b p,.b q]]=d8i k a c d e f g h l m n o p q:=by kernel_rfl
def b6m (k:Nat) (d e f:Int) (g:LL) (h l m n o:Int) (p:LL) (q:Int) (u w:Bool) (x a y z:LL) (A:(Int)→OO):(Int)→OO:=fun c=>
 bif (decide (c<(a.length:Int))) then
  a0f (a0a E P0 k N.j4j [.v [.i d,.i e,.i f,.r g,.i h,.i l,.i m,.i n,.i o,.r p,.i q,.b u,.b w,.r x,.r a,.r y,.r z],.v [.i c]]) fun B=>
  bif (!(B.t 0).asB) then some ⟨[.b false],[]⟩ else A (W64 (c+1))
 else
  a0f (a0a E P0 k N.j2z [.v [.i d,.i e,.i f,.r g,.i h,.i l,.i m,.i n,.i o,.r p,.i q,.b u,.b w]]) fun C=>
  bif (C.t 0).asB then
   bif (decide ((x.length:Int)≤8)) then
    bif (decide ((a.length:Int)≤4)) then
     bif (decide ((y.length:Int)≤8)) then
      some ⟨[.b (decide ((z.length:Int)≤400))],[]⟩
     else
      some ⟨[.b false],[]⟩
    else
     some ⟨[.b false],[]⟩
   else
    some ⟨[.b false],[]⟩
  else
   some ⟨[.b false],[]⟩
def f7l:List Nat:=[1,2,3,15,16,17,18,19,20,21,22,23,24,25,26,27,28,29,30,31,32,33,34,35,36,37,38,39,40,41]
def f7m (a c d:Int) (e:LL) (f g h l m:Int) (n:LL) (o:Int) (p q:Bool) (r t u w:LL):(Int)→St:=fun x=>⟨a3q [(1,.ptr (1,0) 0),(2,.b false),(3,.i .i64 x),(15,.skip),(16,.skip),(17,.skip),(18,.skip),(19,.skip),(20,.skip),(21,.skip),(22,.skip),(23,.skip),(24,.skip),(25,.skip),(26,.skip),(27,.skip),(28,.skip),(29,.skip),(30,.skip),(31,.skip),(32,.skip),(33,.skip),(34,.skip),(35,.skip),(36,.skip),(37,.skip),(38,.skip),(39,.skip),(40,.skip),(41,.skip)],a1f [((1,0),.var [.i .i64 a,.i .i64 c,.i .i64 d,.sl 135 e,.i .i64 f,.i .i64 g,.i .i64 h,.i .i64 l,.i .i64 m,.sl 137 n,.i .i64 o,.b p,.b q,.sl 91 r,.sl 94 t,.sl 95 u,.sl 98 w])]⟩
def c4w (k:Nat) (b c d:Int) (e:LL) (f g h i l:Int) (m:LL) (n:Int) (o p:Bool) (q r t u:LL) (a:(Int)→OO):OO:=
 a 0
def d8j (k:Nat) (a b c:Int) (d:LL) (e f g h i:Int) (l:LL) (m:Int) (n o:Bool) (p q r t:LL):OO:=
 c4w k a b c d e f g h i l m n o p q r t (fun v=>a1k (b6m k a b c d e f g h i l m n o p q r t) k v)
theorem g2w (k:Nat) (a c d:Int) (e:LL) (f g h l m:Int) (n:LL) (o:Int) (p q:Bool) (t u w x:LL):a0a E P0 (k+1) N.j7g [.v [.i a,.i c,.i d,.r e,.i f,.i g,.i h,.i l,.i m,.r n,.i o,.b p,.b q,.r t,.r u,.r w,.r x]]=d8j k a c d e f g h l m n o p q t u w x:=a2c [] [.sr,.sl,.sr,.bl] f7l (c4w k a c d e f g h l m n o p q t u w x) (f7m a c d e f g h l m n o p q t u w x) (b6m k a c d e f g h l m n o p q t u w x) (by kernel_rfl) (fun j v=>by kernel_rfl)
def c4x (k:Nat) (a c b:Int):OO:=
 a0f (a0a E P0 k N.j2t [.v [.i a,.i c]]) fun d=>
 a0f (a0a E P0 k N.j1s [.v [.i b],.v [.i 0],.v [.i (W64 ((d.t 0).asI - 1))]]) fun e=>
 bif (!(e.t 0).asB) then
  some ⟨[.i (-1)],[]⟩
 else
  chk (!decide ((W64 (a - 1))=0)) <|
  some ⟨[.i (W64 (Int.tdiv b (W64 (a - 1))))],[]⟩
theorem e4x (k:Nat) (a b c:Int):a0a E P0 (k+1) N.j2o [.v [.i a,.i b],.v [.i c]]=c4x k a b c:=by kernel_rfl
def c8r (k:Nat) (e b a f c g:Int) (d:LL):OO:=
 a0f (a0a E P0 k N.j3p [.v [.i e,.i b],.v [.i a,.i f,.i c,.i g,.r d]]) fun h=>
 bif ((h.t 0).asI != 0) then
  some ⟨[.i 0],[]⟩
 else
  bif (a == 4) then
   some ⟨[.i (W64 (b+1))],[]⟩
  else
   bif (a == 5) then
    some ⟨[.i 2],[]⟩
   else
    bif (a == 3) then
     a0f (a0a E P0 k N.j2o [.v [.i e,.i b],.v [.i (W64 ((W64 (c+(d.length:Int))) - 1))]]) fun l=>
     a0f (a0a E P0 k N.j2o [.v [.i e,.i b],.v [.i c]]) fun m=>
     some ⟨[.i (W64 ((W64 ((W64 ((d.length:Int)+(l.t 0).asI)) - (m.t 0).asI))+2))],[]⟩
    else
     a0f (a0a E P0 k N.j3o [.v [.i a,.i f,.i c,.i g,.r d]]) fun n=>
     some ⟨[.i (W64 ((n.t 0).asI+1))],[]⟩
theorem f0t (k:Nat) (a b c d e f:Int) (g:LL):a0a E P0 (k+1) N.j4k [.v [.i a,.i b],.v [.i c,.i d,.i e,.i f,.r g]]=c8r k a b c d e f g:=by kernel_rfl
def d3b (k:Nat) (e a c:Int) (f:LL) (g h l m n:Int) (o:LL) (p:Int) (d q:Bool) (u:Int):OO:=
 a0f (a0a E P0 k N.j2z [.v [.i e,.i a,.i c,.r f,.i g,.i h,.i l,.i m,.i n,.r o,.i p,.b d,.b q]]) fun w=>
 bif (!(w.t 0).asB) then
  some ⟨[.i 1],[]⟩
 else
  bif d then
   some ⟨[.i 6],[]⟩
  else
   a0f (a0a E P0 k N.j2t [.v [.i a,.i c]]) fun x=>
   a0f (a0a E P0 k N.j1s [.v [.i u],.v [.i 0],.v [.i (W64 ((x.t 0).asI - 1))]]) fun y=>
   bif (!(y.t 0).asB) then some ⟨[.i 2],[]⟩ else some ⟨[.i 0],[]⟩
theorem f7n (k:Nat) (a c d:Int) (e:LL) (f g h l m:Int) (n:LL) (o:Int) (p q:Bool) (t:Int):a0a E P0 (k+1) N.j4l [.v [.i a,.i c,.i d,.r e,.i f,.i g,.i h,.i l,.i m,.r n,.i o,.b p,.b q],.v [.i t]]=d3b k a c d e f g h l m n o p q t:=by kernel_rfl
def b9b (k:Nat) (e f g:Int) (h:LL) (l m n o p:Int) (b:LL) (q:Int) (r t:Bool) (c:Int) (d:(Int)→OO):(Int)→OO:=fun a=>
 bif (decide (a<(b.length:Int))) then
  chk (decide (0≤a)&&decide (a<(b.length:Int))) <|
  bif ((at_ b a.toNat 0).asI == c) then some ⟨[.i a],[]⟩ else d (W64 (a+1))
 else
  some ⟨[.i (-1)],[]⟩
def g2x:List Nat:=[1,2,4,5]
def g2y (a c d:Int) (e:LL) (f g h l m:Int) (n:LL) (o:Int) (p q:Bool) (r:Int):(Int)→St:=fun t=>⟨a3q [(1,.i .i64 r),(2,.ptr (2,0) 0),(4,.i .i64 0),(5,.i .i64 t)],a1f [((2,0),.var [.i .i64 a,.i .i64 c,.i .i64 d,.sl 135 e,.i .i64 f,.i .i64 g,.i .i64 h,.i .i64 l,.i .i64 m,.sl 137 n,.i .i64 o,.b p,.b q])]⟩
def d0o (k:Nat) (b c d:Int) (e:LL) (f g h i l:Int) (m:LL) (n:Int) (o p:Bool) (q:Int) (a:(Int)→OO):OO:=
 a 0
def e4y (k:Nat) (a b c:Int) (d:LL) (e f g h i:Int) (l:LL) (m:Int) (n o:Bool) (p:Int):OO:=
 d0o k a b c d e f g h i l m n o p (fun v=>a1k (b9b k a b c d e f g h i l m n o p) k v)
theorem g6o (k:Nat) (a c d:Int) (e:LL) (f g h l m:Int) (n:LL) (o:Int) (p q:Bool) (t:Int):a0a E P0 (k+1) N.j4m [.v [.i a,.i c,.i d,.r e,.i f,.i g,.i h,.i l,.i m,.r n,.i o,.b p,.b q],.v [.i t]]=e4y k a c d e f g h l m n o p q t:=a2c [] [.sr,.sl,.sr,.bl] g2x (d0o k a c d e f g h l m n o p q t) (g2y a c d e f g h l m n o p q t) (b9b k a c d e f g h l m n o p q t) (by kernel_rfl) (fun j v=>by kernel_rfl)
def d3c (k:Nat) (h l m:Int) (c:LL) (d e n o p:Int) (q:LL) (r:Int) (u w:Bool) (a f:Int):OO:=
 a0f (a0a E P0 k N.j1s [.v [.i a],.v [.i 0],.v [.i (W64 ((c.length:Int) - 1))]]) fun g=>
 bif (g.t 0).asB then
  chk (decide (0≤a)&&decide (a<(c.length:Int))) <|
  bif (!(at_ c a.toNat 2).asB) then
   bif (a != d) then some ⟨[.b true],[]⟩ else some ⟨[.b (decide (f<e))],[]⟩
  else
   some ⟨[.b false],[]⟩
 else
  some ⟨[.b false],[]⟩
theorem f7o (k:Nat) (a c d:Int) (e:LL) (f g h l m:Int) (n:LL) (o:Int) (p q:Bool) (t u:Int):a0a E P0 (k+1) N.j4n [.v [.i a,.i c,.i d,.r e,.i f,.i g,.i h,.i l,.i m,.r n,.i o,.b p,.b q],.v [.i t],.v [.i u]]=d3c k a c d e f g h l m n o p q t u:=by kernel_rfl
def d3d (k:Nat) (a:Int):OO:=
 a0f (a0a E P0 k N.j1s [.v [.i a],.v [.i 0],.v [.i 1099511627776]]) fun b=>
 bif (!(b.t 0).asB) then
  some ⟨[.i (-1)],[]⟩
 else
  some ⟨[.i (W64 ((W64 (a+2))+4))],[]⟩
theorem f7p (k:Nat) (a:Int):a0a E P0 (k+1) N.j4o [.v [.i a]]=d3d k a:=by kernel_rfl
def b6n (k:Nat) (c:LL) (d:Int) (e:(Int)→OO):(Int)→OO:=fun a=>
 bif (decide (a<(c.length:Int))) then
  chk (decide (0≤a)&&decide (a<(c.length:Int))) <|
  bif ((at_ c a.toNat 0).asI == d) then some ⟨[.b true],[]⟩ else e (W64 (a+1))
 else
  some ⟨[.b false],[]⟩
def f7q:List Nat:=[0,1,4,5]
def f7r (a:LL) (c:Int):(Int)→St:=fun d=>⟨a3q [(0,.sl 3 a),(1,.i .i64 c),(4,.b false),(5,.i .i64 d)],a1f []⟩
def c4y (k:Nat) (b:LL) (c:Int) (a:(Int)→OO):OO:=
 a 0
def d8k (k:Nat) (a:LL) (b:Int):OO:=
 c4y k a b (fun v=>a1k (b6n k a b) k v)
theorem g2z (k:Nat) (a:LL) (c:Int):a0a E P0 (k+1) N.j7h [.v [.r a],.v [.i c]]=d8k k a c:=a2c [] [.sr,.sl,.sr,.bl] f7q (c4y k a c) (f7r a c) (b6n k a c) (by kernel_rfl) (fun j v=>by kernel_rfl)
end
end Go.Proofs.YtjadnceefhbphaaGreat.Ev
