/- What functions answer under the evaluator, as Lean terms, part 0: what FnExactDrain needs. No condition. -/
import Derived.Test.YtgilihjnmjgciaaGreatmTab
namespace Go.Proofs.YtgilihjnmjgciaaGreat.Ev
open Go Go.Proofs
set_option linter.unusedVariables false
set_option maxRecDepth 100000
set_option maxHeartbeats 4000000
noncomputable section
def d3z (k:Nat) (a:LL) (b:Int):OO:=
 bif (decide ((W64 (b - (a.length:Int)))<0)) then
  so_ [.i (-1)]
 else
  so_ [.i (W64 (b - (a.length:Int)))]
theorem f9d (k:Nat) (a:LL) (b:Int):a0a E P0 (k+1) N.j5z [vr_ a,vi_ b]=d3z k a b:=by kernel_rfl
def b1s (k:Nat) (b:LL) (e:(V1_)→OO):(V1_)→OO:=fun (c,a)=>
 bif (decide (a<(b.length:Int))) then
  chk (decide (0≤a)&&decide (a<(b.length:Int))) <|
  a0f (a0a E P0 k N.j5z [.v [.r (at_ b a.toNat 0).asR],.v [.i c]]) fun d=>
  bif (decide ((d.t 0).asI<0)) then some ⟨[.i (-1)],[]⟩ else e ((d.t 0).asI,(W64 (a+1)))
 else
  some ⟨[.i c],[]⟩
def e6s:List Nat:=[0,1,4,5,26]
def e6t (a:LL):(V1_)→St:=fun (b,c)=>⟨a3k [(0,.sl 79 a),(1,.i .i64 b),(4,.i .i64 0),(5,.i .i64 c),(26,.skip)],a1e []⟩
def c1d (k:Nat) (a:LL) (b:Int) (c:(V1_)→OO):OO:=
 bif (decide ((W64 (b - (a.length:Int)))<0)) then
  some ⟨[.i (-1)],[]⟩
 else
  c ((W64 (b - (a.length:Int))),0)
def c9y (k:Nat) (a:LL) (b:Int):OO:=
 c1d k a b (fun v=>a1i (b1s k a) k v)
theorem f1x (k:Nat) (a:LL) (c:Int):a0a E P0 (k+1) N.j9x [.v [.r a],.v [.i c]]=c9y k a c:=a1y [] [.sr,.sr,.sr,.sl,.sr,.bl] e6s (c1d k a c) (e6t a) (b1s k a) (by kernel_rfl) (fun j v=>by kernel_rfl)
def e6u (k:Nat) (d:Int) (b:LL) (c:Int):OO:=
 a0f (a0a E P0 k N.j5z [.v [.r b],.v [.i c]]) fun a=>
 bif (decide ((a.t 0).asI<0)) then some ⟨[.i (-1)],[]⟩ else some ⟨[.i (a.t 0).asI],[]⟩
theorem g9t (k:Nat) (a:Int) (b:LL) (c:Int):a0a E P0 (k+1) N.j9y [.v [.i a,.r b],.v [.i c]]=e6u k a b c:=by kernel_rfl
def b7n (k:Nat) (b:LL) (e:(V1_)→OO):(V1_)→OO:=fun (c,a)=>
 bif (decide (a<(b.length:Int))) then
  chk (decide (0≤a)&&decide (a<(b.length:Int))) <|
  a0f (a0a E P0 k N.j9y [.v [.i (at_ b a.toNat 0).asI,.r (at_ b a.toNat 1).asR],.v [.i c]]) fun d=>
  bif (decide ((d.t 0).asI<0)) then some ⟨[.i (-1)],[]⟩ else e ((d.t 0).asI,(W64 (a+1)))
 else
  some ⟨[.i c],[]⟩
def f9e:List Nat:=[0,1,4,5,26]
def f9f (a:LL):(V1_)→St:=fun (b,c)=>⟨a3k [(0,.sl 176 a),(1,.i .i64 b),(4,.i .i64 0),(5,.i .i64 c),(26,.skip)],a1e []⟩
def c6g (k:Nat) (a:LL) (b:Int) (c:(V1_)→OO):OO:=
 bif (decide ((W64 (b - (a.length:Int)))<0)) then
  some ⟨[.i (-1)],[]⟩
 else
  c ((W64 (b - (a.length:Int))),0)
def d9t (k:Nat) (a:LL) (b:Int):OO:=
 c6g k a b (fun v=>a1i (b7n k a) k v)
theorem g5b (k:Nat) (a:LL) (c:Int):a0a E P0 (k+1) N.j9z [.v [.r a],.v [.i c]]=d9t k a c:=a1y [] [.sr,.sr,.sr,.sl,.sr,.bl] f9e (c6g k a c) (f9f a) (b7n k a) (by kernel_rfl) (fun j v=>by kernel_rfl)
def d9u (k:Nat) (d e:LL) (h:Bool) (f:LL) (g:Int):OO:=
 a0f (a0a E P0 k N.j9x [.v [.r d],.v [.i g]]) fun a=>
 bif (decide ((a.t 0).asI<0)) then
  some ⟨[.i (-1)],[]⟩
 else
  a0f (a0a E P0 k N.j9z [.v [.r e],.v [.i (a.t 0).asI]]) fun b=>
  bif (decide ((b.t 0).asI<0)) then
   some ⟨[.i (-1)],[]⟩
  else
   a0f (a0a E P0 k N.j5z [.v [.r f],.v [.i (b.t 0).asI]]) fun c=>
   bif (decide ((c.t 0).asI<0)) then some ⟨[.i (-1)],[]⟩ else some ⟨[.i (c.t 0).asI],[]⟩
theorem g5c (k:Nat) (a c:LL) (d:Bool) (e:LL) (f:Int):a0a E P0 (k+1) N.k0a [.v [.r a,.r c,.b d,.r e],.v [.i f]]=d9u k a c d e f:=by kernel_rfl
def b4v (k:Nat) (c:LL) (f:(V1_)→OO):(V1_)→OO:=fun (d,a)=>
 bif (decide (a<(c.length:Int))) then
  chk (decide (0≤a)&&decide (a<(c.length:Int))) <|
  a0f (a0a E P0 k N.k0a [.v [.r (at_ c a.toNat 0).asR,.r (at_ c a.toNat 1).asR,.b (at_ c a.toNat 2).asB,.r (at_ c a.toNat 3).asR],.v [.i d]]) fun e=>
  bif (decide ((e.t 0).asI<0)) then some ⟨[.i (-1)],[]⟩ else f ((e.t 0).asI,(W64 (a+1)))
 else
  some ⟨[.i d],[]⟩
def f1y:List Nat:=[0,1,4,5,26]
def f1z (a:LL):(V1_)→St:=fun (b,c)=>⟨a3k [(0,.sl 128 a),(1,.i .i64 b),(4,.i .i64 0),(5,.i .i64 c),(26,.skip)],a1e []⟩
def c3l (k:Nat) (a:LL) (b:Int) (c:(V1_)→OO):OO:=
 bif (decide ((W64 (b - (a.length:Int)))<0)) then
  some ⟨[.i (-1)],[]⟩
 else
  c ((W64 (b - (a.length:Int))),0)
def d4a (k:Nat) (a:LL) (b:Int):OO:=
 c3l k a b (fun v=>a1i (b4v k a) k v)
theorem f9g (k:Nat) (a:LL) (c:Int):a0a E P0 (k+1) N.k0b [.v [.r a],.v [.i c]]=d4a k a c:=a1y [] [.sr,.sr,.sr,.sl,.sr,.bl] f1y (c3l k a c) (f1z a) (b4v k a) (by kernel_rfl) (fun j v=>by kernel_rfl)
def d9v (k:Nat) (d:Int) (b:LL) (c:Int):OO:=
 a0f (a0a E P0 k N.j5z [.v [.r b],.v [.i c]]) fun a=>
 bif (decide ((a.t 0).asI<0)) then some ⟨[.i (-1)],[]⟩ else some ⟨[.i (a.t 0).asI],[]⟩
theorem g5d (k:Nat) (a:Int) (b:LL) (c:Int):a0a E P0 (k+1) N.k0c [.v [.i a,.r b],.v [.i c]]=d9v k a b c:=by kernel_rfl
def b4w (k:Nat) (b:LL) (e:(V1_)→OO):(V1_)→OO:=fun (c,a)=>
 bif (decide (a<(b.length:Int))) then
  chk (decide (0≤a)&&decide (a<(b.length:Int))) <|
  a0f (a0a E P0 k N.k0c [.v [.i (at_ b a.toNat 0).asI,.r (at_ b a.toNat 1).asR],.v [.i c]]) fun d=>
  bif (decide ((d.t 0).asI<0)) then some ⟨[.i (-1)],[]⟩ else e ((d.t 0).asI,(W64 (a+1)))
 else
  some ⟨[.i c],[]⟩
def f2a:List Nat:=[0,1,4,5,26]
def f2b (a:LL):(V1_)→St:=fun (b,c)=>⟨a3k [(0,.sl 131 a),(1,.i .i64 b),(4,.i .i64 0),(5,.i .i64 c),(26,.skip)],a1e []⟩
def c3m (k:Nat) (a:LL) (b:Int) (c:(V1_)→OO):OO:=
 bif (decide ((W64 (b - (a.length:Int)))<0)) then
  some ⟨[.i (-1)],[]⟩
 else
  c ((W64 (b - (a.length:Int))),0)
def d4b (k:Nat) (a:LL) (b:Int):OO:=
 c3m k a b (fun v=>a1i (b4w k a) k v)
theorem f9h (k:Nat) (a:LL) (c:Int):a0a E P0 (k+1) N.k0d [.v [.r a],.v [.i c]]=d4b k a c:=a1y [] [.sr,.sr,.sr,.sl,.sr,.bl] f2a (c3m k a c) (f2b a) (b4w k a) (by kernel_rfl) (fun j v=>by kernel_rfl)
def d9w (k:Nat) (f g h:Int) (c:LL) (l m n o p:Int) (d:LL) (q:Int) (u w:Bool) (e:Int):OO:=
 a0f (a0a E P0 k N.k0b [.v [.r c],.v [.i e]]) fun a=>
 bif (decide ((a.t 0).asI<0)) then
  some ⟨[.i (-1)],[]⟩
 else
  a0f (a0a E P0 k N.k0d [.v [.r d],.v [.i (a.t 0).asI]]) fun b=>
  bif (decide ((b.t 0).asI<0)) then some ⟨[.i (-1)],[]⟩ else some ⟨[.i (b.t 0).asI],[]⟩
theorem g5e (k:Nat) (a c d:Int) (e:LL) (f g h l m:Int) (n:LL) (o:Int) (p q:Bool) (t:Int):a0a E P0 (k+1) N.k0e [.v [.i a,.i c,.i d,.r e,.i f,.i g,.i h,.i l,.i m,.r n,.i o,.b p,.b q],.v [.i t]]=d9w k a c d e f g h l m n o p q t:=by kernel_rfl
def d9x (k:Nat) (d e f g:Int) (b:LL) (c:Int):OO:=
 a0f (a0a E P0 k N.j5z [.v [.r b],.v [.i c]]) fun a=>
 bif (decide ((a.t 0).asI<0)) then some ⟨[.i (-1)],[]⟩ else some ⟨[.i (a.t 0).asI],[]⟩
theorem g5f (k:Nat) (a b c d:Int) (e:LL) (f:Int):a0a E P0 (k+1) N.j7i [.v [.i a,.i b,.i c,.i d,.r e],.v [.i f]]=d9x k a b c d e f:=by kernel_rfl
def b4x (k:Nat) (b:LL) (e:(V1_)→OO):(V1_)→OO:=fun (c,a)=>
 bif (decide (a<(b.length:Int))) then
  chk (decide (0≤a)&&decide (a<(b.length:Int))) <|
  a0f (a0a E P0 k N.j7i [.v [.i (at_ b a.toNat 0).asI,.i (at_ b a.toNat 1).asI,.i (at_ b a.toNat 2).asI,.i (at_ b a.toNat 3).asI,.r (at_ b a.toNat 4).asR],.v [.i c]]) fun d=>
  bif (decide ((d.t 0).asI<0)) then some ⟨[.i (-1)],[]⟩ else e ((d.t 0).asI,(W64 (a+1)))
 else
  some ⟨[.i c],[]⟩
def f2c:List Nat:=[0,1,4,5,26]
def f2d (a:LL):(V1_)→St:=fun (b,c)=>⟨a3k [(0,.sl 81 a),(1,.i .i64 b),(4,.i .i64 0),(5,.i .i64 c),(26,.skip)],a1e []⟩
def c3n (k:Nat) (a:LL) (b:Int) (c:(V1_)→OO):OO:=
 bif (decide ((W64 (b - (a.length:Int)))<0)) then
  some ⟨[.i (-1)],[]⟩
 else
  c ((W64 (b - (a.length:Int))),0)
def d4c (k:Nat) (a:LL) (b:Int):OO:=
 c3n k a b (fun v=>a1i (b4x k a) k v)
theorem f9i (k:Nat) (a:LL) (c:Int):a0a E P0 (k+1) N.k0f [.v [.r a],.v [.i c]]=d4c k a c:=a1y [] [.sr,.sr,.sr,.sl,.sr,.bl] f2c (c3n k a c) (f2d a) (b4x k a) (by kernel_rfl) (fun j v=>by kernel_rfl)
def d9y (k:Nat) (c d e f:Int) (g:LL) (m:Int) (h:LL) (n l:Int):OO:=
 a0f (a0a E P0 k N.j7i [.v [.i c,.i d,.i e,.i f,.r g],.v [.i l]]) fun a=>
 bif (decide ((a.t 0).asI<0)) then
  some ⟨[.i (-1)],[]⟩
 else
  a0f (a0a E P0 k N.j5z [.v [.r h],.v [.i (a.t 0).asI]]) fun b=>
  bif (decide ((b.t 0).asI<0)) then some ⟨[.i (-1)],[]⟩ else some ⟨[.i (b.t 0).asI],[]⟩
theorem g5g (k:Nat) (a b c d:Int) (e:LL) (f:Int) (g:LL) (h l:Int):a0a E P0 (k+1) N.k0g [.v [.i a,.i b,.i c,.i d,.r e,.i f,.r g,.i h],.v [.i l]]=d9y k a b c d e f g h l:=by kernel_rfl
def b4y (k:Nat) (b:LL) (e:(V1_)→OO):(V1_)→OO:=fun (c,a)=>
 bif (decide (a<(b.length:Int))) then
  chk (decide (0≤a)&&decide (a<(b.length:Int))) <|
  a0f (a0a E P0 k N.k0g [.v [.i (at_ b a.toNat 0).asI,.i (at_ b a.toNat 1).asI,.i (at_ b a.toNat 2).asI,.i (at_ b a.toNat 3).asI,.r (at_ b a.toNat 4).asR,.i (at_ b a.toNat 5).asI,.r (at_ b a.toNat 6).asR,.i (at_ b a.toNat 7).asI],.v [.i c]]) fun d=>
  bif (decide ((d.t 0).asI<0)) then some ⟨[.i (-1)],[]⟩ else e ((d.t 0).asI,(W64 (a+1)))
 else
  some ⟨[.i c],[]⟩
def f2e:List Nat:=[0,1,4,5,26]
def f2f (a:LL):(V1_)→St:=fun (b,c)=>⟨a3k [(0,.sl 84 a),(1,.i .i64 b),(4,.i .i64 0),(5,.i .i64 c),(26,.skip)],a1e []⟩
def c3o (k:Nat) (a:LL) (b:Int) (c:(V1_)→OO):OO:=
 bif (decide ((W64 (b - (a.length:Int)))<0)) then
  some ⟨[.i (-1)],[]⟩
 else
  c ((W64 (b - (a.length:Int))),0)
def d4d (k:Nat) (a:LL) (b:Int):OO:=
 c3o k a b (fun v=>a1i (b4y k a) k v)
theorem f9j (k:Nat) (a:LL) (c:Int):a0a E P0 (k+1) N.k0h [.v [.r a],.v [.i c]]=d4d k a c:=a1y [] [.sr,.sr,.sr,.sl,.sr,.bl] f2e (c3o k a c) (f2f a) (b4y k a) (by kernel_rfl) (fun j v=>by kernel_rfl)
def d9z (k:Nat) (d e:Int) (b:LL) (c:Int):OO:=
 a0f (a0a E P0 k N.j5z [.v [.r b],.v [.i c]]) fun a=>
 bif (decide ((a.t 0).asI<0)) then some ⟨[.i (-1)],[]⟩ else some ⟨[.i (a.t 0).asI],[]⟩
theorem g5h (k:Nat) (a b:Int) (c:LL) (d:Int):a0a E P0 (k+1) N.j8e [.v [.i a,.i b,.r c],.v [.i d]]=d9z k a b c d:=by kernel_rfl
def b4z (k:Nat) (b:LL) (e:(V1_)→OO):(V1_)→OO:=fun (c,a)=>
 bif (decide (a<(b.length:Int))) then
  chk (decide (0≤a)&&decide (a<(b.length:Int))) <|
  a0f (a0a E P0 k N.j8e [.v [.i (at_ b a.toNat 0).asI,.i (at_ b a.toNat 1).asI,.r (at_ b a.toNat 2).asR],.v [.i c]]) fun d=>
  bif (decide ((d.t 0).asI<0)) then some ⟨[.i (-1)],[]⟩ else e ((d.t 0).asI,(W64 (a+1)))
 else
  some ⟨[.i c],[]⟩
def f2g:List Nat:=[0,1,4,5,26]
def f2h (a:LL):(V1_)→St:=fun (b,c)=>⟨a3k [(0,.sl 87 a),(1,.i .i64 b),(4,.i .i64 0),(5,.i .i64 c),(26,.skip)],a1e []⟩
def c3p (k:Nat) (a:LL) (b:Int) (c:(V1_)→OO):OO:=
 bif (decide ((W64 (b - (a.length:Int)))<0)) then
  some ⟨[.i (-1)],[]⟩
 else
  c ((W64 (b - (a.length:Int))),0)
def d4e (k:Nat) (a:LL) (b:Int):OO:=
 c3p k a b (fun v=>a1i (b4z k a) k v)
theorem f9k (k:Nat) (a:LL) (c:Int):a0a E P0 (k+1) N.k0i [.v [.r a],.v [.i c]]=d4e k a c:=a1y [] [.sr,.sr,.sr,.sl,.sr,.bl] f2g (c3p k a c) (f2h a) (b4z k a) (by kernel_rfl) (fun j v=>by kernel_rfl)
def d4f (k:Nat) (c d e f:Int) (g:LL) (h l:Int) (m:LL) (n:Int):OO:=
 a0f (a0a E P0 k N.j7i [.v [.i c,.i d,.i e,.i f,.r g],.v [.i n]]) fun a=>
 bif (decide ((a.t 0).asI<0)) then
  some ⟨[.i (-1)],[]⟩
 else
  a0f (a0a E P0 k N.j8e [.v [.i h,.i l,.r m],.v [.i (a.t 0).asI]]) fun b=>
  bif (decide ((b.t 0).asI<0)) then some ⟨[.i (-1)],[]⟩ else some ⟨[.i (b.t 0).asI],[]⟩
theorem f9l (k:Nat) (a b c d:Int) (e:LL) (f g:Int) (h:LL) (l:Int):a0a E P0 (k+1) N.k0j [.v [.i a,.i b,.i c,.i d,.r e,.i f,.i g,.r h],.v [.i l]]=d4f k a b c d e f g h l:=by kernel_rfl
def b1t (k:Nat) (b:LL) (e:(V1_)→OO):(V1_)→OO:=fun (c,a)=>
 bif (decide (a<(b.length:Int))) then
  chk (decide (0≤a)&&decide (a<(b.length:Int))) <|
  a0f (a0a E P0 k N.k0j [.v [.i (at_ b a.toNat 0).asI,.i (at_ b a.toNat 1).asI,.i (at_ b a.toNat 2).asI,.i (at_ b a.toNat 3).asI,.r (at_ b a.toNat 4).asR,.i (at_ b a.toNat 5).asI,.i (at_ b a.toNat 6).asI,.r (at_ b a.toNat 7).asR],.v [.i c]]) fun d=>
  bif (decide ((d.t 0).asI<0)) then some ⟨[.i (-1)],[]⟩ else e ((d.t 0).asI,(W64 (a+1)))
 else
  some ⟨[.i c],[]⟩
def e6v:List Nat:=[0,1,4,5,26]
def e6w (a:LL):(V1_)→St:=fun (b,c)=>⟨a3k [(0,.sl 90 a),(1,.i .i64 b),(4,.i .i64 0),(5,.i .i64 c),(26,.skip)],a1e []⟩
def c1e (k:Nat) (a:LL) (b:Int) (c:(V1_)→OO):OO:=
 bif (decide ((W64 (b - (a.length:Int)))<0)) then
  some ⟨[.i (-1)],[]⟩
 else
  c ((W64 (b - (a.length:Int))),0)
def c9z (k:Nat) (a:LL) (b:Int):OO:=
 c1e k a b (fun v=>a1i (b1t k a) k v)
theorem f2i (k:Nat) (a:LL) (c:Int):a0a E P0 (k+1) N.k0k [.v [.r a],.v [.i c]]=c9z k a c:=a1y [] [.sr,.sr,.sr,.sl,.sr,.bl] e6v (c1e k a c) (e6w a) (b1t k a) (by kernel_rfl) (fun j v=>by kernel_rfl)
def e0a (k:Nat) (g h l:Int) (m:LL) (n o p q u:Int) (w:LL) (x:Int) (y z:Bool) (A B C D:LL) (F:Int):OO:=
 a0f (a0a E P0 k N.k0e [.v [.i g,.i h,.i l,.r m,.i n,.i o,.i p,.i q,.i u,.r w,.i x,.b y,.b z],.v [.i F]]) fun a=>
 bif (decide ((a.t 0).asI<0)) then
  some ⟨[.i (-1)],[]⟩
 else
  a0f (a0a E P0 k N.k0f [.v [.r A],.v [.i (a.t 0).asI]]) fun c=>
  bif (decide ((c.t 0).asI<0)) then
   some ⟨[.i (-1)],[]⟩
  else
   a0f (a0a E P0 k N.k0h [.v [.r B],.v [.i (c.t 0).asI]]) fun d=>
   bif (decide ((d.t 0).asI<0)) then
    some ⟨[.i (-1)],[]⟩
   else
    a0f (a0a E P0 k N.k0i [.v [.r C],.v [.i (d.t 0).asI]]) fun e=>
    bif (decide ((e.t 0).asI<0)) then
     some ⟨[.i (-1)],[]⟩
    else
     a0f (a0a E P0 k N.k0k [.v [.r D],.v [.i (e.t 0).asI]]) fun f=>
     bif (decide ((f.t 0).asI<0)) then some ⟨[.i (-1)],[]⟩ else some ⟨[.i (f.t 0).asI],[]⟩
theorem g5i (k:Nat) (a c d:Int) (e:LL) (f g h l m:Int) (n:LL) (o:Int) (p q:Bool) (t u w x:LL) (y:Int):a0a E P0 (k+1) N.k0l [.v [.i a,.i c,.i d,.r e,.i f,.i g,.i h,.i l,.i m,.r n,.i o,.b p,.b q,.r t,.r u,.r w,.r x],.v [.i y]]=e0a k a c d e f g h l m n o p q t u w x y:=by kernel_rfl
def e0b (k:Nat) (a b:Int):OO:=
 so_ [.i a,.i b]
theorem g5j (k:Nat) (a b:Int):a0a E P0 (k+1) N.k0m [.v [.i a,.i b]]=e0b k a b:=by kernel_rfl
def b5a (k:Nat) (b:LL) (d:(V0_)→OO):(V0_)→OO:=fun (a,c)=>
 bif (decide (a<(b.length:Int))) then
  chk (decide (0≤a)&&decide (a<(b.length:Int))) <|
  chk (decide (0≤a)&&decide (a<(c.length:Int))) <|
  d ((W64 (a+1)),(a0x c a.toNat 0 [.i (at_ b a.toNat 0).asI]))
 else
  some ⟨[.r c],[]⟩
def f2j:List Nat:=[0,2,3,4,21]
def f2k (a:LL):(V0_)→St:=fun (b,c)=>⟨a3k [(0,.sl 3 a),(2,.ref (2,0)),(3,.ref (3,0)),(4,.i .i64 b),(21,.skip)],a1e [((2,0),.row 3 true []),((3,0),.row 3 true c)]⟩
def c3q (k:Nat) (a:LL) (b:(V0_)→OO):OO:=
 chk (decide ((a.length:Int)=(a.length:Int))&&decide (0≤(a.length:Int))&&decide ((a.length:Int)*((8:Nat):Int)≤140737488355328)) <|
 b (0,(List.replicate ((a.length:Int):Int).toNat ([.i 0]:List T)))
def d4g (k:Nat) (a:LL):OO:=
 c3q k a (fun v=>a1i (b5a k a) k v)
theorem f9m (k:Nat) (a:LL):a0a E P0 (k+1) N.j6a [.v [.r a]]=d4g k a:=a1y [] [.sr,.sr,.sl,.sr,.bl] f2j (c3q k a) (f2k a) (b5a k a) (by kernel_rfl) (fun j v=>by kernel_rfl)
def b1u (k:Nat) (b:LL) (d:(V0_)→OO):(V0_)→OO:=fun (a,c)=>
 bif (decide (a<(b.length:Int))) then
  chk (decide (0≤a)&&decide (a<(b.length:Int))) <|
  a0f (a0a E P0 k N.j6a [.v [.r (at_ b a.toNat 0).asR]]) fun e=>
  chk (decide (0≤a)&&decide (a<(c.length:Int))) <|
  d ((W64 (a+1)),(a0x c a.toNat 0 [.r (e.t 0).asR]))
 else
  some ⟨[.r c],[]⟩
def e6x:List Nat:=[0,2,3,4,22]
def e6y (a:LL):(V0_)→St:=fun (b,c)=>⟨a3k [(0,.sl 79 a),(2,.ref (2,0)),(3,.ref (3,0)),(4,.i .i64 b),(22,.skip)],Mem.put (a1e [((2,0),.deep 79 [] none),((3,0),.deep 79 c none)]) a3l .dead⟩
def c1f (k:Nat) (a:LL) (b:(V0_)→OO):OO:=
 chk (decide ((a.length:Int)=(a.length:Int))&&decide (0≤(a.length:Int))&&decide ((a.length:Int)*((24:Nat):Int)≤140737488355328)) <|
 b (0,(List.replicate ((a.length:Int):Int).toNat ([.r []]:List T)))
def d0a (k:Nat) (a:LL):OO:=
 c1f k a (fun v=>a1i (b1u k a) k v)
theorem f2l (k:Nat) (a:LL):a0a E P0 (k+1) N.k0n [.v [.r a]]=d0a k a:=a1y [] [.sr,.sr,.sl,.sr,.bl] e6x (c1f k a) (e6y a) (b1u k a) (by kernel_rfl) (fun j v=>by kernel_rfl)
def e6z (k:Nat) (a:Int) (b:LL):OO:=
 a0f (a0a E P0 k N.j6a [.v [.r b]]) fun c=>
 some ⟨[.i a,.r (c.t 0).asR],[]⟩
theorem g9u (k:Nat) (a:Int) (b:LL):a0a E P0 (k+1) N.k0o [.v [.i a,.r b]]=e6z k a b:=by kernel_rfl
def b7o (k:Nat) (b:LL) (e:(V0_)→OO):(V0_)→OO:=fun (a,c)=>
 bif (decide (a<(b.length:Int))) then
  chk (decide (0≤a)&&decide (a<(b.length:Int))) <|
  a0f (a0a E P0 k N.k0o [.v [.i (at_ b a.toNat 0).asI,.r (at_ b a.toNat 1).asR]]) fun d=>
  chk (decide (0≤a)&&decide (a<(c.length:Int))) <|
  e ((W64 (a+1)),(a0x c a.toNat 0 [.i (d.t 0).asI,.r (d.t 1).asR]))
 else
  some ⟨[.r c],[]⟩
def f9n:List Nat:=[0,2,3,4,22]
def f9o (a:LL):(V0_)→St:=fun (b,c)=>⟨a3k [(0,.sl 176 a),(2,.ref (2,0)),(3,.ref (3,0)),(4,.i .i64 b),(22,.skip)],Mem.put (a1e [((2,0),.deep 157 [] none),((3,0),.deep 157 c none)]) a3l .dead⟩
def c6h (k:Nat) (a:LL) (b:(V0_)→OO):OO:=
 chk (decide ((a.length:Int)=(a.length:Int))&&decide (0≤(a.length:Int))&&decide ((a.length:Int)*((32:Nat):Int)≤140737488355328)) <|
 b (0,(List.replicate ((a.length:Int):Int).toNat ([.i 0,.r []]:List T)))
def e0c (k:Nat) (a:LL):OO:=
 c6h k a (fun v=>a1i (b7o k a) k v)
theorem g5k (k:Nat) (a:LL):a0a E P0 (k+1) N.k0p [.v [.r a]]=e0c k a:=a1y [] [.sr,.sr,.sl,.sr,.bl] f9n (c6h k a) (f9o a) (b7o k a) (by kernel_rfl) (fun j v=>by kernel_rfl)
def e0d (k:Nat) (a c:LL) (d:Bool) (e:LL):OO:=
 a0f (a0a E P0 k N.k0n [.v [.r a]]) fun f=>
 a0f (a0a E P0 k N.k0p [.v [.r c]]) fun g=>
 a0f (a0a E P0 k N.j6a [.v [.r e]]) fun h=>
 some ⟨[.r (f.t 0).asR,.r (g.t 0).asR,.b d,.r (h.t 0).asR],[]⟩
theorem g5l (k:Nat) (a c:LL) (d:Bool) (e:LL):a0a E P0 (k+1) N.k0q [.v [.r a,.r c,.b d,.r e]]=e0d k a c d e:=by kernel_rfl
def b5b (k:Nat) (c:LL) (f:(V0_)→OO):(V0_)→OO:=fun (a,e)=>
 bif (decide (a<(c.length:Int))) then
  chk (decide (0≤a)&&decide (a<(c.length:Int))) <|
  a0f (a0a E P0 k N.k0q [.v [.r (at_ c a.toNat 0).asR,.r (at_ c a.toNat 1).asR,.b (at_ c a.toNat 2).asB,.r (at_ c a.toNat 3).asR]]) fun d=>
  chk (decide (0≤a)&&decide (a<(e.length:Int))) <|
  f ((W64 (a+1)),(a0x e a.toNat 0 [.r (d.t 0).asR,.r (d.t 1).asR,.b (d.t 2).asB,.r (d.t 3).asR]))
 else
  some ⟨[.r e],[]⟩
def f2m:List Nat:=[0,2,3,4,22]
def f2n (a:LL):(V0_)→St:=fun (b,c)=>⟨a3k [(0,.sl 128 a),(2,.ref (2,0)),(3,.ref (3,0)),(4,.i .i64 b),(22,.skip)],Mem.put (a1e [((2,0),.deep 134 [] none),((3,0),.deep 134 c none)]) a3l .dead⟩
def c3r (k:Nat) (a:LL) (c:(V0_)→OO):OO:=
 chk (decide ((a.length:Int)=(a.length:Int))&&decide (0≤(a.length:Int))&&decide ((a.length:Int)*((80:Nat):Int)≤140737488355328)) <|
 c (0,(List.replicate ((a.length:Int):Int).toNat ([.r [],.r [],.b false,.r []]:List T)))
def d4h (k:Nat) (a:LL):OO:=
 c3r k a (fun v=>a1i (b5b k a) k v)
theorem f9p (k:Nat) (a:LL):a0a E P0 (k+1) N.k0r [.v [.r a]]=d4h k a:=a1y [] [.sr,.sr,.sl,.sr,.bl] f2m (c3r k a) (f2n a) (b5b k a) (by kernel_rfl) (fun j v=>by kernel_rfl)
def e0e (k:Nat) (a:Int) (b:LL):OO:=
 a0f (a0a E P0 k N.j6a [.v [.r b]]) fun c=>
 some ⟨[.i a,.r (c.t 0).asR],[]⟩
theorem g5m (k:Nat) (a:Int) (b:LL):a0a E P0 (k+1) N.k0s [.v [.i a,.r b]]=e0e k a b:=by kernel_rfl
def b5c (k:Nat) (b:LL) (e:(V0_)→OO):(V0_)→OO:=fun (a,c)=>
 bif (decide (a<(b.length:Int))) then
  chk (decide (0≤a)&&decide (a<(b.length:Int))) <|
  a0f (a0a E P0 k N.k0s [.v [.i (at_ b a.toNat 0).asI,.r (at_ b a.toNat 1).asR]]) fun d=>
  chk (decide (0≤a)&&decide (a<(c.length:Int))) <|
  e ((W64 (a+1)),(a0x c a.toNat 0 [.i (d.t 0).asI,.r (d.t 1).asR]))
 else
  some ⟨[.r c],[]⟩
def f2o:List Nat:=[0,2,3,4,22]
def f2p (a:LL):(V0_)→St:=fun (b,c)=>⟨a3k [(0,.sl 131 a),(2,.ref (2,0)),(3,.ref (3,0)),(4,.i .i64 b),(22,.skip)],Mem.put (a1e [((2,0),.deep 136 [] none),((3,0),.deep 136 c none)]) a3l .dead⟩
def c3s (k:Nat) (a:LL) (b:(V0_)→OO):OO:=
 chk (decide ((a.length:Int)=(a.length:Int))&&decide (0≤(a.length:Int))&&decide ((a.length:Int)*((32:Nat):Int)≤140737488355328)) <|
 b (0,(List.replicate ((a.length:Int):Int).toNat ([.i 0,.r []]:List T)))
def d4i (k:Nat) (a:LL):OO:=
 c3s k a (fun v=>a1i (b5c k a) k v)
theorem f9q (k:Nat) (a:LL):a0a E P0 (k+1) N.k0t [.v [.r a]]=d4i k a:=a1y [] [.sr,.sr,.sl,.sr,.bl] f2o (c3s k a) (f2p a) (b5c k a) (by kernel_rfl) (fun j v=>by kernel_rfl)
def e0f (k:Nat) (c d e:Int) (f:LL) (g h l m n:Int) (o:LL) (p:Int) (q u:Bool):OO:=
 a0f (a0a E P0 k N.k0m [.v [.i d,.i e]]) fun a=>
 a0f (a0a E P0 k N.k0r [.v [.r f]]) fun w=>
 a0f (a0a E P0 k N.k0t [.v [.r o]]) fun x=>
 some ⟨[.i c,.i (a.t 0).asI,.i (a.t 1).asI,.r (w.t 0).asR,.i g,.i h,.i l,.i m,.i n,.r (x.t 0).asR,.i p,.b q,.b u],[]⟩
theorem g5n (k:Nat) (a c d:Int) (e:LL) (f g h l m:Int) (n:LL) (o:Int) (p q:Bool):a0a E P0 (k+1) N.k0u [.v [.i a,.i c,.i d,.r e,.i f,.i g,.i h,.i l,.i m,.r n,.i o,.b p,.b q]]=e0f k a c d e f g h l m n o p q:=by kernel_rfl
def e0g (k:Nat) (a b c d:Int) (e:LL):OO:=
 a0f (a0a E P0 k N.j6a [.v [.r e]]) fun f=>
 some ⟨[.i a,.i b,.i c,.i d,.r (f.t 0).asR],[]⟩
theorem g5o (k:Nat) (a b c d:Int) (e:LL):a0a E P0 (k+1) N.j7j [.v [.i a,.i b,.i c,.i d,.r e]]=e0g k a b c d e:=by kernel_rfl
def b5d (k:Nat) (b:LL) (e:(V0_)→OO):(V0_)→OO:=fun (a,d)=>
 bif (decide (a<(b.length:Int))) then
  chk (decide (0≤a)&&decide (a<(b.length:Int))) <|
  a0f (a0a E P0 k N.j7j [.v [.i (at_ b a.toNat 0).asI,.i (at_ b a.toNat 1).asI,.i (at_ b a.toNat 2).asI,.i (at_ b a.toNat 3).asI,.r (at_ b a.toNat 4).asR]]) fun c=>
  chk (decide (0≤a)&&decide (a<(d.length:Int))) <|
  e ((W64 (a+1)),(a0x d a.toNat 0 [.i (c.t 0).asI,.i (c.t 1).asI,.i (c.t 2).asI,.i (c.t 3).asI,.r (c.t 4).asR]))
 else
  some ⟨[.r d],[]⟩
def f2q:List Nat:=[0,2,3,4,22]
def f2r (a:LL):(V0_)→St:=fun (b,c)=>⟨a3k [(0,.sl 81 a),(2,.ref (2,0)),(3,.ref (3,0)),(4,.i .i64 b),(22,.skip)],Mem.put (a1e [((2,0),.deep 92 [] none),((3,0),.deep 92 c none)]) a3l .dead⟩
def c3t (k:Nat) (a:LL) (b:(V0_)→OO):OO:=
 chk (decide ((a.length:Int)=(a.length:Int))&&decide (0≤(a.length:Int))&&decide ((a.length:Int)*((56:Nat):Int)≤140737488355328)) <|
 b (0,(List.replicate ((a.length:Int):Int).toNat ([.i 0,.i 0,.i 0,.i 0,.r []]:List T)))
def d4j (k:Nat) (a:LL):OO:=
 c3t k a (fun v=>a1i (b5d k a) k v)
theorem f9r (k:Nat) (a:LL):a0a E P0 (k+1) N.k0v [.v [.r a]]=d4j k a:=a1y [] [.sr,.sr,.sl,.sr,.bl] f2q (c3t k a) (f2r a) (b5d k a) (by kernel_rfl) (fun j v=>by kernel_rfl)
def e0h (k:Nat) (b c d e:Int) (f:LL) (g:Int) (h:LL) (l:Int):OO:=
 a0f (a0a E P0 k N.j7j [.v [.i b,.i c,.i d,.i e,.r f]]) fun a=>
 a0f (a0a E P0 k N.j6a [.v [.r h]]) fun m=>
 some ⟨[.i (a.t 0).asI,.i (a.t 1).asI,.i (a.t 2).asI,.i (a.t 3).asI,.r (a.t 4).asR,.i g,.r (m.t 0).asR,.i l],[]⟩
theorem g5p (k:Nat) (a b c d:Int) (e:LL) (f:Int) (g:LL) (h:Int):a0a E P0 (k+1) N.k0w [.v [.i a,.i b,.i c,.i d,.r e,.i f,.r g,.i h]]=e0h k a b c d e f g h:=by kernel_rfl
def b5e (k:Nat) (b:LL) (e:(V0_)→OO):(V0_)→OO:=fun (a,d)=>
 bif (decide (a<(b.length:Int))) then
  chk (decide (0≤a)&&decide (a<(b.length:Int))) <|
  a0f (a0a E P0 k N.k0w [.v [.i (at_ b a.toNat 0).asI,.i (at_ b a.toNat 1).asI,.i (at_ b a.toNat 2).asI,.i (at_ b a.toNat 3).asI,.r (at_ b a.toNat 4).asR,.i (at_ b a.toNat 5).asI,.r (at_ b a.toNat 6).asR,.i (at_ b a.toNat 7).asI]]) fun c=>
  chk (decide (0≤a)&&decide (a<(d.length:Int))) <|
  e ((W64 (a+1)),(a0x d a.toNat 0 [.i (c.t 0).asI,.i (c.t 1).asI,.i (c.t 2).asI,.i (c.t 3).asI,.r (c.t 4).asR,.i (c.t 5).asI,.r (c.t 6).asR,.i (c.t 7).asI]))
 else
  some ⟨[.r d],[]⟩
def f2s:List Nat:=[0,2,3,4,22]
def f2t (a:LL):(V0_)→St:=fun (b,c)=>⟨a3k [(0,.sl 84 a),(2,.ref (2,0)),(3,.ref (3,0)),(4,.i .i64 b),(22,.skip)],Mem.put (a1e [((2,0),.deep 95 [] none),((3,0),.deep 95 c none)]) a3l .dead⟩
def c3u (k:Nat) (a:LL) (b:(V0_)→OO):OO:=
 chk (decide ((a.length:Int)=(a.length:Int))&&decide (0≤(a.length:Int))&&decide ((a.length:Int)*((96:Nat):Int)≤140737488355328)) <|
 b (0,(List.replicate ((a.length:Int):Int).toNat ([.i 0,.i 0,.i 0,.i 0,.r [],.i 0,.r [],.i 0]:List T)))
def d4k (k:Nat) (a:LL):OO:=
 c3u k a (fun v=>a1i (b5e k a) k v)
theorem f9s (k:Nat) (a:LL):a0a E P0 (k+1) N.k0x [.v [.r a]]=d4k k a:=a1y [] [.sr,.sr,.sl,.sr,.bl] f2s (c3u k a) (f2t a) (b5e k a) (by kernel_rfl) (fun j v=>by kernel_rfl)
def e0i (k:Nat) (a b:Int) (c:LL):OO:=
 a0f (a0a E P0 k N.j6a [.v [.r c]]) fun d=>
 some ⟨[.i a,.i b,.r (d.t 0).asR],[]⟩
theorem g5q (k:Nat) (a b:Int) (c:LL):a0a E P0 (k+1) N.j8f [.v [.i a,.i b,.r c]]=e0i k a b c:=by kernel_rfl
def b5f (k:Nat) (b:LL) (e:(V0_)→OO):(V0_)→OO:=fun (a,c)=>
 bif (decide (a<(b.length:Int))) then
  chk (decide (0≤a)&&decide (a<(b.length:Int))) <|
  a0f (a0a E P0 k N.j8f [.v [.i (at_ b a.toNat 0).asI,.i (at_ b a.toNat 1).asI,.r (at_ b a.toNat 2).asR]]) fun d=>
  chk (decide (0≤a)&&decide (a<(c.length:Int))) <|
  e ((W64 (a+1)),(a0x c a.toNat 0 [.i (d.t 0).asI,.i (d.t 1).asI,.r (d.t 2).asR]))
 else
  some ⟨[.r c],[]⟩
def f2u:List Nat:=[0,2,3,4,22]
def f2v (a:LL):(V0_)→St:=fun (b,c)=>⟨a3k [(0,.sl 87 a),(2,.ref (2,0)),(3,.ref (3,0)),(4,.i .i64 b),(22,.skip)],Mem.put (a1e [((2,0),.deep 96 [] none),((3,0),.deep 96 c none)]) a3l .dead⟩
def c3v (k:Nat) (a:LL) (b:(V0_)→OO):OO:=
 chk (decide ((a.length:Int)=(a.length:Int))&&decide (0≤(a.length:Int))&&decide ((a.length:Int)*((40:Nat):Int)≤140737488355328)) <|
 b (0,(List.replicate ((a.length:Int):Int).toNat ([.i 0,.i 0,.r []]:List T)))
def d4l (k:Nat) (a:LL):OO:=
 c3v k a (fun v=>a1i (b5f k a) k v)
theorem f9t (k:Nat) (a:LL):a0a E P0 (k+1) N.k0y [.v [.r a]]=d4l k a:=a1y [] [.sr,.sr,.sl,.sr,.bl] f2u (c3v k a) (f2v a) (b5f k a) (by kernel_rfl) (fun j v=>by kernel_rfl)
def d4m (k:Nat) (c d e f:Int) (g:LL) (h l:Int) (m:LL):OO:=
 a0f (a0a E P0 k N.j7j [.v [.i c,.i d,.i e,.i f,.r g]]) fun a=>
 a0f (a0a E P0 k N.j8f [.v [.i h,.i l,.r m]]) fun b=>
 some ⟨[.i (a.t 0).asI,.i (a.t 1).asI,.i (a.t 2).asI,.i (a.t 3).asI,.r (a.t 4).asR,.i (b.t 0).asI,.i (b.t 1).asI,.r (b.t 2).asR],[]⟩
theorem f9u (k:Nat) (a b c d:Int) (e:LL) (f g:Int) (h:LL):a0a E P0 (k+1) N.k0z [.v [.i a,.i b,.i c,.i d,.r e,.i f,.i g,.r h]]=d4m k a b c d e f g h:=by kernel_rfl
def b1v (k:Nat) (b:LL) (e:(V0_)→OO):(V0_)→OO:=fun (a,d)=>
 bif (decide (a<(b.length:Int))) then
  chk (decide (0≤a)&&decide (a<(b.length:Int))) <|
  a0f (a0a E P0 k N.k0z [.v [.i (at_ b a.toNat 0).asI,.i (at_ b a.toNat 1).asI,.i (at_ b a.toNat 2).asI,.i (at_ b a.toNat 3).asI,.r (at_ b a.toNat 4).asR,.i (at_ b a.toNat 5).asI,.i (at_ b a.toNat 6).asI,.r (at_ b a.toNat 7).asR]]) fun c=>
  chk (decide (0≤a)&&decide (a<(d.length:Int))) <|
  e ((W64 (a+1)),(a0x d a.toNat 0 [.i (c.t 0).asI,.i (c.t 1).asI,.i (c.t 2).asI,.i (c.t 3).asI,.r (c.t 4).asR,.i (c.t 5).asI,.i (c.t 6).asI,.r (c.t 7).asR]))
 else
  some ⟨[.r d],[]⟩
def e7a:List Nat:=[0,2,3,4,22]
def e7b (a:LL):(V0_)→St:=fun (b,c)=>⟨a3k [(0,.sl 90 a),(2,.ref (2,0)),(3,.ref (3,0)),(4,.i .i64 b),(22,.skip)],Mem.put (a1e [((2,0),.deep 99 [] none),((3,0),.deep 99 c none)]) a3l .dead⟩
def c1g (k:Nat) (a:LL) (b:(V0_)→OO):OO:=
 chk (decide ((a.length:Int)=(a.length:Int))&&decide (0≤(a.length:Int))&&decide ((a.length:Int)*((96:Nat):Int)≤140737488355328)) <|
 b (0,(List.replicate ((a.length:Int):Int).toNat ([.i 0,.i 0,.i 0,.i 0,.r [],.i 0,.i 0,.r []]:List T)))
def d0b (k:Nat) (a:LL):OO:=
 c1g k a (fun v=>a1i (b1v k a) k v)
theorem f2w (k:Nat) (a:LL):a0a E P0 (k+1) N.k1a [.v [.r a]]=d0b k a:=a1y [] [.sr,.sr,.sl,.sr,.bl] e7a (c1g k a) (e7b a) (b1v k a) (by kernel_rfl) (fun j v=>by kernel_rfl)
def e0j (k:Nat) (c d e:Int) (f:LL) (g h l m n:Int) (o:LL) (p:Int) (q u:Bool) (w x y z:LL):OO:=
 a0f (a0a E P0 k N.k0u [.v [.i c,.i d,.i e,.r f,.i g,.i h,.i l,.i m,.i n,.r o,.i p,.b q,.b u]]) fun a=>
 a0f (a0a E P0 k N.k0v [.v [.r w]]) fun A=>
 a0f (a0a E P0 k N.k0x [.v [.r x]]) fun B=>
 a0f (a0a E P0 k N.k0y [.v [.r y]]) fun C=>
 a0f (a0a E P0 k N.k1a [.v [.r z]]) fun D=>
 some ⟨[.i (a.t 0).asI,.i (a.t 1).asI,.i (a.t 2).asI,.r (a.t 3).asR,.i (a.t 4).asI,.i (a.t 5).asI,.i (a.t 6).asI,.i (a.t 7).asI,.i (a.t 8).asI,.r (a.t 9).asR,.i (a.t 10).asI,.b (a.t 11).asB,.b (a.t 12).asB,.r (A.t 0).asR,.r (B.t 0).asR,.r (C.t 0).asR,.r (D.t 0).asR],[]⟩
theorem g5r (k:Nat) (a c d:Int) (e:LL) (f g h l m:Int) (n:LL) (o:Int) (p q:Bool) (t u w x:LL):a0a E P0 (k+1) N.j6s [.v [.i a,.i c,.i d,.r e,.i f,.i g,.i h,.i l,.i m,.r n,.i o,.b p,.b q,.r t,.r u,.r w,.r x]]=e0j k a c d e f g h l m n o p q t u w x:=by kernel_rfl
def a5e (k:Nat) (l c:LL) (e:Bool) (m f g:LL) (h:(V0_)→OO):(V0_)→OO:=fun (a,d)=>
 bif (decide (a<(c.length:Int))) then
  chk (decide (0≤a)&&decide (a<(c.length:Int))) <|
  chk (decide (0≤a)&&decide (a<(c.length:Int))) <|
  chk (decide ((([]:LL).length+(at_ c a.toNat 1).asR.length)*8≤140737488355328)) <|
  chk (decide ((d.length+([[.i (at_ c a.toNat 0).asI,.r (([]:LL)++(at_ c a.toNat 1).asR)]]:LL).length)*32≤140737488355328)) <|
  h ((W64 (a+1)),(d++([[.i (at_ c a.toNat 0).asI,.r (([]:LL)++(at_ c a.toNat 1).asR)]]:LL)))
 else
  some ⟨[.r g,.r d,.b e,.r f],[]⟩
def f2x:List Nat:=[1,2,3,5,59]
def a9j (c d:LL) (a:Bool) (e f g:LL):(V0_)→St:=fun (h,l)=>⟨a3k [(1,.ptr (1,0) 0),(2,.ptr (2,0) 0),(3,.ptr (3,0) 0),(5,.i .i64 h),(59,.skip)],a1e [((1,0),.var [.sl 79 c,.sl 157 d,.b a,.sl 3 e]),((2,0),.var [.ref (2,1),.ref (2,2),.b false,.ref (2,4)]),((2,1),.row 79 true []),((2,2),.row 157 true []),((2,4),.row 3 true []),((3,0),.var [.ref (3,1),.ref (3,2),.b a,.ref (3,4)]),((3,1),.row 79 true g),((3,2),.row 157 true l),((3,4),.row 3 true f)]⟩
def b5g (k:Nat) (b g:LL) (h:Bool) (i d:LL) (e:LL→LL→(V0_)→OO) (f:(V0_)→OO):(V0_)→OO:=fun (a,c)=>
 bif (decide (a<(b.length:Int))) then
  chk (decide (0≤a)&&decide (a<(b.length:Int))) <|
  chk (decide ((([]:LL).length+(at_ b a.toNat 0).asR.length)*8≤140737488355328)) <|
  chk (decide ((c.length+([[.r (([]:LL)++(at_ b a.toNat 0).asR)]]:LL).length)*24≤140737488355328)) <|
  f ((W64 (a+1)),(c++([[.r (([]:LL)++(at_ b a.toNat 0).asR)]]:LL)))
 else
  e d c (0,[])
def f2y:List Nat:=[1,2,3,4,5,32,33,34,35,36,37,38,39,40,41,42,43,44,45,46,47,48,49,50,51,52,53,54,55,56,57,58,59]
def a9k (c d:LL) (a:Bool) (e f:LL):(V0_)→St:=fun (g,h)=>⟨a3k [(1,.ptr (1,0) 0),(2,.ptr (2,0) 0),(3,.ptr (3,0) 0),(4,.i .i64 g),(5,.skip),(32,.skip),(33,.skip),(34,.skip),(35,.skip),(36,.skip),(37,.skip),(38,.skip),(39,.skip),(40,.skip),(41,.skip),(42,.skip),(43,.skip),(44,.skip),(45,.skip),(46,.skip),(47,.skip),(48,.skip),(49,.skip),(50,.skip),(51,.skip),(52,.skip),(53,.skip),(54,.skip),(55,.skip),(56,.skip),(57,.skip),(58,.skip),(59,.skip)],a1e [((1,0),.var [.sl 79 c,.sl 157 d,.b a,.sl 3 e]),((2,0),.var [.ref (2,1),.ref (2,2),.b false,.ref (2,4)]),((2,1),.row 79 true []),((2,2),.row 157 true []),((2,4),.row 3 true []),((3,0),.var [.ref (3,1),.ref (3,2),.b a,.ref (3,4)]),((3,1),.row 79 true h),((3,2),.row 157 true []),((3,4),.row 3 true f)]⟩
def a6t (k:Nat) (a b:LL) (c:Bool) (d e:LL) (f:(V0_)→OO):(V0_)→OO:=
 b5g k a b c d e (fun g h v=>a1i (a5e k a b c d g h) k v) f
def c3w (k:Nat) (c d:LL) (e:Bool) (a:LL) (b:LL→(V0_)→OO):OO:=
 chk (decide ((([]:LL).length+a.length)*8≤140737488355328)) <|
 b (([]:LL)++a) (0,[])
def c3x (k:Nat) (a b:LL) (c:Bool) (d:LL):OO:=
 c3w k a b c d (fun e v=>a1i (a6t k a b c d e) k v)
def b1w (k:Nat) (a c:LL) (d:Bool) (e:LL) (js:List Nat) (j:Nat) (s:St):OO:=IT_ k N.j6f [.v [.r a,.r c,.b d,.r e]] [] [.sr,.sr,.sl,.sr,.bl] f2y js j s
def b1x (k:Nat) (a c:LL) (d:Bool) (e:LL) (js:List Nat) (j:Nat) (s:St):OO:=IT_ k N.j6f [.v [.r a,.r c,.b d,.r e]] [] [.sr,.sr,.sr,.sl,.sr,.bl] f2x js j s
theorem f9v (k:Nat) (a c:LL) (d:Bool) (e:LL):a0a E P0 (k+1) N.j6f [.v [.r a,.r c,.b d,.r e]]=c3x k a c d e:=by
 have m:a0a E P0 (k+1) N.j6f [.v [.r a,.r c,.b d,.r e]]=c3w k a c d e (fun l v=>b1w k a c d e [] k (a9k a c d e l v)):=by kernel_rfl
 have n:∀ (f g:LL) (h:Nat) (v:V0_),b1x k a c d e [] (h+1) (a9j a c d e f g v)=a5e k a c d e f g (fun v=>b1x k a c d e [] h (a9j a c d e f g v)) v:=by
  intro f g h v;kernel_rfl
 have o:∀ (f g:LL) (h:Nat) (v:V0_),b1x k a c d e [] h (a9j a c d e f g v)=a1i (a5e k a c d e f g) h v:=by
  intro f g h v;refine a1p (a9j a c d e f g) (a5e k a c d e f g) (fun h v=>(n f g h v).trans ?_) h v;unfold a5e;rfl
 have p:∀ (f:LL) (i:Nat) (v:V0_),b1w k a c d e [] (i+1) (a9k a c d e f v)=b5g k a c d e f (fun l q v=>b1x k a c d e [] k (a9j a c d e l q v)) (fun v=>b1w k a c d e [] i (a9k a c d e f v)) v:=by
  intro f i v;kernel_rfl
 have t:∀ (f:LL) (i:Nat) (v:V0_),b1w k a c d e [] i (a9k a c d e f v)=a1i (a6t k a c d e f) i v:=by
  intro f i v;refine a1p (a9k a c d e f) (a6t k a c d e f) (fun i v=>(p f i v).trans ?_) i v;unfold a6t;simp only [o] <;> rfl
 rw [m];unfold c3x;simp only [t]
def a5f (k:Nat) (e f g:Int) (x:LL) (h l m n o:Int) (c:LL) (p:Int) (q t:Bool) (u:LL) (w:(V0_)→OO):(V0_)→OO:=fun (a,d)=>
 bif (decide (a<(c.length:Int))) then
  chk (decide (0≤a)&&decide (a<(c.length:Int))) <|
  chk (decide (0≤a)&&decide (a<(c.length:Int))) <|
  chk (decide ((([]:LL).length+(at_ c a.toNat 1).asR.length)*8≤140737488355328)) <|
  chk (decide ((d.length+([[.i (at_ c a.toNat 0).asI,.r (([]:LL)++(at_ c a.toNat 1).asR)]]:LL).length)*32≤140737488355328)) <|
  w ((W64 (a+1)),(d++([[.i (at_ c a.toNat 0).asI,.r (([]:LL)++(at_ c a.toNat 1).asR)]]:LL)))
 else
  some ⟨[.i e,.i f,.i g,.r u,.i h,.i l,.i m,.i n,.i o,.r d,.i p,.b q,.b t],[]⟩
def f2z:List Nat:=[1,2,3,5,56]
def a9l (a c d:Int) (p:LL) (e f g h l:Int) (q:LL) (m:Int) (n o:Bool) (r:LL):(V0_)→St:=fun (t,u)=>⟨a3k [(1,.ptr (1,0) 0),(2,.ptr (2,0) 0),(3,.ptr (3,0) 0),(5,.i .i64 t),(56,.skip)],a1e [((1,0),.var [.i .i64 a,.i .i64 c,.i .i64 d,.sl 134 p,.i .i64 e,.i .i64 f,.i .i64 g,.i .i64 h,.i .i64 l,.sl 136 q,.i .i64 m,.b n,.b o]),((2,0),.var [.i .i64 0,.i .i64 0,.i .i64 0,.ref (2,4),.i .i64 0,.i .i64 0,.i .i64 0,.i .i64 0,.i .i64 0,.ref (2,10),.i .i64 0,.b false,.b false]),((2,4),.row 134 true []),((2,10),.row 136 true []),((3,0),.var [.i .i64 a,.i .i64 c,.i .i64 d,.ref (3,4),.i .i64 e,.i .i64 f,.i .i64 g,.i .i64 h,.i .i64 l,.ref (3,10),.i .i64 m,.b n,.b o]),((3,4),.row 134 true r),((3,10),.row 136 true u)]⟩
def b5h (k:Nat) (h i l:Int) (d:LL) (m n o p q:Int) (u:LL) (w:Int) (x y:Bool) (f:LL→(V0_)→OO) (g:(V0_)→OO):(V0_)→OO:=fun (a,e)=>
 bif (decide (a<(d.length:Int))) then
  chk (decide (0≤a)&&decide (a<(d.length:Int))) <|
  a0f (a0a E P0 k N.j6f [.v [.r (at_ d a.toNat 0).asR,.r (at_ d a.toNat 1).asR,.b (at_ d a.toNat 2).asB,.r (at_ d a.toNat 3).asR]]) fun c=>
  chk (decide ((e.length+([[.r (c.t 0).asR,.r (c.t 1).asR,.b (c.t 2).asB,.r (c.t 3).asR]]:LL).length)*80≤140737488355328)) <|
  g ((W64 (a+1)),(e++([[.r (c.t 0).asR,.r (c.t 1).asR,.b (c.t 2).asB,.r (c.t 3).asR]]:LL)))
 else
  f e (0,[])
def f3a:List Nat:=[1,2,3,4,5,27,28,29,30,31,32,33,34,35,36,37,38,39,40,41,42,43,44,45,46,47,48,49,50,51,52,53,54,55,56]
def a9m (a c d:Int) (q:LL) (e f g h l:Int) (m:LL) (n:Int) (o p:Bool):(V0_)→St:=fun (r,t)=>⟨a3k [(1,.ptr (1,0) 0),(2,.ptr (2,0) 0),(3,.ptr (3,0) 0),(4,.i .i64 r),(5,.skip),(27,.skip),(28,.skip),(29,.skip),(30,.skip),(31,.skip),(32,.skip),(33,.skip),(34,.skip),(35,.skip),(36,.skip),(37,.skip),(38,.skip),(39,.skip),(40,.skip),(41,.skip),(42,.skip),(43,.skip),(44,.skip),(45,.skip),(46,.skip),(47,.skip),(48,.skip),(49,.skip),(50,.skip),(51,.skip),(52,.skip),(53,.skip),(54,.skip),(55,.skip),(56,.skip)],a1e [((1,0),.var [.i .i64 a,.i .i64 c,.i .i64 d,.sl 134 q,.i .i64 e,.i .i64 f,.i .i64 g,.i .i64 h,.i .i64 l,.sl 136 m,.i .i64 n,.b o,.b p]),((2,0),.var [.i .i64 0,.i .i64 0,.i .i64 0,.ref (2,4),.i .i64 0,.i .i64 0,.i .i64 0,.i .i64 0,.i .i64 0,.ref (2,10),.i .i64 0,.b false,.b false]),((2,4),.row 134 true []),((2,10),.row 136 true []),((3,0),.var [.i .i64 a,.i .i64 c,.i .i64 d,.ref (3,4),.i .i64 e,.i .i64 f,.i .i64 g,.i .i64 h,.i .i64 l,.sl 136 m,.i .i64 n,.b o,.b p]),((3,4),.row 134 true t)]⟩
def a6u (k:Nat) (a b c:Int) (d:LL) (e f g h i:Int) (l:LL) (m:Int) (n o:Bool) (p:(V0_)→OO):(V0_)→OO:=
 b5h k a b c d e f g h i l m n o (fun q v=>a1i (a5f k a b c d e f g h i l m n o q) k v) p
def c3y (k:Nat) (b c d:Int) (e:LL) (f g h i l:Int) (m:LL) (n:Int) (o p:Bool) (a:(V0_)→OO):OO:=
 a (0,[])
def c3z (k:Nat) (a b c:Int) (d:LL) (e f g h i:Int) (l:LL) (m:Int) (n o:Bool):OO:=
 c3y k a b c d e f g h i l m n o (fun v=>a1i (a6u k a b c d e f g h i l m n o) k v)
def b1y (k:Nat) (a c d:Int) (e:LL) (f g h l m:Int) (n:LL) (o:Int) (p q:Bool) (js:List Nat) (j:Nat) (s:St):OO:=IT_ k N.j6g [.v [.i a,.i c,.i d,.r e,.i f,.i g,.i h,.i l,.i m,.r n,.i o,.b p,.b q]] [] [.sr,.sr,.sr,.sl,.sr,.bl] f3a js j s
def b1z (k:Nat) (a c d:Int) (e:LL) (f g h l m:Int) (n:LL) (o:Int) (p q:Bool) (js:List Nat) (j:Nat) (s:St):OO:=IT_ k N.j6g [.v [.i a,.i c,.i d,.r e,.i f,.i g,.i h,.i l,.i m,.r n,.i o,.b p,.b q]] [] [.sr,.sr,.sr,.sr,.sr,.sl,.sr,.bl] f2z js j s
theorem f9w (k:Nat) (a c d:Int) (e:LL) (f g h l m:Int) (n:LL) (o:Int) (p q:Bool):a0a E P0 (k+1) N.j6g [.v [.i a,.i c,.i d,.r e,.i f,.i g,.i h,.i l,.i m,.r n,.i o,.b p,.b q]]=c3z k a c d e f g h l m n o p q:=by
 have x:a0a E P0 (k+1) N.j6g [.v [.i a,.i c,.i d,.r e,.i f,.i g,.i h,.i l,.i m,.r n,.i o,.b p,.b q]]=c3y k a c d e f g h l m n o p q (fun v=>b1y k a c d e f g h l m n o p q [] k (a9m a c d e f g h l m n o p q v)):=by kernel_rfl
 have y:∀ (t:LL) (u:Nat) (v:V0_),b1z k a c d e f g h l m n o p q [] (u+1) (a9l a c d e f g h l m n o p q t v)=a5f k a c d e f g h l m n o p q t (fun v=>b1z k a c d e f g h l m n o p q [] u (a9l a c d e f g h l m n o p q t v)) v:=by
  intro t u v;kernel_rfl
 have z:∀ (t:LL) (u:Nat) (v:V0_),b1z k a c d e f g h l m n o p q [] u (a9l a c d e f g h l m n o p q t v)=a1i (a5f k a c d e f g h l m n o p q t) u v:=by
  intro t u v;refine a1p (a9l a c d e f g h l m n o p q t) (a5f k a c d e f g h l m n o p q t) (fun u v=>(y t u v).trans ?_) u v;unfold a5f;rfl
 have A:∀ (w:Nat) (v:V0_),b1y k a c d e f g h l m n o p q [] (w+1) (a9m a c d e f g h l m n o p q v)=b5h k a c d e f g h l m n o p q (fun B v=>b1z k a c d e f g h l m n o p q [] k (a9l a c d e f g h l m n o p q B v)) (fun v=>b1y k a c d e f g h l m n o p q [] w (a9m a c d e f g h l m n o p q v)) v:=by
  intro w v;kernel_rfl
 have C:∀ (w:Nat) (v:V0_),b1y k a c d e f g h l m n o p q [] w (a9m a c d e f g h l m n o p q v)=a1i (a6u k a c d e f g h l m n o p q) w v:=by
  intro w v;refine a1p (a9m a c d e f g h l m n o p q) (a6u k a c d e f g h l m n o p q) (fun w v=>(A w v).trans ?_) w v;unfold a6u;simp only [z] <;> rfl
 rw [x];unfold c3z;simp only [C]
def d0c (k:Nat) (b c d e:Int) (a:LL):OO:=
 chk (decide ((([]:LL).length+a.length)*8≤140737488355328)) <|
 so_ (S5_ b c d e (([]:LL)++a))
theorem f3b (k:Nat) (a b c d:Int) (e:LL):a0a E P0 (k+1) N.j7k [.v (S5_ a b c d e)]=d0c k a b c d e:=by kernel_rfl
def d4n (k:Nat) (b c:Int) (a:LL):OO:=
 chk (decide ((([]:LL).length+a.length)*8≤140737488355328)) <|
 so_ (S4_ b c (([]:LL)++a))
theorem f9x (k:Nat) (a b:Int) (c:LL):a0a E P0 (k+1) N.j5p [.v (S4_ a b c)]=d4n k a b c:=by kernel_rfl
def a4g (k:Nat) (o p q:Int) (u:LL) (w x y z A:Int) (B:LL) (C:Int) (D F:Bool) (G H J d:LL) (c:Outs) (h l m:LL) (n:(V0_)→OO):(V0_)→OO:=fun (a,g)=>
 bif (decide (a<(d.length:Int))) then
  chk (decide (0≤a)&&decide (a<(d.length:Int))) <|
  a0f (a0a E P0 k N.j7k [.v [.i (at_ d a.toNat 0).asI,.i (at_ d a.toNat 1).asI,.i (at_ d a.toNat 2).asI,.i (at_ d a.toNat 3).asI,.r (at_ d a.toNat 4).asR]]) fun e=>
  chk (decide (0≤a)&&decide (a<(d.length:Int))) <|
  a0f (a0a E P0 k N.j5p [.v [.i (at_ d a.toNat 5).asI,.i (at_ d a.toNat 6).asI,.r (at_ d a.toNat 7).asR]]) fun f=>
  chk (decide ((g.length+([[.i (e.t 0).asI,.i (e.t 1).asI,.i (e.t 2).asI,.i (e.t 3).asI,.r (e.t 4).asR,.i (f.t 0).asI,.i (f.t 1).asI,.r (f.t 2).asR]]:LL).length)*96≤140737488355328)) <|
  n ((W64 (a+1)),(g++([[.i (e.t 0).asI,.i (e.t 1).asI,.i (e.t 2).asI,.i (e.t 3).asI,.r (e.t 4).asR,.i (f.t 0).asI,.i (f.t 1).asI,.r (f.t 2).asR]]:LL)))
 else
  some ⟨[.i (c.t 0).asI,.i (c.t 1).asI,.i (c.t 2).asI,.r (c.t 3).asR,.i (c.t 4).asI,.i (c.t 5).asI,.i (c.t 6).asI,.i (c.t 7).asI,.i (c.t 8).asI,.r (c.t 9).asR,.i (c.t 10).asI,.b (c.t 11).asB,.b (c.t 12).asB,.r h,.r l,.r m,.r g],[]⟩
def e7c:List Nat:=[1,2,3,8,105]
def a7q (c d e:Int) (f:LL) (g h l m n:Int) (o:LL) (p:Int) (q r:Bool) (u w x y:LL) (a:Outs) (z A B:LL):(V0_)→St:=fun (C,D)=>⟨a3k [(1,.ptr (1,0) 0),(2,.ptr (2,0) 0),(3,.ptr (3,0) 0),(8,.i .i64 C),(105,.skip)],Mem.put (a1e [((1,0),.var [.i .i64 c,.i .i64 d,.i .i64 e,.sl 134 f,.i .i64 g,.i .i64 h,.i .i64 l,.i .i64 m,.i .i64 n,.sl 136 o,.i .i64 p,.b q,.b r,.sl 92 u,.sl 95 w,.sl 96 x,.sl 99 y]),((2,0),.var [.i .i64 0,.i .i64 0,.i .i64 0,.ref (2,4),.i .i64 0,.i .i64 0,.i .i64 0,.i .i64 0,.i .i64 0,.ref (2,10),.i .i64 0,.b false,.b false,.ref (2,14),.ref (2,15),.ref (2,16),.ref (2,17)]),((2,4),.deep 134 [] none),((2,10),.deep 136 [] none),((2,14),.deep 92 [] none),((2,15),.deep 95 [] none),((2,16),.deep 96 [] none),((2,17),.deep 99 [] none),((3,0),.var [.i .i64 (a.t 0).asI,.i .i64 (a.t 1).asI,.i .i64 (a.t 2).asI,.ref (3,4),.i .i64 (a.t 4).asI,.i .i64 (a.t 5).asI,.i .i64 (a.t 6).asI,.i .i64 (a.t 7).asI,.i .i64 (a.t 8).asI,.ref (3,10),.i .i64 (a.t 10).asI,.b (a.t 11).asB,.b (a.t 12).asB,.ref (3,14),.ref (3,15),.ref (3,16),.ref (3,17)]),((3,4),.row 134 true (a.t 3).asR),((3,10),.row 136 true (a.t 9).asR),((3,14),.deep 92 z none),((3,15),.deep 95 A none),((3,16),.deep 96 B none),((3,17),.deep 99 D none)]) a3l .dead⟩
def b2a (k:Nat) (m n o:Int) (p:LL) (q u w x y:Int) (z:LL) (A:Int) (B C:Bool) (D F c G:LL) (e:Outs) (f g:LL) (h:Outs→LL→LL→LL→(V0_)→OO) (l:(V0_)→OO):(V0_)→OO:=fun (a,d)=>
 bif (decide (a<(c.length:Int))) then
  chk (decide (0≤a)&&decide (a<(c.length:Int))) <|
  a0f (a0a E P0 k N.j5p [.v [.i (at_ c a.toNat 0).asI,.i (at_ c a.toNat 1).asI,.r (at_ c a.toNat 2).asR]]) fun b=>
  chk (decide ((d.length+([[.i (b.t 0).asI,.i (b.t 1).asI,.r (b.t 2).asR]]:LL).length)*40≤140737488355328)) <|
  l ((W64 (a+1)),(d++([[.i (b.t 0).asI,.i (b.t 1).asI,.r (b.t 2).asR]]:LL)))
 else
  h e f g d (0,[])
def e7d:List Nat:=[1,2,3,7,8,78,79,80,81,82,83,84,85,86,87,88,89,90,91,92,93,94,95,96,97,98,99,100,101,102,103,104,105]
def a7r (c d e:Int) (f:LL) (g h l m n:Int) (o:LL) (p:Int) (q r:Bool) (u w x y:LL) (a:Outs) (z A:LL):(V0_)→St:=fun (B,C)=>⟨a3k [(1,.ptr (1,0) 0),(2,.ptr (2,0) 0),(3,.ptr (3,0) 0),(7,.i .i64 B),(8,.skip),(78,.skip),(79,.skip),(80,.skip),(81,.skip),(82,.skip),(83,.skip),(84,.skip),(85,.skip),(86,.skip),(87,.skip),(88,.skip),(89,.skip),(90,.skip),(91,.skip),(92,.skip),(93,.skip),(94,.skip),(95,.skip),(96,.skip),(97,.skip),(98,.skip),(99,.skip),(100,.skip),(101,.skip),(102,.skip),(103,.skip),(104,.skip),(105,.skip)],Mem.put (a1e [((1,0),.var [.i .i64 c,.i .i64 d,.i .i64 e,.sl 134 f,.i .i64 g,.i .i64 h,.i .i64 l,.i .i64 m,.i .i64 n,.sl 136 o,.i .i64 p,.b q,.b r,.sl 92 u,.sl 95 w,.sl 96 x,.sl 99 y]),((2,0),.var [.i .i64 0,.i .i64 0,.i .i64 0,.ref (2,4),.i .i64 0,.i .i64 0,.i .i64 0,.i .i64 0,.i .i64 0,.ref (2,10),.i .i64 0,.b false,.b false,.ref (2,14),.ref (2,15),.ref (2,16),.ref (2,17)]),((2,4),.deep 134 [] none),((2,10),.deep 136 [] none),((2,14),.deep 92 [] none),((2,15),.deep 95 [] none),((2,16),.deep 96 [] none),((2,17),.deep 99 [] none),((3,0),.var [.i .i64 (a.t 0).asI,.i .i64 (a.t 1).asI,.i .i64 (a.t 2).asI,.ref (3,4),.i .i64 (a.t 4).asI,.i .i64 (a.t 5).asI,.i .i64 (a.t 6).asI,.i .i64 (a.t 7).asI,.i .i64 (a.t 8).asI,.ref (3,10),.i .i64 (a.t 10).asI,.b (a.t 11).asB,.b (a.t 12).asB,.ref (3,14),.ref (3,15),.ref (3,16),.ref (3,17)]),((3,4),.row 134 true (a.t 3).asR),((3,10),.row 136 true (a.t 9).asR),((3,14),.deep 92 z none),((3,15),.deep 95 A none),((3,16),.deep 96 C none),((3,17),.deep 99 [] none)]) a3l .dead⟩
def b2b (k:Nat) (l m n:Int) (o:LL) (p q u w x:Int) (y:LL) (z:Int) (A B:Bool) (C b D F:LL) (e:Outs) (f:LL) (g:Outs→LL→LL→(V0_)→OO) (h:(V0_)→OO):(V0_)→OO:=fun (a,d)=>
 bif (decide (a<(b.length:Int))) then
  chk (decide (0≤a)&&decide (a<(b.length:Int))) <|
  a0f (a0a E P0 k N.j7k [.v [.i (at_ b a.toNat 0).asI,.i (at_ b a.toNat 1).asI,.i (at_ b a.toNat 2).asI,.i (at_ b a.toNat 3).asI,.r (at_ b a.toNat 4).asR]]) fun c=>
  chk (decide ((([]:LL).length+(at_ b a.toNat 6).asR.length)*8≤140737488355328)) <|
  chk (decide ((d.length+([[.i (c.t 0).asI,.i (c.t 1).asI,.i (c.t 2).asI,.i (c.t 3).asI,.r (c.t 4).asR,.i (at_ b a.toNat 5).asI,.r (([]:LL)++(at_ b a.toNat 6).asR),.i (at_ b a.toNat 7).asI]]:LL).length)*96≤140737488355328)) <|
  h ((W64 (a+1)),(d++([[.i (c.t 0).asI,.i (c.t 1).asI,.i (c.t 2).asI,.i (c.t 3).asI,.r (c.t 4).asR,.i (at_ b a.toNat 5).asI,.r (([]:LL)++(at_ b a.toNat 6).asR),.i (at_ b a.toNat 7).asI]]:LL)))
 else
  g e f d (0,[])
def e7e:List Nat:=[1,2,3,5,7,8,60,61,62,63,64,65,66,67,68,69,70,71,72,73,74,75,76,77,78,79,80,81,82,83,84,85,86,87,88,89,90,91,92,93,94,95,96,97,98,99,100,101,102,103,104,105]
def a7s (c d e:Int) (f:LL) (g h l m n:Int) (o:LL) (p:Int) (q r:Bool) (u w x y:LL) (a:Outs) (z:LL):(V0_)→St:=fun (A,B)=>⟨a3k [(1,.ptr (1,0) 0),(2,.ptr (2,0) 0),(3,.ptr (3,0) 0),(5,.i .i64 A),(7,.skip),(8,.skip),(60,.skip),(61,.skip),(62,.skip),(63,.skip),(64,.skip),(65,.skip),(66,.skip),(67,.skip),(68,.skip),(69,.skip),(70,.skip),(71,.skip),(72,.skip),(73,.skip),(74,.skip),(75,.skip),(76,.skip),(77,.skip),(78,.skip),(79,.skip),(80,.skip),(81,.skip),(82,.skip),(83,.skip),(84,.skip),(85,.skip),(86,.skip),(87,.skip),(88,.skip),(89,.skip),(90,.skip),(91,.skip),(92,.skip),(93,.skip),(94,.skip),(95,.skip),(96,.skip),(97,.skip),(98,.skip),(99,.skip),(100,.skip),(101,.skip),(102,.skip),(103,.skip),(104,.skip),(105,.skip)],Mem.put (a1e [((1,0),.var [.i .i64 c,.i .i64 d,.i .i64 e,.sl 134 f,.i .i64 g,.i .i64 h,.i .i64 l,.i .i64 m,.i .i64 n,.sl 136 o,.i .i64 p,.b q,.b r,.sl 92 u,.sl 95 w,.sl 96 x,.sl 99 y]),((2,0),.var [.i .i64 0,.i .i64 0,.i .i64 0,.ref (2,4),.i .i64 0,.i .i64 0,.i .i64 0,.i .i64 0,.i .i64 0,.ref (2,10),.i .i64 0,.b false,.b false,.ref (2,14),.ref (2,15),.ref (2,16),.ref (2,17)]),((2,4),.deep 134 [] none),((2,10),.deep 136 [] none),((2,14),.deep 92 [] none),((2,15),.deep 95 [] none),((2,16),.deep 96 [] none),((2,17),.deep 99 [] none),((3,0),.var [.i .i64 (a.t 0).asI,.i .i64 (a.t 1).asI,.i .i64 (a.t 2).asI,.ref (3,4),.i .i64 (a.t 4).asI,.i .i64 (a.t 5).asI,.i .i64 (a.t 6).asI,.i .i64 (a.t 7).asI,.i .i64 (a.t 8).asI,.ref (3,10),.i .i64 (a.t 10).asI,.b (a.t 11).asB,.b (a.t 12).asB,.ref (3,14),.ref (3,15),.ref (3,16),.ref (3,17)]),((3,4),.row 134 true (a.t 3).asR),((3,10),.row 136 true (a.t 9).asR),((3,14),.deep 92 z none),((3,15),.deep 95 B none),((3,16),.deep 96 [] none),((3,17),.deep 99 [] none)]) a3l .dead⟩
def b2c (k:Nat) (h l m:Int) (n:LL) (o p q u w:Int) (x:LL) (y:Int) (z A:Bool) (c B C D:LL) (e:Outs) (f:Outs→LL→(V0_)→OO) (g:(V0_)→OO):(V0_)→OO:=fun (b,d)=>
 bif (decide (b<(c.length:Int))) then
  chk (decide (0≤b)&&decide (b<(c.length:Int))) <|
  a0f (a0a E P0 k N.j7k [.v [.i (at_ c b.toNat 0).asI,.i (at_ c b.toNat 1).asI,.i (at_ c b.toNat 2).asI,.i (at_ c b.toNat 3).asI,.r (at_ c b.toNat 4).asR]]) fun a=>
  chk (decide ((d.length+([[.i (a.t 0).asI,.i (a.t 1).asI,.i (a.t 2).asI,.i (a.t 3).asI,.r (a.t 4).asR]]:LL).length)*56≤140737488355328)) <|
  g ((W64 (b+1)),(d++([[.i (a.t 0).asI,.i (a.t 1).asI,.i (a.t 2).asI,.i (a.t 3).asI,.r (a.t 4).asR]]:LL)))
 else
  f e d (0,[])
def e7f:List Nat:=[1,2,3,4,5,6,7,8,31,32,33,34,35,36,37,38,39,40,41,42,43,44,45,46,47,48,49,50,51,52,53,54,55,56,57,58,59,60,61,62,63,64,65,66,67,68,69,70,71,72,73,74,75,76,77,78,79,80,81,82,83,84,85,86,87,88,89,90,91,92,93,94,95,96,97,98,99,100,101,102,103,104,105]
def a7t (c d e:Int) (f:LL) (g h l m n:Int) (o:LL) (p:Int) (q r:Bool) (u w x y:LL) (a:Outs):(V0_)→St:=fun (z,A)=>⟨a3k [(1,.ptr (1,0) 0),(2,.ptr (2,0) 0),(3,.ptr (3,0) 0),(4,.i .i64 z),(5,.skip),(6,.skip),(7,.skip),(8,.skip),(31,.skip),(32,.skip),(33,.skip),(34,.skip),(35,.skip),(36,.skip),(37,.skip),(38,.skip),(39,.skip),(40,.skip),(41,.skip),(42,.skip),(43,.skip),(44,.skip),(45,.skip),(46,.skip),(47,.skip),(48,.skip),(49,.skip),(50,.skip),(51,.skip),(52,.skip),(53,.skip),(54,.skip),(55,.skip),(56,.skip),(57,.skip),(58,.skip),(59,.skip),(60,.skip),(61,.skip),(62,.skip),(63,.skip),(64,.skip),(65,.skip),(66,.skip),(67,.skip),(68,.skip),(69,.skip),(70,.skip),(71,.skip),(72,.skip),(73,.skip),(74,.skip),(75,.skip),(76,.skip),(77,.skip),(78,.skip),(79,.skip),(80,.skip),(81,.skip),(82,.skip),(83,.skip),(84,.skip),(85,.skip),(86,.skip),(87,.skip),(88,.skip),(89,.skip),(90,.skip),(91,.skip),(92,.skip),(93,.skip),(94,.skip),(95,.skip),(96,.skip),(97,.skip),(98,.skip),(99,.skip),(100,.skip),(101,.skip),(102,.skip),(103,.skip),(104,.skip),(105,.skip)],Mem.put (a1e [((1,0),.var [.i .i64 c,.i .i64 d,.i .i64 e,.sl 134 f,.i .i64 g,.i .i64 h,.i .i64 l,.i .i64 m,.i .i64 n,.sl 136 o,.i .i64 p,.b q,.b r,.sl 92 u,.sl 95 w,.sl 96 x,.sl 99 y]),((2,0),.var [.i .i64 0,.i .i64 0,.i .i64 0,.ref (2,4),.i .i64 0,.i .i64 0,.i .i64 0,.i .i64 0,.i .i64 0,.ref (2,10),.i .i64 0,.b false,.b false,.ref (2,14),.ref (2,15),.ref (2,16),.ref (2,17)]),((2,4),.deep 134 [] none),((2,10),.deep 136 [] none),((2,14),.deep 92 [] none),((2,15),.deep 95 [] none),((2,16),.deep 96 [] none),((2,17),.deep 99 [] none),((3,0),.var [.i .i64 (a.t 0).asI,.i .i64 (a.t 1).asI,.i .i64 (a.t 2).asI,.ref (3,4),.i .i64 (a.t 4).asI,.i .i64 (a.t 5).asI,.i .i64 (a.t 6).asI,.i .i64 (a.t 7).asI,.i .i64 (a.t 8).asI,.ref (3,10),.i .i64 (a.t 10).asI,.b (a.t 11).asB,.b (a.t 12).asB,.ref (3,14),.ref (3,15),.ref (3,16),.ref (3,17)]),((3,4),.row 134 true (a.t 3).asR),((3,10),.row 136 true (a.t 9).asR),((3,14),.deep 92 A none),((3,15),.deep 95 [] none),((3,16),.deep 96 [] none),((3,17),.deep 99 [] none)]) a3l .dead⟩
def a5n (k:Nat) (a b c:Int) (d:LL) (e f g h i:Int) (l:LL) (m:Int) (n o:Bool) (p q r t:LL) (u:Outs) (w x:LL) (y:(V0_)→OO):(V0_)→OO:=
 b2a k a b c d e f g h i l m n o p q r t u w x (fun z A B C v=>a1i (a4g k a b c d e f g h i l m n o p q r t z A B C) k v) y
def a5o (k:Nat) (a b c:Int) (d:LL) (e f g h i:Int) (l:LL) (m:Int) (n o:Bool) (p q r t:LL) (u:Outs) (w:LL) (x:(V0_)→OO):(V0_)→OO:=
 b2b k a b c d e f g h i l m n o p q r t u w (fun y z A v=>a1i (a5n k a b c d e f g h i l m n o p q r t y z A) k v) x
def a5p (k:Nat) (a b c:Int) (d:LL) (e f g h i:Int) (l:LL) (m:Int) (n o:Bool) (p q r t:LL) (u:Outs) (w:(V0_)→OO):(V0_)→OO:=
 b2c k a b c d e f g h i l m n o p q r t u (fun x y v=>a1i (a5o k a b c d e f g h i l m n o p q r t x y) k v) w
def c1h (k:Nat) (a c d:Int) (e:LL) (f g h l m:Int) (n:LL) (o:Int) (p q:Bool) (w x y z:LL) (t:Outs→(V0_)→OO):OO:=
 a0f (a0a E P0 k N.j6g [.v [.i a,.i c,.i d,.r e,.i f,.i g,.i h,.i l,.i m,.r n,.i o,.b p,.b q]]) fun u=>
 t u (0,[])
def c1i (k:Nat) (a b c:Int) (d:LL) (e f g h i:Int) (l:LL) (m:Int) (n o:Bool) (p q r t:LL):OO:=
 c1h k a b c d e f g h i l m n o p q r t (fun u v=>a1i (a5p k a b c d e f g h i l m n o p q r t u) k v)
def b0a (k:Nat) (a c d:Int) (e:LL) (f g h l m:Int) (n:LL) (o:Int) (p q:Bool) (t u w x:LL) (js:List Nat) (j:Nat) (s:St):OO:=IT_ k N.j5t [.v [.i a,.i c,.i d,.r e,.i f,.i g,.i h,.i l,.i m,.r n,.i o,.b p,.b q,.r t,.r u,.r w,.r x]] [] [.sr,.sr,.sl,.sr,.bl] e7f js j s
def b0b (k:Nat) (a c d:Int) (e:LL) (f g h l m:Int) (n:LL) (o:Int) (p q:Bool) (t u w x:LL) (js:List Nat) (j:Nat) (s:St):OO:=IT_ k N.j5t [.v [.i a,.i c,.i d,.r e,.i f,.i g,.i h,.i l,.i m,.r n,.i o,.b p,.b q,.r t,.r u,.r w,.r x]] [] [.sr,.sr,.sr,.sl,.sr,.bl] e7e js j s
def b0c (k:Nat) (a c d:Int) (e:LL) (f g h l m:Int) (n:LL) (o:Int) (p q:Bool) (t u w x:LL) (js:List Nat) (j:Nat) (s:St):OO:=IT_ k N.j5t [.v [.i a,.i c,.i d,.r e,.i f,.i g,.i h,.i l,.i m,.r n,.i o,.b p,.b q,.r t,.r u,.r w,.r x]] [] [.sr,.sr,.sr,.sr,.sl,.sr,.bl] e7d js j s
def b0d (k:Nat) (a c d:Int) (e:LL) (f g h l m:Int) (n:LL) (o:Int) (p q:Bool) (t u w x:LL) (js:List Nat) (j:Nat) (s:St):OO:=IT_ k N.j5t [.v [.i a,.i c,.i d,.r e,.i f,.i g,.i h,.i l,.i m,.r n,.i o,.b p,.b q,.r t,.r u,.r w,.r x]] [] [.sr,.sr,.sr,.sr,.sr,.sl,.sr,.bl] e7c js j s
theorem f3c (k:Nat) (a c d:Int) (e:LL) (f g h l m:Int) (n:LL) (o:Int) (p q:Bool) (t u w x:LL):a0a E P0 (k+1) N.j5t [.v [.i a,.i c,.i d,.r e,.i f,.i g,.i h,.i l,.i m,.r n,.i o,.b p,.b q,.r t,.r u,.r w,.r x]]=c1i k a c d e f g h l m n o p q t u w x:=by
 have L:a0a E P0 (k+1) N.j5t [.v [.i a,.i c,.i d,.r e,.i f,.i g,.i h,.i l,.i m,.r n,.i o,.b p,.b q,.r t,.r u,.r w,.r x]]=c1h k a c d e f g h l m n o p q t u w x (fun H v=>b0a k a c d e f g h l m n o p q t u w x [] k (a7t a c d e f g h l m n o p q t u w x H v)):=by kernel_rfl
 have M:∀ (y:Outs) (z A B:LL) (C:Nat) (v:V0_),b0d k a c d e f g h l m n o p q t u w x [] (C+1) (a7q a c d e f g h l m n o p q t u w x y z A B v)=a4g k a c d e f g h l m n o p q t u w x y z A B (fun v=>b0d k a c d e f g h l m n o p q t u w x [] C (a7q a c d e f g h l m n o p q t u w x y z A B v)) v:=by
  intro y z A B C v;kernel_rfl
 have O:∀ (y:Outs) (z A B:LL) (C:Nat) (v:V0_),b0d k a c d e f g h l m n o p q t u w x [] C (a7q a c d e f g h l m n o p q t u w x y z A B v)=a1i (a4g k a c d e f g h l m n o p q t u w x y z A B) C v:=by
  intro y z A B C v;refine a1p (a7q a c d e f g h l m n o p q t u w x y z A B) (a4g k a c d e f g h l m n o p q t u w x y z A B) (fun C v=>(M y z A B C v).trans ?_) C v;unfold a4g;rfl
 have Q:∀ (y:Outs) (z A:LL) (D:Nat) (v:V0_),b0c k a c d e f g h l m n o p q t u w x [] (D+1) (a7r a c d e f g h l m n o p q t u w x y z A v)=b2a k a c d e f g h l m n o p q t u w x y z A (fun H J K R v=>b0d k a c d e f g h l m n o p q t u w x [] k (a7q a c d e f g h l m n o p q t u w x H J K R v)) (fun v=>b0c k a c d e f g h l m n o p q t u w x [] D (a7r a c d e f g h l m n o p q t u w x y z A v)) v:=by
  intro y z A D v;kernel_rfl
 have S:∀ (y:Outs) (z A:LL) (D:Nat) (v:V0_),b0c k a c d e f g h l m n o p q t u w x [] D (a7r a c d e f g h l m n o p q t u w x y z A v)=a1i (a5n k a c d e f g h l m n o p q t u w x y z A) D v:=by
  intro y z A D v;refine a1p (a7r a c d e f g h l m n o p q t u w x y z A) (a5n k a c d e f g h l m n o p q t u w x y z A) (fun D v=>(Q y z A D v).trans ?_) D v;unfold a5n;simp only [O] <;> rfl
 have U:∀ (y:Outs) (z:LL) (F:Nat) (v:V0_),b0b k a c d e f g h l m n o p q t u w x [] (F+1) (a7s a c d e f g h l m n o p q t u w x y z v)=b2b k a c d e f g h l m n o p q t u w x y z (fun H J K v=>b0c k a c d e f g h l m n o p q t u w x [] k (a7r a c d e f g h l m n o p q t u w x H J K v)) (fun v=>b0b k a c d e f g h l m n o p q t u w x [] F (a7s a c d e f g h l m n o p q t u w x y z v)) v:=by
  intro y z F v;kernel_rfl
 have V:∀ (y:Outs) (z:LL) (F:Nat) (v:V0_),b0b k a c d e f g h l m n o p q t u w x [] F (a7s a c d e f g h l m n o p q t u w x y z v)=a1i (a5o k a c d e f g h l m n o p q t u w x y z) F v:=by
  intro y z F v;refine a1p (a7s a c d e f g h l m n o p q t u w x y z) (a5o k a c d e f g h l m n o p q t u w x y z) (fun F v=>(U y z F v).trans ?_) F v;unfold a5o;simp only [S] <;> rfl
 have W:∀ (y:Outs) (G:Nat) (v:V0_),b0a k a c d e f g h l m n o p q t u w x [] (G+1) (a7t a c d e f g h l m n o p q t u w x y v)=b2c k a c d e f g h l m n o p q t u w x y (fun H J v=>b0b k a c d e f g h l m n o p q t u w x [] k (a7s a c d e f g h l m n o p q t u w x H J v)) (fun v=>b0a k a c d e f g h l m n o p q t u w x [] G (a7t a c d e f g h l m n o p q t u w x y v)) v:=by
  intro y G v;kernel_rfl
 have X:∀ (y:Outs) (G:Nat) (v:V0_),b0a k a c d e f g h l m n o p q t u w x [] G (a7t a c d e f g h l m n o p q t u w x y v)=a1i (a5p k a c d e f g h l m n o p q t u w x y) G v:=by
  intro y G v;refine a1p (a7t a c d e f g h l m n o p q t u w x y) (a5p k a c d e f g h l m n o p q t u w x y) (fun G v=>(W y G v).trans ?_) G v;unfold a5p;simp only [V] <;> rfl
 rw [L];unfold c1i;simp only [X]
def e7g (k:Nat) (a c d:Int):OO:=
 bif (decide (a≥c)) then so_ [.b (decide (a≤d))] else so_ [.b false]
theorem g9v (k:Nat) (a b c:Int):a0a E P0 (k+1) N.j5l [vi_ a,vi_ b,vi_ c]=e7g k a b c:=by kernel_rfl
def e0k (k:Nat) (a c:Int):OO:=
 a0f (a0a E P0 k N.j5l [.v [.i a],.v [.i 3],.v [.i 5]]) fun d=>
 bif (d.t 0).asB then
  a0f (a0a E P0 k N.j5l [.v [.i c],.v [.i 1],.v [.i 8]]) fun e=>
  some ⟨[.b (e.t 0).asB],[]⟩
 else
  some ⟨[.b false],[]⟩
theorem g5s (k:Nat) (a b:Int):a0a E P0 (k+1) N.j6l [.v [.i a,.i b]]=e0k k a b:=by kernel_rfl
def d4o (k:Nat) (a:Int):OO:=
 a0f (a0a E P0 k N.j5l [.v [.i a],.v [.i 0],.v [.i 65535]]) fun c=>
 some ⟨[.b (c.t 0).asB],[]⟩
theorem f9y (k:Nat) (a:Int):a0a E P0 (k+1) N.j8g [.v [.i a]]=d4o k a:=by kernel_rfl
def b2d (k:Nat) (c:LL) (d:(Int)→OO):(Int)→OO:=fun a=>
 bif (decide (a<(c.length:Int))) then
  chk (decide (0≤a)&&decide (a<(c.length:Int))) <|
  a0f (a0a E P0 k N.j8g [.v [.i (at_ c a.toNat 0).asI]]) fun e=>
  bif (!(e.t 0).asB) then some ⟨[.b false],[]⟩ else d (W64 (a+1))
 else
  some ⟨[.b true],[]⟩
def e7h:List Nat:=[0,2,3]
def e7i (a:LL):(Int)→St:=fun c=>⟨a3k [(0,.sl 3 a),(2,.b false),(3,.i .i64 c)],a1e []⟩
def c1j (k:Nat) (b:LL) (a:(Int)→OO):OO:=
 a 0
def d0d (k:Nat) (a:LL):OO:=
 c1j k a (fun v=>a1i (b2d k a) k v)
theorem f3d (k:Nat) (a:LL):a0a E P0 (k+1) N.j6b [.v [.r a]]=d0d k a:=a1y [] [.sr,.sl,.sr,.bl] e7h (c1j k a) (e7i a) (b2d k a) (by kernel_rfl) (fun j v=>by kernel_rfl)
def b9a (k:Nat) (c:Int) (a:LL) (d:Bool):OO:=
 bif d then
  a0f (a0a E P0 k N.j5l [.v [.i (a.length:Int)],.v [.i 1],.v [.i 6]]) fun e=>
  bif (e.t 0).asB then
   a0f (a0a E P0 k N.j6b [.v [.r a]]) fun f=>
   some ⟨[.b (f.t 0).asB],[]⟩
  else
   some ⟨[.b false],[]⟩
 else
  bif (c == 5) then
   bif ((a.length:Int) == 2) then
    a0f (a0a E P0 k N.j6b [.v [.r a]]) fun g=>
    some ⟨[.b (g.t 0).asB],[]⟩
   else
    some ⟨[.b false],[]⟩
  else
   some ⟨[.b true],[]⟩
def d0e (k:Nat) (a g h c:Int) (d:LL):OO:=
 bif (a == 1) then
  a0f (a0a E P0 k N.j5l [.v [.i c],.v [.i 1],.v [.i 6]]) fun e=>
  some ⟨[.b (e.t 0).asB],[]⟩
 else
  bif (a == 6) then
   a0f (a0a E P0 k N.j5l [.v [.i c],.v [.i 1],.v [.i 6]]) fun f=>
   some ⟨[.b (f.t 0).asB],[]⟩
  else
   bif (a == 2) then b9a k a d true else b9a k a d (a == 3)
theorem f3e (k:Nat) (a b c d:Int) (e:LL):a0a E P0 (k+1) N.k1b [.v [.i a,.i b,.i c,.i d,.r e]]=d0e k a b c d e:=by kernel_rfl
def d4p (k:Nat) (a b:Int):OO:=
 a0f (a0a E P0 k N.j6l [.v [.i a,.i b]]) fun c=>
 bif (!(c.t 0).asB) then
  some ⟨[.i 0],[]⟩
 else
  some ⟨[.i (W64 (b*(W64 (a - 1))))],[]⟩
theorem f9z (k:Nat) (a b:Int):a0a E P0 (k+1) N.j6m [.v [.i a,.i b]]=d4p k a b:=by kernel_rfl
def d4q (k:Nat) (a d e b:Int) (c:LL):OO:=
 bif (a == 1) then
  so_ [.i b]
 else
  bif (a == 6) then
   so_ [.i b]
  else
   bif (a == 2) then
    so_ [.i (c.length:Int)]
   else
    bif (a == 3) then
     so_ [.i (c.length:Int)]
    else
     bif (a == 5) then so_ [.i 1] else so_ [.i 0]
theorem g0a (k:Nat) (a b c d:Int) (e:LL):a0a E P0 (k+1) N.j7l [.v (S5_ a b c d e)]=d4q k a b c d e:=by kernel_rfl
def b2e (k:Nat) (f g a c b d:Int) (e:LL) (h:Bool):OO:=
 bif h then
  some ⟨[.i 1],[]⟩
 else
  a0f (a0a E P0 k N.k1b [.v [.i a,.i c,.i b,.i d,.r e]]) fun l=>
  bif (!(l.t 0).asB) then
   some ⟨[.i 3],[]⟩
  else
   bif (a == 4) then
    some ⟨[.i 0],[]⟩
   else
    a0f (a0a E P0 k N.j6m [.v [.i f,.i g]]) fun m=>
    a0f (a0a E P0 k N.j7l [.v [.i a,.i c,.i b,.i d,.r e]]) fun n=>
    a0f (a0a E P0 k N.j5l [.v [.i b],.v [.i 0],.v [.i (W64 ((m.t 0).asI - (n.t 0).asI))]]) fun o=>
    bif (!(o.t 0).asB) then some ⟨[.i 2],[]⟩ else some ⟨[.i 0],[]⟩
def d0f (k:Nat) (a b c d e f:Int) (g:LL):OO:=
 a0f (a0a E P0 k N.j6l [.v [.i a,.i b]]) fun h=>
 bif (!(h.t 0).asB) then
  b2e k a b c d e f g true
 else
  a0f (a0a E P0 k N.j5l [.v [.i c],.v [.i 1],.v [.i 6]]) fun l=>
  bif (!(l.t 0).asB) then
   b2e k a b c d e f g true
  else
   a0f (a0a E P0 k N.j5l [.v [.i d],.v [.i 1],.v [.i 999]]) fun m=>
   b2e k a b c d e f g (!(m.t 0).asB)
theorem f3f (k:Nat) (a b c d e f:Int) (g:LL):a0a E P0 (k+1) N.j6t [.v [.i a,.i b],.v [.i c,.i d,.i e,.i f,.r g]]=d0f k a b c d e f g:=by kernel_rfl
def d4r (k:Nat) (c d b e a f:Int) (g:LL):OO:=
 a0f (a0a E P0 k N.j6t [.v [.i c,.i d],.v [.i b,.i e,.i a,.i f,.r g]]) fun h=>
 bif ((h.t 0).asI != 0) then
  some ⟨[.i 0,.i 0],[]⟩
 else
  bif (b == 4) then
   a0f (a0a E P0 k N.j6m [.v [.i c,.i d]]) fun l=>
   some ⟨[.i 0,.i (l.t 0).asI],[]⟩
  else
   a0f (a0a E P0 k N.j7l [.v [.i b,.i e,.i a,.i f,.r g]]) fun m=>
   some ⟨[.i a,.i (W64 (a+(m.t 0).asI))],[]⟩
theorem g0b (k:Nat) (a b c d e f:Int) (g:LL):a0a E P0 (k+1) N.j8h [.v [.i a,.i b],.v [.i c,.i d,.i e,.i f,.r g]]=d4r k a b c d e f g:=by kernel_rfl
def e0l (k:Nat) (a c f g h l:Int) (m:LL) (n o p q:Int) (u:LL):OO:=
 a0f (a0a E P0 k N.j8h [.v [.i a,.i c],.v [.i f,.i g,.i h,.i l,.r m]]) fun d=>
 a0f (a0a E P0 k N.j8h [.v [.i a,.i c],.v [.i n,.i o,.i p,.i q,.r u]]) fun e=>
 bif (decide ((d.t 0).asI<(e.t 1).asI)) then
  some ⟨[.b (decide ((e.t 0).asI<(d.t 1).asI))],[]⟩
 else
  some ⟨[.b false],[]⟩
theorem g5t (k:Nat) (a b c d e f:Int) (g:LL) (h l m n:Int) (o:LL):a0a E P0 (k+1) N.j7m [.v [.i a,.i b],.v [.i c,.i d,.i e,.i f,.r g],.v [.i h,.i l,.i m,.i n,.r o]]=e0l k a b c d e f g h l m n o:=by kernel_rfl
def b5i (k:Nat) (w e f:Int) (x:LL) (y z A B C:Int) (D:LL) (F:Int) (G H:Bool) (J c K L:LL) (g h l m n:Int) (o:LL) (M:Int) (O:LL) (d:Int) (p:(Int)→OO):(Int)→OO:=fun a=>
 bif (decide (a<g)) then
  chk (decide (0≤a)&&decide (a<(c.length:Int))) <|
  a0f (a0a E P0 k N.j7m [.v [.i e,.i f],.v [.i (at_ c a.toNat 0).asI,.i (at_ c a.toNat 1).asI,.i (at_ c a.toNat 2).asI,.i (at_ c a.toNat 3).asI,.r (at_ c a.toNat 4).asR],.v [.i h,.i l,.i m,.i n,.r o]]) fun q=>
  bif (q.t 0).asB then some ⟨[.b false],[]⟩ else p (W64 (a+1))
 else
  bif (d == 0) then
   some ⟨[.b true],[]⟩
  else
   a0f (a0a E P0 k N.j5l [.v [.i d],.v [.i 4],.v [.i 7]]) fun u=>
   some ⟨[.b (u.t 0).asB],[]⟩
def f3g:List Nat:=[1,2,4,5,6,54,55,56,57,58,59,60,61]
def d0g (a c d:Int) (e:LL) (f g h l m:Int) (n:LL) (o:Int) (p q:Bool) (r t u w:LL) (x y z A B:Int) (C:LL) (D:Int) (F:LL) (G:Int):(Int)→St:=fun H=>⟨a3k [(1,.i .i64 x),(2,.ptr (2,0) 0),(4,.b false),(5,.ptr (5,0) 0),(6,.i .i64 H),(54,.skip),(55,.skip),(56,.skip),(57,.skip),(58,.skip),(59,.skip),(60,.skip),(61,.skip)],a1e [((2,0),.var [.i .i64 a,.i .i64 c,.i .i64 d,.sl 134 e,.i .i64 f,.i .i64 g,.i .i64 h,.i .i64 l,.i .i64 m,.sl 136 n,.i .i64 o,.b p,.b q,.sl 92 r,.sl 95 t,.sl 96 u,.sl 99 w]),((5,0),.var [.i .i64 y,.i .i64 z,.i .i64 A,.i .i64 B,.sl 3 C,.i .i64 D,.sl 3 F,.i .i64 G])]⟩
def a9n (k:Nat) (a:LL) (c:Int) (d:Int→Int→Int→Int→LL→Int→LL→Int→(Int)→OO) (e:Bool):OO:=
 bif e then
  some ⟨[.b false],[]⟩
 else
  d ((at_ a c.toNat 0).asI) ((at_ a c.toNat 1).asI) ((at_ a c.toNat 2).asI) ((at_ a c.toNat 3).asI) ((at_ a c.toNat 4).asR) ((at_ a c.toNat 5).asI) ((at_ a c.toNat 6).asR) ((at_ a c.toNat 7).asI) 0
def b7p (k:Nat) (l d e:Int) (m:LL) (n o p q u:Int) (w:LL) (x:Int) (y z:Bool) (A b B C:LL) (a:Int) (c:Int→Int→Int→Int→LL→Int→LL→Int→(Int)→OO):OO:=
 chk (decide (0≤a)&&decide (a<(b.length:Int))) <|
 a0f (a0a E P0 k N.j6t [.v [.i d,.i e],.v [.i (at_ b a.toNat 0).asI,.i (at_ b a.toNat 1).asI,.i (at_ b a.toNat 2).asI,.i (at_ b a.toNat 3).asI,.r (at_ b a.toNat 4).asR]]) fun f=>
 bif ((f.t 0).asI != 0) then
  a9n k b a c true
 else
  a0f (a0a E P0 k N.j5l [.v [.i (at_ b a.toNat 5).asI],.v [.i 0],.v [.i 40]]) fun g=>
  bif (!(g.t 0).asB) then
   a9n k b a c true
  else
   a0f (a0a E P0 k N.j6b [.v [.r (at_ b a.toNat 6).asR]]) fun h=>
   bif (!(h.t 0).asB) then
    a9n k b a c true
   else
    a9n k b a c (decide (((at_ b a.toNat 6).asR.length:Int) > 6))
def d4s (k:Nat) (a b c:Int) (d:LL) (e f g h i:Int) (l:LL) (m:Int) (n o:Bool) (p q r t:LL) (u:Int):OO:=
 b7p k a b c d e f g h i l m n o p q r t u (fun w x y z A B C D v=>a1i (b5i k a b c d e f g h i l m n o p q r t u w x y z A B C D) k v)
def e7j (k:Nat) (a c d:Int) (e:LL) (f g h l m:Int) (n:LL) (o:Int) (p q:Bool) (t u w x:LL) (y:Int) (js:List Nat) (j:Nat) (s:St):OO:=IT_ k N.j8i [.v [.i a,.i c,.i d,.r e,.i f,.i g,.i h,.i l,.i m,.r n,.i o,.b p,.b q,.r t,.r u,.r w,.r x],.v [.i y]] [] [.sr,.sr,.sr,.sl,.sr,.bl] f3g js j s
theorem g0c (k:Nat) (a c d:Int) (e:LL) (f g h l m:Int) (n:LL) (o:Int) (p q:Bool) (t u w x:LL) (y:Int):a0a E P0 (k+1) N.j8i [.v [.i a,.i c,.i d,.r e,.i f,.i g,.i h,.i l,.i m,.r n,.i o,.b p,.b q,.r t,.r u,.r w,.r x],.v [.i y]]=d4s k a c d e f g h l m n o p q t u w x y:=
 Eq.trans (b:=b7p k a c d e f g h l m n o p q t u w x y (fun z A B C D F G H v=>e7j k a c d e f g h l m n o p q t u w x y [] k (d0g a c d e f g h l m n o p q t u w x y z A B C D F G H v))) (by kernel_rfl) (congrArg (b7p k a c d e f g h l m n o p q t u w x y) (funext fun z=>funext fun A=>funext fun B=>funext fun C=>funext fun D=>funext fun F=>funext fun G=>funext fun H=>funext fun v=>a1p (d0g a c d e f g h l m n o p q t u w x y z A B C D F G H) (b5i k a c d e f g h l m n o p q t u w x y z A B C D F G H) (fun j v=>by kernel_rfl) k v))
def e0m (k:Nat) (a:LL):OO:=
 bif (decide ((a.length:Int)≤12)) then
  a0f (a0a E P0 k N.j6b [.v [.r a]]) fun c=>
  some ⟨[.b (c.t 0).asB],[]⟩
 else
  some ⟨[.b false],[]⟩
theorem g5u (k:Nat) (a:LL):a0a E P0 (k+1) N.j7n [.v [.r a]]=e0m k a:=by kernel_rfl
def a3w (k:Nat) (d f:LL) (l:Bool) (c:LL) (e:(Int)→OO):(Int)→OO:=fun a=>
 bif (decide (a<(c.length:Int))) then
  chk (decide (0≤a)&&decide (a<(c.length:Int))) <|
  a0f (a0a E P0 k N.j5l [.v [.i (at_ c a.toNat 0).asI],.v [.i 0],.v [.i (W64 ((d.length:Int) - 1))]]) fun g=>
  bif (!(g.t 0).asB) then
   some ⟨[.b false],[]⟩
  else
   bif (decide (a > 0)) then
    chk (decide (0≤(W64 (a - 1)))&&decide ((W64 (a - 1))<(c.length:Int))) <|
    chk (decide (0≤a)&&decide (a<(c.length:Int))) <|
    bif (decide ((at_ c (W64 (a - 1)).toNat 0).asI≥(at_ c a.toNat 0).asI)) then
     some ⟨[.b false],[]⟩
    else
     e (W64 (a+1))
   else
    e (W64 (a+1))
 else
  a0f (a0a E P0 k N.j5l [.v [.i (d.length:Int)],.v [.i 1],.v [.i 20]]) fun h=>
  bif (h.t 0).asB then some ⟨[.b (decide ((f.length:Int)≤60))],[]⟩ else some ⟨[.b false],[]⟩
def g0d:List Nat:=[1,2,3,6,83,84,85,86,87,88,89,90]
def b2f (a c:LL) (d:Bool) (e:LL):(Int)→St:=fun f=>⟨a3k [(1,.ptr (1,0) 0),(2,.b false),(3,.i .i64 (a.length:Int)),(6,.i .i64 f),(83,.skip),(84,.skip),(85,.skip),(86,.skip),(87,.skip),(88,.skip),(89,.skip),(90,.skip)],a1e [((1,0),.var [.sl 79 a,.sl 157 c,.b d,.sl 3 e])]⟩
def b7q (k:Nat) (d c:LL) (l:Bool) (m:LL) (e f:(Int)→OO):(Int)→OO:=fun a=>
 bif (decide (a<(c.length:Int))) then
  chk (decide (0≤a)&&decide (a<(c.length:Int))) <|
  a0f (a0a E P0 k N.j5l [.v [.i (at_ c a.toNat 0).asI],.v [.i 0],.v [.i (W64 ((d.length:Int) - 1))]]) fun g=>
  bif (!(g.t 0).asB) then
   some ⟨[.b false],[]⟩
  else
   chk (decide (0≤a)&&decide (a<(c.length:Int))) <|
   a0f (a0a E P0 k N.j7n [.v [.r (at_ c a.toNat 1).asR]]) fun h=>
   bif (!(h.t 0).asB) then some ⟨[.b false],[]⟩ else f (W64 (a+1))
 else
  e 0
def g0e:List Nat:=[1,2,3,5,6,49,50,51,52,53,54,55,56,57,58,59,60,61,62,63,64,65,66,67,68,69,70,71,72,73,74,75,76,77,78,79,80,81,82,83,84,85,86,87,88,89,90]
def b2g (a c:LL) (d:Bool) (e:LL):(Int)→St:=fun f=>⟨a3k [(1,.ptr (1,0) 0),(2,.b false),(3,.i .i64 (a.length:Int)),(5,.i .i64 f),(6,.skip),(49,.skip),(50,.skip),(51,.skip),(52,.skip),(53,.skip),(54,.skip),(55,.skip),(56,.skip),(57,.skip),(58,.skip),(59,.skip),(60,.skip),(61,.skip),(62,.skip),(63,.skip),(64,.skip),(65,.skip),(66,.skip),(67,.skip),(68,.skip),(69,.skip),(70,.skip),(71,.skip),(72,.skip),(73,.skip),(74,.skip),(75,.skip),(76,.skip),(77,.skip),(78,.skip),(79,.skip),(80,.skip),(81,.skip),(82,.skip),(83,.skip),(84,.skip),(85,.skip),(86,.skip),(87,.skip),(88,.skip),(89,.skip),(90,.skip)],a1e [((1,0),.var [.sl 79 a,.sl 157 c,.b d,.sl 3 e])]⟩
def b7r (k:Nat) (c g:LL) (h:Bool) (i:LL) (d e:(Int)→OO):(Int)→OO:=fun a=>
 bif (decide (a<(c.length:Int))) then
  chk (decide (0≤a)&&decide (a<(c.length:Int))) <|
  a0f (a0a E P0 k N.j7n [.v [.r (at_ c a.toNat 0).asR]]) fun f=>
  bif (!(f.t 0).asB) then some ⟨[.b false],[]⟩ else e (W64 (a+1))
 else
  d 0
def g0f:List Nat:=[1,2,3,4,5,6,22,23,24,25,26,27,28,29,30,31,32,33,34,35,36,37,38,39,40,41,42,43,44,45,46,47,48,49,50,51,52,53,54,55,56,57,58,59,60,61,62,63,64,65,66,67,68,69,70,71,72,73,74,75,76,77,78,79,80,81,82,83,84,85,86,87,88,89,90]
def b2h (a c:LL) (d:Bool) (e:LL):(Int)→St:=fun f=>⟨a3k [(1,.ptr (1,0) 0),(2,.b false),(3,.i .i64 (a.length:Int)),(4,.i .i64 f),(5,.skip),(6,.skip),(22,.skip),(23,.skip),(24,.skip),(25,.skip),(26,.skip),(27,.skip),(28,.skip),(29,.skip),(30,.skip),(31,.skip),(32,.skip),(33,.skip),(34,.skip),(35,.skip),(36,.skip),(37,.skip),(38,.skip),(39,.skip),(40,.skip),(41,.skip),(42,.skip),(43,.skip),(44,.skip),(45,.skip),(46,.skip),(47,.skip),(48,.skip),(49,.skip),(50,.skip),(51,.skip),(52,.skip),(53,.skip),(54,.skip),(55,.skip),(56,.skip),(57,.skip),(58,.skip),(59,.skip),(60,.skip),(61,.skip),(62,.skip),(63,.skip),(64,.skip),(65,.skip),(66,.skip),(67,.skip),(68,.skip),(69,.skip),(70,.skip),(71,.skip),(72,.skip),(73,.skip),(74,.skip),(75,.skip),(76,.skip),(77,.skip),(78,.skip),(79,.skip),(80,.skip),(81,.skip),(82,.skip),(83,.skip),(84,.skip),(85,.skip),(86,.skip),(87,.skip),(88,.skip),(89,.skip),(90,.skip)],a1e [((1,0),.var [.sl 79 a,.sl 157 c,.b d,.sl 3 e])]⟩
def a4x (k:Nat) (a b:LL) (c:Bool) (d:LL) (e:(Int)→OO):(Int)→OO:=
 b7q k a b c d (fun v=>a1i (a3w k a b c d) k v) e
def a8o (k:Nat) (a b:LL) (c:Bool) (d:LL) (e:(Int)→OO):(Int)→OO:=
 b7r k a b c d (fun v=>a1i (a4x k a b c d) k v) e
def c6i (k:Nat) (b c:LL) (d:Bool) (e:LL) (a:(Int)→OO):OO:=
 a 0
def c6j (k:Nat) (a b:LL) (c:Bool) (d:LL):OO:=
 c6i k a b c d (fun v=>a1i (a8o k a b c d) k v)
def b5j (k:Nat) (a c:LL) (d:Bool) (e:LL) (js:List Nat) (j:Nat) (s:St):OO:=IT_ k N.j5x [.v [.r a,.r c,.b d,.r e]] [] [.sr,.sr,.sl,.sr,.bl] g0f js j s
def b5k (k:Nat) (a c:LL) (d:Bool) (e:LL) (js:List Nat) (j:Nat) (s:St):OO:=IT_ k N.j5x [.v [.r a,.r c,.b d,.r e]] [] [.sr,.sr,.sr,.sl,.sr,.bl] g0e js j s
def b5l (k:Nat) (a c:LL) (d:Bool) (e:LL) (js:List Nat) (j:Nat) (s:St):OO:=IT_ k N.j5x [.v [.r a,.r c,.b d,.r e]] [] [.sr,.sr,.sr,.sr,.sl,.sr,.bl] g0d js j s
theorem g5v (k:Nat) (a c:LL) (d:Bool) (e:LL):a0a E P0 (k+1) N.j5x [.v [.r a,.r c,.b d,.r e]]=c6j k a c d e:=by
 have i:a0a E P0 (k+1) N.j5x [.v [.r a,.r c,.b d,.r e]]=c6i k a c d e (fun v=>b5j k a c d e [] k (b2h a c d e v)):=by kernel_rfl
 have l:∀ (f:Nat) (v:Int),b5l k a c d e [] (f+1) (b2f a c d e v)=a3w k a c d e (fun v=>b5l k a c d e [] f (b2f a c d e v)) v:=by
  intro f v;kernel_rfl
 have m:∀ (f:Nat) (v:Int),b5l k a c d e [] f (b2f a c d e v)=a1i (a3w k a c d e) f v:=by
  intro f v;refine a1p (b2f a c d e) (a3w k a c d e) (fun f v=>(l f v).trans ?_) f v;unfold a3w;rfl
 have n:∀ (g:Nat) (v:Int),b5k k a c d e [] (g+1) (b2g a c d e v)=b7q k a c d e (fun v=>b5l k a c d e [] k (b2f a c d e v)) (fun v=>b5k k a c d e [] g (b2g a c d e v)) v:=by
  intro g v;kernel_rfl
 have o:∀ (g:Nat) (v:Int),b5k k a c d e [] g (b2g a c d e v)=a1i (a4x k a c d e) g v:=by
  intro g v;refine a1p (b2g a c d e) (a4x k a c d e) (fun g v=>(n g v).trans ?_) g v;unfold a4x;simp only [m] <;> rfl
 have p:∀ (h:Nat) (v:Int),b5j k a c d e [] (h+1) (b2h a c d e v)=b7r k a c d e (fun v=>b5k k a c d e [] k (b2g a c d e v)) (fun v=>b5j k a c d e [] h (b2h a c d e v)) v:=by
  intro h v;kernel_rfl
 have q:∀ (h:Nat) (v:Int),b5j k a c d e [] h (b2h a c d e v)=a1i (a8o k a c d e) h v:=by
  intro h v;refine a1p (b2h a c d e) (a8o k a c d e) (fun h v=>(p h v).trans ?_) h v;unfold a8o;simp only [o] <;> rfl
 rw [i];unfold c6j;simp only [q]
def d4t (k:Nat) (b a:Int):OO:=
 some ⟨[.i (W64 (6+a))],[]⟩
theorem g0g (k:Nat) (a b:Int):a0a E P0 (k+1) N.k1c [.v [.i a,.i b]]=d4t k a b:=by kernel_rfl
def b5m (k:Nat) (n e f:Int) (c:LL) (g o p q u:Int) (w:LL) (x:Int) (y h:Bool) (d:(Int)→OO):(Int)→OO:=fun a=>
 bif (decide (a<(c.length:Int))) then
  chk (decide (0≤a)&&decide (a<(c.length:Int))) <|
  a0f (a0a E P0 k N.j5x [.v [.r (at_ c a.toNat 0).asR,.r (at_ c a.toNat 1).asR,.b (at_ c a.toNat 2).asB,.r (at_ c a.toNat 3).asR]]) fun l=>
  bif (!(l.t 0).asB) then
   some ⟨[.b false],[]⟩
  else
   a0f (a0a E P0 k N.k1c [.v [.i e,.i f]]) fun m=>
   bif (((at_ c a.toNat 0).asR.length:Int) != (m.t 0).asI) then
    some ⟨[.b false],[]⟩
   else
    bif (at_ c a.toNat 2).asB then
     bif (a != g) then
      bif (!h) then some ⟨[.b false],[]⟩ else d (W64 (a+1))
     else
      d (W64 (a+1))
    else
     d (W64 (a+1))
 else
  some ⟨[.b ((c.length:Int) == e)],[]⟩
def f3h:List Nat:=[1,2,3,44,45,46,47,48,49,50]
def f3i (a c d:Int) (e:LL) (f g h l m:Int) (n:LL) (o:Int) (p q:Bool):(Int)→St:=fun r=>⟨a3k [(1,.ptr (1,0) 0),(2,.b false),(3,.i .i64 r),(44,.skip),(45,.skip),(46,.skip),(47,.skip),(48,.skip),(49,.skip),(50,.skip)],a1e [((1,0),.var [.i .i64 a,.i .i64 c,.i .i64 d,.sl 134 e,.i .i64 f,.i .i64 g,.i .i64 h,.i .i64 l,.i .i64 m,.sl 136 n,.i .i64 o,.b p,.b q])]⟩
def c4a (k:Nat) (b c d:Int) (e:LL) (f g h i l:Int) (m:LL) (n:Int) (o p:Bool) (a:(Int)→OO):OO:=
 a 0
def d4u (k:Nat) (a b c:Int) (d:LL) (e f g h i:Int) (l:LL) (m:Int) (n o:Bool):OO:=
 c4a k a b c d e f g h i l m n o (fun v=>a1i (b5m k a b c d e f g h i l m n o) k v)
theorem g0h (k:Nat) (a c d:Int) (e:LL) (f g h l m:Int) (n:LL) (o:Int) (p q:Bool):a0a E P0 (k+1) N.k1d [.v [.i a,.i c,.i d,.r e,.i f,.i g,.i h,.i l,.i m,.r n,.i o,.b p,.b q]]=d4u k a c d e f g h l m n o p q:=a1y [] [.sr,.sl,.sr,.bl] f3h (c4a k a c d e f g h l m n o p q) (f3i a c d e f g h l m n o p q) (b5m k a c d e f g h l m n o p q) (by kernel_rfl) (fun j v=>by kernel_rfl)
def b2i (k:Nat) (l e f:Int) (m:LL) (n o p q u:Int) (c:LL) (w:Int) (x y:Bool) (d:(Int)→OO):(Int)→OO:=fun a=>
 bif (decide (a<(c.length:Int))) then
  chk (decide (0≤a)&&decide (a<(c.length:Int))) <|
  a0f (a0a E P0 k N.j5l [.v [.i (at_ c a.toNat 0).asI],.v [.i 0],.v [.i (W64 (f - 1))]]) fun g=>
  bif (!(g.t 0).asB) then
   some ⟨[.b false],[]⟩
  else
   bif (((at_ c a.toNat 1).asR.length:Int) != (W64 (e - 1))) then
    some ⟨[.b false],[]⟩
   else
    a0f (a0a E P0 k N.j6b [.v [.r (at_ c a.toNat 1).asR]]) fun h=>
    bif (!(h.t 0).asB) then
     some ⟨[.b false],[]⟩
    else
     bif (decide (a > 0)) then
      chk (decide (0≤(W64 (a - 1)))&&decide ((W64 (a - 1))<(c.length:Int))) <|
      bif (decide ((at_ c (W64 (a - 1)).toNat 0).asI≥(at_ c a.toNat 0).asI)) then
       some ⟨[.b false],[]⟩
      else
       d (W64 (a+1))
     else
      d (W64 (a+1))
 else
  some ⟨[.b true],[]⟩
def e7k:List Nat:=[1,2,3]
def e7l (a c d:Int) (e:LL) (f g h l m:Int) (n:LL) (o:Int) (p q:Bool):(Int)→St:=fun r=>⟨a3k [(1,.ptr (1,0) 0),(2,.b false),(3,.i .i64 r)],a1e [((1,0),.var [.i .i64 a,.i .i64 c,.i .i64 d,.sl 134 e,.i .i64 f,.i .i64 g,.i .i64 h,.i .i64 l,.i .i64 m,.sl 136 n,.i .i64 o,.b p,.b q])]⟩
def c1k (k:Nat) (b c d:Int) (e:LL) (f g h i l:Int) (m:LL) (n:Int) (o p:Bool) (a:(Int)→OO):OO:=
 a 0
def d0h (k:Nat) (a b c:Int) (d:LL) (e f g h i:Int) (l:LL) (m:Int) (n o:Bool):OO:=
 c1k k a b c d e f g h i l m n o (fun v=>a1i (b2i k a b c d e f g h i l m n o) k v)
theorem f3j (k:Nat) (a c d:Int) (e:LL) (f g h l m:Int) (n:LL) (o:Int) (p q:Bool):a0a E P0 (k+1) N.k1e [.v [.i a,.i c,.i d,.r e,.i f,.i g,.i h,.i l,.i m,.r n,.i o,.b p,.b q]]=d0h k a c d e f g h l m n o p q:=a1y [] [.sr,.sl,.sr,.bl] e7k (c1k k a c d e f g h l m n o p q) (e7l a c d e f g h l m n o p q) (b2i k a c d e f g h l m n o p q) (by kernel_rfl) (fun j v=>by kernel_rfl)
def b2j (k:Nat) (c a d e:Int) (f:Bool):OO:=
 bif f then
  some ⟨[.b false],[]⟩
 else
  a0f (a0a E P0 k N.j5l [.v [.i a],.v [.i 0],.v [.i 60000]]) fun g=>
  bif (g.t 0).asB then
   a0f (a0a E P0 k N.j5l [.v [.i c],.v [.i a],.v [.i 60000]]) fun h=>
   bif (h.t 0).asB then
    bif (decide (c≤(W64 (a+4)))) then
     a0f (a0a E P0 k N.j5l [.v [.i d],.v [.i 0],.v [.i 60000]]) fun l=>
     bif (l.t 0).asB then
      a0f (a0a E P0 k N.j5l [.v [.i e],.v [.i (-1)],.v [.i 1000]]) fun m=>
      some ⟨[.b (m.t 0).asB],[]⟩
     else
      some ⟨[.b false],[]⟩
    else
     some ⟨[.b false],[]⟩
   else
    some ⟨[.b false],[]⟩
  else
   some ⟨[.b false],[]⟩
def b2k (k:Nat) (h l f g a c d e:Int) (m:Bool):OO:=
 bif m then
  some ⟨[.b false],[]⟩
 else
  a0f (a0a E P0 k N.j5l [.v [.i f],.v [.i (-1)],.v [.i (W64 (h - 1))]]) fun n=>
  bif (!(n.t 0).asB) then
   b2j k a c d e true
  else
   a0f (a0a E P0 k N.j5l [.v [.i g],.v [.i 0],.v [.i l]]) fun o=>
   bif (!(o.t 0).asB) then
    b2j k a c d e true
   else
    bif (f == (-1)) then
     b2j k a c d e (g != 0)
    else
     b2j k a c d e false
def e0n (k:Nat) (m a c:Int) (n:LL) (d e f g h:Int) (o:LL) (l:Int) (p q:Bool):OO:=
 a0f (a0a E P0 k N.j6l [.v [.i a,.i c]]) fun u=>
 bif (!(u.t 0).asB) then
  b2k k a c d e f g h l true
 else
  a0f (a0a E P0 k N.j5l [.v [.i m],.v [.i 1],.v [.i 60000]]) fun w=>
  bif (!(w.t 0).asB) then
   b2k k a c d e f g h l true
  else
   a0f (a0a E P0 k N.k1d [.v [.i m,.i a,.i c,.r n,.i d,.i e,.i f,.i g,.i h,.r o,.i l,.b p,.b q]]) fun x=>
   bif (!(x.t 0).asB) then
    b2k k a c d e f g h l true
   else
    a0f (a0a E P0 k N.k1e [.v [.i m,.i a,.i c,.r n,.i d,.i e,.i f,.i g,.i h,.r o,.i l,.b p,.b q]]) fun y=>
    b2k k a c d e f g h l (!(y.t 0).asB)
theorem g5w (k:Nat) (a c d:Int) (e:LL) (f g h l m:Int) (n:LL) (o:Int) (p q:Bool):a0a E P0 (k+1) N.j6u [.v [.i a,.i c,.i d,.r e,.i f,.i g,.i h,.i l,.i m,.r n,.i o,.b p,.b q]]=e0n k a c d e f g h l m n o p q:=by kernel_rfl
def b7s (k:Nat) (d e f:Int) (g:LL) (h l m n o:Int) (p:LL) (q:Int) (u w:Bool) (x a y z:LL) (A:(Int)→OO):(Int)→OO:=fun c=>
 bif (decide (c<(a.length:Int))) then
  a0f (a0a E P0 k N.j8i [.v [.i d,.i e,.i f,.r g,.i h,.i l,.i m,.i n,.i o,.r p,.i q,.b u,.b w,.r x,.r a,.r y,.r z],.v [.i c]]) fun B=>
  bif (!(B.t 0).asB) then some ⟨[.b false],[]⟩ else A (W64 (c+1))
 else
  a0f (a0a E P0 k N.j6u [.v [.i d,.i e,.i f,.r g,.i h,.i l,.i m,.i n,.i o,.r p,.i q,.b u,.b w]]) fun C=>
  bif (C.t 0).asB then
   bif (decide ((x.length:Int)≤8)) then
    bif (decide ((a.length:Int)≤4)) then
     bif (decide ((y.length:Int)≤8)) then
      some ⟨[.b (decide ((z.length:Int)≤400))],[]⟩
     else
      some ⟨[.b false],[]⟩
    else
     some ⟨[.b false],[]⟩
   else
    some ⟨[.b false],[]⟩
  else
   some ⟨[.b false],[]⟩
def g0i:List Nat:=[1,2,3,15,16,17,18,19,20,21,22,23,24,25,26,27,28,29,30,31,32,33,34,35,36,37,38,39,40,41]
def g0j (a c d:Int) (e:LL) (f g h l m:Int) (n:LL) (o:Int) (p q:Bool) (r t u w:LL):(Int)→St:=fun x=>⟨a3k [(1,.ptr (1,0) 0),(2,.b false),(3,.i .i64 x),(15,.skip),(16,.skip),(17,.skip),(18,.skip),(19,.skip),(20,.skip),(21,.skip),(22,.skip),(23,.skip),(24,.skip),(25,.skip),(26,.skip),(27,.skip),(28,.skip),(29,.skip),(30,.skip),(31,.skip),(32,.skip),(33,.skip),(34,.skip),(35,.skip),(36,.skip),(37,.skip),(38,.skip),(39,.skip),(40,.skip),(41,.skip)],a1e [((1,0),.var [.i .i64 a,.i .i64 c,.i .i64 d,.sl 134 e,.i .i64 f,.i .i64 g,.i .i64 h,.i .i64 l,.i .i64 m,.sl 136 n,.i .i64 o,.b p,.b q,.sl 92 r,.sl 95 t,.sl 96 u,.sl 99 w])]⟩
def c6k (k:Nat) (b c d:Int) (e:LL) (f g h i l:Int) (m:LL) (n:Int) (o p:Bool) (q r t u:LL) (a:(Int)→OO):OO:=
 a 0
def e0o (k:Nat) (a b c:Int) (d:LL) (e f g h i:Int) (l:LL) (m:Int) (n o:Bool) (p q r t:LL):OO:=
 c6k k a b c d e f g h i l m n o p q r t (fun v=>a1i (b7s k a b c d e f g h i l m n o p q r t) k v)
theorem g5x (k:Nat) (a c d:Int) (e:LL) (f g h l m:Int) (n:LL) (o:Int) (p q:Bool) (t u w x:LL):a0a E P0 (k+1) N.j7o [.v [.i a,.i c,.i d,.r e,.i f,.i g,.i h,.i l,.i m,.r n,.i o,.b p,.b q,.r t,.r u,.r w,.r x]]=e0o k a c d e f g h l m n o p q t u w x:=a1y [] [.sr,.sl,.sr,.bl] g0i (c6k k a c d e f g h l m n o p q t u w x) (g0j a c d e f g h l m n o p q t u w x) (b7s k a c d e f g h l m n o p q t u w x) (by kernel_rfl) (fun j v=>by kernel_rfl)
def a5g (k:Nat) (o f g:Int) (p:LL) (q u w x y:Int) (z:LL) (A:Int) (B C:Bool) (a e h l:LL) (d:Int) (m:(Int)→OO):(Int)→OO:=fun c=>
 bif (decide (c<d)) then
  chk (decide (0≤c)&&decide (c<(a.length:Int))) <|
  chk (decide (0≤d)&&decide (d<(a.length:Int))) <|
  a0f (a0a E P0 k N.j7m [.v [.i f,.i g],.v [.i (at_ a c.toNat 0).asI,.i (at_ a c.toNat 1).asI,.i (at_ a c.toNat 2).asI,.i (at_ a c.toNat 3).asI,.r (at_ a c.toNat 4).asR],.v [.i (at_ a d.toNat 0).asI,.i (at_ a d.toNat 1).asI,.i (at_ a d.toNat 2).asI,.i (at_ a d.toNat 3).asI,.r (at_ a d.toNat 4).asR]]) fun n=>
  bif (n.t 0).asB then some ⟨[.b false],[]⟩ else m (W64 (c+1))
 else
  bif (decide ((e.length:Int)<4)) then
   bif (decide ((W64 ((h.length:Int)+(e.length:Int)))<8)) then
    some ⟨[.b (decide ((W64 ((l.length:Int)+(e.length:Int)))<400))],[]⟩
   else
    some ⟨[.b false],[]⟩
  else
   some ⟨[.b false],[]⟩
def f3k:List Nat:=[1,2,4,6,48,49,50,51,52,53,54,55,56,57,58,59,60,61,62,63,64,65,66,67,68,69,70,71]
def a9o (a c d:Int) (e:LL) (f g h l m:Int) (n:LL) (o:Int) (p q:Bool) (r t u w:LL) (x:Int):(Int)→St:=fun y=>⟨a3k [(1,.i .i64 x),(2,.ptr (2,0) 0),(4,.b false),(6,.i .i64 y),(48,.skip),(49,.skip),(50,.skip),(51,.skip),(52,.skip),(53,.skip),(54,.skip),(55,.skip),(56,.skip),(57,.skip),(58,.skip),(59,.skip),(60,.skip),(61,.skip),(62,.skip),(63,.skip),(64,.skip),(65,.skip),(66,.skip),(67,.skip),(68,.skip),(69,.skip),(70,.skip),(71,.skip)],a1e [((2,0),.var [.i .i64 a,.i .i64 c,.i .i64 d,.sl 134 e,.i .i64 f,.i .i64 g,.i .i64 h,.i .i64 l,.i .i64 m,.sl 136 n,.i .i64 o,.b p,.b q,.sl 92 r,.sl 95 t,.sl 96 u,.sl 99 w])]⟩
def b5n (k:Nat) (n f g:Int) (o:LL) (p q u w x:Int) (y:LL) (z:Int) (A B:Bool) (e c C D:LL) (d:Int) (h l:(Int)→OO):(Int)→OO:=fun a=>
 bif (decide (a<(c.length:Int))) then
  chk (decide (0≤a)&&decide (a<(c.length:Int))) <|
  chk (decide (0≤d)&&decide (d<(e.length:Int))) <|
  a0f (a0a E P0 k N.j7m [.v [.i f,.i g],.v [.i (at_ c a.toNat 0).asI,.i (at_ c a.toNat 1).asI,.i (at_ c a.toNat 2).asI,.i (at_ c a.toNat 3).asI,.r (at_ c a.toNat 4).asR],.v [.i (at_ e d.toNat 0).asI,.i (at_ e d.toNat 1).asI,.i (at_ e d.toNat 2).asI,.i (at_ e d.toNat 3).asI,.r (at_ e d.toNat 4).asR]]) fun m=>
  bif (m.t 0).asB then some ⟨[.b false],[]⟩ else l (W64 (a+1))
 else
  h 0
def f3l:List Nat:=[1,2,4,5,6,29,30,31,32,33,34,35,36,37,38,39,40,41,42,43,44,45,46,47,48,49,50,51,52,53,54,55,56,57,58,59,60,61,62,63,64,65,66,67,68,69,70,71]
def a9p (a c d:Int) (e:LL) (f g h l m:Int) (n:LL) (o:Int) (p q:Bool) (r t u w:LL) (x:Int):(Int)→St:=fun y=>⟨a3k [(1,.i .i64 x),(2,.ptr (2,0) 0),(4,.b false),(5,.i .i64 y),(6,.skip),(29,.skip),(30,.skip),(31,.skip),(32,.skip),(33,.skip),(34,.skip),(35,.skip),(36,.skip),(37,.skip),(38,.skip),(39,.skip),(40,.skip),(41,.skip),(42,.skip),(43,.skip),(44,.skip),(45,.skip),(46,.skip),(47,.skip),(48,.skip),(49,.skip),(50,.skip),(51,.skip),(52,.skip),(53,.skip),(54,.skip),(55,.skip),(56,.skip),(57,.skip),(58,.skip),(59,.skip),(60,.skip),(61,.skip),(62,.skip),(63,.skip),(64,.skip),(65,.skip),(66,.skip),(67,.skip),(68,.skip),(69,.skip),(70,.skip),(71,.skip)],a1e [((2,0),.var [.i .i64 a,.i .i64 c,.i .i64 d,.sl 134 e,.i .i64 f,.i .i64 g,.i .i64 h,.i .i64 l,.i .i64 m,.sl 136 n,.i .i64 o,.b p,.b q,.sl 92 r,.sl 95 t,.sl 96 u,.sl 99 w])]⟩
def a6v (k:Nat) (a b c:Int) (d:LL) (e f g h i:Int) (l:LL) (m:Int) (n o:Bool) (p q r t:LL) (u:Int) (w:(Int)→OO):(Int)→OO:=
 b5n k a b c d e f g h i l m n o p q r t u (fun v=>a1i (a5g k a b c d e f g h i l m n o p q r t u) k v) w
def c4b (k:Nat) (b c d:Int) (e:LL) (f g h i l:Int) (m:LL) (n:Int) (o p:Bool) (q r t u:LL) (w:Int) (a:(Int)→OO):OO:=
 a 0
def c4c (k:Nat) (a b c:Int) (d:LL) (e f g h i:Int) (l:LL) (m:Int) (n o:Bool) (p q r t:LL) (u:Int):OO:=
 c4b k a b c d e f g h i l m n o p q r t u (fun v=>a1i (a6v k a b c d e f g h i l m n o p q r t u) k v)
def b2l (k:Nat) (a c d:Int) (e:LL) (f g h l m:Int) (n:LL) (o:Int) (p q:Bool) (t u w x:LL) (y:Int) (js:List Nat) (j:Nat) (s:St):OO:=IT_ k N.j6v [.v [.i a,.i c,.i d,.r e,.i f,.i g,.i h,.i l,.i m,.r n,.i o,.b p,.b q,.r t,.r u,.r w,.r x],.v [.i y]] [] [.sr,.sl,.sr,.bl] f3l js j s
def b2m (k:Nat) (a c d:Int) (e:LL) (f g h l m:Int) (n:LL) (o:Int) (p q:Bool) (t u w x:LL) (y:Int) (js:List Nat) (j:Nat) (s:St):OO:=IT_ k N.j6v [.v [.i a,.i c,.i d,.r e,.i f,.i g,.i h,.i l,.i m,.r n,.i o,.b p,.b q,.r t,.r u,.r w,.r x],.v [.i y]] [] [.sr,.sr,.sl,.sr,.bl] f3k js j s
theorem g0k (k:Nat) (a c d:Int) (e:LL) (f g h l m:Int) (n:LL) (o:Int) (p q:Bool) (t u w x:LL) (y:Int):a0a E P0 (k+1) N.j6v [.v [.i a,.i c,.i d,.r e,.i f,.i g,.i h,.i l,.i m,.r n,.i o,.b p,.b q,.r t,.r u,.r w,.r x],.v [.i y]]=c4c k a c d e f g h l m n o p q t u w x y:=by
 have B:a0a E P0 (k+1) N.j6v [.v [.i a,.i c,.i d,.r e,.i f,.i g,.i h,.i l,.i m,.r n,.i o,.b p,.b q,.r t,.r u,.r w,.r x],.v [.i y]]=c4b k a c d e f g h l m n o p q t u w x y (fun v=>b2l k a c d e f g h l m n o p q t u w x y [] k (a9p a c d e f g h l m n o p q t u w x y v)):=by kernel_rfl
 have C:∀ (z:Nat) (v:Int),b2m k a c d e f g h l m n o p q t u w x y [] (z+1) (a9o a c d e f g h l m n o p q t u w x y v)=a5g k a c d e f g h l m n o p q t u w x y (fun v=>b2m k a c d e f g h l m n o p q t u w x y [] z (a9o a c d e f g h l m n o p q t u w x y v)) v:=by
  intro z v;kernel_rfl
 have D:∀ (z:Nat) (v:Int),b2m k a c d e f g h l m n o p q t u w x y [] z (a9o a c d e f g h l m n o p q t u w x y v)=a1i (a5g k a c d e f g h l m n o p q t u w x y) z v:=by
  intro z v;refine a1p (a9o a c d e f g h l m n o p q t u w x y) (a5g k a c d e f g h l m n o p q t u w x y) (fun z v=>(C z v).trans ?_) z v;unfold a5g;rfl
 have F:∀ (A:Nat) (v:Int),b2l k a c d e f g h l m n o p q t u w x y [] (A+1) (a9p a c d e f g h l m n o p q t u w x y v)=b5n k a c d e f g h l m n o p q t u w x y (fun v=>b2m k a c d e f g h l m n o p q t u w x y [] k (a9o a c d e f g h l m n o p q t u w x y v)) (fun v=>b2l k a c d e f g h l m n o p q t u w x y [] A (a9p a c d e f g h l m n o p q t u w x y v)) v:=by
  intro A v;kernel_rfl
 have G:∀ (A:Nat) (v:Int),b2l k a c d e f g h l m n o p q t u w x y [] A (a9p a c d e f g h l m n o p q t u w x y v)=a1i (a6v k a c d e f g h l m n o p q t u w x y) A v:=by
  intro A v;refine a1p (a9p a c d e f g h l m n o p q t u w x y) (a6v k a c d e f g h l m n o p q t u w x y) (fun A v=>(F A v).trans ?_) A v;unfold a6v;simp only [D] <;> rfl
 rw [B];unfold c4c;simp only [G]
def c6l (k:Nat) (c d e:Int) (f:LL) (g h l m n:Int) (o:LL) (p:Int) (q u:Bool) (a w x y:LL) (z:Int):OO:=
 a0f (a0a E P0 k N.j7o [.v [.i c,.i d,.i e,.r f,.i g,.i h,.i l,.i m,.i n,.r o,.i p,.b q,.b u,.r a,.r w,.r x,.r y]]) fun A=>
 bif (A.t 0).asB then
  a0f (a0a E P0 k N.j5l [.v [.i z],.v [.i 0],.v [.i (W64 ((a.length:Int) - 1))]]) fun B=>
  bif (B.t 0).asB then
   a0f (a0a E P0 k N.j6v [.v [.i c,.i d,.i e,.r f,.i g,.i h,.i l,.i m,.i n,.r o,.i p,.b q,.b u,.r a,.r w,.r x,.r y],.v [.i z]]) fun C=>
   some ⟨[.b (C.t 0).asB],[]⟩
  else
   some ⟨[.b false],[]⟩
 else
  some ⟨[.b false],[]⟩
theorem e7m (k:Nat) (a c d:Int) (e:LL) (f g h l m:Int) (n:LL) (o:Int) (p q:Bool) (t u w x:LL) (y:Int):a0a E P0 (k+1) N.j8j [.v [.i a,.i c,.i d,.r e,.i f,.i g,.i h,.i l,.i m,.r n,.i o,.b p,.b q,.r t,.r u,.r w,.r x],.v [.i y]]=c6l k a c d e f g h l m n o p q t u w x y:=by kernel_rfl
def a7d (k:Nat) (d e f:Int) (g:LL) (h l m n o:Int) (p:LL) (q:Int) (u w:Bool) (c x y z:LL) (A:(Int)→OO):(Int)→OO:=fun a=>
 bif (decide (a<(c.length:Int))) then
  a0f (a0a E P0 k N.j8j [.v [.i d,.i e,.i f,.r g,.i h,.i l,.i m,.i n,.i o,.r p,.i q,.b u,.b w,.r c,.r x,.r y,.r z],.v [.i a]]) fun B=>
  bif (B.t 0).asB then some ⟨[.i a],[]⟩ else A (W64 (a+1))
 else
  some ⟨[.i (-1)],[]⟩
def d4v:List Nat:=[1,2,3]
def d4w (a c d:Int) (e:LL) (f g h l m:Int) (n:LL) (o:Int) (p q:Bool) (r t u w:LL):(Int)→St:=fun x=>⟨a3k [(1,.ptr (1,0) 0),(2,.i .i64 0),(3,.i .i64 x)],a1e [((1,0),.var [.i .i64 a,.i .i64 c,.i .i64 d,.sl 134 e,.i .i64 f,.i .i64 g,.i .i64 h,.i .i64 l,.i .i64 m,.sl 136 n,.i .i64 o,.b p,.b q,.sl 92 r,.sl 95 t,.sl 96 u,.sl 99 w])]⟩
def b4k (k:Nat) (b c d:Int) (e:LL) (f g h i l:Int) (m:LL) (n:Int) (o p:Bool) (q r t u:LL) (a:(Int)→OO):OO:=
 a 0
def c2q (k:Nat) (a b c:Int) (d:LL) (e f g h i:Int) (l:LL) (m:Int) (n o:Bool) (p q r t:LL):OO:=
 b4k k a b c d e f g h i l m n o p q r t (fun v=>a1i (a7d k a b c d e f g h i l m n o p q r t) k v)
theorem d8d (k:Nat) (a c d:Int) (e:LL) (f g h l m:Int) (n:LL) (o:Int) (p q:Bool) (t u w x:LL):a0a E P0 (k+1) N.k1f [.v [.i a,.i c,.i d,.r e,.i f,.i g,.i h,.i l,.i m,.r n,.i o,.b p,.b q,.r t,.r u,.r w,.r x]]=c2q k a c d e f g h l m n o p q t u w x:=a1y [] [.sr,.sl,.sr,.bl] d4v (b4k k a c d e f g h l m n o p q t u w x) (d4w a c d e f g h l m n o p q t u w x) (a7d k a c d e f g h l m n o p q t u w x) (by kernel_rfl) (fun j v=>by kernel_rfl)
def e0p (k:Nat) (f g h:Int) (l:LL) (m n o p q:Int) (u:LL) (w:Int) (x y:Bool) (z A B C:LL) (c:Int):OO:=
 BK_ k N.j5t [.v (S1_ f g h l m n o p q u w x y z A B C)] fun a=>
 BK_ k N.j8j [.v (S1_ f g h l m n o p q u w x y z A B C),vi_ c] fun D=>
 bif (!(D.t 0).asB) then
  so_ (j3f a)
 else
  chk (decide (0≤c)&&decide (c<((a.t 13).asR.length:Int))) <|
  chk (decide (0≤0)&&decide (0≤c)&&decide (c≤((a.t 13).asR.length:Int))) <|
  chk (decide ((([]:LL).length+(((a.t 13).asR.drop (0:Int).toNat).take (c.toNat - (0:Int).toNat)).length)*56≤140737488355328)) <|
  chk (decide (0≤(W64 (c+1)))&&decide ((W64 (c+1))≤((a.t 13).asR.length:Int))&&decide (((a.t 13).asR.length:Int)≤((a.t 13).asR.length:Int))) <|
  chk (decide (((([]:LL)++(((a.t 13).asR.drop (0:Int).toNat).take (c.toNat - (0:Int).toNat))).length+(((a.t 13).asR.drop (W64 (c+1)).toNat).take (((a.t 13).asR.length:Int).toNat - (W64 (c+1)).toNat)).length)*56≤140737488355328)) <|
  BK_ k N.j6t [.v (j3g a),.v (S5_ (at_ (a.t 13).asR c.toNat 0).asI (at_ (a.t 13).asR c.toNat 1).asI (at_ (a.t 13).asR c.toNat 2).asI (at_ (a.t 13).asR c.toNat 3).asI (at_ (a.t 13).asR c.toNat 4).asR)] fun e=>
  bif ((e.t 0).asI != 0) then
   BK_ k N.j5p [.v [.i (at_ (a.t 13).asR c.toNat 1).asI,.i (e.t 0).asI,.r []]] fun d=>
   chk (decide (((a.t 15).asR.length+([(S3_ d)]:LL).length)*40≤140737488355328)) <|
   chk (decide (((a.t 16).asR.length+([[.i (at_ (a.t 13).asR c.toNat 0).asI,.i (at_ (a.t 13).asR c.toNat 1).asI,.i (at_ (a.t 13).asR c.toNat 2).asI,.i (at_ (a.t 13).asR c.toNat 3).asI,.r (at_ (a.t 13).asR c.toNat 4).asR,.i (at_ (a.t 13).asR c.toNat 1).asI,.i (e.t 0).asI,.r []]]:LL).length)*96≤140737488355328)) <|
   so_ [.i (a.t 0).asI,.i (a.t 1).asI,.i (a.t 2).asI,.r (a.t 3).asR,.i (a.t 4).asI,.i (a.t 5).asI,.i (a.t 6).asI,.i (a.t 7).asI,.i (a.t 8).asI,.r (a.t 9).asR,.i (a.t 10).asI,.b (a.t 11).asB,.b (a.t 12).asB,.r ((([]:LL)++(((a.t 13).asR.drop (0:Int).toNat).take (c.toNat - (0:Int).toNat)))++(((a.t 13).asR.drop (W64 (c+1)).toNat).take (((a.t 13).asR.length:Int).toNat - (W64 (c+1)).toNat))),.r (a.t 14).asR,.r ((a.t 15).asR++([(S3_ d)]:LL)),.r ((a.t 16).asR++([[.i (at_ (a.t 13).asR c.toNat 0).asI,.i (at_ (a.t 13).asR c.toNat 1).asI,.i (at_ (a.t 13).asR c.toNat 2).asI,.i (at_ (a.t 13).asR c.toNat 3).asI,.r (at_ (a.t 13).asR c.toNat 4).asR,.i (at_ (a.t 13).asR c.toNat 1).asI,.i (e.t 0).asI,.r []]]:LL)),.b true]
  else
   chk (decide (((a.t 14).asR.length+([[.i (at_ (a.t 13).asR c.toNat 0).asI,.i (at_ (a.t 13).asR c.toNat 1).asI,.i (at_ (a.t 13).asR c.toNat 2).asI,.i (at_ (a.t 13).asR c.toNat 3).asI,.r (at_ (a.t 13).asR c.toNat 4).asR,.i 0,.r [],.i 0]]:LL).length)*96≤140737488355328)) <|
   so_ [.i (a.t 0).asI,.i (a.t 1).asI,.i (a.t 2).asI,.r (a.t 3).asR,.i (a.t 4).asI,.i (a.t 5).asI,.i (a.t 6).asI,.i (a.t 7).asI,.i (a.t 8).asI,.r (a.t 9).asR,.i (a.t 10).asI,.b (a.t 11).asB,.b (a.t 12).asB,.r ((([]:LL)++(((a.t 13).asR.drop (0:Int).toNat).take (c.toNat - (0:Int).toNat)))++(((a.t 13).asR.drop (W64 (c+1)).toNat).take (((a.t 13).asR.length:Int).toNat - (W64 (c+1)).toNat))),.r ((a.t 14).asR++([[.i (at_ (a.t 13).asR c.toNat 0).asI,.i (at_ (a.t 13).asR c.toNat 1).asI,.i (at_ (a.t 13).asR c.toNat 2).asI,.i (at_ (a.t 13).asR c.toNat 3).asI,.r (at_ (a.t 13).asR c.toNat 4).asR,.i 0,.r [],.i 0]]:LL)),.r (a.t 15).asR,.r (a.t 16).asR,.b true]
theorem g5y (k:Nat) (a c d:Int) (e:LL) (f g h l m:Int) (n:LL) (o:Int) (p q:Bool) (t u w x:LL) (y:Int):a0a E P0 (k+1) N.k1g [.v (S1_ a c d e f g h l m n o p q t u w x),vi_ y]=e0p k a c d e f g h l m n o p q t u w x y:=by kernel_rfl
def c6m (k:Nat) (a c b:Int):OO:=
 a0f (a0a E P0 k N.j6m [.v [.i a,.i c]]) fun d=>
 a0f (a0a E P0 k N.j5l [.v [.i b],.v [.i 0],.v [.i (W64 ((d.t 0).asI - 1))]]) fun e=>
 bif (!(e.t 0).asB) then
  some ⟨[.i (-1)],[]⟩
 else
  chk (!decide ((W64 (a - 1))=0)) <|
  some ⟨[.i (W64 (Int.tdiv b (W64 (a - 1))))],[]⟩
theorem e7n (k:Nat) (a b c:Int):a0a E P0 (k+1) N.j6h [.v [.i a,.i b],.v [.i c]]=c6m k a b c:=by kernel_rfl
def d0i (k:Nat) (e b a f c g:Int) (d:LL):OO:=
 a0f (a0a E P0 k N.j6t [.v [.i e,.i b],.v [.i a,.i f,.i c,.i g,.r d]]) fun h=>
 bif ((h.t 0).asI != 0) then
  some ⟨[.i 0],[]⟩
 else
  bif (a == 4) then
   some ⟨[.i (W64 (b+1))],[]⟩
  else
   bif (a == 5) then
    some ⟨[.i 2],[]⟩
   else
    bif (a == 3) then
     a0f (a0a E P0 k N.j6h [.v [.i e,.i b],.v [.i (W64 ((W64 (c+(d.length:Int))) - 1))]]) fun l=>
     a0f (a0a E P0 k N.j6h [.v [.i e,.i b],.v [.i c]]) fun m=>
     some ⟨[.i (W64 ((W64 ((W64 ((d.length:Int)+(l.t 0).asI)) - (m.t 0).asI))+2))],[]⟩
    else
     a0f (a0a E P0 k N.j7l [.v [.i a,.i f,.i c,.i g,.r d]]) fun n=>
     some ⟨[.i (W64 ((n.t 0).asI+1))],[]⟩
theorem f3m (k:Nat) (a b c d e f:Int) (g:LL):a0a E P0 (k+1) N.j8k [.v [.i a,.i b],.v [.i c,.i d,.i e,.i f,.r g]]=d0i k a b c d e f g:=by kernel_rfl
end
end Go.Proofs.YtgilihjnmjgciaaGreat.Ev
