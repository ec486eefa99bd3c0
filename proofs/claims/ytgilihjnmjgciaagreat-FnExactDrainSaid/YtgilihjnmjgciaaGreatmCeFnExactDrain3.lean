/- What functions answer under the evaluator, as Lean terms, part 3: what FnExactDrain needs. No condition. -/
import Derived.Test.YtgilihjnmjgciaaGreatmTab
namespace Go.Proofs.YtgilihjnmjgciaaGreat.Ev
open Go Go.Proofs
set_option linter.unusedVariables false
set_option maxRecDepth 100000
set_option maxHeartbeats 4000000
noncomputable section
def g2k (k:Nat) (a:Bool):OO:=
 bif a then so_ [.i 0] else so_ [.i 6]
theorem g2l (k:Nat) (a:Bool):a0a E P0 (k+1) N.k3a [.v [.b a]]=g2k k a:=by kernel_rfl
def a6f (k:Nat) (d:Int) (e:LL) (a:Outs) (f:Bool):OO:=
 bif f then
  so_ (S8_ a 7)
 else
  BK_ k N.k2z [.p (i8e a),vi_ d,vr_ e] fun c=>
  BK_ k N.k3a [.v [.b (c.t 0).asB]] fun g=>
  so_ [.i (c.vt 0 0).asI,.i (c.vt 0 1).asI,.i (c.vt 0 2).asI,.r (c.vt 0 3).asR,.i (c.vt 0 4).asI,.i (c.vt 0 5).asI,.i (c.vt 0 6).asI,.i (c.vt 0 7).asI,.i (c.vt 0 8).asI,.r (c.vt 0 9).asR,.i (c.vt 0 10).asI,.b (c.vt 0 11).asB,.b (c.vt 0 12).asB,.i (g.t 0).asI]
def b1g (k:Nat) (e f g h:Int) (l m:Bool) (c:Int) (d:LL) (a:Outs) (n:Bool):OO:=
 bif n then
  so_ (S8_ a 1)
 else
  bif l then
   so_ (S8_ a 6)
  else
   BK_ k N.j6k [.v [.i e,.i f],vi_ c] fun o=>
   bif (!(o.t 0).asB) then
    so_ (S8_ a 2)
   else
    bif m then
     so_ (S8_ a 5)
    else
     bif (g == 60000) then
      a6f k c d a true
     else
      a6f k c d a (decide (h≥59990))
def c0r (k:Nat) (l a c:Int) (m:LL) (n o d p e:Int) (q:LL) (u:Int) (f g:Bool) (w:Int) (h:LL):OO:=
 BK_ k N.j6c [.v (S0_ l a c m n o d p e q u f g)] fun x=>
 BK_ k N.j6p [.v (S0_ l a c m n o d p e q u f g)] fun y=>
 bif (!(y.t 0).asB) then
  b1g k a c d e f g w h x true
 else
  BK_ k N.j7u [.v [.i a,.i c],vr_ h] fun z=>
  b1g k a c d e f g w h x (!(z.t 0).asB)
theorem d6g (k:Nat) (a c d:Int) (e:LL) (f g h l m:Int) (n:LL) (o:Int) (p q:Bool) (t:Int) (u:LL):a0a E P0 (k+1) N.j9s [.v (S0_ a c d e f g h l m n o p q),vi_ t,vr_ u]=c0r k a c d e f g h l m n o p q t u:=by kernel_rfl
def c0s (k:Nat) (o h l:Int) (p:LL) (q u w x y:Int) (g:LL) (z:Int) (m A:Bool) (B:Int):OO:=
 BK_ k N.j6p [.v (S0_ o h l p q u w x y g z m A)] fun C=>
 bif (!(C.t 0).asB) then
  BK_ k N.j6c [.v (S0_ o h l p q u w x y g z m A)] fun c=>
  so_ (S8_ c 1)
 else
  bif m then
   BK_ k N.j6c [.v (S0_ o h l p q u w x y g z m A)] fun d=>
   so_ (S8_ d 6)
  else
   BK_ k N.j6k [.v [.i h,.i l],vi_ B] fun D=>
   bif (!(D.t 0).asB) then
    BK_ k N.j6c [.v (S0_ o h l p q u w x y g z m A)] fun e=>
    so_ (S8_ e 2)
   else
    BK_ k N.j9g [.v (S0_ o h l p q u w x y g z m A),vi_ B] fun n=>
    bif (decide ((n.t 0).asI<0)) then
     BK_ k N.j6c [.v (S0_ o h l p q u w x y g z m A)] fun f=>
     so_ (S8_ f 0)
    else
     chk (decide (0≤(n.t 0).asI)&&decide ((n.t 0).asI<(g.length:Int))) <|
     BK_ k N.j9s [.v (S0_ o h l p q u w x y g z m A),vi_ B,vr_ (at_ g (n.t 0).asI.toNat 1).asR] fun a=>
     bif ((a.t 13).asI == 0) then
      chk (b6q (a.t 9).asR.length (n.t 0).asI (W64 ((n.t 0).asI+1))) <|
      so_ [.i (a.t 0).asI,.i (a.t 1).asI,.i (a.t 2).asI,.r (a.t 3).asR,.i (a.t 4).asI,.i (a.t 5).asI,.i (a.t 6).asI,.i (a.t 7).asI,.i (a.t 8).asI,.r ((a.t 9).asR.take (n.t 0).asI.toNat++(a.t 9).asR.drop (W64 ((n.t 0).asI+1)).toNat),.i (a.t 10).asI,.b (a.t 11).asB,.b (a.t 12).asB,.i (a.t 13).asI]
     else
      so_ [.i (a.t 0).asI,.i (a.t 1).asI,.i (a.t 2).asI,.r (a.t 3).asR,.i (a.t 4).asI,.i (a.t 5).asI,.i (a.t 6).asI,.i (a.t 7).asI,.i (a.t 8).asI,.r (a.t 9).asR,.i (a.t 10).asI,.b (a.t 11).asB,.b (a.t 12).asB,.i (a.t 13).asI]
theorem d6h (k:Nat) (a c d:Int) (e:LL) (f g h l m:Int) (n:LL) (o:Int) (p q:Bool) (t:Int):a0a E P0 (k+1) N.j7h [.v (S0_ a c d e f g h l m n o p q),vi_ t]=c0s k a c d e f g h l m n o p q t:=by kernel_rfl
def c2x (k:Nat) (l m n:Int) (o:LL) (p q u w x:Int) (y:LL) (z:Int) (A B:Bool) (C D e h:LL) (F G H J:Int) (K:LL) (f g:Int) (d:LL):OO:=
 chk (decide ((e.length+([(S4_ f g d)]:LL).length)*40≤140737488355328)) <|
 BK_ k N.j6y [.v (S5_ F G H J K)] fun a=>
 BK_ k N.j7s [.v (S4_ f g d)] fun c=>
 chk (decide ((h.length+([(j4u a c)]:LL).length)*96≤140737488355328)) <|
 some ⟨[],[[.i l,.i m,.i n,.r o,.i p,.i q,.i u,.i w,.i x,.r y,.i z,.b A,.b B,.r C,.r D,.r (a0x (e++([(S4_ f g d)]:LL)) (e.length+0) 2 [.r d]),.r (h++([(j4u a c)]:LL))]]⟩
theorem d8q (k:Nat) (a c d:Int) (e:LL) (f g h l m:Int) (n:LL) (o:Int) (q t:Bool) (u w x y:LL) (z A B C:Int) (D:LL) (F G:Int) (H:LL):a0a E P0 (k+1) N.j5o [.p (S1_ a c d e f g h l m n o q t u w x y),.v (S5_ z A B C D),.v (S4_ F G H)]=c2x k a c d e f g h l m n o q t u w x y z A B C D F G H:=by kernel_rfl
def a1t (a:Outs) (b:Int):LL:=a0x (a.t 14).asR b.toNat 4 [.r ((at_ (a.t 14).asR b.toNat 4).asR)]
def a3j (b:Outs) (a:Int) (c:Outs):LL:=a0x (a1t b a) a.toNat 7 [.i (c.t 13).asI]
def a0i (b:Outs) (a:Int) (c:Outs):LL:=a0x (a3j b a c) a.toNat 5 [.i (W64 ((at_ (a3j b a c) a.toNat 5).asI+1))]
def a1h (b:Outs) (a:Int) (c:Outs):LL:=a0x (a0i b a c) a.toNat 6 [.r ((at_ (a0i b a c) a.toNat 6).asR)]
def a0w (a:LL) (b:Int):LL:=a0x a b.toNat 5 [.i (W64 ((at_ a b.toNat 5).asI+1))]
def a1z (b:LL) (a:Int):LL:=a0x (a0w b a) a.toNat 6 [.r ((at_ (a0w b a) a.toNat 6).asR)]
def a2a (b:Outs) (a:Int):LL:=a0x (a1t b a) a.toNat 6 [.r ((at_ (a1t b a) a.toNat 6).asR)]
def a1b (a:Outs):List T:=(j4v a)
def a2m (a c:Outs) (d:Int):List T:=(j4w a c ((a1h c d a).take d.toNat++(a1h c d a).drop (W64 (d+1)).toNat))
def a2n (a c:Outs) (d:Int):List T:=(j4w a c ((a0i c d a).take d.toNat++(a0i c d a).drop (W64 (d+1)).toNat))
def a2o (a c:Outs) (d:Int):List T:=(j4b a c (a0i c d a))
def a2b (a:Outs):List T:=(i8e a)
def a2p (b:Outs) (a:Int) (c:Outs):List T:=(S5_ (at_ (a1h b a c) a.toNat 0).asI (at_ (a1h b a c) a.toNat 1).asI (at_ (a1h b a c) a.toNat 2).asI (at_ (a1h b a c) a.toNat 3).asI (at_ (a1h b a c) a.toNat 4).asR)
def a2q (b:Outs) (a:Int) (c:Outs):List T:=(S5_ (at_ (a0i b a c) a.toNat 0).asI (at_ (a0i b a c) a.toNat 1).asI (at_ (a0i b a c) a.toNat 2).asI (at_ (a0i b a c) a.toNat 3).asI (at_ (a0i b a c) a.toNat 4).asR)
def a2r (b:Outs) (a:Int) (c d:Outs):List T:=[.i (at_ (a0i b a c) a.toNat 1).asI,.i (at_ (a0i b a c) a.toNat 7).asI,.r (d.t 0).asR]
def a3d (a:Outs) (b:Int):List T:=(S5_ (at_ (a.t 14).asR b.toNat 0).asI (at_ (a.t 14).asR b.toNat 1).asI (at_ (a.t 14).asR b.toNat 2).asI (at_ (a.t 14).asR b.toNat 3).asI (at_ (a.t 14).asR b.toNat 4).asR)
def b6i (k:Nat) (a:Int) (d:LL) (c:Outs) (e:Bool):OO:=
 bif e then
  BK_ k N.j5n [vr_ (at_ (a0w d a) a.toNat 6).asR] fun f=>
  chk (b6q (a1z d a).length a (W64 (a+1))) <|
  chk (decide (a≤((a.toNat:Nat):Int))&&decide (((a.toNat:Nat):Int)<(W64 (a+1)))) <|
  BK_ k N.j5o [.p (j3j c ((a1z d a).take a.toNat++(a1z d a).drop (W64 (a+1)).toNat)),.v (S5_ (at_ (a1z d a) a.toNat 0).asI (at_ (a1z d a) a.toNat 1).asI (at_ (a1z d a) a.toNat 2).asI (at_ (a1z d a) a.toNat 3).asI (at_ (a1z d a) a.toNat 4).asR),.v [.i (at_ (a0w d a) a.toNat 1).asI,.i (at_ (a0w d a) a.toNat 7).asI,.r (f.t 0).asR]] fun g=>
  some ⟨(a1b g),[]⟩
 else
  chk (b6q (a0w d a).length a (W64 (a+1))) <|
  chk (decide (a≤((a.toNat:Nat):Int))&&decide (((a.toNat:Nat):Int)<(W64 (a+1)))) <|
  BK_ k N.j5o [.p (j3j c ((a0w d a).take a.toNat++(a0w d a).drop (W64 (a+1)).toNat)),.v (S5_ (at_ (a0w d a) a.toNat 0).asI (at_ (a0w d a) a.toNat 1).asI (at_ (a0w d a) a.toNat 2).asI (at_ (a0w d a) a.toNat 3).asI (at_ (a0w d a) a.toNat 4).asR),.v (S9_ (at_ (a0w d a) a.toNat 1).asI (at_ (a0w d a) a.toNat 7).asI)] fun h=>
  some ⟨(a1b h),[]⟩
def a4b (k:Nat) (c:Int) (a:Outs) (d:LL):OO:=
 bif ((at_ (a0w d c) c.toNat 7).asI == 0) then
  so_ (j4r a (a0w d c))
 else
  bif ((at_ (a0w d c) c.toNat 0).asI == 1) then
   b6i k c d a ((at_ (a0w d c) c.toNat 7).asI == 0)
  else
   b6i k c d a false
def c0t (k:Nat) (a:Int) (b c:Outs) (d:Bool):OO:=
 bif d then
  BK_ k N.j5n [vr_ (at_ (a0i b a c) a.toNat 6).asR] fun e=>
  chk (b6q (a1h b a c).length a (W64 (a+1))) <|
  chk (decide (a≤((a.toNat:Nat):Int))&&decide (((a.toNat:Nat):Int)<(W64 (a+1)))) <|
  BK_ k N.j5o [.p (a2m c b a),.v (a2p b a c),.v (a2r b a c e)] fun f=>
  some ⟨(a1b f),[]⟩
 else
  chk (b6q (a0i b a c).length a (W64 (a+1))) <|
  chk (decide (a≤((a.toNat:Nat):Int))&&decide (((a.toNat:Nat):Int)<(W64 (a+1)))) <|
  BK_ k N.j5o [.p (a2n c b a),.v (a2q b a c),.v (S9_ (at_ (a0i b a c) a.toNat 1).asI (at_ (a0i b a c) a.toNat 7).asI)] fun g=>
  some ⟨(a1b g),[]⟩
def c0u (k:Nat) (a:Int) (b c:Outs) (d:Bool):OO:=
 bif d then
  BK_ k N.j5n [vr_ (at_ (a0i b a c) a.toNat 6).asR] fun e=>
  chk (b6q (a1h b a c).length a (W64 (a+1))) <|
  chk (decide (a≤((a.toNat:Nat):Int))&&decide (((a.toNat:Nat):Int)<(W64 (a+1)))) <|
  BK_ k N.j5o [.p (a2m c b a),.v (a2p b a c),.v (a2r b a c e)] fun f=>
  some ⟨(a1b f),[]⟩
 else
  chk (b6q (a0i b a c).length a (W64 (a+1))) <|
  chk (decide (a≤((a.toNat:Nat):Int))&&decide (((a.toNat:Nat):Int)<(W64 (a+1)))) <|
  BK_ k N.j5o [.p (a2n c b a),.v (a2q b a c),.v (S9_ (at_ (a0i b a c) a.toNat 1).asI (at_ (a0i b a c) a.toNat 7).asI)] fun g=>
  some ⟨(a1b g),[]⟩
def c0v (k:Nat) (a:Int) (b c:Outs) (d:Bool):OO:=
 bif d then
  BK_ k N.j5n [vr_ (at_ (a0i b a c) a.toNat 6).asR] fun e=>
  chk (b6q (a1h b a c).length a (W64 (a+1))) <|
  chk (decide (a≤((a.toNat:Nat):Int))&&decide (((a.toNat:Nat):Int)<(W64 (a+1)))) <|
  BK_ k N.j5o [.p (a2m c b a),.v (a2p b a c),.v (a2r b a c e)] fun f=>
  some ⟨(a1b f),[]⟩
 else
  chk (b6q (a0i b a c).length a (W64 (a+1))) <|
  chk (decide (a≤((a.toNat:Nat):Int))&&decide (((a.toNat:Nat):Int)<(W64 (a+1)))) <|
  BK_ k N.j5o [.p (a2n c b a),.v (a2q b a c),.v (S9_ (at_ (a0i b a c) a.toNat 1).asI (at_ (a0i b a c) a.toNat 7).asI)] fun g=>
  some ⟨(a1b g),[]⟩
def c0w (k:Nat) (a:Int) (b c:Outs) (d:Bool):OO:=
 bif d then
  BK_ k N.j5n [vr_ (at_ (a0i b a c) a.toNat 6).asR] fun e=>
  chk (b6q (a1h b a c).length a (W64 (a+1))) <|
  chk (decide (a≤((a.toNat:Nat):Int))&&decide (((a.toNat:Nat):Int)<(W64 (a+1)))) <|
  BK_ k N.j5o [.p (a2m c b a),.v (a2p b a c),.v (a2r b a c e)] fun f=>
  some ⟨(a1b f),[]⟩
 else
  chk (b6q (a0i b a c).length a (W64 (a+1))) <|
  chk (decide (a≤((a.toNat:Nat):Int))&&decide (((a.toNat:Nat):Int)<(W64 (a+1)))) <|
  BK_ k N.j5o [.p (a2n c b a),.v (a2q b a c),.v (S9_ (at_ (a0i b a c) a.toNat 1).asI (at_ (a0i b a c) a.toNat 7).asI)] fun g=>
  some ⟨(a1b g),[]⟩
def c0x (k:Nat) (a:Int) (b c:Outs) (d:Bool):OO:=
 bif d then
  BK_ k N.j5n [vr_ (at_ (a0i b a c) a.toNat 6).asR] fun e=>
  chk (b6q (a1h b a c).length a (W64 (a+1))) <|
  chk (decide (a≤((a.toNat:Nat):Int))&&decide (((a.toNat:Nat):Int)<(W64 (a+1)))) <|
  BK_ k N.j5o [.p (a2m c b a),.v (a2p b a c),.v (a2r b a c e)] fun f=>
  some ⟨(a1b f),[]⟩
 else
  chk (b6q (a0i b a c).length a (W64 (a+1))) <|
  chk (decide (a≤((a.toNat:Nat):Int))&&decide (((a.toNat:Nat):Int)<(W64 (a+1)))) <|
  BK_ k N.j5o [.p (a2n c b a),.v (a2q b a c),.v (S9_ (at_ (a0i b a c) a.toNat 1).asI (at_ (a0i b a c) a.toNat 7).asI)] fun g=>
  some ⟨(a1b g),[]⟩
def b8n (k:Nat) (a:Int) (b c:Outs) (d:Bool):OO:=
 bif d then
  BK_ k N.j5n [vr_ (at_ (a0i b a c) a.toNat 6).asR] fun e=>
  chk (b6q (a1h b a c).length a (W64 (a+1))) <|
  chk (decide (a≤((a.toNat:Nat):Int))&&decide (((a.toNat:Nat):Int)<(W64 (a+1)))) <|
  BK_ k N.j5o [.p (a2m c b a),.v (a2p b a c),.v (a2r b a c e)] fun f=>
  some ⟨(a1b f),[]⟩
 else
  chk (b6q (a0i b a c).length a (W64 (a+1))) <|
  chk (decide (a≤((a.toNat:Nat):Int))&&decide (((a.toNat:Nat):Int)<(W64 (a+1)))) <|
  BK_ k N.j5o [.p (a2n c b a),.v (a2q b a c),.v (S9_ (at_ (a0i b a c) a.toNat 1).asI (at_ (a0i b a c) a.toNat 7).asI)] fun g=>
  some ⟨(a1b g),[]⟩
def a6g (k:Nat) (c:Int) (a:Outs) (d:Bool):OO:=
 bif d then
  BK_ k N.j5n [vr_ (at_ (a1t a c) c.toNat 6).asR] fun e=>
  chk (b6q (a2a a c).length c (W64 (c+1))) <|
  chk (decide (c≤((c.toNat:Nat):Int))&&decide (((c.toNat:Nat):Int)<(W64 (c+1)))) <|
  BK_ k N.j5o [.p (j3j a ((a2a a c).take c.toNat++(a2a a c).drop (W64 (c+1)).toNat)),.v (S5_ (at_ (a2a a c) c.toNat 0).asI (at_ (a2a a c) c.toNat 1).asI (at_ (a2a a c) c.toNat 2).asI (at_ (a2a a c) c.toNat 3).asI (at_ (a2a a c) c.toNat 4).asR),.v [.i (at_ (a.t 14).asR c.toNat 1).asI,.i (at_ (a.t 14).asR c.toNat 7).asI,.r (e.t 0).asR]] fun f=>
  some ⟨(a1b f),[]⟩
 else
  chk (Nat.beq c.toNat c.toNat) <|
  chk (b6q (a.t 14).asR.length c (W64 (c+1))) <|
  chk (decide (c≤((c.toNat:Nat):Int))&&decide (((c.toNat:Nat):Int)<(W64 (c+1)))) <|
  BK_ k N.j5o [.p (j3j a ((a.t 14).asR.take c.toNat++(a.t 14).asR.drop (W64 (c+1)).toNat)),.v (a3d a c),.v (S9_ (at_ (a.t 14).asR c.toNat 1).asI (at_ (a.t 14).asR c.toNat 7).asI)] fun g=>
  some ⟨(a1b g),[]⟩
def a8f (k:Nat) (a:Int) (b:Outs) (n:Bool):OO:=
 bif n then
  chk (Nat.beq a.toNat a.toNat) <|
  bif ((at_ (b.t 14).asR a.toNat 0).asI == 1) then
   BK_ k N.j7f [.v (a2b b),vi_ (W64 ((at_ (b.t 14).asR a.toNat 2).asI+(at_ (b.t 14).asR a.toNat 5).asI))] fun l=>
   bif ((l.t 1).asI == 0) then
    chk (decide (((at_ (a1t b a) a.toNat 6).asR.length+([[.i (l.t 0).asI]]:LL).length)*8≤140737488355328)) <|
    chk (Nat.beq a.toNat a.toNat) <|
    a4b k a b (a0x (a0x (a1t b a) a.toNat 6 [.r ((at_ (a1t b a) a.toNat 6).asR++([[.i (l.t 0).asI]]:LL))]) a.toNat 7 [.i (l.t 1).asI])
   else
    a4b k a b (a0x (a1t b a) a.toNat 7 [.i (l.t 1).asI])
  else
   bif ((at_ (b.t 14).asR a.toNat 0).asI == 2) then
    chk (decide (0≤(at_ (b.t 14).asR a.toNat 5).asI)&&decide ((at_ (b.t 14).asR a.toNat 5).asI<((at_ (b.t 14).asR a.toNat 4).asR.length:Int))) <|
    BK_ k N.j5q [.v (a2b b),vi_ (W64 ((at_ (b.t 14).asR a.toNat 2).asI+(at_ (b.t 14).asR a.toNat 5).asI)),vi_ (at_ (at_ (b.t 14).asR a.toNat 4).asR (at_ (b.t 14).asR a.toNat 5).asI.toNat 0).asI] fun c=>
    bif ((at_ (a0i b a c) a.toNat 7).asI == 0) then
     some ⟨(a2o c b a),[]⟩
    else
     bif ((at_ (a0i b a c) a.toNat 0).asI == 1) then
      c0t k a b c ((at_ (a0i b a c) a.toNat 7).asI == 0)
     else
      c0t k a b c false
   else
    bif ((at_ (b.t 14).asR a.toNat 0).asI == 6) then
     BK_ k N.j5q [.v (a2b b),vi_ (W64 ((at_ (b.t 14).asR a.toNat 2).asI+(at_ (b.t 14).asR a.toNat 5).asI)),vi_ 0] fun d=>
     bif ((at_ (a0i b a d) a.toNat 7).asI == 0) then
      some ⟨(a2o d b a),[]⟩
     else
      bif ((at_ (a0i b a d) a.toNat 0).asI == 1) then
       c0u k a b d ((at_ (a0i b a d) a.toNat 7).asI == 0)
      else
       c0u k a b d false
    else
     bif ((at_ (b.t 14).asR a.toNat 0).asI == 3) then
      bif (decide ((at_ (b.t 14).asR a.toNat 5).asI<((at_ (b.t 14).asR a.toNat 4).asR.length:Int))) then
       chk (decide (0≤(at_ (b.t 14).asR a.toNat 5).asI)&&decide ((at_ (b.t 14).asR a.toNat 5).asI<((at_ (b.t 14).asR a.toNat 4).asR.length:Int))) <|
       BK_ k N.j5q [.v (a2b b),vi_ (W64 ((at_ (b.t 14).asR a.toNat 2).asI+(at_ (b.t 14).asR a.toNat 5).asI)),vi_ (at_ (at_ (b.t 14).asR a.toNat 4).asR (at_ (b.t 14).asR a.toNat 5).asI.toNat 0).asI] fun e=>
       bif ((at_ (a0i b a e) a.toNat 7).asI == 0) then
        some ⟨(a2o e b a),[]⟩
       else
        bif ((at_ (a0i b a e) a.toNat 0).asI == 1) then
         c0v k a b e ((at_ (a0i b a e) a.toNat 7).asI == 0)
        else
         c0v k a b e false
      else
       BK_ k N.j8a [.v (j3g b),.v (a3d b a)] fun o=>
       BK_ k N.j7h [.v (a2b b),vi_ (W64 ((W64 ((o.t 0).asI+(at_ (b.t 14).asR a.toNat 5).asI)) - ((at_ (b.t 14).asR a.toNat 4).asR.length:Int)))] fun f=>
       bif ((at_ (a0i b a f) a.toNat 7).asI == 0) then
        some ⟨(a2o f b a),[]⟩
       else
        bif ((at_ (a0i b a f) a.toNat 0).asI == 1) then
         c0w k a b f ((at_ (a0i b a f) a.toNat 7).asI == 0)
        else
         c0w k a b f false
     else
      bif ((at_ (b.t 14).asR a.toNat 0).asI == 4) then
       BK_ k N.j7h [.v (a2b b),vi_ (at_ (b.t 14).asR a.toNat 5).asI] fun g=>
       bif ((at_ (a0i b a g) a.toNat 7).asI == 0) then
        some ⟨(a2o g b a),[]⟩
       else
        bif ((at_ (a0i b a g) a.toNat 0).asI == 1) then
         c0x k a b g ((at_ (a0i b a g) a.toNat 7).asI == 0)
        else
         c0x k a b g false
      else
       BK_ k N.j7f [.v (a2b b),vi_ (W64 ((at_ (b.t 14).asR a.toNat 2).asI+(at_ (b.t 14).asR a.toNat 5).asI))] fun m=>
       bif ((m.t 1).asI != 0) then
        a4b k a b (a0x (a1t b a) a.toNat 7 [.i (m.t 1).asI])
       else
        chk (decide ((0:Int)<((at_ (b.t 14).asR a.toNat 4).asR.length:Int))) <|
        bif ((m.t 0).asI != (at_ (at_ (b.t 14).asR a.toNat 4).asR 0 0).asI) then
         a4b k a b (a0x (a1t b a) a.toNat 7 [.i 4])
        else
         chk (decide ((1:Int)<((at_ (b.t 14).asR a.toNat 4).asR.length:Int))) <|
         BK_ k N.j5q [.v (a2b b),vi_ (W64 ((at_ (b.t 14).asR a.toNat 2).asI+(at_ (b.t 14).asR a.toNat 5).asI)),vi_ (at_ (at_ (b.t 14).asR a.toNat 4).asR 1 0).asI] fun h=>
         bif ((at_ (a0i b a h) a.toNat 7).asI == 0) then
          some ⟨(a2o h b a),[]⟩
         else
          bif ((at_ (a0i b a h) a.toNat 0).asI == 1) then
           b8n k a b h ((at_ (a0i b a h) a.toNat 7).asI == 0)
          else
           b8n k a b h false
 else
  bif ((at_ (b.t 14).asR a.toNat 0).asI == 1) then
   a6g k a b ((at_ (b.t 14).asR a.toNat 7).asI == 0)
  else
   a6g k a b false
def a8g (k:Nat) (d e c:Int) (a:Outs) (f:Bool):OO:=
 bif f then
  so_ (j3f a)
 else
  chk (decide (0≤c)&&decide (c<((a.t 14).asR.length:Int))) <|
  chk (Nat.blt c.toNat (a.t 14).asR.length) <|
  chk (Nat.beq c.toNat c.toNat) <|
  BK_ k N.j9e [.v [.i d,.i e],.v (a3d a c)] fun g=>
  bif (decide ((at_ (a.t 14).asR c.toNat 5).asI<(W64 ((g.t 0).asI - 1)))) then
   a8f k c a ((at_ (a.t 14).asR c.toNat 7).asI == 0)
  else
   a8f k c a false
def e9j (k:Nat) (h a c:Int) (l:LL) (m n o p q:Int) (u:LL) (w:Int) (x y:Bool) (z e A f:LL) (d:Int):OO:=
 BK_ k N.j5v [.v (S1_ h a c l m n o p q u w x y z e A f)] fun g=>
 BK_ k N.j7y [.v (S1_ h a c l m n o p q u w x y z e A f)] fun B=>
 bif (!(B.t 0).asB) then
  a8g k a c d g true
 else
  BK_ k N.j5m [vi_ d,vi_ 0,vi_ (W64 ((e.length:Int) - 1))] fun C=>
  bif (!(C.t 0).asB) then
   a8g k a c d g true
  else
   a8g k a c d g ((f.length:Int) == 400)
theorem g9z (k:Nat) (a c d:Int) (e:LL) (f g h l m:Int) (n:LL) (o:Int) (p q:Bool) (t u w x:LL) (y:Int):a0a E P0 (k+1) N.k3b [.v (S1_ a c d e f g h l m n o p q t u w x),vi_ y]=e9j k a c d e f g h l m n o p q t u w x y:=by kernel_rfl
def a8h (k:Nat) (c d:Bool) (A e f g h l m n o p:Int) (q u w x y z:LL) (B:(V4_)→OO) (C:Bool):OO:=
 bif C then
  BK_ k N.k3b [.v (S1_ e f g q h l m n o u p c d w x y z),vi_ 0] fun a=>
  bif (!(a.t 17).asB) then
   so_ (S1_ e f g q h l m n o u p c d w x y z)
  else
   B ((W64 (A+1)),(a.t 0).asI,(a.t 1).asI,(a.t 2).asI,(a.t 4).asI,(a.t 5).asI,(a.t 6).asI,(a.t 7).asI,(a.t 8).asI,(a.t 10).asI,(a.t 11).asB,(a.t 12).asB,(a.t 3).asR,(a.t 9).asR,(a.t 13).asR,(a.t 14).asR,(a.t 15).asR,(a.t 16).asR)
 else
  so_ (S1_ e f g q h l m n o u p c d w x y z)
def a8i (k:Nat) (x:Int) (c:(V4_)→OO):(V4_)→OO:=fun (a,d,e,f,g,h,i,l,m,n,o,p,q,r,t,b,u,w)=>
 bif (decide (a<x)) then
  a8h k o p a d e f g h i l m n q r t b u w c (decide ((b.length:Int) > 0))
 else
  a8h k o p a d e f g h i l m n q r t b u w c false
def e9k:List Nat:=[1,4,5,6,34]
def e9l (a:Int):(V4_)→St:=fun (c,d,e,f,g,h,l,m,n,o,p,q,r,t,u,w,x,y)=>SD_ [(1,.w_ a),(4,.ptr (4,0) 0),(5,.ptr (5,0) 0),(6,.w_ c),(34,.skip)] [((4,0),.var [.w_ 0,.w_ 0,.w_ 0,.ref (4,4),.w_ 0,.w_ 0,.w_ 0,.w_ 0,.w_ 0,.ref (4,10),.w_ 0,.b false,.b false,.ref (4,14),.ref (4,15),.ref (4,16),.ref (4,17)]),((4,4),.deep 134 [] none),((4,10),.deep 136 [] none),((4,14),.deep 92 [] none),((4,15),.deep 95 [] none),((4,16),.deep 96 [] none),((4,17),.deep 99 [] none),((5,0),.var [.w_ d,.w_ e,.w_ f,.ref (5,4),.w_ g,.w_ h,.w_ l,.w_ m,.w_ n,.ref (5,10),.w_ o,.b p,.b q,.ref (5,14),.ref (5,15),.ref (5,16),.ref (5,17)]),((5,4),.deep 134 r none),((5,10),.deep 136 t none),((5,14),.deep 92 u none),((5,15),.deep 95 w none),((5,16),.deep 96 x none),((5,17),.deep 99 y none)]
def c1y (k:Nat) (c d e:Int) (f:LL) (g h l m n:Int) (o:LL) (p:Int) (q u:Bool) (w x y z:LL) (A:Int) (B:(V4_)→OO):OO:=
 BK_ k N.j5v [.v (S1_ c d e f g h l m n o p q u w x y z)] fun a=>
 BK_ k N.j5m [vi_ A,vi_ 0,vi_ 1000] fun C=>
 bif (!(C.t 0).asB) then
  so_ (S6_ a)
 else
  B (0,(a.t 0).asI,(a.t 1).asI,(a.t 2).asI,(a.t 4).asI,(a.t 5).asI,(a.t 6).asI,(a.t 7).asI,(a.t 8).asI,(a.t 10).asI,(a.t 11).asB,(a.t 12).asB,(a.t 3).asR,(a.t 9).asR,(a.t 13).asR,(a.t 14).asR,(a.t 15).asR,(a.t 16).asR)
def d1h (k:Nat) (b c d:Int) (e:LL) (f g h i l:Int) (m:LL) (n:Int) (o p:Bool) (q r t u:LL) (a:Int):OO:=
 c1y k b c d e f g h i l m n o p q r t u a (fun v=>a1i (a8i k a) k v)
theorem f4t (k:Nat) (c d e:Int) (f:LL) (g h l m n:Int) (o:LL) (p:Int) (q t:Bool) (u w x y:LL) (a:Int):a0a E P0 (k+1) N.k3c [.v (S1_ c d e f g h l m n o p q t u w x y),vi_ a]=d1h k c d e f g h l m n o p q t u w x y a:=a1y [] [.sr,.sr,.sr,.sl,.sr,.bl] e9k (c1y k c d e f g h l m n o p q t u w x y a) (e9l a) (a8i k a) (by kernel_rfl) (fun j v=>by kernel_rfl)
def e1l (k:Nat) (g e f:Int) (h:LL) (l m n o q:Int) (u:LL) (w:Int) (x y:Bool) (z A B C:LL) (c:Int):OO:=
 BK_ k N.j5v [.v (S1_ g e f h l m n o q u w x y z A B C)] fun a=>
 BK_ k N.j6q [.v (S1_ g e f h l m n o q u w x y z A B C),vi_ c] fun F=>
 bif (!(F.t 0).asB) then
  so_ (j3f a)
 else
  chk (decide (0≤c)&&decide (c<((a.t 13).asR.length:Int))) <|
  chk (b6q (a.t 13).asR.length c (W64 (c+1))) <|
  chk (decide (c≤((c.toNat:Nat):Int))&&decide (((c.toNat:Nat):Int)<(W64 (c+1)))) <|
  BK_ k N.j7a [.v [.i e,.i f],.v (S5_ (at_ (a.t 13).asR c.toNat 0).asI (at_ (a.t 13).asR c.toNat 1).asI (at_ (a.t 13).asR c.toNat 2).asI (at_ (a.t 13).asR c.toNat 3).asI (at_ (a.t 13).asR c.toNat 4).asR)] fun D=>
  bif ((D.t 0).asI == 0) then
   chk (decide (((a.t 14).asR.length+([[.i (at_ (a.t 13).asR c.toNat 0).asI,.i (at_ (a.t 13).asR c.toNat 1).asI,.i (at_ (a.t 13).asR c.toNat 2).asI,.i (at_ (a.t 13).asR c.toNat 3).asI,.r (at_ (a.t 13).asR c.toNat 4).asR,.i 0,.r [],.i 0]]:LL).length)*96≤140737488355328)) <|
   so_ [.i (a.t 0).asI,.i (a.t 1).asI,.i (a.t 2).asI,.r (a.t 3).asR,.i (a.t 4).asI,.i (a.t 5).asI,.i (a.t 6).asI,.i (a.t 7).asI,.i (a.t 8).asI,.r (a.t 9).asR,.i (a.t 10).asI,.b (a.t 11).asB,.b (a.t 12).asB,.r ((a.t 13).asR.take c.toNat++(a.t 13).asR.drop (W64 (c+1)).toNat),.r ((a.t 14).asR++([[.i (at_ (a.t 13).asR c.toNat 0).asI,.i (at_ (a.t 13).asR c.toNat 1).asI,.i (at_ (a.t 13).asR c.toNat 2).asI,.i (at_ (a.t 13).asR c.toNat 3).asI,.r (at_ (a.t 13).asR c.toNat 4).asR,.i 0,.r [],.i 0]]:LL)),.r (a.t 15).asR,.r (a.t 16).asR,.b true]
  else
   BK_ k N.j5o [.p [.i (a.t 0).asI,.i (a.t 1).asI,.i (a.t 2).asI,.r (a.t 3).asR,.i (a.t 4).asI,.i (a.t 5).asI,.i (a.t 6).asI,.i (a.t 7).asI,.i (a.t 8).asI,.r (a.t 9).asR,.i (a.t 10).asI,.b (a.t 11).asB,.b (a.t 12).asB,.r ((a.t 13).asR.take c.toNat++(a.t 13).asR.drop (W64 (c+1)).toNat),.r (a.t 14).asR,.r (a.t 15).asR,.r (a.t 16).asR],.v (S5_ (at_ (a.t 13).asR c.toNat 0).asI (at_ (a.t 13).asR c.toNat 1).asI (at_ (a.t 13).asR c.toNat 2).asI (at_ (a.t 13).asR c.toNat 3).asI (at_ (a.t 13).asR c.toNat 4).asR),.v [.i (at_ (a.t 13).asR c.toNat 1).asI,.i (D.t 0).asI,.r []]] fun d=>
   so_ (j4v d)
theorem g6x (k:Nat) (a c d:Int) (e:LL) (f g h l m:Int) (n:LL) (o:Int) (p q:Bool) (t u w x:LL) (y:Int):a0a E P0 (k+1) N.k3d [.v (S1_ a c d e f g h l m n o p q t u w x),vi_ y]=e1l k a c d e f g h l m n o p q t u w x y:=by kernel_rfl
def c7v (k:Nat) (d e f:Int) (g:LL) (h l m n o:Int) (p:LL) (q:Int) (u w:Bool) (x y z A:LL):OO:=
 BK_ k N.k2g [.v (S1_ d e f g h l m n o p q u w x y z A)] fun B=>
 bif (decide ((B.t 0).asI<0)) then
  BK_ k N.k3c [.v (S1_ d e f g h l m n o p q u w x y z A),vi_ 200] fun a=>
  so_ (S6_ a)
 else
  BK_ k N.k3d [.v (S1_ d e f g h l m n o p q u w x y z A),vi_ (B.t 0).asI] fun c=>
  so_ (S6_ c)
theorem e9m (k:Nat) (a c d:Int) (e:LL) (f g h l m:Int) (n:LL) (o:Int) (p q:Bool) (t u w x:LL):a0a E P0 (k+1) N.k3e [.v (S1_ a c d e f g h l m n o p q t u w x)]=c7v k a c d e f g h l m n o p q t u w x:=by kernel_rfl
def b3m (k:Nat) (c d:Bool) (A e f g h l m n o p:Int) (q u w x y z:LL) (B:(V4_)→OO) (C:Bool):OO:=
 bif C then
  so_ (S1_ e f g q h l m n o u p c d w x y z)
 else
  BK_ k N.k3e [.v (S1_ e f g q h l m n o u p c d w x y z)] fun a=>
  B ((W64 (A+1)),(a.t 0).asI,(a.t 1).asI,(a.t 2).asI,(a.t 4).asI,(a.t 5).asI,(a.t 6).asI,(a.t 7).asI,(a.t 8).asI,(a.t 10).asI,(a.t 11).asB,(a.t 12).asB,(a.t 3).asR,(a.t 9).asR,(a.t 13).asR,(a.t 14).asR,[],(a.t 16).asR)
def b3n (k:Nat) (A:(V4_)→OO):(V4_)→OO:=fun (z,d,e,f,g,h,l,m,n,o,p,q,u,w,a,c,x,y)=>
 bif (decide (z<60)) then
  BK_ k N.j7y [.v (S1_ d e f u g h l m n w o p q a c x y)] fun B=>
  bif (!(B.t 0).asB) then
   b3m k p q z d e f g h l m n o u w a c x y A true
  else
   b3m k p q z d e f g h l m n o u w a c x y A ((W64 ((a.length:Int)+(c.length:Int))) == 0)
 else
  so_ (S1_ d e f u g h l m n w o p q a c x y)
def g2m:List Nat:=[2,3,6,25]
def g2n:(V4_)→St:=fun (a,c,d,e,f,g,h,l,m,n,o,p,q,r,t,u,w,x)=>SD_ [(2,.ptr (2,0) 0),(3,.ptr (3,0) 0),(6,.w_ a),(25,.skip)] [((2,0),.var [.w_ 0,.w_ 0,.w_ 0,.ref (2,4),.w_ 0,.w_ 0,.w_ 0,.w_ 0,.w_ 0,.ref (2,10),.w_ 0,.b false,.b false,.ref (2,14),.ref (2,15),.ref (2,16),.ref (2,17)]),((2,4),.deep 134 [] none),((2,10),.deep 136 [] none),((2,14),.deep 92 [] none),((2,15),.deep 95 [] none),((2,16),.deep 96 [] none),((2,17),.deep 99 [] none),((3,0),.var [.w_ c,.w_ d,.w_ e,.ref (3,4),.w_ f,.w_ g,.w_ h,.w_ l,.w_ m,.ref (3,10),.w_ n,.b o,.b p,.ref (3,14),.ref (3,15),.ref (3,16),.ref (3,17)]),((3,4),.deep 134 q none),((3,10),.deep 136 r none),((3,14),.deep 92 t none),((3,15),.deep 95 u none),((3,16),.deep 96 w none),((3,17),.deep 99 x none)]
def c7w (k:Nat) (c d e:Int) (f:LL) (g h l m n:Int) (o:LL) (p:Int) (q u:Bool) (w x y z:LL) (A:(V4_)→OO):OO:=
 BK_ k N.j5v [.v (S1_ c d e f g h l m n o p q u w x y z)] fun a=>
 A (0,(a.t 0).asI,(a.t 1).asI,(a.t 2).asI,(a.t 4).asI,(a.t 5).asI,(a.t 6).asI,(a.t 7).asI,(a.t 8).asI,(a.t 10).asI,(a.t 11).asB,(a.t 12).asB,(a.t 3).asR,(a.t 9).asR,(a.t 13).asR,(a.t 14).asR,(a.t 15).asR,(a.t 16).asR)
def e1m (k:Nat) (a b c:Int) (d:LL) (e f g h i:Int) (l:LL) (m:Int) (n o:Bool) (p q r t:LL):OO:=
 c7w k a b c d e f g h i l m n o p q r t (fun v=>a1i (b3n k) k v)
theorem g6y (k:Nat) (a c d:Int) (e:LL) (f g h l m:Int) (n:LL) (o:Int) (p q:Bool) (t u w x:LL):a0a E P0 (k+1) N.j9t [.v (S1_ a c d e f g h l m n o p q t u w x)]=e1m k a c d e f g h l m n o p q t u w x:=a1y [] [.sr,.sr,.sl,.sr,.bl] g2m (c7w k a c d e f g h l m n o p q t u w x) (g2n) (b3n k) (by kernel_rfl) (fun j v=>by kernel_rfl)
def e1n (k:Nat) (a c d e:Int):OO:=
 bif (a != d) then
  so_ [.b false]
 else
  bif (c != e) then so_ [.b false] else so_ [.b true]
theorem g6z (k:Nat) (a b c d:Int):a0a E P0 (k+1) N.k3f [.v [.i a,.i b],.v [.i c,.i d]]=e1n k a b c d:=by kernel_rfl
def b5x (k:Nat) (c d:LL) (e:(Int)→OO):(Int)→OO:=fun a=>
 bif (decide (a<(c.length:Int))) then
  chk (decide (0≤a)&&decide (a<(c.length:Int))) <|
  chk (decide (0≤a)&&decide (a<(d.length:Int))) <|
  bif ((at_ c a.toNat 0).asI != (at_ d a.toNat 0).asI) then
   some ⟨[.b false],[]⟩
  else
   e (W64 (a+1))
 else
  some ⟨[.b true],[]⟩
def f4u:List Nat:=[0,1,4,5]
def f4v (a c:LL):(Int)→St:=fun d=>⟨a3k [(0,.sl 3 a),(1,.sl 3 c),(4,.b false),(5,.i .i64 d)],a1e []⟩
def c4l (k:Nat) (a c:LL) (d:(Int)→OO):OO:=
 bif ((a.length:Int) != (c.length:Int)) then some ⟨[.b false],[]⟩ else d 0
def d6i (k:Nat) (a b:LL):OO:=
 c4l k a b (fun v=>a1i (b5x k a b) k v)
theorem g2o (k:Nat) (a c:LL):a0a E P0 (k+1) N.j6e [.v [.r a],.v [.r c]]=d6i k a c:=a1y [] [.sr,.sr,.sl,.sr,.bl] f4u (c4l k a c) (f4v a c) (b5x k a c) (by kernel_rfl) (fun j v=>by kernel_rfl)
def b3o (k:Nat) (c d:LL) (e:(Int)→OO):(Int)→OO:=fun a=>
 bif (decide (a<(c.length:Int))) then
  chk (decide (0≤a)&&decide (a<(c.length:Int))) <|
  chk (decide (0≤a)&&decide (a<(d.length:Int))) <|
  a0f (a0a E P0 k N.j6e [.v [.r (at_ c a.toNat 0).asR],.v [.r (at_ d a.toNat 0).asR]]) fun f=>
  bif (!(f.t 0).asB) then some ⟨[.b false],[]⟩ else e (W64 (a+1))
 else
  some ⟨[.b true],[]⟩
def e9n:List Nat:=[0,1,4,5]
def e9o (a c:LL):(Int)→St:=fun d=>⟨a3k [(0,.sl 79 a),(1,.sl 79 c),(4,.b false),(5,.i .i64 d)],a1e []⟩
def c1z (k:Nat) (a c:LL) (d:(Int)→OO):OO:=
 bif ((a.length:Int) != (c.length:Int)) then some ⟨[.b false],[]⟩ else d 0
def d1i (k:Nat) (a b:LL):OO:=
 c1z k a b (fun v=>a1i (b3o k a b) k v)
theorem f4w (k:Nat) (a c:LL):a0a E P0 (k+1) N.k3g [.v [.r a],.v [.r c]]=d1i k a c:=a1y [] [.sr,.sr,.sl,.sr,.bl] e9n (c1z k a c) (e9o a c) (b3o k a c) (by kernel_rfl) (fun j v=>by kernel_rfl)
def e9p (k:Nat) (a:Int) (c:LL) (d:Int) (e:LL):OO:=
 bif (a != d) then
  some ⟨[.b false],[]⟩
 else
  a0f (a0a E P0 k N.j6e [.v [.r c],.v [.r e]]) fun f=>
  bif (!(f.t 0).asB) then some ⟨[.b false],[]⟩ else some ⟨[.b true],[]⟩
theorem h0a (k:Nat) (a:Int) (b:LL) (c:Int) (d:LL):a0a E P0 (k+1) N.k3h [.v [.i a,.r b],.v [.i c,.r d]]=e9p k a b c d:=by kernel_rfl
def b8o (k:Nat) (c d:LL) (e:(Int)→OO):(Int)→OO:=fun a=>
 bif (decide (a<(c.length:Int))) then
  chk (decide (0≤a)&&decide (a<(c.length:Int))) <|
  chk (decide (0≤a)&&decide (a<(d.length:Int))) <|
  a0f (a0a E P0 k N.k3h [.v [.i (at_ c a.toNat 0).asI,.r (at_ c a.toNat 1).asR],.v [.i (at_ d a.toNat 0).asI,.r (at_ d a.toNat 1).asR]]) fun f=>
  bif (!(f.t 0).asB) then some ⟨[.b false],[]⟩ else e (W64 (a+1))
 else
  some ⟨[.b true],[]⟩
def g2p:List Nat:=[0,1,4,5]
def g2q (a c:LL):(Int)→St:=fun d=>⟨a3k [(0,.sl 157 a),(1,.sl 157 c),(4,.b false),(5,.i .i64 d)],a1e []⟩
def c7x (k:Nat) (a c:LL) (d:(Int)→OO):OO:=
 bif ((a.length:Int) != (c.length:Int)) then some ⟨[.b false],[]⟩ else d 0
def e1o (k:Nat) (a b:LL):OO:=
 c7x k a b (fun v=>a1i (b8o k a b) k v)
theorem g7a (k:Nat) (a c:LL):a0a E P0 (k+1) N.k3i [.v [.r a],.v [.r c]]=e1o k a c:=a1y [] [.sr,.sr,.sl,.sr,.bl] g2p (c7x k a c) (g2q a c) (b8o k a c) (by kernel_rfl) (fun j v=>by kernel_rfl)
def e1p (k:Nat) (a c:LL) (d:Bool) (e f g:LL) (h:Bool) (i:LL):OO:=
 a0f (a0a E P0 k N.k3g [.v [.r a],.v [.r f]]) fun l=>
 bif (!(l.t 0).asB) then
  some ⟨[.b false],[]⟩
 else
  a0f (a0a E P0 k N.k3i [.v [.r c],.v [.r g]]) fun m=>
  bif (!(m.t 0).asB) then
   some ⟨[.b false],[]⟩
  else
   bif (!(d == h)) then
    some ⟨[.b false],[]⟩
   else
    a0f (a0a E P0 k N.j6e [.v [.r e],.v [.r i]]) fun n=>
    bif (!(n.t 0).asB) then some ⟨[.b false],[]⟩ else some ⟨[.b true],[]⟩
theorem g7b (k:Nat) (a c:LL) (d:Bool) (e f g:LL) (h:Bool) (i:LL):a0a E P0 (k+1) N.k3j [.v [.r a,.r c,.b d,.r e],.v [.r f,.r g,.b h,.r i]]=e1p k a c d e f g h i:=by kernel_rfl
def b5y (k:Nat) (c d:LL) (e:(Int)→OO):(Int)→OO:=fun a=>
 bif (decide (a<(c.length:Int))) then
  chk (decide (0≤a)&&decide (a<(c.length:Int))) <|
  chk (decide (0≤a)&&decide (a<(d.length:Int))) <|
  a0f (a0a E P0 k N.k3j [.v [.r (at_ c a.toNat 0).asR,.r (at_ c a.toNat 1).asR,.b (at_ c a.toNat 2).asB,.r (at_ c a.toNat 3).asR],.v [.r (at_ d a.toNat 0).asR,.r (at_ d a.toNat 1).asR,.b (at_ d a.toNat 2).asB,.r (at_ d a.toNat 3).asR]]) fun f=>
  bif (!(f.t 0).asB) then some ⟨[.b false],[]⟩ else e (W64 (a+1))
 else
  some ⟨[.b true],[]⟩
def f4x:List Nat:=[0,1,4,5]
def f4y (a c:LL):(Int)→St:=fun d=>⟨a3k [(0,.sl 134 a),(1,.sl 134 c),(4,.b false),(5,.i .i64 d)],a1e []⟩
def c4m (k:Nat) (a c:LL) (d:(Int)→OO):OO:=
 bif ((a.length:Int) != (c.length:Int)) then some ⟨[.b false],[]⟩ else d 0
def d6j (k:Nat) (a b:LL):OO:=
 c4m k a b (fun v=>a1i (b5y k a b) k v)
theorem g2r (k:Nat) (a c:LL):a0a E P0 (k+1) N.k3k [.v [.r a],.v [.r c]]=d6j k a c:=a1y [] [.sr,.sr,.sl,.sr,.bl] f4x (c4m k a c) (f4y a c) (b5y k a c) (by kernel_rfl) (fun j v=>by kernel_rfl)
def e1q (k:Nat) (a:Int) (c:LL) (d:Int) (e:LL):OO:=
 bif (a != d) then
  some ⟨[.b false],[]⟩
 else
  a0f (a0a E P0 k N.j6e [.v [.r c],.v [.r e]]) fun f=>
  bif (!(f.t 0).asB) then some ⟨[.b false],[]⟩ else some ⟨[.b true],[]⟩
theorem g7c (k:Nat) (a:Int) (b:LL) (c:Int) (d:LL):a0a E P0 (k+1) N.k3l [.v [.i a,.r b],.v [.i c,.r d]]=e1q k a b c d:=by kernel_rfl
def b5z (k:Nat) (c d:LL) (e:(Int)→OO):(Int)→OO:=fun a=>
 bif (decide (a<(c.length:Int))) then
  chk (decide (0≤a)&&decide (a<(c.length:Int))) <|
  chk (decide (0≤a)&&decide (a<(d.length:Int))) <|
  a0f (a0a E P0 k N.k3l [.v [.i (at_ c a.toNat 0).asI,.r (at_ c a.toNat 1).asR],.v [.i (at_ d a.toNat 0).asI,.r (at_ d a.toNat 1).asR]]) fun f=>
  bif (!(f.t 0).asB) then some ⟨[.b false],[]⟩ else e (W64 (a+1))
 else
  some ⟨[.b true],[]⟩
def f4z:List Nat:=[0,1,4,5]
def f5a (a c:LL):(Int)→St:=fun d=>⟨a3k [(0,.sl 136 a),(1,.sl 136 c),(4,.b false),(5,.i .i64 d)],a1e []⟩
def c4n (k:Nat) (a c:LL) (d:(Int)→OO):OO:=
 bif ((a.length:Int) != (c.length:Int)) then some ⟨[.b false],[]⟩ else d 0
def d6k (k:Nat) (a b:LL):OO:=
 c4n k a b (fun v=>a1i (b5z k a b) k v)
theorem g2s (k:Nat) (a c:LL):a0a E P0 (k+1) N.k3m [.v [.r a],.v [.r c]]=d6k k a c:=a1y [] [.sr,.sr,.sl,.sr,.bl] f4z (c4n k a c) (f5a a c) (b5z k a c) (by kernel_rfl) (fun j v=>by kernel_rfl)
def e1r (k:Nat) (a c d:Int) (e:LL) (f g h l m:Int) (n:LL) (o:Int) (p q:Bool) (u w x:Int) (y:LL) (z A B C D:Int) (F:LL) (G:Int) (H J:Bool):OO:=
 bif (a != u) then
  some ⟨[.b false],[]⟩
 else
  a0f (a0a E P0 k N.k3f [.v [.i c,.i d],.v [.i w,.i x]]) fun K=>
  bif (!(K.t 0).asB) then
   some ⟨[.b false],[]⟩
  else
   a0f (a0a E P0 k N.k3k [.v [.r e],.v [.r y]]) fun L=>
   bif (!(L.t 0).asB) then
    some ⟨[.b false],[]⟩
   else
    bif (f != z) then
     some ⟨[.b false],[]⟩
    else
     bif (g != A) then
      some ⟨[.b false],[]⟩
     else
      bif (h != B) then
       some ⟨[.b false],[]⟩
      else
       bif (l != C) then
        some ⟨[.b false],[]⟩
       else
        bif (m != D) then
         some ⟨[.b false],[]⟩
        else
         a0f (a0a E P0 k N.k3m [.v [.r n],.v [.r F]]) fun M=>
         bif (!(M.t 0).asB) then
          some ⟨[.b false],[]⟩
         else
          bif (o != G) then
           some ⟨[.b false],[]⟩
          else
           bif (!(p == H)) then
            some ⟨[.b false],[]⟩
           else
            bif (!(q == J)) then some ⟨[.b false],[]⟩ else some ⟨[.b true],[]⟩
theorem g7d (k:Nat) (a c d:Int) (e:LL) (f g h l m:Int) (n:LL) (o:Int) (p q:Bool) (t u w:Int) (x:LL) (y z A B C:Int) (D:LL) (F:Int) (G H:Bool):a0a E P0 (k+1) N.k3n [.v [.i a,.i c,.i d,.r e,.i f,.i g,.i h,.i l,.i m,.r n,.i o,.b p,.b q],.v [.i t,.i u,.i w,.r x,.i y,.i z,.i A,.i B,.i C,.r D,.i F,.b G,.b H]]=e1r k a c d e f g h l m n o p q t u w x y z A B C D F G H:=by kernel_rfl
def e1s (k:Nat) (a c d e:Int) (f:LL) (g h i l:Int) (m:LL):OO:=
 bif (a != g) then
  some ⟨[.b false],[]⟩
 else
  bif (c != h) then
   some ⟨[.b false],[]⟩
  else
   bif (d != i) then
    some ⟨[.b false],[]⟩
   else
    bif (e != l) then
     some ⟨[.b false],[]⟩
    else
     a0f (a0a E P0 k N.j6e [.v [.r f],.v [.r m]]) fun n=>
     bif (!(n.t 0).asB) then some ⟨[.b false],[]⟩ else some ⟨[.b true],[]⟩
theorem g7e (k:Nat) (a b c d:Int) (e:LL) (f g h l:Int) (m:LL):a0a E P0 (k+1) N.j8d [.v [.i a,.i b,.i c,.i d,.r e],.v [.i f,.i g,.i h,.i l,.r m]]=e1s k a b c d e f g h l m:=by kernel_rfl
def b6a (k:Nat) (c d:LL) (e:(Int)→OO):(Int)→OO:=fun a=>
 bif (decide (a<(c.length:Int))) then
  chk (decide (0≤a)&&decide (a<(c.length:Int))) <|
  chk (decide (0≤a)&&decide (a<(d.length:Int))) <|
  a0f (a0a E P0 k N.j8d [.v [.i (at_ c a.toNat 0).asI,.i (at_ c a.toNat 1).asI,.i (at_ c a.toNat 2).asI,.i (at_ c a.toNat 3).asI,.r (at_ c a.toNat 4).asR],.v [.i (at_ d a.toNat 0).asI,.i (at_ d a.toNat 1).asI,.i (at_ d a.toNat 2).asI,.i (at_ d a.toNat 3).asI,.r (at_ d a.toNat 4).asR]]) fun f=>
  bif (!(f.t 0).asB) then some ⟨[.b false],[]⟩ else e (W64 (a+1))
 else
  some ⟨[.b true],[]⟩
def f5b:List Nat:=[0,1,4,5]
def f5c (a c:LL):(Int)→St:=fun d=>⟨a3k [(0,.sl 92 a),(1,.sl 92 c),(4,.b false),(5,.i .i64 d)],a1e []⟩
def c4o (k:Nat) (a c:LL) (d:(Int)→OO):OO:=
 bif ((a.length:Int) != (c.length:Int)) then some ⟨[.b false],[]⟩ else d 0
def d6l (k:Nat) (a b:LL):OO:=
 c4o k a b (fun v=>a1i (b6a k a b) k v)
theorem g2t (k:Nat) (a c:LL):a0a E P0 (k+1) N.k3o [.v [.r a],.v [.r c]]=d6l k a c:=a1y [] [.sr,.sr,.sl,.sr,.bl] f5b (c4o k a c) (f5c a c) (b6a k a c) (by kernel_rfl) (fun j v=>by kernel_rfl)
def e1t (k:Nat) (a c d e:Int) (f:LL) (g:Int) (h:LL) (l m n o p:Int) (q:LL) (u:Int) (w:LL) (x:Int):OO:=
 a0f (a0a E P0 k N.j8d [.v [.i a,.i c,.i d,.i e,.r f],.v [.i m,.i n,.i o,.i p,.r q]]) fun y=>
 bif (!(y.t 0).asB) then
  some ⟨[.b false],[]⟩
 else
  bif (g != u) then
   some ⟨[.b false],[]⟩
  else
   a0f (a0a E P0 k N.j6e [.v [.r h],.v [.r w]]) fun z=>
   bif (!(z.t 0).asB) then
    some ⟨[.b false],[]⟩
   else
    bif (l != x) then some ⟨[.b false],[]⟩ else some ⟨[.b true],[]⟩
theorem g7f (k:Nat) (a b c d:Int) (e:LL) (f:Int) (g:LL) (h l m n o:Int) (p:LL) (q:Int) (t:LL) (u:Int):a0a E P0 (k+1) N.k3p [.v [.i a,.i b,.i c,.i d,.r e,.i f,.r g,.i h],.v [.i l,.i m,.i n,.i o,.r p,.i q,.r t,.i u]]=e1t k a b c d e f g h l m n o p q t u:=by kernel_rfl
def b6b (k:Nat) (c d:LL) (e:(Int)→OO):(Int)→OO:=fun a=>
 bif (decide (a<(c.length:Int))) then
  chk (decide (0≤a)&&decide (a<(c.length:Int))) <|
  chk (decide (0≤a)&&decide (a<(d.length:Int))) <|
  a0f (a0a E P0 k N.k3p [.v [.i (at_ c a.toNat 0).asI,.i (at_ c a.toNat 1).asI,.i (at_ c a.toNat 2).asI,.i (at_ c a.toNat 3).asI,.r (at_ c a.toNat 4).asR,.i (at_ c a.toNat 5).asI,.r (at_ c a.toNat 6).asR,.i (at_ c a.toNat 7).asI],.v [.i (at_ d a.toNat 0).asI,.i (at_ d a.toNat 1).asI,.i (at_ d a.toNat 2).asI,.i (at_ d a.toNat 3).asI,.r (at_ d a.toNat 4).asR,.i (at_ d a.toNat 5).asI,.r (at_ d a.toNat 6).asR,.i (at_ d a.toNat 7).asI]]) fun f=>
  bif (!(f.t 0).asB) then some ⟨[.b false],[]⟩ else e (W64 (a+1))
 else
  some ⟨[.b true],[]⟩
def f5d:List Nat:=[0,1,4,5]
def f5e (a c:LL):(Int)→St:=fun d=>⟨a3k [(0,.sl 95 a),(1,.sl 95 c),(4,.b false),(5,.i .i64 d)],a1e []⟩
def c4p (k:Nat) (a c:LL) (d:(Int)→OO):OO:=
 bif ((a.length:Int) != (c.length:Int)) then some ⟨[.b false],[]⟩ else d 0
def d6m (k:Nat) (a b:LL):OO:=
 c4p k a b (fun v=>a1i (b6b k a b) k v)
theorem g2u (k:Nat) (a c:LL):a0a E P0 (k+1) N.k3q [.v [.r a],.v [.r c]]=d6m k a c:=a1y [] [.sr,.sr,.sl,.sr,.bl] f5d (c4p k a c) (f5e a c) (b6b k a c) (by kernel_rfl) (fun j v=>by kernel_rfl)
def e1u (k:Nat) (a c:Int) (d:LL) (e f:Int) (g:LL):OO:=
 bif (a != e) then
  some ⟨[.b false],[]⟩
 else
  bif (c != f) then
   some ⟨[.b false],[]⟩
  else
   a0f (a0a E P0 k N.j6e [.v [.r d],.v [.r g]]) fun h=>
   bif (!(h.t 0).asB) then some ⟨[.b false],[]⟩ else some ⟨[.b true],[]⟩
theorem g7g (k:Nat) (a b:Int) (c:LL) (d e:Int) (f:LL):a0a E P0 (k+1) N.j9u [.v [.i a,.i b,.r c],.v [.i d,.i e,.r f]]=e1u k a b c d e f:=by kernel_rfl
def b6c (k:Nat) (c d:LL) (e:(Int)→OO):(Int)→OO:=fun a=>
 bif (decide (a<(c.length:Int))) then
  chk (decide (0≤a)&&decide (a<(c.length:Int))) <|
  chk (decide (0≤a)&&decide (a<(d.length:Int))) <|
  a0f (a0a E P0 k N.j9u [.v [.i (at_ c a.toNat 0).asI,.i (at_ c a.toNat 1).asI,.r (at_ c a.toNat 2).asR],.v [.i (at_ d a.toNat 0).asI,.i (at_ d a.toNat 1).asI,.r (at_ d a.toNat 2).asR]]) fun f=>
  bif (!(f.t 0).asB) then some ⟨[.b false],[]⟩ else e (W64 (a+1))
 else
  some ⟨[.b true],[]⟩
def f5f:List Nat:=[0,1,4,5]
def f5g (a c:LL):(Int)→St:=fun d=>⟨a3k [(0,.sl 96 a),(1,.sl 96 c),(4,.b false),(5,.i .i64 d)],a1e []⟩
def c4q (k:Nat) (a c:LL) (d:(Int)→OO):OO:=
 bif ((a.length:Int) != (c.length:Int)) then some ⟨[.b false],[]⟩ else d 0
def d6n (k:Nat) (a b:LL):OO:=
 c4q k a b (fun v=>a1i (b6c k a b) k v)
theorem g2v (k:Nat) (a c:LL):a0a E P0 (k+1) N.k3r [.v [.r a],.v [.r c]]=d6n k a c:=a1y [] [.sr,.sr,.sl,.sr,.bl] f5f (c4q k a c) (f5g a c) (b6c k a c) (by kernel_rfl) (fun j v=>by kernel_rfl)
def d6o (k:Nat) (a c d e:Int) (f:LL) (g h:Int) (l:LL) (m n o p:Int) (q:LL) (u w:Int) (x:LL):OO:=
 a0f (a0a E P0 k N.j8d [.v [.i a,.i c,.i d,.i e,.r f],.v [.i m,.i n,.i o,.i p,.r q]]) fun y=>
 bif (!(y.t 0).asB) then
  some ⟨[.b false],[]⟩
 else
  a0f (a0a E P0 k N.j9u [.v [.i g,.i h,.r l],.v [.i u,.i w,.r x]]) fun z=>
  bif (!(z.t 0).asB) then some ⟨[.b false],[]⟩ else some ⟨[.b true],[]⟩
theorem g2w (k:Nat) (a b c d:Int) (e:LL) (f g:Int) (h:LL) (l m n o:Int) (p:LL) (q t:Int) (u:LL):a0a E P0 (k+1) N.k3s [.v [.i a,.i b,.i c,.i d,.r e,.i f,.i g,.r h],.v [.i l,.i m,.i n,.i o,.r p,.i q,.i t,.r u]]=d6o k a b c d e f g h l m n o p q t u:=by kernel_rfl
def b3p (k:Nat) (c d:LL) (e:(Int)→OO):(Int)→OO:=fun a=>
 bif (decide (a<(c.length:Int))) then
  chk (decide (0≤a)&&decide (a<(c.length:Int))) <|
  chk (decide (0≤a)&&decide (a<(d.length:Int))) <|
  a0f (a0a E P0 k N.k3s [.v [.i (at_ c a.toNat 0).asI,.i (at_ c a.toNat 1).asI,.i (at_ c a.toNat 2).asI,.i (at_ c a.toNat 3).asI,.r (at_ c a.toNat 4).asR,.i (at_ c a.toNat 5).asI,.i (at_ c a.toNat 6).asI,.r (at_ c a.toNat 7).asR],.v [.i (at_ d a.toNat 0).asI,.i (at_ d a.toNat 1).asI,.i (at_ d a.toNat 2).asI,.i (at_ d a.toNat 3).asI,.r (at_ d a.toNat 4).asR,.i (at_ d a.toNat 5).asI,.i (at_ d a.toNat 6).asI,.r (at_ d a.toNat 7).asR]]) fun f=>
  bif (!(f.t 0).asB) then some ⟨[.b false],[]⟩ else e (W64 (a+1))
 else
  some ⟨[.b true],[]⟩
def e9q:List Nat:=[0,1,4,5]
def e9r (a c:LL):(Int)→St:=fun d=>⟨a3k [(0,.sl 99 a),(1,.sl 99 c),(4,.b false),(5,.i .i64 d)],a1e []⟩
def c2a (k:Nat) (a c:LL) (d:(Int)→OO):OO:=
 bif ((a.length:Int) != (c.length:Int)) then some ⟨[.b false],[]⟩ else d 0
def d1j (k:Nat) (a b:LL):OO:=
 c2a k a b (fun v=>a1i (b3p k a b) k v)
theorem f5h (k:Nat) (a c:LL):a0a E P0 (k+1) N.k3t [.v [.r a],.v [.r c]]=d1j k a c:=a1y [] [.sr,.sr,.sl,.sr,.bl] e9q (c2a k a c) (e9r a c) (b3p k a c) (by kernel_rfl) (fun j v=>by kernel_rfl)
def e1v (k:Nat) (a c d:Int) (e:LL) (f g h l m:Int) (n:LL) (o:Int) (p q:Bool) (u w x y:LL) (z A B:Int) (C:LL) (D F G H J:Int) (K:LL) (L:Int) (M O:Bool) (Q R S U:LL):OO:=
 a0f (a0a E P0 k N.k3n [.v [.i a,.i c,.i d,.r e,.i f,.i g,.i h,.i l,.i m,.r n,.i o,.b p,.b q],.v [.i z,.i A,.i B,.r C,.i D,.i F,.i G,.i H,.i J,.r K,.i L,.b M,.b O]]) fun V=>
 bif (!(V.t 0).asB) then
  some ⟨[.b false],[]⟩
 else
  a0f (a0a E P0 k N.k3o [.v [.r u],.v [.r Q]]) fun W=>
  bif (!(W.t 0).asB) then
   some ⟨[.b false],[]⟩
  else
   a0f (a0a E P0 k N.k3q [.v [.r w],.v [.r R]]) fun X=>
   bif (!(X.t 0).asB) then
    some ⟨[.b false],[]⟩
   else
    a0f (a0a E P0 k N.k3r [.v [.r x],.v [.r S]]) fun Y=>
    bif (!(Y.t 0).asB) then
     some ⟨[.b false],[]⟩
    else
     a0f (a0a E P0 k N.k3t [.v [.r y],.v [.r U]]) fun Z=>
     bif (!(Z.t 0).asB) then some ⟨[.b false],[]⟩ else some ⟨[.b true],[]⟩
theorem g7h (k:Nat) (a c d:Int) (e:LL) (f g h l m:Int) (n:LL) (o:Int) (p q:Bool) (t u w x:LL) (y z A:Int) (B:LL) (C D F G H:Int) (J:LL) (K:Int) (L M:Bool) (O Q R S:LL):a0a E P0 (k+1) N.j6r [.v [.i a,.i c,.i d,.r e,.i f,.i g,.i h,.i l,.i m,.r n,.i o,.b p,.b q,.r t,.r u,.r w,.r x],.v [.i y,.i z,.i A,.r B,.i C,.i D,.i F,.i G,.i H,.r J,.i K,.b L,.b M,.r O,.r Q,.r R,.r S]]=e1v k a c d e f g h l m n o p q t u w x y z A B C D F G H J K L M O Q R S:=by kernel_rfl
def b0q (k:Nat) (d:(V2_)→OO):(V2_)→OO:=fun (c,a,b)=>
 bif (decide (a<(b.length:Int))) then
  chk (decide (0≤a)&&decide (a<(b.length:Int))) <|
  d ((W64 (c+1)),(W64 (a+1)),(a0x b a.toNat 0 [.i c]))
 else
  some ⟨[.i c],[[.r b]]⟩
def e2x:List Nat:=[0,1,4,5,18]
def e2y:(V2_)→St:=fun (a,b,c)=>ST_ [(0,.ref (0,0)),(1,.w_ a),(4,.w_ 0),(5,.w_ b),(18,.skip)] [((0,0),.row 3 true c)]
def b9j (k:Nat) (a:LL) (b:Int) (c:(V2_)→OO):OO:=
 c (b,0,a)
def c7y (k:Nat) (a:LL) (b:Int):OO:=
 b9j k a b (fun v=>a1i (b0q k) k v)
theorem e9s (k:Nat) (a:LL) (c:Int):a0a E P0 (k+1) N.j5r [.r a,.v [.i c]]=c7y k a c:=a1y [0] [.sr,.sl,.sr,.bl] e2x (b9j k a c) (e2y) (b0q k) (by kernel_rfl) (fun j v=>by kernel_rfl)
def a8w (k:Nat) (e:(V2_)→OO):(V2_)→OO:=fun (c,a,b)=>
 bif (decide (a<(b.length:Int))) then
  chk (decide (0≤a)&&decide (a<(b.length:Int))) <|
  a0f (a0a E P0 k N.j5r [.r ((at_ b a.toNat 0).asR),.v [.i c]]) fun d=>
  e ((d.t 0).asI,(W64 (a+1)),(a0x b a.toNat 0 [.r ((d.vt 0 0).asR)]))
 else
  some ⟨[.i c],[[.r b]]⟩
def d8r:List Nat:=[0,1,4,5,18]
def d8s:(V2_)→St:=fun (a,b,c)=>SD_ [(0,.ref (0,0)),(1,.w_ a),(4,.w_ 0),(5,.w_ b),(18,.skip)] [((0,0),.deep 79 c none)]
def b6x (k:Nat) (a:LL) (b:Int) (c:(V2_)→OO):OO:=
 c (b,0,a)
def c5o (k:Nat) (a:LL) (b:Int):OO:=
 b6x k a b (fun v=>a1i (a8w k) k v)
theorem e2z (k:Nat) (a:LL) (c:Int):a0a E P0 (k+1) N.k3u [.r a,.v [.i c]]=c5o k a c:=a1y [0] [.sr,.sl,.sr,.bl] d8r (b6x k a c) (d8s) (a8w k) (by kernel_rfl) (fun j v=>by kernel_rfl)
def b3q (k:Nat) (e:(V2_)→OO):(V2_)→OO:=fun (c,a,b)=>
 bif (decide (a<(b.length:Int))) then
  chk (decide (0≤a)&&decide (a<(b.length:Int))) <|
  chk (decide (0≤a)&&decide (a<((a0x b a.toNat 0 [.i c]).length:Int))) <|
  a0f (a0a E P0 k N.j5r [.r ((at_ (a0x b a.toNat 0 [.i c]) a.toNat 1).asR),.v [.i (W64 (c+1))]]) fun d=>
  e ((d.t 0).asI,(W64 (a+1)),(a0x (a0x b a.toNat 0 [.i c]) a.toNat 1 [.r ((d.vt 0 0).asR)]))
 else
  some ⟨[.i c],[[.r b]]⟩
def e9t:List Nat:=[0,1,4,5,26]
def e9u:(V2_)→St:=fun (a,b,c)=>SD_ [(0,.ref (0,0)),(1,.w_ a),(4,.w_ 0),(5,.w_ b),(26,.skip)] [((0,0),.deep 157 c none)]
def c2b (k:Nat) (a:LL) (b:Int) (c:(V2_)→OO):OO:=
 c (b,0,a)
def d1k (k:Nat) (a:LL) (b:Int):OO:=
 c2b k a b (fun v=>a1i (b3q k) k v)
theorem f5i (k:Nat) (a:LL) (c:Int):a0a E P0 (k+1) N.k3v [.r a,.v [.i c]]=d1k k a c:=a1y [0] [.sr,.sl,.sr,.bl] e9t (c2b k a c) (e9u) (b3q k) (by kernel_rfl) (fun j v=>by kernel_rfl)
def b0r (k:Nat) (h:(V2_)→OO):(V2_)→OO:=fun (f,a,c)=>
 bif (decide (a<(c.length:Int))) then
  chk (decide (0≤a)&&decide (a<(c.length:Int))) <|
  a0f (a0a E P0 k N.k3u [.r ((at_ c a.toNat 0).asR),.v [.i f]]) fun e=>
  chk (decide (0≤a)&&decide (a<(c.length:Int))) <|
  a0f (a0a E P0 k N.k3v [.r ((at_ (a0x c a.toNat 0 [.r ((e.vt 0 0).asR)]) a.toNat 1).asR),.v [.i (e.t 0).asI]]) fun d=>
  chk (decide (0≤a)&&decide (a<((a0x c a.toNat 0 [.r ((e.vt 0 0).asR)]).length:Int))) <|
  chk (decide (0≤a)&&decide (a<((a0x (a0x (a0x c a.toNat 0 [.r ((e.vt 0 0).asR)]) a.toNat 1 [.r ((d.vt 0 0).asR)]) a.toNat 2 [.b ((Int.tmod (d.t 0).asI 3) == 0)]).length:Int))) <|
  a0f (a0a E P0 k N.j5r [.r ((at_ (a0x (a0x (a0x c a.toNat 0 [.r ((e.vt 0 0).asR)]) a.toNat 1 [.r ((d.vt 0 0).asR)]) a.toNat 2 [.b ((Int.tmod (d.t 0).asI 3) == 0)]) a.toNat 3).asR),.v [.i (W64 ((d.t 0).asI+1))]]) fun g=>
  h ((g.t 0).asI,(W64 (a+1)),(a0x (a0x (a0x (a0x c a.toNat 0 [.r ((e.vt 0 0).asR)]) a.toNat 1 [.r ((d.vt 0 0).asR)]) a.toNat 2 [.b ((Int.tmod (d.t 0).asI 3) == 0)]) a.toNat 3 [.r ((g.vt 0 0).asR)]))
 else
  some ⟨[.i f],[[.r c]]⟩
def e3a:List Nat:=[0,1,4,5,42]
def e3b:(V2_)→St:=fun (a,b,c)=>SD_ [(0,.ref (0,0)),(1,.w_ a),(4,.w_ 0),(5,.w_ b),(42,.skip)] [((0,0),.deep 134 c none)]
def b9k (k:Nat) (a:LL) (b:Int) (c:(V2_)→OO):OO:=
 c (b,0,a)
def c7z (k:Nat) (a:LL) (b:Int):OO:=
 b9k k a b (fun v=>a1i (b0r k) k v)
theorem e9v (k:Nat) (a:LL) (c:Int):a0a E P0 (k+1) N.k3w [.r a,.v [.i c]]=c7z k a c:=a1y [0] [.sr,.sl,.sr,.bl] e3a (b9k k a c) (e3b) (b0r k) (by kernel_rfl) (fun j v=>by kernel_rfl)
def b0s (k:Nat) (e:(V2_)→OO):(V2_)→OO:=fun (c,a,b)=>
 bif (decide (a<(b.length:Int))) then
  chk (decide (0≤a)&&decide (a<(b.length:Int))) <|
  chk (decide (0≤a)&&decide (a<((a0x b a.toNat 0 [.i c]).length:Int))) <|
  a0f (a0a E P0 k N.j5r [.r ((at_ (a0x b a.toNat 0 [.i c]) a.toNat 1).asR),.v [.i (W64 (c+1))]]) fun d=>
  e ((d.t 0).asI,(W64 (a+1)),(a0x (a0x b a.toNat 0 [.i c]) a.toNat 1 [.r ((d.vt 0 0).asR)]))
 else
  some ⟨[.i c],[[.r b]]⟩
def e3c:List Nat:=[0,1,4,5,26]
def e3d:(V2_)→St:=fun (a,b,c)=>SD_ [(0,.ref (0,0)),(1,.w_ a),(4,.w_ 0),(5,.w_ b),(26,.skip)] [((0,0),.deep 136 c none)]
def b9l (k:Nat) (a:LL) (b:Int) (c:(V2_)→OO):OO:=
 c (b,0,a)
def c8a (k:Nat) (a:LL) (b:Int):OO:=
 b9l k a b (fun v=>a1i (b0s k) k v)
theorem e9w (k:Nat) (a:LL) (c:Int):a0a E P0 (k+1) N.k3x [.r a,.v [.i c]]=c8a k a c:=a1y [0] [.sr,.sl,.sr,.bl] e3c (b9l k a c) (e3d) (b0s k) (by kernel_rfl) (fun j v=>by kernel_rfl)
def d1l (k:Nat) (d e f:Int) (g:LL) (h l m n o:Int) (p:LL) (q:Int) (u w:Bool) (x:Int):OO:=
 BK_ k N.k3w [.r g,vi_ x] fun a=>
 BK_ k N.k3x [.r p,vi_ (a.t 0).asI] fun c=>
 some ⟨[.i (c.t 0).asI],[[.i d,.i e,.i f,.r (a.vt 0 0).asR,.i h,.i l,.i m,.i n,.i o,.r (c.vt 0 0).asR,.i q,.b u,.b w]]⟩
theorem f5j (k:Nat) (a c d:Int) (e:LL) (f g h l m:Int) (n:LL) (o:Int) (p q:Bool) (t:Int):a0a E P0 (k+1) N.k3y [.s (S0_ a c d e f g h l m n o p q),vi_ t]=d1l k a c d e f g h l m n o p q t:=by kernel_rfl
def b0t (k:Nat) (e:(V2_)→OO):(V2_)→OO:=fun (b,a,c)=>
 bif (decide (a<(c.length:Int))) then
  chk (decide (0≤a)&&decide (a<(c.length:Int))) <|
  chk (decide (0≤a)&&decide (a<((a0x c a.toNat 0 [.i b]).length:Int))) <|
  chk (decide (0≤a)&&decide (a<((a0x (a0x c a.toNat 0 [.i b]) a.toNat 1 [.i (W64 (b+1))]).length:Int))) <|
  chk (decide (0≤a)&&decide (a<((a0x (a0x (a0x c a.toNat 0 [.i b]) a.toNat 1 [.i (W64 (b+1))]) a.toNat 2 [.i (W64 ((W64 (b+1))+1))]).length:Int))) <|
  chk (decide (0≤a)&&decide (a<((a0x (a0x (a0x (a0x c a.toNat 0 [.i b]) a.toNat 1 [.i (W64 (b+1))]) a.toNat 2 [.i (W64 ((W64 (b+1))+1))]) a.toNat 3 [.i (W64 ((W64 ((W64 (b+1))+1))+1))]).length:Int))) <|
  a0f (a0a E P0 k N.j5r [.r ((at_ (a0x (a0x (a0x (a0x c a.toNat 0 [.i b]) a.toNat 1 [.i (W64 (b+1))]) a.toNat 2 [.i (W64 ((W64 (b+1))+1))]) a.toNat 3 [.i (W64 ((W64 ((W64 (b+1))+1))+1))]) a.toNat 4).asR),.v [.i (W64 ((W64 ((W64 ((W64 (b+1))+1))+1))+1))]]) fun d=>
  e ((d.t 0).asI,(W64 (a+1)),(a0x (a0x (a0x (a0x (a0x c a.toNat 0 [.i b]) a.toNat 1 [.i (W64 (b+1))]) a.toNat 2 [.i (W64 ((W64 (b+1))+1))]) a.toNat 3 [.i (W64 ((W64 ((W64 (b+1))+1))+1))]) a.toNat 4 [.r ((d.vt 0 0).asR)]))
 else
  some ⟨[.i b],[[.r c]]⟩
def e3e:List Nat:=[0,1,4,5,47]
def e3f:(V2_)→St:=fun (a,b,c)=>SD_ [(0,.ref (0,0)),(1,.w_ a),(4,.w_ 0),(5,.w_ b),(47,.skip)] [((0,0),.deep 92 c none)]
def b9m (k:Nat) (a:LL) (b:Int) (c:(V2_)→OO):OO:=
 c (b,0,a)
def c8b (k:Nat) (a:LL) (b:Int):OO:=
 b9m k a b (fun v=>a1i (b0t k) k v)
theorem e9x (k:Nat) (a:LL) (c:Int):a0a E P0 (k+1) N.k3z [.r a,.v [.i c]]=c8b k a c:=a1y [0] [.sr,.sl,.sr,.bl] e3e (b9m k a c) (e3f) (b0t k) (by kernel_rfl) (fun j v=>by kernel_rfl)
def b0u (k:Nat) (f:(V2_)→OO):(V2_)→OO:=fun (b,a,c)=>
 bif (decide (a<(c.length:Int))) then
  chk (decide (0≤a)&&decide (a<(c.length:Int))) <|
  chk (decide (0≤a)&&decide (a<((a0x c a.toNat 0 [.i b]).length:Int))) <|
  chk (decide (0≤a)&&decide (a<((a0x (a0x c a.toNat 0 [.i b]) a.toNat 1 [.i (W64 (b+1))]).length:Int))) <|
  chk (decide (0≤a)&&decide (a<((a0x (a0x (a0x c a.toNat 0 [.i b]) a.toNat 1 [.i (W64 (b+1))]) a.toNat 2 [.i (W64 ((W64 (b+1))+1))]).length:Int))) <|
  chk (decide (0≤a)&&decide (a<((a0x (a0x (a0x (a0x c a.toNat 0 [.i b]) a.toNat 1 [.i (W64 (b+1))]) a.toNat 2 [.i (W64 ((W64 (b+1))+1))]) a.toNat 3 [.i (W64 ((W64 ((W64 (b+1))+1))+1))]).length:Int))) <|
  a0f (a0a E P0 k N.j5r [.r ((at_ (a0x (a0x (a0x (a0x c a.toNat 0 [.i b]) a.toNat 1 [.i (W64 (b+1))]) a.toNat 2 [.i (W64 ((W64 (b+1))+1))]) a.toNat 3 [.i (W64 ((W64 ((W64 (b+1))+1))+1))]) a.toNat 4).asR),.v [.i (W64 ((W64 ((W64 ((W64 (b+1))+1))+1))+1))]]) fun d=>
  chk (decide (0≤a)&&decide (a<((a0x (a0x (a0x (a0x c a.toNat 0 [.i b]) a.toNat 1 [.i (W64 (b+1))]) a.toNat 2 [.i (W64 ((W64 (b+1))+1))]) a.toNat 3 [.i (W64 ((W64 ((W64 (b+1))+1))+1))]).length:Int))) <|
  chk (decide (0≤a)&&decide (a<((a0x (a0x (a0x (a0x (a0x (a0x c a.toNat 0 [.i b]) a.toNat 1 [.i (W64 (b+1))]) a.toNat 2 [.i (W64 ((W64 (b+1))+1))]) a.toNat 3 [.i (W64 ((W64 ((W64 (b+1))+1))+1))]) a.toNat 4 [.r ((d.vt 0 0).asR)]) a.toNat 5 [.i (d.t 0).asI]).length:Int))) <|
  a0f (a0a E P0 k N.j5r [.r ((at_ (a0x (a0x (a0x (a0x (a0x (a0x c a.toNat 0 [.i b]) a.toNat 1 [.i (W64 (b+1))]) a.toNat 2 [.i (W64 ((W64 (b+1))+1))]) a.toNat 3 [.i (W64 ((W64 ((W64 (b+1))+1))+1))]) a.toNat 4 [.r ((d.vt 0 0).asR)]) a.toNat 5 [.i (d.t 0).asI]) a.toNat 6).asR),.v [.i (W64 ((d.t 0).asI+1))]]) fun e=>
  chk (decide (0≤a)&&decide (a<((a0x (a0x (a0x (a0x (a0x (a0x c a.toNat 0 [.i b]) a.toNat 1 [.i (W64 (b+1))]) a.toNat 2 [.i (W64 ((W64 (b+1))+1))]) a.toNat 3 [.i (W64 ((W64 ((W64 (b+1))+1))+1))]) a.toNat 4 [.r ((d.vt 0 0).asR)]) a.toNat 5 [.i (d.t 0).asI]).length:Int))) <|
  f ((W64 ((e.t 0).asI+1)),(W64 (a+1)),(a0x (a0x (a0x (a0x (a0x (a0x (a0x (a0x c a.toNat 0 [.i b]) a.toNat 1 [.i (W64 (b+1))]) a.toNat 2 [.i (W64 ((W64 (b+1))+1))]) a.toNat 3 [.i (W64 ((W64 ((W64 (b+1))+1))+1))]) a.toNat 4 [.r ((d.vt 0 0).asR)]) a.toNat 5 [.i (d.t 0).asI]) a.toNat 6 [.r ((e.vt 0 0).asR)]) a.toNat 7 [.i (e.t 0).asI]))
 else
  some ⟨[.i b],[[.r c]]⟩
def e3g:List Nat:=[0,1,4,5,73]
def e3h:(V2_)→St:=fun (a,b,c)=>SD_ [(0,.ref (0,0)),(1,.w_ a),(4,.w_ 0),(5,.w_ b),(73,.skip)] [((0,0),.deep 95 c none)]
def b9n (k:Nat) (a:LL) (b:Int) (c:(V2_)→OO):OO:=
 c (b,0,a)
def c8c (k:Nat) (a:LL) (b:Int):OO:=
 b9n k a b (fun v=>a1i (b0u k) k v)
theorem e9y (k:Nat) (a:LL) (c:Int):a0a E P0 (k+1) N.k4a [.r a,.v [.i c]]=c8c k a c:=a1y [0] [.sr,.sl,.sr,.bl] e3g (b9n k a c) (e3h) (b0u k) (by kernel_rfl) (fun j v=>by kernel_rfl)
def b0v (k:Nat) (e:(V2_)→OO):(V2_)→OO:=fun (b,a,c)=>
 bif (decide (a<(c.length:Int))) then
  chk (decide (0≤a)&&decide (a<(c.length:Int))) <|
  chk (decide (0≤a)&&decide (a<((a0x c a.toNat 0 [.i b]).length:Int))) <|
  chk (decide (0≤a)&&decide (a<((a0x (a0x c a.toNat 0 [.i b]) a.toNat 1 [.i (W64 (b+1))]).length:Int))) <|
  a0f (a0a E P0 k N.j5r [.r ((at_ (a0x (a0x c a.toNat 0 [.i b]) a.toNat 1 [.i (W64 (b+1))]) a.toNat 2).asR),.v [.i (W64 ((W64 (b+1))+1))]]) fun d=>
  e ((d.t 0).asI,(W64 (a+1)),(a0x (a0x (a0x c a.toNat 0 [.i b]) a.toNat 1 [.i (W64 (b+1))]) a.toNat 2 [.r ((d.vt 0 0).asR)]))
 else
  some ⟨[.i b],[[.r c]]⟩
def e3i:List Nat:=[0,1,4,5,33]
def e3j:(V2_)→St:=fun (a,b,c)=>SD_ [(0,.ref (0,0)),(1,.w_ a),(4,.w_ 0),(5,.w_ b),(33,.skip)] [((0,0),.deep 96 c none)]
def b9o (k:Nat) (a:LL) (b:Int) (c:(V2_)→OO):OO:=
 c (b,0,a)
def c8d (k:Nat) (a:LL) (b:Int):OO:=
 b9o k a b (fun v=>a1i (b0v k) k v)
theorem e9z (k:Nat) (a:LL) (c:Int):a0a E P0 (k+1) N.k4b [.r a,.v [.i c]]=c8d k a c:=a1y [0] [.sr,.sl,.sr,.bl] e3i (b9o k a c) (e3j) (b0v k) (by kernel_rfl) (fun j v=>by kernel_rfl)
def a8x (k:Nat) (f:(V2_)→OO):(V2_)→OO:=fun (b,a,c)=>
 bif (decide (a<(c.length:Int))) then
  chk (decide (0≤a)&&decide (a<(c.length:Int))) <|
  chk (decide (0≤a)&&decide (a<((a0x c a.toNat 0 [.i b]).length:Int))) <|
  chk (decide (0≤a)&&decide (a<((a0x (a0x c a.toNat 0 [.i b]) a.toNat 1 [.i (W64 (b+1))]).length:Int))) <|
  chk (decide (0≤a)&&decide (a<((a0x (a0x (a0x c a.toNat 0 [.i b]) a.toNat 1 [.i (W64 (b+1))]) a.toNat 2 [.i (W64 ((W64 (b+1))+1))]).length:Int))) <|
  chk (decide (0≤a)&&decide (a<((a0x (a0x (a0x (a0x c a.toNat 0 [.i b]) a.toNat 1 [.i (W64 (b+1))]) a.toNat 2 [.i (W64 ((W64 (b+1))+1))]) a.toNat 3 [.i (W64 ((W64 ((W64 (b+1))+1))+1))]).length:Int))) <|
  a0f (a0a E P0 k N.j5r [.r ((at_ (a0x (a0x (a0x (a0x c a.toNat 0 [.i b]) a.toNat 1 [.i (W64 (b+1))]) a.toNat 2 [.i (W64 ((W64 (b+1))+1))]) a.toNat 3 [.i (W64 ((W64 ((W64 (b+1))+1))+1))]) a.toNat 4).asR),.v [.i (W64 ((W64 ((W64 ((W64 (b+1))+1))+1))+1))]]) fun d=>
  chk (decide (0≤a)&&decide (a<((a0x (a0x (a0x (a0x c a.toNat 0 [.i b]) a.toNat 1 [.i (W64 (b+1))]) a.toNat 2 [.i (W64 ((W64 (b+1))+1))]) a.toNat 3 [.i (W64 ((W64 ((W64 (b+1))+1))+1))]).length:Int))) <|
  chk (decide (0≤a)&&decide (a<((a0x (a0x (a0x (a0x (a0x (a0x c a.toNat 0 [.i b]) a.toNat 1 [.i (W64 (b+1))]) a.toNat 2 [.i (W64 ((W64 (b+1))+1))]) a.toNat 3 [.i (W64 ((W64 ((W64 (b+1))+1))+1))]) a.toNat 4 [.r ((d.vt 0 0).asR)]) a.toNat 5 [.i (d.t 0).asI]).length:Int))) <|
  chk (decide (0≤a)&&decide (a<((a0x (a0x (a0x (a0x (a0x (a0x (a0x c a.toNat 0 [.i b]) a.toNat 1 [.i (W64 (b+1))]) a.toNat 2 [.i (W64 ((W64 (b+1))+1))]) a.toNat 3 [.i (W64 ((W64 ((W64 (b+1))+1))+1))]) a.toNat 4 [.r ((d.vt 0 0).asR)]) a.toNat 5 [.i (d.t 0).asI]) a.toNat 6 [.i (W64 ((d.t 0).asI+1))]).length:Int))) <|
  a0f (a0a E P0 k N.j5r [.r ((at_ (a0x (a0x (a0x (a0x (a0x (a0x (a0x c a.toNat 0 [.i b]) a.toNat 1 [.i (W64 (b+1))]) a.toNat 2 [.i (W64 ((W64 (b+1))+1))]) a.toNat 3 [.i (W64 ((W64 ((W64 (b+1))+1))+1))]) a.toNat 4 [.r ((d.vt 0 0).asR)]) a.toNat 5 [.i (d.t 0).asI]) a.toNat 6 [.i (W64 ((d.t 0).asI+1))]) a.toNat 7).asR),.v [.i (W64 ((W64 ((d.t 0).asI+1))+1))]]) fun e=>
  f ((e.t 0).asI,(W64 (a+1)),(a0x (a0x (a0x (a0x (a0x (a0x (a0x (a0x c a.toNat 0 [.i b]) a.toNat 1 [.i (W64 (b+1))]) a.toNat 2 [.i (W64 ((W64 (b+1))+1))]) a.toNat 3 [.i (W64 ((W64 ((W64 (b+1))+1))+1))]) a.toNat 4 [.r ((d.vt 0 0).asR)]) a.toNat 5 [.i (d.t 0).asI]) a.toNat 6 [.i (W64 ((d.t 0).asI+1))]) a.toNat 7 [.r ((e.vt 0 0).asR)]))
 else
  some ⟨[.i b],[[.r c]]⟩
def d8t:List Nat:=[0,1,4,5,76]
def d8u:(V2_)→St:=fun (a,b,c)=>SD_ [(0,.ref (0,0)),(1,.w_ a),(4,.w_ 0),(5,.w_ b),(76,.skip)] [((0,0),.deep 99 c none)]
def b6y (k:Nat) (a:LL) (b:Int) (c:(V2_)→OO):OO:=
 c (b,0,a)
def c5p (k:Nat) (a:LL) (b:Int):OO:=
 b6y k a b (fun v=>a1i (a8x k) k v)
theorem e3k (k:Nat) (a:LL) (c:Int):a0a E P0 (k+1) N.k4c [.r a,.v [.i c]]=c5p k a c:=a1y [0] [.sr,.sl,.sr,.bl] d8t (b6y k a c) (d8u) (a8x k) (by kernel_rfl) (fun j v=>by kernel_rfl)
def d1m (k:Nat) (c d e:Int) (y:LL) (f g h l m:Int) (z:LL) (n:Int) (o p:Bool) (A B C D:LL) (F:Int):OO:=
 BK_ k N.k3y [.s (S0_ c d e y f g h l m z n o p),vi_ F] fun a=>
 BK_ k N.k3z [.r A,vi_ (a.t 0).asI] fun q=>
 BK_ k N.k4a [.r B,vi_ (q.t 0).asI] fun u=>
 BK_ k N.k4b [.r C,vi_ (u.t 0).asI] fun w=>
 BK_ k N.k4c [.r D,vi_ (w.t 0).asI] fun x=>
 some ⟨[.i (x.t 0).asI],[[.i c,.i d,.i e,.r (a.vt 0 3).asR,.i f,.i g,.i h,.i l,.i m,.r (a.vt 0 9).asR,.i n,.b o,.b p,.r (q.vt 0 0).asR,.r (u.vt 0 0).asR,.r (w.vt 0 0).asR,.r (x.vt 0 0).asR]]⟩
theorem f5k (k:Nat) (a c d:Int) (e:LL) (f g h l m:Int) (n:LL) (o:Int) (p q:Bool) (t u w x:LL) (y:Int):a0a E P0 (k+1) N.j9v [.s (S1_ a c d e f g h l m n o p q t u w x),vi_ y]=d1m k a c d e f g h l m n o p q t u w x y:=by kernel_rfl
def b0w (k:Nat) (b:LL) (d:(V1_)→OO):(V1_)→OO:=fun (c,a)=>
 bif (decide (a<(b.length:Int))) then
  chk (decide (0≤a)&&decide (a<(b.length:Int))) <|
  bif ((at_ b a.toNat 0).asI != c) then
   some ⟨[.i (-1)],[]⟩
  else
   d ((W64 (c+1)),(W64 (a+1)))
 else
  some ⟨[.i c],[]⟩
def e3l:List Nat:=[0,1,4,5,20]
def e3m (a:LL):(V1_)→St:=fun (b,c)=>⟨a3k [(0,.sl 3 a),(1,.i .i64 b),(4,.i .i64 0),(5,.i .i64 c),(20,.skip)],a1e []⟩
def b9p (k:Nat) (c:LL) (a:Int) (b:(V1_)→OO):OO:=
 b (a,0)
def c8e (k:Nat) (a:LL) (b:Int):OO:=
 b9p k a b (fun v=>a1i (b0w k a) k v)
theorem f0a (k:Nat) (a:LL) (c:Int):a0a E P0 (k+1) N.j5s [.v [.r a],.v [.i c]]=c8e k a c:=a1y [] [.sr,.sl,.sr,.bl] e3l (b9p k a c) (e3m a) (b0w k a) (by kernel_rfl) (fun j v=>by kernel_rfl)
def a8y (k:Nat) (b:LL) (e:(V1_)→OO):(V1_)→OO:=fun (c,a)=>
 bif (decide (a<(b.length:Int))) then
  chk (decide (0≤a)&&decide (a<(b.length:Int))) <|
  a0f (a0a E P0 k N.j5s [.v [.r (at_ b a.toNat 0).asR],.v [.i c]]) fun d=>
  bif (decide ((d.t 0).asI<0)) then some ⟨[.i (-1)],[]⟩ else e ((d.t 0).asI,(W64 (a+1)))
 else
  some ⟨[.i c],[]⟩
def d8v:List Nat:=[0,1,4,5,20]
def d8w (a:LL):(V1_)→St:=fun (b,c)=>⟨a3k [(0,.sl 79 a),(1,.i .i64 b),(4,.i .i64 0),(5,.i .i64 c),(20,.skip)],a1e []⟩
def b6z (k:Nat) (c:LL) (a:Int) (b:(V1_)→OO):OO:=
 b (a,0)
def c5q (k:Nat) (a:LL) (b:Int):OO:=
 b6z k a b (fun v=>a1i (a8y k a) k v)
theorem e3n (k:Nat) (a:LL) (c:Int):a0a E P0 (k+1) N.k4d [.v [.r a],.v [.i c]]=c5q k a c:=a1y [] [.sr,.sl,.sr,.bl] d8v (b6z k a c) (d8w a) (a8y k a) (by kernel_rfl) (fun j v=>by kernel_rfl)
def b3r (k:Nat) (b:LL) (e:(V1_)→OO):(V1_)→OO:=fun (c,a)=>
 bif (decide (a<(b.length:Int))) then
  chk (decide (0≤a)&&decide (a<(b.length:Int))) <|
  bif ((at_ b a.toNat 0).asI != c) then
   some ⟨[.i (-1)],[]⟩
  else
   chk (decide (0≤a)&&decide (a<(b.length:Int))) <|
   a0f (a0a E P0 k N.j5s [.v [.r (at_ b a.toNat 1).asR],.v [.i (W64 (c+1))]]) fun d=>
   bif (decide ((d.t 0).asI<0)) then some ⟨[.i (-1)],[]⟩ else e ((d.t 0).asI,(W64 (a+1)))
 else
  some ⟨[.i c],[]⟩
def f0b:List Nat:=[0,1,4,5,30]
def f0c (a:LL):(V1_)→St:=fun (b,c)=>⟨a3k [(0,.sl 157 a),(1,.i .i64 b),(4,.i .i64 0),(5,.i .i64 c),(30,.skip)],a1e []⟩
def c2c (k:Nat) (c:LL) (a:Int) (b:(V1_)→OO):OO:=
 b (a,0)
def d1n (k:Nat) (a:LL) (b:Int):OO:=
 c2c k a b (fun v=>a1i (b3r k a) k v)
theorem f5l (k:Nat) (a:LL) (c:Int):a0a E P0 (k+1) N.k4e [.v [.r a],.v [.i c]]=d1n k a c:=a1y [] [.sr,.sl,.sr,.bl] f0b (c2c k a c) (f0c a) (b3r k a) (by kernel_rfl) (fun j v=>by kernel_rfl)
def b0x (k:Nat) (b:LL) (g:(V1_)→OO):(V1_)→OO:=fun (d,a)=>
 bif (decide (a<(b.length:Int))) then
  chk (decide (0≤a)&&decide (a<(b.length:Int))) <|
  a0f (a0a E P0 k N.k4d [.v [.r (at_ b a.toNat 0).asR],.v [.i d]]) fun e=>
  bif (decide ((e.t 0).asI<0)) then
   some ⟨[.i (-1)],[]⟩
  else
   chk (decide (0≤a)&&decide (a<(b.length:Int))) <|
   a0f (a0a E P0 k N.k4e [.v [.r (at_ b a.toNat 1).asR],.v [.i (e.t 0).asI]]) fun c=>
   bif (decide ((c.t 0).asI<0)) then
    some ⟨[.i (-1)],[]⟩
   else
    chk (decide (0≤a)&&decide (a<(b.length:Int))) <|
    bif (!((at_ b a.toNat 2).asB == ((Int.tmod (c.t 0).asI 3) == 0))) then
     some ⟨[.i (-1)],[]⟩
    else
     chk (decide (0≤a)&&decide (a<(b.length:Int))) <|
     a0f (a0a E P0 k N.j5s [.v [.r (at_ b a.toNat 3).asR],.v [.i (W64 ((c.t 0).asI+1))]]) fun f=>
     bif (decide ((f.t 0).asI<0)) then some ⟨[.i (-1)],[]⟩ else g ((f.t 0).asI,(W64 (a+1)))
 else
  some ⟨[.i d],[]⟩
def e3o:List Nat:=[0,1,4,5,50]
def e3p (a:LL):(V1_)→St:=fun (b,c)=>⟨a3k [(0,.sl 134 a),(1,.i .i64 b),(4,.i .i64 0),(5,.i .i64 c),(50,.skip)],a1e []⟩
def b9q (k:Nat) (c:LL) (a:Int) (b:(V1_)→OO):OO:=
 b (a,0)
def c8f (k:Nat) (a:LL) (b:Int):OO:=
 b9q k a b (fun v=>a1i (b0x k a) k v)
theorem f0d (k:Nat) (a:LL) (c:Int):a0a E P0 (k+1) N.k4f [.v [.r a],.v [.i c]]=c8f k a c:=a1y [] [.sr,.sl,.sr,.bl] e3o (b9q k a c) (e3p a) (b0x k a) (by kernel_rfl) (fun j v=>by kernel_rfl)
def b0y (k:Nat) (b:LL) (e:(V1_)→OO):(V1_)→OO:=fun (c,a)=>
 bif (decide (a<(b.length:Int))) then
  chk (decide (0≤a)&&decide (a<(b.length:Int))) <|
  bif ((at_ b a.toNat 0).asI != c) then
   some ⟨[.i (-1)],[]⟩
  else
   chk (decide (0≤a)&&decide (a<(b.length:Int))) <|
   a0f (a0a E P0 k N.j5s [.v [.r (at_ b a.toNat 1).asR],.v [.i (W64 (c+1))]]) fun d=>
   bif (decide ((d.t 0).asI<0)) then some ⟨[.i (-1)],[]⟩ else e ((d.t 0).asI,(W64 (a+1)))
 else
  some ⟨[.i c],[]⟩
def e3q:List Nat:=[0,1,4,5,30]
def e3r (a:LL):(V1_)→St:=fun (b,c)=>⟨a3k [(0,.sl 136 a),(1,.i .i64 b),(4,.i .i64 0),(5,.i .i64 c),(30,.skip)],a1e []⟩
def b9r (k:Nat) (c:LL) (a:Int) (b:(V1_)→OO):OO:=
 b (a,0)
def c8g (k:Nat) (a:LL) (b:Int):OO:=
 b9r k a b (fun v=>a1i (b0y k a) k v)
theorem f0e (k:Nat) (a:LL) (c:Int):a0a E P0 (k+1) N.k4g [.v [.r a],.v [.i c]]=c8g k a c:=a1y [] [.sr,.sl,.sr,.bl] e3q (b9r k a c) (e3r a) (b0y k a) (by kernel_rfl) (fun j v=>by kernel_rfl)
def d1o (k:Nat) (f g h:Int) (c:LL) (l m n o p:Int) (d:LL) (q:Int) (u w:Bool) (e:Int):OO:=
 BK_ k N.k4f [vr_ c,vi_ e] fun a=>
 bif (decide ((a.t 0).asI<0)) then
  so_ [.i (-1)]
 else
  BK_ k N.k4g [vr_ d,vi_ (a.t 0).asI] fun b=>
  bif (decide ((b.t 0).asI<0)) then so_ [.i (-1)] else so_ [.i (b.t 0).asI]
theorem f5m (k:Nat) (a c d:Int) (e:LL) (f g h l m:Int) (n:LL) (o:Int) (p q:Bool) (t:Int):a0a E P0 (k+1) N.k4h [.v (S0_ a c d e f g h l m n o p q),vi_ t]=d1o k a c d e f g h l m n o p q t:=by kernel_rfl
def b0z (k:Nat) (b:LL) (e:(V1_)→OO):(V1_)→OO:=fun (c,a)=>
 bif (decide (a<(b.length:Int))) then
  chk (decide (0≤a)&&decide (a<(b.length:Int))) <|
  bif ((at_ b a.toNat 0).asI != c) then
   some ⟨[.i (-1)],[]⟩
  else
   chk (decide (0≤a)&&decide (a<(b.length:Int))) <|
   bif ((at_ b a.toNat 1).asI != (W64 (c+1))) then
    some ⟨[.i (-1)],[]⟩
   else
    chk (decide (0≤a)&&decide (a<(b.length:Int))) <|
    bif ((at_ b a.toNat 2).asI != (W64 ((W64 (c+1))+1))) then
     some ⟨[.i (-1)],[]⟩
    else
     chk (decide (0≤a)&&decide (a<(b.length:Int))) <|
     bif ((at_ b a.toNat 3).asI != (W64 ((W64 ((W64 (c+1))+1))+1))) then
      some ⟨[.i (-1)],[]⟩
     else
      chk (decide (0≤a)&&decide (a<(b.length:Int))) <|
      a0f (a0a E P0 k N.j5s [.v [.r (at_ b a.toNat 4).asR],.v [.i (W64 ((W64 ((W64 ((W64 (c+1))+1))+1))+1))]]) fun d=>
      bif (decide ((d.t 0).asI<0)) then some ⟨[.i (-1)],[]⟩ else e ((d.t 0).asI,(W64 (a+1)))
 else
  some ⟨[.i c],[]⟩
def e3s:List Nat:=[0,1,4,5,57]
def e3t (a:LL):(V1_)→St:=fun (b,c)=>⟨a3k [(0,.sl 92 a),(1,.i .i64 b),(4,.i .i64 0),(5,.i .i64 c),(57,.skip)],a1e []⟩
def b9s (k:Nat) (c:LL) (a:Int) (b:(V1_)→OO):OO:=
 b (a,0)
def c8h (k:Nat) (a:LL) (b:Int):OO:=
 b9s k a b (fun v=>a1i (b0z k a) k v)
theorem f0f (k:Nat) (a:LL) (c:Int):a0a E P0 (k+1) N.k4i [.v [.r a],.v [.i c]]=c8h k a c:=a1y [] [.sr,.sl,.sr,.bl] e3s (b9s k a c) (e3t a) (b0z k a) (by kernel_rfl) (fun j v=>by kernel_rfl)
def b1a (k:Nat) (b:LL) (f:(V1_)→OO):(V1_)→OO:=fun (c,a)=>
 bif (decide (a<(b.length:Int))) then
  chk (decide (0≤a)&&decide (a<(b.length:Int))) <|
  bif ((at_ b a.toNat 0).asI != c) then
   some ⟨[.i (-1)],[]⟩
  else
   chk (decide (0≤a)&&decide (a<(b.length:Int))) <|
   bif ((at_ b a.toNat 1).asI != (W64 (c+1))) then
    some ⟨[.i (-1)],[]⟩
   else
    chk (decide (0≤a)&&decide (a<(b.length:Int))) <|
    bif ((at_ b a.toNat 2).asI != (W64 ((W64 (c+1))+1))) then
     some ⟨[.i (-1)],[]⟩
    else
     chk (decide (0≤a)&&decide (a<(b.length:Int))) <|
     bif ((at_ b a.toNat 3).asI != (W64 ((W64 ((W64 (c+1))+1))+1))) then
      some ⟨[.i (-1)],[]⟩
     else
      chk (decide (0≤a)&&decide (a<(b.length:Int))) <|
      a0f (a0a E P0 k N.j5s [.v [.r (at_ b a.toNat 4).asR],.v [.i (W64 ((W64 ((W64 ((W64 (c+1))+1))+1))+1))]]) fun d=>
      bif (decide ((d.t 0).asI<0)) then
       some ⟨[.i (-1)],[]⟩
      else
       chk (decide (0≤a)&&decide (a<(b.length:Int))) <|
       bif ((at_ b a.toNat 5).asI != (d.t 0).asI) then
        some ⟨[.i (-1)],[]⟩
       else
        chk (decide (0≤a)&&decide (a<(b.length:Int))) <|
        a0f (a0a E P0 k N.j5s [.v [.r (at_ b a.toNat 6).asR],.v [.i (W64 ((d.t 0).asI+1))]]) fun e=>
        bif (decide ((e.t 0).asI<0)) then
         some ⟨[.i (-1)],[]⟩
        else
         chk (decide (0≤a)&&decide (a<(b.length:Int))) <|
         bif ((at_ b a.toNat 7).asI != (e.t 0).asI) then
          some ⟨[.i (-1)],[]⟩
         else
          f ((W64 ((e.t 0).asI+1)),(W64 (a+1)))
 else
  some ⟨[.i c],[]⟩
def e3u:List Nat:=[0,1,4,5,89]
def e3v (a:LL):(V1_)→St:=fun (b,c)=>⟨a3k [(0,.sl 95 a),(1,.i .i64 b),(4,.i .i64 0),(5,.i .i64 c),(89,.skip)],a1e []⟩
def b9t (k:Nat) (c:LL) (a:Int) (b:(V1_)→OO):OO:=
 b (a,0)
def c8i (k:Nat) (a:LL) (b:Int):OO:=
 b9t k a b (fun v=>a1i (b1a k a) k v)
theorem f0g (k:Nat) (a:LL) (c:Int):a0a E P0 (k+1) N.k4j [.v [.r a],.v [.i c]]=c8i k a c:=a1y [] [.sr,.sl,.sr,.bl] e3u (b9t k a c) (e3v a) (b1a k a) (by kernel_rfl) (fun j v=>by kernel_rfl)
def b1b (k:Nat) (b:LL) (e:(V1_)→OO):(V1_)→OO:=fun (c,a)=>
 bif (decide (a<(b.length:Int))) then
  chk (decide (0≤a)&&decide (a<(b.length:Int))) <|
  bif ((at_ b a.toNat 0).asI != c) then
   some ⟨[.i (-1)],[]⟩
  else
   chk (decide (0≤a)&&decide (a<(b.length:Int))) <|
   bif ((at_ b a.toNat 1).asI != (W64 (c+1))) then
    some ⟨[.i (-1)],[]⟩
   else
    chk (decide (0≤a)&&decide (a<(b.length:Int))) <|
    a0f (a0a E P0 k N.j5s [.v [.r (at_ b a.toNat 2).asR],.v [.i (W64 ((W64 (c+1))+1))]]) fun d=>
    bif (decide ((d.t 0).asI<0)) then some ⟨[.i (-1)],[]⟩ else e ((d.t 0).asI,(W64 (a+1)))
 else
  some ⟨[.i c],[]⟩
def e3w:List Nat:=[0,1,4,5,39]
def e3x (a:LL):(V1_)→St:=fun (b,c)=>⟨a3k [(0,.sl 96 a),(1,.i .i64 b),(4,.i .i64 0),(5,.i .i64 c),(39,.skip)],a1e []⟩
def b9u (k:Nat) (c:LL) (a:Int) (b:(V1_)→OO):OO:=
 b (a,0)
def c8j (k:Nat) (a:LL) (b:Int):OO:=
 b9u k a b (fun v=>a1i (b1b k a) k v)
theorem f0h (k:Nat) (a:LL) (c:Int):a0a E P0 (k+1) N.k4k [.v [.r a],.v [.i c]]=c8j k a c:=a1y [] [.sr,.sl,.sr,.bl] e3w (b9u k a c) (e3x a) (b1b k a) (by kernel_rfl) (fun j v=>by kernel_rfl)
def a8z (k:Nat) (b:LL) (f:(V1_)→OO):(V1_)→OO:=fun (c,a)=>
 bif (decide (a<(b.length:Int))) then
  chk (decide (0≤a)&&decide (a<(b.length:Int))) <|
  bif ((at_ b a.toNat 0).asI != c) then
   some ⟨[.i (-1)],[]⟩
  else
   chk (decide (0≤a)&&decide (a<(b.length:Int))) <|
   bif ((at_ b a.toNat 1).asI != (W64 (c+1))) then
    some ⟨[.i (-1)],[]⟩
   else
    chk (decide (0≤a)&&decide (a<(b.length:Int))) <|
    bif ((at_ b a.toNat 2).asI != (W64 ((W64 (c+1))+1))) then
     some ⟨[.i (-1)],[]⟩
    else
     chk (decide (0≤a)&&decide (a<(b.length:Int))) <|
     bif ((at_ b a.toNat 3).asI != (W64 ((W64 ((W64 (c+1))+1))+1))) then
      some ⟨[.i (-1)],[]⟩
     else
      chk (decide (0≤a)&&decide (a<(b.length:Int))) <|
      a0f (a0a E P0 k N.j5s [.v [.r (at_ b a.toNat 4).asR],.v [.i (W64 ((W64 ((W64 ((W64 (c+1))+1))+1))+1))]]) fun d=>
      bif (decide ((d.t 0).asI<0)) then
       some ⟨[.i (-1)],[]⟩
      else
       chk (decide (0≤a)&&decide (a<(b.length:Int))) <|
       bif ((at_ b a.toNat 5).asI != (d.t 0).asI) then
        some ⟨[.i (-1)],[]⟩
       else
        chk (decide (0≤a)&&decide (a<(b.length:Int))) <|
        bif ((at_ b a.toNat 6).asI != (W64 ((d.t 0).asI+1))) then
         some ⟨[.i (-1)],[]⟩
        else
         chk (decide (0≤a)&&decide (a<(b.length:Int))) <|
         a0f (a0a E P0 k N.j5s [.v [.r (at_ b a.toNat 7).asR],.v [.i (W64 ((W64 ((d.t 0).asI+1))+1))]]) fun e=>
         bif (decide ((e.t 0).asI<0)) then some ⟨[.i (-1)],[]⟩ else f ((e.t 0).asI,(W64 (a+1)))
 else
  some ⟨[.i c],[]⟩
def d8x:List Nat:=[0,1,4,5,92]
def d8y (a:LL):(V1_)→St:=fun (b,c)=>⟨a3k [(0,.sl 99 a),(1,.i .i64 b),(4,.i .i64 0),(5,.i .i64 c),(92,.skip)],a1e []⟩
def b7a (k:Nat) (c:LL) (a:Int) (b:(V1_)→OO):OO:=
 b (a,0)
def c5r (k:Nat) (a:LL) (b:Int):OO:=
 b7a k a b (fun v=>a1i (a8z k a) k v)
theorem e3y (k:Nat) (a:LL) (c:Int):a0a E P0 (k+1) N.k4l [.v [.r a],.v [.i c]]=c5r k a c:=a1y [] [.sr,.sl,.sr,.bl] d8x (b7a k a c) (d8y a) (a8z k a) (by kernel_rfl) (fun j v=>by kernel_rfl)
def d1p (k:Nat) (g h l:Int) (m:LL) (n o p q u:Int) (w:LL) (x:Int) (y z:Bool) (A B C D:LL) (F:Int):OO:=
 BK_ k N.k4h [.v (S0_ g h l m n o p q u w x y z),vi_ F] fun a=>
 bif (decide ((a.t 0).asI<0)) then
  so_ [.i (-1)]
 else
  BK_ k N.k4i [vr_ A,vi_ (a.t 0).asI] fun c=>
  bif (decide ((c.t 0).asI<0)) then
   so_ [.i (-1)]
  else
   BK_ k N.k4j [vr_ B,vi_ (c.t 0).asI] fun d=>
   bif (decide ((d.t 0).asI<0)) then
    so_ [.i (-1)]
   else
    BK_ k N.k4k [vr_ C,vi_ (d.t 0).asI] fun e=>
    bif (decide ((e.t 0).asI<0)) then
     so_ [.i (-1)]
    else
     BK_ k N.k4l [vr_ D,vi_ (e.t 0).asI] fun f=>
     bif (decide ((f.t 0).asI<0)) then so_ [.i (-1)] else so_ [.i (f.t 0).asI]
theorem f5n (k:Nat) (a c d:Int) (e:LL) (f g h l m:Int) (n:LL) (o:Int) (p q:Bool) (t u w x:LL) (y:Int):a0a E P0 (k+1) N.j9w [.v (S1_ a c d e f g h l m n o p q t u w x),vi_ y]=d1p k a c d e f g h l m n o p q t u w x y:=by kernel_rfl
def a9g (k:Nat) (l m n:Int) (o:LL) (p q u w x:Int) (y:LL) (z:Int) (A B:Bool) (C D F G:LL) (c a:Outs) (H:Bool):OO:=
 bif H then
  so_ [.b false]
 else
  BK_ k N.j9v [.s (S6_ a),vi_ 1] fun f=>
  BK_ k N.j9w [.v (j4x a f),vi_ 1] fun g=>
  bif (decide ((g.t 0).asI<0)) then
   so_ [.b false]
  else
   bif ((g.t 0).asI != (f.t 0).asI) then
    so_ [.b false]
   else
    BK_ k N.j6s [.v (S1_ l m n o p q u w x y z A B C D F G)] fun d=>
    BK_ k N.j9t [.v (S6_ d)] fun e=>
    BK_ k N.j6r [.v (S6_ e),.v (S6_ c)] fun J=>
    bif (!(J.t 0).asB) then
     so_ [.b false]
    else
     BK_ k N.j9w [.v (j4x a f),vi_ 1] fun h=>
     bif (decide ((h.t 0).asI<0)) then
      so_ [.b false]
     else
      bif ((h.t 0).asI != (f.t 0).asI) then so_ [.b false] else so_ [.b true]
def b9v (k:Nat) (g h l:Int) (m:LL) (n o p q u:Int) (w:LL) (x:Int) (y z:Bool) (A B C D:LL):OO:=
 BK_ k N.k0l [.v (S1_ g h l m n o p q u w x y z A B C D),vi_ 1048576] fun F=>
 bif (decide ((F.t 0).asI<0)) then
  so_ [.b true]
 else
  BK_ k N.j6s [.v (S1_ g h l m n o p q u w x y z A B C D)] fun e=>
  BK_ k N.k2a [.v (S6_ e)] fun c=>
  BK_ k N.j6s [.v (S1_ g h l m n o p q u w x y z A B C D)] fun a=>
  BK_ k N.j9t [.v (S6_ a)] fun d=>
  BK_ k N.j6r [.v (S6_ d),.v (S6_ c)] fun G=>
  bif (!(G.t 0).asB) then
   so_ [.b false]
  else
   BK_ k N.j6s [.v (S1_ g h l m n o p q u w x y z A B C D)] fun f=>
   BK_ k N.j6r [.v (S6_ a),.v (S6_ f)] fun H=>
   bif (!(H.t 0).asB) then
    so_ [.b false]
   else
    BK_ k N.j9v [.s (S6_ a),vi_ 1] fun J=>
    bif (decide ((J.t 0).asI<0)) then
     a9g k g h l m n o p q u w x y z A B C D c d true
    else
     BK_ k N.j6r [.v (S6_ d),.v (S6_ c)] fun K=>
     a9g k g h l m n o p q u w x y z A B C D c d (!(K.t 0).asB)
theorem d2k (k:Nat) (a c d:Int) (e:LL) (f g h l m:Int) (n:LL) (o:Int) (p q:Bool) (t u w x:LL):a0a E P0 (k+1) N.k4m [.v (S1_ a c d e f g h l m n o p q t u w x)]=b9v k a c d e f g h l m n o p q t u w x:=by kernel_rfl
end
end Go.Proofs.YtgilihjnmjgciaaGreat.Ev
