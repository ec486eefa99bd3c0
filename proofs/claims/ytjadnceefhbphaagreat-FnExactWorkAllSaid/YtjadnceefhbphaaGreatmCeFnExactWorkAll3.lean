/- What functions answer under the evaluator, as Lean terms, part 3: what FnExactWorkAll needs. No condition. -/
import Derived.Test.YtjadnceefhbphaaGreatmTab
namespace Go.Proofs.YtjadnceefhbphaaGreat.Ev
open Go Go.Proofs
set_option linter.unusedVariables false
set_option maxRecDepth 100000
set_option maxHeartbeats 4000000
noncomputable section
def b9i (k:Nat) (o h l:Int) (p:LL) (q u w x y:Int) (g:LL) (z:Int) (m A:Bool) (B:Int):OO:=
 BK_ k N.j2w [.v (S0_ o h l p q u w x y g z m A)] fun C=>
 bif (!(C.t 0).asB) then
  BK_ k N.j2i [.v (S0_ o h l p q u w x y g z m A)] fun c=>
  so_ (S8_ c 1)
 else
  bif m then
   BK_ k N.j2i [.v (S0_ o h l p q u w x y g z m A)] fun d=>
   so_ (S8_ d 6)
  else
   BK_ k N.j2r [.v [.i h,.i l],vi_ B] fun D=>
   bif (!(D.t 0).asB) then
    BK_ k N.j2i [.v (S0_ o h l p q u w x y g z m A)] fun e=>
    so_ (S8_ e 2)
   else
    BK_ k N.j5g [.v (S0_ o h l p q u w x y g z m A),vi_ B] fun n=>
    bif (decide ((n.t 0).asI<0)) then
     BK_ k N.j2i [.v (S0_ o h l p q u w x y g z m A)] fun f=>
     so_ (S8_ f 0)
    else
     chk (decide (0≤(n.t 0).asI)&&decide ((n.t 0).asI<(g.length:Int))) <|
     BK_ k N.j5s [.v (S0_ o h l p q u w x y g z m A),vi_ B,vr_ (at_ g (n.t 0).asI.toNat 1).asR] fun a=>
     bif ((a.t 13).asI == 0) then
      chk (b6e (a.t 9).asR.length (n.t 0).asI (W64 ((n.t 0).asI+1))) <|
      so_ [.i (a.t 0).asI,.i (a.t 1).asI,.i (a.t 2).asI,.r (a.t 3).asR,.i (a.t 4).asI,.i (a.t 5).asI,.i (a.t 6).asI,.i (a.t 7).asI,.i (a.t 8).asI,.r ((a.t 9).asR.take (n.t 0).asI.toNat++(a.t 9).asR.drop (W64 ((n.t 0).asI+1)).toNat),.i (a.t 10).asI,.b (a.t 11).asB,.b (a.t 12).asB,.i (a.t 13).asI]
     else
      so_ [.i (a.t 0).asI,.i (a.t 1).asI,.i (a.t 2).asI,.r (a.t 3).asR,.i (a.t 4).asI,.i (a.t 5).asI,.i (a.t 6).asI,.i (a.t 7).asI,.i (a.t 8).asI,.r (a.t 9).asR,.i (a.t 10).asI,.b (a.t 11).asB,.b (a.t 12).asB,.i (a.t 13).asI]
theorem d4j (k:Nat) (a c d:Int) (e:LL) (f g h l m:Int) (n:LL) (o:Int) (p q:Bool) (t:Int):a0a E P0 (k+1) N.j3k [.v (S0_ a c d e f g h l m n o p q),vi_ t]=b9i k a c d e f g h l m n o p q t:=by kernel_rfl
def c1l (k:Nat) (l m n:Int) (o:LL) (p q u w x:Int) (y:LL) (z:Int) (A B:Bool) (C D e h:LL) (F G H J:Int) (K:LL) (f g:Int) (d:LL):OO:=
 chk (decide ((e.length+([(S4_ f g d)]:LL).length)*40≤140737488355328)) <|
 BK_ k N.j3c [.v (S7_ F G H J K)] fun a=>
 BK_ k N.j3u [.v (S4_ f g d)] fun c=>
 chk (decide ((h.length+([(j1c a c)]:LL).length)*96≤140737488355328)) <|
 some ⟨[],[[.i l,.i m,.i n,.r o,.i p,.i q,.i u,.i w,.i x,.r y,.i z,.b A,.b B,.r C,.r D,.r (a0x (e++([(S4_ f g d)]:LL)) (e.length+0) 2 [.r d]),.r (h++([(j1c a c)]:LL))]]⟩
theorem d6k (k:Nat) (a c d:Int) (e:LL) (f g h l m:Int) (n:LL) (o:Int) (q t:Bool) (u w x y:LL) (z A B C:Int) (D:LL) (F G:Int) (H:LL):a0a E P0 (k+1) N.j1v [.p (S2_ a c d e f g h l m n o q t u w x y),.v (S7_ z A B C D),.v (S4_ F G H)]=c1l k a c d e f g h l m n o q t u w x y z A B C D F G H:=by kernel_rfl
def a1o (a:Outs) (b:Int):LL:=a0x (a.t 14).asR b.toNat 4 [.r ((at_ (a.t 14).asR b.toNat 4).asR)]
def a3h (b:Outs) (a:Int) (c:Outs):LL:=a0x (a1o b a) a.toNat 7 [.i (c.t 13).asI]
def a0h (b:Outs) (a:Int) (c:Outs):LL:=a0x (a3h b a c) a.toNat 5 [.i (W64 ((at_ (a3h b a c) a.toNat 5).asI+1))]
def a1h (b:Outs) (a:Int) (c:Outs):LL:=a0x (a0h b a c) a.toNat 6 [.r ((at_ (a0h b a c) a.toNat 6).asR)]
def a0w (a:LL) (b:Int):LL:=a0x a b.toNat 5 [.i (W64 ((at_ a b.toNat 5).asI+1))]
def a1w (b:LL) (a:Int):LL:=a0x (a0w b a) a.toNat 6 [.r ((at_ (a0w b a) a.toNat 6).asR)]
def a1x (b:Outs) (a:Int):LL:=a0x (a1o b a) a.toNat 6 [.r ((at_ (a1o b a) a.toNat 6).asR)]
def a0z (a:Outs):List T:=[.i (a.vt 0 0).asI,.i (a.vt 0 1).asI,.i (a.vt 0 2).asI,.r (a.vt 0 3).asR,.i (a.vt 0 4).asI,.i (a.vt 0 5).asI,.i (a.vt 0 6).asI,.i (a.vt 0 7).asI,.i (a.vt 0 8).asI,.r (a.vt 0 9).asR,.i (a.vt 0 10).asI,.b (a.vt 0 11).asB,.b (a.vt 0 12).asB,.r (a.vt 0 13).asR,.r (a.vt 0 14).asR,.r (a.vt 0 15).asR,.r (a.vt 0 16).asR,.b true]
def a2j (a c:Outs) (d:Int):List T:=(j1d a c ((a1h c d a).take d.toNat++(a1h c d a).drop (W64 (d+1)).toNat))
def a2k (a c:Outs) (d:Int):List T:=(j1d a c ((a0h c d a).take d.toNat++(a0h c d a).drop (W64 (d+1)).toNat))
def a2l (a c:Outs) (d:Int):List T:=(j0i a c (a0h c d a))
def a1y (a:Outs):List T:=(i4p a)
def a2m (b:Outs) (a:Int) (c:Outs):List T:=(S7_ (at_ (a1h b a c) a.toNat 0).asI (at_ (a1h b a c) a.toNat 1).asI (at_ (a1h b a c) a.toNat 2).asI (at_ (a1h b a c) a.toNat 3).asI (at_ (a1h b a c) a.toNat 4).asR)
def a2n (b:Outs) (a:Int) (c:Outs):List T:=(S7_ (at_ (a0h b a c) a.toNat 0).asI (at_ (a0h b a c) a.toNat 1).asI (at_ (a0h b a c) a.toNat 2).asI (at_ (a0h b a c) a.toNat 3).asI (at_ (a0h b a c) a.toNat 4).asR)
def a2o (b:Outs) (a:Int) (c d:Outs):List T:=[.i (at_ (a0h b a c) a.toNat 1).asI,.i (at_ (a0h b a c) a.toNat 7).asI,.r (d.t 0).asR]
def a3a (a:Outs) (b:Int):List T:=(S7_ (at_ (a.t 14).asR b.toNat 0).asI (at_ (a.t 14).asR b.toNat 1).asI (at_ (a.t 14).asR b.toNat 2).asI (at_ (a.t 14).asR b.toNat 3).asI (at_ (a.t 14).asR b.toNat 4).asR)
def b5d (k:Nat) (a:Int) (d:LL) (c:Outs) (e:Bool):OO:=
 bif e then
  BK_ k N.j1u [vr_ (at_ (a0w d a) a.toNat 6).asR] fun f=>
  chk (b6e (a1w d a).length a (W64 (a+1))) <|
  chk (decide (a≤((a.toNat:Nat):Int))&&decide (((a.toNat:Nat):Int)<(W64 (a+1)))) <|
  BK_ k N.j1v [.p (i9q c ((a1w d a).take a.toNat++(a1w d a).drop (W64 (a+1)).toNat)),.v (S7_ (at_ (a1w d a) a.toNat 0).asI (at_ (a1w d a) a.toNat 1).asI (at_ (a1w d a) a.toNat 2).asI (at_ (a1w d a) a.toNat 3).asI (at_ (a1w d a) a.toNat 4).asR),.v [.i (at_ (a0w d a) a.toNat 1).asI,.i (at_ (a0w d a) a.toNat 7).asI,.r (f.t 0).asR]] fun g=>
  some ⟨(a0z g),[]⟩
 else
  chk (b6e (a0w d a).length a (W64 (a+1))) <|
  chk (decide (a≤((a.toNat:Nat):Int))&&decide (((a.toNat:Nat):Int)<(W64 (a+1)))) <|
  BK_ k N.j1v [.p (i9q c ((a0w d a).take a.toNat++(a0w d a).drop (W64 (a+1)).toNat)),.v (S7_ (at_ (a0w d a) a.toNat 0).asI (at_ (a0w d a) a.toNat 1).asI (at_ (a0w d a) a.toNat 2).asI (at_ (a0w d a) a.toNat 3).asI (at_ (a0w d a) a.toNat 4).asR),.v (S9_ (at_ (a0w d a) a.toNat 1).asI (at_ (a0w d a) a.toNat 7).asI)] fun h=>
  some ⟨(a0z h),[]⟩
def a3y (k:Nat) (c:Int) (a:Outs) (d:LL):OO:=
 bif ((at_ (a0w d c) c.toNat 7).asI == 0) then
  so_ (j0y a (a0w d c))
 else
  bif ((at_ (a0w d c) c.toNat 0).asI == 1) then
   b5d k c d a ((at_ (a0w d c) c.toNat 7).asI == 0)
  else
   b5d k c d a false
def b9j (k:Nat) (a:Int) (b c:Outs) (d:Bool):OO:=
 bif d then
  BK_ k N.j1u [vr_ (at_ (a0h b a c) a.toNat 6).asR] fun e=>
  chk (b6e (a1h b a c).length a (W64 (a+1))) <|
  chk (decide (a≤((a.toNat:Nat):Int))&&decide (((a.toNat:Nat):Int)<(W64 (a+1)))) <|
  BK_ k N.j1v [.p (a2j c b a),.v (a2m b a c),.v (a2o b a c e)] fun f=>
  some ⟨(a0z f),[]⟩
 else
  chk (b6e (a0h b a c).length a (W64 (a+1))) <|
  chk (decide (a≤((a.toNat:Nat):Int))&&decide (((a.toNat:Nat):Int)<(W64 (a+1)))) <|
  BK_ k N.j1v [.p (a2k c b a),.v (a2n b a c),.v (S9_ (at_ (a0h b a c) a.toNat 1).asI (at_ (a0h b a c) a.toNat 7).asI)] fun g=>
  some ⟨(a0z g),[]⟩
def b9k (k:Nat) (a:Int) (b c:Outs) (d:Bool):OO:=
 bif d then
  BK_ k N.j1u [vr_ (at_ (a0h b a c) a.toNat 6).asR] fun e=>
  chk (b6e (a1h b a c).length a (W64 (a+1))) <|
  chk (decide (a≤((a.toNat:Nat):Int))&&decide (((a.toNat:Nat):Int)<(W64 (a+1)))) <|
  BK_ k N.j1v [.p (a2j c b a),.v (a2m b a c),.v (a2o b a c e)] fun f=>
  some ⟨(a0z f),[]⟩
 else
  chk (b6e (a0h b a c).length a (W64 (a+1))) <|
  chk (decide (a≤((a.toNat:Nat):Int))&&decide (((a.toNat:Nat):Int)<(W64 (a+1)))) <|
  BK_ k N.j1v [.p (a2k c b a),.v (a2n b a c),.v (S9_ (at_ (a0h b a c) a.toNat 1).asI (at_ (a0h b a c) a.toNat 7).asI)] fun g=>
  some ⟨(a0z g),[]⟩
def b9l (k:Nat) (a:Int) (b c:Outs) (d:Bool):OO:=
 bif d then
  BK_ k N.j1u [vr_ (at_ (a0h b a c) a.toNat 6).asR] fun e=>
  chk (b6e (a1h b a c).length a (W64 (a+1))) <|
  chk (decide (a≤((a.toNat:Nat):Int))&&decide (((a.toNat:Nat):Int)<(W64 (a+1)))) <|
  BK_ k N.j1v [.p (a2j c b a),.v (a2m b a c),.v (a2o b a c e)] fun f=>
  some ⟨(a0z f),[]⟩
 else
  chk (b6e (a0h b a c).length a (W64 (a+1))) <|
  chk (decide (a≤((a.toNat:Nat):Int))&&decide (((a.toNat:Nat):Int)<(W64 (a+1)))) <|
  BK_ k N.j1v [.p (a2k c b a),.v (a2n b a c),.v (S9_ (at_ (a0h b a c) a.toNat 1).asI (at_ (a0h b a c) a.toNat 7).asI)] fun g=>
  some ⟨(a0z g),[]⟩
def b9m (k:Nat) (a:Int) (b c:Outs) (d:Bool):OO:=
 bif d then
  BK_ k N.j1u [vr_ (at_ (a0h b a c) a.toNat 6).asR] fun e=>
  chk (b6e (a1h b a c).length a (W64 (a+1))) <|
  chk (decide (a≤((a.toNat:Nat):Int))&&decide (((a.toNat:Nat):Int)<(W64 (a+1)))) <|
  BK_ k N.j1v [.p (a2j c b a),.v (a2m b a c),.v (a2o b a c e)] fun f=>
  some ⟨(a0z f),[]⟩
 else
  chk (b6e (a0h b a c).length a (W64 (a+1))) <|
  chk (decide (a≤((a.toNat:Nat):Int))&&decide (((a.toNat:Nat):Int)<(W64 (a+1)))) <|
  BK_ k N.j1v [.p (a2k c b a),.v (a2n b a c),.v (S9_ (at_ (a0h b a c) a.toNat 1).asI (at_ (a0h b a c) a.toNat 7).asI)] fun g=>
  some ⟨(a0z g),[]⟩
def b9n (k:Nat) (a:Int) (b c:Outs) (d:Bool):OO:=
 bif d then
  BK_ k N.j1u [vr_ (at_ (a0h b a c) a.toNat 6).asR] fun e=>
  chk (b6e (a1h b a c).length a (W64 (a+1))) <|
  chk (decide (a≤((a.toNat:Nat):Int))&&decide (((a.toNat:Nat):Int)<(W64 (a+1)))) <|
  BK_ k N.j1v [.p (a2j c b a),.v (a2m b a c),.v (a2o b a c e)] fun f=>
  some ⟨(a0z f),[]⟩
 else
  chk (b6e (a0h b a c).length a (W64 (a+1))) <|
  chk (decide (a≤((a.toNat:Nat):Int))&&decide (((a.toNat:Nat):Int)<(W64 (a+1)))) <|
  BK_ k N.j1v [.p (a2k c b a),.v (a2n b a c),.v (S9_ (at_ (a0h b a c) a.toNat 1).asI (at_ (a0h b a c) a.toNat 7).asI)] fun g=>
  some ⟨(a0z g),[]⟩
def b7h (k:Nat) (a:Int) (b c:Outs) (d:Bool):OO:=
 bif d then
  BK_ k N.j1u [vr_ (at_ (a0h b a c) a.toNat 6).asR] fun e=>
  chk (b6e (a1h b a c).length a (W64 (a+1))) <|
  chk (decide (a≤((a.toNat:Nat):Int))&&decide (((a.toNat:Nat):Int)<(W64 (a+1)))) <|
  BK_ k N.j1v [.p (a2j c b a),.v (a2m b a c),.v (a2o b a c e)] fun f=>
  some ⟨(a0z f),[]⟩
 else
  chk (b6e (a0h b a c).length a (W64 (a+1))) <|
  chk (decide (a≤((a.toNat:Nat):Int))&&decide (((a.toNat:Nat):Int)<(W64 (a+1)))) <|
  BK_ k N.j1v [.p (a2k c b a),.v (a2n b a c),.v (S9_ (at_ (a0h b a c) a.toNat 1).asI (at_ (a0h b a c) a.toNat 7).asI)] fun g=>
  some ⟨(a0z g),[]⟩
def a5y (k:Nat) (c:Int) (a:Outs) (d:Bool):OO:=
 bif d then
  BK_ k N.j1u [vr_ (at_ (a1o a c) c.toNat 6).asR] fun e=>
  chk (b6e (a1x a c).length c (W64 (c+1))) <|
  chk (decide (c≤((c.toNat:Nat):Int))&&decide (((c.toNat:Nat):Int)<(W64 (c+1)))) <|
  BK_ k N.j1v [.p (i9q a ((a1x a c).take c.toNat++(a1x a c).drop (W64 (c+1)).toNat)),.v (S7_ (at_ (a1x a c) c.toNat 0).asI (at_ (a1x a c) c.toNat 1).asI (at_ (a1x a c) c.toNat 2).asI (at_ (a1x a c) c.toNat 3).asI (at_ (a1x a c) c.toNat 4).asR),.v [.i (at_ (a.t 14).asR c.toNat 1).asI,.i (at_ (a.t 14).asR c.toNat 7).asI,.r (e.t 0).asR]] fun f=>
  some ⟨(a0z f),[]⟩
 else
  chk (Nat.beq c.toNat c.toNat) <|
  chk (b6e (a.t 14).asR.length c (W64 (c+1))) <|
  chk (decide (c≤((c.toNat:Nat):Int))&&decide (((c.toNat:Nat):Int)<(W64 (c+1)))) <|
  BK_ k N.j1v [.p (i9q a ((a.t 14).asR.take c.toNat++(a.t 14).asR.drop (W64 (c+1)).toNat)),.v (a3a a c),.v (S9_ (at_ (a.t 14).asR c.toNat 1).asI (at_ (a.t 14).asR c.toNat 7).asI)] fun g=>
  some ⟨(a0z g),[]⟩
def a7t (k:Nat) (a:Int) (b:Outs) (n:Bool):OO:=
 bif n then
  chk (Nat.beq a.toNat a.toNat) <|
  bif ((at_ (b.t 14).asR a.toNat 0).asI == 1) then
   BK_ k N.j3i [.v (a1y b),vi_ (W64 ((at_ (b.t 14).asR a.toNat 2).asI+(at_ (b.t 14).asR a.toNat 5).asI))] fun l=>
   bif ((l.t 1).asI == 0) then
    chk (decide (((at_ (a1o b a) a.toNat 6).asR.length+([[.i (l.t 0).asI]]:LL).length)*8≤140737488355328)) <|
    chk (Nat.beq a.toNat a.toNat) <|
    a3y k a b (a0x (a0x (a1o b a) a.toNat 6 [.r ((at_ (a1o b a) a.toNat 6).asR++([[.i (l.t 0).asI]]:LL))]) a.toNat 7 [.i (l.t 1).asI])
   else
    a3y k a b (a0x (a1o b a) a.toNat 7 [.i (l.t 1).asI])
  else
   bif ((at_ (b.t 14).asR a.toNat 0).asI == 2) then
    chk (decide (0≤(at_ (b.t 14).asR a.toNat 5).asI)&&decide ((at_ (b.t 14).asR a.toNat 5).asI<((at_ (b.t 14).asR a.toNat 4).asR.length:Int))) <|
    BK_ k N.j1x [.v (a1y b),vi_ (W64 ((at_ (b.t 14).asR a.toNat 2).asI+(at_ (b.t 14).asR a.toNat 5).asI)),vi_ (at_ (at_ (b.t 14).asR a.toNat 4).asR (at_ (b.t 14).asR a.toNat 5).asI.toNat 0).asI] fun c=>
    bif ((at_ (a0h b a c) a.toNat 7).asI == 0) then
     some ⟨(a2l c b a),[]⟩
    else
     bif ((at_ (a0h b a c) a.toNat 0).asI == 1) then
      b9j k a b c ((at_ (a0h b a c) a.toNat 7).asI == 0)
     else
      b9j k a b c false
   else
    bif ((at_ (b.t 14).asR a.toNat 0).asI == 6) then
     BK_ k N.j1x [.v (a1y b),vi_ (W64 ((at_ (b.t 14).asR a.toNat 2).asI+(at_ (b.t 14).asR a.toNat 5).asI)),vi_ 0] fun d=>
     bif ((at_ (a0h b a d) a.toNat 7).asI == 0) then
      some ⟨(a2l d b a),[]⟩
     else
      bif ((at_ (a0h b a d) a.toNat 0).asI == 1) then
       b9k k a b d ((at_ (a0h b a d) a.toNat 7).asI == 0)
      else
       b9k k a b d false
    else
     bif ((at_ (b.t 14).asR a.toNat 0).asI == 3) then
      bif (decide ((at_ (b.t 14).asR a.toNat 5).asI<((at_ (b.t 14).asR a.toNat 4).asR.length:Int))) then
       chk (decide (0≤(at_ (b.t 14).asR a.toNat 5).asI)&&decide ((at_ (b.t 14).asR a.toNat 5).asI<((at_ (b.t 14).asR a.toNat 4).asR.length:Int))) <|
       BK_ k N.j1x [.v (a1y b),vi_ (W64 ((at_ (b.t 14).asR a.toNat 2).asI+(at_ (b.t 14).asR a.toNat 5).asI)),vi_ (at_ (at_ (b.t 14).asR a.toNat 4).asR (at_ (b.t 14).asR a.toNat 5).asI.toNat 0).asI] fun e=>
       bif ((at_ (a0h b a e) a.toNat 7).asI == 0) then
        some ⟨(a2l e b a),[]⟩
       else
        bif ((at_ (a0h b a e) a.toNat 0).asI == 1) then
         b9l k a b e ((at_ (a0h b a e) a.toNat 7).asI == 0)
        else
         b9l k a b e false
      else
       BK_ k N.j4b [.v (j0j b),.v (a3a b a)] fun o=>
       BK_ k N.j3k [.v (a1y b),vi_ (W64 ((W64 ((o.t 0).asI+(at_ (b.t 14).asR a.toNat 5).asI)) - ((at_ (b.t 14).asR a.toNat 4).asR.length:Int)))] fun f=>
       bif ((at_ (a0h b a f) a.toNat 7).asI == 0) then
        some ⟨(a2l f b a),[]⟩
       else
        bif ((at_ (a0h b a f) a.toNat 0).asI == 1) then
         b9m k a b f ((at_ (a0h b a f) a.toNat 7).asI == 0)
        else
         b9m k a b f false
     else
      bif ((at_ (b.t 14).asR a.toNat 0).asI == 4) then
       BK_ k N.j3k [.v (a1y b),vi_ (at_ (b.t 14).asR a.toNat 5).asI] fun g=>
       bif ((at_ (a0h b a g) a.toNat 7).asI == 0) then
        some ⟨(a2l g b a),[]⟩
       else
        bif ((at_ (a0h b a g) a.toNat 0).asI == 1) then
         b9n k a b g ((at_ (a0h b a g) a.toNat 7).asI == 0)
        else
         b9n k a b g false
      else
       BK_ k N.j3i [.v (a1y b),vi_ (W64 ((at_ (b.t 14).asR a.toNat 2).asI+(at_ (b.t 14).asR a.toNat 5).asI))] fun m=>
       bif ((m.t 1).asI != 0) then
        a3y k a b (a0x (a1o b a) a.toNat 7 [.i (m.t 1).asI])
       else
        chk (decide ((0:Int)<((at_ (b.t 14).asR a.toNat 4).asR.length:Int))) <|
        bif ((m.t 0).asI != (at_ (at_ (b.t 14).asR a.toNat 4).asR 0 0).asI) then
         a3y k a b (a0x (a1o b a) a.toNat 7 [.i 4])
        else
         chk (decide ((1:Int)<((at_ (b.t 14).asR a.toNat 4).asR.length:Int))) <|
         BK_ k N.j1x [.v (a1y b),vi_ (W64 ((at_ (b.t 14).asR a.toNat 2).asI+(at_ (b.t 14).asR a.toNat 5).asI)),vi_ (at_ (at_ (b.t 14).asR a.toNat 4).asR 1 0).asI] fun h=>
         bif ((at_ (a0h b a h) a.toNat 7).asI == 0) then
          some ⟨(a2l h b a),[]⟩
         else
          bif ((at_ (a0h b a h) a.toNat 0).asI == 1) then
           b7h k a b h ((at_ (a0h b a h) a.toNat 7).asI == 0)
          else
           b7h k a b h false
 else
  bif ((at_ (b.t 14).asR a.toNat 0).asI == 1) then
   a5y k a b ((at_ (b.t 14).asR a.toNat 7).asI == 0)
  else
   a5y k a b false
def a7u (k:Nat) (d e c:Int) (a:Outs) (f:Bool):OO:=
 bif f then
  so_ (j1b a)
 else
  chk (decide (0≤c)&&decide (c<((a.t 14).asR.length:Int))) <|
  chk (Nat.blt c.toNat (a.t 14).asR.length) <|
  chk (Nat.beq c.toNat c.toNat) <|
  BK_ k N.j5e [.v [.i d,.i e],.v (a3a a c)] fun g=>
  bif (decide ((at_ (a.t 14).asR c.toNat 5).asI<(W64 ((g.t 0).asI - 1)))) then
   a7t k c a ((at_ (a.t 14).asR c.toNat 7).asI == 0)
  else
   a7t k c a false
def e6s (k:Nat) (h a c:Int) (l:LL) (m n o p q:Int) (u:LL) (w:Int) (x y:Bool) (z e A f:LL) (d:Int):OO:=
 BK_ k N.j2j [.v (S2_ h a c l m n o p q u w x y z e A f)] fun g=>
 BK_ k N.j8g [.v (S2_ h a c l m n o p q u w x y z e A f)] fun B=>
 bif (!(B.t 0).asB) then
  a7u k a c d g true
 else
  BK_ k N.j1t [vi_ d,vi_ 0,vi_ (W64 ((e.length:Int) - 1))] fun C=>
  bif (!(C.t 0).asB) then
   a7u k a c d g true
  else
   a7u k a c d g ((f.length:Int) == 400)
theorem g6r (k:Nat) (a c d:Int) (e:LL) (f g h l m:Int) (n:LL) (o:Int) (p q:Bool) (t u w x:LL) (y:Int):a0a E P0 (k+1) N.j9b [.v (S2_ a c d e f g h l m n o p q t u w x),vi_ y]=e6s k a c d e f g h l m n o p q t u w x y:=by kernel_rfl
def a7v (k:Nat) (c d:Bool) (A e f g h l m n o p:Int) (q u w x y z:LL) (B:(V5_)→OO) (C:Bool):OO:=
 bif C then
  BK_ k N.j9b [.v (S2_ e f g q h l m n o u p c d w x y z),vi_ 0] fun a=>
  bif (!(a.t 17).asB) then
   so_ (S2_ e f g q h l m n o u p c d w x y z)
  else
   B ((W64 (A+1)),(a.t 0).asI,(a.t 1).asI,(a.t 2).asI,(a.t 4).asI,(a.t 5).asI,(a.t 6).asI,(a.t 7).asI,(a.t 8).asI,(a.t 10).asI,(a.t 11).asB,(a.t 12).asB,(a.t 3).asR,(a.t 9).asR,(a.t 13).asR,(a.t 14).asR,(a.t 15).asR,(a.t 16).asR)
 else
  so_ (S2_ e f g q h l m n o u p c d w x y z)
def a7w (k:Nat) (x:Int) (c:(V5_)→OO):(V5_)→OO:=fun (a,d,e,f,g,h,i,l,m,n,o,p,q,r,t,b,u,w)=>
 bif (decide (a<x)) then
  a7v k o p a d e f g h i l m n q r t b u w c (decide ((b.length:Int) > 0))
 else
  a7v k o p a d e f g h i l m n q r t b u w c false
def e6t:List Nat:=[1,4,5,6,34]
def e6u (a:Int):(V5_)→St:=fun (c,d,e,f,g,h,l,m,n,o,p,q,r,t,u,w,x,y)=>SD_ [(1,.w_ a),(4,.ptr (4,0) 0),(5,.ptr (5,0) 0),(6,.w_ c),(34,.skip)] [((4,0),.var [.w_ 0,.w_ 0,.w_ 0,.ref (4,4),.w_ 0,.w_ 0,.w_ 0,.w_ 0,.w_ 0,.ref (4,10),.w_ 0,.b false,.b false,.ref (4,14),.ref (4,15),.ref (4,16),.ref (4,17)]),((4,4),.deep 135 [] none),((4,10),.deep 137 [] none),((4,14),.deep 91 [] none),((4,15),.deep 94 [] none),((4,16),.deep 95 [] none),((4,17),.deep 98 [] none),((5,0),.var [.w_ d,.w_ e,.w_ f,.ref (5,4),.w_ g,.w_ h,.w_ l,.w_ m,.w_ n,.ref (5,10),.w_ o,.b p,.b q,.ref (5,14),.ref (5,15),.ref (5,16),.ref (5,17)]),((5,4),.deep 135 r none),((5,10),.deep 137 t none),((5,14),.deep 91 u none),((5,15),.deep 94 w none),((5,16),.deep 95 x none),((5,17),.deep 98 y none)]
def c0o (k:Nat) (c d e:Int) (f:LL) (g h l m n:Int) (o:LL) (p:Int) (q u:Bool) (w x y z:LL) (A:Int) (B:(V5_)→OO):OO:=
 BK_ k N.j2j [.v (S2_ c d e f g h l m n o p q u w x y z)] fun a=>
 BK_ k N.j1t [vi_ A,vi_ 0,vi_ 1000] fun C=>
 bif (!(C.t 0).asB) then
  so_ (S6_ a)
 else
  B (0,(a.t 0).asI,(a.t 1).asI,(a.t 2).asI,(a.t 4).asI,(a.t 5).asI,(a.t 6).asI,(a.t 7).asI,(a.t 8).asI,(a.t 10).asI,(a.t 11).asB,(a.t 12).asB,(a.t 3).asR,(a.t 9).asR,(a.t 13).asR,(a.t 14).asR,(a.t 15).asR,(a.t 16).asR)
def c9q (k:Nat) (b c d:Int) (e:LL) (f g h i l:Int) (m:LL) (n:Int) (o p:Bool) (q r t u:LL) (a:Int):OO:=
 c0o k b c d e f g h i l m n o p q r t u a (fun v=>a1k (a7w k a) k v)
theorem f2a (k:Nat) (c d e:Int) (f:LL) (g h l m n:Int) (o:LL) (p:Int) (q t:Bool) (u w x y:LL) (a:Int):a0a E P0 (k+1) N.j5t [.v (S2_ c d e f g h l m n o p q t u w x y),vi_ a]=c9q k c d e f g h l m n o p q t u w x y a:=a2c [] [.sr,.sr,.sr,.sl,.sr,.bl] e6t (c0o k c d e f g h l m n o p q t u w x y a) (e6u a) (a7w k a) (by kernel_rfl) (fun j v=>by kernel_rfl)
def d9e (k:Nat) (a c d e:Int):OO:=
 bif (a != d) then
  so_ [.b false]
 else
  bif (c != e) then so_ [.b false] else so_ [.b true]
theorem g3u (k:Nat) (a b c d:Int):a0a E P0 (k+1) N.j9c [.v [.i a,.i b],.v [.i c,.i d]]=d9e k a b c d:=by kernel_rfl
def b4t (k:Nat) (c d:LL) (e:(Int)→OO):(Int)→OO:=fun a=>
 bif (decide (a<(c.length:Int))) then
  chk (decide (0≤a)&&decide (a<(c.length:Int))) <|
  chk (decide (0≤a)&&decide (a<(d.length:Int))) <|
  bif ((at_ c a.toNat 0).asI != (at_ d a.toNat 0).asI) then
   some ⟨[.b false],[]⟩
  else
   e (W64 (a+1))
 else
  some ⟨[.b true],[]⟩
def f2b:List Nat:=[0,1,4,5]
def f2c (a c:LL):(Int)→St:=fun d=>⟨a3q [(0,.sl 3 a),(1,.sl 3 c),(4,.b false),(5,.i .i64 d)],a1f []⟩
def c2v (k:Nat) (a c:LL) (d:(Int)→OO):OO:=
 bif ((a.length:Int) != (c.length:Int)) then some ⟨[.b false],[]⟩ else d 0
def d4k (k:Nat) (a b:LL):OO:=
 c2v k a b (fun v=>a1k (b4t k a b) k v)
theorem f9m (k:Nat) (a c:LL):a0a E P0 (k+1) N.j2l [.v [.r a],.v [.r c]]=d4k k a c:=a2c [] [.sr,.sr,.sl,.sr,.bl] f2b (c2v k a c) (f2c a c) (b4t k a c) (by kernel_rfl) (fun j v=>by kernel_rfl)
def b2p (k:Nat) (c d:LL) (e:(Int)→OO):(Int)→OO:=fun a=>
 bif (decide (a<(c.length:Int))) then
  chk (decide (0≤a)&&decide (a<(c.length:Int))) <|
  chk (decide (0≤a)&&decide (a<(d.length:Int))) <|
  a0f (a0a E P0 k N.j2l [.v [.r (at_ c a.toNat 0).asR],.v [.r (at_ d a.toNat 0).asR]]) fun f=>
  bif (!(f.t 0).asB) then some ⟨[.b false],[]⟩ else e (W64 (a+1))
 else
  some ⟨[.b true],[]⟩
def e6v:List Nat:=[0,1,4,5]
def e6w (a c:LL):(Int)→St:=fun d=>⟨a3q [(0,.sl 78 a),(1,.sl 78 c),(4,.b false),(5,.i .i64 d)],a1f []⟩
def c0p (k:Nat) (a c:LL) (d:(Int)→OO):OO:=
 bif ((a.length:Int) != (c.length:Int)) then some ⟨[.b false],[]⟩ else d 0
def c9r (k:Nat) (a b:LL):OO:=
 c0p k a b (fun v=>a1k (b2p k a b) k v)
theorem f2d (k:Nat) (a c:LL):a0a E P0 (k+1) N.j9d [.v [.r a],.v [.r c]]=c9r k a c:=a2c [] [.sr,.sr,.sl,.sr,.bl] e6v (c0p k a c) (e6w a c) (b2p k a c) (by kernel_rfl) (fun j v=>by kernel_rfl)
def e6x (k:Nat) (a:Int) (c:LL) (d:Int) (e:LL):OO:=
 bif (a != d) then
  some ⟨[.b false],[]⟩
 else
  a0f (a0a E P0 k N.j2l [.v [.r c],.v [.r e]]) fun f=>
  bif (!(f.t 0).asB) then some ⟨[.b false],[]⟩ else some ⟨[.b true],[]⟩
theorem g6s (k:Nat) (a:Int) (b:LL) (c:Int) (d:LL):a0a E P0 (k+1) N.j9e [.v [.i a,.r b],.v [.i c,.r d]]=e6x k a b c d:=by kernel_rfl
def b7i (k:Nat) (c d:LL) (e:(Int)→OO):(Int)→OO:=fun a=>
 bif (decide (a<(c.length:Int))) then
  chk (decide (0≤a)&&decide (a<(c.length:Int))) <|
  chk (decide (0≤a)&&decide (a<(d.length:Int))) <|
  a0f (a0a E P0 k N.j9e [.v [.i (at_ c a.toNat 0).asI,.r (at_ c a.toNat 1).asR],.v [.i (at_ d a.toNat 0).asI,.r (at_ d a.toNat 1).asR]]) fun f=>
  bif (!(f.t 0).asB) then some ⟨[.b false],[]⟩ else e (W64 (a+1))
 else
  some ⟨[.b true],[]⟩
def f9n:List Nat:=[0,1,4,5]
def f9o (a c:LL):(Int)→St:=fun d=>⟨a3q [(0,.sl 161 a),(1,.sl 161 c),(4,.b false),(5,.i .i64 d)],a1f []⟩
def c6f (k:Nat) (a c:LL) (d:(Int)→OO):OO:=
 bif ((a.length:Int) != (c.length:Int)) then some ⟨[.b false],[]⟩ else d 0
def d9f (k:Nat) (a b:LL):OO:=
 c6f k a b (fun v=>a1k (b7i k a b) k v)
theorem g3v (k:Nat) (a c:LL):a0a E P0 (k+1) N.j9f [.v [.r a],.v [.r c]]=d9f k a c:=a2c [] [.sr,.sr,.sl,.sr,.bl] f9n (c6f k a c) (f9o a c) (b7i k a c) (by kernel_rfl) (fun j v=>by kernel_rfl)
def d9g (k:Nat) (a c:LL) (d:Bool) (e f g:LL) (h:Bool) (i:LL):OO:=
 a0f (a0a E P0 k N.j9d [.v [.r a],.v [.r f]]) fun l=>
 bif (!(l.t 0).asB) then
  some ⟨[.b false],[]⟩
 else
  a0f (a0a E P0 k N.j9f [.v [.r c],.v [.r g]]) fun m=>
  bif (!(m.t 0).asB) then
   some ⟨[.b false],[]⟩
  else
   bif (!(d == h)) then
    some ⟨[.b false],[]⟩
   else
    a0f (a0a E P0 k N.j2l [.v [.r e],.v [.r i]]) fun n=>
    bif (!(n.t 0).asB) then some ⟨[.b false],[]⟩ else some ⟨[.b true],[]⟩
theorem g3w (k:Nat) (a c:LL) (d:Bool) (e f g:LL) (h:Bool) (i:LL):a0a E P0 (k+1) N.j9g [.v [.r a,.r c,.b d,.r e],.v [.r f,.r g,.b h,.r i]]=d9g k a c d e f g h i:=by kernel_rfl
def b4u (k:Nat) (c d:LL) (e:(Int)→OO):(Int)→OO:=fun a=>
 bif (decide (a<(c.length:Int))) then
  chk (decide (0≤a)&&decide (a<(c.length:Int))) <|
  chk (decide (0≤a)&&decide (a<(d.length:Int))) <|
  a0f (a0a E P0 k N.j9g [.v [.r (at_ c a.toNat 0).asR,.r (at_ c a.toNat 1).asR,.b (at_ c a.toNat 2).asB,.r (at_ c a.toNat 3).asR],.v [.r (at_ d a.toNat 0).asR,.r (at_ d a.toNat 1).asR,.b (at_ d a.toNat 2).asB,.r (at_ d a.toNat 3).asR]]) fun f=>
  bif (!(f.t 0).asB) then some ⟨[.b false],[]⟩ else e (W64 (a+1))
 else
  some ⟨[.b true],[]⟩
def f2e:List Nat:=[0,1,4,5]
def f2f (a c:LL):(Int)→St:=fun d=>⟨a3q [(0,.sl 135 a),(1,.sl 135 c),(4,.b false),(5,.i .i64 d)],a1f []⟩
def c2w (k:Nat) (a c:LL) (d:(Int)→OO):OO:=
 bif ((a.length:Int) != (c.length:Int)) then some ⟨[.b false],[]⟩ else d 0
def d4l (k:Nat) (a b:LL):OO:=
 c2w k a b (fun v=>a1k (b4u k a b) k v)
theorem f9p (k:Nat) (a c:LL):a0a E P0 (k+1) N.j9h [.v [.r a],.v [.r c]]=d4l k a c:=a2c [] [.sr,.sr,.sl,.sr,.bl] f2e (c2w k a c) (f2f a c) (b4u k a c) (by kernel_rfl) (fun j v=>by kernel_rfl)
def d9h (k:Nat) (a:Int) (c:LL) (d:Int) (e:LL):OO:=
 bif (a != d) then
  some ⟨[.b false],[]⟩
 else
  a0f (a0a E P0 k N.j2l [.v [.r c],.v [.r e]]) fun f=>
  bif (!(f.t 0).asB) then some ⟨[.b false],[]⟩ else some ⟨[.b true],[]⟩
theorem g3x (k:Nat) (a:Int) (b:LL) (c:Int) (d:LL):a0a E P0 (k+1) N.j9i [.v [.i a,.r b],.v [.i c,.r d]]=d9h k a b c d:=by kernel_rfl
def b4v (k:Nat) (c d:LL) (e:(Int)→OO):(Int)→OO:=fun a=>
 bif (decide (a<(c.length:Int))) then
  chk (decide (0≤a)&&decide (a<(c.length:Int))) <|
  chk (decide (0≤a)&&decide (a<(d.length:Int))) <|
  a0f (a0a E P0 k N.j9i [.v [.i (at_ c a.toNat 0).asI,.r (at_ c a.toNat 1).asR],.v [.i (at_ d a.toNat 0).asI,.r (at_ d a.toNat 1).asR]]) fun f=>
  bif (!(f.t 0).asB) then some ⟨[.b false],[]⟩ else e (W64 (a+1))
 else
  some ⟨[.b true],[]⟩
def f2g:List Nat:=[0,1,4,5]
def f2h (a c:LL):(Int)→St:=fun d=>⟨a3q [(0,.sl 137 a),(1,.sl 137 c),(4,.b false),(5,.i .i64 d)],a1f []⟩
def c2x (k:Nat) (a c:LL) (d:(Int)→OO):OO:=
 bif ((a.length:Int) != (c.length:Int)) then some ⟨[.b false],[]⟩ else d 0
def d4m (k:Nat) (a b:LL):OO:=
 c2x k a b (fun v=>a1k (b4v k a b) k v)
theorem f9q (k:Nat) (a c:LL):a0a E P0 (k+1) N.j9j [.v [.r a],.v [.r c]]=d4m k a c:=a2c [] [.sr,.sr,.sl,.sr,.bl] f2g (c2x k a c) (f2h a c) (b4v k a c) (by kernel_rfl) (fun j v=>by kernel_rfl)
def d9i (k:Nat) (a c d:Int) (e:LL) (f g h l m:Int) (n:LL) (o:Int) (p q:Bool) (u w x:Int) (y:LL) (z A B C D:Int) (F:LL) (G:Int) (H J:Bool):OO:=
 bif (a != u) then
  some ⟨[.b false],[]⟩
 else
  a0f (a0a E P0 k N.j9c [.v [.i c,.i d],.v [.i w,.i x]]) fun K=>
  bif (!(K.t 0).asB) then
   some ⟨[.b false],[]⟩
  else
   a0f (a0a E P0 k N.j9h [.v [.r e],.v [.r y]]) fun L=>
   bif (!(L.t 0).asB) then
    some ⟨[.b false],[]⟩
   else
    bif (f != z) then
     some ⟨[.b false],[]⟩
    else
     bif (g != A) then
      some ⟨[.b false],[]⟩
     else
      bif (h != B) then
       some ⟨[.b false],[]⟩
      else
       bif (l != C) then
        some ⟨[.b false],[]⟩
       else
        bif (m != D) then
         some ⟨[.b false],[]⟩
        else
         a0f (a0a E P0 k N.j9j [.v [.r n],.v [.r F]]) fun M=>
         bif (!(M.t 0).asB) then
          some ⟨[.b false],[]⟩
         else
          bif (o != G) then
           some ⟨[.b false],[]⟩
          else
           bif (!(p == H)) then
            some ⟨[.b false],[]⟩
           else
            bif (!(q == J)) then some ⟨[.b false],[]⟩ else some ⟨[.b true],[]⟩
theorem g3y (k:Nat) (a c d:Int) (e:LL) (f g h l m:Int) (n:LL) (o:Int) (p q:Bool) (t u w:Int) (x:LL) (y z A B C:Int) (D:LL) (F:Int) (G H:Bool):a0a E P0 (k+1) N.j9k [.v [.i a,.i c,.i d,.r e,.i f,.i g,.i h,.i l,.i m,.r n,.i o,.b p,.b q],.v [.i t,.i u,.i w,.r x,.i y,.i z,.i A,.i B,.i C,.r D,.i F,.b G,.b H]]=d9i k a c d e f g h l m n o p q t u w x y z A B C D F G H:=by kernel_rfl
def d9j (k:Nat) (a c d e:Int) (f:LL) (g h i l:Int) (m:LL):OO:=
 bif (a != g) then
  some ⟨[.b false],[]⟩
 else
  bif (c != h) then
   some ⟨[.b false],[]⟩
  else
   bif (d != i) then
    some ⟨[.b false],[]⟩
   else
    bif (e != l) then
     some ⟨[.b false],[]⟩
    else
     a0f (a0a E P0 k N.j2l [.v [.r f],.v [.r m]]) fun n=>
     bif (!(n.t 0).asB) then some ⟨[.b false],[]⟩ else some ⟨[.b true],[]⟩
theorem g3z (k:Nat) (a b c d:Int) (e:LL) (f g h l:Int) (m:LL):a0a E P0 (k+1) N.j4e [.v [.i a,.i b,.i c,.i d,.r e],.v [.i f,.i g,.i h,.i l,.r m]]=d9j k a b c d e f g h l m:=by kernel_rfl
def b4w (k:Nat) (c d:LL) (e:(Int)→OO):(Int)→OO:=fun a=>
 bif (decide (a<(c.length:Int))) then
  chk (decide (0≤a)&&decide (a<(c.length:Int))) <|
  chk (decide (0≤a)&&decide (a<(d.length:Int))) <|
  a0f (a0a E P0 k N.j4e [.v [.i (at_ c a.toNat 0).asI,.i (at_ c a.toNat 1).asI,.i (at_ c a.toNat 2).asI,.i (at_ c a.toNat 3).asI,.r (at_ c a.toNat 4).asR],.v [.i (at_ d a.toNat 0).asI,.i (at_ d a.toNat 1).asI,.i (at_ d a.toNat 2).asI,.i (at_ d a.toNat 3).asI,.r (at_ d a.toNat 4).asR]]) fun f=>
  bif (!(f.t 0).asB) then some ⟨[.b false],[]⟩ else e (W64 (a+1))
 else
  some ⟨[.b true],[]⟩
def f2i:List Nat:=[0,1,4,5]
def f2j (a c:LL):(Int)→St:=fun d=>⟨a3q [(0,.sl 91 a),(1,.sl 91 c),(4,.b false),(5,.i .i64 d)],a1f []⟩
def c2y (k:Nat) (a c:LL) (d:(Int)→OO):OO:=
 bif ((a.length:Int) != (c.length:Int)) then some ⟨[.b false],[]⟩ else d 0
def d4n (k:Nat) (a b:LL):OO:=
 c2y k a b (fun v=>a1k (b4w k a b) k v)
theorem f9r (k:Nat) (a c:LL):a0a E P0 (k+1) N.j9l [.v [.r a],.v [.r c]]=d4n k a c:=a2c [] [.sr,.sr,.sl,.sr,.bl] f2i (c2y k a c) (f2j a c) (b4w k a c) (by kernel_rfl) (fun j v=>by kernel_rfl)
def d9k (k:Nat) (a c d e:Int) (f:LL) (g:Int) (h:LL) (l m n o p:Int) (q:LL) (u:Int) (w:LL) (x:Int):OO:=
 a0f (a0a E P0 k N.j4e [.v [.i a,.i c,.i d,.i e,.r f],.v [.i m,.i n,.i o,.i p,.r q]]) fun y=>
 bif (!(y.t 0).asB) then
  some ⟨[.b false],[]⟩
 else
  bif (g != u) then
   some ⟨[.b false],[]⟩
  else
   a0f (a0a E P0 k N.j2l [.v [.r h],.v [.r w]]) fun z=>
   bif (!(z.t 0).asB) then
    some ⟨[.b false],[]⟩
   else
    bif (l != x) then some ⟨[.b false],[]⟩ else some ⟨[.b true],[]⟩
theorem g4a (k:Nat) (a b c d:Int) (e:LL) (f:Int) (g:LL) (h l m n o:Int) (p:LL) (q:Int) (t:LL) (u:Int):a0a E P0 (k+1) N.j9m [.v [.i a,.i b,.i c,.i d,.r e,.i f,.r g,.i h],.v [.i l,.i m,.i n,.i o,.r p,.i q,.r t,.i u]]=d9k k a b c d e f g h l m n o p q t u:=by kernel_rfl
def b4x (k:Nat) (c d:LL) (e:(Int)→OO):(Int)→OO:=fun a=>
 bif (decide (a<(c.length:Int))) then
  chk (decide (0≤a)&&decide (a<(c.length:Int))) <|
  chk (decide (0≤a)&&decide (a<(d.length:Int))) <|
  a0f (a0a E P0 k N.j9m [.v [.i (at_ c a.toNat 0).asI,.i (at_ c a.toNat 1).asI,.i (at_ c a.toNat 2).asI,.i (at_ c a.toNat 3).asI,.r (at_ c a.toNat 4).asR,.i (at_ c a.toNat 5).asI,.r (at_ c a.toNat 6).asR,.i (at_ c a.toNat 7).asI],.v [.i (at_ d a.toNat 0).asI,.i (at_ d a.toNat 1).asI,.i (at_ d a.toNat 2).asI,.i (at_ d a.toNat 3).asI,.r (at_ d a.toNat 4).asR,.i (at_ d a.toNat 5).asI,.r (at_ d a.toNat 6).asR,.i (at_ d a.toNat 7).asI]]) fun f=>
  bif (!(f.t 0).asB) then some ⟨[.b false],[]⟩ else e (W64 (a+1))
 else
  some ⟨[.b true],[]⟩
def f2k:List Nat:=[0,1,4,5]
def f2l (a c:LL):(Int)→St:=fun d=>⟨a3q [(0,.sl 94 a),(1,.sl 94 c),(4,.b false),(5,.i .i64 d)],a1f []⟩
def c2z (k:Nat) (a c:LL) (d:(Int)→OO):OO:=
 bif ((a.length:Int) != (c.length:Int)) then some ⟨[.b false],[]⟩ else d 0
def d4o (k:Nat) (a b:LL):OO:=
 c2z k a b (fun v=>a1k (b4x k a b) k v)
theorem f9s (k:Nat) (a c:LL):a0a E P0 (k+1) N.j9n [.v [.r a],.v [.r c]]=d4o k a c:=a2c [] [.sr,.sr,.sl,.sr,.bl] f2k (c2z k a c) (f2l a c) (b4x k a c) (by kernel_rfl) (fun j v=>by kernel_rfl)
def d9l (k:Nat) (a c:Int) (d:LL) (e f:Int) (g:LL):OO:=
 bif (a != e) then
  some ⟨[.b false],[]⟩
 else
  bif (c != f) then
   some ⟨[.b false],[]⟩
  else
   a0f (a0a E P0 k N.j2l [.v [.r d],.v [.r g]]) fun h=>
   bif (!(h.t 0).asB) then some ⟨[.b false],[]⟩ else some ⟨[.b true],[]⟩
theorem g4b (k:Nat) (a b:Int) (c:LL) (d e:Int) (f:LL):a0a E P0 (k+1) N.j5u [.v [.i a,.i b,.r c],.v [.i d,.i e,.r f]]=d9l k a b c d e f:=by kernel_rfl
def b4y (k:Nat) (c d:LL) (e:(Int)→OO):(Int)→OO:=fun a=>
 bif (decide (a<(c.length:Int))) then
  chk (decide (0≤a)&&decide (a<(c.length:Int))) <|
  chk (decide (0≤a)&&decide (a<(d.length:Int))) <|
  a0f (a0a E P0 k N.j5u [.v [.i (at_ c a.toNat 0).asI,.i (at_ c a.toNat 1).asI,.r (at_ c a.toNat 2).asR],.v [.i (at_ d a.toNat 0).asI,.i (at_ d a.toNat 1).asI,.r (at_ d a.toNat 2).asR]]) fun f=>
  bif (!(f.t 0).asB) then some ⟨[.b false],[]⟩ else e (W64 (a+1))
 else
  some ⟨[.b true],[]⟩
def f2m:List Nat:=[0,1,4,5]
def f2n (a c:LL):(Int)→St:=fun d=>⟨a3q [(0,.sl 95 a),(1,.sl 95 c),(4,.b false),(5,.i .i64 d)],a1f []⟩
def c3a (k:Nat) (a c:LL) (d:(Int)→OO):OO:=
 bif ((a.length:Int) != (c.length:Int)) then some ⟨[.b false],[]⟩ else d 0
def d4p (k:Nat) (a b:LL):OO:=
 c3a k a b (fun v=>a1k (b4y k a b) k v)
theorem f9t (k:Nat) (a c:LL):a0a E P0 (k+1) N.j9o [.v [.r a],.v [.r c]]=d4p k a c:=a2c [] [.sr,.sr,.sl,.sr,.bl] f2m (c3a k a c) (f2n a c) (b4y k a c) (by kernel_rfl) (fun j v=>by kernel_rfl)
def d4q (k:Nat) (a c d e:Int) (f:LL) (g h:Int) (l:LL) (m n o p:Int) (q:LL) (u w:Int) (x:LL):OO:=
 a0f (a0a E P0 k N.j4e [.v [.i a,.i c,.i d,.i e,.r f],.v [.i m,.i n,.i o,.i p,.r q]]) fun y=>
 bif (!(y.t 0).asB) then
  some ⟨[.b false],[]⟩
 else
  a0f (a0a E P0 k N.j5u [.v [.i g,.i h,.r l],.v [.i u,.i w,.r x]]) fun z=>
  bif (!(z.t 0).asB) then some ⟨[.b false],[]⟩ else some ⟨[.b true],[]⟩
theorem f9u (k:Nat) (a b c d:Int) (e:LL) (f g:Int) (h:LL) (l m n o:Int) (p:LL) (q t:Int) (u:LL):a0a E P0 (k+1) N.j9p [.v [.i a,.i b,.i c,.i d,.r e,.i f,.i g,.r h],.v [.i l,.i m,.i n,.i o,.r p,.i q,.i t,.r u]]=d4q k a b c d e f g h l m n o p q t u:=by kernel_rfl
def b2q (k:Nat) (c d:LL) (e:(Int)→OO):(Int)→OO:=fun a=>
 bif (decide (a<(c.length:Int))) then
  chk (decide (0≤a)&&decide (a<(c.length:Int))) <|
  chk (decide (0≤a)&&decide (a<(d.length:Int))) <|
  a0f (a0a E P0 k N.j9p [.v [.i (at_ c a.toNat 0).asI,.i (at_ c a.toNat 1).asI,.i (at_ c a.toNat 2).asI,.i (at_ c a.toNat 3).asI,.r (at_ c a.toNat 4).asR,.i (at_ c a.toNat 5).asI,.i (at_ c a.toNat 6).asI,.r (at_ c a.toNat 7).asR],.v [.i (at_ d a.toNat 0).asI,.i (at_ d a.toNat 1).asI,.i (at_ d a.toNat 2).asI,.i (at_ d a.toNat 3).asI,.r (at_ d a.toNat 4).asR,.i (at_ d a.toNat 5).asI,.i (at_ d a.toNat 6).asI,.r (at_ d a.toNat 7).asR]]) fun f=>
  bif (!(f.t 0).asB) then some ⟨[.b false],[]⟩ else e (W64 (a+1))
 else
  some ⟨[.b true],[]⟩
def e6y:List Nat:=[0,1,4,5]
def e6z (a c:LL):(Int)→St:=fun d=>⟨a3q [(0,.sl 98 a),(1,.sl 98 c),(4,.b false),(5,.i .i64 d)],a1f []⟩
def c0q (k:Nat) (a c:LL) (d:(Int)→OO):OO:=
 bif ((a.length:Int) != (c.length:Int)) then some ⟨[.b false],[]⟩ else d 0
def c9s (k:Nat) (a b:LL):OO:=
 c0q k a b (fun v=>a1k (b2q k a b) k v)
theorem f2o (k:Nat) (a c:LL):a0a E P0 (k+1) N.j9q [.v [.r a],.v [.r c]]=c9s k a c:=a2c [] [.sr,.sr,.sl,.sr,.bl] e6y (c0q k a c) (e6z a c) (b2q k a c) (by kernel_rfl) (fun j v=>by kernel_rfl)
def d9m (k:Nat) (a c d:Int) (e:LL) (f g h l m:Int) (n:LL) (o:Int) (p q:Bool) (u w x y:LL) (z A B:Int) (C:LL) (D F G H J:Int) (K:LL) (L:Int) (M O:Bool) (Q R S U:LL):OO:=
 a0f (a0a E P0 k N.j9k [.v [.i a,.i c,.i d,.r e,.i f,.i g,.i h,.i l,.i m,.r n,.i o,.b p,.b q],.v [.i z,.i A,.i B,.r C,.i D,.i F,.i G,.i H,.i J,.r K,.i L,.b M,.b O]]) fun V=>
 bif (!(V.t 0).asB) then
  some ⟨[.b false],[]⟩
 else
  a0f (a0a E P0 k N.j9l [.v [.r u],.v [.r Q]]) fun W=>
  bif (!(W.t 0).asB) then
   some ⟨[.b false],[]⟩
  else
   a0f (a0a E P0 k N.j9n [.v [.r w],.v [.r R]]) fun X=>
   bif (!(X.t 0).asB) then
    some ⟨[.b false],[]⟩
   else
    a0f (a0a E P0 k N.j9o [.v [.r x],.v [.r S]]) fun Y=>
    bif (!(Y.t 0).asB) then
     some ⟨[.b false],[]⟩
    else
     a0f (a0a E P0 k N.j9q [.v [.r y],.v [.r U]]) fun Z=>
     bif (!(Z.t 0).asB) then some ⟨[.b false],[]⟩ else some ⟨[.b true],[]⟩
theorem g4c (k:Nat) (a c d:Int) (e:LL) (f g h l m:Int) (n:LL) (o:Int) (p q:Bool) (t u w x:LL) (y z A:Int) (B:LL) (C D F G H:Int) (J:LL) (K:Int) (L M:Bool) (O Q R S:LL):a0a E P0 (k+1) N.j2x [.v [.i a,.i c,.i d,.r e,.i f,.i g,.i h,.i l,.i m,.r n,.i o,.b p,.b q,.r t,.r u,.r w,.r x],.v [.i y,.i z,.i A,.r B,.i C,.i D,.i F,.i G,.i H,.r J,.i K,.b L,.b M,.r O,.r Q,.r R,.r S]]=d9m k a c d e f g h l m n o p q t u w x y z A B C D F G H J K L M O Q R S:=by kernel_rfl
def a9x (k:Nat) (d:(V2_)→OO):(V2_)→OO:=fun (c,a,b)=>
 bif (decide (a<(b.length:Int))) then
  chk (decide (0≤a)&&decide (a<(b.length:Int))) <|
  d ((W64 (c+1)),(W64 (a+1)),(a0x b a.toNat 0 [.i c]))
 else
  some ⟨[.i c],[[.r b]]⟩
def e0k:List Nat:=[0,1,4,5,18]
def e0l:(V2_)→St:=fun (a,b,c)=>ST_ [(0,.ref (0,0)),(1,.w_ a),(4,.w_ 0),(5,.w_ b),(18,.skip)] [((0,0),.row 3 true c)]
def b8b (k:Nat) (a:LL) (b:Int) (c:(V2_)→OO):OO:=
 c (b,0,a)
def c6g (k:Nat) (a:LL) (b:Int):OO:=
 b8b k a b (fun v=>a1k (a9x k) k v)
theorem e7a (k:Nat) (a:LL) (c:Int):a0a E P0 (k+1) N.j1y [.r a,.v [.i c]]=c6g k a c:=a2c [0] [.sr,.sl,.sr,.bl] e0k (b8b k a c) (e0l) (a9x k) (by kernel_rfl) (fun j v=>by kernel_rfl)
def a8g (k:Nat) (e:(V2_)→OO):(V2_)→OO:=fun (c,a,b)=>
 bif (decide (a<(b.length:Int))) then
  chk (decide (0≤a)&&decide (a<(b.length:Int))) <|
  a0f (a0a E P0 k N.j1y [.r ((at_ b a.toNat 0).asR),.v [.i c]]) fun d=>
  e ((d.t 0).asI,(W64 (a+1)),(a0x b a.toNat 0 [.r ((d.vt 0 0).asR)]))
 else
  some ⟨[.i c],[[.r b]]⟩
def d6l:List Nat:=[0,1,4,5,18]
def d6m:(V2_)→St:=fun (a,b,c)=>SD_ [(0,.ref (0,0)),(1,.w_ a),(4,.w_ 0),(5,.w_ b),(18,.skip)] [((0,0),.deep 78 c none)]
def b5r (k:Nat) (a:LL) (b:Int) (c:(V2_)→OO):OO:=
 c (b,0,a)
def c3z (k:Nat) (a:LL) (b:Int):OO:=
 b5r k a b (fun v=>a1k (a8g k) k v)
theorem e0m (k:Nat) (a:LL) (c:Int):a0a E P0 (k+1) N.j9r [.r a,.v [.i c]]=c3z k a c:=a2c [0] [.sr,.sl,.sr,.bl] d6l (b5r k a c) (d6m) (a8g k) (by kernel_rfl) (fun j v=>by kernel_rfl)
def b2r (k:Nat) (e:(V2_)→OO):(V2_)→OO:=fun (c,a,b)=>
 bif (decide (a<(b.length:Int))) then
  chk (decide (0≤a)&&decide (a<(b.length:Int))) <|
  chk (decide (0≤a)&&decide (a<((a0x b a.toNat 0 [.i c]).length:Int))) <|
  a0f (a0a E P0 k N.j1y [.r ((at_ (a0x b a.toNat 0 [.i c]) a.toNat 1).asR),.v [.i (W64 (c+1))]]) fun d=>
  e ((d.t 0).asI,(W64 (a+1)),(a0x (a0x b a.toNat 0 [.i c]) a.toNat 1 [.r ((d.vt 0 0).asR)]))
 else
  some ⟨[.i c],[[.r b]]⟩
def e7b:List Nat:=[0,1,4,5,26]
def e7c:(V2_)→St:=fun (a,b,c)=>SD_ [(0,.ref (0,0)),(1,.w_ a),(4,.w_ 0),(5,.w_ b),(26,.skip)] [((0,0),.deep 161 c none)]
def c0r (k:Nat) (a:LL) (b:Int) (c:(V2_)→OO):OO:=
 c (b,0,a)
def c9t (k:Nat) (a:LL) (b:Int):OO:=
 c0r k a b (fun v=>a1k (b2r k) k v)
theorem f2p (k:Nat) (a:LL) (c:Int):a0a E P0 (k+1) N.j9s [.r a,.v [.i c]]=c9t k a c:=a2c [0] [.sr,.sl,.sr,.bl] e7b (c0r k a c) (e7c) (b2r k) (by kernel_rfl) (fun j v=>by kernel_rfl)
def a9y (k:Nat) (h:(V2_)→OO):(V2_)→OO:=fun (f,a,c)=>
 bif (decide (a<(c.length:Int))) then
  chk (decide (0≤a)&&decide (a<(c.length:Int))) <|
  a0f (a0a E P0 k N.j9r [.r ((at_ c a.toNat 0).asR),.v [.i f]]) fun e=>
  chk (decide (0≤a)&&decide (a<(c.length:Int))) <|
  a0f (a0a E P0 k N.j9s [.r ((at_ (a0x c a.toNat 0 [.r ((e.vt 0 0).asR)]) a.toNat 1).asR),.v [.i (e.t 0).asI]]) fun d=>
  chk (decide (0≤a)&&decide (a<((a0x c a.toNat 0 [.r ((e.vt 0 0).asR)]).length:Int))) <|
  chk (decide (0≤a)&&decide (a<((a0x (a0x (a0x c a.toNat 0 [.r ((e.vt 0 0).asR)]) a.toNat 1 [.r ((d.vt 0 0).asR)]) a.toNat 2 [.b ((Int.tmod (d.t 0).asI 3) == 0)]).length:Int))) <|
  a0f (a0a E P0 k N.j1y [.r ((at_ (a0x (a0x (a0x c a.toNat 0 [.r ((e.vt 0 0).asR)]) a.toNat 1 [.r ((d.vt 0 0).asR)]) a.toNat 2 [.b ((Int.tmod (d.t 0).asI 3) == 0)]) a.toNat 3).asR),.v [.i (W64 ((d.t 0).asI+1))]]) fun g=>
  h ((g.t 0).asI,(W64 (a+1)),(a0x (a0x (a0x (a0x c a.toNat 0 [.r ((e.vt 0 0).asR)]) a.toNat 1 [.r ((d.vt 0 0).asR)]) a.toNat 2 [.b ((Int.tmod (d.t 0).asI 3) == 0)]) a.toNat 3 [.r ((g.vt 0 0).asR)]))
 else
  some ⟨[.i f],[[.r c]]⟩
def e0n:List Nat:=[0,1,4,5,42]
def e0o:(V2_)→St:=fun (a,b,c)=>SD_ [(0,.ref (0,0)),(1,.w_ a),(4,.w_ 0),(5,.w_ b),(42,.skip)] [((0,0),.deep 135 c none)]
def b8c (k:Nat) (a:LL) (b:Int) (c:(V2_)→OO):OO:=
 c (b,0,a)
def c6h (k:Nat) (a:LL) (b:Int):OO:=
 b8c k a b (fun v=>a1k (a9y k) k v)
theorem e7d (k:Nat) (a:LL) (c:Int):a0a E P0 (k+1) N.j9t [.r a,.v [.i c]]=c6h k a c:=a2c [0] [.sr,.sl,.sr,.bl] e0n (b8c k a c) (e0o) (a9y k) (by kernel_rfl) (fun j v=>by kernel_rfl)
def a9z (k:Nat) (e:(V2_)→OO):(V2_)→OO:=fun (c,a,b)=>
 bif (decide (a<(b.length:Int))) then
  chk (decide (0≤a)&&decide (a<(b.length:Int))) <|
  chk (decide (0≤a)&&decide (a<((a0x b a.toNat 0 [.i c]).length:Int))) <|
  a0f (a0a E P0 k N.j1y [.r ((at_ (a0x b a.toNat 0 [.i c]) a.toNat 1).asR),.v [.i (W64 (c+1))]]) fun d=>
  e ((d.t 0).asI,(W64 (a+1)),(a0x (a0x b a.toNat 0 [.i c]) a.toNat 1 [.r ((d.vt 0 0).asR)]))
 else
  some ⟨[.i c],[[.r b]]⟩
def e0p:List Nat:=[0,1,4,5,26]
def e0q:(V2_)→St:=fun (a,b,c)=>SD_ [(0,.ref (0,0)),(1,.w_ a),(4,.w_ 0),(5,.w_ b),(26,.skip)] [((0,0),.deep 137 c none)]
def b8d (k:Nat) (a:LL) (b:Int) (c:(V2_)→OO):OO:=
 c (b,0,a)
def c6i (k:Nat) (a:LL) (b:Int):OO:=
 b8d k a b (fun v=>a1k (a9z k) k v)
theorem e7e (k:Nat) (a:LL) (c:Int):a0a E P0 (k+1) N.j9u [.r a,.v [.i c]]=c6i k a c:=a2c [0] [.sr,.sl,.sr,.bl] e0p (b8d k a c) (e0q) (a9z k) (by kernel_rfl) (fun j v=>by kernel_rfl)
def c9u (k:Nat) (d e f:Int) (g:LL) (h l m n o:Int) (p:LL) (q:Int) (u w:Bool) (x:Int):OO:=
 BK_ k N.j9t [.r g,vi_ x] fun a=>
 BK_ k N.j9u [.r p,vi_ (a.t 0).asI] fun c=>
 some ⟨[.i (c.t 0).asI],[[.i d,.i e,.i f,.r (a.vt 0 0).asR,.i h,.i l,.i m,.i n,.i o,.r (c.vt 0 0).asR,.i q,.b u,.b w]]⟩
theorem f2q (k:Nat) (a c d:Int) (e:LL) (f g h l m:Int) (n:LL) (o:Int) (p q:Bool) (t:Int):a0a E P0 (k+1) N.j9v [.s (S0_ a c d e f g h l m n o p q),vi_ t]=c9u k a c d e f g h l m n o p q t:=by kernel_rfl
def b0a (k:Nat) (e:(V2_)→OO):(V2_)→OO:=fun (b,a,c)=>
 bif (decide (a<(c.length:Int))) then
  chk (decide (0≤a)&&decide (a<(c.length:Int))) <|
  chk (decide (0≤a)&&decide (a<((a0x c a.toNat 0 [.i b]).length:Int))) <|
  chk (decide (0≤a)&&decide (a<((a0x (a0x c a.toNat 0 [.i b]) a.toNat 1 [.i (W64 (b+1))]).length:Int))) <|
  chk (decide (0≤a)&&decide (a<((a0x (a0x (a0x c a.toNat 0 [.i b]) a.toNat 1 [.i (W64 (b+1))]) a.toNat 2 [.i (W64 ((W64 (b+1))+1))]).length:Int))) <|
  chk (decide (0≤a)&&decide (a<((a0x (a0x (a0x (a0x c a.toNat 0 [.i b]) a.toNat 1 [.i (W64 (b+1))]) a.toNat 2 [.i (W64 ((W64 (b+1))+1))]) a.toNat 3 [.i (W64 ((W64 ((W64 (b+1))+1))+1))]).length:Int))) <|
  a0f (a0a E P0 k N.j1y [.r ((at_ (a0x (a0x (a0x (a0x c a.toNat 0 [.i b]) a.toNat 1 [.i (W64 (b+1))]) a.toNat 2 [.i (W64 ((W64 (b+1))+1))]) a.toNat 3 [.i (W64 ((W64 ((W64 (b+1))+1))+1))]) a.toNat 4).asR),.v [.i (W64 ((W64 ((W64 ((W64 (b+1))+1))+1))+1))]]) fun d=>
  e ((d.t 0).asI,(W64 (a+1)),(a0x (a0x (a0x (a0x (a0x c a.toNat 0 [.i b]) a.toNat 1 [.i (W64 (b+1))]) a.toNat 2 [.i (W64 ((W64 (b+1))+1))]) a.toNat 3 [.i (W64 ((W64 ((W64 (b+1))+1))+1))]) a.toNat 4 [.r ((d.vt 0 0).asR)]))
 else
  some ⟨[.i b],[[.r c]]⟩
def e0r:List Nat:=[0,1,4,5,47]
def e0s:(V2_)→St:=fun (a,b,c)=>SD_ [(0,.ref (0,0)),(1,.w_ a),(4,.w_ 0),(5,.w_ b),(47,.skip)] [((0,0),.deep 91 c none)]
def b8e (k:Nat) (a:LL) (b:Int) (c:(V2_)→OO):OO:=
 c (b,0,a)
def c6j (k:Nat) (a:LL) (b:Int):OO:=
 b8e k a b (fun v=>a1k (b0a k) k v)
theorem e7f (k:Nat) (a:LL) (c:Int):a0a E P0 (k+1) N.j9w [.r a,.v [.i c]]=c6j k a c:=a2c [0] [.sr,.sl,.sr,.bl] e0r (b8e k a c) (e0s) (b0a k) (by kernel_rfl) (fun j v=>by kernel_rfl)
def b0b (k:Nat) (f:(V2_)→OO):(V2_)→OO:=fun (b,a,c)=>
 bif (decide (a<(c.length:Int))) then
  chk (decide (0≤a)&&decide (a<(c.length:Int))) <|
  chk (decide (0≤a)&&decide (a<((a0x c a.toNat 0 [.i b]).length:Int))) <|
  chk (decide (0≤a)&&decide (a<((a0x (a0x c a.toNat 0 [.i b]) a.toNat 1 [.i (W64 (b+1))]).length:Int))) <|
  chk (decide (0≤a)&&decide (a<((a0x (a0x (a0x c a.toNat 0 [.i b]) a.toNat 1 [.i (W64 (b+1))]) a.toNat 2 [.i (W64 ((W64 (b+1))+1))]).length:Int))) <|
  chk (decide (0≤a)&&decide (a<((a0x (a0x (a0x (a0x c a.toNat 0 [.i b]) a.toNat 1 [.i (W64 (b+1))]) a.toNat 2 [.i (W64 ((W64 (b+1))+1))]) a.toNat 3 [.i (W64 ((W64 ((W64 (b+1))+1))+1))]).length:Int))) <|
  a0f (a0a E P0 k N.j1y [.r ((at_ (a0x (a0x (a0x (a0x c a.toNat 0 [.i b]) a.toNat 1 [.i (W64 (b+1))]) a.toNat 2 [.i (W64 ((W64 (b+1))+1))]) a.toNat 3 [.i (W64 ((W64 ((W64 (b+1))+1))+1))]) a.toNat 4).asR),.v [.i (W64 ((W64 ((W64 ((W64 (b+1))+1))+1))+1))]]) fun d=>
  chk (decide (0≤a)&&decide (a<((a0x (a0x (a0x (a0x c a.toNat 0 [.i b]) a.toNat 1 [.i (W64 (b+1))]) a.toNat 2 [.i (W64 ((W64 (b+1))+1))]) a.toNat 3 [.i (W64 ((W64 ((W64 (b+1))+1))+1))]).length:Int))) <|
  chk (decide (0≤a)&&decide (a<((a0x (a0x (a0x (a0x (a0x (a0x c a.toNat 0 [.i b]) a.toNat 1 [.i (W64 (b+1))]) a.toNat 2 [.i (W64 ((W64 (b+1))+1))]) a.toNat 3 [.i (W64 ((W64 ((W64 (b+1))+1))+1))]) a.toNat 4 [.r ((d.vt 0 0).asR)]) a.toNat 5 [.i (d.t 0).asI]).length:Int))) <|
  a0f (a0a E P0 k N.j1y [.r ((at_ (a0x (a0x (a0x (a0x (a0x (a0x c a.toNat 0 [.i b]) a.toNat 1 [.i (W64 (b+1))]) a.toNat 2 [.i (W64 ((W64 (b+1))+1))]) a.toNat 3 [.i (W64 ((W64 ((W64 (b+1))+1))+1))]) a.toNat 4 [.r ((d.vt 0 0).asR)]) a.toNat 5 [.i (d.t 0).asI]) a.toNat 6).asR),.v [.i (W64 ((d.t 0).asI+1))]]) fun e=>
  chk (decide (0≤a)&&decide (a<((a0x (a0x (a0x (a0x (a0x (a0x c a.toNat 0 [.i b]) a.toNat 1 [.i (W64 (b+1))]) a.toNat 2 [.i (W64 ((W64 (b+1))+1))]) a.toNat 3 [.i (W64 ((W64 ((W64 (b+1))+1))+1))]) a.toNat 4 [.r ((d.vt 0 0).asR)]) a.toNat 5 [.i (d.t 0).asI]).length:Int))) <|
  f ((W64 ((e.t 0).asI+1)),(W64 (a+1)),(a0x (a0x (a0x (a0x (a0x (a0x (a0x (a0x c a.toNat 0 [.i b]) a.toNat 1 [.i (W64 (b+1))]) a.toNat 2 [.i (W64 ((W64 (b+1))+1))]) a.toNat 3 [.i (W64 ((W64 ((W64 (b+1))+1))+1))]) a.toNat 4 [.r ((d.vt 0 0).asR)]) a.toNat 5 [.i (d.t 0).asI]) a.toNat 6 [.r ((e.vt 0 0).asR)]) a.toNat 7 [.i (e.t 0).asI]))
 else
  some ⟨[.i b],[[.r c]]⟩
def e0t:List Nat:=[0,1,4,5,73]
def e0u:(V2_)→St:=fun (a,b,c)=>SD_ [(0,.ref (0,0)),(1,.w_ a),(4,.w_ 0),(5,.w_ b),(73,.skip)] [((0,0),.deep 94 c none)]
def b8f (k:Nat) (a:LL) (b:Int) (c:(V2_)→OO):OO:=
 c (b,0,a)
def c6k (k:Nat) (a:LL) (b:Int):OO:=
 b8f k a b (fun v=>a1k (b0b k) k v)
theorem e7g (k:Nat) (a:LL) (c:Int):a0a E P0 (k+1) N.j9x [.r a,.v [.i c]]=c6k k a c:=a2c [0] [.sr,.sl,.sr,.bl] e0t (b8f k a c) (e0u) (b0b k) (by kernel_rfl) (fun j v=>by kernel_rfl)
def b0c (k:Nat) (e:(V2_)→OO):(V2_)→OO:=fun (b,a,c)=>
 bif (decide (a<(c.length:Int))) then
  chk (decide (0≤a)&&decide (a<(c.length:Int))) <|
  chk (decide (0≤a)&&decide (a<((a0x c a.toNat 0 [.i b]).length:Int))) <|
  chk (decide (0≤a)&&decide (a<((a0x (a0x c a.toNat 0 [.i b]) a.toNat 1 [.i (W64 (b+1))]).length:Int))) <|
  a0f (a0a E P0 k N.j1y [.r ((at_ (a0x (a0x c a.toNat 0 [.i b]) a.toNat 1 [.i (W64 (b+1))]) a.toNat 2).asR),.v [.i (W64 ((W64 (b+1))+1))]]) fun d=>
  e ((d.t 0).asI,(W64 (a+1)),(a0x (a0x (a0x c a.toNat 0 [.i b]) a.toNat 1 [.i (W64 (b+1))]) a.toNat 2 [.r ((d.vt 0 0).asR)]))
 else
  some ⟨[.i b],[[.r c]]⟩
def e0v:List Nat:=[0,1,4,5,33]
def e0w:(V2_)→St:=fun (a,b,c)=>SD_ [(0,.ref (0,0)),(1,.w_ a),(4,.w_ 0),(5,.w_ b),(33,.skip)] [((0,0),.deep 95 c none)]
def b8g (k:Nat) (a:LL) (b:Int) (c:(V2_)→OO):OO:=
 c (b,0,a)
def c6l (k:Nat) (a:LL) (b:Int):OO:=
 b8g k a b (fun v=>a1k (b0c k) k v)
theorem e7h (k:Nat) (a:LL) (c:Int):a0a E P0 (k+1) N.j9y [.r a,.v [.i c]]=c6l k a c:=a2c [0] [.sr,.sl,.sr,.bl] e0v (b8g k a c) (e0w) (b0c k) (by kernel_rfl) (fun j v=>by kernel_rfl)
def a8h (k:Nat) (f:(V2_)→OO):(V2_)→OO:=fun (b,a,c)=>
 bif (decide (a<(c.length:Int))) then
  chk (decide (0≤a)&&decide (a<(c.length:Int))) <|
  chk (decide (0≤a)&&decide (a<((a0x c a.toNat 0 [.i b]).length:Int))) <|
  chk (decide (0≤a)&&decide (a<((a0x (a0x c a.toNat 0 [.i b]) a.toNat 1 [.i (W64 (b+1))]).length:Int))) <|
  chk (decide (0≤a)&&decide (a<((a0x (a0x (a0x c a.toNat 0 [.i b]) a.toNat 1 [.i (W64 (b+1))]) a.toNat 2 [.i (W64 ((W64 (b+1))+1))]).length:Int))) <|
  chk (decide (0≤a)&&decide (a<((a0x (a0x (a0x (a0x c a.toNat 0 [.i b]) a.toNat 1 [.i (W64 (b+1))]) a.toNat 2 [.i (W64 ((W64 (b+1))+1))]) a.toNat 3 [.i (W64 ((W64 ((W64 (b+1))+1))+1))]).length:Int))) <|
  a0f (a0a E P0 k N.j1y [.r ((at_ (a0x (a0x (a0x (a0x c a.toNat 0 [.i b]) a.toNat 1 [.i (W64 (b+1))]) a.toNat 2 [.i (W64 ((W64 (b+1))+1))]) a.toNat 3 [.i (W64 ((W64 ((W64 (b+1))+1))+1))]) a.toNat 4).asR),.v [.i (W64 ((W64 ((W64 ((W64 (b+1))+1))+1))+1))]]) fun d=>
  chk (decide (0≤a)&&decide (a<((a0x (a0x (a0x (a0x c a.toNat 0 [.i b]) a.toNat 1 [.i (W64 (b+1))]) a.toNat 2 [.i (W64 ((W64 (b+1))+1))]) a.toNat 3 [.i (W64 ((W64 ((W64 (b+1))+1))+1))]).length:Int))) <|
  chk (decide (0≤a)&&decide (a<((a0x (a0x (a0x (a0x (a0x (a0x c a.toNat 0 [.i b]) a.toNat 1 [.i (W64 (b+1))]) a.toNat 2 [.i (W64 ((W64 (b+1))+1))]) a.toNat 3 [.i (W64 ((W64 ((W64 (b+1))+1))+1))]) a.toNat 4 [.r ((d.vt 0 0).asR)]) a.toNat 5 [.i (d.t 0).asI]).length:Int))) <|
  chk (decide (0≤a)&&decide (a<((a0x (a0x (a0x (a0x (a0x (a0x (a0x c a.toNat 0 [.i b]) a.toNat 1 [.i (W64 (b+1))]) a.toNat 2 [.i (W64 ((W64 (b+1))+1))]) a.toNat 3 [.i (W64 ((W64 ((W64 (b+1))+1))+1))]) a.toNat 4 [.r ((d.vt 0 0).asR)]) a.toNat 5 [.i (d.t 0).asI]) a.toNat 6 [.i (W64 ((d.t 0).asI+1))]).length:Int))) <|
  a0f (a0a E P0 k N.j1y [.r ((at_ (a0x (a0x (a0x (a0x (a0x (a0x (a0x c a.toNat 0 [.i b]) a.toNat 1 [.i (W64 (b+1))]) a.toNat 2 [.i (W64 ((W64 (b+1))+1))]) a.toNat 3 [.i (W64 ((W64 ((W64 (b+1))+1))+1))]) a.toNat 4 [.r ((d.vt 0 0).asR)]) a.toNat 5 [.i (d.t 0).asI]) a.toNat 6 [.i (W64 ((d.t 0).asI+1))]) a.toNat 7).asR),.v [.i (W64 ((W64 ((d.t 0).asI+1))+1))]]) fun e=>
  f ((e.t 0).asI,(W64 (a+1)),(a0x (a0x (a0x (a0x (a0x (a0x (a0x (a0x c a.toNat 0 [.i b]) a.toNat 1 [.i (W64 (b+1))]) a.toNat 2 [.i (W64 ((W64 (b+1))+1))]) a.toNat 3 [.i (W64 ((W64 ((W64 (b+1))+1))+1))]) a.toNat 4 [.r ((d.vt 0 0).asR)]) a.toNat 5 [.i (d.t 0).asI]) a.toNat 6 [.i (W64 ((d.t 0).asI+1))]) a.toNat 7 [.r ((e.vt 0 0).asR)]))
 else
  some ⟨[.i b],[[.r c]]⟩
def d6n:List Nat:=[0,1,4,5,76]
def d6o:(V2_)→St:=fun (a,b,c)=>SD_ [(0,.ref (0,0)),(1,.w_ a),(4,.w_ 0),(5,.w_ b),(76,.skip)] [((0,0),.deep 98 c none)]
def b5s (k:Nat) (a:LL) (b:Int) (c:(V2_)→OO):OO:=
 c (b,0,a)
def c4a (k:Nat) (a:LL) (b:Int):OO:=
 b5s k a b (fun v=>a1k (a8h k) k v)
theorem e0x (k:Nat) (a:LL) (c:Int):a0a E P0 (k+1) N.j9z [.r a,.v [.i c]]=c4a k a c:=a2c [0] [.sr,.sl,.sr,.bl] d6n (b5s k a c) (d6o) (a8h k) (by kernel_rfl) (fun j v=>by kernel_rfl)
def c9v (k:Nat) (c d e:Int) (y:LL) (f g h l m:Int) (z:LL) (n:Int) (o p:Bool) (A B C D:LL) (F:Int):OO:=
 BK_ k N.j9v [.s (S0_ c d e y f g h l m z n o p),vi_ F] fun a=>
 BK_ k N.j9w [.r A,vi_ (a.t 0).asI] fun q=>
 BK_ k N.j9x [.r B,vi_ (q.t 0).asI] fun u=>
 BK_ k N.j9y [.r C,vi_ (u.t 0).asI] fun w=>
 BK_ k N.j9z [.r D,vi_ (w.t 0).asI] fun x=>
 some ⟨[.i (x.t 0).asI],[[.i c,.i d,.i e,.r (a.vt 0 3).asR,.i f,.i g,.i h,.i l,.i m,.r (a.vt 0 9).asR,.i n,.b o,.b p,.r (q.vt 0 0).asR,.r (u.vt 0 0).asR,.r (w.vt 0 0).asR,.r (x.vt 0 0).asR]]⟩
theorem f2r (k:Nat) (a c d:Int) (e:LL) (f g h l m:Int) (n:LL) (o:Int) (p q:Bool) (t u w x:LL) (y:Int):a0a E P0 (k+1) N.j5v [.s (S2_ a c d e f g h l m n o p q t u w x),vi_ y]=c9v k a c d e f g h l m n o p q t u w x y:=by kernel_rfl
def b0d (k:Nat) (b:LL) (d:(V1_)→OO):(V1_)→OO:=fun (c,a)=>
 bif (decide (a<(b.length:Int))) then
  chk (decide (0≤a)&&decide (a<(b.length:Int))) <|
  bif ((at_ b a.toNat 0).asI != c) then
   some ⟨[.i (-1)],[]⟩
  else
   d ((W64 (c+1)),(W64 (a+1)))
 else
  some ⟨[.i c],[]⟩
def e0y:List Nat:=[0,1,4,5,20]
def e0z (a:LL):(V1_)→St:=fun (b,c)=>⟨a3q [(0,.sl 3 a),(1,.i .i64 b),(4,.i .i64 0),(5,.i .i64 c),(20,.skip)],a1f []⟩
def b8h (k:Nat) (c:LL) (a:Int) (b:(V1_)→OO):OO:=
 b (a,0)
def c6m (k:Nat) (a:LL) (b:Int):OO:=
 b8h k a b (fun v=>a1k (b0d k a) k v)
theorem e7i (k:Nat) (a:LL) (c:Int):a0a E P0 (k+1) N.j1z [.v [.r a],.v [.i c]]=c6m k a c:=a2c [] [.sr,.sl,.sr,.bl] e0y (b8h k a c) (e0z a) (b0d k a) (by kernel_rfl) (fun j v=>by kernel_rfl)
def a8i (k:Nat) (b:LL) (e:(V1_)→OO):(V1_)→OO:=fun (c,a)=>
 bif (decide (a<(b.length:Int))) then
  chk (decide (0≤a)&&decide (a<(b.length:Int))) <|
  a0f (a0a E P0 k N.j1z [.v [.r (at_ b a.toNat 0).asR],.v [.i c]]) fun d=>
  bif (decide ((d.t 0).asI<0)) then some ⟨[.i (-1)],[]⟩ else e ((d.t 0).asI,(W64 (a+1)))
 else
  some ⟨[.i c],[]⟩
def d6p:List Nat:=[0,1,4,5,20]
def d6q (a:LL):(V1_)→St:=fun (b,c)=>⟨a3q [(0,.sl 78 a),(1,.i .i64 b),(4,.i .i64 0),(5,.i .i64 c),(20,.skip)],a1f []⟩
def b5t (k:Nat) (c:LL) (a:Int) (b:(V1_)→OO):OO:=
 b (a,0)
def c4b (k:Nat) (a:LL) (b:Int):OO:=
 b5t k a b (fun v=>a1k (a8i k a) k v)
theorem e1a (k:Nat) (a:LL) (c:Int):a0a E P0 (k+1) N.k0a [.v [.r a],.v [.i c]]=c4b k a c:=a2c [] [.sr,.sl,.sr,.bl] d6p (b5t k a c) (d6q a) (a8i k a) (by kernel_rfl) (fun j v=>by kernel_rfl)
def b2s (k:Nat) (b:LL) (e:(V1_)→OO):(V1_)→OO:=fun (c,a)=>
 bif (decide (a<(b.length:Int))) then
  chk (decide (0≤a)&&decide (a<(b.length:Int))) <|
  bif ((at_ b a.toNat 0).asI != c) then
   some ⟨[.i (-1)],[]⟩
  else
   chk (decide (0≤a)&&decide (a<(b.length:Int))) <|
   a0f (a0a E P0 k N.j1z [.v [.r (at_ b a.toNat 1).asR],.v [.i (W64 (c+1))]]) fun d=>
   bif (decide ((d.t 0).asI<0)) then some ⟨[.i (-1)],[]⟩ else e ((d.t 0).asI,(W64 (a+1)))
 else
  some ⟨[.i c],[]⟩
def e7j:List Nat:=[0,1,4,5,30]
def e7k (a:LL):(V1_)→St:=fun (b,c)=>⟨a3q [(0,.sl 161 a),(1,.i .i64 b),(4,.i .i64 0),(5,.i .i64 c),(30,.skip)],a1f []⟩
def c0s (k:Nat) (c:LL) (a:Int) (b:(V1_)→OO):OO:=
 b (a,0)
def c9w (k:Nat) (a:LL) (b:Int):OO:=
 c0s k a b (fun v=>a1k (b2s k a) k v)
theorem f2s (k:Nat) (a:LL) (c:Int):a0a E P0 (k+1) N.k0b [.v [.r a],.v [.i c]]=c9w k a c:=a2c [] [.sr,.sl,.sr,.bl] e7j (c0s k a c) (e7k a) (b2s k a) (by kernel_rfl) (fun j v=>by kernel_rfl)
def b0e (k:Nat) (b:LL) (g:(V1_)→OO):(V1_)→OO:=fun (d,a)=>
 bif (decide (a<(b.length:Int))) then
  chk (decide (0≤a)&&decide (a<(b.length:Int))) <|
  a0f (a0a E P0 k N.k0a [.v [.r (at_ b a.toNat 0).asR],.v [.i d]]) fun e=>
  bif (decide ((e.t 0).asI<0)) then
   some ⟨[.i (-1)],[]⟩
  else
   chk (decide (0≤a)&&decide (a<(b.length:Int))) <|
   a0f (a0a E P0 k N.k0b [.v [.r (at_ b a.toNat 1).asR],.v [.i (e.t 0).asI]]) fun c=>
   bif (decide ((c.t 0).asI<0)) then
    some ⟨[.i (-1)],[]⟩
   else
    chk (decide (0≤a)&&decide (a<(b.length:Int))) <|
    bif (!((at_ b a.toNat 2).asB == ((Int.tmod (c.t 0).asI 3) == 0))) then
     some ⟨[.i (-1)],[]⟩
    else
     chk (decide (0≤a)&&decide (a<(b.length:Int))) <|
     a0f (a0a E P0 k N.j1z [.v [.r (at_ b a.toNat 3).asR],.v [.i (W64 ((c.t 0).asI+1))]]) fun f=>
     bif (decide ((f.t 0).asI<0)) then some ⟨[.i (-1)],[]⟩ else g ((f.t 0).asI,(W64 (a+1)))
 else
  some ⟨[.i d],[]⟩
def e1b:List Nat:=[0,1,4,5,50]
def e1c (a:LL):(V1_)→St:=fun (b,c)=>⟨a3q [(0,.sl 135 a),(1,.i .i64 b),(4,.i .i64 0),(5,.i .i64 c),(50,.skip)],a1f []⟩
def b8i (k:Nat) (c:LL) (a:Int) (b:(V1_)→OO):OO:=
 b (a,0)
def c6n (k:Nat) (a:LL) (b:Int):OO:=
 b8i k a b (fun v=>a1k (b0e k a) k v)
theorem e7l (k:Nat) (a:LL) (c:Int):a0a E P0 (k+1) N.k0c [.v [.r a],.v [.i c]]=c6n k a c:=a2c [] [.sr,.sl,.sr,.bl] e1b (b8i k a c) (e1c a) (b0e k a) (by kernel_rfl) (fun j v=>by kernel_rfl)
def b0f (k:Nat) (b:LL) (e:(V1_)→OO):(V1_)→OO:=fun (c,a)=>
 bif (decide (a<(b.length:Int))) then
  chk (decide (0≤a)&&decide (a<(b.length:Int))) <|
  bif ((at_ b a.toNat 0).asI != c) then
   some ⟨[.i (-1)],[]⟩
  else
   chk (decide (0≤a)&&decide (a<(b.length:Int))) <|
   a0f (a0a E P0 k N.j1z [.v [.r (at_ b a.toNat 1).asR],.v [.i (W64 (c+1))]]) fun d=>
   bif (decide ((d.t 0).asI<0)) then some ⟨[.i (-1)],[]⟩ else e ((d.t 0).asI,(W64 (a+1)))
 else
  some ⟨[.i c],[]⟩
def e1d:List Nat:=[0,1,4,5,30]
def e1e (a:LL):(V1_)→St:=fun (b,c)=>⟨a3q [(0,.sl 137 a),(1,.i .i64 b),(4,.i .i64 0),(5,.i .i64 c),(30,.skip)],a1f []⟩
def b8j (k:Nat) (c:LL) (a:Int) (b:(V1_)→OO):OO:=
 b (a,0)
def c6o (k:Nat) (a:LL) (b:Int):OO:=
 b8j k a b (fun v=>a1k (b0f k a) k v)
theorem e7m (k:Nat) (a:LL) (c:Int):a0a E P0 (k+1) N.k0d [.v [.r a],.v [.i c]]=c6o k a c:=a2c [] [.sr,.sl,.sr,.bl] e1d (b8j k a c) (e1e a) (b0f k a) (by kernel_rfl) (fun j v=>by kernel_rfl)
def c9x (k:Nat) (f g h:Int) (c:LL) (l m n o p:Int) (d:LL) (q:Int) (u w:Bool) (e:Int):OO:=
 BK_ k N.k0c [vr_ c,vi_ e] fun a=>
 bif (decide ((a.t 0).asI<0)) then
  so_ [.i (-1)]
 else
  BK_ k N.k0d [vr_ d,vi_ (a.t 0).asI] fun b=>
  bif (decide ((b.t 0).asI<0)) then so_ [.i (-1)] else so_ [.i (b.t 0).asI]
theorem f2t (k:Nat) (a c d:Int) (e:LL) (f g h l m:Int) (n:LL) (o:Int) (p q:Bool) (t:Int):a0a E P0 (k+1) N.k0e [.v (S0_ a c d e f g h l m n o p q),vi_ t]=c9x k a c d e f g h l m n o p q t:=by kernel_rfl
def b0g (k:Nat) (b:LL) (e:(V1_)→OO):(V1_)→OO:=fun (c,a)=>
 bif (decide (a<(b.length:Int))) then
  chk (decide (0≤a)&&decide (a<(b.length:Int))) <|
  bif ((at_ b a.toNat 0).asI != c) then
   some ⟨[.i (-1)],[]⟩
  else
   chk (decide (0≤a)&&decide (a<(b.length:Int))) <|
   bif ((at_ b a.toNat 1).asI != (W64 (c+1))) then
    some ⟨[.i (-1)],[]⟩
   else
    chk (decide (0≤a)&&decide (a<(b.length:Int))) <|
    bif ((at_ b a.toNat 2).asI != (W64 ((W64 (c+1))+1))) then
     some ⟨[.i (-1)],[]⟩
    else
     chk (decide (0≤a)&&decide (a<(b.length:Int))) <|
     bif ((at_ b a.toNat 3).asI != (W64 ((W64 ((W64 (c+1))+1))+1))) then
      some ⟨[.i (-1)],[]⟩
     else
      chk (decide (0≤a)&&decide (a<(b.length:Int))) <|
      a0f (a0a E P0 k N.j1z [.v [.r (at_ b a.toNat 4).asR],.v [.i (W64 ((W64 ((W64 ((W64 (c+1))+1))+1))+1))]]) fun d=>
      bif (decide ((d.t 0).asI<0)) then some ⟨[.i (-1)],[]⟩ else e ((d.t 0).asI,(W64 (a+1)))
 else
  some ⟨[.i c],[]⟩
def e1f:List Nat:=[0,1,4,5,57]
def e1g (a:LL):(V1_)→St:=fun (b,c)=>⟨a3q [(0,.sl 91 a),(1,.i .i64 b),(4,.i .i64 0),(5,.i .i64 c),(57,.skip)],a1f []⟩
def b8k (k:Nat) (c:LL) (a:Int) (b:(V1_)→OO):OO:=
 b (a,0)
def c6p (k:Nat) (a:LL) (b:Int):OO:=
 b8k k a b (fun v=>a1k (b0g k a) k v)
theorem e7n (k:Nat) (a:LL) (c:Int):a0a E P0 (k+1) N.k0f [.v [.r a],.v [.i c]]=c6p k a c:=a2c [] [.sr,.sl,.sr,.bl] e1f (b8k k a c) (e1g a) (b0g k a) (by kernel_rfl) (fun j v=>by kernel_rfl)
def b0h (k:Nat) (b:LL) (f:(V1_)→OO):(V1_)→OO:=fun (c,a)=>
 bif (decide (a<(b.length:Int))) then
  chk (decide (0≤a)&&decide (a<(b.length:Int))) <|
  bif ((at_ b a.toNat 0).asI != c) then
   some ⟨[.i (-1)],[]⟩
  else
   chk (decide (0≤a)&&decide (a<(b.length:Int))) <|
   bif ((at_ b a.toNat 1).asI != (W64 (c+1))) then
    some ⟨[.i (-1)],[]⟩
   else
    chk (decide (0≤a)&&decide (a<(b.length:Int))) <|
    bif ((at_ b a.toNat 2).asI != (W64 ((W64 (c+1))+1))) then
     some ⟨[.i (-1)],[]⟩
    else
     chk (decide (0≤a)&&decide (a<(b.length:Int))) <|
     bif ((at_ b a.toNat 3).asI != (W64 ((W64 ((W64 (c+1))+1))+1))) then
      some ⟨[.i (-1)],[]⟩
     else
      chk (decide (0≤a)&&decide (a<(b.length:Int))) <|
      a0f (a0a E P0 k N.j1z [.v [.r (at_ b a.toNat 4).asR],.v [.i (W64 ((W64 ((W64 ((W64 (c+1))+1))+1))+1))]]) fun d=>
      bif (decide ((d.t 0).asI<0)) then
       some ⟨[.i (-1)],[]⟩
      else
       chk (decide (0≤a)&&decide (a<(b.length:Int))) <|
       bif ((at_ b a.toNat 5).asI != (d.t 0).asI) then
        some ⟨[.i (-1)],[]⟩
       else
        chk (decide (0≤a)&&decide (a<(b.length:Int))) <|
        a0f (a0a E P0 k N.j1z [.v [.r (at_ b a.toNat 6).asR],.v [.i (W64 ((d.t 0).asI+1))]]) fun e=>
        bif (decide ((e.t 0).asI<0)) then
         some ⟨[.i (-1)],[]⟩
        else
         chk (decide (0≤a)&&decide (a<(b.length:Int))) <|
         bif ((at_ b a.toNat 7).asI != (e.t 0).asI) then
          some ⟨[.i (-1)],[]⟩
         else
          f ((W64 ((e.t 0).asI+1)),(W64 (a+1)))
 else
  some ⟨[.i c],[]⟩
def e1h:List Nat:=[0,1,4,5,89]
def e1i (a:LL):(V1_)→St:=fun (b,c)=>⟨a3q [(0,.sl 94 a),(1,.i .i64 b),(4,.i .i64 0),(5,.i .i64 c),(89,.skip)],a1f []⟩
def b8l (k:Nat) (c:LL) (a:Int) (b:(V1_)→OO):OO:=
 b (a,0)
def c6q (k:Nat) (a:LL) (b:Int):OO:=
 b8l k a b (fun v=>a1k (b0h k a) k v)
theorem e7o (k:Nat) (a:LL) (c:Int):a0a E P0 (k+1) N.k0g [.v [.r a],.v [.i c]]=c6q k a c:=a2c [] [.sr,.sl,.sr,.bl] e1h (b8l k a c) (e1i a) (b0h k a) (by kernel_rfl) (fun j v=>by kernel_rfl)
def b0i (k:Nat) (b:LL) (e:(V1_)→OO):(V1_)→OO:=fun (c,a)=>
 bif (decide (a<(b.length:Int))) then
  chk (decide (0≤a)&&decide (a<(b.length:Int))) <|
  bif ((at_ b a.toNat 0).asI != c) then
   some ⟨[.i (-1)],[]⟩
  else
   chk (decide (0≤a)&&decide (a<(b.length:Int))) <|
   bif ((at_ b a.toNat 1).asI != (W64 (c+1))) then
    some ⟨[.i (-1)],[]⟩
   else
    chk (decide (0≤a)&&decide (a<(b.length:Int))) <|
    a0f (a0a E P0 k N.j1z [.v [.r (at_ b a.toNat 2).asR],.v [.i (W64 ((W64 (c+1))+1))]]) fun d=>
    bif (decide ((d.t 0).asI<0)) then some ⟨[.i (-1)],[]⟩ else e ((d.t 0).asI,(W64 (a+1)))
 else
  some ⟨[.i c],[]⟩
def e1j:List Nat:=[0,1,4,5,39]
def e1k (a:LL):(V1_)→St:=fun (b,c)=>⟨a3q [(0,.sl 95 a),(1,.i .i64 b),(4,.i .i64 0),(5,.i .i64 c),(39,.skip)],a1f []⟩
def b8m (k:Nat) (c:LL) (a:Int) (b:(V1_)→OO):OO:=
 b (a,0)
def c6r (k:Nat) (a:LL) (b:Int):OO:=
 b8m k a b (fun v=>a1k (b0i k a) k v)
theorem e7p (k:Nat) (a:LL) (c:Int):a0a E P0 (k+1) N.k0h [.v [.r a],.v [.i c]]=c6r k a c:=a2c [] [.sr,.sl,.sr,.bl] e1j (b8m k a c) (e1k a) (b0i k a) (by kernel_rfl) (fun j v=>by kernel_rfl)
def a8j (k:Nat) (b:LL) (f:(V1_)→OO):(V1_)→OO:=fun (c,a)=>
 bif (decide (a<(b.length:Int))) then
  chk (decide (0≤a)&&decide (a<(b.length:Int))) <|
  bif ((at_ b a.toNat 0).asI != c) then
   some ⟨[.i (-1)],[]⟩
  else
   chk (decide (0≤a)&&decide (a<(b.length:Int))) <|
   bif ((at_ b a.toNat 1).asI != (W64 (c+1))) then
    some ⟨[.i (-1)],[]⟩
   else
    chk (decide (0≤a)&&decide (a<(b.length:Int))) <|
    bif ((at_ b a.toNat 2).asI != (W64 ((W64 (c+1))+1))) then
     some ⟨[.i (-1)],[]⟩
    else
     chk (decide (0≤a)&&decide (a<(b.length:Int))) <|
     bif ((at_ b a.toNat 3).asI != (W64 ((W64 ((W64 (c+1))+1))+1))) then
      some ⟨[.i (-1)],[]⟩
     else
      chk (decide (0≤a)&&decide (a<(b.length:Int))) <|
      a0f (a0a E P0 k N.j1z [.v [.r (at_ b a.toNat 4).asR],.v [.i (W64 ((W64 ((W64 ((W64 (c+1))+1))+1))+1))]]) fun d=>
      bif (decide ((d.t 0).asI<0)) then
       some ⟨[.i (-1)],[]⟩
      else
       chk (decide (0≤a)&&decide (a<(b.length:Int))) <|
       bif ((at_ b a.toNat 5).asI != (d.t 0).asI) then
        some ⟨[.i (-1)],[]⟩
       else
        chk (decide (0≤a)&&decide (a<(b.length:Int))) <|
        bif ((at_ b a.toNat 6).asI != (W64 ((d.t 0).asI+1))) then
         some ⟨[.i (-1)],[]⟩
        else
         chk (decide (0≤a)&&decide (a<(b.length:Int))) <|
         a0f (a0a E P0 k N.j1z [.v [.r (at_ b a.toNat 7).asR],.v [.i (W64 ((W64 ((d.t 0).asI+1))+1))]]) fun e=>
         bif (decide ((e.t 0).asI<0)) then some ⟨[.i (-1)],[]⟩ else f ((e.t 0).asI,(W64 (a+1)))
 else
  some ⟨[.i c],[]⟩
def d6r:List Nat:=[0,1,4,5,92]
def d6s (a:LL):(V1_)→St:=fun (b,c)=>⟨a3q [(0,.sl 98 a),(1,.i .i64 b),(4,.i .i64 0),(5,.i .i64 c),(92,.skip)],a1f []⟩
def b5u (k:Nat) (c:LL) (a:Int) (b:(V1_)→OO):OO:=
 b (a,0)
def c4c (k:Nat) (a:LL) (b:Int):OO:=
 b5u k a b (fun v=>a1k (a8j k a) k v)
theorem e1l (k:Nat) (a:LL) (c:Int):a0a E P0 (k+1) N.k0i [.v [.r a],.v [.i c]]=c4c k a c:=a2c [] [.sr,.sl,.sr,.bl] d6r (b5u k a c) (d6s a) (a8j k a) (by kernel_rfl) (fun j v=>by kernel_rfl)
def c9y (k:Nat) (g h l:Int) (m:LL) (n o p q u:Int) (w:LL) (x:Int) (y z:Bool) (A B C D:LL) (F:Int):OO:=
 BK_ k N.k0e [.v (S0_ g h l m n o p q u w x y z),vi_ F] fun a=>
 bif (decide ((a.t 0).asI<0)) then
  so_ [.i (-1)]
 else
  BK_ k N.k0f [vr_ A,vi_ (a.t 0).asI] fun c=>
  bif (decide ((c.t 0).asI<0)) then
   so_ [.i (-1)]
  else
   BK_ k N.k0g [vr_ B,vi_ (c.t 0).asI] fun d=>
   bif (decide ((d.t 0).asI<0)) then
    so_ [.i (-1)]
   else
    BK_ k N.k0h [vr_ C,vi_ (d.t 0).asI] fun e=>
    bif (decide ((e.t 0).asI<0)) then
     so_ [.i (-1)]
    else
     BK_ k N.k0i [vr_ D,vi_ (e.t 0).asI] fun f=>
     bif (decide ((f.t 0).asI<0)) then so_ [.i (-1)] else so_ [.i (f.t 0).asI]
theorem f2u (k:Nat) (a c d:Int) (e:LL) (f g h l m:Int) (n:LL) (o:Int) (p q:Bool) (t u w x:LL) (y:Int):a0a E P0 (k+1) N.j5w [.v (S2_ a c d e f g h l m n o p q t u w x),vi_ y]=c9y k a c d e f g h l m n o p q t u w x y:=by kernel_rfl
def a6r (k:Nat) (l m n:Int) (o:LL) (p q u w x:Int) (y:LL) (z:Int) (A B:Bool) (C D F G:LL) (H:Int) (c a:Outs) (J:Bool):OO:=
 bif J then
  so_ [.b false]
 else
  BK_ k N.j5v [.s (S6_ a),vi_ 1] fun f=>
  BK_ k N.j5w [.v (j1e a f),vi_ 1] fun g=>
  bif (decide ((g.t 0).asI<0)) then
   so_ [.b false]
  else
   bif ((g.t 0).asI != (f.t 0).asI) then
    so_ [.b false]
   else
    BK_ k N.j2y [.v (S2_ l m n o p q u w x y z A B C D F G)] fun d=>
    BK_ k N.j5t [.v (S6_ d),vi_ H] fun e=>
    BK_ k N.j2x [.v (S6_ e),.v (S6_ c)] fun K=>
    bif (!(K.t 0).asB) then
     so_ [.b false]
    else
     BK_ k N.j5w [.v (j1e a f),vi_ 1] fun h=>
     bif (decide ((h.t 0).asI<0)) then
      so_ [.b false]
     else
      bif ((h.t 0).asI != (f.t 0).asI) then so_ [.b false] else so_ [.b true]
def b5e (k:Nat) (g h l:Int) (m:LL) (n o p q u:Int) (w:LL) (x:Int) (y z:Bool) (A B C D:LL) (F:Int):OO:=
 BK_ k N.j6l [.v (S2_ g h l m n o p q u w x y z A B C D),vi_ 1048576] fun G=>
 bif (decide ((G.t 0).asI<0)) then
  so_ [.b true]
 else
  BK_ k N.j2y [.v (S2_ g h l m n o p q u w x y z A B C D)] fun e=>
  BK_ k N.j7z [.v (S6_ e),vi_ F] fun c=>
  BK_ k N.j2y [.v (S2_ g h l m n o p q u w x y z A B C D)] fun a=>
  BK_ k N.j5t [.v (S6_ a),vi_ F] fun d=>
  BK_ k N.j2x [.v (S6_ d),.v (S6_ c)] fun H=>
  bif (!(H.t 0).asB) then
   so_ [.b false]
  else
   BK_ k N.j2y [.v (S2_ g h l m n o p q u w x y z A B C D)] fun f=>
   BK_ k N.j2x [.v (S6_ a),.v (S6_ f)] fun J=>
   bif (!(J.t 0).asB) then
    so_ [.b false]
   else
    BK_ k N.j5v [.s (S6_ a),vi_ 1] fun K=>
    bif (decide ((K.t 0).asI<0)) then
     a6r k g h l m n o p q u w x y z A B C D F c d true
    else
     BK_ k N.j2x [.v (S6_ d),.v (S6_ c)] fun L=>
     a6r k g h l m n o p q u w x y z A B C D F c d (!(L.t 0).asB)
theorem c6s (k:Nat) (a c d:Int) (e:LL) (f g h l m:Int) (n:LL) (o:Int) (p q:Bool) (t u w x:LL) (y:Int):a0a E P0 (k+1) N.k0j [.v (S2_ a c d e f g h l m n o p q t u w x),vi_ y]=b5e k a c d e f g h l m n o p q t u w x y:=by kernel_rfl
end
end Go.Proofs.YtjadnceefhbphaaGreat.Ev
