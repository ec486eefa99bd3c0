/- What functions answer under the evaluator, as Lean terms, part 3: what FnExactWork needs. No condition. -/
import Derived.Test.YtkamidjllckpgaaGreatmTab
namespace Go.Proofs.YtkamidjllckpgaaGreat.Ev
open Go Go.Proofs
set_option linter.unusedVariables false
set_option maxRecDepth 100000
set_option maxHeartbeats 4000000
noncomputable section
def g5d (k:Nat) (a:Bool):OO:=
 bif a then some ⟨[.i 0],[]⟩ else some ⟨[.i 6],[]⟩
theorem g5e (k:Nat) (a:Bool):a0a E P0 (k+1) N.k4d [.v [.b a]]=g5d k a:=by kernel_rfl
def a5y (k:Nat) (d:Int) (e:LL) (a:Outs) (f:Bool):OO:=
 bif f then
  some ⟨[.i (a.t 0).asI,.i (a.t 1).asI,.i (a.t 2).asI,.r (a.t 3).asR,.i (a.t 4).asI,.i (a.t 5).asI,.i (a.t 6).asI,.i (a.t 7).asI,.i (a.t 8).asI,.r (a.t 9).asR,.i (a.t 10).asI,.b (a.t 11).asB,.b (a.t 12).asB,.i 7],[]⟩
 else
  a0c (a0a E P0 k N.k4c [.p [.i (a.t 0).asI,.i (a.t 1).asI,.i (a.t 2).asI,.r (a.t 3).asR,.i (a.t 4).asI,.i (a.t 5).asI,.i (a.t 6).asI,.i (a.t 7).asI,.i (a.t 8).asI,.r (a.t 9).asR,.i (a.t 10).asI,.b (a.t 11).asB,.b (a.t 12).asB],.v [.i d],.v [.r e]]) fun c=>
  a0c (a0a E P0 k N.k4d [.v [.b (c.t 0).asB]]) fun g=>
  some ⟨[.i (c.vt 0 0).asI,.i (c.vt 0 1).asI,.i (c.vt 0 2).asI,.r (c.vt 0 3).asR,.i (c.vt 0 4).asI,.i (c.vt 0 5).asI,.i (c.vt 0 6).asI,.i (c.vt 0 7).asI,.i (c.vt 0 8).asI,.r (c.vt 0 9).asR,.i (c.vt 0 10).asI,.b (c.vt 0 11).asB,.b (c.vt 0 12).asB,.i (g.t 0).asI],[]⟩
def b0z (k:Nat) (e f g h:Int) (l m:Bool) (c:Int) (d:LL) (a:Outs) (n:Bool):OO:=
 bif n then
  some ⟨[.i (a.t 0).asI,.i (a.t 1).asI,.i (a.t 2).asI,.r (a.t 3).asR,.i (a.t 4).asI,.i (a.t 5).asI,.i (a.t 6).asI,.i (a.t 7).asI,.i (a.t 8).asI,.r (a.t 9).asR,.i (a.t 10).asI,.b (a.t 11).asB,.b (a.t 12).asB,.i 1],[]⟩
 else
  bif l then
   some ⟨[.i (a.t 0).asI,.i (a.t 1).asI,.i (a.t 2).asI,.r (a.t 3).asR,.i (a.t 4).asI,.i (a.t 5).asI,.i (a.t 6).asI,.i (a.t 7).asI,.i (a.t 8).asI,.r (a.t 9).asR,.i (a.t 10).asI,.b (a.t 11).asB,.b (a.t 12).asB,.i 6],[]⟩
  else
   a0c (a0a E P0 k N.j6z [.v [.i e,.i f],.v [.i c]]) fun o=>
   bif (!(o.t 0).asB) then
    some ⟨[.i (a.t 0).asI,.i (a.t 1).asI,.i (a.t 2).asI,.r (a.t 3).asR,.i (a.t 4).asI,.i (a.t 5).asI,.i (a.t 6).asI,.i (a.t 7).asI,.i (a.t 8).asI,.r (a.t 9).asR,.i (a.t 10).asI,.b (a.t 11).asB,.b (a.t 12).asB,.i 2],[]⟩
   else
    bif m then
     some ⟨[.i (a.t 0).asI,.i (a.t 1).asI,.i (a.t 2).asI,.r (a.t 3).asR,.i (a.t 4).asI,.i (a.t 5).asI,.i (a.t 6).asI,.i (a.t 7).asI,.i (a.t 8).asI,.r (a.t 9).asR,.i (a.t 10).asI,.b (a.t 11).asB,.b (a.t 12).asB,.i 5],[]⟩
    else
     bif (g == 60000) then
      a5y k c d a true
     else
      a5y k c d a (decide (h≥59990))
def c3g (k:Nat) (l a c:Int) (m:LL) (n o d p e:Int) (q:LL) (u:Int) (f g:Bool) (w:Int) (h:LL):OO:=
 a0c (a0a E P0 k N.j6o [.v [.i l,.i a,.i c,.r m,.i n,.i o,.i d,.i p,.i e,.r q,.i u,.b f,.b g]]) fun x=>
 a0c (a0a E P0 k N.j6w [.v [.i l,.i a,.i c,.r m,.i n,.i o,.i d,.i p,.i e,.r q,.i u,.b f,.b g]]) fun y=>
 bif (!(y.t 0).asB) then
  b0z k a c d e f g w h x true
 else
  a0c (a0a E P0 k N.j9n [.v [.i a,.i c],.v [.r h]]) fun z=>
  b0z k a c d e f g w h x (!(z.t 0).asB)
theorem e0c (k:Nat) (a c d:Int) (e:LL) (f g h l m:Int) (n:LL) (o:Int) (p q:Bool) (t:Int) (u:LL):a0a E P0 (k+1) N.k2g [.v [.i a,.i c,.i d,.r e,.i f,.i g,.i h,.i l,.i m,.r n,.i o,.b p,.b q],.v [.i t],.v [.r u]]=c3g k a c d e f g h l m n o p q t u:=by kernel_rfl
def c3h (k:Nat) (o h l:Int) (p:LL) (q u w x y:Int) (g:LL) (z:Int) (m A:Bool) (B:Int):OO:=
 a0c (a0a E P0 k N.j6w [.v [.i o,.i h,.i l,.r p,.i q,.i u,.i w,.i x,.i y,.r g,.i z,.b m,.b A]]) fun C=>
 bif (!(C.t 0).asB) then
  a0c (a0a E P0 k N.j6o [.v [.i o,.i h,.i l,.r p,.i q,.i u,.i w,.i x,.i y,.r g,.i z,.b m,.b A]]) fun c=>
  some ⟨[.i (c.t 0).asI,.i (c.t 1).asI,.i (c.t 2).asI,.r (c.t 3).asR,.i (c.t 4).asI,.i (c.t 5).asI,.i (c.t 6).asI,.i (c.t 7).asI,.i (c.t 8).asI,.r (c.t 9).asR,.i (c.t 10).asI,.b (c.t 11).asB,.b (c.t 12).asB,.i 1],[]⟩
 else
  bif m then
   a0c (a0a E P0 k N.j6o [.v [.i o,.i h,.i l,.r p,.i q,.i u,.i w,.i x,.i y,.r g,.i z,.b m,.b A]]) fun d=>
   some ⟨[.i (d.t 0).asI,.i (d.t 1).asI,.i (d.t 2).asI,.r (d.t 3).asR,.i (d.t 4).asI,.i (d.t 5).asI,.i (d.t 6).asI,.i (d.t 7).asI,.i (d.t 8).asI,.r (d.t 9).asR,.i (d.t 10).asI,.b (d.t 11).asB,.b (d.t 12).asB,.i 6],[]⟩
  else
   a0c (a0a E P0 k N.j6z [.v [.i h,.i l],.v [.i B]]) fun D=>
   bif (!(D.t 0).asB) then
    a0c (a0a E P0 k N.j6o [.v [.i o,.i h,.i l,.r p,.i q,.i u,.i w,.i x,.i y,.r g,.i z,.b m,.b A]]) fun e=>
    some ⟨[.i (e.t 0).asI,.i (e.t 1).asI,.i (e.t 2).asI,.r (e.t 3).asR,.i (e.t 4).asI,.i (e.t 5).asI,.i (e.t 6).asI,.i (e.t 7).asI,.i (e.t 8).asI,.r (e.t 9).asR,.i (e.t 10).asI,.b (e.t 11).asB,.b (e.t 12).asB,.i 2],[]⟩
   else
    a0c (a0a E P0 k N.k1x [.v [.i o,.i h,.i l,.r p,.i q,.i u,.i w,.i x,.i y,.r g,.i z,.b m,.b A],.v [.i B]]) fun n=>
    bif (decide ((n.t 0).asI<0)) then
     a0c (a0a E P0 k N.j6o [.v [.i o,.i h,.i l,.r p,.i q,.i u,.i w,.i x,.i y,.r g,.i z,.b m,.b A]]) fun f=>
     some ⟨[.i (f.t 0).asI,.i (f.t 1).asI,.i (f.t 2).asI,.r (f.t 3).asR,.i (f.t 4).asI,.i (f.t 5).asI,.i (f.t 6).asI,.i (f.t 7).asI,.i (f.t 8).asI,.r (f.t 9).asR,.i (f.t 10).asI,.b (f.t 11).asB,.b (f.t 12).asB,.i 0],[]⟩
    else
     chk (decide (0≤(n.t 0).asI)&&decide ((n.t 0).asI<(g.length:Int))) <|
     a0c (a0a E P0 k N.k2g [.v [.i o,.i h,.i l,.r p,.i q,.i u,.i w,.i x,.i y,.r g,.i z,.b m,.b A],.v [.i B],.v [.r (at_ g (n.t 0).asI.toNat 1).asR]]) fun a=>
     bif ((a.t 13).asI == 0) then
      chk (b8q (a.t 9).asR.length (n.t 0).asI (W64 ((n.t 0).asI+1))) <|
      some ⟨[.i (a.t 0).asI,.i (a.t 1).asI,.i (a.t 2).asI,.r (a.t 3).asR,.i (a.t 4).asI,.i (a.t 5).asI,.i (a.t 6).asI,.i (a.t 7).asI,.i (a.t 8).asI,.r ((a.t 9).asR.take (n.t 0).asI.toNat++(a.t 9).asR.drop (W64 ((n.t 0).asI+1)).toNat),.i (a.t 10).asI,.b (a.t 11).asB,.b (a.t 12).asB,.i (a.t 13).asI],[]⟩
     else
      some ⟨[.i (a.t 0).asI,.i (a.t 1).asI,.i (a.t 2).asI,.r (a.t 3).asR,.i (a.t 4).asI,.i (a.t 5).asI,.i (a.t 6).asI,.i (a.t 7).asI,.i (a.t 8).asI,.r (a.t 9).asR,.i (a.t 10).asI,.b (a.t 11).asB,.b (a.t 12).asB,.i (a.t 13).asI],[]⟩
theorem e0d (k:Nat) (a c d:Int) (e:LL) (f g h l m:Int) (n:LL) (o:Int) (p q:Bool) (t:Int):a0a E P0 (k+1) N.j7z [.v [.i a,.i c,.i d,.r e,.i f,.i g,.i h,.i l,.i m,.r n,.i o,.b p,.b q],.v [.i t]]=c3h k a c d e f g h l m n o p q t:=by kernel_rfl
def c5u (k:Nat) (l m n:Int) (o:LL) (p q u w x:Int) (y:LL) (z:Int) (A B:Bool) (C D e h:LL) (F G H J:Int) (K:LL) (f g:Int) (d:LL):OO:=
 chk (decide ((e.length+([[.i f,.i g,.r d]]:LL).length)*40≤140737488355328)) <|
 a0c (a0a E P0 k N.j7q [.v [.i F,.i G,.i H,.i J,.r K]]) fun a=>
 a0c (a0a E P0 k N.j9k [.v [.i f,.i g,.r d]]) fun c=>
 chk (decide ((h.length+([[.i (a.t 0).asI,.i (a.t 1).asI,.i (a.t 2).asI,.i (a.t 3).asI,.r (a.t 4).asR,.i (c.t 0).asI,.i (c.t 1).asI,.r (c.t 2).asR]]:LL).length)*96≤140737488355328)) <|
 some ⟨[],[[.i l,.i m,.i n,.r o,.i p,.i q,.i u,.i w,.i x,.r y,.i z,.b A,.b B,.r C,.r D,.r (a0z (e++([[.i f,.i g,.r d]]:LL)) (e.length+0) 2 [.r d]),.r (h++([[.i (a.t 0).asI,.i (a.t 1).asI,.i (a.t 2).asI,.i (a.t 3).asI,.r (a.t 4).asR,.i (c.t 0).asI,.i (c.t 1).asI,.r (c.t 2).asR]]:LL))]]⟩
theorem e2m (k:Nat) (a c d:Int) (e:LL) (f g h l m:Int) (n:LL) (o:Int) (q t:Bool) (u w x y:LL) (z A B C:Int) (D:LL) (F G:Int) (H:LL):a0a E P0 (k+1) N.j6b [.p [.i a,.i c,.i d,.r e,.i f,.i g,.i h,.i l,.i m,.r n,.i o,.b q,.b t,.r u,.r w,.r x,.r y],.v [.i z,.i A,.i B,.i C,.r D],.v [.i F,.i G,.r H]]=c5u k a c d e f g h l m n o q t u w x y z A B C D F G H:=by kernel_rfl
def a1n (a:Outs) (b:Int):LL:=a0z (a.t 14).asR b.toNat 4 [.r ((at_ (a.t 14).asR b.toNat 4).asR)]
def a3l (b:Outs) (a:Int) (c:Outs):LL:=a0z (a1n b a) a.toNat 7 [.i (c.t 13).asI]
def a0h (b:Outs) (a:Int) (c:Outs):LL:=a0z (a3l b a c) a.toNat 5 [.i (W64 ((at_ (a3l b a c) a.toNat 5).asI+1))]
def a1i (b:Outs) (a:Int) (c:Outs):LL:=a0z (a0h b a c) a.toNat 6 [.r ((at_ (a0h b a c) a.toNat 6).asR)]
def a0x (a:LL) (b:Int):LL:=a0z a b.toNat 5 [.i (W64 ((at_ a b.toNat 5).asI+1))]
def a1x (b:LL) (a:Int):LL:=a0z (a0x b a) a.toNat 6 [.r ((at_ (a0x b a) a.toNat 6).asR)]
def a1y (b:Outs) (a:Int):LL:=a0z (a1n b a) a.toNat 6 [.r ((at_ (a1n b a) a.toNat 6).asR)]
def a1a (a:Outs):List T:=[.i (a.vt 0 0).asI,.i (a.vt 0 1).asI,.i (a.vt 0 2).asI,.r (a.vt 0 3).asR,.i (a.vt 0 4).asI,.i (a.vt 0 5).asI,.i (a.vt 0 6).asI,.i (a.vt 0 7).asI,.i (a.vt 0 8).asI,.r (a.vt 0 9).asR,.i (a.vt 0 10).asI,.b (a.vt 0 11).asB,.b (a.vt 0 12).asB,.r (a.vt 0 13).asR,.r (a.vt 0 14).asR,.r (a.vt 0 15).asR,.r (a.vt 0 16).asR,.b true]
def a2i (a c:Outs) (d:Int):List T:=[.i (a.t 0).asI,.i (a.t 1).asI,.i (a.t 2).asI,.r (a.t 3).asR,.i (a.t 4).asI,.i (a.t 5).asI,.i (a.t 6).asI,.i (a.t 7).asI,.i (a.t 8).asI,.r (a.t 9).asR,.i (a.t 10).asI,.b (a.t 11).asB,.b (a.t 12).asB,.r (c.t 13).asR,.r ((a1i c d a).take d.toNat++(a1i c d a).drop (W64 (d+1)).toNat),.r (c.t 15).asR,.r (c.t 16).asR]
def a2j (a c:Outs) (d:Int):List T:=[.i (a.t 0).asI,.i (a.t 1).asI,.i (a.t 2).asI,.r (a.t 3).asR,.i (a.t 4).asI,.i (a.t 5).asI,.i (a.t 6).asI,.i (a.t 7).asI,.i (a.t 8).asI,.r (a.t 9).asR,.i (a.t 10).asI,.b (a.t 11).asB,.b (a.t 12).asB,.r (c.t 13).asR,.r ((a0h c d a).take d.toNat++(a0h c d a).drop (W64 (d+1)).toNat),.r (c.t 15).asR,.r (c.t 16).asR]
def a2k (a c:Outs) (d:Int):List T:=[.i (a.t 0).asI,.i (a.t 1).asI,.i (a.t 2).asI,.r (a.t 3).asR,.i (a.t 4).asI,.i (a.t 5).asI,.i (a.t 6).asI,.i (a.t 7).asI,.i (a.t 8).asI,.r (a.t 9).asR,.i (a.t 10).asI,.b (a.t 11).asB,.b (a.t 12).asB,.r (c.t 13).asR,.r (a0h c d a),.r (c.t 15).asR,.r (c.t 16).asR,.b true]
def a1z (a:Outs):List T:=[.i (a.t 0).asI,.i (a.t 1).asI,.i (a.t 2).asI,.r (a.t 3).asR,.i (a.t 4).asI,.i (a.t 5).asI,.i (a.t 6).asI,.i (a.t 7).asI,.i (a.t 8).asI,.r (a.t 9).asR,.i (a.t 10).asI,.b (a.t 11).asB,.b (a.t 12).asB]
def a2l (b:Outs) (a:Int) (c:Outs):List T:=[.i (at_ (a1i b a c) a.toNat 0).asI,.i (at_ (a1i b a c) a.toNat 1).asI,.i (at_ (a1i b a c) a.toNat 2).asI,.i (at_ (a1i b a c) a.toNat 3).asI,.r (at_ (a1i b a c) a.toNat 4).asR]
def a2m (b:Outs) (a:Int) (c:Outs):List T:=[.i (at_ (a0h b a c) a.toNat 0).asI,.i (at_ (a0h b a c) a.toNat 1).asI,.i (at_ (a0h b a c) a.toNat 2).asI,.i (at_ (a0h b a c) a.toNat 3).asI,.r (at_ (a0h b a c) a.toNat 4).asR]
def a2n (b:Outs) (a:Int) (c d:Outs):List T:=[.i (at_ (a0h b a c) a.toNat 1).asI,.i (at_ (a0h b a c) a.toNat 7).asI,.r (d.t 0).asR]
def a3c (a:Outs) (b:Int):List T:=[.i (at_ (a.t 14).asR b.toNat 0).asI,.i (at_ (a.t 14).asR b.toNat 1).asI,.i (at_ (a.t 14).asR b.toNat 2).asI,.i (at_ (a.t 14).asR b.toNat 3).asI,.r (at_ (a.t 14).asR b.toNat 4).asR]
def b7d (k:Nat) (a:Int) (d:LL) (c:Outs) (e:Bool):OO:=
 bif e then
  a0c (a0a E P0 k N.j6a [.v [.r (at_ (a0x d a) a.toNat 6).asR]]) fun f=>
  chk (b8q (a1x d a).length a (W64 (a+1))) <|
  chk (decide (a≤((a.toNat:Nat):Int))&&decide (((a.toNat:Nat):Int)<(W64 (a+1)))) <|
  a0c (a0a E P0 k N.j6b [.p [.i (c.t 0).asI,.i (c.t 1).asI,.i (c.t 2).asI,.r (c.t 3).asR,.i (c.t 4).asI,.i (c.t 5).asI,.i (c.t 6).asI,.i (c.t 7).asI,.i (c.t 8).asI,.r (c.t 9).asR,.i (c.t 10).asI,.b (c.t 11).asB,.b (c.t 12).asB,.r (c.t 13).asR,.r ((a1x d a).take a.toNat++(a1x d a).drop (W64 (a+1)).toNat),.r (c.t 15).asR,.r (c.t 16).asR],.v [.i (at_ (a1x d a) a.toNat 0).asI,.i (at_ (a1x d a) a.toNat 1).asI,.i (at_ (a1x d a) a.toNat 2).asI,.i (at_ (a1x d a) a.toNat 3).asI,.r (at_ (a1x d a) a.toNat 4).asR],.v [.i (at_ (a0x d a) a.toNat 1).asI,.i (at_ (a0x d a) a.toNat 7).asI,.r (f.t 0).asR]]) fun g=>
  some ⟨(a1a g),[]⟩
 else
  chk (b8q (a0x d a).length a (W64 (a+1))) <|
  chk (decide (a≤((a.toNat:Nat):Int))&&decide (((a.toNat:Nat):Int)<(W64 (a+1)))) <|
  a0c (a0a E P0 k N.j6b [.p [.i (c.t 0).asI,.i (c.t 1).asI,.i (c.t 2).asI,.r (c.t 3).asR,.i (c.t 4).asI,.i (c.t 5).asI,.i (c.t 6).asI,.i (c.t 7).asI,.i (c.t 8).asI,.r (c.t 9).asR,.i (c.t 10).asI,.b (c.t 11).asB,.b (c.t 12).asB,.r (c.t 13).asR,.r ((a0x d a).take a.toNat++(a0x d a).drop (W64 (a+1)).toNat),.r (c.t 15).asR,.r (c.t 16).asR],.v [.i (at_ (a0x d a) a.toNat 0).asI,.i (at_ (a0x d a) a.toNat 1).asI,.i (at_ (a0x d a) a.toNat 2).asI,.i (at_ (a0x d a) a.toNat 3).asI,.r (at_ (a0x d a) a.toNat 4).asR],.v [.i (at_ (a0x d a) a.toNat 1).asI,.i (at_ (a0x d a) a.toNat 7).asI,.r []]]) fun h=>
  some ⟨(a1a h),[]⟩
def a3z (k:Nat) (c:Int) (a:Outs) (d:LL):OO:=
 bif ((at_ (a0x d c) c.toNat 7).asI == 0) then
  some ⟨[.i (a.t 0).asI,.i (a.t 1).asI,.i (a.t 2).asI,.r (a.t 3).asR,.i (a.t 4).asI,.i (a.t 5).asI,.i (a.t 6).asI,.i (a.t 7).asI,.i (a.t 8).asI,.r (a.t 9).asR,.i (a.t 10).asI,.b (a.t 11).asB,.b (a.t 12).asB,.r (a.t 13).asR,.r (a0x d c),.r (a.t 15).asR,.r (a.t 16).asR,.b true],[]⟩
 else
  bif ((at_ (a0x d c) c.toNat 0).asI == 1) then
   b7d k c d a ((at_ (a0x d c) c.toNat 7).asI == 0)
  else
   b7d k c d a false
def c3i (k:Nat) (a:Int) (b c:Outs) (d:Bool):OO:=
 bif d then
  a0c (a0a E P0 k N.j6a [.v [.r (at_ (a0h b a c) a.toNat 6).asR]]) fun e=>
  chk (b8q (a1i b a c).length a (W64 (a+1))) <|
  chk (decide (a≤((a.toNat:Nat):Int))&&decide (((a.toNat:Nat):Int)<(W64 (a+1)))) <|
  a0c (a0a E P0 k N.j6b [.p (a2i c b a),.v (a2l b a c),.v (a2n b a c e)]) fun f=>
  some ⟨(a1a f),[]⟩
 else
  chk (b8q (a0h b a c).length a (W64 (a+1))) <|
  chk (decide (a≤((a.toNat:Nat):Int))&&decide (((a.toNat:Nat):Int)<(W64 (a+1)))) <|
  a0c (a0a E P0 k N.j6b [.p (a2j c b a),.v (a2m b a c),.v [.i (at_ (a0h b a c) a.toNat 1).asI,.i (at_ (a0h b a c) a.toNat 7).asI,.r []]]) fun g=>
  some ⟨(a1a g),[]⟩
def c3j (k:Nat) (a:Int) (b c:Outs) (d:Bool):OO:=
 bif d then
  a0c (a0a E P0 k N.j6a [.v [.r (at_ (a0h b a c) a.toNat 6).asR]]) fun e=>
  chk (b8q (a1i b a c).length a (W64 (a+1))) <|
  chk (decide (a≤((a.toNat:Nat):Int))&&decide (((a.toNat:Nat):Int)<(W64 (a+1)))) <|
  a0c (a0a E P0 k N.j6b [.p (a2i c b a),.v (a2l b a c),.v (a2n b a c e)]) fun f=>
  some ⟨(a1a f),[]⟩
 else
  chk (b8q (a0h b a c).length a (W64 (a+1))) <|
  chk (decide (a≤((a.toNat:Nat):Int))&&decide (((a.toNat:Nat):Int)<(W64 (a+1)))) <|
  a0c (a0a E P0 k N.j6b [.p (a2j c b a),.v (a2m b a c),.v [.i (at_ (a0h b a c) a.toNat 1).asI,.i (at_ (a0h b a c) a.toNat 7).asI,.r []]]) fun g=>
  some ⟨(a1a g),[]⟩
def c3k (k:Nat) (a:Int) (b c:Outs) (d:Bool):OO:=
 bif d then
  a0c (a0a E P0 k N.j6a [.v [.r (at_ (a0h b a c) a.toNat 6).asR]]) fun e=>
  chk (b8q (a1i b a c).length a (W64 (a+1))) <|
  chk (decide (a≤((a.toNat:Nat):Int))&&decide (((a.toNat:Nat):Int)<(W64 (a+1)))) <|
  a0c (a0a E P0 k N.j6b [.p (a2i c b a),.v (a2l b a c),.v (a2n b a c e)]) fun f=>
  some ⟨(a1a f),[]⟩
 else
  chk (b8q (a0h b a c).length a (W64 (a+1))) <|
  chk (decide (a≤((a.toNat:Nat):Int))&&decide (((a.toNat:Nat):Int)<(W64 (a+1)))) <|
  a0c (a0a E P0 k N.j6b [.p (a2j c b a),.v (a2m b a c),.v [.i (at_ (a0h b a c) a.toNat 1).asI,.i (at_ (a0h b a c) a.toNat 7).asI,.r []]]) fun g=>
  some ⟨(a1a g),[]⟩
def c3l (k:Nat) (a:Int) (b c:Outs) (d:Bool):OO:=
 bif d then
  a0c (a0a E P0 k N.j6a [.v [.r (at_ (a0h b a c) a.toNat 6).asR]]) fun e=>
  chk (b8q (a1i b a c).length a (W64 (a+1))) <|
  chk (decide (a≤((a.toNat:Nat):Int))&&decide (((a.toNat:Nat):Int)<(W64 (a+1)))) <|
  a0c (a0a E P0 k N.j6b [.p (a2i c b a),.v (a2l b a c),.v (a2n b a c e)]) fun f=>
  some ⟨(a1a f),[]⟩
 else
  chk (b8q (a0h b a c).length a (W64 (a+1))) <|
  chk (decide (a≤((a.toNat:Nat):Int))&&decide (((a.toNat:Nat):Int)<(W64 (a+1)))) <|
  a0c (a0a E P0 k N.j6b [.p (a2j c b a),.v (a2m b a c),.v [.i (at_ (a0h b a c) a.toNat 1).asI,.i (at_ (a0h b a c) a.toNat 7).asI,.r []]]) fun g=>
  some ⟨(a1a g),[]⟩
def c3m (k:Nat) (a:Int) (b c:Outs) (d:Bool):OO:=
 bif d then
  a0c (a0a E P0 k N.j6a [.v [.r (at_ (a0h b a c) a.toNat 6).asR]]) fun e=>
  chk (b8q (a1i b a c).length a (W64 (a+1))) <|
  chk (decide (a≤((a.toNat:Nat):Int))&&decide (((a.toNat:Nat):Int)<(W64 (a+1)))) <|
  a0c (a0a E P0 k N.j6b [.p (a2i c b a),.v (a2l b a c),.v (a2n b a c e)]) fun f=>
  some ⟨(a1a f),[]⟩
 else
  chk (b8q (a0h b a c).length a (W64 (a+1))) <|
  chk (decide (a≤((a.toNat:Nat):Int))&&decide (((a.toNat:Nat):Int)<(W64 (a+1)))) <|
  a0c (a0a E P0 k N.j6b [.p (a2j c b a),.v (a2m b a c),.v [.i (at_ (a0h b a c) a.toNat 1).asI,.i (at_ (a0h b a c) a.toNat 7).asI,.r []]]) fun g=>
  some ⟨(a1a g),[]⟩
def c0k (k:Nat) (a:Int) (b c:Outs) (d:Bool):OO:=
 bif d then
  a0c (a0a E P0 k N.j6a [.v [.r (at_ (a0h b a c) a.toNat 6).asR]]) fun e=>
  chk (b8q (a1i b a c).length a (W64 (a+1))) <|
  chk (decide (a≤((a.toNat:Nat):Int))&&decide (((a.toNat:Nat):Int)<(W64 (a+1)))) <|
  a0c (a0a E P0 k N.j6b [.p (a2i c b a),.v (a2l b a c),.v (a2n b a c e)]) fun f=>
  some ⟨(a1a f),[]⟩
 else
  chk (b8q (a0h b a c).length a (W64 (a+1))) <|
  chk (decide (a≤((a.toNat:Nat):Int))&&decide (((a.toNat:Nat):Int)<(W64 (a+1)))) <|
  a0c (a0a E P0 k N.j6b [.p (a2j c b a),.v (a2m b a c),.v [.i (at_ (a0h b a c) a.toNat 1).asI,.i (at_ (a0h b a c) a.toNat 7).asI,.r []]]) fun g=>
  some ⟨(a1a g),[]⟩
def a5z (k:Nat) (c:Int) (a:Outs) (d:Bool):OO:=
 bif d then
  a0c (a0a E P0 k N.j6a [.v [.r (at_ (a1n a c) c.toNat 6).asR]]) fun e=>
  chk (b8q (a1y a c).length c (W64 (c+1))) <|
  chk (decide (c≤((c.toNat:Nat):Int))&&decide (((c.toNat:Nat):Int)<(W64 (c+1)))) <|
  a0c (a0a E P0 k N.j6b [.p [.i (a.t 0).asI,.i (a.t 1).asI,.i (a.t 2).asI,.r (a.t 3).asR,.i (a.t 4).asI,.i (a.t 5).asI,.i (a.t 6).asI,.i (a.t 7).asI,.i (a.t 8).asI,.r (a.t 9).asR,.i (a.t 10).asI,.b (a.t 11).asB,.b (a.t 12).asB,.r (a.t 13).asR,.r ((a1y a c).take c.toNat++(a1y a c).drop (W64 (c+1)).toNat),.r (a.t 15).asR,.r (a.t 16).asR],.v [.i (at_ (a1y a c) c.toNat 0).asI,.i (at_ (a1y a c) c.toNat 1).asI,.i (at_ (a1y a c) c.toNat 2).asI,.i (at_ (a1y a c) c.toNat 3).asI,.r (at_ (a1y a c) c.toNat 4).asR],.v [.i (at_ (a.t 14).asR c.toNat 1).asI,.i (at_ (a.t 14).asR c.toNat 7).asI,.r (e.t 0).asR]]) fun f=>
  some ⟨(a1a f),[]⟩
 else
  chk (Nat.beq c.toNat c.toNat) <|
  chk (b8q (a.t 14).asR.length c (W64 (c+1))) <|
  chk (decide (c≤((c.toNat:Nat):Int))&&decide (((c.toNat:Nat):Int)<(W64 (c+1)))) <|
  a0c (a0a E P0 k N.j6b [.p [.i (a.t 0).asI,.i (a.t 1).asI,.i (a.t 2).asI,.r (a.t 3).asR,.i (a.t 4).asI,.i (a.t 5).asI,.i (a.t 6).asI,.i (a.t 7).asI,.i (a.t 8).asI,.r (a.t 9).asR,.i (a.t 10).asI,.b (a.t 11).asB,.b (a.t 12).asB,.r (a.t 13).asR,.r ((a.t 14).asR.take c.toNat++(a.t 14).asR.drop (W64 (c+1)).toNat),.r (a.t 15).asR,.r (a.t 16).asR],.v (a3c a c),.v [.i (at_ (a.t 14).asR c.toNat 1).asI,.i (at_ (a.t 14).asR c.toNat 7).asI,.r []]]) fun g=>
  some ⟨(a1a g),[]⟩
def a7y (k:Nat) (a:Int) (b:Outs) (n:Bool):OO:=
 bif n then
  chk (Nat.beq a.toNat a.toNat) <|
  bif ((at_ (b.t 14).asR a.toNat 0).asI == 1) then
   a0c (a0a E P0 k N.j7v [.v (a1z b),.v [.i (W64 ((at_ (b.t 14).asR a.toNat 2).asI+(at_ (b.t 14).asR a.toNat 5).asI))]]) fun l=>
   bif ((l.t 1).asI == 0) then
    chk (decide (((at_ (a1n b a) a.toNat 6).asR.length+([[.i (l.t 0).asI]]:LL).length)*8≤140737488355328)) <|
    chk (Nat.beq a.toNat a.toNat) <|
    a3z k a b (a0z (a0z (a1n b a) a.toNat 6 [.r ((at_ (a1n b a) a.toNat 6).asR++([[.i (l.t 0).asI]]:LL))]) a.toNat 7 [.i (l.t 1).asI])
   else
    a3z k a b (a0z (a1n b a) a.toNat 7 [.i (l.t 1).asI])
  else
   bif ((at_ (b.t 14).asR a.toNat 0).asI == 2) then
    chk (decide (0≤(at_ (b.t 14).asR a.toNat 5).asI)&&decide ((at_ (b.t 14).asR a.toNat 5).asI<((at_ (b.t 14).asR a.toNat 4).asR.length:Int))) <|
    a0c (a0a E P0 k N.j6d [.v (a1z b),.v [.i (W64 ((at_ (b.t 14).asR a.toNat 2).asI+(at_ (b.t 14).asR a.toNat 5).asI))],.v [.i (at_ (at_ (b.t 14).asR a.toNat 4).asR (at_ (b.t 14).asR a.toNat 5).asI.toNat 0).asI]]) fun c=>
    bif ((at_ (a0h b a c) a.toNat 7).asI == 0) then
     some ⟨(a2k c b a),[]⟩
    else
     bif ((at_ (a0h b a c) a.toNat 0).asI == 1) then
      c3i k a b c ((at_ (a0h b a c) a.toNat 7).asI == 0)
     else
      c3i k a b c false
   else
    bif ((at_ (b.t 14).asR a.toNat 0).asI == 6) then
     a0c (a0a E P0 k N.j6d [.v (a1z b),.v [.i (W64 ((at_ (b.t 14).asR a.toNat 2).asI+(at_ (b.t 14).asR a.toNat 5).asI))],.v [.i 0]]) fun d=>
     bif ((at_ (a0h b a d) a.toNat 7).asI == 0) then
      some ⟨(a2k d b a),[]⟩
     else
      bif ((at_ (a0h b a d) a.toNat 0).asI == 1) then
       c3j k a b d ((at_ (a0h b a d) a.toNat 7).asI == 0)
      else
       c3j k a b d false
    else
     bif ((at_ (b.t 14).asR a.toNat 0).asI == 3) then
      bif (decide ((at_ (b.t 14).asR a.toNat 5).asI<((at_ (b.t 14).asR a.toNat 4).asR.length:Int))) then
       chk (decide (0≤(at_ (b.t 14).asR a.toNat 5).asI)&&decide ((at_ (b.t 14).asR a.toNat 5).asI<((at_ (b.t 14).asR a.toNat 4).asR.length:Int))) <|
       a0c (a0a E P0 k N.j6d [.v (a1z b),.v [.i (W64 ((at_ (b.t 14).asR a.toNat 2).asI+(at_ (b.t 14).asR a.toNat 5).asI))],.v [.i (at_ (at_ (b.t 14).asR a.toNat 4).asR (at_ (b.t 14).asR a.toNat 5).asI.toNat 0).asI]]) fun e=>
       bif ((at_ (a0h b a e) a.toNat 7).asI == 0) then
        some ⟨(a2k e b a),[]⟩
       else
        bif ((at_ (a0h b a e) a.toNat 0).asI == 1) then
         c3k k a b e ((at_ (a0h b a e) a.toNat 7).asI == 0)
        else
         c3k k a b e false
      else
       a0c (a0a E P0 k N.j9t [.v [.i (b.t 1).asI,.i (b.t 2).asI],.v (a3c b a)]) fun o=>
       a0c (a0a E P0 k N.j7z [.v (a1z b),.v [.i (W64 ((W64 ((o.t 0).asI+(at_ (b.t 14).asR a.toNat 5).asI)) - ((at_ (b.t 14).asR a.toNat 4).asR.length:Int)))]]) fun f=>
       bif ((at_ (a0h b a f) a.toNat 7).asI == 0) then
        some ⟨(a2k f b a),[]⟩
       else
        bif ((at_ (a0h b a f) a.toNat 0).asI == 1) then
         c3l k a b f ((at_ (a0h b a f) a.toNat 7).asI == 0)
        else
         c3l k a b f false
     else
      bif ((at_ (b.t 14).asR a.toNat 0).asI == 4) then
       a0c (a0a E P0 k N.j7z [.v (a1z b),.v [.i (at_ (b.t 14).asR a.toNat 5).asI]]) fun g=>
       bif ((at_ (a0h b a g) a.toNat 7).asI == 0) then
        some ⟨(a2k g b a),[]⟩
       else
        bif ((at_ (a0h b a g) a.toNat 0).asI == 1) then
         c3m k a b g ((at_ (a0h b a g) a.toNat 7).asI == 0)
        else
         c3m k a b g false
      else
       a0c (a0a E P0 k N.j7v [.v (a1z b),.v [.i (W64 ((at_ (b.t 14).asR a.toNat 2).asI+(at_ (b.t 14).asR a.toNat 5).asI))]]) fun m=>
       bif ((m.t 1).asI != 0) then
        a3z k a b (a0z (a1n b a) a.toNat 7 [.i (m.t 1).asI])
       else
        chk (decide ((0:Int)<((at_ (b.t 14).asR a.toNat 4).asR.length:Int))) <|
        bif ((m.t 0).asI != (at_ (at_ (b.t 14).asR a.toNat 4).asR 0 0).asI) then
         a3z k a b (a0z (a1n b a) a.toNat 7 [.i 4])
        else
         chk (decide ((1:Int)<((at_ (b.t 14).asR a.toNat 4).asR.length:Int))) <|
         a0c (a0a E P0 k N.j6d [.v (a1z b),.v [.i (W64 ((at_ (b.t 14).asR a.toNat 2).asI+(at_ (b.t 14).asR a.toNat 5).asI))],.v [.i (at_ (at_ (b.t 14).asR a.toNat 4).asR 1 0).asI]]) fun h=>
         bif ((at_ (a0h b a h) a.toNat 7).asI == 0) then
          some ⟨(a2k h b a),[]⟩
         else
          bif ((at_ (a0h b a h) a.toNat 0).asI == 1) then
           c0k k a b h ((at_ (a0h b a h) a.toNat 7).asI == 0)
          else
           c0k k a b h false
 else
  bif ((at_ (b.t 14).asR a.toNat 0).asI == 1) then
   a5z k a b ((at_ (b.t 14).asR a.toNat 7).asI == 0)
  else
   a5z k a b false
def a7z (k:Nat) (d e c:Int) (a:Outs) (f:Bool):OO:=
 bif f then
  some ⟨[.i (a.t 0).asI,.i (a.t 1).asI,.i (a.t 2).asI,.r (a.t 3).asR,.i (a.t 4).asI,.i (a.t 5).asI,.i (a.t 6).asI,.i (a.t 7).asI,.i (a.t 8).asI,.r (a.t 9).asR,.i (a.t 10).asI,.b (a.t 11).asB,.b (a.t 12).asB,.r (a.t 13).asR,.r (a.t 14).asR,.r (a.t 15).asR,.r (a.t 16).asR,.b false],[]⟩
 else
  chk (decide (0≤c)&&decide (c<((a.t 14).asR.length:Int))) <|
  chk (Nat.blt c.toNat (a.t 14).asR.length) <|
  chk (Nat.beq c.toNat c.toNat) <|
  a0c (a0a E P0 k N.k1v [.v [.i d,.i e],.v (a3c a c)]) fun g=>
  bif (decide ((at_ (a.t 14).asR c.toNat 5).asI<(W64 ((g.t 0).asI - 1)))) then
   a7y k c a ((at_ (a.t 14).asR c.toNat 7).asI == 0)
  else
   a7y k c a false
def f3d (k:Nat) (h a c:Int) (l:LL) (m n o p q:Int) (u:LL) (w:Int) (x y:Bool) (z e A f:LL) (d:Int):OO:=
 a0c (a0a E P0 k N.j6k [.v [.i h,.i a,.i c,.r l,.i m,.i n,.i o,.i p,.i q,.r u,.i w,.b x,.b y,.r z,.r e,.r A,.r f]]) fun g=>
 a0c (a0a E P0 k N.j9r [.v [.i h,.i a,.i c,.r l,.i m,.i n,.i o,.i p,.i q,.r u,.i w,.b x,.b y,.r z,.r e,.r A,.r f]]) fun B=>
 bif (!(B.t 0).asB) then
  a7z k a c d g true
 else
  a0c (a0a E P0 k N.j5z [.v [.i d],.v [.i 0],.v [.i (W64 ((e.length:Int) - 1))]]) fun C=>
  bif (!(C.t 0).asB) then
   a7z k a c d g true
  else
   a7z k a c d g ((f.length:Int) == 400)
theorem h2f (k:Nat) (a c d:Int) (e:LL) (f g h l m:Int) (n:LL) (o:Int) (p q:Bool) (t u w x:LL) (y:Int):a0a E P0 (k+1) N.k2h [.v [.i a,.i c,.i d,.r e,.i f,.i g,.i h,.i l,.i m,.r n,.i o,.b p,.b q,.r t,.r u,.r w,.r x],.v [.i y]]=f3d k a c d e f g h l m n o p q t u w x y:=by kernel_rfl
def e5q (k:Nat) (a c d e:Int):OO:=
 bif (a != d) then
  some ⟨[.b false],[]⟩
 else
  bif (c != e) then some ⟨[.b false],[]⟩ else some ⟨[.b true],[]⟩
theorem g9l (k:Nat) (a b c d:Int):a0a E P0 (k+1) N.k4e [.v [.i a,.i b],.v [.i c,.i d]]=e5q k a b c d:=by kernel_rfl
def c4t (k:Nat) (c d:LL) (e:(Int)→OO):(Int)→OO:=fun a=>
 bif (decide (a<(c.length:Int))) then
  chk (decide (0≤a)&&decide (a<(c.length:Int))) <|
  chk (decide (0≤a)&&decide (a<(d.length:Int))) <|
  bif ((at_ c a.toNat 0).asI != (at_ d a.toNat 0).asI) then
   some ⟨[.b false],[]⟩
  else
   e (W64 (a+1))
 else
  some ⟨[.b true],[]⟩
def f8h:List Nat:=[0,1,4,5]
def d4x (a c:LL):(Int)→St:=fun d=>⟨a2y [(0,.sl 3 a),(1,.sl 3 c),(4,.b false),(5,.i .i64 d)],a0y []⟩
def b6o (k:Nat) (a b:LL) (c:(Int)→OO):(Int)→OO:=
 c4t k a b c
def c0l (k:Nat) (a c:LL) (d:(Int)→OO):OO:=
 bif ((a.length:Int) != (c.length:Int)) then some ⟨[.b false],[]⟩ else d 0
def e0e (k:Nat) (a b:LL):OO:=
 c0l k a b (fun v=>a1l (b6o k a b) k v)
def f3e (k:Nat) (a b:LL) (js:List Nat) (j:Nat) (s:St):OO:=a3g E (LB E (a0a E P0 k) k [] N.j6q [.sr,.sr,.sl,.sr,.bl]) [] f8h (LK E (a0a E P0 k) k [] N.j6q [.v [.r a],.v [.r b]] [.sr,.sr,.sl,.sr,.bl] js) j s
theorem g5f (k:Nat) (a c:LL):a0a E P0 (k+1) N.j6q [.v [.r a],.v [.r c]]=e0e k a c:=
 Eq.trans (b:=c0l k a c (fun v=>f3e k a c [] k (d4x a c v))) (by kernel_rfl) (congrArg (c0l k a c) (funext fun v=>a0j (d4x a c) (b6o k a c) (fun j v=>by kernel_rfl) k v))
def c1u (k:Nat) (c d:LL) (e:(Int)→OO):(Int)→OO:=fun a=>
 bif (decide (a<(c.length:Int))) then
  chk (decide (0≤a)&&decide (a<(c.length:Int))) <|
  chk (decide (0≤a)&&decide (a<(d.length:Int))) <|
  a0c (a0a E P0 k N.j6q [.v [.r (at_ c a.toNat 0).asR],.v [.r (at_ d a.toNat 0).asR]]) fun f=>
  bif (!(f.t 0).asB) then some ⟨[.b false],[]⟩ else e (W64 (a+1))
 else
  some ⟨[.b true],[]⟩
def f3f:List Nat:=[0,1,4,5]
def d0z (a c:LL):(Int)→St:=fun d=>⟨a2y [(0,.sl 68 a),(1,.sl 68 c),(4,.b false),(5,.i .i64 d)],a0y []⟩
def b3j (k:Nat) (a b:LL) (c:(Int)→OO):(Int)→OO:=
 c1u k a b c
def b6p (k:Nat) (a c:LL) (d:(Int)→OO):OO:=
 bif ((a.length:Int) != (c.length:Int)) then some ⟨[.b false],[]⟩ else d 0
def d4y (k:Nat) (a b:LL):OO:=
 b6p k a b (fun v=>a1l (b3j k a b) k v)
def e7f (k:Nat) (a b:LL) (js:List Nat) (j:Nat) (s:St):OO:=a3g E (LB E (a0a E P0 k) k [] N.k0c [.sr,.sr,.sl,.sr,.bl]) [] f3f (LK E (a0a E P0 k) k [] N.k0c [.v [.r a],.v [.r b]] [.sr,.sr,.sl,.sr,.bl] js) j s
theorem f8i (k:Nat) (a c:LL):a0a E P0 (k+1) N.k0c [.v [.r a],.v [.r c]]=d4y k a c:=
 Eq.trans (b:=b6p k a c (fun v=>e7f k a c [] k (d0z a c v))) (by kernel_rfl) (congrArg (b6p k a c) (funext fun v=>a0j (d0z a c) (b3j k a c) (fun j v=>by kernel_rfl) k v))
def f3g (k:Nat) (a:Int) (c:LL) (d:Int) (e:LL):OO:=
 bif (a != d) then
  some ⟨[.b false],[]⟩
 else
  a0c (a0a E P0 k N.j6q [.v [.r c],.v [.r e]]) fun f=>
  bif (!(f.t 0).asB) then some ⟨[.b false],[]⟩ else some ⟨[.b true],[]⟩
theorem h2g (k:Nat) (a:Int) (b:LL) (c:Int) (d:LL):a0a E P0 (k+1) N.k4f [.v [.i a,.r b],.v [.i c,.r d]]=f3g k a b c d:=by kernel_rfl
def c7f (k:Nat) (c d:LL) (e:(Int)→OO):(Int)→OO:=fun a=>
 bif (decide (a<(c.length:Int))) then
  chk (decide (0≤a)&&decide (a<(c.length:Int))) <|
  chk (decide (0≤a)&&decide (a<(d.length:Int))) <|
  a0c (a0a E P0 k N.k4f [.v [.i (at_ c a.toNat 0).asI,.r (at_ c a.toNat 1).asR],.v [.i (at_ d a.toNat 0).asI,.r (at_ d a.toNat 1).asR]]) fun f=>
  bif (!(f.t 0).asB) then some ⟨[.b false],[]⟩ else e (W64 (a+1))
 else
  some ⟨[.b true],[]⟩
def g5g:List Nat:=[0,1,4,5]
def e0f (a c:LL):(Int)→St:=fun d=>⟨a2y [(0,.sl 176 a),(1,.sl 176 c),(4,.b false),(5,.i .i64 d)],a0y []⟩
def c0m (k:Nat) (a b:LL) (c:(Int)→OO):(Int)→OO:=
 c7f k a b c
def c3n (k:Nat) (a c:LL) (d:(Int)→OO):OO:=
 bif ((a.length:Int) != (c.length:Int)) then some ⟨[.b false],[]⟩ else d 0
def e5r (k:Nat) (a b:LL):OO:=
 c3n k a b (fun v=>a1l (c0m k a b) k v)
def f8j (k:Nat) (a b:LL) (js:List Nat) (j:Nat) (s:St):OO:=a3g E (LB E (a0a E P0 k) k [] N.k0d [.sr,.sr,.sl,.sr,.bl]) [] g5g (LK E (a0a E P0 k) k [] N.k0d [.v [.r a],.v [.r b]] [.sr,.sr,.sl,.sr,.bl] js) j s
theorem g9m (k:Nat) (a c:LL):a0a E P0 (k+1) N.k0d [.v [.r a],.v [.r c]]=e5r k a c:=
 Eq.trans (b:=c3n k a c (fun v=>f8j k a c [] k (e0f a c v))) (by kernel_rfl) (congrArg (c3n k a c) (funext fun v=>a0j (e0f a c) (c0m k a c) (fun j v=>by kernel_rfl) k v))
def e5s (k:Nat) (a c:LL) (d:Bool) (e f g:LL) (h:Bool) (i:LL):OO:=
 a0c (a0a E P0 k N.k0c [.v [.r a],.v [.r f]]) fun l=>
 bif (!(l.t 0).asB) then
  some ⟨[.b false],[]⟩
 else
  a0c (a0a E P0 k N.k0d [.v [.r c],.v [.r g]]) fun m=>
  bif (!(m.t 0).asB) then
   some ⟨[.b false],[]⟩
  else
   bif (!(d == h)) then
    some ⟨[.b false],[]⟩
   else
    a0c (a0a E P0 k N.j6q [.v [.r e],.v [.r i]]) fun n=>
    bif (!(n.t 0).asB) then some ⟨[.b false],[]⟩ else some ⟨[.b true],[]⟩
theorem g9n (k:Nat) (a c:LL) (d:Bool) (e f g:LL) (h:Bool) (i:LL):a0a E P0 (k+1) N.k4g [.v [.r a,.r c,.b d,.r e],.v [.r f,.r g,.b h,.r i]]=e5s k a c d e f g h i:=by kernel_rfl
def c4u (k:Nat) (c d:LL) (e:(Int)→OO):(Int)→OO:=fun a=>
 bif (decide (a<(c.length:Int))) then
  chk (decide (0≤a)&&decide (a<(c.length:Int))) <|
  chk (decide (0≤a)&&decide (a<(d.length:Int))) <|
  a0c (a0a E P0 k N.k4g [.v [.r (at_ c a.toNat 0).asR,.r (at_ c a.toNat 1).asR,.b (at_ c a.toNat 2).asB,.r (at_ c a.toNat 3).asR],.v [.r (at_ d a.toNat 0).asR,.r (at_ d a.toNat 1).asR,.b (at_ d a.toNat 2).asB,.r (at_ d a.toNat 3).asR]]) fun f=>
  bif (!(f.t 0).asB) then some ⟨[.b false],[]⟩ else e (W64 (a+1))
 else
  some ⟨[.b true],[]⟩
def f8k:List Nat:=[0,1,4,5]
def d4z (a c:LL):(Int)→St:=fun d=>⟨a2y [(0,.sl 147 a),(1,.sl 147 c),(4,.b false),(5,.i .i64 d)],a0y []⟩
def b6q (k:Nat) (a b:LL) (c:(Int)→OO):(Int)→OO:=
 c4u k a b c
def c0n (k:Nat) (a c:LL) (d:(Int)→OO):OO:=
 bif ((a.length:Int) != (c.length:Int)) then some ⟨[.b false],[]⟩ else d 0
def e0g (k:Nat) (a b:LL):OO:=
 c0n k a b (fun v=>a1l (b6q k a b) k v)
def f3h (k:Nat) (a b:LL) (js:List Nat) (j:Nat) (s:St):OO:=a3g E (LB E (a0a E P0 k) k [] N.k0e [.sr,.sr,.sl,.sr,.bl]) [] f8k (LK E (a0a E P0 k) k [] N.k0e [.v [.r a],.v [.r b]] [.sr,.sr,.sl,.sr,.bl] js) j s
theorem g5h (k:Nat) (a c:LL):a0a E P0 (k+1) N.k0e [.v [.r a],.v [.r c]]=e0g k a c:=
 Eq.trans (b:=c0n k a c (fun v=>f3h k a c [] k (d4z a c v))) (by kernel_rfl) (congrArg (c0n k a c) (funext fun v=>a0j (d4z a c) (b6q k a c) (fun j v=>by kernel_rfl) k v))
def e5t (k:Nat) (a:Int) (c:LL) (d:Int) (e:LL):OO:=
 bif (a != d) then
  some ⟨[.b false],[]⟩
 else
  a0c (a0a E P0 k N.j6q [.v [.r c],.v [.r e]]) fun f=>
  bif (!(f.t 0).asB) then some ⟨[.b false],[]⟩ else some ⟨[.b true],[]⟩
theorem g9o (k:Nat) (a:Int) (b:LL) (c:Int) (d:LL):a0a E P0 (k+1) N.k4h [.v [.i a,.r b],.v [.i c,.r d]]=e5t k a b c d:=by kernel_rfl
def c4v (k:Nat) (c d:LL) (e:(Int)→OO):(Int)→OO:=fun a=>
 bif (decide (a<(c.length:Int))) then
  chk (decide (0≤a)&&decide (a<(c.length:Int))) <|
  chk (decide (0≤a)&&decide (a<(d.length:Int))) <|
  a0c (a0a E P0 k N.k4h [.v [.i (at_ c a.toNat 0).asI,.r (at_ c a.toNat 1).asR],.v [.i (at_ d a.toNat 0).asI,.r (at_ d a.toNat 1).asR]]) fun f=>
  bif (!(f.t 0).asB) then some ⟨[.b false],[]⟩ else e (W64 (a+1))
 else
  some ⟨[.b true],[]⟩
def f8l:List Nat:=[0,1,4,5]
def d5a (a c:LL):(Int)→St:=fun d=>⟨a2y [(0,.sl 149 a),(1,.sl 149 c),(4,.b false),(5,.i .i64 d)],a0y []⟩
def b6r (k:Nat) (a b:LL) (c:(Int)→OO):(Int)→OO:=
 c4v k a b c
def c0o (k:Nat) (a c:LL) (d:(Int)→OO):OO:=
 bif ((a.length:Int) != (c.length:Int)) then some ⟨[.b false],[]⟩ else d 0
def e0h (k:Nat) (a b:LL):OO:=
 c0o k a b (fun v=>a1l (b6r k a b) k v)
def f3i (k:Nat) (a b:LL) (js:List Nat) (j:Nat) (s:St):OO:=a3g E (LB E (a0a E P0 k) k [] N.k0f [.sr,.sr,.sl,.sr,.bl]) [] f8l (LK E (a0a E P0 k) k [] N.k0f [.v [.r a],.v [.r b]] [.sr,.sr,.sl,.sr,.bl] js) j s
theorem g5i (k:Nat) (a c:LL):a0a E P0 (k+1) N.k0f [.v [.r a],.v [.r c]]=e0h k a c:=
 Eq.trans (b:=c0o k a c (fun v=>f3i k a c [] k (d5a a c v))) (by kernel_rfl) (congrArg (c0o k a c) (funext fun v=>a0j (d5a a c) (b6r k a c) (fun j v=>by kernel_rfl) k v))
def e5u (k:Nat) (a c d:Int) (e:LL) (f g h l m:Int) (n:LL) (o:Int) (p q:Bool) (u w x:Int) (y:LL) (z A B C D:Int) (F:LL) (G:Int) (H J:Bool):OO:=
 bif (a != u) then
  some ⟨[.b false],[]⟩
 else
  a0c (a0a E P0 k N.k4e [.v [.i c,.i d],.v [.i w,.i x]]) fun K=>
  bif (!(K.t 0).asB) then
   some ⟨[.b false],[]⟩
  else
   a0c (a0a E P0 k N.k0e [.v [.r e],.v [.r y]]) fun L=>
   bif (!(L.t 0).asB) then
    some ⟨[.b false],[]⟩
   else
    bif (f != z) then
     some ⟨[.b false],[]⟩
    else
     bif (g != A) then
      some ⟨[.b false],[]⟩
     else
      bif (h != B) then
       some ⟨[.b false],[]⟩
      else
       bif (l != C) then
        some ⟨[.b false],[]⟩
       else
        bif (m != D) then
         some ⟨[.b false],[]⟩
        else
         a0c (a0a E P0 k N.k0f [.v [.r n],.v [.r F]]) fun M=>
         bif (!(M.t 0).asB) then
          some ⟨[.b false],[]⟩
         else
          bif (o != G) then
           some ⟨[.b false],[]⟩
          else
           bif (!(p == H)) then
            some ⟨[.b false],[]⟩
           else
            bif (!(q == J)) then some ⟨[.b false],[]⟩ else some ⟨[.b true],[]⟩
theorem g9p (k:Nat) (a c d:Int) (e:LL) (f g h l m:Int) (n:LL) (o:Int) (p q:Bool) (t u w:Int) (x:LL) (y z A B C:Int) (D:LL) (F:Int) (G H:Bool):a0a E P0 (k+1) N.k4i [.v [.i a,.i c,.i d,.r e,.i f,.i g,.i h,.i l,.i m,.r n,.i o,.b p,.b q],.v [.i t,.i u,.i w,.r x,.i y,.i z,.i A,.i B,.i C,.r D,.i F,.b G,.b H]]=e5u k a c d e f g h l m n o p q t u w x y z A B C D F G H:=by kernel_rfl
def e5v (k:Nat) (a c d e:Int) (f:LL) (g h i l:Int) (m:LL):OO:=
 bif (a != g) then
  some ⟨[.b false],[]⟩
 else
  bif (c != h) then
   some ⟨[.b false],[]⟩
  else
   bif (d != i) then
    some ⟨[.b false],[]⟩
   else
    bif (e != l) then
     some ⟨[.b false],[]⟩
    else
     a0c (a0a E P0 k N.j6q [.v [.r f],.v [.r m]]) fun n=>
     bif (!(n.t 0).asB) then some ⟨[.b false],[]⟩ else some ⟨[.b true],[]⟩
theorem g9q (k:Nat) (a b c d:Int) (e:LL) (f g h l:Int) (m:LL):a0a E P0 (k+1) N.k0g [.v [.i a,.i b,.i c,.i d,.r e],.v [.i f,.i g,.i h,.i l,.r m]]=e5v k a b c d e f g h l m:=by kernel_rfl
def c4w (k:Nat) (c d:LL) (e:(Int)→OO):(Int)→OO:=fun a=>
 bif (decide (a<(c.length:Int))) then
  chk (decide (0≤a)&&decide (a<(c.length:Int))) <|
  chk (decide (0≤a)&&decide (a<(d.length:Int))) <|
  a0c (a0a E P0 k N.k0g [.v [.i (at_ c a.toNat 0).asI,.i (at_ c a.toNat 1).asI,.i (at_ c a.toNat 2).asI,.i (at_ c a.toNat 3).asI,.r (at_ c a.toNat 4).asR],.v [.i (at_ d a.toNat 0).asI,.i (at_ d a.toNat 1).asI,.i (at_ d a.toNat 2).asI,.i (at_ d a.toNat 3).asI,.r (at_ d a.toNat 4).asR]]) fun f=>
  bif (!(f.t 0).asB) then some ⟨[.b false],[]⟩ else e (W64 (a+1))
 else
  some ⟨[.b true],[]⟩
def f8m:List Nat:=[0,1,4,5]
def d5b (a c:LL):(Int)→St:=fun d=>⟨a2y [(0,.sl 70 a),(1,.sl 70 c),(4,.b false),(5,.i .i64 d)],a0y []⟩
def b6s (k:Nat) (a b:LL) (c:(Int)→OO):(Int)→OO:=
 c4w k a b c
def c0p (k:Nat) (a c:LL) (d:(Int)→OO):OO:=
 bif ((a.length:Int) != (c.length:Int)) then some ⟨[.b false],[]⟩ else d 0
def e0i (k:Nat) (a b:LL):OO:=
 c0p k a b (fun v=>a1l (b6s k a b) k v)
def f3j (k:Nat) (a b:LL) (js:List Nat) (j:Nat) (s:St):OO:=a3g E (LB E (a0a E P0 k) k [] N.k0h [.sr,.sr,.sl,.sr,.bl]) [] f8m (LK E (a0a E P0 k) k [] N.k0h [.v [.r a],.v [.r b]] [.sr,.sr,.sl,.sr,.bl] js) j s
theorem g5j (k:Nat) (a c:LL):a0a E P0 (k+1) N.k0h [.v [.r a],.v [.r c]]=e0i k a c:=
 Eq.trans (b:=c0p k a c (fun v=>f3j k a c [] k (d5b a c v))) (by kernel_rfl) (congrArg (c0p k a c) (funext fun v=>a0j (d5b a c) (b6s k a c) (fun j v=>by kernel_rfl) k v))
def e5w (k:Nat) (a c d e:Int) (f:LL) (g:Int) (h:LL) (l m n o p:Int) (q:LL) (u:Int) (w:LL) (x:Int):OO:=
 a0c (a0a E P0 k N.k0g [.v [.i a,.i c,.i d,.i e,.r f],.v [.i m,.i n,.i o,.i p,.r q]]) fun y=>
 bif (!(y.t 0).asB) then
  some ⟨[.b false],[]⟩
 else
  bif (g != u) then
   some ⟨[.b false],[]⟩
  else
   a0c (a0a E P0 k N.j6q [.v [.r h],.v [.r w]]) fun z=>
   bif (!(z.t 0).asB) then
    some ⟨[.b false],[]⟩
   else
    bif (l != x) then some ⟨[.b false],[]⟩ else some ⟨[.b true],[]⟩
theorem g9r (k:Nat) (a b c d:Int) (e:LL) (f:Int) (g:LL) (h l m n o:Int) (p:LL) (q:Int) (t:LL) (u:Int):a0a E P0 (k+1) N.k4j [.v [.i a,.i b,.i c,.i d,.r e,.i f,.r g,.i h],.v [.i l,.i m,.i n,.i o,.r p,.i q,.r t,.i u]]=e5w k a b c d e f g h l m n o p q t u:=by kernel_rfl
def c4x (k:Nat) (c d:LL) (e:(Int)→OO):(Int)→OO:=fun a=>
 bif (decide (a<(c.length:Int))) then
  chk (decide (0≤a)&&decide (a<(c.length:Int))) <|
  chk (decide (0≤a)&&decide (a<(d.length:Int))) <|
  a0c (a0a E P0 k N.k4j [.v [.i (at_ c a.toNat 0).asI,.i (at_ c a.toNat 1).asI,.i (at_ c a.toNat 2).asI,.i (at_ c a.toNat 3).asI,.r (at_ c a.toNat 4).asR,.i (at_ c a.toNat 5).asI,.r (at_ c a.toNat 6).asR,.i (at_ c a.toNat 7).asI],.v [.i (at_ d a.toNat 0).asI,.i (at_ d a.toNat 1).asI,.i (at_ d a.toNat 2).asI,.i (at_ d a.toNat 3).asI,.r (at_ d a.toNat 4).asR,.i (at_ d a.toNat 5).asI,.r (at_ d a.toNat 6).asR,.i (at_ d a.toNat 7).asI]]) fun f=>
  bif (!(f.t 0).asB) then some ⟨[.b false],[]⟩ else e (W64 (a+1))
 else
  some ⟨[.b true],[]⟩
def f8n:List Nat:=[0,1,4,5]
def d5c (a c:LL):(Int)→St:=fun d=>⟨a2y [(0,.sl 72 a),(1,.sl 72 c),(4,.b false),(5,.i .i64 d)],a0y []⟩
def b6t (k:Nat) (a b:LL) (c:(Int)→OO):(Int)→OO:=
 c4x k a b c
def c0q (k:Nat) (a c:LL) (d:(Int)→OO):OO:=
 bif ((a.length:Int) != (c.length:Int)) then some ⟨[.b false],[]⟩ else d 0
def e0j (k:Nat) (a b:LL):OO:=
 c0q k a b (fun v=>a1l (b6t k a b) k v)
def f3k (k:Nat) (a b:LL) (js:List Nat) (j:Nat) (s:St):OO:=a3g E (LB E (a0a E P0 k) k [] N.k0i [.sr,.sr,.sl,.sr,.bl]) [] f8n (LK E (a0a E P0 k) k [] N.k0i [.v [.r a],.v [.r b]] [.sr,.sr,.sl,.sr,.bl] js) j s
theorem g5k (k:Nat) (a c:LL):a0a E P0 (k+1) N.k0i [.v [.r a],.v [.r c]]=e0j k a c:=
 Eq.trans (b:=c0q k a c (fun v=>f3k k a c [] k (d5c a c v))) (by kernel_rfl) (congrArg (c0q k a c) (funext fun v=>a0j (d5c a c) (b6t k a c) (fun j v=>by kernel_rfl) k v))
def e5x (k:Nat) (a c:Int) (d:LL) (e f:Int) (g:LL):OO:=
 bif (a != e) then
  some ⟨[.b false],[]⟩
 else
  bif (c != f) then
   some ⟨[.b false],[]⟩
  else
   a0c (a0a E P0 k N.j6q [.v [.r d],.v [.r g]]) fun h=>
   bif (!(h.t 0).asB) then some ⟨[.b false],[]⟩ else some ⟨[.b true],[]⟩
theorem g9s (k:Nat) (a b:Int) (c:LL) (d e:Int) (f:LL):a0a E P0 (k+1) N.k2i [.v [.i a,.i b,.r c],.v [.i d,.i e,.r f]]=e5x k a b c d e f:=by kernel_rfl
def c4y (k:Nat) (c d:LL) (e:(Int)→OO):(Int)→OO:=fun a=>
 bif (decide (a<(c.length:Int))) then
  chk (decide (0≤a)&&decide (a<(c.length:Int))) <|
  chk (decide (0≤a)&&decide (a<(d.length:Int))) <|
  a0c (a0a E P0 k N.k2i [.v [.i (at_ c a.toNat 0).asI,.i (at_ c a.toNat 1).asI,.r (at_ c a.toNat 2).asR],.v [.i (at_ d a.toNat 0).asI,.i (at_ d a.toNat 1).asI,.r (at_ d a.toNat 2).asR]]) fun f=>
  bif (!(f.t 0).asB) then some ⟨[.b false],[]⟩ else e (W64 (a+1))
 else
  some ⟨[.b true],[]⟩
def f8o:List Nat:=[0,1,4,5]
def d5d (a c:LL):(Int)→St:=fun d=>⟨a2y [(0,.sl 76 a),(1,.sl 76 c),(4,.b false),(5,.i .i64 d)],a0y []⟩
def b6u (k:Nat) (a b:LL) (c:(Int)→OO):(Int)→OO:=
 c4y k a b c
def c0r (k:Nat) (a c:LL) (d:(Int)→OO):OO:=
 bif ((a.length:Int) != (c.length:Int)) then some ⟨[.b false],[]⟩ else d 0
def e0k (k:Nat) (a b:LL):OO:=
 c0r k a b (fun v=>a1l (b6u k a b) k v)
def f3l (k:Nat) (a b:LL) (js:List Nat) (j:Nat) (s:St):OO:=a3g E (LB E (a0a E P0 k) k [] N.k0j [.sr,.sr,.sl,.sr,.bl]) [] f8o (LK E (a0a E P0 k) k [] N.k0j [.v [.r a],.v [.r b]] [.sr,.sr,.sl,.sr,.bl] js) j s
theorem g5l (k:Nat) (a c:LL):a0a E P0 (k+1) N.k0j [.v [.r a],.v [.r c]]=e0k k a c:=
 Eq.trans (b:=c0r k a c (fun v=>f3l k a c [] k (d5d a c v))) (by kernel_rfl) (congrArg (c0r k a c) (funext fun v=>a0j (d5d a c) (b6u k a c) (fun j v=>by kernel_rfl) k v))
def e0l (k:Nat) (a c d e:Int) (f:LL) (g h:Int) (l:LL) (m n o p:Int) (q:LL) (u w:Int) (x:LL):OO:=
 a0c (a0a E P0 k N.k0g [.v [.i a,.i c,.i d,.i e,.r f],.v [.i m,.i n,.i o,.i p,.r q]]) fun y=>
 bif (!(y.t 0).asB) then
  some ⟨[.b false],[]⟩
 else
  a0c (a0a E P0 k N.k2i [.v [.i g,.i h,.r l],.v [.i u,.i w,.r x]]) fun z=>
  bif (!(z.t 0).asB) then some ⟨[.b false],[]⟩ else some ⟨[.b true],[]⟩
theorem g5m (k:Nat) (a b c d:Int) (e:LL) (f g:Int) (h:LL) (l m n o:Int) (p:LL) (q t:Int) (u:LL):a0a E P0 (k+1) N.k4k [.v [.i a,.i b,.i c,.i d,.r e,.i f,.i g,.r h],.v [.i l,.i m,.i n,.i o,.r p,.i q,.i t,.r u]]=e0l k a b c d e f g h l m n o p q t u:=by kernel_rfl
def c1v (k:Nat) (c d:LL) (e:(Int)→OO):(Int)→OO:=fun a=>
 bif (decide (a<(c.length:Int))) then
  chk (decide (0≤a)&&decide (a<(c.length:Int))) <|
  chk (decide (0≤a)&&decide (a<(d.length:Int))) <|
  a0c (a0a E P0 k N.k4k [.v [.i (at_ c a.toNat 0).asI,.i (at_ c a.toNat 1).asI,.i (at_ c a.toNat 2).asI,.i (at_ c a.toNat 3).asI,.r (at_ c a.toNat 4).asR,.i (at_ c a.toNat 5).asI,.i (at_ c a.toNat 6).asI,.r (at_ c a.toNat 7).asR],.v [.i (at_ d a.toNat 0).asI,.i (at_ d a.toNat 1).asI,.i (at_ d a.toNat 2).asI,.i (at_ d a.toNat 3).asI,.r (at_ d a.toNat 4).asR,.i (at_ d a.toNat 5).asI,.i (at_ d a.toNat 6).asI,.r (at_ d a.toNat 7).asR]]) fun f=>
  bif (!(f.t 0).asB) then some ⟨[.b false],[]⟩ else e (W64 (a+1))
 else
  some ⟨[.b true],[]⟩
def f3m:List Nat:=[0,1,4,5]
def d1a (a c:LL):(Int)→St:=fun d=>⟨a2y [(0,.sl 106 a),(1,.sl 106 c),(4,.b false),(5,.i .i64 d)],a0y []⟩
def b3k (k:Nat) (a b:LL) (c:(Int)→OO):(Int)→OO:=
 c1v k a b c
def b6v (k:Nat) (a c:LL) (d:(Int)→OO):OO:=
 bif ((a.length:Int) != (c.length:Int)) then some ⟨[.b false],[]⟩ else d 0
def d5e (k:Nat) (a b:LL):OO:=
 b6v k a b (fun v=>a1l (b3k k a b) k v)
def e7g (k:Nat) (a b:LL) (js:List Nat) (j:Nat) (s:St):OO:=a3g E (LB E (a0a E P0 k) k [] N.k0k [.sr,.sr,.sl,.sr,.bl]) [] f3m (LK E (a0a E P0 k) k [] N.k0k [.v [.r a],.v [.r b]] [.sr,.sr,.sl,.sr,.bl] js) j s
theorem f8p (k:Nat) (a c:LL):a0a E P0 (k+1) N.k0k [.v [.r a],.v [.r c]]=d5e k a c:=
 Eq.trans (b:=b6v k a c (fun v=>e7g k a c [] k (d1a a c v))) (by kernel_rfl) (congrArg (b6v k a c) (funext fun v=>a0j (d1a a c) (b3k k a c) (fun j v=>by kernel_rfl) k v))
def e5y (k:Nat) (a c d:Int) (e:LL) (f g h l m:Int) (n:LL) (o:Int) (p q:Bool) (u w x y:LL) (z A B:Int) (C:LL) (D F G H J:Int) (K:LL) (L:Int) (M O:Bool) (Q R S U:LL):OO:=
 a0c (a0a E P0 k N.k4i [.v [.i a,.i c,.i d,.r e,.i f,.i g,.i h,.i l,.i m,.r n,.i o,.b p,.b q],.v [.i z,.i A,.i B,.r C,.i D,.i F,.i G,.i H,.i J,.r K,.i L,.b M,.b O]]) fun V=>
 bif (!(V.t 0).asB) then
  some ⟨[.b false],[]⟩
 else
  a0c (a0a E P0 k N.k0h [.v [.r u],.v [.r Q]]) fun W=>
  bif (!(W.t 0).asB) then
   some ⟨[.b false],[]⟩
  else
   a0c (a0a E P0 k N.k0i [.v [.r w],.v [.r R]]) fun X=>
   bif (!(X.t 0).asB) then
    some ⟨[.b false],[]⟩
   else
    a0c (a0a E P0 k N.k0j [.v [.r x],.v [.r S]]) fun Y=>
    bif (!(Y.t 0).asB) then
     some ⟨[.b false],[]⟩
    else
     a0c (a0a E P0 k N.k0k [.v [.r y],.v [.r U]]) fun Z=>
     bif (!(Z.t 0).asB) then some ⟨[.b false],[]⟩ else some ⟨[.b true],[]⟩
theorem g9t (k:Nat) (a c d:Int) (e:LL) (f g h l m:Int) (n:LL) (o:Int) (p q:Bool) (t u w x:LL) (y z A:Int) (B:LL) (C D F G H:Int) (J:LL) (K:Int) (L M:Bool) (O Q R S:LL):a0a E P0 (k+1) N.j7h [.v [.i a,.i c,.i d,.r e,.i f,.i g,.i h,.i l,.i m,.r n,.i o,.b p,.b q,.r t,.r u,.r w,.r x],.v [.i y,.i z,.i A,.r B,.i C,.i D,.i F,.i G,.i H,.r J,.i K,.b L,.b M,.r O,.r Q,.r R,.r S]]=e5y k a c d e f g h l m n o p q t u w x y z A B C D F G H J K L M O Q R S:=by kernel_rfl
def b7u (k:Nat) (d:(V2_)→OO):(V2_)→OO:=fun (c,a,b)=>
 bif (decide (a<(b.length:Int))) then
  chk (decide (0≤a)&&decide (a<(b.length:Int))) <|
  d ((W64 (c+1)),(W64 (a+1)),(a0z b a.toNat 0 [.i c]))
 else
  some ⟨[.i c],[[.r b]]⟩
def e7h:List Nat:=[0,1,4,5,18]
def c8g:(V2_)→St:=fun (a,b,c)=>⟨a2y [(0,.ref (0,0)),(1,.i .i64 a),(4,.i .i64 0),(5,.i .i64 b),(18,.skip)],a0y [((0,0),.row 3 true c)]⟩
def b0e (k:Nat) (a:(V2_)→OO):(V2_)→OO:=
 b7u k a
def b3l (k:Nat) (a:LL) (b:Int) (c:(V2_)→OO):OO:=
 c (b,0,a)
def d1b (k:Nat) (a:LL) (b:Int):OO:=
 b3l k a b (fun v=>a1l (b0e k) k v)
def e2n (k:Nat) (a:LL) (b:Int) (js:List Nat) (j:Nat) (s:St):OO:=a3g E (LB E (a0a E P0 k) k [0] N.j6e [.sr,.sl,.sr,.bl]) [0] e7h (LK E (a0a E P0 k) k [0] N.j6e [.r a,.v [.i b]] [.sr,.sl,.sr,.bl] js) j s
theorem f3n (k:Nat) (a:LL) (c:Int):a0a E P0 (k+1) N.j6e [.r a,.v [.i c]]=d1b k a c:=
 Eq.trans (b:=b3l k a c (fun v=>e2n k a c [] k (c8g v))) (by kernel_rfl) (congrArg (b3l k a c) (funext fun v=>a0j (c8g) (b0e k) (fun j v=>by kernel_rfl) k v))
def b4q (k:Nat) (e:(V2_)→OO):(V2_)→OO:=fun (c,a,b)=>
 bif (decide (a<(b.length:Int))) then
  chk (decide (0≤a)&&decide (a<(b.length:Int))) <|
  a0c (a0a E P0 k N.j6e [.r ((at_ b a.toNat 0).asR),.v [.i c]]) fun d=>
  e ((d.t 0).asI,(W64 (a+1)),(a0z b a.toNat 0 [.r ((d.vt 0 0).asR)]))
 else
  some ⟨[.i c],[[.r b]]⟩
def e2o:List Nat:=[0,1,4,5,18]
def c5v:(V2_)→St:=fun (a,b,c)=>⟨a2y [(0,.ref (0,0)),(1,.i .i64 a),(4,.i .i64 0),(5,.i .i64 b),(18,.skip)],Mem.put (a0y [((0,0),.deep 68 c none)]) a2h .dead⟩
def a8n (k:Nat) (a:(V2_)→OO):(V2_)→OO:=
 b4q k a
def b0f (k:Nat) (a:LL) (b:Int) (c:(V2_)→OO):OO:=
 c (b,0,a)
def c8h (k:Nat) (a:LL) (b:Int):OO:=
 b0f k a b (fun v=>a1l (a8n k) k v)
def e0m (k:Nat) (a:LL) (b:Int) (js:List Nat) (j:Nat) (s:St):OO:=a3g E (LB E (a0a E P0 k) k [0] N.k0l [.sr,.sl,.sr,.bl]) [0] e2o (LK E (a0a E P0 k) k [0] N.k0l [.r a,.v [.i b]] [.sr,.sl,.sr,.bl] js) j s
theorem e7i (k:Nat) (a:LL) (c:Int):a0a E P0 (k+1) N.k0l [.r a,.v [.i c]]=c8h k a c:=
 Eq.trans (b:=b0f k a c (fun v=>e0m k a c [] k (c5v v))) (by kernel_rfl) (congrArg (b0f k a c) (funext fun v=>a0j (c5v) (a8n k) (fun j v=>by kernel_rfl) k v))
def c1w (k:Nat) (e:(V2_)→OO):(V2_)→OO:=fun (c,a,b)=>
 bif (decide (a<(b.length:Int))) then
  chk (decide (0≤a)&&decide (a<(b.length:Int))) <|
  chk (decide (0≤a)&&decide (a<((a0z b a.toNat 0 [.i c]).length:Int))) <|
  a0c (a0a E P0 k N.j6e [.r ((at_ (a0z b a.toNat 0 [.i c]) a.toNat 1).asR),.v [.i (W64 (c+1))]]) fun d=>
  e ((d.t 0).asI,(W64 (a+1)),(a0z (a0z b a.toNat 0 [.i c]) a.toNat 1 [.r ((d.vt 0 0).asR)]))
 else
  some ⟨[.i c],[[.r b]]⟩
def f3o:List Nat:=[0,1,4,5,26]
def d1c:(V2_)→St:=fun (a,b,c)=>⟨a2y [(0,.ref (0,0)),(1,.i .i64 a),(4,.i .i64 0),(5,.i .i64 b),(26,.skip)],Mem.put (a0y [((0,0),.deep 176 c none)]) a2h .dead⟩
def b3m (k:Nat) (a:(V2_)→OO):(V2_)→OO:=
 c1w k a
def b6w (k:Nat) (a:LL) (b:Int) (c:(V2_)→OO):OO:=
 c (b,0,a)
def d5f (k:Nat) (a:LL) (b:Int):OO:=
 b6w k a b (fun v=>a1l (b3m k) k v)
def e7j (k:Nat) (a:LL) (b:Int) (js:List Nat) (j:Nat) (s:St):OO:=a3g E (LB E (a0a E P0 k) k [0] N.k0m [.sr,.sl,.sr,.bl]) [0] f3o (LK E (a0a E P0 k) k [0] N.k0m [.r a,.v [.i b]] [.sr,.sl,.sr,.bl] js) j s
theorem f8q (k:Nat) (a:LL) (c:Int):a0a E P0 (k+1) N.k0m [.r a,.v [.i c]]=d5f k a c:=
 Eq.trans (b:=b6w k a c (fun v=>e7j k a c [] k (d1c v))) (by kernel_rfl) (congrArg (b6w k a c) (funext fun v=>a0j (d1c) (b3m k) (fun j v=>by kernel_rfl) k v))
def b7v (k:Nat) (h:(V2_)→OO):(V2_)→OO:=fun (f,a,c)=>
 bif (decide (a<(c.length:Int))) then
  chk (decide (0≤a)&&decide (a<(c.length:Int))) <|
  a0c (a0a E P0 k N.k0l [.r ((at_ c a.toNat 0).asR),.v [.i f]]) fun e=>
  chk (decide (0≤a)&&decide (a<(c.length:Int))) <|
  a0c (a0a E P0 k N.k0m [.r ((at_ (a0z c a.toNat 0 [.r ((e.vt 0 0).asR)]) a.toNat 1).asR),.v [.i (e.t 0).asI]]) fun d=>
  chk (decide (0≤a)&&decide (a<((a0z c a.toNat 0 [.r ((e.vt 0 0).asR)]).length:Int))) <|
  chk (decide (0≤a)&&decide (a<((a0z (a0z (a0z c a.toNat 0 [.r ((e.vt 0 0).asR)]) a.toNat 1 [.r ((d.vt 0 0).asR)]) a.toNat 2 [.b ((Int.tmod (d.t 0).asI 3) == 0)]).length:Int))) <|
  a0c (a0a E P0 k N.j6e [.r ((at_ (a0z (a0z (a0z c a.toNat 0 [.r ((e.vt 0 0).asR)]) a.toNat 1 [.r ((d.vt 0 0).asR)]) a.toNat 2 [.b ((Int.tmod (d.t 0).asI 3) == 0)]) a.toNat 3).asR),.v [.i (W64 ((d.t 0).asI+1))]]) fun g=>
  h ((g.t 0).asI,(W64 (a+1)),(a0z (a0z (a0z (a0z c a.toNat 0 [.r ((e.vt 0 0).asR)]) a.toNat 1 [.r ((d.vt 0 0).asR)]) a.toNat 2 [.b ((Int.tmod (d.t 0).asI 3) == 0)]) a.toNat 3 [.r ((g.vt 0 0).asR)]))
 else
  some ⟨[.i f],[[.r c]]⟩
def e7k:List Nat:=[0,1,4,5,42]
def c8i:(V2_)→St:=fun (a,b,c)=>⟨a2y [(0,.ref (0,0)),(1,.i .i64 a),(4,.i .i64 0),(5,.i .i64 b),(42,.skip)],Mem.put (a0y [((0,0),.deep 147 c none)]) a2h .dead⟩
def b0g (k:Nat) (a:(V2_)→OO):(V2_)→OO:=
 b7v k a
def b3n (k:Nat) (a:LL) (b:Int) (c:(V2_)→OO):OO:=
 c (b,0,a)
def d1d (k:Nat) (a:LL) (b:Int):OO:=
 b3n k a b (fun v=>a1l (b0g k) k v)
def e2p (k:Nat) (a:LL) (b:Int) (js:List Nat) (j:Nat) (s:St):OO:=a3g E (LB E (a0a E P0 k) k [0] N.k0n [.sr,.sl,.sr,.bl]) [0] e7k (LK E (a0a E P0 k) k [0] N.k0n [.r a,.v [.i b]] [.sr,.sl,.sr,.bl] js) j s
theorem f3p (k:Nat) (a:LL) (c:Int):a0a E P0 (k+1) N.k0n [.r a,.v [.i c]]=d1d k a c:=
 Eq.trans (b:=b3n k a c (fun v=>e2p k a c [] k (c8i v))) (by kernel_rfl) (congrArg (b3n k a c) (funext fun v=>a0j (c8i) (b0g k) (fun j v=>by kernel_rfl) k v))
def b7w (k:Nat) (e:(V2_)→OO):(V2_)→OO:=fun (c,a,b)=>
 bif (decide (a<(b.length:Int))) then
  chk (decide (0≤a)&&decide (a<(b.length:Int))) <|
  chk (decide (0≤a)&&decide (a<((a0z b a.toNat 0 [.i c]).length:Int))) <|
  a0c (a0a E P0 k N.j6e [.r ((at_ (a0z b a.toNat 0 [.i c]) a.toNat 1).asR),.v [.i (W64 (c+1))]]) fun d=>
  e ((d.t 0).asI,(W64 (a+1)),(a0z (a0z b a.toNat 0 [.i c]) a.toNat 1 [.r ((d.vt 0 0).asR)]))
 else
  some ⟨[.i c],[[.r b]]⟩
def e7l:List Nat:=[0,1,4,5,26]
def c8j:(V2_)→St:=fun (a,b,c)=>⟨a2y [(0,.ref (0,0)),(1,.i .i64 a),(4,.i .i64 0),(5,.i .i64 b),(26,.skip)],Mem.put (a0y [((0,0),.deep 149 c none)]) a2h .dead⟩
def b0h (k:Nat) (a:(V2_)→OO):(V2_)→OO:=
 b7w k a
def b3o (k:Nat) (a:LL) (b:Int) (c:(V2_)→OO):OO:=
 c (b,0,a)
def d1e (k:Nat) (a:LL) (b:Int):OO:=
 b3o k a b (fun v=>a1l (b0h k) k v)
def e2q (k:Nat) (a:LL) (b:Int) (js:List Nat) (j:Nat) (s:St):OO:=a3g E (LB E (a0a E P0 k) k [0] N.k0o [.sr,.sl,.sr,.bl]) [0] e7l (LK E (a0a E P0 k) k [0] N.k0o [.r a,.v [.i b]] [.sr,.sl,.sr,.bl] js) j s
theorem f3q (k:Nat) (a:LL) (c:Int):a0a E P0 (k+1) N.k0o [.r a,.v [.i c]]=d1e k a c:=
 Eq.trans (b:=b3o k a c (fun v=>e2q k a c [] k (c8j v))) (by kernel_rfl) (congrArg (b3o k a c) (funext fun v=>a0j (c8j) (b0h k) (fun j v=>by kernel_rfl) k v))
def d5g (k:Nat) (d e f:Int) (g:LL) (h l m n o:Int) (p:LL) (q:Int) (u w:Bool) (x:Int):OO:=
 a0c (a0a E P0 k N.k0n [.r g,.v [.i x]]) fun a=>
 a0c (a0a E P0 k N.k0o [.r p,.v [.i (a.t 0).asI]]) fun c=>
 some ⟨[.i (c.t 0).asI],[[.i d,.i e,.i f,.r (a.vt 0 0).asR,.i h,.i l,.i m,.i n,.i o,.r (c.vt 0 0).asR,.i q,.b u,.b w]]⟩
theorem f8r (k:Nat) (a c d:Int) (e:LL) (f g h l m:Int) (n:LL) (o:Int) (p q:Bool) (t:Int):a0a E P0 (k+1) N.k4l [.s [.i a,.i c,.i d,.r e,.i f,.i g,.i h,.i l,.i m,.r n,.i o,.b p,.b q],.v [.i t]]=d5g k a c d e f g h l m n o p q t:=by kernel_rfl
def b7x (k:Nat) (e:(V2_)→OO):(V2_)→OO:=fun (b,a,c)=>
 bif (decide (a<(c.length:Int))) then
  chk (decide (0≤a)&&decide (a<(c.length:Int))) <|
  chk (decide (0≤a)&&decide (a<((a0z c a.toNat 0 [.i b]).length:Int))) <|
  chk (decide (0≤a)&&decide (a<((a0z (a0z c a.toNat 0 [.i b]) a.toNat 1 [.i (W64 (b+1))]).length:Int))) <|
  chk (decide (0≤a)&&decide (a<((a0z (a0z (a0z c a.toNat 0 [.i b]) a.toNat 1 [.i (W64 (b+1))]) a.toNat 2 [.i (W64 ((W64 (b+1))+1))]).length:Int))) <|
  chk (decide (0≤a)&&decide (a<((a0z (a0z (a0z (a0z c a.toNat 0 [.i b]) a.toNat 1 [.i (W64 (b+1))]) a.toNat 2 [.i (W64 ((W64 (b+1))+1))]) a.toNat 3 [.i (W64 ((W64 ((W64 (b+1))+1))+1))]).length:Int))) <|
  a0c (a0a E P0 k N.j6e [.r ((at_ (a0z (a0z (a0z (a0z c a.toNat 0 [.i b]) a.toNat 1 [.i (W64 (b+1))]) a.toNat 2 [.i (W64 ((W64 (b+1))+1))]) a.toNat 3 [.i (W64 ((W64 ((W64 (b+1))+1))+1))]) a.toNat 4).asR),.v [.i (W64 ((W64 ((W64 ((W64 (b+1))+1))+1))+1))]]) fun d=>
  e ((d.t 0).asI,(W64 (a+1)),(a0z (a0z (a0z (a0z (a0z c a.toNat 0 [.i b]) a.toNat 1 [.i (W64 (b+1))]) a.toNat 2 [.i (W64 ((W64 (b+1))+1))]) a.toNat 3 [.i (W64 ((W64 ((W64 (b+1))+1))+1))]) a.toNat 4 [.r ((d.vt 0 0).asR)]))
 else
  some ⟨[.i b],[[.r c]]⟩
def e7m:List Nat:=[0,1,4,5,47]
def c8k:(V2_)→St:=fun (a,b,c)=>⟨a2y [(0,.ref (0,0)),(1,.i .i64 a),(4,.i .i64 0),(5,.i .i64 b),(47,.skip)],Mem.put (a0y [((0,0),.deep 70 c none)]) a2h .dead⟩
def b0i (k:Nat) (a:(V2_)→OO):(V2_)→OO:=
 b7x k a
def b3p (k:Nat) (a:LL) (b:Int) (c:(V2_)→OO):OO:=
 c (b,0,a)
def d1f (k:Nat) (a:LL) (b:Int):OO:=
 b3p k a b (fun v=>a1l (b0i k) k v)
def e2r (k:Nat) (a:LL) (b:Int) (js:List Nat) (j:Nat) (s:St):OO:=a3g E (LB E (a0a E P0 k) k [0] N.k0p [.sr,.sl,.sr,.bl]) [0] e7m (LK E (a0a E P0 k) k [0] N.k0p [.r a,.v [.i b]] [.sr,.sl,.sr,.bl] js) j s
theorem f3r (k:Nat) (a:LL) (c:Int):a0a E P0 (k+1) N.k0p [.r a,.v [.i c]]=d1f k a c:=
 Eq.trans (b:=b3p k a c (fun v=>e2r k a c [] k (c8k v))) (by kernel_rfl) (congrArg (b3p k a c) (funext fun v=>a0j (c8k) (b0i k) (fun j v=>by kernel_rfl) k v))
def b7y (k:Nat) (f:(V2_)→OO):(V2_)→OO:=fun (b,a,c)=>
 bif (decide (a<(c.length:Int))) then
  chk (decide (0≤a)&&decide (a<(c.length:Int))) <|
  chk (decide (0≤a)&&decide (a<((a0z c a.toNat 0 [.i b]).length:Int))) <|
  chk (decide (0≤a)&&decide (a<((a0z (a0z c a.toNat 0 [.i b]) a.toNat 1 [.i (W64 (b+1))]).length:Int))) <|
  chk (decide (0≤a)&&decide (a<((a0z (a0z (a0z c a.toNat 0 [.i b]) a.toNat 1 [.i (W64 (b+1))]) a.toNat 2 [.i (W64 ((W64 (b+1))+1))]).length:Int))) <|
  chk (decide (0≤a)&&decide (a<((a0z (a0z (a0z (a0z c a.toNat 0 [.i b]) a.toNat 1 [.i (W64 (b+1))]) a.toNat 2 [.i (W64 ((W64 (b+1))+1))]) a.toNat 3 [.i (W64 ((W64 ((W64 (b+1))+1))+1))]).length:Int))) <|
  a0c (a0a E P0 k N.j6e [.r ((at_ (a0z (a0z (a0z (a0z c a.toNat 0 [.i b]) a.toNat 1 [.i (W64 (b+1))]) a.toNat 2 [.i (W64 ((W64 (b+1))+1))]) a.toNat 3 [.i (W64 ((W64 ((W64 (b+1))+1))+1))]) a.toNat 4).asR),.v [.i (W64 ((W64 ((W64 ((W64 (b+1))+1))+1))+1))]]) fun d=>
  chk (decide (0≤a)&&decide (a<((a0z (a0z (a0z (a0z c a.toNat 0 [.i b]) a.toNat 1 [.i (W64 (b+1))]) a.toNat 2 [.i (W64 ((W64 (b+1))+1))]) a.toNat 3 [.i (W64 ((W64 ((W64 (b+1))+1))+1))]).length:Int))) <|
  chk (decide (0≤a)&&decide (a<((a0z (a0z (a0z (a0z (a0z (a0z c a.toNat 0 [.i b]) a.toNat 1 [.i (W64 (b+1))]) a.toNat 2 [.i (W64 ((W64 (b+1))+1))]) a.toNat 3 [.i (W64 ((W64 ((W64 (b+1))+1))+1))]) a.toNat 4 [.r ((d.vt 0 0).asR)]) a.toNat 5 [.i (d.t 0).asI]).length:Int))) <|
  a0c (a0a E P0 k N.j6e [.r ((at_ (a0z (a0z (a0z (a0z (a0z (a0z c a.toNat 0 [.i b]) a.toNat 1 [.i (W64 (b+1))]) a.toNat 2 [.i (W64 ((W64 (b+1))+1))]) a.toNat 3 [.i (W64 ((W64 ((W64 (b+1))+1))+1))]) a.toNat 4 [.r ((d.vt 0 0).asR)]) a.toNat 5 [.i (d.t 0).asI]) a.toNat 6).asR),.v [.i (W64 ((d.t 0).asI+1))]]) fun e=>
  chk (decide (0≤a)&&decide (a<((a0z (a0z (a0z (a0z (a0z (a0z c a.toNat 0 [.i b]) a.toNat 1 [.i (W64 (b+1))]) a.toNat 2 [.i (W64 ((W64 (b+1))+1))]) a.toNat 3 [.i (W64 ((W64 ((W64 (b+1))+1))+1))]) a.toNat 4 [.r ((d.vt 0 0).asR)]) a.toNat 5 [.i (d.t 0).asI]).length:Int))) <|
  f ((W64 ((e.t 0).asI+1)),(W64 (a+1)),(a0z (a0z (a0z (a0z (a0z (a0z (a0z (a0z c a.toNat 0 [.i b]) a.toNat 1 [.i (W64 (b+1))]) a.toNat 2 [.i (W64 ((W64 (b+1))+1))]) a.toNat 3 [.i (W64 ((W64 ((W64 (b+1))+1))+1))]) a.toNat 4 [.r ((d.vt 0 0).asR)]) a.toNat 5 [.i (d.t 0).asI]) a.toNat 6 [.r ((e.vt 0 0).asR)]) a.toNat 7 [.i (e.t 0).asI]))
 else
  some ⟨[.i b],[[.r c]]⟩
def e7n:List Nat:=[0,1,4,5,73]
def c8l:(V2_)→St:=fun (a,b,c)=>⟨a2y [(0,.ref (0,0)),(1,.i .i64 a),(4,.i .i64 0),(5,.i .i64 b),(73,.skip)],Mem.put (a0y [((0,0),.deep 72 c none)]) a2h .dead⟩
def b0j (k:Nat) (a:(V2_)→OO):(V2_)→OO:=
 b7y k a
def b3q (k:Nat) (a:LL) (b:Int) (c:(V2_)→OO):OO:=
 c (b,0,a)
def d1g (k:Nat) (a:LL) (b:Int):OO:=
 b3q k a b (fun v=>a1l (b0j k) k v)
def e2s (k:Nat) (a:LL) (b:Int) (js:List Nat) (j:Nat) (s:St):OO:=a3g E (LB E (a0a E P0 k) k [0] N.k0q [.sr,.sl,.sr,.bl]) [0] e7n (LK E (a0a E P0 k) k [0] N.k0q [.r a,.v [.i b]] [.sr,.sl,.sr,.bl] js) j s
theorem f3s (k:Nat) (a:LL) (c:Int):a0a E P0 (k+1) N.k0q [.r a,.v [.i c]]=d1g k a c:=
 Eq.trans (b:=b3q k a c (fun v=>e2s k a c [] k (c8l v))) (by kernel_rfl) (congrArg (b3q k a c) (funext fun v=>a0j (c8l) (b0j k) (fun j v=>by kernel_rfl) k v))
def b7z (k:Nat) (e:(V2_)→OO):(V2_)→OO:=fun (b,a,c)=>
 bif (decide (a<(c.length:Int))) then
  chk (decide (0≤a)&&decide (a<(c.length:Int))) <|
  chk (decide (0≤a)&&decide (a<((a0z c a.toNat 0 [.i b]).length:Int))) <|
  chk (decide (0≤a)&&decide (a<((a0z (a0z c a.toNat 0 [.i b]) a.toNat 1 [.i (W64 (b+1))]).length:Int))) <|
  a0c (a0a E P0 k N.j6e [.r ((at_ (a0z (a0z c a.toNat 0 [.i b]) a.toNat 1 [.i (W64 (b+1))]) a.toNat 2).asR),.v [.i (W64 ((W64 (b+1))+1))]]) fun d=>
  e ((d.t 0).asI,(W64 (a+1)),(a0z (a0z (a0z c a.toNat 0 [.i b]) a.toNat 1 [.i (W64 (b+1))]) a.toNat 2 [.r ((d.vt 0 0).asR)]))
 else
  some ⟨[.i b],[[.r c]]⟩
def e7o:List Nat:=[0,1,4,5,33]
def c8m:(V2_)→St:=fun (a,b,c)=>⟨a2y [(0,.ref (0,0)),(1,.i .i64 a),(4,.i .i64 0),(5,.i .i64 b),(33,.skip)],Mem.put (a0y [((0,0),.deep 76 c none)]) a2h .dead⟩
def b0k (k:Nat) (a:(V2_)→OO):(V2_)→OO:=
 b7z k a
def b3r (k:Nat) (a:LL) (b:Int) (c:(V2_)→OO):OO:=
 c (b,0,a)
def d1h (k:Nat) (a:LL) (b:Int):OO:=
 b3r k a b (fun v=>a1l (b0k k) k v)
def e2t (k:Nat) (a:LL) (b:Int) (js:List Nat) (j:Nat) (s:St):OO:=a3g E (LB E (a0a E P0 k) k [0] N.k0r [.sr,.sl,.sr,.bl]) [0] e7o (LK E (a0a E P0 k) k [0] N.k0r [.r a,.v [.i b]] [.sr,.sl,.sr,.bl] js) j s
theorem f3t (k:Nat) (a:LL) (c:Int):a0a E P0 (k+1) N.k0r [.r a,.v [.i c]]=d1h k a c:=
 Eq.trans (b:=b3r k a c (fun v=>e2t k a c [] k (c8m v))) (by kernel_rfl) (congrArg (b3r k a c) (funext fun v=>a0j (c8m) (b0k k) (fun j v=>by kernel_rfl) k v))
def b4r (k:Nat) (f:(V2_)→OO):(V2_)→OO:=fun (b,a,c)=>
 bif (decide (a<(c.length:Int))) then
  chk (decide (0≤a)&&decide (a<(c.length:Int))) <|
  chk (decide (0≤a)&&decide (a<((a0z c a.toNat 0 [.i b]).length:Int))) <|
  chk (decide (0≤a)&&decide (a<((a0z (a0z c a.toNat 0 [.i b]) a.toNat 1 [.i (W64 (b+1))]).length:Int))) <|
  chk (decide (0≤a)&&decide (a<((a0z (a0z (a0z c a.toNat 0 [.i b]) a.toNat 1 [.i (W64 (b+1))]) a.toNat 2 [.i (W64 ((W64 (b+1))+1))]).length:Int))) <|
  chk (decide (0≤a)&&decide (a<((a0z (a0z (a0z (a0z c a.toNat 0 [.i b]) a.toNat 1 [.i (W64 (b+1))]) a.toNat 2 [.i (W64 ((W64 (b+1))+1))]) a.toNat 3 [.i (W64 ((W64 ((W64 (b+1))+1))+1))]).length:Int))) <|
  a0c (a0a E P0 k N.j6e [.r ((at_ (a0z (a0z (a0z (a0z c a.toNat 0 [.i b]) a.toNat 1 [.i (W64 (b+1))]) a.toNat 2 [.i (W64 ((W64 (b+1))+1))]) a.toNat 3 [.i (W64 ((W64 ((W64 (b+1))+1))+1))]) a.toNat 4).asR),.v [.i (W64 ((W64 ((W64 ((W64 (b+1))+1))+1))+1))]]) fun d=>
  chk (decide (0≤a)&&decide (a<((a0z (a0z (a0z (a0z c a.toNat 0 [.i b]) a.toNat 1 [.i (W64 (b+1))]) a.toNat 2 [.i (W64 ((W64 (b+1))+1))]) a.toNat 3 [.i (W64 ((W64 ((W64 (b+1))+1))+1))]).length:Int))) <|
  chk (decide (0≤a)&&decide (a<((a0z (a0z (a0z (a0z (a0z (a0z c a.toNat 0 [.i b]) a.toNat 1 [.i (W64 (b+1))]) a.toNat 2 [.i (W64 ((W64 (b+1))+1))]) a.toNat 3 [.i (W64 ((W64 ((W64 (b+1))+1))+1))]) a.toNat 4 [.r ((d.vt 0 0).asR)]) a.toNat 5 [.i (d.t 0).asI]).length:Int))) <|
  chk (decide (0≤a)&&decide (a<((a0z (a0z (a0z (a0z (a0z (a0z (a0z c a.toNat 0 [.i b]) a.toNat 1 [.i (W64 (b+1))]) a.toNat 2 [.i (W64 ((W64 (b+1))+1))]) a.toNat 3 [.i (W64 ((W64 ((W64 (b+1))+1))+1))]) a.toNat 4 [.r ((d.vt 0 0).asR)]) a.toNat 5 [.i (d.t 0).asI]) a.toNat 6 [.i (W64 ((d.t 0).asI+1))]).length:Int))) <|
  a0c (a0a E P0 k N.j6e [.r ((at_ (a0z (a0z (a0z (a0z (a0z (a0z (a0z c a.toNat 0 [.i b]) a.toNat 1 [.i (W64 (b+1))]) a.toNat 2 [.i (W64 ((W64 (b+1))+1))]) a.toNat 3 [.i (W64 ((W64 ((W64 (b+1))+1))+1))]) a.toNat 4 [.r ((d.vt 0 0).asR)]) a.toNat 5 [.i (d.t 0).asI]) a.toNat 6 [.i (W64 ((d.t 0).asI+1))]) a.toNat 7).asR),.v [.i (W64 ((W64 ((d.t 0).asI+1))+1))]]) fun e=>
  f ((e.t 0).asI,(W64 (a+1)),(a0z (a0z (a0z (a0z (a0z (a0z (a0z (a0z c a.toNat 0 [.i b]) a.toNat 1 [.i (W64 (b+1))]) a.toNat 2 [.i (W64 ((W64 (b+1))+1))]) a.toNat 3 [.i (W64 ((W64 ((W64 (b+1))+1))+1))]) a.toNat 4 [.r ((d.vt 0 0).asR)]) a.toNat 5 [.i (d.t 0).asI]) a.toNat 6 [.i (W64 ((d.t 0).asI+1))]) a.toNat 7 [.r ((e.vt 0 0).asR)]))
 else
  some ⟨[.i b],[[.r c]]⟩
def e2u:List Nat:=[0,1,4,5,76]
def c5w:(V2_)→St:=fun (a,b,c)=>⟨a2y [(0,.ref (0,0)),(1,.i .i64 a),(4,.i .i64 0),(5,.i .i64 b),(76,.skip)],Mem.put (a0y [((0,0),.deep 106 c none)]) a2h .dead⟩
def a8o (k:Nat) (a:(V2_)→OO):(V2_)→OO:=
 b4r k a
def b0l (k:Nat) (a:LL) (b:Int) (c:(V2_)→OO):OO:=
 c (b,0,a)
def c8n (k:Nat) (a:LL) (b:Int):OO:=
 b0l k a b (fun v=>a1l (a8o k) k v)
def e0n (k:Nat) (a:LL) (b:Int) (js:List Nat) (j:Nat) (s:St):OO:=a3g E (LB E (a0a E P0 k) k [0] N.k0s [.sr,.sl,.sr,.bl]) [0] e2u (LK E (a0a E P0 k) k [0] N.k0s [.r a,.v [.i b]] [.sr,.sl,.sr,.bl] js) j s
theorem e7p (k:Nat) (a:LL) (c:Int):a0a E P0 (k+1) N.k0s [.r a,.v [.i c]]=c8n k a c:=
 Eq.trans (b:=b0l k a c (fun v=>e0n k a c [] k (c5w v))) (by kernel_rfl) (congrArg (b0l k a c) (funext fun v=>a0j (c5w) (a8o k) (fun j v=>by kernel_rfl) k v))
def d5h (k:Nat) (c d e:Int) (y:LL) (f g h l m:Int) (z:LL) (n:Int) (o p:Bool) (A B C D:LL) (F:Int):OO:=
 a0c (a0a E P0 k N.k4l [.s [.i c,.i d,.i e,.r y,.i f,.i g,.i h,.i l,.i m,.r z,.i n,.b o,.b p],.v [.i F]]) fun a=>
 a0c (a0a E P0 k N.k0p [.r A,.v [.i (a.t 0).asI]]) fun q=>
 a0c (a0a E P0 k N.k0q [.r B,.v [.i (q.t 0).asI]]) fun u=>
 a0c (a0a E P0 k N.k0r [.r C,.v [.i (u.t 0).asI]]) fun w=>
 a0c (a0a E P0 k N.k0s [.r D,.v [.i (w.t 0).asI]]) fun x=>
 some ⟨[.i (x.t 0).asI],[[.i c,.i d,.i e,.r (a.vt 0 3).asR,.i f,.i g,.i h,.i l,.i m,.r (a.vt 0 9).asR,.i n,.b o,.b p,.r (q.vt 0 0).asR,.r (u.vt 0 0).asR,.r (w.vt 0 0).asR,.r (x.vt 0 0).asR]]⟩
theorem f8s (k:Nat) (a c d:Int) (e:LL) (f g h l m:Int) (n:LL) (o:Int) (p q:Bool) (t u w x:LL) (y:Int):a0a E P0 (k+1) N.k2j [.s [.i a,.i c,.i d,.r e,.i f,.i g,.i h,.i l,.i m,.r n,.i o,.b p,.b q,.r t,.r u,.r w,.r x],.v [.i y]]=d5h k a c d e f g h l m n o p q t u w x y:=by kernel_rfl
def b8a (k:Nat) (b:LL) (d:(V1_)→OO):(V1_)→OO:=fun (c,a)=>
 bif (decide (a<(b.length:Int))) then
  chk (decide (0≤a)&&decide (a<(b.length:Int))) <|
  bif ((at_ b a.toNat 0).asI != c) then
   some ⟨[.i (-1)],[]⟩
  else
   d ((W64 (c+1)),(W64 (a+1)))
 else
  some ⟨[.i c],[]⟩
def e7q:List Nat:=[0,1,4,5,20]
def c8o (a:LL):(V1_)→St:=fun (b,c)=>⟨a2y [(0,.sl 3 a),(1,.i .i64 b),(4,.i .i64 0),(5,.i .i64 c),(20,.skip)],a0y []⟩
def b0m (k:Nat) (a:LL) (b:(V1_)→OO):(V1_)→OO:=
 b8a k a b
def b3s (k:Nat) (c:LL) (a:Int) (b:(V1_)→OO):OO:=
 b (a,0)
def d1i (k:Nat) (a:LL) (b:Int):OO:=
 b3s k a b (fun v=>a1l (b0m k a) k v)
def e2v (k:Nat) (a:LL) (b:Int) (js:List Nat) (j:Nat) (s:St):OO:=a3g E (LB E (a0a E P0 k) k [] N.j6f [.sr,.sl,.sr,.bl]) [] e7q (LK E (a0a E P0 k) k [] N.j6f [.v [.r a],.v [.i b]] [.sr,.sl,.sr,.bl] js) j s
theorem f3u (k:Nat) (a:LL) (c:Int):a0a E P0 (k+1) N.j6f [.v [.r a],.v [.i c]]=d1i k a c:=
 Eq.trans (b:=b3s k a c (fun v=>e2v k a c [] k (c8o a v))) (by kernel_rfl) (congrArg (b3s k a c) (funext fun v=>a0j (c8o a) (b0m k a) (fun j v=>by kernel_rfl) k v))
def b4s (k:Nat) (b:LL) (e:(V1_)→OO):(V1_)→OO:=fun (c,a)=>
 bif (decide (a<(b.length:Int))) then
  chk (decide (0≤a)&&decide (a<(b.length:Int))) <|
  a0c (a0a E P0 k N.j6f [.v [.r (at_ b a.toNat 0).asR],.v [.i c]]) fun d=>
  bif (decide ((d.t 0).asI<0)) then some ⟨[.i (-1)],[]⟩ else e ((d.t 0).asI,(W64 (a+1)))
 else
  some ⟨[.i c],[]⟩
def e2w:List Nat:=[0,1,4,5,20]
def c5x (a:LL):(V1_)→St:=fun (b,c)=>⟨a2y [(0,.sl 68 a),(1,.i .i64 b),(4,.i .i64 0),(5,.i .i64 c),(20,.skip)],a0y []⟩
def a8p (k:Nat) (a:LL) (b:(V1_)→OO):(V1_)→OO:=
 b4s k a b
def b0n (k:Nat) (c:LL) (a:Int) (b:(V1_)→OO):OO:=
 b (a,0)
def c8p (k:Nat) (a:LL) (b:Int):OO:=
 b0n k a b (fun v=>a1l (a8p k a) k v)
def e0o (k:Nat) (a:LL) (b:Int) (js:List Nat) (j:Nat) (s:St):OO:=a3g E (LB E (a0a E P0 k) k [] N.k0t [.sr,.sl,.sr,.bl]) [] e2w (LK E (a0a E P0 k) k [] N.k0t [.v [.r a],.v [.i b]] [.sr,.sl,.sr,.bl] js) j s
theorem e7r (k:Nat) (a:LL) (c:Int):a0a E P0 (k+1) N.k0t [.v [.r a],.v [.i c]]=c8p k a c:=
 Eq.trans (b:=b0n k a c (fun v=>e0o k a c [] k (c5x a v))) (by kernel_rfl) (congrArg (b0n k a c) (funext fun v=>a0j (c5x a) (a8p k a) (fun j v=>by kernel_rfl) k v))
def c1x (k:Nat) (b:LL) (e:(V1_)→OO):(V1_)→OO:=fun (c,a)=>
 bif (decide (a<(b.length:Int))) then
  chk (decide (0≤a)&&decide (a<(b.length:Int))) <|
  bif ((at_ b a.toNat 0).asI != c) then
   some ⟨[.i (-1)],[]⟩
  else
   chk (decide (0≤a)&&decide (a<(b.length:Int))) <|
   a0c (a0a E P0 k N.j6f [.v [.r (at_ b a.toNat 1).asR],.v [.i (W64 (c+1))]]) fun d=>
   bif (decide ((d.t 0).asI<0)) then some ⟨[.i (-1)],[]⟩ else e ((d.t 0).asI,(W64 (a+1)))
 else
  some ⟨[.i c],[]⟩
def f3v:List Nat:=[0,1,4,5,30]
def d1j (a:LL):(V1_)→St:=fun (b,c)=>⟨a2y [(0,.sl 176 a),(1,.i .i64 b),(4,.i .i64 0),(5,.i .i64 c),(30,.skip)],a0y []⟩
def b3t (k:Nat) (a:LL) (b:(V1_)→OO):(V1_)→OO:=
 c1x k a b
def b6x (k:Nat) (c:LL) (a:Int) (b:(V1_)→OO):OO:=
 b (a,0)
def d5i (k:Nat) (a:LL) (b:Int):OO:=
 b6x k a b (fun v=>a1l (b3t k a) k v)
def e7s (k:Nat) (a:LL) (b:Int) (js:List Nat) (j:Nat) (s:St):OO:=a3g E (LB E (a0a E P0 k) k [] N.k0u [.sr,.sl,.sr,.bl]) [] f3v (LK E (a0a E P0 k) k [] N.k0u [.v [.r a],.v [.i b]] [.sr,.sl,.sr,.bl] js) j s
theorem f8t (k:Nat) (a:LL) (c:Int):a0a E P0 (k+1) N.k0u [.v [.r a],.v [.i c]]=d5i k a c:=
 Eq.trans (b:=b6x k a c (fun v=>e7s k a c [] k (d1j a v))) (by kernel_rfl) (congrArg (b6x k a c) (funext fun v=>a0j (d1j a) (b3t k a) (fun j v=>by kernel_rfl) k v))
def b8b (k:Nat) (b:LL) (g:(V1_)→OO):(V1_)→OO:=fun (d,a)=>
 bif (decide (a<(b.length:Int))) then
  chk (decide (0≤a)&&decide (a<(b.length:Int))) <|
  a0c (a0a E P0 k N.k0t [.v [.r (at_ b a.toNat 0).asR],.v [.i d]]) fun e=>
  bif (decide ((e.t 0).asI<0)) then
   some ⟨[.i (-1)],[]⟩
  else
   chk (decide (0≤a)&&decide (a<(b.length:Int))) <|
   a0c (a0a E P0 k N.k0u [.v [.r (at_ b a.toNat 1).asR],.v [.i (e.t 0).asI]]) fun c=>
   bif (decide ((c.t 0).asI<0)) then
    some ⟨[.i (-1)],[]⟩
   else
    chk (decide (0≤a)&&decide (a<(b.length:Int))) <|
    bif (!((at_ b a.toNat 2).asB == ((Int.tmod (c.t 0).asI 3) == 0))) then
     some ⟨[.i (-1)],[]⟩
    else
     chk (decide (0≤a)&&decide (a<(b.length:Int))) <|
     a0c (a0a E P0 k N.j6f [.v [.r (at_ b a.toNat 3).asR],.v [.i (W64 ((c.t 0).asI+1))]]) fun f=>
     bif (decide ((f.t 0).asI<0)) then some ⟨[.i (-1)],[]⟩ else g ((f.t 0).asI,(W64 (a+1)))
 else
  some ⟨[.i d],[]⟩
def e7t:List Nat:=[0,1,4,5,50]
def c8q (a:LL):(V1_)→St:=fun (b,c)=>⟨a2y [(0,.sl 147 a),(1,.i .i64 b),(4,.i .i64 0),(5,.i .i64 c),(50,.skip)],a0y []⟩
def b0o (k:Nat) (a:LL) (b:(V1_)→OO):(V1_)→OO:=
 b8b k a b
def b3u (k:Nat) (c:LL) (a:Int) (b:(V1_)→OO):OO:=
 b (a,0)
def d1k (k:Nat) (a:LL) (b:Int):OO:=
 b3u k a b (fun v=>a1l (b0o k a) k v)
def e2x (k:Nat) (a:LL) (b:Int) (js:List Nat) (j:Nat) (s:St):OO:=a3g E (LB E (a0a E P0 k) k [] N.k0v [.sr,.sl,.sr,.bl]) [] e7t (LK E (a0a E P0 k) k [] N.k0v [.v [.r a],.v [.i b]] [.sr,.sl,.sr,.bl] js) j s
theorem f3w (k:Nat) (a:LL) (c:Int):a0a E P0 (k+1) N.k0v [.v [.r a],.v [.i c]]=d1k k a c:=
 Eq.trans (b:=b3u k a c (fun v=>e2x k a c [] k (c8q a v))) (by kernel_rfl) (congrArg (b3u k a c) (funext fun v=>a0j (c8q a) (b0o k a) (fun j v=>by kernel_rfl) k v))
def b8c (k:Nat) (b:LL) (e:(V1_)→OO):(V1_)→OO:=fun (c,a)=>
 bif (decide (a<(b.length:Int))) then
  chk (decide (0≤a)&&decide (a<(b.length:Int))) <|
  bif ((at_ b a.toNat 0).asI != c) then
   some ⟨[.i (-1)],[]⟩
  else
   chk (decide (0≤a)&&decide (a<(b.length:Int))) <|
   a0c (a0a E P0 k N.j6f [.v [.r (at_ b a.toNat 1).asR],.v [.i (W64 (c+1))]]) fun d=>
   bif (decide ((d.t 0).asI<0)) then some ⟨[.i (-1)],[]⟩ else e ((d.t 0).asI,(W64 (a+1)))
 else
  some ⟨[.i c],[]⟩
def e7u:List Nat:=[0,1,4,5,30]
def c8r (a:LL):(V1_)→St:=fun (b,c)=>⟨a2y [(0,.sl 149 a),(1,.i .i64 b),(4,.i .i64 0),(5,.i .i64 c),(30,.skip)],a0y []⟩
def b0p (k:Nat) (a:LL) (b:(V1_)→OO):(V1_)→OO:=
 b8c k a b
def b3v (k:Nat) (c:LL) (a:Int) (b:(V1_)→OO):OO:=
 b (a,0)
def d1l (k:Nat) (a:LL) (b:Int):OO:=
 b3v k a b (fun v=>a1l (b0p k a) k v)
def e2y (k:Nat) (a:LL) (b:Int) (js:List Nat) (j:Nat) (s:St):OO:=a3g E (LB E (a0a E P0 k) k [] N.k0w [.sr,.sl,.sr,.bl]) [] e7u (LK E (a0a E P0 k) k [] N.k0w [.v [.r a],.v [.i b]] [.sr,.sl,.sr,.bl] js) j s
theorem f3x (k:Nat) (a:LL) (c:Int):a0a E P0 (k+1) N.k0w [.v [.r a],.v [.i c]]=d1l k a c:=
 Eq.trans (b:=b3v k a c (fun v=>e2y k a c [] k (c8r a v))) (by kernel_rfl) (congrArg (b3v k a c) (funext fun v=>a0j (c8r a) (b0p k a) (fun j v=>by kernel_rfl) k v))
def d5j (k:Nat) (f g h:Int) (c:LL) (l m n o p:Int) (d:LL) (q:Int) (u w:Bool) (e:Int):OO:=
 a0c (a0a E P0 k N.k0v [.v [.r c],.v [.i e]]) fun a=>
 bif (decide ((a.t 0).asI<0)) then
  some ⟨[.i (-1)],[]⟩
 else
  a0c (a0a E P0 k N.k0w [.v [.r d],.v [.i (a.t 0).asI]]) fun b=>
  bif (decide ((b.t 0).asI<0)) then some ⟨[.i (-1)],[]⟩ else some ⟨[.i (b.t 0).asI],[]⟩
theorem f8u (k:Nat) (a c d:Int) (e:LL) (f g h l m:Int) (n:LL) (o:Int) (p q:Bool) (t:Int):a0a E P0 (k+1) N.k4m [.v [.i a,.i c,.i d,.r e,.i f,.i g,.i h,.i l,.i m,.r n,.i o,.b p,.b q],.v [.i t]]=d5j k a c d e f g h l m n o p q t:=by kernel_rfl
def b8d (k:Nat) (b:LL) (e:(V1_)→OO):(V1_)→OO:=fun (c,a)=>
 bif (decide (a<(b.length:Int))) then
  chk (decide (0≤a)&&decide (a<(b.length:Int))) <|
  bif ((at_ b a.toNat 0).asI != c) then
   some ⟨[.i (-1)],[]⟩
  else
   chk (decide (0≤a)&&decide (a<(b.length:Int))) <|
   bif ((at_ b a.toNat 1).asI != (W64 (c+1))) then
    some ⟨[.i (-1)],[]⟩
   else
    chk (decide (0≤a)&&decide (a<(b.length:Int))) <|
    bif ((at_ b a.toNat 2).asI != (W64 ((W64 (c+1))+1))) then
     some ⟨[.i (-1)],[]⟩
    else
     chk (decide (0≤a)&&decide (a<(b.length:Int))) <|
     bif ((at_ b a.toNat 3).asI != (W64 ((W64 ((W64 (c+1))+1))+1))) then
      some ⟨[.i (-1)],[]⟩
     else
      chk (decide (0≤a)&&decide (a<(b.length:Int))) <|
      a0c (a0a E P0 k N.j6f [.v [.r (at_ b a.toNat 4).asR],.v [.i (W64 ((W64 ((W64 ((W64 (c+1))+1))+1))+1))]]) fun d=>
      bif (decide ((d.t 0).asI<0)) then some ⟨[.i (-1)],[]⟩ else e ((d.t 0).asI,(W64 (a+1)))
 else
  some ⟨[.i c],[]⟩
def e7v:List Nat:=[0,1,4,5,57]
def c8s (a:LL):(V1_)→St:=fun (b,c)=>⟨a2y [(0,.sl 70 a),(1,.i .i64 b),(4,.i .i64 0),(5,.i .i64 c),(57,.skip)],a0y []⟩
def b0q (k:Nat) (a:LL) (b:(V1_)→OO):(V1_)→OO:=
 b8d k a b
def b3w (k:Nat) (c:LL) (a:Int) (b:(V1_)→OO):OO:=
 b (a,0)
def d1m (k:Nat) (a:LL) (b:Int):OO:=
 b3w k a b (fun v=>a1l (b0q k a) k v)
def e2z (k:Nat) (a:LL) (b:Int) (js:List Nat) (j:Nat) (s:St):OO:=a3g E (LB E (a0a E P0 k) k [] N.k0x [.sr,.sl,.sr,.bl]) [] e7v (LK E (a0a E P0 k) k [] N.k0x [.v [.r a],.v [.i b]] [.sr,.sl,.sr,.bl] js) j s
theorem f3y (k:Nat) (a:LL) (c:Int):a0a E P0 (k+1) N.k0x [.v [.r a],.v [.i c]]=d1m k a c:=
 Eq.trans (b:=b3w k a c (fun v=>e2z k a c [] k (c8s a v))) (by kernel_rfl) (congrArg (b3w k a c) (funext fun v=>a0j (c8s a) (b0q k a) (fun j v=>by kernel_rfl) k v))
def b8e (k:Nat) (b:LL) (f:(V1_)→OO):(V1_)→OO:=fun (c,a)=>
 bif (decide (a<(b.length:Int))) then
  chk (decide (0≤a)&&decide (a<(b.length:Int))) <|
  bif ((at_ b a.toNat 0).asI != c) then
   some ⟨[.i (-1)],[]⟩
  else
   chk (decide (0≤a)&&decide (a<(b.length:Int))) <|
   bif ((at_ b a.toNat 1).asI != (W64 (c+1))) then
    some ⟨[.i (-1)],[]⟩
   else
    chk (decide (0≤a)&&decide (a<(b.length:Int))) <|
    bif ((at_ b a.toNat 2).asI != (W64 ((W64 (c+1))+1))) then
     some ⟨[.i (-1)],[]⟩
    else
     chk (decide (0≤a)&&decide (a<(b.length:Int))) <|
     bif ((at_ b a.toNat 3).asI != (W64 ((W64 ((W64 (c+1))+1))+1))) then
      some ⟨[.i (-1)],[]⟩
     else
      chk (decide (0≤a)&&decide (a<(b.length:Int))) <|
      a0c (a0a E P0 k N.j6f [.v [.r (at_ b a.toNat 4).asR],.v [.i (W64 ((W64 ((W64 ((W64 (c+1))+1))+1))+1))]]) fun d=>
      bif (decide ((d.t 0).asI<0)) then
       some ⟨[.i (-1)],[]⟩
      else
       chk (decide (0≤a)&&decide (a<(b.length:Int))) <|
       bif ((at_ b a.toNat 5).asI != (d.t 0).asI) then
        some ⟨[.i (-1)],[]⟩
       else
        chk (decide (0≤a)&&decide (a<(b.length:Int))) <|
        a0c (a0a E P0 k N.j6f [.v [.r (at_ b a.toNat 6).asR],.v [.i (W64 ((d.t 0).asI+1))]]) fun e=>
        bif (decide ((e.t 0).asI<0)) then
         some ⟨[.i (-1)],[]⟩
        else
         chk (decide (0≤a)&&decide (a<(b.length:Int))) <|
         bif ((at_ b a.toNat 7).asI != (e.t 0).asI) then
          some ⟨[.i (-1)],[]⟩
         else
          f ((W64 ((e.t 0).asI+1)),(W64 (a+1)))
 else
  some ⟨[.i c],[]⟩
def e7w:List Nat:=[0,1,4,5,89]
def c8t (a:LL):(V1_)→St:=fun (b,c)=>⟨a2y [(0,.sl 72 a),(1,.i .i64 b),(4,.i .i64 0),(5,.i .i64 c),(89,.skip)],a0y []⟩
def b0r (k:Nat) (a:LL) (b:(V1_)→OO):(V1_)→OO:=
 b8e k a b
def b3x (k:Nat) (c:LL) (a:Int) (b:(V1_)→OO):OO:=
 b (a,0)
def d1n (k:Nat) (a:LL) (b:Int):OO:=
 b3x k a b (fun v=>a1l (b0r k a) k v)
def e3a (k:Nat) (a:LL) (b:Int) (js:List Nat) (j:Nat) (s:St):OO:=a3g E (LB E (a0a E P0 k) k [] N.k0y [.sr,.sl,.sr,.bl]) [] e7w (LK E (a0a E P0 k) k [] N.k0y [.v [.r a],.v [.i b]] [.sr,.sl,.sr,.bl] js) j s
theorem f3z (k:Nat) (a:LL) (c:Int):a0a E P0 (k+1) N.k0y [.v [.r a],.v [.i c]]=d1n k a c:=
 Eq.trans (b:=b3x k a c (fun v=>e3a k a c [] k (c8t a v))) (by kernel_rfl) (congrArg (b3x k a c) (funext fun v=>a0j (c8t a) (b0r k a) (fun j v=>by kernel_rfl) k v))
def b8f (k:Nat) (b:LL) (e:(V1_)→OO):(V1_)→OO:=fun (c,a)=>
 bif (decide (a<(b.length:Int))) then
  chk (decide (0≤a)&&decide (a<(b.length:Int))) <|
  bif ((at_ b a.toNat 0).asI != c) then
   some ⟨[.i (-1)],[]⟩
  else
   chk (decide (0≤a)&&decide (a<(b.length:Int))) <|
   bif ((at_ b a.toNat 1).asI != (W64 (c+1))) then
    some ⟨[.i (-1)],[]⟩
   else
    chk (decide (0≤a)&&decide (a<(b.length:Int))) <|
    a0c (a0a E P0 k N.j6f [.v [.r (at_ b a.toNat 2).asR],.v [.i (W64 ((W64 (c+1))+1))]]) fun d=>
    bif (decide ((d.t 0).asI<0)) then some ⟨[.i (-1)],[]⟩ else e ((d.t 0).asI,(W64 (a+1)))
 else
  some ⟨[.i c],[]⟩
def e7x:List Nat:=[0,1,4,5,39]
def c8u (a:LL):(V1_)→St:=fun (b,c)=>⟨a2y [(0,.sl 76 a),(1,.i .i64 b),(4,.i .i64 0),(5,.i .i64 c),(39,.skip)],a0y []⟩
def b0s (k:Nat) (a:LL) (b:(V1_)→OO):(V1_)→OO:=
 b8f k a b
def b3y (k:Nat) (c:LL) (a:Int) (b:(V1_)→OO):OO:=
 b (a,0)
def d1o (k:Nat) (a:LL) (b:Int):OO:=
 b3y k a b (fun v=>a1l (b0s k a) k v)
def e3b (k:Nat) (a:LL) (b:Int) (js:List Nat) (j:Nat) (s:St):OO:=a3g E (LB E (a0a E P0 k) k [] N.k0z [.sr,.sl,.sr,.bl]) [] e7x (LK E (a0a E P0 k) k [] N.k0z [.v [.r a],.v [.i b]] [.sr,.sl,.sr,.bl] js) j s
theorem f4a (k:Nat) (a:LL) (c:Int):a0a E P0 (k+1) N.k0z [.v [.r a],.v [.i c]]=d1o k a c:=
 Eq.trans (b:=b3y k a c (fun v=>e3b k a c [] k (c8u a v))) (by kernel_rfl) (congrArg (b3y k a c) (funext fun v=>a0j (c8u a) (b0s k a) (fun j v=>by kernel_rfl) k v))
def b4t (k:Nat) (b:LL) (f:(V1_)→OO):(V1_)→OO:=fun (c,a)=>
 bif (decide (a<(b.length:Int))) then
  chk (decide (0≤a)&&decide (a<(b.length:Int))) <|
  bif ((at_ b a.toNat 0).asI != c) then
   some ⟨[.i (-1)],[]⟩
  else
   chk (decide (0≤a)&&decide (a<(b.length:Int))) <|
   bif ((at_ b a.toNat 1).asI != (W64 (c+1))) then
    some ⟨[.i (-1)],[]⟩
   else
    chk (decide (0≤a)&&decide (a<(b.length:Int))) <|
    bif ((at_ b a.toNat 2).asI != (W64 ((W64 (c+1))+1))) then
     some ⟨[.i (-1)],[]⟩
    else
     chk (decide (0≤a)&&decide (a<(b.length:Int))) <|
     bif ((at_ b a.toNat 3).asI != (W64 ((W64 ((W64 (c+1))+1))+1))) then
      some ⟨[.i (-1)],[]⟩
     else
      chk (decide (0≤a)&&decide (a<(b.length:Int))) <|
      a0c (a0a E P0 k N.j6f [.v [.r (at_ b a.toNat 4).asR],.v [.i (W64 ((W64 ((W64 ((W64 (c+1))+1))+1))+1))]]) fun d=>
      bif (decide ((d.t 0).asI<0)) then
       some ⟨[.i (-1)],[]⟩
      else
       chk (decide (0≤a)&&decide (a<(b.length:Int))) <|
       bif ((at_ b a.toNat 5).asI != (d.t 0).asI) then
        some ⟨[.i (-1)],[]⟩
       else
        chk (decide (0≤a)&&decide (a<(b.length:Int))) <|
        bif ((at_ b a.toNat 6).asI != (W64 ((d.t 0).asI+1))) then
         some ⟨[.i (-1)],[]⟩
        else
         chk (decide (0≤a)&&decide (a<(b.length:Int))) <|
         a0c (a0a E P0 k N.j6f [.v [.r (at_ b a.toNat 7).asR],.v [.i (W64 ((W64 ((d.t 0).asI+1))+1))]]) fun e=>
         bif (decide ((e.t 0).asI<0)) then some ⟨[.i (-1)],[]⟩ else f ((e.t 0).asI,(W64 (a+1)))
 else
  some ⟨[.i c],[]⟩
def e3c:List Nat:=[0,1,4,5,92]
def c5y (a:LL):(V1_)→St:=fun (b,c)=>⟨a2y [(0,.sl 106 a),(1,.i .i64 b),(4,.i .i64 0),(5,.i .i64 c),(92,.skip)],a0y []⟩
def a8q (k:Nat) (a:LL) (b:(V1_)→OO):(V1_)→OO:=
 b4t k a b
def b0t (k:Nat) (c:LL) (a:Int) (b:(V1_)→OO):OO:=
 b (a,0)
def c8v (k:Nat) (a:LL) (b:Int):OO:=
 b0t k a b (fun v=>a1l (a8q k a) k v)
def e0p (k:Nat) (a:LL) (b:Int) (js:List Nat) (j:Nat) (s:St):OO:=a3g E (LB E (a0a E P0 k) k [] N.k1a [.sr,.sl,.sr,.bl]) [] e3c (LK E (a0a E P0 k) k [] N.k1a [.v [.r a],.v [.i b]] [.sr,.sl,.sr,.bl] js) j s
theorem e7y (k:Nat) (a:LL) (c:Int):a0a E P0 (k+1) N.k1a [.v [.r a],.v [.i c]]=c8v k a c:=
 Eq.trans (b:=b0t k a c (fun v=>e0p k a c [] k (c5y a v))) (by kernel_rfl) (congrArg (b0t k a c) (funext fun v=>a0j (c5y a) (a8q k a) (fun j v=>by kernel_rfl) k v))
def d5k (k:Nat) (g h l:Int) (m:LL) (n o p q u:Int) (w:LL) (x:Int) (y z:Bool) (A B C D:LL) (F:Int):OO:=
 a0c (a0a E P0 k N.k4m [.v [.i g,.i h,.i l,.r m,.i n,.i o,.i p,.i q,.i u,.r w,.i x,.b y,.b z],.v [.i F]]) fun a=>
 bif (decide ((a.t 0).asI<0)) then
  some ⟨[.i (-1)],[]⟩
 else
  a0c (a0a E P0 k N.k0x [.v [.r A],.v [.i (a.t 0).asI]]) fun c=>
  bif (decide ((c.t 0).asI<0)) then
   some ⟨[.i (-1)],[]⟩
  else
   a0c (a0a E P0 k N.k0y [.v [.r B],.v [.i (c.t 0).asI]]) fun d=>
   bif (decide ((d.t 0).asI<0)) then
    some ⟨[.i (-1)],[]⟩
   else
    a0c (a0a E P0 k N.k0z [.v [.r C],.v [.i (d.t 0).asI]]) fun e=>
    bif (decide ((e.t 0).asI<0)) then
     some ⟨[.i (-1)],[]⟩
    else
     a0c (a0a E P0 k N.k1a [.v [.r D],.v [.i (e.t 0).asI]]) fun f=>
     bif (decide ((f.t 0).asI<0)) then some ⟨[.i (-1)],[]⟩ else some ⟨[.i (f.t 0).asI],[]⟩
theorem f8v (k:Nat) (a c d:Int) (e:LL) (f g h l m:Int) (n:LL) (o:Int) (p q:Bool) (t u w x:LL) (y:Int):a0a E P0 (k+1) N.k2k [.v [.i a,.i c,.i d,.r e,.i f,.i g,.i h,.i l,.i m,.r n,.i o,.b p,.b q,.r t,.r u,.r w,.r x],.v [.i y]]=d5k k a c d e f g h l m n o p q t u w x y:=by kernel_rfl
def b1a (k:Nat) (a c:Outs) (e:Bool):OO:=
 bif e then
  some ⟨[.b false],[]⟩
 else
  a0c (a0a E P0 k N.k2k [.v [.i (a.t 0).asI,.i (a.t 1).asI,.i (a.t 2).asI,.r (c.vt 0 3).asR,.i (a.t 4).asI,.i (a.t 5).asI,.i (a.t 6).asI,.i (a.t 7).asI,.i (a.t 8).asI,.r (c.vt 0 9).asR,.i (a.t 10).asI,.b (a.t 11).asB,.b (a.t 12).asB,.r (c.vt 0 13).asR,.r (c.vt 0 14).asR,.r (c.vt 0 15).asR,.r (c.vt 0 16).asR],.v [.i 1]]) fun d=>
  bif (decide ((d.t 0).asI<0)) then
   some ⟨[.b false],[]⟩
  else
   bif ((d.t 0).asI != (c.t 0).asI) then some ⟨[.b false],[]⟩ else some ⟨[.b true],[]⟩
def a6a (k:Nat) (h l m:Int) (n:LL) (o p q u w:Int) (x:LL) (y:Int) (z A:Bool) (B C D F:LL) (G:Int) (c a:Outs) (H:Bool):OO:=
 bif H then
  some ⟨[.b false],[]⟩
 else
  a0c (a0a E P0 k N.k2j [.s [.i (a.t 0).asI,.i (a.t 1).asI,.i (a.t 2).asI,.r (a.t 3).asR,.i (a.t 4).asI,.i (a.t 5).asI,.i (a.t 6).asI,.i (a.t 7).asI,.i (a.t 8).asI,.r (a.t 9).asR,.i (a.t 10).asI,.b (a.t 11).asB,.b (a.t 12).asB,.r (a.t 13).asR,.r (a.t 14).asR,.r (a.t 15).asR,.r (a.t 16).asR],.v [.i 1]]) fun f=>
  a0c (a0a E P0 k N.k2k [.v [.i (a.t 0).asI,.i (a.t 1).asI,.i (a.t 2).asI,.r (f.vt 0 3).asR,.i (a.t 4).asI,.i (a.t 5).asI,.i (a.t 6).asI,.i (a.t 7).asI,.i (a.t 8).asI,.r (f.vt 0 9).asR,.i (a.t 10).asI,.b (a.t 11).asB,.b (a.t 12).asB,.r (f.vt 0 13).asR,.r (f.vt 0 14).asR,.r (f.vt 0 15).asR,.r (f.vt 0 16).asR],.v [.i 1]]) fun g=>
  bif (decide ((g.t 0).asI<0)) then
   some ⟨[.b false],[]⟩
  else
   bif ((g.t 0).asI != (f.t 0).asI) then
    some ⟨[.b false],[]⟩
   else
    a0c (a0a E P0 k N.j7i [.v [.i h,.i l,.i m,.r n,.i o,.i p,.i q,.i u,.i w,.r x,.i y,.b z,.b A,.r B,.r C,.r D,.r F]]) fun e=>
    a0c (a0a E P0 k N.k2h [.v [.i (e.t 0).asI,.i (e.t 1).asI,.i (e.t 2).asI,.r (e.t 3).asR,.i (e.t 4).asI,.i (e.t 5).asI,.i (e.t 6).asI,.i (e.t 7).asI,.i (e.t 8).asI,.r (e.t 9).asR,.i (e.t 10).asI,.b (e.t 11).asB,.b (e.t 12).asB,.r (e.t 13).asR,.r (e.t 14).asR,.r (e.t 15).asR,.r (e.t 16).asR],.v [.i G]]) fun d=>
    a0c (a0a E P0 k N.j7h [.v [.i (d.t 0).asI,.i (d.t 1).asI,.i (d.t 2).asI,.r (d.t 3).asR,.i (d.t 4).asI,.i (d.t 5).asI,.i (d.t 6).asI,.i (d.t 7).asI,.i (d.t 8).asI,.r (d.t 9).asR,.i (d.t 10).asI,.b (d.t 11).asB,.b (d.t 12).asB,.r (d.t 13).asR,.r (d.t 14).asR,.r (d.t 15).asR,.r (d.t 16).asR],.v [.i (c.t 0).asI,.i (c.t 1).asI,.i (c.t 2).asI,.r (c.t 3).asR,.i (c.t 4).asI,.i (c.t 5).asI,.i (c.t 6).asI,.i (c.t 7).asI,.i (c.t 8).asI,.r (c.t 9).asR,.i (c.t 10).asI,.b (c.t 11).asB,.b (c.t 12).asB,.r (c.t 13).asR,.r (c.t 14).asR,.r (c.t 15).asR,.r (c.t 16).asR]]) fun J=>
    bif (!(J.t 0).asB) then
     b1a k a f true
    else
     b1a k a f (!((d.t 17).asB == (c.t 17).asB))
def b1b (k:Nat) (f g h:Int) (l:LL) (m n o p q:Int) (u:LL) (w:Int) (x y:Bool) (z A B C:LL) (D:Int) (c a d:Outs) (F:Bool):OO:=
 bif F then
  some ⟨[.b false],[]⟩
 else
  a0c (a0a E P0 k N.j7i [.v [.i f,.i g,.i h,.r l,.i m,.i n,.i o,.i p,.i q,.r u,.i w,.b x,.b y,.r z,.r A,.r B,.r C]]) fun e=>
  a0c (a0a E P0 k N.j7h [.v [.i (a.t 0).asI,.i (a.t 1).asI,.i (a.t 2).asI,.r (a.t 3).asR,.i (a.t 4).asI,.i (a.t 5).asI,.i (a.t 6).asI,.i (a.t 7).asI,.i (a.t 8).asI,.r (a.t 9).asR,.i (a.t 10).asI,.b (a.t 11).asB,.b (a.t 12).asB,.r (a.t 13).asR,.r (a.t 14).asR,.r (a.t 15).asR,.r (a.t 16).asR],.v [.i (e.t 0).asI,.i (e.t 1).asI,.i (e.t 2).asI,.r (e.t 3).asR,.i (e.t 4).asI,.i (e.t 5).asI,.i (e.t 6).asI,.i (e.t 7).asI,.i (e.t 8).asI,.r (e.t 9).asR,.i (e.t 10).asI,.b (e.t 11).asB,.b (e.t 12).asB,.r (e.t 13).asR,.r (e.t 14).asR,.r (e.t 15).asR,.r (e.t 16).asR]]) fun G=>
  bif (!(G.t 0).asB) then
   some ⟨[.b false],[]⟩
  else
   a0c (a0a E P0 k N.k2j [.s [.i (a.t 0).asI,.i (a.t 1).asI,.i (a.t 2).asI,.r (a.t 3).asR,.i (a.t 4).asI,.i (a.t 5).asI,.i (a.t 6).asI,.i (a.t 7).asI,.i (a.t 8).asI,.r (a.t 9).asR,.i (a.t 10).asI,.b (a.t 11).asB,.b (a.t 12).asB,.r (a.t 13).asR,.r (a.t 14).asR,.r (a.t 15).asR,.r (a.t 16).asR],.v [.i 1]]) fun H=>
   bif (decide ((H.t 0).asI<0)) then
    a6a k f g h l m n o p q u w x y z A B C D c d true
   else
    a0c (a0a E P0 k N.j7h [.v [.i (d.t 0).asI,.i (d.t 1).asI,.i (d.t 2).asI,.r (d.t 3).asR,.i (d.t 4).asI,.i (d.t 5).asI,.i (d.t 6).asI,.i (d.t 7).asI,.i (d.t 8).asI,.r (d.t 9).asR,.i (d.t 10).asI,.b (d.t 11).asB,.b (d.t 12).asB,.r (d.t 13).asR,.r (d.t 14).asR,.r (d.t 15).asR,.r (d.t 16).asR],.v [.i (c.t 0).asI,.i (c.t 1).asI,.i (c.t 2).asI,.r (c.t 3).asR,.i (c.t 4).asI,.i (c.t 5).asI,.i (c.t 6).asI,.i (c.t 7).asI,.i (c.t 8).asI,.r (c.t 9).asR,.i (c.t 10).asI,.b (c.t 11).asB,.b (c.t 12).asB,.r (c.t 13).asR,.r (c.t 14).asR,.r (c.t 15).asR,.r (c.t 16).asR]]) fun J=>
    bif (!(J.t 0).asB) then
     a6a k f g h l m n o p q u w x y z A B C D c d true
    else
     a6a k f g h l m n o p q u w x y z A B C D c d (!((d.t 17).asB == (c.t 17).asB))
def c3o (k:Nat) (f g h:Int) (l:LL) (m n o p q:Int) (u:LL) (w:Int) (x y:Bool) (z A B C:LL) (D:Int):OO:=
 a0c (a0a E P0 k N.k2r [.v [.i f,.i g,.i h,.r l,.i m,.i n,.i o,.i p,.i q,.r u,.i w,.b x,.b y,.r z,.r A,.r B,.r C],.v [.i 1048576]]) fun F=>
 bif (decide ((F.t 0).asI<0)) then
  some ⟨[.b true],[]⟩
 else
  a0c (a0a E P0 k N.j7i [.v [.i f,.i g,.i h,.r l,.i m,.i n,.i o,.i p,.i q,.r u,.i w,.b x,.b y,.r z,.r A,.r B,.r C]]) fun e=>
  a0c (a0a E P0 k N.k3m [.v [.i (e.t 0).asI,.i (e.t 1).asI,.i (e.t 2).asI,.r (e.t 3).asR,.i (e.t 4).asI,.i (e.t 5).asI,.i (e.t 6).asI,.i (e.t 7).asI,.i (e.t 8).asI,.r (e.t 9).asR,.i (e.t 10).asI,.b (e.t 11).asB,.b (e.t 12).asB,.r (e.t 13).asR,.r (e.t 14).asR,.r (e.t 15).asR,.r (e.t 16).asR],.v [.i D]]) fun a=>
  a0c (a0a E P0 k N.j7i [.v [.i f,.i g,.i h,.r l,.i m,.i n,.i o,.i p,.i q,.r u,.i w,.b x,.b y,.r z,.r A,.r B,.r C]]) fun d=>
  a0c (a0a E P0 k N.k2h [.v [.i (d.t 0).asI,.i (d.t 1).asI,.i (d.t 2).asI,.r (d.t 3).asR,.i (d.t 4).asI,.i (d.t 5).asI,.i (d.t 6).asI,.i (d.t 7).asI,.i (d.t 8).asI,.r (d.t 9).asR,.i (d.t 10).asI,.b (d.t 11).asB,.b (d.t 12).asB,.r (d.t 13).asR,.r (d.t 14).asR,.r (d.t 15).asR,.r (d.t 16).asR],.v [.i D]]) fun c=>
  a0c (a0a E P0 k N.j7h [.v [.i (c.t 0).asI,.i (c.t 1).asI,.i (c.t 2).asI,.r (c.t 3).asR,.i (c.t 4).asI,.i (c.t 5).asI,.i (c.t 6).asI,.i (c.t 7).asI,.i (c.t 8).asI,.r (c.t 9).asR,.i (c.t 10).asI,.b (c.t 11).asB,.b (c.t 12).asB,.r (c.t 13).asR,.r (c.t 14).asR,.r (c.t 15).asR,.r (c.t 16).asR],.v [.i (a.t 0).asI,.i (a.t 1).asI,.i (a.t 2).asI,.r (a.t 3).asR,.i (a.t 4).asI,.i (a.t 5).asI,.i (a.t 6).asI,.i (a.t 7).asI,.i (a.t 8).asI,.r (a.t 9).asR,.i (a.t 10).asI,.b (a.t 11).asB,.b (a.t 12).asB,.r (a.t 13).asR,.r (a.t 14).asR,.r (a.t 15).asR,.r (a.t 16).asR]]) fun G=>
  bif (!(G.t 0).asB) then
   b1b k f g h l m n o p q u w x y z A B C D a d c true
  else
   b1b k f g h l m n o p q u w x y z A B C D a d c (!((c.t 17).asB == (a.t 17).asB))
theorem e0q (k:Nat) (a c d:Int) (e:LL) (f g h l m:Int) (n:LL) (o:Int) (p q:Bool) (t u w x:LL) (y:Int):a0a E P0 (k+1) N.k4n [.v [.i a,.i c,.i d,.r e,.i f,.i g,.i h,.i l,.i m,.r n,.i o,.b p,.b q,.r t,.r u,.r w,.r x],.v [.i y]]=c3o k a c d e f g h l m n o p q t u w x y:=by kernel_rfl
end
end Go.Proofs.YtkamidjllckpgaaGreat.Ev
