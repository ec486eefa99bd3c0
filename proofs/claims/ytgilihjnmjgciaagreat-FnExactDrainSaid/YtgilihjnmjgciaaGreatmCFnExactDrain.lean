/- What FnExactDrain needs, in plain Lean, part 1. No condition. -/
import Derived.Test.YtgilihjnmjgciaaGreatmCqFnExactDrain0
namespace Go.Proofs.YtgilihjnmjgciaaGreat.Ev
open Go
set_option linter.unusedVariables false
set_option linter.unusedSimpArgs false
set_option maxHeartbeats 1000000
noncomputable section
def d2n (x:Eng) (n:Nat):Eng:=
 bif a1j x.A.G (b6l x n) == 0 then { x with Wait:=del x.Wait n,Jobs:=x.Jobs++[⟨b6l x n,0,[],0⟩] }
 else answer { x with Wait:=del x.Wait n } (b6l x n) ⟨(b6l x n).Id,a1j x.A.G (b6l x n),[]⟩
def c3b (x:Eng) (q:Int):Eng×Bool:=bif a7i x q then (d2n x q.toNat,true) else (x,false)
theorem d2o {x:Eng} {q:Int} (h:a7i x q=true):∃ n:Nat,q=(n:Int)∧n<x.Wait.length:=by
 unfold a7i at h;obtain ⟨_,h1⟩:=a0d h;obtain ⟨hw,_⟩:=a0d h1;have:=a0y hw;exact ⟨q.toNat,by omega,by omega⟩
theorem j2a (x:Eng) (n:Nat):({ x with Wait:=del x.Wait n }:Eng).w≤x.w:=by
 have h1:=i0p Cmd.w x.Wait n;show x.A.w+wL Cmd.w (del x.Wait n)+wL Job.w x.Jobs+wL Ans.w x.Done+wL Turn.w x.Log≤x.A.w+wL Cmd.w x.Wait+wL Job.w x.Jobs+wL Ans.w x.Done+wL Turn.w x.Log;omega
theorem i9h (x:Eng) (q:Int) (h:x.w≤2147483648) (hf:inI x.A.Seq∧inI x.A.Tail):Rn 11 N.k3d [.v x.e,.v [.i q]] ⟨(c3b x q).1.e++[.b (c3b x q).2],[]⟩:=by
 refine Rn.of fun k hk=>?_;have hB:Big=4294967296:=rfl;obtain ⟨l1,l2,l3,l4,hA⟩:=a2l x (show x.w≤Big by omega);rw [g6x];unfold e1l;refine a0z (d7a x (by omega) k (by omega)) ?_;refine a0z (f7b x (by omega) hf q k (by omega)) ?_;unfold c3b;cases hc:a7i x q
 ·rfl
 obtain ⟨n,rfl,hn⟩:=d2o hc;have hn':n<(b1h x.Wait).length:=by rw [List.length_map];exact hn
 have hl':(b1h x.Wait).length≤4294967296:=by rw [List.length_map];omega
 have hd:=i9g (l:=b1h x.Wait) hn' hl';have hin:=a8n hn' hl';have hw1:W64 ((n:Int)+1)=(n:Int)+1:=a0e (by omega) (by omega);have hwt:b6l x n=x.Wait[n]:=a1w hn _;rw [Int.toNat_natCast] at hd;refine a0k rfl ?_;simp only [Outs.k6e,Eng.e,Arr.e,Geo.e,List.cons_append,List.nil_append,List.append_assoc,B2_,T.k6f,T.k6g,T.k6i,a0q _ hn,Int.toNat_natCast,hd,hin,a0h,cond_true];refine (a0g (by simp;omega) _).trans ((a0g (by rw [hw1];simp <;> omega) _).trans ?_);refine a0z (d6r x.A.G x.Wait[n] (d6v x hn (by omega)) k (by omega)) ?_;unfold d2n;rw [hwt];cases h0:(a1j x.A.G x.Wait[n] == 0)
 ·refine a0k h0 ?_;rw [← f1e];refine a0z (b6d { x with Wait:=del x.Wait n } x.Wait[n] ⟨x.Wait[n].Id,a1j x.A.G x.Wait[n],[]⟩ (by have:=j2a x n;omega) (d6v x hn (by omega)) (Nat.zero_le _) k (by omega)) ?_;rfl
 ·refine a0n h0 ?_;refine (a0g (by simp;omega) _).trans ?_;rw [← f1e];have hj:a0p (x.Jobs++[⟨x.Wait[n],0,[],0⟩])=a0p x.Jobs++[(⟨x.Wait[n],0,[],0⟩:Job).e]:=by rw [a0p,a0p,List.map_append];rfl
  simp only [Eng.e,cond_true,hj];rfl
theorem i9i (x:Eng) (q:Int) (h:x.w≤2147483648) (hf:inI x.A.Seq∧inI x.A.Tail):Rn 11 N.k1g [.v x.e,.v [.i q]] ⟨(c3b x q).1.e++[.b (c3b x q).2],[]⟩:=by
 refine Rn.of fun k hk=>?_;have hB:Big=4294967296:=rfl;obtain ⟨l1,l2,l3,l4,hA⟩:=a2l x (show x.w≤Big by omega);rw [g5y];unfold e0p;refine a0z (d7b x (by omega) k (by omega)) ?_;refine a0z (f7a x (by omega) hf q k (by omega)) ?_;unfold c3b;cases hc:a7i x q
 ·rfl
 obtain ⟨n,rfl,hn⟩:=d2o hc;refine a0k rfl ?_;have hn':n<(b1h x.Wait).length:=by rw [List.length_map];exact hn
 have hl':(b1h x.Wait).length≤4294967296:=by rw [List.length_map];omega
 have hlen:(b1h x.Wait).length=x.Wait.length:=List.length_map _;have hd:=i0q (l:=b1h x.Wait) hn' hl';have hw1:W64 ((n:Int)+1)=(n:Int)+1:=a0e (by omega) (by omega);have hwt:b6l x n=x.Wait[n]:=a1w hn _;simp only [Outs.k6e,Eng.e,Arr.e,Geo.e,List.cons_append,List.nil_append,List.append_assoc,B2_,T.k6f,T.k6g,T.k6i,a0q _ hn,Int.toNat_natCast,cond_true];refine (a0g (by simp;omega) _).trans ((a0g (by simp;omega) _).trans ((a0g (by simp;omega) _).trans ((a0g (by rw [hw1];simp;omega) _).trans ((a0g (by rw [hw1];simp;omega) _).trans ?_))));simp only [List.nil_append,Int.toNat_natCast,hd,a0q _ hn,← f1e];refine a0z (d6s x.A.G x.Wait[n] (d6v x hn (by omega)) k (by omega)) ?_;unfold d2n;rw [hwt];cases h0:(a1j x.A.G x.Wait[n] == 0)
 ·refine a0n (show (a1j x.A.G x.Wait[n] != 0)=true by unfold bne;rw [h0];rfl) ?_;refine a0z (b3x ⟨x.Wait[n].Id,a1j x.A.G x.Wait[n],[]⟩ (Nat.zero_le _) k (by omega)) ?_;refine (a0g (by simp;omega) _).trans ((a0g (by simp;omega) _).trans ?_);have hj:a9h (x.Done++[⟨x.Wait[n].Id,a1j x.A.G x.Wait[n],[]⟩])=a9h x.Done++[(⟨x.Wait[n].Id,a1j x.A.G x.Wait[n],[]⟩:Ans).e]:=by rw [a9h,a9h,List.map_append];rfl
  have ht:a3b (x.Log++[⟨x.Wait[n],⟨x.Wait[n].Id,a1j x.A.G x.Wait[n],[]⟩⟩])=a3b x.Log++[(⟨x.Wait[n],⟨x.Wait[n].Id,a1j x.A.G x.Wait[n],[]⟩⟩:Turn).e]:=by rw [a3b,a3b,List.map_append];rfl
  simp only [answer,Eng.e,cond_false,hj,ht];rfl
 ·refine a0k (show (a1j x.A.G x.Wait[n] != 0)=false by unfold bne;rw [h0];rfl) ?_;refine (a0g (by simp;omega) _).trans ?_;have hj:a0p (x.Jobs++[⟨x.Wait[n],0,[],0⟩])=a0p x.Jobs++[(⟨x.Wait[n],0,[],0⟩:Job).e]:=by rw [a0p,a0p,List.map_append];rfl
  simp only [Eng.e,cond_true,hj];rfl
def without (n:Int) (l:List Int):List Int:=l.filter fun x=>!(x == n)
theorem f1f (n:Int) (l:List Int):(without n l).length≤l.length:=List.length_filter_le _ _
theorem i4y (l:List Int) (h:l.length≤Big) (n:Int):Rn 3 N.k2r [.v [.r (eIs l)],.c N.j5w (some [.i n])] ⟨[.i (a4n (fun x=>x == n) 0 l)],[[.i n]]⟩:=by
 refine Rn.of fun k hk=>?_;have hB:Big=4294967296:=rfl;rw [c0d];unfold a9a a4r;refine (a4l (R:=Outs) l.length (fun i=>((i:Int),n)) (fun i=>some ⟨[.i (a4n (fun x=>x == n) i (l.drop i))],[[.i n]]⟩) (fun i hi G hG=>?_) (fun G=>?_) (by unfold Big at hk;omega)).trans rfl
 ·unfold a3a;simp only [List.length_map,a0q _ hi,dlt hi,d0,Bool.and_self,a0h,cond_true,Int.toNat_natCast,B2_,T.k6f,T.k6i];obtain ⟨k',rfl⟩:∃ m,k=m+1:=⟨k - 1,by unfold Big at hk;omega⟩;rw [c2t];unfold b4m;rw [a0b,a1l (by omega)];show (bif l[i] == n then some ⟨[.i (i:Int)],[[.i n]]⟩ else G (((i+1:Nat):Int),n))=_;rw [hG,List.drop_eq_getElem_cons hi,a4n];cases l[i] == n <;> rfl
 ·unfold a3a;simp only [List.length_map,dll,cond_false];simp [a4n]
theorem e1z {α:Type} (p:α→Bool):∀ (l:List α) (i:Nat),(a4n p i l = -1∧l.filter (fun x=>!p x)=l)∨∃ (A:List α) (x:α) (B:List α),l=A++x :: B∧a4n p i l=((i+A.length:Nat):Int)∧A.filter (fun x=>!p x)=A∧p x=true
 | [],i=>.inl ⟨rfl,rfl⟩
 | y :: l,i=>by
  unfold a4n;cases hp:p y with
  | true=>exact .inr ⟨[],y,l,rfl,by simp,rfl,hp⟩
  | false=>
   rcases e1z p l (i+1) with ⟨h1,h2⟩ | ⟨A,x,B,h1,h2,h3,h4⟩
   ·exact .inl ⟨h1,by rw [List.filter_cons,hp];simp [h2]⟩
   ·exact .inr ⟨y :: A,x,B,by rw [h1];rfl,by rw [cond_false,h2];simp;omega,by rw [List.filter_cons,hp];simp [h3],h4⟩
theorem g7y {l zs:List (List T)} {i:Nat} (h:i+zs.length=l.length):(a3u l i zs).take i=l.take i∧(a3u l i zs).length=l.length:=by
 unfold a3u;have h1:(l.take i).length=i:=by simp;omega
 refine ⟨by rw [List.take_append_of_le_length (by omega),List.take_take,Nat.min_self],by simp;omega⟩
theorem h3f (k n:Nat) (x:Int) (hk:Big+2≤k):∀ (R:List Int) (F M:List Int) (j:Nat),0<M.length→F.length+M.length+R.length≤Big→R.length<j→
  a1i (a1k k) j ((F.length:Int),((F.length+M.length:Nat):Int),eIs (F++M++R),x)=some ⟨[.r (eIs (F++without x R))],[[.i x]]⟩
 | [],F,M,j,hM,hl,hj=>by
  have hB:Big=4294967296:=rfl;obtain ⟨j,rfl⟩:∃ q,j=q+1:=⟨j - 1,by omega⟩;have hlen:(eIs (F++M++[])).length=F.length+M.length:=by simp
  unfold a1i a1k;simp only [hlen];rw [decide_eq_false (by omega),cond_false];rw [a0g (by simp;omega)];obtain ⟨o1,o2⟩:=g7y (l:=eIs (F++M++[])) (i:=F.length) (zs:=List.replicate (((F.length+M.length:Nat):Int).toNat - (F.length:Int).toNat) [.i 0]) (by rw [hlen,List.length_replicate];omega);simp only [Int.toNat_natCast] at o1 o2 ⊢;rw [a0g (by simp only [Int.toNat_natCast,o2,hlen];simp;omega),a0g (by simp only [Int.toNat_natCast,o2,hlen];simp;omega)];simp only [Int.toNat_zero,Nat.sub_zero,o1];have:(eIs (F++M++[])).take F.length=eIs (F++without x []):=by simp [without]
  rw [this]
 | y :: R,F,M,j,hM,hl,hj=>by
  have hB:Big=4294967296:=rfl;simp only [List.length_cons] at hl hj;obtain ⟨j,rfl⟩:∃ q,j=q+1:=⟨j - 1,by omega⟩;obtain ⟨k',rfl⟩:∃ m,k=m+1:=⟨k - 1,by omega⟩;have hlen:(eIs (F++M++y :: R)).length=F.length+M.length+(R.length+1):=by simp;omega
  have hat:at_ (eIs (F++M++y :: R)) (F.length+M.length) 0=.i y:=by
   have h1:F.length+M.length<(F++M++y :: R).length:=by simp
   rw [a0q _ h1];simp [List.getElem_append_right]
  have ih1:=fun F' M'=>h3f (k'+1) n x hk R F' M' j;rw [a1i];generalize a1i (a1k (k'+1)) j=G at *;unfold a1k;simp only [hlen,Int.toNat_natCast,hat,T.k6f];rw [decide_eq_true (by omega),cond_true,a0g (by simp;omega)];rw [c2t];unfold b4m;rw [a0b];show (bif !(y == x) then chk _ (G (W64 ((F.length:Int)+1),W64 (((F.length+M.length:Nat):Int)+1),a0x (eIs (F++M++y :: R)) F.length 0 [.i y],x)) else G ((F.length:Int),W64 (((F.length+M.length:Nat):Int)+1),eIs (F++M++y :: R),x))=_;rw [show W64 (((F.length+M.length:Nat):Int)+1)=((F.length+M.length+1:Nat):Int) by rw [a0e (by omega) (by omega)];omega];cases hy:(y == x)
  ·rw [Bool.not_false,cond_true,a0g (by simp;omega)];rw [show W64 ((F.length:Int)+1)=((F.length+1:Nat):Int) by rw [a0e (by omega) (by omega)];omega];obtain ⟨m,M',rfl⟩:∃ m M',M=m :: M':=by
    cases M with
    | nil=>simp at hM
    | cons m M'=>exact ⟨m,M',rfl⟩
   have hput:a0x (eIs (F++(m :: M')++y :: R)) F.length 0 [.i y]=eIs ((F++[y])++(M'++[y])++R):=by
    have e1:eIs (F++(m :: M')++y :: R)=eIs F++[.i m] :: eIs (M'++y :: R):=by simp
    rw [e1,show F.length=(eIs F).length by simp,a6j];simp [a1g]
   rw [hput];have:=ih1 (F++[y]) (M'++[y]) (by simp) (by simp at hl ⊢;omega) (by omega);simp only [List.length_append,List.length_cons,List.length_nil] at this ⊢;rw [show F.length+(0+1)+(M'.length+(0+1))=F.length+(M'.length+1)+1 by omega,show F.length+(0+1)=F.length+1 by omega] at this;rw [this];simp [without,hy]
  ·rw [Bool.not_true,cond_false];have:=ih1 F (M++[y]) (by simp) (by simp;omega) (by omega);simp only [List.length_append,List.length_cons,List.length_nil] at this;rw [show F++(M++[y])++R=F++M++y :: R by simp] at this;rw [show F.length+(M.length+(0+1))=F.length+M.length+1 by omega] at this;rw [this];simp [without,hy]
theorem i0r (l:List Int) (h:l.length≤Big) (n:Int):Rn 4 N.k2s [.v [.r (eIs l)],.c N.j5w (some [.i n])] ⟨[.r (eIs (without n l))],[[.i n]]⟩:=by
 refine Rn.of fun k hk=>?_;have hB:Big=4294967296:=rfl;rw [b9h];unfold a8e a4k;refine a0z (i4y l h n k (by omega)) ?_;rcases e1z (fun x=>x == n) l 0 with ⟨h1,h2⟩ | ⟨A,x,B,h1,h2,h3,h4⟩
 ·rw [h1];refine a0n rfl ?_;unfold without;rw [h2];rfl
 ·rw [h2,Nat.zero_add];have hlen:l.length=A.length+(B.length+1):=by rw [h1];simp
  refine a0k (show (((A.length:Nat):Int) == -1)=false by simp) ?_;show a1i (a1k k) k (((A.length:Nat):Int),W64 (((A.length:Nat):Int)+1),eIs l,n)=_;have:=h3f k 0 n (by omega) B A [x] k (by simp) (by simp;omega) (by omega);simp only [List.length_cons,List.length_nil] at this;rw [a0e (by omega) (by omega),h1];rw [show A++[x]++B=A++x :: B by simp,show ((A.length+(0+1):Nat):Int)=(A.length:Int)+1 by omega] at this;rw [this];unfold without;rw [List.filter_append,List.filter_cons,h3,show (!(x == n))=false by simpa using h4];rfl
theorem i0s (l:List Int) (h:l.length≤Big) (n:Int):Rn 2 N.k1q [.v [.r (eIs l)],.v [.i n]] ⟨[.r (eIs (without n l))],[]⟩:=by
 refine Rn.of fun k hk=>?_;have hB:Big=4294967296:=rfl;rw [e2g];unfold c5f b6s;have key:∀ (R A:List Int) (j:Nat),l=A++R→R.length<j→a1i (a4d k (eIs l) n) j ((A.length:Int),eIs (without n A))=some ⟨[.r (eIs (without n l))],[]⟩:=by
  intro R
  induction R with
  | nil=>
   intro A j hA hj;obtain ⟨j,rfl⟩:∃ q,j=q+1:=⟨j - 1,by omega⟩;rw [List.append_nil] at hA;subst hA;unfold a1i a4d;simp only [List.length_map,dll,cond_false]
  | cons y R ih=>
   intro A j hA hj;simp only [List.length_cons] at hj;obtain ⟨j,rfl⟩:∃ q,j=q+1:=⟨j - 1,by omega⟩;have hi:A.length<l.length:=by rw [hA];simp
   have hy:l[A.length]=y:=by simp [hA]
   have hw:=f1f n A;have ih1:=ih (A++[y]) j (by rw [hA];simp) (by omega);rw [a1i];generalize a1i (a4d k (eIs l) n) j=G at *;unfold a4d;simp only [List.length_map,a0q _ hi,dlt hi,d0,Bool.and_self,a0h,cond_true,Int.toNat_natCast,List.getD_cons_zero,T.k6f,hy];rw [a1l (by omega)];simp only [List.length_append,List.length_cons,List.length_nil] at ih1;rw [show A.length+(0+1)=A.length+1 by omega] at ih1;cases hyn:(y == n)
   ·refine a0n (show (y != n)=true by unfold bne;rw [hyn];rfl) ?_;rw [a0g (by simp;omega)];rw [← ih1];simp [without,hyn]
   ·refine a0k (show (y != n)=false by unfold bne;rw [hyn];rfl) ?_;rw [← ih1];simp [without,hyn]
 exact key l [] k rfl (by omega)
def a4p (m:Dsk) (n:Int) (s:List Int):Dsk×Bool:=
 bif c4z m&&(!m.Failed&&(b3u m n&&(c5u s&&decide (m.Cache.length<60)))) then ({ m with Cache:=m.Cache++[⟨n,s⟩],Bad:=without n m.Bad },true) else (m,false)
theorem h5o (m:Dsk) (n:Int) (s:List Int):(a4p m n s).1.w≤m.w+s.length+1:=by
 unfold a4p;cases c4z m&&(!m.Failed&&(b3u m n&&(c5u s&&decide (m.Cache.length<60))))
 ·show m.w≤_;omega
 ·have h1:=f1f n m.Bad;have e1:(⟨n,s⟩:Wr).w=s.length:=rfl;show wL List.length m.Secs+wL Wr.w (m.Cache++[⟨n,s⟩])+(without n m.Bad).length≤wL List.length m.Secs+wL Wr.w m.Cache+m.Bad.length+s.length+1;rw [b6j,a5j,e1w];omega
theorem g3j (m:Dsk) {W:Nat} (h:m.w≤W):m.Secs.length≤W∧m.Cache.length≤W∧m.Bad.length≤W:=by
 have hs:=a1o List.length m.Secs;have hc:=a1o Wr.w m.Cache;have e0:m.w=wL List.length m.Secs+wL Wr.w m.Cache+m.Bad.length:=rfl;omega
theorem h5p (m:Dsk) (n:Int) (s:List Int) (h:m.w≤2147483648) (hs:s.length≤Big):Rn 8 N.j9q [.v m.e,.v [.i n],.v [.r (eIs s)]] ⟨(a4p m n s).1.e++[.b (a4p m n s).2],[]⟩:=by
 refine Rn.of fun k hk=>?_;have hB:Big=4294967296:=rfl;obtain ⟨l1,l2,l3⟩:=g3j m h;rw [e9h];unfold c7t;refine a0z (f0z m (by omega) k (by omega)) ?_;refine a0z (g3a m (by omega) k (by omega)) ?_;unfold a4p;cases hm:c4z m
 ·rfl
 refine a0k rfl ?_;rcases Bool.eq_false_or_eq_true m.Failed with hf | hf
 ·refine a0n hf ?_;rw [hf];rfl
 refine a0k hf ?_;refine a0z (e4q m n (by omega) k (by omega)) ?_;cases hh:b3u m n
 ·rw [hf];rfl
 refine a0k rfl ?_;refine a0z (h0h s hs k (by omega)) ?_;cases ho:c5u s
 ·rw [hf];rfl
 refine a0k rfl ?_;have hc60:m.Cache.length≤60:=by
  unfold c4z at hm;simp only [Bool.and_eq_true,decide_eq_true_eq] at hm;exact hm.2.2.2.2
 unfold a4v;by_cases h60:m.Cache.length<60
 ·refine a0k (show (((List.map Wr.e m.Cache).length:Int) == 60)=false by simp;omega) ?_;refine a0z (a3m s hs k (by omega)) ?_;refine (a0g (by simp;omega) _).trans ?_;refine a0z (i0r m.Bad (by omega) n k (by omega)) ?_;rw [decide_eq_true h60];have e1:d6p (m.Cache++[⟨n,s⟩])=d6p m.Cache++[(⟨n,s⟩:Wr).e]:=by rw [d6p,d6p,List.map_append];rfl
  show some (⟨[.r (c9e m.Secs),.r (d6p m.Cache++[(⟨n,s⟩:Wr).e]),.b m.Failed,.r (eIs (without n m.Bad)),.b true],[]⟩:Outs)=_;rw [hf,← e1];rfl
 ·refine a0n (show (((List.map Wr.e m.Cache).length:Int) == 60)=true by simp;omega) ?_;rw [decide_eq_false h60];rw [hf];rfl
theorem h5q (m:Dsk) (n:Int) (s:List Int) (h:m.w≤2147483648) (hs:s.length≤Big):Rn 8 N.j8w [.v m.e,.v [.i n],.v [.r (eIs s)]] ⟨(a4p m n s).1.e++[.b (a4p m n s).2],[]⟩:=by
 refine Rn.of fun k hk=>?_;have hB:Big=4294967296:=rfl;obtain ⟨l1,l2,l3⟩:=g3j m h;rw [e8b];unfold c6u;refine a0z (f1a m (by omega) k (by omega)) ?_;refine a0z (g3b m (by omega) k (by omega)) ?_;unfold a4p;cases hm:c4z m
 ·rfl
 refine a0k rfl ?_;rcases Bool.eq_false_or_eq_true m.Failed with hf | hf
 ·refine a0n hf ?_;rw [hf];rfl
 refine a0k hf ?_;rw [List.length_map,a0e (n:=(m.Secs.length:Int) - 1) (by omega) (by omega)];refine a0z (a1a _ _ _ k (by omega)) ?_;cases hh:b3u m n
 ·unfold b3u at hh;rw [hh];rw [hf];rfl
 have hh':=hh;unfold b3u at hh';rw [hh'];refine a0k rfl ?_;refine a0z (h0i s hs k (by omega)) ?_;cases ho:c5u s
 ·rw [hf];rfl
 refine a0k rfl ?_;unfold a4s;by_cases h60:m.Cache.length<60
 ·refine a0k (show decide (((List.map Wr.e m.Cache).length:Int)≥60)=false by simp;omega) ?_;refine (a0g (by simp;omega) _).trans ?_;refine (a0g (by simp;omega) _).trans ?_;refine a0z (i0s m.Bad (by omega) n k (by omega)) ?_;rw [decide_eq_true h60];have e1:d6p (m.Cache++[⟨n,s⟩])=d6p m.Cache++[(⟨n,s⟩:Wr).e]:=by rw [d6p,d6p,List.map_append];rfl
  show some (⟨[.r (c9e m.Secs),.r (d6p m.Cache++[(⟨n,s⟩:Wr).e]),.b m.Failed,.r (eIs (without n m.Bad)),.b true],[]⟩:Outs)=_;rw [hf,← e1];rfl
 ·refine a0n (show decide (((List.map Wr.e m.Cache).length:Int)≥60)=true by simp;omega) ?_;rw [decide_eq_false h60];rw [hf];rfl
def f1g (s:List (List Int)) (l:List Wr):List (List Int):=l.foldl (fun s x=>s.set x.N.toNat x.S) s
def a5m (m:Dsk):Dsk:=bif c4z m&&!m.Failed then { m with Secs:=f1g m.Secs m.Cache,Cache:=[] } else m
theorem i0t (l:List (List Int)) (i:Nat) (s:List Int) (h:i<l.length):a0x (c9e l) i 0 [.r (eIs s)]=c9e (l.set i s):=by
 unfold a0x;have e:(c9e l).getD i []=[.r (eIs l[i])]:=by
  rw [List.getD_eq_getElem?_getD,List.getElem?_map,List.getElem?_eq_getElem h];rfl
 rw [e];show (c9e l).set i [.r (eIs s)]=_;rw [c9e,c9e,List.map_set]
theorem h3g (m:Dsk) (hm:c4z m=true) (hw:m.w≤Big) (r:List (List Int)→Option Outs) {b:(Int×List (List T)→Option Outs)→Int×List (List T)→Option Outs}
  (hb:∀ i (hi:i<m.Cache.length) s (G:Int×List (List T)→Option Outs),s.length=m.Secs.length→b G ((i:Int),c9e s)=G (((i+1:Nat):Int),c9e (s.set m.Cache[i].N.toNat m.Cache[i].S)))
  (he:∀ s (G:Int×List (List T)→Option Outs),b G ((m.Cache.length:Int),c9e s)=r s) {j:Nat} (hj:m.Cache.length<j):a1i b j (0,c9e m.Secs)=r (f1g m.Secs m.Cache):=by
 have key:∀ (R A:List Wr) (s:List (List Int)) (j:Nat),m.Cache=A++R→s.length=m.Secs.length→R.length<j→a1i b j ((A.length:Int),c9e s)=r (f1g s R):=by
  intro R
  induction R with
  | nil=>
   intro A s j hA hs hj;obtain ⟨j,rfl⟩:∃ q,j=q+1:=⟨j - 1,by omega⟩;rw [List.append_nil] at hA;rw [← hA];exact he s _
  | cons x R ih=>
   intro A s j hA hs hj;simp only [List.length_cons] at hj;obtain ⟨j,rfl⟩:∃ q,j=q+1:=⟨j - 1,by omega⟩;have hi:A.length<m.Cache.length:=by rw [hA];simp
   have hx:m.Cache[A.length]=x:=by simp [hA]
   have ih1:=ih (A++[x]) (s.set x.N.toNat x.S) j (by rw [hA];simp) (by rw [List.length_set];exact hs) (by omega);simp only [List.length_append,List.length_cons,List.length_nil] at ih1;rw [show A.length+(0+1)=A.length+1 by omega] at ih1;rw [a1i,hb A.length hi s _ hs,hx,ih1];rfl
 exact key m.Cache [] m.Secs j rfl rfl hj
theorem h3h {m:Dsk} (hm:c4z m=true) {i:Nat} (hi:i<m.Cache.length):0≤m.Cache[i].N∧m.Cache[i].N<m.Secs.length:=by
 unfold c4z at hm;simp only [Bool.and_eq_true,List.all_eq_true] at hm;have:=a0y (hm.2.1 _ (List.getElem_mem hi)).1;omega
theorem h5r (m:Dsk) (h:m.w≤Big):Rn 6 N.j8b [.v m.e] ⟨(a5m m).e,[]⟩:=by
 refine Rn.of fun k hk=>?_;have hB:Big=4294967296:=rfl;obtain ⟨l1,l2,l3⟩:=g3j m h;rw [e9e];unfold c7q b3k;refine a0z (f0z m h k (by omega)) ?_;refine a0z (g3a m h k (by omega)) ?_;unfold a5m;cases hm:c4z m
 ·rfl
 refine a0k rfl ?_;rcases Bool.eq_false_or_eq_true m.Failed with hf | hf
 ·refine a0n hf ?_;rw [hf];rfl
 refine a0k hf ?_;show a1i (a6q k (d6p m.Cache) ⟨m.e,[]⟩) k (0,c9e m.Secs)=_;refine (h3g m hm h (fun s=>some ⟨({ m with Secs:=s,Cache:=[] }:Dsk).e,[]⟩) (fun i hi s G hs=>?_) (fun s G=>?_) (by omega)).trans ?_
 ·obtain ⟨c1,c2⟩:=h3h hm hi;have hwi:m.Cache[i].S.length≤Big:=by
   have:=a1v Wr.w hi;have e0:m.w=wL List.length m.Secs+wL Wr.w m.Cache+m.Bad.length:=rfl;have e1:m.Cache[i].w=m.Cache[i].S.length:=rfl;omega
  unfold a6q;simp only [List.length_map,a0q _ hi,dlt hi,d0,Bool.and_self,a0h,cond_true,Int.toNat_natCast,B2_,T.k6f,T.k6i];refine a0z (a3m m.Cache[i].S hwi k (by omega)) ?_;refine (a0g (by simp;omega) _).trans ?_;rw [a1l (by omega)];show G (_,a0x (c9e s) m.Cache[i].N.toNat 0 [.r (eIs m.Cache[i].S)])=_;rw [i0t _ _ _ (by omega)]
 ·unfold a6q;simp only [List.length_map,dll,cond_false];rfl
 ·simp only [hf];rfl
theorem h5s (m:Dsk) (h:m.w≤Big):Rn 6 N.j7p [.v m.e] ⟨(a5m m).e,[]⟩:=by
 refine Rn.of fun k hk=>?_;have hB:Big=4294967296:=rfl;obtain ⟨l1,l2,l3⟩:=g3j m h;rw [e7z];unfold c6s b2q;refine a0z (f1a m h k (by omega)) ?_;refine a0z (g3b m h k (by omega)) ?_;unfold a5m;cases hm:c4z m
 ·rfl
 refine a0k rfl ?_;rcases Bool.eq_false_or_eq_true m.Failed with hf | hf
 ·refine a0n hf ?_;rw [hf];rfl
 refine a0k hf ?_;show a1i (a6m k ⟨m.e,[]⟩) k (0,c9e m.Secs)=_;refine (h3g m hm h (fun s=>some ⟨({ m with Secs:=s,Cache:=[] }:Dsk).e,[]⟩) (fun i hi s G hs=>?_) (fun s G=>?_) (by omega)).trans ?_
 ·obtain ⟨c1,c2⟩:=h3h hm hi;unfold a6m;simp only [Outs.k6e,Dsk.e,List.length_map,a0q _ hi,dlt hi,d0,Bool.and_self,a0h,cond_true,Int.toNat_natCast,B2_,T.k6f,T.k6i];refine (a0g (by simp;omega) _).trans ?_;rw [a1l (by omega),i0t _ _ _ (by omega)]
 ·unfold a6m;simp only [Outs.k6e,Dsk.e,B2_,T.k6i,List.length_map,dll,cond_false];rfl
 ·simp only [hf];rfl
def b9x (s:Super):Bool:=(a0m s.Id 1 60000&&(a0m s.Gen 0 60000&&a0m s.Tail 0 60000))&&(a8j ⟨s.N,s.S⟩&&(a0m s.Role 0 (s.N - 1)&&c8n ⟨s.N,s.S⟩ s.Lost s.Built))
def b3y (s:Super):List Int:=bif b9x s then [21317,s.Id,s.Gen,s.Role,s.N,s.S,s.Tail,s.Lost+1,s.Built] else []
theorem i0u (s:Super):Rn 4 N.k2p [.v s.e] ⟨[.b (b9x s)],[]⟩:=by
 refine Rn.of fun k hk=>?_;have hB:Big=4294967296:=rfl;rw [f4s];unfold d1g b9x;refine a0z (a1q _ _ _ k (by omega)) ?_;cases a0m s.Id 1 60000
 ·rfl
 refine a0n rfl (a0z (a1q _ _ _ k (by omega)) ?_);cases a0m s.Gen 0 60000
 ·rfl
 refine a0n rfl (a0z (a1q _ _ _ k (by omega)) ?_);cases a0m s.Tail 0 60000
 ·rfl
 unfold b3l;refine a0n rfl (a0z (f0k ⟨s.N,s.S⟩ k (by omega)) ?_);cases hg:a8j ⟨s.N,s.S⟩
 ·rfl
 have:=a1n hg;simp only at this;rw [a0e (n:=s.N - 1) (by omega) (by omega)];refine a0n rfl (a0z (a1q _ _ _ k (by omega)) ?_);cases a0m s.Role 0 (s.N - 1)
 ·rfl
 exact a0n rfl (a0z (h2y ⟨s.N,s.S⟩ hg s.Lost s.Built k (by omega)) rfl)
theorem i0v (s:Super):Rn 4 N.k1o [.v s.e] ⟨[.b (b9x s)],[]⟩:=by
 refine Rn.of fun k hk=>?_;have hB:Big=4294967296:=rfl;rw [f3t];unfold d0n b9x;refine a0z (f0l ⟨s.N,s.S⟩ k (by omega)) ?_;cases hg:a8j ⟨s.N,s.S⟩
 ·rw [Bool.false_and,Bool.and_false];rfl
 have:=a1n hg;simp only at this;refine a0k rfl (a0z (a1a _ _ _ k (by omega)) ?_);cases a0m s.Id 1 60000
 ·rfl
 refine a0k rfl (a0z (a1a _ _ _ k (by omega)) ?_);cases a0m s.Gen 0 60000
 ·rfl
 rw [a0e (n:=s.N - 1) (by omega) (by omega)];refine a0k rfl (a0z (a1a _ _ _ k (by omega)) ?_);cases a0m s.Role 0 (s.N - 1)
 ·rw [Bool.false_and,Bool.and_false,Bool.and_false];rfl
 refine a0k rfl (a0z (a1a _ _ _ k (by omega)) ?_);cases a0m s.Tail 0 60000
 ·rfl
 unfold a5q;rw [a0e (n:=s.N - 1) (by omega) (by omega)];refine a0k rfl (a0z (a1a _ _ _ k (by omega)) ?_);unfold c8n;cases hl:a0m s.Lost (-1) (s.N - 1)
 ·rfl
 have hl:=a0y hl;refine a0n rfl (a0z (a1a _ _ _ k (by omega)) ?_);cases a0m s.Built 0 s.S
 ·rfl
 refine a0n rfl ?_;by_cases h0:s.Lost≥0
 ·rw [decide_eq_true h0,show (s.Lost != -1)=true by simp;omega];simp
 ·rw [decide_eq_false h0,show s.Lost = -1 by omega];simp
theorem h5t (s:Super) (hl:inI s.Lost):Rn 5 N.k2q [.v s.e] ⟨[.r (eIs (b3y s))],[]⟩:=by
 refine Rn.of fun k hk=>?_;rw [e9g];unfold c7s;refine a0z (i0u s k (by omega)) ?_;unfold b3y;cases ho:b9x s
 ·rfl
 have h1:a0m s.Lost (-1) (s.N - 1)=true∧a8j ⟨s.N,s.S⟩=true:=by
  unfold b9x c8n at ho;simp only [Bool.and_eq_true] at ho;exact ⟨ho.2.2.2.1,ho.2.1⟩
 have h2:=a0y h1.1;have h3:=a1n h1.2;simp only at h3;refine a0k rfl ?_;rw [a0e (n:=s.Lost+1) (by omega) (by omega)];rfl
theorem h5u (s:Super) (hl:inI s.Lost):Rn 5 N.k1p [.v s.e] ⟨[.r (eIs (b3y s))],[]⟩:=by
 refine Rn.of fun k hk=>?_;rw [e8a];unfold c6t;refine a0z (i0v s k (by omega)) ?_;unfold b3y;cases ho:b9x s
 ·rfl
 have h1:a0m s.Lost (-1) (s.N - 1)=true∧a8j ⟨s.N,s.S⟩=true:=by
  unfold b9x c8n at ho;simp only [Bool.and_eq_true] at ho;exact ⟨ho.2.2.2.1,ho.2.1⟩
 have h2:=a0y h1.1;have h3:=a1n h1.2;simp only at h3;refine a0k rfl ?_;rw [a0e (n:=s.Lost+1) (by omega) (by omega)];rfl
theorem d2p (s:Super):c5u (b3y s)=true∧(b3y s).length≤9:=by
 unfold b3y;cases ho:b9x s
 ·exact ⟨rfl,Nat.zero_le _⟩
 ·unfold b9x c8n at ho;simp only [Bool.and_eq_true] at ho;obtain ⟨⟨a1,a2,a3⟩,a4,a5,a6,a7,a8⟩:=ho;have a1:=a0y a1;have a2:=a0y a2;have a3:=a0y a3;have a4:=a1n a4;have a5:=a0y a5;have a6:=a0y a6;have a7:=a0y a7;simp only at a4 a5 a6 a7;refine ⟨?_,by simp⟩;unfold c5u b1i c2y a0m;simp;omega
def op (a:Arr):Arr:=bif a.Down then a else bif a.Fuse == 0 then { a with Down:=true,Fuse:=-1 } else bif decide (a.Fuse > 0) then { a with Fuse:=a.Fuse - 1 } else a
def dsk (a:Arr) (m:Nat):Dsk:=a.Mems.getD m default
def h6j (a:Arr) (m:Nat) (d:Dsk):Arr:={ a with Mems:=a.Mems.set m d }
def put (a:Arr) (m:Nat) (n:Int) (s:List Int):Arr:=bif (dsk a m).Failed then a else bif (op a).Down then op a else h6j (op a) m (a4p (dsk a m) n s).1
def a3z (a:Arr) (m:Nat):Arr:=bif (dsk a m).Failed then a else bif (op a).Down then op a else h6j (op a) m (a5m (dsk a m))
def run (f:Arr→Nat→Arr):Nat→Nat→Arr→Arr
 | _,0,a=>a
 | i,n+1,a=>run f (i+1) n (f a i)
def b4g (a:Arr):Arr:=run a3z 0 a.Mems.length a
def c2d (a:Arr) (m:Nat):Super:=⟨a.Id,a.Gen,m,a.G.N,a.G.S,a.Tail,a.Lost,a.Built⟩
def a9b (a:Arr) (m:Nat):Arr:=put a m (Int.tmod a.Gen 2) (b3y (c2d a m))
def mark (a:Arr):Arr:=b4g (run a9b 0 a.Mems.length { a with Gen:=a.Gen+1 })
def a5k (a:Arr):Arr:=bif (b4g a).Down then b4g a else mark { b4g a with Tail:=(b4g a).Seq }
structure Keep (a b:Arr):Prop where
 id:b.Id=a.Id
 g:b.G=a.G
 n:b.Mems.length=a.Mems.length
 lost:b.Lost=a.Lost
 built:b.Built=a.Built
 seq:b.Seq=a.Seq
 tail:b.Tail=a.Tail
 gen:b.Gen=a.Gen
 dirty:b.Dirty=a.Dirty
 broken:b.Broken=a.Broken
theorem Keep.refl (a:Arr):Keep a a:=⟨rfl,rfl,rfl,rfl,rfl,rfl,rfl,rfl,rfl,rfl⟩
theorem Keep.trans {a b c:Arr} (h:Keep a b) (k:Keep b c):Keep a c:=
 ⟨k.id.trans h.id,k.g.trans h.g,k.n.trans h.n,k.lost.trans h.lost,k.built.trans h.built,k.seq.trans h.seq,k.tail.trans h.tail,k.gen.trans h.gen,k.dirty.trans h.dirty,k.broken.trans h.broken⟩
def Fz (a:Arr):Prop:=-1≤a.Fuse∧a.Fuse≤1000
theorem h0w {a:Arr} (h:a.Down=true):op a=a:=by unfold op;rw [h];rfl
theorem e4s (a:Arr):op a=a∨op a={ a with Down:=true,Fuse:=-1 }∨(0<a.Fuse∧op a={ a with Fuse:=a.Fuse - 1 }):=by
 unfold op;cases a.Down
 ·cases h0:(a.Fuse == 0)
  ·cases h1:decide (a.Fuse > 0)
   ·exact .inl rfl
   ·exact .inr (.inr ⟨of_decide_eq_true h1,rfl⟩)
  ·exact .inr (.inl rfl)
 ·exact .inl rfl
theorem g3k (a:Arr):Keep a (op a):=by
 rcases e4s a with h | h | ⟨_,h⟩ <;> rw [h] <;> exact ⟨rfl,rfl,rfl,rfl,rfl,rfl,rfl,rfl,rfl,rfl⟩
theorem f1h (a:Arr):(op a).Mems=a.Mems:=by
 rcases e4s a with h | h | ⟨_,h⟩ <;> rw [h]
theorem i4z {a:Arr} (hf:Fz a):Fz (op a):=by
 unfold Fz at *;rcases e4s a with h | h | ⟨h0,h⟩ <;> rw [h]
 ·exact hf
 ·exact ⟨Int.le_refl _,show (-1:Int)≤1000 by omega⟩
 ·exact ⟨show -1≤a.Fuse - 1 by omega,show a.Fuse - 1≤1000 by omega⟩
theorem j5a (a:Arr):(op a).w=a.w:=by
 rcases e4s a with h | h | ⟨_,h⟩ <;> rw [h] <;> rfl
theorem h3i {α:Type} (w:α→Nat):∀ (l:List α) (i:Nat) (x:α) (h:i<l.length),wL w (l.set i x)+w l[i]=wL w l+w x
 | y :: l,0,x,h=>by rw [List.set_cons_zero,a5j,a5j];simp only [List.getElem_cons_zero];omega
 | y :: l,i+1,x,h=>by
  have:=h3i w l i x (by simpa using h);rw [List.set_cons_succ,a5j,a5j];simp only [List.getElem_cons_succ];omega
theorem h3j {a:Arr} {m:Nat} (h:m<a.Mems.length):dsk a m=a.Mems[m]:=a1w h _
theorem g7z (a:Arr) (m:Nat) (d:Dsk):Keep a (h6j a m d):=⟨rfl,rfl,List.length_set,rfl,rfl,rfl,rfl,rfl,rfl,rfl⟩
theorem i6q (a:Arr) (m:Nat) (d:Dsk) {c:Nat} (h:d.w≤(dsk a m).w+c):(h6j a m d).w≤a.w+c:=by
 show wL Dsk.w (a.Mems.set m d)+wL Ent.w a.Dirty≤wL Dsk.w a.Mems+wL Ent.w a.Dirty+c;by_cases hm:m<a.Mems.length
 ·have:=h3i Dsk.w a.Mems m d hm;rw [h3j hm] at h;omega
 ·rw [List.set_eq_of_length_le (by omega)];omega
theorem h3k:∀ (l:List Wr) (s:List (List Int)),wL List.length (f1g s l)≤wL List.length s+wL Wr.w l
 | [],s=>Nat.le_add_right _ _
 | x :: l,s=>by
  have h1:=h3k l (s.set x.N.toNat x.S);have e:f1g s (x :: l)=f1g (s.set x.N.toNat x.S) l:=rfl;rw [e,a5j];have e1:x.w=x.S.length:=rfl;by_cases hi:x.N.toNat<s.length
  ·have:=h3i List.length s _ x.S hi;omega
  ·rw [List.set_eq_of_length_le (by omega)] at h1 ⊢;omega
theorem h5v (m:Dsk):(a5m m).w≤m.w:=by
 unfold a5m;cases c4z m&&!m.Failed
 ·exact Nat.le_refl _
 ·have:=h3k m.Cache m.Secs;show wL List.length (f1g m.Secs m.Cache)+wL Wr.w []+m.Bad.length≤wL List.length m.Secs+wL Wr.w m.Cache+m.Bad.length;rw [e1w];omega
theorem g3l {a:Arr} {m:Nat} {n:Int} {s:List Int} (h:a.Down=true):put a m n s=a:=by
 unfold put;rw [h0w h,h];cases (dsk a m).Failed <;> rfl
theorem e2a {a:Arr} {m:Nat} (h:a.Down=true):a3z a m=a:=by
 unfold a3z;rw [h0w h,h];cases (dsk a m).Failed <;> rfl
theorem e4t (a:Arr) (m:Nat) (n:Int) (s:List Int):Keep a (put a m n s):=by
 unfold put;cases (dsk a m).Failed
 ·cases (op a).Down
  ·exact (g3k a).trans (g7z _ _ _)
  ·exact g3k a
 ·exact Keep.refl a
theorem c8q (a:Arr) (m:Nat):Keep a (a3z a m):=by
 unfold a3z;cases (dsk a m).Failed
 ·cases (op a).Down
  ·exact (g3k a).trans (g7z _ _ _)
  ·exact g3k a
 ·exact Keep.refl a
theorem f1i {a:Arr} {m:Nat} {n:Int} {s:List Int} (h:Fz a):Fz (put a m n s):=by
 unfold put;cases (dsk a m).Failed
 ·cases (op a).Down
  ·exact i4z h
  ·exact i4z h
 ·exact h
theorem d9c {a:Arr} {m:Nat} (h:Fz a):Fz (a3z a m):=by
 unfold a3z;cases (dsk a m).Failed
 ·cases (op a).Down
  ·exact i4z h
  ·exact i4z h
 ·exact h
theorem f7h (a:Arr) (m:Nat):dsk (op a) m=dsk a m:=by unfold dsk;rw [f1h]
theorem i0w (a:Arr) (m:Nat) (n:Int) (s:List Int):(put a m n s).w≤a.w+(s.length+1):=by
 have ho:=j5a a;unfold put;cases (dsk a m).Failed
 ·cases (op a).Down
  ·have:=i6q (op a) m (a4p (dsk a m) n s).1 (c:=s.length+1) (by rw [f7h];exact h5o _ _ _);rw [ho] at this;exact this
  ·show (op a).w≤_;omega
 ·exact Nat.le_add_right _ _
theorem f1j (a:Arr) (m:Nat):(a3z a m).w≤a.w:=by
 have ho:=j5a a;unfold a3z;cases (dsk a m).Failed
 ·cases (op a).Down
  ·have:=i6q (op a) m (a5m (dsk a m)) (c:=0) (by rw [f7h];exact h5v _);rw [ho] at this;exact this
  ·show (op a).w≤_;omega
 ·exact Nat.le_refl _
theorem g3m {f:Arr→Nat→Arr} (hf:∀ a i,a.Down=true→f a i=a):∀ (n i:Nat) {a:Arr},a.Down=true→run f i n a=a
 | 0,_,_,_=>rfl
 | n+1,i,a,h=>by show run f (i+1) n (f a i)=a;rw [hf a i h];exact g3m hf n (i+1) h
theorem d7c {f:Arr→Nat→Arr} (hf:∀ a i,Keep a (f a i)):∀ (n i:Nat) (a:Arr),Keep a (run f i n a)
 | 0,_,a=>Keep.refl a
 | n+1,i,a=>(hf a i).trans (d7c hf n (i+1) (f a i))
theorem h3l {f:Arr→Nat→Arr} (hf:∀ a i,Fz a→Fz (f a i)):∀ (n i:Nat) {a:Arr},Fz a→Fz (run f i n a)
 | 0,_,_,h=>h
 | n+1,i,a,h=>h3l hf n (i+1) (hf a i h)
theorem i0x {f:Arr→Nat→Arr} {c:Nat} (hf:∀ a i,(f a i).w≤a.w+c):∀ (n i:Nat) (a:Arr),(run f i n a).w≤a.w+n*c
 | 0,_,a=>by simp [run]
 | n+1,i,a=>by
  have h1:=i0x hf n (i+1) (f a i);have h2:=hf a i;show (run f (i+1) n (f a i)).w≤_;rw [Nat.succ_mul];omega
theorem b9y (a:Arr):Keep a (b4g a):=d7c c8q _ _ _
theorem d9d {a:Arr} (h:Fz a):Fz (b4g a):=h3l (fun _ _=>d9c) _ _ h
theorem g8a (a:Arr):(b4g a).w≤a.w:=by
 have:=i0x (c:=0) (f:=a3z) (fun a i=>f1j a i) a.Mems.length 0 a;unfold b4g;omega
theorem g8b {a:Arr} (h:a.Down=true):b4g a=a:=g3m (fun _ _=>e2a) _ _ h
theorem d2q (a:Arr) (m:Nat):Keep a (a9b a m):=e4t _ _ _ _
theorem g3n (a:Arr) (m:Nat):(a9b a m).w≤a.w+10:=by
 have h1:=i0w a m (Int.tmod a.Gen 2) (b3y (c2d a m));have h2:=(d2p (c2d a m)).2;unfold a9b;omega
theorem g8c (a:Arr):Keep { a with Gen:=a.Gen+1 } (mark a):=(d7c d2q _ _ _).trans (b9y _)
theorem i9j {a:Arr} (h:Fz a):Fz (mark a):=d9d (h3l (fun _ _=>f1i) _ _ (show Fz { a with Gen:=a.Gen+1 } from h))
theorem j2b (a:Arr):(mark a).w≤a.w+a.Mems.length*10:=by
 have h1:=g8a (run a9b 0 a.Mems.length { a with Gen:=a.Gen+1 });have h2:=i0x (c:=10) g3n a.Mems.length 0 { a with Gen:=a.Gen+1 };have e:({ a with Gen:=a.Gen+1 }:Arr).w=a.w:=rfl;unfold mark;omega
theorem b4q (a:Arr):((b4g a).Down=true∧a5k a=b4g a)∨((b4g a).Down=false∧a5k a=mark { b4g a with Tail:=(b4g a).Seq }):=by
 unfold a5k;cases h:(b4g a).Down
 ·exact .inr ⟨rfl,rfl⟩
 ·exact .inl ⟨rfl,rfl⟩
theorem h3m {a:Arr} (h:Fz a):Fz (a5k a):=by
 rcases b4q a with ⟨_,e⟩ | ⟨_,e⟩ <;> rw [e]
 ·exact d9d h
 ·exact i9j (show Fz { b4g a with Tail:=(b4g a).Seq } from d9d h)
theorem h0x (a:Arr):(a5k a).w≤a.w+a.Mems.length*10:=by
 have h1:=g8a a;have hk:=b9y a;rcases b4q a with ⟨_,e⟩ | ⟨_,e⟩ <;> rw [e]
 ·omega
 ·have h2:=j2b { b4g a with Tail:=(b4g a).Seq };have e1:({ b4g a with Tail:=(b4g a).Seq }:Arr).w=(b4g a).w:=rfl;have e2:({ b4g a with Tail:=(b4g a).Seq }:Arr).Mems.length=a.Mems.length:=hk.n;rw [e1,e2] at h2;omega
structure Keep2 (a b:Arr):Prop where
 id:b.Id=a.Id
 g:b.G=a.G
 n:b.Mems.length=a.Mems.length
 lost:b.Lost=a.Lost
 built:b.Built=a.Built
 seq:b.Seq=a.Seq
 dirty:b.Dirty=a.Dirty
 broken:b.Broken=a.Broken
theorem Keep.k2 {a b:Arr} (h:Keep a b):Keep2 a b:=⟨h.id,h.g,h.n,h.lost,h.built,h.seq,h.dirty,h.broken⟩
theorem Keep2.refl (a:Arr):Keep2 a a:=(Keep.refl a).k2
theorem Keep2.trans {a b c:Arr} (h:Keep2 a b) (k:Keep2 b c):Keep2 a c:=
 ⟨k.id.trans h.id,k.g.trans h.g,k.n.trans h.n,k.lost.trans h.lost,k.built.trans h.built,k.seq.trans h.seq,k.dirty.trans h.dirty,k.broken.trans h.broken⟩
theorem d9e (a:Arr):Keep2 a (a5k a):=by
 have hk:=b9y a;rcases b4q a with ⟨_,e⟩ | ⟨_,e⟩ <;> rw [e]
 ·exact hk.k2
 ·have h2:=g8c { b4g a with Tail:=(b4g a).Seq };exact hk.k2.trans ⟨h2.id,h2.g,h2.n,h2.lost,h2.built,h2.seq,h2.dirty,h2.broken⟩
def f1k (r:Rec):Bool:=a0m r.Seq 0 60000&&(a0m r.Stripe 0 7&&(a0m (r.Data.length:Int) 2 4&&b1i r.Data))
def c8r (r:Rec):List Int:=bif f1k r then [21322,r.Seq,r.Stripe,(r.Data.length:Int)]++r.Data else []
def c5a (q:Int):Int:=bif decide (q<0) then -1 else 2+Int.tmod q 4
def b6n (r:Rec) (a:Arr) (m:Nat):Arr:=put a m (c5a r.Seq) (c8r r)
def b6o (a:Arr) (r:Rec):Arr:=b4g (run (b6n r) 0 a.Mems.length a)
def i6r (l:List Int):Int:=xN (i1x (fun i=>l.getD i 0) l.length)
def b9z (g:Geo) (s:Int) (data:List Int) (m:Nat):Int:=bif (m:Int) == a1d g s then i6r data else data.getD (((m:Int) - a1d g s - 1+g.N) % g.N).toNat 0
def a2s (s:Int) (data:List Int) (a:Arr) (m:Nat):Arr:=bif b9w a m s then put a m (a9w s) [b9z a.G s data m] else a
def a6k (a:Arr) (s:Int) (data:List Int):Arr:=run (a2s s data) 0 a.Mems.length a
def a2c (a:Arr):Arr:=bif decide (a.Seq - a.Tail≥4) then a5k a else a
def a2u (a:Arr) (s:Int) (data:List Int):Arr:=
 bif (a2c a).Down then a2c a else
 bif (b6o (a2c a) ⟨(a2c a).Seq,s,data⟩).Down then b6o (a2c a) ⟨(a2c a).Seq,s,data⟩ else
 a6k { b6o (a2c a) ⟨(a2c a).Seq,s,data⟩ with Seq:=(b6o (a2c a) ⟨(a2c a).Seq,s,data⟩).Seq+1 } s data
theorem c9k (r:Rec):(c8r r).length≤8:=by
 unfold c8r;cases h:f1k r
 ·exact Nat.zero_le _
 ·unfold f1k at h;simp only [Bool.and_eq_true] at h;have:=a0y h.2.2.1;show (21322 :: r.Seq :: r.Stripe :: (r.Data.length:Int) :: r.Data).length≤8;simp only [List.length_cons];omega
theorem b4r (a:Arr) (r:Rec):Keep a (b6o a r):=(d7c (f:=b6n r) (fun a i=>e4t _ _ _ _) _ _ _).trans (b9y _)
theorem d7d {a:Arr} {r:Rec} (h:Fz a):Fz (b6o a r):=d9d (h3l (f:=b6n r) (fun _ _=>f1i) _ _ h)
theorem d7e (a:Arr) (r:Rec):(b6o a r).w≤a.w+a.Mems.length*9:=by
 have h1:=g8a (run (b6n r) 0 a.Mems.length a);have h2:=i0x (c:=9) (f:=b6n r) (fun b m=>by
  have h1:=i0w b m (c5a r.Seq) (c8r r);have h2:=c9k r;unfold b6n;omega) a.Mems.length 0 a
 unfold b6o;omega
theorem c8s (s:Int) (data:List Int) (a:Arr) (m:Nat):Keep a (a2s s data a m):=by
 unfold a2s;cases b9w a m s
 ·exact Keep.refl a
 ·exact e4t _ _ _ _
theorem g8d {s:Int} {data:List Int} (a:Arr) (m:Nat) (h:a.Down=true):a2s s data a m=a:=by
 unfold a2s;cases b9w a m s
 ·rfl
 ·exact g3l h
theorem d7f (a:Arr) (s:Int) (data:List Int):Keep a (a6k a s data):=d7c (c8s s data) _ _ _
theorem h5w (a:Arr) (s:Int) (data:List Int):(a6k a s data).w≤a.w+a.Mems.length*2:=
 i0x (fun b m=>by
  unfold a2s;cases b9w b m s
  ·exact Nat.le_add_right _ _
  ·exact i0w _ _ _ _) _ _ _
theorem e2b (a:Arr):Keep2 a (a2c a):=by
 unfold a2c;cases decide (a.Seq - a.Tail≥4)
 ·exact Keep2.refl a
 ·exact d9e a
theorem i0y (a:Arr):(a2c a).w≤a.w+a.Mems.length*10:=by
 unfold a2c;cases decide (a.Seq - a.Tail≥4)
 ·exact Nat.le_add_right _ _
 ·exact h0x a
theorem f1l (a:Arr) (s:Int) (data:List Int):(a2u a s data).G=a.G∧(a2u a s data).Dirty=a.Dirty∧(a2u a s data).Mems.length=a.Mems.length∧(a2u a s data).w≤a.w+a.Mems.length*21:=by
 have h1:=e2b a;have h2:=b4r (a2c a) ⟨(a2c a).Seq,s,data⟩;have w1:=i0y a;have w2:=d7e (a2c a) ⟨(a2c a).Seq,s,data⟩;rw [h1.n] at w2;unfold a2u;cases (a2c a).Down
 ·generalize b6o (a2c a) ⟨(a2c a).Seq,s,data⟩=c at *;cases c.Down
  ·have h3:=d7f { c with Seq:=c.Seq+1 } s data;have w3:=h5w { c with Seq:=c.Seq+1 } s data;have e1:({ c with Seq:=c.Seq+1 }:Arr).w=c.w:=rfl;have e2:({ c with Seq:=c.Seq+1 }:Arr).Mems.length=a.Mems.length:=h2.n.trans h1.n;rw [e1,e2] at w3;refine ⟨h3.g.trans (h2.g.trans h1.g),h3.dirty.trans (h2.dirty.trans h1.dirty),h3.n.trans e2,?_⟩;show (a6k { c with Seq:=c.Seq+1 } s data).w≤_;omega
  ·exact ⟨h2.g.trans h1.g,h2.dirty.trans h1.dirty,h2.n.trans h1.n,show c.w≤_ by omega⟩
 ·exact ⟨h1.g,h1.dirty,h1.n,show (a2c a).w≤_ by omega⟩
theorem h5x (a:Arr):(a5k a).Tail=a.Tail∨(a5k a).Tail=a.Seq:=by
 have hk:=b9y a;rcases b4q a with ⟨_,e⟩ | ⟨_,e⟩ <;> rw [e]
 ·exact .inl hk.tail
 ·exact .inr ((g8c { b4g a with Tail:=(b4g a).Seq }).tail.trans hk.seq)
theorem g8e (a:Arr):(a2c a).Tail=a.Tail∨(a2c a).Tail=a.Seq:=by
 unfold a2c;cases decide (a.Seq - a.Tail≥4)
 ·exact .inl rfl
 ·exact h5x a
theorem h0y (a:Arr) (s:Int) (data:List Int):((a2u a s data).Seq=a.Seq∨(a2u a s data).Seq=a.Seq+1)∧((a2u a s data).Tail=a.Tail∨(a2u a s data).Tail=a.Seq):=by
 have h1:=e2b a;have h0:=g8e a;have h2:=b4r (a2c a) ⟨(a2c a).Seq,s,data⟩;unfold a2u;cases (a2c a).Down
 ·generalize b6o (a2c a) ⟨(a2c a).Seq,s,data⟩=c at *;cases c.Down
  ·have h3:=d7f { c with Seq:=c.Seq+1 } s data;refine ⟨.inr (h3.seq.trans ?_),?_⟩
   ·show c.Seq+1=_;rw [h2.seq,h1.seq]
   ·have:(a6k { c with Seq:=c.Seq+1 } s data).Tail=(a2c a).Tail:=h3.tail.trans h2.tail;exact h0.imp this.trans this.trans
  ·exact ⟨.inl (h2.seq.trans h1.seq),h0.imp h2.tail.trans h2.tail.trans⟩
 ·exact ⟨.inl h1.seq,h0⟩
def a1r (a:Arr) (s:Int) (data:List Int):Int:=
 bif !(a3p a&&a9v a.G data) then 1 else bif a.Down then 6 else bif !a0s a.G s then 2 else bif a.Broken then 5 else bif (a.Seq == 60000) || decide (a.Gen≥59990) then 7 else 0
def a5b (a:Arr):Int:=bif a.Down then 6 else 0
def a1m (a:Arr) (s:Int) (data:List Int):Arr×Int:=bif a1r a s data == 0 then (a2u a s data,a5b (a2u a s data)) else (a,a1r a s data)
theorem c8t {a:Arr} {s:Int} {data:List Int} (h:(a1r a s data == 0)=true) :
  a3p a=true∧a9v a.G data=true∧a.Down=false∧a0s a.G s=true∧a.Gen<59990∧a.Seq≠60000:=by
 unfold a1r at h;cases h1:a3p a&&a9v a.G data
 ·rw [h1] at h;simp at h
 ·rw [h1] at h;cases h2:a.Down
  ·rw [h2] at h;cases h3:a0s a.G s
   ·rw [h3] at h;simp at h
   ·rw [h3] at h;cases h4:a.Broken
    ·rw [h4] at h;cases h5:(a.Seq == 60000) || decide (a.Gen≥59990)
     ·simp at h5;obtain ⟨k1,k2⟩:=a0d h1;exact ⟨k1,k2,rfl,rfl,by omega,h5.1⟩
     ·rw [h5] at h;simp at h
    ·rw [h4] at h;simp at h
  ·rw [h2] at h;simp at h
def a7k:List Ent→Ent→List Ent
 | [],e=>[e]
 | x :: l,e=>bif decide (x.Stripe<e.Stripe) then x :: a7k l e else bif x.Stripe == e.Stripe then e :: l else e :: x :: l
theorem h3n:∀ (l:List Ent) (e:Ent),wL Ent.w (a7k l e)≤wL Ent.w l+(1+e.w)
 | [],e=>by show wL Ent.w [e]≤_;rw [a5j];omega
 | x :: l,e=>by
  have ih:=h3n l e;unfold a7k;cases decide (x.Stripe<e.Stripe)
  ·cases x.Stripe == e.Stripe
   ·show wL Ent.w (e :: x :: l)≤_;rw [a5j,a5j];omega
   ·show wL Ent.w (e :: l)≤_;rw [a5j,a5j];omega
  ·show wL Ent.w (x :: a7k l e)≤_;rw [a5j,a5j];omega
def e4u (s:Int):List Ent→Nat
 | []=>0
 | x :: l=>bif decide (x.Stripe<s) then e4u s l+1 else 0
theorem i0z (s:Int):∀ l:List Ent,e4u s l≤l.length
 | []=>Nat.le_refl _
 | x :: l=>by
  have:=i0z s l;unfold e4u;cases decide (x.Stripe<s)
  ·exact Nat.zero_le _
  ·show e4u s l+1≤l.length+1;omega
theorem f7i:∀ (l:List Ent) (e:Ent) (h:e4u e.Stripe l<l.length),l[e4u e.Stripe l].Stripe=e.Stripe→a7k l e=l.set (e4u e.Stripe l) e
 | x :: l,e,h,hs=>by
  unfold a7k;have e1:e4u e.Stripe (x :: l)=bif decide (x.Stripe<e.Stripe) then e4u e.Stripe l+1 else 0:=rfl;cases hd:decide (x.Stripe<e.Stripe)
  ·rw [hd] at e1;have hx:x.Stripe=e.Stripe:=by simpa [e1] using hs
   rw [e1,show (x.Stripe == e.Stripe)=true by simpa using hx];rfl
  ·rw [hd] at e1;have ih:=f7i l e (by simpa [e1] using h) (by simpa [e1] using hs);rw [e1,cond_true,cond_true,ih];rfl
theorem f7j:∀ (l:List Ent) (e:Ent),(∀ h:e4u e.Stripe l<l.length,l[e4u e.Stripe l].Stripe≠e.Stripe)→a7k l e=l.take (e4u e.Stripe l)++e :: l.drop (e4u e.Stripe l)
 | [],e,_=>rfl
 | x :: l,e,hs=>by
  unfold a7k;have e1:e4u e.Stripe (x :: l)=bif decide (x.Stripe<e.Stripe) then e4u e.Stripe l+1 else 0:=rfl;cases hd:decide (x.Stripe<e.Stripe)
  ·rw [hd] at e1;have hx:x.Stripe≠e.Stripe:=by simpa [e1] using hs (by rw [e1];simp)
   rw [e1,show (x.Stripe == e.Stripe)=false by simpa using hx];rfl
  ·rw [hd] at e1;have ih:=f7j l e (fun h=>by simpa [e1] using hs (by rw [e1];simpa using h));rw [e1,cond_true,cond_true,ih];rfl
def g8o (e:Ent) (p:List Ent×Bool) (x:Ent):List Ent×Bool:=
 let q:List Ent×Bool:=bif !p.2&&decide (x.Stripe≥e.Stripe) then (p.1++[e],true) else p
 (bif x.Stripe != e.Stripe then q.1++[x] else q.1,q.2)
def j2c (e:Ent) (p:List Ent×Bool):List Ent:=bif !p.2 then p.1++[e] else p.1
def i6s:List Ent→Prop
 | []=>True
 | [_]=>True
 | x :: y :: l=>x.Stripe<y.Stripe∧i6s (y :: l)
theorem i1a:∀ {l:List Ent} {x:Ent},i6s (x :: l)→∀ y,y∈l→x.Stripe<y.Stripe
 | [],_,_,_,hy=>by cases hy
 | z :: l,x,h,y,hy=>by
  rcases List.mem_cons.1 hy with rfl | hy
  ·exact h.1
  ·exact Int.lt_trans h.1 (i1a h.2 y hy)
theorem i1b {l:List Ent} {x:Ent} (h:i6s (x :: l)):i6s l:=by
 cases l with
 | nil=>trivial
 | cons y l=>exact h.2
theorem f1m (e:Ent):∀ (l:List Ent) (o:List Ent),(∀ y,y∈l→e.Stripe<y.Stripe)→l.foldl (g8o e) (o,true)=(o++l,true)
 | [],o,_=>by simp
 | x :: l,o,h=>by
  have hx:=h x List.mem_cons_self;have e1:g8o e (o,true) x=(o++[x],true):=by
   unfold g8o;rw [show (x.Stripe != e.Stripe)=true by simp;omega];rfl
  rw [List.foldl_cons,e1,f1m e l _ (fun y hy=>h y (List.mem_cons_of_mem _ hy))];simp
theorem i1c (e:Ent):∀ (l:List Ent) (o:List Ent),i6s l→j2c e (l.foldl (g8o e) (o,false))=o++a7k l e
 | [],o,_=>rfl
 | x :: l,o,h=>by
  rw [List.foldl_cons];unfold a7k;have hgt:=i1a h;cases hd:decide (x.Stripe<e.Stripe)
  ·have hge:=of_decide_eq_false hd;cases hx:(x.Stripe == e.Stripe)
   ·have hne:x.Stripe≠e.Stripe:=by simpa using hx
    have e1:g8o e (o,false) x=(o++[e]++[x],true):=by
     unfold g8o;rw [show decide (x.Stripe≥e.Stripe)=true from decide_eq_true (by omega),show (x.Stripe != e.Stripe)=true by unfold bne;rw [hx];rfl];rfl
    rw [e1,f1m e l _ (fun y hy=>by have:=hgt y hy;omega)];show o++[e]++[x]++l=o++e :: x :: l;simp
   ·have heq:x.Stripe=e.Stripe:=by simpa using hx
    have e1:g8o e (o,false) x=(o++[e],true):=by
     unfold g8o;rw [show decide (x.Stripe≥e.Stripe)=true from decide_eq_true (by omega),show (x.Stripe != e.Stripe)=false by unfold bne;rw [hx];rfl];rfl
    rw [e1,f1m e l _ (fun y hy=>by have:=hgt y hy;omega)];show o++[e]++l=o++e :: l;simp
  ·have hlt:=of_decide_eq_true hd;have e1:g8o e (o,false) x=(o++[x],false):=by
    unfold g8o;rw [show decide (x.Stripe≥e.Stripe)=false from decide_eq_false (by omega),show (x.Stripe != e.Stripe)=true by simp;omega];rfl
   rw [e1,i1c e l _ (i1b h)];show o++[x]++a7k l e=o++x :: a7k l e;simp
theorem i1d:∀ {l:List Ent},(∀ i,i+1<l.length→(l.getD i default).Stripe<(l.getD (i+1) default).Stripe)→i6s l
 | [],_=>trivial
 | [_],_=>trivial
 | x :: y :: l,h=>⟨by simpa using h 0 (by simp),i1d fun i hi=>by simpa using h (i+1) (by simpa using hi)⟩
def b1k (a:Arr) (b n:Int):Int:=bif (a2f a b == 0)&&!c2y n then 3 else a2f a b
def c8u (a:Arr) (b n:Int):Ent:=⟨a0o a.G b,(a2y a (a0o a.G b)).1.set (a9i a.G b).toNat n⟩
def a0u (a:Arr) (b n:Int):Arr×Int:=
 bif b1k a b n != 0 then (a,b1k a b n) else bif !(a2y a (a0o a.G b)).2 then (a,5) else ({ a with Dirty:=a7k a.Dirty (c8u a b n) },0)
def a3t (a:Arr) (s:Int):Int:=bif !a3p a then 1 else bif a.Down then 6 else bif !a0s a.G s then 2 else 0
def b3z (a:Arr) (n:Nat) (p:Arr×Int):Arr×Int:=bif p.2 == 0 then ({ p.1 with Dirty:=del p.1.Dirty n },0) else p
def a0t (a:Arr) (s:Int):Arr×Int:=
 bif a3t a s != 0 then (a,a3t a s) else bif decide (a4c a s<0) then (a,0) else
 b3z a (a4c a s).toNat (a1m a s (a.Dirty.getD (a4c a s).toNat default).Data)
theorem d2r {a:Arr} {b:Int} (h:(a2f a b != 0)=false):a3p a=true∧a.Down=false∧a2t a.G b=true:=by
 have h1:=d2m h;refine ⟨h1.1,?_,h1.2⟩;cases hd:a.Down
 ·rfl
 ·unfold a2f at h;rw [h1.1,hd] at h;simp at h
theorem f1n {a:Arr} {b n:Int} (h:(b1k a b n != 0)=false):(a2f a b != 0)=false∧c2y n=true:=by
 unfold b1k at h;cases h1:(a2f a b == 0)&&!c2y n
 ·rw [h1] at h;refine ⟨h,?_⟩;have h2:(a2f a b == 0)=true:=by simpa using h
  rw [h2] at h1;simpa using h1
 ·rw [h1] at h;simp at h
theorem b1o (a:Arr) (b n:Int):(a0u a b n).1.w≤a.w+5:=by
 unfold a0u;cases hc:b1k a b n != 0
 ·cases hd:(a2y a (a0o a.G b)).2
  ·exact Nat.le_add_right _ _
  ·have h1:=d2r (f1n hc).1;have h2:=f0t h1.1 hd;obtain ⟨g1,g2,g3,g4⟩:=a1n (c5v h1.1).1;have h3:=h3n a.Dirty (c8u a b n);have e1:(c8u a b n).w=(a2y a (a0o a.G b)).1.length:=List.length_set;show wL Dsk.w a.Mems+wL Ent.w (a7k a.Dirty (c8u a b n))≤wL Dsk.w a.Mems+wL Ent.w a.Dirty+5;omega
 ·exact Nat.le_add_right _ _
theorem d7g (a:Arr) (s:Int) (data:List Int):(a1m a s data).1.w≤a.w+105∧(a1m a s data).1.Dirty=a.Dirty:=by
 unfold a1m;cases hc:a1r a s data == 0
 ·exact ⟨Nat.le_add_right _ _,rfl⟩
 ·have h1:=c8t hc;obtain ⟨g1,g2,g3,g4⟩:=a1n (c5v h1.1).1;have g5:=(c5v h1.1).2.1;obtain ⟨_,k2,_,k4⟩:=f1l a s data;refine ⟨?_,k2⟩;show (a2u a s data).w≤_;omega
theorem b4a (a:Arr) (s:Int):(a0t a s).1.w≤a.w+105:=by
 unfold a0t;cases a3t a s != 0
 ·cases decide (a4c a s<0)
  ·obtain ⟨h1,h2⟩:=d7g a s (a.Dirty.getD (a4c a s).toNat default).Data;show (b3z a _ _).1.w≤_;unfold b3z;generalize a1m a s (a.Dirty.getD (a4c a s).toNat default).Data=p at *;cases p.2 == 0
   ·exact h1
   ·have h3:=i0p Ent.w p.1.Dirty (a4c a s).toNat;show wL Dsk.w p.1.Mems+wL Ent.w (del p.1.Dirty _)≤_;have e:p.1.w=wL Dsk.w p.1.Mems+wL Ent.w p.1.Dirty:=rfl;omega
  ·exact Nat.le_add_right _ _
 ·exact Nat.le_add_right _ _
def a5c (a:Arr) (j:Job):Arr×List Int×Int:=
 bif j.C.Op == 1 then (a,bif (a1u a (j.C.Lba+j.At)).2 == 0 then j.Got++[(a1u a (j.C.Lba+j.At)).1] else j.Got,(a1u a (j.C.Lba+j.At)).2)
 else bif j.C.Op == 4 then ((a0t a j.At).1,j.Got,(a0t a j.At).2)
 else bif j.C.Op == 5 then
  (bif (a1u a (j.C.Lba+j.At)).2 != 0 then (a,j.Got,(a1u a (j.C.Lba+j.At)).2)
  else bif (a1u a (j.C.Lba+j.At)).1 != j.C.Vals.getD 0 0 then (a,j.Got,4)
  else ((a0u a (j.C.Lba+j.At) (j.C.Vals.getD 1 0)).1,j.Got,(a0u a (j.C.Lba+j.At) (j.C.Vals.getD 1 0)).2))
 else bif j.C.Op == 6 then ((a0u a (j.C.Lba+j.At) 0).1,j.Got,(a0u a (j.C.Lba+j.At) 0).2)
 else bif decide (j.At<j.C.Vals.length) then ((a0u a (j.C.Lba+j.At) (j.C.Vals.getD j.At.toNat 0)).1,j.Got,(a0u a (j.C.Lba+j.At) (j.C.Vals.getD j.At.toNat 0)).2)
 else ((a0t a (a0o a.G j.C.Lba+j.At - j.C.Vals.length)).1,j.Got,(a0t a (a0o a.G j.C.Lba+j.At - j.C.Vals.length)).2)
def b7c (j:Job) (p:Arr×List Int×Int):Job:=⟨j.C,j.At+1,p.2.1,p.2.2⟩
def a7l (x:Eng) (n:Nat) (j:Job):Eng:=answer { x with Jobs:=del x.Jobs n } j.C ⟨j.C.Id,j.Code,bif (j.C.Op == 1)&&(j.Code == 0) then j.Got else []⟩
def b6p (x:Eng) (n:Nat) (j:Job) (p:Arr×List Int×Int):Eng:=
 bif p.2.2 == 0 then { x with A:=p.1,Jobs:=x.Jobs.set n (b7c j p) } else a7l { x with A:=p.1,Jobs:=x.Jobs.set n (b7c j p) } n (b7c j p)
def c3c (x:Eng) (n:Nat):Job:=x.Jobs.getD n default
def b4b (x:Eng) (n:Nat):Eng:=
 bif decide ((c3c x n).At<a2x x.A.G (c3c x n).C - 1)&&((c3c x n).Code == 0) then b6p x n (c3c x n) (a5c x.A (c3c x n)) else a7l x n (c3c x n)
def c3e (x:Eng) (q:Int):Eng×Bool:=bif b4p x&&(a0m q 0 ((x.Jobs.length:Int) - 1)&&decide (x.Log.length<400)) then (b4b x q.toNat,true) else (x,false)
theorem i9k (a:Arr) (j:Job):(a5c a j).1.w≤a.w+105∧(a5c a j).2.1.length≤j.Got.length+1:=by
 have hs:=fun b n=>b1o a b n;have hf:=fun s=>b4a a s;unfold a5c;cases j.C.Op == 1
 ·cases j.C.Op == 4
  ·cases j.C.Op == 5
   ·cases j.C.Op == 6
    ·cases decide (j.At<j.C.Vals.length)
     ·exact ⟨hf _,Nat.le_add_right _ _⟩
     ·exact ⟨Nat.le_trans (hs _ _) (by omega),Nat.le_add_right _ _⟩
    ·exact ⟨Nat.le_trans (hs _ _) (by omega),Nat.le_add_right _ _⟩
   ·cases (a1u a (j.C.Lba+j.At)).2 != 0
    ·cases (a1u a (j.C.Lba+j.At)).1 != j.C.Vals.getD 0 0
     ·exact ⟨Nat.le_trans (hs _ _) (by omega),Nat.le_add_right _ _⟩
     ·exact ⟨Nat.le_add_right _ _,Nat.le_add_right _ _⟩
    ·exact ⟨Nat.le_add_right _ _,Nat.le_add_right _ _⟩
  ·exact ⟨hf _,Nat.le_add_right _ _⟩
 ·refine ⟨Nat.le_add_right _ _,?_⟩;show (bif (a1u a (j.C.Lba+j.At)).2 == 0 then j.Got++[(a1u a (j.C.Lba+j.At)).1] else j.Got).length≤_;cases (a1u a (j.C.Lba+j.At)).2 == 0
  ·exact Nat.le_add_right _ _
  ·simp
theorem g8f {α:Type} (f:α→Nat) (l:List α) {n:Nat} (h:n<l.length):wL f (del l n)+(1+f l[n])=wL f l:=by
 have h1:l=l.take n++l[n] :: l.drop (n+1):=by rw [← List.drop_eq_getElem_cons h,List.take_append_drop]
 have h2:wL f l=wL f (l.take n)+wL f (l[n] :: l.drop (n+1)):=(congrArg (wL f) h1).trans (b6j f _ _);rw [h2];unfold del;rw [b6j,a5j];omega
theorem h3o (x:Eng) {n:Nat} (hn:n<x.Jobs.length) (j:Job) (hj:x.Jobs[n]=j):(a7l x n j).w≤x.w+j.Got.length+1:=by
 have h1:=g8f Job.w x.Jobs hn;have hv:(bif (j.C.Op == 1)&&(j.Code == 0) then j.Got else []).length≤j.Got.length:=by
  cases (j.C.Op == 1)&&(j.Code == 0)
  ·exact Nat.zero_le _
  ·exact Nat.le_refl _
 rw [hj] at h1;have e1:j.w=j.C.w+j.Got.length:=rfl;show x.A.w+wL Cmd.w x.Wait+wL Job.w (del x.Jobs n)+wL Ans.w (x.Done++[_])+wL Turn.w (x.Log++[_])≤x.A.w+wL Cmd.w x.Wait+wL Job.w x.Jobs+wL Ans.w x.Done+wL Turn.w x.Log+j.Got.length+1;rw [b6j,b6j,a5j,a5j,e1w,e1w];have a1:(⟨j.C.Id,j.Code,bif (j.C.Op == 1)&&(j.Code == 0) then j.Got else []⟩:Ans).w=(bif (j.C.Op == 1)&&(j.Code == 0) then j.Got else []).length:=rfl;have a2:∀ a:Ans,(⟨j.C,a⟩:Turn).w=j.C.w+a.w:=fun _=>rfl;rw [a2,a1];omega
theorem i5a (x:Eng) {n:Nat} (hn:n<x.Jobs.length) (hg:x.Jobs[n].Got.length≤6):(b4b x n).w≤x.w+120:=by
 have hj:c3c x n=x.Jobs[n]:=a1w hn _;have e0:x.w=x.A.w+wL Cmd.w x.Wait+wL Job.w x.Jobs+wL Ans.w x.Done+wL Turn.w x.Log:=rfl;have e1:x.Jobs[n].w=x.Jobs[n].C.w+x.Jobs[n].Got.length:=rfl;unfold b4b;rw [hj];cases decide (x.Jobs[n].At<a2x x.A.G x.Jobs[n].C - 1)&&(x.Jobs[n].Code == 0)
 ·have:=h3o x hn x.Jobs[n] rfl;show (a7l x n x.Jobs[n]).w≤_;omega
 ·obtain ⟨w1,w2⟩:=i9k x.A x.Jobs[n];generalize a5c x.A x.Jobs[n]=p at *;have e2:(b7c x.Jobs[n] p).w=x.Jobs[n].C.w+p.2.1.length:=rfl;have hset:=h3i Job.w x.Jobs n (b7c x.Jobs[n] p) hn;have hy:({ x with A:=p.1,Jobs:=x.Jobs.set n (b7c x.Jobs[n] p) }:Eng).w≤x.w+106:=by
   show p.1.w+wL Cmd.w x.Wait+wL Job.w (x.Jobs.set n _)+wL Ans.w x.Done+wL Turn.w x.Log≤_;omega
  show (b6p x n x.Jobs[n] p).w≤_;unfold b6p;cases p.2.2 == 0
  ·have:=h3o { x with A:=p.1,Jobs:=x.Jobs.set n (b7c x.Jobs[n] p) } (n:=n) (by simpa using hn) (b7c x.Jobs[n] p) (by simp);have e4:(b7c x.Jobs[n] p).Got=p.2.1:=rfl;rw [e4] at this;show (a7l _ n _).w≤_;omega
  ·show ({ x with A:=p.1,Jobs:=x.Jobs.set n (b7c x.Jobs[n] p) }:Eng).w≤_;omega
theorem f1o {x:Eng} (h:b4p x=true) {n:Nat} (hn:n<x.Jobs.length):e3z x.A.G x.Jobs[n]=true∧a3p x.A=true:=by
 unfold b4p at h;obtain ⟨h1,h2⟩:=a0d h;exact ⟨List.all_eq_true.1 h1 _ (List.getElem_mem hn),(a0d h2).1⟩
theorem h0z {g:Geo} {j:Job} (h:e3z g j=true):a1j g j.C=0∧0≤j.At∧j.At≤40∧j.Got.length≤6:=by
 unfold e3z at h;simp only [Bool.and_eq_true] at h;have:=a0y h.2.1;exact ⟨by simpa using h.1,this.1,this.2,of_decide_eq_true h.2.2.1⟩
theorem i6t (x:Eng) (q:Int):(c3e x q).1.w≤x.w+120:=by
 unfold c3e;cases h:b4p x&&(a0m q 0 ((x.Jobs.length:Int) - 1)&&decide (x.Log.length<400))
 ·show x.w≤_;omega
 ·have h1:=a0y (a0d (a0d h).2).1;have hn:q.toNat<x.Jobs.length:=by omega
  exact i5a x hn (h0z (f1o (a0d h).1 hn).1).2.2.2
def b7k (a:Arr):Prop:=inI a.Seq∧inI a.Tail
theorem c9l {a:Arr} (h:a3p a=true):0≤a.Seq∧a.Seq≤60000∧0≤a.Tail∧a.Tail≤60000∧0≤a.Gen∧a.Gen≤60000∧a.Seq - a.Tail≤4∧Fz a∧-1≤a.Lost∧a.Lost≤a.G.N - 1:=by
 unfold a3p d6u c8n at h;simp only [Bool.and_eq_true] at h;obtain ⟨_,_,_,⟨l1,_⟩,_,_,⟨⟨⟨c1,c2⟩,c3⟩,c4⟩,c5⟩:=h;have:=a0y l1;have:=a0y c1;have:=a0y c2;have:=a0y c3;have:=a0y c4;have:=a0y c5;unfold Fz;omega
theorem e4a {a:Arr} (s:Int) (data:List Int) (h:b7k a):b7k (a1m a s data).1:=by
 unfold a1m;cases hc:a1r a s data == 0
 ·exact h
 ·obtain ⟨c1,c2,c3,c4,_⟩:=c9l (c8t hc).1;obtain ⟨k1,k2⟩:=h0y a s data;show b7k (a2u a s data);unfold b7k inI;rcases k1 with k1 | k1 <;> rcases k2 with k2 | k2 <;> rw [k1,k2] <;> omega
theorem e4b {a:Arr} (s:Int) (h:b7k a):b7k (a0t a s).1:=by
 unfold a0t;cases a3t a s != 0
 ·cases decide (a4c a s<0)
  ·have h1:=e4a s (a.Dirty.getD (a4c a s).toNat default).Data h;show b7k (b3z a _ _).1;unfold b3z;generalize a1m a s (a.Dirty.getD (a4c a s).toNat default).Data=p at *;cases p.2 == 0
   ·exact h1
   ·exact h1
  ·exact h
 ·exact h
theorem g3o {a:Arr} (b n:Int) (h:b7k a):b7k (a0u a b n).1:=by
 unfold a0u;cases b1k a b n != 0
 ·cases (a2y a (a0o a.G b)).2
  ·exact h
  ·exact h
 ·exact h
theorem h5y {a:Arr} (j:Job) (h:b7k a):b7k (a5c a j).1:=by
 have hs:=fun b n=>g3o (a:=a) b n h;have hf:=fun s=>e4b (a:=a) s h;unfold a5c;cases j.C.Op == 1
 ·cases j.C.Op == 4
  ·cases j.C.Op == 5
   ·cases j.C.Op == 6
    ·cases decide (j.At<j.C.Vals.length)
     ·exact hf _
     ·exact hs _ _
    ·exact hs _ _
   ·cases (a1u a (j.C.Lba+j.At)).2 != 0
    ·cases (a1u a (j.C.Lba+j.At)).1 != j.C.Vals.getD 0 0
     ·exact hs _ _
     ·exact h
    ·exact h
  ·exact hf _
 ·exact h
theorem g8g {x:Eng} (q:Int) (h:b7k x.A):b7k (c3e x q).1.A:=by
 unfold c3e;cases b4p x&&(a0m q 0 ((x.Jobs.length:Int) - 1)&&decide (x.Log.length<400))
 ·exact h
 ·show b7k (b4b x q.toNat).A;unfold b4b;cases decide ((c3c x q.toNat).At<a2x x.A.G (c3c x q.toNat).C - 1)&&((c3c x q.toNat).Code == 0)
  ·exact h
  ·have h1:=h5y (c3c x q.toNat) h;show b7k (b6p x q.toNat _ _).A;unfold b6p;cases (a5c x.A (c3c x q.toNat)).2.2 == 0
   ·exact h1
   ·exact h1
theorem c9m {g:Geo} {s:Int} (h:a0s g s=true):0≤a1d g s∧a1d g s<g.N:=by
 obtain ⟨_,_,h1,h2⟩:=e4r h;obtain ⟨hg,_,_⟩:=a3q h;obtain ⟨_,_,_,_⟩:=a1n hg;have e:a1d g s=g.N - 1 - s % g.N:=by unfold a1d;rw [h];rfl
 have:=Int.emod_nonneg s (b:=g.N) (by omega);rw [e];omega
theorem j2d {g:Geo} {s i:Int} (h:a0s g s=true) (h0:0≤i) (h1:i<g.N - 1):a9x g s i=(a1d g s+1+i) % g.N:=by
 unfold a9x;rw [h,show a0m i 0 (g.N - 2)=true by unfold a0m;simp;omega];rfl
def c9s (g:Geo) (s:Int) (data:List Int) (i m:Nat):Int:=bif (m:Int) == a1d g s then i6r data else bif decide (((m:Int) - a1d g s - 1+g.N) % g.N<i) then data.getD (((m:Int) - a1d g s - 1+g.N) % g.N).toNat 0 else 0
theorem h5z {g:Geo} {s:Int} (h:a0s g s=true) (data:List Int) (i:Nat) (hi:(i:Int)<g.N - 1) :
  ((List.range g.N.toNat).map (c9s g s data i)).set (a9x g s i).toNat (data.getD i 0)=(List.range g.N.toNat).map (c9s g s data (i+1)):=by
 obtain ⟨hp0,hp1⟩:=c9m h;obtain ⟨g1,g2,_,_⟩:=a1n (a3q h).1;have hd:=j2d h (i:=i) (by omega) hi;have hN:g.N=3∨g.N=4∨g.N=5:=by omega
 refine List.ext_getElem (by simp) fun m h1 h2=>?_;have hm:(m:Int)<g.N:=by simp at h2;omega
 rw [List.getElem_set];simp only [List.getElem_map,List.getElem_range];unfold c9s;rw [hd];generalize a1d g s=p at *;split
 ·rename_i he;have hx:((m:Int) - p - 1+g.N) % g.N=i∧(m:Int)≠p:=by rcases hN with h | h | h <;> rw [h] at he hi hm ⊢ <;> omega
  rw [hx.1,show ((m:Int) == p)=false by simpa using hx.2,decide_eq_true (by omega:(i:Int)<((i+1:Nat):Int))];simp
 ·rename_i he;cases hmp:((m:Int) == p)
  ·have hmp':(m:Int)≠p:=by simpa using hmp
   have hx:((m:Int) - p - 1+g.N) % g.N≠i:=by rcases hN with h | h | h <;> rw [h] at he hi hm ⊢ <;> omega
   rw [cond_false,cond_false];by_cases hlt:((m:Int) - p - 1+g.N) % g.N<i
   ·rw [decide_eq_true hlt,decide_eq_true (by omega:((m:Int) - p - 1+g.N) % g.N<((i+1:Nat):Int))]
   ·rw [decide_eq_false hlt,decide_eq_false (by omega:¬ ((m:Int) - p - 1+g.N) % g.N<((i+1:Nat):Int))]
  ·rfl
theorem h1a {g:Geo} {s:Int} (h:a0s g s=true) (data:List Int) :
  (List.replicate g.N.toNat (0:Int)).set (a1d g s).toNat (i6r data)=(List.range g.N.toNat).map (c9s g s data 0):=by
 obtain ⟨hp0,hp1⟩:=c9m h;obtain ⟨g1,g2,_,_⟩:=a1n (a3q h).1;refine List.ext_getElem (by simp) fun m h1 h2=>?_;rw [List.getElem_set];simp only [List.getElem_map,List.getElem_range,List.getElem_replicate];unfold c9s;have:=Int.emod_nonneg ((m:Int) - a1d g s - 1+g.N) (b:=g.N) (by omega);rw [decide_eq_false (by omega:¬ ((m:Int) - a1d g s - 1+g.N) % g.N<((0:Nat):Int))];generalize a1d g s=p at *;split
 ·rename_i he;rw [show ((m:Int) == p)=true by simp;omega];rfl
 ·rename_i he;rw [show ((m:Int) == p)=false by simp;omega];rfl
theorem h6a {g:Geo} {s:Int} (h:a0s g s=true) (data:List Int) (hd:(data.length:Int)=g.N - 1) (m:Nat) (hm:(m:Int)<g.N):c9s g s data data.length m=b9z g s data m:=by
 obtain ⟨hp0,hp1⟩:=c9m h;obtain ⟨g1,g2,_,_⟩:=a1n (a3q h).1;have hN:g.N=3∨g.N=4∨g.N=5:=by omega
 unfold c9s b9z;generalize a1d g s=p at *;cases hmp:((m:Int) == p)
 ·have hmp':(m:Int)≠p:=by simpa using hmp
  have hx:((m:Int) - p - 1+g.N) % g.N<data.length:=by rcases hN with h | h | h <;> rw [h] at hm hp1 hd ⊢ <;> omega
  rw [decide_eq_true hx];rfl
 ·rfl
theorem h6b {g:Geo} {s:Int} (h:a0s g s=true) (m:Nat) (hm:(m:Int)<g.N) (hmp:(m:Int)≠a1d g s):0≤((m:Int) - a1d g s - 1+g.N) % g.N∧((m:Int) - a1d g s - 1+g.N) % g.N<g.N - 1:=by
 obtain ⟨hp0,hp1⟩:=c9m h;obtain ⟨g1,g2,_,_⟩:=a1n (a3q h).1;have hN:g.N=3∨g.N=4∨g.N=5:=by omega
 generalize a1d g s=p at *;rcases hN with h | h | h <;> rw [h] at hm hp1 ⊢ <;> omega
abbrev Arr.stM (i:Int) (a:Arr) (ms:List (List T)):Int×Int×Int×Int×Int×Int×Int×Int×Int×Int×Bool×Bool×List (List T)×List (List T):=
 (i,a.Id,a.G.N,a.G.S,a.Lost,a.Built,a.Seq,a.Tail,a.Gen,a.Fuse,a.Down,a.Broken,ms,a1c a.Dirty)
abbrev Arr.st (i:Nat) (a:Arr):=a.stM (i:Int) (a2e a.Mems)
theorem h3p {f:Arr→Nat→Arr} (K:Arr→Option Outs) {n:Nat} (I:Nat→Arr→Prop) {b:(Int×Int×Int×Int×Int×Int×Int×Int×Int×Int×Bool×Bool×List (List T)×List (List T)→Option Outs)→Int×Int×Int×Int×Int×Int×Int×Int×Int×Int×Bool×Bool×List (List T)×List (List T)→Option Outs}
  (hI:∀ i a,i<n→I i a→I (i+1) (f a i)) (hs:∀ i a G,i<n→I i a→b G (a.st i)=G ((f a i).st (i+1))) (he:∀ a G,I n a→b G (a.st n)=K a) {j:Nat} {a:Arr} (h0:I 0 a) (hj:n<j):a1i b j (a.st 0)=K (run f 0 n a):=by
 have key:∀ d i j a,i+d=n→d<j→I i a→a1i b j (a.st i)=K (run f i d a):=by
  intro d
  induction d with
  | zero=>
   intro i j a hi hj h;obtain ⟨j,rfl⟩:∃ q,j=q+1:=⟨j - 1,by omega⟩;have:i=n:=by omega
   subst this;exact he a _ h
  | succ d ih=>
   intro i j a hi hj h;obtain ⟨j,rfl⟩:∃ q,j=q+1:=⟨j - 1,by omega⟩;rw [a1i,hs i a _ (by omega) h];exact ih (i+1) j (f a i) (by omega) (by omega) (hI i a (by omega) h)
 exact key n 0 j a (by omega) hj h0
theorem h3q {f:Arr→Nat→Arr} (hd:∀ a i,a.Down=true→f a i=a) (K:Arr→Option Outs) {n:Nat} (I:Nat→Arr→Prop) {b:(Int×Int×Int×Int×Int×Int×Int×Int×Int×Int×Bool×Bool×List (List T)×List (List T)→Option Outs)→Int×Int×Int×Int×Int×Int×Int×Int×Int×Int×Bool×Bool×List (List T)×List (List T)→Option Outs}
  (hI:∀ i a,i<n→I i a→I (i+1) (f a i)) (hs:∀ i a G,i<n→I i a→a.Down=false→b G (a.st i)=bif (f a i).Down then K (f a i) else G ((f a i).st (i+1))) (he:∀ a G,I n a→a.Down=false→b G (a.st n)=K a) {j:Nat} {a:Arr} (h0:I 0 a) (hD:a.Down=false) (hj:n<j):a1i b j (a.st 0)=K (run f 0 n a):=by
 have key:∀ d i j a,i+d=n→d<j→I i a→a.Down=false→a1i b j (a.st i)=K (run f i d a):=by
  intro d
  induction d with
  | zero=>
   intro i j a hi hj h hD;obtain ⟨j,rfl⟩:∃ q,j=q+1:=⟨j - 1,by omega⟩;have:i=n:=by omega
   subst this;exact he a _ h hD
  | succ d ih=>
   intro i j a hi hj h hD;obtain ⟨j,rfl⟩:∃ q,j=q+1:=⟨j - 1,by omega⟩;rw [a1i,hs i a _ (by omega) h hD];show _=K (run f (i+1) d (f a i));cases hfd:(f a i).Down
   ·exact ih (i+1) j (f a i) (by omega) (by omega) (hI i a (by omega) h) hfd
   ·rw [g3m hd d (i+1) hfd];rfl
 exact key n 0 j a (by omega) hj h0 hD
theorem e4v {l:List Dsk} {i:Nat} (h:i<l.length) (d:Dsk):a0x (a2e l) i 0 d.e=a2e (l.set i d):=d8z Dsk.e h 0 d.e d rfl
abbrev j5b (es:List (List T)) (m:Nat):List T:=[.r (at_ es m 0).asR,.r (at_ es m 1).asR,.b (at_ es m 2).asB,.r (at_ es m 3).asR]
theorem h3r {a:Arr} {m:Nat} (h:m<a.Mems.length):j5b (a2e a.Mems) m=(dsk a m).e:=by
 unfold j5b;rw [a0q _ h,a0q _ h,a0q _ h,a0q _ h,h3j h];rfl
theorem d7h {a:Arr} {m:Nat} (h:m<a.Mems.length):(at_ (a2e a.Mems) m 2).asB=(dsk a m).Failed:=by
 rw [a0q _ h,h3j h];rfl
theorem i5b {a:Arr} {m W:Nat} (h:m<a.Mems.length) (hw:a.w≤W):(dsk a m).w≤W:=by
 have:=a1v Dsk.w h;rw [h3j h];have e:a.w=wL Dsk.w a.Mems+wL Ent.w a.Dirty:=rfl;omega
theorem j5c (a:Arr) (hD:a.Down=false) (hF:Fz a):Rn 1 N.j9p [.p a.e] ⟨[.b (!(op a).Down)],[(op a).e]⟩:=by
 refine Rn.of fun k hk=>?_;unfold Fz at hF;rw [g2h];unfold d6b;rcases Bool.eq_false_or_eq_true (a.Fuse == 0) with h0 | h0
 ·have ho:op a={ a with Down:=true,Fuse:=-1 }:=by unfold op;rw [hD,h0];rfl
  rw [ho];exact a0n h0 rfl
 ·rcases Bool.eq_false_or_eq_true (decide (a.Fuse > 0)) with h1 | h1
  ·have ho:op a={ a with Fuse:=a.Fuse - 1 }:=by unfold op;rw [hD,h0,h1];rfl
   rw [ho];have:=of_decide_eq_true h1;refine a0k h0 (a0n h1 ?_);rw [a0e (by omega) (by omega)];show some (⟨[.b true],[_]⟩:Outs)=some (⟨[.b (!a.Down)],[_]⟩:Outs);rw [hD];rfl
  ·have ho:op a=a:=by unfold op;rw [hD,h0,h1];rfl
   rw [ho];refine a0k h0 (a0k h1 ?_);show some (⟨[.b true],[a.e]⟩:Outs)=some ⟨[.b (!a.Down)],[a.e]⟩;rw [show (!a.Down)=true by rw [hD];rfl]
theorem j5d (a:Arr) (hF:Fz a):Rn 1 N.j8v [.p a.e] ⟨[.b (!(op a).Down)],[(op a).e]⟩:=by
 refine Rn.of fun k hk=>?_;unfold Fz at hF;rw [g9x];unfold e7y;rcases Bool.eq_false_or_eq_true a.Down with hD | hD
 ·have ho:op a=a:=h0w hD;rw [ho];refine a0n hD ?_;show some (⟨[.b false],[a.e]⟩:Outs)=some ⟨[.b (!a.Down)],[a.e]⟩;rw [show (!a.Down)=false by rw [hD];rfl]
 ·refine a0k hD ?_;rcases Bool.eq_false_or_eq_true (a.Fuse == 0) with h0 | h0
  ·have ho:op a={ a with Down:=true,Fuse:=-1 }:=by unfold op;rw [hD,h0];rfl
   rw [ho];exact a0n h0 rfl
  ·rcases Bool.eq_false_or_eq_true (decide (a.Fuse > 0)) with h1 | h1
   ·have ho:op a={ a with Fuse:=a.Fuse - 1 }:=by unfold op;rw [hD,h0,h1];rfl
    rw [ho];have:=of_decide_eq_true h1;refine a0k h0 (a0n h1 ?_);rw [a0e (by omega) (by omega)];show some (⟨[.b true],[_]⟩:Outs)=some (⟨[.b (!a.Down)],[_]⟩:Outs);rw [hD];rfl
   ·have ho:op a=a:=by unfold op;rw [hD,h0,h1];rfl
    rw [ho];refine a0k h0 (a0k h1 ?_);show some (⟨[.b true],[a.e]⟩:Outs)=some ⟨[.b (!a.Down)],[a.e]⟩;rw [show (!a.Down)=true by rw [hD];rfl]
theorem h1b (a:Arr) (m:Nat) (hm:m<a.Mems.length) (n:Int) (s:List Int) (hD:a.Down=false) (hF:Fz a) (hw:a.w≤2147483648) (hs:s.length≤Big) :
  Rn 9 N.j7g [.p a.e,.v [.i (m:Int)],.v [.i n],.v [.r (eIs s)]] ⟨[.b (!(put a m n s).Down)],[(put a m n s).e]⟩:=by
 refine Rn.of fun k hk=>?_;have hB:Big=4294967296:=rfl;rw [e2s];unfold c5m;have hml:=a4o a (by omega);refine (a0g (by simp;omega) _).trans ?_;have hm':m<(op a).Mems.length:=by rw [f1h];exact hm
 have hfa:=d7h hm;rcases (Bool.eq_false_or_eq_true (dsk a m).Failed).symm with hfl | hfl
 ·refine a0k (hfa.trans hfl) (a0z (j5c a hD hF k (by omega)) ?_);rcases (Bool.eq_false_or_eq_true (op a).Down).symm with hd | hd
  ·rw [show put a m n s=h6j (op a) m (a4p (dsk a m) n s).1 by unfold put;rw [hfl,hd];rfl];refine a0k (show (!(!(op a).Down))=false by rw [hd];rfl) ?_;refine (a0g (show (decide (0≤(m:Int))&&decide ((m:Int)<((a2e (op a).Mems).length:Int)))=true by simp;omega) _).trans ?_;refine a0z ((congrArg (fun c=>a0a E P0 k N.j9q [.v c,.v [.i n],.v [.r (eIs s)]]) ((h3r hm').trans (congrArg Dsk.e (f7h a m)))).trans (h5p (dsk a m) n s (i5b hm hw) hs k (by omega))) ?_;refine (a0g (show (decide (0≤(m:Int))&&decide ((m:Int)<((a2e (op a).Mems).length:Int)))=true by simp;omega) _).trans ?_;refine (a0g (Nat.beq_refl _) _).trans ?_;have hp:=e4v hm' (a4p (dsk a m) n s).1;show some (⟨[.b true],[[_,_,_,.r (a0x (a2e (op a).Mems) m 0 (a4p (dsk a m) n s).1.e),_,_,_,_,_,_,_,_,_]]⟩:Outs)=some ⟨[.b (!(op a).Down)],[(h6j (op a) m (a4p (dsk a m) n s).1).e]⟩;rw [hp,show (!(op a).Down)=true by rw [hd];rfl];rfl
  ·rw [show put a m n s=op a by unfold put;rw [hfl,hd];rfl];refine a0n (show (!(!(op a).Down))=true by rw [hd];rfl) ?_;show some (⟨[.b false],[(op a).e]⟩:Outs)=some ⟨[.b (!(op a).Down)],[(op a).e]⟩;rw [show (!(op a).Down)=false by rw [hd];rfl]
 ·rw [show put a m n s=a by unfold put;rw [hfl];rfl];refine a0n (hfa.trans hfl) ?_;show some (⟨[.b true],[a.e]⟩:Outs)=some ⟨[.b (!a.Down)],[a.e]⟩;rw [show (!a.Down)=true by rw [hD];rfl]
theorem h1c (a:Arr) (m:Nat) (hm:m<a.Mems.length) (n:Int) (s:List Int) (hF:Fz a) (hw:a.w≤2147483648) (hs:s.length≤Big) :
  Rn 9 N.j7r [.p a.e,.v [.i (m:Int)],.v [.i n],.v [.r (eIs s)]] ⟨[],[(put a m n s).e]⟩:=by
 refine Rn.of fun k hk=>?_;have hB:Big=4294967296:=rfl;rw [g6d];unfold e0s;have hml:=a4o a (by omega);refine (a0g (by simp;omega) _).trans ?_;have hm':m<(op a).Mems.length:=by rw [f1h];exact hm
 have hfa:=d7h hm;rcases (Bool.eq_false_or_eq_true (dsk a m).Failed).symm with hfl | hfl
 ·refine a0k (hfa.trans hfl) (a0z (j5d a hF k (by omega)) ?_);rcases (Bool.eq_false_or_eq_true (op a).Down).symm with hd | hd
  ·rw [show put a m n s=h6j (op a) m (a4p (dsk a m) n s).1 by unfold put;rw [hfl,hd];rfl];refine a0k (show (!(!(op a).Down))=false by rw [hd];rfl) ?_;refine (a0g (show (decide (0≤(m:Int))&&decide ((m:Int)<((a2e (op a).Mems).length:Int)))=true by simp;omega) _).trans ?_;refine a0z ((congrArg (fun c=>a0a E P0 k N.j8w [.v c,.v [.i n],.v [.r (eIs s)]]) ((h3r hm').trans (congrArg Dsk.e (f7h a m)))).trans (h5q (dsk a m) n s (i5b hm hw) hs k (by omega))) ?_;refine (a0g (show (decide (0≤(m:Int))&&decide ((m:Int)<((a2e (op a).Mems).length:Int)))=true by simp;omega) _).trans ?_;have hp:=e4v hm' (a4p (dsk a m) n s).1;show some (⟨[],[[_,_,_,.r (a0x (a2e (op a).Mems) m 0 (a4p (dsk a m) n s).1.e),_,_,_,_,_,_,_,_,_]]⟩:Outs)=some ⟨[],[(h6j (op a) m (a4p (dsk a m) n s).1).e]⟩;rw [hp];rfl
  ·rw [show put a m n s=op a by unfold put;rw [hfl,hd];rfl];refine a0n (show (!(!(op a).Down))=true by rw [hd];rfl) ?_;rfl
 ·rw [show put a m n s=a by unfold put;rw [hfl];rfl];exact a0n (hfa.trans hfl) rfl
def KB (a:Arr):Option Outs:=some ⟨[.b (!a.Down)],[a.e]⟩
def KU (a:Arr):Option Outs:=some ⟨[],[a.e]⟩
def Rnd (a0:Arr) (c:Nat) (i:Nat) (b:Arr):Prop:=Fz b∧Keep a0 b∧b.w≤a0.w+i*c
theorem Rnd.next {a0:Arr} {c i:Nat} {a b:Arr} (h:Rnd a0 c i a) (hf:Fz a→Fz b) (hk:Keep a b) (hw:b.w≤a.w+c):Rnd a0 c (i+1) b:=by
 refine ⟨hf h.1,h.2.1.trans hk,?_⟩;have:=h.2.2;rw [Nat.succ_mul];omega
theorem Rnd.first {a:Arr} {c:Nat} (h:Fz a):Rnd a c 0 a:=⟨h,Keep.refl a,by omega⟩
theorem Rnd.w {a0 b:Arr} {c i n:Nat} (h:Rnd a0 c i b) (hi:i≤n):b.w≤a0.w+n*c:=Nat.le_trans h.2.2 (Nat.add_le_add_left (Nat.mul_le_mul_right c hi) _)
theorem i1e (a:Arr) (hD:a.Down=false) (hF:Fz a) (hw:a.w≤2147483648):Rn 9 N.j8c [.p a.e] ⟨[.b (!(b4g a).Down)],[(b4g a).e]⟩:=by
 refine Rn.of fun k hk=>?_;have hB:Big=4294967296:=rfl;have hml:=a4o a (by omega);rw [e9f];unfold c7r b9e;refine (h3q (f:=a3z) (fun _ _=>e2a) KB (n:=a.Mems.length) (Rnd a 0) (fun i b hi h=>h.next d9c (c8q b i) (f1j b i)) (fun i b G hi h hbD=>?_) (fun b G h hbD=>?_) (a:=a) (Rnd.first hF) hD (by omega)).trans rfl
 ·obtain ⟨h1,h2,h3⟩:=h;have hbn:=h2.n;have hm:i<b.Mems.length:=by omega
  have hm':i<(op b).Mems.length:=by rw [f1h];exact hm
  have hfa:=d7h hm;unfold b0o;refine a0n (show decide ((i:Int)<((a2e a.Mems).length:Int))=true by simp;omega) ?_;refine (a0g (show (decide (0≤(i:Int))&&decide ((i:Int)<((a2e b.Mems).length:Int)))=true by simp;omega) _).trans ?_;rcases (Bool.eq_false_or_eq_true (dsk b i).Failed).symm with hfl | hfl
  ·refine a0k (hfa.trans hfl) (a0z (j5c b hbD h1 k (by omega)) ?_);rcases (Bool.eq_false_or_eq_true (op b).Down).symm with hd | hd
   ·rw [show a3z b i=h6j (op b) i (a5m (dsk b i)) by unfold a3z;rw [hfl,hd];rfl];refine a0k (show (!(!(op b).Down))=false by rw [hd];rfl) ?_;refine (a0g (show (decide (0≤(i:Int))&&decide ((i:Int)<((a2e (op b).Mems).length:Int)))=true by simp;omega) _).trans ?_;refine a0z ((congrArg (fun c=>a0a E P0 k N.j8b [.v c]) ((h3r hm').trans (congrArg Dsk.e (f7h b i)))).trans (h5r (dsk b i) (i5b hm (by omega)) k (by omega))) ?_;refine (a0g (show (decide (0≤(i:Int))&&decide ((i:Int)<((a2e (op b).Mems).length:Int)))=true by simp;omega) _).trans ?_;refine (a0g (Nat.beq_refl _) _).trans ?_;have hp:=e4v hm' (a5m (dsk b i));show G ((op b).stM (W64 ((i:Int)+1)) (a0x (a2e (op b).Mems) i 0 (a5m (dsk b i)).e))=bif (op b).Down then _ else G ((h6j (op b) i (a5m (dsk b i))).st (i+1));rw [hp,a1l (by omega),hd];rfl
   ·rw [show a3z b i=op b by unfold a3z;rw [hfl,hd];rfl];refine a0n (show (!(!(op b).Down))=true by rw [hd];rfl) ?_;show some (⟨[.b false],[(op b).e]⟩:Outs)=bif (op b).Down then some ⟨[.b (!(op b).Down)],[(op b).e]⟩ else _;rw [show (!(op b).Down)=false by rw [hd];rfl,hd];rfl
  ·rw [show a3z b i=b by unfold a3z;rw [hfl];rfl];refine a0n (hfa.trans hfl) ?_;show G (b.stM (W64 ((i:Int)+1)) (a2e b.Mems))=bif b.Down then _ else G (b.st (i+1));rw [a1l (by omega),hbD];rfl
 ·unfold b0o;refine a0k (show decide ((a.Mems.length:Int)<((a2e a.Mems).length:Int))=false by simp) ?_;show some (⟨[.b true],[b.e]⟩:Outs)=some ⟨[.b (!b.Down)],[b.e]⟩;rw [show (!b.Down)=true by rw [hbD];rfl]
theorem i1f (a:Arr) (hF:Fz a) (hw:a.w≤2147483648):Rn 9 N.j7q [.p a.e] ⟨[],[(b4g a).e]⟩:=by
 refine Rn.of fun k hk=>?_;have hB:Big=4294967296:=rfl;have hml:=a4o a (by omega);rw [g0u];unfold d5f c4d;refine (h3p (f:=a3z) KU (n:=a.Mems.length) (Rnd a 0) (fun i b hi h=>h.next d9c (c8q b i) (f1j b i)) (fun i b G hi h=>?_) (fun b G h=>?_) (a:=a) (Rnd.first hF) (by omega)).trans rfl
 ·obtain ⟨h1,h2,h3⟩:=h;have hbn:=h2.n;have hm:i<b.Mems.length:=by omega
  have hm':i<(op b).Mems.length:=by rw [f1h];exact hm
  have hfa:=d7h hm;unfold b5o;refine a0n (show decide ((i:Int)<((a2e b.Mems).length:Int))=true by simp;omega) ?_;refine (a0g (show (decide (0≤(i:Int))&&decide ((i:Int)<((a2e b.Mems).length:Int)))=true by simp;omega) _).trans ?_;rcases (Bool.eq_false_or_eq_true (dsk b i).Failed).symm with hfl | hfl
  ·refine a0n ((congrArg not (hfa.trans hfl)).trans rfl) (a0z (j5d b h1 k (by omega)) ?_);rcases (Bool.eq_false_or_eq_true (op b).Down).symm with hd | hd
   ·rw [show a3z b i=h6j (op b) i (a5m (dsk b i)) by unfold a3z;rw [hfl,hd];rfl];refine a0n (show (!(op b).Down)=true by rw [hd];rfl) ?_;refine (a0g (show (decide (0≤(i:Int))&&decide ((i:Int)<((a2e (op b).Mems).length:Int)))=true by simp;omega) _).trans ?_;refine a0z ((congrArg (fun c=>a0a E P0 k N.j7p [.v c]) ((h3r hm').trans (congrArg Dsk.e (f7h b i)))).trans (h5s (dsk b i) (i5b hm (by omega)) k (by omega))) ?_;refine (a0g (show (decide (0≤(i:Int))&&decide ((i:Int)<((a2e (op b).Mems).length:Int)))=true by simp;omega) _).trans ?_;have hp:=e4v hm' (a5m (dsk b i));show G ((op b).stM (W64 ((i:Int)+1)) (a0x (a2e (op b).Mems) i 0 (a5m (dsk b i)).e))=G ((h6j (op b) i (a5m (dsk b i))).st (i+1));rw [hp,a1l (by omega)];rfl
   ·rw [show a3z b i=op b by unfold a3z;rw [hfl,hd];rfl];refine a0k (show (!(op b).Down)=false by rw [hd];rfl) ?_;show G ((op b).stM (W64 ((i:Int)+1)) (a2e (op b).Mems))=G ((op b).st (i+1));rw [a1l (by omega)]
  ·rw [show a3z b i=b by unfold a3z;rw [hfl];rfl];refine a0k ((congrArg not (hfa.trans hfl)).trans rfl) ?_;show G (b.stM (W64 ((i:Int)+1)) (a2e b.Mems))=G (b.st (i+1));rw [a1l (by omega)]
 ·unfold b5o;have h2:=h.2.1.n;exact a0k (show decide ((a.Mems.length:Int)<((a2e b.Mems).length:Int))=false by simp;omega) rfl
theorem i9l (r:Rec) (h:r.Data.length≤Big):Rn 4 N.k2w [.v r.e] ⟨[.b (f1k r)],[]⟩:=by
 refine Rn.of fun k hk=>?_;rw [g6w];unfold e1k f1k;refine a0z (a1q _ _ _ k (by omega)) ?_;cases a0m r.Seq 0 60000
 ·rfl
 refine a0n rfl (a0z (a1q _ _ _ k (by omega)) ?_);cases a0m r.Stripe 0 7
 ·rfl
 refine a0n rfl ?_;rw [List.length_map];refine a0z (a1q _ _ _ k (by omega)) ?_;cases a0m (r.Data.length:Int) 2 4
 ·rfl
 exact a0n rfl (a0z (c8l r.Data h k (by omega)) rfl)
theorem i9m (r:Rec) (h:r.Data.length≤Big):Rn 4 N.k1u [.v r.e] ⟨[.b (f1k r)],[]⟩:=by
 refine Rn.of fun k hk=>?_;rw [g6e];unfold e0t f1k;refine a0z (a1a _ _ _ k (by omega)) ?_;cases a0m r.Seq 0 60000
 ·rfl
 refine a0n rfl (a0z (a1a _ _ _ k (by omega)) ?_);cases a0m r.Stripe 0 7
 ·rfl
 refine a0n rfl ?_;rw [List.length_map];refine a0z (a1a _ _ _ k (by omega)) ?_;cases a0m (r.Data.length:Int) 2 4
 ·rfl
 exact a0n rfl (a0z (c2z r.Data h k (by omega)) rfl)
theorem g8h {r:Rec} (h:f1k r=true):r.Data.length≤4:=by
 unfold f1k at h;simp only [Bool.and_eq_true] at h;have:=a0y h.2.2.1;omega
theorem i5c (r:Rec) (h:r.Data.length≤Big):Rn 5 N.k2x [.v r.e] ⟨[.r (eIs (c8r r))],[]⟩:=by
 refine Rn.of fun k hk=>?_;rw [g2j];unfold d6d c8r;refine a0z (i9l r h k (by omega)) ?_;cases ho:f1k r
 ·rfl
 ·have:=g8h ho;refine a0k rfl ((a0g (by simp;omega) _).trans ?_);rw [List.length_map];rfl
theorem i1g (q:Int):Rn 1 N.k2v [.v [.i q]] ⟨[.i (c5a q)],[]⟩:=by
 refine Rn.of fun k hk=>?_;rw [g2i];unfold d6c c5a;by_cases hq:q<0
 ·rw [decide_eq_true hq];rfl
 ·rw [decide_eq_false hq];have h1:=Int.tmod_eq_emod_of_nonneg (a:=q) (b:=4) (by omega);have h2:=Int.emod_nonneg q (b:=4) (by omega);have h3:=Int.emod_lt_of_pos q (b:=4) (by omega);show some (⟨[.i (W64 (2+Int.tmod q 4))],[]⟩:Outs)=_;rw [h1,a0e (by omega) (by omega)];rfl
theorem i5d (r:Rec) (h:r.Data.length≤Big):Rn 5 N.k1v [.v r.e] ⟨[.r (eIs (c8r r))],[]⟩:=by
 refine Rn.of fun k hk=>?_;rw [g0x];unfold d5i c8r;refine a0z (i9m r h k (by omega)) ?_;cases ho:f1k r
 ·rfl
 ·have:=g8h ho;refine a0k rfl ((a0g (by simp;omega) _).trans ?_);rw [List.length_map];rfl
theorem i1h (q:Int):Rn 1 N.k1t [.v [.i q]] ⟨[.i (c5a q)],[]⟩:=by
 refine Rn.of fun k hk=>?_;rw [g0w];unfold d5h c5a;by_cases hq:q<0
 ·rw [decide_eq_true hq];rfl
 ·rw [decide_eq_false hq];have h1:=Int.tmod_eq_emod_of_nonneg (a:=q) (b:=4) (by omega);have h2:=Int.emod_nonneg q (b:=4) (by omega);have h3:=Int.emod_lt_of_pos q (b:=4) (by omega);show some (⟨[.i (W64 (2+Int.tmod q 4))],[]⟩:Outs)=_;rw [h1,a0e (by omega) (by omega)];rfl
theorem j2e (l:List Int) (h:l.length≤Big):Rn 3 N.k2y [.v [.r (eIs l)]] ⟨[.i (i6r l)],[]⟩:=by
 refine Rn.of fun k hk=>?_;rw [d8m];unfold c2v;exact a0z (i0c l h k (by omega)) rfl
theorem i9n (l:List Int) (h:l.length≤Big):Rn 2 N.k1w [.v [.r (eIs l)]] ⟨[.i (i6r l)],[]⟩:=by
 refine Rn.of fun k hk=>?_;unfold Big at h hk;rw [g6g];unfold e0v c6w;show a1i _ k (xN 0#64,((0:Nat):Int))=_;refine a4l (R:=Outs) l.length (fun i=>(xN (i1x (fun i=>l.getD i 0) i),(i:Int))) (fun i=>some ⟨[.i (xN (i1x (fun i=>l.getD i 0) l.length))],[]⟩) (fun i hi G hG=>?_) (fun G=>?_) (by omega)
 ·unfold b7w;simp only [List.length_map,a6i hi,dlt hi,d0,Bool.and_self,a0h,cond_true,Int.toNat_natCast];rw [d6w,a1l (by omega)];exact hG
 ·unfold b7w;simp only [List.length_map,dll,cond_false]
theorem j2f (l:List Int) (h:l.length≤Big):Rn 3 N.k1x [.v [.r (eIs l)]] ⟨[.i (i6r l)],[]⟩:=by
 refine Rn.of fun k hk=>?_;rw [d8h];unfold c2r;exact a0z (i9n l h k (by omega)) rfl
def KS (a:Arr):Option Outs:=some ⟨[.b (!(b4g a).Down)],[(b4g a).e]⟩
def KT (a:Arr):Option Outs:=some ⟨[],[(b4g a).e]⟩
theorem i1i (a:Arr) (m:Nat):Rn 1 N.k2o [.v a.e,.v [.i (m:Int)]] ⟨(c2d a m).e,[]⟩:=by
 refine Rn.of fun k hk=>?_;rw [f4r];rfl
theorem j2g (a:Arr) (hD:a.Down=false) (hF:Fz a) (hw:a.w+a.Mems.length*10≤2147483648) (hl:inI a.Lost) (hg:0≤a.Gen∧a.Gen≤100000) :
  Rn 10 N.k2t [.p a.e] ⟨[.b (!(mark a).Down)],[(mark a).e]⟩:=by
 refine Rn.of fun k hk=>?_;have hB:Big=4294967296:=rfl;have hml:=a4o a (by omega);rw [e9i];unfold c7u b9i;rw [a0e (n:=a.Gen+1) (by omega) (by omega)];refine (h3q (f:=a9b) (fun _ _=>g3l) KS (n:=a.Mems.length) (Rnd { a with Gen:=a.Gen+1 } 10) (fun i b hi h=>h.next f1i (d2q b i) (g3n b i)) (fun i b G hi h hbD=>?_) (fun b G h hbD=>?_) (a:={ a with Gen:=a.Gen+1 }) (Rnd.first hF) hD (by omega)).trans rfl
 ·have hbw:=h.w (Nat.le_of_lt hi);obtain ⟨h1,h2,h3⟩:=h;have hbn:b.Mems.length=a.Mems.length:=h2.n;have hbl:inI b.Lost:=by
    have:b.Lost=a.Lost:=h2.lost;rw [this];exact hl
  have hbw:b.w≤a.w+a.Mems.length*10:=hbw;have hps:=(d2p (c2d b i)).2;unfold b0p;refine a0n (show decide ((i:Int)<((a2e a.Mems).length:Int))=true by simp;omega) ?_;refine a0z (i1i b i k (by omega)) (a0z (h5t (c2d b i) hbl k (by omega)) ?_);refine a0z (h1b b i (by omega) (Int.tmod b.Gen 2) (b3y (c2d b i)) hbD h1 (by omega) (by omega) k (by omega)) ?_;show (bif !(!(a9b b i).Down) then _ else _)=_;rcases (Bool.eq_false_or_eq_true (a9b b i).Down).symm with hd | hd
  ·refine a0k (show (!(!(a9b b i).Down))=false by rw [hd];rfl) ?_;show G ((a9b b i).stM (W64 ((i:Int)+1)) (a2e (a9b b i).Mems))=bif (a9b b i).Down then _ else G ((a9b b i).st (i+1));rw [a1l (by omega),hd];rfl
  ·refine a0n (show (!(!(a9b b i).Down))=true by rw [hd];rfl) ?_;show some (⟨[.b false],[(a9b b i).e]⟩:Outs)=bif (a9b b i).Down then KS (a9b b i) else _;rw [hd];show _=KS (a9b b i);unfold KS;rw [g8b hd,hd];rfl
 ·have hbw:=h.w (Nat.le_refl _);have hbw:b.w≤a.w+a.Mems.length*10:=hbw;unfold b0p;refine a0k (show decide ((a.Mems.length:Int)<((a2e a.Mems).length:Int))=false by simp) ?_;exact a0z (i1e b hbD h.1 (by omega) k (by omega)) rfl
theorem j2h (a:Arr) (hF:Fz a) (hw:a.w+a.Mems.length*10≤2147483648) (hl:inI a.Lost) (hg:0≤a.Gen∧a.Gen≤100000) :
  Rn 10 N.k1r [.p a.e] ⟨[],[(mark a).e]⟩:=by
 refine Rn.of fun k hk=>?_;have hB:Big=4294967296:=rfl;have hml:=a4o a (by omega);rw [g0v];unfold d5g c4e;rw [a0e (n:=a.Gen+1) (by omega) (by omega)];refine (h3p (f:=a9b) KT (n:=a.Mems.length) (Rnd { a with Gen:=a.Gen+1 } 10) (fun i b hi h=>h.next f1i (d2q b i) (g3n b i)) (fun i b G hi h=>?_) (fun b G h=>?_) (a:={ a with Gen:=a.Gen+1 }) (Rnd.first hF) (by omega)).trans rfl
 ·have hbw:=h.w (Nat.le_of_lt hi);obtain ⟨h1,h2,h3⟩:=h;have hbn:b.Mems.length=a.Mems.length:=h2.n;have hbl:inI b.Lost:=by
   have:b.Lost=a.Lost:=h2.lost;rw [this];exact hl
  have hbw:b.w≤a.w+a.Mems.length*10:=hbw;have hps:=(d2p (c2d b i)).2;unfold b5p;refine a0n (show decide ((i:Int)<((a2e b.Mems).length:Int))=true by simp;omega) ?_;refine a0z (h5u (c2d b i) hbl k (by omega)) ?_;refine a0z (h1c b i (by omega) (Int.tmod b.Gen 2) (b3y (c2d b i)) h1 (by omega) (by omega) k (by omega)) ?_;show G ((a9b b i).stM (W64 ((i:Int)+1)) (a2e (a9b b i).Mems))=G ((a9b b i).st (i+1));rw [a1l (by omega)]
 ·have hbw:=h.w (Nat.le_refl _);have hbn:b.Mems.length=a.Mems.length:=h.2.1.n;have hbw:b.w≤a.w+a.Mems.length*10:=hbw;unfold b5p;refine a0k (show decide ((a.Mems.length:Int)<((a2e b.Mems).length:Int))=false by simp;omega) ?_;exact a0z (i1f b h.1 (by omega) k (by omega)) rfl
theorem i9o (a:Arr) (hD:a.Down=false) (hF:Fz a) (hw:a.w+a.Mems.length*10≤2147483648) (hl:inI a.Lost) (hg:0≤a.Gen∧a.Gen≤100000) :
  Rn 11 N.k2u [.p a.e] ⟨[.b (!(a5k a).Down)],[(a5k a).e]⟩:=by
 refine Rn.of fun k hk=>?_;have hB:Big=4294967296:=rfl;have hk':=b9y a;have hsw:=g8a a;rw [e2v];unfold c5n;refine a0z (i1e a hD hF (by omega) k (by omega)) ?_;rcases b4q a with ⟨hd,e⟩ | ⟨hd,e⟩
 ·rw [e];refine a0n (show (!(!(b4g a).Down))=true by rw [hd];rfl) ?_;show some (⟨[.b false],[(b4g a).e]⟩:Outs)=some ⟨[.b (!(b4g a).Down)],[(b4g a).e]⟩;rw [show (!(b4g a).Down)=false by rw [hd];rfl]
 ·rw [e];refine a0k (show (!(!(b4g a).Down))=false by rw [hd];rfl) ?_;exact a0z (j2g { b4g a with Tail:=(b4g a).Seq } hd (d9d hF) (show (b4g a).w+(b4g a).Mems.length*10≤_ by rw [hk'.n];omega) (show inI (b4g a).Lost by rw [hk'.lost];exact hl) (show 0≤(b4g a).Gen∧(b4g a).Gen≤100000 by rw [hk'.gen];exact hg) k (by omega)) rfl
theorem i9p (a:Arr) (hF:Fz a) (hw:a.w+a.Mems.length*10≤2147483648) (hl:inI a.Lost) (hg:0≤a.Gen∧a.Gen≤100000) :
  Rn 11 N.k1s [.p a.e] ⟨[],[(a5k a).e]⟩:=by
 refine Rn.of fun k hk=>?_;have hB:Big=4294967296:=rfl;have hk':=b9y a;have hsw:=g8a a;rw [f3w];unfold d0o;refine a0z (i1f a hF (by omega) k (by omega)) ?_;rcases b4q a with ⟨hd,e⟩ | ⟨hd,e⟩
 ·rw [e];exact a0n hd rfl
 ·rw [e];refine a0k hd ?_;exact a0z (j2h { b4g a with Tail:=(b4g a).Seq } (d9d hF) (show (b4g a).w+(b4g a).Mems.length*10≤_ by rw [hk'.n];omega) (show inI (b4g a).Lost by rw [hk'.lost];exact hl) (show 0≤(b4g a).Gen∧(b4g a).Gen≤100000 by rw [hk'.gen];exact hg) k (by omega)) rfl
theorem f7k (r:Rec) (a:Arr) (m:Nat):Keep a (b6n r a m):=e4t _ _ _ _
theorem i1j (r:Rec) (a:Arr) (m:Nat):(b6n r a m).w≤a.w+9:=by
 have h1:=i0w a m (c5a r.Seq) (c8r r);have h2:=c9k r;unfold b6n;omega
theorem h3s (a:Arr) (r:Rec) (hr:r.Data.length≤Big) (hD:a.Down=false) (hF:Fz a) (hw:a.w+a.Mems.length*9≤2147483648) :
  Rn 10 N.j9r [.p a.e,.v r.e] ⟨[.b (!(b6o a r).Down)],[(b6o a r).e]⟩:=by
 refine Rn.of fun k hk=>?_;have hB:Big=4294967296:=rfl;have hml:=a4o a (by omega);have hrl:=c9k r;rw [d8l];unfold c2u b4n;refine (h3q (f:=b6n r) (fun _ _=>g3l) KS (n:=a.Mems.length) (Rnd a 9) (fun i b hi h=>h.next f1i (f7k r b i) (i1j r b i)) (fun i b G hi h hbD=>?_) (fun b G h hbD=>?_) (a:=a) (Rnd.first hF) hD (by omega)).trans rfl
 ·have hbw:=h.w (Nat.le_of_lt hi);obtain ⟨h1,h2,h3⟩:=h;have hbn:b.Mems.length=a.Mems.length:=h2.n;unfold a7f;refine a0n (show decide ((i:Int)<((a2e a.Mems).length:Int))=true by simp;omega) ?_;refine a0z (i1g r.Seq k (by omega)) (a0z (i5c r hr k (by omega)) ?_);refine a0z (h1b b i (by omega) (c5a r.Seq) (c8r r) hbD h1 (by omega) (by omega) k (by omega)) ?_;show (bif !(!(b6n r b i).Down) then _ else _)=_;rcases (Bool.eq_false_or_eq_true (b6n r b i).Down).symm with hd | hd
  ·refine a0k (show (!(!(b6n r b i).Down))=false by rw [hd];rfl) ?_;show G ((b6n r b i).stM (W64 ((i:Int)+1)) (a2e (b6n r b i).Mems))=bif (b6n r b i).Down then _ else G ((b6n r b i).st (i+1));rw [a1l (by omega),hd];rfl
  ·refine a0n (show (!(!(b6n r b i).Down))=true by rw [hd];rfl) ?_;show some (⟨[.b false],[(b6n r b i).e]⟩:Outs)=bif (b6n r b i).Down then KS (b6n r b i) else _;rw [hd];show _=KS (b6n r b i);unfold KS;rw [g8b hd,hd];rfl
 ·have hbw:=h.w (Nat.le_refl _);unfold a7f;refine a0k (show decide ((a.Mems.length:Int)<((a2e a.Mems).length:Int))=false by simp) ?_;exact a0z (i1e b hbD h.1 (by omega) k (by omega)) rfl
theorem h3t (a:Arr) (r:Rec) (hr:r.Data.length≤Big) (hF:Fz a) (hw:a.w+a.Mems.length*9≤2147483648) :
  Rn 10 N.j8x [.p a.e,.v r.e] ⟨[],[(b6o a r).e]⟩:=by
 refine Rn.of fun k hk=>?_;have hB:Big=4294967296:=rfl;have hml:=a4o a (by omega);have hrl:=c9k r;rw [g6f];unfold e0u c6v;refine (h3p (f:=b6n r) KT (n:=a.Mems.length) (Rnd a 9) (fun i b hi h=>h.next f1i (f7k r b i) (i1j r b i)) (fun i b G hi h=>?_) (fun b G h=>?_) (a:=a) (Rnd.first hF) (by omega)).trans rfl
 ·have hbw:=h.w (Nat.le_of_lt hi);obtain ⟨h1,h2,h3⟩:=h;have hbn:b.Mems.length=a.Mems.length:=h2.n;unfold b7v;refine a0n (show decide ((i:Int)<((a2e b.Mems).length:Int))=true by simp;omega) ?_;refine a0z (i1h r.Seq k (by omega)) (a0z (i5d r hr k (by omega)) ?_);refine a0z (h1c b i (by omega) (c5a r.Seq) (c8r r) h1 (by omega) (by omega) k (by omega)) ?_;show G ((b6n r b i).stM (W64 ((i:Int)+1)) (a2e (b6n r b i).Mems))=G ((b6n r b i).st (i+1));rw [a1l (by omega)]
 ·have hbw:=h.w (Nat.le_refl _);have hbn:b.Mems.length=a.Mems.length:=h.2.1.n;unfold b7v;refine a0k (show decide ((a.Mems.length:Int)<((a2e b.Mems).length:Int))=false by simp;omega) ?_;exact a0z (i1f b h.1 (by omega) k (by omega)) rfl
theorem e4w {l:List Int} {i:Nat} (h:i<l.length) (n:Int):a0x (eIs l) i 0 [.i n]=eIs (l.set i n):=d8z (fun n=>[.i n]) h 0 [.i n] n rfl
theorem f7l {s:Int} {data:List Int} {a:Arr} {m:Nat} (h:Fz a):Fz (a2s s data a m):=by
 unfold a2s;cases b9w a m s
 ·exact h
 ·exact f1i h
theorem g8i (s:Int) (data:List Int) (a:Arr) (m:Nat):(a2s s data a m).w≤a.w+2:=by
 unfold a2s;cases b9w a m s
 ·exact Nat.le_add_right _ _
 ·exact i0w _ _ _ _
theorem f7m (a:Arr) (s:Int) (data:List Int) (hs:a0s a.G s=true) (hd:(data.length:Int)=a.G.N - 1) (hn:(a.Mems.length:Int)=a.G.N) (hD:a.Down=false) (hF:Fz a) (hw:a.w+a.Mems.length*2≤2147483648) :
  Rn 10 N.j6d [.p a.e,.v [.i s],.v [.r (eIs data)]] ⟨[.b (!(a6k a s data).Down)],[(a6k a s data).e]⟩:=by
 refine Rn.of fun k hk=>?_;have hB:Big=4294967296:=rfl;obtain ⟨hp0,hp1⟩:=c9m hs;obtain ⟨g1,g2,_,_⟩:=a1n (a3q hs).1;rw [e2w];unfold b6w b6v;refine (a0g (by simp;omega) _).trans ?_;refine a0z (f7d a.G s k (by omega)) (a0z (j2e data (by omega) k (by omega)) ?_);refine (a0g (show (decide (0≤a1d a.G s)&&decide (a1d a.G s<((List.replicate a.G.N.toNat ([.i 0]:List T)).length:Int)))=true by simp;omega) _).trans ?_;have e0:a0x (List.replicate a.G.N.toNat ([.i 0]:List T)) (a1d a.G s).toNat 0 [.i (i6r data)]=eIs ((List.range a.G.N.toNat).map (c9s a.G s data 0)):=by
  rw [← h1a hs data,← e4w (by simp;omega),eIs,List.map_replicate]
 show a1i _ k ((0:Int),a0x (List.replicate a.G.N.toNat ([.i 0]:List T)) (a1d a.G s).toNat 0 [.i (i6r data)])=_;rw [e0];refine (a4l (R:=Outs) data.length (fun i=>((i:Int),eIs ((List.range a.G.N.toNat).map (c9s a.G s data i)))) (fun _=>KB (a6k a s data)) (fun i hi G hG=>?_) (fun G=>?_) (by omega)).trans rfl
 ·have hi':(i:Int)<a.G.N - 1:=by omega
  have hwi:a0m (i:Int) 0 (a.G.N - 2)=true:=by unfold a0m;simp;omega
  obtain ⟨b0,b1⟩:=g3g hs hwi;unfold a4e a8v;refine a0n (show decide ((i:Int)<((eIs data).length:Int))=true by simp;omega) ?_;refine (a0g (show (decide (0≤(i:Int))&&decide ((i:Int)<((eIs data).length:Int)))=true by simp;omega) _).trans ?_;refine a0z (h3d a.G s i k (by omega)) ?_;refine (a0g (show (decide (0≤a9x a.G s i)&&decide (a9x a.G s i<((eIs ((List.range a.G.N.toNat).map (c9s a.G s data i))).length:Int)))=true by simp;omega) _).trans ?_;show G (W64 ((i:Int)+1),a0x (eIs ((List.range a.G.N.toNat).map (c9s a.G s data i))) (a9x a.G s i).toNat 0 [.i (at_ (eIs data) i 0).asI])=_;rw [a6i hi,e4w (by simp;omega),h5z hs data i hi',a1l (by omega)];exact hG
 ·unfold a4e a8v;refine a0k (show decide ((data.length:Int)<((eIs data).length:Int))=false by simp) ?_;have hll:((List.range a.G.N.toNat).map (c9s a.G s data data.length)).length=a.Mems.length:=by simp;omega
  refine (h3q (f:=a2s s data) g8d KB (n:=a.Mems.length) (Rnd a 2) (fun i b hi h=>h.next f7l (c8s s data b i) (g8i s data b i)) (fun i b G hi h hbD=>?_) (fun b G h hbD=>?_) (a:=a) (Rnd.first hF) hD (by omega)).trans rfl
  ·have hbw:=h.w (Nat.le_of_lt hi);obtain ⟨h1,h2,h3⟩:=h;have hbn:b.Mems.length=a.Mems.length:=h2.n;have hbg:b.G=a.G:=h2.g;unfold a3h;refine a0n (show decide ((i:Int)<((eIs ((List.range a.G.N.toNat).map (c9s a.G s data data.length))).length:Int))=true by rw [List.length_map,hll];exact dlt hi) ?_;refine (a0g (show (decide (0≤(i:Int))&&decide ((i:Int)<((eIs ((List.range a.G.N.toNat).map (c9s a.G s data data.length))).length:Int)))=true by rw [List.length_map,hll,dlt hi];simp) _).trans ?_;refine a0z (h3b b (by omega) i s k (by omega)) ?_;rcases (Bool.eq_false_or_eq_true (b9w b i s)).symm with hl | hl
   ·rw [show a2s s data b i=b by unfold a2s;rw [hl];rfl];refine a0k hl ?_;show G (b.stM (W64 ((i:Int)+1)) (a2e b.Mems))=bif b.Down then _ else G (b.st (i+1));rw [a1l (by omega),hbD];rfl
   ·have hX:put b i (a9w s) [b9z b.G s data i]=a2s s data b i:=by unfold a2s;rw [hl];rfl
    have hx:(at_ (eIs ((List.range a.G.N.toNat).map (c9s a.G s data data.length))) i 0).asI=b9z b.G s data i:=by
     rw [a6i (by omega),hbg,← h6a hs data hd i (by omega),List.getD_eq_getElem?_getD,List.getElem?_map,List.getElem?_range (by omega)];rfl
    refine a0n hl (a0z (h2z s k (by omega)) ?_);refine a0z ((congrArg (fun x=>a0a E P0 k N.j7g [.p b.e,.v [.i (i:Int)],.v [.i (a9w s)],.v [.r [[.i x]]]]) hx).trans (h1b b i (by omega) (a9w s) [b9z b.G s data i] hbD h1 (by omega) (by show 1≤Big;omega) k (by omega))) ?_;rw [hX];rcases (Bool.eq_false_or_eq_true (a2s s data b i).Down).symm with hd | hd
    ·refine a0k (show (!(!(a2s s data b i).Down))=false by rw [hd];rfl) ?_;show G ((a2s s data b i).stM (W64 ((i:Int)+1)) (a2e (a2s s data b i).Mems))=bif (a2s s data b i).Down then _ else G ((a2s s data b i).st (i+1));rw [a1l (by omega),hd];rfl
    ·refine a0n (show (!(!(a2s s data b i).Down))=true by rw [hd];rfl) ?_;show some (⟨[.b false],[(a2s s data b i).e]⟩:Outs)=bif (a2s s data b i).Down then KB (a2s s data b i) else _;rw [hd];show _=KB (a2s s data b i);unfold KB;rw [hd];rfl
  ·unfold a3h;refine a0k (show decide ((a.Mems.length:Int)<((eIs ((List.range a.G.N.toNat).map (c9s a.G s data data.length))).length:Int))=false by rw [List.length_map,hll];exact dll) ?_;show some (⟨[.b true],[b.e]⟩:Outs)=some ⟨[.b (!b.Down)],[b.e]⟩;rw [show (!b.Down)=true by rw [hbD];rfl]
theorem f7n (a:Arr) (s:Int) (data:List Int) (hs:a0s a.G s=true) (hd:(data.length:Int)=a.G.N - 1) (hn:(a.Mems.length:Int)=a.G.N) (hF:Fz a) (hw:a.w+a.Mems.length*2≤2147483648) :
  Rn 10 N.j6n [.p a.e,.v [.i s],.v [.r (eIs data)]] ⟨[],[(a6k a s data).e]⟩:=by
 refine Rn.of fun k hk=>?_;have hB:Big=4294967296:=rfl;obtain ⟨hp0,hp1⟩:=c9m hs;obtain ⟨g1,g2,_,_⟩:=a1n (a3q hs).1;rw [g1c];unfold d5j b7x;refine a0z (f7e a.G s k (by omega)) ?_;refine (h3p (f:=a2s s data) KU (n:=a.Mems.length) (Rnd a 2) (fun i b hi h=>h.next f7l (c8s s data b i) (g8i s data b i)) (fun i b G hi h=>?_) (fun b G h=>?_) (a:=a) (Rnd.first hF) (by omega)).trans rfl
 ·have hbw:=h.w (Nat.le_of_lt hi);obtain ⟨h1,h2,h3⟩:=h;have hbn:b.Mems.length=a.Mems.length:=h2.n;have hbg:b.G=a.G:=h2.g;have key:∀ x:Int,x=b9z b.G s data i→b5q k s b.Down b.Broken i b.Id b.G.N b.G.S b.Lost b.Built b.Seq b.Tail b.Gen b.Fuse (a2e b.Mems) (a1c b.Dirty) G x=G ((a2s s data b i).st (i+1)):=by
   intro x hx;subst hx;unfold b5q;refine a0z (h3c b (by omega) i s k (by omega)) ?_;rcases (Bool.eq_false_or_eq_true (b9w b i s)).symm with hl | hl
   ·rw [show a2s s data b i=b by unfold a2s;rw [hl];rfl];refine a0k hl ?_;show G (b.stM (W64 ((i:Int)+1)) (a2e b.Mems))=G (b.st (i+1));rw [a1l (by omega)]
   ·have hX:put b i (a9w s) [b9z b.G s data i]=a2s s data b i:=by unfold a2s;rw [hl];rfl
    refine a0n hl (a0z (h3a s k (by omega)) ?_);refine a0z (h1c b i (by omega) (a9w s) [b9z b.G s data i] h1 (by omega) (by show 1≤Big;omega) k (by omega)) ?_;rw [hX];show G ((a2s s data b i).stM (W64 ((i:Int)+1)) (a2e (a2s s data b i).Mems))=G ((a2s s data b i).st (i+1));rw [a1l (by omega)]
  unfold b5r;refine a0n (show decide ((i:Int)<((a2e b.Mems).length:Int))=true by simp;omega) ?_;refine a0z (j2f data (by omega) k (by omega)) ?_;rcases (Bool.eq_false_or_eq_true ((i:Int) == a1d b.G s)).symm with hp | hp
  ·have hp':(i:Int)≠a1d a.G s:=by rw [← hbg];simpa using hp
   obtain ⟨x0,x1⟩:=h6b hs i (by omega) hp';refine a0n (show ((i:Int) != a1d a.G s)=true by simpa using hp') ?_;have hix:Int.tmod (W64 (W64 (W64 ((i:Int) - a1d a.G s) - 1)+b.G.N)) b.G.N=((i:Int) - a1d a.G s - 1+a.G.N) % a.G.N:=by
    rw [hbg,a0e (n:=(i:Int) - a1d a.G s) (by omega) (by omega),a0e (n:=(i:Int) - a1d a.G s - 1) (by omega) (by omega),a0e (by omega) (by omega),Int.tmod_eq_emod_of_nonneg (by omega)]
   refine (a0g (show (!decide (b.G.N=0))=true by rw [hbg];simp;omega) _).trans ?_;refine (a0g (show (decide (0≤Int.tmod (W64 (W64 (W64 ((i:Int) - a1d a.G s) - 1)+b.G.N)) b.G.N)&&decide (Int.tmod (W64 (W64 (W64 ((i:Int) - a1d a.G s) - 1)+b.G.N)) b.G.N<((eIs data).length:Int)))=true by rw [hix,decide_eq_true x0,List.length_map,decide_eq_true (by omega)];rfl) _).trans ?_;refine key _ ?_;show (at_ (eIs data) (Int.tmod (W64 (W64 (W64 ((i:Int) - a1d a.G s) - 1)+b.G.N)) b.G.N).toNat 0).asI=_;rw [hix,a6i (by omega)];unfold b9z;rw [hbg,show ((i:Int) == a1d a.G s)=false by simpa using hp'];rfl
  ·have hp':(i:Int)=a1d a.G s:=by rw [← hbg];simpa using hp
   refine a0k (show ((i:Int) != a1d a.G s)=false by simpa using hp') ?_;refine key _ ?_;unfold b9z;rw [hp];rfl
 ·have hbn:b.Mems.length=a.Mems.length:=h.2.1.n;unfold b5r;exact a0k (show decide ((a.Mems.length:Int)<((a2e b.Mems).length:Int))=false by simp;omega) rfl
theorem e2c {a:Arr} {data:List Int} (ha:a3p a=true) (hdt:a9v a.G data=true):(data.length:Int)=a.G.N - 1∧data.length≤4:=by
 obtain ⟨g1,g2,_,_⟩:=a1n (c5v ha).1;unfold a9v at hdt;have h1:(data.length:Int)=a.G.N - 1:=by simpa using (a0d hdt).1
 exact ⟨h1,by omega⟩
theorem i5e (a:Arr) (s:Int) (data:List Int) (ha:a3p a=true) (hdt:a9v a.G data=true) (hD:a.Down=false) (hs:a0s a.G s=true) (hw:a.w≤1073741824) :
  Rn 12 N.k2z [.p a.e,.v [.i s],.v [.r (eIs data)]] ⟨[.b (!(a2u a s data).Down)],[(a2u a s data).e]⟩:=by
 refine Rn.of fun k hk=>?_;have hB:Big=4294967296:=rfl;obtain ⟨g1,g2,_,_⟩:=a1n (c5v ha).1;obtain ⟨c1,c2,c3,c4,c5,c6,c7,hF,c8,c9⟩:=c9l ha;have hmN:=(c5v ha).2.1;obtain ⟨hdN,hd4⟩:=e2c ha hdt;have hdl:data.length≤Big:=by omega
 rw [d8p];unfold c2w;rw [a0e (n:=a.Seq - a.Tail) (by omega) (by omega)];rcases Bool.eq_false_or_eq_true (decide (a.Seq - a.Tail≥4)) with h4 | h4
 ·refine a0n h4 ?_;have hSB:a2c a=a5k a:=by unfold a2c;exact a0n h4 rfl
  have hBF:=h3m hF;have hBk:=d9e a;have hBw:=h0x a;have hBn:=hBk.n;have hBg:=hBk.g;have hBs:=hBk.seq;refine a0z (i9o a hD hF (by omega) ⟨by omega,by omega⟩ ⟨by omega,by omega⟩ k (by omega)) ?_;rcases (Bool.eq_false_or_eq_true (a5k a).Down).symm with hBD | hBD
  ·refine a0k (show (!(!(a5k a).Down))=false by rw [hBD];rfl) ?_;have hrec:=h3s (a5k a) ⟨(a5k a).Seq,s,data⟩ hdl hBD hBF (by omega) k (by omega);have hk2:=b4r (a5k a) ⟨(a5k a).Seq,s,data⟩;have hfz:=d7d (r:=⟨(a5k a).Seq,s,data⟩) hBF;have hwr:=d7e (a5k a) ⟨(a5k a).Seq,s,data⟩;generalize hC:b6o (a5k a) ⟨(a5k a).Seq,s,data⟩=C at hrec hk2 hfz hwr;have hcn:C.Mems.length=a.Mems.length:=hk2.n.trans hBn;have hcg:C.G=a.G:=hk2.g.trans hBg;have hcs:C.Seq=a.Seq:=hk2.seq.trans hBs;rw [hBn] at hwr;refine a0z (a3m data hdl k (by omega)) (a0z hrec ?_);rcases (Bool.eq_false_or_eq_true C.Down).symm with hr | hr
   ·have hst:a2u a s data=a6k { C with Seq:=C.Seq+1 } s data:=by unfold a2u;rw [hSB,hBD,cond_false,hC];exact a0k hr rfl
    have hw1:W64 (C.Seq+1)=C.Seq+1:=a0e (by omega) (by omega);have hpw:=f7m { C with Seq:=C.Seq+1 } s data (by rw [show ({ C with Seq:=C.Seq+1 }:Arr).G=a.G from hcg];exact hs) (by rw [show ({ C with Seq:=C.Seq+1 }:Arr).G=a.G from hcg];exact hdN) (show (C.Mems.length:Int)=C.G.N by rw [hcn,hcg];exact hmN) hr hfz (show C.w+C.Mems.length*2≤_ by omega) k (by omega);rw [hst];refine a0k (show (!(!C.Down))=false by rw [hr];rfl) ?_;refine a0z ((congrArg (fun q=>a0a E P0 k N.j6d [.p [.i C.Id,.i C.G.N,.i C.G.S,.r (a2e C.Mems),.i C.Lost,.i C.Built,.i q,.i C.Tail,.i C.Gen,.r (a1c C.Dirty),.i C.Fuse,.b C.Down,.b C.Broken],.v [.i s],.v [.r (eIs data)]]) hw1).trans hpw) ?_;rfl
   ·have hst:a2u a s data=C:=by unfold a2u;rw [hSB,hBD,cond_false,hC];exact a0n hr rfl
    rw [hst];refine a0n (show (!(!C.Down))=true by rw [hr];rfl) ?_;show some (⟨[.b false],[C.e]⟩:Outs)=some ⟨[.b (!C.Down)],[C.e]⟩;rw [show (!C.Down)=false by rw [hr];rfl]
  ·have hst:a2u a s data=a5k a:=by unfold a2u;rw [hSB];exact a0n hBD rfl
   rw [hst];refine a0n (show (!(!(a5k a).Down))=true by rw [hBD];rfl) ?_;show some (⟨[.b false],[(a5k a).e]⟩:Outs)=some ⟨[.b (!(a5k a).Down)],[(a5k a).e]⟩;rw [show (!(a5k a).Down)=false by rw [hBD];rfl]
 ·refine a0k h4 ?_;have hSB:a2c a=a:=by unfold a2c;exact a0k h4 rfl
  have hBF:=hF;have hBw:a.w≤a.w:=Nat.le_refl _;have hBn:a.Mems.length=a.Mems.length:=rfl;have hBg:a.G=a.G:=rfl;have hBs:a.Seq=a.Seq:=rfl;have hBD:=hD;have hrec:=h3s a ⟨a.Seq,s,data⟩ hdl hBD hBF (by omega) k (by omega);have hk2:=b4r a ⟨a.Seq,s,data⟩;have hfz:=d7d (r:=⟨a.Seq,s,data⟩) hBF;have hwr:=d7e a ⟨a.Seq,s,data⟩;generalize hC:b6o a ⟨a.Seq,s,data⟩=C at hrec hk2 hfz hwr;have hcn:C.Mems.length=a.Mems.length:=hk2.n.trans hBn;have hcg:C.G=a.G:=hk2.g.trans hBg;have hcs:C.Seq=a.Seq:=hk2.seq.trans hBs;rw [hBn] at hwr;refine a0z (a3m data hdl k (by omega)) (a0z hrec ?_);rcases (Bool.eq_false_or_eq_true C.Down).symm with hr | hr
  ·have hst:a2u a s data=a6k { C with Seq:=C.Seq+1 } s data:=by unfold a2u;rw [hSB,hBD,cond_false,hC];exact a0k hr rfl
   have hw1:W64 (C.Seq+1)=C.Seq+1:=a0e (by omega) (by omega);have hpw:=f7m { C with Seq:=C.Seq+1 } s data (by rw [show ({ C with Seq:=C.Seq+1 }:Arr).G=a.G from hcg];exact hs) (by rw [show ({ C with Seq:=C.Seq+1 }:Arr).G=a.G from hcg];exact hdN) (show (C.Mems.length:Int)=C.G.N by rw [hcn,hcg];exact hmN) hr hfz (show C.w+C.Mems.length*2≤_ by omega) k (by omega);rw [hst];refine a0k (show (!(!C.Down))=false by rw [hr];rfl) ?_;refine a0z ((congrArg (fun q=>a0a E P0 k N.j6d [.p [.i C.Id,.i C.G.N,.i C.G.S,.r (a2e C.Mems),.i C.Lost,.i C.Built,.i q,.i C.Tail,.i C.Gen,.r (a1c C.Dirty),.i C.Fuse,.b C.Down,.b C.Broken],.v [.i s],.v [.r (eIs data)]]) hw1).trans hpw) ?_;rfl
  ·have hst:a2u a s data=C:=by unfold a2u;rw [hSB,hBD,cond_false,hC];exact a0n hr rfl
   rw [hst];refine a0n (show (!(!C.Down))=true by rw [hr];rfl) ?_;show some (⟨[.b false],[C.e]⟩:Outs)=some ⟨[.b (!C.Down)],[C.e]⟩;rw [show (!C.Down)=false by rw [hr];rfl]
theorem i5f (a:Arr) (s:Int) (data:List Int) (ha:a3p a=true) (hdt:a9v a.G data=true) (hD:a.Down=false) (hs:a0s a.G s=true) (hw:a.w≤1073741824) :
  Rn 12 N.j8y [.p a.e,.v [.i s],.v [.r (eIs data)]] ⟨[.i (a5b (a2u a s data))],[(a2u a s data).e]⟩:=by
 refine Rn.of fun k hk=>?_;have hB:Big=4294967296:=rfl;obtain ⟨g1,g2,_,_⟩:=a1n (c5v ha).1;obtain ⟨c1,c2,c3,c4,c5,c6,c7,hF,c8,c9⟩:=c9l ha;have hmN:=(c5v ha).2.1;obtain ⟨hdN,hd4⟩:=e2c ha hdt;have hdl:data.length≤Big:=by omega
 rw [f3y];unfold d0q;rw [a0e (n:=a.Seq - a.Tail) (by omega) (by omega)];rcases Bool.eq_false_or_eq_true (decide (a.Seq - a.Tail≥4)) with h4 | h4
 ·refine a0n h4 ?_;have hSB:a2c a=a5k a:=by unfold a2c;exact a0n h4 rfl
  have hBF:=h3m hF;have hBk:=d9e a;have hBw:=h0x a;have hBn:=hBk.n;have hBg:=hBk.g;have hBs:=hBk.seq;refine a0z (i9p a hF (by omega) ⟨by omega,by omega⟩ ⟨by omega,by omega⟩ k (by omega)) ?_;rcases (Bool.eq_false_or_eq_true (a5k a).Down).symm with hBD | hBD
  ·refine a0k hBD ?_;have hrec:=h3t (a5k a) ⟨(a5k a).Seq,s,data⟩ hdl hBF (by omega) k (by omega);have hk2:=b4r (a5k a) ⟨(a5k a).Seq,s,data⟩;have hfz:=d7d (r:=⟨(a5k a).Seq,s,data⟩) hBF;have hwr:=d7e (a5k a) ⟨(a5k a).Seq,s,data⟩;generalize hC:b6o (a5k a) ⟨(a5k a).Seq,s,data⟩=C at hrec hk2 hfz hwr;have hcn:C.Mems.length=a.Mems.length:=hk2.n.trans hBn;have hcg:C.G=a.G:=hk2.g.trans hBg;have hcs:C.Seq=a.Seq:=hk2.seq.trans hBs;rw [hBn] at hwr;refine (a0g (by simp;omega) _).trans ?_;refine a0z hrec ?_;rcases (Bool.eq_false_or_eq_true C.Down).symm with hr | hr
   ·have hst:a2u a s data=a6k { C with Seq:=C.Seq+1 } s data:=by unfold a2u;rw [hSB,hBD,cond_false,hC];exact a0k hr rfl
    have hw1:W64 (C.Seq+1)=C.Seq+1:=a0e (by omega) (by omega);have hpw:=f7n { C with Seq:=C.Seq+1 } s data (by rw [show ({ C with Seq:=C.Seq+1 }:Arr).G=a.G from hcg];exact hs) (by rw [show ({ C with Seq:=C.Seq+1 }:Arr).G=a.G from hcg];exact hdN) (show (C.Mems.length:Int)=C.G.N by rw [hcn,hcg];exact hmN) hfz (show C.w+C.Mems.length*2≤_ by omega) k (by omega);rw [hst];refine a0k hr ?_;refine a0z ((congrArg (fun q=>a0a E P0 k N.j6n [.p [.i C.Id,.i C.G.N,.i C.G.S,.r (a2e C.Mems),.i C.Lost,.i C.Built,.i q,.i C.Tail,.i C.Gen,.r (a1c C.Dirty),.i C.Fuse,.b C.Down,.b C.Broken],.v [.i s],.v [.r (eIs data)]]) hw1).trans hpw) ?_;unfold a5b;rcases (Bool.eq_false_or_eq_true (a6k { C with Seq:=C.Seq+1 } s data).Down).symm with hq | hq
    ·rw [hq];exact a0k hq rfl
    ·rw [hq];exact a0n hq rfl
   ·have hst:a2u a s data=C:=by unfold a2u;rw [hSB,hBD,cond_false,hC];exact a0n hr rfl
    rw [hst];unfold a5b;rw [hr];exact a0n hr rfl
  ·have hst:a2u a s data=a5k a:=by unfold a2u;rw [hSB];exact a0n hBD rfl
   rw [hst];unfold a5b;rw [hBD];exact a0n hBD rfl
 ·refine a0k h4 ?_;have hSB:a2c a=a:=by unfold a2c;exact a0k h4 rfl
  have hBF:=hF;have hBw:a.w≤a.w:=Nat.le_refl _;have hBn:a.Mems.length=a.Mems.length:=rfl;have hBg:a.G=a.G:=rfl;have hBs:a.Seq=a.Seq:=rfl;have hBD:=hD;refine a0k hD ?_;have hrec:=h3t a ⟨a.Seq,s,data⟩ hdl hBF (by omega) k (by omega);have hk2:=b4r a ⟨a.Seq,s,data⟩;have hfz:=d7d (r:=⟨a.Seq,s,data⟩) hBF;have hwr:=d7e a ⟨a.Seq,s,data⟩;generalize hC:b6o a ⟨a.Seq,s,data⟩=C at hrec hk2 hfz hwr;have hcn:C.Mems.length=a.Mems.length:=hk2.n.trans hBn;have hcg:C.G=a.G:=hk2.g.trans hBg;have hcs:C.Seq=a.Seq:=hk2.seq.trans hBs;rw [hBn] at hwr;refine (a0g (by simp;omega) _).trans ?_;refine a0z hrec ?_;rcases (Bool.eq_false_or_eq_true C.Down).symm with hr | hr
  ·have hst:a2u a s data=a6k { C with Seq:=C.Seq+1 } s data:=by unfold a2u;rw [hSB,hBD,cond_false,hC];exact a0k hr rfl
   have hw1:W64 (C.Seq+1)=C.Seq+1:=a0e (by omega) (by omega);have hpw:=f7n { C with Seq:=C.Seq+1 } s data (by rw [show ({ C with Seq:=C.Seq+1 }:Arr).G=a.G from hcg];exact hs) (by rw [show ({ C with Seq:=C.Seq+1 }:Arr).G=a.G from hcg];exact hdN) (show (C.Mems.length:Int)=C.G.N by rw [hcn,hcg];exact hmN) hfz (show C.w+C.Mems.length*2≤_ by omega) k (by omega);rw [hst];refine a0k hr ?_;refine a0z ((congrArg (fun q=>a0a E P0 k N.j6n [.p [.i C.Id,.i C.G.N,.i C.G.S,.r (a2e C.Mems),.i C.Lost,.i C.Built,.i q,.i C.Tail,.i C.Gen,.r (a1c C.Dirty),.i C.Fuse,.b C.Down,.b C.Broken],.v [.i s],.v [.r (eIs data)]]) hw1).trans hpw) ?_;unfold a5b;rcases (Bool.eq_false_or_eq_true (a6k { C with Seq:=C.Seq+1 } s data).Down).symm with hq | hq
   ·rw [hq];exact a0k hq rfl
   ·rw [hq];exact a0n hq rfl
  ·have hst:a2u a s data=C:=by unfold a2u;rw [hSB,hBD,cond_false,hC];exact a0n hr rfl
   rw [hst];unfold a5b;rw [hr];exact a0n hr rfl
theorem i5g (x:Bool):Rn 1 N.k3a [.v [.b x]] ⟨[.i (bif x then 0 else 6)],[]⟩:=by
 refine Rn.of fun k hk=>?_;rw [g2l];cases x <;> rfl
theorem g3p (a:Arr) (s:Int) (data:List Int) (hw:a.w≤1073741824) (hf:b7k a) (hdl:data.length≤Big) :
  Rn 13 N.j9s [.v a.e,.v [.i s],.v [.r (eIs data)]] ⟨(a1m a s data).1.e++[.i (a1m a s data).2],[]⟩:=by
 refine Rn.of fun k hk=>?_;have hB:Big=4294967296:=rfl;have fail:∀ c:Int,a1r a s data=c→(c == 0)=false→a1m a s data=(a,c):=fun c h1 h2=>by unfold a1m;rw [h1,h2];rfl
 rw [d6g];unfold c0r;refine a0z (d6z a (by omega) k (by omega)) (a0z (f0p a (by omega) hf k (by omega)) ?_);rcases (Bool.eq_false_or_eq_true (a3p a)).symm with ha | ha
 ·rw [fail 1 (by unfold a1r;rw [ha];rfl) rfl];exact a0n (show (!(a3p a))=true by rw [ha];rfl) rfl
 refine a0k (show (!(a3p a))=false by rw [ha];rfl) ?_;refine a0z (h2x a.G (c5v ha).1 data hdl k (by omega)) ?_;unfold b1g;rcases (Bool.eq_false_or_eq_true (a9v a.G data)).symm with hd | hd
 ·rw [fail 1 (by unfold a1r;rw [ha,hd];rfl) rfl];exact a0n (show (!(a9v a.G data))=true by rw [hd];rfl) rfl
 refine a0k (show (!(a9v a.G data))=false by rw [hd];rfl) ?_;rcases Bool.eq_false_or_eq_true a.Down with hD | hD
 ·rw [fail 6 (by unfold a1r;rw [ha,hd,hD];rfl) rfl];exact a0n hD rfl
 refine a0k hD (a0z (b4o a.G s k (by omega)) ?_);rcases (Bool.eq_false_or_eq_true (a0s a.G s)).symm with hs | hs
 ·rw [fail 2 (by unfold a1r;rw [ha,hd,hD,hs];rfl) rfl];exact a0n (show (!(a0s a.G s))=true by rw [hs];rfl) rfl
 refine a0k (show (!(a0s a.G s))=false by rw [hs];rfl) ?_;rcases Bool.eq_false_or_eq_true a.Broken with hb | hb
 ·rw [fail 5 (by unfold a1r;rw [ha,hd,hD,hs,hb];rfl) rfl];exact a0n hb rfl
 refine a0k hb ?_;have full:((a.Seq == 60000) || decide (a.Gen≥59990))=true→a6f k s (eIs data) ⟨a.e,[]⟩ true=some ⟨(a1m a s data).1.e++[.i (a1m a s data).2],[]⟩:=fun h=>by
  rw [fail 7 (by unfold a1r;rw [ha,hd,hD,hs,hb,h];rfl) rfl];rfl
 rcases Bool.eq_false_or_eq_true (a.Seq == 60000) with hq | hq
 ·exact a0n hq (full (by rw [hq];rfl))
 refine a0k hq ?_;rcases Bool.eq_false_or_eq_true (decide (a.Gen≥59990)) with hg | hg
 ·rw [hg];exact full (by rw [hg];simp)
 rw [hg];have h0:a1m a s data=(a2u a s data,a5b (a2u a s data)):=by
  unfold a1m;rw [show a1r a s data=0 by unfold a1r;rw [ha,hd,hD,hs,hb,hq,hg];rfl];rfl
 rw [h0];unfold a6f;refine a0k rfl (a0z (i5e a s data ha hd hD hs hw k (by omega)) (a0z (i5g _ k (by omega)) ?_));unfold a5b;cases (a2u a s data).Down <;> rfl
theorem g8j (a:Arr) (s:Int) (data:List Int) (hw:a.w≤Big) (hf:b7k a) (hdl:data.length≤Big) :
  Rn 8 N.j8u [.v a.e,.v [.i s],.v [.r (eIs data)]] ⟨[.i (a1r a s data)],[]⟩:=by
 refine Rn.of fun k hk=>?_;have hB:Big=4294967296:=rfl;rw [g0t];unfold d5e;refine a0z (g3c a (by omega) hf k (by omega)) ?_;have one:(a3p a&&a9v a.G data)=false→a5h k a.G.S a.Seq a.Gen a.Down a.Broken s true=some ⟨[.i (a1r a s data)],[]⟩:=fun h=>by
  unfold a1r;rw [h];rfl
 rcases (Bool.eq_false_or_eq_true (a3p a)).symm with ha | ha
 ·exact a0n (show (!(a3p a))=true by rw [ha];rfl) (one (by rw [ha];rfl))
 refine a0k (show (!(a3p a))=false by rw [ha];rfl) ?_;obtain ⟨g1,g2,g3,g4⟩:=a1n (c5v ha).1;obtain ⟨c1,c2,c3,c4,c5,c6,c7,hF,c8,c9⟩:=c9l ha;rw [List.length_map,a0e (n:=a.G.N - 1) (by omega) (by omega)];rcases (Bool.eq_false_or_eq_true ((data.length:Int) == a.G.N - 1)).symm with hn | hn
 ·exact a0n (show ((data.length:Int) != a.G.N - 1)=true by unfold bne;rw [hn];rfl) (one (by unfold a9v;rw [hn,ha];rfl))
 refine a0k (show ((data.length:Int) != a.G.N - 1)=false by unfold bne;rw [hn];rfl) ?_;refine a0z (c2z data hdl k (by omega)) ?_;rcases (Bool.eq_false_or_eq_true (b1i data)).symm with ho | ho
 ·show a5h k a.G.S a.Seq a.Gen a.Down a.Broken s (!(b1i data))=_;rw [ho];exact one (by unfold a9v;rw [ho,ha];simp)
 show a5h k a.G.S a.Seq a.Gen a.Down a.Broken s (!(b1i data))=_;have hd:a9v a.G data=true:=by unfold a9v;rw [hn,ho];rfl
 unfold a5h a1r;rw [ho,ha,hd];refine a0k rfl ?_;rcases Bool.eq_false_or_eq_true a.Down with hD | hD
 ·rw [hD];rfl
 refine a0k hD ?_;rw [a0e (n:=a.G.S - 1) (by omega) (by omega)];refine a0z (a1a _ _ _ k (by omega)) ?_;have hst:a0s a.G s=a0m s 0 (a.G.S - 1):=by unfold a0s;rw [(c5v ha).1];rfl
 rw [hst,hD];cases a0m s 0 (a.G.S - 1)
 ·rfl
 refine a0k rfl ?_;rcases Bool.eq_false_or_eq_true a.Broken with hb | hb
 ·rw [hb];rfl
 refine a0k hb ?_;rw [hb];by_cases h6:a.Seq=60000
 ·rw [show decide (a.Seq≥60000)=true from decide_eq_true (by omega),show (a.Seq == 60000)=true by simpa using h6];rfl
 rw [show decide (a.Seq≥60000)=false from decide_eq_false (by omega),show (a.Seq == 60000)=false by simpa using h6];cases decide (a.Gen≥59990) <;> rfl
theorem e4x {a:Arr} {n:Nat} (h:n<a.Dirty.length):(at_ (a1c a.Dirty) n 1).asR=eIs (a.Dirty.getD n default).Data:=by
 rw [a0q _ h,a1w h];rfl
theorem d7i (a:Arr) (s:Int) (hw:a.w≤1073741824) (hf:b7k a) :
  Rn 14 N.j7h [.v a.e,.v [.i s]] ⟨(a0t a s).1.e++[.i (a0t a s).2],[]⟩:=by
 refine Rn.of fun k hk=>?_;have hB:Big=4294967296:=rfl;have hml:=a4o a (by omega);have hc:=d6z a (by omega) k (by omega);have fail:∀ c:Int,a3t a s=c→(c != 0)=true→a0t a s=(a,c):=fun c h1 h2=>by unfold a0t;rw [h1,h2];rfl
 rw [d6h];unfold c0s;refine a0z (f0p a (by omega) hf k (by omega)) ?_;rcases (Bool.eq_false_or_eq_true (a3p a)).symm with ha | ha
 ·rw [fail 1 (by unfold a3t;rw [ha];rfl) rfl];exact a0n (show (!(a3p a))=true by rw [ha];rfl) (a0z hc rfl)
 refine a0k (show (!(a3p a))=false by rw [ha];rfl) ?_;rcases Bool.eq_false_or_eq_true a.Down with hD | hD
 ·rw [fail 6 (by unfold a3t;rw [ha,hD];rfl) rfl];exact a0n hD (a0z hc rfl)
 refine a0k hD (a0z (b4o a.G s k (by omega)) ?_);rcases (Bool.eq_false_or_eq_true (a0s a.G s)).symm with hs | hs
 ·rw [fail 2 (by unfold a3t;rw [ha,hD,hs];rfl) rfl];exact a0n (show (!(a0s a.G s))=true by rw [hs];rfl) (a0z hc rfl)
 refine a0k (show (!(a0s a.G s))=false by rw [hs];rfl) (a0z (i0g a (by omega) s k (by omega)) ?_);have h0:a3t a s=0:=by unfold a3t;rw [ha,hD,hs];rfl
 rcases Bool.eq_false_or_eq_true (decide (a4c a s<0)) with hn | hn
 ·rw [show a0t a s=(a,0) by unfold a0t;rw [h0,hn];rfl];exact a0n hn (a0z hc rfl)
 have hn':=of_decide_eq_false hn;have hix:=d6x (a:=a) (s:=s) (decide_eq_true (by omega));obtain ⟨n,hN⟩:∃ n:Nat,a4c a s=(n:Int):=⟨(a4c a s).toNat,by omega⟩;rw [hN] at hix hn;have hnl:n<a.Dirty.length:=by omega
 have hfs:a0t a s=b3z a n (a1m a s (a.Dirty.getD n default).Data):=by
  unfold a0t;rw [h0,hN,hn];rfl
 rw [hfs,hN];refine a0k hn ?_;refine (a0g (show (decide (0≤(n:Int))&&decide ((n:Int)<((a1c a.Dirty).length:Int)))=true by simp;omega) _).trans ?_;have hdw:=g3h a (by omega) hnl;have hde:=a1w hnl (default:Ent);have hws:=g3p a s (a.Dirty.getD n default).Data hw hf (by rw [hde];omega) k (by omega);obtain ⟨w1,w2⟩:=d7g a s (a.Dirty.getD n default).Data;generalize a1m a s (a.Dirty.getD n default).Data=p at hws w1 w2;refine a0z ((congrArg (fun x=>a0a E P0 k N.j9s [.v a.e,.v [.i s],.v [.r x]]) (e4x hnl)).trans hws) ?_;unfold b3z;have hpl:n<(a1c p.1.Dirty).length:=by rw [List.length_map,w2];exact hnl
 rcases (Bool.eq_false_or_eq_true (p.2 == 0)).symm with hp | hp
 ·rw [hp];exact a0k hp rfl
 ·rw [hp];refine a0n hp ?_;refine (a0g (a8n (l:=(a1c p.1.Dirty).length) hpl (by rw [List.length_map,w2];omega)) _).trans ?_;have hd:=i9g (l:=a1c p.1.Dirty) hpl (by rw [List.length_map,w2];omega);have hz:p.2=0:=by simpa using hp
  show some (⟨[_,_,_,_,_,_,_,_,_,.r ((a1c p.1.Dirty).take (n:Int).toNat++(a1c p.1.Dirty).drop (W64 ((n:Int)+1)).toNat),_,_,_,.i p.2],[]⟩:Outs)=_;rw [hd,hz,show del (a1c p.1.Dirty) n=a1c (del p.1.Dirty n) from (f1d Ent.e p.1.Dirty n).symm];rfl
theorem i9q (a:Arr) (s:Int) (hw:a.w≤1073741824) (hf:b7k a) (h0:(a3t a s != 0)=false) :
  Rn 13 N.j8z [.p a.e,.v [.i s]] ⟨[.i (a0t a s).2],[(a0t a s).1.e]⟩:=by
 refine Rn.of fun k hk=>?_;have hB:Big=4294967296:=rfl;have hml:=a4o a (by omega);rw [f3z];unfold d0r;refine a0z (i0h a (by omega) s k (by omega)) ?_;rcases Bool.eq_false_or_eq_true (decide (a4c a s<0)) with hn | hn
 ·rw [show a0t a s=(a,0) by unfold a0t;rw [h0,hn];rfl];exact a0n hn rfl
 have hn':=of_decide_eq_false hn;have hix:=d6x (a:=a) (s:=s) (decide_eq_true (by omega));obtain ⟨n,hN⟩:∃ n:Nat,a4c a s=(n:Int):=⟨(a4c a s).toNat,by omega⟩;rw [hN] at hix hn;have hnl:n<a.Dirty.length:=by omega
 have hfs:a0t a s=b3z a n (a1m a s (a.Dirty.getD n default).Data):=by
  unfold a0t;rw [h0,hN,hn];rfl
 rw [hfs,hN];refine a0k hn ?_;refine (a0g (show (decide (0≤(n:Int))&&decide ((n:Int)<((a1c a.Dirty).length:Int)))=true by simp;omega) _).trans ?_;have hdw:=g3h a (by omega) hnl;have hde:=a1w hnl (default:Ent);have hdl:(a.Dirty.getD n default).Data.length≤Big:=by rw [hde];omega
 have hcs:=g8j a s (a.Dirty.getD n default).Data (by omega) hf hdl k (by omega);refine a0z ((congrArg (fun x=>a0a E P0 k N.j8u [.v a.e,.v [.i s],.v [.r x]]) (e4x hnl)).trans hcs) ?_;rcases (Bool.eq_false_or_eq_true (a1r a s (a.Dirty.getD n default).Data == 0)).symm with hq | hq
 ·have hq':(a1r a s (a.Dirty.getD n default).Data != 0)=true:=by unfold bne;rw [hq];rfl
  have hws:a1m a s (a.Dirty.getD n default).Data=(a,a1r a s (a.Dirty.getD n default).Data):=by unfold a1m;exact a0k hq rfl
  have hfe:b3z a n (a,a1r a s (a.Dirty.getD n default).Data)=(a,a1r a s (a.Dirty.getD n default).Data):=by unfold b3z;exact a0k hq rfl
  rw [hws,hfe];exact a0n hq' rfl
 ·have hq':(a1r a s (a.Dirty.getD n default).Data != 0)=false:=by unfold bne;rw [hq];rfl
  obtain ⟨t1,t2,t3,t4,t5,t6⟩:=c8t hq;have hws:a1m a s (a.Dirty.getD n default).Data=(a2u a s (a.Dirty.getD n default).Data,a5b (a2u a s (a.Dirty.getD n default).Data)):=by
   unfold a1m;rw [hq];rfl
  rw [hws];refine a0k hq' ?_;refine (a0g (show (decide (0≤(n:Int))&&decide ((n:Int)<((a1c a.Dirty).length:Int)))=true by simp;omega) _).trans ?_;have hst:=i5f a s (a.Dirty.getD n default).Data t1 t2 t3 t4 hw k (by omega);have w2:=(f1l a s (a.Dirty.getD n default).Data).2.1;generalize a2u a s (a.Dirty.getD n default).Data=c at hst w2;refine a0z ((congrArg (fun x=>a0a E P0 k N.j8y [.p a.e,.v [.i s],.v [.r x]]) (e4x hnl)).trans hst) ?_;unfold b3z;have hpl:n<(a1c c.Dirty).length:=by rw [List.length_map,w2];exact hnl
  have hpl4:(a1c c.Dirty).length≤4294967296:=by rw [List.length_map,w2];omega
  rcases (Bool.eq_false_or_eq_true (a5b c == 0)).symm with hp | hp
  ·show _=some (⟨[.i (bif (a5b c == 0) then _ else _:Arr×Int).2],[(bif (a5b c == 0) then _ else _:Arr×Int).1.e]⟩:Outs);rw [hp];exact a0k hp rfl
  ·show _=some (⟨[.i (bif (a5b c == 0) then _ else _:Arr×Int).2],[(bif (a5b c == 0) then _ else _:Arr×Int).1.e]⟩:Outs);rw [hp];refine a0n hp ?_;have hw1:W64 ((n:Int)+1)=(n:Int)+1:=a0e (by omega) (by omega);have hd:=i0q (l:=a1c c.Dirty) hpl hpl4;have hz:a5b c=0:=by simpa using hp
   refine (a0g (show (decide ((0:Int)≤0)&&decide ((0:Int)≤n)&&decide ((n:Int)≤((a1c c.Dirty).length:Int)))=true by simp [w2];omega) _).trans ?_;refine (a0g (show decide ((([]:List (List T)).length+(((a1c c.Dirty).drop (0:Int).toNat).take ((n:Int).toNat - (0:Int).toNat)).length)*32≤140737488355328)=true by simp [w2];omega) _).trans ?_;refine (a0g (show (decide (0≤W64 ((n:Int)+1))&&decide (W64 ((n:Int)+1)≤((a1c c.Dirty).length:Int))&&decide (((a1c c.Dirty).length:Int)≤((a1c c.Dirty).length:Int)))=true by rw [hw1];simp [w2];omega) _).trans ?_;refine (a0g (show decide (((([]:List (List T))++(((a1c c.Dirty).drop (0:Int).toNat).take ((n:Int).toNat - (0:Int).toNat))).length+(((a1c c.Dirty).drop (W64 ((n:Int)+1)).toNat).take (((a1c c.Dirty).length:Int).toNat - (W64 ((n:Int)+1)).toNat)).length)*32≤140737488355328)=true by rw [hw1];simp [w2];omega) _).trans ?_;show some (⟨[.i (a5b c)],[[_,_,_,_,_,_,_,_,_,.r (((a1c c.Dirty).drop (0:Int).toNat).take (n - (0:Int).toNat)++((a1c c.Dirty).drop (W64 ((n:Int)+1)).toNat).take ((a1c c.Dirty).length - (W64 ((n:Int)+1)).toNat)),_,_,_]]⟩:Outs)=_;rw [hd,hz,show del (a1c c.Dirty) n=a1c (del c.Dirty n) from (f1d Ent.e c.Dirty n).symm];rfl
def c8v (a:Arr):Int:=bif !a3p a then 1 else bif a.Down then 6 else 0
theorem i1k (a:Arr) (hw:a.w≤Big) (hf:b7k a):Rn 8 N.k1n [.v a.e] ⟨[.i (c8v a)],[]⟩:=by
 refine Rn.of fun k hk=>?_;rw [g6c];unfold e0r c8v;refine a0z (g3c a hw hf k (by omega)) ?_;cases a3p a
 ·rfl
 ·refine a0k rfl ?_;rcases (Bool.eq_false_or_eq_true a.Down) with hD | hD
  ·rw [hD];rfl
  ·rw [hD];rfl
theorem d7j (a:Arr) (s:Int) (hw:a.w≤1073741824) (hf:b7k a) :
  Rn 14 N.j6x [.v a.e,.v [.i s]] ⟨(a0t a s).1.e++[.i (a0t a s).2],[]⟩:=by
 refine Rn.of fun k hk=>?_;have hB:Big=4294967296:=rfl;have fail:∀ c:Int,a3t a s=c→(c != 0)=true→a0t a s=(a,c):=fun c h1 h2=>by unfold a0t;rw [h1,h2];rfl
 rw [d5k];unfold c0n;refine a0z (f1b a (by omega) k (by omega)) (a0z (i1k a (by omega) hf k (by omega)) ?_);rcases (Bool.eq_false_or_eq_true (a3p a)).symm with ha | ha
 ·rw [fail 1 (by unfold a3t;rw [ha];rfl) rfl,show c8v a=1 by unfold c8v;rw [ha];rfl];rfl
 rcases Bool.eq_false_or_eq_true a.Down with hD | hD
 ·rw [fail 6 (by unfold a3t;rw [ha,hD];rfl) rfl,show c8v a=6 by unfold c8v;rw [ha,hD];rfl];rfl
 rw [show c8v a=0 by unfold c8v;rw [ha,hD];rfl];obtain ⟨g1,g2,g3,g4⟩:=a1n (c5v ha).1;rw [a0e (n:=a.G.S - 1) (by omega) (by omega)];have hst:a0s a.G s=a0m s 0 (a.G.S - 1):=by unfold a0s;rw [(c5v ha).1];rfl
 refine a0n rfl (a0z (a1a _ _ _ k (by omega)) ?_);rcases (Bool.eq_false_or_eq_true (a0m s 0 (a.G.S - 1))).symm with hs | hs
 ·rw [fail 2 (by unfold a3t;rw [ha,hD,hst,hs];rfl) rfl];exact a0n (show (!(a0m s 0 (a.G.S - 1)))=true by rw [hs];rfl) rfl
 refine a0k (show (!(a0m s 0 (a.G.S - 1)))=false by rw [hs];rfl) ?_;unfold b1f;refine a0k rfl ?_;exact a0z (i9q a s hw hf (by unfold a3t;rw [ha,hD,hst,hs];rfl) k (by omega)) rfl
theorem i1l (s:Int):∀ (l:List Ent) (i:Nat),i<e4u s l→(l.getD i default).Stripe<s
 | [],i,h=>by simp [e4u] at h
 | x :: l,i,h=>by
  unfold e4u at h;cases hd:decide (x.Stripe<s)
  ·rw [hd] at h;simp at h
  ·rw [hd] at h;cases i with
   | zero=>exact of_decide_eq_true hd
   | succ i=>simpa using i1l s l i (by simpa using h)
theorem i1m (s:Int):∀ l:List Ent,e4u s l<l.length→¬ (l.getD (e4u s l) default).Stripe<s
 | x :: l,h=>by
  have e1:e4u s (x :: l)=bif decide (x.Stripe<s) then e4u s l+1 else 0:=rfl;cases hd:decide (x.Stripe<s)
  ·rw [hd] at e1;rw [e1];exact of_decide_eq_false hd
  ·rw [hd] at e1;rw [e1] at h ⊢;simpa using i1m s l (by simpa using h)
theorem c9n (a:Arr) (b n:Int) (hw:a.w≤1073741824) (hf:b7k a) :
  Rn 12 N.j5q [.v a.e,.v [.i b],.v [.i n]] ⟨(a0u a b n).1.e++[.i (a0u a b n).2],[]⟩:=by
 refine Rn.of fun k hk=>?_;have hB:Big=4294967296:=rfl;have hml:=a4o a (by omega);rw [e9d];unfold c7p b3j;refine a0z (d6z a (by omega) k (by omega)) (a0z (f0u a (by omega) hf b k (by omega)) ?_);have J2:∀ c:Int,b1k a b n=c→b0m k a.Id a.G.N a.G.S (a2e a.Mems) a.Lost a.Built a.Seq a.Tail a.Gen (a1c a.Dirty) a.Fuse a.Down a.Broken b n ⟨a.e,[]⟩ (fun y0 y1 y2 v=>a1i (a3o k y0 y1 y2) k v) c=some ⟨(a0u a b n).1.e++[.i (a0u a b n).2],[]⟩:=by
  intro c hc;unfold b0m;rcases Bool.eq_false_or_eq_true (c != 0) with h0 | h0
  ·rw [show a0u a b n=(a,c) by unfold a0u;rw [hc];exact a0n h0 rfl];exact a0n h0 rfl
  refine a0k h0 ?_;have hsc:=f1n (a:=a) (b:=b) (n:=n) (by rw [hc];exact h0);obtain ⟨ha,hD,hb⟩:=d2r hsc.1;refine a0z (c9g a.G b k (by omega)) (a0z (g7v a (by omega) hf ha _ (c9j hb) k (by omega)) ?_);rcases (Bool.eq_false_or_eq_true (a2y a (a0o a.G b)).2).symm with hd | hd
  ·rw [show a0u a b n=(a,5) by unfold a0u;rw [hc,h0,hd];rfl];exact a0n (show (!(a2y a (a0o a.G b)).2)=true by rw [hd];rfl) rfl
  have hsb:a0u a b n=({ a with Dirty:=a7k a.Dirty (c8u a b n) },0):=by unfold a0u;rw [hc,h0,hd];rfl
  refine a0k (show (!(a2y a (a0o a.G b)).2)=false by rw [hd];rfl) (a0z (g7t a.G b k (by omega)) ?_);obtain ⟨x0,x1⟩:=g3i ha hb hd;refine (a0g (show (decide (0≤a9i a.G b)&&decide (a9i a.G b<((eIs (a2y a (a0o a.G b)).1).length:Int)))=true by rw [List.length_map];simp;omega) _).trans ?_;have hpi:a0x (eIs (a2y a (a0o a.G b)).1) (a9i a.G b).toNat 0 [.i n]=eIs (c8u a b n).Data:=e4w (by omega) n;have hss:(c8u a b n).Stripe=a0o a.G b:=rfl;generalize c8u a b n=e at hsb hpi hss;rw [hsb];show a1i (a3o k ⟨a.e,[]⟩ ⟨[.i (a0o a.G b)],[]⟩ (a0x (eIs (a2y a (a0o a.G b)).1) (a9i a.G b).toNat 0 [.i n])) k ((0:Nat):Int)=_;rw [hpi,← hss];have hle:=i0z e.Stripe a.Dirty;refine (a4l (R:=Outs) (e4u e.Stripe a.Dirty) (fun i=>(i:Int)) (fun _=>some ⟨({ a with Dirty:=a7k a.Dirty e }:Arr).e++[.i 0],[]⟩) (fun i hi G hG=>?_) (fun G=>?_) (by omega)).trans rfl
  ·have hlt:=i1l e.Stripe a.Dirty i hi;unfold a3o;refine a0n (show decide ((i:Int)<((a1c a.Dirty).length:Int))=true by rw [List.length_map];exact dlt (by omega)) ?_;refine (a0g (show (decide (0≤(i:Int))&&decide ((i:Int)<((a1c a.Dirty).length:Int)))=true by rw [List.length_map,dlt (by omega)];simp) _).trans ?_;unfold a6p;refine a0n (show decide ((at_ (a1c a.Dirty) i 0).asI<e.Stripe)=true by rw [f0o (by omega)];exact decide_eq_true hlt) ?_;show G (W64 ((i:Int)+1))=_;rw [a1l (by omega)];exact hG
  ·generalize hix:e4u e.Stripe a.Dirty=i at hle;have ins:(∀ h:i<a.Dirty.length,a.Dirty[i].Stripe≠e.Stripe)→a4u k ⟨a.e,[]⟩ ⟨[.i e.Stripe],[]⟩ (eIs e.Data) (i:Int) false=some ⟨({ a with Dirty:=a7k a.Dirty e }:Arr).e++[.i 0],[]⟩:=by
    intro hne;unfold a4u;refine a0k rfl ?_;refine (a0g (show (decide (0≤(i:Int))&&decide ((i:Int)≤((a1c a.Dirty).length:Int)))=true by rw [List.length_map];simp;omega) _).trans ?_;refine (a0g (show decide (((a1c a.Dirty).length+([[.i e.Stripe,.r (eIs e.Data)]]:List (List T)).length)*32≤140737488355328)=true by simp;omega) _).trans ?_;have hp:=f7j a.Dirty e (by rw [hix];exact hne);rw [hix] at hp;have he:(a1c a.Dirty).take i++[e.e]++(a1c a.Dirty).drop i=a1c (a7k a.Dirty e):=by
     rw [hp];simp [List.map_take,List.map_drop]
    show some (⟨[_,_,_,_,_,_,_,_,_,.r ((a1c a.Dirty).take i++[e.e]++(a1c a.Dirty).drop i),_,_,_,.i 0],[]⟩:Outs)=_;rw [he];rfl
   unfold a3o;by_cases hil:i<a.Dirty.length
   ·have hge:=i1m e.Stripe a.Dirty (by rw [hix];exact hil);rw [hix] at hge;have hat:=f0o (l:=a.Dirty) hil;refine a0n (show decide ((i:Int)<((a1c a.Dirty).length:Int))=true by rw [List.length_map];exact dlt hil) ?_;refine (a0g (show (decide (0≤(i:Int))&&decide ((i:Int)<((a1c a.Dirty).length:Int)))=true by rw [List.length_map,dlt hil];simp) _).trans ?_;unfold a6p;refine a0k (show decide ((at_ (a1c a.Dirty) i 0).asI<e.Stripe)=false by rw [hat];exact decide_eq_false hge) ?_;refine a0n (show decide ((i:Int)<((a1c a.Dirty).length:Int))=true by rw [List.length_map];exact dlt hil) ?_;refine (a0g (show (decide (0≤(i:Int))&&decide ((i:Int)<((a1c a.Dirty).length:Int)))=true by rw [List.length_map,dlt hil];simp) _).trans ?_;show a4u k ⟨a.e,[]⟩ ⟨[.i e.Stripe],[]⟩ (eIs e.Data) (i:Int) ((at_ (a1c a.Dirty) i 0).asI == e.Stripe)=_;rw [hat];rcases (Bool.eq_false_or_eq_true ((a.Dirty.getD i default).Stripe == e.Stripe)).symm with he | he
    ·rw [he];exact ins fun h=>by rw [← a1w h default];simpa using he
    ·rw [he];have hse:a.Dirty[i].Stripe=e.Stripe:=by rw [← a1w hil default];simpa using he
     unfold a4u;refine a0n rfl ?_;refine (a0g (show (decide (0≤(i:Int))&&decide ((i:Int)<((a1c a.Dirty).length:Int)))=true by rw [List.length_map,dlt hil];simp) _).trans ?_;have hp:=f7i a.Dirty e (by rw [hix];exact hil) (by simp only [hix];exact hse);rw [hix] at hp;have hpm:a0x (a1c a.Dirty) i 1 [.r (eIs e.Data)]=a1c (a.Dirty.set i e):=d8z Ent.e hil 1 [.r (eIs e.Data)] e (by rw [show a.Dirty[i].e=[.i a.Dirty[i].Stripe,.r (eIs a.Dirty[i].Data)] from rfl,hse];rfl);show some (⟨[_,_,_,_,_,_,_,_,_,.r (a0x (a1c a.Dirty) i 1 [.r (eIs e.Data)]),_,_,_,.i 0],[]⟩:Outs)=_;rw [hpm,← hp];rfl
   ·have hil':i=a.Dirty.length:=by omega
    refine a0k (show decide ((i:Int)<((a1c a.Dirty).length:Int))=false by rw [List.length_map];exact decide_eq_false (by omega)) ?_;unfold a6p;refine a0k rfl ?_;refine a0k (show decide ((i:Int)<((a1c a.Dirty).length:Int))=false by rw [List.length_map];exact decide_eq_false (by omega)) ?_;exact ins fun h=>absurd h hil
 have J1:∀ c:Bool,b1k a b n=(bif c then 3 else a2f a b)→b0n k a.Id a.G.N a.G.S (a2e a.Mems) a.Lost a.Built a.Seq a.Tail a.Gen (a1c a.Dirty) a.Fuse a.Down a.Broken b n ⟨a.e,[]⟩ ⟨[.i (a2f a b)],[]⟩ (fun y0 y1 y2 v=>a1i (a3o k y0 y1 y2) k v) c=some ⟨(a0u a b n).1.e++[.i (a0u a b n).2],[]⟩:=by
  intro c hc;unfold b0n;cases c
  ·exact a0k rfl (J2 _ hc)
  ·exact a0n rfl (J2 _ hc)
 rcases (Bool.eq_false_or_eq_true (a2f a b == 0)).symm with h0 | h0
 ·refine a0k h0 (J1 false ?_);unfold b1k;rw [h0];rfl
 ·refine a0n h0 (a0z (h2s n k (by omega)) (J1 (!(c2y n)) ?_));unfold b1k;rw [h0];rfl
theorem i5h {a:Arr} (h:c8m a=true):i6s a.Dirty:=by
 refine i1d fun i hi=>?_;have h1:=c9h.1 h (i+1) hi;unfold h0j at h1;simp only [Bool.and_eq_true] at h1;have h2:=h1.1.2;unfold h0g at h2;simpa using h2
theorem i5i (e:Ent) (p:List Ent×Bool) (x:Ent):(g8o e p x).1.length≤p.1.length+2:=by
 unfold g8o;cases (!p.2&&decide (x.Stripe≥e.Stripe)) <;> cases (x.Stripe != e.Stripe) <;> simp
def h6k (e:Ent) (l:List Ent) (i:Nat):List Ent×Bool:=(l.take i).foldl (g8o e) ([],false)
theorem g8k (e:Ent) (l:List Ent) {i:Nat} (h:i<l.length):h6k e l (i+1)=g8o e (h6k e l i) l[i]:=by
 unfold h6k;rw [List.take_add_one,List.getElem?_eq_getElem h,Option.toList_some,List.foldl_append];rfl
theorem g3q (e:Ent) (l:List Ent):∀ i,i≤l.length→(h6k e l i).1.length≤2*i
 | 0,_=>by simp [h6k]
 | i+1,h=>by
  rw [g8k e l (by omega)];have h1:=i5i e (h6k e l i) l[i];have h2:=g3q e l i (by omega);omega
theorem j4g (a:Arr) (e:Ent) (hw:a.w≤1073741824) (hu:i6s a.Dirty):Rn 2 N.j9a [.p a.e,.v e.e] ⟨[],[({ a with Dirty:=a7k a.Dirty e }:Arr).e]⟩:=by
 refine Rn.of fun k hk=>?_;have hB:Big=4294967296:=rfl;have hml:=a4o a (by omega);have hdl:a.Dirty.length≤1073741824:=by
  have h1:=a1o Ent.w a.Dirty;have e0:a.w=wL Dsk.w a.Mems+wL Ent.w a.Dirty:=rfl;omega
 rw [g6h];unfold e0w c6x;refine (a4l (R:=Outs) a.Dirty.length (fun i=>((h6k e a.Dirty i).2,(i:Int),a1c (h6k e a.Dirty i).1)) (fun _=>some ⟨[],[({ a with Dirty:=a7k a.Dirty e }:Arr).e]⟩) (fun i hi G hG=>?_) (fun G=>?_) (by omega)).trans rfl
 ·have hn:=g8k e a.Dirty hi;have hl:=g3q e a.Dirty i (by omega);have hat:=f0o (l:=a.Dirty) hi;rw [a1w hi] at hat;have hdat:=e4x (a:=a) hi;rw [a1w hi] at hdat;rw [hn] at hG;generalize hp:h6k e a.Dirty i=p at hG hl;obtain ⟨o,d⟩:=p;have hcell:([.i (at_ (a1c a.Dirty) i 0).asI,.r (at_ (a1c a.Dirty) i 1).asR]:List T)=a.Dirty[i].e:=by rw [hat,hdat]
  have key:∀ c:Bool,c=(!d&&decide (a.Dirty[i].Stripe≥e.Stripe))→b7y k (a1c a.Dirty) e.Stripe (eIs e.Data) d (i:Int) (a1c o) G c=some ⟨[],[({ a with Dirty:=a7k a.Dirty e }:Arr).e]⟩:=by
   intro c hc;unfold b7y;have hbe:((at_ (a1c a.Dirty) i 0).asI != e.Stripe)=(a.Dirty[i].Stripe != e.Stripe):=by rw [hat]
   have hapE:a1c (o++[e])=a1c o++[e.e]:=by rw [a1c,List.map_append];rfl
   have hapX:∀ z:List Ent,a1c (z++[a.Dirty[i]])=a1c z++[a.Dirty[i].e]:=fun z=>by rw [a1c,List.map_append];rfl
   unfold g8o at hG;simp only at hl;cases c
   ·rw [← hc] at hG;refine a0k rfl ?_;refine (a0g (show (decide (0≤(i:Int))&&decide ((i:Int)<((a1c a.Dirty).length:Int)))=true by rw [List.length_map,dlt hi];simp) _).trans ?_;rcases (Bool.eq_false_or_eq_true (a.Dirty[i].Stripe != e.Stripe)).symm with hx | hx
    ·rw [hx] at hG;refine a0k (hbe.trans hx) ?_;rw [a1l (by omega)];exact hG
    ·rw [hx] at hG;refine a0n (hbe.trans hx) ?_;refine (a0g (show (decide (0≤(i:Int))&&decide ((i:Int)<((a1c a.Dirty).length:Int)))=true by rw [List.length_map,dlt hi];simp) _).trans ?_;refine (a0g (by simp;omega) _).trans ?_;show G (d,W64 ((i:Int)+1),a1c o++[([.i (at_ (a1c a.Dirty) i 0).asI,.r (at_ (a1c a.Dirty) i 1).asR]:List T)])=_;rw [a1l (by omega),hcell,← hapX];exact hG
   ·rw [← hc] at hG;refine a0n rfl ?_;refine (a0g (by simp;omega) _).trans ?_;refine (a0g (show (decide (0≤(i:Int))&&decide ((i:Int)<((a1c a.Dirty).length:Int)))=true by rw [List.length_map,dlt hi];simp) _).trans ?_;rcases (Bool.eq_false_or_eq_true (a.Dirty[i].Stripe != e.Stripe)).symm with hx | hx
    ·rw [hx] at hG;refine a0k (hbe.trans hx) ?_;show G (true,W64 ((i:Int)+1),a1c o++[e.e])=_;rw [a1l (by omega),← hapE];exact hG
    ·rw [hx] at hG;refine a0n (hbe.trans hx) ?_;refine (a0g (show (decide (0≤(i:Int))&&decide ((i:Int)<((a1c a.Dirty).length:Int)))=true by rw [List.length_map,dlt hi];simp) _).trans ?_;refine (a0g (by simp;omega) _).trans ?_;show G (true,W64 ((i:Int)+1),(a1c o++[e.e])++[([.i (at_ (a1c a.Dirty) i 0).asI,.r (at_ (a1c a.Dirty) i 1).asR]:List T)])=_;rw [a1l (by omega),hcell,← hapE,← hapX];exact hG
  unfold b7z;refine a0n (show decide ((i:Int)<((a1c a.Dirty).length:Int))=true by rw [List.length_map];exact dlt hi) ?_;cases d
  ·refine a0n rfl ((a0g (show (decide (0≤(i:Int))&&decide ((i:Int)<((a1c a.Dirty).length:Int)))=true by rw [List.length_map,dlt hi];simp) _).trans ?_);refine key _ ?_;show decide ((at_ (a1c a.Dirty) i 0).asI≥e.Stripe)=_;rw [hat];rfl
  ·exact a0k rfl (key false rfl)
 ·have hfin:=i1c e a.Dirty [] hu;have hpp:h6k e a.Dirty a.Dirty.length=a.Dirty.foldl (g8o e) ([],false):=by unfold h6k;rw [List.take_length]
  have hl:=g3q e a.Dirty a.Dirty.length (Nat.le_refl _);rw [← hpp] at hfin;generalize h6k e a.Dirty a.Dirty.length=p at hfin hl;obtain ⟨o,d⟩:=p;unfold b7z;refine a0k (show decide ((a.Dirty.length:Int)<((a1c a.Dirty).length:Int))=false by rw [List.length_map];exact dll) ?_;rw [List.nil_append] at hfin;simp only at hl;cases d
  ·have hE:o++[e]=a7k a.Dirty e:=hfin;refine a0n rfl ((a0g (by simp;omega) _).trans ?_);show some (⟨[],[[_,_,_,_,_,_,_,_,_,.r (a1c o++[e.e]),_,_,_]]⟩:Outs)=_;rw [show a1c o++[e.e]=a1c (o++[e]) by rw [a1c,a1c,List.map_append];rfl,hE]
  ·have hE:o=a7k a.Dirty e:=hfin;refine a0k rfl ?_;rw [hE]
theorem j4h (a:Arr) (b n:Int) (hw:a.w≤1073741824) (hf:b7k a) (h0:(b1k a b n != 0)=false) :
  Rn 11 N.j9b [.p a.e,.v [.i b],.v [.i n]] ⟨[.i (a0u a b n).2],[(a0u a b n).1.e]⟩:=by
 refine Rn.of fun k hk=>?_;have hB:Big=4294967296:=rfl;rw [g6i];unfold e0x;have hsc:=f1n h0;obtain ⟨ha,hD,hb⟩:=d2r hsc.1;refine a0z (c3a a.G b k (by omega)) (a0z (g7w a (by omega) ha _ (c9j hb) k (by omega)) ?_);rcases (Bool.eq_false_or_eq_true (a2y a (a0o a.G b)).2).symm with hd | hd
 ·rw [show a0u a b n=(a,5) by unfold a0u;rw [h0,hd];rfl];exact a0n (show (!(a2y a (a0o a.G b)).2)=true by rw [hd];rfl) rfl
 rw [show a0u a b n=({ a with Dirty:=a7k a.Dirty (c8u a b n) },0) by unfold a0u;rw [h0,hd];rfl];refine a0k (show (!(a2y a (a0o a.G b)).2)=false by rw [hd];rfl) (a0z (g7u a.G b k (by omega)) ?_);obtain ⟨x0,x1⟩:=g3i ha hb hd;refine (a0g (show (decide (0≤a9i a.G b)&&decide (a9i a.G b<((eIs (a2y a (a0o a.G b)).1).length:Int)))=true by rw [List.length_map];simp;omega) _).trans ?_;have hpi:a0x (eIs (a2y a (a0o a.G b)).1) (a9i a.G b).toNat 0 [.i n]=eIs (c8u a b n).Data:=e4w (by omega) n;exact a0z ((congrArg (fun x=>a0a E P0 k N.j9a [.p a.e,.v [.i (a0o a.G b),.r x]]) hpi).trans (j4g a (c8u a b n) hw (i5h (c5v ha).2.2) k (by omega))) rfl
theorem d9f (a:Arr) (b n:Int) (hw:a.w≤1073741824) (hf:b7k a) :
  Rn 12 N.j5u [.v a.e,.v [.i b],.v [.i n]] ⟨(a0u a b n).1.e++[.i (a0u a b n).2],[]⟩:=by
 refine Rn.of fun k hk=>?_;have hB:Big=4294967296:=rfl;have fail:∀ c:Int,b1k a b n=c→(c != 0)=true→a0u a b n=(a,c):=fun c h1 h2=>by unfold a0u;rw [h1,h2];rfl
 rw [e8d];unfold c6y;refine a0z (f1b a (by omega) k (by omega)) (a0z (f0v a (by omega) hf b k (by omega)) ?_);rcases (Bool.eq_false_or_eq_true (a2f a b == 0)).symm with h0 | h0
 ·have h0':(a2f a b != 0)=true:=by unfold bne;rw [h0];rfl
  rw [fail (a2f a b) (by unfold b1k;rw [h0];rfl) h0'];exact a0k h0 (a0n h0' rfl)
 ·have hz:a2f a b=0:=by simpa using h0
  refine a0n h0 (a0z (h2t n k (by omega)) ?_);rcases (Bool.eq_false_or_eq_true (c2y n)).symm with hn | hn
  ·rw [fail 3 (by unfold b1k;rw [h0,hn];rfl) rfl];exact a0n (show (!(c2y n))=true by rw [hn];rfl) rfl
  ·refine a0k (show (!(c2y n))=false by rw [hn];rfl) ?_;unfold b6t;refine a0k (show (a2f a b != 0)=false by rw [hz];rfl) ?_;exact a0z (j4h a b n hw hf (by unfold b1k;rw [hz,hn];rfl) k (by omega)) rfl
abbrev LJ (l:List Job) (n:Nat) (c:Cmd) (t:Int) (g:List Int) (d:Int):List (List T):=a0p (l.set n ⟨c,t,g,d⟩)
theorem c9t {l:List Job} {n:Nat} (hn:n<l.length) (c:Cmd) (t:Int) (g:List Int) (d:Int) (i:Nat):at_ (LJ l n c t g d) n i=(⟨c,t,g,d⟩:Job).e.getD i (.i 0):=by
 rw [a0q _ (by simpa using hn),List.getElem_set_self]
theorem i1n {l:List Job} {n:Nat} (hn:n<l.length) (c:Cmd) (t:Int) (g:List Int) (d:Int) (i:Nat) (ts:List T) (c':Cmd) (t':Int) (g':List Int) (d':Int) (h:a1g (⟨c,t,g,d⟩:Job).e i ts=(⟨c',t',g',d'⟩:Job).e):a0x (LJ l n c t g d) n i ts=LJ l n c' t' g' d':=by
 have:=d8z Job.e (l:=l.set n ⟨c,t,g,d⟩) (i:=n) (by simpa using hn) i ts ⟨c',t',g',d'⟩ (by rw [List.getElem_set_self];exact h);rw [List.set_set] at this;exact this
theorem h1d {l:List Job} {n:Nat} (hn:n<l.length) (j:Job):del (l.set n j) n=del l n:=by
 unfold del;rw [List.take_set_of_le (Nat.le_refl _),List.drop_set_of_lt (by omega)]
theorem c2e {l:List Job} {n:Nat} (hn:n<l.length) (hl:l.length≤4294967296) (c:Cmd) (t:Int) (g:List Int) (d:Int) :
  (LJ l n c t g d).take n++(LJ l n c t g d).drop (W64 ((n:Int)+1)).toNat=a0p (del l n):=by
 have h:=i9g (l:=LJ l n c t g d) (n:=n) (by simpa using hn) (by simpa using hl);rw [Int.toNat_natCast] at h;rw [h,← h1d hn ⟨c,t,g,d⟩];exact (f1d Job.e _ n).symm
theorem c2f {l:List Job} {n:Nat} (hn:n<l.length) (hl:l.length≤4294967296) (c:Cmd) (t:Int) (g:List Int) (d:Int) :
  ((LJ l n c t g d).drop (0:Int).toNat).take (n - (0:Int).toNat)++((LJ l n c t g d).drop (W64 ((n:Int)+1)).toNat).take (l.length - (W64 ((n:Int)+1)).toNat)=a0p (del l n):=by
 have e:l.length=(LJ l n c t g d).length:=by simp
 rw [e];have h:=i0q (l:=LJ l n c t g d) (n:=n) (by simpa using hn) (by simpa using hl);rw [h,← h1d hn ⟨c,t,g,d⟩];exact (f1d Job.e _ n).symm
theorem c2g {l:List Job} {n:Nat} (c:Cmd) (t:Int) (g:List Int) (d:Int):(LJ l n c t g d).length=l.length:=by simp
theorem j2i {l:List Job} {n:Nat} (hn:n<l.length):a0p l=LJ l n l[n].C l[n].At l[n].Got l[n].Code:=by
 show _=a0p (l.set n l[n]);rw [List.set_getElem_self]
theorem d2s {l:List Job} {n:Nat} (hn:n<l.length) (c:Cmd) (t:Int) (g:List Int) (d:Int):a0x (LJ l n c t g d) n 4 [.r (eIs c.Vals)]=LJ l n c t g d:=i1n hn c t g d 4 _ c t g d rfl
theorem d2t {l:List Job} {n:Nat} (hn:n<l.length) (c:Cmd) (t:Int) (g:List Int) (d v:Int):a0x (LJ l n c t g d) n 5 [.i v]=LJ l n c v g d:=i1n hn c t g d 5 _ c v g d rfl
theorem d2u {l:List Job} {n:Nat} (hn:n<l.length) (c:Cmd) (t:Int) (g:List Int) (d:Int) (v:List Int):a0x (LJ l n c t g d) n 6 [.r (eIs v)]=LJ l n c t v d:=i1n hn c t g d 6 _ c t v d rfl
theorem d2v {l:List Job} {n:Nat} (hn:n<l.length) (c:Cmd) (t:Int) (g:List Int) (d v:Int):a0x (LJ l n c t g d) n 7 [.i v]=LJ l n c t g v:=i1n hn c t g d 7 _ c t g v rfl
theorem d2w {l:List Job} {n:Nat} (hn:n<l.length) (c:Cmd) (t:Int) (g:List Int) (d t':Int) (g':List Int) (d':Int):a0x (LJ l n c t g d) n 0 [.i c.Op,.i c.Id,.i c.Lba,.i c.N,.r (eIs c.Vals),.i t',.r (eIs g'),.i d']=LJ l n c t' g' d':=i1n hn c t g d 0 _ c t' g' d' rfl
theorem b7d {l:List Job} {n:Nat} (hn:n<l.length) {c:Cmd} {t:Int} {g:List Int} {d:Int} (hj:l[n]=⟨c,t,g,d⟩):a0p l=LJ l n c t g d:=by have:=j2i hn;rw [hj] at this;exact this
theorem c9o (l:List Ans) (a:Ans):a9h (l++[a])=a9h l++[a.e]:=by rw [a9h,a9h,List.map_append];rfl
theorem d2x {x:Eng} {n:Nat} (hn:n<x.Jobs.length) (hx:x.w≤1073741824) {c:Cmd} {t:Int} {g:List Int} {d:Int} (hj:x.Jobs[n]=⟨c,t,g,d⟩):c.w≤Big∧g.length≤Big:=by
 have hJ:=a1v Job.w hn;rw [hj] at hJ;have hB:Big=4294967296:=rfl;have e0:x.w=x.A.w+wL Cmd.w x.Wait+wL Job.w x.Jobs+wL Ans.w x.Done+wL Turn.w x.Log:=rfl;have e1:(⟨c,t,g,d⟩:Job).w=c.w+g.length:=rfl;omega
theorem g3r {x:Eng} (hx:x.w≤1073741824) {b:Arr} (hb:b.w≤1073741824) (n:Nat):({ x with A:=b,Jobs:=del x.Jobs n }:Eng).w≤2147483648:=by
 have h1:=i0p Job.w x.Jobs n;have e0:x.w=x.A.w+wL Cmd.w x.Wait+wL Job.w x.Jobs+wL Ans.w x.Done+wL Turn.w x.Log:=rfl;show b.w+wL Cmd.w x.Wait+wL Job.w (del x.Jobs n)+wL Ans.w x.Done+wL Turn.w x.Log≤_;omega
theorem i9r (x:Eng):x.A.w≤x.w:=by
 have e0:x.w=x.A.w+wL Cmd.w x.Wait+wL Job.w x.Jobs+wL Ans.w x.Done+wL Turn.w x.Log:=rfl;omega
theorem c3d (l:List Turn) (a:Turn):a3b (l++[a])=a3b l++[a.e]:=by rw [a3b,a3b,List.map_append];rfl
theorem f5q (x:Eng) (b:Arr) (e:Int) {n:Nat} (hn:n<x.Jobs.length) (hx:x.w≤1073741824) (hb:b.w≤1073741824) {cmd:Cmd} {t:Int} {g:List Int} {d:Int} (hj:x.Jobs[n]=⟨cmd,t,g,d⟩) (ht:0≤t∧t≤40) (k:Nat) (hk:Big+4≤k) :
  c0t k (n:Int) ⟨x.e,[]⟩ ⟨b.e++[.i e],[]⟩ false=some ⟨(answer { x with A:=b,Jobs:=del x.Jobs n } cmd ⟨cmd.Id,e,[]⟩).e++[.b true],[]⟩:=by
 have hB:Big=4294967296:=rfl;obtain ⟨l1,l2,l3,l4,hA⟩:=a2l x (show x.w≤Big by omega);obtain ⟨hcw,hgw⟩:=d2x hn hx hj;have hL:=b7d hn hj;have ha:=b6d { x with A:=b,Jobs:=del x.Jobs n } cmd ⟨cmd.Id,e,[]⟩ (g3r hx hb n) hcw (Nat.zero_le _) k (by omega);unfold c0t;simp only [a1b,a2m,a2n,a2o,a2b,a2p,a2q,a2r,a3d,a1t,a3j,a0i,a1h,a0w,a1z,a2a,Outs.k6e,Eng.e,Arr.e,Geo.e,Job.e,List.cons_append,List.nil_append,List.append_assoc,B2_,T.k6f,T.k6g,T.k6i,Int.toNat_natCast,hL,c9t hn,d2s hn,d2t hn,d2u hn,d2v hn,d2w hn,c2e hn l2,c2f hn l2,c2g] at ha ⊢;refine (a0g (a8n hn (by omega)) _).trans ((a0g (by rw [a0e (by omega) (by omega)];simp;omega) _).trans ?_);exact a0z ha rfl
theorem f5r (x:Eng) (b:Arr) (e:Int) {n:Nat} (hn:n<x.Jobs.length) (hx:x.w≤1073741824) (hb:b.w≤1073741824) {cmd:Cmd} {t:Int} {g:List Int} {d:Int} (hj:x.Jobs[n]=⟨cmd,t,g,d⟩) (ht:0≤t∧t≤40) (k:Nat) (hk:Big+4≤k) :
  c0u k (n:Int) ⟨x.e,[]⟩ ⟨b.e++[.i e],[]⟩ false=some ⟨(answer { x with A:=b,Jobs:=del x.Jobs n } cmd ⟨cmd.Id,e,[]⟩).e++[.b true],[]⟩:=by
 have hB:Big=4294967296:=rfl;obtain ⟨l1,l2,l3,l4,hA⟩:=a2l x (show x.w≤Big by omega);obtain ⟨hcw,hgw⟩:=d2x hn hx hj;have hL:=b7d hn hj;have ha:=b6d { x with A:=b,Jobs:=del x.Jobs n } cmd ⟨cmd.Id,e,[]⟩ (g3r hx hb n) hcw (Nat.zero_le _) k (by omega);unfold c0u;simp only [a1b,a2m,a2n,a2o,a2b,a2p,a2q,a2r,a3d,a1t,a3j,a0i,a1h,a0w,a1z,a2a,Outs.k6e,Eng.e,Arr.e,Geo.e,Job.e,List.cons_append,List.nil_append,List.append_assoc,B2_,T.k6f,T.k6g,T.k6i,Int.toNat_natCast,hL,c9t hn,d2s hn,d2t hn,d2u hn,d2v hn,d2w hn,c2e hn l2,c2f hn l2,c2g] at ha ⊢;refine (a0g (a8n hn (by omega)) _).trans ((a0g (by rw [a0e (by omega) (by omega)];simp;omega) _).trans ?_);exact a0z ha rfl
theorem f5s (x:Eng) (b:Arr) (e:Int) {n:Nat} (hn:n<x.Jobs.length) (hx:x.w≤1073741824) (hb:b.w≤1073741824) {cmd:Cmd} {t:Int} {g:List Int} {d:Int} (hj:x.Jobs[n]=⟨cmd,t,g,d⟩) (ht:0≤t∧t≤40) (k:Nat) (hk:Big+4≤k) :
  c0v k (n:Int) ⟨x.e,[]⟩ ⟨b.e++[.i e],[]⟩ false=some ⟨(answer { x with A:=b,Jobs:=del x.Jobs n } cmd ⟨cmd.Id,e,[]⟩).e++[.b true],[]⟩:=by
 have hB:Big=4294967296:=rfl;obtain ⟨l1,l2,l3,l4,hA⟩:=a2l x (show x.w≤Big by omega);obtain ⟨hcw,hgw⟩:=d2x hn hx hj;have hL:=b7d hn hj;have ha:=b6d { x with A:=b,Jobs:=del x.Jobs n } cmd ⟨cmd.Id,e,[]⟩ (g3r hx hb n) hcw (Nat.zero_le _) k (by omega);unfold c0v;simp only [a1b,a2m,a2n,a2o,a2b,a2p,a2q,a2r,a3d,a1t,a3j,a0i,a1h,a0w,a1z,a2a,Outs.k6e,Eng.e,Arr.e,Geo.e,Job.e,List.cons_append,List.nil_append,List.append_assoc,B2_,T.k6f,T.k6g,T.k6i,Int.toNat_natCast,hL,c9t hn,d2s hn,d2t hn,d2u hn,d2v hn,d2w hn,c2e hn l2,c2f hn l2,c2g] at ha ⊢;refine (a0g (a8n hn (by omega)) _).trans ((a0g (by rw [a0e (by omega) (by omega)];simp;omega) _).trans ?_);exact a0z ha rfl
theorem f5t (x:Eng) (b:Arr) (e:Int) {n:Nat} (hn:n<x.Jobs.length) (hx:x.w≤1073741824) (hb:b.w≤1073741824) {cmd:Cmd} {t:Int} {g:List Int} {d:Int} (hj:x.Jobs[n]=⟨cmd,t,g,d⟩) (ht:0≤t∧t≤40) (k:Nat) (hk:Big+4≤k) :
  c0w k (n:Int) ⟨x.e,[]⟩ ⟨b.e++[.i e],[]⟩ false=some ⟨(answer { x with A:=b,Jobs:=del x.Jobs n } cmd ⟨cmd.Id,e,[]⟩).e++[.b true],[]⟩:=by
 have hB:Big=4294967296:=rfl;obtain ⟨l1,l2,l3,l4,hA⟩:=a2l x (show x.w≤Big by omega);obtain ⟨hcw,hgw⟩:=d2x hn hx hj;have hL:=b7d hn hj;have ha:=b6d { x with A:=b,Jobs:=del x.Jobs n } cmd ⟨cmd.Id,e,[]⟩ (g3r hx hb n) hcw (Nat.zero_le _) k (by omega);unfold c0w;simp only [a1b,a2m,a2n,a2o,a2b,a2p,a2q,a2r,a3d,a1t,a3j,a0i,a1h,a0w,a1z,a2a,Outs.k6e,Eng.e,Arr.e,Geo.e,Job.e,List.cons_append,List.nil_append,List.append_assoc,B2_,T.k6f,T.k6g,T.k6i,Int.toNat_natCast,hL,c9t hn,d2s hn,d2t hn,d2u hn,d2v hn,d2w hn,c2e hn l2,c2f hn l2,c2g] at ha ⊢;refine (a0g (a8n hn (by omega)) _).trans ((a0g (by rw [a0e (by omega) (by omega)];simp;omega) _).trans ?_);exact a0z ha rfl
theorem f5u (x:Eng) (b:Arr) (e:Int) {n:Nat} (hn:n<x.Jobs.length) (hx:x.w≤1073741824) (hb:b.w≤1073741824) {cmd:Cmd} {t:Int} {g:List Int} {d:Int} (hj:x.Jobs[n]=⟨cmd,t,g,d⟩) (ht:0≤t∧t≤40) (k:Nat) (hk:Big+4≤k) :
  c0x k (n:Int) ⟨x.e,[]⟩ ⟨b.e++[.i e],[]⟩ false=some ⟨(answer { x with A:=b,Jobs:=del x.Jobs n } cmd ⟨cmd.Id,e,[]⟩).e++[.b true],[]⟩:=by
 have hB:Big=4294967296:=rfl;obtain ⟨l1,l2,l3,l4,hA⟩:=a2l x (show x.w≤Big by omega);obtain ⟨hcw,hgw⟩:=d2x hn hx hj;have hL:=b7d hn hj;have ha:=b6d { x with A:=b,Jobs:=del x.Jobs n } cmd ⟨cmd.Id,e,[]⟩ (g3r hx hb n) hcw (Nat.zero_le _) k (by omega);unfold c0x;simp only [a1b,a2m,a2n,a2o,a2b,a2p,a2q,a2r,a3d,a1t,a3j,a0i,a1h,a0w,a1z,a2a,Outs.k6e,Eng.e,Arr.e,Geo.e,Job.e,List.cons_append,List.nil_append,List.append_assoc,B2_,T.k6f,T.k6g,T.k6i,Int.toNat_natCast,hL,c9t hn,d2s hn,d2t hn,d2u hn,d2v hn,d2w hn,c2e hn l2,c2f hn l2,c2g] at ha ⊢;refine (a0g (a8n hn (by omega)) _).trans ((a0g (by rw [a0e (by omega) (by omega)];simp;omega) _).trans ?_);exact a0z ha rfl
theorem f1p (x:Eng) (b:Arr) (e:Int) {n:Nat} (hn:n<x.Jobs.length) (hx:x.w≤1073741824) (hb:b.w≤1073741824) {cmd:Cmd} {t:Int} {g:List Int} {d:Int} (hj:x.Jobs[n]=⟨cmd,t,g,d⟩) (ht:0≤t∧t≤40) (k:Nat) (hk:Big+4≤k) :
  b8n k (n:Int) ⟨x.e,[]⟩ ⟨b.e++[.i e],[]⟩ false=some ⟨(answer { x with A:=b,Jobs:=del x.Jobs n } cmd ⟨cmd.Id,e,[]⟩).e++[.b true],[]⟩:=by
 have hB:Big=4294967296:=rfl;obtain ⟨l1,l2,l3,l4,hA⟩:=a2l x (show x.w≤Big by omega);obtain ⟨hcw,hgw⟩:=d2x hn hx hj;have hL:=b7d hn hj;have ha:=b6d { x with A:=b,Jobs:=del x.Jobs n } cmd ⟨cmd.Id,e,[]⟩ (g3r hx hb n) hcw (Nat.zero_le _) k (by omega);unfold b8n;simp only [a1b,a2m,a2n,a2o,a2b,a2p,a2q,a2r,a3d,a1t,a3j,a0i,a1h,a0w,a1z,a2a,Outs.k6e,Eng.e,Arr.e,Geo.e,Job.e,List.cons_append,List.nil_append,List.append_assoc,B2_,T.k6f,T.k6g,T.k6i,Int.toNat_natCast,hL,c9t hn,d2s hn,d2t hn,d2u hn,d2v hn,d2w hn,c2e hn l2,c2f hn l2,c2g] at ha ⊢;refine (a0g (a8n hn (by omega)) _).trans ((a0g (by rw [a0e (by omega) (by omega)];simp;omega) _).trans ?_);exact a0z ha rfl
theorem f5v (x:Eng) (b:Arr) (e:Int) (g':List Int) {n:Nat} (hn:n<x.Jobs.length) (hx:x.w≤1073741824) (hb:b.w≤1073741824) {cmd:Cmd} {t:Int} {g:List Int} {d:Int} (hj:x.Jobs[n]=⟨cmd,t,g,d⟩) (ht:0≤t∧t≤40) (k:Nat) (hk:Big+4≤k) :
  b6i k (n:Int) (LJ x.Jobs n cmd t g' e) ⟨x.e,[]⟩ false=some ⟨(answer { x with Jobs:=del x.Jobs n } cmd ⟨cmd.Id,e,[]⟩).e++[.b true],[]⟩:=by
 have hB:Big=4294967296:=rfl;obtain ⟨l1,l2,l3,l4,hA⟩:=a2l x (show x.w≤Big by omega);obtain ⟨hcw,hgw⟩:=d2x hn hx hj;have hL:=b7d hn hj;have hw1:W64 (t+1)=t+1:=a0e (by omega) (by omega);have ha:=b6d { x with Jobs:=del x.Jobs n } cmd ⟨cmd.Id,e,[]⟩ (g3r hx (Nat.le_trans (i9r x) hx) n) hcw (Nat.zero_le _) k (by omega);unfold b6i;simp only [a1b,a2m,a2n,a2o,a2b,a2p,a2q,a2r,a3d,a1t,a3j,a0i,a1h,a0w,a1z,a2a,Outs.k6e,Eng.e,Arr.e,Geo.e,Job.e,List.cons_append,List.nil_append,List.append_assoc,B2_,T.k6f,T.k6g,T.k6i,Int.toNat_natCast,hL,c9t hn,d2s hn,d2t hn,d2u hn,d2v hn,d2w hn,c2e hn l2,c2f hn l2,c2g] at ha ⊢;refine (a0g (a8n hn (by omega)) _).trans ((a0g (by rw [a0e (by omega) (by omega)];simp;omega) _).trans ?_);exact a0z ha rfl
theorem e4c (x:Eng) (b:Arr) (e:Int) {n:Nat} (hn:n<x.Jobs.length) (hx:x.w≤1073741824) (hb:b.w≤1073741824) {cmd:Cmd} {t:Int} {g:List Int} {d:Int} (hj:x.Jobs[n]=⟨cmd,t,g,d⟩) (ht:0≤t∧t≤40) (k:Nat) (hk:Big+4≤k) :
  a6g k (n:Int) ⟨x.e,[]⟩ false=some ⟨(answer { x with Jobs:=del x.Jobs n } cmd ⟨cmd.Id,d,[]⟩).e++[.b true],[]⟩:=by
 have hB:Big=4294967296:=rfl;obtain ⟨l1,l2,l3,l4,hA⟩:=a2l x (show x.w≤Big by omega);obtain ⟨hcw,hgw⟩:=d2x hn hx hj;have hL:=b7d hn hj;have ha:=b6d { x with Jobs:=del x.Jobs n } cmd ⟨cmd.Id,d,[]⟩ (g3r hx (Nat.le_trans (i9r x) hx) n) hcw (by first | exact hgw | exact Nat.zero_le _) k (by omega)
 unfold a6g;simp only [a1b,a2m,a2n,a2o,a2b,a2p,a2q,a2r,a3d,a1t,a3j,a0i,a1h,a0w,a1z,a2a,Outs.k6e,Eng.e,Arr.e,Geo.e,Job.e,List.cons_append,List.nil_append,List.append_assoc,B2_,T.k6f,T.k6g,T.k6i,Int.toNat_natCast,hL,c9t hn,d2s hn,d2t hn,d2u hn,d2v hn,d2w hn,c2e hn l2,c2f hn l2,c2g] at ha ⊢;refine (a0g (Nat.beq_refl _) _).trans ?_;refine (a0g (a8n hn (by omega)) _).trans ((a0g (by rw [a0e (by omega) (by omega)];simp;omega) _).trans ?_);exact a0z ha rfl
theorem e4d (x:Eng) (b:Arr) (e:Int) {n:Nat} (hn:n<x.Jobs.length) (hx:x.w≤1073741824) (hb:b.w≤1073741824) {cmd:Cmd} {t:Int} {g:List Int} {d:Int} (hj:x.Jobs[n]=⟨cmd,t,g,d⟩) (ht:0≤t∧t≤40) (k:Nat) (hk:Big+4≤k) :
  a6g k (n:Int) ⟨x.e,[]⟩ true=some ⟨(answer { x with Jobs:=del x.Jobs n } cmd ⟨cmd.Id,d,g⟩).e++[.b true],[]⟩:=by
 have hB:Big=4294967296:=rfl;obtain ⟨l1,l2,l3,l4,hA⟩:=a2l x (show x.w≤Big by omega);obtain ⟨hcw,hgw⟩:=d2x hn hx hj;have hL:=b7d hn hj;have ha:=b6d { x with Jobs:=del x.Jobs n } cmd ⟨cmd.Id,d,g⟩ (g3r hx (Nat.le_trans (i9r x) hx) n) hcw (by first | exact hgw | exact Nat.zero_le _) k (by omega)
 unfold a6g;simp only [a1b,a2m,a2n,a2o,a2b,a2p,a2q,a2r,a3d,a1t,a3j,a0i,a1h,a0w,a1z,a2a,Outs.k6e,Eng.e,Arr.e,Geo.e,Job.e,List.cons_append,List.nil_append,List.append_assoc,B2_,T.k6f,T.k6g,T.k6i,Int.toNat_natCast,hL,c9t hn,d2s hn,d2t hn,d2u hn,d2v hn,d2w hn,c2e hn l2,c2f hn l2,c2g] at ha ⊢;refine a0z (a3m g hgw k (by omega)) ?_;refine (a0g (a8n hn (by omega)) _).trans ((a0g (by rw [a0e (by omega) (by omega)];simp;omega) _).trans ?_);exact a0z ha rfl
theorem f5w (x:Eng) (b:Arr) (e:Int) {n:Nat} (hn:n<x.Jobs.length) (hx:x.w≤1073741824) (hb:b.w≤1073741824) {cmd:Cmd} {t:Int} {g:List Int} {d:Int} (hj:x.Jobs[n]=⟨cmd,t,g,d⟩) (ht:0≤t∧t≤40) (k:Nat) (hk:Big+4≤k) :
  b6g k (n:Int) ⟨x.e,[]⟩ e false=some ⟨(answer { x with A:=x.A,Jobs:=del x.Jobs n } cmd ⟨cmd.Id,e,[]⟩).e++[.b true],[]⟩:=by
 have hB:Big=4294967296:=rfl;obtain ⟨l1,l2,l3,l4,hA⟩:=a2l x (show x.w≤Big by omega);obtain ⟨hcw,hgw⟩:=d2x hn hx hj;have hL:=b7d hn hj;have hw1:W64 ((n:Int)+1)=(n:Int)+1:=a0e (by omega) (by omega);have ha:=b3x ⟨cmd.Id,e,[]⟩ (by first | exact hgw | exact Nat.zero_le _) k (by omega)
 unfold b6g;simp only [a1s,a2h,a2i,a2j,a2k,a0j,a0l,a0r,a0v,Outs.k6e,Eng.e,Arr.e,Geo.e,Job.e,List.cons_append,List.nil_append,B2_,T.k6f,T.k6g,T.k6i,Int.toNat_natCast,hL,c9t hn,d2s hn,d2t hn,d2u hn,d2v hn,d2w hn,c2e hn l2,c2f hn l2,c2g] at ha ⊢;refine (a0g (by simp;omega) _).trans ?_;refine (a0g (by simp;omega) _).trans ?_;refine (a0g (by rw [hw1];simp;omega) _).trans ?_;refine (a0g (by rw [hw1];simp;omega) _).trans ?_;refine a0z ha ?_;refine (a0g (by simp;omega) _).trans ?_;refine (a0g (by simp;omega) _).trans ?_;unfold b6f;simp only [a1s,a2h,a2i,a2j,a2k,a0j,a0l,a0r,a0v,Outs.k6e,Eng.e,Arr.e,Geo.e,Job.e,List.cons_append,List.nil_append,B2_,T.k6f,T.k6g,T.k6i,Int.toNat_natCast,hL,c9t hn,d2s hn,d2t hn,d2u hn,d2v hn,d2w hn,c2e hn l2,c2f hn l2,c2g,answer,c9o,c3d] <;> rfl
theorem f5x (x:Eng) (b:Arr) (e:Int) {n:Nat} (hn:n<x.Jobs.length) (hx:x.w≤1073741824) (hb:b.w≤1073741824) {cmd:Cmd} {t:Int} {g:List Int} {d:Int} (hj:x.Jobs[n]=⟨cmd,t,g,d⟩) (ht:0≤t∧t≤40) (k:Nat) (hk:Big+4≤k) :
  c0p k (n:Int) ⟨x.e,[]⟩ ⟨b.e++[.i e],[]⟩ false=some ⟨(answer { x with A:=b,Jobs:=del x.Jobs n } cmd ⟨cmd.Id,e,[]⟩).e++[.b true],[]⟩:=by
 have hB:Big=4294967296:=rfl;obtain ⟨l1,l2,l3,l4,hA⟩:=a2l x (show x.w≤Big by omega);obtain ⟨hcw,hgw⟩:=d2x hn hx hj;have hL:=b7d hn hj;have hw1:W64 ((n:Int)+1)=(n:Int)+1:=a0e (by omega) (by omega);have ha:=b3x ⟨cmd.Id,e,[]⟩ (by first | exact hgw | exact Nat.zero_le _) k (by omega)
 unfold c0p;simp only [a1s,a2h,a2i,a2j,a2k,a0j,a0l,a0r,a0v,Outs.k6e,Eng.e,Arr.e,Geo.e,Job.e,List.cons_append,List.nil_append,B2_,T.k6f,T.k6g,T.k6i,Int.toNat_natCast,hL,c9t hn,d2s hn,d2t hn,d2u hn,d2v hn,d2w hn,c2e hn l2,c2f hn l2,c2g] at ha ⊢;refine (a0g (by simp;omega) _).trans ?_;refine (a0g (by simp;omega) _).trans ?_;refine (a0g (by rw [hw1];simp;omega) _).trans ?_;refine (a0g (by rw [hw1];simp;omega) _).trans ?_;refine a0z ha ?_;refine (a0g (by simp;omega) _).trans ?_;refine (a0g (by simp;omega) _).trans ?_;unfold c6z;simp only [a1s,a2h,a2i,a2j,a2k,a0j,a0l,a0r,a0v,Outs.k6e,Eng.e,Arr.e,Geo.e,Job.e,List.cons_append,List.nil_append,B2_,T.k6f,T.k6g,T.k6i,Int.toNat_natCast,hL,c9t hn,d2s hn,d2t hn,d2u hn,d2v hn,d2w hn,c2e hn l2,c2f hn l2,c2g,answer,c9o,c3d] <;> rfl
theorem f1q (x:Eng) (b:Arr) (e:Int) {n:Nat} (hn:n<x.Jobs.length) (hx:x.w≤1073741824) (hb:b.w≤1073741824) {cmd:Cmd} {t:Int} {g:List Int} {d:Int} (hj:x.Jobs[n]=⟨cmd,t,g,d⟩) (ht:0≤t∧t≤40) (k:Nat) (hk:Big+4≤k) :
  b8a k (n:Int) ⟨x.e,[]⟩ ⟨b.e++[.i e],[]⟩ false=some ⟨(answer { x with A:=b,Jobs:=del x.Jobs n } cmd ⟨cmd.Id,e,[]⟩).e++[.b true],[]⟩:=by
 have hB:Big=4294967296:=rfl;obtain ⟨l1,l2,l3,l4,hA⟩:=a2l x (show x.w≤Big by omega);obtain ⟨hcw,hgw⟩:=d2x hn hx hj;have hL:=b7d hn hj;have hw1:W64 ((n:Int)+1)=(n:Int)+1:=a0e (by omega) (by omega);have ha:=b3x ⟨cmd.Id,e,[]⟩ (by first | exact hgw | exact Nat.zero_le _) k (by omega)
 unfold b8a;simp only [a1s,a2h,a2i,a2j,a2k,a0j,a0l,a0r,a0v,Outs.k6e,Eng.e,Arr.e,Geo.e,Job.e,List.cons_append,List.nil_append,B2_,T.k6f,T.k6g,T.k6i,Int.toNat_natCast,hL,c9t hn,d2s hn,d2t hn,d2u hn,d2v hn,d2w hn,c2e hn l2,c2f hn l2,c2g] at ha ⊢;refine (a0g (by simp;omega) _).trans ?_;refine (a0g (by simp;omega) _).trans ?_;refine (a0g (by rw [hw1];simp;omega) _).trans ?_;refine (a0g (by rw [hw1];simp;omega) _).trans ?_;refine a0z ha ?_;refine (a0g (by simp;omega) _).trans ?_;refine (a0g (by simp;omega) _).trans ?_;unfold c4g;simp only [a1s,a2h,a2i,a2j,a2k,a0j,a0l,a0r,a0v,Outs.k6e,Eng.e,Arr.e,Geo.e,Job.e,List.cons_append,List.nil_append,B2_,T.k6f,T.k6g,T.k6i,Int.toNat_natCast,hL,c9t hn,d2s hn,d2t hn,d2u hn,d2v hn,d2w hn,c2e hn l2,c2f hn l2,c2g,answer,c9o,c3d] <;> rfl
theorem f1r (x:Eng) (b:Arr) (e:Int) {n:Nat} (hn:n<x.Jobs.length) (hx:x.w≤1073741824) (hb:b.w≤1073741824) {cmd:Cmd} {t:Int} {g:List Int} {d:Int} (hj:x.Jobs[n]=⟨cmd,t,g,d⟩) (ht:0≤t∧t≤40) (k:Nat) (hk:Big+4≤k) :
  b2r k (n:Int) b.Down b.Broken (a2e b.Mems) (a1c b.Dirty) ⟨x.e,[]⟩ b.Id b.G.N b.G.S b.Lost b.Built b.Seq b.Tail b.Gen b.Fuse e false=some ⟨(answer { x with A:=b,Jobs:=del x.Jobs n } cmd ⟨cmd.Id,e,[]⟩).e++[.b true],[]⟩:=by
 have hB:Big=4294967296:=rfl;obtain ⟨l1,l2,l3,l4,hA⟩:=a2l x (show x.w≤Big by omega);obtain ⟨hcw,hgw⟩:=d2x hn hx hj;have hL:=b7d hn hj;have hw1:W64 ((n:Int)+1)=(n:Int)+1:=a0e (by omega) (by omega);have ha:=b3x ⟨cmd.Id,e,[]⟩ (by first | exact hgw | exact Nat.zero_le _) k (by omega)
 unfold b2r;simp only [a1s,a2h,a2i,a2j,a2k,a0j,a0l,a0r,a0v,Outs.k6e,Eng.e,Arr.e,Geo.e,Job.e,List.cons_append,List.nil_append,B2_,T.k6f,T.k6g,T.k6i,Int.toNat_natCast,hL,c9t hn,d2s hn,d2t hn,d2u hn,d2v hn,d2w hn,c2e hn l2,c2f hn l2,c2g] at ha ⊢;refine (a0g (by simp;omega) _).trans ?_;refine (a0g (by simp;omega) _).trans ?_;refine (a0g (by rw [hw1];simp;omega) _).trans ?_;refine (a0g (by rw [hw1];simp;omega) _).trans ?_;refine a0z ha ?_;refine (a0g (by simp;omega) _).trans ?_;refine (a0g (by simp;omega) _).trans ?_;unfold c4f;simp only [a1s,a2h,a2i,a2j,a2k,a0j,a0l,a0r,a0v,Outs.k6e,Eng.e,Arr.e,Geo.e,Job.e,List.cons_append,List.nil_append,B2_,T.k6f,T.k6g,T.k6i,Int.toNat_natCast,hL,c9t hn,d2s hn,d2t hn,d2u hn,d2v hn,d2w hn,c2e hn l2,c2f hn l2,c2g,answer,c9o,c3d] <;> rfl
theorem e4e (x:Eng) (b:Arr) (e:Int) {n:Nat} (hn:n<x.Jobs.length) (hx:x.w≤1073741824) (hb:b.w≤1073741824) {cmd:Cmd} {t:Int} {g:List Int} {d:Int} (hj:x.Jobs[n]=⟨cmd,t,g,d⟩) (ht:0≤t∧t≤40) (k:Nat) (hk:Big+4≤k) :
  a6d k (n:Int) ⟨x.e,[]⟩ false=some ⟨(answer { x with A:=x.A,Jobs:=del x.Jobs n } cmd ⟨cmd.Id,d,[]⟩).e++[.b true],[]⟩:=by
 have hB:Big=4294967296:=rfl;obtain ⟨l1,l2,l3,l4,hA⟩:=a2l x (show x.w≤Big by omega);obtain ⟨hcw,hgw⟩:=d2x hn hx hj;have hL:=b7d hn hj;have hw1:W64 ((n:Int)+1)=(n:Int)+1:=a0e (by omega) (by omega);have ha:=b3x ⟨cmd.Id,d,[]⟩ (by first | exact hgw | exact Nat.zero_le _) k (by omega)
 unfold a6d;simp only [a1s,a2h,a2i,a2j,a2k,a0j,a0l,a0r,a0v,Outs.k6e,Eng.e,Arr.e,Geo.e,Job.e,List.cons_append,List.nil_append,B2_,T.k6f,T.k6g,T.k6i,Int.toNat_natCast,hL,c9t hn,d2s hn,d2t hn,d2u hn,d2v hn,d2w hn,c2e hn l2,c2f hn l2,c2g] at ha ⊢;refine (a0g (Nat.beq_refl _) _).trans ?_;refine (a0g (by simp;omega) _).trans ?_;refine (a0g (by simp;omega) _).trans ?_;refine (a0g (by rw [hw1];simp;omega) _).trans ?_;refine (a0g (by rw [hw1];simp;omega) _).trans ?_;refine a0z ha ?_;refine (a0g (by simp;omega) _).trans ?_;refine (a0g (by simp;omega) _).trans ?_;unfold b8b;simp only [a1s,a2h,a2i,a2j,a2k,a0j,a0l,a0r,a0v,Outs.k6e,Eng.e,Arr.e,Geo.e,Job.e,List.cons_append,List.nil_append,B2_,T.k6f,T.k6g,T.k6i,Int.toNat_natCast,hL,c9t hn,d2s hn,d2t hn,d2u hn,d2v hn,d2w hn,c2e hn l2,c2f hn l2,c2g,answer,c9o,c3d] <;> rfl
theorem e4f (x:Eng) (b:Arr) (e:Int) {n:Nat} (hn:n<x.Jobs.length) (hx:x.w≤1073741824) (hb:b.w≤1073741824) {cmd:Cmd} {t:Int} {g:List Int} {d:Int} (hj:x.Jobs[n]=⟨cmd,t,g,d⟩) (ht:0≤t∧t≤40) (k:Nat) (hk:Big+4≤k) :
  a6d k (n:Int) ⟨x.e,[]⟩ true=some ⟨(answer { x with A:=x.A,Jobs:=del x.Jobs n } cmd ⟨cmd.Id,d,g⟩).e++[.b true],[]⟩:=by
 have hB:Big=4294967296:=rfl;obtain ⟨l1,l2,l3,l4,hA⟩:=a2l x (show x.w≤Big by omega);obtain ⟨hcw,hgw⟩:=d2x hn hx hj;have hL:=b7d hn hj;have hw1:W64 ((n:Int)+1)=(n:Int)+1:=a0e (by omega) (by omega);have ha:=b3x ⟨cmd.Id,d,g⟩ (by first | exact hgw | exact Nat.zero_le _) k (by omega)
 unfold a6d;simp only [a1s,a2h,a2i,a2j,a2k,a0j,a0l,a0r,a0v,Outs.k6e,Eng.e,Arr.e,Geo.e,Job.e,List.cons_append,List.nil_append,B2_,T.k6f,T.k6g,T.k6i,Int.toNat_natCast,hL,c9t hn,d2s hn,d2t hn,d2u hn,d2v hn,d2w hn,c2e hn l2,c2f hn l2,c2g] at ha ⊢;refine (a0g (Nat.beq_refl _) _).trans ?_;refine (a0g (by simp;omega) _).trans ?_;refine (a0g (by simp;omega) _).trans ?_;refine (a0g (by rw [hw1];simp;omega) _).trans ?_;refine (a0g (by rw [hw1];simp;omega) _).trans ?_;refine a0z ha ?_;refine (a0g (by simp;omega) _).trans ?_;refine (a0g (by simp;omega) _).trans ?_;unfold b8b;simp only [a1s,a2h,a2i,a2j,a2k,a0j,a0l,a0r,a0v,Outs.k6e,Eng.e,Arr.e,Geo.e,Job.e,List.cons_append,List.nil_append,B2_,T.k6f,T.k6g,T.k6i,Int.toNat_natCast,hL,c9t hn,d2s hn,d2t hn,d2u hn,d2v hn,d2w hn,c2e hn l2,c2f hn l2,c2g,answer,c9o,c3d] <;> rfl
theorem b1c {x:Eng} {n:Nat} {j:Job} {p:Arr×List Int×Int} (h:(p.2.2 == 0)=true):b6p x n j p={ x with A:=p.1,Jobs:=x.Jobs.set n (b7c j p) }:=by
 unfold b6p;rw [h];rfl
theorem b4c {x:Eng} {n:Nat} (hn:n<x.Jobs.length) {j:Job} {p:Arr×List Int×Int} (h:(p.2.2 == 0)=false):b6p x n j p=answer { x with A:=p.1,Jobs:=del x.Jobs n } j.C ⟨j.C.Id,p.2.2,[]⟩:=by
 unfold b6p a7l;rw [h];show answer { x with A:=p.1,Jobs:=del (x.Jobs.set n (b7c j p)) n } j.C ⟨j.C.Id,p.2.2,bif (j.C.Op == 1)&&(p.2.2 == 0) then p.2.1 else []⟩=_;rw [h1d hn,h,Bool.and_false];rfl
theorem d7k {g:Geo} {c:Cmd} (hc:a1j g c=0) (hw:c.w≤Big):c.Op≠4→0≤c.Lba∧c.Lba≤32∧(c.Op=2→a2x g c=c.Vals.length+1)∧(c.Op=5→a2x g c=2):=by
 intro h4;obtain ⟨e,e1,e2,e3,e4⟩:=f0m hc h4 hw;refine ⟨e1,by omega,fun h2=>?_,fun h5=>?_⟩
 ·unfold a2x;rw [hc];unfold a2z;simp [h2]
 ·unfold a2x;rw [hc];unfold a2z;simp [h5]
theorem h3u {x:Eng} {n:Nat} (hn:n<x.Jobs.length) {c:Cmd} {t:Int} {g:List Int} {d:Int} (hj:x.Jobs[n]=⟨c,t,g,d⟩):c.Vals.length≤x.w∧g.length≤x.w:=by
 have hJ:=a1v Job.w hn;rw [hj] at hJ;have e0:x.w=x.A.w+wL Cmd.w x.Wait+wL Job.w x.Jobs+wL Ans.w x.Done+wL Turn.w x.Log:=rfl;have e1:(⟨c,t,g,d⟩:Job).w=c.Vals.length+g.length:=rfl;omega
theorem h3v {g:Geo} {c:Cmd} (hc:a1j g c=0) (h5:c.Op=5):c.Vals.length=2:=by
 have hs:=(a8l hc).2.1;unfold b6k at hs;simp [h5] at hs;have:=hs.1;omega
theorem e2d {l:List Job} {n:Nat} (hn:n<l.length) {cmd:Cmd} {t:Int} {g:List Int} {d:Int} (hj:l[n]=⟨cmd,t,g,d⟩) :
  (at_ (a0p l) n 0).asI=cmd.Op∧(at_ (a0p l) n 2).asI=cmd.Lba∧(at_ (a0p l) n 4).asR=eIs cmd.Vals∧(at_ (a0p l) n 5).asI=t∧(at_ (a0p l) n 6).asR=eIs g∧(at_ (a0p l) n 7).asI=d∧
  ([.i (at_ (a0p l) n 0).asI,.i (at_ (a0p l) n 1).asI,.i (at_ (a0p l) n 2).asI,.i (at_ (a0p l) n 3).asI,.r (at_ (a0p l) n 4).asR]:List T)=cmd.e:=by
 rw [b7d hn hj];simp only [c9t hn];exact ⟨rfl,rfl,rfl,rfl,rfl,rfl,rfl⟩
theorem h3w {g:Geo} {c:Cmd} (hc:a1j g c=0):1≤c.Op∧c.Op≤6:=by
 unfold a1j at hc;cases h:(a8j g&&a0m c.Op 1 6&&a0m c.Id 1 999)
 ·rw [h] at hc;simp at hc
 ·simp only [Bool.and_eq_true] at h;exact a0y h.1.2
abbrev chE (L:List (List T)) (n:Nat) (c:Int):List (List T):=a0x (a0x (a0x L n 4 [.r ((at_ L n 4).asR)]) n 7 [.i c]) n 5 [.i (W64 ((at_ (a0x (a0x L n 4 [.r ((at_ L n 4).asR)]) n 7 [.i c]) n 5).asI+1))]
theorem chJ {l:List Job} {n:Nat} (hn:n<l.length) {cmd:Cmd} {t:Int} {g:List Int} {d:Int} (hj:l[n]=⟨cmd,t,g,d⟩) (ht:0≤t∧t≤40) (c:Int):(at_ (chE (a0p l) n c) n 7).asI=c∧(at_ (chE (a0p l) n c) n 0).asI=cmd.Op∧chE (a0p l) n c=LJ l n cmd (t+1) g c:=by
 have hL:=b7d hn hj;have hw1:W64 (t+1)=t+1:=a0e (by omega) (by omega);have e:chE (a0p l) n c=LJ l n cmd (t+1) g c:=by unfold chE;simp only [Job.e,B2_,T.k6f,T.k6g,T.k6i,hL,hw1,c9t hn,d2s hn,d2t hn,d2u hn,d2v hn,d2w hn]
 rw [e];simp only [c9t hn];exact ⟨rfl,rfl,trivial⟩
theorem g3s (x:Eng) {n:Nat} (hn:n<x.Jobs.length) (hx:x.w≤1073741000) {cmd:Cmd} {t:Int} {g:List Int} {d:Int} (hj:x.Jobs[n]=⟨cmd,t,g,d⟩) (ht:0≤t∧t≤40) (g':List Int) (e:Int) (k:Nat) (hk:Big+4≤k):a4b k (n:Int) ⟨x.e,[]⟩ (LJ x.Jobs n cmd t g' e)=some ⟨(b6p x n ⟨cmd,t,g,d⟩ (x.A,g',e)).e++[.b true],[]⟩:=by
 have hB:Big=4294967296:=rfl;obtain ⟨l1,l2,l3,l4,hA⟩:=a2l x (show x.w≤Big by omega);have hL:=b7d hn hj;have hw1:W64 (t+1)=t+1:=a0e (by omega) (by omega);have m7:(at_ (a0x (LJ x.Jobs n cmd t g' e) n 5 [.i (W64 ((at_ (LJ x.Jobs n cmd t g' e) n 5).asI+1))]) n 7).asI=e:=by simp only [Job.e,B2_,T.k6f,T.k6g,T.k6i,hL,hw1,c9t hn,d2s hn,d2t hn,d2u hn,d2v hn,d2w hn]
 have m0:(at_ (a0x (LJ x.Jobs n cmd t g' e) n 5 [.i (W64 ((at_ (LJ x.Jobs n cmd t g' e) n 5).asI+1))]) n 0).asI=cmd.Op:=by simp only [Job.e,B2_,T.k6f,T.k6g,T.k6i,hL,hw1,c9t hn,d2s hn,d2t hn,d2u hn,d2v hn,d2w hn]
 have mf:a0x (LJ x.Jobs n cmd t g' e) n 5 [.i (W64 ((at_ (LJ x.Jobs n cmd t g' e) n 5).asI+1))]=LJ x.Jobs n cmd (t+1) g' e:=by simp only [Job.e,B2_,T.k6f,T.k6g,T.k6i,hL,hw1,c9t hn,d2s hn,d2t hn,d2u hn,d2v hn,d2w hn]
 unfold a4b;rcases Bool.eq_false_or_eq_true (e == 0) with he | he
 ·rw [b1c (show ((x.A,g',e):Arr×List Int×Int).2.2 == 0 from he)];refine a0n ((congrArg (· == 0) m7).trans he) ?_;show some (⟨[_,_,_,_,_,_,_,_,_,_,_,_,_,_,.r (a0x (LJ x.Jobs n cmd t g' e) n 5 [.i (W64 ((at_ (LJ x.Jobs n cmd t g' e) n 5).asI+1))]),_,_,_],[]⟩:Outs)=_;rw [mf];rfl
 ·rw [b4c hn (show (((x.A,g',e):Arr×List Int×Int).2.2 == 0)=false from he)];refine a0k ((congrArg (· == 0) m7).trans he) ?_;have hw:=f5v x x.A e g' hn (by omega) (by have:=hA;have e0:x.w=x.A.w+wL Cmd.w x.Wait+wL Job.w x.Jobs+wL Ans.w x.Done+wL Turn.w x.Log:=rfl;omega) hj ht k hk;cases ho:(cmd.Op == 1)
  ·exact a0k ((congrArg (· == 1) m0).trans ho) hw
  ·refine a0n ((congrArg (· == 1) m0).trans ho) ?_;show b6i k (n:Int) (LJ x.Jobs n cmd t g' e) ⟨x.e,[]⟩ ((at_ (a0x (LJ x.Jobs n cmd t g' e) n 5 [.i (W64 ((at_ (LJ x.Jobs n cmd t g' e) n 5).asI+1))]) n 7).asI == 0)=_;rw [m7,he];exact hw
theorem i9s (x:Eng) {n:Nat} (hn:n<x.Jobs.length) (hx:x.w≤1073741000) {cmd:Cmd} {t:Int} {g:List Int} {d:Int} (hj:x.Jobs[n]=⟨cmd,t,g,d⟩) (ht:0≤t∧t≤40) (hf:b7k x.A) (hc:a1j x.A.G cmd=0) (hts:t<a2x x.A.G cmd - 1) (hg6:g.length≤6) (k:Nat) (hk:Big+15≤k):a8f k (n:Int) ⟨x.e,[]⟩ true=some ⟨(b6p x n ⟨cmd,t,g,d⟩ (a5c x.A ⟨cmd,t,g,d⟩)).e++[.b true],[]⟩:=by
 have hB:Big=4294967296:=rfl;obtain ⟨l1,l2,l3,l4,hA⟩:=a2l x (show x.w≤Big by omega);have hL:=b7d hn hj;have hw1:W64 (t+1)=t+1:=a0e (by omega) (by omega);obtain ⟨c0,c2,c4,c5,c6,c7,cC⟩:=e2d hn hj;have hch:=fun c=>chJ hn hj ht c;have e0:x.w=x.A.w+wL Cmd.w x.Wait+wL Job.w x.Jobs+wL Ans.w x.Done+wL Turn.w x.Log:=rfl;obtain ⟨vl,gl⟩:=h3u hn hj;have hcw:cmd.w≤Big:=by have:cmd.w=cmd.Vals.length:=rfl;omega
 have hsc:=d7k hc hcw;obtain ⟨r1,r6⟩:=h3w hc;have aW:x.A.w≤1073741000:=by omega
 unfold a8f;refine a0n rfl ((a0g (Nat.beq_refl _) _).trans ?_);rcases Bool.eq_false_or_eq_true (cmd.Op == 1) with o1 | o1
 ·have p1:cmd.Op=1:=by simpa using o1
  obtain ⟨b0,b1,_,_⟩:=hsc (by omega);have hLA:W64 ((at_ (a0p x.Jobs) n 2).asI+(at_ (a0p x.Jobs) n 5).asI)=cmd.Lba+t:=by rw [c2,c5,a0e (by omega) (by omega)]
  have hjd:a5c x.A ⟨cmd,t,g,d⟩=(x.A,bif (a1u x.A (cmd.Lba+t)).2 == 0 then g++[(a1u x.A (cmd.Lba+t)).1] else g,(a1u x.A (cmd.Lba+t)).2):=by
   unfold a5c;exact a0n o1 rfl
  rw [hjd];refine a0n ((congrArg (· == 1) c0).trans o1) ?_;refine a0z ((congrArg (fun q=>a0a E P0 k N.j7f [.v x.A.e,.v [.i q]]) hLA).trans (f7f x.A hA hf (cmd.Lba+t) k (by omega))) ?_;generalize a1u x.A (cmd.Lba+t)=r;rcases Bool.eq_false_or_eq_true (r.2 == 0) with hr | hr
  ·rw [hr];refine a0n hr ?_;have z6:(at_ (a0x (a0p x.Jobs) n 4 [.r ((at_ (a0p x.Jobs) n 4).asR)]) n 6).asR=eIs g:=by simp only [Job.e,B2_,T.k6f,T.k6g,T.k6i,hL,hw1,c9t hn,d2s hn,d2t hn,d2u hn,d2v hn,d2w hn]
   refine (a0g (show decide (((at_ (a0x (a0p x.Jobs) n 4 [.r ((at_ (a0p x.Jobs) n 4).asR)]) n 6).asR.length+([[.i r.1]]:List (List T)).length)*8≤140737488355328)=true by rw [z6];simp;omega) _).trans ?_;refine (a0g (Nat.beq_refl _) _).trans ?_;have hG:eIs g++[[.i r.1]]=eIs (g++[r.1]):=by simp
   have z7:a0x (a0x (a0x (a0p x.Jobs) n 4 [.r ((at_ (a0p x.Jobs) n 4).asR)]) n 6 [.r ((at_ (a0x (a0p x.Jobs) n 4 [.r ((at_ (a0p x.Jobs) n 4).asR)]) n 6).asR++([[.i r.1]]:List (List T)))]) n 7 [.i r.2]=LJ x.Jobs n cmd t (g++[r.1]) r.2:=by
    rw [z6,hG];simp only [Job.e,B2_,T.k6f,T.k6g,T.k6i,hL,hw1,c9t hn,d2s hn,d2t hn,d2u hn,d2v hn,d2w hn]
   show a4b k (n:Int) ⟨x.e,[]⟩ (a0x (a0x (a0x (a0p x.Jobs) n 4 [.r ((at_ (a0p x.Jobs) n 4).asR)]) n 6 [.r ((at_ (a0x (a0p x.Jobs) n 4 [.r ((at_ (a0p x.Jobs) n 4).asR)]) n 6).asR++([[.i r.1]]:List (List T)))]) n 7 [.i r.2])=_;rw [z7];exact g3s x hn hx hj ht (g++[r.1]) r.2 k (by omega)
  ·rw [hr];refine a0k hr ?_;have z7:a0x (a0x (a0p x.Jobs) n 4 [.r ((at_ (a0p x.Jobs) n 4).asR)]) n 7 [.i r.2]=LJ x.Jobs n cmd t g r.2:=by simp only [Job.e,B2_,T.k6f,T.k6g,T.k6i,hL,hw1,c9t hn,d2s hn,d2t hn,d2u hn,d2v hn,d2w hn]
   show a4b k (n:Int) ⟨x.e,[]⟩ (a0x (a0x (a0p x.Jobs) n 4 [.r ((at_ (a0p x.Jobs) n 4).asR)]) n 7 [.i r.2])=_;rw [z7];exact g3s x hn hx hj ht g r.2 k (by omega)
 refine a0k ((congrArg (· == 1) c0).trans o1) ?_;rcases Bool.eq_false_or_eq_true (cmd.Op == 2) with o2 | o2
 ·have p2:cmd.Op=2:=by simpa using o2
  obtain ⟨b0,b1,b2,b5⟩:=hsc (by omega);have hLA:W64 ((at_ (a0p x.Jobs) n 2).asI+(at_ (a0p x.Jobs) n 5).asI)=cmd.Lba+t:=by rw [c2,c5,a0e (by omega) (by omega)]
  have htl:t<cmd.Vals.length:=by have:=b2 p2;omega
  have hv:(at_ (at_ (a0p x.Jobs) n 4).asR (at_ (a0p x.Jobs) n 5).asI.toNat 0).asI=cmd.Vals.getD t.toNat 0:=by rw [c4,c5,a6i (by omega)]
  have hck:(decide (0≤(at_ (a0p x.Jobs) n 5).asI)&&decide ((at_ (a0p x.Jobs) n 5).asI<((at_ (a0p x.Jobs) n 4).asR.length:Int)))=true:=by rw [c4,c5,List.length_map];simp;omega
  have hjd:a5c x.A ⟨cmd,t,g,d⟩=((a0u x.A (cmd.Lba+t) (cmd.Vals.getD t.toNat 0)).1,g,(a0u x.A (cmd.Lba+t) (cmd.Vals.getD t.toNat 0)).2):=by
   unfold a5c;refine a0k o1 ?_;exact a0k (show (cmd.Op == 4)=false by simp [p2]) (a0k (show (cmd.Op == 5)=false by simp [p2]) (a0k (show (cmd.Op == 6)=false by simp [p2]) (a0n (decide_eq_true htl) rfl)))
  rw [hjd];refine a0n ((congrArg (· == 2) c0).trans o2) ((a0g hck _).trans ?_);refine a0z ((congrArg (fun q=>a0a E P0 k N.j5q [.v x.A.e,.v [.i q],.v [.i (at_ (at_ (a0p x.Jobs) n 4).asR (at_ (a0p x.Jobs) n 5).asI.toNat 0).asI]]) hLA).trans ((congrArg (fun v=>a0a E P0 k N.j5q [.v x.A.e,.v [.i (cmd.Lba+t)],.v [.i v]]) hv).trans (c9n x.A (cmd.Lba+t) (cmd.Vals.getD t.toNat 0) (by omega) hf k (by omega)))) ?_;have hpw:=b1o x.A (cmd.Lba+t) (cmd.Vals.getD t.toNat 0);generalize a0u x.A (cmd.Lba+t) (cmd.Vals.getD t.toNat 0)=p at hpw ⊢;rcases Bool.eq_false_or_eq_true (p.2 == 0) with he | he
  ·rw [b1c (show ((p.1,g,p.2):Arr×List Int×Int).2.2 == 0 from he)];refine a0n ((congrArg (· == 0) (hch p.2).1).trans he) ?_;show some (⟨[_,_,_,_,_,_,_,_,_,_,_,_,_,_,.r (chE (a0p x.Jobs) n p.2),_,_,_],[]⟩:Outs)=_;rw [(hch p.2).2.2];rfl
  ·rw [b4c hn (show (((p.1,g,p.2):Arr×List Int×Int).2.2 == 0)=false from he)];refine a0k ((congrArg (· == 0) (hch p.2).1).trans he) ?_;exact a0k ((congrArg (· == 1) (hch p.2).2.1).trans o1) (f5q x p.1 p.2 hn (by omega) (by omega) hj ht k (by omega))
 refine a0k ((congrArg (· == 2) c0).trans o2) ?_;rcases Bool.eq_false_or_eq_true (cmd.Op == 6) with o6 | o6
 ·have p6:cmd.Op=6:=by simpa using o6
  obtain ⟨b0,b1,b2,b5⟩:=hsc (by omega);have hLA:W64 ((at_ (a0p x.Jobs) n 2).asI+(at_ (a0p x.Jobs) n 5).asI)=cmd.Lba+t:=by rw [c2,c5,a0e (by omega) (by omega)]
  have hjd:a5c x.A ⟨cmd,t,g,d⟩=((a0u x.A (cmd.Lba+t) 0).1,g,(a0u x.A (cmd.Lba+t) 0).2):=by
   unfold a5c;refine a0k o1 ?_;exact a0k (show (cmd.Op == 4)=false by simp [p6]) (a0k (show (cmd.Op == 5)=false by simp [p6]) (a0n o6 rfl))
  rw [hjd];refine a0n ((congrArg (· == 6) c0).trans o6) ?_;refine a0z ((congrArg (fun q=>a0a E P0 k N.j5q [.v x.A.e,.v [.i q],.v [.i 0]]) hLA).trans ((congrArg (fun v=>a0a E P0 k N.j5q [.v x.A.e,.v [.i (cmd.Lba+t)],.v [.i v]]) rfl).trans (c9n x.A (cmd.Lba+t) 0 (by omega) hf k (by omega)))) ?_;have hpw:=b1o x.A (cmd.Lba+t) 0;generalize a0u x.A (cmd.Lba+t) 0=p at hpw ⊢;rcases Bool.eq_false_or_eq_true (p.2 == 0) with he | he
  ·rw [b1c (show ((p.1,g,p.2):Arr×List Int×Int).2.2 == 0 from he)];refine a0n ((congrArg (· == 0) (hch p.2).1).trans he) ?_;show some (⟨[_,_,_,_,_,_,_,_,_,_,_,_,_,_,.r (chE (a0p x.Jobs) n p.2),_,_,_],[]⟩:Outs)=_;rw [(hch p.2).2.2];rfl
  ·rw [b4c hn (show (((p.1,g,p.2):Arr×List Int×Int).2.2 == 0)=false from he)];refine a0k ((congrArg (· == 0) (hch p.2).1).trans he) ?_;exact a0k ((congrArg (· == 1) (hch p.2).2.1).trans o1) (f5r x p.1 p.2 hn (by omega) (by omega) hj ht k (by omega))
 refine a0k ((congrArg (· == 6) c0).trans o6) ?_;rcases Bool.eq_false_or_eq_true (cmd.Op == 3) with o3 | o3
 ·have p3:cmd.Op=3:=by simpa using o3
  obtain ⟨b0,b1,b2,b5⟩:=hsc (by omega);have hLA:W64 ((at_ (a0p x.Jobs) n 2).asI+(at_ (a0p x.Jobs) n 5).asI)=cmd.Lba+t:=by rw [c2,c5,a0e (by omega) (by omega)]
  refine a0n ((congrArg (· == 3) c0).trans o3) ?_;have hcond:decide ((at_ (a0p x.Jobs) n 5).asI<((at_ (a0p x.Jobs) n 4).asR.length:Int))=decide (t<(cmd.Vals.length:Int)):=by rw [c4,c5,List.length_map]
  rcases Bool.eq_false_or_eq_true (decide (t<(cmd.Vals.length:Int))) with hl | hl
  ·have htl:=of_decide_eq_true hl;have hv:(at_ (at_ (a0p x.Jobs) n 4).asR (at_ (a0p x.Jobs) n 5).asI.toNat 0).asI=cmd.Vals.getD t.toNat 0:=by rw [c4,c5,a6i (by omega)]
   have hck:(decide (0≤(at_ (a0p x.Jobs) n 5).asI)&&decide ((at_ (a0p x.Jobs) n 5).asI<((at_ (a0p x.Jobs) n 4).asR.length:Int)))=true:=by rw [c4,c5,List.length_map];simp;omega
   have hjd:a5c x.A ⟨cmd,t,g,d⟩=((a0u x.A (cmd.Lba+t) (cmd.Vals.getD t.toNat 0)).1,g,(a0u x.A (cmd.Lba+t) (cmd.Vals.getD t.toNat 0)).2):=by
    unfold a5c;refine a0k o1 ?_;exact a0k (show (cmd.Op == 4)=false by simp [p3]) (a0k (show (cmd.Op == 5)=false by simp [p3]) (a0k (show (cmd.Op == 6)=false by simp [p3]) (a0n hl rfl)))
   rw [hjd];refine a0n (hcond.trans hl) ((a0g hck _).trans ?_);refine a0z ((congrArg (fun q=>a0a E P0 k N.j5q [.v x.A.e,.v [.i q],.v [.i (at_ (at_ (a0p x.Jobs) n 4).asR (at_ (a0p x.Jobs) n 5).asI.toNat 0).asI]]) hLA).trans ((congrArg (fun v=>a0a E P0 k N.j5q [.v x.A.e,.v [.i (cmd.Lba+t)],.v [.i v]]) hv).trans (c9n x.A (cmd.Lba+t) (cmd.Vals.getD t.toNat 0) (by omega) hf k (by omega)))) ?_;have hpw:=b1o x.A (cmd.Lba+t) (cmd.Vals.getD t.toNat 0);generalize a0u x.A (cmd.Lba+t) (cmd.Vals.getD t.toNat 0)=p at hpw ⊢;rcases Bool.eq_false_or_eq_true (p.2 == 0) with he | he
   ·rw [b1c (show ((p.1,g,p.2):Arr×List Int×Int).2.2 == 0 from he)];refine a0n ((congrArg (· == 0) (hch p.2).1).trans he) ?_;show some (⟨[_,_,_,_,_,_,_,_,_,_,_,_,_,_,.r (chE (a0p x.Jobs) n p.2),_,_,_],[]⟩:Outs)=_;rw [(hch p.2).2.2];rfl
   ·rw [b4c hn (show (((p.1,g,p.2):Arr×List Int×Int).2.2 == 0)=false from he)];refine a0k ((congrArg (· == 0) (hch p.2).1).trans he) ?_;exact a0k ((congrArg (· == 1) (hch p.2).2.1).trans o1) (f5s x p.1 p.2 hn (by omega) (by omega) hj ht k (by omega))
  ·have htl:=of_decide_eq_false hl;have hsb:=b1n x.A.G cmd.Lba;have hspan:(a6r x.A.G cmd).1=cmd.Lba:=by unfold a6r;rw [hc];exact congrArg Prod.fst (show (bif cmd.Op == 4 then _ else _:Int×Int)=(cmd.Lba,_) from a0k (show (cmd.Op == 4)=false by simp [p3]) rfl)
   have hfa:W64 ((W64 (a0o x.A.G (a6r x.A.G cmd).1+(at_ (a0p x.Jobs) n 5).asI)) - ((at_ (a0p x.Jobs) n 4).asR.length:Int))=a0o x.A.G cmd.Lba+t - cmd.Vals.length:=by
    rw [hspan,c4,c5,List.length_map,a0e (n:=a0o x.A.G cmd.Lba+t) (by omega) (by omega),a0e (by omega) (by omega)]
   have hjd:a5c x.A ⟨cmd,t,g,d⟩=((a0t x.A (a0o x.A.G cmd.Lba+t - cmd.Vals.length)).1,g,(a0t x.A (a0o x.A.G cmd.Lba+t - cmd.Vals.length)).2):=by
    unfold a5c;refine a0k o1 ?_;exact a0k (show (cmd.Op == 4)=false by simp [p3]) (a0k (show (cmd.Op == 5)=false by simp [p3]) (a0k (show (cmd.Op == 6)=false by simp [p3]) (a0k hl rfl)))
   rw [hjd];refine a0k (hcond.trans hl) ?_;refine a0z ((congrArg (fun c=>a0a E P0 k N.j8a [.v x.A.G.e,.v c]) cC).trans (f0n x.A.G cmd hcw k (by omega))) ?_;refine a0z ((congrArg (fun q=>a0a E P0 k N.j7h [.v x.A.e,.v [.i q]]) hfa).trans (d7i x.A (a0o x.A.G cmd.Lba+t - cmd.Vals.length) (by omega) hf k (by omega))) ?_;have hpw:=b4a x.A (a0o x.A.G cmd.Lba+t - cmd.Vals.length);generalize a0t x.A (a0o x.A.G cmd.Lba+t - cmd.Vals.length)=p at hpw ⊢;rcases Bool.eq_false_or_eq_true (p.2 == 0) with he | he
   ·rw [b1c (show ((p.1,g,p.2):Arr×List Int×Int).2.2 == 0 from he)];refine a0n ((congrArg (· == 0) (hch p.2).1).trans he) ?_;show some (⟨[_,_,_,_,_,_,_,_,_,_,_,_,_,_,.r (chE (a0p x.Jobs) n p.2),_,_,_],[]⟩:Outs)=_;rw [(hch p.2).2.2];rfl
   ·rw [b4c hn (show (((p.1,g,p.2):Arr×List Int×Int).2.2 == 0)=false from he)];refine a0k ((congrArg (· == 0) (hch p.2).1).trans he) ?_;exact a0k ((congrArg (· == 1) (hch p.2).2.1).trans o1) (f5t x p.1 p.2 hn (by omega) (by omega) hj ht k (by omega))
 refine a0k ((congrArg (· == 3) c0).trans o3) ?_;rcases Bool.eq_false_or_eq_true (cmd.Op == 4) with o4 | o4
 ·
  have hjd:a5c x.A ⟨cmd,t,g,d⟩=((a0t x.A t).1,g,(a0t x.A t).2):=by
   unfold a5c;refine a0k o1 ?_;exact a0n o4 rfl
  rw [hjd];refine a0n ((congrArg (· == 4) c0).trans o4) ?_;refine a0z ((congrArg (fun q=>a0a E P0 k N.j7h [.v x.A.e,.v [.i q]]) c5).trans (d7i x.A t (by omega) hf k (by omega))) ?_;have hpw:=b4a x.A t;generalize a0t x.A t=p at hpw ⊢;rcases Bool.eq_false_or_eq_true (p.2 == 0) with he | he
  ·rw [b1c (show ((p.1,g,p.2):Arr×List Int×Int).2.2 == 0 from he)];refine a0n ((congrArg (· == 0) (hch p.2).1).trans he) ?_;show some (⟨[_,_,_,_,_,_,_,_,_,_,_,_,_,_,.r (chE (a0p x.Jobs) n p.2),_,_,_],[]⟩:Outs)=_;rw [(hch p.2).2.2];rfl
  ·rw [b4c hn (show (((p.1,g,p.2):Arr×List Int×Int).2.2 == 0)=false from he)];refine a0k ((congrArg (· == 0) (hch p.2).1).trans he) ?_;exact a0k ((congrArg (· == 1) (hch p.2).2.1).trans o1) (f5u x p.1 p.2 hn (by omega) (by omega) hj ht k (by omega))
 refine a0k ((congrArg (· == 4) c0).trans o4) ?_;have p5:cmd.Op=5:=by
  have n1:cmd.Op≠1:=by simpa using o1
  have n2:cmd.Op≠2:=by simpa using o2
  have n3:cmd.Op≠3:=by simpa using o3
  have n4:cmd.Op≠4:=by simpa using o4
  have n6:cmd.Op≠6:=by simpa using o6
  omega
 obtain ⟨b0,b1,b2,b5⟩:=hsc (by omega);have hv2:=h3v hc p5;have hLA:W64 ((at_ (a0p x.Jobs) n 2).asI+(at_ (a0p x.Jobs) n 5).asI)=cmd.Lba+t:=by rw [c2,c5,a0e (by omega) (by omega)]
 have hj5:a5c x.A ⟨cmd,t,g,d⟩=(bif (a1u x.A (cmd.Lba+t)).2 != 0 then (x.A,g,(a1u x.A (cmd.Lba+t)).2) else bif (a1u x.A (cmd.Lba+t)).1 != cmd.Vals.getD 0 0 then (x.A,g,4) else ((a0u x.A (cmd.Lba+t) (cmd.Vals.getD 1 0)).1,g,(a0u x.A (cmd.Lba+t) (cmd.Vals.getD 1 0)).2)):=by
  unfold a5c;exact a0k o1 (a0k o4 (a0n (show (cmd.Op == 5)=true by simp [p5]) rfl))
 refine a0z ((congrArg (fun q=>a0a E P0 k N.j7f [.v x.A.e,.v [.i q]]) hLA).trans (f7f x.A hA hf (cmd.Lba+t) k (by omega))) ?_;generalize a1u x.A (cmd.Lba+t)=r at hj5 ⊢;have z7:∀ v:Int,a0x (a0x (a0p x.Jobs) n 4 [.r ((at_ (a0p x.Jobs) n 4).asR)]) n 7 [.i v]=LJ x.Jobs n cmd t g v:=fun v=>by simp only [Job.e,B2_,T.k6f,T.k6g,T.k6i,hL,hw1,c9t hn,d2s hn,d2t hn,d2u hn,d2v hn,d2w hn]
 have w0:(at_ (at_ (a0p x.Jobs) n 4).asR 0 0).asI=cmd.Vals.getD 0 0:=by rw [c4,a6i (by omega)]
 have w1:(at_ (at_ (a0p x.Jobs) n 4).asR 1 0).asI=cmd.Vals.getD 1 0:=by rw [c4,a6i (by omega)]
 rcases Bool.eq_false_or_eq_true (r.2 != 0) with hr | hr
 ·rw [show a5c x.A ⟨cmd,t,g,d⟩=(x.A,g,r.2) by rw [hj5];exact a0n hr rfl];refine a0n hr ?_;show a4b k (n:Int) ⟨x.e,[]⟩ (a0x (a0x (a0p x.Jobs) n 4 [.r ((at_ (a0p x.Jobs) n 4).asR)]) n 7 [.i r.2])=_;rw [z7];exact g3s x hn hx hj ht g r.2 k (by omega)
 refine a0k hr ((a0g (show decide ((0:Int)<((at_ (a0p x.Jobs) n 4).asR.length:Int))=true by rw [c4,List.length_map,hv2];rfl) _).trans ?_);rcases Bool.eq_false_or_eq_true (r.1 != cmd.Vals.getD 0 0) with hq | hq
 ·rw [show a5c x.A ⟨cmd,t,g,d⟩=(x.A,g,4) by rw [hj5];exact a0k hr (a0n hq rfl)];refine a0n ((congrArg (r.1 != ·) w0).trans hq) ?_;show a4b k (n:Int) ⟨x.e,[]⟩ (a0x (a0x (a0p x.Jobs) n 4 [.r ((at_ (a0p x.Jobs) n 4).asR)]) n 7 [.i 4])=_;rw [z7];exact g3s x hn hx hj ht g 4 k (by omega)
 rw [show a5c x.A ⟨cmd,t,g,d⟩=((a0u x.A (cmd.Lba+t) (cmd.Vals.getD 1 0)).1,g,(a0u x.A (cmd.Lba+t) (cmd.Vals.getD 1 0)).2) by rw [hj5];exact a0k hr (a0k hq rfl)];refine a0k ((congrArg (r.1 != ·) w0).trans hq) ((a0g (show decide ((1:Int)<((at_ (a0p x.Jobs) n 4).asR.length:Int))=true by rw [c4,List.length_map,hv2];rfl) _).trans ?_);refine a0z ((congrArg (fun q=>a0a E P0 k N.j5q [.v x.A.e,.v [.i q],.v [.i (at_ (at_ (a0p x.Jobs) n 4).asR 1 0).asI]]) hLA).trans ((congrArg (fun v=>a0a E P0 k N.j5q [.v x.A.e,.v [.i (cmd.Lba+t)],.v [.i v]]) w1).trans (c9n x.A (cmd.Lba+t) (cmd.Vals.getD 1 0) (by omega) hf k (by omega)))) ?_;have hpw:=b1o x.A (cmd.Lba+t) (cmd.Vals.getD 1 0);generalize a0u x.A (cmd.Lba+t) (cmd.Vals.getD 1 0)=p at hpw ⊢;rcases Bool.eq_false_or_eq_true (p.2 == 0) with he | he
 ·rw [b1c (show ((p.1,g,p.2):Arr×List Int×Int).2.2 == 0 from he)];refine a0n ((congrArg (· == 0) (hch p.2).1).trans he) ?_;show some (⟨[_,_,_,_,_,_,_,_,_,_,_,_,_,_,.r (chE (a0p x.Jobs) n p.2),_,_,_],[]⟩:Outs)=_;rw [(hch p.2).2.2];rfl
 ·rw [b4c hn (show (((p.1,g,p.2):Arr×List Int×Int).2.2 == 0)=false from he)];refine a0k ((congrArg (· == 0) (hch p.2).1).trans he) ?_;exact a0k ((congrArg (· == 1) (hch p.2).2.1).trans o1) (f1p x p.1 p.2 hn (by omega) (by omega) hj ht k (by omega))
abbrev scE (L:List (List T)) (n:Nat) (c:Int):List (List T):=a0x L n 0 [.i (at_ L n 0).asI,.i (at_ L n 1).asI,.i (at_ L n 2).asI,.i (at_ L n 3).asI,.r (at_ L n 4).asR,.i (W64 ((at_ L n 5).asI+1)),.r (at_ L n 6).asR,.i c]
theorem scJ {l:List Job} {n:Nat} (hn:n<l.length) {cmd:Cmd} {t:Int} {g:List Int} {d:Int} (hj:l[n]=⟨cmd,t,g,d⟩) (ht:0≤t∧t≤40) (c:Int):scE (a0p l) n c=LJ l n cmd (t+1) g c:=by
 have hL:=b7d hn hj;have hw1:W64 (t+1)=t+1:=a0e (by omega) (by omega);unfold scE;simp only [Job.e,B2_,T.k6f,T.k6g,T.k6i,hL,hw1,c9t hn,d2s hn,d2t hn,d2u hn,d2v hn,d2w hn]
theorem h1e (x:Eng) {n:Nat} (hn:n<x.Jobs.length) (hx:x.w≤1073741000) {cmd:Cmd} {t:Int} {g:List Int} {d:Int} (hj:x.Jobs[n]=⟨cmd,t,g,d⟩) (ht:0≤t∧t≤40) (e:Int) (k:Nat) (hk:Big+4≤k):b6h k (n:Int) ⟨x.e,[]⟩ e=some ⟨(b6p x n ⟨cmd,t,g,d⟩ (x.A,g,e)).e++[.b true],[]⟩:=by
 have hB:Big=4294967296:=rfl;obtain ⟨l1,l2,l3,l4,hA⟩:=a2l x (show x.w≤Big by omega);have hL:=b7d hn hj;have hw1:W64 (t+1)=t+1:=a0e (by omega) (by omega);obtain ⟨c0,c2,c4,c5,c6,c7,cC⟩:=e2d hn hj;have sf:=fun c=>scJ hn hj ht c;have hix:(decide (0≤(n:Int))&&decide ((n:Int)<((a0p x.Jobs).length:Int)))=true:=by rw [List.length_map,dlt hn];simp
 have e0:x.w=x.A.w+wL Cmd.w x.Wait+wL Job.w x.Jobs+wL Ans.w x.Done+wL Turn.w x.Log:=rfl;unfold b6h;refine (a0g hix _).trans ((a0g (Nat.beq_refl _) _).trans ?_);rcases Bool.eq_false_or_eq_true (e == 0) with he | he
 ·rw [b1c (show ((x.A,g,e):Arr×List Int×Int).2.2 == 0 from he)];refine a0n he ?_;unfold c0o;show some (⟨[_,_,_,_,_,_,_,_,_,_,_,_,_,_,.r (scE (a0p x.Jobs) n e),_,_,_],[]⟩:Outs)=_;rw [sf];rfl
 ·rw [b4c hn (show (((x.A,g,e):Arr×List Int×Int).2.2 == 0)=false from he)];refine a0k he ?_;have hw:=f5w x x.A e hn (by omega) (by omega) hj ht k (by omega);cases ho:(cmd.Op == 1)
  ·exact a0k ((congrArg (· == 1) c0).trans ho) hw
  ·refine a0n ((congrArg (· == 1) c0).trans ho) ?_;show b6g k (n:Int) ⟨x.e,[]⟩ e (e == 0)=_;rw [he];exact hw
theorem g3t (x:Eng) {n:Nat} (hn:n<x.Jobs.length) (hx:x.w≤1073741000) {cmd:Cmd} {t:Int} {g:List Int} {d:Int} (hj:x.Jobs[n]=⟨cmd,t,g,d⟩) (ht:0≤t∧t≤40) (b:Arr) (e:Int) (hb:b.w≤1073741824) (k:Nat) (hk:Big+4≤k):b2s k (n:Int) ⟨x.e,[]⟩ b.Id b.G.N b.G.S (a2e b.Mems) b.Lost b.Built b.Seq b.Tail b.Gen (a1c b.Dirty) b.Fuse b.Down b.Broken e=some ⟨(b6p x n ⟨cmd,t,g,d⟩ (b,g,e)).e++[.b true],[]⟩:=by
 have hB:Big=4294967296:=rfl;obtain ⟨l1,l2,l3,l4,hA⟩:=a2l x (show x.w≤Big by omega);have hL:=b7d hn hj;have hw1:W64 (t+1)=t+1:=a0e (by omega) (by omega);obtain ⟨c0,c2,c4,c5,c6,c7,cC⟩:=e2d hn hj;have sf:=fun c=>scJ hn hj ht c;have hix:(decide (0≤(n:Int))&&decide ((n:Int)<((a0p x.Jobs).length:Int)))=true:=by rw [List.length_map,dlt hn];simp
 have e0:x.w=x.A.w+wL Cmd.w x.Wait+wL Job.w x.Jobs+wL Ans.w x.Done+wL Turn.w x.Log:=rfl;unfold b2s;refine (a0g hix _).trans ((a0g (Nat.beq_refl _) _).trans ?_);rcases Bool.eq_false_or_eq_true (e == 0) with he | he
 ·rw [b1c (show ((b,g,e):Arr×List Int×Int).2.2 == 0 from he)];refine a0n he ?_;show some (⟨[_,_,_,_,_,_,_,_,_,_,_,_,_,_,.r (scE (a0p x.Jobs) n e),_,_,_],[]⟩:Outs)=_;rw [sf];rfl
 ·rw [b4c hn (show (((b,g,e):Arr×List Int×Int).2.2 == 0)=false from he)];refine a0k he ?_;have hw:=f1r x b e hn (by omega) (by omega) hj ht k (by omega);cases ho:(cmd.Op == 1)
  ·exact a0k ((congrArg (· == 1) c0).trans ho) hw
  ·refine a0n ((congrArg (· == 1) c0).trans ho) ?_;show b2r k (n:Int) b.Down b.Broken (a2e b.Mems) (a1c b.Dirty) ⟨x.e,[]⟩ b.Id b.G.N b.G.S b.Lost b.Built b.Seq b.Tail b.Gen b.Fuse e (e == 0)=_;rw [he];exact hw
theorem i9t (x:Eng) {n:Nat} (hn:n<x.Jobs.length) (hx:x.w≤1073741000) {cmd:Cmd} {t:Int} {g:List Int} {d:Int} (hj:x.Jobs[n]=⟨cmd,t,g,d⟩) (ht:0≤t∧t≤40) (hf:b7k x.A) (hc:a1j x.A.G cmd=0) (hts:t<a2x x.A.G cmd - 1) (hg6:g.length≤6) (k:Nat) (hk:Big+15≤k):a7v k (n:Int) ⟨x.e,[]⟩ true=some ⟨(b6p x n ⟨cmd,t,g,d⟩ (a5c x.A ⟨cmd,t,g,d⟩)).e++[.b true],[]⟩:=by
 have hB:Big=4294967296:=rfl;obtain ⟨l1,l2,l3,l4,hA⟩:=a2l x (show x.w≤Big by omega);have hL:=b7d hn hj;have hw1:W64 (t+1)=t+1:=a0e (by omega) (by omega);obtain ⟨c0,c2,c4,c5,c6,c7,cC⟩:=e2d hn hj;have sf:=fun c=>scJ hn hj ht c;have hix:(decide (0≤(n:Int))&&decide ((n:Int)<((a0p x.Jobs).length:Int)))=true:=by rw [List.length_map,dlt hn];simp
 have e0:x.w=x.A.w+wL Cmd.w x.Wait+wL Job.w x.Jobs+wL Ans.w x.Done+wL Turn.w x.Log:=rfl;obtain ⟨vl,gl⟩:=h3u hn hj;have hcw:cmd.w≤Big:=by have:cmd.w=cmd.Vals.length:=rfl;omega
 have hsc:=d7k hc hcw;obtain ⟨r1,r6⟩:=h3w hc;have aW:x.A.w≤1073741000:=by omega
 unfold a7v;refine a0n rfl ?_;rcases Bool.eq_false_or_eq_true (cmd.Op == 1) with o1 | o1
 ·have p1:cmd.Op=1:=by simpa using o1
  obtain ⟨b0,b1,_,_⟩:=hsc (by omega);have hLA:W64 ((at_ (a0p x.Jobs) n 2).asI+(at_ (a0p x.Jobs) n 5).asI)=cmd.Lba+t:=by rw [c2,c5,a0e (by omega) (by omega)]
  have hjd:a5c x.A ⟨cmd,t,g,d⟩=(x.A,bif (a1u x.A (cmd.Lba+t)).2 == 0 then g++[(a1u x.A (cmd.Lba+t)).1] else g,(a1u x.A (cmd.Lba+t)).2):=by
   unfold a5c;exact a0n o1 rfl
  rw [hjd];refine a0n ((congrArg (· == 1) c0).trans o1) ?_;refine a0z ((congrArg (fun q=>a0a E P0 k N.j6w [.v x.A.e,.v [.i q]]) hLA).trans (f7g x.A hA hf (cmd.Lba+t) k (by omega))) ?_;generalize a1u x.A (cmd.Lba+t)=r;rcases Bool.eq_false_or_eq_true (r.2 == 0) with hr | hr
  ·rw [hr];refine a0n hr ?_;refine (a0g (show decide (((at_ (a0p x.Jobs) n 6).asR.length+([[.i r.1]]:List (List T)).length)*8≤140737488355328)=true by rw [c6];simp;omega) _).trans ?_;refine (a0g hix _).trans ((a0g (Nat.beq_refl _) _).trans (a0n hr ?_));have hG:eIs g++[[.i r.1]]=eIs (g++[r.1]):=by simp
   have z7:a0x (a0p x.Jobs) n 0 [.i (at_ (a0p x.Jobs) n 0).asI,.i (at_ (a0p x.Jobs) n 1).asI,.i (at_ (a0p x.Jobs) n 2).asI,.i (at_ (a0p x.Jobs) n 3).asI,.r (at_ (a0p x.Jobs) n 4).asR,.i (W64 ((at_ (a0p x.Jobs) n 5).asI+1)),.r ((at_ (a0p x.Jobs) n 6).asR++([[.i r.1]]:List (List T))),.i r.2]=LJ x.Jobs n cmd (t+1) (g++[r.1]) r.2:=by
    rw [c6,hG];simp only [Job.e,B2_,T.k6f,T.k6g,T.k6i,hL,hw1,c9t hn,d2s hn,d2t hn,d2u hn,d2v hn,d2w hn]
   unfold c0o;show _=some (⟨(b6p x n ⟨cmd,t,g,d⟩ (x.A,g++[r.1],r.2)).e++[.b true],[]⟩:Outs);rw [b1c (show ((x.A,g++[r.1],r.2):Arr×List Int×Int).2.2 == 0 from hr)];show some (⟨[_,_,_,_,_,_,_,_,_,_,_,_,_,_,.r (a0x (a0p x.Jobs) n 0 [.i (at_ (a0p x.Jobs) n 0).asI,.i (at_ (a0p x.Jobs) n 1).asI,.i (at_ (a0p x.Jobs) n 2).asI,.i (at_ (a0p x.Jobs) n 3).asI,.r (at_ (a0p x.Jobs) n 4).asR,.i (W64 ((at_ (a0p x.Jobs) n 5).asI+1)),.r ((at_ (a0p x.Jobs) n 6).asR++([[.i r.1]]:List (List T))),.i r.2]),_,_,_],[]⟩:Outs)=_;rw [z7];rfl
  ·rw [hr];refine a0k hr ?_;exact h1e x hn hx hj ht r.2 k (by omega)
 refine a0k ((congrArg (· == 1) c0).trans o1) ?_;rcases Bool.eq_false_or_eq_true (cmd.Op == 4) with o4 | o4
 ·have hjd:a5c x.A ⟨cmd,t,g,d⟩=((a0t x.A t).1,g,(a0t x.A t).2):=by unfold a5c;exact a0k o1 (a0n o4 rfl)
  rw [hjd];refine a0n ((congrArg (· == 4) c0).trans o4) ?_;refine a0z ((congrArg (fun q=>a0a E P0 k N.j6x [.v x.A.e,.v [.i q]]) c5).trans (d7j x.A t (by omega) hf k (by omega))) ?_;have hpw:=b4a x.A t;generalize a0t x.A t=p at hpw ⊢;refine (a0g hix _).trans ((a0g (Nat.beq_refl _) _).trans ?_);rcases Bool.eq_false_or_eq_true (p.2 == 0) with he | he
  ·rw [b1c (show ((p.1,g,p.2):Arr×List Int×Int).2.2 == 0 from he)];refine a0n he ?_;show some (⟨[_,_,_,_,_,_,_,_,_,_,_,_,_,_,.r (scE (a0p x.Jobs) n p.2),_,_,_],[]⟩:Outs)=_;rw [sf];rfl
  ·rw [b4c hn (show (((p.1,g,p.2):Arr×List Int×Int).2.2 == 0)=false from he)];refine a0k he ?_;have hw:=f5x x p.1 p.2 hn (by omega) (by omega) hj ht k (by omega);exact a0k ((congrArg (· == 1) c0).trans o1) hw
 refine a0k ((congrArg (· == 4) c0).trans o4) ?_;have hLA4:cmd.Op≠4:=by simpa using o4
 obtain ⟨b0,b1,b2,b5⟩:=hsc hLA4;have hLA:W64 ((at_ (a0p x.Jobs) n 2).asI+(at_ (a0p x.Jobs) n 5).asI)=cmd.Lba+t:=by rw [c2,c5,a0e (by omega) (by omega)]
 rcases Bool.eq_false_or_eq_true (cmd.Op == 5) with o5 | o5
 ·have p5:cmd.Op=5:=by simpa using o5
  have hv2:=h3v hc p5;have ht0:t=0:=by have:=b5 p5;omega
  have hj5:a5c x.A ⟨cmd,t,g,d⟩=(bif (a1u x.A cmd.Lba).2 != 0 then (x.A,g,(a1u x.A cmd.Lba).2) else bif (a1u x.A cmd.Lba).1 != cmd.Vals.getD 0 0 then (x.A,g,4) else ((a0u x.A cmd.Lba (cmd.Vals.getD 1 0)).1,g,(a0u x.A cmd.Lba (cmd.Vals.getD 1 0)).2)):=by
   unfold a5c;refine a0k o1 (a0k o4 (a0n o5 ?_));rw [show cmd.Lba+t=cmd.Lba by omega]
  refine a0n ((congrArg (· == 5) c0).trans o5) ?_;refine a0z ((congrArg (fun q=>a0a E P0 k N.j6w [.v x.A.e,.v [.i q]]) c2).trans (f7g x.A hA hf cmd.Lba k (by omega))) ?_;generalize a1u x.A cmd.Lba=r at hj5 ⊢;have w0:(at_ (at_ (a0p x.Jobs) n 4).asR 0 0).asI=cmd.Vals.getD 0 0:=by rw [c4,a6i (by omega)]
  have w1:(at_ (at_ (a0p x.Jobs) n 4).asR 1 0).asI=cmd.Vals.getD 1 0:=by rw [c4,a6i (by omega)]
  rcases Bool.eq_false_or_eq_true (r.2 != 0) with hr | hr
  ·rw [show a5c x.A ⟨cmd,t,g,d⟩=(x.A,g,r.2) by rw [hj5];exact a0n hr rfl];exact a0n hr (h1e x hn hx hj ht r.2 k (by omega))
  refine a0k hr ((a0g (show decide ((0:Int)<((at_ (a0p x.Jobs) n 4).asR.length:Int))=true by rw [c4,List.length_map,hv2];rfl) _).trans ?_);rcases Bool.eq_false_or_eq_true (r.1 != cmd.Vals.getD 0 0) with hq | hq
  ·rw [show a5c x.A ⟨cmd,t,g,d⟩=(x.A,g,4) by rw [hj5];exact a0k hr (a0n hq rfl)];exact a0n ((congrArg (r.1 != ·) w0).trans hq) (h1e x hn hx hj ht 4 k (by omega))
  rw [show a5c x.A ⟨cmd,t,g,d⟩=((a0u x.A cmd.Lba (cmd.Vals.getD 1 0)).1,g,(a0u x.A cmd.Lba (cmd.Vals.getD 1 0)).2) by rw [hj5];exact a0k hr (a0k hq rfl)];refine a0k ((congrArg (r.1 != ·) w0).trans hq) ((a0g (show decide ((1:Int)<((at_ (a0p x.Jobs) n 4).asR.length:Int))=true by rw [c4,List.length_map,hv2];rfl) _).trans ?_);refine a0z ((congrArg (fun q=>a0a E P0 k N.j5u [.v x.A.e,.v [.i q],.v [.i (at_ (at_ (a0p x.Jobs) n 4).asR 1 0).asI]]) c2).trans ((congrArg (fun v=>a0a E P0 k N.j5u [.v x.A.e,.v [.i cmd.Lba],.v [.i v]]) w1).trans (d9f x.A cmd.Lba (cmd.Vals.getD 1 0) (by omega) hf k (by omega)))) ?_;have hpw:=b1o x.A cmd.Lba (cmd.Vals.getD 1 0);generalize a0u x.A cmd.Lba (cmd.Vals.getD 1 0)=p at hpw ⊢;exact g3t x hn hx hj ht p.1 p.2 (by omega) k (by omega)
 refine a0k ((congrArg (· == 5) c0).trans o5) ?_;rcases Bool.eq_false_or_eq_true (cmd.Op == 6) with o6 | o6
 ·rw [show a5c x.A ⟨cmd,t,g,d⟩=((a0u x.A (cmd.Lba+t) 0).1,g,(a0u x.A (cmd.Lba+t) 0).2) by unfold a5c;exact a0k o1 (a0k o4 (a0k o5 (a0n o6 rfl)))];refine a0n ((congrArg (· == 6) c0).trans o6) ?_;refine a0z ((congrArg (fun q=>a0a E P0 k N.j5u [.v x.A.e,.v [.i q],.v [.i 0]]) hLA).trans ((congrArg (fun v=>a0a E P0 k N.j5u [.v x.A.e,.v [.i (cmd.Lba+t)],.v [.i v]]) rfl).trans (d9f x.A (cmd.Lba+t) 0 (by omega) hf k (by omega)))) ?_;have hpw:=b1o x.A (cmd.Lba+t) 0;generalize a0u x.A (cmd.Lba+t) 0=p at hpw ⊢;exact g3t x hn hx hj ht p.1 p.2 (by omega) k (by omega)
 refine a0k ((congrArg (· == 6) c0).trans o6) ?_;have hcond:decide ((at_ (a0p x.Jobs) n 5).asI<((at_ (a0p x.Jobs) n 4).asR.length:Int))=decide (t<(cmd.Vals.length:Int)):=by rw [c4,c5,List.length_map]
 rcases Bool.eq_false_or_eq_true (decide (t<(cmd.Vals.length:Int))) with hl | hl
 ·have htl:=of_decide_eq_true hl;have hv:(at_ (at_ (a0p x.Jobs) n 4).asR (at_ (a0p x.Jobs) n 5).asI.toNat 0).asI=cmd.Vals.getD t.toNat 0:=by rw [c4,c5,a6i (by omega)]
  have hck:(decide (0≤(at_ (a0p x.Jobs) n 5).asI)&&decide ((at_ (a0p x.Jobs) n 5).asI<((at_ (a0p x.Jobs) n 4).asR.length:Int)))=true:=by rw [c4,c5,List.length_map];simp;omega
  rw [show a5c x.A ⟨cmd,t,g,d⟩=((a0u x.A (cmd.Lba+t) (cmd.Vals.getD t.toNat 0)).1,g,(a0u x.A (cmd.Lba+t) (cmd.Vals.getD t.toNat 0)).2) by unfold a5c;exact a0k o1 (a0k o4 (a0k o5 (a0k o6 (a0n hl rfl))))];refine a0n (hcond.trans hl) ((a0g hck _).trans ?_);refine a0z ((congrArg (fun q=>a0a E P0 k N.j5u [.v x.A.e,.v [.i q],.v [.i (at_ (at_ (a0p x.Jobs) n 4).asR (at_ (a0p x.Jobs) n 5).asI.toNat 0).asI]]) hLA).trans ((congrArg (fun v=>a0a E P0 k N.j5u [.v x.A.e,.v [.i (cmd.Lba+t)],.v [.i v]]) hv).trans (d9f x.A (cmd.Lba+t) (cmd.Vals.getD t.toNat 0) (by omega) hf k (by omega)))) ?_;have hpw:=b1o x.A (cmd.Lba+t) (cmd.Vals.getD t.toNat 0);generalize a0u x.A (cmd.Lba+t) (cmd.Vals.getD t.toNat 0)=p at hpw ⊢;exact g3t x hn hx hj ht p.1 p.2 (by omega) k (by omega)
 ·have htl:=of_decide_eq_false hl;have hsb:=b1n x.A.G cmd.Lba;have hfa:W64 ((W64 (a0o x.A.G cmd.Lba+(at_ (a0p x.Jobs) n 5).asI)) - ((at_ (a0p x.Jobs) n 4).asR.length:Int))=a0o x.A.G cmd.Lba+t - cmd.Vals.length:=by
   rw [c4,c5,List.length_map,a0e (n:=a0o x.A.G cmd.Lba+t) (by omega) (by omega),a0e (by omega) (by omega)]
  rw [show a5c x.A ⟨cmd,t,g,d⟩=((a0t x.A (a0o x.A.G cmd.Lba+t - cmd.Vals.length)).1,g,(a0t x.A (a0o x.A.G cmd.Lba+t - cmd.Vals.length)).2) by unfold a5c;exact a0k o1 (a0k o4 (a0k o5 (a0k o6 (a0k hl rfl))))];refine a0k (hcond.trans hl) ?_;refine a0z ((congrArg (fun q=>a0a E P0 k N.j6h [.v x.A.G.e,.v [.i q]]) c2).trans (c3a x.A.G cmd.Lba k (by omega))) ?_;refine a0z ((congrArg (fun q=>a0a E P0 k N.j6x [.v x.A.e,.v [.i q]]) hfa).trans (d7j x.A (a0o x.A.G cmd.Lba+t - cmd.Vals.length) (by omega) hf k (by omega))) ?_;have hpw:=b4a x.A (a0o x.A.G cmd.Lba+t - cmd.Vals.length);generalize a0t x.A (a0o x.A.G cmd.Lba+t - cmd.Vals.length)=p at hpw ⊢;refine (a0g hix _).trans ((a0g (Nat.beq_refl _) _).trans ?_);rcases Bool.eq_false_or_eq_true (p.2 == 0) with he | he
  ·rw [b1c (show ((p.1,g,p.2):Arr×List Int×Int).2.2 == 0 from he)];refine a0n he ?_;show some (⟨[_,_,_,_,_,_,_,_,_,_,_,_,_,_,.r (scE (a0p x.Jobs) n p.2),_,_,_],[]⟩:Outs)=_;rw [sf];rfl
  ·rw [b4c hn (show (((p.1,g,p.2):Arr×List Int×Int).2.2 == 0)=false from he)];refine a0k he ?_;have hw:=f1q x p.1 p.2 hn (by omega) (by omega) hj ht k (by omega);exact a0k ((congrArg (· == 1) c0).trans o1) hw
theorem i5j (x:Eng) {n:Nat} (hn:n<x.Jobs.length) (hx:x.w≤1073741000) {cmd:Cmd} {t:Int} {g:List Int} {d:Int} (hj:x.Jobs[n]=⟨cmd,t,g,d⟩) (ht:0≤t∧t≤40) (k:Nat) (hk:Big+4≤k):a8f k (n:Int) ⟨x.e,[]⟩ false=some ⟨(a7l x n ⟨cmd,t,g,d⟩).e++[.b true],[]⟩:=by
 have hB:Big=4294967296:=rfl;obtain ⟨l1,l2,l3,l4,hA⟩:=a2l x (show x.w≤Big by omega);have hL:=b7d hn hj;have hw1:W64 (t+1)=t+1:=a0e (by omega) (by omega);obtain ⟨c0,c2,c4,c5,c6,c7,cC⟩:=e2d hn hj;have e0:x.w=x.A.w+wL Cmd.w x.Wait+wL Job.w x.Jobs+wL Ans.w x.Done+wL Turn.w x.Log:=rfl;unfold a8f;refine a0k rfl ?_;have hwf:=e4c x x.A 0 hn (by omega) (by omega) hj ht k (by omega);rcases (Bool.eq_false_or_eq_true (cmd.Op == 1)).symm with o1 | o1
 ·have ho:a7l x n ⟨cmd,t,g,d⟩=answer { x with Jobs:=del x.Jobs n } cmd ⟨cmd.Id,d,[]⟩:=by
   unfold a7l;rw [show ((⟨cmd,t,g,d⟩:Job).C.Op == 1)=false from o1];rfl
  rw [ho];exact a0k ((congrArg (· == 1) c0).trans o1) hwf
 ·refine a0n ((congrArg (· == 1) c0).trans o1) ?_;show a6g k (n:Int) ⟨x.e,[]⟩ ((at_ (a0p x.Jobs) n 7).asI == 0)=_;rw [c7];rcases (Bool.eq_false_or_eq_true (d == 0)).symm with od | od
  ·have ho:a7l x n ⟨cmd,t,g,d⟩=answer { x with Jobs:=del x.Jobs n } cmd ⟨cmd.Id,d,[]⟩:=by
    unfold a7l;rw [show ((⟨cmd,t,g,d⟩:Job).Code == 0)=false from od,Bool.and_false];rfl
   rw [ho,od];exact hwf
  ·have ho:a7l x n ⟨cmd,t,g,d⟩=answer { x with Jobs:=del x.Jobs n } cmd ⟨cmd.Id,d,g⟩:=by
    unfold a7l;rw [show ((⟨cmd,t,g,d⟩:Job).Code == 0)=true from od,show ((⟨cmd,t,g,d⟩:Job).C.Op == 1)=true from o1];rfl
   rw [ho,od];exact e4d x x.A 0 hn (by omega) (by omega) hj ht k (by omega)
theorem i5k (x:Eng) {n:Nat} (hn:n<x.Jobs.length) (hx:x.w≤1073741000) {cmd:Cmd} {t:Int} {g:List Int} {d:Int} (hj:x.Jobs[n]=⟨cmd,t,g,d⟩) (ht:0≤t∧t≤40) (k:Nat) (hk:Big+4≤k):a7v k (n:Int) ⟨x.e,[]⟩ false=some ⟨(a7l x n ⟨cmd,t,g,d⟩).e++[.b true],[]⟩:=by
 have hB:Big=4294967296:=rfl;obtain ⟨l1,l2,l3,l4,hA⟩:=a2l x (show x.w≤Big by omega);have hL:=b7d hn hj;have hw1:W64 (t+1)=t+1:=a0e (by omega) (by omega);obtain ⟨c0,c2,c4,c5,c6,c7,cC⟩:=e2d hn hj;have e0:x.w=x.A.w+wL Cmd.w x.Wait+wL Job.w x.Jobs+wL Ans.w x.Done+wL Turn.w x.Log:=rfl;unfold a7v;refine a0k rfl ?_;have hwf:=e4e x x.A 0 hn (by omega) (by omega) hj ht k (by omega);rcases (Bool.eq_false_or_eq_true (cmd.Op == 1)).symm with o1 | o1
 ·have ho:a7l x n ⟨cmd,t,g,d⟩=answer { x with Jobs:=del x.Jobs n } cmd ⟨cmd.Id,d,[]⟩:=by
   unfold a7l;rw [show ((⟨cmd,t,g,d⟩:Job).C.Op == 1)=false from o1];rfl
  rw [ho];exact a0k ((congrArg (· == 1) c0).trans o1) hwf
 ·refine a0n ((congrArg (· == 1) c0).trans o1) ?_;show a6d k (n:Int) ⟨x.e,[]⟩ ((at_ (a0p x.Jobs) n 7).asI == 0)=_;rw [c7];rcases (Bool.eq_false_or_eq_true (d == 0)).symm with od | od
  ·have ho:a7l x n ⟨cmd,t,g,d⟩=answer { x with Jobs:=del x.Jobs n } cmd ⟨cmd.Id,d,[]⟩:=by
    unfold a7l;rw [show ((⟨cmd,t,g,d⟩:Job).Code == 0)=false from od,Bool.and_false];rfl
   rw [ho,od];exact hwf
  ·have ho:a7l x n ⟨cmd,t,g,d⟩=answer { x with Jobs:=del x.Jobs n } cmd ⟨cmd.Id,d,g⟩:=by
    unfold a7l;rw [show ((⟨cmd,t,g,d⟩:Job).Code == 0)=true from od,show ((⟨cmd,t,g,d⟩:Job).C.Op == 1)=true from o1];rfl
   rw [ho,od];exact e4f x x.A 0 hn (by omega) (by omega) hj ht k (by omega)
theorem i6u {x:Eng} (h:b4p x=true):x.Log.length≤400:=by
 unfold b4p few at h;simp only [Bool.and_eq_true,decide_eq_true_eq] at h;exact h.2.2.1.2.2.2
theorem i1o {g:Geo} {c:Cmd} (hw:c.w≤Big):0≤a2x g c∧a2x g c≤100:=by
 unfold a2x;cases h:(a1j g c == 0)
 ·exact ⟨Int.le_refl _,show (0:Int)≤100 by omega⟩
 ·have h0:a1j g c=0:=by simpa using h
  obtain ⟨hg,hs,_⟩:=a8l h0;obtain ⟨_,_,_,_⟩:=a1n hg;have:=d9b hs hw;have h1:=b1n g (c.Lba+a2z c - 1);have h2:=b1n g c.Lba;cases h4:(c.Op == 4)
  ·cases h3:(c.Op == 3)
   ·show 0≤a2z c+1∧a2z c+1≤100;omega
   ·obtain ⟨e,e1,e2,e3,e4⟩:=f0m h0 (by simpa using h4) hw;have hp:=i0j g c hw;rw [h] at hp;have hq:a2x g c > 0:=by simpa using hp
    have he:a2x g c=a2z c+a0o g (c.Lba+a2z c - 1) - a0o g c.Lba+2:=by unfold a2x;rw [h,h4,h3];rfl
    show 0≤a2z c+a0o g (c.Lba+a2z c - 1) - a0o g c.Lba+2∧a2z c+a0o g (c.Lba+a2z c - 1) - a0o g c.Lba+2≤100;omega
  ·show 0≤g.S+1∧g.S+1≤100;omega
theorem j2j (x:Eng) (q:Int) (hx:x.w≤1073741000) (hf:b7k x.A):Rn 17 N.k3b [.v x.e,.v [.i q]] ⟨(c3e x q).1.e++[.b (c3e x q).2],[]⟩:=by
 refine Rn.of fun k hk=>?_;have hB:Big=4294967296:=rfl;obtain ⟨l1,l2,l3,l4,hA⟩:=a2l x (show x.w≤Big by omega);rw [g9z];unfold e9j;refine a0z (d7a x (by omega) k (by omega)) (a0z (h0n x (by omega) hf k (by omega)) ?_);have no:(b4p x&&(a0m q 0 ((x.Jobs.length:Int) - 1)&&decide (x.Log.length<400)))=false→a8g k x.A.G.N x.A.G.S q ⟨x.e,[]⟩ true=some ⟨(c3e x q).1.e++[.b (c3e x q).2],[]⟩:=fun h=>by
  rw [show c3e x q=(x,false) by unfold c3e;rw [h];rfl];rfl
 rcases (Bool.eq_false_or_eq_true (b4p x)).symm with ho | ho
 ·exact a0n (show (!(b4p x))=true by rw [ho];rfl) (no (by rw [ho];rfl))
 refine a0k (show (!(b4p x))=false by rw [ho];rfl) ?_;rw [List.length_map,a0e (n:=(x.Jobs.length:Int) - 1) (by omega) (by omega)];refine a0z (a1q _ _ _ k (by omega)) ?_;rcases (Bool.eq_false_or_eq_true (a0m q 0 ((x.Jobs.length:Int) - 1))).symm with hq | hq
 ·exact a0n (show (!(a0m q 0 ((x.Jobs.length:Int) - 1)))=true by rw [hq];rfl) (no (by rw [hq];simp))
 refine a0k (show (!(a0m q 0 ((x.Jobs.length:Int) - 1)))=false by rw [hq];rfl) ?_;have hqb:=a0y hq;have hlog:=i6u ho;by_cases h400:x.Log.length<400
 case neg=>
  show a8g k x.A.G.N x.A.G.S q ⟨x.e,[]⟩ (((a3b x.Log).length:Int) == 400)=_;rw [show (((a3b x.Log).length:Int) == 400)=true by rw [List.length_map];simp;omega];exact no (by rw [decide_eq_false h400];simp)
 show a8g k x.A.G.N x.A.G.S q ⟨x.e,[]⟩ (((a3b x.Log).length:Int) == 400)=_;rw [show (((a3b x.Log).length:Int) == 400)=false by rw [List.length_map];simp;omega];obtain ⟨n,rfl⟩:∃ n:Nat,q=(n:Int):=⟨q.toNat,by omega⟩;have hn:n<x.Jobs.length:=by omega
 have hw:c3e x (n:Int)=(b4b x n,true):=by unfold c3e;rw [ho,hq,decide_eq_true h400];rfl
 rw [hw];obtain ⟨jk,_⟩:=f1o ho hn;obtain ⟨hc,ht0,ht1,hg6⟩:=h0z jk;have hja:c3c x n=x.Jobs[n]:=a1w hn _;obtain ⟨cmd,t,g,d,hj⟩:∃ cmd t g d,x.Jobs[n]=⟨cmd,t,g,d⟩:=⟨_,_,_,_,rfl⟩;rw [hj] at hc ht0 ht1 hg6 hja;simp only at hc ht0 ht1 hg6;obtain ⟨vl,gl⟩:=h3u hn hj;have hcw:cmd.w≤Big:=by have:cmd.w=cmd.Vals.length:=rfl;omega
 obtain ⟨c0,c2,c4,c5,c6,c7,cC⟩:=e2d hn hj;have hst:=i1o (g:=x.A.G) hcw;unfold a8g;refine a0k rfl ?_;refine (a0g (show (decide (0≤(n:Int))&&decide ((n:Int)<((a0p x.Jobs).length:Int)))=true by rw [List.length_map,dlt hn];simp) _).trans ?_;refine (a0g (show Nat.blt n (a0p x.Jobs).length=true by rw [List.length_map];exact Nat.ble_eq_true_of_le hn) _).trans ((a0g (Nat.beq_refl _) _).trans ?_);refine a0z ((congrArg (fun c=>a0a E P0 k N.j9e [.v x.A.G.e,.v c]) cC).trans (h9s x.A.G cmd hcw k (by omega))) ?_;have hcond:decide ((at_ (a0p x.Jobs) n 5).asI<W64 (a2x x.A.G cmd - 1))=decide (t<a2x x.A.G cmd - 1):=by rw [c5,a0e (by omega) (by omega)]
 have hout:=i5j x hn hx hj ⟨ht0,ht1⟩ k (by omega);have hA0:(decide ((c3c x n).At<a2x x.A.G (c3c x n).C - 1)&&((c3c x n).Code == 0))=(decide (t<a2x x.A.G cmd - 1)&&(d == 0)):=by rw [hja]
 rcases (Bool.eq_false_or_eq_true (decide (t<a2x x.A.G cmd - 1))).symm with hts | hts
 ·refine a0k (hcond.trans hts) ?_;rw [show b4b x n=a7l x n ⟨cmd,t,g,d⟩ by unfold b4b;rw [← hja];exact a0k (by rw [hA0,hts];rfl) rfl];exact hout
 refine a0n (hcond.trans hts) ?_;show a8f k (n:Int) ⟨x.e,[]⟩ ((at_ (a0p x.Jobs) n 7).asI == 0)=_;rw [c7];rcases (Bool.eq_false_or_eq_true (d == 0)).symm with hd | hd
 ·rw [show b4b x n=a7l x n ⟨cmd,t,g,d⟩ by unfold b4b;rw [← hja];exact a0k (by rw [hA0,hts,hd];rfl) rfl,hd];exact hout
 ·rw [show b4b x n=b6p x n ⟨cmd,t,g,d⟩ (a5c x.A ⟨cmd,t,g,d⟩) by unfold b4b;rw [← hja];exact a0n (by rw [hA0,hts,hd];rfl) rfl,hd];exact i9s x hn hx hj ⟨ht0,ht1⟩ hf hc (of_decide_eq_true hts) hg6 k (by omega)
theorem j2k (x:Eng) (q:Int) (hx:x.w≤1073741000) (hf:b7k x.A):Rn 17 N.k1y [.v x.e,.v [.i q]] ⟨(c3e x q).1.e++[.b (c3e x q).2],[]⟩:=by
 refine Rn.of fun k hk=>?_;have hB:Big=4294967296:=rfl;obtain ⟨l1,l2,l3,l4,hA⟩:=a2l x (show x.w≤Big by omega);rw [g9y];unfold e8e;refine a0z (d7b x (by omega) k (by omega)) (a0z (h0o x (by omega) hf k (by omega)) ?_);have no:(b4p x&&(a0m q 0 ((x.Jobs.length:Int) - 1)&&decide (x.Log.length<400)))=false→a7w k q ⟨x.e,[]⟩ true=some ⟨(c3e x q).1.e++[.b (c3e x q).2],[]⟩:=fun h=>by
  rw [show c3e x q=(x,false) by unfold c3e;rw [h];rfl];rfl
 rcases (Bool.eq_false_or_eq_true (b4p x)).symm with ho | ho
 ·exact a0n (show (!(b4p x))=true by rw [ho];rfl) (no (by rw [ho];rfl))
 refine a0k (show (!(b4p x))=false by rw [ho];rfl) ?_;rw [List.length_map,a0e (n:=(x.Jobs.length:Int) - 1) (by omega) (by omega)];refine a0z (a1a _ _ _ k (by omega)) ?_;rcases (Bool.eq_false_or_eq_true (a0m q 0 ((x.Jobs.length:Int) - 1))).symm with hq | hq
 ·exact a0n (show (!(a0m q 0 ((x.Jobs.length:Int) - 1)))=true by rw [hq];rfl) (no (by rw [hq];simp))
 refine a0k (show (!(a0m q 0 ((x.Jobs.length:Int) - 1)))=false by rw [hq];rfl) ?_;have hqb:=a0y hq;have hlog:=i6u ho;by_cases h400:x.Log.length<400
 case neg=>
  show a7w k q ⟨x.e,[]⟩ (decide (((a3b x.Log).length:Int)≥400))=_;rw [show (decide (((a3b x.Log).length:Int)≥400))=true by rw [List.length_map];simp;omega];exact no (by rw [decide_eq_false h400];simp)
 show a7w k q ⟨x.e,[]⟩ (decide (((a3b x.Log).length:Int)≥400))=_;rw [show (decide (((a3b x.Log).length:Int)≥400))=false by rw [List.length_map];simp;omega];obtain ⟨n,rfl⟩:∃ n:Nat,q=(n:Int):=⟨q.toNat,by omega⟩;have hn:n<x.Jobs.length:=by omega
 have hw:c3e x (n:Int)=(b4b x n,true):=by unfold c3e;rw [ho,hq,decide_eq_true h400];rfl
 rw [hw];obtain ⟨jk,_⟩:=f1o ho hn;obtain ⟨hc,ht0,ht1,hg6⟩:=h0z jk;have hja:c3c x n=x.Jobs[n]:=a1w hn _;obtain ⟨cmd,t,g,d,hj⟩:∃ cmd t g d,x.Jobs[n]=⟨cmd,t,g,d⟩:=⟨_,_,_,_,rfl⟩;rw [hj] at hc ht0 ht1 hg6 hja;simp only at hc ht0 ht1 hg6;obtain ⟨vl,gl⟩:=h3u hn hj;have hcw:cmd.w≤Big:=by have:cmd.w=cmd.Vals.length:=rfl;omega
 obtain ⟨c0,c2,c4,c5,c6,c7,cC⟩:=e2d hn hj;have hst:=i1o (g:=x.A.G) hcw;unfold a7w;refine a0k rfl ?_;refine (a0g (show (decide (0≤(n:Int))&&decide ((n:Int)<((a0p x.Jobs).length:Int)))=true by rw [List.length_map,dlt hn];simp) _).trans ?_;refine a0z ((congrArg (fun c=>a0a E P0 k N.j8k [.v x.A.G.e,.v c]) cC).trans (h9r x.A.G cmd hcw k (by omega))) ?_;have hcond:decide ((at_ (a0p x.Jobs) n 5).asI<W64 (a2x x.A.G cmd - 1))=decide (t<a2x x.A.G cmd - 1):=by rw [c5,a0e (by omega) (by omega)]
 have hout:=i5k x hn hx hj ⟨ht0,ht1⟩ k (by omega);have hA0:(decide ((c3c x n).At<a2x x.A.G (c3c x n).C - 1)&&((c3c x n).Code == 0))=(decide (t<a2x x.A.G cmd - 1)&&(d == 0)):=by rw [hja]
 rcases (Bool.eq_false_or_eq_true (decide (t<a2x x.A.G cmd - 1))).symm with hts | hts
 ·refine a0k (hcond.trans hts) ?_;rw [show b4b x n=a7l x n ⟨cmd,t,g,d⟩ by unfold b4b;rw [← hja];exact a0k (by rw [hA0,hts];rfl) rfl];exact hout
 refine a0n (hcond.trans hts) ?_;show a7v k (n:Int) ⟨x.e,[]⟩ ((at_ (a0p x.Jobs) n 7).asI == 0)=_;rw [c7];rcases (Bool.eq_false_or_eq_true (d == 0)).symm with hd | hd
 ·rw [show b4b x n=a7l x n ⟨cmd,t,g,d⟩ by unfold b4b;rw [← hja];exact a0k (by rw [hA0,hts,hd];rfl) rfl,hd];exact hout
 ·rw [show b4b x n=b6p x n ⟨cmd,t,g,d⟩ (a5c x.A ⟨cmd,t,g,d⟩) by unfold b4b;rw [← hja];exact a0n (by rw [hA0,hts,hd];rfl) rfl,hd];exact i9t x hn hx hj ⟨ht0,ht1⟩ hf hc (of_decide_eq_true hts) hg6 k (by omega)
def f5y:Nat→Eng→Eng
 | 0,x=>x
 | n+1,x=>bif decide (0<x.Jobs.length) then (bif (c3e x 0).2 then f5y n (c3e x 0).1 else x) else x
def c2h (x:Eng) (n:Int):Eng:=bif a0m n 0 1000 then f5y n.toNat x else x
theorem i1p:∀ (n:Nat) (x:Eng),(f5y n x).w≤x.w+n*120
 | 0,x=>Nat.le_add_right _ _
 | n+1,x=>by
  unfold f5y;cases decide (0<x.Jobs.length)
  ·exact Nat.le_add_right _ _
  ·cases (c3e x 0).2
   ·exact Nat.le_add_right _ _
   ·have h1:=i6t x 0;have h2:=i1p n (c3e x 0).1;show (f5y n (c3e x 0).1).w≤_;rw [Nat.succ_mul];omega
theorem i5l (x:Eng) (q:Int):(c3b x q).1.w≤x.w+1:=by
 unfold c3b;cases hc:a7i x q
 ·show x.w≤_;omega
 obtain ⟨n,rfl,hn⟩:=d2o hc;show (d2n x (n:Int).toNat).w≤_;rw [Int.toNat_natCast];have hwt:b6l x n=x.Wait[n]:=a1w hn _;have h1:=g8f Cmd.w x.Wait hn;have e0:x.w=x.A.w+wL Cmd.w x.Wait+wL Job.w x.Jobs+wL Ans.w x.Done+wL Turn.w x.Log:=rfl;unfold d2n;rw [hwt];cases a1j x.A.G x.Wait[n] == 0
 ·show x.A.w+wL Cmd.w (del x.Wait n)+wL Job.w x.Jobs+wL Ans.w (x.Done++[_])+wL Turn.w (x.Log++[_])≤_;rw [b6j,b6j,a5j,a5j,e1w,e1w];have a1:(⟨x.Wait[n].Id,a1j x.A.G x.Wait[n],[]⟩:Ans).w=0:=rfl;have a2:(⟨x.Wait[n],⟨x.Wait[n].Id,a1j x.A.G x.Wait[n],[]⟩⟩:Turn).w=x.Wait[n].w+0:=rfl;omega
 ·show x.A.w+wL Cmd.w (del x.Wait n)+wL Job.w (x.Jobs++[_])+wL Ans.w x.Done+wL Turn.w x.Log≤_;rw [b6j,a5j,e1w];have a1:(⟨x.Wait[n],0,[],0⟩:Job).w=x.Wait[n].w+0:=rfl;omega
def a5d (x:Eng):Eng:=bif decide (a2v x<0) then c2h x 200 else (c3b x (a2v x)).1
def c0a (x:Eng):Eng:={ x with Done:=[] }
def e2e:Nat→Eng→Eng
 | 0,x=>x
 | n+1,x=>bif b4p x&&decide (0<x.Wait.length+x.Jobs.length) then e2e n (c0a (a5d x)) else x
def h6c (x:Eng):Eng:=e2e 60 x
theorem f7o (x:Eng):(a5d x).w≤x.w+24000:=by
 unfold a5d;cases decide (a2v x<0)
 ·have:=i5l x (a2v x);show (c3b x (a2v x)).1.w≤_;omega
 ·have:=i1p 200 x;have e:c2h x 200=f5y 200 x:=rfl;show (c2h x 200).w≤_;rw [e];omega
theorem g8l (x:Eng):(c0a x).w≤x.w:=by
 show x.A.w+wL Cmd.w x.Wait+wL Job.w x.Jobs+wL Ans.w []+wL Turn.w x.Log≤x.A.w+wL Cmd.w x.Wait+wL Job.w x.Jobs+wL Ans.w x.Done+wL Turn.w x.Log;rw [e1w];omega
theorem h3x:∀ (n:Nat) (x:Eng),(e2e n x).w≤x.w+n*24000
 | 0,x=>Nat.le_add_right _ _
 | n+1,x=>by
  unfold e2e;cases b4p x&&decide (0<x.Wait.length+x.Jobs.length)
  ·exact Nat.le_add_right _ _
  ·have h1:=f7o x;have h2:=g8l (a5d x);have h3:=h3x n (c0a (a5d x));show (e2e n (c0a (a5d x))).w≤_;rw [Nat.succ_mul];omega
theorem f7p:∀ (n:Nat) {x:Eng},b7k x.A→b7k (f5y n x).A
 | 0,_,h=>h
 | n+1,x,h=>by
  unfold f5y;cases decide (0<x.Jobs.length)
  ·exact h
  ·cases (c3e x 0).2
   ·exact h
   ·exact f7p n (g8g 0 h)
theorem g8m {x:Eng} (n:Int) (h:b7k x.A):b7k (c2h x n).A:=by
 unfold c2h;cases a0m n 0 1000
 ·exact h
 ·exact f7p _ h
theorem h6d {x:Eng} (q:Int) (h:b7k x.A):b7k (c3b x q).1.A:=by
 unfold c3b;cases a7i x q
 ·exact h
 ·show b7k (d2n x q.toNat).A;unfold d2n;cases a1j x.A.G (b6l x q.toNat) == 0
  ·exact h
  ·exact h
theorem g3u {x:Eng} (h:b7k x.A):b7k (a5d x).A:=by
 unfold a5d;cases decide (a2v x<0)
 ·exact h6d (a2v x) h
 ·exact g8m 200 h
abbrev Eng.st (i:Int) (x:Eng):Int×Int×Int×Int×Int×Int×Int×Int×Int×Int×Bool×Bool×List (List T)×List (List T)×List (List T)×List (List T)×List (List T)×List (List T):=
 (i,x.A.Id,x.A.G.N,x.A.G.S,x.A.Lost,x.A.Built,x.A.Seq,x.A.Tail,x.A.Gen,x.A.Fuse,x.A.Down,x.A.Broken,a2e x.A.Mems,a1c x.A.Dirty,b1h x.Wait,a0p x.Jobs,a9h x.Done,a3b x.Log)
theorem c9p {b:(Int×Int×Int×Int×Int×Int×Int×Int×Int×Int×Bool×Bool×List (List T)×List (List T)×List (List T)×List (List T)×List (List T)×List (List T)→Option Outs)→Int×Int×Int×Int×Int×Int×Int×Int×Int×Int×Bool×Bool×List (List T)×List (List T)×List (List T)×List (List T)×List (List T)×List (List T)→Option Outs} {n W:Nat}
  (hs:∀ (i:Nat) (x:Eng) G,i<n→x.w≤W+i*120→b7k x.A→b G (x.st i)=bif decide (0<x.Jobs.length) then (bif (c3e x 0).2 then G ((c3e x 0).1.st ((i+1:Nat):Int)) else some ⟨x.e,[]⟩) else some ⟨x.e,[]⟩)
  (he:∀ (x:Eng) G,b G (x.st n)=some ⟨x.e,[]⟩):∀ (d i j:Nat) (x:Eng),i+d=n→d<j→x.w≤W+i*120→b7k x.A→a1i b j (x.st i)=some ⟨(f5y d x).e,[]⟩
 | 0,i,j,x,hi,hj,_,_=>by
  obtain ⟨j,rfl⟩:∃ q,j=q+1:=⟨j - 1,by omega⟩;have:i=n:=by omega
  subst this;exact he x _
 | d+1,i,j,x,hi,hj,hw,hf=>by
  obtain ⟨j,rfl⟩:∃ q,j=q+1:=⟨j - 1,by omega⟩;rw [a1i,hs i x _ (by omega) hw hf];unfold f5y;cases decide (0<x.Jobs.length)
  ·rfl
  ·cases (c3e x 0).2
   ·rfl
   ·have h1:=i6t x 0;exact c9p hs he d (i+1) j (c3e x 0).1 (by omega) (by omega) (by rw [Nat.succ_mul];omega) (g8g 0 hf)
theorem i1q (x:Eng) (n:Int) (hx:x.w≤1073000000) (hf:b7k x.A):Rn 18 N.k3c [.v x.e,.v [.i n]] ⟨(c2h x n).e,[]⟩:=by
 refine Rn.of fun k hk=>?_;have hB:Big=4294967296:=rfl;rw [f4t];unfold d1h c1y;refine a0z (d7a x (by omega) k (by omega)) ?_;unfold c2h;have J0:∀ (i:Nat) (x:Eng) G,a8h k x.A.Down x.A.Broken (i:Int) x.A.Id x.A.G.N x.A.G.S x.A.Lost x.A.Built x.A.Seq x.A.Tail x.A.Gen x.A.Fuse (a2e x.A.Mems) (a1c x.A.Dirty) (b1h x.Wait) (a0p x.Jobs) (a9h x.Done) (a3b x.Log) G false=some ⟨x.e,[]⟩:=fun i x G=>rfl;have J:∀ (i:Nat) (x:Eng) G,x.w≤1073741000→b7k x.A→i≤1000→a8h k x.A.Down x.A.Broken (i:Int) x.A.Id x.A.G.N x.A.G.S x.A.Lost x.A.Built x.A.Seq x.A.Tail x.A.Gen x.A.Fuse (a2e x.A.Mems) (a1c x.A.Dirty) (b1h x.Wait) (a0p x.Jobs) (a9h x.Done) (a3b x.Log) G (decide (((a0p x.Jobs).length:Int) > 0))=bif decide (0<x.Jobs.length) then (bif (c3e x 0).2 then G ((c3e x 0).1.st ((i+1:Nat):Int)) else some ⟨x.e,[]⟩) else some ⟨x.e,[]⟩:=by
  intro i x G hw hf hi;rw [show decide (((a0p x.Jobs).length:Int) > 0)=decide (0<x.Jobs.length) by rw [List.length_map,decide_eq_decide];omega];unfold a8h;cases decide (0<x.Jobs.length)
  ·rfl
  refine a0n rfl (a0z (j2j x 0 hw hf k (by omega)) ?_);rcases (Bool.eq_false_or_eq_true (c3e x 0).2).symm with h | h
  ·rw [h];exact a0n rfl rfl
  ·rw [h];refine a0k rfl ?_;show G ((c3e x 0).1.st (W64 ((i:Int)+1)))=G ((c3e x 0).1.st ((i+1:Nat):Int));rw [a1l (by omega)]
 refine a0z (a1q _ _ _ k (by omega)) ?_;rcases (Bool.eq_false_or_eq_true (a0m n 0 1000)).symm with hn | hn
 ·rw [hn];exact a0n rfl rfl
 rw [hn];refine a0k rfl ?_;have hnb:=a0y hn;obtain ⟨m,rfl⟩:∃ m:Nat,n=(m:Int):=⟨n.toNat,by omega⟩;rw [Int.toNat_natCast];refine (c9p (b:=a8i k (m:Int)) (n:=m) (W:=x.w) (fun i y G hi hw hfy=>?_) (fun y G=>?_) m 0 k x (by omega) (by omega) (by omega) hf).trans rfl
 ·have:i*120≤1000*120:=Nat.mul_le_mul_right _ (by omega);unfold a8i;exact a0n (dlt hi) (J i y G (by omega) hfy (by omega))
 ·unfold a8i;exact a0k dll (J0 m y G)
theorem i1r (x:Eng) (n:Int) (hx:x.w≤1073000000) (hf:b7k x.A):Rn 18 N.k1z [.v x.e,.v [.i n]] ⟨(c2h x n).e,[]⟩:=by
 refine Rn.of fun k hk=>?_;have hB:Big=4294967296:=rfl;rw [f4a];unfold d0s c1n;refine a0z (d7b x (by omega) k (by omega)) ?_;unfold c2h;have J0:∀ (i:Nat) (x:Eng) G,a5r k x.A.Down x.A.Broken (i:Int) x.A.Id x.A.G.N x.A.G.S x.A.Lost x.A.Built x.A.Seq x.A.Tail x.A.Gen x.A.Fuse (a2e x.A.Mems) (a1c x.A.Dirty) (b1h x.Wait) (a0p x.Jobs) (a9h x.Done) (a3b x.Log) G false=some ⟨x.e,[]⟩:=fun i x G=>rfl;have J:∀ (i:Nat) (x:Eng) G,x.w≤1073741000→b7k x.A→i≤1000→a5r k x.A.Down x.A.Broken (i:Int) x.A.Id x.A.G.N x.A.G.S x.A.Lost x.A.Built x.A.Seq x.A.Tail x.A.Gen x.A.Fuse (a2e x.A.Mems) (a1c x.A.Dirty) (b1h x.Wait) (a0p x.Jobs) (a9h x.Done) (a3b x.Log) G (decide (((a0p x.Jobs).length:Int) > 0))=bif decide (0<x.Jobs.length) then (bif (c3e x 0).2 then G ((c3e x 0).1.st ((i+1:Nat):Int)) else some ⟨x.e,[]⟩) else some ⟨x.e,[]⟩:=by
  intro i x G hw hf hi;rw [show decide (((a0p x.Jobs).length:Int) > 0)=decide (0<x.Jobs.length) by rw [List.length_map,decide_eq_decide];omega];unfold a5r;cases decide (0<x.Jobs.length)
  ·rfl
  refine a0n rfl (a0z (j2k x 0 hw hf k (by omega)) ?_);rcases (Bool.eq_false_or_eq_true (c3e x 0).2).symm with h | h
  ·rw [h];exact a0n rfl rfl
  ·rw [h];refine a0k rfl ?_;show G ((c3e x 0).1.st (W64 ((i:Int)+1)))=G ((c3e x 0).1.st ((i+1:Nat):Int));rw [a1l (by omega)]
 rcases (Bool.eq_false_or_eq_true (a0m n 0 1000)).symm with hn | hn
 ·rw [hn];have h:=c9p (b:=a4h k n) (n:=0) (W:=x.w) (fun i y G hi hw hfy=>by omega) (fun y G=>by
   unfold a4h;exact a0z (a1a _ _ _ k (by omega)) (a0k hn (J0 0 y G))) 0 0 k x rfl (by omega) (by omega) hf
  exact h
 rw [hn];have hnb:=a0y hn;obtain ⟨m,rfl⟩:∃ m:Nat,n=(m:Int):=⟨n.toNat,by omega⟩;rw [Int.toNat_natCast];refine (c9p (b:=a4h k (m:Int)) (n:=m) (W:=x.w) (fun i y G hi hw hfy=>?_) (fun y G=>?_) m 0 k x (by omega) (by omega) (by omega) hf).trans rfl
 ·have:i*120≤1000*120:=Nat.mul_le_mul_right _ (by omega);unfold a4h;exact a0z (a1a _ _ _ k (by omega)) (a0n hn (a0n (dlt hi) (J i y G (by omega) hfy (by omega))))
 ·unfold a4h;exact a0z (a1a _ _ _ k (by omega)) (a0n hn (a0k dll (J0 m y G)))
theorem d2y {V:Type} (st:Int→Eng→V) {b:(V→Option Outs)→V→Option Outs} {n W:Nat}
  (hs:∀ (i:Nat) (x:Eng) G,i<n→x.w≤W+i*24000→b7k x.A→b G (st i x)=bif b4p x&&decide (0<x.Wait.length+x.Jobs.length) then G (st ((i+1:Nat):Int) (c0a (a5d x))) else some ⟨x.e,[]⟩)
  (he:∀ (x:Eng) G,b G (st n x)=some ⟨x.e,[]⟩):∀ (d i j:Nat) (x:Eng),i+d=n→d<j→x.w≤W+i*24000→b7k x.A→a1i b j (st i x)=some ⟨(e2e d x).e,[]⟩
 | 0,i,j,x,hi,hj,_,_=>by
  obtain ⟨j,rfl⟩:∃ q,j=q+1:=⟨j - 1,by omega⟩;have:i=n:=by omega
  subst this;exact he x _
 | d+1,i,j,x,hi,hj,hw,hf=>by
  obtain ⟨j,rfl⟩:∃ q,j=q+1:=⟨j - 1,by omega⟩;rw [a1i,hs i x _ (by omega) hw hf];unfold e2e;cases b4p x&&decide (0<x.Wait.length+x.Jobs.length)
  ·rfl
  ·have h1:=f7o x;have h2:=g8l (a5d x);exact d2y st hs he d (i+1) j (c0a (a5d x)) (by omega) (by omega) (by rw [Nat.succ_mul];omega) (g3u hf)
theorem h6e (x:Eng) (hx:x.w≤1073000000) (hf:b7k x.A):Rn 19 N.k3e [.v x.e] ⟨(a5d x).e,[]⟩:=by
 refine Rn.of fun k hk=>?_;have hB:Big=4294967296:=rfl;rw [e9m];unfold c7v;refine a0z (g7n x (by omega) hf k (by omega)) ?_;unfold a5d;rcases (Bool.eq_false_or_eq_true (decide (a2v x<0))).symm with h | h
 ·rw [h];exact a0k h (a0z (i9h x (a2v x) (by omega) hf k (by omega)) rfl)
 ·rw [h];exact a0n h (a0z (i1q x 200 hx hf k (by omega)) rfl)
theorem i9u (x:Eng) (hx:x.w≤1070000000) (hf:b7k x.A):Rn 20 N.j9t [.v x.e] ⟨(h6c x).e,[]⟩:=by
 refine Rn.of fun k hk=>?_;have hB:Big=4294967296:=rfl;rw [g6y];unfold e1m c7w;refine a0z (d7a x (by omega) k (by omega)) ?_;unfold h6c;have J:∀ (i:Nat) (x:Eng) G,x.w≤1073000000→b7k x.A→i≤60→b3m k x.A.Down x.A.Broken (i:Int) x.A.Id x.A.G.N x.A.G.S x.A.Lost x.A.Built x.A.Seq x.A.Tail x.A.Gen x.A.Fuse (a2e x.A.Mems) (a1c x.A.Dirty) (b1h x.Wait) (a0p x.Jobs) (a9h x.Done) (a3b x.Log) G false=G ((c0a (a5d x)).st ((i+1:Nat):Int)):=by
  intro i x G hw hf hi;unfold b3m;refine a0k rfl (a0z (h6e x hw hf k (by omega)) ?_);show G ((c0a (a5d x)).st (W64 ((i:Int)+1)))=_;rw [a1l (by omega)]
 refine (d2y Eng.st (b:=b3n k) (n:=60) (W:=x.w) (fun i y G hi hw hfy=>?_) (fun y G=>?_) 60 0 k x (by omega) (by omega) (by omega) hf).trans rfl
 ·have h1:i*24000≤60*24000:=Nat.mul_le_mul_right _ (by omega);unfold b3n;refine a0n (decide_eq_true (show ((i:Nat):Int)<60 by omega)) (a0z (h0n y (by omega) hfy k (by omega)) ?_);cases h:b4p y
  ·rfl
  ·refine a0k rfl ?_;have e1:((W64 (((b1h y.Wait).length:Int)+((a0p y.Jobs).length:Int))) == 0)=!(decide (0<y.Wait.length+y.Jobs.length)):=by
    rw [List.length_map,List.length_map];have l1:=a1o Cmd.w y.Wait;have l2:=a1o Job.w y.Jobs;have e0:y.w=y.A.w+wL Cmd.w y.Wait+wL Job.w y.Jobs+wL Ans.w y.Done+wL Turn.w y.Log:=rfl;rw [show ((y.Wait.length:Int)+(y.Jobs.length:Int))=((y.Wait.length+y.Jobs.length:Nat):Int) by omega,a0e (by omega) (by omega)];by_cases hz:y.Wait.length+y.Jobs.length=0
    ·rw [hz];rfl
    ·rw [decide_eq_true (show 0<y.Wait.length+y.Jobs.length by omega)];exact beq_eq_false_iff_ne.mpr (show ((y.Wait.length+y.Jobs.length:Nat):Int)≠0 by omega)
   show b3m k _ _ _ _ _ _ _ _ _ _ _ _ _ _ _ _ _ _ G _=_;rw [e1];cases decide (0<y.Wait.length+y.Jobs.length)
   ·rfl
   ·exact J i y G (by omega) hfy (by omega)
 ·unfold b3n;exact a0k (by decide) rfl
abbrev Eng.st2 (i:Int) (x:Eng):Int×Int×Int×Int×List (List T)×Int×Int×Int×Int×Int×List (List T)×Int×Bool×Bool×List (List T)×List (List T)×List (List T)×List (List T):=
 (i,x.A.Id,x.A.G.N,x.A.G.S,a2e x.A.Mems,x.A.Lost,x.A.Built,x.A.Seq,x.A.Tail,x.A.Gen,a1c x.A.Dirty,x.A.Fuse,x.A.Down,x.A.Broken,b1h x.Wait,a0p x.Jobs,a9h x.Done,a3b x.Log)
theorem i9v (x:Eng) (hx:x.w≤1070000000) (hf:b7k x.A):Rn 20 N.k2a [.v x.e] ⟨(h6c x).e,[]⟩:=by
 refine Rn.of fun k hk=>?_;have hB:Big=4294967296:=rfl;rw [g6j];unfold e0z c7a;refine a0z (d7b x (by omega) k (by omega)) ?_;unfold h6c;have J:∀ (i:Nat) (x:Eng) G,x.w≤1073000000→b7k x.A→i≤60→a8p k x.A.Down x.A.Broken (i:Int) x.A.Id x.A.G.N x.A.G.S x.A.Lost x.A.Built x.A.Seq x.A.Tail x.A.Gen x.A.Fuse (a2e x.A.Mems) (a1c x.A.Dirty) (b1h x.Wait) (a0p x.Jobs) (a9h x.Done) (a3b x.Log) G true=G (Eng.st2 ((i+1:Nat):Int) (c0a (a5d x))):=by
  intro i x G hw hf hi;unfold a8p;refine a0n rfl (a0z (g7m x (by omega) hf k (by omega)) ?_);unfold a5d;by_cases h:a2v x<0
  ·rw [decide_eq_true h];refine a0k (decide_eq_false (show ¬ a2v x≥0 by omega)) (a0z (i1r x 200 hw hf k (by omega)) ?_);show G (Eng.st2 (W64 ((i:Int)+1)) (c0a (c2h x 200)))=_;rw [a1l (by omega)];rfl
  ·rw [decide_eq_false h];refine a0n (decide_eq_true (show a2v x≥0 by omega)) (a0z (i9i x (a2v x) (by omega) hf k (by omega)) ?_);show G (Eng.st2 (W64 ((i:Int)+1)) (c0a (c3b x (a2v x)).1))=_;rw [a1l (by omega)];rfl
 refine (d2y Eng.st2 (b:=b2t k) (n:=60) (W:=x.w) (fun i y G hi hw hfy=>?_) (fun y G=>?_) 60 0 k x (by omega) (by omega) (by omega) hf).trans rfl
 ·have h1:i*24000≤60*24000:=Nat.mul_le_mul_right _ (by omega);unfold b2t;refine a0n (decide_eq_true (show ((i:Nat):Int)<60 by omega)) (a0z (h0o y (by omega) hfy k (by omega)) ?_);cases h:b4p y
  ·rfl
  ·refine a0n rfl ?_;have e1:decide (W64 (((b1h y.Wait).length:Int)+((a0p y.Jobs).length:Int)) > 0)=decide (0<y.Wait.length+y.Jobs.length):=by
    rw [List.length_map,List.length_map];have l1:=a1o Cmd.w y.Wait;have l2:=a1o Job.w y.Jobs;have e0:y.w=y.A.w+wL Cmd.w y.Wait+wL Job.w y.Jobs+wL Ans.w y.Done+wL Turn.w y.Log:=rfl;rw [show ((y.Wait.length:Int)+(y.Jobs.length:Int))=((y.Wait.length+y.Jobs.length:Nat):Int) by omega,a0e (by omega) (by omega),decide_eq_decide];omega
   show a8p k _ _ _ _ _ _ _ _ _ _ _ _ _ _ _ _ _ _ G _=_;rw [e1];cases decide (0<y.Wait.length+y.Jobs.length)
   ·rfl
   ·exact J i y G (by omega) hfy (by omega)
 ·unfold b2t;exact a0k (by decide) rfl
theorem FnExactDrain_r (x:Eng) (hx:x.Fit):Rn 22 N.k4m [.v x.e] ⟨[.b true],[]⟩:=by
 refine Rn.of fun k hk=>?_;rw [d2k];unfold b9v;refine a0z (i8x x hx _ (by omega) (by omega) k (by omega)) ?_;by_cases hs:(1048576:Int)<(x.w:Int)
 ·exact a0n (by rw [b7b hs];rfl) rfl
 have s1:=b3s (show (x.w:Int)≤1048576 by omega);refine a0k (by rw [s1];exact decide_eq_false (show ¬ ((1048576:Int) - x.w<0) by omega)) ?_;have hB:Big=4294967296:=rfl;have hw:x.w≤1048576:=by omega
 have t1:=i8y x hw k (by omega);have t3:=i9v x (by omega) (Eng.seq hx) k (by omega);have t4:=i9u x (by omega) (Eng.seq hx) k (by omega);have wy:=h3x 60 x;have ey:h6c x=e2e 60 x:=rfl;rw [← ey] at wy;generalize hy:h6c x=y at *;have t5:=h9i y (by omega) k (by omega);have t6:=i8z x hw k (by omega);have c1:=Eng.cn_w x hw;have c2:=Eng.cn_w y (W:=2597156) (by omega);have t8:=g7x x 1 (by omega) (by omega) (by omega) k (by omega);have ta:=g7x y 1 (by omega) (by omega) (by omega) k (by omega);have tb:=i0o y 1 (by omega) (by omega) (by omega) k (by omega);refine a0z t1 (a0z t3 (a0z t1 (a0z t4 (a0z t5 (a0k rfl ?_)))));refine a0z t1 (a0z t6 (a0k rfl (a0z t8 ?_)));refine a0k (decide_eq_false (show ¬ ((1+(x.cn:Nat):Int)<0) by omega)) ?_;refine a0z t5 ?_;unfold a9g;have hneg:decide ((1+(y.cn:Nat):Int)<0)=false:=decide_eq_false (by omega);have hne:((1+(y.cn:Nat):Int) != 1+(y.cn:Nat))=false:=by simp
 refine a0k rfl (a0z ta (a0z tb (a0k hneg (a0k hne ?_))));refine a0z t1 (a0z t4 (a0z t5 (a0k rfl ?_)));exact a0z tb (a0k hneg (a0k hne rfl))
end
end Go.Proofs.YtgilihjnmjgciaaGreat.Ev
