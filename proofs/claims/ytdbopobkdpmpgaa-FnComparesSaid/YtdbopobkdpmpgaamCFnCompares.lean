/- What FnCompares needs, in plain Lean, part 1. No condition. -/
import Derived.Test.YtdbopobkdpmpgaamCqFnCompares0
namespace Go.Proofs.Ytdbopobkdpmpgaa.Ev
open Go
set_option linter.unusedVariables false
set_option linter.unusedSimpArgs false
set_option maxHeartbeats 1000000
noncomputable section
theorem f3k (x:Eng) {n:Nat} (hn:n<x.Jobs.length) (hx:x.w≤1073741000) {cmd:Cmd} {t:Int} {g:List Int} {d:Int} (hj:x.Jobs[n]=⟨cmd,t,g,d⟩) (ht:0≤t∧t≤40) (k:Nat) (hk:Big+4≤k):a5p k (n:Int) ⟨x.e,[]⟩ false=some ⟨(b1w x n ⟨cmd,t,g,d⟩).e++[.b true],[]⟩:=by
 have hB:Big=4294967296:=rfl;obtain ⟨l1,l2,l3,l4,hA⟩:=a4l x (show x.w≤Big by omega);have hL:=c1s hn hj;have hw1:W64 (t+1)=t+1:=a0g (by omega) (by omega);obtain ⟨c0,c2,c4,c5,c6,c7,cC⟩:=f0r hn hj;have e0:x.w=x.A.w+wL Cmd.w x.Wait+wL Job.w x.Jobs+wL Ans.w x.Done+wL Turn.w x.Log:=rfl;unfold a5p;refine a0l rfl ?_;have hwf:=c5n x x.A 0 hn (by omega) (by omega) hj ht k (by omega);rcases (Bool.eq_false_or_eq_true (cmd.Op == 1)).symm with o1 | o1
 ·have ho:b1w x n ⟨cmd,t,g,d⟩=answer { x with Jobs:=del x.Jobs n } cmd ⟨cmd.Id,d,[]⟩:=by
   unfold b1w;rw [show ((⟨cmd,t,g,d⟩:Job).C.Op == 1)=false from o1];rfl
  rw [ho];exact a0l ((congrArg (· == 1) c0).trans o1) hwf
 ·refine a0p ((congrArg (· == 1) c0).trans o1) ?_;show a4k k (n:Int) ⟨x.e,[]⟩ ((at_ (a0t x.Jobs) n 7).asI == 0)=_;rw [c7];rcases (Bool.eq_false_or_eq_true (d == 0)).symm with od | od
  ·have ho:b1w x n ⟨cmd,t,g,d⟩=answer { x with Jobs:=del x.Jobs n } cmd ⟨cmd.Id,d,[]⟩:=by
    unfold b1w;rw [show ((⟨cmd,t,g,d⟩:Job).Code == 0)=false from od,Bool.and_false];rfl
   rw [ho,od];exact hwf
  ·have ho:b1w x n ⟨cmd,t,g,d⟩=answer { x with Jobs:=del x.Jobs n } cmd ⟨cmd.Id,d,g⟩:=by
    unfold b1w;rw [show ((⟨cmd,t,g,d⟩:Job).Code == 0)=true from od,show ((⟨cmd,t,g,d⟩:Job).C.Op == 1)=true from o1];rfl
   rw [ho,od];exact c5o x x.A 0 hn (by omega) (by omega) hj ht k (by omega)
theorem f9c {x:Eng} (h:a9r x=true):x.Log.length≤400:=by
 unfold a9r few at h;simp only [Bool.and_eq_true,decide_eq_true_eq] at h;exact h.2.2.1.2.2.2
theorem f6u {g:Geo} {c:Cmd} (hw:c.w≤Big):0≤a3f g c∧a3f g c≤100:=by
 unfold a3f;cases h:(a1m g c == 0)
 ·exact ⟨Int.le_refl _,show (0:Int)≤100 by omega⟩
 ·have h0:a1m g c=0:=by simpa using h
  obtain ⟨hg,hs,_⟩:=a7o h0;obtain ⟨_,_,_,_⟩:=a1a hg;have:=c9i hs hw;have h1:=b4e g (c.Lba+a3e c - 1);have h2:=b4e g c.Lba;cases h4:(c.Op == 4)
  ·cases h3:(c.Op == 3)
   ·show 0≤a3e c+1∧a3e c+1≤100;omega
   ·obtain ⟨e,e1,e2,e3,e4⟩:=d8v h0 (by simpa using h4) hw;have hp:=e9t g c hw;rw [h] at hp;have hq:a3f g c > 0:=by simpa using hp
    have he:a3f g c=a3e c+a0k g (c.Lba+a3e c - 1) - a0k g c.Lba+2:=by unfold a3f;rw [h,h4,h3];rfl
    show 0≤a3e c+a0k g (c.Lba+a3e c - 1) - a0k g c.Lba+2∧a3e c+a0k g (c.Lba+a3e c - 1) - a0k g c.Lba+2≤100;omega
  ·show 0≤g.S+1∧g.S+1≤100;omega
theorem f9d (x:Eng) (q:Int) (hx:x.w≤1073741000) (hf:b3n x.A):Rn 17 N.g5b [.v x.e,.v [.i q]] ⟨(c3g x q).1.e++[.b (c3g x q).2],[]⟩:=by
 refine Rn.of fun k hk=>?_;have hB:Big=4294967296:=rfl;obtain ⟨l1,l2,l3,l4,hA⟩:=a4l x (show x.w≤Big by omega);rw [e1n];unfold c9d;refine a1s (b7d x (by omega) k (by omega)) (a1s (d6c x (by omega) hf k (by omega)) ?_);have no:(a9r x&&(a0f q 0 ((x.Jobs.length:Int) - 1)&&decide (x.Log.length<400)))=false→a5q k x.A.G.N x.A.G.S q ⟨x.e,[]⟩ true=some ⟨(c3g x q).1.e++[.b (c3g x q).2],[]⟩:=fun h=>by
  rw [show c3g x q=(x,false) by unfold c3g;rw [h];rfl];rfl
 rcases (Bool.eq_false_or_eq_true (a9r x)).symm with ho | ho
 ·exact a0p (show (!(a9r x))=true by rw [ho];rfl) (no (by rw [ho];rfl))
 refine a0l (show (!(a9r x))=false by rw [ho];rfl) ?_;rw [List.length_map,a0g (n:=(x.Jobs.length:Int) - 1) (by omega) (by omega)];refine a1s (a0v _ _ _ k (by omega)) ?_;rcases (Bool.eq_false_or_eq_true (a0f q 0 ((x.Jobs.length:Int) - 1))).symm with hq | hq
 ·exact a0p (show (!(a0f q 0 ((x.Jobs.length:Int) - 1)))=true by rw [hq];rfl) (no (by rw [hq];simp))
 refine a0l (show (!(a0f q 0 ((x.Jobs.length:Int) - 1)))=false by rw [hq];rfl) ?_;have hqb:=a0r hq;have hlog:=f9c ho;by_cases h400:x.Log.length<400
 case neg=>
  show a5q k x.A.G.N x.A.G.S q ⟨x.e,[]⟩ (((a6p x.Log).length:Int) == 400)=_;rw [show (((a6p x.Log).length:Int) == 400)=true by rw [List.length_map];simp;omega];exact no (by rw [decide_eq_false h400];simp)
 show a5q k x.A.G.N x.A.G.S q ⟨x.e,[]⟩ (((a6p x.Log).length:Int) == 400)=_;rw [show (((a6p x.Log).length:Int) == 400)=false by rw [List.length_map];simp;omega];obtain ⟨n,rfl⟩:∃ n:Nat,q=(n:Int):=⟨q.toNat,by omega⟩;have hn:n<x.Jobs.length:=by omega
 have hw:c3g x (n:Int)=(b5p x n,true):=by unfold c3g;rw [ho,hq,decide_eq_true h400];rfl
 rw [hw];obtain ⟨jk,_⟩:=d9x ho hn;obtain ⟨hc,ht0,ht1,hg6⟩:=f0i jk;have hja:b7t x n=x.Jobs[n]:=a2b hn _;obtain ⟨cmd,t,g,d,hj⟩:∃ cmd t g d,x.Jobs[n]=⟨cmd,t,g,d⟩:=⟨_,_,_,_,rfl⟩;rw [hj] at hc ht0 ht1 hg6 hja;simp only at hc ht0 ht1 hg6;obtain ⟨vl,gl⟩:=f4t hn hj;have hcw:cmd.w≤Big:=by have:cmd.w=cmd.Vals.length:=rfl;omega
 obtain ⟨c0,c2,c4,c5,c6,c7,cC⟩:=f0r hn hj;have hst:=f6u (g:=x.A.G) hcw;unfold a5q;refine a0l rfl ?_;refine (a0h (show (decide (0≤(n:Int))&&decide ((n:Int)<((a0t x.Jobs).length:Int)))=true by rw [List.length_map,dlt hn];simp) _).trans ?_;refine (a0h (show Nat.blt n (a0t x.Jobs).length=true by rw [List.length_map];exact Nat.ble_eq_true_of_le hn) _).trans ((a0h (Nat.beq_refl _) _).trans ?_);refine a1s ((congrArg (fun c=>a0d E P0 k N.g3o [.v x.A.G.e,.v c]) cC).trans (e8w x.A.G cmd hcw k (by omega))) ?_;have hcond:decide ((at_ (a0t x.Jobs) n 5).asI<W64 (a3f x.A.G cmd - 1))=decide (t<a3f x.A.G cmd - 1):=by rw [c5,a0g (by omega) (by omega)]
 have hout:=f3k x hn hx hj ⟨ht0,ht1⟩ k (by omega);have hA0:(decide ((b7t x n).At<a3f x.A.G (b7t x n).C - 1)&&((b7t x n).Code == 0))=(decide (t<a3f x.A.G cmd - 1)&&(d == 0)):=by rw [hja]
 rcases (Bool.eq_false_or_eq_true (decide (t<a3f x.A.G cmd - 1))).symm with hts | hts
 ·refine a0l (hcond.trans hts) ?_;rw [show b5p x n=b1w x n ⟨cmd,t,g,d⟩ by unfold b5p;rw [← hja];exact a0l (by rw [hA0,hts];rfl) rfl];exact hout
 refine a0p (hcond.trans hts) ?_;show a5p k (n:Int) ⟨x.e,[]⟩ ((at_ (a0t x.Jobs) n 7).asI == 0)=_;rw [c7];rcases (Bool.eq_false_or_eq_true (d == 0)).symm with hd | hd
 ·rw [show b5p x n=b1w x n ⟨cmd,t,g,d⟩ by unfold b5p;rw [← hja];exact a0l (by rw [hA0,hts,hd];rfl) rfl,hd];exact hout
 ·rw [show b5p x n=b5o x n ⟨cmd,t,g,d⟩ (a9a x.A ⟨cmd,t,g,d⟩) by unfold b5p;rw [← hja];exact a0p (by rw [hA0,hts,hd];rfl) rfl,hd];exact f6t x hn hx hj ⟨ht0,ht1⟩ hf hc (of_decide_eq_true hts) hg6 k (by omega)
def d1g:Nat→Eng→Eng
 | 0,x=>x
 | n+1,x=>bif decide (0<x.Jobs.length) then (bif (c3g x 0).2 then d1g n (c3g x 0).1 else x) else x
def b9g (x:Eng) (n:Int):Eng:=bif a0f n 0 1000 then d1g n.toNat x else x
theorem f0s:∀ (n:Nat) (x:Eng),(d1g n x).w≤x.w+n*120
 | 0,x=>Nat.le_add_right _ _
 | n+1,x=>by
  unfold d1g;cases decide (0<x.Jobs.length)
  ·exact Nat.le_add_right _ _
  ·cases (c3g x 0).2
   ·exact Nat.le_add_right _ _
   ·have h1:=f4r x 0;have h2:=f0s n (c3g x 0).1;show (d1g n (c3g x 0).1).w≤_;rw [Nat.succ_mul];omega
theorem f3l (x:Eng) (q:Int):(c1n x q).1.w≤x.w+1:=by
 unfold c1n;cases hc:a9l x q
 ·show x.w≤_;omega
 obtain ⟨n,rfl,hn⟩:=c9t hc;show (c3b x (n:Int).toNat).w≤_;rw [Int.toNat_natCast];have hwt:b5t x n=x.Wait[n]:=a2b hn _;have h1:=d9w Cmd.w x.Wait hn;have e0:x.w=x.A.w+wL Cmd.w x.Wait+wL Job.w x.Jobs+wL Ans.w x.Done+wL Turn.w x.Log:=rfl;unfold c3b;rw [hwt];cases a1m x.A.G x.Wait[n] == 0
 ·show x.A.w+wL Cmd.w (del x.Wait n)+wL Job.w x.Jobs+wL Ans.w (x.Done++[_])+wL Turn.w (x.Log++[_])≤_;rw [a5t,a5t,a1u,a1u,b6z,b6z];have a1:(⟨x.Wait[n].Id,a1m x.A.G x.Wait[n],[]⟩:Ans).w=0:=rfl;have a2:(⟨x.Wait[n],⟨x.Wait[n].Id,a1m x.A.G x.Wait[n],[]⟩⟩:Turn).w=x.Wait[n].w+0:=rfl;omega
 ·show x.A.w+wL Cmd.w (del x.Wait n)+wL Job.w (x.Jobs++[_])+wL Ans.w x.Done+wL Turn.w x.Log≤_;rw [a5t,a1u,b6z];have a1:(⟨x.Wait[n],0,[],0⟩:Job).w=x.Wait[n].w+0:=rfl;omega
def a3v (x:Eng):Eng:=bif decide (a4d x<0) then b9g x 200 else (c1n x (a4d x)).1
def b5c (x:Eng):Eng:={ x with Done:=[] }
def b8q:Nat→Eng→Eng
 | 0,x=>x
 | n+1,x=>bif a9r x&&decide (0<x.Wait.length+x.Jobs.length) then b8q n (b5c (a3v x)) else x
def f3m (x:Eng):Eng:=b8q 60 x
theorem d2w (x:Eng):(a3v x).w≤x.w+24000:=by
 unfold a3v;cases decide (a4d x<0)
 ·have:=f3l x (a4d x);show (c1n x (a4d x)).1.w≤_;omega
 ·have:=f0s 200 x;have e:b9g x 200=d1g 200 x:=rfl;show (b9g x 200).w≤_;rw [e];omega
theorem e0g (x:Eng):(b5c x).w≤x.w:=by
 show x.A.w+wL Cmd.w x.Wait+wL Job.w x.Jobs+wL Ans.w []+wL Turn.w x.Log≤x.A.w+wL Cmd.w x.Wait+wL Job.w x.Jobs+wL Ans.w x.Done+wL Turn.w x.Log;rw [b6z];omega
theorem e4f:∀ (n:Nat) (x:Eng),(b8q n x).w≤x.w+n*24000
 | 0,x=>Nat.le_add_right _ _
 | n+1,x=>by
  unfold b8q;cases a9r x&&decide (0<x.Wait.length+x.Jobs.length)
  ·exact Nat.le_add_right _ _
  ·have h1:=d2w x;have h2:=e0g (a3v x);have h3:=e4f n (b5c (a3v x));show (b8q n (b5c (a3v x))).w≤_;rw [Nat.succ_mul];omega
theorem d2x:∀ (n:Nat) {x:Eng},b3n x.A→b3n (d1g n x).A
 | 0,_,h=>h
 | n+1,x,h=>by
  unfold d1g;cases decide (0<x.Jobs.length)
  ·exact h
  ·cases (c3g x 0).2
   ·exact h
   ·exact d2x n (d9y 0 h)
theorem e0h {x:Eng} (n:Int) (h:b3n x.A):b3n (b9g x n).A:=by
 unfold b9g;cases a0f n 0 1000
 ·exact h
 ·exact d2x _ h
theorem e5z {x:Eng} (q:Int) (h:b3n x.A):b3n (c1n x q).1.A:=by
 unfold c1n;cases a9l x q
 ·exact h
 ·show b3n (c3b x q.toNat).A;unfold c3b;cases a1m x.A.G (b5t x q.toNat) == 0
  ·exact h
  ·exact h
theorem c1t {x:Eng} (h:b3n x.A):b3n (a3v x).A:=by
 unfold a3v;cases decide (a4d x<0)
 ·exact e5z (a4d x) h
 ·exact e0h 200 h
theorem c9y:∀ (n:Nat) {x:Eng},b3n x.A→b3n (b8q n x).A
 | 0,_,h=>h
 | n+1,x,h=>by
  unfold b8q;cases a9r x&&decide (0<x.Wait.length+x.Jobs.length)
  ·exact h
  ·exact c9y n (x:=b5c (a3v x)) (c1t h)
abbrev Eng.st (i:Int) (x:Eng):Int×Int×Int×Int×Int×Int×Int×Int×Int×Int×Bool×Bool×List (List T)×List (List T)×List (List T)×List (List T)×List (List T)×List (List T):=
 (i,x.A.Id,x.A.G.N,x.A.G.S,x.A.Lost,x.A.Built,x.A.Seq,x.A.Tail,x.A.Gen,x.A.Fuse,x.A.Down,x.A.Broken,a4c x.A.Mems,a3h x.A.Dirty,c1h x.Wait,a0t x.Jobs,c5j x.Done,a6p x.Log)
theorem d2y {b:(Int×Int×Int×Int×Int×Int×Int×Int×Int×Int×Bool×Bool×List (List T)×List (List T)×List (List T)×List (List T)×List (List T)×List (List T)→Option Outs)→Int×Int×Int×Int×Int×Int×Int×Int×Int×Int×Bool×Bool×List (List T)×List (List T)×List (List T)×List (List T)×List (List T)×List (List T)→Option Outs} {n W:Nat}
  (hs:∀ (i:Nat) (x:Eng) G,i<n→x.w≤W+i*120→b3n x.A→b G (x.st i)=bif decide (0<x.Jobs.length) then (bif (c3g x 0).2 then G ((c3g x 0).1.st ((i+1:Nat):Int)) else some ⟨x.e,[]⟩) else some ⟨x.e,[]⟩)
  (he:∀ (x:Eng) G,b G (x.st n)=some ⟨x.e,[]⟩):∀ (d i j:Nat) (x:Eng),i+d=n→d<j→x.w≤W+i*120→b3n x.A→a2z b j (x.st i)=some ⟨(d1g d x).e,[]⟩
 | 0,i,j,x,hi,hj,_,_=>by
  obtain ⟨j,rfl⟩:∃ q,j=q+1:=⟨j - 1,by omega⟩;have:i=n:=by omega
  subst this;exact he x _
 | d+1,i,j,x,hi,hj,hw,hf=>by
  obtain ⟨j,rfl⟩:∃ q,j=q+1:=⟨j - 1,by omega⟩;rw [a2z,hs i x _ (by omega) hw hf];unfold d1g;cases decide (0<x.Jobs.length)
  ·rfl
  ·cases (c3g x 0).2
   ·rfl
   ·have h1:=f4r x 0;exact d2y hs he d (i+1) j (c3g x 0).1 (by omega) (by omega) (by rw [Nat.succ_mul];omega) (d9y 0 hf)
theorem f0t (x:Eng) (n:Int) (hx:x.w≤1073000000) (hf:b3n x.A):Rn 18 N.g5c [.v x.e,.v [.i n]] ⟨(b9g x n).e,[]⟩:=by
 refine Rn.of fun k hk=>?_;have hB:Big=4294967296:=rfl;rw [d0y];unfold b8o b3l;refine a1s (b7d x (by omega) k (by omega)) ?_;unfold b9g;have J0:∀ (i:Nat) (x:Eng) G,a5r k x.A.Down x.A.Broken (i:Int) x.A.Id x.A.G.N x.A.G.S x.A.Lost x.A.Built x.A.Seq x.A.Tail x.A.Gen x.A.Fuse (a4c x.A.Mems) (a3h x.A.Dirty) (c1h x.Wait) (a0t x.Jobs) (c5j x.Done) (a6p x.Log) G false=some ⟨x.e,[]⟩:=fun i x G=>rfl;have J:∀ (i:Nat) (x:Eng) G,x.w≤1073741000→b3n x.A→i≤1000→a5r k x.A.Down x.A.Broken (i:Int) x.A.Id x.A.G.N x.A.G.S x.A.Lost x.A.Built x.A.Seq x.A.Tail x.A.Gen x.A.Fuse (a4c x.A.Mems) (a3h x.A.Dirty) (c1h x.Wait) (a0t x.Jobs) (c5j x.Done) (a6p x.Log) G (decide (((a0t x.Jobs).length:Int) > 0))=bif decide (0<x.Jobs.length) then (bif (c3g x 0).2 then G ((c3g x 0).1.st ((i+1:Nat):Int)) else some ⟨x.e,[]⟩) else some ⟨x.e,[]⟩:=by
  intro i x G hw hf hi;rw [show decide (((a0t x.Jobs).length:Int) > 0)=decide (0<x.Jobs.length) by rw [List.length_map,decide_eq_decide];omega];unfold a5r;cases decide (0<x.Jobs.length)
  ·rfl
  refine a0p rfl (a1s (f9d x 0 hw hf k (by omega)) ?_);rcases (Bool.eq_false_or_eq_true (c3g x 0).2).symm with h | h
  ·rw [h];exact a0p rfl rfl
  ·rw [h];refine a0l rfl ?_;show G ((c3g x 0).1.st (W64 ((i:Int)+1)))=G ((c3g x 0).1.st ((i+1:Nat):Int));rw [a2s (by omega)]
 refine a1s (a0v _ _ _ k (by omega)) ?_;rcases (Bool.eq_false_or_eq_true (a0f n 0 1000)).symm with hn | hn
 ·rw [hn];exact a0p rfl rfl
 rw [hn];refine a0l rfl ?_;have hnb:=a0r hn;obtain ⟨m,rfl⟩:∃ m:Nat,n=(m:Int):=⟨n.toNat,by omega⟩;rw [Int.toNat_natCast];refine (d2y (b:=a5s k (m:Int)) (n:=m) (W:=x.w) (fun i y G hi hw hfy=>?_) (fun y G=>?_) m 0 k x (by omega) (by omega) (by omega) hf).trans rfl
 ·have:i*120≤1000*120:=Nat.mul_le_mul_right _ (by omega);unfold a5s;exact a0p (dlt hi) (J i y G (by omega) hfy (by omega))
 ·unfold a5s;exact a0l dll (J0 m y G)
theorem c9z {V:Type} (st:Int→Eng→V) {b:(V→Option Outs)→V→Option Outs} {n W:Nat}
  (hs:∀ (i:Nat) (x:Eng) G,i<n→x.w≤W+i*24000→b3n x.A→b G (st i x)=bif a9r x&&decide (0<x.Wait.length+x.Jobs.length) then G (st ((i+1:Nat):Int) (b5c (a3v x))) else some ⟨x.e,[]⟩)
  (he:∀ (x:Eng) G,b G (st n x)=some ⟨x.e,[]⟩):∀ (d i j:Nat) (x:Eng),i+d=n→d<j→x.w≤W+i*24000→b3n x.A→a2z b j (st i x)=some ⟨(b8q d x).e,[]⟩
 | 0,i,j,x,hi,hj,_,_=>by
  obtain ⟨j,rfl⟩:∃ q,j=q+1:=⟨j - 1,by omega⟩;have:i=n:=by omega
  subst this;exact he x _
 | d+1,i,j,x,hi,hj,hw,hf=>by
  obtain ⟨j,rfl⟩:∃ q,j=q+1:=⟨j - 1,by omega⟩;rw [a2z,hs i x _ (by omega) hw hf];unfold b8q;cases a9r x&&decide (0<x.Wait.length+x.Jobs.length)
  ·rfl
  ·have h1:=d2w x;have h2:=e0g (a3v x);exact c9z st hs he d (i+1) j (b5c (a3v x)) (by omega) (by omega) (by rw [Nat.succ_mul];omega) (c1t hf)
theorem e6a (x:Eng) (hx:x.w≤1073000000) (hf:b3n x.A):Rn 19 N.g5e [.v x.e] ⟨(a3v x).e,[]⟩:=by
 refine Rn.of fun k hk=>?_;have hB:Big=4294967296:=rfl;rw [c9g];unfold b6x;refine a1s (d9b x (by omega) hf k (by omega)) ?_;unfold a3v;rcases (Bool.eq_false_or_eq_true (decide (a4d x<0))).symm with h | h
 ·rw [h];exact a0l h (a1s (f6m x (a4d x) (by omega) hf k (by omega)) rfl)
 ·rw [h];exact a0p h (a1s (f0t x 200 hx hf k (by omega)) rfl)
theorem f6v (x:Eng) (hx:x.w≤1070000000) (hf:b3n x.A):Rn 20 N.g5f [.v x.e] ⟨(f3m x).e,[]⟩:=by
 refine Rn.of fun k hk=>?_;have hB:Big=4294967296:=rfl;rw [d8t];unfold c4g b6y;refine a1s (b7d x (by omega) k (by omega)) ?_;unfold f3m;have J:∀ (i:Nat) (x:Eng) G,x.w≤1073000000→b3n x.A→i≤60→a8l k x.A.Down x.A.Broken (i:Int) x.A.Id x.A.G.N x.A.G.S x.A.Lost x.A.Built x.A.Seq x.A.Tail x.A.Gen x.A.Fuse (a4c x.A.Mems) (a3h x.A.Dirty) (c1h x.Wait) (a0t x.Jobs) (c5j x.Done) (a6p x.Log) G false=G ((b5c (a3v x)).st ((i+1:Nat):Int)):=by
  intro i x G hw hf hi;unfold a8l;refine a0l rfl (a1s (e6a x hw hf k (by omega)) ?_);show G ((b5c (a3v x)).st (W64 ((i:Int)+1)))=_;rw [a2s (by omega)]
 refine (c9z Eng.st (b:=a8m k) (n:=60) (W:=x.w) (fun i y G hi hw hfy=>?_) (fun y G=>?_) 60 0 k x (by omega) (by omega) (by omega) hf).trans rfl
 ·have h1:i*24000≤60*24000:=Nat.mul_le_mul_right _ (by omega);unfold a8m;refine a0p (decide_eq_true (show ((i:Nat):Int)<60 by omega)) (a1s (d6c y (by omega) hfy k (by omega)) ?_);cases h:a9r y
  ·rfl
  ·refine a0l rfl ?_;have e1:((W64 (((c1h y.Wait).length:Int)+((a0t y.Jobs).length:Int))) == 0)=!(decide (0<y.Wait.length+y.Jobs.length)):=by
    rw [List.length_map,List.length_map];have l1:=a3t Cmd.w y.Wait;have l2:=a3t Job.w y.Jobs;have e0:y.w=y.A.w+wL Cmd.w y.Wait+wL Job.w y.Jobs+wL Ans.w y.Done+wL Turn.w y.Log:=rfl;rw [show ((y.Wait.length:Int)+(y.Jobs.length:Int))=((y.Wait.length+y.Jobs.length:Nat):Int) by omega,a0g (by omega) (by omega)];by_cases hz:y.Wait.length+y.Jobs.length=0
    ·rw [hz];rfl
    ·rw [decide_eq_true (show 0<y.Wait.length+y.Jobs.length by omega)];exact beq_eq_false_iff_ne.mpr (show ((y.Wait.length+y.Jobs.length:Nat):Int)≠0 by omega)
   show a8l k _ _ _ _ _ _ _ _ _ _ _ _ _ _ _ _ _ _ G _=_;rw [e1];cases decide (0<y.Wait.length+y.Jobs.length)
   ·rfl
   ·exact J i y G (by omega) hfy (by omega)
 ·unfold a8m;exact a0l (by decide) rfl
theorem g1k (l:List Int) (hl:LF inB l) (h:l.length≤1048576) (i:Nat) (hi:i≤1000):∃ n:Nat,n<256∧Rn 1 N.g3m [.v [.r (eIs l)],.v [.i (i:Int)]] ⟨[.i (n:Int)],[]⟩:=by
 by_cases hil:i<l.length
 ·have hb:inB l[i]:=hl.2 _ (List.getElem_mem hil);unfold inB at hb;refine ⟨l[i].toNat,by omega,Rn.of fun k hk=>?_⟩;rw [d8h];unfold c8i;refine a0p (by rw [List.length_map];exact dlt hil) ((a0h (by simp;omega) _).trans ?_);rw [Int.toNat_natCast,a9z hil,a2b hil,a0g (by omega) (by omega),Int.toNat_of_nonneg (by omega)]
 ·refine ⟨(i*31+l.length*7) % 256,by omega,Rn.of fun k hk=>?_⟩;rw [d8h];unfold c8i;refine a0l (by rw [List.length_map];exact decide_eq_false (by omega)) ?_;rw [List.length_map,a0g (n:=(i:Int)*31) (by omega) (by omega),a0g (n:=(l.length:Int)*7) (by omega) (by omega),a0g (n:=(i:Int)*31+(l.length:Int)*7) (by omega) (by omega),Int.tmod_eq_emod_of_nonneg (by omega)];have:(((i*31+l.length*7) % 256:Nat):Int)=((i:Int)*31+(l.length:Int)*7) % 256:=by omega
  rw [this]
def f4u (b n:Int):Eng×Bool:=b7e (c4l 1 ⟨3,2⟩) ⟨5,1,b,0,[0,n]⟩
def f3n (b n n2:Int):Eng×Bool:=b7e (f4u b n).1 ⟨5,2,b,0,[0,n2]⟩
def e4g (b n n2:Int):Eng:=f3m (f3n b n n2).1
def g0t (b n n2:Int):Bool:=
 (f4u b n).2&&((f3n b n n2).2&&(decide ((e4g b n n2).Log.length=2)&&((((e4g b n n2).Log.getD 0 default).A.Id == 1)&&((((e4g b n n2).Log.getD 0 default).A.Code == 0)&&((((e4g b n n2).Log.getD 1 default).A.Code == 4)&&(((a1o (e4g b n n2).A b).1 == n)&&((a1o (e4g b n n2).A b).2 == 0)))))))
theorem f6w:((List.range 4).all fun b=>(List.range 256).all fun n=>g0t b ((n+1:Nat):Int) ((n+2:Nat):Int))=true:=by decide +kernel
theorem e4h (x:Eng) (c:Cmd):(b7e x c).1.A=x.A:=by
 unfold b7e;cases a9r x&&decide (x.Wait.length<8) <;> rfl
theorem FnCompares_r (l:List Int) (hl:LF inB l):Rn 24 N.g5g [.v [.r (eIs l)]] ⟨[.b true],[]⟩:=by
 refine Rn.of fun k hk=>?_;have hB:Big=4294967296:=rfl;rw [c2x];unfold b4d;refine a1s (g0p l k (by omega)) ?_;by_cases hbig:(l.length:Int) > 1048576
 ·exact a0p (decide_eq_true hbig) rfl
 refine a0l (decide_eq_false hbig) ?_;obtain ⟨nb,hb1,hb2⟩:=g1k l hl (by omega) 2 (by omega);obtain ⟨nn,hn1,hn2⟩:=g1k l hl (by omega) 3 (by omega);refine a1s (f2y 1 ⟨3,2⟩ k (by omega)) (a1s (hb2 k (by omega)) (a1s (hn2 k (by omega)) ?_));have e1:Int.tmod (nb:Int) 4=((nb % 4:Nat):Int):=by rw [Int.tmod_eq_emod_of_nonneg (by omega)];omega
 have e2:W64 (1+(nn:Int))=((nn+1:Nat):Int):=by rw [a0g (by omega) (by omega)];omega
 have e3:W64 (((nn+1:Nat):Int)+1)=((nn+2:Nat):Int):=by rw [a0g (by omega) (by omega)];omega
 have hc:g0t (Int.tmod (nb:Int) 4) (W64 (1+(nn:Int))) (W64 (W64 (1+(nn:Int))+1))=true:=by
  rw [e1,e2,e3];have h1:=List.all_eq_true.1 f6w (nb % 4) (List.mem_range.2 (by omega));exact List.all_eq_true.1 h1 nn (List.mem_range.2 hn1)
 have w0:=f2z 1 ⟨3,2⟩;have s0:b3n (c4l 1 ⟨3,2⟩).A:=⟨by show inI 0;unfold inI;omega,by show inI 0;unfold inI;omega⟩;generalize hb:Int.tmod (nb:Int) 4=b at hc;generalize hn:W64 (1+(nn:Int))=n at hc;generalize hn3:W64 (n+1)=n2 at hc;have c1:(⟨5,1,b,0,[0,n]⟩:Cmd).w=2:=rfl;have c2:(⟨5,2,b,0,[0,n2]⟩:Cmd).w=2:=rfl;have wx:=e3r (c4l 1 ⟨3,2⟩) ⟨5,1,b,0,[0,n]⟩;have wy:=e3r (f4u b n).1 ⟨5,2,b,0,[0,n2]⟩;have ex:b7e (c4l 1 ⟨3,2⟩) ⟨5,1,b,0,[0,n]⟩=f4u b n:=rfl;have ey:b7e (f4u b n).1 ⟨5,2,b,0,[0,n2]⟩=f3n b n n2:=rfl;have ez:f3m (f3n b n n2).1=e4g b n n2:=rfl;have ez2:b8q 60 (f3n b n n2).1=e4g b n n2:=rfl;have sx:b3n (f4u b n).1.A:=by rw [← ex,e4h];exact s0
 have sy:b3n (f3n b n n2).1.A:=by rw [← ey,e4h];exact sx
 have sz:=c9y 60 sy;have wz:=e4f 60 (f3n b n n2).1;have t1:=e3q (c4l 1 ⟨3,2⟩) ⟨5,1,b,0,[0,n]⟩ (by omega) (by omega) s0 k (by omega);have t2:=e3q (f4u b n).1 ⟨5,2,b,0,[0,n2]⟩ (by rw [← ex];omega) (by omega) sx k (by omega);rw [ex] at wx t1;rw [ey] at wy t2;have t3:=f6v (f3n b n n2).1 (by omega) sy k (by omega);rw [ez] at t3;rw [ez2] at sz wz;have az:=f3h (e4g b n n2);have t4:=c3a (e4g b n n2).A (by omega) sz b k (by omega);unfold g0t at hc;obtain ⟨h1,hc⟩:=a0a hc;obtain ⟨h2,hc⟩:=a0a hc;obtain ⟨h3,hc⟩:=a0a hc;obtain ⟨h4,hc⟩:=a0a hc;obtain ⟨h5,hc⟩:=a0a hc;obtain ⟨h6,hc⟩:=a0a hc;obtain ⟨h7,h8⟩:=a0a hc;have h3:(e4g b n n2).Log.length=2:=of_decide_eq_true h3;have q0:0<(e4g b n n2).Log.length:=by omega
 have q1:1<(e4g b n n2).Log.length:=by omega
 rw [a2b q0] at h4 h5;rw [a2b q1] at h6;clear ex ey ez ez2 wx wy wz sx sy sz az w0 s0;generalize e4g b n n2=z at *;generalize f3n b n n2=y at *;generalize f4u b n=x at *;generalize c4l 1 ⟨3,2⟩=x0 at *;simp only [Outs.g6t,List.getD_cons_zero,T.g6u];rw [hb,hn,hn3];refine a1s t1 (a1s t2 (a1s t3 (a1s t4 (a0p h1 (a0p h2 (a0p (show ((((a6p z.Log).length:Nat):Int) == 2)=true by rw [List.length_map,h3];rfl) ?_))))));refine (a0h (by show decide ((0:Int)<(((a6p z.Log).length:Nat):Int))=true;rw [List.length_map,h3];rfl) _).trans (a0p (show ((at_ (a6p z.Log) 0 5).asI == 1)=true by rw [a1p _ q0];exact h4) ?_);refine (a0h (by show decide ((0:Int)<(((a6p z.Log).length:Nat):Int))=true;rw [List.length_map,h3];rfl) _).trans (a0p (show ((at_ (a6p z.Log) 0 6).asI == 0)=true by rw [a1p _ q0];exact h5) ?_);refine (a0h (by show decide ((1:Int)<(((a6p z.Log).length:Nat):Int))=true;rw [List.length_map,h3];rfl) _).trans (a0p (show ((at_ (a6p z.Log) 1 6).asI == 4)=true by rw [a1p _ q1];exact h6) (a0p h7 ?_));show some (⟨[.b ((a1o z.A b).2 == 0)],[]⟩:Outs)=_;rw [h8]
end
end Go.Proofs.Ytdbopobkdpmpgaa.Ev
