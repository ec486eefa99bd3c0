/- What FnExactWorkAll needs, in plain Lean, part 1. No condition. -/
import Derived.Test.YtjadnceefhbphaaGreatmCqFnExactWorkAll0
namespace Go.Proofs.YtjadnceefhbphaaGreat.Ev
open Go
set_option linter.unusedVariables false
set_option linter.unusedSimpArgs false
set_option maxHeartbeats 1000000
noncomputable section
def a4l (m:Dsk) (n:Int) (s:List Int):Dsk×Bool:=
 bif c3j m&&(!m.Failed&&(b2v m n&&(c4f s&&decide (m.Cache.length<60)))) then ({ m with Cache:=m.Cache++[⟨n,s⟩],Bad:=without n m.Bad },true) else (m,false)
theorem h1z (m:Dsk) (n:Int) (s:List Int):(a4l m n s).1.w≤m.w+s.length+1:=by
 unfold a4l;cases c3j m&&(!m.Failed&&(b2v m n&&(c4f s&&decide (m.Cache.length<60))))
 ·show m.w≤_;omega
 ·have h1:=e8o n m.Bad;have e1:(⟨n,s⟩:Wr).w=s.length:=rfl;show wL List.length m.Secs+wL Wr.w (m.Cache++[⟨n,s⟩])+(without n m.Bad).length≤wL List.length m.Secs+wL Wr.w m.Cache+m.Bad.length+s.length+1;rw [c6t,a6s,g9a];omega
theorem g0i (m:Dsk) {W:Nat} (h:m.w≤W):m.Secs.length≤W∧m.Cache.length≤W∧m.Bad.length≤W:=by
 have hs:=a1s List.length m.Secs;have hc:=a1s Wr.w m.Cache;have e0:m.w=wL List.length m.Secs+wL Wr.w m.Cache+m.Bad.length:=rfl;omega
theorem h2a (m:Dsk) (n:Int) (s:List Int) (h:m.w≤2147483648) (hs:s.length≤Big):Rn 8 N.j5q [.v m.e,.v [.i n],.v [.r (eIs s)]] ⟨(a4l m n s).1.e++[.b (a4l m n s).2],[]⟩:=by
 refine Rn.of fun k hk=>?_;have hB:Big=4294967296:=rfl;obtain ⟨l1,l2,l3⟩:=g0i m h;rw [e6q];unfold c6d;refine a1e (e8k m (by omega) k (by omega)) ?_;refine a1e (f9y m (by omega) k (by omega)) ?_;unfold a4l;cases hm:c3j m
 ·rfl
 refine a0k rfl ?_;rcases Bool.eq_false_or_eq_true m.Failed with hf | hf
 ·refine a0o hf ?_;rw [hf];rfl
 refine a0k hf ?_;refine a1e (e2c m n (by omega) k (by omega)) ?_;cases hh:b2v m n
 ·rw [hf];rfl
 refine a0k rfl ?_;refine a1e (g6z s hs k (by omega)) ?_;cases ho:c4f s
 ·rw [hf];rfl
 refine a0k rfl ?_;have hc60:m.Cache.length≤60:=by
  unfold c3j at hm;simp only [Bool.and_eq_true,decide_eq_true_eq] at hm;exact hm.2.2.2.2
 unfold a4q;by_cases h60:m.Cache.length<60
 ·refine a0k (show (((List.map Wr.e m.Cache).length:Int) == 60)=false by simp;omega) ?_;refine a1e (a3j s hs k (by omega)) ?_;refine (a0g (by simp;omega) _).trans ?_;refine a1e (h6y m.Bad (by omega) n k (by omega)) ?_;rw [decide_eq_true h60];have e1:d4r (m.Cache++[⟨n,s⟩])=d4r m.Cache++[(⟨n,s⟩:Wr).e]:=by rw [d4r,d4r,List.map_append];rfl
  show some (⟨[.r (c7m m.Secs),.r (d4r m.Cache++[(⟨n,s⟩:Wr).e]),.b m.Failed,.r (eIs (without n m.Bad)),.b true],[]⟩:Outs)=_;rw [hf,← e1];rfl
 ·refine a0o (show (((List.map Wr.e m.Cache).length:Int) == 60)=true by simp;omega) ?_;rw [decide_eq_false h60];rw [hf];rfl
theorem h2b (m:Dsk) (n:Int) (s:List Int) (h:m.w≤2147483648) (hs:s.length≤Big):Rn 8 N.j4w [.v m.e,.v [.i n],.v [.r (eIs s)]] ⟨(a4l m n s).1.e++[.b (a4l m n s).2],[]⟩:=by
 refine Rn.of fun k hk=>?_;have hB:Big=4294967296:=rfl;obtain ⟨l1,l2,l3⟩:=g0i m h;rw [e5l];unfold c5f;refine a1e (e8l m (by omega) k (by omega)) ?_;refine a1e (f9z m (by omega) k (by omega)) ?_;unfold a4l;cases hm:c3j m
 ·rfl
 refine a0k rfl ?_;rcases Bool.eq_false_or_eq_true m.Failed with hf | hf
 ·refine a0o hf ?_;rw [hf];rfl
 refine a0k hf ?_;rw [List.length_map,a0e (n:=(m.Secs.length:Int) - 1) (by omega) (by omega)];refine a1e (a1a _ _ _ k (by omega)) ?_;cases hh:b2v m n
 ·unfold b2v at hh;rw [hh];rw [hf];rfl
 have hh':=hh;unfold b2v at hh';rw [hh'];refine a0k rfl ?_;refine a1e (g7a s hs k (by omega)) ?_;cases ho:c4f s
 ·rw [hf];rfl
 refine a0k rfl ?_;unfold a4o;by_cases h60:m.Cache.length<60
 ·refine a0k (show decide (((List.map Wr.e m.Cache).length:Int)≥60)=false by simp;omega) ?_;refine (a0g (by simp;omega) _).trans ?_;refine (a0g (by simp;omega) _).trans ?_;refine a1e (h6z m.Bad (by omega) n k (by omega)) ?_;rw [decide_eq_true h60];have e1:d4r (m.Cache++[⟨n,s⟩])=d4r m.Cache++[(⟨n,s⟩:Wr).e]:=by rw [d4r,d4r,List.map_append];rfl
  show some (⟨[.r (c7m m.Secs),.r (d4r m.Cache++[(⟨n,s⟩:Wr).e]),.b m.Failed,.r (eIs (without n m.Bad)),.b true],[]⟩:Outs)=_;rw [hf,← e1];rfl
 ·refine a0o (show decide (((List.map Wr.e m.Cache).length:Int)≥60)=true by simp;omega) ?_;rw [decide_eq_false h60];rw [hf];rfl
def e8p (s:List (List Int)) (l:List Wr):List (List Int):=l.foldl (fun s x=>s.set x.N.toNat x.S) s
def a5e (m:Dsk):Dsk:=bif c3j m&&!m.Failed then { m with Secs:=e8p m.Secs m.Cache,Cache:=[] } else m
theorem h7a (l:List (List Int)) (i:Nat) (s:List Int) (h:i<l.length):a0x (c7m l) i 0 [.r (eIs s)]=c7m (l.set i s):=by
 unfold a0x;have e:(c7m l).getD i []=[.r (eIs l[i])]:=by
  rw [List.getD_eq_getElem?_getD,List.getElem?_map,List.getElem?_eq_getElem h];rfl
 rw [e];show (c7m l).set i [.r (eIs s)]=_;rw [c7m,c7m,List.map_set]
theorem g9q (m:Dsk) (hm:c3j m=true) (hw:m.w≤Big) (r:List (List Int)→Option Outs) {b:(Int×List (List T)→Option Outs)→Int×List (List T)→Option Outs}
  (hb:∀ i (hi:i<m.Cache.length) s (G:Int×List (List T)→Option Outs),s.length=m.Secs.length→b G ((i:Int),c7m s)=G (((i+1:Nat):Int),c7m (s.set m.Cache[i].N.toNat m.Cache[i].S)))
  (he:∀ s (G:Int×List (List T)→Option Outs),b G ((m.Cache.length:Int),c7m s)=r s) {j:Nat} (hj:m.Cache.length<j):a1k b j (0,c7m m.Secs)=r (e8p m.Secs m.Cache):=by
 have key:∀ (R A:List Wr) (s:List (List Int)) (j:Nat),m.Cache=A++R→s.length=m.Secs.length→R.length<j→a1k b j ((A.length:Int),c7m s)=r (e8p s R):=by
  intro R
  induction R with
  | nil=>
   intro A s j hA hs hj;obtain ⟨j,rfl⟩:∃ q,j=q+1:=⟨j - 1,by omega⟩;rw [List.append_nil] at hA;rw [← hA];exact he s _
  | cons x R ih=>
   intro A s j hA hs hj;simp only [List.length_cons] at hj;obtain ⟨j,rfl⟩:∃ q,j=q+1:=⟨j - 1,by omega⟩;have hi:A.length<m.Cache.length:=by rw [hA];simp
   have hx:m.Cache[A.length]=x:=by simp [hA]
   have ih1:=ih (A++[x]) (s.set x.N.toNat x.S) j (by rw [hA];simp) (by rw [List.length_set];exact hs) (by omega);simp only [List.length_append,List.length_cons,List.length_nil] at ih1;rw [show A.length+(0+1)=A.length+1 by omega] at ih1;rw [a1k,hb A.length hi s _ hs,hx,ih1];rfl
 exact key m.Cache [] m.Secs j rfl rfl hj
theorem g9r {m:Dsk} (hm:c3j m=true) {i:Nat} (hi:i<m.Cache.length):0≤m.Cache[i].N∧m.Cache[i].N<m.Secs.length:=by
 unfold c3j at hm;simp only [Bool.and_eq_true,List.all_eq_true] at hm;have:=a0y (hm.2.1 _ (List.getElem_mem hi)).1;omega
theorem h2c (m:Dsk) (h:m.w≤Big):Rn 6 N.j4c [.v m.e] ⟨(a5e m).e,[]⟩:=by
 refine Rn.of fun k hk=>?_;have hB:Big=4294967296:=rfl;obtain ⟨l1,l2,l3⟩:=g0i m h;rw [e6n];unfold c6a b2n;refine a1e (e8k m h k (by omega)) ?_;refine a1e (f9y m h k (by omega)) ?_;unfold a5e;cases hm:c3j m
 ·rfl
 refine a0k rfl ?_;rcases Bool.eq_false_or_eq_true m.Failed with hf | hf
 ·refine a0o hf ?_;rw [hf];rfl
 refine a0k hf ?_;show a1k (a6g k (d4r m.Cache) ⟨m.e,[]⟩) k (0,c7m m.Secs)=_;refine (g9q m hm h (fun s=>some ⟨({ m with Secs:=s,Cache:=[] }:Dsk).e,[]⟩) (fun i hi s G hs=>?_) (fun s G=>?_) (by omega)).trans ?_
 ·obtain ⟨c1,c2⟩:=g9r hm hi;have hwi:m.Cache[i].S.length≤Big:=by
   have:=a1t Wr.w hi;have e0:m.w=wL List.length m.Secs+wL Wr.w m.Cache+m.Bad.length:=rfl;have e1:m.Cache[i].w=m.Cache[i].S.length:=rfl;omega
  unfold a6g;simp only [List.length_map,a0t _ hi,dlt hi,d0,Bool.and_self,a0i,cond_true,Int.toNat_natCast,B2_,T.k2a,T.k2d];refine a1e (a3j m.Cache[i].S hwi k (by omega)) ?_;refine (a0g (by simp;omega) _).trans ?_;rw [a1p (by omega)];show G (_,a0x (c7m s) m.Cache[i].N.toNat 0 [.r (eIs m.Cache[i].S)])=_;rw [h7a _ _ _ (by omega)]
 ·unfold a6g;simp only [List.length_map,dll,cond_false];rfl
 ·simp only [hf];rfl
theorem h2d (m:Dsk) (h:m.w≤Big):Rn 6 N.j3r [.v m.e] ⟨(a5e m).e,[]⟩:=by
 refine Rn.of fun k hk=>?_;have hB:Big=4294967296:=rfl;obtain ⟨l1,l2,l3⟩:=g0i m h;rw [e5j];unfold c5d b1u;refine a1e (e8l m h k (by omega)) ?_;refine a1e (f9z m h k (by omega)) ?_;unfold a5e;cases hm:c3j m
 ·rfl
 refine a0k rfl ?_;rcases Bool.eq_false_or_eq_true m.Failed with hf | hf
 ·refine a0o hf ?_;rw [hf];rfl
 refine a0k hf ?_;show a1k (a6e k ⟨m.e,[]⟩) k (0,c7m m.Secs)=_;refine (g9q m hm h (fun s=>some ⟨({ m with Secs:=s,Cache:=[] }:Dsk).e,[]⟩) (fun i hi s G hs=>?_) (fun s G=>?_) (by omega)).trans ?_
 ·obtain ⟨c1,c2⟩:=g9r hm hi;unfold a6e;simp only [Outs.k1z,Dsk.e,List.length_map,a0t _ hi,dlt hi,d0,Bool.and_self,a0i,cond_true,Int.toNat_natCast,B2_,T.k2a,T.k2d];refine (a0g (by simp;omega) _).trans ?_;rw [a1p (by omega),h7a _ _ _ (by omega)]
 ·unfold a6e;simp only [Outs.k1z,Dsk.e,B2_,T.k2d,List.length_map,dll,cond_false];rfl
 ·simp only [hf];rfl
def b8p (s:Super):Bool:=(a0m s.Id 1 60000&&(a0m s.Gen 0 60000&&a0m s.Tail 0 60000))&&(a7x ⟨s.N,s.S⟩&&(a0m s.Role 0 (s.N - 1)&&c6x ⟨s.N,s.S⟩ s.Lost s.Built))
def b2y (s:Super):List Int:=bif b8p s then [21317,s.Id,s.Gen,s.Role,s.N,s.S,s.Tail,s.Lost+1,s.Built] else []
theorem h7b (s:Super):Rn 4 N.j8p [.v s.e] ⟨[.b (b8p s)],[]⟩:=by
 refine Rn.of fun k hk=>?_;have hB:Big=4294967296:=rfl;rw [f1z];unfold c9p b8p;refine a1e (a1q _ _ _ k (by omega)) ?_;cases a0m s.Id 1 60000
 ·rfl
 refine a0o rfl (a1e (a1q _ _ _ k (by omega)) ?_);cases a0m s.Gen 0 60000
 ·rfl
 refine a0o rfl (a1e (a1q _ _ _ k (by omega)) ?_);cases a0m s.Tail 0 60000
 ·rfl
 unfold b2o;refine a0o rfl (a1e (e7t ⟨s.N,s.S⟩ k (by omega)) ?_);cases hg:a7x ⟨s.N,s.S⟩
 ·rfl
 have:=a1l hg;simp only at this;rw [a0e (n:=s.N - 1) (by omega) (by omega)];refine a0o rfl (a1e (a1q _ _ _ k (by omega)) ?_);cases a0m s.Role 0 (s.N - 1)
 ·rfl
 exact a0o rfl (a1e (g9i ⟨s.N,s.S⟩ hg s.Lost s.Built k (by omega)) rfl)
theorem h7c (s:Super):Rn 4 N.j7o [.v s.e] ⟨[.b (b8p s)],[]⟩:=by
 refine Rn.of fun k hk=>?_;have hB:Big=4294967296:=rfl;rw [f1a];unfold c8w b8p;refine a1e (e7u ⟨s.N,s.S⟩ k (by omega)) ?_;cases hg:a7x ⟨s.N,s.S⟩
 ·rw [Bool.false_and,Bool.and_false];rfl
 have:=a1l hg;simp only at this;refine a0k rfl (a1e (a1a _ _ _ k (by omega)) ?_);cases a0m s.Id 1 60000
 ·rfl
 refine a0k rfl (a1e (a1a _ _ _ k (by omega)) ?_);cases a0m s.Gen 0 60000
 ·rfl
 rw [a0e (n:=s.N - 1) (by omega) (by omega)];refine a0k rfl (a1e (a1a _ _ _ k (by omega)) ?_);cases a0m s.Role 0 (s.N - 1)
 ·rw [Bool.false_and,Bool.and_false,Bool.and_false];rfl
 refine a0k rfl (a1e (a1a _ _ _ k (by omega)) ?_);cases a0m s.Tail 0 60000
 ·rfl
 unfold a5i;rw [a0e (n:=s.N - 1) (by omega) (by omega)];refine a0k rfl (a1e (a1a _ _ _ k (by omega)) ?_);unfold c6x;cases hl:a0m s.Lost (-1) (s.N - 1)
 ·rfl
 have hl:=a0y hl;refine a0o rfl (a1e (a1a _ _ _ k (by omega)) ?_);cases a0m s.Built 0 s.S
 ·rfl
 refine a0o rfl ?_;by_cases h0:s.Lost≥0
 ·rw [decide_eq_true h0,show (s.Lost != -1)=true by simp;omega];simp
 ·rw [decide_eq_false h0,show s.Lost = -1 by omega];simp
theorem h2e (s:Super) (hl:inI s.Lost):Rn 5 N.j8q [.v s.e] ⟨[.r (eIs (b2y s))],[]⟩:=by
 refine Rn.of fun k hk=>?_;rw [e6p];unfold c6c;refine a1e (h7b s k (by omega)) ?_;unfold b2y;cases ho:b8p s
 ·rfl
 have h1:a0m s.Lost (-1) (s.N - 1)=true∧a7x ⟨s.N,s.S⟩=true:=by
  unfold b8p c6x at ho;simp only [Bool.and_eq_true] at ho;exact ⟨ho.2.2.2.1,ho.2.1⟩
 have h2:=a0y h1.1;have h3:=a1l h1.2;simp only at h3;refine a0k rfl ?_;rw [a0e (n:=s.Lost+1) (by omega) (by omega)];rfl
theorem h2f (s:Super) (hl:inI s.Lost):Rn 5 N.j7p [.v s.e] ⟨[.r (eIs (b2y s))],[]⟩:=by
 refine Rn.of fun k hk=>?_;rw [e5k];unfold c5e;refine a1e (h7c s k (by omega)) ?_;unfold b2y;cases ho:b8p s
 ·rfl
 have h1:a0m s.Lost (-1) (s.N - 1)=true∧a7x ⟨s.N,s.S⟩=true:=by
  unfold b8p c6x at ho;simp only [Bool.and_eq_true] at ho;exact ⟨ho.2.2.2.1,ho.2.1⟩
 have h2:=a0y h1.1;have h3:=a1l h1.2;simp only at h3;refine a0k rfl ?_;rw [a0e (n:=s.Lost+1) (by omega) (by omega)];rfl
theorem d0u (s:Super):c4f (b2y s)=true∧(b2y s).length≤9:=by
 unfold b2y;cases ho:b8p s
 ·exact ⟨rfl,Nat.zero_le _⟩
 ·unfold b8p c6x at ho;simp only [Bool.and_eq_true] at ho;obtain ⟨⟨a1,a2,a3⟩,a4,a5,a6,a7,a8⟩:=ho;have a1:=a0y a1;have a2:=a0y a2;have a3:=a0y a3;have a4:=a1l a4;have a5:=a0y a5;have a6:=a0y a6;have a7:=a0y a7;simp only at a4 a5 a6 a7;refine ⟨?_,by simp⟩;unfold c4f b0o c1m a0m;simp;omega
def op (a:Arr):Arr:=bif a.Down then a else bif a.Fuse == 0 then { a with Down:=true,Fuse:=-1 } else bif decide (a.Fuse > 0) then { a with Fuse:=a.Fuse - 1 } else a
def dsk (a:Arr) (m:Nat):Dsk:=a.Mems.getD m default
def h2s (a:Arr) (m:Nat) (d:Dsk):Arr:={ a with Mems:=a.Mems.set m d }
def put (a:Arr) (m:Nat) (n:Int) (s:List Int):Arr:=bif (dsk a m).Failed then a else bif (op a).Down then op a else h2s (op a) m (a4l (dsk a m) n s).1
def a3w (a:Arr) (m:Nat):Arr:=bif (dsk a m).Failed then a else bif (op a).Down then op a else h2s (op a) m (a5e (dsk a m))
def run (f:Arr→Nat→Arr):Nat→Nat→Arr→Arr
 | _,0,a=>a
 | i,n+1,a=>run f (i+1) n (f a i)
def b3g (a:Arr):Arr:=run a3w 0 a.Mems.length a
def c0t (a:Arr) (m:Nat):Super:=⟨a.Id,a.Gen,m,a.G.N,a.G.S,a.Tail,a.Lost,a.Built⟩
def a8l (a:Arr) (m:Nat):Arr:=put a m (Int.tmod a.Gen 2) (b2y (c0t a m))
def mark (a:Arr):Arr:=b3g (run a8l 0 a.Mems.length { a with Gen:=a.Gen+1 })
def a5c (a:Arr):Arr:=bif (b3g a).Down then b3g a else mark { b3g a with Tail:=(b3g a).Seq }
structure Keep (a b:Arr):Prop where
 id:b.Id=a.Id
 g:b.G=a.G
 n:b.Mems.length=a.Mems.length
 lost:b.Lost=a.Lost
 built:b.Built=a.Built
 seq:b.Seq=a.Seq
 tail:b.Tail=a.Tail
 gen:b.Gen=a.Gen
 dirty:b.Dirty=a.Dirty
 broken:b.Broken=a.Broken
theorem Keep.refl (a:Arr):Keep a a:=⟨rfl,rfl,rfl,rfl,rfl,rfl,rfl,rfl,rfl,rfl⟩
theorem Keep.trans {a b c:Arr} (h:Keep a b) (k:Keep b c):Keep a c:=
 ⟨k.id.trans h.id,k.g.trans h.g,k.n.trans h.n,k.lost.trans h.lost,k.built.trans h.built,k.seq.trans h.seq,k.tail.trans h.tail,k.gen.trans h.gen,k.dirty.trans h.dirty,k.broken.trans h.broken⟩
def Fz (a:Arr):Prop:=-1≤a.Fuse∧a.Fuse≤1000
theorem g7j {a:Arr} (h:a.Down=true):op a=a:=by unfold op;rw [h];rfl
theorem e2e (a:Arr):op a=a∨op a={ a with Down:=true,Fuse:=-1 }∨(0<a.Fuse∧op a={ a with Fuse:=a.Fuse - 1 }):=by
 unfold op;cases a.Down
 ·cases h0:(a.Fuse == 0)
  ·cases h1:decide (a.Fuse > 0)
   ·exact .inl rfl
   ·exact .inr (.inr ⟨of_decide_eq_true h1,rfl⟩)
  ·exact .inr (.inl rfl)
 ·exact .inl rfl
theorem g0j (a:Arr):Keep a (op a):=by
 rcases e2e a with h | h | ⟨_,h⟩ <;> rw [h] <;> exact ⟨rfl,rfl,rfl,rfl,rfl,rfl,rfl,rfl,rfl,rfl⟩
theorem e8q (a:Arr):(op a).Mems=a.Mems:=by
 rcases e2e a with h | h | ⟨_,h⟩ <;> rw [h]
theorem i1i {a:Arr} (hf:Fz a):Fz (op a):=by
 unfold Fz at *;rcases e2e a with h | h | ⟨h0,h⟩ <;> rw [h]
 ·exact hf
 ·exact ⟨Int.le_refl _,show (-1:Int)≤1000 by omega⟩
 ·exact ⟨show -1≤a.Fuse - 1 by omega,show a.Fuse - 1≤1000 by omega⟩
theorem j1h (a:Arr):(op a).w=a.w:=by
 rcases e2e a with h | h | ⟨_,h⟩ <;> rw [h] <;> rfl
theorem g9s {α:Type} (w:α→Nat):∀ (l:List α) (i:Nat) (x:α) (h:i<l.length),wL w (l.set i x)+w l[i]=wL w l+w x
 | y :: l,0,x,h=>by rw [List.set_cons_zero,a6s,a6s];simp only [List.getElem_cons_zero];omega
 | y :: l,i+1,x,h=>by
  have:=g9s w l i x (by simpa using h);rw [List.set_cons_succ,a6s,a6s];simp only [List.getElem_cons_succ];omega
theorem g9t {a:Arr} {m:Nat} (h:m<a.Mems.length):dsk a m=a.Mems[m]:=a2u h _
theorem g4v (a:Arr) (m:Nat) (d:Dsk):Keep a (h2s a m d):=⟨rfl,rfl,List.length_set,rfl,rfl,rfl,rfl,rfl,rfl,rfl⟩
theorem i3b (a:Arr) (m:Nat) (d:Dsk) {c:Nat} (h:d.w≤(dsk a m).w+c):(h2s a m d).w≤a.w+c:=by
 show wL Dsk.w (a.Mems.set m d)+wL Ent.w a.Dirty≤wL Dsk.w a.Mems+wL Ent.w a.Dirty+c;by_cases hm:m<a.Mems.length
 ·have:=g9s Dsk.w a.Mems m d hm;rw [g9t hm] at h;omega
 ·rw [List.set_eq_of_length_le (by omega)];omega
theorem g9u:∀ (l:List Wr) (s:List (List Int)),wL List.length (e8p s l)≤wL List.length s+wL Wr.w l
 | [],s=>Nat.le_add_right _ _
 | x :: l,s=>by
  have h1:=g9u l (s.set x.N.toNat x.S);have e:e8p s (x :: l)=e8p (s.set x.N.toNat x.S) l:=rfl;rw [e,a6s];have e1:x.w=x.S.length:=rfl;by_cases hi:x.N.toNat<s.length
  ·have:=g9s List.length s _ x.S hi;omega
  ·rw [List.set_eq_of_length_le (by omega)] at h1 ⊢;omega
theorem h2g (m:Dsk):(a5e m).w≤m.w:=by
 unfold a5e;cases c3j m&&!m.Failed
 ·exact Nat.le_refl _
 ·have:=g9u m.Cache m.Secs;show wL List.length (e8p m.Secs m.Cache)+wL Wr.w []+m.Bad.length≤wL List.length m.Secs+wL Wr.w m.Cache+m.Bad.length;rw [g9a];omega
theorem g0k {a:Arr} {m:Nat} {n:Int} {s:List Int} (h:a.Down=true):put a m n s=a:=by
 unfold put;rw [g7j h,h];cases (dsk a m).Failed <;> rfl
theorem d9q {a:Arr} {m:Nat} (h:a.Down=true):a3w a m=a:=by
 unfold a3w;rw [g7j h,h];cases (dsk a m).Failed <;> rfl
theorem e2f (a:Arr) (m:Nat) (n:Int) (s:List Int):Keep a (put a m n s):=by
 unfold put;cases (dsk a m).Failed
 ·cases (op a).Down
  ·exact (g0j a).trans (g4v _ _ _)
  ·exact g0j a
 ·exact Keep.refl a
theorem c6y (a:Arr) (m:Nat):Keep a (a3w a m):=by
 unfold a3w;cases (dsk a m).Failed
 ·cases (op a).Down
  ·exact (g0j a).trans (g4v _ _ _)
  ·exact g0j a
 ·exact Keep.refl a
theorem e8r {a:Arr} {m:Nat} {n:Int} {s:List Int} (h:Fz a):Fz (put a m n s):=by
 unfold put;cases (dsk a m).Failed
 ·cases (op a).Down
  ·exact i1i h
  ·exact i1i h
 ·exact h
theorem d6w {a:Arr} {m:Nat} (h:Fz a):Fz (a3w a m):=by
 unfold a3w;cases (dsk a m).Failed
 ·cases (op a).Down
  ·exact i1i h
  ·exact i1i h
 ·exact h
theorem f4m (a:Arr) (m:Nat):dsk (op a) m=dsk a m:=by unfold dsk;rw [e8q]
theorem h7d (a:Arr) (m:Nat) (n:Int) (s:List Int):(put a m n s).w≤a.w+(s.length+1):=by
 have ho:=j1h a;unfold put;cases (dsk a m).Failed
 ·cases (op a).Down
  ·have:=i3b (op a) m (a4l (dsk a m) n s).1 (c:=s.length+1) (by rw [f4m];exact h1z _ _ _);rw [ho] at this;exact this
  ·show (op a).w≤_;omega
 ·exact Nat.le_add_right _ _
theorem e8s (a:Arr) (m:Nat):(a3w a m).w≤a.w:=by
 have ho:=j1h a;unfold a3w;cases (dsk a m).Failed
 ·cases (op a).Down
  ·have:=i3b (op a) m (a5e (dsk a m)) (c:=0) (by rw [f4m];exact h2g _);rw [ho] at this;exact this
  ·show (op a).w≤_;omega
 ·exact Nat.le_refl _
theorem g0l {f:Arr→Nat→Arr} (hf:∀ a i,a.Down=true→f a i=a):∀ (n i:Nat) {a:Arr},a.Down=true→run f i n a=a
 | 0,_,_,_=>rfl
 | n+1,i,a,h=>by show run f (i+1) n (f a i)=a;rw [hf a i h];exact g0l hf n (i+1) h
theorem d4z {f:Arr→Nat→Arr} (hf:∀ a i,Keep a (f a i)):∀ (n i:Nat) (a:Arr),Keep a (run f i n a)
 | 0,_,a=>Keep.refl a
 | n+1,i,a=>(hf a i).trans (d4z hf n (i+1) (f a i))
theorem g9v {f:Arr→Nat→Arr} (hf:∀ a i,Fz a→Fz (f a i)):∀ (n i:Nat) {a:Arr},Fz a→Fz (run f i n a)
 | 0,_,_,h=>h
 | n+1,i,a,h=>g9v hf n (i+1) (hf a i h)
theorem h7e {f:Arr→Nat→Arr} {c:Nat} (hf:∀ a i,(f a i).w≤a.w+c):∀ (n i:Nat) (a:Arr),(run f i n a).w≤a.w+n*c
 | 0,_,a=>by simp [run]
 | n+1,i,a=>by
  have h1:=h7e hf n (i+1) (f a i);have h2:=hf a i;show (run f (i+1) n (f a i)).w≤_;rw [Nat.succ_mul];omega
theorem b8q (a:Arr):Keep a (b3g a):=d4z c6y _ _ _
theorem d6x {a:Arr} (h:Fz a):Fz (b3g a):=g9v (fun _ _=>d6w) _ _ h
theorem g4w (a:Arr):(b3g a).w≤a.w:=by
 have:=h7e (c:=0) (f:=a3w) (fun a i=>e8s a i) a.Mems.length 0 a;unfold b3g;omega
theorem g4x {a:Arr} (h:a.Down=true):b3g a=a:=g0l (fun _ _=>d9q) _ _ h
theorem d0v (a:Arr) (m:Nat):Keep a (a8l a m):=e2f _ _ _ _
theorem g0m (a:Arr) (m:Nat):(a8l a m).w≤a.w+10:=by
 have h1:=h7d a m (Int.tmod a.Gen 2) (b2y (c0t a m));have h2:=(d0u (c0t a m)).2;unfold a8l;omega
theorem g4y (a:Arr):Keep { a with Gen:=a.Gen+1 } (mark a):=(d4z d0v _ _ _).trans (b8q _)
theorem i5v {a:Arr} (h:Fz a):Fz (mark a):=d6x (g9v (fun _ _=>e8r) _ _ (show Fz { a with Gen:=a.Gen+1 } from h))
theorem i8k (a:Arr):(mark a).w≤a.w+a.Mems.length*10:=by
 have h1:=g4w (run a8l 0 a.Mems.length { a with Gen:=a.Gen+1 });have h2:=h7e (c:=10) g0m a.Mems.length 0 { a with Gen:=a.Gen+1 };have e:({ a with Gen:=a.Gen+1 }:Arr).w=a.w:=rfl;unfold mark;omega
theorem b3n (a:Arr):((b3g a).Down=true∧a5c a=b3g a)∨((b3g a).Down=false∧a5c a=mark { b3g a with Tail:=(b3g a).Seq }):=by
 unfold a5c;cases h:(b3g a).Down
 ·exact .inr ⟨rfl,rfl⟩
 ·exact .inl ⟨rfl,rfl⟩
theorem g9w {a:Arr} (h:Fz a):Fz (a5c a):=by
 rcases b3n a with ⟨_,e⟩ | ⟨_,e⟩ <;> rw [e]
 ·exact d6x h
 ·exact i5v (show Fz { b3g a with Tail:=(b3g a).Seq } from d6x h)
theorem g7k (a:Arr):(a5c a).w≤a.w+a.Mems.length*10:=by
 have h1:=g4w a;have hk:=b8q a;rcases b3n a with ⟨_,e⟩ | ⟨_,e⟩ <;> rw [e]
 ·omega
 ·have h2:=i8k { b3g a with Tail:=(b3g a).Seq };have e1:({ b3g a with Tail:=(b3g a).Seq }:Arr).w=(b3g a).w:=rfl;have e2:({ b3g a with Tail:=(b3g a).Seq }:Arr).Mems.length=a.Mems.length:=hk.n;rw [e1,e2] at h2;omega
structure Keep2 (a b:Arr):Prop where
 id:b.Id=a.Id
 g:b.G=a.G
 n:b.Mems.length=a.Mems.length
 lost:b.Lost=a.Lost
 built:b.Built=a.Built
 seq:b.Seq=a.Seq
 dirty:b.Dirty=a.Dirty
 broken:b.Broken=a.Broken
theorem Keep.k2 {a b:Arr} (h:Keep a b):Keep2 a b:=⟨h.id,h.g,h.n,h.lost,h.built,h.seq,h.dirty,h.broken⟩
theorem Keep2.refl (a:Arr):Keep2 a a:=(Keep.refl a).k2
theorem Keep2.trans {a b c:Arr} (h:Keep2 a b) (k:Keep2 b c):Keep2 a c:=
 ⟨k.id.trans h.id,k.g.trans h.g,k.n.trans h.n,k.lost.trans h.lost,k.built.trans h.built,k.seq.trans h.seq,k.dirty.trans h.dirty,k.broken.trans h.broken⟩
theorem d6y (a:Arr):Keep2 a (a5c a):=by
 have hk:=b8q a;rcases b3n a with ⟨_,e⟩ | ⟨_,e⟩ <;> rw [e]
 ·exact hk.k2
 ·have h2:=g4y { b3g a with Tail:=(b3g a).Seq };exact hk.k2.trans ⟨h2.id,h2.g,h2.n,h2.lost,h2.built,h2.seq,h2.dirty,h2.broken⟩
def e8t (r:Rec):Bool:=a0m r.Seq 0 60000&&(a0m r.Stripe 0 7&&(a0m (r.Data.length:Int) 2 4&&b0o r.Data))
def c6z (r:Rec):List Int:=bif e8t r then [21322,r.Seq,r.Stripe,(r.Data.length:Int)]++r.Data else []
def c3k (q:Int):Int:=bif decide (q<0) then -1 else 2+Int.tmod q 4
def b5j (r:Rec) (a:Arr) (m:Nat):Arr:=put a m (c3k r.Seq) (c6z r)
def b5k (a:Arr) (r:Rec):Arr:=b3g (run (b5j r) 0 a.Mems.length a)
def i3c (l:List Int):Int:=xN (h8h (fun i=>l.getD i 0) l.length)
def b8r (g:Geo) (s:Int) (data:List Int) (m:Nat):Int:=bif (m:Int) == a1b g s then i3c data else data.getD (((m:Int) - a1b g s - 1+g.N) % g.N).toNat 0
def a2p (s:Int) (data:List Int) (a:Arr) (m:Nat):Arr:=bif b8o a m s then put a m (a9d s) [b8r a.G s data m] else a
def a6c (a:Arr) (s:Int) (data:List Int):Arr:=run (a2p s data) 0 a.Mems.length a
def a2a (a:Arr):Arr:=bif decide (a.Seq - a.Tail≥4) then a5c a else a
def a2s (a:Arr) (s:Int) (data:List Int):Arr:=
 bif (a2a a).Down then a2a a else
 bif (b5k (a2a a) ⟨(a2a a).Seq,s,data⟩).Down then b5k (a2a a) ⟨(a2a a).Seq,s,data⟩ else
 a6c { b5k (a2a a) ⟨(a2a a).Seq,s,data⟩ with Seq:=(b5k (a2a a) ⟨(a2a a).Seq,s,data⟩).Seq+1 } s data
theorem c7s (r:Rec):(c6z r).length≤8:=by
 unfold c6z;cases h:e8t r
 ·exact Nat.zero_le _
 ·unfold e8t at h;simp only [Bool.and_eq_true] at h;have:=a0y h.2.2.1;show (21322 :: r.Seq :: r.Stripe :: (r.Data.length:Int) :: r.Data).length≤8;simp only [List.length_cons];omega
theorem b3o (a:Arr) (r:Rec):Keep a (b5k a r):=(d4z (f:=b5j r) (fun a i=>e2f _ _ _ _) _ _ _).trans (b8q _)
theorem d5a {a:Arr} {r:Rec} (h:Fz a):Fz (b5k a r):=d6x (g9v (f:=b5j r) (fun _ _=>e8r) _ _ h)
theorem d5b (a:Arr) (r:Rec):(b5k a r).w≤a.w+a.Mems.length*9:=by
 have h1:=g4w (run (b5j r) 0 a.Mems.length a);have h2:=h7e (c:=9) (f:=b5j r) (fun b m=>by
  have h1:=h7d b m (c3k r.Seq) (c6z r);have h2:=c7s r;unfold b5j;omega) a.Mems.length 0 a
 unfold b5k;omega
theorem c7a (s:Int) (data:List Int) (a:Arr) (m:Nat):Keep a (a2p s data a m):=by
 unfold a2p;cases b8o a m s
 ·exact Keep.refl a
 ·exact e2f _ _ _ _
theorem g4z {s:Int} {data:List Int} (a:Arr) (m:Nat) (h:a.Down=true):a2p s data a m=a:=by
 unfold a2p;cases b8o a m s
 ·rfl
 ·exact g0k h
theorem d5c (a:Arr) (s:Int) (data:List Int):Keep a (a6c a s data):=d4z (c7a s data) _ _ _
theorem h2h (a:Arr) (s:Int) (data:List Int):(a6c a s data).w≤a.w+a.Mems.length*2:=
 h7e (fun b m=>by
  unfold a2p;cases b8o b m s
  ·exact Nat.le_add_right _ _
  ·exact h7d _ _ _ _) _ _ _
theorem d9r (a:Arr):Keep2 a (a2a a):=by
 unfold a2a;cases decide (a.Seq - a.Tail≥4)
 ·exact Keep2.refl a
 ·exact d6y a
theorem h7f (a:Arr):(a2a a).w≤a.w+a.Mems.length*10:=by
 unfold a2a;cases decide (a.Seq - a.Tail≥4)
 ·exact Nat.le_add_right _ _
 ·exact g7k a
theorem e8u (a:Arr) (s:Int) (data:List Int):(a2s a s data).G=a.G∧(a2s a s data).Dirty=a.Dirty∧(a2s a s data).Mems.length=a.Mems.length∧(a2s a s data).w≤a.w+a.Mems.length*21:=by
 have h1:=d9r a;have h2:=b3o (a2a a) ⟨(a2a a).Seq,s,data⟩;have w1:=h7f a;have w2:=d5b (a2a a) ⟨(a2a a).Seq,s,data⟩;rw [h1.n] at w2;unfold a2s;cases (a2a a).Down
 ·generalize b5k (a2a a) ⟨(a2a a).Seq,s,data⟩=c at *;cases c.Down
  ·have h3:=d5c { c with Seq:=c.Seq+1 } s data;have w3:=h2h { c with Seq:=c.Seq+1 } s data;have e1:({ c with Seq:=c.Seq+1 }:Arr).w=c.w:=rfl;have e2:({ c with Seq:=c.Seq+1 }:Arr).Mems.length=a.Mems.length:=h2.n.trans h1.n;rw [e1,e2] at w3;refine ⟨h3.g.trans (h2.g.trans h1.g),h3.dirty.trans (h2.dirty.trans h1.dirty),h3.n.trans e2,?_⟩;show (a6c { c with Seq:=c.Seq+1 } s data).w≤_;omega
  ·exact ⟨h2.g.trans h1.g,h2.dirty.trans h1.dirty,h2.n.trans h1.n,show c.w≤_ by omega⟩
 ·exact ⟨h1.g,h1.dirty,h1.n,show (a2a a).w≤_ by omega⟩
theorem h2i (a:Arr):(a5c a).Tail=a.Tail∨(a5c a).Tail=a.Seq:=by
 have hk:=b8q a;rcases b3n a with ⟨_,e⟩ | ⟨_,e⟩ <;> rw [e]
 ·exact .inl hk.tail
 ·exact .inr ((g4y { b3g a with Tail:=(b3g a).Seq }).tail.trans hk.seq)
theorem g5a (a:Arr):(a2a a).Tail=a.Tail∨(a2a a).Tail=a.Seq:=by
 unfold a2a;cases decide (a.Seq - a.Tail≥4)
 ·exact .inl rfl
 ·exact h2i a
theorem g7l (a:Arr) (s:Int) (data:List Int):((a2s a s data).Seq=a.Seq∨(a2s a s data).Seq=a.Seq+1)∧((a2s a s data).Tail=a.Tail∨(a2s a s data).Tail=a.Seq):=by
 have h1:=d9r a;have h0:=g5a a;have h2:=b3o (a2a a) ⟨(a2a a).Seq,s,data⟩;unfold a2s;cases (a2a a).Down
 ·generalize b5k (a2a a) ⟨(a2a a).Seq,s,data⟩=c at *;cases c.Down
  ·have h3:=d5c { c with Seq:=c.Seq+1 } s data;refine ⟨.inr (h3.seq.trans ?_),?_⟩
   ·show c.Seq+1=_;rw [h2.seq,h1.seq]
   ·have:(a6c { c with Seq:=c.Seq+1 } s data).Tail=(a2a a).Tail:=h3.tail.trans h2.tail;exact h0.imp this.trans this.trans
  ·exact ⟨.inl (h2.seq.trans h1.seq),h0.imp h2.tail.trans h2.tail.trans⟩
 ·exact ⟨.inl h1.seq,h0⟩
def a1m (a:Arr) (s:Int) (data:List Int):Int:=
 bif !(a3l a&&a9c a.G data) then 1 else bif a.Down then 6 else bif !a0r a.G s then 2 else bif a.Broken then 5 else bif (a.Seq == 60000) || decide (a.Gen≥59990) then 7 else 0
def a4v (a:Arr):Int:=bif a.Down then 6 else 0
def a1j (a:Arr) (s:Int) (data:List Int):Arr×Int:=bif a1m a s data == 0 then (a2s a s data,a4v (a2s a s data)) else (a,a1m a s data)
theorem c7b {a:Arr} {s:Int} {data:List Int} (h:(a1m a s data == 0)=true) :
  a3l a=true∧a9c a.G data=true∧a.Down=false∧a0r a.G s=true∧a.Gen<59990∧a.Seq≠60000:=by
 unfold a1m at h;cases h1:a3l a&&a9c a.G data
 ·rw [h1] at h;simp at h
 ·rw [h1] at h;cases h2:a.Down
  ·rw [h2] at h;cases h3:a0r a.G s
   ·rw [h3] at h;simp at h
   ·rw [h3] at h;cases h4:a.Broken
    ·rw [h4] at h;cases h5:(a.Seq == 60000) || decide (a.Gen≥59990)
     ·simp at h5;obtain ⟨k1,k2⟩:=a0d h1;exact ⟨k1,k2,rfl,rfl,by omega,h5.1⟩
     ·rw [h5] at h;simp at h
    ·rw [h4] at h;simp at h
  ·rw [h2] at h;simp at h
def a6y:List Ent→Ent→List Ent
 | [],e=>[e]
 | x :: l,e=>bif decide (x.Stripe<e.Stripe) then x :: a6y l e else bif x.Stripe == e.Stripe then e :: l else e :: x :: l
theorem g9x:∀ (l:List Ent) (e:Ent),wL Ent.w (a6y l e)≤wL Ent.w l+(1+e.w)
 | [],e=>by show wL Ent.w [e]≤_;rw [a6s];omega
 | x :: l,e=>by
  have ih:=g9x l e;unfold a6y;cases decide (x.Stripe<e.Stripe)
  ·cases x.Stripe == e.Stripe
   ·show wL Ent.w (e :: x :: l)≤_;rw [a6s,a6s];omega
   ·show wL Ent.w (e :: l)≤_;rw [a6s,a6s];omega
  ·show wL Ent.w (x :: a6y l e)≤_;rw [a6s,a6s];omega
def e2g (s:Int):List Ent→Nat
 | []=>0
 | x :: l=>bif decide (x.Stripe<s) then e2g s l+1 else 0
theorem h7g (s:Int):∀ l:List Ent,e2g s l≤l.length
 | []=>Nat.le_refl _
 | x :: l=>by
  have:=h7g s l;unfold e2g;cases decide (x.Stripe<s)
  ·exact Nat.zero_le _
  ·show e2g s l+1≤l.length+1;omega
theorem f4n:∀ (l:List Ent) (e:Ent) (h:e2g e.Stripe l<l.length),l[e2g e.Stripe l].Stripe=e.Stripe→a6y l e=l.set (e2g e.Stripe l) e
 | x :: l,e,h,hs=>by
  unfold a6y;have e1:e2g e.Stripe (x :: l)=bif decide (x.Stripe<e.Stripe) then e2g e.Stripe l+1 else 0:=rfl;cases hd:decide (x.Stripe<e.Stripe)
  ·rw [hd] at e1;have hx:x.Stripe=e.Stripe:=by simpa [e1] using hs
   rw [e1,show (x.Stripe == e.Stripe)=true by simpa using hx];rfl
  ·rw [hd] at e1;have ih:=f4n l e (by simpa [e1] using h) (by simpa [e1] using hs);rw [e1,cond_true,cond_true,ih];rfl
theorem f4o:∀ (l:List Ent) (e:Ent),(∀ h:e2g e.Stripe l<l.length,l[e2g e.Stripe l].Stripe≠e.Stripe)→a6y l e=l.take (e2g e.Stripe l)++e :: l.drop (e2g e.Stripe l)
 | [],e,_=>rfl
 | x :: l,e,hs=>by
  unfold a6y;have e1:e2g e.Stripe (x :: l)=bif decide (x.Stripe<e.Stripe) then e2g e.Stripe l+1 else 0:=rfl;cases hd:decide (x.Stripe<e.Stripe)
  ·rw [hd] at e1;have hx:x.Stripe≠e.Stripe:=by simpa [e1] using hs (by rw [e1];simp)
   rw [e1,show (x.Stripe == e.Stripe)=false by simpa using hx];rfl
  ·rw [hd] at e1;have ih:=f4o l e (fun h=>by simpa [e1] using hs (by rw [e1];simpa using h));rw [e1,cond_true,cond_true,ih];rfl
def g5h (e:Ent) (p:List Ent×Bool) (x:Ent):List Ent×Bool:=
 let q:List Ent×Bool:=bif !p.2&&decide (x.Stripe≥e.Stripe) then (p.1++[e],true) else p
 (bif x.Stripe != e.Stripe then q.1++[x] else q.1,q.2)
def i8l (e:Ent) (p:List Ent×Bool):List Ent:=bif !p.2 then p.1++[e] else p.1
def i3d:List Ent→Prop
 | []=>True
 | [_]=>True
 | x :: y :: l=>x.Stripe<y.Stripe∧i3d (y :: l)
theorem h7h:∀ {l:List Ent} {x:Ent},i3d (x :: l)→∀ y,y∈l→x.Stripe<y.Stripe
 | [],_,_,_,hy=>by cases hy
 | z :: l,x,h,y,hy=>by
  rcases List.mem_cons.1 hy with rfl | hy
  ·exact h.1
  ·exact Int.lt_trans h.1 (h7h h.2 y hy)
theorem h7i {l:List Ent} {x:Ent} (h:i3d (x :: l)):i3d l:=by
 cases l with
 | nil=>trivial
 | cons y l=>exact h.2
theorem e8v (e:Ent):∀ (l:List Ent) (o:List Ent),(∀ y,y∈l→e.Stripe<y.Stripe)→l.foldl (g5h e) (o,true)=(o++l,true)
 | [],o,_=>by simp
 | x :: l,o,h=>by
  have hx:=h x List.mem_cons_self;have e1:g5h e (o,true) x=(o++[x],true):=by
   unfold g5h;rw [show (x.Stripe != e.Stripe)=true by simp;omega];rfl
  rw [List.foldl_cons,e1,e8v e l _ (fun y hy=>h y (List.mem_cons_of_mem _ hy))];simp
theorem h7j (e:Ent):∀ (l:List Ent) (o:List Ent),i3d l→i8l e (l.foldl (g5h e) (o,false))=o++a6y l e
 | [],o,_=>rfl
 | x :: l,o,h=>by
  rw [List.foldl_cons];unfold a6y;have hgt:=h7h h;cases hd:decide (x.Stripe<e.Stripe)
  ·have hge:=of_decide_eq_false hd;cases hx:(x.Stripe == e.Stripe)
   ·have hne:x.Stripe≠e.Stripe:=by simpa using hx
    have e1:g5h e (o,false) x=(o++[e]++[x],true):=by
     unfold g5h;rw [show decide (x.Stripe≥e.Stripe)=true from decide_eq_true (by omega),show (x.Stripe != e.Stripe)=true by unfold bne;rw [hx];rfl];rfl
    rw [e1,e8v e l _ (fun y hy=>by have:=hgt y hy;omega)];show o++[e]++[x]++l=o++e :: x :: l;simp
   ·have heq:x.Stripe=e.Stripe:=by simpa using hx
    have e1:g5h e (o,false) x=(o++[e],true):=by
     unfold g5h;rw [show decide (x.Stripe≥e.Stripe)=true from decide_eq_true (by omega),show (x.Stripe != e.Stripe)=false by unfold bne;rw [hx];rfl];rfl
    rw [e1,e8v e l _ (fun y hy=>by have:=hgt y hy;omega)];show o++[e]++l=o++e :: l;simp
  ·have hlt:=of_decide_eq_true hd;have e1:g5h e (o,false) x=(o++[x],false):=by
    unfold g5h;rw [show decide (x.Stripe≥e.Stripe)=false from decide_eq_false (by omega),show (x.Stripe != e.Stripe)=true by simp;omega];rfl
   rw [e1,h7j e l _ (h7i h)];show o++[x]++a6y l e=o++x :: a6y l e;simp
theorem h7k:∀ {l:List Ent},(∀ i,i+1<l.length→(l.getD i default).Stripe<(l.getD (i+1) default).Stripe)→i3d l
 | [],_=>trivial
 | [_],_=>trivial
 | x :: y :: l,h=>⟨by simpa using h 0 (by simp),h7k fun i hi=>by simpa using h (i+1) (by simpa using hi)⟩
def b0q (a:Arr) (b n:Int):Int:=bif (a2d a b == 0)&&!c1m n then 3 else a2d a b
def c7c (a:Arr) (b n:Int):Ent:=⟨a0n a.G b,(a2w a (a0n a.G b)).1.set (a8q a.G b).toNat n⟩
def a0u (a:Arr) (b n:Int):Arr×Int:=
 bif b0q a b n != 0 then (a,b0q a b n) else bif !(a2w a (a0n a.G b)).2 then (a,5) else ({ a with Dirty:=a6y a.Dirty (c7c a b n) },0)
def a3p (a:Arr) (s:Int):Int:=bif !a3l a then 1 else bif a.Down then 6 else bif !a0r a.G s then 2 else 0
def b2z (a:Arr) (n:Nat) (p:Arr×Int):Arr×Int:=bif p.2 == 0 then ({ p.1 with Dirty:=del p.1.Dirty n },0) else p
def a0s (a:Arr) (s:Int):Arr×Int:=
 bif a3p a s != 0 then (a,a3p a s) else bif decide (a4a a s<0) then (a,0) else
 b2z a (a4a a s).toNat (a1j a s (a.Dirty.getD (a4a a s).toNat default).Data)
theorem d0w {a:Arr} {b:Int} (h:(a2d a b != 0)=false):a3l a=true∧a.Down=false∧a2r a.G b=true:=by
 have h1:=d0t h;refine ⟨h1.1,?_,h1.2⟩;cases hd:a.Down
 ·rfl
 ·unfold a2d at h;rw [h1.1,hd] at h;simp at h
theorem e8w {a:Arr} {b n:Int} (h:(b0q a b n != 0)=false):(a2d a b != 0)=false∧c1m n=true:=by
 unfold b0q at h;cases h1:(a2d a b == 0)&&!c1m n
 ·rw [h1] at h;refine ⟨h,?_⟩;have h2:(a2d a b == 0)=true:=by simpa using h
  rw [h2] at h1;simpa using h1
 ·rw [h1] at h;simp at h
theorem b0u (a:Arr) (b n:Int):(a0u a b n).1.w≤a.w+5:=by
 unfold a0u;cases hc:b0q a b n != 0
 ·cases hd:(a2w a (a0n a.G b)).2
  ·exact Nat.le_add_right _ _
  ·have h1:=d0w (e8w hc).1;have h2:=e8e h1.1 hd;obtain ⟨g1,g2,g3,g4⟩:=a1l (c4h h1.1).1;have h3:=g9x a.Dirty (c7c a b n);have e1:(c7c a b n).w=(a2w a (a0n a.G b)).1.length:=List.length_set;show wL Dsk.w a.Mems+wL Ent.w (a6y a.Dirty (c7c a b n))≤wL Dsk.w a.Mems+wL Ent.w a.Dirty+5;omega
 ·exact Nat.le_add_right _ _
theorem d5d (a:Arr) (s:Int) (data:List Int):(a1j a s data).1.w≤a.w+105∧(a1j a s data).1.Dirty=a.Dirty:=by
 unfold a1j;cases hc:a1m a s data == 0
 ·exact ⟨Nat.le_add_right _ _,rfl⟩
 ·have h1:=c7b hc;obtain ⟨g1,g2,g3,g4⟩:=a1l (c4h h1.1).1;have g5:=(c4h h1.1).2.1;obtain ⟨_,k2,_,k4⟩:=e8u a s data;refine ⟨?_,k2⟩;show (a2s a s data).w≤_;omega
theorem b3a (a:Arr) (s:Int):(a0s a s).1.w≤a.w+105:=by
 unfold a0s;cases a3p a s != 0
 ·cases decide (a4a a s<0)
  ·obtain ⟨h1,h2⟩:=d5d a s (a.Dirty.getD (a4a a s).toNat default).Data;show (b2z a _ _).1.w≤_;unfold b2z;generalize a1j a s (a.Dirty.getD (a4a a s).toNat default).Data=p at *;cases p.2 == 0
   ·exact h1
   ·have h3:=i2z Ent.w p.1.Dirty (a4a a s).toNat;show wL Dsk.w p.1.Mems+wL Ent.w (del p.1.Dirty _)≤_;have e:p.1.w=wL Dsk.w p.1.Mems+wL Ent.w p.1.Dirty:=rfl;omega
  ·exact Nat.le_add_right _ _
 ·exact Nat.le_add_right _ _
def a4w (a:Arr) (j:Job):Arr×List Int×Int:=
 bif j.C.Op == 1 then (a,bif (a1r a (j.C.Lba+j.At)).2 == 0 then j.Got++[(a1r a (j.C.Lba+j.At)).1] else j.Got,(a1r a (j.C.Lba+j.At)).2)
 else bif j.C.Op == 4 then ((a0s a j.At).1,j.Got,(a0s a j.At).2)
 else bif j.C.Op == 5 then
  (bif (a1r a (j.C.Lba+j.At)).2 != 0 then (a,j.Got,(a1r a (j.C.Lba+j.At)).2)
  else bif (a1r a (j.C.Lba+j.At)).1 != j.C.Vals.getD 0 0 then (a,j.Got,4)
  else ((a0u a (j.C.Lba+j.At) (j.C.Vals.getD 1 0)).1,j.Got,(a0u a (j.C.Lba+j.At) (j.C.Vals.getD 1 0)).2))
 else bif j.C.Op == 6 then ((a0u a (j.C.Lba+j.At) 0).1,j.Got,(a0u a (j.C.Lba+j.At) 0).2)
 else bif decide (j.At<j.C.Vals.length) then ((a0u a (j.C.Lba+j.At) (j.C.Vals.getD j.At.toNat 0)).1,j.Got,(a0u a (j.C.Lba+j.At) (j.C.Vals.getD j.At.toNat 0)).2)
 else ((a0s a (a0n a.G j.C.Lba+j.At - j.C.Vals.length)).1,j.Got,(a0s a (a0n a.G j.C.Lba+j.At - j.C.Vals.length)).2)
def b5w (j:Job) (p:Arr×List Int×Int):Job:=⟨j.C,j.At+1,p.2.1,p.2.2⟩
def a6z (x:Eng) (n:Nat) (j:Job):Eng:=answer { x with Jobs:=del x.Jobs n } j.C ⟨j.C.Id,j.Code,bif (j.C.Op == 1)&&(j.Code == 0) then j.Got else []⟩
def b5l (x:Eng) (n:Nat) (j:Job) (p:Arr×List Int×Int):Eng:=
 bif p.2.2 == 0 then { x with A:=p.1,Jobs:=x.Jobs.set n (b5w j p) } else a6z { x with A:=p.1,Jobs:=x.Jobs.set n (b5w j p) } n (b5w j p)
def c1p (x:Eng) (n:Nat):Job:=x.Jobs.getD n default
def b3b (x:Eng) (n:Nat):Eng:=
 bif decide ((c1p x n).At<a2v x.A.G (c1p x n).C - 1)&&((c1p x n).Code == 0) then b5l x n (c1p x n) (a4w x.A (c1p x n)) else a6z x n (c1p x n)
def c3l (x:Eng) (q:Int):Eng×Bool:=bif c4g x&&(a0m q 0 ((x.Jobs.length:Int) - 1)&&decide (x.Log.length<400)) then (b3b x q.toNat,true) else (x,false)
theorem i5w (a:Arr) (j:Job):(a4w a j).1.w≤a.w+105∧(a4w a j).2.1.length≤j.Got.length+1:=by
 have hs:=fun b n=>b0u a b n;have hf:=fun s=>b3a a s;unfold a4w;cases j.C.Op == 1
 ·cases j.C.Op == 4
  ·cases j.C.Op == 5
   ·cases j.C.Op == 6
    ·cases decide (j.At<j.C.Vals.length)
     ·exact ⟨hf _,Nat.le_add_right _ _⟩
     ·exact ⟨Nat.le_trans (hs _ _) (by omega),Nat.le_add_right _ _⟩
    ·exact ⟨Nat.le_trans (hs _ _) (by omega),Nat.le_add_right _ _⟩
   ·cases (a1r a (j.C.Lba+j.At)).2 != 0
    ·cases (a1r a (j.C.Lba+j.At)).1 != j.C.Vals.getD 0 0
     ·exact ⟨Nat.le_trans (hs _ _) (by omega),Nat.le_add_right _ _⟩
     ·exact ⟨Nat.le_add_right _ _,Nat.le_add_right _ _⟩
    ·exact ⟨Nat.le_add_right _ _,Nat.le_add_right _ _⟩
  ·exact ⟨hf _,Nat.le_add_right _ _⟩
 ·refine ⟨Nat.le_add_right _ _,?_⟩;show (bif (a1r a (j.C.Lba+j.At)).2 == 0 then j.Got++[(a1r a (j.C.Lba+j.At)).1] else j.Got).length≤_;cases (a1r a (j.C.Lba+j.At)).2 == 0
  ·exact Nat.le_add_right _ _
  ·simp
theorem h7l {α:Type} (f:α→Nat) (l:List α) {n:Nat} (h:n<l.length):wL f (del l n)+(1+f l[n])=wL f l:=by
 have h1:l=l.take n++l[n] :: l.drop (n+1):=by rw [← List.drop_eq_getElem_cons h,List.take_append_drop]
 have h2:wL f l=wL f (l.take n)+wL f (l[n] :: l.drop (n+1)):=(congrArg (wL f) h1).trans (c6t f _ _);rw [h2];unfold del;rw [c6t,a6s];omega
theorem g9y (x:Eng) {n:Nat} (hn:n<x.Jobs.length) (j:Job) (hj:x.Jobs[n]=j):(a6z x n j).w≤x.w+j.Got.length+1:=by
 have h1:=h7l Job.w x.Jobs hn;have hv:(bif (j.C.Op == 1)&&(j.Code == 0) then j.Got else []).length≤j.Got.length:=by
  cases (j.C.Op == 1)&&(j.Code == 0)
  ·exact Nat.zero_le _
  ·exact Nat.le_refl _
 rw [hj] at h1;have e1:j.w=j.C.w+j.Got.length:=rfl;show x.A.w+wL Cmd.w x.Wait+wL Job.w (del x.Jobs n)+wL Ans.w (x.Done++[_])+wL Turn.w (x.Log++[_])≤x.A.w+wL Cmd.w x.Wait+wL Job.w x.Jobs+wL Ans.w x.Done+wL Turn.w x.Log+j.Got.length+1;rw [c6t,c6t,a6s,a6s,g9a,g9a];have a1:(⟨j.C.Id,j.Code,bif (j.C.Op == 1)&&(j.Code == 0) then j.Got else []⟩:Ans).w=(bif (j.C.Op == 1)&&(j.Code == 0) then j.Got else []).length:=rfl;have a2:∀ a:Ans,(⟨j.C,a⟩:Turn).w=j.C.w+a.w:=fun _=>rfl;rw [a2,a1];omega
theorem i1j (x:Eng) {n:Nat} (hn:n<x.Jobs.length) (hg:x.Jobs[n].Got.length≤6):(b3b x n).w≤x.w+120:=by
 have hj:c1p x n=x.Jobs[n]:=a2u hn _;have e0:x.w=x.A.w+wL Cmd.w x.Wait+wL Job.w x.Jobs+wL Ans.w x.Done+wL Turn.w x.Log:=rfl;have e1:x.Jobs[n].w=x.Jobs[n].C.w+x.Jobs[n].Got.length:=rfl;unfold b3b;rw [hj];cases decide (x.Jobs[n].At<a2v x.A.G x.Jobs[n].C - 1)&&(x.Jobs[n].Code == 0)
 ·have:=g9y x hn x.Jobs[n] rfl;show (a6z x n x.Jobs[n]).w≤_;omega
 ·obtain ⟨w1,w2⟩:=i5w x.A x.Jobs[n];generalize a4w x.A x.Jobs[n]=p at *;have e2:(b5w x.Jobs[n] p).w=x.Jobs[n].C.w+p.2.1.length:=rfl;have hset:=g9s Job.w x.Jobs n (b5w x.Jobs[n] p) hn;have hy:({ x with A:=p.1,Jobs:=x.Jobs.set n (b5w x.Jobs[n] p) }:Eng).w≤x.w+106:=by
   show p.1.w+wL Cmd.w x.Wait+wL Job.w (x.Jobs.set n _)+wL Ans.w x.Done+wL Turn.w x.Log≤_;omega
  show (b5l x n x.Jobs[n] p).w≤_;unfold b5l;cases p.2.2 == 0
  ·have:=g9y { x with A:=p.1,Jobs:=x.Jobs.set n (b5w x.Jobs[n] p) } (n:=n) (by simpa using hn) (b5w x.Jobs[n] p) (by simp);have e4:(b5w x.Jobs[n] p).Got=p.2.1:=rfl;rw [e4] at this;show (a6z _ n _).w≤_;omega
  ·show ({ x with A:=p.1,Jobs:=x.Jobs.set n (b5w x.Jobs[n] p) }:Eng).w≤_;omega
theorem e8x {x:Eng} (h:c4g x=true) {n:Nat} (hn:n<x.Jobs.length):e1m x.A.G x.Jobs[n]=true∧a3l x.A=true:=by
 unfold c4g at h;obtain ⟨h1,h2⟩:=a0d h;exact ⟨List.all_eq_true.1 h1 _ (List.getElem_mem hn),(a0d h2).1⟩
theorem g7m {g:Geo} {j:Job} (h:e1m g j=true):a2q g j.C=0∧0≤j.At∧j.At≤40∧j.Got.length≤6:=by
 unfold e1m at h;simp only [Bool.and_eq_true] at h;have:=a0y h.2.1;exact ⟨by simpa using h.1,this.1,this.2,of_decide_eq_true h.2.2.1⟩
theorem i3e (x:Eng) (q:Int):(c3l x q).1.w≤x.w+120:=by
 unfold c3l;cases h:c4g x&&(a0m q 0 ((x.Jobs.length:Int) - 1)&&decide (x.Log.length<400))
 ·show x.w≤_;omega
 ·have h1:=a0y (a0d (a0d h).2).1;have hn:q.toNat<x.Jobs.length:=by omega
  exact i1j x hn (g7m (e8x (a0d h).1 hn).1).2.2.2
def c7t (a:Arr):Prop:=inI a.Seq∧inI a.Tail
theorem c7u {a:Arr} (h:a3l a=true):0≤a.Seq∧a.Seq≤60000∧0≤a.Tail∧a.Tail≤60000∧0≤a.Gen∧a.Gen≤60000∧a.Seq - a.Tail≤4∧Fz a∧-1≤a.Lost∧a.Lost≤a.G.N - 1:=by
 unfold a3l d4u c6x at h;simp only [Bool.and_eq_true] at h;obtain ⟨_,_,_,⟨l1,_⟩,_,_,⟨⟨⟨c1,c2⟩,c3⟩,c4⟩,c5⟩:=h;have:=a0y l1;have:=a0y c1;have:=a0y c2;have:=a0y c3;have:=a0y c4;have:=a0y c5;unfold Fz;omega
theorem e1n {a:Arr} (s:Int) (data:List Int) (h:c7t a):c7t (a1j a s data).1:=by
 unfold a1j;cases hc:a1m a s data == 0
 ·exact h
 ·obtain ⟨c1,c2,c3,c4,_⟩:=c7u (c7b hc).1;obtain ⟨k1,k2⟩:=g7l a s data;show c7t (a2s a s data);unfold c7t inI;rcases k1 with k1 | k1 <;> rcases k2 with k2 | k2 <;> rw [k1,k2] <;> omega
theorem e1o {a:Arr} (s:Int) (h:c7t a):c7t (a0s a s).1:=by
 unfold a0s;cases a3p a s != 0
 ·cases decide (a4a a s<0)
  ·have h1:=e1n s (a.Dirty.getD (a4a a s).toNat default).Data h;show c7t (b2z a _ _).1;unfold b2z;generalize a1j a s (a.Dirty.getD (a4a a s).toNat default).Data=p at *;cases p.2 == 0
   ·exact h1
   ·exact h1
  ·exact h
 ·exact h
theorem g0n {a:Arr} (b n:Int) (h:c7t a):c7t (a0u a b n).1:=by
 unfold a0u;cases b0q a b n != 0
 ·cases (a2w a (a0n a.G b)).2
  ·exact h
  ·exact h
 ·exact h
theorem h2j {a:Arr} (j:Job) (h:c7t a):c7t (a4w a j).1:=by
 have hs:=fun b n=>g0n (a:=a) b n h;have hf:=fun s=>e1o (a:=a) s h;unfold a4w;cases j.C.Op == 1
 ·cases j.C.Op == 4
  ·cases j.C.Op == 5
   ·cases j.C.Op == 6
    ·cases decide (j.At<j.C.Vals.length)
     ·exact hf _
     ·exact hs _ _
    ·exact hs _ _
   ·cases (a1r a (j.C.Lba+j.At)).2 != 0
    ·cases (a1r a (j.C.Lba+j.At)).1 != j.C.Vals.getD 0 0
     ·exact hs _ _
     ·exact h
    ·exact h
  ·exact hf _
 ·exact h
theorem h7m {x:Eng} (q:Int) (h:c7t x.A):c7t (c3l x q).1.A:=by
 unfold c3l;cases c4g x&&(a0m q 0 ((x.Jobs.length:Int) - 1)&&decide (x.Log.length<400))
 ·exact h
 ·show c7t (b3b x q.toNat).A;unfold b3b;cases decide ((c1p x q.toNat).At<a2v x.A.G (c1p x q.toNat).C - 1)&&((c1p x q.toNat).Code == 0)
  ·exact h
  ·have h1:=h2j (c1p x q.toNat) h;show c7t (b5l x q.toNat _ _).A;unfold b5l;cases (a4w x.A (c1p x q.toNat)).2.2 == 0
   ·exact h1
   ·exact h1
theorem c7v {g:Geo} {s:Int} (h:a0r g s=true):0≤a1b g s∧a1b g s<g.N:=by
 obtain ⟨_,_,h1,h2⟩:=e2d h;obtain ⟨hg,_,_⟩:=a3m h;obtain ⟨_,_,_,_⟩:=a1l hg;have e:a1b g s=g.N - 1 - s % g.N:=by unfold a1b;rw [h];rfl
 have:=Int.emod_nonneg s (b:=g.N) (by omega);rw [e];omega
theorem i8m {g:Geo} {s i:Int} (h:a0r g s=true) (h0:0≤i) (h1:i<g.N - 1):a9e g s i=(a1b g s+1+i) % g.N:=by
 unfold a9e;rw [h,show a0m i 0 (g.N - 2)=true by unfold a0m;simp;omega];rfl
def c8b (g:Geo) (s:Int) (data:List Int) (i m:Nat):Int:=bif (m:Int) == a1b g s then i3c data else bif decide (((m:Int) - a1b g s - 1+g.N) % g.N<i) then data.getD (((m:Int) - a1b g s - 1+g.N) % g.N).toNat 0 else 0
theorem h2k {g:Geo} {s:Int} (h:a0r g s=true) (data:List Int) (i:Nat) (hi:(i:Int)<g.N - 1) :
  ((List.range g.N.toNat).map (c8b g s data i)).set (a9e g s i).toNat (data.getD i 0)=(List.range g.N.toNat).map (c8b g s data (i+1)):=by
 obtain ⟨hp0,hp1⟩:=c7v h;obtain ⟨g1,g2,_,_⟩:=a1l (a3m h).1;have hd:=i8m h (i:=i) (by omega) hi;have hN:g.N=3∨g.N=4∨g.N=5:=by omega
 refine List.ext_getElem (by simp) fun m h1 h2=>?_;have hm:(m:Int)<g.N:=by simp at h2;omega
 rw [List.getElem_set];simp only [List.getElem_map,List.getElem_range];unfold c8b;rw [hd];generalize a1b g s=p at *;split
 ·rename_i he;have hx:((m:Int) - p - 1+g.N) % g.N=i∧(m:Int)≠p:=by rcases hN with h | h | h <;> rw [h] at he hi hm ⊢ <;> omega
  rw [hx.1,show ((m:Int) == p)=false by simpa using hx.2,decide_eq_true (by omega:(i:Int)<((i+1:Nat):Int))];simp
 ·rename_i he;cases hmp:((m:Int) == p)
  ·have hmp':(m:Int)≠p:=by simpa using hmp
   have hx:((m:Int) - p - 1+g.N) % g.N≠i:=by rcases hN with h | h | h <;> rw [h] at he hi hm ⊢ <;> omega
   rw [cond_false,cond_false];by_cases hlt:((m:Int) - p - 1+g.N) % g.N<i
   ·rw [decide_eq_true hlt,decide_eq_true (by omega:((m:Int) - p - 1+g.N) % g.N<((i+1:Nat):Int))]
   ·rw [decide_eq_false hlt,decide_eq_false (by omega:¬ ((m:Int) - p - 1+g.N) % g.N<((i+1:Nat):Int))]
  ·rfl
theorem g7n {g:Geo} {s:Int} (h:a0r g s=true) (data:List Int) :
  (List.replicate g.N.toNat (0:Int)).set (a1b g s).toNat (i3c data)=(List.range g.N.toNat).map (c8b g s data 0):=by
 obtain ⟨hp0,hp1⟩:=c7v h;obtain ⟨g1,g2,_,_⟩:=a1l (a3m h).1;refine List.ext_getElem (by simp) fun m h1 h2=>?_;rw [List.getElem_set];simp only [List.getElem_map,List.getElem_range,List.getElem_replicate];unfold c8b;have:=Int.emod_nonneg ((m:Int) - a1b g s - 1+g.N) (b:=g.N) (by omega);rw [decide_eq_false (by omega:¬ ((m:Int) - a1b g s - 1+g.N) % g.N<((0:Nat):Int))];generalize a1b g s=p at *;split
 ·rename_i he;rw [show ((m:Int) == p)=true by simp;omega];rfl
 ·rename_i he;rw [show ((m:Int) == p)=false by simp;omega];rfl
theorem h2l {g:Geo} {s:Int} (h:a0r g s=true) (data:List Int) (hd:(data.length:Int)=g.N - 1) (m:Nat) (hm:(m:Int)<g.N):c8b g s data data.length m=b8r g s data m:=by
 obtain ⟨hp0,hp1⟩:=c7v h;obtain ⟨g1,g2,_,_⟩:=a1l (a3m h).1;have hN:g.N=3∨g.N=4∨g.N=5:=by omega
 unfold c8b b8r;generalize a1b g s=p at *;cases hmp:((m:Int) == p)
 ·have hmp':(m:Int)≠p:=by simpa using hmp
  have hx:((m:Int) - p - 1+g.N) % g.N<data.length:=by rcases hN with h | h | h <;> rw [h] at hm hp1 hd ⊢ <;> omega
  rw [decide_eq_true hx];rfl
 ·rfl
theorem h2m {g:Geo} {s:Int} (h:a0r g s=true) (m:Nat) (hm:(m:Int)<g.N) (hmp:(m:Int)≠a1b g s):0≤((m:Int) - a1b g s - 1+g.N) % g.N∧((m:Int) - a1b g s - 1+g.N) % g.N<g.N - 1:=by
 obtain ⟨hp0,hp1⟩:=c7v h;obtain ⟨g1,g2,_,_⟩:=a1l (a3m h).1;have hN:g.N=3∨g.N=4∨g.N=5:=by omega
 generalize a1b g s=p at *;rcases hN with h | h | h <;> rw [h] at hm hp1 ⊢ <;> omega
abbrev Arr.stM (i:Int) (a:Arr) (ms:List (List T)):Int×Int×Int×Int×Int×Int×Int×Int×Int×Int×Bool×Bool×List (List T)×List (List T):=
 (i,a.Id,a.G.N,a.G.S,a.Lost,a.Built,a.Seq,a.Tail,a.Gen,a.Fuse,a.Down,a.Broken,ms,a1c a.Dirty)
abbrev Arr.st (i:Nat) (a:Arr):=a.stM (i:Int) (a2i a.Mems)
theorem g9z {f:Arr→Nat→Arr} (K:Arr→Option Outs) {n:Nat} (I:Nat→Arr→Prop) {b:(Int×Int×Int×Int×Int×Int×Int×Int×Int×Int×Bool×Bool×List (List T)×List (List T)→Option Outs)→Int×Int×Int×Int×Int×Int×Int×Int×Int×Int×Bool×Bool×List (List T)×List (List T)→Option Outs}
  (hI:∀ i a,i<n→I i a→I (i+1) (f a i)) (hs:∀ i a G,i<n→I i a→b G (a.st i)=G ((f a i).st (i+1))) (he:∀ a G,I n a→b G (a.st n)=K a) {j:Nat} {a:Arr} (h0:I 0 a) (hj:n<j):a1k b j (a.st 0)=K (run f 0 n a):=by
 have key:∀ d i j a,i+d=n→d<j→I i a→a1k b j (a.st i)=K (run f i d a):=by
  intro d
  induction d with
  | zero=>
   intro i j a hi hj h;obtain ⟨j,rfl⟩:∃ q,j=q+1:=⟨j - 1,by omega⟩;have:i=n:=by omega
   subst this;exact he a _ h
  | succ d ih=>
   intro i j a hi hj h;obtain ⟨j,rfl⟩:∃ q,j=q+1:=⟨j - 1,by omega⟩;rw [a1k,hs i a _ (by omega) h];exact ih (i+1) j (f a i) (by omega) (by omega) (hI i a (by omega) h)
 exact key n 0 j a (by omega) hj h0
theorem h0a {f:Arr→Nat→Arr} (hd:∀ a i,a.Down=true→f a i=a) (K:Arr→Option Outs) {n:Nat} (I:Nat→Arr→Prop) {b:(Int×Int×Int×Int×Int×Int×Int×Int×Int×Int×Bool×Bool×List (List T)×List (List T)→Option Outs)→Int×Int×Int×Int×Int×Int×Int×Int×Int×Int×Bool×Bool×List (List T)×List (List T)→Option Outs}
  (hI:∀ i a,i<n→I i a→I (i+1) (f a i)) (hs:∀ i a G,i<n→I i a→a.Down=false→b G (a.st i)=bif (f a i).Down then K (f a i) else G ((f a i).st (i+1))) (he:∀ a G,I n a→a.Down=false→b G (a.st n)=K a) {j:Nat} {a:Arr} (h0:I 0 a) (hD:a.Down=false) (hj:n<j):a1k b j (a.st 0)=K (run f 0 n a):=by
 have key:∀ d i j a,i+d=n→d<j→I i a→a.Down=false→a1k b j (a.st i)=K (run f i d a):=by
  intro d
  induction d with
  | zero=>
   intro i j a hi hj h hD;obtain ⟨j,rfl⟩:∃ q,j=q+1:=⟨j - 1,by omega⟩;have:i=n:=by omega
   subst this;exact he a _ h hD
  | succ d ih=>
   intro i j a hi hj h hD;obtain ⟨j,rfl⟩:∃ q,j=q+1:=⟨j - 1,by omega⟩;rw [a1k,hs i a _ (by omega) h hD];show _=K (run f (i+1) d (f a i));cases hfd:(f a i).Down
   ·exact ih (i+1) j (f a i) (by omega) (by omega) (hI i a (by omega) h) hfd
   ·rw [g0l hd d (i+1) hfd];rfl
 exact key n 0 j a (by omega) hj h0 hD
theorem e2h {l:List Dsk} {i:Nat} (h:i<l.length) (d:Dsk):a0x (a2i l) i 0 d.e=a2i (l.set i d):=d6t Dsk.e h 0 d.e d rfl
abbrev j1i (es:List (List T)) (m:Nat):List T:=[.r (at_ es m 0).asR,.r (at_ es m 1).asR,.b (at_ es m 2).asB,.r (at_ es m 3).asR]
theorem h0b {a:Arr} {m:Nat} (h:m<a.Mems.length):j1i (a2i a.Mems) m=(dsk a m).e:=by
 unfold j1i;rw [a0t _ h,a0t _ h,a0t _ h,a0t _ h,g9t h];rfl
theorem d5e {a:Arr} {m:Nat} (h:m<a.Mems.length):(at_ (a2i a.Mems) m 2).asB=(dsk a m).Failed:=by
 rw [a0t _ h,g9t h];rfl
theorem i1k {a:Arr} {m W:Nat} (h:m<a.Mems.length) (hw:a.w≤W):(dsk a m).w≤W:=by
 have:=a1t Dsk.w h;rw [g9t h];have e:a.w=wL Dsk.w a.Mems+wL Ent.w a.Dirty:=rfl;omega
theorem j1j (a:Arr) (hD:a.Down=false) (hF:Fz a):Rn 1 N.j5p [.p a.e] ⟨[.b (!(op a).Down)],[(op a).e]⟩:=by
 refine Rn.of fun k hk=>?_;unfold Fz at hF;rw [f9h];unfold d4d;rcases Bool.eq_false_or_eq_true (a.Fuse == 0) with h0 | h0
 ·have ho:op a={ a with Down:=true,Fuse:=-1 }:=by unfold op;rw [hD,h0];rfl
  rw [ho];exact a0o h0 rfl
 ·rcases Bool.eq_false_or_eq_true (decide (a.Fuse > 0)) with h1 | h1
  ·have ho:op a={ a with Fuse:=a.Fuse - 1 }:=by unfold op;rw [hD,h0,h1];rfl
   rw [ho];have:=of_decide_eq_true h1;refine a0k h0 (a0o h1 ?_);rw [a0e (by omega) (by omega)];show some (⟨[.b true],[_]⟩:Outs)=some (⟨[.b (!a.Down)],[_]⟩:Outs);rw [hD];rfl
  ·have ho:op a=a:=by unfold op;rw [hD,h0,h1];rfl
   rw [ho];refine a0k h0 (a0k h1 ?_);show some (⟨[.b true],[a.e]⟩:Outs)=some ⟨[.b (!a.Down)],[a.e]⟩;rw [show (!a.Down)=true by rw [hD];rfl]
theorem j1k (a:Arr) (hF:Fz a):Rn 1 N.j4v [.p a.e] ⟨[.b (!(op a).Down)],[(op a).e]⟩:=by
 refine Rn.of fun k hk=>?_;unfold Fz at hF;rw [g6p];unfold e5i;rcases Bool.eq_false_or_eq_true a.Down with hD | hD
 ·have ho:op a=a:=g7j hD;rw [ho];refine a0o hD ?_;show some (⟨[.b false],[a.e]⟩:Outs)=some ⟨[.b (!a.Down)],[a.e]⟩;rw [show (!a.Down)=false by rw [hD];rfl]
 ·refine a0k hD ?_;rcases Bool.eq_false_or_eq_true (a.Fuse == 0) with h0 | h0
  ·have ho:op a={ a with Down:=true,Fuse:=-1 }:=by unfold op;rw [hD,h0];rfl
   rw [ho];exact a0o h0 rfl
  ·rcases Bool.eq_false_or_eq_true (decide (a.Fuse > 0)) with h1 | h1
   ·have ho:op a={ a with Fuse:=a.Fuse - 1 }:=by unfold op;rw [hD,h0,h1];rfl
    rw [ho];have:=of_decide_eq_true h1;refine a0k h0 (a0o h1 ?_);rw [a0e (by omega) (by omega)];show some (⟨[.b true],[_]⟩:Outs)=some (⟨[.b (!a.Down)],[_]⟩:Outs);rw [hD];rfl
   ·have ho:op a=a:=by unfold op;rw [hD,h0,h1];rfl
    rw [ho];refine a0k h0 (a0k h1 ?_);show some (⟨[.b true],[a.e]⟩:Outs)=some ⟨[.b (!a.Down)],[a.e]⟩;rw [show (!a.Down)=true by rw [hD];rfl]
theorem g7o (a:Arr) (m:Nat) (hm:m<a.Mems.length) (n:Int) (s:List Int) (hD:a.Down=false) (hF:Fz a) (hw:a.w≤2147483648) (hs:s.length≤Big) :
  Rn 9 N.j3j [.p a.e,.v [.i (m:Int)],.v [.i n],.v [.r (eIs s)]] ⟨[.b (!(put a m n s).Down)],[(put a m n s).e]⟩:=by
 refine Rn.of fun k hk=>?_;have hB:Big=4294967296:=rfl;rw [e0f];unfold c3x;have hml:=a4k a (by omega);refine (a0g (by simp;omega) _).trans ?_;have hm':m<(op a).Mems.length:=by rw [e8q];exact hm
 have hfa:=d5e hm;rcases (Bool.eq_false_or_eq_true (dsk a m).Failed).symm with hfl | hfl
 ·refine a0k (hfa.trans hfl) (a1e (j1j a hD hF k (by omega)) ?_);rcases (Bool.eq_false_or_eq_true (op a).Down).symm with hd | hd
  ·rw [show put a m n s=h2s (op a) m (a4l (dsk a m) n s).1 by unfold put;rw [hfl,hd];rfl];refine a0k (show (!(!(op a).Down))=false by rw [hd];rfl) ?_;refine (a0g (show (decide (0≤(m:Int))&&decide ((m:Int)<((a2i (op a).Mems).length:Int)))=true by simp;omega) _).trans ?_;refine a1e ((congrArg (fun c=>a0a E P0 k N.j5q [.v c,.v [.i n],.v [.r (eIs s)]]) ((h0b hm').trans (congrArg Dsk.e (f4m a m)))).trans (h2a (dsk a m) n s (i1k hm hw) hs k (by omega))) ?_;refine (a0g (show (decide (0≤(m:Int))&&decide ((m:Int)<((a2i (op a).Mems).length:Int)))=true by simp;omega) _).trans ?_;refine (a0g (Nat.beq_refl _) _).trans ?_;have hp:=e2h hm' (a4l (dsk a m) n s).1;show some (⟨[.b true],[[_,_,_,.r (a0x (a2i (op a).Mems) m 0 (a4l (dsk a m) n s).1.e),_,_,_,_,_,_,_,_,_]]⟩:Outs)=some ⟨[.b (!(op a).Down)],[(h2s (op a) m (a4l (dsk a m) n s).1).e]⟩;rw [hp,show (!(op a).Down)=true by rw [hd];rfl];rfl
  ·rw [show put a m n s=op a by unfold put;rw [hfl,hd];rfl];refine a0o (show (!(!(op a).Down))=true by rw [hd];rfl) ?_;show some (⟨[.b false],[(op a).e]⟩:Outs)=some ⟨[.b (!(op a).Down)],[(op a).e]⟩;rw [show (!(op a).Down)=false by rw [hd];rfl]
 ·rw [show put a m n s=a by unfold put;rw [hfl];rfl];refine a0o (hfa.trans hfl) ?_;show some (⟨[.b true],[a.e]⟩:Outs)=some ⟨[.b (!a.Down)],[a.e]⟩;rw [show (!a.Down)=true by rw [hD];rfl]
theorem g7p (a:Arr) (m:Nat) (hm:m<a.Mems.length) (n:Int) (s:List Int) (hF:Fz a) (hw:a.w≤2147483648) (hs:s.length≤Big) :
  Rn 9 N.j3t [.p a.e,.v [.i (m:Int)],.v [.i n],.v [.r (eIs s)]] ⟨[],[(put a m n s).e]⟩:=by
 refine Rn.of fun k hk=>?_;have hB:Big=4294967296:=rfl;rw [g3b];unfold d8m;have hml:=a4k a (by omega);refine (a0g (by simp;omega) _).trans ?_;have hm':m<(op a).Mems.length:=by rw [e8q];exact hm
 have hfa:=d5e hm;rcases (Bool.eq_false_or_eq_true (dsk a m).Failed).symm with hfl | hfl
 ·refine a0k (hfa.trans hfl) (a1e (j1k a hF k (by omega)) ?_);rcases (Bool.eq_false_or_eq_true (op a).Down).symm with hd | hd
  ·rw [show put a m n s=h2s (op a) m (a4l (dsk a m) n s).1 by unfold put;rw [hfl,hd];rfl];refine a0k (show (!(!(op a).Down))=false by rw [hd];rfl) ?_;refine (a0g (show (decide (0≤(m:Int))&&decide ((m:Int)<((a2i (op a).Mems).length:Int)))=true by simp;omega) _).trans ?_;refine a1e ((congrArg (fun c=>a0a E P0 k N.j4w [.v c,.v [.i n],.v [.r (eIs s)]]) ((h0b hm').trans (congrArg Dsk.e (f4m a m)))).trans (h2b (dsk a m) n s (i1k hm hw) hs k (by omega))) ?_;refine (a0g (show (decide (0≤(m:Int))&&decide ((m:Int)<((a2i (op a).Mems).length:Int)))=true by simp;omega) _).trans ?_;have hp:=e2h hm' (a4l (dsk a m) n s).1;show some (⟨[],[[_,_,_,.r (a0x (a2i (op a).Mems) m 0 (a4l (dsk a m) n s).1.e),_,_,_,_,_,_,_,_,_]]⟩:Outs)=some ⟨[],[(h2s (op a) m (a4l (dsk a m) n s).1).e]⟩;rw [hp];rfl
  ·rw [show put a m n s=op a by unfold put;rw [hfl,hd];rfl];refine a0o (show (!(!(op a).Down))=true by rw [hd];rfl) ?_;rfl
 ·rw [show put a m n s=a by unfold put;rw [hfl];rfl];exact a0o (hfa.trans hfl) rfl
def KB (a:Arr):Option Outs:=some ⟨[.b (!a.Down)],[a.e]⟩
def KU (a:Arr):Option Outs:=some ⟨[],[a.e]⟩
def Rnd (a0:Arr) (c:Nat) (i:Nat) (b:Arr):Prop:=Fz b∧Keep a0 b∧b.w≤a0.w+i*c
theorem Rnd.next {a0:Arr} {c i:Nat} {a b:Arr} (h:Rnd a0 c i a) (hf:Fz a→Fz b) (hk:Keep a b) (hw:b.w≤a.w+c):Rnd a0 c (i+1) b:=by
 refine ⟨hf h.1,h.2.1.trans hk,?_⟩;have:=h.2.2;rw [Nat.succ_mul];omega
theorem Rnd.first {a:Arr} {c:Nat} (h:Fz a):Rnd a c 0 a:=⟨h,Keep.refl a,by omega⟩
theorem Rnd.w {a0 b:Arr} {c i n:Nat} (h:Rnd a0 c i b) (hi:i≤n):b.w≤a0.w+n*c:=Nat.le_trans h.2.2 (Nat.add_le_add_left (Nat.mul_le_mul_right c hi) _)
theorem h7n (a:Arr) (hD:a.Down=false) (hF:Fz a) (hw:a.w≤2147483648):Rn 9 N.j4d [.p a.e] ⟨[.b (!(b3g a).Down)],[(b3g a).e]⟩:=by
 refine Rn.of fun k hk=>?_;have hB:Big=4294967296:=rfl;have hml:=a4k a (by omega);rw [e6o];unfold c6b b7w;refine (h0a (f:=a3w) (fun _ _=>d9q) KB (n:=a.Mems.length) (Rnd a 0) (fun i b hi h=>h.next d6w (c6y b i) (e8s b i)) (fun i b G hi h hbD=>?_) (fun b G h hbD=>?_) (a:=a) (Rnd.first hF) hD (by omega)).trans rfl
 ·obtain ⟨h1,h2,h3⟩:=h;have hbn:=h2.n;have hm:i<b.Mems.length:=by omega
  have hm':i<(op b).Mems.length:=by rw [e8q];exact hm
  have hfa:=d5e hm;unfold a9v;refine a0o (show decide ((i:Int)<((a2i a.Mems).length:Int))=true by simp;omega) ?_;refine (a0g (show (decide (0≤(i:Int))&&decide ((i:Int)<((a2i b.Mems).length:Int)))=true by simp;omega) _).trans ?_;rcases (Bool.eq_false_or_eq_true (dsk b i).Failed).symm with hfl | hfl
  ·refine a0k (hfa.trans hfl) (a1e (j1j b hbD h1 k (by omega)) ?_);rcases (Bool.eq_false_or_eq_true (op b).Down).symm with hd | hd
   ·rw [show a3w b i=h2s (op b) i (a5e (dsk b i)) by unfold a3w;rw [hfl,hd];rfl];refine a0k (show (!(!(op b).Down))=false by rw [hd];rfl) ?_;refine (a0g (show (decide (0≤(i:Int))&&decide ((i:Int)<((a2i (op b).Mems).length:Int)))=true by simp;omega) _).trans ?_;refine a1e ((congrArg (fun c=>a0a E P0 k N.j4c [.v c]) ((h0b hm').trans (congrArg Dsk.e (f4m b i)))).trans (h2c (dsk b i) (i1k hm (by omega)) k (by omega))) ?_;refine (a0g (show (decide (0≤(i:Int))&&decide ((i:Int)<((a2i (op b).Mems).length:Int)))=true by simp;omega) _).trans ?_;refine (a0g (Nat.beq_refl _) _).trans ?_;have hp:=e2h hm' (a5e (dsk b i));show G ((op b).stM (W64 ((i:Int)+1)) (a0x (a2i (op b).Mems) i 0 (a5e (dsk b i)).e))=bif (op b).Down then _ else G ((h2s (op b) i (a5e (dsk b i))).st (i+1));rw [hp,a1p (by omega),hd];rfl
   ·rw [show a3w b i=op b by unfold a3w;rw [hfl,hd];rfl];refine a0o (show (!(!(op b).Down))=true by rw [hd];rfl) ?_;show some (⟨[.b false],[(op b).e]⟩:Outs)=bif (op b).Down then some ⟨[.b (!(op b).Down)],[(op b).e]⟩ else _;rw [show (!(op b).Down)=false by rw [hd];rfl,hd];rfl
  ·rw [show a3w b i=b by unfold a3w;rw [hfl];rfl];refine a0o (hfa.trans hfl) ?_;show G (b.stM (W64 ((i:Int)+1)) (a2i b.Mems))=bif b.Down then _ else G (b.st (i+1));rw [a1p (by omega),hbD];rfl
 ·unfold a9v;refine a0k (show decide ((a.Mems.length:Int)<((a2i a.Mems).length:Int))=false by simp) ?_;show some (⟨[.b true],[b.e]⟩:Outs)=some ⟨[.b (!b.Down)],[b.e]⟩;rw [show (!b.Down)=true by rw [hbD];rfl]
theorem h7o (a:Arr) (hF:Fz a) (hw:a.w≤2147483648):Rn 9 N.j3s [.p a.e] ⟨[],[(b3g a).e]⟩:=by
 refine Rn.of fun k hk=>?_;have hB:Big=4294967296:=rfl;have hml:=a4k a (by omega);rw [f7w];unfold d3j c2n;refine (g9z (f:=a3w) KU (n:=a.Mems.length) (Rnd a 0) (fun i b hi h=>h.next d6w (c6y b i) (e8s b i)) (fun i b G hi h=>?_) (fun b G h=>?_) (a:=a) (Rnd.first hF) (by omega)).trans rfl
 ·obtain ⟨h1,h2,h3⟩:=h;have hbn:=h2.n;have hm:i<b.Mems.length:=by omega
  have hm':i<(op b).Mems.length:=by rw [e8q];exact hm
  have hfa:=d5e hm;unfold b4k;refine a0o (show decide ((i:Int)<((a2i b.Mems).length:Int))=true by simp;omega) ?_;refine (a0g (show (decide (0≤(i:Int))&&decide ((i:Int)<((a2i b.Mems).length:Int)))=true by simp;omega) _).trans ?_;rcases (Bool.eq_false_or_eq_true (dsk b i).Failed).symm with hfl | hfl
  ·refine a0o ((congrArg not (hfa.trans hfl)).trans rfl) (a1e (j1k b h1 k (by omega)) ?_);rcases (Bool.eq_false_or_eq_true (op b).Down).symm with hd | hd
   ·rw [show a3w b i=h2s (op b) i (a5e (dsk b i)) by unfold a3w;rw [hfl,hd];rfl];refine a0o (show (!(op b).Down)=true by rw [hd];rfl) ?_;refine (a0g (show (decide (0≤(i:Int))&&decide ((i:Int)<((a2i (op b).Mems).length:Int)))=true by simp;omega) _).trans ?_;refine a1e ((congrArg (fun c=>a0a E P0 k N.j3r [.v c]) ((h0b hm').trans (congrArg Dsk.e (f4m b i)))).trans (h2d (dsk b i) (i1k hm (by omega)) k (by omega))) ?_;refine (a0g (show (decide (0≤(i:Int))&&decide ((i:Int)<((a2i (op b).Mems).length:Int)))=true by simp;omega) _).trans ?_;have hp:=e2h hm' (a5e (dsk b i));show G ((op b).stM (W64 ((i:Int)+1)) (a0x (a2i (op b).Mems) i 0 (a5e (dsk b i)).e))=G ((h2s (op b) i (a5e (dsk b i))).st (i+1));rw [hp,a1p (by omega)];rfl
   ·rw [show a3w b i=op b by unfold a3w;rw [hfl,hd];rfl];refine a0k (show (!(op b).Down)=false by rw [hd];rfl) ?_;show G ((op b).stM (W64 ((i:Int)+1)) (a2i (op b).Mems))=G ((op b).st (i+1));rw [a1p (by omega)]
  ·rw [show a3w b i=b by unfold a3w;rw [hfl];rfl];refine a0k ((congrArg not (hfa.trans hfl)).trans rfl) ?_;show G (b.stM (W64 ((i:Int)+1)) (a2i b.Mems))=G (b.st (i+1));rw [a1p (by omega)]
 ·unfold b4k;have h2:=h.2.1.n;exact a0k (show decide ((a.Mems.length:Int)<((a2i b.Mems).length:Int))=false by simp;omega) rfl
theorem i5x (r:Rec) (h:r.Data.length≤Big):Rn 4 N.j8w [.v r.e] ⟨[.b (e8t r)],[]⟩:=by
 refine Rn.of fun k hk=>?_;rw [g3t];unfold d9d e8t;refine a1e (a1q _ _ _ k (by omega)) ?_;cases a0m r.Seq 0 60000
 ·rfl
 refine a0o rfl (a1e (a1q _ _ _ k (by omega)) ?_);cases a0m r.Stripe 0 7
 ·rfl
 refine a0o rfl ?_;rw [List.length_map];refine a1e (a1q _ _ _ k (by omega)) ?_;cases a0m (r.Data.length:Int) 2 4
 ·rfl
 exact a0o rfl (a1e (c6v r.Data h k (by omega)) rfl)
theorem i5y (r:Rec) (h:r.Data.length≤Big):Rn 4 N.j7u [.v r.e] ⟨[.b (e8t r)],[]⟩:=by
 refine Rn.of fun k hk=>?_;rw [g3c];unfold d8n e8t;refine a1e (a1a _ _ _ k (by omega)) ?_;cases a0m r.Seq 0 60000
 ·rfl
 refine a0o rfl (a1e (a1a _ _ _ k (by omega)) ?_);cases a0m r.Stripe 0 7
 ·rfl
 refine a0o rfl ?_;rw [List.length_map];refine a1e (a1a _ _ _ k (by omega)) ?_;cases a0m (r.Data.length:Int) 2 4
 ·rfl
 exact a0o rfl (a1e (c1n r.Data h k (by omega)) rfl)
theorem g5b {r:Rec} (h:e8t r=true):r.Data.length≤4:=by
 unfold e8t at h;simp only [Bool.and_eq_true] at h;have:=a0y h.2.2.1;omega
theorem i1l (r:Rec) (h:r.Data.length≤Big):Rn 5 N.j8x [.v r.e] ⟨[.r (eIs (c6z r))],[]⟩:=by
 refine Rn.of fun k hk=>?_;rw [f9j];unfold d4f c6z;refine a1e (i5x r h k (by omega)) ?_;cases ho:e8t r
 ·rfl
 ·have:=g5b ho;refine a0k rfl ((a0g (by simp;omega) _).trans ?_);rw [List.length_map];rfl
theorem h7p (q:Int):Rn 1 N.j8v [.v [.i q]] ⟨[.i (c3k q)],[]⟩:=by
 refine Rn.of fun k hk=>?_;rw [f9i];unfold d4e c3k;by_cases hq:q<0
 ·rw [decide_eq_true hq];rfl
 ·rw [decide_eq_false hq];have h1:=Int.tmod_eq_emod_of_nonneg (a:=q) (b:=4) (by omega);have h2:=Int.emod_nonneg q (b:=4) (by omega);have h3:=Int.emod_lt_of_pos q (b:=4) (by omega);show some (⟨[.i (W64 (2+Int.tmod q 4))],[]⟩:Outs)=_;rw [h1,a0e (by omega) (by omega)];rfl
theorem i1m (r:Rec) (h:r.Data.length≤Big):Rn 5 N.j7v [.v r.e] ⟨[.r (eIs (c6z r))],[]⟩:=by
 refine Rn.of fun k hk=>?_;rw [f7z];unfold d3m c6z;refine a1e (i5y r h k (by omega)) ?_;cases ho:e8t r
 ·rfl
 ·have:=g5b ho;refine a0k rfl ((a0g (by simp;omega) _).trans ?_);rw [List.length_map];rfl
theorem h7q (q:Int):Rn 1 N.j7t [.v [.i q]] ⟨[.i (c3k q)],[]⟩:=by
 refine Rn.of fun k hk=>?_;rw [f7y];unfold d3l c3k;by_cases hq:q<0
 ·rw [decide_eq_true hq];rfl
 ·rw [decide_eq_false hq];have h1:=Int.tmod_eq_emod_of_nonneg (a:=q) (b:=4) (by omega);have h2:=Int.emod_nonneg q (b:=4) (by omega);have h3:=Int.emod_lt_of_pos q (b:=4) (by omega);show some (⟨[.i (W64 (2+Int.tmod q 4))],[]⟩:Outs)=_;rw [h1,a0e (by omega) (by omega)];rfl
theorem i8n (l:List Int) (h:l.length≤Big):Rn 3 N.j8y [.v [.r (eIs l)]] ⟨[.i (i3c l)],[]⟩:=by
 refine Rn.of fun k hk=>?_;rw [d6g];unfold c1j;exact a1e (h6l l h k (by omega)) rfl
theorem i5z (l:List Int) (h:l.length≤Big):Rn 2 N.j7w [.v [.r (eIs l)]] ⟨[.i (i3c l)],[]⟩:=by
 refine Rn.of fun k hk=>?_;unfold Big at h hk;rw [g3e];unfold d8p c5h;show a1k _ k (xN 0#64,((0:Nat):Int))=_;refine a5b (R:=Outs) l.length (fun i=>(xN (h8h (fun i=>l.getD i 0) i),(i:Int))) (fun i=>some ⟨[.i (xN (h8h (fun i=>l.getD i 0) l.length))],[]⟩) (fun i hi G hG=>?_) (fun G=>?_) (by omega)
 ·unfold b6q;simp only [List.length_map,a6a hi,dlt hi,d0,Bool.and_self,a0i,cond_true,Int.toNat_natCast];rw [d4v,a1p (by omega)];exact hG
 ·unfold b6q;simp only [List.length_map,dll,cond_false]
theorem i8o (l:List Int) (h:l.length≤Big):Rn 3 N.j7x [.v [.r (eIs l)]] ⟨[.i (i3c l)],[]⟩:=by
 refine Rn.of fun k hk=>?_;rw [d6c];unfold c1g;exact a1e (i5z l h k (by omega)) rfl
def KS (a:Arr):Option Outs:=some ⟨[.b (!(b3g a).Down)],[(b3g a).e]⟩
def KT (a:Arr):Option Outs:=some ⟨[],[(b3g a).e]⟩
theorem h7r (a:Arr) (m:Nat):Rn 1 N.j8o [.v a.e,.v [.i (m:Int)]] ⟨(c0t a m).e,[]⟩:=by
 refine Rn.of fun k hk=>?_;rw [f1y];rfl
theorem i8p (a:Arr) (hD:a.Down=false) (hF:Fz a) (hw:a.w+a.Mems.length*10≤2147483648) (hl:inI a.Lost) (hg:0≤a.Gen∧a.Gen≤100000) :
  Rn 10 N.j8t [.p a.e] ⟨[.b (!(mark a).Down)],[(mark a).e]⟩:=by
 refine Rn.of fun k hk=>?_;have hB:Big=4294967296:=rfl;have hml:=a4k a (by omega);rw [e6r];unfold c6e b8a;rw [a0e (n:=a.Gen+1) (by omega) (by omega)];refine (h0a (f:=a8l) (fun _ _=>g0k) KS (n:=a.Mems.length) (Rnd { a with Gen:=a.Gen+1 } 10) (fun i b hi h=>h.next e8r (d0v b i) (g0m b i)) (fun i b G hi h hbD=>?_) (fun b G h hbD=>?_) (a:={ a with Gen:=a.Gen+1 }) (Rnd.first hF) hD (by omega)).trans rfl
 ·have hbw:=h.w (Nat.le_of_lt hi);obtain ⟨h1,h2,h3⟩:=h;have hbn:b.Mems.length=a.Mems.length:=h2.n;have hbl:inI b.Lost:=by
    have:b.Lost=a.Lost:=h2.lost;rw [this];exact hl
  have hbw:b.w≤a.w+a.Mems.length*10:=hbw;have hps:=(d0u (c0t b i)).2;unfold a9w;refine a0o (show decide ((i:Int)<((a2i a.Mems).length:Int))=true by simp;omega) ?_;refine a1e (h7r b i k (by omega)) (a1e (h2e (c0t b i) hbl k (by omega)) ?_);refine a1e (g7o b i (by omega) (Int.tmod b.Gen 2) (b2y (c0t b i)) hbD h1 (by omega) (by omega) k (by omega)) ?_;show (bif !(!(a8l b i).Down) then _ else _)=_;rcases (Bool.eq_false_or_eq_true (a8l b i).Down).symm with hd | hd
  ·refine a0k (show (!(!(a8l b i).Down))=false by rw [hd];rfl) ?_;show G ((a8l b i).stM (W64 ((i:Int)+1)) (a2i (a8l b i).Mems))=bif (a8l b i).Down then _ else G ((a8l b i).st (i+1));rw [a1p (by omega),hd];rfl
  ·refine a0o (show (!(!(a8l b i).Down))=true by rw [hd];rfl) ?_;show some (⟨[.b false],[(a8l b i).e]⟩:Outs)=bif (a8l b i).Down then KS (a8l b i) else _;rw [hd];show _=KS (a8l b i);unfold KS;rw [g4x hd,hd];rfl
 ·have hbw:=h.w (Nat.le_refl _);have hbw:b.w≤a.w+a.Mems.length*10:=hbw;unfold a9w;refine a0k (show decide ((a.Mems.length:Int)<((a2i a.Mems).length:Int))=false by simp) ?_;exact a1e (h7n b hbD h.1 (by omega) k (by omega)) rfl
theorem i8q (a:Arr) (hF:Fz a) (hw:a.w+a.Mems.length*10≤2147483648) (hl:inI a.Lost) (hg:0≤a.Gen∧a.Gen≤100000) :
  Rn 10 N.j7r [.p a.e] ⟨[],[(mark a).e]⟩:=by
 refine Rn.of fun k hk=>?_;have hB:Big=4294967296:=rfl;have hml:=a4k a (by omega);rw [f7x];unfold d3k c2o;rw [a0e (n:=a.Gen+1) (by omega) (by omega)];refine (g9z (f:=a8l) KT (n:=a.Mems.length) (Rnd { a with Gen:=a.Gen+1 } 10) (fun i b hi h=>h.next e8r (d0v b i) (g0m b i)) (fun i b G hi h=>?_) (fun b G h=>?_) (a:={ a with Gen:=a.Gen+1 }) (Rnd.first hF) (by omega)).trans rfl
 ·have hbw:=h.w (Nat.le_of_lt hi);obtain ⟨h1,h2,h3⟩:=h;have hbn:b.Mems.length=a.Mems.length:=h2.n;have hbl:inI b.Lost:=by
   have:b.Lost=a.Lost:=h2.lost;rw [this];exact hl
  have hbw:b.w≤a.w+a.Mems.length*10:=hbw;have hps:=(d0u (c0t b i)).2;unfold b4l;refine a0o (show decide ((i:Int)<((a2i b.Mems).length:Int))=true by simp;omega) ?_;refine a1e (h2f (c0t b i) hbl k (by omega)) ?_;refine a1e (g7p b i (by omega) (Int.tmod b.Gen 2) (b2y (c0t b i)) h1 (by omega) (by omega) k (by omega)) ?_;show G ((a8l b i).stM (W64 ((i:Int)+1)) (a2i (a8l b i).Mems))=G ((a8l b i).st (i+1));rw [a1p (by omega)]
 ·have hbw:=h.w (Nat.le_refl _);have hbn:b.Mems.length=a.Mems.length:=h.2.1.n;have hbw:b.w≤a.w+a.Mems.length*10:=hbw;unfold b4l;refine a0k (show decide ((a.Mems.length:Int)<((a2i b.Mems).length:Int))=false by simp;omega) ?_;exact a1e (h7o b h.1 (by omega) k (by omega)) rfl
theorem i6a (a:Arr) (hD:a.Down=false) (hF:Fz a) (hw:a.w+a.Mems.length*10≤2147483648) (hl:inI a.Lost) (hg:0≤a.Gen∧a.Gen≤100000) :
  Rn 11 N.j8u [.p a.e] ⟨[.b (!(a5c a).Down)],[(a5c a).e]⟩:=by
 refine Rn.of fun k hk=>?_;have hB:Big=4294967296:=rfl;have hk':=b8q a;have hsw:=g4w a;rw [e0i];unfold c3y;refine a1e (h7n a hD hF (by omega) k (by omega)) ?_;rcases b3n a with ⟨hd,e⟩ | ⟨hd,e⟩
 ·rw [e];refine a0o (show (!(!(b3g a).Down))=true by rw [hd];rfl) ?_;show some (⟨[.b false],[(b3g a).e]⟩:Outs)=some ⟨[.b (!(b3g a).Down)],[(b3g a).e]⟩;rw [show (!(b3g a).Down)=false by rw [hd];rfl]
 ·rw [e];refine a0k (show (!(!(b3g a).Down))=false by rw [hd];rfl) ?_;exact a1e (i8p { b3g a with Tail:=(b3g a).Seq } hd (d6x hF) (show (b3g a).w+(b3g a).Mems.length*10≤_ by rw [hk'.n];omega) (show inI (b3g a).Lost by rw [hk'.lost];exact hl) (show 0≤(b3g a).Gen∧(b3g a).Gen≤100000 by rw [hk'.gen];exact hg) k (by omega)) rfl
theorem i6b (a:Arr) (hF:Fz a) (hw:a.w+a.Mems.length*10≤2147483648) (hl:inI a.Lost) (hg:0≤a.Gen∧a.Gen≤100000) :
  Rn 11 N.j7s [.p a.e] ⟨[],[(a5c a).e]⟩:=by
 refine Rn.of fun k hk=>?_;have hB:Big=4294967296:=rfl;have hk':=b8q a;have hsw:=g4w a;rw [f1d];unfold c8x;refine a1e (h7o a hF (by omega) k (by omega)) ?_;rcases b3n a with ⟨hd,e⟩ | ⟨hd,e⟩
 ·rw [e];exact a0o hd rfl
 ·rw [e];refine a0k hd ?_;exact a1e (i8q { b3g a with Tail:=(b3g a).Seq } (d6x hF) (show (b3g a).w+(b3g a).Mems.length*10≤_ by rw [hk'.n];omega) (show inI (b3g a).Lost by rw [hk'.lost];exact hl) (show 0≤(b3g a).Gen∧(b3g a).Gen≤100000 by rw [hk'.gen];exact hg) k (by omega)) rfl
theorem f4p (r:Rec) (a:Arr) (m:Nat):Keep a (b5j r a m):=e2f _ _ _ _
theorem h7s (r:Rec) (a:Arr) (m:Nat):(b5j r a m).w≤a.w+9:=by
 have h1:=h7d a m (c3k r.Seq) (c6z r);have h2:=c7s r;unfold b5j;omega
theorem h0c (a:Arr) (r:Rec) (hr:r.Data.length≤Big) (hD:a.Down=false) (hF:Fz a) (hw:a.w+a.Mems.length*9≤2147483648) :
  Rn 10 N.j5r [.p a.e,.v r.e] ⟨[.b (!(b5k a r).Down)],[(b5k a r).e]⟩:=by
 refine Rn.of fun k hk=>?_;have hB:Big=4294967296:=rfl;have hml:=a4k a (by omega);have hrl:=c7s r;rw [d6f];unfold c1i b3l;refine (h0a (f:=b5j r) (fun _ _=>g0k) KS (n:=a.Mems.length) (Rnd a 9) (fun i b hi h=>h.next e8r (f4p r b i) (h7s r b i)) (fun i b G hi h hbD=>?_) (fun b G h hbD=>?_) (a:=a) (Rnd.first hF) hD (by omega)).trans rfl
 ·have hbw:=h.w (Nat.le_of_lt hi);obtain ⟨h1,h2,h3⟩:=h;have hbn:b.Mems.length=a.Mems.length:=h2.n;unfold a6u;refine a0o (show decide ((i:Int)<((a2i a.Mems).length:Int))=true by simp;omega) ?_;refine a1e (h7p r.Seq k (by omega)) (a1e (i1l r hr k (by omega)) ?_);refine a1e (g7o b i (by omega) (c3k r.Seq) (c6z r) hbD h1 (by omega) (by omega) k (by omega)) ?_;show (bif !(!(b5j r b i).Down) then _ else _)=_;rcases (Bool.eq_false_or_eq_true (b5j r b i).Down).symm with hd | hd
  ·refine a0k (show (!(!(b5j r b i).Down))=false by rw [hd];rfl) ?_;show G ((b5j r b i).stM (W64 ((i:Int)+1)) (a2i (b5j r b i).Mems))=bif (b5j r b i).Down then _ else G ((b5j r b i).st (i+1));rw [a1p (by omega),hd];rfl
  ·refine a0o (show (!(!(b5j r b i).Down))=true by rw [hd];rfl) ?_;show some (⟨[.b false],[(b5j r b i).e]⟩:Outs)=bif (b5j r b i).Down then KS (b5j r b i) else _;rw [hd];show _=KS (b5j r b i);unfold KS;rw [g4x hd,hd];rfl
 ·have hbw:=h.w (Nat.le_refl _);unfold a6u;refine a0k (show decide ((a.Mems.length:Int)<((a2i a.Mems).length:Int))=false by simp) ?_;exact a1e (h7n b hbD h.1 (by omega) k (by omega)) rfl
theorem h0d (a:Arr) (r:Rec) (hr:r.Data.length≤Big) (hF:Fz a) (hw:a.w+a.Mems.length*9≤2147483648) :
  Rn 10 N.j4x [.p a.e,.v r.e] ⟨[],[(b5k a r).e]⟩:=by
 refine Rn.of fun k hk=>?_;have hB:Big=4294967296:=rfl;have hml:=a4k a (by omega);have hrl:=c7s r;rw [g3d];unfold d8o c5g;refine (g9z (f:=b5j r) KT (n:=a.Mems.length) (Rnd a 9) (fun i b hi h=>h.next e8r (f4p r b i) (h7s r b i)) (fun i b G hi h=>?_) (fun b G h=>?_) (a:=a) (Rnd.first hF) (by omega)).trans rfl
 ·have hbw:=h.w (Nat.le_of_lt hi);obtain ⟨h1,h2,h3⟩:=h;have hbn:b.Mems.length=a.Mems.length:=h2.n;unfold b6p;refine a0o (show decide ((i:Int)<((a2i b.Mems).length:Int))=true by simp;omega) ?_;refine a1e (h7q r.Seq k (by omega)) (a1e (i1m r hr k (by omega)) ?_);refine a1e (g7p b i (by omega) (c3k r.Seq) (c6z r) h1 (by omega) (by omega) k (by omega)) ?_;show G ((b5j r b i).stM (W64 ((i:Int)+1)) (a2i (b5j r b i).Mems))=G ((b5j r b i).st (i+1));rw [a1p (by omega)]
 ·have hbw:=h.w (Nat.le_refl _);have hbn:b.Mems.length=a.Mems.length:=h.2.1.n;unfold b6p;refine a0k (show decide ((a.Mems.length:Int)<((a2i b.Mems).length:Int))=false by simp;omega) ?_;exact a1e (h7o b h.1 (by omega) k (by omega)) rfl
theorem e2i {l:List Int} {i:Nat} (h:i<l.length) (n:Int):a0x (eIs l) i 0 [.i n]=eIs (l.set i n):=d6t (fun n=>[.i n]) h 0 [.i n] n rfl
theorem f4q {s:Int} {data:List Int} {a:Arr} {m:Nat} (h:Fz a):Fz (a2p s data a m):=by
 unfold a2p;cases b8o a m s
 ·exact h
 ·exact e8r h
theorem g5c (s:Int) (data:List Int) (a:Arr) (m:Nat):(a2p s data a m).w≤a.w+2:=by
 unfold a2p;cases b8o a m s
 ·exact Nat.le_add_right _ _
 ·exact h7d _ _ _ _
theorem f4r (a:Arr) (s:Int) (data:List Int) (hs:a0r a.G s=true) (hd:(data.length:Int)=a.G.N - 1) (hn:(a.Mems.length:Int)=a.G.N) (hD:a.Down=false) (hF:Fz a) (hw:a.w+a.Mems.length*2≤2147483648) :
  Rn 10 N.j2k [.p a.e,.v [.i s],.v [.r (eIs data)]] ⟨[.b (!(a6c a s data).Down)],[(a6c a s data).e]⟩:=by
 refine Rn.of fun k hk=>?_;have hB:Big=4294967296:=rfl;obtain ⟨hp0,hp1⟩:=c7v hs;obtain ⟨g1,g2,_,_⟩:=a1l (a3m hs).1;rw [e0j];unfold b5q b5p;refine (a0g (by simp;omega) _).trans ?_;refine a1e (f4i a.G s k (by omega)) (a1e (i8n data (by omega) k (by omega)) ?_);refine (a0g (show (decide (0≤a1b a.G s)&&decide (a1b a.G s<((List.replicate a.G.N.toNat ([.i 0]:List T)).length:Int)))=true by simp;omega) _).trans ?_;have e0:a0x (List.replicate a.G.N.toNat ([.i 0]:List T)) (a1b a.G s).toNat 0 [.i (i3c data)]=eIs ((List.range a.G.N.toNat).map (c8b a.G s data 0)):=by
  rw [← g7n hs data,← e2i (by simp;omega),eIs,List.map_replicate]
 show a1k _ k ((0:Int),a0x (List.replicate a.G.N.toNat ([.i 0]:List T)) (a1b a.G s).toNat 0 [.i (i3c data)])=_;rw [e0];refine (a5b (R:=Outs) data.length (fun i=>((i:Int),eIs ((List.range a.G.N.toNat).map (c8b a.G s data i)))) (fun _=>KB (a6c a s data)) (fun i hi G hG=>?_) (fun G=>?_) (by omega)).trans rfl
 ·have hi':(i:Int)<a.G.N - 1:=by omega
  have hwi:a0m (i:Int) 0 (a.G.N - 2)=true:=by unfold a0m;simp;omega
  obtain ⟨b0,b1⟩:=g0e hs hwi;unfold a4c a8f;refine a0o (show decide ((i:Int)<((eIs data).length:Int))=true by simp;omega) ?_;refine (a0g (show (decide (0≤(i:Int))&&decide ((i:Int)<((eIs data).length:Int)))=true by simp;omega) _).trans ?_;refine a1e (g9n a.G s i k (by omega)) ?_;refine (a0g (show (decide (0≤a9e a.G s i)&&decide (a9e a.G s i<((eIs ((List.range a.G.N.toNat).map (c8b a.G s data i))).length:Int)))=true by simp;omega) _).trans ?_;show G (W64 ((i:Int)+1),a0x (eIs ((List.range a.G.N.toNat).map (c8b a.G s data i))) (a9e a.G s i).toNat 0 [.i (at_ (eIs data) i 0).asI])=_;rw [a6a hi,e2i (by simp;omega),h2k hs data i hi',a1p (by omega)];exact hG
 ·unfold a4c a8f;refine a0k (show decide ((data.length:Int)<((eIs data).length:Int))=false by simp) ?_;have hll:((List.range a.G.N.toNat).map (c8b a.G s data data.length)).length=a.Mems.length:=by simp;omega
  refine (h0a (f:=a2p s data) g4z KB (n:=a.Mems.length) (Rnd a 2) (fun i b hi h=>h.next f4q (c7a s data b i) (g5c s data b i)) (fun i b G hi h hbD=>?_) (fun b G h hbD=>?_) (a:=a) (Rnd.first hF) hD (by omega)).trans rfl
  ·have hbw:=h.w (Nat.le_of_lt hi);obtain ⟨h1,h2,h3⟩:=h;have hbn:b.Mems.length=a.Mems.length:=h2.n;have hbg:b.G=a.G:=h2.g;unfold a3f;refine a0o (show decide ((i:Int)<((eIs ((List.range a.G.N.toNat).map (c8b a.G s data data.length))).length:Int))=true by rw [List.length_map,hll];exact dlt hi) ?_;refine (a0g (show (decide (0≤(i:Int))&&decide ((i:Int)<((eIs ((List.range a.G.N.toNat).map (c8b a.G s data data.length))).length:Int)))=true by rw [List.length_map,hll,dlt hi];simp) _).trans ?_;refine a1e (g9l b (by omega) i s k (by omega)) ?_;rcases (Bool.eq_false_or_eq_true (b8o b i s)).symm with hl | hl
   ·rw [show a2p s data b i=b by unfold a2p;rw [hl];rfl];refine a0k hl ?_;show G (b.stM (W64 ((i:Int)+1)) (a2i b.Mems))=bif b.Down then _ else G (b.st (i+1));rw [a1p (by omega),hbD];rfl
   ·have hX:put b i (a9d s) [b8r b.G s data i]=a2p s data b i:=by unfold a2p;rw [hl];rfl
    have hx:(at_ (eIs ((List.range a.G.N.toNat).map (c8b a.G s data data.length))) i 0).asI=b8r b.G s data i:=by
     rw [a6a (by omega),hbg,← h2l hs data hd i (by omega),List.getD_eq_getElem?_getD,List.getElem?_map,List.getElem?_range (by omega)];rfl
    refine a0o hl (a1e (g9j s k (by omega)) ?_);refine a1e ((congrArg (fun x=>a0a E P0 k N.j3j [.p b.e,.v [.i (i:Int)],.v [.i (a9d s)],.v [.r [[.i x]]]]) hx).trans (g7o b i (by omega) (a9d s) [b8r b.G s data i] hbD h1 (by omega) (by show 1≤Big;omega) k (by omega))) ?_;rw [hX];rcases (Bool.eq_false_or_eq_true (a2p s data b i).Down).symm with hd | hd
    ·refine a0k (show (!(!(a2p s data b i).Down))=false by rw [hd];rfl) ?_;show G ((a2p s data b i).stM (W64 ((i:Int)+1)) (a2i (a2p s data b i).Mems))=bif (a2p s data b i).Down then _ else G ((a2p s data b i).st (i+1));rw [a1p (by omega),hd];rfl
    ·refine a0o (show (!(!(a2p s data b i).Down))=true by rw [hd];rfl) ?_;show some (⟨[.b false],[(a2p s data b i).e]⟩:Outs)=bif (a2p s data b i).Down then KB (a2p s data b i) else _;rw [hd];show _=KB (a2p s data b i);unfold KB;rw [hd];rfl
  ·unfold a3f;refine a0k (show decide ((a.Mems.length:Int)<((eIs ((List.range a.G.N.toNat).map (c8b a.G s data data.length))).length:Int))=false by rw [List.length_map,hll];exact dll) ?_;show some (⟨[.b true],[b.e]⟩:Outs)=some ⟨[.b (!b.Down)],[b.e]⟩;rw [show (!b.Down)=true by rw [hbD];rfl]
theorem f4s (a:Arr) (s:Int) (data:List Int) (hs:a0r a.G s=true) (hd:(data.length:Int)=a.G.N - 1) (hn:(a.Mems.length:Int)=a.G.N) (hF:Fz a) (hw:a.w+a.Mems.length*2≤2147483648) :
  Rn 10 N.j2u [.p a.e,.v [.i s],.v [.r (eIs data)]] ⟨[],[(a6c a s data).e]⟩:=by
 refine Rn.of fun k hk=>?_;have hB:Big=4294967296:=rfl;obtain ⟨hp0,hp1⟩:=c7v hs;obtain ⟨g1,g2,_,_⟩:=a1l (a3m hs).1;rw [f8e];unfold d3n b6r;refine a1e (f4j a.G s k (by omega)) ?_;refine (g9z (f:=a2p s data) KU (n:=a.Mems.length) (Rnd a 2) (fun i b hi h=>h.next f4q (c7a s data b i) (g5c s data b i)) (fun i b G hi h=>?_) (fun b G h=>?_) (a:=a) (Rnd.first hF) (by omega)).trans rfl
 ·have hbw:=h.w (Nat.le_of_lt hi);obtain ⟨h1,h2,h3⟩:=h;have hbn:b.Mems.length=a.Mems.length:=h2.n;have hbg:b.G=a.G:=h2.g;have key:∀ x:Int,x=b8r b.G s data i→b4m k s b.Down b.Broken i b.Id b.G.N b.G.S b.Lost b.Built b.Seq b.Tail b.Gen b.Fuse (a2i b.Mems) (a1c b.Dirty) G x=G ((a2p s data b i).st (i+1)):=by
   intro x hx;subst hx;unfold b4m;refine a1e (g9m b (by omega) i s k (by omega)) ?_;rcases (Bool.eq_false_or_eq_true (b8o b i s)).symm with hl | hl
   ·rw [show a2p s data b i=b by unfold a2p;rw [hl];rfl];refine a0k hl ?_;show G (b.stM (W64 ((i:Int)+1)) (a2i b.Mems))=G (b.st (i+1));rw [a1p (by omega)]
   ·have hX:put b i (a9d s) [b8r b.G s data i]=a2p s data b i:=by unfold a2p;rw [hl];rfl
    refine a0o hl (a1e (g9k s k (by omega)) ?_);refine a1e (g7p b i (by omega) (a9d s) [b8r b.G s data i] h1 (by omega) (by show 1≤Big;omega) k (by omega)) ?_;rw [hX];show G ((a2p s data b i).stM (W64 ((i:Int)+1)) (a2i (a2p s data b i).Mems))=G ((a2p s data b i).st (i+1));rw [a1p (by omega)]
  unfold b4n;refine a0o (show decide ((i:Int)<((a2i b.Mems).length:Int))=true by simp;omega) ?_;refine a1e (i8o data (by omega) k (by omega)) ?_;rcases (Bool.eq_false_or_eq_true ((i:Int) == a1b b.G s)).symm with hp | hp
  ·have hp':(i:Int)≠a1b a.G s:=by rw [← hbg];simpa using hp
   obtain ⟨x0,x1⟩:=h2m hs i (by omega) hp';refine a0o (show ((i:Int) != a1b a.G s)=true by simpa using hp') ?_;have hix:Int.tmod (W64 (W64 (W64 ((i:Int) - a1b a.G s) - 1)+b.G.N)) b.G.N=((i:Int) - a1b a.G s - 1+a.G.N) % a.G.N:=by
    rw [hbg,a0e (n:=(i:Int) - a1b a.G s) (by omega) (by omega),a0e (n:=(i:Int) - a1b a.G s - 1) (by omega) (by omega),a0e (by omega) (by omega),Int.tmod_eq_emod_of_nonneg (by omega)]
   refine (a0g (show (!decide (b.G.N=0))=true by rw [hbg];simp;omega) _).trans ?_;refine (a0g (show (decide (0≤Int.tmod (W64 (W64 (W64 ((i:Int) - a1b a.G s) - 1)+b.G.N)) b.G.N)&&decide (Int.tmod (W64 (W64 (W64 ((i:Int) - a1b a.G s) - 1)+b.G.N)) b.G.N<((eIs data).length:Int)))=true by rw [hix,decide_eq_true x0,List.length_map,decide_eq_true (by omega)];rfl) _).trans ?_;refine key _ ?_;show (at_ (eIs data) (Int.tmod (W64 (W64 (W64 ((i:Int) - a1b a.G s) - 1)+b.G.N)) b.G.N).toNat 0).asI=_;rw [hix,a6a (by omega)];unfold b8r;rw [hbg,show ((i:Int) == a1b a.G s)=false by simpa using hp'];rfl
  ·have hp':(i:Int)=a1b a.G s:=by rw [← hbg];simpa using hp
   refine a0k (show ((i:Int) != a1b a.G s)=false by simpa using hp') ?_;refine key _ ?_;unfold b8r;rw [hp];rfl
 ·have hbn:b.Mems.length=a.Mems.length:=h.2.1.n;unfold b4n;exact a0k (show decide ((a.Mems.length:Int)<((a2i b.Mems).length:Int))=false by simp;omega) rfl
theorem d9s {a:Arr} {data:List Int} (ha:a3l a=true) (hdt:a9c a.G data=true):(data.length:Int)=a.G.N - 1∧data.length≤4:=by
 obtain ⟨g1,g2,_,_⟩:=a1l (c4h ha).1;unfold a9c at hdt;have h1:(data.length:Int)=a.G.N - 1:=by simpa using (a0d hdt).1
 exact ⟨h1,by omega⟩
theorem i1n (a:Arr) (s:Int) (data:List Int) (ha:a3l a=true) (hdt:a9c a.G data=true) (hD:a.Down=false) (hs:a0r a.G s=true) (hw:a.w≤1073741824) :
  Rn 12 N.j8z [.p a.e,.v [.i s],.v [.r (eIs data)]] ⟨[.b (!(a2s a s data).Down)],[(a2s a s data).e]⟩:=by
 refine Rn.of fun k hk=>?_;have hB:Big=4294967296:=rfl;obtain ⟨g1,g2,_,_⟩:=a1l (c4h ha).1;obtain ⟨c1,c2,c3,c4,c5,c6,c7,hF,c8,c9⟩:=c7u ha;have hmN:=(c4h ha).2.1;obtain ⟨hdN,hd4⟩:=d9s ha hdt;have hdl:data.length≤Big:=by omega
 rw [d6j];unfold c1k;rw [a0e (n:=a.Seq - a.Tail) (by omega) (by omega)];rcases Bool.eq_false_or_eq_true (decide (a.Seq - a.Tail≥4)) with h4 | h4
 ·refine a0o h4 ?_;have hSB:a2a a=a5c a:=by unfold a2a;exact a0o h4 rfl
  have hBF:=g9w hF;have hBk:=d6y a;have hBw:=g7k a;have hBn:=hBk.n;have hBg:=hBk.g;have hBs:=hBk.seq;refine a1e (i6a a hD hF (by omega) ⟨by omega,by omega⟩ ⟨by omega,by omega⟩ k (by omega)) ?_;rcases (Bool.eq_false_or_eq_true (a5c a).Down).symm with hBD | hBD
  ·refine a0k (show (!(!(a5c a).Down))=false by rw [hBD];rfl) ?_;have hrec:=h0c (a5c a) ⟨(a5c a).Seq,s,data⟩ hdl hBD hBF (by omega) k (by omega);have hk2:=b3o (a5c a) ⟨(a5c a).Seq,s,data⟩;have hfz:=d5a (r:=⟨(a5c a).Seq,s,data⟩) hBF;have hwr:=d5b (a5c a) ⟨(a5c a).Seq,s,data⟩;generalize hC:b5k (a5c a) ⟨(a5c a).Seq,s,data⟩=C at hrec hk2 hfz hwr;have hcn:C.Mems.length=a.Mems.length:=hk2.n.trans hBn;have hcg:C.G=a.G:=hk2.g.trans hBg;have hcs:C.Seq=a.Seq:=hk2.seq.trans hBs;rw [hBn] at hwr;refine a1e (a3j data hdl k (by omega)) (a1e hrec ?_);rcases (Bool.eq_false_or_eq_true C.Down).symm with hr | hr
   ·have hst:a2s a s data=a6c { C with Seq:=C.Seq+1 } s data:=by unfold a2s;rw [hSB,hBD,cond_false,hC];exact a0k hr rfl
    have hw1:W64 (C.Seq+1)=C.Seq+1:=a0e (by omega) (by omega);have hpw:=f4r { C with Seq:=C.Seq+1 } s data (by rw [show ({ C with Seq:=C.Seq+1 }:Arr).G=a.G from hcg];exact hs) (by rw [show ({ C with Seq:=C.Seq+1 }:Arr).G=a.G from hcg];exact hdN) (show (C.Mems.length:Int)=C.G.N by rw [hcn,hcg];exact hmN) hr hfz (show C.w+C.Mems.length*2≤_ by omega) k (by omega);rw [hst];refine a0k (show (!(!C.Down))=false by rw [hr];rfl) ?_;refine a1e ((congrArg (fun q=>a0a E P0 k N.j2k [.p [.i C.Id,.i C.G.N,.i C.G.S,.r (a2i C.Mems),.i C.Lost,.i C.Built,.i q,.i C.Tail,.i C.Gen,.r (a1c C.Dirty),.i C.Fuse,.b C.Down,.b C.Broken],.v [.i s],.v [.r (eIs data)]]) hw1).trans hpw) ?_;rfl
   ·have hst:a2s a s data=C:=by unfold a2s;rw [hSB,hBD,cond_false,hC];exact a0o hr rfl
    rw [hst];refine a0o (show (!(!C.Down))=true by rw [hr];rfl) ?_;show some (⟨[.b false],[C.e]⟩:Outs)=some ⟨[.b (!C.Down)],[C.e]⟩;rw [show (!C.Down)=false by rw [hr];rfl]
  ·have hst:a2s a s data=a5c a:=by unfold a2s;rw [hSB];exact a0o hBD rfl
   rw [hst];refine a0o (show (!(!(a5c a).Down))=true by rw [hBD];rfl) ?_;show some (⟨[.b false],[(a5c a).e]⟩:Outs)=some ⟨[.b (!(a5c a).Down)],[(a5c a).e]⟩;rw [show (!(a5c a).Down)=false by rw [hBD];rfl]
 ·refine a0k h4 ?_;have hSB:a2a a=a:=by unfold a2a;exact a0k h4 rfl
  have hBF:=hF;have hBw:a.w≤a.w:=Nat.le_refl _;have hBn:a.Mems.length=a.Mems.length:=rfl;have hBg:a.G=a.G:=rfl;have hBs:a.Seq=a.Seq:=rfl;have hBD:=hD;have hrec:=h0c a ⟨a.Seq,s,data⟩ hdl hBD hBF (by omega) k (by omega);have hk2:=b3o a ⟨a.Seq,s,data⟩;have hfz:=d5a (r:=⟨a.Seq,s,data⟩) hBF;have hwr:=d5b a ⟨a.Seq,s,data⟩;generalize hC:b5k a ⟨a.Seq,s,data⟩=C at hrec hk2 hfz hwr;have hcn:C.Mems.length=a.Mems.length:=hk2.n.trans hBn;have hcg:C.G=a.G:=hk2.g.trans hBg;have hcs:C.Seq=a.Seq:=hk2.seq.trans hBs;rw [hBn] at hwr;refine a1e (a3j data hdl k (by omega)) (a1e hrec ?_);rcases (Bool.eq_false_or_eq_true C.Down).symm with hr | hr
  ·have hst:a2s a s data=a6c { C with Seq:=C.Seq+1 } s data:=by unfold a2s;rw [hSB,hBD,cond_false,hC];exact a0k hr rfl
   have hw1:W64 (C.Seq+1)=C.Seq+1:=a0e (by omega) (by omega);have hpw:=f4r { C with Seq:=C.Seq+1 } s data (by rw [show ({ C with Seq:=C.Seq+1 }:Arr).G=a.G from hcg];exact hs) (by rw [show ({ C with Seq:=C.Seq+1 }:Arr).G=a.G from hcg];exact hdN) (show (C.Mems.length:Int)=C.G.N by rw [hcn,hcg];exact hmN) hr hfz (show C.w+C.Mems.length*2≤_ by omega) k (by omega);rw [hst];refine a0k (show (!(!C.Down))=false by rw [hr];rfl) ?_;refine a1e ((congrArg (fun q=>a0a E P0 k N.j2k [.p [.i C.Id,.i C.G.N,.i C.G.S,.r (a2i C.Mems),.i C.Lost,.i C.Built,.i q,.i C.Tail,.i C.Gen,.r (a1c C.Dirty),.i C.Fuse,.b C.Down,.b C.Broken],.v [.i s],.v [.r (eIs data)]]) hw1).trans hpw) ?_;rfl
  ·have hst:a2s a s data=C:=by unfold a2s;rw [hSB,hBD,cond_false,hC];exact a0o hr rfl
   rw [hst];refine a0o (show (!(!C.Down))=true by rw [hr];rfl) ?_;show some (⟨[.b false],[C.e]⟩:Outs)=some ⟨[.b (!C.Down)],[C.e]⟩;rw [show (!C.Down)=false by rw [hr];rfl]
theorem i1o (a:Arr) (s:Int) (data:List Int) (ha:a3l a=true) (hdt:a9c a.G data=true) (hD:a.Down=false) (hs:a0r a.G s=true) (hw:a.w≤1073741824) :
  Rn 12 N.j4y [.p a.e,.v [.i s],.v [.r (eIs data)]] ⟨[.i (a4v (a2s a s data))],[(a2s a s data).e]⟩:=by
 refine Rn.of fun k hk=>?_;have hB:Big=4294967296:=rfl;obtain ⟨g1,g2,_,_⟩:=a1l (c4h ha).1;obtain ⟨c1,c2,c3,c4,c5,c6,c7,hF,c8,c9⟩:=c7u ha;have hmN:=(c4h ha).2.1;obtain ⟨hdN,hd4⟩:=d9s ha hdt;have hdl:data.length≤Big:=by omega
 rw [f1f];unfold c8z;rw [a0e (n:=a.Seq - a.Tail) (by omega) (by omega)];rcases Bool.eq_false_or_eq_true (decide (a.Seq - a.Tail≥4)) with h4 | h4
 ·refine a0o h4 ?_;have hSB:a2a a=a5c a:=by unfold a2a;exact a0o h4 rfl
  have hBF:=g9w hF;have hBk:=d6y a;have hBw:=g7k a;have hBn:=hBk.n;have hBg:=hBk.g;have hBs:=hBk.seq;refine a1e (i6b a hF (by omega) ⟨by omega,by omega⟩ ⟨by omega,by omega⟩ k (by omega)) ?_;rcases (Bool.eq_false_or_eq_true (a5c a).Down).symm with hBD | hBD
  ·refine a0k hBD ?_;have hrec:=h0d (a5c a) ⟨(a5c a).Seq,s,data⟩ hdl hBF (by omega) k (by omega);have hk2:=b3o (a5c a) ⟨(a5c a).Seq,s,data⟩;have hfz:=d5a (r:=⟨(a5c a).Seq,s,data⟩) hBF;have hwr:=d5b (a5c a) ⟨(a5c a).Seq,s,data⟩;generalize hC:b5k (a5c a) ⟨(a5c a).Seq,s,data⟩=C at hrec hk2 hfz hwr;have hcn:C.Mems.length=a.Mems.length:=hk2.n.trans hBn;have hcg:C.G=a.G:=hk2.g.trans hBg;have hcs:C.Seq=a.Seq:=hk2.seq.trans hBs;rw [hBn] at hwr;refine (a0g (by simp;omega) _).trans ?_;refine a1e hrec ?_;rcases (Bool.eq_false_or_eq_true C.Down).symm with hr | hr
   ·have hst:a2s a s data=a6c { C with Seq:=C.Seq+1 } s data:=by unfold a2s;rw [hSB,hBD,cond_false,hC];exact a0k hr rfl
    have hw1:W64 (C.Seq+1)=C.Seq+1:=a0e (by omega) (by omega);have hpw:=f4s { C with Seq:=C.Seq+1 } s data (by rw [show ({ C with Seq:=C.Seq+1 }:Arr).G=a.G from hcg];exact hs) (by rw [show ({ C with Seq:=C.Seq+1 }:Arr).G=a.G from hcg];exact hdN) (show (C.Mems.length:Int)=C.G.N by rw [hcn,hcg];exact hmN) hfz (show C.w+C.Mems.length*2≤_ by omega) k (by omega);rw [hst];refine a0k hr ?_;refine a1e ((congrArg (fun q=>a0a E P0 k N.j2u [.p [.i C.Id,.i C.G.N,.i C.G.S,.r (a2i C.Mems),.i C.Lost,.i C.Built,.i q,.i C.Tail,.i C.Gen,.r (a1c C.Dirty),.i C.Fuse,.b C.Down,.b C.Broken],.v [.i s],.v [.r (eIs data)]]) hw1).trans hpw) ?_;unfold a4v;rcases (Bool.eq_false_or_eq_true (a6c { C with Seq:=C.Seq+1 } s data).Down).symm with hq | hq
    ·rw [hq];exact a0k hq rfl
    ·rw [hq];exact a0o hq rfl
   ·have hst:a2s a s data=C:=by unfold a2s;rw [hSB,hBD,cond_false,hC];exact a0o hr rfl
    rw [hst];unfold a4v;rw [hr];exact a0o hr rfl
  ·have hst:a2s a s data=a5c a:=by unfold a2s;rw [hSB];exact a0o hBD rfl
   rw [hst];unfold a4v;rw [hBD];exact a0o hBD rfl
 ·refine a0k h4 ?_;have hSB:a2a a=a:=by unfold a2a;exact a0k h4 rfl
  have hBF:=hF;have hBw:a.w≤a.w:=Nat.le_refl _;have hBn:a.Mems.length=a.Mems.length:=rfl;have hBg:a.G=a.G:=rfl;have hBs:a.Seq=a.Seq:=rfl;have hBD:=hD;refine a0k hD ?_;have hrec:=h0d a ⟨a.Seq,s,data⟩ hdl hBF (by omega) k (by omega);have hk2:=b3o a ⟨a.Seq,s,data⟩;have hfz:=d5a (r:=⟨a.Seq,s,data⟩) hBF;have hwr:=d5b a ⟨a.Seq,s,data⟩;generalize hC:b5k a ⟨a.Seq,s,data⟩=C at hrec hk2 hfz hwr;have hcn:C.Mems.length=a.Mems.length:=hk2.n.trans hBn;have hcg:C.G=a.G:=hk2.g.trans hBg;have hcs:C.Seq=a.Seq:=hk2.seq.trans hBs;rw [hBn] at hwr;refine (a0g (by simp;omega) _).trans ?_;refine a1e hrec ?_;rcases (Bool.eq_false_or_eq_true C.Down).symm with hr | hr
  ·have hst:a2s a s data=a6c { C with Seq:=C.Seq+1 } s data:=by unfold a2s;rw [hSB,hBD,cond_false,hC];exact a0k hr rfl
   have hw1:W64 (C.Seq+1)=C.Seq+1:=a0e (by omega) (by omega);have hpw:=f4s { C with Seq:=C.Seq+1 } s data (by rw [show ({ C with Seq:=C.Seq+1 }:Arr).G=a.G from hcg];exact hs) (by rw [show ({ C with Seq:=C.Seq+1 }:Arr).G=a.G from hcg];exact hdN) (show (C.Mems.length:Int)=C.G.N by rw [hcn,hcg];exact hmN) hfz (show C.w+C.Mems.length*2≤_ by omega) k (by omega);rw [hst];refine a0k hr ?_;refine a1e ((congrArg (fun q=>a0a E P0 k N.j2u [.p [.i C.Id,.i C.G.N,.i C.G.S,.r (a2i C.Mems),.i C.Lost,.i C.Built,.i q,.i C.Tail,.i C.Gen,.r (a1c C.Dirty),.i C.Fuse,.b C.Down,.b C.Broken],.v [.i s],.v [.r (eIs data)]]) hw1).trans hpw) ?_;unfold a4v;rcases (Bool.eq_false_or_eq_true (a6c { C with Seq:=C.Seq+1 } s data).Down).symm with hq | hq
   ·rw [hq];exact a0k hq rfl
   ·rw [hq];exact a0o hq rfl
  ·have hst:a2s a s data=C:=by unfold a2s;rw [hSB,hBD,cond_false,hC];exact a0o hr rfl
   rw [hst];unfold a4v;rw [hr];exact a0o hr rfl
theorem i1p (x:Bool):Rn 1 N.j9a [.v [.b x]] ⟨[.i (bif x then 0 else 6)],[]⟩:=by
 refine Rn.of fun k hk=>?_;rw [f9l];cases x <;> rfl
theorem g0o (a:Arr) (s:Int) (data:List Int) (hw:a.w≤1073741824) (hf:c7t a) (hdl:data.length≤Big) :
  Rn 13 N.j5s [.v a.e,.v [.i s],.v [.r (eIs data)]] ⟨(a1j a s data).1.e++[.i (a1j a s data).2],[]⟩:=by
 refine Rn.of fun k hk=>?_;have hB:Big=4294967296:=rfl;have fail:∀ c:Int,a1m a s data=c→(c == 0)=false→a1j a s data=(a,c):=fun c h1 h2=>by unfold a1j;rw [h1,h2];rfl
 rw [d4i];unfold b9h;refine a1e (d4y a (by omega) k (by omega)) (a1e (e8a a (by omega) hf k (by omega)) ?_);rcases (Bool.eq_false_or_eq_true (a3l a)).symm with ha | ha
 ·rw [fail 1 (by unfold a1m;rw [ha];rfl) rfl];exact a0o (show (!(a3l a))=true by rw [ha];rfl) rfl
 refine a0k (show (!(a3l a))=false by rw [ha];rfl) ?_;refine a1e (g9h a.G (c4h ha).1 data hdl k (by omega)) ?_;unfold b0n;rcases (Bool.eq_false_or_eq_true (a9c a.G data)).symm with hd | hd
 ·rw [fail 1 (by unfold a1m;rw [ha,hd];rfl) rfl];exact a0o (show (!(a9c a.G data))=true by rw [hd];rfl) rfl
 refine a0k (show (!(a9c a.G data))=false by rw [hd];rfl) ?_;rcases Bool.eq_false_or_eq_true a.Down with hD | hD
 ·rw [fail 6 (by unfold a1m;rw [ha,hd,hD];rfl) rfl];exact a0o hD rfl
 refine a0k hD (a1e (b3m a.G s k (by omega)) ?_);rcases (Bool.eq_false_or_eq_true (a0r a.G s)).symm with hs | hs
 ·rw [fail 2 (by unfold a1m;rw [ha,hd,hD,hs];rfl) rfl];exact a0o (show (!(a0r a.G s))=true by rw [hs];rfl) rfl
 refine a0k (show (!(a0r a.G s))=false by rw [hs];rfl) ?_;rcases Bool.eq_false_or_eq_true a.Broken with hb | hb
 ·rw [fail 5 (by unfold a1m;rw [ha,hd,hD,hs,hb];rfl) rfl];exact a0o hb rfl
 refine a0k hb ?_;have full:((a.Seq == 60000) || decide (a.Gen≥59990))=true→a5x k s (eIs data) ⟨a.e,[]⟩ true=some ⟨(a1j a s data).1.e++[.i (a1j a s data).2],[]⟩:=fun h=>by
  rw [fail 7 (by unfold a1m;rw [ha,hd,hD,hs,hb,h];rfl) rfl];rfl
 rcases Bool.eq_false_or_eq_true (a.Seq == 60000) with hq | hq
 ·exact a0o hq (full (by rw [hq];rfl))
 refine a0k hq ?_;rcases Bool.eq_false_or_eq_true (decide (a.Gen≥59990)) with hg | hg
 ·rw [hg];exact full (by rw [hg];simp)
 rw [hg];have h0:a1j a s data=(a2s a s data,a4v (a2s a s data)):=by
  unfold a1j;rw [show a1m a s data=0 by unfold a1m;rw [ha,hd,hD,hs,hb,hq,hg];rfl];rfl
 rw [h0];unfold a5x;refine a0k rfl (a1e (i1n a s data ha hd hD hs hw k (by omega)) (a1e (i1p _ k (by omega)) ?_));unfold a4v;cases (a2s a s data).Down <;> rfl
theorem g5d (a:Arr) (s:Int) (data:List Int) (hw:a.w≤Big) (hf:c7t a) (hdl:data.length≤Big) :
  Rn 8 N.j4u [.v a.e,.v [.i s],.v [.r (eIs data)]] ⟨[.i (a1m a s data)],[]⟩:=by
 refine Rn.of fun k hk=>?_;have hB:Big=4294967296:=rfl;rw [f7v];unfold d3i;refine a1e (g0a a (by omega) hf k (by omega)) ?_;have one:(a3l a&&a9c a.G data)=false→a4z k a.G.S a.Seq a.Gen a.Down a.Broken s true=some ⟨[.i (a1m a s data)],[]⟩:=fun h=>by
  unfold a1m;rw [h];rfl
 rcases (Bool.eq_false_or_eq_true (a3l a)).symm with ha | ha
 ·exact a0o (show (!(a3l a))=true by rw [ha];rfl) (one (by rw [ha];rfl))
 refine a0k (show (!(a3l a))=false by rw [ha];rfl) ?_;obtain ⟨g1,g2,g3,g4⟩:=a1l (c4h ha).1;obtain ⟨c1,c2,c3,c4,c5,c6,c7,hF,c8,c9⟩:=c7u ha;rw [List.length_map,a0e (n:=a.G.N - 1) (by omega) (by omega)];rcases (Bool.eq_false_or_eq_true ((data.length:Int) == a.G.N - 1)).symm with hn | hn
 ·exact a0o (show ((data.length:Int) != a.G.N - 1)=true by unfold bne;rw [hn];rfl) (one (by unfold a9c;rw [hn,ha];rfl))
 refine a0k (show ((data.length:Int) != a.G.N - 1)=false by unfold bne;rw [hn];rfl) ?_;refine a1e (c1n data hdl k (by omega)) ?_;rcases (Bool.eq_false_or_eq_true (b0o data)).symm with ho | ho
 ·show a4z k a.G.S a.Seq a.Gen a.Down a.Broken s (!(b0o data))=_;rw [ho];exact one (by unfold a9c;rw [ho,ha];simp)
 show a4z k a.G.S a.Seq a.Gen a.Down a.Broken s (!(b0o data))=_;have hd:a9c a.G data=true:=by unfold a9c;rw [hn,ho];rfl
 unfold a4z a1m;rw [ho,ha,hd];refine a0k rfl ?_;rcases Bool.eq_false_or_eq_true a.Down with hD | hD
 ·rw [hD];rfl
 refine a0k hD ?_;rw [a0e (n:=a.G.S - 1) (by omega) (by omega)];refine a1e (a1a _ _ _ k (by omega)) ?_;have hst:a0r a.G s=a0m s 0 (a.G.S - 1):=by unfold a0r;rw [(c4h ha).1];rfl
 rw [hst,hD];cases a0m s 0 (a.G.S - 1)
 ·rfl
 refine a0k rfl ?_;rcases Bool.eq_false_or_eq_true a.Broken with hb | hb
 ·rw [hb];rfl
 refine a0k hb ?_;rw [hb];by_cases h6:a.Seq=60000
 ·rw [show decide (a.Seq≥60000)=true from decide_eq_true (by omega),show (a.Seq == 60000)=true by simpa using h6];rfl
 rw [show decide (a.Seq≥60000)=false from decide_eq_false (by omega),show (a.Seq == 60000)=false by simpa using h6];cases decide (a.Gen≥59990) <;> rfl
theorem e2j {a:Arr} {n:Nat} (h:n<a.Dirty.length):(at_ (a1c a.Dirty) n 1).asR=eIs (a.Dirty.getD n default).Data:=by
 rw [a0t _ h,a2u h];rfl
theorem d5f (a:Arr) (s:Int) (hw:a.w≤1073741824) (hf:c7t a) :
  Rn 14 N.j3k [.v a.e,.v [.i s]] ⟨(a0s a s).1.e++[.i (a0s a s).2],[]⟩:=by
 refine Rn.of fun k hk=>?_;have hB:Big=4294967296:=rfl;have hml:=a4k a (by omega);have hc:=d4y a (by omega) k (by omega);have fail:∀ c:Int,a3p a s=c→(c != 0)=true→a0s a s=(a,c):=fun c h1 h2=>by unfold a0s;rw [h1,h2];rfl
 rw [d4j];unfold b9i;refine a1e (e8a a (by omega) hf k (by omega)) ?_;rcases (Bool.eq_false_or_eq_true (a3l a)).symm with ha | ha
 ·rw [fail 1 (by unfold a3p;rw [ha];rfl) rfl];exact a0o (show (!(a3l a))=true by rw [ha];rfl) (a1e hc rfl)
 refine a0k (show (!(a3l a))=false by rw [ha];rfl) ?_;rcases Bool.eq_false_or_eq_true a.Down with hD | hD
 ·rw [fail 6 (by unfold a3p;rw [ha,hD];rfl) rfl];exact a0o hD (a1e hc rfl)
 refine a0k hD (a1e (b3m a.G s k (by omega)) ?_);rcases (Bool.eq_false_or_eq_true (a0r a.G s)).symm with hs | hs
 ·rw [fail 2 (by unfold a3p;rw [ha,hD,hs];rfl) rfl];exact a0o (show (!(a0r a.G s))=true by rw [hs];rfl) (a1e hc rfl)
 refine a0k (show (!(a0r a.G s))=false by rw [hs];rfl) (a1e (h6p a (by omega) s k (by omega)) ?_);have h0:a3p a s=0:=by unfold a3p;rw [ha,hD,hs];rfl
 rcases Bool.eq_false_or_eq_true (decide (a4a a s<0)) with hn | hn
 ·rw [show a0s a s=(a,0) by unfold a0s;rw [h0,hn];rfl];exact a0o hn (a1e hc rfl)
 have hn':=of_decide_eq_false hn;have hix:=d4w (a:=a) (s:=s) (decide_eq_true (by omega));obtain ⟨n,hN⟩:∃ n:Nat,a4a a s=(n:Int):=⟨(a4a a s).toNat,by omega⟩;rw [hN] at hix hn;have hnl:n<a.Dirty.length:=by omega
 have hfs:a0s a s=b2z a n (a1j a s (a.Dirty.getD n default).Data):=by
  unfold a0s;rw [h0,hN,hn];rfl
 rw [hfs,hN];refine a0k hn ?_;refine (a0g (show (decide (0≤(n:Int))&&decide ((n:Int)<((a1c a.Dirty).length:Int)))=true by simp;omega) _).trans ?_;have hdw:=g0f a (by omega) hnl;have hde:=a2u hnl (default:Ent);have hws:=g0o a s (a.Dirty.getD n default).Data hw hf (by rw [hde];omega) k (by omega);obtain ⟨w1,w2⟩:=d5d a s (a.Dirty.getD n default).Data;generalize a1j a s (a.Dirty.getD n default).Data=p at hws w1 w2;refine a1e ((congrArg (fun x=>a0a E P0 k N.j5s [.v a.e,.v [.i s],.v [.r x]]) (e2j hnl)).trans hws) ?_;unfold b2z;have hpl:n<(a1c p.1.Dirty).length:=by rw [List.length_map,w2];exact hnl
 rcases (Bool.eq_false_or_eq_true (p.2 == 0)).symm with hp | hp
 ·rw [hp];exact a0k hp rfl
 ·rw [hp];refine a0o hp ?_;refine (a0g (a9f (l:=(a1c p.1.Dirty).length) hpl (by rw [List.length_map,w2];omega)) _).trans ?_;have hd:=i8i (l:=a1c p.1.Dirty) hpl (by rw [List.length_map,w2];omega);have hz:p.2=0:=by simpa using hp
  show some (⟨[_,_,_,_,_,_,_,_,_,.r ((a1c p.1.Dirty).take (n:Int).toNat++(a1c p.1.Dirty).drop (W64 ((n:Int)+1)).toNat),_,_,_,.i p.2],[]⟩:Outs)=_;rw [hd,hz,show del (a1c p.1.Dirty) n=a1c (del p.1.Dirty n) from (g0h Ent.e p.1.Dirty n).symm];rfl
theorem i6c (a:Arr) (s:Int) (hw:a.w≤1073741824) (hf:c7t a) (h0:(a3p a s != 0)=false) :
  Rn 13 N.j4z [.p a.e,.v [.i s]] ⟨[.i (a0s a s).2],[(a0s a s).1.e]⟩:=by
 refine Rn.of fun k hk=>?_;have hB:Big=4294967296:=rfl;have hml:=a4k a (by omega);rw [f1g];unfold c9a;refine a1e (h6q a (by omega) s k (by omega)) ?_;rcases Bool.eq_false_or_eq_true (decide (a4a a s<0)) with hn | hn
 ·rw [show a0s a s=(a,0) by unfold a0s;rw [h0,hn];rfl];exact a0o hn rfl
 have hn':=of_decide_eq_false hn;have hix:=d4w (a:=a) (s:=s) (decide_eq_true (by omega));obtain ⟨n,hN⟩:∃ n:Nat,a4a a s=(n:Int):=⟨(a4a a s).toNat,by omega⟩;rw [hN] at hix hn;have hnl:n<a.Dirty.length:=by omega
 have hfs:a0s a s=b2z a n (a1j a s (a.Dirty.getD n default).Data):=by
  unfold a0s;rw [h0,hN,hn];rfl
 rw [hfs,hN];refine a0k hn ?_;refine (a0g (show (decide (0≤(n:Int))&&decide ((n:Int)<((a1c a.Dirty).length:Int)))=true by simp;omega) _).trans ?_;have hdw:=g0f a (by omega) hnl;have hde:=a2u hnl (default:Ent);have hdl:(a.Dirty.getD n default).Data.length≤Big:=by rw [hde];omega
 have hcs:=g5d a s (a.Dirty.getD n default).Data (by omega) hf hdl k (by omega);refine a1e ((congrArg (fun x=>a0a E P0 k N.j4u [.v a.e,.v [.i s],.v [.r x]]) (e2j hnl)).trans hcs) ?_;rcases (Bool.eq_false_or_eq_true (a1m a s (a.Dirty.getD n default).Data == 0)).symm with hq | hq
 ·have hq':(a1m a s (a.Dirty.getD n default).Data != 0)=true:=by unfold bne;rw [hq];rfl
  have hws:a1j a s (a.Dirty.getD n default).Data=(a,a1m a s (a.Dirty.getD n default).Data):=by unfold a1j;exact a0k hq rfl
  have hfe:b2z a n (a,a1m a s (a.Dirty.getD n default).Data)=(a,a1m a s (a.Dirty.getD n default).Data):=by unfold b2z;exact a0k hq rfl
  rw [hws,hfe];exact a0o hq' rfl
 ·have hq':(a1m a s (a.Dirty.getD n default).Data != 0)=false:=by unfold bne;rw [hq];rfl
  obtain ⟨t1,t2,t3,t4,t5,t6⟩:=c7b hq;have hws:a1j a s (a.Dirty.getD n default).Data=(a2s a s (a.Dirty.getD n default).Data,a4v (a2s a s (a.Dirty.getD n default).Data)):=by
   unfold a1j;rw [hq];rfl
  rw [hws];refine a0k hq' ?_;refine (a0g (show (decide (0≤(n:Int))&&decide ((n:Int)<((a1c a.Dirty).length:Int)))=true by simp;omega) _).trans ?_;have hst:=i1o a s (a.Dirty.getD n default).Data t1 t2 t3 t4 hw k (by omega);have w2:=(e8u a s (a.Dirty.getD n default).Data).2.1;generalize a2s a s (a.Dirty.getD n default).Data=c at hst w2;refine a1e ((congrArg (fun x=>a0a E P0 k N.j4y [.p a.e,.v [.i s],.v [.r x]]) (e2j hnl)).trans hst) ?_;unfold b2z;have hpl:n<(a1c c.Dirty).length:=by rw [List.length_map,w2];exact hnl
  have hpl4:(a1c c.Dirty).length≤4294967296:=by rw [List.length_map,w2];omega
  rcases (Bool.eq_false_or_eq_true (a4v c == 0)).symm with hp | hp
  ·show _=some (⟨[.i (bif (a4v c == 0) then _ else _:Arr×Int).2],[(bif (a4v c == 0) then _ else _:Arr×Int).1.e]⟩:Outs);rw [hp];exact a0k hp rfl
  ·show _=some (⟨[.i (bif (a4v c == 0) then _ else _:Arr×Int).2],[(bif (a4v c == 0) then _ else _:Arr×Int).1.e]⟩:Outs);rw [hp];refine a0o hp ?_;have hw1:W64 ((n:Int)+1)=(n:Int)+1:=a0e (by omega) (by omega);have hd:=i3a (l:=a1c c.Dirty) hpl hpl4;have hz:a4v c=0:=by simpa using hp
   refine (a0g (show (decide ((0:Int)≤0)&&decide ((0:Int)≤n)&&decide ((n:Int)≤((a1c c.Dirty).length:Int)))=true by simp [w2];omega) _).trans ?_;refine (a0g (show decide ((([]:List (List T)).length+(((a1c c.Dirty).drop (0:Int).toNat).take ((n:Int).toNat - (0:Int).toNat)).length)*32≤140737488355328)=true by simp [w2];omega) _).trans ?_;refine (a0g (show (decide (0≤W64 ((n:Int)+1))&&decide (W64 ((n:Int)+1)≤((a1c c.Dirty).length:Int))&&decide (((a1c c.Dirty).length:Int)≤((a1c c.Dirty).length:Int)))=true by rw [hw1];simp [w2];omega) _).trans ?_;refine (a0g (show decide (((([]:List (List T))++(((a1c c.Dirty).drop (0:Int).toNat).take ((n:Int).toNat - (0:Int).toNat))).length+(((a1c c.Dirty).drop (W64 ((n:Int)+1)).toNat).take (((a1c c.Dirty).length:Int).toNat - (W64 ((n:Int)+1)).toNat)).length)*32≤140737488355328)=true by rw [hw1];simp [w2];omega) _).trans ?_;show some (⟨[.i (a4v c)],[[_,_,_,_,_,_,_,_,_,.r (((a1c c.Dirty).drop (0:Int).toNat).take (n - (0:Int).toNat)++((a1c c.Dirty).drop (W64 ((n:Int)+1)).toNat).take ((a1c c.Dirty).length - (W64 ((n:Int)+1)).toNat)),_,_,_]]⟩:Outs)=_;rw [hd,hz,show del (a1c c.Dirty) n=a1c (del c.Dirty n) from (g0h Ent.e c.Dirty n).symm];rfl
def c7d (a:Arr):Int:=bif !a3l a then 1 else bif a.Down then 6 else 0
theorem h7t (a:Arr) (hw:a.w≤Big) (hf:c7t a):Rn 8 N.j7n [.v a.e] ⟨[.i (c7d a)],[]⟩:=by
 refine Rn.of fun k hk=>?_;rw [g3a];unfold d8l c7d;refine a1e (g0a a hw hf k (by omega)) ?_;cases a3l a
 ·rfl
 ·refine a0k rfl ?_;rcases (Bool.eq_false_or_eq_true a.Down) with hD | hD
  ·rw [hD];rfl
  ·rw [hD];rfl
theorem d5g (a:Arr) (s:Int) (hw:a.w≤1073741824) (hf:c7t a) :
  Rn 14 N.j3b [.v a.e,.v [.i s]] ⟨(a0s a s).1.e++[.i (a0s a s).2],[]⟩:=by
 refine Rn.of fun k hk=>?_;have hB:Big=4294967296:=rfl;have fail:∀ c:Int,a3p a s=c→(c != 0)=true→a0s a s=(a,c):=fun c h1 h2=>by unfold a0s;rw [h1,h2];rfl
 rw [d3o];unfold b9d;refine a1e (e8m a (by omega) k (by omega)) (a1e (h7t a (by omega) hf k (by omega)) ?_);rcases (Bool.eq_false_or_eq_true (a3l a)).symm with ha | ha
 ·rw [fail 1 (by unfold a3p;rw [ha];rfl) rfl,show c7d a=1 by unfold c7d;rw [ha];rfl];rfl
 rcases Bool.eq_false_or_eq_true a.Down with hD | hD
 ·rw [fail 6 (by unfold a3p;rw [ha,hD];rfl) rfl,show c7d a=6 by unfold c7d;rw [ha,hD];rfl];rfl
 rw [show c7d a=0 by unfold c7d;rw [ha,hD];rfl];obtain ⟨g1,g2,g3,g4⟩:=a1l (c4h ha).1;rw [a0e (n:=a.G.S - 1) (by omega) (by omega)];have hst:a0r a.G s=a0m s 0 (a.G.S - 1):=by unfold a0r;rw [(c4h ha).1];rfl
 refine a0o rfl (a1e (a1a _ _ _ k (by omega)) ?_);rcases (Bool.eq_false_or_eq_true (a0m s 0 (a.G.S - 1))).symm with hs | hs
 ·rw [fail 2 (by unfold a3p;rw [ha,hD,hst,hs];rfl) rfl];exact a0o (show (!(a0m s 0 (a.G.S - 1)))=true by rw [hs];rfl) rfl
 refine a0k (show (!(a0m s 0 (a.G.S - 1)))=false by rw [hs];rfl) ?_;unfold b0m;refine a0k rfl ?_;exact a1e (i6c a s hw hf (by unfold a3p;rw [ha,hD,hst,hs];rfl) k (by omega)) rfl
theorem h7u (s:Int):∀ (l:List Ent) (i:Nat),i<e2g s l→(l.getD i default).Stripe<s
 | [],i,h=>by simp [e2g] at h
 | x :: l,i,h=>by
  unfold e2g at h;cases hd:decide (x.Stripe<s)
  ·rw [hd] at h;simp at h
  ·rw [hd] at h;cases i with
   | zero=>exact of_decide_eq_true hd
   | succ i=>simpa using h7u s l i (by simpa using h)
theorem h7v (s:Int):∀ l:List Ent,e2g s l<l.length→¬ (l.getD (e2g s l) default).Stripe<s
 | x :: l,h=>by
  have e1:e2g s (x :: l)=bif decide (x.Stripe<s) then e2g s l+1 else 0:=rfl;cases hd:decide (x.Stripe<s)
  ·rw [hd] at e1;rw [e1];exact of_decide_eq_false hd
  ·rw [hd] at e1;rw [e1] at h ⊢;simpa using h7v s l (by simpa using h)
theorem c7w (a:Arr) (b n:Int) (hw:a.w≤1073741824) (hf:c7t a) :
  Rn 12 N.j1x [.v a.e,.v [.i b],.v [.i n]] ⟨(a0u a b n).1.e++[.i (a0u a b n).2],[]⟩:=by
 refine Rn.of fun k hk=>?_;have hB:Big=4294967296:=rfl;have hml:=a4k a (by omega);rw [e6m];unfold c5z b2m;refine a1e (d4y a (by omega) k (by omega)) (a1e (e8f a (by omega) hf b k (by omega)) ?_);have J2:∀ c:Int,b0q a b n=c→a9t k a.Id a.G.N a.G.S (a2i a.Mems) a.Lost a.Built a.Seq a.Tail a.Gen (a1c a.Dirty) a.Fuse a.Down a.Broken b n ⟨a.e,[]⟩ (fun y0 y1 y2 v=>a1k (a3k k y0 y1 y2) k v) c=some ⟨(a0u a b n).1.e++[.i (a0u a b n).2],[]⟩:=by
  intro c hc;unfold a9t;rcases Bool.eq_false_or_eq_true (c != 0) with h0 | h0
  ·rw [show a0u a b n=(a,c) by unfold a0u;rw [hc];exact a0o h0 rfl];exact a0o h0 rfl
  refine a0k h0 ?_;have hsc:=e8w (a:=a) (b:=b) (n:=n) (by rw [hc];exact h0);obtain ⟨ha,hD,hb⟩:=d0w hsc.1;refine a1e (c7o a.G b k (by omega)) (a1e (g4p a (by omega) hf ha _ (c7r hb) k (by omega)) ?_);rcases (Bool.eq_false_or_eq_true (a2w a (a0n a.G b)).2).symm with hd | hd
  ·rw [show a0u a b n=(a,5) by unfold a0u;rw [hc,h0,hd];rfl];exact a0o (show (!(a2w a (a0n a.G b)).2)=true by rw [hd];rfl) rfl
  have hsb:a0u a b n=({ a with Dirty:=a6y a.Dirty (c7c a b n) },0):=by unfold a0u;rw [hc,h0,hd];rfl
  refine a0k (show (!(a2w a (a0n a.G b)).2)=false by rw [hd];rfl) (a1e (g4n a.G b k (by omega)) ?_);obtain ⟨x0,x1⟩:=g0g ha hb hd;refine (a0g (show (decide (0≤a8q a.G b)&&decide (a8q a.G b<((eIs (a2w a (a0n a.G b)).1).length:Int)))=true by rw [List.length_map];simp;omega) _).trans ?_;have hpi:a0x (eIs (a2w a (a0n a.G b)).1) (a8q a.G b).toNat 0 [.i n]=eIs (c7c a b n).Data:=e2i (by omega) n;have hss:(c7c a b n).Stripe=a0n a.G b:=rfl;generalize c7c a b n=e at hsb hpi hss;rw [hsb];show a1k (a3k k ⟨a.e,[]⟩ ⟨[.i (a0n a.G b)],[]⟩ (a0x (eIs (a2w a (a0n a.G b)).1) (a8q a.G b).toNat 0 [.i n])) k ((0:Nat):Int)=_;rw [hpi,← hss];have hle:=h7g e.Stripe a.Dirty;refine (a5b (R:=Outs) (e2g e.Stripe a.Dirty) (fun i=>(i:Int)) (fun _=>some ⟨({ a with Dirty:=a6y a.Dirty e }:Arr).e++[.i 0],[]⟩) (fun i hi G hG=>?_) (fun G=>?_) (by omega)).trans rfl
  ·have hlt:=h7u e.Stripe a.Dirty i hi;unfold a3k;refine a0o (show decide ((i:Int)<((a1c a.Dirty).length:Int))=true by rw [List.length_map];exact dlt (by omega)) ?_;refine (a0g (show (decide (0≤(i:Int))&&decide ((i:Int)<((a1c a.Dirty).length:Int)))=true by rw [List.length_map,dlt (by omega)];simp) _).trans ?_;unfold a6f;refine a0o (show decide ((at_ (a1c a.Dirty) i 0).asI<e.Stripe)=true by rw [e7z (by omega)];exact decide_eq_true hlt) ?_;show G (W64 ((i:Int)+1))=_;rw [a1p (by omega)];exact hG
  ·generalize hix:e2g e.Stripe a.Dirty=i at hle;have ins:(∀ h:i<a.Dirty.length,a.Dirty[i].Stripe≠e.Stripe)→a4p k ⟨a.e,[]⟩ ⟨[.i e.Stripe],[]⟩ (eIs e.Data) (i:Int) false=some ⟨({ a with Dirty:=a6y a.Dirty e }:Arr).e++[.i 0],[]⟩:=by
    intro hne;unfold a4p;refine a0k rfl ?_;refine (a0g (show (decide (0≤(i:Int))&&decide ((i:Int)≤((a1c a.Dirty).length:Int)))=true by rw [List.length_map];simp;omega) _).trans ?_;refine (a0g (show decide (((a1c a.Dirty).length+([[.i e.Stripe,.r (eIs e.Data)]]:List (List T)).length)*32≤140737488355328)=true by simp;omega) _).trans ?_;have hp:=f4o a.Dirty e (by rw [hix];exact hne);rw [hix] at hp;have he:(a1c a.Dirty).take i++[e.e]++(a1c a.Dirty).drop i=a1c (a6y a.Dirty e):=by
     rw [hp];simp [List.map_take,List.map_drop]
    show some (⟨[_,_,_,_,_,_,_,_,_,.r ((a1c a.Dirty).take i++[e.e]++(a1c a.Dirty).drop i),_,_,_,.i 0],[]⟩:Outs)=_;rw [he];rfl
   unfold a3k;by_cases hil:i<a.Dirty.length
   ·have hge:=h7v e.Stripe a.Dirty (by rw [hix];exact hil);rw [hix] at hge;have hat:=e7z (l:=a.Dirty) hil;refine a0o (show decide ((i:Int)<((a1c a.Dirty).length:Int))=true by rw [List.length_map];exact dlt hil) ?_;refine (a0g (show (decide (0≤(i:Int))&&decide ((i:Int)<((a1c a.Dirty).length:Int)))=true by rw [List.length_map,dlt hil];simp) _).trans ?_;unfold a6f;refine a0k (show decide ((at_ (a1c a.Dirty) i 0).asI<e.Stripe)=false by rw [hat];exact decide_eq_false hge) ?_;refine a0o (show decide ((i:Int)<((a1c a.Dirty).length:Int))=true by rw [List.length_map];exact dlt hil) ?_;refine (a0g (show (decide (0≤(i:Int))&&decide ((i:Int)<((a1c a.Dirty).length:Int)))=true by rw [List.length_map,dlt hil];simp) _).trans ?_;show a4p k ⟨a.e,[]⟩ ⟨[.i e.Stripe],[]⟩ (eIs e.Data) (i:Int) ((at_ (a1c a.Dirty) i 0).asI == e.Stripe)=_;rw [hat];rcases (Bool.eq_false_or_eq_true ((a.Dirty.getD i default).Stripe == e.Stripe)).symm with he | he
    ·rw [he];exact ins fun h=>by rw [← a2u h default];simpa using he
    ·rw [he];have hse:a.Dirty[i].Stripe=e.Stripe:=by rw [← a2u hil default];simpa using he
     unfold a4p;refine a0o rfl ?_;refine (a0g (show (decide (0≤(i:Int))&&decide ((i:Int)<((a1c a.Dirty).length:Int)))=true by rw [List.length_map,dlt hil];simp) _).trans ?_;have hp:=f4n a.Dirty e (by rw [hix];exact hil) (by simp only [hix];exact hse);rw [hix] at hp;have hpm:a0x (a1c a.Dirty) i 1 [.r (eIs e.Data)]=a1c (a.Dirty.set i e):=d6t Ent.e hil 1 [.r (eIs e.Data)] e (by rw [show a.Dirty[i].e=[.i a.Dirty[i].Stripe,.r (eIs a.Dirty[i].Data)] from rfl,hse];rfl);show some (⟨[_,_,_,_,_,_,_,_,_,.r (a0x (a1c a.Dirty) i 1 [.r (eIs e.Data)]),_,_,_,.i 0],[]⟩:Outs)=_;rw [hpm,← hp];rfl
   ·have hil':i=a.Dirty.length:=by omega
    refine a0k (show decide ((i:Int)<((a1c a.Dirty).length:Int))=false by rw [List.length_map];exact decide_eq_false (by omega)) ?_;unfold a6f;refine a0k rfl ?_;refine a0k (show decide ((i:Int)<((a1c a.Dirty).length:Int))=false by rw [List.length_map];exact decide_eq_false (by omega)) ?_;exact ins fun h=>absurd h hil
 have J1:∀ c:Bool,b0q a b n=(bif c then 3 else a2d a b)→a9u k a.Id a.G.N a.G.S (a2i a.Mems) a.Lost a.Built a.Seq a.Tail a.Gen (a1c a.Dirty) a.Fuse a.Down a.Broken b n ⟨a.e,[]⟩ ⟨[.i (a2d a b)],[]⟩ (fun y0 y1 y2 v=>a1k (a3k k y0 y1 y2) k v) c=some ⟨(a0u a b n).1.e++[.i (a0u a b n).2],[]⟩:=by
  intro c hc;unfold a9u;cases c
  ·exact a0k rfl (J2 _ hc)
  ·exact a0o rfl (J2 _ hc)
 rcases (Bool.eq_false_or_eq_true (a2d a b == 0)).symm with h0 | h0
 ·refine a0k h0 (J1 false ?_);unfold b0q;rw [h0];rfl
 ·refine a0o h0 (a1e (g9c n k (by omega)) (J1 (!(c1m n)) ?_));unfold b0q;rw [h0];rfl
theorem i1q {a:Arr} (h:c6w a=true):i3d a.Dirty:=by
 refine h7k fun i hi=>?_;have h1:=c7p.1 h (i+1) hi;unfold g7b at h1;simp only [Bool.and_eq_true] at h1;have h2:=h1.1.2;unfold g6y at h2;simpa using h2
theorem i1r (e:Ent) (p:List Ent×Bool) (x:Ent):(g5h e p x).1.length≤p.1.length+2:=by
 unfold g5h;cases (!p.2&&decide (x.Stripe≥e.Stripe)) <;> cases (x.Stripe != e.Stripe) <;> simp
def h2t (e:Ent) (l:List Ent) (i:Nat):List Ent×Bool:=(l.take i).foldl (g5h e) ([],false)
theorem g5e (e:Ent) (l:List Ent) {i:Nat} (h:i<l.length):h2t e l (i+1)=g5h e (h2t e l i) l[i]:=by
 unfold h2t;rw [List.take_add_one,List.getElem?_eq_getElem h,Option.toList_some,List.foldl_append];rfl
theorem g0p (e:Ent) (l:List Ent):∀ i,i≤l.length→(h2t e l i).1.length≤2*i
 | 0,_=>by simp [h2t]
 | i+1,h=>by
  rw [g5e e l (by omega)];have h1:=i1r e (h2t e l i) l[i];have h2:=g0p e l i (by omega);omega
theorem j0n (a:Arr) (e:Ent) (hw:a.w≤1073741824) (hu:i3d a.Dirty):Rn 2 N.j5a [.p a.e,.v e.e] ⟨[],[({ a with Dirty:=a6y a.Dirty e }:Arr).e]⟩:=by
 refine Rn.of fun k hk=>?_;have hB:Big=4294967296:=rfl;have hml:=a4k a (by omega);have hdl:a.Dirty.length≤1073741824:=by
  have h1:=a1s Ent.w a.Dirty;have e0:a.w=wL Dsk.w a.Mems+wL Ent.w a.Dirty:=rfl;omega
 rw [g3f];unfold d8q c5i;refine (a5b (R:=Outs) a.Dirty.length (fun i=>((h2t e a.Dirty i).2,(i:Int),a1c (h2t e a.Dirty i).1)) (fun _=>some ⟨[],[({ a with Dirty:=a6y a.Dirty e }:Arr).e]⟩) (fun i hi G hG=>?_) (fun G=>?_) (by omega)).trans rfl
 ·have hn:=g5e e a.Dirty hi;have hl:=g0p e a.Dirty i (by omega);have hat:=e7z (l:=a.Dirty) hi;rw [a2u hi] at hat;have hdat:=e2j (a:=a) hi;rw [a2u hi] at hdat;rw [hn] at hG;generalize hp:h2t e a.Dirty i=p at hG hl;obtain ⟨o,d⟩:=p;have hcell:([.i (at_ (a1c a.Dirty) i 0).asI,.r (at_ (a1c a.Dirty) i 1).asR]:List T)=a.Dirty[i].e:=by rw [hat,hdat]
  have key:∀ c:Bool,c=(!d&&decide (a.Dirty[i].Stripe≥e.Stripe))→b6s k (a1c a.Dirty) e.Stripe (eIs e.Data) d (i:Int) (a1c o) G c=some ⟨[],[({ a with Dirty:=a6y a.Dirty e }:Arr).e]⟩:=by
   intro c hc;unfold b6s;have hbe:((at_ (a1c a.Dirty) i 0).asI != e.Stripe)=(a.Dirty[i].Stripe != e.Stripe):=by rw [hat]
   have hapE:a1c (o++[e])=a1c o++[e.e]:=by rw [a1c,List.map_append];rfl
   have hapX:∀ z:List Ent,a1c (z++[a.Dirty[i]])=a1c z++[a.Dirty[i].e]:=fun z=>by rw [a1c,List.map_append];rfl
   unfold g5h at hG;simp only at hl;cases c
   ·rw [← hc] at hG;refine a0k rfl ?_;refine (a0g (show (decide (0≤(i:Int))&&decide ((i:Int)<((a1c a.Dirty).length:Int)))=true by rw [List.length_map,dlt hi];simp) _).trans ?_;rcases (Bool.eq_false_or_eq_true (a.Dirty[i].Stripe != e.Stripe)).symm with hx | hx
    ·rw [hx] at hG;refine a0k (hbe.trans hx) ?_;rw [a1p (by omega)];exact hG
    ·rw [hx] at hG;refine a0o (hbe.trans hx) ?_;refine (a0g (show (decide (0≤(i:Int))&&decide ((i:Int)<((a1c a.Dirty).length:Int)))=true by rw [List.length_map,dlt hi];simp) _).trans ?_;refine (a0g (by simp;omega) _).trans ?_;show G (d,W64 ((i:Int)+1),a1c o++[([.i (at_ (a1c a.Dirty) i 0).asI,.r (at_ (a1c a.Dirty) i 1).asR]:List T)])=_;rw [a1p (by omega),hcell,← hapX];exact hG
   ·rw [← hc] at hG;refine a0o rfl ?_;refine (a0g (by simp;omega) _).trans ?_;refine (a0g (show (decide (0≤(i:Int))&&decide ((i:Int)<((a1c a.Dirty).length:Int)))=true by rw [List.length_map,dlt hi];simp) _).trans ?_;rcases (Bool.eq_false_or_eq_true (a.Dirty[i].Stripe != e.Stripe)).symm with hx | hx
    ·rw [hx] at hG;refine a0k (hbe.trans hx) ?_;show G (true,W64 ((i:Int)+1),a1c o++[e.e])=_;rw [a1p (by omega),← hapE];exact hG
    ·rw [hx] at hG;refine a0o (hbe.trans hx) ?_;refine (a0g (show (decide (0≤(i:Int))&&decide ((i:Int)<((a1c a.Dirty).length:Int)))=true by rw [List.length_map,dlt hi];simp) _).trans ?_;refine (a0g (by simp;omega) _).trans ?_;show G (true,W64 ((i:Int)+1),(a1c o++[e.e])++[([.i (at_ (a1c a.Dirty) i 0).asI,.r (at_ (a1c a.Dirty) i 1).asR]:List T)])=_;rw [a1p (by omega),hcell,← hapE,← hapX];exact hG
  unfold b6t;refine a0o (show decide ((i:Int)<((a1c a.Dirty).length:Int))=true by rw [List.length_map];exact dlt hi) ?_;cases d
  ·refine a0o rfl ((a0g (show (decide (0≤(i:Int))&&decide ((i:Int)<((a1c a.Dirty).length:Int)))=true by rw [List.length_map,dlt hi];simp) _).trans ?_);refine key _ ?_;show decide ((at_ (a1c a.Dirty) i 0).asI≥e.Stripe)=_;rw [hat];rfl
  ·exact a0k rfl (key false rfl)
 ·have hfin:=h7j e a.Dirty [] hu;have hpp:h2t e a.Dirty a.Dirty.length=a.Dirty.foldl (g5h e) ([],false):=by unfold h2t;rw [List.take_length]
  have hl:=g0p e a.Dirty a.Dirty.length (Nat.le_refl _);rw [← hpp] at hfin;generalize h2t e a.Dirty a.Dirty.length=p at hfin hl;obtain ⟨o,d⟩:=p;unfold b6t;refine a0k (show decide ((a.Dirty.length:Int)<((a1c a.Dirty).length:Int))=false by rw [List.length_map];exact dll) ?_;rw [List.nil_append] at hfin;simp only at hl;cases d
  ·have hE:o++[e]=a6y a.Dirty e:=hfin;refine a0o rfl ((a0g (by simp;omega) _).trans ?_);show some (⟨[],[[_,_,_,_,_,_,_,_,_,.r (a1c o++[e.e]),_,_,_]]⟩:Outs)=_;rw [show a1c o++[e.e]=a1c (o++[e]) by rw [a1c,a1c,List.map_append];rfl,hE]
  ·have hE:o=a6y a.Dirty e:=hfin;refine a0k rfl ?_;rw [hE]
theorem j0o (a:Arr) (b n:Int) (hw:a.w≤1073741824) (hf:c7t a) (h0:(b0q a b n != 0)=false) :
  Rn 11 N.j5b [.p a.e,.v [.i b],.v [.i n]] ⟨[.i (a0u a b n).2],[(a0u a b n).1.e]⟩:=by
 refine Rn.of fun k hk=>?_;have hB:Big=4294967296:=rfl;rw [g3g];unfold d8r;have hsc:=e8w h0;obtain ⟨ha,hD,hb⟩:=d0w hsc.1;refine a1e (c1o a.G b k (by omega)) (a1e (g4q a (by omega) ha _ (c7r hb) k (by omega)) ?_);rcases (Bool.eq_false_or_eq_true (a2w a (a0n a.G b)).2).symm with hd | hd
 ·rw [show a0u a b n=(a,5) by unfold a0u;rw [h0,hd];rfl];exact a0o (show (!(a2w a (a0n a.G b)).2)=true by rw [hd];rfl) rfl
 rw [show a0u a b n=({ a with Dirty:=a6y a.Dirty (c7c a b n) },0) by unfold a0u;rw [h0,hd];rfl];refine a0k (show (!(a2w a (a0n a.G b)).2)=false by rw [hd];rfl) (a1e (g4o a.G b k (by omega)) ?_);obtain ⟨x0,x1⟩:=g0g ha hb hd;refine (a0g (show (decide (0≤a8q a.G b)&&decide (a8q a.G b<((eIs (a2w a (a0n a.G b)).1).length:Int)))=true by rw [List.length_map];simp;omega) _).trans ?_;have hpi:a0x (eIs (a2w a (a0n a.G b)).1) (a8q a.G b).toNat 0 [.i n]=eIs (c7c a b n).Data:=e2i (by omega) n;exact a1e ((congrArg (fun x=>a0a E P0 k N.j5a [.p a.e,.v [.i (a0n a.G b),.r x]]) hpi).trans (j0n a (c7c a b n) hw (i1q (c4h ha).2.2) k (by omega))) rfl
theorem d6z (a:Arr) (b n:Int) (hw:a.w≤1073741824) (hf:c7t a) :
  Rn 12 N.j2a [.v a.e,.v [.i b],.v [.i n]] ⟨(a0u a b n).1.e++[.i (a0u a b n).2],[]⟩:=by
 refine Rn.of fun k hk=>?_;have hB:Big=4294967296:=rfl;have fail:∀ c:Int,b0q a b n=c→(c != 0)=true→a0u a b n=(a,c):=fun c h1 h2=>by unfold a0u;rw [h1,h2];rfl
 rw [e5n];unfold c5j;refine a1e (e8m a (by omega) k (by omega)) (a1e (e8g a (by omega) hf b k (by omega)) ?_);rcases (Bool.eq_false_or_eq_true (a2d a b == 0)).symm with h0 | h0
 ·have h0':(a2d a b != 0)=true:=by unfold bne;rw [h0];rfl
  rw [fail (a2d a b) (by unfold b0q;rw [h0];rfl) h0'];exact a0k h0 (a0o h0' rfl)
 ·have hz:a2d a b=0:=by simpa using h0
  refine a0o h0 (a1e (g9d n k (by omega)) ?_);rcases (Bool.eq_false_or_eq_true (c1m n)).symm with hn | hn
  ·rw [fail 3 (by unfold b0q;rw [h0,hn];rfl) rfl];exact a0o (show (!(c1m n))=true by rw [hn];rfl) rfl
  ·refine a0k (show (!(c1m n))=false by rw [hn];rfl) ?_;unfold b5o;refine a0k (show (a2d a b != 0)=false by rw [hz];rfl) ?_;exact a1e (j0o a b n hw hf (by unfold b0q;rw [hz,hn];rfl) k (by omega)) rfl
abbrev LJ (l:List Job) (n:Nat) (c:Cmd) (t:Int) (g:List Int) (d:Int):List (List T):=a0q (l.set n ⟨c,t,g,d⟩)
theorem c8c {l:List Job} {n:Nat} (hn:n<l.length) (c:Cmd) (t:Int) (g:List Int) (d:Int) (i:Nat):at_ (LJ l n c t g d) n i=(⟨c,t,g,d⟩:Job).e.getD i (.i 0):=by
 rw [a0t _ (by simpa using hn),List.getElem_set_self]
theorem h7w {l:List Job} {n:Nat} (hn:n<l.length) (c:Cmd) (t:Int) (g:List Int) (d:Int) (i:Nat) (ts:List T) (c':Cmd) (t':Int) (g':List Int) (d':Int) (h:a1g (⟨c,t,g,d⟩:Job).e i ts=(⟨c',t',g',d'⟩:Job).e):a0x (LJ l n c t g d) n i ts=LJ l n c' t' g' d':=by
 have:=d6t Job.e (l:=l.set n ⟨c,t,g,d⟩) (i:=n) (by simpa using hn) i ts ⟨c',t',g',d'⟩ (by rw [List.getElem_set_self];exact h);rw [List.set_set] at this;exact this
theorem g7q {l:List Job} {n:Nat} (hn:n<l.length) (j:Job):del (l.set n j) n=del l n:=by
 unfold del;rw [List.take_set_of_le (Nat.le_refl _),List.drop_set_of_lt (by omega)]
theorem c0u {l:List Job} {n:Nat} (hn:n<l.length) (hl:l.length≤4294967296) (c:Cmd) (t:Int) (g:List Int) (d:Int) :
  (LJ l n c t g d).take n++(LJ l n c t g d).drop (W64 ((n:Int)+1)).toNat=a0q (del l n):=by
 have h:=i8i (l:=LJ l n c t g d) (n:=n) (by simpa using hn) (by simpa using hl);rw [Int.toNat_natCast] at h;rw [h,← g7q hn ⟨c,t,g,d⟩];exact (g0h Job.e _ n).symm
theorem c0v {l:List Job} {n:Nat} (hn:n<l.length) (hl:l.length≤4294967296) (c:Cmd) (t:Int) (g:List Int) (d:Int) :
  ((LJ l n c t g d).drop (0:Int).toNat).take (n - (0:Int).toNat)++((LJ l n c t g d).drop (W64 ((n:Int)+1)).toNat).take (l.length - (W64 ((n:Int)+1)).toNat)=a0q (del l n):=by
 have e:l.length=(LJ l n c t g d).length:=by simp
 rw [e];have h:=i3a (l:=LJ l n c t g d) (n:=n) (by simpa using hn) (by simpa using hl);rw [h,← g7q hn ⟨c,t,g,d⟩];exact (g0h Job.e _ n).symm
theorem c0w {l:List Job} {n:Nat} (c:Cmd) (t:Int) (g:List Int) (d:Int):(LJ l n c t g d).length=l.length:=by simp
theorem i8r {l:List Job} {n:Nat} (hn:n<l.length):a0q l=LJ l n l[n].C l[n].At l[n].Got l[n].Code:=by
 show _=a0q (l.set n l[n]);rw [List.set_getElem_self]
theorem d0x {l:List Job} {n:Nat} (hn:n<l.length) (c:Cmd) (t:Int) (g:List Int) (d:Int):a0x (LJ l n c t g d) n 4 [.r (eIs c.Vals)]=LJ l n c t g d:=h7w hn c t g d 4 _ c t g d rfl
theorem d0y {l:List Job} {n:Nat} (hn:n<l.length) (c:Cmd) (t:Int) (g:List Int) (d v:Int):a0x (LJ l n c t g d) n 5 [.i v]=LJ l n c v g d:=h7w hn c t g d 5 _ c v g d rfl
theorem d0z {l:List Job} {n:Nat} (hn:n<l.length) (c:Cmd) (t:Int) (g:List Int) (d:Int) (v:List Int):a0x (LJ l n c t g d) n 6 [.r (eIs v)]=LJ l n c t v d:=h7w hn c t g d 6 _ c t v d rfl
theorem d1a {l:List Job} {n:Nat} (hn:n<l.length) (c:Cmd) (t:Int) (g:List Int) (d v:Int):a0x (LJ l n c t g d) n 7 [.i v]=LJ l n c t g v:=h7w hn c t g d 7 _ c t g v rfl
theorem d1b {l:List Job} {n:Nat} (hn:n<l.length) (c:Cmd) (t:Int) (g:List Int) (d t':Int) (g':List Int) (d':Int):a0x (LJ l n c t g d) n 0 [.i c.Op,.i c.Id,.i c.Lba,.i c.N,.r (eIs c.Vals),.i t',.r (eIs g'),.i d']=LJ l n c t' g' d':=h7w hn c t g d 0 _ c t' g' d' rfl
theorem b5x {l:List Job} {n:Nat} (hn:n<l.length) {c:Cmd} {t:Int} {g:List Int} {d:Int} (hj:l[n]=⟨c,t,g,d⟩):a0q l=LJ l n c t g d:=by have:=i8r hn;rw [hj] at this;exact this
theorem c7x (l:List Ans) (a:Ans):b5f (l++[a])=b5f l++[a.e]:=by rw [b5f,b5f,List.map_append];rfl
theorem d1c {x:Eng} {n:Nat} (hn:n<x.Jobs.length) (hx:x.w≤1073741824) {c:Cmd} {t:Int} {g:List Int} {d:Int} (hj:x.Jobs[n]=⟨c,t,g,d⟩):c.w≤Big∧g.length≤Big:=by
 have hJ:=a1t Job.w hn;rw [hj] at hJ;have hB:Big=4294967296:=rfl;have e0:x.w=x.A.w+wL Cmd.w x.Wait+wL Job.w x.Jobs+wL Ans.w x.Done+wL Turn.w x.Log:=rfl;have e1:(⟨c,t,g,d⟩:Job).w=c.w+g.length:=rfl;omega
theorem g0q {x:Eng} (hx:x.w≤1073741824) {b:Arr} (hb:b.w≤1073741824) (n:Nat):({ x with A:=b,Jobs:=del x.Jobs n }:Eng).w≤2147483648:=by
 have h1:=i2z Job.w x.Jobs n;have e0:x.w=x.A.w+wL Cmd.w x.Wait+wL Job.w x.Jobs+wL Ans.w x.Done+wL Turn.w x.Log:=rfl;show b.w+wL Cmd.w x.Wait+wL Job.w (del x.Jobs n)+wL Ans.w x.Done+wL Turn.w x.Log≤_;omega
theorem i6d (x:Eng):x.A.w≤x.w:=by
 have e0:x.w=x.A.w+wL Cmd.w x.Wait+wL Job.w x.Jobs+wL Ans.w x.Done+wL Turn.w x.Log:=rfl;omega
theorem c1q (l:List Turn) (a:Turn):a3z (l++[a])=a3z l++[a.e]:=by rw [a3z,a3z,List.map_append];rfl
theorem f2w (x:Eng) (b:Arr) (e:Int) {n:Nat} (hn:n<x.Jobs.length) (hx:x.w≤1073741824) (hb:b.w≤1073741824) {cmd:Cmd} {t:Int} {g:List Int} {d:Int} (hj:x.Jobs[n]=⟨cmd,t,g,d⟩) (ht:0≤t∧t≤40) (k:Nat) (hk:Big+4≤k) :
  b9j k (n:Int) ⟨x.e,[]⟩ ⟨b.e++[.i e],[]⟩ false=some ⟨(answer { x with A:=b,Jobs:=del x.Jobs n } cmd ⟨cmd.Id,e,[]⟩).e++[.b true],[]⟩:=by
 have hB:Big=4294967296:=rfl;obtain ⟨l1,l2,l3,l4,hA⟩:=a3b x (show x.w≤Big by omega);obtain ⟨hcw,hgw⟩:=d1c hn hx hj;have hL:=b5x hn hj;have ha:=b7j { x with A:=b,Jobs:=del x.Jobs n } cmd ⟨cmd.Id,e,[]⟩ (g0q hx hb n) hcw (Nat.zero_le _) k (by omega);unfold b9j;simp only [a0z,a2j,a2k,a2l,a1y,a2m,a2n,a2o,a3a,a1o,a3h,a0h,a1h,a0w,a1w,a1x,Outs.k1z,Eng.e,Arr.e,Geo.e,Job.e,List.cons_append,List.nil_append,List.append_assoc,B2_,T.k2a,T.k2b,T.k2d,Int.toNat_natCast,hL,c8c hn,d0x hn,d0y hn,d0z hn,d1a hn,d1b hn,c0u hn l2,c0v hn l2,c0w] at ha ⊢;refine (a0g (a9f hn (by omega)) _).trans ((a0g (by rw [a0e (by omega) (by omega)];simp;omega) _).trans ?_);exact a1e ha rfl
theorem f2x (x:Eng) (b:Arr) (e:Int) {n:Nat} (hn:n<x.Jobs.length) (hx:x.w≤1073741824) (hb:b.w≤1073741824) {cmd:Cmd} {t:Int} {g:List Int} {d:Int} (hj:x.Jobs[n]=⟨cmd,t,g,d⟩) (ht:0≤t∧t≤40) (k:Nat) (hk:Big+4≤k) :
  b9k k (n:Int) ⟨x.e,[]⟩ ⟨b.e++[.i e],[]⟩ false=some ⟨(answer { x with A:=b,Jobs:=del x.Jobs n } cmd ⟨cmd.Id,e,[]⟩).e++[.b true],[]⟩:=by
 have hB:Big=4294967296:=rfl;obtain ⟨l1,l2,l3,l4,hA⟩:=a3b x (show x.w≤Big by omega);obtain ⟨hcw,hgw⟩:=d1c hn hx hj;have hL:=b5x hn hj;have ha:=b7j { x with A:=b,Jobs:=del x.Jobs n } cmd ⟨cmd.Id,e,[]⟩ (g0q hx hb n) hcw (Nat.zero_le _) k (by omega);unfold b9k;simp only [a0z,a2j,a2k,a2l,a1y,a2m,a2n,a2o,a3a,a1o,a3h,a0h,a1h,a0w,a1w,a1x,Outs.k1z,Eng.e,Arr.e,Geo.e,Job.e,List.cons_append,List.nil_append,List.append_assoc,B2_,T.k2a,T.k2b,T.k2d,Int.toNat_natCast,hL,c8c hn,d0x hn,d0y hn,d0z hn,d1a hn,d1b hn,c0u hn l2,c0v hn l2,c0w] at ha ⊢;refine (a0g (a9f hn (by omega)) _).trans ((a0g (by rw [a0e (by omega) (by omega)];simp;omega) _).trans ?_);exact a1e ha rfl
theorem f2y (x:Eng) (b:Arr) (e:Int) {n:Nat} (hn:n<x.Jobs.length) (hx:x.w≤1073741824) (hb:b.w≤1073741824) {cmd:Cmd} {t:Int} {g:List Int} {d:Int} (hj:x.Jobs[n]=⟨cmd,t,g,d⟩) (ht:0≤t∧t≤40) (k:Nat) (hk:Big+4≤k) :
  b9l k (n:Int) ⟨x.e,[]⟩ ⟨b.e++[.i e],[]⟩ false=some ⟨(answer { x with A:=b,Jobs:=del x.Jobs n } cmd ⟨cmd.Id,e,[]⟩).e++[.b true],[]⟩:=by
 have hB:Big=4294967296:=rfl;obtain ⟨l1,l2,l3,l4,hA⟩:=a3b x (show x.w≤Big by omega);obtain ⟨hcw,hgw⟩:=d1c hn hx hj;have hL:=b5x hn hj;have ha:=b7j { x with A:=b,Jobs:=del x.Jobs n } cmd ⟨cmd.Id,e,[]⟩ (g0q hx hb n) hcw (Nat.zero_le _) k (by omega);unfold b9l;simp only [a0z,a2j,a2k,a2l,a1y,a2m,a2n,a2o,a3a,a1o,a3h,a0h,a1h,a0w,a1w,a1x,Outs.k1z,Eng.e,Arr.e,Geo.e,Job.e,List.cons_append,List.nil_append,List.append_assoc,B2_,T.k2a,T.k2b,T.k2d,Int.toNat_natCast,hL,c8c hn,d0x hn,d0y hn,d0z hn,d1a hn,d1b hn,c0u hn l2,c0v hn l2,c0w] at ha ⊢;refine (a0g (a9f hn (by omega)) _).trans ((a0g (by rw [a0e (by omega) (by omega)];simp;omega) _).trans ?_);exact a1e ha rfl
theorem f2z (x:Eng) (b:Arr) (e:Int) {n:Nat} (hn:n<x.Jobs.length) (hx:x.w≤1073741824) (hb:b.w≤1073741824) {cmd:Cmd} {t:Int} {g:List Int} {d:Int} (hj:x.Jobs[n]=⟨cmd,t,g,d⟩) (ht:0≤t∧t≤40) (k:Nat) (hk:Big+4≤k) :
  b9m k (n:Int) ⟨x.e,[]⟩ ⟨b.e++[.i e],[]⟩ false=some ⟨(answer { x with A:=b,Jobs:=del x.Jobs n } cmd ⟨cmd.Id,e,[]⟩).e++[.b true],[]⟩:=by
 have hB:Big=4294967296:=rfl;obtain ⟨l1,l2,l3,l4,hA⟩:=a3b x (show x.w≤Big by omega);obtain ⟨hcw,hgw⟩:=d1c hn hx hj;have hL:=b5x hn hj;have ha:=b7j { x with A:=b,Jobs:=del x.Jobs n } cmd ⟨cmd.Id,e,[]⟩ (g0q hx hb n) hcw (Nat.zero_le _) k (by omega);unfold b9m;simp only [a0z,a2j,a2k,a2l,a1y,a2m,a2n,a2o,a3a,a1o,a3h,a0h,a1h,a0w,a1w,a1x,Outs.k1z,Eng.e,Arr.e,Geo.e,Job.e,List.cons_append,List.nil_append,List.append_assoc,B2_,T.k2a,T.k2b,T.k2d,Int.toNat_natCast,hL,c8c hn,d0x hn,d0y hn,d0z hn,d1a hn,d1b hn,c0u hn l2,c0v hn l2,c0w] at ha ⊢;refine (a0g (a9f hn (by omega)) _).trans ((a0g (by rw [a0e (by omega) (by omega)];simp;omega) _).trans ?_);exact a1e ha rfl
theorem f3a (x:Eng) (b:Arr) (e:Int) {n:Nat} (hn:n<x.Jobs.length) (hx:x.w≤1073741824) (hb:b.w≤1073741824) {cmd:Cmd} {t:Int} {g:List Int} {d:Int} (hj:x.Jobs[n]=⟨cmd,t,g,d⟩) (ht:0≤t∧t≤40) (k:Nat) (hk:Big+4≤k) :
  b9n k (n:Int) ⟨x.e,[]⟩ ⟨b.e++[.i e],[]⟩ false=some ⟨(answer { x with A:=b,Jobs:=del x.Jobs n } cmd ⟨cmd.Id,e,[]⟩).e++[.b true],[]⟩:=by
 have hB:Big=4294967296:=rfl;obtain ⟨l1,l2,l3,l4,hA⟩:=a3b x (show x.w≤Big by omega);obtain ⟨hcw,hgw⟩:=d1c hn hx hj;have hL:=b5x hn hj;have ha:=b7j { x with A:=b,Jobs:=del x.Jobs n } cmd ⟨cmd.Id,e,[]⟩ (g0q hx hb n) hcw (Nat.zero_le _) k (by omega);unfold b9n;simp only [a0z,a2j,a2k,a2l,a1y,a2m,a2n,a2o,a3a,a1o,a3h,a0h,a1h,a0w,a1w,a1x,Outs.k1z,Eng.e,Arr.e,Geo.e,Job.e,List.cons_append,List.nil_append,List.append_assoc,B2_,T.k2a,T.k2b,T.k2d,Int.toNat_natCast,hL,c8c hn,d0x hn,d0y hn,d0z hn,d1a hn,d1b hn,c0u hn l2,c0v hn l2,c0w] at ha ⊢;refine (a0g (a9f hn (by omega)) _).trans ((a0g (by rw [a0e (by omega) (by omega)];simp;omega) _).trans ?_);exact a1e ha rfl
theorem e8y (x:Eng) (b:Arr) (e:Int) {n:Nat} (hn:n<x.Jobs.length) (hx:x.w≤1073741824) (hb:b.w≤1073741824) {cmd:Cmd} {t:Int} {g:List Int} {d:Int} (hj:x.Jobs[n]=⟨cmd,t,g,d⟩) (ht:0≤t∧t≤40) (k:Nat) (hk:Big+4≤k) :
  b7h k (n:Int) ⟨x.e,[]⟩ ⟨b.e++[.i e],[]⟩ false=some ⟨(answer { x with A:=b,Jobs:=del x.Jobs n } cmd ⟨cmd.Id,e,[]⟩).e++[.b true],[]⟩:=by
 have hB:Big=4294967296:=rfl;obtain ⟨l1,l2,l3,l4,hA⟩:=a3b x (show x.w≤Big by omega);obtain ⟨hcw,hgw⟩:=d1c hn hx hj;have hL:=b5x hn hj;have ha:=b7j { x with A:=b,Jobs:=del x.Jobs n } cmd ⟨cmd.Id,e,[]⟩ (g0q hx hb n) hcw (Nat.zero_le _) k (by omega);unfold b7h;simp only [a0z,a2j,a2k,a2l,a1y,a2m,a2n,a2o,a3a,a1o,a3h,a0h,a1h,a0w,a1w,a1x,Outs.k1z,Eng.e,Arr.e,Geo.e,Job.e,List.cons_append,List.nil_append,List.append_assoc,B2_,T.k2a,T.k2b,T.k2d,Int.toNat_natCast,hL,c8c hn,d0x hn,d0y hn,d0z hn,d1a hn,d1b hn,c0u hn l2,c0v hn l2,c0w] at ha ⊢;refine (a0g (a9f hn (by omega)) _).trans ((a0g (by rw [a0e (by omega) (by omega)];simp;omega) _).trans ?_);exact a1e ha rfl
theorem f3b (x:Eng) (b:Arr) (e:Int) (g':List Int) {n:Nat} (hn:n<x.Jobs.length) (hx:x.w≤1073741824) (hb:b.w≤1073741824) {cmd:Cmd} {t:Int} {g:List Int} {d:Int} (hj:x.Jobs[n]=⟨cmd,t,g,d⟩) (ht:0≤t∧t≤40) (k:Nat) (hk:Big+4≤k) :
  b5d k (n:Int) (LJ x.Jobs n cmd t g' e) ⟨x.e,[]⟩ false=some ⟨(answer { x with Jobs:=del x.Jobs n } cmd ⟨cmd.Id,e,[]⟩).e++[.b true],[]⟩:=by
 have hB:Big=4294967296:=rfl;obtain ⟨l1,l2,l3,l4,hA⟩:=a3b x (show x.w≤Big by omega);obtain ⟨hcw,hgw⟩:=d1c hn hx hj;have hL:=b5x hn hj;have hw1:W64 (t+1)=t+1:=a0e (by omega) (by omega);have ha:=b7j { x with Jobs:=del x.Jobs n } cmd ⟨cmd.Id,e,[]⟩ (g0q hx (Nat.le_trans (i6d x) hx) n) hcw (Nat.zero_le _) k (by omega);unfold b5d;simp only [a0z,a2j,a2k,a2l,a1y,a2m,a2n,a2o,a3a,a1o,a3h,a0h,a1h,a0w,a1w,a1x,Outs.k1z,Eng.e,Arr.e,Geo.e,Job.e,List.cons_append,List.nil_append,List.append_assoc,B2_,T.k2a,T.k2b,T.k2d,Int.toNat_natCast,hL,c8c hn,d0x hn,d0y hn,d0z hn,d1a hn,d1b hn,c0u hn l2,c0v hn l2,c0w] at ha ⊢;refine (a0g (a9f hn (by omega)) _).trans ((a0g (by rw [a0e (by omega) (by omega)];simp;omega) _).trans ?_);exact a1e ha rfl
theorem e1p (x:Eng) (b:Arr) (e:Int) {n:Nat} (hn:n<x.Jobs.length) (hx:x.w≤1073741824) (hb:b.w≤1073741824) {cmd:Cmd} {t:Int} {g:List Int} {d:Int} (hj:x.Jobs[n]=⟨cmd,t,g,d⟩) (ht:0≤t∧t≤40) (k:Nat) (hk:Big+4≤k) :
  a5y k (n:Int) ⟨x.e,[]⟩ false=some ⟨(answer { x with Jobs:=del x.Jobs n } cmd ⟨cmd.Id,d,[]⟩).e++[.b true],[]⟩:=by
 have hB:Big=4294967296:=rfl;obtain ⟨l1,l2,l3,l4,hA⟩:=a3b x (show x.w≤Big by omega);obtain ⟨hcw,hgw⟩:=d1c hn hx hj;have hL:=b5x hn hj;have ha:=b7j { x with Jobs:=del x.Jobs n } cmd ⟨cmd.Id,d,[]⟩ (g0q hx (Nat.le_trans (i6d x) hx) n) hcw (by first | exact hgw | exact Nat.zero_le _) k (by omega)
 unfold a5y;simp only [a0z,a2j,a2k,a2l,a1y,a2m,a2n,a2o,a3a,a1o,a3h,a0h,a1h,a0w,a1w,a1x,Outs.k1z,Eng.e,Arr.e,Geo.e,Job.e,List.cons_append,List.nil_append,List.append_assoc,B2_,T.k2a,T.k2b,T.k2d,Int.toNat_natCast,hL,c8c hn,d0x hn,d0y hn,d0z hn,d1a hn,d1b hn,c0u hn l2,c0v hn l2,c0w] at ha ⊢;refine (a0g (Nat.beq_refl _) _).trans ?_;refine (a0g (a9f hn (by omega)) _).trans ((a0g (by rw [a0e (by omega) (by omega)];simp;omega) _).trans ?_);exact a1e ha rfl
theorem e1q (x:Eng) (b:Arr) (e:Int) {n:Nat} (hn:n<x.Jobs.length) (hx:x.w≤1073741824) (hb:b.w≤1073741824) {cmd:Cmd} {t:Int} {g:List Int} {d:Int} (hj:x.Jobs[n]=⟨cmd,t,g,d⟩) (ht:0≤t∧t≤40) (k:Nat) (hk:Big+4≤k) :
  a5y k (n:Int) ⟨x.e,[]⟩ true=some ⟨(answer { x with Jobs:=del x.Jobs n } cmd ⟨cmd.Id,d,g⟩).e++[.b true],[]⟩:=by
 have hB:Big=4294967296:=rfl;obtain ⟨l1,l2,l3,l4,hA⟩:=a3b x (show x.w≤Big by omega);obtain ⟨hcw,hgw⟩:=d1c hn hx hj;have hL:=b5x hn hj;have ha:=b7j { x with Jobs:=del x.Jobs n } cmd ⟨cmd.Id,d,g⟩ (g0q hx (Nat.le_trans (i6d x) hx) n) hcw (by first | exact hgw | exact Nat.zero_le _) k (by omega)
 unfold a5y;simp only [a0z,a2j,a2k,a2l,a1y,a2m,a2n,a2o,a3a,a1o,a3h,a0h,a1h,a0w,a1w,a1x,Outs.k1z,Eng.e,Arr.e,Geo.e,Job.e,List.cons_append,List.nil_append,List.append_assoc,B2_,T.k2a,T.k2b,T.k2d,Int.toNat_natCast,hL,c8c hn,d0x hn,d0y hn,d0z hn,d1a hn,d1b hn,c0u hn l2,c0v hn l2,c0w] at ha ⊢;refine a1e (a3j g hgw k (by omega)) ?_;refine (a0g (a9f hn (by omega)) _).trans ((a0g (by rw [a0e (by omega) (by omega)];simp;omega) _).trans ?_);exact a1e ha rfl
theorem f3c (x:Eng) (b:Arr) (e:Int) {n:Nat} (hn:n<x.Jobs.length) (hx:x.w≤1073741824) (hb:b.w≤1073741824) {cmd:Cmd} {t:Int} {g:List Int} {d:Int} (hj:x.Jobs[n]=⟨cmd,t,g,d⟩) (ht:0≤t∧t≤40) (k:Nat) (hk:Big+4≤k) :
  b5b k (n:Int) ⟨x.e,[]⟩ e false=some ⟨(answer { x with A:=x.A,Jobs:=del x.Jobs n } cmd ⟨cmd.Id,e,[]⟩).e++[.b true],[]⟩:=by
 have hB:Big=4294967296:=rfl;obtain ⟨l1,l2,l3,l4,hA⟩:=a3b x (show x.w≤Big by omega);obtain ⟨hcw,hgw⟩:=d1c hn hx hj;have hL:=b5x hn hj;have hw1:W64 ((n:Int)+1)=(n:Int)+1:=a0e (by omega) (by omega);have ha:=b5i ⟨cmd.Id,e,[]⟩ (by first | exact hgw | exact Nat.zero_le _) k (by omega)
 unfold b5b;simp only [a1n,a2e,a2f,a2g,a2h,a0j,a0l,a0p,a0v,Outs.k1z,Eng.e,Arr.e,Geo.e,Job.e,List.cons_append,List.nil_append,B2_,T.k2a,T.k2b,T.k2d,Int.toNat_natCast,hL,c8c hn,d0x hn,d0y hn,d0z hn,d1a hn,d1b hn,c0u hn l2,c0v hn l2,c0w] at ha ⊢;refine (a0g (by simp;omega) _).trans ?_;refine (a0g (by simp;omega) _).trans ?_;refine (a0g (by rw [hw1];simp;omega) _).trans ?_;refine (a0g (by rw [hw1];simp;omega) _).trans ?_;refine a1e ha ?_;refine (a0g (by simp;omega) _).trans ?_;refine (a0g (by simp;omega) _).trans ?_;unfold b5a;simp only [a1n,a2e,a2f,a2g,a2h,a0j,a0l,a0p,a0v,Outs.k1z,Eng.e,Arr.e,Geo.e,Job.e,List.cons_append,List.nil_append,B2_,T.k2a,T.k2b,T.k2d,Int.toNat_natCast,hL,c8c hn,d0x hn,d0y hn,d0z hn,d1a hn,d1b hn,c0u hn l2,c0v hn l2,c0w,answer,c7x,c1q] <;> rfl
theorem f3d (x:Eng) (b:Arr) (e:Int) {n:Nat} (hn:n<x.Jobs.length) (hx:x.w≤1073741824) (hb:b.w≤1073741824) {cmd:Cmd} {t:Int} {g:List Int} {d:Int} (hj:x.Jobs[n]=⟨cmd,t,g,d⟩) (ht:0≤t∧t≤40) (k:Nat) (hk:Big+4≤k) :
  b9f k (n:Int) ⟨x.e,[]⟩ ⟨b.e++[.i e],[]⟩ false=some ⟨(answer { x with A:=b,Jobs:=del x.Jobs n } cmd ⟨cmd.Id,e,[]⟩).e++[.b true],[]⟩:=by
 have hB:Big=4294967296:=rfl;obtain ⟨l1,l2,l3,l4,hA⟩:=a3b x (show x.w≤Big by omega);obtain ⟨hcw,hgw⟩:=d1c hn hx hj;have hL:=b5x hn hj;have hw1:W64 ((n:Int)+1)=(n:Int)+1:=a0e (by omega) (by omega);have ha:=b5i ⟨cmd.Id,e,[]⟩ (by first | exact hgw | exact Nat.zero_le _) k (by omega)
 unfold b9f;simp only [a1n,a2e,a2f,a2g,a2h,a0j,a0l,a0p,a0v,Outs.k1z,Eng.e,Arr.e,Geo.e,Job.e,List.cons_append,List.nil_append,B2_,T.k2a,T.k2b,T.k2d,Int.toNat_natCast,hL,c8c hn,d0x hn,d0y hn,d0z hn,d1a hn,d1b hn,c0u hn l2,c0v hn l2,c0w] at ha ⊢;refine (a0g (by simp;omega) _).trans ?_;refine (a0g (by simp;omega) _).trans ?_;refine (a0g (by rw [hw1];simp;omega) _).trans ?_;refine (a0g (by rw [hw1];simp;omega) _).trans ?_;refine a1e ha ?_;refine (a0g (by simp;omega) _).trans ?_;refine (a0g (by simp;omega) _).trans ?_;unfold c5k;simp only [a1n,a2e,a2f,a2g,a2h,a0j,a0l,a0p,a0v,Outs.k1z,Eng.e,Arr.e,Geo.e,Job.e,List.cons_append,List.nil_append,B2_,T.k2a,T.k2b,T.k2d,Int.toNat_natCast,hL,c8c hn,d0x hn,d0y hn,d0z hn,d1a hn,d1b hn,c0u hn l2,c0v hn l2,c0w,answer,c7x,c1q] <;> rfl
theorem e8z (x:Eng) (b:Arr) (e:Int) {n:Nat} (hn:n<x.Jobs.length) (hx:x.w≤1073741824) (hb:b.w≤1073741824) {cmd:Cmd} {t:Int} {g:List Int} {d:Int} (hj:x.Jobs[n]=⟨cmd,t,g,d⟩) (ht:0≤t∧t≤40) (k:Nat) (hk:Big+4≤k) :
  b6u k (n:Int) ⟨x.e,[]⟩ ⟨b.e++[.i e],[]⟩ false=some ⟨(answer { x with A:=b,Jobs:=del x.Jobs n } cmd ⟨cmd.Id,e,[]⟩).e++[.b true],[]⟩:=by
 have hB:Big=4294967296:=rfl;obtain ⟨l1,l2,l3,l4,hA⟩:=a3b x (show x.w≤Big by omega);obtain ⟨hcw,hgw⟩:=d1c hn hx hj;have hL:=b5x hn hj;have hw1:W64 ((n:Int)+1)=(n:Int)+1:=a0e (by omega) (by omega);have ha:=b5i ⟨cmd.Id,e,[]⟩ (by first | exact hgw | exact Nat.zero_le _) k (by omega)
 unfold b6u;simp only [a1n,a2e,a2f,a2g,a2h,a0j,a0l,a0p,a0v,Outs.k1z,Eng.e,Arr.e,Geo.e,Job.e,List.cons_append,List.nil_append,B2_,T.k2a,T.k2b,T.k2d,Int.toNat_natCast,hL,c8c hn,d0x hn,d0y hn,d0z hn,d1a hn,d1b hn,c0u hn l2,c0v hn l2,c0w] at ha ⊢;refine (a0g (by simp;omega) _).trans ?_;refine (a0g (by simp;omega) _).trans ?_;refine (a0g (by rw [hw1];simp;omega) _).trans ?_;refine (a0g (by rw [hw1];simp;omega) _).trans ?_;refine a1e ha ?_;refine (a0g (by simp;omega) _).trans ?_;refine (a0g (by simp;omega) _).trans ?_;unfold c2q;simp only [a1n,a2e,a2f,a2g,a2h,a0j,a0l,a0p,a0v,Outs.k1z,Eng.e,Arr.e,Geo.e,Job.e,List.cons_append,List.nil_append,B2_,T.k2a,T.k2b,T.k2d,Int.toNat_natCast,hL,c8c hn,d0x hn,d0y hn,d0z hn,d1a hn,d1b hn,c0u hn l2,c0v hn l2,c0w,answer,c7x,c1q] <;> rfl
theorem e9a (x:Eng) (b:Arr) (e:Int) {n:Nat} (hn:n<x.Jobs.length) (hx:x.w≤1073741824) (hb:b.w≤1073741824) {cmd:Cmd} {t:Int} {g:List Int} {d:Int} (hj:x.Jobs[n]=⟨cmd,t,g,d⟩) (ht:0≤t∧t≤40) (k:Nat) (hk:Big+4≤k) :
  b1v k (n:Int) b.Down b.Broken (a2i b.Mems) (a1c b.Dirty) ⟨x.e,[]⟩ b.Id b.G.N b.G.S b.Lost b.Built b.Seq b.Tail b.Gen b.Fuse e false=some ⟨(answer { x with A:=b,Jobs:=del x.Jobs n } cmd ⟨cmd.Id,e,[]⟩).e++[.b true],[]⟩:=by
 have hB:Big=4294967296:=rfl;obtain ⟨l1,l2,l3,l4,hA⟩:=a3b x (show x.w≤Big by omega);obtain ⟨hcw,hgw⟩:=d1c hn hx hj;have hL:=b5x hn hj;have hw1:W64 ((n:Int)+1)=(n:Int)+1:=a0e (by omega) (by omega);have ha:=b5i ⟨cmd.Id,e,[]⟩ (by first | exact hgw | exact Nat.zero_le _) k (by omega)
 unfold b1v;simp only [a1n,a2e,a2f,a2g,a2h,a0j,a0l,a0p,a0v,Outs.k1z,Eng.e,Arr.e,Geo.e,Job.e,List.cons_append,List.nil_append,B2_,T.k2a,T.k2b,T.k2d,Int.toNat_natCast,hL,c8c hn,d0x hn,d0y hn,d0z hn,d1a hn,d1b hn,c0u hn l2,c0v hn l2,c0w] at ha ⊢;refine (a0g (by simp;omega) _).trans ?_;refine (a0g (by simp;omega) _).trans ?_;refine (a0g (by rw [hw1];simp;omega) _).trans ?_;refine (a0g (by rw [hw1];simp;omega) _).trans ?_;refine a1e ha ?_;refine (a0g (by simp;omega) _).trans ?_;refine (a0g (by simp;omega) _).trans ?_;unfold c2p;simp only [a1n,a2e,a2f,a2g,a2h,a0j,a0l,a0p,a0v,Outs.k1z,Eng.e,Arr.e,Geo.e,Job.e,List.cons_append,List.nil_append,B2_,T.k2a,T.k2b,T.k2d,Int.toNat_natCast,hL,c8c hn,d0x hn,d0y hn,d0z hn,d1a hn,d1b hn,c0u hn l2,c0v hn l2,c0w,answer,c7x,c1q] <;> rfl
theorem e1r (x:Eng) (b:Arr) (e:Int) {n:Nat} (hn:n<x.Jobs.length) (hx:x.w≤1073741824) (hb:b.w≤1073741824) {cmd:Cmd} {t:Int} {g:List Int} {d:Int} (hj:x.Jobs[n]=⟨cmd,t,g,d⟩) (ht:0≤t∧t≤40) (k:Nat) (hk:Big+4≤k) :
  a5v k (n:Int) ⟨x.e,[]⟩ false=some ⟨(answer { x with A:=x.A,Jobs:=del x.Jobs n } cmd ⟨cmd.Id,d,[]⟩).e++[.b true],[]⟩:=by
 have hB:Big=4294967296:=rfl;obtain ⟨l1,l2,l3,l4,hA⟩:=a3b x (show x.w≤Big by omega);obtain ⟨hcw,hgw⟩:=d1c hn hx hj;have hL:=b5x hn hj;have hw1:W64 ((n:Int)+1)=(n:Int)+1:=a0e (by omega) (by omega);have ha:=b5i ⟨cmd.Id,d,[]⟩ (by first | exact hgw | exact Nat.zero_le _) k (by omega)
 unfold a5v;simp only [a1n,a2e,a2f,a2g,a2h,a0j,a0l,a0p,a0v,Outs.k1z,Eng.e,Arr.e,Geo.e,Job.e,List.cons_append,List.nil_append,B2_,T.k2a,T.k2b,T.k2d,Int.toNat_natCast,hL,c8c hn,d0x hn,d0y hn,d0z hn,d1a hn,d1b hn,c0u hn l2,c0v hn l2,c0w] at ha ⊢;refine (a0g (Nat.beq_refl _) _).trans ?_;refine (a0g (by simp;omega) _).trans ?_;refine (a0g (by simp;omega) _).trans ?_;refine (a0g (by rw [hw1];simp;omega) _).trans ?_;refine (a0g (by rw [hw1];simp;omega) _).trans ?_;refine a1e ha ?_;refine (a0g (by simp;omega) _).trans ?_;refine (a0g (by simp;omega) _).trans ?_;unfold b6v;simp only [a1n,a2e,a2f,a2g,a2h,a0j,a0l,a0p,a0v,Outs.k1z,Eng.e,Arr.e,Geo.e,Job.e,List.cons_append,List.nil_append,B2_,T.k2a,T.k2b,T.k2d,Int.toNat_natCast,hL,c8c hn,d0x hn,d0y hn,d0z hn,d1a hn,d1b hn,c0u hn l2,c0v hn l2,c0w,answer,c7x,c1q] <;> rfl
theorem e1s (x:Eng) (b:Arr) (e:Int) {n:Nat} (hn:n<x.Jobs.length) (hx:x.w≤1073741824) (hb:b.w≤1073741824) {cmd:Cmd} {t:Int} {g:List Int} {d:Int} (hj:x.Jobs[n]=⟨cmd,t,g,d⟩) (ht:0≤t∧t≤40) (k:Nat) (hk:Big+4≤k) :
  a5v k (n:Int) ⟨x.e,[]⟩ true=some ⟨(answer { x with A:=x.A,Jobs:=del x.Jobs n } cmd ⟨cmd.Id,d,g⟩).e++[.b true],[]⟩:=by
 have hB:Big=4294967296:=rfl;obtain ⟨l1,l2,l3,l4,hA⟩:=a3b x (show x.w≤Big by omega);obtain ⟨hcw,hgw⟩:=d1c hn hx hj;have hL:=b5x hn hj;have hw1:W64 ((n:Int)+1)=(n:Int)+1:=a0e (by omega) (by omega);have ha:=b5i ⟨cmd.Id,d,g⟩ (by first | exact hgw | exact Nat.zero_le _) k (by omega)
 unfold a5v;simp only [a1n,a2e,a2f,a2g,a2h,a0j,a0l,a0p,a0v,Outs.k1z,Eng.e,Arr.e,Geo.e,Job.e,List.cons_append,List.nil_append,B2_,T.k2a,T.k2b,T.k2d,Int.toNat_natCast,hL,c8c hn,d0x hn,d0y hn,d0z hn,d1a hn,d1b hn,c0u hn l2,c0v hn l2,c0w] at ha ⊢;refine (a0g (Nat.beq_refl _) _).trans ?_;refine (a0g (by simp;omega) _).trans ?_;refine (a0g (by simp;omega) _).trans ?_;refine (a0g (by rw [hw1];simp;omega) _).trans ?_;refine (a0g (by rw [hw1];simp;omega) _).trans ?_;refine a1e ha ?_;refine (a0g (by simp;omega) _).trans ?_;refine (a0g (by simp;omega) _).trans ?_;unfold b6v;simp only [a1n,a2e,a2f,a2g,a2h,a0j,a0l,a0p,a0v,Outs.k1z,Eng.e,Arr.e,Geo.e,Job.e,List.cons_append,List.nil_append,B2_,T.k2a,T.k2b,T.k2d,Int.toNat_natCast,hL,c8c hn,d0x hn,d0y hn,d0z hn,d1a hn,d1b hn,c0u hn l2,c0v hn l2,c0w,answer,c7x,c1q] <;> rfl
theorem b0j {x:Eng} {n:Nat} {j:Job} {p:Arr×List Int×Int} (h:(p.2.2 == 0)=true):b5l x n j p={ x with A:=p.1,Jobs:=x.Jobs.set n (b5w j p) }:=by
 unfold b5l;rw [h];rfl
theorem b3c {x:Eng} {n:Nat} (hn:n<x.Jobs.length) {j:Job} {p:Arr×List Int×Int} (h:(p.2.2 == 0)=false):b5l x n j p=answer { x with A:=p.1,Jobs:=del x.Jobs n } j.C ⟨j.C.Id,p.2.2,[]⟩:=by
 unfold b5l a6z;rw [h];show answer { x with A:=p.1,Jobs:=del (x.Jobs.set n (b5w j p)) n } j.C ⟨j.C.Id,p.2.2,bif (j.C.Op == 1)&&(p.2.2 == 0) then p.2.1 else []⟩=_;rw [g7q hn,h,Bool.and_false];rfl
theorem d5h {g:Geo} {c:Cmd} (hc:a2q g c=0) (hw:c.w≤Big):c.Op≠4→0≤c.Lba∧c.Lba≤32∧(c.Op=2→a2v g c=c.Vals.length+1)∧(c.Op=5→a2v g c=2):=by
 intro h4;obtain ⟨e,e1,e2,e3,e4⟩:=e7x hc h4 hw;refine ⟨e1,by omega,fun h2=>?_,fun h5=>?_⟩
 ·unfold a2v;rw [hc];unfold a2x;simp [h2]
 ·unfold a2v;rw [hc];unfold a2x;simp [h5]
theorem h0e {x:Eng} {n:Nat} (hn:n<x.Jobs.length) {c:Cmd} {t:Int} {g:List Int} {d:Int} (hj:x.Jobs[n]=⟨c,t,g,d⟩):c.Vals.length≤x.w∧g.length≤x.w:=by
 have hJ:=a1t Job.w hn;rw [hj] at hJ;have e0:x.w=x.A.w+wL Cmd.w x.Wait+wL Job.w x.Jobs+wL Ans.w x.Done+wL Turn.w x.Log:=rfl;have e1:(⟨c,t,g,d⟩:Job).w=c.Vals.length+g.length:=rfl;omega
theorem h0f {g:Geo} {c:Cmd} (hc:a2q g c=0) (h5:c.Op=5):c.Vals.length=2:=by
 have hs:=(a7z hc).2.1;unfold b5g at hs;simp [h5] at hs;have:=hs.1;omega
theorem d9t {l:List Job} {n:Nat} (hn:n<l.length) {cmd:Cmd} {t:Int} {g:List Int} {d:Int} (hj:l[n]=⟨cmd,t,g,d⟩) :
  (at_ (a0q l) n 0).asI=cmd.Op∧(at_ (a0q l) n 2).asI=cmd.Lba∧(at_ (a0q l) n 4).asR=eIs cmd.Vals∧(at_ (a0q l) n 5).asI=t∧(at_ (a0q l) n 6).asR=eIs g∧(at_ (a0q l) n 7).asI=d∧
  ([.i (at_ (a0q l) n 0).asI,.i (at_ (a0q l) n 1).asI,.i (at_ (a0q l) n 2).asI,.i (at_ (a0q l) n 3).asI,.r (at_ (a0q l) n 4).asR]:List T)=cmd.e:=by
 rw [b5x hn hj];simp only [c8c hn];exact ⟨rfl,rfl,rfl,rfl,rfl,rfl,rfl⟩
theorem h0g {g:Geo} {c:Cmd} (hc:a2q g c=0):1≤c.Op∧c.Op≤6:=by
 unfold a2q at hc;cases h:(a7x g&&a0m c.Op 1 6&&a0m c.Id 1 999)
 ·rw [h] at hc;simp at hc
 ·simp only [Bool.and_eq_true] at h;exact a0y h.1.2
abbrev chE (L:List (List T)) (n:Nat) (c:Int):List (List T):=a0x (a0x (a0x L n 4 [.r ((at_ L n 4).asR)]) n 7 [.i c]) n 5 [.i (W64 ((at_ (a0x (a0x L n 4 [.r ((at_ L n 4).asR)]) n 7 [.i c]) n 5).asI+1))]
theorem chJ {l:List Job} {n:Nat} (hn:n<l.length) {cmd:Cmd} {t:Int} {g:List Int} {d:Int} (hj:l[n]=⟨cmd,t,g,d⟩) (ht:0≤t∧t≤40) (c:Int):(at_ (chE (a0q l) n c) n 7).asI=c∧(at_ (chE (a0q l) n c) n 0).asI=cmd.Op∧chE (a0q l) n c=LJ l n cmd (t+1) g c:=by
 have hL:=b5x hn hj;have hw1:W64 (t+1)=t+1:=a0e (by omega) (by omega);have e:chE (a0q l) n c=LJ l n cmd (t+1) g c:=by unfold chE;simp only [Job.e,B2_,T.k2a,T.k2b,T.k2d,hL,hw1,c8c hn,d0x hn,d0y hn,d0z hn,d1a hn,d1b hn]
 rw [e];simp only [c8c hn];exact ⟨rfl,rfl,trivial⟩
theorem g0r (x:Eng) {n:Nat} (hn:n<x.Jobs.length) (hx:x.w≤1073741000) {cmd:Cmd} {t:Int} {g:List Int} {d:Int} (hj:x.Jobs[n]=⟨cmd,t,g,d⟩) (ht:0≤t∧t≤40) (g':List Int) (e:Int) (k:Nat) (hk:Big+4≤k):a3y k (n:Int) ⟨x.e,[]⟩ (LJ x.Jobs n cmd t g' e)=some ⟨(b5l x n ⟨cmd,t,g,d⟩ (x.A,g',e)).e++[.b true],[]⟩:=by
 have hB:Big=4294967296:=rfl;obtain ⟨l1,l2,l3,l4,hA⟩:=a3b x (show x.w≤Big by omega);have hL:=b5x hn hj;have hw1:W64 (t+1)=t+1:=a0e (by omega) (by omega);have m7:(at_ (a0x (LJ x.Jobs n cmd t g' e) n 5 [.i (W64 ((at_ (LJ x.Jobs n cmd t g' e) n 5).asI+1))]) n 7).asI=e:=by simp only [Job.e,B2_,T.k2a,T.k2b,T.k2d,hL,hw1,c8c hn,d0x hn,d0y hn,d0z hn,d1a hn,d1b hn]
 have m0:(at_ (a0x (LJ x.Jobs n cmd t g' e) n 5 [.i (W64 ((at_ (LJ x.Jobs n cmd t g' e) n 5).asI+1))]) n 0).asI=cmd.Op:=by simp only [Job.e,B2_,T.k2a,T.k2b,T.k2d,hL,hw1,c8c hn,d0x hn,d0y hn,d0z hn,d1a hn,d1b hn]
 have mf:a0x (LJ x.Jobs n cmd t g' e) n 5 [.i (W64 ((at_ (LJ x.Jobs n cmd t g' e) n 5).asI+1))]=LJ x.Jobs n cmd (t+1) g' e:=by simp only [Job.e,B2_,T.k2a,T.k2b,T.k2d,hL,hw1,c8c hn,d0x hn,d0y hn,d0z hn,d1a hn,d1b hn]
 unfold a3y;rcases Bool.eq_false_or_eq_true (e == 0) with he | he
 ·rw [b0j (show ((x.A,g',e):Arr×List Int×Int).2.2 == 0 from he)];refine a0o ((congrArg (· == 0) m7).trans he) ?_;show some (⟨[_,_,_,_,_,_,_,_,_,_,_,_,_,_,.r (a0x (LJ x.Jobs n cmd t g' e) n 5 [.i (W64 ((at_ (LJ x.Jobs n cmd t g' e) n 5).asI+1))]),_,_,_],[]⟩:Outs)=_;rw [mf];rfl
 ·rw [b3c hn (show (((x.A,g',e):Arr×List Int×Int).2.2 == 0)=false from he)];refine a0k ((congrArg (· == 0) m7).trans he) ?_;have hw:=f3b x x.A e g' hn (by omega) (by have:=hA;have e0:x.w=x.A.w+wL Cmd.w x.Wait+wL Job.w x.Jobs+wL Ans.w x.Done+wL Turn.w x.Log:=rfl;omega) hj ht k hk;cases ho:(cmd.Op == 1)
  ·exact a0k ((congrArg (· == 1) m0).trans ho) hw
  ·refine a0o ((congrArg (· == 1) m0).trans ho) ?_;show b5d k (n:Int) (LJ x.Jobs n cmd t g' e) ⟨x.e,[]⟩ ((at_ (a0x (LJ x.Jobs n cmd t g' e) n 5 [.i (W64 ((at_ (LJ x.Jobs n cmd t g' e) n 5).asI+1))]) n 7).asI == 0)=_;rw [m7,he];exact hw
theorem i6e (x:Eng) {n:Nat} (hn:n<x.Jobs.length) (hx:x.w≤1073741000) {cmd:Cmd} {t:Int} {g:List Int} {d:Int} (hj:x.Jobs[n]=⟨cmd,t,g,d⟩) (ht:0≤t∧t≤40) (hf:c7t x.A) (hc:a2q x.A.G cmd=0) (hts:t<a2v x.A.G cmd - 1) (hg6:g.length≤6) (k:Nat) (hk:Big+15≤k):a7t k (n:Int) ⟨x.e,[]⟩ true=some ⟨(b5l x n ⟨cmd,t,g,d⟩ (a4w x.A ⟨cmd,t,g,d⟩)).e++[.b true],[]⟩:=by
 have hB:Big=4294967296:=rfl;obtain ⟨l1,l2,l3,l4,hA⟩:=a3b x (show x.w≤Big by omega);have hL:=b5x hn hj;have hw1:W64 (t+1)=t+1:=a0e (by omega) (by omega);obtain ⟨c0,c2,c4,c5,c6,c7,cC⟩:=d9t hn hj;have hch:=fun c=>chJ hn hj ht c;have e0:x.w=x.A.w+wL Cmd.w x.Wait+wL Job.w x.Jobs+wL Ans.w x.Done+wL Turn.w x.Log:=rfl;obtain ⟨vl,gl⟩:=h0e hn hj;have hcw:cmd.w≤Big:=by have:cmd.w=cmd.Vals.length:=rfl;omega
 have hsc:=d5h hc hcw;obtain ⟨r1,r6⟩:=h0g hc;have aW:x.A.w≤1073741000:=by omega
 unfold a7t;refine a0o rfl ((a0g (Nat.beq_refl _) _).trans ?_);rcases Bool.eq_false_or_eq_true (cmd.Op == 1) with o1 | o1
 ·have p1:cmd.Op=1:=by simpa using o1
  obtain ⟨b0,b1,_,_⟩:=hsc (by omega);have hLA:W64 ((at_ (a0q x.Jobs) n 2).asI+(at_ (a0q x.Jobs) n 5).asI)=cmd.Lba+t:=by rw [c2,c5,a0e (by omega) (by omega)]
  have hjd:a4w x.A ⟨cmd,t,g,d⟩=(x.A,bif (a1r x.A (cmd.Lba+t)).2 == 0 then g++[(a1r x.A (cmd.Lba+t)).1] else g,(a1r x.A (cmd.Lba+t)).2):=by
   unfold a4w;exact a0o o1 rfl
  rw [hjd];refine a0o ((congrArg (· == 1) c0).trans o1) ?_;refine a1e ((congrArg (fun q=>a0a E P0 k N.j3i [.v x.A.e,.v [.i q]]) hLA).trans (f4k x.A hA hf (cmd.Lba+t) k (by omega))) ?_;generalize a1r x.A (cmd.Lba+t)=r;rcases Bool.eq_false_or_eq_true (r.2 == 0) with hr | hr
  ·rw [hr];refine a0o hr ?_;have z6:(at_ (a0x (a0q x.Jobs) n 4 [.r ((at_ (a0q x.Jobs) n 4).asR)]) n 6).asR=eIs g:=by simp only [Job.e,B2_,T.k2a,T.k2b,T.k2d,hL,hw1,c8c hn,d0x hn,d0y hn,d0z hn,d1a hn,d1b hn]
   refine (a0g (show decide (((at_ (a0x (a0q x.Jobs) n 4 [.r ((at_ (a0q x.Jobs) n 4).asR)]) n 6).asR.length+([[.i r.1]]:List (List T)).length)*8≤140737488355328)=true by rw [z6];simp;omega) _).trans ?_;refine (a0g (Nat.beq_refl _) _).trans ?_;have hG:eIs g++[[.i r.1]]=eIs (g++[r.1]):=by simp
   have z7:a0x (a0x (a0x (a0q x.Jobs) n 4 [.r ((at_ (a0q x.Jobs) n 4).asR)]) n 6 [.r ((at_ (a0x (a0q x.Jobs) n 4 [.r ((at_ (a0q x.Jobs) n 4).asR)]) n 6).asR++([[.i r.1]]:List (List T)))]) n 7 [.i r.2]=LJ x.Jobs n cmd t (g++[r.1]) r.2:=by
    rw [z6,hG];simp only [Job.e,B2_,T.k2a,T.k2b,T.k2d,hL,hw1,c8c hn,d0x hn,d0y hn,d0z hn,d1a hn,d1b hn]
   show a3y k (n:Int) ⟨x.e,[]⟩ (a0x (a0x (a0x (a0q x.Jobs) n 4 [.r ((at_ (a0q x.Jobs) n 4).asR)]) n 6 [.r ((at_ (a0x (a0q x.Jobs) n 4 [.r ((at_ (a0q x.Jobs) n 4).asR)]) n 6).asR++([[.i r.1]]:List (List T)))]) n 7 [.i r.2])=_;rw [z7];exact g0r x hn hx hj ht (g++[r.1]) r.2 k (by omega)
  ·rw [hr];refine a0k hr ?_;have z7:a0x (a0x (a0q x.Jobs) n 4 [.r ((at_ (a0q x.Jobs) n 4).asR)]) n 7 [.i r.2]=LJ x.Jobs n cmd t g r.2:=by simp only [Job.e,B2_,T.k2a,T.k2b,T.k2d,hL,hw1,c8c hn,d0x hn,d0y hn,d0z hn,d1a hn,d1b hn]
   show a3y k (n:Int) ⟨x.e,[]⟩ (a0x (a0x (a0q x.Jobs) n 4 [.r ((at_ (a0q x.Jobs) n 4).asR)]) n 7 [.i r.2])=_;rw [z7];exact g0r x hn hx hj ht g r.2 k (by omega)
 refine a0k ((congrArg (· == 1) c0).trans o1) ?_;rcases Bool.eq_false_or_eq_true (cmd.Op == 2) with o2 | o2
 ·have p2:cmd.Op=2:=by simpa using o2
  obtain ⟨b0,b1,b2,b5⟩:=hsc (by omega);have hLA:W64 ((at_ (a0q x.Jobs) n 2).asI+(at_ (a0q x.Jobs) n 5).asI)=cmd.Lba+t:=by rw [c2,c5,a0e (by omega) (by omega)]
  have htl:t<cmd.Vals.length:=by have:=b2 p2;omega
  have hv:(at_ (at_ (a0q x.Jobs) n 4).asR (at_ (a0q x.Jobs) n 5).asI.toNat 0).asI=cmd.Vals.getD t.toNat 0:=by rw [c4,c5,a6a (by omega)]
  have hck:(decide (0≤(at_ (a0q x.Jobs) n 5).asI)&&decide ((at_ (a0q x.Jobs) n 5).asI<((at_ (a0q x.Jobs) n 4).asR.length:Int)))=true:=by rw [c4,c5,List.length_map];simp;omega
  have hjd:a4w x.A ⟨cmd,t,g,d⟩=((a0u x.A (cmd.Lba+t) (cmd.Vals.getD t.toNat 0)).1,g,(a0u x.A (cmd.Lba+t) (cmd.Vals.getD t.toNat 0)).2):=by
   unfold a4w;refine a0k o1 ?_;exact a0k (show (cmd.Op == 4)=false by simp [p2]) (a0k (show (cmd.Op == 5)=false by simp [p2]) (a0k (show (cmd.Op == 6)=false by simp [p2]) (a0o (decide_eq_true htl) rfl)))
  rw [hjd];refine a0o ((congrArg (· == 2) c0).trans o2) ((a0g hck _).trans ?_);refine a1e ((congrArg (fun q=>a0a E P0 k N.j1x [.v x.A.e,.v [.i q],.v [.i (at_ (at_ (a0q x.Jobs) n 4).asR (at_ (a0q x.Jobs) n 5).asI.toNat 0).asI]]) hLA).trans ((congrArg (fun v=>a0a E P0 k N.j1x [.v x.A.e,.v [.i (cmd.Lba+t)],.v [.i v]]) hv).trans (c7w x.A (cmd.Lba+t) (cmd.Vals.getD t.toNat 0) (by omega) hf k (by omega)))) ?_;have hpw:=b0u x.A (cmd.Lba+t) (cmd.Vals.getD t.toNat 0);generalize a0u x.A (cmd.Lba+t) (cmd.Vals.getD t.toNat 0)=p at hpw ⊢;rcases Bool.eq_false_or_eq_true (p.2 == 0) with he | he
  ·rw [b0j (show ((p.1,g,p.2):Arr×List Int×Int).2.2 == 0 from he)];refine a0o ((congrArg (· == 0) (hch p.2).1).trans he) ?_;show some (⟨[_,_,_,_,_,_,_,_,_,_,_,_,_,_,.r (chE (a0q x.Jobs) n p.2),_,_,_],[]⟩:Outs)=_;rw [(hch p.2).2.2];rfl
  ·rw [b3c hn (show (((p.1,g,p.2):Arr×List Int×Int).2.2 == 0)=false from he)];refine a0k ((congrArg (· == 0) (hch p.2).1).trans he) ?_;exact a0k ((congrArg (· == 1) (hch p.2).2.1).trans o1) (f2w x p.1 p.2 hn (by omega) (by omega) hj ht k (by omega))
 refine a0k ((congrArg (· == 2) c0).trans o2) ?_;rcases Bool.eq_false_or_eq_true (cmd.Op == 6) with o6 | o6
 ·have p6:cmd.Op=6:=by simpa using o6
  obtain ⟨b0,b1,b2,b5⟩:=hsc (by omega);have hLA:W64 ((at_ (a0q x.Jobs) n 2).asI+(at_ (a0q x.Jobs) n 5).asI)=cmd.Lba+t:=by rw [c2,c5,a0e (by omega) (by omega)]
  have hjd:a4w x.A ⟨cmd,t,g,d⟩=((a0u x.A (cmd.Lba+t) 0).1,g,(a0u x.A (cmd.Lba+t) 0).2):=by
   unfold a4w;refine a0k o1 ?_;exact a0k (show (cmd.Op == 4)=false by simp [p6]) (a0k (show (cmd.Op == 5)=false by simp [p6]) (a0o o6 rfl))
  rw [hjd];refine a0o ((congrArg (· == 6) c0).trans o6) ?_;refine a1e ((congrArg (fun q=>a0a E P0 k N.j1x [.v x.A.e,.v [.i q],.v [.i 0]]) hLA).trans ((congrArg (fun v=>a0a E P0 k N.j1x [.v x.A.e,.v [.i (cmd.Lba+t)],.v [.i v]]) rfl).trans (c7w x.A (cmd.Lba+t) 0 (by omega) hf k (by omega)))) ?_;have hpw:=b0u x.A (cmd.Lba+t) 0;generalize a0u x.A (cmd.Lba+t) 0=p at hpw ⊢;rcases Bool.eq_false_or_eq_true (p.2 == 0) with he | he
  ·rw [b0j (show ((p.1,g,p.2):Arr×List Int×Int).2.2 == 0 from he)];refine a0o ((congrArg (· == 0) (hch p.2).1).trans he) ?_;show some (⟨[_,_,_,_,_,_,_,_,_,_,_,_,_,_,.r (chE (a0q x.Jobs) n p.2),_,_,_],[]⟩:Outs)=_;rw [(hch p.2).2.2];rfl
  ·rw [b3c hn (show (((p.1,g,p.2):Arr×List Int×Int).2.2 == 0)=false from he)];refine a0k ((congrArg (· == 0) (hch p.2).1).trans he) ?_;exact a0k ((congrArg (· == 1) (hch p.2).2.1).trans o1) (f2x x p.1 p.2 hn (by omega) (by omega) hj ht k (by omega))
 refine a0k ((congrArg (· == 6) c0).trans o6) ?_;rcases Bool.eq_false_or_eq_true (cmd.Op == 3) with o3 | o3
 ·have p3:cmd.Op=3:=by simpa using o3
  obtain ⟨b0,b1,b2,b5⟩:=hsc (by omega);have hLA:W64 ((at_ (a0q x.Jobs) n 2).asI+(at_ (a0q x.Jobs) n 5).asI)=cmd.Lba+t:=by rw [c2,c5,a0e (by omega) (by omega)]
  refine a0o ((congrArg (· == 3) c0).trans o3) ?_;have hcond:decide ((at_ (a0q x.Jobs) n 5).asI<((at_ (a0q x.Jobs) n 4).asR.length:Int))=decide (t<(cmd.Vals.length:Int)):=by rw [c4,c5,List.length_map]
  rcases Bool.eq_false_or_eq_true (decide (t<(cmd.Vals.length:Int))) with hl | hl
  ·have htl:=of_decide_eq_true hl;have hv:(at_ (at_ (a0q x.Jobs) n 4).asR (at_ (a0q x.Jobs) n 5).asI.toNat 0).asI=cmd.Vals.getD t.toNat 0:=by rw [c4,c5,a6a (by omega)]
   have hck:(decide (0≤(at_ (a0q x.Jobs) n 5).asI)&&decide ((at_ (a0q x.Jobs) n 5).asI<((at_ (a0q x.Jobs) n 4).asR.length:Int)))=true:=by rw [c4,c5,List.length_map];simp;omega
   have hjd:a4w x.A ⟨cmd,t,g,d⟩=((a0u x.A (cmd.Lba+t) (cmd.Vals.getD t.toNat 0)).1,g,(a0u x.A (cmd.Lba+t) (cmd.Vals.getD t.toNat 0)).2):=by
    unfold a4w;refine a0k o1 ?_;exact a0k (show (cmd.Op == 4)=false by simp [p3]) (a0k (show (cmd.Op == 5)=false by simp [p3]) (a0k (show (cmd.Op == 6)=false by simp [p3]) (a0o hl rfl)))
   rw [hjd];refine a0o (hcond.trans hl) ((a0g hck _).trans ?_);refine a1e ((congrArg (fun q=>a0a E P0 k N.j1x [.v x.A.e,.v [.i q],.v [.i (at_ (at_ (a0q x.Jobs) n 4).asR (at_ (a0q x.Jobs) n 5).asI.toNat 0).asI]]) hLA).trans ((congrArg (fun v=>a0a E P0 k N.j1x [.v x.A.e,.v [.i (cmd.Lba+t)],.v [.i v]]) hv).trans (c7w x.A (cmd.Lba+t) (cmd.Vals.getD t.toNat 0) (by omega) hf k (by omega)))) ?_;have hpw:=b0u x.A (cmd.Lba+t) (cmd.Vals.getD t.toNat 0);generalize a0u x.A (cmd.Lba+t) (cmd.Vals.getD t.toNat 0)=p at hpw ⊢;rcases Bool.eq_false_or_eq_true (p.2 == 0) with he | he
   ·rw [b0j (show ((p.1,g,p.2):Arr×List Int×Int).2.2 == 0 from he)];refine a0o ((congrArg (· == 0) (hch p.2).1).trans he) ?_;show some (⟨[_,_,_,_,_,_,_,_,_,_,_,_,_,_,.r (chE (a0q x.Jobs) n p.2),_,_,_],[]⟩:Outs)=_;rw [(hch p.2).2.2];rfl
   ·rw [b3c hn (show (((p.1,g,p.2):Arr×List Int×Int).2.2 == 0)=false from he)];refine a0k ((congrArg (· == 0) (hch p.2).1).trans he) ?_;exact a0k ((congrArg (· == 1) (hch p.2).2.1).trans o1) (f2y x p.1 p.2 hn (by omega) (by omega) hj ht k (by omega))
  ·have htl:=of_decide_eq_false hl;have hsb:=b0t x.A.G cmd.Lba;have hspan:(a6h x.A.G cmd).1=cmd.Lba:=by unfold a6h;rw [hc];exact congrArg Prod.fst (show (bif cmd.Op == 4 then _ else _:Int×Int)=(cmd.Lba,_) from a0k (show (cmd.Op == 4)=false by simp [p3]) rfl)
   have hfa:W64 ((W64 (a0n x.A.G (a6h x.A.G cmd).1+(at_ (a0q x.Jobs) n 5).asI)) - ((at_ (a0q x.Jobs) n 4).asR.length:Int))=a0n x.A.G cmd.Lba+t - cmd.Vals.length:=by
    rw [hspan,c4,c5,List.length_map,a0e (n:=a0n x.A.G cmd.Lba+t) (by omega) (by omega),a0e (by omega) (by omega)]
   have hjd:a4w x.A ⟨cmd,t,g,d⟩=((a0s x.A (a0n x.A.G cmd.Lba+t - cmd.Vals.length)).1,g,(a0s x.A (a0n x.A.G cmd.Lba+t - cmd.Vals.length)).2):=by
    unfold a4w;refine a0k o1 ?_;exact a0k (show (cmd.Op == 4)=false by simp [p3]) (a0k (show (cmd.Op == 5)=false by simp [p3]) (a0k (show (cmd.Op == 6)=false by simp [p3]) (a0k hl rfl)))
   rw [hjd];refine a0k (hcond.trans hl) ?_;refine a1e ((congrArg (fun c=>a0a E P0 k N.j4b [.v x.A.G.e,.v c]) cC).trans (e7y x.A.G cmd hcw k (by omega))) ?_;refine a1e ((congrArg (fun q=>a0a E P0 k N.j3k [.v x.A.e,.v [.i q]]) hfa).trans (d5f x.A (a0n x.A.G cmd.Lba+t - cmd.Vals.length) (by omega) hf k (by omega))) ?_;have hpw:=b3a x.A (a0n x.A.G cmd.Lba+t - cmd.Vals.length);generalize a0s x.A (a0n x.A.G cmd.Lba+t - cmd.Vals.length)=p at hpw ⊢;rcases Bool.eq_false_or_eq_true (p.2 == 0) with he | he
   ·rw [b0j (show ((p.1,g,p.2):Arr×List Int×Int).2.2 == 0 from he)];refine a0o ((congrArg (· == 0) (hch p.2).1).trans he) ?_;show some (⟨[_,_,_,_,_,_,_,_,_,_,_,_,_,_,.r (chE (a0q x.Jobs) n p.2),_,_,_],[]⟩:Outs)=_;rw [(hch p.2).2.2];rfl
   ·rw [b3c hn (show (((p.1,g,p.2):Arr×List Int×Int).2.2 == 0)=false from he)];refine a0k ((congrArg (· == 0) (hch p.2).1).trans he) ?_;exact a0k ((congrArg (· == 1) (hch p.2).2.1).trans o1) (f2z x p.1 p.2 hn (by omega) (by omega) hj ht k (by omega))
 refine a0k ((congrArg (· == 3) c0).trans o3) ?_;rcases Bool.eq_false_or_eq_true (cmd.Op == 4) with o4 | o4
 ·
  have hjd:a4w x.A ⟨cmd,t,g,d⟩=((a0s x.A t).1,g,(a0s x.A t).2):=by
   unfold a4w;refine a0k o1 ?_;exact a0o o4 rfl
  rw [hjd];refine a0o ((congrArg (· == 4) c0).trans o4) ?_;refine a1e ((congrArg (fun q=>a0a E P0 k N.j3k [.v x.A.e,.v [.i q]]) c5).trans (d5f x.A t (by omega) hf k (by omega))) ?_;have hpw:=b3a x.A t;generalize a0s x.A t=p at hpw ⊢;rcases Bool.eq_false_or_eq_true (p.2 == 0) with he | he
  ·rw [b0j (show ((p.1,g,p.2):Arr×List Int×Int).2.2 == 0 from he)];refine a0o ((congrArg (· == 0) (hch p.2).1).trans he) ?_;show some (⟨[_,_,_,_,_,_,_,_,_,_,_,_,_,_,.r (chE (a0q x.Jobs) n p.2),_,_,_],[]⟩:Outs)=_;rw [(hch p.2).2.2];rfl
  ·rw [b3c hn (show (((p.1,g,p.2):Arr×List Int×Int).2.2 == 0)=false from he)];refine a0k ((congrArg (· == 0) (hch p.2).1).trans he) ?_;exact a0k ((congrArg (· == 1) (hch p.2).2.1).trans o1) (f3a x p.1 p.2 hn (by omega) (by omega) hj ht k (by omega))
 refine a0k ((congrArg (· == 4) c0).trans o4) ?_;have p5:cmd.Op=5:=by
  have n1:cmd.Op≠1:=by simpa using o1
  have n2:cmd.Op≠2:=by simpa using o2
  have n3:cmd.Op≠3:=by simpa using o3
  have n4:cmd.Op≠4:=by simpa using o4
  have n6:cmd.Op≠6:=by simpa using o6
  omega
 obtain ⟨b0,b1,b2,b5⟩:=hsc (by omega);have hv2:=h0f hc p5;have hLA:W64 ((at_ (a0q x.Jobs) n 2).asI+(at_ (a0q x.Jobs) n 5).asI)=cmd.Lba+t:=by rw [c2,c5,a0e (by omega) (by omega)]
 have hj5:a4w x.A ⟨cmd,t,g,d⟩=(bif (a1r x.A (cmd.Lba+t)).2 != 0 then (x.A,g,(a1r x.A (cmd.Lba+t)).2) else bif (a1r x.A (cmd.Lba+t)).1 != cmd.Vals.getD 0 0 then (x.A,g,4) else ((a0u x.A (cmd.Lba+t) (cmd.Vals.getD 1 0)).1,g,(a0u x.A (cmd.Lba+t) (cmd.Vals.getD 1 0)).2)):=by
  unfold a4w;exact a0k o1 (a0k o4 (a0o (show (cmd.Op == 5)=true by simp [p5]) rfl))
 refine a1e ((congrArg (fun q=>a0a E P0 k N.j3i [.v x.A.e,.v [.i q]]) hLA).trans (f4k x.A hA hf (cmd.Lba+t) k (by omega))) ?_;generalize a1r x.A (cmd.Lba+t)=r at hj5 ⊢;have z7:∀ v:Int,a0x (a0x (a0q x.Jobs) n 4 [.r ((at_ (a0q x.Jobs) n 4).asR)]) n 7 [.i v]=LJ x.Jobs n cmd t g v:=fun v=>by simp only [Job.e,B2_,T.k2a,T.k2b,T.k2d,hL,hw1,c8c hn,d0x hn,d0y hn,d0z hn,d1a hn,d1b hn]
 have w0:(at_ (at_ (a0q x.Jobs) n 4).asR 0 0).asI=cmd.Vals.getD 0 0:=by rw [c4,a6a (by omega)]
 have w1:(at_ (at_ (a0q x.Jobs) n 4).asR 1 0).asI=cmd.Vals.getD 1 0:=by rw [c4,a6a (by omega)]
 rcases Bool.eq_false_or_eq_true (r.2 != 0) with hr | hr
 ·rw [show a4w x.A ⟨cmd,t,g,d⟩=(x.A,g,r.2) by rw [hj5];exact a0o hr rfl];refine a0o hr ?_;show a3y k (n:Int) ⟨x.e,[]⟩ (a0x (a0x (a0q x.Jobs) n 4 [.r ((at_ (a0q x.Jobs) n 4).asR)]) n 7 [.i r.2])=_;rw [z7];exact g0r x hn hx hj ht g r.2 k (by omega)
 refine a0k hr ((a0g (show decide ((0:Int)<((at_ (a0q x.Jobs) n 4).asR.length:Int))=true by rw [c4,List.length_map,hv2];rfl) _).trans ?_);rcases Bool.eq_false_or_eq_true (r.1 != cmd.Vals.getD 0 0) with hq | hq
 ·rw [show a4w x.A ⟨cmd,t,g,d⟩=(x.A,g,4) by rw [hj5];exact a0k hr (a0o hq rfl)];refine a0o ((congrArg (r.1 != ·) w0).trans hq) ?_;show a3y k (n:Int) ⟨x.e,[]⟩ (a0x (a0x (a0q x.Jobs) n 4 [.r ((at_ (a0q x.Jobs) n 4).asR)]) n 7 [.i 4])=_;rw [z7];exact g0r x hn hx hj ht g 4 k (by omega)
 rw [show a4w x.A ⟨cmd,t,g,d⟩=((a0u x.A (cmd.Lba+t) (cmd.Vals.getD 1 0)).1,g,(a0u x.A (cmd.Lba+t) (cmd.Vals.getD 1 0)).2) by rw [hj5];exact a0k hr (a0k hq rfl)];refine a0k ((congrArg (r.1 != ·) w0).trans hq) ((a0g (show decide ((1:Int)<((at_ (a0q x.Jobs) n 4).asR.length:Int))=true by rw [c4,List.length_map,hv2];rfl) _).trans ?_);refine a1e ((congrArg (fun q=>a0a E P0 k N.j1x [.v x.A.e,.v [.i q],.v [.i (at_ (at_ (a0q x.Jobs) n 4).asR 1 0).asI]]) hLA).trans ((congrArg (fun v=>a0a E P0 k N.j1x [.v x.A.e,.v [.i (cmd.Lba+t)],.v [.i v]]) w1).trans (c7w x.A (cmd.Lba+t) (cmd.Vals.getD 1 0) (by omega) hf k (by omega)))) ?_;have hpw:=b0u x.A (cmd.Lba+t) (cmd.Vals.getD 1 0);generalize a0u x.A (cmd.Lba+t) (cmd.Vals.getD 1 0)=p at hpw ⊢;rcases Bool.eq_false_or_eq_true (p.2 == 0) with he | he
 ·rw [b0j (show ((p.1,g,p.2):Arr×List Int×Int).2.2 == 0 from he)];refine a0o ((congrArg (· == 0) (hch p.2).1).trans he) ?_;show some (⟨[_,_,_,_,_,_,_,_,_,_,_,_,_,_,.r (chE (a0q x.Jobs) n p.2),_,_,_],[]⟩:Outs)=_;rw [(hch p.2).2.2];rfl
 ·rw [b3c hn (show (((p.1,g,p.2):Arr×List Int×Int).2.2 == 0)=false from he)];refine a0k ((congrArg (· == 0) (hch p.2).1).trans he) ?_;exact a0k ((congrArg (· == 1) (hch p.2).2.1).trans o1) (e8y x p.1 p.2 hn (by omega) (by omega) hj ht k (by omega))
abbrev scE (L:List (List T)) (n:Nat) (c:Int):List (List T):=a0x L n 0 [.i (at_ L n 0).asI,.i (at_ L n 1).asI,.i (at_ L n 2).asI,.i (at_ L n 3).asI,.r (at_ L n 4).asR,.i (W64 ((at_ L n 5).asI+1)),.r (at_ L n 6).asR,.i c]
theorem scJ {l:List Job} {n:Nat} (hn:n<l.length) {cmd:Cmd} {t:Int} {g:List Int} {d:Int} (hj:l[n]=⟨cmd,t,g,d⟩) (ht:0≤t∧t≤40) (c:Int):scE (a0q l) n c=LJ l n cmd (t+1) g c:=by
 have hL:=b5x hn hj;have hw1:W64 (t+1)=t+1:=a0e (by omega) (by omega);unfold scE;simp only [Job.e,B2_,T.k2a,T.k2b,T.k2d,hL,hw1,c8c hn,d0x hn,d0y hn,d0z hn,d1a hn,d1b hn]
theorem g7r (x:Eng) {n:Nat} (hn:n<x.Jobs.length) (hx:x.w≤1073741000) {cmd:Cmd} {t:Int} {g:List Int} {d:Int} (hj:x.Jobs[n]=⟨cmd,t,g,d⟩) (ht:0≤t∧t≤40) (e:Int) (k:Nat) (hk:Big+4≤k):b5c k (n:Int) ⟨x.e,[]⟩ e=some ⟨(b5l x n ⟨cmd,t,g,d⟩ (x.A,g,e)).e++[.b true],[]⟩:=by
 have hB:Big=4294967296:=rfl;obtain ⟨l1,l2,l3,l4,hA⟩:=a3b x (show x.w≤Big by omega);have hL:=b5x hn hj;have hw1:W64 (t+1)=t+1:=a0e (by omega) (by omega);obtain ⟨c0,c2,c4,c5,c6,c7,cC⟩:=d9t hn hj;have sf:=fun c=>scJ hn hj ht c;have hix:(decide (0≤(n:Int))&&decide ((n:Int)<((a0q x.Jobs).length:Int)))=true:=by rw [List.length_map,dlt hn];simp
 have e0:x.w=x.A.w+wL Cmd.w x.Wait+wL Job.w x.Jobs+wL Ans.w x.Done+wL Turn.w x.Log:=rfl;unfold b5c;refine (a0g hix _).trans ((a0g (Nat.beq_refl _) _).trans ?_);rcases Bool.eq_false_or_eq_true (e == 0) with he | he
 ·rw [b0j (show ((x.A,g,e):Arr×List Int×Int).2.2 == 0 from he)];refine a0o he ?_;unfold b9e;show some (⟨[_,_,_,_,_,_,_,_,_,_,_,_,_,_,.r (scE (a0q x.Jobs) n e),_,_,_],[]⟩:Outs)=_;rw [sf];rfl
 ·rw [b3c hn (show (((x.A,g,e):Arr×List Int×Int).2.2 == 0)=false from he)];refine a0k he ?_;have hw:=f3c x x.A e hn (by omega) (by omega) hj ht k (by omega);cases ho:(cmd.Op == 1)
  ·exact a0k ((congrArg (· == 1) c0).trans ho) hw
  ·refine a0o ((congrArg (· == 1) c0).trans ho) ?_;show b5b k (n:Int) ⟨x.e,[]⟩ e (e == 0)=_;rw [he];exact hw
theorem g0s (x:Eng) {n:Nat} (hn:n<x.Jobs.length) (hx:x.w≤1073741000) {cmd:Cmd} {t:Int} {g:List Int} {d:Int} (hj:x.Jobs[n]=⟨cmd,t,g,d⟩) (ht:0≤t∧t≤40) (b:Arr) (e:Int) (hb:b.w≤1073741824) (k:Nat) (hk:Big+4≤k):b1w k (n:Int) ⟨x.e,[]⟩ b.Id b.G.N b.G.S (a2i b.Mems) b.Lost b.Built b.Seq b.Tail b.Gen (a1c b.Dirty) b.Fuse b.Down b.Broken e=some ⟨(b5l x n ⟨cmd,t,g,d⟩ (b,g,e)).e++[.b true],[]⟩:=by
 have hB:Big=4294967296:=rfl;obtain ⟨l1,l2,l3,l4,hA⟩:=a3b x (show x.w≤Big by omega);have hL:=b5x hn hj;have hw1:W64 (t+1)=t+1:=a0e (by omega) (by omega);obtain ⟨c0,c2,c4,c5,c6,c7,cC⟩:=d9t hn hj;have sf:=fun c=>scJ hn hj ht c;have hix:(decide (0≤(n:Int))&&decide ((n:Int)<((a0q x.Jobs).length:Int)))=true:=by rw [List.length_map,dlt hn];simp
 have e0:x.w=x.A.w+wL Cmd.w x.Wait+wL Job.w x.Jobs+wL Ans.w x.Done+wL Turn.w x.Log:=rfl;unfold b1w;refine (a0g hix _).trans ((a0g (Nat.beq_refl _) _).trans ?_);rcases Bool.eq_false_or_eq_true (e == 0) with he | he
 ·rw [b0j (show ((b,g,e):Arr×List Int×Int).2.2 == 0 from he)];refine a0o he ?_;show some (⟨[_,_,_,_,_,_,_,_,_,_,_,_,_,_,.r (scE (a0q x.Jobs) n e),_,_,_],[]⟩:Outs)=_;rw [sf];rfl
 ·rw [b3c hn (show (((b,g,e):Arr×List Int×Int).2.2 == 0)=false from he)];refine a0k he ?_;have hw:=e9a x b e hn (by omega) (by omega) hj ht k (by omega);cases ho:(cmd.Op == 1)
  ·exact a0k ((congrArg (· == 1) c0).trans ho) hw
  ·refine a0o ((congrArg (· == 1) c0).trans ho) ?_;show b1v k (n:Int) b.Down b.Broken (a2i b.Mems) (a1c b.Dirty) ⟨x.e,[]⟩ b.Id b.G.N b.G.S b.Lost b.Built b.Seq b.Tail b.Gen b.Fuse e (e == 0)=_;rw [he];exact hw
theorem i6f (x:Eng) {n:Nat} (hn:n<x.Jobs.length) (hx:x.w≤1073741000) {cmd:Cmd} {t:Int} {g:List Int} {d:Int} (hj:x.Jobs[n]=⟨cmd,t,g,d⟩) (ht:0≤t∧t≤40) (hf:c7t x.A) (hc:a2q x.A.G cmd=0) (hts:t<a2v x.A.G cmd - 1) (hg6:g.length≤6) (k:Nat) (hk:Big+15≤k):a7j k (n:Int) ⟨x.e,[]⟩ true=some ⟨(b5l x n ⟨cmd,t,g,d⟩ (a4w x.A ⟨cmd,t,g,d⟩)).e++[.b true],[]⟩:=by
 have hB:Big=4294967296:=rfl;obtain ⟨l1,l2,l3,l4,hA⟩:=a3b x (show x.w≤Big by omega);have hL:=b5x hn hj;have hw1:W64 (t+1)=t+1:=a0e (by omega) (by omega);obtain ⟨c0,c2,c4,c5,c6,c7,cC⟩:=d9t hn hj;have sf:=fun c=>scJ hn hj ht c;have hix:(decide (0≤(n:Int))&&decide ((n:Int)<((a0q x.Jobs).length:Int)))=true:=by rw [List.length_map,dlt hn];simp
 have e0:x.w=x.A.w+wL Cmd.w x.Wait+wL Job.w x.Jobs+wL Ans.w x.Done+wL Turn.w x.Log:=rfl;obtain ⟨vl,gl⟩:=h0e hn hj;have hcw:cmd.w≤Big:=by have:cmd.w=cmd.Vals.length:=rfl;omega
 have hsc:=d5h hc hcw;obtain ⟨r1,r6⟩:=h0g hc;have aW:x.A.w≤1073741000:=by omega
 unfold a7j;refine a0o rfl ?_;rcases Bool.eq_false_or_eq_true (cmd.Op == 1) with o1 | o1
 ·have p1:cmd.Op=1:=by simpa using o1
  obtain ⟨b0,b1,_,_⟩:=hsc (by omega);have hLA:W64 ((at_ (a0q x.Jobs) n 2).asI+(at_ (a0q x.Jobs) n 5).asI)=cmd.Lba+t:=by rw [c2,c5,a0e (by omega) (by omega)]
  have hjd:a4w x.A ⟨cmd,t,g,d⟩=(x.A,bif (a1r x.A (cmd.Lba+t)).2 == 0 then g++[(a1r x.A (cmd.Lba+t)).1] else g,(a1r x.A (cmd.Lba+t)).2):=by
   unfold a4w;exact a0o o1 rfl
  rw [hjd];refine a0o ((congrArg (· == 1) c0).trans o1) ?_;refine a1e ((congrArg (fun q=>a0a E P0 k N.j3a [.v x.A.e,.v [.i q]]) hLA).trans (f4l x.A hA hf (cmd.Lba+t) k (by omega))) ?_;generalize a1r x.A (cmd.Lba+t)=r;rcases Bool.eq_false_or_eq_true (r.2 == 0) with hr | hr
  ·rw [hr];refine a0o hr ?_;refine (a0g (show decide (((at_ (a0q x.Jobs) n 6).asR.length+([[.i r.1]]:List (List T)).length)*8≤140737488355328)=true by rw [c6];simp;omega) _).trans ?_;refine (a0g hix _).trans ((a0g (Nat.beq_refl _) _).trans (a0o hr ?_));have hG:eIs g++[[.i r.1]]=eIs (g++[r.1]):=by simp
   have z7:a0x (a0q x.Jobs) n 0 [.i (at_ (a0q x.Jobs) n 0).asI,.i (at_ (a0q x.Jobs) n 1).asI,.i (at_ (a0q x.Jobs) n 2).asI,.i (at_ (a0q x.Jobs) n 3).asI,.r (at_ (a0q x.Jobs) n 4).asR,.i (W64 ((at_ (a0q x.Jobs) n 5).asI+1)),.r ((at_ (a0q x.Jobs) n 6).asR++([[.i r.1]]:List (List T))),.i r.2]=LJ x.Jobs n cmd (t+1) (g++[r.1]) r.2:=by
    rw [c6,hG];simp only [Job.e,B2_,T.k2a,T.k2b,T.k2d,hL,hw1,c8c hn,d0x hn,d0y hn,d0z hn,d1a hn,d1b hn]
   unfold b9e;show _=some (⟨(b5l x n ⟨cmd,t,g,d⟩ (x.A,g++[r.1],r.2)).e++[.b true],[]⟩:Outs);rw [b0j (show ((x.A,g++[r.1],r.2):Arr×List Int×Int).2.2 == 0 from hr)];show some (⟨[_,_,_,_,_,_,_,_,_,_,_,_,_,_,.r (a0x (a0q x.Jobs) n 0 [.i (at_ (a0q x.Jobs) n 0).asI,.i (at_ (a0q x.Jobs) n 1).asI,.i (at_ (a0q x.Jobs) n 2).asI,.i (at_ (a0q x.Jobs) n 3).asI,.r (at_ (a0q x.Jobs) n 4).asR,.i (W64 ((at_ (a0q x.Jobs) n 5).asI+1)),.r ((at_ (a0q x.Jobs) n 6).asR++([[.i r.1]]:List (List T))),.i r.2]),_,_,_],[]⟩:Outs)=_;rw [z7];rfl
  ·rw [hr];refine a0k hr ?_;exact g7r x hn hx hj ht r.2 k (by omega)
 refine a0k ((congrArg (· == 1) c0).trans o1) ?_;rcases Bool.eq_false_or_eq_true (cmd.Op == 4) with o4 | o4
 ·have hjd:a4w x.A ⟨cmd,t,g,d⟩=((a0s x.A t).1,g,(a0s x.A t).2):=by unfold a4w;exact a0k o1 (a0o o4 rfl)
  rw [hjd];refine a0o ((congrArg (· == 4) c0).trans o4) ?_;refine a1e ((congrArg (fun q=>a0a E P0 k N.j3b [.v x.A.e,.v [.i q]]) c5).trans (d5g x.A t (by omega) hf k (by omega))) ?_;have hpw:=b3a x.A t;generalize a0s x.A t=p at hpw ⊢;refine (a0g hix _).trans ((a0g (Nat.beq_refl _) _).trans ?_);rcases Bool.eq_false_or_eq_true (p.2 == 0) with he | he
  ·rw [b0j (show ((p.1,g,p.2):Arr×List Int×Int).2.2 == 0 from he)];refine a0o he ?_;show some (⟨[_,_,_,_,_,_,_,_,_,_,_,_,_,_,.r (scE (a0q x.Jobs) n p.2),_,_,_],[]⟩:Outs)=_;rw [sf];rfl
  ·rw [b3c hn (show (((p.1,g,p.2):Arr×List Int×Int).2.2 == 0)=false from he)];refine a0k he ?_;have hw:=f3d x p.1 p.2 hn (by omega) (by omega) hj ht k (by omega);exact a0k ((congrArg (· == 1) c0).trans o1) hw
 refine a0k ((congrArg (· == 4) c0).trans o4) ?_;have hLA4:cmd.Op≠4:=by simpa using o4
 obtain ⟨b0,b1,b2,b5⟩:=hsc hLA4;have hLA:W64 ((at_ (a0q x.Jobs) n 2).asI+(at_ (a0q x.Jobs) n 5).asI)=cmd.Lba+t:=by rw [c2,c5,a0e (by omega) (by omega)]
 rcases Bool.eq_false_or_eq_true (cmd.Op == 5) with o5 | o5
 ·have p5:cmd.Op=5:=by simpa using o5
  have hv2:=h0f hc p5;have ht0:t=0:=by have:=b5 p5;omega
  have hj5:a4w x.A ⟨cmd,t,g,d⟩=(bif (a1r x.A cmd.Lba).2 != 0 then (x.A,g,(a1r x.A cmd.Lba).2) else bif (a1r x.A cmd.Lba).1 != cmd.Vals.getD 0 0 then (x.A,g,4) else ((a0u x.A cmd.Lba (cmd.Vals.getD 1 0)).1,g,(a0u x.A cmd.Lba (cmd.Vals.getD 1 0)).2)):=by
   unfold a4w;refine a0k o1 (a0k o4 (a0o o5 ?_));rw [show cmd.Lba+t=cmd.Lba by omega]
  refine a0o ((congrArg (· == 5) c0).trans o5) ?_;refine a1e ((congrArg (fun q=>a0a E P0 k N.j3a [.v x.A.e,.v [.i q]]) c2).trans (f4l x.A hA hf cmd.Lba k (by omega))) ?_;generalize a1r x.A cmd.Lba=r at hj5 ⊢;have w0:(at_ (at_ (a0q x.Jobs) n 4).asR 0 0).asI=cmd.Vals.getD 0 0:=by rw [c4,a6a (by omega)]
  have w1:(at_ (at_ (a0q x.Jobs) n 4).asR 1 0).asI=cmd.Vals.getD 1 0:=by rw [c4,a6a (by omega)]
  rcases Bool.eq_false_or_eq_true (r.2 != 0) with hr | hr
  ·rw [show a4w x.A ⟨cmd,t,g,d⟩=(x.A,g,r.2) by rw [hj5];exact a0o hr rfl];exact a0o hr (g7r x hn hx hj ht r.2 k (by omega))
  refine a0k hr ((a0g (show decide ((0:Int)<((at_ (a0q x.Jobs) n 4).asR.length:Int))=true by rw [c4,List.length_map,hv2];rfl) _).trans ?_);rcases Bool.eq_false_or_eq_true (r.1 != cmd.Vals.getD 0 0) with hq | hq
  ·rw [show a4w x.A ⟨cmd,t,g,d⟩=(x.A,g,4) by rw [hj5];exact a0k hr (a0o hq rfl)];exact a0o ((congrArg (r.1 != ·) w0).trans hq) (g7r x hn hx hj ht 4 k (by omega))
  rw [show a4w x.A ⟨cmd,t,g,d⟩=((a0u x.A cmd.Lba (cmd.Vals.getD 1 0)).1,g,(a0u x.A cmd.Lba (cmd.Vals.getD 1 0)).2) by rw [hj5];exact a0k hr (a0k hq rfl)];refine a0k ((congrArg (r.1 != ·) w0).trans hq) ((a0g (show decide ((1:Int)<((at_ (a0q x.Jobs) n 4).asR.length:Int))=true by rw [c4,List.length_map,hv2];rfl) _).trans ?_);refine a1e ((congrArg (fun q=>a0a E P0 k N.j2a [.v x.A.e,.v [.i q],.v [.i (at_ (at_ (a0q x.Jobs) n 4).asR 1 0).asI]]) c2).trans ((congrArg (fun v=>a0a E P0 k N.j2a [.v x.A.e,.v [.i cmd.Lba],.v [.i v]]) w1).trans (d6z x.A cmd.Lba (cmd.Vals.getD 1 0) (by omega) hf k (by omega)))) ?_;have hpw:=b0u x.A cmd.Lba (cmd.Vals.getD 1 0);generalize a0u x.A cmd.Lba (cmd.Vals.getD 1 0)=p at hpw ⊢;exact g0s x hn hx hj ht p.1 p.2 (by omega) k (by omega)
 refine a0k ((congrArg (· == 5) c0).trans o5) ?_;rcases Bool.eq_false_or_eq_true (cmd.Op == 6) with o6 | o6
 ·rw [show a4w x.A ⟨cmd,t,g,d⟩=((a0u x.A (cmd.Lba+t) 0).1,g,(a0u x.A (cmd.Lba+t) 0).2) by unfold a4w;exact a0k o1 (a0k o4 (a0k o5 (a0o o6 rfl)))];refine a0o ((congrArg (· == 6) c0).trans o6) ?_;refine a1e ((congrArg (fun q=>a0a E P0 k N.j2a [.v x.A.e,.v [.i q],.v [.i 0]]) hLA).trans ((congrArg (fun v=>a0a E P0 k N.j2a [.v x.A.e,.v [.i (cmd.Lba+t)],.v [.i v]]) rfl).trans (d6z x.A (cmd.Lba+t) 0 (by omega) hf k (by omega)))) ?_;have hpw:=b0u x.A (cmd.Lba+t) 0;generalize a0u x.A (cmd.Lba+t) 0=p at hpw ⊢;exact g0s x hn hx hj ht p.1 p.2 (by omega) k (by omega)
 refine a0k ((congrArg (· == 6) c0).trans o6) ?_;have hcond:decide ((at_ (a0q x.Jobs) n 5).asI<((at_ (a0q x.Jobs) n 4).asR.length:Int))=decide (t<(cmd.Vals.length:Int)):=by rw [c4,c5,List.length_map]
 rcases Bool.eq_false_or_eq_true (decide (t<(cmd.Vals.length:Int))) with hl | hl
 ·have htl:=of_decide_eq_true hl;have hv:(at_ (at_ (a0q x.Jobs) n 4).asR (at_ (a0q x.Jobs) n 5).asI.toNat 0).asI=cmd.Vals.getD t.toNat 0:=by rw [c4,c5,a6a (by omega)]
  have hck:(decide (0≤(at_ (a0q x.Jobs) n 5).asI)&&decide ((at_ (a0q x.Jobs) n 5).asI<((at_ (a0q x.Jobs) n 4).asR.length:Int)))=true:=by rw [c4,c5,List.length_map];simp;omega
  rw [show a4w x.A ⟨cmd,t,g,d⟩=((a0u x.A (cmd.Lba+t) (cmd.Vals.getD t.toNat 0)).1,g,(a0u x.A (cmd.Lba+t) (cmd.Vals.getD t.toNat 0)).2) by unfold a4w;exact a0k o1 (a0k o4 (a0k o5 (a0k o6 (a0o hl rfl))))];refine a0o (hcond.trans hl) ((a0g hck _).trans ?_);refine a1e ((congrArg (fun q=>a0a E P0 k N.j2a [.v x.A.e,.v [.i q],.v [.i (at_ (at_ (a0q x.Jobs) n 4).asR (at_ (a0q x.Jobs) n 5).asI.toNat 0).asI]]) hLA).trans ((congrArg (fun v=>a0a E P0 k N.j2a [.v x.A.e,.v [.i (cmd.Lba+t)],.v [.i v]]) hv).trans (d6z x.A (cmd.Lba+t) (cmd.Vals.getD t.toNat 0) (by omega) hf k (by omega)))) ?_;have hpw:=b0u x.A (cmd.Lba+t) (cmd.Vals.getD t.toNat 0);generalize a0u x.A (cmd.Lba+t) (cmd.Vals.getD t.toNat 0)=p at hpw ⊢;exact g0s x hn hx hj ht p.1 p.2 (by omega) k (by omega)
 ·have htl:=of_decide_eq_false hl;have hsb:=b0t x.A.G cmd.Lba;have hfa:W64 ((W64 (a0n x.A.G cmd.Lba+(at_ (a0q x.Jobs) n 5).asI)) - ((at_ (a0q x.Jobs) n 4).asR.length:Int))=a0n x.A.G cmd.Lba+t - cmd.Vals.length:=by
   rw [c4,c5,List.length_map,a0e (n:=a0n x.A.G cmd.Lba+t) (by omega) (by omega),a0e (by omega) (by omega)]
  rw [show a4w x.A ⟨cmd,t,g,d⟩=((a0s x.A (a0n x.A.G cmd.Lba+t - cmd.Vals.length)).1,g,(a0s x.A (a0n x.A.G cmd.Lba+t - cmd.Vals.length)).2) by unfold a4w;exact a0k o1 (a0k o4 (a0k o5 (a0k o6 (a0k hl rfl))))];refine a0k (hcond.trans hl) ?_;refine a1e ((congrArg (fun q=>a0a E P0 k N.j2o [.v x.A.G.e,.v [.i q]]) c2).trans (c1o x.A.G cmd.Lba k (by omega))) ?_;refine a1e ((congrArg (fun q=>a0a E P0 k N.j3b [.v x.A.e,.v [.i q]]) hfa).trans (d5g x.A (a0n x.A.G cmd.Lba+t - cmd.Vals.length) (by omega) hf k (by omega))) ?_;have hpw:=b3a x.A (a0n x.A.G cmd.Lba+t - cmd.Vals.length);generalize a0s x.A (a0n x.A.G cmd.Lba+t - cmd.Vals.length)=p at hpw ⊢;refine (a0g hix _).trans ((a0g (Nat.beq_refl _) _).trans ?_);rcases Bool.eq_false_or_eq_true (p.2 == 0) with he | he
  ·rw [b0j (show ((p.1,g,p.2):Arr×List Int×Int).2.2 == 0 from he)];refine a0o he ?_;show some (⟨[_,_,_,_,_,_,_,_,_,_,_,_,_,_,.r (scE (a0q x.Jobs) n p.2),_,_,_],[]⟩:Outs)=_;rw [sf];rfl
  ·rw [b3c hn (show (((p.1,g,p.2):Arr×List Int×Int).2.2 == 0)=false from he)];refine a0k he ?_;have hw:=e8z x p.1 p.2 hn (by omega) (by omega) hj ht k (by omega);exact a0k ((congrArg (· == 1) c0).trans o1) hw
theorem i1s (x:Eng) {n:Nat} (hn:n<x.Jobs.length) (hx:x.w≤1073741000) {cmd:Cmd} {t:Int} {g:List Int} {d:Int} (hj:x.Jobs[n]=⟨cmd,t,g,d⟩) (ht:0≤t∧t≤40) (k:Nat) (hk:Big+4≤k):a7t k (n:Int) ⟨x.e,[]⟩ false=some ⟨(a6z x n ⟨cmd,t,g,d⟩).e++[.b true],[]⟩:=by
 have hB:Big=4294967296:=rfl;obtain ⟨l1,l2,l3,l4,hA⟩:=a3b x (show x.w≤Big by omega);have hL:=b5x hn hj;have hw1:W64 (t+1)=t+1:=a0e (by omega) (by omega);obtain ⟨c0,c2,c4,c5,c6,c7,cC⟩:=d9t hn hj;have e0:x.w=x.A.w+wL Cmd.w x.Wait+wL Job.w x.Jobs+wL Ans.w x.Done+wL Turn.w x.Log:=rfl;unfold a7t;refine a0k rfl ?_;have hwf:=e1p x x.A 0 hn (by omega) (by omega) hj ht k (by omega);rcases (Bool.eq_false_or_eq_true (cmd.Op == 1)).symm with o1 | o1
 ·have ho:a6z x n ⟨cmd,t,g,d⟩=answer { x with Jobs:=del x.Jobs n } cmd ⟨cmd.Id,d,[]⟩:=by
   unfold a6z;rw [show ((⟨cmd,t,g,d⟩:Job).C.Op == 1)=false from o1];rfl
  rw [ho];exact a0k ((congrArg (· == 1) c0).trans o1) hwf
 ·refine a0o ((congrArg (· == 1) c0).trans o1) ?_;show a5y k (n:Int) ⟨x.e,[]⟩ ((at_ (a0q x.Jobs) n 7).asI == 0)=_;rw [c7];rcases (Bool.eq_false_or_eq_true (d == 0)).symm with od | od
  ·have ho:a6z x n ⟨cmd,t,g,d⟩=answer { x with Jobs:=del x.Jobs n } cmd ⟨cmd.Id,d,[]⟩:=by
    unfold a6z;rw [show ((⟨cmd,t,g,d⟩:Job).Code == 0)=false from od,Bool.and_false];rfl
   rw [ho,od];exact hwf
  ·have ho:a6z x n ⟨cmd,t,g,d⟩=answer { x with Jobs:=del x.Jobs n } cmd ⟨cmd.Id,d,g⟩:=by
    unfold a6z;rw [show ((⟨cmd,t,g,d⟩:Job).Code == 0)=true from od,show ((⟨cmd,t,g,d⟩:Job).C.Op == 1)=true from o1];rfl
   rw [ho,od];exact e1q x x.A 0 hn (by omega) (by omega) hj ht k (by omega)
theorem i1t (x:Eng) {n:Nat} (hn:n<x.Jobs.length) (hx:x.w≤1073741000) {cmd:Cmd} {t:Int} {g:List Int} {d:Int} (hj:x.Jobs[n]=⟨cmd,t,g,d⟩) (ht:0≤t∧t≤40) (k:Nat) (hk:Big+4≤k):a7j k (n:Int) ⟨x.e,[]⟩ false=some ⟨(a6z x n ⟨cmd,t,g,d⟩).e++[.b true],[]⟩:=by
 have hB:Big=4294967296:=rfl;obtain ⟨l1,l2,l3,l4,hA⟩:=a3b x (show x.w≤Big by omega);have hL:=b5x hn hj;have hw1:W64 (t+1)=t+1:=a0e (by omega) (by omega);obtain ⟨c0,c2,c4,c5,c6,c7,cC⟩:=d9t hn hj;have e0:x.w=x.A.w+wL Cmd.w x.Wait+wL Job.w x.Jobs+wL Ans.w x.Done+wL Turn.w x.Log:=rfl;unfold a7j;refine a0k rfl ?_;have hwf:=e1r x x.A 0 hn (by omega) (by omega) hj ht k (by omega);rcases (Bool.eq_false_or_eq_true (cmd.Op == 1)).symm with o1 | o1
 ·have ho:a6z x n ⟨cmd,t,g,d⟩=answer { x with Jobs:=del x.Jobs n } cmd ⟨cmd.Id,d,[]⟩:=by
   unfold a6z;rw [show ((⟨cmd,t,g,d⟩:Job).C.Op == 1)=false from o1];rfl
  rw [ho];exact a0k ((congrArg (· == 1) c0).trans o1) hwf
 ·refine a0o ((congrArg (· == 1) c0).trans o1) ?_;show a5v k (n:Int) ⟨x.e,[]⟩ ((at_ (a0q x.Jobs) n 7).asI == 0)=_;rw [c7];rcases (Bool.eq_false_or_eq_true (d == 0)).symm with od | od
  ·have ho:a6z x n ⟨cmd,t,g,d⟩=answer { x with Jobs:=del x.Jobs n } cmd ⟨cmd.Id,d,[]⟩:=by
    unfold a6z;rw [show ((⟨cmd,t,g,d⟩:Job).Code == 0)=false from od,Bool.and_false];rfl
   rw [ho,od];exact hwf
  ·have ho:a6z x n ⟨cmd,t,g,d⟩=answer { x with Jobs:=del x.Jobs n } cmd ⟨cmd.Id,d,g⟩:=by
    unfold a6z;rw [show ((⟨cmd,t,g,d⟩:Job).Code == 0)=true from od,show ((⟨cmd,t,g,d⟩:Job).C.Op == 1)=true from o1];rfl
   rw [ho,od];exact e1s x x.A 0 hn (by omega) (by omega) hj ht k (by omega)
theorem i3f {x:Eng} (h:c4g x=true):x.Log.length≤400:=by
 unfold c4g few at h;simp only [Bool.and_eq_true,decide_eq_true_eq] at h;exact h.2.2.1.2.2.2
theorem h7x {g:Geo} {c:Cmd} (hw:c.w≤Big):0≤a2v g c∧a2v g c≤100:=by
 unfold a2v;cases h:(a2q g c == 0)
 ·exact ⟨Int.le_refl _,show (0:Int)≤100 by omega⟩
 ·have h0:a2q g c=0:=by simpa using h
  obtain ⟨hg,hs,_⟩:=a7z h0;obtain ⟨_,_,_,_⟩:=a1l hg;have:=d6v hs hw;have h1:=b0t g (c.Lba+a2x c - 1);have h2:=b0t g c.Lba;cases h4:(c.Op == 4)
  ·cases h3:(c.Op == 3)
   ·show 0≤a2x c+1∧a2x c+1≤100;omega
   ·obtain ⟨e,e1,e2,e3,e4⟩:=e7x h0 (by simpa using h4) hw;have hp:=h6s g c hw;rw [h] at hp;have hq:a2v g c > 0:=by simpa using hp
    have he:a2v g c=a2x c+a0n g (c.Lba+a2x c - 1) - a0n g c.Lba+2:=by unfold a2v;rw [h,h4,h3];rfl
    show 0≤a2x c+a0n g (c.Lba+a2x c - 1) - a0n g c.Lba+2∧a2x c+a0n g (c.Lba+a2x c - 1) - a0n g c.Lba+2≤100;omega
  ·show 0≤g.S+1∧g.S+1≤100;omega
theorem i8s (x:Eng) (q:Int) (hx:x.w≤1073741000) (hf:c7t x.A):Rn 17 N.j9b [.v x.e,.v [.i q]] ⟨(c3l x q).1.e++[.b (c3l x q).2],[]⟩:=by
 refine Rn.of fun k hk=>?_;have hB:Big=4294967296:=rfl;obtain ⟨l1,l2,l3,l4,hA⟩:=a3b x (show x.w≤Big by omega);rw [g6r];unfold e6s;refine a1e (g4r x (by omega) k (by omega)) (a1e (i5q x (by omega) hf k (by omega)) ?_);have no:(c4g x&&(a0m q 0 ((x.Jobs.length:Int) - 1)&&decide (x.Log.length<400)))=false→a7u k x.A.G.N x.A.G.S q ⟨x.e,[]⟩ true=some ⟨(c3l x q).1.e++[.b (c3l x q).2],[]⟩:=fun h=>by
  rw [show c3l x q=(x,false) by unfold c3l;rw [h];rfl];rfl
 rcases (Bool.eq_false_or_eq_true (c4g x)).symm with ho | ho
 ·exact a0o (show (!(c4g x))=true by rw [ho];rfl) (no (by rw [ho];rfl))
 refine a0k (show (!(c4g x))=false by rw [ho];rfl) ?_;rw [List.length_map,a0e (n:=(x.Jobs.length:Int) - 1) (by omega) (by omega)];refine a1e (a1q _ _ _ k (by omega)) ?_;rcases (Bool.eq_false_or_eq_true (a0m q 0 ((x.Jobs.length:Int) - 1))).symm with hq | hq
 ·exact a0o (show (!(a0m q 0 ((x.Jobs.length:Int) - 1)))=true by rw [hq];rfl) (no (by rw [hq];simp))
 refine a0k (show (!(a0m q 0 ((x.Jobs.length:Int) - 1)))=false by rw [hq];rfl) ?_;have hqb:=a0y hq;have hlog:=i3f ho;by_cases h400:x.Log.length<400
 case neg=>
  show a7u k x.A.G.N x.A.G.S q ⟨x.e,[]⟩ (((a3z x.Log).length:Int) == 400)=_;rw [show (((a3z x.Log).length:Int) == 400)=true by rw [List.length_map];simp;omega];exact no (by rw [decide_eq_false h400];simp)
 show a7u k x.A.G.N x.A.G.S q ⟨x.e,[]⟩ (((a3z x.Log).length:Int) == 400)=_;rw [show (((a3z x.Log).length:Int) == 400)=false by rw [List.length_map];simp;omega];obtain ⟨n,rfl⟩:∃ n:Nat,q=(n:Int):=⟨q.toNat,by omega⟩;have hn:n<x.Jobs.length:=by omega
 have hw:c3l x (n:Int)=(b3b x n,true):=by unfold c3l;rw [ho,hq,decide_eq_true h400];rfl
 rw [hw];obtain ⟨jk,_⟩:=e8x ho hn;obtain ⟨hc,ht0,ht1,hg6⟩:=g7m jk;have hja:c1p x n=x.Jobs[n]:=a2u hn _;obtain ⟨cmd,t,g,d,hj⟩:∃ cmd t g d,x.Jobs[n]=⟨cmd,t,g,d⟩:=⟨_,_,_,_,rfl⟩;rw [hj] at hc ht0 ht1 hg6 hja;simp only at hc ht0 ht1 hg6;obtain ⟨vl,gl⟩:=h0e hn hj;have hcw:cmd.w≤Big:=by have:cmd.w=cmd.Vals.length:=rfl;omega
 obtain ⟨c0,c2,c4,c5,c6,c7,cC⟩:=d9t hn hj;have hst:=h7x (g:=x.A.G) hcw;unfold a7u;refine a0k rfl ?_;refine (a0g (show (decide (0≤(n:Int))&&decide ((n:Int)<((a0q x.Jobs).length:Int)))=true by rw [List.length_map,dlt hn];simp) _).trans ?_;refine (a0g (show Nat.blt n (a0q x.Jobs).length=true by rw [List.length_map];exact Nat.ble_eq_true_of_le hn) _).trans ((a0g (Nat.beq_refl _) _).trans ?_);refine a1e ((congrArg (fun c=>a0a E P0 k N.j5e [.v x.A.G.e,.v c]) cC).trans (h6c x.A.G cmd hcw k (by omega))) ?_;have hcond:decide ((at_ (a0q x.Jobs) n 5).asI<W64 (a2v x.A.G cmd - 1))=decide (t<a2v x.A.G cmd - 1):=by rw [c5,a0e (by omega) (by omega)]
 have hout:=i1s x hn hx hj ⟨ht0,ht1⟩ k (by omega);have hA0:(decide ((c1p x n).At<a2v x.A.G (c1p x n).C - 1)&&((c1p x n).Code == 0))=(decide (t<a2v x.A.G cmd - 1)&&(d == 0)):=by rw [hja]
 rcases (Bool.eq_false_or_eq_true (decide (t<a2v x.A.G cmd - 1))).symm with hts | hts
 ·refine a0k (hcond.trans hts) ?_;rw [show b3b x n=a6z x n ⟨cmd,t,g,d⟩ by unfold b3b;rw [← hja];exact a0k (by rw [hA0,hts];rfl) rfl];exact hout
 refine a0o (hcond.trans hts) ?_;show a7t k (n:Int) ⟨x.e,[]⟩ ((at_ (a0q x.Jobs) n 7).asI == 0)=_;rw [c7];rcases (Bool.eq_false_or_eq_true (d == 0)).symm with hd | hd
 ·rw [show b3b x n=a6z x n ⟨cmd,t,g,d⟩ by unfold b3b;rw [← hja];exact a0k (by rw [hA0,hts,hd];rfl) rfl,hd];exact hout
 ·rw [show b3b x n=b5l x n ⟨cmd,t,g,d⟩ (a4w x.A ⟨cmd,t,g,d⟩) by unfold b3b;rw [← hja];exact a0o (by rw [hA0,hts,hd];rfl) rfl,hd];exact i6e x hn hx hj ⟨ht0,ht1⟩ hf hc (of_decide_eq_true hts) hg6 k (by omega)
theorem i8t (x:Eng) (q:Int) (hx:x.w≤1073741000) (hf:c7t x.A):Rn 17 N.j7y [.v x.e,.v [.i q]] ⟨(c3l x q).1.e++[.b (c3l x q).2],[]⟩:=by
 refine Rn.of fun k hk=>?_;have hB:Big=4294967296:=rfl;obtain ⟨l1,l2,l3,l4,hA⟩:=a3b x (show x.w≤Big by omega);rw [g6q];unfold e5o;refine a1e (g4s x (by omega) k (by omega)) (a1e (i5r x (by omega) hf k (by omega)) ?_);have no:(c4g x&&(a0m q 0 ((x.Jobs.length:Int) - 1)&&decide (x.Log.length<400)))=false→a7k k q ⟨x.e,[]⟩ true=some ⟨(c3l x q).1.e++[.b (c3l x q).2],[]⟩:=fun h=>by
  rw [show c3l x q=(x,false) by unfold c3l;rw [h];rfl];rfl
 rcases (Bool.eq_false_or_eq_true (c4g x)).symm with ho | ho
 ·exact a0o (show (!(c4g x))=true by rw [ho];rfl) (no (by rw [ho];rfl))
 refine a0k (show (!(c4g x))=false by rw [ho];rfl) ?_;rw [List.length_map,a0e (n:=(x.Jobs.length:Int) - 1) (by omega) (by omega)];refine a1e (a1a _ _ _ k (by omega)) ?_;rcases (Bool.eq_false_or_eq_true (a0m q 0 ((x.Jobs.length:Int) - 1))).symm with hq | hq
 ·exact a0o (show (!(a0m q 0 ((x.Jobs.length:Int) - 1)))=true by rw [hq];rfl) (no (by rw [hq];simp))
 refine a0k (show (!(a0m q 0 ((x.Jobs.length:Int) - 1)))=false by rw [hq];rfl) ?_;have hqb:=a0y hq;have hlog:=i3f ho;by_cases h400:x.Log.length<400
 case neg=>
  show a7k k q ⟨x.e,[]⟩ (decide (((a3z x.Log).length:Int)≥400))=_;rw [show (decide (((a3z x.Log).length:Int)≥400))=true by rw [List.length_map];simp;omega];exact no (by rw [decide_eq_false h400];simp)
 show a7k k q ⟨x.e,[]⟩ (decide (((a3z x.Log).length:Int)≥400))=_;rw [show (decide (((a3z x.Log).length:Int)≥400))=false by rw [List.length_map];simp;omega];obtain ⟨n,rfl⟩:∃ n:Nat,q=(n:Int):=⟨q.toNat,by omega⟩;have hn:n<x.Jobs.length:=by omega
 have hw:c3l x (n:Int)=(b3b x n,true):=by unfold c3l;rw [ho,hq,decide_eq_true h400];rfl
 rw [hw];obtain ⟨jk,_⟩:=e8x ho hn;obtain ⟨hc,ht0,ht1,hg6⟩:=g7m jk;have hja:c1p x n=x.Jobs[n]:=a2u hn _;obtain ⟨cmd,t,g,d,hj⟩:∃ cmd t g d,x.Jobs[n]=⟨cmd,t,g,d⟩:=⟨_,_,_,_,rfl⟩;rw [hj] at hc ht0 ht1 hg6 hja;simp only at hc ht0 ht1 hg6;obtain ⟨vl,gl⟩:=h0e hn hj;have hcw:cmd.w≤Big:=by have:cmd.w=cmd.Vals.length:=rfl;omega
 obtain ⟨c0,c2,c4,c5,c6,c7,cC⟩:=d9t hn hj;have hst:=h7x (g:=x.A.G) hcw;unfold a7k;refine a0k rfl ?_;refine (a0g (show (decide (0≤(n:Int))&&decide ((n:Int)<((a0q x.Jobs).length:Int)))=true by rw [List.length_map,dlt hn];simp) _).trans ?_;refine a1e ((congrArg (fun c=>a0a E P0 k N.j4k [.v x.A.G.e,.v c]) cC).trans (h6b x.A.G cmd hcw k (by omega))) ?_;have hcond:decide ((at_ (a0q x.Jobs) n 5).asI<W64 (a2v x.A.G cmd - 1))=decide (t<a2v x.A.G cmd - 1):=by rw [c5,a0e (by omega) (by omega)]
 have hout:=i1t x hn hx hj ⟨ht0,ht1⟩ k (by omega);have hA0:(decide ((c1p x n).At<a2v x.A.G (c1p x n).C - 1)&&((c1p x n).Code == 0))=(decide (t<a2v x.A.G cmd - 1)&&(d == 0)):=by rw [hja]
 rcases (Bool.eq_false_or_eq_true (decide (t<a2v x.A.G cmd - 1))).symm with hts | hts
 ·refine a0k (hcond.trans hts) ?_;rw [show b3b x n=a6z x n ⟨cmd,t,g,d⟩ by unfold b3b;rw [← hja];exact a0k (by rw [hA0,hts];rfl) rfl];exact hout
 refine a0o (hcond.trans hts) ?_;show a7j k (n:Int) ⟨x.e,[]⟩ ((at_ (a0q x.Jobs) n 7).asI == 0)=_;rw [c7];rcases (Bool.eq_false_or_eq_true (d == 0)).symm with hd | hd
 ·rw [show b3b x n=a6z x n ⟨cmd,t,g,d⟩ by unfold b3b;rw [← hja];exact a0k (by rw [hA0,hts,hd];rfl) rfl,hd];exact hout
 ·rw [show b3b x n=b5l x n ⟨cmd,t,g,d⟩ (a4w x.A ⟨cmd,t,g,d⟩) by unfold b3b;rw [← hja];exact a0o (by rw [hA0,hts,hd];rfl) rfl,hd];exact i6f x hn hx hj ⟨ht0,ht1⟩ hf hc (of_decide_eq_true hts) hg6 k (by omega)
def g5f:Nat→Eng→Eng
 | 0,x=>x
 | n+1,x=>bif decide (0<x.Jobs.length) then (bif (c3l x 0).2 then g5f n (c3l x 0).1 else x) else x
def d1d (x:Eng) (n:Int):Eng:=bif a0m n 0 1000 then g5f n.toNat x else x
theorem h7y:∀ (n:Nat) (x:Eng),(g5f n x).w≤x.w+n*120
 | 0,x=>Nat.le_add_right _ _
 | n+1,x=>by
  unfold g5f;cases decide (0<x.Jobs.length)
  ·exact Nat.le_add_right _ _
  ·cases (c3l x 0).2
   ·exact Nat.le_add_right _ _
   ·have h1:=i3e x 0;have h2:=h7y n (c3l x 0).1;show (g5f n (c3l x 0).1).w≤_;rw [Nat.succ_mul];omega
theorem h7z (x:Eng) (n:Int):(d1d x n).w≤x.w+120000:=by
 unfold d1d;cases h:a0m n 0 1000
 ·exact Nat.le_add_right _ _
 ·have h1:=a0y h;have h2:=h7y n.toNat x;show (g5f n.toNat x).w≤_;omega
abbrev Eng.st (i:Int) (x:Eng):Int×Int×Int×Int×Int×Int×Int×Int×Int×Int×Bool×Bool×List (List T)×List (List T)×List (List T)×List (List T)×List (List T)×List (List T):=
 (i,x.A.Id,x.A.G.N,x.A.G.S,x.A.Lost,x.A.Built,x.A.Seq,x.A.Tail,x.A.Gen,x.A.Fuse,x.A.Down,x.A.Broken,a2i x.A.Mems,a1c x.A.Dirty,d0r x.Wait,a0q x.Jobs,b5f x.Done,a3z x.Log)
theorem c7y {b:(Int×Int×Int×Int×Int×Int×Int×Int×Int×Int×Bool×Bool×List (List T)×List (List T)×List (List T)×List (List T)×List (List T)×List (List T)→Option Outs)→Int×Int×Int×Int×Int×Int×Int×Int×Int×Int×Bool×Bool×List (List T)×List (List T)×List (List T)×List (List T)×List (List T)×List (List T)→Option Outs} {n W:Nat}
  (hs:∀ (i:Nat) (x:Eng) G,i<n→x.w≤W+i*120→c7t x.A→b G (x.st i)=bif decide (0<x.Jobs.length) then (bif (c3l x 0).2 then G ((c3l x 0).1.st ((i+1:Nat):Int)) else some ⟨x.e,[]⟩) else some ⟨x.e,[]⟩)
  (he:∀ (x:Eng) G,b G (x.st n)=some ⟨x.e,[]⟩):∀ (d i j:Nat) (x:Eng),i+d=n→d<j→x.w≤W+i*120→c7t x.A→a1k b j (x.st i)=some ⟨(g5f d x).e,[]⟩
 | 0,i,j,x,hi,hj,_,_=>by
  obtain ⟨j,rfl⟩:∃ q,j=q+1:=⟨j - 1,by omega⟩;have:i=n:=by omega
  subst this;exact he x _
 | d+1,i,j,x,hi,hj,hw,hf=>by
  obtain ⟨j,rfl⟩:∃ q,j=q+1:=⟨j - 1,by omega⟩;rw [a1k,hs i x _ (by omega) hw hf];unfold g5f;cases decide (0<x.Jobs.length)
  ·rfl
  ·cases (c3l x 0).2
   ·rfl
   ·have h1:=i3e x 0;exact c7y hs he d (i+1) j (c3l x 0).1 (by omega) (by omega) (by rw [Nat.succ_mul];omega) (h7m 0 hf)
theorem h8a (x:Eng) (n:Int) (hx:x.w≤1073000000) (hf:c7t x.A):Rn 18 N.j5t [.v x.e,.v [.i n]] ⟨(d1d x n).e,[]⟩:=by
 refine Rn.of fun k hk=>?_;have hB:Big=4294967296:=rfl;rw [f2a];unfold c9q c0o;refine a1e (g4r x (by omega) k (by omega)) ?_;unfold d1d;have J0:∀ (i:Nat) (x:Eng) G,a7v k x.A.Down x.A.Broken (i:Int) x.A.Id x.A.G.N x.A.G.S x.A.Lost x.A.Built x.A.Seq x.A.Tail x.A.Gen x.A.Fuse (a2i x.A.Mems) (a1c x.A.Dirty) (d0r x.Wait) (a0q x.Jobs) (b5f x.Done) (a3z x.Log) G false=some ⟨x.e,[]⟩:=fun i x G=>rfl;have J:∀ (i:Nat) (x:Eng) G,x.w≤1073741000→c7t x.A→i≤1000→a7v k x.A.Down x.A.Broken (i:Int) x.A.Id x.A.G.N x.A.G.S x.A.Lost x.A.Built x.A.Seq x.A.Tail x.A.Gen x.A.Fuse (a2i x.A.Mems) (a1c x.A.Dirty) (d0r x.Wait) (a0q x.Jobs) (b5f x.Done) (a3z x.Log) G (decide (((a0q x.Jobs).length:Int) > 0))=bif decide (0<x.Jobs.length) then (bif (c3l x 0).2 then G ((c3l x 0).1.st ((i+1:Nat):Int)) else some ⟨x.e,[]⟩) else some ⟨x.e,[]⟩:=by
  intro i x G hw hf hi;rw [show decide (((a0q x.Jobs).length:Int) > 0)=decide (0<x.Jobs.length) by rw [List.length_map,decide_eq_decide];omega];unfold a7v;cases decide (0<x.Jobs.length)
  ·rfl
  refine a0o rfl (a1e (i8s x 0 hw hf k (by omega)) ?_);rcases (Bool.eq_false_or_eq_true (c3l x 0).2).symm with h | h
  ·rw [h];exact a0o rfl rfl
  ·rw [h];refine a0k rfl ?_;show G ((c3l x 0).1.st (W64 ((i:Int)+1)))=G ((c3l x 0).1.st ((i+1:Nat):Int));rw [a1p (by omega)]
 refine a1e (a1q _ _ _ k (by omega)) ?_;rcases (Bool.eq_false_or_eq_true (a0m n 0 1000)).symm with hn | hn
 ·rw [hn];exact a0o rfl rfl
 rw [hn];refine a0k rfl ?_;have hnb:=a0y hn;obtain ⟨m,rfl⟩:∃ m:Nat,n=(m:Int):=⟨n.toNat,by omega⟩;rw [Int.toNat_natCast];refine (c7y (b:=a7w k (m:Int)) (n:=m) (W:=x.w) (fun i y G hi hw hfy=>?_) (fun y G=>?_) m 0 k x (by omega) (by omega) (by omega) hf).trans rfl
 ·have:i*120≤1000*120:=Nat.mul_le_mul_right _ (by omega);unfold a7w;exact a0o (dlt hi) (J i y G (by omega) hfy (by omega))
 ·unfold a7w;exact a0k dll (J0 m y G)
theorem h8b (x:Eng) (n:Int) (hx:x.w≤1073000000) (hf:c7t x.A):Rn 18 N.j7z [.v x.e,.v [.i n]] ⟨(d1d x n).e,[]⟩:=by
 refine Rn.of fun k hk=>?_;have hB:Big=4294967296:=rfl;rw [f1h];unfold c9b c0d;refine a1e (g4s x (by omega) k (by omega)) ?_;unfold d1d;have J0:∀ (i:Nat) (x:Eng) G,a5j k x.A.Down x.A.Broken (i:Int) x.A.Id x.A.G.N x.A.G.S x.A.Lost x.A.Built x.A.Seq x.A.Tail x.A.Gen x.A.Fuse (a2i x.A.Mems) (a1c x.A.Dirty) (d0r x.Wait) (a0q x.Jobs) (b5f x.Done) (a3z x.Log) G false=some ⟨x.e,[]⟩:=fun i x G=>rfl;have J:∀ (i:Nat) (x:Eng) G,x.w≤1073741000→c7t x.A→i≤1000→a5j k x.A.Down x.A.Broken (i:Int) x.A.Id x.A.G.N x.A.G.S x.A.Lost x.A.Built x.A.Seq x.A.Tail x.A.Gen x.A.Fuse (a2i x.A.Mems) (a1c x.A.Dirty) (d0r x.Wait) (a0q x.Jobs) (b5f x.Done) (a3z x.Log) G (decide (((a0q x.Jobs).length:Int) > 0))=bif decide (0<x.Jobs.length) then (bif (c3l x 0).2 then G ((c3l x 0).1.st ((i+1:Nat):Int)) else some ⟨x.e,[]⟩) else some ⟨x.e,[]⟩:=by
  intro i x G hw hf hi;rw [show decide (((a0q x.Jobs).length:Int) > 0)=decide (0<x.Jobs.length) by rw [List.length_map,decide_eq_decide];omega];unfold a5j;cases decide (0<x.Jobs.length)
  ·rfl
  refine a0o rfl (a1e (i8t x 0 hw hf k (by omega)) ?_);rcases (Bool.eq_false_or_eq_true (c3l x 0).2).symm with h | h
  ·rw [h];exact a0o rfl rfl
  ·rw [h];refine a0k rfl ?_;show G ((c3l x 0).1.st (W64 ((i:Int)+1)))=G ((c3l x 0).1.st ((i+1:Nat):Int));rw [a1p (by omega)]
 rcases (Bool.eq_false_or_eq_true (a0m n 0 1000)).symm with hn | hn
 ·rw [hn];have h:=c7y (b:=a4f k n) (n:=0) (W:=x.w) (fun i y G hi hw hfy=>by omega) (fun y G=>by
   unfold a4f;exact a1e (a1a _ _ _ k (by omega)) (a0k hn (J0 0 y G))) 0 0 k x rfl (by omega) (by omega) hf
  exact h
 rw [hn];have hnb:=a0y hn;obtain ⟨m,rfl⟩:∃ m:Nat,n=(m:Int):=⟨n.toNat,by omega⟩;rw [Int.toNat_natCast];refine (c7y (b:=a4f k (m:Int)) (n:=m) (W:=x.w) (fun i y G hi hw hfy=>?_) (fun y G=>?_) m 0 k x (by omega) (by omega) (by omega) hf).trans rfl
 ·have:i*120≤1000*120:=Nat.mul_le_mul_right _ (by omega);unfold a4f;exact a1e (a1a _ _ _ k (by omega)) (a0o hn (a0o (dlt hi) (J i y G (by omega) hfy (by omega))))
 ·unfold a4f;exact a1e (a1a _ _ _ k (by omega)) (a0o hn (a0k dll (J0 m y G)))
theorem FnExactWorkAll_r (x:Eng) (hx:x.Fit) (q:Int) (hq:inI q):Rn 21 N.k0j [.v x.e,.v [.i q]] ⟨[.b true],[]⟩:=by
 refine Rn.of fun k hk=>?_;rw [c6s];unfold b5e;refine a1e (i5i x hx _ (by omega) (by omega) k (by omega)) ?_;by_cases hs:(1048576:Int)<(x.w:Int)
 ·exact a0o (by rw [b5v hs];rfl) rfl
 have s1:=b2t (show (x.w:Int)≤1048576 by omega);refine a0k (by rw [s1];exact decide_eq_false (show ¬ ((1048576:Int) - x.w<0) by omega)) ?_;have hB:Big=4294967296:=rfl;have hw:x.w≤1048576:=by omega
 have t1:=i5j x hw k (by omega);have t3:=h8b x q (by omega) (Eng.seq hx) k (by omega);have t4:=h8a x q (by omega) (Eng.seq hx) k (by omega);have wy:=h7z x q;generalize hy:d1d x q=y at *;have t5:=h5s y (by omega) k (by omega);have t6:=i5k x hw k (by omega);have c1:=Eng.cn_w x hw;have c2:=Eng.cn_w y (W:=2097156) (by omega);have t8:=g4t x 1 (by omega) (by omega) (by omega) k (by omega);have ta:=g4t y 1 (by omega) (by omega) (by omega) k (by omega);have tb:=h6x y 1 (by omega) (by omega) (by omega) k (by omega);refine a1e t1 (a1e t3 (a1e t1 (a1e t4 (a1e t5 (a0k rfl ?_)))));refine a1e t1 (a1e t6 (a0k rfl (a1e t8 ?_)));refine a0k (decide_eq_false (show ¬ ((1+(x.cn:Nat):Int)<0) by omega)) ?_;refine a1e t5 ?_;unfold a6r;have hneg:decide ((1+(y.cn:Nat):Int)<0)=false:=decide_eq_false (by omega);have hne:((1+(y.cn:Nat):Int) != 1+(y.cn:Nat))=false:=by simp
 refine a0k rfl (a1e ta (a1e tb (a0k hneg (a0k hne ?_))));refine a1e t1 (a1e t4 (a1e t5 (a0k rfl ?_)));exact a1e tb (a0k hneg (a0k hne rfl))
end
end Go.Proofs.YtjadnceefhbphaaGreat.Ev
