/- What FnExactWork needs, in plain Lean, part 1. No condition. -/
import Derived.Test.YtkamidjllckpgaaGreatmCqFnExactWork0
namespace Go.Proofs.YtkamidjllckpgaaGreat.Ev
open Go
set_option linter.unusedVariables false
set_option linter.unusedSimpArgs false
set_option maxHeartbeats 1000000
noncomputable section
def a4j (m:Dsk) (n:Int) (s:List Int):Dsk×Bool:=
 bif c7o m&&(!m.Failed&&(b4b m n&&(c8y s&&decide (m.Cache.length<60)))) then ({ m with Cache:=m.Cache++[⟨n,s⟩],Bad:=without n m.Bad },true) else (m,false)
theorem h7j (m:Dsk) (n:Int) (s:List Int):(a4j m n s).1.w≤m.w+s.length+1:=by
 unfold a4j
 cases c7o m&&(!m.Failed&&(b4b m n&&(c8y s&&decide (m.Cache.length<60))))
 ·show m.w≤_;omega
 ·have h1:=f4z n m.Bad
  have e1:(⟨n,s⟩:Wr).w=s.length:=rfl
  show wL List.length m.Secs+wL Wr.w (m.Cache++[⟨n,s⟩])+(without n m.Bad).length≤wL List.length m.Secs+wL Wr.w m.Cache+m.Bad.length+s.length+1
  rw [d1p,a6t,h4n];omega
theorem g6a (m:Dsk) {W:Nat} (h:m.w≤W):m.Secs.length≤W∧m.Cache.length≤W∧m.Bad.length≤W:=by
 have hs:=a1q List.length m.Secs
 have hc:=a1q Wr.w m.Cache
 have e0:m.w=wL List.length m.Secs+wL Wr.w m.Cache+m.Bad.length:=rfl
 omega
theorem h7k (m:Dsk) (n:Int) (s:List Int) (h:m.w≤2147483648) (hs:s.length≤Big):Rn 8 N.k2f [.v m.e,.v [.i n],.v [.r (eIs s)]] ⟨(a4j m n s).1.e++[.b (a4j m n s).2],[]⟩:=by
 refine Rn.of fun k hk=>?_
 have hB:Big=4294967296:=rfl
 obtain ⟨l1,l2,l3⟩:=g6a m h
 rw [f3b];unfold d0x
 refine a1h (f4v m (by omega) k (by omega)) ?_
 refine a1h (g5q m (by omega) k (by omega)) ?_
 unfold a4j
 cases hm:c7o m
 ·rfl
 refine a0m rfl ?_
 rcases Bool.eq_false_or_eq_true m.Failed with hf | hf
 ·refine a0p hf ?_
  rw [hf];rfl
 refine a0m hf ?_
 refine a1h (e8n m n (by omega) k (by omega)) ?_
 cases hh:b4b m n
 ·rw [hf];rfl
 refine a0m rfl ?_
 refine a1h (h2o s hs k (by omega)) ?_
 cases ho:c8y s
 ·rw [hf];rfl
 refine a0m rfl ?_
 have hc60:m.Cache.length≤60:=by
  unfold c7o at hm
  simp only [Bool.and_eq_true,decide_eq_true_eq] at hm
  exact hm.2.2.2.2
 unfold a4n
 by_cases h60:m.Cache.length<60
 ·refine a0m (show (((List.map Wr.e m.Cache).length:Int) == 60)=false by simp;omega) ?_
  refine a1h (a3m s hs k (by omega)) ?_
  refine (a0g (by simp;omega) _).trans ?_
  refine a1h (i2g m.Bad (by omega) n k (by omega)) ?_
  rw [decide_eq_true h60]
  have e1:e0r (m.Cache++[⟨n,s⟩])=e0r m.Cache++[(⟨n,s⟩:Wr).e]:=by rw [e0r,e0r,List.map_append];rfl
  show some (⟨[.r (d2i m.Secs),.r (e0r m.Cache++[(⟨n,s⟩:Wr).e]),.b m.Failed,.r (eIs (without n m.Bad)),.b true],[]⟩:Outs)=_
  rw [hf,← e1];rfl
 ·refine a0p (show (((List.map Wr.e m.Cache).length:Int) == 60)=true by simp;omega) ?_
  rw [decide_eq_false h60]
  rw [hf];rfl
theorem h7l (m:Dsk) (n:Int) (s:List Int) (h:m.w≤2147483648) (hs:s.length≤Big):Rn 8 N.k1p [.v m.e,.v [.i n],.v [.r (eIs s)]] ⟨(a4j m n s).1.e++[.b (a4j m n s).2],[]⟩:=by
 refine Rn.of fun k hk=>?_
 have hB:Big=4294967296:=rfl
 obtain ⟨l1,l2,l3⟩:=g6a m h
 rw [f2b];unfold d0c
 refine a1h (f4w m (by omega) k (by omega)) ?_
 refine a1h (g5r m (by omega) k (by omega)) ?_
 unfold a4j
 cases hm:c7o m
 ·rfl
 refine a0m rfl ?_
 rcases Bool.eq_false_or_eq_true m.Failed with hf | hf
 ·refine a0p hf ?_
  rw [hf];rfl
 refine a0m hf ?_
 rw [List.length_map,a0f (n:=(m.Secs.length:Int) - 1) (by omega) (by omega)]
 refine a1h (a1f _ _ _ k (by omega)) ?_
 cases hh:b4b m n
 ·unfold b4b at hh
  rw [hh]
  rw [hf];rfl
 have hh':=hh
 unfold b4b at hh'
 rw [hh']
 refine a0m rfl ?_
 refine a1h (h2p s hs k (by omega)) ?_
 cases ho:c8y s
 ·rw [hf];rfl
 refine a0m rfl ?_
 unfold a4l
 by_cases h60:m.Cache.length<60
 ·refine a0m (show decide (((List.map Wr.e m.Cache).length:Int)≥60)=false by simp;omega) ?_
  refine (a0g (by simp;omega) _).trans ?_
  refine (a0g (by simp;omega) _).trans ?_
  refine a1h (i2h m.Bad (by omega) n k (by omega)) ?_
  rw [decide_eq_true h60]
  have e1:e0r (m.Cache++[⟨n,s⟩])=e0r m.Cache++[(⟨n,s⟩:Wr).e]:=by rw [e0r,e0r,List.map_append];rfl
  show some (⟨[.r (d2i m.Secs),.r (e0r m.Cache++[(⟨n,s⟩:Wr).e]),.b m.Failed,.r (eIs (without n m.Bad)),.b true],[]⟩:Outs)=_
  rw [hf,← e1];rfl
 ·refine a0p (show decide (((List.map Wr.e m.Cache).length:Int)≥60)=true by simp;omega) ?_
  rw [decide_eq_false h60]
  rw [hf];rfl
def f5a (s:List (List Int)) (l:List Wr):List (List Int):=l.foldl (fun s x=>s.set x.N.toNat x.S) s
def a5a (m:Dsk):Dsk:=bif c7o m&&!m.Failed then { m with Secs:=f5a m.Secs m.Cache,Cache:=[] } else m
theorem i2i (l:List (List Int)) (i:Nat) (s:List Int) (h:i<l.length):a0z (d2i l) i 0 [.r (eIs s)]=d2i (l.set i s):=by
 unfold a0z
 have e:(d2i l).getD i []=[.r (eIs l[i])]:=by
  rw [List.getD_eq_getElem?_getD,List.getElem?_map,List.getElem?_eq_getElem h];rfl
 rw [e]
 show (d2i l).set i [.r (eIs s)]=_
 rw [d2i,d2i,List.map_set]
theorem h5d (m:Dsk) (hm:c7o m=true) (hw:m.w≤Big) (r:List (List Int)→Option Outs) {b:(Int×List (List T)→Option Outs)→Int×List (List T)→Option Outs}
  (hb:∀ i (hi:i<m.Cache.length) s (G:Int×List (List T)→Option Outs),s.length=m.Secs.length→b G ((i:Int),d2i s)=G (((i+1:Nat):Int),d2i (s.set m.Cache[i].N.toNat m.Cache[i].S)))
  (he:∀ s (G:Int×List (List T)→Option Outs),b G ((m.Cache.length:Int),d2i s)=r s) {j:Nat} (hj:m.Cache.length<j):a1l b j (0,d2i m.Secs)=r (f5a m.Secs m.Cache):=by
 have key:∀ (R A:List Wr) (s:List (List Int)) (j:Nat),m.Cache=A++R→s.length=m.Secs.length→R.length<j→a1l b j ((A.length:Int),d2i s)=r (f5a s R):=by
  intro R
  induction R with
  | nil=>
   intro A s j hA hs hj
   obtain ⟨j,rfl⟩:∃ q,j=q+1:=⟨j - 1,by omega⟩
   rw [List.append_nil] at hA
   rw [← hA]
   exact he s _
  | cons x R ih=>
   intro A s j hA hs hj
   simp only [List.length_cons] at hj
   obtain ⟨j,rfl⟩:∃ q,j=q+1:=⟨j - 1,by omega⟩
   have hi:A.length<m.Cache.length:=by rw [hA];simp
   have hx:m.Cache[A.length]=x:=by simp [hA]
   have ih1:=ih (A++[x]) (s.set x.N.toNat x.S) j (by rw [hA];simp) (by rw [List.length_set];exact hs) (by omega)
   simp only [List.length_append,List.length_cons,List.length_nil] at ih1
   rw [show A.length+(0+1)=A.length+1 by omega] at ih1
   rw [a1l,hb A.length hi s _ hs,hx,ih1]
   rfl
 exact key m.Cache [] m.Secs j rfl rfl hj
theorem h5e {m:Dsk} (hm:c7o m=true) {i:Nat} (hi:i<m.Cache.length):0≤m.Cache[i].N∧m.Cache[i].N<m.Secs.length:=by
 unfold c7o at hm
 simp only [Bool.and_eq_true,List.all_eq_true] at hm
 have:=a1c (hm.2.1 _ (List.getElem_mem hi)).1
 omega
theorem h7m (m:Dsk) (h:m.w≤Big):Rn 6 N.j7w [.v m.e] ⟨(a5a m).e,[]⟩:=by
 refine Rn.of fun k hk=>?_
 have hB:Big=4294967296:=rfl
 obtain ⟨l1,l2,l3⟩:=g6a m h
 rw [f2y];unfold d0u b3e
 refine a1h (f4v m h k (by omega)) ?_
 refine a1h (g5q m h k (by omega)) ?_
 unfold a5a
 cases hm:c7o m
 ·rfl
 refine a0m rfl ?_
 rcases Bool.eq_false_or_eq_true m.Failed with hf | hf
 ·refine a0p hf ?_
  rw [hf];rfl
 refine a0m hf ?_
 show a1l (a6h k (e0r m.Cache) ⟨m.e,[]⟩) k (0,d2i m.Secs)=_
 refine (h5d m hm h (fun s=>some ⟨({ m with Secs:=s,Cache:=[] }:Dsk).e,[]⟩) (fun i hi s G hs=>?_) (fun s G=>?_) (by omega)).trans ?_
 ·obtain ⟨c1,c2⟩:=h5e hm hi
  have hwi:m.Cache[i].S.length≤Big:=by
   have:=a1r Wr.w hi
   have e0:m.w=wL List.length m.Secs+wL Wr.w m.Cache+m.Bad.length:=rfl
   have e1:m.Cache[i].w=m.Cache[i].S.length:=rfl
   omega
  unfold a6h b7o
  simp only [List.length_map,a0u _ hi,dlt hi,d0,Bool.and_self,a0i,cond_true,Int.toNat_natCast,B2_,T.k6e,T.k6h]
  refine a1h (a3m m.Cache[i].S hwi k (by omega)) ?_
  refine (a0g (by simp;omega) _).trans ?_
  rw [a1s (by omega)]
  show G (_,a0z (d2i s) m.Cache[i].N.toNat 0 [.r (eIs m.Cache[i].S)])=_
  rw [i2i _ _ _ (by omega)]
 ·unfold a6h b7o
  simp only [List.length_map,dll,cond_false];rfl
 ·simp only [hf];rfl
theorem h7n (m:Dsk) (h:m.w≤Big):Rn 6 N.j7m [.v m.e] ⟨(a5a m).e,[]⟩:=by
 refine Rn.of fun k hk=>?_
 have hB:Big=4294967296:=rfl
 obtain ⟨l1,l2,l3⟩:=g6a m h
 rw [f1y];unfold d0a b2h
 refine a1h (f4w m h k (by omega)) ?_
 refine a1h (g5r m h k (by omega)) ?_
 unfold a5a
 cases hm:c7o m
 ·rfl
 refine a0m rfl ?_
 rcases Bool.eq_false_or_eq_true m.Failed with hf | hf
 ·refine a0p hf ?_
  rw [hf];rfl
 refine a0m hf ?_
 show a1l (a6f k ⟨m.e,[]⟩) k (0,d2i m.Secs)=_
 refine (h5d m hm h (fun s=>some ⟨({ m with Secs:=s,Cache:=[] }:Dsk).e,[]⟩) (fun i hi s G hs=>?_) (fun s G=>?_) (by omega)).trans ?_
 ·obtain ⟨c1,c2⟩:=h5e hm hi
  unfold a6f b7k
  simp only [Outs.k6d,Dsk.e,List.length_map,a0u _ hi,dlt hi,d0,Bool.and_self,a0i,cond_true,Int.toNat_natCast,B2_,T.k6e,T.k6h]
  refine (a0g (by simp;omega) _).trans ?_
  rw [a1s (by omega),i2i _ _ _ (by omega)]
 ·unfold a6f b7k
  simp only [Outs.k6d,Dsk.e,B2_,T.k6h,List.length_map,dll,cond_false];rfl
 ·simp only [hf];rfl
def c2a (s:Super):Bool:=(a0n s.Id 1 60000&&(a0n s.Gen 0 60000&&a0n s.Tail 0 60000))&&(a8a ⟨s.N,s.S⟩&&(a0n s.Role 0 (s.N - 1)&&d1t ⟨s.N,s.S⟩ s.Lost s.Built))
def b4e (s:Super):List Int:=bif c2a s then [21317,s.Id,s.Gen,s.Role,s.N,s.S,s.Tail,s.Lost+1,s.Built] else []
theorem i2j (s:Super):Rn 4 N.k3v [.v s.e] ⟨[.b (c2a s)],[]⟩:=by
 refine Rn.of fun k hk=>?_
 have hB:Big=4294967296:=rfl
 rw [f8g];unfold d4w c2a
 refine a1h (a1o _ _ _ k (by omega)) ?_
 cases a0n s.Id 1 60000
 ·rfl
 refine a0p rfl (a1h (a1o _ _ _ k (by omega)) ?_)
 cases a0n s.Gen 0 60000
 ·rfl
 refine a0p rfl (a1h (a1o _ _ _ k (by omega)) ?_)
 cases a0n s.Tail 0 60000
 ·rfl
 unfold b3g
 refine a0p rfl (a1h (f4e ⟨s.N,s.S⟩ k (by omega)) ?_)
 cases hg:a8a ⟨s.N,s.S⟩
 ·rfl
 have:=a1k hg
 simp only at this
 rw [a0f (n:=s.N - 1) (by omega) (by omega)]
 refine a0p rfl (a1h (a1o _ _ _ k (by omega)) ?_)
 cases a0n s.Role 0 (s.N - 1)
 ·rfl
 exact a0p rfl (a1h (h4v ⟨s.N,s.S⟩ hg s.Lost s.Built k (by omega)) rfl)
theorem i2k (s:Super):Rn 4 N.k3f [.v s.e] ⟨[.b (c2a s)],[]⟩:=by
 refine Rn.of fun k hk=>?_
 have hB:Big=4294967296:=rfl
 rw [f7c];unfold d4d c2a
 refine a1h (f4f ⟨s.N,s.S⟩ k (by omega)) ?_
 cases hg:a8a ⟨s.N,s.S⟩
 ·rw [Bool.false_and,Bool.and_false];rfl
 have:=a1k hg
 simp only at this
 refine a0m rfl (a1h (a1f _ _ _ k (by omega)) ?_)
 cases a0n s.Id 1 60000
 ·rfl
 refine a0m rfl (a1h (a1f _ _ _ k (by omega)) ?_)
 cases a0n s.Gen 0 60000
 ·rfl
 rw [a0f (n:=s.N - 1) (by omega) (by omega)]
 refine a0m rfl (a1h (a1f _ _ _ k (by omega)) ?_)
 cases a0n s.Role 0 (s.N - 1)
 ·rw [Bool.false_and,Bool.and_false,Bool.and_false];rfl
 refine a0m rfl (a1h (a1f _ _ _ k (by omega)) ?_)
 cases a0n s.Tail 0 60000
 ·rfl
 unfold a5f
 rw [a0f (n:=s.N - 1) (by omega) (by omega)]
 refine a0m rfl (a1h (a1f _ _ _ k (by omega)) ?_)
 unfold d1t
 cases hl:a0n s.Lost (-1) (s.N - 1)
 ·rfl
 have hl:=a1c hl
 refine a0p rfl (a1h (a1f _ _ _ k (by omega)) ?_)
 cases a0n s.Built 0 s.S
 ·rfl
 refine a0p rfl ?_
 by_cases h0:s.Lost≥0
 ·rw [decide_eq_true h0,show (s.Lost != -1)=true by simp;omega];simp
 ·rw [decide_eq_false h0,show s.Lost = -1 by omega];simp
theorem h7o (s:Super) (hl:inI s.Lost):Rn 5 N.k3w [.v s.e] ⟨[.r (eIs (b4e s))],[]⟩:=by
 refine Rn.of fun k hk=>?_
 rw [f3a];unfold d0w
 refine a1h (i2j s k (by omega)) ?_
 unfold b4e
 cases ho:c2a s
 ·rfl
 have h1:a0n s.Lost (-1) (s.N - 1)=true∧a8a ⟨s.N,s.S⟩=true:=by
  unfold c2a d1t at ho
  simp only [Bool.and_eq_true] at ho
  exact ⟨ho.2.2.2.1,ho.2.1⟩
 have h2:=a1c h1.1
 have h3:=a1k h1.2
 simp only at h3
 refine a0m rfl ?_
 rw [a0f (n:=s.Lost+1) (by omega) (by omega)];rfl
theorem h7p (s:Super) (hl:inI s.Lost):Rn 5 N.k3g [.v s.e] ⟨[.r (eIs (b4e s))],[]⟩:=by
 refine Rn.of fun k hk=>?_
 rw [f2a];unfold d0b
 refine a1h (i2k s k (by omega)) ?_
 unfold b4e
 cases ho:c2a s
 ·rfl
 have h1:a0n s.Lost (-1) (s.N - 1)=true∧a8a ⟨s.N,s.S⟩=true:=by
  unfold c2a d1t at ho
  simp only [Bool.and_eq_true] at ho
  exact ⟨ho.2.2.2.1,ho.2.1⟩
 have h2:=a1c h1.1
 have h3:=a1k h1.2
 simp only at h3
 refine a0m rfl ?_
 rw [a0f (n:=s.Lost+1) (by omega) (by omega)];rfl
theorem d6e (s:Super):c8y (b4e s)=true∧(b4e s).length≤9:=by
 unfold b4e
 cases ho:c2a s
 ·exact ⟨rfl,Nat.zero_le _⟩
 ·unfold c2a d1t at ho
  simp only [Bool.and_eq_true] at ho
  obtain ⟨⟨a1,a2,a3⟩,a4,a5,a6,a7,a8⟩:=ho
  have a1:=a1c a1
  have a2:=a1c a2
  have a3:=a1c a3
  have a4:=a1k a4
  have a5:=a1c a5
  have a6:=a1c a6
  have a7:=a1c a7
  simp only at a4 a5 a6 a7
  refine ⟨?_,by simp⟩
  unfold c8y b1c c5z a0n
  simp
  omega
def op (a:Arr):Arr:=bif a.Down then a else bif a.Fuse == 0 then { a with Down:=true,Fuse:=-1 } else bif decide (a.Fuse > 0) then { a with Fuse:=a.Fuse - 1 } else a
def dsk (a:Arr) (m:Nat):Dsk:=a.Mems.getD m default
def h8a (a:Arr) (m:Nat) (d:Dsk):Arr:={ a with Mems:=a.Mems.set m d }
def put (a:Arr) (m:Nat) (n:Int) (s:List Int):Arr:=bif (dsk a m).Failed then a else bif (op a).Down then op a else h8a (op a) m (a4j (dsk a m) n s).1
def a3x (a:Arr) (m:Nat):Arr:=bif (dsk a m).Failed then a else bif (op a).Down then op a else h8a (op a) m (a5a (dsk a m))
def run (f:Arr→Nat→Arr):Nat→Nat→Arr→Arr
 | _,0,a=>a
 | i,n+1,a=>run f (i+1) n (f a i)
def b6y (a:Arr):Arr:=run a3x 0 a.Mems.length a
def c5a (a:Arr) (m:Nat):Super:=⟨a.Id,a.Gen,m,a.G.N,a.G.S,a.Tail,a.Lost,a.Built⟩
def a8s (a:Arr) (m:Nat):Arr:=put a m (Int.tmod a.Gen 2) (b4e (c5a a m))
def mark (a:Arr):Arr:=b6y (run a8s 0 a.Mems.length { a with Gen:=a.Gen+1 })
def a5q (a:Arr):Arr:=bif (b6y a).Down then b6y a else mark { b6y a with Tail:=(b6y a).Seq }
structure Keep (a b:Arr):Prop where
 id:b.Id=a.Id
 g:b.G=a.G
 n:b.Mems.length=a.Mems.length
 lost:b.Lost=a.Lost
 built:b.Built=a.Built
 seq:b.Seq=a.Seq
 tail:b.Tail=a.Tail
 gen:b.Gen=a.Gen
 dirty:b.Dirty=a.Dirty
 broken:b.Broken=a.Broken
theorem Keep.refl (a:Arr):Keep a a:=⟨rfl,rfl,rfl,rfl,rfl,rfl,rfl,rfl,rfl,rfl⟩
theorem Keep.trans {a b c:Arr} (h:Keep a b) (k:Keep b c):Keep a c:=
 ⟨k.id.trans h.id,k.g.trans h.g,k.n.trans h.n,k.lost.trans h.lost,k.built.trans h.built,k.seq.trans h.seq,k.tail.trans h.tail,k.gen.trans h.gen,k.dirty.trans h.dirty,k.broken.trans h.broken⟩
def Fz (a:Arr):Prop:=-1≤a.Fuse∧a.Fuse≤1000
theorem h2y {a:Arr} (h:a.Down=true):op a=a:=by unfold op;rw [h];rfl
theorem e8p (a:Arr):op a=a∨op a={ a with Down:=true,Fuse:=-1 }∨(0<a.Fuse∧op a={ a with Fuse:=a.Fuse - 1 }):=by
 unfold op
 cases a.Down
 ·cases h0:(a.Fuse == 0)
  ·cases h1:decide (a.Fuse > 0)
   ·exact .inl rfl
   ·exact .inr (.inr ⟨of_decide_eq_true h1,rfl⟩)
  ·exact .inr (.inl rfl)
 ·exact .inl rfl
theorem g6b (a:Arr):Keep a (op a):=by
 rcases e8p a with h | h | ⟨_,h⟩ <;> rw [h] <;> exact ⟨rfl,rfl,rfl,rfl,rfl,rfl,rfl,rfl,rfl,rfl⟩
theorem f5b (a:Arr):(op a).Mems=a.Mems:=by
 rcases e8p a with h | h | ⟨_,h⟩ <;> rw [h]
theorem i6l {a:Arr} (hf:Fz a):Fz (op a):=by
 unfold Fz at *
 rcases e8p a with h | h | ⟨h0,h⟩ <;> rw [h]
 ·exact hf
 ·exact ⟨Int.le_refl _,show (-1:Int)≤1000 by omega⟩
 ·exact ⟨show -1≤a.Fuse - 1 by omega,show a.Fuse - 1≤1000 by omega⟩
theorem j5n (a:Arr):(op a).w=a.w:=by
 rcases e8p a with h | h | ⟨_,h⟩ <;> rw [h] <;> rfl
theorem h5f {α:Type} (w:α→Nat):∀ (l:List α) (i:Nat) (x:α) (h:i<l.length),wL w (l.set i x)+w l[i]=wL w l+w x
 | y :: l,0,x,h=>by rw [List.set_cons_zero,a6t,a6t];simp only [List.getElem_cons_zero];omega
 | y :: l,i+1,x,h=>by
  have:=h5f w l i x (by simpa using h)
  rw [List.set_cons_succ,a6t,a6t]
  simp only [List.getElem_cons_succ];omega
theorem h5g {a:Arr} {m:Nat} (h:m<a.Mems.length):dsk a m=a.Mems[m]:=a2t h _
theorem h0k (a:Arr) (m:Nat) (d:Dsk):Keep a (h8a a m d):=⟨rfl,rfl,List.length_set,rfl,rfl,rfl,rfl,rfl,rfl,rfl⟩
theorem i8d (a:Arr) (m:Nat) (d:Dsk) {c:Nat} (h:d.w≤(dsk a m).w+c):(h8a a m d).w≤a.w+c:=by
 show wL Dsk.w (a.Mems.set m d)+wL Ent.w a.Dirty≤wL Dsk.w a.Mems+wL Ent.w a.Dirty+c
 by_cases hm:m<a.Mems.length
 ·have:=h5f Dsk.w a.Mems m d hm
  rw [h5g hm] at h
  omega
 ·rw [List.set_eq_of_length_le (by omega)];omega
theorem h5h:∀ (l:List Wr) (s:List (List Int)),wL List.length (f5a s l)≤wL List.length s+wL Wr.w l
 | [],s=>Nat.le_add_right _ _
 | x :: l,s=>by
  have h1:=h5h l (s.set x.N.toNat x.S)
  have e:f5a s (x :: l)=f5a (s.set x.N.toNat x.S) l:=rfl
  rw [e,a6t]
  have e1:x.w=x.S.length:=rfl
  by_cases hi:x.N.toNat<s.length
  ·have:=h5f List.length s _ x.S hi;omega
  ·rw [List.set_eq_of_length_le (by omega)] at h1 ⊢;omega
theorem h7q (m:Dsk):(a5a m).w≤m.w:=by
 unfold a5a
 cases c7o m&&!m.Failed
 ·exact Nat.le_refl _
 ·have:=h5h m.Cache m.Secs
  show wL List.length (f5a m.Secs m.Cache)+wL Wr.w []+m.Bad.length≤wL List.length m.Secs+wL Wr.w m.Cache+m.Bad.length
  rw [h4n];omega
theorem g6c {a:Arr} {m:Nat} {n:Int} {s:List Int} (h:a.Down=true):put a m n s=a:=by
 unfold put;rw [h2y h,h];cases (dsk a m).Failed <;> rfl
theorem e6c {a:Arr} {m:Nat} (h:a.Down=true):a3x a m=a:=by
 unfold a3x;rw [h2y h,h];cases (dsk a m).Failed <;> rfl
theorem e8q (a:Arr) (m:Nat) (n:Int) (s:List Int):Keep a (put a m n s):=by
 unfold put
 cases (dsk a m).Failed
 ·cases (op a).Down
  ·exact (g6b a).trans (h0k _ _ _)
  ·exact g6b a
 ·exact Keep.refl a
theorem d1v (a:Arr) (m:Nat):Keep a (a3x a m):=by
 unfold a3x
 cases (dsk a m).Failed
 ·cases (op a).Down
  ·exact (g6b a).trans (h0k _ _ _)
  ·exact g6b a
 ·exact Keep.refl a
theorem f5c {a:Arr} {m:Nat} {n:Int} {s:List Int} (h:Fz a):Fz (put a m n s):=by
 unfold put
 cases (dsk a m).Failed
 ·cases (op a).Down
  ·exact i6l h
  ·exact i6l h
 ·exact h
theorem e3g {a:Arr} {m:Nat} (h:Fz a):Fz (a3x a m):=by
 unfold a3x
 cases (dsk a m).Failed
 ·cases (op a).Down
  ·exact i6l h
  ·exact i6l h
 ·exact h
theorem g0o (a:Arr) (m:Nat):dsk (op a) m=dsk a m:=by unfold dsk;rw [f5b]
theorem i2l (a:Arr) (m:Nat) (n:Int) (s:List Int):(put a m n s).w≤a.w+(s.length+1):=by
 have ho:=j5n a
 unfold put
 cases (dsk a m).Failed
 ·cases (op a).Down
  ·have:=i8d (op a) m (a4j (dsk a m) n s).1 (c:=s.length+1) (by rw [g0o];exact h7j _ _ _)
   rw [ho] at this;exact this
  ·show (op a).w≤_;omega
 ·exact Nat.le_add_right _ _
theorem f5d (a:Arr) (m:Nat):(a3x a m).w≤a.w:=by
 have ho:=j5n a
 unfold a3x
 cases (dsk a m).Failed
 ·cases (op a).Down
  ·have:=i8d (op a) m (a5a (dsk a m)) (c:=0) (by rw [g0o];exact h7q _)
   rw [ho] at this;exact this
  ·show (op a).w≤_;omega
 ·exact Nat.le_refl _
theorem g6d {f:Arr→Nat→Arr} (hf:∀ a i,a.Down=true→f a i=a):∀ (n i:Nat) {a:Arr},a.Down=true→run f i n a=a
 | 0,_,_,_=>rfl
 | n+1,i,a,h=>by show run f (i+1) n (f a i)=a;rw [hf a i h];exact g6d hf n (i+1) h
theorem e0z {f:Arr→Nat→Arr} (hf:∀ a i,Keep a (f a i)):∀ (n i:Nat) (a:Arr),Keep a (run f i n a)
 | 0,_,a=>Keep.refl a
 | n+1,i,a=>(hf a i).trans (e0z hf n (i+1) (f a i))
theorem h5i {f:Arr→Nat→Arr} (hf:∀ a i,Fz a→Fz (f a i)):∀ (n i:Nat) {a:Arr},Fz a→Fz (run f i n a)
 | 0,_,_,h=>h
 | n+1,i,a,h=>h5i hf n (i+1) (hf a i h)
theorem i2m {f:Arr→Nat→Arr} {c:Nat} (hf:∀ a i,(f a i).w≤a.w+c):∀ (n i:Nat) (a:Arr),(run f i n a).w≤a.w+n*c
 | 0,_,a=>by simp [run]
 | n+1,i,a=>by
  have h1:=i2m hf n (i+1) (f a i)
  have h2:=hf a i
  show (run f (i+1) n (f a i)).w≤_
  rw [Nat.succ_mul];omega
theorem c6c (a:Arr):Keep a (b6y a):=e0z d1v _ _ _
theorem e3h {a:Arr} (h:Fz a):Fz (b6y a):=h5i (fun _ _=>e3g) _ _ h
theorem h0l (a:Arr):(b6y a).w≤a.w:=by
 have:=i2m (c:=0) (f:=a3x) (fun a i=>f5d a i) a.Mems.length 0 a
 unfold b6y;omega
theorem h0m {a:Arr} (h:a.Down=true):b6y a=a:=g6d (fun _ _=>e6c) _ _ h
theorem d6f (a:Arr) (m:Nat):Keep a (a8s a m):=e8q _ _ _ _
theorem g6e (a:Arr) (m:Nat):(a8s a m).w≤a.w+10:=by
 have h1:=i2l a m (Int.tmod a.Gen 2) (b4e (c5a a m))
 have h2:=(d6e (c5a a m)).2
 unfold a8s;omega
theorem i2n (a:Arr):Keep { a with Gen:=a.Gen+1 } (mark a):=(e0z d6f _ _ _).trans (c6c _)
theorem j0u {a:Arr} (h:Fz a):Fz (mark a):=e3h (h5i (fun _ _=>f5c) _ _ (show Fz { a with Gen:=a.Gen+1 } from h))
theorem j3h (a:Arr):(mark a).w≤a.w+a.Mems.length*10:=by
 have h1:=h0l (run a8s 0 a.Mems.length { a with Gen:=a.Gen+1 })
 have h2:=i2m (c:=10) g6e a.Mems.length 0 { a with Gen:=a.Gen+1 }
 have e:({ a with Gen:=a.Gen+1 }:Arr).w=a.w:=rfl
 unfold mark;omega
theorem c2b (a:Arr):((b6y a).Down=true∧a5q a=b6y a)∨((b6y a).Down=false∧a5q a=mark { b6y a with Tail:=(b6y a).Seq }):=by
 unfold a5q
 cases h:(b6y a).Down
 ·exact .inr ⟨rfl,rfl⟩
 ·exact .inl ⟨rfl,rfl⟩
theorem h5j {a:Arr} (h:Fz a):Fz (a5q a):=by
 rcases c2b a with ⟨_,e⟩ | ⟨_,e⟩ <;> rw [e]
 ·exact e3h h
 ·exact j0u (show Fz { b6y a with Tail:=(b6y a).Seq } from e3h h)
theorem h2z (a:Arr):(a5q a).w≤a.w+a.Mems.length*10:=by
 have h1:=h0l a
 have hk:=c6c a
 rcases c2b a with ⟨_,e⟩ | ⟨_,e⟩ <;> rw [e]
 ·omega
 ·have h2:=j3h { b6y a with Tail:=(b6y a).Seq }
  have e1:({ b6y a with Tail:=(b6y a).Seq }:Arr).w=(b6y a).w:=rfl
  have e2:({ b6y a with Tail:=(b6y a).Seq }:Arr).Mems.length=a.Mems.length:=hk.n
  rw [e1,e2] at h2;omega
structure Keep2 (a b:Arr):Prop where
 id:b.Id=a.Id
 g:b.G=a.G
 n:b.Mems.length=a.Mems.length
 lost:b.Lost=a.Lost
 built:b.Built=a.Built
 seq:b.Seq=a.Seq
 dirty:b.Dirty=a.Dirty
 broken:b.Broken=a.Broken
theorem Keep.k2 {a b:Arr} (h:Keep a b):Keep2 a b:=⟨h.id,h.g,h.n,h.lost,h.built,h.seq,h.dirty,h.broken⟩
theorem Keep2.refl (a:Arr):Keep2 a a:=(Keep.refl a).k2
theorem Keep2.trans {a b c:Arr} (h:Keep2 a b) (k:Keep2 b c):Keep2 a c:=
 ⟨k.id.trans h.id,k.g.trans h.g,k.n.trans h.n,k.lost.trans h.lost,k.built.trans h.built,k.seq.trans h.seq,k.dirty.trans h.dirty,k.broken.trans h.broken⟩
theorem e3i (a:Arr):Keep2 a (a5q a):=by
 have hk:=c6c a
 rcases c2b a with ⟨_,e⟩ | ⟨_,e⟩ <;> rw [e]
 ·exact hk.k2
 ·have h2:=i2n { b6y a with Tail:=(b6y a).Seq }
  exact hk.k2.trans ⟨h2.id,h2.g,h2.n,h2.lost,h2.built,h2.seq,h2.dirty,h2.broken⟩
def f5e (r:Rec):Bool:=a0n r.Seq 0 60000&&(a0n r.Stripe 0 7&&(a0n (r.Data.length:Int) 2 4&&b1c r.Data))
def d1w (r:Rec):List Int:=bif f5e r then [21322,r.Seq,r.Stripe,(r.Data.length:Int)]++r.Data else []
def c7p (q:Int):Int:=bif decide (q<0) then -1 else 2+Int.tmod q 4
def b7h (r:Rec) (a:Arr) (m:Nat):Arr:=put a m (c7p r.Seq) (d1w r)
def b8p (a:Arr) (r:Rec):Arr:=b6y (run (b7h r) 0 a.Mems.length a)
def i8e (l:List Int):Int:=xN (i3l (fun i=>l.getD i 0) l.length)
def c2c (g:Geo) (s:Int) (data:List Int) (m:Nat):Int:=bif (m:Int) == a1b g s then i8e data else data.getD (((m:Int) - a1b g s - 1+g.N) % g.N).toNat 0
def a2o (s:Int) (data:List Int) (a:Arr) (m:Nat):Arr:=bif c1z a m s then put a m (a9j s) [c2c a.G s data m] else a
def a7b (a:Arr) (s:Int) (data:List Int):Arr:=run (a2o s data) 0 a.Mems.length a
def a2x (a:Arr):Arr:=bif decide (a.Seq - a.Tail≥4) then a5q a else a
def a3d (a:Arr) (s:Int) (data:List Int):Arr:=
 bif (a2x a).Down then a2x a else
 bif (b8p (a2x a) ⟨(a2x a).Seq,s,data⟩).Down then b8p (a2x a) ⟨(a2x a).Seq,s,data⟩ else
 a7b { b8p (a2x a) ⟨(a2x a).Seq,s,data⟩ with Seq:=(b8p (a2x a) ⟨(a2x a).Seq,s,data⟩).Seq+1 } s data
theorem d2o (r:Rec):(d1w r).length≤8:=by
 unfold d1w
 cases h:f5e r
 ·exact Nat.zero_le _
 ·unfold f5e at h
  simp only [Bool.and_eq_true] at h
  have:=a1c h.2.2.1
  show (21322 :: r.Seq :: r.Stripe :: (r.Data.length:Int) :: r.Data).length≤8
  simp only [List.length_cons];omega
theorem c2d (a:Arr) (r:Rec):Keep a (b8p a r):=(e0z (f:=b7h r) (fun a i=>e8q _ _ _ _) _ _ _).trans (c6c _)
theorem e1a {a:Arr} {r:Rec} (h:Fz a):Fz (b8p a r):=e3h (h5i (f:=b7h r) (fun _ _=>f5c) _ _ h)
theorem e1b (a:Arr) (r:Rec):(b8p a r).w≤a.w+a.Mems.length*9:=by
 have h1:=h0l (run (b7h r) 0 a.Mems.length a)
 have h2:=i2m (c:=9) (f:=b7h r) (fun b m=>by
  have h1:=i2l b m (c7p r.Seq) (d1w r)
  have h2:=d2o r
  unfold b7h;omega) a.Mems.length 0 a
 unfold b8p;omega
theorem d1x (s:Int) (data:List Int) (a:Arr) (m:Nat):Keep a (a2o s data a m):=by
 unfold a2o;cases c1z a m s
 ·exact Keep.refl a
 ·exact e8q _ _ _ _
theorem h0n {s:Int} {data:List Int} (a:Arr) (m:Nat) (h:a.Down=true):a2o s data a m=a:=by
 unfold a2o;cases c1z a m s
 ·rfl
 ·exact g6c h
theorem g6f (a:Arr) (s:Int) (data:List Int):Keep a (a7b a s data):=e0z (d1x s data) _ _ _
theorem h7r (a:Arr) (s:Int) (data:List Int):(a7b a s data).w≤a.w+a.Mems.length*2:=
 i2m (fun b m=>by
  unfold a2o;cases c1z b m s
  ·exact Nat.le_add_right _ _
  ·exact i2l _ _ _ _) _ _ _
theorem h0o (a:Arr):Keep2 a (a2x a):=by
 unfold a2x;cases decide (a.Seq - a.Tail≥4)
 ·exact Keep2.refl a
 ·exact e3i a
theorem i2o (a:Arr):(a2x a).w≤a.w+a.Mems.length*10:=by
 unfold a2x;cases decide (a.Seq - a.Tail≥4)
 ·exact Nat.le_add_right _ _
 ·exact h2z a
theorem f5f (a:Arr) (s:Int) (data:List Int):(a3d a s data).G=a.G∧(a3d a s data).Dirty=a.Dirty∧(a3d a s data).Mems.length=a.Mems.length∧(a3d a s data).w≤a.w+a.Mems.length*21:=by
 have h1:=h0o a
 have h2:=c2d (a2x a) ⟨(a2x a).Seq,s,data⟩
 have w1:=i2o a
 have w2:=e1b (a2x a) ⟨(a2x a).Seq,s,data⟩
 rw [h1.n] at w2
 unfold a3d
 cases (a2x a).Down
 ·generalize b8p (a2x a) ⟨(a2x a).Seq,s,data⟩=c at *
  cases c.Down
  ·have h3:=g6f { c with Seq:=c.Seq+1 } s data
   have w3:=h7r { c with Seq:=c.Seq+1 } s data
   have e1:({ c with Seq:=c.Seq+1 }:Arr).w=c.w:=rfl
   have e2:({ c with Seq:=c.Seq+1 }:Arr).Mems.length=a.Mems.length:=h2.n.trans h1.n
   rw [e1,e2] at w3
   refine ⟨h3.g.trans (h2.g.trans h1.g),h3.dirty.trans (h2.dirty.trans h1.dirty),h3.n.trans e2,?_⟩
   show (a7b { c with Seq:=c.Seq+1 } s data).w≤_
   omega
  ·exact ⟨h2.g.trans h1.g,h2.dirty.trans h1.dirty,h2.n.trans h1.n,show c.w≤_ by omega⟩
 ·exact ⟨h1.g,h1.dirty,h1.n,show (a2x a).w≤_ by omega⟩
def a1p (a:Arr) (s:Int) (data:List Int):Int:=
 bif !(a3o a&&a9i a.G data) then 1 else bif a.Down then 6 else bif !a0r a.G s then 2 else bif a.Broken then 5 else bif (a.Seq == 60000) || decide (a.Gen≥59990) then 7 else 0
def a4v (a:Arr):Int:=bif a.Down then 6 else 0
def a1v (a:Arr) (s:Int) (data:List Int):Arr×Int:=bif a1p a s data == 0 then (a3d a s data,a4v (a3d a s data)) else (a,a1p a s data)
theorem e6d {a:Arr} {s:Int} {data:List Int} (h:(a1p a s data == 0)=true) :
  a3o a=true∧a9i a.G data=true∧a.Down=false∧a0r a.G s=true∧a.Gen<59990∧a.Seq≠60000:=by
 unfold a1p at h
 cases h1:a3o a&&a9i a.G data
 ·rw [h1] at h;simp at h
 ·rw [h1] at h
  cases h2:a.Down
  ·rw [h2] at h
   cases h3:a0r a.G s
   ·rw [h3] at h;simp at h
   ·rw [h3] at h
    cases h4:a.Broken
    ·rw [h4] at h
     cases h5:(a.Seq == 60000) || decide (a.Gen≥59990)
     ·simp at h5
      obtain ⟨k1,k2⟩:=a0e h1
      exact ⟨k1,k2,rfl,rfl,by omega,h5.1⟩
     ·rw [h5] at h;simp at h
    ·rw [h4] at h;simp at h
  ·rw [h2] at h;simp at h
def a7c:List Ent→Ent→List Ent
 | [],e=>[e]
 | x :: l,e=>bif decide (x.Stripe<e.Stripe) then x :: a7c l e else bif x.Stripe == e.Stripe then e :: l else e :: x :: l
theorem h5k:∀ (l:List Ent) (e:Ent),wL Ent.w (a7c l e)≤wL Ent.w l+(1+e.w)
 | [],e=>by show wL Ent.w [e]≤_;rw [a6t];omega
 | x :: l,e=>by
  have ih:=h5k l e
  unfold a7c
  cases decide (x.Stripe<e.Stripe)
  ·cases x.Stripe == e.Stripe
   ·show wL Ent.w (e :: x :: l)≤_;rw [a6t,a6t];omega
   ·show wL Ent.w (e :: l)≤_;rw [a6t,a6t];omega
  ·show wL Ent.w (x :: a7c l e)≤_;rw [a6t,a6t];omega
def e8r (s:Int):List Ent→Nat
 | []=>0
 | x :: l=>bif decide (x.Stripe<s) then e8r s l+1 else 0
theorem i2p (s:Int):∀ l:List Ent,e8r s l≤l.length
 | []=>Nat.le_refl _
 | x :: l=>by
  have:=i2p s l
  unfold e8r;cases decide (x.Stripe<s)
  ·exact Nat.zero_le _
  ·show e8r s l+1≤l.length+1;omega
theorem g0p:∀ (l:List Ent) (e:Ent) (h:e8r e.Stripe l<l.length),l[e8r e.Stripe l].Stripe=e.Stripe→a7c l e=l.set (e8r e.Stripe l) e
 | x :: l,e,h,hs=>by
  unfold a7c
  have e1:e8r e.Stripe (x :: l)=bif decide (x.Stripe<e.Stripe) then e8r e.Stripe l+1 else 0:=rfl
  cases hd:decide (x.Stripe<e.Stripe)
  ·rw [hd] at e1
   have hx:x.Stripe=e.Stripe:=by simpa [e1] using hs
   rw [e1,show (x.Stripe == e.Stripe)=true by simpa using hx];rfl
  ·rw [hd] at e1
   have ih:=g0p l e (by simpa [e1] using h) (by simpa [e1] using hs)
   rw [e1,cond_true,cond_true,ih];rfl
theorem g0q:∀ (l:List Ent) (e:Ent),(∀ h:e8r e.Stripe l<l.length,l[e8r e.Stripe l].Stripe≠e.Stripe)→a7c l e=l.take (e8r e.Stripe l)++e :: l.drop (e8r e.Stripe l)
 | [],e,_=>rfl
 | x :: l,e,hs=>by
  unfold a7c
  have e1:e8r e.Stripe (x :: l)=bif decide (x.Stripe<e.Stripe) then e8r e.Stripe l+1 else 0:=rfl
  cases hd:decide (x.Stripe<e.Stripe)
  ·rw [hd] at e1
   have hx:x.Stripe≠e.Stripe:=by simpa [e1] using hs (by rw [e1];simp)
   rw [e1,show (x.Stripe == e.Stripe)=false by simpa using hx];rfl
  ·rw [hd] at e1
   have ih:=g0q l e (fun h=>by simpa [e1] using hs (by rw [e1];simpa using h))
   rw [e1,cond_true,cond_true,ih];rfl
def h0u (e:Ent) (p:List Ent×Bool) (x:Ent):List Ent×Bool:=
 let q:List Ent×Bool:=bif !p.2&&decide (x.Stripe≥e.Stripe) then (p.1++[e],true) else p
 (bif x.Stripe != e.Stripe then q.1++[x] else q.1,q.2)
def j3i (e:Ent) (p:List Ent×Bool):List Ent:=bif !p.2 then p.1++[e] else p.1
def i8f:List Ent→Prop
 | []=>True
 | [_]=>True
 | x :: y :: l=>x.Stripe<y.Stripe∧i8f (y :: l)
theorem i2q:∀ {l:List Ent} {x:Ent},i8f (x :: l)→∀ y,y∈l→x.Stripe<y.Stripe
 | [],_,_,_,hy=>by cases hy
 | z :: l,x,h,y,hy=>by
  rcases List.mem_cons.1 hy with rfl | hy
  ·exact h.1
  ·exact Int.lt_trans h.1 (i2q h.2 y hy)
theorem i2r {l:List Ent} {x:Ent} (h:i8f (x :: l)):i8f l:=by
 cases l with
 | nil=>trivial
 | cons y l=>exact h.2
theorem f5g (e:Ent):∀ (l:List Ent) (o:List Ent),(∀ y,y∈l→e.Stripe<y.Stripe)→l.foldl (h0u e) (o,true)=(o++l,true)
 | [],o,_=>by simp
 | x :: l,o,h=>by
  have hx:=h x List.mem_cons_self
  have e1:h0u e (o,true) x=(o++[x],true):=by
   unfold h0u
   rw [show (x.Stripe != e.Stripe)=true by simp;omega];rfl
  rw [List.foldl_cons,e1,f5g e l _ (fun y hy=>h y (List.mem_cons_of_mem _ hy))]
  simp
theorem i2s (e:Ent):∀ (l:List Ent) (o:List Ent),i8f l→j3i e (l.foldl (h0u e) (o,false))=o++a7c l e
 | [],o,_=>rfl
 | x :: l,o,h=>by
  rw [List.foldl_cons]
  unfold a7c
  have hgt:=i2q h
  cases hd:decide (x.Stripe<e.Stripe)
  ·have hge:=of_decide_eq_false hd
   cases hx:(x.Stripe == e.Stripe)
   ·have hne:x.Stripe≠e.Stripe:=by simpa using hx
    have e1:h0u e (o,false) x=(o++[e]++[x],true):=by
     unfold h0u
     rw [show decide (x.Stripe≥e.Stripe)=true from decide_eq_true (by omega),show (x.Stripe != e.Stripe)=true by unfold bne;rw [hx];rfl];rfl
    rw [e1,f5g e l _ (fun y hy=>by have:=hgt y hy;omega)]
    show o++[e]++[x]++l=o++e :: x :: l
    simp
   ·have heq:x.Stripe=e.Stripe:=by simpa using hx
    have e1:h0u e (o,false) x=(o++[e],true):=by
     unfold h0u
     rw [show decide (x.Stripe≥e.Stripe)=true from decide_eq_true (by omega),show (x.Stripe != e.Stripe)=false by unfold bne;rw [hx];rfl];rfl
    rw [e1,f5g e l _ (fun y hy=>by have:=hgt y hy;omega)]
    show o++[e]++l=o++e :: l
    simp
  ·have hlt:=of_decide_eq_true hd
   have e1:h0u e (o,false) x=(o++[x],false):=by
    unfold h0u
    rw [show decide (x.Stripe≥e.Stripe)=false from decide_eq_false (by omega),show (x.Stripe != e.Stripe)=true by simp;omega];rfl
   rw [e1,i2s e l _ (i2r h)]
   show o++[x]++a7c l e=o++x :: a7c l e
   simp
theorem i2t:∀ {l:List Ent},(∀ i,i+1<l.length→(l.getD i default).Stripe<(l.getD (i+1) default).Stripe)→i8f l
 | [],_=>trivial
 | [_],_=>trivial
 | x :: y :: l,h=>⟨by simpa using h 0 (by simp),i2t fun i hi=>by simpa using h (i+1) (by simpa using hi)⟩
def b4f (a:Arr) (b n:Int):Int:=bif (a2c a b == 0)&&!c5z n then 3 else a2c a b
def d1y (a:Arr) (b n:Int):Ent:=⟨a0o a.G b,(a2w a (a0o a.G b)).1.set (a8w a.G b).toNat n⟩
def a0w (a:Arr) (b n:Int):Arr×Int:=
 bif b4f a b n != 0 then (a,b4f a b n) else bif !(a2w a (a0o a.G b)).2 then (a,5) else ({ a with Dirty:=a7c a.Dirty (d1y a b n) },0)
def a4g (a:Arr) (s:Int):Int:=bif !a3o a then 1 else bif a.Down then 6 else bif !a0r a.G s then 2 else 0
def c0t (a:Arr) (n:Nat) (p:Arr×Int):Arr×Int:=bif p.2 == 0 then ({ p.1 with Dirty:=del p.1.Dirty n },0) else p
def a0t (a:Arr) (s:Int):Arr×Int:=
 bif a4g a s != 0 then (a,a4g a s) else bif decide (a4u a s<0) then (a,0) else
 c0t a (a4u a s).toNat (a1v a s (a.Dirty.getD (a4u a s).toNat default).Data)
theorem d6g {a:Arr} {b:Int} (h:(a2c a b != 0)=false):a3o a=true∧a.Down=false∧a2s a.G b=true:=by
 have h1:=d6d h
 refine ⟨h1.1,?_,h1.2⟩
 cases hd:a.Down
 ·rfl
 ·unfold a2c at h
  rw [h1.1,hd] at h
  simp at h
theorem f5h {a:Arr} {b n:Int} (h:(b4f a b n != 0)=false):(a2c a b != 0)=false∧c5z n=true:=by
 unfold b4f at h
 cases h1:(a2c a b == 0)&&!c5z n
 ·rw [h1] at h
  refine ⟨h,?_⟩
  have h2:(a2c a b == 0)=true:=by simpa using h
  rw [h2] at h1;simpa using h1
 ·rw [h1] at h;simp at h
theorem b1h (a:Arr) (b n:Int):(a0w a b n).1.w≤a.w+5:=by
 unfold a0w
 cases hc:b4f a b n != 0
 ·cases hd:(a2w a (a0o a.G b)).2
  ·exact Nat.le_add_right _ _
  ·have h1:=d6g (f5h hc).1
   have h2:=f4p h1.1 hd
   obtain ⟨g1,g2,g3,g4⟩:=a1k (c8z h1.1).1
   have h3:=h5k a.Dirty (d1y a b n)
   have e1:(d1y a b n).w=(a2w a (a0o a.G b)).1.length:=List.length_set
   show wL Dsk.w a.Mems+wL Ent.w (a7c a.Dirty (d1y a b n))≤wL Dsk.w a.Mems+wL Ent.w a.Dirty+5
   omega
 ·exact Nat.le_add_right _ _
theorem e1c (a:Arr) (s:Int) (data:List Int):(a1v a s data).1.w≤a.w+105∧(a1v a s data).1.Dirty=a.Dirty:=by
 unfold a1v
 cases hc:a1p a s data == 0
 ·exact ⟨Nat.le_add_right _ _,rfl⟩
 ·have h1:=e6d hc
  obtain ⟨g1,g2,g3,g4⟩:=a1k (c8z h1.1).1
  have g5:=(c8z h1.1).2.1
  obtain ⟨_,k2,_,k4⟩:=f5f a s data
  refine ⟨?_,k2⟩
  show (a3d a s data).w≤_
  omega
theorem b4g (a:Arr) (s:Int):(a0t a s).1.w≤a.w+105:=by
 unfold a0t
 cases a4g a s != 0
 ·cases decide (a4u a s<0)
  ·obtain ⟨h1,h2⟩:=e1c a s (a.Dirty.getD (a4u a s).toNat default).Data
   show (c0t a _ _).1.w≤_
   unfold c0t
   generalize a1v a s (a.Dirty.getD (a4u a s).toNat default).Data=p at *
   cases p.2 == 0
   ·exact h1
   ·have h3:=i8b Ent.w p.1.Dirty (a4u a s).toNat
    show wL Dsk.w p.1.Mems+wL Ent.w (del p.1.Dirty _)≤_
    have e:p.1.w=wL Dsk.w p.1.Mems+wL Ent.w p.1.Dirty:=rfl
    omega
  ·exact Nat.le_add_right _ _
 ·exact Nat.le_add_right _ _
def a5p (a:Arr) (j:Job):Arr×List Int×Int:=
 bif j.C.Op == 1 then (a,bif (a1u a (j.C.Lba+j.At)).2 == 0 then j.Got++[(a1u a (j.C.Lba+j.At)).1] else j.Got,(a1u a (j.C.Lba+j.At)).2)
 else bif j.C.Op == 4 then ((a0t a j.At).1,j.Got,(a0t a j.At).2)
 else bif j.C.Op == 5 then
  (bif (a1u a (j.C.Lba+j.At)).2 != 0 then (a,j.Got,(a1u a (j.C.Lba+j.At)).2)
  else bif (a1u a (j.C.Lba+j.At)).1 != j.C.Vals.getD 0 0 then (a,j.Got,4)
  else ((a0w a (j.C.Lba+j.At) (j.C.Vals.getD 1 0)).1,j.Got,(a0w a (j.C.Lba+j.At) (j.C.Vals.getD 1 0)).2))
 else bif j.C.Op == 6 then ((a0w a (j.C.Lba+j.At) 0).1,j.Got,(a0w a (j.C.Lba+j.At) 0).2)
 else bif decide (j.At<j.C.Vals.length) then ((a0w a (j.C.Lba+j.At) (j.C.Vals.getD j.At.toNat 0)).1,j.Got,(a0w a (j.C.Lba+j.At) (j.C.Vals.getD j.At.toNat 0)).2)
 else ((a0t a (a0o a.G j.C.Lba+j.At - j.C.Vals.length)).1,j.Got,(a0t a (a0o a.G j.C.Lba+j.At - j.C.Vals.length)).2)
def b8h (j:Job) (p:Arr×List Int×Int):Job:=⟨j.C,j.At+1,p.2.1,p.2.2⟩
def a7d (x:Eng) (n:Nat) (j:Job):Eng:=answer { x with Jobs:=del x.Jobs n } j.C ⟨j.C.Id,j.Code,bif (j.C.Op == 1)&&(j.Code == 0) then j.Got else []⟩
def c2e (x:Eng) (n:Nat) (j:Job) (p:Arr×List Int×Int):Eng:=
 bif p.2.2 == 0 then { x with A:=p.1,Jobs:=x.Jobs.set n (b8h j p) } else a7d { x with A:=p.1,Jobs:=x.Jobs.set n (b8h j p) } n (b8h j p)
def d6h (x:Eng) (n:Nat):Job:=x.Jobs.getD n default
def b7i (x:Eng) (n:Nat):Eng:=
 bif decide ((d6h x n).At<a2v x.A.G (d6h x n).C - 1)&&((d6h x n).Code == 0) then c2e x n (d6h x n) (a5p x.A (d6h x n)) else a7d x n (d6h x n)
def g0r (x:Eng) (q:Int):Eng×Bool:=bif d1u x&&(a0n q 0 ((x.Jobs.length:Int) - 1)&&decide (x.Log.length<400)) then (b7i x q.toNat,true) else (x,false)
theorem j0v (a:Arr) (j:Job):(a5p a j).1.w≤a.w+105∧(a5p a j).2.1.length≤j.Got.length+1:=by
 have hs:=fun b n=>b1h a b n
 have hf:=fun s=>b4g a s
 unfold a5p
 cases j.C.Op == 1
 ·cases j.C.Op == 4
  ·cases j.C.Op == 5
   ·cases j.C.Op == 6
    ·cases decide (j.At<j.C.Vals.length)
     ·exact ⟨hf _,Nat.le_add_right _ _⟩
     ·exact ⟨Nat.le_trans (hs _ _) (by omega),Nat.le_add_right _ _⟩
    ·exact ⟨Nat.le_trans (hs _ _) (by omega),Nat.le_add_right _ _⟩
   ·cases (a1u a (j.C.Lba+j.At)).2 != 0
    ·cases (a1u a (j.C.Lba+j.At)).1 != j.C.Vals.getD 0 0
     ·exact ⟨Nat.le_trans (hs _ _) (by omega),Nat.le_add_right _ _⟩
     ·exact ⟨Nat.le_add_right _ _,Nat.le_add_right _ _⟩
    ·exact ⟨Nat.le_add_right _ _,Nat.le_add_right _ _⟩
  ·exact ⟨hf _,Nat.le_add_right _ _⟩
 ·refine ⟨Nat.le_add_right _ _,?_⟩
  show (bif (a1u a (j.C.Lba+j.At)).2 == 0 then j.Got++[(a1u a (j.C.Lba+j.At)).1] else j.Got).length≤_
  cases (a1u a (j.C.Lba+j.At)).2 == 0
  ·exact Nat.le_add_right _ _
  ·simp
theorem i2u {α:Type} (f:α→Nat) (l:List α) {n:Nat} (h:n<l.length):wL f (del l n)+(1+f l[n])=wL f l:=by
 have h1:l=l.take n++l[n] :: l.drop (n+1):=by rw [← List.drop_eq_getElem_cons h,List.take_append_drop]
 have h2:wL f l=wL f (l.take n)+wL f (l[n] :: l.drop (n+1)):=(congrArg (wL f) h1).trans (d1p f _ _)
 rw [h2]
 unfold del
 rw [d1p,a6t];omega
theorem h5l (x:Eng) {n:Nat} (hn:n<x.Jobs.length) (j:Job) (hj:x.Jobs[n]=j):(a7d x n j).w≤x.w+j.Got.length+1:=by
 have h1:=i2u Job.w x.Jobs hn
 have hv:(bif (j.C.Op == 1)&&(j.Code == 0) then j.Got else []).length≤j.Got.length:=by
  cases (j.C.Op == 1)&&(j.Code == 0)
  ·exact Nat.zero_le _
  ·exact Nat.le_refl _
 rw [hj] at h1
 have e1:j.w=j.C.w+j.Got.length:=rfl
 show x.A.w+wL Cmd.w x.Wait+wL Job.w (del x.Jobs n)+wL Ans.w (x.Done++[_])+wL Turn.w (x.Log++[_])≤x.A.w+wL Cmd.w x.Wait+wL Job.w x.Jobs+wL Ans.w x.Done+wL Turn.w x.Log+j.Got.length+1
 rw [d1p,d1p,a6t,a6t,h4n,h4n]
 have a1:(⟨j.C.Id,j.Code,bif (j.C.Op == 1)&&(j.Code == 0) then j.Got else []⟩:Ans).w=(bif (j.C.Op == 1)&&(j.Code == 0) then j.Got else []).length:=rfl
 have a2:∀ a:Ans,(⟨j.C,a⟩:Turn).w=j.C.w+a.w:=fun _=>rfl
 rw [a2,a1]
 omega
theorem i6m (x:Eng) {n:Nat} (hn:n<x.Jobs.length) (hg:x.Jobs[n].Got.length≤6):(b7i x n).w≤x.w+120:=by
 have hj:d6h x n=x.Jobs[n]:=a2t hn _
 have e0:x.w=x.A.w+wL Cmd.w x.Wait+wL Job.w x.Jobs+wL Ans.w x.Done+wL Turn.w x.Log:=rfl
 have e1:x.Jobs[n].w=x.Jobs[n].C.w+x.Jobs[n].Got.length:=rfl
 unfold b7i
 rw [hj]
 cases decide (x.Jobs[n].At<a2v x.A.G x.Jobs[n].C - 1)&&(x.Jobs[n].Code == 0)
 ·have:=h5l x hn x.Jobs[n] rfl
  show (a7d x n x.Jobs[n]).w≤_
  omega
 ·obtain ⟨w1,w2⟩:=j0v x.A x.Jobs[n]
  generalize a5p x.A x.Jobs[n]=p at *
  have e2:(b8h x.Jobs[n] p).w=x.Jobs[n].C.w+p.2.1.length:=rfl
  have hset:=h5f Job.w x.Jobs n (b8h x.Jobs[n] p) hn
  have hy:({ x with A:=p.1,Jobs:=x.Jobs.set n (b8h x.Jobs[n] p) }:Eng).w≤x.w+106:=by
   show p.1.w+wL Cmd.w x.Wait+wL Job.w (x.Jobs.set n _)+wL Ans.w x.Done+wL Turn.w x.Log≤_
   omega
  show (c2e x n x.Jobs[n] p).w≤_
  unfold c2e
  cases p.2.2 == 0
  ·have:=h5l { x with A:=p.1,Jobs:=x.Jobs.set n (b8h x.Jobs[n] p) } (n:=n) (by simpa using hn) (b8h x.Jobs[n] p) (by simp)
   have e4:(b8h x.Jobs[n] p).Got=p.2.1:=rfl
   rw [e4] at this
   show (a7d _ n _).w≤_
   omega
  ·show ({ x with A:=p.1,Jobs:=x.Jobs.set n (b8h x.Jobs[n] p) }:Eng).w≤_
   omega
theorem f5i {x:Eng} (h:d1u x=true) {n:Nat} (hn:n<x.Jobs.length):e7z x.A.G x.Jobs[n]=true∧a3o x.A=true:=by
 unfold d1u at h
 obtain ⟨h1,h2⟩:=a0e h
 exact ⟨List.all_eq_true.1 h1 _ (List.getElem_mem hn),(a0e h2).1⟩
theorem h3a {g:Geo} {j:Job} (h:e7z g j=true):a2q g j.C=0∧0≤j.At∧j.At≤40∧j.Got.length≤6:=by
 unfold e7z at h
 simp only [Bool.and_eq_true] at h
 have:=a1c h.2.1
 exact ⟨by simpa using h.1,this.1,this.2,of_decide_eq_true h.2.2.1⟩
theorem j3j (x:Eng) (q:Int):(g0r x q).1.w≤x.w+120:=by
 unfold g0r
 cases h:d1u x&&(a0n q 0 ((x.Jobs.length:Int) - 1)&&decide (x.Log.length<400))
 ·show x.w≤_;omega
 ·have h1:=a1c (a0e (a0e h).2).1
  have hn:q.toNat<x.Jobs.length:=by omega
  exact i6m x hn (h3a (f5i (a0e h).1 hn).1).2.2.2
def h7s (a:Arr):Prop:=inI a.Seq∧inI a.Tail
theorem e3j {a:Arr} (h:a3o a=true):0≤a.Seq∧a.Seq≤60000∧0≤a.Tail∧a.Tail≤60000∧0≤a.Gen∧a.Gen≤60000∧a.Seq - a.Tail≤4∧Fz a∧-1≤a.Lost∧a.Lost≤a.G.N - 1:=by
 unfold a3o e0u d1t at h
 simp only [Bool.and_eq_true] at h
 obtain ⟨_,_,_,⟨l1,_⟩,_,_,⟨⟨⟨c1,c2⟩,c3⟩,c4⟩,c5⟩:=h
 have:=a1c l1
 have:=a1c c1
 have:=a1c c2
 have:=a1c c3
 have:=a1c c4
 have:=a1c c5
 unfold Fz
 omega
theorem d2p {g:Geo} {s:Int} (h:a0r g s=true):0≤a1b g s∧a1b g s<g.N:=by
 obtain ⟨_,_,h1,h2⟩:=e8o h
 obtain ⟨hg,_,_⟩:=a3p h
 obtain ⟨_,_,_,_⟩:=a1k hg
 have e:a1b g s=g.N - 1 - s % g.N:=by unfold a1b;rw [h];rfl
 have:=Int.emod_nonneg s (b:=g.N) (by omega)
 rw [e];omega
theorem j3k {g:Geo} {s i:Int} (h:a0r g s=true) (h0:0≤i) (h1:i<g.N - 1):a9k g s i=(a1b g s+1+i) % g.N:=by
 unfold a9k
 rw [h,show a0n i 0 (g.N - 2)=true by unfold a0n;simp;omega];rfl
def d2v (g:Geo) (s:Int) (data:List Int) (i m:Nat):Int:=bif (m:Int) == a1b g s then i8e data else bif decide (((m:Int) - a1b g s - 1+g.N) % g.N<i) then data.getD (((m:Int) - a1b g s - 1+g.N) % g.N).toNat 0 else 0
theorem h7t {g:Geo} {s:Int} (h:a0r g s=true) (data:List Int) (i:Nat) (hi:(i:Int)<g.N - 1) :
  ((List.range g.N.toNat).map (d2v g s data i)).set (a9k g s i).toNat (data.getD i 0)=(List.range g.N.toNat).map (d2v g s data (i+1)):=by
 obtain ⟨hp0,hp1⟩:=d2p h
 obtain ⟨g1,g2,_,_⟩:=a1k (a3p h).1
 have hd:=j3k h (i:=i) (by omega) hi
 have hN:g.N=3∨g.N=4∨g.N=5:=by omega
 refine List.ext_getElem (by simp) fun m h1 h2=>?_
 have hm:(m:Int)<g.N:=by simp at h2;omega
 rw [List.getElem_set]
 simp only [List.getElem_map,List.getElem_range]
 unfold d2v
 rw [hd]
 generalize a1b g s=p at *
 split
 ·rename_i he
  have hx:((m:Int) - p - 1+g.N) % g.N=i∧(m:Int)≠p:=by rcases hN with h | h | h <;> rw [h] at he hi hm ⊢ <;> omega
  rw [hx.1,show ((m:Int) == p)=false by simpa using hx.2,decide_eq_true (by omega:(i:Int)<((i+1:Nat):Int))]
  simp
 ·rename_i he
  cases hmp:((m:Int) == p)
  ·have hmp':(m:Int)≠p:=by simpa using hmp
   have hx:((m:Int) - p - 1+g.N) % g.N≠i:=by rcases hN with h | h | h <;> rw [h] at he hi hm ⊢ <;> omega
   rw [cond_false,cond_false]
   by_cases hlt:((m:Int) - p - 1+g.N) % g.N<i
   ·rw [decide_eq_true hlt,decide_eq_true (by omega:((m:Int) - p - 1+g.N) % g.N<((i+1:Nat):Int))]
   ·rw [decide_eq_false hlt,decide_eq_false (by omega:¬ ((m:Int) - p - 1+g.N) % g.N<((i+1:Nat):Int))]
  ·rfl
theorem h3b {g:Geo} {s:Int} (h:a0r g s=true) (data:List Int) :
  (List.replicate g.N.toNat (0:Int)).set (a1b g s).toNat (i8e data)=(List.range g.N.toNat).map (d2v g s data 0):=by
 obtain ⟨hp0,hp1⟩:=d2p h
 obtain ⟨g1,g2,_,_⟩:=a1k (a3p h).1
 refine List.ext_getElem (by simp) fun m h1 h2=>?_
 rw [List.getElem_set]
 simp only [List.getElem_map,List.getElem_range,List.getElem_replicate]
 unfold d2v
 have:=Int.emod_nonneg ((m:Int) - a1b g s - 1+g.N) (b:=g.N) (by omega)
 rw [decide_eq_false (by omega:¬ ((m:Int) - a1b g s - 1+g.N) % g.N<((0:Nat):Int))]
 generalize a1b g s=p at *
 split
 ·rename_i he
  rw [show ((m:Int) == p)=true by simp;omega];rfl
 ·rename_i he
  rw [show ((m:Int) == p)=false by simp;omega];rfl
theorem h7u {g:Geo} {s:Int} (h:a0r g s=true) (data:List Int) (hd:(data.length:Int)=g.N - 1) (m:Nat) (hm:(m:Int)<g.N):d2v g s data data.length m=c2c g s data m:=by
 obtain ⟨hp0,hp1⟩:=d2p h
 obtain ⟨g1,g2,_,_⟩:=a1k (a3p h).1
 have hN:g.N=3∨g.N=4∨g.N=5:=by omega
 unfold d2v c2c
 generalize a1b g s=p at *
 cases hmp:((m:Int) == p)
 ·have hmp':(m:Int)≠p:=by simpa using hmp
  have hx:((m:Int) - p - 1+g.N) % g.N<data.length:=by rcases hN with h | h | h <;> rw [h] at hm hp1 hd ⊢ <;> omega
  rw [decide_eq_true hx];rfl
 ·rfl
theorem h7v {g:Geo} {s:Int} (h:a0r g s=true) (m:Nat) (hm:(m:Int)<g.N) (hmp:(m:Int)≠a1b g s):0≤((m:Int) - a1b g s - 1+g.N) % g.N∧((m:Int) - a1b g s - 1+g.N) % g.N<g.N - 1:=by
 obtain ⟨hp0,hp1⟩:=d2p h
 obtain ⟨g1,g2,_,_⟩:=a1k (a3p h).1
 have hN:g.N=3∨g.N=4∨g.N=5:=by omega
 generalize a1b g s=p at *
 rcases hN with h | h | h <;> rw [h] at hm hp1 ⊢ <;> omega
abbrev Arr.stM (i:Int) (a:Arr) (ms:List (List T)):Int×Int×Int×Int×Int×Int×Int×Int×Int×Int×Bool×Bool×List (List T)×List (List T):=
 (i,a.Id,a.G.N,a.G.S,a.Lost,a.Built,a.Seq,a.Tail,a.Gen,a.Fuse,a.Down,a.Broken,ms,a1e a.Dirty)
abbrev Arr.st (i:Nat) (a:Arr):=a.stM (i:Int) (a2p a.Mems)
theorem h5m {f:Arr→Nat→Arr} (K:Arr→Option Outs) {n:Nat} (I:Nat→Arr→Prop) {b:(Int×Int×Int×Int×Int×Int×Int×Int×Int×Int×Bool×Bool×List (List T)×List (List T)→Option Outs)→Int×Int×Int×Int×Int×Int×Int×Int×Int×Int×Bool×Bool×List (List T)×List (List T)→Option Outs}
  (hI:∀ i a,i<n→I i a→I (i+1) (f a i)) (hs:∀ i a G,i<n→I i a→b G (a.st i)=G ((f a i).st (i+1))) (he:∀ a G,I n a→b G (a.st n)=K a) {j:Nat} {a:Arr} (h0:I 0 a) (hj:n<j):a1l b j (a.st 0)=K (run f 0 n a):=by
 have key:∀ d i j a,i+d=n→d<j→I i a→a1l b j (a.st i)=K (run f i d a):=by
  intro d
  induction d with
  | zero=>
   intro i j a hi hj h
   obtain ⟨j,rfl⟩:∃ q,j=q+1:=⟨j - 1,by omega⟩
   have:i=n:=by omega
   subst this
   exact he a _ h
  | succ d ih=>
   intro i j a hi hj h
   obtain ⟨j,rfl⟩:∃ q,j=q+1:=⟨j - 1,by omega⟩
   rw [a1l,hs i a _ (by omega) h]
   exact ih (i+1) j (f a i) (by omega) (by omega) (hI i a (by omega) h)
 exact key n 0 j a (by omega) hj h0
theorem h5n {f:Arr→Nat→Arr} (hd:∀ a i,a.Down=true→f a i=a) (K:Arr→Option Outs) {n:Nat} (I:Nat→Arr→Prop) {b:(Int×Int×Int×Int×Int×Int×Int×Int×Int×Int×Bool×Bool×List (List T)×List (List T)→Option Outs)→Int×Int×Int×Int×Int×Int×Int×Int×Int×Int×Bool×Bool×List (List T)×List (List T)→Option Outs}
  (hI:∀ i a,i<n→I i a→I (i+1) (f a i)) (hs:∀ i a G,i<n→I i a→a.Down=false→b G (a.st i)=bif (f a i).Down then K (f a i) else G ((f a i).st (i+1))) (he:∀ a G,I n a→a.Down=false→b G (a.st n)=K a) {j:Nat} {a:Arr} (h0:I 0 a) (hD:a.Down=false) (hj:n<j):a1l b j (a.st 0)=K (run f 0 n a):=by
 have key:∀ d i j a,i+d=n→d<j→I i a→a.Down=false→a1l b j (a.st i)=K (run f i d a):=by
  intro d
  induction d with
  | zero=>
   intro i j a hi hj h hD
   obtain ⟨j,rfl⟩:∃ q,j=q+1:=⟨j - 1,by omega⟩
   have:i=n:=by omega
   subst this
   exact he a _ h hD
  | succ d ih=>
   intro i j a hi hj h hD
   obtain ⟨j,rfl⟩:∃ q,j=q+1:=⟨j - 1,by omega⟩
   rw [a1l,hs i a _ (by omega) h hD]
   show _=K (run f (i+1) d (f a i))
   cases hfd:(f a i).Down
   ·exact ih (i+1) j (f a i) (by omega) (by omega) (hI i a (by omega) h) hfd
   ·rw [g6d hd d (i+1) hfd];rfl
 exact key n 0 j a (by omega) hj h0 hD
theorem e8s {l:List Dsk} {i:Nat} (h:i<l.length) (d:Dsk):a0z (a2p l) i 0 d.e=a2p (l.set i d):=e3d Dsk.e h 0 d.e d rfl
abbrev j5o (es:List (List T)) (m:Nat):List T:=[.r (at_ es m 0).asR,.r (at_ es m 1).asR,.b (at_ es m 2).asB,.r (at_ es m 3).asR]
theorem h5o {a:Arr} {m:Nat} (h:m<a.Mems.length):j5o (a2p a.Mems) m=(dsk a m).e:=by
 unfold j5o
 rw [a0u _ h,a0u _ h,a0u _ h,a0u _ h,h5g h];rfl
theorem e1d {a:Arr} {m:Nat} (h:m<a.Mems.length):(at_ (a2p a.Mems) m 2).asB=(dsk a m).Failed:=by
 rw [a0u _ h,h5g h];rfl
theorem i6n {a:Arr} {m W:Nat} (h:m<a.Mems.length) (hw:a.w≤W):(dsk a m).w≤W:=by
 have:=a1r Dsk.w h
 rw [h5g h]
 have e:a.w=wL Dsk.w a.Mems+wL Ent.w a.Dirty:=rfl
 omega
theorem j5p (a:Arr) (hD:a.Down=false) (hF:Fz a):Rn 1 N.k2e [.p a.e] ⟨[.b (!(op a).Down)],[(op a).e]⟩:=by
 refine Rn.of fun k hk=>?_
 unfold Fz at hF
 rw [g5a];unfold d9y
 rcases Bool.eq_false_or_eq_true (a.Fuse == 0) with h0 | h0
 ·have ho:op a={ a with Down:=true,Fuse:=-1 }:=by unfold op;rw [hD,h0];rfl
  rw [ho]
  exact a0p h0 rfl
 ·rcases Bool.eq_false_or_eq_true (decide (a.Fuse > 0)) with h1 | h1
  ·have ho:op a={ a with Fuse:=a.Fuse - 1 }:=by unfold op;rw [hD,h0,h1];rfl
   rw [ho]
   have:=of_decide_eq_true h1
   refine a0m h0 (a0p h1 ?_)
   rw [a0f (by omega) (by omega)]
   show some (⟨[.b true],[_]⟩:Outs)=some (⟨[.b (!a.Down)],[_]⟩:Outs)
   rw [hD];rfl
  ·have ho:op a=a:=by unfold op;rw [hD,h0,h1];rfl
   rw [ho]
   refine a0m h0 (a0m h1 ?_)
   show some (⟨[.b true],[a.e]⟩:Outs)=some ⟨[.b (!a.Down)],[a.e]⟩
   rw [show (!a.Down)=true by rw [hD];rfl]
theorem j5q (a:Arr) (hF:Fz a):Rn 1 N.k1o [.p a.e] ⟨[.b (!(op a).Down)],[(op a).e]⟩:=by
 refine Rn.of fun k hk=>?_
 unfold Fz at hF
 rw [h2d];unfold f1x
 rcases Bool.eq_false_or_eq_true a.Down with hD | hD
 ·have ho:op a=a:=h2y hD
  rw [ho]
  refine a0p hD ?_
  show some (⟨[.b false],[a.e]⟩:Outs)=some ⟨[.b (!a.Down)],[a.e]⟩
  rw [show (!a.Down)=false by rw [hD];rfl]
 ·refine a0m hD ?_
  rcases Bool.eq_false_or_eq_true (a.Fuse == 0) with h0 | h0
  ·have ho:op a={ a with Down:=true,Fuse:=-1 }:=by unfold op;rw [hD,h0];rfl
   rw [ho]
   exact a0p h0 rfl
  ·rcases Bool.eq_false_or_eq_true (decide (a.Fuse > 0)) with h1 | h1
   ·have ho:op a={ a with Fuse:=a.Fuse - 1 }:=by unfold op;rw [hD,h0,h1];rfl
    rw [ho]
    have:=of_decide_eq_true h1
    refine a0m h0 (a0p h1 ?_)
    rw [a0f (by omega) (by omega)]
    show some (⟨[.b true],[_]⟩:Outs)=some (⟨[.b (!a.Down)],[_]⟩:Outs)
    rw [hD];rfl
   ·have ho:op a=a:=by unfold op;rw [hD,h0,h1];rfl
    rw [ho]
    refine a0m h0 (a0m h1 ?_)
    show some (⟨[.b true],[a.e]⟩:Outs)=some ⟨[.b (!a.Down)],[a.e]⟩
    rw [show (!a.Down)=true by rw [hD];rfl]
theorem h3c (a:Arr) (m:Nat) (hm:m<a.Mems.length) (n:Int) (s:List Int) (hD:a.Down=false) (hF:Fz a) (hw:a.w≤2147483648) (hs:s.length≤Big) :
  Rn 9 N.j7x [.p a.e,.v [.i (m:Int)],.v [.i n],.v [.r (eIs s)]] ⟨[.b (!(put a m n s).Down)],[(put a m n s).e]⟩:=by
 refine Rn.of fun k hk=>?_
 have hB:Big=4294967296:=rfl
 rw [e7b];unfold c8d
 have hml:=a4i a (by omega)
 refine (a0g (by simp;omega) _).trans ?_
 have hm':m<(op a).Mems.length:=by rw [f5b];exact hm
 have hfa:=e1d hm
 rcases (Bool.eq_false_or_eq_true (dsk a m).Failed).symm with hfl | hfl
 ·refine a0m (hfa.trans hfl) (a1h (j5p a hD hF k (by omega)) ?_)
  rcases (Bool.eq_false_or_eq_true (op a).Down).symm with hd | hd
  ·rw [show put a m n s=h8a (op a) m (a4j (dsk a m) n s).1 by unfold put;rw [hfl,hd];rfl]
   refine a0m (show (!(!(op a).Down))=false by rw [hd];rfl) ?_
   refine (a0g (show (decide (0≤(m:Int))&&decide ((m:Int)<((a2p (op a).Mems).length:Int)))=true by simp;omega) _).trans ?_
   refine a1h ((congrArg (fun c=>a0a E P0 k N.k2f [.v c,.v [.i n],.v [.r (eIs s)]]) ((h5o hm').trans (congrArg Dsk.e (g0o a m)))).trans (h7k (dsk a m) n s (i6n hm hw) hs k (by omega))) ?_
   refine (a0g (show (decide (0≤(m:Int))&&decide ((m:Int)<((a2p (op a).Mems).length:Int)))=true by simp;omega) _).trans ?_
   refine (a0g (Nat.beq_refl _) _).trans ?_
   have hp:=e8s hm' (a4j (dsk a m) n s).1
   show some (⟨[.b true],[[_,_,_,.r (a0z (a2p (op a).Mems) m 0 (a4j (dsk a m) n s).1.e),_,_,_,_,_,_,_,_,_]]⟩:Outs)=some ⟨[.b (!(op a).Down)],[(h8a (op a) m (a4j (dsk a m) n s).1).e]⟩
   rw [hp,show (!(op a).Down)=true by rw [hd];rfl];rfl
  ·rw [show put a m n s=op a by unfold put;rw [hfl,hd];rfl]
   refine a0p (show (!(!(op a).Down))=true by rw [hd];rfl) ?_
   show some (⟨[.b false],[(op a).e]⟩:Outs)=some ⟨[.b (!(op a).Down)],[(op a).e]⟩
   rw [show (!(op a).Down)=false by rw [hd];rfl]
 ·rw [show put a m n s=a by unfold put;rw [hfl];rfl]
  refine a0p (hfa.trans hfl) ?_
  show some (⟨[.b true],[a.e]⟩:Outs)=some ⟨[.b (!a.Down)],[a.e]⟩
  rw [show (!a.Down)=true by rw [hD];rfl]
theorem h3d (a:Arr) (m:Nat) (hm:m<a.Mems.length) (n:Int) (s:List Int) (hF:Fz a) (hw:a.w≤2147483648) (hs:s.length≤Big) :
  Rn 9 N.j9g [.p a.e,.v [.i (m:Int)],.v [.i n],.v [.r (eIs s)]] ⟨[],[(put a m n s).e]⟩:=by
 refine Rn.of fun k hk=>?_
 have hB:Big=4294967296:=rfl
 rw [g8s];unfold e4y
 have hml:=a4i a (by omega)
 refine (a0g (by simp;omega) _).trans ?_
 have hm':m<(op a).Mems.length:=by rw [f5b];exact hm
 have hfa:=e1d hm
 rcases (Bool.eq_false_or_eq_true (dsk a m).Failed).symm with hfl | hfl
 ·refine a0m (hfa.trans hfl) (a1h (j5q a hF k (by omega)) ?_)
  rcases (Bool.eq_false_or_eq_true (op a).Down).symm with hd | hd
  ·rw [show put a m n s=h8a (op a) m (a4j (dsk a m) n s).1 by unfold put;rw [hfl,hd];rfl]
   refine a0m (show (!(!(op a).Down))=false by rw [hd];rfl) ?_
   refine (a0g (show (decide (0≤(m:Int))&&decide ((m:Int)<((a2p (op a).Mems).length:Int)))=true by simp;omega) _).trans ?_
   refine a1h ((congrArg (fun c=>a0a E P0 k N.k1p [.v c,.v [.i n],.v [.r (eIs s)]]) ((h5o hm').trans (congrArg Dsk.e (g0o a m)))).trans (h7l (dsk a m) n s (i6n hm hw) hs k (by omega))) ?_
   refine (a0g (show (decide (0≤(m:Int))&&decide ((m:Int)<((a2p (op a).Mems).length:Int)))=true by simp;omega) _).trans ?_
   have hp:=e8s hm' (a4j (dsk a m) n s).1
   show some (⟨[],[[_,_,_,.r (a0z (a2p (op a).Mems) m 0 (a4j (dsk a m) n s).1.e),_,_,_,_,_,_,_,_,_]]⟩:Outs)=some ⟨[],[(h8a (op a) m (a4j (dsk a m) n s).1).e]⟩
   rw [hp];rfl
  ·rw [show put a m n s=op a by unfold put;rw [hfl,hd];rfl]
   refine a0p (show (!(!(op a).Down))=true by rw [hd];rfl) ?_
   rfl
 ·rw [show put a m n s=a by unfold put;rw [hfl];rfl]
  exact a0p (hfa.trans hfl) rfl
def KB (a:Arr):Option Outs:=some ⟨[.b (!a.Down)],[a.e]⟩
def KU (a:Arr):Option Outs:=some ⟨[],[a.e]⟩
def Rnd (a0:Arr) (c:Nat) (i:Nat) (b:Arr):Prop:=Fz b∧Keep a0 b∧b.w≤a0.w+i*c
theorem Rnd.next {a0:Arr} {c i:Nat} {a b:Arr} (h:Rnd a0 c i a) (hf:Fz a→Fz b) (hk:Keep a b) (hw:b.w≤a.w+c):Rnd a0 c (i+1) b:=by
 refine ⟨hf h.1,h.2.1.trans hk,?_⟩
 have:=h.2.2
 rw [Nat.succ_mul];omega
theorem Rnd.first {a:Arr} {c:Nat} (h:Fz a):Rnd a c 0 a:=⟨h,Keep.refl a,by omega⟩
theorem Rnd.w {a0 b:Arr} {c i n:Nat} (h:Rnd a0 c i b) (hi:i≤n):b.w≤a0.w+n*c:=Nat.le_trans h.2.2 (Nat.add_le_add_left (Nat.mul_le_mul_right c hi) _)
theorem i2v (a:Arr) (hD:a.Down=false) (hF:Fz a) (hw:a.w≤2147483648):Rn 9 N.j7g [.p a.e] ⟨[.b (!(b6y a).Down)],[(b6y a).e]⟩:=by
 refine Rn.of fun k hk=>?_
 have hB:Big=4294967296:=rfl
 have hml:=a4i a (by omega)
 rw [f2z];unfold d0v b3f
 refine (h5n (f:=a3x) (fun _ _=>e6c) KB (n:=a.Mems.length) (Rnd a 0) (fun i b hi h=>h.next e3g (d1v b i) (f5d b i)) (fun i b G hi h hbD=>?_) (fun b G h hbD=>?_) (a:=a) (Rnd.first hF) hD (by omega)).trans rfl
 ·obtain ⟨h1,h2,h3⟩:=h
  have hbn:=h2.n
  have hm:i<b.Mems.length:=by omega
  have hm':i<(op b).Mems.length:=by rw [f5b];exact hm
  have hfa:=e1d hm
  unfold b0c b7p
  refine a0p (show decide ((i:Int)<((a2p a.Mems).length:Int))=true by simp;omega) ?_
  refine (a0g (show (decide (0≤(i:Int))&&decide ((i:Int)<((a2p b.Mems).length:Int)))=true by simp;omega) _).trans ?_
  rcases (Bool.eq_false_or_eq_true (dsk b i).Failed).symm with hfl | hfl
  ·refine a0m (hfa.trans hfl) (a1h (j5p b hbD h1 k (by omega)) ?_)
   rcases (Bool.eq_false_or_eq_true (op b).Down).symm with hd | hd
   ·rw [show a3x b i=h8a (op b) i (a5a (dsk b i)) by unfold a3x;rw [hfl,hd];rfl]
    refine a0m (show (!(!(op b).Down))=false by rw [hd];rfl) ?_
    refine (a0g (show (decide (0≤(i:Int))&&decide ((i:Int)<((a2p (op b).Mems).length:Int)))=true by simp;omega) _).trans ?_
    refine a1h ((congrArg (fun c=>a0a E P0 k N.j7w [.v c]) ((h5o hm').trans (congrArg Dsk.e (g0o b i)))).trans (h7m (dsk b i) (i6n hm (by omega)) k (by omega))) ?_
    refine (a0g (show (decide (0≤(i:Int))&&decide ((i:Int)<((a2p (op b).Mems).length:Int)))=true by simp;omega) _).trans ?_
    refine (a0g (Nat.beq_refl _) _).trans ?_
    have hp:=e8s hm' (a5a (dsk b i))
    show G ((op b).stM (W64 ((i:Int)+1)) (a0z (a2p (op b).Mems) i 0 (a5a (dsk b i)).e))=bif (op b).Down then _ else G ((h8a (op b) i (a5a (dsk b i))).st (i+1))
    rw [hp,a1s (by omega),hd];rfl
   ·rw [show a3x b i=op b by unfold a3x;rw [hfl,hd];rfl]
    refine a0p (show (!(!(op b).Down))=true by rw [hd];rfl) ?_
    show some (⟨[.b false],[(op b).e]⟩:Outs)=bif (op b).Down then some ⟨[.b (!(op b).Down)],[(op b).e]⟩ else _
    rw [show (!(op b).Down)=false by rw [hd];rfl,hd];rfl
  ·rw [show a3x b i=b by unfold a3x;rw [hfl];rfl]
   refine a0p (hfa.trans hfl) ?_
   show G (b.stM (W64 ((i:Int)+1)) (a2p b.Mems))=bif b.Down then _ else G (b.st (i+1))
   rw [a1s (by omega),hbD];rfl
 ·unfold b0c b7p
  refine a0m (show decide ((a.Mems.length:Int)<((a2p a.Mems).length:Int))=false by simp) ?_
  show some (⟨[.b true],[b.e]⟩:Outs)=some ⟨[.b (!b.Down)],[b.e]⟩
  rw [show (!b.Down)=true by rw [hbD];rfl]
theorem i2w (a:Arr) (hF:Fz a) (hw:a.w≤2147483648):Rn 9 N.j7d [.p a.e] ⟨[],[(b6y a).e]⟩:=by
 refine Rn.of fun k hk=>?_
 have hB:Big=4294967296:=rfl
 have hml:=a4i a (by omega)
 rw [g3w];unfold d8w b9o
 refine (h5m (f:=a3x) KU (n:=a.Mems.length) (Rnd a 0) (fun i b hi h=>h.next e3g (d1v b i) (f5d b i)) (fun i b G hi h=>?_) (fun b G h=>?_) (a:=a) (Rnd.first hF) (by omega)).trans rfl
 ·obtain ⟨h1,h2,h3⟩:=h
  have hbn:=h2.n
  have hm:i<b.Mems.length:=by omega
  have hm':i<(op b).Mems.length:=by rw [f5b];exact hm
  have hfa:=e1d hm
  unfold b6b c4j
  refine a0p (show decide ((i:Int)<((a2p b.Mems).length:Int))=true by simp;omega) ?_
  refine (a0g (show (decide (0≤(i:Int))&&decide ((i:Int)<((a2p b.Mems).length:Int)))=true by simp;omega) _).trans ?_
  rcases (Bool.eq_false_or_eq_true (dsk b i).Failed).symm with hfl | hfl
  ·refine a0p ((congrArg not (hfa.trans hfl)).trans rfl) (a1h (j5q b h1 k (by omega)) ?_)
   rcases (Bool.eq_false_or_eq_true (op b).Down).symm with hd | hd
   ·rw [show a3x b i=h8a (op b) i (a5a (dsk b i)) by unfold a3x;rw [hfl,hd];rfl]
    refine a0p (show (!(op b).Down)=true by rw [hd];rfl) ?_
    refine (a0g (show (decide (0≤(i:Int))&&decide ((i:Int)<((a2p (op b).Mems).length:Int)))=true by simp;omega) _).trans ?_
    refine a1h ((congrArg (fun c=>a0a E P0 k N.j7m [.v c]) ((h5o hm').trans (congrArg Dsk.e (g0o b i)))).trans (h7n (dsk b i) (i6n hm (by omega)) k (by omega))) ?_
    refine (a0g (show (decide (0≤(i:Int))&&decide ((i:Int)<((a2p (op b).Mems).length:Int)))=true by simp;omega) _).trans ?_
    have hp:=e8s hm' (a5a (dsk b i))
    show G ((op b).stM (W64 ((i:Int)+1)) (a0z (a2p (op b).Mems) i 0 (a5a (dsk b i)).e))=G ((h8a (op b) i (a5a (dsk b i))).st (i+1))
    rw [hp,a1s (by omega)];rfl
   ·rw [show a3x b i=op b by unfold a3x;rw [hfl,hd];rfl]
    refine a0m (show (!(op b).Down)=false by rw [hd];rfl) ?_
    show G ((op b).stM (W64 ((i:Int)+1)) (a2p (op b).Mems))=G ((op b).st (i+1))
    rw [a1s (by omega)]
  ·rw [show a3x b i=b by unfold a3x;rw [hfl];rfl]
   refine a0m ((congrArg not (hfa.trans hfl)).trans rfl) ?_
   show G (b.stM (W64 ((i:Int)+1)) (a2p b.Mems))=G (b.st (i+1))
   rw [a1s (by omega)]
 ·unfold b6b c4j
  have h2:=h.2.1.n
  exact a0m (show decide ((a.Mems.length:Int)<((a2p b.Mems).length:Int))=false by simp;omega) rfl
theorem j0w (r:Rec) (h:r.Data.length≤Big):Rn 4 N.k3z [.v r.e] ⟨[.b (f5e r)],[]⟩:=by
 refine Rn.of fun k hk=>?_
 rw [g9k];unfold e5p f5e
 refine a1h (a1o _ _ _ k (by omega)) ?_
 cases a0n r.Seq 0 60000
 ·rfl
 refine a0p rfl (a1h (a1o _ _ _ k (by omega)) ?_)
 cases a0n r.Stripe 0 7
 ·rfl
 refine a0p rfl ?_
 rw [List.length_map]
 refine a1h (a1o _ _ _ k (by omega)) ?_
 cases a0n (r.Data.length:Int) 2 4
 ·rfl
 exact a0p rfl (a1h (d1r r.Data h k (by omega)) rfl)
theorem j0x (r:Rec) (h:r.Data.length≤Big):Rn 4 N.k3j [.v r.e] ⟨[.b (f5e r)],[]⟩:=by
 refine Rn.of fun k hk=>?_
 rw [g8t];unfold e4z f5e
 refine a1h (a1f _ _ _ k (by omega)) ?_
 cases a0n r.Seq 0 60000
 ·rfl
 refine a0p rfl (a1h (a1f _ _ _ k (by omega)) ?_)
 cases a0n r.Stripe 0 7
 ·rfl
 refine a0p rfl ?_
 rw [List.length_map]
 refine a1h (a1f _ _ _ k (by omega)) ?_
 cases a0n (r.Data.length:Int) 2 4
 ·rfl
 exact a0p rfl (a1h (c6a r.Data h k (by omega)) rfl)
theorem h0p {r:Rec} (h:f5e r=true):r.Data.length≤4:=by
 unfold f5e at h
 simp only [Bool.and_eq_true] at h
 have:=a1c h.2.2.1
 omega
theorem i6o (r:Rec) (h:r.Data.length≤Big):Rn 5 N.k4a [.v r.e] ⟨[.r (eIs (d1w r))],[]⟩:=by
 refine Rn.of fun k hk=>?_
 rw [g5c];unfold e0a d1w
 refine a1h (j0w r h k (by omega)) ?_
 cases ho:f5e r
 ·rfl
 ·have:=h0p ho
  refine a0m rfl ((a0g (by simp;omega) _).trans ?_)
  rw [List.length_map];rfl
theorem i2x (q:Int):Rn 1 N.k3y [.v [.i q]] ⟨[.i (c7p q)],[]⟩:=by
 refine Rn.of fun k hk=>?_
 rw [g5b];unfold d9z c7p
 by_cases hq:q<0
 ·rw [decide_eq_true hq];rfl
 ·rw [decide_eq_false hq]
  have h1:=Int.tmod_eq_emod_of_nonneg (a:=q) (b:=4) (by omega)
  have h2:=Int.emod_nonneg q (b:=4) (by omega)
  have h3:=Int.emod_lt_of_pos q (b:=4) (by omega)
  show some (⟨[.i (W64 (2+Int.tmod q 4))],[]⟩:Outs)=_
  rw [h1,a0f (by omega) (by omega)];rfl
theorem i6p (r:Rec) (h:r.Data.length≤Big):Rn 5 N.k3k [.v r.e] ⟨[.r (eIs (d1w r))],[]⟩:=by
 refine Rn.of fun k hk=>?_
 rw [g3z];unfold d9a d1w
 refine a1h (j0x r h k (by omega)) ?_
 cases ho:f5e r
 ·rfl
 ·have:=h0p ho
  refine a0m rfl ((a0g (by simp;omega) _).trans ?_)
  rw [List.length_map];rfl
theorem i2y (q:Int):Rn 1 N.k3i [.v [.i q]] ⟨[.i (c7p q)],[]⟩:=by
 refine Rn.of fun k hk=>?_
 rw [g3y];unfold d8z c7p
 by_cases hq:q<0
 ·rw [decide_eq_true hq];rfl
 ·rw [decide_eq_false hq]
  have h1:=Int.tmod_eq_emod_of_nonneg (a:=q) (b:=4) (by omega)
  have h2:=Int.emod_nonneg q (b:=4) (by omega)
  have h3:=Int.emod_lt_of_pos q (b:=4) (by omega)
  show some (⟨[.i (W64 (2+Int.tmod q 4))],[]⟩:Outs)=_
  rw [h1,a0f (by omega) (by omega)];rfl
theorem j3l (l:List Int) (h:l.length≤Big):Rn 3 N.k4b [.v [.r (eIs l)]] ⟨[.i (i8e l)],[]⟩:=by
 refine Rn.of fun k hk=>?_
 rw [e2i];unfold c5s
 exact a1h (i1r l h k (by omega)) rfl
theorem j0y (l:List Int) (h:l.length≤Big):Rn 2 N.j9i [.v [.r (eIs l)]] ⟨[.i (i8e l)],[]⟩:=by
 refine Rn.of fun k hk=>?_
 unfold Big at h hk
 rw [g8v];unfold e5b c2v
 show a1l _ k (xN 0#64,((0:Nat):Int))=_
 refine a4y (R:=Outs) l.length (fun i=>(xN (i3l (fun i=>l.getD i 0) i),(i:Int))) (fun i=>some ⟨[.i (xN (i3l (fun i=>l.getD i 0) l.length))],[]⟩) (fun i hi G hG=>?_) (fun G=>?_) (by omega)
 ·unfold b9r c6u
  simp only [List.length_map,a6c hi,dlt hi,d0,Bool.and_self,a0i,cond_true,Int.toNat_natCast]
  rw [e0v,a1s (by omega)];exact hG
 ·unfold b9r c6u
  simp only [List.length_map,dll,cond_false]
theorem j3m (l:List Int) (h:l.length≤Big):Rn 3 N.k3l [.v [.r (eIs l)]] ⟨[.i (i8e l)],[]⟩:=by
 refine Rn.of fun k hk=>?_
 rw [e2b];unfold c5o
 exact a1h (j0y l h k (by omega)) rfl
def KS (a:Arr):Option Outs:=some ⟨[.b (!(b6y a).Down)],[(b6y a).e]⟩
def KT (a:Arr):Option Outs:=some ⟨[],[(b6y a).e]⟩
theorem i2z (a:Arr) (m:Nat):Rn 1 N.k3u [.v a.e,.v [.i (m:Int)]] ⟨(c5a a m).e,[]⟩:=by
 refine Rn.of fun k hk=>?_
 rw [f8f];rfl
theorem j3n (a:Arr) (hD:a.Down=false) (hF:Fz a) (hw:a.w+a.Mems.length*10≤2147483648) (hl:inI a.Lost) (hg:0≤a.Gen∧a.Gen≤100000) :
  Rn 10 N.k0b [.p a.e] ⟨[.b (!(mark a).Down)],[(mark a).e]⟩:=by
 refine Rn.of fun k hk=>?_
 have hB:Big=4294967296:=rfl
 have hml:=a4i a (by omega)
 rw [f3c];unfold d0y b3h
 rw [a0f (n:=a.Gen+1) (by omega) (by omega)]
 refine (h5n (f:=a8s) (fun _ _=>g6c) KS (n:=a.Mems.length) (Rnd { a with Gen:=a.Gen+1 } 10) (fun i b hi h=>h.next f5c (d6f b i) (g6e b i)) (fun i b G hi h hbD=>?_) (fun b G h hbD=>?_) (a:={ a with Gen:=a.Gen+1 }) (Rnd.first hF) hD (by omega)).trans rfl
 ·have hbw:=h.w (Nat.le_of_lt hi)
  obtain ⟨h1,h2,h3⟩:=h
  have hbn:b.Mems.length=a.Mems.length:=h2.n
  have hbl:inI b.Lost:=by
    have:b.Lost=a.Lost:=h2.lost
    rw [this];exact hl
  have hbw:b.w≤a.w+a.Mems.length*10:=hbw
  have hps:=(d6e (c5a b i)).2
  unfold b0d b7r
  refine a0p (show decide ((i:Int)<((a2p a.Mems).length:Int))=true by simp;omega) ?_
  refine a1h (i2z b i k (by omega)) (a1h (h7o (c5a b i) hbl k (by omega)) ?_)
  refine a1h (h3c b i (by omega) (Int.tmod b.Gen 2) (b4e (c5a b i)) hbD h1 (by omega) (by omega) k (by omega)) ?_
  show (bif !(!(a8s b i).Down) then _ else _)=_
  rcases (Bool.eq_false_or_eq_true (a8s b i).Down).symm with hd | hd
  ·refine a0m (show (!(!(a8s b i).Down))=false by rw [hd];rfl) ?_
   show G ((a8s b i).stM (W64 ((i:Int)+1)) (a2p (a8s b i).Mems))=bif (a8s b i).Down then _ else G ((a8s b i).st (i+1))
   rw [a1s (by omega),hd];rfl
  ·refine a0p (show (!(!(a8s b i).Down))=true by rw [hd];rfl) ?_
   show some (⟨[.b false],[(a8s b i).e]⟩:Outs)=bif (a8s b i).Down then KS (a8s b i) else _
   rw [hd]
   show _=KS (a8s b i)
   unfold KS
   rw [h0m hd,hd];rfl
 ·have hbw:=h.w (Nat.le_refl _)
  have hbw:b.w≤a.w+a.Mems.length*10:=hbw
  unfold b0d b7r
  refine a0m (show decide ((a.Mems.length:Int)<((a2p a.Mems).length:Int))=false by simp) ?_
  exact a1h (i2v b hbD h.1 (by omega) k (by omega)) rfl
theorem j3o (a:Arr) (hF:Fz a) (hw:a.w+a.Mems.length*10≤2147483648) (hl:inI a.Lost) (hg:0≤a.Gen∧a.Gen≤100000) :
  Rn 10 N.j9h [.p a.e] ⟨[],[(mark a).e]⟩:=by
 refine Rn.of fun k hk=>?_
 have hB:Big=4294967296:=rfl
 have hml:=a4i a (by omega)
 rw [g3x];unfold d8y b9p
 rw [a0f (n:=a.Gen+1) (by omega) (by omega)]
 refine (h5m (f:=a8s) KT (n:=a.Mems.length) (Rnd { a with Gen:=a.Gen+1 } 10) (fun i b hi h=>h.next f5c (d6f b i) (g6e b i)) (fun i b G hi h=>?_) (fun b G h=>?_) (a:={ a with Gen:=a.Gen+1 }) (Rnd.first hF) (by omega)).trans rfl
 ·have hbw:=h.w (Nat.le_of_lt hi)
  obtain ⟨h1,h2,h3⟩:=h
  have hbn:b.Mems.length=a.Mems.length:=h2.n
  have hbl:inI b.Lost:=by
   have:b.Lost=a.Lost:=h2.lost
   rw [this];exact hl
  have hbw:b.w≤a.w+a.Mems.length*10:=hbw
  have hps:=(d6e (c5a b i)).2
  unfold b6c c4k
  refine a0p (show decide ((i:Int)<((a2p b.Mems).length:Int))=true by simp;omega) ?_
  refine a1h (h7p (c5a b i) hbl k (by omega)) ?_
  refine a1h (h3d b i (by omega) (Int.tmod b.Gen 2) (b4e (c5a b i)) h1 (by omega) (by omega) k (by omega)) ?_
  show G ((a8s b i).stM (W64 ((i:Int)+1)) (a2p (a8s b i).Mems))=G ((a8s b i).st (i+1))
  rw [a1s (by omega)]
 ·have hbw:=h.w (Nat.le_refl _)
  have hbn:b.Mems.length=a.Mems.length:=h.2.1.n
  have hbw:b.w≤a.w+a.Mems.length*10:=hbw
  unfold b6c c4k
  refine a0m (show decide ((a.Mems.length:Int)<((a2p b.Mems).length:Int))=false by simp;omega) ?_
  exact a1h (i2w b h.1 (by omega) k (by omega)) rfl
theorem j0z (a:Arr) (hD:a.Down=false) (hF:Fz a) (hw:a.w+a.Mems.length*10≤2147483648) (hl:inI a.Lost) (hg:0≤a.Gen∧a.Gen≤100000) :
  Rn 11 N.k3x [.p a.e] ⟨[.b (!(a5q a).Down)],[(a5q a).e]⟩:=by
 refine Rn.of fun k hk=>?_
 have hB:Big=4294967296:=rfl
 have hk':=c6c a
 have hsw:=h0l a
 rw [e7d];unfold c8f
 refine a1h (i2v a hD hF (by omega) k (by omega)) ?_
 rcases c2b a with ⟨hd,e⟩ | ⟨hd,e⟩
 ·rw [e]
  refine a0p (show (!(!(b6y a).Down))=true by rw [hd];rfl) ?_
  show some (⟨[.b false],[(b6y a).e]⟩:Outs)=some ⟨[.b (!(b6y a).Down)],[(b6y a).e]⟩
  rw [show (!(b6y a).Down)=false by rw [hd];rfl]
 ·rw [e]
  refine a0m (show (!(!(b6y a).Down))=false by rw [hd];rfl) ?_
  exact a1h (j3n { b6y a with Tail:=(b6y a).Seq } hd (e3h hF) (show (b6y a).w+(b6y a).Mems.length*10≤_ by rw [hk'.n];omega) (show inI (b6y a).Lost by rw [hk'.lost];exact hl) (show 0≤(b6y a).Gen∧(b6y a).Gen≤100000 by rw [hk'.gen];exact hg) k (by omega)) rfl
theorem j1a (a:Arr) (hF:Fz a) (hw:a.w+a.Mems.length*10≤2147483648) (hl:inI a.Lost) (hg:0≤a.Gen∧a.Gen≤100000) :
  Rn 11 N.k3h [.p a.e] ⟨[],[(a5q a).e]⟩:=by
 refine Rn.of fun k hk=>?_
 have hB:Big=4294967296:=rfl
 have hk':=c6c a
 have hsw:=h0l a
 rw [f7e];unfold d4f
 refine a1h (i2w a hF (by omega) k (by omega)) ?_
 rcases c2b a with ⟨hd,e⟩ | ⟨hd,e⟩
 ·rw [e]
  exact a0p hd rfl
 ·rw [e]
  refine a0m hd ?_
  exact a1h (j3o { b6y a with Tail:=(b6y a).Seq } (e3h hF) (show (b6y a).w+(b6y a).Mems.length*10≤_ by rw [hk'.n];omega) (show inI (b6y a).Lost by rw [hk'.lost];exact hl) (show 0≤(b6y a).Gen∧(b6y a).Gen≤100000 by rw [hk'.gen];exact hg) k (by omega)) rfl
theorem g0s (r:Rec) (a:Arr) (m:Nat):Keep a (b7h r a m):=e8q _ _ _ _
theorem i3a (r:Rec) (a:Arr) (m:Nat):(b7h r a m).w≤a.w+9:=by
 have h1:=i2l a m (c7p r.Seq) (d1w r)
 have h2:=d2o r
 unfold b7h;omega
theorem h5p (a:Arr) (r:Rec) (hr:r.Data.length≤Big) (hD:a.Down=false) (hF:Fz a) (hw:a.w+a.Mems.length*9≤2147483648) :
  Rn 10 N.j7y [.p a.e,.v r.e] ⟨[.b (!(b8p a r).Down)],[(b8p a r).e]⟩:=by
 refine Rn.of fun k hk=>?_
 have hB:Big=4294967296:=rfl
 have hml:=a4i a (by omega)
 have hrl:=d2o r
 rw [e2h];unfold c5r a8k
 refine (h5n (f:=b7h r) (fun _ _=>g6c) KS (n:=a.Mems.length) (Rnd a 9) (fun i b hi h=>h.next f5c (g0s r b i) (i3a r b i)) (fun i b G hi h hbD=>?_) (fun b G h hbD=>?_) (a:=a) (Rnd.first hF) hD (by omega)).trans rfl
 ·have hbw:=h.w (Nat.le_of_lt hi)
  obtain ⟨h1,h2,h3⟩:=h
  have hbn:b.Mems.length=a.Mems.length:=h2.n
  unfold a6x b3i
  refine a0p (show decide ((i:Int)<((a2p a.Mems).length:Int))=true by simp;omega) ?_
  refine a1h (i2x r.Seq k (by omega)) (a1h (i6o r hr k (by omega)) ?_)
  refine a1h (h3c b i (by omega) (c7p r.Seq) (d1w r) hbD h1 (by omega) (by omega) k (by omega)) ?_
  show (bif !(!(b7h r b i).Down) then _ else _)=_
  rcases (Bool.eq_false_or_eq_true (b7h r b i).Down).symm with hd | hd
  ·refine a0m (show (!(!(b7h r b i).Down))=false by rw [hd];rfl) ?_
   show G ((b7h r b i).stM (W64 ((i:Int)+1)) (a2p (b7h r b i).Mems))=bif (b7h r b i).Down then _ else G ((b7h r b i).st (i+1))
   rw [a1s (by omega),hd];rfl
  ·refine a0p (show (!(!(b7h r b i).Down))=true by rw [hd];rfl) ?_
   show some (⟨[.b false],[(b7h r b i).e]⟩:Outs)=bif (b7h r b i).Down then KS (b7h r b i) else _
   rw [hd]
   show _=KS (b7h r b i)
   unfold KS
   rw [h0m hd,hd];rfl
 ·have hbw:=h.w (Nat.le_refl _)
  unfold a6x b3i
  refine a0m (show decide ((a.Mems.length:Int)<((a2p a.Mems).length:Int))=false by simp) ?_
  exact a1h (i2v b hbD h.1 (by omega) k (by omega)) rfl
theorem h5q (a:Arr) (r:Rec) (hr:r.Data.length≤Big) (hF:Fz a) (hw:a.w+a.Mems.length*9≤2147483648) :
  Rn 10 N.j7n [.p a.e,.v r.e] ⟨[],[(b8p a r).e]⟩:=by
 refine Rn.of fun k hk=>?_
 have hB:Big=4294967296:=rfl
 have hml:=a4i a (by omega)
 have hrl:=d2o r
 rw [g8u];unfold e5a c2u
 refine (h5m (f:=b7h r) KT (n:=a.Mems.length) (Rnd a 9) (fun i b hi h=>h.next f5c (g0s r b i) (i3a r b i)) (fun i b G hi h=>?_) (fun b G h=>?_) (a:=a) (Rnd.first hF) (by omega)).trans rfl
 ·have hbw:=h.w (Nat.le_of_lt hi)
  obtain ⟨h1,h2,h3⟩:=h
  have hbn:b.Mems.length=a.Mems.length:=h2.n
  unfold b9q c6t
  refine a0p (show decide ((i:Int)<((a2p b.Mems).length:Int))=true by simp;omega) ?_
  refine a1h (i2y r.Seq k (by omega)) (a1h (i6p r hr k (by omega)) ?_)
  refine a1h (h3d b i (by omega) (c7p r.Seq) (d1w r) h1 (by omega) (by omega) k (by omega)) ?_
  show G ((b7h r b i).stM (W64 ((i:Int)+1)) (a2p (b7h r b i).Mems))=G ((b7h r b i).st (i+1))
  rw [a1s (by omega)]
 ·have hbw:=h.w (Nat.le_refl _)
  have hbn:b.Mems.length=a.Mems.length:=h.2.1.n
  unfold b9q c6t
  refine a0m (show decide ((a.Mems.length:Int)<((a2p b.Mems).length:Int))=false by simp;omega) ?_
  exact a1h (i2w b h.1 (by omega) k (by omega)) rfl
theorem e8t {l:List Int} {i:Nat} (h:i<l.length) (n:Int):a0z (eIs l) i 0 [.i n]=eIs (l.set i n):=e3d (fun n=>[.i n]) h 0 [.i n] n rfl
theorem g0t {s:Int} {data:List Int} {a:Arr} {m:Nat} (h:Fz a):Fz (a2o s data a m):=by
 unfold a2o;cases c1z a m s
 ·exact h
 ·exact f5c h
theorem h0q (s:Int) (data:List Int) (a:Arr) (m:Nat):(a2o s data a m).w≤a.w+2:=by
 unfold a2o;cases c1z a m s
 ·exact Nat.le_add_right _ _
 ·exact i2l _ _ _ _
theorem g0u (a:Arr) (s:Int) (data:List Int) (hs:a0r a.G s=true) (hd:(data.length:Int)=a.G.N - 1) (hn:(a.Mems.length:Int)=a.G.N) (hD:a.Down=false) (hF:Fz a) (hw:a.w+a.Mems.length*2≤2147483648) :
  Rn 10 N.j6p [.p a.e,.v [.i s],.v [.r (eIs data)]] ⟨[.b (!(a7b a s data).Down)],[(a7b a s data).e]⟩:=by
 refine Rn.of fun k hk=>?_
 have hB:Big=4294967296:=rfl
 obtain ⟨hp0,hp1⟩:=d2p hs
 obtain ⟨g1,g2,_,_⟩:=a1k (a3p hs).1
 rw [e7e];unfold b7t b7s
 refine (a0g (by simp;omega) _).trans ?_
 refine a1h (g0k a.G s k (by omega)) (a1h (j3l data (by omega) k (by omega)) ?_)
 refine (a0g (show (decide (0≤a1b a.G s)&&decide (a1b a.G s<((List.replicate a.G.N.toNat ([.i 0]:List T)).length:Int)))=true by simp;omega) _).trans ?_
 have e0:a0z (List.replicate a.G.N.toNat ([.i 0]:List T)) (a1b a.G s).toNat 0 [.i (i8e data)]=eIs ((List.range a.G.N.toNat).map (d2v a.G s data 0)):=by
  rw [← h3b hs data,← e8t (by simp;omega),eIs,List.map_replicate]
 show a1l _ k ((0:Int),a0z (List.replicate a.G.N.toNat ([.i 0]:List T)) (a1b a.G s).toNat 0 [.i (i8e data)])=_
 rw [e0]
 refine (a4y (R:=Outs) data.length (fun i=>((i:Int),eIs ((List.range a.G.N.toNat).map (d2v a.G s data i)))) (fun _=>KB (a7b a s data)) (fun i hi G hG=>?_) (fun G=>?_) (by omega)).trans rfl
 ·have hi':(i:Int)<a.G.N - 1:=by omega
  have hwi:a0n (i:Int) 0 (a.G.N - 2)=true:=by unfold a0n;simp;omega
  obtain ⟨b0,b1⟩:=g5w hs hwi
  unfold a4c a8m
  refine a0p (show decide ((i:Int)<((eIs data).length:Int))=true by simp;omega) ?_
  refine (a0g (show (decide (0≤(i:Int))&&decide ((i:Int)<((eIs data).length:Int)))=true by simp;omega) _).trans ?_
  refine a1h (h5a a.G s i k (by omega)) ?_
  refine (a0g (show (decide (0≤a9k a.G s i)&&decide (a9k a.G s i<((eIs ((List.range a.G.N.toNat).map (d2v a.G s data i))).length:Int)))=true by simp;omega) _).trans ?_
  show G (W64 ((i:Int)+1),a0z (eIs ((List.range a.G.N.toNat).map (d2v a.G s data i))) (a9k a.G s i).toNat 0 [.i (at_ (eIs data) i 0).asI])=_
  rw [a6c hi,e8t (by simp;omega),h7t hs data i hi',a1s (by omega)]
  exact hG
 ·unfold a4c a8m
  refine a0m (show decide ((data.length:Int)<((eIs data).length:Int))=false by simp) ?_
  have hll:((List.range a.G.N.toNat).map (d2v a.G s data data.length)).length=a.Mems.length:=by simp;omega
  refine (h5n (f:=a2o s data) h0n KB (n:=a.Mems.length) (Rnd a 2) (fun i b hi h=>h.next g0t (d1x s data b i) (h0q s data b i)) (fun i b G hi h hbD=>?_) (fun b G h hbD=>?_) (a:=a) (Rnd.first hF) hD (by omega)).trans rfl
  ·have hbw:=h.w (Nat.le_of_lt hi)
   obtain ⟨h1,h2,h3⟩:=h
   have hbn:b.Mems.length=a.Mems.length:=h2.n
   have hbg:b.G=a.G:=h2.g
   unfold a4b a8l
   refine a0p (show decide ((i:Int)<((eIs ((List.range a.G.N.toNat).map (d2v a.G s data data.length))).length:Int))=true by rw [List.length_map,hll];exact dlt hi) ?_
   refine (a0g (show (decide (0≤(i:Int))&&decide ((i:Int)<((eIs ((List.range a.G.N.toNat).map (d2v a.G s data data.length))).length:Int)))=true by rw [List.length_map,hll,dlt hi];simp) _).trans ?_
   refine a1h (h4y b (by omega) i s k (by omega)) ?_
   rcases (Bool.eq_false_or_eq_true (c1z b i s)).symm with hl | hl
   ·rw [show a2o s data b i=b by unfold a2o;rw [hl];rfl]
    refine a0m hl ?_
    show G (b.stM (W64 ((i:Int)+1)) (a2p b.Mems))=bif b.Down then _ else G (b.st (i+1))
    rw [a1s (by omega),hbD];rfl
   ·have hX:put b i (a9j s) [c2c b.G s data i]=a2o s data b i:=by unfold a2o;rw [hl];rfl
    have hx:(at_ (eIs ((List.range a.G.N.toNat).map (d2v a.G s data data.length))) i 0).asI=c2c b.G s data i:=by
     rw [a6c (by omega),hbg,← h7u hs data hd i (by omega),List.getD_eq_getElem?_getD,List.getElem?_map,List.getElem?_range (by omega)];rfl
    refine a0p hl (a1h (h4w s k (by omega)) ?_)
    refine a1h ((congrArg (fun x=>a0a E P0 k N.j7x [.p b.e,.v [.i (i:Int)],.v [.i (a9j s)],.v [.r [[.i x]]]]) hx).trans (h3c b i (by omega) (a9j s) [c2c b.G s data i] hbD h1 (by omega) (by show 1≤Big;omega) k (by omega))) ?_
    rw [hX]
    rcases (Bool.eq_false_or_eq_true (a2o s data b i).Down).symm with hd | hd
    ·refine a0m (show (!(!(a2o s data b i).Down))=false by rw [hd];rfl) ?_
     show G ((a2o s data b i).stM (W64 ((i:Int)+1)) (a2p (a2o s data b i).Mems))=bif (a2o s data b i).Down then _ else G ((a2o s data b i).st (i+1))
     rw [a1s (by omega),hd];rfl
    ·refine a0p (show (!(!(a2o s data b i).Down))=true by rw [hd];rfl) ?_
     show some (⟨[.b false],[(a2o s data b i).e]⟩:Outs)=bif (a2o s data b i).Down then KB (a2o s data b i) else _
     rw [hd]
     show _=KB (a2o s data b i)
     unfold KB
     rw [hd];rfl
  ·unfold a4b a8l
   refine a0m (show decide ((a.Mems.length:Int)<((eIs ((List.range a.G.N.toNat).map (d2v a.G s data data.length))).length:Int))=false by rw [List.length_map,hll];exact dll) ?_
   show some (⟨[.b true],[b.e]⟩:Outs)=some ⟨[.b (!b.Down)],[b.e]⟩
   rw [show (!b.Down)=true by rw [hbD];rfl]
theorem g0v (a:Arr) (s:Int) (data:List Int) (hs:a0r a.G s=true) (hd:(data.length:Int)=a.G.N - 1) (hn:(a.Mems.length:Int)=a.G.N) (hF:Fz a) (hw:a.w+a.Mems.length*2≤2147483648) :
  Rn 10 N.j6y [.p a.e,.v [.i s],.v [.r (eIs data)]] ⟨[],[(a7b a s data).e]⟩:=by
 refine Rn.of fun k hk=>?_
 have hB:Big=4294967296:=rfl
 obtain ⟨hp0,hp1⟩:=d2p hs
 obtain ⟨g1,g2,_,_⟩:=a1k (a3p hs).1
 rw [g4c];unfold d9d b9s
 refine a1h (g0l a.G s k (by omega)) ?_
 refine (h5m (f:=a2o s data) KU (n:=a.Mems.length) (Rnd a 2) (fun i b hi h=>h.next g0t (d1x s data b i) (h0q s data b i)) (fun i b G hi h=>?_) (fun b G h=>?_) (a:=a) (Rnd.first hF) (by omega)).trans rfl
 ·have hbw:=h.w (Nat.le_of_lt hi)
  obtain ⟨h1,h2,h3⟩:=h
  have hbn:b.Mems.length=a.Mems.length:=h2.n
  have hbg:b.G=a.G:=h2.g
  have key:∀ x:Int,x=c2c b.G s data i→b6d k s b.Down b.Broken i b.Id b.G.N b.G.S b.Lost b.Built b.Seq b.Tail b.Gen b.Fuse (a2p b.Mems) (a1e b.Dirty) G x=G ((a2o s data b i).st (i+1)):=by
   intro x hx
   subst hx
   unfold b6d
   refine a1h (h4z b (by omega) i s k (by omega)) ?_
   rcases (Bool.eq_false_or_eq_true (c1z b i s)).symm with hl | hl
   ·rw [show a2o s data b i=b by unfold a2o;rw [hl];rfl]
    refine a0m hl ?_
    show G (b.stM (W64 ((i:Int)+1)) (a2p b.Mems))=G (b.st (i+1))
    rw [a1s (by omega)]
   ·have hX:put b i (a9j s) [c2c b.G s data i]=a2o s data b i:=by unfold a2o;rw [hl];rfl
    refine a0p hl (a1h (h4x s k (by omega)) ?_)
    refine a1h (h3d b i (by omega) (a9j s) [c2c b.G s data i] h1 (by omega) (by show 1≤Big;omega) k (by omega)) ?_
    rw [hX]
    show G ((a2o s data b i).stM (W64 ((i:Int)+1)) (a2p (a2o s data b i).Mems))=G ((a2o s data b i).st (i+1))
    rw [a1s (by omega)]
  unfold b6e c4l
  refine a0p (show decide ((i:Int)<((a2p b.Mems).length:Int))=true by simp;omega) ?_
  refine a1h (j3m data (by omega) k (by omega)) ?_
  rcases (Bool.eq_false_or_eq_true ((i:Int) == a1b b.G s)).symm with hp | hp
  ·have hp':(i:Int)≠a1b a.G s:=by rw [← hbg];simpa using hp
   obtain ⟨x0,x1⟩:=h7v hs i (by omega) hp'
   refine a0p (show ((i:Int) != a1b a.G s)=true by simpa using hp') ?_
   have hix:Int.tmod (W64 (W64 (W64 ((i:Int) - a1b a.G s) - 1)+b.G.N)) b.G.N=((i:Int) - a1b a.G s - 1+a.G.N) % a.G.N:=by
    rw [hbg,a0f (n:=(i:Int) - a1b a.G s) (by omega) (by omega),a0f (n:=(i:Int) - a1b a.G s - 1) (by omega) (by omega),a0f (by omega) (by omega),Int.tmod_eq_emod_of_nonneg (by omega)]
   refine (a0g (show (!decide (b.G.N=0))=true by rw [hbg];simp;omega) _).trans ?_
   refine (a0g (show (decide (0≤Int.tmod (W64 (W64 (W64 ((i:Int) - a1b a.G s) - 1)+b.G.N)) b.G.N)&&decide (Int.tmod (W64 (W64 (W64 ((i:Int) - a1b a.G s) - 1)+b.G.N)) b.G.N<((eIs data).length:Int)))=true by rw [hix,decide_eq_true x0,List.length_map,decide_eq_true (by omega)];rfl) _).trans ?_
   refine key _ ?_
   show (at_ (eIs data) (Int.tmod (W64 (W64 (W64 ((i:Int) - a1b a.G s) - 1)+b.G.N)) b.G.N).toNat 0).asI=_
   rw [hix,a6c (by omega)]
   unfold c2c
   rw [hbg,show ((i:Int) == a1b a.G s)=false by simpa using hp'];rfl
  ·have hp':(i:Int)=a1b a.G s:=by rw [← hbg];simpa using hp
   refine a0m (show ((i:Int) != a1b a.G s)=false by simpa using hp') ?_
   refine key _ ?_
   unfold c2c
   rw [hp];rfl
 ·have hbn:b.Mems.length=a.Mems.length:=h.2.1.n
  unfold b6e c4l
  exact a0m (show decide ((a.Mems.length:Int)<((a2p b.Mems).length:Int))=false by simp;omega) rfl
theorem e6e {a:Arr} {data:List Int} (ha:a3o a=true) (hdt:a9i a.G data=true):(data.length:Int)=a.G.N - 1∧data.length≤4:=by
 obtain ⟨g1,g2,_,_⟩:=a1k (c8z ha).1
 unfold a9i at hdt
 have h1:(data.length:Int)=a.G.N - 1:=by simpa using (a0e hdt).1
 exact ⟨h1,by omega⟩
theorem i6q (a:Arr) (s:Int) (data:List Int) (ha:a3o a=true) (hdt:a9i a.G data=true) (hD:a.Down=false) (hs:a0r a.G s=true) (hw:a.w≤1073741824) :
  Rn 12 N.k4c [.p a.e,.v [.i s],.v [.r (eIs data)]] ⟨[.b (!(a3d a s data).Down)],[(a3d a s data).e]⟩:=by
 refine Rn.of fun k hk=>?_
 have hB:Big=4294967296:=rfl
 obtain ⟨g1,g2,_,_⟩:=a1k (c8z ha).1
 obtain ⟨c1,c2,c3,c4,c5,c6,c7,hF,c8,c9⟩:=e3j ha
 have hmN:=(c8z ha).2.1
 obtain ⟨hdN,hd4⟩:=e6e ha hdt
 have hdl:data.length≤Big:=by omega
 rw [e2l];unfold c5t
 rw [a0f (n:=a.Seq - a.Tail) (by omega) (by omega)]
 rcases Bool.eq_false_or_eq_true (decide (a.Seq - a.Tail≥4)) with h4 | h4
 ·refine a0p h4 ?_
  have hSB:a2x a=a5q a:=by unfold a2x;exact a0p h4 rfl
  have hBF:=h5j hF
  have hBk:=e3i a
  have hBw:=h2z a
  have hBn:=hBk.n
  have hBg:=hBk.g
  have hBs:=hBk.seq
  refine a1h (j0z a hD hF (by omega) ⟨by omega,by omega⟩ ⟨by omega,by omega⟩ k (by omega)) ?_
  rcases (Bool.eq_false_or_eq_true (a5q a).Down).symm with hBD | hBD
  ·refine a0m (show (!(!(a5q a).Down))=false by rw [hBD];rfl) ?_
   have hrec:=h5p (a5q a) ⟨(a5q a).Seq,s,data⟩ hdl hBD hBF (by omega) k (by omega)
   have hk2:=c2d (a5q a) ⟨(a5q a).Seq,s,data⟩
   have hfz:=e1a (r:=⟨(a5q a).Seq,s,data⟩) hBF
   have hwr:=e1b (a5q a) ⟨(a5q a).Seq,s,data⟩
   generalize hC:b8p (a5q a) ⟨(a5q a).Seq,s,data⟩=C at hrec hk2 hfz hwr
   have hcn:C.Mems.length=a.Mems.length:=hk2.n.trans hBn
   have hcg:C.G=a.G:=hk2.g.trans hBg
   have hcs:C.Seq=a.Seq:=hk2.seq.trans hBs
   rw [hBn] at hwr
   refine a1h (a3m data hdl k (by omega)) (a1h hrec ?_)
   rcases (Bool.eq_false_or_eq_true C.Down).symm with hr | hr
   ·have hst:a3d a s data=a7b { C with Seq:=C.Seq+1 } s data:=by unfold a3d;rw [hSB,hBD,cond_false,hC];exact a0m hr rfl
    have hw1:W64 (C.Seq+1)=C.Seq+1:=a0f (by omega) (by omega)
    have hpw:=g0u { C with Seq:=C.Seq+1 } s data (by rw [show ({ C with Seq:=C.Seq+1 }:Arr).G=a.G from hcg];exact hs) (by rw [show ({ C with Seq:=C.Seq+1 }:Arr).G=a.G from hcg];exact hdN) (show (C.Mems.length:Int)=C.G.N by rw [hcn,hcg];exact hmN) hr hfz (show C.w+C.Mems.length*2≤_ by omega) k (by omega)
    rw [hst]
    refine a0m (show (!(!C.Down))=false by rw [hr];rfl) ?_
    refine a1h ((congrArg (fun q=>a0a E P0 k N.j6p [.p [.i C.Id,.i C.G.N,.i C.G.S,.r (a2p C.Mems),.i C.Lost,.i C.Built,.i q,.i C.Tail,.i C.Gen,.r (a1e C.Dirty),.i C.Fuse,.b C.Down,.b C.Broken],.v [.i s],.v [.r (eIs data)]]) hw1).trans hpw) ?_
    rfl
   ·have hst:a3d a s data=C:=by unfold a3d;rw [hSB,hBD,cond_false,hC];exact a0p hr rfl
    rw [hst]
    refine a0p (show (!(!C.Down))=true by rw [hr];rfl) ?_
    show some (⟨[.b false],[C.e]⟩:Outs)=some ⟨[.b (!C.Down)],[C.e]⟩
    rw [show (!C.Down)=false by rw [hr];rfl]
  ·have hst:a3d a s data=a5q a:=by unfold a3d;rw [hSB];exact a0p hBD rfl
   rw [hst]
   refine a0p (show (!(!(a5q a).Down))=true by rw [hBD];rfl) ?_
   show some (⟨[.b false],[(a5q a).e]⟩:Outs)=some ⟨[.b (!(a5q a).Down)],[(a5q a).e]⟩
   rw [show (!(a5q a).Down)=false by rw [hBD];rfl]
 ·refine a0m h4 ?_
  have hSB:a2x a=a:=by unfold a2x;exact a0m h4 rfl
  have hBF:=hF
  have hBw:a.w≤a.w:=Nat.le_refl _
  have hBn:a.Mems.length=a.Mems.length:=rfl
  have hBg:a.G=a.G:=rfl
  have hBs:a.Seq=a.Seq:=rfl
  have hBD:=hD
  have hrec:=h5p a ⟨a.Seq,s,data⟩ hdl hBD hBF (by omega) k (by omega)
  have hk2:=c2d a ⟨a.Seq,s,data⟩
  have hfz:=e1a (r:=⟨a.Seq,s,data⟩) hBF
  have hwr:=e1b a ⟨a.Seq,s,data⟩
  generalize hC:b8p a ⟨a.Seq,s,data⟩=C at hrec hk2 hfz hwr
  have hcn:C.Mems.length=a.Mems.length:=hk2.n.trans hBn
  have hcg:C.G=a.G:=hk2.g.trans hBg
  have hcs:C.Seq=a.Seq:=hk2.seq.trans hBs
  rw [hBn] at hwr
  refine a1h (a3m data hdl k (by omega)) (a1h hrec ?_)
  rcases (Bool.eq_false_or_eq_true C.Down).symm with hr | hr
  ·have hst:a3d a s data=a7b { C with Seq:=C.Seq+1 } s data:=by unfold a3d;rw [hSB,hBD,cond_false,hC];exact a0m hr rfl
   have hw1:W64 (C.Seq+1)=C.Seq+1:=a0f (by omega) (by omega)
   have hpw:=g0u { C with Seq:=C.Seq+1 } s data (by rw [show ({ C with Seq:=C.Seq+1 }:Arr).G=a.G from hcg];exact hs) (by rw [show ({ C with Seq:=C.Seq+1 }:Arr).G=a.G from hcg];exact hdN) (show (C.Mems.length:Int)=C.G.N by rw [hcn,hcg];exact hmN) hr hfz (show C.w+C.Mems.length*2≤_ by omega) k (by omega)
   rw [hst]
   refine a0m (show (!(!C.Down))=false by rw [hr];rfl) ?_
   refine a1h ((congrArg (fun q=>a0a E P0 k N.j6p [.p [.i C.Id,.i C.G.N,.i C.G.S,.r (a2p C.Mems),.i C.Lost,.i C.Built,.i q,.i C.Tail,.i C.Gen,.r (a1e C.Dirty),.i C.Fuse,.b C.Down,.b C.Broken],.v [.i s],.v [.r (eIs data)]]) hw1).trans hpw) ?_
   rfl
  ·have hst:a3d a s data=C:=by unfold a3d;rw [hSB,hBD,cond_false,hC];exact a0p hr rfl
   rw [hst]
   refine a0p (show (!(!C.Down))=true by rw [hr];rfl) ?_
   show some (⟨[.b false],[C.e]⟩:Outs)=some ⟨[.b (!C.Down)],[C.e]⟩
   rw [show (!C.Down)=false by rw [hr];rfl]
theorem i6r (a:Arr) (s:Int) (data:List Int) (ha:a3o a=true) (hdt:a9i a.G data=true) (hD:a.Down=false) (hs:a0r a.G s=true) (hw:a.w≤1073741824) :
  Rn 12 N.k1q [.p a.e,.v [.i s],.v [.r (eIs data)]] ⟨[.i (a4v (a3d a s data))],[(a3d a s data).e]⟩:=by
 refine Rn.of fun k hk=>?_
 have hB:Big=4294967296:=rfl
 obtain ⟨g1,g2,_,_⟩:=a1k (c8z ha).1
 obtain ⟨c1,c2,c3,c4,c5,c6,c7,hF,c8,c9⟩:=e3j ha
 have hmN:=(c8z ha).2.1
 obtain ⟨hdN,hd4⟩:=e6e ha hdt
 have hdl:data.length≤Big:=by omega
 rw [f7i];unfold d4h
 rw [a0f (n:=a.Seq - a.Tail) (by omega) (by omega)]
 rcases Bool.eq_false_or_eq_true (decide (a.Seq - a.Tail≥4)) with h4 | h4
 ·refine a0p h4 ?_
  have hSB:a2x a=a5q a:=by unfold a2x;exact a0p h4 rfl
  have hBF:=h5j hF
  have hBk:=e3i a
  have hBw:=h2z a
  have hBn:=hBk.n
  have hBg:=hBk.g
  have hBs:=hBk.seq
  refine a1h (j1a a hF (by omega) ⟨by omega,by omega⟩ ⟨by omega,by omega⟩ k (by omega)) ?_
  rcases (Bool.eq_false_or_eq_true (a5q a).Down).symm with hBD | hBD
  ·refine a0m hBD ?_
   have hrec:=h5q (a5q a) ⟨(a5q a).Seq,s,data⟩ hdl hBF (by omega) k (by omega)
   have hk2:=c2d (a5q a) ⟨(a5q a).Seq,s,data⟩
   have hfz:=e1a (r:=⟨(a5q a).Seq,s,data⟩) hBF
   have hwr:=e1b (a5q a) ⟨(a5q a).Seq,s,data⟩
   generalize hC:b8p (a5q a) ⟨(a5q a).Seq,s,data⟩=C at hrec hk2 hfz hwr
   have hcn:C.Mems.length=a.Mems.length:=hk2.n.trans hBn
   have hcg:C.G=a.G:=hk2.g.trans hBg
   have hcs:C.Seq=a.Seq:=hk2.seq.trans hBs
   rw [hBn] at hwr
   refine (a0g (by simp;omega) _).trans ?_
   refine a1h hrec ?_
   rcases (Bool.eq_false_or_eq_true C.Down).symm with hr | hr
   ·have hst:a3d a s data=a7b { C with Seq:=C.Seq+1 } s data:=by unfold a3d;rw [hSB,hBD,cond_false,hC];exact a0m hr rfl
    have hw1:W64 (C.Seq+1)=C.Seq+1:=a0f (by omega) (by omega)
    have hpw:=g0v { C with Seq:=C.Seq+1 } s data (by rw [show ({ C with Seq:=C.Seq+1 }:Arr).G=a.G from hcg];exact hs) (by rw [show ({ C with Seq:=C.Seq+1 }:Arr).G=a.G from hcg];exact hdN) (show (C.Mems.length:Int)=C.G.N by rw [hcn,hcg];exact hmN) hfz (show C.w+C.Mems.length*2≤_ by omega) k (by omega)
    rw [hst]
    refine a0m hr ?_
    refine a1h ((congrArg (fun q=>a0a E P0 k N.j6y [.p [.i C.Id,.i C.G.N,.i C.G.S,.r (a2p C.Mems),.i C.Lost,.i C.Built,.i q,.i C.Tail,.i C.Gen,.r (a1e C.Dirty),.i C.Fuse,.b C.Down,.b C.Broken],.v [.i s],.v [.r (eIs data)]]) hw1).trans hpw) ?_
    unfold a4v
    rcases (Bool.eq_false_or_eq_true (a7b { C with Seq:=C.Seq+1 } s data).Down).symm with hq | hq
    ·rw [hq];exact a0m hq rfl
    ·rw [hq];exact a0p hq rfl
   ·have hst:a3d a s data=C:=by unfold a3d;rw [hSB,hBD,cond_false,hC];exact a0p hr rfl
    rw [hst]
    unfold a4v;rw [hr];exact a0p hr rfl
  ·have hst:a3d a s data=a5q a:=by unfold a3d;rw [hSB];exact a0p hBD rfl
   rw [hst]
   unfold a4v;rw [hBD];exact a0p hBD rfl
 ·refine a0m h4 ?_
  have hSB:a2x a=a:=by unfold a2x;exact a0m h4 rfl
  have hBF:=hF
  have hBw:a.w≤a.w:=Nat.le_refl _
  have hBn:a.Mems.length=a.Mems.length:=rfl
  have hBg:a.G=a.G:=rfl
  have hBs:a.Seq=a.Seq:=rfl
  have hBD:=hD
  refine a0m hD ?_
  have hrec:=h5q a ⟨a.Seq,s,data⟩ hdl hBF (by omega) k (by omega)
  have hk2:=c2d a ⟨a.Seq,s,data⟩
  have hfz:=e1a (r:=⟨a.Seq,s,data⟩) hBF
  have hwr:=e1b a ⟨a.Seq,s,data⟩
  generalize hC:b8p a ⟨a.Seq,s,data⟩=C at hrec hk2 hfz hwr
  have hcn:C.Mems.length=a.Mems.length:=hk2.n.trans hBn
  have hcg:C.G=a.G:=hk2.g.trans hBg
  have hcs:C.Seq=a.Seq:=hk2.seq.trans hBs
  rw [hBn] at hwr
  refine (a0g (by simp;omega) _).trans ?_
  refine a1h hrec ?_
  rcases (Bool.eq_false_or_eq_true C.Down).symm with hr | hr
  ·have hst:a3d a s data=a7b { C with Seq:=C.Seq+1 } s data:=by unfold a3d;rw [hSB,hBD,cond_false,hC];exact a0m hr rfl
   have hw1:W64 (C.Seq+1)=C.Seq+1:=a0f (by omega) (by omega)
   have hpw:=g0v { C with Seq:=C.Seq+1 } s data (by rw [show ({ C with Seq:=C.Seq+1 }:Arr).G=a.G from hcg];exact hs) (by rw [show ({ C with Seq:=C.Seq+1 }:Arr).G=a.G from hcg];exact hdN) (show (C.Mems.length:Int)=C.G.N by rw [hcn,hcg];exact hmN) hfz (show C.w+C.Mems.length*2≤_ by omega) k (by omega)
   rw [hst]
   refine a0m hr ?_
   refine a1h ((congrArg (fun q=>a0a E P0 k N.j6y [.p [.i C.Id,.i C.G.N,.i C.G.S,.r (a2p C.Mems),.i C.Lost,.i C.Built,.i q,.i C.Tail,.i C.Gen,.r (a1e C.Dirty),.i C.Fuse,.b C.Down,.b C.Broken],.v [.i s],.v [.r (eIs data)]]) hw1).trans hpw) ?_
   unfold a4v
   rcases (Bool.eq_false_or_eq_true (a7b { C with Seq:=C.Seq+1 } s data).Down).symm with hq | hq
   ·rw [hq];exact a0m hq rfl
   ·rw [hq];exact a0p hq rfl
  ·have hst:a3d a s data=C:=by unfold a3d;rw [hSB,hBD,cond_false,hC];exact a0p hr rfl
   rw [hst]
   unfold a4v;rw [hr];exact a0p hr rfl
theorem i6s (x:Bool):Rn 1 N.k4d [.v [.b x]] ⟨[.i (bif x then 0 else 6)],[]⟩:=by
 refine Rn.of fun k hk=>?_
 rw [g5e];cases x <;> rfl
theorem g6g (a:Arr) (s:Int) (data:List Int) (hw:a.w≤1073741824) (hf:h7s a) (hdl:data.length≤Big) :
  Rn 13 N.k2g [.v a.e,.v [.i s],.v [.r (eIs data)]] ⟨(a1v a s data).1.e++[.i (a1v a s data).2],[]⟩:=by
 refine Rn.of fun k hk=>?_
 have hB:Big=4294967296:=rfl
 have fail:∀ c:Int,a1p a s data=c→(c == 0)=false→a1v a s data=(a,c):=fun c h1 h2=>by unfold a1v;rw [h1,h2];rfl
 rw [e0c];unfold c3g
 refine a1h (e0y a (by omega) k (by omega)) (a1h (f4l a (by omega) hf k (by omega)) ?_)
 rcases (Bool.eq_false_or_eq_true (a3o a)).symm with ha | ha
 ·rw [fail 1 (by unfold a1p;rw [ha];rfl) rfl]
  exact a0p (show (!(a3o a))=true by rw [ha];rfl) rfl
 refine a0m (show (!(a3o a))=false by rw [ha];rfl) ?_
 refine a1h (h4u a.G (c8z ha).1 data hdl k (by omega)) ?_
 unfold b0z
 rcases (Bool.eq_false_or_eq_true (a9i a.G data)).symm with hd | hd
 ·rw [fail 1 (by unfold a1p;rw [ha,hd];rfl) rfl]
  exact a0p (show (!(a9i a.G data))=true by rw [hd];rfl) rfl
 refine a0m (show (!(a9i a.G data))=false by rw [hd];rfl) ?_
 rcases Bool.eq_false_or_eq_true a.Down with hD | hD
 ·rw [fail 6 (by unfold a1p;rw [ha,hd,hD];rfl) rfl]
  exact a0p hD rfl
 refine a0m hD (a1h (b4u a.G s k (by omega)) ?_)
 rcases (Bool.eq_false_or_eq_true (a0r a.G s)).symm with hs | hs
 ·rw [fail 2 (by unfold a1p;rw [ha,hd,hD,hs];rfl) rfl]
  exact a0p (show (!(a0r a.G s))=true by rw [hs];rfl) rfl
 refine a0m (show (!(a0r a.G s))=false by rw [hs];rfl) ?_
 rcases Bool.eq_false_or_eq_true a.Broken with hb | hb
 ·rw [fail 5 (by unfold a1p;rw [ha,hd,hD,hs,hb];rfl) rfl]
  exact a0p hb rfl
 refine a0m hb ?_
 have full:((a.Seq == 60000) || decide (a.Gen≥59990))=true→a5y k s (eIs data) ⟨a.e,[]⟩ true=some ⟨(a1v a s data).1.e++[.i (a1v a s data).2],[]⟩:=fun h=>by
  rw [fail 7 (by unfold a1p;rw [ha,hd,hD,hs,hb,h];rfl) rfl];rfl
 rcases Bool.eq_false_or_eq_true (a.Seq == 60000) with hq | hq
 ·exact a0p hq (full (by rw [hq];rfl))
 refine a0m hq ?_
 rcases Bool.eq_false_or_eq_true (decide (a.Gen≥59990)) with hg | hg
 ·rw [hg];exact full (by rw [hg];simp)
 rw [hg]
 have h0:a1v a s data=(a3d a s data,a4v (a3d a s data)):=by
  unfold a1v
  rw [show a1p a s data=0 by unfold a1p;rw [ha,hd,hD,hs,hb,hq,hg];rfl];rfl
 rw [h0]
 unfold a5y
 refine a0m rfl (a1h (i6q a s data ha hd hD hs hw k (by omega)) (a1h (i6s _ k (by omega)) ?_))
 unfold a4v
 cases (a3d a s data).Down <;> rfl
theorem h0r (a:Arr) (s:Int) (data:List Int) (hw:a.w≤Big) (hf:h7s a) (hdl:data.length≤Big) :
  Rn 8 N.k1n [.v a.e,.v [.i s],.v [.r (eIs data)]] ⟨[.i (a1p a s data)],[]⟩:=by
 refine Rn.of fun k hk=>?_
 have hB:Big=4294967296:=rfl
 rw [g3v];unfold d8v
 refine a1h (g5s a (by omega) hf k (by omega)) ?_
 have one:(a3o a&&a9i a.G data)=false→a4w k a.G.S a.Seq a.Gen a.Down a.Broken s true=some ⟨[.i (a1p a s data)],[]⟩:=fun h=>by
  unfold a1p;rw [h];rfl
 rcases (Bool.eq_false_or_eq_true (a3o a)).symm with ha | ha
 ·exact a0p (show (!(a3o a))=true by rw [ha];rfl) (one (by rw [ha];rfl))
 refine a0m (show (!(a3o a))=false by rw [ha];rfl) ?_
 obtain ⟨g1,g2,g3,g4⟩:=a1k (c8z ha).1
 obtain ⟨c1,c2,c3,c4,c5,c6,c7,hF,c8,c9⟩:=e3j ha
 rw [List.length_map,a0f (n:=a.G.N - 1) (by omega) (by omega)]
 rcases (Bool.eq_false_or_eq_true ((data.length:Int) == a.G.N - 1)).symm with hn | hn
 ·exact a0p (show ((data.length:Int) != a.G.N - 1)=true by unfold bne;rw [hn];rfl) (one (by unfold a9i;rw [hn,ha];rfl))
 refine a0m (show ((data.length:Int) != a.G.N - 1)=false by unfold bne;rw [hn];rfl) ?_
 refine a1h (c6a data hdl k (by omega)) ?_
 rcases (Bool.eq_false_or_eq_true (b1c data)).symm with ho | ho
 ·show a4w k a.G.S a.Seq a.Gen a.Down a.Broken s (!(b1c data))=_
  rw [ho];exact one (by unfold a9i;rw [ho,ha];simp)
 show a4w k a.G.S a.Seq a.Gen a.Down a.Broken s (!(b1c data))=_
 have hd:a9i a.G data=true:=by unfold a9i;rw [hn,ho];rfl
 unfold a4w a1p
 rw [ho,ha,hd]
 refine a0m rfl ?_
 rcases Bool.eq_false_or_eq_true a.Down with hD | hD
 ·rw [hD];rfl
 refine a0m hD ?_
 rw [a0f (n:=a.G.S - 1) (by omega) (by omega)]
 refine a1h (a1f _ _ _ k (by omega)) ?_
 have hst:a0r a.G s=a0n s 0 (a.G.S - 1):=by unfold a0r;rw [(c8z ha).1];rfl
 rw [hst,hD]
 cases a0n s 0 (a.G.S - 1)
 ·rfl
 refine a0m rfl ?_
 rcases Bool.eq_false_or_eq_true a.Broken with hb | hb
 ·rw [hb];rfl
 refine a0m hb ?_
 rw [hb]
 by_cases h6:a.Seq=60000
 ·rw [show decide (a.Seq≥60000)=true from decide_eq_true (by omega),show (a.Seq == 60000)=true by simpa using h6];rfl
 rw [show decide (a.Seq≥60000)=false from decide_eq_false (by omega),show (a.Seq == 60000)=false by simpa using h6]
 cases decide (a.Gen≥59990) <;> rfl
theorem e8u {a:Arr} {n:Nat} (h:n<a.Dirty.length):(at_ (a1e a.Dirty) n 1).asR=eIs (a.Dirty.getD n default).Data:=by
 rw [a0u _ h,a2t h];rfl
theorem e1e (a:Arr) (s:Int) (hw:a.w≤1073741824) (hf:h7s a) :
  Rn 14 N.j7z [.v a.e,.v [.i s]] ⟨(a0t a s).1.e++[.i (a0t a s).2],[]⟩:=by
 refine Rn.of fun k hk=>?_
 have hB:Big=4294967296:=rfl
 have hml:=a4i a (by omega)
 have hc:=e0y a (by omega) k (by omega)
 have fail:∀ c:Int,a4g a s=c→(c != 0)=true→a0t a s=(a,c):=fun c h1 h2=>by unfold a0t;rw [h1,h2];rfl
 rw [e0d];unfold c3h
 refine a1h (f4l a (by omega) hf k (by omega)) ?_
 rcases (Bool.eq_false_or_eq_true (a3o a)).symm with ha | ha
 ·rw [fail 1 (by unfold a4g;rw [ha];rfl) rfl]
  exact a0p (show (!(a3o a))=true by rw [ha];rfl) (a1h hc rfl)
 refine a0m (show (!(a3o a))=false by rw [ha];rfl) ?_
 rcases Bool.eq_false_or_eq_true a.Down with hD | hD
 ·rw [fail 6 (by unfold a4g;rw [ha,hD];rfl) rfl]
  exact a0p hD (a1h hc rfl)
 refine a0m hD (a1h (b4u a.G s k (by omega)) ?_)
 rcases (Bool.eq_false_or_eq_true (a0r a.G s)).symm with hs | hs
 ·rw [fail 2 (by unfold a4g;rw [ha,hD,hs];rfl) rfl]
  exact a0p (show (!(a0r a.G s))=true by rw [hs];rfl) (a1h hc rfl)
 refine a0m (show (!(a0r a.G s))=false by rw [hs];rfl) (a1h (i1v a (by omega) s k (by omega)) ?_)
 have h0:a4g a s=0:=by unfold a4g;rw [ha,hD,hs];rfl
 rcases Bool.eq_false_or_eq_true (decide (a4u a s<0)) with hn | hn
 ·rw [show a0t a s=(a,0) by unfold a0t;rw [h0,hn];rfl]
  exact a0p hn (a1h hc rfl)
 have hn':=of_decide_eq_false hn
 have hix:=e0w (a:=a) (s:=s) (decide_eq_true (by omega))
 obtain ⟨n,hN⟩:∃ n:Nat,a4u a s=(n:Int):=⟨(a4u a s).toNat,by omega⟩
 rw [hN] at hix hn
 have hnl:n<a.Dirty.length:=by omega
 have hfs:a0t a s=c0t a n (a1v a s (a.Dirty.getD n default).Data):=by
  unfold a0t;rw [h0,hN,hn];rfl
 rw [hfs,hN]
 refine a0m hn ?_
 refine (a0g (show (decide (0≤(n:Int))&&decide ((n:Int)<((a1e a.Dirty).length:Int)))=true by simp;omega) _).trans ?_
 have hdw:=g5x a (by omega) hnl
 have hde:=a2t hnl (default:Ent)
 have hws:=g6g a s (a.Dirty.getD n default).Data hw hf (by rw [hde];omega) k (by omega)
 obtain ⟨w1,w2⟩:=e1c a s (a.Dirty.getD n default).Data
 generalize a1v a s (a.Dirty.getD n default).Data=p at hws w1 w2
 refine a1h ((congrArg (fun x=>a0a E P0 k N.k2g [.v a.e,.v [.i s],.v [.r x]]) (e8u hnl)).trans hws) ?_
 unfold c0t
 have hpl:n<(a1e p.1.Dirty).length:=by rw [List.length_map,w2];exact hnl
 rcases (Bool.eq_false_or_eq_true (p.2 == 0)).symm with hp | hp
 ·rw [hp]
  exact a0m hp rfl
 ·rw [hp]
  refine a0p hp ?_
  refine (a0g (a9l (l:=(a1e p.1.Dirty).length) hpl (by rw [List.length_map,w2];omega)) _).trans ?_
  have hd:=j3f (l:=a1e p.1.Dirty) hpl (by rw [List.length_map,w2];omega)
  have hz:p.2=0:=by simpa using hp
  show some (⟨[_,_,_,_,_,_,_,_,_,.r ((a1e p.1.Dirty).take (n:Int).toNat++(a1e p.1.Dirty).drop (W64 ((n:Int)+1)).toNat),_,_,_,.i p.2],[]⟩:Outs)=_
  rw [hd,hz,show del (a1e p.1.Dirty) n=a1e (del p.1.Dirty n) from (g5z Ent.e p.1.Dirty n).symm];rfl
theorem j1b (a:Arr) (s:Int) (hw:a.w≤1073741824) (hf:h7s a) (h0:(a4g a s != 0)=false) :
  Rn 13 N.k1r [.p a.e,.v [.i s]] ⟨[.i (a0t a s).2],[(a0t a s).1.e]⟩:=by
 refine Rn.of fun k hk=>?_
 have hB:Big=4294967296:=rfl
 have hml:=a4i a (by omega)
 rw [f7j];unfold d4i
 refine a1h (i1w a (by omega) s k (by omega)) ?_
 rcases Bool.eq_false_or_eq_true (decide (a4u a s<0)) with hn | hn
 ·rw [show a0t a s=(a,0) by unfold a0t;rw [h0,hn];rfl]
  exact a0p hn rfl
 have hn':=of_decide_eq_false hn
 have hix:=e0w (a:=a) (s:=s) (decide_eq_true (by omega))
 obtain ⟨n,hN⟩:∃ n:Nat,a4u a s=(n:Int):=⟨(a4u a s).toNat,by omega⟩
 rw [hN] at hix hn
 have hnl:n<a.Dirty.length:=by omega
 have hfs:a0t a s=c0t a n (a1v a s (a.Dirty.getD n default).Data):=by
  unfold a0t;rw [h0,hN,hn];rfl
 rw [hfs,hN]
 refine a0m hn ?_
 refine (a0g (show (decide (0≤(n:Int))&&decide ((n:Int)<((a1e a.Dirty).length:Int)))=true by simp;omega) _).trans ?_
 have hdw:=g5x a (by omega) hnl
 have hde:=a2t hnl (default:Ent)
 have hdl:(a.Dirty.getD n default).Data.length≤Big:=by rw [hde];omega
 have hcs:=h0r a s (a.Dirty.getD n default).Data (by omega) hf hdl k (by omega)
 refine a1h ((congrArg (fun x=>a0a E P0 k N.k1n [.v a.e,.v [.i s],.v [.r x]]) (e8u hnl)).trans hcs) ?_
 rcases (Bool.eq_false_or_eq_true (a1p a s (a.Dirty.getD n default).Data == 0)).symm with hq | hq
 ·have hq':(a1p a s (a.Dirty.getD n default).Data != 0)=true:=by unfold bne;rw [hq];rfl
  have hws:a1v a s (a.Dirty.getD n default).Data=(a,a1p a s (a.Dirty.getD n default).Data):=by unfold a1v;exact a0m hq rfl
  have hfe:c0t a n (a,a1p a s (a.Dirty.getD n default).Data)=(a,a1p a s (a.Dirty.getD n default).Data):=by unfold c0t;exact a0m hq rfl
  rw [hws,hfe]
  exact a0p hq' rfl
 ·have hq':(a1p a s (a.Dirty.getD n default).Data != 0)=false:=by unfold bne;rw [hq];rfl
  obtain ⟨t1,t2,t3,t4,t5,t6⟩:=e6d hq
  have hws:a1v a s (a.Dirty.getD n default).Data=(a3d a s (a.Dirty.getD n default).Data,a4v (a3d a s (a.Dirty.getD n default).Data)):=by
   unfold a1v;rw [hq];rfl
  rw [hws]
  refine a0m hq' ?_
  refine (a0g (show (decide (0≤(n:Int))&&decide ((n:Int)<((a1e a.Dirty).length:Int)))=true by simp;omega) _).trans ?_
  have hst:=i6r a s (a.Dirty.getD n default).Data t1 t2 t3 t4 hw k (by omega)
  have w2:=(f5f a s (a.Dirty.getD n default).Data).2.1
  generalize a3d a s (a.Dirty.getD n default).Data=c at hst w2
  refine a1h ((congrArg (fun x=>a0a E P0 k N.k1q [.p a.e,.v [.i s],.v [.r x]]) (e8u hnl)).trans hst) ?_
  unfold c0t
  have hpl:n<(a1e c.Dirty).length:=by rw [List.length_map,w2];exact hnl
  have hpl4:(a1e c.Dirty).length≤4294967296:=by rw [List.length_map,w2];omega
  rcases (Bool.eq_false_or_eq_true (a4v c == 0)).symm with hp | hp
  ·show _=some (⟨[.i (bif (a4v c == 0) then _ else _:Arr×Int).2],[(bif (a4v c == 0) then _ else _:Arr×Int).1.e]⟩:Outs)
   rw [hp]
   exact a0m hp rfl
  ·show _=some (⟨[.i (bif (a4v c == 0) then _ else _:Arr×Int).2],[(bif (a4v c == 0) then _ else _:Arr×Int).1.e]⟩:Outs)
   rw [hp]
   refine a0p hp ?_
   have hw1:W64 ((n:Int)+1)=(n:Int)+1:=a0f (by omega) (by omega)
   have hd:=i8c (l:=a1e c.Dirty) hpl hpl4
   have hz:a4v c=0:=by simpa using hp
   refine (a0g (show (decide ((0:Int)≤0)&&decide ((0:Int)≤n)&&decide ((n:Int)≤((a1e c.Dirty).length:Int)))=true by simp [w2];omega) _).trans ?_
   refine (a0g (show decide ((([]:List (List T)).length+(((a1e c.Dirty).drop (0:Int).toNat).take ((n:Int).toNat - (0:Int).toNat)).length)*32≤140737488355328)=true by simp [w2];omega) _).trans ?_
   refine (a0g (show (decide (0≤W64 ((n:Int)+1))&&decide (W64 ((n:Int)+1)≤((a1e c.Dirty).length:Int))&&decide (((a1e c.Dirty).length:Int)≤((a1e c.Dirty).length:Int)))=true by rw [hw1];simp [w2];omega) _).trans ?_
   refine (a0g (show decide (((([]:List (List T))++(((a1e c.Dirty).drop (0:Int).toNat).take ((n:Int).toNat - (0:Int).toNat))).length+(((a1e c.Dirty).drop (W64 ((n:Int)+1)).toNat).take (((a1e c.Dirty).length:Int).toNat - (W64 ((n:Int)+1)).toNat)).length)*32≤140737488355328)=true by rw [hw1];simp [w2];omega) _).trans ?_
   show some (⟨[.i (a4v c)],[[_,_,_,_,_,_,_,_,_,.r (((a1e c.Dirty).drop (0:Int).toNat).take (n - (0:Int).toNat)++((a1e c.Dirty).drop (W64 ((n:Int)+1)).toNat).take ((a1e c.Dirty).length - (W64 ((n:Int)+1)).toNat)),_,_,_]]⟩:Outs)=_
   rw [hd,hz,show del (a1e c.Dirty) n=a1e (del c.Dirty n) from (g5z Ent.e c.Dirty n).symm];rfl
def d1z (a:Arr):Int:=bif !a3o a then 1 else bif a.Down then 6 else 0
theorem i3b (a:Arr) (hw:a.w≤Big) (hf:h7s a):Rn 8 N.k3e [.v a.e] ⟨[.i (d1z a)],[]⟩:=by
 refine Rn.of fun k hk=>?_
 rw [g8r];unfold e4x d1z
 refine a1h (g5s a hw hf k (by omega)) ?_
 cases a3o a
 ·rfl
 ·refine a0m rfl ?_
  rcases (Bool.eq_false_or_eq_true a.Down) with hD | hD
  ·rw [hD];rfl
  ·rw [hD];rfl
theorem e1f (a:Arr) (s:Int) (hw:a.w≤1073741824) (hf:h7s a) :
  Rn 14 N.j7o [.v a.e,.v [.i s]] ⟨(a0t a s).1.e++[.i (a0t a s).2],[]⟩:=by
 refine Rn.of fun k hk=>?_
 have hB:Big=4294967296:=rfl
 have fail:∀ c:Int,a4g a s=c→(c != 0)=true→a0t a s=(a,c):=fun c h1 h2=>by unfold a0t;rw [h1,h2];rfl
 rw [d9e];unfold c2w
 refine a1h (f4x a (by omega) k (by omega)) (a1h (i3b a (by omega) hf k (by omega)) ?_)
 rcases (Bool.eq_false_or_eq_true (a3o a)).symm with ha | ha
 ·rw [fail 1 (by unfold a4g;rw [ha];rfl) rfl,show d1z a=1 by unfold d1z;rw [ha];rfl];rfl
 rcases Bool.eq_false_or_eq_true a.Down with hD | hD
 ·rw [fail 6 (by unfold a4g;rw [ha,hD];rfl) rfl,show d1z a=6 by unfold d1z;rw [ha,hD];rfl];rfl
 rw [show d1z a=0 by unfold d1z;rw [ha,hD];rfl]
 obtain ⟨g1,g2,g3,g4⟩:=a1k (c8z ha).1
 rw [a0f (n:=a.G.S - 1) (by omega) (by omega)]
 have hst:a0r a.G s=a0n s 0 (a.G.S - 1):=by unfold a0r;rw [(c8z ha).1];rfl
 refine a0p rfl (a1h (a1f _ _ _ k (by omega)) ?_)
 rcases (Bool.eq_false_or_eq_true (a0n s 0 (a.G.S - 1))).symm with hs | hs
 ·rw [fail 2 (by unfold a4g;rw [ha,hD,hst,hs];rfl) rfl]
  exact a0p (show (!(a0n s 0 (a.G.S - 1)))=true by rw [hs];rfl) rfl
 refine a0m (show (!(a0n s 0 (a.G.S - 1)))=false by rw [hs];rfl) ?_
 unfold b0y
 refine a0m rfl ?_
 exact a1h (j1b a s hw hf (by unfold a4g;rw [ha,hD,hst,hs];rfl) k (by omega)) rfl
theorem i3c (s:Int):∀ (l:List Ent) (i:Nat),i<e8r s l→(l.getD i default).Stripe<s
 | [],i,h=>by simp [e8r] at h
 | x :: l,i,h=>by
  unfold e8r at h
  cases hd:decide (x.Stripe<s)
  ·rw [hd] at h;simp at h
  ·rw [hd] at h
   cases i with
   | zero=>exact of_decide_eq_true hd
   | succ i=>simpa using i3c s l i (by simpa using h)
theorem i3d (s:Int):∀ l:List Ent,e8r s l<l.length→¬ (l.getD (e8r s l) default).Stripe<s
 | x :: l,h=>by
  have e1:e8r s (x :: l)=bif decide (x.Stripe<s) then e8r s l+1 else 0:=rfl
  cases hd:decide (x.Stripe<s)
  ·rw [hd] at e1
   rw [e1];exact of_decide_eq_false hd
  ·rw [hd] at e1
   rw [e1] at h ⊢
   simpa using i3d s l (by simpa using h)
theorem d2q (a:Arr) (b n:Int) (hw:a.w≤1073741824) (hf:h7s a) :
  Rn 12 N.j6d [.v a.e,.v [.i b],.v [.i n]] ⟨(a0w a b n).1.e++[.i (a0w a b n).2],[]⟩:=by
 refine Rn.of fun k hk=>?_
 have hB:Big=4294967296:=rfl
 have hml:=a4i a (by omega)
 rw [f2x];unfold d0t b3d
 refine a1h (e0y a (by omega) k (by omega)) (a1h (f4q a (by omega) hf b k (by omega)) ?_)
 have J2:∀ c:Int,b4f a b n=c→b0a k a.Id a.G.N a.G.S (a2p a.Mems) a.Lost a.Built a.Seq a.Tail a.Gen (a1e a.Dirty) a.Fuse a.Down a.Broken b n ⟨a.e,[]⟩ (fun y0 y1 y2 v=>a1l (a3n k y0 y1 y2) k v) c=some ⟨(a0w a b n).1.e++[.i (a0w a b n).2],[]⟩:=by
  intro c hc
  unfold b0a
  rcases Bool.eq_false_or_eq_true (c != 0) with h0 | h0
  ·rw [show a0w a b n=(a,c) by unfold a0w;rw [hc];exact a0p h0 rfl]
   exact a0p h0 rfl
  refine a0m h0 ?_
  have hsc:=f5h (a:=a) (b:=b) (n:=n) (by rw [hc];exact h0)
  obtain ⟨ha,hD,hb⟩:=d6g hsc.1
  refine a1h (d2k a.G b k (by omega)) (a1h (h0g a (by omega) hf ha _ (d2n hb) k (by omega)) ?_)
  rcases (Bool.eq_false_or_eq_true (a2w a (a0o a.G b)).2).symm with hd | hd
  ·rw [show a0w a b n=(a,5) by unfold a0w;rw [hc,h0,hd];rfl]
   exact a0p (show (!(a2w a (a0o a.G b)).2)=true by rw [hd];rfl) rfl
  have hsb:a0w a b n=({ a with Dirty:=a7c a.Dirty (d1y a b n) },0):=by unfold a0w;rw [hc,h0,hd];rfl
  refine a0m (show (!(a2w a (a0o a.G b)).2)=false by rw [hd];rfl) (a1h (h0e a.G b k (by omega)) ?_)
  obtain ⟨x0,x1⟩:=g5y ha hb hd
  refine (a0g (show (decide (0≤a8w a.G b)&&decide (a8w a.G b<((eIs (a2w a (a0o a.G b)).1).length:Int)))=true by rw [List.length_map];simp;omega) _).trans ?_
  have hpi:a0z (eIs (a2w a (a0o a.G b)).1) (a8w a.G b).toNat 0 [.i n]=eIs (d1y a b n).Data:=e8t (by omega) n
  have hss:(d1y a b n).Stripe=a0o a.G b:=rfl
  generalize d1y a b n=e at hsb hpi hss
  rw [hsb]
  show a1l (a3n k ⟨a.e,[]⟩ ⟨[.i (a0o a.G b)],[]⟩ (a0z (eIs (a2w a (a0o a.G b)).1) (a8w a.G b).toNat 0 [.i n])) k ((0:Nat):Int)=_
  rw [hpi,← hss]
  have hle:=i2p e.Stripe a.Dirty
  refine (a4y (R:=Outs) (e8r e.Stripe a.Dirty) (fun i=>(i:Int)) (fun _=>some ⟨({ a with Dirty:=a7c a.Dirty e }:Arr).e++[.i 0],[]⟩) (fun i hi G hG=>?_) (fun G=>?_) (by omega)).trans rfl
  ·have hlt:=i3c e.Stripe a.Dirty i hi
   unfold a3n b7n
   refine a0p (show decide ((i:Int)<((a1e a.Dirty).length:Int))=true by rw [List.length_map];exact dlt (by omega)) ?_
   refine (a0g (show (decide (0≤(i:Int))&&decide ((i:Int)<((a1e a.Dirty).length:Int)))=true by rw [List.length_map,dlt (by omega)];simp) _).trans ?_
   unfold a6g
   refine a0p (show decide ((at_ (a1e a.Dirty) i 0).asI<e.Stripe)=true by rw [f4k (by omega)];exact decide_eq_true hlt) ?_
   show G (W64 ((i:Int)+1))=_
   rw [a1s (by omega)];exact hG
  ·generalize hix:e8r e.Stripe a.Dirty=i at hle
   have ins:(∀ h:i<a.Dirty.length,a.Dirty[i].Stripe≠e.Stripe)→a4m k ⟨a.e,[]⟩ ⟨[.i e.Stripe],[]⟩ (eIs e.Data) (i:Int) false=some ⟨({ a with Dirty:=a7c a.Dirty e }:Arr).e++[.i 0],[]⟩:=by
    intro hne
    unfold a4m
    refine a0m rfl ?_
    refine (a0g (show (decide (0≤(i:Int))&&decide ((i:Int)≤((a1e a.Dirty).length:Int)))=true by rw [List.length_map];simp;omega) _).trans ?_
    refine (a0g (show decide (((a1e a.Dirty).length+([[.i e.Stripe,.r (eIs e.Data)]]:List (List T)).length)*32≤140737488355328)=true by simp;omega) _).trans ?_
    have hp:=g0q a.Dirty e (by rw [hix];exact hne)
    rw [hix] at hp
    have he:(a1e a.Dirty).take i++[e.e]++(a1e a.Dirty).drop i=a1e (a7c a.Dirty e):=by
     rw [hp];simp [List.map_take,List.map_drop]
    show some (⟨[_,_,_,_,_,_,_,_,_,.r ((a1e a.Dirty).take i++[e.e]++(a1e a.Dirty).drop i),_,_,_,.i 0],[]⟩:Outs)=_
    rw [he];rfl
   unfold a3n b7n
   by_cases hil:i<a.Dirty.length
   ·have hge:=i3d e.Stripe a.Dirty (by rw [hix];exact hil)
    rw [hix] at hge
    have hat:=f4k (l:=a.Dirty) hil
    refine a0p (show decide ((i:Int)<((a1e a.Dirty).length:Int))=true by rw [List.length_map];exact dlt hil) ?_
    refine (a0g (show (decide (0≤(i:Int))&&decide ((i:Int)<((a1e a.Dirty).length:Int)))=true by rw [List.length_map,dlt hil];simp) _).trans ?_
    unfold a6g
    refine a0m (show decide ((at_ (a1e a.Dirty) i 0).asI<e.Stripe)=false by rw [hat];exact decide_eq_false hge) ?_
    refine a0p (show decide ((i:Int)<((a1e a.Dirty).length:Int))=true by rw [List.length_map];exact dlt hil) ?_
    refine (a0g (show (decide (0≤(i:Int))&&decide ((i:Int)<((a1e a.Dirty).length:Int)))=true by rw [List.length_map,dlt hil];simp) _).trans ?_
    show a4m k ⟨a.e,[]⟩ ⟨[.i e.Stripe],[]⟩ (eIs e.Data) (i:Int) ((at_ (a1e a.Dirty) i 0).asI == e.Stripe)=_
    rw [hat]
    rcases (Bool.eq_false_or_eq_true ((a.Dirty.getD i default).Stripe == e.Stripe)).symm with he | he
    ·rw [he]
     exact ins fun h=>by rw [← a2t h default];simpa using he
    ·rw [he]
     have hse:a.Dirty[i].Stripe=e.Stripe:=by rw [← a2t hil default];simpa using he
     unfold a4m
     refine a0p rfl ?_
     refine (a0g (show (decide (0≤(i:Int))&&decide ((i:Int)<((a1e a.Dirty).length:Int)))=true by rw [List.length_map,dlt hil];simp) _).trans ?_
     have hp:=g0p a.Dirty e (by rw [hix];exact hil) (by simp only [hix];exact hse)
     rw [hix] at hp
     have hpm:a0z (a1e a.Dirty) i 1 [.r (eIs e.Data)]=a1e (a.Dirty.set i e):=e3d Ent.e hil 1 [.r (eIs e.Data)] e (by rw [show a.Dirty[i].e=[.i a.Dirty[i].Stripe,.r (eIs a.Dirty[i].Data)] from rfl,hse];rfl)
     show some (⟨[_,_,_,_,_,_,_,_,_,.r (a0z (a1e a.Dirty) i 1 [.r (eIs e.Data)]),_,_,_,.i 0],[]⟩:Outs)=_
     rw [hpm,← hp];rfl
   ·have hil':i=a.Dirty.length:=by omega
    refine a0m (show decide ((i:Int)<((a1e a.Dirty).length:Int))=false by rw [List.length_map];exact decide_eq_false (by omega)) ?_
    unfold a6g
    refine a0m rfl ?_
    refine a0m (show decide ((i:Int)<((a1e a.Dirty).length:Int))=false by rw [List.length_map];exact decide_eq_false (by omega)) ?_
    exact ins fun h=>absurd h hil
 have J1:∀ c:Bool,b4f a b n=(bif c then 3 else a2c a b)→b0b k a.Id a.G.N a.G.S (a2p a.Mems) a.Lost a.Built a.Seq a.Tail a.Gen (a1e a.Dirty) a.Fuse a.Down a.Broken b n ⟨a.e,[]⟩ ⟨[.i (a2c a b)],[]⟩ (fun y0 y1 y2 v=>a1l (a3n k y0 y1 y2) k v) c=some ⟨(a0w a b n).1.e++[.i (a0w a b n).2],[]⟩:=by
  intro c hc
  unfold b0b
  cases c
  ·exact a0m rfl (J2 _ hc)
  ·exact a0p rfl (J2 _ hc)
 rcases (Bool.eq_false_or_eq_true (a2c a b == 0)).symm with h0 | h0
 ·refine a0m h0 (J1 false ?_)
  unfold b4f;rw [h0];rfl
 ·refine a0p h0 (a1h (h4p n k (by omega)) (J1 (!(c5z n)) ?_))
  unfold b4f;rw [h0];rfl
theorem i6t {a:Arr} (h:d1s a=true):i8f a.Dirty:=by
 refine i2t fun i hi=>?_
 have h1:=d2l.1 h (i+1) hi
 unfold h2q at h1
 simp only [Bool.and_eq_true] at h1
 have h2:=h1.1.2
 unfold h2m at h2
 simpa using h2
theorem i6u (e:Ent) (p:List Ent×Bool) (x:Ent):(h0u e p x).1.length≤p.1.length+2:=by
 unfold h0u
 cases (!p.2&&decide (x.Stripe≥e.Stripe)) <;> cases (x.Stripe != e.Stripe) <;> simp
def h8b (e:Ent) (l:List Ent) (i:Nat):List Ent×Bool:=(l.take i).foldl (h0u e) ([],false)
theorem h0s (e:Ent) (l:List Ent) {i:Nat} (h:i<l.length):h8b e l (i+1)=h0u e (h8b e l i) l[i]:=by
 unfold h8b
 rw [List.take_add_one,List.getElem?_eq_getElem h,Option.toList_some,List.foldl_append];rfl
theorem g6h (e:Ent) (l:List Ent):∀ i,i≤l.length→(h8b e l i).1.length≤2*i
 | 0,_=>by simp [h8b]
 | i+1,h=>by
  rw [h0s e l (by omega)]
  have h1:=i6u e (h8b e l i) l[i]
  have h2:=g6h e l i (by omega)
  omega
theorem j5e (a:Arr) (e:Ent) (hw:a.w≤1073741824) (hu:i8f a.Dirty):Rn 2 N.j7p [.p a.e,.v e.e] ⟨[],[({ a with Dirty:=a7c a.Dirty e }:Arr).e]⟩:=by
 refine Rn.of fun k hk=>?_
 have hB:Big=4294967296:=rfl
 have hml:=a4i a (by omega)
 have hdl:a.Dirty.length≤1073741824:=by
  have h1:=a1q Ent.w a.Dirty
  have e0:a.w=wL Dsk.w a.Mems+wL Ent.w a.Dirty:=rfl
  omega
 rw [g8w];unfold e5c c2x
 refine (a4y (R:=Outs) a.Dirty.length (fun i=>((h8b e a.Dirty i).2,(i:Int),a1e (h8b e a.Dirty i).1)) (fun _=>some ⟨[],[({ a with Dirty:=a7c a.Dirty e }:Arr).e]⟩) (fun i hi G hG=>?_) (fun G=>?_) (by omega)).trans rfl
 ·have hn:=h0s e a.Dirty hi
  have hl:=g6h e a.Dirty i (by omega)
  have hat:=f4k (l:=a.Dirty) hi
  rw [a2t hi] at hat
  have hdat:=e8u (a:=a) hi
  rw [a2t hi] at hdat
  rw [hn] at hG
  generalize hp:h8b e a.Dirty i=p at hG hl
  obtain ⟨o,d⟩:=p
  have hcell:([.i (at_ (a1e a.Dirty) i 0).asI,.r (at_ (a1e a.Dirty) i 1).asR]:List T)=a.Dirty[i].e:=by rw [hat,hdat]
  have key:∀ c:Bool,c=(!d&&decide (a.Dirty[i].Stripe≥e.Stripe))→b9t k (a1e a.Dirty) e.Stripe (eIs e.Data) d (i:Int) (a1e o) G c=some ⟨[],[({ a with Dirty:=a7c a.Dirty e }:Arr).e]⟩:=by
   intro c hc
   unfold b9t
   have hbe:((at_ (a1e a.Dirty) i 0).asI != e.Stripe)=(a.Dirty[i].Stripe != e.Stripe):=by rw [hat]
   have hapE:a1e (o++[e])=a1e o++[e.e]:=by rw [a1e,List.map_append];rfl
   have hapX:∀ z:List Ent,a1e (z++[a.Dirty[i]])=a1e z++[a.Dirty[i].e]:=fun z=>by rw [a1e,List.map_append];rfl
   unfold h0u at hG
   simp only at hl
   cases c
   ·rw [← hc] at hG
    refine a0m rfl ?_
    refine (a0g (show (decide (0≤(i:Int))&&decide ((i:Int)<((a1e a.Dirty).length:Int)))=true by rw [List.length_map,dlt hi];simp) _).trans ?_
    rcases (Bool.eq_false_or_eq_true (a.Dirty[i].Stripe != e.Stripe)).symm with hx | hx
    ·rw [hx] at hG
     refine a0m (hbe.trans hx) ?_
     rw [a1s (by omega)];exact hG
    ·rw [hx] at hG
     refine a0p (hbe.trans hx) ?_
     refine (a0g (show (decide (0≤(i:Int))&&decide ((i:Int)<((a1e a.Dirty).length:Int)))=true by rw [List.length_map,dlt hi];simp) _).trans ?_
     refine (a0g (by simp;omega) _).trans ?_
     show G (d,W64 ((i:Int)+1),a1e o++[([.i (at_ (a1e a.Dirty) i 0).asI,.r (at_ (a1e a.Dirty) i 1).asR]:List T)])=_
     rw [a1s (by omega),hcell,← hapX];exact hG
   ·rw [← hc] at hG
    refine a0p rfl ?_
    refine (a0g (by simp;omega) _).trans ?_
    refine (a0g (show (decide (0≤(i:Int))&&decide ((i:Int)<((a1e a.Dirty).length:Int)))=true by rw [List.length_map,dlt hi];simp) _).trans ?_
    rcases (Bool.eq_false_or_eq_true (a.Dirty[i].Stripe != e.Stripe)).symm with hx | hx
    ·rw [hx] at hG
     refine a0m (hbe.trans hx) ?_
     show G (true,W64 ((i:Int)+1),a1e o++[e.e])=_
     rw [a1s (by omega),← hapE];exact hG
    ·rw [hx] at hG
     refine a0p (hbe.trans hx) ?_
     refine (a0g (show (decide (0≤(i:Int))&&decide ((i:Int)<((a1e a.Dirty).length:Int)))=true by rw [List.length_map,dlt hi];simp) _).trans ?_
     refine (a0g (by simp;omega) _).trans ?_
     show G (true,W64 ((i:Int)+1),(a1e o++[e.e])++[([.i (at_ (a1e a.Dirty) i 0).asI,.r (at_ (a1e a.Dirty) i 1).asR]:List T)])=_
     rw [a1s (by omega),hcell,← hapE,← hapX];exact hG
  unfold b9u c6v
  refine a0p (show decide ((i:Int)<((a1e a.Dirty).length:Int))=true by rw [List.length_map];exact dlt hi) ?_
  cases d
  ·refine a0p rfl ((a0g (show (decide (0≤(i:Int))&&decide ((i:Int)<((a1e a.Dirty).length:Int)))=true by rw [List.length_map,dlt hi];simp) _).trans ?_)
   refine key _ ?_
   show decide ((at_ (a1e a.Dirty) i 0).asI≥e.Stripe)=_
   rw [hat];rfl
  ·exact a0m rfl (key false rfl)
 ·have hfin:=i2s e a.Dirty [] hu
  have hpp:h8b e a.Dirty a.Dirty.length=a.Dirty.foldl (h0u e) ([],false):=by unfold h8b;rw [List.take_length]
  have hl:=g6h e a.Dirty a.Dirty.length (Nat.le_refl _)
  rw [← hpp] at hfin
  generalize h8b e a.Dirty a.Dirty.length=p at hfin hl
  obtain ⟨o,d⟩:=p
  unfold b9u c6v
  refine a0m (show decide ((a.Dirty.length:Int)<((a1e a.Dirty).length:Int))=false by rw [List.length_map];exact dll) ?_
  rw [List.nil_append] at hfin
  simp only at hl
  cases d
  ·have hE:o++[e]=a7c a.Dirty e:=hfin
   refine a0p rfl ((a0g (by simp;omega) _).trans ?_)
   show some (⟨[],[[_,_,_,_,_,_,_,_,_,.r (a1e o++[e.e]),_,_,_]]⟩:Outs)=_
   rw [show a1e o++[e.e]=a1e (o++[e]) by rw [a1e,a1e,List.map_append];rfl,hE]
  ·have hE:o=a7c a.Dirty e:=hfin
   refine a0m rfl ?_
   rw [hE]
theorem j5f (a:Arr) (b n:Int) (hw:a.w≤1073741824) (hf:h7s a) (h0:(b4f a b n != 0)=false) :
  Rn 11 N.k1s [.p a.e,.v [.i b],.v [.i n]] ⟨[.i (a0w a b n).2],[(a0w a b n).1.e]⟩:=by
 refine Rn.of fun k hk=>?_
 have hB:Big=4294967296:=rfl
 rw [g8x];unfold e5d
 have hsc:=f5h h0
 obtain ⟨ha,hD,hb⟩:=d6g hsc.1
 refine a1h (c6b a.G b k (by omega)) (a1h (h0h a (by omega) ha _ (d2n hb) k (by omega)) ?_)
 rcases (Bool.eq_false_or_eq_true (a2w a (a0o a.G b)).2).symm with hd | hd
 ·rw [show a0w a b n=(a,5) by unfold a0w;rw [h0,hd];rfl]
  exact a0p (show (!(a2w a (a0o a.G b)).2)=true by rw [hd];rfl) rfl
 rw [show a0w a b n=({ a with Dirty:=a7c a.Dirty (d1y a b n) },0) by unfold a0w;rw [h0,hd];rfl]
 refine a0m (show (!(a2w a (a0o a.G b)).2)=false by rw [hd];rfl) (a1h (h0f a.G b k (by omega)) ?_)
 obtain ⟨x0,x1⟩:=g5y ha hb hd
 refine (a0g (show (decide (0≤a8w a.G b)&&decide (a8w a.G b<((eIs (a2w a (a0o a.G b)).1).length:Int)))=true by rw [List.length_map];simp;omega) _).trans ?_
 have hpi:a0z (eIs (a2w a (a0o a.G b)).1) (a8w a.G b).toNat 0 [.i n]=eIs (d1y a b n).Data:=e8t (by omega) n
 exact a1h ((congrArg (fun x=>a0a E P0 k N.j7p [.p a.e,.v [.i (a0o a.G b),.r x]]) hpi).trans (j5e a (d1y a b n) hw (i6t (c8z ha).2.2) k (by omega))) rfl
theorem e3k (a:Arr) (b n:Int) (hw:a.w≤1073741824) (hf:h7s a) :
  Rn 12 N.j6n [.v a.e,.v [.i b],.v [.i n]] ⟨(a0w a b n).1.e++[.i (a0w a b n).2],[]⟩:=by
 refine Rn.of fun k hk=>?_
 have hB:Big=4294967296:=rfl
 have fail:∀ c:Int,b4f a b n=c→(c != 0)=true→a0w a b n=(a,c):=fun c h1 h2=>by unfold a0w;rw [h1,h2];rfl
 rw [f2e];unfold d0d
 refine a1h (f4x a (by omega) k (by omega)) (a1h (f4r a (by omega) hf b k (by omega)) ?_)
 rcases (Bool.eq_false_or_eq_true (a2c a b == 0)).symm with h0 | h0
 ·have h0':(a2c a b != 0)=true:=by unfold bne;rw [h0];rfl
  rw [fail (a2c a b) (by unfold b4f;rw [h0];rfl) h0']
  exact a0m h0 (a0p h0' rfl)
 ·have hz:a2c a b=0:=by simpa using h0
  refine a0p h0 (a1h (h4q n k (by omega)) ?_)
  rcases (Bool.eq_false_or_eq_true (c5z n)).symm with hn | hn
  ·rw [fail 3 (by unfold b4f;rw [h0,hn];rfl) rfl]
   exact a0p (show (!(c5z n))=true by rw [hn];rfl) rfl
  ·refine a0m (show (!(c5z n))=false by rw [hn];rfl) ?_
   unfold b7l
   refine a0m (show (a2c a b != 0)=false by rw [hz];rfl) ?_
   exact a1h (j5f a b n hw hf (by unfold b4f;rw [hz,hn];rfl) k (by omega)) rfl
abbrev LJ (l:List Job) (n:Nat) (c:Cmd) (t:Int) (g:List Int) (d:Int):List (List T):=a0s (l.set n ⟨c,t,g,d⟩)
theorem d2w {l:List Job} {n:Nat} (hn:n<l.length) (c:Cmd) (t:Int) (g:List Int) (d:Int) (i:Nat):at_ (LJ l n c t g d) n i=(⟨c,t,g,d⟩:Job).e.getD i (.i 0):=by
 rw [a0u _ (by simpa using hn),List.getElem_set_self]
theorem i3e {l:List Job} {n:Nat} (hn:n<l.length) (c:Cmd) (t:Int) (g:List Int) (d:Int) (i:Nat) (ts:List T) (c':Cmd) (t':Int) (g':List Int) (d':Int) (h:a1g (⟨c,t,g,d⟩:Job).e i ts=(⟨c',t',g',d'⟩:Job).e):a0z (LJ l n c t g d) n i ts=LJ l n c' t' g' d':=by
 have:=e3d Job.e (l:=l.set n ⟨c,t,g,d⟩) (i:=n) (by simpa using hn) i ts ⟨c',t',g',d'⟩ (by rw [List.getElem_set_self];exact h)
 rw [List.set_set] at this
 exact this
theorem h3e {l:List Job} {n:Nat} (hn:n<l.length) (j:Job):del (l.set n j) n=del l n:=by
 unfold del
 rw [List.take_set_of_le (Nat.le_refl _),List.drop_set_of_lt (by omega)]
theorem c5b {l:List Job} {n:Nat} (hn:n<l.length) (hl:l.length≤4294967296) (c:Cmd) (t:Int) (g:List Int) (d:Int) :
  (LJ l n c t g d).take n++(LJ l n c t g d).drop (W64 ((n:Int)+1)).toNat=a0s (del l n):=by
 have h:=j3f (l:=LJ l n c t g d) (n:=n) (by simpa using hn) (by simpa using hl)
 rw [Int.toNat_natCast] at h
 rw [h,← h3e hn ⟨c,t,g,d⟩];exact (g5z Job.e _ n).symm
theorem c5c {l:List Job} {n:Nat} (hn:n<l.length) (hl:l.length≤4294967296) (c:Cmd) (t:Int) (g:List Int) (d:Int) :
  ((LJ l n c t g d).drop (0:Int).toNat).take (n - (0:Int).toNat)++((LJ l n c t g d).drop (W64 ((n:Int)+1)).toNat).take (l.length - (W64 ((n:Int)+1)).toNat)=a0s (del l n):=by
 have e:l.length=(LJ l n c t g d).length:=by simp
 rw [e]
 have h:=i8c (l:=LJ l n c t g d) (n:=n) (by simpa using hn) (by simpa using hl)
 rw [h,← h3e hn ⟨c,t,g,d⟩];exact (g5z Job.e _ n).symm
theorem c5d {l:List Job} {n:Nat} (c:Cmd) (t:Int) (g:List Int) (d:Int):(LJ l n c t g d).length=l.length:=by simp
theorem j3p {l:List Job} {n:Nat} (hn:n<l.length):a0s l=LJ l n l[n].C l[n].At l[n].Got l[n].Code:=by
 show _=a0s (l.set n l[n])
 rw [List.set_getElem_self]
theorem d6i {l:List Job} {n:Nat} (hn:n<l.length) (c:Cmd) (t:Int) (g:List Int) (d:Int):a0z (LJ l n c t g d) n 4 [.r (eIs c.Vals)]=LJ l n c t g d:=i3e hn c t g d 4 _ c t g d rfl
theorem d6j {l:List Job} {n:Nat} (hn:n<l.length) (c:Cmd) (t:Int) (g:List Int) (d v:Int):a0z (LJ l n c t g d) n 5 [.i v]=LJ l n c v g d:=i3e hn c t g d 5 _ c v g d rfl
theorem d6k {l:List Job} {n:Nat} (hn:n<l.length) (c:Cmd) (t:Int) (g:List Int) (d:Int) (v:List Int):a0z (LJ l n c t g d) n 6 [.r (eIs v)]=LJ l n c t v d:=i3e hn c t g d 6 _ c t v d rfl
theorem d6l {l:List Job} {n:Nat} (hn:n<l.length) (c:Cmd) (t:Int) (g:List Int) (d v:Int):a0z (LJ l n c t g d) n 7 [.i v]=LJ l n c t g v:=i3e hn c t g d 7 _ c t g v rfl
theorem d6m {l:List Job} {n:Nat} (hn:n<l.length) (c:Cmd) (t:Int) (g:List Int) (d t':Int) (g':List Int) (d':Int):a0z (LJ l n c t g d) n 0 [.i c.Op,.i c.Id,.i c.Lba,.i c.N,.r (eIs c.Vals),.i t',.r (eIs g'),.i d']=LJ l n c t' g' d':=i3e hn c t g d 0 _ c t' g' d' rfl
theorem b8i {l:List Job} {n:Nat} (hn:n<l.length) {c:Cmd} {t:Int} {g:List Int} {d:Int} (hj:l[n]=⟨c,t,g,d⟩):a0s l=LJ l n c t g d:=by have:=j3p hn;rw [hj] at this;exact this
theorem d2r (l:List Ans) (a:Ans):c4z (l++[a])=c4z l++[a.e]:=by rw [c4z,c4z,List.map_append];rfl
theorem d6n {x:Eng} {n:Nat} (hn:n<x.Jobs.length) (hx:x.w≤1073741824) {c:Cmd} {t:Int} {g:List Int} {d:Int} (hj:x.Jobs[n]=⟨c,t,g,d⟩):c.w≤Big∧g.length≤Big:=by
 have hJ:=a1r Job.w hn
 rw [hj] at hJ
 have hB:Big=4294967296:=rfl
 have e0:x.w=x.A.w+wL Cmd.w x.Wait+wL Job.w x.Jobs+wL Ans.w x.Done+wL Turn.w x.Log:=rfl
 have e1:(⟨c,t,g,d⟩:Job).w=c.w+g.length:=rfl
 omega
theorem g6i {x:Eng} (hx:x.w≤1073741824) {b:Arr} (hb:b.w≤1073741824) (n:Nat):({ x with A:=b,Jobs:=del x.Jobs n }:Eng).w≤2147483648:=by
 have h1:=i8b Job.w x.Jobs n
 have e0:x.w=x.A.w+wL Cmd.w x.Wait+wL Job.w x.Jobs+wL Ans.w x.Done+wL Turn.w x.Log:=rfl
 show b.w+wL Cmd.w x.Wait+wL Job.w (del x.Jobs n)+wL Ans.w x.Done+wL Turn.w x.Log≤_
 omega
theorem j1c (x:Eng):x.A.w≤x.w:=by
 have e0:x.w=x.A.w+wL Cmd.w x.Wait+wL Job.w x.Jobs+wL Ans.w x.Done+wL Turn.w x.Log:=rfl
 omega
theorem c6d (l:List Turn) (a:Turn):a5o (l++[a])=a5o l++[a.e]:=by rw [a5o,a5o,List.map_append];rfl
theorem f8y (x:Eng) (b:Arr) (e:Int) {n:Nat} (hn:n<x.Jobs.length) (hx:x.w≤1073741824) (hb:b.w≤1073741824) {cmd:Cmd} {t:Int} {g:List Int} {d:Int} (hj:x.Jobs[n]=⟨cmd,t,g,d⟩) (ht:0≤t∧t≤40) (k:Nat) (hk:Big+4≤k) :
  c3i k (n:Int) ⟨x.e,[]⟩ ⟨b.e++[.i e],[]⟩ false=some ⟨(answer { x with A:=b,Jobs:=del x.Jobs n } cmd ⟨cmd.Id,e,[]⟩).e++[.b true],[]⟩:=by
 have hB:Big=4294967296:=rfl
 obtain ⟨l1,l2,l3,l4,hA⟩:=a3e x (show x.w≤Big by omega)
 obtain ⟨hcw,hgw⟩:=d6n hn hx hj
 have hL:=b8i hn hj
 have ha:=c0s { x with A:=b,Jobs:=del x.Jobs n } cmd ⟨cmd.Id,e,[]⟩ (g6i hx hb n) hcw (Nat.zero_le _) k (by omega)
 unfold c3i
 simp only [a1a,a2i,a2j,a2k,a1z,a2l,a2m,a2n,a3c,a1n,a3l,a0h,a1i,a0x,a1x,a1y,Outs.k6d,Eng.e,Arr.e,Geo.e,Job.e,List.cons_append,List.nil_append,List.append_assoc,B2_,T.k6e,T.k6f,T.k6h,Int.toNat_natCast,hL,d2w hn,d6i hn,d6j hn,d6k hn,d6l hn,d6m hn,c5b hn l2,c5c hn l2,c5d] at ha ⊢
 refine (a0g (a9l hn (by omega)) _).trans ((a0g (by rw [a0f (by omega) (by omega)];simp;omega) _).trans ?_)
 exact a1h ha rfl
theorem f8z (x:Eng) (b:Arr) (e:Int) {n:Nat} (hn:n<x.Jobs.length) (hx:x.w≤1073741824) (hb:b.w≤1073741824) {cmd:Cmd} {t:Int} {g:List Int} {d:Int} (hj:x.Jobs[n]=⟨cmd,t,g,d⟩) (ht:0≤t∧t≤40) (k:Nat) (hk:Big+4≤k) :
  c3j k (n:Int) ⟨x.e,[]⟩ ⟨b.e++[.i e],[]⟩ false=some ⟨(answer { x with A:=b,Jobs:=del x.Jobs n } cmd ⟨cmd.Id,e,[]⟩).e++[.b true],[]⟩:=by
 have hB:Big=4294967296:=rfl
 obtain ⟨l1,l2,l3,l4,hA⟩:=a3e x (show x.w≤Big by omega)
 obtain ⟨hcw,hgw⟩:=d6n hn hx hj
 have hL:=b8i hn hj
 have ha:=c0s { x with A:=b,Jobs:=del x.Jobs n } cmd ⟨cmd.Id,e,[]⟩ (g6i hx hb n) hcw (Nat.zero_le _) k (by omega)
 unfold c3j
 simp only [a1a,a2i,a2j,a2k,a1z,a2l,a2m,a2n,a3c,a1n,a3l,a0h,a1i,a0x,a1x,a1y,Outs.k6d,Eng.e,Arr.e,Geo.e,Job.e,List.cons_append,List.nil_append,List.append_assoc,B2_,T.k6e,T.k6f,T.k6h,Int.toNat_natCast,hL,d2w hn,d6i hn,d6j hn,d6k hn,d6l hn,d6m hn,c5b hn l2,c5c hn l2,c5d] at ha ⊢
 refine (a0g (a9l hn (by omega)) _).trans ((a0g (by rw [a0f (by omega) (by omega)];simp;omega) _).trans ?_)
 exact a1h ha rfl
theorem f9a (x:Eng) (b:Arr) (e:Int) {n:Nat} (hn:n<x.Jobs.length) (hx:x.w≤1073741824) (hb:b.w≤1073741824) {cmd:Cmd} {t:Int} {g:List Int} {d:Int} (hj:x.Jobs[n]=⟨cmd,t,g,d⟩) (ht:0≤t∧t≤40) (k:Nat) (hk:Big+4≤k) :
  c3k k (n:Int) ⟨x.e,[]⟩ ⟨b.e++[.i e],[]⟩ false=some ⟨(answer { x with A:=b,Jobs:=del x.Jobs n } cmd ⟨cmd.Id,e,[]⟩).e++[.b true],[]⟩:=by
 have hB:Big=4294967296:=rfl
 obtain ⟨l1,l2,l3,l4,hA⟩:=a3e x (show x.w≤Big by omega)
 obtain ⟨hcw,hgw⟩:=d6n hn hx hj
 have hL:=b8i hn hj
 have ha:=c0s { x with A:=b,Jobs:=del x.Jobs n } cmd ⟨cmd.Id,e,[]⟩ (g6i hx hb n) hcw (Nat.zero_le _) k (by omega)
 unfold c3k
 simp only [a1a,a2i,a2j,a2k,a1z,a2l,a2m,a2n,a3c,a1n,a3l,a0h,a1i,a0x,a1x,a1y,Outs.k6d,Eng.e,Arr.e,Geo.e,Job.e,List.cons_append,List.nil_append,List.append_assoc,B2_,T.k6e,T.k6f,T.k6h,Int.toNat_natCast,hL,d2w hn,d6i hn,d6j hn,d6k hn,d6l hn,d6m hn,c5b hn l2,c5c hn l2,c5d] at ha ⊢
 refine (a0g (a9l hn (by omega)) _).trans ((a0g (by rw [a0f (by omega) (by omega)];simp;omega) _).trans ?_)
 exact a1h ha rfl
theorem f9b (x:Eng) (b:Arr) (e:Int) {n:Nat} (hn:n<x.Jobs.length) (hx:x.w≤1073741824) (hb:b.w≤1073741824) {cmd:Cmd} {t:Int} {g:List Int} {d:Int} (hj:x.Jobs[n]=⟨cmd,t,g,d⟩) (ht:0≤t∧t≤40) (k:Nat) (hk:Big+4≤k) :
  c3l k (n:Int) ⟨x.e,[]⟩ ⟨b.e++[.i e],[]⟩ false=some ⟨(answer { x with A:=b,Jobs:=del x.Jobs n } cmd ⟨cmd.Id,e,[]⟩).e++[.b true],[]⟩:=by
 have hB:Big=4294967296:=rfl
 obtain ⟨l1,l2,l3,l4,hA⟩:=a3e x (show x.w≤Big by omega)
 obtain ⟨hcw,hgw⟩:=d6n hn hx hj
 have hL:=b8i hn hj
 have ha:=c0s { x with A:=b,Jobs:=del x.Jobs n } cmd ⟨cmd.Id,e,[]⟩ (g6i hx hb n) hcw (Nat.zero_le _) k (by omega)
 unfold c3l
 simp only [a1a,a2i,a2j,a2k,a1z,a2l,a2m,a2n,a3c,a1n,a3l,a0h,a1i,a0x,a1x,a1y,Outs.k6d,Eng.e,Arr.e,Geo.e,Job.e,List.cons_append,List.nil_append,List.append_assoc,B2_,T.k6e,T.k6f,T.k6h,Int.toNat_natCast,hL,d2w hn,d6i hn,d6j hn,d6k hn,d6l hn,d6m hn,c5b hn l2,c5c hn l2,c5d] at ha ⊢
 refine (a0g (a9l hn (by omega)) _).trans ((a0g (by rw [a0f (by omega) (by omega)];simp;omega) _).trans ?_)
 exact a1h ha rfl
theorem f9c (x:Eng) (b:Arr) (e:Int) {n:Nat} (hn:n<x.Jobs.length) (hx:x.w≤1073741824) (hb:b.w≤1073741824) {cmd:Cmd} {t:Int} {g:List Int} {d:Int} (hj:x.Jobs[n]=⟨cmd,t,g,d⟩) (ht:0≤t∧t≤40) (k:Nat) (hk:Big+4≤k) :
  c3m k (n:Int) ⟨x.e,[]⟩ ⟨b.e++[.i e],[]⟩ false=some ⟨(answer { x with A:=b,Jobs:=del x.Jobs n } cmd ⟨cmd.Id,e,[]⟩).e++[.b true],[]⟩:=by
 have hB:Big=4294967296:=rfl
 obtain ⟨l1,l2,l3,l4,hA⟩:=a3e x (show x.w≤Big by omega)
 obtain ⟨hcw,hgw⟩:=d6n hn hx hj
 have hL:=b8i hn hj
 have ha:=c0s { x with A:=b,Jobs:=del x.Jobs n } cmd ⟨cmd.Id,e,[]⟩ (g6i hx hb n) hcw (Nat.zero_le _) k (by omega)
 unfold c3m
 simp only [a1a,a2i,a2j,a2k,a1z,a2l,a2m,a2n,a3c,a1n,a3l,a0h,a1i,a0x,a1x,a1y,Outs.k6d,Eng.e,Arr.e,Geo.e,Job.e,List.cons_append,List.nil_append,List.append_assoc,B2_,T.k6e,T.k6f,T.k6h,Int.toNat_natCast,hL,d2w hn,d6i hn,d6j hn,d6k hn,d6l hn,d6m hn,c5b hn l2,c5c hn l2,c5d] at ha ⊢
 refine (a0g (a9l hn (by omega)) _).trans ((a0g (by rw [a0f (by omega) (by omega)];simp;omega) _).trans ?_)
 exact a1h ha rfl
theorem f5j (x:Eng) (b:Arr) (e:Int) {n:Nat} (hn:n<x.Jobs.length) (hx:x.w≤1073741824) (hb:b.w≤1073741824) {cmd:Cmd} {t:Int} {g:List Int} {d:Int} (hj:x.Jobs[n]=⟨cmd,t,g,d⟩) (ht:0≤t∧t≤40) (k:Nat) (hk:Big+4≤k) :
  c0k k (n:Int) ⟨x.e,[]⟩ ⟨b.e++[.i e],[]⟩ false=some ⟨(answer { x with A:=b,Jobs:=del x.Jobs n } cmd ⟨cmd.Id,e,[]⟩).e++[.b true],[]⟩:=by
 have hB:Big=4294967296:=rfl
 obtain ⟨l1,l2,l3,l4,hA⟩:=a3e x (show x.w≤Big by omega)
 obtain ⟨hcw,hgw⟩:=d6n hn hx hj
 have hL:=b8i hn hj
 have ha:=c0s { x with A:=b,Jobs:=del x.Jobs n } cmd ⟨cmd.Id,e,[]⟩ (g6i hx hb n) hcw (Nat.zero_le _) k (by omega)
 unfold c0k
 simp only [a1a,a2i,a2j,a2k,a1z,a2l,a2m,a2n,a3c,a1n,a3l,a0h,a1i,a0x,a1x,a1y,Outs.k6d,Eng.e,Arr.e,Geo.e,Job.e,List.cons_append,List.nil_append,List.append_assoc,B2_,T.k6e,T.k6f,T.k6h,Int.toNat_natCast,hL,d2w hn,d6i hn,d6j hn,d6k hn,d6l hn,d6m hn,c5b hn l2,c5c hn l2,c5d] at ha ⊢
 refine (a0g (a9l hn (by omega)) _).trans ((a0g (by rw [a0f (by omega) (by omega)];simp;omega) _).trans ?_)
 exact a1h ha rfl
theorem f9d (x:Eng) (b:Arr) (e:Int) (g':List Int) {n:Nat} (hn:n<x.Jobs.length) (hx:x.w≤1073741824) (hb:b.w≤1073741824) {cmd:Cmd} {t:Int} {g:List Int} {d:Int} (hj:x.Jobs[n]=⟨cmd,t,g,d⟩) (ht:0≤t∧t≤40) (k:Nat) (hk:Big+4≤k) :
  b7d k (n:Int) (LJ x.Jobs n cmd t g' e) ⟨x.e,[]⟩ false=some ⟨(answer { x with Jobs:=del x.Jobs n } cmd ⟨cmd.Id,e,[]⟩).e++[.b true],[]⟩:=by
 have hB:Big=4294967296:=rfl
 obtain ⟨l1,l2,l3,l4,hA⟩:=a3e x (show x.w≤Big by omega)
 obtain ⟨hcw,hgw⟩:=d6n hn hx hj
 have hL:=b8i hn hj
 have hw1:W64 (t+1)=t+1:=a0f (by omega) (by omega)
 have ha:=c0s { x with Jobs:=del x.Jobs n } cmd ⟨cmd.Id,e,[]⟩ (g6i hx (Nat.le_trans (j1c x) hx) n) hcw (Nat.zero_le _) k (by omega)
 unfold b7d
 simp only [a1a,a2i,a2j,a2k,a1z,a2l,a2m,a2n,a3c,a1n,a3l,a0h,a1i,a0x,a1x,a1y,Outs.k6d,Eng.e,Arr.e,Geo.e,Job.e,List.cons_append,List.nil_append,List.append_assoc,B2_,T.k6e,T.k6f,T.k6h,Int.toNat_natCast,hL,d2w hn,d6i hn,d6j hn,d6k hn,d6l hn,d6m hn,c5b hn l2,c5c hn l2,c5d] at ha ⊢
 refine (a0g (a9l hn (by omega)) _).trans ((a0g (by rw [a0f (by omega) (by omega)];simp;omega) _).trans ?_)
 exact a1h ha rfl
theorem e8a (x:Eng) (b:Arr) (e:Int) {n:Nat} (hn:n<x.Jobs.length) (hx:x.w≤1073741824) (hb:b.w≤1073741824) {cmd:Cmd} {t:Int} {g:List Int} {d:Int} (hj:x.Jobs[n]=⟨cmd,t,g,d⟩) (ht:0≤t∧t≤40) (k:Nat) (hk:Big+4≤k) :
  a5z k (n:Int) ⟨x.e,[]⟩ false=some ⟨(answer { x with Jobs:=del x.Jobs n } cmd ⟨cmd.Id,d,[]⟩).e++[.b true],[]⟩:=by
 have hB:Big=4294967296:=rfl
 obtain ⟨l1,l2,l3,l4,hA⟩:=a3e x (show x.w≤Big by omega)
 obtain ⟨hcw,hgw⟩:=d6n hn hx hj
 have hL:=b8i hn hj
 have ha:=c0s { x with Jobs:=del x.Jobs n } cmd ⟨cmd.Id,d,[]⟩ (g6i hx (Nat.le_trans (j1c x) hx) n) hcw (by first | exact hgw | exact Nat.zero_le _) k (by omega)
 unfold a5z
 simp only [a1a,a2i,a2j,a2k,a1z,a2l,a2m,a2n,a3c,a1n,a3l,a0h,a1i,a0x,a1x,a1y,Outs.k6d,Eng.e,Arr.e,Geo.e,Job.e,List.cons_append,List.nil_append,List.append_assoc,B2_,T.k6e,T.k6f,T.k6h,Int.toNat_natCast,hL,d2w hn,d6i hn,d6j hn,d6k hn,d6l hn,d6m hn,c5b hn l2,c5c hn l2,c5d] at ha ⊢
 refine (a0g (Nat.beq_refl _) _).trans ?_
 refine (a0g (a9l hn (by omega)) _).trans ((a0g (by rw [a0f (by omega) (by omega)];simp;omega) _).trans ?_)
 exact a1h ha rfl
theorem e8b (x:Eng) (b:Arr) (e:Int) {n:Nat} (hn:n<x.Jobs.length) (hx:x.w≤1073741824) (hb:b.w≤1073741824) {cmd:Cmd} {t:Int} {g:List Int} {d:Int} (hj:x.Jobs[n]=⟨cmd,t,g,d⟩) (ht:0≤t∧t≤40) (k:Nat) (hk:Big+4≤k) :
  a5z k (n:Int) ⟨x.e,[]⟩ true=some ⟨(answer { x with Jobs:=del x.Jobs n } cmd ⟨cmd.Id,d,g⟩).e++[.b true],[]⟩:=by
 have hB:Big=4294967296:=rfl
 obtain ⟨l1,l2,l3,l4,hA⟩:=a3e x (show x.w≤Big by omega)
 obtain ⟨hcw,hgw⟩:=d6n hn hx hj
 have hL:=b8i hn hj
 have ha:=c0s { x with Jobs:=del x.Jobs n } cmd ⟨cmd.Id,d,g⟩ (g6i hx (Nat.le_trans (j1c x) hx) n) hcw (by first | exact hgw | exact Nat.zero_le _) k (by omega)
 unfold a5z
 simp only [a1a,a2i,a2j,a2k,a1z,a2l,a2m,a2n,a3c,a1n,a3l,a0h,a1i,a0x,a1x,a1y,Outs.k6d,Eng.e,Arr.e,Geo.e,Job.e,List.cons_append,List.nil_append,List.append_assoc,B2_,T.k6e,T.k6f,T.k6h,Int.toNat_natCast,hL,d2w hn,d6i hn,d6j hn,d6k hn,d6l hn,d6m hn,c5b hn l2,c5c hn l2,c5d] at ha ⊢
 refine a1h (a3m g hgw k (by omega)) ?_
 refine (a0g (a9l hn (by omega)) _).trans ((a0g (by rw [a0f (by omega) (by omega)];simp;omega) _).trans ?_)
 exact a1h ha rfl
theorem f9e (x:Eng) (b:Arr) (e:Int) {n:Nat} (hn:n<x.Jobs.length) (hx:x.w≤1073741824) (hb:b.w≤1073741824) {cmd:Cmd} {t:Int} {g:List Int} {d:Int} (hj:x.Jobs[n]=⟨cmd,t,g,d⟩) (ht:0≤t∧t≤40) (k:Nat) (hk:Big+4≤k) :
  b7b k (n:Int) ⟨x.e,[]⟩ e false=some ⟨(answer { x with A:=x.A,Jobs:=del x.Jobs n } cmd ⟨cmd.Id,e,[]⟩).e++[.b true],[]⟩:=by
 have hB:Big=4294967296:=rfl
 obtain ⟨l1,l2,l3,l4,hA⟩:=a3e x (show x.w≤Big by omega)
 obtain ⟨hcw,hgw⟩:=d6n hn hx hj
 have hL:=b8i hn hj
 have hw1:W64 ((n:Int)+1)=(n:Int)+1:=a0f (by omega) (by omega)
 have ha:=b7g ⟨cmd.Id,e,[]⟩ (by first | exact hgw | exact Nat.zero_le _) k (by omega)
 unfold b7b
 simp only [a1m,a2d,a2e,a2f,a2g,a0k,a0l,a0q,a0v,Outs.k6d,Eng.e,Arr.e,Geo.e,Job.e,List.cons_append,List.nil_append,B2_,T.k6e,T.k6f,T.k6h,Int.toNat_natCast,hL,d2w hn,d6i hn,d6j hn,d6k hn,d6l hn,d6m hn,c5b hn l2,c5c hn l2,c5d] at ha ⊢
 refine (a0g (by simp;omega) _).trans ?_
 refine (a0g (by simp;omega) _).trans ?_
 refine (a0g (by rw [hw1];simp;omega) _).trans ?_
 refine (a0g (by rw [hw1];simp;omega) _).trans ?_
 refine a1h ha ?_
 refine (a0g (by simp;omega) _).trans ?_
 refine (a0g (by simp;omega) _).trans ?_
 unfold b7a
 simp only [a1m,a2d,a2e,a2f,a2g,a0k,a0l,a0q,a0v,Outs.k6d,Eng.e,Arr.e,Geo.e,Job.e,List.cons_append,List.nil_append,B2_,T.k6e,T.k6f,T.k6h,Int.toNat_natCast,hL,d2w hn,d6i hn,d6j hn,d6k hn,d6l hn,d6m hn,c5b hn l2,c5c hn l2,c5d,answer,d2r,c6d] <;> rfl
theorem f9f (x:Eng) (b:Arr) (e:Int) {n:Nat} (hn:n<x.Jobs.length) (hx:x.w≤1073741824) (hb:b.w≤1073741824) {cmd:Cmd} {t:Int} {g:List Int} {d:Int} (hj:x.Jobs[n]=⟨cmd,t,g,d⟩) (ht:0≤t∧t≤40) (k:Nat) (hk:Big+4≤k) :
  c2z k (n:Int) ⟨x.e,[]⟩ ⟨b.e++[.i e],[]⟩ false=some ⟨(answer { x with A:=b,Jobs:=del x.Jobs n } cmd ⟨cmd.Id,e,[]⟩).e++[.b true],[]⟩:=by
 have hB:Big=4294967296:=rfl
 obtain ⟨l1,l2,l3,l4,hA⟩:=a3e x (show x.w≤Big by omega)
 obtain ⟨hcw,hgw⟩:=d6n hn hx hj
 have hL:=b8i hn hj
 have hw1:W64 ((n:Int)+1)=(n:Int)+1:=a0f (by omega) (by omega)
 have ha:=b7g ⟨cmd.Id,e,[]⟩ (by first | exact hgw | exact Nat.zero_le _) k (by omega)
 unfold c2z
 simp only [a1m,a2d,a2e,a2f,a2g,a0k,a0l,a0q,a0v,Outs.k6d,Eng.e,Arr.e,Geo.e,Job.e,List.cons_append,List.nil_append,B2_,T.k6e,T.k6f,T.k6h,Int.toNat_natCast,hL,d2w hn,d6i hn,d6j hn,d6k hn,d6l hn,d6m hn,c5b hn l2,c5c hn l2,c5d] at ha ⊢
 refine (a0g (by simp;omega) _).trans ?_
 refine (a0g (by simp;omega) _).trans ?_
 refine (a0g (by rw [hw1];simp;omega) _).trans ?_
 refine (a0g (by rw [hw1];simp;omega) _).trans ?_
 refine a1h ha ?_
 refine (a0g (by simp;omega) _).trans ?_
 refine (a0g (by simp;omega) _).trans ?_
 unfold d0e
 simp only [a1m,a2d,a2e,a2f,a2g,a0k,a0l,a0q,a0v,Outs.k6d,Eng.e,Arr.e,Geo.e,Job.e,List.cons_append,List.nil_append,B2_,T.k6e,T.k6f,T.k6h,Int.toNat_natCast,hL,d2w hn,d6i hn,d6j hn,d6k hn,d6l hn,d6m hn,c5b hn l2,c5c hn l2,c5d,answer,d2r,c6d] <;> rfl
theorem f5k (x:Eng) (b:Arr) (e:Int) {n:Nat} (hn:n<x.Jobs.length) (hx:x.w≤1073741824) (hb:b.w≤1073741824) {cmd:Cmd} {t:Int} {g:List Int} {d:Int} (hj:x.Jobs[n]=⟨cmd,t,g,d⟩) (ht:0≤t∧t≤40) (k:Nat) (hk:Big+4≤k) :
  b9v k (n:Int) ⟨x.e,[]⟩ ⟨b.e++[.i e],[]⟩ false=some ⟨(answer { x with A:=b,Jobs:=del x.Jobs n } cmd ⟨cmd.Id,e,[]⟩).e++[.b true],[]⟩:=by
 have hB:Big=4294967296:=rfl
 obtain ⟨l1,l2,l3,l4,hA⟩:=a3e x (show x.w≤Big by omega)
 obtain ⟨hcw,hgw⟩:=d6n hn hx hj
 have hL:=b8i hn hj
 have hw1:W64 ((n:Int)+1)=(n:Int)+1:=a0f (by omega) (by omega)
 have ha:=b7g ⟨cmd.Id,e,[]⟩ (by first | exact hgw | exact Nat.zero_le _) k (by omega)
 unfold b9v
 simp only [a1m,a2d,a2e,a2f,a2g,a0k,a0l,a0q,a0v,Outs.k6d,Eng.e,Arr.e,Geo.e,Job.e,List.cons_append,List.nil_append,B2_,T.k6e,T.k6f,T.k6h,Int.toNat_natCast,hL,d2w hn,d6i hn,d6j hn,d6k hn,d6l hn,d6m hn,c5b hn l2,c5c hn l2,c5d] at ha ⊢
 refine (a0g (by simp;omega) _).trans ?_
 refine (a0g (by simp;omega) _).trans ?_
 refine (a0g (by rw [hw1];simp;omega) _).trans ?_
 refine (a0g (by rw [hw1];simp;omega) _).trans ?_
 refine a1h ha ?_
 refine (a0g (by simp;omega) _).trans ?_
 refine (a0g (by simp;omega) _).trans ?_
 unfold c6x
 simp only [a1m,a2d,a2e,a2f,a2g,a0k,a0l,a0q,a0v,Outs.k6d,Eng.e,Arr.e,Geo.e,Job.e,List.cons_append,List.nil_append,B2_,T.k6e,T.k6f,T.k6h,Int.toNat_natCast,hL,d2w hn,d6i hn,d6j hn,d6k hn,d6l hn,d6m hn,c5b hn l2,c5c hn l2,c5d,answer,d2r,c6d] <;> rfl
theorem f5l (x:Eng) (b:Arr) (e:Int) {n:Nat} (hn:n<x.Jobs.length) (hx:x.w≤1073741824) (hb:b.w≤1073741824) {cmd:Cmd} {t:Int} {g:List Int} {d:Int} (hj:x.Jobs[n]=⟨cmd,t,g,d⟩) (ht:0≤t∧t≤40) (k:Nat) (hk:Big+4≤k) :
  b2i k (n:Int) b.Down b.Broken (a2p b.Mems) (a1e b.Dirty) ⟨x.e,[]⟩ b.Id b.G.N b.G.S b.Lost b.Built b.Seq b.Tail b.Gen b.Fuse e false=some ⟨(answer { x with A:=b,Jobs:=del x.Jobs n } cmd ⟨cmd.Id,e,[]⟩).e++[.b true],[]⟩:=by
 have hB:Big=4294967296:=rfl
 obtain ⟨l1,l2,l3,l4,hA⟩:=a3e x (show x.w≤Big by omega)
 obtain ⟨hcw,hgw⟩:=d6n hn hx hj
 have hL:=b8i hn hj
 have hw1:W64 ((n:Int)+1)=(n:Int)+1:=a0f (by omega) (by omega)
 have ha:=b7g ⟨cmd.Id,e,[]⟩ (by first | exact hgw | exact Nat.zero_le _) k (by omega)
 unfold b2i
 simp only [a1m,a2d,a2e,a2f,a2g,a0k,a0l,a0q,a0v,Outs.k6d,Eng.e,Arr.e,Geo.e,Job.e,List.cons_append,List.nil_append,B2_,T.k6e,T.k6f,T.k6h,Int.toNat_natCast,hL,d2w hn,d6i hn,d6j hn,d6k hn,d6l hn,d6m hn,c5b hn l2,c5c hn l2,c5d] at ha ⊢
 refine (a0g (by simp;omega) _).trans ?_
 refine (a0g (by simp;omega) _).trans ?_
 refine (a0g (by rw [hw1];simp;omega) _).trans ?_
 refine (a0g (by rw [hw1];simp;omega) _).trans ?_
 refine a1h ha ?_
 refine (a0g (by simp;omega) _).trans ?_
 refine (a0g (by simp;omega) _).trans ?_
 unfold c6w
 simp only [a1m,a2d,a2e,a2f,a2g,a0k,a0l,a0q,a0v,Outs.k6d,Eng.e,Arr.e,Geo.e,Job.e,List.cons_append,List.nil_append,B2_,T.k6e,T.k6f,T.k6h,Int.toNat_natCast,hL,d2w hn,d6i hn,d6j hn,d6k hn,d6l hn,d6m hn,c5b hn l2,c5c hn l2,c5d,answer,d2r,c6d] <;> rfl
theorem e8c (x:Eng) (b:Arr) (e:Int) {n:Nat} (hn:n<x.Jobs.length) (hx:x.w≤1073741824) (hb:b.w≤1073741824) {cmd:Cmd} {t:Int} {g:List Int} {d:Int} (hj:x.Jobs[n]=⟨cmd,t,g,d⟩) (ht:0≤t∧t≤40) (k:Nat) (hk:Big+4≤k) :
  a5w k (n:Int) ⟨x.e,[]⟩ false=some ⟨(answer { x with A:=x.A,Jobs:=del x.Jobs n } cmd ⟨cmd.Id,d,[]⟩).e++[.b true],[]⟩:=by
 have hB:Big=4294967296:=rfl
 obtain ⟨l1,l2,l3,l4,hA⟩:=a3e x (show x.w≤Big by omega)
 obtain ⟨hcw,hgw⟩:=d6n hn hx hj
 have hL:=b8i hn hj
 have hw1:W64 ((n:Int)+1)=(n:Int)+1:=a0f (by omega) (by omega)
 have ha:=b7g ⟨cmd.Id,d,[]⟩ (by first | exact hgw | exact Nat.zero_le _) k (by omega)
 unfold a5w
 simp only [a1m,a2d,a2e,a2f,a2g,a0k,a0l,a0q,a0v,Outs.k6d,Eng.e,Arr.e,Geo.e,Job.e,List.cons_append,List.nil_append,B2_,T.k6e,T.k6f,T.k6h,Int.toNat_natCast,hL,d2w hn,d6i hn,d6j hn,d6k hn,d6l hn,d6m hn,c5b hn l2,c5c hn l2,c5d] at ha ⊢
 refine (a0g (Nat.beq_refl _) _).trans ?_
 refine (a0g (by simp;omega) _).trans ?_
 refine (a0g (by simp;omega) _).trans ?_
 refine (a0g (by rw [hw1];simp;omega) _).trans ?_
 refine (a0g (by rw [hw1];simp;omega) _).trans ?_
 refine a1h ha ?_
 refine (a0g (by simp;omega) _).trans ?_
 refine (a0g (by simp;omega) _).trans ?_
 unfold b9w
 simp only [a1m,a2d,a2e,a2f,a2g,a0k,a0l,a0q,a0v,Outs.k6d,Eng.e,Arr.e,Geo.e,Job.e,List.cons_append,List.nil_append,B2_,T.k6e,T.k6f,T.k6h,Int.toNat_natCast,hL,d2w hn,d6i hn,d6j hn,d6k hn,d6l hn,d6m hn,c5b hn l2,c5c hn l2,c5d,answer,d2r,c6d] <;> rfl
theorem e8d (x:Eng) (b:Arr) (e:Int) {n:Nat} (hn:n<x.Jobs.length) (hx:x.w≤1073741824) (hb:b.w≤1073741824) {cmd:Cmd} {t:Int} {g:List Int} {d:Int} (hj:x.Jobs[n]=⟨cmd,t,g,d⟩) (ht:0≤t∧t≤40) (k:Nat) (hk:Big+4≤k) :
  a5w k (n:Int) ⟨x.e,[]⟩ true=some ⟨(answer { x with A:=x.A,Jobs:=del x.Jobs n } cmd ⟨cmd.Id,d,g⟩).e++[.b true],[]⟩:=by
 have hB:Big=4294967296:=rfl
 obtain ⟨l1,l2,l3,l4,hA⟩:=a3e x (show x.w≤Big by omega)
 obtain ⟨hcw,hgw⟩:=d6n hn hx hj
 have hL:=b8i hn hj
 have hw1:W64 ((n:Int)+1)=(n:Int)+1:=a0f (by omega) (by omega)
 have ha:=b7g ⟨cmd.Id,d,g⟩ (by first | exact hgw | exact Nat.zero_le _) k (by omega)
 unfold a5w
 simp only [a1m,a2d,a2e,a2f,a2g,a0k,a0l,a0q,a0v,Outs.k6d,Eng.e,Arr.e,Geo.e,Job.e,List.cons_append,List.nil_append,B2_,T.k6e,T.k6f,T.k6h,Int.toNat_natCast,hL,d2w hn,d6i hn,d6j hn,d6k hn,d6l hn,d6m hn,c5b hn l2,c5c hn l2,c5d] at ha ⊢
 refine (a0g (Nat.beq_refl _) _).trans ?_
 refine (a0g (by simp;omega) _).trans ?_
 refine (a0g (by simp;omega) _).trans ?_
 refine (a0g (by rw [hw1];simp;omega) _).trans ?_
 refine (a0g (by rw [hw1];simp;omega) _).trans ?_
 refine a1h ha ?_
 refine (a0g (by simp;omega) _).trans ?_
 refine (a0g (by simp;omega) _).trans ?_
 unfold b9w
 simp only [a1m,a2d,a2e,a2f,a2g,a0k,a0l,a0q,a0v,Outs.k6d,Eng.e,Arr.e,Geo.e,Job.e,List.cons_append,List.nil_append,B2_,T.k6e,T.k6f,T.k6h,Int.toNat_natCast,hL,d2w hn,d6i hn,d6j hn,d6k hn,d6l hn,d6m hn,c5b hn l2,c5c hn l2,c5d,answer,d2r,c6d] <;> rfl
theorem b0u {x:Eng} {n:Nat} {j:Job} {p:Arr×List Int×Int} (h:(p.2.2 == 0)=true):c2e x n j p={ x with A:=p.1,Jobs:=x.Jobs.set n (b8h j p) }:=by
 unfold c2e;rw [h];rfl
theorem b4h {x:Eng} {n:Nat} (hn:n<x.Jobs.length) {j:Job} {p:Arr×List Int×Int} (h:(p.2.2 == 0)=false):c2e x n j p=answer { x with A:=p.1,Jobs:=del x.Jobs n } j.C ⟨j.C.Id,p.2.2,[]⟩:=by
 unfold c2e a7d
 rw [h]
 show answer { x with A:=p.1,Jobs:=del (x.Jobs.set n (b8h j p)) n } j.C ⟨j.C.Id,p.2.2,bif (j.C.Op == 1)&&(p.2.2 == 0) then p.2.1 else []⟩=_
 rw [h3e hn,h,Bool.and_false];rfl
theorem e1g {g:Geo} {c:Cmd} (hc:a2q g c=0) (hw:c.w≤Big):c.Op≠4→0≤c.Lba∧c.Lba≤32∧(c.Op=2→a2v g c=c.Vals.length+1)∧(c.Op=5→a2v g c=2):=by
 intro h4
 obtain ⟨e,e1,e2,e3,e4⟩:=f4i hc h4 hw
 refine ⟨e1,by omega,fun h2=>?_,fun h5=>?_⟩
 ·unfold a2v;rw [hc];unfold a2u;simp [h2]
 ·unfold a2v;rw [hc];unfold a2u;simp [h5]
theorem h5r {x:Eng} {n:Nat} (hn:n<x.Jobs.length) {c:Cmd} {t:Int} {g:List Int} {d:Int} (hj:x.Jobs[n]=⟨c,t,g,d⟩):c.Vals.length≤x.w∧g.length≤x.w:=by
 have hJ:=a1r Job.w hn
 rw [hj] at hJ
 have e0:x.w=x.A.w+wL Cmd.w x.Wait+wL Job.w x.Jobs+wL Ans.w x.Done+wL Turn.w x.Log:=rfl
 have e1:(⟨c,t,g,d⟩:Job).w=c.Vals.length+g.length:=rfl
 omega
theorem h5s {g:Geo} {c:Cmd} (hc:a2q g c=0) (h5:c.Op=5):c.Vals.length=2:=by
 have hs:=(a8c hc).2.1
 unfold b7e at hs
 simp [h5] at hs
 have:=hs.1
 omega
theorem e6f {l:List Job} {n:Nat} (hn:n<l.length) {cmd:Cmd} {t:Int} {g:List Int} {d:Int} (hj:l[n]=⟨cmd,t,g,d⟩) :
  (at_ (a0s l) n 0).asI=cmd.Op∧(at_ (a0s l) n 2).asI=cmd.Lba∧(at_ (a0s l) n 4).asR=eIs cmd.Vals∧(at_ (a0s l) n 5).asI=t∧(at_ (a0s l) n 6).asR=eIs g∧(at_ (a0s l) n 7).asI=d∧
  ([.i (at_ (a0s l) n 0).asI,.i (at_ (a0s l) n 1).asI,.i (at_ (a0s l) n 2).asI,.i (at_ (a0s l) n 3).asI,.r (at_ (a0s l) n 4).asR]:List T)=cmd.e:=by
 rw [b8i hn hj]
 simp only [d2w hn]
 exact ⟨rfl,rfl,rfl,rfl,rfl,rfl,rfl⟩
theorem h5t {g:Geo} {c:Cmd} (hc:a2q g c=0):1≤c.Op∧c.Op≤6:=by
 unfold a2q at hc
 cases h:(a8a g&&a0n c.Op 1 6&&a0n c.Id 1 999)
 ·rw [h] at hc;simp at hc
 ·simp only [Bool.and_eq_true] at h
  exact a1c h.1.2
abbrev chE (L:List (List T)) (n:Nat) (c:Int):List (List T):=a0z (a0z (a0z L n 4 [.r ((at_ L n 4).asR)]) n 7 [.i c]) n 5 [.i (W64 ((at_ (a0z (a0z L n 4 [.r ((at_ L n 4).asR)]) n 7 [.i c]) n 5).asI+1))]
theorem chJ {l:List Job} {n:Nat} (hn:n<l.length) {cmd:Cmd} {t:Int} {g:List Int} {d:Int} (hj:l[n]=⟨cmd,t,g,d⟩) (ht:0≤t∧t≤40) (c:Int):(at_ (chE (a0s l) n c) n 7).asI=c∧(at_ (chE (a0s l) n c) n 0).asI=cmd.Op∧chE (a0s l) n c=LJ l n cmd (t+1) g c:=by
 have hL:=b8i hn hj
 have hw1:W64 (t+1)=t+1:=a0f (by omega) (by omega)
 have e:chE (a0s l) n c=LJ l n cmd (t+1) g c:=by unfold chE;simp only [Job.e,B2_,T.k6e,T.k6f,T.k6h,hL,hw1,d2w hn,d6i hn,d6j hn,d6k hn,d6l hn,d6m hn]
 rw [e]
 simp only [d2w hn]
 exact ⟨rfl,rfl,trivial⟩
theorem g6j (x:Eng) {n:Nat} (hn:n<x.Jobs.length) (hx:x.w≤1073741000) {cmd:Cmd} {t:Int} {g:List Int} {d:Int} (hj:x.Jobs[n]=⟨cmd,t,g,d⟩) (ht:0≤t∧t≤40) (g':List Int) (e:Int) (k:Nat) (hk:Big+4≤k):a3z k (n:Int) ⟨x.e,[]⟩ (LJ x.Jobs n cmd t g' e)=some ⟨(c2e x n ⟨cmd,t,g,d⟩ (x.A,g',e)).e++[.b true],[]⟩:=by
 have hB:Big=4294967296:=rfl
 obtain ⟨l1,l2,l3,l4,hA⟩:=a3e x (show x.w≤Big by omega)
 have hL:=b8i hn hj
 have hw1:W64 (t+1)=t+1:=a0f (by omega) (by omega)
 have m7:(at_ (a0z (LJ x.Jobs n cmd t g' e) n 5 [.i (W64 ((at_ (LJ x.Jobs n cmd t g' e) n 5).asI+1))]) n 7).asI=e:=by simp only [Job.e,B2_,T.k6e,T.k6f,T.k6h,hL,hw1,d2w hn,d6i hn,d6j hn,d6k hn,d6l hn,d6m hn]
 have m0:(at_ (a0z (LJ x.Jobs n cmd t g' e) n 5 [.i (W64 ((at_ (LJ x.Jobs n cmd t g' e) n 5).asI+1))]) n 0).asI=cmd.Op:=by simp only [Job.e,B2_,T.k6e,T.k6f,T.k6h,hL,hw1,d2w hn,d6i hn,d6j hn,d6k hn,d6l hn,d6m hn]
 have mf:a0z (LJ x.Jobs n cmd t g' e) n 5 [.i (W64 ((at_ (LJ x.Jobs n cmd t g' e) n 5).asI+1))]=LJ x.Jobs n cmd (t+1) g' e:=by simp only [Job.e,B2_,T.k6e,T.k6f,T.k6h,hL,hw1,d2w hn,d6i hn,d6j hn,d6k hn,d6l hn,d6m hn]
 unfold a3z
 rcases Bool.eq_false_or_eq_true (e == 0) with he | he
 ·rw [b0u (show ((x.A,g',e):Arr×List Int×Int).2.2 == 0 from he)]
  refine a0p ((congrArg (· == 0) m7).trans he) ?_
  show some (⟨[_,_,_,_,_,_,_,_,_,_,_,_,_,_,.r (a0z (LJ x.Jobs n cmd t g' e) n 5 [.i (W64 ((at_ (LJ x.Jobs n cmd t g' e) n 5).asI+1))]),_,_,_],[]⟩:Outs)=_
  rw [mf];rfl
 ·rw [b4h hn (show (((x.A,g',e):Arr×List Int×Int).2.2 == 0)=false from he)]
  refine a0m ((congrArg (· == 0) m7).trans he) ?_
  have hw:=f9d x x.A e g' hn (by omega) (by have:=hA;have e0:x.w=x.A.w+wL Cmd.w x.Wait+wL Job.w x.Jobs+wL Ans.w x.Done+wL Turn.w x.Log:=rfl;omega) hj ht k hk
  cases ho:(cmd.Op == 1)
  ·exact a0m ((congrArg (· == 1) m0).trans ho) hw
  ·refine a0p ((congrArg (· == 1) m0).trans ho) ?_
   show b7d k (n:Int) (LJ x.Jobs n cmd t g' e) ⟨x.e,[]⟩ ((at_ (a0z (LJ x.Jobs n cmd t g' e) n 5 [.i (W64 ((at_ (LJ x.Jobs n cmd t g' e) n 5).asI+1))]) n 7).asI == 0)=_
   rw [m7,he];exact hw
theorem j1d (x:Eng) {n:Nat} (hn:n<x.Jobs.length) (hx:x.w≤1073741000) {cmd:Cmd} {t:Int} {g:List Int} {d:Int} (hj:x.Jobs[n]=⟨cmd,t,g,d⟩) (ht:0≤t∧t≤40) (hf:h7s x.A) (hc:a2q x.A.G cmd=0) (hts:t<a2v x.A.G cmd - 1) (hg6:g.length≤6) (k:Nat) (hk:Big+15≤k):a7y k (n:Int) ⟨x.e,[]⟩ true=some ⟨(c2e x n ⟨cmd,t,g,d⟩ (a5p x.A ⟨cmd,t,g,d⟩)).e++[.b true],[]⟩:=by
 have hB:Big=4294967296:=rfl
 obtain ⟨l1,l2,l3,l4,hA⟩:=a3e x (show x.w≤Big by omega)
 have hL:=b8i hn hj
 have hw1:W64 (t+1)=t+1:=a0f (by omega) (by omega)
 obtain ⟨c0,c2,c4,c5,c6,c7,cC⟩:=e6f hn hj
 have hch:=fun c=>chJ hn hj ht c
 have e0:x.w=x.A.w+wL Cmd.w x.Wait+wL Job.w x.Jobs+wL Ans.w x.Done+wL Turn.w x.Log:=rfl
 obtain ⟨vl,gl⟩:=h5r hn hj
 have hcw:cmd.w≤Big:=by have:cmd.w=cmd.Vals.length:=rfl;omega
 have hsc:=e1g hc hcw
 obtain ⟨r1,r6⟩:=h5t hc
 have aW:x.A.w≤1073741000:=by omega
 unfold a7y
 refine a0p rfl ((a0g (Nat.beq_refl _) _).trans ?_)
 rcases Bool.eq_false_or_eq_true (cmd.Op == 1) with o1 | o1
 ·have p1:cmd.Op=1:=by simpa using o1
  obtain ⟨b0,b1,_,_⟩:=hsc (by omega)
  have hLA:W64 ((at_ (a0s x.Jobs) n 2).asI+(at_ (a0s x.Jobs) n 5).asI)=cmd.Lba+t:=by rw [c2,c5,a0f (by omega) (by omega)]
  have hjd:a5p x.A ⟨cmd,t,g,d⟩=(x.A,bif (a1u x.A (cmd.Lba+t)).2 == 0 then g++[(a1u x.A (cmd.Lba+t)).1] else g,(a1u x.A (cmd.Lba+t)).2):=by
   unfold a5p;exact a0p o1 rfl
  rw [hjd]
  refine a0p ((congrArg (· == 1) c0).trans o1) ?_
  refine a1h ((congrArg (fun q=>a0a E P0 k N.j7v [.v x.A.e,.v [.i q]]) hLA).trans (g0m x.A hA hf (cmd.Lba+t) k (by omega))) ?_
  generalize a1u x.A (cmd.Lba+t)=r
  rcases Bool.eq_false_or_eq_true (r.2 == 0) with hr | hr
  ·rw [hr]
   refine a0p hr ?_
   have z6:(at_ (a0z (a0s x.Jobs) n 4 [.r ((at_ (a0s x.Jobs) n 4).asR)]) n 6).asR=eIs g:=by simp only [Job.e,B2_,T.k6e,T.k6f,T.k6h,hL,hw1,d2w hn,d6i hn,d6j hn,d6k hn,d6l hn,d6m hn]
   refine (a0g (show decide (((at_ (a0z (a0s x.Jobs) n 4 [.r ((at_ (a0s x.Jobs) n 4).asR)]) n 6).asR.length+([[.i r.1]]:List (List T)).length)*8≤140737488355328)=true by rw [z6];simp;omega) _).trans ?_
   refine (a0g (Nat.beq_refl _) _).trans ?_
   have hG:eIs g++[[.i r.1]]=eIs (g++[r.1]):=by simp
   have z7:a0z (a0z (a0z (a0s x.Jobs) n 4 [.r ((at_ (a0s x.Jobs) n 4).asR)]) n 6 [.r ((at_ (a0z (a0s x.Jobs) n 4 [.r ((at_ (a0s x.Jobs) n 4).asR)]) n 6).asR++([[.i r.1]]:List (List T)))]) n 7 [.i r.2]=LJ x.Jobs n cmd t (g++[r.1]) r.2:=by
    rw [z6,hG];simp only [Job.e,B2_,T.k6e,T.k6f,T.k6h,hL,hw1,d2w hn,d6i hn,d6j hn,d6k hn,d6l hn,d6m hn]
   show a3z k (n:Int) ⟨x.e,[]⟩ (a0z (a0z (a0z (a0s x.Jobs) n 4 [.r ((at_ (a0s x.Jobs) n 4).asR)]) n 6 [.r ((at_ (a0z (a0s x.Jobs) n 4 [.r ((at_ (a0s x.Jobs) n 4).asR)]) n 6).asR++([[.i r.1]]:List (List T)))]) n 7 [.i r.2])=_
   rw [z7]
   exact g6j x hn hx hj ht (g++[r.1]) r.2 k (by omega)
  ·rw [hr]
   refine a0m hr ?_
   have z7:a0z (a0z (a0s x.Jobs) n 4 [.r ((at_ (a0s x.Jobs) n 4).asR)]) n 7 [.i r.2]=LJ x.Jobs n cmd t g r.2:=by simp only [Job.e,B2_,T.k6e,T.k6f,T.k6h,hL,hw1,d2w hn,d6i hn,d6j hn,d6k hn,d6l hn,d6m hn]
   show a3z k (n:Int) ⟨x.e,[]⟩ (a0z (a0z (a0s x.Jobs) n 4 [.r ((at_ (a0s x.Jobs) n 4).asR)]) n 7 [.i r.2])=_
   rw [z7]
   exact g6j x hn hx hj ht g r.2 k (by omega)
 refine a0m ((congrArg (· == 1) c0).trans o1) ?_
 rcases Bool.eq_false_or_eq_true (cmd.Op == 2) with o2 | o2
 ·have p2:cmd.Op=2:=by simpa using o2
  obtain ⟨b0,b1,b2,b5⟩:=hsc (by omega)
  have hLA:W64 ((at_ (a0s x.Jobs) n 2).asI+(at_ (a0s x.Jobs) n 5).asI)=cmd.Lba+t:=by rw [c2,c5,a0f (by omega) (by omega)]
  have htl:t<cmd.Vals.length:=by have:=b2 p2;omega
  have hv:(at_ (at_ (a0s x.Jobs) n 4).asR (at_ (a0s x.Jobs) n 5).asI.toNat 0).asI=cmd.Vals.getD t.toNat 0:=by rw [c4,c5,a6c (by omega)]
  have hck:(decide (0≤(at_ (a0s x.Jobs) n 5).asI)&&decide ((at_ (a0s x.Jobs) n 5).asI<((at_ (a0s x.Jobs) n 4).asR.length:Int)))=true:=by rw [c4,c5,List.length_map];simp;omega
  have hjd:a5p x.A ⟨cmd,t,g,d⟩=((a0w x.A (cmd.Lba+t) (cmd.Vals.getD t.toNat 0)).1,g,(a0w x.A (cmd.Lba+t) (cmd.Vals.getD t.toNat 0)).2):=by
   unfold a5p;refine a0m o1 ?_
   exact a0m (show (cmd.Op == 4)=false by simp [p2]) (a0m (show (cmd.Op == 5)=false by simp [p2]) (a0m (show (cmd.Op == 6)=false by simp [p2]) (a0p (decide_eq_true htl) rfl)))
  rw [hjd]
  refine a0p ((congrArg (· == 2) c0).trans o2) ((a0g hck _).trans ?_)
  refine a1h ((congrArg (fun q=>a0a E P0 k N.j6d [.v x.A.e,.v [.i q],.v [.i (at_ (at_ (a0s x.Jobs) n 4).asR (at_ (a0s x.Jobs) n 5).asI.toNat 0).asI]]) hLA).trans ((congrArg (fun v=>a0a E P0 k N.j6d [.v x.A.e,.v [.i (cmd.Lba+t)],.v [.i v]]) hv).trans (d2q x.A (cmd.Lba+t) (cmd.Vals.getD t.toNat 0) (by omega) hf k (by omega)))) ?_
  have hpw:=b1h x.A (cmd.Lba+t) (cmd.Vals.getD t.toNat 0)
  generalize a0w x.A (cmd.Lba+t) (cmd.Vals.getD t.toNat 0)=p at hpw ⊢
  rcases Bool.eq_false_or_eq_true (p.2 == 0) with he | he
  ·rw [b0u (show ((p.1,g,p.2):Arr×List Int×Int).2.2 == 0 from he)]
   refine a0p ((congrArg (· == 0) (hch p.2).1).trans he) ?_
   show some (⟨[_,_,_,_,_,_,_,_,_,_,_,_,_,_,.r (chE (a0s x.Jobs) n p.2),_,_,_],[]⟩:Outs)=_
   rw [(hch p.2).2.2];rfl
  ·rw [b4h hn (show (((p.1,g,p.2):Arr×List Int×Int).2.2 == 0)=false from he)]
   refine a0m ((congrArg (· == 0) (hch p.2).1).trans he) ?_
   exact a0m ((congrArg (· == 1) (hch p.2).2.1).trans o1) (f8y x p.1 p.2 hn (by omega) (by omega) hj ht k (by omega))
 refine a0m ((congrArg (· == 2) c0).trans o2) ?_
 rcases Bool.eq_false_or_eq_true (cmd.Op == 6) with o6 | o6
 ·have p6:cmd.Op=6:=by simpa using o6
  obtain ⟨b0,b1,b2,b5⟩:=hsc (by omega)
  have hLA:W64 ((at_ (a0s x.Jobs) n 2).asI+(at_ (a0s x.Jobs) n 5).asI)=cmd.Lba+t:=by rw [c2,c5,a0f (by omega) (by omega)]
  have hjd:a5p x.A ⟨cmd,t,g,d⟩=((a0w x.A (cmd.Lba+t) 0).1,g,(a0w x.A (cmd.Lba+t) 0).2):=by
   unfold a5p;refine a0m o1 ?_
   exact a0m (show (cmd.Op == 4)=false by simp [p6]) (a0m (show (cmd.Op == 5)=false by simp [p6]) (a0p o6 rfl))
  rw [hjd]
  refine a0p ((congrArg (· == 6) c0).trans o6) ?_
  refine a1h ((congrArg (fun q=>a0a E P0 k N.j6d [.v x.A.e,.v [.i q],.v [.i 0]]) hLA).trans ((congrArg (fun v=>a0a E P0 k N.j6d [.v x.A.e,.v [.i (cmd.Lba+t)],.v [.i v]]) rfl).trans (d2q x.A (cmd.Lba+t) 0 (by omega) hf k (by omega)))) ?_
  have hpw:=b1h x.A (cmd.Lba+t) 0
  generalize a0w x.A (cmd.Lba+t) 0=p at hpw ⊢
  rcases Bool.eq_false_or_eq_true (p.2 == 0) with he | he
  ·rw [b0u (show ((p.1,g,p.2):Arr×List Int×Int).2.2 == 0 from he)]
   refine a0p ((congrArg (· == 0) (hch p.2).1).trans he) ?_
   show some (⟨[_,_,_,_,_,_,_,_,_,_,_,_,_,_,.r (chE (a0s x.Jobs) n p.2),_,_,_],[]⟩:Outs)=_
   rw [(hch p.2).2.2];rfl
  ·rw [b4h hn (show (((p.1,g,p.2):Arr×List Int×Int).2.2 == 0)=false from he)]
   refine a0m ((congrArg (· == 0) (hch p.2).1).trans he) ?_
   exact a0m ((congrArg (· == 1) (hch p.2).2.1).trans o1) (f8z x p.1 p.2 hn (by omega) (by omega) hj ht k (by omega))
 refine a0m ((congrArg (· == 6) c0).trans o6) ?_
 rcases Bool.eq_false_or_eq_true (cmd.Op == 3) with o3 | o3
 ·have p3:cmd.Op=3:=by simpa using o3
  obtain ⟨b0,b1,b2,b5⟩:=hsc (by omega)
  have hLA:W64 ((at_ (a0s x.Jobs) n 2).asI+(at_ (a0s x.Jobs) n 5).asI)=cmd.Lba+t:=by rw [c2,c5,a0f (by omega) (by omega)]
  refine a0p ((congrArg (· == 3) c0).trans o3) ?_
  have hcond:decide ((at_ (a0s x.Jobs) n 5).asI<((at_ (a0s x.Jobs) n 4).asR.length:Int))=decide (t<(cmd.Vals.length:Int)):=by rw [c4,c5,List.length_map]
  rcases Bool.eq_false_or_eq_true (decide (t<(cmd.Vals.length:Int))) with hl | hl
  ·have htl:=of_decide_eq_true hl
   have hv:(at_ (at_ (a0s x.Jobs) n 4).asR (at_ (a0s x.Jobs) n 5).asI.toNat 0).asI=cmd.Vals.getD t.toNat 0:=by rw [c4,c5,a6c (by omega)]
   have hck:(decide (0≤(at_ (a0s x.Jobs) n 5).asI)&&decide ((at_ (a0s x.Jobs) n 5).asI<((at_ (a0s x.Jobs) n 4).asR.length:Int)))=true:=by rw [c4,c5,List.length_map];simp;omega
   have hjd:a5p x.A ⟨cmd,t,g,d⟩=((a0w x.A (cmd.Lba+t) (cmd.Vals.getD t.toNat 0)).1,g,(a0w x.A (cmd.Lba+t) (cmd.Vals.getD t.toNat 0)).2):=by
    unfold a5p;refine a0m o1 ?_
    exact a0m (show (cmd.Op == 4)=false by simp [p3]) (a0m (show (cmd.Op == 5)=false by simp [p3]) (a0m (show (cmd.Op == 6)=false by simp [p3]) (a0p hl rfl)))
   rw [hjd]
   refine a0p (hcond.trans hl) ((a0g hck _).trans ?_)
   refine a1h ((congrArg (fun q=>a0a E P0 k N.j6d [.v x.A.e,.v [.i q],.v [.i (at_ (at_ (a0s x.Jobs) n 4).asR (at_ (a0s x.Jobs) n 5).asI.toNat 0).asI]]) hLA).trans ((congrArg (fun v=>a0a E P0 k N.j6d [.v x.A.e,.v [.i (cmd.Lba+t)],.v [.i v]]) hv).trans (d2q x.A (cmd.Lba+t) (cmd.Vals.getD t.toNat 0) (by omega) hf k (by omega)))) ?_
   have hpw:=b1h x.A (cmd.Lba+t) (cmd.Vals.getD t.toNat 0)
   generalize a0w x.A (cmd.Lba+t) (cmd.Vals.getD t.toNat 0)=p at hpw ⊢
   rcases Bool.eq_false_or_eq_true (p.2 == 0) with he | he
   ·rw [b0u (show ((p.1,g,p.2):Arr×List Int×Int).2.2 == 0 from he)]
    refine a0p ((congrArg (· == 0) (hch p.2).1).trans he) ?_
    show some (⟨[_,_,_,_,_,_,_,_,_,_,_,_,_,_,.r (chE (a0s x.Jobs) n p.2),_,_,_],[]⟩:Outs)=_
    rw [(hch p.2).2.2];rfl
   ·rw [b4h hn (show (((p.1,g,p.2):Arr×List Int×Int).2.2 == 0)=false from he)]
    refine a0m ((congrArg (· == 0) (hch p.2).1).trans he) ?_
    exact a0m ((congrArg (· == 1) (hch p.2).2.1).trans o1) (f9a x p.1 p.2 hn (by omega) (by omega) hj ht k (by omega))
  ·have htl:=of_decide_eq_false hl
   have hsb:=b1g x.A.G cmd.Lba
   have hspan:(a6i x.A.G cmd).1=cmd.Lba:=by unfold a6i;rw [hc];exact congrArg Prod.fst (show (bif cmd.Op == 4 then _ else _:Int×Int)=(cmd.Lba,_) from a0m (show (cmd.Op == 4)=false by simp [p3]) rfl)
   have hfa:W64 ((W64 (a0o x.A.G (a6i x.A.G cmd).1+(at_ (a0s x.Jobs) n 5).asI)) - ((at_ (a0s x.Jobs) n 4).asR.length:Int))=a0o x.A.G cmd.Lba+t - cmd.Vals.length:=by
    rw [hspan,c4,c5,List.length_map,a0f (n:=a0o x.A.G cmd.Lba+t) (by omega) (by omega),a0f (by omega) (by omega)]
   have hjd:a5p x.A ⟨cmd,t,g,d⟩=((a0t x.A (a0o x.A.G cmd.Lba+t - cmd.Vals.length)).1,g,(a0t x.A (a0o x.A.G cmd.Lba+t - cmd.Vals.length)).2):=by
    unfold a5p;refine a0m o1 ?_
    exact a0m (show (cmd.Op == 4)=false by simp [p3]) (a0m (show (cmd.Op == 5)=false by simp [p3]) (a0m (show (cmd.Op == 6)=false by simp [p3]) (a0m hl rfl)))
   rw [hjd]
   refine a0m (hcond.trans hl) ?_
   refine a1h ((congrArg (fun c=>a0a E P0 k N.j9t [.v x.A.G.e,.v c]) cC).trans (f4j x.A.G cmd hcw k (by omega))) ?_
   refine a1h ((congrArg (fun q=>a0a E P0 k N.j7z [.v x.A.e,.v [.i q]]) hfa).trans (e1e x.A (a0o x.A.G cmd.Lba+t - cmd.Vals.length) (by omega) hf k (by omega))) ?_
   have hpw:=b4g x.A (a0o x.A.G cmd.Lba+t - cmd.Vals.length)
   generalize a0t x.A (a0o x.A.G cmd.Lba+t - cmd.Vals.length)=p at hpw ⊢
   rcases Bool.eq_false_or_eq_true (p.2 == 0) with he | he
   ·rw [b0u (show ((p.1,g,p.2):Arr×List Int×Int).2.2 == 0 from he)]
    refine a0p ((congrArg (· == 0) (hch p.2).1).trans he) ?_
    show some (⟨[_,_,_,_,_,_,_,_,_,_,_,_,_,_,.r (chE (a0s x.Jobs) n p.2),_,_,_],[]⟩:Outs)=_
    rw [(hch p.2).2.2];rfl
   ·rw [b4h hn (show (((p.1,g,p.2):Arr×List Int×Int).2.2 == 0)=false from he)]
    refine a0m ((congrArg (· == 0) (hch p.2).1).trans he) ?_
    exact a0m ((congrArg (· == 1) (hch p.2).2.1).trans o1) (f9b x p.1 p.2 hn (by omega) (by omega) hj ht k (by omega))
 refine a0m ((congrArg (· == 3) c0).trans o3) ?_
 rcases Bool.eq_false_or_eq_true (cmd.Op == 4) with o4 | o4
 ·
  have hjd:a5p x.A ⟨cmd,t,g,d⟩=((a0t x.A t).1,g,(a0t x.A t).2):=by
   unfold a5p;refine a0m o1 ?_
   exact a0p o4 rfl
  rw [hjd]
  refine a0p ((congrArg (· == 4) c0).trans o4) ?_
  refine a1h ((congrArg (fun q=>a0a E P0 k N.j7z [.v x.A.e,.v [.i q]]) c5).trans (e1e x.A t (by omega) hf k (by omega))) ?_
  have hpw:=b4g x.A t
  generalize a0t x.A t=p at hpw ⊢
  rcases Bool.eq_false_or_eq_true (p.2 == 0) with he | he
  ·rw [b0u (show ((p.1,g,p.2):Arr×List Int×Int).2.2 == 0 from he)]
   refine a0p ((congrArg (· == 0) (hch p.2).1).trans he) ?_
   show some (⟨[_,_,_,_,_,_,_,_,_,_,_,_,_,_,.r (chE (a0s x.Jobs) n p.2),_,_,_],[]⟩:Outs)=_
   rw [(hch p.2).2.2];rfl
  ·rw [b4h hn (show (((p.1,g,p.2):Arr×List Int×Int).2.2 == 0)=false from he)]
   refine a0m ((congrArg (· == 0) (hch p.2).1).trans he) ?_
   exact a0m ((congrArg (· == 1) (hch p.2).2.1).trans o1) (f9c x p.1 p.2 hn (by omega) (by omega) hj ht k (by omega))
 refine a0m ((congrArg (· == 4) c0).trans o4) ?_
 have p5:cmd.Op=5:=by
  have n1:cmd.Op≠1:=by simpa using o1
  have n2:cmd.Op≠2:=by simpa using o2
  have n3:cmd.Op≠3:=by simpa using o3
  have n4:cmd.Op≠4:=by simpa using o4
  have n6:cmd.Op≠6:=by simpa using o6
  omega
 obtain ⟨b0,b1,b2,b5⟩:=hsc (by omega)
 have hv2:=h5s hc p5
 have hLA:W64 ((at_ (a0s x.Jobs) n 2).asI+(at_ (a0s x.Jobs) n 5).asI)=cmd.Lba+t:=by rw [c2,c5,a0f (by omega) (by omega)]
 have hj5:a5p x.A ⟨cmd,t,g,d⟩=(bif (a1u x.A (cmd.Lba+t)).2 != 0 then (x.A,g,(a1u x.A (cmd.Lba+t)).2) else bif (a1u x.A (cmd.Lba+t)).1 != cmd.Vals.getD 0 0 then (x.A,g,4) else ((a0w x.A (cmd.Lba+t) (cmd.Vals.getD 1 0)).1,g,(a0w x.A (cmd.Lba+t) (cmd.Vals.getD 1 0)).2)):=by
  unfold a5p
  exact a0m o1 (a0m o4 (a0p (show (cmd.Op == 5)=true by simp [p5]) rfl))
 refine a1h ((congrArg (fun q=>a0a E P0 k N.j7v [.v x.A.e,.v [.i q]]) hLA).trans (g0m x.A hA hf (cmd.Lba+t) k (by omega))) ?_
 generalize a1u x.A (cmd.Lba+t)=r at hj5 ⊢
 have z7:∀ v:Int,a0z (a0z (a0s x.Jobs) n 4 [.r ((at_ (a0s x.Jobs) n 4).asR)]) n 7 [.i v]=LJ x.Jobs n cmd t g v:=fun v=>by simp only [Job.e,B2_,T.k6e,T.k6f,T.k6h,hL,hw1,d2w hn,d6i hn,d6j hn,d6k hn,d6l hn,d6m hn]
 have w0:(at_ (at_ (a0s x.Jobs) n 4).asR 0 0).asI=cmd.Vals.getD 0 0:=by rw [c4,a6c (by omega)]
 have w1:(at_ (at_ (a0s x.Jobs) n 4).asR 1 0).asI=cmd.Vals.getD 1 0:=by rw [c4,a6c (by omega)]
 rcases Bool.eq_false_or_eq_true (r.2 != 0) with hr | hr
 ·rw [show a5p x.A ⟨cmd,t,g,d⟩=(x.A,g,r.2) by rw [hj5];exact a0p hr rfl]
  refine a0p hr ?_
  show a3z k (n:Int) ⟨x.e,[]⟩ (a0z (a0z (a0s x.Jobs) n 4 [.r ((at_ (a0s x.Jobs) n 4).asR)]) n 7 [.i r.2])=_
  rw [z7]
  exact g6j x hn hx hj ht g r.2 k (by omega)
 refine a0m hr ((a0g (show decide ((0:Int)<((at_ (a0s x.Jobs) n 4).asR.length:Int))=true by rw [c4,List.length_map,hv2];rfl) _).trans ?_)
 rcases Bool.eq_false_or_eq_true (r.1 != cmd.Vals.getD 0 0) with hq | hq
 ·rw [show a5p x.A ⟨cmd,t,g,d⟩=(x.A,g,4) by rw [hj5];exact a0m hr (a0p hq rfl)]
  refine a0p ((congrArg (r.1 != ·) w0).trans hq) ?_
  show a3z k (n:Int) ⟨x.e,[]⟩ (a0z (a0z (a0s x.Jobs) n 4 [.r ((at_ (a0s x.Jobs) n 4).asR)]) n 7 [.i 4])=_
  rw [z7]
  exact g6j x hn hx hj ht g 4 k (by omega)
 rw [show a5p x.A ⟨cmd,t,g,d⟩=((a0w x.A (cmd.Lba+t) (cmd.Vals.getD 1 0)).1,g,(a0w x.A (cmd.Lba+t) (cmd.Vals.getD 1 0)).2) by rw [hj5];exact a0m hr (a0m hq rfl)]
 refine a0m ((congrArg (r.1 != ·) w0).trans hq) ((a0g (show decide ((1:Int)<((at_ (a0s x.Jobs) n 4).asR.length:Int))=true by rw [c4,List.length_map,hv2];rfl) _).trans ?_)
 refine a1h ((congrArg (fun q=>a0a E P0 k N.j6d [.v x.A.e,.v [.i q],.v [.i (at_ (at_ (a0s x.Jobs) n 4).asR 1 0).asI]]) hLA).trans ((congrArg (fun v=>a0a E P0 k N.j6d [.v x.A.e,.v [.i (cmd.Lba+t)],.v [.i v]]) w1).trans (d2q x.A (cmd.Lba+t) (cmd.Vals.getD 1 0) (by omega) hf k (by omega)))) ?_
 have hpw:=b1h x.A (cmd.Lba+t) (cmd.Vals.getD 1 0)
 generalize a0w x.A (cmd.Lba+t) (cmd.Vals.getD 1 0)=p at hpw ⊢
 rcases Bool.eq_false_or_eq_true (p.2 == 0) with he | he
 ·rw [b0u (show ((p.1,g,p.2):Arr×List Int×Int).2.2 == 0 from he)]
  refine a0p ((congrArg (· == 0) (hch p.2).1).trans he) ?_
  show some (⟨[_,_,_,_,_,_,_,_,_,_,_,_,_,_,.r (chE (a0s x.Jobs) n p.2),_,_,_],[]⟩:Outs)=_
  rw [(hch p.2).2.2];rfl
 ·rw [b4h hn (show (((p.1,g,p.2):Arr×List Int×Int).2.2 == 0)=false from he)]
  refine a0m ((congrArg (· == 0) (hch p.2).1).trans he) ?_
  exact a0m ((congrArg (· == 1) (hch p.2).2.1).trans o1) (f5j x p.1 p.2 hn (by omega) (by omega) hj ht k (by omega))
abbrev scE (L:List (List T)) (n:Nat) (c:Int):List (List T):=a0z L n 0 [.i (at_ L n 0).asI,.i (at_ L n 1).asI,.i (at_ L n 2).asI,.i (at_ L n 3).asI,.r (at_ L n 4).asR,.i (W64 ((at_ L n 5).asI+1)),.r (at_ L n 6).asR,.i c]
theorem scJ {l:List Job} {n:Nat} (hn:n<l.length) {cmd:Cmd} {t:Int} {g:List Int} {d:Int} (hj:l[n]=⟨cmd,t,g,d⟩) (ht:0≤t∧t≤40) (c:Int):scE (a0s l) n c=LJ l n cmd (t+1) g c:=by
 have hL:=b8i hn hj
 have hw1:W64 (t+1)=t+1:=a0f (by omega) (by omega)
 unfold scE;simp only [Job.e,B2_,T.k6e,T.k6f,T.k6h,hL,hw1,d2w hn,d6i hn,d6j hn,d6k hn,d6l hn,d6m hn]
theorem h3f (x:Eng) {n:Nat} (hn:n<x.Jobs.length) (hx:x.w≤1073741000) {cmd:Cmd} {t:Int} {g:List Int} {d:Int} (hj:x.Jobs[n]=⟨cmd,t,g,d⟩) (ht:0≤t∧t≤40) (e:Int) (k:Nat) (hk:Big+4≤k):b7c k (n:Int) ⟨x.e,[]⟩ e=some ⟨(c2e x n ⟨cmd,t,g,d⟩ (x.A,g,e)).e++[.b true],[]⟩:=by
 have hB:Big=4294967296:=rfl
 obtain ⟨l1,l2,l3,l4,hA⟩:=a3e x (show x.w≤Big by omega)
 have hL:=b8i hn hj
 have hw1:W64 (t+1)=t+1:=a0f (by omega) (by omega)
 obtain ⟨c0,c2,c4,c5,c6,c7,cC⟩:=e6f hn hj
 have sf:=fun c=>scJ hn hj ht c
 have hix:(decide (0≤(n:Int))&&decide ((n:Int)<((a0s x.Jobs).length:Int)))=true:=by rw [List.length_map,dlt hn];simp
 have e0:x.w=x.A.w+wL Cmd.w x.Wait+wL Job.w x.Jobs+wL Ans.w x.Done+wL Turn.w x.Log:=rfl
 unfold b7c
 refine (a0g hix _).trans ((a0g (Nat.beq_refl _) _).trans ?_)
 rcases Bool.eq_false_or_eq_true (e == 0) with he | he
 ·rw [b0u (show ((x.A,g,e):Arr×List Int×Int).2.2 == 0 from he)]
  refine a0p he ?_
  unfold c2y
  show some (⟨[_,_,_,_,_,_,_,_,_,_,_,_,_,_,.r (scE (a0s x.Jobs) n e),_,_,_],[]⟩:Outs)=_
  rw [sf];rfl
 ·rw [b4h hn (show (((x.A,g,e):Arr×List Int×Int).2.2 == 0)=false from he)]
  refine a0m he ?_
  have hw:=f9e x x.A e hn (by omega) (by omega) hj ht k (by omega)
  cases ho:(cmd.Op == 1)
  ·exact a0m ((congrArg (· == 1) c0).trans ho) hw
  ·refine a0p ((congrArg (· == 1) c0).trans ho) ?_
   show b7b k (n:Int) ⟨x.e,[]⟩ e (e == 0)=_
   rw [he];exact hw
theorem g6k (x:Eng) {n:Nat} (hn:n<x.Jobs.length) (hx:x.w≤1073741000) {cmd:Cmd} {t:Int} {g:List Int} {d:Int} (hj:x.Jobs[n]=⟨cmd,t,g,d⟩) (ht:0≤t∧t≤40) (b:Arr) (e:Int) (hb:b.w≤1073741824) (k:Nat) (hk:Big+4≤k):b2j k (n:Int) ⟨x.e,[]⟩ b.Id b.G.N b.G.S (a2p b.Mems) b.Lost b.Built b.Seq b.Tail b.Gen (a1e b.Dirty) b.Fuse b.Down b.Broken e=some ⟨(c2e x n ⟨cmd,t,g,d⟩ (b,g,e)).e++[.b true],[]⟩:=by
 have hB:Big=4294967296:=rfl
 obtain ⟨l1,l2,l3,l4,hA⟩:=a3e x (show x.w≤Big by omega)
 have hL:=b8i hn hj
 have hw1:W64 (t+1)=t+1:=a0f (by omega) (by omega)
 obtain ⟨c0,c2,c4,c5,c6,c7,cC⟩:=e6f hn hj
 have sf:=fun c=>scJ hn hj ht c
 have hix:(decide (0≤(n:Int))&&decide ((n:Int)<((a0s x.Jobs).length:Int)))=true:=by rw [List.length_map,dlt hn];simp
 have e0:x.w=x.A.w+wL Cmd.w x.Wait+wL Job.w x.Jobs+wL Ans.w x.Done+wL Turn.w x.Log:=rfl
 unfold b2j
 refine (a0g hix _).trans ((a0g (Nat.beq_refl _) _).trans ?_)
 rcases Bool.eq_false_or_eq_true (e == 0) with he | he
 ·rw [b0u (show ((b,g,e):Arr×List Int×Int).2.2 == 0 from he)]
  refine a0p he ?_
  show some (⟨[_,_,_,_,_,_,_,_,_,_,_,_,_,_,.r (scE (a0s x.Jobs) n e),_,_,_],[]⟩:Outs)=_
  rw [sf];rfl
 ·rw [b4h hn (show (((b,g,e):Arr×List Int×Int).2.2 == 0)=false from he)]
  refine a0m he ?_
  have hw:=f5l x b e hn (by omega) (by omega) hj ht k (by omega)
  cases ho:(cmd.Op == 1)
  ·exact a0m ((congrArg (· == 1) c0).trans ho) hw
  ·refine a0p ((congrArg (· == 1) c0).trans ho) ?_
   show b2i k (n:Int) b.Down b.Broken (a2p b.Mems) (a1e b.Dirty) ⟨x.e,[]⟩ b.Id b.G.N b.G.S b.Lost b.Built b.Seq b.Tail b.Gen b.Fuse e (e == 0)=_
   rw [he];exact hw
theorem j1e (x:Eng) {n:Nat} (hn:n<x.Jobs.length) (hx:x.w≤1073741000) {cmd:Cmd} {t:Int} {g:List Int} {d:Int} (hj:x.Jobs[n]=⟨cmd,t,g,d⟩) (ht:0≤t∧t≤40) (hf:h7s x.A) (hc:a2q x.A.G cmd=0) (hts:t<a2v x.A.G cmd - 1) (hg6:g.length≤6) (k:Nat) (hk:Big+15≤k):a7n k (n:Int) ⟨x.e,[]⟩ true=some ⟨(c2e x n ⟨cmd,t,g,d⟩ (a5p x.A ⟨cmd,t,g,d⟩)).e++[.b true],[]⟩:=by
 have hB:Big=4294967296:=rfl
 obtain ⟨l1,l2,l3,l4,hA⟩:=a3e x (show x.w≤Big by omega)
 have hL:=b8i hn hj
 have hw1:W64 (t+1)=t+1:=a0f (by omega) (by omega)
 obtain ⟨c0,c2,c4,c5,c6,c7,cC⟩:=e6f hn hj
 have sf:=fun c=>scJ hn hj ht c
 have hix:(decide (0≤(n:Int))&&decide ((n:Int)<((a0s x.Jobs).length:Int)))=true:=by rw [List.length_map,dlt hn];simp
 have e0:x.w=x.A.w+wL Cmd.w x.Wait+wL Job.w x.Jobs+wL Ans.w x.Done+wL Turn.w x.Log:=rfl
 obtain ⟨vl,gl⟩:=h5r hn hj
 have hcw:cmd.w≤Big:=by have:cmd.w=cmd.Vals.length:=rfl;omega
 have hsc:=e1g hc hcw
 obtain ⟨r1,r6⟩:=h5t hc
 have aW:x.A.w≤1073741000:=by omega
 unfold a7n
 refine a0p rfl ?_
 rcases Bool.eq_false_or_eq_true (cmd.Op == 1) with o1 | o1
 ·have p1:cmd.Op=1:=by simpa using o1
  obtain ⟨b0,b1,_,_⟩:=hsc (by omega)
  have hLA:W64 ((at_ (a0s x.Jobs) n 2).asI+(at_ (a0s x.Jobs) n 5).asI)=cmd.Lba+t:=by rw [c2,c5,a0f (by omega) (by omega)]
  have hjd:a5p x.A ⟨cmd,t,g,d⟩=(x.A,bif (a1u x.A (cmd.Lba+t)).2 == 0 then g++[(a1u x.A (cmd.Lba+t)).1] else g,(a1u x.A (cmd.Lba+t)).2):=by
   unfold a5p;exact a0p o1 rfl
  rw [hjd]
  refine a0p ((congrArg (· == 1) c0).trans o1) ?_
  refine a1h ((congrArg (fun q=>a0a E P0 k N.j7l [.v x.A.e,.v [.i q]]) hLA).trans (g0n x.A hA hf (cmd.Lba+t) k (by omega))) ?_
  generalize a1u x.A (cmd.Lba+t)=r
  rcases Bool.eq_false_or_eq_true (r.2 == 0) with hr | hr
  ·rw [hr]
   refine a0p hr ?_
   refine (a0g (show decide (((at_ (a0s x.Jobs) n 6).asR.length+([[.i r.1]]:List (List T)).length)*8≤140737488355328)=true by rw [c6];simp;omega) _).trans ?_
   refine (a0g hix _).trans ((a0g (Nat.beq_refl _) _).trans (a0p hr ?_))
   have hG:eIs g++[[.i r.1]]=eIs (g++[r.1]):=by simp
   have z7:a0z (a0s x.Jobs) n 0 [.i (at_ (a0s x.Jobs) n 0).asI,.i (at_ (a0s x.Jobs) n 1).asI,.i (at_ (a0s x.Jobs) n 2).asI,.i (at_ (a0s x.Jobs) n 3).asI,.r (at_ (a0s x.Jobs) n 4).asR,.i (W64 ((at_ (a0s x.Jobs) n 5).asI+1)),.r ((at_ (a0s x.Jobs) n 6).asR++([[.i r.1]]:List (List T))),.i r.2]=LJ x.Jobs n cmd (t+1) (g++[r.1]) r.2:=by
    rw [c6,hG];simp only [Job.e,B2_,T.k6e,T.k6f,T.k6h,hL,hw1,d2w hn,d6i hn,d6j hn,d6k hn,d6l hn,d6m hn]
   unfold c2y
   show _=some (⟨(c2e x n ⟨cmd,t,g,d⟩ (x.A,g++[r.1],r.2)).e++[.b true],[]⟩:Outs)
   rw [b0u (show ((x.A,g++[r.1],r.2):Arr×List Int×Int).2.2 == 0 from hr)]
   show some (⟨[_,_,_,_,_,_,_,_,_,_,_,_,_,_,.r (a0z (a0s x.Jobs) n 0 [.i (at_ (a0s x.Jobs) n 0).asI,.i (at_ (a0s x.Jobs) n 1).asI,.i (at_ (a0s x.Jobs) n 2).asI,.i (at_ (a0s x.Jobs) n 3).asI,.r (at_ (a0s x.Jobs) n 4).asR,.i (W64 ((at_ (a0s x.Jobs) n 5).asI+1)),.r ((at_ (a0s x.Jobs) n 6).asR++([[.i r.1]]:List (List T))),.i r.2]),_,_,_],[]⟩:Outs)=_
   rw [z7];rfl
  ·rw [hr]
   refine a0m hr ?_
   exact h3f x hn hx hj ht r.2 k (by omega)
 refine a0m ((congrArg (· == 1) c0).trans o1) ?_
 rcases Bool.eq_false_or_eq_true (cmd.Op == 4) with o4 | o4
 ·have hjd:a5p x.A ⟨cmd,t,g,d⟩=((a0t x.A t).1,g,(a0t x.A t).2):=by unfold a5p;exact a0m o1 (a0p o4 rfl)
  rw [hjd]
  refine a0p ((congrArg (· == 4) c0).trans o4) ?_
  refine a1h ((congrArg (fun q=>a0a E P0 k N.j7o [.v x.A.e,.v [.i q]]) c5).trans (e1f x.A t (by omega) hf k (by omega))) ?_
  have hpw:=b4g x.A t
  generalize a0t x.A t=p at hpw ⊢
  refine (a0g hix _).trans ((a0g (Nat.beq_refl _) _).trans ?_)
  rcases Bool.eq_false_or_eq_true (p.2 == 0) with he | he
  ·rw [b0u (show ((p.1,g,p.2):Arr×List Int×Int).2.2 == 0 from he)]
   refine a0p he ?_
   show some (⟨[_,_,_,_,_,_,_,_,_,_,_,_,_,_,.r (scE (a0s x.Jobs) n p.2),_,_,_],[]⟩:Outs)=_
   rw [sf];rfl
  ·rw [b4h hn (show (((p.1,g,p.2):Arr×List Int×Int).2.2 == 0)=false from he)]
   refine a0m he ?_
   have hw:=f9f x p.1 p.2 hn (by omega) (by omega) hj ht k (by omega)
   exact a0m ((congrArg (· == 1) c0).trans o1) hw
 refine a0m ((congrArg (· == 4) c0).trans o4) ?_
 have hLA4:cmd.Op≠4:=by simpa using o4
 obtain ⟨b0,b1,b2,b5⟩:=hsc hLA4
 have hLA:W64 ((at_ (a0s x.Jobs) n 2).asI+(at_ (a0s x.Jobs) n 5).asI)=cmd.Lba+t:=by rw [c2,c5,a0f (by omega) (by omega)]
 rcases Bool.eq_false_or_eq_true (cmd.Op == 5) with o5 | o5
 ·have p5:cmd.Op=5:=by simpa using o5
  have hv2:=h5s hc p5
  have ht0:t=0:=by have:=b5 p5;omega
  have hj5:a5p x.A ⟨cmd,t,g,d⟩=(bif (a1u x.A cmd.Lba).2 != 0 then (x.A,g,(a1u x.A cmd.Lba).2) else bif (a1u x.A cmd.Lba).1 != cmd.Vals.getD 0 0 then (x.A,g,4) else ((a0w x.A cmd.Lba (cmd.Vals.getD 1 0)).1,g,(a0w x.A cmd.Lba (cmd.Vals.getD 1 0)).2)):=by
   unfold a5p
   refine a0m o1 (a0m o4 (a0p o5 ?_))
   rw [show cmd.Lba+t=cmd.Lba by omega]
  refine a0p ((congrArg (· == 5) c0).trans o5) ?_
  refine a1h ((congrArg (fun q=>a0a E P0 k N.j7l [.v x.A.e,.v [.i q]]) c2).trans (g0n x.A hA hf cmd.Lba k (by omega))) ?_
  generalize a1u x.A cmd.Lba=r at hj5 ⊢
  have w0:(at_ (at_ (a0s x.Jobs) n 4).asR 0 0).asI=cmd.Vals.getD 0 0:=by rw [c4,a6c (by omega)]
  have w1:(at_ (at_ (a0s x.Jobs) n 4).asR 1 0).asI=cmd.Vals.getD 1 0:=by rw [c4,a6c (by omega)]
  rcases Bool.eq_false_or_eq_true (r.2 != 0) with hr | hr
  ·rw [show a5p x.A ⟨cmd,t,g,d⟩=(x.A,g,r.2) by rw [hj5];exact a0p hr rfl]
   exact a0p hr (h3f x hn hx hj ht r.2 k (by omega))
  refine a0m hr ((a0g (show decide ((0:Int)<((at_ (a0s x.Jobs) n 4).asR.length:Int))=true by rw [c4,List.length_map,hv2];rfl) _).trans ?_)
  rcases Bool.eq_false_or_eq_true (r.1 != cmd.Vals.getD 0 0) with hq | hq
  ·rw [show a5p x.A ⟨cmd,t,g,d⟩=(x.A,g,4) by rw [hj5];exact a0m hr (a0p hq rfl)]
   exact a0p ((congrArg (r.1 != ·) w0).trans hq) (h3f x hn hx hj ht 4 k (by omega))
  rw [show a5p x.A ⟨cmd,t,g,d⟩=((a0w x.A cmd.Lba (cmd.Vals.getD 1 0)).1,g,(a0w x.A cmd.Lba (cmd.Vals.getD 1 0)).2) by rw [hj5];exact a0m hr (a0m hq rfl)]
  refine a0m ((congrArg (r.1 != ·) w0).trans hq) ((a0g (show decide ((1:Int)<((at_ (a0s x.Jobs) n 4).asR.length:Int))=true by rw [c4,List.length_map,hv2];rfl) _).trans ?_)
  refine a1h ((congrArg (fun q=>a0a E P0 k N.j6n [.v x.A.e,.v [.i q],.v [.i (at_ (at_ (a0s x.Jobs) n 4).asR 1 0).asI]]) c2).trans ((congrArg (fun v=>a0a E P0 k N.j6n [.v x.A.e,.v [.i cmd.Lba],.v [.i v]]) w1).trans (e3k x.A cmd.Lba (cmd.Vals.getD 1 0) (by omega) hf k (by omega)))) ?_
  have hpw:=b1h x.A cmd.Lba (cmd.Vals.getD 1 0)
  generalize a0w x.A cmd.Lba (cmd.Vals.getD 1 0)=p at hpw ⊢
  exact g6k x hn hx hj ht p.1 p.2 (by omega) k (by omega)
 refine a0m ((congrArg (· == 5) c0).trans o5) ?_
 rcases Bool.eq_false_or_eq_true (cmd.Op == 6) with o6 | o6
 ·rw [show a5p x.A ⟨cmd,t,g,d⟩=((a0w x.A (cmd.Lba+t) 0).1,g,(a0w x.A (cmd.Lba+t) 0).2) by unfold a5p;exact a0m o1 (a0m o4 (a0m o5 (a0p o6 rfl)))]
  refine a0p ((congrArg (· == 6) c0).trans o6) ?_
  refine a1h ((congrArg (fun q=>a0a E P0 k N.j6n [.v x.A.e,.v [.i q],.v [.i 0]]) hLA).trans ((congrArg (fun v=>a0a E P0 k N.j6n [.v x.A.e,.v [.i (cmd.Lba+t)],.v [.i v]]) rfl).trans (e3k x.A (cmd.Lba+t) 0 (by omega) hf k (by omega)))) ?_
  have hpw:=b1h x.A (cmd.Lba+t) 0
  generalize a0w x.A (cmd.Lba+t) 0=p at hpw ⊢
  exact g6k x hn hx hj ht p.1 p.2 (by omega) k (by omega)
 refine a0m ((congrArg (· == 6) c0).trans o6) ?_
 have hcond:decide ((at_ (a0s x.Jobs) n 5).asI<((at_ (a0s x.Jobs) n 4).asR.length:Int))=decide (t<(cmd.Vals.length:Int)):=by rw [c4,c5,List.length_map]
 rcases Bool.eq_false_or_eq_true (decide (t<(cmd.Vals.length:Int))) with hl | hl
 ·have htl:=of_decide_eq_true hl
  have hv:(at_ (at_ (a0s x.Jobs) n 4).asR (at_ (a0s x.Jobs) n 5).asI.toNat 0).asI=cmd.Vals.getD t.toNat 0:=by rw [c4,c5,a6c (by omega)]
  have hck:(decide (0≤(at_ (a0s x.Jobs) n 5).asI)&&decide ((at_ (a0s x.Jobs) n 5).asI<((at_ (a0s x.Jobs) n 4).asR.length:Int)))=true:=by rw [c4,c5,List.length_map];simp;omega
  rw [show a5p x.A ⟨cmd,t,g,d⟩=((a0w x.A (cmd.Lba+t) (cmd.Vals.getD t.toNat 0)).1,g,(a0w x.A (cmd.Lba+t) (cmd.Vals.getD t.toNat 0)).2) by unfold a5p;exact a0m o1 (a0m o4 (a0m o5 (a0m o6 (a0p hl rfl))))]
  refine a0p (hcond.trans hl) ((a0g hck _).trans ?_)
  refine a1h ((congrArg (fun q=>a0a E P0 k N.j6n [.v x.A.e,.v [.i q],.v [.i (at_ (at_ (a0s x.Jobs) n 4).asR (at_ (a0s x.Jobs) n 5).asI.toNat 0).asI]]) hLA).trans ((congrArg (fun v=>a0a E P0 k N.j6n [.v x.A.e,.v [.i (cmd.Lba+t)],.v [.i v]]) hv).trans (e3k x.A (cmd.Lba+t) (cmd.Vals.getD t.toNat 0) (by omega) hf k (by omega)))) ?_
  have hpw:=b1h x.A (cmd.Lba+t) (cmd.Vals.getD t.toNat 0)
  generalize a0w x.A (cmd.Lba+t) (cmd.Vals.getD t.toNat 0)=p at hpw ⊢
  exact g6k x hn hx hj ht p.1 p.2 (by omega) k (by omega)
 ·have htl:=of_decide_eq_false hl
  have hsb:=b1g x.A.G cmd.Lba
  have hfa:W64 ((W64 (a0o x.A.G cmd.Lba+(at_ (a0s x.Jobs) n 5).asI)) - ((at_ (a0s x.Jobs) n 4).asR.length:Int))=a0o x.A.G cmd.Lba+t - cmd.Vals.length:=by
   rw [c4,c5,List.length_map,a0f (n:=a0o x.A.G cmd.Lba+t) (by omega) (by omega),a0f (by omega) (by omega)]
  rw [show a5p x.A ⟨cmd,t,g,d⟩=((a0t x.A (a0o x.A.G cmd.Lba+t - cmd.Vals.length)).1,g,(a0t x.A (a0o x.A.G cmd.Lba+t - cmd.Vals.length)).2) by unfold a5p;exact a0m o1 (a0m o4 (a0m o5 (a0m o6 (a0m hl rfl))))]
  refine a0m (hcond.trans hl) ?_
  refine a1h ((congrArg (fun q=>a0a E P0 k N.j6x [.v x.A.G.e,.v [.i q]]) c2).trans (c6b x.A.G cmd.Lba k (by omega))) ?_
  refine a1h ((congrArg (fun q=>a0a E P0 k N.j7o [.v x.A.e,.v [.i q]]) hfa).trans (e1f x.A (a0o x.A.G cmd.Lba+t - cmd.Vals.length) (by omega) hf k (by omega))) ?_
  have hpw:=b4g x.A (a0o x.A.G cmd.Lba+t - cmd.Vals.length)
  generalize a0t x.A (a0o x.A.G cmd.Lba+t - cmd.Vals.length)=p at hpw ⊢
  refine (a0g hix _).trans ((a0g (Nat.beq_refl _) _).trans ?_)
  rcases Bool.eq_false_or_eq_true (p.2 == 0) with he | he
  ·rw [b0u (show ((p.1,g,p.2):Arr×List Int×Int).2.2 == 0 from he)]
   refine a0p he ?_
   show some (⟨[_,_,_,_,_,_,_,_,_,_,_,_,_,_,.r (scE (a0s x.Jobs) n p.2),_,_,_],[]⟩:Outs)=_
   rw [sf];rfl
  ·rw [b4h hn (show (((p.1,g,p.2):Arr×List Int×Int).2.2 == 0)=false from he)]
   refine a0m he ?_
   have hw:=f5k x p.1 p.2 hn (by omega) (by omega) hj ht k (by omega)
   exact a0m ((congrArg (· == 1) c0).trans o1) hw
theorem i6v (x:Eng) {n:Nat} (hn:n<x.Jobs.length) (hx:x.w≤1073741000) {cmd:Cmd} {t:Int} {g:List Int} {d:Int} (hj:x.Jobs[n]=⟨cmd,t,g,d⟩) (ht:0≤t∧t≤40) (k:Nat) (hk:Big+4≤k):a7y k (n:Int) ⟨x.e,[]⟩ false=some ⟨(a7d x n ⟨cmd,t,g,d⟩).e++[.b true],[]⟩:=by
 have hB:Big=4294967296:=rfl
 obtain ⟨l1,l2,l3,l4,hA⟩:=a3e x (show x.w≤Big by omega)
 have hL:=b8i hn hj
 have hw1:W64 (t+1)=t+1:=a0f (by omega) (by omega)
 obtain ⟨c0,c2,c4,c5,c6,c7,cC⟩:=e6f hn hj
 have e0:x.w=x.A.w+wL Cmd.w x.Wait+wL Job.w x.Jobs+wL Ans.w x.Done+wL Turn.w x.Log:=rfl
 unfold a7y
 refine a0m rfl ?_
 have hwf:=e8a x x.A 0 hn (by omega) (by omega) hj ht k (by omega)
 rcases (Bool.eq_false_or_eq_true (cmd.Op == 1)).symm with o1 | o1
 ·have ho:a7d x n ⟨cmd,t,g,d⟩=answer { x with Jobs:=del x.Jobs n } cmd ⟨cmd.Id,d,[]⟩:=by
   unfold a7d;rw [show ((⟨cmd,t,g,d⟩:Job).C.Op == 1)=false from o1];rfl
  rw [ho]
  exact a0m ((congrArg (· == 1) c0).trans o1) hwf
 ·refine a0p ((congrArg (· == 1) c0).trans o1) ?_
  show a5z k (n:Int) ⟨x.e,[]⟩ ((at_ (a0s x.Jobs) n 7).asI == 0)=_
  rw [c7]
  rcases (Bool.eq_false_or_eq_true (d == 0)).symm with od | od
  ·have ho:a7d x n ⟨cmd,t,g,d⟩=answer { x with Jobs:=del x.Jobs n } cmd ⟨cmd.Id,d,[]⟩:=by
    unfold a7d;rw [show ((⟨cmd,t,g,d⟩:Job).Code == 0)=false from od,Bool.and_false];rfl
   rw [ho,od];exact hwf
  ·have ho:a7d x n ⟨cmd,t,g,d⟩=answer { x with Jobs:=del x.Jobs n } cmd ⟨cmd.Id,d,g⟩:=by
    unfold a7d;rw [show ((⟨cmd,t,g,d⟩:Job).Code == 0)=true from od,show ((⟨cmd,t,g,d⟩:Job).C.Op == 1)=true from o1];rfl
   rw [ho,od]
   exact e8b x x.A 0 hn (by omega) (by omega) hj ht k (by omega)
theorem i6w (x:Eng) {n:Nat} (hn:n<x.Jobs.length) (hx:x.w≤1073741000) {cmd:Cmd} {t:Int} {g:List Int} {d:Int} (hj:x.Jobs[n]=⟨cmd,t,g,d⟩) (ht:0≤t∧t≤40) (k:Nat) (hk:Big+4≤k):a7n k (n:Int) ⟨x.e,[]⟩ false=some ⟨(a7d x n ⟨cmd,t,g,d⟩).e++[.b true],[]⟩:=by
 have hB:Big=4294967296:=rfl
 obtain ⟨l1,l2,l3,l4,hA⟩:=a3e x (show x.w≤Big by omega)
 have hL:=b8i hn hj
 have hw1:W64 (t+1)=t+1:=a0f (by omega) (by omega)
 obtain ⟨c0,c2,c4,c5,c6,c7,cC⟩:=e6f hn hj
 have e0:x.w=x.A.w+wL Cmd.w x.Wait+wL Job.w x.Jobs+wL Ans.w x.Done+wL Turn.w x.Log:=rfl
 unfold a7n
 refine a0m rfl ?_
 have hwf:=e8c x x.A 0 hn (by omega) (by omega) hj ht k (by omega)
 rcases (Bool.eq_false_or_eq_true (cmd.Op == 1)).symm with o1 | o1
 ·have ho:a7d x n ⟨cmd,t,g,d⟩=answer { x with Jobs:=del x.Jobs n } cmd ⟨cmd.Id,d,[]⟩:=by
   unfold a7d;rw [show ((⟨cmd,t,g,d⟩:Job).C.Op == 1)=false from o1];rfl
  rw [ho]
  exact a0m ((congrArg (· == 1) c0).trans o1) hwf
 ·refine a0p ((congrArg (· == 1) c0).trans o1) ?_
  show a5w k (n:Int) ⟨x.e,[]⟩ ((at_ (a0s x.Jobs) n 7).asI == 0)=_
  rw [c7]
  rcases (Bool.eq_false_or_eq_true (d == 0)).symm with od | od
  ·have ho:a7d x n ⟨cmd,t,g,d⟩=answer { x with Jobs:=del x.Jobs n } cmd ⟨cmd.Id,d,[]⟩:=by
    unfold a7d;rw [show ((⟨cmd,t,g,d⟩:Job).Code == 0)=false from od,Bool.and_false];rfl
   rw [ho,od];exact hwf
  ·have ho:a7d x n ⟨cmd,t,g,d⟩=answer { x with Jobs:=del x.Jobs n } cmd ⟨cmd.Id,d,g⟩:=by
    unfold a7d;rw [show ((⟨cmd,t,g,d⟩:Job).Code == 0)=true from od,show ((⟨cmd,t,g,d⟩:Job).C.Op == 1)=true from o1];rfl
   rw [ho,od]
   exact e8d x x.A 0 hn (by omega) (by omega) hj ht k (by omega)
theorem i8g {x:Eng} (h:d1u x=true):x.Log.length≤400:=by
 unfold d1u few at h
 simp only [Bool.and_eq_true,decide_eq_true_eq] at h
 exact h.2.2.1.2.2.2
theorem i3f {g:Geo} {c:Cmd} (hw:c.w≤Big):0≤a2v g c∧a2v g c≤100:=by
 unfold a2v
 cases h:(a2q g c == 0)
 ·exact ⟨Int.le_refl _,show (0:Int)≤100 by omega⟩
 ·have h0:a2q g c=0:=by simpa using h
  obtain ⟨hg,hs,_⟩:=a8c h0
  obtain ⟨_,_,_,_⟩:=a1k hg
  have:=e3f hs hw
  have h1:=b1g g (c.Lba+a2u c - 1)
  have h2:=b1g g c.Lba
  cases h4:(c.Op == 4)
  ·cases h3:(c.Op == 3)
   ·show 0≤a2u c+1∧a2u c+1≤100;omega
   ·obtain ⟨e,e1,e2,e3,e4⟩:=f4i h0 (by simpa using h4) hw
    have hp:=i1y g c hw
    rw [h] at hp
    have hq:a2v g c > 0:=by simpa using hp
    have he:a2v g c=a2u c+a0o g (c.Lba+a2u c - 1) - a0o g c.Lba+2:=by unfold a2v;rw [h,h4,h3];rfl
    show 0≤a2u c+a0o g (c.Lba+a2u c - 1) - a0o g c.Lba+2∧a2u c+a0o g (c.Lba+a2u c - 1) - a0o g c.Lba+2≤100
    omega
  ·show 0≤g.S+1∧g.S+1≤100;omega
theorem j3q (x:Eng) (q:Int) (hx:x.w≤1073741000) (hf:h7s x.A):Rn 17 N.k2h [.v x.e,.v [.i q]] ⟨(g0r x q).1.e++[.b (g0r x q).2],[]⟩:=by
 refine Rn.of fun k hk=>?_
 have hB:Big=4294967296:=rfl
 obtain ⟨l1,l2,l3,l4,hA⟩:=a3e x (show x.w≤Big by omega)
 rw [h2f];unfold f3d
 refine a1h (i2b x (by omega) k (by omega)) (a1h (j0p x (by omega) hf k (by omega)) ?_)
 have no:(d1u x&&(a0n q 0 ((x.Jobs.length:Int) - 1)&&decide (x.Log.length<400)))=false→a7z k x.A.G.N x.A.G.S q ⟨x.e,[]⟩ true=some ⟨(g0r x q).1.e++[.b (g0r x q).2],[]⟩:=fun h=>by
  rw [show g0r x q=(x,false) by unfold g0r;rw [h];rfl];rfl
 rcases (Bool.eq_false_or_eq_true (d1u x)).symm with ho | ho
 ·exact a0p (show (!(d1u x))=true by rw [ho];rfl) (no (by rw [ho];rfl))
 refine a0m (show (!(d1u x))=false by rw [ho];rfl) ?_
 rw [List.length_map,a0f (n:=(x.Jobs.length:Int) - 1) (by omega) (by omega)]
 refine a1h (a1o _ _ _ k (by omega)) ?_
 rcases (Bool.eq_false_or_eq_true (a0n q 0 ((x.Jobs.length:Int) - 1))).symm with hq | hq
 ·exact a0p (show (!(a0n q 0 ((x.Jobs.length:Int) - 1)))=true by rw [hq];rfl) (no (by rw [hq];simp))
 refine a0m (show (!(a0n q 0 ((x.Jobs.length:Int) - 1)))=false by rw [hq];rfl) ?_
 have hqb:=a1c hq
 have hlog:=i8g ho
 by_cases h400:x.Log.length<400
 case neg=>
  show a7z k x.A.G.N x.A.G.S q ⟨x.e,[]⟩ (((a5o x.Log).length:Int) == 400)=_
  rw [show (((a5o x.Log).length:Int) == 400)=true by rw [List.length_map];simp;omega]
  exact no (by rw [decide_eq_false h400];simp)
 show a7z k x.A.G.N x.A.G.S q ⟨x.e,[]⟩ (((a5o x.Log).length:Int) == 400)=_
 rw [show (((a5o x.Log).length:Int) == 400)=false by rw [List.length_map];simp;omega]
 obtain ⟨n,rfl⟩:∃ n:Nat,q=(n:Int):=⟨q.toNat,by omega⟩
 have hn:n<x.Jobs.length:=by omega
 have hw:g0r x (n:Int)=(b7i x n,true):=by unfold g0r;rw [ho,hq,decide_eq_true h400];rfl
 rw [hw]
 obtain ⟨jk,_⟩:=f5i ho hn
 obtain ⟨hc,ht0,ht1,hg6⟩:=h3a jk
 have hja:d6h x n=x.Jobs[n]:=a2t hn _
 obtain ⟨cmd,t,g,d,hj⟩:∃ cmd t g d,x.Jobs[n]=⟨cmd,t,g,d⟩:=⟨_,_,_,_,rfl⟩
 rw [hj] at hc ht0 ht1 hg6 hja
 simp only at hc ht0 ht1 hg6
 obtain ⟨vl,gl⟩:=h5r hn hj
 have hcw:cmd.w≤Big:=by have:cmd.w=cmd.Vals.length:=rfl;omega
 obtain ⟨c0,c2,c4,c5,c6,c7,cC⟩:=e6f hn hj
 have hst:=i3f (g:=x.A.G) hcw
 unfold a7z
 refine a0m rfl ?_
 refine (a0g (show (decide (0≤(n:Int))&&decide ((n:Int)<((a0s x.Jobs).length:Int)))=true by rw [List.length_map,dlt hn];simp) _).trans ?_
 refine (a0g (show Nat.blt n (a0s x.Jobs).length=true by rw [List.length_map];exact Nat.ble_eq_true_of_le hn) _).trans ((a0g (Nat.beq_refl _) _).trans ?_)
 refine a1h ((congrArg (fun c=>a0a E P0 k N.k1v [.v x.A.G.e,.v c]) cC).trans (i1i x.A.G cmd hcw k (by omega))) ?_
 have hcond:decide ((at_ (a0s x.Jobs) n 5).asI<W64 (a2v x.A.G cmd - 1))=decide (t<a2v x.A.G cmd - 1):=by rw [c5,a0f (by omega) (by omega)]
 have hout:=i6v x hn hx hj ⟨ht0,ht1⟩ k (by omega)
 have hA0:(decide ((d6h x n).At<a2v x.A.G (d6h x n).C - 1)&&((d6h x n).Code == 0))=(decide (t<a2v x.A.G cmd - 1)&&(d == 0)):=by rw [hja]
 rcases (Bool.eq_false_or_eq_true (decide (t<a2v x.A.G cmd - 1))).symm with hts | hts
 ·refine a0m (hcond.trans hts) ?_
  rw [show b7i x n=a7d x n ⟨cmd,t,g,d⟩ by unfold b7i;rw [← hja];exact a0m (by rw [hA0,hts];rfl) rfl]
  exact hout
 refine a0p (hcond.trans hts) ?_
 show a7y k (n:Int) ⟨x.e,[]⟩ ((at_ (a0s x.Jobs) n 7).asI == 0)=_
 rw [c7]
 rcases (Bool.eq_false_or_eq_true (d == 0)).symm with hd | hd
 ·rw [show b7i x n=a7d x n ⟨cmd,t,g,d⟩ by unfold b7i;rw [← hja];exact a0m (by rw [hA0,hts,hd];rfl) rfl,hd]
  exact hout
 ·rw [show b7i x n=c2e x n ⟨cmd,t,g,d⟩ (a5p x.A ⟨cmd,t,g,d⟩) by unfold b7i;rw [← hja];exact a0p (by rw [hA0,hts,hd];rfl) rfl,hd]
  exact j1d x hn hx hj ⟨ht0,ht1⟩ hf hc (of_decide_eq_true hts) hg6 k (by omega)
theorem j3r (x:Eng) (q:Int) (hx:x.w≤1073741000) (hf:h7s x.A):Rn 17 N.k3m [.v x.e,.v [.i q]] ⟨(g0r x q).1.e++[.b (g0r x q).2],[]⟩:=by
 refine Rn.of fun k hk=>?_
 have hB:Big=4294967296:=rfl
 obtain ⟨l1,l2,l3,l4,hA⟩:=a3e x (show x.w≤Big by omega)
 rw [h2e];unfold f2f
 refine a1h (i2c x (by omega) k (by omega)) (a1h (j0q x (by omega) hf k (by omega)) ?_)
 have no:(d1u x&&(a0n q 0 ((x.Jobs.length:Int) - 1)&&decide (x.Log.length<400)))=false→a7o k q ⟨x.e,[]⟩ true=some ⟨(g0r x q).1.e++[.b (g0r x q).2],[]⟩:=fun h=>by
  rw [show g0r x q=(x,false) by unfold g0r;rw [h];rfl];rfl
 rcases (Bool.eq_false_or_eq_true (d1u x)).symm with ho | ho
 ·exact a0p (show (!(d1u x))=true by rw [ho];rfl) (no (by rw [ho];rfl))
 refine a0m (show (!(d1u x))=false by rw [ho];rfl) ?_
 rw [List.length_map,a0f (n:=(x.Jobs.length:Int) - 1) (by omega) (by omega)]
 refine a1h (a1f _ _ _ k (by omega)) ?_
 rcases (Bool.eq_false_or_eq_true (a0n q 0 ((x.Jobs.length:Int) - 1))).symm with hq | hq
 ·exact a0p (show (!(a0n q 0 ((x.Jobs.length:Int) - 1)))=true by rw [hq];rfl) (no (by rw [hq];simp))
 refine a0m (show (!(a0n q 0 ((x.Jobs.length:Int) - 1)))=false by rw [hq];rfl) ?_
 have hqb:=a1c hq
 have hlog:=i8g ho
 by_cases h400:x.Log.length<400
 case neg=>
  show a7o k q ⟨x.e,[]⟩ (decide (((a5o x.Log).length:Int)≥400))=_
  rw [show (decide (((a5o x.Log).length:Int)≥400))=true by rw [List.length_map];simp;omega]
  exact no (by rw [decide_eq_false h400];simp)
 show a7o k q ⟨x.e,[]⟩ (decide (((a5o x.Log).length:Int)≥400))=_
 rw [show (decide (((a5o x.Log).length:Int)≥400))=false by rw [List.length_map];simp;omega]
 obtain ⟨n,rfl⟩:∃ n:Nat,q=(n:Int):=⟨q.toNat,by omega⟩
 have hn:n<x.Jobs.length:=by omega
 have hw:g0r x (n:Int)=(b7i x n,true):=by unfold g0r;rw [ho,hq,decide_eq_true h400];rfl
 rw [hw]
 obtain ⟨jk,_⟩:=f5i ho hn
 obtain ⟨hc,ht0,ht1,hg6⟩:=h3a jk
 have hja:d6h x n=x.Jobs[n]:=a2t hn _
 obtain ⟨cmd,t,g,d,hj⟩:∃ cmd t g d,x.Jobs[n]=⟨cmd,t,g,d⟩:=⟨_,_,_,_,rfl⟩
 rw [hj] at hc ht0 ht1 hg6 hja
 simp only at hc ht0 ht1 hg6
 obtain ⟨vl,gl⟩:=h5r hn hj
 have hcw:cmd.w≤Big:=by have:cmd.w=cmd.Vals.length:=rfl;omega
 obtain ⟨c0,c2,c4,c5,c6,c7,cC⟩:=e6f hn hj
 have hst:=i3f (g:=x.A.G) hcw
 unfold a7o
 refine a0m rfl ?_
 refine (a0g (show (decide (0≤(n:Int))&&decide ((n:Int)<((a0s x.Jobs).length:Int)))=true by rw [List.length_map,dlt hn];simp) _).trans ?_
 refine a1h ((congrArg (fun c=>a0a E P0 k N.k1f [.v x.A.G.e,.v c]) cC).trans (i1h x.A.G cmd hcw k (by omega))) ?_
 have hcond:decide ((at_ (a0s x.Jobs) n 5).asI<W64 (a2v x.A.G cmd - 1))=decide (t<a2v x.A.G cmd - 1):=by rw [c5,a0f (by omega) (by omega)]
 have hout:=i6w x hn hx hj ⟨ht0,ht1⟩ k (by omega)
 have hA0:(decide ((d6h x n).At<a2v x.A.G (d6h x n).C - 1)&&((d6h x n).Code == 0))=(decide (t<a2v x.A.G cmd - 1)&&(d == 0)):=by rw [hja]
 rcases (Bool.eq_false_or_eq_true (decide (t<a2v x.A.G cmd - 1))).symm with hts | hts
 ·refine a0m (hcond.trans hts) ?_
  rw [show b7i x n=a7d x n ⟨cmd,t,g,d⟩ by unfold b7i;rw [← hja];exact a0m (by rw [hA0,hts];rfl) rfl]
  exact hout
 refine a0p (hcond.trans hts) ?_
 show a7n k (n:Int) ⟨x.e,[]⟩ ((at_ (a0s x.Jobs) n 7).asI == 0)=_
 rw [c7]
 rcases (Bool.eq_false_or_eq_true (d == 0)).symm with hd | hd
 ·rw [show b7i x n=a7d x n ⟨cmd,t,g,d⟩ by unfold b7i;rw [← hja];exact a0m (by rw [hA0,hts,hd];rfl) rfl,hd]
  exact hout
 ·rw [show b7i x n=c2e x n ⟨cmd,t,g,d⟩ (a5p x.A ⟨cmd,t,g,d⟩) by unfold b7i;rw [← hja];exact a0p (by rw [hA0,hts,hd];rfl) rfl,hd]
  exact j1e x hn hx hj ⟨ht0,ht1⟩ hf hc (of_decide_eq_true hts) hg6 k (by omega)
theorem FnExactWork_r (x:Eng) (hx:x.Fit) (q:Int) (hq:inI q):Rn 20 N.k4n [.v x.e,.v [.i q]] ⟨[.b true],[]⟩:=by
 refine Rn.of fun k hk=>?_
 rw [e0q];unfold c3o
 refine a1h (j0h x hx _ (by omega) (by omega) k (by omega)) ?_
 by_cases hs:(1048576:Int)<(x.w:Int)
 ·exact a0p (by rw [b8g hs];rfl) rfl
 have s1:=b3z (show (x.w:Int)≤1048576 by omega)
 refine a0m (by rw [s1];exact decide_eq_false (show ¬ ((1048576:Int) - x.w<0) by omega)) ?_
 have hB:Big=4294967296:=rfl
 have hw:x.w≤1048576:=by omega
 have t1:=j0i x hw k (by omega)
 have t3:=j3r x q (by omega) (Eng.seq hx) k (by omega)
 have t4:=j3q x q (by omega) (Eng.seq hx) k (by omega)
 have wy:=j3j x q
 generalize hy:(g0r x q).1=y at *
 generalize (g0r x q).2=ok at *
 have t5:=i0y y (by omega) k (by omega)
 have t6:=j0j x hw k (by omega)
 have c1:=Eng.cn_w x hw
 have c2:=Eng.cn_w y (W:=2097156) (by omega)
 have t8:=h0i x 1 (by omega) (by omega) (by omega) k (by omega)
 have ta:=h0i y 1 (by omega) (by omega) (by omega) k (by omega)
 have tb:=i2f y 1 (by omega) (by omega) (by omega) k (by omega)
 have hok:(!(ok == ok))=false:=by simp
 refine a1h t1 (a1h t3 (a1h t1 (a1h t4 (a1h t5 (a0m rfl ?_)))))
 unfold b1b
 refine a0m hok ?_
 refine a1h t1 (a1h t6 (a0m rfl (a1h t8 ?_)))
 refine a0m (decide_eq_false (show ¬ ((1+(x.cn:Nat):Int)<0) by omega)) ?_
 refine a1h t5 (a0m rfl ?_)
 unfold a6a
 refine a0m hok ?_
 have hneg:decide ((1+(y.cn:Nat):Int)<0)=false:=decide_eq_false (by omega)
 have hne:((1+(y.cn:Nat):Int) != 1+(y.cn:Nat))=false:=by simp
 refine a1h ta (a1h tb (a0m hneg (a0m hne ?_)))
 refine a1h t1 (a1h t4 (a1h t5 (a0m rfl ?_)))
 unfold b1a
 refine a0m hok ?_
 exact a1h tb (a0m hneg (a0m hne rfl))
end
end Go.Proofs.YtkamidjllckpgaaGreat.Ev
