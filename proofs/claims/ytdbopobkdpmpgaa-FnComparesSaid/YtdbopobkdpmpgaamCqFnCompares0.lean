/- What FnCompares needs, in plain Lean, part 0. No condition. -/
import Derived.Test.YtdbopobkdpmpgaamCeFnCompares0
import Derived.Test.YtdbopobkdpmpgaamCeFnCompares1
namespace Go.Proofs.Ytdbopobkdpmpgaa.Ev
open Go
set_option linter.unusedVariables false
set_option linter.unusedSimpArgs false
set_option maxHeartbeats 1000000
noncomputable section
structure Geo where
 N:Int
 S:Int
deriving DecidableEq,Inhabited
structure Wr where
 N:Int
 S:List Int
deriving DecidableEq,Inhabited
structure Dsk where
 Secs:List (List Int)
 Cache:List Wr
 Failed:Bool
 Bad:List Int
deriving DecidableEq,Inhabited
structure Super where
 Id:Int
 Gen:Int
 Role:Int
 N:Int
 S:Int
 Tail:Int
 Lost:Int
 Built:Int
deriving DecidableEq,Inhabited
structure Rec where
 Seq:Int
 Stripe:Int
 Data:List Int
deriving DecidableEq,Inhabited
structure Ent where
 Stripe:Int
 Data:List Int
deriving DecidableEq,Inhabited
structure Arr where
 Id:Int
 G:Geo
 Mems:List Dsk
 Lost:Int
 Built:Int
 Seq:Int
 Tail:Int
 Gen:Int
 Dirty:List Ent
 Fuse:Int
 Down:Bool
 Broken:Bool
deriving DecidableEq,Inhabited
structure Cmd where
 Op:Int
 Id:Int
 Lba:Int
 N:Int
 Vals:List Int
deriving DecidableEq,Inhabited
structure Job where
 C:Cmd
 At:Int
 Got:List Int
 Code:Int
deriving DecidableEq,Inhabited
structure Ans where
 Id:Int
 Code:Int
 Vals:List Int
deriving DecidableEq,Inhabited
structure Turn where
 C:Cmd
 A:Ans
deriving DecidableEq,Inhabited
structure Eng where
 A:Arr
 Wait:List Cmd
 Jobs:List Job
 Done:List Ans
 Log:List Turn
deriving DecidableEq,Inhabited
structure Event where
 Kind:Int
 C:Cmd
 K:Int
 S:Int
 Keeps:List Int
deriving DecidableEq,Inhabited
abbrev eIs (l:List Int):List (List T):=l.map fun n=>[.i n]
abbrev d0a (l:List (List Int)):List (List T):=l.map fun s=>[.r (eIs s)]
abbrev Geo.e (g:Geo):List T:=[.i g.N,.i g.S]
abbrev Wr.e (x:Wr):List T:=[.i x.N,.r (eIs x.S)]
abbrev e5j (l:List Wr):List (List T):=l.map Wr.e
abbrev Dsk.e (m:Dsk):List T:=[.r (d0a m.Secs),.r (e5j m.Cache),.b m.Failed,.r (eIs m.Bad)]
abbrev a4c (l:List Dsk):List (List T):=l.map Dsk.e
abbrev Super.e (x:Super):List T:=[.i x.Id,.i x.Gen,.i x.Role,.i x.N,.i x.S,.i x.Tail,.i x.Lost,.i x.Built]
abbrev Rec.e (x:Rec):List T:=[.i x.Seq,.i x.Stripe,.r (eIs x.Data)]
abbrev Ent.e (x:Ent):List T:=[.i x.Stripe,.r (eIs x.Data)]
abbrev a3h (l:List Ent):List (List T):=l.map Ent.e
abbrev Arr.e (a:Arr):List T:=[.i a.Id,.i a.G.N,.i a.G.S,.r (a4c a.Mems),.i a.Lost,.i a.Built,.i a.Seq,.i a.Tail,.i a.Gen,.r (a3h a.Dirty),.i a.Fuse,.b a.Down,.b a.Broken]
abbrev Cmd.e (c:Cmd):List T:=[.i c.Op,.i c.Id,.i c.Lba,.i c.N,.r (eIs c.Vals)]
abbrev c1h (l:List Cmd):List (List T):=l.map Cmd.e
abbrev Job.e (j:Job):List T:=[.i j.C.Op,.i j.C.Id,.i j.C.Lba,.i j.C.N,.r (eIs j.C.Vals),.i j.At,.r (eIs j.Got),.i j.Code]
abbrev a0t (l:List Job):List (List T):=l.map Job.e
abbrev Ans.e (x:Ans):List T:=[.i x.Id,.i x.Code,.r (eIs x.Vals)]
abbrev c5j (l:List Ans):List (List T):=l.map Ans.e
abbrev Turn.e (t:Turn):List T:=[.i t.C.Op,.i t.C.Id,.i t.C.Lba,.i t.C.N,.r (eIs t.C.Vals),.i t.A.Id,.i t.A.Code,.r (eIs t.A.Vals)]
abbrev a6p (l:List Turn):List (List T):=l.map Turn.e
abbrev Eng.e (x:Eng):List T:=[.i x.A.Id,.i x.A.G.N,.i x.A.G.S,.r (a4c x.A.Mems),.i x.A.Lost,.i x.A.Built,.i x.A.Seq,.i x.A.Tail,.i x.A.Gen,.r (a3h x.A.Dirty),.i x.A.Fuse,.b x.A.Down,.b x.A.Broken,.r (c1h x.Wait),.r (a0t x.Jobs),.r (c5j x.Done),.r (a6p x.Log)]
abbrev Event.e (v:Event):List T:=[.i v.Kind,.i v.C.Op,.i v.C.Id,.i v.C.Lba,.i v.C.N,.r (eIs v.C.Vals),.i v.K,.i v.S,.r (eIs v.Keeps)]
def wL {α:Type} (w:α→Nat) (l:List α):Nat:=l.length+(l.map w).sum
def Wr.w (x:Wr):Nat:=x.S.length
def Dsk.w (m:Dsk):Nat:=wL List.length m.Secs+wL Wr.w m.Cache+m.Bad.length
def Ent.w (x:Ent):Nat:=x.Data.length
def Arr.w (a:Arr):Nat:=wL Dsk.w a.Mems+wL Ent.w a.Dirty
def Cmd.w (c:Cmd):Nat:=c.Vals.length
def Ans.w (x:Ans):Nat:=x.Vals.length
def Job.w (j:Job):Nat:=j.C.w+j.Got.length
def Turn.w (t:Turn):Nat:=t.C.w+t.A.w
def Eng.w (x:Eng):Nat:=x.A.w+wL Cmd.w x.Wait+wL Job.w x.Jobs+wL Ans.w x.Done+wL Turn.w x.Log
def Event.w (v:Event):Nat:=v.C.w+v.Keeps.length
theorem a3t {α:Type} (w:α→Nat) (l:List α):l.length≤wL w l:=Nat.le_add_right _ _
theorem f6d {l:List Nat} {x:Nat} (h:x∈l):x≤l.sum:=by
 induction l with
 | nil=>cases h
 | cons a l ih=>
  rw [List.sum_cons];rcases List.mem_cons.1 h with rfl | h
  ·exact Nat.le_add_right _ _
  ·exact Nat.le_trans (ih h) (Nat.le_add_left _ _)
theorem f4j {α:Type} (w:α→Nat) {l:List α} {x:α} (h:x∈l):w x≤wL w l:=Nat.le_trans (f6d (List.mem_map.2 ⟨x,h,rfl⟩)) (Nat.le_add_left _ _)
theorem a6q {α:Type} (w:α→Nat) {l:List α} {i:Nat} (h:i<l.length):w l[i]≤wL w l:=f4j w (List.getElem_mem h)
theorem b6z {α:Type} (w:α→Nat):wL w []=0:=rfl
theorem a1u {α:Type} (w:α→Nat) (x:α) (l:List α):wL w (x :: l)=1+w x+wL w l:=by
 unfold wL;simp;omega
theorem a5t {α:Type} (w:α→Nat) (a b:List α):wL w (a++b)=wL w a+wL w b:=by
 unfold wL;simp;omega
theorem a0g {n:Int} (h0:-9223372036854775808≤n) (h1:n≤9223372036854775807):W64 n=n:=by
 unfold W64 IntKind.wrap IntKind.signed IntKind.bits;simp;omega
theorem a2s {i:Nat} (h:i≤1099511627776):W64 ((i:Int)+1)=((i+1:Nat):Int):=by
 rw [a0g (by omega) (by omega)];omega
def Big:Nat:=4294967296
def Rn (d:Nat) (f:FuncId) (ins:List Arg) (o:Outs):Prop:=∀ k,Big+d≤k→a0d E P0 k f ins=some o
theorem Rn.of {d:Nat} {f:FuncId} {ins:List Arg} {o:Outs} (h:∀ k,Big+d≤k→a0d E P0 (k+1) f ins=some o):Rn (d+1) f ins o:=by
 intro k hk;obtain ⟨k,rfl⟩:∃ m,k=m+1:=⟨k - 1,by omega⟩;exact h k (by omega)
theorem a0e {R:Type} (o:Outs) (k:Outs→Option R):a0i (some o) k=k o:=rfl
theorem a0q {R:Type} (x:Option R):chk true x=x:=rfl
theorem a0h {R:Type} {c:Bool} (h:c=true) (x:Option R):chk c x=x:=by subst h;rfl
@[simp] theorem Outs.g6t (l:List T) (v:List (List T)) (j:Nat):Outs.t ⟨l,v⟩ j=l.getD j (.i 0):=rfl
@[simp] theorem T.g6u (n:Int):(T.i n).asI=n:=rfl
@[simp] theorem T.g6v (x:Bool):(T.b x).asB=x:=rfl
@[simp] theorem T.g6w (x:ByteArray):(T.s x).asS=x:=rfl
@[simp] theorem T.g6x (x:List (List T)):(T.r x).asR=x:=rfl
theorem a1p {α:Type} (f:α→List T) {l:List α} {i:Nat} (h:i<l.length) (j:Nat):at_ (l.map f) i j=(f l[i]).getD j (.i 0):=by
 unfold at_;simp [List.getD_eq_getElem?_getD,h]
theorem c9h {α:Type} (f:α→List T) {l:List α} {i:Nat} (h:i<l.length) (j:Nat) (ts:List T) (x:α) (hx:a1q (f l[i]) j ts=f x):a4f (l.map f) i j ts=(l.set i x).map f:=by
 unfold a4f;rw [List.map_set,← hx];simp [List.getD_eq_getElem?_getD,h]
theorem a7k {V R:Type} {b:(V→Option R)→V→Option R} (n:Nat) (st:Nat→V) (ans:Nat→Option R)
  (h:∀ i,i<n→∀ G,G (st (i+1))=ans (i+1)→b G (st i)=ans i) (he:∀ G,b G (st n)=ans n) {j:Nat} (hj:n<j):a2z b j (st 0)=ans 0:=by
 have:∀ d i j,i+d=n→d<j→a2z b j (st i)=ans i:=by
  intro d
  induction d with
  | zero=>
   intro i j hi hj;obtain ⟨j,rfl⟩:∃ m,j=m+1:=⟨j - 1,by omega⟩;obtain rfl:i=n:=by omega
   exact he _
  | succ d ih=>
   intro i j hi hj;obtain ⟨j,rfl⟩:∃ m,j=m+1:=⟨j - 1,by omega⟩;exact h i (by omega) _ (ih (i+1) j (by omega) (by omega))
 exact this n 0 j (by omega) hj
def inI (n:Int):Prop:=-9223372036854775808≤n∧n≤9223372036854775807
def LF {α:Type} (p:α→Prop) (l:List α):Prop:=l.length≤maxLen∧∀ x∈l,p x
def Geo.Fit (x:Geo):Prop:=inI x.N∧inI x.S
def Wr.Fit (x:Wr):Prop:=inI x.N∧LF inI x.S
def Dsk.Fit (x:Dsk):Prop:=LF (LF inI) x.Secs∧LF Wr.Fit x.Cache∧True∧LF inI x.Bad
def Super.Fit (x:Super):Prop:=inI x.Id∧inI x.Gen∧inI x.Role∧inI x.N∧inI x.S∧inI x.Tail∧inI x.Lost∧inI x.Built
def Rec.Fit (x:Rec):Prop:=inI x.Seq∧inI x.Stripe∧LF inI x.Data
def Ent.Fit (x:Ent):Prop:=inI x.Stripe∧LF inI x.Data
def Arr.Fit (x:Arr):Prop:=inI x.Id∧x.G.Fit∧LF Dsk.Fit x.Mems∧inI x.Lost∧inI x.Built∧inI x.Seq∧inI x.Tail∧inI x.Gen∧LF Ent.Fit x.Dirty∧inI x.Fuse∧True∧True
def Cmd.Fit (x:Cmd):Prop:=inI x.Op∧inI x.Id∧inI x.Lba∧inI x.N∧LF inI x.Vals
def Job.Fit (x:Job):Prop:=x.C.Fit∧inI x.At∧LF inI x.Got∧inI x.Code
def Ans.Fit (x:Ans):Prop:=inI x.Id∧inI x.Code∧LF inI x.Vals
def Turn.Fit (x:Turn):Prop:=x.C.Fit∧x.A.Fit
def Eng.Fit (x:Eng):Prop:=x.A.Fit∧LF Cmd.Fit x.Wait∧LF Job.Fit x.Jobs∧LF Ans.Fit x.Done∧LF Turn.Fit x.Log
def Event.Fit (x:Event):Prop:=inI x.Kind∧x.C.Fit∧inI x.K∧inI x.S∧LF inI x.Keeps
theorem dlt {i n:Nat} (h:i<n):decide ((i:Int)<(n:Int))=true:=decide_eq_true (by omega)
theorem dll {n:Nat}:decide ((n:Int)<(n:Int))=false:=decide_eq_false (by omega)
theorem d0 {n:Nat}:decide (0≤(n:Int))=true:=decide_eq_true (by omega)
theorem B1_:(∀ n:Nat,decide (0≤(n:Int))=true)∧(∀ b:Bool,(b&&b)=b)∧(∀ (R:Type) (x:Option R),chk true x=x)∧(∀ l v j,Outs.t ⟨l,v⟩ j=l.getD j (.i 0))∧(∀ (R:Type) (a d:R) l,(a::l).getD 0 d=a)∧(∀ (R:Type) (a d:R) l n,(a::l).getD (n+1) d=l.getD n d)∧(∀ n,(T.i n).asI=n)∧(∀ n,(T.b n).asB=n)∧(∀ n,(T.r n).asR=n)∧(∀ n:Nat,((n:Int)).toNat=n)∧(∀ (R:Type) (o:Outs) (k:Outs→Option R),a0i (some o) k=k o)∧(!true)=false∧(∀ (R:Type) (a b:R),(bif false then a else b)=b)∧(∀ (R:Type) (a b:R),(bif true then a else b)=a)∧(!false)=true:=⟨fun _=>d0,fun b=>by cases b <;> rfl,fun _ _=>rfl,fun _ _ _=>rfl,fun _ _ _ _=>rfl,fun _ _ _ _ _=>rfl,fun _=>rfl,fun _=>rfl,fun _=>rfl,fun _=>rfl,fun _ _ _=>rfl,rfl,fun _ _ _=>rfl,fun _ _ _=>rfl,rfl⟩
theorem f8j {t:Nat} {l:List Ty} (h:E.flat t=l) {ts:List T} (g:FTs E (E.flat t) ts):FTs E l ts:=h▸g
theorem f4k:∀ {tys:List Ty} {c:List T},c.length=tys.length→(∀ j,j<tys.length→FT E (tys.getD j .bool) (c.getD j (.i 0)))→FTs E tys c
 | [],[],_,_=>trivial
 | ty :: tys,t :: ts,hl,h=>⟨h 0 (by simp),f4k (by simpa using hl) fun j hj=>by simpa using h (j+1) (by simpa using hj)⟩
 | [],_ :: _,hl,_=>by simp at hl
 | _ :: _,[],hl,_=>by simp at hl
theorem e3h {α:Type} (enc:α→List T) (p:α→Prop):∀ {es:List (List T)},(∀ c∈es,∃ x,c=enc x∧p x)→∃ l:List α,es=l.map enc∧∀ x∈l,p x
 | [],_=>⟨[],rfl,fun _ h=>by cases h⟩
 | c :: es,h=>by
  obtain ⟨x,rfl,hx⟩:=h c (by simp);obtain ⟨l,rfl,hl⟩:=e3h enc p (es:=es) fun c hc=>h c (by simp [hc]);exact ⟨x :: l,rfl,fun y hy=>(List.mem_cons.1 hy).elim (fun h=>h▸hx) (hl y)⟩
theorem e8u {α:Type} (enc:α→List T) (p:α→Prop) {e:Nat} (hx:∀ c,FTs E (E.flat e) c→∃ x,c=enc x∧p x) {t:T} (h:FT E (.row e) t):∃ l:List α,t=.r (l.map enc)∧LF p l:=by
 cases h with
 | row hl hn hr=>
  rename_i es;obtain ⟨l,rfl,hp⟩:=e3h enc p (es:=es) fun c hc=>by
   obtain ⟨i,hi,rfl⟩:=List.getElem_of_mem hc;refine hx _ (f4k (hn _ hc) fun j hj=>?_);have:=hr i j hi hj;unfold a4e tAt at this;simpa [List.getD_eq_getElem?_getD,hi] using this
  exact ⟨l,rfl,by simpa using hl,hp⟩
def a0f (n lo hi:Int):Bool:=decide (lo≤n)&&decide (n≤hi)
theorem a0r {n lo hi:Int} (h:a0f n lo hi=true):lo≤n∧n≤hi:=by
 unfold a0f at h;simpa using h
theorem a0v (n lo hi:Int):Rn 1 N.g1t [.v [.i n],.v [.i lo],.v [.i hi]] ⟨[.b (a0f n lo hi)],[]⟩:=by
 refine Rn.of fun k hk=>?_;rw [d4m];unfold c0h a0f;by_cases h:lo≤n <;> simp [h]
def c4h (n:Int):Bool:=a0f n 0 65535
def b4u (l:List Int):Bool:=l.all c4h
def c5k (l:List Int):Bool:=decide (l.length≤12)&&b4u l
theorem e3i (n:Int):Rn 2 N.g3l [.v [.i n]] ⟨[.b (c4h n)],[]⟩:=by
 refine Rn.of fun k hk=>?_;rw [d4p];unfold c0k;rw [a0v _ _ _ k (by omega)];rfl
theorem c5x {α:Type} (p:α→Bool) (l:List α) {b:(Int→Option Outs)→Int→Option Outs} (last:Option Outs) (hl:l.length≤1099511627776)
  (h:∀ (i:Nat) (hi:i<l.length) G,b G (i:Int)=(bif p l[i] then G (W64 ((i:Int)+1)) else some ⟨[.b false],[]⟩))
  (he:∀ G,b G (l.length:Int)=last) {j:Nat} (hj:l.length<j):a2z b j 0=(bif l.all p then last else some ⟨[.b false],[]⟩):=by
 refine (a7k (b:=b) l.length (fun i=>(i:Int)) (fun i=>bif (l.drop i).all p then last else some ⟨[.b false],[]⟩) ?_ ?_ hj).trans (by simp)
 ·intro i hi G hG;rw [h i hi,a2s (by omega),hG,List.drop_eq_getElem_cons hi,List.all_cons];cases p l[i] <;> rfl
 ·intro G;rw [he];simp
theorem d8u (c x:Bool):(bif c then some (⟨[.b x],[]⟩:Outs) else some ⟨[.b false],[]⟩)=some ⟨[.b (c&&x)],[]⟩:=by cases c <;> rfl
theorem f8k {α:Type} (c:Bool) (x y:α):(bif !c then x else y)=bif c then y else x:=by cases c <;> rfl
theorem b7a (l:List Int) (h:l.length≤Big):Rn 3 N.g2e [.v [.r (eIs l)]] ⟨[.b (b4u l)],[]⟩:=by
 refine Rn.of fun k hk=>?_;unfold Big at h hk;rw [d0j];unfold b8c b3c;refine (c5x c4h l (some ⟨[.b true],[]⟩) (by omega) (fun i hi G=>?_) (fun G=>?_) (by omega)).trans ((d8u _ _).trans (by rw [Bool.and_true];rfl))
 ·unfold a7u;simp only [List.length_map,a1p _ hi,dlt hi,d0,Bool.and_self,a0q,cond_true,Int.toNat_natCast,List.getD_cons_zero,T.g6u];rw [e3i _ k (by unfold Big;omega)];exact f8k _ _ _
 ·unfold a7u;simp only [List.length_map,dll,cond_false]
def a5u (g:Geo):Bool:=a0f g.N 3 5&&a0f g.S 1 8
def a9q (g:Geo):Int:=bif a5u g then g.S*(g.N - 1) else 0
theorem a1a {g:Geo} (h:a5u g=true):3≤g.N∧g.N≤5∧1≤g.S∧g.S≤8:=by
 unfold a5u at h;rw [Bool.and_eq_true] at h;exact ⟨(a0r h.1).1,(a0r h.1).2,(a0r h.2).1,(a0r h.2).2⟩
theorem c2y (g:Geo):Rn 2 N.g2d [.v g.e] ⟨[.b (a5u g)],[]⟩:=by
 refine Rn.of fun k hk=>?_;rw [d8e];unfold c3u;rw [a0v _ _ _ k (by omega),a0v _ _ _ k (by omega)];exact d8u _ _
theorem f2j {a b m n:Int} (h0:0≤a) (h1:a≤m) (h2:0≤b) (h3:b≤n):0≤a*b∧a*b≤m*n:=
 ⟨Int.mul_nonneg h0 h2,Int.mul_le_mul h1 h3 h2 (by omega)⟩
theorem c5y (g:Geo):0≤a9q g∧a9q g≤32:=by
 unfold a9q;cases h:a5u g with
 | false=>simp
 | true=>
  obtain ⟨a,b,c,d⟩:=a1a h;have:=f2j (a:=g.S) (b:=g.N - 1) (m:=8) (n:=4) (by omega) d (by omega) (by omega);simp;omega
theorem f2k {g:Geo} (h:a5u g=true):W64 (g.S*W64 (g.N - 1))=g.S*(g.N - 1):=by
 obtain ⟨a,b,c,d⟩:=a1a h;have:=f2j (a:=g.S) (b:=g.N - 1) (m:=8) (n:=4) (by omega) d (by omega) (by omega);rw [a0g (n:=g.N - 1) (by omega) (by omega),a0g (by omega) (by omega)]
theorem d5x (g:Geo):Rn 3 N.g3b [.v g.e] ⟨[.i (a9q g)],[]⟩:=by
 refine Rn.of fun k hk=>?_;rw [d4y];unfold c0p;rw [c2y _ k (by omega),a0e];unfold a9q;cases h:a5u g with
 | false=>simp
 | true=>simp [f2k h]
def a2i (g:Geo) (b:Int):Bool:=a0f b 0 (a9q g - 1)
theorem c2z (g:Geo) (b:Int):Rn 4 N.g3f [.v g.e,.v [.i b]] ⟨[.b (a2i g b)],[]⟩:=by
 refine Rn.of fun k hk=>?_;rw [c8t];unfold b6o;have:=c5y g;rw [d5x _ k (by omega),a0e];simp only [Outs.g6t,List.getD_cons_zero,T.g6u];rw [a0g (by omega) (by omega),a0v _ _ _ k (by omega)];rfl
theorem b7n {g:Geo} {b:Int} (h:a2i g b=true):a5u g=true∧0≤b∧b<g.S*(g.N - 1):=by
 obtain ⟨h0,h1⟩:=a0r h;unfold a9q at h1;cases hg:a5u g with
 | false=>rw [hg] at h1;simp at h1;omega
 | true=>rw [hg] at h1;simp at h1;exact ⟨rfl,h0,by omega⟩
def a0k (g:Geo) (b:Int):Int:=bif a2i g b then b / (g.N - 1) else -1
theorem f2l {g:Geo} {b:Int} (h:a2i g b=true):W64 (Int.tdiv b (W64 (g.N - 1)))=b / (g.N - 1)∧W64 (g.N - 1)≠0:=by
 obtain ⟨hg,h0,h1⟩:=b7n h;obtain ⟨a,b',c,d⟩:=a1a hg;rw [a0g (n:=g.N - 1) (by omega) (by omega),Int.tdiv_eq_ediv_of_nonneg h0];have:=Int.ediv_le_self (b:=g.N - 1) h0;have:=Int.ediv_nonneg h0 (b:=g.N - 1) (by omega);have:=f2j (a:=g.S) (b:=g.N - 1) (m:=8) (n:=4) (by omega) d (by omega) (by omega);exact ⟨a0g (by omega) (by omega),by omega⟩
theorem b4e (g:Geo) (b:Int):-1≤a0k g b∧a0k g b≤32:=by
 unfold a0k;cases h:a2i g b with
 | false=>simp
 | true=>
  obtain ⟨hg,h0,h1⟩:=b7n h;obtain ⟨a,b',c,d⟩:=a1a hg;have:=Int.ediv_le_self (b:=g.N - 1) h0;have:=Int.ediv_nonneg h0 (b:=g.N - 1) (by omega);have:=f2j (a:=g.S) (b:=g.N - 1) (m:=8) (n:=4) (by omega) d (by omega) (by omega);simp;omega
theorem b7o (g:Geo) (b:Int):Rn 5 N.g2s [.v g.e,.v [.i b]] ⟨[.i (a0k g b)],[]⟩:=by
 refine Rn.of fun k hk=>?_;rw [c8u];unfold b6p;rw [c2z _ _ k (by omega),a0e];unfold a0k;cases h:a2i g b with
 | false=>simp
 | true=>obtain ⟨e,hn⟩:=f2l h;simp [e,hn,a0q]
def a3e (c:Cmd):Int:=bif c.Op == 1 || c.Op == 6 then c.N else bif c.Op == 2 || c.Op == 3 then (c.Vals.length:Int) else bif c.Op == 5 then 1 else 0
theorem e1o (c:Cmd):Rn 1 N.g2o [.v c.e] ⟨[.i (a3e c)],[]⟩:=by
 refine Rn.of fun k hk=>?_;rw [d8i];unfold c3w a3e;rw [List.length_map];cases c.Op == 1 <;> cases c.Op == 6 <;> cases c.Op == 2 <;> cases c.Op == 3 <;> cases c.Op == 5 <;> rfl
def b2r (c:Cmd):Bool:=bif c.Op == 1 || c.Op == 6 then a0f c.N 1 6 else bif c.Op == 2 || c.Op == 3 then a0f (c.Vals.length:Int) 1 6&&b4u c.Vals else bif c.Op == 5 then ((c.Vals.length:Int) == 2)&&b4u c.Vals else true
theorem f2m (c:Cmd) (h:c.w≤Big):Rn 4 N.g4i [.v c.e] ⟨[.b (b2r c)],[]⟩:=by
 refine Rn.of fun k hk=>?_;rw [d4x];unfold c0o b3h b2r;simp only [List.length_map];rw [a0v _ _ _ k (by omega),a0v _ _ _ k (by omega),b7a _ h k (by omega)];simp only [a0e,Outs.g6t,List.getD_cons_zero,T.g6v];cases c.Op == 1 <;> cases c.Op == 6 <;> cases c.Op == 2 <;> cases c.Op == 3 <;> cases c.Op == 5 <;> first | rfl | exact d8u _ _
theorem c9i {c:Cmd} (h:b2r c=true) (hw:c.w≤Big):0≤a3e c∧a3e c≤6:=by
 unfold b2r at h;unfold a3e;cases h1:c.Op == 1 <;> cases h6:c.Op == 6 <;> cases h2:c.Op == 2 <;> cases h3:c.Op == 3 <;> cases h5:c.Op == 5 <;> rw [h1,h6,h2,h3,h5] at h <;> simp [a0f] at h ⊢ <;> omega
def a1m (g:Geo) (c:Cmd):Int:=
 bif a5u g&&a0f c.Op 1 6&&a0f c.Id 1 999 then
  bif b2r c then bif c.Op == 4 || a0f c.Lba 0 (a9q g - a3e c) then 0 else 2
  else 3
 else 1
theorem e8v {g:Geo} {c:Cmd} (h:b2r c=true) (hw:c.w≤Big):W64 (a9q g - a3e c)=a9q g - a3e c:=by
 have:=c5y g;have:=c9i h hw;exact a0g (by omega) (by omega)
theorem c1i (g:Geo) (c:Cmd) (h:c.w≤Big):Rn 5 N.g2p [.v g.e,.v c.e] ⟨[.i (a1m g c)],[]⟩:=by
 refine Rn.of fun k hk=>?_;rw [d0q];unfold b8g a8e a1m;rw [c2y _ k (by omega),a0v _ _ _ k (by omega),a0v _ _ _ k (by omega),f2m _ h k (by omega),d5x _ k (by omega),e1o _ k (by omega)];simp only [a0e,Outs.g6t,List.getD_cons_zero,T.g6v,T.g6u];cases a5u g <;> cases a0f c.Op 1 6 <;> cases a0f c.Id 1 999 <;> try rfl
 cases hs:b2r c
 ·rfl
 rw [e8v hs h,a0v _ _ _ k (by omega)];cases h4:c.Op == 4 <;> simp [bne,h4,a0e];cases a0f c.Lba 0 (a9q g - a3e c) <;> rfl
theorem a7o {g:Geo} {c:Cmd} (h:a1m g c=0):a5u g=true∧b2r c=true∧(c.Op=4∨0≤c.Lba∧c.Lba≤a9q g - a3e c):=by
 unfold a1m at h;cases hg:a5u g <;> cases h1:a0f c.Op 1 6 <;> cases h2:a0f c.Id 1 999 <;> cases hs:b2r c <;> rw [hg,h1,h2,hs] at h <;> simp at h;refine ⟨rfl,rfl,?_⟩;cases h4:c.Op == 4
 ·rw [h4] at h;cases hl:a0f c.Lba 0 (a9q g - a3e c) <;> rw [hl] at h <;> simp at h;exact .inr (a0r hl)
 ·exact .inl (by simpa using h4)
def a6g (g:Geo) (c:Cmd):Int×Int:=bif a1m g c == 0 then (bif c.Op == 4 then (0,a9q g) else (c.Lba,c.Lba+a3e c)) else (0,0)
theorem d8v {g:Geo} {c:Cmd} (h:a1m g c=0) (h4:c.Op≠4) (hw:c.w≤Big):W64 (c.Lba+a3e c)=c.Lba+a3e c∧0≤c.Lba∧c.Lba+a3e c≤32∧0≤a3e c∧a3e c≤6:=by
 obtain ⟨hg,hs,h5⟩:=a7o h;have:=c5y g;have:=c9i hs hw;rcases h5 with h5 | h5
 ·exact absurd h5 h4
 ·exact ⟨a0g (by omega) (by omega),by omega,by omega,by omega,by omega⟩
theorem d5y (g:Geo) (c:Cmd) (h:c.w≤Big):Rn 6 N.g3d [.v g.e,.v c.e] ⟨[.i (a6g g c).1,.i (a6g g c).2],[]⟩:=by
 refine Rn.of fun k hk=>?_;rw [d5c];unfold c0r a6g;rw [c1i _ _ h k (by omega),d5x _ k (by omega),e1o _ k (by omega)];simp only [a0e,Outs.g6t,List.getD_cons_zero,T.g6v,T.g6u,bne,f8k];cases h0:a1m g c == 0
 ·rfl
 cases h4:c.Op == 4
 ·obtain ⟨e,_⟩:=d8v (by simpa using h0) (by simpa using h4) h;simp [e]
 ·rfl
theorem d5z (g:Geo) (c:Cmd) (h:c.w≤Big):0≤(a6g g c).1∧(a6g g c).1≤32∧0≤(a6g g c).2∧(a6g g c).2≤32:=by
 unfold a6g;cases h0:a1m g c == 0
 ·simp
 cases h4:c.Op == 4
 ·have:=d8v (by simpa using h0) (by simpa using h4) h;simp;omega
 ·have:=c5y g;simp;omega
def a3f (g:Geo) (c:Cmd):Int:=
 bif a1m g c == 0 then
  bif c.Op == 4 then g.S+1 else bif c.Op == 3 then a3e c+a0k g (c.Lba+a3e c - 1) - a0k g c.Lba+2 else a3e c+1
 else 0
theorem c9j (g:Geo) (c:Cmd) (h:c.w≤Big):Rn 7 N.g3g [.v g.e,.v c.e] ⟨[.i (a0k g (a6g g c).1),.i (a0k g ((a6g g c).2 - 1))],[]⟩:=by
 refine Rn.of fun k hk=>?_;rw [c4z];unfold b5i;have:=d5z g c h;rw [d5y _ _ h k (by omega),a0e];simp only [Outs.g6t,B2_,T.g6u];rw [a0g (n:=(a6g g c).2 - 1) (by omega) (by omega),b7o _ _ k (by omega),b7o _ _ k (by omega)];rfl
theorem e8w (g:Geo) (c:Cmd) (h:c.w≤Big):Rn 8 N.g3o [.v g.e,.v c.e] ⟨[.i (a3f g c)],[]⟩:=by
 refine Rn.of fun k hk=>?_;rw [d0s];unfold b8i a3f;rw [c1i _ _ h k (by omega),c9j _ _ h k (by omega),e1o _ k (by omega)];simp only [a0e,Outs.g6t,B2_,T.g6v,T.g6u,bne,f8k,List.length_map];cases h0:a1m g c == 0
 ·rfl
 have h0':a1m g c=0:=by simpa using h0
 obtain ⟨hg,hs,_⟩:=a7o h0';obtain ⟨_,_,_,_⟩:=a1a hg;have:=c9i hs h;cases h4:c.Op == 4
 ·obtain ⟨e,_,_,_,_⟩:=d8v h0' (by simpa using h4) h;cases h3:c.Op == 3
  ·simp [a0g (n:=a3e c+1) (by omega) (by omega)]
  ·have es:a6g g c=(c.Lba,c.Lba+a3e c):=by unfold a6g;rw [h0,h4];rfl
   rw [es];have:=b4e g (c.Lba+a3e c - 1);have:=b4e g c.Lba;simp only [cond_true,cond_false];rw [a0g (n:=a3e c+a0k g (c.Lba+a3e c - 1)) (by omega) (by omega),a0g (n:=a3e c+a0k g (c.Lba+a3e c - 1) - a0k g c.Lba) (by omega) (by omega),a0g (by omega) (by omega)]
 ·have h3:(c.Op == 3)=false:=by
   have:c.Op=4:=by simpa using h4
   simp [this]
  simp [h3,a0g (n:=g.S+1) (by omega) (by omega)]
theorem a9z {l:List Int} {i:Nat} (h:i<l.length):(at_ (eIs l) i 0).asI=l.getD i 0:=by
 rw [a1p _ h];simp [List.getD_eq_getElem?_getD,h]
def d8w (n:Nat) (p:Nat→Bool):Bool:=(List.range n).all p
theorem d6a {n:Nat} {p:Nat→Bool}:d8w n p=true↔∀ i,i<n→p i=true:=by
 unfold d8w;simp
theorem b1q (n:Nat) (p:Nat→Bool) {b:(Int→Option Outs)→Int→Option Outs} (last:Option Outs) (hl:n≤1099511627776)
  (h:∀ (i:Nat),i<n→∀ G,b G (i:Int)=(bif p i then G (W64 ((i:Int)+1)) else some ⟨[.b false],[]⟩))
  (he:∀ G,b G (n:Int)=last) {j:Nat} (hj:n<j):a2z b j 0=(bif d8w n p then last else some ⟨[.b false],[]⟩):=by
 refine (a7k (b:=b) n (fun i=>(i:Int)) (fun i=>bif (List.range' i (n - i)).all p then last else some ⟨[.b false],[]⟩) ?_ ?_ hj).trans (by unfold d8w;rw [List.range_eq_range',Nat.sub_zero])
 ·intro i hi G hG;rw [h i hi,a2s (by omega),hG,show n - i=(n - (i+1))+1 by omega,List.range'_succ,List.all_cons];cases p i <;> rfl
 ·intro G;rw [he];simp
def e8x (f:Nat→Int) (i:Nat):Bool:=decide (i=0) || decide (f (i - 1)<f i)
theorem d8x {es:List (List T)} (f:Nat→Int) {n i:Nat} (hi:i<n) (hn:n≤1099511627776) (e:∀ j,j<n→(at_ es j 0).asI=f j) {x:Int} (hx:x=f i) (X Y:Option Outs) :
  (bif decide ((i:Int) > 0) then chk (decide (0≤W64 ((i:Int) - 1))&&decide (W64 ((i:Int) - 1)<(n:Int))) (bif decide ((at_ es (W64 ((i:Int) - 1)).toNat 0).asI≥x) then X else Y) else Y)=bif e8x f i then Y else X:=by
 unfold e8x;cases i with
 | zero=>rfl
 | succ i=>
  rw [show ((i+1:Nat):Int) - 1=(i:Int) by omega,a0g (by omega) (by omega),decide_eq_true (by omega),cond_true,a0h (by simp;omega),Int.toNat_natCast,e i (by omega),hx];simp only [Nat.add_sub_cancel,Nat.succ_ne_zero,decide_false,Bool.false_or];by_cases h:f i<f (i+1)
  ·rw [decide_eq_false (by omega),decide_eq_true h];rfl
  ·rw [decide_eq_true (by omega),decide_eq_false h];rfl
theorem e1p (l:List Int) (h:l.length≤Big):Rn 4 N.g2y [.v [.r (eIs l)]] ⟨[.b (c5k l)],[]⟩:=by
 refine Rn.of fun k hk=>?_;rw [d8f];unfold c3v c5k;rw [b7a l h k (by omega),List.length_map,show decide ((l.length:Int)≤12)=decide (l.length≤12) from decide_eq_decide.2 (by omega)];exact d8u _ _
def a8r (m:Dsk) (n:Int):Bool:=a0f n 0 ((m.Secs.length:Int) - 1)
def f6e (m:Dsk) (i:Nat):Bool:=a8r m (m.Bad.getD i 0)&&e8x (fun j=>m.Bad.getD j 0) i
def b5s (m:Dsk):Bool:=m.Secs.all c5k&&((m.Cache.all fun x=>a8r m x.N&&c5k x.S)&&(d8w m.Bad.length (f6e m)&&(a0f (m.Secs.length:Int) 1 20&&decide (m.Cache.length≤60))))
theorem c5z (m:Dsk) (n:Int) (h:m.w≤Big):Rn 2 N.g2k [.v m.e,.v [.i n]] ⟨[.b (a8r m n)],[]⟩:=by
 refine Rn.of fun k hk=>?_;rw [d4q];unfold c0l;have:=a3t List.length m.Secs;unfold Dsk.w Big at h;rw [List.length_map,a0g (by omega) (by omega),a0v _ _ _ k (by omega)];rfl
theorem d6b (m:Dsk) (h:m.w≤Big):Rn 5 N.g1z [.v m.e] ⟨[.b (b5s m)],[]⟩:=by
 refine Rn.of fun k hk=>?_;rw [d8g];unfold b6g b6f;have hB:=h;have hs:=a3t List.length m.Secs;have hc:=a3t Wr.w m.Cache;unfold Dsk.w Big at h;unfold Big at hk;refine (c5x c5k m.Secs (a2z (a3p k (d0a m.Secs) (e5j m.Cache) m.Failed (eIs m.Bad)) k 0) (by omega) (fun i hi G=>?_) (fun G=>?_) (by omega)).trans ?_
 ·unfold a5y b0l;simp only [List.length_map,a1p _ hi,dlt hi,d0,Bool.and_self,a0q,cond_true,Int.toNat_natCast,List.getD_cons_zero,T.g6u,T.g6x];have:=a6q List.length hi;rw [e1p _ (by unfold Big;omega) k (by unfold Big;omega)];exact f8k _ _ _
 ·unfold a5y b0l;simp only [List.length_map,dll,cond_false]
 have e2:=c5x (fun x:Wr=>a8r m x.N&&c5k x.S) m.Cache (b:=a3p k (d0a m.Secs) (e5j m.Cache) m.Failed (eIs m.Bad)) (a2z (a2q k (d0a m.Secs) (e5j m.Cache) m.Failed (eIs m.Bad)) k 0) (by omega) (fun i hi G=>?_) (fun G=>?_) (j:=k) (by omega)
 ·have e3:=b1q m.Bad.length (f6e m) (b:=a2q k (d0a m.Secs) (e5j m.Cache) m.Failed (eIs m.Bad)) (some ⟨[.b (a0f (m.Secs.length:Int) 1 20&&decide (m.Cache.length≤60))],[]⟩) (by omega) (fun i hi G=>?_) (fun G=>?_) (j:=k) (by omega)
  ·rw [e2,e3,d8u,d8u,d8u];rfl
  ·unfold a2q;simp only [List.length_map,a1p _ hi,dlt hi,d0,Bool.and_self,a0q,cond_true,Int.toNat_natCast,List.getD_cons_zero,T.g6u];rw [c5z m _ hB k (by unfold Big;omega),a0e,d8x (fun j=>m.Bad.getD j 0) hi (by omega) (fun j hj=>a9z hj) (by simp [List.getD_eq_getElem?_getD,hi])];unfold f6e;simp only [Outs.g6t,List.getD_cons_zero,T.g6v];rw [List.getD_eq_getElem?_getD,List.getElem?_eq_getElem hi,Option.getD_some];cases a8r m m.Bad[i] <;> rfl
  ·unfold a2q;simp only [List.length_map,dll,cond_false];rw [a0v _ _ _ k (by unfold Big;omega),a0e,show decide ((m.Cache.length:Int)≤60)=decide (m.Cache.length≤60) from decide_eq_decide.2 (by omega)];exact d8u _ _
 ·unfold a3p b0k;simp only [List.length_map,a1p _ hi,dlt hi,d0,Bool.and_self,a0q,cond_true,Int.toNat_natCast,B2_,T.g6u,T.g6x];have:m.Cache[i].S.length≤wL Wr.w m.Cache:=a6q Wr.w hi;rw [c5z m _ hB k (by unfold Big;omega),e1p _ (by unfold Big;omega) k (by unfold Big;omega)];simp only [a0e,Outs.g6t,List.getD_cons_zero,T.g6v];cases a8r m m.Cache[i].N <;> cases c5k m.Cache[i].S <;> rfl
 ·unfold a3p b0k;simp only [List.length_map,dll,cond_false]
def a0n (g:Geo) (s:Int):Bool:=a5u g&&a0f s 0 (g.S - 1)
theorem a8z (g:Geo) (s:Int):Rn 3 N.g2f [.v g.e,.v [.i s]] ⟨[.b (a0n g s)],[]⟩:=by
 refine Rn.of fun k hk=>?_;rw [c4w];unfold b5h a0n;rw [c2y _ k (by omega),a0e];simp only [Outs.g6t,List.getD_cons_zero,T.g6v];cases h:a5u g with
 | false=>rfl
 | true=>
  obtain ⟨_,_,_,_⟩:=a1a h;rw [a0g (by omega) (by omega),a0v _ _ _ k (by omega)];rfl
def b2s (g:Geo) (l:List Int):Bool:=((l.length:Int) == g.N - 1)&&b4u l
theorem e3j (g:Geo) (hg:a5u g=true) (l:List Int) (h:l.length≤Big):Rn 4 N.g3c [.v g.e,.v [.r (eIs l)]] ⟨[.b (b2s g l)],[]⟩:=by
 refine Rn.of fun k hk=>?_;rw [d4z];unfold c0q b2s;obtain ⟨_,_,_,_⟩:=a1a hg;rw [List.length_map,a0g (n:=g.N - 1) (by omega) (by omega),b7a l h k (by omega)];exact d8u _ _
def f2n (a:Arr) (i:Nat):Bool:=a0n a.G (a.Dirty.getD i default).Stripe&&e8x (fun j=>(a.Dirty.getD j default).Stripe) i&&b2s a.G (a.Dirty.getD i default).Data
def c9k (a:Arr):Bool:=d8w a.Dirty.length (f2n a)
theorem a2b {α:Type} {l:List α} {i:Nat} (h:i<l.length) (d:α):l.getD i d=l[i]:=by
 rw [List.getD_eq_getElem?_getD,List.getElem?_eq_getElem h,Option.getD_some]
theorem e1q {l:List Ent} {i:Nat} (h:i<l.length):(at_ (a3h l) i 0).asI=(l.getD i default).Stripe:=by
 rw [a1p _ h,a2b h];rfl
theorem e8y (a:Arr) (hg:a5u a.G=true) (h:a.w≤Big):Rn 5 N.g4k [.v a.e] ⟨[.b (c9k a)],[]⟩:=by
 refine Rn.of fun k hk=>?_;rw [d0r];unfold b8h b3i;have hd:=a3t Ent.w a.Dirty;unfold Arr.w Big at h;unfold Big at hk;refine (b1q a.Dirty.length (f2n a) (some ⟨[.b true],[]⟩) (by omega) (fun i hi G=>?_) (fun G=>?_) (by omega)).trans ((d8u _ _).trans (by rw [Bool.and_true];rfl))
 ·unfold a8f;simp only [List.length_map,a1p _ hi,dlt hi,d0,Bool.and_self,a0q,cond_true,Int.toNat_natCast,B2_,T.g6u,T.g6x];have:a.Dirty[i].Data.length≤wL Ent.w a.Dirty:=a6q Ent.w hi;rw [a8z _ _ k (by unfold Big;omega),e3j _ hg _ (by unfold Big;omega) k (by unfold Big;omega),d8x (fun j=>(a.Dirty.getD j default).Stripe) hi (by omega) (fun j hj=>e1q hj) (by rw [a2b hi])];simp only [a0e,Outs.g6t,List.getD_cons_zero,T.g6v];unfold f2n;rw [a2b hi];cases a0n a.G a.Dirty[i].Stripe <;> cases e8x (fun j=>(a.Dirty.getD j default).Stripe) i <;> cases b2s a.G a.Dirty[i].Data <;> rfl
 ·unfold a8f;simp only [List.length_map,dll,cond_false]
def e8z (a:Arr) (i:Nat):Bool:=b5s (a.Mems.getD i default)&&(((a.Mems.getD i default).Secs.length:Int) == 6+a.G.S)&&(!(a.Mems.getD i default).Failed || (a.Lost == (i:Int)) || a.Broken)
def f6f (a:Arr):Bool:=d8w a.Mems.length (e8z a)
def c1j (g:Geo) (lost built:Int):Bool:=a0f lost (-1) (g.N - 1)&&(a0f built 0 g.S&&((built == 0) || (lost != -1)))
def c6a (a:Arr):Bool:=a0f a.Seq 0 60000&&a0f a.Tail 0 60000&&a0f a.Gen 0 60000&&a0f (a.Seq - a.Tail) 0 4&&a0f a.Fuse (-1) 1000
def a5v (a:Arr):Bool:=a5u a.G&&(((a.Mems.length:Int) == a.G.N)&&(a0f a.Id 1 60000&&(c1j a.G a.Lost a.Built&&(c9k a&&(f6f a&&c6a a)))))
theorem e3k (g:Geo) (hg:a5u g=true) (lost built:Int):Rn 2 N.g3i [.v g.e,.v [.i lost],.v [.i built]] ⟨[.b (c1j g lost built)],[]⟩:=by
 refine Rn.of fun k hk=>?_;rw [d4o];unfold c0j c1j;obtain ⟨_,_,_,_⟩:=a1a hg;rw [a0g (by omega) (by omega),a0v _ _ _ k (by omega),a0v _ _ _ k (by omega)];simp only [a0e,Outs.g6t,List.getD_cons_zero,T.g6v];cases a0f lost (-1) (g.N - 1) <;> cases a0f built 0 g.S <;> cases built == 0 <;> rfl
theorem e9a {G:Int→Option Outs} (ok len failed lost broken:Bool) (v:Int) :
  (bif !ok then some (⟨[.b false],[]⟩:Outs) else bif !len then some ⟨[.b false],[]⟩ else bif failed then bif !lost then bif !broken then some ⟨[.b false],[]⟩ else G v else G v else G v)
   = bif ok&&len&&(!failed || lost || broken) then G v else some ⟨[.b false],[]⟩:=by
 cases ok <;> cases len <;> cases failed <;> cases lost <;> cases broken <;> rfl
theorem c9l (a:Arr) (h:a.w≤Big) (hf:inI a.Seq∧inI a.Tail):Rn 6 N.g2h [.v a.e] ⟨[.b (a5v a)],[]⟩:=by
 refine Rn.of fun k hk=>?_;rw [d8k];unfold c3y b6k a5z;have hB:=h;have hm:=a3t Dsk.w a.Mems;unfold Arr.w Big at h;unfold Big at hk;rw [c2y _ k (by unfold Big;omega),a0e];unfold a5v;simp only [Outs.g6t,List.getD_cons_zero,T.g6v];cases hg:a5u a.G with
 | false=>rfl
 | true=>
 obtain ⟨_,_,_,_⟩:=a1a hg;rw [a0v _ _ _ k (by unfold Big;omega),e3k _ hg _ _ k (by unfold Big;omega),e8y a hg hB k (by unfold Big;omega),List.length_map];simp only [a0e,Outs.g6t,List.getD_cons_zero,T.g6v,bne];cases hl:((a.Mems.length:Int) == a.G.N)
 ·rfl
 cases a0f a.Id 1 60000
 ·rfl
 cases c1j a.G a.Lost a.Built
 ·rfl
 cases c9k a
 ·rfl
 simp only [Bool.not_true,Bool.not_false,cond_true,cond_false,Bool.true_and];refine (b1q a.Mems.length (e8z a) (some ⟨[.b (c6a a)],[]⟩) (by omega) (fun i hi G=>?_) (fun G=>?_) (by omega)).trans (d8u _ _)
 ·unfold b0p;simp only [List.length_map,a1p _ hi,dlt hi,d0,Bool.and_self,a0q,cond_true,Int.toNat_natCast,B2_,T.g6u,T.g6x,T.g6v];have:=a6q Dsk.w hi;rw [d6b _ (by unfold Big;omega) k (by unfold Big;omega)];have es:a0d E P0 k N.g2w [.v [.i a.G.N,.i a.G.S]]=some ⟨[.i (6+a.G.S)],[]⟩:=by
   obtain ⟨k',rfl⟩:∃ m,k=m+1:=⟨k - 1,by omega⟩;rw [b7z];unfold b2z;rw [a0g (by omega) (by omega)]
  rw [es];simp only [a0e,Outs.g6t,List.getD_cons_zero,T.g6v,T.g6u,bne];unfold e8z;rw [a2b hi];exact e9a _ _ _ _ _ _
 ·unfold b0p b0o c6a;simp only [List.length_map,dll,cond_false];rw [a0v _ _ _ k (by unfold Big;omega),a0v _ _ _ k (by unfold Big;omega),a0v _ _ _ k (by unfold Big;omega),a0v _ _ _ k (by unfold Big;omega)];simp only [a0e,Outs.g6t,List.getD_cons_zero,T.g6v];cases h1:a0f a.Seq 0 60000
  ·rfl
  cases h2:a0f a.Tail 0 60000
  ·rfl
  have:=a0r h1;have:=a0r h2;rw [a0g (by omega) (by omega),a0v _ _ _ k (by unfold Big;omega)];simp only [a0e,Outs.g6t,List.getD_cons_zero,T.g6v];cases a0f a.Gen 0 60000 <;> cases a0f (a.Seq - a.Tail) 0 4 <;> rfl
def f4l (x y:Int×Int):Bool:=decide (x.1<y.2)&&decide (y.1<x.2)
def b0a (g:Geo) (a b:Cmd):Bool:=f4l (a6g g a) (a6g g b)
theorem d8y (g:Geo) (c:Cmd) (h:c.w≤Big):a6g g c=(0,0)∨(a6g g c).1<(a6g g c).2:=by
 unfold a6g;cases h0:a1m g c == 0
 ·exact .inl rfl
 have h0':a1m g c=0:=by simpa using h0
 obtain ⟨hg,hs,_⟩:=a7o h0';obtain ⟨_,_,_,_⟩:=a1a hg;cases h4:c.Op == 4
 ·refine .inr ?_;simp only [cond_true,cond_false];have:1≤a3e c:=by
   have h1:a0f c.Op 1 6=true:=by
    unfold a1m at h0';cases h1:a0f c.Op 1 6
    ·rw [h1] at h0';simp at h0'
    ·rfl
   have:=a0r h1;have h4':c.Op≠4:=by simpa using h4
   unfold b2r at hs;unfold a3e;cases h1:c.Op == 1 <;> cases h6:c.Op == 6 <;> cases h2:c.Op == 2 <;> cases h3:c.Op == 3 <;> cases h5:c.Op == 5 <;> rw [h1,h6,h2,h3,h5] at hs <;> simp [a0f] at hs h1 h6 h2 h3 h5 ⊢ <;> omega
  omega
 ·refine .inr ?_;simp only [cond_true];unfold a9q;rw [hg,cond_true];have:=Int.mul_le_mul (a:=1) (b:=2) (c:=g.S) (d:=g.N - 1) (by omega) (by omega) (by omega) (by omega);omega
theorem e1r (g:Geo) (a b:Cmd) (ha:a.w≤Big) (hb:b.w≤Big):Rn 7 N.g3e [.v g.e,.v a.e,.v b.e] ⟨[.b (b0a g a b)],[]⟩:=by
 refine Rn.of fun k hk=>?_;rw [d8l];unfold c3z;rw [d5y g a ha k (by omega),d5y g b hb k (by omega)];simp only [a0e,Outs.g6t,B2_,T.g6u];have h1:=d8y g a ha;have h2:=d8y g b hb;have b1:=d5z g a ha;have b2:=d5z g b hb;unfold b0a f4l;refine congrArg (fun x=>some (⟨[.b x],[]⟩:Outs)) ?_;rw [Bool.eq_iff_iff];simp only [decide_eq_true_eq,Bool.and_eq_true];rcases h1 with h1 | h1 <;> rcases h2 with h2 | h2
 ·rw [h1,h2];simp
 ·rw [h1] at b1 ⊢;simp at b1 ⊢;split <;> split <;> omega
 ·rw [h2] at b2 ⊢;simp at b2 ⊢;split <;> split <;> omega
 ·split <;> split <;> omega
def f4m (x:Eng) (i:Nat):Cmd:=(x.Jobs.getD i default).C
def e9b (x:Eng) (i:Nat):Bool:=d8w i fun k=>!b0a x.A.G (f4m x i) (f4m x k)
def apart (x:Eng):Bool:=d8w x.Jobs.length (e9b x)
theorem d8z (x:Eng) {i:Nat} (hi:i<x.Jobs.length) (h:x.w≤Big):x.Jobs[i].C.w≤Big∧x.Jobs[i].Got.length≤Big:=by
 have:=a6q Job.w hi;have e:Job.w x.Jobs[i]=x.Jobs[i].C.w+x.Jobs[i].Got.length:=rfl;unfold Eng.w at h;omega
theorem f6g (x:Eng) (h:x.w≤Big):Rn 8 N.g2q [.v x.e] ⟨[.b (apart x)],[]⟩:=by
 refine Rn.of fun k hk=>?_;rw [d8m];unfold b6m b6l;have hj:=a3t Job.w x.Jobs;have hl:x.Jobs.length≤4294967296:=by unfold Eng.w Big at h;omega
 unfold Big at hk;refine (b1q x.Jobs.length (e9b x) (some ⟨[.b true],[]⟩) (by omega) (fun i hi G=>?_) (fun G=>?_) (by omega)).trans ((d8u _ _).trans (by rw [Bool.and_true];rfl))
 ·unfold a6a b0q;simp only [List.length_map,dlt hi,cond_true,a1p _ hi,d0,Bool.and_self,a0q,B2_,T.g6u,T.g6x];rw [a0h (by simp;omega)];simp only [Int.toNat_natCast,a1p _ hi,B2_,T.g6u,T.g6x];have e:((List.drop (0:Int).toNat (a0t x.Jobs)).take (i - (0:Int).toNat))=a0t (x.Jobs.take i):=by simp [List.map_take]
  have hlen:(x.Jobs.take i).length=i:=by simp;omega
  simp only [e,List.length_map,hlen];refine (b1q i (fun k=>!b0a x.A.G (f4m x i) (f4m x k)) (G (W64 ((i:Int)+1))) (by omega) (fun q hq G'=>?_) (fun G'=>?_) (by omega)).trans rfl
  ·unfold a4i;have hq':q<x.Jobs.length:=by omega
   have hq2:q<(x.Jobs.take i).length:=by omega
   simp only [List.length_map,a1p _ hq2,hlen,dlt hq,d0,Bool.and_self,a0q,cond_true,Int.toNat_natCast,B2_,T.g6u,T.g6x,List.getElem_take];rw [e1r x.A.G x.Jobs[i].C x.Jobs[q].C (d8z x hi h).1 (d8z x hq' h).1 k (by unfold Big;omega),a0e];simp only [Outs.g6t,List.getD_cons_zero,T.g6v];unfold f4m;rw [a2b hi,a2b hq'];cases b0a x.A.G x.Jobs[i].C x.Jobs[q].C <;> rfl
  ·unfold a4i;simp only [dll,cond_false]
 ·unfold a6a b0q;simp only [List.length_map,dll,cond_false]
def e1s (g:Geo) (j:Job):Bool:=(a1m g j.C == 0)&&(a0f j.At 0 40&&(decide (j.Got.length≤6)&&(b4u j.Got&&((j.Code == 0) || a0f j.Code 4 7))))
theorem f6h (g:Geo) (j:Job) (hc:j.C.w≤Big) (hg:j.Got.length≤Big):Rn 6 N.g4j [.v g.e,.v j.e] ⟨[.b (e1s g j)],[]⟩:=by
 refine Rn.of fun k hk=>?_;rw [d8j];unfold c3x b4q e1s;rw [a0v _ _ _ k (by omega),a0v _ _ _ k (by omega),c1i g j.C hc k (by omega),b7a _ hg k (by omega),List.length_map,show decide ((j.Got.length:Int)≤6)=decide (j.Got.length≤6) from decide_eq_decide.2 (by omega)];simp only [a0e,Outs.g6t,List.getD_cons_zero,T.g6v,T.g6u];cases j.Code == 0 <;> cases a1m g j.C == 0 <;> cases a0f j.At 0 40 <;> cases decide (j.Got.length≤6) <;> cases b4u j.Got <;> rfl
def few (x:Eng):Bool:=decide (x.Wait.length≤8)&&(decide (x.Jobs.length≤4)&&(decide (x.Done.length≤8)&&decide (x.Log.length≤400)))
def a9r (x:Eng):Bool:=x.Jobs.all (e1s x.A.G)&&(a5v x.A&&(few x&&apart x))
theorem a4l (x:Eng) (h:x.w≤Big):x.Wait.length≤4294967296∧x.Jobs.length≤4294967296∧x.Done.length≤4294967296∧x.Log.length≤4294967296∧x.A.w≤Big:=by
 have h1:=a3t Cmd.w x.Wait;have h2:=a3t Job.w x.Jobs;have h3:=a3t Ans.w x.Done;have h4:=a3t Turn.w x.Log;unfold Eng.w Big at h;unfold Big;omega
theorem dle {n m:Nat}:decide ((n:Int)≤(m:Int))=decide (n≤m):=decide_eq_decide.2 (by omega)
theorem d6c (x:Eng) (h:x.w≤Big) (hf:inI x.A.Seq∧inI x.A.Tail):Rn 9 N.g2r [.v x.e] ⟨[.b (a9r x)],[]⟩:=by
 refine Rn.of fun k hk=>?_;rw [d8n];unfold c4a b6n;obtain ⟨l1,l2,l3,l4,hA⟩:=a4l x h;unfold Big at hk;refine (c5x (e1s x.A.G) x.Jobs (some ⟨[.b (a5v x.A&&(few x&&apart x))],[]⟩) (by omega) (fun i hi G=>?_) (fun G=>?_) (by omega)).trans (d8u _ _)
 ·unfold b0r;simp only [List.length_map,a1p _ hi,dlt hi,d0,Bool.and_self,a0q,cond_true,Int.toNat_natCast,B2_,T.g6u,T.g6x];rw [f6h x.A.G x.Jobs[i] (d8z x hi h).1 (d8z x hi h).2 k (by unfold Big;omega),a0e];exact f8k _ _ _
 ·unfold b0r a8h;simp only [List.length_map,dll,cond_false];rw [c9l x.A hA hf k (by unfold Big;omega),f6g x h k (by unfold Big;omega)];simp only [a0e,Outs.g6t,List.getD_cons_zero,T.g6v];unfold few;rw [show decide ((x.Wait.length:Int)≤8)=decide (x.Wait.length≤8) from dle (m:=8),show decide ((x.Jobs.length:Int)≤4)=decide (x.Jobs.length≤4) from dle (m:=4),show decide ((x.Done.length:Int)≤8)=decide (x.Done.length≤8) from dle (m:=8),show decide ((x.Log.length:Int)≤400)=decide (x.Log.length≤400) from dle (m:=400)];cases decide (x.Wait.length≤8) <;> cases decide (x.Jobs.length≤4) <;> cases decide (x.Done.length≤8) <;> cases decide (x.Log.length≤400) <;> cases a5v x.A <;> cases apart x <;> rfl
def e9c (x:Eng):Bool:=decide (x.Jobs.length<4)&&(decide (x.Done.length+x.Jobs.length<8)&&decide (x.Log.length+x.Jobs.length<400))
def b5t (x:Eng) (i:Nat):Cmd:=x.Wait.getD i default
def g0n (x:Eng) (k:Nat):Bool:=d8w x.Jobs.length (fun i=>!b0a x.A.G (b5t x k) (f4m x i))&&(d8w k (fun i=>!b0a x.A.G (b5t x k) (b5t x i))&&e9c x)
def a9l (x:Eng) (k:Int):Bool:=a9r x&&(a0f k 0 ((x.Wait.length:Int) - 1)&&g0n x k.toNat)
theorem d9a (x:Eng) {i:Nat} (hi:i<x.Wait.length) (h:x.w≤Big):x.Wait[i].w≤Big:=by
 have:=a6q Cmd.w hi;unfold Eng.w at h;omega
theorem f6i (x:Eng) (h:x.w≤Big):(bif decide ((x.Jobs.length:Int)<4) then (bif decide (W64 ((x.Done.length:Int)+(x.Jobs.length:Int))<8) then some (⟨[.b (decide (W64 ((x.Log.length:Int)+(x.Jobs.length:Int))<400))],[]⟩:Outs) else some ⟨[.b false],[]⟩) else some ⟨[.b false],[]⟩)=some ⟨[.b (e9c x)],[]⟩:=by
 obtain ⟨l1,l2,l3,l4,hA⟩:=a4l x h;rw [a0g (n:=(x.Done.length:Int)+x.Jobs.length) (by omega) (by omega),a0g (n:=(x.Log.length:Int)+x.Jobs.length) (by omega) (by omega)];unfold e9c;rw [show decide ((x.Jobs.length:Int)<4)=decide (x.Jobs.length<4) from decide_eq_decide.2 (by omega),show decide ((x.Done.length:Int)+x.Jobs.length<8)=decide (x.Done.length+x.Jobs.length<8) from decide_eq_decide.2 (by omega),show decide ((x.Log.length:Int)+x.Jobs.length<400)=decide (x.Log.length+x.Jobs.length<400) from decide_eq_decide.2 (by omega),d8u,d8u]
theorem d2j (x:Eng) (h:x.w≤Big) (hf:inI x.A.Seq∧inI x.A.Tail) (q:Int):Rn 10 N.g2i [.v x.e,.v [.i q]] ⟨[.b (a9l x q)],[]⟩:=by
 refine Rn.of fun k hk=>?_;rw [c8s];unfold b1n b1m a9w a9l;obtain ⟨l1,l2,l3,l4,hA⟩:=a4l x h;rw [d6c x h hf k (by omega),List.length_map,a0g (n:=(x.Wait.length:Int) - 1) (by omega) (by omega),a0v _ _ _ k (by omega)];simp only [a0e,Outs.g6t,List.getD_cons_zero,T.g6v];cases a9r x
 ·rfl
 cases hw:a0f q 0 ((x.Wait.length:Int) - 1)
 ·rfl
 have:=a0r hw;obtain ⟨n,rfl⟩:∃ n:Nat,q=(n:Int):=⟨q.toNat,by omega⟩;have hn:n<x.Wait.length:=by omega
 unfold Big at hk;simp only [Bool.not_true,cond_false,Bool.true_and,Int.toNat_natCast];refine (b1q x.Jobs.length (fun i=>!b0a x.A.G (b5t x n) (f4m x i)) (some ⟨[.b (d8w n (fun i=>!b0a x.A.G (b5t x n) (b5t x i))&&e9c x)],[]⟩) (by omega) (fun i hi G=>?_) (fun G=>?_) (by omega)).trans (d8u _ _)
 ·unfold a3m a7b;simp only [List.length_map,a1p _ hi,a1p _ hn,dlt hi,dlt hn,d0,Bool.and_self,a0q,cond_true,Int.toNat_natCast,B2_,T.g6u,T.g6x];rw [e1r x.A.G x.Wait[n] x.Jobs[i].C (d9a x hn h) (d8z x hi h).1 k (by unfold Big;omega),a0e];simp only [Outs.g6t,List.getD_cons_zero,T.g6v];unfold f4m b5t;rw [a2b hi,a2b hn];cases b0a x.A.G x.Wait[n] x.Jobs[i].C <;> rfl
 ·unfold a3m a7b;simp only [List.length_map,dll,cond_false];rw [a0h (by simp;omega)];have e:((List.drop (0:Int).toNat (c1h x.Wait)).take ((n:Int).toNat - (0:Int).toNat))=c1h (x.Wait.take n):=by simp [List.map_take]
  have hlen:(x.Wait.take n).length=n:=by simp;omega
  simp only [e,List.length_map,hlen];refine (b1q n (fun i=>!b0a x.A.G (b5t x n) (b5t x i)) (some ⟨[.b (e9c x)],[]⟩) (by omega) (fun i hi G=>?_) (fun G=>?_) (by omega)).trans (d8u _ _)
  ·unfold a2k;have hi':i<x.Wait.length:=by omega
   have hi2:i<(x.Wait.take n).length:=by omega
   simp only [List.length_map,a1p _ hi2,a1p _ hn,hlen,dlt hi,dlt hn,d0,Bool.and_self,a0q,cond_true,Int.toNat_natCast,B2_,T.g6u,T.g6x,List.getElem_take];rw [e1r x.A.G x.Wait[n] x.Wait[i] (d9a x hn h) (d9a x hi' h) k (by unfold Big;omega),a0e];simp only [Outs.g6t,List.getD_cons_zero,T.g6v];unfold b5t;rw [a2b hi',a2b hn];cases b0a x.A.G x.Wait[n] x.Wait[i] <;> rfl
  ·unfold a2k;simp only [List.length_map,dll,cond_false];exact f6i x h
theorem Eng.seq {x:Eng} (h:x.Fit):inI x.A.Seq∧inI x.A.Tail:=by
 unfold Eng.Fit Arr.Fit at h;exact ⟨h.1.2.2.2.2.2.1,h.1.2.2.2.2.2.2.1⟩
def c9m (x:Eng):Nat→Nat→Int
 | 0,_=>-1
 | d+1,i=>bif a9l x (i:Int) then (i:Int) else c9m x d (i+1)
def a4d (x:Eng):Int:=c9m x x.Wait.length 0
theorem d9b (x:Eng) (h:x.w≤Big) (hf:inI x.A.Seq∧inI x.A.Tail):Rn 11 N.g4l [.v x.e] ⟨[.i (a4d x)],[]⟩:=by
 refine Rn.of fun k hk=>?_;rw [c2p];unfold b3y a8x a4d;obtain ⟨l1,l2,l3,l4,hA⟩:=a4l x h;show a2z _ k ((0:Nat):Int)=(some ⟨[.i (c9m x (x.Wait.length - 0) 0)],[]⟩:Option Outs);refine a7k (R:=Outs) x.Wait.length (fun i=>(i:Int)) (fun i=>(some ⟨[.i (c9m x (x.Wait.length - i) i)],[]⟩:Option Outs)) (fun i hi G hG=>?_) (fun G=>?_) (show x.Wait.length<k by unfold Big at hk;omega)
 ·unfold a4z;simp only [List.length_map,dlt hi,cond_true];rw [d2j x h hf _ k (by omega),a0e,a2s (by omega),hG,show x.Wait.length - i=(x.Wait.length - (i+1))+1 by omega];simp only [Outs.g6t,List.getD_cons_zero,T.g6v,c9m];cases a9l x (i:Int) <;> rfl
 ·unfold a4z;simp only [List.length_map,dll,cond_false,Nat.sub_self];rfl
theorem a2j (l:List Int) (h:l.length≤Big):Rn 1 N.g1u [.v [.r (eIs l)]] ⟨[.r (eIs l)],[]⟩:=by
 refine Rn.of fun k hk=>?_;unfold Big at h;rw [c8a];unfold b6d;rw [a0h (by simp;omega)];rfl
def b1r (s:Int):Int:=bif a0f s 0 1099511627776 then s+6 else -1
theorem d6d (s:Int):Rn 2 N.g2z [.v [.i s]] ⟨[.i (b1r s)],[]⟩:=by
 refine Rn.of fun k hk=>?_;rw [d4u];unfold c0m b1r;rw [a0v _ _ _ k (by omega),a0e];simp only [Outs.g6t,List.getD_cons_zero,T.g6v];cases h:a0f s 0 1099511627776
 ·rfl
 ·have:=a0r h;simp only [Bool.not_true,cond_false,cond_true];rw [a0g (n:=s+2) (by omega) (by omega),a0g (by omega) (by omega),show s+2+4=s+6 by omega]
def a3g {α:Type} (p:α→Bool):Nat→List α→Int
 | _,[]=>-1
 | i,x :: l=>bif p x then (i:Int) else a3g p (i+1) l
theorem d9c {α:Type} (p:α→Bool):∀ (l:List α) (i:Nat),a3g p i l = -1∨((i:Int)≤a3g p i l∧a3g p i l<(i:Int)+l.length)
 | [],i=>.inl rfl
 | x :: l,i=>by
  unfold a3g;cases p x
  ·rcases d9c p l (i+1) with h | h
   ·exact .inl h
   ·refine .inr ?_;simp only [cond_false,List.length_cons];omega
  ·refine .inr ?_;simp only [cond_true,List.length_cons];omega
theorem c9n {α:Type} (p:α→Bool):∀ (l:List α) (i:Nat),decide (a3g p i l≥0)=l.any p
 | [],i=>rfl
 | x :: l,i=>by
  unfold a3g;rw [List.any_cons,← c9n p l (i+1)];cases p x
  ·rfl
  ·simp
theorem d9d {α:Type} (p:α→Bool) (l:List α) {b:(Int→Option Outs)→Int→Option Outs} (hl:l.length≤1099511627776)
  (h:∀ (i:Nat) (hi:i<l.length) G,b G (i:Int)=(bif p l[i] then some ⟨[.i i],[]⟩ else G (W64 ((i:Int)+1))))
  (he:∀ G,b G (l.length:Int)=some ⟨[.i (-1)],[]⟩) {j:Nat} (hj:l.length<j):a2z b j 0=some ⟨[.i (a3g p 0 l)],[]⟩:=by
 refine (a7k (b:=b) l.length (fun i=>(i:Int)) (fun i=>some ⟨[.i (a3g p i (l.drop i))],[]⟩) ?_ ?_ hj).trans (by simp)
 ·intro i hi G hG;rw [h i hi,a2s (by omega),hG,List.drop_eq_getElem_cons hi,a3g];cases p l[i] <;> rfl
 ·intro G;rw [he];simp [a3g]
def has (l:List Int) (n:Int):Bool:=l.any fun x=>x == n
theorem f6j (l:List Int) (h:l.length≤Big) (n:Int):Rn 2 N.g4n [.v [.r (eIs l)],.v [.i n]] ⟨[.i (a3g (fun x=>x == n) 0 l)],[]⟩:=by
 refine Rn.of fun k hk=>?_;unfold Big at h hk;rw [b5r];unfold a8q a4y;refine d9d _ l (by omega) (fun i hi G=>?_) (fun G=>?_) (by omega)
 ·unfold a2r;simp only [List.length_map,a1p _ hi,dlt hi,d0,Bool.and_self,a0q,cond_true,Int.toNat_natCast,List.getD_cons_zero,T.g6u];rw [show (n == l[i])=(l[i] == n) by rw [Bool.eq_iff_iff];simp only [beq_iff_eq];exact eq_comm]
 ·unfold a2r;simp only [List.length_map,dll,cond_false]
theorem e5k (l:List Int) (h:l.length≤Big) (n:Int):Rn 3 N.g4o [.v [.r (eIs l)],.v [.i n]] ⟨[.b (has l n)],[]⟩:=by
 refine Rn.of fun k hk=>?_;rw [b3j];unfold a6n;rw [f6j l h n k (by omega),a0e];simp only [Outs.g6t,List.getD_cons_zero,T.g6u,c9n];rfl
def c1k (n:Int) (s:List Int) (l:List Wr):List Int:=l.foldl (fun s x=>bif x.N == n then x.S else s) s
def e9d (m:Dsk) (n:Int):List Int:=c1k n (m.Secs.getD n.toNat []) m.Cache
def b4v (m:Dsk) (n:Int):List Int×Bool:=bif b5s m&&(!m.Failed&&(a8r m n&&!has m.Bad n)) then (e9d m n,true) else ([],false)
theorem d2k {n:Int} {b:Nat}:∀ {l:List Wr} {s:List Int},s.length≤b→(∀ x∈l,x.S.length≤b)→(c1k n s l).length≤b
 | [],s,hs,_=>hs
 | x :: l,s,hs,hl=>by
  unfold c1k;rw [List.foldl_cons];refine d2k (l:=l) ?_ fun y hy=>hl y (List.mem_cons_of_mem _ hy);cases x.N == n
  ·exact hs
  ·exact hl x List.mem_cons_self
theorem e9e (m:Dsk) (n:Int):(e9d m n).length≤m.w:=by
 unfold e9d Dsk.w;refine d2k ?_ fun x hx=>?_
 ·by_cases h:n.toNat<m.Secs.length
  ·rw [a2b h];have:=a6q List.length h;omega
  ·rw [List.getD_eq_getElem?_getD,List.getElem?_eq_none (by omega)];simp
 ·have:x.S.length≤wL Wr.w m.Cache:=f4j Wr.w hx;omega
theorem e9f {n:Int} (l:List Wr) {b:(List (List T)×Int→Option Outs)→List (List T)×Int→Option Outs} {last:List Int→Option Outs} (hl:l.length≤1099511627776)
  (h:∀ (i:Nat) (hi:i<l.length) (s:List Int) G,b G (eIs s,(i:Int))=G (eIs (bif l[i].N == n then l[i].S else s),W64 ((i:Int)+1)))
  (he:∀ s G,b G (eIs s,(l.length:Int))=last s) (s:List Int) {j:Nat} (hj:l.length<j):a2z b j (eIs s,0)=last (c1k n s l):=by
 have:=a7k (b:=b) l.length (fun i=>(eIs (c1k n s (l.take i)),(i:Int))) (fun _=>last (c1k n s l)) ?_ ?_ hj
 ·simpa [c1k] using this
 ·intro i hi G hG;rw [h i hi,a2s (by omega)];rw [List.take_succ_eq_append_getElem hi] at hG;unfold c1k at hG ⊢;rw [List.foldl_append] at hG;exact hG
 ·intro G;rw [he,List.take_length]
theorem e9g (m:Dsk) (h:m.w≤Big) (n:Int):Rn 6 N.g4p [.v m.e,.v [.i n]] ⟨[.r (eIs (b4v m n).1),.b (b4v m n).2],[]⟩:=by
 refine Rn.of fun k hk=>?_;rw [d0u];unfold b8k b3k a5o;have hs:=a3t List.length m.Secs;have hc:=a3t Wr.w m.Cache;have hw:m.w=wL List.length m.Secs+wL Wr.w m.Cache+m.Bad.length:=rfl;have hB:Big=4294967296:=rfl;rw [d6b m h k (by omega),c5z m n h k (by omega),e5k _ (by omega) n k (by omega)];unfold b4v;simp only [a0e,Outs.g6t,List.getD_cons_zero,T.g6v];cases b5s m
 ·rfl
 cases m.Failed
 ·cases hh:a8r m n
  ·rfl
  ·cases has m.Bad n
   ·have hb:=a0r hh;have hi:n.toNat<m.Secs.length:=by omega
    simp only [Bool.not_true,Bool.not_false,cond_true,cond_false,Bool.true_and,List.length_map];rw [a0h (by simp;omega),a1p _ hi];simp only [List.getD_cons_zero,T.g6x];refine (e9f (n:=n) (last:=fun s=>a0i (a0d E P0 k N.g1u [.v [.r (eIs s)]]) fun o6=>some ⟨[.r (o6.t 0).asR,.b true],[]⟩) m.Cache (by omega) (fun i hi' s G=>?_) (fun s G=>?_) _ (by omega)).trans ?_
    ·unfold a8i;simp only [List.length_map,a1p _ hi',dlt hi',d0,Bool.and_self,a0q,cond_true,Int.toNat_natCast,B2_,T.g6u,T.g6x];cases m.Cache[i].N == n <;> rfl
    ·unfold a8i;simp only [List.length_map,dll,cond_false]
    ·have e:c1k n m.Secs[n.toNat] m.Cache=e9d m n:=by unfold e9d;rw [a2b hi]
     have:=e9e m n;rw [e,a2j _ (by omega) k (by omega)];rfl
   ·rfl
 ·rfl
def b7b (a:Arr) (m s:Int):Bool:=a0f m 0 ((a.Mems.length:Int) - 1)&&(!(a.Mems.getD m.toNat default).Failed&&(a.Lost != m || decide (s<a.Built)))
theorem f8l (a:Arr) {i:Nat} (hi:i<a.Mems.length) (h:a.w≤Big):a.Mems[i].w≤Big:=by
 have:=a6q Dsk.w hi;unfold Arr.w at h;omega
theorem b0w (a:Arr) (h:a.w≤Big):a.Mems.length≤4294967296∧a.Dirty.length≤4294967296:=by
 have h1:=a3t Dsk.w a.Mems;have h2:=a3t Ent.w a.Dirty;unfold Arr.w Big at h;omega
theorem e3l (a:Arr) (h:a.w≤Big) (m s:Int):Rn 2 N.g3r [.v a.e,.v [.i m],.v [.i s]] ⟨[.b (b7b a m s)],[]⟩:=by
 refine Rn.of fun k hk=>?_;rw [d5i];unfold c0v b7b;obtain ⟨l1,l2⟩:=b0w a h;rw [List.length_map,a0g (n:=(a.Mems.length:Int) - 1) (by omega) (by omega),a0v _ _ _ k (by omega),a0e];simp only [Outs.g6t,List.getD_cons_zero,T.g6v];cases hw:a0f m 0 ((a.Mems.length:Int) - 1)
 ·rfl
 have:=a0r hw;have hi:m.toNat<a.Mems.length:=by omega
 simp only [cond_true,Bool.true_and];rw [a0h (by simp;omega),a1p _ hi,a2b hi];simp only [B2_,T.g6v];cases a.Mems[m.toNat].Failed <;> cases a.Lost != m <;> rfl
def c4i (a:Arr) (m:Nat) (s:Int):Int×Bool:=
 bif b7b a m s&&((b4v (a.Mems.getD m default) (b1r s)).2&&(((b4v (a.Mems.getD m default) (b1r s)).1.length:Int) == 1)) then ((b4v (a.Mems.getD m default) (b1r s)).1.getD 0 0,true) else (0,false)
theorem f2o (a:Arr) (h:a.w≤Big) (m:Nat) (hm:m<a.Mems.length) (s:Int):Rn 7 N.g4q [.v a.e,.v [.i m],.v [.i s]] ⟨[.i (c4i a m s).1,.b (c4i a m s).2],[]⟩:=by
 refine Rn.of fun k hk=>?_;rw [d5j];unfold c0w a9k c4i;simp only [List.length_map,a1p _ hm,dlt hm,d0,Bool.and_self,a0q,Int.toNat_natCast,B2_,T.g6u,T.g6x,T.g6v];rw [d6d s k (by omega),a0e];simp only [Outs.g6t,List.getD_cons_zero,T.g6u];rw [e9g a.Mems[m] (f8l a hm h) (b1r s) k (by omega),e3l a h _ _ k (by omega),a2b hm];simp only [a0e,Outs.g6t,B2_,T.g6u,T.g6v,T.g6x,bne,List.length_map];cases b7b a m s
 ·rfl
 cases (b4v a.Mems[m] (b1r s)).2
 ·rfl
 cases hl:(((b4v a.Mems[m] (b1r s)).1.length:Int) == 1)
 ·rfl
 have hl:(b4v a.Mems[m] (b1r s)).1.length=1:=by simp at hl;omega
 simp only [Bool.not_true,cond_false];rw [a0h (decide_eq_true (by omega)),a9z (by omega)];rfl
theorem g0o {V R:Type} (n:Nat) (p:Nat→Bool) (st:Nat→V) {b:(V→Option R)→V→Option R} (fail last:Option R)
  (h:∀ i,i<n→∀ G,b G (st i)=(bif p i then G (st (i+1)) else fail)) (he:∀ G,b G (st n)=last) {j:Nat} (hj:n<j) :
  a2z b j (st 0)=(bif d8w n p then last else fail):=by
 refine (a7k n st (fun i=>bif (List.range' i (n - i)).all p then last else fail) ?_ ?_ hj).trans (by unfold d8w;rw [List.range_eq_range',Nat.sub_zero])
 ·intro i hi G hG;rw [h i hi,hG,show n - i=(n - (i+1))+1 by omega,List.range'_succ,List.all_cons];cases p i <;> rfl
 ·intro G;rw [he];simp
def e3m (f:Nat→Int) (n:Nat):List Int:=(List.range n).map f
theorem b2t (f:Nat→Int) (n:Nat):(e3m f n).length=n:=by unfold e3m;simp
theorem e9h (f:Nat→Int) (n:Nat):eIs (e3m f n)++[[.i (f n)]]=eIs (e3m f (n+1)):=by unfold e3m;simp [List.range_succ]
def xN (b:BitVec 64):Int:=W64 b.toNat
def X (n:Int):BitVec 64:=BitVec.ofInt 64 n
theorem g1o (b:BitVec 64):X (xN b)=b:=by
 have h:=b.isLt;apply BitVec.eq_of_toNat_eq;unfold X xN W64 IntKind.wrap IntKind.signed IntKind.bits;rw [BitVec.toNat_ofInt];simp;split <;> omega
theorem d9e (b:BitVec 64) (n:Int):c1z .i64 (xN b) n=xN (b ^^^ X n):=by
 unfold c1z;show W64 ((X (xN b) ^^^ X n).toNat)=_;rw [g1o];rfl
def f4n (f:Nat→Int):Nat→BitVec 64
 | 0=>0#64
 | i+1=>f4n f i ^^^ X (f i)
def e9i (f:Nat→Int) (n:Int):Nat→BitVec 64
 | 0=>0#64
 | i+1=>bif (i:Int) != n then e9i f n i ^^^ X (f i) else e9i f n i
theorem e9j (f:Nat→Int) (n:Int):∀ i:Nat,e9i f n i=bif a0f n 0 ((i:Int) - 1) then f4n f i ^^^ X (f n.toNat) else f4n f i
 | 0=>by
  cases h:a0f n 0 (((0:Nat):Int) - 1)
  ·rfl
  ·have:=a0r h;omega
 | i+1=>by
  unfold e9i f4n;rw [e9j f n i];by_cases hn:(i:Int)=n
  ·subst hn;have h1:a0f (i:Int) 0 ((i:Int) - 1)=false:=by unfold a0f;simp <;> omega
   have h2:a0f (i:Int) 0 (((i+1:Nat):Int) - 1)=true:=by unfold a0f;simp <;> omega
   rw [h1,h2];simp [BitVec.xor_assoc]
  ·have h2:a0f n 0 (((i+1:Nat):Int) - 1)=a0f n 0 ((i:Int) - 1):=by
    unfold a0f;rw [Bool.eq_iff_iff];simp;omega
   rw [h2];have:((i:Int) != n)=true:=by simpa using hn
   rw [this];cases a0f n 0 ((i:Int) - 1)
   ·rfl
   ·simp only [cond_true,BitVec.xor_assoc,BitVec.xor_comm (X (f n.toNat))]
def d6e (l:List Int) (n:Int):Int:=xN (e9i (fun i=>l.getD i 0) n l.length)
theorem e9k (l:List Int) (h:l.length≤Big):Rn 2 N.g3s [.v [.r (eIs l)]] ⟨[.i (xN (f4n (fun i=>l.getD i 0) l.length))],[]⟩:=by
 refine Rn.of fun k hk=>?_;unfold Big at h hk;rw [d8p];unfold c4c b6q;show a2z _ k (xN 0#64,((0:Nat):Int))=_;refine a7k (R:=Outs) l.length (fun i=>(xN (f4n (fun i=>l.getD i 0) i),(i:Int))) (fun i=>some ⟨[.i (xN (f4n (fun i=>l.getD i 0) l.length))],[]⟩) (fun i hi G hG=>?_) (fun G=>?_) (by omega)
 ·unfold b0s;simp only [List.length_map,a9z hi,dlt hi,d0,Bool.and_self,a0q,cond_true,Int.toNat_natCast];rw [d9e,a2s (by omega)];exact hG
 ·unfold b0s;simp only [List.length_map,dll,cond_false]
theorem e9l (l:List Int) (h:l.length≤Big) (n:Int):Rn 3 N.g4r [.v [.r (eIs l)],.v [.i n]] ⟨[.i (d6e l n)],[]⟩:=by
 refine Rn.of fun k hk=>?_;have h':=h;unfold Big at h hk;rw [c0x];unfold b2j d6e;rw [e9k l h' k (by unfold Big;omega),a0e,List.length_map,a0g (n:=(l.length:Int) - 1) (by omega) (by omega),a0v _ _ _ k (by unfold Big;omega),a0e,e9j];simp only [Outs.g6t,List.getD_cons_zero,T.g6v,T.g6u];cases hw:a0f n 0 ((l.length:Int) - 1)
 ·rfl
 ·have:=a0r hw;simp only [cond_true];rw [a0h (by simp;omega),a9z (by omega),d9e]
def wAt (a:Arr) (s:Int) (i:Nat):Int:=(c4i a i s).1
def d2l (a:Arr) (s:Int) (i:Nat):Bool:=(c4i a i s).2
def a9s (ok:Nat→Bool):Nat→Int
 | 0=>-1
 | i+1=>bif ok i then a9s ok i else (i:Int)
theorem e3n (ok:Nat→Bool):∀ i:Nat,-1≤a9s ok i∧a9s ok i<(i:Int)
 | 0=>by unfold a9s;omega
 | i+1=>by
  unfold a9s;have:=e3n ok i;cases ok i <;> simp only [cond_true,cond_false] <;> omega
def e5l (l:List Int) (m:Int):List Int:=bif decide (m≥0) then l.set m.toNat (d6e l m) else l
theorem e9m (l:List Int) (m:Int):(e5l l m).length=l.length:=by
 unfold e5l;cases decide (m≥0) <;> simp
def words (a:Arr) (s:Int):List Int×Bool:=
 bif d8w a.Mems.length (fun i=>d2l a s i || decide (a9s (d2l a s) i<0)) then (e5l (e3m (wAt a s) a.Mems.length) (a9s (d2l a s) a.Mems.length),true) else ([],false)
theorem e9n {a:Arr} {s:Int} (h:(words a s).2=true):(words a s).1.length=a.Mems.length:=by
 unfold words at h ⊢;cases h':d8w a.Mems.length (fun i=>d2l a s i || decide (a9s (d2l a s) i<0))
 ·rw [h'] at h;cases h
 ·show (e5l _ _).length=_;rw [e9m,b2t]
theorem geL {m:Int}:decide (m≥0)=!decide (m<0):=by rw [Bool.eq_iff_iff];simp
theorem f6k (a:Arr) (h:a.w≤Big) (hf:inI a.Seq∧inI a.Tail) (s:Int):Rn 8 N.g4s [.v a.e,.v [.i s]] ⟨[.r (eIs (bif a5v a&&(!a.Broken&&a0n a.G s) then words a s else ([],false)).1),.b (bif a5v a&&(!a.Broken&&a0n a.G s) then words a s else ([],false)).2],[]⟩:=by
 refine Rn.of fun k hk=>?_;rw [d8q];unfold c4d b6r b0t;obtain ⟨l1,l2⟩:=b0w a h;have hL:a2z (a8j k a.Id a.G.N a.G.S (a4c a.Mems) a.Lost a.Built a.Seq a.Tail a.Gen (a3h a.Dirty) a.Fuse a.Down a.Broken s) k (-1,0,[])=some ⟨[.r (eIs (words a s).1),.b (words a s).2],[]⟩:=by
  refine (g0o a.Mems.length (fun i=>d2l a s i || decide (a9s (d2l a s) i<0)) (fun i=>(a9s (d2l a s) i,(i:Int),eIs (e3m (wAt a s) i))) (some ⟨[.r [],.b false],[]⟩) (some ⟨[.r (eIs (e5l (e3m (wAt a s) a.Mems.length) (a9s (d2l a s) a.Mems.length))),.b true],[]⟩) (fun i hi G=>?_) (fun G=>?_) (by unfold Big at hk;omega)).trans ?_
  ·unfold a8j b4t;simp only [List.length_map,dlt hi,cond_true];rw [f2o a h i hi s k (by omega),a0e];simp only [Outs.g6t,B2_,T.g6u,T.g6v];rw [a0h (by simp [b2t];omega),a0h (by simp [b2t];omega),a2s (by omega),geL];show (bif !(d2l a s i) then _ else _)=_;rw [show (c4i a i s).1=wAt a s i from rfl,e9h,show a9s (d2l a s) (i+1)=bif d2l a s i then a9s (d2l a s) i else (i:Int) from rfl];cases ho:d2l a s i
   ·cases decide (a9s (d2l a s) i<0) <;> simp [show (c4i a i s).2=false from ho]
   ·simp [show (c4i a i s).2=true from ho]
  ·unfold a8j;simp only [List.length_map,dll,cond_false];have hb:=e3n (d2l a s) a.Mems.length;unfold e5l;cases hm:decide (a9s (d2l a s) a.Mems.length≥0)
   ·rfl
   ·have hm':=of_decide_eq_true hm;simp only [cond_true];rw [e9l _ (by rw [b2t];exact l1) _ k (by omega),a0e,b2t,a0h (by simp;omega)];simp only [Outs.g6t,List.getD_cons_zero,T.g6u];rw [c9h (α:=Int) (fun n=>[T.i n]) (by rw [b2t];omega) 0 _ (d6e (e3m (wAt a s) a.Mems.length) (a9s (d2l a s) a.Mems.length)) rfl]
  ·unfold words;cases d8w a.Mems.length (fun i=>d2l a s i || decide (a9s (d2l a s) i<0)) <;> rfl
 rw [c9l a h hf k (by omega),a8z _ _ k (by omega)];simp only [a0e,Outs.g6t,List.getD_cons_zero,T.g6v];rw [hL];cases a5v a
 ·rfl
 cases a.Broken
 ·cases a0n a.G s <;> rfl
 ·rfl
theorem a4m {g:Geo} {s:Int} (h:a0n g s=true):a5u g=true∧0≤s∧s<g.S:=by
 unfold a0n at h;rw [Bool.and_eq_true] at h;have:=a0r h.2;exact ⟨h.1,this.1,by omega⟩
def a1r (g:Geo) (s:Int):Int:=bif a0n g s then g.N - 1 - s % g.N else -1
theorem d6f {g:Geo} {s:Int} (h:a0n g s=true):W64 (W64 (g.N - 1) - Int.tmod s g.N)=g.N - 1 - s % g.N∧g.N≠0∧0≤g.N - 1 - s % g.N∧g.N - 1 - s % g.N<g.N:=by
 obtain ⟨hg,h0,h1⟩:=a4m h;obtain ⟨a,b,c,d⟩:=a1a hg;rw [a0g (n:=g.N - 1) (by omega) (by omega),Int.tmod_eq_emod_of_nonneg h0];have:=Int.emod_nonneg s (b:=g.N) (by omega);have:=Int.emod_lt_of_pos s (b:=g.N) (by omega);exact ⟨a0g (by omega) (by omega),by omega,by omega,by omega⟩
theorem d2m (g:Geo) (s:Int):Rn 4 N.g3t [.v g.e,.v [.i s]] ⟨[.i (a1r g s)],[]⟩:=by
 refine Rn.of fun k hk=>?_;rw [c8x];unfold b6s a1r;rw [a8z _ _ k (by omega),a0e];cases h:a0n g s with
 | false=>rfl
 | true=>obtain ⟨e,hn,_⟩:=d6f h;simp [e,hn,a0q]
def b0h (g:Geo) (s i:Int):Int:=bif a0n g s&&a0f i 0 (g.N - 2) then (a1r g s+1+i) % g.N else -1
theorem f8m {g:Geo} {s i:Int} (h:a0n g s=true) (hi:a0f i 0 (g.N - 2)=true):Int.tmod (W64 (W64 (a1r g s+1)+i)) g.N=(a1r g s+1+i) % g.N∧g.N≠0:=by
 obtain ⟨_,hn,h0,h1⟩:=d6f h;obtain ⟨a,b,c,d⟩:=a1a (a4m h).1;have:=a0r hi;unfold a1r;rw [h,cond_true];rw [a0g (n:=g.N - 1 - s % g.N+1) (by omega) (by omega),a0g (by omega) (by omega),Int.tmod_eq_emod_of_nonneg (by omega)];exact ⟨rfl,hn⟩
theorem e3o {g:Geo} {s i:Int} (h:a0n g s=true) (hi:a0f i 0 (g.N - 2)=true):0≤b0h g s i∧b0h g s i<g.N:=by
 obtain ⟨a,b,c,d⟩:=a1a (a4m h).1;unfold b0h;rw [h,hi];exact ⟨Int.emod_nonneg _ (by omega),Int.emod_lt_of_pos _ (by omega)⟩
theorem e3p (g:Geo) (s i:Int):Rn 5 N.g3u [.v g.e,.v [.i s],.v [.i i]] ⟨[.i (b0h g s i)],[]⟩:=by
 refine Rn.of fun k hk=>?_;rw [d5o];unfold c0y b0h;rw [a8z _ _ k (by omega),a0e];simp only [Outs.g6t,List.getD_cons_zero,T.g6v];cases h:a0n g s
 ·rfl
 obtain ⟨a,b,c,d⟩:=a1a (a4m h).1;rw [a0g (n:=g.N - 2) (by omega) (by omega),a0v _ _ _ k (by omega),a0e,d2m _ _ k (by omega),a0e];simp only [Outs.g6t,List.getD_cons_zero,T.g6v,T.g6u];cases hi:a0f i 0 (g.N - 2)
 ·rfl
 obtain ⟨e,hn⟩:=f8m h hi;simp [e,hn,a0q]
def b1s (g:Geo) (b:Int):Int:=bif a2i g b then b % (g.N - 1) else -1
theorem e9o {g:Geo} {b:Int} (h:a2i g b=true):Int.tmod b (W64 (g.N - 1))=b % (g.N - 1)∧W64 (g.N - 1)≠0∧0≤b % (g.N - 1)∧b % (g.N - 1)<g.N - 1:=by
 obtain ⟨hg,h0,h1⟩:=b7n h;obtain ⟨a,b',c,d⟩:=a1a hg;rw [a0g (n:=g.N - 1) (by omega) (by omega),Int.tmod_eq_emod_of_nonneg h0];exact ⟨rfl,by omega,Int.emod_nonneg _ (by omega),Int.emod_lt_of_pos _ (by omega)⟩
theorem d9f (g:Geo) (b:Int):Rn 5 N.g3x [.v g.e,.v [.i b]] ⟨[.i (b1s g b)],[]⟩:=by
 refine Rn.of fun k hk=>?_;rw [d0x];unfold b8n b1s;rw [c2z _ _ k (by omega),a0e];cases h:a2i g b with
 | false=>rfl
 | true=>obtain ⟨e,hn,_⟩:=e9o h;simp [e,hn,a0q]
theorem d2n {g:Geo} {b:Int} (h:a2i g b=true):a0n g (a0k g b)=true:=by
 obtain ⟨hg,h0,h1⟩:=b7n h;obtain ⟨a,b',c,d⟩:=a1a hg;unfold a0k a0n;rw [h,hg,cond_true,Bool.true_and];have h2:=Int.ediv_nonneg h0 (b:=g.N - 1) (by omega);have h3:b / (g.N - 1)<g.S:=Int.ediv_lt_of_lt_mul (by omega) h1;unfold a0f;simp;omega
def c9o (a:Arr) (s:Int):List Int×Bool:=bif (words a s).2 then (e3m (fun i=>(words a s).1.getD (b0h a.G s i).toNat 0) (a.G.N - 1).toNat,true) else ([],false)
theorem d0z {a:Arr} (h:a5v a=true):a5u a.G=true∧(a.Mems.length:Int)=a.G.N∧c9k a=true:=by
 unfold a5v at h;simp only [Bool.and_eq_true] at h;exact ⟨h.1,by simpa using h.2.1,h.2.2.2.2.1⟩
theorem e5m {a:Arr} {s:Int} (ha:a5v a=true) (h:(c9o a s).2=true):((c9o a s).1.length:Int)=a.G.N - 1:=by
 obtain ⟨hg,_,_⟩:=d0z ha;obtain ⟨_,_,_,_⟩:=a1a hg;unfold c9o at h ⊢;cases h':(words a s).2
 ·rw [h'] at h;cases h
 ·show ((e3m _ _).length:Int)=_;rw [b2t];omega
theorem c6b {l:List Int} {n:Int} (h0:0≤n) (h1:n<(l.length:Int)) (X:Option Outs):chk (decide (0≤n)&&decide (n<((eIs l).length:Int))) X=X∧(at_ (eIs l) n.toNat 0).asI=l.getD n.toNat 0:=by
 refine ⟨a0h ?_ X,a9z (by omega)⟩;rw [List.length_map];simp;omega
theorem f2p (a:Arr) (h:a.w≤Big) (hf:inI a.Seq∧inI a.Tail) (ha:a5v a=true) (s:Int) (hs:a0n a.G s=true):Rn 9 N.g3v [.v a.e,.v [.i s]] ⟨[.r (eIs (bif !a.Broken then c9o a s else ([],false)).1),.b (bif !a.Broken then c9o a s else ([],false)).2],[]⟩:=by
 refine Rn.of fun k hk=>?_;rw [d5p];unfold c0z b0u;obtain ⟨hg,hn,_⟩:=d0z ha;obtain ⟨_,_,_,_⟩:=a1a hg;rw [f6k a h hf s k (by omega),a0e,a0g (n:=a.G.N - 1) (by omega) (by omega),ha,hs,Bool.true_and,Bool.and_true];simp only [Outs.g6t,B2_,T.g6v,T.g6x];have hL:(words a s).2=true→∀ o2:Outs,(o2.t 0)=.r (eIs (words a s).1)→a2z (a6o k a.Id a.G.N a.G.S (a4c a.Mems) a.Lost a.Built a.Seq a.Tail a.Gen (a3h a.Dirty) a.Fuse a.Down a.Broken s o2 (a.G.N - 1)) k (0,[])=some ⟨[.r (eIs (e3m (fun i=>(words a s).1.getD (b0h a.G s i).toNat 0) (a.G.N - 1).toNat)),.b true],[]⟩:=by
  intro hw o2 ho;have hl:=e9n hw;refine a7k (R:=Outs) (a.G.N - 1).toNat (fun i=>((i:Int),eIs (e3m (fun i=>(words a s).1.getD (b0h a.G s i).toNat 0) i))) (fun i=>some ⟨[.r (eIs (e3m (fun i=>(words a s).1.getD (b0h a.G s i).toNat 0) (a.G.N - 1).toNat)),.b true],[]⟩) (fun i hi G hG=>?_) (fun G=>?_) (by unfold Big at hk;omega)
  ·unfold a6o;have hd:=e3o (i:=(i:Int)) hs (by unfold a0f;simp;omega);obtain ⟨e1,e2⟩:=c6b (l:=(words a s).1) hd.1 (by omega) none;simp only [ho,T.g6x];rw [decide_eq_true (by omega),cond_true,e3p a.G s i k (by omega),a0e];simp only [Outs.g6t,List.getD_cons_zero,T.g6u];rw [(c6b (l:=(words a s).1) hd.1 (by omega) _).1,e2,a0h (by simp [b2t];omega),a2s (by omega),e9h (fun i=>(words a s).1.getD (b0h a.G s i).toNat 0)];exact hG
  ·unfold a6o;simp only [];rw [decide_eq_false (by omega)];rfl
 unfold c9o;cases hb:!a.Broken
 ·rfl
 ·cases hw:(words a s).2
  ·simp only [cond_true,hw];rfl
  ·simp only [cond_true,hw,Bool.not_true,cond_false];exact hL hw _ rfl
def a4g (a:Arr) (s:Int):Int:=a3g (fun x:Ent=>x.Stripe == s) 0 a.Dirty
theorem e9p (a:Arr) (h:a.w≤Big) (s:Int):Rn 4 N.g3q [.v a.e,.v [.i s]] ⟨[.i (a4g a s)],[]⟩:=by
 refine Rn.of fun k hk=>?_;rw [d8o];unfold c4b;obtain ⟨l1,l2⟩:=b0w a h;have e:Rn 3 N.g4m [.v [.r (a3h a.Dirty)],.c N.g2t (some [.i s])] ⟨[.i (a4g a s)],[[.i s]]⟩:=by
  refine Rn.of fun k hk=>?_;rw [a6m];unfold a2v a1t;refine (a7k (R:=Outs) a.Dirty.length (fun i=>((i:Int),s)) (fun i=>some ⟨[.i (a3g (fun x:Ent=>x.Stripe == s) i (a.Dirty.drop i))],[[.i s]]⟩) (fun i hi G hG=>?_) (fun G=>?_) (by unfold Big at hk;omega)).trans rfl
  ·unfold a0z;simp only [List.length_map,a1p _ hi,dlt hi,d0,Bool.and_self,a0q,cond_true,Int.toNat_natCast,B2_,T.g6u,T.g6x];obtain ⟨k',rfl⟩:∃ m,k=m+1:=⟨k - 1,by unfold Big at hk;omega⟩;rw [d0t];unfold b8j;rw [a0e,a2s (by omega)];show (bif a.Dirty[i].Stripe == s then some ⟨[.i (i:Int)],[[.i s]]⟩ else G (((i+1:Nat):Int),s))=_;rw [hG,List.drop_eq_getElem_cons hi,a3g];cases a.Dirty[i].Stripe == s <;> rfl
  ·unfold a0z;simp only [List.length_map,dll,cond_false];simp [a3g]
 rw [e k (by omega),a0e];rfl
def a3k (a:Arr) (s:Int):List Int×Bool:=
 bif decide (a4g a s≥0) then ((a.Dirty.getD (a4g a s).toNat default).Data,true) else bif !a.Broken then c9o a s else ([],false)
theorem d6g {a:Arr} {s:Int} (h:decide (a4g a s≥0)=true):0≤a4g a s∧a4g a s<a.Dirty.length:=by
 have h:=of_decide_eq_true h;rcases d9c (fun x:Ent=>x.Stripe == s) a.Dirty 0 with g | g
 ·unfold a4g at h;omega
 ·unfold a4g at h ⊢;omega
theorem c9p {a:Arr} {s:Int} (ha:a5v a=true) (h:(a3k a s).2=true):((a3k a s).1.length:Int)=a.G.N - 1:=by
 unfold a3k at h ⊢;cases he:decide (a4g a s≥0)
 ·rw [he] at h;cases hb:!a.Broken
  ·rw [hb] at h;cases h
  ·rw [hb] at h;exact e5m ha h
 ·have hb:=d6g he;have hd:=(d0z ha).2.2;unfold c9k at hd;have:=d6a.1 hd (a4g a s).toNat (by omega);unfold f2n b2s at this;simp only [Bool.and_eq_true,beq_iff_eq] at this;exact this.2.1
theorem e9q (a:Arr) (h:a.w≤Big) {i:Nat} (hi:i<a.Dirty.length):a.Dirty[i].Data.length≤4294967296:=by
 have:=a6q Ent.w hi;unfold Arr.w Big at h;unfold Ent.w at this;unfold Ent.w at h;omega
theorem d9g (a:Arr) (h:a.w≤Big) (hf:inI a.Seq∧inI a.Tail) (ha:a5v a=true) (s:Int) (hs:a0n a.G s=true):Rn 10 N.g3w [.v a.e,.v [.i s]] ⟨[.r (eIs (a3k a s).1),.b (a3k a s).2],[]⟩:=by
 refine Rn.of fun k hk=>?_;rw [d0w];unfold b8m a3k;rw [e9p a h s k (by omega),a0e];simp only [Outs.g6t,List.getD_cons_zero,T.g6u];cases he:decide (a4g a s≥0)
 ·simp only [cond_false];rw [f2p a h hf ha s hs k (by omega)];rfl
 ·have hb:=d6g he;have hi:(a4g a s).toNat<a.Dirty.length:=by omega
  have hw:=e9q a h hi;simp only [cond_true];rw [a0h (by simp;omega),a1p _ hi,a2b hi];simp only [B2_,T.g6x];rw [a2j _ (by unfold Big;omega) k (by omega)];rfl
def a2g (a:Arr) (b:Int):Int:=bif !a5v a then 1 else bif a.Down then 6 else bif !a2i a.G b then 2 else 0
theorem c9q (a:Arr) (h:a.w≤Big) (hf:inI a.Seq∧inI a.Tail) (b:Int):Rn 8 N.g3p [.v a.e,.v [.i b]] ⟨[.i (a2g a b)],[]⟩:=by
 refine Rn.of fun k hk=>?_;rw [c5a];unfold b5j a2g;rw [c9l a h hf k (by omega),c2z _ _ k (by omega)];simp only [Outs.g6t,List.getD_cons_zero,T.g6v,a0e];cases a5v a <;> cases a.Down <;> cases a2i a.G b <;> rfl
theorem c9r {a:Arr} {b:Int} (h:(a2g a b != 0)=false):a5v a=true∧a2i a.G b=true:=by
 unfold a2g at h;cases h1:a5v a <;> cases h2:a.Down <;> cases h3:a2i a.G b <;> rw [h1,h2,h3] at h <;> simp at h ⊢
def a1o (a:Arr) (b:Int):Int×Int:=
 bif a2g a b != 0 then (0,a2g a b) else bif !(a3k a (a0k a.G b)).2 then (0,5) else ((a3k a (a0k a.G b)).1.getD (b1s a.G b).toNat 0,0)
theorem e9r {a:Arr} {b:Int} (ha:a5v a=true) (hb:a2i a.G b=true) (h:(a3k a (a0k a.G b)).2=true):0≤b1s a.G b∧b1s a.G b<((a3k a (a0k a.G b)).1.length:Int):=by
 have:=e9o hb;rw [c9p ha h];unfold b1s;rw [hb];exact ⟨this.2.2.1,this.2.2.2⟩
theorem c3a (a:Arr) (h:a.w≤Big) (hf:inI a.Seq∧inI a.Tail) (b:Int):Rn 11 N.g2j [.v a.e,.v [.i b]] ⟨[.i (a1o a b).1,.i (a1o a b).2],[]⟩:=by
 refine Rn.of fun k hk=>?_;rw [c8z];unfold b6t a1o;rw [c9q a h hf b k (by omega),a0e,b7o _ _ k (by omega),a0e,d9f _ _ k (by omega)];simp only [a0e,Outs.g6t,List.getD_cons_zero,T.g6u];cases hc:a2g a b != 0
 ·obtain ⟨ha,hb⟩:=c9r hc;simp only [cond_false];rw [d9g a h hf ha _ (d2n hb) k (by omega),a0e];simp only [Outs.g6t,B2_,T.g6u,T.g6v,T.g6x];cases hd:(a3k a (a0k a.G b)).2
  ·rfl
  ·obtain ⟨h0,h1⟩:=e9r ha hb hd;obtain ⟨_,e2⟩:=c6b h0 h1 none;simp only [Bool.not_true,cond_false];rw [(c6b h0 h1 _).1,e2]
 ·rfl
theorem e9s {c:Cmd} (hs:b2r c=true):(c.Op=1∨c.Op=6→a3e c=c.N∧0≤c.N)∧(c.Op=2∨c.Op=3→a3e c=(c.Vals.length:Int))∧(c.Op=5→a3e c=1∧c.Vals.length=2):=by
 unfold b2r at hs;unfold a3e;refine ⟨fun h=>?_,fun h=>?_,fun h=>?_⟩
 ·rcases h with h | h <;> rw [h] at hs ⊢ <;> simp [a0f] at hs ⊢ <;> omega
 ·rcases h with h | h <;> rw [h] <;> simp
 ·rw [h] at hs ⊢;simp at hs ⊢;omega
theorem b7c (c:Cmd) (h:c.w≤Big):Rn 2 N.g2g [.v c.e] ⟨c.e,[]⟩:=by
 refine Rn.of fun k hk=>?_;rw [d0n];unfold b8e;rw [a2j _ h k (by omega)];rfl
theorem c9s (a:Ans) (h:a.Vals.length≤Big):Rn 2 N.g3a [.v a.e] ⟨a.e,[]⟩:=by
 refine Rn.of fun k hk=>?_;rw [d0o];unfold b8f;rw [a2j _ h k (by omega)];rfl
def Ev (X:Nat→Option Outs) (d:Nat) (ok:Outs→Prop):Prop:=∃ o,ok o∧∀ k,Big+d≤k→X k=some o
structure Cur where
 b:List Int
 i:Int
 h:Int
abbrev Cur.e (c:Cur):List T:=[.r (eIs c.b),.i c.i,.i c.h]
@[simp] theorem Outs.g6y (l:List T) (c:List T) (j:Nat):Outs.vt ⟨l,[c]⟩ 0 j=c.getD j (.i 0):=rfl
def inB (n:Int):Prop:=0≤n∧n≤255
theorem e5n {t:T} (h:FT E (.int .u8) t):∃ n:Int,t=.i n∧inB n:=by
 cases h with
 | int h=>
  simp [Lit.wf,IntKind.min,IntKind.max,IntKind.signed,IntKind.bits] at h;exact ⟨_,rfl,by unfold inB;omega⟩
theorem e5o {c:List T} (h:FTs E [.int .u8] c):∃ n:Int,c=[.i n]∧inB n:=by
 match c,h with
 | [t],⟨h,_⟩=>obtain ⟨n,rfl,g⟩:=e5n h;exact ⟨n,rfl,g⟩
theorem e1t {t:T} (h:FT E (.row TN.Uint8) t):∃ l:List Int,t=.r (eIs l)∧LF inB l:=
 e8u _ inB (fun c hc=>e5o (f8j (by kernel_rfl) hc)) h
def CmdP (x:Cmd):Prop:=inI x.Op∧inI x.Id∧inI x.Lba∧inI x.N∧x.Vals.length≤20∧∀ v∈x.Vals,inI v
theorem CmdP.w {x:Cmd} (h:CmdP x):x.w≤Big:=by have:=h.2.2.2.2.1;unfold Cmd.w Big;omega
theorem g0p (l:List Int):Rn 1 N.g4b [.v [.r (eIs l)]] ⟨[.b (decide ((l.length:Int) > 1048576))],[]⟩:=by
 refine Rn.of fun k hk=>?_;rw [e5i];unfold d2i;rw [List.length_map]
theorem e9t (g:Geo) (c:Cmd) (h:c.w≤Big):(decide (a3f g c > 0) == (a1m g c == 0))=true:=by
 unfold a3f;cases h0:a1m g c == 0
 ·simp
 have h0':a1m g c=0:=by simpa using h0
 obtain ⟨hg,hs,hl⟩:=a7o h0';obtain ⟨g1,g2,g3,g4⟩:=a1a hg;have hr:=c9i hs h;simp only [cond_true];cases h4:c.Op == 4
 ·cases h3:c.Op == 3
  ·simp;omega
  ·simp only [cond_true,cond_false];have h3':c.Op=3:=by simpa using h3
   have hrun:=(e9s hs).2.1 (.inr h3');have hpos:1≤a3e c:=by
    unfold b2r at hs;rw [h3'] at hs;simp [a0f] at hs;omega
   rcases hl with hl | hl
   ·rw [h3'] at hl;cases hl
   have hb:a9q g=g.S*(g.N - 1):=by unfold a9q;rw [hg];rfl
   have e1:a2i g c.Lba=true:=by unfold a2i a0f;simp;omega
   have e2:a2i g (c.Lba+a3e c - 1)=true:=by unfold a2i a0f;simp;omega
   have:c.Lba / (g.N - 1)≤(c.Lba+a3e c - 1) / (g.N - 1):=Int.ediv_le_ediv (by omega) (by omega);unfold a0k;rw [e1,e2];simp;omega
 ·simp;omega
theorem e9u (A B:List (List T)) (r:List T) (j:Nat) (ts:List T):a4f (A++r :: B) A.length j ts=A++a1q r j ts :: B:=by
 unfold a4f;simp [List.getD_eq_getElem?_getD,List.set_append_right]
def g1p (m:Nat) (a:Ans):Prop:=inI a.Id∧inI a.Code∧a.Vals.length≤m∧∀ v∈a.Vals,inI v
def TurnQ (m:Nat) (t:Turn):Prop:=CmdP t.C∧g1p m t.A
abbrev f8n (t:Turn):Prop:=TurnQ 33 t
theorem TurnQ.w {t:Turn} (h:f8n t):t.w≤53:=by
 have h1:=h.1.2.2.2.2.1;have h2:=h.2.2.2.1;have h3:t.w=t.C.Vals.length+t.A.Vals.length:=rfl;omega
theorem f8o {α:Type} (w:α→Nat) (m:Nat):∀ (l:List α),(∀ x∈l,w x≤m)→wL w l≤l.length*(m+1)
 | [],_=>Nat.zero_le _
 | x :: l,h=>by
  rw [a1u];have h1:=h x List.mem_cons_self;have h2:=f8o w m l (fun y hy=>h y (List.mem_cons_of_mem _ hy));rw [List.length_cons,Nat.add_mul];omega
def LogQ (m:Nat) (l:List Turn):Prop:=l.length≤8∧∀ t∈l,TurnQ m t
abbrev g0q (l:List Turn):Prop:=LogQ 33 l
theorem LogQ.w {l:List Turn} (h:g0q l):wL Turn.w l≤432:=by
 have:=f8o Turn.w 53 l (fun t ht=>(h.2 t ht).w);have h1:=Nat.mul_le_mul_right 54 h.1;omega
theorem LogQ.set {l:List Turn} (h:g0q l) {i:Nat} {t:Turn} (ht:f8n t):g0q (l.set i t):=by
 refine ⟨by rw [List.length_set];exact h.1,fun x hx=>?_⟩;rcases List.mem_or_eq_of_mem_set hx with hx | rfl
 ·exact h.2 x hx
 ·exact ht
theorem a1s {R:Type} {e:Option Outs} {o:Outs} {F:Outs→Option R} {r:Option R} (t:e=some o) (h:F o=r):a0i e F=r:=by subst t;exact h
theorem a0p {R:Type} {c:Bool} {x y r:R} (t:c=true) (h:x=r):(bif c then x else y)=r:=by subst t;exact h
theorem a0l {R:Type} {c:Bool} {x y r:R} (t:c=false) (h:y=r):(bif c then x else y)=r:=by subst t;exact h
theorem a9t {α:Type} (enc:α→List T) (l:List α) (r:Option Outs) {b:(Int×List (List T)→Option Outs)→Int×List (List T)→Option Outs} (hl:l.length≤Big)
  (h:∀ (i:Nat) (hi:i<l.length) (w:List (List T)),w.length=i→∀ G,b G ((i:Int),w)=G (W64 ((i:Int)+1),w++[enc l[i]]))
  (he:∀ G,b G ((l.length:Int),l.map enc)=r) {j:Nat} (hj:Big<j):a2z b j (0,[])=r:=by
 have hB:Big=4294967296:=rfl;refine a7k (b:=b) l.length (fun i=>((i:Int),(l.take i).map enc)) (fun _=>r) (fun i hi G hG=>?_) (fun G=>?_) (by omega)
 ·rw [h i hi _ (by simp <;> omega),a2s (by omega)];rw [List.take_succ_eq_append_getElem hi,List.map_append] at hG;exact hG
 ·rw [List.take_length];exact he G
theorem g1q {m:Dsk} (h:m.w≤Big) {i:Nat} (hi:i<m.Secs.length):m.Secs[i].length≤Big:=by
 have:=a6q List.length hi;have e:m.w=wL List.length m.Secs+wL Wr.w m.Cache+m.Bad.length:=rfl;omega
theorem f8p {m:Dsk} (h:m.w≤Big) {i:Nat} (hi:i<m.Cache.length):m.Cache[i].S.length≤Big:=by
 have:=a6q Wr.w hi;have e:m.w=wL List.length m.Secs+wL Wr.w m.Cache+m.Bad.length:=rfl;have e2:Wr.w m.Cache[i]=m.Cache[i].S.length:=rfl;omega
theorem c1l (m:Dsk) (h:m.w≤Big):Rn 2 N.g2a [.v m.e] ⟨m.e,[]⟩:=by
 refine Rn.of fun k hk=>?_;have hB:Big=4294967296:=rfl;rw [d0i];unfold b3b b3a;have e0:m.w=wL List.length m.Secs+wL Wr.w m.Cache+m.Bad.length:=rfl;have e1:=a3t List.length m.Secs;have e2:=a3t Wr.w m.Cache;rw [a2j m.Bad (by omega) k (by omega),a0e];refine a9t (fun s=>[T.r (eIs s)]) m.Secs _ (by omega) (fun i hi w hw G=>?_) (fun G=>?_) (by omega)
 ·unfold a3w a7t;have hi0:i<Big:=by omega
  have hs:=g1q h hi;simp only [List.length_map,a1p _ hi,dlt hi,d0,Bool.and_self,a0q,cond_true,Int.toNat_natCast,B2_,T.g6u,T.g6x,T.g6v];rw [a2j _ hs k (by omega),a0e];simp only [Outs.g6t,B2_,T.g6u,T.g6x,T.g6v,a0q];rw [a0h (by simp [hw] <;> omega)];try rfl
 ·unfold a3w a7t;simp only [List.length_map,dll,cond_false];refine a9t Wr.e m.Cache _ (by omega) (fun i hi w hw G=>?_) (fun G=>?_) (by omega)
  ·unfold a3a;have hi0:i<Big:=by omega
   have hs:=f8p h hi;simp only [List.length_map,a1p _ hi,dlt hi,d0,Bool.and_self,a0q,cond_true,Int.toNat_natCast,B2_,T.g6u,T.g6x,T.g6v];rw [a2j _ hs k (by omega),a0e];simp only [Outs.g6t,B2_,T.g6u,T.g6x,T.g6v,a0q];rw [a0h (by simp [hw] <;> omega)];try rfl
  ·unfold a3a;simp only [List.length_map,dll,cond_false]
   try rfl
theorem e5p (l:List Dsk) (h:wL Dsk.w l≤Big):Rn 3 N.g4h [.v [.r (a4c l)]] ⟨[.r (a4c l)],[]⟩:=by
 refine Rn.of fun k hk=>?_;have hB:Big=4294967296:=rfl;rw [c8j];unfold b6j b1l;have e1:=a3t Dsk.w l;refine a9t Dsk.e l _ (by omega) (fun i hi w hw G=>?_) (fun G=>?_) (by omega)
 ·unfold a6w;have hi0:i<Big:=by omega
  have hs:=a6q Dsk.w hi;simp only [List.length_map,a1p _ hi,dlt hi,d0,Bool.and_self,a0q,cond_true,Int.toNat_natCast,B2_,T.g6u,T.g6x,T.g6v];rw [c1l l[i] (by omega) k (by omega),a0e];simp only [Outs.g6t,B2_,T.g6u,T.g6x,T.g6v,a0q];rw [a0h (by simp [hw] <;> omega)];try rfl
 ·unfold a6w;simp only [List.length_map,dll,cond_false]
  try rfl
theorem f8q {a:Arr} (h:a.w≤Big) {i:Nat} (hi:i<a.Dirty.length):a.Dirty[i].Data.length≤Big:=by
 have:=a6q Ent.w hi;have e:a.w=wL Dsk.w a.Mems+wL Ent.w a.Dirty:=rfl;have e2:Ent.w a.Dirty[i]=a.Dirty[i].Data.length:=rfl;omega
theorem c1m (a:Arr) (h:a.w≤Big):Rn 4 N.g2b [.v a.e] ⟨a.e,[]⟩:=by
 refine Rn.of fun k hk=>?_;have hB:Big=4294967296:=rfl;rw [d0m];unfold b8d b3e;have e0:a.w=wL Dsk.w a.Mems+wL Ent.w a.Dirty:=rfl;have e1:=a3t Dsk.w a.Mems;have e2:=a3t Ent.w a.Dirty;refine a9t Ent.e a.Dirty _ (by omega) (fun i hi w hw G=>?_) (fun G=>?_) (by omega)
 ·unfold a8a;have hi0:i<Big:=by omega
  have hs:=f8q h hi;simp only [List.length_map,a1p _ hi,dlt hi,d0,Bool.and_self,a0q,cond_true,Int.toNat_natCast,B2_,T.g6u,T.g6x,T.g6v];rw [a2j _ hs k (by omega),a0e];simp only [Outs.g6t,B2_,T.g6u,T.g6x,T.g6v,a0q];rw [a0h (by simp [hw] <;> omega)];try rfl
 ·unfold a8a;simp only [List.length_map,dll,cond_false];rw [e5p a.Mems (by omega) k (by omega),a0e];rfl
theorem g0r {x:Eng} (h:x.w≤Big) {i:Nat} (hi:i<x.Wait.length):x.Wait[i].w≤Big:=by
 have:=a6q Cmd.w hi;have e:x.w=x.A.w+wL Cmd.w x.Wait+wL Job.w x.Jobs+wL Ans.w x.Done+wL Turn.w x.Log:=rfl;omega
theorem g0s {x:Eng} (h:x.w≤Big) {i:Nat} (hi:i<x.Done.length):x.Done[i].w≤Big:=by
 have:=a6q Ans.w hi;have e:x.w=x.A.w+wL Cmd.w x.Wait+wL Job.w x.Jobs+wL Ans.w x.Done+wL Turn.w x.Log:=rfl;omega
theorem g1r {x:Eng} (h:x.w≤Big) {i:Nat} (hi:i<x.Log.length):x.Log[i].C.w≤Big∧x.Log[i].A.w≤Big:=by
 have:=a6q Turn.w hi;have e:x.w=x.A.w+wL Cmd.w x.Wait+wL Job.w x.Jobs+wL Ans.w x.Done+wL Turn.w x.Log:=rfl;have e2:Turn.w x.Log[i]=x.Log[i].C.w+x.Log[i].A.w:=rfl;omega
theorem f8r {x:Eng} (h:x.w≤Big) {i:Nat} (hi:i<x.Jobs.length):x.Jobs[i].C.w≤Big∧x.Jobs[i].Got.length≤Big:=by
 have:=a6q Job.w hi;have e:x.w=x.A.w+wL Cmd.w x.Wait+wL Job.w x.Jobs+wL Ans.w x.Done+wL Turn.w x.Log:=rfl;have e2:Job.w x.Jobs[i]=x.Jobs[i].C.w+x.Jobs[i].Got.length:=rfl;omega
theorem b7d (x:Eng) (h:x.w≤Big):Rn 5 N.g1x [.v x.e] ⟨x.e,[]⟩:=by
 refine Rn.of fun k hk=>?_;have hB:Big=4294967296:=rfl;rw [d0p];unfold b3g b3f;have e0:x.w=x.A.w+wL Cmd.w x.Wait+wL Job.w x.Jobs+wL Ans.w x.Done+wL Turn.w x.Log:=rfl;have e1:=a3t Cmd.w x.Wait;have e2:=a3t Job.w x.Jobs;have e3:=a3t Ans.w x.Done;have e4:=a3t Turn.w x.Log;rw [c1m x.A (by omega) k (by omega),a0e];refine a9t Cmd.e x.Wait _ (by omega) (fun i hi w hw G=>?_) (fun G=>?_) (by omega)
 ·unfold a3z a8d;have hi0:i<Big:=by omega
  have hs:=g0r h hi;simp only [List.length_map,a1p _ hi,dlt hi,d0,Bool.and_self,a0q,cond_true,Int.toNat_natCast,B2_,T.g6u,T.g6x,T.g6v];rw [b7c x.Wait[i] hs k (by omega),a0e];simp only [Outs.g6t,B2_,T.g6u,T.g6x,T.g6v,a0q];rw [a0h (by simp [hw] <;> omega)];try rfl
 ·unfold a3z a8d;simp only [List.length_map,dll,cond_false];refine a9t Job.e x.Jobs _ (by omega) (fun i hi w hw G=>?_) (fun G=>?_) (by omega)
  ·unfold a3y a8c;have hi0:i<Big:=by omega
   have hs:=f8r h hi;obtain ⟨hs1,hs2⟩:=hs;have hs:x.Jobs[i].C.w≤Big∧x.Jobs[i].Got.length≤Big:=⟨hs1,hs2⟩;simp only [List.length_map,a1p _ hi,dlt hi,d0,Bool.and_self,a0q,cond_true,Int.toNat_natCast,B2_,T.g6u,T.g6x,T.g6v];rw [b7c x.Jobs[i].C hs.1 k (by omega),a0e];simp only [Outs.g6t,B2_,T.g6u,T.g6x,T.g6v,a0q];rw [a2j _ hs.2 k (by omega),a0e];simp only [Outs.g6t,B2_,T.g6u,T.g6x,T.g6v,a0q];rw [a0h (by simp [hw] <;> omega)];try rfl
  ·unfold a3y a8c;simp only [List.length_map,dll,cond_false];refine a9t Ans.e x.Done _ (by omega) (fun i hi w hw G=>?_) (fun G=>?_) (by omega)
   ·unfold a3x a8b;have hi0:i<Big:=by omega
    have hs:=g0s h hi;simp only [List.length_map,a1p _ hi,dlt hi,d0,Bool.and_self,a0q,cond_true,Int.toNat_natCast,B2_,T.g6u,T.g6x,T.g6v];rw [c9s x.Done[i] hs k (by omega),a0e];simp only [Outs.g6t,B2_,T.g6u,T.g6x,T.g6v,a0q];rw [a0h (by simp [hw] <;> omega)];try rfl
   ·unfold a3x a8b;simp only [List.length_map,dll,cond_false];refine a9t Turn.e x.Log _ (by omega) (fun i hi w hw G=>?_) (fun G=>?_) (by omega)
    ·unfold a3d;have hi0:i<Big:=by omega
     have hs:=g1r h hi;simp only [List.length_map,a1p _ hi,dlt hi,d0,Bool.and_self,a0q,cond_true,Int.toNat_natCast,B2_,T.g6u,T.g6x,T.g6v];rw [b7c x.Log[i].C hs.1 k (by omega),a0e];simp only [Outs.g6t,B2_,T.g6u,T.g6x,T.g6v,a0q];rw [c9s x.Log[i].A hs.2 k (by omega),a0e];simp only [Outs.g6t,B2_,T.g6u,T.g6x,T.g6v,a0q];rw [a0h (by simp [hw] <;> omega)];try rfl
    ·unfold a3d;simp only [List.length_map,dll,cond_false]
     try rfl
def b7e (x:Eng) (c:Cmd):Eng×Bool:=bif a9r x&&decide (x.Wait.length<8) then ({ x with Wait:=x.Wait++[c] },true) else (x,false)
theorem e3q (x:Eng) (c:Cmd) (h:x.w≤2147483648) (hc:c.w≤Big) (hf:inI x.A.Seq∧inI x.A.Tail):Rn 10 N.g3n [.v x.e,.v c.e] ⟨(b7e x c).1.e++[.b (b7e x c).2],[]⟩:=by
 refine Rn.of fun k hk=>?_;have hB:Big=4294967296:=rfl;have e0:x.w=x.A.w+wL Cmd.w x.Wait+wL Job.w x.Jobs+wL Ans.w x.Done+wL Turn.w x.Log:=rfl;have e1:=a3t Cmd.w x.Wait;rw [d5h];unfold c0s;refine a1s (b7d x (by omega) k (by omega)) ?_;refine a1s (d6c x (by omega) hf k (by omega)) ?_;rw [List.length_map];show (bif !(a9r x) then _ else _)=_;unfold b7e;cases ho:a9r x
 ·rfl
 show a9j _ _ _ _ _ _ _ _=_;unfold a9j;by_cases h8:x.Wait.length=8
 ·rw [h8];rfl
 rw [show ((x.Wait.length:Int) == 8)=false by simp;omega,cond_false];refine a1s (b7c c hc k (by omega)) ?_;by_cases hlt:x.Wait.length<8
 ·rw [a0h (by simp <;> omega),decide_eq_true hlt];simp only [Eng.e,Bool.true_and,cond_true,c1h,List.map_append];rfl
 ·exfalso
  unfold a9r few at ho;simp at ho;omega
theorem e3r (x:Eng) (c:Cmd):(b7e x c).1.w≤x.w+c.w+1:=by
 unfold b7e;cases a9r x&&decide (x.Wait.length<8)
 ·exact Nat.le_trans (Nat.le_add_right _ _) (Nat.le_add_right _ _)
 ·show x.A.w+wL Cmd.w (x.Wait++[c])+wL Job.w x.Jobs+wL Ans.w x.Done+wL Turn.w x.Log≤x.A.w+wL Cmd.w x.Wait+wL Job.w x.Jobs+wL Ans.w x.Done+wL Turn.w x.Log+c.w+1;rw [a5t,a1u,b6z];omega
def del {α:Type} (l:List α) (n:Nat):List α:=l.take n++l.drop (n+1)
theorem d6h {α β:Type} (f:α→β) (l:List α) (n:Nat):(del l n).map f=(l.map f).take n++(l.map f).drop (n+1):=by simp [del,List.map_take,List.map_drop]
theorem e9v {α:Type} (f:α→Nat):∀ (l:List α) (n:Nat),wL f (del l n)≤wL f l:=fun l n=>by
 have h:∀ a b:List α,wL f (a++b)=wL f a+wL f b:=fun a b=>by induction a with
  | nil=>simp [wL]
  | cons x a ih=>simp only [List.cons_append,wL] at ih ⊢;simp at ih ⊢;omega
 have h1:=h (l.take n) (l.drop n);rw [List.take_append_drop] at h1;have h2:wL f (l.drop (n+1))≤wL f (l.drop n):=by
  have h3:l.drop n=(l.drop n).take 1++l.drop (n+1):=by rw [← List.drop_drop,List.take_append_drop]
  have:=h ((l.drop n).take 1) (l.drop (n+1));rw [← h3] at this;omega
 unfold del;rw [h];omega
theorem a5w {l n:Nat} (h:n<l) (hl:l≤4294967296):a9u l (n:Int) (W64 ((n:Int)+1))=true:=by
 rw [a0g (by omega) (by omega)];unfold a9u;rw [decide_eq_true (show (0:Int)≤n by omega),decide_eq_true (show (n:Int)<n+1 by omega),decide_eq_true (show (n:Int)+1≤l by omega)];rfl
theorem f6l {l:List (List T)} {n:Nat} (h:n<l.length) (hl:l.length≤4294967296):l.take (n:Int).toNat++l.drop (W64 ((n:Int)+1)).toNat=del l n:=by
 rw [a0g (by omega) (by omega),Int.toNat_natCast,show ((n:Int)+1).toNat=n+1 by omega];rfl
theorem f8s {l:List (List T)} {n:Nat} (h:n<l.length) (hl:l.length≤4294967296):(([]:List (List T))++((l.drop (0:Int).toNat).take ((n:Int).toNat - (0:Int).toNat)))++((l.drop (W64 ((n:Int)+1)).toNat).take ((l.length:Int).toNat - (W64 ((n:Int)+1)).toNat))=del l n:=by
 rw [a0g (by omega) (by omega),Int.toNat_natCast,show ((n:Int)+1).toNat=n+1 by omega];unfold del;simp;rw [List.take_of_length_le (by simp)]
theorem f8t {l:List (List T)} {n:Nat} (h:n<l.length) (hl:l.length≤4294967296):(l.drop (0:Int).toNat).take (n - (0:Int).toNat)++(l.drop (W64 ((n:Int)+1)).toNat).take (l.length - (W64 ((n:Int)+1)).toNat)=del l n:=by
 have:=f8s h hl;simpa only [List.nil_append,Int.toNat_natCast] using this
theorem d9h (l:List Cmd) (n:Nat):c1h (del l n)=del (c1h l) n:=d6h Cmd.e l n
def answer (y:Eng) (c:Cmd) (a:Ans):Eng:={ y with Done:=y.Done++[a],Log:=y.Log++[⟨c,a⟩] }
theorem a9m (y:Eng) (c:Cmd) (a:Ans) (hy:y.w≤2147483648) (hc:c.w≤Big) (ha:a.w≤Big):Rn 3 N.g1v [.p y.e,.v c.e,.v a.e] ⟨[],[(answer y c a).e]⟩:=by
 refine Rn.of fun k hk=>?_;have hB:Big=4294967296:=rfl;obtain ⟨l1,l2,l3,l4,hA⟩:=a4l y (show y.w≤Big by omega);rw [c2w];unfold b4c;refine (a0h (by simp;omega) _).trans ?_;refine a1s (b7c c hc k (by omega)) (a1s (c9s a ha k (by omega)) ((a0h (by simp;omega) _).trans ?_));unfold answer;have hp:a4f (c5j y.Done++[a.e]) ((c5j y.Done).length+0) 2 [.r (eIs a.Vals)]=c5j (y.Done++[a]):=by
  rw [Nat.add_zero,e9u,c5j,c5j,List.map_append];rfl
 have hl:a6p (y.Log++[⟨c,a⟩])=a6p y.Log++[(⟨c,a⟩:Turn).e]:=by rw [a6p,a6p,List.map_append];rfl
 show some (⟨_,[[_,_,_,_,_,_,_,_,_,_,_,_,_,_,_,.r (a4f (c5j y.Done++[a.e]) ((c5j y.Done).length+0) 2 [.r (eIs a.Vals)]),.r (a6p y.Log++[(⟨c,a⟩:Turn).e])]]⟩:Outs)=_;rw [hp,← hl]
def c3b (x:Eng) (n:Nat):Eng:=
 bif a1m x.A.G (b5t x n) == 0 then { x with Wait:=del x.Wait n,Jobs:=x.Jobs++[⟨b5t x n,0,[],0⟩] }
 else answer { x with Wait:=del x.Wait n } (b5t x n) ⟨(b5t x n).Id,a1m x.A.G (b5t x n),[]⟩
def c1n (x:Eng) (q:Int):Eng×Bool:=bif a9l x q then (c3b x q.toNat,true) else (x,false)
theorem c9t {x:Eng} {q:Int} (h:a9l x q=true):∃ n:Nat,q=(n:Int)∧n<x.Wait.length:=by
 unfold a9l at h;obtain ⟨_,h1⟩:=a0a h;obtain ⟨hw,_⟩:=a0a h1;have:=a0r hw;exact ⟨q.toNat,by omega,by omega⟩
theorem f8u (x:Eng) (n:Nat):({ x with Wait:=del x.Wait n }:Eng).w≤x.w:=by
 have h1:=e9v Cmd.w x.Wait n;show x.A.w+wL Cmd.w (del x.Wait n)+wL Job.w x.Jobs+wL Ans.w x.Done+wL Turn.w x.Log≤x.A.w+wL Cmd.w x.Wait+wL Job.w x.Jobs+wL Ans.w x.Done+wL Turn.w x.Log;omega
theorem f6m (x:Eng) (q:Int) (h:x.w≤2147483648) (hf:inI x.A.Seq∧inI x.A.Tail):Rn 11 N.g5d [.v x.e,.v [.i q]] ⟨(c1n x q).1.e++[.b (c1n x q).2],[]⟩:=by
 refine Rn.of fun k hk=>?_;have hB:Big=4294967296:=rfl;obtain ⟨l1,l2,l3,l4,hA⟩:=a4l x (show x.w≤Big by omega);rw [d8s];unfold c4f;refine a1s (b7d x (by omega) k (by omega)) ?_;refine a1s (d2j x (by omega) hf q k (by omega)) ?_;unfold c1n;cases hc:a9l x q
 ·rfl
 obtain ⟨n,rfl,hn⟩:=c9t hc;have hn':n<(c1h x.Wait).length:=by rw [List.length_map];exact hn
 have hl':(c1h x.Wait).length≤4294967296:=by rw [List.length_map];omega
 have hd:=f6l (l:=c1h x.Wait) hn' hl';have hin:=a5w hn' hl';have hw1:W64 ((n:Int)+1)=(n:Int)+1:=a0g (by omega) (by omega);have hwt:b5t x n=x.Wait[n]:=a2b hn _;rw [Int.toNat_natCast] at hd;refine a0l rfl ?_;simp only [Outs.g6t,Eng.e,Arr.e,Geo.e,List.cons_append,List.nil_append,List.append_assoc,B2_,T.g6u,T.g6v,T.g6x,a1p _ hn,Int.toNat_natCast,hd,hin,a0q,cond_true];refine (a0h (by simp;omega) _).trans ((a0h (by rw [hw1];simp <;> omega) _).trans ?_);refine a1s (c1i x.A.G x.Wait[n] (d9a x hn (by omega)) k (by omega)) ?_;unfold c3b;rw [hwt];cases h0:(a1m x.A.G x.Wait[n] == 0)
 ·refine a0l h0 ?_;rw [← d9h];refine a1s (a9m { x with Wait:=del x.Wait n } x.Wait[n] ⟨x.Wait[n].Id,a1m x.A.G x.Wait[n],[]⟩ (by have:=f8u x n;omega) (d9a x hn (by omega)) (Nat.zero_le _) k (by omega)) ?_;rfl
 ·refine a0p h0 ?_;refine (a0h (by simp;omega) _).trans ?_;rw [← d9h];have hj:a0t (x.Jobs++[⟨x.Wait[n],0,[],0⟩])=a0t x.Jobs++[(⟨x.Wait[n],0,[],0⟩:Job).e]:=by rw [a0t,a0t,List.map_append];rfl
  simp only [Eng.e,cond_true,hj];rfl
def without (n:Int) (l:List Int):List Int:=l.filter fun x=>!(x == n)
theorem e1u (n:Int) (l:List Int):(without n l).length≤l.length:=List.length_filter_le _ _
theorem f2q (l:List Int) (h:l.length≤Big) (n:Int):Rn 3 N.g4d [.v [.r (eIs l)],.c N.g1y (some [.i n])] ⟨[.i (a3g (fun x=>x == n) 0 l)],[[.i n]]⟩:=by
 refine Rn.of fun k hk=>?_;have hB:Big=4294967296:=rfl;rw [b1z];unfold a6f a3j;refine (a7k (R:=Outs) l.length (fun i=>((i:Int),n)) (fun i=>some ⟨[.i (a3g (fun x=>x == n) i (l.drop i))],[[.i n]]⟩) (fun i hi G hG=>?_) (fun G=>?_) (by unfold Big at hk;omega)).trans rfl
 ·unfold a1v;simp only [List.length_map,a1p _ hi,dlt hi,d0,Bool.and_self,a0q,cond_true,Int.toNat_natCast,B2_,T.g6u,T.g6x];obtain ⟨k',rfl⟩:∃ m,k=m+1:=⟨k - 1,by unfold Big at hk;omega⟩;rw [b3w];unfold a8w;rw [a0e,a2s (by omega)];show (bif l[i] == n then some ⟨[.i (i:Int)],[[.i n]]⟩ else G (((i+1:Nat):Int),n))=_;rw [hG,List.drop_eq_getElem_cons hi,a3g];cases l[i] == n <;> rfl
 ·unfold a1v;simp only [List.length_map,dll,cond_false];simp [a3g]
theorem c4j {α:Type} (p:α→Bool):∀ (l:List α) (i:Nat),(a3g p i l = -1∧l.filter (fun x=>!p x)=l)∨∃ (A:List α) (x:α) (B:List α),l=A++x :: B∧a3g p i l=((i+A.length:Nat):Int)∧A.filter (fun x=>!p x)=A∧p x=true
 | [],i=>.inl ⟨rfl,rfl⟩
 | y :: l,i=>by
  unfold a3g;cases hp:p y with
  | true=>exact .inr ⟨[],y,l,rfl,by simp,rfl,hp⟩
  | false=>
   rcases c4j p l (i+1) with ⟨h1,h2⟩ | ⟨A,x,B,h1,h2,h3,h4⟩
   ·exact .inl ⟨h1,by rw [List.filter_cons,hp];simp [h2]⟩
   ·exact .inr ⟨y :: A,x,B,by rw [h1];rfl,by rw [cond_false,h2];simp;omega,by rw [List.filter_cons,hp];simp [h3],h4⟩
theorem d9i {l zs:List (List T)} {i:Nat} (h:i+zs.length=l.length):(a2o l i zs).take i=l.take i∧(a2o l i zs).length=l.length:=by
 unfold a2o;have h1:(l.take i).length=i:=by simp;omega
 refine ⟨by rw [List.take_append_of_le_length (by omega),List.take_take,Nat.min_self],by simp;omega⟩
theorem e3s (k n:Nat) (x:Int) (hk:Big+2≤k):∀ (R:List Int) (F M:List Int) (j:Nat),0<M.length→F.length+M.length+R.length≤Big→R.length<j→
  a2z (a0u k) j ((F.length:Int),((F.length+M.length:Nat):Int),eIs (F++M++R),x)=some ⟨[.r (eIs (F++without x R))],[[.i x]]⟩
 | [],F,M,j,hM,hl,hj=>by
  have hB:Big=4294967296:=rfl;obtain ⟨j,rfl⟩:∃ q,j=q+1:=⟨j - 1,by omega⟩;have hlen:(eIs (F++M++[])).length=F.length+M.length:=by simp
  unfold a2z a0u;simp only [hlen];rw [decide_eq_false (by omega),cond_false];rw [a0h (by simp;omega)];obtain ⟨o1,o2⟩:=d9i (l:=eIs (F++M++[])) (i:=F.length) (zs:=List.replicate (((F.length+M.length:Nat):Int).toNat - (F.length:Int).toNat) [.i 0]) (by rw [hlen,List.length_replicate];omega);simp only [Int.toNat_natCast] at o1 o2 ⊢;rw [a0h (by simp only [Int.toNat_natCast,o2,hlen];simp;omega),a0h (by simp only [Int.toNat_natCast,o2,hlen];simp;omega)];simp only [Int.toNat_zero,Nat.sub_zero,o1];have:(eIs (F++M++[])).take F.length=eIs (F++without x []):=by simp [without]
  rw [this]
 | y :: R,F,M,j,hM,hl,hj=>by
  have hB:Big=4294967296:=rfl;simp only [List.length_cons] at hl hj;obtain ⟨j,rfl⟩:∃ q,j=q+1:=⟨j - 1,by omega⟩;obtain ⟨k',rfl⟩:∃ m,k=m+1:=⟨k - 1,by omega⟩;have hlen:(eIs (F++M++y :: R)).length=F.length+M.length+(R.length+1):=by simp;omega
  have hat:at_ (eIs (F++M++y :: R)) (F.length+M.length) 0=.i y:=by
   have h1:F.length+M.length<(F++M++y :: R).length:=by simp
   rw [a1p _ h1];simp [List.getElem_append_right]
  have ih1:=fun F' M'=>e3s (k'+1) n x hk R F' M' j;rw [a2z];generalize a2z (a0u (k'+1)) j=G at *;unfold a0u;simp only [hlen,Int.toNat_natCast,hat,T.g6u];rw [decide_eq_true (by omega),cond_true,a0h (by simp;omega)];rw [b3w];unfold a8w;rw [a0e];show (bif !(y == x) then chk _ (G (W64 ((F.length:Int)+1),W64 (((F.length+M.length:Nat):Int)+1),a4f (eIs (F++M++y :: R)) F.length 0 [.i y],x)) else G ((F.length:Int),W64 (((F.length+M.length:Nat):Int)+1),eIs (F++M++y :: R),x))=_;rw [show W64 (((F.length+M.length:Nat):Int)+1)=((F.length+M.length+1:Nat):Int) by rw [a0g (by omega) (by omega)];omega];cases hy:(y == x)
  ·rw [Bool.not_false,cond_true,a0h (by simp;omega)];rw [show W64 ((F.length:Int)+1)=((F.length+1:Nat):Int) by rw [a0g (by omega) (by omega)];omega];obtain ⟨m,M',rfl⟩:∃ m M',M=m :: M':=by
    cases M with
    | nil=>simp at hM
    | cons m M'=>exact ⟨m,M',rfl⟩
   have hput:a4f (eIs (F++(m :: M')++y :: R)) F.length 0 [.i y]=eIs ((F++[y])++(M'++[y])++R):=by
    have e1:eIs (F++(m :: M')++y :: R)=eIs F++[.i m] :: eIs (M'++y :: R):=by simp
    rw [e1,show F.length=(eIs F).length by simp,e9u];simp [a1q]
   rw [hput];have:=ih1 (F++[y]) (M'++[y]) (by simp) (by simp at hl ⊢;omega) (by omega);simp only [List.length_append,List.length_cons,List.length_nil] at this ⊢;rw [show F.length+(0+1)+(M'.length+(0+1))=F.length+(M'.length+1)+1 by omega,show F.length+(0+1)=F.length+1 by omega] at this;rw [this];simp [without,hy]
  ·rw [Bool.not_true,cond_false];have:=ih1 F (M++[y]) (by simp) (by simp;omega) (by omega);simp only [List.length_append,List.length_cons,List.length_nil] at this;rw [show F++(M++[y])++R=F++M++y :: R by simp] at this;rw [show F.length+(M.length+(0+1))=F.length+M.length+1 by omega] at this;rw [this];simp [without,hy]
theorem e9w (l:List Int) (h:l.length≤Big) (n:Int):Rn 4 N.g4e [.v [.r (eIs l)],.c N.g1y (some [.i n])] ⟨[.r (eIs (without n l))],[[.i n]]⟩:=by
 refine Rn.of fun k hk=>?_;have hB:Big=4294967296:=rfl;rw [b1k];unfold a5j a3b;refine a1s (f2q l h n k (by omega)) ?_;rcases c4j (fun x=>x == n) l 0 with ⟨h1,h2⟩ | ⟨A,x,B,h1,h2,h3,h4⟩
 ·rw [h1];refine a0p rfl ?_;unfold without;rw [h2];rfl
 ·rw [h2,Nat.zero_add];have hlen:l.length=A.length+(B.length+1):=by rw [h1];simp
  refine a0l (show (((A.length:Nat):Int) == -1)=false by simp) ?_;show a2z (a0u k) k (((A.length:Nat):Int),W64 (((A.length:Nat):Int)+1),eIs l,n)=_;have:=e3s k 0 n (by omega) B A [x] k (by simp) (by simp;omega) (by omega);simp only [List.length_cons,List.length_nil] at this;rw [a0g (by omega) (by omega),h1];rw [show A++[x]++B=A++x :: B by simp,show ((A.length+(0+1):Nat):Int)=(A.length:Int)+1 by omega] at this;rw [this];unfold without;rw [List.filter_append,List.filter_cons,h3,show (!(x == n))=false by simpa using h4];rfl
def a4n (m:Dsk) (n:Int) (s:List Int):Dsk×Bool:=
 bif b5s m&&(!m.Failed&&(a8r m n&&(c5k s&&decide (m.Cache.length<60)))) then ({ m with Cache:=m.Cache++[⟨n,s⟩],Bad:=without n m.Bad },true) else (m,false)
theorem e5q (m:Dsk) (n:Int) (s:List Int):(a4n m n s).1.w≤m.w+s.length+1:=by
 unfold a4n;cases b5s m&&(!m.Failed&&(a8r m n&&(c5k s&&decide (m.Cache.length<60))))
 ·show m.w≤_;omega
 ·have h1:=e1u n m.Bad;have e1:(⟨n,s⟩:Wr).w=s.length:=rfl;show wL List.length m.Secs+wL Wr.w (m.Cache++[⟨n,s⟩])+(without n m.Bad).length≤wL List.length m.Secs+wL Wr.w m.Cache+m.Bad.length+s.length+1;rw [a5t,a1u,b6z];omega
theorem e9x (m:Dsk) {W:Nat} (h:m.w≤W):m.Secs.length≤W∧m.Cache.length≤W∧m.Bad.length≤W:=by
 have hs:=a3t List.length m.Secs;have hc:=a3t Wr.w m.Cache;have e0:m.w=wL List.length m.Secs+wL Wr.w m.Cache+m.Bad.length:=rfl;omega
theorem c3c (m:Dsk) (n:Int) (s:List Int) (h:m.w≤2147483648) (hs:s.length≤Big):Rn 8 N.g2l [.v m.e,.v [.i n],.v [.r (eIs s)]] ⟨(a4n m n s).1.e++[.b (a4n m n s).2],[]⟩:=by
 refine Rn.of fun k hk=>?_;have hB:Big=4294967296:=rfl;obtain ⟨l1,l2,l3⟩:=e9x m h;rw [c8g];unfold b6h;refine a1s (c1l m (by omega) k (by omega)) ?_;refine a1s (d6b m (by omega) k (by omega)) ?_;unfold a4n;cases hm:b5s m
 ·rfl
 refine a0l rfl ?_;rcases Bool.eq_false_or_eq_true m.Failed with hf | hf
 ·refine a0p hf ?_;rw [hf];rfl
 refine a0l hf ?_;refine a1s (c5z m n (by omega) k (by omega)) ?_;cases hh:a8r m n
 ·rw [hf];rfl
 refine a0l rfl ?_;refine a1s (e1p s hs k (by omega)) ?_;cases ho:c5k s
 ·rw [hf];rfl
 refine a0l rfl ?_;have hc60:m.Cache.length≤60:=by
  unfold b5s at hm;simp only [Bool.and_eq_true,decide_eq_true_eq] at hm;exact hm.2.2.2.2
 unfold a3l;by_cases h60:m.Cache.length<60
 ·refine a0l (show (((List.map Wr.e m.Cache).length:Int) == 60)=false by simp;omega) ?_;refine a1s (a2j s hs k (by omega)) ?_;refine (a0h (by simp;omega) _).trans ?_;refine a1s (e9w m.Bad (by omega) n k (by omega)) ?_;rw [decide_eq_true h60];have e1:e5j (m.Cache++[⟨n,s⟩])=e5j m.Cache++[(⟨n,s⟩:Wr).e]:=by rw [e5j,e5j,List.map_append];rfl
  show some (⟨[.r (d0a m.Secs),.r (e5j m.Cache++[(⟨n,s⟩:Wr).e]),.b m.Failed,.r (eIs (without n m.Bad)),.b true],[]⟩:Outs)=_;rw [hf,← e1];rfl
 ·refine a0p (show (((List.map Wr.e m.Cache).length:Int) == 60)=true by simp;omega) ?_;rw [decide_eq_false h60];rw [hf];rfl
def b8p (s:List (List Int)) (l:List Wr):List (List Int):=l.foldl (fun s x=>s.set x.N.toNat x.S) s
def a7g (m:Dsk):Dsk:=bif b5s m&&!m.Failed then { m with Secs:=b8p m.Secs m.Cache,Cache:=[] } else m
theorem f6n (l:List (List Int)) (i:Nat) (s:List Int) (h:i<l.length):a4f (d0a l) i 0 [.r (eIs s)]=d0a (l.set i s):=by
 unfold a4f;have e:(d0a l).getD i []=[.r (eIs l[i])]:=by
  rw [List.getD_eq_getElem?_getD,List.getElem?_map,List.getElem?_eq_getElem h];rfl
 rw [e];show (d0a l).set i [.r (eIs s)]=_;rw [d0a,d0a,List.map_set]
theorem f2r (m:Dsk) (hm:b5s m=true) (hw:m.w≤Big) (r:List (List Int)→Option Outs) {b:(Int×List (List T)→Option Outs)→Int×List (List T)→Option Outs}
  (hb:∀ i (hi:i<m.Cache.length) s (G:Int×List (List T)→Option Outs),s.length=m.Secs.length→b G ((i:Int),d0a s)=G (((i+1:Nat):Int),d0a (s.set m.Cache[i].N.toNat m.Cache[i].S)))
  (he:∀ s (G:Int×List (List T)→Option Outs),b G ((m.Cache.length:Int),d0a s)=r s) {j:Nat} (hj:m.Cache.length<j):a2z b j (0,d0a m.Secs)=r (b8p m.Secs m.Cache):=by
 have key:∀ (R A:List Wr) (s:List (List Int)) (j:Nat),m.Cache=A++R→s.length=m.Secs.length→R.length<j→a2z b j ((A.length:Int),d0a s)=r (b8p s R):=by
  intro R
  induction R with
  | nil=>
   intro A s j hA hs hj;obtain ⟨j,rfl⟩:∃ q,j=q+1:=⟨j - 1,by omega⟩;rw [List.append_nil] at hA;rw [← hA];exact he s _
  | cons x R ih=>
   intro A s j hA hs hj;simp only [List.length_cons] at hj;obtain ⟨j,rfl⟩:∃ q,j=q+1:=⟨j - 1,by omega⟩;have hi:A.length<m.Cache.length:=by rw [hA];simp
   have hx:m.Cache[A.length]=x:=by simp [hA]
   have ih1:=ih (A++[x]) (s.set x.N.toNat x.S) j (by rw [hA];simp) (by rw [List.length_set];exact hs) (by omega);simp only [List.length_append,List.length_cons,List.length_nil] at ih1;rw [show A.length+(0+1)=A.length+1 by omega] at ih1;rw [a2z,hb A.length hi s _ hs,hx,ih1];rfl
 exact key m.Cache [] m.Secs j rfl rfl hj
theorem f2s {m:Dsk} (hm:b5s m=true) {i:Nat} (hi:i<m.Cache.length):0≤m.Cache[i].N∧m.Cache[i].N<m.Secs.length:=by
 unfold b5s at hm;simp only [Bool.and_eq_true,List.all_eq_true] at hm;have:=a0r (hm.2.1 _ (List.getElem_mem hi)).1;omega
theorem d2o (m:Dsk) (h:m.w≤Big):Rn 6 N.g2m [.v m.e] ⟨(a7g m).e,[]⟩:=by
 refine Rn.of fun k hk=>?_;have hB:Big=4294967296:=rfl;obtain ⟨l1,l2,l3⟩:=e9x m h;rw [c8h];unfold b6i a7y;refine a1s (c1l m h k (by omega)) ?_;refine a1s (d6b m h k (by omega)) ?_;unfold a7g;cases hm:b5s m
 ·rfl
 refine a0l rfl ?_;rcases Bool.eq_false_or_eq_true m.Failed with hf | hf
 ·refine a0p hf ?_;rw [hf];rfl
 refine a0l hf ?_;show a2z (a4r k (e5j m.Cache) ⟨m.e,[]⟩) k (0,d0a m.Secs)=_;refine (f2r m hm h (fun s=>some ⟨({ m with Secs:=s,Cache:=[] }:Dsk).e,[]⟩) (fun i hi s G hs=>?_) (fun s G=>?_) (by omega)).trans ?_
 ·obtain ⟨c1,c2⟩:=f2s hm hi;have hwi:m.Cache[i].S.length≤Big:=by
   have:=a6q Wr.w hi;have e0:m.w=wL List.length m.Secs+wL Wr.w m.Cache+m.Bad.length:=rfl;have e1:m.Cache[i].w=m.Cache[i].S.length:=rfl;omega
  unfold a4r;simp only [List.length_map,a1p _ hi,dlt hi,d0,Bool.and_self,a0q,cond_true,Int.toNat_natCast,B2_,T.g6u,T.g6x];refine a1s (a2j m.Cache[i].S hwi k (by omega)) ?_;refine (a0h (by simp;omega) _).trans ?_;rw [a2s (by omega)];show G (_,a4f (d0a s) m.Cache[i].N.toNat 0 [.r (eIs m.Cache[i].S)])=_;rw [f6n _ _ _ (by omega)]
 ·unfold a4r;simp only [List.length_map,dll,cond_false];rfl
 ·simp only [hf];rfl
def c4k (n:Int):Dsk:=bif a0f n 1 20 then ⟨List.replicate n.toNat [],[],false,[]⟩ else ⟨[],[],false,[]⟩
theorem f2t (n:Nat):d0a (List.replicate n [])=List.replicate n [.r []]:=by simp
theorem f2u (n:Int):Rn 2 N.g4c [.v [.i n]] ⟨(c4k n).e,[]⟩:=by
 refine Rn.of fun k hk=>?_;have hB:Big=4294967296:=rfl;rw [d4n];unfold c0i;refine a1s (a0v _ _ _ k (by omega)) ?_;unfold c4k;cases hw:a0f n 1 20
 ·rfl
 have:=a0r hw;refine a0l rfl ((a0h (by simp;omega) _).trans ?_);show some (⟨[.r (List.replicate n.toNat [.r []]),_,_,_],[]⟩:Outs)=_;rw [← f2t];rfl
def b1t (s:Super):Bool:=(a0f s.Id 1 60000&&(a0f s.Gen 0 60000&&a0f s.Tail 0 60000))&&(a5u ⟨s.N,s.S⟩&&(a0f s.Role 0 (s.N - 1)&&c1j ⟨s.N,s.S⟩ s.Lost s.Built))
def a4o (s:Super):List Int:=bif b1t s then [21317,s.Id,s.Gen,s.Role,s.N,s.S,s.Tail,s.Lost+1,s.Built] else []
theorem d9j (s:Super):Rn 4 N.g3j [.v s.e] ⟨[.b (b1t s)],[]⟩:=by
 refine Rn.of fun k hk=>?_;have hB:Big=4294967296:=rfl;rw [d0h];unfold b8b b1t;refine a1s (a0v _ _ _ k (by omega)) ?_;cases a0f s.Id 1 60000
 ·rfl
 refine a0p rfl (a1s (a0v _ _ _ k (by omega)) ?_);cases a0f s.Gen 0 60000
 ·rfl
 refine a0p rfl (a1s (a0v _ _ _ k (by omega)) ?_);cases a0f s.Tail 0 60000
 ·rfl
 unfold a7s;refine a0p rfl (a1s (c2y ⟨s.N,s.S⟩ k (by omega)) ?_);cases hg:a5u ⟨s.N,s.S⟩
 ·rfl
 have:=a1a hg;simp only at this;rw [a0g (n:=s.N - 1) (by omega) (by omega)];refine a0p rfl (a1s (a0v _ _ _ k (by omega)) ?_);cases a0f s.Role 0 (s.N - 1)
 ·rfl
 exact a0p rfl (a1s (e3k ⟨s.N,s.S⟩ hg s.Lost s.Built k (by omega)) rfl)
theorem d2p (s:Super) (hl:inI s.Lost):Rn 5 N.g3k [.v s.e] ⟨[.r (eIs (a4o s))],[]⟩:=by
 refine Rn.of fun k hk=>?_;rw [c8d];unfold b6e;refine a1s (d9j s k (by omega)) ?_;unfold a4o;cases ho:b1t s
 ·rfl
 have h1:a0f s.Lost (-1) (s.N - 1)=true∧a5u ⟨s.N,s.S⟩=true:=by
  unfold b1t c1j at ho;simp only [Bool.and_eq_true] at ho;exact ⟨ho.2.2.2.1,ho.2.1⟩
 have h2:=a0r h1.1;have h3:=a1a h1.2;simp only at h3;refine a0l rfl ?_;rw [a0g (n:=s.Lost+1) (by omega) (by omega)];rfl
theorem a7l (s:Super):c5k (a4o s)=true∧(a4o s).length≤9:=by
 unfold a4o;cases ho:b1t s
 ·exact ⟨rfl,Nat.zero_le _⟩
 ·unfold b1t c1j at ho;simp only [Bool.and_eq_true] at ho;obtain ⟨⟨a1,a2,a3⟩,a4,a5,a6,a7,a8⟩:=ho;have a1:=a0r a1;have a2:=a0r a2;have a3:=a0r a3;have a4:=a1a a4;have a5:=a0r a5;have a6:=a0r a6;have a7:=a0r a7;simp only at a4 a5 a6 a7;refine ⟨?_,by simp⟩;unfold c5k b4u c4h a0f;simp;omega
def b7p (m:Dsk) (s:Super):Dsk:=bif b1t s then (a4n m (Int.tmod s.Gen 2) (a4o s)).1 else m
theorem d9k (m:Dsk) (s:Super) (hl:inI s.Lost) (h:m.w≤2147483648):Rn 9 N.g4f [.v m.e,.v s.e] ⟨(b7p m s).e,[]⟩:=by
 refine Rn.of fun k hk=>?_;have hB:Big=4294967296:=rfl;rw [c2n];unfold b3x;refine a1s (d9j s k (by omega)) ?_;unfold b7p;cases ho:b1t s
 ·exact a0p rfl (a1s (c1l m (by omega) k (by omega)) rfl)
 refine a0l rfl (a1s (d2p s hl k (by omega)) ?_);have:=(a7l s).2;exact a1s (c3c m _ _ h (by omega) k (by omega)) rfl
def a4p (id:Int) (g:Geo) (m:Nat):Super:=⟨id,0,m,g.N,g.S,0,-1,0⟩
def b4w (id:Int) (g:Geo) (m:Nat):Nat→List (List Int)
 | 0=>(List.replicate (6+g.S).toNat []).set 0 (a4o (a4p id g m))
 | n+1=>(b4w id g m n).set (n+6) [0]
def b5n (id:Int) (g:Geo) (m:Nat):Dsk:=⟨b4w id g m g.S.toNat,[],false,[]⟩
def d9l (id:Int) (g:Geo):Arr:=bif a5u g&&a0f id 1 60000 then ⟨id,g,(List.range g.N.toNat).map (b5n id g),-1,0,0,0,0,[],-1,false,false⟩ else ⟨0,⟨0,0⟩,[],0,0,0,0,0,[],0,false,false⟩
theorem f2v (n:Nat) (h:n≤100):b1r (n:Int)=((n+6:Nat):Int):=by
 unfold b1r;rw [show a0f (n:Int) 0 1099511627776=true by unfold a0f;simp;omega,cond_true];omega
def stg (id:Int) (g:Geo) (m n:Nat):Dsk:=⟨List.replicate (6+g.S).toNat [],⟨0,a4o (a4p id g m)⟩ :: (List.range n).map (fun s=>⟨((s+6:Nat):Int),[0]⟩),false,[]⟩
theorem f4o {id:Int} {g:Geo} (hg:a5u g=true) {m n:Nat} (hn:(n:Int)≤g.S):b5s (stg id g m n)=true:=by
 obtain ⟨g1,g2,g3,g4⟩:=a1a hg;have hs:∀ q:Int,0≤q→q<6+g.S→a8r (stg id g m n) q=true:=fun q h0 h1=>by
  unfold a8r stg a0f;simp only [List.length_replicate];rw [decide_eq_true h0,decide_eq_true (by omega)];rfl
 unfold b5s;simp only [Bool.and_eq_true,List.all_eq_true,decide_eq_true_eq];refine ⟨fun x hx=>?_,fun x hx=>?_,?_,?_,?_⟩
 ·rw [List.eq_of_mem_replicate hx];rfl
 ·rcases List.mem_cons.1 hx with rfl | hx
  ·exact ⟨hs 0 (by omega) (by omega),(a7l _).1⟩
  ·obtain ⟨q,hq,rfl⟩:=List.mem_map.1 hx;have:=List.mem_range.1 hq;exact ⟨hs _ (by simp only;omega) (by simp only;omega),rfl⟩
 ·exact d6a.2 fun i hi=>by simp [stg] at hi
 ·unfold stg a0f;simp only [List.length_replicate];rw [decide_eq_true (by omega),decide_eq_true (by omega)];rfl
 ·simp [stg];omega
theorem f2w {id:Int} {g:Geo} (hg:a5u g=true) {m n:Nat} (hn:(n:Int)<g.S):a4n (stg id g m n) ((n+6:Nat):Int) [0]=(stg id g m (n+1),true):=by
 obtain ⟨g1,g2,g3,g4⟩:=a1a hg;unfold a4n;rw [f4o hg (by omega)];have h1:a8r (stg id g m n) ((n+6:Nat):Int)=true:=by
  unfold a8r stg a0f;simp only [List.length_replicate];rw [decide_eq_true (by omega),decide_eq_true (by omega)];rfl
 rw [h1,show decide ((stg id g m n).Cache.length<60)=true by simp [stg];omega];show (({ stg id g m n with Cache:=_,Bad:=_ }:Dsk),true)=_;unfold stg;simp [List.range_succ,without]
theorem e9y {id:Int} {g:Geo} {m:Nat}:∀ n:Nat,b8p (List.replicate (6+g.S).toNat []) (stg id g m n).Cache=b4w id g m n
 | 0=>rfl
 | n+1=>by
  have ih:=e9y (id:=id) (g:=g) (m:=m) n;have e:(stg id g m (n+1)).Cache=(stg id g m n).Cache++[⟨((n+6:Nat):Int),[0]⟩]:=by unfold stg;simp [List.range_succ]
  rw [e];unfold b8p at ih ⊢;rw [List.foldl_append,ih];show (b4w id g m n).set ((n+6:Nat):Int).toNat [0]=_;rw [Int.toNat_natCast];rfl
theorem e9z {id:Int} {g:Geo} (hg:a5u g=true) {m:Nat}:a7g (stg id g m g.S.toNat)=b5n id g m:=by
 obtain ⟨g1,g2,g3,g4⟩:=a1a hg;unfold a7g;rw [f4o hg (by omega)];show (⟨b8p (List.replicate (6+g.S).toNat []) (stg id g m g.S.toNat).Cache,[],false,[]⟩:Dsk)=_;rw [e9y];rfl
theorem f0a {id:Int} {g:Geo} (hg:a5u g=true) (hi:a0f id 1 60000=true) {m:Nat} (hm:(m:Int)<g.N):b7p (c4k (6+g.S)) (a4p id g m)=stg id g m 0:=by
 obtain ⟨g1,g2,g3,g4⟩:=a1a hg;have hs:b1t (a4p id g m)=true:=by
  unfold b1t a4p c1j;simp only [hi,show (⟨g.N,g.S⟩:Geo)=g from rfl,hg];unfold a0f;simp;omega
 have hmn:c4k (6+g.S)=⟨List.replicate (6+g.S).toNat [],[],false,[]⟩:=by
  unfold c4k;rw [show a0f (6+g.S) 1 20=true by unfold a0f;simp;omega];rfl
 have hok:b5s ⟨List.replicate (6+g.S).toNat [],[],false,[]⟩=true:=by
  unfold b5s;simp only [Bool.and_eq_true,List.all_eq_true,decide_eq_true_eq];refine ⟨fun x hx=>?_,fun x hx=>by simp at hx,d6a.2 fun i hi=>by simp at hi,?_,by simp⟩
  ·rw [List.eq_of_mem_replicate hx];rfl
  ·unfold a0f;simp only [List.length_replicate];rw [decide_eq_true (by omega),decide_eq_true (by omega)];rfl
 unfold b7p a4n;rw [hs,hmn,hok,(a7l _).1];have h0:a8r ⟨List.replicate (6+g.S).toNat [],[],false,[]⟩ (Int.tmod (a4p id g m).Gen 2)=true:=by
  show a8r _ (Int.tmod 0 2)=true;unfold a8r a0f;simp only [List.length_replicate];rw [show Int.tmod 0 2=0 from rfl,decide_eq_true (by omega),decide_eq_true (by omega)];rfl
 rw [h0];rfl
theorem f8v {id:Int} {g:Geo} (hg:a5u g=true) {m n:Nat} (hn:(n:Int)≤g.S):(stg id g m n).w≤100:=by
 obtain ⟨g1,g2,g3,g4⟩:=a1a hg;have h1:∀ q:Nat,wL List.length (List.replicate q ([]:List Int))=q:=fun q=>by
  induction q with
  | zero=>rfl
  | succ q ih=>rw [List.replicate_succ,a1u,ih,List.length_nil];omega
 have h2:∀ q:Nat,wL Wr.w ((List.range q).map (fun s=>(⟨((s+6:Nat):Int),[0]⟩:Wr)))=2*q:=fun q=>by
  induction q with
  | zero=>rfl
  | succ q ih=>
   rw [List.range_succ,List.map_append,a5t,ih];show 2*q+wL Wr.w [(⟨((q+6:Nat):Int),[0]⟩:Wr)]=_;rw [a1u,b6z];have:(⟨((q+6:Nat):Int),[0]⟩:Wr).w=1:=rfl;omega
 have h3:=(a7l (a4p id g m)).2;have h4:(⟨0,a4o (a4p id g m)⟩:Wr).w=(a4o (a4p id g m)).length:=rfl;show wL List.length (List.replicate (6+g.S).toNat ([]:List Int))+wL Wr.w ((⟨0,a4o (a4p id g m)⟩:Wr) :: (List.range n).map (fun s=>(⟨((s+6:Nat):Int),[0]⟩:Wr)))+0≤100;rw [h1,a1u,h2];omega
theorem f2x (id:Int) (g:Geo):Rn 11 N.g2n [.v [.i id],.v g.e] ⟨(d9l id g).e,[]⟩:=by
 refine Rn.of fun k hk=>?_;have hB:Big=4294967296:=rfl;rw [d4v];unfold b4p b4o;refine a1s (c2y g k (by omega)) ?_;unfold d9l;cases hg:a5u g
 ·rfl
 refine a0l rfl (a1s (a0v _ _ _ k (by omega)) ?_);cases hw:a0f id 1 60000
 ·rfl
 obtain ⟨g1,g2,g3,g4⟩:=a1a hg;have hi:=a0r hw;obtain ⟨nN,hN⟩:∃ n:Nat,g.N=(n:Int):=⟨g.N.toNat,by omega⟩;obtain ⟨nS,hS⟩:∃ n:Nat,g.S=(n:Int):=⟨g.S.toNat,by omega⟩;unfold b3d;refine a0l rfl ?_;refine (a7k (R:=Outs) nN (fun i=>((i:Int),a4c ((List.range i).map (b5n id g)))) (fun _=>some ⟨(⟨id,g,(List.range nN).map (b5n id g),-1,0,0,0,0,[],-1,false,false⟩:Arr).e,[]⟩) (fun i hi G hG=>?_) (fun G=>?_) (by omega)).trans (by rw [hN,Int.toNat_natCast];rfl)
 ·unfold a4v a9h;simp only [];rw [decide_eq_true (by omega),cond_true];have e1:Rn 2 N.g2w [.v g.e] ⟨[.i (6+g.S)],[]⟩:=by
   refine Rn.of fun k hk=>?_;rw [b7z];unfold b2z;rw [a0g (by omega) (by omega)]
  have e2:Rn 2 N.g2x [.v (⟨id,g,(List.range i).map (b5n id g),-1,0,0,0,0,[],-1,false,false⟩:Arr).e,.v [.i (i:Int)]] ⟨(a4p id g i).e,[]⟩:=by
   refine Rn.of fun k hk=>?_;rw [b8a];rfl
  have hmw:(c4k (6+g.S)).w≤100:=by
   unfold c4k;cases a0f (6+g.S) 1 20
   ·exact Nat.zero_le _
   ·have h1:∀ q:Nat,wL List.length (List.replicate q ([]:List Int))=q:=fun q=>by
     induction q with
     | zero=>rfl
     | succ q ih=>rw [List.replicate_succ,a1u,ih,List.length_nil];omega
    show wL List.length (List.replicate (6+g.S).toNat ([]:List Int))+0+0≤100;rw [h1];omega
  have e3:=d9k (c4k (6+g.S)) (a4p id g i) (by unfold inI a4p;simp only;omega) (by omega);rw [f0a hg hw (by omega)] at e3;refine a1s (e1 k (by omega)) (a1s (f2u (6+g.S) k (by omega)) (a1s (e2 k (by omega)) (a1s (e3 k (by omega)) ?_)));show a2z (a2t k id g.N g.S (i:Int) (a4c ((List.range i).map (b5n id g))) G) k (0,(stg id g i 0).Failed,d0a (stg id g i 0).Secs,e5j (stg id g i 0).Cache,eIs (stg id g i 0).Bad)=_;refine a7k (R:=Outs) nS (fun n=>((n:Int),(stg id g i n).Failed,d0a (stg id g i n).Secs,e5j (stg id g i n).Cache,eIs (stg id g i n).Bad)) (fun _=>some ⟨(⟨id,g,(List.range nN).map (b5n id g),-1,0,0,0,0,[],-1,false,false⟩:Arr).e,[]⟩) (fun n hn G2 hG2=>?_) (fun G2=>?_) (by omega)
  ·unfold a2t;simp only [];rw [decide_eq_true (by omega),cond_true];refine a1s (d6d n k (by omega)) ?_;have hww:=f8v (id:=id) (m:=i) hg (show (n:Int)≤g.S by omega);have e4:=c3c (stg id g i n) ((n+6:Nat):Int) [0] (by omega) (by simp;omega);rw [f2w hg (by omega)] at e4;rw [f2v n (by omega)];refine a1s (e4 k (by omega)) ?_;rw [a2s (by omega),← hG2];rfl
  ·unfold a2t;simp only [];rw [decide_eq_false (by omega),cond_false];have hww:=f8v (id:=id) (m:=i) hg (show (nS:Int)≤g.S by omega);have e5:=d2o (stg id g i nS) (by omega);have hfl:=e9z (id:=id) (m:=i) hg;rw [hS,Int.toNat_natCast] at hfl;rw [hfl] at e5;refine a1s (e5 k (by omega)) ((a0h (by simp;omega) _).trans ?_);rw [a2s (by omega),← hG,List.range_succ,List.map_append,a4c,a4c,List.map_append];rfl
 ·unfold a4v a9h;simp only [];rw [decide_eq_false (by omega),cond_false];rfl
def c4l (id:Int) (g:Geo):Eng:=⟨d9l id g,[],[],[],[]⟩
theorem f2y (id:Int) (g:Geo):Rn 12 N.g4g [.v [.i id],.v g.e] ⟨(c4l id g).e,[]⟩:=by
 refine Rn.of fun k hk=>?_;rw [d4w];unfold c0n;exact a1s (f2x id g k (by omega)) rfl
theorem f0b {id:Int} {g:Geo} (hg:a5u g=true) {m:Nat}:∀ n:Nat,wL List.length (b4w id g m n)≤100+n:=fun n=>by
 have hset:∀ (l:List (List Int)) (i:Nat) (s:List Int),wL List.length (l.set i s)≤wL List.length l+s.length:=fun l=>by
  induction l with
  | nil=>intro i s;simp [wL]
  | cons x l ih=>
   intro i s;cases i with
   | zero=>rw [List.set_cons_zero,a1u,a1u];omega
   | succ i=>rw [List.set_cons_succ,a1u,a1u];have:=ih i s;omega
 induction n with
 | zero=>
  obtain ⟨g1,g2,g3,g4⟩:=a1a hg;have h1:∀ q:Nat,wL List.length (List.replicate q ([]:List Int))=q:=fun q=>by
   induction q with
   | zero=>rfl
   | succ q ih=>rw [List.replicate_succ,a1u,ih,List.length_nil];omega
  unfold b4w;have:=hset (List.replicate (6+g.S).toNat []) 0 (a4o (a4p id g m));rw [h1] at this;have h3:=(a7l (a4p id g m)).2;omega
 | succ n ih=>
  unfold b4w;have:=hset (b4w id g m n) (n+6) [0];simp only [List.length_cons,List.length_nil] at this;omega
theorem f2z (id:Int) (g:Geo):(c4l id g).w≤1000:=by
 show (d9l id g).w+0+0+0+0≤1000;unfold d9l;cases hb:a5u g&&a0f id 1 60000
 ·exact Nat.zero_le _
 ·obtain ⟨hg,_⟩:=a0a hb;obtain ⟨g1,g2,g3,g4⟩:=a1a hg;have h1:∀ q:Nat,wL Dsk.w ((List.range q).map (b5n id g))≤120*q:=fun q=>by
   induction q with
   | zero=>exact Nat.zero_le _
   | succ q ih=>
    rw [List.range_succ,List.map_append,a5t];show wL Dsk.w ((List.range q).map (b5n id g))+wL Dsk.w [b5n id g q]≤_;rw [a1u,b6z];have h2:(b5n id g q).w=wL List.length (b4w id g q g.S.toNat)+0+0:=rfl;have h3:=f0b (id:=id) (m:=q) hg g.S.toNat;omega
  have:=h1 g.N.toNat;show wL Dsk.w ((List.range g.N.toNat).map (b5n id g))+0+0+0+0+0≤1000;omega
def op (a:Arr):Arr:=bif a.Down then a else bif a.Fuse == 0 then { a with Down:=true,Fuse:=-1 } else bif decide (a.Fuse > 0) then { a with Fuse:=a.Fuse - 1 } else a
def dsk (a:Arr) (m:Nat):Dsk:=a.Mems.getD m default
def f4p (a:Arr) (m:Nat) (d:Dsk):Arr:={ a with Mems:=a.Mems.set m d }
def put (a:Arr) (m:Nat) (n:Int) (s:List Int):Arr:=bif (dsk a m).Failed then a else bif (op a).Down then op a else f4p (op a) m (a4n (dsk a m) n s).1
def a5x (a:Arr) (m:Nat):Arr:=bif (dsk a m).Failed then a else bif (op a).Down then op a else f4p (op a) m (a7g (dsk a m))
def run (f:Arr→Nat→Arr):Nat→Nat→Arr→Arr
 | _,0,a=>a
 | i,n+1,a=>run f (i+1) n (f a i)
def b1u (a:Arr):Arr:=run a5x 0 a.Mems.length a
def b9f (a:Arr) (m:Nat):Super:=⟨a.Id,a.Gen,m,a.G.N,a.G.S,a.Tail,a.Lost,a.Built⟩
def a8s (a:Arr) (m:Nat):Arr:=put a m (Int.tmod a.Gen 2) (a4o (b9f a m))
def mark (a:Arr):Arr:=b1u (run a8s 0 a.Mems.length { a with Gen:=a.Gen+1 })
def a8n (a:Arr):Arr:=bif (b1u a).Down then b1u a else mark { b1u a with Tail:=(b1u a).Seq }
structure Keep (a b:Arr):Prop where
 id:b.Id=a.Id
 g:b.G=a.G
 n:b.Mems.length=a.Mems.length
 lost:b.Lost=a.Lost
 built:b.Built=a.Built
 seq:b.Seq=a.Seq
 tail:b.Tail=a.Tail
 gen:b.Gen=a.Gen
 dirty:b.Dirty=a.Dirty
 broken:b.Broken=a.Broken
theorem Keep.refl (a:Arr):Keep a a:=⟨rfl,rfl,rfl,rfl,rfl,rfl,rfl,rfl,rfl,rfl⟩
theorem Keep.trans {a b c:Arr} (h:Keep a b) (k:Keep b c):Keep a c:=
 ⟨k.id.trans h.id,k.g.trans h.g,k.n.trans h.n,k.lost.trans h.lost,k.built.trans h.built,k.seq.trans h.seq,k.tail.trans h.tail,k.gen.trans h.gen,k.dirty.trans h.dirty,k.broken.trans h.broken⟩
def Fz (a:Arr):Prop:=-1≤a.Fuse∧a.Fuse≤1000
theorem f0c {a:Arr} (h:a.Down=true):op a=a:=by unfold op;rw [h];rfl
theorem c6c (a:Arr):op a=a∨op a={ a with Down:=true,Fuse:=-1 }∨(0<a.Fuse∧op a={ a with Fuse:=a.Fuse - 1 }):=by
 unfold op;cases a.Down
 ·cases h0:(a.Fuse == 0)
  ·cases h1:decide (a.Fuse > 0)
   ·exact .inl rfl
   ·exact .inr (.inr ⟨of_decide_eq_true h1,rfl⟩)
  ·exact .inr (.inl rfl)
 ·exact .inl rfl
theorem d6i (a:Arr):Keep a (op a):=by
 rcases c6c a with h | h | ⟨_,h⟩ <;> rw [h] <;> exact ⟨rfl,rfl,rfl,rfl,rfl,rfl,rfl,rfl,rfl,rfl⟩
theorem e1v (a:Arr):(op a).Mems=a.Mems:=by
 rcases c6c a with h | h | ⟨_,h⟩ <;> rw [h]
theorem f3a {a:Arr} (hf:Fz a):Fz (op a):=by
 unfold Fz at *;rcases c6c a with h | h | ⟨h0,h⟩ <;> rw [h]
 ·exact hf
 ·exact ⟨Int.le_refl _,show (-1:Int)≤1000 by omega⟩
 ·exact ⟨show -1≤a.Fuse - 1 by omega,show a.Fuse - 1≤1000 by omega⟩
theorem g1h (a:Arr):(op a).w=a.w:=by
 rcases c6c a with h | h | ⟨_,h⟩ <;> rw [h] <;> rfl
theorem e3t {α:Type} (w:α→Nat):∀ (l:List α) (i:Nat) (x:α) (h:i<l.length),wL w (l.set i x)+w l[i]=wL w l+w x
 | y :: l,0,x,h=>by rw [List.set_cons_zero,a1u,a1u];simp only [List.getElem_cons_zero];omega
 | y :: l,i+1,x,h=>by
  have:=e3t w l i x (by simpa using h);rw [List.set_cons_succ,a1u,a1u];simp only [List.getElem_cons_succ];omega
theorem e3u {a:Arr} {m:Nat} (h:m<a.Mems.length):dsk a m=a.Mems[m]:=a2b h _
theorem d9m (a:Arr) (m:Nat) (d:Dsk):Keep a (f4p a m d):=⟨rfl,rfl,List.length_set,rfl,rfl,rfl,rfl,rfl,rfl,rfl⟩
theorem f4q (a:Arr) (m:Nat) (d:Dsk) {c:Nat} (h:d.w≤(dsk a m).w+c):(f4p a m d).w≤a.w+c:=by
 show wL Dsk.w (a.Mems.set m d)+wL Ent.w a.Dirty≤wL Dsk.w a.Mems+wL Ent.w a.Dirty+c;by_cases hm:m<a.Mems.length
 ·have:=e3t Dsk.w a.Mems m d hm;rw [e3u hm] at h;omega
 ·rw [List.set_eq_of_length_le (by omega)];omega
theorem e3v:∀ (l:List Wr) (s:List (List Int)),wL List.length (b8p s l)≤wL List.length s+wL Wr.w l
 | [],s=>Nat.le_add_right _ _
 | x :: l,s=>by
  have h1:=e3v l (s.set x.N.toNat x.S);have e:b8p s (x :: l)=b8p (s.set x.N.toNat x.S) l:=rfl;rw [e,a1u];have e1:x.w=x.S.length:=rfl;by_cases hi:x.N.toNat<s.length
  ·have:=e3t List.length s _ x.S hi;omega
  ·rw [List.set_eq_of_length_le (by omega)] at h1 ⊢;omega
theorem e5r (m:Dsk):(a7g m).w≤m.w:=by
 unfold a7g;cases b5s m&&!m.Failed
 ·exact Nat.le_refl _
 ·have:=e3v m.Cache m.Secs;show wL List.length (b8p m.Secs m.Cache)+wL Wr.w []+m.Bad.length≤wL List.length m.Secs+wL Wr.w m.Cache+m.Bad.length;rw [b6z];omega
theorem d6j {a:Arr} {m:Nat} {n:Int} {s:List Int} (h:a.Down=true):put a m n s=a:=by
 unfold put;rw [f0c h,h];cases (dsk a m).Failed <;> rfl
theorem c4m {a:Arr} {m:Nat} (h:a.Down=true):a5x a m=a:=by
 unfold a5x;rw [f0c h,h];cases (dsk a m).Failed <;> rfl
theorem c6d (a:Arr) (m:Nat) (n:Int) (s:List Int):Keep a (put a m n s):=by
 unfold put;cases (dsk a m).Failed
 ·cases (op a).Down
  ·exact (d6i a).trans (d9m _ _ _)
  ·exact d6i a
 ·exact Keep.refl a
theorem c4n (a:Arr) (m:Nat):Keep a (a5x a m):=by
 unfold a5x;cases (dsk a m).Failed
 ·cases (op a).Down
  ·exact (d6i a).trans (d9m _ _ _)
  ·exact d6i a
 ·exact Keep.refl a
theorem d9n {a:Arr} {m:Nat} {n:Int} {s:List Int} (h:Fz a):Fz (put a m n s):=by
 unfold put;cases (dsk a m).Failed
 ·cases (op a).Down
  ·exact f3a h
  ·exact f3a h
 ·exact h
theorem d2q {a:Arr} {m:Nat} (h:Fz a):Fz (a5x a m):=by
 unfold a5x;cases (dsk a m).Failed
 ·cases (op a).Down
  ·exact f3a h
  ·exact f3a h
 ·exact h
theorem e3w (a:Arr) (m:Nat):dsk (op a) m=dsk a m:=by unfold dsk;rw [e1v]
theorem f0d (a:Arr) (m:Nat) (n:Int) (s:List Int):(put a m n s).w≤a.w+(s.length+1):=by
 have ho:=g1h a;unfold put;cases (dsk a m).Failed
 ·cases (op a).Down
  ·have:=f4q (op a) m (a4n (dsk a m) n s).1 (c:=s.length+1) (by rw [e3w];exact e5q _ _ _);rw [ho] at this;exact this
  ·show (op a).w≤_;omega
 ·exact Nat.le_add_right _ _
theorem d9o (a:Arr) (m:Nat):(a5x a m).w≤a.w:=by
 have ho:=g1h a;unfold a5x;cases (dsk a m).Failed
 ·cases (op a).Down
  ·have:=f4q (op a) m (a7g (dsk a m)) (c:=0) (by rw [e3w];exact e5r _);rw [ho] at this;exact this
  ·show (op a).w≤_;omega
 ·exact Nat.le_refl _
theorem d6k {f:Arr→Nat→Arr} (hf:∀ a i,a.Down=true→f a i=a):∀ (n i:Nat) {a:Arr},a.Down=true→run f i n a=a
 | 0,_,_,_=>rfl
 | n+1,i,a,h=>by show run f (i+1) n (f a i)=a;rw [hf a i h];exact d6k hf n (i+1) h
theorem c1o {f:Arr→Nat→Arr} (hf:∀ a i,Keep a (f a i)):∀ (n i:Nat) (a:Arr),Keep a (run f i n a)
 | 0,_,a=>Keep.refl a
 | n+1,i,a=>(hf a i).trans (c1o hf n (i+1) (f a i))
theorem e3x {f:Arr→Nat→Arr} (hf:∀ a i,Fz a→Fz (f a i)):∀ (n i:Nat) {a:Arr},Fz a→Fz (run f i n a)
 | 0,_,_,h=>h
 | n+1,i,a,h=>e3x hf n (i+1) (hf a i h)
theorem f0e {f:Arr→Nat→Arr} {c:Nat} (hf:∀ a i,(f a i).w≤a.w+c):∀ (n i:Nat) (a:Arr),(run f i n a).w≤a.w+n*c
 | 0,_,a=>by simp [run]
 | n+1,i,a=>by
  have h1:=f0e hf n (i+1) (f a i);have h2:=hf a i;show (run f (i+1) n (f a i)).w≤_;rw [Nat.succ_mul];omega
theorem b4f (a:Arr):Keep a (b1u a):=c1o c4n _ _ _
theorem c9u {a:Arr} (h:Fz a):Fz (b1u a):=e3x (fun _ _=>d2q) _ _ h
theorem e3y (a:Arr):(b1u a).w≤a.w:=by
 have:=f0e (c:=0) (f:=a5x) (fun a i=>d9o a i) a.Mems.length 0 a;unfold b1u;omega
theorem d9p {a:Arr} (h:a.Down=true):b1u a=a:=d6k (fun _ _=>c4m) _ _ h
theorem c9v (a:Arr) (m:Nat):Keep a (a8s a m):=c6d _ _ _ _
theorem e3z (a:Arr) (m:Nat):(a8s a m).w≤a.w+10:=by
 have h1:=f0d a m (Int.tmod a.Gen 2) (a4o (b9f a m));have h2:=(a7l (b9f a m)).2;unfold a8s;omega
theorem d9q (a:Arr):Keep { a with Gen:=a.Gen+1 } (mark a):=(c1o c9v _ _ _).trans (b4f _)
theorem f6o {a:Arr} (h:Fz a):Fz (mark a):=c9u (e3x (fun _ _=>d9n) _ _ (show Fz { a with Gen:=a.Gen+1 } from h))
theorem f8w (a:Arr):(mark a).w≤a.w+a.Mems.length*10:=by
 have h1:=e3y (run a8s 0 a.Mems.length { a with Gen:=a.Gen+1 });have h2:=f0e (c:=10) e3z a.Mems.length 0 { a with Gen:=a.Gen+1 };have e:({ a with Gen:=a.Gen+1 }:Arr).w=a.w:=rfl;unfold mark;omega
theorem b1v (a:Arr):((b1u a).Down=true∧a8n a=b1u a)∨((b1u a).Down=false∧a8n a=mark { b1u a with Tail:=(b1u a).Seq }):=by
 unfold a8n;cases h:(b1u a).Down
 ·exact .inr ⟨rfl,rfl⟩
 ·exact .inl ⟨rfl,rfl⟩
theorem f3b {a:Arr} (h:Fz a):Fz (a8n a):=by
 rcases b1v a with ⟨_,e⟩ | ⟨_,e⟩ <;> rw [e]
 ·exact c9u h
 ·exact f6o (show Fz { b1u a with Tail:=(b1u a).Seq } from c9u h)
theorem f0f (a:Arr):(a8n a).w≤a.w+a.Mems.length*10:=by
 have h1:=e3y a;have hk:=b4f a;rcases b1v a with ⟨_,e⟩ | ⟨_,e⟩ <;> rw [e]
 ·omega
 ·have h2:=f8w { b1u a with Tail:=(b1u a).Seq };have e1:({ b1u a with Tail:=(b1u a).Seq }:Arr).w=(b1u a).w:=rfl;have e2:({ b1u a with Tail:=(b1u a).Seq }:Arr).Mems.length=a.Mems.length:=hk.n;rw [e1,e2] at h2;omega
structure Keep2 (a b:Arr):Prop where
 id:b.Id=a.Id
 g:b.G=a.G
 n:b.Mems.length=a.Mems.length
 lost:b.Lost=a.Lost
 built:b.Built=a.Built
 seq:b.Seq=a.Seq
 dirty:b.Dirty=a.Dirty
 broken:b.Broken=a.Broken
theorem Keep.k2 {a b:Arr} (h:Keep a b):Keep2 a b:=⟨h.id,h.g,h.n,h.lost,h.built,h.seq,h.dirty,h.broken⟩
theorem Keep2.refl (a:Arr):Keep2 a a:=(Keep.refl a).k2
theorem Keep2.trans {a b c:Arr} (h:Keep2 a b) (k:Keep2 b c):Keep2 a c:=
 ⟨k.id.trans h.id,k.g.trans h.g,k.n.trans h.n,k.lost.trans h.lost,k.built.trans h.built,k.seq.trans h.seq,k.dirty.trans h.dirty,k.broken.trans h.broken⟩
theorem d2r (a:Arr):Keep2 a (a8n a):=by
 have hk:=b4f a;rcases b1v a with ⟨_,e⟩ | ⟨_,e⟩ <;> rw [e]
 ·exact hk.k2
 ·have h2:=d9q { b1u a with Tail:=(b1u a).Seq };exact hk.k2.trans ⟨h2.id,h2.g,h2.n,h2.lost,h2.built,h2.seq,h2.dirty,h2.broken⟩
def d9r (r:Rec):Bool:=a0f r.Seq 0 60000&&(a0f r.Stripe 0 7&&(a0f (r.Data.length:Int) 2 4&&b4u r.Data))
def c4o (r:Rec):List Int:=bif d9r r then [21322,r.Seq,r.Stripe,(r.Data.length:Int)]++r.Data else []
def c3d (q:Int):Int:=bif decide (q<0) then -1 else 2+Int.tmod q 4
def b2a (r:Rec) (a:Arr) (m:Nat):Arr:=put a m (c3d r.Seq) (c4o r)
def b2u (a:Arr) (r:Rec):Arr:=b1u (run (b2a r) 0 a.Mems.length a)
def f7h (l:List Int):Int:=xN (f4n (fun i=>l.getD i 0) l.length)
def c3e (g:Geo) (s:Int) (data:List Int) (m:Nat):Int:=bif (m:Int) == a1r g s then f7h data else data.getD (((m:Int) - a1r g s - 1+g.N) % g.N).toNat 0
def a2h (s:Int) (data:List Int) (a:Arr) (m:Nat):Arr:=bif b7b a m s then put a m (b1r s) [c3e a.G s data m] else a
def a9n (a:Arr) (s:Int) (data:List Int):Arr:=run (a2h s data) 0 a.Mems.length a
def a1n (a:Arr):Arr:=bif decide (a.Seq - a.Tail≥4) then a8n a else a
def a3r (a:Arr) (s:Int) (data:List Int):Arr:=
 bif (a1n a).Down then a1n a else
 bif (b2u (a1n a) ⟨(a1n a).Seq,s,data⟩).Down then b2u (a1n a) ⟨(a1n a).Seq,s,data⟩ else
 a9n { b2u (a1n a) ⟨(a1n a).Seq,s,data⟩ with Seq:=(b2u (a1n a) ⟨(a1n a).Seq,s,data⟩).Seq+1 } s data
theorem c3f (r:Rec):(c4o r).length≤8:=by
 unfold c4o;cases h:d9r r
 ·exact Nat.zero_le _
 ·unfold d9r at h;simp only [Bool.and_eq_true] at h;have:=a0r h.2.2.1;show (21322 :: r.Seq :: r.Stripe :: (r.Data.length:Int) :: r.Data).length≤8;simp only [List.length_cons];omega
theorem b4x (a:Arr) (r:Rec):Keep a (b2u a r):=(c1o (f:=b2a r) (fun a i=>c6d _ _ _ _) _ _ _).trans (b4f _)
theorem d9s {a:Arr} {r:Rec} (h:Fz a):Fz (b2u a r):=c9u (e3x (f:=b2a r) (fun _ _=>d9n) _ _ h)
theorem d6l (a:Arr) (r:Rec):(b2u a r).w≤a.w+a.Mems.length*9:=by
 have h1:=e3y (run (b2a r) 0 a.Mems.length a);have h2:=f0e (c:=9) (f:=b2a r) (fun b m=>by
  have h1:=f0d b m (c3d r.Seq) (c4o r);have h2:=c3f r;unfold b2a;omega) a.Mems.length 0 a
 unfold b2u;omega
theorem c4p (s:Int) (data:List Int) (a:Arr) (m:Nat):Keep a (a2h s data a m):=by
 unfold a2h;cases b7b a m s
 ·exact Keep.refl a
 ·exact c6d _ _ _ _
theorem d9t {s:Int} {data:List Int} (a:Arr) (m:Nat) (h:a.Down=true):a2h s data a m=a:=by
 unfold a2h;cases b7b a m s
 ·rfl
 ·exact d6j h
theorem c1p (a:Arr) (s:Int) (data:List Int):Keep a (a9n a s data):=c1o (c4p s data) _ _ _
theorem e5s (a:Arr) (s:Int) (data:List Int):(a9n a s data).w≤a.w+a.Mems.length*2:=
 f0e (fun b m=>by
  unfold a2h;cases b7b b m s
  ·exact Nat.le_add_right _ _
  ·exact f0d _ _ _ _) _ _ _
theorem c4q (a:Arr):Keep2 a (a1n a):=by
 unfold a1n;cases decide (a.Seq - a.Tail≥4)
 ·exact Keep2.refl a
 ·exact d2r a
theorem f0g (a:Arr):(a1n a).w≤a.w+a.Mems.length*10:=by
 unfold a1n;cases decide (a.Seq - a.Tail≥4)
 ·exact Nat.le_add_right _ _
 ·exact f0f a
theorem e1w (a:Arr) (s:Int) (data:List Int):(a3r a s data).G=a.G∧(a3r a s data).Dirty=a.Dirty∧(a3r a s data).Mems.length=a.Mems.length∧(a3r a s data).w≤a.w+a.Mems.length*21:=by
 have h1:=c4q a;have h2:=b4x (a1n a) ⟨(a1n a).Seq,s,data⟩;have w1:=f0g a;have w2:=d6l (a1n a) ⟨(a1n a).Seq,s,data⟩;rw [h1.n] at w2;unfold a3r;cases (a1n a).Down
 ·generalize b2u (a1n a) ⟨(a1n a).Seq,s,data⟩=c at *;cases c.Down
  ·have h3:=c1p { c with Seq:=c.Seq+1 } s data;have w3:=e5s { c with Seq:=c.Seq+1 } s data;have e1:({ c with Seq:=c.Seq+1 }:Arr).w=c.w:=rfl;have e2:({ c with Seq:=c.Seq+1 }:Arr).Mems.length=a.Mems.length:=h2.n.trans h1.n;rw [e1,e2] at w3;refine ⟨h3.g.trans (h2.g.trans h1.g),h3.dirty.trans (h2.dirty.trans h1.dirty),h3.n.trans e2,?_⟩;show (a9n { c with Seq:=c.Seq+1 } s data).w≤_;omega
  ·exact ⟨h2.g.trans h1.g,h2.dirty.trans h1.dirty,h2.n.trans h1.n,show c.w≤_ by omega⟩
 ·exact ⟨h1.g,h1.dirty,h1.n,show (a1n a).w≤_ by omega⟩
theorem e5t (a:Arr):(a8n a).Tail=a.Tail∨(a8n a).Tail=a.Seq:=by
 have hk:=b4f a;rcases b1v a with ⟨_,e⟩ | ⟨_,e⟩ <;> rw [e]
 ·exact .inl hk.tail
 ·exact .inr ((d9q { b1u a with Tail:=(b1u a).Seq }).tail.trans hk.seq)
theorem d9u (a:Arr):(a1n a).Tail=a.Tail∨(a1n a).Tail=a.Seq:=by
 unfold a1n;cases decide (a.Seq - a.Tail≥4)
 ·exact .inl rfl
 ·exact e5t a
theorem e1x (a:Arr) (s:Int) (data:List Int):((a3r a s data).Seq=a.Seq∨(a3r a s data).Seq=a.Seq+1)∧((a3r a s data).Tail=a.Tail∨(a3r a s data).Tail=a.Seq):=by
 have h1:=c4q a;have h0:=d9u a;have h2:=b4x (a1n a) ⟨(a1n a).Seq,s,data⟩;unfold a3r;cases (a1n a).Down
 ·generalize b2u (a1n a) ⟨(a1n a).Seq,s,data⟩=c at *;cases c.Down
  ·have h3:=c1p { c with Seq:=c.Seq+1 } s data;refine ⟨.inr (h3.seq.trans ?_),?_⟩
   ·show c.Seq+1=_;rw [h2.seq,h1.seq]
   ·have:(a9n { c with Seq:=c.Seq+1 } s data).Tail=(a1n a).Tail:=h3.tail.trans h2.tail;exact h0.imp this.trans this.trans
  ·exact ⟨.inl (h2.seq.trans h1.seq),h0.imp h2.tail.trans h2.tail.trans⟩
 ·exact ⟨.inl h1.seq,h0⟩
def a2c (a:Arr) (s:Int) (data:List Int):Int:=
 bif !(a5v a&&b2s a.G data) then 1 else bif a.Down then 6 else bif !a0n a.G s then 2 else bif a.Broken then 5 else bif (a.Seq == 60000) || decide (a.Gen≥59990) then 7 else 0
def d6m (a:Arr):Int:=bif a.Down then 6 else 0
def a1f (a:Arr) (s:Int) (data:List Int):Arr×Int:=bif a2c a s data == 0 then (a3r a s data,d6m (a3r a s data)) else (a,a2c a s data)
theorem c4r {a:Arr} {s:Int} {data:List Int} (h:(a2c a s data == 0)=true) :
  a5v a=true∧b2s a.G data=true∧a.Down=false∧a0n a.G s=true∧a.Gen<59990∧a.Seq≠60000:=by
 unfold a2c at h;cases h1:a5v a&&b2s a.G data
 ·rw [h1] at h;simp at h
 ·rw [h1] at h;cases h2:a.Down
  ·rw [h2] at h;cases h3:a0n a.G s
   ·rw [h3] at h;simp at h
   ·rw [h3] at h;cases h4:a.Broken
    ·rw [h4] at h;cases h5:(a.Seq == 60000) || decide (a.Gen≥59990)
     ·simp at h5;obtain ⟨k1,k2⟩:=a0a h1;exact ⟨k1,k2,rfl,rfl,by omega,h5.1⟩
     ·rw [h5] at h;simp at h
    ·rw [h4] at h;simp at h
  ·rw [h2] at h;simp at h
def b2v:List Ent→Ent→List Ent
 | [],e=>[e]
 | x :: l,e=>bif decide (x.Stripe<e.Stripe) then x :: b2v l e else bif x.Stripe == e.Stripe then e :: l else e :: x :: l
theorem e4a:∀ (l:List Ent) (e:Ent),wL Ent.w (b2v l e)≤wL Ent.w l+(1+e.w)
 | [],e=>by show wL Ent.w [e]≤_;rw [a1u];omega
 | x :: l,e=>by
  have ih:=e4a l e;unfold b2v;cases decide (x.Stripe<e.Stripe)
  ·cases x.Stripe == e.Stripe
   ·show wL Ent.w (e :: x :: l)≤_;rw [a1u,a1u];omega
   ·show wL Ent.w (e :: l)≤_;rw [a1u,a1u];omega
  ·show wL Ent.w (x :: b2v l e)≤_;rw [a1u,a1u];omega
def c6e (s:Int):List Ent→Nat
 | []=>0
 | x :: l=>bif decide (x.Stripe<s) then c6e s l+1 else 0
theorem f0h (s:Int):∀ l:List Ent,c6e s l≤l.length
 | []=>Nat.le_refl _
 | x :: l=>by
  have:=f0h s l;unfold c6e;cases decide (x.Stripe<s)
  ·exact Nat.zero_le _
  ·show c6e s l+1≤l.length+1;omega
theorem d2s:∀ (l:List Ent) (e:Ent) (h:c6e e.Stripe l<l.length),l[c6e e.Stripe l].Stripe=e.Stripe→b2v l e=l.set (c6e e.Stripe l) e
 | x :: l,e,h,hs=>by
  unfold b2v;have e1:c6e e.Stripe (x :: l)=bif decide (x.Stripe<e.Stripe) then c6e e.Stripe l+1 else 0:=rfl;cases hd:decide (x.Stripe<e.Stripe)
  ·rw [hd] at e1;have hx:x.Stripe=e.Stripe:=by simpa [e1] using hs
   rw [e1,show (x.Stripe == e.Stripe)=true by simpa using hx];rfl
  ·rw [hd] at e1;have ih:=d2s l e (by simpa [e1] using h) (by simpa [e1] using hs);rw [e1,cond_true,cond_true,ih];rfl
theorem d2t:∀ (l:List Ent) (e:Ent),(∀ h:c6e e.Stripe l<l.length,l[c6e e.Stripe l].Stripe≠e.Stripe)→b2v l e=l.take (c6e e.Stripe l)++e :: l.drop (c6e e.Stripe l)
 | [],e,_=>rfl
 | x :: l,e,hs=>by
  unfold b2v;have e1:c6e e.Stripe (x :: l)=bif decide (x.Stripe<e.Stripe) then c6e e.Stripe l+1 else 0:=rfl;cases hd:decide (x.Stripe<e.Stripe)
  ·rw [hd] at e1;have hx:x.Stripe≠e.Stripe:=by simpa [e1] using hs (by rw [e1];simp)
   rw [e1,show (x.Stripe == e.Stripe)=false by simpa using hx];rfl
  ·rw [hd] at e1;have ih:=d2t l e (fun h=>by simpa [e1] using hs (by rw [e1];simpa using h));rw [e1,cond_true,cond_true,ih];rfl
def b3m (a:Arr) (b n:Int):Int:=bif (a2g a b == 0)&&!c4h n then 3 else a2g a b
def c4s (a:Arr) (b n:Int):Ent:=⟨a0k a.G b,(a3k a (a0k a.G b)).1.set (b1s a.G b).toNat n⟩
def a0w (a:Arr) (b n:Int):Arr×Int:=
 bif b3m a b n != 0 then (a,b3m a b n) else bif !(a3k a (a0k a.G b)).2 then (a,5) else ({ a with Dirty:=b2v a.Dirty (c4s a b n) },0)
def a6r (a:Arr) (s:Int):Int:=bif !a5v a then 1 else bif a.Down then 6 else bif !a0n a.G s then 2 else 0
def b4y (a:Arr) (n:Nat) (p:Arr×Int):Arr×Int:=bif p.2 == 0 then ({ p.1 with Dirty:=del p.1.Dirty n },0) else p
def a0x (a:Arr) (s:Int):Arr×Int:=
 bif a6r a s != 0 then (a,a6r a s) else bif decide (a4g a s<0) then (a,0) else
 b4y a (a4g a s).toNat (a1f a s (a.Dirty.getD (a4g a s).toNat default).Data)
theorem c9w {a:Arr} {b:Int} (h:(a2g a b != 0)=false):a5v a=true∧a.Down=false∧a2i a.G b=true:=by
 have h1:=c9r h;refine ⟨h1.1,?_,h1.2⟩;cases hd:a.Down
 ·rfl
 ·unfold a2g at h;rw [h1.1,hd] at h;simp at h
theorem d9v {a:Arr} {b n:Int} (h:(b3m a b n != 0)=false):(a2g a b != 0)=false∧c4h n=true:=by
 unfold b3m at h;cases h1:(a2g a b == 0)&&!c4h n
 ·rw [h1] at h;refine ⟨h,?_⟩;have h2:(a2g a b == 0)=true:=by simpa using h
  rw [h2] at h1;simpa using h1
 ·rw [h1] at h;simp at h
theorem b4g (a:Arr) (b n:Int):(a0w a b n).1.w≤a.w+5:=by
 unfold a0w;cases hc:b3m a b n != 0
 ·cases hd:(a3k a (a0k a.G b)).2
  ·exact Nat.le_add_right _ _
  ·have h1:=c9w (d9v hc).1;have h2:=c9p h1.1 hd;obtain ⟨g1,g2,g3,g4⟩:=a1a (d0z h1.1).1;have h3:=e4a a.Dirty (c4s a b n);have e1:(c4s a b n).w=(a3k a (a0k a.G b)).1.length:=List.length_set;show wL Dsk.w a.Mems+wL Ent.w (b2v a.Dirty (c4s a b n))≤wL Dsk.w a.Mems+wL Ent.w a.Dirty+5;omega
 ·exact Nat.le_add_right _ _
theorem c1q (a:Arr) (s:Int) (data:List Int):(a1f a s data).1.w≤a.w+105∧(a1f a s data).1.Dirty=a.Dirty:=by
 unfold a1f;cases hc:a2c a s data == 0
 ·exact ⟨Nat.le_add_right _ _,rfl⟩
 ·have h1:=c4r hc;obtain ⟨g1,g2,g3,g4⟩:=a1a (d0z h1.1).1;have g5:=(d0z h1.1).2.1;obtain ⟨_,k2,_,k4⟩:=e1w a s data;refine ⟨?_,k2⟩;show (a3r a s data).w≤_;omega
theorem b4z (a:Arr) (s:Int):(a0x a s).1.w≤a.w+105:=by
 unfold a0x;cases a6r a s != 0
 ·cases decide (a4g a s<0)
  ·obtain ⟨h1,h2⟩:=c1q a s (a.Dirty.getD (a4g a s).toNat default).Data;show (b4y a _ _).1.w≤_;unfold b4y;generalize a1f a s (a.Dirty.getD (a4g a s).toNat default).Data=p at *;cases p.2 == 0
   ·exact h1
   ·have h3:=e9v Ent.w p.1.Dirty (a4g a s).toNat;show wL Dsk.w p.1.Mems+wL Ent.w (del p.1.Dirty _)≤_;have e:p.1.w=wL Dsk.w p.1.Mems+wL Ent.w p.1.Dirty:=rfl;omega
  ·exact Nat.le_add_right _ _
 ·exact Nat.le_add_right _ _
def a9a (a:Arr) (j:Job):Arr×List Int×Int:=
 bif j.C.Op == 1 then (a,bif (a1o a (j.C.Lba+j.At)).2 == 0 then j.Got++[(a1o a (j.C.Lba+j.At)).1] else j.Got,(a1o a (j.C.Lba+j.At)).2)
 else bif j.C.Op == 4 then ((a0x a j.At).1,j.Got,(a0x a j.At).2)
 else bif j.C.Op == 5 then
  (bif (a1o a (j.C.Lba+j.At)).2 != 0 then (a,j.Got,(a1o a (j.C.Lba+j.At)).2)
  else bif (a1o a (j.C.Lba+j.At)).1 != j.C.Vals.getD 0 0 then (a,j.Got,4)
  else ((a0w a (j.C.Lba+j.At) (j.C.Vals.getD 1 0)).1,j.Got,(a0w a (j.C.Lba+j.At) (j.C.Vals.getD 1 0)).2))
 else bif j.C.Op == 6 then ((a0w a (j.C.Lba+j.At) 0).1,j.Got,(a0w a (j.C.Lba+j.At) 0).2)
 else bif decide (j.At<j.C.Vals.length) then ((a0w a (j.C.Lba+j.At) (j.C.Vals.getD j.At.toNat 0)).1,j.Got,(a0w a (j.C.Lba+j.At) (j.C.Vals.getD j.At.toNat 0)).2)
 else ((a0x a (a0k a.G j.C.Lba+j.At - j.C.Vals.length)).1,j.Got,(a0x a (a0k a.G j.C.Lba+j.At - j.C.Vals.length)).2)
def b0b (j:Job) (p:Arr×List Int×Int):Job:=⟨j.C,j.At+1,p.2.1,p.2.2⟩
def b1w (x:Eng) (n:Nat) (j:Job):Eng:=answer { x with Jobs:=del x.Jobs n } j.C ⟨j.C.Id,j.Code,bif (j.C.Op == 1)&&(j.Code == 0) then j.Got else []⟩
def b5o (x:Eng) (n:Nat) (j:Job) (p:Arr×List Int×Int):Eng:=
 bif p.2.2 == 0 then { x with A:=p.1,Jobs:=x.Jobs.set n (b0b j p) } else b1w { x with A:=p.1,Jobs:=x.Jobs.set n (b0b j p) } n (b0b j p)
def b7t (x:Eng) (n:Nat):Job:=x.Jobs.getD n default
def b5p (x:Eng) (n:Nat):Eng:=
 bif decide ((b7t x n).At<a3f x.A.G (b7t x n).C - 1)&&((b7t x n).Code == 0) then b5o x n (b7t x n) (a9a x.A (b7t x n)) else b1w x n (b7t x n)
def c3g (x:Eng) (q:Int):Eng×Bool:=bif a9r x&&(a0f q 0 ((x.Jobs.length:Int) - 1)&&decide (x.Log.length<400)) then (b5p x q.toNat,true) else (x,false)
theorem f6p (a:Arr) (j:Job):(a9a a j).1.w≤a.w+105∧(a9a a j).2.1.length≤j.Got.length+1:=by
 have hs:=fun b n=>b4g a b n;have hf:=fun s=>b4z a s;unfold a9a;cases j.C.Op == 1
 ·cases j.C.Op == 4
  ·cases j.C.Op == 5
   ·cases j.C.Op == 6
    ·cases decide (j.At<j.C.Vals.length)
     ·exact ⟨hf _,Nat.le_add_right _ _⟩
     ·exact ⟨Nat.le_trans (hs _ _) (by omega),Nat.le_add_right _ _⟩
    ·exact ⟨Nat.le_trans (hs _ _) (by omega),Nat.le_add_right _ _⟩
   ·cases (a1o a (j.C.Lba+j.At)).2 != 0
    ·cases (a1o a (j.C.Lba+j.At)).1 != j.C.Vals.getD 0 0
     ·exact ⟨Nat.le_trans (hs _ _) (by omega),Nat.le_add_right _ _⟩
     ·exact ⟨Nat.le_add_right _ _,Nat.le_add_right _ _⟩
    ·exact ⟨Nat.le_add_right _ _,Nat.le_add_right _ _⟩
  ·exact ⟨hf _,Nat.le_add_right _ _⟩
 ·refine ⟨Nat.le_add_right _ _,?_⟩;show (bif (a1o a (j.C.Lba+j.At)).2 == 0 then j.Got++[(a1o a (j.C.Lba+j.At)).1] else j.Got).length≤_;cases (a1o a (j.C.Lba+j.At)).2 == 0
  ·exact Nat.le_add_right _ _
  ·simp
theorem d9w {α:Type} (f:α→Nat) (l:List α) {n:Nat} (h:n<l.length):wL f (del l n)+(1+f l[n])=wL f l:=by
 have h1:l=l.take n++l[n] :: l.drop (n+1):=by rw [← List.drop_eq_getElem_cons h,List.take_append_drop]
 have h2:wL f l=wL f (l.take n)+wL f (l[n] :: l.drop (n+1)):=(congrArg (wL f) h1).trans (a5t f _ _);rw [h2];unfold del;rw [a5t,a1u];omega
theorem e4b (x:Eng) {n:Nat} (hn:n<x.Jobs.length) (j:Job) (hj:x.Jobs[n]=j):(b1w x n j).w≤x.w+j.Got.length+1:=by
 have h1:=d9w Job.w x.Jobs hn;have hv:(bif (j.C.Op == 1)&&(j.Code == 0) then j.Got else []).length≤j.Got.length:=by
  cases (j.C.Op == 1)&&(j.Code == 0)
  ·exact Nat.zero_le _
  ·exact Nat.le_refl _
 rw [hj] at h1;have e1:j.w=j.C.w+j.Got.length:=rfl;show x.A.w+wL Cmd.w x.Wait+wL Job.w (del x.Jobs n)+wL Ans.w (x.Done++[_])+wL Turn.w (x.Log++[_])≤x.A.w+wL Cmd.w x.Wait+wL Job.w x.Jobs+wL Ans.w x.Done+wL Turn.w x.Log+j.Got.length+1;rw [a5t,a5t,a1u,a1u,b6z,b6z];have a1:(⟨j.C.Id,j.Code,bif (j.C.Op == 1)&&(j.Code == 0) then j.Got else []⟩:Ans).w=(bif (j.C.Op == 1)&&(j.Code == 0) then j.Got else []).length:=rfl;have a2:∀ a:Ans,(⟨j.C,a⟩:Turn).w=j.C.w+a.w:=fun _=>rfl;rw [a2,a1];omega
theorem f3c (x:Eng) {n:Nat} (hn:n<x.Jobs.length) (hg:x.Jobs[n].Got.length≤6):(b5p x n).w≤x.w+120:=by
 have hj:b7t x n=x.Jobs[n]:=a2b hn _;have e0:x.w=x.A.w+wL Cmd.w x.Wait+wL Job.w x.Jobs+wL Ans.w x.Done+wL Turn.w x.Log:=rfl;have e1:x.Jobs[n].w=x.Jobs[n].C.w+x.Jobs[n].Got.length:=rfl;unfold b5p;rw [hj];cases decide (x.Jobs[n].At<a3f x.A.G x.Jobs[n].C - 1)&&(x.Jobs[n].Code == 0)
 ·have:=e4b x hn x.Jobs[n] rfl;show (b1w x n x.Jobs[n]).w≤_;omega
 ·obtain ⟨w1,w2⟩:=f6p x.A x.Jobs[n];generalize a9a x.A x.Jobs[n]=p at *;have e2:(b0b x.Jobs[n] p).w=x.Jobs[n].C.w+p.2.1.length:=rfl;have hset:=e3t Job.w x.Jobs n (b0b x.Jobs[n] p) hn;have hy:({ x with A:=p.1,Jobs:=x.Jobs.set n (b0b x.Jobs[n] p) }:Eng).w≤x.w+106:=by
   show p.1.w+wL Cmd.w x.Wait+wL Job.w (x.Jobs.set n _)+wL Ans.w x.Done+wL Turn.w x.Log≤_;omega
  show (b5o x n x.Jobs[n] p).w≤_;unfold b5o;cases p.2.2 == 0
  ·have:=e4b { x with A:=p.1,Jobs:=x.Jobs.set n (b0b x.Jobs[n] p) } (n:=n) (by simpa using hn) (b0b x.Jobs[n] p) (by simp);have e4:(b0b x.Jobs[n] p).Got=p.2.1:=rfl;rw [e4] at this;show (b1w _ n _).w≤_;omega
  ·show ({ x with A:=p.1,Jobs:=x.Jobs.set n (b0b x.Jobs[n] p) }:Eng).w≤_;omega
theorem d9x {x:Eng} (h:a9r x=true) {n:Nat} (hn:n<x.Jobs.length):e1s x.A.G x.Jobs[n]=true∧a5v x.A=true:=by
 unfold a9r at h;obtain ⟨h1,h2⟩:=a0a h;exact ⟨List.all_eq_true.1 h1 _ (List.getElem_mem hn),(a0a h2).1⟩
theorem f0i {g:Geo} {j:Job} (h:e1s g j=true):a1m g j.C=0∧0≤j.At∧j.At≤40∧j.Got.length≤6:=by
 unfold e1s at h;simp only [Bool.and_eq_true] at h;have:=a0r h.2.1;exact ⟨by simpa using h.1,this.1,this.2,of_decide_eq_true h.2.2.1⟩
theorem f4r (x:Eng) (q:Int):(c3g x q).1.w≤x.w+120:=by
 unfold c3g;cases h:a9r x&&(a0f q 0 ((x.Jobs.length:Int) - 1)&&decide (x.Log.length<400))
 ·show x.w≤_;omega
 ·have h1:=a0r (a0a (a0a h).2).1;have hn:q.toNat<x.Jobs.length:=by omega
  exact f3c x hn (f0i (d9x (a0a h).1 hn).1).2.2.2
def b3n (a:Arr):Prop:=inI a.Seq∧inI a.Tail
theorem d2u {a:Arr} (h:a5v a=true):0≤a.Seq∧a.Seq≤60000∧0≤a.Tail∧a.Tail≤60000∧0≤a.Gen∧a.Gen≤60000∧a.Seq - a.Tail≤4∧Fz a∧-1≤a.Lost∧a.Lost≤a.G.N - 1:=by
 unfold a5v c6a c1j at h;simp only [Bool.and_eq_true] at h;obtain ⟨_,_,_,⟨l1,_⟩,_,_,⟨⟨⟨c1,c2⟩,c3⟩,c4⟩,c5⟩:=h;have:=a0r l1;have:=a0r c1;have:=a0r c2;have:=a0r c3;have:=a0r c4;have:=a0r c5;unfold Fz;omega
theorem c5l {a:Arr} (s:Int) (data:List Int) (h:b3n a):b3n (a1f a s data).1:=by
 unfold a1f;cases hc:a2c a s data == 0
 ·exact h
 ·obtain ⟨c1,c2,c3,c4,_⟩:=d2u (c4r hc).1;obtain ⟨k1,k2⟩:=e1x a s data;show b3n (a3r a s data);unfold b3n inI;rcases k1 with k1 | k1 <;> rcases k2 with k2 | k2 <;> rw [k1,k2] <;> omega
theorem c5m {a:Arr} (s:Int) (h:b3n a):b3n (a0x a s).1:=by
 unfold a0x;cases a6r a s != 0
 ·cases decide (a4g a s<0)
  ·have h1:=c5l s (a.Dirty.getD (a4g a s).toNat default).Data h;show b3n (b4y a _ _).1;unfold b4y;generalize a1f a s (a.Dirty.getD (a4g a s).toNat default).Data=p at *;cases p.2 == 0
   ·exact h1
   ·exact h1
  ·exact h
 ·exact h
theorem d6n {a:Arr} (b n:Int) (h:b3n a):b3n (a0w a b n).1:=by
 unfold a0w;cases b3m a b n != 0
 ·cases (a3k a (a0k a.G b)).2
  ·exact h
  ·exact h
 ·exact h
theorem e5u {a:Arr} (j:Job) (h:b3n a):b3n (a9a a j).1:=by
 have hs:=fun b n=>d6n (a:=a) b n h;have hf:=fun s=>c5m (a:=a) s h;unfold a9a;cases j.C.Op == 1
 ·cases j.C.Op == 4
  ·cases j.C.Op == 5
   ·cases j.C.Op == 6
    ·cases decide (j.At<j.C.Vals.length)
     ·exact hf _
     ·exact hs _ _
    ·exact hs _ _
   ·cases (a1o a (j.C.Lba+j.At)).2 != 0
    ·cases (a1o a (j.C.Lba+j.At)).1 != j.C.Vals.getD 0 0
     ·exact hs _ _
     ·exact h
    ·exact h
  ·exact hf _
 ·exact h
theorem d9y {x:Eng} (q:Int) (h:b3n x.A):b3n (c3g x q).1.A:=by
 unfold c3g;cases a9r x&&(a0f q 0 ((x.Jobs.length:Int) - 1)&&decide (x.Log.length<400))
 ·exact h
 ·show b3n (b5p x q.toNat).A;unfold b5p;cases decide ((b7t x q.toNat).At<a3f x.A.G (b7t x q.toNat).C - 1)&&((b7t x q.toNat).Code == 0)
  ·exact h
  ·have h1:=e5u (b7t x q.toNat) h;show b3n (b5o x q.toNat _ _).A;unfold b5o;cases (a9a x.A (b7t x q.toNat)).2.2 == 0
   ·exact h1
   ·exact h1
theorem c6f {g:Geo} {s:Int} (h:a0n g s=true):0≤a1r g s∧a1r g s<g.N:=by
 obtain ⟨_,_,h1,h2⟩:=d6f h;obtain ⟨hg,_,_⟩:=a4m h;obtain ⟨_,_,_,_⟩:=a1a hg;have e:a1r g s=g.N - 1 - s % g.N:=by unfold a1r;rw [h];rfl
 have:=Int.emod_nonneg s (b:=g.N) (by omega);rw [e];omega
theorem f8x {g:Geo} {s i:Int} (h:a0n g s=true) (h0:0≤i) (h1:i<g.N - 1):b0h g s i=(a1r g s+1+i) % g.N:=by
 unfold b0h;rw [h,show a0f i 0 (g.N - 2)=true by unfold a0f;simp;omega];rfl
def b7u (g:Geo) (s:Int) (data:List Int) (i m:Nat):Int:=bif (m:Int) == a1r g s then f7h data else bif decide (((m:Int) - a1r g s - 1+g.N) % g.N<i) then data.getD (((m:Int) - a1r g s - 1+g.N) % g.N).toNat 0 else 0
theorem e5v {g:Geo} {s:Int} (h:a0n g s=true) (data:List Int) (i:Nat) (hi:(i:Int)<g.N - 1) :
  ((List.range g.N.toNat).map (b7u g s data i)).set (b0h g s i).toNat (data.getD i 0)=(List.range g.N.toNat).map (b7u g s data (i+1)):=by
 obtain ⟨hp0,hp1⟩:=c6f h;obtain ⟨g1,g2,_,_⟩:=a1a (a4m h).1;have hd:=f8x h (i:=i) (by omega) hi;have hN:g.N=3∨g.N=4∨g.N=5:=by omega
 refine List.ext_getElem (by simp) fun m h1 h2=>?_;have hm:(m:Int)<g.N:=by simp at h2;omega
 rw [List.getElem_set];simp only [List.getElem_map,List.getElem_range];unfold b7u;rw [hd];generalize a1r g s=p at *;split
 ·rename_i he;have hx:((m:Int) - p - 1+g.N) % g.N=i∧(m:Int)≠p:=by rcases hN with h | h | h <;> rw [h] at he hi hm ⊢ <;> omega
  rw [hx.1,show ((m:Int) == p)=false by simpa using hx.2,decide_eq_true (by omega:(i:Int)<((i+1:Nat):Int))];simp
 ·rename_i he;cases hmp:((m:Int) == p)
  ·have hmp':(m:Int)≠p:=by simpa using hmp
   have hx:((m:Int) - p - 1+g.N) % g.N≠i:=by rcases hN with h | h | h <;> rw [h] at he hi hm ⊢ <;> omega
   rw [cond_false,cond_false];by_cases hlt:((m:Int) - p - 1+g.N) % g.N<i
   ·rw [decide_eq_true hlt,decide_eq_true (by omega:((m:Int) - p - 1+g.N) % g.N<((i+1:Nat):Int))]
   ·rw [decide_eq_false hlt,decide_eq_false (by omega:¬ ((m:Int) - p - 1+g.N) % g.N<((i+1:Nat):Int))]
  ·rfl
theorem e1y {g:Geo} {s:Int} (h:a0n g s=true) (data:List Int) :
  (List.replicate g.N.toNat (0:Int)).set (a1r g s).toNat (f7h data)=(List.range g.N.toNat).map (b7u g s data 0):=by
 obtain ⟨hp0,hp1⟩:=c6f h;obtain ⟨g1,g2,_,_⟩:=a1a (a4m h).1;refine List.ext_getElem (by simp) fun m h1 h2=>?_;rw [List.getElem_set];simp only [List.getElem_map,List.getElem_range,List.getElem_replicate];unfold b7u;have:=Int.emod_nonneg ((m:Int) - a1r g s - 1+g.N) (b:=g.N) (by omega);rw [decide_eq_false (by omega:¬ ((m:Int) - a1r g s - 1+g.N) % g.N<((0:Nat):Int))];generalize a1r g s=p at *;split
 ·rename_i he;rw [show ((m:Int) == p)=true by simp;omega];rfl
 ·rename_i he;rw [show ((m:Int) == p)=false by simp;omega];rfl
theorem e5w {g:Geo} {s:Int} (h:a0n g s=true) (data:List Int) (hd:(data.length:Int)=g.N - 1) (m:Nat) (hm:(m:Int)<g.N):b7u g s data data.length m=c3e g s data m:=by
 obtain ⟨hp0,hp1⟩:=c6f h;obtain ⟨g1,g2,_,_⟩:=a1a (a4m h).1;have hN:g.N=3∨g.N=4∨g.N=5:=by omega
 unfold b7u c3e;generalize a1r g s=p at *;cases hmp:((m:Int) == p)
 ·have hmp':(m:Int)≠p:=by simpa using hmp
  have hx:((m:Int) - p - 1+g.N) % g.N<data.length:=by rcases hN with h | h | h <;> rw [h] at hm hp1 hd ⊢ <;> omega
  rw [decide_eq_true hx];rfl
 ·rfl
abbrev Arr.stM (i:Int) (a:Arr) (ms:List (List T)):Int×Int×Int×Int×Int×Int×Int×Int×Int×Int×Bool×Bool×List (List T)×List (List T):=
 (i,a.Id,a.G.N,a.G.S,a.Lost,a.Built,a.Seq,a.Tail,a.Gen,a.Fuse,a.Down,a.Broken,ms,a3h a.Dirty)
abbrev Arr.st (i:Nat) (a:Arr):=a.stM (i:Int) (a4c a.Mems)
theorem e4c {f:Arr→Nat→Arr} (hd:∀ a i,a.Down=true→f a i=a) (K:Arr→Option Outs) {n:Nat} (I:Nat→Arr→Prop) {b:(Int×Int×Int×Int×Int×Int×Int×Int×Int×Int×Bool×Bool×List (List T)×List (List T)→Option Outs)→Int×Int×Int×Int×Int×Int×Int×Int×Int×Int×Bool×Bool×List (List T)×List (List T)→Option Outs}
  (hI:∀ i a,i<n→I i a→I (i+1) (f a i)) (hs:∀ i a G,i<n→I i a→a.Down=false→b G (a.st i)=bif (f a i).Down then K (f a i) else G ((f a i).st (i+1))) (he:∀ a G,I n a→a.Down=false→b G (a.st n)=K a) {j:Nat} {a:Arr} (h0:I 0 a) (hD:a.Down=false) (hj:n<j):a2z b j (a.st 0)=K (run f 0 n a):=by
 have key:∀ d i j a,i+d=n→d<j→I i a→a.Down=false→a2z b j (a.st i)=K (run f i d a):=by
  intro d
  induction d with
  | zero=>
   intro i j a hi hj h hD;obtain ⟨j,rfl⟩:∃ q,j=q+1:=⟨j - 1,by omega⟩;have:i=n:=by omega
   subst this;exact he a _ h hD
  | succ d ih=>
   intro i j a hi hj h hD;obtain ⟨j,rfl⟩:∃ q,j=q+1:=⟨j - 1,by omega⟩;rw [a2z,hs i a _ (by omega) h hD];show _=K (run f (i+1) d (f a i));cases hfd:(f a i).Down
   ·exact ih (i+1) j (f a i) (by omega) (by omega) (hI i a (by omega) h) hfd
   ·rw [d6k hd d (i+1) hfd];rfl
 exact key n 0 j a (by omega) hj h0 hD
theorem e4d {l:List Dsk} {i:Nat} (h:i<l.length) (d:Dsk):a4f (a4c l) i 0 d.e=a4c (l.set i d):=c9h Dsk.e h 0 d.e d rfl
abbrev g1i (es:List (List T)) (m:Nat):List T:=[.r (at_ es m 0).asR,.r (at_ es m 1).asR,.b (at_ es m 2).asB,.r (at_ es m 3).asR]
theorem f4s {a:Arr} {m:Nat} (h:m<a.Mems.length):g1i (a4c a.Mems) m=(dsk a m).e:=by
 unfold g1i;rw [a1p _ h,a1p _ h,a1p _ h,a1p _ h,e3u h];rfl
theorem d9z {a:Arr} {m:Nat} (h:m<a.Mems.length):(at_ (a4c a.Mems) m 2).asB=(dsk a m).Failed:=by
 rw [a1p _ h,e3u h];rfl
theorem f8y {a:Arr} {m W:Nat} (h:m<a.Mems.length) (hw:a.w≤W):(dsk a m).w≤W:=by
 have:=a6q Dsk.w h;rw [e3u h];have e:a.w=wL Dsk.w a.Mems+wL Ent.w a.Dirty:=rfl;omega
theorem g1j (a:Arr) (hD:a.Down=false) (hF:Fz a):Rn 1 N.g3y [.p a.e] ⟨[.b (!(op a).Down)],[(op a).e]⟩:=by
 refine Rn.of fun k hk=>?_;unfold Fz at hF;rw [d5q];unfold c1a;rcases Bool.eq_false_or_eq_true (a.Fuse == 0) with h0 | h0
 ·have ho:op a={ a with Down:=true,Fuse:=-1 }:=by unfold op;rw [hD,h0];rfl
  rw [ho];exact a0p h0 rfl
 ·rcases Bool.eq_false_or_eq_true (decide (a.Fuse > 0)) with h1 | h1
  ·have ho:op a={ a with Fuse:=a.Fuse - 1 }:=by unfold op;rw [hD,h0,h1];rfl
   rw [ho];have:=of_decide_eq_true h1;refine a0l h0 (a0p h1 ?_);rw [a0g (by omega) (by omega)];show some (⟨[.b true],[_]⟩:Outs)=some (⟨[.b (!a.Down)],[_]⟩:Outs);rw [hD];rfl
  ·have ho:op a=a:=by unfold op;rw [hD,h0,h1];rfl
   rw [ho];refine a0l h0 (a0l h1 ?_);show some (⟨[.b true],[a.e]⟩:Outs)=some ⟨[.b (!a.Down)],[a.e]⟩;rw [show (!a.Down)=true by rw [hD];rfl]
theorem e1z (a:Arr) (m:Nat) (hm:m<a.Mems.length) (n:Int) (s:List Int) (hD:a.Down=false) (hF:Fz a) (hw:a.w≤2147483648) (hs:s.length≤Big) :
  Rn 9 N.g2u [.p a.e,.v [.i (m:Int)],.v [.i n],.v [.r (eIs s)]] ⟨[.b (!(put a m n s).Down)],[(put a m n s).e]⟩:=by
 refine Rn.of fun k hk=>?_;have hB:Big=4294967296:=rfl;rw [c5e];unfold b5l;have hml:=b0w a (by omega);refine (a0h (by simp;omega) _).trans ?_;have hm':m<(op a).Mems.length:=by rw [e1v];exact hm
 have hfa:=d9z hm;rcases (Bool.eq_false_or_eq_true (dsk a m).Failed).symm with hfl | hfl
 ·refine a0l (hfa.trans hfl) (a1s (g1j a hD hF k (by omega)) ?_);rcases (Bool.eq_false_or_eq_true (op a).Down).symm with hd | hd
  ·rw [show put a m n s=f4p (op a) m (a4n (dsk a m) n s).1 by unfold put;rw [hfl,hd];rfl];refine a0l (show (!(!(op a).Down))=false by rw [hd];rfl) ?_;refine (a0h (show (decide (0≤(m:Int))&&decide ((m:Int)<((a4c (op a).Mems).length:Int)))=true by simp;omega) _).trans ?_;refine a1s ((congrArg (fun c=>a0d E P0 k N.g2l [.v c,.v [.i n],.v [.r (eIs s)]]) ((f4s hm').trans (congrArg Dsk.e (e3w a m)))).trans (c3c (dsk a m) n s (f8y hm hw) hs k (by omega))) ?_;refine (a0h (show (decide (0≤(m:Int))&&decide ((m:Int)<((a4c (op a).Mems).length:Int)))=true by simp;omega) _).trans ?_;refine (a0h (Nat.beq_refl _) _).trans ?_;have hp:=e4d hm' (a4n (dsk a m) n s).1;show some (⟨[.b true],[[_,_,_,.r (a4f (a4c (op a).Mems) m 0 (a4n (dsk a m) n s).1.e),_,_,_,_,_,_,_,_,_]]⟩:Outs)=some ⟨[.b (!(op a).Down)],[(f4p (op a) m (a4n (dsk a m) n s).1).e]⟩;rw [hp,show (!(op a).Down)=true by rw [hd];rfl];rfl
  ·rw [show put a m n s=op a by unfold put;rw [hfl,hd];rfl];refine a0p (show (!(!(op a).Down))=true by rw [hd];rfl) ?_;show some (⟨[.b false],[(op a).e]⟩:Outs)=some ⟨[.b (!(op a).Down)],[(op a).e]⟩;rw [show (!(op a).Down)=false by rw [hd];rfl]
 ·rw [show put a m n s=a by unfold put;rw [hfl];rfl];refine a0p (hfa.trans hfl) ?_;show some (⟨[.b true],[a.e]⟩:Outs)=some ⟨[.b (!a.Down)],[a.e]⟩;rw [show (!a.Down)=true by rw [hD];rfl]
def KB (a:Arr):Option Outs:=some ⟨[.b (!a.Down)],[a.e]⟩
def Rnd (a0:Arr) (c:Nat) (i:Nat) (b:Arr):Prop:=Fz b∧Keep a0 b∧b.w≤a0.w+i*c
theorem Rnd.next {a0:Arr} {c i:Nat} {a b:Arr} (h:Rnd a0 c i a) (hf:Fz a→Fz b) (hk:Keep a b) (hw:b.w≤a.w+c):Rnd a0 c (i+1) b:=by
 refine ⟨hf h.1,h.2.1.trans hk,?_⟩;have:=h.2.2;rw [Nat.succ_mul];omega
theorem Rnd.first {a:Arr} {c:Nat} (h:Fz a):Rnd a c 0 a:=⟨h,Keep.refl a,by omega⟩
theorem Rnd.w {a0 b:Arr} {c i n:Nat} (h:Rnd a0 c i b) (hi:i≤n):b.w≤a0.w+n*c:=Nat.le_trans h.2.2 (Nat.add_le_add_left (Nat.mul_le_mul_right c hi) _)
theorem f0j (a:Arr) (hD:a.Down=false) (hF:Fz a) (hw:a.w≤2147483648):Rn 9 N.g3h [.p a.e] ⟨[.b (!(b1u a).Down)],[(b1u a).e]⟩:=by
 refine Rn.of fun k hk=>?_;have hB:Big=4294967296:=rfl;have hml:=b0w a (by omega);rw [c9b];unfold b6v b1o;refine (e4c (f:=a5x) (fun _ _=>c4m) KB (n:=a.Mems.length) (Rnd a 0) (fun i b hi h=>h.next d2q (c4n b i) (d9o b i)) (fun i b G hi h hbD=>?_) (fun b G h hbD=>?_) (a:=a) (Rnd.first hF) hD (by omega)).trans rfl
 ·obtain ⟨h1,h2,h3⟩:=h;have hbn:=h2.n;have hm:i<b.Mems.length:=by omega
  have hm':i<(op b).Mems.length:=by rw [e1v];exact hm
  have hfa:=d9z hm;unfold a7e;refine a0p (show decide ((i:Int)<((a4c a.Mems).length:Int))=true by simp;omega) ?_;refine (a0h (show (decide (0≤(i:Int))&&decide ((i:Int)<((a4c b.Mems).length:Int)))=true by simp;omega) _).trans ?_;rcases (Bool.eq_false_or_eq_true (dsk b i).Failed).symm with hfl | hfl
  ·refine a0l (hfa.trans hfl) (a1s (g1j b hbD h1 k (by omega)) ?_);rcases (Bool.eq_false_or_eq_true (op b).Down).symm with hd | hd
   ·rw [show a5x b i=f4p (op b) i (a7g (dsk b i)) by unfold a5x;rw [hfl,hd];rfl];refine a0l (show (!(!(op b).Down))=false by rw [hd];rfl) ?_;refine (a0h (show (decide (0≤(i:Int))&&decide ((i:Int)<((a4c (op b).Mems).length:Int)))=true by simp;omega) _).trans ?_;refine a1s ((congrArg (fun c=>a0d E P0 k N.g2m [.v c]) ((f4s hm').trans (congrArg Dsk.e (e3w b i)))).trans (d2o (dsk b i) (f8y hm (by omega)) k (by omega))) ?_;refine (a0h (show (decide (0≤(i:Int))&&decide ((i:Int)<((a4c (op b).Mems).length:Int)))=true by simp;omega) _).trans ?_;refine (a0h (Nat.beq_refl _) _).trans ?_;have hp:=e4d hm' (a7g (dsk b i));show G ((op b).stM (W64 ((i:Int)+1)) (a4f (a4c (op b).Mems) i 0 (a7g (dsk b i)).e))=bif (op b).Down then _ else G ((f4p (op b) i (a7g (dsk b i))).st (i+1));rw [hp,a2s (by omega),hd];rfl
   ·rw [show a5x b i=op b by unfold a5x;rw [hfl,hd];rfl];refine a0p (show (!(!(op b).Down))=true by rw [hd];rfl) ?_;show some (⟨[.b false],[(op b).e]⟩:Outs)=bif (op b).Down then some ⟨[.b (!(op b).Down)],[(op b).e]⟩ else _;rw [show (!(op b).Down)=false by rw [hd];rfl,hd];rfl
  ·rw [show a5x b i=b by unfold a5x;rw [hfl];rfl];refine a0p (hfa.trans hfl) ?_;show G (b.stM (W64 ((i:Int)+1)) (a4c b.Mems))=bif b.Down then _ else G (b.st (i+1));rw [a2s (by omega),hbD];rfl
 ·unfold a7e;refine a0l (show decide ((a.Mems.length:Int)<((a4c a.Mems).length:Int))=false by simp) ?_;show some (⟨[.b true],[b.e]⟩:Outs)=some ⟨[.b (!b.Down)],[b.e]⟩;rw [show (!b.Down)=true by rw [hbD];rfl]
theorem f6q (r:Rec) (h:r.Data.length≤Big):Rn 4 N.g4w [.v r.e] ⟨[.b (d9r r)],[]⟩:=by
 refine Rn.of fun k hk=>?_;rw [d8r];unfold c4e d9r;refine a1s (a0v _ _ _ k (by omega)) ?_;cases a0f r.Seq 0 60000
 ·rfl
 refine a0p rfl (a1s (a0v _ _ _ k (by omega)) ?_);cases a0f r.Stripe 0 7
 ·rfl
 refine a0p rfl ?_;rw [List.length_map];refine a1s (a0v _ _ _ k (by omega)) ?_;cases a0f (r.Data.length:Int) 2 4
 ·rfl
 exact a0p rfl (a1s (b7a r.Data h k (by omega)) rfl)
theorem f0k {r:Rec} (h:d9r r=true):r.Data.length≤4:=by
 unfold d9r at h;simp only [Bool.and_eq_true] at h;have:=a0r h.2.2.1;omega
theorem f3d (r:Rec) (h:r.Data.length≤Big):Rn 5 N.g4x [.v r.e] ⟨[.r (eIs (c4o r))],[]⟩:=by
 refine Rn.of fun k hk=>?_;rw [d5s];unfold c1c c4o;refine a1s (f6q r h k (by omega)) ?_;cases ho:d9r r
 ·rfl
 ·have:=f0k ho;refine a0l rfl ((a0h (by simp;omega) _).trans ?_);rw [List.length_map];rfl
theorem f0l (q:Int):Rn 1 N.g4v [.v [.i q]] ⟨[.i (c3d q)],[]⟩:=by
 refine Rn.of fun k hk=>?_;rw [d5r];unfold c1b c3d;by_cases hq:q<0
 ·rw [decide_eq_true hq];rfl
 ·rw [decide_eq_false hq];have h1:=Int.tmod_eq_emod_of_nonneg (a:=q) (b:=4) (by omega);have h2:=Int.emod_nonneg q (b:=4) (by omega);have h3:=Int.emod_lt_of_pos q (b:=4) (by omega);show some (⟨[.i (W64 (2+Int.tmod q 4))],[]⟩:Outs)=_;rw [h1,a0g (by omega) (by omega)];rfl
theorem f8z (l:List Int) (h:l.length≤Big):Rn 3 N.g4y [.v [.r (eIs l)]] ⟨[.i (f7h l)],[]⟩:=by
 refine Rn.of fun k hk=>?_;rw [c2s];unfold b4a;exact a1s (e9k l h k (by omega)) rfl
def KS (a:Arr):Option Outs:=some ⟨[.b (!(b1u a).Down)],[(b1u a).e]⟩
theorem f0m (a:Arr) (m:Nat):Rn 1 N.g2x [.v a.e,.v [.i (m:Int)]] ⟨(b9f a m).e,[]⟩:=by
 refine Rn.of fun k hk=>?_;rw [b8a];rfl
theorem f9a (a:Arr) (hD:a.Down=false) (hF:Fz a) (hw:a.w+a.Mems.length*10≤2147483648) (hl:inI a.Lost) (hg:0≤a.Gen∧a.Gen≤100000) :
  Rn 10 N.g4t [.p a.e] ⟨[.b (!(mark a).Down)],[(mark a).e]⟩:=by
 refine Rn.of fun k hk=>?_;have hB:Big=4294967296:=rfl;have hml:=b0w a (by omega);rw [c9c];unfold b6w b1p;rw [a0g (n:=a.Gen+1) (by omega) (by omega)];refine (e4c (f:=a8s) (fun _ _=>d6j) KS (n:=a.Mems.length) (Rnd { a with Gen:=a.Gen+1 } 10) (fun i b hi h=>h.next d9n (c9v b i) (e3z b i)) (fun i b G hi h hbD=>?_) (fun b G h hbD=>?_) (a:={ a with Gen:=a.Gen+1 }) (Rnd.first hF) hD (by omega)).trans rfl
 ·have hbw:=h.w (Nat.le_of_lt hi);obtain ⟨h1,h2,h3⟩:=h;have hbn:b.Mems.length=a.Mems.length:=h2.n;have hbl:inI b.Lost:=by
    have:b.Lost=a.Lost:=h2.lost;rw [this];exact hl
  have hbw:b.w≤a.w+a.Mems.length*10:=hbw;have hps:=(a7l (b9f b i)).2;unfold a7f;refine a0p (show decide ((i:Int)<((a4c a.Mems).length:Int))=true by simp;omega) ?_;refine a1s (f0m b i k (by omega)) (a1s (d2p (b9f b i) hbl k (by omega)) ?_);refine a1s (e1z b i (by omega) (Int.tmod b.Gen 2) (a4o (b9f b i)) hbD h1 (by omega) (by omega) k (by omega)) ?_;show (bif !(!(a8s b i).Down) then _ else _)=_;rcases (Bool.eq_false_or_eq_true (a8s b i).Down).symm with hd | hd
  ·refine a0l (show (!(!(a8s b i).Down))=false by rw [hd];rfl) ?_;show G ((a8s b i).stM (W64 ((i:Int)+1)) (a4c (a8s b i).Mems))=bif (a8s b i).Down then _ else G ((a8s b i).st (i+1));rw [a2s (by omega),hd];rfl
  ·refine a0p (show (!(!(a8s b i).Down))=true by rw [hd];rfl) ?_;show some (⟨[.b false],[(a8s b i).e]⟩:Outs)=bif (a8s b i).Down then KS (a8s b i) else _;rw [hd];show _=KS (a8s b i);unfold KS;rw [d9p hd,hd];rfl
 ·have hbw:=h.w (Nat.le_refl _);have hbw:b.w≤a.w+a.Mems.length*10:=hbw;unfold a7f;refine a0l (show decide ((a.Mems.length:Int)<((a4c a.Mems).length:Int))=false by simp) ?_;exact a1s (f0j b hbD h.1 (by omega) k (by omega)) rfl
theorem f6r (a:Arr) (hD:a.Down=false) (hF:Fz a) (hw:a.w+a.Mems.length*10≤2147483648) (hl:inI a.Lost) (hg:0≤a.Gen∧a.Gen≤100000) :
  Rn 11 N.g4u [.p a.e] ⟨[.b (!(a8n a).Down)],[(a8n a).e]⟩:=by
 refine Rn.of fun k hk=>?_;have hB:Big=4294967296:=rfl;have hk':=b4f a;have hsw:=e3y a;rw [c5h];unfold b5m;refine a1s (f0j a hD hF (by omega) k (by omega)) ?_;rcases b1v a with ⟨hd,e⟩ | ⟨hd,e⟩
 ·rw [e];refine a0p (show (!(!(b1u a).Down))=true by rw [hd];rfl) ?_;show some (⟨[.b false],[(b1u a).e]⟩:Outs)=some ⟨[.b (!(b1u a).Down)],[(b1u a).e]⟩;rw [show (!(b1u a).Down)=false by rw [hd];rfl]
 ·rw [e];refine a0l (show (!(!(b1u a).Down))=false by rw [hd];rfl) ?_;exact a1s (f9a { b1u a with Tail:=(b1u a).Seq } hd (c9u hF) (show (b1u a).w+(b1u a).Mems.length*10≤_ by rw [hk'.n];omega) (show inI (b1u a).Lost by rw [hk'.lost];exact hl) (show 0≤(b1u a).Gen∧(b1u a).Gen≤100000 by rw [hk'.gen];exact hg) k (by omega)) rfl
theorem e5x (r:Rec) (a:Arr) (m:Nat):Keep a (b2a r a m):=c6d _ _ _ _
theorem f6s (r:Rec) (a:Arr) (m:Nat):(b2a r a m).w≤a.w+9:=by
 have h1:=f0d a m (c3d r.Seq) (c4o r);have h2:=c3f r;unfold b2a;omega
theorem e4e (a:Arr) (r:Rec) (hr:r.Data.length≤Big) (hD:a.Down=false) (hF:Fz a) (hw:a.w+a.Mems.length*9≤2147483648) :
  Rn 10 N.g3z [.p a.e,.v r.e] ⟨[.b (!(b2u a r).Down)],[(b2u a r).e]⟩:=by
 refine Rn.of fun k hk=>?_;have hB:Big=4294967296:=rfl;have hml:=b0w a (by omega);have hrl:=c3f r;rw [c2r];unfold b3z a8y;refine (e4c (f:=b2a r) (fun _ _=>d6j) KS (n:=a.Mems.length) (Rnd a 9) (fun i b hi h=>h.next d9n (e5x r b i) (f6s r b i)) (fun i b G hi h hbD=>?_) (fun b G h hbD=>?_) (a:=a) (Rnd.first hF) hD (by omega)).trans rfl
 ·have hbw:=h.w (Nat.le_of_lt hi);obtain ⟨h1,h2,h3⟩:=h;have hbn:b.Mems.length=a.Mems.length:=h2.n;unfold a5a;refine a0p (show decide ((i:Int)<((a4c a.Mems).length:Int))=true by simp;omega) ?_;refine a1s (f0l r.Seq k (by omega)) (a1s (f3d r hr k (by omega)) ?_);refine a1s (e1z b i (by omega) (c3d r.Seq) (c4o r) hbD h1 (by omega) (by omega) k (by omega)) ?_;show (bif !(!(b2a r b i).Down) then _ else _)=_;rcases (Bool.eq_false_or_eq_true (b2a r b i).Down).symm with hd | hd
  ·refine a0l (show (!(!(b2a r b i).Down))=false by rw [hd];rfl) ?_;show G ((b2a r b i).stM (W64 ((i:Int)+1)) (a4c (b2a r b i).Mems))=bif (b2a r b i).Down then _ else G ((b2a r b i).st (i+1));rw [a2s (by omega),hd];rfl
  ·refine a0p (show (!(!(b2a r b i).Down))=true by rw [hd];rfl) ?_;show some (⟨[.b false],[(b2a r b i).e]⟩:Outs)=bif (b2a r b i).Down then KS (b2a r b i) else _;rw [hd];show _=KS (b2a r b i);unfold KS;rw [d9p hd,hd];rfl
 ·have hbw:=h.w (Nat.le_refl _);unfold a5a;refine a0l (show decide ((a.Mems.length:Int)<((a4c a.Mems).length:Int))=false by simp) ?_;exact a1s (f0j b hbD h.1 (by omega) k (by omega)) rfl
theorem d6o {l:List Int} {i:Nat} (h:i<l.length) (n:Int):a4f (eIs l) i 0 [.i n]=eIs (l.set i n):=c9h (fun n=>[.i n]) h 0 [.i n] n rfl
theorem e5y {s:Int} {data:List Int} {a:Arr} {m:Nat} (h:Fz a):Fz (a2h s data a m):=by
 unfold a2h;cases b7b a m s
 ·exact h
 ·exact d9n h
theorem f0n (s:Int) (data:List Int) (a:Arr) (m:Nat):(a2h s data a m).w≤a.w+2:=by
 unfold a2h;cases b7b a m s
 ·exact Nat.le_add_right _ _
 ·exact f0d _ _ _ _
theorem d2v (a:Arr) (s:Int) (data:List Int) (hs:a0n a.G s=true) (hd:(data.length:Int)=a.G.N - 1) (hn:(a.Mems.length:Int)=a.G.N) (hD:a.Down=false) (hF:Fz a) (hw:a.w+a.Mems.length*2≤2147483648) :
  Rn 10 N.g2c [.p a.e,.v [.i s],.v [.r (eIs data)]] ⟨[.b (!(a9n a s data).Down)],[(a9n a s data).e]⟩:=by
 refine Rn.of fun k hk=>?_;have hB:Big=4294967296:=rfl;obtain ⟨hp0,hp1⟩:=c6f hs;obtain ⟨g1,g2,_,_⟩:=a1a (a4m hs).1;rw [c5i];unfold a9y a9x;refine (a0h (by simp;omega) _).trans ?_;refine a1s (d2m a.G s k (by omega)) (a1s (f8z data (by omega) k (by omega)) ?_);refine (a0h (show (decide (0≤a1r a.G s)&&decide (a1r a.G s<((List.replicate a.G.N.toNat ([.i 0]:List T)).length:Int)))=true by simp;omega) _).trans ?_;have e0:a4f (List.replicate a.G.N.toNat ([.i 0]:List T)) (a1r a.G s).toNat 0 [.i (f7h data)]=eIs ((List.range a.G.N.toNat).map (b7u a.G s data 0)):=by
  rw [← e1y hs data,← d6o (by simp;omega),eIs,List.map_replicate]
 show a2z _ k ((0:Int),a4f (List.replicate a.G.N.toNat ([.i 0]:List T)) (a1r a.G s).toNat 0 [.i (f7h data)])=_;rw [e0];refine (a7k (R:=Outs) data.length (fun i=>((i:Int),eIs ((List.range a.G.N.toNat).map (b7u a.G s data i)))) (fun _=>KB (a9n a s data)) (fun i hi G hG=>?_) (fun G=>?_) (by omega)).trans rfl
 ·have hi':(i:Int)<a.G.N - 1:=by omega
  have hwi:a0f (i:Int) 0 (a.G.N - 2)=true:=by unfold a0f;simp;omega
  obtain ⟨b0,b1⟩:=e3o hs hwi;unfold a2x a6d;refine a0p (show decide ((i:Int)<((eIs data).length:Int))=true by simp;omega) ?_;refine (a0h (show (decide (0≤(i:Int))&&decide ((i:Int)<((eIs data).length:Int)))=true by simp;omega) _).trans ?_;refine a1s (e3p a.G s i k (by omega)) ?_;refine (a0h (show (decide (0≤b0h a.G s i)&&decide (b0h a.G s i<((eIs ((List.range a.G.N.toNat).map (b7u a.G s data i))).length:Int)))=true by simp;omega) _).trans ?_;show G (W64 ((i:Int)+1),a4f (eIs ((List.range a.G.N.toNat).map (b7u a.G s data i))) (b0h a.G s i).toNat 0 [.i (at_ (eIs data) i 0).asI])=_;rw [a9z hi,d6o (by simp;omega),e5v hs data i hi',a2s (by omega)];exact hG
 ·unfold a2x a6d;refine a0l (show decide ((data.length:Int)<((eIs data).length:Int))=false by simp) ?_;have hll:((List.range a.G.N.toNat).map (b7u a.G s data data.length)).length=a.Mems.length:=by simp;omega
  refine (e4c (f:=a2h s data) d9t KB (n:=a.Mems.length) (Rnd a 2) (fun i b hi h=>h.next e5y (c4p s data b i) (f0n s data b i)) (fun i b G hi h hbD=>?_) (fun b G h hbD=>?_) (a:=a) (Rnd.first hF) hD (by omega)).trans rfl
  ·have hbw:=h.w (Nat.le_of_lt hi);obtain ⟨h1,h2,h3⟩:=h;have hbn:b.Mems.length=a.Mems.length:=h2.n;have hbg:b.G=a.G:=h2.g;unfold a2a;refine a0p (show decide ((i:Int)<((eIs ((List.range a.G.N.toNat).map (b7u a.G s data data.length))).length:Int))=true by rw [List.length_map,hll];exact dlt hi) ?_;refine (a0h (show (decide (0≤(i:Int))&&decide ((i:Int)<((eIs ((List.range a.G.N.toNat).map (b7u a.G s data data.length))).length:Int)))=true by rw [List.length_map,hll,dlt hi];simp) _).trans ?_;refine a1s (e3l b (by omega) i s k (by omega)) ?_;rcases (Bool.eq_false_or_eq_true (b7b b i s)).symm with hl | hl
   ·rw [show a2h s data b i=b by unfold a2h;rw [hl];rfl];refine a0l hl ?_;show G (b.stM (W64 ((i:Int)+1)) (a4c b.Mems))=bif b.Down then _ else G (b.st (i+1));rw [a2s (by omega),hbD];rfl
   ·have hX:put b i (b1r s) [c3e b.G s data i]=a2h s data b i:=by unfold a2h;rw [hl];rfl
    have hx:(at_ (eIs ((List.range a.G.N.toNat).map (b7u a.G s data data.length))) i 0).asI=c3e b.G s data i:=by
     rw [a9z (by omega),hbg,← e5w hs data hd i (by omega),List.getD_eq_getElem?_getD,List.getElem?_map,List.getElem?_range (by omega)];rfl
    refine a0p hl (a1s (d6d s k (by omega)) ?_);refine a1s ((congrArg (fun x=>a0d E P0 k N.g2u [.p b.e,.v [.i (i:Int)],.v [.i (b1r s)],.v [.r [[.i x]]]]) hx).trans (e1z b i (by omega) (b1r s) [c3e b.G s data i] hbD h1 (by omega) (by show 1≤Big;omega) k (by omega))) ?_;rw [hX];rcases (Bool.eq_false_or_eq_true (a2h s data b i).Down).symm with hd | hd
    ·refine a0l (show (!(!(a2h s data b i).Down))=false by rw [hd];rfl) ?_;show G ((a2h s data b i).stM (W64 ((i:Int)+1)) (a4c (a2h s data b i).Mems))=bif (a2h s data b i).Down then _ else G ((a2h s data b i).st (i+1));rw [a2s (by omega),hd];rfl
    ·refine a0p (show (!(!(a2h s data b i).Down))=true by rw [hd];rfl) ?_;show some (⟨[.b false],[(a2h s data b i).e]⟩:Outs)=bif (a2h s data b i).Down then KB (a2h s data b i) else _;rw [hd];show _=KB (a2h s data b i);unfold KB;rw [hd];rfl
  ·unfold a2a;refine a0l (show decide ((a.Mems.length:Int)<((eIs ((List.range a.G.N.toNat).map (b7u a.G s data data.length))).length:Int))=false by rw [List.length_map,hll];exact dll) ?_;show some (⟨[.b true],[b.e]⟩:Outs)=some ⟨[.b (!b.Down)],[b.e]⟩;rw [show (!b.Down)=true by rw [hbD];rfl]
theorem e0a {a:Arr} {data:List Int} (ha:a5v a=true) (hdt:b2s a.G data=true):(data.length:Int)=a.G.N - 1∧data.length≤4:=by
 obtain ⟨g1,g2,_,_⟩:=a1a (d0z ha).1;unfold b2s at hdt;have h1:(data.length:Int)=a.G.N - 1:=by simpa using (a0a hdt).1
 exact ⟨h1,by omega⟩
theorem f3e (a:Arr) (s:Int) (data:List Int) (ha:a5v a=true) (hdt:b2s a.G data=true) (hD:a.Down=false) (hs:a0n a.G s=true) (hw:a.w≤1073741824) :
  Rn 12 N.g4z [.p a.e,.v [.i s],.v [.r (eIs data)]] ⟨[.b (!(a3r a s data).Down)],[(a3r a s data).e]⟩:=by
 refine Rn.of fun k hk=>?_;have hB:Big=4294967296:=rfl;obtain ⟨g1,g2,_,_⟩:=a1a (d0z ha).1;obtain ⟨c1,c2,c3,c4,c5,c6,c7,hF,c8,c9⟩:=d2u ha;have hmN:=(d0z ha).2.1;obtain ⟨hdN,hd4⟩:=e0a ha hdt;have hdl:data.length≤Big:=by omega
 rw [c2v];unfold b4b;rw [a0g (n:=a.Seq - a.Tail) (by omega) (by omega)];rcases Bool.eq_false_or_eq_true (decide (a.Seq - a.Tail≥4)) with h4 | h4
 ·refine a0p h4 ?_;have hSB:a1n a=a8n a:=by unfold a1n;exact a0p h4 rfl
  have hBF:=f3b hF;have hBk:=d2r a;have hBw:=f0f a;have hBn:=hBk.n;have hBg:=hBk.g;have hBs:=hBk.seq;refine a1s (f6r a hD hF (by omega) ⟨by omega,by omega⟩ ⟨by omega,by omega⟩ k (by omega)) ?_;rcases (Bool.eq_false_or_eq_true (a8n a).Down).symm with hBD | hBD
  ·refine a0l (show (!(!(a8n a).Down))=false by rw [hBD];rfl) ?_;have hrec:=e4e (a8n a) ⟨(a8n a).Seq,s,data⟩ hdl hBD hBF (by omega) k (by omega);have hk2:=b4x (a8n a) ⟨(a8n a).Seq,s,data⟩;have hfz:=d9s (r:=⟨(a8n a).Seq,s,data⟩) hBF;have hwr:=d6l (a8n a) ⟨(a8n a).Seq,s,data⟩;generalize hC:b2u (a8n a) ⟨(a8n a).Seq,s,data⟩=C at hrec hk2 hfz hwr;have hcn:C.Mems.length=a.Mems.length:=hk2.n.trans hBn;have hcg:C.G=a.G:=hk2.g.trans hBg;have hcs:C.Seq=a.Seq:=hk2.seq.trans hBs;rw [hBn] at hwr;refine a1s (a2j data hdl k (by omega)) (a1s hrec ?_);rcases (Bool.eq_false_or_eq_true C.Down).symm with hr | hr
   ·have hst:a3r a s data=a9n { C with Seq:=C.Seq+1 } s data:=by unfold a3r;rw [hSB,hBD,cond_false,hC];exact a0l hr rfl
    have hw1:W64 (C.Seq+1)=C.Seq+1:=a0g (by omega) (by omega);have hpw:=d2v { C with Seq:=C.Seq+1 } s data (by rw [show ({ C with Seq:=C.Seq+1 }:Arr).G=a.G from hcg];exact hs) (by rw [show ({ C with Seq:=C.Seq+1 }:Arr).G=a.G from hcg];exact hdN) (show (C.Mems.length:Int)=C.G.N by rw [hcn,hcg];exact hmN) hr hfz (show C.w+C.Mems.length*2≤_ by omega) k (by omega);rw [hst];refine a0l (show (!(!C.Down))=false by rw [hr];rfl) ?_;refine a1s ((congrArg (fun q=>a0d E P0 k N.g2c [.p [.i C.Id,.i C.G.N,.i C.G.S,.r (a4c C.Mems),.i C.Lost,.i C.Built,.i q,.i C.Tail,.i C.Gen,.r (a3h C.Dirty),.i C.Fuse,.b C.Down,.b C.Broken],.v [.i s],.v [.r (eIs data)]]) hw1).trans hpw) ?_;rfl
   ·have hst:a3r a s data=C:=by unfold a3r;rw [hSB,hBD,cond_false,hC];exact a0p hr rfl
    rw [hst];refine a0p (show (!(!C.Down))=true by rw [hr];rfl) ?_;show some (⟨[.b false],[C.e]⟩:Outs)=some ⟨[.b (!C.Down)],[C.e]⟩;rw [show (!C.Down)=false by rw [hr];rfl]
  ·have hst:a3r a s data=a8n a:=by unfold a3r;rw [hSB];exact a0p hBD rfl
   rw [hst];refine a0p (show (!(!(a8n a).Down))=true by rw [hBD];rfl) ?_;show some (⟨[.b false],[(a8n a).e]⟩:Outs)=some ⟨[.b (!(a8n a).Down)],[(a8n a).e]⟩;rw [show (!(a8n a).Down)=false by rw [hBD];rfl]
 ·refine a0l h4 ?_;have hSB:a1n a=a:=by unfold a1n;exact a0l h4 rfl
  have hBF:=hF;have hBw:a.w≤a.w:=Nat.le_refl _;have hBn:a.Mems.length=a.Mems.length:=rfl;have hBg:a.G=a.G:=rfl;have hBs:a.Seq=a.Seq:=rfl;have hBD:=hD;have hrec:=e4e a ⟨a.Seq,s,data⟩ hdl hBD hBF (by omega) k (by omega);have hk2:=b4x a ⟨a.Seq,s,data⟩;have hfz:=d9s (r:=⟨a.Seq,s,data⟩) hBF;have hwr:=d6l a ⟨a.Seq,s,data⟩;generalize hC:b2u a ⟨a.Seq,s,data⟩=C at hrec hk2 hfz hwr;have hcn:C.Mems.length=a.Mems.length:=hk2.n.trans hBn;have hcg:C.G=a.G:=hk2.g.trans hBg;have hcs:C.Seq=a.Seq:=hk2.seq.trans hBs;rw [hBn] at hwr;refine a1s (a2j data hdl k (by omega)) (a1s hrec ?_);rcases (Bool.eq_false_or_eq_true C.Down).symm with hr | hr
  ·have hst:a3r a s data=a9n { C with Seq:=C.Seq+1 } s data:=by unfold a3r;rw [hSB,hBD,cond_false,hC];exact a0l hr rfl
   have hw1:W64 (C.Seq+1)=C.Seq+1:=a0g (by omega) (by omega);have hpw:=d2v { C with Seq:=C.Seq+1 } s data (by rw [show ({ C with Seq:=C.Seq+1 }:Arr).G=a.G from hcg];exact hs) (by rw [show ({ C with Seq:=C.Seq+1 }:Arr).G=a.G from hcg];exact hdN) (show (C.Mems.length:Int)=C.G.N by rw [hcn,hcg];exact hmN) hr hfz (show C.w+C.Mems.length*2≤_ by omega) k (by omega);rw [hst];refine a0l (show (!(!C.Down))=false by rw [hr];rfl) ?_;refine a1s ((congrArg (fun q=>a0d E P0 k N.g2c [.p [.i C.Id,.i C.G.N,.i C.G.S,.r (a4c C.Mems),.i C.Lost,.i C.Built,.i q,.i C.Tail,.i C.Gen,.r (a3h C.Dirty),.i C.Fuse,.b C.Down,.b C.Broken],.v [.i s],.v [.r (eIs data)]]) hw1).trans hpw) ?_;rfl
  ·have hst:a3r a s data=C:=by unfold a3r;rw [hSB,hBD,cond_false,hC];exact a0p hr rfl
   rw [hst];refine a0p (show (!(!C.Down))=true by rw [hr];rfl) ?_;show some (⟨[.b false],[C.e]⟩:Outs)=some ⟨[.b (!C.Down)],[C.e]⟩;rw [show (!C.Down)=false by rw [hr];rfl]
theorem f3f (x:Bool):Rn 1 N.g5a [.v [.b x]] ⟨[.i (bif x then 0 else 6)],[]⟩:=by
 refine Rn.of fun k hk=>?_;rw [d5u];cases x <;> rfl
theorem d6p (a:Arr) (s:Int) (data:List Int) (hw:a.w≤1073741824) (hf:b3n a) (hdl:data.length≤Big) :
  Rn 13 N.g4a [.v a.e,.v [.i s],.v [.r (eIs data)]] ⟨(a1f a s data).1.e++[.i (a1f a s data).2],[]⟩:=by
 refine Rn.of fun k hk=>?_;have hB:Big=4294967296:=rfl;have fail:∀ c:Int,a2c a s data=c→(c == 0)=false→a1f a s data=(a,c):=fun c h1 h2=>by unfold a1f;rw [h1,h2];rfl
 rw [c1f];unfold b2k;refine a1s (c1m a (by omega) k (by omega)) (a1s (c9l a (by omega) hf k (by omega)) ?_);rcases (Bool.eq_false_or_eq_true (a5v a)).symm with ha | ha
 ·rw [fail 1 (by unfold a2c;rw [ha];rfl) rfl];exact a0p (show (!(a5v a))=true by rw [ha];rfl) rfl
 refine a0l (show (!(a5v a))=false by rw [ha];rfl) ?_;refine a1s (e3j a.G (d0z ha).1 data hdl k (by omega)) ?_;unfold a7j;rcases (Bool.eq_false_or_eq_true (b2s a.G data)).symm with hd | hd
 ·rw [fail 1 (by unfold a2c;rw [ha,hd];rfl) rfl];exact a0p (show (!(b2s a.G data))=true by rw [hd];rfl) rfl
 refine a0l (show (!(b2s a.G data))=false by rw [hd];rfl) ?_;rcases Bool.eq_false_or_eq_true a.Down with hD | hD
 ·rw [fail 6 (by unfold a2c;rw [ha,hd,hD];rfl) rfl];exact a0p hD rfl
 refine a0l hD (a1s (a8z a.G s k (by omega)) ?_);rcases (Bool.eq_false_or_eq_true (a0n a.G s)).symm with hs | hs
 ·rw [fail 2 (by unfold a2c;rw [ha,hd,hD,hs];rfl) rfl];exact a0p (show (!(a0n a.G s))=true by rw [hs];rfl) rfl
 refine a0l (show (!(a0n a.G s))=false by rw [hs];rfl) ?_;rcases Bool.eq_false_or_eq_true a.Broken with hb | hb
 ·rw [fail 5 (by unfold a2c;rw [ha,hd,hD,hs,hb];rfl) rfl];exact a0p hb rfl
 refine a0l hb ?_;have full:((a.Seq == 60000) || decide (a.Gen≥59990))=true→a4j k s (eIs data) ⟨a.e,[]⟩ true=some ⟨(a1f a s data).1.e++[.i (a1f a s data).2],[]⟩:=fun h=>by
  rw [fail 7 (by unfold a2c;rw [ha,hd,hD,hs,hb,h];rfl) rfl];rfl
 rcases Bool.eq_false_or_eq_true (a.Seq == 60000) with hq | hq
 ·exact a0p hq (full (by rw [hq];rfl))
 refine a0l hq ?_;rcases Bool.eq_false_or_eq_true (decide (a.Gen≥59990)) with hg | hg
 ·rw [hg];exact full (by rw [hg];simp)
 rw [hg];have h0:a1f a s data=(a3r a s data,d6m (a3r a s data)):=by
  unfold a1f;rw [show a2c a s data=0 by unfold a2c;rw [ha,hd,hD,hs,hb,hq,hg];rfl];rfl
 rw [h0];unfold a4j;refine a0l rfl (a1s (f3e a s data ha hd hD hs hw k (by omega)) (a1s (f3f _ k (by omega)) ?_));unfold d6m;cases (a3r a s data).Down <;> rfl
theorem f3g {a:Arr} {n:Nat} (h:n<a.Dirty.length):(at_ (a3h a.Dirty) n 1).asR=eIs (a.Dirty.getD n default).Data:=by
 rw [a1p _ h,a2b h];rfl
theorem c1r (a:Arr) (s:Int) (hw:a.w≤1073741824) (hf:b3n a) :
  Rn 14 N.g2v [.v a.e,.v [.i s]] ⟨(a0x a s).1.e++[.i (a0x a s).2],[]⟩:=by
 refine Rn.of fun k hk=>?_;have hB:Big=4294967296:=rfl;have hml:=b0w a (by omega);have hc:=c1m a (by omega) k (by omega);have fail:∀ c:Int,a6r a s=c→(c != 0)=true→a0x a s=(a,c):=fun c h1 h2=>by unfold a0x;rw [h1,h2];rfl
 rw [c1g];unfold b2l;refine a1s (c9l a (by omega) hf k (by omega)) ?_;rcases (Bool.eq_false_or_eq_true (a5v a)).symm with ha | ha
 ·rw [fail 1 (by unfold a6r;rw [ha];rfl) rfl];exact a0p (show (!(a5v a))=true by rw [ha];rfl) (a1s hc rfl)
 refine a0l (show (!(a5v a))=false by rw [ha];rfl) ?_;rcases Bool.eq_false_or_eq_true a.Down with hD | hD
 ·rw [fail 6 (by unfold a6r;rw [ha,hD];rfl) rfl];exact a0p hD (a1s hc rfl)
 refine a0l hD (a1s (a8z a.G s k (by omega)) ?_);rcases (Bool.eq_false_or_eq_true (a0n a.G s)).symm with hs | hs
 ·rw [fail 2 (by unfold a6r;rw [ha,hD,hs];rfl) rfl];exact a0p (show (!(a0n a.G s))=true by rw [hs];rfl) (a1s hc rfl)
 refine a0l (show (!(a0n a.G s))=false by rw [hs];rfl) (a1s (e9p a (by omega) s k (by omega)) ?_);have h0:a6r a s=0:=by unfold a6r;rw [ha,hD,hs];rfl
 rcases Bool.eq_false_or_eq_true (decide (a4g a s<0)) with hn | hn
 ·rw [show a0x a s=(a,0) by unfold a0x;rw [h0,hn];rfl];exact a0p hn (a1s hc rfl)
 have hn':=of_decide_eq_false hn;have hix:=d6g (a:=a) (s:=s) (decide_eq_true (by omega));obtain ⟨n,hN⟩:∃ n:Nat,a4g a s=(n:Int):=⟨(a4g a s).toNat,by omega⟩;rw [hN] at hix hn;have hnl:n<a.Dirty.length:=by omega
 have hfs:a0x a s=b4y a n (a1f a s (a.Dirty.getD n default).Data):=by
  unfold a0x;rw [h0,hN,hn];rfl
 rw [hfs,hN];refine a0l hn ?_;refine (a0h (show (decide (0≤(n:Int))&&decide ((n:Int)<((a3h a.Dirty).length:Int)))=true by simp;omega) _).trans ?_;have hdw:=e9q a (by omega) hnl;have hde:=a2b hnl (default:Ent);have hws:=d6p a s (a.Dirty.getD n default).Data hw hf (by rw [hde];omega) k (by omega);obtain ⟨w1,w2⟩:=c1q a s (a.Dirty.getD n default).Data;generalize a1f a s (a.Dirty.getD n default).Data=p at hws w1 w2;refine a1s ((congrArg (fun x=>a0d E P0 k N.g4a [.v a.e,.v [.i s],.v [.r x]]) (f3g hnl)).trans hws) ?_;unfold b4y;have hpl:n<(a3h p.1.Dirty).length:=by rw [List.length_map,w2];exact hnl
 rcases (Bool.eq_false_or_eq_true (p.2 == 0)).symm with hp | hp
 ·rw [hp];exact a0l hp rfl
 ·rw [hp];refine a0p hp ?_;refine (a0h (a5w (l:=(a3h p.1.Dirty).length) hpl (by rw [List.length_map,w2];omega)) _).trans ?_;have hd:=f6l (l:=a3h p.1.Dirty) hpl (by rw [List.length_map,w2];omega);have hz:p.2=0:=by simpa using hp
  show some (⟨[_,_,_,_,_,_,_,_,_,.r ((a3h p.1.Dirty).take (n:Int).toNat++(a3h p.1.Dirty).drop (W64 ((n:Int)+1)).toNat),_,_,_,.i p.2],[]⟩:Outs)=_;rw [hd,hz,show del (a3h p.1.Dirty) n=a3h (del p.1.Dirty n) from (d6h Ent.e p.1.Dirty n).symm];rfl
theorem f0o (s:Int):∀ (l:List Ent) (i:Nat),i<c6e s l→(l.getD i default).Stripe<s
 | [],i,h=>by simp [c6e] at h
 | x :: l,i,h=>by
  unfold c6e at h;cases hd:decide (x.Stripe<s)
  ·rw [hd] at h;simp at h
  ·rw [hd] at h;cases i with
   | zero=>exact of_decide_eq_true hd
   | succ i=>simpa using f0o s l i (by simpa using h)
theorem f0p (s:Int):∀ l:List Ent,c6e s l<l.length→¬ (l.getD (c6e s l) default).Stripe<s
 | x :: l,h=>by
  have e1:c6e s (x :: l)=bif decide (x.Stripe<s) then c6e s l+1 else 0:=rfl;cases hd:decide (x.Stripe<s)
  ·rw [hd] at e1;rw [e1];exact of_decide_eq_false hd
  ·rw [hd] at e1;rw [e1] at h ⊢;simpa using f0p s l (by simpa using h)
theorem b7q (a:Arr) (b n:Int) (hw:a.w≤1073741824) (hf:b3n a) :
  Rn 12 N.g1w [.v a.e,.v [.i b],.v [.i n]] ⟨(a0w a b n).1.e++[.i (a0w a b n).2],[]⟩:=by
 refine Rn.of fun k hk=>?_;have hB:Big=4294967296:=rfl;have hml:=b0w a (by omega);rw [c9a];unfold b6u a8k;refine a1s (c1m a (by omega) k (by omega)) (a1s (c9q a (by omega) hf b k (by omega)) ?_);have J2:∀ c:Int,b3m a b n=c→a7c k a.Id a.G.N a.G.S (a4c a.Mems) a.Lost a.Built a.Seq a.Tail a.Gen (a3h a.Dirty) a.Fuse a.Down a.Broken b n ⟨a.e,[]⟩ (fun y0 y1 y2 v=>a2z (a2l k y0 y1 y2) k v) c=some ⟨(a0w a b n).1.e++[.i (a0w a b n).2],[]⟩:=by
  intro c hc;unfold a7c;rcases Bool.eq_false_or_eq_true (c != 0) with h0 | h0
  ·rw [show a0w a b n=(a,c) by unfold a0w;rw [hc];exact a0p h0 rfl];exact a0p h0 rfl
  refine a0l h0 ?_;have hsc:=d9v (a:=a) (b:=b) (n:=n) (by rw [hc];exact h0);obtain ⟨ha,hD,hb⟩:=c9w hsc.1;refine a1s (b7o a.G b k (by omega)) (a1s (d9g a (by omega) hf ha _ (d2n hb) k (by omega)) ?_);rcases (Bool.eq_false_or_eq_true (a3k a (a0k a.G b)).2).symm with hd | hd
  ·rw [show a0w a b n=(a,5) by unfold a0w;rw [hc,h0,hd];rfl];exact a0p (show (!(a3k a (a0k a.G b)).2)=true by rw [hd];rfl) rfl
  have hsb:a0w a b n=({ a with Dirty:=b2v a.Dirty (c4s a b n) },0):=by unfold a0w;rw [hc,h0,hd];rfl
  refine a0l (show (!(a3k a (a0k a.G b)).2)=false by rw [hd];rfl) (a1s (d9f a.G b k (by omega)) ?_);obtain ⟨x0,x1⟩:=e9r ha hb hd;refine (a0h (show (decide (0≤b1s a.G b)&&decide (b1s a.G b<((eIs (a3k a (a0k a.G b)).1).length:Int)))=true by rw [List.length_map];simp;omega) _).trans ?_;have hpi:a4f (eIs (a3k a (a0k a.G b)).1) (b1s a.G b).toNat 0 [.i n]=eIs (c4s a b n).Data:=d6o (by omega) n;have hss:(c4s a b n).Stripe=a0k a.G b:=rfl;generalize c4s a b n=e at hsb hpi hss;rw [hsb];show a2z (a2l k ⟨a.e,[]⟩ ⟨[.i (a0k a.G b)],[]⟩ (a4f (eIs (a3k a (a0k a.G b)).1) (b1s a.G b).toNat 0 [.i n])) k ((0:Nat):Int)=_;rw [hpi,← hss];have hle:=f0h e.Stripe a.Dirty;refine (a7k (R:=Outs) (c6e e.Stripe a.Dirty) (fun i=>(i:Int)) (fun _=>some ⟨({ a with Dirty:=b2v a.Dirty e }:Arr).e++[.i 0],[]⟩) (fun i hi G hG=>?_) (fun G=>?_) (by omega)).trans rfl
  ·have hlt:=f0o e.Stripe a.Dirty i hi;unfold a2l;refine a0p (show decide ((i:Int)<((a3h a.Dirty).length:Int))=true by rw [List.length_map];exact dlt (by omega)) ?_;refine (a0h (show (decide (0≤(i:Int))&&decide ((i:Int)<((a3h a.Dirty).length:Int)))=true by rw [List.length_map,dlt (by omega)];simp) _).trans ?_;unfold a4u;refine a0p (show decide ((at_ (a3h a.Dirty) i 0).asI<e.Stripe)=true by rw [e1q (by omega)];exact decide_eq_true hlt) ?_;show G (W64 ((i:Int)+1))=_;rw [a2s (by omega)];exact hG
  ·generalize hix:c6e e.Stripe a.Dirty=i at hle;have ins:(∀ h:i<a.Dirty.length,a.Dirty[i].Stripe≠e.Stripe)→a3n k ⟨a.e,[]⟩ ⟨[.i e.Stripe],[]⟩ (eIs e.Data) (i:Int) false=some ⟨({ a with Dirty:=b2v a.Dirty e }:Arr).e++[.i 0],[]⟩:=by
    intro hne;unfold a3n;refine a0l rfl ?_;refine (a0h (show (decide (0≤(i:Int))&&decide ((i:Int)≤((a3h a.Dirty).length:Int)))=true by rw [List.length_map];simp;omega) _).trans ?_;refine (a0h (show decide (((a3h a.Dirty).length+([[.i e.Stripe,.r (eIs e.Data)]]:List (List T)).length)*32≤140737488355328)=true by simp;omega) _).trans ?_;have hp:=d2t a.Dirty e (by rw [hix];exact hne);rw [hix] at hp;have he:(a3h a.Dirty).take i++[e.e]++(a3h a.Dirty).drop i=a3h (b2v a.Dirty e):=by
     rw [hp];simp [List.map_take,List.map_drop]
    show some (⟨[_,_,_,_,_,_,_,_,_,.r ((a3h a.Dirty).take i++[e.e]++(a3h a.Dirty).drop i),_,_,_,.i 0],[]⟩:Outs)=_;rw [he];rfl
   unfold a2l;by_cases hil:i<a.Dirty.length
   ·have hge:=f0p e.Stripe a.Dirty (by rw [hix];exact hil);rw [hix] at hge;have hat:=e1q (l:=a.Dirty) hil;refine a0p (show decide ((i:Int)<((a3h a.Dirty).length:Int))=true by rw [List.length_map];exact dlt hil) ?_;refine (a0h (show (decide (0≤(i:Int))&&decide ((i:Int)<((a3h a.Dirty).length:Int)))=true by rw [List.length_map,dlt hil];simp) _).trans ?_;unfold a4u;refine a0l (show decide ((at_ (a3h a.Dirty) i 0).asI<e.Stripe)=false by rw [hat];exact decide_eq_false hge) ?_;refine a0p (show decide ((i:Int)<((a3h a.Dirty).length:Int))=true by rw [List.length_map];exact dlt hil) ?_;refine (a0h (show (decide (0≤(i:Int))&&decide ((i:Int)<((a3h a.Dirty).length:Int)))=true by rw [List.length_map,dlt hil];simp) _).trans ?_;show a3n k ⟨a.e,[]⟩ ⟨[.i e.Stripe],[]⟩ (eIs e.Data) (i:Int) ((at_ (a3h a.Dirty) i 0).asI == e.Stripe)=_;rw [hat];rcases (Bool.eq_false_or_eq_true ((a.Dirty.getD i default).Stripe == e.Stripe)).symm with he | he
    ·rw [he];exact ins fun h=>by rw [← a2b h default];simpa using he
    ·rw [he];have hse:a.Dirty[i].Stripe=e.Stripe:=by rw [← a2b hil default];simpa using he
     unfold a3n;refine a0p rfl ?_;refine (a0h (show (decide (0≤(i:Int))&&decide ((i:Int)<((a3h a.Dirty).length:Int)))=true by rw [List.length_map,dlt hil];simp) _).trans ?_;have hp:=d2s a.Dirty e (by rw [hix];exact hil) (by simp only [hix];exact hse);rw [hix] at hp;have hpm:a4f (a3h a.Dirty) i 1 [.r (eIs e.Data)]=a3h (a.Dirty.set i e):=c9h Ent.e hil 1 [.r (eIs e.Data)] e (by rw [show a.Dirty[i].e=[.i a.Dirty[i].Stripe,.r (eIs a.Dirty[i].Data)] from rfl,hse];rfl);show some (⟨[_,_,_,_,_,_,_,_,_,.r (a4f (a3h a.Dirty) i 1 [.r (eIs e.Data)]),_,_,_,.i 0],[]⟩:Outs)=_;rw [hpm,← hp];rfl
   ·have hil':i=a.Dirty.length:=by omega
    refine a0l (show decide ((i:Int)<((a3h a.Dirty).length:Int))=false by rw [List.length_map];exact decide_eq_false (by omega)) ?_;unfold a4u;refine a0l rfl ?_;refine a0l (show decide ((i:Int)<((a3h a.Dirty).length:Int))=false by rw [List.length_map];exact decide_eq_false (by omega)) ?_;exact ins fun h=>absurd h hil
 have J1:∀ c:Bool,b3m a b n=(bif c then 3 else a2g a b)→a7d k a.Id a.G.N a.G.S (a4c a.Mems) a.Lost a.Built a.Seq a.Tail a.Gen (a3h a.Dirty) a.Fuse a.Down a.Broken b n ⟨a.e,[]⟩ ⟨[.i (a2g a b)],[]⟩ (fun y0 y1 y2 v=>a2z (a2l k y0 y1 y2) k v) c=some ⟨(a0w a b n).1.e++[.i (a0w a b n).2],[]⟩:=by
  intro c hc;unfold a7d;cases c
  ·exact a0l rfl (J2 _ hc)
  ·exact a0p rfl (J2 _ hc)
 rcases (Bool.eq_false_or_eq_true (a2g a b == 0)).symm with h0 | h0
 ·refine a0l h0 (J1 false ?_);unfold b3m;rw [h0];rfl
 ·refine a0p h0 (a1s (e3i n k (by omega)) (J1 (!(c4h n)) ?_));unfold b3m;rw [h0];rfl
abbrev LJ (l:List Job) (n:Nat) (c:Cmd) (t:Int) (g:List Int) (d:Int):List (List T):=a0t (l.set n ⟨c,t,g,d⟩)
theorem d6q {l:List Job} {n:Nat} (hn:n<l.length) (c:Cmd) (t:Int) (g:List Int) (d:Int) (i:Nat):at_ (LJ l n c t g d) n i=(⟨c,t,g,d⟩:Job).e.getD i (.i 0):=by
 rw [a1p _ (by simpa using hn),List.getElem_set_self]
theorem f0q {l:List Job} {n:Nat} (hn:n<l.length) (c:Cmd) (t:Int) (g:List Int) (d:Int) (i:Nat) (ts:List T) (c':Cmd) (t':Int) (g':List Int) (d':Int) (h:a1q (⟨c,t,g,d⟩:Job).e i ts=(⟨c',t',g',d'⟩:Job).e):a4f (LJ l n c t g d) n i ts=LJ l n c' t' g' d':=by
 have:=c9h Job.e (l:=l.set n ⟨c,t,g,d⟩) (i:=n) (by simpa using hn) i ts ⟨c',t',g',d'⟩ (by rw [List.getElem_set_self];exact h);rw [List.set_set] at this;exact this
theorem e2a {l:List Job} {n:Nat} (hn:n<l.length) (j:Job):del (l.set n j) n=del l n:=by
 unfold del;rw [List.take_set_of_le (Nat.le_refl _),List.drop_set_of_lt (by omega)]
theorem d6r {l:List Job} {n:Nat} (hn:n<l.length) (hl:l.length≤4294967296) (c:Cmd) (t:Int) (g:List Int) (d:Int) :
  (LJ l n c t g d).take n++(LJ l n c t g d).drop (W64 ((n:Int)+1)).toNat=a0t (del l n):=by
 have h:=f6l (l:=LJ l n c t g d) (n:=n) (by simpa using hn) (by simpa using hl);rw [Int.toNat_natCast] at h;rw [h,← e2a hn ⟨c,t,g,d⟩];exact (d6h Job.e _ n).symm
theorem d6s {l:List Job} {n:Nat} (hn:n<l.length) (hl:l.length≤4294967296) (c:Cmd) (t:Int) (g:List Int) (d:Int) :
  ((LJ l n c t g d).drop (0:Int).toNat).take (n - (0:Int).toNat)++((LJ l n c t g d).drop (W64 ((n:Int)+1)).toNat).take (l.length - (W64 ((n:Int)+1)).toNat)=a0t (del l n):=by
 have e:l.length=(LJ l n c t g d).length:=by simp
 rw [e];have h:=f8t (l:=LJ l n c t g d) (n:=n) (by simpa using hn) (by simpa using hl);rw [h,← e2a hn ⟨c,t,g,d⟩];exact (d6h Job.e _ n).symm
theorem d6t {l:List Job} {n:Nat} (c:Cmd) (t:Int) (g:List Int) (d:Int):(LJ l n c t g d).length=l.length:=by simp
theorem f9b {l:List Job} {n:Nat} (hn:n<l.length):a0t l=LJ l n l[n].C l[n].At l[n].Got l[n].Code:=by
 show _=a0t (l.set n l[n]);rw [List.set_getElem_self]
theorem e0b {l:List Job} {n:Nat} (hn:n<l.length) (c:Cmd) (t:Int) (g:List Int) (d:Int):a4f (LJ l n c t g d) n 4 [.r (eIs c.Vals)]=LJ l n c t g d:=f0q hn c t g d 4 _ c t g d rfl
theorem e0c {l:List Job} {n:Nat} (hn:n<l.length) (c:Cmd) (t:Int) (g:List Int) (d v:Int):a4f (LJ l n c t g d) n 5 [.i v]=LJ l n c v g d:=f0q hn c t g d 5 _ c v g d rfl
theorem e0d {l:List Job} {n:Nat} (hn:n<l.length) (c:Cmd) (t:Int) (g:List Int) (d:Int) (v:List Int):a4f (LJ l n c t g d) n 6 [.r (eIs v)]=LJ l n c t v d:=f0q hn c t g d 6 _ c t v d rfl
theorem e0e {l:List Job} {n:Nat} (hn:n<l.length) (c:Cmd) (t:Int) (g:List Int) (d v:Int):a4f (LJ l n c t g d) n 7 [.i v]=LJ l n c t g v:=f0q hn c t g d 7 _ c t g v rfl
theorem e0f {l:List Job} {n:Nat} (hn:n<l.length) (c:Cmd) (t:Int) (g:List Int) (d t':Int) (g':List Int) (d':Int):a4f (LJ l n c t g d) n 0 [.i c.Op,.i c.Id,.i c.Lba,.i c.N,.r (eIs c.Vals),.i t',.r (eIs g'),.i d']=LJ l n c t' g' d':=f0q hn c t g d 0 _ c t' g' d' rfl
theorem c1s {l:List Job} {n:Nat} (hn:n<l.length) {c:Cmd} {t:Int} {g:List Int} {d:Int} (hj:l[n]=⟨c,t,g,d⟩):a0t l=LJ l n c t g d:=by have:=f9b hn;rw [hj] at this;exact this
theorem d6u {x:Eng} {n:Nat} (hn:n<x.Jobs.length) (hx:x.w≤1073741824) {c:Cmd} {t:Int} {g:List Int} {d:Int} (hj:x.Jobs[n]=⟨c,t,g,d⟩):c.w≤Big∧g.length≤Big:=by
 have hJ:=a6q Job.w hn;rw [hj] at hJ;have hB:Big=4294967296:=rfl;have e0:x.w=x.A.w+wL Cmd.w x.Wait+wL Job.w x.Jobs+wL Ans.w x.Done+wL Turn.w x.Log:=rfl;have e1:(⟨c,t,g,d⟩:Job).w=c.w+g.length:=rfl;omega
theorem d6v {x:Eng} (hx:x.w≤1073741824) {b:Arr} (hb:b.w≤1073741824) (n:Nat):({ x with A:=b,Jobs:=del x.Jobs n }:Eng).w≤2147483648:=by
 have h1:=e9v Job.w x.Jobs n;have e0:x.w=x.A.w+wL Cmd.w x.Wait+wL Job.w x.Jobs+wL Ans.w x.Done+wL Turn.w x.Log:=rfl;show b.w+wL Cmd.w x.Wait+wL Job.w (del x.Jobs n)+wL Ans.w x.Done+wL Turn.w x.Log≤_;omega
theorem f3h (x:Eng):x.A.w≤x.w:=by
 have e0:x.w=x.A.w+wL Cmd.w x.Wait+wL Job.w x.Jobs+wL Ans.w x.Done+wL Turn.w x.Log:=rfl;omega
theorem d1a (x:Eng) (b:Arr) (e:Int) {n:Nat} (hn:n<x.Jobs.length) (hx:x.w≤1073741824) (hb:b.w≤1073741824) {cmd:Cmd} {t:Int} {g:List Int} {d:Int} (hj:x.Jobs[n]=⟨cmd,t,g,d⟩) (ht:0≤t∧t≤40) (k:Nat) (hk:Big+4≤k) :
  b2m k (n:Int) ⟨x.e,[]⟩ ⟨b.e++[.i e],[]⟩ false=some ⟨(answer { x with A:=b,Jobs:=del x.Jobs n } cmd ⟨cmd.Id,e,[]⟩).e++[.b true],[]⟩:=by
 have hB:Big=4294967296:=rfl;obtain ⟨l1,l2,l3,l4,hA⟩:=a4l x (show x.w≤Big by omega);obtain ⟨hcw,hgw⟩:=d6u hn hx hj;have hL:=c1s hn hj;have ha:=a9m { x with A:=b,Jobs:=del x.Jobs n } cmd ⟨cmd.Id,e,[]⟩ (d6v hx hb n) hcw (Nat.zero_le _) k (by omega);unfold b2m;simp only [a0m,a1g,a1h,a1i,a1d,a1j,a1k,a1l,a1x,a0y,a2f,a0c,a0s,a0j,a1b,a1c,Outs.g6t,Eng.e,Arr.e,Geo.e,Job.e,List.cons_append,List.nil_append,List.append_assoc,B2_,T.g6u,T.g6v,T.g6x,Int.toNat_natCast,hL,d6q hn,e0b hn,e0c hn,e0d hn,e0e hn,e0f hn,d6r hn l2,d6s hn l2,d6t] at ha ⊢;refine (a0h (a5w hn (by omega)) _).trans ((a0h (by rw [a0g (by omega) (by omega)];simp;omega) _).trans ?_);exact a1s ha rfl
theorem d1b (x:Eng) (b:Arr) (e:Int) {n:Nat} (hn:n<x.Jobs.length) (hx:x.w≤1073741824) (hb:b.w≤1073741824) {cmd:Cmd} {t:Int} {g:List Int} {d:Int} (hj:x.Jobs[n]=⟨cmd,t,g,d⟩) (ht:0≤t∧t≤40) (k:Nat) (hk:Big+4≤k) :
  b2n k (n:Int) ⟨x.e,[]⟩ ⟨b.e++[.i e],[]⟩ false=some ⟨(answer { x with A:=b,Jobs:=del x.Jobs n } cmd ⟨cmd.Id,e,[]⟩).e++[.b true],[]⟩:=by
 have hB:Big=4294967296:=rfl;obtain ⟨l1,l2,l3,l4,hA⟩:=a4l x (show x.w≤Big by omega);obtain ⟨hcw,hgw⟩:=d6u hn hx hj;have hL:=c1s hn hj;have ha:=a9m { x with A:=b,Jobs:=del x.Jobs n } cmd ⟨cmd.Id,e,[]⟩ (d6v hx hb n) hcw (Nat.zero_le _) k (by omega);unfold b2n;simp only [a0m,a1g,a1h,a1i,a1d,a1j,a1k,a1l,a1x,a0y,a2f,a0c,a0s,a0j,a1b,a1c,Outs.g6t,Eng.e,Arr.e,Geo.e,Job.e,List.cons_append,List.nil_append,List.append_assoc,B2_,T.g6u,T.g6v,T.g6x,Int.toNat_natCast,hL,d6q hn,e0b hn,e0c hn,e0d hn,e0e hn,e0f hn,d6r hn l2,d6s hn l2,d6t] at ha ⊢;refine (a0h (a5w hn (by omega)) _).trans ((a0h (by rw [a0g (by omega) (by omega)];simp;omega) _).trans ?_);exact a1s ha rfl
theorem d1c (x:Eng) (b:Arr) (e:Int) {n:Nat} (hn:n<x.Jobs.length) (hx:x.w≤1073741824) (hb:b.w≤1073741824) {cmd:Cmd} {t:Int} {g:List Int} {d:Int} (hj:x.Jobs[n]=⟨cmd,t,g,d⟩) (ht:0≤t∧t≤40) (k:Nat) (hk:Big+4≤k) :
  b2o k (n:Int) ⟨x.e,[]⟩ ⟨b.e++[.i e],[]⟩ false=some ⟨(answer { x with A:=b,Jobs:=del x.Jobs n } cmd ⟨cmd.Id,e,[]⟩).e++[.b true],[]⟩:=by
 have hB:Big=4294967296:=rfl;obtain ⟨l1,l2,l3,l4,hA⟩:=a4l x (show x.w≤Big by omega);obtain ⟨hcw,hgw⟩:=d6u hn hx hj;have hL:=c1s hn hj;have ha:=a9m { x with A:=b,Jobs:=del x.Jobs n } cmd ⟨cmd.Id,e,[]⟩ (d6v hx hb n) hcw (Nat.zero_le _) k (by omega);unfold b2o;simp only [a0m,a1g,a1h,a1i,a1d,a1j,a1k,a1l,a1x,a0y,a2f,a0c,a0s,a0j,a1b,a1c,Outs.g6t,Eng.e,Arr.e,Geo.e,Job.e,List.cons_append,List.nil_append,List.append_assoc,B2_,T.g6u,T.g6v,T.g6x,Int.toNat_natCast,hL,d6q hn,e0b hn,e0c hn,e0d hn,e0e hn,e0f hn,d6r hn l2,d6s hn l2,d6t] at ha ⊢;refine (a0h (a5w hn (by omega)) _).trans ((a0h (by rw [a0g (by omega) (by omega)];simp;omega) _).trans ?_);exact a1s ha rfl
theorem d1d (x:Eng) (b:Arr) (e:Int) {n:Nat} (hn:n<x.Jobs.length) (hx:x.w≤1073741824) (hb:b.w≤1073741824) {cmd:Cmd} {t:Int} {g:List Int} {d:Int} (hj:x.Jobs[n]=⟨cmd,t,g,d⟩) (ht:0≤t∧t≤40) (k:Nat) (hk:Big+4≤k) :
  b2p k (n:Int) ⟨x.e,[]⟩ ⟨b.e++[.i e],[]⟩ false=some ⟨(answer { x with A:=b,Jobs:=del x.Jobs n } cmd ⟨cmd.Id,e,[]⟩).e++[.b true],[]⟩:=by
 have hB:Big=4294967296:=rfl;obtain ⟨l1,l2,l3,l4,hA⟩:=a4l x (show x.w≤Big by omega);obtain ⟨hcw,hgw⟩:=d6u hn hx hj;have hL:=c1s hn hj;have ha:=a9m { x with A:=b,Jobs:=del x.Jobs n } cmd ⟨cmd.Id,e,[]⟩ (d6v hx hb n) hcw (Nat.zero_le _) k (by omega);unfold b2p;simp only [a0m,a1g,a1h,a1i,a1d,a1j,a1k,a1l,a1x,a0y,a2f,a0c,a0s,a0j,a1b,a1c,Outs.g6t,Eng.e,Arr.e,Geo.e,Job.e,List.cons_append,List.nil_append,List.append_assoc,B2_,T.g6u,T.g6v,T.g6x,Int.toNat_natCast,hL,d6q hn,e0b hn,e0c hn,e0d hn,e0e hn,e0f hn,d6r hn l2,d6s hn l2,d6t] at ha ⊢;refine (a0h (a5w hn (by omega)) _).trans ((a0h (by rw [a0g (by omega) (by omega)];simp;omega) _).trans ?_);exact a1s ha rfl
theorem d1e (x:Eng) (b:Arr) (e:Int) {n:Nat} (hn:n<x.Jobs.length) (hx:x.w≤1073741824) (hb:b.w≤1073741824) {cmd:Cmd} {t:Int} {g:List Int} {d:Int} (hj:x.Jobs[n]=⟨cmd,t,g,d⟩) (ht:0≤t∧t≤40) (k:Nat) (hk:Big+4≤k) :
  b2q k (n:Int) ⟨x.e,[]⟩ ⟨b.e++[.i e],[]⟩ false=some ⟨(answer { x with A:=b,Jobs:=del x.Jobs n } cmd ⟨cmd.Id,e,[]⟩).e++[.b true],[]⟩:=by
 have hB:Big=4294967296:=rfl;obtain ⟨l1,l2,l3,l4,hA⟩:=a4l x (show x.w≤Big by omega);obtain ⟨hcw,hgw⟩:=d6u hn hx hj;have hL:=c1s hn hj;have ha:=a9m { x with A:=b,Jobs:=del x.Jobs n } cmd ⟨cmd.Id,e,[]⟩ (d6v hx hb n) hcw (Nat.zero_le _) k (by omega);unfold b2q;simp only [a0m,a1g,a1h,a1i,a1d,a1j,a1k,a1l,a1x,a0y,a2f,a0c,a0s,a0j,a1b,a1c,Outs.g6t,Eng.e,Arr.e,Geo.e,Job.e,List.cons_append,List.nil_append,List.append_assoc,B2_,T.g6u,T.g6v,T.g6x,Int.toNat_natCast,hL,d6q hn,e0b hn,e0c hn,e0d hn,e0e hn,e0f hn,d6r hn l2,d6s hn l2,d6t] at ha ⊢;refine (a0h (a5w hn (by omega)) _).trans ((a0h (by rw [a0g (by omega) (by omega)];simp;omega) _).trans ?_);exact a1s ha rfl
theorem c9x (x:Eng) (b:Arr) (e:Int) {n:Nat} (hn:n<x.Jobs.length) (hx:x.w≤1073741824) (hb:b.w≤1073741824) {cmd:Cmd} {t:Int} {g:List Int} {d:Int} (hj:x.Jobs[n]=⟨cmd,t,g,d⟩) (ht:0≤t∧t≤40) (k:Nat) (hk:Big+4≤k) :
  b0v k (n:Int) ⟨x.e,[]⟩ ⟨b.e++[.i e],[]⟩ false=some ⟨(answer { x with A:=b,Jobs:=del x.Jobs n } cmd ⟨cmd.Id,e,[]⟩).e++[.b true],[]⟩:=by
 have hB:Big=4294967296:=rfl;obtain ⟨l1,l2,l3,l4,hA⟩:=a4l x (show x.w≤Big by omega);obtain ⟨hcw,hgw⟩:=d6u hn hx hj;have hL:=c1s hn hj;have ha:=a9m { x with A:=b,Jobs:=del x.Jobs n } cmd ⟨cmd.Id,e,[]⟩ (d6v hx hb n) hcw (Nat.zero_le _) k (by omega);unfold b0v;simp only [a0m,a1g,a1h,a1i,a1d,a1j,a1k,a1l,a1x,a0y,a2f,a0c,a0s,a0j,a1b,a1c,Outs.g6t,Eng.e,Arr.e,Geo.e,Job.e,List.cons_append,List.nil_append,List.append_assoc,B2_,T.g6u,T.g6v,T.g6x,Int.toNat_natCast,hL,d6q hn,e0b hn,e0c hn,e0d hn,e0e hn,e0f hn,d6r hn l2,d6s hn l2,d6t] at ha ⊢;refine (a0h (a5w hn (by omega)) _).trans ((a0h (by rw [a0g (by omega) (by omega)];simp;omega) _).trans ?_);exact a1s ha rfl
theorem d1f (x:Eng) (b:Arr) (e:Int) (g':List Int) {n:Nat} (hn:n<x.Jobs.length) (hx:x.w≤1073741824) (hb:b.w≤1073741824) {cmd:Cmd} {t:Int} {g:List Int} {d:Int} (hj:x.Jobs[n]=⟨cmd,t,g,d⟩) (ht:0≤t∧t≤40) (k:Nat) (hk:Big+4≤k) :
  a9p k (n:Int) (LJ x.Jobs n cmd t g' e) ⟨x.e,[]⟩ false=some ⟨(answer { x with Jobs:=del x.Jobs n } cmd ⟨cmd.Id,e,[]⟩).e++[.b true],[]⟩:=by
 have hB:Big=4294967296:=rfl;obtain ⟨l1,l2,l3,l4,hA⟩:=a4l x (show x.w≤Big by omega);obtain ⟨hcw,hgw⟩:=d6u hn hx hj;have hL:=c1s hn hj;have hw1:W64 (t+1)=t+1:=a0g (by omega) (by omega);have ha:=a9m { x with Jobs:=del x.Jobs n } cmd ⟨cmd.Id,e,[]⟩ (d6v hx (Nat.le_trans (f3h x) hx) n) hcw (Nat.zero_le _) k (by omega);unfold a9p;simp only [a0m,a1g,a1h,a1i,a1d,a1j,a1k,a1l,a1x,a0y,a2f,a0c,a0s,a0j,a1b,a1c,Outs.g6t,Eng.e,Arr.e,Geo.e,Job.e,List.cons_append,List.nil_append,List.append_assoc,B2_,T.g6u,T.g6v,T.g6x,Int.toNat_natCast,hL,d6q hn,e0b hn,e0c hn,e0d hn,e0e hn,e0f hn,d6r hn l2,d6s hn l2,d6t] at ha ⊢;refine (a0h (a5w hn (by omega)) _).trans ((a0h (by rw [a0g (by omega) (by omega)];simp;omega) _).trans ?_);exact a1s ha rfl
theorem c5n (x:Eng) (b:Arr) (e:Int) {n:Nat} (hn:n<x.Jobs.length) (hx:x.w≤1073741824) (hb:b.w≤1073741824) {cmd:Cmd} {t:Int} {g:List Int} {d:Int} (hj:x.Jobs[n]=⟨cmd,t,g,d⟩) (ht:0≤t∧t≤40) (k:Nat) (hk:Big+4≤k) :
  a4k k (n:Int) ⟨x.e,[]⟩ false=some ⟨(answer { x with Jobs:=del x.Jobs n } cmd ⟨cmd.Id,d,[]⟩).e++[.b true],[]⟩:=by
 have hB:Big=4294967296:=rfl;obtain ⟨l1,l2,l3,l4,hA⟩:=a4l x (show x.w≤Big by omega);obtain ⟨hcw,hgw⟩:=d6u hn hx hj;have hL:=c1s hn hj;have ha:=a9m { x with Jobs:=del x.Jobs n } cmd ⟨cmd.Id,d,[]⟩ (d6v hx (Nat.le_trans (f3h x) hx) n) hcw (by first | exact hgw | exact Nat.zero_le _) k (by omega)
 unfold a4k;simp only [a0m,a1g,a1h,a1i,a1d,a1j,a1k,a1l,a1x,a0y,a2f,a0c,a0s,a0j,a1b,a1c,Outs.g6t,Eng.e,Arr.e,Geo.e,Job.e,List.cons_append,List.nil_append,List.append_assoc,B2_,T.g6u,T.g6v,T.g6x,Int.toNat_natCast,hL,d6q hn,e0b hn,e0c hn,e0d hn,e0e hn,e0f hn,d6r hn l2,d6s hn l2,d6t] at ha ⊢;refine (a0h (Nat.beq_refl _) _).trans ?_;refine (a0h (a5w hn (by omega)) _).trans ((a0h (by rw [a0g (by omega) (by omega)];simp;omega) _).trans ?_);exact a1s ha rfl
theorem c5o (x:Eng) (b:Arr) (e:Int) {n:Nat} (hn:n<x.Jobs.length) (hx:x.w≤1073741824) (hb:b.w≤1073741824) {cmd:Cmd} {t:Int} {g:List Int} {d:Int} (hj:x.Jobs[n]=⟨cmd,t,g,d⟩) (ht:0≤t∧t≤40) (k:Nat) (hk:Big+4≤k) :
  a4k k (n:Int) ⟨x.e,[]⟩ true=some ⟨(answer { x with Jobs:=del x.Jobs n } cmd ⟨cmd.Id,d,g⟩).e++[.b true],[]⟩:=by
 have hB:Big=4294967296:=rfl;obtain ⟨l1,l2,l3,l4,hA⟩:=a4l x (show x.w≤Big by omega);obtain ⟨hcw,hgw⟩:=d6u hn hx hj;have hL:=c1s hn hj;have ha:=a9m { x with Jobs:=del x.Jobs n } cmd ⟨cmd.Id,d,g⟩ (d6v hx (Nat.le_trans (f3h x) hx) n) hcw (by first | exact hgw | exact Nat.zero_le _) k (by omega)
 unfold a4k;simp only [a0m,a1g,a1h,a1i,a1d,a1j,a1k,a1l,a1x,a0y,a2f,a0c,a0s,a0j,a1b,a1c,Outs.g6t,Eng.e,Arr.e,Geo.e,Job.e,List.cons_append,List.nil_append,List.append_assoc,B2_,T.g6u,T.g6v,T.g6x,Int.toNat_natCast,hL,d6q hn,e0b hn,e0c hn,e0d hn,e0e hn,e0f hn,d6r hn l2,d6s hn l2,d6t] at ha ⊢;refine a1s (a2j g hgw k (by omega)) ?_;refine (a0h (a5w hn (by omega)) _).trans ((a0h (by rw [a0g (by omega) (by omega)];simp;omega) _).trans ?_);exact a1s ha rfl
theorem b5a {x:Eng} {n:Nat} {j:Job} {p:Arr×List Int×Int} (h:(p.2.2 == 0)=true):b5o x n j p={ x with A:=p.1,Jobs:=x.Jobs.set n (b0b j p) }:=by
 unfold b5o;rw [h];rfl
theorem b5b {x:Eng} {n:Nat} (hn:n<x.Jobs.length) {j:Job} {p:Arr×List Int×Int} (h:(p.2.2 == 0)=false):b5o x n j p=answer { x with A:=p.1,Jobs:=del x.Jobs n } j.C ⟨j.C.Id,p.2.2,[]⟩:=by
 unfold b5o b1w;rw [h];show answer { x with A:=p.1,Jobs:=del (x.Jobs.set n (b0b j p)) n } j.C ⟨j.C.Id,p.2.2,bif (j.C.Op == 1)&&(p.2.2 == 0) then p.2.1 else []⟩=_;rw [e2a hn,h,Bool.and_false];rfl
theorem d6w {g:Geo} {c:Cmd} (hc:a1m g c=0) (hw:c.w≤Big):c.Op≠4→0≤c.Lba∧c.Lba≤32∧(c.Op=2→a3f g c=c.Vals.length+1)∧(c.Op=5→a3f g c=2):=by
 intro h4;obtain ⟨e,e1,e2,e3,e4⟩:=d8v hc h4 hw;refine ⟨e1,by omega,fun h2=>?_,fun h5=>?_⟩
 ·unfold a3f;rw [hc];unfold a3e;simp [h2]
 ·unfold a3f;rw [hc];unfold a3e;simp [h5]
theorem f4t {x:Eng} {n:Nat} (hn:n<x.Jobs.length) {c:Cmd} {t:Int} {g:List Int} {d:Int} (hj:x.Jobs[n]=⟨c,t,g,d⟩):c.Vals.length≤x.w∧g.length≤x.w:=by
 have hJ:=a6q Job.w hn;rw [hj] at hJ;have e0:x.w=x.A.w+wL Cmd.w x.Wait+wL Job.w x.Jobs+wL Ans.w x.Done+wL Turn.w x.Log:=rfl;have e1:(⟨c,t,g,d⟩:Job).w=c.Vals.length+g.length:=rfl;omega
theorem f3i {g:Geo} {c:Cmd} (hc:a1m g c=0) (h5:c.Op=5):c.Vals.length=2:=by
 have hs:=(a7o hc).2.1;unfold b2r at hs;simp [h5] at hs;have:=hs.1;omega
theorem f0r {l:List Job} {n:Nat} (hn:n<l.length) {cmd:Cmd} {t:Int} {g:List Int} {d:Int} (hj:l[n]=⟨cmd,t,g,d⟩) :
  (at_ (a0t l) n 0).asI=cmd.Op∧(at_ (a0t l) n 2).asI=cmd.Lba∧(at_ (a0t l) n 4).asR=eIs cmd.Vals∧(at_ (a0t l) n 5).asI=t∧(at_ (a0t l) n 6).asR=eIs g∧(at_ (a0t l) n 7).asI=d∧
  ([.i (at_ (a0t l) n 0).asI,.i (at_ (a0t l) n 1).asI,.i (at_ (a0t l) n 2).asI,.i (at_ (a0t l) n 3).asI,.r (at_ (a0t l) n 4).asR]:List T)=cmd.e:=by
 rw [c1s hn hj];simp only [d6q hn];exact ⟨rfl,rfl,rfl,rfl,rfl,rfl,rfl⟩
theorem f3j {g:Geo} {c:Cmd} (hc:a1m g c=0):1≤c.Op∧c.Op≤6:=by
 unfold a1m at hc;cases h:(a5u g&&a0f c.Op 1 6&&a0f c.Id 1 999)
 ·rw [h] at hc;simp at hc
 ·simp only [Bool.and_eq_true] at h;exact a0r h.1.2
abbrev chE (L:List (List T)) (n:Nat) (c:Int):List (List T):=a4f (a4f (a4f L n 4 [.r ((at_ L n 4).asR)]) n 7 [.i c]) n 5 [.i (W64 ((at_ (a4f (a4f L n 4 [.r ((at_ L n 4).asR)]) n 7 [.i c]) n 5).asI+1))]
theorem chJ {l:List Job} {n:Nat} (hn:n<l.length) {cmd:Cmd} {t:Int} {g:List Int} {d:Int} (hj:l[n]=⟨cmd,t,g,d⟩) (ht:0≤t∧t≤40) (c:Int):(at_ (chE (a0t l) n c) n 7).asI=c∧(at_ (chE (a0t l) n c) n 0).asI=cmd.Op∧chE (a0t l) n c=LJ l n cmd (t+1) g c:=by
 have hL:=c1s hn hj;have hw1:W64 (t+1)=t+1:=a0g (by omega) (by omega);have e:chE (a0t l) n c=LJ l n cmd (t+1) g c:=by unfold chE;simp only [Job.e,B2_,T.g6u,T.g6v,T.g6x,hL,hw1,d6q hn,e0b hn,e0c hn,e0d hn,e0e hn,e0f hn]
 rw [e];simp only [d6q hn];exact ⟨rfl,rfl,trivial⟩
theorem d6x (x:Eng) {n:Nat} (hn:n<x.Jobs.length) (hx:x.w≤1073741000) {cmd:Cmd} {t:Int} {g:List Int} {d:Int} (hj:x.Jobs[n]=⟨cmd,t,g,d⟩) (ht:0≤t∧t≤40) (g':List Int) (e:Int) (k:Nat) (hk:Big+4≤k):a2w k (n:Int) ⟨x.e,[]⟩ (LJ x.Jobs n cmd t g' e)=some ⟨(b5o x n ⟨cmd,t,g,d⟩ (x.A,g',e)).e++[.b true],[]⟩:=by
 have hB:Big=4294967296:=rfl;obtain ⟨l1,l2,l3,l4,hA⟩:=a4l x (show x.w≤Big by omega);have hL:=c1s hn hj;have hw1:W64 (t+1)=t+1:=a0g (by omega) (by omega);have m7:(at_ (a4f (LJ x.Jobs n cmd t g' e) n 5 [.i (W64 ((at_ (LJ x.Jobs n cmd t g' e) n 5).asI+1))]) n 7).asI=e:=by simp only [Job.e,B2_,T.g6u,T.g6v,T.g6x,hL,hw1,d6q hn,e0b hn,e0c hn,e0d hn,e0e hn,e0f hn]
 have m0:(at_ (a4f (LJ x.Jobs n cmd t g' e) n 5 [.i (W64 ((at_ (LJ x.Jobs n cmd t g' e) n 5).asI+1))]) n 0).asI=cmd.Op:=by simp only [Job.e,B2_,T.g6u,T.g6v,T.g6x,hL,hw1,d6q hn,e0b hn,e0c hn,e0d hn,e0e hn,e0f hn]
 have mf:a4f (LJ x.Jobs n cmd t g' e) n 5 [.i (W64 ((at_ (LJ x.Jobs n cmd t g' e) n 5).asI+1))]=LJ x.Jobs n cmd (t+1) g' e:=by simp only [Job.e,B2_,T.g6u,T.g6v,T.g6x,hL,hw1,d6q hn,e0b hn,e0c hn,e0d hn,e0e hn,e0f hn]
 unfold a2w;rcases Bool.eq_false_or_eq_true (e == 0) with he | he
 ·rw [b5a (show ((x.A,g',e):Arr×List Int×Int).2.2 == 0 from he)];refine a0p ((congrArg (· == 0) m7).trans he) ?_;show some (⟨[_,_,_,_,_,_,_,_,_,_,_,_,_,_,.r (a4f (LJ x.Jobs n cmd t g' e) n 5 [.i (W64 ((at_ (LJ x.Jobs n cmd t g' e) n 5).asI+1))]),_,_,_],[]⟩:Outs)=_;rw [mf];rfl
 ·rw [b5b hn (show (((x.A,g',e):Arr×List Int×Int).2.2 == 0)=false from he)];refine a0l ((congrArg (· == 0) m7).trans he) ?_;have hw:=d1f x x.A e g' hn (by omega) (by have:=hA;have e0:x.w=x.A.w+wL Cmd.w x.Wait+wL Job.w x.Jobs+wL Ans.w x.Done+wL Turn.w x.Log:=rfl;omega) hj ht k hk;cases ho:(cmd.Op == 1)
  ·exact a0l ((congrArg (· == 1) m0).trans ho) hw
  ·refine a0p ((congrArg (· == 1) m0).trans ho) ?_;show a9p k (n:Int) (LJ x.Jobs n cmd t g' e) ⟨x.e,[]⟩ ((at_ (a4f (LJ x.Jobs n cmd t g' e) n 5 [.i (W64 ((at_ (LJ x.Jobs n cmd t g' e) n 5).asI+1))]) n 7).asI == 0)=_;rw [m7,he];exact hw
theorem f6t (x:Eng) {n:Nat} (hn:n<x.Jobs.length) (hx:x.w≤1073741000) {cmd:Cmd} {t:Int} {g:List Int} {d:Int} (hj:x.Jobs[n]=⟨cmd,t,g,d⟩) (ht:0≤t∧t≤40) (hf:b3n x.A) (hc:a1m x.A.G cmd=0) (hts:t<a3f x.A.G cmd - 1) (hg6:g.length≤6) (k:Nat) (hk:Big+15≤k):a5p k (n:Int) ⟨x.e,[]⟩ true=some ⟨(b5o x n ⟨cmd,t,g,d⟩ (a9a x.A ⟨cmd,t,g,d⟩)).e++[.b true],[]⟩:=by
 have hB:Big=4294967296:=rfl;obtain ⟨l1,l2,l3,l4,hA⟩:=a4l x (show x.w≤Big by omega);have hL:=c1s hn hj;have hw1:W64 (t+1)=t+1:=a0g (by omega) (by omega);obtain ⟨c0,c2,c4,c5,c6,c7,cC⟩:=f0r hn hj;have hch:=fun c=>chJ hn hj ht c;have e0:x.w=x.A.w+wL Cmd.w x.Wait+wL Job.w x.Jobs+wL Ans.w x.Done+wL Turn.w x.Log:=rfl;obtain ⟨vl,gl⟩:=f4t hn hj;have hcw:cmd.w≤Big:=by have:cmd.w=cmd.Vals.length:=rfl;omega
 have hsc:=d6w hc hcw;obtain ⟨r1,r6⟩:=f3j hc;have aW:x.A.w≤1073741000:=by omega
 unfold a5p;refine a0p rfl ((a0h (Nat.beq_refl _) _).trans ?_);rcases Bool.eq_false_or_eq_true (cmd.Op == 1) with o1 | o1
 ·have p1:cmd.Op=1:=by simpa using o1
  obtain ⟨b0,b1,_,_⟩:=hsc (by omega);have hLA:W64 ((at_ (a0t x.Jobs) n 2).asI+(at_ (a0t x.Jobs) n 5).asI)=cmd.Lba+t:=by rw [c2,c5,a0g (by omega) (by omega)]
  have hjd:a9a x.A ⟨cmd,t,g,d⟩=(x.A,bif (a1o x.A (cmd.Lba+t)).2 == 0 then g++[(a1o x.A (cmd.Lba+t)).1] else g,(a1o x.A (cmd.Lba+t)).2):=by
   unfold a9a;exact a0p o1 rfl
  rw [hjd];refine a0p ((congrArg (· == 1) c0).trans o1) ?_;refine a1s ((congrArg (fun q=>a0d E P0 k N.g2j [.v x.A.e,.v [.i q]]) hLA).trans (c3a x.A hA hf (cmd.Lba+t) k (by omega))) ?_;generalize a1o x.A (cmd.Lba+t)=r;rcases Bool.eq_false_or_eq_true (r.2 == 0) with hr | hr
  ·rw [hr];refine a0p hr ?_;have z6:(at_ (a4f (a0t x.Jobs) n 4 [.r ((at_ (a0t x.Jobs) n 4).asR)]) n 6).asR=eIs g:=by simp only [Job.e,B2_,T.g6u,T.g6v,T.g6x,hL,hw1,d6q hn,e0b hn,e0c hn,e0d hn,e0e hn,e0f hn]
   refine (a0h (show decide (((at_ (a4f (a0t x.Jobs) n 4 [.r ((at_ (a0t x.Jobs) n 4).asR)]) n 6).asR.length+([[.i r.1]]:List (List T)).length)*8≤140737488355328)=true by rw [z6];simp;omega) _).trans ?_;refine (a0h (Nat.beq_refl _) _).trans ?_;have hG:eIs g++[[.i r.1]]=eIs (g++[r.1]):=by simp
   have z7:a4f (a4f (a4f (a0t x.Jobs) n 4 [.r ((at_ (a0t x.Jobs) n 4).asR)]) n 6 [.r ((at_ (a4f (a0t x.Jobs) n 4 [.r ((at_ (a0t x.Jobs) n 4).asR)]) n 6).asR++([[.i r.1]]:List (List T)))]) n 7 [.i r.2]=LJ x.Jobs n cmd t (g++[r.1]) r.2:=by
    rw [z6,hG];simp only [Job.e,B2_,T.g6u,T.g6v,T.g6x,hL,hw1,d6q hn,e0b hn,e0c hn,e0d hn,e0e hn,e0f hn]
   show a2w k (n:Int) ⟨x.e,[]⟩ (a4f (a4f (a4f (a0t x.Jobs) n 4 [.r ((at_ (a0t x.Jobs) n 4).asR)]) n 6 [.r ((at_ (a4f (a0t x.Jobs) n 4 [.r ((at_ (a0t x.Jobs) n 4).asR)]) n 6).asR++([[.i r.1]]:List (List T)))]) n 7 [.i r.2])=_;rw [z7];exact d6x x hn hx hj ht (g++[r.1]) r.2 k (by omega)
  ·rw [hr];refine a0l hr ?_;have z7:a4f (a4f (a0t x.Jobs) n 4 [.r ((at_ (a0t x.Jobs) n 4).asR)]) n 7 [.i r.2]=LJ x.Jobs n cmd t g r.2:=by simp only [Job.e,B2_,T.g6u,T.g6v,T.g6x,hL,hw1,d6q hn,e0b hn,e0c hn,e0d hn,e0e hn,e0f hn]
   show a2w k (n:Int) ⟨x.e,[]⟩ (a4f (a4f (a0t x.Jobs) n 4 [.r ((at_ (a0t x.Jobs) n 4).asR)]) n 7 [.i r.2])=_;rw [z7];exact d6x x hn hx hj ht g r.2 k (by omega)
 refine a0l ((congrArg (· == 1) c0).trans o1) ?_;rcases Bool.eq_false_or_eq_true (cmd.Op == 2) with o2 | o2
 ·have p2:cmd.Op=2:=by simpa using o2
  obtain ⟨b0,b1,b2,b5⟩:=hsc (by omega);have hLA:W64 ((at_ (a0t x.Jobs) n 2).asI+(at_ (a0t x.Jobs) n 5).asI)=cmd.Lba+t:=by rw [c2,c5,a0g (by omega) (by omega)]
  have htl:t<cmd.Vals.length:=by have:=b2 p2;omega
  have hv:(at_ (at_ (a0t x.Jobs) n 4).asR (at_ (a0t x.Jobs) n 5).asI.toNat 0).asI=cmd.Vals.getD t.toNat 0:=by rw [c4,c5,a9z (by omega)]
  have hck:(decide (0≤(at_ (a0t x.Jobs) n 5).asI)&&decide ((at_ (a0t x.Jobs) n 5).asI<((at_ (a0t x.Jobs) n 4).asR.length:Int)))=true:=by rw [c4,c5,List.length_map];simp;omega
  have hjd:a9a x.A ⟨cmd,t,g,d⟩=((a0w x.A (cmd.Lba+t) (cmd.Vals.getD t.toNat 0)).1,g,(a0w x.A (cmd.Lba+t) (cmd.Vals.getD t.toNat 0)).2):=by
   unfold a9a;refine a0l o1 ?_;exact a0l (show (cmd.Op == 4)=false by simp [p2]) (a0l (show (cmd.Op == 5)=false by simp [p2]) (a0l (show (cmd.Op == 6)=false by simp [p2]) (a0p (decide_eq_true htl) rfl)))
  rw [hjd];refine a0p ((congrArg (· == 2) c0).trans o2) ((a0h hck _).trans ?_);refine a1s ((congrArg (fun q=>a0d E P0 k N.g1w [.v x.A.e,.v [.i q],.v [.i (at_ (at_ (a0t x.Jobs) n 4).asR (at_ (a0t x.Jobs) n 5).asI.toNat 0).asI]]) hLA).trans ((congrArg (fun v=>a0d E P0 k N.g1w [.v x.A.e,.v [.i (cmd.Lba+t)],.v [.i v]]) hv).trans (b7q x.A (cmd.Lba+t) (cmd.Vals.getD t.toNat 0) (by omega) hf k (by omega)))) ?_;have hpw:=b4g x.A (cmd.Lba+t) (cmd.Vals.getD t.toNat 0);generalize a0w x.A (cmd.Lba+t) (cmd.Vals.getD t.toNat 0)=p at hpw ⊢;rcases Bool.eq_false_or_eq_true (p.2 == 0) with he | he
  ·rw [b5a (show ((p.1,g,p.2):Arr×List Int×Int).2.2 == 0 from he)];refine a0p ((congrArg (· == 0) (hch p.2).1).trans he) ?_;show some (⟨[_,_,_,_,_,_,_,_,_,_,_,_,_,_,.r (chE (a0t x.Jobs) n p.2),_,_,_],[]⟩:Outs)=_;rw [(hch p.2).2.2];rfl
  ·rw [b5b hn (show (((p.1,g,p.2):Arr×List Int×Int).2.2 == 0)=false from he)];refine a0l ((congrArg (· == 0) (hch p.2).1).trans he) ?_;exact a0l ((congrArg (· == 1) (hch p.2).2.1).trans o1) (d1a x p.1 p.2 hn (by omega) (by omega) hj ht k (by omega))
 refine a0l ((congrArg (· == 2) c0).trans o2) ?_;rcases Bool.eq_false_or_eq_true (cmd.Op == 6) with o6 | o6
 ·have p6:cmd.Op=6:=by simpa using o6
  obtain ⟨b0,b1,b2,b5⟩:=hsc (by omega);have hLA:W64 ((at_ (a0t x.Jobs) n 2).asI+(at_ (a0t x.Jobs) n 5).asI)=cmd.Lba+t:=by rw [c2,c5,a0g (by omega) (by omega)]
  have hjd:a9a x.A ⟨cmd,t,g,d⟩=((a0w x.A (cmd.Lba+t) 0).1,g,(a0w x.A (cmd.Lba+t) 0).2):=by
   unfold a9a;refine a0l o1 ?_;exact a0l (show (cmd.Op == 4)=false by simp [p6]) (a0l (show (cmd.Op == 5)=false by simp [p6]) (a0p o6 rfl))
  rw [hjd];refine a0p ((congrArg (· == 6) c0).trans o6) ?_;refine a1s ((congrArg (fun q=>a0d E P0 k N.g1w [.v x.A.e,.v [.i q],.v [.i 0]]) hLA).trans ((congrArg (fun v=>a0d E P0 k N.g1w [.v x.A.e,.v [.i (cmd.Lba+t)],.v [.i v]]) rfl).trans (b7q x.A (cmd.Lba+t) 0 (by omega) hf k (by omega)))) ?_;have hpw:=b4g x.A (cmd.Lba+t) 0;generalize a0w x.A (cmd.Lba+t) 0=p at hpw ⊢;rcases Bool.eq_false_or_eq_true (p.2 == 0) with he | he
  ·rw [b5a (show ((p.1,g,p.2):Arr×List Int×Int).2.2 == 0 from he)];refine a0p ((congrArg (· == 0) (hch p.2).1).trans he) ?_;show some (⟨[_,_,_,_,_,_,_,_,_,_,_,_,_,_,.r (chE (a0t x.Jobs) n p.2),_,_,_],[]⟩:Outs)=_;rw [(hch p.2).2.2];rfl
  ·rw [b5b hn (show (((p.1,g,p.2):Arr×List Int×Int).2.2 == 0)=false from he)];refine a0l ((congrArg (· == 0) (hch p.2).1).trans he) ?_;exact a0l ((congrArg (· == 1) (hch p.2).2.1).trans o1) (d1b x p.1 p.2 hn (by omega) (by omega) hj ht k (by omega))
 refine a0l ((congrArg (· == 6) c0).trans o6) ?_;rcases Bool.eq_false_or_eq_true (cmd.Op == 3) with o3 | o3
 ·have p3:cmd.Op=3:=by simpa using o3
  obtain ⟨b0,b1,b2,b5⟩:=hsc (by omega);have hLA:W64 ((at_ (a0t x.Jobs) n 2).asI+(at_ (a0t x.Jobs) n 5).asI)=cmd.Lba+t:=by rw [c2,c5,a0g (by omega) (by omega)]
  refine a0p ((congrArg (· == 3) c0).trans o3) ?_;have hcond:decide ((at_ (a0t x.Jobs) n 5).asI<((at_ (a0t x.Jobs) n 4).asR.length:Int))=decide (t<(cmd.Vals.length:Int)):=by rw [c4,c5,List.length_map]
  rcases Bool.eq_false_or_eq_true (decide (t<(cmd.Vals.length:Int))) with hl | hl
  ·have htl:=of_decide_eq_true hl;have hv:(at_ (at_ (a0t x.Jobs) n 4).asR (at_ (a0t x.Jobs) n 5).asI.toNat 0).asI=cmd.Vals.getD t.toNat 0:=by rw [c4,c5,a9z (by omega)]
   have hck:(decide (0≤(at_ (a0t x.Jobs) n 5).asI)&&decide ((at_ (a0t x.Jobs) n 5).asI<((at_ (a0t x.Jobs) n 4).asR.length:Int)))=true:=by rw [c4,c5,List.length_map];simp;omega
   have hjd:a9a x.A ⟨cmd,t,g,d⟩=((a0w x.A (cmd.Lba+t) (cmd.Vals.getD t.toNat 0)).1,g,(a0w x.A (cmd.Lba+t) (cmd.Vals.getD t.toNat 0)).2):=by
    unfold a9a;refine a0l o1 ?_;exact a0l (show (cmd.Op == 4)=false by simp [p3]) (a0l (show (cmd.Op == 5)=false by simp [p3]) (a0l (show (cmd.Op == 6)=false by simp [p3]) (a0p hl rfl)))
   rw [hjd];refine a0p (hcond.trans hl) ((a0h hck _).trans ?_);refine a1s ((congrArg (fun q=>a0d E P0 k N.g1w [.v x.A.e,.v [.i q],.v [.i (at_ (at_ (a0t x.Jobs) n 4).asR (at_ (a0t x.Jobs) n 5).asI.toNat 0).asI]]) hLA).trans ((congrArg (fun v=>a0d E P0 k N.g1w [.v x.A.e,.v [.i (cmd.Lba+t)],.v [.i v]]) hv).trans (b7q x.A (cmd.Lba+t) (cmd.Vals.getD t.toNat 0) (by omega) hf k (by omega)))) ?_;have hpw:=b4g x.A (cmd.Lba+t) (cmd.Vals.getD t.toNat 0);generalize a0w x.A (cmd.Lba+t) (cmd.Vals.getD t.toNat 0)=p at hpw ⊢;rcases Bool.eq_false_or_eq_true (p.2 == 0) with he | he
   ·rw [b5a (show ((p.1,g,p.2):Arr×List Int×Int).2.2 == 0 from he)];refine a0p ((congrArg (· == 0) (hch p.2).1).trans he) ?_;show some (⟨[_,_,_,_,_,_,_,_,_,_,_,_,_,_,.r (chE (a0t x.Jobs) n p.2),_,_,_],[]⟩:Outs)=_;rw [(hch p.2).2.2];rfl
   ·rw [b5b hn (show (((p.1,g,p.2):Arr×List Int×Int).2.2 == 0)=false from he)];refine a0l ((congrArg (· == 0) (hch p.2).1).trans he) ?_;exact a0l ((congrArg (· == 1) (hch p.2).2.1).trans o1) (d1c x p.1 p.2 hn (by omega) (by omega) hj ht k (by omega))
  ·have htl:=of_decide_eq_false hl;have hsb:=b4e x.A.G cmd.Lba;have hspan:(a6g x.A.G cmd).1=cmd.Lba:=by unfold a6g;rw [hc];exact congrArg Prod.fst (show (bif cmd.Op == 4 then _ else _:Int×Int)=(cmd.Lba,_) from a0l (show (cmd.Op == 4)=false by simp [p3]) rfl)
   have hfa:W64 ((W64 (a0k x.A.G (a6g x.A.G cmd).1+(at_ (a0t x.Jobs) n 5).asI)) - ((at_ (a0t x.Jobs) n 4).asR.length:Int))=a0k x.A.G cmd.Lba+t - cmd.Vals.length:=by
    rw [hspan,c4,c5,List.length_map,a0g (n:=a0k x.A.G cmd.Lba+t) (by omega) (by omega),a0g (by omega) (by omega)]
   have hjd:a9a x.A ⟨cmd,t,g,d⟩=((a0x x.A (a0k x.A.G cmd.Lba+t - cmd.Vals.length)).1,g,(a0x x.A (a0k x.A.G cmd.Lba+t - cmd.Vals.length)).2):=by
    unfold a9a;refine a0l o1 ?_;exact a0l (show (cmd.Op == 4)=false by simp [p3]) (a0l (show (cmd.Op == 5)=false by simp [p3]) (a0l (show (cmd.Op == 6)=false by simp [p3]) (a0l hl rfl)))
   rw [hjd];refine a0l (hcond.trans hl) ?_;refine a1s ((congrArg (fun c=>a0d E P0 k N.g3g [.v x.A.G.e,.v c]) cC).trans (c9j x.A.G cmd hcw k (by omega))) ?_;refine a1s ((congrArg (fun q=>a0d E P0 k N.g2v [.v x.A.e,.v [.i q]]) hfa).trans (c1r x.A (a0k x.A.G cmd.Lba+t - cmd.Vals.length) (by omega) hf k (by omega))) ?_;have hpw:=b4z x.A (a0k x.A.G cmd.Lba+t - cmd.Vals.length);generalize a0x x.A (a0k x.A.G cmd.Lba+t - cmd.Vals.length)=p at hpw ⊢;rcases Bool.eq_false_or_eq_true (p.2 == 0) with he | he
   ·rw [b5a (show ((p.1,g,p.2):Arr×List Int×Int).2.2 == 0 from he)];refine a0p ((congrArg (· == 0) (hch p.2).1).trans he) ?_;show some (⟨[_,_,_,_,_,_,_,_,_,_,_,_,_,_,.r (chE (a0t x.Jobs) n p.2),_,_,_],[]⟩:Outs)=_;rw [(hch p.2).2.2];rfl
   ·rw [b5b hn (show (((p.1,g,p.2):Arr×List Int×Int).2.2 == 0)=false from he)];refine a0l ((congrArg (· == 0) (hch p.2).1).trans he) ?_;exact a0l ((congrArg (· == 1) (hch p.2).2.1).trans o1) (d1d x p.1 p.2 hn (by omega) (by omega) hj ht k (by omega))
 refine a0l ((congrArg (· == 3) c0).trans o3) ?_;rcases Bool.eq_false_or_eq_true (cmd.Op == 4) with o4 | o4
 ·
  have hjd:a9a x.A ⟨cmd,t,g,d⟩=((a0x x.A t).1,g,(a0x x.A t).2):=by
   unfold a9a;refine a0l o1 ?_;exact a0p o4 rfl
  rw [hjd];refine a0p ((congrArg (· == 4) c0).trans o4) ?_;refine a1s ((congrArg (fun q=>a0d E P0 k N.g2v [.v x.A.e,.v [.i q]]) c5).trans (c1r x.A t (by omega) hf k (by omega))) ?_;have hpw:=b4z x.A t;generalize a0x x.A t=p at hpw ⊢;rcases Bool.eq_false_or_eq_true (p.2 == 0) with he | he
  ·rw [b5a (show ((p.1,g,p.2):Arr×List Int×Int).2.2 == 0 from he)];refine a0p ((congrArg (· == 0) (hch p.2).1).trans he) ?_;show some (⟨[_,_,_,_,_,_,_,_,_,_,_,_,_,_,.r (chE (a0t x.Jobs) n p.2),_,_,_],[]⟩:Outs)=_;rw [(hch p.2).2.2];rfl
  ·rw [b5b hn (show (((p.1,g,p.2):Arr×List Int×Int).2.2 == 0)=false from he)];refine a0l ((congrArg (· == 0) (hch p.2).1).trans he) ?_;exact a0l ((congrArg (· == 1) (hch p.2).2.1).trans o1) (d1e x p.1 p.2 hn (by omega) (by omega) hj ht k (by omega))
 refine a0l ((congrArg (· == 4) c0).trans o4) ?_;have p5:cmd.Op=5:=by
  have n1:cmd.Op≠1:=by simpa using o1
  have n2:cmd.Op≠2:=by simpa using o2
  have n3:cmd.Op≠3:=by simpa using o3
  have n4:cmd.Op≠4:=by simpa using o4
  have n6:cmd.Op≠6:=by simpa using o6
  omega
 obtain ⟨b0,b1,b2,b5⟩:=hsc (by omega);have hv2:=f3i hc p5;have hLA:W64 ((at_ (a0t x.Jobs) n 2).asI+(at_ (a0t x.Jobs) n 5).asI)=cmd.Lba+t:=by rw [c2,c5,a0g (by omega) (by omega)]
 have hj5:a9a x.A ⟨cmd,t,g,d⟩=(bif (a1o x.A (cmd.Lba+t)).2 != 0 then (x.A,g,(a1o x.A (cmd.Lba+t)).2) else bif (a1o x.A (cmd.Lba+t)).1 != cmd.Vals.getD 0 0 then (x.A,g,4) else ((a0w x.A (cmd.Lba+t) (cmd.Vals.getD 1 0)).1,g,(a0w x.A (cmd.Lba+t) (cmd.Vals.getD 1 0)).2)):=by
  unfold a9a;exact a0l o1 (a0l o4 (a0p (show (cmd.Op == 5)=true by simp [p5]) rfl))
 refine a1s ((congrArg (fun q=>a0d E P0 k N.g2j [.v x.A.e,.v [.i q]]) hLA).trans (c3a x.A hA hf (cmd.Lba+t) k (by omega))) ?_;generalize a1o x.A (cmd.Lba+t)=r at hj5 ⊢;have z7:∀ v:Int,a4f (a4f (a0t x.Jobs) n 4 [.r ((at_ (a0t x.Jobs) n 4).asR)]) n 7 [.i v]=LJ x.Jobs n cmd t g v:=fun v=>by simp only [Job.e,B2_,T.g6u,T.g6v,T.g6x,hL,hw1,d6q hn,e0b hn,e0c hn,e0d hn,e0e hn,e0f hn]
 have w0:(at_ (at_ (a0t x.Jobs) n 4).asR 0 0).asI=cmd.Vals.getD 0 0:=by rw [c4,a9z (by omega)]
 have w1:(at_ (at_ (a0t x.Jobs) n 4).asR 1 0).asI=cmd.Vals.getD 1 0:=by rw [c4,a9z (by omega)]
 rcases Bool.eq_false_or_eq_true (r.2 != 0) with hr | hr
 ·rw [show a9a x.A ⟨cmd,t,g,d⟩=(x.A,g,r.2) by rw [hj5];exact a0p hr rfl];refine a0p hr ?_;show a2w k (n:Int) ⟨x.e,[]⟩ (a4f (a4f (a0t x.Jobs) n 4 [.r ((at_ (a0t x.Jobs) n 4).asR)]) n 7 [.i r.2])=_;rw [z7];exact d6x x hn hx hj ht g r.2 k (by omega)
 refine a0l hr ((a0h (show decide ((0:Int)<((at_ (a0t x.Jobs) n 4).asR.length:Int))=true by rw [c4,List.length_map,hv2];rfl) _).trans ?_);rcases Bool.eq_false_or_eq_true (r.1 != cmd.Vals.getD 0 0) with hq | hq
 ·rw [show a9a x.A ⟨cmd,t,g,d⟩=(x.A,g,4) by rw [hj5];exact a0l hr (a0p hq rfl)];refine a0p ((congrArg (r.1 != ·) w0).trans hq) ?_;show a2w k (n:Int) ⟨x.e,[]⟩ (a4f (a4f (a0t x.Jobs) n 4 [.r ((at_ (a0t x.Jobs) n 4).asR)]) n 7 [.i 4])=_;rw [z7];exact d6x x hn hx hj ht g 4 k (by omega)
 rw [show a9a x.A ⟨cmd,t,g,d⟩=((a0w x.A (cmd.Lba+t) (cmd.Vals.getD 1 0)).1,g,(a0w x.A (cmd.Lba+t) (cmd.Vals.getD 1 0)).2) by rw [hj5];exact a0l hr (a0l hq rfl)];refine a0l ((congrArg (r.1 != ·) w0).trans hq) ((a0h (show decide ((1:Int)<((at_ (a0t x.Jobs) n 4).asR.length:Int))=true by rw [c4,List.length_map,hv2];rfl) _).trans ?_);refine a1s ((congrArg (fun q=>a0d E P0 k N.g1w [.v x.A.e,.v [.i q],.v [.i (at_ (at_ (a0t x.Jobs) n 4).asR 1 0).asI]]) hLA).trans ((congrArg (fun v=>a0d E P0 k N.g1w [.v x.A.e,.v [.i (cmd.Lba+t)],.v [.i v]]) w1).trans (b7q x.A (cmd.Lba+t) (cmd.Vals.getD 1 0) (by omega) hf k (by omega)))) ?_;have hpw:=b4g x.A (cmd.Lba+t) (cmd.Vals.getD 1 0);generalize a0w x.A (cmd.Lba+t) (cmd.Vals.getD 1 0)=p at hpw ⊢;rcases Bool.eq_false_or_eq_true (p.2 == 0) with he | he
 ·rw [b5a (show ((p.1,g,p.2):Arr×List Int×Int).2.2 == 0 from he)];refine a0p ((congrArg (· == 0) (hch p.2).1).trans he) ?_;show some (⟨[_,_,_,_,_,_,_,_,_,_,_,_,_,_,.r (chE (a0t x.Jobs) n p.2),_,_,_],[]⟩:Outs)=_;rw [(hch p.2).2.2];rfl
 ·rw [b5b hn (show (((p.1,g,p.2):Arr×List Int×Int).2.2 == 0)=false from he)];refine a0l ((congrArg (· == 0) (hch p.2).1).trans he) ?_;exact a0l ((congrArg (· == 1) (hch p.2).2.1).trans o1) (c9x x p.1 p.2 hn (by omega) (by omega) hj ht k (by omega))
end
end Go.Proofs.Ytdbopobkdpmpgaa.Ev
