/- The state at a loop's head stands for the state that was. No condition. -/
import Derived.Test.YtjadnceefhbphaaGreatmEvO
namespace Go.Proofs.YtjadnceefhbphaaGreat.Ev
open Go
set_option linter.unusedVariables false
section
variable {D:Nat→Bool} {P:Program} {E:Env} {β:Base} {m:Mem} {env env':Names} {w w':World} {S S':Nat→Prop} {N:Nat} {d0:List Deferred}
theorem h4t {ren:List (Nm×Nm)} (hren:∀ n n',b7n ren n=some n'→∀ v,env n=some v→env' n'=some v) (hst:Still w w S S') {a:A} {v:Value} (h:RV1 E env w S a v):RV1 E env' w S' (g5l ren a) v:=by
 cases a with
 | sl e es=>exact RC.mono hst h
 | ref n=>
  cases hl:b7n ren n with
  | none=>simp only [g5l,hl];trivial
  | some n'=>simp only [g5l,hl];exact ⟨hren _ _ hl _ h.1,h.2⟩
 | cut n e f l=>
  cases hl:b7n ren n with
  | none=>simp only [g5l,hl];trivial
  | some n'=>obtain ⟨ga,len,cap,h1,h2⟩:=h;simp only [g5l,hl];exact ⟨ga,len,cap,hren _ _ hl _ h1,h2⟩
 | ptr n o=>
  cases hl:b7n ren n with
  | none=>simp only [g5l,hl];trivial
  | some n'=>obtain ⟨b,h1,h2⟩:=h;simp only [g5l,hl];exact ⟨b,hren _ _ hl _ h1,h2⟩
 | ep n e i o=>
  cases hl:b7n ren n with
  | none=>simp only [g5l,hl];trivial
  | some n'=>obtain ⟨g,len,cap,h1,h2⟩:=h;simp only [g5l,hl];exact ⟨g,len,cap,hren _ _ hl _ h1,h2⟩
 | vp tys cs q=>exact RV1.mono (env:=⟨fun _=>none,fun _=>[]⟩) (a:=.vp tys cs q) (fun _ _ h=>by cases h) hst h
 | clo f o=>
  cases o with
  | none=>exact h
  | some n=>
   cases hl:b7n ren n with
   | none=>simp only [g5l,hl];trivial
   | some n'=>obtain ⟨b,h1,h2⟩:=h;simp only [g5l,hl];exact ⟨b,hren _ _ hl _ h1,h2⟩
 | agg cs=>exact h.elim
 | tup cs=>exact h.elim
 | _=>exact h
theorem f6a {ren:List (Nm×Nm)} (hren:∀ n n',b7n ren n=some n'→∀ v,env n=some v→env' n'=some v) (hst:Still w w S S'):∀ {as:List A} {vs:List Value},RVs E env w S as vs→RVs E env' w S' (d0e ren as) vs
 | [],[],_=>trivial
 | a :: as,v :: vs,h=>⟨h4t hren hst h.1,f6a hren hst h.2⟩
 | [],_ :: _,h=>h.elim
 | _ :: _,[],h=>h.elim
theorem h9n {s:Nat} {a:A} {v:Value} (h:RV E env w S a v) (ht:a.isTup=false) (hn:∀ q,q∈(g5m D s a).2→env q.1=some (.slice none 0 0)):RV E env w S (g5m D s a).1 v:=by
 cases a with
 | agg as=>
  obtain ⟨arr,rfl,hsol,hr⟩:=h;have:=e3n (s:=s) (j:=1) hr hn;exact ⟨arr,rfl,this.2 hsol,this.1⟩
 | tup as=>cases ht
 | nil e=>exact (g8k (E:=E) (w:=w) (S:=S) (at_:=(s,0)) (a:=.nil e) h hn).1
 | _=>exact h
theorem g5y {ren:List (Nm×Nm)} {a:A} (h:a.single=true):i6h ren a=g5l ren a:=by
 cases a <;> first | rfl | cases h
theorem i4g {ren:List (Nm×Nm)} (hren:∀ n n',b7n ren n=some n'→∀ v,env n=some v→env' n'=some v) (hst:Still w w S S') {a:A} {v:Value} (h:RV E env w S a v) :
  RV E env' w S' (i6h ren a) v∧(i6h ren a).isTup=false:=by
 cases a with
 | agg as=>
  obtain ⟨arr,rfl,hsol,hr⟩:=h;have he:i6h ren (.agg as)=(bif a1d (d0e ren as) then .agg (d0e ren as) else .undef):=rfl;rw [he];cases hs:a1d (d0e ren as) with
  | true=>exact ⟨⟨arr,rfl,hs,f6a hren hst hr⟩,rfl⟩
  | false=>exact ⟨trivial,rfl⟩
 | tup as=>exact ⟨trivial,rfl⟩
 | _=>
  rw [e2r rfl] at h;have h1:=h4t hren hst h;rw [g5y rfl];revert h1;generalize g5l ren _=b;intro h1;have h2:b.single=true:=by cases b <;> first | rfl | exact h1.elim
  exact ⟨by rw [e2r h2];exact h1,by cases b <;> first | rfl | cases h2⟩
theorem c7k {m:Mem} {ren:List (Nm×Nm)}:∀ {l:List (Nm×Nm)} {a b:Nm},(a,b)∈l→(b,i6w ren (m a))∈b7o m ren l
 | (x,y) :: r,a,b,h=>by
  rcases List.mem_cons.1 h with h | h
  ·cases h;exact List.mem_cons_self
  ·exact List.mem_cons_of_mem _ (c7k h)
theorem b4z:∀ {l:List (Nm×O)} {x:Nm} {o:O},(x,o)∈l→∃ o',(x,o')∈(b9r D l).1
 | (n,.var cs) :: r,x,o,h=>by
  rcases List.mem_cons.1 h with h | h
  ·cases h;exact ⟨_,List.mem_cons_self⟩
  ·obtain ⟨o',h1⟩:=b4z h;exact ⟨o',List.mem_cons_of_mem _ h1⟩
 | (n,.row e d es) :: r,x,o,h=>by
  rcases List.mem_cons.1 h with h | h
  ·cases h;exact ⟨_,List.mem_cons_self⟩
  ·obtain ⟨o',h1⟩:=b4z h;exact ⟨o',List.mem_cons_of_mem _ h1⟩
 | (n,.dead) :: r,x,o,h=>by
  rcases List.mem_cons.1 h with h | h
  ·cases h;exact ⟨_,List.mem_cons_self⟩
  ·obtain ⟨o',h1⟩:=b4z h;exact ⟨o',List.mem_cons_of_mem _ h1⟩
 | (n,.save as) :: r,x,o,h=>by
  rcases List.mem_cons.1 h with h | h
  ·cases h;exact ⟨_,List.mem_cons_self⟩
  ·obtain ⟨o',h1⟩:=b4z h;exact ⟨o',List.mem_cons_of_mem _ h1⟩
 | (n,.deep e es hh) :: r,x,o,h=>by
  rcases List.mem_cons.1 h with h | h
  ·cases h;exact ⟨_,List.mem_cons_self⟩
  ·obtain ⟨o',h1⟩:=b4z h;exact ⟨o',List.mem_cons_of_mem _ h1⟩
theorem g8l {i:Nat}:∀ {l:List (Nat×A)},(∃ a,a3q (c8a D l).1 i=(g5m D i a).1∧(i,a)∈l∧∀ q,q∈(g5m D i a).2→q∈(c8a D l).2)∨a3q (c8a D l).1 i=.undef
 | []=>.inr rfl
 | (k,a) :: r=>by
  simp only [c8a,a3q];cases hb:Nat.beq i k with
  | true=>
   cases Nat.eq_of_beq_eq_true hb;exact .inl ⟨a,rfl,List.mem_cons_self,fun q hq=>List.mem_append_left _ hq⟩
  | false=>
   rcases g8l (i:=i) (l:=r) with ⟨a',h1,h2,h3⟩ | h1
   ·exact .inl ⟨a',h1,List.mem_cons_of_mem _ h2,fun q hq=>List.mem_append_right _ (h3 q hq)⟩
   ·exact .inr h1
theorem g8m {σ:St} {ren:List (Nm×Nm)}:∀ {keep:List Nat} {i:Nat} {a:A},(i,a)∈h3l σ ren keep→a=i6h ren (σ.sl i)
 | k :: ks,i,a,h=>by
  rcases List.mem_cons.1 h with h | h
  ·cases h;rfl
  ·exact g8m h
theorem g1q {ren:List (Nm×Nm)}:∀ {pins:List Nat} {i:Nat},g1d ren pins=true→i∈pins→b7n ren (i,0)=some (i,0)
 | j :: js,i,h,hi=>by
  obtain ⟨h1,h2⟩:=a0d h;rcases List.mem_cons.1 hi with rfl | hi
  ·split at h1
   ·rename_i n hn;rw [hn,c0y.1 h1]
   ·cases h1
  ·exact g1q h2 hi
theorem h1a {σ σ':St} {pins keep:List Nat} {ren:List (Nm×Nm)} {vv:Nat→Value} (h:Heap E β [] σ.mem env w) (hs:∀ i,RV E env w (a0c β [] σ.mem env w) (σ.sl i) (vv i)) (hc:e1t D pins keep σ ren=some σ') :
  ∃ env',Heap E β [] σ'.mem env' w∧(∀ i,i∈pins→env' (i,0)=env (i,0))∧∀ i,RV E env' w (a0c β [] σ'.mem env' w) (σ'.sl i) (vv i):=by
 unfold e1t at hc;obtain ⟨hck,hq⟩:=a3d hc;cases hq;obtain ⟨hck1,hnd⟩:=a0d hck;obtain ⟨hck2,hpres⟩:=a0d hck1;obtain ⟨hck3,hn2⟩:=a0d hck2;obtain ⟨hpo,hn1⟩:=a0d hck3;generalize hNS:(c8a D (h3l σ ren keep)).2=NS at hnd ⊢;generalize hNM:(b9r D (b7o σ.mem ren ren)).2=NM at hnd ⊢;generalize hMM:(b9r D (b7o σ.mem ren ren)).1=MM at hnd ⊢;generalize hl:NS++NM++MM=l at hnd ⊢
 let env':Names:=⟨fun x=>match a7c ren x with | some old=>env old | none=>(match a1f l x with | some _=>some (.slice none 0 0) | none=>none),fun x=>match a7c ren x with | some old=>env.fp old | none=>[]⟩
 have hMMl:∀ {x o},(x,o)∈MM→(x,o)∈l:=fun hx=>by rw [← hl];exact List.mem_append_right _ hx
 have hnilrow:∀ {x o},(x,o)∈NS++NM→∃ e,o=.row e true []∨o=.deep e [] none:=fun {x o} hx=>by
  rcases List.mem_append.1 hx with hx | hx
  ·rw [← hNS] at hx;exact g1p _ x o hx
  ·rw [← hNM] at hx;exact c1e _ x o hx
 have hnilenv:∀ {x o},(x,o)∈NS++NM→env' x=some (.slice none 0 0):=fun {x o} hx=>by
  have hinv:a7c ren x=none:=by
   cases hi:a7c ren x with
   | none=>rfl
   | some old=>
     obtain ⟨o',ho'⟩:=b4z (D:=D) (c7k (m:=σ.mem) (ren:=ren) (b0k hi));rw [hMM] at ho';exact (e3m (by rw [hl];exact hnd) hx ho').elim
  have hof:=f5z hnd (show (x,o)∈l by rw [← hl];exact List.mem_append_left _ hx);simp only [env',hinv,hof]
 have hinvenv:∀ {x old},a7c ren x=some old→env' x=env old:=fun {x old} hi=>by simp only [env',hi]
 have hinvfp:∀ {x old},a7c ren x=some old→env'.fp x=env.fp old:=fun {x old} hi=>by simp only [env',hi]
 have hnilfp:∀ {x o},(x,o)∈NS++NM→env'.fp x=[]:=fun {x o} hx=>by
  have hinv:a7c ren x=none:=by
   cases hi:a7c ren x with
   | none=>rfl
   | some old=>
     obtain ⟨o',ho'⟩:=b4z (D:=D) (c7k (m:=σ.mem) (ren:=ren) (b0k hi));rw [hMM] at ho';exact (e3m (by rw [hl];exact hnd) hx ho').elim
  simp only [env',hinv]
 have hren:∀ n n',b7n ren n=some n'→∀ v,env n=some v→env' n'=some v:=fun n n' hln v hv=>by
  rw [hinvenv (c1c hn2 (e3l hln))];exact hv
 have hcase:∀ x o,a1f l x=some o→((x,o)∈NS++NM)∨∃ old,a7c ren x=some old∧
   (
    (∃ cs,σ.mem old=some (.var cs)∧a1d (d0e ren cs)=true∧o=.var (b6b D x.1 1 (d0e ren cs)).1∧∀ q,q∈(b6b D x.1 1 (d0e ren cs)).2→(q.1,q.2)∈NS++NM)∨
    (∃ e d es,σ.mem old=some (.row e d es)∧o=.row e d es)∨(∃ e es,σ.mem old=some (.deep e es none)∧o=.deep e es none)∨o=.dead):=by
  intro x o hx;have hx:=g1n hx;rw [← hl] at hx;rcases List.mem_append.1 hx with hx | hx
  ·exact .inl hx
  ·right;rw [← hMM] at hx;have hrenO:∀ {old o},o=i6w ren (σ.mem old)→(∃ cs,σ.mem old=some (.var cs)∧a1d (d0e ren cs)=true∧o=.var (d0e ren cs))∨(∃ e d es,σ.mem old=some (.row e d es)∧o=.row e d es)∨(∃ e es,σ.mem old=some (.deep e es none)∧o=.deep e es none)∨o=.dead:=by
     intro old o ho;cases hm:σ.mem old with
     | none=>rw [hm] at ho;exact .inr (.inr (.inr ho))
     | some o1=>
      rw [hm] at ho;cases o1 with
      | var cs=>
       simp only [i6w] at ho;cases hsol:a1d (d0e ren cs) with
       | true=>rw [hsol] at ho;exact .inl ⟨cs,rfl,hsol,ho⟩
       | false=>rw [hsol] at ho;exact .inr (.inr (.inr ho))
      | row e d es=>exact .inr (.inl ⟨e,d,es,rfl,ho⟩)
      | deep e es hh=>cases hh with
       | none=>exact .inr (.inr (.inl ⟨e,es,rfl,ho⟩))
       | some q=>exact .inr (.inr (.inr ho))
      | dead=>exact .inr (.inr (.inr ho))
      | save as=>exact .inr (.inr (.inr ho))
   rcases c1d hx with ⟨cs,h1,rfl,h3⟩ | ⟨h1,h2⟩
   · obtain ⟨old,g1,g2⟩:=d5t h1;refine ⟨old,c1c hn2 g1,?_⟩;rcases hrenO g2 with ⟨cs0,k1,k2,k3⟩ | ⟨e,d,es,_,k3⟩ | ⟨e,es,_,k3⟩ | k3
     ·cases k3;exact .inl ⟨cs0,k1,k2,rfl,fun q hq=>List.mem_append_right _ (by rw [← hNM];exact h3 q hq)⟩
     ·cases k3
     ·cases k3
     ·cases k3
   · obtain ⟨old,g1,g2⟩:=d5t h1;refine ⟨old,c1c hn2 g1,?_⟩;rcases hrenO g2 with ⟨cs0,k1,k2,k3⟩ | h5
     ·exact (h2 _ k3).elim
     ·exact .inr h5
 have hown:∀ x b,owns (a1f l) env' x b→∃ old,a7c ren x=some old∧owns σ.mem env old b:=by
  intro x b hb;cases hx:a1f l x with
  | none=>simp [owns,hx] at hb
  | some o=>
   rcases hcase x o hx with h1 | ⟨old,h1,h2⟩
   · obtain ⟨e,rfl | rfl⟩:=hnilrow h1
     ·simp [owns,hx,hnilenv h1,Value.ownBlock] at hb
     ·simp [owns,hx,hnilfp h1] at hb
   · refine ⟨old,h1,?_⟩;unfold owns at hb ⊢;rw [hx,hinvenv h1] at hb;rcases h2 with ⟨cs,k1,k2,rfl,_⟩ | ⟨e,d,es,k1,rfl⟩ | ⟨e,es,k1,rfl⟩ | rfl
     ·rw [k1];cases hv:env old with
      | none=>rw [hv] at hb;simp at hb
      | some v=>rw [hv] at hb;cases v with
       | pointer a=>cases a <;> simp_all
       | _=>simp at hb
     ·rw [k1];rw [hinvfp h1] at hb;exact hb
     ·rw [k1];rw [← hinvfp h1];exact hb
     ·cases hv:env old <;> rw [hv] at hb <;> simp at hb
 have hstill:Still w w (a0c β [] σ.mem env w) (a0c β [] (a1f l) env' w):=fun b hb=>
  ⟨⟨hb.1,hb.2.1,fun x hx=>by obtain ⟨old,_,h2⟩:=hown x b hx;exact hb.2.2.1 old h2,hb.2.2.2⟩,rfl⟩
 refine ⟨env',⟨fun x hx=>?_,fun x o hx=>?_,fun x y b hx hy=>?_,fun x b hx=>?_,fun b hb=>by simp at hb,List.nodup_nil,h.os,h.tape,h.output,h.size,h.block,h.gl⟩,fun i hi=>hinvenv (c1c hn2 (e3l (g1q hpo hi))),fun i=>?_⟩
 ·have hinv:a7c ren x=none:=by
   cases hi:a7c ren x with
   | none=>rfl
   | some old=>
     obtain ⟨o',ho'⟩:=b4z (D:=D) (c7k (m:=σ.mem) (ren:=ren) (b0k hi));rw [hMM] at ho';have:=f5z hnd (hMMl ho');have hx:a1f l x=none:=hx;rw [hx] at this;cases this
  have hx:a1f l x=none:=hx;simp only [env',hinv,hx]
 ·rcases hcase x o hx with h1 | ⟨old,h1,h2⟩
  ·obtain ⟨e,rfl | rfl⟩:=hnilrow h1
   · exact ⟨.slice none 0 0,[],hnilenv h1,World.ownsRow_nil w 0 _ _,fun i j hi=>by simp at hi⟩
   · exact ⟨.slice none 0 0,[],fun _=>[],hnilenv h1,World.ownsRow_nil w 0 _ _,fun i j hi=>(by simp at hi),⟨fun _ _ _ h=>(by cases h),HoleE.none⟩,by rw [hnilfp h1];exact ⟨fun b=>by simp [Value.ownBlock],List.nodup_nil,fun p b _ h=>by simp at h,fun p q b _ _ h=>by simp at h⟩⟩
  ·have he:=hinvenv h1;rcases h2 with ⟨cs,k1,k2,rfl,k4⟩ | ⟨e,d,es,k1,rfl⟩ | ⟨e,es,k1,rfl⟩ | rfl
   · obtain ⟨b,vs,el,g1,g2,g3,g4⟩:=h.obj old _ k1;have hr:=f6a (ren:=ren) hren hstill g4;have hf:=e3n (s:=x.1) (j:=1) hr (fun q hq=>hnilenv (k4 q hq));exact ⟨b,vs,el,he.trans g1,g2,hf.2 k2,hf.1⟩
   · have ho:=h.obj old _ k1;cases d with
     | true=>
      obtain ⟨v,xs,g1,g2,g3⟩:=ho;refine ⟨v,xs,he.trans g1,g2,fun i j hi hj=>?_⟩;obtain ⟨u,hu,hr⟩:=g3 i j hi hj;exact ⟨u,hu,hr.mono hstill⟩
     | false=>
      obtain ⟨v,g1,g2,g3⟩:=ho;exact ⟨v,he.trans g1,g2.mono hstill,g3⟩
   · obtain ⟨v,xs,fps,g1,g2,g3,_,g5⟩:=h.obj old _ k1;exact ⟨v,xs,fps,he.trans g1,g2,fun i j hi hj _=>g3 i j hi hj (by simp),⟨fun _ _ _ h=>(by cases h),HoleE.none⟩,by rw [hinvfp h1];exact g5⟩
   · obtain ⟨o1,ho1⟩:=f3u hpres (d1y (b0k h1));have hob:=h.obj old _ ho1;show ∃ v,env' x=some v;rw [he];cases o1 with
     | var cs=>obtain ⟨b,vs,el,g1,_⟩:=hob;exact ⟨_,g1⟩
     | row e d es=>cases d with
      | true=>obtain ⟨v,xs,g1,_⟩:=hob;exact ⟨_,g1⟩
      | false=>obtain ⟨v,g1,_⟩:=hob;exact ⟨_,g1⟩
     | deep e es hh=>obtain ⟨v,_,_,g1,_⟩:=hob;exact ⟨_,g1⟩
     | dead=>exact hob
     | save as=>obtain ⟨vs,g1,_⟩:=hob;exact ⟨_,g1⟩
 ·obtain ⟨o1,h1,h2⟩:=hown x b hx;obtain ⟨o2,h3,h4⟩:=hown y b hy;have:=h.apart _ _ _ h2 h4;subst this;have e1:=f5y hn1 (b0k h1);have e2:=f5y hn1 (b0k h3);rw [e1] at e2;exact Option.some.inj e2
 ·obtain ⟨o1,h1,h2⟩:=hown x b hx;exact h.inb _ _ h2
 ·rcases g8l (i:=i) (l:=h3l σ ren keep) with ⟨a,h1,h2,h3⟩ | h1
  ·have ha:=g8m h2;subst ha;obtain ⟨g1,g2⟩:=i4g (ren:=ren) hren hstill (hs i);show RV E env' w _ (a3q _ i) _;rw [h1];exact h9n g1 g2 (fun q hq=>hnilenv (o:=q.2) (List.mem_append_left _ (by rw [← hNS];exact h3 q hq)))
  ·show RV E env' w _ (a3q _ i) _;rw [h1];trivial
theorem h1b (a b:Nm):a8m a b=a8m b a:=by
 unfold a8m;have h:∀ x y:Nat,Nat.beq x y=Nat.beq y x:=fun x y=>by
  rw [Bool.eq_iff_iff];exact ⟨fun h=>(Nat.eq_of_beq_eq_true h)▸Nat.beq_refl _,fun h=>(Nat.eq_of_beq_eq_true h)▸Nat.beq_refl _⟩
 rw [h a.1,h a.2]
theorem e3p (n:Nm) (p:Nm×O):∀ l:List (Nm×O),(d1j (d0f p l)).any (a8m n)=(a8m n p.1 || (d1j l).any (a8m n))
 | []=>by simp [d0f,d1j]
 | q :: r=>by
  unfold d0f;cases i9y p.1 q.1 with
  | true=>simp [d1j]
  | false=>
   simp only [cond_false,d1j,List.any_cons,e3p n p r];cases a8m n p.1 <;> cases a8m n q.1 <;> rfl
theorem g1r (n:Nm):∀ l:List (Nm×O),(d1j (h0m l)).any (a8m n)=(d1j l).any (a8m n)
 | []=>rfl
 | p :: r=>by
  rw [h0m,e3p,g1r n r];simp [d1j]
theorem h4u {a b:Nm} (h:a8m a b=true):a=b:=by
 unfold a8m at h;obtain ⟨h1,h2⟩:=a0d h;exact Prod.ext (Nat.eq_of_beq_eq_true h1) (Nat.eq_of_beq_eq_true h2)
theorem d1z (p:Nm×O) (x:Nm):∀ l:List (Nm×O),(d1j l).any (a8m p.1)=false→a1f (d0f p l) x=a1f (p :: l) x
 | [],_=>rfl
 | q :: r,h=>by
  unfold d0f;cases i9y p.1 q.1 with
  | true=>rfl
  | false=>
   simp only [d1j,List.any_cons,Bool.or_eq_false_iff] at h;have ih:=d1z p x r h.2;simp only [cond_false,a1f] at ih ⊢;rw [ih];cases hq:a8m x q.1 with
   | false=>rfl
   | true=>
    rw [h4u hq,h1b,h.1];rfl
theorem e3q:∀ l:List (Nm×O),b6c (d1j l)=true→a1f (h0m l)=a1f l
 | [],_=>rfl
 | p :: r,h=>by
  unfold b6c d1j at h;obtain ⟨h1,h2⟩:=a0d h;funext x;rw [h0m,d1z p x _ (by rw [g1r];simpa using h1)];simp only [a1f,e3q r h2]
theorem canonOf_same {σ:St} {pins keep:List Nat} {ren:List (Nm×Nm)}:g5n D pins keep σ ren=e1t D pins keep σ ren:=by
 unfold g5n e1t;cases h:(g1d ren pins&&b6c (d1j ren)&&b6c (i6i ren)&&c7i σ.mem (d1j ren)&&b6c (d1j ((c8a D (h3l σ ren keep)).2++(b9r D (b7o σ.mem ren ren)).2++(b9r D (b7o σ.mem ren ren)).1))) with
 | false=>rfl
 | true=>rw [e3q _ (a0d h).2]
def d7j (β:Base) (pins:List Nat):Prop:=∀ n v,(n,v)∈β.pin→∃ i,i∈pins∧n=(i,0)
theorem g8n {σ σ':St} {pins keep:List Nat} {a:Act} (hpins:d7j β pins) (hr:Rel E β N d0 σ a w) (hc:i3p D pins keep σ=some σ'):Rel E β N d0 σ' a w:=by
 obtain ⟨⟨env,hh,hpin,hs⟩,h2,h3⟩:=hr;obtain ⟨env',g1,g2,g3⟩:=h1a hh hs (canonOf_same.symm.trans hc);exact ⟨⟨env',g1,fun n v hn=>by obtain ⟨i,hi,rfl⟩:=hpins n v hn;exact (g2 i hi).trans (hpin _ v hn),g3⟩,h2,h3⟩
theorem g5z {σ:St} {m0:Mem} {a:Act} (hr:Rel E β N d0 σ a w):Rel E β N d0 (f5e m0 σ) a w:=by
 unfold f5e;cases hb:(d1k m0&&!d1k σ.mem) with
 | false=>exact hr
 | true=>
  obtain ⟨_,hn⟩:=a0d hb;obtain ⟨⟨env,hh,hpin,hs⟩,h2,h3⟩:=hr;have hn:σ.mem a3i=none:=by
   unfold d1k at hn;cases hm:σ.mem a3i with
   | none=>rfl
   | some o=>rw [hm] at hn;cases hn
  obtain ⟨g1,g2,g3⟩:=hh.one (w':=w) (L':=[]) a3i .dead undef (.inl (hh.dom _ hn)) (fun _=>⟨undef,Names.put_self _ _ _⟩) (fun b hb=>by simp at hb) (fun b hb=>by simp at hb) List.nodup_nil
   (fun b hb=>by simp [owns,put_self] at hb) (fun _ _ _ _=>rfl) rfl rfl rfl (Nat.le_refl _)
  exact ⟨⟨_,g1,fun i v hi=>g2 _ _ (hpin i v hi),fun i=>(hs i).mono g2 g3⟩,h2,h3⟩
theorem h4v {env:Names} {w:World}:∀ {l:List Nm} {m m':Mem} {p p':FP} {u:Unit},Heap E β [] m env w→(i8w l).ev m p=some (u,m',p')→Heap E β [] m' env w∧Still w w (a0c β [] m env w) (a0c β [] m' env w)
 | [],m,m',p,p',u,h,hp=>by cases hp;exact ⟨h,Still.refl _ _⟩
 | n :: ns,m,m',p,p',u,h,hp=>by
  obtain ⟨_,m1,p1,h1,hq⟩:=M.bind_some hp;obtain ⟨g1,g2⟩:=h.lowD h1;obtain ⟨k1,k2⟩:=h4v g1 hq;exact ⟨k1,g2.still.trans k2⟩
theorem i4h {env:Names} {w:World} {m m':Mem} {p p':FP} {a b:A} {v:Value} (h:Heap E β [] m env w) (hv:RV1 E env w (a0c β [] m env w) a v) (hp:(j0a E a).ev m p=some (b,m',p')) :
  Heap E β [] m' env w∧Prog β env w [] m [] m'∧RV1 E env w (a0c β [] m' env w) b v∧(a.solid=true→b.solid=true):=by
 unfold j0a at hp;split at hp
 ·simp only [M.ev] at hp;split at hp
  ·obtain ⟨t,m1,p1,h1,hq⟩:=M.bind_some hp;obtain ⟨g1,g2,g3⟩:=g5q h hv h1;cases hq;refine ⟨g1,g2,?_,fun _=>rfl⟩;cases g3 with
   | nl=>exact .nl
   | emp=>exact .emp
   | row vs a b c d=>exact .row vs a b c d
  ·cases hp;exact ⟨h,Prog.refl _ _ _ _ _,hv,id⟩
 ·cases hp;refine ⟨h,Prog.refl _ _ _ _ _,?_,fun _=>rfl⟩;rw [show v=_ from hv];exact .nl
 ·cases hp;exact ⟨h,Prog.refl _ _ _ _ _,hv,id⟩
theorem g8o {env:Names} {w:World}:∀ {as bs:List A} {m m':Mem} {p p':FP} {vs:List Value},Heap E β [] m env w→RVs E env w (a0c β [] m env w) as vs→(i3q E as).ev m p=some (bs,m',p')→
  Heap E β [] m' env w∧Prog β env w [] m [] m'∧RVs E env w (a0c β [] m' env w) bs vs∧(a1d as=true→a1d bs=true)
 | [],bs,m,m',p,p',vs,h,hv,hp=>by cases hp;exact ⟨h,Prog.refl _ _ _ _ _,hv,id⟩
 | a :: as,bs,m,m',p,p',vs,h,hv,hp=>by
  cases vs with
  | nil=>exact hv.elim
  | cons v vs=>
   obtain ⟨b,m1,p1,h1,hq⟩:=M.bind_some hp;obtain ⟨bs',m2,p2,h2,hq2⟩:=M.bind_some hq;cases hq2;obtain ⟨g1,g2,g3,g4⟩:=i4h h hv.1 h1;obtain ⟨k1,k2,k3,k4⟩:=g8o g1 (hv.2.mono (Names.le_refl _) g2.still) h2;refine ⟨k1,g2.trans k2,⟨RV1.mono (Names.le_refl _) k2.still g3,k3⟩,fun hs=>?_⟩;obtain ⟨s1,s2⟩:=a0d hs;exact Bool.and_eq_true _ _▸⟨g4 s1,k4 s2⟩
theorem g6a {env:Names} {w:World}:∀ {l:List Nm} {m m':Mem} {p p':FP} {u:Unit},Heap E β [] m env w→(i6x E l).ev m p=some (u,m',p')→Heap E β [] m' env w∧Still w w (a0c β [] m env w) (a0c β [] m' env w)
 | [],m,m',p,p',u,h,hp=>by cases hp;exact ⟨h,Still.refl _ _⟩
 | n :: ns,m,m',p,p',u,h,hp=>by
  simp only [i6x,M.ev] at hp;split at hp
  ·rename_i cs hn;obtain ⟨cs',m1,p1,h1,hq⟩:=M.bind_some hp;obtain ⟨cs2,m2,p2,h2,hq2⟩:=M.bind_some hq;obtain ⟨hn2,rfl⟩:=M.k1c h2;obtain ⟨b,cv,el,hb,hheap,hsol,hrv⟩:=h.obj n _ hn;obtain ⟨g1,g2,g3,g4⟩:=g8o h hrv h1;have hown:owns m1 env n b:=by simp [owns,hn2,hb]
   have key:=g1.one (w':=w) (L':=[]) n (.var cs') _ (.inr hb) (fun hst=>⟨b,_,el,Names.put_self _ _ _,hheap,g4 hsol,g3.mono (Names.k1m (.inr hb)) hst⟩)
    (fun c hc=>by simp at hc) (fun c hc=>by simp at hc) List.nodup_nil
    (fun c hc=>by
     have:b=c:=by simpa [owns,put_self,Names.put_self] using hc
     subst this;exact ⟨(g1.inb _ _ hown).1,.inl hown⟩)
    (fun _ _ _ _=>rfl) rfl rfl rfl (Nat.le_refl _)
   rw [Names.k1n hb] at key;obtain ⟨k1,k2⟩:=g6a key.1 hq2;exact ⟨k1,g2.still.trans (key.2.2.trans k2)⟩
  ·obtain ⟨k1,k2⟩:=g6a h hp;exact ⟨k1,k2⟩
theorem g1s {σ σ':St} {pins keep:List Nat} {a:Act} (hpins:d7j β pins) (hr:Rel E β N d0 σ a w) (hc:g1e E pins keep σ=some σ'):Rel E β N d0 σ' a w:=by
 unfold g1e at hc;cases hm:d1k σ.mem with
 | false=>
  rw [hm] at hc;obtain ⟨_,m1,p1,h0,h2⟩:=M.k0z (show ((i8w _).bind _).run σ.mem ⟨[],[]⟩ _=_ from hc);obtain ⟨_,m2,p2,h1,hq⟩:=M.bind_some h0;obtain ⟨⟨env,hh,hpin,hs⟩,h3,h4⟩:=hr;obtain ⟨g1,g2⟩:=h4v hh h1;have g3:Heap E β [] m1 env w∧Still w w (a0c β [] m2 env w) (a0c β [] m1 env w):=by
   cases hf:i3r E.frz keep with
   | false=>rw [hf] at hq;cases hq;exact ⟨g1,Still.refl _ _⟩
   | true=>rw [hf] at hq;exact g6a g1 hq
  exact g8n hpins ⟨⟨env,g3.1,hpin,fun i=>(hs i).mono (Names.le_refl _) (g2.trans g3.2)⟩,h3,h4⟩ h2
 | true=>
  rw [hm] at hc;obtain ⟨_,m1,p1,h1,h2⟩:=M.k0z (show (g0v E _).run σ.mem ⟨[],[]⟩ _=_ from hc);split at h2
  ·rename_i σ2 hcan;cases h2;obtain ⟨⟨env,hh,hpin,hs⟩,h3,h4⟩:=hr;obtain ⟨env1,g1,g2,g3⟩:=e3e hh h1;have hle:Names.le env env1:=fun x v hx=>(g2 x).trans hx;exact g5z (g8n hpins ⟨⟨env1,g1,fun i v hi=>hle _ _ (hpin i v hi),fun i=>(hs i).mono hle g3⟩,h3,h4⟩ hcan)
  ·cases h2
end
end Go.Proofs.YtjadnceefhbphaaGreat.Ev
