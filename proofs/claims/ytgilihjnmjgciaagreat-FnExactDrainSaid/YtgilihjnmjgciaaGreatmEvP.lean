/- The state at a loop's head stands for the state that was. No condition. -/
import Derived.Test.YtgilihjnmjgciaaGreatmEvO
namespace Go.Proofs.YtgilihjnmjgciaaGreat.Ev
open Go
set_option linter.unusedVariables false
section
variable {D:Nat→Bool} {P:Program} {E:Env} {β:Base} {m:Mem} {env env':Names} {w w':World} {S S':Nat→Prop} {N:Nat} {d0:List Deferred}
theorem h8j {ren:List (Nm×Nm)} (hren:∀ n n',b8s ren n=some n'→∀ v,env n=some v→env' n'=some v) (hst:Still w w S S') {a:A} {v:Value} (h:RV1 E env w S a v):RV1 E env' w S' (g8s ren a) v:=by
 cases a with
 | sl e es=>exact RC.mono hst h
 | ref n=>
  cases hl:b8s ren n with
  | none=>simp only [g8s,hl];trivial
  | some n'=>simp only [g8s,hl];exact ⟨hren _ _ hl _ h.1,h.2⟩
 | cut n e f l=>
  cases hl:b8s ren n with
  | none=>simp only [g8s,hl];trivial
  | some n'=>obtain ⟨ga,len,cap,h1,h2⟩:=h;simp only [g8s,hl];exact ⟨ga,len,cap,hren _ _ hl _ h1,h2⟩
 | ptr n o=>
  cases hl:b8s ren n with
  | none=>simp only [g8s,hl];trivial
  | some n'=>obtain ⟨b,h1,h2⟩:=h;simp only [g8s,hl];exact ⟨b,hren _ _ hl _ h1,h2⟩
 | ep n e i o=>
  cases hl:b8s ren n with
  | none=>simp only [g8s,hl];trivial
  | some n'=>obtain ⟨g,len,cap,h1,h2⟩:=h;simp only [g8s,hl];exact ⟨g,len,cap,hren _ _ hl _ h1,h2⟩
 | vp tys cs q=>exact RV1.mono (env:=⟨fun _=>none,fun _=>[]⟩) (a:=.vp tys cs q) (fun _ _ h=>by cases h) hst h
 | clo f o=>
  cases o with
  | none=>exact h
  | some n=>
   cases hl:b8s ren n with
   | none=>simp only [g8s,hl];trivial
   | some n'=>obtain ⟨b,h1,h2⟩:=h;simp only [g8s,hl];exact ⟨b,hren _ _ hl _ h1,h2⟩
 | agg cs=>exact h.elim
 | tup cs=>exact h.elim
 | _=>exact h
theorem f8x {ren:List (Nm×Nm)} (hren:∀ n n',b8s ren n=some n'→∀ v,env n=some v→env' n'=some v) (hst:Still w w S S'):∀ {as:List A} {vs:List Value},RVs E env w S as vs→RVs E env' w S' (d1w ren as) vs
 | [],[],_=>trivial
 | a :: as,v :: vs,h=>⟨h8j hren hst h.1,f8x hren hst h.2⟩
 | [],_ :: _,h=>h.elim
 | _ :: _,[],h=>h.elim
theorem i3d {s:Nat} {a:A} {v:Value} (h:RV E env w S a v) (ht:a.isTup=false) (hn:∀ q,q∈(g8t D s a).2→env q.1=some (.slice none 0 0)):RV E env w S (g8t D s a).1 v:=by
 cases a with
 | agg as=>
  obtain ⟨arr,rfl,hsol,hr⟩:=h;have:=e6b (s:=s) (j:=1) hr hn;exact ⟨arr,rfl,this.2 hsol,this.1⟩
 | tup as=>cases ht
 | nil e=>exact (h2a (E:=E) (w:=w) (S:=S) (at_:=(s,0)) (a:=.nil e) h hn).1
 | _=>exact h
theorem g9g {ren:List (Nm×Nm)} {a:A} (h:a.single=true):i9x ren a=g8s ren a:=by
 cases a <;> first | rfl | cases h
theorem i7v {ren:List (Nm×Nm)} (hren:∀ n n',b8s ren n=some n'→∀ v,env n=some v→env' n'=some v) (hst:Still w w S S') {a:A} {v:Value} (h:RV E env w S a v) :
  RV E env' w S' (i9x ren a) v∧(i9x ren a).isTup=false:=by
 cases a with
 | agg as=>
  obtain ⟨arr,rfl,hsol,hr⟩:=h;have he:i9x ren (.agg as)=(bif a1f (d1w ren as) then .agg (d1w ren as) else .undef):=rfl;rw [he];cases hs:a1f (d1w ren as) with
  | true=>exact ⟨⟨arr,rfl,hs,f8x hren hst hr⟩,rfl⟩
  | false=>exact ⟨trivial,rfl⟩
 | tup as=>exact ⟨trivial,rfl⟩
 | _=>
  rw [e5f rfl] at h;have h1:=h8j hren hst h;rw [g9g rfl];revert h1;generalize g8s ren _=b;intro h1;have h2:b.single=true:=by cases b <;> first | rfl | exact h1.elim
  exact ⟨by rw [e5f h2];exact h1,by cases b <;> first | rfl | cases h2⟩
theorem c9c {m:Mem} {ren:List (Nm×Nm)}:∀ {l:List (Nm×Nm)} {a b:Nm},(a,b)∈l→(b,j0m ren (m a))∈b8t m ren l
 | (x,y) :: r,a,b,h=>by
  rcases List.mem_cons.1 h with h | h
  ·cases h;exact List.mem_cons_self
  ·exact List.mem_cons_of_mem _ (c9c h)
theorem b6e:∀ {l:List (Nm×O)} {x:Nm} {o:O},(x,o)∈l→∃ o',(x,o')∈(c1b D l).1
 | (n,.var cs) :: r,x,o,h=>by
  rcases List.mem_cons.1 h with h | h
  ·cases h;exact ⟨_,List.mem_cons_self⟩
  ·obtain ⟨o',h1⟩:=b6e h;exact ⟨o',List.mem_cons_of_mem _ h1⟩
 | (n,.row e d es) :: r,x,o,h=>by
  rcases List.mem_cons.1 h with h | h
  ·cases h;exact ⟨_,List.mem_cons_self⟩
  ·obtain ⟨o',h1⟩:=b6e h;exact ⟨o',List.mem_cons_of_mem _ h1⟩
 | (n,.dead) :: r,x,o,h=>by
  rcases List.mem_cons.1 h with h | h
  ·cases h;exact ⟨_,List.mem_cons_self⟩
  ·obtain ⟨o',h1⟩:=b6e h;exact ⟨o',List.mem_cons_of_mem _ h1⟩
 | (n,.save as) :: r,x,o,h=>by
  rcases List.mem_cons.1 h with h | h
  ·cases h;exact ⟨_,List.mem_cons_self⟩
  ·obtain ⟨o',h1⟩:=b6e h;exact ⟨o',List.mem_cons_of_mem _ h1⟩
 | (n,.deep e es hh) :: r,x,o,h=>by
  rcases List.mem_cons.1 h with h | h
  ·cases h;exact ⟨_,List.mem_cons_self⟩
  ·obtain ⟨o',h1⟩:=b6e h;exact ⟨o',List.mem_cons_of_mem _ h1⟩
theorem h2b {i:Nat}:∀ {l:List (Nat×A)},(∃ a,a3k (c9r D l).1 i=(g8t D i a).1∧(i,a)∈l∧∀ q,q∈(g8t D i a).2→q∈(c9r D l).2)∨a3k (c9r D l).1 i=.undef
 | []=>.inr rfl
 | (k,a) :: r=>by
  simp only [c9r,a3k];cases hb:Nat.beq i k with
  | true=>
   cases Nat.eq_of_beq_eq_true hb;exact .inl ⟨a,rfl,List.mem_cons_self,fun q hq=>List.mem_append_left _ hq⟩
  | false=>
   rcases h2b (i:=i) (l:=r) with ⟨a',h1,h2,h3⟩ | h1
   ·exact .inl ⟨a',h1,List.mem_cons_of_mem _ h2,fun q hq=>List.mem_append_right _ (h3 q hq)⟩
   ·exact .inr h1
theorem h2c {σ:St} {ren:List (Nm×Nm)}:∀ {keep:List Nat} {i:Nat} {a:A},(i,a)∈h7c σ ren keep→a=i9x ren (σ.sl i)
 | k :: ks,i,a,h=>by
  rcases List.mem_cons.1 h with h | h
  ·cases h;rfl
  ·exact h2c h
theorem g4r {ren:List (Nm×Nm)}:∀ {pins:List Nat} {i:Nat},g4f ren pins=true→i∈pins→b8s ren (i,0)=some (i,0)
 | j :: js,i,h,hi=>by
  obtain ⟨h1,h2⟩:=a0d h;rcases List.mem_cons.1 hi with rfl | hi
  ·split at h1
   ·rename_i n hn;rw [hn,c2j.1 h1]
   ·cases h1
  ·exact g4r h2 hi
theorem h4r {σ σ':St} {pins keep:List Nat} {ren:List (Nm×Nm)} {vv:Nat→Value} (h:Heap E β [] σ.mem env w) (hs:∀ i,RV E env w (a0c β [] σ.mem env w) (σ.sl i) (vv i)) (hc:e4g D pins keep σ ren=some σ') :
  ∃ env',Heap E β [] σ'.mem env' w∧(∀ i,i∈pins→env' (i,0)=env (i,0))∧∀ i,RV E env' w (a0c β [] σ'.mem env' w) (σ'.sl i) (vv i):=by
 unfold e4g at hc;obtain ⟨hck,hq⟩:=a3f hc;cases hq;obtain ⟨hck1,hnd⟩:=a0d hck;obtain ⟨hck2,hpres⟩:=a0d hck1;obtain ⟨hck3,hn2⟩:=a0d hck2;obtain ⟨hpo,hn1⟩:=a0d hck3;generalize hNS:(c9r D (h7c σ ren keep)).2=NS at hnd ⊢;generalize hNM:(c1b D (b8t σ.mem ren ren)).2=NM at hnd ⊢;generalize hMM:(c1b D (b8t σ.mem ren ren)).1=MM at hnd ⊢;generalize hl:NS++NM++MM=l at hnd ⊢
 let env':Names:=⟨fun x=>match a7o ren x with | some old=>env old | none=>(match a1e l x with | some _=>some (.slice none 0 0) | none=>none),fun x=>match a7o ren x with | some old=>env.fp old | none=>[]⟩
 have hMMl:∀ {x o},(x,o)∈MM→(x,o)∈l:=fun hx=>by rw [← hl];exact List.mem_append_right _ hx
 have hnilrow:∀ {x o},(x,o)∈NS++NM→∃ e,o=.row e true []∨o=.deep e [] none:=fun {x o} hx=>by
  rcases List.mem_append.1 hx with hx | hx
  ·rw [← hNS] at hx;exact g4q _ x o hx
  ·rw [← hNM] at hx;exact c2p _ x o hx
 have hnilenv:∀ {x o},(x,o)∈NS++NM→env' x=some (.slice none 0 0):=fun {x o} hx=>by
  have hinv:a7o ren x=none:=by
   cases hi:a7o ren x with
   | none=>rfl
   | some old=>
     obtain ⟨o',ho'⟩:=b6e (D:=D) (c9c (m:=σ.mem) (ren:=ren) (b1d hi));rw [hMM] at ho';exact (e6a (by rw [hl];exact hnd) hx ho').elim
  have hof:=f8w hnd (show (x,o)∈l by rw [← hl];exact List.mem_append_left _ hx);simp only [env',hinv,hof]
 have hinvenv:∀ {x old},a7o ren x=some old→env' x=env old:=fun {x old} hi=>by simp only [env',hi]
 have hinvfp:∀ {x old},a7o ren x=some old→env'.fp x=env.fp old:=fun {x old} hi=>by simp only [env',hi]
 have hnilfp:∀ {x o},(x,o)∈NS++NM→env'.fp x=[]:=fun {x o} hx=>by
  have hinv:a7o ren x=none:=by
   cases hi:a7o ren x with
   | none=>rfl
   | some old=>
     obtain ⟨o',ho'⟩:=b6e (D:=D) (c9c (m:=σ.mem) (ren:=ren) (b1d hi));rw [hMM] at ho';exact (e6a (by rw [hl];exact hnd) hx ho').elim
  simp only [env',hinv]
 have hren:∀ n n',b8s ren n=some n'→∀ v,env n=some v→env' n'=some v:=fun n n' hln v hv=>by
  rw [hinvenv (c2n hn2 (e5z hln))];exact hv
 have hcase:∀ x o,a1e l x=some o→((x,o)∈NS++NM)∨∃ old,a7o ren x=some old∧
   (
    (∃ cs,σ.mem old=some (.var cs)∧a1f (d1w ren cs)=true∧o=.var (b7h D x.1 1 (d1w ren cs)).1∧∀ q,q∈(b7h D x.1 1 (d1w ren cs)).2→(q.1,q.2)∈NS++NM)∨
    (∃ e d es,σ.mem old=some (.row e d es)∧o=.row e d es)∨(∃ e es,σ.mem old=some (.deep e es none)∧o=.deep e es none)∨o=.dead):=by
  intro x o hx;have hx:=g4o hx;rw [← hl] at hx;rcases List.mem_append.1 hx with hx | hx
  ·exact .inl hx
  ·right;rw [← hMM] at hx;have hrenO:∀ {old o},o=j0m ren (σ.mem old)→(∃ cs,σ.mem old=some (.var cs)∧a1f (d1w ren cs)=true∧o=.var (d1w ren cs))∨(∃ e d es,σ.mem old=some (.row e d es)∧o=.row e d es)∨(∃ e es,σ.mem old=some (.deep e es none)∧o=.deep e es none)∨o=.dead:=by
     intro old o ho;cases hm:σ.mem old with
     | none=>rw [hm] at ho;exact .inr (.inr (.inr ho))
     | some o1=>
      rw [hm] at ho;cases o1 with
      | var cs=>
       simp only [j0m] at ho;cases hsol:a1f (d1w ren cs) with
       | true=>rw [hsol] at ho;exact .inl ⟨cs,rfl,hsol,ho⟩
       | false=>rw [hsol] at ho;exact .inr (.inr (.inr ho))
      | row e d es=>exact .inr (.inl ⟨e,d,es,rfl,ho⟩)
      | deep e es hh=>cases hh with
       | none=>exact .inr (.inr (.inl ⟨e,es,rfl,ho⟩))
       | some q=>exact .inr (.inr (.inr ho))
      | dead=>exact .inr (.inr (.inr ho))
      | save as=>exact .inr (.inr (.inr ho))
   rcases c2o hx with ⟨cs,h1,rfl,h3⟩ | ⟨h1,h2⟩
   · obtain ⟨old,g1,g2⟩:=d7w h1;refine ⟨old,c2n hn2 g1,?_⟩;rcases hrenO g2 with ⟨cs0,k1,k2,k3⟩ | ⟨e,d,es,_,k3⟩ | ⟨e,es,_,k3⟩ | k3
     ·cases k3;exact .inl ⟨cs0,k1,k2,rfl,fun q hq=>List.mem_append_right _ (by rw [← hNM];exact h3 q hq)⟩
     ·cases k3
     ·cases k3
     ·cases k3
   · obtain ⟨old,g1,g2⟩:=d7w h1;refine ⟨old,c2n hn2 g1,?_⟩;rcases hrenO g2 with ⟨cs0,k1,k2,k3⟩ | h5
     ·exact (h2 _ k3).elim
     ·exact .inr h5
 have hown:∀ x b,owns (a1e l) env' x b→∃ old,a7o ren x=some old∧owns σ.mem env old b:=by
  intro x b hb;cases hx:a1e l x with
  | none=>simp [owns,hx] at hb
  | some o=>
   rcases hcase x o hx with h1 | ⟨old,h1,h2⟩
   · obtain ⟨e,rfl | rfl⟩:=hnilrow h1
     ·simp [owns,hx,hnilenv h1,Value.ownBlock] at hb
     ·simp [owns,hx,hnilfp h1] at hb
   · refine ⟨old,h1,?_⟩;unfold owns at hb ⊢;rw [hx,hinvenv h1] at hb;rcases h2 with ⟨cs,k1,k2,rfl,_⟩ | ⟨e,d,es,k1,rfl⟩ | ⟨e,es,k1,rfl⟩ | rfl
     ·rw [k1];cases hv:env old with
      | none=>rw [hv] at hb;simp at hb
      | some v=>rw [hv] at hb;cases v with
       | pointer a=>cases a <;> simp_all
       | _=>simp at hb
     ·rw [k1];rw [hinvfp h1] at hb;exact hb
     ·rw [k1];rw [← hinvfp h1];exact hb
     ·cases hv:env old <;> rw [hv] at hb <;> simp at hb
 have hstill:Still w w (a0c β [] σ.mem env w) (a0c β [] (a1e l) env' w):=fun b hb=>
  ⟨⟨hb.1,hb.2.1,fun x hx=>by obtain ⟨old,_,h2⟩:=hown x b hx;exact hb.2.2.1 old h2,hb.2.2.2⟩,rfl⟩
 refine ⟨env',⟨fun x hx=>?_,fun x o hx=>?_,fun x y b hx hy=>?_,fun x b hx=>?_,fun b hb=>by simp at hb,List.nodup_nil,h.os,h.tape,h.output,h.size,h.block,h.gl⟩,fun i hi=>hinvenv (c2n hn2 (e5z (g4r hpo hi))),fun i=>?_⟩
 ·have hinv:a7o ren x=none:=by
   cases hi:a7o ren x with
   | none=>rfl
   | some old=>
     obtain ⟨o',ho'⟩:=b6e (D:=D) (c9c (m:=σ.mem) (ren:=ren) (b1d hi));rw [hMM] at ho';have:=f8w hnd (hMMl ho');have hx:a1e l x=none:=hx;rw [hx] at this;cases this
  have hx:a1e l x=none:=hx;simp only [env',hinv,hx]
 ·rcases hcase x o hx with h1 | ⟨old,h1,h2⟩
  ·obtain ⟨e,rfl | rfl⟩:=hnilrow h1
   · exact ⟨.slice none 0 0,[],hnilenv h1,World.ownsRow_nil w 0 _ _,fun i j hi=>by simp at hi⟩
   · exact ⟨.slice none 0 0,[],fun _=>[],hnilenv h1,World.ownsRow_nil w 0 _ _,fun i j hi=>(by simp at hi),⟨fun _ _ _ h=>(by cases h),HoleE.none⟩,by rw [hnilfp h1];exact ⟨fun b=>by simp [Value.ownBlock],List.nodup_nil,fun p b _ h=>by simp at h,fun p q b _ _ h=>by simp at h⟩⟩
  ·have he:=hinvenv h1;rcases h2 with ⟨cs,k1,k2,rfl,k4⟩ | ⟨e,d,es,k1,rfl⟩ | ⟨e,es,k1,rfl⟩ | rfl
   · obtain ⟨b,vs,el,g1,g2,g3,g4⟩:=h.obj old _ k1;have hr:=f8x (ren:=ren) hren hstill g4;have hf:=e6b (s:=x.1) (j:=1) hr (fun q hq=>hnilenv (k4 q hq));exact ⟨b,vs,el,he.trans g1,g2,hf.2 k2,hf.1⟩
   · have ho:=h.obj old _ k1;cases d with
     | true=>
      obtain ⟨v,xs,g1,g2,g3⟩:=ho;refine ⟨v,xs,he.trans g1,g2,fun i j hi hj=>?_⟩;obtain ⟨u,hu,hr⟩:=g3 i j hi hj;exact ⟨u,hu,hr.mono hstill⟩
     | false=>
      obtain ⟨v,g1,g2,g3⟩:=ho;exact ⟨v,he.trans g1,g2.mono hstill,g3⟩
   · obtain ⟨v,xs,fps,g1,g2,g3,_,g5⟩:=h.obj old _ k1;exact ⟨v,xs,fps,he.trans g1,g2,fun i j hi hj _=>g3 i j hi hj (by simp),⟨fun _ _ _ h=>(by cases h),HoleE.none⟩,by rw [hinvfp h1];exact g5⟩
   · obtain ⟨o1,ho1⟩:=f6p hpres (d3t (b1d h1));have hob:=h.obj old _ ho1;show ∃ v,env' x=some v;rw [he];cases o1 with
     | var cs=>obtain ⟨b,vs,el,g1,_⟩:=hob;exact ⟨_,g1⟩
     | row e d es=>cases d with
      | true=>obtain ⟨v,xs,g1,_⟩:=hob;exact ⟨_,g1⟩
      | false=>obtain ⟨v,g1,_⟩:=hob;exact ⟨_,g1⟩
     | deep e es hh=>obtain ⟨v,_,_,g1,_⟩:=hob;exact ⟨_,g1⟩
     | dead=>exact hob
     | save as=>obtain ⟨vs,g1,_⟩:=hob;exact ⟨_,g1⟩
 ·obtain ⟨o1,h1,h2⟩:=hown x b hx;obtain ⟨o2,h3,h4⟩:=hown y b hy;have:=h.apart _ _ _ h2 h4;subst this;have e1:=f8v hn1 (b1d h1);have e2:=f8v hn1 (b1d h3);rw [e1] at e2;exact Option.some.inj e2
 ·obtain ⟨o1,h1,h2⟩:=hown x b hx;exact h.inb _ _ h2
 ·rcases h2b (i:=i) (l:=h7c σ ren keep) with ⟨a,h1,h2,h3⟩ | h1
  ·have ha:=h2c h2;subst ha;obtain ⟨g1,g2⟩:=i7v (ren:=ren) hren hstill (hs i);show RV E env' w _ (a3k _ i) _;rw [h1];exact i3d g1 g2 (fun q hq=>hnilenv (o:=q.2) (List.mem_append_left _ (by rw [← hNS];exact h3 q hq)))
  ·show RV E env' w _ (a3k _ i) _;rw [h1];trivial
theorem h4s (a b:Nm):a9c a b=a9c b a:=by
 unfold a9c;have h:∀ x y:Nat,Nat.beq x y=Nat.beq y x:=fun x y=>by
  rw [Bool.eq_iff_iff];exact ⟨fun h=>(Nat.eq_of_beq_eq_true h)▸Nat.beq_refl _,fun h=>(Nat.eq_of_beq_eq_true h)▸Nat.beq_refl _⟩
 rw [h a.1,h a.2]
theorem e6d (n:Nm) (p:Nm×O):∀ l:List (Nm×O),(d3e (d1x p l)).any (a9c n)=(a9c n p.1 || (d3e l).any (a9c n))
 | []=>by simp [d1x,d3e]
 | q :: r=>by
  unfold d1x;cases j3r p.1 q.1 with
  | true=>simp [d3e]
  | false=>
   simp only [cond_false,d3e,List.any_cons,e6d n p r];cases a9c n p.1 <;> cases a9c n q.1 <;> rfl
theorem g4s (n:Nm):∀ l:List (Nm×O),(d3e (h4d l)).any (a9c n)=(d3e l).any (a9c n)
 | []=>rfl
 | p :: r=>by
  rw [h4d,e6d,g4s n r];simp [d3e]
theorem h8k {a b:Nm} (h:a9c a b=true):a=b:=by
 unfold a9c at h;obtain ⟨h1,h2⟩:=a0d h;exact Prod.ext (Nat.eq_of_beq_eq_true h1) (Nat.eq_of_beq_eq_true h2)
theorem d3u (p:Nm×O) (x:Nm):∀ l:List (Nm×O),(d3e l).any (a9c p.1)=false→a1e (d1x p l) x=a1e (p :: l) x
 | [],_=>rfl
 | q :: r,h=>by
  unfold d1x;cases j3r p.1 q.1 with
  | true=>rfl
  | false=>
   simp only [d3e,List.any_cons,Bool.or_eq_false_iff] at h;have ih:=d3u p x r h.2;simp only [cond_false,a1e] at ih ⊢;rw [ih];cases hq:a9c x q.1 with
   | false=>rfl
   | true=>
    rw [h8k hq,h4s,h.1];rfl
theorem e6e:∀ l:List (Nm×O),b7i (d3e l)=true→a1e (h4d l)=a1e l
 | [],_=>rfl
 | p :: r,h=>by
  unfold b7i d3e at h;obtain ⟨h1,h2⟩:=a0d h;funext x;rw [h4d,d3u p x _ (by rw [g4s];simpa using h1)];simp only [a1e,e6e r h2]
theorem canonOf_same {σ:St} {pins keep:List Nat} {ren:List (Nm×Nm)}:g8u D pins keep σ ren=e4g D pins keep σ ren:=by
 unfold g8u e4g;cases h:(g4f ren pins&&b7i (d3e ren)&&b7i (i9y ren)&&c9a σ.mem (d3e ren)&&b7i (d3e ((c9r D (h7c σ ren keep)).2++(c1b D (b8t σ.mem ren ren)).2++(c1b D (b8t σ.mem ren ren)).1))) with
 | false=>rfl
 | true=>rw [e6e _ (a0d h).2]
def d9o (β:Base) (pins:List Nat):Prop:=∀ n v,(n,v)∈β.pin→∃ i,i∈pins∧n=(i,0)
theorem h2d {σ σ':St} {pins keep:List Nat} {a:Act} (hpins:d9o β pins) (hr:Rel E β N d0 σ a w) (hc:i7e D pins keep σ=some σ'):Rel E β N d0 σ' a w:=by
 obtain ⟨⟨env,hh,hpin,hs⟩,h2,h3⟩:=hr;obtain ⟨env',g1,g2,g3⟩:=h4r hh hs (canonOf_same.symm.trans hc);exact ⟨⟨env',g1,fun n v hn=>by obtain ⟨i,hi,rfl⟩:=hpins n v hn;exact (g2 i hi).trans (hpin _ v hn),g3⟩,h2,h3⟩
theorem g9h {σ:St} {m0:Mem} {a:Act} (hr:Rel E β N d0 σ a w):Rel E β N d0 (f8b m0 σ) a w:=by
 unfold f8b;cases hb:(d3f m0&&!d3f σ.mem) with
 | false=>exact hr
 | true=>
  obtain ⟨_,hn⟩:=a0d hb;obtain ⟨⟨env,hh,hpin,hs⟩,h2,h3⟩:=hr;have hn:σ.mem a3l=none:=by
   unfold d3f at hn;cases hm:σ.mem a3l with
   | none=>rfl
   | some o=>rw [hm] at hn;cases hn
  obtain ⟨g1,g2,g3⟩:=hh.one (w':=w) (L':=[]) a3l .dead undef (.inl (hh.dom _ hn)) (fun _=>⟨undef,Names.put_self _ _ _⟩) (fun b hb=>by simp at hb) (fun b hb=>by simp at hb) List.nodup_nil
   (fun b hb=>by simp [owns,put_self] at hb) (fun _ _ _ _=>rfl) rfl rfl rfl (Nat.le_refl _)
  exact ⟨⟨_,g1,fun i v hi=>g2 _ _ (hpin i v hi),fun i=>(hs i).mono g2 g3⟩,h2,h3⟩
theorem h8l {env:Names} {w:World}:∀ {l:List Nm} {m m':Mem} {p p':FP} {u:Unit},Heap E β [] m env w→(j2n l).ev m p=some (u,m',p')→Heap E β [] m' env w∧Still w w (a0c β [] m env w) (a0c β [] m' env w)
 | [],m,m',p,p',u,h,hp=>by cases hp;exact ⟨h,Still.refl _ _⟩
 | n :: ns,m,m',p,p',u,h,hp=>by
  obtain ⟨_,m1,p1,h1,hq⟩:=M.bind_some hp;obtain ⟨g1,g2⟩:=h.lowD h1;obtain ⟨k1,k2⟩:=h8l g1 hq;exact ⟨k1,g2.still.trans k2⟩
theorem i7w {env:Names} {w:World} {m m':Mem} {p p':FP} {a b:A} {v:Value} (h:Heap E β [] m env w) (hv:RV1 E env w (a0c β [] m env w) a v) (hp:(j3t E a).ev m p=some (b,m',p')) :
  Heap E β [] m' env w∧Prog β env w [] m [] m'∧RV1 E env w (a0c β [] m' env w) b v∧(a.solid=true→b.solid=true):=by
 unfold j3t at hp;split at hp
 ·simp only [M.ev] at hp;split at hp
  ·obtain ⟨t,m1,p1,h1,hq⟩:=M.bind_some hp;obtain ⟨g1,g2,g3⟩:=g8x h hv h1;cases hq;refine ⟨g1,g2,?_,fun _=>rfl⟩;cases g3 with
   | nl=>exact .nl
   | emp=>exact .emp
   | row vs a b c d=>exact .row vs a b c d
  ·cases hp;exact ⟨h,Prog.refl _ _ _ _ _,hv,id⟩
 ·cases hp;refine ⟨h,Prog.refl _ _ _ _ _,?_,fun _=>rfl⟩;rw [show v=_ from hv];exact .nl
 ·cases hp;exact ⟨h,Prog.refl _ _ _ _ _,hv,id⟩
theorem h2e {env:Names} {w:World}:∀ {as bs:List A} {m m':Mem} {p p':FP} {vs:List Value},Heap E β [] m env w→RVs E env w (a0c β [] m env w) as vs→(i7f E as).ev m p=some (bs,m',p')→
  Heap E β [] m' env w∧Prog β env w [] m [] m'∧RVs E env w (a0c β [] m' env w) bs vs∧(a1f as=true→a1f bs=true)
 | [],bs,m,m',p,p',vs,h,hv,hp=>by cases hp;exact ⟨h,Prog.refl _ _ _ _ _,hv,id⟩
 | a :: as,bs,m,m',p,p',vs,h,hv,hp=>by
  cases vs with
  | nil=>exact hv.elim
  | cons v vs=>
   obtain ⟨b,m1,p1,h1,hq⟩:=M.bind_some hp;obtain ⟨bs',m2,p2,h2,hq2⟩:=M.bind_some hq;cases hq2;obtain ⟨g1,g2,g3,g4⟩:=i7w h hv.1 h1;obtain ⟨k1,k2,k3,k4⟩:=h2e g1 (hv.2.mono (Names.le_refl _) g2.still) h2;refine ⟨k1,g2.trans k2,⟨RV1.mono (Names.le_refl _) k2.still g3,k3⟩,fun hs=>?_⟩;obtain ⟨s1,s2⟩:=a0d hs;exact Bool.and_eq_true _ _▸⟨g4 s1,k4 s2⟩
theorem g9i {env:Names} {w:World}:∀ {l:List Nm} {m m':Mem} {p p':FP} {u:Unit},Heap E β [] m env w→(j0n E l).ev m p=some (u,m',p')→Heap E β [] m' env w∧Still w w (a0c β [] m env w) (a0c β [] m' env w)
 | [],m,m',p,p',u,h,hp=>by cases hp;exact ⟨h,Still.refl _ _⟩
 | n :: ns,m,m',p,p',u,h,hp=>by
  simp only [j0n,M.ev] at hp;split at hp
  ·rename_i cs hn;obtain ⟨cs',m1,p1,h1,hq⟩:=M.bind_some hp;obtain ⟨cs2,m2,p2,h2,hq2⟩:=M.bind_some hq;obtain ⟨hn2,rfl⟩:=M.k5h h2;obtain ⟨b,cv,el,hb,hheap,hsol,hrv⟩:=h.obj n _ hn;obtain ⟨g1,g2,g3,g4⟩:=h2e h hrv h1;have hown:owns m1 env n b:=by simp [owns,hn2,hb]
   have key:=g1.one (w':=w) (L':=[]) n (.var cs') _ (.inr hb) (fun hst=>⟨b,_,el,Names.put_self _ _ _,hheap,g4 hsol,g3.mono (Names.k5r (.inr hb)) hst⟩)
    (fun c hc=>by simp at hc) (fun c hc=>by simp at hc) List.nodup_nil
    (fun c hc=>by
     have:b=c:=by simpa [owns,put_self,Names.put_self] using hc
     subst this;exact ⟨(g1.inb _ _ hown).1,.inl hown⟩)
    (fun _ _ _ _=>rfl) rfl rfl rfl (Nat.le_refl _)
   rw [Names.k5s hb] at key;obtain ⟨k1,k2⟩:=g9i key.1 hq2;exact ⟨k1,g2.still.trans (key.2.2.trans k2)⟩
  ·obtain ⟨k1,k2⟩:=g9i h hp;exact ⟨k1,k2⟩
theorem g4t {σ σ':St} {pins keep:List Nat} {a:Act} (hpins:d9o β pins) (hr:Rel E β N d0 σ a w) (hc:g4g E pins keep σ=some σ'):Rel E β N d0 σ' a w:=by
 unfold g4g at hc;cases hm:d3f σ.mem with
 | false=>
  rw [hm] at hc;obtain ⟨_,m1,p1,h0,h2⟩:=M.k5e (show ((j2n _).bind _).run σ.mem ⟨[],[]⟩ _=_ from hc);obtain ⟨_,m2,p2,h1,hq⟩:=M.bind_some h0;obtain ⟨⟨env,hh,hpin,hs⟩,h3,h4⟩:=hr;obtain ⟨g1,g2⟩:=h8l hh h1;have g3:Heap E β [] m1 env w∧Still w w (a0c β [] m2 env w) (a0c β [] m1 env w):=by
   cases hf:i7g E.frz keep with
   | false=>rw [hf] at hq;cases hq;exact ⟨g1,Still.refl _ _⟩
   | true=>rw [hf] at hq;exact g9i g1 hq
  exact h2d hpins ⟨⟨env,g3.1,hpin,fun i=>(hs i).mono (Names.le_refl _) (g2.trans g3.2)⟩,h3,h4⟩ h2
 | true=>
  rw [hm] at hc;obtain ⟨_,m1,p1,h1,h2⟩:=M.k5e (show (g3x E _).run σ.mem ⟨[],[]⟩ _=_ from hc);split at h2
  ·rename_i σ2 hcan;cases h2;obtain ⟨⟨env,hh,hpin,hs⟩,h3,h4⟩:=hr;obtain ⟨env1,g1,g2,g3⟩:=e5s hh h1;have hle:Names.le env env1:=fun x v hx=>(g2 x).trans hx;exact g9h (h2d hpins ⟨⟨env1,g1,fun i v hi=>hle _ _ (hpin i v hi),fun i=>(hs i).mono hle g3⟩,h3,h4⟩ hcan)
  ·cases h2
end
end Go.Proofs.YtgilihjnmjgciaaGreat.Ev
