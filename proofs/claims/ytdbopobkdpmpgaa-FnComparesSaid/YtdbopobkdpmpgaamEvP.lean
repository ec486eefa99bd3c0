/- The state at a loop's head stands for the state that was. No condition. -/
import Derived.Test.YtdbopobkdpmpgaamEvO
namespace Go.Proofs.Ytdbopobkdpmpgaa.Ev
open Go
set_option linter.unusedVariables false
section
variable {D:Nat→Bool} {P:Program} {E:Env} {β:Base} {m:Mem} {env env':Names} {w w':World} {S S':Nat→Prop} {N:Nat} {d0:List Deferred}
theorem e8e {ren:List (Nm×Nm)} (hren:∀ n n',b1a ren n=some n'→∀ v,env n=some v→env' n'=some v) (hst:Still w w S S') {a:A} {v:Value} (h:RV1 E env w S a v):RV1 E env' w S' (e0m ren a) v:=by
 cases a with
 | sl e es=>exact RC.mono hst h
 | ref n=>
  cases hl:b1a ren n with
  | none=>simp only [e0m,hl];trivial
  | some n'=>simp only [e0m,hl];exact ⟨hren _ _ hl _ h.1,h.2⟩
 | cut n e f l=>
  cases hl:b1a ren n with
  | none=>simp only [e0m,hl];trivial
  | some n'=>obtain ⟨ga,len,cap,h1,h2⟩:=h;simp only [e0m,hl];exact ⟨ga,len,cap,hren _ _ hl _ h1,h2⟩
 | ptr n o=>
  cases hl:b1a ren n with
  | none=>simp only [e0m,hl];trivial
  | some n'=>obtain ⟨b,h1,h2⟩:=h;simp only [e0m,hl];exact ⟨b,hren _ _ hl _ h1,h2⟩
 | ep n e i o=>
  cases hl:b1a ren n with
  | none=>simp only [e0m,hl];trivial
  | some n'=>obtain ⟨g,len,cap,h1,h2⟩:=h;simp only [e0m,hl];exact ⟨g,len,cap,hren _ _ hl _ h1,h2⟩
 | vp tys cs q=>exact RV1.mono (env:=⟨fun _=>none,fun _=>[]⟩) (a:=.vp tys cs q) (fun _ _ h=>by cases h) hst h
 | clo f o=>
  cases o with
  | none=>exact h
  | some n=>
   cases hl:b1a ren n with
   | none=>simp only [e0m,hl];trivial
   | some n'=>obtain ⟨b,h1,h2⟩:=h;simp only [e0m,hl];exact ⟨b,hren _ _ hl _ h1,h2⟩
 | agg cs=>exact h.elim
 | tup cs=>exact h.elim
 | _=>exact h
theorem d4g {ren:List (Nm×Nm)} (hren:∀ n n',b1a ren n=some n'→∀ v,env n=some v→env' n'=some v) (hst:Still w w S S'):∀ {as:List A} {vs:List Value},RVs E env w S as vs→RVs E env' w S' (b8u ren as) vs
 | [],[],_=>trivial
 | a :: as,v :: vs,h=>⟨e8e hren hst h.1,d4g hren hst h.2⟩
 | [],_ :: _,h=>h.elim
 | _ :: _,[],h=>h.elim
theorem f2d {s:Nat} {a:A} {v:Value} (h:RV E env w S a v) (ht:a.isTup=false) (hn:∀ q,q∈(e0n D s a).2→env q.1=some (.slice none 0 0)):RV E env w S (e0n D s a).1 v:=by
 cases a with
 | agg as=>
  obtain ⟨arr,rfl,hsol,hr⟩:=h;have:=c7j (s:=s) (j:=1) hr hn;exact ⟨arr,rfl,this.2 hsol,this.1⟩
 | tup as=>cases ht
 | nil e=>exact (e2r (E:=E) (w:=w) (S:=S) (at_:=(s,0)) (a:=.nil e) h hn).1
 | _=>exact h
theorem e1a {ren:List (Nm×Nm)} {a:A} (h:a.single=true):f6y ren a=e0m ren a:=by
 cases a <;> first | rfl | cases h
theorem f5v {ren:List (Nm×Nm)} (hren:∀ n n',b1a ren n=some n'→∀ v,env n=some v→env' n'=some v) (hst:Still w w S S') {a:A} {v:Value} (h:RV E env w S a v) :
  RV E env' w S' (f6y ren a) v∧(f6y ren a).isTup=false:=by
 cases a with
 | agg as=>
  obtain ⟨arr,rfl,hsol,hr⟩:=h;have he:f6y ren (.agg as)=(bif a0o (b8u ren as) then .agg (b8u ren as) else .undef):=rfl;rw [he];cases hs:a0o (b8u ren as) with
  | true=>exact ⟨⟨arr,rfl,hs,d4g hren hst hr⟩,rfl⟩
  | false=>exact ⟨trivial,rfl⟩
 | tup as=>exact ⟨trivial,rfl⟩
 | _=>
  rw [c6n rfl] at h;have h1:=e8e hren hst h;rw [e1a rfl];revert h1;generalize e0m ren _=b;intro h1;have h2:b.single=true:=by cases b <;> first | rfl | exact h1.elim
  exact ⟨by rw [c6n h2];exact h1,by cases b <;> first | rfl | cases h2⟩
theorem b7l {m:Mem} {ren:List (Nm×Nm)}:∀ {l:List (Nm×Nm)} {a b:Nm},(a,b)∈l→(b,f7m ren (m a))∈b1b m ren l
 | (x,y) :: r,a,b,h=>by
  rcases List.mem_cons.1 h with h | h
  ·cases h;exact List.mem_cons_self
  ·exact List.mem_cons_of_mem _ (b7l h)
theorem a9o:∀ {l:List (Nm×O)} {x:Nm} {o:O},(x,o)∈l→∃ o',(x,o')∈(b2x D l).1
 | (n,.var cs) :: r,x,o,h=>by
  rcases List.mem_cons.1 h with h | h
  ·cases h;exact ⟨_,List.mem_cons_self⟩
  ·obtain ⟨o',h1⟩:=a9o h;exact ⟨o',List.mem_cons_of_mem _ h1⟩
 | (n,.row e d es) :: r,x,o,h=>by
  rcases List.mem_cons.1 h with h | h
  ·cases h;exact ⟨_,List.mem_cons_self⟩
  ·obtain ⟨o',h1⟩:=a9o h;exact ⟨o',List.mem_cons_of_mem _ h1⟩
 | (n,.dead) :: r,x,o,h=>by
  rcases List.mem_cons.1 h with h | h
  ·cases h;exact ⟨_,List.mem_cons_self⟩
  ·obtain ⟨o',h1⟩:=a9o h;exact ⟨o',List.mem_cons_of_mem _ h1⟩
 | (n,.save as) :: r,x,o,h=>by
  rcases List.mem_cons.1 h with h | h
  ·cases h;exact ⟨_,List.mem_cons_self⟩
  ·obtain ⟨o',h1⟩:=a9o h;exact ⟨o',List.mem_cons_of_mem _ h1⟩
 | (n,.deep e es hh) :: r,x,o,h=>by
  rcases List.mem_cons.1 h with h | h
  ·cases h;exact ⟨_,List.mem_cons_self⟩
  ·obtain ⟨o',h1⟩:=a9o h;exact ⟨o',List.mem_cons_of_mem _ h1⟩
theorem e2s {i:Nat}:∀ {l:List (Nat×A)},(∃ a,b2c (b7s D l).1 i=(e0n D i a).1∧(i,a)∈l∧∀ q,q∈(e0n D i a).2→q∈(b7s D l).2)∨b2c (b7s D l).1 i=.undef
 | []=>.inr rfl
 | (k,a) :: r=>by
  simp only [b7s,b2c];cases hb:Nat.beq i k with
  | true=>
   cases Nat.eq_of_beq_eq_true hb;exact .inl ⟨a,rfl,List.mem_cons_self,fun q hq=>List.mem_append_left _ hq⟩
  | false=>
   rcases e2s (i:=i) (l:=r) with ⟨a',h1,h2,h3⟩ | h1
   ·exact .inl ⟨a',h1,List.mem_cons_of_mem _ h2,fun q hq=>List.mem_append_right _ (h3 q hq)⟩
   ·exact .inr h1
theorem e2t {σ:St} {ren:List (Nm×Nm)}:∀ {keep:List Nat} {i:Nat} {a:A},(i,a)∈e6x σ ren keep→a=f6y ren (σ.sl i)
 | k :: ks,i,a,h=>by
  rcases List.mem_cons.1 h with h | h
  ·cases h;rfl
  ·exact e2t h
theorem d7u {ren:List (Nm×Nm)}:∀ {pins:List Nat} {i:Nat},d7i ren pins=true→i∈pins→b1a ren (i,0)=some (i,0)
 | j :: js,i,h,hi=>by
  obtain ⟨h1,h2⟩:=a0a h;rcases List.mem_cons.1 hi with rfl | hi
  ·split at h1
   ·rename_i n hn;rw [hn,b3p.1 h1]
   ·cases h1
  ·exact d7u h2 hi
theorem e5b {σ σ':St} {pins keep:List Nat} {ren:List (Nm×Nm)} {vv:Nat→Value} (h:Heap E β [] σ.mem env w) (hs:∀ i,RV E env w (a0b β [] σ.mem env w) (σ.sl i) (vv i)) (hc:c5p D pins keep σ ren=some σ') :
  ∃ env',Heap E β [] σ'.mem env' w∧(∀ i,i∈pins→env' (i,0)=env (i,0))∧∀ i,RV E env' w (a0b β [] σ'.mem env' w) (σ'.sl i) (vv i):=by
 unfold c5p at hc;obtain ⟨hck,hq⟩:=a1z hc;cases hq;obtain ⟨hck1,hnd⟩:=a0a hck;obtain ⟨hck2,hpres⟩:=a0a hck1;obtain ⟨hck3,hn2⟩:=a0a hck2;obtain ⟨hpo,hn1⟩:=a0a hck3;generalize hNS:(b7s D (e6x σ ren keep)).2=NS at hnd ⊢;generalize hNM:(b2x D (b1b σ.mem ren ren)).2=NM at hnd ⊢;generalize hMM:(b2x D (b1b σ.mem ren ren)).1=MM at hnd ⊢;generalize hl:NS++NM++MM=l at hnd ⊢
 let env':Names:=⟨fun x=>match a5f ren x with | some old=>env old | none=>(match a2m l x with | some _=>some (.slice none 0 0) | none=>none),fun x=>match a5f ren x with | some old=>env.fp old | none=>[]⟩
 have hMMl:∀ {x o},(x,o)∈MM→(x,o)∈l:=fun hx=>by rw [← hl];exact List.mem_append_right _ hx
 have hnilrow:∀ {x o},(x,o)∈NS++NM→∃ e,o=.row e true []∨o=.deep e [] none:=fun {x o} hx=>by
  rcases List.mem_append.1 hx with hx | hx
  ·rw [← hNS] at hx;exact d7t _ x o hx
  ·rw [← hNM] at hx;exact b3v _ x o hx
 have hnilenv:∀ {x o},(x,o)∈NS++NM→env' x=some (.slice none 0 0):=fun {x o} hx=>by
  have hinv:a5f ren x=none:=by
   cases hi:a5f ren x with
   | none=>rfl
   | some old=>
     obtain ⟨o',ho'⟩:=a9o (D:=D) (b7l (m:=σ.mem) (ren:=ren) (a7h hi));rw [hMM] at ho';exact (c7i (by rw [hl];exact hnd) hx ho').elim
  have hof:=d4f hnd (show (x,o)∈l by rw [← hl];exact List.mem_append_left _ hx);simp only [env',hinv,hof]
 have hinvenv:∀ {x old},a5f ren x=some old→env' x=env old:=fun {x old} hi=>by simp only [env',hi]
 have hinvfp:∀ {x old},a5f ren x=some old→env'.fp x=env.fp old:=fun {x old} hi=>by simp only [env',hi]
 have hnilfp:∀ {x o},(x,o)∈NS++NM→env'.fp x=[]:=fun {x o} hx=>by
  have hinv:a5f ren x=none:=by
   cases hi:a5f ren x with
   | none=>rfl
   | some old=>
     obtain ⟨o',ho'⟩:=a9o (D:=D) (b7l (m:=σ.mem) (ren:=ren) (a7h hi));rw [hMM] at ho';exact (c7i (by rw [hl];exact hnd) hx ho').elim
  simp only [env',hinv]
 have hren:∀ n n',b1a ren n=some n'→∀ v,env n=some v→env' n'=some v:=fun n n' hln v hv=>by
  rw [hinvenv (b3t hn2 (c7h hln))];exact hv
 have hcase:∀ x o,a2m l x=some o→((x,o)∈NS++NM)∨∃ old,a5f ren x=some old∧
   (
    (∃ cs,σ.mem old=some (.var cs)∧a0o (b8u ren cs)=true∧o=.var (b0f D x.1 1 (b8u ren cs)).1∧∀ q,q∈(b0f D x.1 1 (b8u ren cs)).2→(q.1,q.2)∈NS++NM)∨
    (∃ e d es,σ.mem old=some (.row e d es)∧o=.row e d es)∨(∃ e es,σ.mem old=some (.deep e es none)∧o=.deep e es none)∨o=.dead):=by
  intro x o hx;have hx:=d7r hx;rw [← hl] at hx;rcases List.mem_append.1 hx with hx | hx
  ·exact .inl hx
  ·right;rw [← hMM] at hx;have hrenO:∀ {old o},o=f7m ren (σ.mem old)→(∃ cs,σ.mem old=some (.var cs)∧a0o (b8u ren cs)=true∧o=.var (b8u ren cs))∨(∃ e d es,σ.mem old=some (.row e d es)∧o=.row e d es)∨(∃ e es,σ.mem old=some (.deep e es none)∧o=.deep e es none)∨o=.dead:=by
     intro old o ho;cases hm:σ.mem old with
     | none=>rw [hm] at ho;exact .inr (.inr (.inr ho))
     | some o1=>
      rw [hm] at ho;cases o1 with
      | var cs=>
       simp only [f7m] at ho;cases hsol:a0o (b8u ren cs) with
       | true=>rw [hsol] at ho;exact .inl ⟨cs,rfl,hsol,ho⟩
       | false=>rw [hsol] at ho;exact .inr (.inr (.inr ho))
      | row e d es=>exact .inr (.inl ⟨e,d,es,rfl,ho⟩)
      | deep e es hh=>cases hh with
       | none=>exact .inr (.inr (.inl ⟨e,es,rfl,ho⟩))
       | some q=>exact .inr (.inr (.inr ho))
      | dead=>exact .inr (.inr (.inr ho))
      | save as=>exact .inr (.inr (.inr ho))
   rcases b3u hx with ⟨cs,h1,rfl,h3⟩ | ⟨h1,h2⟩
   · obtain ⟨old,g1,g2⟩:=c2g h1;refine ⟨old,b3t hn2 g1,?_⟩;rcases hrenO g2 with ⟨cs0,k1,k2,k3⟩ | ⟨e,d,es,_,k3⟩ | ⟨e,es,_,k3⟩ | k3
     ·cases k3;exact .inl ⟨cs0,k1,k2,rfl,fun q hq=>List.mem_append_right _ (by rw [← hNM];exact h3 q hq)⟩
     ·cases k3
     ·cases k3
     ·cases k3
   · obtain ⟨old,g1,g2⟩:=c2g h1;refine ⟨old,b3t hn2 g1,?_⟩;rcases hrenO g2 with ⟨cs0,k1,k2,k3⟩ | h5
     ·exact (h2 _ k3).elim
     ·exact .inr h5
 have hown:∀ x b,owns (a2m l) env' x b→∃ old,a5f ren x=some old∧owns σ.mem env old b:=by
  intro x b hb;cases hx:a2m l x with
  | none=>simp [owns,hx] at hb
  | some o=>
   rcases hcase x o hx with h1 | ⟨old,h1,h2⟩
   · obtain ⟨e,rfl | rfl⟩:=hnilrow h1
     ·simp [owns,hx,hnilenv h1,Value.ownBlock] at hb
     ·simp [owns,hx,hnilfp h1] at hb
   · refine ⟨old,h1,?_⟩;unfold owns at hb ⊢;rw [hx,hinvenv h1] at hb;rcases h2 with ⟨cs,k1,k2,rfl,_⟩ | ⟨e,d,es,k1,rfl⟩ | ⟨e,es,k1,rfl⟩ | rfl
     ·rw [k1];cases hv:env old with
      | none=>rw [hv] at hb;simp at hb
      | some v=>rw [hv] at hb;cases v with
       | pointer a=>cases a <;> simp_all
       | _=>simp at hb
     ·rw [k1];rw [hinvfp h1] at hb;exact hb
     ·rw [k1];rw [← hinvfp h1];exact hb
     ·cases hv:env old <;> rw [hv] at hb <;> simp at hb
 have hstill:Still w w (a0b β [] σ.mem env w) (a0b β [] (a2m l) env' w):=fun b hb=>
  ⟨⟨hb.1,hb.2.1,fun x hx=>by obtain ⟨old,_,h2⟩:=hown x b hx;exact hb.2.2.1 old h2,hb.2.2.2⟩,rfl⟩
 refine ⟨env',⟨fun x hx=>?_,fun x o hx=>?_,fun x y b hx hy=>?_,fun x b hx=>?_,fun b hb=>by simp at hb,List.nodup_nil,h.os,h.tape,h.output,h.size,h.block,h.gl⟩,fun i hi=>hinvenv (b3t hn2 (c7h (d7u hpo hi))),fun i=>?_⟩
 ·have hinv:a5f ren x=none:=by
   cases hi:a5f ren x with
   | none=>rfl
   | some old=>
     obtain ⟨o',ho'⟩:=a9o (D:=D) (b7l (m:=σ.mem) (ren:=ren) (a7h hi));rw [hMM] at ho';have:=d4f hnd (hMMl ho');have hx:a2m l x=none:=hx;rw [hx] at this;cases this
  have hx:a2m l x=none:=hx;simp only [env',hinv,hx]
 ·rcases hcase x o hx with h1 | ⟨old,h1,h2⟩
  ·obtain ⟨e,rfl | rfl⟩:=hnilrow h1
   · exact ⟨.slice none 0 0,[],hnilenv h1,World.ownsRow_nil w 0 _ _,fun i j hi=>by simp at hi⟩
   · exact ⟨.slice none 0 0,[],fun _=>[],hnilenv h1,World.ownsRow_nil w 0 _ _,fun i j hi=>(by simp at hi),⟨fun _ _ _ h=>(by cases h),HoleE.none⟩,by rw [hnilfp h1];exact ⟨fun b=>by simp [Value.ownBlock],List.nodup_nil,fun p b _ h=>by simp at h,fun p q b _ _ h=>by simp at h⟩⟩
  ·have he:=hinvenv h1;rcases h2 with ⟨cs,k1,k2,rfl,k4⟩ | ⟨e,d,es,k1,rfl⟩ | ⟨e,es,k1,rfl⟩ | rfl
   · obtain ⟨b,vs,el,g1,g2,g3,g4⟩:=h.obj old _ k1;have hr:=d4g (ren:=ren) hren hstill g4;have hf:=c7j (s:=x.1) (j:=1) hr (fun q hq=>hnilenv (k4 q hq));exact ⟨b,vs,el,he.trans g1,g2,hf.2 k2,hf.1⟩
   · have ho:=h.obj old _ k1;cases d with
     | true=>
      obtain ⟨v,xs,g1,g2,g3⟩:=ho;refine ⟨v,xs,he.trans g1,g2,fun i j hi hj=>?_⟩;obtain ⟨u,hu,hr⟩:=g3 i j hi hj;exact ⟨u,hu,hr.mono hstill⟩
     | false=>
      obtain ⟨v,g1,g2,g3⟩:=ho;exact ⟨v,he.trans g1,g2.mono hstill,g3⟩
   · obtain ⟨v,xs,fps,g1,g2,g3,_,g5⟩:=h.obj old _ k1;exact ⟨v,xs,fps,he.trans g1,g2,fun i j hi hj _=>g3 i j hi hj (by simp),⟨fun _ _ _ h=>(by cases h),HoleE.none⟩,by rw [hinvfp h1];exact g5⟩
   · obtain ⟨o1,ho1⟩:=d1x hpres (c0b (a7h h1));have hob:=h.obj old _ ho1;show ∃ v,env' x=some v;rw [he];cases o1 with
     | var cs=>obtain ⟨b,vs,el,g1,_⟩:=hob;exact ⟨_,g1⟩
     | row e d es=>cases d with
      | true=>obtain ⟨v,xs,g1,_⟩:=hob;exact ⟨_,g1⟩
      | false=>obtain ⟨v,g1,_⟩:=hob;exact ⟨_,g1⟩
     | deep e es hh=>obtain ⟨v,_,_,g1,_⟩:=hob;exact ⟨_,g1⟩
     | dead=>exact hob
     | save as=>obtain ⟨vs,g1,_⟩:=hob;exact ⟨_,g1⟩
 ·obtain ⟨o1,h1,h2⟩:=hown x b hx;obtain ⟨o2,h3,h4⟩:=hown y b hy;have:=h.apart _ _ _ h2 h4;subst this;have e1:=d4e hn1 (a7h h1);have e2:=d4e hn1 (a7h h3);rw [e1] at e2;exact Option.some.inj e2
 ·obtain ⟨o1,h1,h2⟩:=hown x b hx;exact h.inb _ _ h2
 ·rcases e2s (i:=i) (l:=e6x σ ren keep) with ⟨a,h1,h2,h3⟩ | h1
  ·have ha:=e2t h2;subst ha;obtain ⟨g1,g2⟩:=f5v (ren:=ren) hren hstill (hs i);show RV E env' w _ (b2c _ i) _;rw [h1];exact f2d g1 g2 (fun q hq=>hnilenv (o:=q.2) (List.mem_append_left _ (by rw [← hNS];exact h3 q hq)))
  ·show RV E env' w _ (b2c _ i) _;rw [h1];trivial
theorem e5c (a b:Nm):a6h a b=a6h b a:=by
 unfold a6h;have h:∀ x y:Nat,Nat.beq x y=Nat.beq y x:=fun x y=>by
  rw [Bool.eq_iff_iff];exact ⟨fun h=>(Nat.eq_of_beq_eq_true h)▸Nat.beq_refl _,fun h=>(Nat.eq_of_beq_eq_true h)▸Nat.beq_refl _⟩
 rw [h a.1,h a.2]
theorem c7l (n:Nm) (p:Nm×O):∀ l:List (Nm×O),(b9m (b8v p l)).any (a6h n)=(a6h n p.1 || (b9m l).any (a6h n))
 | []=>by simp [b8v,b9m]
 | q :: r=>by
  unfold b8v;cases g0b p.1 q.1 with
  | true=>simp [b9m]
  | false=>
   simp only [cond_false,b9m,List.any_cons,c7l n p r];cases a6h n p.1 <;> cases a6h n q.1 <;> rfl
theorem d7v (n:Nm):∀ l:List (Nm×O),(b9m (e4n l)).any (a6h n)=(b9m l).any (a6h n)
 | []=>rfl
 | p :: r=>by
  rw [e4n,c7l,d7v n r];simp [b9m]
theorem e8f {a b:Nm} (h:a6h a b=true):a=b:=by
 unfold a6h at h;obtain ⟨h1,h2⟩:=a0a h;exact Prod.ext (Nat.eq_of_beq_eq_true h1) (Nat.eq_of_beq_eq_true h2)
theorem c0c (p:Nm×O) (x:Nm):∀ l:List (Nm×O),(b9m l).any (a6h p.1)=false→a2m (b8v p l) x=a2m (p :: l) x
 | [],_=>rfl
 | q :: r,h=>by
  unfold b8v;cases g0b p.1 q.1 with
  | true=>rfl
  | false=>
   simp only [b9m,List.any_cons,Bool.or_eq_false_iff] at h;have ih:=c0c p x r h.2;simp only [cond_false,a2m] at ih ⊢;rw [ih];cases hq:a6h x q.1 with
   | false=>rfl
   | true=>
    rw [e8f hq,e5c,h.1];rfl
theorem c7m:∀ l:List (Nm×O),b0g (b9m l)=true→a2m (e4n l)=a2m l
 | [],_=>rfl
 | p :: r,h=>by
  unfold b0g b9m at h;obtain ⟨h1,h2⟩:=a0a h;funext x;rw [e4n,c0c p x _ (by rw [d7v];simpa using h1)];simp only [a2m,c7m r h2]
theorem canonOf_same {σ:St} {pins keep:List Nat} {ren:List (Nm×Nm)}:e0o D pins keep σ ren=c5p D pins keep σ ren:=by
 unfold e0o c5p;cases h:(d7i ren pins&&b0g (b9m ren)&&b0g (f6z ren)&&b7j σ.mem (b9m ren)&&b0g (b9m ((b7s D (e6x σ ren keep)).2++(b2x D (b1b σ.mem ren ren)).2++(b2x D (b1b σ.mem ren ren)).1))) with
 | false=>rfl
 | true=>rw [c7m _ (a0a h).2]
def c3p (β:Base) (pins:List Nat):Prop:=∀ n v,(n,v)∈β.pin→∃ i,i∈pins∧n=(i,0)
theorem e2u {σ σ':St} {pins keep:List Nat} {a:Act} (hpins:c3p β pins) (hr:Rel E β N d0 σ a w) (hc:f5e D pins keep σ=some σ'):Rel E β N d0 σ' a w:=by
 obtain ⟨⟨env,hh,hpin,hs⟩,h2,h3⟩:=hr;obtain ⟨env',g1,g2,g3⟩:=e5b hh hs (canonOf_same.symm.trans hc);exact ⟨⟨env',g1,fun n v hn=>by obtain ⟨i,hi,rfl⟩:=hpins n v hn;exact (g2 i hi).trans (hpin _ v hn),g3⟩,h2,h3⟩
theorem e1b {σ:St} {m0:Mem} {a:Act} (hr:Rel E β N d0 σ a w):Rel E β N d0 (d3k m0 σ) a w:=by
 unfold d3k;cases hb:(b9n m0&&!b9n σ.mem) with
 | false=>exact hr
 | true=>
  obtain ⟨_,hn⟩:=a0a hb;obtain ⟨⟨env,hh,hpin,hs⟩,h2,h3⟩:=hr;have hn:σ.mem a6e=none:=by
   unfold b9n at hn;cases hm:σ.mem a6e with
   | none=>rfl
   | some o=>rw [hm] at hn;cases hn
  obtain ⟨g1,g2,g3⟩:=hh.one (w':=w) (L':=[]) a6e .dead undef (.inl (hh.dom _ hn)) (fun _=>⟨undef,Names.put_self _ _ _⟩) (fun b hb=>by simp at hb) (fun b hb=>by simp at hb) List.nodup_nil
   (fun b hb=>by simp [owns,put_self] at hb) (fun _ _ _ _=>rfl) rfl rfl rfl (Nat.le_refl _)
  exact ⟨⟨_,g1,fun i v hi=>g2 _ _ (hpin i v hi),fun i=>(hs i).mono g2 g3⟩,h2,h3⟩
theorem e8g {env:Names} {w:World}:∀ {l:List Nm} {m m':Mem} {p p':FP} {u:Unit},Heap E β [] m env w→(f9g l).ev m p=some (u,m',p')→Heap E β [] m' env w∧Still w w (a0b β [] m env w) (a0b β [] m' env w)
 | [],m,m',p,p',u,h,hp=>by cases hp;exact ⟨h,Still.refl _ _⟩
 | n :: ns,m,m',p,p',u,h,hp=>by
  obtain ⟨_,m1,p1,h1,hq⟩:=M.bind_some hp;obtain ⟨g1,g2⟩:=h.lowD h1;obtain ⟨k1,k2⟩:=e8g g1 hq;exact ⟨k1,g2.still.trans k2⟩
theorem f5w {env:Names} {w:World} {m m':Mem} {p p':FP} {a b:A} {v:Value} (h:Heap E β [] m env w) (hv:RV1 E env w (a0b β [] m env w) a v) (hp:(g0d E a).ev m p=some (b,m',p')) :
  Heap E β [] m' env w∧Prog β env w [] m [] m'∧RV1 E env w (a0b β [] m' env w) b v∧(a.solid=true→b.solid=true):=by
 unfold g0d at hp;split at hp
 ·simp only [M.ev] at hp;split at hp
  ·obtain ⟨t,m1,p1,h1,hq⟩:=M.bind_some hp;obtain ⟨g1,g2,g3⟩:=e0r h hv h1;cases hq;refine ⟨g1,g2,?_,fun _=>rfl⟩;cases g3 with
   | nl=>exact .nl
   | emp=>exact .emp
   | row vs a b c d=>exact .row vs a b c d
  ·cases hp;exact ⟨h,Prog.refl _ _ _ _ _,hv,id⟩
 ·cases hp;refine ⟨h,Prog.refl _ _ _ _ _,?_,fun _=>rfl⟩;rw [show v=_ from hv];exact .nl
 ·cases hp;exact ⟨h,Prog.refl _ _ _ _ _,hv,id⟩
theorem e2v {env:Names} {w:World}:∀ {as bs:List A} {m m':Mem} {p p':FP} {vs:List Value},Heap E β [] m env w→RVs E env w (a0b β [] m env w) as vs→(f5f E as).ev m p=some (bs,m',p')→
  Heap E β [] m' env w∧Prog β env w [] m [] m'∧RVs E env w (a0b β [] m' env w) bs vs∧(a0o as=true→a0o bs=true)
 | [],bs,m,m',p,p',vs,h,hv,hp=>by cases hp;exact ⟨h,Prog.refl _ _ _ _ _,hv,id⟩
 | a :: as,bs,m,m',p,p',vs,h,hv,hp=>by
  cases vs with
  | nil=>exact hv.elim
  | cons v vs=>
   obtain ⟨b,m1,p1,h1,hq⟩:=M.bind_some hp;obtain ⟨bs',m2,p2,h2,hq2⟩:=M.bind_some hq;cases hq2;obtain ⟨g1,g2,g3,g4⟩:=f5w h hv.1 h1;obtain ⟨k1,k2,k3,k4⟩:=e2v g1 (hv.2.mono (Names.le_refl _) g2.still) h2;refine ⟨k1,g2.trans k2,⟨RV1.mono (Names.le_refl _) k2.still g3,k3⟩,fun hs=>?_⟩;obtain ⟨s1,s2⟩:=a0a hs;exact Bool.and_eq_true _ _▸⟨g4 s1,k4 s2⟩
theorem e1c {env:Names} {w:World}:∀ {l:List Nm} {m m':Mem} {p p':FP} {u:Unit},Heap E β [] m env w→(f7n E l).ev m p=some (u,m',p')→Heap E β [] m' env w∧Still w w (a0b β [] m env w) (a0b β [] m' env w)
 | [],m,m',p,p',u,h,hp=>by cases hp;exact ⟨h,Still.refl _ _⟩
 | n :: ns,m,m',p,p',u,h,hp=>by
  simp only [f7n,M.ev] at hp;split at hp
  ·rename_i cs hn;obtain ⟨cs',m1,p1,h1,hq⟩:=M.bind_some hp;obtain ⟨cs2,m2,p2,h2,hq2⟩:=M.bind_some hq;obtain ⟨hn2,rfl⟩:=M.g5w h2;obtain ⟨b,cv,el,hb,hheap,hsol,hrv⟩:=h.obj n _ hn;obtain ⟨g1,g2,g3,g4⟩:=e2v h hrv h1;have hown:owns m1 env n b:=by simp [owns,hn2,hb]
   have key:=g1.one (w':=w) (L':=[]) n (.var cs') _ (.inr hb) (fun hst=>⟨b,_,el,Names.put_self _ _ _,hheap,g4 hsol,g3.mono (Names.g6g (.inr hb)) hst⟩)
    (fun c hc=>by simp at hc) (fun c hc=>by simp at hc) List.nodup_nil
    (fun c hc=>by
     have:b=c:=by simpa [owns,put_self,Names.put_self] using hc
     subst this;exact ⟨(g1.inb _ _ hown).1,.inl hown⟩)
    (fun _ _ _ _=>rfl) rfl rfl rfl (Nat.le_refl _)
   rw [Names.g6h hb] at key;obtain ⟨k1,k2⟩:=e1c key.1 hq2;exact ⟨k1,g2.still.trans (key.2.2.trans k2)⟩
  ·obtain ⟨k1,k2⟩:=e1c h hp;exact ⟨k1,k2⟩
theorem d7w {σ σ':St} {pins keep:List Nat} {a:Act} (hpins:c3p β pins) (hr:Rel E β N d0 σ a w) (hc:d7j E pins keep σ=some σ'):Rel E β N d0 σ' a w:=by
 unfold d7j at hc;cases hm:b9n σ.mem with
 | false=>
  rw [hm] at hc;obtain ⟨_,m1,p1,h0,h2⟩:=M.g5t (show ((f9g _).bind _).run σ.mem ⟨[],[]⟩ _=_ from hc);obtain ⟨_,m2,p2,h1,hq⟩:=M.bind_some h0;obtain ⟨⟨env,hh,hpin,hs⟩,h3,h4⟩:=hr;obtain ⟨g1,g2⟩:=e8g hh h1;have g3:Heap E β [] m1 env w∧Still w w (a0b β [] m2 env w) (a0b β [] m1 env w):=by
   cases hf:f5g E.frz keep with
   | false=>rw [hf] at hq;cases hq;exact ⟨g1,Still.refl _ _⟩
   | true=>rw [hf] at hq;exact e1c g1 hq
  exact e2u hpins ⟨⟨env,g3.1,hpin,fun i=>(hs i).mono (Names.le_refl _) (g2.trans g3.2)⟩,h3,h4⟩ h2
 | true=>
  rw [hm] at hc;obtain ⟨_,m1,p1,h1,h2⟩:=M.g5t (show (d7a E _).run σ.mem ⟨[],[]⟩ _=_ from hc);split at h2
  ·rename_i σ2 hcan;cases h2;obtain ⟨⟨env,hh,hpin,hs⟩,h3,h4⟩:=hr;obtain ⟨env1,g1,g2,g3⟩:=c7a hh h1;have hle:Names.le env env1:=fun x v hx=>(g2 x).trans hx;exact e1b (e2u hpins ⟨⟨env1,g1,fun i v hi=>hle _ _ (hpin i v hi),fun i=>(hs i).mono hle g3⟩,h3,h4⟩ hcan)
  ·cases h2
end
end Go.Proofs.Ytdbopobkdpmpgaa.Ev
