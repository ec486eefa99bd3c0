/- The state at a loop's head stands for the state that was. No condition. -/
import Derived.Test.YtkamidjllckpgaaGreatmEvO
namespace Go.Proofs.YtkamidjllckpgaaGreat.Ev
open Go
set_option linter.unusedVariables false
section
variable {D:Nat→Bool} {P:Program} {E:Env} {β:Base} {m:Mem} {env env':Names} {w w':World} {S S':Nat→Prop} {N:Nat} {d0:List Deferred}
theorem i0a {ren:List (Nm×Nm)} (hren:∀ n n',c0x ren n=some n'→∀ v,env n=some v→env' n'=some v) (hst:Still w w S S') {a:A} {v:Value} (h:RV1 E env w S a v):RV1 E env' w S' (h0y ren a) v:=by
 cases a with
 | sl e es=>exact RC.mono hst h
 | ref n=>
  cases hl:c0x ren n with
  | none=>simp only [h0y,hl];trivial
  | some n'=>simp only [h0y,hl];exact ⟨hren _ _ hl _ h.1,h.2⟩
 | cut n e f l=>
  cases hl:c0x ren n with
  | none=>simp only [h0y,hl];trivial
  | some n'=>obtain ⟨ga,len,cap,h1,h2⟩:=h;simp only [h0y,hl];exact ⟨ga,len,cap,hren _ _ hl _ h1,h2⟩
 | ptr n o=>
  cases hl:c0x ren n with
  | none=>simp only [h0y,hl];trivial
  | some n'=>obtain ⟨b,h1,h2⟩:=h;simp only [h0y,hl];exact ⟨b,hren _ _ hl _ h1,h2⟩
 | ep n e i o=>
  cases hl:c0x ren n with
  | none=>simp only [h0y,hl];trivial
  | some n'=>obtain ⟨g,len,cap,h1,h2⟩:=h;simp only [h0y,hl];exact ⟨g,len,cap,hren _ _ hl _ h1,h2⟩
 | vp tys cs q=>exact RV1.mono (env:=⟨fun _=>none,fun _=>[]⟩) (a:=.vp tys cs q) (fun _ _ h=>by cases h) hst h
 | clo f o=>
  cases o with
  | none=>exact h
  | some n=>
   cases hl:c0x ren n with
   | none=>simp only [h0y,hl];trivial
   | some n'=>obtain ⟨b,h1,h2⟩:=h;simp only [h0y,hl];exact ⟨b,hren _ _ hl _ h1,h2⟩
 | agg cs=>exact h.elim
 | tup cs=>exact h.elim
 | _=>exact h
theorem g2d {ren:List (Nm×Nm)} (hren:∀ n n',c0x ren n=some n'→∀ v,env n=some v→env' n'=some v) (hst:Still w w S S'):∀ {as:List A} {vs:List Value},RVs E env w S as vs→RVs E env' w S' (d5q ren as) vs
 | [],[],_=>trivial
 | a :: as,v :: vs,h=>⟨i0a hren hst h.1,g2d hren hst h.2⟩
 | [],_ :: _,h=>h.elim
 | _ :: _,[],h=>h.elim
theorem i4q {s:Nat} {a:A} {v:Value} (h:RV E env w S a v) (ht:a.isTup=false) (hn:∀ q,q∈(h0z D s a).2→env q.1=some (.slice none 0 0)):RV E env w S (h0z D s a).1 v:=by
 cases a with
 | agg as=>
  obtain ⟨arr,rfl,hsol,hr⟩:=h
  have:=e9y (s:=s) (j:=1) hr hn
  exact ⟨arr,rfl,this.2 hsol,this.1⟩
 | tup as=>cases ht
 | nil e=>exact (h3y (E:=E) (w:=w) (S:=S) (at_:=(s,0)) (a:=.nil e) h hn).1
 | _=>exact h
theorem h1k {ren:List (Nm×Nm)} {a:A} (h:a.single=true):j1f ren a=h0y ren a:=by
 cases a <;> first | rfl | cases h
theorem i9h {ren:List (Nm×Nm)} (hren:∀ n n',c0x ren n=some n'→∀ v,env n=some v→env' n'=some v) (hst:Still w w S S') {a:A} {v:Value} (h:RV E env w S a v) :
  RV E env' w S' (j1f ren a) v∧(j1f ren a).isTup=false:=by
 cases a with
 | agg as=>
  obtain ⟨arr,rfl,hsol,hr⟩:=h
  have he:j1f ren (.agg as)=(bif a1d (d5q ren as) then .agg (d5q ren as) else .undef):=rfl
  rw [he]
  cases hs:a1d (d5q ren as) with
  | true=>exact ⟨⟨arr,rfl,hs,g2d hren hst hr⟩,rfl⟩
  | false=>exact ⟨trivial,rfl⟩
 | tup as=>exact ⟨trivial,rfl⟩
 | _=>
  rw [e9c rfl] at h
  have h1:=i0a hren hst h
  rw [h1k rfl]
  revert h1
  generalize h0y ren _=b
  intro h1
  have h2:b.single=true:=by cases b <;> first | rfl | exact h1.elim
  exact ⟨by rw [e9c h2];exact h1,by cases b <;> first | rfl | cases h2⟩
theorem d2g {m:Mem} {ren:List (Nm×Nm)}:∀ {l:List (Nm×Nm)} {a b:Nm},(a,b)∈l→(b,j1v ren (m a))∈c0y m ren l
 | (x,y) :: r,a,b,h=>by
  rcases List.mem_cons.1 h with h | h
  ·cases h;exact List.mem_cons_self
  ·exact List.mem_cons_of_mem _ (d2g h)
theorem b6z:∀ {l:List (Nm×O)} {x:Nm} {o:O},(x,o)∈l→∃ o',(x,o')∈(c3s D l).1
 | (n,.var cs) :: r,x,o,h=>by
  rcases List.mem_cons.1 h with h | h
  ·cases h;exact ⟨_,List.mem_cons_self⟩
  ·obtain ⟨o',h1⟩:=b6z h;exact ⟨o',List.mem_cons_of_mem _ h1⟩
 | (n,.row e d es) :: r,x,o,h=>by
  rcases List.mem_cons.1 h with h | h
  ·cases h;exact ⟨_,List.mem_cons_self⟩
  ·obtain ⟨o',h1⟩:=b6z h;exact ⟨o',List.mem_cons_of_mem _ h1⟩
 | (n,.dead) :: r,x,o,h=>by
  rcases List.mem_cons.1 h with h | h
  ·cases h;exact ⟨_,List.mem_cons_self⟩
  ·obtain ⟨o',h1⟩:=b6z h;exact ⟨o',List.mem_cons_of_mem _ h1⟩
 | (n,.save as) :: r,x,o,h=>by
  rcases List.mem_cons.1 h with h | h
  ·cases h;exact ⟨_,List.mem_cons_self⟩
  ·obtain ⟨o',h1⟩:=b6z h;exact ⟨o',List.mem_cons_of_mem _ h1⟩
 | (n,.deep e es hh) :: r,x,o,h=>by
  rcases List.mem_cons.1 h with h | h
  ·cases h;exact ⟨_,List.mem_cons_self⟩
  ·obtain ⟨o',h1⟩:=b6z h;exact ⟨o',List.mem_cons_of_mem _ h1⟩
theorem h3z {i:Nat}:∀ {l:List (Nat×A)},(∃ a,a2y (d2t D l).1 i=(h0z D i a).1∧(i,a)∈l∧∀ q,q∈(h0z D i a).2→q∈(d2t D l).2)∨a2y (d2t D l).1 i=.undef
 | []=>.inr rfl
 | (k,a) :: r=>by
  simp only [d2t,a2y]
  cases hb:Nat.beq i k with
  | true=>
   cases Nat.eq_of_beq_eq_true hb
   exact .inl ⟨a,rfl,List.mem_cons_self,fun q hq=>List.mem_append_left _ hq⟩
  | false=>
   rcases h3z (i:=i) (l:=r) with ⟨a',h1,h2,h3⟩ | h1
   ·exact .inl ⟨a',h1,List.mem_cons_of_mem _ h2,fun q hq=>List.mem_append_right _ (h3 q hq)⟩
   ·exact .inr h1
theorem h4a {σ:St} {ren:List (Nm×Nm)}:∀ {keep:List Nat} {i:Nat} {a:A},(i,a)∈h8s σ ren keep→a=j1f ren (σ.sl i)
 | k :: ks,i,a,h=>by
  rcases List.mem_cons.1 h with h | h
  ·cases h;rfl
  ·exact h4a h
theorem g7i {ren:List (Nm×Nm)}:∀ {pins:List Nat} {i:Nat},g6v ren pins=true→i∈pins→c0x ren (i,0)=some (i,0)
 | j :: js,i,h,hi=>by
  obtain ⟨h1,h2⟩:=a0e h
  rcases List.mem_cons.1 hi with rfl | hi
  ·split at h1
   ·rename_i n hn;rw [hn,c5f.1 h1]
   ·cases h1
  ·exact g7i h2 hi
theorem h6n {σ σ':St} {pins keep:List Nat} {ren:List (Nm×Nm)} {vv:Nat→Value} (h:Heap E β [] σ.mem env w) (hs:∀ i,RV E env w (a0d β [] σ.mem env w) (σ.sl i) (vv i)) (hc:e8e D pins keep σ ren=some σ') :
  ∃ env',Heap E β [] σ'.mem env' w∧(∀ i,i∈pins→env' (i,0)=env (i,0))∧∀ i,RV E env' w (a0d β [] σ'.mem env' w) (σ'.sl i) (vv i):=by
 unfold e8e at hc
 obtain ⟨hck,hq⟩:=a3i hc
 cases hq
 obtain ⟨hck1,hnd⟩:=a0e hck
 obtain ⟨hck2,hpres⟩:=a0e hck1
 obtain ⟨hck3,hn2⟩:=a0e hck2
 obtain ⟨hpo,hn1⟩:=a0e hck3
 generalize hNS:(d2t D (h8s σ ren keep)).2=NS at hnd ⊢
 generalize hNM:(c3s D (c0y σ.mem ren ren)).2=NM at hnd ⊢
 generalize hMM:(c3s D (c0y σ.mem ren ren)).1=MM at hnd ⊢
 generalize hl:NS++NM++MM=l at hnd ⊢
 let env':Names:=⟨fun x=>match a7g ren x with | some old=>env old | none=>(match a0y l x with | some _=>some (.slice none 0 0) | none=>none),fun x=>match a7g ren x with | some old=>env.fp old | none=>[]⟩
 have hMMl:∀ {x o},(x,o)∈MM→(x,o)∈l:=fun hx=>by rw [← hl];exact List.mem_append_right _ hx
 have hnilrow:∀ {x o},(x,o)∈NS++NM→∃ e,o=.row e true []∨o=.deep e [] none:=fun {x o} hx=>by
  rcases List.mem_append.1 hx with hx | hx
  ·rw [← hNS] at hx;exact g7h _ x o hx
  ·rw [← hNM] at hx;exact c5l _ x o hx
 have hnilenv:∀ {x o},(x,o)∈NS++NM→env' x=some (.slice none 0 0):=fun {x o} hx=>by
  have hinv:a7g ren x=none:=by
   cases hi:a7g ren x with
   | none=>rfl
   | some old=>
     obtain ⟨o',ho'⟩:=b6z (D:=D) (d2g (m:=σ.mem) (ren:=ren) (b0v hi))
     rw [hMM] at ho'
     exact (e9x (by rw [hl];exact hnd) hx ho').elim
  have hof:=g2c hnd (show (x,o)∈l by rw [← hl];exact List.mem_append_left _ hx)
  simp only [env',hinv,hof]
 have hinvenv:∀ {x old},a7g ren x=some old→env' x=env old:=fun {x old} hi=>by simp only [env',hi]
 have hinvfp:∀ {x old},a7g ren x=some old→env'.fp x=env.fp old:=fun {x old} hi=>by simp only [env',hi]
 have hnilfp:∀ {x o},(x,o)∈NS++NM→env'.fp x=[]:=fun {x o} hx=>by
  have hinv:a7g ren x=none:=by
   cases hi:a7g ren x with
   | none=>rfl
   | some old=>
     obtain ⟨o',ho'⟩:=b6z (D:=D) (d2g (m:=σ.mem) (ren:=ren) (b0v hi))
     rw [hMM] at ho'
     exact (e9x (by rw [hl];exact hnd) hx ho').elim
  simp only [env',hinv]
 have hren:∀ n n',c0x ren n=some n'→∀ v,env n=some v→env' n'=some v:=fun n n' hln v hv=>by
  rw [hinvenv (c5j hn2 (e9w hln))];exact hv
 have hcase:∀ x o,a0y l x=some o→((x,o)∈NS++NM)∨∃ old,a7g ren x=some old∧
   (
    (∃ cs,σ.mem old=some (.var cs)∧a1d (d5q ren cs)=true∧o=.var (b8m D x.1 1 (d5q ren cs)).1∧∀ q,q∈(b8m D x.1 1 (d5q ren cs)).2→(q.1,q.2)∈NS++NM)∨
    (∃ e d es,σ.mem old=some (.row e d es)∧o=.row e d es)∨(∃ e es,σ.mem old=some (.deep e es none)∧o=.deep e es none)∨o=.dead):=by
  intro x o hx
  have hx:=g7f hx
  rw [← hl] at hx
  rcases List.mem_append.1 hx with hx | hx
  ·exact .inl hx
  ·right
   rw [← hMM] at hx
   have hrenO:∀ {old o},o=j1v ren (σ.mem old)→(∃ cs,σ.mem old=some (.var cs)∧a1d (d5q ren cs)=true∧o=.var (d5q ren cs))∨(∃ e d es,σ.mem old=some (.row e d es)∧o=.row e d es)∨(∃ e es,σ.mem old=some (.deep e es none)∧o=.deep e es none)∨o=.dead:=by
     intro old o ho
     cases hm:σ.mem old with
     | none=>rw [hm] at ho;exact .inr (.inr (.inr ho))
     | some o1=>
      rw [hm] at ho
      cases o1 with
      | var cs=>
       simp only [j1v] at ho
       cases hsol:a1d (d5q ren cs) with
       | true=>rw [hsol] at ho;exact .inl ⟨cs,rfl,hsol,ho⟩
       | false=>rw [hsol] at ho;exact .inr (.inr (.inr ho))
      | row e d es=>exact .inr (.inl ⟨e,d,es,rfl,ho⟩)
      | deep e es hh=>cases hh with
       | none=>exact .inr (.inr (.inl ⟨e,es,rfl,ho⟩))
       | some q=>exact .inr (.inr (.inr ho))
      | dead=>exact .inr (.inr (.inr ho))
      | save as=>exact .inr (.inr (.inr ho))
   rcases c5k hx with ⟨cs,h1,rfl,h3⟩ | ⟨h1,h2⟩
   · obtain ⟨old,g1,g2⟩:=e1t h1
     refine ⟨old,c5j hn2 g1,?_⟩
     rcases hrenO g2 with ⟨cs0,k1,k2,k3⟩ | ⟨e,d,es,_,k3⟩ | ⟨e,es,_,k3⟩ | k3
     ·cases k3
      exact .inl ⟨cs0,k1,k2,rfl,fun q hq=>List.mem_append_right _ (by rw [← hNM];exact h3 q hq)⟩
     ·cases k3
     ·cases k3
     ·cases k3
   · obtain ⟨old,g1,g2⟩:=e1t h1
     refine ⟨old,c5j hn2 g1,?_⟩
     rcases hrenO g2 with ⟨cs0,k1,k2,k3⟩ | h5
     ·exact (h2 _ k3).elim
     ·exact .inr h5
 have hown:∀ x b,owns (a0y l) env' x b→∃ old,a7g ren x=some old∧owns σ.mem env old b:=by
  intro x b hb
  cases hx:a0y l x with
  | none=>simp [owns,hx] at hb
  | some o=>
   rcases hcase x o hx with h1 | ⟨old,h1,h2⟩
   · obtain ⟨e,rfl | rfl⟩:=hnilrow h1
     ·simp [owns,hx,hnilenv h1,Value.ownBlock] at hb
     ·simp [owns,hx,hnilfp h1] at hb
   · refine ⟨old,h1,?_⟩
     unfold owns at hb ⊢
     rw [hx,hinvenv h1] at hb
     rcases h2 with ⟨cs,k1,k2,rfl,_⟩ | ⟨e,d,es,k1,rfl⟩ | ⟨e,es,k1,rfl⟩ | rfl
     ·rw [k1]
      cases hv:env old with
      | none=>rw [hv] at hb;simp at hb
      | some v=>rw [hv] at hb;cases v with
       | pointer a=>cases a <;> simp_all
       | _=>simp at hb
     ·rw [k1];rw [hinvfp h1] at hb;exact hb
     ·rw [k1]
      rw [← hinvfp h1];exact hb
     ·cases hv:env old <;> rw [hv] at hb <;> simp at hb
 have hstill:Still w w (a0d β [] σ.mem env w) (a0d β [] (a0y l) env' w):=fun b hb=>
  ⟨⟨hb.1,hb.2.1,fun x hx=>by obtain ⟨old,_,h2⟩:=hown x b hx;exact hb.2.2.1 old h2,hb.2.2.2⟩,rfl⟩
 refine ⟨env',⟨fun x hx=>?_,fun x o hx=>?_,fun x y b hx hy=>?_,fun x b hx=>?_,fun b hb=>by simp at hb,List.nodup_nil,h.os,h.tape,h.output,h.size,h.block,h.gl⟩,fun i hi=>hinvenv (c5j hn2 (e9w (g7i hpo hi))),fun i=>?_⟩
 ·have hinv:a7g ren x=none:=by
   cases hi:a7g ren x with
   | none=>rfl
   | some old=>
     obtain ⟨o',ho'⟩:=b6z (D:=D) (d2g (m:=σ.mem) (ren:=ren) (b0v hi))
     rw [hMM] at ho'
     have:=g2c hnd (hMMl ho')
     have hx:a0y l x=none:=hx
     rw [hx] at this;cases this
  have hx:a0y l x=none:=hx
  simp only [env',hinv,hx]
 ·rcases hcase x o hx with h1 | ⟨old,h1,h2⟩
  ·obtain ⟨e,rfl | rfl⟩:=hnilrow h1
   · exact ⟨.slice none 0 0,[],hnilenv h1,World.ownsRow_nil w 0 _ _,fun i j hi=>by simp at hi⟩
   · exact ⟨.slice none 0 0,[],fun _=>[],hnilenv h1,World.ownsRow_nil w 0 _ _,fun i j hi=>(by simp at hi),⟨fun _ _ _ h=>(by cases h),HoleE.none⟩,by rw [hnilfp h1];exact ⟨fun b=>by simp [Value.ownBlock],List.nodup_nil,fun p b _ h=>by simp at h,fun p q b _ _ h=>by simp at h⟩⟩
  ·have he:=hinvenv h1
   rcases h2 with ⟨cs,k1,k2,rfl,k4⟩ | ⟨e,d,es,k1,rfl⟩ | ⟨e,es,k1,rfl⟩ | rfl
   · obtain ⟨b,vs,el,g1,g2,g3,g4⟩:=h.obj old _ k1
     have hr:=g2d (ren:=ren) hren hstill g4
     have hf:=e9y (s:=x.1) (j:=1) hr (fun q hq=>hnilenv (k4 q hq))
     exact ⟨b,vs,el,he.trans g1,g2,hf.2 k2,hf.1⟩
   · have ho:=h.obj old _ k1
     cases d with
     | true=>
      obtain ⟨v,xs,g1,g2,g3⟩:=ho
      refine ⟨v,xs,he.trans g1,g2,fun i j hi hj=>?_⟩
      obtain ⟨u,hu,hr⟩:=g3 i j hi hj
      exact ⟨u,hu,hr.mono hstill⟩
     | false=>
      obtain ⟨v,g1,g2,g3⟩:=ho
      exact ⟨v,he.trans g1,g2.mono hstill,g3⟩
   · obtain ⟨v,xs,fps,g1,g2,g3,_,g5⟩:=h.obj old _ k1
     exact ⟨v,xs,fps,he.trans g1,g2,fun i j hi hj _=>g3 i j hi hj (by simp),⟨fun _ _ _ h=>(by cases h),HoleE.none⟩,by rw [hinvfp h1];exact g5⟩
   · obtain ⟨o1,ho1⟩:=f9w hpres (d7h (b0v h1))
     have hob:=h.obj old _ ho1
     show ∃ v,env' x=some v
     rw [he]
     cases o1 with
     | var cs=>obtain ⟨b,vs,el,g1,_⟩:=hob;exact ⟨_,g1⟩
     | row e d es=>cases d with
      | true=>obtain ⟨v,xs,g1,_⟩:=hob;exact ⟨_,g1⟩
      | false=>obtain ⟨v,g1,_⟩:=hob;exact ⟨_,g1⟩
     | deep e es hh=>obtain ⟨v,_,_,g1,_⟩:=hob;exact ⟨_,g1⟩
     | dead=>exact hob
     | save as=>obtain ⟨vs,g1,_⟩:=hob;exact ⟨_,g1⟩
 ·obtain ⟨o1,h1,h2⟩:=hown x b hx
  obtain ⟨o2,h3,h4⟩:=hown y b hy
  have:=h.apart _ _ _ h2 h4
  subst this
  have e1:=g2b hn1 (b0v h1)
  have e2:=g2b hn1 (b0v h3)
  rw [e1] at e2;exact Option.some.inj e2
 ·obtain ⟨o1,h1,h2⟩:=hown x b hx
  exact h.inb _ _ h2
 ·rcases h3z (i:=i) (l:=h8s σ ren keep) with ⟨a,h1,h2,h3⟩ | h1
  ·have ha:=h4a h2
   subst ha
   obtain ⟨g1,g2⟩:=i9h (ren:=ren) hren hstill (hs i)
   show RV E env' w _ (a2y _ i) _
   rw [h1]
   exact i4q g1 g2 (fun q hq=>hnilenv (o:=q.2) (List.mem_append_left _ (by rw [← hNS];exact h3 q hq)))
  ·show RV E env' w _ (a2y _ i) _
   rw [h1];trivial
theorem h6o (a b:Nm):a8t a b=a8t b a:=by
 unfold a8t
 have h:∀ x y:Nat,Nat.beq x y=Nat.beq y x:=fun x y=>by
  rw [Bool.eq_iff_iff]
  exact ⟨fun h=>(Nat.eq_of_beq_eq_true h)▸Nat.beq_refl _,fun h=>(Nat.eq_of_beq_eq_true h)▸Nat.beq_refl _⟩
 rw [h a.1,h a.2]
theorem f0a (n:Nm) (p:Nm×O):∀ l:List (Nm×O),(e1o (d5r p l)).any (a8t n)=(a8t n p.1 || (e1o l).any (a8t n))
 | []=>by simp [d5r,e1o]
 | q :: r=>by
  unfold d5r
  cases j4s p.1 q.1 with
  | true=>simp [e1o]
  | false=>
   simp only [cond_false,e1o,List.any_cons,f0a n p r]
   cases a8t n p.1 <;> cases a8t n q.1 <;> rfl
theorem g7j (n:Nm):∀ l:List (Nm×O),(e1o (h5z l)).any (a8t n)=(e1o l).any (a8t n)
 | []=>rfl
 | p :: r=>by
  rw [h5z,f0a,g7j n r]
  simp [e1o]
theorem i0b {a b:Nm} (h:a8t a b=true):a=b:=by
 unfold a8t at h
 obtain ⟨h1,h2⟩:=a0e h
 exact Prod.ext (Nat.eq_of_beq_eq_true h1) (Nat.eq_of_beq_eq_true h2)
theorem d7i (p:Nm×O) (x:Nm):∀ l:List (Nm×O),(e1o l).any (a8t p.1)=false→a0y (d5r p l) x=a0y (p :: l) x
 | [],_=>rfl
 | q :: r,h=>by
  unfold d5r
  cases j4s p.1 q.1 with
  | true=>rfl
  | false=>
   simp only [e1o,List.any_cons,Bool.or_eq_false_iff] at h
   have ih:=d7i p x r h.2
   simp only [cond_false,a0y] at ih ⊢
   rw [ih]
   cases hq:a8t x q.1 with
   | false=>rfl
   | true=>
    rw [i0b hq,h6o,h.1];rfl
theorem f0b:∀ l:List (Nm×O),b8n (e1o l)=true→a0y (h5z l)=a0y l
 | [],_=>rfl
 | p :: r,h=>by
  unfold b8n e1o at h
  obtain ⟨h1,h2⟩:=a0e h
  funext x
  rw [h5z,d7i p x _ (by rw [g7j];simpa using h1)]
  simp only [a0y,f0b r h2]
theorem canonOf_same {σ:St} {pins keep:List Nat} {ren:List (Nm×Nm)}:h1a D pins keep σ ren=e8e D pins keep σ ren:=by
 unfold h1a e8e
 cases h:(g6v ren pins&&b8n (e1o ren)&&b8n (j1g ren)&&d2e σ.mem (e1o ren)&&b8n (e1o ((d2t D (h8s σ ren keep)).2++(c3s D (c0y σ.mem ren ren)).2++(c3s D (c0y σ.mem ren ren)).1))) with
 | false=>rfl
 | true=>rw [f0b _ (a0e h).2]
def e3u (β:Base) (pins:List Nat):Prop:=∀ n v,(n,v)∈β.pin→∃ i,i∈pins∧n=(i,0)
theorem h4b {σ σ':St} {pins keep:List Nat} {a:Act} (hpins:e3u β pins) (hr:Rel E β N d0 σ a w) (hc:i8s D pins keep σ=some σ'):Rel E β N d0 σ' a w:=by
 obtain ⟨⟨env,hh,hpin,hs⟩,h2,h3⟩:=hr
 obtain ⟨env',g1,g2,g3⟩:=h6n hh hs (canonOf_same.symm.trans hc)
 exact ⟨⟨env',g1,fun n v hn=>by obtain ⟨i,hi,rfl⟩:=hpins n v hn;exact (g2 i hi).trans (hpin _ v hn),g3⟩,h2,h3⟩
theorem h1l {σ:St} {m0:Mem} {a:Act} (hr:Rel E β N d0 σ a w):Rel E β N d0 (g1h m0 σ) a w:=by
 unfold g1h
 cases hb:(d6t m0&&!d6t σ.mem) with
 | false=>exact hr
 | true=>
  obtain ⟨_,hn⟩:=a0e hb
  obtain ⟨⟨env,hh,hpin,hs⟩,h2,h3⟩:=hr
  have hn:σ.mem a2h=none:=by
   unfold d6t at hn
   cases hm:σ.mem a2h with
   | none=>rfl
   | some o=>rw [hm] at hn;cases hn
  obtain ⟨g1,g2,g3⟩:=hh.one (w':=w) (L':=[]) a2h .dead undef (.inl (hh.dom _ hn)) (fun _=>⟨undef,Names.put_self _ _ _⟩) (fun b hb=>by simp at hb) (fun b hb=>by simp at hb) List.nodup_nil
   (fun b hb=>by simp [owns,put_self] at hb) (fun _ _ _ _=>rfl) rfl rfl rfl (Nat.le_refl _)
  exact ⟨⟨_,g1,fun i v hi=>g2 _ _ (hpin i v hi),fun i=>(hs i).mono g2 g3⟩,h2,h3⟩
theorem g7k {σ σ':St} {pins keep:List Nat} {a:Act} (hpins:e3u β pins) (hr:Rel E β N d0 σ a w) (hc:g6w E pins keep σ=some σ'):Rel E β N d0 σ' a w:=by
 unfold g6w at hc
 cases hm:d6t σ.mem with
 | false=>rw [hm] at hc;exact h4b hpins hr hc
 | true=>
  rw [hm] at hc
  obtain ⟨_,m1,p1,h1,h2⟩:=M.k5d (show (g6n E _).run σ.mem ⟨[],[]⟩ _=_ from hc)
  split at h2
  ·rename_i σ2 hcan
   cases h2
   obtain ⟨⟨env,hh,hpin,hs⟩,h3,h4⟩:=hr
   obtain ⟨env1,g1,g2,g3⟩:=e9p hh h1
   have hle:Names.le env env1:=fun x v hx=>(g2 x).trans hx
   exact h1l (h4b hpins ⟨⟨env1,g1,fun i v hi=>hle _ _ (hpin i v hi),fun i=>(hs i).mono hle g3⟩,h3,h4⟩ hcan)
  ·cases h2
end
end Go.Proofs.YtkamidjllckpgaaGreat.Ev
