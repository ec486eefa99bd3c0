/- What comes in, and comes back: own rows take names. No condition. -/
import Derived.Test.YtdbopobkdpmpgaamEvC
namespace Go.Proofs.Ytdbopobkdpmpgaa.Ev
open Go
set_option linter.unusedVariables false
section
variable {E:Env} {β:Base} {L:List Nat} {m:Mem} {env:Names} {w w':World}
theorem f5i {L L':List Nat} (h:∀ b,b∈L'→b∈L) (b:Nat) (hb:a0b β L m env w b):a0b β L' m env w b:=⟨hb.1,hb.2.1,hb.2.2.1,fun hx=>hb.2.2.2 (h b hx)⟩
theorem Heap.takeRowAt {v:Value} (h:Heap E β (v.ownBlock.toList++L) m env w) {n:Nm} (hn:env n=none∨env n=some v) (hfree:∀ b,¬ owns m env n b) {e:Nat} {es:List (List T)} {xs:List Value}
  (ho:w.ownsRow 0 e (E.sz e) v es.length xs) (hr:a9c E w (a0b β (v.ownBlock.toList++L) m env w) e es xs) :
  Heap E β L (m.put n (.row e true es)) (env.put n v) w∧env.le (env.put n v)∧Still w w (a0b β (v.ownBlock.toList++L) m env w) (a0b β L (m.put n (.row e true es)) (env.put n v) w):=by
 have hown:∀ b,owns (m.put n (.row e true es)) (env.put n v) n b↔v.ownBlock=some b:=fun b=>by simp [owns,put_self,Names.put_self]
 have hnd:=List.nodup_append.1 h.nodup;refine h.one (w':=w) n _ v hn (fun hst=>⟨v,xs,Names.put_self _ _ _,ho,fun i j hi hj=>?_⟩)
  (fun b hb=>.inl (List.mem_append_right _ hb)) (fun b hb hb'=>?_) hnd.2.1 (fun b hb=>?_) (fun _ _ _ _=>rfl) rfl rfl rfl (Nat.le_refl _)
 ·obtain ⟨u,hu,hc⟩:=hr i j hi hj;exact ⟨u,hu,hc.mono hst⟩
 ·rw [hown] at hb';exact hnd.2.2 b (by rw [hb'];simp) b hb rfl
 ·rw [hown] at hb;have hmem:b∈v.ownBlock.toList++L:=by rw [hb];simp
  exact ⟨(h.inL b hmem).1,.inr (.inr hmem)⟩
theorem Heap.takeRow {v:Value} (h:Heap E β (v.ownBlock.toList++L) m env w) {n:Nm} (hn:m n=none) {e:Nat} {es:List (List T)} {xs:List Value}
  (ho:w.ownsRow 0 e (E.sz e) v es.length xs) (hr:a9c E w (a0b β (v.ownBlock.toList++L) m env w) e es xs) :
  Heap E β L (m.put n (.row e true es)) (env.put n v) w∧env.le (env.put n v)∧Still w w (a0b β (v.ownBlock.toList++L) m env w) (a0b β L (m.put n (.row e true es)) (env.put n v) w):=
 h.takeRowAt (.inl (h.dom _ hn)) (fun b=>by simp [owns,hn]) ho hr
theorem Heap.takeDeepAt {v:Value} {bs:List Nat} (h:Heap E β (bs++L) m env w) {n:Nm} (hn:env n=none∨env n=some v) (hfree:∀ b,¬ owns m env n b) {e:Nat} {es:List (List T)}
  (hd:DC E w (.row e) (.r es) v bs) :
  Heap E β L (m.put n (.deep e es none)) (env.putD n v bs) w∧env.le (env.putD n v bs)∧Still w w (a0b β (bs++L) m env w) (a0b β L (m.put n (.deep e es none)) (env.putD n v bs) w):=by
 have hown:∀ b,owns (m.put n (.deep e es none)) (env.putD n v bs) n b↔b∈bs:=fun b=>by simp [owns,put_self,Names.g6c]
 have hnd:=List.nodup_append.1 h.nodup;refine h.oneD (w':=w) n _ v bs hn (fun hst=>?_)
  (fun b hb=>.inl (List.mem_append_right _ hb)) (fun b hb hb'=>?_) hnd.2.1 (fun b hb=>?_) (fun _ _ _ _=>rfl) rfl rfl rfl (Nat.le_refl _)
 ·cases hd with
  | row fps ho hc hm=>exact ⟨v,_,fps,Names.g6a _ _ _ _,ho,fun i j hi hj _ _=>hc i j hi hj,⟨fun i j n' hh=>(by cases hh),HoleE.none⟩,by rw [Names.g6c];exact hm⟩
 ·exact hnd.2.2 b ((hown b).1 hb') b hb rfl
 ·have hmem:b∈bs++L:=List.mem_append_left _ ((hown b).1 hb);exact ⟨(h.inL b hmem).1,.inr (.inr hmem)⟩
theorem DC.slice {e:Nat} {t:T} {v:Value} {bs:List Nat} (h:DC E w (.row e) t v bs):∃ a l c,v=.slice a l c:=by
 cases h with
 | row fps ho hc hm=>rcases ho.2 with ⟨rfl,_⟩ | ⟨g,cap,cur,rfl,_⟩ <;> exact ⟨_,_,_,rfl⟩
theorem Heap.takeLend {v:Value} {bs:List Nat} (h:Heap E β (bs++L) m env w) {n:Nm} (hn:env n=none∨env n=some v) (hfree:∀ b,¬ owns m env n b) {ws:List Bool} {e:Nat} {es:List (List T)} {S:Nat→Prop}
  (hS:∀ b,S b→a0b β (bs++L) m env w b) (hb:BC E w S true (b0d ws e) (.r es) v bs) :
  ∃ env',Heap E β L (m.put n (e4m ws e es)) env' w∧env.le env'∧Still w w (a0b β (bs++L) m env w) (a0b β L (m.put n (e4m ws e es)) env' w)∧env' n=some v∧∃ a l c,v=.slice a l c:=by
 unfold b0d at hb;unfold e4m;cases hd:ws.headD false with
 | true=>
  rw [hd] at hb;obtain ⟨es',he,hdc⟩:=hb;cases he;obtain ⟨k1,k2,k3⟩:=h.takeDeepAt hn hfree hdc;exact ⟨_,k1,k2,k3,Names.g6a _ _ _ _,hdc.slice⟩
 | false=>
  rw [hd] at hb;obtain ⟨⟨es',xs,he,ho,hr⟩,rfl⟩:=hb;cases he;obtain ⟨k1,k2,k3⟩:=h.takeRowAt hn hfree ho (fun i j hi hj=>by obtain ⟨u,hu,hc⟩:=hr i j hi hj;exact ⟨u,hu,hc.wide hS⟩);refine ⟨_,k1,k2,k3,Names.put_self _ _ _,?_⟩;rcases ho.2 with ⟨rfl,_⟩ | ⟨g,cap,cur,rfl,_⟩ <;> exact ⟨_,_,_,rfl⟩
theorem RC.ofT {S:Nat→Prop} {ty:Ty} {t:T} {v:Value} (h:RC E w S ty t v):RV1 E env w S (ofT ty t) v∧(Ev.ofT ty t).solid=true:=by
 cases h with
 | int=>exact ⟨rfl,rfl⟩
 | bool=>exact ⟨rfl,rfl⟩
 | str=>exact ⟨rfl,rfl⟩
 | nl=>exact ⟨.nl,rfl⟩
 | emp=>exact ⟨.emp,rfl⟩
 | row vs hcap hS hv hr=>exact ⟨.row vs hcap hS hv hr,rfl⟩
theorem Heap.takeVar {b:Nat} (h:Heap E β (b :: L) m env w) {n:Nm} (hn:env n=none∨env n=some (.pointer (some ⟨b,0,none⟩))) (hfree:∀ b,¬ owns m env n b) {cs:List A} {vs:Array Value} {el:Nat}
  (hb:w.heap[b]?=some (.cells vs el (0,0))) (hsol:a0o cs=true) (hv:RVs E env w (a0b β (b :: L) m env w) cs vs.toList) :
  Heap E β L (m.put n (.var cs)) (env.put n (.pointer (some ⟨b,0,none⟩))) w∧env.le (env.put n (.pointer (some ⟨b,0,none⟩)))∧
   Still w w (a0b β (b :: L) m env w) (a0b β L (m.put n (.var cs)) (env.put n (.pointer (some ⟨b,0,none⟩))) w):=by
 have hown:∀ c,owns (m.put n (.var cs)) (env.put n (.pointer (some ⟨b,0,none⟩))) n c↔b=c:=fun c=>by simp [owns,put_self,Names.put_self]
 have hle:=Names.g6g hn;have hnd:=List.nodup_cons.1 h.nodup;refine h.one (w':=w) n _ _ hn (fun hst=>⟨b,vs,el,Names.put_self _ _ _,hb,hsol,hv.mono hle hst⟩)
  (fun c hc=>.inl (List.mem_cons_of_mem _ hc)) (fun c hc hc'=>?_) hnd.2 (fun c hc=>?_) (fun _ _ _ _=>rfl) rfl rfl rfl (Nat.le_refl _)
 ·rw [hown] at hc';cases hc';exact hnd.1 hc
 ·rw [hown] at hc;cases hc;exact ⟨(h.inL _ List.mem_cons_self).1,.inr (.inr List.mem_cons_self)⟩
theorem e2g {S:Nat→Prop}:∀ {tys:List Ty} {ts:List T} {vs:List Value} (pre:List T),RCs E w S tys ts vs→RVs E env w S (d0b pre.length tys (pre++ts)) vs∧a0o (d0b pre.length tys (pre++ts))=true
 | [],[],[],_,_=>⟨trivial,rfl⟩
 | ty :: tys,t :: ts,v :: vs,pre,h=>by
  have h1:=RC.ofT (env:=env) h.1;have h2:=e2g (pre++[t]) h.2;have hget:(pre++t :: ts).getD pre.length (.i 0)=t:=by simp [List.getD_eq_getElem?_getD]
  have e:pre++[t]++ts=pre++t :: ts:=by simp
  rw [e,List.length_append] at h2;unfold d0b;rw [hget];exact ⟨⟨h1.1,h2.1⟩,by simp only [a0o,h1.2,Bool.true_and];exact h2.2⟩
 | [],[],_ :: _,_,h=>h.elim
 | [],_ :: _,_,_,h=>h.elim
 | _ :: _,[],_,_,h=>h.elim
 | _ :: _,_ :: _,[],_,h=>h.elim
theorem a4q {s nm:Nat}:∀ {j:Nat} {ws:List Bool} {tys:List Ty} {ts cs:List T} {vs:List Value} {b1 L:List Nat} {m:Mem} {env:Names} {as:List A} {m':Mem} {p p':FP} {S:Nat→Prop},
  Heap E β (b1++L) m env w→(∀ b,S b→a0b β (b1++L) m env w b)→BCs E w S ws tys ts vs b1→(∀ i,i<tys.length→cs.getD (j+i) (.i 0)=ts.getD i (.i 0))→
  (a8o E s nm j ws tys cs).ev m p=some (as,m',p')→
  ∃ env',Heap E β L m' env' w∧env.le env'∧Still w w (a0b β (b1++L) m env w) (a0b β L m' env' w)∧RVs E env' w (a0b β L m' env' w) as vs∧a0o as=true
 | j,ws,[],[],cs,[],b1,L,m,env,as,m',p,p',S,h,hS,hb,hcs,hp=>by
  unfold a8o at hp;cases hp;unfold BCs at hb;subst hb;exact ⟨env,h,Names.le_refl _,Still.refl _ _,trivial,rfl⟩
 | j,ws,ty :: tys,t :: ts,cs,v :: vs,bs,L,m,env,as,m',p,p',S,h,hS,hb,hcs,hp=>by
  obtain ⟨b1,b2,rfl,hb1,hb2⟩:=hb;unfold a8o at hp;obtain ⟨a,m1,p1,h1,hq⟩:=M.bind_some hp;obtain ⟨r,m2,p2,h2,hq2⟩:=M.bind_some hq;cases hq2;have ht:cs.getD j (.i 0)=t:=by simpa using hcs 0 (by simp)
  have hcs':∀ i,i<tys.length→cs.getD (j+1+i) (.i 0)=ts.getD i (.i 0):=fun i hi=>by
   have:=hcs (i+1) (by simpa using hi);rw [show j+1+i=j+(i+1) by omega];simpa using this
  by_cases hrow:ws.headD false=true∧∃ e,ty=.row e
  ·obtain ⟨hw,e,rfl⟩:=hrow;rw [hw] at h1;obtain ⟨_,m3,p3,h3,hq3⟩:=M.bind_some h1;obtain ⟨hn,rfl⟩:=M.g5x h3;cases hq3;rw [hw] at hb1;obtain ⟨⟨es,xs,rfl,ho,hr⟩,rfl⟩:=hb1;rw [ht] at h2;rw [List.append_assoc] at h hS;obtain ⟨g1,g2,g3⟩:=h.takeRow hn ho (fun i j hi hj=>by obtain ⟨u,hu,hc⟩:=hr i j hi hj;exact ⟨u,hu,hc.wide hS⟩);obtain ⟨env',k1,k2,k3,k4,k5⟩:=a4q (ts:=ts) g1 (fun b hb=>(g3 b (hS b hb)).1) hb2 hcs' h2;refine ⟨env',k1,Names.le_trans g2 k2,by rw [List.append_assoc];exact g3.trans k3,⟨⟨k2 _ _ (Names.put_self _ _ _),?_⟩,k4⟩,by simpa [a0o,A.solid] using k5⟩;rcases ho.2 with ⟨rfl,_⟩ | ⟨g,cap,cur,rfl,_⟩ <;> exact ⟨_,_,_,rfl⟩
  by_cases hdp:ws.headD false=true∧∃ e,ty=.deep e
  ·obtain ⟨hw,e,rfl⟩:=hdp;rw [hw] at h1;obtain ⟨_,m3,p3,h3,hq3⟩:=M.bind_some h1;obtain ⟨hn,rfl⟩:=M.g5x h3;cases hq3;rw [hw] at hb1;obtain ⟨es,rfl,hd⟩:=hb1;rw [ht] at h2;rw [List.append_assoc] at h hS;obtain ⟨g1,g2,g3⟩:=h.takeDeepAt (.inl (h.dom _ hn)) (fun b=>by simp [owns,hn]) hd;obtain ⟨env',k1,k2,k3,k4,k5⟩:=a4q (ts:=ts) g1 (fun b hb=>(g3 b (hS b hb)).1) hb2 hcs' h2;exact ⟨env',k1,Names.le_trans g2 k2,by rw [List.append_assoc];exact g3.trans k3,⟨⟨k2 _ _ (Names.g6a _ _ _ _),hd.slice⟩,k4⟩,by simpa [a0o,A.solid] using k5⟩
  by_cases hptr:ws.headD false=true∧∃ e,ty=.ptr e
  ·obtain ⟨hw,e,rfl⟩:=hptr;rw [hw] at h1;obtain ⟨_,m3,p3,h3,hq3⟩:=M.bind_some h1;obtain ⟨hn,rfl⟩:=M.g5x h3;cases hq3;rw [hw] at hb1;obtain ⟨c,b,cv,el,rfl,rfl,hheap,hrcs,rfl⟩:=hb1;rw [ht] at h2;rw [List.append_assoc] at h hS;obtain ⟨r1,r2⟩:=e2g (env:=env) [] (hrcs.wide hS);obtain ⟨f1,f2,f3⟩:=Heap.takeVar (L:=b2++L) h (.inl (h.dom _ hn)) (fun b=>by simp [owns,hn]) hheap r2 r1;obtain ⟨env',k1,k2,k3,k4,k5⟩:=a4q (ts:=ts) f1 (fun x hx=>(f3 x (hS x hx)).1) hb2 hcs' h2;exact ⟨env',k1,Names.le_trans f2 k2,by rw [List.append_assoc];exact f3.trans k3,⟨⟨b,k2 _ _ (Names.put_self _ _ _),rfl⟩,k4⟩,by simpa [a0o,A.solid] using k5⟩
  ·have h1':((M.ret (ofT ty (cs.getD j (.i 0)))):M A).ev m p=some (a,m1,p1):=by
    cases hws:ws.headD false <;> cases ty <;> rw [hws] at h1 <;> first | exact h1 | exact (hrow ⟨hws,_,rfl⟩).elim | exact (hptr ⟨hws,_,rfl⟩).elim | exact (hdp ⟨hws,_,rfl⟩).elim
   have hb1':RC E w S ty t v∧b1=[]:=by
    cases hws:ws.headD false <;> cases ty <;> rw [hws] at hb1 <;> first | exact hb1 | exact (hrow ⟨hws,_,rfl⟩).elim | exact (hptr ⟨hws,_,rfl⟩).elim | exact (hdp ⟨hws,_,rfl⟩).elim
   clear h1;cases h1';obtain ⟨hrc,rfl⟩:=hb1';rw [ht];obtain ⟨env',k1,k2,k3,k4,k5⟩:=a4q (b1:=b2) (ts:=ts) (by simpa using h) (by simpa using hS) hb2 hcs' h2;have hof:=RC.ofT (env:=env') (hrc.wide hS);simp only [List.nil_append] at hof k3 ⊢;exact ⟨env',k1,k2,k3,⟨hof.1.mono (Names.le_refl _) k3,k4⟩,by simp [a0o,hof.2,k5]⟩
 | _,_,[],[],_,_ :: _,_,_,_,_,_,_,_,_,_,_,_,hb,_,_=>hb.elim
 | _,_,[],_ :: _,_,_,_,_,_,_,_,_,_,_,_,_,_,hb,_,_=>hb.elim
 | _,_,_ :: _,[],_,_,_,_,_,_,_,_,_,_,_,_,_,hb,_,_=>hb.elim
 | _,_,_ :: _,_ :: _,_,[],_,_,_,_,_,_,_,_,_,_,_,hb,_,_=>hb.elim
theorem BCs.g6m {S:Nat→Prop}:∀ {ws:List Bool} {tys:List Ty} {ts:List T} {vs:List Value} {bs:List Nat},BCs E w S ws tys ts vs bs→ts.length=tys.length∧vs.length=tys.length
 | _,[],[],[],_,_=>⟨rfl,rfl⟩
 | _,_ :: _,_ :: _,_ :: _,_,⟨_,_,_,_,h⟩=>by have:=BCs.g6m h;simp [this]
 | _,[],[],_ :: _,_,h=>h.elim
 | _,[],_ :: _,_,_,h=>h.elim
 | _,_ :: _,[],_,_,h=>h.elim
 | _,_ :: _,_ :: _,[],_,h=>h.elim
theorem b1d {S:Nat→Prop} {t:Nat} {v:Value} {vs:List Value} {as:List A} (hs:Shape E t v vs) (hsol:a0o as=true) (h:RVs E env w S as vs):RV2 E env w S (b1x E t as) v:=by
 unfold Shape at hs;unfold b1x;split at hs
 ·rename_i ha;obtain ⟨arr,rfl,rfl⟩:=hs;rw [ha];exact ⟨arr,rfl,hsol,h⟩
 ·rename_i ha;subst hs;rw [ha];cases as with
  | nil=>exact h.elim
  | cons a as=>
   cases as with
   | nil=>
    have:a.single=true:=by cases a <;> first | rfl | (simp [a0o,A.solid] at hsol)
    simp only [cond_false];rw [c2d this];exact h.1
   | cons b as=>exact h.2.elim
theorem RV2s.mono' {S S':Nat→Prop} {env':Names} (he:env.le env') (hs:Still w w' S S') {as:List A} {vs:List Value} (h:RV2s E env w S as vs):RV2s E env' w' S' as vs:=h.mono he hs
theorem b4j:∀ {i:Nat} {ws:List (List Bool)} {ts:List Nat} {ins:List Arg} {vs:List Value} {b1 L:List Nat} {m:Mem} {env:Names} {as:List A} {m':Mem} {p p':FP} {S:Nat→Prop},
  Heap E β (b1++L) m env w→(∀ b,S b→a0b β (b1++L) m env w b)→AsOk E w S ws ts ins vs b1→(enter E i ws ts ins).ev m p=some (as,m',p')→
  ∃ env',Heap E β L m' env' w∧env.le env'∧Still w w (a0b β (b1++L) m env w) (a0b β L m' env' w)∧RV2s E env' w (a0b β L m' env' w) as vs
 | i,ws,[],[],[],b1,L,m,env,as,m',p,p',S,h,hS,hb,hp=>by
  unfold enter at hp;cases hp;unfold AsOk at hb;subst hb;exact ⟨env,h,Names.le_refl _,Still.refl _ _,trivial⟩
 | i,ws,t :: ts,.v cs :: ins,v :: vs,bs,L,m,env,as,m',p,p',S,h,hS,hb,hp=>by
  obtain ⟨b1,b2,rfl,⟨vs1,hsh,hbc⟩,hb2⟩:=hb;unfold enter at hp;obtain ⟨as1,m1,p1,h1,hq⟩:=M.bind_some hp;obtain ⟨r,m2,p2,h2,hq2⟩:=M.bind_some hq;cases hq2;rw [List.append_assoc] at h hS;obtain ⟨env1,g1,g2,g3,g4,g5⟩:=a4q (ts:=cs) h hS hbc (fun i hi=>by simp) h1;obtain ⟨env',k1,k2,k3,k4⟩:=b4j g1 (fun b hb=>(g3 b (hS b hb)).1) hb2 h2;refine ⟨env',k1,Names.le_trans g2 k2,by rw [List.append_assoc];exact g3.trans k3,(b1d hsh g5 g4).mono k2 k3,k4⟩
 | i,ws,t :: ts,.s cs :: ins,v :: vs,bs,L,m,env,as,m',p,p',S,h,hS,hb,hp=>by
  obtain ⟨b1,b2,rfl,⟨vs1,hsh,_,hbc⟩,hb2⟩:=hb;unfold enter at hp;obtain ⟨as1,m1,p1,h1,hq⟩:=M.bind_some hp;obtain ⟨r,m2,p2,h2,hq2⟩:=M.bind_some hq;cases hq2;rw [List.append_assoc] at h hS;obtain ⟨env1,g1,g2,g3,g4,g5⟩:=a4q (ts:=cs) h hS hbc (fun i hi=>by simp) h1;obtain ⟨env',k1,k2,k3,k4⟩:=b4j g1 (fun b hb=>(g3 b (hS b hb)).1) hb2 h2;refine ⟨env',k1,Names.le_trans g2 k2,by rw [List.append_assoc];exact g3.trans k3,(b1d hsh g5 g4).mono k2 k3,k4⟩
 | i,ws,t :: ts,.p cs :: ins,v :: vs,bs,L,m,env,as,m',p,p',S,h,hS,hb,hp=>by
  obtain ⟨b1,b2,rfl,⟨b,cv,el,b0,rfl,hheap,hbc,rfl⟩,hb2⟩:=hb;unfold enter at hp;obtain ⟨as1,m1,p1,h1,hq⟩:=M.bind_some hp;obtain ⟨_,m3,p3,h3,hq3⟩:=M.bind_some hq;obtain ⟨hn,rfl⟩:=M.g5x h3;obtain ⟨r,m2,p2,h2,hq2⟩:=M.bind_some hq3;cases hq2;have hassoc:b0++[b]++b2++L=b0++(b :: (b2++L)):=by simp
  rw [hassoc] at h hS ⊢;obtain ⟨env1,g1,g2,g3,g4,g5⟩:=a4q (ts:=cs) h hS hbc (fun i hi=>by simp) h1;obtain ⟨f1,f2,f3⟩:=g1.takeVar (.inl (g1.dom _ hn)) (fun b=>by simp [owns,hn]) hheap g5 g4;obtain ⟨env',k1,k2,k3,k4⟩:=b4j f1 (fun b hb=>(f3 b (g3 b (hS b hb)).1).1) hb2 h2;refine ⟨env',k1,Names.le_trans g2 (Names.le_trans f2 k2),g3.trans (f3.trans k3),⟨b,k2 _ _ (Names.put_self _ _ _),rfl⟩,k4⟩
 | i,ws,t :: ts,.r es :: ins,v :: vs,bs,L,m,env,as,m',p,p',S,h,hS,hb,hp=>by
  obtain ⟨b1,b2,rfl,⟨e,hft,hbc⟩,hb2⟩:=hb;unfold enter at hp;rw [hft] at hp;obtain ⟨_,m3,p3,h3,hq3⟩:=M.bind_some hp;obtain ⟨hn,rfl⟩:=M.g5x h3;obtain ⟨r,m2,p2,h2,hq2⟩:=M.bind_some hq3;cases hq2;rw [List.append_assoc] at h hS;obtain ⟨env1,g1,g2,g3,g4,g5⟩:=h.takeLend (.inl (h.dom _ hn)) (fun b=>by simp [owns,hn]) hS hbc;obtain ⟨env',k1,k2,k3,k4⟩:=b4j g1 (fun b hb=>(g3 b (hS b hb)).1) hb2 h2;exact ⟨env',k1,Names.le_trans g2 k2,by rw [List.append_assoc];exact g3.trans k3,⟨k2 _ _ g4,g5⟩,k4⟩
 | i,ws,t :: ts,.c f none :: ins,v :: vs,bs,L,m,env,as,m',p,p',S,h,hS,hb,hp=>by
  obtain ⟨b1,b2,rfl,⟨hv,rfl⟩,hb2⟩:=hb;unfold enter at hp;obtain ⟨r,m2,p2,h2,hq2⟩:=M.bind_some hp;cases hq2;rw [List.nil_append] at h hS ⊢;obtain ⟨env',k1,k2,k3,k4⟩:=b4j h hS hb2 h2;exact ⟨env',k1,k2,k3,hv,k4⟩
 | i,ws,t :: ts,.c f (some cs) :: ins,v :: vs,bs,L,m,env,as,m',p,p',S,h,hS,hb,hp=>by
  obtain ⟨b1,b2,rfl,⟨b,cv,el,b0,rfl,hheap,hbc,rfl⟩,hb2⟩:=hb;unfold enter at hp;obtain ⟨as1,m1,p1,h1,hq⟩:=M.bind_some hp;obtain ⟨_,m3,p3,h3,hq3⟩:=M.bind_some hq;obtain ⟨hn,rfl⟩:=M.g5x h3;obtain ⟨r,m2,p2,h2,hq2⟩:=M.bind_some hq3;cases hq2;have hassoc:b0++[b]++b2++L=b0++(b :: (b2++L)):=by simp
  rw [hassoc] at h hS ⊢;obtain ⟨env1,g1,g2,g3,g4,g5⟩:=a4q (ts:=cs) h hS hbc (fun i hi=>by simp) h1;obtain ⟨f1,f2,f3⟩:=g1.takeVar (.inl (g1.dom _ hn)) (fun b=>by simp [owns,hn]) hheap g5 g4;obtain ⟨env',k1,k2,k3,k4⟩:=b4j f1 (fun b hb=>(f3 b (g3 b (hS b hb)).1).1) hb2 h2;refine ⟨env',k1,Names.le_trans g2 (Names.le_trans f2 k2),g3.trans (f3.trans k3),⟨b,k2 _ _ (Names.put_self _ _ _),rfl⟩,k4⟩
 | _,_,[],[],_ :: _,_,_,_,_,_,_,_,_,_,_,_,hb,_=>hb.elim
 | _,_,[],_ :: _,_,_,_,_,_,_,_,_,_,_,_,_,hb,_=>hb.elim
 | _,_,_ :: _,[],_,_,_,_,_,_,_,_,_,_,_,_,hb,_=>hb.elim
 | _,_,_ :: _,_ :: _,[],_,_,_,_,_,_,_,_,_,_,_,hb,_=>hb.elim
end
end Go.Proofs.Ytdbopobkdpmpgaa.Ev
