/- Code. Of regions that draw their order as of a premise. No other condition. -/
import Derived.Test.YtdbopobkdpmpgaamEvPu
import Derived.LoopN
namespace Go.Proofs.Ytdbopobkdpmpgaa.Ev
open Go
set_option linter.unusedVariables false
section
variable {P:Program} {E:Env} {β:Base} {N:Nat} {d0:List Deferred}
def Ex.to:Ex→Exit
 | .normal=>.normal
 | .exit i=>.exit i
 | .ret=>.ret
theorem c7q {E:Env} {F:Call} {R:Type} {σ σ':St} {p:FP} {o:Oper} {K:St→FP→Option R} (h:c1v E F σ o (fun σ' p=>some (σ',p))=some (σ',p)):c1v E F σ o K=K σ' p:=by
 unfold c1v at h ⊢;split at h
 ·rename_i f args more hcal;split at h
  ·rename_i e hdel;split at h
   ·obtain ⟨a,m1,p1,ha,hK⟩:=M.g5t h;cases hK;rw [M.g5s,ha]
   ·cases h
  ·split at h
   ·cases h
   ·rename_i fn hfn;obtain ⟨hc,h1⟩:=a1z h;obtain ⟨⟨ins,l,seen⟩,m1,p1,ha,h2⟩:=M.g5t h1;rw [hc,cond_true,M.g5s,ha];simp only at h2 ⊢;split at h2
    ·cases h2
    ·rename_i out hout;obtain ⟨a,m3,p3,hb,hK⟩:=M.g5t h2;cases hK;rw [M.g5s,hb]
 ·obtain ⟨a,m1,p1,ha,hK⟩:=M.g5t h;cases hK;rw [M.g5s,ha]
theorem d7x {E:Env} {F:Call} {R:Type} {all:List Oper} {o:Oper} {os:List Oper} {σ σ':St} {p:FP} {ps:List FP} {K:St→List FP→Option R} (h:b9d E F all o σ=some (σ',p)) :
  a3i E F all (o :: os) σ ps K=a3i E F all os σ' (p :: ps) K:=by
 unfold b9d at h
 conv=>lhs;unfold a3i
 split at h
 ·rename_i hg;simp only [hg];rw [c7q h]
 ·rename_i j want hg;simp only [hg];split at h
  ·cases h
  ·rename_i s hs;simp only [hs];split at h
   ·rename_i x hx;simp only [hx];cases want <;> cases x <;> simp only [cond_true,cond_false] at h ⊢
    ·rw [a4h hx];exact c7q (by simpa using h)
    ·rw [a4h hx];simp at h;rw [← h.1,← h.2]
    ·rw [a4h hx];simp at h;rw [← h.1,← h.2]
    ·rw [a4h hx];exact c7q (by simpa using h)
   ·rename_i hx;simp only [hx];simp at h;rw [← h.1,← h.2]
   ·cases h
theorem b0j {E:Env} {F:Call} {R:Type} {all:List Oper}:∀ {os:List Oper} {σ:St} {ps:List FP} {K:St→List FP→Option R} {r:R},a3i E F all os σ ps K=some r→
  ∃ σ' ps',a3i E F all os σ ps (fun σ' ps=>some (σ',ps))=some (σ',ps')∧K σ' ps'=some r
 | [],σ,ps,K,r,h=>⟨σ,ps,rfl,h⟩
 | o :: os,σ,ps,K,r,h=>by
  obtain ⟨σ1,p,h1,h2⟩:=b2h h;obtain ⟨σ',ps',h3,h4⟩:=b0j h2;exact ⟨σ',ps',by rw [d7x h1];exact h3,h4⟩
theorem e2x {σ:St} {a:Act} {w:World} (h:Rel E β N d0 σ a w):Rel E β N d0 σ a { w with drawn:=w.drawn+1 }:=by
 obtain ⟨⟨env,hh,hpin,hs⟩,h2,h3⟩:=h;have hst:Still w { w with drawn:=w.drawn+1 } (a0b β [] σ.mem env w) (a0b β [] σ.mem env { w with drawn:=w.drawn+1 }):=fun b hb=>⟨hb,rfl⟩;exact ⟨⟨env,hh.next (Names.le_refl _) hst hh.dom (fun n o hn=>.inl ⟨hn,rfl,fun _ _=>rfl⟩) hh.apart hh.inb hh.inL hh.nodup rfl rfl rfl (Nat.le_refl _) (fun _ _ _ _=>rfl),hpin,fun i=>(hs i).mono (Names.le_refl _) hst⟩,h2,h3⟩
def f4f (β:Base):Prop:=∀ n v,(n,v)∈β.pin→b9o n=n
def e8k (P:Program) (E:Env) {R:Type} (I:Inl R) (β:Base):Prop:=
 ∀ (f:FuncId) (as sv:List A) (dst:Nat) (m:Mem) (K:A→List A→Mem→Option R) (r:R),I f as sv dst m K=some r→
  ∀ (env:Names) (w:World) (vs us:List Value),Heap E β [] m env w→(∀ n v,(n,v)∈β.pin→env n=some v)→RV2s E env w (a0b β [] m env w) as vs→RVall E env w (a0b β [] m env w) sv us→
   ∀ post:Ending→World→Prop,(∀ a sv' m' env' w' v,K a sv' m'=some r→Heap E β [] m' env' w'→(∀ n v,(n,v)∈β.pin→env' n=some v)→RV E env' w' (a0b β [] m' env' w') a v→RVall E env' w' (a0b β [] m' env' w') sv' us→post (.returned v) w')→
    Calls P f vs.toArray w post
def d7y (P:Program) (E:Env) (F:Call):Prop:=
 ∀ (R:Type) (β:Base) (I:Inl R) (N:Nat) (d0:List Deferred) (id:Nat) (ops:Array Oper) (keep:List Nat) (σ:St) (a:Act) (w:World) (K:St→Option R) (r:R) (Q:Exit→Act→World→Prop),e8k P E I β→
  (∀ o,o∈ops.toList→∀ d,o.dst=some d→d<N)→Rel E β N d0 σ a w→d3m E F I ops.toList keep σ K=some r→
  (∀ σ',K σ'=some r→∀ a' w',Rel E β N d0 σ' a' w'→Q .normal a' w')→(Code.region id ops true).wp P Q a w
theorem d4i {w:World} {S:Nat→Prop} {σ:St} {a:Act} {env:Names} (hs:∀ i,RV E env w S (σ.sl i) (a.eval (.tmp i))):∀ keep:List Nat,RVall E env w S (f1e σ keep) (keep.map fun i=>a.eval (.tmp i))
 | []=>trivial
 | i :: is=>⟨hs i,d4i hs is⟩
theorem e8l {w:World} {S:Nat→Prop} {a:Act} {env:Names} (j:Nat):∀ {keep:List Nat} {as:List A},RVall E env w S as (keep.map fun i=>a.eval (.tmp i))→RV E env w S (b2c (e0p keep as) j) (a.eval (.tmp j))
 | [],[],_=>trivial
 | i :: is,x :: as,h=>by
  unfold e0p b2c;cases hb:Nat.beq j i with
  | true=>rw [Nat.eq_of_beq_eq_true hb];exact h.1
  | false=>exact e8l j h.2
 | [],_ :: _,h=>h.elim
 | _ :: _,[],h=>h.elim
theorem d7z {w:World} {σ:St} {ac:Act} {o:Oper} {f:FuncId} {fn:Func} {args:List Operand} {S:Nat→Prop} {env:Names} (hTF:TabF P E) (hfn:E.fn f=some fn) (hs:∀ i,RV E env w S (σ.sl i) (ac.eval (.tmp i))) (hcal:callee? σ o=some (f,args,[])) :
  (execOp ac.eval o).run P w=.ok (.enter f (args.map ac.eval).toArray) w:=by
 obtain ⟨c,hop,hca,hcc⟩:=b9c hcal;obtain ⟨cx,hcx,hcv⟩:∃ cx,c.callee=.value cx∧ac.eval cx=.func (.func f) #[] #[]:=by
  rcases hcc with ⟨h1,_⟩ | ⟨i,h1,⟨h2,_⟩ | ⟨n,h2,h3⟩⟩
  ·exact ⟨_,h1,rfl⟩
  ·have:=hs i;rw [h2] at this;exact ⟨_,h1,this⟩
  ·cases h3
 obtain ⟨hpf,hbody,hname⟩:=hTF.1 f fn hfn;have hargs:c.args.map ac.eval++#[]=(args.map ac.eval).toArray:=by rw [← hca];apply Array.toList_inj.1;simp
 have hname':¬ fn.name = "runtime.NumGoroutine" :=by simpa using hname
 have hbody':¬ fn.body=none:=fun h=>by simp [h] at hbody
 simp [execOp,hop,resolve,hcx,hcv,Deferred.ofValue,invoke,callFunc,hpf,mark];rw [if_neg hname',if_neg hbody',← hargs];simp
theorem d2a {σ:St} {o:Oper} {f:FuncId} {fn:Func} {args:List Operand} (h:e6z E σ o=some (f,fn,args)):o.guard=none∧callee? σ o=some (f,args,[])∧E.fn f=some fn:=by
 unfold e6z at h;split at h
 ·rename_i f' args' hg hc;obtain ⟨_,h1⟩:=a1z h;split at h1
  ·rename_i fn' hfn;cases h1;exact ⟨hg,hc,hfn⟩
  ·cases h1
 ·cases h
theorem b9e (hT:a1e P E=true) (hTF:TabF P E) {F:Call} (hF:e2h P E F) {R:Type} {I:Inl R} (hI:e8k P E I β) {ops:Array Oper} {keep:List Nat} {K:St→Option R} {r:R} {Q:Exit→Act→World→Prop}
  (hK:∀ σ',K σ'=some r→∀ a' w',Rel E β N d0 σ' a' w'→Q .normal a' w') :
  ∀ (os:List Oper) (i:Nat) (σ:St) (ac:Act) (w:World),ops.toList.drop i=os→(∀ o,o∈os→∀ d,o.dst=some d→d<N)→Rel E β N d0 σ ac w→
   b9q E F I ops.toList keep os σ K=some r→wpOps P ops Q (List.range' i os.length) ac w
 | [],i,σ,ac,w,_,_,hr,h=>hK _ h _ _ hr
 | o :: os,i,σ,ac,w,hdrop,hd,hr,h=>by
  have hi:ops[i]?=some o:=by
   have:=congrArg List.head? hdrop;rw [List.head?_drop] at this;simpa using this
  have hdrop':ops.toList.drop (i+1)=os:=by
   have:=congrArg List.tail hdrop;simpa [List.tail_drop] using this
  rw [List.length_cons,List.range'_succ,wpOps_cons];unfold b9q at h;split at h
  ·rename_i f fn args hin;obtain ⟨hg,hcal,hfn⟩:=d2a hin;obtain ⟨hc,h1⟩:=a1z h;obtain ⟨hlen,hnt⟩:=a0a hc;have hlen:=Nat.eq_of_beq_eq_true hlen;obtain ⟨⟨env,hh,hpin,hs⟩,hsz,hdf⟩:=hr;unfold wpOp;simp only [hi];have hw:Region.wanted o (yielded ops ac.tmps)=true:=by simp [Region.wanted,hg]
   rw [if_pos hw];refine .inl ?_;unfold Oper.wp;rw [d7z hTF hfn hs hcal,Oper.upon_enter];refine hI f _ _ _ _ _ r h1 env w (args.map ac.eval) (keep.map fun i=>ac.eval (.tmp i)) hh hpin (c5t hs hlen.symm hnt) (d4i hs keep) _ fun a sv' m' env' w' v hK' hh' hpin' hv hsv=>?_;have hrel:=Rel.put (σ:=⟨b2c (e0p keep sv'),σ.mem⟩) hsz hdf (hd o List.mem_cons_self) hh' hpin' (fun j=>e8l j hsv) hv;exact b9e hT hTF hF hI hK os (i+1) _ _ _ hdrop' (fun o ho=>hd o (List.mem_cons_of_mem _ ho)) hrel hK'
  ·obtain ⟨σ',p,h1,h2⟩:=b2h h;exact d4d hT hTF hF hi hr (hd o List.mem_cons_self) h1 fun a' w' hr'=>
    b9e hT hTF hF hI hK os (i+1) σ' a' w' hdrop' (fun o ho=>hd o (List.mem_cons_of_mem _ ho)) hr' h2
theorem e1e:∀ {l:List Pre} {m m':Mem} {env:Names} {w:World} {p p':FP} {u:Unit},Heap E β [] m env w→(f7c E l).ev m p=some (u,m',p')→
  ∃ env',Heap E β [] m' env' w∧env.le env'∧Still w w (a0b β [] m env w) (a0b β [] m' env' w)
 | [],m,m',env,w,p,p',u,h,hp=>by cases hp;exact ⟨env,h,Names.le_refl _,Still.refl _ _⟩
 | .low n :: r,m,m',env,w,p,p',u,h,hp=>by
  obtain ⟨_,m1,p1,h1,hq⟩:=M.bind_some hp;obtain ⟨g1,g2⟩:=e7u h h1;obtain ⟨env',k1,k2,k3⟩:=e1e g1 hq;exact ⟨env',k1,k2,g2.trans k3⟩
 | .opn n d i j :: r,m,m',env,w,p,p',u,h,hp=>by
  obtain ⟨_,m1,p1,h1,hq⟩:=M.bind_some hp;have key:∃ env1,Heap E β [] m1 env1 w∧env.le env1∧Still w w (a0b β [] m env w) (a0b β [] m1 env1 w):=by
   obtain ⟨q,h1⟩:=M.g6q h1;split at h1
   ·rename_i e es hn;split at h1
    ·rename_i e' he;obtain ⟨hi,h2⟩:=M.g5y h1;have hi:i<es.length:=Nat.le_of_ble_eq_true hi;obtain ⟨_,m2,p2,h3,h4⟩:=M.bind_some h2;obtain ⟨hnd,rfl⟩:=M.g5x h3;obtain ⟨p3,h5⟩:=M.g6l h4;cases h5;obtain ⟨v,xs,fps,e1,e2,_⟩:=h.obj n _ hn;have hj:j<E.sz e:=(List.getElem?_eq_some_iff.1 he).1;have hty:a4e E e j=.row e':=by unfold a4e;rw [List.getD_eq_getElem?_getD,he];rfl
     rcases e2.2 with ⟨_,h0⟩ | ⟨g,cap,cur,h0,_⟩
     ·omega
     ·subst h0;obtain ⟨u,env',k1,k2,k3,k4,k5,k6⟩:=h.hole hn hnd hi hj hty e1;exact ⟨env',k4,k5,k6⟩
    ·cases h1;exact ⟨env,h,Names.le_refl _,Still.refl _ _⟩
   ·cases h1;exact ⟨env,h,Names.le_refl _,Still.refl _ _⟩
  obtain ⟨env1,g1,g2,g3⟩:=key;obtain ⟨env',k1,k2,k3⟩:=e1e g1 hq;exact ⟨env',k1,Names.le_trans g2 k2,g3.trans k3⟩
theorem Rel.pre {l:List Pre} {σ:St} {a:Act} {w:World} {m':Mem} {p p':FP} {u:Unit} (hr:Rel E β N d0 σ a w) (hp:(f7c E l).ev σ.mem p=some (u,m',p')):Rel E β N d0 ⟨σ.sl,m'⟩ a w:=by
 obtain ⟨⟨env,hh,hpin,hs⟩,hsz,hdf⟩:=hr;obtain ⟨env',k1,k2,k3⟩:=e1e hh hp;exact ⟨⟨env',k1,fun n v hv=>k2 _ _ (hpin n v hv),fun i=>(hs i).mono k2 k3⟩,hsz,hdf⟩
theorem a5g (hT:a1e P E=true) (hTF:TabF P E) {F:Call} (hF:e2h P E F) (hD:d7y P E F) {k:Nat} {pins:List Nat}:∀ (c:Code) {out:List Nat} {R:Type} {I:Inl R} (hI:e8k P E I β) {σ:St} {a:Act} {w:World} {K:Ex→St→Option R} {r:R} {Q:Exit→Act→World→Prop},(b5e c=true∨c3p β pins)→
  c3l N c=true→Rel E β N d0 σ a w→a3u E F I k pins c out σ K=some r→(∀ ex σ' a' w',K ex σ'=some r→Rel E β N d0 σ' a' w'→Q ex.to a' w')→c.wp P Q a w
 | .skip,out,R,I,hI,σ,a,w,K,r,Q,hpins,hd,hr,h,hQ=>wp_skip (hQ .normal σ a w h hr)
 | .exit id,out,R,I,hI,σ,a,w,K,r,Q,hpins,hd,hr,h,hQ=>wp_exit (hQ (.exit id) σ a w h hr)
 | .ret,out,R,I,hI,σ,a,w,K,r,Q,hpins,hd,hr,h,hQ=>wp_ret (hQ .ret σ a w h hr)
 | .seq x y,out,R,I,hI,σ,a,w,K,r,Q,hpins,hd,hr,h,hQ=>by
  obtain ⟨hd1,hd2⟩:=a0a hd;have hp1:b5e x=true∨c3p β pins:=hpins.imp (fun h=>(a0a h).1) id;have hp2:b5e y=true∨c3p β pins:=hpins.imp (fun h=>(a0a h).2) id;refine wp_seq (a5g hT hTF hF hD x hI hp1 hd1 hr h fun ex σ' a' w' hK hr'=>?_);cases ex with
  | normal=>exact a5g hT hTF hF hD y hI hp2 hd2 hr' hK hQ
  | exit i=>exact hQ (.exit i) σ' a' w' hK hr'
  | ret=>exact hQ .ret σ' a' w' hK hr'
 | .cond c x y,out,R,I,hI,σ,a,w,K,r,Q,hpins,hd,hr,h,hQ=>by
  obtain ⟨hd1,hd2⟩:=a0a hd;have hp1:b5e x=true∨c3p β pins:=hpins.imp (fun h=>(a0a h).1) id;have hp2:b5e y=true∨c3p β pins:=hpins.imp (fun h=>(a0a h).2) id;unfold a3u at h;split at h
  ·rename_i b hb;obtain ⟨env,hh,hpin,hs⟩:=hr.ex;have hv:=b2y (E:=E) hs 0 c;rw [hb] at hv;have hv:a.eval c=.bool b:=hv;have hsame:σ.put (b8s c) (.b b)=σ:=by
    cases c with
    | tmp i=>exact a4h hb
    | _=>rfl
   refine wp_cond hv ?_;cases b with
   | true=>rw [cond_true,hsame] at h;exact a5g hT hTF hF hD x hI hp1 hd1 hr h hQ
   | false=>rw [cond_false,hsame] at h;exact a5g hT hTF hF hD y hI hp2 hd2 hr h hQ
  ·cases h
 | .block id x,out,R,I,hI,σ,a,w,K,r,Q,hpins,hd,hr,h,hQ=>by
  refine wp_block (a5g hT hTF hF hD x hI hpins hd hr h fun ex σ' a' w' hK hr'=>?_);cases ex with
  | normal=>exact hQ .normal σ' a' w' hK hr'
  | exit i=>
   show (if i=id then _ else _);simp only at hK;cases hi:Nat.beq i id with
   | true=>rw [hi] at hK;rw [if_pos (Nat.eq_of_beq_eq_true hi)];exact hQ .normal σ' a' w' hK hr'
   | false=>
    rw [hi] at hK;rw [if_neg (fun h=>by rw [h] at hi;simp at hi)];exact hQ (.exit i) σ' a' w' hK hr'
  | ret=>exact hQ .ret σ' a' w' hK hr'
 | .loop x,out,R,I,hI,σ,a,w,K,r,Q,hpins,hd,hr,h,hQ=>by
  have hpins:c3p β pins:=hpins.elim (fun h=>by cases h) id;unfold a3u at h;split at h
  ·rename_i σ1 hc;have hr1:=d7w hpins hr hc;generalize d7g (d3i ((a6i x []).1++out))=keep at h;have key:∀ (j:Nat) (σ:St) (a:Act) (w:World),Rel E β N d0 σ a w→f1f E (fun σ K'=>a3u E F I k pins x ((a6i x []).1++out) σ K') pins keep K j σ=some r→Code.rounds P x Q j a w:=by
    intro j
    induction j with
    | zero=>intro σ a w _ h;cases h
    | succ j ih=>
     intro σ a w hr h;unfold f1f at h;unfold Code.rounds;refine a5g hT hTF hF hD x hI (.inr hpins) hd hr h fun ex σ' a' w' hK hr'=>?_;cases ex with
     | normal=>
      simp only at hK;split at hK
      ·rename_i σ2 hc2;exact ih σ2 a' w' (d7w hpins hr' hc2) hK
      ·cases hK
     | exit i=>exact hQ (.exit i) σ' a' w' hK hr'
     | ret=>exact hQ .ret σ' a' w' hK hr'
   exact wp_loop_rounds k (key k σ1 a w hr1 h)
  ·cases h
 | .region id ops draw,out,R,I,hI,σ,a,w,K,r,Q,hpins,hd,hr,h,hQ=>by
  have hdst:∀ o,o∈ops.toList→∀ d,o.dst=some d→d<N:=fun o ho d hod=>by
   have:=List.all_eq_true.1 hd o ho;simp only [hod] at this;simpa using this
  unfold a3u at h;cases draw with
  | false=>
   refine wp_region ?_;have:=b9e (P:=P) (ops:=ops) (Q:=Q) hT hTF hF hI (fun σ' hK a' w' hr'=>hQ .normal σ' a' w' hK hr') ops.toList 0 σ a w (by simp) hdst hr h;rw [List.range_eq_range'];simpa using this
  | true=>
   obtain ⟨u0,m1,p1,h0,h⟩:=M.g5t (show (f7c E (f5h E σ.mem ops.toList σ)).run σ.mem ⟨[],[]⟩ _=some r from h);replace hr:=Rel.pre hr h0;exact hD R β I N d0 id ops _ ⟨σ.sl,m1⟩ a w _ r Q hI hdst hr h fun σ' hK a' w' hr'=>hQ .normal σ' a' w' hK hr'
 | .rangeFunc _ _ _ _,out,R,I,hI,σ,a,w,K,r,Q,hpins,hd,hr,h,hQ=>by cases h
 | .scope _,out,R,I,hI,σ,a,w,K,r,Q,hpins,hd,hr,h,hQ=>by cases h
 | .label _,out,R,I,hI,σ,a,w,K,r,Q,hpins,hd,hr,h,hQ=>by cases h
 | .goto _,out,R,I,hI,σ,a,w,K,r,Q,hpins,hd,hr,h,hQ=>by cases h
end
end Go.Proofs.Ytdbopobkdpmpgaa.Ev
