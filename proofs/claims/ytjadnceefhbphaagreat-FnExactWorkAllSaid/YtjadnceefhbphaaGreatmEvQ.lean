/- Code. Of regions that draw their order as of a premise. No other condition. -/
import Derived.Test.YtjadnceefhbphaaGreatmEvPu
import Derived.LoopN
namespace Go.Proofs.YtjadnceefhbphaaGreat.Ev
open Go
set_option linter.unusedVariables false
section
variable {P:Program} {E:Env} {β:Base} {N:Nat} {d0:List Deferred}
def Ex.to:Ex→Exit
 | .normal=>.normal
 | .exit i=>.exit i
 | .ret=>.ret
theorem e3u {E:Env} {F:Call} {R:Type} {σ σ':St} {p:FP} {o:Oper} {K:St→FP→Option R} (h:d5j E F σ o (fun σ' p=>some (σ',p))=some (σ',p)):d5j E F σ o K=K σ' p:=by
 unfold d5j at h ⊢;split at h
 ·rename_i f args more hcal;split at h
  ·rename_i e hdel;split at h
   ·obtain ⟨a,m1,p1,ha,hK⟩:=M.k0z h;cases hK;rw [M.k0y,ha]
   ·cases h
  ·split at h
   ·cases h
   ·rename_i fn hfn;obtain ⟨hc,h1⟩:=a3d h;obtain ⟨⟨ins,l,seen⟩,m1,p1,ha,h2⟩:=M.k0z h1;rw [hc,cond_true,M.k0y,ha];simp only at h2 ⊢;split at h2
    ·cases h2
    ·rename_i out hout;obtain ⟨a,m3,p3,hb,hK⟩:=M.k0z h2;cases hK;rw [M.k0y,hb]
 ·obtain ⟨a,m1,p1,ha,hK⟩:=M.k0z h;cases hK;rw [M.k0y,ha]
theorem g1t {E:Env} {F:Call} {R:Type} {all:List Oper} {o:Oper} {os:List Oper} {σ σ':St} {p:FP} {ps:List FP} {K:St→List FP→Option R} (h:d0m E F all o σ=some (σ',p)) :
  a4m E F all (o :: os) σ ps K=a4m E F all os σ' (p :: ps) K:=by
 unfold d0m at h
 conv=>lhs;unfold a4m
 split at h
 ·rename_i hg;simp only [hg];rw [e3u h]
 ·rename_i j want hg;simp only [hg];split at h
  ·cases h
  ·rename_i s hs;simp only [hs];split at h
   ·rename_i x hx;simp only [hx];cases want <;> cases x <;> simp only [cond_true,cond_false] at h ⊢
    ·rw [a5t hx];exact e3u (by simpa using h)
    ·rw [a5t hx];simp at h;rw [← h.1,← h.2]
    ·rw [a5t hx];simp at h;rw [← h.1,← h.2]
    ·rw [a5t hx];exact e3u (by simpa using h)
   ·rename_i hx;simp only [hx];simp at h;rw [← h.1,← h.2]
   ·cases h
theorem b6g {E:Env} {F:Call} {R:Type} {all:List Oper}:∀ {os:List Oper} {σ:St} {ps:List FP} {K:St→List FP→Option R} {r:R},a4m E F all os σ ps K=some r→
  ∃ σ' ps',a4m E F all os σ ps (fun σ' ps=>some (σ',ps))=some (σ',ps')∧K σ' ps'=some r
 | [],σ,ps,K,r,h=>⟨σ,ps,rfl,h⟩
 | o :: os,σ,ps,K,r,h=>by
  obtain ⟨σ1,p,h1,h2⟩:=b9a h;obtain ⟨σ',ps',h3,h4⟩:=b6g h2;exact ⟨σ',ps',by rw [g1t h1];exact h3,h4⟩
theorem g8q {σ:St} {a:Act} {w:World} (h:Rel E β N d0 σ a w):Rel E β N d0 σ a { w with drawn:=w.drawn+1 }:=by
 obtain ⟨⟨env,hh,hpin,hs⟩,h2,h3⟩:=h;have hst:Still w { w with drawn:=w.drawn+1 } (a0c β [] σ.mem env w) (a0c β [] σ.mem env { w with drawn:=w.drawn+1 }):=fun b hb=>⟨hb,rfl⟩;exact ⟨⟨env,hh.next (Names.le_refl _) hst hh.dom (fun n o hn=>.inl ⟨hn,rfl,fun _ _=>rfl⟩) hh.apart hh.inb hh.inL hh.nodup rfl rfl rfl (Nat.le_refl _) (fun _ _ _ _=>rfl),hpin,fun i=>(hs i).mono (Names.le_refl _) hst⟩,h2,h3⟩
def i2l (β:Base):Prop:=∀ n v,(n,v)∈β.pin→d1l n=n
def h4z (P:Program) (E:Env) {R:Type} (I:Inl R) (β:Base):Prop:=
 ∀ (f:FuncId) (as sv:List A) (dst:Nat) (m:Mem) (K:A→List A→Mem→Option R) (r:R),I f as sv dst m K=some r→
  ∀ (env:Names) (w:World) (vs us:List Value),Heap E β [] m env w→(∀ n v,(n,v)∈β.pin→env n=some v)→RV2s E env w (a0c β [] m env w) as vs→RVall E env w (a0c β [] m env w) sv us→
   ∀ post:Ending→World→Prop,(∀ a sv' m' env' w' v,K a sv' m'=some r→Heap E β [] m' env' w'→(∀ n v,(n,v)∈β.pin→env' n=some v)→RV E env' w' (a0c β [] m' env' w') a v→RVall E env' w' (a0c β [] m' env' w') sv' us→post (.returned v) w')→
    Calls P f vs.toArray w post
def g1u (P:Program) (E:Env) (F:Call):Prop:=
 ∀ (R:Type) (β:Base) (I:Inl R) (N:Nat) (d0:List Deferred) (id:Nat) (ops:Array Oper) (keep:List Nat) (σ:St) (a:Act) (w:World) (K:St→Option R) (r:R) (Q:Exit→Act→World→Prop),h4z P E I β→
  (∀ o,o∈ops.toList→∀ d,o.dst=some d→d<N)→Rel E β N d0 σ a w→f5g E F I ops.toList keep σ K=some r→
  (∀ σ',K σ'=some r→∀ a' w',Rel E β N d0 σ' a' w'→Q .normal a' w')→(Code.region id ops true).wp P Q a w
theorem f6c {w:World} {S:Nat→Prop} {σ:St} {a:Act} {env:Names} (hs:∀ i,RV E env w S (σ.sl i) (a.eval (.tmp i))):∀ keep:List Nat,RVall E env w S (h8o σ keep) (keep.map fun i=>a.eval (.tmp i))
 | []=>trivial
 | i :: is=>⟨hs i,f6c hs is⟩
theorem h5a {w:World} {S:Nat→Prop} {a:Act} {env:Names} (j:Nat):∀ {keep:List Nat} {as:List A},RVall E env w S as (keep.map fun i=>a.eval (.tmp i))→RV E env w S (a3q (g5o keep as) j) (a.eval (.tmp j))
 | [],[],_=>trivial
 | i :: is,x :: as,h=>by
  unfold g5o a3q;cases hb:Nat.beq j i with
  | true=>rw [Nat.eq_of_beq_eq_true hb];exact h.1
  | false=>exact h5a j h.2
 | [],_ :: _,h=>h.elim
 | _ :: _,[],h=>h.elim
theorem g1v {w:World} {σ:St} {ac:Act} {o:Oper} {f:FuncId} {fn:Func} {args:List Operand} {S:Nat→Prop} {env:Names} (hTF:TabF P E) (hfn:E.fn f=some fn) (hs:∀ i,RV E env w S (σ.sl i) (ac.eval (.tmp i))) (hcal:callee? σ o=some (f,args,[])) :
  (execOp ac.eval o).run P w=.ok (.enter f (args.map ac.eval).toArray) w:=by
 obtain ⟨c,hop,hca,hcc⟩:=d0l hcal;obtain ⟨cx,hcx,hcv⟩:∃ cx,c.callee=.value cx∧ac.eval cx=.func (.func f) #[] #[]:=by
  rcases hcc with ⟨h1,_⟩ | ⟨i,h1,⟨h2,_⟩ | ⟨n,h2,h3⟩⟩
  ·exact ⟨_,h1,rfl⟩
  ·have:=hs i;rw [h2] at this;exact ⟨_,h1,this⟩
  ·cases h3
 obtain ⟨hpf,hbody,hname⟩:=hTF.1 f fn hfn;have hargs:c.args.map ac.eval++#[]=(args.map ac.eval).toArray:=by rw [← hca];apply Array.toList_inj.1;simp
 have hname':¬ fn.name = "runtime.NumGoroutine" :=by simpa using hname
 have hbody':¬ fn.body=none:=fun h=>by simp [h] at hbody
 simp [execOp,hop,resolve,hcx,hcv,Deferred.ofValue,invoke,callFunc,hpf,mark];rw [if_neg hname',if_neg hbody',← hargs];simp
theorem f3x {σ:St} {o:Oper} {f:FuncId} {fn:Func} {args:List Operand} (h:h3n E σ o=some (f,fn,args)):o.guard=none∧callee? σ o=some (f,args,[])∧E.fn f=some fn:=by
 unfold h3n at h;split at h
 ·rename_i f' args' hg hc;obtain ⟨_,h1⟩:=a3d h;split at h1
  ·rename_i fn' hfn;cases h1;exact ⟨hg,hc,hfn⟩
  ·cases h1
 ·cases h
theorem d0n (hT:a2b P E=true) (hTF:TabF P E) {F:Call} (hF:g8a P E F) {R:Type} {I:Inl R} (hI:h4z P E I β) {ops:Array Oper} {keep:List Nat} {K:St→Option R} {r:R} {Q:Exit→Act→World→Prop}
  (hK:∀ σ',K σ'=some r→∀ a' w',Rel E β N d0 σ' a' w'→Q .normal a' w') :
  ∀ (os:List Oper) (i:Nat) (σ:St) (ac:Act) (w:World),ops.toList.drop i=os→(∀ o,o∈os→∀ d,o.dst=some d→d<N)→Rel E β N d0 σ ac w→
   d1n E F I ops.toList keep os σ K=some r→wpOps P ops Q (List.range' i os.length) ac w
 | [],i,σ,ac,w,_,_,hr,h=>hK _ h _ _ hr
 | o :: os,i,σ,ac,w,hdrop,hd,hr,h=>by
  have hi:ops[i]?=some o:=by
   have:=congrArg List.head? hdrop;rw [List.head?_drop] at this;simpa using this
  have hdrop':ops.toList.drop (i+1)=os:=by
   have:=congrArg List.tail hdrop;simpa [List.tail_drop] using this
  rw [List.length_cons,List.range'_succ,wpOps_cons];unfold d1n at h;split at h
  ·rename_i f fn args hin;obtain ⟨hg,hcal,hfn⟩:=f3x hin;obtain ⟨hc,h1⟩:=a3d h;obtain ⟨hlen,hnt⟩:=a0d hc;have hlen:=Nat.eq_of_beq_eq_true hlen;obtain ⟨⟨env,hh,hpin,hs⟩,hsz,hdf⟩:=hr;unfold wpOp;simp only [hi];have hw:Region.wanted o (yielded ops ac.tmps)=true:=by simp [Region.wanted,hg]
   rw [if_pos hw];refine .inl ?_;unfold Oper.wp;rw [g1v hTF hfn hs hcal,Oper.upon_enter];refine hI f _ _ _ _ _ r h1 env w (args.map ac.eval) (keep.map fun i=>ac.eval (.tmp i)) hh hpin (e1x hs hlen.symm hnt) (f6c hs keep) _ fun a sv' m' env' w' v hK' hh' hpin' hv hsv=>?_;have hrel:=Rel.put (σ:=⟨a3q (g5o keep sv'),σ.mem⟩) hsz hdf (hd o List.mem_cons_self) hh' hpin' (fun j=>h5a j hsv) hv;exact d0n hT hTF hF hI hK os (i+1) _ _ _ hdrop' (fun o ho=>hd o (List.mem_cons_of_mem _ ho)) hrel hK'
  ·obtain ⟨σ',p,h1,h2⟩:=b9a h;exact f5x hT hTF hF hi hr (hd o List.mem_cons_self) h1 fun a' w' hr'=>
    d0n hT hTF hF hI hK os (i+1) σ' a' w' hdrop' (fun o ho=>hd o (List.mem_cons_of_mem _ ho)) hr' h2
theorem g6c:∀ {l:List Pre} {m m':Mem} {env:Names} {w:World} {p p':FP} {u:Unit},Heap E β [] m env w→(i6l E l).ev m p=some (u,m',p')→
  ∃ env',Heap E β [] m' env' w∧env.le env'∧Still w w (a0c β [] m env w) (a0c β [] m' env' w)
 | [],m,m',env,w,p,p',u,h,hp=>by cases hp;exact ⟨env,h,Names.le_refl _,Still.refl _ _⟩
 | .low n :: r,m,m',env,w,p,p',u,h,hp=>by
  obtain ⟨_,m1,p1,h1,hq⟩:=M.bind_some hp;obtain ⟨g1,g2⟩:=h4i h h1;obtain ⟨env',k1,k2,k3⟩:=g6c g1 hq;exact ⟨env',k1,k2,g2.trans k3⟩
 | .opn n d i j :: r,m,m',env,w,p,p',u,h,hp=>by
  obtain ⟨_,m1,p1,h1,hq⟩:=M.bind_some hp;have key:∃ env1,Heap E β [] m1 env1 w∧env.le env1∧Still w w (a0c β [] m env w) (a0c β [] m1 env1 w):=by
   obtain ⟨q,h1⟩:=M.k1w h1;split at h1
   ·rename_i e es hn;split at h1
    ·rename_i e' he;obtain ⟨hi,h2⟩:=M.k1e h1;have hi:i<es.length:=Nat.le_of_ble_eq_true hi;obtain ⟨_,m2,p2,h3,h4⟩:=M.bind_some h2;obtain ⟨hnd,rfl⟩:=M.k1d h3;obtain ⟨p3,h5⟩:=M.k1r h4;cases h5;obtain ⟨v,xs,fps,e1,e2,_⟩:=h.obj n _ hn;have hj:j<E.sz e:=(List.getElem?_eq_some_iff.1 he).1;have hty:a5q E e j=.row e':=by unfold a5q;rw [List.getD_eq_getElem?_getD,he];rfl
     rcases e2.2 with ⟨_,h0⟩ | ⟨g,cap,cur,h0,_⟩
     ·omega
     ·subst h0;obtain ⟨u,env',k1,k2,k3,k4,k5,k6⟩:=h.hole hn hnd hi hj hty e1;exact ⟨env',k4,k5,k6⟩
    ·cases h1;exact ⟨env,h,Names.le_refl _,Still.refl _ _⟩
   ·cases h1;exact ⟨env,h,Names.le_refl _,Still.refl _ _⟩
  obtain ⟨env1,g1,g2,g3⟩:=key;obtain ⟨env',k1,k2,k3⟩:=g6c g1 hq;exact ⟨env',k1,Names.le_trans g2 k2,g3.trans k3⟩
theorem Rel.pre {l:List Pre} {σ:St} {a:Act} {w:World} {m':Mem} {p p':FP} {u:Unit} (hr:Rel E β N d0 σ a w) (hp:(i6l E l).ev σ.mem p=some (u,m',p')):Rel E β N d0 ⟨σ.sl,m'⟩ a w:=by
 obtain ⟨⟨env,hh,hpin,hs⟩,hsz,hdf⟩:=hr;obtain ⟨env',k1,k2,k3⟩:=g6c hh hp;exact ⟨⟨env',k1,fun n v hv=>k2 _ _ (hpin n v hv),fun i=>(hs i).mono k2 k3⟩,hsz,hdf⟩
theorem a7d (hT:a2b P E=true) (hTF:TabF P E) {F:Call} (hF:g8a P E F) (hD:g1u P E F) {k:Nat} {pins:List Nat}:∀ (c:Code) {out:List Nat} {R:Type} {I:Inl R} (hI:h4z P E I β) {σ:St} {a:Act} {w:World} {K:Ex→St→Option R} {r:R} {Q:Exit→Act→World→Prop},(c3n c=true∨d7j β pins)→
  d7e N c=true→Rel E β N d0 σ a w→a5d E F I k pins c out σ K=some r→(∀ ex σ' a' w',K ex σ'=some r→Rel E β N d0 σ' a' w'→Q ex.to a' w')→c.wp P Q a w
 | .skip,out,R,I,hI,σ,a,w,K,r,Q,hpins,hd,hr,h,hQ=>wp_skip (hQ .normal σ a w h hr)
 | .exit id,out,R,I,hI,σ,a,w,K,r,Q,hpins,hd,hr,h,hQ=>wp_exit (hQ (.exit id) σ a w h hr)
 | .ret,out,R,I,hI,σ,a,w,K,r,Q,hpins,hd,hr,h,hQ=>wp_ret (hQ .ret σ a w h hr)
 | .seq x y,out,R,I,hI,σ,a,w,K,r,Q,hpins,hd,hr,h,hQ=>by
  obtain ⟨hd1,hd2⟩:=a0d hd;have hp1:c3n x=true∨d7j β pins:=hpins.imp (fun h=>(a0d h).1) id;have hp2:c3n y=true∨d7j β pins:=hpins.imp (fun h=>(a0d h).2) id;refine wp_seq (a7d hT hTF hF hD x hI hp1 hd1 hr h fun ex σ' a' w' hK hr'=>?_);cases ex with
  | normal=>exact a7d hT hTF hF hD y hI hp2 hd2 hr' hK hQ
  | exit i=>exact hQ (.exit i) σ' a' w' hK hr'
  | ret=>exact hQ .ret σ' a' w' hK hr'
 | .cond c x y,out,R,I,hI,σ,a,w,K,r,Q,hpins,hd,hr,h,hQ=>by
  obtain ⟨hd1,hd2⟩:=a0d hd;have hp1:c3n x=true∨d7j β pins:=hpins.imp (fun h=>(a0d h).1) id;have hp2:c3n y=true∨d7j β pins:=hpins.imp (fun h=>(a0d h).2) id;unfold a5d at h;split at h
  ·rename_i b hb;obtain ⟨env,hh,hpin,hs⟩:=hr.ex;have hv:=b9s (E:=E) hs 0 c;rw [hb] at hv;have hv:a.eval c=.bool b:=hv;have hsame:σ.put (d0c c) (.b b)=σ:=by
    cases c with
    | tmp i=>exact a5t hb
    | _=>rfl
   refine wp_cond hv ?_;cases b with
   | true=>rw [cond_true,hsame] at h;exact a7d hT hTF hF hD x hI hp1 hd1 hr h hQ
   | false=>rw [cond_false,hsame] at h;exact a7d hT hTF hF hD y hI hp2 hd2 hr h hQ
  ·cases h
 | .block id x,out,R,I,hI,σ,a,w,K,r,Q,hpins,hd,hr,h,hQ=>by
  refine wp_block (a7d hT hTF hF hD x hI hpins hd hr h fun ex σ' a' w' hK hr'=>?_);cases ex with
  | normal=>exact hQ .normal σ' a' w' hK hr'
  | exit i=>
   show (if i=id then _ else _);simp only at hK;cases hi:Nat.beq i id with
   | true=>rw [hi] at hK;rw [if_pos (Nat.eq_of_beq_eq_true hi)];exact hQ .normal σ' a' w' hK hr'
   | false=>
    rw [hi] at hK;rw [if_neg (fun h=>by rw [h] at hi;simp at hi)];exact hQ (.exit i) σ' a' w' hK hr'
  | ret=>exact hQ .ret σ' a' w' hK hr'
 | .loop x,out,R,I,hI,σ,a,w,K,r,Q,hpins,hd,hr,h,hQ=>by
  have hpins:d7j β pins:=hpins.elim (fun h=>by cases h) id;unfold a5d at h;split at h
  ·rename_i σ1 hc;have hr1:=g1s hpins hr hc;generalize g1b (f5c ((a8n x []).1++out))=keep at h;have key:∀ (j:Nat) (σ:St) (a:Act) (w:World),Rel E β N d0 σ a w→h8p E (fun σ K'=>a5d E F I k pins x ((a8n x []).1++out) σ K') pins keep K j σ=some r→Code.rounds P x Q j a w:=by
    intro j
    induction j with
    | zero=>intro σ a w _ h;cases h
    | succ j ih=>
     intro σ a w hr h;unfold h8p at h;unfold Code.rounds;refine a7d hT hTF hF hD x hI (.inr hpins) hd hr h fun ex σ' a' w' hK hr'=>?_;cases ex with
     | normal=>
      simp only at hK;split at hK
      ·rename_i σ2 hc2;exact ih σ2 a' w' (g1s hpins hr' hc2) hK
      ·cases hK
     | exit i=>exact hQ (.exit i) σ' a' w' hK hr'
     | ret=>exact hQ .ret σ' a' w' hK hr'
   exact wp_loop_rounds k (key k σ1 a w hr1 h)
  ·cases h
 | .region id ops draw,out,R,I,hI,σ,a,w,K,r,Q,hpins,hd,hr,h,hQ=>by
  have hdst:∀ o,o∈ops.toList→∀ d,o.dst=some d→d<N:=fun o ho d hod=>by
   have:=List.all_eq_true.1 hd o ho;simp only [hod] at this;simpa using this
  unfold a5d at h;cases draw with
  | false=>
   refine wp_region ?_;have:=d0n (P:=P) (ops:=ops) (Q:=Q) hT hTF hF hI (fun σ' hK a' w' hr'=>hQ .normal σ' a' w' hK hr') ops.toList 0 σ a w (by simp) hdst hr h;rw [List.range_eq_range'];simpa using this
  | true=>
   obtain ⟨u0,m1,p1,h0,h⟩:=M.k0z (show (i6l E (i3s E σ.mem ops.toList σ)).run σ.mem ⟨[],[]⟩ _=some r from h);replace hr:=Rel.pre hr h0;exact hD R β I N d0 id ops _ ⟨σ.sl,m1⟩ a w _ r Q hI hdst hr h fun σ' hK a' w' hr'=>hQ .normal σ' a' w' hK hr'
 | .rangeFunc _ _ _ _,out,R,I,hI,σ,a,w,K,r,Q,hpins,hd,hr,h,hQ=>by cases h
 | .scope _,out,R,I,hI,σ,a,w,K,r,Q,hpins,hd,hr,h,hQ=>by cases h
 | .label _,out,R,I,hI,σ,a,w,K,r,Q,hpins,hd,hr,h,hQ=>by cases h
 | .goto _,out,R,I,hI,σ,a,w,K,r,Q,hpins,hd,hr,h,hQ=>by cases h
end
end Go.Proofs.YtjadnceefhbphaaGreat.Ev
