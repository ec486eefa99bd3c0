/- One operation, or a call, in a region. No condition. -/
import Derived.Test.YtdbopobkdpmpgaamEvL
namespace Go.Proofs.Ytdbopobkdpmpgaa.Ev
open Go
set_option linter.unusedVariables false
section
variable {P:Program} {E:Env} {β:Base} {m:Mem} {env:Names} {w w':World} {S:Nat→Prop} {N:Nat} {d0:List Deferred}
def f5t (P:Program) (E:Env):Prop:=∀ f fn,E.fn f=some fn→P.funcs[f]?=some fn∧fn.body.isNone=false∧(fn.name == "runtime.NumGoroutine")=false
def TabF (P:Program) (E:Env):Prop:=f5t P E∧(∀ f e,d6y E.del f=some e→(∃ fn,E.fn f=some fn))∧f7u P E
theorem TabF.none {P:Program} {E:Env} (h:f5t P E) (hd:E.del=[]):TabF P E:=by
 have h0:∀ f e,¬ d6y E.del f=some e:=fun f e hx=>by rw [hd] at hx;cases hx
 exact ⟨h,fun f e hx=>(h0 f e hx).elim,fun f e hx=>(h0 f e hx).elim⟩
theorem f2c (a:Act) (d i:Nat) (v:Value) (hd:d<a.tmps.size):(a.put (some d) v).eval (.tmp i)=if i=d then v else a.eval (.tmp i):=by
 by_cases h:i=d
 ·subst h;simp [Act.eval,Act.put,hd]
 ·rw [if_neg h];simp [Act.eval,Act.put,Array.getElem?_setIfInBounds_ne (Ne.symm h)]
theorem Rel.put {σ:St} {a:Act} (hsz:a.tmps.size=N) (hdf:a.defers=d0) {env':Names} {m':Mem} {dst:Option Nat} (hd:∀ d,dst=some d→d<N) (hh:Heap E β [] m' env' w') (hpin:∀ n v,(n,v)∈β.pin→env' n=some v)
  (hs:∀ i,RV E env' w' (a0b β [] m' env' w') (σ.sl i) (a.eval (.tmp i))) {x:A} {v:Value} (hv:RV E env' w' (a0b β [] m' env' w') x v):Rel E β N d0 (St.put ⟨σ.sl,m'⟩ dst x) (a.put dst v) w':=by
 cases dst with
 | none=>exact ⟨⟨env',hh,hpin,hs⟩,hsz,hdf⟩
 | some d=>
  refine ⟨⟨env',hh,hpin,fun i=>?_⟩,by simpa [Act.put] using hsz,by simpa [Act.put] using hdf⟩;rw [f2c a d i v (by rw [hsz];exact hd d rfl)];simp only [St.put];by_cases h:i=d
  ·subst h;simpa using hv
  ·have:Nat.beq i d=false:=by
    cases hb:Nat.beq i d
    ·rfl
    ·exact absurd (Nat.eq_of_beq_eq_true hb) h
   simpa [h,this] using hs i
theorem c5t {σ:St} {a:Act} (hs:∀ i,RV E env w S (σ.sl i) (a.eval (.tmp i))):∀ {ts:List Nat} {xs:List Operand},ts.length=xs.length→c6k (b5y E σ ts xs)=true→RV2s E env w S (b5y E σ ts xs) (xs.map a.eval)
 | [],[],_,_=>trivial
 | t :: ts,x :: xs,hl,hn=>by
  have h1:=b2y (E:=E) hs t x;unfold b5y at hn ⊢;generalize a1y E σ t x=y at h1 hn;have h2:c6k (b5y E σ ts xs)=true∧y.isTup=false:=by cases y <;> first | exact ⟨hn,rfl⟩ | cases hn
  rw [d1k h2.2] at h1;exact ⟨h1,c5t hs (by simpa using hl) h2.1⟩
 | [],_ :: _,hl,_=>by simp at hl
 | _ :: _,[],hl,_=>by simp at hl
theorem b9c {σ:St} {o:Oper} {f:FuncId} {args:List Operand} {more:List A} (h:callee? σ o=some (f,args,more)) :
  ∃ c,o.op=.call c∧c.args.toList=args∧((c.callee=.value (.func f)∧more=[])∨∃ i,c.callee=.value (.tmp i)∧((σ.sl i=.clo f none∧more=[])∨∃ n,σ.sl i=.clo f (some n)∧more=[.ptr n 0])):=by
 unfold callee? at h;split at h
 ·rename_i f' args' _ hop;cases h;exact ⟨_,hop,rfl,.inl ⟨rfl,rfl⟩⟩
 ·rename_i i args' _ hop;split at h
  ·rename_i hs;cases h;exact ⟨_,hop,rfl,.inr ⟨i,rfl,.inl ⟨hs,rfl⟩⟩⟩
  ·rename_i n hs;cases h;exact ⟨_,hop,rfl,.inr ⟨i,rfl,.inr ⟨n,hs,rfl⟩⟩⟩
  ·cases h
 ·cases h
theorem RV2s.app {as bs:List A} {vs us:List Value} (h:RV2s E env w S as vs) (h':RV2s E env w S bs us):RV2s E env w S (as++bs) (vs++us):=by
 induction as generalizing vs with
 | nil=>cases vs with
  | nil=>exact h'
  | cons v vs=>exact h.elim
 | cons a as ih=>cases vs with
  | nil=>exact h.elim
  | cons v vs=>exact ⟨h.1,ih h.2⟩
theorem f5u (hT:a1e P E=true) (hTF:TabF P E) {F:Call} (hF:e2h P E F) {R:Type} {σ:St} {ac:Act} {o:Oper} {K:St→FP→Option R} {r:R} (hr:Rel E β N d0 σ ac w) (hd:∀ d,o.dst=some d→d<N)
  (h:c1v E F σ o K=some r):∃ σ' fp,K σ' fp=some r∧∀ (next:Act→World→Prop) (Q:Exit→Act→World→Prop),(∀ a' w',Rel E β N d0 σ' a' w'→next a' w')→o.wp P ac w next Q:=by
 obtain ⟨⟨env,hh,hpin,hs⟩,hsz,hdf⟩:=hr;unfold c1v at h;split at h
 ·rename_i f args more hcal;obtain ⟨c,hop,hca,hcc⟩:=b9c hcal;obtain ⟨cx,caps,hcx,hcv,hcap⟩:∃ cx caps,c.callee=.value cx∧ac.eval cx=.func (.func f) #[] caps∧RV2s E env w (a0b β [] σ.mem env w) more caps.toList:=by
   rcases hcc with ⟨h1,rfl⟩ | ⟨i,h1,⟨h2,rfl⟩ | ⟨n,h2,rfl⟩⟩
   ·exact ⟨_,#[],h1,rfl,trivial⟩
   ·have:=hs i;rw [h2] at this;exact ⟨_,#[],h1,this,trivial⟩
   ·have:=hs i;rw [h2] at this;obtain ⟨b,g1,g2⟩:=this;exact ⟨_,#[.pointer (some ⟨b,0,none⟩)],h1,g2,⟨b,g1,rfl⟩,trivial⟩
  split at h
  ·rename_i e hdel;split at h
   ·rename_i hmore;obtain ⟨a,m1,p1,ha,hK⟩:=M.g5t h;clear h;have hcaps:caps.toList=[]:=by
     cases hcc':caps.toList with
     | nil=>rfl
     | cons u us=>rw [hcc'] at hcap;exact hcap.elim
    obtain ⟨fn,hfn⟩:=hTF.2.1 f e hdel;have hR:=hTF.2.2 f e hdel;obtain ⟨hpf,hbody,hname⟩:=hTF.1 f fn hfn;obtain ⟨x,y,z,rfl⟩:∃ x y z,args=[x,y,z]:=by
     match args,ha with
     | [x,y,z],_=>exact ⟨x,y,z,rfl⟩
     | [],ha=>exact (b4m ha (by simp)).elim
     | [_],ha=>exact (b4m ha (by simp)).elim
     | [_,_],ha=>exact (b4m ha (by simp)).elim
     | _ :: _ :: _ :: _ :: _,ha=>exact (b4m ha (by simp)).elim
    refine ⟨_,_,hK,fun next Q hnext=>?_⟩
    have hcalls:=f2a hh hR (b2y (E:=E) hs 0 x) (b2y (E:=E) hs 0 y) (b2y (E:=E) hs 0 z) ha;have hexec:(execOp ac.eval o).run P w=.ok (.enter f #[ac.eval x,ac.eval y,ac.eval z]) w:=by
     have hargs:c.args.map ac.eval++caps=#[ac.eval x,ac.eval y,ac.eval z]:=by apply Array.toList_inj.1;simp [hca,hcaps]
     have hname':¬ fn.name = "runtime.NumGoroutine" :=by simpa using hname
     have hbody':¬ fn.body=none:=fun h=>by simp [h] at hbody
     simp [execOp,hop,resolve,hcx,hcv,Deferred.ofValue,invoke,callFunc,hpf,mark];rw [if_neg hname',if_neg hbody',← hargs]
    unfold Oper.wp;rw [hexec,Oper.upon_enter];refine hcalls.mono fun q w' he=>?_;obtain ⟨v,env',rfl,k1,k2,k3,k4⟩:=he;exact hnext _ _ (Rel.put hsz hdf hd k2 (fun i v hi=>k3 _ _ (hpin i v hi)) (fun i=>(hs i).mono k3 k4) k1)
   ·cases h
  ·split at h
   ·cases h
   ·rename_i fn hfn;obtain ⟨hc,h1⟩:=a1z h;clear h;obtain ⟨hc',hnt⟩:=a0a hc;obtain ⟨hlen,hlen2⟩:=a0a hc';have hlen:=Nat.eq_of_beq_eq_true hlen;obtain ⟨⟨ins,l,seen⟩,m1,p1,ha,h2⟩:=M.g5t h1;clear h1;obtain ⟨_,m9,p9,hpr,ha⟩:=M.bind_some ha;obtain ⟨env,hh,he9,hst9⟩:=e2o hh hpr;have hle9:Names.le _ env:=fun x v hx=>(he9 x).trans hx;have hs:=fun i=>(hs i).mono hle9 hst9;have hcap:=hcap.mono hle9 hst9;have hpin:=fun i v hi=>hle9 _ _ (hpin i v hi);obtain ⟨⟨ins',l',seen'⟩,m0,p0,ha1,ha2⟩:=M.bind_some ha;obtain ⟨_,m2,p2,hal,ha3⟩:=M.bind_some ha2;cases ha3;obtain ⟨rfl,halive⟩:=c6o hal;have hvs:=(c5t hs hlen.symm hnt).app hcap;obtain ⟨bs,g1,g2,g3,g4⟩:=b4i hh hvs ha1;rw [List.nil_append] at g1 g2 g4;simp only at h2;split at h2
    ·cases h2
    ·rename_i out hout;obtain ⟨a,m3,p3,hb,hK⟩:=M.g5t h2;refine ⟨_,_,hK,fun next Q hnext=>?_⟩
     have hseen:∀ n,n∈seen→∀ b,owns m9 env n b→b ∉ bs∧(a0b β bs m0 env w b∨owns m0 env n b):=by
      intro n hn b hbn;have hrow:=halive n hn;have hnb:b ∉ bs:=fun hb'=>by
       rcases g2.grow b hb' with h5 | ⟨n',h5,h6⟩
       ·simp at h5
       ·have:=hh.apart _ _ _ h5 hbn;subst this;exact hrow h6
      refine ⟨hnb,?_⟩;by_cases ho:owns m0 env n b
      ·exact .inr ho
      ·refine .inl ⟨.inr (hh.inb _ _ hbn).2.1,(hh.inb _ _ hbn).1,fun x hx=>?_,hnb⟩;have:=hh.apart _ _ _ (g2.own x b hx) hbn;subst this;exact ho hx
     have hAs:=g4 (fun b=>a0b β bs m0 env w b∨∃ n,n∈seen∧owns m9 env n b) (fun b hb=>.inl hb) (fun n hn b hb=>.inr ⟨n,hn,hb⟩);have hcalls:=hF f fn ins out hfn hout w (args.map ac.eval++caps.toList) bs (fun b=>a0b β bs m0 env w b∨∃ n,n∈seen∧owns m9 env n b) g1.nodup (fun b hb=>(g1.inL b hb).1) (fun b hb=>by
      rcases hb with h5 | ⟨n,hn,h5⟩
      ·exact ⟨h5.2.1,h5.2.2.2⟩
      ·exact ⟨(hh.inb _ _ h5).1,(hseen n hn b h5).1⟩) g1.gok hAs
     obtain ⟨hpf,hbody,hname⟩:=hTF.1 f fn hfn;have hexec:(execOp ac.eval o).run P w=.ok (.enter f (args.map ac.eval++caps.toList).toArray) w:=by
      have hargs:c.args.map ac.eval++caps=(args.map ac.eval++caps.toList).toArray:=by rw [← hca];apply Array.toList_inj.1;simp
      have hname':¬ fn.name = "runtime.NumGoroutine" :=by simpa using hname
      have hbody':¬ fn.body=none:=fun h=>by simp [h] at hbody
      simp [execOp,hop,resolve,hcx,hcv,Deferred.ofValue,invoke,callFunc,hpf,mark];rw [if_neg hname',if_neg hbody',← hargs]
     unfold Oper.wp;rw [hexec,Oper.upon_enter];refine hcalls.mono fun e w' he=>?_;obtain ⟨v,rfl,hpost⟩:=he;obtain ⟨env',k1,k2,k3,k4⟩:=e7d g1 g3 (fun b hb=>by
      rcases hb with h5 | ⟨n,hn,h5⟩
      ·exact .inl h5
      ·rcases (hseen n hn b h5).2 with h6 | h6
       ·exact .inl h6
       ·exact .inr ⟨n,hn,h6⟩) hpost hb
     exact hnext _ _ (Rel.put hsz hdf hd k1 (fun i v hi=>k2 _ _ (hpin i v hi)) (fun i=>(hs i).mono k2 (g2.still.trans k3)) k4)
 ·obtain ⟨a,m1,p1,ha,hK⟩:=M.g5t h;obtain ⟨_,m9,p9,hpr,ha⟩:=M.bind_some ha;obtain ⟨env,hh,he9,hst9⟩:=e2o hh hpr;have hle9:Names.le _ env:=fun x v hx=>(he9 x).trans hx;have hs:=fun i=>(hs i).mono hle9 hst9;have hpin:=fun i v hi=>hle9 _ _ (hpin i v hi);obtain ⟨n,v,w',env',h1,h2,h3,h4,h5,h6⟩:=f7v (P:=P) hT hh hs ha;refine ⟨_,_,hK,fun next Q hnext=>?_⟩
  have hrel:=Rel.put hsz hdf hd h4 (fun i v hi=>h5 _ _ (hpin i v hi)) (fun i=>(hs i).mono h5 h6) h3;unfold Oper.wp;rw [h1];rcases h2 with rfl | ⟨rfl,rfl⟩
  ·exact hnext _ _ hrel
  ·exact hnext _ _ hrel
end
end Go.Proofs.Ytdbopobkdpmpgaa.Ev
