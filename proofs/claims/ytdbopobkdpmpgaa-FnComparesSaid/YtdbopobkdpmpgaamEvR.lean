/- A function's call answers as the evaluator says. Of regions that draw their order as of a premise. No other condition. -/
import Derived.Test.YtdbopobkdpmpgaamEvQ
namespace Go.Proofs.Ytdbopobkdpmpgaa.Ev
open Go
set_option linter.unusedVariables false
section
variable {P:Program} {E:Env} {β:Base} {m:Mem} {env:Names} {w w':World} {S:Nat→Prop} {N:Nat} {d0:List Deferred}
def f7e (tmps:Array Value):ResultVar→Sem Value
 | .tmp t=>pure (tmps.getD t undef)
 | .cell a t=>do loadVar t (← asAddr (tmps.getD a undef))
theorem e5d (fn:Func) (tmps:Array Value):results fn tmps=(do let vs ← fn.results.mapM (f7e tmps);pure (if h:vs.size=1 then vs[0] else .tuple vs)):=by
 have:f7e tmps=(fun | .tmp t=>pure (tmps.getD t undef) | .cell a t=>do loadVar t (← asAddr (tmps.getD a undef)):ResultVar→Sem Value):=by
  funext r;cases r <;> rfl
 rw [this];rfl
theorem c7r {fn:Func} {tmps:Array Value} {vals:List Value} (h:(fn.results.toList.mapM (f7e tmps)).run P w=.ok vals w) :
  (results fn tmps).run P w=.ok (if h:vals.toArray.size=1 then vals.toArray[0] else .tuple vals.toArray) w:=by
 rw [e5d,Array.mapM_eq_mapM_toList];simp [h]
theorem e2y {a:A} {t:Nat} (h:a.fits E t=true):a.cells.length=E.sz t:=by
 cases a with
 | agg cs=>exact Nat.eq_of_beq_eq_true (a0a h).2
 | tup cs=>cases h
 | _=>exact (Nat.eq_of_beq_eq_true (a0a h).2).symm
theorem c0d (hT:a1e P E=true) {σ:St} {a:Act} (h:Heap E β [] m env w) (hs:∀ i,RV E env w (a0b β [] m env w) (σ.sl i) (a.eval (.tmp i))) :
  ∀ {rs:List ResultVar} {tys:List Nat} {as:List A} {m':Mem} {p p':FP},(b5d E σ rs tys).ev m p=some (as,m',p')→
  m=m'∧∃ vals vs,(rs.mapM (f7e a.tmps)).run P w=.ok vals w∧d1m E tys vals vs∧RVs E env w (a0b β [] m env w) as vs∧vals.length=tys.length
 | [],[],as,m',p,p',hp=>by
  unfold b5d at hp;cases hp;exact ⟨rfl,[],[],rfl,rfl,trivial,rfl⟩
 | .tmp t :: r,ty :: tys,as,m',p,p',hp=>by
  unfold b5d at hp;obtain ⟨hf,hq⟩:=M.g5z hp;obtain ⟨as',m1,p1,h1,hq1⟩:=M.bind_some hq;cases hq1;obtain ⟨rfl,vals,vs,g1,g2,g3,g4⟩:=c0d hT h hs h1;have hv:=hs t;have htup:(σ.sl t).isTup=false:=by cases hb:σ.sl t <;> rw [hb] at hf <;> first | rfl | cases hf
  rw [d1k htup] at hv;obtain ⟨vs1,k1,k2⟩:=c5q hf hv;have hl:=k2.length;rw [e2y hf] at hl;refine ⟨rfl,a.eval (.tmp t) :: vals,vs1++vs,?_,⟨vs1,vs,rfl,k1,hl.symm,g2⟩,k2.app g3,by simp [g4]⟩;simp [List.mapM_cons,f7e,g1,Act.eval]
 | .cell q t :: r,ty :: tys,as,m',p,p',hp=>by
  unfold b5d at hp;obtain ⟨x,m0,p0,h0,hq0⟩:=M.bind_some hp;obtain ⟨rfl,v,l1,l2,ad,l3,l4⟩:=d3v hT h (hs q) h0;obtain ⟨hf,hq⟩:=M.g5z hq0;obtain ⟨as',m1,p1,h1,hq1⟩:=M.bind_some hq;cases hq1;obtain ⟨rfl,vals,vs,g1,g2,g3,g4⟩:=c0d hT h hs h1;obtain ⟨vs1,k1,k2⟩:=c5q hf l2;have hl:=k2.length;rw [e2y hf] at hl;refine ⟨rfl,v :: vals,vs1++vs,?_,⟨vs1,vs,rfl,k1,hl.symm,g2⟩,k2.app g3,by simp [g4]⟩;simp only [Act.eval] at l3;simp [List.mapM_cons,f7e,g1,l3,asAddr,l4]
 | [],_ :: _,as,m',p,p',hp=>by unfold b5d at hp;cases hp
 | .tmp _ :: _,[],as,m',p,p',hp=>by unfold b5d at hp;cases hp
 | .cell _ _ :: _,[],as,m',p,p',hp=>by unfold b5d at hp;cases hp
def f4g:Value→Value
 | .func _ _ c=>c.getD 0 undef
 | v=>v
def b5q:List Arg→List Value→Prop
 | .c f (some _) :: r,v :: vs=>(∃ p,v=.func (.func f) #[] #[p])∧b5q r vs
 | .c _ none :: r,_ :: vs=>b5q r vs
 | .v _ :: r,_ :: vs=>b5q r vs
 | .p _ :: r,_ :: vs=>b5q r vs
 | .r _ :: r,_ :: vs=>b5q r vs
 | .s _ :: r,_ :: vs=>b5q r vs
 | _,_=>True
theorem AsOk.clo {S:Nat→Prop}:∀ {ws:List (List Bool)} {ts:List Nat} {ins:List Arg} {vs:List Value} {bs:List Nat},AsOk E w S ws ts ins vs bs→b5q ins vs
 | _,[],[],[],_,_=>trivial
 | _,_ :: _,.v _ :: _,_ :: _,_,⟨_,_,_,_,h⟩=>by unfold b5q;exact AsOk.clo h
 | _,_ :: _,.p _ :: _,_ :: _,_,⟨_,_,_,_,h⟩=>by unfold b5q;exact AsOk.clo h
 | _,_ :: _,.r _ :: _,_ :: _,_,⟨_,_,_,_,h⟩=>by unfold b5q;exact AsOk.clo h
 | _,_ :: _,.s _ :: _,_ :: _,_,⟨_,_,_,_,h⟩=>by unfold b5q;exact AsOk.clo h
 | _,_ :: _,.c _ none :: _,_ :: _,_,⟨_,_,_,_,h⟩=>by unfold b5q;exact AsOk.clo h
 | _,_ :: _,.c _ (some _) :: _,_ :: _,_,⟨_,_,_,⟨b,_,_,_,h1,_⟩,h⟩=>⟨⟨_,h1⟩,AsOk.clo h⟩
 | _,[],[],_ :: _,_,h=>h.elim
 | _,[],_ :: _,_,_,h=>h.elim
 | _,_ :: _,[],_,_,h=>h.elim
 | _,_ :: _,_ :: _,[],_,h=>h.elim
def c7s (E:Env) (t:Nat) (v:Value):List Value:=match E.isAgg t,v with | true,.agg arr=>arr.toList | true,_=>[] | false,v=>[v]
theorem Shape.vals {t:Nat} {v:Value} {vs:List Value} (h:Shape E t v vs):c7s E t v=vs:=by
 unfold Shape at h;unfold c7s;cases ha:E.isAgg t <;> rw [ha] at h
 ·exact h.symm
 ·obtain ⟨arr,rfl,rfl⟩:=h;rfl
theorem Shape.of_vals {t:Nat} {v:Value} {vs:List Value} (h:Shape E t v vs):Shape E t v (c7s E t v):=by rw [h.vals];exact h
def e8m (E:Env):List Bool→List Ty→List T→List Value→Prop
 | ws,ty :: tys,t :: ts,v :: vs=>((ty.isRow&&ws.headD false)=false→∀ w S,BC E w S (ws.headD false) ty t v [])∧((ty.isRow&&ws.headD false)=true→∃ a l c,v=.slice a l c)∧e8m E ws.tail tys ts vs
 | _,[],[],[]=>True
 | _,_,_,_=>False
def SOk (E:Env):List (List Bool)→List Nat→List Arg→List Value→Prop
 | ws,t :: ts,.s cs :: r,v :: vs=>(E.isAgg t=true∧∃ us,Shape E t v us)∧e8m E (ws.headD []) (fl (ws.headD []) (E.flat t)) cs (c7s E t v)∧SOk E ws.tail ts r vs
 | ws,_ :: ts,_ :: r,_ :: vs=>SOk E ws.tail ts r vs
 | _,_,_,_=>True
theorem c7t:∀ {ds:List Bool} {tys:List Ty},tys.all Ty.notPtr=true→∀ ty∈dT ds tys,ty.isRow=true∨ty.flatB=true∧∀ e,ty≠.ptr e
 | [],tys,h,ty,hty=>by
  unfold dT at hty;have:=List.all_eq_true.1 h ty hty;cases ty with
  | row e=>exact .inl rfl
  | deep e=>exact .inl rfl
  | ptr e=>simp [Ty.notPtr] at this
  | int k=>exact .inr ⟨rfl,fun e h=>by cases h⟩
  | bool=>exact .inr ⟨rfl,fun e h=>by cases h⟩
  | str=>exact .inr ⟨rfl,fun e h=>by cases h⟩
 | d :: ds,[],h,ty,hty=>by simp [dT] at hty
 | d :: ds,x :: tys,h,ty,hty=>by
  have h1:=List.all_eq_true.1 h x List.mem_cons_self;have h2:tys.all Ty.notPtr=true:=List.all_eq_true.2 fun y hy=>List.all_eq_true.1 h y (List.mem_cons_of_mem _ hy);cases x with
  | row e=>
   rcases List.mem_cons.1 hty with rfl | hty
   ·cases d <;> exact .inl rfl
   ·exact c7t h2 ty hty
  | ptr e=>cases h1
  | deep e=>cases h1
  | _=>
   rcases List.mem_cons.1 hty with rfl | hty
   ·exact .inr ⟨rfl,fun e h=>by cases h⟩
   ·exact c7t h2 ty hty
theorem RC.flatw {w':World} {S':Nat→Prop} {ty:Ty} {t:T} {v:Value} (hf:ty.flatB=true) (h:RC E w S ty t v):RC E w' S' ty t v:=by
 cases h with
 | int=>exact .int
 | bool=>exact .bool
 | str=>exact .str
 | nl=>cases hf
 | emp=>cases hf
 | row=>cases hf
theorem e2z {S:Nat→Prop}:∀ {ws:List Bool} {tys:List Ty} {ts:List T} {vs:List Value} {bs:List Nat},(∀ ty∈tys,ty.isRow=true∨ty.flatB=true∧∀ e,ty≠.ptr e)→d3e ws tys=true→BCs E w S ws tys ts vs bs→e8m E ws tys ts vs
 | _,[],[],[],_,_,_,_=>by unfold e8m;trivial
 | ws,ty :: tys,t :: ts,v :: vs,bs,hty,hall,⟨b1,b2,_,h1,h2⟩=>by
  obtain ⟨ha,hb⟩:=a0a hall;refine ⟨fun hr w' S'=>?_,fun hr=>?_,e2z (fun x hx=>hty x (List.mem_cons_of_mem _ hx)) hb h2⟩
  ·have hnr:ty.isRow=false:=by
    cases hi:ty.isRow
    ·rfl
    ·rw [hi] at ha hr;cases hw:ws.headD false <;> rw [hw] at ha hr
     ·cases ha
     ·simp at hr
   rcases hty ty List.mem_cons_self with hx | ⟨hx,hp⟩
   ·rw [hnr] at hx;cases hx
   ·cases ty with
    | row e=>cases hnr
    | deep e=>cases hnr
    | ptr e=>exact (hp e rfl).elim
    | int k=>cases hw:ws.headD false <;> rw [hw] at h1 <;> exact ⟨h1.1.flatw rfl,rfl⟩
    | bool=>cases hw:ws.headD false <;> rw [hw] at h1 <;> exact ⟨h1.1.flatw rfl,rfl⟩
    | str=>cases hw:ws.headD false <;> rw [hw] at h1 <;> exact ⟨h1.1.flatw rfl,rfl⟩
  ·obtain ⟨hr1,hw⟩:=a0a hr;rw [hw] at h1;cases ty with
   | row e=>
    obtain ⟨⟨es,xs,_,ho,_⟩,_⟩:=h1;rcases ho.2 with ⟨rfl,_⟩ | ⟨g,cap,cur,rfl,_⟩ <;> exact ⟨_,_,_,rfl⟩
   | deep e=>obtain ⟨es,_,hd⟩:=h1;exact hd.slice
   | _=>cases hr1
 | _,[],[],_ :: _,_,_,_,h=>h.elim
 | _,[],_ :: _,_,_,_,_,h=>h.elim
 | _,_ :: _,[],_,_,_,_,h=>h.elim
 | _,_ :: _,_ :: _,[],_,_,_,h=>h.elim
theorem f2g {t:Nat} {ws:List Bool} (h:e6q E t ws=true):E.isAgg t=true∧(E.flat t).all Ty.notPtr=true∧d3e ws (fl ws (E.flat t))=true:=by
 unfold e6q at h;obtain ⟨h1,h4⟩:=a0a h;obtain ⟨h2,h3⟩:=a0a h1;exact ⟨(a0a h2).1,h3,h4⟩
theorem AsOk.sok {S:Nat→Prop}:∀ {ws:List (List Bool)} {ts:List Nat} {ins:List Arg} {vs:List Value} {bs:List Nat},AsOk E w S ws ts ins vs bs→SOk E ws ts ins vs
 | _,[],[],[],_,_=>by unfold SOk;trivial
 | _,_ :: _,.s cs :: _,v :: _,_,⟨_,_,_,⟨us,h1,h2,h3⟩,h⟩=>by
  obtain ⟨l1,l2,l3⟩:=f2g h2;exact ⟨⟨l1,us,h1⟩,by rw [h1.vals];exact e2z (fun ty hty=>c7t l2 ty hty) l3 h3,AsOk.sok h⟩
 | _,_ :: _,.v _ :: _,_ :: _,_,⟨_,_,_,_,h⟩=>by unfold SOk;exact AsOk.sok h
 | _,_ :: _,.p _ :: _,_ :: _,_,⟨_,_,_,_,h⟩=>by unfold SOk;exact AsOk.sok h
 | _,_ :: _,.r _ :: _,_ :: _,_,⟨_,_,_,_,h⟩=>by unfold SOk;exact AsOk.sok h
 | _,_ :: _,.c _ _ :: _,_ :: _,_,⟨_,_,_,_,h⟩=>by unfold SOk;exact AsOk.sok h
 | _,[],[],_ :: _,_,h=>h.elim
 | _,[],_ :: _,_,_,h=>h.elim
 | _,_ :: _,[],_,_,h=>h.elim
 | _,_ :: _,_ :: _,[],_,h=>h.elim
def e3a (i:Nat):Nat→List Bool→List Ty→List Value→List (Nm×Value)
 | j,ws,ty :: tys,u :: us=>(bif ty.isRow&&ws.headD false then [((i,j+1),u)] else [])++e3a i (j+1) ws.tail tys us
 | _,_,_,_=>[]
def a2e (E:Env):Nat→List (List Bool)→List Nat→List Arg→List Value→List (Nm×Value)
 | i,ws,t :: ts,.p _ :: r,v :: vs=>((i,0),v) :: a2e E (i+1) ws.tail ts r vs
 | i,ws,t :: ts,.r _ :: r,v :: vs=>((i,0),v) :: a2e E (i+1) ws.tail ts r vs
 | i,ws,t :: ts,.v _ :: r,_ :: vs=>a2e E (i+1) ws.tail ts r vs
 | i,ws,t :: ts,.s _ :: r,v :: vs=>e3a i 0 (ws.headD []) (fl (ws.headD []) (E.flat t)) (c7s E t v)++a2e E (i+1) ws.tail ts r vs
 | i,ws,t :: ts,.c _ none :: r,_ :: vs=>a2e E (i+1) ws.tail ts r vs
 | i,ws,t :: ts,.c _ (some _) :: r,v :: vs=>((i,0),f4g v) :: a2e E (i+1) ws.tail ts r vs
 | _,_,_,_,_=>[]
def g0f (E:Env) (env:Names) (i:Nat) (ws:List (List Bool)) (ts:List Nat) (ins:List Arg) (vs:List Value):Prop:=∀ n v,(n,v)∈a2e E i ws ts ins vs→env n=some v
theorem e5e {L:List Nat} (h:Heap E β L m env w) {n:Nm} {v:Value} (hv:env n=some v) {ws:List Bool} {e:Nat} {t:T} {m':Mem} {p p':FP} (hp:(b9h E true (b0d ws e) (.ref n)).ev m p=some (t,m',p')):∃ a l c,v=.slice a l c:=by
 unfold b0d at hp;cases hw:ws.headD false with
 | true=>
  rw [hw] at hp;simp only [cond_true,b9h,M.ev] at hp;split at hp
  ·rename_i e' es hn;obtain ⟨v',h1,h2⟩:=h.deepDC hn;rw [hv] at h1;cases h1;exact h2.slice
  ·simp [M.ev] at hp
 | false=>
  rw [hw] at hp;simp only [cond_false,b9h] at hp;obtain ⟨_,m6,p6,hlow,h1⟩:=M.bind_some hp;obtain ⟨g1,g2⟩:=h.lowD hlow;obtain ⟨⟨e',d,es⟩,m5,p5,hr5,hq5⟩:=M.bind_some h1;obtain ⟨hn,_⟩:=M.g5v hr5;obtain ⟨v',h1,h2⟩:=g1.rowOf hn;rw [hv] at h1;cases h1;rcases h2 with ⟨rfl,_⟩ | ⟨g,cap,rfl,_⟩ <;> exact ⟨_,_,_,rfl⟩
theorem e8n {i:Nat}:∀ {j:Nat} {ws:List Bool} {tys:List Ty} {cs:List T} {us:List Value} {L:List Nat} {m m':Mem} {p p':FP} {out:List T},Heap E β L m env w→e8m E ws tys cs us→(∀ n v,(n,v)∈e3a i j ws tys us→env n=some v)→
  (f7q E i j ws tys cs).ev m p=some (out,m',p')→∃ bs,Heap E β (L++bs) m' env w∧Prog β env w L m (L++bs) m'∧BCs E w (a0b β (L++bs) m' env w) ws tys out us bs
 | j,ws,[],[],[],L,m,m',p,p',out,h,_,_,hp=>by
  unfold f7q at hp;cases hp;exact ⟨[],by simpa using h,by simpa using Prog.refl β env w L m,by unfold BCs;rfl⟩
 | j,ws,ty :: tys,c :: cs,u :: us,L,m,m',p,p',out,h,hf,hpin,hp=>by
  unfold f7q at hp;obtain ⟨t,m1,p1,h1,hq⟩:=M.bind_some hp;obtain ⟨ts,m2,p2,h2,hq2⟩:=M.bind_some hq;cases hq2;obtain ⟨f1,fr,f2⟩:=hf;have key:∃ b1,Heap E β (L++b1) m1 env w∧Prog β env w L m (L++b1) m1∧BC E w (a0b β (L++b1) m1 env w) (ws.headD false) ty t u b1:=by
   cases hr:(ty.isRow&&ws.headD false) with
   | true=>
    rw [hr] at h1;obtain ⟨_,hw⟩:=a0a hr;rw [hw];have hv:env (i,j+1)=some u:=hpin _ _ (by unfold e3a;rw [hr];exact List.mem_append_left _ List.mem_cons_self);exact a7p h (show RV1 E env w (a0b β L m env w) (.ref (i,j+1)) u from ⟨hv,fr hr⟩) h1
   | false=>
    rw [hr] at h1;cases h1;exact ⟨[],by simpa using h,by simpa using Prog.refl β env w L m,f1 hr _ _⟩
  obtain ⟨b1,g1,g2,g3⟩:=key;obtain ⟨b2,k1,k2,k3⟩:=e8n g1 f2 (fun n v hn=>hpin n v (by unfold e3a;exact List.mem_append_right _ hn)) h2;rw [List.append_assoc] at k1 k2 k3;exact ⟨b1++b2,k1,g2.trans k2,b1,b2,rfl,g3.wide (fun b hb=>(k2.still b hb).1),k3⟩
 | _,_,[],[],_ :: _,_,_,_,_,_,_,_,hf,_,_=>hf.elim
 | _,_,[],_ :: _,_,_,_,_,_,_,_,_,hf,_,_=>hf.elim
 | _,_,_ :: _,[],_,_,_,_,_,_,_,_,hf,_,_=>hf.elim
 | _,_,_ :: _,_ :: _,[],_,_,_,_,_,_,_,hf,_,_=>hf.elim
theorem a8u:∀ {i:Nat} {ws:List (List Bool)} {ts:List Nat} {ins:List Arg} {args:List Value} {L:List Nat} {m m':Mem} {p p':FP} {out:List (List T)},Heap E β L m env w→b5q ins args→SOk E ws ts ins args→g0f E env i ws ts ins args→args.length=ins.length→(a5d E i ws ts ins).ev m p=some (out,m',p')→
  ∃ bs,Heap E β (L++bs) m' env w∧Prog β env w L m (L++bs) m'∧VOk E w (a0b β (L++bs) m' env w) ws ts ins args out bs
 | i,ws,[],[],[],L,m,m',p,p',out,h,hc,hso,hpin,hl,hp=>by
  unfold a5d at hp;cases hp;exact ⟨[],by simpa using h,by simpa using Prog.refl β env w L m,by unfold VOk;rfl⟩
 | i,ws,t :: ts,.p c0 :: ins,v :: args,L,m,m',p,p',out,h,hc,hso,hpin,hl,hp=>by
  unfold a5d at hp;obtain ⟨cs,m0,p0,h0,hq0⟩:=M.bind_some hp;obtain ⟨hn,rfl⟩:=M.g5w h0;obtain ⟨c,m1,p1,h1,hq1⟩:=M.bind_some hq0;obtain ⟨cs2,m2,p2,h2,hq2⟩:=M.bind_some hq1;obtain ⟨hn2,rfl⟩:=M.g5w h2;obtain ⟨p3,hq3⟩:=M.g6l hq2;obtain ⟨out',m4,p4,h4,hq4⟩:=M.bind_some hq3;cases hq4;obtain ⟨b,cv,el,hb,hheap,hsol,hrv⟩:=h.obj (i,0) _ hn;have hvv:v=.pointer (some ⟨b,0,none⟩):=by have:=(hpin _ _ List.mem_cons_self).symm.trans hb;cases this;rfl
  obtain ⟨b1,g1,g2,g3⟩:=b0i h hrv h1;obtain ⟨k1,k2⟩:=g1.lendVar hn2 hb;obtain ⟨b2,f1,f2,f3⟩:=a8u k1 (show b5q ins args from hc) (show SOk E ws.tail ts ins args from hso) (fun n v hn=>hpin n v (List.mem_cons_of_mem _ hn)) (by simpa using hl) h4;have hassoc:L++b1++[b]++b2=L++(b1++b :: b2):=by simp
  rw [hassoc] at f1 f2 f3;exact ⟨b1++b :: b2,f1,g2.trans (k2.trans f2),b,cv,el,b1,b2,hvv,hheap,g3.wide fun x hx=>(f2.still x (k2.still x hx).1).1,rfl,f3⟩
 | i,ws,t :: ts,.v c0 :: ins,v :: args,L,m,m',p,p',out,h,hc,hso,hpin,hl,hp=>by
  unfold a5d at hp;obtain ⟨bs,g1,g2,g3⟩:=a8u (i:=i+1) h (show b5q ins args from hc) (show SOk E ws.tail ts ins args from hso) hpin (by simpa using hl) hp;exact ⟨bs,g1,g2,by unfold VOk;exact g3⟩
 | i,ws,t :: ts,.r es :: ins,v :: args,L,m,m',p,p',out,h,hc,hso,hpin,hl,hp=>by
  unfold a5d at hp;split at hp
  ·rename_i e hft;obtain ⟨c,m1,p1,h1,hq1⟩:=M.bind_some hp;obtain ⟨out',m4,p4,h4,hq4⟩:=M.bind_some hq1;cases hq4;have hrow:∃ a l c,v=.slice a l c:=e5e h (hpin _ _ List.mem_cons_self) h1;have hrv1:RV1 E env w (a0b β L m env w) (.ref (i,0)) v:=⟨(hpin _ _ List.mem_cons_self),hrow⟩;obtain ⟨b1,g1,g2,g3⟩:=a7p h hrv1 h1;obtain ⟨b2,f1,f2,f3⟩:=a8u g1 (show b5q ins args from hc) (show SOk E ws.tail ts ins args from hso) (fun n v hn=>hpin n v (List.mem_cons_of_mem _ hn)) (by simpa using hl) h4;rw [List.append_assoc] at f1 f2 f3;exact ⟨b1++b2,f1,g2.trans f2,e,c,b1,b2,hft,rfl,g3.wide fun x hx=>(f2.still x hx).1,rfl,f3⟩
  ·cases hp
 | i,ws,t :: ts,.s cs :: ins,v :: args,L,m,m',p,p',out,h,hc,hso,hpin,hl,hp=>by
  unfold a5d at hp;obtain ⟨c,m1,p1,h1,hq1⟩:=M.bind_some hp;obtain ⟨out',m4,p4,h4,hq4⟩:=M.bind_some hq1;cases hq4;obtain ⟨⟨_,us,hsh⟩,hfl,hso'⟩:=hso;obtain ⟨b1,g1,g2,g3⟩:=e8n h hfl (fun n v hn=>hpin n v (List.mem_append_left _ hn)) h1;obtain ⟨b2,f1,f2,f3⟩:=a8u g1 (show b5q ins args from hc) hso' (fun n v hn=>hpin n v (List.mem_append_right _ hn)) (by simpa using hl) h4;rw [List.append_assoc] at f1 f2 f3;exact ⟨b1++b2,f1,g2.trans f2,c7s E t v,b1,b2,hsh.of_vals,g3.wide fun x hx=>(f2.still x hx).1,rfl,f3⟩
 | i,ws,t :: ts,.c _ none :: ins,v :: args,L,m,m',p,p',out,h,hc,hso,hpin,hl,hp=>by
  unfold a5d at hp;obtain ⟨bs,g1,g2,g3⟩:=a8u (i:=i+1) h (show b5q ins args from hc) (show SOk E ws.tail ts ins args from hso) hpin (by simpa using hl) hp;exact ⟨bs,g1,g2,by unfold VOk;exact g3⟩
 | i,ws,t :: ts,.c f (some c0) :: ins,v :: args,L,m,m',p,p',out,h,hc,hso,hpin,hl,hp=>by
  unfold a5d at hp;obtain ⟨cs,m0,p0,h0,hq0⟩:=M.bind_some hp;obtain ⟨hn,rfl⟩:=M.g5w h0;obtain ⟨c,m1,p1,h1,hq1⟩:=M.bind_some hq0;obtain ⟨cs2,m2,p2,h2,hq2⟩:=M.bind_some hq1;obtain ⟨hn2,rfl⟩:=M.g5w h2;obtain ⟨p3,hq3⟩:=M.g6l hq2;obtain ⟨out',m4,p4,h4,hq4⟩:=M.bind_some hq3;cases hq4;obtain ⟨b,cv,el,hb,hheap,hsol,hrv⟩:=h.obj (i,0) _ hn;have hvv:f4g v=.pointer (some ⟨b,0,none⟩):=Option.some.inj ((hpin _ _ List.mem_cons_self).symm.trans hb);obtain ⟨b1,g1,g2,g3⟩:=b0i h hrv h1;obtain ⟨k1,k2⟩:=g1.lendVar hn2 hb;obtain ⟨b2,f1,f2,f3⟩:=a8u k1 hc.2 (show SOk E ws.tail ts ins args from hso) (fun n v hn=>hpin n v (List.mem_cons_of_mem _ hn)) (by simpa using hl) h4;have hassoc:L++b1++[b]++b2=L++(b1++b :: b2):=by simp
  rw [hassoc] at f1 f2 f3;exact ⟨b1++b :: b2,f1,g2.trans (k2.trans f2),b,cv,el,b1,b2,(by obtain ⟨q,rfl⟩:=hc.1;exact congrArg (fun x=>Value.func (.func f) #[] #[x]) hvv),hheap,g3.wide fun x hx=>(f2.still x (k2.still x hx).1).1,rfl,f3⟩
 | _,_,[],_ :: _,_,_,_,_,_,_,_,_,_,_,_,_,hp=>by unfold a5d at hp;cases hp
 | _,_,_ :: _,[],_,_,_,_,_,_,_,_,_,_,_,_,hp=>by unfold a5d at hp;cases hp
 | _,_,_ :: _,_ :: _,[],_,_,_,_,_,_,_,_,_,_,hl,_=>by simp at hl
 | _,_,[],[],_ :: _,_,_,_,_,_,_,_,_,_,_,hl,_=>by simp at hl
theorem AsOk.len {S:Nat→Prop}:∀ {ws:List (List Bool)} {ts:List Nat} {ins:List Arg} {vs:List Value} {bs:List Nat},AsOk E w S ws ts ins vs bs→vs.length=ts.length∧ins.length=ts.length
 | _,[],[],[],_,_=>⟨rfl,rfl⟩
 | _,_ :: _,_ :: _,_ :: _,_,⟨_,_,_,_,h⟩=>by have:=AsOk.len h;simp [this]
 | _,[],[],_ :: _,_,h=>h.elim
 | _,[],_ :: _,_,_,h=>h.elim
 | _,_ :: _,[],_,_,h=>h.elim
 | _,_ :: _,_ :: _,[],_,h=>h.elim
theorem c7u {s:Nat}:∀ {j:Nat} {ws:List Bool} {tys:List Ty} {cs:List T} {as:List A} {us:List Value} {m m':Mem} {p p':FP},(a8o E s 0 j ws tys cs).ev m p=some (as,m',p')→RVs E env w S as us→∀ n v,(n,v)∈e3a s j ws tys us→env n=some v
 | j,ws,[],cs,as,us,m,m',p,p',h,hv=>fun n v hn=>by simp [e3a] at hn
 | j,ws,ty :: tys,cs,as,[],m,m',p,p',h,hv=>fun n v hn=>by simp [e3a] at hn
 | j,ws,ty :: tys,cs,as,u :: us,m,m',p,p',h,hv=>by
  unfold a8o at h;obtain ⟨a1,m1,p1,h1,hq⟩:=M.bind_some h;obtain ⟨r,m2,p2,h2,hq2⟩:=M.bind_some hq;cases hq2;intro n v hn;unfold e3a at hn;rcases List.mem_append.1 hn with hn | hn
  ·cases hr:(ty.isRow&&ws.headD false) with
   | false=>rw [hr] at hn;simp at hn
   | true=>
    rw [hr] at hn;simp at hn;obtain ⟨rfl,rfl⟩:=hn;obtain ⟨hr1,hw⟩:=a0a hr;rw [hw] at h1;have ha:a1=.ref (s,j+1):=by
     cases ty with
     | row e=>obtain ⟨_,m3,p3,_,hq3⟩:=M.bind_some h1;cases hq3;simp
     | deep e=>obtain ⟨_,m3,p3,_,hq3⟩:=M.bind_some h1;cases hq3;simp
     | _=>cases hr1
    subst ha;exact hv.1.1
  ·exact c7u h2 hv.2 n v hn
theorem a8v:∀ {i:Nat} {ws:List (List Bool)} {ts:List Nat} {ins:List Arg} {vs:List Value} {as:List A} {m m':Mem} {p p':FP},(enter E i ws ts ins).ev m p=some (as,m',p')→RV2s E env w S as vs→SOk E ws ts ins vs→g0f E env i ws ts ins vs
 | _,_,[],[],vs,as,m,m',p,p',h,hv,hso=>fun n v hn=>by simp [a2e] at hn
 | i,ws,t :: ts,.v cs :: ins,vs,as,m,m',p,p',h,hv,hso=>by
  unfold enter at h;obtain ⟨as1,m1,p1,h1,hq⟩:=M.bind_some h;obtain ⟨r,m2,p2,h2,hq2⟩:=M.bind_some hq;cases hq2;cases vs with
  | nil=>exact hv.elim
  | cons v vs=>exact a8v (i:=i+1) h2 hv.2 (show SOk E ws.tail ts ins vs from hso)
 | i,ws,t :: ts,.s cs :: ins,vs,as,m,m',p,p',h,hv,hso=>by
  unfold enter at h;obtain ⟨as1,m1,p1,h1,hq⟩:=M.bind_some h;obtain ⟨r,m2,p2,h2,hq2⟩:=M.bind_some hq;cases hq2;cases vs with
  | nil=>exact hv.elim
  | cons v vs=>
   obtain ⟨⟨ha,us,hsh⟩,hfl,hso'⟩:=hso;intro n u hn;rcases List.mem_append.1 hn with hn | hn
   ·refine c7u (w:=w) (S:=S) h1 ?_ n u hn;rw [hsh.vals];have hv1:=hv.1;unfold Shape at hsh;unfold b1x at hv1;rw [ha] at hsh hv1;obtain ⟨arr,rfl,rfl⟩:=hsh;obtain ⟨vs',e1,_,e2⟩:=hv1;cases e1;exact e2
   ·exact a8v (i:=i+1) h2 hv.2 hso' n u hn
 | i,ws,t :: ts,.p cs :: ins,vs,as,m,m',p,p',h,hv,hso=>by
  unfold enter at h;obtain ⟨as1,m1,p1,h1,hq⟩:=M.bind_some h;obtain ⟨_,m3,p3,h3,hq3⟩:=M.bind_some hq;obtain ⟨r,m2,p2,h2,hq2⟩:=M.bind_some hq3;cases hq2;cases vs with
  | nil=>exact hv.elim
  | cons v vs=>
   intro n u hn;rcases List.mem_cons.1 hn with hn | hn
   ·cases hn;obtain ⟨b,e1,e2⟩:=hv.1;rw [e1,e2]
   ·exact a8v (i:=i+1) h2 hv.2 (show SOk E ws.tail ts ins vs from hso) n u hn
 | i,ws,t :: ts,.r es :: ins,vs,as,m,m',p,p',h,hv,hso=>by
  unfold enter at h;split at h
  ·obtain ⟨_,m3,p3,h3,hq3⟩:=M.bind_some h;obtain ⟨r,m2,p2,h2,hq2⟩:=M.bind_some hq3;cases hq2;cases vs with
   | nil=>exact hv.elim
   | cons v vs=>
    intro n u hn;rcases List.mem_cons.1 hn with hn | hn
    ·cases hn;exact hv.1.1
    ·exact a8v (i:=i+1) h2 hv.2 (show SOk E ws.tail ts ins vs from hso) n u hn
  ·cases h
 | i,ws,_ :: ts,.c f none :: ins,vs,as,m,m',p,p',h,hv,hso=>by
  unfold enter at h;obtain ⟨r,m2,p2,h2,hq2⟩:=M.bind_some h;cases hq2;cases vs with
  | nil=>exact hv.elim
  | cons v vs=>exact a8v (i:=i+1) h2 hv.2 (show SOk E ws.tail ts ins vs from hso)
 | i,ws,_ :: ts,.c f (some cs) :: ins,vs,as,m,m',p,p',h,hv,hso=>by
  unfold enter at h;obtain ⟨as1,m1,p1,h1,hq⟩:=M.bind_some h;obtain ⟨_,m3,p3,h3,hq3⟩:=M.bind_some hq;obtain ⟨r,m2,p2,h2,hq2⟩:=M.bind_some hq3;cases hq2;cases vs with
  | nil=>exact hv.elim
  | cons v vs=>
   intro n u hn;rcases List.mem_cons.1 hn with hn | hn
   ·cases hn;obtain ⟨b,e1,e2⟩:=hv.1;rw [e1,e2];rfl
   ·exact a8v (i:=i+1) h2 hv.2 (show SOk E ws.tail ts ins vs from hso) n u hn
 | _,_,[],_ :: _,_,_,_,_,_,_,h,_,_=>by unfold enter at h;cases h
 | _,_,_ :: _,[],_,_,_,_,_,_,h,_,_=>by unfold enter at h;cases h
theorem c2i:∀ {i:Nat} {ws:List (List Bool)} {ts:List Nat} {ins:List Arg} {vs:List Value},noS ins=true→∀ n v,(n,v)∈a2e E i ws ts ins vs→∃ k,k∈b9r i ins∧n=(k,0)
 | i,ws,t :: ts,.p _ :: r,v :: vs,hs,n,u,hn=>by
  rcases List.mem_cons.1 hn with hn | hn
  ·cases hn;exact ⟨i,List.mem_cons_self,rfl⟩
  ·obtain ⟨k,h1,h2⟩:=c2i (show noS r=true from hs) n u hn;exact ⟨k,List.mem_cons_of_mem _ h1,h2⟩
 | i,ws,t :: ts,.r _ :: r,v :: vs,hs,n,u,hn=>by
  rcases List.mem_cons.1 hn with hn | hn
  ·cases hn;exact ⟨i,List.mem_cons_self,rfl⟩
  ·obtain ⟨k,h1,h2⟩:=c2i (show noS r=true from hs) n u hn;exact ⟨k,List.mem_cons_of_mem _ h1,h2⟩
 | i,ws,t :: ts,.v _ :: r,v :: vs,hs,n,u,hn=>c2i (i:=i+1) (show noS r=true from hs) n u hn
 | i,ws,t :: ts,.s _ :: r,v :: vs,hs,n,u,hn=>by cases hs
 | i,ws,t :: ts,.c _ none :: r,v :: vs,hs,n,u,hn=>c2i (i:=i+1) (show noS r=true from hs) n u hn
 | i,ws,t :: ts,.c _ (some _) :: r,v :: vs,hs,n,u,hn=>by
  rcases List.mem_cons.1 hn with hn | hn
  ·cases hn;exact ⟨i,List.mem_cons_self,rfl⟩
  ·obtain ⟨k,h1,h2⟩:=c2i (show noS r=true from hs) n u hn;exact ⟨k,List.mem_cons_of_mem _ h1,h2⟩
 | _,_,[],_,_,_,_,_,hn=>by simp [a2e] at hn
 | _,_,_ :: _,[],_,_,_,_,hn=>by simp [a2e] at hn
 | _,_,_ :: _,.p _ :: _,[],_,_,_,hn=>by simp [a2e] at hn
 | _,_,_ :: _,.r _ :: _,[],_,_,_,hn=>by simp [a2e] at hn
 | _,_,_ :: _,.v _ :: _,[],_,_,_,hn=>by simp [a2e] at hn
 | _,_,_ :: _,.s _ :: _,[],_,_,_,hn=>by simp [a2e] at hn
 | _,_,_ :: _,.c _ none :: _,[],_,_,_,hn=>by simp [a2e] at hn
 | _,_,_ :: _,.c _ (some _) :: _,[],_,_,_,hn=>by simp [a2e] at hn
end
end Go.Proofs.Ytdbopobkdpmpgaa.Ev
