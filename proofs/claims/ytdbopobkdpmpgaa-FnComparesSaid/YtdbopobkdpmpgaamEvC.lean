/- Calls, on the caller's side and on the callee's: what is handed over and comes back. No condition. -/
import Derived.Test.YtdbopobkdpmpgaamEvB
namespace Go.Proofs.Ytdbopobkdpmpgaa.Ev
open Go
set_option linter.unusedVariables false
section
variable {E:Env} {β:Base} {L:List Nat} {m:Mem} {env:Names} {w w':World}
theorem b0i:∀ {ws:List Bool} {tys:List Ty} {as:List A} {vs:List Value} {L:List Nat} {m:Mem} {ts:List T} {m':Mem} {p p':FP},Heap E β L m env w→RVs E env w (a0b β L m env w) as vs→
  (b5v E ws tys as).ev m p=some (ts,m',p')→∃ bs,Heap E β (L++bs) m' env w∧Prog β env w L m (L++bs) m'∧BCs E w (a0b β (L++bs) m' env w) ws tys ts vs bs
 | ws,[],[],[],L,m,ts,m',p,p',h,_,hp=>by
  unfold b5v at hp;cases hp;exact ⟨[],by simpa using h,by simpa using Prog.refl β env w L m,by unfold BCs;rfl⟩
 | _,[],[],_ :: _,_,_,_,_,_,_,_,hv,_=>hv.elim
 | ws,ty :: tys,a :: as,v :: vs,L,m,ts,m',p,p',h,hv,hp=>by
  unfold b5v at hp;obtain ⟨t,m1,p1,h1,hq⟩:=M.bind_some hp;obtain ⟨ts',m2,p2,h2,hq2⟩:=M.bind_some hq;cases hq2;obtain ⟨b1,g1,g2,g3⟩:=a7p h hv.1 h1;obtain ⟨b2,k1,k2,k3⟩:=b0i g1 (hv.2.mono (Names.le_refl _) g2.still) h2;rw [List.append_assoc] at k1 k2 k3;exact ⟨b1++b2,k1,g2.trans k2,b1,b2,rfl,g3.wide (fun b hb=>(k2.still b hb).1),k3⟩
 | _,_ :: _,_ :: _,[],_,_,_,_,_,_,_,hv,_=>hv.elim
 | _,[],_ :: _,_,_,_,_,_,_,_,_,_,hp=>by unfold b5v at hp;cases hp
 | _,_ :: _,[],_,_,_,_,_,_,_,_,_,hp=>by unfold b5v at hp;cases hp
def A.names:A→Nm→Prop
 | .ref n,x=>x=n
 | .cut n _ _ _,x=>x=n
 | _,_=>False
theorem e7c (h:Heap E β L m env w) {ty:Ty} {a:A} {v:Value} (hv:RV1 E env w (a0b β L m env w) a v) {t:T} {m':Mem} {p p':FP}
  (hp:(e2b E ty a).ev m p=some (t,m',p')) :
  m=m'∧∀ S:Nat→Prop,(∀ b,a0b β L m env w b→S b)→(∀ n b,a.names n→owns m env n b→S b)→RC E w S ty t v:=by
 unfold e2b at hp;split at hp
 ·obtain ⟨hk,hq⟩:=M.g5z hp;clear hp;cases b1c hk;cases hq;refine ⟨rfl,fun S _ _=>?_⟩;rw [show v=_ from hv];exact .int
 ·cases hp;refine ⟨rfl,fun S _ _=>?_⟩;rw [show v=_ from hv];exact .bool
 ·cases hp;refine ⟨rfl,fun S _ _=>?_⟩;rw [show v=_ from hv];exact .str
 ·cases hp;refine ⟨rfl,fun S _ _=>?_⟩;rw [show v=_ from hv];exact .nl
 ·obtain ⟨hk,hq⟩:=M.g5z hp;clear hp;cases Nat.eq_of_beq_eq_true hk;cases hq;exact ⟨rfl,fun S hS _=>RC.wide hS hv⟩
 ·rename_i e n;obtain ⟨⟨e',es⟩,m1,p1,hr,hq⟩:=M.bind_some hp;clear hp;obtain ⟨rfl,hn⟩:=M.g6k hr;obtain ⟨hk,hq1⟩:=M.g5z hq;clear hq;cases Nat.eq_of_beq_eq_true hk;cases hq1;exact ⟨rfl,fun S hS hnS=>h.seeV hS hn (fun b hb=>hnS n b rfl hb) hv.1⟩
 ·rename_i e n e₁ f l;obtain ⟨⟨e',d,es⟩,m1,p1,hr,hq⟩:=M.bind_some hp;clear hp;obtain ⟨hn,rfl⟩:=M.g5v hr;obtain ⟨hk,hq1⟩:=M.g5z hq;clear hq;obtain ⟨hk1,hk2⟩:=a0a hk;cases Nat.eq_of_beq_eq_true hk1;cases Nat.eq_of_beq_eq_true hk2;cases hq1;exact ⟨rfl,fun S hS hnS=>(h.seeCut hS hn (fun b hb=>hnS n b rfl hb) hv).2⟩
 ·cases hp
theorem f1h {S:Nat→Prop} {ty:Ty} {t:T} {v:Value} (h:RC E w S ty t v):BC E w S false ty t v []:=⟨h,rfl⟩
theorem d3q:∀ {ws:List Bool} {tys:List Ty} {as:List A} {vs:List Value} {L:List Nat} {m:Mem} {ts:List T} {m':Mem} {p p':FP},Heap E β L m env w→RVs E env w (a0b β L m env w) as vs→
  (b9i E ws tys as).ev m p=some (ts,m',p')→∃ bs,Heap E β (L++bs) m' env w∧Prog β env w L m (L++bs) m'∧
   ∀ S:Nat→Prop,(∀ b,a0b β (L++bs) m' env w b→S b)→(∀ n,n∈c3h ws as→∀ b,owns m env n b→S b)→BCs E w S ws tys ts vs bs
 | ws,[],[],[],L,m,ts,m',p,p',h,_,hp=>by
  unfold b9i at hp;cases hp;exact ⟨[],by simpa using h,by simpa using Prog.refl β env w L m,fun _ _ _=>by unfold BCs;rfl⟩
 | _,[],[],_ :: _,_,_,_,_,_,_,_,hv,_=>hv.elim
 | ws,ty :: tys,a :: as,v :: vs,L,m,ts,m',p,p',h,hv,hp=>by
  unfold b9i at hp;obtain ⟨t,m1,p1,h1,hq⟩:=M.bind_some hp;obtain ⟨ts',m2,p2,h2,hq2⟩:=M.bind_some hq;cases hq2;cases hw:ws.headD false with
  | true=>
   rw [hw] at h1;obtain ⟨b1,g1,g2,g3⟩:=a7p h hv.1 h1;obtain ⟨b2,k1,k2,k3⟩:=d3q g1 (hv.2.mono (Names.le_refl _) g2.still) h2;rw [List.append_assoc] at k1 k2 k3;refine ⟨b1++b2,k1,g2.trans k2,fun S hS hn=>⟨b1,b2,rfl,?_,k3 S hS fun n hn' b hb=>hn n ?_ b (g2.own n b hb)⟩⟩
   ·rw [hw];exact g3.wide fun b hb=>hS b (k2.still b hb).1
   ·unfold c3h;rw [hw];exact hn'
  | false=>
   rw [hw] at h1;obtain ⟨rfl,g3⟩:=e7c h hv.1 h1;obtain ⟨b2,k1,k2,k3⟩:=d3q h hv.2 h2;refine ⟨b2,k1,k2,fun S hS hn=>⟨[],b2,rfl,?_,k3 S hS fun n hn' b hb=>hn n ?_ b hb⟩⟩
   ·rw [hw];refine f1h (g3 S (fun b hb=>hS b (k2.still b hb).1) fun n b hnm hb=>hn n ?_ b hb);unfold c3h;rw [hw];cases a <;> simp only [A.names] at hnm <;> first | exact hnm.elim | (subst hnm;exact List.mem_cons_self)
   ·unfold c3h;rw [hw];cases a <;> first | exact hn' | exact List.mem_cons_of_mem _ hn'
 | _,_ :: _,_ :: _,[],_,_,_,_,_,_,_,hv,_=>hv.elim
 | _,[],_ :: _,_,_,_,_,_,_,_,_,_,hp=>by unfold b9i at hp;cases hp
 | _,_ :: _,[],_,_,_,_,_,_,_,_,_,hp=>by unfold b9i at hp;cases hp
def Shape (E:Env) (t:Nat) (v:Value) (vs:List Value):Prop:=
 match E.isAgg t with
 | true=>∃ arr,v=.agg arr∧vs=arr.toList
 | false=>vs=[v]
def AOk (E:Env) (w:World) (S:Nat→Prop) (ws:List Bool) (t:Nat):Arg→Value→List Nat→Prop
 | .v cs,v,bs=>∃ vs,Shape E t v vs∧BCs E w S ws (fl ws (E.flat t)) cs vs bs
 | .p cs,v,bs=>∃ b vs el b1,v=.pointer (some ⟨b,0,none⟩)∧w.heap[b]?=some (.cells vs el (0,0))∧BCs E w S ws (fl ws (E.flat (E.elem t))) cs vs.toList b1∧bs=b1++[b]
 | .s cs,v,bs=>∃ vs,Shape E t v vs∧e6q E t ws=true∧BCs E w S ws (fl ws (E.flat t)) cs vs bs
 | .r es,v,bs=>∃ e,E.flat t=[.row e]∧BC E w S true (b0d ws e) (.r es) v bs
 | .c f none,v,bs=>v=.func (.func f) #[] #[]∧bs=[]
 | .c f (some cs),v,bs=>∃ b vs el b1,v=.func (.func f) #[] #[.pointer (some ⟨b,0,none⟩)]∧w.heap[b]?=some (.cells vs el (0,0))∧BCs E w S [] (E.flat (E.fe f)) cs vs.toList b1∧bs=b1++[b]
def AsOk (E:Env) (w:World) (S:Nat→Prop):List (List Bool)→List Nat→List Arg→List Value→List Nat→Prop
 | _,[],[],[],bs=>bs=[]
 | ws,t :: ts,a :: as,v :: vs,bs=>∃ b1 b2,bs=b1++b2∧AOk E w S (ws.headD []) t a v b1∧AsOk E w S ws.tail ts as vs b2
 | _,_,_,_,_=>False
theorem AOk.wide {S S':Nat→Prop} (hS:∀ b,S b→S' b) {ws:List Bool} {t:Nat} {a:Arg} {v:Value} {bs:List Nat} (h:AOk E w S ws t a v bs):AOk E w S' ws t a v bs:=by
 cases a with
 | v cs=>obtain ⟨vs,h1,h2⟩:=h;exact ⟨vs,h1,h2.wide hS⟩
 | p cs=>obtain ⟨b,vs,el,b1,h1,h2,h3,h4⟩:=h;exact ⟨b,vs,el,b1,h1,h2,h3.wide hS,h4⟩
 | c f o=>cases o with
  | none=>exact h
  | some cs=>obtain ⟨b,vs,el,b1,h1,h2,h3,h4⟩:=h;exact ⟨b,vs,el,b1,h1,h2,h3.wide hS,h4⟩
 | r es=>obtain ⟨e,h1,h2⟩:=h;exact ⟨e,h1,h2.wide hS⟩
 | s cs=>obtain ⟨vs,h1,h2,h3⟩:=h;exact ⟨vs,h1,h2,h3.wide hS⟩
def BackOk (env:Names) (m:Mem):List Bool→List Ty→List A→List Value→Prop
 | ws,ty :: tys,a :: as,v :: vs=>((ty.isRow&&ws.headD false)=true→(∃ n,a=.ref n∧env n=some v∧m n=some .dead)∨((∀ n,a≠.ref n)∧v=.slice none 0 0))∧BackOk env m ws.tail tys as vs
 | _,[],[],[]=>True
 | _,_,_,_=>False
def LOk (E:Env) (env:Names) (m:Mem):List (List Bool)→List Nat→List Arg→List Value→List Lent→Prop
 | _,[],[],[],l=>l=[]
 | ws,t :: ts,.v _ :: as,_ :: vs,l=>LOk E env m ws.tail ts as vs l
 | ws,t :: ts,.p _ :: as,v :: vs,l=>∃ x l',l=x :: l'∧x.ws=ws.headD []∧x.tys=fl (ws.headD []) (E.flat (E.elem t))∧x.row=false∧x.as=none∧env x.n=some v∧m x.n=some .dead∧LOk E env m ws.tail ts as vs l'
 | ws,t :: ts,.r _ :: as,v :: vs,l=>∃ x l' e,l=x :: l'∧E.flat t=[.row e]∧x.ws=[true]∧x.tys=[b0d (ws.headD []) e]∧x.row=true∧x.as=none∧env x.n=some v∧m x.n=some .dead∧LOk E env m ws.tail ts as vs l'
 | ws,t :: ts,.s _ :: as,v :: vs,l=>∃ x l' cs us,l=x :: l'∧x.ws=ws.headD []∧x.tys=fl (ws.headD []) (E.flat t)∧x.row=false∧x.as=some cs∧Shape E t v us∧BackOk env m x.ws x.tys cs us∧LOk E env m ws.tail ts as vs l'
 | ws,t :: ts,.c f none :: as,_ :: vs,l=>LOk E env m ws.tail ts as vs l
 | ws,t :: ts,.c f (some _) :: as,v :: vs,l=>∃ x l' b,l=x :: l'∧x.ws=[]∧x.tys=E.flat (E.fe f)∧x.row=false∧x.as=none∧env x.n=some (.pointer (some ⟨b,0,none⟩))∧v=.func (.func f) #[] #[.pointer (some ⟨b,0,none⟩)]∧m x.n=some .dead∧LOk E env m ws.tail ts as vs l'
 | _,_,_,_,_=>False
theorem c5q {a:A} {t:Nat} {v:Value} {S:Nat→Prop} (hf:a.fits E t=true) (hv:RV2 E env w S a v):∃ vs,Shape E t v vs∧RVs E env w S a.cells vs:=by
 unfold Shape;cases a with
 | agg cs=>
  obtain ⟨arr,rfl,_,hr⟩:=hv;simp only [A.fits,Bool.and_eq_true] at hf;rw [hf.1];exact ⟨arr.toList,⟨arr,rfl,rfl⟩,hr⟩
 | tup cs=>cases hf
 | _=>
  simp only [A.fits,Bool.and_eq_true,Bool.not_eq_true'] at hf;rw [hf.1];rw [c2d rfl] at hv;exact ⟨[v],rfl,hv,trivial⟩
theorem M.g6l {α:Type} {n:Nm} {o:O} {k:M α} {m:Mem} {p:FP} {q:α×Mem×FP} (h:(M.set n o k).ev m p=some q):∃ p',k.ev (m.put n o) p'=some q:=⟨_,h⟩
theorem f1i {t e:Nat} (h:E.pel t=some e):E.elem t=e:=by
 unfold Env.pel at h;unfold Env.elem;split at h <;> first | (rename_i hk;rw [hk];exact Option.some.inj h) | cases h
theorem d1l:∀ {ws:List Bool} {tys:List Ty} {as:List A} {vs:List Value} {L:List Nat} {m:Mem} {ts:List T} {m':Mem} {p p':FP},Heap E β L m env w→RVs E env w (a0b β L m env w) as vs→b5x as=true→
  (b5v E ws tys as).ev m p=some (ts,m',p')→BackOk env m' ws tys as vs
 | ws,[],[],[],L,m,ts,m',p,p',h,_,_,hp=>by unfold BackOk;trivial
 | ws,ty :: tys,a :: as,v :: vs,L,m,ts,m',p,p',h,hv,hr,hp=>by
  unfold b5v at hp;obtain ⟨t,m1,p1,h1,hq⟩:=M.bind_some hp;obtain ⟨ts',m2,p2,h2,hq2⟩:=M.bind_some hq;cases hq2;obtain ⟨b1,g1,g2,g3⟩:=a7p h hv.1 h1;obtain ⟨b2,k1,k2,k3⟩:=b0i g1 (hv.2.mono (Names.le_refl _) g2.still) h2;have hr':b5x as=true:=by cases a <;> first | exact hr | (unfold b5x at hr;cases hr)
  refine ⟨fun hrow=>?_,d1l g1 (hv.2.mono (Names.le_refl _) g2.still) hr' h2⟩;obtain ⟨hrow,hw⟩:=a0a hrow;have hdead:∀ n,a=.ref n→m' n=some .dead:=by
   rintro n rfl
   refine k2.dead n ?_;rw [hw] at h1;cases ty with
   | row e=>
    simp only [b9h] at h1;obtain ⟨_,m6,p6,_,h1⟩:=M.bind_some h1;obtain ⟨⟨e',d,es⟩,m5,p5,hr5,hq5⟩:=M.bind_some h1;obtain ⟨_,hq6⟩:=M.g5z hq5;cases hq6;exact put_self _ _ _
   | deep e=>
    simp only [b9h,M.ev] at h1;split at h1
    ·obtain ⟨_,hq6⟩:=M.g5z h1;cases hq6;exact put_self _ _ _
    ·simp [M.ev] at h1
   | _=>cases hrow
  cases a with
  | ref n=>exact .inl ⟨n,rfl,hv.1.1,hdead n rfl⟩
  | nil e=>exact .inr ⟨(fun n hn=>by cases hn),hv.1⟩
  | i k n=>rw [hw] at h1;cases ty <;> first | (unfold b9h at h1;cases h1;done) | cases hrow
  | b x=>rw [hw] at h1;cases ty <;> first | (unfold b9h at h1;cases h1;done) | cases hrow
  | s x=>rw [hw] at h1;cases ty <;> first | (unfold b9h at h1;cases h1;done) | cases hrow
  | _=>unfold b5x at hr;cases hr
 | _,[],[],_ :: _,_,_,_,_,_,_,_,hv,_,_=>hv.elim
 | _,_ :: _,_ :: _,[],_,_,_,_,_,_,_,hv,_,_=>hv.elim
 | _,[],_ :: _,_,_,_,_,_,_,_,_,_,_,hp=>by unfold b5v at hp;cases hp
 | _,_ :: _,[],_,_,_,_,_,_,_,_,_,_,hp=>by unfold b5v at hp;cases hp
theorem BackOk.dead {m m':Mem} (hd:∀ n,m n=some .dead→m' n=some .dead):∀ {ws:List Bool} {tys:List Ty} {as:List A} {vs:List Value},BackOk env m ws tys as vs→BackOk env m' ws tys as vs
 | ws,ty :: tys,a :: as,v :: vs,h=>by
  refine ⟨fun hr=>?_,BackOk.dead hd h.2⟩;rcases h.1 hr with ⟨n,h1,h2,h3⟩ | h1
  ·exact .inl ⟨n,h1,h2,hd n h3⟩
  ·exact .inr h1
 | _,[],[],[],_=>by unfold BackOk;trivial
 | _,[],[],_ :: _,h=>h.elim
 | _,[],_ :: _,_,h=>h.elim
 | _,_ :: _,[],_,h=>h.elim
 | _,_ :: _,_ :: _,[],h=>h.elim
theorem b4i:∀ {ws:List (List Bool)} {ts:List Nat} {as:List A} {vs:List Value} {L:List Nat} {m:Mem} {ins:List Arg} {l:List Lent} {seen:List Nm} {m':Mem} {p p':FP},
  Heap E β L m env w→RV2s E env w (a0b β L m env w) as vs→(c2a E ws ts as).ev m p=some ((ins,l,seen),m',p')→
  ∃ bs,Heap E β (L++bs) m' env w∧Prog β env w L m (L++bs) m'∧LOk E env m' ws ts ins vs l∧
   ∀ S:Nat→Prop,(∀ b,a0b β (L++bs) m' env w b→S b)→(∀ n,n∈seen→∀ b,owns m env n b→S b)→AsOk E w S ws ts ins vs bs
 | ws,[],[],[],L,m,ins,l,seen,m',p,p',h,_,hp=>by
  unfold c2a at hp;cases hp;exact ⟨[],by simpa using h,by simpa using Prog.refl β env w L m,by unfold LOk;rfl,fun _ _ _=>by unfold AsOk;rfl⟩
 | _,[],[],_ :: _,_,_,_,_,_,_,_,_,_,hv,_=>hv.elim
 | ws,t :: ts,a :: as,v :: vs,L,m,ins,l,seen,m',p,p',h,hv,hp=>by
  unfold c2a at hp;split at hp
  ·rename_i f;obtain ⟨⟨r,l',v'⟩,m4,p4,h4,hq4⟩:=M.bind_some hp;cases hq4;obtain ⟨b2,f1,f2,f3,f4⟩:=b4i h hv.2 h4;exact ⟨b2,f1,f2,f3,fun S hS hseen=>⟨[],b2,rfl,⟨hv.1,rfl⟩,f4 S hS hseen⟩⟩
  ·rename_i f n;obtain ⟨cs,m0,p0,h0,hq⟩:=M.bind_some hp;obtain ⟨hn,rfl⟩:=M.g5w h0;obtain ⟨c,m1,p1,h1,hq1⟩:=M.bind_some hq;obtain ⟨cs2,m2,p2,h2,hq2⟩:=M.bind_some hq1;obtain ⟨hn2,rfl⟩:=M.g5w h2;obtain ⟨p3,hq3⟩:=M.g6l hq2;obtain ⟨⟨r,l',v'⟩,m4,p4,h4,hq4⟩:=M.bind_some hq3;cases hq4;obtain ⟨b,cv,el,hb,hheap,hsol,hrv⟩:=h.obj n _ hn;obtain ⟨b1,g1,g2,g3⟩:=b0i h hrv h1;obtain ⟨k1,k2⟩:=g1.lendVar hn2 hb;have hvv:v=.func (.func f) #[] #[.pointer (some ⟨b,0,none⟩)]:=by
    obtain ⟨b',e1,e2⟩:=hv.1;rw [hb] at e1;cases e1;exact e2
   have hpr:=g2.trans k2;obtain ⟨b2,f1,f2,f3,f4⟩:=b4i k1 (hv.2.mono (Names.le_refl _) hpr.still) h4;have hassoc:L++b1++[b]++b2=L++((b1++[b])++b2):=by simp
   rw [hassoc] at f1 f2 f4;refine ⟨(b1++[b])++b2,f1,?_,⟨⟨n,[],E.flat (E.fe f),false,none⟩,l',b,rfl,rfl,rfl,rfl,rfl,hb,hvv,f2.dead n (put_self _ _ _),f3⟩,fun S hS hseen=>⟨b1++[b],b2,rfl,⟨b,cv,el,b1,hvv,hheap,?_,rfl⟩,f4 S hS fun x hx c hc=>hseen x hx c (hpr.own x c hc)⟩⟩
   ·exact hpr.trans f2
   ·exact g3.wide fun x hx=>hS x (f2.still x (k2.still x hx).1).1
  split at hp
  ·rename_i e hkn;have hel:E.elem t=e:=f1i hkn;split at hp
   ·rename_i n _ _;obtain ⟨cs,m0,p0,h0,hq⟩:=M.bind_some hp;obtain ⟨hn,rfl⟩:=M.g5w h0;obtain ⟨c,m1,p1,h1,hq1⟩:=M.bind_some hq;obtain ⟨cs2,m2,p2,h2,hq2⟩:=M.bind_some hq1;obtain ⟨hn2,rfl⟩:=M.g5w h2;obtain ⟨p3,hq3⟩:=M.g6l hq2;obtain ⟨⟨r,l',v'⟩,m4,p4,h4,hq4⟩:=M.bind_some hq3;cases hq4;obtain ⟨b,cv,el,hb,hheap,hsol,hrv⟩:=h.obj n _ hn;obtain ⟨b1,g1,g2,g3⟩:=b0i h hrv h1;obtain ⟨k1,k2⟩:=g1.lendVar hn2 hb;have hvv:v=.pointer (some ⟨b,0,none⟩):=by
     obtain ⟨b',e1,e2⟩:=hv.1;rw [hb] at e1;cases e1;exact e2
    have hpr:=g2.trans k2;obtain ⟨b2,f1,f2,f3,f4⟩:=b4i k1 (hv.2.mono (Names.le_refl _) hpr.still) h4;have hassoc:L++b1++[b]++b2=L++((b1++[b])++b2):=by simp
    rw [hassoc] at f1 f2 f4;refine ⟨(b1++[b])++b2,f1,?_,⟨⟨n,ws.headD [],fl (ws.headD []) (E.flat e),false,none⟩,l',rfl,rfl,by rw [hel],rfl,rfl,hb.trans (by rw [hvv]),f2.dead n (put_self _ _ _),f3⟩,fun S hS hseen=>⟨b1++[b],b2,rfl,⟨b,cv,el,b1,hvv,hheap,?_,rfl⟩,f4 S hS fun x hx c hc=>hseen x hx c (hpr.own x c hc)⟩⟩
    ·exact hpr.trans f2
    ·rw [hel];exact g3.wide fun x hx=>hS x (f2.still x (k2.still x hx).1).1
   ·cases hp
  ·rename_i hnp;split at hp
   ·rename_i e hle;have hft:E.flat t=[.row e]:=by
     unfold f3t at hle;split at hle
     ·rename_i h1 _;cases hle;exact h1
     ·cases hle
    split at hp
    ·rename_i n _ _;obtain ⟨c,m1,p1,h1,hq1⟩:=M.bind_some hp;obtain ⟨⟨r,l',v'⟩,m4,p4,h4,hq4⟩:=M.bind_some hq1;cases hq4;have hrv1:RV1 E env w (a0b β L m env w) (.ref n) v:=hv.1;obtain ⟨b1,g1,g2,g3⟩:=a7p h hrv1 h1;have hdead:m1 n=some .dead:=by
      unfold b0d at h1;cases hd:(ws.headD []).headD false with
      | true=>
       rw [hd] at h1;simp only [cond_true,b9h,M.ev] at h1;split at h1
       ·obtain ⟨_,hq6⟩:=M.g5z h1;cases hq6;exact put_self _ _ _
       ·simp [M.ev] at h1
      | false=>
       rw [hd] at h1;simp only [cond_false,b9h] at h1;obtain ⟨_,m6,p6,_,h1⟩:=M.bind_some h1;obtain ⟨⟨e',d,es⟩,m5,p5,hr5,hq5⟩:=M.bind_some h1;obtain ⟨_,hq6⟩:=M.g5z hq5;cases hq6;exact put_self _ _ _
     obtain ⟨b2,f1,f2,f3,f4⟩:=b4i g1 (hv.2.mono (Names.le_refl _) g2.still) h4;rw [List.append_assoc] at f1 f2 f4;refine ⟨b1++b2,f1,g2.trans f2,⟨⟨n,[true],[b0d (ws.headD []) e],true,none⟩,l',e,rfl,hft,rfl,rfl,rfl,rfl,hrv1.1,f2.dead n hdead,f3⟩,fun S hS hseen=>⟨b1,b2,rfl,⟨e,hft,?_⟩,f4 S hS fun n hn b hb=>hseen n hn b (g2.own n b hb)⟩⟩;have g4:BC E w S true (b0d (ws.headD []) e) c v b1:=g3.wide fun b hb=>hS b (f2.still b hb).1;have hc:c=.r c.asR:=by
      unfold b0d at g4;cases hd:(ws.headD []).headD false with
      | true=>rw [hd] at g4;obtain ⟨es,rfl,_⟩:=g4;rfl
      | false=>rw [hd] at g4;obtain ⟨⟨es,xs,rfl,_⟩,_⟩:=g4;rfl
     rw [← hc];exact g4
    ·cases hp
   obtain ⟨hfit,hp0⟩:=M.g5z hp;cases hls:e6q E t (ws.headD []) with
   | true=>
    rw [hls] at hp0;obtain ⟨hrefs,hp1⟩:=M.g5z (show (bif b5x a.cells then _ else M.fail:M _).ev m p=_ from hp0);obtain ⟨c,m1,p1,h1,hq1⟩:=M.bind_some hp1;obtain ⟨⟨r,l',v'⟩,m4,p4,h4,hq4⟩:=M.bind_some hq1;cases hq4;obtain ⟨vs1,hsh,hr1⟩:=c5q hfit hv.1;obtain ⟨b1,g1,g2,g3⟩:=b0i h hr1 h1;have gb:=d1l h hr1 hrefs h1;obtain ⟨b2,f1,f2,f3,f4⟩:=b4i g1 (hv.2.mono (Names.le_refl _) g2.still) h4;rw [List.append_assoc] at f1 f2 f4;exact ⟨b1++b2,f1,g2.trans f2,⟨_,l',a.cells,vs1,rfl,rfl,rfl,rfl,rfl,hsh,gb.dead f2.dead,f3⟩,fun S hS hseen=>⟨b1,b2,rfl,⟨vs1,hsh,hls,g3.wide fun b hb=>hS b (f2.still b hb).1⟩,f4 S hS fun n hn b hb=>hseen n hn b (g2.own n b hb)⟩⟩
   | false=>
   rw [hls] at hp0;replace hp0:=(show ((b9i E (ws.headD []) (fl (ws.headD []) (E.flat t)) a.cells).bind _).ev m p=_ from hp0);obtain ⟨c,m1,p1,h1,hq1⟩:=M.bind_some hp0;obtain ⟨⟨r,l',v'⟩,m4,p4,h4,hq4⟩:=M.bind_some hq1;cases hq4;obtain ⟨vs1,hsh,hrv⟩:=c5q hfit hv.1;obtain ⟨b1,g1,g2,g3⟩:=d3q h hrv h1;obtain ⟨b2,f1,f2,f3,f4⟩:=b4i g1 (hv.2.mono (Names.le_refl _) g2.still) h4;rw [List.append_assoc] at f1 f2 f4;refine ⟨b1++b2,f1,g2.trans f2,f3,fun S hS hseen=>⟨b1,b2,rfl,⟨vs1,hsh,g3 S (fun b hb=>hS b (f2.still b hb).1) fun n hn b hb=>hseen n (List.mem_append_left _ hn) b hb⟩,f4 S hS fun n hn b hb=>hseen n (List.mem_append_right _ hn) b (g2.own n b hb)⟩⟩
 | _,_ :: _,_ :: _,[],_,_,_,_,_,_,_,_,_,hv,_=>hv.elim
 | _,[],_ :: _,_,_,_,_,_,_,_,_,_,_,_,hp=>by unfold c2a at hp;cases hp
 | _,_ :: _,[],_,_,_,_,_,_,_,_,_,_,_,hp=>by unfold c2a at hp;cases hp
end
end Go.Proofs.Ytdbopobkdpmpgaa.Ev
