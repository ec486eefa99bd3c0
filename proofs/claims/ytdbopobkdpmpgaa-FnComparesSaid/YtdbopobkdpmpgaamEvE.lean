/- Behind a call, on the caller's side. No condition. -/
import Derived.Test.YtdbopobkdpmpgaamEvD
namespace Go.Proofs.Ytdbopobkdpmpgaa.Ev
open Go
set_option linter.unusedVariables false
section
variable {E:Env} {β:Base} {L:List Nat} {m:Mem} {env:Names} {w w':World}
theorem Heap.call {L':List Nat} (h:Heap E β L m env w) (hsize:w.heap.size≤w'.heap.size) (hch:∀ k,k<w.heap.size→k ∉ L→w'.heap[k]?=w.heap[k]?)
  (hos:w'.os=w.os) (htape:w'.tape=w.tape) (hout:w'.output=w.output) (hnd:L'.Nodup) (hL:∀ b,b∈L'→b<w'.heap.size∧(b∈L∨w.heap.size≤b)) :
  Heap E β L' m env w'∧Still w w' (a0b β L m env w) (a0b β L' m env w'):=by
 have hst:Still w w' (a0b β L m env w) (a0b β L' m env w'):=fun b hb=>
  ⟨⟨hb.1,Nat.lt_of_lt_of_le hb.2.1 hsize,hb.2.2.1,fun hx=>by
   rcases (hL b hx).2 with h1 | h1
   ·exact hb.2.2.2 h1
   ·have:=hb.2.1;omega⟩,hch b hb.2.1 hb.2.2.2⟩
 refine ⟨h.next (Names.le_refl _) hst h.dom (fun n o hn=>.inl ⟨hn,rfl,fun b hb=>hch b (h.inb _ _ hb).1 (h.inb _ _ hb).2.2⟩) h.apart (fun n b hb=>⟨Nat.lt_of_lt_of_le (h.inb _ _ hb).1 hsize,(h.inb _ _ hb).2.1,fun hx=>?_⟩)
  (fun b hb=>⟨(hL b hb).1,?_⟩) hnd hos htape hout hsize (fun k hk _ hkL=>hch k hk hkL),hst⟩
 ·rcases (hL b hx).2 with h1 | h1
  ·exact (h.inb _ _ hb).2.2 h1
  ·have:=(h.inb _ _ hb).1;omega
 ·rcases (hL b hb).2 with h1 | h1
  ·exact (h.inL b h1).2
  ·exact .inr (Nat.le_trans h.size h1)
theorem c6o:∀ {seen:List Nm} {m m':Mem} {p p':FP} {u:Unit},(b7g seen).ev m p=some (u,m',p')→m=m'∧∀ n,n∈seen→m n≠some .dead
 | [],m,m',p,p',u,h=>by cases h;exact ⟨rfl,fun n hn=>by simp at hn⟩
 | n :: ns,m,m',p,p',u,h=>by
  simp only [b7g,M.ev] at h;split at h
  all_goals first
   | (simp [M.ev] at h;done)
   | (
    obtain ⟨h1,h2⟩:=c6o h;refine ⟨h1,fun x hx=>?_⟩;rcases List.mem_cons.1 hx with rfl | hx
    ·simp_all
    ·exact h2 x hx)
theorem b2e:∀ {seen:List Nm} {m m':Mem} {p p':FP} {u:Unit},Heap E β L m env w→(b3o seen).ev m p=some (u,m',p')→
  Heap E β L m' env w∧Prog β env w L m L m'∧∀ n,n∈seen→∀ b,owns m env n b→a0b β L m' env w b
 | [],m,m',p,p',u,h,hp=>by cases hp;exact ⟨h,Prog.refl _ _ _ _ _,fun n hn=>by simp at hn⟩
 | n :: ns,m,m',p,p',u,h,hp=>by
  simp only [b3o,M.ev] at hp;split at hp
  ·rename_i e es hn;obtain ⟨p2,hq⟩:=M.g6l hp;obtain ⟨h1,h2⟩:=h.freezeP hn;obtain ⟨k1,k2,k3⟩:=b2e h1 hq;have hd:∀ b,owns m env n b→a0b β L m' env w b:=fun b hb=>by
    refine (k2.still b ⟨.inr (h.inb _ _ hb).2.1,(h.inb _ _ hb).1,fun x hx=>?_,(h.inb _ _ hb).2.2⟩).1;have hx':=h2.own x b hx;have:=h.apart _ _ _ hx' hb;subst this;simp [owns,put_self] at hx
   refine ⟨k1,h2.trans k2,fun x hx b hb=>?_⟩;by_cases hxn:x=n
   ·subst hxn;exact hd b hb
   ·rcases List.mem_cons.1 hx with rfl | hx
    ·exact hd b hb
    ·exact k3 x hx b (by simpa [owns,put_ne _ _ hxn] using hb)
  ·rename_i e es hn;obtain ⟨k1,k2,k3⟩:=b2e h hp;refine ⟨k1,k2,fun x hx b hb=>?_⟩;rcases List.mem_cons.1 hx with rfl | hx
   ·simp [owns,hn] at hb
   ·exact k3 x hx b hb
  ·rename_i e es hn;obtain ⟨p2,hq⟩:=M.g6l hp;obtain ⟨h1,h2⟩:=h.freezeDP hn;obtain ⟨k1,k2,k3⟩:=b2e h1 hq;have hd:∀ b,owns m env n b→a0b β L m' env w b:=fun b hb=>by
    refine (k2.still b ⟨.inr (h.inb _ _ hb).2.1,(h.inb _ _ hb).1,fun x hx=>?_,(h.inb _ _ hb).2.2⟩).1;have hx':=h2.own x b hx;have:=h.apart _ _ _ hx' hb;subst this;simp [owns,put_self] at hx
   refine ⟨k1,h2.trans k2,fun x hx b hb=>?_⟩;by_cases hxn:x=n
   ·subst hxn;exact hd b hb
   ·rcases List.mem_cons.1 hx with rfl | hx
    ·exact hd b hb
    ·exact k3 x hx b (by rw [d3p hxn];exact hb)
  ·simp [M.ev] at hp
theorem RC.flat {S S':Nat→Prop} {ty:Ty} {t:T} {v:Value} (hf:ty.flatB=true) (h:RC E w S ty t v):RC E w S' ty t v:=by
 cases h with
 | int=>exact .int
 | bool=>exact .bool
 | str=>exact .str
 | nl=>cases hf
 | emp=>cases hf
 | row=>cases hf
theorem RCs.flat {S S':Nat→Prop}:∀ {tys:List Ty} {ts:List T} {vs:List Value},(∀ ty∈tys,ty.flatB=true)→RCs E w S tys ts vs→RCs E w S' tys ts vs
 | [],[],[],_,_=>trivial
 | ty :: _,_ :: _,_ :: _,hf,h=>⟨h.1.flat (hf ty List.mem_cons_self),RCs.flat (fun x hx=>hf x (List.mem_cons_of_mem _ hx)) h.2⟩
 | [],[],_ :: _,_,h=>h.elim
 | [],_ :: _,_,_,h=>h.elim
 | _ :: _,[],_,_,h=>h.elim
 | _ :: _,_ :: _,[],_,h=>h.elim
theorem BC.flat {S S':Nat→Prop} {own:Bool} {ty:Ty} {t:T} {v:Value} {bs:List Nat} (hf:b0e E [own] [ty]=false) (h:BC E w S own ty t v bs):BC E w S' own ty t v bs:=by
 cases ty with
 | row e=>
  simp only [b0e,List.headD_cons,Bool.or_false,Bool.or_eq_false_iff,Bool.not_eq_false'] at hf;obtain ⟨rfl,hpl⟩:=hf;obtain ⟨⟨es,xs,h1,h2,h3⟩,h4⟩:=h;refine ⟨⟨es,xs,h1,h2,fun i j hi hj=>?_⟩,h4⟩;obtain ⟨u,hu,hc⟩:=h3 i j hi hj;refine ⟨u,hu,hc.flat ?_⟩;unfold a4e;have hj':j<(E.flat e).length:=hj;rw [List.getD_eq_getElem?_getD,List.getElem?_eq_getElem hj',Option.getD_some];exact List.all_eq_true.1 hpl _ (List.getElem_mem hj')
 | deep e=>
  simp only [b0e,List.headD_cons,Bool.or_false,Bool.not_eq_false'] at hf;subst hf;exact h
 | ptr e=>
  simp only [b0e,Bool.or_false,Bool.not_eq_false'] at hf;cases own with
  | false=>obtain ⟨h,_⟩:=h;cases h
  | true=>
   obtain ⟨c,b,vs,el,h1,h2,h3,h4,h5⟩:=h;exact ⟨c,b,vs,el,h1,h2,h3,h4.flat (fun ty hty=>List.all_eq_true.1 hf ty hty),h5⟩
 | _=>cases own <;> exact ⟨h.1.flat rfl,h.2⟩
theorem BCs.flat {S S':Nat→Prop}:∀ {ws:List Bool} {tys:List Ty} {ts:List T} {vs:List Value} {bs:List Nat},b0e E ws tys=false→BCs E w S ws tys ts vs bs→BCs E w S' ws tys ts vs bs
 | _,[],[],[],_,_,h=>h
 | ws,ty :: tys,_ :: _,_ :: _,_,hf,⟨b1,b2,h1,h2,h3⟩=>by
  have hf2:b0e E [ws.headD false] [ty]=false∧b0e E ws.tail tys=false:=by
   cases ty <;> simp_all [b0e]
  exact ⟨b1,b2,h1,h2.flat hf2.1,BCs.flat hf2.2 h3⟩
 | _,[],[],_ :: _,_,_,h=>h.elim
 | _,[],_ :: _,_,_,_,h=>h.elim
 | _,_ :: _,[],_,_,_,h=>h.elim
 | _,_ :: _,_ :: _,[],_,_,h=>h.elim
def d1m (E:Env):List Nat→List Value→List Value→Prop
 | [],[],vs=>vs=[]
 | t :: ts,v :: vals,vs=>∃ a b,vs=a++b∧Shape E t v a∧a.length=E.sz t∧d1m E ts vals b
 | _,_,_=>False
def f5j (ts:List Nat) (v:Value) (vals:List Value):Prop:=
 match ts with
 | [_]=>vals=[v]
 | _=>∃ arr,v=.tuple arr∧vals=arr.toList
def ROk (E:Env) (w:World) (S:Nat→Prop) (ws:List Bool) (ts:List Nat) (rs:List T) (v:Value) (bs:List Nat):Prop:=
 ∃ vals vs,f5j ts v vals∧d1m E ts vals vs∧BCs E w S ws (fl ws (d7d E ts)) rs vs bs
def VOk (E:Env) (w:World) (S:Nat→Prop):List (List Bool)→List Nat→List Arg→List Value→List (List T)→List Nat→Prop
 | _,[],[],[],vars,bs=>bs=[]
 | ws,t :: ts,.v _ :: as,_ :: vs,vars,bs=>VOk E w S ws.tail ts as vs vars bs
 | ws,t :: ts,.p _ :: as,v :: vs,vars,bs=>∃ b cells el b1 b2,v=.pointer (some ⟨b,0,none⟩)∧w.heap[b]?=some (.cells cells el (0,0))∧
  BCs E w S (ws.headD []) (fl (ws.headD []) (E.flat (E.elem t))) (vars.headD []) cells.toList b1∧bs=b1++b :: b2∧VOk E w S ws.tail ts as vs vars.tail b2
 | ws,t :: ts,.r _ :: as,v :: vs,vars,bs=>∃ e c b1 b2,E.flat t=[.row e]∧vars.headD []=[c]∧BC E w S true (b0d (ws.headD []) e) c v b1∧bs=b1++b2∧VOk E w S ws.tail ts as vs vars.tail b2
 | ws,t :: ts,.s _ :: as,v :: vs,vars,bs=>∃ us b1 b2,Shape E t v us∧BCs E w S (ws.headD []) (fl (ws.headD []) (E.flat t)) (vars.headD []) us b1∧bs=b1++b2∧VOk E w S ws.tail ts as vs vars.tail b2
 | ws,t :: ts,.c _ none :: as,_ :: vs,vars,bs=>VOk E w S ws.tail ts as vs vars bs
 | ws,t :: ts,.c f (some _) :: as,v :: vs,vars,bs=>∃ b cells el b1 b2,v=.func (.func f) #[] #[.pointer (some ⟨b,0,none⟩)]∧w.heap[b]?=some (.cells cells el (0,0))∧
  BCs E w S [] (E.flat (E.fe f)) (vars.headD []) cells.toList b1∧bs=b1++b :: b2∧VOk E w S ws.tail ts as vs vars.tail b2
 | _,_,_,_,_,_=>False
def f7r (E:Env) (sg:Sig) (fn:Func) (S:Nat→Prop) (bs:List Nat) (ins:List Arg) (args:List Value) (out:Outs) (w:World) (v:Value) (w':World):Prop:=
 ∃ br bv,(br++bv).Nodup∧(∀ b,b∈br++bv→b<w'.heap.size∧(b∈bs∨w.heap.size≤b))∧
  w'.os=w.os∧w'.tape=w.tape∧w'.output=w.output∧w.heap.size≤w'.heap.size∧(∀ k,k<w.heap.size→k ∉ bs→w'.heap[k]?=w.heap[k]?)∧
  ROk E w' (fun b=>(S b∨b∈bs∨w.heap.size≤b)∧b<w'.heap.size∧b ∉ br++bv) sg.res fn.resultTypes.toList out.res v br∧
  VOk E w' (fun b=>(S b∨b∈bs∨w.heap.size≤b)∧b<w'.heap.size∧b ∉ br++bv) sg.ins (d2z sg fn) ins args out.vars bv
def e2h (P:Program) (E:Env) (F:Call):Prop:=
 ∀ (f:FuncId) (fn:Func) (ins:List Arg) (out:Outs),E.fn f=some fn→F f ins=some out→
  ∀ (w:World) (args:List Value) (bs:List Nat) (S:Nat→Prop),bs.Nodup→(∀ b,b∈bs→b<w.heap.size)→(∀ b,S b→b<w.heap.size∧b ∉ bs)→GOk E w bs→
   AsOk E w S (E.sig f).ins (d2z (E.sig f) fn) ins args bs→
   Calls P f args.toArray w fun e w'=>∃ v,e=.returned v∧f7r E (E.sig f) fn S bs ins args out w v w'
theorem ROk.flat {S S':Nat→Prop} {ws:List Bool} {ts:List Nat} {rs:List T} {v:Value} {bs:List Nat} (hf:b0e E ws (fl ws (d7d E ts))=false) (h:ROk E w S ws ts rs v bs):ROk E w S' ws ts rs v bs:=by
 obtain ⟨vals,vs,h1,h2,h3⟩:=h;exact ⟨vals,vs,h1,h2,h3.flat hf⟩
theorem ROk.wide {S S':Nat→Prop} (hS:∀ b,S b→S' b) {ws:List Bool} {ts:List Nat} {rs:List T} {v:Value} {bs:List Nat} (h:ROk E w S ws ts rs v bs):ROk E w S' ws ts rs v bs:=by
 obtain ⟨vals,vs,h1,h2,h3⟩:=h;exact ⟨vals,vs,h1,h2,h3.wide hS⟩
theorem VOk.wide {S S':Nat→Prop} (hS:∀ b,S b→S' b):∀ {ws:List (List Bool)} {ts:List Nat} {as:List Arg} {vs:List Value} {vars:List (List T)} {bs:List Nat},VOk E w S ws ts as vs vars bs→VOk E w S' ws ts as vs vars bs
 | _,[],[],[],_,_,h=>h
 | _,_ :: _,.v _ :: as,_ :: _,_,_,h=>by unfold VOk at h ⊢;exact VOk.wide hS h
 | _,_ :: _,.p _ :: as,_ :: _,_,_,⟨b,cells,el,b1,b2,h1,h2,h3,h4,h5⟩=>⟨b,cells,el,b1,b2,h1,h2,h3.wide hS,h4,VOk.wide hS h5⟩
 | _,_ :: _,.r _ :: as,_ :: _,_,_,⟨e,c,b1,b2,h1,h2,h3,h4,h5⟩=>⟨e,c,b1,b2,h1,h2,h3.wide hS,h4,VOk.wide hS h5⟩
 | _,_ :: _,.s _ :: as,_ :: _,_,_,⟨us,b1,b2,h1,h2,h3,h4⟩=>⟨us,b1,b2,h1,h2.wide hS,h3,VOk.wide hS h4⟩
 | _,_ :: _,.c _ none :: as,_ :: _,_,_,h=>by unfold VOk at h ⊢;exact VOk.wide hS h
 | _,_ :: _,.c _ (some _) :: as,_ :: _,_,_,⟨b,cells,el,b1,b2,h1,h2,h3,h4,h5⟩=>⟨b,cells,el,b1,b2,h1,h2,h3.wide hS,h4,VOk.wide hS h5⟩
 | _,[],[],_ :: _,_,_,h=>h.elim
 | _,[],_ :: _,_,_,_,h=>h.elim
 | _,_ :: _,[],_,_,_,h=>h.elim
 | _,_ :: _,.v _ :: _,[],_,_,h=>h.elim
 | _,_ :: _,.p _ :: _,[],_,_,h=>h.elim
 | _,_ :: _,.r _ :: _,[],_,_,h=>h.elim
 | _,_ :: _,.s _ :: _,[],_,_,h=>h.elim
 | _,_ :: _,.c _ none :: _,[],_,_,h=>h.elim
 | _,_ :: _,.c _ (some _) :: _,[],_,_,h=>h.elim
theorem VOk.flat {S S':Nat→Prop}:∀ {ws:List (List Bool)} {ts:List Nat} {as:List Arg} {vs:List Value} {vars:List (List T)} {bs:List Nat} {l:List Lent},LOk E env m ws ts as vs l→a7m E l=false→
  VOk E w S ws ts as vs vars bs→VOk E w S' ws ts as vs vars bs
 | _,[],[],[],_,_,_,_,_,h=>h
 | _,_ :: _,.v _ :: as,_ :: _,_,_,_,hl,hf,h=>by unfold VOk at h ⊢;unfold LOk at hl;exact VOk.flat hl hf h
 | _,_ :: _,.p _ :: as,_ :: _,_,_,_,⟨x,l',e0,e1,e2,er,ez,e3,e4,e5⟩,hf,⟨b,cells,el,b1,b2,h1,h2,h3,h4,h5⟩=>by
  subst e0;simp only [a7m,Bool.or_eq_false_iff,e1,e2] at hf;exact ⟨b,cells,el,b1,b2,h1,h2,h3.flat hf.1,h4,VOk.flat e5 hf.2 h5⟩
 | _,_ :: _,.r _ :: as,_ :: _,_,_,_,⟨x,l',e,e0,e1,e2,e2',er,ez,e3,e4,e5⟩,hf,⟨e',c,b1,b2,h1,h2,h3,h4,h5⟩=>by
  subst e0;simp only [a7m,Bool.or_eq_false_iff,e2,e2'] at hf;rw [e1] at h1;cases h1;have h6:BCs E w _ [true] [_] [c] [_] b1:=⟨b1,[],by simp,h3,rfl⟩;obtain ⟨b3,b4,rfl,h7,h8⟩:=BCs.flat hf.1 h6;cases h8;exact ⟨e,c,b3,b2,e1,h2,h7,by simpa using h4,VOk.flat e5 hf.2 h5⟩
 | _,_ :: _,.s _ :: as,_ :: _,_,_,_,⟨x,l',cs,us',e0,e1,e2,er,e3,e4,e5,e6⟩,hf,⟨us,b1,b2,h1,h2,h3,h4⟩=>by
  subst e0;simp only [a7m,Bool.or_eq_false_iff,e1,e2] at hf;exact ⟨us,b1,b2,h1,h2.flat hf.1,h3,VOk.flat e6 hf.2 h4⟩
 | _,_ :: _,.c _ none :: as,_ :: _,_,_,_,hl,hf,h=>by unfold VOk at h ⊢;unfold LOk at hl;exact VOk.flat hl hf h
 | _,_ :: _,.c _ (some _) :: as,_ :: _,_,_,_,⟨x,l',b',e0,e1,e2,er,ez,e3,e3',e4,e5⟩,hf,⟨b,cells,el,b1,b2,h1,h2,h3,h4,h5⟩=>by
  subst e0;simp only [a7m,Bool.or_eq_false_iff,e1,e2] at hf;exact ⟨b,cells,el,b1,b2,h1,h2,h3.flat hf.1,h4,VOk.flat e5 hf.2 h5⟩
 | _,[],[],_ :: _,_,_,_,_,_,h=>h.elim
 | _,[],_ :: _,_,_,_,_,_,_,h=>h.elim
 | _,_ :: _,[],_,_,_,_,_,_,h=>h.elim
 | _,_ :: _,.v _ :: _,[],_,_,_,_,_,h=>h.elim
 | _,_ :: _,.p _ :: _,[],_,_,_,_,_,h=>h.elim
 | _,_ :: _,.r _ :: _,[],_,_,_,_,_,h=>h.elim
 | _,_ :: _,.s _ :: _,[],_,_,_,_,_,h=>h.elim
 | _,_ :: _,.c _ none :: _,[],_,_,_,_,_,h=>h.elim
 | _,_ :: _,.c _ (some _) :: _,[],_,_,_,_,_,h=>h.elim
theorem M.g6n {n:Nm} {o:O} {m m':Mem} {p p':FP} {r:Unit} (h:(M.back n o).ev m p=some (r,m',p')):m n=some .dead∧m'=m.put n o:=by
 simp only [M.back,M.ev] at h;split at h
 ·rename_i hn;simp only [M.ev,Option.some.injEq,Prod.mk.injEq] at h;exact ⟨hn,h.2.1.symm⟩
 ·simp [M.ev] at h
theorem e2i:∀ {j:Nat} {ws:List Bool} {tys:List Ty} {as:List A} {ts cs:List T} {vs:List Value} {b1 L:List Nat} {m m0:Mem} {env env0:Names} {m':Mem} {p p':FP} {u:Unit} {S:Nat→Prop},
  Heap E β (b1++L) m env w→(∀ b,S b→a0b β (b1++L) m env w b)→env0.le env→BackOk env0 m0 ws tys as vs→BCs E w S ws tys ts vs b1→(∀ i,i<tys.length→cs.getD (j+i) (.i 0)=ts.getD i (.i 0))→(e6r j ws tys as cs).ev m p=some (u,m',p')→
  ∃ env',Heap E β L m' env' w∧env.le env'∧Still w w (a0b β (b1++L) m env w) (a0b β L m' env' w)
 | j,ws,[],[],[],cs,[],b1,L,m,m0,env,env0,m',p,p',u,S,h,hS,hle,hb,hc,hcs,hp=>by
  unfold e6r at hp;cases hp;unfold BCs at hc;subst hc;exact ⟨env,h,Names.le_refl _,Still.refl _ _⟩
 | j,ws,ty :: tys,a :: as,c :: ts,cs,v :: vs,b1,L,m,m0,env,env0,m',p,p',u,S,h,hS,hle,hb,⟨b2,b3,e0,hc,hc2⟩,hcs,hp=>by
  subst e0;have ht:cs.getD j (.i 0)=c:=by simpa using hcs 0 (by simp)
  have hcs':∀ i,i<tys.length→cs.getD (j+1+i) (.i 0)=ts.getD i (.i 0):=fun i hi=>by
   have:=hcs (i+1) (by simpa using hi);rw [show j+1+i=j+(i+1) by omega];simpa using this
  unfold e6r at hp;rw [ht] at hp;obtain ⟨_,m2,p2,g1,g2⟩:=M.bind_some hp;rw [List.append_assoc] at h hS;have hdrop:m2=m→∃ env1,Heap E β (b3++L) m2 env1 w∧env.le env1∧Still w w (a0b β (b2++(b3++L)) m env w) (a0b β (b3++L) m2 env1 w):=by
   rintro rfl
   obtain ⟨q1,q2⟩:=h.call (w':=w) (L':=b3++L) (Nat.le_refl _) (fun _ _ _=>rfl) rfl rfl rfl (List.nodup_append.1 h.nodup).2.1 (fun b hb=>⟨(h.inL b (List.mem_append_right _ hb)).1,.inl (List.mem_append_right _ hb)⟩);exact ⟨env,q1,Names.le_refl _,q2⟩
  have key:∃ env1,Heap E β (b3++L) m2 env1 w∧env.le env1∧Still w w (a0b β (b2++(b3++L)) m env w) (a0b β (b3++L) m2 env1 w):=by
   split at g1
   ·rename_i e n hw;rw [hw] at hc;obtain ⟨⟨es,xs,rfl,ho,hr⟩,rfl⟩:=hc;obtain ⟨hd,rfl⟩:=M.g6n g1;rcases hb.1 (by rw [hw];rfl) with ⟨n',hn',hv,_⟩ | ⟨hno,_⟩
    ·cases hn';obtain ⟨q1,q2,q3⟩:=h.takeRowAt (.inr (hle _ _ hv)) (fun b=>by simp [owns,hd]) ho (fun i j hi hj=>by obtain ⟨u,hu,hc⟩:=hr i j hi hj;exact ⟨u,hu,hc.wide hS⟩);exact ⟨_,q1,q2,q3⟩
    ·exact (hno n rfl).elim
   ·rename_i e n hw;rw [hw] at hc;obtain ⟨es,rfl,hdc⟩:=hc;obtain ⟨hd,rfl⟩:=M.g6n g1;rcases hb.1 (by rw [hw];rfl) with ⟨n',hn',hv,_⟩ | ⟨hno,_⟩
    ·cases hn';obtain ⟨q1,q2,q3⟩:=h.takeDeepAt (.inr (hle _ _ hv)) (fun b=>by simp [owns,hd]) hdc;exact ⟨_,q1,q2,q3⟩
    ·exact (hno n rfl).elim
   ·cases g1;exact hdrop rfl
  obtain ⟨env1,f1,f2,f3⟩:=key;obtain ⟨env',q1,q2,q3⟩:=e2i f1 (fun b hb=>(f3 b (hS b hb)).1) (Names.le_trans hle f2) hb.2 hc2 hcs' g2;exact ⟨env',q1,Names.le_trans f2 q2,by rw [List.append_assoc];exact f3.trans q3⟩
 | _,_,[],[],_,_,_ :: _,_,_,_,_,_,_,_,_,_,_,_,_,_,_,hb,_,_,_=>hb.elim
 | _,_,[],[],_ :: _,_,[],_,_,_,_,_,_,_,_,_,_,_,_,_,_,_,hc,_,_=>hc.elim
 | _,_,[],_ :: _,_,_,_,_,_,_,_,_,_,_,_,_,_,_,_,_,_,hb,_,_,_=>hb.elim
 | _,_,_ :: _,[],_,_,_,_,_,_,_,_,_,_,_,_,_,_,_,_,_,hb,_,_,_=>hb.elim
 | _,_,_ :: _,_ :: _,_,_,[],_,_,_,_,_,_,_,_,_,_,_,_,_,_,hb,_,_,_=>hb.elim
 | _,_,_ :: _,_ :: _,[],_,_ :: _,_,_,_,_,_,_,_,_,_,_,_,_,_,_,_,hc,_,_=>hc.elim
theorem a5e {d:Nat}:∀ {i:Nat} {ws:List (List Bool)} {ts:List Nat} {as:List Arg} {vs:List Value} {vars:List (List T)} {l:List Lent} {bv:List Nat} {m m0:Mem} {env env0:Names} {m':Mem} {p p':FP} {u:Unit} {S:Nat→Prop},
  Heap E β bv m env w→(∀ b,S b→a0b β bv m env w b)→env0.le env→LOk E env0 m0 ws ts as vs l→VOk E w S ws ts as vs vars bv→(b0z E d i l vars).ev m p=some (u,m',p')→
  ∃ env',Heap E β [] m' env' w∧env.le env'∧Still w w (a0b β bv m env w) (a0b β [] m' env' w)
 | i,_,[],[],[],vars,l,bv,m,m0,env,env0,m',p,p',u,S,h,hS,hle,hl,hv,hp=>by
  unfold LOk at hl;unfold VOk at hv;subst hl;subst hv;cases hp;exact ⟨env,h,Names.le_refl _,Still.refl _ _⟩
 | i,_,_ :: _,.v _ :: as,_ :: _,vars,l,bv,m,m0,env,env0,m',p,p',u,S,h,hS,hle,hl,hv,hp=>by
  unfold LOk at hl;unfold VOk at hv;exact a5e h hS hle hl hv hp
 | i,_,t :: _,.p _ :: as,v :: _,vars,l,bv,m,m0,env,env0,m',p,p',u,S,h,hS,hle,⟨x,l',e0,e1,e2,er,ez,e3,e4,e5⟩,⟨b,cells,el,b1,b2,d1,h2,h3,d2,h5⟩,hp=>by
  subst e0;subst d1;subst d2;unfold b0z at hp;rw [ez,er] at hp;obtain ⟨_,m2,p2,hp1,hq2⟩:=M.bind_some hp;obtain ⟨cs,m1,p1,g1,g2⟩:=M.bind_some hp1;obtain ⟨hd,rfl⟩:=M.g6n g2;rw [e1,e2] at g1;obtain ⟨env1,k1,k2,k3,k4,k5⟩:=a4q (ts:=vars.headD []) h hS h3 (fun i _=>by simp) g1;have hb:env1 x.n=some (.pointer (some ⟨b,0,none⟩)):=k2 _ _ (hle _ _ e3);obtain ⟨f1,f2,f3⟩:=k1.takeVar (.inr hb) (fun b=>by simp [owns,hd]) h2 k5 k4;obtain ⟨env',q1,q2,q3⟩:=a5e f1 (fun c hc=>(f3 c (k3 c (hS c hc)).1).1) (Names.le_trans hle (Names.le_trans k2 f2)) e5 h5 hq2;exact ⟨env',q1,Names.le_trans k2 (Names.le_trans f2 q2),k3.trans (f3.trans q3)⟩
 | i,_,t :: _,.r _ :: as,v :: _,vars,l,bv,m,m0,env,env0,m',p,p',u,S,h,hS,hle,⟨x,l',e,e0,e1,e2,e2',er,ez,e3,e4,e5⟩,⟨e',c,b1,b2,h1,h2,hbc,h4,h5⟩,hp=>by
  subst e0;subst h4;rw [e1] at h1;cases h1;rename_i ws1 _ _ _;have hc:c=.r c.asR:=by
   unfold b0d at hbc;cases hw:(ws1.headD []).headD false <;> rw [hw] at hbc
   ·obtain ⟨⟨es,xs,rfl,_⟩,_⟩:=hbc;rfl
   ·obtain ⟨es,rfl,_⟩:=hbc;rfl
  rw [hc] at hbc;unfold b0z at hp;rw [ez,er,e2',h2] at hp;obtain ⟨_,m2,p2,g2,hq2⟩:=M.bind_some hp;have hk:m x.n=some .dead∧m2=m.put x.n (e4m (ws1.headD []) e c.asR):=by
   unfold b0d at g2;unfold e4m;cases hw:(ws1.headD []).headD false <;> simp only [hw,cond_true,cond_false] at g2 ⊢
   ·exact M.g6n g2
   ·exact M.g6n g2
  obtain ⟨hd,rfl⟩:=hk;obtain ⟨env1,f1,f2,f3,f4,f5⟩:=h.takeLend (.inr (hle _ _ e3)) (fun b=>by simp [owns,hd]) hS hbc;obtain ⟨env',q1,q2,q3⟩:=a5e f1 (fun c hc=>(f3 c (hS c hc)).1) (Names.le_trans hle f2) e5 h5 hq2;exact ⟨env',q1,Names.le_trans f2 q2,f3.trans q3⟩
 | i,ws,t :: _,.s _ :: as,v :: _,vars,l,bv,m,m0,env,env0,m',p,p',u,S,h,hS,hle,⟨x,l',cs,us',e0,e1,e2,er,e3,e4,e5,e6⟩,⟨us,b1,b2,h1,h2,h3,h4⟩,hp=>by
  subst e0;subst h3;unfold b0z at hp;rw [e3] at hp;obtain ⟨_,m2,p2,g2,hq2⟩:=M.bind_some hp;have hus:us'=us:=by
   unfold Shape at e4 h1;cases hag:E.isAgg t <;> rw [hag] at e4 h1
   ·rw [e4,h1]
   ·obtain ⟨a1,r1,r2⟩:=e4;obtain ⟨a2,r3,r4⟩:=h1;rw [r1] at r3;cases r3;rw [r2,r4]
  subst hus;rw [e1,e2] at g2 e5;obtain ⟨env1,f1,f2,f3⟩:=e2i (ts:=vars.headD []) h hS hle e5 h2 (fun i _=>by simp) g2;obtain ⟨env',q1,q2,q3⟩:=a5e f1 (fun c hc=>(f3 c (hS c hc)).1) (Names.le_trans hle f2) e6 h4 hq2;exact ⟨env',q1,Names.le_trans f2 q2,f3.trans q3⟩
 | i,_,_ :: _,.c _ none :: as,_ :: _,vars,l,bv,m,m0,env,env0,m',p,p',u,S,h,hS,hle,hl,hv,hp=>by
  unfold LOk at hl;unfold VOk at hv;exact a5e h hS hle hl hv hp
 | i,_,t :: _,.c f (some _) :: as,v :: _,vars,l,bv,m,m0,env,env0,m',p,p',u,S,h,hS,hle,⟨x,l',b',e0,e1,e2,er,ez,e3,e3',e4,e5⟩,⟨b,cells,el,b1,b2,d1,h2,h3,d2,h5⟩,hp=>by
  subst e0;subst d2;have hbb:b'=b:=by
   rw [e3'] at d1;injection d1 with _ _ d1;have:=congrArg Array.toList d1;simpa using this
  subst hbb;unfold b0z at hp;rw [ez,er] at hp;obtain ⟨_,m2,p2,hp1,hq2⟩:=M.bind_some hp;obtain ⟨cs,m1,p1,g1,g2⟩:=M.bind_some hp1;obtain ⟨hd,rfl⟩:=M.g6n g2;rw [e1,e2] at g1;obtain ⟨env1,k1,k2,k3,k4,k5⟩:=a4q (ts:=vars.headD []) h hS h3 (fun i _=>by simp) g1;have hb:env1 x.n=some (.pointer (some ⟨b',0,none⟩)):=k2 _ _ (hle _ _ e3);obtain ⟨f1,f2,f3⟩:=k1.takeVar (.inr hb) (fun b=>by simp [owns,hd]) h2 k5 k4;obtain ⟨env',q1,q2,q3⟩:=a5e f1 (fun c hc=>(f3 c (k3 c (hS c hc)).1).1) (Names.le_trans hle (Names.le_trans k2 f2)) e5 h5 hq2;exact ⟨env',q1,Names.le_trans k2 (Names.le_trans f2 q2),k3.trans (f3.trans q3)⟩
 | _,_,[],[],_ :: _,_,_,_,_,_,_,_,_,_,_,_,_,_,_,_,hl,_,_=>hl.elim
 | _,_,[],_ :: _,_,_,_,_,_,_,_,_,_,_,_,_,_,_,_,_,hl,_,_=>hl.elim
 | _,_,_ :: _,[],_,_,_,_,_,_,_,_,_,_,_,_,_,_,_,_,hl,_,_=>hl.elim
 | _,_,_ :: _,.v _ :: _,[],_,_,_,_,_,_,_,_,_,_,_,_,_,_,_,hl,_,_=>hl.elim
 | _,_,_ :: _,.p _ :: _,[],_,_,_,_,_,_,_,_,_,_,_,_,_,_,_,hl,_,_=>hl.elim
 | _,_,_ :: _,.r _ :: _,[],_,_,_,_,_,_,_,_,_,_,_,_,_,_,_,hl,_,_=>hl.elim
 | _,_,_ :: _,.s _ :: _,[],_,_,_,_,_,_,_,_,_,_,_,_,_,_,_,hl,_,_=>hl.elim
 | _,_,_ :: _,.c _ none :: _,[],_,_,_,_,_,_,_,_,_,_,_,_,_,_,_,hl,_,_=>hl.elim
 | _,_,_ :: _,.c _ (some _) :: _,[],_,_,_,_,_,_,_,_,_,_,_,_,_,_,_,hl,_,_=>hl.elim
theorem RVs.split {S:Nat→Prop}:∀ {as:List A} {a b:List Value},RVs E env w S as (a++b)→RVs E env w S (as.take a.length) a∧RVs E env w S (as.drop a.length) b
 | as,[],b,h=>⟨by simp [RVs],by simpa using h⟩
 | x :: as,y :: a,b,h=>⟨⟨h.1,(RVs.split h.2).1⟩,(RVs.split h.2).2⟩
 | [],y :: a,b,h=>h.elim
theorem a2y:∀ {as:List A} (n:Nat),a0o as=true→a0o (as.take n)=true∧a0o (as.drop n)=true
 | [],n,h=>by simp [a0o]
 | a :: as,0,h=>⟨rfl,h⟩
 | a :: as,n+1,h=>by
  simp only [a0o,Bool.and_eq_true] at h;have:=a2y n h.2;simp [a0o,h.1,this.1,this.2]
theorem d3r {S:Nat→Prop}:∀ {ts:List Nat} {as:List A} {vals vs:List Value},d1m E ts vals vs→a0o as=true→RVs E env w S as vs→RV2s E env w S (f1c E as ts) vals
 | [],as,[],vs,_,_,_=>trivial
 | [],as,_ :: _,vs,h,_,_=>h.elim
 | t :: ts,as,[],vs,h,_,_=>h.elim
 | t :: ts,as,v :: vals,vs,⟨a,b,e0,h1,h2,h3⟩,hs,hr=>by
  subst e0;obtain ⟨r1,r2⟩:=RVs.split hr;rw [h2] at r1 r2;exact ⟨b1d h1 (a2y _ hs).1 r1,d3r h3 (a2y _ hs).2 r2⟩
theorem e7d {sg:Sig} {fn:Func} {d:Nat} {l:List Lent} {seen:List Nm} {out:Outs} {ins:List Arg} {vs:List Value} {v:Value} {bs:List Nat} {a:A} {m':Mem} {p p':FP} {S:Nat→Prop}
  (h:Heap E β bs m env w) (hl:LOk E env m sg.ins (d2z sg fn) ins vs l) (hS:∀ b,S b→a0b β bs m env w b∨∃ n,n∈seen∧owns m env n b)
  (hpost:f7r E sg fn S bs ins vs out w v w') (hp:(behind E sg fn d l seen out).ev m p=some (a,m',p')) :
  ∃ env',Heap E β [] m' env' w'∧env.le env'∧Still w w' (a0b β bs m env w) (a0b β [] m' env' w')∧RV E env' w' (a0b β [] m' env' w') a v:=by
 obtain ⟨br,bv,hnd,hb,hos,htape,hout,hsize,hch,hr,hv⟩:=hpost;obtain ⟨h2,hst⟩:=h.call hsize hch hos htape hout hnd hb;unfold behind at hp;obtain ⟨_,m2,p2,hf,hq⟩:=M.bind_some hp;obtain ⟨cs,m3,p3,hre,hq2⟩:=M.bind_some hq;obtain ⟨_,m4,p4,hgb,hq3⟩:=M.bind_some hq2;cases hq3;have key:Heap E β (br++bv) m2 env w'∧Still w' w' (a0b β (br++bv) m env w') (a0b β (br++bv) m2 env w')∧
   ROk E w' (a0b β (br++bv) m2 env w') sg.res fn.resultTypes.toList out.res v br∧VOk E w' (a0b β (br++bv) m2 env w') sg.ins (d2z sg fn) ins vs out.vars bv:=by
  cases hsh:(b0e E sg.res (f1d E sg fn) || a7m E l) with
  | true=>
   rw [hsh] at hf;obtain ⟨k1,k2,k3⟩:=b2e h2 hf;have hSS:∀ b,((S b∨b∈bs∨w.heap.size≤b)∧b<w'.heap.size∧b ∉ br++bv)→a0b β (br++bv) m2 env w' b:=by
    rintro b ⟨h1 | h1 | h1,hlt,hn⟩
    ·rcases hS b h1 with h3 | ⟨n,hn',h3⟩
     ·exact (k2.still b (hst b h3).1).1
     ·exact k3 n hn' b h3
    ·exact (k2.still b ⟨.inr (h.inL b h1).2,hlt,fun n hn'=>(h.inb n b hn').2.2 h1,hn⟩).1
    ·refine (k2.still b ⟨.inr (.inr (Nat.le_trans h.size h1)),hlt,fun n hn'=>?_,hn⟩).1;have:=(h.inb n b hn').1;omega
   exact ⟨k1,k2.still,hr.wide hSS,hv.wide hSS⟩
  | false=>
   rw [hsh] at hf;cases hf;simp only [Bool.or_eq_false_iff] at hsh;exact ⟨h2,Still.refl _ _,hr.flat hsh.1,VOk.flat hl hsh.2 hv⟩
 obtain ⟨k1,k2,⟨vals,rvs,ho,hshp,hbc⟩,k4⟩:=key;obtain ⟨env1,g1,g2,g3,g4,g5⟩:=a4q (ts:=out.res) k1 (fun _ h=>h) hbc (fun i _=>by simp) hre;obtain ⟨env',q1,q2,q3⟩:=a5e g1 (fun b hb=>(g3 b hb).1) g2 hl k4 hgb;refine ⟨env',q1,Names.le_trans g2 q2,hst.trans (k2.trans (g3.trans q3)),?_⟩;have hfin:=g4.mono q2 q3;unfold f5j at ho;split at ho
 ·rename_i t ht;subst ho;rw [ht] at hshp ⊢;obtain ⟨a',b',rfl,h1,h2',h3⟩:=hshp;cases h3;rw [List.append_nil] at hfin;have:=b1d h1 g5 hfin;simp only [];cases hm:b1x E t cs with
  | tup x=>rw [hm] at this;exact this.elim
  | _=>rw [hm] at this;exact this
 ·rename_i hno;obtain ⟨arr,rfl,rfl⟩:=ho;have:=d3r hshp g5 hfin;split
  ·rename_i t ht;exact (hno t ht).elim
  ·exact ⟨arr,rfl,this⟩
end
end Go.Proofs.Ytdbopobkdpmpgaa.Ev
