/- Regions that draw their order: first, what a step touches, and that it hangs on nothing else. No condition. -/
import Derived.Test.YtdbopobkdpmpgaamEvS
namespace Go.Proofs.Ytdbopobkdpmpgaa.Ev
open Go
set_option linter.unusedVariables false
theorem M.g6s {α:Type} (x:M α):∀ {m:Mem} {q:FP} {a:α} {m':Mem} {q':FP},x.ev m q=some (a,m',q')→
  ∃ rd wr,q'=⟨rd++q.rd,wr++q.wr⟩∧(∀ n,n ∉ wr→m' n=m n)∧∀ m2:Mem,(∀ n,n∈rd→m2 n=m n)→∃ m2',x.ev m2 q=some (a,m2',q')∧(∀ n,n∈wr→m2' n=m' n)∧∀ n,n ∉ wr→m2' n=m2 n:=by
 induction x with
 | ret a=>intro m q a' m' q' h;cases h;exact ⟨[],[],rfl,fun _ _=>rfl,fun m2 _=>⟨m2,rfl,fun n hn=>(by simp at hn),fun _ _=>rfl⟩⟩
 | fail=>intro m q a' m' q' h;cases h
 | get n k ih=>
  intro m q a' m' q' h;obtain ⟨rd,wr,h1,h2,h3⟩:=ih (m n) h;refine ⟨rd++[n],wr,by rw [h1];simp,h2,fun m2 hm=>?_⟩;obtain ⟨m2',k1,k2,k3⟩:=h3 m2 (fun x hx=>hm x (List.mem_append_left _ hx));refine ⟨m2',?_,k2,k3⟩;show (k (m2 n)).ev m2 _=_;rw [hm n (List.mem_append_right _ List.mem_cons_self)];exact k1
 | set n o k ih=>
  intro m q a' m' q' h;obtain ⟨rd,wr,h1,h2,h3⟩:=ih h;refine ⟨rd,wr++[n],by rw [h1];simp,fun x hx=>?_,fun m2 hm=>?_⟩
  ·have hxn:x≠n:=fun e=>hx (by rw [e];exact List.mem_append_right _ List.mem_cons_self);rw [h2 x (fun h=>hx (List.mem_append_left _ h)),put_ne _ _ hxn]
  ·obtain ⟨m2',k1,k2,k3⟩:=h3 (m2.put n o) (fun x hx=>by
    by_cases hxn:x=n
    ·subst hxn;rw [put_self,put_self]
    ·rw [put_ne _ _ hxn,put_ne _ _ hxn];exact hm x hx)
   refine ⟨m2',k1,fun x hx=>?_,fun x hx=>?_⟩
   ·by_cases hw:x∈wr
    ·exact k2 x hw
    ·rcases List.mem_append.1 hx with h5 | h5
     ·exact absurd h5 hw
     ·simp at h5;subst h5;rw [k3 x hw,h2 x hw,put_self,put_self]
   ·have hxn:x≠n:=fun e=>hx (by rw [e];exact List.mem_append_right _ List.mem_cons_self);rw [k3 x (fun h=>hx (List.mem_append_left _ h)),put_ne _ _ hxn]
 | chk c k ih=>
  intro m q a' m' q' h;obtain ⟨hc,h1⟩:=M.g5y h;obtain ⟨rd,wr,h2,h3,h4⟩:=ih h1;refine ⟨rd,wr,h2,h3,fun m2 hm=>?_⟩;obtain ⟨m2',k1,k2⟩:=h4 m2 hm;exact ⟨m2',by simp only [M.ev,hc,cond_true];exact k1,k2⟩
section
variable {E:Env} {F:Call}
def e1g (E:Env) (F:Call) (σ:St) (o:Oper):M A:=
 match callee? σ o with
 | some (f,args,more)=>
  match d6y E.del f with
  | some e=>(match more with
   | []=>e4l E e (o.dst.getD 0) (args.map (a1y E σ 0))
   | _=>.fail)
  | none=>
  match E.fn f with
  | none=>.fail
  | some fn=>bif Nat.beq args.length fn.params.toList.length&&Nat.beq more.length (E.sig f).free.length&&c6k (b5y E σ fn.params.toList args) then
   ((
    d0e E σ o).bind fun _=>(c2a E (E.sig f).ins (d2z (E.sig f) fn) (b5y E σ fn.params.toList args++more)).bind fun r=>(b7g r.2.2).bind fun _=>.ret r).bind fun r=>
    match F f r.1 with
    | none=>.fail
    | some out=>behind E (E.sig f) fn (o.dst.getD 0) r.2.1 r.2.2 out
   else .fail
 | none=>(d0e E σ o).bind fun _=>opM E σ o (o.dst.getD 0)
theorem f5z {σ σ':St} {o:Oper} {p:FP} (h:c1v E F σ o (fun σ' p=>some (σ',p))=some (σ',p)):∃ a m',(e1g E F σ o).ev σ.mem ⟨[],[]⟩=some (a,m',p)∧σ'=St.put ⟨σ.sl,m'⟩ o.dst a:=by
 unfold c1v at h;unfold e1g;split at h
 ·rename_i f args more hcal;split at h
  ·rename_i e hdel;split at h
   ·obtain ⟨a,m1,p1,ha,hK⟩:=M.g5t h;cases hK;exact ⟨a,m1,by simp only [hcal,hdel];exact ha,rfl⟩
   ·cases h
  ·rename_i hdel;split at h
   ·cases h
   ·rename_i fn hfn;obtain ⟨hc,h1⟩:=a1z h;obtain ⟨⟨ins,l,seen⟩,m1,p1,ha,h2⟩:=M.g5t h1;simp only at h2;split at h2
    ·cases h2
    ·rename_i out hout;obtain ⟨a,m3,p3,hb,hK⟩:=M.g5t h2;cases hK;refine ⟨a,m3,?_,rfl⟩;simp only [hcal,hdel,hfn,hc,cond_true];rw [M.g5u,ha];simp only [hout,hb]
 ·rename_i hcal;obtain ⟨a,m1,p1,ha,hK⟩:=M.g5t h;cases hK;exact ⟨a,m1,by simp only [hcal];exact ha,rfl⟩
theorem f6a {σ:St} {o:Oper} {p:FP} {a:A} {m':Mem} (h:(e1g E F σ o).ev σ.mem ⟨[],[]⟩=some (a,m',p)):c1v E F σ o (fun σ' p=>some (σ',p))=some (St.put ⟨σ.sl,m'⟩ o.dst a,p):=by
 unfold e1g at h;unfold c1v;split at h
 ·rename_i f args more hcal;split at h
  ·rename_i e hdel;split at h
   ·simp only [hcal,hdel];rw [M.g5s,h]
   ·cases h
  ·rename_i hdel;split at h
   ·cases h
   ·rename_i fn hfn;obtain ⟨hc,h1⟩:=M.g5z h;obtain ⟨⟨ins,l,seen⟩,m1,p1,ha,h2⟩:=M.bind_some h1;simp only at h2;split at h2
    ·cases h2
    ·rename_i out hout;simp only [hcal,hdel,hfn,hc,cond_true];rw [M.g5s,ha];simp only [hout];rw [M.g5s,h2]
 ·rename_i hcal;simp only [hcal];rw [M.g5s,h]
end
section
variable {E:Env} {F:Call} {σ τ:St}
theorem b7x {fs:List (Nat×Nat)}:∀ {ps:List (Nat×Operand)} {cs:List A},(∀ q,q∈ps→∀ t,a1y E σ t q.2=a1y E τ t q.2)→b2b E σ fs ps cs=b2b E τ fs ps cs
 | [],_,_=>rfl
 | (j,x) :: r,cs,h=>by
  unfold b2b;split
  ·rename_i o ft hf;have hx:=h (j,x) List.mem_cons_self ft;simp only at hx;rw [hx,b7x fun q hq=>h q (List.mem_cons_of_mem _ hq)]
  ·rfl
theorem d2b {e:Nat}:∀ {ps:List (Nat×Operand)} {j:Nat},(∀ q,q∈ps→∀ t,a1y E σ t q.2=a1y E τ t q.2)→f1b E σ e j ps=f1b E τ e j ps
 | [],_,_=>rfl
 | (i,x) :: r,j,h=>by
  unfold f1b;have hx:=h (i,x) List.mem_cons_self e;simp only at hx;rw [hx,d2b fun q hq=>h q (List.mem_cons_of_mem _ hq)]
theorem d2c {e:Nat}:∀ {ps:List (Nat×Operand)} {j:Nat},(∀ q,q∈ps→∀ t,a1y E σ t q.2=a1y E τ t q.2)→f3s E σ e j ps=f3s E τ e j ps
 | [],_,_=>rfl
 | (i,x) :: r,j,h=>by
  unfold f3s;have hx:=h (i,x) List.mem_cons_self e;simp only at hx;rw [hx,d2c fun q hq=>h q (List.mem_cons_of_mem _ hq)]
theorem b7y {e:Nat}:∀ {ps:List (Nat×Operand)},(∀ q,q∈ps→∀ t,a1y E σ t q.2=a1y E τ t q.2)→a9b E σ e ps=a9b E τ e ps
 | [],_=>rfl
 | (i,x) :: r,h=>by
  unfold a9b;have hx:=h (i,x) List.mem_cons_self e;simp only at hx;rw [hx,b7y fun q hq=>h q (List.mem_cons_of_mem _ hq)]
theorem a7r {ls:Bool}:∀ {xs:List Operand},(∀ i,i∈xs.filterMap b8s→σ.sl i=τ.sl i)→b2w σ ls xs=b2w τ ls xs
 | [],_=>rfl
 | .tmp i :: r,h=>by
  unfold b2w;rw [h i (by simp [b8s]),a7r fun j hj=>h j (by rw [List.filterMap_cons];simp only [b8s];exact List.mem_cons_of_mem _ hj)]
 | .const _ :: r,h=>by unfold b2w;exact a7r fun j hj=>h j (by rw [List.filterMap_cons];exact hj)
 | .func _ :: r,h=>by unfold b2w;exact a7r fun j hj=>h j (by rw [List.filterMap_cons];exact hj)
 | .global _ :: r,h=>by unfold b2w;exact a7r fun j hj=>h j (by rw [List.filterMap_cons];exact hj)
theorem e1h {o:Oper} (h:∀ i,i∈o.op.operands.toList.filterMap b8s→σ.sl i=τ.sl i):d0e E σ o=d0e E τ o:=by
 have hf:b7i E σ o.op=b7i E τ o.op:=by
  cases hop:o.op with
  | load t p=>
   rw [hop] at h;cases p with
   | tmp i=>
    have hp:σ.sl i=τ.sl i:=h i (by simp [Op.operands,b8s]);simp only [b7i,a1y,hp]
   | const c=>
    have hp:∀ t,a1y E σ t (.const c)=a1y E τ t (.const c):=fun t=>by
     unfold a1y;split <;> first | rfl | (rename_i h;cases h)
    simp only [b7i,hp]
   | _=>rfl
  | _=>rfl
 unfold d0e;have hh:e0l E σ o.op=e0l E τ o.op:=by
  cases hop:o.op with
  | load t p=>
   rw [hop] at h;cases p with
   | tmp i=>
    have hp:σ.sl i=τ.sl i:=h i (by simp [Op.operands,b8s]);simp only [e0l,a1y,hp]
   | const c=>
    have hp:∀ t,a1y E σ t (.const c)=a1y E τ t (.const c):=fun t=>by
     unfold a1y;split <;> first | rfl | (rename_i h;cases h)
    simp only [e0l,hp]
   | _=>rfl
  | _=>rfl
 rw [a7r h,hf,hh]
theorem d8a {e k:Nat} {ps:List (Nat×Operand)} (h:∀ q,q∈ps→∀ t,a1y E σ t q.2=a1y E τ t q.2):d1j E σ e k ps=d1j E τ e k ps:=by
 unfold d1j;split
 ·rename_i x;rw [h (0,x) (by simp)]
 ·rfl
theorem d8b {d t n j:Nat} {nm:Nm} {ps:List (Nat×Operand)} (h:∀ q,q∈ps→∀ t,a1y E σ t q.2=a1y E τ t q.2):c6j E σ d t n j nm ps=c6j E τ d t n j nm ps:=by
 unfold c6j;split
 ·rename_i x;rw [h (0,x) (by simp)]
 ·rfl
theorem d0f {d:Nat} {b:Builtin} {args:List Operand} {tys:List Nat} (h:∀ x,x∈args→∀ t,a1y E σ t x=a1y E τ t x):b7h E σ d b args tys=b7h E τ d b args tys:=by
 unfold b7h;split
 ·rename_i x t;rw [h x (by simp)]
 ·rename_i x y t u;rw [h x (by simp),h y (by simp)]
 ·rename_i x y t u;rw [h x (by simp),h y (by simp)]
 ·rename_i x t;rw [h x (by simp)]
 ·rename_i x y t u;rw [h x (by simp),h y (by simp)]
 ·rename_i x y t u;rw [h x (by simp),h y (by simp)]
 ·rfl
theorem c7w:∀ {ts:List Nat} {xs:List Operand},(∀ x,x∈xs→∀ t,a1y E σ t x=a1y E τ t x)→b5y E σ ts xs=b5y E τ ts xs
 | [],_,_=>by unfold b5y;rfl
 | _ :: _,[],_=>rfl
 | t :: ts,x :: xs,h=>by
  unfold b5y;rw [h x List.mem_cons_self,c7w fun y hy=>h y (List.mem_cons_of_mem _ hy)]
theorem c3r {x:Option Operand} {t:Nat} (h:∀ y,x=some y→a1y E σ t y=a1y E τ t y):x.map (a1y E σ t)=x.map (a1y E τ t):=by
 cases x with
 | none=>rfl
 | some y=>simp only [Option.map_some,h y rfl]
theorem e8q {o:Oper} {d:Nat} (H:∀ x,x∈o.op.operands.toList→∀ t,a1y E σ t x=a1y E τ t x):opM E σ o d=opM E τ o d:=by
 obtain ⟨dst,op,type,pos,after,guard⟩:=o;cases op <;> simp only [opM] <;> simp only [Op.operands] at H
 case move x=>rw [H x (by simp)]
 case assign x=>rw [H x (by simp)]
 case pick c a b=>rw [H c (by simp),H a (by simp),H b (by simp)]
 case box t v=>rw [H v (by simp)]
 case build t ps=>
  have:=fun fs cs=>b7x (E:=E) (σ:=σ) (τ:=τ) (fs:=fs) (ps:=ps.toList) (cs:=cs) (fun q hq t=>H q.2 (by simpa using ⟨q.1,by simpa using hq⟩) t);simp only [this]
 case buildSlice t n ps=>
  have h1:=fun e=>d2b (E:=E) (σ:=σ) (τ:=τ) (e:=e) (ps:=ps.toList) (j:=0) (fun q hq t=>H q.2 (by simpa using ⟨q.1,by simpa using hq⟩) t);have h2:=fun e=>d2c (E:=E) (σ:=σ) (τ:=τ) (e:=e) (ps:=ps.toList) (j:=0) (fun q hq t=>H q.2 (by simpa using ⟨q.1,by simpa using hq⟩) t);have h3:=fun e=>b7y (E:=E) (σ:=σ) (τ:=τ) (e:=e) (ps:=ps.toList) (fun q hq t=>H q.2 (by simpa using ⟨q.1,by simpa using hq⟩) t);have h4:=fun e k=>d8a (E:=E) (σ:=σ) (τ:=τ) (e:=e) (k:=k) (ps:=ps.toList) (fun q hq t=>H q.2 (by simpa using ⟨q.1,by simpa using hq⟩) t);have h5:=fun j nm=>d8b (E:=E) (σ:=σ) (τ:=τ) (d:=d) (t:=t) (n:=n) (j:=j) (nm:=nm) (ps:=ps.toList) (fun q hq t=>H q.2 (by simpa using ⟨q.1,by simpa using hq⟩) t);unfold c3k d7e;simp only [h1,h2,h3,h4,h5]
 case load t x=>rw [H x (by simp)]
 case store t x y=>rw [H x (by simp),H y (by simp)]
 case nilCheck x=>rw [H x (by simp)]
 case binOp op xt x y yt=>rw [H x (by simp),H y (by simp)]
 case unOp op xt x=>rw [H x (by simp)]
 case convert s t x=>rw [H x (by simp)]
 case makeSlice t n c=>rw [H n (by simp),H c (by simp)]
 case slice t x lo hi mx=>
  cases mx with
  | some z=>rfl
  | none=>
   simp only;rw [H x (by simp),c3r (x:=lo) (fun y hy=>H y (by subst hy;simp) 0),c3r (x:=hi) (fun y hy=>H y (by subst hy;simp) 0)]
 case fieldAddr t x j=>rw [H x (by simp)]
 case field t x j=>rw [H x (by simp)]
 case indexAddr t x i=>rw [H x (by simp),H i (by simp)]
 case index t x i=>rw [H x (by simp),H i (by simp)]
 case extract x j=>rw [H x (by simp)]
 case makeFunc fn first captured=>
  cases fn with
  | func f=>
   have:captured.toList.map (a1y E σ 0)=captured.toList.map (a1y E τ 0):=List.map_congr_left fun x hx=>H x (by simp;exact .inr (by simpa using hx)) 0;simp only [this]
  | _=>rfl
 case call c=>
  obtain ⟨callee,args,argTypes⟩:=c;cases callee with
  | builtin b=>exact d0f fun x hx=>H x (by simpa [Call.operands] using hx)
  | value f=>rfl
  | invoke r n=>rfl
theorem d8c {o:Oper} (h:∀ i,i∈o.op.operands.toList.filterMap b8s→σ.sl i=τ.sl i):callee? σ o=callee? τ o:=by
 unfold callee?;split
 ·rfl
 ·rename_i i args' _ hop;rw [h i (by rw [hop];simp [Op.operands,Call.operands,b8s])]
 ·rfl
theorem e1i {o:Oper} (h:∀ i,i∈o.op.operands.toList.filterMap b8s→σ.sl i=τ.sl i):e1g E F σ o=e1g E F τ o:=by
 have H:∀ x,x∈o.op.operands.toList→∀ t,a1y E σ t x=a1y E τ t x:=by
  intro x hx t;cases x with
  | tmp i=>exact h i (List.mem_filterMap.2 ⟨.tmp i,hx,rfl⟩)
  | const v=>unfold a1y;split <;> first | rfl | (rename_i h;cases h)
  | _=>rfl
 unfold e1g;rw [d8c h,e1h h];split
 ·rename_i f args more hcal;obtain ⟨c,hop,hca,hcc⟩:=b9c hcal;have hargs:∀ x,x∈args→∀ t,a1y E σ t x=a1y E τ t x:=fun x hx t=>H x (by
   rw [hop];simp only [Op.operands,Call.operands,Array.toList_append];exact List.mem_append_right _ (by rw [hca];exact hx)) t
  split
  ·split
   ·rw [show args.map (a1y E σ 0)=args.map (a1y E τ 0) from List.map_congr_left fun x hx=>hargs x hx 0]
   ·rfl
  ·split
   ·rfl
   ·rename_i fn hfn;rw [c7w hargs]
 ·rw [e8q H]
end
end Go.Proofs.Ytdbopobkdpmpgaa.Ev
