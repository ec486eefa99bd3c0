/- Every function's call answers as the evaluator says. Of regions that draw their order as of a premise. No other condition. -/
import Derived.Test.YtdbopobkdpmpgaamEvRa
namespace Go.Proofs.Ytdbopobkdpmpgaa.Ev
open Go
set_option linter.unusedVariables false
section
variable {P:Program} {E:Env}
theorem e8o {i:Nat}:∀ {j:Nat} {ws:List Bool} {tys:List Ty} {us:List Value} {n:Nm} {v:Value},(n,v)∈e3a i j ws tys us→n.1=i
 | j,ws,[],us,n,v,h=>by simp [e3a] at h
 | j,ws,ty :: tys,[],n,v,h=>by simp [e3a] at h
 | j,ws,ty :: tys,u :: us,n,v,h=>by
  unfold e3a at h;rcases List.mem_append.1 h with h | h
  ·cases hb:(ty.isRow&&ws.headD false) with
   | true=>rw [hb] at h;simp at h;rw [h.1]
   | false=>rw [hb] at h;simp at h
  ·exact e8o h
theorem a7i:∀ {i:Nat} {ws:List (List Bool)} {ts:List Nat} {ins:List Arg} {vs:List Value} {n:Nm} {v:Value},(n,v)∈a2e E i ws ts ins vs→n.1<i+ts.length
 | i,ws,t :: ts,.p _ :: r,u :: vs,n,v,h=>by
  rcases List.mem_cons.1 h with h | h
  ·cases h;simp
  ·have:=a7i h;simp at this ⊢;omega
 | i,ws,t :: ts,.r _ :: r,u :: vs,n,v,h=>by
  rcases List.mem_cons.1 h with h | h
  ·cases h;simp
  ·have:=a7i h;simp at this ⊢;omega
 | i,ws,t :: ts,.v _ :: r,u :: vs,n,v,h=>by
  have:=a7i (show (n,v)∈a2e E (i+1) ws.tail ts r vs from h);simp at this ⊢;omega
 | i,ws,t :: ts,.s _ :: r,u :: vs,n,v,h=>by
  rcases List.mem_append.1 (show (n,v)∈e3a i 0 (ws.headD []) (fl (ws.headD []) (E.flat t)) (c7s E t u)++a2e E (i+1) ws.tail ts r vs from h) with h | h
  ·rw [e8o h];simp
  ·have:=a7i h;simp at this ⊢;omega
 | i,ws,t :: ts,.c _ none :: r,u :: vs,n,v,h=>by
  have:=a7i (show (n,v)∈a2e E (i+1) ws.tail ts r vs from h);simp at this ⊢;omega
 | i,ws,t :: ts,.c _ (some _) :: r,u :: vs,n,v,h=>by
  rcases List.mem_cons.1 h with h | h
  ·cases h;simp
  ·have:=a7i h;simp at this ⊢;omega
 | i,ws,[],r,vs,n,v,h=>by cases r <;> simp [a2e] at h
 | i,ws,t :: ts,[],vs,n,v,h=>by simp [a2e] at h
 | i,ws,t :: ts,a :: r,[],n,v,h=>by cases a <;> simp [a2e] at h
theorem e5f {ws:List (List Bool)} {ts:List Nat} {ins:List Arg} {vs:List Value} {n:Nm} {v:Value} (h:(n,v)∈a2e E 0 ws ts ins vs):n.1<ts.length:=by
 have:=a7i h;omega
theorem e1f (hT:a1e P E=true) (hTF:TabF P E) {F:Call} (hF:e2h P E F) (hD:d7y P E F) {k:Nat} {f:FuncId} {fn:Func} {ins:List Arg} {out:Outs} (hfn:E.fn f=some fn)
  (h:d3n E F k (E.sig f) fn ins=some out) (w:World) (args:List Value) (bs:List Nat) (S:Nat→Prop) (hnd:bs.Nodup) (hbs:∀ b,b∈bs→b<w.heap.size) (hS:∀ b,S b→b<w.heap.size∧b ∉ bs) (hG:GOk E w bs)
  (hA:AsOk E w S (E.sig f).ins (d2z (E.sig f) fn) ins args bs):Calls P f args.toArray w fun e w'=>∃ v,e=.returned v∧f7r E (E.sig f) fn S bs ins args out w v w':=by
 obtain ⟨hpf,hbody,_⟩:=hTF.1 f fn hfn;unfold d3n at h;split at h
 ·rename_i c hc;obtain ⟨as,m,p,hent0,h1⟩:=M.g5t h;obtain ⟨as0,m00,p00,hent,hq0⟩:=M.bind_some hent0;obtain ⟨u0,m01,p01,hmode,hq00⟩:=M.bind_some hq0;cases hq00;obtain ⟨hck,h2⟩:=a1z h1;obtain ⟨hck,hnoS⟩:=a0a hck;obtain ⟨hdst,hle⟩:=a0a hck;have hle:=a2p hle;obtain ⟨hl1,hl2⟩:=hA.len
  let β:Base:=⟨w,(·∈bs),S,a2e E 0 (E.sig f).ins (d2z (E.sig f) fn) ins args⟩
  have hh0:Heap E β (bs++[]) (fun _=>none) ⟨fun _=>none,fun _=>[]⟩ w:=by
   rw [List.append_nil];exact ⟨fun _ _=>rfl,fun n o hn=>(by cases hn),fun n n' b hb=>(by simp [owns] at hb),fun n b hb=>(by simp [owns] at hb),fun b hb=>⟨hbs b hb,.inl hb⟩,hnd,rfl,rfl,rfl,Nat.le_refl _,fun _ _ _=>rfl,hG⟩
  obtain ⟨env,g1,g2,g3,g4⟩:=b4j hh0 (fun b hb=>⟨.inl hb,(hS b hb).1,fun n=>by simp [owns],by rw [List.append_nil];exact (hS b hb).2⟩) hA hent;have hpins:=a8v hent g4 hA.sok;obtain ⟨env,g1,g4,hpins⟩:∃ env',Heap E β [] m env' w∧RV2s E env' w (a0b β [] m env' w) as args∧g0f E env' 0 (E.sig f).ins (d2z (E.sig f) fn) ins args:=by
   cases hdp:(E.sig f).deep with
   | false=>rw [hdp] at hmode;cases hmode;exact ⟨env,g1,g4,hpins⟩
   | true=>
    rw [hdp] at hmode;obtain ⟨hn,rfl⟩:=M.g5x hmode;obtain ⟨q1,q2,q3⟩:=g1.one (w':=w) (L':=[]) a6e (.row fn.params.toList.length false []) (.slice none 0 0) (.inl (g1.dom _ hn)) (fun _=>⟨_,Names.put_self _ _ _,.nl,.inl rfl⟩) (fun b hb=>by simp at hb) (fun b hb=>by simp at hb) List.nodup_nil
     (fun b hb=>by simp [owns,put_self] at hb) (fun _ _ _ _=>rfl) rfl rfl rfl (Nat.le_refl _)
    exact ⟨_,q1,g4.mono q2 q3,fun k v hk=>q2 _ _ (hpins k v hk)⟩
  have hrel:Rel E β fn.ntmps [] ⟨c6m as,m⟩ { tmps:=args.toArray++Array.replicate (fn.ntmps - args.toArray.size) undef,defers:=[] } w:=by
   refine ⟨⟨env,g1,hpins,fun i=>?_⟩,?_,rfl⟩
   ·have:=c7v (fn.ntmps - args.length) i g4;have he:Act.eval { tmps:=args.toArray++Array.replicate (fn.ntmps - args.toArray.size) undef,defers:=[] } (.tmp i)=(args++List.replicate (fn.ntmps - args.length) undef).getD i undef:=by
     simp only [Act.eval,Array.getD_eq_getD_getElem?,List.getD_eq_getElem?_getD];rw [← Array.getElem?_toList];simp
    rw [he];exact this
   ·simp;omega
  refine calls_of_wp hpf hc ?_;have hI:e8k P E (e7b (R:=Outs) E F k (d2z (E.sig f) fn).length) β:=by
   unfold e7b;cases h2n:Nat.ble (d2z (E.sig f) fn).length 2 with
   | false=>exact fun _ _ _ _ _ _ _ h=>by cases h
   | true=>
    refine e3c hT hTF hF hD 4 fun n v hnv=>?_;have:=e5f hnv;have h2:=a2p h2n;obtain ⟨a,b⟩:=n;exact e3b (c5u.2 (.inl (by simp only at this;omega)))
  refine a5g (β:=β) hT hTF hF hD c hI (by
   cases hn:noS ins with
   | true=>exact .inr (c2i hn)
   | false=>rw [hn] at hnoS;exact .inl hnoS) hdst hrel h2 fun ex σ' a' w' hK hr'=>?_
  have hmain:(e2f E (E.sig f) fn ins σ').run σ'.mem ⟨[],[]⟩ (fun o _ _=>some o)=some out→a'.defers=[]∧∃ v,(results fn a'.tmps).run P w'=.ok v w'∧∃ v',Ending.returned v=.returned v'∧f7r E (E.sig f) fn S bs ins args out w v' w':=by
   intro hK;obtain ⟨⟨env',hh,hpin,hs⟩,hsz,hdf⟩:=hr';obtain ⟨o,m1,p1,ho,he⟩:=M.g5t hK;cases he;unfold e2f at ho;obtain ⟨_,m9,p9,hcl,ho⟩:=M.bind_some ho;obtain ⟨md,m8,p8,hmd,hcl⟩:=M.bind_some hcl;cases M.g6r hmd;obtain ⟨env',hh,he9,hst9⟩:Ghost E β σ'.mem env' w' m9:=by
    cases md with
    | true=>exact c7b hh hcl
    | false=>cases hcl;exact Ghost.refl hh
   have hle9:Names.le _ env':=fun x v hx=>(he9 x).trans hx;have hs:=fun i=>(hs i).mono hle9 hst9;have hpin:=fun i v hi=>hle9 _ _ (hpin i v hi);obtain ⟨as1,m2,p2,k1,hq1⟩:=M.bind_some ho;obtain ⟨rfl,vals,vs,l1,l2,l3,l4⟩:=c0d (P:=P) hT hh hs k1;obtain ⟨res,m3,p3,k2,hq2⟩:=M.bind_some hq1;obtain ⟨br,b1,b2,b3⟩:=b0i hh l3 k2;obtain ⟨vars,m4,p4,k3,hq3⟩:=M.bind_some hq2;cases hq3;rw [List.nil_append] at b1 b2 b3;obtain ⟨bv,c1,c2,c3⟩:=a8u b1 hA.clo hA.sok hpin (by rw [hl1,hl2]) k3;refine ⟨hdf,_,c7r l1,_,rfl,br,bv,c1.nodup,fun b hb=>c1.inL b hb,c1.os,c1.tape,c1.output,c1.size,fun k hk hkb=>c1.block k hk hkb,⟨vals,vs,?_,l2,b3.wide fun b hb=>?_⟩,c3.wide fun b hb=>⟨hb.1,hb.2.1,hb.2.2.2⟩⟩
   ·unfold f5j;split
    ·rename_i t ht;rw [ht] at l4;obtain ⟨v,rfl⟩:=List.length_eq_one_iff.1 l4;rfl
    ·rename_i hno;refine ⟨vals.toArray,?_,rfl⟩;rw [dif_neg];intro hone;have:fn.resultTypes.toList.length=1:=by rw [← l4];simpa using hone
     obtain ⟨t,ht⟩:=List.length_eq_one_iff.1 this;exact hno t ht
   ·have:=(c2.still b hb).1;exact ⟨this.1,this.2.1,this.2.2.2⟩
  cases ex with
  | normal=>exact hmain hK
  | exit i=>cases hK
  | ret=>exact hmain hK
 ·cases h
def e8p (P:Program) (E:Env) (prim:FuncId→Option (List Arg→Option Outs)):Prop:=
 ∀ (f:FuncId) (fn:Func) (g:List Arg→Option Outs) (ins:List Arg) (out:Outs),E.fn f=some fn→prim f=some g→g ins=some out→
  ∀ (w:World) (args:List Value) (bs:List Nat) (S:Nat→Prop),bs.Nodup→(∀ b,b∈bs→b<w.heap.size)→(∀ b,S b→b<w.heap.size∧b ∉ bs)→GOk E w bs→
   AsOk E w S (E.sig f).ins (d2z (E.sig f) fn) ins args bs→
   Calls P f args.toArray w fun e w'=>∃ v,e=.returned v∧f7r E (E.sig f) fn S bs ins args out w v w'
theorem d4j (hT:a1e P E=true) (hTF:TabF P E) (hD:∀ F,e2h P E F→d7y P E F) {prim:FuncId→Option (List Arg→Option Outs)} (hprim:e8p P E prim):∀ k,e2h P E (a0d E prim k)
 | 0,f,fn,ins,out,hfn,h=>by cases h
 | k+1,f,fn,ins,out,hfn,h=>by
  unfold a0d at h;split at h
  ·rename_i g hg;exact hprim f fn g ins out hfn hg h
  ·split at h
   ·rename_i fn' hfn';rw [hfn] at hfn';cases hfn';exact e1f hT hTF (d4j hT hTF hD hprim k) (hD _ (d4j hT hTF hD hprim k)) hfn h
   ·cases h
end
end Go.Proofs.Ytdbopobkdpmpgaa.Ev
