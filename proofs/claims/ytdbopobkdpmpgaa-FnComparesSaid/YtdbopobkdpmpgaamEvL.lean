/- Every operation. No condition. -/
import Derived.Test.YtdbopobkdpmpgaamEvKb
import Derived.Laws.BytesString
namespace Go.Proofs.Ytdbopobkdpmpgaa.Ev
open Go
set_option linter.unusedVariables false
section
variable {P:Program} {E:Env} {β:Base} {m:Mem} {env:Names} {w w':World} {S:Nat→Prop}
def d4c (P:Program) (E:Env) (β:Base) (m:Mem) (env:Names) (w:World) (s:Sem Next) (a:A) (m':Mem):Prop:=
 ∃ n v w' env',s.run P w=.ok n w'∧(n=.value v∨(n=.skip∧v=undef))∧RV E env' w' (a0b β [] m' env' w') a v∧Heap E β [] m' env' w'∧env.le env'∧Still w w' (a0b β [] m env w) (a0b β [] m' env' w')
theorem Gives.op {s:Sem Value} {a:A} {m':Mem} (h:Gives P E β m env w s a m'):d4c P E β m env w (do pure (Next.value (← s)):Sem Next) a m':=by
 obtain ⟨v,w',env',h1,h2,h3,h4,h5⟩:=h;exact ⟨.value v,v,w',env',by simp [h1],.inl rfl,h2,h3,h4,h5⟩
theorem e8c (hT:a1e P E=true) {S:Nat→Prop} {t:Nat} {x i:A} {vx vi:Value} (hx:RV E env w S x vx) (hi:RV E env w S i vi) {a:A} {m m':Mem} {p p':FP} (h:(e6m E t x i).ev m p=some (a,m',p')) :
  m=m'∧∃ v,(Instr.index t vx vi).run P w=.ok v w∧RV E env w S a v:=by
 unfold e6m at h;split at h
 ·rename_i s k j;obtain ⟨hk,hq⟩:=M.g5z h;obtain ⟨hc,hq⟩:=M.g5y hq;cases hq;obtain ⟨c1,c2⟩:=a0a hc;have c1:=of_decide_eq_true c1;have c2:=of_decide_eq_true c2;have hx:vx=.string s:=hx;have hi:vi=.int k j:=hi;subst hx;subst hi;refine ⟨rfl,.int .u8 (e2d s j.toNat),?_,rfl⟩;have hlt:j.toNat<s.size:=by omega
  have hg:s[j.toNat]?=some (s[j.toNat]'hlt):=getElem?_pos s j.toNat hlt;unfold Instr.index;simp only [Sem.run_bind,asIntOf,Sem.run_pure,Result.andThen,run_underlying (d1o hT (c5r hk)),if_pos c1,hg];have e:e2d s j.toNat=((s[j.toNat]'hlt).toNat:Int):=by
   unfold e2d;rw [List.getD_eq_getElem?_getD,Array.getElem?_toList,Array.getElem?_eq_getElem hlt];rfl
  rw [e]
 ·cases h
theorem e4z (ns:List Int) (s:ByteArray):ns.foldl (fun r n=>r.push (UInt8.ofNat n.toNat)) s=⟨(s.data.toList++ns.map fun n=>UInt8.ofNat n.toNat).toArray⟩:=by
 induction ns generalizing s with
 | nil=>simp
 | cons n ns ih=>rw [List.foldl_cons,ih];simp [ByteArray.push]
theorem f2b (hT:a1e P E=true) (h:Heap E β [] m env w) {s t:Nat} (hks:E.known s=true) {x:A} {vx:Value} (hx:RV E env w (a0b β [] m env w) x vx) {a:A} {m':Mem} {p p':FP} (hp:(f4y E s t x).ev m p=some (a,m',p')) :
  m=m'∧∃ v,(convert s t vx).run P w=.ok v w∧RV E env w (a0b β [] m env w) a v:=by
 unfold f4y at hp;cases hst:e6l (E.ti t).kn with
 | false=>rw [hst] at hp;exact f1j hT hks hx hp
 | true=>
  rw [hst] at hp;obtain ⟨hc,hq⟩:=M.g5z hp;obtain ⟨hc,hu8k⟩:=a0a hc;obtain ⟨he,hu8⟩:=a0a hc;obtain ⟨es,m1,p1,h1,hq1⟩:=M.bind_some hq;obtain ⟨rfl,hel⟩:=b3s h hx h1;cases hq1;obtain ⟨hu,hk,_⟩:=a4x hT he;have hfl:E.flat (E.elem s)=[.int .u8]:=by
   unfold u8s at hu8;split at hu8
   ·assumption
   ·cases hu8
  have hue:P.underlying (E.elem s)=some (.int .u8):=e7g hT (by
   unfold u8K at hu8k;split at hu8k
   ·assumption
   ·cases hu8k)
  have hsz:E.sz (E.elem s)=1:=by unfold Env.sz;rw [hfl];rfl
  refine ⟨rfl,.string (e6n es),?_,rfl⟩;rcases hel with ⟨rfl,rfl⟩ | ⟨ad,cap,vs,rfl,hcell,hrc⟩
  ·rw [run_convert_bytes_string w s t (E.elem s) none 0 0 hu hue (d1o hT (c5r hst))];rfl
  ·rw [run_convert_bytes_string w s t (E.elem s) (some ad) es.length cap hu hue (d1o hT (c5r hst))];have hv:∀ i,i<es.length→vs i 0=.int .u8 ((es.getD i []).getD 0 (.i 0)).asI:=by
    intro i hi;have:=hrc i 0 hi (by omega);have hty:a4e E (E.elem s) 0=.int .u8:=by unfold a4e;rw [hfl];rfl
    rw [hty] at this;unfold tAt at this;generalize (es.getD i []).getD 0 (.i 0)=q at this;generalize vs i 0=y at this;cases this;rfl
   have hload:(loadCells ad es.length).run P w=.ok ((es.map fun c=>(c.getD 0 (.i 0)).asI).map (Value.int .u8)).toArray w:=by
    have:=run_loadCells_list (P:=P) w ad ((es.map fun c=>(c.getD 0 (.i 0)).asI).map (Value.int .u8)) (fun j v hj=>by
     simp only [List.getElem?_map,Option.map_eq_some_iff] at hj;obtain ⟨q,⟨c,hc,rfl⟩,rfl⟩:=hj;obtain ⟨hlt,rfl⟩:=List.getElem?_eq_some_iff.1 hc;have:=hcell j 0 hlt (by omega);rw [hsz,Nat.mul_one,Nat.add_zero,hv j hlt] at this;rw [this];simp [List.getD_eq_getElem?_getD,hlt])
    simpa using this
   rw [run_bytesToString w ad es.length cap _ hload,e4z];simp [e6n,Function.comp_def]
theorem f7v (hT:a1e P E=true) {σ:St} {ac:Act} (h:Heap E β [] m env w) (hs:∀ i,RV E env w (a0b β [] m env w) (σ.sl i) (ac.eval (.tmp i))) {o:Oper} {d:Nat} {a:A} {m':Mem} {p p':FP}
  (hp:(opM E σ o d).ev m p=some (a,m',p')):d4c P E β m env w (execOp ac.eval o) a m':=by
 have ho:=fun t x=>b2y (E:=E) hs t x;have hopt:∀ x:Option Operand,c6r E env w (a0b β [] m env w) (x.map (a1y E σ 0)) (x.map ac.eval):=fun x=>by
  cases x with
  | none=>exact .inl ⟨rfl,rfl⟩
  | some x=>exact .inr ⟨_,_,rfl,rfl,ho 0 x⟩
 obtain ⟨dst,op,type,pos,after,guard⟩:=o;cases op <;> simp only [opM] at hp <;> try (cases hp;done)
 case move x=>cases hp;exact (Gives.g6p (s:=Sem.pure (ac.eval x)) h rfl (ho type x)).op
 case assign x=>cases hp;exact (Gives.g6p (s:=Sem.pure (ac.eval x)) h rfl (ho type x)).op
 case pick c x y=>
  have hc:=ho 0 c;split at hp
  ·rename_i b hb;rw [hb] at hc;have hc:ac.eval c=.bool b:=hc;have key:∀ r v,RV E env w (a0b β [] m env w) r v→v=(if b then ac.eval x else ac.eval y)→d4c P E β m env w (execOp ac.eval ⟨dst,.pick c x y,type,pos,after,guard⟩) r m:=by
    intro r v hr hv;refine ⟨.value v,v,w,env,?_,.inl rfl,hr,h,Names.le_refl _,Still.refl _ _⟩;simp only [execOp,hc,asBool,hv];cases b <;> rfl
   split at hp
   ·rename_i p1 q1 hx hy;cases hp;have hx':=ho type x;have hy':=ho type y;rw [hx] at hx';rw [hy] at hy';have hx':ac.eval x=.bool p1:=hx';have hy':ac.eval y=.bool q1:=hy';exact key _ (.bool (bif b then p1 else q1)) rfl (by rw [hx',hy'];cases b <;> rfl)
   ·split at hp
    ·cases hp;exact key _ _ (ho type x) rfl
    ·cases hp;exact key _ _ (ho type y) rfl
  ·cases hp
 case alloc t=>exact (e7k hT h hp).op
 case box t v=>exact (f5n hT h (ho t v) hp).op
 case build t ps=>
  split at hp
  ·rename_i fs hkn;split at hp
   ·rename_i cs hb;obtain ⟨hk,hq⟩:=M.g5z hp;cases hq;obtain ⟨v,h1,h2⟩:=f1q (P:=P) hT hs hkn hk hb;exact (Gives.g6p h h1 h2).op
   ·cases hp
  ·cases hp
 case buildSlice t n ps=>exact (e8a hT h hs hp).op
 case load t x=>
  exact (f1y hT h (ho 0 x) hp).op
 case store t x y=>
  obtain ⟨rfl,w',env',h1,h2,h3,h4⟩:=e7r hT h (ho 0 x) (ho t y) hp;exact ⟨.skip,undef,w',env',by simp [execOp,h1],.inr ⟨rfl,rfl⟩,rfl,h2,h3,h4⟩
 case nilCheck x=>
  have hx:=ho 0 x;split at hp <;> first | (cases hp;done) | skip
  ·rename_i n o' hb;rw [hb] at hx;cases hp;obtain ⟨b,h1,h2⟩:=hx;exact ⟨.value _,_,w,env,by simp only [execOp,h2];rfl,.inl rfl,⟨b,h1,rfl⟩,h,Names.le_refl _,Still.refl _ _⟩
  ·rename_i n e i o' hb;rw [hb] at hx;cases hp;obtain ⟨g,len,cap,h1,h2,h3⟩:=hx;exact ⟨.value _,_,w,env,by simp only [execOp,h3];rfl,.inl rfl,⟨g,len,cap,h1,h2,rfl⟩,h,Names.le_refl _,Still.refl _ _⟩
  ·rename_i tys cs q hb;rw [hb] at hx;cases hp;obtain ⟨g,o',h1,h2⟩:=hx;exact ⟨.value _,_,w,env,by simp only [execOp,h1];rfl,.inl rfl,⟨g,o',rfl,h2⟩,h,Names.le_refl _,Still.refl _ _⟩
 case binOp op xt x y yt=>
  obtain ⟨rfl,v,h1,h2⟩:=f5m (P:=P) hT xt x y (ho xt x) (ho yt y) hp;exact (Gives.g6p h h1 h2).op
 case unOp op xt x=>
  obtain ⟨rfl,v,h1,h2⟩:=f7s (P:=P) (ho xt x) hp;exact (Gives.g6p h h1 h2).op
 case convert s t x=>
  obtain ⟨hk,hq⟩:=M.g5z hp;obtain ⟨rfl,v,h1,h2⟩:=f2b (P:=P) hT h hk (ho s x) hq;exact (Gives.g6p h h1 h2).op
 case makeSlice t n c=>exact (f1z hT h (ho 0 n) (ho 0 c) hp).op
 case slice t x lo hi mx=>
  cases mx with
  | some z=>cases hp
  | none=>
   obtain ⟨_,m1,p1,h1,hq⟩:=M.bind_some hp;obtain ⟨g1,g2⟩:=e7u h h1;have hop:∀ {x:Option A} {v:Option Value},c6r E env w (a0b β [] m env w) x v→c6r E env w (a0b β [] m1 env w) x v:=fun {x v} h5=>by
    rcases h5 with h5 | ⟨a,u,h5,h6,h7⟩
    ·exact .inl h5
    ·exact .inr ⟨a,u,h5,h6,h7.mono (Names.le_refl _) g2⟩
   obtain ⟨rfl,v,h1,h2⟩:=e7i (P:=P) hT g1 ((ho t x).mono (Names.le_refl _) g2) (hop (hopt lo)) (hop (hopt hi)) hq;exact (Gives.still g2 (Gives.g6p g1 h1 h2)).op
 case fieldAddr t x j=>
  obtain ⟨rfl,v,h1,h2⟩:=d3w (P:=P) hT (ho 0 x) hp;exact (Gives.g6p h h1 h2).op
 case field t x j=>
  obtain ⟨rfl,v,h1,h2⟩:=e7h (P:=P) hT (ho t x) hp;exact (Gives.g6p h h1 (b7w h2)).op
 case indexAddr t x i=>
  obtain ⟨rfl,v,h1,h2⟩:=d3x (P:=P) hT h (ho t x) (ho 0 i) hp;exact (Gives.g6p h h1 h2).op
 case index t x i=>
  obtain ⟨rfl,v,h1,h2⟩:=e8c (P:=P) hT (ho t x) (ho 0 i) hp;exact (Gives.g6p h h1 h2).op
 case makeFunc fn first captured=>
  cases fn with
  | func f=>
   simp only at hp;split at hp
   ·rename_i hf hc;cases hp;have e1:first=#[]:=by apply Array.toList_inj.1;simpa using hf
    have e2:captured=#[]:=by apply Array.toList_inj.1;simpa using hc
    exact (Gives.g6p (a:=.clo f none) (v:=.func (.func f) #[] #[]) h (by rw [e1,e2];simp [Instr.makeFunc]) rfl).op
   ·rename_i n hf hc;cases hp;have e1:first=#[]:=by apply Array.toList_inj.1;simpa using hf
    obtain ⟨x,e2,e3⟩:∃ x,captured=#[x]∧a1y E σ 0 x=.ptr n 0:=by
     have hl:captured.toList.length=1:=by have:=congrArg List.length hc;simpa using this
     obtain ⟨x,hx⟩:=List.length_eq_one_iff.1 hl;rw [hx] at hc;exact ⟨x,by apply Array.toList_inj.1;simpa using hx,by simpa using hc⟩
    have hx:=ho 0 x;rw [e3] at hx;obtain ⟨b,h1,h2⟩:=hx;exact (Gives.g6p (a:=.clo f (some n)) (v:=.func (.func f) #[] #[.pointer (some ⟨b,0,none⟩)]) h (by rw [e1,e2];simp [Instr.makeFunc,h2]) ⟨b,h1,rfl⟩).op
   ·cases hp
  | _=>cases hp
 case extract x j=>
  have hx:=ho 0 x;split at hp
  ·rename_i vs hb;rw [hb] at hx;obtain ⟨arr,h1,h2⟩:=hx;split at hp
   ·rename_i v hv;cases hp;have hget:∀ {as:List A} {us:List Value} {j:Nat} {v:A},RV2s E env w (a0b β [] m env w) as us→as[j]?=some v→∃ u,us[j]?=some u∧RV2 E env w (a0b β [] m env w) v u:=by
     intro as
     induction as with
     | nil=>intro us j v hr hj;simp at hj
     | cons a as ih=>
      intro us j v hr hj;cases us with
      | nil=>exact hr.elim
      | cons u us=>
       cases j with
       | zero=>simp at hj;subst hj;exact ⟨u,rfl,hr.1⟩
       | succ j=>simpa using ih hr.2 (by simpa using hj)
    obtain ⟨u,hu,hr⟩:=hget h2 hv;have hu':arr[j]?=some u:=by simpa using hu
    exact (Gives.g6p (v:=u) h (by simp [h1,Instr.extract,hu']) (b7w hr)).op
   ·cases hp
  ·cases hp
 case call c=>
  obtain ⟨callee,args,argTypes⟩:=c;cases callee with
  | builtin b=>
   have hrun:∀ {s:Sem Value} {r:A} {m':Mem},Gives P E β m env w s r m'→Go.builtin b argTypes type (args.map fun | .const _=>true | _=>false) (args.map ac.eval)=(do pure (Next.value (← s)):Sem Next)→
     d4c P E β m env w (execOp ac.eval ⟨dst,.call ⟨.builtin b,args,argTypes⟩,type,pos,after,guard⟩) r m':=by
    intro s r m' hg he;obtain ⟨n,v,w',env',h1,rest⟩:=hg.op;refine ⟨n,v,w',env',?_,rest⟩;simp only [execOp,resolve,Sem.run_bind,Sem.run_pure,Result.andThen_ok,invoke];exact (congrArg (fun s=>Sem.run P s w) he).trans h1
   have hp1:(b7h E σ d b args.toList argTypes.toList).ev m p=some (a,m',p'):=hp;clear hp;have hp:=hp1;clear hp1;unfold b7h at hp;split at hp
   ·rename_i x t ha ht;split at hp
    ·rename_i e hkn;obtain ⟨rfl,b,n,c,h2,rfl⟩:=f1l h (ho t x) hp;have ha':args=#[x]:=by apply Array.toList_inj.1;simpa using ha
     have ht':argTypes=#[t]:=by apply Array.toList_inj.1;simpa using ht
     subst ha';subst ht';exact hrun (s:=Builtin.len_ #[t] type #[ac.eval x]) (Gives.g6p (v:=.int .i64 n) h (by simp [Builtin.len_,run_underlying (d3t hT hkn),h2,goInt]) rfl) (by simp [Go.builtin])
    ·rename_i hkn;split at hp
     ·rename_i s hb;cases hp;have ha':args=#[x]:=by apply Array.toList_inj.1;simpa using ha
      have ht':argTypes=#[t]:=by apply Array.toList_inj.1;simpa using ht
      subst ha';subst ht';have h2:=ho t x;rw [hb] at h2;have h2:ac.eval x=.string s:=h2;exact hrun (s:=Builtin.len_ #[t] type #[ac.eval x]) (Gives.g6p (v:=.int .i64 (s.size:Int)) h (by simp [Builtin.len_,run_underlying (d1o hT hkn),h2,goInt]) rfl) (by simp [Go.builtin])
     ·cases hp
    ·cases hp
   ·rename_i x y t u ha ht;obtain ⟨htu,hq⟩:=M.g5z hp;cases Nat.eq_of_beq_eq_true htu;have ha':args=#[x,y]:=by apply Array.toList_inj.1;simpa using ha
    have ht':argTypes=#[t,t]:=by apply Array.toList_inj.1;simpa using ht
    subst ha';subst ht';exact hrun (e4w (ty:=type) hT h (ho t x) (ho t y) hq) (by simp [Go.builtin])
   ·rename_i x y t u ha ht;have ha':args=#[x,y]:=by apply Array.toList_inj.1;simpa using ha
    have ht':argTypes=#[t,u]:=by apply Array.toList_inj.1;simpa using ht
    subst ha';subst ht';exact hrun (f1p (u:=u) (ty:=type) hT h (ho t x) (ho u y) hp) (by simp [Go.builtin])
   ·rename_i x t ha ht;have ha':args=#[x]:=by apply Array.toList_inj.1;simpa using ha
    have ht':argTypes=#[t]:=by apply Array.toList_inj.1;simpa using ht
    subst ha';subst ht';exact hrun (e7n (ty:=type) hT h (ho t x) hp) (by simp [Go.builtin])
   ·rename_i x y t u ha ht;have ha':args=#[x,y]:=by apply Array.toList_inj.1;simpa using ha
    subst ha';split at hp
    ·rename_i k a1 k' b1 hx hy;obtain ⟨hk,hq⟩:=M.g5z hp;cases b1c hk;cases hq;have hx':=ho t x;have hy':=ho u y;rw [hx] at hx';rw [hy] at hy';have hx':ac.eval x=.int k a1:=hx';have hy':ac.eval y=.int k b1:=hy';exact hrun (s:=Builtin.max_ argTypes type #[ac.eval x,ac.eval y]) (Gives.g6p (v:=.int k (if b1 > a1 then b1 else a1)) h (by simp [Builtin.max_,hx',hy',Builtin.max2]) rfl) (by simp [Go.builtin])
    ·cases hp
   ·rename_i x y t u ha ht;have ha':args=#[x,y]:=by apply Array.toList_inj.1;simpa using ha
    subst ha';split at hp
    ·rename_i k a1 k' b1 hx hy;obtain ⟨hk,hq⟩:=M.g5z hp;cases b1c hk;cases hq;have hx':=ho t x;have hy':=ho u y;rw [hx] at hx';rw [hy] at hy';have hx':ac.eval x=.int k a1:=hx';have hy':ac.eval y=.int k b1:=hy';exact hrun (s:=Builtin.min_ argTypes type #[ac.eval x,ac.eval y]) (Gives.g6p (v:=.int k (if b1<a1 then b1 else a1)) h (by simp [Builtin.min_,hx',hy',Builtin.min2]) rfl) (by simp [Go.builtin])
    ·cases hp
   ·cases hp
  | value f=>cases hp
  | invoke r n=>cases hp
end
end Go.Proofs.Ytdbopobkdpmpgaa.Ev
