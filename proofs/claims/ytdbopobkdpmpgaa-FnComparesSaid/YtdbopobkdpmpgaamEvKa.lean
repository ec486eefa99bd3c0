/- Rows that are own with all that they lead to: what a store, an append, a make does to one. No condition. -/
import Derived.Test.YtdbopobkdpmpgaamEvK
namespace Go.Proofs.Ytdbopobkdpmpgaa.Ev
open Go
set_option linter.unusedVariables false
section
variable {P:Program} {E:Env} {β:Base} {L:List Nat} {m:Mem} {env:Names} {w w':World} {S:Nat→Prop}
def f7d (fps:Nat→List Nat):Nat→List Nat
 | 0=>[]
 | N+1=>f7d fps N++fps N
theorem c5s {fps:Nat→List Nat} {b:Nat}:∀ {N:Nat},b∈f7d fps N↔∃ p,p<N∧b∈fps p
 | 0=>by simp [f7d]
 | N+1=>by
  rw [f7d,List.mem_append,c5s];constructor
  ·rintro (⟨p,h1,h2⟩ | h)
   ·exact ⟨p,by omega,h2⟩
   ·exact ⟨N,by omega,h⟩
  ·rintro ⟨p,h1,h2⟩
   by_cases hp:p=N
   ·subst hp;exact .inr h2
   ·exact .inl ⟨p,by omega,h2⟩
theorem d1t {fps:Nat→List Nat}:∀ {N:Nat},(∀ p,p<N→(fps p).Nodup)→(∀ p q b,p<N→q<N→b∈fps p→b∈fps q→p=q)→(f7d fps N).Nodup
 | 0,_,_=>List.nodup_nil
 | N+1,h1,h2=>List.nodup_append.2 ⟨d1t (fun p hp=>h1 p (by omega)) (fun p q b hp hq=>h2 p q b (by omega) (by omega)),h1 N (by omega),fun x hx y hy hxy=>by
  subst hxy;obtain ⟨p,hp,hpx⟩:=c5s.1 hx;have:=h2 p N x (by omega) (by omega) hpx hy;omega⟩
theorem Foot.ex (own:Option Nat) (N:Nat) (fps:Nat→List Nat) (hn:∀ p,p<N→(fps p).Nodup) (d1:∀ p b,p<N→b∈fps p→own≠some b) (d2:∀ p q b,p<N→q<N→b∈fps p→b∈fps q→p=q):∃ bs,Foot own N fps bs:=by
 refine ⟨own.toList++f7d fps N,fun b=>?_,?_,d1,d2⟩
 ·rw [List.mem_append,c5s];simp
 ·refine List.nodup_append.2 ⟨by cases own <;> simp,d1t hn d2,fun x hx y hy hxy=>?_⟩;subst hxy;obtain ⟨p,hp,h⟩:=c5s.1 hy;exact d1 p x hp h (by simpa using hx)
theorem RC.dc {ty:Ty} {t:T} {v:Value} (hf:ty.flatB=true) (h:RC E w S ty t v):DC E w ty t v []:=by
 cases h with
 | int=>exact .int
 | bool=>exact .bool
 | str=>exact .str
 | nl=>cases hf
 | emp=>cases hf
 | row=>cases hf
theorem DC.flat0 {ty:Ty} {t:T} {v:Value} {bs:List Nat} (hf:ty.flatB=true) (h:DC E w ty t v bs):bs=[]∧∀ S,RC E w S ty t v:=by
 cases h with
 | int=>exact ⟨rfl,fun _=>.int⟩
 | bool=>exact ⟨rfl,fun _=>.bool⟩
 | str=>exact ⟨rfl,fun _=>.str⟩
 | row=>cases hf
theorem d4a {e j:Nat} (h:E.plain e=true) (hj:j<E.sz e):(a4e E e j).flatB=true:=by
 have hj':j<(E.flat e).length:=hj;unfold a4e;rw [List.getD_eq_getElem?_getD,List.getElem?_eq_getElem hj',Option.getD_some];exact List.all_eq_true.1 h _ (List.getElem_mem hj')
theorem DC.plain {e:Nat} (hpl:E.plain e=true) {es:List (List T)} {v:Value} {xs:List Value} (ho:w.ownsRow 0 e (E.sz e) v es.length xs) (hr:a9c E w S e es xs):DC E w (.row e) (.r es) v v.ownBlock.toList:=by
 refine .row (fun _=>[]) ho (fun i j hi hj=>?_) ⟨fun b=>by simp,by cases v.ownBlock <;> simp,fun p b _ h=>by simp at h,fun p q b _ _ h=>by simp at h⟩;obtain ⟨u,hu,hc⟩:=hr i j hi hj;rw [hu];exact hc.dc (d4a hpl hj)
theorem DC.unplain {e:Nat} (hpl:E.plain e=true) {t:T} {v:Value} {bs:List Nat} (h:DC E w (.row e) t v bs) :
  ∃ es xs,t=.r es∧w.ownsRow 0 e (E.sz e) v es.length xs∧(∀ S,a9c E w S e es xs)∧∀ b,b∈bs↔v.ownBlock=some b:=by
 cases h with
 | @row e es v xs bs fps ho hc hm=>
  refine ⟨es,xs,rfl,ho,fun S i j hi hj=>?_,fun b=>?_⟩
  ·have hx:i*E.sz e+j<xs.length:=by rw [ho.1];exact a1w hi hj
   have:=(hc i j hi hj).flat0 (d4a hpl hj);rw [List.getElem?_eq_getElem hx] at this ⊢;exact ⟨_,rfl,this.2 S⟩
  ·rw [hm.mem];refine ⟨fun h=>?_,.inl⟩;rcases h with h | ⟨p,hp,hb⟩
   ·exact h
   ·have hsz:0<E.sz e:=by
     rcases Nat.eq_zero_or_pos (E.sz e) with h0 | h0
     ·rw [h0] at hp;simp at hp
     ·exact h0
    have hpi:p / E.sz e<es.length:=Nat.div_lt_of_lt_mul (by rw [Nat.mul_comm];exact hp);have hpj:=Nat.mod_lt p hsz;have:=((hc _ _ hpi hpj).flat0 (d4a hpl hpj)).1;rw [Nat.div_add_mod'] at this;rw [this] at hb;cases hb
theorem f4a:∀ {tys:List Ty} {ts:List T} {vs:List Value} {bs:List Nat},BCs E w S (tys.map fun | .row _=>true | _=>false) (d0c E tys) ts vs bs→bs.Nodup→
  ts.length=tys.length∧vs.length=tys.length∧∃ nfp:Nat→List Nat,(∀ j,j<tys.length→DC E w (tys.getD j .bool) (ts.getD j (.i 0)) (vs[j]?.getD undef) (nfp j))∧(∀ j b,b∈nfp j→b∈bs)∧∀ i j b,b∈nfp i→b∈nfp j→i=j
 | [],[],[],bs,h,_=>⟨rfl,rfl,fun _=>[],fun j hj=>by simp at hj,fun j b h=>by simp at h,fun i j b h=>by simp at h⟩
 | ty :: tys,t :: ts,v :: vs,bs,h,hnd=>by
  have h:∃ b1 b2,bs=b1++b2∧DC E w ty t v b1∧BCs E w S (tys.map fun | .row _=>true | _=>false) (d0c E tys) ts vs b2:=by
   cases ty with
   | row e=>
    obtain ⟨b1,b2,h1,h2,h3⟩:=h;refine ⟨b1,b2,h1,?_,h3⟩;have h2:BC E w S true (bif E.plain e then .row e else .deep e) t v b1:=h2;cases hpl:E.plain e with
    | true=>
     rw [hpl] at h2;obtain ⟨⟨es,xs,rfl,ho,hr⟩,rfl⟩:=h2;exact DC.plain hpl ho hr
    | false=>
     rw [hpl] at h2;obtain ⟨es,rfl,hd⟩:=h2;exact hd
   | int k=>obtain ⟨b1,b2,h1,h2,h3⟩:=h;obtain ⟨hc,rfl⟩:=h2;exact ⟨[],b2,h1,hc.dc rfl,h3⟩
   | bool=>obtain ⟨b1,b2,h1,h2,h3⟩:=h;obtain ⟨hc,rfl⟩:=h2;exact ⟨[],b2,h1,hc.dc rfl,h3⟩
   | str=>obtain ⟨b1,b2,h1,h2,h3⟩:=h;obtain ⟨hc,rfl⟩:=h2;exact ⟨[],b2,h1,hc.dc rfl,h3⟩
   | ptr e=>obtain ⟨b1,b2,h1,h2,h3⟩:=h;obtain ⟨hc,_⟩:=h2;cases hc
   | deep e=>obtain ⟨b1,b2,h1,h2,h3⟩:=h;obtain ⟨hc,_⟩:=h2;cases hc
  obtain ⟨b1,b2,rfl,h1,h2⟩:=h;obtain ⟨hn1,hn2,hn3⟩:=List.nodup_append.1 hnd;obtain ⟨l1,l2,nfp,k1,k2,k3⟩:=f4a h2 hn2;refine ⟨by simp [l1],by simp [l2],fun | 0=>b1 | j+1=>nfp j,fun j hj=>?_,fun j b hb=>?_,fun i j b hi hj=>?_⟩
  ·cases j with
   | zero=>exact h1
   | succ j=>simpa using k1 j (by simpa using hj)
  ·cases j with
   | zero=>exact List.mem_append_left _ hb
   | succ j=>exact List.mem_append_right _ (k2 j b hb)
  ·cases i with
   | zero=>cases j with
    | zero=>rfl
    | succ j=>exact (hn3 b hi b (k2 j b hj) rfl).elim
   | succ i=>cases j with
    | zero=>exact (hn3 b hj b (k2 i b hi) rfl).elim
    | succ j=>rw [k3 i j b hi hj]
 | [],[],_ :: _,_,h,_=>h.elim
 | [],_ :: _,_,_,h,_=>h.elim
 | ty :: _,[],_,_,h,_=>by cases ty <;> exact h.elim
 | ty :: _,_ :: _,[],_,h,_=>by cases ty <;> exact h.elim
theorem d7m (h:Heap E β L m env w) {tys:List Ty} {as:List A} {vs:List Value} (hv:RVs E env w (a0b β L m env w) as vs) {ts:List T} {m':Mem} {p p':FP} (hp:(d1h E tys as).ev m p=some (ts,m',p')) :
  ∃ (bs:List Nat) (nfp:Nat→List Nat),Heap E β (L++bs) m' env w∧Prog β env w L m (L++bs) m'∧ts.length=tys.length∧vs.length=tys.length∧
   (∀ j,j<tys.length→DC E w (tys.getD j .bool) (ts.getD j (.i 0)) (vs[j]?.getD undef) (nfp j))∧(∀ j b,b∈nfp j→b∈bs)∧∀ i j b,b∈nfp i→b∈nfp j→i=j:=by
 unfold d1h at hp;obtain ⟨bs,h1,h2,h3⟩:=b0i h hv hp;obtain ⟨l1,l2,nfp,k1,k2,k3⟩:=f4a h3 (List.nodup_append.1 h1.nodup).2.1;exact ⟨bs,nfp,h1,h2,l1,l2,k1,k2,k3⟩
theorem f7t {i i' o k j sz:Nat} (hk:o+k≤sz) (hj:j<sz):(i*sz+o≤i'*sz+j∧i'*sz+j<i*sz+o+k)↔(i'=i∧o≤j∧j<o+k):=by
 constructor
 ·rintro ⟨h1,h2⟩
  have:i'=i:=by
   rcases Nat.lt_trichotomy i' i with h | h | h
   ·have:=Nat.mul_le_mul_right sz (show i'+1≤i from h);rw [Nat.add_mul] at this;omega
   ·exact h
   ·have:=Nat.mul_le_mul_right sz (show i+1≤i' from h);rw [Nat.add_mul] at this;omega
  subst this;exact ⟨rfl,by omega,by omega⟩
 ·rintro ⟨rfl,h1,h2⟩;omega
theorem e0w {es:List (List T)} {i o i' j:Nat} {ts:List T} (hi:i<es.length) :
  tAt (es.set i (a1q (es.getD i []) o ts)) i' j=if i'=i∧o≤j∧j<o+ts.length then ts.getD (j - o) (.i 0) else tAt es i' j:=by
 by_cases hii:i'=i
 ·subst hii;have hat:tAt (es.set i' (a1q (es.getD i' []) o ts)) i' j=(a1q (es.getD i' []) o ts).getD j (.i 0):=by
   simp [tAt,List.getD_eq_getElem?_getD,hi]
  rw [hat,b4k];simp only [true_and];rfl
 ·rw [if_neg (fun h=>hii h.1)];simp [tAt,List.getD_eq_getElem?_getD,Ne.symm hii]
theorem e4s (hT:a1e P E=true) {t:Nat} (hk:E.known t=true) {v:Value} (hv:v.cells.size=E.sz t) (h1:∀ u,u∈v.cells.toList→u.oneCell'=true) {g cap e i o n:Nat} {xs:List Value}
  (ho:w.ownsRow 0 e (E.sz e) (.slice (some ⟨g,0,none⟩) n cap) n xs) (hi:i<n) (hle:o+E.sz t≤E.sz e) :
  ∃ w' ys,(Instr.storeAt t (.pointer (some ⟨g,i*E.sz e+o,none⟩)) v).run P w=.ok () w'∧w'.ownsRow 0 e (E.sz e) (.slice (some ⟨g,0,none⟩) n cap) n ys∧
   (∀ k,k<n*E.sz e→ys[k]?=if i*E.sz e+o≤k∧k<i*E.sz e+o+E.sz t then v.cells.toList[k - (i*E.sz e+o)]? else xs[k]?)∧
   (∀ b,b≠g→w'.heap[b]?=w.heap[b]?)∧w'.heap.size=w.heap.size∧w'.os=w.os∧w'.tape=w.tape∧w'.output=w.output:=by
 rcases ho.2 with ⟨h0,_⟩ | ⟨g',cap',cur,h0,hb0,hgg,hnc,hcm,hcs,htake⟩
 ·cases h0
 ·cases h0;have hin:i*E.sz e+o+E.sz t≤n*E.sz e:=by
   have:=Nat.mul_le_mul_right (E.sz e) (show i+1≤n from hi);rw [Nat.add_mul] at this;omega
  have hcap:n*E.sz e≤cap*E.sz e:=Nat.mul_le_mul_right _ hnc;have hrun:=b8x hT hk hv h1 hgg (o:=i*E.sz e+o) (by omega);have hvl:v.cells.toList.length=E.sz t:=by simpa using hv
  have hfit:i*E.sz e+o+v.cells.toList.length≤cur.toList.length:=by rw [hvl,Array.length_toList,hcs];omega
  have hcut:=fun k=>b8y cur.toList v.cells.toList (i*E.sz e+o) k hfit;rw [hvl] at hcut;generalize hnew:cur.toList.take (i*E.sz e+o)++v.cells.toList++cur.toList.drop (i*E.sz e+o+E.sz t)=new at hcut hrun;have hnl:new.length=cur.size:=by
   rw [← hnew];simp only [List.length_append,List.length_take,List.length_drop,hvl,Array.length_toList];rw [hcs];omega
  refine ⟨_,new.take (n*E.sz e),hrun,⟨?_,.inr ⟨g,cap,new.toArray,rfl,Nat.zero_le _,setRow_heap w g cur _ e _ hgg,hnc,hcm,?_,?_⟩⟩,fun k hk=>?_,fun b hb=>setRow_other w g b _ hb,by simp,rfl,rfl,rfl⟩
  ·rw [List.length_take,hnl,hcs];omega
  ·simp [hnl,hcs]
  ·rfl
  ·rw [List.getElem?_take,if_pos hk,hcut];split
   ·rfl
   ·rw [← htake,List.getElem?_take,if_pos hk]
end
section
variable {P:Program} {E:Env} {β:Base} {L:List Nat} {m:Mem} {env:Names} {w w':World} {S:Nat→Prop}
theorem M.g6q {α:Type} {n:Nm} {k:Option O→M α} {m:Mem} {p:FP} {q:α×Mem×FP} (h:(M.get n k).ev m p=some q):∃ p',(k (m n)).ev m p'=some q:=⟨_,h⟩
theorem f5o {a b:Bool} (h:(a || b)=true):a=true∨b=true:=by cases a <;> cases b <;> simp at h ⊢
theorem c6w (hT:a1e P E=true) (h:Heap E β [] m env w) {t:Nat} {y:A} {n:Nm} {e i o:Nat} {vx vy:Value} (hx:RV E env w (a0b β [] m env w) (.ep n e i o) vx) (hy:RV E env w (a0b β [] m env w) y vy)
  {ts:List T} {m1:Mem} {p p1:FP} (hk:E.known t=true) (hle:o+E.sz t≤E.sz e) (hsol:a0o y.cells=true) (h1:(d1h E (((E.flat e).drop o).take (E.sz t)) y.cells).ev m p=some (ts,m1,p1))
  {es:List (List T)} {hh:Option (Nat×Nat×Nm)} (hn:m1 n=some (.deep e es hh)) (hhole:∀ i' j' n',hh=some (i',j',n')→i'=i∧(o≤j'∧j'<o+E.sz t∨o=0∧E.sz t=E.sz e)) :
  ∃ w' env',(Instr.storeAt t vx vy).run P w=.ok () w'∧Heap E β [] (m1.put n (.deep e (es.set i (a1q (es.getD i []) o ts)) none)) env' w'∧env.le env'∧Still w w' (a0b β [] m env w) (a0b β [] (m1.put n (.deep e (es.set i (a1q (es.getD i []) o ts)) none)) env' w')∧
   (∀ j,j<E.sz t→∃ F',(∀ b,b∈F'→owns (m1.put n (.deep e (es.set i (a1q (es.getD i []) o ts)) none)) env' n b∧∀ v,env' n=some v→v.ownBlock≠some b)∧DC E w' ((((E.flat e).drop o).take (E.sz t)).getD j .bool) (ts.getD j (.i 0)) (vy.cells.toList[j]?.getD undef) F')∧
   RVs E env w (a0b β [] m env w) y.cells vy.cells.toList:=by
 have hyc:=b2f hsol hy;obtain ⟨bs,nfp,g1,g2,l1,l2,k1,k2,k3⟩:=d7m h hyc h1;rw [List.nil_append] at g1 g2;have hty:(((E.flat e).drop o).take (E.sz t)).length=E.sz t:=by simp [Env.sz] at hle ⊢;omega
 simp only [hty] at l1 l2 k1;have hhin:∀ i' j,j<E.sz e→¬ (i'=i∧o≤j∧j<o+E.sz t)→(∀ n',hh≠some (i',j,n'))∧∀ k n',hh=some (i',k,n')→k<E.sz e:=fun i' j hj hne=>by
  refine ⟨fun n' hx=>?_,fun k n' hx=>?_⟩
  ·obtain ⟨rfl,a2⟩:=hhole _ _ _ hx;exact hne ⟨rfl,by omega,by omega⟩
  ·obtain ⟨rfl,a2⟩:=hhole _ _ _ hx;rcases a2 with a2 | a2
   ·omega
   ·exact (hne ⟨rfl,by omega,by omega⟩).elim
 obtain ⟨v,xs,fps,e1,e2,e3,e4,e5⟩:=g1.obj n _ hn;obtain ⟨g,len,cap,f1,hi,rfl⟩:=hx;rw [e1] at f1;cases f1;have hlen':len=es.length:=by
  rcases e2.2 with ⟨h0,_⟩ | ⟨g',cap',cur,h0,_⟩
  ·cases h0
  ·cases h0;rfl
 subst hlen';obtain ⟨w',ys,hrun,ho,hys,hother,hsize,hos,htape,hout⟩:=e4s (P:=P) hT hk (v:=vy) (by simpa using l2) (d3y hsol hyc) e2 hi hle;have hownF:∀ b,owns m1 env n b↔b∈env.fp n:=fun b=>by simp [owns,hn]
 have hgF:g∈env.fp n:=(e5.mem g).2 (.inl rfl);have hnew:∀ j b,b∈nfp j→b ∉ env.fp n:=fun j b hb hF=>(g1.inb n b ((hownF b).2 hF)).2.2 (k2 j b hb);have hin:∀ i' j,j<E.sz e→((i*E.sz e+o≤i'*E.sz e+j∧i'*E.sz e+j<i*E.sz e+o+E.sz t)↔(i'=i∧o≤j∧j<o+E.sz t)):=fun i' j hj=>f7t hle hj
 let fps':Nat→List Nat:=fun q=>if i*E.sz e+o≤q∧q<i*E.sz e+o+E.sz t then nfp (q - (i*E.sz e+o)) else fps q
 have hfoot:∃ F,Foot (some g) (es.length*E.sz e) fps' F:=by
  refine Foot.ex _ _ _ (fun q hq=>?_) (fun q b hq hb=>?_) (fun q r b hq hr hb hb'=>?_)
  ·simp only [fps'];split
   ·rename_i hr;exact (k1 _ (by omega)).nodup
   ·rename_i hr;have hsz:0<E.sz e:=by have:=a2n hk;omega
    have hpi:q / E.sz e<es.length:=Nat.div_lt_of_lt_mul (by rw [Nat.mul_comm];exact hq);have hpj:=Nat.mod_lt q hsz;have hno:=hhin (q / E.sz e) (q % E.sz e) hpj (fun a123=>by
     have:=(hin (q / E.sz e) (q % E.sz e) hpj).2 a123;rw [Nat.div_add_mod'] at this;exact hr this)
    have:=e3 (q / E.sz e) (q % E.sz e) hpi hpj hno.1 hno.2;rw [Nat.div_add_mod'] at this;exact this.nodup
  ·simp only [fps'] at hb;split at hb
   ·intro hg;cases hg;exact hnew _ _ hb hgF
   ·exact e5.d1 q b hq hb
  ·simp only [fps'] at hb hb';split at hb <;> split at hb'
   ·have:=k3 _ _ b hb hb';omega
   ·exact (hnew _ _ hb ((e5.mem b).2 (.inr ⟨r,hr,hb'⟩))).elim
   ·exact (hnew _ _ hb' ((e5.mem b).2 (.inr ⟨q,hq,hb⟩))).elim
   ·exact e5.d2 q r b hq hr hb hb'
 obtain ⟨F,hF⟩:=hfoot;have hown':∀ b,owns (m1.put n (.deep e (es.set i (a1q (es.getD i []) o ts)) none)) (env.putD n (.slice (some ⟨g,0,none⟩) es.length cap) F) n b↔b∈F:=fun b=>by simp [owns,put_self,Names.g6c]
 have hFb:∀ b,b∈F→owns m1 env n b∨b∈bs:=fun b hb=>by
  rcases (hF.mem b).1 hb with h5 | ⟨q,hq,h5⟩
  ·cases h5;exact .inl ((hownF g).2 hgF)
  ·simp only [fps'] at h5;split at h5
   ·exact .inr (k2 _ b h5)
   ·exact .inl ((hownF b).2 ((e5.mem b).2 (.inr ⟨q,hq,h5⟩)))
 have key:=g1.oneD (w':=w') (L':=[]) n (.deep e (es.set i (a1q (es.getD i []) o ts)) none) _ F (.inr e1) (fun hst=>by
   refine ⟨_,ys,fps',Names.g6a _ _ _ _,by rw [List.length_set];exact ho,fun i' j hi' hj _ _=>?_,⟨fun _ _ _ h=>(by cases h),HoleE.none⟩,by rw [List.length_set,Names.g6c];exact hF⟩;rw [List.length_set] at hi';rw [e0w hi,l1,hys _ (a1w hi' hj)];simp only [fps'];by_cases hir:i'=i∧o≤j∧j<o+E.sz t
   ·rw [if_pos hir,if_pos ((hin i' j hj).2 hir),if_pos ((hin i' j hj).2 hir)];obtain ⟨rfl,a2,a3⟩:=hir;have hd:=k1 (j - o) (by omega);have htt:(((E.flat e).drop o).take (E.sz t)).getD (j - o) .bool=a4e E e j:=by
     simp only [a4e,List.getD_eq_getElem?_getD,List.getElem?_take,List.getElem?_drop];rw [if_pos (by omega)];congr 2;omega
    rw [htt] at hd;rw [show i'*E.sz e+j - (i'*E.sz e+o)=j - o by omega];exact hd.mono fun b hb=>hother b fun e=>hnew _ _ hb (by rw [e];exact hgF)
   ·rw [if_neg hir,if_neg (fun h=>hir ((hin i' j hj).1 h)),if_neg (fun h=>hir ((hin i' j hj).1 h))];exact (e3 i' j hi' hj (hhin i' j hj hir).1 (hhin i' j hj hir).2).mono fun b hb=>hother b fun e=>e5.d1 _ b (a1w hi' hj) hb (by rw [e];rfl))
  (fun b hb=>by simp at hb) (fun b hb=>by simp at hb) List.nodup_nil
  (fun b hb=>by
   have hb:=(hown' b).1 hb;rcases hFb b hb with h5 | h5
   ·exact ⟨by rw [hsize];exact (g1.inb _ _ h5).1,.inl h5⟩
   ·exact ⟨by rw [hsize];exact (g1.inL _ h5).1,.inr (.inr h5)⟩)
  (fun b _ hb _=>hother b fun e=>hb ((hownF b).2 (by rw [e];exact hgF))) hos htape hout (by rw [hsize];exact Nat.le_refl _)
 refine ⟨w',_,hrun,key.1,key.2.1,g2.still.trans key.2.2,fun j hj=>⟨nfp j,fun b hb=>⟨(hown' b).2 ((hF.mem b).2 (.inr ⟨i*E.sz e+o+j,?_,?_⟩)),fun v hv hb'=>?_⟩,(k1 j hj).mono fun b hb=>hother b fun e=>hnew _ _ hb (by rw [e];exact hgF)⟩,hyc⟩
 ·rw [Nat.add_assoc];exact a1w hi (by omega)
 ·simp only [fps'];rw [if_pos (by omega),show i*E.sz e+o+j - (i*E.sz e+o)=j by omega];exact hb
 ·rw [Names.g6a] at hv;cases hv;cases hb';exact hnew _ _ hb hgF
theorem d7n (hT:a1e P E=true) (h:Heap E β [] m env w) {t:Nat} {y:A} {n:Nm} {e i o:Nat} {vx vy:Value} (hx:RV E env w (a0b β [] m env w) (.ep n e i o) vx) (hy:RV E env w (a0b β [] m env w) y vy)
  {a:A} {m':Mem} {p p':FP} (hp:(d7b E t y n e i o).ev m p=some (a,m',p')) :
  a=.skip∧∃ w' env',(Instr.storeAt t vx vy).run P w=.ok () w'∧Heap E β [] m' env' w'∧env.le env'∧Still w w' (a0b β [] m env w) (a0b β [] m' env' w'):=by
 unfold d7b at hp;obtain ⟨hc,hp1⟩:=M.g5z hp;obtain ⟨hc1,hsol⟩:=a0a hc;obtain ⟨hc2,hlen⟩:=a0a hc1;obtain ⟨hk,hle⟩:=a0a hc2;have hle:=a2p hle;have hlen:=Nat.eq_of_beq_eq_true hlen;obtain ⟨ts,m1,p1,h1,hq⟩:=M.bind_some hp1;have key:∃ es hh,m1 n=some (.deep e es hh)∧(∀ i' j' n',hh=some (i',j',n')→i'=i∧(o≤j'∧j'<o+E.sz t∨o=0∧E.sz t=E.sz e))∧a=.skip∧m'=m1.put n (.deep e (es.set i (a1q (es.getD i []) o ts)) none):=by
  obtain ⟨p2,hq⟩:=M.g6q hq;split at hq
  ·rename_i e' es hn;obtain ⟨he,hq1⟩:=M.g5z hq;cases Nat.eq_of_beq_eq_true he;cases hq1;exact ⟨es,none,hn,(fun _ _ _ h=>by cases h),rfl,rfl⟩
  ·rename_i e' es i' j' n' hn;obtain ⟨he,hq1⟩:=M.g5z hq;obtain ⟨he1,he3⟩:=a0a he;cases Nat.eq_of_beq_eq_true he1;have he23:o≤j'∧j'<o+E.sz t∨o=0∧E.sz t=E.sz e:=by
    rcases f5o he3 with h5 | h5
    ·obtain ⟨h6,h7⟩:=a0a h5;have h6:=Nat.eq_of_beq_eq_true h6;have h7:=Nat.eq_of_beq_eq_true h7;exact .inl (by omega)
    ·have h7:=Nat.eq_of_beq_eq_true (a0a h5).2;exact .inr ⟨by omega,h7⟩
   obtain ⟨hi,hq2⟩:=M.g5y hq1;have hi:=Nat.eq_of_beq_eq_true hi;cases hq2;exact ⟨es,_,hn,(fun _ _ _ h=>by cases h;exact ⟨hi,he23⟩),rfl,rfl⟩
  ·cases hq
 obtain ⟨es,hh,hn,hhole,rfl,rfl⟩:=key;obtain ⟨w',env',k1,k2,k3,k4,_⟩:=c6w hT h hx hy hk hle hsol h1 hn hhole;exact ⟨rfl,w',env',k1,k2,k3,k4⟩
theorem e7p {S:Nat→Prop}:∀ {tys:List Ty} {as:List A} {ts:List T} {vs:List Value} {m m':Mem} {p p':FP} {u:Unit},Heap E β [] m env w→RVs E env w S as vs→
  (∀ j,j<tys.length→∃ bs,DC E w (tys.getD j .bool) (ts.getD j (.i 0)) (vs[j]?.getD undef) bs∧∀ b,b∈bs→a0b β [] m env w b)→(b7v E tys as ts).ev m p=some (u,m',p')→
  Heap E β [] m' env w∧Still w w (a0b β [] m env w) (a0b β [] m' env w):=by
 intro tys
 induction tys with
 | nil=>intro as ts vs m m' p p' u h _ _ hp;unfold b7v at hp;cases hp;exact ⟨h,Still.refl _ _⟩
 | cons ty tys ih=>
  intro as ts vs m m' p p' u h hv hd hp;cases as with
  | nil=>cases ty <;> (unfold b7v at hp;cases hp;exact ⟨h,Still.refl _ _⟩)
  | cons a as=>
   cases vs with
   | nil=>exact hv.elim
   | cons v vs=>
    cases ts with
    | nil=>cases ty <;> cases a <;> (unfold b7v at hp;cases hp;exact ⟨h,Still.refl _ _⟩)
    | cons t ts=>
     have hd':∀ j,j<tys.length→∃ bs,DC E w (tys.getD j .bool) (ts.getD j (.i 0)) (vs[j]?.getD undef) bs∧∀ b,b∈bs→a0b β [] m env w b:=fun j hj=>by
      have:=hd (j+1) (by simp;omega);simpa using this
     have old:∀ {p},(b7v E tys as ts).ev m p=some (u,m',p')→Heap E β [] m' env w∧Still w w (a0b β [] m env w) (a0b β [] m' env w):=fun hp=>ih h hv.2 hd' hp;cases ty with
     | row e=>cases a with
      | ref n=>
       unfold b7v at hp;obtain ⟨q,hp⟩:=M.g6q hp;split at hp
       ·rename_i hn;obtain ⟨p1,hp1⟩:=M.g6l hp;have hvn:env n=some v:=hv.1.1;obtain ⟨bs,hc,hb⟩:=hd 0 (by simp);simp only [List.getD_cons_zero,List.getElem?_cons_zero,Option.getD_some] at hc;have hsame:=Names.g6h hvn;have hnone:∀ b,¬ owns (m.put n (.row e false t.asR)) (env.put n v) n b:=fun b=>by simp [owns,put_self]
        have hnone':∀ b,¬ owns m env n b:=fun b=>by simp [owns,hn]
        have key:=h.one (w':=w) (L':=[]) n (.row e false t.asR) v (.inr hvn) (fun hst=>by
          have hr:=hc.rc (S:=a0b β [] (m.put n (.row e false t.asR)) (env.put n v) w) fun b h5=>(hst b (hb b h5)).1;cases hc with
          | @row e' es v xs bs fps ho hc hm=>
           refine ⟨_,Names.put_self _ _ _,hr,?_⟩;rcases ho.2 with ⟨h0,_⟩ | ⟨g,cap,cur,h0,_⟩
           ·exact .inl h0
           ·exact .inr ⟨g,cap,h0⟩)
         (fun b hb=>by simp at hb) (fun b hb=>by simp at hb) List.nodup_nil (fun b hb=>(hnone b hb).elim) (fun _ _ _ _=>rfl) rfl rfl rfl (Nat.le_refl _)
        rw [hsame] at key;obtain ⟨g1,_,g3⟩:=key;obtain ⟨k1,k2⟩:=ih g1 hv.2 (fun j hj=>by
         obtain ⟨bs,h5,h6⟩:=hd' j hj;exact ⟨bs,h5,fun b hb=>(g3 b (h6 b hb)).1⟩) hp1
        exact ⟨k1,g3.trans k2⟩
       ·exact old hp
      | _=>exact old hp
     | _=>exact old hp
theorem e7q (hT:a1e P E=true) (h:Heap E β [] m env w) {t:Nat} {y:A} {n:Nm} {e i o:Nat} {vx vy:Value} (hx:RV E env w (a0b β [] m env w) (.ep n e i o) vx) (hy:RV E env w (a0b β [] m env w) y vy)
  {a:A} {m':Mem} {p p':FP} (hp:(e2c E t y n e i o).ev m p=some (a,m',p')) :
  a=.skip∧∃ w' env',(Instr.storeAt t vx vy).run P w=.ok () w'∧Heap E β [] m' env' w'∧env.le env'∧Still w w' (a0b β [] m env w) (a0b β [] m' env' w'):=by
 unfold e2c at hp;obtain ⟨hc,hp1⟩:=M.g5z hp;obtain ⟨hc0,heq⟩:=a0a hc;obtain ⟨hc1,hsol⟩:=a0a hc0;obtain ⟨hc2,hlen⟩:=a0a hc1;obtain ⟨hk,hle⟩:=a0a hc2;have hle:=a2p hle;have heq:=Nat.eq_of_beq_eq_true heq;obtain ⟨ts,m1,p1,h1,hq⟩:=M.bind_some hp1;obtain ⟨p2,hq⟩:=M.g6q hq;split at hq
 ·rename_i e' es i' j' n' hn;obtain ⟨he,hq1⟩:=M.g5z hq;cases Nat.eq_of_beq_eq_true he;obtain ⟨hi,hq2⟩:=M.g5y hq1;have hi:=Nat.eq_of_beq_eq_true hi;obtain ⟨p3,hq3⟩:=M.g6l hq2;obtain ⟨_,m2,p4,h2,hq4⟩:=M.bind_some hq3;cases hq4;refine ⟨rfl,?_⟩;obtain ⟨w',env',k1,k2,k3,k4,k5,k6⟩:=c6w hT h hx hy hk hle hsol h1 hn (fun i'' j'' n'' hx=>by cases hx;exact ⟨hi,.inr ⟨by omega,heq⟩⟩);obtain ⟨g1,g2⟩:=k2.lowerP (put_self _ _ _);rw [e0q] at g1 g2;have hty:(((E.flat e).drop o).take (E.sz t)).length=E.sz t:=by simp [Env.sz] at hle ⊢;omega
  obtain ⟨q1,q2⟩:=e7p g1 (k6.mono k3 k4) (fun j hj=>by
   rw [hty] at hj;obtain ⟨F,hF,hd⟩:=k5 j hj;refine ⟨F,hd,fun b hb=>?_⟩;obtain ⟨f1,f2⟩:=hF b hb;obtain ⟨i1,i2,i3⟩:=k2.inb n b f1;refine ⟨.inr i2,i1,fun x hx=>?_,by simp⟩;by_cases hxn:x=n
   ·subst hxn;cases hv:env' x with
    | none=>simp [owns,put_self,hv] at hx
    | some v=>simp [owns,put_self,hv] at hx;exact f2 v hv hx
   ·have:=g2.own x b hx;exact hxn (k2.apart _ _ _ this f1)) h2
  exact ⟨w',env',k1,q1,k3,(k4.trans g2.still).trans q2⟩
 ·cases hq
theorem RV.mono' {env':Names} {S S':Nat→Prop} (he:env.le env') (hs:Still w w S S') {a:A} {v:Value} (h:RV E env w S a v):RV E env' w S' a v:=h.mono he hs
theorem b2g:∀ {tys:List Ty} {as:List A} {m m':Mem} {p p':FP} {b:Bool},(b0y E tys as).ev m p=some (b,m',p')→m=m'
 | [],_,_,_,_,_,_,h=>by unfold b0y at h;cases h;rfl
 | ty :: tys,[],_,_,_,_,_,h=>by cases ty <;> (unfold b0y at h;cases h;rfl)
 | ty :: tys,a :: as,m,m',p,p',b,h=>by
  have hrec:=fun {p p'}=>b2g (tys:=tys) (as:=as) (m:=m) (m':=m') (p:=p) (p':=p') (b:=b);cases ty with
  | row e=>cases a with
   | ref n=>
    unfold b0y at h;obtain ⟨q,h⟩:=M.g6q h;cases hn:m n with
    | none=>rw [hn] at h;cases h;rfl
    | some o=>
     rw [hn] at h;cases o with
     | row e' d es=>cases d with
      | true=>cases hpl:E.plain e <;> rw [hpl] at h <;> first | exact hrec h | (cases h;rfl)
      | false=>cases h;rfl
     | deep e' es hh=>cases hh with
      | none=>exact hrec h
      | some _=>cases h;rfl
     | _=>cases h;rfl
   | nil _=>exact hrec h
   | _=>cases h;rfl
  | _=>exact hrec h
theorem e7r (hT:a1e P E=true) (h:Heap E β [] m env w) {t:Nat} {x y:A} {vx vy:Value} (hx:RV E env w (a0b β [] m env w) x vx) (hy:RV E env w (a0b β [] m env w) y vy) {a:A} {m':Mem} {p p':FP}
  (hp:(e6i E t y x).ev m p=some (a,m',p')) :
  a=.skip∧∃ w' env',(Instr.storeAt t vx vy).run P w=.ok () w'∧Heap E β [] m' env' w'∧env.le env'∧Still w w' (a0b β [] m env w) (a0b β [] m' env' w'):=by
 unfold e6i at hp;split at hp
 ·rename_i n e i o;obtain ⟨q,hp⟩:=M.g6q hp;split at hp
  ·rename_i e1 es1 i1 j' n1 hn1;obtain ⟨b,m1,p1,h1,hq⟩:=M.bind_some hp;cases b2g h1;cases b with
   | true=>
    replace hq:=(show (bif Nat.ble (E.sz e) j'&&d7c n1 y.cells then e2c E t y n e i o else d7b E t y n e i o).ev m p1=some (a,m',p') from hq);cases hj:(Nat.ble (E.sz e) j'&&d7c n1 y.cells) with
    | true=>rw [hj] at hq;exact e7q hT h hx hy hq
    | false=>rw [hj] at hq;exact d7n hT h hx hy hq
   | false=>
    obtain ⟨_,m2,p2,h2,hq2⟩:=M.bind_some (show ((M.lowD n).bind fun _=>c3i E t y (.ep n e i o)).ev m p1=_ from hq);obtain ⟨g1,g2⟩:=h.lowD h2;obtain ⟨rfl,w',env',k1,k2,k3,k4⟩:=b9v hT g1 (hx.mono' (Names.le_refl _) g2.still) (hy.mono' (Names.le_refl _) g2.still) hq2;exact ⟨rfl,w',env',k1,k2,k3,g2.still.trans k4⟩
  ·obtain ⟨b,m1,p1,h1,hq⟩:=M.bind_some hp;cases b2g h1;cases b with
   | true=>exact d7n hT h hx hy hq
   | false=>
    obtain ⟨_,m2,p2,h2,hq2⟩:=M.bind_some (show ((M.lowD n).bind fun _=>c3i E t y (.ep n e i o)).ev m p1=_ from hq);obtain ⟨g1,g2⟩:=h.lowD h2;obtain ⟨rfl,w',env',k1,k2,k3,k4⟩:=b9v hT g1 (hx.mono' (Names.le_refl _) g2.still) (hy.mono' (Names.le_refl _) g2.still) hq2;exact ⟨rfl,w',env',k1,k2,k3,g2.still.trans k4⟩
  ·exact b9v hT h hx hy hp
 ·exact b9v hT h hx hy hp
end
section
variable {P:Program} {E:Env} {β:Base} {L:List Nat} {m:Mem} {env:Names} {w w':World} {S:Nat→Prop}
theorem f1r (m:Mem) {n d:Nm} (a b:O) (h:n≠d):(m.put n a).put d b=(m.put d b).put n a:=by
 funext x;by_cases hn:x=n
 ·subst hn;rw [put_ne _ _ h,put_self,put_self]
 ·by_cases hd:x=d
  ·subst hd;rw [put_self,put_ne _ _ hn,put_self]
  ·rw [put_ne _ _ hd,put_ne _ _ hn,put_ne _ _ hn,put_ne _ _ hd]
theorem Heap.relist {L':List Nat} (h:Heap E β L m env w) (hm:∀ b,b∈L↔b∈L') (hnd:L'.Nodup):Heap E β L' m env w∧a0b β L' m env w=a0b β L m env w:=by
 have hs:a0b β L' m env w=a0b β L m env w:=by
  funext b;unfold a0b;rw [hm b]
 refine ⟨⟨h.dom,fun n o hn=>by rw [hs];exact h.obj n o hn,h.apart,fun n b hb=>?_,fun b hb=>h.inL b ((hm b).2 hb),hnd,h.os,h.tape,h.output,h.size,h.block,h.gl⟩,hs⟩;obtain ⟨h1,h2,h3⟩:=h.inb n b hb;exact ⟨h1,h2,fun hx=>h3 ((hm b).2 hx)⟩
theorem e7s {i j i' j' sz:Nat} (hj:j<sz) (hj':j'<sz) (h:i*sz+j=i'*sz+j'):i=i'∧j=j':=by
 have h1:=b4l (i:=i) hj;have h2:=b4l (i:=i') hj';rw [h] at h1;exact ⟨h1.1.symm.trans h2.1,h1.2.symm.trans h2.2⟩
theorem f1s (hT:a1e P E=true) {t:Nat} (hk:E.known t=true) (ha:E.isAgg t=false) {g o:Nat} {v:Value} (hc:w.cell? ⟨g,o,none⟩=some v):(Instr.loadAt t (.pointer (some ⟨g,o,none⟩))).run P w=.ok v w:=by
 have h1:(loadVar t ⟨g,o,none⟩).run P w=.ok v w:=by
  unfold loadVar load;simp [c6p hT hk,ha,Sem.run,hc]
 simp [Instr.loadAt,Instr.sureAddr,h1]
def f4b (E:Env) (e:Nat) (es:List (List T)):O:=bif E.plain e then .row e true es else .deep e es none
theorem Heap.takeCell {v:Value} {bs:List Nat} (h:Heap E β bs m env w) {d:Nm} (hd:m d=some .dead) (hv:env d=some v) {e:Nat} {t:T} (hc:DC E w (.row e) t v bs) :
  ∃ env',Heap E β [] (m.put d (f4b E e t.asR)) env' w∧(∀ n,env' n=env n)∧Still w w (a0b β bs m env w) (a0b β [] (m.put d (f4b E e t.asR)) env' w):=by
 have hfree:∀ b,¬ owns m env d b:=fun b=>by simp [owns,hd]
 unfold f4b;cases hpl:E.plain e with
 | true=>
  obtain ⟨es,xs,rfl,ho,hr,hbs⟩:=hc.unplain hpl;obtain ⟨g1,g2⟩:=h.relist (L':=v.ownBlock.toList++[]) (fun b=>by rw [hbs];simp) (by cases v.ownBlock <;> simp);obtain ⟨k1,k2,k3⟩:=g1.takeRowAt (.inr hv) hfree ho (hr _);rw [Names.g6h hv] at k1 k3;rw [g2] at k3;exact ⟨env,k1,fun _=>rfl,k3⟩
 | false=>
  have ht:t=.r t.asR:=by cases hc;rfl
  rw [ht] at hc;obtain ⟨k1,k2,k3⟩:=Heap.takeDeepAt (L:=[]) (by simpa using h) (.inr hv) hfree hc;refine ⟨_,k1,fun n=>?_,by simpa using k3⟩;by_cases hn:n=d
  ·subst hn;rw [Names.g6a];exact hv.symm
  ·rw [Names.g6b _ _ _ hn]
theorem Heap.hole (h:Heap E β [] m env w) {n d:Nm} {e:Nat} {es:List (List T)} (hn:m n=some (.deep e es none)) (hd:m d=none) {i o e':Nat} (hi:i<es.length) (ho:o<E.sz e) (hty:a4e E e o=.row e') {g len cap:Nat} (hv:env n=some (.slice (some ⟨g,0,none⟩) len cap)) :
  ∃ u env',w.cell? ⟨g,i*E.sz e+o,none⟩=some u∧env' d=some u∧(∃ a l c,u=.slice a l c)∧Heap E β [] ((m.put d (f4b E e' (tAt es i o).asR)).put n (.deep e es (some (i,o,d)))) env' w∧env.le env'∧
   Still w w (a0b β [] m env w) (a0b β [] ((m.put d (f4b E e' (tAt es i o).asR)).put n (.deep e es (some (i,o,d)))) env' w):=by
 have hne:d≠n:=fun e=>by rw [e,hn] at hd;cases hd
 obtain ⟨v,xs,fps,e1,e2,e3,_,e5⟩:=h.obj n _ hn;rw [hv] at e1;cases e1;have hp:=a1w hi ho;have hx:i*E.sz e+o<xs.length:=by rw [e2.1];exact hp
 have hlen:len=es.length:=by
  rcases e2.2 with ⟨h0,_⟩ | ⟨g',cap',cur,h0,_⟩
  ·cases h0
  ·cases h0;rfl
 subst hlen;have hdc:=e3 i o hi ho (by simp) (by simp);rw [hty,List.getElem?_eq_getElem hx,Option.getD_some] at hdc;generalize hu:xs[i*E.sz e+o]=u at hdc;have hxu:xs[i*E.sz e+o]?=some u:=by rw [List.getElem?_eq_getElem hx,hu]
 have hcell:w.cell? ⟨g,i*E.sz e+o,none⟩=some u:=by rw [e2.cellAt _ hp];exact hxu
 have hownF:∀ b,owns m env n b↔b∈env.fp n:=fun b=>by simp [owns,hn]
 have hfree:∀ b,¬ owns m env d b:=fun b=>by simp [owns,hd]
 obtain ⟨h0,hle0,hst0⟩:=h.one (w':=w) (L':=[]) d .dead u (.inl (h.dom d hd)) (fun _=>⟨u,Names.put_self _ _ _⟩) (fun b hb=>by simp at hb) (fun b hb=>by simp at hb) List.nodup_nil
  (fun b hb=>by simp [owns,put_self] at hb) (fun _ _ _ _=>rfl) rfl rfl rfl (Nat.le_refl _)
 have hn0:(m.put d .dead) n=some (.deep e es none):=by rw [put_ne _ _ (Ne.symm hne)];exact hn
 have hown0:∀ b,owns (m.put d .dead) (env.put d u) n b↔b∈env.fp n:=fun b=>by rw [d3o (Ne.symm hne)];exact hownF b
 let fps1:Nat→List Nat:=fun q=>if q=i*E.sz e+o then [] else fps q
 obtain ⟨F,hF⟩:=Foot.ex (some g) (es.length*E.sz e) fps1 (fun q hq=>by
   simp only [fps1];split
   ·exact List.nodup_nil
   ·have hsz:0<E.sz e:=by omega
    have hpi:q / E.sz e<es.length:=Nat.div_lt_of_lt_mul (by rw [Nat.mul_comm];exact hq);have:=e3 (q / E.sz e) (q % E.sz e) hpi (Nat.mod_lt q hsz) (by simp) (by simp);rw [Nat.div_add_mod'] at this;exact this.nodup) (fun q b hq hb=>by
   simp only [fps1] at hb;split at hb
   ·cases hb
   ·exact e5.d1 q b hq hb) (fun q r b hq hr hb hb'=>by
   simp only [fps1] at hb hb';split at hb <;> split at hb' <;> first | (cases hb;done) | (cases hb';done) | exact e5.d2 q r b hq hr hb hb')
 have hFF:∀ b,b∈F→b∈env.fp n∧b ∉ fps (i*E.sz e+o):=fun b hb=>by
  rcases (hF.mem b).1 hb with h5 | ⟨q,hq,h5⟩
  ·exact ⟨(e5.mem b).2 (.inl h5),fun h6=>e5.d1 _ b hp h6 h5⟩
  ·simp only [fps1] at h5;split at h5
   ·cases h5
   ·rename_i hqp;exact ⟨(e5.mem b).2 (.inr ⟨q,hq,h5⟩),fun h6=>hqp (e5.d2 q _ b hq hp h5 h6)⟩
 have hown1:∀ b,owns ((m.put d .dead).put n (.deep e es (some (i,o,d)))) ((env.put d u).putD n (.slice (some ⟨g,0,none⟩) es.length cap) F) n b↔b∈F:=fun b=>by simp [owns,put_self,Names.g6c]
 have hd1:((env.put d u).putD n (.slice (some ⟨g,0,none⟩) es.length cap) F) d=some u:=by rw [Names.g6b _ _ _ hne,Names.put_self]
 obtain ⟨h1,hle1,hst1⟩:=h0.oneD (w':=w) (L':=fps (i*E.sz e+o)) n (.deep e es (some (i,o,d))) (.slice (some ⟨g,0,none⟩) es.length cap) F (.inr (hle0 _ _ hv)) (fun _=>by
   refine ⟨_,xs,fps1,Names.g6a _ _ _ _,e2,fun i' j hi' hj hnh _=>?_,⟨fun i' j n' hh _=>?_,HoleE.cell ho⟩,by rw [Names.g6c];exact hF⟩
   ·have hne':i'*E.sz e+j≠i*E.sz e+o:=fun he=>by
     obtain ⟨a1,a2⟩:=e7s hj ho he;exact hnh d (by rw [a1,a2])
    simp only [fps1,if_neg hne'];exact e3 i' j hi' hj (by simp) (by simp)
   ·cases hh;exact ⟨hi,ho,by rw [hxu];exact hd1,by simp [fps1],by rw [hxu];exact hdc.slice⟩)
  (fun b hb=>.inr ((hown0 b).2 ((e5.mem b).2 (.inr ⟨_,hp,hb⟩)))) (fun b hb hb'=>(hFF b ((hown1 b).1 hb')).2 hb) hdc.nodup
  (fun b hb=>by
   have hb:=(hFF b ((hown1 b).1 hb)).1;exact ⟨(h0.inb _ _ ((hown0 b).2 hb)).1,.inl ((hown0 b).2 hb)⟩) (fun _ _ _ _=>rfl) rfl rfl rfl (Nat.le_refl _)
 have hdd:((m.put d .dead).put n (.deep e es (some (i,o,d)))) d=some .dead:=by rw [put_ne _ _ hne,put_self]
 obtain ⟨env',k1,k2,k3⟩:=h1.takeCell hdd hd1 hdc;have hmem:((m.put d .dead).put n (.deep e es (some (i,o,d)))).put d (f4b E e' (tAt es i o).asR)=(m.put d (f4b E e' (tAt es i o).asR)).put n (.deep e es (some (i,o,d))):=by
  rw [f1r _ _ _ (Ne.symm hne),e0q]
 rw [hmem] at k1 k3;exact ⟨u,env',hcell,by rw [k2];exact hd1,hdc.slice,k1,fun x v hx=>by rw [k2];exact hle1 _ _ (hle0 _ _ hx),hst0.trans (hst1.trans k3)⟩
theorem f1t (hT:a1e P E=true) (h:Heap E β [] m env w) {t dst:Nat} {n:Nm} {e i o:Nat} {es:List (List T)} (hn:m n=some (.deep e es none)) {vx:Value} (hx:RV E env w (a0b β [] m env w) (.ep n e i o) vx) {a:A} {m':Mem} {p p':FP}
  (hp:(e4k E dst t n e i o es).ev m p=some (a,m',p')):Gives P E β m env w (Instr.loadAt t vx) a m':=by
 unfold e4k at hp;obtain ⟨hc,hp1⟩:=M.g5z hp;obtain ⟨hk,hle⟩:=a0a hc;have hle:=a2p hle;obtain ⟨g,len,cap,f1,hi,rfl⟩:=hx;obtain ⟨v,xs,fps,e1,e2,e3,_,e5⟩:=h.obj n _ hn;rw [f1] at e1;cases e1;have hlen':len=es.length:=by
  rcases e2.2 with ⟨h0,_⟩ | ⟨g',cap',cur,h0,_⟩
  ·cases h0
  ·cases h0;rfl
 subst hlen';have hlen:(((E.flat e).drop o).take (E.sz t)).length=E.sz t:=by simp [Env.sz] at hle ⊢;omega
 have hty:∀ j,j<E.sz t→(((E.flat e).drop o).take (E.sz t)).getD j .bool=a4e E e (o+j):=fun j hj=>by
  simp [a4e,List.getD_eq_getElem?_getD,hj,List.getElem?_drop]
 cases hfl:(((E.flat e).drop o).take (E.sz t)).all Ty.flatB with
 | true=>
  rw [hfl] at hp1;cases hp1;have hcell:∀ j,j<E.sz t→w.cell? ⟨g,i*E.sz e+(o+j),none⟩=some (xs[i*E.sz e+(o+j)]?.getD undef):=fun j hj=>by
   have hlt:=a1w (sz:=E.sz e) hi (show o+j<E.sz e by omega);have hxl:i*E.sz e+(o+j)<xs.length:=by rw [e2.1];exact hlt
   rw [e2.cellAt _ hlt,List.getElem?_eq_getElem hxl];rfl
  have hof:=c6q (E:=E) (env:=env) (w:=w) (S:=a0b β [] m env w) (tys:=((E.flat e).drop o).take (E.sz t)) (o:=o) (row:=es.getD i []) (f:=fun j=>xs[i*E.sz e+j]?.getD undef) (fun j hj=>by
   have hmem:(((E.flat e).drop o).take (E.sz t)).getD j .bool∈((E.flat e).drop o).take (E.sz t):=by
    rw [List.getD_eq_getElem?_getD,List.getElem?_eq_getElem hj,Option.getD_some];exact List.getElem_mem hj
   have hfj:=List.all_eq_true.1 hfl _ hmem;rw [hlen] at hj;rw [hty j hj] at hfj ⊢;exact ((e3 i (o+j) hi (by omega) (by simp) (by simp)).flat0 hfj).2 _)
  rw [hlen] at hof;obtain ⟨v,g1,g2,v1,g3,_⟩:=b6b hT hk (g:=g) (o:=i*E.sz e+o) (cs:=vals (fun j=>xs[i*E.sz e+j]?.getD undef) o (E.sz t)) (a7q _ _ _) (fun j v hj=>by
   obtain ⟨hj1,rfl⟩:=a6s _ _ _ _ _ hj;rw [Nat.add_assoc];exact hcell j hj1) hof.2 hof.1
  exact Gives.g6p h g1 (b7w g2)
 | false=>
  rw [hfl] at hp1;simp only [cond_false] at hp1;split at hp1
  ·rename_i e' ha hfo;obtain ⟨_,m1,p1,h1,hq⟩:=M.bind_some hp1;obtain ⟨hnd,rfl⟩:=M.g5x h1;cases hq;have hone:=e0u hT hk ha;have htyo:a4e E e o=.row e':=by unfold a4e;rw [List.getD_eq_getElem?_getD,hfo];rfl
   obtain ⟨u,env',k1,k2,k3,k4,k5,k6⟩:=h.hole hn hnd hi (show o<E.sz e by omega) htyo f1;exact ⟨u,w,env',f1s hT hk ha k1,⟨k2,k3⟩,k4,k5,k6⟩
  ·cases hp1
theorem f1u (hT:a1e P E=true) (h:Heap E β [] m env w) {t dst:Nat} {n:Nm} {e i o:Nat} {es:List (List T)} {i' j':Nat} {n':Nm} (hn:m n=some (.deep e es (some (i',j',n')))) (hj':j'<E.sz e) (hf':(a4e E e j').flatB=false) {vx:Value} (hx:RV E env w (a0b β [] m env w) (.ep n e i o) vx) {a:A} {m':Mem} {p p':FP}
  (hfl:(((E.flat e).drop o).take (E.sz t)).all Ty.flatB=true) (hp:(e4k E dst t n e i o es).ev m p=some (a,m',p')):Gives P E β m env w (Instr.loadAt t vx) a m':=by
 unfold e4k at hp;obtain ⟨hc,hp1⟩:=M.g5z hp;obtain ⟨hk,hle⟩:=a0a hc;have hle:=a2p hle;obtain ⟨g,len,cap,f1,hi,rfl⟩:=hx;obtain ⟨v,xs,fps,e1,e2,e3,_,e5⟩:=h.obj n _ hn;rw [f1] at e1;cases e1;have hlen':len=es.length:=by
  rcases e2.2 with ⟨h0,_⟩ | ⟨g',cap',cur,h0,_⟩
  ·cases h0
  ·cases h0;rfl
 subst hlen';have hlen:(((E.flat e).drop o).take (E.sz t)).length=E.sz t:=by simp [Env.sz] at hle ⊢;omega
 have hty:∀ j,j<E.sz t→(((E.flat e).drop o).take (E.sz t)).getD j .bool=a4e E e (o+j):=fun j hj=>by
  simp [a4e,List.getD_eq_getElem?_getD,hj,List.getElem?_drop]
 rw [hfl] at hp1;cases hp1;have hcell:∀ j,j<E.sz t→w.cell? ⟨g,i*E.sz e+(o+j),none⟩=some (xs[i*E.sz e+(o+j)]?.getD undef):=fun j hj=>by
  have hlt:=a1w (sz:=E.sz e) hi (show o+j<E.sz e by omega);have hxl:i*E.sz e+(o+j)<xs.length:=by rw [e2.1];exact hlt
  rw [e2.cellAt _ hlt,List.getElem?_eq_getElem hxl];rfl
 have hof:=c6q (E:=E) (env:=env) (w:=w) (S:=a0b β [] m env w) (tys:=((E.flat e).drop o).take (E.sz t)) (o:=o) (row:=es.getD i []) (f:=fun j=>xs[i*E.sz e+j]?.getD undef) (fun j hj=>by
  have hmem:(((E.flat e).drop o).take (E.sz t)).getD j .bool∈((E.flat e).drop o).take (E.sz t):=by
   rw [List.getD_eq_getElem?_getD,List.getElem?_eq_getElem hj,Option.getD_some];exact List.getElem_mem hj
  have hfj:=List.all_eq_true.1 hfl _ hmem;rw [hlen] at hj;rw [hty j hj] at hfj ⊢;exact ((e3 i (o+j) hi (by omega) (fun n'' hx=>by
    cases hx;rw [hfj] at hf';cases hf') (fun k n'' hx=>by cases hx;exact hj')).flat0 hfj).2 _)
 rw [hlen] at hof;obtain ⟨v,g1,g2,v1,g3,_⟩:=b6b hT hk (g:=g) (o:=i*E.sz e+o) (cs:=vals (fun j=>xs[i*E.sz e+j]?.getD undef) o (E.sz t)) (a7q _ _ _) (fun j v hj=>by
  obtain ⟨hj1,rfl⟩:=a6s _ _ _ _ _ hj;rw [Nat.add_assoc];exact hcell j hj1) hof.2 hof.1
 exact Gives.g6p h g1 (b7w g2)
theorem a6t {q l sz:Nat} (hq:q<l*sz):q / sz<l∧q % sz<sz∧q / sz*sz+q % sz=q:=by
 have hsz:0<sz:=by
  rcases Nat.eq_zero_or_pos sz with h0 | h0
  ·rw [h0] at hq;simp at hq
  ·exact h0
 exact ⟨Nat.div_lt_of_lt_mul (by rw [Nat.mul_comm];exact hq),Nat.mod_lt q hsz,Nat.div_add_mod' q sz⟩
theorem d7o:∀ {tys:List Ty} {ts:List T} {vs:List Value} {f:Nat→List Nat},ts.length=tys.length→vs.length=tys.length→
  (∀ j,j<tys.length→DC E w (tys.getD j .bool) (ts.getD j (.i 0)) (vs[j]?.getD undef) (f j))→(∀ i j b,i<tys.length→j<tys.length→b∈f i→b∈f j→i=j)→
  ∃ bs,BCs E w S (f4v tys) (d0c E tys) ts vs bs∧bs.Nodup∧∀ b,b∈bs↔∃ j,j<tys.length∧b∈f j
 | [],[],[],f,_,_,_,_=>⟨[],rfl,List.nodup_nil,fun b=>by simp⟩
 | ty :: tys,t :: ts,v :: vs,f,h1,h2,h3,h4=>by
  obtain ⟨bs,k1,k2,k3⟩:=d7o (f:=fun j=>f (j+1)) (tys:=tys) (ts:=ts) (vs:=vs) (by simpa using h1) (by simpa using h2) (fun j hj=>by simpa using h3 (j+1) (by simpa using hj))
   (fun i j b hi hj hb hb'=>by have:=h4 (i+1) (j+1) b (by simpa using hi) (by simpa using hj) hb hb';omega)
  have h0:DC E w ty t v (f 0):=by simpa using h3 0 (by simp)
  have flat:ty.flatB=true→RC E w S ty t v∧f 0=[]:=fun hf=>by
   obtain ⟨e0,hr⟩:=h0.flat0 hf;exact ⟨hr _,e0⟩
  have fin:∀ b1:List Nat,(∀ b,b∈b1↔b∈f 0)→b1.Nodup→(b1++bs).Nodup∧∀ b,b∈b1++bs↔∃ j,j<(ty :: tys).length∧b∈f j:=fun b1 hb1 hn=>by
   refine ⟨List.nodup_append.2 ⟨hn,k2,fun x hx y hy hxy=>?_⟩,fun b=>?_⟩
   ·subst hxy;obtain ⟨j,hj,hb⟩:=(k3 x).1 hy;have:=h4 0 (j+1) x (by simp) (by simpa using hj) ((hb1 x).1 hx) hb;omega
   ·rw [List.mem_append,hb1,k3];constructor
    ·rintro (h5 | ⟨j,hj,h5⟩)
     ·exact ⟨0,by simp,h5⟩
     ·exact ⟨j+1,by simpa using hj,h5⟩
    ·rintro ⟨j,hj,h5⟩
     cases j with
     | zero=>exact .inl h5
     | succ j=>exact .inr ⟨j,by simpa using hj,h5⟩
  have nilC:ty.flatB=true→(∀ b,b∈([]:List Nat)↔b∈f 0):=fun hf b=>by rw [(flat hf).2]
  cases ty with
  | row e=>
   cases hpl:E.plain e with
   | true=>
    obtain ⟨es,xs,rfl,ho,hr,hbs⟩:=h0.unplain hpl;obtain ⟨q1,q2⟩:=fin v.ownBlock.toList (fun b=>by rw [hbs];simp) (by cases v.ownBlock <;> simp);refine ⟨_,⟨v.ownBlock.toList,bs,rfl,?_,k1⟩,q1,q2⟩;show BC E w S true (bif E.plain e then .row e else .deep e) _ v _;rw [hpl];exact ⟨⟨es,xs,rfl,ho,hr _⟩,rfl⟩
   | false=>
    have ht:t=.r t.asR:=by cases h0;rfl
    obtain ⟨q1,q2⟩:=fin (f 0) (fun b=>Iff.rfl) h0.nodup;refine ⟨_,⟨f 0,bs,rfl,?_,k1⟩,q1,q2⟩;show BC E w S true (bif E.plain e then .row e else .deep e) _ v _;rw [hpl];exact ⟨t.asR,ht,by rw [ht] at h0;exact h0⟩
  | int k=>obtain ⟨q1,q2⟩:=fin [] (nilC rfl) List.nodup_nil;exact ⟨_,⟨[],bs,rfl,⟨(flat rfl).1,rfl⟩,k1⟩,q1,q2⟩
  | bool=>obtain ⟨q1,q2⟩:=fin [] (nilC rfl) List.nodup_nil;exact ⟨_,⟨[],bs,rfl,⟨(flat rfl).1,rfl⟩,k1⟩,q1,q2⟩
  | str=>obtain ⟨q1,q2⟩:=fin [] (nilC rfl) List.nodup_nil;exact ⟨_,⟨[],bs,rfl,⟨(flat rfl).1,rfl⟩,k1⟩,q1,q2⟩
  | ptr e=>cases h0
  | deep e=>cases h0
 | [],[],_ :: _,_,_,h,_,_=>by simp at h
 | [],_ :: _,_,_,h,_,_,_=>by simp at h
 | _ :: _,[],_,_,h,_,_,_=>by simp at h
 | _ :: _,_ :: _,[],_,_,h,_,_=>by simp at h
theorem c6x (es:List (List T)) (i:Nat):∀ (n o:Nat),(c1w es i o n).length=n
 | 0,_=>rfl
 | n+1,o=>by simp [c1w,c6x es i n (o+1)]
theorem c6y (es:List (List T)) (i:Nat):∀ (n o j:Nat),j<n→(c1w es i o n).getD j (.i 0)=tAt es i (o+j)
 | 0,_,_,h=>by omega
 | n+1,o,0,_=>rfl
 | n+1,o,j+1,h=>by
  have:=c6y es i n (o+1) j (by omega);rw [show o+(j+1)=o+1+j by omega,← this];rfl
theorem f4c {S:Nat→Prop}:∀ {as:List A} {vs:List Value} {j:Nat} {a:A} {v:Value},RVs E env w S as vs→as[j]?=some a→vs[j]?=some v→RV1 E env w S a v
 | [],_,j,a,v,_,h,_=>by simp at h
 | _ :: _,[],_,_,_,h,_,_=>h.elim
 | a :: as,v :: vs,0,_,_,h,h1,h2=>by simp at h1 h2;rw [← h1,← h2];exact h.1
 | a :: as,v :: vs,j+1,_,_,h,h1,h2=>f4c h.2 (by simpa using h1) (by simpa using h2)
theorem c3m {s nm:Nat} {x:Nm} {o:O}:∀ {tys:List Ty} {j:Nat} {ws:List Bool} {cs:List T} {m m':Mem} {p p':FP} {as:List A},(a8o E s nm j ws tys cs).ev m p=some (as,m',p')→m x=some o→m' x=some o
 | [],j,ws,cs,m,m',p,p',as,hp,hx=>by unfold a8o at hp;cases hp;exact hx
 | ty :: tys,j,ws,cs,m,m',p,p',as,hp,hx=>by
  unfold a8o at hp;obtain ⟨a,m1,p1,h1,hq⟩:=M.bind_some hp;obtain ⟨r,m2,p2,h2,hq2⟩:=M.bind_some hq;cases hq2;refine c3m h2 ?_;have key:∀ {n:Nm} {o':O} {b:A} {p p1},((M.new n o').bind fun _=>.ret b).ev m p=some (a,m1,p1)→m1 x=some o:=fun {n o' b p p1} h=>by
   obtain ⟨_,m3,p3,h3,h4⟩:=M.bind_some h;obtain ⟨hn,rfl⟩:=M.g5x h3;cases h4;rw [put_ne _ _ (fun e=>by rw [e,hn] at hx;cases hx)];exact hx
  split at h1
  ·exact key h1
  ·exact key h1
  ·exact key h1
  ·cases h1;exact hx
theorem c3n {s nm:Nat}:∀ {tys:List Ty} {j:Nat} {cs:List T} {m m':Mem} {p p':FP} {as:List A},(a8o E s nm j (f4v tys) (d0c E tys) cs).ev m p=some (as,m',p')→
  ∀ q e',tys[q]?=some (.row e')→as[q]?=some (A.ref (s,nm+(j+q)+1))
 | [],j,cs,m,m',p,p',as,hp,q,e',hq=>by simp at hq
 | ty :: tys,j,cs,m,m',p,p',as,hp,q,e',hq=>by
  have hd:∃ ty',d0c E (ty :: tys)=ty' :: d0c E tys∧(∀ e,ty=.row e→ty'=.row e∨ty'=.deep e):=by
   cases ty with
   | row e=>exact ⟨_,rfl,fun e' h=>by cases h;cases E.plain e <;> simp⟩
   | _=>exact ⟨_,rfl,fun e' h=>by cases h⟩
  obtain ⟨ty',hd,ht⟩:=hd;rw [hd] at hp;unfold a8o at hp;obtain ⟨a,m1,p1,h1,hq1⟩:=M.bind_some hp;obtain ⟨r,m2,p2,h2,hq2⟩:=M.bind_some hq1;cases hq2;cases q with
  | zero=>
   simp only [List.getElem?_cons_zero,Option.some.injEq] at hq;subst hq;have key:∀ {n:Nm} {o':O} {b:A} {p p1},((M.new n o').bind fun _=>.ret b).ev m p=some (a,m1,p1)→a=b:=fun {n o' b p p1} h=>by
    obtain ⟨_,m3,p3,h3,h4⟩:=M.bind_some h;cases h4;rfl
   have ha:a=A.ref (s,nm+j+1):=by
    rcases ht e' rfl with h5 | h5
    ·subst h5;exact key h1
    ·subst h5;exact key h1
   simp [ha]
  | succ q=>
   simp only [List.getElem?_cons_succ] at hq ⊢;have:=c3n (j:=j+1) (cs:=cs) h2 q e' hq;rw [this];congr 3;omega
theorem f1v (hT:a1e P E=true) (h:Heap E β [] m env w) {t dst:Nat} {n:Nm} {e i o:Nat} {es:List (List T)} (hn:m n=some (.deep e es none)) {vx:Value} (hx:RV E env w (a0b β [] m env w) (.ep n e i o) vx) {a:A} {m':Mem} {p p':FP}
  (hp:(e6g E dst t n e i o es).ev m p=some (a,m',p')):Gives P E β m env w (Instr.loadAt t vx) a m':=by
 unfold e6g at hp;obtain ⟨hc,hp1⟩:=M.g5z hp;obtain ⟨hc1,hle⟩:=a0a hc;obtain ⟨hk,ha⟩:=a0a hc1;have hle:=a2p hle;obtain ⟨p1,hp2⟩:=M.g6l hp1;obtain ⟨as,m2,p2,h2,hq⟩:=M.bind_some hp2;have hkeep:=c3m h2 (put_self _ _ _);have hnames:=c3n h2;obtain ⟨g,len,cap,f1,hi,rfl⟩:=hx;obtain ⟨v,xs,fps,e1,e2,e3,_,e5⟩:=h.obj n _ hn;rw [f1] at e1;cases e1;have hlen':len=es.length:=by
  rcases e2.2 with ⟨h0,_⟩ | ⟨g',cap',cur,h0,_⟩
  ·cases h0
  ·cases h0;rfl
 subst hlen';have hlen:(((E.flat e).drop o).take (E.sz t)).length=E.sz t:=by simp [Env.sz] at hle ⊢;omega
 have hty:∀ j,j<E.sz t→(((E.flat e).drop o).take (E.sz t)).getD j .bool=a4e E e (o+j):=fun j hj=>by
  simp [a4e,List.getD_eq_getElem?_getD,hj,List.getElem?_drop]
 have hcell:∀ j,j<E.sz t→w.cell? ⟨g,i*E.sz e+(o+j),none⟩=some (xs[i*E.sz e+(o+j)]?.getD undef):=fun j hj=>by
  have hlt:=a1w (sz:=E.sz e) hi (show o+j<E.sz e by omega);have hxl:i*E.sz e+(o+j)<xs.length:=by rw [e2.1];exact hlt
  rw [e2.cellAt _ hlt,List.getElem?_eq_getElem hxl];rfl
 have hvl:=a7q (fun j=>xs[i*E.sz e+j]?.getD undef) o (E.sz t);have hvg:∀ j,j<E.sz t→(vals (fun j=>xs[i*E.sz e+j]?.getD undef) o (E.sz t))[j]?=some (xs[i*E.sz e+(o+j)]?.getD undef):=fun j hj=>by
  have hj':j<(vals (fun j=>xs[i*E.sz e+j]?.getD undef) o (E.sz t)).length:=by rw [hvl];exact hj
  have:=a6s _ _ _ _ _ (List.getElem?_eq_getElem hj');rw [List.getElem?_eq_getElem hj',this.2]
 generalize hvs:vals (fun j=>xs[i*E.sz e+j]?.getD undef) o (E.sz t)=vs at hvl hvg;generalize htys:((E.flat e).drop o).take (E.sz t)=tys at hlen hty h2 hnames;obtain ⟨bs,k1,k2,k3⟩:=d7o (S:=fun _=>False) (w:=w) (E:=E) (tys:=tys) (ts:=c1w es i o (E.sz t)) (vs:=vs) (f:=fun j=>fps (i*E.sz e+(o+j)))
  (by rw [c6x,hlen]) (by rw [hvl,hlen]) (fun j hj=>by
   rw [hlen] at hj;rw [hty j hj,hvg j hj,Option.getD_some,c6y es i _ _ _ hj];exact e3 i (o+j) hi (by omega) (by simp) (by simp))
  (fun a b x ha hb h5 h6=>by
   rw [hlen] at ha hb;have:=e5.d2 _ _ x (a1w (sz:=E.sz e) hi (show o+a<E.sz e by omega)) (a1w (sz:=E.sz e) hi (show o+b<E.sz e by omega)) h5 h6;omega)
 have hownF:∀ b,owns m env n b↔b∈env.fp n:=fun b=>by simp [owns,hn]
 let fps1:Nat→List Nat:=fun q=>if q / E.sz e=i then [] else fps q
 obtain ⟨F,hF⟩:=Foot.ex (some g) (es.length*E.sz e) fps1 (fun q hq=>by
   simp only [fps1];split
   ·exact List.nodup_nil
   ·obtain ⟨a1,a2,a3⟩:=a6t hq;have:=e3 _ _ a1 a2 (by simp) (by simp);rw [a3] at this;exact this.nodup) (fun q b hq hb=>by
   simp only [fps1] at hb;split at hb
   ·cases hb
   ·exact e5.d1 q b hq hb) (fun q r b hq hr hb hb'=>by
   simp only [fps1] at hb hb';split at hb <;> split at hb' <;> first | (cases hb;done) | (cases hb';done) | exact e5.d2 q r b hq hr hb hb')
 have hbsF:∀ b,b∈bs→∃ q,q<es.length*E.sz e∧q / E.sz e=i∧b∈fps q:=fun b hb=>by
  obtain ⟨j,hj,h5⟩:=(k3 b).1 hb;rw [hlen] at hj;exact ⟨_,a1w (sz:=E.sz e) hi (show o+j<E.sz e by omega),(b4l (show o+j<E.sz e by omega)).1,h5⟩
 have hFF:∀ b,b∈F→b∈env.fp n∧b ∉ bs:=fun b hb=>by
  rcases (hF.mem b).1 hb with h5 | ⟨q,hq,h5⟩
  ·refine ⟨(e5.mem b).2 (.inl h5),fun h6=>?_⟩;obtain ⟨r,hr,_,h7⟩:=hbsF b h6;exact e5.d1 _ b hr h7 h5
  ·simp only [fps1] at h5;split at h5
   ·cases h5
   ·rename_i hqi;refine ⟨(e5.mem b).2 (.inr ⟨q,hq,h5⟩),fun h6=>?_⟩;obtain ⟨r,hr,hri,h7⟩:=hbsF b h6;have:=e5.d2 q r b hq hr h5 h7;rw [this] at hqi;exact hqi hri
 have hown1:∀ b,owns (m.put n (.deep e es (some (i,E.sz e,a6e)))) (env.putD n (.slice (some ⟨g,0,none⟩) es.length cap) F) n b↔b∈F:=fun b=>by simp [owns,put_self,Names.g6c]
 obtain ⟨h1,hle1,hst1⟩:=h.oneD (w':=w) (L':=bs++[]) n (.deep e es (some (i,E.sz e,a6e))) (.slice (some ⟨g,0,none⟩) es.length cap) F (.inr f1) (fun _=>by
   refine ⟨_,xs,fps1,Names.g6a _ _ _ _,e2,fun i' j hi' hj _ hk1=>?_,⟨fun i' j n' hh hj=>?_,HoleE.g5r rfl⟩,by rw [Names.g6c];exact hF⟩
   ·have hne:i'≠i:=fun he=>by
     subst he;exact Nat.lt_irrefl _ (hk1 _ _ rfl)
    have:¬ ((i'*E.sz e+j) / E.sz e=i):=by rw [(b4l hj).1];exact hne
    simp only [fps1,if_neg this];exact e3 i' j hi' hj (by simp) (by simp)
   ·cases hh;exact (Nat.lt_irrefl _ hj).elim)
  (fun b hb=>by
   rw [List.append_nil] at hb;obtain ⟨q,hq,_,h5⟩:=hbsF b hb;exact .inr ((hownF b).2 ((e5.mem b).2 (.inr ⟨q,hq,h5⟩)))) (fun b hb hb'=>by
   rw [List.append_nil] at hb;exact (hFF b ((hown1 b).1 hb')).2 hb) (by rw [List.append_nil];exact k2)
  (fun b hb=>by
   have hb:=(hownF b).2 (hFF b ((hown1 b).1 hb)).1;exact ⟨(h.inb _ _ hb).1,.inl hb⟩) (fun _ _ _ _=>rfl) rfl rfl rfl (Nat.le_refl _)
 obtain ⟨env2,g1,g2,g3,g4,g5⟩:=a4q (L:=[]) h1 (fun b hb=>hb.elim) k1 (fun j hj=>by rw [Nat.zero_add]) h2;obtain ⟨v,r1,r2,_⟩:=b6b hT hk (g:=g) (o:=i*E.sz e+o) (cs:=vs) hvl (fun j v hj=>by
   have hj':j<E.sz t:=by rw [← hvl];exact (List.getElem?_eq_some_iff.1 hj).1
   have:=(hvg j hj').symm.trans hj;cases this;rw [Nat.add_assoc];exact hcell j hj') g5 g4
 have hagg:RV E env2 w (a0b β [] m2 env2 w) (.agg as) v:=by
  have:=b7w r2;unfold b1x at this;rw [ha] at this;exact this
 cases hwh:(Nat.beq o 0&&Nat.beq (E.sz t) (E.sz e)) with
 | false=>
  rw [hwh] at hq;cases hq;exact ⟨v,w,env2,r1,hagg,g1,Names.le_trans hle1 g2,hst1.trans g3⟩
 | true=>
  rw [hwh] at hq;obtain ⟨p3,hq⟩:=M.g6l hq;cases hq;obtain ⟨ho0,hsz⟩:=a0a hwh;cases Nat.eq_of_beq_eq_true ho0;have hsz:=Nat.eq_of_beq_eq_true hsz;have hf2:env2 n=some (.slice (some ⟨g,0,none⟩) es.length cap):=g2 _ _ (hle1 _ _ f1);obtain ⟨v2,xs2,fps2,b1,b2,b3,_,b5⟩:=g1.obj n _ hkeep;rw [hf2] at b1;cases b1;have hxx:∀ j,j<E.sz e→(xs2[i*E.sz e+j]?)=some (xs[i*E.sz e+j]?.getD undef):=fun j hj=>by
   rw [← b2.cellAt _ (a1w hi hj)];have:=hcell j (by omega);rw [Nat.zero_add] at this;exact this
  have hsame:=Names.g6h hf2;have hown2:∀ b,owns (m2.put n (.deep e es (some (i,E.sz e,(dst,0))))) (env2.put n (.slice (some ⟨g,0,none⟩) es.length cap)) n b↔owns m2 env2 n b:=fun b=>by
   rw [hsame];simp [owns,put_self,hkeep]
  have key:=g1.one (w':=w) (L':=[]) n (.deep e es (some (i,E.sz e,(dst,0)))) (.slice (some ⟨g,0,none⟩) es.length cap) (.inr hf2) (fun hst=>by
    rw [hsame];refine ⟨_,xs2,fps2,hf2,b2,fun i' j hi' hj hn' hk'=>b3 i' j hi' hj (fun n' hx=>by cases hx;omega) (fun k n' hx=>by cases hx;exact (Nat.lt_irrefl _ (hk' _ _ rfl)).elim),⟨fun i' j n' hx hj=>by cases hx;exact (Nat.lt_irrefl _ hj).elim,fun i' k n' hx hk' hne=>?_⟩,b5⟩;cases hx;refine ⟨hi,fun j hj=>?_⟩;rw [hxx j hj,Option.getD_some];have hd:=e3 i j hi hj (by simp) (by simp);refine ⟨fun e' ht=>?_,fun hf=>?_⟩
    ·have hj':j<tys.length:=by rw [hlen];omega
     have htj:tys[j]?=some (.row e'):=by
      have:=hty j (by omega);rw [Nat.zero_add,ht,List.getD_eq_getElem?_getD,List.getElem?_eq_getElem hj',Option.getD_some] at this;rw [List.getElem?_eq_getElem hj',this]
     have ha:=hnames j e' htj;have hv2:=hvg j (by omega);have hr:=f4c g4 ha hv2;simp only [Nat.zero_add] at hr ⊢;exact ⟨hr.1,by rw [ht] at hd;exact hd.slice⟩
    ·have h0:=(hd.flat0 hf).1;rw [h0] at hd;exact hd)
   (fun b hb=>by simp at hb) (fun b hb=>by simp at hb) List.nodup_nil
   (fun b hb=>by
    have hb:=(hown2 b).1 hb;exact ⟨(g1.inb _ _ hb).1,.inl hb⟩) (fun _ _ _ _=>rfl) rfl rfl rfl (Nat.le_refl _)
  rw [hsame] at key;obtain ⟨q1,_,q3⟩:=key;exact ⟨v,w,env2,r1,hagg.mono (Names.le_refl _) q3,q1,Names.le_trans hle1 g2,(hst1.trans g3).trans q3⟩
theorem c2e:∀ {tys:List Ty} {j0 j e:Nat},b9j j0 tys=some (j,e)→j0≤j∧tys[j - j0]?=some (.row e)∧∀ q ty,tys[q]?=some ty→j0+q≠j→ty.flatB=true
 | [],j0,j,e,h=>by cases h
 | ty :: tys,j0,j,e,h=>by
  have other:ty.flatB=true→b9j (j0+1) tys=some (j,e)→j0≤j∧(ty :: tys)[j - j0]?=some (.row e)∧∀ q ty',(ty :: tys)[q]?=some ty'→j0+q≠j→ty'.flatB=true:=fun hf hl=>by
   obtain ⟨h1,h2,h3⟩:=c2e hl;refine ⟨by omega,?_,fun q ty' hq hne=>?_⟩
   ·rw [show j - j0=(j - (j0+1))+1 by omega,List.getElem?_cons_succ];exact h2
   ·cases q with
    | zero=>cases hq;exact hf
    | succ q=>exact h3 q ty' (by simpa using hq) (by omega)
  have c1v:(∀ e,ty≠.row e)→b9j j0 (ty :: tys)=bif ty.flatB then b9j (j0+1) tys else none:=fun hne=>by
   cases ty <;> first | rfl | exact (hne _ rfl).elim
  by_cases hr:∃ e,ty=.row e
  ·obtain ⟨e',rfl⟩:=hr;unfold b9j at h;obtain ⟨hall,h1⟩:=a1z h;cases h1;refine ⟨Nat.le_refl _,by rw [Nat.sub_self];rfl,fun q ty' hq hne=>?_⟩;cases q with
   | zero=>exact (hne rfl).elim
   | succ q=>exact List.all_eq_true.1 hall ty' (List.mem_of_getElem? (by simpa using hq))
  ·have hne:∀ e,ty≠.row e:=fun e hx=>hr ⟨e,hx⟩;rw [c1v hne] at h;obtain ⟨hf,h1⟩:=a1z h;exact other hf h1
theorem e0x:∀ {as:List A} {vs:List Value},as.length=vs.length→(∀ (q:Nat) (a:A) (v:Value),as[q]?=some a→vs[q]?=some v→RV1 E env w S a v)→RVs E env w S as vs
 | [],[],_,_=>trivial
 | a :: as,v :: vs,hl,h=>⟨h 0 a v rfl rfl,e0x (by simpa using hl) fun q a' v' h1 h2=>h (q+1) a' v' (by simpa using h1) (by simpa using h2)⟩
 | [],_ :: _,hl,_=>by simp at hl
 | _ :: _,[],hl,_=>by simp at hl
theorem b1e:∀ (o:Nat) (tys:List Ty) (cs:List T),(d0b o tys cs).length=tys.length
 | _,[],_=>rfl
 | o,ty :: tys,cs=>by simp [d0b,b1e (o+1) tys cs]
theorem b9x:∀ (o:Nat) (tys:List Ty) (cs:List T) (q:Nat) (ty:Ty),tys[q]?=some ty→(d0b o tys cs)[q]?=some (ofT ty (cs.getD (o+q) (.i 0)))
 | _,[],_,q,ty,h=>by simp at h
 | o,t :: tys,cs,0,ty,h=>by cases h;rfl
 | o,t :: tys,cs,q+1,ty,h=>by
  have:=b9x (o+1) tys cs q ty (by simpa using h);rw [show o+(q+1)=o+1+q by omega];exact this
theorem b9y {S:Nat→Prop} {ty:Ty} {t:T} {v:Value} (hf:ty.flatB=true) (h:RC E w S ty t v):RV1 E env w S (ofT ty t) v∧(ofT ty t).solid=true:=by
 cases h with
 | int=>exact ⟨rfl,rfl⟩
 | bool=>exact ⟨rfl,rfl⟩
 | str=>exact ⟨rfl,rfl⟩
 | nl=>cases hf
 | emp=>cases hf
 | row=>cases hf
theorem f1w (hT:a1e P E=true) (h:Heap E β [] m env w) {t dst:Nat} {n:Nm} {e i o j e':Nat} {es:List (List T)} (hn:m n=some (.deep e es none)) {vx:Value} (hx:RV E env w (a0b β [] m env w) (.ep n e i o) vx)
  (hj:b9j 0 (((E.flat e).drop o).take (E.sz t))=some (j,e')) {a:A} {m':Mem} {p p':FP}
  (hp:(e6h E dst t n e i o es j e').ev m p=some (a,m',p')):Gives P E β m env w (Instr.loadAt t vx) a m':=by
 unfold e6h at hp;obtain ⟨hc,hp1⟩:=M.g5z hp;obtain ⟨hc1,hle⟩:=a0a hc;obtain ⟨hk,ha⟩:=a0a hc1;have hle:=a2p hle;obtain ⟨_,m1,p1,h1,hq⟩:=M.bind_some hp1;obtain ⟨hnd,rfl⟩:=M.g5x h1;obtain ⟨p2,hq⟩:=M.g6l hq;cases hq;obtain ⟨g,len,cap,f1,hi,rfl⟩:=hx;obtain ⟨v,xs,fps,e1,e2,e3,_,e5⟩:=h.obj n _ hn;rw [f1] at e1;cases e1;have hlen':len=es.length:=by
  rcases e2.2 with ⟨h0,_⟩ | ⟨g',cap',cur,h0,_⟩
  ·cases h0
  ·cases h0;rfl
 subst hlen';have hlen:(((E.flat e).drop o).take (E.sz t)).length=E.sz t:=by simp [Env.sz] at hle ⊢;omega
 have hty:∀ q ty,(((E.flat e).drop o).take (E.sz t))[q]?=some ty→a4e E e (o+q)=ty:=fun q ty hq=>by
  have hql:q<E.sz t:=by rw [← hlen];exact (List.getElem?_eq_some_iff.1 hq).1
  rw [List.getElem?_take,if_pos hql,List.getElem?_drop] at hq;unfold a4e;rw [List.getD_eq_getElem?_getD,hq];rfl
 obtain ⟨_,hj1,hj2⟩:=c2e hj;rw [Nat.sub_zero] at hj1;have hjl:j<E.sz t:=by rw [← hlen];exact (List.getElem?_eq_some_iff.1 hj1).1
 have hcell:∀ q,q<E.sz t→w.cell? ⟨g,i*E.sz e+(o+q),none⟩=some (xs[i*E.sz e+(o+q)]?.getD undef):=fun q hq=>by
  have hlt:=a1w (sz:=E.sz e) hi (show o+q<E.sz e by omega);have hxl:i*E.sz e+(o+q)<xs.length:=by rw [e2.1];exact hlt
  rw [e2.cellAt _ hlt,List.getElem?_eq_getElem hxl];rfl
 obtain ⟨u,env',k1,k2,k3,k4,k5,k6⟩:=h.hole hn hnd hi (show o+j<E.sz e by omega) (hty j _ hj1) f1;have hu:u=xs[i*E.sz e+(o+j)]?.getD undef:=by rw [hcell j hjl] at k1;cases k1;rfl
 have hvl:=a7q (fun q=>xs[i*E.sz e+q]?.getD undef) o (E.sz t);obtain ⟨v,r1,r2,_⟩:=b6b hT hk (g:=g) (o:=i*E.sz e+o) (cs:=vals (fun q=>xs[i*E.sz e+q]?.getD undef) o (E.sz t)) (as:=(d0b o (((E.flat e).drop o).take (E.sz t)) (es.getD i [])).set j (.ref (dst,j+1)))
  (env:=env') (S:=a0b β [] ((m.put (dst,j+1) (f4b E e' (tAt es i (o+j)).asR)).put n (.deep e es (some (i,o+j,(dst,j+1))))) env' w) hvl (fun q v hq=>by
   obtain ⟨hq1,rfl⟩:=a6s _ _ _ _ _ hq;rw [Nat.add_assoc];exact hcell q hq1)
  (by
   have hs:∀ (as:List A),(∀ a,a∈as→a.solid=true)→a0o as=true:=fun as=>by
    induction as with
    | nil=>intro _;rfl
    | cons a as ih=>intro hh;unfold a0o;rw [hh a List.mem_cons_self,ih fun a ha=>hh a (List.mem_cons_of_mem _ ha)];rfl
   refine hs _ fun a ha=>?_;rcases List.mem_or_eq_of_mem_set ha with h5 | rfl
   ·obtain ⟨q,hq⟩:=List.getElem?_of_mem h5;have hql:q<(((E.flat e).drop o).take (E.sz t)).length:=by rw [← b1e o _ (es.getD i [])];exact (List.getElem?_eq_some_iff.1 hq).1
    have hty':=List.getElem?_eq_getElem hql;rw [b9x _ _ _ _ _ hty'] at hq;cases hq;by_cases hqj:q=j
    ·subst hqj;rw [hj1] at hty';have:=(Option.some.inj hty').symm;rw [this];rfl
    ·have hfl:=hj2 q _ hty' (by omega);have hdc:=e3 i (o+q) hi (by rw [hlen] at hql;omega) (by simp) (by simp);rw [hty q _ hty'] at hdc;exact (b9y (env:=env) hfl ((hdc.flat0 hfl).2 (fun _=>True))).2
   ·rfl)
  (e0x (by rw [List.length_set,b1e,hlen,hvl]) fun q a v hqa hqv=>by
   obtain ⟨hq1,rfl⟩:=a6s _ _ _ _ _ hqv;have hql:q<(((E.flat e).drop o).take (E.sz t)).length:=by rw [hlen];exact hq1
   have hty':=List.getElem?_eq_getElem hql;by_cases hqj:q=j
   ·subst hqj;rw [List.getElem?_set_self (by rw [b1e];exact hql)] at hqa;cases hqa;rw [← hu];exact ⟨k2,k3⟩
   ·rw [List.getElem?_set_ne (Ne.symm hqj),b9x _ _ _ _ _ hty'] at hqa;cases hqa;have hfl:=hj2 q _ hty' (by omega);have hdc:=e3 i (o+q) hi (by omega) (by simp) (by simp);rw [hty q _ hty'] at hdc;exact (b9y hfl ((hdc.flat0 hfl).2 _)).1)
 have hrv:=b7w r2;unfold b1x at hrv;rw [ha] at hrv;exact ⟨v,w,env',r1,hrv,k4,k5,k6⟩
theorem f1x (hT:a1e P E=true) (h:Heap E β [] m env w) {t:Nat} {n nm:Nm} {e i o j e':Nat} {es:List (List T)} (hn:m n=some (.deep e es (some (i,o+j,nm)))) {vx:Value} (hx:RV E env w (a0b β [] m env w) (.ep n e i o) vx)
  (hj:b9j 0 (((E.flat e).drop o).take (E.sz t))=some (j,e')) (hk:E.known t=true) (ha:E.isAgg t=true) (hle:o+E.sz t≤E.sz e) :
  Gives P E β m env w (Instr.loadAt t vx) (.agg ((d0b o (((E.flat e).drop o).take (E.sz t)) (es.getD i [])).set j (.ref nm))) m:=by
 obtain ⟨g,len,cap,f1,hi,rfl⟩:=hx;obtain ⟨v,xs,fps,e1,e2,e3,e4,e5⟩:=h.obj n _ hn;rw [f1] at e1;cases e1;have hlen':len=es.length:=by
  rcases e2.2 with ⟨h0,_⟩ | ⟨g',cap',cur,h0,_⟩
  ·cases h0
  ·cases h0;rfl
 subst hlen';have hlen:(((E.flat e).drop o).take (E.sz t)).length=E.sz t:=by simp [Env.sz] at hle ⊢;omega
 have hty:∀ q ty,(((E.flat e).drop o).take (E.sz t))[q]?=some ty→a4e E e (o+q)=ty:=fun q ty hq=>by
  have hql:q<E.sz t:=by rw [← hlen];exact (List.getElem?_eq_some_iff.1 hq).1
  rw [List.getElem?_take,if_pos hql,List.getElem?_drop] at hq;unfold a4e;rw [List.getD_eq_getElem?_getD,hq];rfl
 obtain ⟨_,hj1,hj2⟩:=c2e hj;rw [Nat.sub_zero] at hj1;have hjl:j<E.sz t:=by rw [← hlen];exact (List.getElem?_eq_some_iff.1 hj1).1
 have hcell:∀ q,q<E.sz t→w.cell? ⟨g,i*E.sz e+(o+q),none⟩=some (xs[i*E.sz e+(o+q)]?.getD undef):=fun q hq=>by
  have hlt:=a1w (sz:=E.sz e) hi (show o+q<E.sz e by omega);have hxl:i*E.sz e+(o+q)<xs.length:=by rw [e2.1];exact hlt
  rw [e2.cellAt _ hlt,List.getElem?_eq_getElem hxl];rfl
 obtain ⟨_,_,k2,_,k3⟩:=e4.1 i (o+j) nm rfl (by omega);have hfree:∀ q,q<E.sz t→q≠j→DC E w (a4e E e (o+q)) (tAt es i (o+q)) (xs[i*E.sz e+(o+q)]?.getD undef) (fps (i*E.sz e+(o+q))):=fun q hq hne=>e3 i (o+q) hi (by omega) (fun n' hx=>by simp only [Option.some.injEq,Prod.mk.injEq] at hx;omega) (fun k n' hx=>by simp only [Option.some.injEq,Prod.mk.injEq] at hx;omega);have hvl:=a7q (fun q=>xs[i*E.sz e+q]?.getD undef) o (E.sz t);obtain ⟨v,r1,r2,_⟩:=b6b hT hk (g:=g) (o:=i*E.sz e+o) (cs:=vals (fun q=>xs[i*E.sz e+q]?.getD undef) o (E.sz t)) (as:=(d0b o (((E.flat e).drop o).take (E.sz t)) (es.getD i [])).set j (.ref nm))
  (env:=env) (S:=a0b β [] m env w) hvl (fun q v hq=>by
   obtain ⟨hq1,rfl⟩:=a6s _ _ _ _ _ hq;rw [Nat.add_assoc];exact hcell q hq1)
  (by
   have hs:∀ (as:List A),(∀ a,a∈as→a.solid=true)→a0o as=true:=fun as=>by
    induction as with
    | nil=>intro _;rfl
    | cons a as ih=>intro hh;unfold a0o;rw [hh a List.mem_cons_self,ih fun a ha=>hh a (List.mem_cons_of_mem _ ha)];rfl
   refine hs _ fun a ha=>?_;rcases List.mem_or_eq_of_mem_set ha with h5 | rfl
   ·obtain ⟨q,hq⟩:=List.getElem?_of_mem h5;have hql:q<(((E.flat e).drop o).take (E.sz t)).length:=by rw [← b1e o _ (es.getD i [])];exact (List.getElem?_eq_some_iff.1 hq).1
    have hty':=List.getElem?_eq_getElem hql;rw [b9x _ _ _ _ _ hty'] at hq;cases hq;by_cases hqj:q=j
    ·subst hqj;rw [hj1] at hty';have:=(Option.some.inj hty').symm;rw [this];rfl
    ·have hfl:=hj2 q _ hty' (by omega);have hdc:=hfree q (by rw [hlen] at hql;exact hql) hqj;rw [hty q _ hty'] at hdc;exact (b9y (env:=env) hfl ((hdc.flat0 hfl).2 (fun _=>True))).2
   ·rfl)
  (e0x (by rw [List.length_set,b1e,hlen,hvl]) fun q a v hqa hqv=>by
   obtain ⟨hq1,rfl⟩:=a6s _ _ _ _ _ hqv;have hql:q<(((E.flat e).drop o).take (E.sz t)).length:=by rw [hlen];exact hq1
   have hty':=List.getElem?_eq_getElem hql;by_cases hqj:q=j
   ·subst hqj;rw [List.getElem?_set_self (by rw [b1e];exact hql)] at hqa;cases hqa;exact ⟨k2,k3⟩
   ·rw [List.getElem?_set_ne (Ne.symm hqj),b9x _ _ _ _ _ hty'] at hqa;cases hqa;have hfl:=hj2 q _ hty' (by omega);have hdc:=hfree q hq1 hqj;rw [hty q _ hty'] at hdc;exact (b9y hfl ((hdc.flat0 hfl).2 _)).1)
 have hrv:=b7w r2;unfold b1x at hrv;rw [ha] at hrv;exact Gives.g6p h r1 hrv
theorem M.g6r {m m':Mem} {p p':FP} {b:Bool} (h:M.g5m.ev m p=some (b,m',p')):m=m':=by
 unfold M.g5m at h;obtain ⟨q,h⟩:=M.g6q h;split at h <;> (cases h;rfl)
theorem f1y (hT:a1e P E=true) (h:Heap E β [] m env w) {t dst:Nat} {x:A} {vx:Value} (hx:RV E env w (a0b β [] m env w) x vx) {a:A} {m':Mem} {p p':FP} (hp:(f4w E dst t x).ev m p=some (a,m',p')) :
  Gives P E β m env w (Instr.loadAt t vx) a m':=by
 have old:∀ {p},(c6g E t x).ev m p=some (a,m',p')→Gives P E β m env w (Instr.loadAt t vx) a m':=fun hp=>by
  obtain ⟨rfl,v,h1,h2,_⟩:=d3v hT h hx hp;exact Gives.g6p h h1 (b7w h2)
 unfold f4w at hp;split at hp
 ·rename_i n e i o;obtain ⟨q,hp⟩:=M.g6q hp;split at hp
  ·rename_i e' es hn;obtain ⟨md,m1,p1,h1,hp2⟩:=M.bind_some hp;cases M.g6r h1;cases hc:(Nat.beq e e'&&((((E.flat e).drop o).take (E.sz t)).all Ty.flatB || (md&&f3q E t e o))) with
   | true=>
    rw [hc] at hp2;obtain ⟨he,_⟩:=a0a hc;cases Nat.eq_of_beq_eq_true he;exact f1t hT h hn hx hp2
   | false=>
    rw [hc] at hp2;replace hp2:=(show (bif Nat.beq e e'&&md&&E.isAgg t then (match b9j 0 (((E.flat e).drop o).take (E.sz t)) with | some (j,e₁)=>e6h E dst t n e i o es j e₁ | none=>e6g E dst t n e i o es) else (M.lowD n).bind fun _=>c6g E t (.ep n e i o)).ev m p1=some (a,m',p') from hp2)
    cases hc2:(Nat.beq e e'&&md&&E.isAgg t) with
    | true=>
     rw [hc2] at hp2;obtain ⟨hc3,_⟩:=a0a hc2;cases Nat.eq_of_beq_eq_true (a0a hc3).1;replace hp2:=(show (match b9j 0 (((E.flat e).drop o).take (E.sz t)) with | some (j,e₁)=>e6h E dst t n e i o es j e₁ | none=>e6g E dst t n e i o es).ev m p1=some (a,m',p') from hp2)
     split at hp2
     ·rename_i j e₁ hj;exact f1w hT h hn hx hj hp2
     ·exact f1v hT h hn hx hp2
    | false=>
    rw [hc2] at hp2;obtain ⟨_,m2,p2,h2,hq2⟩:=M.bind_some (show ((M.lowD n).bind fun _=>c6g E t (.ep n e i o)).ev m p1=_ from hp2);obtain ⟨g1,g2⟩:=h.lowD h2;obtain ⟨rfl,v,k1,k2,_⟩:=d3v hT g1 (hx.mono (Names.le_refl _) g2.still) hq2;exact ⟨v,w,env,k1,b7w k2,g1,Names.le_refl _,g2.still⟩
  ·rename_i e' es i' j' n' hn;cases hc:(Nat.beq e e'&&(((E.flat e).drop o).take (E.sz t)).all Ty.flatB&&Nat.blt j' (E.sz e)&&!((E.flat e).getD j' .bool).flatB) with
   | true=>
    rw [hc] at hp;obtain ⟨c1,c2⟩:=a0a hc;obtain ⟨c1,c3⟩:=a0a c1;obtain ⟨c1,c4⟩:=a0a c1;cases Nat.eq_of_beq_eq_true c1;exact f1u hT h hn (Nat.le_of_ble_eq_true c3) (by unfold a4e;simpa using c2) hx c4 hp
   | false=>
    rw [hc] at hp;simp only [cond_false] at hp;split at hp
    ·rename_i j e₁ hj;cases hc2:(Nat.beq e e'&&E.isAgg t&&E.known t&&Nat.ble (o+E.sz t) (E.sz e)&&Nat.beq (o+j) j') with
     | false=>rw [hc2] at hp;exact old hp
     | true=>
      rw [hc2] at hp;obtain ⟨c1,c5⟩:=a0a hc2;obtain ⟨c1,c4⟩:=a0a c1;obtain ⟨c1,c3⟩:=a0a c1;obtain ⟨c1,c2⟩:=a0a c1;cases Nat.eq_of_beq_eq_true c1;cases Nat.eq_of_beq_eq_true c5;obtain ⟨c6,hp7⟩:=M.g5y hp;clear hp;cases Nat.eq_of_beq_eq_true c6;cases hp7;exact f1x hT h hn hx hj c3 c2 (a2p c4)
    ·exact old hp
  ·exact old hp
 ·exact old hp
theorem f5p {e j e':Nat} (h:f3p E e j e'=true):a4e E e j=.row e'∧j<E.sz e:=by
 unfold f3p at h;split at h
 ·rename_i x hx;have hj:j<(E.flat e).length:=(List.getElem?_eq_some_iff.1 hx).1;cases Nat.eq_of_beq_eq_true h;exact ⟨by unfold a4e;rw [List.getD_eq_getElem?_getD,hx];rfl,hj⟩
 ·cases h
theorem Heap.fill (h:Heap E β [] m env w) {n n':Nm} {e i j e':Nat} {es es':List (List T)} (hn:m n=some (.deep e es (some (i,j,n')))) (hty:f3p E e j e'=true)
  (hn':(m n'=some (.row e' true es')∧E.plain e'=true)∨m n'=some (.deep e' es' none)) :
  ∃ env',Heap E β [] ((m.put n' .dead).put n (.deep e (f0w es i j (.r es')) none)) env' w∧(∀ x,env' x=env x)∧Still w w (a0b β [] m env w) (a0b β [] ((m.put n' .dead).put n (.deep e (f0w es i j (.r es')) none)) env' w):=by
 obtain ⟨hty,hj⟩:=f5p hty;obtain ⟨v,xs,fps,e1,e2,e3,e4,e5⟩:=h.obj n _ hn;obtain ⟨hi,_,eu,efp⟩:=e4.1 i j n' rfl hj;generalize hu:xs[i*E.sz e+j]?.getD undef=u at eu;have hne:n'≠n:=by
  rintro rfl
  rcases hn' with ⟨h5,_⟩ | h5
  ·rw [hn] at h5;cases h5
  ·rw [hn] at h5;cases h5
 have hru:RV1 E env w (a0b β [] m env w) (.ref n') u:=⟨eu,by
  rcases hn' with ⟨h5,_⟩ | h5
  ·obtain ⟨u',h6,h7⟩:=h.rowOf h5;rw [eu] at h6;cases h6;rcases h7 with ⟨rfl,_⟩ | ⟨g,cap,rfl,_⟩ <;> exact ⟨_,_,_,rfl⟩
  ·obtain ⟨u',h6,h7⟩:=h.deepDC h5;rw [eu] at h6;cases h6;exact h7.slice⟩
 have hgive:∃ bs,Heap E β bs (m.put n' .dead) env w∧Prog β env w [] m bs (m.put n' .dead)∧DC E w (.row e') (.r es') u bs:=by
  rcases hn' with ⟨h5,hpl⟩ | h5
  ·obtain ⟨bs,g1,g2,g3⟩:=a7p (own:=true) (ty:=.row e') h hru (t:=.r es') (m':=m.put n' .dead) (p:=⟨[],[]⟩) (p':=⟨[n',n'],[n']⟩) (by simp [b9h,M.lowD,M.row,M.bind,M.ev,h5]);obtain ⟨⟨es2,ys,he2,ho,hr⟩,rfl⟩:=g3;cases he2;exact ⟨_,by simpa using g1,by simpa using g2,DC.plain hpl ho hr⟩
  ·obtain ⟨bs,g1,g2,g3⟩:=a7p (own:=true) (ty:=.deep e') h hru (t:=.r es') (m':=m.put n' .dead) (p:=⟨[],[]⟩) (p':=⟨[n'],[n']⟩) (by simp [b9h,M.ev,h5]);obtain ⟨es2,he2,hd⟩:=g3;cases he2;exact ⟨_,by simpa using g1,by simpa using g2,hd⟩
 obtain ⟨bs,g1,g2,g3⟩:=hgive;have hn1:(m.put n' .dead) n=some (.deep e es (some (i,j,n'))):=by rw [put_ne _ _ (Ne.symm hne)];exact hn
 have hownF:∀ b,owns (m.put n' .dead) env n b↔b∈env.fp n:=fun b=>by simp [owns,hn1]
 have hp:=a1w hi hj;have hnew:∀ b,b∈bs→b ∉ env.fp n:=fun b hb hF=>(g1.inb n b ((hownF b).2 hF)).2.2 hb
 let fps':Nat→List Nat:=fun q=>if q=i*E.sz e+j then bs else fps q
 obtain ⟨F,hF⟩:=Foot.ex v.ownBlock (es.length*E.sz e) fps' (fun q hq=>by
   simp only [fps'];split
   ·exact g3.nodup
   ·rename_i hqp;have hsz:0<E.sz e:=by omega
    have hpi:q / E.sz e<es.length:=Nat.div_lt_of_lt_mul (by rw [Nat.mul_comm];exact hq);have:=e3 (q / E.sz e) (q % E.sz e) hpi (Nat.mod_lt q hsz) (fun x hx=>by
     cases hx;exact hqp (Nat.div_add_mod' q (E.sz e)).symm) (fun k x hx=>by cases hx;exact hj)
    rw [Nat.div_add_mod'] at this;exact this.nodup) (fun q b hq hb=>by
   simp only [fps'] at hb;split at hb
   ·exact fun h6=>hnew b hb ((e5.mem b).2 (.inl h6))
   ·exact e5.d1 q b hq hb) (fun q r b hq hr hb hb'=>by
   simp only [fps'] at hb hb';split at hb <;> split at hb'
   ·omega
   ·exact (hnew b hb ((e5.mem b).2 (.inr ⟨r,hr,hb'⟩))).elim
   ·exact (hnew b hb' ((e5.mem b).2 (.inr ⟨q,hq,hb⟩))).elim
   ·exact e5.d2 q r b hq hr hb hb')
 have hown1:∀ b,owns ((m.put n' .dead).put n (.deep e (f0w es i j (.r es')) none)) (env.putD n v F) n b↔b∈F:=fun b=>by simp [owns,put_self,Names.g6c]
 have hFb:∀ b,b∈F→owns (m.put n' .dead) env n b∨b∈bs:=fun b hb=>by
  rcases (hF.mem b).1 hb with h5 | ⟨q,hq,h5⟩
  ·exact .inl ((hownF b).2 ((e5.mem b).2 (.inl h5)))
  ·simp only [fps'] at h5;split at h5
   ·exact .inr h5
   ·exact .inl ((hownF b).2 ((e5.mem b).2 (.inr ⟨q,hq,h5⟩)))
 have hlen:(f0w es i j (.r es')).length=es.length:=by unfold f0w;rw [List.length_set]
 obtain ⟨k1,k2,k3⟩:=g1.oneD (w':=w) (L':=[]) n (.deep e (f0w es i j (.r es')) none) v F (.inr e1) (fun _=>by
   refine ⟨v,xs,fps',Names.g6a _ _ _ _,by rw [hlen];exact e2,fun i' j' hi' hj' _ _=>?_,⟨fun _ _ _ h=>(by cases h),HoleE.none⟩,by rw [hlen,Names.g6c];exact hF⟩;rw [hlen] at hi';unfold f0w;rw [e0w hi];by_cases hij:i'=i∧j'=j
   ·obtain ⟨rfl,rfl⟩:=hij;rw [if_pos ⟨rfl,Nat.le_refl _,by simp⟩];simp only [fps',if_true,Nat.sub_self,List.getD_cons_zero];rw [hty,hu];exact g3
   ·rw [if_neg (fun h=>hij ⟨h.1,by simp at h;omega⟩)];have hqp:i'*E.sz e+j'≠i*E.sz e+j:=fun he=>hij (e7s hj' hj he);simp only [fps',if_neg hqp];exact e3 i' j' hi' hj' (fun x hx=>by cases hx;exact hij ⟨rfl,rfl⟩) (fun k x hx=>by cases hx;exact hj))
  (fun b hb=>by simp at hb) (fun b hb=>by simp at hb) List.nodup_nil
  (fun b hb=>by
   rcases hFb b ((hown1 b).1 hb) with h5 | h5
   ·exact ⟨(g1.inb _ _ h5).1,.inl h5⟩
   ·exact ⟨(g1.inL _ h5).1,.inr (.inr h5)⟩) (fun _ _ _ _=>rfl) rfl rfl rfl (Nat.le_refl _)
 refine ⟨_,k1,fun x=>?_,g2.still.trans k3⟩;by_cases hx:x=n
 ·subst hx;rw [Names.g6a];exact e1.symm
 ·rw [Names.g6b _ _ _ hx]
def Ghost (E:Env) (β:Base) (m:Mem) (env:Names) (w:World) (m':Mem):Prop:=
 ∃ env',Heap E β [] m' env' w∧(∀ x,env' x=env x)∧Still w w (a0b β [] m env w) (a0b β [] m' env' w)
theorem Ghost.refl (h:Heap E β [] m env w):Ghost E β m env w m:=⟨env,h,fun _=>rfl,Still.refl _ _⟩
theorem c6z:∀ {k:Nat} {n:Nm} {m:Mem} {env:Names} {m':Mem} {p p':FP} {u:Unit},Heap E β [] m env w→(d1i E k n).ev m p=some (u,m',p')→Ghost E β m env w m'
 | 0,n,m,env,m',p,p',u,h,hp=>by unfold d1i at hp;cases hp;exact Ghost.refl h
 | k+1,n,m,env,m',p,p',u,h,hp=>by
  unfold d1i at hp;obtain ⟨q,hp⟩:=M.g6q hp;split at hp
  ·rename_i e₀ es₀ i₀ j₀ n₀ hn₀;obtain ⟨_,m1,p1,h1,hq⟩:=M.bind_some hp;obtain ⟨env1,g1,g2,g3⟩:=c6z h h1;have hsame:m'=m1→Ghost E β m env w m':=fun e=>by subst e;exact ⟨env1,g1,g2,g3⟩
   obtain ⟨q2,hq⟩:=M.g6q hq;split at hq
   ·rename_i e es i j n' hn;have hstep:∀ {e' es'},f3p E e j e'=true→((m1 n'=some (.row e' true es')∧E.plain e'=true)∨m1 n'=some (.deep e' es' none))→m'=(m1.put n' .dead).put n (.deep e (f0w es i j (.r es')) none)→Ghost E β m env w m':=by
     intro e' es' hty hn' hm;subst hm;obtain ⟨env2,k1,k2,k3⟩:=g1.fill hn hty hn';exact ⟨env2,k1,fun x=>(k2 x).trans (g2 x),g3.trans k3⟩
    obtain ⟨q3,hq⟩:=M.g6q hq;split at hq
    ·rename_i e' es' hn';cases hc:(f3p E e j e'&&E.plain e') with
     | true=>
      rw [hc] at hq;obtain ⟨c1,c2⟩:=a0a hc;cases hq;exact hstep c1 (.inl ⟨hn',c2⟩) rfl
     | false=>rw [hc] at hq;cases hq;exact hsame rfl
    ·rename_i e' es' hn';cases hc:f3p E e j e' with
     | true=>rw [hc] at hq;cases hq;exact hstep hc (.inr hn') rfl
     | false=>rw [hc] at hq;cases hq;exact hsame rfl
    ·cases hq;exact hsame rfl
   ·cases hq;exact hsame rfl
  ·cases hp;exact Ghost.refl h
theorem c7a:∀ {ns:List Nm} {m:Mem} {env:Names} {m':Mem} {p p':FP} {u:Unit},Heap E β [] m env w→(d7a E ns).ev m p=some (u,m',p')→Ghost E β m env w m'
 | [],m,env,m',p,p',u,h,hp=>by cases hp;exact Ghost.refl h
 | n :: ns,m,env,m',p,p',u,h,hp=>by
  obtain ⟨_,m1,p1,h1,hq⟩:=M.bind_some hp;obtain ⟨env1,g1,g2,g3⟩:=c6z h h1;obtain ⟨env2,k1,k2,k3⟩:=c7a g1 hq;exact ⟨env2,k1,fun x=>(k2 x).trans (g2 x),g3.trans k3⟩
theorem c7b:∀ {ns:List Nm} {m:Mem} {env:Names} {m':Mem} {p p':FP} {u:Unit},Heap E β [] m env w→(d3b E ns).ev m p=some (u,m',p')→Ghost E β m env w m'
 | [],m,env,m',p,p',u,h,hp=>by cases hp;exact Ghost.refl h
 | n :: ns,m,env,m',p,p',u,h,hp=>by
  obtain ⟨l,m1,p1,h1,hq⟩:=M.bind_some hp;have hm:m=m1:=by
   unfold d3a at h1;obtain ⟨q,h1⟩:=M.g6q h1;split at h1 <;> (cases h1;rfl)
  subst hm;obtain ⟨_,m2,p2,h2,hq2⟩:=M.bind_some hq;obtain ⟨env1,g1,g2,g3⟩:=c7a h h2;obtain ⟨env2,k1,k2,k3⟩:=c7b g1 hq2;exact ⟨env2,k1,fun x=>(k2 x).trans (g2 x),g3.trans k3⟩
theorem d1u {x:A} {m m':Mem} {p p':FP} {b:Bool} (h:(f0z x).ev m p=some (b,m',p')):m=m':=by
 unfold f0z at h;split at h
 ·obtain ⟨q,h⟩:=M.g6q h;split at h
  ·obtain ⟨k,m1,p1,h1,h2⟩:=M.bind_some h;cases h2;unfold M.g5n at h1;obtain ⟨q,h1⟩:=M.g6q h1;split at h1 <;> (cases h1;rfl)
  ·cases h;rfl
 ·cases h;rfl
theorem d1v:∀ {ns:List Nm} {m:Mem} {env:Names} {m':Mem} {p p':FP} {u:Unit},Heap E β [] m env w→(e0k E ns).ev m p=some (u,m',p')→Ghost E β m env w m'
 | [],m,env,m',p,p',u,h,hp=>by cases hp;exact Ghost.refl h
 | n :: ns,m,env,m',p,p',u,h,hp=>by
  obtain ⟨l,m0,p0,h0,hp⟩:=M.bind_some hp;cases d1u h0;obtain ⟨_,m1,p1,h1,hq⟩:=M.bind_some hp;obtain ⟨env1,g1,g2,g3⟩:Ghost E β m env w m1:=by
   cases l with
   | true=>cases h1;exact Ghost.refl h
   | false=>exact c6z h h1
  obtain ⟨env2,k1,k2,k3⟩:=d1v g1 hq;exact ⟨env2,k1,fun x=>(k2 x).trans (g2 x),g3.trans k3⟩
theorem c3o:∀ {ns:List Nm} {m:Mem} {env:Names} {m':Mem} {p p':FP} {u:Unit},Heap E β [] m env w→(b9l E ns).ev m p=some (u,m',p')→Ghost E β m env w m'
 | [],m,env,m',p,p',u,h,hp=>by cases hp;exact Ghost.refl h
 | n :: ns,m,env,m',p,p',u,h,hp=>by
  obtain ⟨l,m1,p1,h1,hq⟩:=M.bind_some hp;have hm:m=m1:=by
   unfold d3a at h1;obtain ⟨q,h1⟩:=M.g6q h1;split at h1 <;> (cases h1;rfl)
  subst hm;obtain ⟨_,m2,p2,h2,hq2⟩:=M.bind_some hq;obtain ⟨env1,g1,g2,g3⟩:=d1v h h2;obtain ⟨env2,k1,k2,k3⟩:=c3o g1 hq2;exact ⟨env2,k1,fun x=>(k2 x).trans (g2 x),g3.trans k3⟩
theorem e4t {σ:St} {op:Op} {m m':Mem} {p p':FP} {b:Bool} (h:(e0l E σ op).ev m p=some (b,m',p')):m=m':=by
 unfold e0l at h;split at h
 ·split at h
  ·split at h
   ·obtain ⟨q,h⟩:=M.g6q h;split at h <;> (cases h;rfl)
   ·cases h;rfl
  ·cases h;rfl
 ·cases h;rfl
theorem e2o (h:Heap E β [] m env w) {σ:St} {o:Oper} {m':Mem} {p p':FP} {u:Unit} (hp:(d0e E σ o).ev m p=some (u,m',p')):Ghost E β m env w m':=by
 unfold d0e at hp;cases hpo:(!f3u o.op || b7i E σ o.op) with
 | true=>rw [hpo] at hp;cases hp;exact Ghost.refl h
 | false=>
 rw [hpo] at hp;obtain ⟨hd,m0,p0,h0,hp⟩:=M.bind_some hp;cases e4t h0;cases hd with
 | true=>cases hp;exact Ghost.refl h
 | false=>
 replace hp:=(show (match b2w σ (d7f o.op) o.op.operands.toList with | []=>M.ret () | n :: ns=>M.g5m.bind fun md=>bif md then b9l E (n :: ns) else .ret ():M Unit).ev m p0=some (u,m',p') from hp)
 split at hp
 ·cases hp;exact Ghost.refl h
 ·obtain ⟨b,m1,p1,h1,hq⟩:=M.bind_some hp;cases M.g6r h1;cases b with
  | true=>exact c3o h hq
  | false=>cases hq;exact Ghost.refl h
end
section
variable {P:Program} {E:Env} {β:Base} {L:List Nat} {m:Mem} {env:Names} {w w':World} {S:Nat→Prop}
theorem DC.one {ty:Ty} {t:T} {v:Value} {bs:List Nat} (h:DC E w ty t v bs):v.oneCell'=true:=by
 cases h with
 | int=>rfl
 | bool=>rfl
 | str=>rfl
 | row fps ho hc hm=>rcases ho.2 with ⟨rfl,_⟩ | ⟨g,cap,cur,rfl,_⟩ <;> rfl
theorem b9a (hT:a1e P E=true) {t ty e:Nat} (he:b5u E t e=true) {v vy:Value} {n1 n2:Nat} {xs ys:List Value} (ho:w.ownsRow 0 e (E.sz e) v n1 xs) (hy:w.ownsRow 0 e (E.sz e) vy n2 ys)
  (hone:∀ u,u∈ys→u.oneCell'=true) (hroom:(n1+n2)*(E.ti e).bytes≤140737488355328) :
  ∃ v' w',(Builtin.append_ #[t,t] ty #[v,vy]).run P w=.ok v' w'∧w'.ownsRow 0 e (E.sz e) v' (n1+n2) (xs++ys)∧w.grownBy w' v.ownBlock∧(v'.ownBlock=v.ownBlock∨v'.ownBlock=some w.heap.size):=by
 obtain ⟨hu,hk,hby,_,_⟩:=a4x hT he;obtain ⟨i,z,hi,hsz,hbytes,hz,hzc,_⟩:=a4w hT hk;have hpos:=a2n hk;rcases hy.2 with ⟨rfl,rfl⟩ | ⟨g,cap,cur,rfl,_⟩
 ·have:ys=[]:=List.eq_nil_of_length_eq_zero (by rw [hy.1];simp);subst this;exact ⟨v,w,run_append_owned_none w 0 t ty e i (E.sz e) hu hi v _ xs ho,by simpa using ho,⟨rfl,rfl,rfl,Nat.le_refl _,fun _ _ _=>rfl⟩,.inl rfl⟩
 ·have hmul:n1+n2≤(n1+n2)*(E.ti e).bytes:=Nat.le_mul_of_pos_right _ (by omega);obtain ⟨v',w',hrun,hown',hgrow,_,hblk⟩:=run_append_own_at (P:=P) w 0 t ty e i z (E.sz e) (E.ti e).bytes hu hi hz hsz hbytes (by have:=congrArg List.length hzc;simpa [Env.sz] using this) hpos v n1 xs ho
   ⟨g,0,none⟩ n2 cap ys hy.1 (fun j u hju=>hy.cells rfl j u hju) hone (by simp only [maxLen];omega) hroom (Nat.zero_le _)
  exact ⟨v',w',hrun,hown',hgrow,hblk⟩
theorem e0y {e:Nat} {es:List (List T)} {ys:List Value} {v:Value} {fps:Nat→List Nat} (ho:w.ownsRow 0 e (E.sz e) v es.length ys) (hc:∀ i j,i<es.length→j<E.sz e→DC E w (a4e E e j) (tAt es i j) (ys[i*E.sz e+j]?.getD undef) (fps (i*E.sz e+j))) :
  ∀ u,u∈ys→u.oneCell'=true:=by
 intro u hu;obtain ⟨q,hq⟩:=List.getElem?_of_mem hu;have hlt:q<es.length*E.sz e:=by rw [← ho.1];exact (List.getElem?_eq_some_iff.1 hq).1
 have hsz:0<E.sz e:=by
  rcases Nat.eq_zero_or_pos (E.sz e) with h0 | h0
  ·rw [h0] at hlt;simp at hlt
  ·exact h0
 have:=(hc (q / E.sz e) (q % E.sz e) (Nat.div_lt_of_lt_mul (by rw [Nat.mul_comm];exact hlt)) (Nat.mod_lt q hsz)).one;rw [Nat.div_add_mod',hq] at this;exact this
theorem e4u (hT:a1e P E=true) (h:Heap E β [] m env w) {t ty dst:Nat} {x y:A} {vx vy:Value} (hx:RV E env w (a0b β [] m env w) x vx) (hy:RV E env w (a0b β [] m env w) y vy) {a:A} {m':Mem} {p p':FP}
  (hp:(c6h E dst t x y).ev m p=some (a,m',p')):Gives P E β m env w (Builtin.append_ #[t,t] ty #[vx,vy]) a m':=by
 unfold c6h at hp;obtain ⟨he,hp1⟩:=M.g5z hp;clear hp;generalize E.elem t=e at he hp1;obtain ⟨ax,m1,p1,h1,hq⟩:=M.bind_some hp1;obtain ⟨ay,m2,p2,h2,hq2⟩:=M.bind_some hq;obtain ⟨hc,hq3⟩:=M.g5y hq2;have hroom:=of_decide_eq_true hc;obtain ⟨_,m3,p3,h3,hq4⟩:=M.bind_some hq3;obtain ⟨hn,rfl⟩:=M.g5x h3;cases hq4;have hx1:RV1 E env w (a0b β [] m env w) x vx:=by cases x <;> first | exact hx | (unfold b9h at h1;cases h1)
 obtain ⟨b1,g1,g2,es1,rfl,d1⟩:=a7p h hx1 h1;rw [List.nil_append] at g1 g2;have hy0:=hy.mono (Names.le_refl _) g2.still;have hy1:RV1 E env w (a0b β b1 m1 env w) y vy:=by cases y <;> first | exact hy0 | (unfold b9h at h2;cases h2)
 obtain ⟨b2,k1,k2,es2,rfl,d2⟩:=a7p g1 hy1 h2;obtain ⟨hn1,hn2,hn3⟩:=List.nodup_append.1 k1.nodup;cases d1 with
 | @row _ _ _ xs _ fps1 ho1 hc1 hm1=>
 cases d2 with
 | @row _ _ _ ys _ fps2 ho2 hc2 hm2=>
 obtain ⟨v',w',hrun,ho',hg,hb⟩:=b9a (P:=P) (ty:=ty) hT he ho1 ho2 (e0y ho2 hc2) hroom;have hxl:xs.length=es1.length*E.sz e:=ho1.1
 let fps:Nat→List Nat:=fun q=>if q<es1.length*E.sz e then fps1 q else fps2 (q - es1.length*E.sz e)
 have hadd:(es1.length+es2.length)*E.sz e=es1.length*E.sz e+es2.length*E.sz e:=Nat.add_mul _ _ _;have hfp:∀ q b,q<(es1.length+es2.length)*E.sz e→b∈fps q→(q<es1.length*E.sz e∧b∈fps1 q∧b∈b1)∨(es1.length*E.sz e≤q∧q - es1.length*E.sz e<es2.length*E.sz e∧b∈fps2 (q - es1.length*E.sz e)∧b∈b2):=fun q b hq hb=>by
  simp only [fps] at hb;split at hb
  ·rename_i hlt;exact .inl ⟨hlt,hb,(hm1.mem b).2 (.inr ⟨q,hlt,hb⟩)⟩
  ·rename_i hlt;exact .inr ⟨by omega,by omega,hb,(hm2.mem b).2 (.inr ⟨_,by omega,hb⟩)⟩
 have hold:∀ b,b∈b1++b2→b<w.heap.size:=fun b hb=>(k1.inL b hb).1;have hnb:∀ q b,q<(es1.length+es2.length)*E.sz e→b∈fps q→vx.ownBlock≠some b:=fun q b hq hb hv=>by
  rcases hfp q b hq hb with ⟨h5,h6,_⟩ | ⟨_,h5,h6,h7⟩
  ·exact hm1.d1 q b h5 h6 hv
  ·exact hn3 b ((hm1.mem b).2 (.inl hv)) b h7 rfl
 obtain ⟨F,hF⟩:=Foot.ex v'.ownBlock ((es1.length+es2.length)*E.sz e) fps (fun q hq=>by
   simp only [fps];split
   ·rename_i hlt;obtain ⟨a1,a2,a3⟩:=a6t hlt;have:=hc1 _ _ a1 a2;rw [a3] at this;exact this.nodup
   ·rename_i hlt;obtain ⟨a1,a2,a3⟩:=a6t (show q - es1.length*E.sz e<es2.length*E.sz e by omega);have:=hc2 _ _ a1 a2;rw [a3] at this;exact this.nodup) (fun q b hq hbq hv=>by
   rcases hb with h5 | h5
   ·exact hnb q b hq hbq (by rw [← h5];exact hv)
   ·rw [h5] at hv;cases hv;rcases hfp q _ hq hbq with ⟨_,_,h6⟩ | ⟨_,_,_,h6⟩
    ·have:=hold _ (List.mem_append_left _ h6);omega
    ·have:=hold _ (List.mem_append_right _ h6);omega) (fun q r b hq hr hbq hbr=>by
   rcases hfp q b hq hbq with ⟨a1,a2,a3⟩ | ⟨a0,a1,a2,a3⟩ <;> rcases hfp r b hr hbr with ⟨c1,c2,c3⟩ | ⟨c0,c1,c2,c3⟩
   ·exact hm1.d2 q r b a1 c1 a2 c2
   ·exact (hn3 b a3 b c3 rfl).elim
   ·exact (hn3 b c3 b a3 rfl).elim
   ·have:=hm2.d2 _ _ b a1 c1 a2 c2;omega)
 have hown:∀ b,owns (m2.put (dst,0) (.deep e (es1++es2) none)) (env.putD (dst,0) v' F) (dst,0) b↔b∈F:=fun b=>by simp [owns,put_self,Names.g6c]
 have hkeep:∀ b,b<w.heap.size→vx.ownBlock≠some b→w'.heap[b]?=w.heap[b]?:=fun b hb hv=>hg.block b hb (fun e=>hv e.symm);obtain ⟨q1,q2,q3⟩:=k1.oneD (w':=w') (L':=[]) (dst,0) (.deep e (es1++es2) none) v' F (.inl (k1.dom _ hn)) (fun _=>by
   refine ⟨v',xs++ys,fps,Names.g6a _ _ _ _,by rw [List.length_append];exact ho',fun i j hi hj _ _=>?_,⟨fun _ _ _ h=>(by cases h),HoleE.none⟩,by rw [Names.g6c,List.length_append];exact hF⟩;rw [List.length_append] at hi;by_cases hlt:i<es1.length
   ·have hk2:=a1w (sz:=E.sz e) hlt hj;have hat:tAt (es1++es2) i j=tAt es1 i j:=by simp [tAt,List.getD_eq_getElem?_getD,List.getElem?_append_left hlt]
    rw [hat,List.getElem?_append_left (by rw [hxl];exact hk2)];simp only [fps,if_pos hk2];refine (hc1 i j hlt hj).mono fun b hb=>hkeep b (hold b (List.mem_append_left _ ((hm1.mem b).2 (.inr ⟨_,hk2,hb⟩)))) (hm1.d1 _ b hk2 hb)
   ·obtain ⟨q,rfl⟩:∃ q,i=es1.length+q:=⟨i - es1.length,by omega⟩;have hq:q<es2.length:=by omega
    have hk2:=a1w (sz:=E.sz e) hq hj;have hat:tAt (es1++es2) (es1.length+q) j=tAt es2 q j:=by simp [tAt,List.getD_eq_getElem?_getD,List.getElem?_append_right]
    have hidx:(es1.length+q)*E.sz e+j=es1.length*E.sz e+(q*E.sz e+j):=by rw [Nat.add_mul];omega
    rw [hat,hidx,List.getElem?_append_right (by rw [hxl];omega),hxl,Nat.add_sub_cancel_left];simp only [fps];rw [if_neg (by omega),Nat.add_sub_cancel_left];have hb2:∀ b,b∈fps2 (q*E.sz e+j)→b∈b2:=fun b hb=>(hm2.mem b).2 (.inr ⟨_,hk2,hb⟩);refine (hc2 q j hq hj).mono fun b hb=>hkeep b (hold b (List.mem_append_right _ (hb2 b hb))) (fun hv=>hn3 b ((hm1.mem b).2 (.inl hv)) b (hb2 b hb) rfl))
  (fun b hb=>by simp at hb) (fun b hb=>by simp at hb) List.nodup_nil
  (fun b hb'=>by
   rcases (hF.mem b).1 ((hown b).1 hb') with h5 | ⟨q,hq,h5⟩
   ·refine ⟨(ho'.lt b h5).2,?_⟩;rcases hb with h6 | h6
    ·exact .inr (.inr (List.mem_append_left _ ((hm1.mem b).2 (.inl (by rw [← h6];exact h5)))))
    ·rw [h6] at h5;cases h5;exact .inr (.inl (Nat.le_refl _))
   ·have hmem:b∈b1++b2:=by
     rcases hfp q b hq h5 with ⟨_,_,h6⟩ | ⟨_,_,_,h6⟩
     ·exact List.mem_append_left _ h6
     ·exact List.mem_append_right _ h6
    exact ⟨Nat.lt_of_lt_of_le (hold b hmem) hg.size,.inr (.inr hmem)⟩)
  (fun b hb' _ hbL=>hkeep b hb' (fun hv=>hbL (List.mem_append_left _ ((hm1.mem b).2 (.inl hv))))) hg.os hg.tape hg.output hg.size
 refine ⟨v',w',_,hrun,⟨Names.g6a _ _ _ _,?_⟩,q1,q2,g2.still.trans (k2.still.trans q3)⟩;rcases ho'.2 with ⟨rfl,_⟩ | ⟨g,cap,cur,rfl,_⟩ <;> exact ⟨_,_,_,rfl⟩
theorem d1w {x:A} {m m':Mem} {p p':FP} {b:Bool×Bool} (h:(f0y x).ev m p=some (b,m',p')):m=m':=by
 unfold f0y at h;split at h
 ·cases h;rfl
 ·obtain ⟨q,h⟩:=M.g6q h;split at h <;> (cases h;rfl)
 ·cases h;rfl
theorem e7t (h:Heap E β L m env w) {x:A} {m':Mem} {p p':FP} {u:Unit} (hp:(f0x x).ev m p=some (u,m',p')):Heap E β L m' env w∧Prog β env w L m L m':=by
 unfold f0x at hp;split at hp
 ·exact h.lowD hp
 ·cases hp;exact ⟨h,Prog.refl _ _ _ _ _⟩
theorem e2p {S:Nat→Prop} {n:Nm} {cs:List T}:∀ {tys:List Ty} {vs:List Value} {j:Nat},vs.length=tys.length→
  (∀ q ty,tys[q]?=some ty→(∀ e',ty=.row e'→env (n.1,n.2+(j+q)+1)=some (vs[q]?.getD undef)∧∃ a l c,(vs[q]?.getD undef)=.slice a l c)∧(ty.flatB=true→RC E w S ty (cs.getD (j+q) (.i 0)) (vs[q]?.getD undef)))→
  RVs E env w S (d0d n j tys cs) vs
 | [],[],j,_,_=>by unfold d0d;trivial
 | [],_ :: _,_,h,_=>by simp at h
 | _ :: _,[],_,h,_=>by simp at h
 | ty :: tys,v :: vs,j,hl,h=>by
  have hrec:RVs E env w S (d0d n (j+1) tys cs) vs:=e2p (by simpa using hl) fun q ty hq=>by
   have:=h (q+1) ty (by simpa using hq);rw [show j+(q+1)=j+1+q by omega] at this;simpa using this
  have h0:=h 0 ty rfl;simp only [List.getElem?_cons_zero,Option.getD_some,Nat.add_zero] at h0;cases ty with
  | row e=>unfold d0d;exact ⟨h0.1 e rfl,hrec⟩
  | deep e=>unfold d0d;exact ⟨trivial,hrec⟩
  | _=>unfold d0d;exact ⟨(b9y rfl (h0.2 rfl)).1,hrec⟩
theorem f5q (h:Heap E β [] m env w) {n:Nm} {m':Mem} {p p':FP} {u:Unit} (hp:(f9y E n).ev m p=some (u,m',p')):Heap E β [] m' env w∧Still w w (a0b β [] m env w) (a0b β [] m' env w):=by
 unfold f9y at hp;obtain ⟨q,hp⟩:=M.g6q hp;split at hp
 ·rename_i e es i k n' hn;cases hc:(Nat.ble (E.sz e) k&&!(Nat.beq n'.1 999999)) with
  | false=>rw [hc] at hp;cases hp;exact ⟨h,Still.refl _ _⟩
  | true=>
   rw [hc] at hp;obtain ⟨hc1,hc2⟩:=a0a hc;have hk:=Nat.le_of_ble_eq_true hc1;have hne:n'.1≠999999:=fun e=>by rw [e] at hc2;cases hc2
   obtain ⟨ts,m1,p1,h1,hq⟩:=M.bind_some hp;obtain ⟨v,xs,fps,e1,e2,e3,e4,e5⟩:=h.obj n _ hn;obtain ⟨hi,hcells⟩:=e4.2 i k n' rfl hk hne;have hv:RVs E env w (a0b β [] m env w) (d0d n' 0 (E.flat e) (es.getD i [])) (vals (fun j=>xs[i*E.sz e+j]?.getD undef) 0 (E.sz e)):=e2p (a7q _ _ _) fun q ty hq=>by
    have hq':q<E.sz e:=(List.getElem?_eq_some_iff.1 hq).1;have hty:a4e E e q=ty:=by unfold a4e;rw [List.getD_eq_getElem?_getD,hq];rfl
    have hvq:(vals (fun j=>xs[i*E.sz e+j]?.getD undef) 0 (E.sz e))[q]?=some (xs[i*E.sz e+q]?.getD undef):=by
     have hl:=a7q (fun j=>xs[i*E.sz e+j]?.getD undef) 0 (E.sz e);have hj':q<(vals (fun j=>xs[i*E.sz e+j]?.getD undef) 0 (E.sz e)).length:=by rw [hl];exact hq'
     have:=a6s _ _ _ _ _ (List.getElem?_eq_getElem hj');rw [List.getElem?_eq_getElem hj',this.2,Nat.zero_add]
    obtain ⟨c1,c2⟩:=hcells q hq';rw [hvq,Option.getD_some,Nat.zero_add];refine ⟨fun e' he=>c1 e' (hty.trans he),fun hf=>?_⟩
    ·have:=(c2 (by rw [hty];exact hf)).flat0 (by rw [hty];exact hf);have:=this.2 (a0b β [] m env w);rw [hty] at this;exact this
   obtain ⟨g1,g2,g3⟩:=b9s h hv h1;obtain ⟨p2,hq⟩:=M.g6q hq;split at hq
   ·rename_i e2' es2 i2 k2 n2 hn2;obtain ⟨hce1,hq0⟩:=M.g5z hq;obtain ⟨hce2,hq1⟩:=M.g5y hq0;cases Nat.eq_of_beq_eq_true hce1;cases Nat.eq_of_beq_eq_true hce2;obtain ⟨p3,hq2⟩:=M.g6l hq1;cases hq2;obtain ⟨v2,xs2,fps2,b1,b2,b3,_,b5⟩:=g1.obj n _ hn2;rw [e1] at b1;cases b1;rcases e2.2 with ⟨_,h0⟩ | ⟨g,cap,cur,h0,_⟩
    ·omega
    subst h0;have hlen':es2.length=es.length:=by
     rcases b2.2 with ⟨h0,_⟩ | ⟨g',cap',cur',h0,_⟩
     ·cases h0
     ·simp only [Value.slice.injEq] at h0;exact h0.2.1.symm
    rw [hlen'] at b2;have hi2:i<es2.length:=by omega
    have hxx:∀ j,j<E.sz e→(xs2[i*E.sz e+j]?)=some (xs[i*E.sz e+j]?.getD undef):=fun j hj=>by
     rw [← b2.cellAt _ (a1w hi hj),e2.cellAt _ (a1w hi hj)];have hxl:i*E.sz e+j<xs.length:=by rw [e2.1];exact a1w hi hj
     rw [List.getElem?_eq_getElem hxl];rfl
    have hsame:=Names.g6h e1;generalize hO:(O.row e true (es2.set i (a1q (es2.getD i []) 0 ts)))=o';have ho:∀ b,owns m1 env n b↔b∈env.fp n:=fun b=>by simp [owns,hn2]
    have ho':∀ b,owns (m1.put n o') (env.put n (.slice (some ⟨g,0,none⟩) es.length cap)) n b↔g=b:=fun b=>by subst hO;simp [owns,put_self,Names.put_self,Value.ownBlock]
    have hsub:∀ b,owns (m1.put n o') (env.put n (.slice (some ⟨g,0,none⟩) es.length cap)) n b→owns m1 env n b:=fun b hb=>(ho b).2 ((b5.mem b).2 (.inl (by rw [(ho' b).1 hb];rfl)));have htl:ts.length=E.sz e:=g3.len.1;have key:=g1.one (w':=w) (L':=[]) n o' _ (.inr e1) (fun hst=>by
      subst hO;refine ⟨_,xs2,Names.put_self _ _ _,by rw [List.length_set,hlen'];exact b2,fun i' j hi' hj=>?_⟩;rw [List.length_set] at hi';have hx:i'*E.sz e+j<xs2.length:=by rw [b2.1];exact a1w (by omega) hj
      rw [e0w hi2];by_cases hii:i'=i
      ·subst hii;rw [if_pos ⟨rfl,Nat.zero_le _,by omega⟩,hxx j hj];obtain ⟨u,hu,hr⟩:=g3.get j hj;have hvq:(vals (fun j=>xs[i'*E.sz e+j]?.getD undef) 0 (E.sz e))[j]?=some (xs[i'*E.sz e+j]?.getD undef):=by
        have hl:=a7q (fun j=>xs[i'*E.sz e+j]?.getD undef) 0 (E.sz e);have hj':j<(vals (fun j=>xs[i'*E.sz e+j]?.getD undef) 0 (E.sz e)).length:=by rw [hl];exact hj
        have:=a6s _ _ _ _ _ (List.getElem?_eq_getElem hj');rw [List.getElem?_eq_getElem hj',this.2,Nat.zero_add]
       rw [hvq] at hu;cases hu;exact ⟨_,rfl,hr.mono hst⟩
      ·rw [if_neg (fun h=>hii h.1)];have hd:=b3 i' j hi' hj (fun n' hx=>by cases hx;exact hii rfl) (fun k n' hx=>by cases hx;exact (hii rfl).elim);rw [List.getElem?_eq_getElem hx] at hd ⊢;refine ⟨_,rfl,hd.rc fun b hb=>?_⟩;have hbn:=(ho b).2 ((b5.mem b).2 (.inr ⟨_,a1w hi' hj,hb⟩));refine ⟨.inr (g1.inb _ _ hbn).2.1,(g1.inb _ _ hbn).1,fun x hx=>?_,(g1.inb _ _ hbn).2.2⟩;by_cases hxn:x=n
       ·subst hxn;exact b5.d1 _ b (a1w hi' hj) hb (by rw [(ho' b).1 hx];rfl)
       ·rw [d3o hxn] at hx;exact hxn (g1.apart _ _ _ hx hbn))
     (fun b hb=>by simp at hb) (fun b hb=>by simp at hb) List.nodup_nil (fun b hb=>⟨(g1.inb _ _ (hsub b hb)).1,.inl (hsub b hb)⟩) (fun _ _ _ _=>rfl) rfl rfl rfl (Nat.le_refl _)
    rw [hsame] at key;exact ⟨key.1,g2.still.trans key.2.2⟩
   ·cases hq
 ·cases hp;exact ⟨h,Still.refl _ _⟩
theorem e7u (h:Heap E β [] m env w) {x:A} {m':Mem} {p p':FP} {u:Unit} (hp:(f9f E x).ev m p=some (u,m',p')):Heap E β [] m' env w∧Still w w (a0b β [] m env w) (a0b β [] m' env w):=by
 unfold f9f at hp;split at hp
 ·obtain ⟨_,m1,p1,h1,hq⟩:=M.bind_some hp;obtain ⟨g1,g2⟩:=h.lowD h1;obtain ⟨k1,k2⟩:=f5q g1 hq;exact ⟨k1,g2.still.trans k2⟩
 ·cases hp;exact ⟨h,Still.refl _ _⟩
theorem Gives.still {m1:Mem} (h:Still w w (a0b β [] m env w) (a0b β [] m1 env w)) {s:Sem Value} {a:A} {m':Mem} (hg:Gives P E β m1 env w s a m'):Gives P E β m env w s a m':=by
 obtain ⟨v,w',env',h1,h2,h3,h4,h5⟩:=hg;exact ⟨v,w',env',h1,h2,h3,h4,h.trans h5⟩
theorem e4v (hT:a1e P E=true) (h:Heap E β [] m env w) {t ty dst:Nat} {x y:A} {vx vy:Value} (hx:RV E env w (a0b β [] m env w) x vx) (hy:RV E env w (a0b β [] m env w) y vy) {a:A} {m':Mem} {p p':FP}
  (hp:(d3c E dst t x y).ev m p=some (a,m',p')):Gives P E β m env w (Builtin.append_ #[t,t] ty #[vx,vy]) a m':=by
 unfold d3c at hp;split at hp
 case h_2=>cases hp
 rename_i n;obtain ⟨he,hp1⟩:=M.g5z hp;clear hp;generalize E.elem t=e at he hp1;obtain ⟨ax,m1,p1,h1,hq⟩:=M.bind_some hp1;obtain ⟨q0,hq⟩:=M.g6q hq;split at hq
 case h_2=>cases hq
 rename_i e' es2 i0 j0 nm hn2;obtain ⟨hee,hqq⟩:=M.g5z hq;clear hq;obtain ⟨hee1,hj1⟩:=a0a hee;clear hee;cases Nat.eq_of_beq_eq_true hee1;have hj0:j0<E.sz e:=a2p hj1;obtain ⟨q1,hq1⟩:=M.g6l hqq;obtain ⟨hc,hq3⟩:=M.g5y hq1;have hroom:=of_decide_eq_true hc;obtain ⟨_,m3,p3,h3,hq4⟩:=M.bind_some hq3;obtain ⟨hn,rfl⟩:=M.g5x h3;cases hq4;have hx1:RV1 E env w (a0b β [] m env w) x vx:=by cases x <;> first | exact hx | (unfold b9h at h1;cases h1)
 obtain ⟨b1,g1,g2,es1,rfl,d1⟩:=a7p h hx1 h1;rw [List.nil_append] at g1 g2;obtain ⟨hv2,_⟩:=hy;obtain ⟨v,ys,fps2,e1,ho2,hc2,hh2,hm2⟩:=g1.obj n _ hn2;rw [hv2] at e1;cases e1;obtain ⟨hi0,_,hu0,hfp0,hsl0⟩:=hh2.1 i0 j0 nm rfl hj0;have hownN:∀ b,owns m1 env n b↔b∈env.fp n:=fun b=>by simp [owns,hn2]
 have hsame:=Names.g6h hv2;have hnone:∀ b,¬ owns (m1.put n .dead) (env.put n vy) n b:=fun b=>by simp [owns,put_self]
 have hkey:=g1.one (w':=w) (L':=b1++env.fp n) n .dead vy (.inr hv2) (fun _=>⟨vy,Names.put_self _ _ _⟩)
  (fun b hb=>by
   rcases List.mem_append.1 hb with h5 | h5
   ·exact .inl h5
   ·exact .inr ((hownN b).2 h5)) (fun b _=>hnone b)
  (by
   refine List.nodup_append.2 ⟨g1.nodup,hm2.nd,fun x hx y hy hxy=>?_⟩;subst hxy;exact (g1.inb n x ((hownN x).2 hy)).2.2 hx)
  (fun b hb=>(hnone _ hb).elim) (fun _ _ _ _=>rfl) rfl rfl rfl (Nat.le_refl _)
 rw [hsame] at hkey;obtain ⟨k1,_,kst⟩:=hkey;obtain ⟨hn1,hnn,hn3⟩:=List.nodup_append.1 k1.nodup;have hcd:∀ i j,i<es2.length→j<E.sz e→¬ (i=i0∧j=j0)→DC E w (a4e E e j) (tAt es2 i j) (ys[i*E.sz e+j]?.getD undef) (fps2 (i*E.sz e+j)):=fun i j hi hj hne=>
  hc2 i j hi hj (fun n' hx=>by cases hx;exact hne ⟨rfl,rfl⟩) (fun k n' hx=>by cases hx;exact hj0)
 have hone:∀ u,u∈ys→u.oneCell'=true:=by
  intro u hu;obtain ⟨q,hq⟩:=List.getElem?_of_mem hu;have hlt:q<es2.length*E.sz e:=by rw [← ho2.1];exact (List.getElem?_eq_some_iff.1 hq).1
  obtain ⟨a1,a2,a3⟩:=a6t hlt;by_cases hij:q / E.sz e=i0∧q % E.sz e=j0
  ·rw [← hij.1,← hij.2,a3,hq] at hsl0;obtain ⟨_,_,_,h5⟩:=hsl0;rw [Option.getD_some] at h5;rw [h5];rfl
  ·have:=(hcd _ _ a1 a2 hij).one;rw [a3,hq] at this;exact this
 cases d1 with
 | @row _ _ _ xs _ fps1 ho1 hc1 hm1=>
 obtain ⟨v',w',hrun,ho',hg,hb⟩:=b9a (P:=P) (ty:=ty) hT he ho1 ho2 hone hroom;have hxl:xs.length=es1.length*E.sz e:=ho1.1
 let fps:Nat→List Nat:=fun q=>if q<es1.length*E.sz e then fps1 q else fps2 (q - es1.length*E.sz e)
 have hadd:(es1.length+es2.length)*E.sz e=es1.length*E.sz e+es2.length*E.sz e:=Nat.add_mul _ _ _;have hfp:∀ q b,q<(es1.length+es2.length)*E.sz e→b∈fps q→(q<es1.length*E.sz e∧b∈fps1 q∧b∈b1)∨(es1.length*E.sz e≤q∧q - es1.length*E.sz e<es2.length*E.sz e∧b∈fps2 (q - es1.length*E.sz e)∧b∈env.fp n):=fun q b hq hb=>by
  simp only [fps] at hb;split at hb
  ·rename_i hlt;exact .inl ⟨hlt,hb,(hm1.mem b).2 (.inr ⟨q,hlt,hb⟩)⟩
  ·rename_i hlt;exact .inr ⟨by omega,by omega,hb,(hm2.mem b).2 (.inr ⟨_,by omega,hb⟩)⟩
 have hold:∀ b,b∈b1++env.fp n→b<w.heap.size:=fun b hb=>(k1.inL b hb).1;have hnb:∀ q b,q<(es1.length+es2.length)*E.sz e→b∈fps q→vx.ownBlock≠some b:=fun q b hq hb hv=>by
  rcases hfp q b hq hb with ⟨h5,h6,_⟩ | ⟨_,h5,h6,h7⟩
  ·exact hm1.d1 q b h5 h6 hv
  ·exact hn3 b ((hm1.mem b).2 (.inl hv)) b h7 rfl
 obtain ⟨F,hF⟩:=Foot.ex v'.ownBlock ((es1.length+es2.length)*E.sz e) fps (fun q hq=>by
   simp only [fps];split
   ·rename_i hlt;obtain ⟨a1,a2,a3⟩:=a6t hlt;have:=hc1 _ _ a1 a2;rw [a3] at this;exact this.nodup
   ·rename_i hlt;obtain ⟨a1,a2,a3⟩:=a6t (show q - es1.length*E.sz e<es2.length*E.sz e by omega);by_cases hij:(q - es1.length*E.sz e) / E.sz e=i0∧(q - es1.length*E.sz e) % E.sz e=j0
    ·rw [← hij.1,← hij.2,a3] at hfp0;rw [hfp0];exact List.nodup_nil
    ·have:=hcd _ _ a1 a2 hij;rw [a3] at this;exact this.nodup) (fun q b hq hbq hv=>by
   rcases hb with h5 | h5
   ·exact hnb q b hq hbq (by rw [← h5];exact hv)
   ·rw [h5] at hv;cases hv;rcases hfp q _ hq hbq with ⟨_,_,h6⟩ | ⟨_,_,_,h6⟩
    ·have:=hold _ (List.mem_append_left _ h6);omega
    ·have:=hold _ (List.mem_append_right _ h6);omega) (fun q r b hq hr hbq hbr=>by
   rcases hfp q b hq hbq with ⟨a1,a2,a3⟩ | ⟨a0,a1,a2,a3⟩ <;> rcases hfp r b hr hbr with ⟨c1,c2,c3⟩ | ⟨c0,c1,c2,c3⟩
   ·exact hm1.d2 q r b a1 c1 a2 c2
   ·exact (hn3 b a3 b c3 rfl).elim
   ·exact (hn3 b c3 b a3 rfl).elim
   ·have:=hm2.d2 _ _ b a1 c1 a2 c2;omega)
 have hown:∀ b,owns ((m1.put n .dead).put (dst,0) (.deep e (es1++es2) (some (es1.length+i0,j0,nm)))) (env.putD (dst,0) v' F) (dst,0) b↔b∈F:=fun b=>by simp [owns,put_self,Names.g6c]
 have hkeep:∀ b,b<w.heap.size→vx.ownBlock≠some b→w'.heap[b]?=w.heap[b]?:=fun b hb hv=>hg.block b hb (fun e=>hv e.symm);have hidx:∀ q j,(es1.length+q)*E.sz e+j=es1.length*E.sz e+(q*E.sz e+j):=fun q j=>by rw [Nat.add_mul];omega
 have hcell2:∀ q j,q<es2.length→j<E.sz e→(xs++ys)[(es1.length+q)*E.sz e+j]?=ys[q*E.sz e+j]?∧fps ((es1.length+q)*E.sz e+j)=fps2 (q*E.sz e+j):=fun q j hq hj=>by
  refine ⟨by rw [hidx,List.getElem?_append_right (by rw [hxl];omega),hxl,Nat.add_sub_cancel_left],?_⟩;rw [hidx];simp only [fps];rw [if_neg (by omega),Nat.add_sub_cancel_left]
 have hnm:nm≠(dst,0):=fun hx=>by
  rw [hx,k1.dom _ hn] at hu0;cases hu0
 obtain ⟨q1,q2,q3⟩:=k1.oneD (w':=w') (L':=[]) (dst,0) (.deep e (es1++es2) (some (es1.length+i0,j0,nm))) v' F (.inl (k1.dom _ hn)) (fun _=>by
   refine ⟨v',xs++ys,fps,Names.g6a _ _ _ _,by rw [List.length_append];exact ho',fun i j hi hj hnh _=>?_,⟨fun i j n' hx hj=>?_,HoleE.cell hj0⟩,by rw [Names.g6c,List.length_append];exact hF⟩
   ·rw [List.length_append] at hi;by_cases hlt:i<es1.length
    ·have hk2:=a1w (sz:=E.sz e) hlt hj;have hat:tAt (es1++es2) i j=tAt es1 i j:=by simp [tAt,List.getD_eq_getElem?_getD,List.getElem?_append_left hlt]
     rw [hat,List.getElem?_append_left (by rw [hxl];exact hk2)];simp only [fps,if_pos hk2];refine (hc1 i j hlt hj).mono fun b hb=>hkeep b (hold b (List.mem_append_left _ ((hm1.mem b).2 (.inr ⟨_,hk2,hb⟩)))) (hm1.d1 _ b hk2 hb)
    ·obtain ⟨q,rfl⟩:∃ q,i=es1.length+q:=⟨i - es1.length,by omega⟩;have hq:q<es2.length:=by omega
     have hk2:=a1w (sz:=E.sz e) hq hj;have hat:tAt (es1++es2) (es1.length+q) j=tAt es2 q j:=by simp [tAt,List.getD_eq_getElem?_getD,List.getElem?_append_right]
     rw [hat,(hcell2 q j hq hj).1,(hcell2 q j hq hj).2];have hb2:∀ b,b∈fps2 (q*E.sz e+j)→b∈env.fp n:=fun b hb=>(hm2.mem b).2 (.inr ⟨_,hk2,hb⟩);refine (hcd q j hq hj (fun hx=>hnh nm (by rw [hx.1,hx.2]))).mono fun b hb=>hkeep b (hold b (List.mem_append_right _ (hb2 b hb))) (fun hv=>hn3 b ((hm1.mem b).2 (.inl hv)) b (hb2 b hb) rfl)
   ·cases hx;refine ⟨by rw [List.length_append];omega,hj0,?_,?_,?_⟩
    ·rw [(hcell2 i0 j0 hi0 hj0).1,Names.g6b _ _ _ hnm];exact hu0
    ·rw [(hcell2 i0 j0 hi0 hj0).2];exact hfp0
    ·rw [(hcell2 i0 j0 hi0 hj0).1];exact hsl0)
  (fun b hb=>by simp at hb) (fun b hb=>by simp at hb) List.nodup_nil
  (fun b hb'=>by
   rcases (hF.mem b).1 ((hown b).1 hb') with h5 | ⟨q,hq,h5⟩
   ·refine ⟨(ho'.lt b h5).2,?_⟩;rcases hb with h6 | h6
    ·exact .inr (.inr (List.mem_append_left _ ((hm1.mem b).2 (.inl (by rw [← h6];exact h5)))))
    ·rw [h6] at h5;cases h5;exact .inr (.inl (Nat.le_refl _))
   ·have hmem:b∈b1++env.fp n:=by
     rcases hfp q b hq h5 with ⟨_,_,h6⟩ | ⟨_,_,_,h6⟩
     ·exact List.mem_append_left _ h6
     ·exact List.mem_append_right _ h6
    exact ⟨Nat.lt_of_lt_of_le (hold b hmem) hg.size,.inr (.inr hmem)⟩)
  (fun b hb' _ hbL=>hkeep b hb' (fun hv=>hbL (List.mem_append_left _ ((hm1.mem b).2 (.inl hv))))) hg.os hg.tape hg.output hg.size
 refine ⟨v',w',_,hrun,⟨Names.g6a _ _ _ _,?_⟩,q1,q2,g2.still.trans (kst.trans q3)⟩;rcases ho'.2 with ⟨rfl,_⟩ | ⟨g,cap,cur,rfl,_⟩ <;> exact ⟨_,_,_,rfl⟩
theorem e4w (hT:a1e P E=true) (h:Heap E β [] m env w) {t ty dst:Nat} {x y:A} {vx vy:Value} (hx:RV E env w (a0b β [] m env w) x vx) (hy:RV E env w (a0b β [] m env w) y vy) {a:A} {m':Mem} {p p':FP}
  (hp:(e0j E dst t x y).ev m p=some (a,m',p')):Gives P E β m env w (Builtin.append_ #[t,t] ty #[vx,vy]) a m':=by
 unfold e0j at hp;cases hpl:E.plain (E.elem t) with
 | true=>rw [hpl] at hp;exact d1r hT h hx hy hp
 | false=>
  rw [hpl] at hp;obtain ⟨md,m1,p1,h1,hq⟩:=M.bind_some hp;cases M.g6r h1;obtain ⟨dx,m2,p2,h2,hq2⟩:=M.bind_some hq;cases d1w h2;obtain ⟨dy,m3,p3,h3,hq3⟩:=M.bind_some hq2;cases d1w h3;obtain ⟨ly,m9,p9,h9,hq9⟩:=M.bind_some hq3;cases d1u h9;replace hq9:=(show (bif dx.1&&ly then d3c E dst t x y else bif dx.1&&dy.1&&(dx.2 || (md&&dy.2)) then c6h E dst t x y else (f0x x).bind fun _=>(f0x y).bind fun _=>b8t E dst t x y).ev m p9=some (a,m',p') from hq9);cases hl:(dx.1&&ly) with
  | true=>rw [hl] at hq9;exact e4v hT h hx hy hq9
  | false=>
  rw [hl] at hq9;replace hq3:=(show (bif dx.1&&dy.1&&(dx.2 || (md&&dy.2)) then c6h E dst t x y else (f0x x).bind fun _=>(f0x y).bind fun _=>b8t E dst t x y).ev m p9=some (a,m',p') from hq9);clear hq9;cases hb:(dx.1&&dy.1&&(dx.2 || (md&&dy.2))) with
  | true=>rw [hb] at hq3;exact e4u hT h hx hy hq3
  | false=>
   rw [hb] at hq3;obtain ⟨_,m4,p4,h4,hq4⟩:=M.bind_some (show ((f0x x).bind fun _=>(f0x y).bind fun _=>b8t E dst t x y).ev m p9=_ from hq3);obtain ⟨_,m5,p5,h5,hq5⟩:=M.bind_some hq4;obtain ⟨g1,g2⟩:=e7t h h4;obtain ⟨k1,k2⟩:=e7t g1 h5;have hst:=g2.still.trans k2.still;exact (d1r hT k1 (hx.mono (Names.le_refl _) hst) (hy.mono (Names.le_refl _) hst) hq5).still hst
theorem Heap.deepNew (h:Heap E β L m env w) {n:Nm} (hn:m n=none) {e:Nat} {es:List (List T)} {v:Value} {xs:List Value} {fps:Nat→List Nat} (hg:w.grownBy w' none)
  (ho:w'.ownsRow 0 e (E.sz e) v es.length xs) (hc:∀ i j,i<es.length→j<E.sz e→DC E w (a4e E e j) (tAt es i j) (xs[i*E.sz e+j]?.getD undef) (fps (i*E.sz e+j))) (hv:∀ b,v.ownBlock=some b→w.heap.size≤b)
  (hfL:∀ q b,q<es.length*E.sz e→b∈fps q→b∈L) (hfd:∀ q r b,q<es.length*E.sz e→r<es.length*E.sz e→b∈fps q→b∈fps r→q=r) :
  ∃ env',Heap E β [] (m.put n (.deep e es none)) env' w'∧env.le env'∧Still w w' (a0b β L m env w) (a0b β [] (m.put n (.deep e es none)) env' w')∧env' n=some v∧∃ a l c,v=.slice a l c:=by
 obtain ⟨F,hF⟩:=Foot.ex v.ownBlock (es.length*E.sz e) fps (fun q hq=>by
   obtain ⟨a1,a2,a3⟩:=a6t hq;have:=hc _ _ a1 a2;rw [a3] at this;exact this.nodup) (fun q b hq hb hvb=>by
   have h5:=hv b hvb;have h6:=(h.inL b (hfL q b hq hb)).1;omega) hfd
 have hown:∀ b,owns (m.put n (.deep e es none)) (env.putD n v F) n b↔b∈F:=fun b=>by simp [owns,put_self,Names.g6c]
 have hkeep:∀ b,b<w.heap.size→w'.heap[b]?=w.heap[b]?:=fun b hb=>hg.block b hb (by simp);obtain ⟨q1,q2,q3⟩:=h.oneD (w':=w') (L':=[]) n (.deep e es none) v F (.inl (h.dom _ hn)) (fun _=>by
   refine ⟨v,xs,fps,Names.g6a _ _ _ _,ho,fun i j hi hj _ _=>(hc i j hi hj).mono fun b hb=>hkeep b (h.inL b (hfL _ b (a1w hi hj) hb)).1,⟨fun _ _ _ h=>(by cases h),HoleE.none⟩,by rw [Names.g6c];exact hF⟩)
  (fun b hb=>by simp at hb) (fun b hb=>by simp at hb) List.nodup_nil
  (fun b hb=>by
   rcases (hF.mem b).1 ((hown b).1 hb) with h5 | ⟨q,hq,h5⟩
   ·exact ⟨(ho.lt b h5).2,.inr (.inl (hv b h5))⟩
   ·exact ⟨Nat.lt_of_lt_of_le (h.inL b (hfL q b hq h5)).1 hg.size,.inr (.inr (hfL q b hq h5))⟩)
  (fun b hb _ _=>hkeep b hb) hg.os hg.tape hg.output hg.size
 refine ⟨_,q1,q2,q3,Names.g6a _ _ _ _,?_⟩;rcases ho.2 with ⟨rfl,_⟩ | ⟨g,cap,cur,rfl,_⟩ <;> exact ⟨_,_,_,rfl⟩
theorem f5r {ty:Ty} (h:ty.notPtr=true):DC E w ty (e4i ty) (b8w ty) []:=by
 cases ty with
 | int=>exact .int
 | bool=>exact .bool
 | str=>exact .str
 | row e=>exact .row (xs:=[]) (fun _=>[]) (World.ownsRow_nil w 0 _ _) (fun i j hi=>by simp at hi) ⟨fun b=>by simp [Value.ownBlock,b8w],List.nodup_nil,fun p b _ h=>by simp at h,fun p q b _ _ h=>by simp at h⟩
 | ptr=>cases h
 | deep=>cases h
theorem f1z (hT:a1e P E=true) (h:Heap E β [] m env w) {t dst:Nat} {x y:A} {vx vy:Value} (hx:RV E env w (a0b β [] m env w) x vx) (hy:RV E env w (a0b β [] m env w) y vy) {a:A} {m':Mem} {p p':FP}
  (hp:(f5b E dst t x y).ev m p=some (a,m',p')):Gives P E β m env w (Instr.makeSlice t vx vy) a m':=by
 unfold f5b at hp;cases hpl:E.plain (E.elem t) with
 | true=>rw [hpl] at hp;exact e2k hT h hx hy hp
 | false=>
  rw [hpl] at hp;obtain ⟨md,m1,p1,h1,hq⟩:=M.bind_some hp;cases M.g6r h1;cases md with
  | false=>exact e2k hT h hx hy hq
  | true=>
   have hq:=(show (f5a E dst t x y).ev m p1=some (a,m',p') from hq);clear hp hpl;unfold f5a at hq;split at hq
   ·rename_i n c _;obtain ⟨he,hp1⟩:=M.g5z hq;clear hq;generalize E.elem t=e at he hp1;obtain ⟨hc,hq⟩:=M.g5y hp1;obtain ⟨_,m1,p1,h1,hq1⟩:=M.bind_some hq;obtain ⟨hn,rfl⟩:=M.g5x h1;cases hq1;obtain ⟨hc1,hc2⟩:=a0a hc;obtain ⟨hc3,hc4⟩:=a0a hc1;have hnc:n=c:=of_decide_eq_true hc3;subst hnc;have hc4:=of_decide_eq_true hc4;have hc2:=of_decide_eq_true hc2;obtain ⟨k,rfl⟩:∃ k:Nat,n=(k:Int):=⟨n.toNat,(Int.toNat_of_nonneg hc4).symm⟩;have hx:vx=.int .i64 (k:Int):=hx;have hy:vy=.int .i64 (k:Int):=hy;subst hx;subst hy;obtain ⟨hu,hk,hby,hnp,_⟩:=a4x hT he;obtain ⟨i,z,hi,hsz,hbytes,hz,hzc,_⟩:=a4w hT hk;have hpos:=a2n hk;have hc2':k*(E.ti e).bytes≤140737488355328:=by
     have h9:((k*(E.ti e).bytes:Nat):Int)≤140737488355328:=by rw [Int.natCast_mul];exact hc2
     omega
    have hmul:k≤k*(E.ti e).bytes:=Nat.le_mul_of_pos_right _ (by omega);have hcomm:i.bytes*k=k*(E.ti e).bytes:=by rw [hbytes,Nat.mul_comm]
    obtain ⟨w',hrun,ho,hg⟩:=run_make_full (P:=P) w 0 t e i z (E.sz e) hu hi hz hsz .i64 .i64 k (by omega) (by simp only [maxLen];omega) (Nat.zero_le _);have hzl:z.cells.size=E.sz e:=by have:=congrArg List.length hzc;simpa [Env.sz] using this
    have hlen:(List.replicate (k:Int).toNat (b0c E e)).length=k:=by simp
    obtain ⟨env',k1,k2,k3,k4,k5⟩:=h.deepNew (es:=List.replicate (k:Int).toNat (b0c E e)) (fps:=fun _=>[]) hn hg (by rw [hlen];exact ho) (fun i' j hi' hj=>by
     rw [hlen] at hi';have hlt:i'*E.sz e+j<k*E.sz e:=a1w hi' hj;have hj':j<(E.flat e).length:=hj;have hcell:z.cells[j]?=some (b8w (a4e E e j)):=by
      rw [← Array.getElem?_toList,hzc,List.getElem?_map,List.getElem?_eq_getElem hj'];simp [a4e,List.getD_eq_getElem?_getD,List.getElem?_eq_getElem hj']
     have hjz:j<z.cells.size:=by rw [hzl];exact hj
     have hval:(madeCells z.cells (k*E.sz e)).toList[i'*E.sz e+j]?=some (b8w (a4e E e j)):=by
      simp only [madeCells,Array.getElem?_toList,Array.getElem?_map,Array.getElem?_range,hlt,if_true,Option.map_some];rw [hzl,(b4l hj).2];rw [Array.getElem?_eq_getElem hjz] at hcell;have hcell:=Option.some.inj hcell;simp [hjz,hcell]
     have hat:tAt (List.replicate (k:Int).toNat (b0c E e)) i' j=e4i (a4e E e j):=by
      simp [tAt,b0c,a4e,List.getD_eq_getElem?_getD,hi',List.getElem?_eq_getElem hj']
     rw [hat,hval];refine f5r ?_;simp only [a4e,List.getD_eq_getElem?_getD,List.getElem?_eq_getElem hj',Option.getD_some];exact List.all_eq_true.1 hnp _ (List.getElem_mem hj')) (fun b hb=>by
     simp [Value.ownBlock] at hb;subst hb;exact Nat.le_refl _) (fun q b _ hb=>by simp at hb) (fun q r b _ _ hb=>by simp at hb)
    exact ⟨_,w',_,hrun,⟨k4,k5⟩,k1,k2,k3⟩
   ·cases hq
end
section
variable {P:Program} {E:Env} {β:Base} {L:List Nat} {m:Mem} {env:Names} {w w':World} {S:Nat→Prop}
theorem e7v {σ:St} {a:Act} {e N:Nat}:∀ {ps:List (Nat×Operand)} {j:Nat} {L:List Nat} {m m':Mem} {p p':FP} {es:List (List T)} {cells:Array Value},Heap E β L m env w→(∀ i,RV E env w (a0b β L m env w) (σ.sl i) (a.eval (.tmp i)))→
  (f3s E σ e j ps).ev m p=some (es,m',p')→cells.size=N*E.sz e→j+ps.length≤N→
  ∃ (cells':Array Value) (bs:List Nat) (fps:Nat→List Nat),Instr.fill (fun i=>some (i*E.sz e,E.sz e)) cells (ps.map fun q=>(q.1,a.eval q.2))=some cells'∧cells'.size=N*E.sz e∧es.length=ps.length∧Heap E β (L++bs) m' env w∧Prog β env w L m (L++bs) m'∧
   (∀ x,x<j*E.sz e→cells'[x]?=cells[x]?)∧(∀ i k,i<es.length→k<E.sz e→DC E w (a4e E e k) (tAt es i k) (cells'[(j+i)*E.sz e+k]?.getD undef) (fps (i*E.sz e+k)))∧
   (∀ q b,b∈fps q→b∈bs)∧∀ q r b,q<es.length*E.sz e→r<es.length*E.sz e→b∈fps q→b∈fps r→q=r
 | [],j,L,m,m',p,p',es,cells,h,hs,hp,hc,hN=>by
  unfold f3s at hp;cases hp;exact ⟨cells,[],fun _=>[],rfl,hc,rfl,by simpa using h,by simpa using Prog.refl β env w L m,fun _ _=>rfl,fun i k hi=>by simp at hi,fun q b hb=>by simp at hb,fun q r b hq=>by simp at hq⟩
 | (i0,x) :: r,j,L,m,m',p,p',es,cells,h,hs,hp,hc,hN=>by
  unfold f3s at hp;obtain ⟨hk,hp1⟩:=M.g5z hp;obtain ⟨hk0,hlen⟩:=a0a hk;obtain ⟨hk1,hsol⟩:=a0a hk0;cases Nat.eq_of_beq_eq_true hk1;obtain ⟨c,m1,p1,h1,hq⟩:=M.bind_some hp1;obtain ⟨cs,m2,p2,h2,hq2⟩:=M.bind_some hq;cases hq2;have hxc:=b2f hsol (b2y (E:=E) hs e x);obtain ⟨b1,nfp,g1,g2,l1,l2,d1,d2,d3⟩:=d7m h hxc h1;have hfl:(E.flat e).length=E.sz e:=rfl;rw [hfl] at l1 l2;have hvl:(a.eval x).cells.size=E.sz e:=by simpa using l2
  have hj1:(i0+1)*E.sz e≤N*E.sz e:=Nat.mul_le_mul_right _ (by simp at hN;omega);rw [Nat.add_mul] at hj1;obtain ⟨cells1,f1,f2,f3⟩:=b9w (place:=fun i=>some (i*E.sz e,E.sz e)) (i:=i0) (off:=i0*E.sz e) (v:=a.eval x) (cells:=cells) (rest:=r.map fun q=>(q.1,a.eval q.2)) (by simp only [hvl]) (by rw [hvl];omega);obtain ⟨cells',b2,fps,k1,k2,k3,k4,k5,k6,k7,k8,k9⟩:=e7v (cells:=cells1) g1 (fun i=>(hs i).mono (Names.le_refl _) g2.still) h2 (f2.trans hc) (by simp at hN;omega);rw [List.append_assoc] at k4 k5;have hget:∀ y,cells1[y]?=if i0*E.sz e≤y∧y<i0*E.sz e+E.sz e then (a.eval x).cells.toList[y - i0*E.sz e]? else cells[y]?:=fun y=>by
   rw [← Array.getElem?_toList,f3,b8y _ _ _ _ (by simp [hvl];omega)];simp [hvl]
  have hdis:∀ b,b∈b1→b∈b2→False:=fun b hb hb'=>by
   have:=(List.nodup_append.1 (List.nodup_append.1 k4.nodup).2.1).2.2;exact this b hb b hb' rfl
  have hsucc:∀ n:Nat,(n+1)*E.sz e=n*E.sz e+E.sz e:=fun n=>by rw [Nat.add_mul,Nat.one_mul]
  refine ⟨cells',b1++b2,fun q=>if q<E.sz e then nfp q else fps (q - E.sz e),by rw [List.map_cons,f1];exact k1,k2,by simp [k3],k4,g2.trans k5,fun y hy=>?_,fun i k hi hk=>?_,fun q b hb=>?_,fun q r' b hq hr hb hb'=>?_⟩
  ·rw [k6 y (by rw [Nat.add_mul];omega),hget,if_neg (by omega)]
  ·cases i with
   | zero=>
    have hr:=d1 k hk;simp only [Nat.zero_mul,Nat.zero_add,if_pos hk,Nat.add_zero];rw [k6 _ (by rw [Nat.add_mul];omega),hget,if_pos (by omega),Nat.add_sub_cancel_left];exact hr
   | succ i=>
    have hr:=k7 i k (by simpa using hi) hk;simp only [];rw [if_neg (by rw [hsucc];omega),show (i+1)*E.sz e+k - E.sz e=i*E.sz e+k by rw [hsucc];omega,show i0+(i+1)=i0+1+i by omega];simpa [tAt] using hr
  ·simp only [] at hb;split at hb
   ·exact List.mem_append_left _ (d2 q b hb)
   ·exact List.mem_append_right _ (k8 _ b hb)
  ·simp only [List.length_cons,hsucc] at hq hr;simp only [] at hb hb';split at hb <;> split at hb'
   ·exact d3 q r' b hb hb'
   ·exact (hdis b (d2 q b hb) (k8 _ b hb')).elim
   ·exact (hdis b (d2 r' b hb') (k8 _ b hb)).elim
   ·have:=k9 _ _ b (by omega) (by omega) hb hb';omega
theorem e7w (hT:a1e P E=true) {σ:St} {a:Act} (h:Heap E β [] m env w) (hs:∀ i,RV E env w (a0b β [] m env w) (σ.sl i) (a.eval (.tmp i))) {t n dst:Nat} {ps:Array (Nat×Operand)} {r:A} {m':Mem} {p p':FP}
  (hp:(d7e E σ dst t n ps).ev m p=some (r,m',p')) :
  Gives P E β m env w (Instr.buildSlice t n (ps.map fun (i,x)=>(i,a.eval x))) r m':=by
 unfold d7e at hp;obtain ⟨hc,hp1⟩:=M.g5z hp;clear hp;generalize E.elem t=e at hc hp1;obtain ⟨hc1,hle⟩:=a0a hc;obtain ⟨he,hn⟩:=a0a hc1;have hle:=a2p hle;have hn:=Nat.eq_of_beq_eq_true hn;obtain ⟨es,m1,p1,h1,hq⟩:=M.bind_some hp1;obtain ⟨_,m2,p2,h2,hq2⟩:=M.bind_some hq;obtain ⟨hnew,rfl⟩:=M.g5x h2;cases hq2;obtain ⟨hu,hk,hby,hnp,_⟩:=a4x hT he;obtain ⟨i,z,hi,hsz,hbytes,hz,hzc,_⟩:=a4w hT hk;have hpos:=a2n hk;obtain ⟨cells',bs,fps,k1,k2,k3,k4,k5,k6,k7,k8,k9⟩:=e7v (N:=n) (cells:=(Array.range (n*E.sz e)).map ((if n*E.sz e=0 then #[] else z.cells)[· % (if n*E.sz e=0 then #[] else z.cells).size]!)) h hs h1 (by simp) (by omega);rw [List.nil_append] at k4 k5;have hnm:n≤maxLen:=by
  have:=Nat.le_mul_of_pos_right n (show 0<E.sz e by omega);simp only [maxLen];omega
 have hlen:es.length=n:=by rw [k3,hn]
 obtain ⟨env',g1,g2,g3,g4,g5⟩:=k4.deepNew (es:=es) (fps:=fps) (w':=w.alloc (.cells cells' e)) (v:=.slice (some ⟨w.heap.size,0,none⟩) es.length es.length) (xs:=cells'.toList) hnew
  ⟨rfl,rfl,rfl,by simp,fun b hb _=>heap_alloc_old w _ b hb⟩ (World.ownsRow_lit w cells' es.length (Nat.zero_le _) (by rw [hlen];exact hnm) (by rw [k2,hlen])) (fun i j hi hj=>by
   rw [Array.getElem?_toList];simpa using k7 i j hi hj) (fun b hb=>by simp [Value.ownBlock] at hb;subst hb;exact Nat.le_refl _) (fun q b _ hb=>k8 q b hb) k9
 refine ⟨_,_,_,?_,⟨g4,g5⟩,g1,g2,k5.still.trans g3⟩;have hzero:(zeroValue e).run P w=.ok z w:=by simp [zeroValue,typeInfo,hi,hz]
 have hfill:Instr.fill (fun i=>some (i*E.sz e,E.sz e)) ((Array.range (n*E.sz e)).map ((if n*E.sz e=0 then #[] else z.cells)[· % (if n*E.sz e=0 then #[] else z.cells).size]!)) (ps.map fun (i,x)=>(i,a.eval x)).toList=some cells':=by
  rw [Array.toList_map];exact k1
 rw [hlen];unfold Instr.buildSlice;by_cases h0:n*E.sz e=0
 ·simp [h0] at hfill;simp [run_underlying hu,b6a hT hk,h0,hfill,Go.newRow,newObj];rfl
 ·simp [h0] at hfill;simp [run_underlying hu,b6a hT hk,h0,hfill,hzero,Nat.not_lt.2 hle,Go.newRow,newObj];rfl
theorem b9z {σ:St} {e:Nat}:∀ {ps:List (Nat×Operand)} {m m':Mem} {p p':FP} {b:Bool},(a9b E σ e ps).ev m p=some (b,m',p')→m=m'
 | [],_,_,_,_,_,h=>by cases h;rfl
 | (_,x) :: r,m,m',p,p',b,h=>by
  unfold a9b at h;obtain ⟨c,m1,p1,h1,hq⟩:=M.bind_some h;cases b2g h1;cases c with
  | true=>exact b9z (show (a9b E σ e r).ev m p1=_ from hq)
  | false=>cases hq;rfl
end
end Go.Proofs.Ytdbopobkdpmpgaa.Ev
