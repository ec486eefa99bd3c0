/- Operations that make and write. No condition. -/
import Derived.Test.YtdbopobkdpmpgaamEvH
namespace Go.Proofs.Ytdbopobkdpmpgaa.Ev
open Go
set_option linter.unusedVariables false
section
variable {P:Program} {E:Env} {β:Base} {L:List Nat} {m:Mem} {env:Names} {w w':World} {S:Nat→Prop}
theorem e7j {a:A} {v:Value} (hs:a.solid=true) (h:RV1 E env w S a v):v.oneCell'=true∧v.cells=#[v]:=by
 cases a with
 | i k n=>have h:v=_:=h;subst h;exact ⟨rfl,rfl⟩
 | b x=>have h:v=_:=h;subst h;exact ⟨rfl,rfl⟩
 | s x=>have h:v=_:=h;subst h;exact ⟨rfl,rfl⟩
 | sl e es=>have h:RC E w S (.row e) (.r es) v:=h;cases h <;> exact ⟨rfl,rfl⟩
 | nil e=>have h:v=_:=h;subst h;exact ⟨rfl,rfl⟩
 | ref n=>obtain ⟨_,a,l,c,rfl⟩:=h;exact ⟨rfl,rfl⟩
 | cut n e f l=>obtain ⟨ga,len,cap,_,_,h⟩:=h;rcases h with ⟨_,rfl,_⟩ | ⟨g,o,c',rfl,_⟩ <;> exact ⟨rfl,rfl⟩
 | ptr n o=>obtain ⟨b,_,rfl⟩:=h;exact ⟨rfl,rfl⟩
 | ep n e i o=>obtain ⟨g,len,cap,_,_,rfl⟩:=h;exact ⟨rfl,rfl⟩
 | vp tys cs q=>obtain ⟨g,o,rfl,_⟩:=h;exact ⟨rfl,rfl⟩
 | nilp=>have h:v=_:=h;subst h;exact ⟨rfl,rfl⟩
 | agg cs=>cases hs
 | tup cs=>cases hs
 | skip=>cases hs
 | undef=>cases hs
 | clo f o=>cases hs
theorem d3y:∀ {as:List A} {vs:List Value},a0o as=true→RVs E env w S as vs→∀ u,u∈vs→u.oneCell'=true
 | [],[],_,_,u,hu=>by simp at hu
 | a :: as,v :: vs,hs,h,u,hu=>by
  simp only [a0o,Bool.and_eq_true] at hs;rcases List.mem_cons.1 hu with rfl | hu
  ·exact (e7j hs.1 h.1).1
  ·exact d3y hs.2 h.2 u hu
 | [],_ :: _,_,h,_,_=>h.elim
 | _ :: _,[],_,h,_,_=>h.elim
theorem b2f {a:A} {v:Value} (hs:a0o a.cells=true) (h:RV E env w S a v):RVs E env w S a.cells v.cells.toList:=by
 cases a with
 | agg cs=>obtain ⟨arr,rfl,_,hr⟩:=h;exact hr
 | tup cs=>simp [A.cells,a0o,A.solid] at hs
 | _=>
  rw [c6n rfl] at h;simp only [A.cells,a0o,Bool.and_true] at hs;have:=(e7j hs h).2;rw [this];exact ⟨h,trivial⟩
theorem f1m (ty:Ty):RV1 E env w S (d6z ty) (b8w ty)∧(d6z ty).solid=true:=by cases ty <;> exact ⟨rfl,rfl⟩
theorem c6u:∀ (tys:List Ty),RVs E env w S (tys.map d6z) (tys.map b8w)∧a0o (tys.map d6z)=true
 | []=>⟨trivial,rfl⟩
 | ty :: tys=>by
  have h1:=f1m (E:=E) (env:=env) (w:=w) (S:=S) ty;have h2:=c6u tys;exact ⟨⟨h1.1,h2.1⟩,by simp only [List.map_cons,a0o,h1.2,h2.2,Bool.and_self]⟩
theorem Heap.newVar (h:Heap E β [] m env w) {n:Nm} (hn:m n=none) {cs:List A} {arr:Array Value} (el:TypeId) (hsol:a0o cs=true) (hv:RVs E env w (a0b β [] m env w) cs arr.toList) :
  Heap E β [] (m.put n (.var cs)) (env.put n (.pointer (some ⟨w.heap.size,0,none⟩))) (w.alloc (.cells arr el))∧env.le (env.put n (.pointer (some ⟨w.heap.size,0,none⟩)))∧
   Still w (w.alloc (.cells arr el)) (a0b β [] m env w) (a0b β [] (m.put n (.var cs)) (env.put n (.pointer (some ⟨w.heap.size,0,none⟩))) (w.alloc (.cells arr el))):=by
 have hown:∀ c,owns (m.put n (.var cs)) (env.put n (.pointer (some ⟨w.heap.size,0,none⟩))) n c↔w.heap.size=c:=fun c=>by simp [owns,put_self,Names.put_self]
 have hle:env.le (env.put n (.pointer (some ⟨w.heap.size,0,none⟩))):=Names.g6g (.inl (h.dom n hn));refine h.one (w':=w.alloc (.cells arr el)) n _ _ (.inl (h.dom n hn)) (fun hst=>⟨w.heap.size,arr,el,Names.put_self _ _ _,heap_alloc_new w _,hsol,hv.mono hle hst⟩)
  (fun b hb=>by simp at hb) (fun b hb=>by simp at hb) List.nodup_nil (fun b hb=>?_) (fun b hb _ _=>heap_alloc_old w _ b hb) rfl rfl rfl (by simp)
 rw [hown] at hb;cases hb;exact ⟨by simp,.inr (.inl (Nat.le_refl _))⟩
theorem Heap.newRow (h:Heap E β [] m env w) {n:Nm} (hn:m n=none) {e:Nat} {es:List (List T)} {arr:Array Value} (hm:es.length≤maxLen) (hs:arr.size=es.length*E.sz e)
  (hr:a9c E w (a0b β [] m env w) e es arr.toList) :
  Heap E β [] (m.put n (.row e true es)) (env.put n (.slice (some ⟨w.heap.size,0,none⟩) es.length es.length)) (w.alloc (.cells arr e))∧env.le (env.put n (.slice (some ⟨w.heap.size,0,none⟩) es.length es.length))∧
   Still w (w.alloc (.cells arr e)) (a0b β [] m env w) (a0b β [] (m.put n (.row e true es)) (env.put n (.slice (some ⟨w.heap.size,0,none⟩) es.length es.length)) (w.alloc (.cells arr e))):=by
 have hown:∀ c,owns (m.put n (.row e true es)) (env.put n (.slice (some ⟨w.heap.size,0,none⟩) es.length es.length)) n c↔w.heap.size=c:=fun c=>by simp [owns,put_self,Names.put_self,Value.ownBlock]
 refine h.one (w':=w.alloc (.cells arr e)) n _ _ (.inl (h.dom n hn)) (fun hst=>⟨_,arr.toList,Names.put_self _ _ _,World.ownsRow_lit w arr es.length (Nat.zero_le _) hm hs,fun i j hi hj=>?_⟩)
  (fun b hb=>by simp at hb) (fun b hb=>by simp at hb) List.nodup_nil (fun b hb=>?_) (fun b hb _ _=>heap_alloc_old w _ b hb) rfl rfl rfl (by simp)
 ·obtain ⟨u,hu,hc⟩:=hr i j hi hj;exact ⟨u,hu,hc.mono hst⟩
 ·rw [hown] at hb;cases hb;exact ⟨by simp,.inr (.inl (Nat.le_refl _))⟩
def Gives (P:Program) (E:Env) (β:Base) (m:Mem) (env:Names) (w:World) (s:Sem Value) (a:A) (m':Mem):Prop:=
 ∃ v w' env',s.run P w=.ok v w'∧RV E env' w' (a0b β [] m' env' w') a v∧Heap E β [] m' env' w'∧env.le env'∧Still w w' (a0b β [] m env w) (a0b β [] m' env' w')
theorem Gives.g6p (h:Heap E β [] m env w) {s:Sem Value} {a:A} {v:Value} (hs:s.run P w=.ok v w) (hv:RV E env w (a0b β [] m env w) a v):Gives P E β m env w s a m:=
 ⟨v,w,env,hs,hv,h,Names.le_refl _,Still.refl _ _⟩
theorem b7w {a:A} {v:Value} (h:RV2 E env w S a v):RV E env w S a v:=by
 cases a with
 | tup cs=>exact h.elim
 | _=>rw [d1k rfl];exact h
theorem e7k (hT:a1e P E=true) (h:Heap E β [] m env w) {t dst:Nat} {a:A} {m':Mem} {p p':FP}
  (hp:((bif E.known t then (M.new (dst,0) (.var ((E.flat t).map d6z))).bind fun _=>.ret (.ptr (dst,0) 0) else .fail:M A)).ev m p=some (a,m',p')) :
  Gives P E β m env w (Instr.alloc t true (.tuple #[])) a m':=by
 obtain ⟨hk,hq⟩:=M.g5z hp;obtain ⟨_,m1,p1,h1,hq1⟩:=M.bind_some hq;obtain ⟨hn,rfl⟩:=M.g5x h1;cases hq1;obtain ⟨i,z,hi,_,_,hz,hzc,_⟩:=a4w hT hk;have hzr:=c6u (E:=E) (env:=env) (w:=w) (S:=a0b β [] m env w) (E.flat t);rw [← hzc] at hzr;obtain ⟨g1,g2,g3⟩:=h.newVar hn t hzr.2 hzr.1;refine ⟨.pointer (some ⟨w.heap.size,0,none⟩),w.alloc (.cells z.cells t),_,?_,⟨_,Names.put_self _ _ _,rfl⟩,g1,g2,g3⟩;simp [Instr.alloc,zeroValue,typeInfo,hi,hz,Go.newVar,Go.newRow,newObj];rfl
theorem f5n (hT:a1e P E=true) (h:Heap E β [] m env w) {t dst:Nat} {x:A} {vx:Value} (hx:RV E env w (a0b β [] m env w) x vx) {a:A} {m':Mem} {p p':FP}
  (hp:((bif Nat.beq x.cells.length (E.sz t)&&a0o x.cells then (M.new (dst,0) (.var x.cells)).bind fun _=>.ret (.ptr (dst,0) 0) else .fail:M A)).ev m p=some (a,m',p')) :
  Gives P E β m env w (Instr.box t vx) a m':=by
 obtain ⟨hk,hq⟩:=M.g5z hp;obtain ⟨_,hsol⟩:=a0a hk;obtain ⟨_,m1,p1,h1,hq1⟩:=M.bind_some hq;obtain ⟨hn,rfl⟩:=M.g5x h1;cases hq1;obtain ⟨g1,g2,g3⟩:=h.newVar hn t hsol (b2f hsol hx);refine ⟨.pointer (some ⟨w.heap.size,0,none⟩),w.alloc (.cells vx.cells t),_,?_,⟨_,Names.put_self _ _ _,rfl⟩,g1,g2,g3⟩;simp [Instr.box,Go.newVar,Go.newRow,newObj];rfl
theorem b9u {α:Type}:∀ (cs:List α) (o:Nat) (vs:List α),o+vs.length≤cs.length→b5w cs o vs=cs.take o++vs++cs.drop (o+vs.length)
 | cs,0,vs,_=>by simp [b5w]
 | c :: cs,o+1,vs,h=>by
  have:=b9u cs o vs (by simp at h;omega);rw [b5w,this,Nat.add_right_comm];simp
 | [],o+1,vs,h=>by simp at h
theorem b4k:∀ (cs:List T) (o:Nat) (vs:List T) (j:Nat),(a1q cs o vs).getD j (.i 0)=if o≤j∧j<o+vs.length then vs.getD (j - o) (.i 0) else cs.getD j (.i 0)
 | cs,0,vs,j=>by
  simp only [a1q,Nat.zero_le,true_and,Nat.zero_add,Nat.sub_zero,List.getD_eq_getElem?_getD,List.getElem?_append,List.getElem?_drop];split
  ·rfl
  ·rename_i h;rw [show vs.length+(j - vs.length)=j by omega]
 | c :: cs,o+1,vs,0=>by simp [a1q]
 | c :: cs,o+1,vs,j+1=>by
  have:=b4k cs o vs j;simp only [a1q,List.getD_cons_succ,this];by_cases h:o≤j∧j<o+vs.length
  ·rw [if_pos h,if_pos (by omega)];congr 1;omega
  ·rw [if_neg h,if_neg (by omega)]
 | [],o+1,vs,0=>by simp [a1q]
 | [],o+1,vs,j+1=>by
  have:=b4k [] o vs j;simp only [a1q,List.getD_cons_succ,this];by_cases h:o≤j∧j<o+vs.length
  ·rw [if_pos h,if_pos (by omega)];congr 1;omega
  ·rw [if_neg h,if_neg (by omega)];simp
theorem b8x (hT:a1e P E=true) {t:Nat} (hk:E.known t=true) {v:Value} (hv:v.cells.size=E.sz t) (h1:∀ u,u∈v.cells.toList→u.oneCell'=true) {g o:Nat} {cur:Array Value} {el:TypeId}
  (hg:w.heap[g]?=some (.cells cur el (0,0))) (hfit:o+E.sz t≤cur.size) :
  (Instr.storeAt t (.pointer (some ⟨g,o,none⟩)) v).run P w=.ok () (w.setRow g (cur.toList.take o++v.cells.toList++cur.toList.drop (o+E.sz t)).toArray):=by
 have hst:=run_storeCells_at P g o el v.cells.toList 0 cur w hg (by simp [hv];omega) h1;simp only [Nat.add_zero,Array.length_toList,hv] at hst;simp [Instr.storeAt,Instr.sureAddr,storeVar,b6a hT hk,hv,hst]
theorem b8y (cur vs:List Value) (a k:Nat) (h:a+vs.length≤cur.length):(cur.take a++vs++cur.drop (a+vs.length))[k]?=if a≤k∧k<a+vs.length then vs[k - a]? else cur[k]?:=by
 have hla:(cur.take a).length=a:=by simp;omega
 rw [List.append_assoc];by_cases h1:k<a
 ·rw [List.getElem?_append_left (by omega),if_neg (by omega),List.getElem?_take,if_pos h1]
 ·rw [List.getElem?_append_right (by omega),hla];by_cases h2:k<a+vs.length
  ·rw [List.getElem?_append_left (by omega),if_pos (by omega)]
  ·rw [List.getElem?_append_right (by omega),if_neg (by omega),List.getElem?_drop];congr 1;omega
theorem b9v (hT:a1e P E=true) (h:Heap E β [] m env w) {t:Nat} {x y:A} {vx vy:Value} (hx:RV E env w (a0b β [] m env w) x vx) (hy:RV E env w (a0b β [] m env w) y vy) {a:A} {m':Mem} {p p':FP}
  (hp:(c3i E t y x).ev m p=some (a,m',p')) :
  a=.skip∧∃ w' env',(Instr.storeAt t vx vy).run P w=.ok () w'∧Heap E β [] m' env' w'∧env.le env'∧Still w w' (a0b β [] m env w) (a0b β [] m' env' w'):=by
 unfold c3i at hp;split at hp
 ·rename_i n o;obtain ⟨cs,m1,p1,h1,hq⟩:=M.bind_some hp;obtain ⟨hn,rfl⟩:=M.g5w h1;obtain ⟨hc,hq1⟩:=M.g5z hq;obtain ⟨hc1,hsol⟩:=a0a hc;obtain ⟨hc2,hlen⟩:=a0a hc1;obtain ⟨hk,hle⟩:=a0a hc2;have hle:=a2p hle;have hlen:=Nat.eq_of_beq_eq_true hlen;obtain ⟨p2,hq2⟩:=M.g6l hq1;cases hq2;obtain ⟨b,cv,el,hb,hheap,hcsol,hrv⟩:=h.obj n _ hn;obtain ⟨b',e1,rfl⟩:=hx;rw [hb] at e1;cases e1;have hl:=hrv.length;have hyc:=b2f hsol hy;have hyl:=hyc.length;have hsize:vy.cells.size=E.sz t:=by rw [← hlen,hyl];simp
  have hrun:=b8x hT hk hsize (d3y hsol hyc) (o:=o) hheap (by simp at hl;omega);refine ⟨rfl,_,env,hrun,?_⟩;have hsame:=Names.g6h hb;have hown:owns m env n b:=by simp [owns,hn,hb]
  have key:=h.one (w':=w.setRow b (cv.toList.take o++vy.cells.toList++cv.toList.drop (o+E.sz t)).toArray) (L':=[]) n (.var (b5w cs o y.cells)) _ (.inr hb) (fun hst=>by
    refine ⟨b,_,el,Names.put_self _ _ _,setRow_heap w b cv _ el _ hheap,?_,?_⟩
    ·rw [b9u _ _ _ (by omega)];exact b3q (b3q (a2y o hcsol).1 hsol) (a2y _ hcsol).2
    ·have h5:=(((hrv.take o).app hyc).app (hrv.drop (o+E.sz t))).mono (Names.g6g (.inr hb)) hst;have h6:b5w cs o y.cells=cs.take o++y.cells++cs.drop (o+E.sz t):=by rw [b9u _ _ _ (by omega),hlen]
     rw [← h6] at h5;exact h5)
   (fun c hc=>by simp at hc) (fun c hc=>by simp at hc) List.nodup_nil
   (fun c hc=>by
    have:b=c:=by simpa [owns,put_self,Names.put_self] using hc
    subst this;exact ⟨by simpa using (h.inb _ _ hown).1,.inl hown⟩)
   (fun c _ hc _=>setRow_other w b c _ (fun e=>hc (by rw [e];exact hown))) rfl rfl rfl (by simp)
  rw [hsame] at key;exact ⟨key.1,key.2.1,key.2.2⟩
 ·rename_i n e i o;obtain ⟨ts,m1,p1,h1,hq⟩:=M.bind_some hp;obtain ⟨⟨e',d,es⟩,m2,p2,h2,hq1⟩:=M.bind_some hq;obtain ⟨hn,rfl⟩:=M.g5v h2;obtain ⟨hc,hq2⟩:=M.g5z hq1;obtain ⟨hc1,hsol⟩:=a0a hc;obtain ⟨hc2,hle⟩:=a0a hc1;obtain ⟨hc3,hk⟩:=a0a hc2;obtain ⟨he,hd⟩:=a0a hc3;have hd:d=true:=hd;subst hd;cases Nat.eq_of_beq_eq_true he;have hle:=a2p hle;obtain ⟨p3,hq3⟩:=M.g6l hq2;cases hq3;have hyc:=b2f hsol hy;obtain ⟨g1,g2,g3⟩:=b9s h hyc h1;obtain ⟨v,xs,hv,hrow,hrc⟩:=g1.obj n _ hn;obtain ⟨g,len,cap,e1,hi,rfl⟩:=hx;rw [hv] at e1;cases e1;have hty:(((E.flat e).drop o).take (E.sz t)).length=E.sz t:=by simp [Env.sz] at hle ⊢;omega
  have hls:=g3.len;rw [hty] at hls;have hsize:vy.cells.size=E.sz t:=by simpa using hls.2
  rcases hrow.2 with ⟨h0,_⟩ | ⟨g',cap',cur,h0,hb0,hgg,hnc,hcm,hcs,htake⟩
  ·cases h0
  ·cases h0;have hin:i*E.sz e+o+E.sz t≤es.length*E.sz e:=by
    have:=Nat.mul_le_mul_right (E.sz e) (show i+1≤es.length from hi);rw [Nat.add_mul] at this;omega
   have hcap:es.length*E.sz e≤cap*E.sz e:=Nat.mul_le_mul_right _ hnc;have hrun:=b8x hT hk hsize (d3y hsol hyc) hgg (o:=i*E.sz e+o) (by omega);refine ⟨rfl,_,env,hrun,?_⟩;have hsame:=Names.g6h hv;have hown:owns m1 env n g:=by simp [owns,hn,hv,Value.ownBlock]
   have hvl:vy.cells.toList.length=E.sz t:=hls.2;have hfit:i*E.sz e+o+vy.cells.toList.length≤cur.toList.length:=by rw [hvl,Array.length_toList,hcs];omega
   have hcut:=fun k=>b8y cur.toList vy.cells.toList (i*E.sz e+o) k hfit;rw [hvl] at hcut;generalize hnew:cur.toList.take (i*E.sz e+o)++vy.cells.toList++cur.toList.drop (i*E.sz e+o+E.sz t)=new at hcut hrun ⊢;have hnl:new.length=cur.size:=by
    rw [← hnew];simp only [List.length_append,List.length_take,List.length_drop,hvl,Array.length_toList];rw [hcs];omega
   have hxs:∀ k,k<es.length*E.sz e→xs[k]?=cur.toList[k]?:=fun k hk=>by rw [← htake,List.getElem?_take,if_pos hk]
   have key:=g1.one (w':=w.setRow g new.toArray) (L':=[]) n (.row e true (es.set i (a1q (es.getD i []) o ts))) _ (.inr hv) (fun hst=>by
     refine ⟨_,new.take (es.length*E.sz e),Names.put_self _ _ _,⟨?_,.inr ⟨g,cap,new.toArray,?_,Nat.zero_le _,setRow_heap w g cur _ e _ hgg,?_,hcm,?_,?_⟩⟩,fun i' j hi' hj=>?_⟩
     ·rw [List.length_set,List.length_take,hnl,hcs];omega
     ·rw [List.length_set]
     ·rw [List.length_set];exact hnc
     ·simp [hnl,hcs]
     ·rw [List.length_set]
     ·rw [List.length_set] at hi';have hk:i'*E.sz e+j<es.length*E.sz e:=by
       have:=Nat.mul_le_mul_right (E.sz e) (show i'+1≤es.length from hi');rw [Nat.add_mul] at this;omega
      obtain ⟨u,hu,hc⟩:=hrc i' j hi' hj;rw [List.getElem?_take,if_pos hk,hcut];by_cases hii:i'=i
      ·subst hii;have hat:tAt (es.set i' (a1q (es.getD i' []) o ts)) i' j=(a1q (es.getD i' []) o ts).getD j (.i 0):=by
        simp [tAt,List.getD_eq_getElem?_getD,hi']
       rw [hat,b4k,hls.1];by_cases hin2:o≤j∧j<o+E.sz t
       ·rw [if_pos (by omega),if_pos hin2];obtain ⟨u',hu',hc'⟩:=g3.get (j - o) (by rw [hty];omega);have htt:(((E.flat e).drop o).take (E.sz t)).getD (j - o) .bool=a4e E e j:=by
         simp only [a4e,List.getD_eq_getElem?_getD,List.getElem?_take,List.getElem?_drop];rw [if_pos (by omega)];congr 2;omega
        rw [htt] at hc';exact ⟨u',by rw [← hu'];congr 1;omega,hc'.mono hst⟩
       ·rw [if_neg (by omega),if_neg hin2,← hxs _ hk];exact ⟨u,hu,hc.mono hst⟩
      ·have hat:tAt (es.set i (a1q (es.getD i []) o ts)) i' j=tAt es i' j:=by
        simp [tAt,List.getD_eq_getElem?_getD,Ne.symm hii]
       rw [hat];have hout:¬ (i*E.sz e+o≤i'*E.sz e+j∧i'*E.sz e+j<i*E.sz e+o+E.sz t):=by
        rcases Nat.lt_or_gt_of_ne hii with hlt | hgt
        ·have:=Nat.mul_le_mul_right (E.sz e) (show i'+1≤i from hlt);rw [Nat.add_mul] at this;omega
        ·have:=Nat.mul_le_mul_right (E.sz e) (show i+1≤i' from hgt);rw [Nat.add_mul] at this;omega
       rw [if_neg hout,← hxs _ hk];exact ⟨u,hu,hc.mono hst⟩)
    (fun c hc=>by simp at hc) (fun c hc=>by simp at hc) List.nodup_nil
    (fun c hc=>by
     have:g=c:=by simpa [owns,put_self,Names.put_self,Value.ownBlock] using hc
     subst this;exact ⟨by simpa using (g1.inb _ _ hown).1,.inl hown⟩)
    (fun c _ hc _=>setRow_other w g c _ (fun e=>hc (by rw [e];exact hown))) rfl rfl rfl (by simp)
   rw [hsame] at key;exact ⟨key.1,key.2.1,g2.still.trans key.2.2⟩
 ·cases hp
end
end Go.Proofs.Ytdbopobkdpmpgaa.Ev
