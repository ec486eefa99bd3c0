/- Elements that are laid over a row's own: copy and clear. No condition. -/
import Derived.Test.YtdbopobkdpmpgaamEvJ
import Derived.Laws.IdiomCopy
namespace Go.Proofs.Ytdbopobkdpmpgaa.Ev
open Go
set_option linter.unusedVariables false
set_option linter.unusedSimpArgs false
section
variable {P:Program} {E:Env} {β:Base} {L:List Nat} {m:Mem} {env:Names} {w w':World} {S:Nat→Prop}
theorem e7m {n:Nm} {o:O} (h:m n=some o):m.put n o=m:=by
 funext x;by_cases hx:x=n
 ·subst hx;rw [put_self,h]
 ·rw [put_ne _ _ hx]
theorem b8z (es:List (List T)) (f:Nat):a2o es f []=es:=by simp [a2o]
theorem e0v {es xs:List (List T)} {f:Nat} (h:f+xs.length≤es.length):(a2o es f xs).length=es.length:=by simp [a2o];omega
theorem e4q {es xs:List (List T)} {f i j:Nat} (h:f+xs.length≤es.length):tAt (a2o es f xs) i j=if f≤i∧i<f+xs.length then tAt xs (i - f) j else tAt es i j:=by
 have hla:(es.take f).length=f:=by simp;omega
 unfold tAt a2o;simp only [List.getD_eq_getElem?_getD];by_cases h1:i<f
 ·rw [List.getElem?_append_left (by omega),if_neg (by omega),List.getElem?_take,if_pos h1]
 ·rw [List.getElem?_append_right (by omega),hla];by_cases h2:i<f+xs.length
  ·rw [List.getElem?_append_left (by omega),if_pos (by omega)]
  ·rw [List.getElem?_append_right (by omega),if_neg (by omega),List.getElem?_drop];congr 4;omega
theorem Heap.overs (h:Heap E β [] m env w) {n:Nm} {e:Nat} {es:List (List T)} (hn:m n=some (.row e true es)) {g:Nat} {len cap:Nat} (hv:env n=some (.slice (some ⟨g,0,none⟩) len cap))
  {f:Nat} {xs:List (List T)} {cs:List Value} (hl:cs.length=xs.length*E.sz e) (hfit:f+xs.length≤es.length) (hc:∀ i j,i<xs.length→j<E.sz e→∃ u,cs[i*E.sz e+j]?=some u∧RC E w (a0b β [] m env w) (a4e E e j) (tAt xs i j) u) :
  ∃ cur,w.heap[g]?=some (.cells cur e (0,0))∧es.length*E.sz e≤cur.size∧
   Heap E β [] (m.put n (.row e true (a2o es f xs))) env (w.setRow g (cur.toList.take (f*E.sz e)++cs++cur.toList.drop (f*E.sz e+cs.length)).toArray)∧
   Still w (w.setRow g (cur.toList.take (f*E.sz e)++cs++cur.toList.drop (f*E.sz e+cs.length)).toArray) (a0b β [] m env w) (a0b β [] (m.put n (.row e true (a2o es f xs))) env (w.setRow g (cur.toList.take (f*E.sz e)++cs++cur.toList.drop (f*E.sz e+cs.length)).toArray)):=by
 obtain ⟨v,ys,hv',hrow,hrc⟩:=h.obj n _ hn;rw [hv] at hv';cases hv';rcases hrow.2 with ⟨h0,_⟩ | ⟨g',cap',cur,h0,hb0,hgg,hnc,hcm,hcs,htake⟩
 ·cases h0
 ·cases h0;have hmul:es.length*E.sz e≤cap*E.sz e:=Nat.mul_le_mul_right _ hnc;have hmf:f*E.sz e+xs.length*E.sz e≤es.length*E.sz e:=by rw [← Nat.add_mul];exact Nat.mul_le_mul_right _ hfit
  refine ⟨cur,hgg,by omega,?_⟩;have hsame:=Names.g6h hv;have hown:owns m env n g:=by simp [owns,hn,hv,Value.ownBlock]
  have hcut:=fun k=>b8y cur.toList cs (f*E.sz e) k (by rw [hl];simp;omega);generalize hnew:cur.toList.take (f*E.sz e)++cs++cur.toList.drop (f*E.sz e+cs.length)=new at hcut ⊢;have hnl:new.length=cur.size:=by
   rw [← hnew];simp only [List.length_append,List.length_take,List.length_drop,Array.length_toList];omega
  have hxs:∀ k,k<es.length*E.sz e→ys[k]?=cur.toList[k]?:=fun k hk=>by rw [← htake,List.getElem?_take,if_pos hk]
  have hol:=e0v hfit;have key:=h.one (w':=w.setRow g new.toArray) (L':=[]) n (.row e true (a2o es f xs)) _ (.inr hv) (fun hst=>by
    refine ⟨_,new.take (es.length*E.sz e),Names.put_self _ _ _,⟨?_,.inr ⟨g,cap,new.toArray,?_,Nat.zero_le _,setRow_heap w g cur _ e _ hgg,?_,hcm,?_,?_⟩⟩,fun i' j hi' hj=>?_⟩
    ·rw [hol,List.length_take,hnl];omega
    ·rw [hol]
    ·rw [hol];exact hnc
    ·simp [hnl,hcs]
    ·rw [hol]
    ·rw [hol] at hi';have hk:i'*E.sz e+j<es.length*E.sz e:=by
      have:=Nat.mul_le_mul_right (E.sz e) (show i'+1≤es.length from hi');rw [Nat.add_mul] at this;omega
     obtain ⟨u,hu,hc'⟩:=hrc i' j hi' hj;rw [List.getElem?_take,if_pos hk,hcut,e4q hfit,hl];by_cases hin:f≤i'∧i'<f+xs.length
     ·have h1:f*E.sz e≤i'*E.sz e:=Nat.mul_le_mul_right _ hin.1;have h2:=Nat.mul_le_mul_right (E.sz e) (show i'+1≤f+xs.length from hin.2);rw [Nat.add_mul,Nat.add_mul] at h2;rw [if_pos (by omega),if_pos hin];obtain ⟨u',hu',hc''⟩:=hc (i' - f) j (by omega) hj;refine ⟨u',?_,hc''.mono hst⟩;rw [← hu',Nat.sub_mul];congr 1;omega
     ·have h3:¬ (f*E.sz e≤i'*E.sz e+j∧i'*E.sz e+j<f*E.sz e+xs.length*E.sz e):=by
       rcases Nat.lt_or_ge i' f with hlt | hge
       ·have:=Nat.mul_le_mul_right (E.sz e) (show i'+1≤f from hlt);rw [Nat.add_mul] at this;omega
       ·have:=Nat.mul_le_mul_right (E.sz e) (show f+xs.length≤i' by omega);rw [Nat.add_mul] at this;omega
      rw [if_neg h3,if_neg hin,← hxs _ hk];exact ⟨u,hu,hc'.mono hst⟩)
   (fun c hc=>by simp at hc) (fun c hc=>by simp at hc) List.nodup_nil
   (fun c hc=>by
    have:g=c:=by simpa [owns,put_self,Names.put_self,Value.ownBlock] using hc
    subst this;exact ⟨by simpa using (h.inb _ _ hown).1,.inl hown⟩)
   (fun c _ hc _=>setRow_other w g c _ (fun e=>hc (by rw [e];exact hown))) rfl rfl rfl (by simp)
  rw [hsame] at key;exact ⟨key.1,key.2.2⟩
theorem Heap.over (h:Heap E β [] m env w) {n:Nm} {e:Nat} {es:List (List T)} (hn:m n=some (.row e true es)) (hsz:E.sz e=1) {g:Nat} {len cap:Nat} (hv:env n=some (.slice (some ⟨g,0,none⟩) len cap))
  {f:Nat} {xs:List (List T)} {cs:List Value} (hl:cs.length=xs.length) (hfit:f+xs.length≤es.length) (hc:∀ i,i<xs.length→∃ u,cs[i]?=some u∧RC E w (a0b β [] m env w) (a4e E e 0) (tAt xs i 0) u) :
  ∃ cur,w.heap[g]?=some (.cells cur e (0,0))∧es.length≤cur.size∧
   Heap E β [] (m.put n (.row e true (a2o es f xs))) env (w.setRow g (cur.toList.take f++cs++cur.toList.drop (f+cs.length)).toArray)∧
   Still w (w.setRow g (cur.toList.take f++cs++cur.toList.drop (f+cs.length)).toArray) (a0b β [] m env w) (a0b β [] (m.put n (.row e true (a2o es f xs))) env (w.setRow g (cur.toList.take f++cs++cur.toList.drop (f+cs.length)).toArray)):=by
 have:=h.overs hn hv (f:=f) (xs:=xs) (cs:=cs) (by rw [hsz,Nat.mul_one];exact hl) hfit (fun i j hi hj=>by
  rw [hsz] at hj;obtain rfl:j=0:=by omega
  rw [hsz];simpa using hc i hi)
 rw [hsz] at this;simpa only [Nat.mul_one] using this
def f9i (E:Env) (β:Base) (m:Mem) (env:Names) (w:World) (n:Nm) (e f l:Nat) (es:List (List T)) (v:Value):Prop:=
 m n=some (.row e true es)∧f+l≤es.length∧((l=0∧∃ d c,v=.slice d 0 c)∨∃ g len cap c',env n=some (.slice (some ⟨g,0,none⟩) len cap)∧v=.slice (some ⟨g,f*E.sz e,none⟩) l c')
theorem e2l (h:Heap E β [] m env w) {n:Nm} {e f l:Nat} {es:List (List T)} (hn:m n=some (.row e true es)) {v:Value} (hx:RV E env w (a0b β [] m env w) (.cut n e f l) v):f9i E β m env w n e f l es v:=by
 obtain ⟨ga,len,cap,he,hfl,hrest⟩:=hx;obtain ⟨v',ys,hv',hrow,_⟩:=h.obj n _ hn;rw [he] at hv';cases hv';have hlen:len=es.length:=by
  rcases hrow.2 with ⟨h0,h1⟩ | ⟨g',cap',cur,h0,_⟩
  ·cases h0;omega
  ·cases h0;rfl
 subst hlen;refine ⟨hn,hfl,?_⟩;rcases hrest with ⟨rfl,rfl,hga⟩ | ⟨g,o,c',rfl,hlc,hpos⟩
 ·exact .inl ⟨rfl,none,0,rfl⟩
 ·by_cases hl:0<l
  ·obtain ⟨rfl,rfl,hcc⟩:=hpos (by omega);exact .inr ⟨g,_,cap,c',he,rfl⟩
  ·obtain rfl:l=0:=by omega
   exact .inl ⟨rfl,_,_,rfl⟩
theorem e2m (h:Heap E β [] m env w) {n:Nm} {e:Nat} {es:List (List T)} (hn:m n=some (.row e true es)) {v:Value} (hx:RV E env w (a0b β [] m env w) (.ref n) v):f9i E β m env w n e 0 es.length es v:=by
 obtain ⟨v',ys,hv',hrow,_⟩:=h.obj n _ hn;have hvv:v'=v:=Option.some.inj (hv'.symm.trans hx.1);subst hvv;refine ⟨hn,by omega,?_⟩;rcases hrow.2 with ⟨rfl,h1⟩ | ⟨g',cap',cur,rfl,_⟩
 ·exact .inl ⟨h1,none,0,rfl⟩
 ·exact .inr ⟨_,_,_,_,hv',by rw [Nat.zero_mul]⟩
theorem d7k (hT:a1e P E=true) (h:Heap E β [] m env w) {t u ty e:Nat} (he:b5u E t e=true) (hsz:E.sz e=1) {n:Nm} {f l:Nat} {es ys:List (List T)} {vx vy:Value} (hx:f9i E β m env w n e f l es vx)
  (hy:f1n E w (a0b β [] m env w) e ys vy):Gives P E β m env w (Builtin.copy_ #[t,u] ty #[vx,vy]) (.i .i64 ((ys.take l).length:Int)) (m.put n (.row e true (a2o es f (ys.take l)))):=by
 obtain ⟨hu,hk,_,_,_⟩:=a4x hT he;obtain ⟨i,z,hi,hisz,_,_,_,_⟩:=a4w hT hk;have hs1:(P.info? e).map (·.size)=some 1:=by rw [hi];simp [hisz,hsz]
 obtain ⟨hn,hfl,hv⟩:=hx;rw [hsz,Nat.mul_one] at hv;have hnone:(ys.take l).length=0→Nat.min ys.length l=0:=fun h0=>by simpa [Nat.min_comm] using h0
 have nothing:∀ {dp sp:Option Addr} {dl dc sl sc:Nat},vx=.slice dp dl dc→vy=.slice sp sl sc→Nat.min sl dl=0→(ys.take l).length=0→
   Gives P E β m env w (Builtin.copy_ #[t,u] ty #[vx,vy]) (.i .i64 ((ys.take l).length:Int)) (m.put n (.row e true (a2o es f (ys.take l)))):=by
  intro dp sp dl dc sl sc e1 e2 h0 hz;subst e1;subst e2;have hnil:ys.take l=[]:=List.eq_nil_of_length_eq_zero hz;rw [hnil,b8z,e7m hn];exact Gives.g6p h (run_copy_none (P:=P) w t u ty e dp sp dl dc sl sc hu hs1 h0) rfl
 rcases hy with ⟨rfl,rfl⟩ | ⟨ad,cap,vs,rfl,hcell,hrc⟩
 ·rcases hv with ⟨_,d,c,rfl⟩ | ⟨g,len,cap,c',_,rfl⟩
  ·exact nothing rfl rfl (by simp) (by simp)
  ·exact nothing rfl rfl (by simp) (by simp)
 ·rcases hv with ⟨rfl,d,c,rfl⟩ | ⟨g,len,cap',c',henv,rfl⟩
  ·exact nothing rfl rfl (by simp) (by simp)
  ·by_cases h0:Nat.min ys.length l=0
   ·refine nothing rfl rfl h0 ?_;rw [List.length_take,Nat.min_comm];exact h0
   ·have hmin:(ys.take l).length=Nat.min ys.length l:=by rw [List.length_take,Nat.min_comm]
    obtain ⟨cur,c1,c2,c3,c4⟩:=h.over hn hsz henv (f:=f) (xs:=ys.take l) (cs:=(List.range (ys.take l).length).map fun i=>vs i 0) (by simp) (by rw [List.length_take];omega) (fun i hi'=>by
     refine ⟨vs i 0,by rw [List.getElem?_map,List.getElem?_range hi'];rfl,?_⟩;have hi2:i<ys.length∧i<l:=by rw [List.length_take] at hi';omega
     have:=hrc i 0 hi2.1 (by rw [hsz];omega);have hat:tAt (ys.take l) i 0=tAt ys i 0:=by simp [tAt,List.getD_eq_getElem?_getD,List.getElem?_take,hi2.2]
     rw [hat];exact this)
    have hrun:=run_copy_row (P:=P) w t u ty e g f l c' ad ys.length cap cur e ((List.range (ys.take l).length).map fun i=>vs i 0) hu hs1 c1 (by simp [hmin]) (fun j v hj=>by
     simp only [List.getElem?_map,Option.map_eq_some_iff] at hj;obtain ⟨q,hq,rfl⟩:=hj;obtain ⟨hlt,rfl⟩:=List.getElem?_eq_some_iff.1 hq;simp only [List.getElem_range,List.length_range] at hlt ⊢;have:=hcell j 0 (by rw [List.length_take] at hlt;omega) (by rw [hsz];omega);simpa [hsz] using this) (by simp;omega) (fun v hv=>by
     obtain ⟨q,hq,rfl⟩:=List.mem_map.1 hv;have hq:=List.mem_range.1 hq;exact (hrc q 0 (by rw [List.length_take] at hq;omega) (by rw [hsz];omega)).one)
    refine ⟨_,_,env,hrun,?_,c3,Names.le_refl _,c4⟩;show _=Value.int .i64 _;simp [goInt]
theorem f1p (hT:a1e P E=true) (h:Heap E β [] m env w) {t u ty:Nat} {x y:A} {vx vy:Value} (hx:RV E env w (a0b β [] m env w) x vx) (hy:RV E env w (a0b β [] m env w) y vy) {a:A} {m':Mem} {p p':FP}
  (hp:(f4z E t x y).ev m p=some (a,m',p')):Gives P E β m env w (Builtin.copy_ #[t,u] ty #[vx,vy]) a m':=by
 unfold f4z at hp;obtain ⟨hc,hp1⟩:=M.g5z hp;clear hp;obtain ⟨he,hsz⟩:=a0a hc;have hsz:=Nat.eq_of_beq_eq_true hsz;generalize E.elem t=e at he hp1 hsz;split at hp1
 ·rename_i n;obtain ⟨⟨e',d,es⟩,m0,p0,h0,hq0⟩:=M.bind_some hp1;obtain ⟨hn,rfl⟩:=M.g5v h0;obtain ⟨ys,m1,p1,h1,hq⟩:=M.bind_some hq0;obtain ⟨rfl,hel⟩:=b3s h hy h1;obtain ⟨hk,hq1⟩:=M.g5z hq;obtain ⟨hk1,hk2⟩:=a0a hk;have hk2:d=true:=hk2;subst hk2;cases Nat.eq_of_beq_eq_true hk1;cases hq1;exact d7k hT h he hsz (e2m h hn hx) hel
 ·rename_i n e₁ f l;obtain ⟨⟨e',d,es⟩,m0,p0,h0,hq0⟩:=M.bind_some hp1;obtain ⟨hn,rfl⟩:=M.g5v h0;obtain ⟨ys,m1,p1,h1,hq⟩:=M.bind_some hq0;obtain ⟨rfl,hel⟩:=b3s h hy h1;obtain ⟨hk,hq1⟩:=M.g5z hq;obtain ⟨hk0,hk2⟩:=a0a hk;obtain ⟨hk1,hk3⟩:=a0a hk0;have hk2:d=true:=hk2;subst hk2;cases Nat.eq_of_beq_eq_true hk1;cases Nat.eq_of_beq_eq_true hk3;cases hq1;exact d7k hT h he hsz (e2l h hn hx) hel
 ·cases hp1
theorem d1s (hT:a1e P E=true) (h:Heap E β [] m env w) {t ty e:Nat} (he:b5u E t e=true) {n:Nm} {f l:Nat} {es:List (List T)} {vx:Value} (hx:f9i E β m env w n e f l es vx) :
  Gives P E β m env w (Builtin.clear_ #[t] ty #[vx]) (.tup []) (m.put n (.row e true (a2o es f (List.replicate l (b0c E e))))):=by
 obtain ⟨hu,hk,_,hnp,_⟩:=a4x hT he;obtain ⟨i,z,hi,hisz,_,hz,hzc,_⟩:=a4w hT hk;obtain ⟨hn,hfl,hv⟩:=hx;have hout:∀ {env':Names} {w':World} {S':Nat→Prop},RV E env' w' S' (.tup []) (.tuple #[]):=⟨#[],rfl,trivial⟩;rcases hv with ⟨rfl,d,c,rfl⟩ | ⟨g,len,cap',c',henv,rfl⟩
 ·rw [List.replicate_zero,b8z,e7m hn];refine Gives.g6p h ?_ hout;cases d <;> simp [Builtin.clear_,run_underlying hu]
 ·by_cases h0:l=0
  ·subst h0;rw [List.replicate_zero,b8z,e7m hn];refine Gives.g6p h ?_ hout;simp [Builtin.clear_,run_underlying hu]
  ·have hzl:z.cells.size=E.sz e:=by have:=congrArg List.length hzc;simpa [Env.sz] using this
   have hlen:(Builtin.zeroCells z.cells l).toList.length=l*E.sz e:=by simp [Builtin.zeroCells,hzl]
   have hget:∀ i' j,i'<l→j<E.sz e→(Builtin.zeroCells z.cells l).toList[i'*E.sz e+j]?=some (b8w (a4e E e j)):=fun i' j hi' hj=>by
    have hlt:i'*E.sz e+j<l*E.sz e:=by
     have:=Nat.mul_le_mul_right (E.sz e) (show i'+1≤l from hi');rw [Nat.add_mul] at this;omega
    have hj':j<(E.flat e).length:=hj;have hcell:z.cells[j]?=some (b8w (a4e E e j)):=by
     rw [← Array.getElem?_toList,hzc,List.getElem?_map,List.getElem?_eq_getElem hj'];simp [a4e,List.getD_eq_getElem?_getD,List.getElem?_eq_getElem hj']
    have hjz:j<z.cells.size:=by rw [hzl];exact hj
    rw [Array.getElem?_eq_getElem hjz] at hcell;have hcell:=Option.some.inj hcell;simp only [Builtin.zeroCells,Array.getElem?_toList,Array.getElem?_map,Array.getElem?_range,hzl,hlt,if_true,Option.map_some];rw [(b4l hj).2];simp [hjz,hcell]
   obtain ⟨cur,c1,c2,c3,c4⟩:=h.overs hn henv (f:=f) (xs:=List.replicate l (b0c E e)) (cs:=(Builtin.zeroCells z.cells l).toList) (by rw [hlen,List.length_replicate]) (by simpa using hfl) (fun i' j hi' hj=>by
    rw [List.length_replicate] at hi';refine ⟨_,hget i' j hi' hj,?_⟩;have hj':j<(E.flat e).length:=hj;have hat:tAt (List.replicate l (b0c E e)) i' j=e4i (a4e E e j):=by
     simp [tAt,b0c,a4e,List.getD_eq_getElem?_getD,hi',List.getElem?_eq_getElem hj']
    rw [hat];refine e7l ?_;simp only [a4e,List.getD_eq_getElem?_getD,List.getElem?_eq_getElem hj',Option.getD_some];exact List.all_eq_true.1 hnp _ (List.getElem_mem hj'))
   have hfit:f*E.sz e+l*E.sz e≤es.length*E.sz e:=by rw [← Nat.add_mul];exact Nat.mul_le_mul_right _ hfl
   have hst:=run_storeCells_at P g (f*E.sz e) e (Builtin.zeroCells z.cells l).toList 0 cur w c1 (by rw [hlen];omega) (fun v hv=>by
    obtain ⟨q,hq⟩:=List.getElem?_of_mem hv;have hql:q<l*E.sz e:=by rw [← hlen];exact (List.getElem?_eq_some_iff.1 hq).1
    have hp:=a2n hk;have hd:=hget (q / E.sz e) (q % E.sz e) (Nat.div_lt_of_lt_mul (by rw [Nat.mul_comm];exact hql)) (Nat.mod_lt _ (by omega));rw [Nat.div_add_mod' q (E.sz e),hq] at hd;cases hd;cases a4e E e (q % E.sz e) <;> rfl)
   refine ⟨.tuple #[],_,env,?_,hout,c3,Names.le_refl _,c4⟩;simp only [Nat.add_zero] at hst;obtain ⟨l',rfl⟩:∃ q,l=q+1:=⟨l - 1,by omega⟩;simp [Builtin.clear_,run_underlying hu,zeroValue,typeInfo,hi,hz,hst]
theorem e7n (hT:a1e P E=true) (h:Heap E β [] m env w) {t ty:Nat} {x:A} {vx:Value} (hx:RV E env w (a0b β [] m env w) x vx) {a:A} {m':Mem} {p p':FP}
  (hp:(e6o E t x).ev m p=some (a,m',p')):Gives P E β m env w (Builtin.clear_ #[t] ty #[vx]) a m':=by
 unfold e6o at hp;obtain ⟨he,hp1⟩:=M.g5z hp;clear hp;generalize E.elem t=e at he hp1;split at hp1
 ·rename_i n;obtain ⟨⟨e',d,es⟩,m0,p0,h0,hq0⟩:=M.bind_some hp1;obtain ⟨hn,rfl⟩:=M.g5v h0;obtain ⟨hk,hq1⟩:=M.g5z hq0;obtain ⟨hk1,hk2⟩:=a0a hk;have hk2:d=true:=hk2;subst hk2;cases Nat.eq_of_beq_eq_true hk1;cases hq1;exact d1s hT h he (e2m h hn hx)
 ·rename_i n e₁ f l;obtain ⟨⟨e',d,es⟩,m0,p0,h0,hq0⟩:=M.bind_some hp1;obtain ⟨hn,rfl⟩:=M.g5v h0;obtain ⟨hk,hq1⟩:=M.g5z hq0;obtain ⟨hk0,hk2⟩:=a0a hk;obtain ⟨hk1,hk3⟩:=a0a hk0;have hk2:d=true:=hk2;subst hk2;cases Nat.eq_of_beq_eq_true hk1;cases Nat.eq_of_beq_eq_true hk3;cases hq1;exact d1s hT h he (e2l h hn hx)
 ·cases hp1
end
end Go.Proofs.Ytdbopobkdpmpgaa.Ev
