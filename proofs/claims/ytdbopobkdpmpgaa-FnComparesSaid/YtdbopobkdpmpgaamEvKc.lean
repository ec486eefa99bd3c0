/- Elements are put into a row by the library's text: the copies, the append of zeros. No condition. -/
import Derived.Test.YtdbopobkdpmpgaamEvKb
import Derived.Laws.CopyRow
import Derived.Lib.AppendZerosOnto
import Derived.Lib.Overlaps
import Derived.Laws.Externs
namespace Go.Proofs.Ytdbopobkdpmpgaa.Ev
open Go
set_option linter.unusedVariables false
section
variable {P:Program} {E:Env} {w:World}
theorem b7r (w:World) (dT sT ty elem:TypeId) (g o dLen dCap:Nat) (a:Addr) (sLen sCap:Nat) (cur:Array Value) (t:TypeId) (cs:List Value) (k:Nat)
  (hu:P.underlying dT=some (.slice elem)) (hs:(P.info? elem).map (·.size)=some k)
  (hg:w.heap[g]?=some (.cells cur t (0,0))) (hn:cs.length=Nat.min sLen dLen*k)
  (hsrc:∀ j v,cs[j]?=some v→w.cell? (a.add j)=some v) (hfit:o+cs.length≤cur.size) (h1:∀ v∈cs,v.oneCell'=true) :
  (Builtin.copy_ #[dT,sT] ty #[.slice (some ⟨g,o,none⟩) dLen dCap,.slice (some a) sLen sCap]).run P w =
   .ok (goInt (Nat.min sLen dLen)) (w.setRow g (cur.toList.take o++cs++cur.toList.drop (o+cs.length)).toArray):=by
 have hl:=run_loadCells_list (P:=P) w a cs hsrc;have hst:=run_storeCells_at P g o t cs 0 cur w hg (by simpa using hfit) h1;cases hq:P.info? elem with
 | none=>simp [hq] at hs
 | some i=>
  have hi:i.size=k:=by simpa [hq] using hs
  simp [Builtin.copy_,run_underlying hu,Builtin.lenOf,Builtin.firstCells,sizeOf,typeInfo,hq,hi,← hn,hl,hst]
theorem e6b {α:Type} (cur xs ys:List α) {a N:Nat} (hx:cur.take N=xs) (ha:a≤N) (hfit:N+ys.length≤cur.length) :
  ∃ cur1 cur2:List α,cur1=cur.take (a+ys.length)++xs.drop a++cur.drop (a+ys.length+(xs.drop a).length)∧cur2=cur1.take a++ys++cur1.drop (a+ys.length)∧
   cur2.take (N+ys.length)=xs.take a++ys++xs.drop a∧cur1.length=cur.length∧cur2.length=cur.length:=by
 have hxl:xs.length=N:=by rw [← hx,List.length_take];omega
 have hdl:(xs.drop a).length=N - a:=by rw [List.length_drop,hxl]
 have hl1:(cur.take (a+ys.length)).length=a+ys.length:=by rw [List.length_take];omega
 refine ⟨_,_,rfl,rfl,?_,?_,?_⟩
 ·rw [List.append_assoc (cur.take (a+ys.length)),List.take_append_of_le_length (l₁:=cur.take (a+ys.length)) (by omega),List.take_take,Nat.min_eq_left (by omega),List.drop_left' hl1];have ht:cur.take a=xs.take a:=by rw [← hx,List.take_take,Nat.min_eq_left ha]
  have htl:(xs.take a).length=a:=by rw [List.length_take];omega
  rw [ht,← List.append_assoc,List.take_append_of_le_length (by simp;omega),List.take_of_length_le (by simp;omega)]
 ·simp only [List.length_append,hl1,List.length_drop,hxl];omega
 ·simp only [List.length_append,List.length_take,List.length_drop,hxl];omega
theorem e6c {α:Type} (row xs ys:List α) {a N:Nat} (hr:row.take a=xs.take a) (hxl:xs.length=N) (ha:a≤N) (hfit:N+ys.length≤row.length) :
  ∃ cur1 cur2:List α,cur1=row.take a++ys++row.drop (a+ys.length)∧cur2=cur1.take (a+ys.length)++xs.drop a++cur1.drop (a+ys.length+(xs.drop a).length)∧
   cur2.take (N+ys.length)=xs.take a++ys++xs.drop a∧cur1.length=row.length∧cur2.length=row.length:=by
 have hdl:(xs.drop a).length=N - a:=by rw [List.length_drop,hxl]
 have hl1:(row.take a++ys).length=a+ys.length:=by simp;omega
 refine ⟨_,_,rfl,rfl,?_,?_,?_⟩
 ·rw [List.take_left' hl1,hr,List.take_append_of_le_length (by simp;omega),List.take_of_length_le (by simp;omega)]
 ·simp only [List.length_append,List.length_take,List.length_drop];omega
 ·simp only [List.length_append,List.length_take,List.length_drop,hxl];omega
theorem e0i {e sz n cap g:Nat} {xs:List Value} (h:w.ownsRow 0 e sz (.slice (some ⟨g,0,none⟩) n cap) n xs):∃ k,w.shape? g=some (e,k)∧k=cap*sz∧∀ o,w.frozen? ⟨g,o,none⟩=false:=by
 rcases h.2 with ⟨h0,_⟩ | ⟨g',cap',cur,h0,_,hgg,_,_,hcs,_⟩
 ·cases h0
 ·cases h0;exact ⟨cur.size,by simp [World.shape?,hgg],hcs,fun o=>by simp [World.frozen?,hgg]⟩
theorem f0u (hT:a1e P E=true) {t e:Nat} (he:b5u E t e=true) {g cap n i gy cy m:Nat} {xs ys:List Value} (ho:w.ownsRow 0 e (E.sz e) (.slice (some ⟨g,0,none⟩) n cap) n xs) (hoy:w.ownsRow 0 e (E.sz e) (.slice (some ⟨gy,0,none⟩) m cy) m ys)
  (hne:gy≠g) (hi:i<n) (hm:0<m) (hroom:n+m≤cap) (h1x:∀ u,u∈xs→u.oneCell'=true) (h1y:∀ u,u∈ys→u.oneCell'=true) :
  ∃ W1 W2,(∀ ty dc sc,(Builtin.copy_ #[t,t] ty #[.slice (some ⟨g,(i+m)*E.sz e,none⟩) (n+m - (i+m)) dc,.slice (some ⟨g,i*E.sz e,none⟩) (n+m - i) sc]).run P w.drew=.ok (goInt (n - i:Nat)) W1)∧
   (∀ ty dc,(Builtin.copy_ #[t,t] ty #[.slice (some ⟨g,i*E.sz e,none⟩) (n+m - i) dc,.slice (some ⟨gy,0,none⟩) m cy]).run P W1=.ok (goInt (m:Nat)) W2)∧
   W2.ownsRow 0 e (E.sz e) (.slice (some ⟨g,0,none⟩) (n+m) cap) (n+m) (xs.take (i*E.sz e)++ys++xs.drop (i*E.sz e))∧w.grownBy W2 (some g):=by
 obtain ⟨hu,hk,_,hnp,_⟩:=a4x hT he;obtain ⟨i0,z,hi0,hisz,_,hz,hzc,_⟩:=a4w hT hk;have hsz:(P.info? e).map (·.size)=some (E.sz e):=by rw [hi0];simp [hisz]
 have hxl:xs.length=n*E.sz e:=ho.1;have hyl:ys.length=m*E.sz e:=hoy.1;rcases ho.2 with ⟨h0,_⟩ | ⟨g',cap',cur,h0,hb0,hgg,hnc,hcm,hcs,htake⟩
 ·cases h0
 cases h0;have hai:i*E.sz e≤n*E.sz e:=Nat.mul_le_mul_right _ (by omega);have hfit:n*E.sz e+ys.length≤cur.toList.length:=by
  rw [hyl,← Nat.add_mul,Array.length_toList,hcs];exact Nat.mul_le_mul_right _ hroom
 have hfit':n*E.sz e+ys.length≤cur.size:=by simpa using hfit
 have him:(i+m)*E.sz e=i*E.sz e+ys.length:=by rw [Nat.add_mul,hyl]
 obtain ⟨cur1,cur2,hc1,hc2,hc3,hl1,hl2⟩:=e6b cur.toList xs ys htake hai hfit;have hdl:(xs.drop (i*E.sz e)).length=(n - i)*E.sz e:=by rw [List.length_drop,hxl,Nat.sub_mul]
 have hgd:w.drew.heap[g]?=some (.cells cur e (0,0)):=hgg;have hW1h:(w.drew.setRow g cur1.toArray).heap[g]?=some (.cells cur1.toArray e (0,0)):=setRow_heap w.drew g cur _ e _ hgd;have hd0:i*E.sz e+(n - i)*E.sz e=n*E.sz e:=by rw [← Nat.add_mul];congr 1;omega
 refine ⟨w.drew.setRow g cur1.toArray,(w.drew.setRow g cur1.toArray).setRow g cur2.toArray,fun ty dc sc=>?_,fun ty dc=>?_,?_,?_⟩
 ·have h:=b7r (P:=P) w.drew t t ty e g ((i+m)*E.sz e) (n+m - (i+m)) dc ⟨g,i*E.sz e,none⟩ (n+m - i) sc cur e (xs.drop (i*E.sz e)) (E.sz e) hu hsz hgd
   (by rw [hdl];congr 1;show n - i=min (n+m - i) (n+m - (i+m));omega)
   (fun j v hj=>by
    rw [a8p];have hj':i*E.sz e+j<n*E.sz e:=by rw [← hxl];rw [List.getElem?_drop] at hj;exact (List.getElem?_eq_some_iff.1 hj).1
    have:w.drew.cell? ⟨g,i*E.sz e+j,none⟩=w.cell? ⟨g,i*E.sz e+j,none⟩:=rfl;rw [this,ho.cellAt _ hj'];rw [List.getElem?_drop] at hj;exact hj)
   (by rw [him,hdl];omega) (fun v hv=>h1x v (List.mem_of_mem_drop hv))
  have hmin:Nat.min (n+m - i) (n+m - (i+m))=n - i:=by show min (n+m - i) (n+m - (i+m))=n - i;omega
  rw [h,hmin,him,hc1]
 ·have h:=b7r (P:=P) (w.drew.setRow g cur1.toArray) t t ty e g (i*E.sz e) (n+m - i) dc ⟨gy,0,none⟩ m cy cur1.toArray e ys (E.sz e) hu hsz hW1h
   (by rw [hyl];congr 1;show m=min m (n+m - i);omega)
   (fun j v hj=>by
    rw [a8p];have hj':j<m*E.sz e:=by rw [← hyl];exact (List.getElem?_eq_some_iff.1 hj).1
    rw [World.cell?_of_block (setRow_other w.drew g gy _ hne),Nat.zero_add];have:w.drew.cell? ⟨gy,j,none⟩=w.cell? ⟨gy,j,none⟩:=rfl;rw [this,hoy.cellAt _ hj'];exact hj)
   (by simp only [List.size_toArray,hl1,Array.length_toList];omega) h1y
  have hmin:Nat.min m (n+m - i)=m:=by show min m (n+m - i)=m;omega
  rw [h,hmin,hc2]
 ·refine ⟨?_,.inr ⟨g,cap,cur2.toArray,rfl,Nat.zero_le _,setRow_heap _ g cur1.toArray _ e _ hW1h,hroom,hcm,?_,?_⟩⟩
  ·simp only [List.length_append,List.length_take,List.length_drop,hxl,hyl];rw [Nat.add_mul];omega
  ·simp only [List.size_toArray,hl2,Array.length_toList,hcs]
  ·rw [show (n+m)*E.sz e=n*E.sz e+ys.length by rw [Nat.add_mul,hyl]];exact hc3
 ·exact ⟨rfl,rfl,rfl,by simp,fun k _ hk=>by
   have hkg:k≠g:=fun e=>hk (by rw [e]);rw [setRow_other _ g k _ hkg,setRow_other _ g k _ hkg];rfl⟩
theorem f3o (hT:a1e P E=true) {t tn e:Nat} (he:b5u E t e=true) (htn:P.underlying tn=some (.int .i64)) {g cap n i gy cy m:Nat} {xs ys:List Value} (ho:w.ownsRow 0 e (E.sz e) (.slice (some ⟨g,0,none⟩) n cap) n xs) (hoy:w.ownsRow 0 e (E.sz e) (.slice (some ⟨gy,0,none⟩) m cy) m ys)
  (hi:i<n) (hm:0<m) (hroom:cap<n+m) (hbig:(n+m)*(E.ti e).bytes≤140737488355328) (h1x:∀ u,u∈xs→u.oneCell'=true) (h1y:∀ u,u∈ys→u.oneCell'=true) :
  ∃ G W1 W2 W3,n+m≤G∧G≤maxLen∧(∀ ty,(Builtin.append_ #[t,tn] ty #[.slice (some ⟨g,0,none⟩) i cap,.int .i64 ((n:Int)+(m:Int) - (i:Int))]).run P w=.ok (.slice (some ⟨w.heap.size,0,none⟩) (n+m) G) W1)∧
   (∀ ty dc,(Builtin.copy_ #[t,t] ty #[.slice (some ⟨w.heap.size,i*E.sz e,none⟩) (n+m - i) dc,.slice (some ⟨gy,0,none⟩) m cy]).run P W1=.ok (goInt (m:Nat)) W2)∧
   (∀ ty dc sc,(Builtin.copy_ #[t,t] ty #[.slice (some ⟨w.heap.size,(i+m)*E.sz e,none⟩) (n+m - (i+m)) dc,.slice (some ⟨g,i*E.sz e,none⟩) (n - i) sc]).run P W2.drew=.ok (goInt (n - i:Nat)) W3)∧
   W3.ownsRow 0 e (E.sz e) (.slice (some ⟨w.heap.size,0,none⟩) (n+m) G) (n+m) (xs.take (i*E.sz e)++ys++xs.drop (i*E.sz e))∧w.grownBy W3 (some g):=by
 obtain ⟨hu,hk,hby,hnp,_⟩:=a4x hT he;obtain ⟨i0,z,hi0,hisz,hibytes,hz,hzc,_⟩:=a4w hT hk;have hzl:z.cells.size=E.sz e:=by have:=congrArg List.length hzc;simpa [Env.sz] using this
 have hpos:=a2n hk;have hsz:(P.info? e).map (·.size)=some (E.sz e):=by rw [hi0];simp [hisz]
 have hxl:xs.length=n*E.sz e:=ho.1;have hyl:ys.length=m*E.sz e:=hoy.1;rcases id ho.2 with ⟨h0,_⟩ | ⟨g',cap',cur,h0,hb0,hgg,hnc,hcm,hcs,htake⟩
 ·cases h0
 cases h0;have hgl:g<w.heap.size:=(ho.lt g rfl).2;have hgyl:gy<w.heap.size:=(hoy.lt gy rfl).2;have hai:i*E.sz e≤n*E.sz e:=Nat.mul_le_mul_right _ (by omega);have hkk:(n:Int)+(m:Int) - (i:Int)=((n+m - i:Nat):Int):=by omega
 have hik:i+(n+m - i)=n+m:=by omega
 have hmul:n+m≤(n+m)*(E.ti e).bytes:=Nat.le_mul_of_pos_right _ (by omega);have hold:(Builtin.firstCells i0.size i (.slice (some ⟨g,0,none⟩) i cap)).run P w.drew=.ok (xs.take (i*E.sz e)).toArray w.drew:=by
  rw [hisz];refine run_firstCells_some w.drew (E.sz e) i ⟨g,0,none⟩ i cap (xs.take (i*E.sz e)) (by rw [List.length_take];omega) (fun j v hj=>?_);rw [a8p,Nat.zero_add];rw [List.getElem?_take] at hj;split at hj
  ·rename_i hlt;have:w.drew.cell? ⟨g,j,none⟩=w.cell? ⟨g,j,none⟩:=rfl;rw [this,ho.cellAt _ (by omega)];exact hj
  ·cases hj
 have happ:=fun ty=>Lib.run_append_grow_zeros (P:=P) w t tn ty e i0 z .i64 .i64 hu htn hi0 hz (some ⟨g,0,none⟩) i cap (xs.take (i*E.sz e)) hold (n+m - i) (by omega) (by omega) (by omega) (by omega)
  (by
   rw [hibytes];have:(n+m - i)*(E.ti e).bytes≤(n+m)*(E.ti e).bytes:=Nat.mul_le_mul_right _ (by omega);omega) (by rw [hibytes,hik];exact growslice_fits hroom hbig)
 rw [hik] at happ;have hGn:n+m≤grownCap w (n+m) cap e:=grownCap_ge w _ _ _;have hGm:grownCap w (n+m) cap e≤maxLen:=grownCap_le_maxLen w (n+m) cap e (by unfold maxLen;omega);generalize grownCap w (n+m) cap e=G at happ hGn hGm;obtain ⟨ROW,hROW⟩:∃ ROW:Array Value,ROW=(xs.take (i*E.sz e)).toArray++Builtin.zeroCells z.cells (n+m - i)++Builtin.zeroCells z.cells (G - (n+m)):=⟨_,rfl⟩;rw [← hROW] at happ;have hzsz:∀ q,(Builtin.zeroCells z.cells q).size=q*E.sz e:=fun q=>by simp [Builtin.zeroCells,hzl]
 have hRs:ROW.size=G*E.sz e:=by
  rw [hROW];simp only [Array.size_append,List.size_toArray,hzsz,List.length_take,hxl];rw [Nat.min_eq_left hai,← Nat.add_mul,← Nat.add_mul];congr 1;omega
 have hRt:ROW.toList.take (i*E.sz e)=xs.take (i*E.sz e):=by
  rw [hROW];simp only [Array.toList_append,List.append_assoc];rw [List.take_append_of_le_length (by rw [List.length_take,hxl];omega),List.take_take,Nat.min_self]
 have hfit:n*E.sz e+ys.length≤ROW.toList.length:=by
  rw [hyl,← Nat.add_mul,Array.length_toList,hRs];exact Nat.mul_le_mul_right _ hGn
 have hfit':n*E.sz e+ys.length≤ROW.size:=by simpa using hfit
 have him:(i+m)*E.sz e=i*E.sz e+ys.length:=by rw [Nat.add_mul,hyl]
 obtain ⟨cur1,cur2,hc1,hc2,hc3,hl1,hl2⟩:=e6c ROW.toList xs ys hRt hxl hai hfit;have hdl:(xs.drop (i*E.sz e)).length=(n - i)*E.sz e:=by rw [List.length_drop,hxl,Nat.sub_mul]
 have hd0:i*E.sz e+(n - i)*E.sz e=n*E.sz e:=by rw [← Nat.add_mul];congr 1;omega
 generalize hN:w.heap.size=N at happ hgl hgyl;have hW1h:(w.drew.alloc (.cells ROW e)).heap[N]?=some (.cells ROW e (0,0)):=by
  subst hN;exact Array.getElem?_push_size ..
 have hW1o:∀ b,b<N→(w.drew.alloc (.cells ROW e)).heap[b]?=w.heap[b]?:=fun b hb=>by
  subst hN;exact heap_alloc_old w.drew _ b hb
 have hW2h:((w.drew.alloc (.cells ROW e)).setRow N cur1.toArray).heap[N]?=some (.cells cur1.toArray e (0,0)):=setRow_heap _ N ROW _ e _ hW1h;have hW2o:∀ b,b<N→((w.drew.alloc (.cells ROW e)).setRow N cur1.toArray).heap[b]?=w.heap[b]?:=fun b hb=>by
  rw [setRow_other _ N b _ (by omega)];exact hW1o b hb
 refine ⟨G,w.drew.alloc (.cells ROW e),(w.drew.alloc (.cells ROW e)).setRow N cur1.toArray,((w.drew.alloc (.cells ROW e)).setRow N cur1.toArray).drew.setRow N cur2.toArray,hGn,hGm,fun ty=>by rw [hkk];exact happ ty,fun ty dc=>?_,fun ty dc sc=>?_,?_,?_⟩
 ·have h:=b7r (P:=P) (w.drew.alloc (.cells ROW e)) t t ty e N (i*E.sz e) (n+m - i) dc ⟨gy,0,none⟩ m cy ROW e ys (E.sz e) hu hsz hW1h
   (by rw [hyl];congr 1;show m=min m (n+m - i);omega)
   (fun j v hj=>by
    rw [a8p];have hj':j<m*E.sz e:=by rw [← hyl];exact (List.getElem?_eq_some_iff.1 hj).1
    rw [World.cell?_of_block (hW1o gy hgyl),Nat.zero_add,hoy.cellAt _ hj'];exact hj)
   (by omega) h1y
  have hmin:Nat.min m (n+m - i)=m:=by show min m (n+m - i)=m;omega
  rw [h,hmin,hc1]
 ·have h:=b7r (P:=P) ((w.drew.alloc (.cells ROW e)).setRow N cur1.toArray).drew t t ty e N ((i+m)*E.sz e) (n+m - (i+m)) dc ⟨g,i*E.sz e,none⟩ (n - i) sc cur1.toArray e (xs.drop (i*E.sz e)) (E.sz e) hu hsz hW2h
   (by rw [hdl];congr 1;show n - i=min (n - i) (n+m - (i+m));omega)
   (fun j v hj=>by
    rw [a8p];rw [List.getElem?_drop] at hj;have hj':i*E.sz e+j<n*E.sz e:=by rw [← hxl];exact (List.getElem?_eq_some_iff.1 hj).1
    have:((w.drew.alloc (.cells ROW e)).setRow N cur1.toArray).drew.cell? ⟨g,i*E.sz e+j,none⟩=((w.drew.alloc (.cells ROW e)).setRow N cur1.toArray).cell? ⟨g,i*E.sz e+j,none⟩:=rfl;rw [this,World.cell?_of_block (hW2o g hgl),ho.cellAt _ hj'];exact hj)
   (by simp only [List.size_toArray,hl1,Array.length_toList];rw [him,hdl];omega) (fun v hv=>h1x v (List.mem_of_mem_drop hv))
  have hmin:Nat.min (n - i) (n+m - (i+m))=n - i:=by show min (n - i) (n+m - (i+m))=n - i;omega
  rw [h,hmin,him,hc2]
 ·refine ⟨?_,.inr ⟨N,G,cur2.toArray,rfl,Nat.zero_le _,setRow_heap _ N cur1.toArray _ e _ hW2h,hGn,hGm,?_,?_⟩⟩
  ·simp only [List.length_append,List.length_take,List.length_drop,hxl,hyl];rw [Nat.add_mul];omega
  ·simp only [List.size_toArray,hl2,Array.length_toList,hRs]
  ·rw [show (n+m)*E.sz e=n*E.sz e+ys.length by rw [Nat.add_mul,hyl]];exact hc3
 ·refine ⟨rfl,rfl,rfl,?_,fun k hk _=>?_⟩
  ·subst hN;simp
  ·rw [hN] at hk;rw [setRow_other _ N k _ (by omega)];exact hW2o k hk
theorem c1u {ops:Array Oper} {o:Oper} {a:Act} {w':World} {K:Act→World→Prop} {Q:Exit→Act→World→Prop} {E:Prop}
  (hg:o.guard=none) (d x:Operand) (dT sT:TypeId) (hop:o.op=Op.call { callee:=Callee.builtin Builtin.copy,args:=#[d,x],argTypes:=#[dT,sT] })
  {v u v':Value} (hd:a.eval d=v) (hx:a.eval x=u) (hr:(Builtin.copy_ #[dT,sT] o.type #[v,u]).run P w=.ok v' w') (hK:K (a.put o.dst v') w') :
  if Region.wanted o (yielded ops a.tmps)=true then Oper.wp P o a w K Q else E:=by
 have hw:Region.wanted o (yielded ops a.tmps)=true:=by simp [Region.wanted,hg]
 rw [if_pos hw];unfold Oper.wp;simp [execOp,hop,resolve,invoke,builtin,hd,hx,hr,Result.andThen];exact hK
theorem b7f (w:World) {ops:Array Oper} {rest:List Oper} {o:Oper} {a:Act} {Q:Exit→Act→World→Prop} (hgd:o.guard=none) (d s:Operand) (t t':TypeId)
  (ho:o.op=.call { callee:=.builtin .copy,args:=#[d,s],argTypes:=#[t,t'] }) (v u:Value) (hd:a.eval d=v) (hs:a.eval s=u) {v':Value} {w':World}
  (hr:(Builtin.copy_ #[t,t'] o.type #[v,u]).run P w=.ok v' w') (h:wpList P ops Q rest (a.put o.dst v') w'):wpList P ops Q (o :: rest) a w:=by
 refine wpList_plain hgd fun _ hK=>?_;unfold Oper.wp execOp;simp only [ho,resolve,invoke,builtin,Sem.run_bind,Sem.run_pure,Result.andThen_ok,List.map_toArray,List.map_cons,List.map_nil,hd,hs,hr];exact hK _ _ h
end
end Go.Proofs.Ytdbopobkdpmpgaa.Ev
