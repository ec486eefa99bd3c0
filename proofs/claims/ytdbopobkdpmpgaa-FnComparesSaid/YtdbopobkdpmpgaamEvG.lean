/- Operations that read. No condition. -/
import Derived.Test.YtdbopobkdpmpgaamEvF
namespace Go.Proofs.Ytdbopobkdpmpgaa.Ev
open Go
set_option linter.unusedVariables false
section
variable {P:Program} {E:Env} {β:Base} {L:List Nat} {m:Mem} {env:Names} {w w':World} {S:Nat→Prop}
theorem a8p (g o j:Nat):(⟨g,o,none⟩:Addr).add j=⟨g,o+j,none⟩:=by
 unfold Addr.add;split <;> simp_all
theorem RVs.drop:∀ {as:List A} {vs:List Value} (n:Nat),RVs E env w S as vs→RVs E env w S (as.drop n) (vs.drop n)
 | _,_,0,h=>h
 | [],[],n+1,_=>by simp [RVs]
 | _ :: _,_ :: _,n+1,h=>by simpa using RVs.drop n h.2
 | [],_ :: _,_,h=>h.elim
 | _ :: _,[],_,h=>h.elim
theorem RVs.take:∀ {as:List A} {vs:List Value} (n:Nat),RVs E env w S as vs→RVs E env w S (as.take n) (vs.take n)
 | _,_,0,h=>by simp [RVs]
 | [],[],n+1,_=>by simp [RVs]
 | _ :: _,_ :: _,n+1,h=>⟨h.1,RVs.take n h.2⟩
 | [],_ :: _,_,h=>h.elim
 | _ :: _,[],_,h=>h.elim
theorem RVs.app:∀ {as bs:List A} {vs us:List Value},RVs E env w S as vs→RVs E env w S bs us→RVs E env w S (as++bs) (vs++us)
 | [],bs,[],us,_,h=>h
 | _ :: _,_,_ :: _,_,h,h'=>⟨h.1,RVs.app h.2 h'⟩
 | [],_,_ :: _,_,h,_=>h.elim
 | _ :: _,_,[],_,h,_=>h.elim
theorem b3q:∀ {as bs:List A},a0o as=true→a0o bs=true→a0o (as++bs)=true
 | [],bs,_,h=>h
 | a :: as,bs,h,h'=>by
  simp only [a0o,Bool.and_eq_true] at h;simp [a0o,h.1,b3q h.2 h']
theorem a2p {l n:Nat} (h:Nat.ble l n=true):l≤n:=Nat.le_of_ble_eq_true h
theorem b6b (hT:a1e P E=true) {t:Nat} (hk:E.known t=true) {g o:Nat} {cs:List Value} {as:List A} (hlen:cs.length=E.sz t)
  (hc:∀ j v,cs[j]?=some v→w.cell? ⟨g,o+j,none⟩=some v) (hsol:a0o as=true) (hr:RVs E env w S as cs) :
  ∃ v,(Instr.loadAt t (.pointer (some ⟨g,o,none⟩))).run P w=.ok v w∧RV2 E env w S (b1x E t as) v∧∃ v1,(loadVar t ⟨g,o,none⟩).run P w=.ok v w∧v1=v:=by
 have hcells:=run_loadCells_list (P:=P) w ⟨g,o,none⟩ cs (fun j v h=>by rw [a8p];exact hc j v h);rw [hlen] at hcells;have hvar:∀ v,(loadVar t ⟨g,o,none⟩).run P w=.ok v w→(Instr.loadAt t (.pointer (some ⟨g,o,none⟩))).run P w=.ok v w:=fun v h=>by
  simp [Instr.loadAt,Instr.sureAddr,h]
 cases ha:E.isAgg t with
 | true=>
  have h1:(loadVar t ⟨g,o,none⟩).run P w=.ok (.agg cs.toArray) w:=by
   unfold loadVar;simp [c6p hT hk,ha,b6a hT hk,hcells]
  refine ⟨_,hvar _ h1,?_,_,h1,rfl⟩;unfold b1x;rw [ha];exact ⟨cs.toArray,rfl,hsol,by simpa using hr⟩
 | false=>
  have hone:=e0u hT hk ha;rw [hone] at hlen;obtain ⟨v,rfl⟩:=List.length_eq_one_iff.1 hlen;have h0:=hc 0 v rfl;have h1:(loadVar t ⟨g,o,none⟩).run P w=.ok v w:=by
   unfold loadVar load;simp only [Nat.add_zero] at h0;simp [c6p hT hk,ha,Sem.run,h0]
  refine ⟨_,hvar _ h1,?_,_,h1,rfl⟩;exact b1d (by unfold Shape;rw [ha]) hsol hr
def vals (f:Nat→Value):Nat→Nat→List Value
 | _,0=>[]
 | o,n+1=>f o :: vals f (o+1) n
theorem a7q (f:Nat→Value):∀ (o n:Nat),(vals f o n).length=n
 | _,0=>rfl
 | o,n+1=>by simp [vals,a7q f (o+1) n]
theorem a6s (f:Nat→Value):∀ (o n j:Nat) (v:Value),(vals f o n)[j]?=some v→j<n∧v=f (o+j)
 | _,0,j,v,h=>by simp [vals] at h
 | o,n+1,0,v,h=>by simp [vals] at h;simp [h]
 | o,n+1,j+1,v,h=>by
  have:=a6s f (o+1) n j v (by simpa [vals] using h);exact ⟨by omega,by rw [this.2];congr 1;omega⟩
theorem c6q:∀ {tys:List Ty} {o:Nat} {row:List T} {f:Nat→Value},(∀ j,j<tys.length→RC E w S (tys.getD j .bool) (row.getD (o+j) (.i 0)) (f (o+j)))→
  RVs E env w S (d0b o tys row) (vals f o tys.length)∧a0o (d0b o tys row)=true
 | [],_,_,_,_=>⟨trivial,rfl⟩
 | ty :: tys,o,row,f,h=>by
  have h0:RC E w S ty (row.getD o (.i 0)) (f o):=by have:=h 0 (by simp);simpa only [Nat.add_zero,List.getD_cons_zero] using this
  have hr:=RC.ofT (env:=env) h0;obtain ⟨k1,k2⟩:=c6q (tys:=tys) (o:=o+1) (row:=row) (f:=f) (fun j hj=>by
   have:=h (j+1) (by simpa using hj);simpa only [List.getD_cons_succ,Nat.add_assoc,Nat.add_comm 1 j] using this)
  exact ⟨⟨hr.1,k1⟩,by simp only [d0b,a0o,hr.2,k2,Bool.and_self]⟩
theorem f1k:∀ (tys:List Ty) (o:Nat) (row:List T),(d0b o tys row).length=tys.length
 | [],_,_=>rfl
 | _ :: tys,o,row=>by simp [d0b,f1k tys]
theorem d3v (hT:a1e P E=true) (h:Heap E β L m env w) {t:Nat} {x:A} {vx:Value} (hx:RV E env w (a0b β L m env w) x vx) {a:A} {m':Mem} {p p':FP} (hp:(c6g E t x).ev m p=some (a,m',p')) :
  m=m'∧∃ v,(Instr.loadAt t vx).run P w=.ok v w∧RV2 E env w (a0b β L m env w) a v∧∃ ad,vx=.pointer (some ad)∧(loadVar t ad).run P w=.ok v w:=by
 unfold c6g at hp;split at hp
 ·rename_i n o;obtain ⟨cs,m1,p1,h1,hq⟩:=M.bind_some hp;obtain ⟨hn,rfl⟩:=M.g5w h1;obtain ⟨hc,hq1⟩:=M.g5z hq;cases hq1;obtain ⟨hk,hle⟩:=a0a hc;have hle:=a2p hle;obtain ⟨b,cv,el,hb,hheap,hsol,hrv⟩:=h.obj n _ hn;obtain ⟨b',e1,rfl⟩:=hx;rw [hb] at e1;cases e1;have hl:=hrv.length;have hr2:=(hrv.drop o).take (E.sz t);have hs2:=(a2y (E.sz t) (a2y o hsol).2).1;obtain ⟨v,g1,g2,v1,g3,_⟩:=b6b hT hk (g:=b) (o:=o) (cs:=(cv.toList.drop o).take (E.sz t)) (by simp at hl ⊢;omega) (fun j v hj=>by
   rw [cell_of_row w b (o+j) cv el (0,0) hheap];rw [List.getElem?_take] at hj;split at hj
   ·rw [List.getElem?_drop] at hj;simpa using hj
   ·cases hj) hs2 hr2
  exact ⟨rfl,v,g1,g2,_,rfl,g3⟩
 ·rename_i n e i o;obtain ⟨⟨e',d,es⟩,m1,p1,h1,hq⟩:=M.bind_some hp;obtain ⟨hn,rfl⟩:=M.g5v h1;obtain ⟨hc,hq1⟩:=M.g5z hq;cases hq1;obtain ⟨hc1,hle⟩:=a0a hc;obtain ⟨hc2,hk⟩:=a0a hc1;have hle:=a2p hle;cases Nat.eq_of_beq_eq_true hc2;obtain ⟨g,len,cap,e1,e2,rfl⟩:=hx;obtain ⟨v',hv',hrest⟩:=h.rowOf hn;rw [e1] at hv';cases hv';rcases hrest with ⟨h2,_⟩ | ⟨g',cap',h2,hcap,hg,vs,hcell,hr⟩
  ·cases h2
  ·cases h2;have hlen:(((E.flat e).drop o).take (E.sz t)).length=E.sz t:=by simp [Env.sz] at hle ⊢;omega
   have hof:=c6q (E:=E) (env:=env) (w:=w) (S:=a0b β L m env w) (tys:=((E.flat e).drop o).take (E.sz t)) (o:=o) (row:=es.getD i []) (f:=fun j=>vs i j) (fun j hj=>by
    rw [hlen] at hj;have:=hr i (o+j) e2 (by omega);have hty:(((E.flat e).drop o).take (E.sz t)).getD j .bool=a4e E e (o+j):=by
     simp [a4e,List.getD_eq_getElem?_getD,hj,List.getElem?_drop]
    rw [hty];exact this)
   rw [hlen] at hof;obtain ⟨v,g1,g2,v1,g3,_⟩:=b6b hT hk (g:=g) (o:=i*E.sz e+o) (cs:=vals (fun j=>vs i j) o (E.sz t)) (a7q _ _ _) (fun j v hj=>by
    obtain ⟨hj1,rfl⟩:=a6s _ _ _ _ _ hj;rw [Nat.add_assoc];exact hcell i (o+j) e2 (by omega)) hof.2 hof.1
   exact ⟨rfl,v,g1,g2,_,rfl,g3⟩
 ·rename_i tys cs q;obtain ⟨hc,hq1⟩:=M.g5z hp;cases hq1;obtain ⟨hk,hle⟩:=a0a hc;have hle:=a2p hle;obtain ⟨g,o,rfl,hg,hcell⟩:=hx;have hall:∀ j,∃ u,j<tys.length→w.cell? ⟨g,o+j,none⟩=some u∧RC E w (a0b β L m env w) (tys.getD j .bool) (cs.getD j (.i 0)) u:=fun j=>by
   by_cases hj:j<tys.length
   ·obtain ⟨u,hu⟩:=hcell j hj;exact ⟨u,fun _=>hu⟩
   ·exact ⟨undef,fun h=>absurd h hj⟩
  obtain ⟨f,hf⟩:=Classical.axiomOfChoice hall;have hlen:((tys.drop q).take (E.sz t)).length=E.sz t:=by simp;omega
  have hof:=c6q (E:=E) (env:=env) (w:=w) (S:=a0b β L m env w) (tys:=(tys.drop q).take (E.sz t)) (o:=q) (row:=cs) (f:=f) (fun j hj=>by
   rw [hlen] at hj;have:=(hf (q+j) (by omega)).2;have hty:((tys.drop q).take (E.sz t)).getD j .bool=tys.getD (q+j) .bool:=by
    simp [List.getD_eq_getElem?_getD,hj,List.getElem?_drop]
   rw [hty];exact this)
  rw [hlen] at hof;obtain ⟨v,g1,g2,v1,g3,_⟩:=b6b hT hk (g:=g) (o:=o+q) (cs:=vals f q (E.sz t)) (a7q _ _ _) (fun j v hj=>by
   obtain ⟨hj1,rfl⟩:=a6s _ _ _ _ _ hj;rw [Nat.add_assoc];exact (hf (q+j) (by omega)).1) hof.2 hof.1
  exact ⟨rfl,v,g1,g2,_,rfl,g3⟩
 ·cases hp
theorem d3w (hT:a1e P E=true) {t j:Nat} {x:A} {vx:Value} (hx:RV E env w S x vx) {a:A} {m':Mem} {p p':FP} (hp:(c1x E t j x).ev m p=some (a,m',p')) :
  m=m'∧∃ v,(Instr.fieldAt t vx j).run P w=.ok v w∧RV E env w S a v:=by
 unfold c1x at hp;have key:∀ {o' ft:Nat},b9k E t j=some (o',ft)→∀ (g o:Nat),(Instr.fieldAt t (.pointer (some ⟨g,o,none⟩)) j).run P w=.ok (.pointer (some ⟨g,o+o',none⟩)) w:=by
  intro o' ft hf g o;unfold b9k at hf;split at hf
  ·rename_i fs hkn;obtain ⟨fields,hu,hfo⟩:=b9t hT hkn;obtain ⟨f,h1,h2,h3,h4⟩:=d3u hfo hf;have hpos:=a2n h4;have h1':fields[j]?=some f:=by simpa using h1
   simp [Instr.fieldAt,run_underlying hu,h1',Instr.sureAddr,fieldPlace,h3,b6a hT h4,h2,a8p,show E.sz ft≠0 by omega]
  ·cases hf
 split at hp
 ·rename_i o' ft n o hf;cases hp;obtain ⟨b,h1,rfl⟩:=hx;exact ⟨rfl,_,key hf _ _,b,h1,rfl⟩
 ·rename_i o' ft n e i o hf;cases hp;obtain ⟨g,len,cap,h1,h2,rfl⟩:=hx;exact ⟨rfl,_,key hf _ _,g,len,cap,h1,h2,by rw [Nat.add_assoc]⟩
 ·rename_i o' ft tys cs q hf;cases hp;obtain ⟨g,o,rfl,hg,hcell⟩:=hx;exact ⟨rfl,_,key hf _ _,g,o,by rw [Nat.add_assoc],hg,hcell⟩
 ·cases hp
theorem e7h (hT:a1e P E=true) {t j:Nat} {x:A} {vx:Value} (hx:RV E env w S x vx) {a:A} {m':Mem} {p p':FP} (hp:(e6j E t j x).ev m p=some (a,m',p')) :
  m=m'∧∃ v,(Instr.field t vx j).run P w=.ok v w∧RV2 E env w S a v:=by
 unfold e6j at hp;split at hp
 ·rename_i o' ft cs hf;obtain ⟨hc,hq⟩:=M.g5z hp;cases hq;obtain ⟨hk,hle⟩:=a0a hc;have hle:=a2p hle;obtain ⟨arr,rfl,hsol,hrv⟩:=hx;have hl:=hrv.length;unfold b9k at hf;split at hf
  ·rename_i fs hkn;obtain ⟨fields,hu,hfo⟩:=b9t hT hkn;obtain ⟨f,h1,h2,h3,h4⟩:=d3u hfo hf;have h1':fields[j]?=some f:=by simpa using h1
   have hr2:=(hrv.drop o').take (E.sz ft);have hs2:=(a2y (E.sz ft) (a2y o' hsol).2).1;cases ha:E.isAgg ft with
   | true=>
    refine ⟨rfl,.agg (arr.extract o' (o'+E.sz ft)),?_,?_⟩
    ·simp [Instr.field,run_underlying hu,h1',asAgg,part,h3,h2,c6p hT h4,ha,b6a hT h4]
    ·unfold b1x;rw [ha];refine ⟨_,rfl,hs2,?_⟩;have:(arr.extract o' (o'+E.sz ft)).toList=(arr.toList.drop o').take (E.sz ft):=by
      simp [List.take_drop]
     rw [this];exact hr2
   | false=>
    have hone:=e0u hT h4 ha;have hlt:o'<arr.size:=by simp at hl;omega
    refine ⟨rfl,arr[o'],?_,?_⟩
    ·simp [Instr.field,run_underlying hu,h1',asAgg,part,h3,h2,c6p hT h4,ha,hlt]
    ·refine b1d (vs:=(arr.toList.drop o').take (E.sz ft)) ?_ hs2 hr2;unfold Shape;rw [ha,hone];rw [List.drop_eq_getElem_cons (by simpa using hlt)];simp
  ·cases hf
 ·cases hp
end
end Go.Proofs.Ytdbopobkdpmpgaa.Ev
