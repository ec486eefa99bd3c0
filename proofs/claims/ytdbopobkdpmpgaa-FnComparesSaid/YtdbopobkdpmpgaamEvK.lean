/- Structs and rows that are written out. No condition. -/
import Derived.Test.YtdbopobkdpmpgaamEvJa
namespace Go.Proofs.Ytdbopobkdpmpgaa.Ev
open Go
set_option linter.unusedVariables false
section
variable {P:Program} {E:Env} {β:Base} {L:List Nat} {m:Mem} {env:Names} {w w':World} {S:Nat→Prop}
theorem e2n:∀ (vs:List Value) (k off:Nat) (cells:Array Value),off+k+vs.length≤cells.size→∀ x,
  ((vs.zipIdx k).foldl (fun cs (q:Value×Nat)=>cs.setIfInBounds (off+q.2) q.1) cells)[x]?=if off+k≤x∧x<off+k+vs.length then vs[x - (off+k)]? else cells[x]?
 | [],k,off,cells,_,x=>by
  simp only [List.zipIdx_nil,List.foldl_nil,List.length_nil,Nat.add_zero];rw [if_neg (by omega)]
 | v :: vs,k,off,cells,h,x=>by
  simp only [List.length_cons] at h;simp only [List.zipIdx_cons,List.foldl_cons,List.length_cons];have ih:=e2n vs (k+1) off (cells.setIfInBounds (off+k) v) (by simp;omega) x;rw [ih];by_cases h1:x=off+k
  ·subst h1;rw [if_neg (by omega),if_pos (by omega)];simp [Array.getElem?_setIfInBounds_self_of_lt (show off+k<cells.size by omega)]
  ·rw [Array.getElem?_setIfInBounds_ne (Ne.symm h1)];by_cases h2:off+k≤x∧x<off+k+(vs.length+1)
   ·rw [if_pos (by omega),if_pos h2,show x - (off+k)=(x - (off+(k+1)))+1 by omega];simp
   ·rw [if_neg (by omega),if_neg h2]
theorem e4r (v:Value) (off:Nat) (cells:Array Value) (h:off+v.cells.size≤cells.size) :
  (v.cells.zipIdx.foldl (fun cs (q:Value×Nat)=>cs.setIfInBounds (off+q.2) q.1) cells).toList=cells.toList.take off++v.cells.toList++cells.toList.drop (off+v.cells.toList.length):=by
 rw [← Array.foldl_toList,Array.toList_zipIdx];apply List.ext_getElem?;intro x;rw [b8y _ _ _ _ (by simpa using h),Array.getElem?_toList,e2n _ 0 off cells (by simpa using h) x];simp
theorem b9w {place:Nat→Option (Nat×Nat)} {cells:Array Value} {i off:Nat} {v:Value} {rest:List (Nat×Value)} (hp:place i=some (off,v.cells.size)) (h:off+v.cells.size≤cells.size) :
  ∃ cells1,Instr.fill place cells ((i,v) :: rest)=Instr.fill place cells1 rest∧cells1.size=cells.size∧cells1.toList=cells.toList.take off++v.cells.toList++cells.toList.drop (off+v.cells.toList.length):=by
 have hf:=e4r v off cells h;refine ⟨v.cells.zipIdx.foldl (fun cs (q:Value×Nat)=>cs.setIfInBounds (off+q.2) q.1) cells,?_,?_,hf⟩
 ·simp only [Instr.fill,hp];rw [if_neg (by simp;omega)]
 ·have:=congrArg List.length hf;simp only [Array.length_toList,List.length_append,List.length_take,List.length_drop] at this;omega
theorem c6v {σ:St} {a:Act} (hs:∀ i,RV E env w S (σ.sl i) (a.eval (.tmp i))) {fs:List (Nat×Nat)} {place:Nat→Option (Nat×Nat)} (hpl:∀ j o ft,fs[j]?=some (o,ft)→place j=some (o,E.sz ft)) :
  ∀ {ps:List (Nat×Operand)} {cs cs':List A} {cells:Array Value},RVs E env w S cs cells.toList→a0o cs=true→b2b E σ fs ps cs=some cs'→
  ∃ cells',Instr.fill place cells (ps.map fun q=>(q.1,a.eval q.2))=some cells'∧RVs E env w S cs' cells'.toList∧a0o cs'=true
 | [],cs,cs',cells,hr,hsol,h=>by cases h;exact ⟨cells,rfl,hr,hsol⟩
 | (j,x) :: r,cs,cs',cells,hr,hsol,h=>by
  unfold b2b at h;split at h
  ·rename_i o ft hf;obtain ⟨hc,h1⟩:=a1z h;obtain ⟨hc1,hxs⟩:=a0a hc;obtain ⟨hl,hle⟩:=a0a hc1;have hl:=Nat.eq_of_beq_eq_true hl;have hle:=a2p hle;have hxc:=b2f hxs (b2y (E:=E) hs ft x);have hxl:=hxc.length;have hcl:=hr.length;simp only [Array.length_toList] at hxl hcl;obtain ⟨cells1,g1,g2,g3⟩:=b9w (place:=place) (i:=j) (off:=o) (v:=a.eval x) (cells:=cells) (rest:=r.map fun q=>(q.1,a.eval q.2)) (by rw [hpl j o ft hf,← hl,hxl]) (by omega);have hsp:b5w cs o (a1y E σ ft x).cells=cs.take o++(a1y E σ ft x).cells++cs.drop (o+(a1y E σ ft x).cells.length):=b9u _ _ _ hle;have hr1:RVs E env w S (b5w cs o (a1y E σ ft x).cells) cells1.toList:=by
    rw [g3,hsp,show (a.eval x).cells.toList.length=(a1y E σ ft x).cells.length by simp [hxl]];exact ((hr.take o).app hxc).app (hr.drop _)
   have hs1:a0o (b5w cs o (a1y E σ ft x).cells)=true:=by
    rw [hsp];exact b3q (b3q (a2y _ hsol).1 hxs) (a2y _ hsol).2
   obtain ⟨cells',k1,k2,k3⟩:=c6v hs hpl hr1 hs1 h1;exact ⟨cells',by rw [List.map_cons,g1];exact k1,k2,k3⟩
  ·cases h
theorem d7l (hT:a1e P E=true):∀ {fs:List (Nat×Nat)} {fields:List Field},a9d E fs fields=true→fields.mapM (fun f=>(P.info? f.type).map fun i=>(f.offset,i.size))=some (fs.map fun q=>(q.1,E.sz q.2))
 | [],[],_=>rfl
 | (o,ft) :: r,f :: fs,h=>by
  obtain ⟨h1,h2⟩:=a0a h;obtain ⟨h3,h4⟩:=a0a h1;obtain ⟨h5,h6⟩:=a0a h3;cases Nat.eq_of_beq_eq_true h5;cases Nat.eq_of_beq_eq_true h6;obtain ⟨i,z,hi,hsz,_⟩:=a4w hT h4;simp [List.mapM_cons,hi,d7l hT h2,hsz]
 | [],_ :: _,h=>by simp [a9d] at h
 | _ :: _,[],h=>by simp [a9d] at h
theorem f1q (hT:a1e P E=true) {σ:St} {a:Act} (hs:∀ i,RV E env w S (σ.sl i) (a.eval (.tmp i))) {t:Nat} {fs:List (Nat×Nat)} (hkn:(E.ti t).kn=.struct fs) (hk:E.known t=true) {ps:Array (Nat×Operand)} {cs:List A}
  (h:b2b E σ fs ps.toList ((E.flat t).map d6z)=some cs):∃ v,(Instr.build t (ps.map fun (i,x)=>(i,a.eval x))).run P w=.ok v w∧RV E env w S (.agg cs) v:=by
 obtain ⟨fields,hu,hf⟩:=b9t hT hkn;obtain ⟨i,z,hi,hsz,hbytes,hz,hzc,_⟩:=a4w hT hk;have hzr:=c6u (E:=E) (env:=env) (w:=w) (S:=S) (E.flat t);rw [← hzc] at hzr;have hplaces:=d7l hT hf;obtain ⟨cells',k1,k2,k3⟩:=c6v (place:=fun x=>((fs.map fun q=>(q.1,E.sz q.2)).toArray[x]?:Option (Nat×Nat))) hs (fun j o ft hj=>by simp [hj]) hzr.1 hzr.2 h;have hb:P.built t (ps.map fun (i,x)=>(i,a.eval x)).toList=some cells':=by
  unfold Program.built;simp only [hi,hu,hz,hplaces,Array.toList_map];exact k1
 exact ⟨_,run_build w t _ _ hb,cells',rfl,k3,k2⟩
theorem e7o {σ:St} {a:Act} {e N:Nat}:∀ {ps:List (Nat×Operand)} {j:Nat} {m m':Mem} {p p':FP} {es:List (List T)} {cells:Array Value},Heap E β [] m env w→(∀ i,RV E env w (a0b β [] m env w) (σ.sl i) (a.eval (.tmp i)))→
  (f1b E σ e j ps).ev m p=some (es,m',p')→cells.size=N*E.sz e→j+ps.length≤N→
  ∃ cells',Instr.fill (fun i=>some (i*E.sz e,E.sz e)) cells (ps.map fun q=>(q.1,a.eval q.2))=some cells'∧cells'.size=N*E.sz e∧es.length=ps.length∧Heap E β [] m' env w∧Prog β env w [] m [] m'∧
   (∀ x,x<j*E.sz e→cells'[x]?=cells[x]?)∧(∀ i k,i<es.length→k<E.sz e→∃ v,cells'[(j+i)*E.sz e+k]?=some v∧RC E w (a0b β [] m' env w) (a4e E e k) (tAt es i k) v)
 | [],j,m,m',p,p',es,cells,h,hs,hp,hc,hN=>by
  unfold f1b at hp;cases hp;exact ⟨cells,rfl,hc,rfl,h,Prog.refl _ _ _ _ _,fun _ _=>rfl,fun i k hi=>by simp at hi⟩
 | (i0,x) :: r,j,m,m',p,p',es,cells,h,hs,hp,hc,hN=>by
  unfold f1b at hp;obtain ⟨hk,hp1⟩:=M.g5z hp;obtain ⟨hk1,hsol⟩:=a0a hk;cases Nat.eq_of_beq_eq_true hk1;obtain ⟨c,m1,p1,h1,hq⟩:=M.bind_some hp1;obtain ⟨cs,m2,p2,h2,hq2⟩:=M.bind_some hq;cases hq2;have hxc:=b2f hsol (b2y (E:=E) hs e x);obtain ⟨g1,g2,g3⟩:=b9s h hxc h1;have hls:=g3.len;have hvl:(a.eval x).cells.size=E.sz e:=by simpa [Env.sz] using hls.2
  have hj1:(i0+1)*E.sz e≤N*E.sz e:=Nat.mul_le_mul_right _ (by simp at hN;omega);rw [Nat.add_mul] at hj1;obtain ⟨cells1,f1,f2,f3⟩:=b9w (place:=fun i=>some (i*E.sz e,E.sz e)) (i:=i0) (off:=i0*E.sz e) (v:=a.eval x) (cells:=cells) (rest:=r.map fun q=>(q.1,a.eval q.2)) (by simp only [hvl]) (by rw [hvl];omega);obtain ⟨cells',k1,k2,k3,k4,k5,k6,k7⟩:=e7o (cells:=cells1) g1 (fun i=>(hs i).mono (Names.le_refl _) g2.still) h2 (f2.trans hc) (by simp at hN;omega);have hget:∀ y,cells1[y]?=if i0*E.sz e≤y∧y<i0*E.sz e+E.sz e then (a.eval x).cells.toList[y - i0*E.sz e]? else cells[y]?:=fun y=>by
   rw [← Array.getElem?_toList,f3,b8y _ _ _ _ (by simp [hvl];omega)];simp [hvl]
  refine ⟨cells',by rw [List.map_cons,f1];exact k1,k2,by simp [k3],k4,g2.trans k5,fun y hy=>?_,fun i k hi hk=>?_⟩
  ·rw [k6 y (by rw [Nat.add_mul];omega),hget,if_neg (by omega)]
  ·cases i with
   | zero=>
    obtain ⟨v,hv,hr⟩:=g3.get k hk;refine ⟨v,?_,hr.mono k5.still⟩;rw [Nat.add_zero,k6 _ (by rw [Nat.add_mul];omega),hget,if_pos (by omega),Nat.add_sub_cancel_left];exact hv
   | succ i=>
    obtain ⟨v,hv,hr⟩:=k7 i k (by simpa using hi) hk;refine ⟨v,?_,by simpa [tAt] using hr⟩;rw [show i0+(i+1)=i0+1+i by omega];exact hv
theorem d3z (hT:a1e P E=true) {σ:St} {a:Act} (h:Heap E β [] m env w) (hs:∀ i,RV E env w (a0b β [] m env w) (σ.sl i) (a.eval (.tmp i))) {t n dst:Nat} {ps:Array (Nat×Operand)} {r:A} {m':Mem} {p p':FP}
  (hp:((bif b5u E t (E.elem t)&&Nat.beq ps.toList.length n&&Nat.ble (n*E.sz (E.elem t)) 16777216 then
   (f1b E σ (E.elem t) 0 ps.toList).bind fun es=>(M.new (dst,0) (.row (E.elem t) true es)).bind fun _=>.ret (.ref (dst,0)) else .fail:M A)).ev m p=some (r,m',p')) :
  Gives P E β m env w (Instr.buildSlice t n (ps.map fun (i,x)=>(i,a.eval x))) r m':=by
 obtain ⟨hc,hp1⟩:=M.g5z hp;clear hp;generalize E.elem t=e at hc hp1;obtain ⟨hc1,hle⟩:=a0a hc;obtain ⟨he,hn⟩:=a0a hc1;have hle:=a2p hle;have hn:=Nat.eq_of_beq_eq_true hn;obtain ⟨es,m1,p1,h1,hq⟩:=M.bind_some hp1;obtain ⟨_,m2,p2,h2,hq2⟩:=M.bind_some hq;obtain ⟨hnew,rfl⟩:=M.g5x h2;cases hq2;obtain ⟨hu,hk,hby,hnp,_⟩:=a4x hT he;obtain ⟨i,z,hi,hsz,hbytes,hz,hzc,_⟩:=a4w hT hk;have hpos:=a2n hk;obtain ⟨cells',k1,k2,k3,k4,k5,k6,k7⟩:=e7o (N:=n) (cells:=(Array.range (n*E.sz e)).map ((if n*E.sz e=0 then #[] else z.cells)[· % (if n*E.sz e=0 then #[] else z.cells).size]!)) h hs h1 (by simp) (by omega);have hnm:n≤maxLen:=by
  have:=Nat.le_mul_of_pos_right n (show 0<E.sz e by omega);simp only [maxLen];omega
 have hlen:es.length=n:=by rw [k3,hn]
 obtain ⟨g1,g2,g3⟩:=k4.newRow (arr:=cells') hnew (by rw [hlen];exact hnm) (by rw [k2,hlen]) (fun i j hi hj=>by
  obtain ⟨v,hv,hr⟩:=k7 i j hi hj;exact ⟨v,by rw [Array.getElem?_toList];simpa using hv,hr⟩)
 refine ⟨_,_,_,?_,⟨Names.put_self _ _ _,_,_,_,rfl⟩,g1,g2,k5.still.trans g3⟩;have hzero:(zeroValue e).run P w=.ok z w:=by simp [zeroValue,typeInfo,hi,hz]
 have hfill:Instr.fill (fun i=>some (i*E.sz e,E.sz e)) ((Array.range (n*E.sz e)).map ((if n*E.sz e=0 then #[] else z.cells)[· % (if n*E.sz e=0 then #[] else z.cells).size]!)) (ps.map fun (i,x)=>(i,a.eval x)).toList=some cells':=by
  rw [Array.toList_map];exact k1
 rw [hlen];unfold Instr.buildSlice;by_cases h0:n*E.sz e=0
 ·simp [h0] at hfill;simp [run_underlying hu,b6a hT hk,h0,hfill,Go.newRow,newObj];rfl
 ·simp [h0] at hfill;simp [run_underlying hu,b6a hT hk,h0,hfill,hzero,Nat.not_lt.2 hle,Go.newRow,newObj];rfl
end
end Go.Proofs.Ytdbopobkdpmpgaa.Ev
