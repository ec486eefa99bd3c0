/- Rows that grow and are made; what is put together. No condition. -/
import Derived.Test.YtdbopobkdpmpgaamEvI
namespace Go.Proofs.Ytdbopobkdpmpgaa.Ev
open Go
set_option linter.unusedVariables false
section
variable {P:Program} {E:Env} {β:Base} {L:List Nat} {m:Mem} {env:Names} {w w':World} {S:Nat→Prop}
theorem RC.one {ty:Ty} {t:T} {v:Value} (h:RC E w S ty t v):v.oneCell'=true:=by cases h <;> rfl
def f1n (E:Env) (w:World) (S:Nat→Prop) (e:Nat) (es:List (List T)) (v:Value):Prop:=
 (v=.slice none 0 0∧es=[])∨∃ (ad:Addr) (cap:Nat),∃ vs:Nat→Nat→Value,v=.slice (some ad) es.length cap∧
  (∀ i j,i<es.length→j<E.sz e→w.cell? (ad.add (i*E.sz e+j))=some (vs i j))∧∀ i j,i<es.length→j<E.sz e→RC E w S (a4e E e j) (tAt es i j) (vs i j)
theorem f1o {es:List (List T)} {f l i j:Nat} (hi:i<l):tAt ((es.drop f).take l) i j=tAt es (f+i) j:=by
 simp [tAt,List.getD_eq_getElem?_getD,hi,List.getElem?_drop]
theorem b3s (h:Heap E β L m env w) {e:Nat} {x:A} {vx:Value} (hx:RV E env w (a0b β L m env w) x vx) {es:List (List T)} {m':Mem} {p p':FP}
  (hp:(b8r e x).ev m p=some (es,m',p')):m=m'∧f1n E w (a0b β L m env w) e es vx:=by
 unfold b8r at hp;split at hp
 ·cases hp;have hx:vx=.slice none 0 0:=hx;exact ⟨rfl,.inl ⟨hx,rfl⟩⟩
 ·rename_i e' es';obtain ⟨hk,hq⟩:=M.g5z hp;cases hq;cases Nat.eq_of_beq_eq_true hk;have hx:RC E w (a0b β L m env w) (.row e) (.r es) vx:=hx;cases hx with
  | nl=>exact ⟨rfl,.inl ⟨rfl,rfl⟩⟩
  | emp=>exact ⟨rfl,.inr ⟨_,_,fun _ _=>undef,rfl,fun i j hi=>by simp at hi,fun i j hi=>by simp at hi⟩⟩
  | row vs hcap hS hv hr=>exact ⟨rfl,.inr ⟨_,_,vs,rfl,fun i j hi hj=>by rw [a8p];exact hv i j hi hj,hr⟩⟩
 ·rename_i n e₁ f l;obtain ⟨⟨e',d,es'⟩,m1,p1,h1,hq⟩:=M.bind_some hp;obtain ⟨hn,rfl⟩:=M.g5v h1;obtain ⟨hk,hq1⟩:=M.g5z hq;obtain ⟨hk1,hk2⟩:=a0a hk;cases hq1;cases Nat.eq_of_beq_eq_true hk1;cases Nat.eq_of_beq_eq_true hk2;refine ⟨rfl,?_⟩;obtain ⟨ga,len,cap,he,hfl,hrest⟩:=hx;obtain ⟨v',hv',hrest'⟩:=h.rowOf hn;rw [he] at hv';cases hv';rcases hrest with ⟨rfl,rfl,hga⟩ | ⟨g,o,c',rfl,hlc,hpos⟩
  ·exact .inl ⟨rfl,by simp⟩
  ·by_cases hl:0<l
   ·obtain ⟨rfl,rfl,hcc⟩:=hpos (by omega);rcases hrest' with ⟨h2,_⟩ | ⟨g',cap',h2,hcap,hg,vs,hc,hr⟩
    ·cases h2
    ·cases h2;have hlen:((es'.drop f).take l).length=l:=by simp;omega
     refine .inr ⟨⟨g,f*E.sz e,none⟩,c',fun i j=>vs (f+i) j,by rw [hlen],fun i j hi hj=>?_,fun i j hi hj=>?_⟩
     ·rw [hlen] at hi;rw [a8p,← hc (f+i) j (by omega) hj,Nat.add_mul,Nat.add_assoc]
     ·rw [hlen] at hi;rw [f1o hi];exact hr (f+i) j (by omega) hj
   ·have:l=0:=by omega
    subst this;exact .inr ⟨⟨g,o,none⟩,c',fun _ _=>undef,by simp,fun i j hi=>by simp at hi,fun i j hi=>by simp at hi⟩
 ·rename_i n;obtain ⟨⟨e',d,es'⟩,m1,p1,h1,hq⟩:=M.bind_some hp;obtain ⟨hn,rfl⟩:=M.g5v h1;obtain ⟨hk,hq1⟩:=M.g5z hq;cases hq1;cases Nat.eq_of_beq_eq_true hk;refine ⟨rfl,?_⟩;obtain ⟨v',hv',hrest⟩:=h.rowOf hn;have hxx:vx=v':=by have:=hx.1.symm.trans hv';cases this;rfl
  subst hxx;rcases hrest with ⟨rfl,rfl⟩ | ⟨g,cap,rfl,hcap,hg,vs,hc,hr⟩
  ·exact .inl ⟨rfl,rfl⟩
  ·exact .inr ⟨⟨g,0,none⟩,cap,vs,rfl,fun i j hi hj=>by rw [a8p];simpa using hc i j hi hj,hr⟩
 ·cases hp
theorem b4l {sz i j:Nat} (hj:j<sz):(i*sz+j) / sz=i∧(i*sz+j) % sz=j:=by
 have hp:0<sz:=by omega
 constructor
 ·rw [Nat.mul_comm,Nat.mul_add_div hp,Nat.div_eq_of_lt hj,Nat.add_zero]
 ·rw [Nat.mul_comm,Nat.mul_add_mod,Nat.mod_eq_of_lt hj]
theorem d1q (hT:a1e P E=true) {t ty e:Nat} (he:b5u E t e=true) {v vy:Value} {es es':List (List T)} {xs:List Value} (ho:w.ownsRow 0 e (E.sz e) v es.length xs) (hr:a9c E w S e es xs)
  (hy:f1n E w S e es' vy) (hroom:(es.length+es'.length)*(E.ti e).bytes≤140737488355328) :
  ∃ v' w' ys,(Builtin.append_ #[t,t] ty #[v,vy]).run P w=.ok v' w'∧w'.ownsRow 0 e (E.sz e) v' (es++es').length ys∧w.grownBy w' v.ownBlock∧a9c E w S e (es++es') ys∧
   (v'.ownBlock=v.ownBlock∨v'.ownBlock=some w.heap.size):=by
 obtain ⟨hu,hk,hby,_,_⟩:=a4x hT he;obtain ⟨i,z,hi,hsz,hbytes,hz,hzc,_⟩:=a4w hT hk;have hpos:=a2n hk;rcases hy with ⟨rfl,rfl⟩ | ⟨ad,cap,vs,rfl,hc,hrc⟩
 ·refine ⟨v,w,xs,run_append_owned_none w 0 t ty e i (E.sz e) hu hi v _ xs ho,by simpa using ho,⟨rfl,rfl,rfl,Nat.le_refl _,fun _ _ _=>rfl⟩,by simpa using hr,.inl rfl⟩
 ·have hmul:es.length+es'.length≤(es.length+es'.length)*(E.ti e).bytes:=Nat.le_mul_of_pos_right _ (by omega);have hnl:((List.range (es'.length*E.sz e)).map fun x=>vs (x / E.sz e) (x % E.sz e)).length=es'.length*E.sz e:=by simp
  have hin:∀ {j u},((List.range (es'.length*E.sz e)).map fun x=>vs (x / E.sz e) (x % E.sz e))[j]?=some u→j / E.sz e<es'.length∧j % E.sz e<E.sz e∧u=vs (j / E.sz e) (j % E.sz e):=by
   intro j u hju;simp only [List.getElem?_map,Option.map_eq_some_iff] at hju;obtain ⟨x,hx,rfl⟩:=hju;obtain ⟨hlt,rfl⟩:=List.getElem?_eq_some_iff.1 hx;simp only [List.getElem_range,List.length_range] at hlt ⊢;exact ⟨Nat.div_lt_of_lt_mul (by rw [Nat.mul_comm];exact hlt),Nat.mod_lt _ (by omega),trivial⟩
  obtain ⟨v',w',hrun,hown',hgrow,_,hblk⟩:=run_append_own_at (P:=P) w 0 t ty e i z (E.sz e) (E.ti e).bytes hu hi hz hsz hbytes (by have:=congrArg List.length hzc;simpa [Env.sz] using this) hpos v es.length xs ho
   ad es'.length cap _ hnl (fun j u hju=>by
    obtain ⟨h1,h2,rfl⟩:=hin hju;rw [← hc _ _ h1 h2,Nat.div_add_mod' j (E.sz e)]) (fun u hu=>by
    obtain ⟨j,hj⟩:=List.getElem?_of_mem hu;obtain ⟨h1,h2,rfl⟩:=hin hj;exact (hrc _ _ h1 h2).one) (by simp only [maxLen];omega) hroom (Nat.zero_le _)
  refine ⟨v',w',_,hrun,by rw [List.length_append];exact hown',hgrow,fun i' j hi' hj=>?_,hblk⟩;have hxl:xs.length=es.length*E.sz e:=ho.1;rw [List.length_append] at hi';by_cases hlt:i'<es.length
  ·obtain ⟨u,hu',hcu⟩:=hr i' j hlt hj;have hk2:i'*E.sz e+j<xs.length:=by
    have:=Nat.mul_le_mul_right (E.sz e) (show i'+1≤es.length from hlt);rw [Nat.add_mul] at this;omega
   refine ⟨u,by rw [List.getElem?_append_left hk2];exact hu',?_⟩;have:tAt (es++es') i' j=tAt es i' j:=by simp [tAt,List.getD_eq_getElem?_getD,List.getElem?_append_left hlt]
   rw [this];exact hcu
  ·obtain ⟨q,rfl⟩:∃ q,i'=es.length+q:=⟨i' - es.length,by omega⟩;have hq:q<es'.length:=by omega
   have hqm:=Nat.mul_le_mul_right (E.sz e) (show q+1≤es'.length from hq);refine ⟨vs q j,?_,?_⟩
   ·rw [Nat.add_mul,Nat.add_assoc,← hxl,List.getElem?_append_right (by omega),Nat.add_sub_cancel_left];rw [List.getElem?_map,List.getElem?_range (by rw [Nat.add_mul] at hqm;omega)];simp only [Option.map_some,(b4l hj).1,(b4l hj).2]
   ·have:tAt (es++es') (es.length+q) j=tAt es' q j:=by simp [tAt,List.getD_eq_getElem?_getD,List.getElem?_append_right]
    rw [this];exact hrc q j hq hj
theorem Heap.ownNew (h:Heap E β L m env w) {n:Nm} (hn:m n=none) {e:Nat} {es:List (List T)} {v:Value} {xs:List Value} {row:Option Nat} (hg:w.grownBy w' row) (hL:∀ b,row=some b→b∈L)
  (ho:w'.ownsRow 0 e (E.sz e) v es.length xs) (hr:a9c E w (a0b β L m env w) e es xs) (hb:∀ b,v.ownBlock=some b→b∈L∨w.heap.size≤b) :
  Heap E β [] (m.put n (.row e true es)) (env.put n v) w'∧env.le (env.put n v)∧Still w w' (a0b β L m env w) (a0b β [] (m.put n (.row e true es)) (env.put n v) w'):=by
 have hown:∀ b,owns (m.put n (.row e true es)) (env.put n v) n b↔v.ownBlock=some b:=fun b=>by simp [owns,put_self,Names.put_self]
 refine h.one (w':=w') n _ v (.inl (h.dom n hn)) (fun hst=>⟨v,xs,Names.put_self _ _ _,ho,fun i j hi hj=>?_⟩) (fun b hb=>by simp at hb) (fun b hb=>by simp at hb) List.nodup_nil
  (fun b hb'=>?_) (fun b hb' _ hbL=>hg.block b hb' (fun e=>hbL (hL b e.symm))) hg.os hg.tape hg.output hg.size
 ·obtain ⟨u,hu,hc⟩:=hr i j hi hj;exact ⟨u,hu,hc.mono hst⟩
 ·rw [hown] at hb';refine ⟨(ho.lt b hb').2,?_⟩;rcases hb b hb' with h1 | h1
  ·exact .inr (.inr h1)
  ·exact .inr (.inl h1)
theorem d1r (hT:a1e P E=true) (h:Heap E β [] m env w) {t ty dst:Nat} {x y:A} {vx vy:Value} (hx:RV E env w (a0b β [] m env w) x vx) (hy:RV E env w (a0b β [] m env w) y vy) {a:A} {m':Mem} {p p':FP}
  (hp:(b8t E dst t x y).ev m p=some (a,m',p')):Gives P E β m env w (Builtin.append_ #[t,t] ty #[vx,vy]) a m':=by
 unfold b8t at hp;obtain ⟨he,hp1⟩:=M.g5z hp;clear hp;generalize E.elem t=e at he hp1;split at hp1
 ·have hx:vx=.slice none 0 0:=hx;subst hx;obtain ⟨es',m1,p1,h1,hq⟩:=M.bind_some hp1;obtain ⟨rfl,hel⟩:=b3s h hy h1;obtain ⟨hc,hq1⟩:=M.g5y hq;obtain ⟨_,m2,p2,h2,hq2⟩:=M.bind_some hq1;obtain ⟨hn,rfl⟩:=M.g5x h2;cases hq2;obtain ⟨v',w',ys,hrun,ho,hg,hr,hb⟩:=d1q (P:=P) (ty:=ty) hT he (World.ownsRow_nil w 0 e (E.sz e)) (es:=[]) (fun i j hi=>by simp at hi) hel (by simpa using of_decide_eq_true hc);obtain ⟨k1,k2,k3⟩:=h.ownNew hn hg (fun b hb=>by simp [Value.ownBlock] at hb) ho hr (fun b hb'=>by
   rcases hb with h5 | h5
   ·rw [h5] at hb';simp [Value.ownBlock] at hb'
   ·rw [h5] at hb';cases hb';exact .inr (Nat.le_refl _))
  refine ⟨v',w',_,hrun,⟨Names.put_self _ _ _,?_⟩,k1,k2,k3⟩;rcases ho.2 with ⟨rfl,_⟩ | ⟨g,cap,cur,rfl,_⟩ <;> exact ⟨_,_,_,rfl⟩
 ·rename_i n;obtain ⟨⟨e',d,es⟩,m0,p0,h0,hq0⟩:=M.bind_some hp1;obtain ⟨hn0,rfl⟩:=M.g5v h0;obtain ⟨es',m1,p1,h1,hq⟩:=M.bind_some hq0;obtain ⟨rfl,hel⟩:=b3s h hy h1;obtain ⟨hk,hq1⟩:=M.g5z hq;obtain ⟨hk1,hk2⟩:=a0a hk;have hk2:d=true:=hk2;subst hk2;cases Nat.eq_of_beq_eq_true hk1;obtain ⟨hc,hq2⟩:=M.g5y hq1;obtain ⟨p3,hq3⟩:=M.g6l hq2;obtain ⟨_,m2,p2,h2,hq4⟩:=M.bind_some hq3;obtain ⟨hn,rfl⟩:=M.g5x h2;cases hq4;obtain ⟨bs,g1,g2,g3⟩:=a7p (own:=true) (ty:=.row e) h (show RV1 E env w (a0b β [] m env w) (.ref n) vx from hx) (t:=.r es) (m':=m.put n .dead) (p:=p) (p':=⟨n :: n :: p.rd,n :: p.wr⟩) (by
   simp [b9h,M.lowD,M.row,M.bind,M.ev,hn0])
  obtain ⟨⟨es2,xs,he2,ho,hr⟩,rfl⟩:=g3;cases he2;rw [List.nil_append] at g1 g2 hr;have hel':f1n E w (a0b β vx.ownBlock.toList (m.put n .dead) env w) e es' vy:=by
   rcases hel with h5 | ⟨ad,cap,vs,h5,h6,h7⟩
   ·exact .inl h5
   ·exact .inr ⟨ad,cap,vs,h5,h6,fun i j hi hj=>(h7 i j hi hj).mono g2.still⟩
  obtain ⟨v',w',ys,hrun,ho',hg,hr',hb⟩:=d1q (P:=P) (ty:=ty) hT he ho hr hel' (of_decide_eq_true hc);obtain ⟨k1,k2,k3⟩:=g1.ownNew hn hg (fun b hb=>by rw [hb];simp) ho' hr' (fun b hb'=>by
   rcases hb with h5 | h5
   ·rw [h5] at hb';exact .inl (by rw [hb'];simp)
   ·rw [h5] at hb';cases hb';exact .inr (Nat.le_refl _))
  refine ⟨v',w',_,hrun,⟨Names.put_self _ _ _,?_⟩,k1,k2,g2.still.trans k3⟩;rcases ho'.2 with ⟨rfl,_⟩ | ⟨g,cap,cur,rfl,_⟩ <;> exact ⟨_,_,_,rfl⟩
 ·cases hp1
theorem e7l {ty:Ty} (h:ty.notPtr=true):RC E w S ty (e4i ty) (b8w ty):=by
 cases ty with
 | int=>exact .int
 | bool=>exact .bool
 | str=>exact .str
 | row=>exact .nl
 | ptr=>cases h
 | deep=>cases h
theorem e2k (hT:a1e P E=true) (h:Heap E β [] m env w) {t dst:Nat} {x y:A} {vx vy:Value} (hx:RV E env w (a0b β [] m env w) x vx) (hy:RV E env w (a0b β [] m env w) y vy) {a:A} {m':Mem} {p p':FP}
  (hp:(f1a E dst t x y).ev m p=some (a,m',p')):Gives P E β m env w (Instr.makeSlice t vx vy) a m':=by
 unfold f1a at hp;split at hp
 ·rename_i n c;obtain ⟨he,hp1⟩:=M.g5z hp;clear hp;generalize E.elem t=e at he hp1;obtain ⟨hc,hq⟩:=M.g5y hp1;obtain ⟨_,m1,p1,h1,hq1⟩:=M.bind_some hq;obtain ⟨hn,rfl⟩:=M.g5x h1;cases hq1;obtain ⟨hc1,hc2⟩:=a0a hc;obtain ⟨hc3,hc4⟩:=a0a hc1;cases of_decide_eq_true hc3;have hc4:=of_decide_eq_true hc4;have hc2:=of_decide_eq_true hc2;obtain ⟨k,rfl⟩:∃ k:Nat,n=(k:Int):=⟨n.toNat,(Int.toNat_of_nonneg hc4).symm⟩;have hx:vx=.int .i64 (k:Int):=hx;have hy:vy=.int .i64 (k:Int):=hy;subst hx;subst hy;obtain ⟨hu,hk,hby,hnp,_⟩:=a4x hT he;obtain ⟨i,z,hi,hsz,hbytes,hz,hzc,_⟩:=a4w hT hk;have hpos:=a2n hk;have hc2':k*(E.ti e).bytes≤140737488355328:=by
   have h9:((k*(E.ti e).bytes:Nat):Int)≤140737488355328:=by rw [Int.natCast_mul];exact hc2
   omega
  have hmul:k≤k*(E.ti e).bytes:=Nat.le_mul_of_pos_right _ (by omega);have hcomm:i.bytes*k=k*(E.ti e).bytes:=by rw [hbytes,Nat.mul_comm]
  obtain ⟨w',hrun,ho,hg⟩:=run_make_full (P:=P) w 0 t e i z (E.sz e) hu hi hz hsz .i64 .i64 k (by omega) (by simp only [maxLen];omega) (Nat.zero_le _);have hzl:z.cells.size=E.sz e:=by have:=congrArg List.length hzc;simpa [Env.sz] using this
  have hlen:(List.replicate (k:Int).toNat (b0c E e)).length=k:=by simp
  obtain ⟨k1,k2,k3⟩:=h.ownNew (es:=List.replicate (k:Int).toNat (b0c E e)) hn hg (fun b hb=>by cases hb) (by rw [hlen];exact ho) (fun i' j hi' hj=>by
   rw [hlen] at hi';have hlt:i'*E.sz e+j<k*E.sz e:=by
    have:=Nat.mul_le_mul_right (E.sz e) (show i'+1≤k from hi');rw [Nat.add_mul] at this;omega
   have hj':j<(E.flat e).length:=hj;refine ⟨b8w (a4e E e j),?_,?_⟩
   ·have hcell:z.cells[j]?=some (b8w (a4e E e j)):=by
     rw [← Array.getElem?_toList,hzc,List.getElem?_map,List.getElem?_eq_getElem hj'];simp [a4e,List.getD_eq_getElem?_getD,List.getElem?_eq_getElem hj']
    have hjz:j<z.cells.size:=by rw [hzl];exact hj
    simp only [madeCells,Array.getElem?_toList,Array.getElem?_map,Array.getElem?_range,hlt,if_true,Option.map_some];rw [hzl,(b4l hj).2];rw [Array.getElem?_eq_getElem hjz] at hcell;have hcell:=Option.some.inj hcell;simp [hjz,hcell]
   ·have hat:tAt (List.replicate (k:Int).toNat (b0c E e)) i' j=e4i (a4e E e j):=by
     simp [tAt,b0c,a4e,List.getD_eq_getElem?_getD,hi',List.getElem?_eq_getElem hj']
    rw [hat];refine e7l ?_;simp only [a4e,List.getD_eq_getElem?_getD,List.getElem?_eq_getElem hj',Option.getD_some];exact List.all_eq_true.1 hnp _ (List.getElem_mem hj')) (fun b hb=>by
   simp [Value.ownBlock] at hb;subst hb;exact .inr (Nat.le_refl _))
  exact ⟨_,w',_,hrun,⟨Names.put_self _ _ _,_,_,_,rfl⟩,k1,k2,k3⟩
 ·cases hp
end
end Go.Proofs.Ytdbopobkdpmpgaa.Ev
