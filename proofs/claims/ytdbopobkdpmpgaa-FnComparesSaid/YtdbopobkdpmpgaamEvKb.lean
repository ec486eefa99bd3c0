/- Elements are taken out of a row. No condition. -/
import Derived.Test.YtdbopobkdpmpgaamEvKa
import Derived.Laws.IdiomCopy
namespace Go.Proofs.Ytdbopobkdpmpgaa.Ev
open Go
set_option linter.unusedVariables false
section
variable {P:Program} {E:Env} {β:Base} {L:List Nat} {m:Mem} {env:Names} {w w':World} {S:Nat→Prop}
def RawDel (P:Program) (E:Env) (f e:Nat):Prop:=
 ∀ (w:World) (g cap l a b:Nat) (xs:List Value),w.ownsRow 0 e (E.sz e) (.slice (some ⟨g,0,none⟩) l cap) l xs→a<b→b≤l→(∀ u,u∈xs.drop (b*E.sz e)→u.oneCell'=true)→
  Calls P f #[.slice (some ⟨g,0,none⟩) l cap,.int .i64 a,.int .i64 b] w fun r w'=>r=.returned (.slice (some ⟨g,0,none⟩) (l - (b - a)) cap)∧
   w'.ownsRow 0 e (E.sz e) (.slice (some ⟨g,0,none⟩) (l - (b - a)) cap) (l - (b - a)) (xs.take (a*E.sz e)++xs.drop (b*E.sz e))∧w.grownBy w' (some g)
def RawIns (P:Program) (E:Env) (f e:Nat):Prop:=
 ∀ (w:World) (v:Value) (gy cy n m i:Nat) (xs ys:List Value),w.ownsRow 0 e (E.sz e) v n xs→w.ownsRow 0 e (E.sz e) (.slice (some ⟨gy,0,none⟩) m cy) m ys→v.ownBlock≠some gy→i≤n→0<m→(n+m)*(E.ti e).bytes≤140737488355328→
  (∀ u,u∈xs→u.oneCell'=true)→(∀ u,u∈ys→u.oneCell'=true)→
  Calls P f #[v,.int .i64 i,.slice (some ⟨gy,0,none⟩) m cy] w fun r w'=>∃ v',r=.returned v'∧w'.ownsRow 0 e (E.sz e) v' (n+m) (xs.take (i*E.sz e)++ys++xs.drop (i*E.sz e))∧w.grownBy w' v.ownBlock∧(v'.ownBlock=v.ownBlock∨v'.ownBlock=some w.heap.size)
def c7c (P:Program) (E:Env) (f e:Nat):Prop:=(Nat.blt e 1000000=true→RawDel P E f e)∧(Nat.blt e 1000000=false→RawIns P E f (e - 1000000))
theorem RawDel.take {P:Program} {E:Env} {f e:Nat} (he:Nat.blt e 1000000=true) (h:RawDel P E f e):c7c P E f e:=⟨fun _=>h,fun h'=>by rw [he] at h';cases h'⟩
theorem RawIns.take {P:Program} {E:Env} {f e:Nat} (h:RawIns P E f e):c7c P E f (e+1000000):=⟨fun h'=>by
 have:=Nat.le_of_ble_eq_true (show Nat.ble (e+1000000+1) 1000000=true from h');omega,fun _=>by rw [Nat.add_sub_cancel];exact h⟩
def f7u (P:Program) (E:Env):Prop:=∀ f e,d6y E.del f=some e→c7c P E f e
theorem c7d {Q:Nat→Nat→Prop}:∀ {l:List (Nat×Nat)},(∀ p,p∈l→Q p.1 p.2)→∀ f e,d6y l f=some e→Q f e
 | [],_,f,e,h=>by cases h
 | (g,e') :: r,hq,f,e,h=>by
  unfold d6y at h;cases hb:Nat.beq f g with
  | true=>rw [hb] at h;cases h;rw [Nat.eq_of_beq_eq_true hb];exact hq (g,_) List.mem_cons_self
  | false=>rw [hb] at h;exact c7d (fun p hp=>hq p (List.mem_cons_of_mem _ hp)) f e h
def up (a b i:Nat):Nat:=if i<a then i else i+(b - a)
theorem c7e {α:Type} (es:List α) {a b:Nat} (hab:a<b) (hb:b≤es.length):(es.take a++es.drop b).length=es.length - (b - a):=by
 simp;omega
theorem f4d {α:Type} (es:List α) {a b:Nat} (hab:a<b) (hb:b≤es.length) (i:Nat):(es.take a++es.drop b)[i]?=es[up a b i]?:=by
 have hl:(es.take a).length=a:=by simp;omega
 unfold up;by_cases h:i<a
 ·rw [if_pos h,List.getElem?_append_left (by omega),List.getElem?_take,if_pos h]
 ·rw [if_neg h,List.getElem?_append_right (by omega),List.getElem?_drop,hl];congr 1;omega
theorem f5s {a b i l:Nat} (hab:a<b) (hb:b≤l) (hi:i<l - (b - a)):up a b i<l∧(up a b i<a∨b≤up a b i):=by
 unfold up;split <;> omega
theorem e7x {a b i j sz:Nat} (hab:a<b) (hj:j<sz):up (a*sz) (b*sz) (i*sz+j)=up a b i*sz+j:=by
 unfold up;by_cases h:i<a
 ·have:=a1w (l:=a) h hj;rw [if_pos h,if_pos this]
 ·have h1:a*sz≤i*sz:=Nat.mul_le_mul_right _ (by omega);rw [if_neg h,if_neg (by omega),Nat.add_mul,Nat.sub_mul];omega
theorem e7y {es:List (List T)} {a b i j:Nat} (hab:a<b) (hb:b≤es.length):tAt (es.take a++es.drop b) i j=tAt es (up a b i) j:=by
 have:(es.take a++es.drop b).getD i []=es.getD (up a b i) []:=by rw [List.getD_eq_getElem?_getD,f4d es hab hb,← List.getD_eq_getElem?_getD]
 unfold tAt;rw [this]
theorem d7p {xs:List Value} {a b i j l sz:Nat} (hab:a<b) (hb:b≤l) (hx:xs.length=l*sz) (hj:j<sz):(xs.take (a*sz)++xs.drop (b*sz))[i*sz+j]?=xs[up a b i*sz+j]?:=by
 have hsz:0<sz:=by omega
 rw [f4d xs (Nat.mul_lt_mul_of_pos_right hab hsz) (by rw [hx];exact Nat.mul_le_mul_right _ hb),e7x hab hj]
theorem d4b {l:Nat} {a b:Int} (h:a9u l a b=true):∃ a' b':Nat,a=a'∧b=b'∧a'<b'∧b'≤l:=by
 unfold a9u at h;obtain ⟨h1,h2⟩:=a0a h;obtain ⟨h3,h4⟩:=a0a h1;have h2:=of_decide_eq_true h2;have h3:=of_decide_eq_true h3;have h4:=of_decide_eq_true h4;exact ⟨a.toNat,b.toNat,by omega,by omega,by omega,by omega⟩
theorem Heap.delD (h:Heap E β [] m env w) {n d:Nm} {e:Nat} {es:List (List T)} {hh:Option (Nat×Nat×Nm)} (hn:m n=some (.deep e es hh)) {g cap:Nat} (hv:env n=some (.slice (some ⟨g,0,none⟩) es.length cap))
  {xs:List Value} {fps:Nat→List Nat} (ho:w.ownsRow 0 e (E.sz e) (.slice (some ⟨g,0,none⟩) es.length cap) es.length xs) {a b:Nat} (hab:a<b) (hb:b≤es.length)
  (hc:∀ i j,i<es.length→j<E.sz e→(i<a∨b≤i)→DC E w (a4e E e j) (tAt es i j) (xs[i*E.sz e+j]?.getD undef) (fps (i*E.sz e+j)))
  (hF:Foot (some g) (es.length*E.sz e) fps (env.fp n)) (hd:(m.put n .dead) d=none)
  (ho':w'.ownsRow 0 e (E.sz e) (.slice (some ⟨g,0,none⟩) (es.length - (b - a)) cap) (es.length - (b - a)) (xs.take (a*E.sz e)++xs.drop (b*E.sz e))) (hg:w.grownBy w' (some g)) :
  ∃ env',env' d=some (.slice (some ⟨g,0,none⟩) (es.length - (b - a)) cap)∧Heap E β [] ((m.put n .dead).put d (.deep e (es.take a++es.drop b) none)) env' w'∧env.le env'∧
   Still w w' (a0b β [] m env w) (a0b β [] ((m.put n .dead).put d (.deep e (es.take a++es.drop b) none)) env' w'):=by
 have hownF:∀ b,owns m env n b↔b∈env.fp n:=fun b=>by simp [owns,hn]
 have hsame:=Names.g6h hv;have hnone:∀ b,¬ owns (m.put n .dead) (env.put n (.slice (some ⟨g,0,none⟩) es.length cap)) n b:=fun b=>by simp [owns,put_self]
 have key:=h.one (w':=w) (L':=env.fp n) n .dead _ (.inr hv) (fun _=>⟨_,Names.put_self _ _ _⟩)
  (fun b hb=>.inr ((hownF b).2 hb)) (fun b _=>hnone b) hF.nd (fun b hb=>(hnone _ hb).elim) (fun _ _ _ _=>rfl) rfl rfl rfl (Nat.le_refl _)
 rw [hsame] at key;obtain ⟨h1,_,hst1⟩:=key;have hxl:xs.length=es.length*E.sz e:=ho.1
 let fps':Nat→List Nat:=fun q=>fps (up (a*E.sz e) (b*E.sz e) q)
 have hcell:∀ i j,i<es.length - (b - a)→j<E.sz e→DC E w (a4e E e j) (tAt (es.take a++es.drop b) i j) ((xs.take (a*E.sz e)++xs.drop (b*E.sz e))[i*E.sz e+j]?.getD undef) (fps' (i*E.sz e+j)):=fun i j hi hj=>by
  obtain ⟨u1,u2⟩:=f5s hab hb hi;rw [e7y hab hb,d7p hab hb hxl hj];simp only [fps',e7x hab hj];exact hc _ j u1 hj u2
 have hin:∀ q,q<(es.length - (b - a))*E.sz e→up (a*E.sz e) (b*E.sz e) q<es.length*E.sz e:=fun q hq=>by
  obtain ⟨a1,a2,a3⟩:=a6t hq;rw [← a3,e7x hab a2];exact a1w (f5s hab hb a1).1 a2
 have hinj:∀ q r,up (a*E.sz e) (b*E.sz e) q=up (a*E.sz e) (b*E.sz e) r→q=r:=fun q r he=>by
  have:a*E.sz e≤b*E.sz e:=Nat.mul_le_mul_right _ (by omega);unfold up at he;split at he <;> split at he <;> omega
 obtain ⟨F,hF'⟩:=Foot.ex (some g) ((es.length - (b - a))*E.sz e) fps' (fun q hq=>by
   obtain ⟨a1,a2,a3⟩:=a6t hq;have:=hcell _ _ a1 a2;rw [a3] at this;exact this.nodup) (fun q b hq hbq=>hF.d1 _ b (hin q hq) hbq) (fun q r b hq hr h5 h6=>hinj q r (hF.d2 _ _ b (hin q hq) (hin r hr) h5 h6))
 have hFF:∀ b,b∈F→b∈env.fp n:=fun b hb=>by
  rcases (hF'.mem b).1 hb with h5 | ⟨q,hq,h5⟩
  ·exact (hF.mem b).2 (.inl h5)
  ·exact (hF.mem b).2 (.inr ⟨_,hin q hq,h5⟩)
 have hold:∀ b,b∈env.fp n→b<w.heap.size:=fun b hb=>(h.inb _ _ ((hownF b).2 hb)).1;have hown:∀ x,owns ((m.put n .dead).put d (.deep e (es.take a++es.drop b) none)) (env.putD d (.slice (some ⟨g,0,none⟩) (es.length - (b - a)) cap) F) d x↔x∈F:=fun x=>by simp [owns,put_self,Names.g6c]
 have hkeep:∀ b,b<w.heap.size→b≠g→w'.heap[b]?=w.heap[b]?:=fun b hb hne=>hg.block b hb (fun e=>hne (Option.some.inj e));have hgF:g∈env.fp n:=(hF.mem g).2 (.inl rfl);obtain ⟨q1,q2,q3⟩:=h1.oneD (w':=w') (L':=[]) d (.deep e (es.take a++es.drop b) none) (.slice (some ⟨g,0,none⟩) (es.length - (b - a)) cap) F (.inl (h1.dom _ hd)) (fun _=>by
   refine ⟨_,_,fps',Names.g6a _ _ _ _,by rw [c7e es hab hb];exact ho',fun i j hi hj _ _=>?_,⟨fun _ _ _ h=>(by cases h),HoleE.none⟩,by rw [Names.g6c,c7e es hab hb];exact hF'⟩;rw [c7e es hab hb] at hi;refine (hcell i j hi hj).mono fun x hx=>?_;have hq:=a1w hi hj;refine hkeep x (hold x ((hF.mem x).2 (.inr ⟨_,hin _ hq,hx⟩))) fun hxg=>?_;subst hxg;exact hF.d1 _ _ (hin _ hq) hx rfl)
  (fun b hb=>by simp at hb) (fun b hb=>by simp at hb) List.nodup_nil
  (fun b hb=>⟨Nat.lt_of_lt_of_le (hold b (hFF b ((hown b).1 hb))) hg.size,.inr (.inr (hFF b ((hown b).1 hb)))⟩)
  (fun b hb _ hbL=>hkeep b hb (fun hbg=>hbL (by rw [hbg];exact hgF))) hg.os hg.tape hg.output hg.size
 exact ⟨_,Names.g6a _ _ _ _,q1,q2,hst1.trans q3⟩
theorem c7f {k:Nat}:∀ {as:List A} {j0 j:Nat} {nm:Nm},c3j k j0 as=some (j,nm)→j0≤j∧as[j - j0]?=some (.ref nm)∧∀ (q:Nat) (a:A),as[q]?=some a→j0+q≠j→d3d a=true
 | [],j0,j,nm,h=>by cases h
 | a :: as,j0,j,nm,h=>by
  have other:d3d a=true→c3j k (j0+1) as=some (j,nm)→j0≤j∧(a :: as)[j - j0]?=some (.ref nm)∧∀ (q:Nat) (a':A),(a :: as)[q]?=some a'→j0+q≠j→d3d a'=true:=fun hno hl=>by
   obtain ⟨h1,h2,h3⟩:=c7f hl;refine ⟨by omega,?_,fun q a' hq hne=>?_⟩
   ·rw [show j - j0=(j - (j0+1))+1 by omega,List.getElem?_cons_succ];exact h2
   ·cases q with
    | zero=>cases hq;exact hno
    | succ q=>exact h3 q a' (by simpa using hq) (by omega)
  have c1v:(∀ n,a≠.ref n)→c3j k j0 (a :: as)=bif d3d a then c3j k (j0+1) as else none:=fun hne=>by
   cases a <;> first | rfl | exact (hne _ rfl).elim
  by_cases hr:∃ n,a=.ref n
  ·obtain ⟨n,rfl⟩:=hr;unfold c3j at h;cases hb:(Nat.blt n.1 k&&as.all d3d) with
   | false=>rw [hb] at h;cases h
   | true=>
    rw [hb] at h;cases h;obtain ⟨_,hall⟩:=a0a hb;refine ⟨Nat.le_refl _,by rw [Nat.sub_self];rfl,fun q a' hq hne=>?_⟩;cases q with
    | zero=>exact (hne rfl).elim
    | succ q=>exact List.all_eq_true.1 hall a' (List.mem_of_getElem? (by simpa using hq))
  ·have hne:∀ n,a≠.ref n:=fun n hx=>hr ⟨n,hx⟩;rw [c1v hne] at h;cases hno:d3d a with
   | false=>rw [hno] at h;cases h
   | true=>rw [hno] at h;exact other hno h
theorem d7q (h:Heap E β L m env w):∀ {tys:List Ty} {as:List A} {vs:List Value} {ts:List T} {m':Mem} {p p':FP},RVs E env w (a0b β L m env w) as vs→(b9i E [] tys as).ev m p=some (ts,m',p')→
  m=m'∧ts.length=tys.length∧∀ q,q<tys.length→∃ a v,as[q]?=some a∧vs[q]?=some v∧RV1 E env w (a0b β L m env w) a v∧(d3d a=true→DC E w (tys.getD q .bool) (ts.getD q (.i 0)) v [])∧v.oneCell'=true
 | [],[],[],ts,m',p,p',_,hp=>by unfold b9i at hp;cases hp;exact ⟨rfl,rfl,fun q hq=>by simp at hq⟩
 | [],[],_ :: _,_,_,_,_,hv,_=>hv.elim
 | [],_ :: _,_,_,_,_,_,_,hp=>by unfold b9i at hp;cases hp
 | _ :: _,[],_,_,_,_,_,_,hp=>by unfold b9i at hp;cases hp
 | _ :: _,_ :: _,[],_,_,_,_,hv,_=>hv.elim
 | ty :: tys,a :: as,v :: vs,ts,m',p,p',hv,hp=>by
  unfold b9i at hp;obtain ⟨t,m1,p1,h1,hq⟩:=M.bind_some hp;have h1:(e2b E ty a).ev m p=some (t,m1,p1):=h1;obtain ⟨ts',m2,p2,h2,hq2⟩:=M.bind_some hq;cases hq2;obtain ⟨rfl,hrc⟩:=e7c h hv.1 h1;obtain ⟨rfl,hl,hrest⟩:=d7q h hv.2 h2;have hR:=hrc (fun _=>True) (fun _ _=>trivial) (fun _ _ _ _=>trivial);refine ⟨rfl,by simp [hl],fun q hq=>?_⟩;cases q with
  | succ q=>obtain ⟨a',v',k1,k2,k3⟩:=hrest q (by simpa using hq);exact ⟨a',v',k1,k2,by simpa using k3⟩
  | zero=>
   refine ⟨a,v,rfl,rfl,hv.1,fun hno=>?_,by cases hR <;> rfl⟩;simp only [List.getD_cons_zero];cases a with
   | nil e'=>
    have hvv:v=.slice none 0 0:=hv.1;subst hvv;cases ty with
    | row e=>
     have h1:(M.ret (T.r []):M T).ev m p=_:=h1;cases h1;exact .row (xs:=[]) (fun _=>[]) (World.ownsRow_nil w 0 _ _) (fun i j hi=>by simp at hi) ⟨fun b=>by simp [Value.ownBlock],List.nodup_nil,fun p b hp=>by simp at hp,fun p q b hp=>by simp at hp⟩
    | _=>unfold e2b at h1;cases h1
   | i k n=>cases hR with
    | int=>exact .int
    | bool=>exact .bool
    | str=>exact .str
    | nl=>unfold e2b at h1;cases h1
    | emp=>unfold e2b at h1;cases h1
    | row=>unfold e2b at h1;cases h1
   | b x=>cases hR with
    | int=>exact .int
    | bool=>exact .bool
    | str=>exact .str
    | nl=>unfold e2b at h1;cases h1
    | emp=>unfold e2b at h1;cases h1
    | row=>unfold e2b at h1;cases h1
   | s x=>cases hR with
    | int=>exact .int
    | bool=>exact .bool
    | str=>exact .str
    | nl=>unfold e2b at h1;cases h1
    | emp=>unfold e2b at h1;cases h1
    | row=>unfold e2b at h1;cases h1
   | _=>cases hno
theorem e7z (hT:a1e P E=true) {σ:St} {a:Act} (h:Heap E β [] m env w) (hs:∀ i,RV E env w (a0b β [] m env w) (σ.sl i) (a.eval (.tmp i))) {t n dst j k:Nat} {nm:Nm} {ps:Array (Nat×Operand)} {r:A} {m':Mem} {p p':FP}
  (hat:d1j E σ (E.elem t) k ps.toList=some (j,nm)) (hp:(c6j E σ dst t n j nm ps.toList).ev m p=some (r,m',p')) :
  Gives P E β m env w (Instr.buildSlice t n (ps.map fun (i,x)=>(i,a.eval x))) r m':=by
 unfold c6j at hp;split at hp
 case h_2=>cases hp
 rename_i x hps;rw [hps] at hat;have hat:c3j k 0 (a1y E σ (E.elem t) x).cells=some (j,nm):=hat;obtain ⟨hc,hp1⟩:=M.g5z hp;clear hp;generalize E.elem t=e at hc hp1 hat;obtain ⟨hc1,hlen⟩:=a0a hc;obtain ⟨hc2,hsol⟩:=a0a hc1;obtain ⟨hc3,hle⟩:=a0a hc2;obtain ⟨he,hn⟩:=a0a hc3;have hle:=a2p hle;cases Nat.eq_of_beq_eq_true hn;have hlen:=Nat.eq_of_beq_eq_true hlen;obtain ⟨c,m1,p1,h1,hq⟩:=M.bind_some hp1;obtain ⟨_,m2,p2,h2,hq2⟩:=M.bind_some hq;obtain ⟨hnew,rfl⟩:=M.g5x h2;cases hq2;obtain ⟨hu,hk,hby,hnp,_⟩:=a4x hT he;obtain ⟨i,z,hi,hsz,hbytes,hz,hzc,_⟩:=a4w hT hk;have hpos:=a2n hk;have hxc:=b2f hsol (b2y (E:=E) hs e x);obtain ⟨rfl,hcl,hcs⟩:=d7q h hxc h1;have hfl:(E.flat e).length=E.sz e:=rfl;rw [hfl] at hcl hcs;have hvl:(a.eval x).cells.size=E.sz e:=by have:=hxc.length;simp at this;omega
 obtain ⟨_,hj1,hj2⟩:=c7f hat;rw [Nat.sub_zero] at hj1;have hj:j<E.sz e:=by rw [← hlen];exact (List.getElem?_eq_some_iff.1 hj1).1
 obtain ⟨cells1,f1,f2,f3⟩:=b9w (place:=fun i=>some (i*E.sz e,E.sz e)) (i:=0) (off:=0*E.sz e) (v:=a.eval x)
  (cells:=(Array.range (1*E.sz e)).map ((if 1*E.sz e=0 then #[] else z.cells)[· % (if 1*E.sz e=0 then #[] else z.cells).size]!)) (rest:=[]) (by simp only [hvl]) (by rw [hvl];simp)
 have hsize:cells1.size=E.sz e:=by rw [f2];simp
 have hget:∀ y,y<E.sz e→cells1[y]?=(a.eval x).cells.toList[y]?:=fun y hy=>by
  rw [← Array.getElem?_toList,f3,b8y _ _ _ _ (by simp [hvl]),if_pos (by simp [hvl];omega)];simp
 obtain ⟨a0,v0,q1,q2,q3,_,_⟩:=hcs j hj;rw [hj1] at q1;cases q1;obtain ⟨henv,hsl⟩:=q3;have hcell:∀ y,y<E.sz e→y≠j→DC E w (a4e E e y) (tAt [c] 0 y) (cells1[y]?.getD undef) []:=fun y hy hne=>by
  obtain ⟨a1,v1,r1,r2,_,r3,_⟩:=hcs y hy;rw [hget y hy,r2,Option.getD_some];exact r3 (hj2 y a1 r1 (by omega))
 have hho:(w.alloc (.cells cells1 e)).ownsRow 0 e (E.sz e) (.slice (some ⟨w.heap.size,0,none⟩) 1 1) 1 cells1.toList:=
  World.ownsRow_lit w cells1 1 (Nat.zero_le _) (by simp [maxLen]) (by rw [hsize,Nat.one_mul])
 have hg:w.grownBy (w.alloc (.cells cells1 e)) none:=⟨rfl,rfl,rfl,by simp,fun b hb _=>heap_alloc_old w _ b hb⟩;have hkeep:∀ b,b<w.heap.size→(w.alloc (.cells cells1 e)).heap[b]?=w.heap[b]?:=fun b hb=>hg.block b hb (by simp);have hnm:nm≠(dst,0):=fun hx=>by
  rw [hx,h.dom _ hnew] at henv;cases henv
 have hown:∀ b,owns (m.put (dst,0) (.deep e [c] (some (0,j,nm)))) (env.putD (dst,0) (.slice (some ⟨w.heap.size,0,none⟩) 1 1) [w.heap.size]) (dst,0) b↔b=w.heap.size:=fun b=>by simp [owns,put_self,Names.g6c]
 obtain ⟨g1,g2,g3⟩:=h.oneD (w':=w.alloc (.cells cells1 e)) (L':=[]) (dst,0) (.deep e [c] (some (0,j,nm))) (.slice (some ⟨w.heap.size,0,none⟩) 1 1) [w.heap.size] (.inl (h.dom _ hnew)) (fun _=>by
   refine ⟨_,cells1.toList,fun _=>[],Names.g6a _ _ _ _,hho,fun i' j' hi' hj' hnh _=>?_,⟨fun i' j' n' hx hj'=>?_,HoleE.cell hj⟩,by rw [Names.g6c];exact ⟨fun b=>by simp [Value.ownBlock,eq_comm],by simp,fun p b _ hb=>by simp at hb,fun p q b _ _ hb=>by simp at hb⟩⟩
   ·have hi0:i'=0:=by simp at hi';omega
    subst hi0;rw [Nat.zero_mul,Nat.zero_add,Array.getElem?_toList];exact (hcell j' hj' (fun hx=>hnh nm (by rw [hx]))).mono fun b hb=>by simp at hb
   ·cases hx;rw [Nat.zero_mul,Nat.zero_add,Array.getElem?_toList,hget j hj,q2,Option.getD_some];exact ⟨by simp,hj,by rw [Names.g6b _ _ _ hnm];exact henv,rfl,hsl⟩)
  (fun b hb=>by simp at hb) (fun b hb=>by simp at hb) List.nodup_nil
  (fun b hb=>by rw [(hown b).1 hb];exact ⟨by simp,.inr (.inl (Nat.le_refl _))⟩)
  (fun b hb _ _=>hkeep b hb) rfl rfl rfl hg.size
 refine ⟨.slice (some ⟨w.heap.size,0,none⟩) 1 1,_,_,?_,⟨Names.g6a _ _ _ _,_,_,_,rfl⟩,g1,g2,g3⟩;have hzero:(zeroValue e).run P w=.ok z w:=by simp [zeroValue,typeInfo,hi,hz]
 have hfill:Instr.fill (fun i=>some (i*E.sz e,E.sz e)) ((Array.range (1*E.sz e)).map ((if 1*E.sz e=0 then #[] else z.cells)[· % (if 1*E.sz e=0 then #[] else z.cells).size]!)) (ps.map fun (i,x)=>(i,a.eval x)).toList=some cells1:=by
  rw [Array.toList_map,hps];exact f1
 unfold Instr.buildSlice;have h0:¬ (1*E.sz e=0):=by omega
 have h0':¬ (E.sz e=0):=by omega
 simp [h0'] at hfill;simp [run_underlying hu,b6a hT hk,h0',hfill,hzero,Nat.not_lt.2 hle,Go.newRow,newObj];rfl
theorem e8a (hT:a1e P E=true) {σ:St} {a:Act} (h:Heap E β [] m env w) (hs:∀ i,RV E env w (a0b β [] m env w) (σ.sl i) (a.eval (.tmp i))) {t n dst:Nat} {ps:Array (Nat×Operand)} {r:A} {m':Mem} {p p':FP}
  (hp:(bif E.plain (E.elem t) then c3k E σ dst t n ps else
   M.g5m.bind fun md=>bif md then ((a9b E σ (E.elem t) ps.toList).bind fun b=>bif b then (M.g5n.bind fun k=>match d1j E σ (E.elem t) k ps.toList with | some (j,nm)=>c6j E σ dst t n j nm ps.toList | none=>d7e E σ dst t n ps) else c3k E σ dst t n ps) else c3k E σ dst t n ps:M A).ev m p=some (r,m',p')) :
  Gives P E β m env w (Instr.buildSlice t n (ps.map fun (i,x)=>(i,a.eval x))) r m':=by
 have old:∀ {p},(c3k E σ dst t n ps).ev m p=some (r,m',p')→Gives P E β m env w (Instr.buildSlice t n (ps.map fun (i,x)=>(i,a.eval x))) r m':=fun hp=>d3z hT h hs hp;cases hpl:E.plain (E.elem t) with
 | true=>rw [hpl] at hp;exact old hp
 | false=>
  rw [hpl] at hp;obtain ⟨md,m1,p1,h1,hq⟩:=M.bind_some (show (M.g5m.bind _).ev m p=_ from hp);cases M.g6r h1;cases md with
  | false=>exact old hq
  | true=>
   obtain ⟨b,m2,p2,h2,hq2⟩:=M.bind_some (show ((a9b E σ (E.elem t) ps.toList).bind _).ev m p1=_ from hq);cases b9z h2;cases b with
   | true=>
    obtain ⟨k,m3,p3,h3,hq3⟩:=M.bind_some (show (M.g5n.bind _).ev m p2=_ from hq2);have hsame:m=m3:=by
     unfold M.g5n at h3;obtain ⟨q,h3⟩:=M.g6q h3;split at h3 <;> (cases h3;rfl)
    subst hsame;split at hq3
    ·rename_i j nm hat;exact e7z hT h hs hat hq3
    ·exact e7w hT h hs hq3
   | false=>exact old hq2
theorem e4x (h:Heap E β [] m env w) {f e dst:Nat} (hR:RawDel P E f e) {x y z:A} {vx vy vz:Value} (hx:RV E env w (a0b β [] m env w) x vx) (hy:RV E env w (a0b β [] m env w) y vy) (hz:RV E env w (a0b β [] m env w) z vz)
  {r:A} {m':Mem} {p p':FP} (hp:(c6i E e dst [x,y,z]).ev m p=some (r,m',p')) :
  Calls P f #[vx,vy,vz] w fun q w'=>∃ v env',q=.returned v∧RV E env' w' (a0b β [] m' env' w') r v∧Heap E β [] m' env' w'∧env.le env'∧Still w w' (a0b β [] m env w) (a0b β [] m' env' w'):=by
 unfold c6i at hp;split at hp
 ·rename_i n a b heq;cases heq;obtain ⟨hv,a0,l0,c0,rfl⟩:=hx;have hy:vy=.int .i64 a:=hy;have hz:vz=.int .i64 b:=hz;subst hy;subst hz;obtain ⟨q,hp⟩:=M.g6q hp;have fin:∀ {es:List (List T)} {hh:Option (Nat×Nat×Nm)} {a b:Nat},m n=some (.deep e es hh)→a<b→b≤es.length→
    (∀ i j,i<es.length→j<E.sz e→(i<a∨b≤i)→(∀ n',hh≠some (i,j,n'))∧∀ k n',hh=some (i,k,n')→k<E.sz e)→(m.put n .dead) (dst,0)=none→r=.ref (dst,0)→m'=(m.put n .dead).put (dst,0) (.deep e (es.take a++es.drop b) none)→
    Calls P f #[.slice a0 l0 c0,.int .i64 a,.int .i64 b] w fun q w'=>∃ v env',q=.returned v∧RV E env' w' (a0b β [] m' env' w') r v∧Heap E β [] m' env' w'∧env.le env'∧Still w w' (a0b β [] m env w) (a0b β [] m' env' w'):=by
   intro es hh a b hn hab hb hgo hnew hr hm;subst hr;subst hm;obtain ⟨v,xs,fps,e1,e2,e3,_,e5⟩:=h.obj n _ hn;rw [hv] at e1;cases e1;rcases e2.2 with ⟨_,h0⟩ | ⟨g,cap,cur,h0,_⟩
   ·omega
   ·cases h0;have hc:∀ i j,i<es.length→j<E.sz e→(i<a∨b≤i)→DC E w (a4e E e j) (tAt es i j) (xs[i*E.sz e+j]?.getD undef) (fps (i*E.sz e+j)):=fun i j hi hj ho=>e3 i j hi hj (hgo i j hi hj ho).1 (hgo i j hi hj ho).2;refine (hR w g c0 es.length a b xs e2 hab hb (fun u hu=>?_)).mono ?_
    ·obtain ⟨q,hq⟩:=List.getElem?_of_mem hu;rw [List.getElem?_drop] at hq;have hlt:b*E.sz e+q<es.length*E.sz e:=by rw [← e2.1];exact (List.getElem?_eq_some_iff.1 hq).1
     obtain ⟨a1,a2,a3⟩:=a6t hlt;have:=(hc _ _ a1 a2 (.inr (by
      rw [Nat.le_div_iff_mul_le (by omega)];omega))).one
     rw [a3,hq] at this;exact this
    ·rintro q w' ⟨rfl,ho',hg⟩
     obtain ⟨env',k1,k2,k3,k4⟩:=h.delD hn hv e2 hab hb hc e5 hnew ho' hg;exact ⟨_,env',rfl,⟨k1,_,_,_,rfl⟩,k2,k3,k4⟩
  split at hp
  ·rename_i e' es hn;obtain ⟨he,hp1⟩:=M.g5z hp;cases Nat.eq_of_beq_eq_true he;obtain ⟨hck,hp2⟩:=M.g5y hp1;obtain ⟨a,b,rfl,rfl,hab,hb⟩:=d4b hck;obtain ⟨p1,hp3⟩:=M.g6l hp2;obtain ⟨_,m1,p1,h1,hq⟩:=M.bind_some hp3;obtain ⟨hnew,rfl⟩:=M.g5x h1;cases hq;simp only [Int.toNat_natCast];obtain ⟨v,xs,e1,e2,e3⟩:=h.obj n _ hn;rw [hv] at e1;cases e1;rcases e2.2 with ⟨_,h0⟩ | ⟨g,cap,cur,h0,_⟩
   ·omega
   ·cases h0;have hownN:owns m env n g:=by simp [owns,hn,hv,Value.ownBlock]
    refine (hR w g c0 es.length a b xs e2 hab hb (fun u hu=>?_)).mono ?_
    ·obtain ⟨q,hq⟩:=List.getElem?_of_mem (List.mem_of_mem_drop hu);have hlt:q<es.length*E.sz e:=by rw [← e2.1];exact (List.getElem?_eq_some_iff.1 hq).1
     obtain ⟨a1,a2,a3⟩:=a6t hlt;obtain ⟨u',hu',hr⟩:=e3 _ _ a1 a2;rw [a3,hq] at hu';cases hu';exact hr.one
    ·rintro q w' ⟨rfl,ho',hg⟩
     have hsame:=Names.g6h hv;have hnone:∀ b,¬ owns (m.put n .dead) (env.put n (.slice (some ⟨g,0,none⟩) es.length c0)) n b:=fun b=>by simp [owns,put_self]
     have key:=h.one (w':=w) (L':=[g]) n .dead _ (.inr hv) (fun _=>⟨_,Names.put_self _ _ _⟩)
      (fun b hb=>by
       cases List.mem_singleton.1 hb;exact .inr hownN) (fun b _=>hnone b) (by simp) (fun b hb=>(hnone _ hb).elim) (fun _ _ _ _=>rfl) rfl rfl rfl (Nat.le_refl _)
     rw [hsame] at key;obtain ⟨k1,_,kst⟩:=key;have hownG:∀ x,owns ((m.put n .dead).put (dst,0) (.row e true (es.take a++es.drop b))) (env.put (dst,0) (.slice (some ⟨g,0,none⟩) (es.length - (b - a)) c0)) (dst,0) x↔g=x:=fun x=>by simp [owns,put_self,Names.put_self,Value.ownBlock]
     obtain ⟨q1,q2,q3⟩:=k1.one (w':=w') (L':=[]) (dst,0) (.row e true (es.take a++es.drop b)) (.slice (some ⟨g,0,none⟩) (es.length - (b - a)) c0) (.inl (k1.dom _ hnew)) (fun hst=>by
       refine ⟨_,_,Names.put_self _ _ _,by rw [c7e es hab hb];exact ho',fun i j hi hj=>?_⟩;rw [c7e es hab hb] at hi;obtain ⟨u1,u2⟩:=f5s hab hb hi;obtain ⟨u,hu,hr⟩:=e3 _ j u1 hj;refine ⟨u,by rw [d7p hab hb e2.1 hj];exact hu,?_⟩;rw [e7y hab hb];exact (hr.mono kst).mono hst)
      (fun b hb=>by simp at hb) (fun b hb=>by simp at hb) List.nodup_nil
      (fun b hb=>by
       cases (hownG b).1 hb;exact ⟨Nat.lt_of_lt_of_le (h.inb _ _ hownN).1 hg.size,.inr (.inr (by simp))⟩)
      (fun b hb _ hbL=>hg.block b hb (fun e=>hbL (by cases e;simp))) hg.os hg.tape hg.output hg.size
     exact ⟨_,_,rfl,⟨Names.put_self _ _ _,_,_,_,rfl⟩,q1,q2,kst.trans q3⟩
  ·rename_i e' es hn;obtain ⟨he,hp1⟩:=M.g5z hp;cases Nat.eq_of_beq_eq_true he;obtain ⟨hck,hp2⟩:=M.g5y hp1;obtain ⟨a,b,rfl,rfl,hab,hb⟩:=d4b hck;obtain ⟨p1,hp3⟩:=M.g6l hp2;obtain ⟨_,m1,p1,h1,hq⟩:=M.bind_some hp3;obtain ⟨hnew,hm1⟩:=M.g5x h1;cases hq;exact fin hn hab hb (fun i j _ _ _=>⟨by simp,by simp⟩) hnew rfl (by rw [hm1];simp only [Int.toNat_natCast])
  ·rename_i e' es i0 j0 n0 hn;obtain ⟨he,hp1⟩:=M.g5z hp;cases Nat.eq_of_beq_eq_true he;obtain ⟨hck,hp2⟩:=M.g5y hp1;obtain ⟨hck2,hp2⟩:=M.g5y hp2;obtain ⟨c1,c2⟩:=a0a hck2;have c1:=of_decide_eq_true c1;have c2:=of_decide_eq_true c2;obtain ⟨a,b,rfl,rfl,hab,hb⟩:=d4b hck;obtain ⟨p1,hp3⟩:=M.g6l hp2;obtain ⟨_,m1,p1,h1,hq⟩:=M.bind_some hp3;obtain ⟨hnew,hm1⟩:=M.g5x h1;cases hq;exact fin hn hab hb (fun i j _ hj ho=>⟨fun n' hx=>by cases hx;omega,fun k n' hx=>by cases hx;omega⟩) hnew rfl (by rw [hm1];simp only [Int.toNat_natCast])
  ·cases hp
 ·cases hp
theorem e8b {α:Type} (xs ys:List α) {a:Nat} (ha:a≤xs.length) (k:Nat):(xs.take a++ys++xs.drop a)[k]?=if k<a then xs[k]? else if k<a+ys.length then ys[k - a]? else xs[k - ys.length]?:=by
 have hl:(xs.take a).length=a:=by simp;omega
 rw [List.append_assoc];by_cases h:k<a
 ·rw [if_pos h,List.getElem?_append_left (by omega),List.getElem?_take,if_pos h]
 ·rw [if_neg h,List.getElem?_append_right (by omega),hl];by_cases h2:k<a+ys.length
  ·rw [if_pos h2,List.getElem?_append_left (by omega)]
  ·rw [if_neg h2,List.getElem?_append_right (by omega),List.getElem?_drop];congr 1;omega
theorem e4y (h:Heap E β [] m env w) {f e dst:Nat} (hR:RawIns P E f e) {x y z:A} {vx vy vz:Value} (hx:RV E env w (a0b β [] m env w) x vx) (hy:RV E env w (a0b β [] m env w) y vy) (hz:RV E env w (a0b β [] m env w) z vz)
  {r:A} {m':Mem} {p p':FP} (hp:(f7j E e dst [x,y,z]).ev m p=some (r,m',p')) :
  Calls P f #[vx,vy,vz] w fun q w'=>∃ v env',q=.returned v∧RV E env' w' (a0b β [] m' env' w') r v∧Heap E β [] m' env' w'∧env.le env'∧Still w w' (a0b β [] m env w) (a0b β [] m' env' w'):=by
 unfold f7j at hp;split at hp
 ·rename_i x' i' y' heq;cases heq;have hy:vy=.int .i64 i':=hy;subst hy;obtain ⟨hsz,hp1⟩:=M.g5z hp;have hsz:=Nat.le_of_ble_eq_true hsz;obtain ⟨ax,m1,p1,h1,hq⟩:=M.bind_some hp1;obtain ⟨ay,m2,p2,h2,hq2⟩:=M.bind_some hq;obtain ⟨hcb,hq3⟩:=M.g5y hq2;obtain ⟨hc,hq3⟩:=M.g5y hq3;obtain ⟨hc2,hq3⟩:=M.g5y hq3;have hroom:=of_decide_eq_true hc2;obtain ⟨_,m3,p3,h3,hq4⟩:=M.bind_some hq3;obtain ⟨hn,rfl⟩:=M.g5x h3;cases hq4;have hx1:RV1 E env w (a0b β [] m env w) x vx:=by cases x <;> first | exact hx | (unfold b9h at h1;cases h1)
  obtain ⟨b1,g1,g2,es1,rfl,d1⟩:=a7p h hx1 h1;rw [List.nil_append] at g1 g2;have hy0:=hz.mono (Names.le_refl _) g2.still;have hy1:RV1 E env w (a0b β b1 m1 env w) z vz:=by cases z <;> first | exact hy0 | (unfold b9h at h2;cases h2)
  obtain ⟨b2,k1,k2,es2,rfl,d2⟩:=a7p g1 hy1 h2;obtain ⟨hn1,hn2,hn3⟩:=List.nodup_append.1 k1.nodup;obtain ⟨hca,hcc⟩:=a0a hc;have hca:=of_decide_eq_true hca;have hcb:0<es2.length:=of_decide_eq_true hcb;have hcc:i'≤(es1.length:Int):=of_decide_eq_true hcc;obtain ⟨i,rfl⟩:∃ i:Nat,i'=(i:Int):=⟨i'.toNat,by omega⟩;have hi:i≤es1.length:=by omega
  simp only [Int.toNat_natCast,T.asR] at *;cases d1 with
  | @row _ _ _ xs _ fps1 ho1 hc1 hm1=>
  cases d2 with
  | @row _ _ _ ys _ fps2 ho2 hc2 hm2=>
  rcases id ho2.2 with ⟨_,h0⟩ | ⟨gy,cy,cur,rfl,_⟩
  ·omega
  have hgy:gy∈b2:=(hm2.mem gy).2 (.inl rfl);refine (hR w vx gy cy es1.length es2.length i xs ys ho1 ho2 (fun hv=>hn3 gy ((hm1.mem gy).2 (.inl hv)) gy hgy rfl) hi hcb hroom (e0y ho1 hc1) (e0y ho2 hc2)).mono ?_
  rintro q w' ⟨v',rfl,ho',hg,hb⟩
  have hxl:xs.length=es1.length*E.sz e:=ho1.1;have hyl:ys.length=es2.length*E.sz e:=ho2.1;have hai:i*E.sz e≤es1.length*E.sz e:=Nat.mul_le_mul_right _ hi;have hadd:(es1.length+es2.length)*E.sz e=es1.length*E.sz e+es2.length*E.sz e:=Nat.add_mul _ _ _;generalize hA:i*E.sz e=a at *;generalize hC:es2.length*E.sz e=c at *;generalize hN:es1.length*E.sz e=n1 at *
  let fps:Nat→List Nat:=fun q=>if q<a then fps1 q else if q<a+c then fps2 (q - a) else fps1 (q - c)
  have hfp:∀ q b,q<n1+c→b∈fps q→(∃ r,r<n1∧b∈fps1 r∧b∈b1∧(q=r∧q<a∨q=r+c∧a≤r))∨(a≤q∧q - a<c∧b∈fps2 (q - a)∧b∈b2):=fun q b hq hb=>by
   simp only [fps] at hb;split at hb
   ·rename_i hlt;exact .inl ⟨q,by omega,hb,(hm1.mem b).2 (.inr ⟨q,by omega,hb⟩),.inl ⟨rfl,hlt⟩⟩
   ·rename_i hlt;split at hb
    ·rename_i hlt2;exact .inr ⟨by omega,by omega,hb,(hm2.mem b).2 (.inr ⟨_,by omega,hb⟩)⟩
    ·rename_i hlt2;exact .inl ⟨q - c,by omega,hb,(hm1.mem b).2 (.inr ⟨_,by omega,hb⟩),.inr ⟨by omega,by omega⟩⟩
  have hold:∀ b,b∈b1++b2→b<w.heap.size:=fun b hb=>(k1.inL b hb).1;have hkeep:∀ b,b<w.heap.size→vx.ownBlock≠some b→w'.heap[b]?=w.heap[b]?:=fun b hb hv=>hg.block b hb (fun e=>hv e.symm);have hnb:∀ q b,q<n1+c→b∈fps q→vx.ownBlock≠some b:=fun q b hq hb hv=>by
   rcases hfp q b hq hb with ⟨r,h5,h6,_⟩ | ⟨_,h5,h6,h7⟩
   ·exact hm1.d1 r b h5 h6 hv
   ·exact hn3 b ((hm1.mem b).2 (.inl hv)) b h7 rfl
  have hmem:∀ q b,q<n1+c→b∈fps q→b∈b1++b2:=fun q b hq hb=>by
   rcases hfp q b hq hb with ⟨_,_,_,h6,_⟩ | ⟨_,_,_,h6⟩
   ·exact List.mem_append_left _ h6
   ·exact List.mem_append_right _ h6
  have hcell:∀ k j,k<es1.length+es2.length→j<E.sz e→DC E w (a4e E e j) (tAt (es1.take i++es2++es1.drop i) k j) ((xs.take a++ys++xs.drop a)[k*E.sz e+j]?.getD undef) (fps (k*E.sz e+j)):=fun k j hk hj=>by
   have ht:tAt (es1.take i++es2++es1.drop i) k j=if k<i then tAt es1 k j else if k<i+es2.length then tAt es2 (k - i) j else tAt es1 (k - es2.length) j:=by
    unfold tAt;rw [List.getD_eq_getElem?_getD (l:=es1.take i++es2++es1.drop i),e8b es1 es2 hi];split
    ·rw [← List.getD_eq_getElem?_getD]
    ·split <;> rw [← List.getD_eq_getElem?_getD]
   rw [ht,e8b xs ys (by omega),hyl];simp only [fps];by_cases h5:k<i
   ·have h6:=a1w (sz:=E.sz e) h5 hj;have h9:k*E.sz e+j<a:=by omega
    rw [if_pos h5,if_pos h9,if_pos h9];exact hc1 k j (by omega) hj
   ·have h6:i*E.sz e≤k*E.sz e:=Nat.mul_le_mul_right _ (by omega);have h9:¬ (k*E.sz e+j<a):=by omega
    rw [if_neg h5,if_neg h9,if_neg h9];by_cases h7:k<i+es2.length
    ·obtain ⟨q,rfl⟩:∃ q,k=i+q:=⟨k - i,by omega⟩;have h8:=a1w (sz:=E.sz e) (show q<es2.length by omega) hj;have hidx:(i+q)*E.sz e+j=a+(q*E.sz e+j):=by rw [Nat.add_mul];omega
     have h10:a+(q*E.sz e+j)<a+c:=by omega
     rw [if_pos h7,hidx,if_pos h10,if_pos h10,Nat.add_sub_cancel_left,Nat.add_sub_cancel_left];exact hc2 q j (by omega) hj
    ·obtain ⟨q,rfl⟩:∃ q,k=q+es2.length:=⟨k - es2.length,by omega⟩;have h8:i*E.sz e≤q*E.sz e:=Nat.mul_le_mul_right _ (by omega);have hidx:(q+es2.length)*E.sz e+j=(q*E.sz e+j)+c:=by rw [Nat.add_mul];omega
     have h10:¬ (q*E.sz e+j+c<a+c):=by omega
     rw [if_neg h7,hidx,if_neg h10,if_neg h10,Nat.add_sub_cancel,Nat.add_sub_cancel];exact hc1 q j (by omega) hj
  have hlen:(es1.take i++es2++es1.drop i).length=es1.length+es2.length:=by simp;omega
  obtain ⟨F,hF⟩:=Foot.ex v'.ownBlock (n1+c) fps (fun q hq=>by
    rw [← hadd] at hq;obtain ⟨a1,a2,a3⟩:=a6t hq;have:=hcell _ _ a1 a2;rw [a3] at this;exact this.nodup) (fun q b hq hbq hv=>by
    rcases hb with h5 | h5
    ·exact hnb q b hq hbq (by rw [← h5];exact hv)
    ·rw [h5] at hv;cases hv;have:=hold _ (hmem q _ hq hbq);omega) (fun q r b hq hr hbq hbr=>by
    rcases hfp q b hq hbq with ⟨q',a1,a2,a3,a4⟩ | ⟨a0,a1,a2,a3⟩ <;> rcases hfp r b hr hbr with ⟨r',c1,c2,c3,c4⟩ | ⟨c0,c1,c2,c3⟩
    ·have:=hm1.d2 q' r' b a1 c1 a2 c2;omega
    ·exact (hn3 b a3 b c3 rfl).elim
    ·exact (hn3 b c3 b a3 rfl).elim
    ·have:=hm2.d2 _ _ b a1 c1 a2 c2;omega)
  have hown:∀ b,owns (m2.put (dst,0) (.deep e (es1.take i++es2++es1.drop i) none)) (env.putD (dst,0) v' F) (dst,0) b↔b∈F:=fun b=>by simp [owns,put_self,Names.g6c]
  obtain ⟨q1,q2,q3⟩:=k1.oneD (w':=w') (L':=[]) (dst,0) (.deep e (es1.take i++es2++es1.drop i) none) v' F (.inl (k1.dom _ hn)) (fun _=>by
    refine ⟨v',_,fps,Names.g6a _ _ _ _,by rw [hlen];exact ho',fun k j hk hj _ _=>?_,⟨fun _ _ _ h=>(by cases h),HoleE.none⟩,by rw [Names.g6c,hlen,hadd];exact hF⟩;rw [hlen] at hk;have hkj:k*E.sz e+j<n1+c:=by have:=a1w (sz:=E.sz e) hk hj;omega
    exact (hcell k j hk hj).mono fun b hb=>hkeep b (hold b (hmem _ b hkj hb)) (hnb _ b hkj hb))
   (fun b hb=>by simp at hb) (fun b hb=>by simp at hb) List.nodup_nil
   (fun b hb'=>by
    rcases (hF.mem b).1 ((hown b).1 hb') with h5 | ⟨q,hq,h5⟩
    ·refine ⟨(ho'.lt b h5).2,?_⟩;rcases hb with h6 | h6
     ·exact .inr (.inr (List.mem_append_left _ ((hm1.mem b).2 (.inl (by rw [← h6];exact h5)))))
     ·rw [h6] at h5;cases h5;exact .inr (.inl (Nat.le_refl _))
    ·exact ⟨Nat.lt_of_lt_of_le (hold b (hmem q b hq h5)) hg.size,.inr (.inr (hmem q b hq h5))⟩)
   (fun b hb' _ hbL=>hkeep b hb' (fun hv=>hbL (List.mem_append_left _ ((hm1.mem b).2 (.inl hv))))) hg.os hg.tape hg.output hg.size
  refine ⟨v',_,rfl,⟨Names.g6a _ _ _ _,?_⟩,q1,q2,g2.still.trans (k2.still.trans q3)⟩;rcases ho'.2 with ⟨rfl,_⟩ | ⟨g,cap,cur,rfl,_⟩ <;> exact ⟨_,_,_,rfl⟩
 ·cases hp
theorem f2a (h:Heap E β [] m env w) {f e dst:Nat} (hR:c7c P E f e) {x y z:A} {vx vy vz:Value} (hx:RV E env w (a0b β [] m env w) x vx) (hy:RV E env w (a0b β [] m env w) y vy) (hz:RV E env w (a0b β [] m env w) z vz)
  {r:A} {m':Mem} {p p':FP} (hp:(e4l E e dst [x,y,z]).ev m p=some (r,m',p')) :
  Calls P f #[vx,vy,vz] w fun q w'=>∃ v env',q=.returned v∧RV E env' w' (a0b β [] m' env' w') r v∧Heap E β [] m' env' w'∧env.le env'∧Still w w' (a0b β [] m env w) (a0b β [] m' env' w'):=by
 unfold e4l at hp;cases hb:Nat.blt e 1000000 with
 | true=>rw [hb] at hp;exact e4x h (hR.1 hb) hx hy hz hp
 | false=>rw [hb] at hp;exact e4y h (hR.2 hb) hx hy hz hp
theorem b4m {e dst:Nat} {as:List A} {q:A×Mem×FP} {p:FP} (h:(e4l E e dst as).ev m p=some q) (hl:as.length≠3):False:=by
 unfold e4l at h;cases hb:Nat.blt e 1000000 with
 | true=>
  rw [hb] at h;replace h:(c6i E e dst as).ev m p=some q:=h;unfold c6i at h;split at h
  ·simp at hl
  ·cases h
 | false=>
  rw [hb] at h;replace h:(f7j E (e - 1000000) dst as).ev m p=some q:=h;unfold f7j at h;split at h
  ·simp at hl
  ·cases h
theorem b6c {e sz n:Nat} {v:Value} {xs:List Value} (h:w.ownsRow 0 e sz v n xs):w.drew.ownsRow 0 e sz v n xs:=h
theorem e0z (hT:a1e P E=true) {t e:Nat} (he:b5u E t e=true) {g cap l a b:Nat} {xs:List Value} (ho:w.ownsRow 0 e (E.sz e) (.slice (some ⟨g,0,none⟩) l cap) l xs) (hab:a<b) (hb:b≤l) (hone:∀ u,u∈xs.drop (b*E.sz e)→u.oneCell'=true) :
  l≤cap∧cap≤maxLen∧∃ A:Addr,(if cap=b then (some ⟨g,0,none⟩:Option Addr) else some ⟨g,b*E.sz e,none⟩)=some A∧∀ ty,∃ w',(Builtin.append_ #[t,t] ty #[.slice (some ⟨g,0,none⟩) a cap,.slice (some A) (l - b) (cap - b)]).run P w=.ok (.slice (some ⟨g,0,none⟩) (a+(l - b)) cap) w'∧
   w'.ownsRow 0 e (E.sz e) (.slice (some ⟨g,0,none⟩) (a+(l - b)) cap) (a+(l - b)) (xs.take (a*E.sz e)++xs.drop (b*E.sz e))∧w.grownBy w' (some g):=by
 obtain ⟨hu,hk,hby,hnp,_⟩:=a4x hT he;obtain ⟨i,z,hi,hsz,hbytes,hz,hzc,_⟩:=a4w hT hk;have hxl:xs.length=l*E.sz e:=ho.1;have hbl:b*E.sz e≤l*E.sz e:=Nat.mul_le_mul_right _ hb;have hal:a*E.sz e≤l*E.sz e:=Nat.mul_le_mul_right _ (by omega);rcases ho.2 with ⟨h0,_⟩ | ⟨g',cap',cur,h0,hb0,hgg,hnc,hcm,hcs,htake⟩
 ·cases h0
 ·cases h0;refine ⟨hnc,hcm,?_⟩;have hown:w.ownsRow 0 e (E.sz e) (.slice (some ⟨g,0,none⟩) a cap) a (xs.take (a*E.sz e)):=by
   refine ⟨by rw [List.length_take,hxl];omega,.inr ⟨g,cap,cur,rfl,hb0,hgg,by omega,hcm,hcs,?_⟩⟩;rw [← htake,List.take_take,Nat.min_eq_left hal]
  have hcell:∀ q u,(xs.drop (b*E.sz e))[q]?=some u→w.cell? ⟨g,b*E.sz e+q,none⟩=some u:=fun q u hq=>by
   rw [List.getElem?_drop] at hq;have hlt:b*E.sz e+q<l*E.sz e:=by rw [← hxl];exact (List.getElem?_eq_some_iff.1 hq).1
   rw [ho.cellAt _ hlt];exact hq
  have hnl:(xs.drop (b*E.sz e)).length=(l - b)*E.sz e:=by rw [List.length_drop,hxl,Nat.sub_mul]
  obtain ⟨A,hA,hsrc⟩:∃ A:Addr,(if cap=b then (some ⟨g,0,none⟩:Option Addr) else some ⟨g,b*E.sz e,none⟩)=some A∧∀ j u,(xs.drop (b*E.sz e))[j]?=some u→w.cell? (A.add j)=some u:=by
   by_cases h:cap=b
   ·refine ⟨⟨g,0,none⟩,by simp [h],fun j u hu'=>?_⟩;have h0:(xs.drop (b*E.sz e)).length=0:=by rw [hnl,show l - b=0 by omega,Nat.zero_mul]
    rw [List.length_eq_zero_iff.1 h0] at hu';simp at hu'
   ·exact ⟨⟨g,b*E.sz e,none⟩,by simp [h],fun j u hu'=>by rw [a8p];exact hcell j u hu'⟩
  exact ⟨A,hA,fun ty=>run_append_fits w 0 t ty e i (E.sz e) hu hi hsz g a cap _ hown A (l - b) (cap - b) _ hnl hsrc hone (by omega)⟩
theorem c7g (hT:a1e P E=true) {t e:Nat} (he:b5u E t e=true) {g cap n l:Nat} {xs:List Value} (ho:w.ownsRow 0 e (E.sz e) (.slice (some ⟨g,0,none⟩) n cap) n xs) (hn:n<l) (hl:l≤cap) (c:Nat) :
  ∃ w',(∀ ty,(Builtin.clear_ #[t] ty #[.slice (some ⟨g,n*E.sz e,none⟩) (l - n) c]).run P w=.ok (.tuple #[]) w')∧w'.ownsRow 0 e (E.sz e) (.slice (some ⟨g,0,none⟩) n cap) n xs∧w.grownBy w' (some g):=by
 obtain ⟨hu,hk,_,hnp,_⟩:=a4x hT he;obtain ⟨i,z,hi,hisz,_,hz,hzc,_⟩:=a4w hT hk;have hzl:z.cells.size=E.sz e:=by have:=congrArg List.length hzc;simpa [Env.sz] using this
 have hlen:(Builtin.zeroCells z.cells (l - n)).toList.length=(l - n)*E.sz e:=by simp [Builtin.zeroCells,hzl]
 rcases ho.2 with ⟨h0,_⟩ | ⟨g',cap',cur,h0,hb0,hgg,hnc,hcm,hcs,htake⟩
 ·cases h0
 ·cases h0;have hfit:n*E.sz e+(l - n)*E.sz e≤cur.size:=by rw [hcs,← Nat.add_mul];exact Nat.mul_le_mul_right _ (by omega)
  have hone:∀ v,v∈(Builtin.zeroCells z.cells (l - n)).toList→v.oneCell'=true:=fun v hv=>by
   obtain ⟨q,hq⟩:=List.getElem?_of_mem hv;have hql:q<(l - n)*E.sz e:=by rw [← hlen];exact (List.getElem?_eq_some_iff.1 hq).1
   have hp:=a2n hk;have hj:=Nat.mod_lt q (show 0<E.sz e by omega);have hj':q % E.sz e<(E.flat e).length:=hj;have hcell:z.cells[q % E.sz e]?=some (b8w (a4e E e (q % E.sz e))):=by
    rw [← Array.getElem?_toList,hzc,List.getElem?_map,List.getElem?_eq_getElem hj'];simp [a4e,List.getD_eq_getElem?_getD,List.getElem?_eq_getElem hj']
   have hjz:q % E.sz e<z.cells.size:=by rw [hzl];exact hj
   rw [Array.getElem?_eq_getElem hjz] at hcell;have hcell:=Option.some.inj hcell;simp only [Builtin.zeroCells,Array.getElem?_toList,Array.getElem?_map,Array.getElem?_range,hzl,hql,if_true,Option.map_some] at hq;simp [hjz,hcell] at hq;subst hq;cases a4e E e (q % E.sz e) <;> rfl
  have hst:=run_storeCells_at P g (n*E.sz e) e (Builtin.zeroCells z.cells (l - n)).toList 0 cur w hgg (by rw [hlen];omega) hone;simp only [Nat.add_zero] at hst;refine ⟨w.setRow g (cur.toList.take (n*E.sz e)++(Builtin.zeroCells z.cells (l - n)).toList++cur.toList.drop (n*E.sz e+(Builtin.zeroCells z.cells (l - n)).toList.length)).toArray,fun ty=>?_,?_,?_⟩
  ·obtain ⟨l',hl'⟩:∃ q,l - n=q+1:=⟨l - n - 1,by omega⟩;rw [hl'] at hst ⊢;simp [Builtin.clear_,run_underlying hu,zeroValue,typeInfo,hi,hz,hst]
  ·refine ⟨ho.1,.inr ⟨g,cap,_,rfl,hb0,setRow_heap w g cur _ e _ hgg,hnc,hcm,?_,?_⟩⟩
   ·simp only [List.size_toArray,List.length_append,List.length_take,List.length_drop,Array.length_toList,hlen];omega
   ·have hxl:xs.length=n*E.sz e:=ho.1;rw [List.append_assoc,List.take_append_of_le_length (by simp;omega),List.take_take,Nat.min_self,htake]
  ·exact ⟨rfl,rfl,rfl,by simp,fun k _ hk=>setRow_other w g k _ (fun e=>hk (by rw [e]))⟩
theorem b1f {ops:Array Oper} {o:Oper} {a:Act} {K:Act→World→Prop} {Q:Exit→Act→World→Prop} {E:Prop}
  (hg:o.guard=none) (s x:Operand) (t:TypeId) (hop:o.op=Op.call { callee:=Callee.builtin Builtin.append,args:=#[s,x],argTypes:=#[t,t] })
  {vs vx v':Value} (hs:a.eval s=vs) (hx:a.eval x=vx) (hrun:(Builtin.append_ #[t,t] o.type #[vs,vx]).run P w=.ok v' w') (hK:K (a.put o.dst v') w') :
  if Region.wanted o (yielded ops a.tmps)=true then Oper.wp P o a w K Q else E:=by
 have hw:Region.wanted o (yielded ops a.tmps)=true:=by simp [Region.wanted,hg]
 rw [if_pos hw];unfold Oper.wp;simp [execOp,hop,resolve,invoke,builtin,hs,hx,hrun,Result.andThen];exact hK
theorem b9b {w1 w2:World} {r:Option Nat} (h:w.grownBy w1 r) (h':w1.grownBy w2 r):w.grownBy w2 r:=
 ⟨h'.os.trans h.os,h'.tape.trans h.tape,h'.output.trans h.output,Nat.le_trans h.size h'.size,fun k hk hr=>(h'.block k (Nat.lt_of_lt_of_le hk h.size) hr).trans (h.block k hk hr)⟩
end
end Go.Proofs.Ytdbopobkdpmpgaa.Ev
