/- What the evaluator's trees, values and objects mean in a world; what keeps that. No condition. -/
import Derived.Test.YtdbopobkdpmpgaamEv
namespace Go.Proofs.Ytdbopobkdpmpgaa.Ev
open Go
set_option linter.unusedVariables false
theorem b3p {a b:Nm}:a6h a b=true↔a=b:=by
 obtain ⟨a1,a2⟩:=a;obtain ⟨b1,b2⟩:=b;simp [a6h]
theorem a7n (a:Nm):a6h a a=true:=b3p.2 rfl
theorem b2d {a b:Nm} (h:a≠b):a6h a b=false:=by
 cases hb:a6h a b
 ·rfl
 ·exact absurd (b3p.1 hb) h
theorem put_self (m:Mem) (n:Nm) (o:O):m.put n o n=some o:=by simp [Mem.put,a7n]
theorem put_ne (m:Mem) {n x:Nm} (o:O) (h:x≠n):m.put n o x=m x:=by simp [Mem.put,b2d h]
def tAt (es:List (List T)) (i j:Nat):T:=(es.getD i []).getD j (.i 0)
def a4e (E:Env) (e j:Nat):Ty:=(E.flat e).getD j .bool
def one (a:Addr) (j:Nat):Addr:=⟨a.block,a.off+j,none⟩
inductive RC (E:Env) (w:World) (S:Nat→Prop):Ty→T→Value→Prop
 | int {k n}:RC E w S (.int k) (.i n) (.int k n)
 | bool {x}:RC E w S .bool (.b x) (.bool x)
 | str {x}:RC E w S .str (.s x) (.string x)
 | nl {e}:RC E w S (.row e) (.r []) (.slice none 0 0)
 | emp {e a cap}:RC E w S (.row e) (.r []) (.slice (some a) 0 cap)
 | row {e es g o cap} (vs:Nat→Nat→Value) (hcap:es.length≤cap) (hS:es≠[]→S g)
  (hv:∀ i j,i<es.length→j<E.sz e→w.cell? ⟨g,o+(i*E.sz e+j),none⟩=some (vs i j))
  (hr:∀ i j,i<es.length→j<E.sz e→RC E w S (a4e E e j) (tAt es i j) (vs i j)) :
  RC E w S (.row e) (.r es) (.slice (some ⟨g,o,none⟩) es.length cap)
def Still (w w':World) (S S':Nat→Prop):Prop:=∀ b,S b→S' b∧w'.heap[b]?=w.heap[b]?
theorem Still.refl (w:World) (S:Nat→Prop):Still w w S S:=fun _ h=>⟨h,rfl⟩
theorem Still.trans {w w' w'':World} {S S' S'':Nat→Prop} (h:Still w w' S S') (h':Still w' w'' S' S''):Still w w'' S S'':=
 fun b hb=>⟨(h' b (h b hb).1).1,((h' b (h b hb).1).2).trans (h b hb).2⟩
theorem RC.mono {E:Env} {w w':World} {S S':Nat→Prop} (hs:Still w w' S S') {ty:Ty} {t:T} {v:Value} (h:RC E w S ty t v):RC E w' S' ty t v:=by
 induction h with
 | int=>exact .int
 | bool=>exact .bool
 | str=>exact .str
 | nl=>exact .nl
 | emp=>exact .emp
 | @row e es g o cap vs hcap hS hv hr ih=>
  refine .row vs hcap (fun h=>(hs g (hS h)).1) (fun i j hi hj=>?_) ih;rw [World.cell?_of_block (hs g (hS (by rintro rfl;simp at hi))).2];exact hv i j hi hj
structure Foot (own:Option Nat) (N:Nat) (fps:Nat→List Nat) (bs:List Nat):Prop where
 mem:∀ b,b∈bs↔own=some b∨∃ p,p<N∧b∈fps p
 nd:bs.Nodup
 d1:∀ p b,p<N→b∈fps p→own≠some b
 d2:∀ p q b,p<N→q<N→b∈fps p→b∈fps q→p=q
inductive DC (E:Env) (w:World):Ty→T→Value→List Nat→Prop
 | int {k n}:DC E w (.int k) (.i n) (.int k n) []
 | bool {x}:DC E w .bool (.b x) (.bool x) []
 | str {x}:DC E w .str (.s x) (.string x) []
 | row {e es v xs bs} (fps:Nat→List Nat) (ho:w.ownsRow 0 e (E.sz e) v es.length xs)
  (hc:∀ i j,i<es.length→j<E.sz e→DC E w (a4e E e j) (tAt es i j) (xs[i*E.sz e+j]?.getD undef) (fps (i*E.sz e+j)))
  (hm:Foot v.ownBlock (es.length*E.sz e) fps bs):DC E w (.row e) (.r es) v bs
theorem DC.nodup {E:Env} {w:World} {ty:Ty} {t:T} {v:Value} {bs:List Nat} (h:DC E w ty t v bs):bs.Nodup:=by
 cases h with
 | row fps ho hc hm=>exact hm.nd
 | _=>exact List.nodup_nil
theorem b4h {w w':World} {e sz:Nat} {v:Value} {n:Nat} {xs:List Value} (h:w.ownsRow 0 e sz v n xs) (hb:∀ b,v.ownBlock=some b→w'.heap[b]?=w.heap[b]?):w'.ownsRow 0 e sz v n xs:=by
 refine ⟨h.1,?_⟩;rcases h.2 with hn | ⟨g,cap,cur,rfl,hb0,hgg,rest⟩
 ·exact .inl hn
 ·refine .inr ⟨g,cap,cur,rfl,hb0,?_,rest⟩;rw [hb g rfl];exact hgg
theorem DC.mono {E:Env} {w w':World} {ty:Ty} {t:T} {v:Value} {bs:List Nat} (h:DC E w ty t v bs):(∀ b,b∈bs→w'.heap[b]?=w.heap[b]?)→DC E w' ty t v bs:=by
 induction h with
 | int=>intro _;exact .int
 | bool=>intro _;exact .bool
 | str=>intro _;exact .str
 | @row e es v xs bs fps ho hc hm ih=>
  intro hb;refine .row fps (b4h ho fun b h=>hb b ((hm.mem b).2 (.inl h))) (fun i j hi hj=>ih i j hi hj fun b h=>hb b ((hm.mem b).2 (.inr ⟨_,?_,h⟩))) hm;have:(i+1)*E.sz e≤es.length*E.sz e:=Nat.mul_le_mul_right _ hi;rw [Nat.add_mul] at this;omega
structure Names where
 v:Nm→Option Value
 fp:Nm→List Nat
instance:CoeFun Names (fun _=>Nm→Option Value):=⟨Names.v⟩
theorem Names.g5q {a b:Names} (h:∀ n,a.v n=b.v n) (h':∀ n,a.fp n=b.fp n):a=b:=by
 obtain ⟨a1,a2⟩:=a;obtain ⟨b1,b2⟩:=b;have e1:a1=b1:=funext h;have e2:a2=b2:=funext h';subst e1;subst e2;rfl
def RV1 (E:Env) (env:Names) (w:World) (S:Nat→Prop):A→Value→Prop
 | .i k n,v=>v=.int k n
 | .b x,v=>v=.bool x
 | .s x,v=>v=.string x
 | .sl e es,v=>RC E w S (.row e) (.r es) v
 | .nil _,v=>v=.slice none 0 0
 | .ref n,v=>env n=some v∧∃ a l c,v=.slice a l c
 | .cut n e f l,v=>∃ ga len cap,env n=some (.slice ga len cap)∧f+l≤len∧((l=0∧v=.slice none 0 0∧ga=none)∨∃ g o c',v=.slice (some ⟨g,o,none⟩) l c'∧l≤c'∧(f<len→ga=some ⟨g,0,none⟩∧o=f*E.sz e∧c'+f=cap))
 | .ptr n o,v=>∃ b,env n=some (.pointer (some ⟨b,0,none⟩))∧v=.pointer (some ⟨b,o,none⟩)
 | .ep n e i o,v=>∃ g len cap,env n=some (.slice (some ⟨g,0,none⟩) len cap)∧i<len∧v=.pointer (some ⟨g,i*E.sz e+o,none⟩)
 | .vp tys cs q,v=>∃ g o,v=.pointer (some ⟨g,o+q,none⟩)∧(tys≠[]→S g)∧∀ j,j<tys.length→∃ u,w.cell? ⟨g,o+j,none⟩=some u∧RC E w S (tys.getD j .bool) (cs.getD j (.i 0)) u
 | .nilp,v=>v=.pointer none
 | .skip,v=>v=undef
 | .clo f none,v=>v=.func (.func f) #[] #[]
 | .clo f (some n),v=>∃ b,env n=some (.pointer (some ⟨b,0,none⟩))∧v=.func (.func f) #[] #[.pointer (some ⟨b,0,none⟩)]
 | .undef,_=>True
 | .agg _,_=>False
 | .tup _,_=>False
def RVs (E:Env) (env:Names) (w:World) (S:Nat→Prop):List A→List Value→Prop
 | [],[]=>True
 | a :: as,v :: vs=>RV1 E env w S a v∧RVs E env w S as vs
 | _,_=>False
def RV2 (E:Env) (env:Names) (w:World) (S:Nat→Prop):A→Value→Prop
 | .agg cs,v=>∃ vs,v=.agg vs∧a0o cs=true∧RVs E env w S cs vs.toList
 | a,v=>RV1 E env w S a v
def RV2s (E:Env) (env:Names) (w:World) (S:Nat→Prop):List A→List Value→Prop
 | [],[]=>True
 | a :: as,v :: vs=>RV2 E env w S a v∧RV2s E env w S as vs
 | _,_=>False
def RV (E:Env) (env:Names) (w:World) (S:Nat→Prop):A→Value→Prop
 | .tup as,v=>∃ vs,v=.tuple vs∧RV2s E env w S as vs.toList
 | a,v=>RV2 E env w S a v
def RVall (E:Env) (env:Names) (w:World) (S:Nat→Prop):List A→List Value→Prop
 | [],[]=>True
 | a :: as,v :: vs=>RV E env w S a v∧RVall E env w S as vs
 | _,_=>False
def A.single:A→Bool | .agg _ | .tup _=>false | _=>true
def A.isTup:A→Bool | .tup _=>true | _=>false
theorem c2d {E:Env} {env:Names} {w:World} {S:Nat→Prop} {a:A} {v:Value} (h:a.single=true):RV2 E env w S a v=RV1 E env w S a v:=by
 cases a <;> first | rfl | cases h
theorem d1k {E:Env} {env:Names} {w:World} {S:Nat→Prop} {a:A} {v:Value} (h:a.isTup=false):RV E env w S a v=RV2 E env w S a v:=by
 cases a <;> first | rfl | cases h
theorem c6n {E:Env} {env:Names} {w:World} {S:Nat→Prop} {a:A} {v:Value} (h:a.single=true):RV E env w S a v=RV1 E env w S a v:=by
 cases a <;> first | rfl | cases h
def Names.le (a b:Names):Prop:=∀ n v,a n=some v→b n=some v
theorem RV1.mono {E:Env} {env env':Names} {w w':World} {S S':Nat→Prop} (he:env.le env') (hs:Still w w' S S') {a:A} {v:Value} (h:RV1 E env w S a v):RV1 E env' w' S' a v:=by
 cases a with
 | sl e es=>exact RC.mono hs h
 | ref n=>exact ⟨he _ _ h.1,h.2⟩
 | cut n e f l=>obtain ⟨ga,len,cap,h1,h2⟩:=h;exact ⟨ga,len,cap,he _ _ h1,h2⟩
 | ptr n o=>obtain ⟨b,h1,h2⟩:=h;exact ⟨b,he _ _ h1,h2⟩
 | clo f o=>cases o with
  | none=>exact h
  | some n=>obtain ⟨b,h1,h2⟩:=h;exact ⟨b,he _ _ h1,h2⟩
 | ep n e i o=>obtain ⟨g,len,cap,h1,h2⟩:=h;exact ⟨g,len,cap,he _ _ h1,h2⟩
 | vp tys cs q=>
  obtain ⟨g,o,h1,h2,h3⟩:=h;refine ⟨g,o,h1,fun h=>(hs g (h2 h)).1,fun j hj=>?_⟩;obtain ⟨u,hu,hr⟩:=h3 j hj;refine ⟨u,?_,hr.mono hs⟩;rw [World.cell?_of_block (hs g (h2 (by rintro rfl;simp at hj))).2];exact hu
 | _=>exact h
theorem RVs.mono {E:Env} {env env':Names} {w w':World} {S S':Nat→Prop} (he:env.le env') (hs:Still w w' S S'):∀ {as:List A} {vs:List Value},RVs E env w S as vs→RVs E env' w' S' as vs
 | [],[],_=>trivial
 | _ :: _,_ :: _,h=>⟨h.1.mono he hs,RVs.mono he hs h.2⟩
 | [],_ :: _,h=>h.elim
 | _ :: _,[],h=>h.elim
theorem RV2.mono {E:Env} {env env':Names} {w w':World} {S S':Nat→Prop} (he:env.le env') (hs:Still w w' S S') {a:A} {v:Value} (h:RV2 E env w S a v):RV2 E env' w' S' a v:=by
 cases a with
 | agg cs=>obtain ⟨vs,h1,h0,h2⟩:=h;exact ⟨vs,h1,h0,h2.mono he hs⟩
 | tup vs=>exact h.elim
 | _=>rw [c2d rfl] at h ⊢;exact RV1.mono he hs h
theorem RV2s.mono {E:Env} {env env':Names} {w w':World} {S S':Nat→Prop} (he:env.le env') (hs:Still w w' S S'):∀ {as:List A} {vs:List Value},RV2s E env w S as vs→RV2s E env' w' S' as vs
 | [],[],_=>trivial
 | _ :: _,_ :: _,h=>⟨h.1.mono he hs,RV2s.mono he hs h.2⟩
 | [],_ :: _,h=>h.elim
 | _ :: _,[],h=>h.elim
theorem RV.mono {E:Env} {env env':Names} {w w':World} {S S':Nat→Prop} (he:env.le env') (hs:Still w w' S S') {a:A} {v:Value} (h:RV E env w S a v):RV E env' w' S' a v:=by
 cases a with
 | tup cs=>obtain ⟨vs,h1,h2⟩:=h;exact ⟨vs,h1,h2.mono he hs⟩
 | _=>rw [d1k rfl] at h ⊢;exact RV2.mono he hs h
theorem RVall.mono {E:Env} {env env':Names} {w w':World} {S S':Nat→Prop} (he:env.le env') (hs:Still w w' S S'):∀ {as:List A} {vs:List Value},RVall E env w S as vs→RVall E env' w' S' as vs
 | [],[],_=>trivial
 | _ :: _,_ :: _,h=>⟨h.1.mono he hs,RVall.mono he hs h.2⟩
 | [],_ :: _,h=>h.elim
 | _ :: _,[],h=>h.elim
theorem RVs.length {E:Env} {env:Names} {w:World} {S:Nat→Prop}:∀ {as:List A} {vs:List Value},RVs E env w S as vs→as.length=vs.length
 | [],[],_=>rfl
 | _ :: _,_ :: _,h=>by simp [RVs.length h.2]
 | [],_ :: _,h=>h.elim
 | _ :: _,[],h=>h.elim
def a9c (E:Env) (w:World) (S:Nat→Prop) (e:Nat) (es:List (List T)) (xs:List Value):Prop:=
 ∀ i j,i<es.length→j<E.sz e→∃ v,xs[i*E.sz e+j]?=some v∧RC E w S (a4e E e j) (tAt es i j) v
def HoleE (E:Env) (env:Names) (w:World) (e:Nat) (es:List (List T)) (xs:List Value) (h:Option (Nat×Nat×Nm)):Prop:=
 ∀ i k n',h=some (i,k,n')→E.sz e≤k→n'.1≠999999→i<es.length∧∀ j,j<E.sz e→
  (∀ e',a4e E e j=.row e'→env (n'.1,n'.2+j+1)=some (xs[i*E.sz e+j]?.getD undef)∧∃ a l c,(xs[i*E.sz e+j]?.getD undef)=.slice a l c)∧
  ((a4e E e j).flatB=true→DC E w (a4e E e j) (tAt es i j) (xs[i*E.sz e+j]?.getD undef) [])
theorem HoleE.none {E:Env} {env:Names} {w:World} {e:Nat} {es:List (List T)} {xs:List Value}:HoleE E env w e es xs none:=fun _ _ _ h=>by cases h
theorem HoleE.cell {E:Env} {env:Names} {w:World} {e:Nat} {es:List (List T)} {xs:List Value} {i j:Nat} {n:Nm} (hj:j<E.sz e):HoleE E env w e es xs (some (i,j,n)):=fun _ _ _ h hk=>by cases h;omega
theorem HoleE.g5r {E:Env} {env:Names} {w:World} {e:Nat} {es:List (List T)} {xs:List Value} {i j:Nat} {n:Nm} (hn:n.1=999999):HoleE E env w e es xs (some (i,j,n)):=fun _ _ _ h _ hk=>by cases h;exact absurd hn hk
theorem DC.nil_mono {E:Env} {w w':World} {ty:Ty} {t:T} {v:Value} (h:DC E w ty t v []):DC E w' ty t v []:=h.mono fun b hb=>by cases hb
theorem HoleE.mono {E:Env} {env env':Names} {w w':World} (he:env.le env') {e:Nat} {es:List (List T)} {xs:List Value} {h:Option (Nat×Nat×Nm)} (hh:HoleE E env w e es xs h):HoleE E env' w' e es xs h:=fun i k n' h1 h2 h3=>by
 obtain ⟨q1,q2⟩:=hh i k n' h1 h2 h3;exact ⟨q1,fun j hj=>⟨fun e' ht=>⟨he _ _ ((q2 j hj).1 e' ht).1,((q2 j hj).1 e' ht).2⟩,fun hf=>((q2 j hj).2 hf).nil_mono⟩⟩
def ObjOk (E:Env) (env:Names) (w:World) (S:Nat→Prop) (n:Nm):O→Prop
 | .var cs=>∃ b vs el,env n=some (.pointer (some ⟨b,0,none⟩))∧w.heap[b]?=some (.cells vs el (0,0))∧a0o cs=true∧RVs E env w S cs vs.toList
 | .row e true es=>∃ v xs,env n=some v∧w.ownsRow 0 e (E.sz e) v es.length xs∧a9c E w S e es xs
 | .row e false es=>∃ v,env n=some v∧RC E w S (.row e) (.r es) v∧(v=.slice none 0 0∨∃ g cap,v=.slice (some ⟨g,0,none⟩) es.length cap)
 | .deep e es h=>∃ v xs fps,env n=some v∧w.ownsRow 0 e (E.sz e) v es.length xs∧
  (∀ i j,i<es.length→j<E.sz e→(∀ n',h≠some (i,j,n'))→(∀ k n',h=some (i,k,n')→k<E.sz e)→DC E w (a4e E e j) (tAt es i j) (xs[i*E.sz e+j]?.getD undef) (fps (i*E.sz e+j)))∧
  ((∀ i j n',h=some (i,j,n')→j<E.sz e→i<es.length∧j<E.sz e∧env n'=some (xs[i*E.sz e+j]?.getD undef)∧fps (i*E.sz e+j)=[]∧∃ a l c,(xs[i*E.sz e+j]?.getD undef)=.slice a l c)∧HoleE E env w e es xs h)∧
  Foot v.ownBlock (es.length*E.sz e) fps (env.fp n)
 | .dead=>∃ v,env n=some v
 | .save as=>∃ vs,env n=some (.tuple vs)∧RVall E env w S as vs.toList
def owns (m:Mem) (env:Names) (n:Nm) (b:Nat):Prop:=
 match m n,env n with
 | some (.var _),some (.pointer (some a))=>a.block=b
 | some (.row _ true _),some v=>v.ownBlock=some b
 | some (.deep _ _ _),_=>b∈env.fp n
 | _,_=>False
structure Base where
 w0:World
 B0:Nat→Prop
 S0:Nat→Prop
 pin:List (Nm×Value)
def a0b (β:Base) (L:List Nat) (m:Mem) (env:Names) (w:World) (b:Nat):Prop:=
 (β.S0 b∨β.B0 b∨β.w0.heap.size≤b)∧b<w.heap.size∧(∀ n,¬ owns m env n b)∧b ∉ L
structure Heap (E:Env) (β:Base) (L:List Nat) (m:Mem) (env:Names) (w:World):Prop where
 dom:∀ n,m n=none→env n=none
 obj:∀ n o,m n=some o→ObjOk E env w (a0b β L m env w) n o
 apart:∀ n n' b,owns m env n b→owns m env n' b→n=n'
 inb:∀ n b,owns m env n b→b<w.heap.size∧(β.B0 b∨β.w0.heap.size≤b)∧b ∉ L
 inL:∀ b,b∈L→b<w.heap.size∧(β.B0 b∨β.w0.heap.size≤b)
 nodup:L.Nodup
 os:w.os=β.w0.os
 tape:w.tape=β.w0.tape
 output:w.output=β.w0.output
 size:β.w0.heap.size≤w.heap.size
 block:∀ k,k<β.w0.heap.size→¬ β.B0 k→w.heap[k]?=β.w0.heap[k]?
 gl:∀ q,q∈E.gl→q.1<β.w0.heap.size∧¬ β.B0 q.1∧q.2 β.w0.heap[q.1]?
def GOk (E:Env) (w:World) (bs:List Nat):Prop:=∀ q,q∈E.gl→q.1<w.heap.size∧q.1 ∉ bs∧q.2 w.heap[q.1]?
theorem Heap.gok {E:Env} {β:Base} {L:List Nat} {m:Mem} {env:Names} {w:World} (h:Heap E β L m env w):GOk E w L:=fun q hq=>by
 obtain ⟨h1,h2,h3⟩:=h.gl q hq;refine ⟨Nat.lt_of_lt_of_le h1 h.size,fun hL=>?_,by rw [h.block _ h1 h2];exact h3⟩;rcases (h.inL _ hL).2 with hx | hx
 ·exact h2 hx
 ·omega
structure Rel (E:Env) (β:Base) (N:Nat) (d0:List Deferred) (σ:St) (a:Act) (w:World):Prop where
 ex:∃ env,Heap E β [] σ.mem env w∧(∀ n v,(n,v)∈β.pin→env n=some v)∧∀ i,RV E env w (a0b β [] σ.mem env w) (σ.sl i) (a.eval (.tmp i))
 size:a.tmps.size=N
 defers:a.defers=d0
theorem ObjOk.mono {E:Env} {m:Mem} {env env':Names} {w w':World} {S S':Nat→Prop} {n:Nm} {o:O} (hm:m n=some o) (he:env.le env') (hs:Still w w' S S')
  (hf:env'.fp n=env.fp n) (hb:∀ b,owns m env n b→w'.heap[b]?=w.heap[b]?) (h:ObjOk E env w S n o):ObjOk E env' w' S' n o:=by
 cases o with
 | var cs=>
  obtain ⟨b,vs,el,h1,h2,h3,h4⟩:=h;refine ⟨b,vs,el,he _ _ h1,?_,h3,h4.mono he hs⟩;rw [hb b (by simp [owns,hm,h1])];exact h2
 | row e own es=>
  cases own with
  | true=>
   obtain ⟨v,xs,h1,h2,h3⟩:=h;refine ⟨v,xs,he _ _ h1,?_,fun i j hi hj=>?_⟩
   ·exact b4h h2 fun b h=>hb b (by simp [owns,hm,h1,h])
   ·obtain ⟨u,hu,hr⟩:=h3 i j hi hj;exact ⟨u,hu,hr.mono hs⟩
  | false=>
   obtain ⟨v,h1,h2,h3⟩:=h;exact ⟨v,he _ _ h1,h2.mono hs,h3⟩
 | deep e es h=>
  obtain ⟨v,xs,fps,h1,h2,h3,h4,h5⟩:=h;have hbb:∀ b,b∈env.fp n→w'.heap[b]?=w.heap[b]?:=fun b h=>hb b (by simpa [owns,hm] using h);refine ⟨v,xs,fps,he _ _ h1,b4h h2 fun b h=>hbb b ((h5.mem b).2 (.inl h)),fun i j hi hj hn hk=>(h3 i j hi hj hn hk).mono fun b h=>hbb b ((h5.mem b).2 (.inr ⟨_,?_,h⟩)),⟨fun i j n' hh hj=>?_,h4.2.mono he⟩,by rw [hf];exact h5⟩
  ·have:(i+1)*E.sz e≤es.length*E.sz e:=Nat.mul_le_mul_right _ hi;rw [Nat.add_mul] at this;omega
  ·obtain ⟨q1,q2,q3,q4⟩:=h4.1 i j n' hh hj;exact ⟨q1,q2,he _ _ q3,q4⟩
 | dead=>obtain ⟨v,h⟩:=h;exact ⟨v,he _ _ h⟩
 | save as=>obtain ⟨vs,h1,h2⟩:=h;exact ⟨vs,he _ _ h1,h2.mono he hs⟩
theorem Heap.next {E:Env} {β:Base} {L L':List Nat} {m m':Mem} {env env':Names} {w w':World} (h:Heap E β L m env w)
  (he:env.le env') (hst:Still w w' (a0b β L m env w) (a0b β L' m' env' w'))
  (hdom:∀ n,m' n=none→env' n=none)
  (hobj:∀ n o,m' n=some o→(m n=some o∧env'.fp n=env.fp n∧∀ b,owns m env n b→w'.heap[b]?=w.heap[b]?)∨ObjOk E env' w' (a0b β L' m' env' w') n o)
  (hap:∀ n n' b,owns m' env' n b→owns m' env' n' b→n=n')
  (hin:∀ n b,owns m' env' n b→b<w'.heap.size∧(β.B0 b∨β.w0.heap.size≤b)∧b ∉ L')
  (hinL:∀ b,b∈L'→b<w'.heap.size∧(β.B0 b∨β.w0.heap.size≤b)) (hnd:L'.Nodup)
  (hos:w'.os=w.os) (htape:w'.tape=w.tape) (hout:w'.output=w.output) (hsize:w.heap.size≤w'.heap.size)
  (hblock:∀ k,k<w.heap.size→(∀ n,¬ owns m env n k)→k ∉ L→w'.heap[k]?=w.heap[k]?):Heap E β L' m' env' w' where
 dom:=hdom
 obj:=fun n o hn=>by
  rcases hobj n o hn with ⟨h1,hf,h2⟩ | h1
  ·exact (h.obj n o h1).mono h1 he hst hf h2
  ·exact h1
 apart:=hap
 inb:=hin
 inL:=hinL
 nodup:=hnd
 os:=hos.trans h.os
 tape:=htape.trans h.tape
 output:=hout.trans h.output
 size:=Nat.le_trans h.size hsize
 block:=fun k hk hB=>by
  rw [hblock k (Nat.lt_of_lt_of_le hk h.size) (fun n hn=>?_) (fun hL=>?_)]
  ·exact h.block k hk hB
  ·rcases (h.inb n k hn).2.1 with h1 | h1
   ·exact hB h1
   ·omega
  ·rcases (h.inL k hL).2 with h1 | h1
   ·exact hB h1
   ·omega
 gl:=h.gl
def M.ev {α:Type}:M α→Mem→FP→Option (α×Mem×FP)
 | .ret a,m,p=>some (a,m,p)
 | .fail,_,_=>none
 | .get n k,m,p=>(k (m n)).ev m ⟨n :: p.rd,p.wr⟩
 | .set n o k,m,p=>k.ev (m.put n o) ⟨p.rd,n :: p.wr⟩
 | .chk c k,m,p=>bif c then k.ev m p else none
theorem M.g5s {α R:Type} (x:M α):∀ (m:Mem) (p:FP) (K:α→Mem→FP→Option R),x.run m p K=match x.ev m p with | some (a,m',p')=>K a m' p' | none=>none:=by
 induction x with
 | ret a=>intro m p K;rfl
 | fail=>intro m p K;rfl
 | get n k ih=>intro m p K;exact ih _ _ _ _
 | set n o k ih=>intro m p K;exact ih _ _ _
 | chk c k ih=>intro m p K;cases c <;> simp [M.run,M.ev,ih]
theorem M.g5t {α R:Type} {x:M α} {m:Mem} {p:FP} {K:α→Mem→FP→Option R} {r:R} (h:x.run m p K=some r):∃ a m' p',x.ev m p=some (a,m',p')∧K a m' p'=some r:=by
 rw [M.g5s] at h;cases hx:x.ev m p with
 | none=>rw [hx] at h;cases h
 | some q=>obtain ⟨a,m',p'⟩:=q;rw [hx] at h;exact ⟨a,m',p',rfl,h⟩
theorem M.g5u {α β:Type} (x:M α) (f:α→M β):∀ (m:Mem) (p:FP),(x.bind f).ev m p=match x.ev m p with | some (a,m',p')=>(f a).ev m' p' | none=>none:=by
 induction x with
 | ret a=>intro m p;rfl
 | fail=>intro m p;rfl
 | get n k ih=>intro m p;exact ih _ _ _
 | set n o k ih=>intro m p;exact ih _ _
 | chk c k ih=>intro m p;cases c <;> simp [M.bind,M.ev,ih]
theorem M.bind_some {α β:Type} {x:M α} {f:α→M β} {m:Mem} {p:FP} {q:β×Mem×FP} (h:(x.bind f).ev m p=some q):∃ a m' p',x.ev m p=some (a,m',p')∧(f a).ev m' p'=some q:=by
 rw [M.g5u] at h;cases hx:x.ev m p with
 | none=>rw [hx] at h;cases h
 | some y=>obtain ⟨a,m',p'⟩:=y;rw [hx] at h;exact ⟨a,m',p',rfl,h⟩
theorem M.g5v {n:Nm} {m m':Mem} {p p':FP} {e:Nat} {d:Bool} {es:List (List T)} (h:(M.row n).ev m p=some ((e,d,es),m',p')):m n=some (.row e d es)∧m=m':=by
 simp only [M.row,M.ev] at h;split at h
 ·rename_i e d es hn;simp only [M.ev,Option.some.injEq,Prod.mk.injEq] at h;obtain ⟨⟨rfl,rfl,rfl⟩,rfl,_⟩:=h;exact ⟨hn,rfl⟩
 ·simp [M.ev] at h
theorem M.g5w {n:Nm} {m m':Mem} {p p':FP} {r:List A} (h:(M.var n).ev m p=some (r,m',p')):m n=some (.var r)∧m=m':=by
 simp only [M.var,M.ev] at h;split at h
 ·rename_i cs hn;simp only [M.ev,Option.some.injEq,Prod.mk.injEq] at h;obtain ⟨rfl,rfl,_⟩:=h;exact ⟨hn,rfl⟩
 ·simp [M.ev] at h
theorem M.g5x {n:Nm} {o:O} {m m':Mem} {p p':FP} {r:Unit} (h:(M.new n o).ev m p=some (r,m',p')):m n=none∧m'=m.put n o:=by
 simp only [M.new,M.ev] at h;split at h
 ·rename_i hn;simp only [M.ev,Option.some.injEq,Prod.mk.injEq] at h;exact ⟨hn,h.2.1.symm⟩
 ·simp [M.ev] at h
theorem a1z {α:Type} {c:Bool} {x:Option α} {r:α} (h:(bif c then x else none)=some r):c=true∧x=some r:=by
 cases c
 ·cases h
 ·exact ⟨rfl,h⟩
theorem M.g5y {α:Type} {c:Bool} {k:M α} {m:Mem} {p:FP} {q:α×Mem×FP} (h:(M.chk c k).ev m p=some q):c=true∧k.ev m p=some q:=a1z h
theorem M.g5z {α:Type} {c:Bool} {k:M α} {m:Mem} {p:FP} {q:α×Mem×FP} (h:(bif c then k else M.fail).ev m p=some q):c=true∧k.ev m p=some q:=by
 cases c
 ·cases h
 ·exact ⟨rfl,h⟩
end Go.Proofs.Ytdbopobkdpmpgaa.Ev
