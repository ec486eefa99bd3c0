/- What a step on one object leaves of the relation; rows that are frozen, handed over, seen. No condition. -/
import Derived.Test.YtdbopobkdpmpgaamEvA
namespace Go.Proofs.Ytdbopobkdpmpgaa.Ev
open Go
set_option linter.unusedVariables false
def Names.putD (env:Names) (n:Nm) (v:Value) (l:List Nat):Names:=⟨fun x=>bif a6h x n then some v else env x,fun x=>bif a6h x n then l else env.fp x⟩
def Names.put (env:Names) (n:Nm) (v:Value):Names:=env.putD n v (env.fp n)
theorem Names.g6a (env:Names) (n:Nm) (v:Value) (l:List Nat):env.putD n v l n=some v:=by simp [Names.putD,a7n]
theorem Names.g6b (env:Names) {n x:Nm} (v:Value) (l:List Nat) (h:x≠n):env.putD n v l x=env x:=by simp [Names.putD,b2d h]
theorem Names.g6c (env:Names) (n:Nm) (v:Value) (l:List Nat):(env.putD n v l).fp n=l:=by simp [Names.putD,a7n]
theorem Names.g6d (env:Names) {n x:Nm} (v:Value) (l:List Nat) (h:x≠n):(env.putD n v l).fp x=env.fp x:=by simp [Names.putD,b2d h]
theorem Names.put_self (env:Names) (n:Nm) (v:Value):env.put n v n=some v:=Names.g6a _ _ _ _
theorem Names.put_ne (env:Names) {n x:Nm} (v:Value) (h:x≠n):env.put n v x=env x:=Names.g6b _ _ _ h
theorem Names.g6e (env:Names) (n x:Nm) (v:Value):(env.put n v).fp x=env.fp x:=by
 by_cases h:x=n
 ·subst h;exact Names.g6c _ _ _ _
 ·exact Names.g6d _ _ _ h
theorem Names.g6f {env:Names} {n:Nm} {v:Value} {l:List Nat} (h:env n=none∨env n=some v):env.le (env.putD n v l):=by
 intro x u hx;by_cases hn:x=n
 ·subst hn;rw [Names.g6a];rcases h with h | h <;> rw [h] at hx <;> cases hx <;> rfl
 ·rw [Names.g6b _ _ _ hn];exact hx
theorem Names.g6g {env:Names} {n:Nm} {v:Value} (h:env n=none∨env n=some v):env.le (env.put n v):=by
 intro x u hx;by_cases hn:x=n
 ·subst hn;rw [Names.put_self];rcases h with h | h <;> rw [h] at hx <;> cases hx <;> rfl
 ·rw [Names.put_ne _ _ hn];exact hx
theorem Names.g6h {env:Names} {n:Nm} {v:Value} (h:env n=some v):env.put n v=env:=by
 refine Names.g5q (fun x=>?_) (fun x=>Names.g6e _ _ _ _);by_cases hx:x=n
 ·subst hx;exact (Names.put_self _ _ _).trans h.symm
 ·exact Names.put_ne _ _ hx
theorem Names.g6i {env:Names} {n:Nm} {v:Value} (h:env n=some v):env.putD n v (env.fp n)=env:=Names.g6h h
theorem Names.le_refl (env:Names):env.le env:=fun _ _ h=>h
theorem Names.le_trans {a b c:Names} (h:a.le b) (h':b.le c):a.le c:=fun _ _ hx=>h' _ _ (h _ _ hx)
theorem b7k {m:Mem} {env:Names} {n x:Nm} {o:O} {v:Value} {l:List Nat} (h:x≠n):owns (m.put n o) (env.putD n v l) x=owns m env x:=by
 funext b;simp only [owns,Mem.put,Names.putD,b2d h,cond_false]
theorem d3o {m:Mem} {env:Names} {n x:Nm} {o:O} {v:Value} (h:x≠n):owns (m.put n o) (env.put n v) x=owns m env x:=b7k h
theorem d3p {m:Mem} {env:Names} {n x:Nm} {o:O} (h:x≠n):owns (m.put n o) env x=owns m env x:=by
 funext b;simp only [owns,Mem.put,b2d h,cond_false]
section
variable {E:Env} {β:Base} {L L':List Nat} {m:Mem} {env:Names} {w w':World}
theorem Heap.oneD (h:Heap E β L m env w) (n:Nm) (o':O) (v':Value) (l':List Nat) (henv:env n=none∨env n=some v')
  (hobj:Still w w' (a0b β L m env w) (a0b β L' (m.put n o') (env.putD n v' l') w')→ObjOk E (env.putD n v' l') w' (a0b β L' (m.put n o') (env.putD n v' l') w') n o')
  (hL:∀ b,b∈L'→b∈L∨owns m env n b) (hLn:∀ b,b∈L'→¬ owns (m.put n o') (env.putD n v' l') n b) (hnd:L'.Nodup)
  (hB:∀ b,owns (m.put n o') (env.putD n v' l') n b→b<w'.heap.size∧(owns m env n b∨w.heap.size≤b∨b∈L))
  (hch:∀ b,b<w.heap.size→¬ owns m env n b→b ∉ L→w'.heap[b]?=w.heap[b]?)
  (hos:w'.os=w.os) (htape:w'.tape=w.tape) (hout:w'.output=w.output) (hsize:w.heap.size≤w'.heap.size) :
  Heap E β L' (m.put n o') (env.putD n v' l') w'∧env.le (env.putD n v' l')∧Still w w' (a0b β L m env w) (a0b β L' (m.put n o') (env.putD n v' l') w'):=by
 have hle:=Names.g6f (l:=l') henv;have hst:Still w w' (a0b β L m env w) (a0b β L' (m.put n o') (env.putD n v' l') w'):=by
  intro b hb;refine ⟨⟨hb.1,Nat.lt_of_lt_of_le hb.2.1 hsize,fun x hx=>?_,fun hx=>?_⟩,hch b hb.2.1 (hb.2.2.1 n) hb.2.2.2⟩
  ·by_cases hxn:x=n
   ·subst hxn;rcases (hB b hx).2 with h1 | h1 | h1
    ·exact hb.2.2.1 _ h1
    ·have:=hb.2.1;omega
    ·exact hb.2.2.2 h1
   ·rw [b7k hxn] at hx;exact hb.2.2.1 _ hx
  ·rcases hL b hx with h1 | h1
   ·exact hb.2.2.2 h1
   ·exact hb.2.2.1 _ h1
 refine ⟨h.next hle hst ?_ ?_ ?_ ?_ ?_ hnd hos htape hout hsize ?_,hle,hst⟩
 ·intro x hx;by_cases hxn:x=n
  ·subst hxn;rw [put_self] at hx;cases hx
  ·rw [put_ne _ _ hxn] at hx;rw [Names.g6b _ _ _ hxn];exact h.dom _ hx
 ·intro x o hx;by_cases hxn:x=n
  ·subst hxn;rw [put_self] at hx;cases hx;exact .inr (hobj hst)
  ·rw [put_ne _ _ hxn] at hx;refine .inl ⟨hx,Names.g6d _ _ _ hxn,fun b hb=>hch b (h.inb _ _ hb).1 (fun hn=>hxn (h.apart _ _ _ hb hn)) (h.inb _ _ hb).2.2⟩
 ·intro x y b hx hy;by_cases hxn:x=n
  ·by_cases hyn:y=n
   ·rw [hxn,hyn]
   ·subst hxn;rw [b7k hyn] at hy;rcases (hB b hx).2 with h1 | h1 | h1
    ·exact h.apart _ _ _ h1 hy
    ·have:=(h.inb _ _ hy).1;omega
    ·exact absurd h1 (h.inb _ _ hy).2.2
  ·rw [b7k hxn] at hx;by_cases hyn:y=n
   ·subst hyn;rcases (hB b hy).2 with h1 | h1 | h1
    ·exact h.apart _ _ _ hx h1
    ·have:=(h.inb _ _ hx).1;omega
    ·exact absurd h1 (h.inb _ _ hx).2.2
   ·rw [b7k hyn] at hy;exact h.apart _ _ _ hx hy
 ·intro x b hx;by_cases hxn:x=n
  ·subst hxn;refine ⟨(hB b hx).1,?_,fun hb=>hLn b hb hx⟩;rcases (hB b hx).2 with h1 | h1 | h1
   ·exact (h.inb _ _ h1).2.1
   ·exact .inr (Nat.le_trans h.size h1)
   ·exact (h.inL _ h1).2
  ·rw [b7k hxn] at hx;have h1:=h.inb _ _ hx;refine ⟨Nat.lt_of_lt_of_le h1.1 hsize,h1.2.1,fun hb=>?_⟩;rcases hL b hb with h2 | h2
   ·exact h1.2.2 h2
   ·exact hxn (h.apart _ _ _ hx h2)
 ·intro b hb;rcases hL b hb with h1 | h1
  ·exact ⟨Nat.lt_of_lt_of_le (h.inL _ h1).1 hsize,(h.inL _ h1).2⟩
  ·exact ⟨Nat.lt_of_lt_of_le (h.inb _ _ h1).1 hsize,(h.inb _ _ h1).2.1⟩
 ·intro k hk hn hkL;exact hch k hk (hn n) hkL
theorem Heap.one (h:Heap E β L m env w) (n:Nm) (o':O) (v':Value) (henv:env n=none∨env n=some v')
  (hobj:Still w w' (a0b β L m env w) (a0b β L' (m.put n o') (env.put n v') w')→ObjOk E (env.put n v') w' (a0b β L' (m.put n o') (env.put n v') w') n o')
  (hL:∀ b,b∈L'→b∈L∨owns m env n b) (hLn:∀ b,b∈L'→¬ owns (m.put n o') (env.put n v') n b) (hnd:L'.Nodup)
  (hB:∀ b,owns (m.put n o') (env.put n v') n b→b<w'.heap.size∧(owns m env n b∨w.heap.size≤b∨b∈L))
  (hch:∀ b,b<w.heap.size→¬ owns m env n b→b ∉ L→w'.heap[b]?=w.heap[b]?)
  (hos:w'.os=w.os) (htape:w'.tape=w.tape) (hout:w'.output=w.output) (hsize:w.heap.size≤w'.heap.size) :
  Heap E β L' (m.put n o') (env.put n v') w'∧env.le (env.put n v')∧Still w w' (a0b β L m env w) (a0b β L' (m.put n o') (env.put n v') w'):=
 h.oneD n o' v' (env.fp n) henv hobj hL hLn hnd hB hch hos htape hout hsize
theorem Heap.rowOf (h:Heap E β L m env w) {n:Nm} {e:Nat} {own:Bool} {es:List (List T)} (hn:m n=some (.row e own es)) :
  ∃ v,env n=some v∧(v=.slice none 0 0∧es=[]∨∃ g cap,v=.slice (some ⟨g,0,none⟩) es.length cap∧es.length≤cap∧
   (es≠[]→(own=true∧owns m env n g)∨a0b β L m env w g)∧
   ∃ vs:Nat→Nat→Value,(∀ i j,i<es.length→j<E.sz e→w.cell? ⟨g,i*E.sz e+j,none⟩=some (vs i j))∧
    ∀ i j,i<es.length→j<E.sz e→RC E w (a0b β L m env w) (a4e E e j) (tAt es i j) (vs i j)):=by
 have ho:=h.obj n _ hn;cases own with
 | true=>
  obtain ⟨v,xs,h1,h2,h3⟩:=ho;refine ⟨v,h1,?_⟩;rcases h2.2 with ⟨hv,hl⟩ | ⟨g,cap,cur,rfl,hb0,hgg,hnc,hcm,hcs,htake⟩
  ·exact .inl ⟨hv,List.eq_nil_of_length_eq_zero hl⟩
  ·refine .inr ⟨g,cap,rfl,hnc,fun _=>.inl ⟨rfl,by simp [owns,hn,h1,Value.ownBlock]⟩,fun i j=>(xs[i*E.sz e+j]?).getD undef,fun i j hi hj=>?_,fun i j hi hj=>?_⟩
   ·obtain ⟨u,hu,hr⟩:=h3 i j hi hj;have hlt:i*E.sz e+j<es.length*E.sz e:=by
     have:(i+1)*E.sz e≤es.length*E.sz e:=Nat.mul_le_mul_right _ hi;rw [Nat.add_mul] at this;omega
    rw [h2.cellAt _ hlt,hu];simp only [hu,Option.getD_some]
   ·obtain ⟨u,hu,hr⟩:=h3 i j hi hj;simp only [hu];exact hr
 | false=>
  obtain ⟨v,h1,h2,h3⟩:=ho;refine ⟨v,h1,?_⟩;rcases h3 with rfl | ⟨g,cap,rfl⟩
  ·cases h2;exact .inl ⟨rfl,rfl⟩
  ·cases h2 with
   | emp=>exact .inr ⟨g,cap,rfl,Nat.zero_le _,fun h=>absurd rfl h,fun _ _=>undef,fun i j hi=>by simp at hi,fun i j hi=>by simp at hi⟩
   | row vs hcap hS hv hr=>
    refine .inr ⟨g,cap,rfl,hcap,fun hne=>.inr (hS hne),vs,fun i j hi hj=>?_,hr⟩;have:=hv i j hi hj;simpa using this
theorem Heap.freeze (h:Heap E β L m env w) {n:Nm} {e:Nat} {es:List (List T)} (hn:m n=some (.row e true es)) :
  Heap E β L (m.put n (.row e false es)) env w∧Still w w (a0b β L m env w) (a0b β L (m.put n (.row e false es)) env w):=by
 obtain ⟨v,hv,hrest⟩:=h.rowOf hn;have hsame:=Names.g6h hv;have hnone:∀ b,¬ owns (m.put n (.row e false es)) (env.put n v) n b:=fun b=>by simp [owns,put_self]
 have key:=h.one (w':=w) n (.row e false es) v (.inr hv) (fun hst=>by
  refine ⟨v,Names.put_self _ _ _,?_,?_⟩
  ·rcases hrest with ⟨rfl,rfl⟩ | ⟨g,cap,rfl,hcap,hg,vs,hc,hr⟩
   ·exact .nl
   ·refine .row vs hcap (fun hne=>?_) (fun i j hi hj=>by simpa using hc i j hi hj) (fun i j hi hj=>(hr i j hi hj).mono hst);rcases hg hne with ⟨_,hb⟩ | hb
    ·refine ⟨.inr (h.inb _ _ hb).2.1,(h.inb _ _ hb).1,fun x hx=>?_,(h.inb _ _ hb).2.2⟩;by_cases hxn:x=n
     ·subst hxn;exact (hnone _ hx).elim
     ·rw [d3o hxn] at hx;exact hxn (h.apart _ _ _ hx hb)
    ·exact (hst g hb).1
  ·rcases hrest with ⟨rfl,rfl⟩ | ⟨g,cap,rfl,_⟩
   ·exact .inl rfl
   ·exact .inr ⟨g,cap,rfl⟩)
  (fun b hb=>.inl hb) (fun b _=>hnone b) h.nodup (fun b hb=>by exact (hnone _ hb).elim) (fun _ _ _ _=>rfl) rfl rfl rfl (Nat.le_refl _)
 rw [hsame] at key;exact ⟨key.1,key.2.2⟩
theorem e0q (m:Mem) (n:Nm) (a b:O):(m.put n a).put n b=m.put n b:=by
 funext x;by_cases hx:x=n
 ·subst hx;rw [put_self,put_self]
 ·rw [put_ne _ _ hx,put_ne _ _ hx,put_ne _ _ hx]
theorem a1w {i j l sz:Nat} (hi:i<l) (hj:j<sz):i*sz+j<l*sz:=by
 have:(i+1)*sz≤l*sz:=Nat.mul_le_mul_right _ hi;rw [Nat.add_mul] at this;omega
theorem DC.rc {S:Nat→Prop} {ty:Ty} {t:T} {v:Value} {bs:List Nat} (h:DC E w ty t v bs):(∀ b,b∈bs→S b)→RC E w S ty t v:=by
 induction h with
 | int=>intro _;exact .int
 | bool=>intro _;exact .bool
 | str=>intro _;exact .str
 | @row e es v xs bs fps ho hc hm ih=>
  intro hb;rcases id ho.2 with ⟨rfl,hl⟩ | ⟨g,cap,cur,rfl,_,_,hnc,_⟩
  ·cases List.eq_nil_of_length_eq_zero hl;exact .nl
  ·refine .row (fun i j=>xs[i*E.sz e+j]?.getD undef) hnc (fun _=>hb g ((hm.mem g).2 (.inl rfl))) (fun i j hi hj=>?_) (fun i j hi hj=>ih i j hi hj fun b h=>hb b ((hm.mem b).2 (.inr ⟨_,a1w hi hj,h⟩)));have hlt:=a1w hi hj;have hx:i*E.sz e+j<xs.length:=by rw [ho.1];exact hlt
   rw [Nat.zero_add,ho.cellAt _ hlt,List.getElem?_eq_getElem hx];rfl
theorem Heap.deepDC (h:Heap E β L m env w) {n:Nm} {e:Nat} {es:List (List T)} (hn:m n=some (.deep e es none)):∃ v,env n=some v∧DC E w (.row e) (.r es) v (env.fp n):=by
 obtain ⟨v,xs,fps,h1,h2,h3,_,h5⟩:=h.obj n _ hn;exact ⟨v,h1,.row fps h2 (fun i j hi hj=>h3 i j hi hj (by simp) (by simp)) h5⟩
theorem Heap.lower (h:Heap E β L m env w) {n:Nm} {e:Nat} {es:List (List T)} (hn:m n=some (.deep e es none)) :
  Heap E β L (m.put n (.row e true es)) env w∧Still w w (a0b β L m env w) (a0b β L (m.put n (.row e true es)) env w)∧∀ b,owns (m.put n (.row e true es)) env n b→owns m env n b:=by
 obtain ⟨v,xs,fps,h1,h2,h3,_,h5⟩:=h.obj n _ hn;have hsame:=Names.g6h h1;have ho:∀ b,owns m env n b↔b∈env.fp n:=fun b=>by simp [owns,hn]
 have ho':∀ b,owns (m.put n (.row e true es)) (env.put n v) n b↔v.ownBlock=some b:=fun b=>by simp [owns,put_self,Names.put_self]
 have hsub:∀ b,owns (m.put n (.row e true es)) (env.put n v) n b→owns m env n b:=fun b hb=>(ho b).2 ((h5.mem b).2 (.inl ((ho' b).1 hb)));have key:=h.one (w':=w) n (.row e true es) v (.inr h1) (fun hst=>by
  refine ⟨v,xs,Names.put_self _ _ _,h2,fun i j hi hj=>?_⟩;have hx:i*E.sz e+j<xs.length:=by rw [h2.1];exact a1w hi hj
  have hd:=h3 i j hi hj (by simp) (by simp);rw [List.getElem?_eq_getElem hx] at hd ⊢;refine ⟨_,rfl,hd.rc fun b hb=>?_⟩;have hbn:=(ho b).2 ((h5.mem b).2 (.inr ⟨_,a1w hi hj,hb⟩));refine ⟨.inr (h.inb _ _ hbn).2.1,(h.inb _ _ hbn).1,fun x hx=>?_,(h.inb _ _ hbn).2.2⟩;by_cases hxn:x=n
  ·subst hxn;exact h5.d1 _ b (a1w hi hj) hb ((ho' b).1 hx)
  ·rw [d3o hxn] at hx;exact hxn (h.apart _ _ _ hx hbn))
  (fun b hb=>.inl hb) (fun b hb hb'=>(h.inb _ _ (hsub b hb')).2.2 hb) h.nodup (fun b hb=>⟨(h.inb _ _ (hsub b hb)).1,.inl (hsub b hb)⟩) (fun _ _ _ _=>rfl) rfl rfl rfl (Nat.le_refl _)
 rw [hsame] at key hsub;exact ⟨key.1,key.2.2,hsub⟩
theorem RC.part {S:Nat→Prop} {e:Nat} {es:List (List T)} {g o:Nat} (f l:Nat) (hfl:f+l≤es.length)
  (vs:Nat→Nat→Value) (hS:es≠[]→S g) (hv:∀ i j,i<es.length→j<E.sz e→w.cell? ⟨g,o+(i*E.sz e+j),none⟩=some (vs i j))
  (hr:∀ i j,i<es.length→j<E.sz e→RC E w S (a4e E e j) (tAt es i j) (vs i j)) (c':Nat) (hc':l≤c') :
  RC E w S (.row e) (.r ((es.drop f).take l)) (.slice (some ⟨g,o+f*E.sz e,none⟩) l c'):=by
 have hlen:((es.drop f).take l).length=l:=by simp;omega
 have hAt:∀ i j,i<l→tAt ((es.drop f).take l) i j=tAt es (f+i) j:=by
  intro i j hi;simp [tAt,List.getD_eq_getElem?_getD,hi,List.getElem?_drop]
 have:=RC.row (E:=E) (w:=w) (S:=S) (e:=e) (es:=(es.drop f).take l) (g:=g) (o:=o+f*E.sz e) (cap:=c') (fun i j=>vs (f+i) j) (by rw [hlen];exact hc')
  (fun hne=>hS (by rintro rfl;simp at hne))
  (fun i j hi hj=>by
   rw [hlen] at hi;have:=hv (f+i) j (by omega) hj;rw [← this];congr 2;rw [Nat.add_mul];omega)
  (fun i j hi hj=>by rw [hlen] at hi;rw [hAt i j hi];exact hr (f+i) j (by omega) hj)
 rw [hlen] at this;exact this
theorem RC.wide {S S':Nat→Prop} (hS:∀ b,S b→S' b) {ty:Ty} {t:T} {v:Value} (h:RC E w S ty t v):RC E w S' ty t v:=h.mono fun b hb=>⟨hS b hb,rfl⟩
theorem Heap.seeRow (h:Heap E β L m env w) {S:Nat→Prop} (hS:∀ b,a0b β L m env w b→S b) {n:Nm} {e:Nat} {own:Bool} {es:List (List T)}
  (hn:m n=some (.row e own es)) (hnS:∀ b,owns m env n b→S b) {v:Value} (hv:env n=some v):RC E w S (.row e) (.r es) v:=by
 obtain ⟨v',hv',hrest⟩:=h.rowOf hn;rw [hv'] at hv;cases hv;rcases hrest with ⟨rfl,rfl⟩ | ⟨g,cap,rfl,hcap,hg,vs,hc,hr⟩
 ·exact .nl
 ·refine .row vs hcap (fun hne=>?_) (fun i j hi hj=>by simpa using hc i j hi hj) (fun i j hi hj=>(hr i j hi hj).wide hS);rcases hg hne with ⟨_,hb⟩ | hb
  ·exact hnS g hb
  ·exact hS g hb
theorem Heap.seeCut (h:Heap E β L m env w) {S:Nat→Prop} (hS:∀ b,a0b β L m env w b→S b) {n:Nm} {e f l:Nat} {own:Bool} {es:List (List T)}
  (hn:m n=some (.row e own es)) (hnS:∀ b,owns m env n b→S b) {v:Value} (hv:RV1 E env w (a0b β L m env w) (.cut n e f l) v) :
  f+l≤es.length∧RC E w S (.row e) (.r ((es.drop f).take l)) v:=by
 obtain ⟨ga,len,cap,he,hfl,hrest⟩:=hv;obtain ⟨v',hv',hrest'⟩:=h.rowOf hn;rw [he] at hv';cases hv';have hlen:len=es.length:=by
  rcases hrest' with ⟨h1,h2⟩ | ⟨g,cap',h1,_⟩
  ·cases h1;simp [h2]
  ·cases h1;rfl
 subst hlen;refine ⟨hfl,?_⟩;rcases hrest with ⟨rfl,rfl,hga⟩ | ⟨g,o,c',rfl,hlc,hpos⟩
 ·simp only [List.take_zero];exact .nl
 ·by_cases hl:0<l
  ·obtain ⟨rfl,rfl,hcc⟩:=hpos (by omega);rcases hrest' with ⟨h1,h2⟩ | ⟨g',cap',h1,hcap,hg,vs,hc,hr⟩
   ·cases h1
   ·cases h1;have:=RC.part (E:=E) (w:=w) (S:=S) (e:=e) (es:=es) (g:=g) (o:=0) f l hfl vs (fun hne=>by
     rcases hg hne with ⟨_,hb⟩ | hb
     ·exact hnS g hb
     ·exact hS g hb) (fun i j hi hj=>by simpa using hc i j hi hj) (fun i j hi hj=>(hr i j hi hj).wide hS) c' hlc
    simpa using this
  ·have:l=0:=by omega
   subst this;simp only [List.take_zero];exact RC.row (es:=[]) (fun _ _=>undef) (Nat.zero_le _) (fun h=>absurd rfl h) (fun i j hi=>by simp at hi) (fun i j hi=>by simp at hi)
theorem b1c {k k':IntKind} (h:decide (k=k')=true):k=k':=of_decide_eq_true h
theorem a0a {a b:Bool} (h:(a&&b)=true):a=true∧b=true:=by cases a <;> cases b <;> first | exact ⟨rfl,rfl⟩ | cases h
structure Prog (β:Base) (env:Names) (w:World) (L:List Nat) (m:Mem) (L':List Nat) (m':Mem):Prop where
 still:Still w w (a0b β L m env w) (a0b β L' m' env w)
 own:∀ n b,owns m' env n b→owns m env n b
 dead:∀ n,m n=some .dead→m' n=some .dead
 grow:∀ b,b∈L'→b∈L∨∃ n,owns m env n b∧m' n=some .dead
theorem Prog.refl (β:Base) (env:Names) (w:World) (L:List Nat) (m:Mem):Prog β env w L m L m:=⟨Still.refl _ _,fun _ _ h=>h,fun _ h=>h,fun _ h=>.inl h⟩
theorem Prog.trans {L'':List Nat} {m' m'':Mem} (h:Prog β env w L m L' m') (h':Prog β env w L' m' L'' m''):Prog β env w L m L'' m'' where
 still:=h.still.trans h'.still
 own:=fun n b hb=>h.own n b (h'.own n b hb)
 dead:=fun n hn=>h'.dead n (h.dead n hn)
 grow:=fun b hb=>by
  rcases h'.grow b hb with h1 | ⟨n,h1,h2⟩
  ·rcases h.grow b h1 with h3 | ⟨n,h3,h4⟩
   ·exact .inl h3
   ·exact .inr ⟨n,h3,h'.dead n h4⟩
  ·exact .inr ⟨n,h.own n b h1,h2⟩
theorem Heap.freezeP (h:Heap E β L m env w) {n:Nm} {e:Nat} {es:List (List T)} (hn:m n=some (.row e true es)) :
  Heap E β L (m.put n (.row e false es)) env w∧Prog β env w L m L (m.put n (.row e false es)):=by
 obtain ⟨h1,h2⟩:=h.freeze hn;refine ⟨h1,h2,fun x b hb=>?_,fun x hx=>?_,fun b hb=>.inl hb⟩
 ·by_cases hxn:x=n
  ·subst hxn;simp [owns,put_self] at hb
  ·simpa [owns,put_ne _ _ hxn] using hb
 ·by_cases hxn:x=n
  ·subst hxn;rw [hn] at hx;cases hx
  ·rw [put_ne _ _ hxn];exact hx
theorem M.g6j {n:Nm} {m':Mem} {p p':FP} {u:Unit} (h:(M.lowD n).ev m p=some (u,m',p')):m'=m∨∃ e es,m n=some (.deep e es none)∧m'=m.put n (.row e true es):=by
 simp only [M.lowD,M.ev] at h;split at h
 ·rename_i e es hn;simp only [M.ev,Option.some.injEq,Prod.mk.injEq] at h;exact .inr ⟨e,es,hn,h.2.1.symm⟩
 ·simp only [M.ev,Option.some.injEq,Prod.mk.injEq] at h;exact .inl h.2.1.symm
theorem Heap.lowerP (h:Heap E β L m env w) {n:Nm} {e:Nat} {es:List (List T)} (hn:m n=some (.deep e es none)) :
  Heap E β L (m.put n (.row e true es)) env w∧Prog β env w L m L (m.put n (.row e true es)):=by
 obtain ⟨h1,h2,h3⟩:=h.lower hn;refine ⟨h1,h2,fun x b hb=>?_,fun x hx=>?_,fun b hb=>.inl hb⟩
 ·by_cases hxn:x=n
  ·subst hxn;exact h3 b hb
  ·rwa [d3p hxn] at hb
 ·by_cases hxn:x=n
  ·subst hxn;rw [hn] at hx;cases hx
  ·rw [put_ne _ _ hxn];exact hx
theorem Heap.lowD (h:Heap E β L m env w) {n:Nm} {m':Mem} {p p':FP} {u:Unit} (hp:(M.lowD n).ev m p=some (u,m',p')):Heap E β L m' env w∧Prog β env w L m L m':=by
 rcases M.g6j hp with rfl | ⟨e,es,hn,rfl⟩
 ·exact ⟨h,Prog.refl _ _ _ _ _⟩
 ·exact h.lowerP hn
theorem Heap.freezeDP (h:Heap E β L m env w) {n:Nm} {e:Nat} {es:List (List T)} (hn:m n=some (.deep e es none)) :
  Heap E β L (m.put n (.row e false es)) env w∧Prog β env w L m L (m.put n (.row e false es)):=by
 obtain ⟨h1,h2⟩:=h.lowerP hn;obtain ⟨h3,h4⟩:=h1.freezeP (put_self _ _ _);rw [e0q] at h3 h4;exact ⟨h3,h2.trans h4⟩
theorem M.g6k {n:Nm} {m':Mem} {p p':FP} {e:Nat} {es:List (List T)} (h:(M.g5o n).ev m p=some ((e,es),m',p')):m=m'∧((∃ d,m n=some (.row e d es))∨m n=some (.deep e es none)):=by
 simp only [M.g5o,M.ev] at h;split at h
 ·rename_i e d es hn;simp only [M.ev,Option.some.injEq,Prod.mk.injEq] at h;obtain ⟨⟨rfl,rfl⟩,rfl,_⟩:=h;exact ⟨rfl,.inl ⟨d,hn⟩⟩
 ·rename_i e es hn;simp only [M.ev,Option.some.injEq,Prod.mk.injEq] at h;obtain ⟨⟨rfl,rfl⟩,rfl,_⟩:=h;exact ⟨rfl,.inr hn⟩
 ·simp [M.ev] at h
theorem Heap.seeV (h:Heap E β L m env w) {S:Nat→Prop} (hS:∀ b,a0b β L m env w b→S b) {n:Nm} {e:Nat} {es:List (List T)}
  (hn:(∃ d,m n=some (.row e d es))∨m n=some (.deep e es none)) (hnS:∀ b,owns m env n b→S b) {v:Value} (hv:env n=some v):RC E w S (.row e) (.r es) v:=by
 rcases hn with ⟨d,hn⟩ | hn
 ·exact h.seeRow hS hn hnS hv
 ·obtain ⟨v',h1,h2⟩:=h.deepDC hn;rw [h1] at hv;cases hv;exact h2.rc fun b hb=>hnS b (by simpa [owns,hn] using hb)
theorem e0r (h:Heap E β L m env w) {ty:Ty} {a:A} {v:Value} (hv:RV1 E env w (a0b β L m env w) a v) {t:T} {m':Mem} {p p':FP}
  (hp:(f6x E ty a).ev m p=some (t,m',p')) :
  Heap E β L m' env w∧Prog β env w L m L m'∧RC E w (a0b β L m' env w) ty t v:=by
 unfold f6x at hp;split at hp
 ·obtain ⟨hk,hq⟩:=M.g5z hp;clear hp;cases b1c hk;cases hq;refine ⟨h,Prog.refl _ _ _ _ _,?_⟩;rw [show v=_ from hv];exact .int
 ·cases hp;refine ⟨h,Prog.refl _ _ _ _ _,?_⟩;rw [show v=_ from hv];exact .bool
 ·cases hp;refine ⟨h,Prog.refl _ _ _ _ _,?_⟩;rw [show v=_ from hv];exact .str
 ·cases hp;refine ⟨h,Prog.refl _ _ _ _ _,?_⟩;rw [show v=_ from hv];exact .nl
 ·obtain ⟨hk,hq⟩:=M.g5z hp;clear hp;cases Nat.eq_of_beq_eq_true hk;cases hq;exact ⟨h,Prog.refl _ _ _ _ _,hv⟩
 ·rename_i e n;obtain ⟨_,m0,p0,hlow,hp0⟩:=M.bind_some hp;clear hp;obtain ⟨h',hpr0⟩:=h.lowD hlow;replace hv:=RV1.mono (Names.le_refl _) hpr0.still hv
  suffices hh:Heap E β L m' env w∧Prog β env w L m0 L m'∧RC E w (a0b β L m' env w) (.row e) t v from ⟨hh.1,hpr0.trans hh.2.1,hh.2.2⟩
  clear hlow hpr0;revert m0 p0;intro m p0 hp0 h hv;obtain ⟨⟨e',d,es⟩,m1,p1,hr,hq⟩:=M.bind_some hp0;clear hp0;obtain ⟨hn,rfl⟩:=M.g5v hr;obtain ⟨hk,hq1⟩:=M.g5z hq;clear hq;cases Nat.eq_of_beq_eq_true hk;cases d with
  | true=>
   cases hq1;obtain ⟨h1,h2⟩:=h.freezeP hn;refine ⟨h1,h2,?_⟩;exact h1.seeRow (fun b hb=>hb) (own:=false) (put_self _ _ _) (fun b hb=>by simp [owns,put_self] at hb) hv.1
  | false=>
   cases hq1;refine ⟨h,Prog.refl _ _ _ _ _,?_⟩;exact h.seeRow (fun b hb=>hb) hn (fun b hb=>by simp [owns,hn] at hb) hv.1
 ·rename_i e n e₁ f l;obtain ⟨⟨e',d,es⟩,m1,p1,hr,hq⟩:=M.bind_some hp;clear hp;obtain ⟨hn,rfl⟩:=M.g5v hr;obtain ⟨hk,hq1⟩:=M.g5z hq;clear hq;obtain ⟨hk1,hk2⟩:=a0a hk;cases Nat.eq_of_beq_eq_true hk1;cases Nat.eq_of_beq_eq_true hk2;cases d with
  | true=>
   cases hq1;obtain ⟨h1,h2⟩:=h.freezeP hn;refine ⟨h1,h2,?_⟩;exact (h1.seeCut (fun b hb=>hb) (own:=false) (put_self _ _ _) (fun b hb=>by simp [owns,put_self] at hb) (RV1.mono (Names.le_refl _) h2.still hv)).2
  | false=>
   cases hq1;refine ⟨h,Prog.refl _ _ _ _ _,?_⟩;exact (h.seeCut (fun b hb=>hb) hn (fun b hb=>by simp [owns,hn] at hb) hv).2
 ·cases hp
def RCs (E:Env) (w:World) (S:Nat→Prop):List Ty→List T→List Value→Prop
 | [],[],[]=>True
 | ty :: tys,t :: ts,v :: vs=>RC E w S ty t v∧RCs E w S tys ts vs
 | _,_,_=>False
theorem RCs.mono {S S':Nat→Prop} (hs:Still w w' S S'):∀ {tys:List Ty} {ts:List T} {vs:List Value},RCs E w S tys ts vs→RCs E w' S' tys ts vs
 | [],[],[],_=>trivial
 | _ :: _,_ :: _,_ :: _,h=>⟨h.1.mono hs,RCs.mono hs h.2⟩
 | [],[],_ :: _,h=>h.elim
 | [],_ :: _,_,h=>h.elim
 | _ :: _,[],_,h=>h.elim
 | _ :: _,_ :: _,[],h=>h.elim
theorem RCs.len {S:Nat→Prop}:∀ {tys:List Ty} {ts:List T} {vs:List Value},RCs E w S tys ts vs→ts.length=tys.length∧vs.length=tys.length
 | [],[],[],_=>⟨rfl,rfl⟩
 | _ :: _,_ :: _,_ :: _,h=>by have:=RCs.len h.2;simp [this]
 | [],[],_ :: _,h=>h.elim
 | [],_ :: _,_,h=>h.elim
 | _ :: _,[],_,h=>h.elim
 | _ :: _,_ :: _,[],h=>h.elim
theorem RCs.get {S:Nat→Prop}:∀ {tys:List Ty} {ts:List T} {vs:List Value},RCs E w S tys ts vs→∀ j,j<tys.length→∃ v,vs[j]?=some v∧RC E w S (tys.getD j .bool) (ts.getD j (.i 0)) v
 | [],[],[],_,j,hj=>by simp at hj
 | _ :: _,_ :: _,v :: _,h,0,_=>⟨v,rfl,h.1⟩
 | _ :: _,_ :: _,_ :: _,h,j+1,hj=>by
  obtain ⟨v,hv,hr⟩:=RCs.get h.2 j (by simpa using hj);exact ⟨v,by simpa using hv,by simpa using hr⟩
 | [],[],_ :: _,h,_,_=>h.elim
 | [],_ :: _,_,h,_,_=>h.elim
 | _ :: _,[],_,h,_,_=>h.elim
 | _ :: _,_ :: _,[],h,_,_=>h.elim
theorem b9s:∀ {tys:List Ty} {as:List A} {vs:List Value} {m:Mem} {ts:List T} {m':Mem} {p p':FP},Heap E β L m env w→RVs E env w (a0b β L m env w) as vs→
  (e4j E tys as).ev m p=some (ts,m',p')→Heap E β L m' env w∧Prog β env w L m L m'∧RCs E w (a0b β L m' env w) tys ts vs
 | [],[],[],m,ts,m',p,p',h,_,hp=>by cases hp;exact ⟨h,Prog.refl _ _ _ _ _,trivial⟩
 | [],[],_ :: _,_,_,_,_,_,_,hv,_=>hv.elim
 | ty :: tys,a :: as,v :: vs,m,ts,m',p,p',h,hv,hp=>by
  obtain ⟨t,m1,p1,h1,hq⟩:=M.bind_some hp;obtain ⟨ts',m2,p2,h2,hq2⟩:=M.bind_some hq;cases hq2;obtain ⟨g1,g2,g3⟩:=e0r h hv.1 h1;obtain ⟨k1,k2,k3⟩:=b9s g1 (hv.2.mono (Names.le_refl _) g2.still) h2;exact ⟨k1,g2.trans k2,g3.mono k2.still,k3⟩
 | _ :: _,_ :: _,[],_,_,_,_,_,_,hv,_=>hv.elim
 | [],_ :: _,_,_,_,_,_,_,_,_,hp=>by cases hp
 | _ :: _,[],_,_,_,_,_,_,_,_,hp=>by cases hp
theorem RCs.wide {S S':Nat→Prop} (hS:∀ b,S b→S' b):∀ {tys:List Ty} {ts:List T} {vs:List Value},RCs E w S tys ts vs→RCs E w S' tys ts vs
 | [],[],[],_=>trivial
 | _ :: _,_ :: _,_ :: _,h=>⟨h.1.wide hS,RCs.wide hS h.2⟩
 | [],[],_ :: _,h=>h.elim
 | [],_ :: _,_,h=>h.elim
 | _ :: _,[],_,h=>h.elim
 | _ :: _,_ :: _,[],h=>h.elim
theorem Heap.lendVar (h:Heap E β L m env w) {n:Nm} {cs:List A} (hn:m n=some (.var cs)) {b:Nat} (hb:env n=some (.pointer (some ⟨b,0,none⟩))) :
  Heap E β (L++[b]) (m.put n .dead) env w∧Prog β env w L m (L++[b]) (m.put n .dead):=by
 have hown:owns m env n b:=by simp [owns,hn,hb]
 have hsame:=Names.g6h hb;have hnone:∀ c,¬ owns (m.put n .dead) (env.put n (.pointer (some ⟨b,0,none⟩))) n c:=fun c=>by simp [owns,put_self]
 have key:=h.one (w':=w) (L':=L++[b]) n .dead _ (.inr hb) (fun _=>⟨_,Names.put_self _ _ _⟩)
  (fun x hx=>by
   rcases List.mem_append.1 hx with h5 | h5
   ·exact .inl h5
   ·simp at h5;subst h5;exact .inr hown)
  (fun x _=>hnone x)
  (by
   refine List.nodup_append.2 ⟨h.nodup,by simp,fun x hx y hy hxy=>?_⟩;simp at hy;subst hy;subst hxy;exact (h.inb n x hown).2.2 hx)
  (fun x hx=>by exact (hnone _ hx).elim) (fun _ _ _ _=>rfl) rfl rfl rfl (Nat.le_refl _)
 rw [hsame] at key hnone;refine ⟨key.1,⟨key.2.2,fun x c hc=>?_,fun x hx=>?_,fun c hc=>?_⟩⟩
 ·by_cases hxn:x=n
  ·subst hxn;exact (hnone _ hc).elim
  ·simpa [owns,put_ne _ _ hxn] using hc
 ·by_cases hxn:x=n
  ·subst hxn;exact put_self _ _ _
  ·rw [put_ne _ _ hxn];exact hx
 ·rcases List.mem_append.1 hc with h5 | h5
  ·exact .inl h5
  ·simp at h5;subst h5;exact .inr ⟨n,hown,put_self _ _ _⟩
def BC (E:Env) (w:World) (S:Nat→Prop) (own:Bool) (ty:Ty) (t:T) (v:Value) (bs:List Nat):Prop:=
 match own,ty with
 | true,.row e=>(∃ es xs,t=.r es∧w.ownsRow 0 e (E.sz e) v es.length xs∧a9c E w S e es xs)∧bs=v.ownBlock.toList
 | true,.deep e=>∃ es,t=.r es∧DC E w (.row e) (.r es) v bs
 | true,.ptr e=>∃ c b vs el,t=.r [c]∧v=.pointer (some ⟨b,0,none⟩)∧w.heap[b]?=some (.cells vs el (0,0))∧RCs E w S (E.flat e) c vs.toList∧bs=[b]
 | _,ty=>RC E w S ty t v∧bs=[]
def BCs (E:Env) (w:World) (S:Nat→Prop):List Bool→List Ty→List T→List Value→List Nat→Prop
 | _,[],[],[],bs=>bs=[]
 | ws,ty :: tys,t :: ts,v :: vs,bs=>∃ b1 b2,bs=b1++b2∧BC E w S (ws.headD false) ty t v b1∧BCs E w S ws.tail tys ts vs b2
 | _,_,_,_,_=>False
theorem BC.wide {S S':Nat→Prop} (hS:∀ b,S b→S' b) {own:Bool} {ty:Ty} {t:T} {v:Value} {bs:List Nat} (h:BC E w S own ty t v bs):BC E w S' own ty t v bs:=by
 unfold BC at *;split
 ·obtain ⟨⟨es,xs,h1,h2,h3⟩,h4⟩:=h;refine ⟨⟨es,xs,h1,h2,fun i j hi hj=>?_⟩,h4⟩;obtain ⟨u,hu,hr⟩:=h3 i j hi hj;exact ⟨u,hu,hr.wide hS⟩
 ·exact h
 ·obtain ⟨c,b,vs,el,h1,h2,h3,h4,h5⟩:=h;exact ⟨c,b,vs,el,h1,h2,h3,h4.wide hS,h5⟩
 ·rename_i hn hn2 hn3;split at h
  ·exact (hn _ rfl rfl).elim
  ·exact (hn2 _ rfl rfl).elim
  ·exact (hn3 _ rfl rfl).elim
  ·exact ⟨h.1.wide hS,h.2⟩
theorem BCs.wide {S S':Nat→Prop} (hS:∀ b,S b→S' b):∀ {ws:List Bool} {tys:List Ty} {ts:List T} {vs:List Value} {bs:List Nat},BCs E w S ws tys ts vs bs→BCs E w S' ws tys ts vs bs
 | _,[],[],[],_,h=>h
 | _,_ :: _,_ :: _,_ :: _,_,⟨b1,b2,h1,h2,h3⟩=>⟨b1,b2,h1,h2.wide hS,BCs.wide hS h3⟩
 | _,[],[],_ :: _,_,h=>h.elim
 | _,[],_ :: _,_,_,h=>h.elim
 | _,_ :: _,[],_,_,h=>h.elim
 | _,_ :: _,_ :: _,[],_,h=>h.elim
theorem a7p (h:Heap E β L m env w) {own:Bool} {ty:Ty} {a:A} {v:Value} (hv:RV1 E env w (a0b β L m env w) a v) {t:T} {m':Mem} {p p':FP}
  (hp:(b9h E own ty a).ev m p=some (t,m',p')) :
  ∃ bs,Heap E β (L++bs) m' env w∧Prog β env w L m (L++bs) m'∧BC E w (a0b β (L++bs) m' env w) own ty t v bs:=by
 unfold b9h at hp;split at hp
 ·cases hp;refine ⟨[],by simpa using h,by simpa using Prog.refl β env w L m,?_⟩;rw [show v=_ from hv];exact ⟨⟨[],[],rfl,World.ownsRow_nil w 0 _ _,fun i j hi=>by simp at hi⟩,rfl⟩
 ·rename_i e n;obtain ⟨_,m0,p0,hlow,hp0⟩:=M.bind_some hp;clear hp;obtain ⟨h',hpr0⟩:=h.lowD hlow;replace hv:=RV1.mono (Names.le_refl _) hpr0.still hv
  suffices hh:∃ bs,Heap E β (L++bs) m' env w∧Prog β env w L m0 (L++bs) m'∧BC E w (a0b β (L++bs) m' env w) true (.row e) t v bs by
   obtain ⟨bs,q1,q2,q3⟩:=hh;exact ⟨bs,q1,hpr0.trans q2,q3⟩
  clear hlow hpr0;revert m0 p0;intro m p0 hp0 h hv;obtain ⟨⟨e',d,es⟩,m1,p1,hr,hq⟩:=M.bind_some hp0;clear hp0;obtain ⟨hn,rfl⟩:=M.g5v hr;obtain ⟨hk,hq1⟩:=M.g5z hq;clear hq;obtain ⟨hk1,hk2⟩:=a0a hk;cases Nat.eq_of_beq_eq_true hk1;have hk2:d=true:=hk2;subst hk2;cases hq1;obtain ⟨v',xs,h1,h2,h3⟩:=h.obj n _ hn;have hvv:v'=v:=by have:=h1.symm.trans hv.1;cases this;rfl
  subst hvv;have hown:∀ b,owns m env n b↔v'.ownBlock=some b:=fun b=>by simp [owns,hn,h1]
  have hsame:=Names.g6h h1;have hnone:∀ b,¬ owns (m.put n .dead) (env.put n v') n b:=fun b=>by simp [owns,put_self]
  have key:=h.one (w':=w) (L':=L++v'.ownBlock.toList) n .dead v' (.inr h1) (fun _=>⟨v',Names.put_self _ _ _⟩)
   (fun b hb=>by
    rcases List.mem_append.1 hb with h5 | h5
    ·exact .inl h5
    ·exact .inr (by rw [hown];simpa using h5))
   (fun b _=>hnone b)
   (by
    refine List.nodup_append.2 ⟨h.nodup,by cases v'.ownBlock <;> simp,fun x hx y hy hxy=>?_⟩;subst hxy;exact (h.inb n x (by rw [hown];simpa using hy)).2.2 hx)
   (fun b hb=>by exact (hnone _ hb).elim) (fun _ _ _ _=>rfl) rfl rfl rfl (Nat.le_refl _)
  rw [hsame] at key hnone;refine ⟨v'.ownBlock.toList,key.1,⟨key.2.2,fun x b hb=>?_,fun x hx=>?_,fun b hb=>?_⟩,⟨es,xs,rfl,h2,fun i j hi hj=>?_⟩,rfl⟩
  ·by_cases hxn:x=n
   ·subst hxn;exact (hnone _ hb).elim
   ·simpa [owns,put_ne _ _ hxn] using hb
  ·by_cases hxn:x=n
   ·subst hxn;rw [hn] at hx;cases hx
   ·rw [put_ne _ _ hxn];exact hx
  ·rcases List.mem_append.1 hb with h5 | h5
   ·exact .inl h5
   ·exact .inr ⟨n,by rw [hown];simpa using h5,put_self _ _ _⟩
  ·obtain ⟨u,hu,hr⟩:=h3 i j hi hj;exact ⟨u,hu,hr.mono key.2.2⟩
 ·rename_i e n e₁ f l;obtain ⟨⟨e',d,es⟩,m1,p1,hr,hq⟩:=M.bind_some hp;clear hp;obtain ⟨hn,rfl⟩:=M.g5v hr;obtain ⟨hk,hq1⟩:=M.g5z hq;clear hq;obtain ⟨hk0,hk2⟩:=a0a hk;obtain ⟨hk3,hk4⟩:=a0a hk0;obtain ⟨hk5,hk6⟩:=a0a hk3;cases Nat.eq_of_beq_eq_true hk5;cases Nat.eq_of_beq_eq_true hk6;cases Nat.eq_of_beq_eq_true hk4;have hk2:d=true:=hk2;subst hk2;obtain ⟨hpos0,hq2⟩:=M.g5y hq1;cases hq2;have hpos0:=of_decide_eq_true hpos0;obtain ⟨v',xs,h1,h2,h3⟩:=h.obj n _ hn;obtain ⟨ga,len,cap,e1,e2,e3⟩:=hv;rw [h1] at e1;cases e1;rcases h2.2 with ⟨h5,h6⟩ | ⟨g,cap',cur,h5,hb0,hgg,hnc,hcm,hcs,htake⟩
  ·omega
  ·cases h5;rcases e3 with ⟨_,_,hga⟩ | ⟨g',o,c',rfl,hlc,hps⟩
   ·cases hga
   ·obtain ⟨hg,rfl,hcc⟩:=hps hpos0;cases hg;obtain rfl:c'=cap:=by omega
    have hown:owns m env n g:=by simp [owns,hn,h1,Value.ownBlock]
    have hsame:=Names.g6h h1;have hnone:∀ b,¬ owns (m.put n .dead) (env.put n (.slice (some ⟨g,0,none⟩) es.length c')) n b:=fun b=>by simp [owns,put_self]
    have key:=h.one (w':=w) (L':=L++[g]) n .dead _ (.inr h1) (fun _=>⟨_,Names.put_self _ _ _⟩)
     (fun b hb=>by
      rcases List.mem_append.1 hb with h5 | h5
      ·exact .inl h5
      ·simp at h5;subst h5;exact .inr hown)
     (fun b _=>hnone b)
     (by
      refine List.nodup_append.2 ⟨h.nodup,by simp,fun x hx y hy hxy=>?_⟩;simp at hy;subst hy;subst hxy;exact (h.inb n x hown).2.2 hx)
     (fun b hb=>by exact (hnone _ hb).elim) (fun _ _ _ _=>rfl) rfl rfl rfl (Nat.le_refl _)
    rw [hsame] at key hnone;have hll:(es.take l).length=l:=by simp;omega
    refine ⟨[g],key.1,⟨key.2.2,fun x b hb=>?_,fun x hx=>?_,fun b hb=>?_⟩,⟨es.take l,xs.take (l*E.sz e),rfl,⟨?_,.inr ⟨g,c',cur,?_,hb0,hgg,?_,hcm,hcs,?_⟩⟩,fun i j hi hj=>?_⟩,by simp [Value.ownBlock]⟩
    ·by_cases hxn:x=n
     ·subst hxn;exact (hnone _ hb).elim
     ·simpa [owns,put_ne _ _ hxn] using hb
    ·by_cases hxn:x=n
     ·subst hxn;rw [hn] at hx;cases hx
     ·rw [put_ne _ _ hxn];exact hx
    ·rcases List.mem_append.1 hb with h5 | h5
     ·exact .inl h5
     ·simp at h5;subst h5;exact .inr ⟨n,hown,put_self _ _ _⟩
    ·have:=Nat.mul_le_mul_right (E.sz e) (show l≤es.length by omega);rw [hll,List.length_take,h2.1];omega
    ·rw [hll];simp
    ·rw [hll];omega
    ·have:=Nat.mul_le_mul_right (E.sz e) (show l≤es.length by omega);rw [hll,← htake,List.take_take,Nat.min_eq_left this]
    ·rw [hll] at hi;obtain ⟨u,hu,hc⟩:=h3 i j (by omega) hj;have hk:i*E.sz e+j<l*E.sz e:=by
      have:=Nat.mul_le_mul_right (E.sz e) (show i+1≤l from hi);rw [Nat.add_mul] at this;omega
     refine ⟨u,by rw [List.getElem?_take,if_pos hk];exact hu,?_⟩;have hat:tAt (es.take l) i j=tAt es i j:=by simp [tAt,List.getD_eq_getElem?_getD,hi]
     rw [hat];exact hc.mono key.2.2
 ·cases hp
 ·cases hp;refine ⟨[],by simpa using h,by simpa using Prog.refl β env w L m,?_⟩;rw [show v=_ from hv];exact ⟨[],rfl,.row (xs:=[]) (fun _=>[]) (World.ownsRow_nil w 0 _ _) (fun i j hi=>by simp at hi) ⟨fun b=>by simp [Value.ownBlock],List.nodup_nil,fun p b hp=>by simp at hp,fun p q b hp=>by simp at hp⟩⟩
 ·rename_i e n;simp only [M.ev] at hp;split at hp
  ·rename_i e' es hn;obtain ⟨hk,hq⟩:=M.g5z hp;cases Nat.eq_of_beq_eq_true hk;cases hq;obtain ⟨v',h1,hd⟩:=h.deepDC hn;have hvv:v'=v:=by have:=h1.symm.trans hv.1;cases this;rfl
   subst hvv;have hown:∀ b,owns m env n b↔b∈env.fp n:=fun b=>by simp [owns,hn]
   have hsame:=Names.g6h h1;have hnone:∀ b,¬ owns (m.put n .dead) (env.put n v') n b:=fun b=>by simp [owns,put_self]
   have key:=h.one (w':=w) (L':=L++env.fp n) n .dead v' (.inr h1) (fun _=>⟨v',Names.put_self _ _ _⟩)
    (fun b hb=>by
     rcases List.mem_append.1 hb with h5 | h5
     ·exact .inl h5
     ·exact .inr ((hown b).2 h5))
    (fun b _=>hnone b)
    (by
     refine List.nodup_append.2 ⟨h.nodup,hd.nodup,fun x hx y hy hxy=>?_⟩;subst hxy;exact (h.inb n x ((hown x).2 hy)).2.2 hx)
    (fun b hb=>(hnone _ hb).elim) (fun _ _ _ _=>rfl) rfl rfl rfl (Nat.le_refl _)
   rw [hsame] at key hnone;refine ⟨env.fp n,key.1,⟨key.2.2,fun x b hb=>?_,fun x hx=>?_,fun b hb=>?_⟩,es,rfl,hd⟩
   ·by_cases hxn:x=n
    ·subst hxn;exact (hnone _ hb).elim
    ·rwa [d3p hxn] at hb
   ·by_cases hxn:x=n
    ·subst hxn;rw [hn] at hx;cases hx
    ·rw [put_ne _ _ hxn];exact hx
   ·rcases List.mem_append.1 hb with h5 | h5
    ·exact .inl h5
    ·exact .inr ⟨n,(hown b).2 h5,put_self _ _ _⟩
  ·simp [M.ev] at hp
 ·cases hp
 ·rename_i e n;obtain ⟨cs,m0,p0,h0,hq0⟩:=M.bind_some hp;obtain ⟨hn,rfl⟩:=M.g5w h0;obtain ⟨c,m1,p1,h1,hq1⟩:=M.bind_some hq0;obtain ⟨cs2,m2,p2,h2,hq2⟩:=M.bind_some hq1;obtain ⟨hn2,rfl⟩:=M.g5w h2;cases hq2;obtain ⟨b,cv,el,hb,hheap,hsol,hrv⟩:=h.obj n _ hn;obtain ⟨g1,g2,g3⟩:=b9s h hrv h1;obtain ⟨k1,k2⟩:=g1.lendVar hn2 hb;have hvv:v=.pointer (some ⟨b,0,none⟩):=by
   obtain ⟨b',e1,e2⟩:=hv;rw [hb] at e1;cases e1;exact e2
  exact ⟨[b],k1,g2.trans k2,c,b,cv,el,rfl,hvv,hheap,g3.wide fun x hx=>(k2.still x hx).1,rfl⟩
 ·rename_i hno1 hno2 hno3 hno4 hno5 hno6 hno7 hno8;obtain ⟨h1,h2,h3⟩:=e0r h hv hp;refine ⟨[],by simpa using h1,by simpa using h2,?_⟩;unfold BC;split
  ·exact (by first | exact hno1 _ rfl rfl | exact hno2 _ rfl rfl | exact hno3 _ rfl rfl | exact hno4 _ rfl rfl | exact hno5 _ rfl rfl | exact hno6 _ rfl rfl | exact hno7 _ rfl rfl:False).elim
  ·exact (by first | exact hno1 _ rfl rfl | exact hno2 _ rfl rfl | exact hno3 _ rfl rfl | exact hno4 _ rfl rfl | exact hno5 _ rfl rfl | exact hno6 _ rfl rfl | exact hno7 _ rfl rfl:False).elim
  ·unfold f6x at hp;split at hp <;> first | cases hp | skip
   all_goals simp_all
  ·exact ⟨by simpa using h3,rfl⟩
end
end Go.Proofs.Ytdbopobkdpmpgaa.Ev
