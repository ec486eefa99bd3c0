/- The evaluator answers as the machine's calls do. The table of types fits the program, the functions are the program's, the program may draw any order. -/
import Derived.Test.YtdbopobkdpmpgaamEvW
import Derived.ChangeSlices
import Derived.ChangeArms
import Derived.Deep.Slices
import Derived.OpenShut
import Derived.Carry
import Derived.Below
namespace Go.Proofs.Ytdbopobkdpmpgaa.Ev
open Go Go.RowKit
set_option linter.unusedVariables false
theorem d2h {P:Program} {E:Env} (hT:a1e P E=true) (hTF:TabF P E) (hm:P.follows .mixedOrders=true) {prim:FuncId→Option (List Arg→Option Outs)} (hprim:e8p P E prim) (k:Nat):e2h P E (a0d E prim k):=
 d4j hT hTF (fun _ hF=>f6b hT hTF hF hm) hprim k
theorem f7x {P:Program} {E:Env}:e8p P E (fun _=>none):=fun _ _ _ _ _ _ h=>by cases h
#print axioms d2h
inductive FT (E:Env):Ty→T→Prop
 | int {k n} (h:(Lit.int k n).wf=true):FT E (.int k) (.i n)
 | bool {x}:FT E .bool (.b x)
 | str {x} (h:x.size≤maxLen):FT E .str (.s x)
 | row {e es} (hl:es.length≤maxLen) (hn:∀ c,c∈es→c.length=E.sz e) (hr:∀ i j,i<es.length→j<E.sz e→FT E (a4e E e j) (tAt es i j)):FT E (.row e) (.r es)
def FTs (E:Env):List Ty→List T→Prop
 | [],[]=>True
 | ty :: tys,t :: ts=>FT E ty t∧FTs E tys ts
 | _,_=>False
def f7y:Ty→Ty→Bool
 | .int k,.int k'=>decide (k=k')
 | .bool,.bool=>true
 | .str,.str=>true
 | .row e,.row e'=>Nat.beq e e'
 | _,_=>false
def c3s:List Ty→List Ty→Bool
 | [],[]=>true
 | a :: as,b :: bs=>f7y a b&&c3s as bs
 | _,_=>false
def f6c (E:Env):List (Nat×Nat)→Nat→List Ty→Bool
 | [],_,tys=>c3s tys []
 | (o,ft) :: r,at_,tys=>Nat.beq o at_&&c3s (tys.take (E.sz ft)) (E.flat ft)&&f6c E r (at_+E.sz ft) (tys.drop (E.sz ft))
def c3t (P:Program) (E:Env):Nat→Nat→Bool
 | 0,_=>false
 | d+1,t=>E.known t&&Nat.beq (P.cellsOf t) (E.sz t)&&match (E.ti t).kn with
  | .int k=>c3s (E.flat t) [.int k]
  | .bool=>c3s (E.flat t) [.bool]
  | .str=>c3s (E.flat t) [.str]
  | .slice e=>c3s (E.flat t) [.row e]&&c3t P E d e
  | .struct fs=>f6c E fs 0 (E.flat t)&&fs.all fun q=>c3t P E d q.2
  | _=>false
section
variable {P:Program} {E:Env} {W:World}
theorem f2h {a b:Ty} (h:f7y a b=true):a=b:=by
 cases a <;> cases b <;> first | rfl | (cases h;done) | skip
 ·rw [of_decide_eq_true h]
 ·rw [Nat.eq_of_beq_eq_true h]
theorem b1h:∀ {a b:List Ty},c3s a b=true→a=b
 | [],[],_=>rfl
 | a :: as,b :: bs,h=>by rw [f2h (a0a h).1,b1h (a0a h).2]
 | [],_ :: _,h=>by cases h
 | _ :: _,[],h=>by cases h
theorem RCs.app {S:Nat→Prop}:∀ {a b:List Ty} {ts us:List T} {vs xs:List Value},RCs E W S a ts vs→RCs E W S b us xs→RCs E W S (a++b) (ts++us) (vs++xs)
 | [],b,[],us,[],xs,_,h=>h
 | _ :: _,_,_ :: _,_,_ :: _,_,h,h'=>⟨h.1,RCs.app h.2 h'⟩
 | [],_,[],_,_ :: _,_,h,_=>h.elim
 | [],_,_ :: _,_,_,_,h,_=>h.elim
 | _ :: _,_,[],_,_,_,h,_=>h.elim
 | _ :: _,_,_ :: _,_,[],_,h,_=>h.elim
theorem FTs.app:∀ {a b:List Ty} {ts us:List T},FTs E a ts→FTs E b us→FTs E (a++b) (ts++us)
 | [],b,[],us,_,h=>h
 | _ :: _,_,_ :: _,_,h,h'=>⟨h.1,FTs.app h.2 h'⟩
 | [],_,_ :: _,_,h,_=>h.elim
 | _ :: _,_,[],_,h,_=>h.elim
theorem FTs.get:∀ {tys:List Ty} {ts:List T},FTs E tys ts→∀ j,j<tys.length→FT E (tys.getD j .bool) (ts.getD j (.i 0))
 | [],[],_,j,hj=>by simp at hj
 | _ :: _,_ :: _,h,0,_=>h.1
 | _ :: _,_ :: _,h,j+1,hj=>by simpa using FTs.get h.2 j (by simpa using hj)
 | [],_ :: _,h,_,_=>h.elim
 | _ :: _,[],h,_,_=>h.elim
theorem e3e {d:Nat} {S:Nat→Prop} {rd:Nat→List Value→Prop} (ih:∀ t,c3t P E d t=true→∀ cs,rd t cs→∃ ts,RCs E W S (E.flat t) ts cs∧FTs E (E.flat t) ts) {cs:List Value} :
  ∀ {fs:List (Nat×Nat)} {fields:List Field} {at_:Nat} {tys:List Ty},f6c E fs at_ tys=true→a9d E fs fields=true→(fs.all fun q=>c3t P E d q.2)=true→cs.length=at_+tys.length→
   (∀ (i:Nat) (f:Field),fields[i]?=some f→rd f.type ((cs.drop f.offset).take (P.cellsOf f.type)))→∃ ts,RCs E W S tys ts (cs.drop at_)∧FTs E tys ts
 | [],fields,at_,tys,h,_,_,hl,_=>by
  have:=b1h (b:=[]) h;subst this;exact ⟨[],by rw [List.drop_of_length_le (by simpa using Nat.le_of_eq hl)];trivial,trivial⟩
 | (o,ft) :: r,f :: fl,at_,tys,h,hf,ha,hl,hx=>by
  obtain ⟨h1,h2⟩:=a0a h;obtain ⟨h3,h4⟩:=a0a h1;obtain ⟨f1,f2⟩:=a0a hf;obtain ⟨f3,f4⟩:=a0a f1;obtain ⟨f5,f6⟩:=a0a f3;obtain ⟨a1,a2⟩:=a0a ha;have e1:=Nat.eq_of_beq_eq_true h3;have e2:=Nat.eq_of_beq_eq_true f5;have e3:=Nat.eq_of_beq_eq_true f6;have e4:=b1h h4;have hc:P.cellsOf ft=E.sz ft:=by
   cases d with
   | zero=>cases a1
   | succ d=>
    unfold c3t at a1;exact Nat.eq_of_beq_eq_true (a0a (a0a a1).1).2
  obtain ⟨ts1,g1,g2⟩:=ih ft a1 _ (by have:=hx 0 f rfl;rw [← e3,← e2,e1,hc] at this;exact this);have hle:E.sz ft≤tys.length:=by
   have:=congrArg List.length e4;simp only [List.length_take] at this;have h9:(E.flat ft).length=E.sz ft:=rfl;omega
  obtain ⟨ts2,k1,k2⟩:=e3e ih (cs:=cs) h2 f2 a2 (by rw [hl,List.length_drop];omega) (fun i g hg=>hx (i+1) g hg);have hty:tys=E.flat ft++tys.drop (E.sz ft):=by rw [← e4,List.take_append_drop]
  have hcs:cs.drop at_=(cs.drop at_).take (E.sz ft)++cs.drop (at_+E.sz ft):=by rw [← List.drop_drop,List.take_append_drop]
  refine ⟨ts1++ts2,?_,?_⟩
  ·rw [hty,hcs];exact g1.app k1
  ·rw [hty];exact g2.app k2
 | _ :: _,[],_,_,_,hf,_,_,_=>by simp [a9d] at hf
theorem c7y (hT:a1e P E=true):∀ (d t:Nat),c3t P E d t=true→∀ {H:Type} {enc:TypeId×Value→H} {fuel:Nat} {cs:List Value} {x:DataW H×List MemPlace},
  DataW.trod enc P W 0 (fun _=>true) true fuel t cs=some x→∃ ts,RCs E W (fun b=>b<W.heap.size) (E.flat t) ts cs∧FTs E (E.flat t) ts
 | 0,t,h,_,_,_,_,_,_=>by cases h
 | d+1,t,h,H,enc,fuel,cs,x,hx=>by
  unfold c3t at h;obtain ⟨h1,h2⟩:=a0a h;obtain ⟨hk,hcl⟩:=a0a h1;have hcl:=Nat.eq_of_beq_eq_true hcl;split at h2
  ·rename_i k hkn;rw [b1h h2];obtain ⟨n,rfl,_,hw⟩:=DataW.trod_int (e7g hT hkn) hx;exact ⟨[.i n],⟨.int,trivial⟩,.int hw,trivial⟩
  ·rename_i hkn;rw [b1h h2];have hu:P.underlying t=some .bool:=by
    have h1:=d3s hT t;unfold e4o at h1;rw [hkn] at h1;split at h1 <;> rename_i a b <;> first
     | (cases b;done)
     | (cases a;exact b)
     | cases a
     | cases h1
   obtain ⟨b,rfl,_⟩:=DataW.trod_bool hu hx;exact ⟨[.b b],⟨.bool,trivial⟩,.bool,trivial⟩
  ·rename_i hkn;rw [b1h h2];obtain ⟨s,rfl,_,hs⟩:=DataW.trod_string (d1o hT hkn) hx;exact ⟨[.s s],⟨.str,trivial⟩,.str hs,trivial⟩
  ·rename_i e hkn;obtain ⟨h3,h4⟩:=a0a h2;rw [b1h h3];have hce:P.cellsOf e=E.sz e∧1≤E.sz e:=by
    cases d with
    | zero=>cases h4
    | succ d=>
     unfold c3t at h4;obtain ⟨h5,_⟩:=a0a h4;obtain ⟨h6,h7⟩:=a0a h5;exact ⟨Nat.eq_of_beq_eq_true h7,a2n h6⟩
   rcases Deep.open_slice (d3t hT hkn) hx with ⟨rfl,_⟩ | ⟨a,len,cap,m,n,D,Pl,rfl,_,hl,hm,hmm,_,hel⟩
   ·exact ⟨[.r []],⟨.nl,trivial⟩,.row (by simp [maxLen]) (fun c hc=>by cases hc) (fun i j hi=>by simp at hi),trivial⟩
   ·have hm':m=cap:=by simpa using hmm
    subst hm';have key:∀ i,∃ q:List T×List Value,i<len→W.cells? 0 (a.add (i*P.cellsOf e)) (P.cellsOf e)=some q.2∧RCs E W (fun b=>b<W.heap.size) (E.flat e) q.1 q.2∧FTs E (E.flat e) q.1:=fun i=>by
     by_cases hi:i<len
     ·obtain ⟨cs',g1,g2⟩:=hel i (by omega);obtain ⟨ts,g3,g4⟩:=c7y hT d e h4 g2;exact ⟨(ts,cs'),fun _=>⟨g1,g3,g4⟩⟩
     ·exact ⟨([],[]),fun h=>absurd h hi⟩
    obtain ⟨f,hf⟩:=Classical.axiomOfChoice key;have hlen:((List.range len).map fun i=>(f i).1).length=len:=by simp
    have hgetD:∀ i,i<len→((List.range len).map fun i=>(f i).1).getD i []=(f i).1:=fun i hi=>by
     simp [List.getD_eq_getElem?_getD,List.getElem?_range hi]
    have hcell:∀ i j,i<len→j<E.sz e→W.cell? ((a.add (i*P.cellsOf e)).add j)=some ((f i).2.getD j undef):=fun i j hi hj=>by
     obtain ⟨g1,g2,_⟩:=hf i hi;obtain ⟨_,hlc,hc⟩:=World.cells?_some g1;obtain ⟨v,hv,_⟩:=g2.get j hj;rw [hc j (by rw [hce.1];exact hj),hv];simp [List.getD_eq_getElem?_getD,hv]
    have hFT:FT E (.row e) (.r ((List.range len).map fun i=>(f i).1)):=.row (by rw [hlen];simp [maxLen] at hm ⊢;omega) (fun c hc=>by
      obtain ⟨i,hi,rfl⟩:=List.mem_map.1 hc;exact (hf i (List.mem_range.1 hi)).2.1.len.1) (fun i j hi hj=>by
      rw [hlen] at hi;unfold tAt;rw [hgetD i hi];exact (hf i hi).2.2.get j hj)
    refine ⟨[.r ((List.range len).map fun i=>(f i).1)],⟨?_,trivial⟩,hFT,trivial⟩;by_cases h0:len=0
    ·subst h0;exact .emp
    ·have hc0:=hcell 0 0 (by omega) hce.2;rw [Nat.zero_mul] at hc0;have hsp:a.spot=none:=by
      have e0:(a.add 0).add 0=a:=by simp [Addr.add]
      rw [e0] at hc0;unfold World.cell? at hc0;split at hc0
      ·cases hs:a.spot with
       | none=>rfl
       | some s=>rw [hs] at hc0;simp at hc0
      ·cases hc0
     obtain ⟨g,o,sp⟩:=a;have hsp:sp=none:=hsp;subst hsp;have hrow:=RC.row (E:=E) (w:=W) (S:=fun b=>b<W.heap.size) (e:=e) (es:=(List.range len).map fun i=>(f i).1) (g:=g) (o:=o) (cap:=m) (fun i j=>(f i).2.getD j undef) (by rw [hlen];omega)
      (fun _=>by have:=World.block_lt_of_cell? W _ hc0;simpa [a8p] using this)
      (fun i j hi hj=>by
       rw [hlen] at hi;have:=hcell i j hi hj;rw [a8p,a8p,hce.1,Nat.add_assoc] at this;exact this)
      (fun i j hi hj=>by
       rw [hlen] at hi;obtain ⟨v,hv,hr⟩:=(hf i hi).2.1.get j hj;unfold tAt;rw [hgetD i hi];simpa [a4e,List.getD_eq_getElem?_getD,hv] using hr)
     rw [hlen] at hrow;exact hrow
  ·rename_i fs hkn;obtain ⟨h3,h4⟩:=a0a h2;obtain ⟨fields,hu,hfo⟩:=b9t hT hkn;obtain ⟨xs,n,_,_,hcll,hxl,hel⟩:=DataW.trod_struct hu hx;have hfl:∀ (i:Nat) (f:Field),fields[i]?=some f→∃ x,DataW.trod enc P W 0 (fun _=>true) true n f.type ((cs.drop f.offset).take (P.cellsOf f.type))=some x:=fun i f hf=>by
    have hi:i<xs.length:=by rw [hxl];exact (Array.getElem?_eq_some_iff.1 hf).1
    exact ⟨_,(hel i f hf).trans (List.getElem?_eq_getElem hi)⟩
   obtain ⟨ts,g1,g2⟩:=e3e (P:=P) (E:=E) (W:=W) (d:=d) (S:=fun b=>b<W.heap.size) (rd:=fun t cs=>∃ x,DataW.trod enc P W 0 (fun _=>true) true n t cs=some x)
    (fun t ht cs ⟨x,hx⟩=>c7y hT d t ht hx) (cs:=cs) h3 hfo h4 (by rw [hcll,hcl,Nat.zero_add];rfl) (fun i f hf=>hfl i f (by simpa using hf))
   exact ⟨ts,by simpa using g1,g2⟩
  ·cases h2
end
section
variable {P:Program} {E:Env} {w:World}
theorem e3f {S:Nat→Prop}:∀ {tys:List Ty} {ts:List T} {vs:List Value},RCs E w S tys ts vs→BCs E w S [] tys ts vs []
 | [],[],[],_=>rfl
 | _ :: _,_ :: _,_ :: _,h=>⟨[],[],rfl,⟨h.1,rfl⟩,e3f h.2⟩
 | [],[],_ :: _,h=>h.elim
 | [],_ :: _,_,h=>h.elim
 | _ :: _,[],_,h=>h.elim
 | _ :: _,_ :: _,[],h=>h.elim
theorem f4h (tys:List Ty):fl [] tys=tys:=by
 unfold fl;rw [List.drop_nil];unfold dT;rfl
def e3g (E:Env) (w:World):List Nat→List Value→List (List T)→Prop
 | [],[],[]=>True
 | t :: ts,v :: vs,x :: xs=>(Shape E t v v.cells.toList∧RCs E w (fun b=>b<w.heap.size) (E.flat t) x v.cells.toList)∧e3g E w ts vs xs
 | _,_,_=>False
theorem d8d:∀ {ts:List Nat} {vs:List Value} {xs:List (List T)},e3g E w ts vs xs→AsOk E w (fun b=>b<w.heap.size) [] ts (xs.map .v) vs []
 | [],[],[],_=>rfl
 | _ :: _,_ :: _,_ :: _,h=>⟨[],[],rfl,⟨_,h.1.1,by rw [List.headD_nil,f4h];exact e3f h.1.2⟩,d8d h.2⟩
 | [],[],_ :: _,h=>h.elim
 | [],_ :: _,_,h=>h.elim
 | _ :: _,[],_,h=>h.elim
 | _ :: _,_ :: _,[],h=>h.elim
theorem e8s {F:Call} (hF:e2h P E F) {f:FuncId} {fn:Func} (hfn:E.fn f=some fn) (hsig:E.sig f=⟨[],[],[],false⟩) {tb:Nat} (hres:fn.resultTypes.toList=[tb]) (hflat:E.flat tb=[.bool]) (hagg:E.isAgg tb=false)
  {xs:List (List T)} {args:List Value} {r:Bool} (hG:GOk E w []) (ha:e3g E w fn.params.toList args xs) (h:F f (xs.map .v)=some ⟨[.b r],[]⟩) :
  Calls P f args.toArray w fun e w'=>e=.returned (.bool r)∧Below w.heap.size w w':=by
 refine (hF f fn _ _ hfn h w args [] (fun b=>b<w.heap.size) List.nodup_nil (fun b hb=>by simp at hb) (fun b hb=>⟨hb,by simp⟩) hG (by rw [hsig];unfold d2z;rw [List.map_nil,List.append_nil];exact d8d ha)).mono ?_
 rintro e w' ⟨v,rfl,br,bv,_,_,hos,htape,hout,hsize,hch,⟨vals,vs,h1,h2,h3⟩,_⟩
 rw [hres] at h1 h2 h3;have h1:vals=[v]:=h1;subst h1;obtain ⟨a,b,rfl,h4,h5,h6⟩:=h2;have h6:b=[]:=h6;subst h6;unfold Shape at h4;rw [hagg] at h4;have h4:a=[v]:=h4;subst h4;simp only [d7d,hflat,hsig,List.append_nil,f4h] at h3;obtain ⟨b1,b2,_,h7,_⟩:=h3;have h7:RC E w' _ .bool (.b r) v:=h7.1;cases h7;exact ⟨rfl,hos,htape,hout,hsize,fun k hk=>hch k hk (by simp)⟩
end
end Go.Proofs.Ytdbopobkdpmpgaa.Ev
