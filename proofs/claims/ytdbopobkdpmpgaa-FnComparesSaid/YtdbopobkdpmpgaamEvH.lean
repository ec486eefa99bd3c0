/- Operations on slices that only read. No condition. -/
import Derived.Test.YtdbopobkdpmpgaamEvG
namespace Go.Proofs.Ytdbopobkdpmpgaa.Ev
open Go
set_option linter.unusedVariables false
section
variable {P:Program} {E:Env} {β:Base} {L:List Nat} {m:Mem} {env:Names} {w w':World} {S:Nat→Prop}
theorem a4x (hT:a1e P E=true) {t e:Nat} (h:b5u E t e=true):P.underlying t=some (.slice e)∧E.known e=true∧1≤(E.ti e).bytes∧(E.flat e).all Ty.notPtr=true∧E.elem t=e:=by
 unfold b5u at h;obtain ⟨h1,h5⟩:=a0a h;obtain ⟨h2,h6⟩:=a0a h1;obtain ⟨h3,h7⟩:=a0a h2;obtain ⟨h4,h8⟩:=a0a h3;have he:=Nat.eq_of_beq_eq_true h8;refine ⟨?_,h6,a2p h5,h4,he⟩;split at h7
 ·rename_i e' hkn;have:e'=e:=by rw [← he];simp [Env.elem,hkn]
  subst this;exact d3t hT hkn
 ·cases h7
theorem M.g6o {n:Nm} {m':Mem} {p p':FP} {e l:Nat} (h:(M.g5p n).ev m p=some ((e,l),m',p')):m=m'∧((∃ d es,m n=some (.row e d es)∧l=es.length)∨∃ es hh,m n=some (.deep e es hh)∧l=es.length):=by
 simp only [M.g5p,M.ev] at h;split at h
 ·rename_i e d es hn;simp only [M.ev,Option.some.injEq,Prod.mk.injEq] at h;obtain ⟨⟨rfl,rfl⟩,rfl,_⟩:=h;exact ⟨rfl,.inl ⟨d,es,hn,rfl⟩⟩
 ·rename_i e es hh hn;simp only [M.ev,Option.some.injEq,Prod.mk.injEq] at h;obtain ⟨⟨rfl,rfl⟩,rfl,_⟩:=h;exact ⟨rfl,.inr ⟨es,hh,hn,rfl⟩⟩
 ·simp [M.ev] at h
theorem Heap.rowLen (h:Heap E β L m env w) {n:Nm} {e l:Nat} (hn:(∃ d es,m n=some (.row e d es)∧l=es.length)∨∃ es hh,m n=some (.deep e es hh)∧l=es.length) :
  ∃ v,env n=some v∧((v=.slice none 0 0∧l=0)∨∃ g cap,v=.slice (some ⟨g,0,none⟩) l cap∧l≤cap):=by
 rcases hn with ⟨d,es,hn,rfl⟩ | ⟨es,hh,hn,rfl⟩
 ·obtain ⟨v,h1,h2⟩:=h.rowOf hn;refine ⟨v,h1,?_⟩;rcases h2 with ⟨rfl,rfl⟩ | ⟨g,cap,rfl,h3,_⟩
  ·exact .inl ⟨rfl,rfl⟩
  ·exact .inr ⟨g,cap,rfl,h3⟩
 ·obtain ⟨v,xs,fps,h1,h2,_⟩:=h.obj n _ hn;refine ⟨v,h1,?_⟩;rcases h2.2 with ⟨rfl,h3⟩ | ⟨g,cap,cur,rfl,_,_,h3,_⟩
  ·exact .inl ⟨rfl,h3⟩
  ·exact .inr ⟨g,cap,rfl,h3⟩
theorem d3x (hT:a1e P E=true) (h:Heap E β L m env w) {t:Nat} {x i:A} {vx vi:Value} (hx:RV E env w (a0b β L m env w) x vx) (hi:RV E env w (a0b β L m env w) i vi) {a:A} {m':Mem} {p p':FP}
  (hp:(c1y E t x i).ev m p=some (a,m',p')):m=m'∧∃ v,(Instr.indexAt t vx vi).run P w=.ok v w∧RV E env w (a0b β L m env w) a v:=by
 unfold c1y at hp;have key:∀ {e:Nat},b5u E t e=true→∀ (g o len cap:Nat) (k:IntKind) (j:Int),0≤j→j<(len:Int)→
   (Instr.indexAt t (.slice (some ⟨g,o,none⟩) len cap) (.int k j)).run P w=.ok (.pointer (some ⟨g,o+j.toNat*E.sz e,none⟩)) w:=by
  intro e he g o len cap k j h0 h1;obtain ⟨hu,hk,_⟩:=a4x hT he;simp [Instr.indexAt,run_underlying hu,asIntOf,h0,h1,b6a hT hk,a8p]
 split at hp
 ·rename_i n k j;obtain ⟨⟨e,l⟩,m1,p1,h1,hq⟩:=M.bind_some hp;obtain ⟨rfl,hn⟩:=M.g6o h1;obtain ⟨he,hq1⟩:=M.g5z hq;obtain ⟨hc,hq2⟩:=M.g5y hq1;cases hq2;obtain ⟨c1,c2⟩:=a0a hc;have c1:=of_decide_eq_true c1;have c2:=of_decide_eq_true c2;have hi:vi=.int k j:=hi;subst hi;obtain ⟨v',hv',hrest⟩:=h.rowLen hn;have hxx:vx=v':=by have:=hx.1.symm.trans hv';cases this;rfl
  subst hxx;rcases hrest with ⟨rfl,rfl⟩ | ⟨g,cap,rfl,_⟩
  ·simp at c2;omega
  ·refine ⟨rfl,_,key he _ _ _ _ _ _ c1 c2,g,l,cap,hv',by omega,by simp⟩
 ·rename_i n e f l k j;obtain ⟨he,hq1⟩:=M.g5z hp;obtain ⟨hc,hq2⟩:=M.g5y hq1;cases hq2;obtain ⟨c1,c2⟩:=a0a hc;have c1:=of_decide_eq_true c1;have c2:=of_decide_eq_true c2;have hi:vi=.int k j:=hi;subst hi;obtain ⟨ga,len,cap,e1,e2,e3⟩:=hx;rcases e3 with ⟨rfl,rfl,hga⟩ | ⟨g,o,c',rfl,_,hpos⟩
  ·simp at c2;omega
  ·obtain ⟨rfl,rfl,hcc⟩:=hpos (by omega);refine ⟨rfl,_,key he _ _ _ _ _ _ c1 c2,g,len,cap,e1,by omega,?_⟩;rw [Nat.add_mul];simp
 ·rename_i e es k j;obtain ⟨he,hq1⟩:=M.g5z hp;obtain ⟨hc,hq2⟩:=M.g5y hq1;cases hq2;obtain ⟨c1,c2⟩:=a0a hc;have c1:=of_decide_eq_true c1;have c2:=of_decide_eq_true c2;have hi:vi=.int k j:=hi;subst hi;have hx:RC E w (a0b β L m env w) (.row e) (.r es) vx:=hx;cases hx with
  | nl=>simp at c2;omega
  | emp=>simp at c2;omega
  | @row _ _ g o cap vs hcap hS hv hr=>
   refine ⟨rfl,_,key he _ _ _ _ _ _ c1 c2,g,o+j.toNat*E.sz e,by rw [Nat.add_zero],fun _=>hS (by rintro rfl;simp at c2;omega),fun i hi=>⟨vs j.toNat i,?_,?_⟩⟩
   ·rw [Nat.add_assoc];exact hv _ _ (by omega) hi
   ·exact hr j.toNat i (by omega) hi
 ·cases hp
theorem f1l (h:Heap E β L m env w) {x:A} {vx:Value} (hx:RV E env w (a0b β L m env w) x vx) {a:A} {m':Mem} {p p':FP} (hp:(f9v x).ev m p=some (a,m',p')) :
  m=m'∧∃ b n c,vx=.slice b n c∧a=.i .i64 (n:Int):=by
 unfold f9v at hp;split at hp
 ·cases hp;have hx:vx=.slice none 0 0:=hx;exact ⟨rfl,_,_,_,hx,rfl⟩
 ·rename_i e es;cases hp;have hx:RC E w (a0b β L m env w) (.row e) (.r es) vx:=hx;cases hx with
  | nl=>exact ⟨rfl,_,_,_,rfl,rfl⟩
  | emp=>exact ⟨rfl,_,_,_,rfl,rfl⟩
  | row=>exact ⟨rfl,_,_,_,rfl,rfl⟩
 ·rename_i n;obtain ⟨⟨e,l⟩,m1,p1,h1,hq⟩:=M.bind_some hp;obtain ⟨rfl,hn⟩:=M.g6o h1;cases hq;obtain ⟨v',hv',hrest⟩:=h.rowLen hn;have hxx:vx=v':=by have:=hx.1.symm.trans hv';cases this;rfl
  subst hxx;rcases hrest with ⟨rfl,rfl⟩ | ⟨g,cap,rfl,_⟩ <;> exact ⟨rfl,_,_,_,rfl,rfl⟩
 ·cases hp;obtain ⟨ga,len,cap,e1,e2,e3⟩:=hx;rcases e3 with ⟨rfl,rfl,hga⟩ | ⟨g,o,c',rfl,_⟩ <;> exact ⟨rfl,_,_,_,rfl,rfl⟩
 ·cases hp
def c6r (E:Env) (env:Names) (w:World) (S:Nat→Prop) (x:Option A) (v:Option Value):Prop:=(x=none∧v=none)∨∃ a u,x=some a∧v=some u∧RV E env w S a u
theorem c6s (q:Bool) {lo hi:Option A} {vlo vhi:Option Value} (hlo:c6r E env w S lo vlo) (hhi:c6r E env w S hi vhi) {len cap:Nat} {a b:Int} (ha:bnd 0 lo=some a) (hb:bnd len hi=some b)
  (h0:0≤a) (hab:a≤b) (hbl:b≤(cap:Int)):(Instr.sliceBounds q len cap vlo vhi none).run P w=.ok (a.toNat,b.toNat,cap) w:=by
 have hbound:∀ (k:IntKind) (i:Int) (y:Nat) (c:BoundsCode),0≤i→i≤(y:Int)→(Instr.sliceBound (.int k i) y c).run P w=.ok i.toNat w:=by
  intro k i y c h1 h2;simp [Instr.sliceBound,asIntOf,h1,h2]
 unfold Instr.sliceBounds;rcases hhi with ⟨rfl,rfl⟩ | ⟨x,u,rfl,rfl,hx⟩
 ·simp only [bnd,Option.some.injEq] at hb;subst hb;rcases hlo with ⟨rfl,rfl⟩ | ⟨x,u,rfl,rfl,hx⟩
  ·simp only [bnd,Option.some.injEq] at ha;subst ha;simp
  ·cases x <;> simp only [bnd,Option.some.injEq] at ha <;> try (cases ha;done)
   subst ha;have hx:u=.int _ _:=hx;subst hx;simp [hbound _ _ _ _ h0 hab]
 ·cases x <;> simp only [bnd,Option.some.injEq] at hb <;> try (cases hb;done)
  subst hb;have hx:u=.int _ _:=hx;subst hx;have hb0:(0:Int)≤_:=Int.le_trans h0 hab;have hbc:=fun c=>hbound ‹_› _ cap c hb0 hbl;rcases hlo with ⟨rfl,rfl⟩ | ⟨x,u,rfl,rfl,hx⟩
  ·simp only [bnd,Option.some.injEq] at ha;subst ha;simp [hbc]
  ·cases x <;> simp only [bnd,Option.some.injEq] at ha <;> try (cases ha;done)
   subst ha;have hx:u=.int _ _:=hx;subst hx;simp [hbc,hbound _ _ _ _ h0 (show _≤((Int.toNat _:Nat):Int) by rw [Int.toNat_of_nonneg hb0];exact hab)]
theorem c6t {lo hi:Option A} {vlo vhi:Option Value} (hlo:c6r E env w S lo vlo) (hhi:c6r E env w S hi vhi) {len cap:Nat} {a b:Int} (ha:bnd 0 lo=some a) (hb:bnd len hi=some b)
 (h0:0≤a) (hab:a≤b) (hbl:b≤(cap:Int)):(Instr.sliceBounds true len cap vlo vhi none).run P w=.ok (a.toNat,b.toNat,cap) w:=c6s true hlo hhi ha hb h0 hab hbl
theorem b3r {lo hi:Option A} {vlo vhi:Option Value} (hlo:c6r E env w S lo vlo) (hhi:c6r E env w S hi vhi) {len cap:Nat} {a b:Int} (ha:bnd 0 lo=some a) (hb:bnd len hi=some b)
 (h0:0≤a) (hab:a≤b) (hbl:b≤(len:Int)) (hlc:len≤cap):(Instr.sliceBounds true len cap vlo vhi none).run P w=.ok (a.toNat,b.toNat,cap) w:=c6t hlo hhi ha hb h0 hab (by omega)
theorem a8t (hT:a1e P E=true) {t e:Nat} (he:b5u E t e=true) {vlo vhi:Option Value} {b:Option Addr} {len cap l h:Nat} (hb:(Instr.sliceBounds true len cap vlo vhi none).run P w=.ok (l,h,cap) w) :
  (Instr.sliceAt t (.slice b len cap) vlo vhi none).run P w=.ok (.slice (if cap=l then b else b.map (·.add (l*E.sz e))) (h - l) (cap - l)) w:=by
 obtain ⟨hu,hk,_⟩:=a4x hT he;simp [Instr.sliceAt,Instr.slice,run_underlying hu,hb,b6a hT hk]
theorem e7i (hT:a1e P E=true) (h:Heap E β L m env w) {t:Nat} {x:A} {vx:Value} (hx:RV E env w (a0b β L m env w) x vx) {lo hi:Option A} {vlo vhi:Option Value}
  (hlo:c6r E env w (a0b β L m env w) lo vlo) (hhi:c6r E env w (a0b β L m env w) hi vhi) {a:A} {m':Mem} {p p':FP}
  (hp:(e6p E t x lo hi).ev m p=some (a,m',p')):m=m'∧∃ v,(Instr.sliceAt t vx vlo vhi none).run P w=.ok v w∧RV E env w (a0b β L m env w) a v:=by
 unfold e6p at hp;split at hp
 ·rename_i s;split at hp
  ·rename_i a' b' ha hb;obtain ⟨hk,hq1⟩:=M.g5z hp;obtain ⟨hc,hq2⟩:=M.g5y hq1;cases hq2;obtain ⟨c0,c3⟩:=a0a hc;obtain ⟨c1,c2⟩:=a0a c0;have c1:=of_decide_eq_true c1;have c2:=of_decide_eq_true c2;have c3:=of_decide_eq_true c3;have hx:vx=.string s:=hx;subst hx;have hbd:=c6s (P:=P) (w:=w) false hlo hhi ha hb c1 c2 (cap:=s.size) (by omega);refine ⟨rfl,.string (s.extract a'.toNat b'.toNat),?_,rfl⟩;simp [Instr.sliceAt,Instr.slice,run_underlying (d1o hT (c5r hk)),hbd]
  ·cases hp
 ·rename_i e es;split at hp
  ·rename_i a' b' ha hb;obtain ⟨he,hq1⟩:=M.g5z hp;obtain ⟨hc,hq2⟩:=M.g5y hq1;cases hq2;obtain ⟨c0,c3⟩:=a0a hc;obtain ⟨c1,c2⟩:=a0a c0;have c1:=of_decide_eq_true c1;have c2:=of_decide_eq_true c2;have c3:=of_decide_eq_true c3;have hx:RC E w (a0b β L m env w) (.row e) (.r es) vx:=hx;cases hx with
   | nl=>
    have hbd:=b3r (P:=P) hlo hhi ha hb c1 c2 c3 (Nat.le_refl 0);have:=a8t hT he (b:=none) hbd;refine ⟨rfl,_,this,?_⟩;have e1:a'.toNat=0:=by simp at c3;omega
    have e2:b'.toNat=0:=by simp at c3;omega
    rw [e1,e2];simp only [Nat.sub_self,List.take_zero];exact RC.nl
   | @emp _ ad cap=>
    have hbd:=b3r (P:=P) hlo hhi ha hb c1 c2 c3 (Nat.zero_le cap);have:=a8t hT he (b:=some ad) hbd;refine ⟨rfl,_,this,?_⟩;have e2:b'.toNat=0:=by simp at c3;omega
    rw [e2];simp only [Nat.zero_sub,List.take_zero];split
    ·exact RC.emp
    ·exact RC.emp
   | @row _ _ g o cap vs hcap hS hv hr=>
    have hbd:=b3r (P:=P) hlo hhi ha hb c1 c2 c3 hcap;have:=a8t hT he (b:=some ⟨g,o,none⟩) hbd;refine ⟨rfl,_,this,?_⟩;have hab:a'.toNat+(b'.toNat - a'.toNat)≤es.length:=by omega
    split
    ·rename_i hcl;have e1:b'.toNat - a'.toNat=0:=by omega
     rw [e1];simp only [List.take_zero];exact RC.row (es:=[]) (fun _ _=>undef) (Nat.zero_le _) (fun h=>absurd rfl h) (fun i j hi=>by simp at hi) (fun i j hi=>by simp at hi)
    ·simp only [Option.map_some,a8p];exact RC.part _ _ hab vs hS hv hr _ (by omega)
  ·cases hp
 ·rename_i n;obtain ⟨⟨e,d,es⟩,m1,p1,h1,hq⟩:=M.bind_some hp;obtain ⟨hn,rfl⟩:=M.g5v h1;simp only at hq;split at hq
  ·rename_i a' b' ha hb;obtain ⟨he,hq1⟩:=M.g5z hq;obtain ⟨hc,hq2⟩:=M.g5y hq1;cases hq2;obtain ⟨c0,c3⟩:=a0a hc;obtain ⟨c1,c2⟩:=a0a c0;have c1:=of_decide_eq_true c1;have c2:=of_decide_eq_true c2;have c3:=of_decide_eq_true c3;obtain ⟨v',hv',hrest⟩:=h.rowOf hn;have hxx:vx=v':=by have:=hx.1.symm.trans hv';cases this;rfl
   subst hxx;rcases hrest with ⟨rfl,rfl⟩ | ⟨g,cap,rfl,hcap,_⟩
   ·have hbd:=b3r (P:=P) hlo hhi ha hb c1 c2 c3 (Nat.le_refl 0);have:=a8t hT he (b:=none) hbd;refine ⟨rfl,_,this,none,0,0,hv',?_,.inl ⟨?_,?_,rfl⟩⟩
    ·simp at c3;omega
    ·simp at c3;omega
    ·have e1:a'.toNat=0:=by simp at c3;omega
     have e2:b'.toNat=0:=by simp at c3;omega
     rw [e1,e2];rfl
   ·have hbd:=b3r (P:=P) hlo hhi ha hb c1 c2 c3 hcap;have:=a8t hT he (b:=some ⟨g,0,none⟩) hbd;refine ⟨rfl,_,this,_,_,_,hv',by omega,.inr ?_⟩;by_cases hcl:cap=a'.toNat
    ·rw [if_pos hcl];exact ⟨g,0,cap - a'.toNat,rfl,by omega,fun h=>(by omega:False).elim⟩
    ·rw [if_neg hcl];refine ⟨g,0+a'.toNat*E.sz e,cap - a'.toNat,by simp only [Option.map_some,a8p],by omega,fun _=>⟨rfl,Nat.zero_add _,by omega⟩⟩
  ·cases hq
 ·rename_i n e₁ f l;obtain ⟨⟨e,d,es⟩,m1,p1,h1,hq⟩:=M.bind_some hp;obtain ⟨hn,rfl⟩:=M.g5v h1;simp only at hq;split at hq
  ·rename_i a' b' ha hb;obtain ⟨he0,hq1⟩:=M.g5z hq;obtain ⟨he,hee⟩:=a0a he0;cases Nat.eq_of_beq_eq_true hee;obtain ⟨hc,hq2⟩:=M.g5y hq1;cases hq2;obtain ⟨c0,c4⟩:=a0a hc;obtain ⟨c5,c3⟩:=a0a c0;obtain ⟨c1,c2⟩:=a0a c5;have c1:=of_decide_eq_true c1;have c2:=of_decide_eq_true c2;have c3:=of_decide_eq_true c3;have c4:=of_decide_eq_true c4;obtain ⟨ga,len,cap,e1,e2,e3⟩:=hx;obtain ⟨v',hv',hrest⟩:=h.rowOf hn;rw [e1] at hv';cases hv';rcases hrest with ⟨h5,h6⟩ | ⟨g,cap',h5,hcap,_⟩
   ·subst h6;simp at c4
   ·cases h5;rcases e3 with ⟨rfl,rfl,hga⟩ | ⟨g',o,c',rfl,hlc,hpos⟩
    ·cases hga
    ·obtain ⟨hg,rfl,hcc⟩:=hpos c4;cases hg;have hbd:=c6t (P:=P) (cap:=c') hlo hhi ha hb c1 c2 (by omega);have:=a8t hT he (b:=some ⟨g,f*E.sz e₁,none⟩) hbd;refine ⟨rfl,_,this,_,_,_,e1,by omega,.inr ?_⟩;by_cases hcl:c'=a'.toNat
     ·rw [if_pos hcl];exact ⟨g,f*E.sz e₁,c' - a'.toNat,rfl,by omega,fun h=>(by omega:False).elim⟩
     ·rw [if_neg hcl];refine ⟨g,f*E.sz e₁+a'.toNat*E.sz e₁,c' - a'.toNat,by simp only [Option.map_some,a8p],by omega,fun _=>⟨rfl,by rw [Nat.add_mul],by omega⟩⟩
  ·cases hq
 ·cases hp
end
end Go.Proofs.Ytdbopobkdpmpgaa.Ev
