/- Regions that draw their order: every order that they may take ends alike. No condition but that the program may draw any order. -/
import Derived.Test.YtdbopobkdpmpgaamEvT
namespace Go.Proofs.Ytdbopobkdpmpgaa.Ev
open Go
set_option linter.unusedVariables false
section
variable {P:Program} {E:Env} {F:Call} {σ τ:St}
theorem c0e {sl:Nat→A} {m:Mem} {d s:Nat} {a:A} (h:s=d):(St.put ⟨sl,m⟩ (some d) a).sl s=a:=by
 subst h;simp [St.put]
theorem c0f {sl:Nat→A} {m:Mem} {dst:Option Nat} {s:Nat} {a:A} (h:dst≠some s):(St.put ⟨sl,m⟩ dst a).sl s=sl s:=by
 cases dst with
 | none=>rfl
 | some d=>
  have:Nat.beq s d=false:=by
   cases hb:Nat.beq s d
   ·rfl
   ·exact absurd (congrArg some (Nat.eq_of_beq_eq_true hb).symm) h
  simp [St.put,this]
theorem d4k {sl:Nat→A} {m:Mem} {dst:Option Nat} {a:A}:(St.put ⟨sl,m⟩ dst a).mem=m:=by cases dst <;> rfl
theorem e5g {all:List Oper} {o:Oper} {σ':St} {p:FP} (h:b9d E F all o σ=some (σ',p)) :
  (∀ s,o.dst≠some s→σ'.sl s=σ.sl s)∧(∀ n,n ∉ p.wr→σ'.mem n=σ.mem n)∧
  ∀ τ:St,(∀ s,s∈d3f all o→τ.sl s=σ.sl s)→(∀ n,n∈p.rd→τ.mem n=σ.mem n)→∃ τ',b9d E F all o τ=some (τ',p)∧
   (∀ s,o.dst=some s→τ'.sl s=σ'.sl s)∧(∀ s,o.dst≠some s→τ'.sl s=τ.sl s)∧(∀ n,n∈p.wr→τ'.mem n=σ'.mem n)∧∀ n,n ∉ p.wr→τ'.mem n=τ.mem n:=by
 have hstep:∀ {σ' p},c1v E F σ o (fun σ' p=>some (σ',p))=some (σ',p)→(∀ s,o.dst≠some s→σ'.sl s=σ.sl s)∧(∀ n,n ∉ p.wr→σ'.mem n=σ.mem n)∧
   ∀ τ:St,(∀ s,s∈d3f all o→τ.sl s=σ.sl s)→(∀ n,n∈p.rd→τ.mem n=σ.mem n)→∃ τ',c1v E F τ o (fun σ' p=>some (σ',p))=some (τ',p)∧
   (∀ s,o.dst=some s→τ'.sl s=σ'.sl s)∧(∀ s,o.dst≠some s→τ'.sl s=τ.sl s)∧(∀ n,n∈p.wr→τ'.mem n=σ'.mem n)∧∀ n,n ∉ p.wr→τ'.mem n=τ.mem n:=by
  intro σ' p h;obtain ⟨a,m',hev,rfl⟩:=f5z h;obtain ⟨rd,wr,hp,h2,h3⟩:=M.g6s _ hev;simp only [List.append_nil] at hp;subst hp;refine ⟨fun s hs=>c0f hs,fun n hn=>by rw [d4k];exact h2 n hn,fun τ hsl hm=>?_⟩;obtain ⟨m2',k1,k2,k3⟩:=h3 τ.mem hm;rw [e1i (τ:=τ) (fun i hi=>(hsl i (List.mem_append_left _ hi)).symm)] at k1;refine ⟨_,f6a k1,fun s hs=>?_,fun s hs=>c0f hs,fun n hn=>by rw [d4k,d4k];exact k2 n hn,fun n hn=>by rw [d4k];exact k3 n hn⟩;rw [hs,c0e rfl,c0e rfl]
 have hskip:∀ (τ:St),some (τ.put o.dst .skip,(⟨[],[]⟩:FP))=some (τ.put o.dst .skip,(⟨[],[]⟩:FP)):=fun _=>rfl;unfold b9d at h;split at h
 ·rename_i hg;have he:∀ τ,b9d E F all o τ=c1v E F τ o (fun σ' p=>some (σ',p)):=fun τ=>by unfold b9d;simp only [hg]
  simp only [he];exact hstep h
 ·rename_i j want hg;split at h
  ·cases h
  ·rename_i s hs;have he:∀ τ:St,b9d E F all o τ=(match τ.sl s with | .b x=>bif x == want then c1v E F τ o (fun σ' p=>some (σ',p)) else some (τ.put o.dst .skip,⟨[],[]⟩) | .skip=>some (τ.put o.dst .skip,⟨[],[]⟩) | _=>none):=fun τ=>by
    unfold b9d;simp only [hg,hs];generalize τ.sl s=z;cases z <;> rfl
   simp only [he];have hlook:s∈d3f all o:=by
    unfold d3f;rw [hg];exact List.mem_append_right _ (by simp [hs])
   have hsk:∀ {σ' p},some (σ.put o.dst .skip,(⟨[],[]⟩:FP))=some (σ',p)→(∀ s,o.dst≠some s→σ'.sl s=σ.sl s)∧(∀ n,n ∉ p.wr→σ'.mem n=σ.mem n)∧
     ∀ τ:St,∃ τ',some (τ.put o.dst .skip,(⟨[],[]⟩:FP))=some (τ',p)∧(∀ s,o.dst=some s→τ'.sl s=σ'.sl s)∧(∀ s,o.dst≠some s→τ'.sl s=τ.sl s)∧(∀ n,n∈p.wr→τ'.mem n=σ'.mem n)∧∀ n,n ∉ p.wr→τ'.mem n=τ.mem n:=by
    intro σ' p he;cases he;refine ⟨fun s hs=>c0f hs,fun n _=>by cases o.dst <;> rfl,fun τ=>⟨_,rfl,fun s hs=>?_,fun s hs=>c0f hs,fun n hn=>(by simp at hn),fun n _=>by cases o.dst <;> rfl⟩⟩;rw [hs,c0e rfl,c0e rfl]
   split at h
   ·rename_i x hx;cases hxw:(x == want) with
    | true=>
     rw [hxw] at h;obtain ⟨h1,h2,h3⟩:=hstep h;refine ⟨h1,h2,fun τ hsl hm=>?_⟩;rw [hsl s hlook,hx];simp only [hxw,cond_true];exact h3 τ hsl hm
    | false=>
     rw [hxw] at h;obtain ⟨h1,h2,h3⟩:=hsk h;refine ⟨h1,h2,fun τ hsl hm=>?_⟩;rw [hsl s hlook,hx];simp only [hxw,cond_false];exact h3 τ
   ·rename_i hx;obtain ⟨h1,h2,h3⟩:=hsk h;refine ⟨h1,h2,fun τ hsl hm=>?_⟩;rw [hsl s hlook,hx];exact h3 τ
   ·cases h
theorem c7x {all:List Oper}:∀ {os:List Oper} {σ σ':St} {ps ps':List FP},a3i E F all os σ ps (fun σ' ps=>some (σ',ps))=some (σ',ps')→
  ∃ (sts:Nat→St) (fps:Nat→FP),sts 0=σ∧sts os.length=σ'∧(∀ i o,os[i]?=some o→b9d E F all o (sts i)=some (sts (i+1),fps i))∧ps'.reverse=ps.reverse++(List.range os.length).map fps
 | [],σ,σ',ps,ps',h=>by cases h;exact ⟨fun _=>σ,fun _=>⟨[],[]⟩,rfl,rfl,fun i o hi=>by simp at hi,by simp⟩
 | o :: os,σ,σ',ps,ps',h=>by
  obtain ⟨σ1,p,h1,h2⟩:=b2h h;obtain ⟨sts,fps,g1,g2,g3,g4⟩:=c7x h2;refine ⟨fun | 0=>σ | i+1=>sts i,fun | 0=>p | i+1=>fps i,rfl,g2,fun i o' hi=>?_,?_⟩
  ·cases i with
   | zero=>simp at hi;subst hi;simp only [];rw [g1];exact h1
   | succ i=>exact g3 i o' (by simpa using hi)
  ·rw [g4];simp [List.range_succ_eq_map,List.map_map,Function.comp_def]
theorem b7m {D:Nat→Prop}:∀ {os:List Oper} {acc:List Nat} {j0:Nat},acc.length=j0→(∀ i o,os[i]?=some o→D (j0+i)→∀ e,e∈o.after.toList→Region.binds .any e=true→D e.on)→
  (∀ k i,k<acc.length→D k→Nat.testBit (acc.getD k 0) i=true→D i)→
  ∀ k i,k<j0+os.length→D k→Nat.testBit ((a9v os acc).getD k 0) i=true→D i
 | [],acc,j0,hl,hE,hA=>fun k i hk hD hb=>hA k i (by simp at hk;omega) hD hb
 | o :: os,acc,j0,hl,hE,hA=>by
  unfold a9v;intro k i hk hD hb;refine b7m (os:=os) (j0:=j0+1) (by simp [hl]) (fun i' o' hi'=>by
   have:=hE (i'+1) o' (by simpa using hi');rw [show j0+1+i'=j0+(i'+1) by omega];exact this) ?_ k i (by simp at hk;omega) hD hb
  intro k' i' hk' hD' hb';by_cases hlt:k'<acc.length
  ·refine hA k' i' hlt hD' ?_;simpa [List.getD_eq_getElem?_getD,List.getElem?_append_left hlt] using hb'
  ·have hkk:k'=acc.length:=by simp at hk';omega
   subst hkk;have hfold:∀ (es:List Edge) (s:Nat),(∀ e,e∈es→Region.binds .any e=true→D e.on)→(Nat.testBit s i'=true→D i')→
     Nat.testBit (es.foldl (fun s e=>bif Region.binds .any e then Nat.lor (Nat.lor s (2 ^ e.on)) (acc.getD e.on 0) else s) s) i'=true→D i':=by
    intro es
    induction es with
    | nil=>intro s _ hs h;exact hs h
    | cons e es ih=>
     intro s he hs h;refine ih _ (fun e' he'=>he e' (List.mem_cons_of_mem _ he')) ?_ h;intro h5;cases hbd:Region.binds .any e with
     | false=>simp only [hbd,cond_false] at h5;exact hs h5
     | true=>
      simp only [hbd,cond_true] at h5;have hDe:=he e List.mem_cons_self hbd;change Nat.testBit ((s ||| 2 ^ e.on) ||| acc.getD e.on 0) i'=true at h5;rw [Nat.testBit_or,Nat.testBit_or] at h5;simp only [Bool.or_eq_true] at h5;rcases h5 with (h5 | h5) | h5
      ·exact hs h5
      ·rw [Nat.testBit_two_pow] at h5;have:e.on=i':=by simpa using h5
       rw [← this];exact hDe
      ·by_cases hon:e.on<acc.length
       ·exact hA e.on i' hon hDe h5
       ·rw [List.getD_eq_getElem?_getD,List.getElem?_eq_none (by omega)] at h5;simp at h5
   have hb'':Nat.testBit (o.after.toList.foldl (fun s e=>bif Region.binds .any e then Nat.lor (Nat.lor s (2 ^ e.on)) (acc.getD e.on 0) else s) 0) i'=true:=by
    simpa [List.getD_eq_getElem?_getD] using hb'
   exact hfold _ 0 (hE 0 o (by simp) (by rw [← hl];simpa using hD')) (fun h=>by simp at h) hb''
end
end Go.Proofs.Ytdbopobkdpmpgaa.Ev
