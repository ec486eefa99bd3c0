/- A region whose operations come in the text's order. No condition. -/
import Derived.Test.YtdbopobkdpmpgaamEvM
namespace Go.Proofs.Ytdbopobkdpmpgaa.Ev
open Go
set_option linter.unusedVariables false
section
variable {P:Program} {E:Env} {β:Base} {m:Mem} {env:Names} {w w':World} {S:Nat→Prop} {N:Nat} {d0:List Deferred}
def b9d (E:Env) (F:Call) (all:List Oper) (o:Oper) (σ:St):Option (St×FP):=
 match o.guard with
 | none=>c1v E F σ o fun σ' p=>some (σ',p)
 | some (j,want)=>
  match e2e all j with
  | none=>none
  | some s=>
   match σ.sl s with
   | .b x=>bif x == want then c1v E F σ o fun σ' p=>some (σ',p) else some (σ.put o.dst .skip,⟨[],[]⟩)
   | .skip=>some (σ.put o.dst .skip,⟨[],[]⟩)
   | _=>none
theorem a4h {σ:St} {s:Nat} {a:A} (h:σ.sl s=a):σ.put (some s) a=σ:=by
 obtain ⟨sl,mem⟩:=σ;simp only [St.put,St.mk.injEq,and_true];funext j;by_cases hj:j=s
 ·subst hj;simp;exact h.symm
 ·have:Nat.beq j s=false:=by
   cases hb:Nat.beq j s
   ·rfl
   ·exact absurd (Nat.eq_of_beq_eq_true hb) hj
  rw [this];rfl
theorem c2f {E:Env} {F:Call} {R:Type} {σ:St} {o:Oper} {K:St→FP→Option R} {r:R} (h:c1v E F σ o K=some r):∃ σ' p,c1v E F σ o (fun σ' p=>some (σ',p))=some (σ',p)∧K σ' p=some r:=by
 unfold c1v at h ⊢;split at h
 ·rename_i f args more hcal;split at h
  ·rename_i e hdel;split at h
   ·obtain ⟨a,m1,p1,ha,hK⟩:=M.g5t h;refine ⟨_,_,?_,hK⟩;rw [M.g5s,ha]
   ·cases h
  ·split at h
   ·cases h
   ·rename_i fn hfn;obtain ⟨hc,h1⟩:=a1z h;obtain ⟨⟨ins,l,seen⟩,m1,p1,ha,h2⟩:=M.g5t h1;simp only at h2;split at h2
    ·cases h2
    ·rename_i out hout;obtain ⟨a,m3,p3,hb,hK⟩:=M.g5t h2;refine ⟨_,_,?_,hK⟩;rw [hc,cond_true,M.g5s,ha];simp only [hout];rw [M.g5s,hb]
 ·obtain ⟨a,m1,p1,ha,hK⟩:=M.g5t h;refine ⟨_,_,?_,hK⟩;rw [M.g5s,ha]
theorem b2h {E:Env} {F:Call} {R:Type} {all:List Oper} {o:Oper} {os:List Oper} {σ:St} {ps:List FP} {K:St→List FP→Option R} {r:R} (h:a3i E F all (o :: os) σ ps K=some r) :
  ∃ σ' p,b9d E F all o σ=some (σ',p)∧a3i E F all os σ' (p :: ps) K=some r:=by
 unfold a3i at h;unfold b9d;split at h
 ·rename_i hg;simp only [hg];exact c2f h
 ·rename_i j want hg;simp only [hg];split at h
  ·cases h
  ·rename_i s hs;simp only [hs];split at h
   ·rename_i x hx;simp only [hx];cases want <;> cases x <;> simp only [cond_true,cond_false] at h
    ·rw [a4h hx] at h;exact c2f h
    ·rw [a4h hx] at h;exact ⟨_,_,rfl,h⟩
    ·rw [a4h hx] at h;exact ⟨_,_,rfl,h⟩
    ·rw [a4h hx] at h;exact c2f h
   ·rename_i hx;simp only [hx];exact ⟨_,_,rfl,h⟩
   ·cases h
theorem d4d (hT:a1e P E=true) (hTF:TabF P E) {F:Call} (hF:e2h P E F) {σ σ':St} {ac:Act} {ops:Array Oper} {i:Nat} {o:Oper} (hi:ops[i]?=some o) {p:FP} (hr:Rel E β N d0 σ ac w) (hd:∀ d,o.dst=some d→d<N)
  (h:b9d E F ops.toList o σ=some (σ',p)) {K:Act→World→Prop} {Q:Exit→Act→World→Prop} (hK:∀ a' w',Rel E β N d0 σ' a' w'→K a' w'):wpOp P ops Q i K ac w:=by
 have hstep:c1v E F σ o (fun σ' p=>some (σ',p))=some (σ',p)→o.wp P ac w K Q:=fun hs=>by
  obtain ⟨σ2,p2,h1,h2⟩:=f5u hT hTF hF hr hd hs;cases h1;exact h2 K Q hK
 have hskip:K (ac.put o.dst undef) w∨True:=.inr trivial;unfold wpOp;simp only [hi];unfold b9d at h;split at h
 ·rename_i hg;have hw:Region.wanted o (yielded ops ac.tmps)=true:=by simp [Region.wanted,hg]
  rw [if_pos hw];exact .inl (hstep h)
 ·rename_i j want hg;split at h
  ·cases h
  ·rename_i s hs;have hsl:(ops[j]?).bind (·.dst)=some s:=by
    unfold e2e at hs;rw [Array.getElem?_toList] at hs;cases hj:ops[j]? with
    | none=>rw [hj] at hs;cases hs
    | some oj=>rw [hj] at hs;exact hs
   obtain ⟨⟨env,hh,hpin,hsv⟩,hsz,hdf⟩:=hr;have hv:=hsv s;have hskip:∀ (hw:¬ Region.wanted o (yielded ops ac.tmps)=true),some (σ.put o.dst .skip,(⟨[],[]⟩:FP))=some (σ',p)→(if Region.wanted o (yielded ops ac.tmps)=true then o.wp P ac w K Q∨o.asks P ac w∧LetsOut Q else K (ac.put o.dst undef) w):=by
    intro hw he;cases he;rw [if_neg hw];exact hK _ _ (Rel.put (σ:=σ) hsz hdf hd hh hpin hsv (x:=.skip) rfl)
   split at h
   ·rename_i x hx;rw [hx] at hv;have hv:ac.eval (.tmp s)=.bool x:=hv;have hy:yielded ops ac.tmps j=some x:=by
     unfold yielded;rw [hsl];simp only [Option.bind_some];simp only [Act.eval] at hv;cases hts:ac.tmps[s]? with
     | none=>simp [hts,undef] at hv
     | some u=>simp [hts] at hv;rw [hv]
    cases hxw:(x == want) with
    | true=>
     rw [hxw] at h;have hw:Region.wanted o (yielded ops ac.tmps)=true:=by
      have:x=want:=by simpa using hxw
      simp [Region.wanted,hg,hy,this]
     rw [if_pos hw];exact .inl (hstep h)
    | false=>
     rw [hxw] at h;refine hskip (fun hw=>?_) h;have:¬ x=want:=by simpa using hxw
     simp [Region.wanted,hg,hy,this] at hw
   ·rename_i hx;rw [hx] at hv;have hv:ac.eval (.tmp s)=undef:=hv;have hy:yielded ops ac.tmps j=none:=by
     unfold yielded;rw [hsl];simp only [Option.bind_some];simp only [Act.eval] at hv;cases hts:ac.tmps[s]? with
     | none=>rfl
     | some u=>simp [hts] at hv;rw [hv];rfl
    refine hskip (fun hw=>?_) h;simp [Region.wanted,hg,hy] at hw
   ·cases h
theorem e5a (hT:a1e P E=true) (hTF:TabF P E) {F:Call} (hF:e2h P E F) {R:Type} {ops:Array Oper} {K:St→List FP→Option R} {r:R} {Q:Exit→Act→World→Prop}
  (hK:∀ σ' ps',K σ' ps'=some r→∀ a' w',Rel E β N d0 σ' a' w'→Q .normal a' w') :
  ∀ (os:List Oper) (i:Nat) (σ:St) (ps:List FP) (ac:Act) (w:World),ops.toList.drop i=os→(∀ o,o∈os→∀ d,o.dst=some d→d<N)→Rel E β N d0 σ ac w→
   a3i E F ops.toList os σ ps K=some r→wpOps P ops Q (List.range' i os.length) ac w
 | [],i,σ,ps,ac,w,_,_,hr,h=>by
  unfold a3i at h;exact hK _ _ h _ _ hr
 | o :: os,i,σ,ps,ac,w,hdrop,hd,hr,h=>by
  obtain ⟨σ',p,h1,h2⟩:=b2h h;have hi:ops[i]?=some o:=by
   have:=congrArg List.head? hdrop;rw [List.head?_drop] at this;simpa using this
  have hdrop':ops.toList.drop (i+1)=os:=by
   have:=congrArg List.tail hdrop;simpa [List.tail_drop] using this
  rw [List.length_cons,List.range'_succ,wpOps_cons];exact d4d hT hTF hF hi hr (hd o List.mem_cons_self) h1 fun a' w' hr'=>
   e5a hT hTF hF hK os (i+1) σ' _ a' w' hdrop' (fun o ho=>hd o (List.mem_cons_of_mem _ ho)) hr' h2
end
end Go.Proofs.Ytdbopobkdpmpgaa.Ev
