/- A region that draws its order answers as the text's order does. No condition but that the program may draw any order. -/
import Derived.Test.YtdbopobkdpmpgaamEvV
namespace Go.Proofs.Ytdbopobkdpmpgaa.Ev
open Go
set_option linter.unusedVariables false
section
variable {P:Program} {E:Env} {F:Call}
theorem d4l {p p':Nat→Bool} {i:Nat} (hp:p i=true) (hp':p' i=false) (h:∀ j,p' j=true→p j=true):∀ {l:List Nat},i∈l→l.countP p'<l.countP p
 | x :: xs,hi=>by
  have hle:∀ l:List Nat,l.countP p'≤l.countP p:=fun l=>List.countP_mono_left (fun x _=>h x);rw [List.countP_cons,List.countP_cons];rcases List.mem_cons.1 hi with rfl | hi
  ·rw [hp,hp'];have:=hle xs;simp;omega
  ·have ih:=d4l hp hp' h hi;cases hx:p' x with
   | true=>rw [h x hx];simp;omega
   | false=>cases p x <;> simp <;> omega
theorem b1g {a b:List Nm} (h:e6s a b=false) {n:Nm} (ha:n∈a) (hb:n∈b):False:=by
 have:e6s a b=true:=List.any_eq_true.2 ⟨n,ha,List.any_eq_true.2 ⟨n,hb,a7n n⟩⟩;rw [this] at h;cases h
theorem d2d {x:Nat} {l:List Nat} (h:f3v x l=false) (hx:x∈l):False:=by
 have:f3v x l=true:=List.any_eq_true.2 ⟨x,hx,Nat.beq_refl x⟩;rw [this] at h;cases h
theorem c0g:∀ {os:List Oper} {j0:Nat},c6l os j0=true→∀ i o,os[i]?=some o→∀ e,e∈o.after.toList→Region.binds .any e=true→e.on<j0+i
 | o :: os,j0,h,0,o',hi,e,he,hb=>by
  simp at hi;subst hi;have:=List.all_eq_true.1 (a0a h).1 e he;rw [hb] at this;simpa using this
 | o :: os,j0,h,i+1,o',hi,e,he,hb=>by
  have:=c0g (a0a h).2 i o' (by simpa using hi) e he hb;omega
 | [],_,_,i,o',hi,_,_,_=>by simp at hi
theorem e3d {ops:Array Oper} {listed:Array Bool} {i:Nat} (hc:(List.range ops.size).countP (fun i=>!listed.getD i true)≤0) (hs:listed.size=ops.size) (hi:i<ops.size) (hn:¬ listed.getD i false=true):False:=by
 have:0<(List.range ops.size).countP (fun i=>!listed.getD i true):=List.countP_pos_iff.2 ⟨i,List.mem_range.2 hi,by
  have:i<listed.size:=by omega
  simp [Array.getD_eq_getD_getElem?,Array.getElem?_eq_getElem this] at hn ⊢;exact hn⟩
 omega
theorem e8r (hT:a1e P E=true) (hTF:TabF P E) (hF:e2h P E F) {β:Base} {N:Nat} {d0:List Deferred} {ops:Array Oper} {σ σ':St} {ps:List FP} {Q:Exit→Act→World→Prop} {i0 i1:Nat}
  (h01:i0≤i1) (h1n:i1≤ops.size) (hdst:∀ o,o∈ops.toList→∀ d,o.dst=some d→d<N) (hedge:c6l ops.toList 0=true)
  (hev:a3i E F ops.toList ((ops.toList.take i1).drop i0) σ [] (fun σ' ps=>some (σ',ps))=some (σ',ps))
  (hpairs:d3l ops.toList (a9v ops.toList []) ps.reverse i0 i1=true)
  (hbar:∀ k j,i1≤k→k<ops.size→j<i1→Nat.testBit ((a9v ops.toList []).getD k 0) j=true)
  (hfin:∀ (fuel:Nat) (listed:Array Bool) (a:Act) (w:World),listed.size=ops.size→(List.range ops.size).countP (fun i=>!listed.getD i true)≤fuel→
   (∀ k,k<i1→listed.getD k false=true)→(∀ k,i1≤k→k<ops.size→¬ listed.getD k false=true)→Rel E β N d0 σ' a w→wpAny P .any ops Q fuel listed a w) :
  ∀ (fuel:Nat) (listed:Array Bool) (a:Act) (w:World),listed.size=ops.size→(List.range ops.size).countP (fun i=>!listed.getD i true)≤fuel→
   (∀ k,k<i0→listed.getD k false=true)→(∀ k,i0≤k→k<ops.size→¬ listed.getD k false=true)→Rel E β N d0 σ a w→wpAny P .any ops Q fuel listed a w:=by
 obtain ⟨sts0,fps0,h0,hn,hrun0,hps⟩:=c7x hev;have hlen:((ops.toList.take i1).drop i0).length=i1 - i0:=by simp;omega
 rw [hlen] at hn hps;obtain ⟨sts,hsts⟩:∃ sts:Nat→St,sts=fun k=>sts0 (k - i0):=⟨_,rfl⟩;obtain ⟨fps,hfps⟩:∃ fps:Nat→FP,fps=fun k=>fps0 (k - i0):=⟨_,rfl⟩;have hn:sts i1=σ':=by rw [hsts];exact hn
 have h0:sts i0=σ:=by rw [hsts];simpa using h0
 have hget:∀ {i o},ops[i]?=some o→ops.toList[i]?=some o:=fun h=>by rw [Array.getElem?_toList];exact h
 have hrun:∀ i o,i0≤i→i<i1→ops[i]?=some o→b9d E F ops.toList o (sts i)=some (sts (i+1),fps i):=by
  intro i o hi0 hi1 hi;have:=hrun0 (i - i0) o (by rw [List.getElem?_drop,show i0+(i - i0)=i by omega,List.getElem?_take,if_pos hi1];exact hget hi);rw [hsts,hfps];simp only;rw [show i+1 - i0=i - i0+1 by omega];exact this
 have hlt:∀ {i o},ops[i]?=some o→i<ops.size:=fun h=>(Array.getElem?_eq_some_iff.1 h).1;have hex:∀ {i},i<ops.size→∃ o,ops[i]?=some o:=fun h=>⟨_,Array.getElem?_eq_getElem h⟩;generalize hbs:a9v ops.toList []=bs at hpairs hbar;have hpair:∀ {i j oi oj},i0≤i→i<j→j<i1→ops[i]?=some oi→ops[j]?=some oj→Nat.testBit (bs.getD j 0) i=true∨(b0x ops.toList oi oj=true∧c2b (fps i) (fps j)=true):=by
  intro i j oi oj hi0 hij hj1 hi hj;have h1:=List.all_eq_true.1 hpairs j (List.mem_range.2 hj1);have h2:=List.all_eq_true.1 h1 i (List.mem_range.2 hij);rw [hget hi,hget hj,hps] at h2;have hb:Nat.blt i i0=false:=by
   cases hb:Nat.blt i i0
   ·rfl
   ·have:=Nat.le_of_ble_eq_true hb;omega
  have hfi:(([]:List FP).reverse++(List.range (i1 - i0)).map fps0).getD (i - i0) ⟨[],[]⟩=fps i:=by
   rw [hfps];simp [List.getD_eq_getElem?_getD,List.getElem?_range (show i - i0<i1 - i0 by omega)]
  have hfj:(([]:List FP).reverse++(List.range (i1 - i0)).map fps0).getD (j - i0) ⟨[],[]⟩=fps j:=by
   rw [hfps];simp [List.getD_eq_getElem?_getD,List.getElem?_range (show j - i0<i1 - i0 by omega)]
  simp only [hfi,hfj,hb,Bool.false_or,Bool.or_eq_true,Bool.and_eq_true] at h2;exact h2
 have hloc:=fun {i o} (h0:i0≤i) (h1:i<i1) (h:ops[i]?=some o)=>e5g (hrun i o h0 h1 h);have hbetween:∀ (n:Nm) (i j:Nat),i0≤i→i≤j→j≤i1→(∀ k,i≤k→k<j→n ∉ (fps k).wr)→(sts i).mem n=(sts j).mem n:=by
  intro n i j hi0 hij
  induction j with
  | zero=>
       intro _ _;have:i=0:=by omega
       subst this;rfl
  | succ j ih=>
   intro hj hk;by_cases he:i=j+1
   ·subst he;rfl
   ·obtain ⟨o,ho⟩:=hex (show j<ops.size by omega);rw [ih (by omega) (by omega) (fun k h1 h2=>hk k h1 (by omega)),(hloc (by omega) (by omega) ho).2.1 n (hk j (by omega) (by omega))]
 have hbetweenS:∀ (s:Nat) (i j:Nat),i0≤i→i≤j→j≤i1→(∀ k o,i≤k→k<j→ops[k]?=some o→o.dst≠some s)→(sts i).sl s=(sts j).sl s:=by
  intro s i j hi0 hij
  induction j with
  | zero=>
       intro _ _;have:i=0:=by omega
       subst this;rfl
  | succ j ih=>
   intro hj hk;by_cases he:i=j+1
   ·subst he;rfl
   ·obtain ⟨o,ho⟩:=hex (show j<ops.size by omega);rw [ih (by omega) (by omega) (fun k o h1 h2=>hk k o h1 (by omega)),(hloc (by omega) (by omega) ho).1 s (hk j o (by omega) (by omega) ho)]
 have hsame:∀ {listed:Array Bool} {k:Nat},listed.size=ops.size→k<ops.size→(listed.getD k true=false↔¬ listed.getD k false=true):=by
  intro listed k hs hk;have:k<listed.size:=by omega
  simp [Array.getD_eq_getD_getElem?,Array.getElem?_eq_getElem this]
 have hallOf:∀ (listed:Array Bool),listed.size=ops.size→Region.ready .any ops listed=[]→∀ k,k<ops.size→listed.getD k false=true:=by
  intro listed hs hre k
  induction k using Nat.strongRecOn with
  | _ k ih=>
   intro hk;by_cases hD:listed.getD k false=true
   ·exact hD
   ·exfalso
    obtain ⟨o,ho⟩:=hex hk;have:k∈Region.ready .any ops listed:=mem_ready.2 ⟨(hsame hs hk).2 hD,o,ho,fun e he hb=>by
     have h1:=c0g hedge k o (hget ho) e (by simpa using he) hb;exact ih e.on (by omega) (by omega)⟩
    rw [hre] at this;cases this
 have main:∀ (fuel:Nat) (listed:Array Bool) (a:Act) (w:World) (τ:St),listed.size=ops.size→(List.range ops.size).countP (fun i=>!listed.getD i true)≤fuel→
   (∀ k,k<i0→listed.getD k false=true)→(∀ k,i1≤k→k<ops.size→¬ listed.getD k false=true)→
   (∀ k o,ops[k]?=some o→listed.getD k false=true→∀ e,e∈o.after.toList→Region.binds .any e=true→listed.getD e.on false=true)→
   (∀ n j,i0≤j→j≤i1→(∀ k,i0≤k→k<j→n∈(fps k).wr→listed.getD k false=true)→(∀ k,j≤k→k<i1→n∈(fps k).wr→¬ listed.getD k false=true)→τ.mem n=(sts j).mem n)→
   (∀ s j,i0≤j→j≤i1→(∀ k o,i0≤k→k<j→ops[k]?=some o→o.dst=some s→listed.getD k false=true)→(∀ k o,j≤k→k<i1→ops[k]?=some o→o.dst=some s→¬ listed.getD k false=true)→τ.sl s=(sts j).sl s)→
   Rel E β N d0 τ a w→wpAny P .any ops Q fuel listed a w:=by
  intro fuel
  induction fuel with
  | zero=>
   intro listed a w τ hs hc hlo hhi hcl hM hS hr;have hall:∀ k,k<ops.size→listed.getD k false=true:=fun k hk=>Classical.byContradiction fun hD=>e3d hc hs hk hD;have he:τ=σ':=by
    rw [← hn];have h1:τ.sl=(sts i1).sl:=funext fun s=>hS s i1 h01 (Nat.le_refl _) (fun k o _ hk ho _=>hall k (hlt ho)) (fun k o hk hk' _ _=>by omega);have h2:τ.mem=(sts i1).mem:=funext fun n=>hM n i1 h01 (Nat.le_refl _) (fun k _ hk _=>hall k (by omega)) (fun k hk hk' _=>by omega);cases τ;cases hsn:sts i1;simp_all
   rw [he] at hr;exact hfin 0 listed a w hs hc (fun k hk=>hall k (by omega)) hhi hr
  | succ fuel ih=>
   intro listed a w τ hs hc hlo hhi hcl hM hS hr;by_cases hseg:∀ k,i0≤k→k<i1→listed.getD k false=true
   ·have he:τ=σ':=by
     rw [← hn];have h1:τ.sl=(sts i1).sl:=funext fun s=>hS s i1 h01 (Nat.le_refl _) (fun k o h0 hk ho _=>hseg k h0 hk) (fun k o hk hk' _ _=>by omega);have h2:τ.mem=(sts i1).mem:=funext fun n=>hM n i1 h01 (Nat.le_refl _) (fun k h0 hk _=>hseg k h0 hk) (fun k hk hk' _=>by omega);cases τ;cases hsn:sts i1;simp_all
    rw [he] at hr;exact hfin (fuel+1) listed a w hs hc (fun k hk=>by
     by_cases hk0:k<i0
     ·exact hlo k hk0
     ·exact hseg k (by omega) hk) hhi hr
   refine ⟨fun hre=>absurd (fun k _ hk=>hallOf listed hs hre k (by omega)) hseg,fun i hi=>?_⟩;obtain ⟨hun,oi,hoi,hed⟩:=mem_ready.1 hi;have hiN:=hlt hoi;have hnD:=(hsame hs hiN).1 hun;have hbef:∀ k j,k<ops.size→listed.getD k false=true→Nat.testBit (bs.getD k 0) j=true→listed.getD j false=true:=by
    intro k j hk hDk hb;rw [← hbs] at hb;exact b7m (D:=fun k=>listed.getD k false=true) (os:=ops.toList) (acc:=[]) (j0:=0) rfl (fun k o ho hD e he hbd=>hcl k o (by simpa using ho) (by simpa using hD) e he hbd) (fun k i hk=>by simp at hk) k j (by simpa using hk) hDk hb
   have hbefi:∀ j,j≠i→Nat.testBit (bs.getD i 0) j=true→listed.getD j false=true:=by
    intro j hji hb;rw [← hbs] at hb;have:=b7m (D:=fun k=>listed.getD k false=true∨k=i) (os:=ops.toList) (acc:=[]) (j0:=0) rfl (fun k o ho hD e he hbd=>by
     rcases hD with hD | hD
     ·exact .inl (hcl k o (by simpa using ho) (by simpa using hD) e he hbd)
     ·have hki:k=i:=by omega
      subst hki;have ho':ops[k]?=some o:=by simpa using ho
      rw [hoi] at ho';cases ho';exact .inl (hed e (by simpa using he) hbd)) (fun k i hk=>by simp at hk) i j (by simpa using hiN) (.inr rfl) hb
    exact this.resolve_right hji
   have hi0:i0≤i:=Classical.byContradiction fun h=>hnD (hlo i (by omega));have hi1:i<i1:=Classical.byContradiction fun h=>hseg fun k _ hk=>hbefi k (by omega) (hbar i k (by omega) hiN hk);have hne:∀ {k},k≠i→(listed.setIfInBounds i true).getD k false=listed.getD k false:=fun h=>getD_set_ne false (Ne.symm h);have hset:(listed.setIfInBounds i true).getD i false=true:=by simp [show i<listed.size by omega]
   have hmem:∀ n,(n∈(fps i).rd∨n∈(fps i).wr)→τ.mem n=(sts i).mem n:=fun n hn'=>by
    refine hM n i hi0 (by omega) (fun k hk0 hk hw=>?_) (fun k hk hkN hw hDk=>?_)
    ·obtain ⟨ok,hok⟩:=hex (show k<ops.size by omega);rcases hpair hk0 hk hi1 hok hoi with h5 | ⟨_,h5⟩
     ·exact hbefi k (by omega) h5
     ·simp only [c2b,Bool.and_eq_true,Bool.not_eq_true'] at h5;rcases hn' with h6 | h6
      ·exact (b1g h5.1.1 hw h6).elim
      ·exact (b1g h5.1.2 hw h6).elim
    ·by_cases hki:k=i
     ·subst hki;exact hnD hDk
     ·obtain ⟨ok,hok⟩:=hex (show k<ops.size by omega);rcases hpair hi0 (show i<k by omega) hkN hoi hok with h5 | ⟨_,h5⟩
      ·exact hnD (hbef k i (by omega) hDk h5)
      ·simp only [c2b,Bool.and_eq_true,Bool.not_eq_true'] at h5;rcases hn' with h6 | h6
       ·exact b1g h5.2 hw h6
       ·exact b1g h5.1.2 h6 hw
   have hsl:∀ s,s∈d3f ops.toList oi→τ.sl s=(sts i).sl s:=fun s hs'=>by
    refine hS s i hi0 (by omega) (fun k ok hk0 hk hok hw=>?_) (fun k ok hk hk1 hok hw hDk=>?_)
    ·rcases hpair hk0 hk hi1 hok hoi with h5 | ⟨h5,_⟩
     ·exact hbefi k (by omega) h5
     ·simp only [b0x,hw,Bool.and_eq_true,Bool.not_eq_true'] at h5;exact (d2d h5.1.1 hs').elim
    ·by_cases hki:k=i
     ·subst hki;exact hnD hDk
     ·rcases hpair hi0 (show i<k by omega) hk1 hoi hok with h5 | ⟨h5,_⟩
      ·exact hnD (hbef k i (hlt hok) hDk h5)
      ·simp only [b0x,hw,Bool.and_eq_true,Bool.not_eq_true'] at h5;exact d2d h5.2 hs'
   obtain ⟨τ',hτ',g1,g2,g3,g4⟩:=(hloc hi0 hi1 hoi).2.2 τ hsl (fun n hn'=>hmem n (.inl hn'));refine d4d hT hTF hF hoi hr (hdst oi (List.mem_of_getElem? (hget hoi))) hτ' fun a' w' hr'=>?_;refine ih (listed.setIfInBounds i true) a' w' τ' (by simpa using hs) ?_ (fun k hk=>getD_set_true (hlo k hk)) (fun k hk hk'=>by rw [hne (by omega)];exact hhi k hk hk') ?_ ?_ ?_ hr'
   ·have hlt':=d4l (p:=fun k=>!listed.getD k true) (p':=fun k=>!(listed.setIfInBounds i true).getD k true) (i:=i) (by simp [hun]) (by simp [show i<listed.size by omega]) (fun j hj=>by
     by_cases hji:j=i
     ·subst hji;simp [hun]
     ·simpa [getD_set_ne true (Ne.symm hji)] using hj) (List.mem_range.2 hiN)
    omega
   ·intro k o hk hD e he hb;by_cases hki:k=i
    ·subst hki;rw [hoi] at hk;cases hk;exact getD_set_true (hed e (by simpa using he) hb)
    ·rw [hne hki] at hD;exact getD_set_true (hcl k o hk hD e he hb)
   ·intro n j hj0 hj h1 h2;by_cases hw:n∈(fps i).wr
    ·have hij:i<j:=by
      rcases Nat.lt_or_ge i j with h5 | h5
      ·exact h5
      ·exact absurd hset (h2 i h5 hi1 hw)
     rw [g3 n hw];refine hbetween n (i+1) j (by omega) hij hj (fun k hk1 hk2 hkw=>?_);obtain ⟨ok,hok⟩:=hex (show k<ops.size by omega);have hDk:=h1 k (by omega) hk2 hkw;rw [hne (by omega)] at hDk;rcases hpair hi0 (show i<k by omega) (by omega) hoi hok with h5 | ⟨_,h5⟩
     ·exact hnD (hbef k i (hlt hok) hDk h5)
     ·simp only [c2b,Bool.and_eq_true,Bool.not_eq_true'] at h5;exact b1g h5.1.2 hw hkw
    ·rw [g4 n hw];refine hM n j hj0 hj (fun k hk0 hk hkw=>?_) (fun k hk hkN hkw=>?_)
     ·have hki:k≠i:=fun e=>hw (e▸hkw);have:=h1 k hk0 hk hkw;rwa [hne hki] at this
     ·have hki:k≠i:=fun e=>hw (e▸hkw);have:=h2 k hk hkN hkw;rwa [hne hki] at this
   ·intro s j hj0 hj h1 h2;by_cases hw:oi.dst=some s
    ·have hij:i<j:=by
      rcases Nat.lt_or_ge i j with h5 | h5
      ·exact h5
      ·exact absurd hset (h2 i oi h5 hi1 hoi hw)
     rw [g1 s hw];refine hbetweenS s (i+1) j (by omega) hij hj (fun k ok hk1 hk2 hok hkw=>?_);have hDk:=h1 k ok (by omega) hk2 hok hkw;rw [hne (by omega)] at hDk;rcases hpair hi0 (show i<k by omega) (by omega) hoi hok with h5 | ⟨h5,_⟩
     ·exact hnD (hbef k i (hlt hok) hDk h5)
     ·simp only [b0x,hw,hkw,Bool.and_eq_true,Bool.not_eq_true'] at h5;simp at h5
    ·rw [g2 s hw];refine hS s j hj0 hj (fun k ok hk0 hk hok hkw=>?_) (fun k ok hk hk1 hok hkw=>?_)
     ·have hki:k≠i:=fun e=>by subst e;rw [hoi] at hok;cases hok;exact hw hkw
      have:=h1 k ok hk0 hk hok hkw;rwa [hne hki] at this
     ·have hki:k≠i:=fun e=>by subst e;rw [hoi] at hok;cases hok;exact hw hkw
      have:=h2 k ok hk hk1 hok hkw;rwa [hne hki] at this
 intro fuel listed a w hs hc hlo hhi hr;refine main fuel listed a w σ hs hc hlo (fun k hk=>hhi k (by omega)) (fun k o hk hD e he hb=>?_) (fun n j hj0 hj h1 h2=>?_) (fun s j hj0 hj h1 h2=>?_) hr
 ·have hk0:k<i0:=Classical.byContradiction fun h=>hhi k (by omega) (hlt hk) hD;have:=c0g hedge k o (hget hk) e he hb;exact hlo e.on (by omega)
 ·rw [← h0];exact hbetween n i0 j (Nat.le_refl _) hj0 hj (fun k hk0 hk hw=>hhi k hk0 (by omega) (h1 k hk0 hk hw))
 ·rw [← h0];exact hbetweenS s i0 j (Nat.le_refl _) hj0 hj (fun k o hk0 hk ho hw=>hhi k hk0 (hlt ho) (h1 k o hk0 hk ho hw))
theorem d2e {n k:Nat}:¬ (Array.replicate n false).getD k false=true:=by
 intro h;simp [Array.getD_eq_getD_getElem?,Array.getElem?_replicate] at h;split at h <;> simp at h
theorem d2f {n:Nat}:(List.range n).countP (fun i=>!(Array.replicate n false).getD i true)≤n:=by
 have:=List.countP_le_length (p:=fun i=>!(Array.replicate n false).getD i true) (l:=List.range n);simpa using this
theorem d2g {ops:Array Oper} {Q:Exit→Act→World→Prop} {fuel:Nat} {listed:Array Bool} {a:Act} {w:World} (hs:listed.size=ops.size) (h:∀ k,k<ops.size→listed.getD k false=true) (hQ:Q .normal a w):wpAny P .any ops Q fuel listed a w:=by
 have hno:∀ i,¬ i∈Region.ready .any ops listed:=fun i hi=>by
  obtain ⟨hun,oi,hoi,_⟩:=mem_ready.1 hi;have hi:=(Array.getElem?_eq_some_iff.1 hoi).1;have:=h i hi;have hi':i<listed.size:=by omega
  simp [Array.getD_eq_getD_getElem?,Array.getElem?_eq_getElem hi'] at hun this;rw [hun] at this;cases this
 have hre:Region.ready .any ops listed=[]:=List.eq_nil_iff_forall_not_mem.2 hno;cases fuel with
 | zero=>exact ⟨hre,hQ⟩
 | succ fuel=>exact ⟨fun _=>hQ,fun i hi=>absurd hi (hno i)⟩
theorem e5h {all:List Oper} {bs:List Nat} {ps:List FP} (h:e6t all bs ps=true):d3l all bs ps 0 all.length=true:=by
 refine List.all_eq_true.2 fun j hj=>List.all_eq_true.2 fun i hi=>?_;have:=List.all_eq_true.1 (List.all_eq_true.1 h j hj) i hi;simp only [Nat.sub_zero];rw [this,Bool.or_true]
theorem f6b (hT:a1e P E=true) (hTF:TabF P E) (hF:e2h P E F) (hm:P.follows .mixedOrders=true):d7y P E F:=by
 intro R β I N d0 id ops keep σ a w K r Q hI hdst hr h hQ;have hlen:ops.toList.length=ops.size:=by simp
 refine wp_region_any hm ?_;unfold d3m at h;split at h
 ·obtain ⟨σ',ps',h1,h2⟩:=b0j h;obtain ⟨hp,hK⟩:=a1z h2;obtain ⟨hedge,hpairs⟩:=a0a hp;refine e8r (i0:=0) (i1:=ops.size) hT hTF hF (Nat.zero_le _) (Nat.le_refl _) hdst hedge (σ:=σ) (σ':=σ') (ps:=ps') (by rw [← hlen,List.take_length];exact h1) (by rw [← hlen];exact e5h hpairs) (fun k j h1 h2 _=>by omega)
   (fun fuel listed a w hs hc hall _ hr=>d2g hs hall (hQ σ' hK a w hr)) ops.size _ a _ (by simp) d2f (fun k hk=>by omega) (fun k _ _=>d2e) (e2x hr)
 ·rename_i i _;obtain ⟨hc0,h⟩:=a1z h;obtain ⟨hc1,hin⟩:=a0a hc0;obtain ⟨hedge,hbo⟩:=a0a hc1;have hin:i<ops.size:=by rw [← hlen];exact Nat.le_of_ble_eq_true hin
  have hbar:∀ k,i≤k→k<ops.size→(∀ j,j<i→Nat.testBit ((a9v ops.toList []).getD k 0) j=true)∧(k≠i→Nat.testBit ((a9v ops.toList []).getD k 0) i=true):=fun k hk hkn=>by
   have h1:=List.all_eq_true.1 hbo k (List.mem_range.2 (by rw [hlen];exact hkn));have hb:Nat.blt k i=false:=by
    cases hb:Nat.blt k i
    ·rfl
    ·have:=Nat.le_of_ble_eq_true hb;omega
   rw [hb,Bool.false_or] at h1;obtain ⟨h2,h3⟩:=a0a h1;refine ⟨fun j hj=>List.all_eq_true.1 h2 j (List.mem_range.2 hj),fun hne=>?_⟩;cases hbe:Nat.beq k i with
   | true=>exact absurd (Nat.eq_of_beq_eq_true hbe) hne
   | false=>rw [hbe,Bool.false_or] at h3;exact h3
  obtain ⟨σ1,ps1,h1,h2⟩:=b0j h;obtain ⟨hp1,h2⟩:=a1z h2;split at h2
  ·rename_i o ho;have ho:ops[i]?=some o:=by rw [← Array.getElem?_toList];exact ho
   split at h2
   ·rename_i f fn args hinl;obtain ⟨hg,hcal,hfn⟩:=d2a hinl;obtain ⟨hc,h2⟩:=a1z h2;obtain ⟨hlen',hnt⟩:=a0a hc;have hlen':=Nat.eq_of_beq_eq_true hlen';refine e8r (i0:=0) (i1:=i) hT hTF hF (Nat.zero_le _) (Nat.le_of_lt hin) hdst hedge (σ:=σ) (σ':=σ1) (ps:=ps1) (by simpa using h1) hp1 (fun k j hk hkn hj=>(hbar k hk hkn).1 j hj) ?_
     ops.size _ a _ (by simp) d2f (fun k hk=>by omega) (fun k _ _=>d2e) (e2x hr)
    intro fuel listed a w hs hcnt hlo hhi hr1;cases fuel with
    | zero=>exact (e3d hcnt hs hin (hhi i (Nat.le_refl _) hin)).elim
    | succ fuel=>
     have hun:listed.getD i true=false:=by
      have:=hhi i (Nat.le_refl _) hin;have hi':i<listed.size:=by omega
      simp [Array.getD_eq_getD_getElem?,Array.getElem?_eq_getElem hi'] at this ⊢;exact this
     have hrd:i∈Region.ready .any ops listed:=mem_ready.2 ⟨hun,o,ho,fun e he hb=>by
      have:=c0g hedge i o (by rw [Array.getElem?_toList];exact ho) e (by simpa using he) hb;exact hlo e.on (by omega)⟩
     refine ⟨fun hre=>(by rw [hre] at hrd;cases hrd),fun k hk=>?_⟩;obtain ⟨hunk,ok,hok,hed⟩:=mem_ready.1 hk;have hkN:=(Array.getElem?_eq_some_iff.1 hok).1;have hnk:¬ listed.getD k false=true:=by
      have hi':k<listed.size:=by omega
      simp [Array.getD_eq_getD_getElem?,Array.getElem?_eq_getElem hi'] at hunk ⊢;exact hunk
     have hik:i≤k:=Classical.byContradiction fun h=>hnk (hlo k (by omega));have hki:k=i:=Classical.byContradiction fun hne=>by
      have:=b7m (D:=fun j=>listed.getD j false=true∨j=k) (os:=ops.toList) (acc:=[]) (j0:=0) rfl (fun j o' ho' hD e he hbd=>by
       rcases hD with hD | hD
       ·have hji:j<i:=Classical.byContradiction fun h=>by
         have hj':=(Array.getElem?_eq_some_iff.1 (show ops[j]?=some o' by rw [← Array.getElem?_toList];exact ho')).1;exact hhi j (by omega) hj' (by simpa using hD)
        have:=c0g hedge j o' ho' e he hbd;exact .inl (hlo e.on (by omega))
       ·have hjk:j=k:=by omega
        subst hjk;have ho'':ops[j]?=some o':=by rw [← Array.getElem?_toList];exact ho'
        rw [hok] at ho'';cases ho'';exact .inl (hed e (by simpa using he) hbd)) (fun k i hk=>by simp at hk) k i (by simpa using hkN) (.inr rfl) ((hbar k hik hkN).2 hne)
      rcases this with h | h
      ·exact hhi i (Nat.le_refl _) hin h
      ·exact hne h.symm
     subst hki;obtain ⟨⟨env,hh,hpin,hsl⟩,hsz,hdf⟩:=hr1;unfold wpOp;simp only [ho];have hw:Region.wanted o (yielded ops a.tmps)=true:=by simp [Region.wanted,hg]
     rw [if_pos hw];refine .inl ?_;unfold Oper.wp;rw [d7z hTF hfn hsl hcal,Oper.upon_enter];refine hI f _ _ _ _ _ r h2 env w (args.map a.eval) (keep.map fun i=>a.eval (.tmp i)) hh hpin (c5t hsl hlen'.symm hnt) (d4i hsl keep) _ fun x sv' m' env' w' v hK' hh' hpin' hv hsv=>?_;have hrel:=Rel.put (σ:=⟨b2c (e0p keep sv'),σ1.mem⟩) hsz hdf (hdst o (List.mem_of_getElem? (by rw [Array.getElem?_toList];exact ho))) hh' hpin' (fun j=>e8l j hsv) hv;obtain ⟨σ2,ps2,h3,h4⟩:=b0j hK';obtain ⟨hp2,hK2⟩:=a1z h4;refine e8r (i0:=k+1) (i1:=ops.size) hT hTF hF hin (Nat.le_refl _) hdst hedge (σ':=σ2) (ps:=ps2) (by rw [← hlen,List.take_length];exact h3) (by rw [← hlen];exact hp2) (fun k j h1 h2 _=>by omega)
      (fun fuel listed a w hs hc hall _ hr=>d2g hs hall (hQ σ2 hK2 a w hr)) fuel _ _ _ (by simpa using hs) ?_ (fun j hj=>?_) (fun j hj hjn=>?_) hrel
     ·have hlt':=d4l (p:=fun j=>!listed.getD j true) (p':=fun j=>!(listed.setIfInBounds k true).getD j true) (i:=k) (by simp [hun]) (by simp [show k<listed.size by omega]) (fun j hj=>by
       by_cases hji:j=k
       ·subst hji;simp [hun]
       ·simpa [getD_set_ne true (Ne.symm hji)] using hj) (List.mem_range.2 hin)
      omega
     ·by_cases hjk:j=k
      ·subst hjk;simp [show j<listed.size by omega]
      ·exact getD_set_true (hlo j (by omega))
     ·rw [getD_set_ne false (by omega)];exact hhi j (by omega) hjn
   ·cases h2
  ·cases h2
end
end Go.Proofs.Ytdbopobkdpmpgaa.Ev
