/- Calls of functions without loops are evaluated in the caller's memory. Of regions that draw their order as of a premise. No other condition. -/
import Derived.Test.YtdbopobkdpmpgaamEvR
namespace Go.Proofs.Ytdbopobkdpmpgaa.Ev
open Go
set_option linter.unusedVariables false
section
variable {P:Program} {E:Env} {β:Base}
theorem f5y {env:Names} {w:World} {S:Nat→Prop} {ts:List Nat} {as:List A} {vals vs:List Value} (hsh:d1m E ts vals vs) (hsol:a0o as=true) (hr:RVs E env w S as vs) :
  RV E env w S (f9h E ts as) (if h:vals.toArray.size=1 then vals.toArray[0] else .tuple vals.toArray):=by
 have hl:vals.length=ts.length:=by
  have:∀ (ts:List Nat) (vals vs:List Value),d1m E ts vals vs→vals.length=ts.length:=fun ts=>by
   induction ts with
   | nil=>intro vals vs h;cases vals with
    | nil=>rfl
    | cons v l=>exact h.elim
   | cons t ts ih=>intro vals vs h;cases vals with
    | nil=>exact h.elim
    | cons v l=>obtain ⟨a,b,_,_,_,h3⟩:=h;simp [ih _ _ h3]
  exact this _ _ _ hsh
 unfold f9h;split
 ·rename_i t;obtain ⟨v,rfl⟩:=List.length_eq_one_iff.1 hl;obtain ⟨a',b',rfl,h1,h2',h3⟩:=hsh;cases h3;rw [List.append_nil] at hr;have:=b1d h1 hsol hr;show RV E env w S (b1x E t as) v;cases hm:b1x E t as with
  | tup x=>rw [hm] at this;exact this.elim
  | _=>rw [hm] at this;exact this
 ·rename_i hno;have:=d3r hsh hsol hr;rw [dif_neg (fun hone=>by
   have:ts.length=1:=by rw [← hl];simpa using hone
   obtain ⟨t,ht⟩:=List.length_eq_one_iff.1 this;exact hno t ht)]
  exact ⟨vals.toArray,rfl,this⟩
theorem c7v {env:Names} {w:World} {S:Nat→Prop}:∀ {as:List A} {vs:List Value} (n i:Nat),RV2s E env w S as vs→RV E env w S (c6m as i) ((vs++List.replicate n undef).getD i undef)
 | [],[],n,i,_=>by
  show (([]++List.replicate n undef:List Value).getD i undef)=undef;simp only [List.nil_append,List.getD_eq_getElem?_getD,List.getElem?_replicate];split <;> rfl
 | a :: as,v :: vs,n,0,h=>b7w h.1
 | a :: as,v :: vs,n,i+1,h=>by
  have:=c7v n i h.2;simpa [c6m] using this
 | [],_ :: _,_,_,h=>h.elim
 | _ :: _,[],_,_,h=>h.elim
theorem e3b {a b:Nat} (h:c2c a=true):b9o (a,b)=(a,b):=by unfold b9o;rw [show c2c (a,b).1=true from h];rfl
theorem e3c (hT:a1e P E=true) (hTF:TabF P E) {F:Call} (hF:e2h P E F) (hD:d7y P E F) {k:Nat} {R:Type}:∀ (d:Nat) {β:Base},f4f β→e8k P E (f1g (R:=R) E F k d) β
 | 0,β,_=>fun f as sv dst m K r h=>by cases h
 | d+1,β,hfix=>by
  intro f as sv dst m K r h env w vs us hh hpin has hsv post hpost;unfold f1g at h;split at h
  case h_2=>cases h
  rename_i fn hfn;split at h
  case h_2=>cases h
  rename_i c hc;obtain ⟨hck,h1⟩:=a1z h;clear h;obtain ⟨hck,hd10⟩:=a0a hck;obtain ⟨hck,hle⟩:=a0a hck;obtain ⟨hnl,hdst⟩:=a0a hck;have hle:=a2p hle;have hd10:d<10:=a2p hd10;obtain ⟨u,m1,p1,hnew,h2⟩:=M.g5t h1;clear h1;obtain ⟨hn,rfl⟩:=M.g5x hnew;have hup:=hh.up;have hsu:=c7p β [] m env w;have hnm:b9o (900000+d,dst)=(900000+d,dst):=e3b (c5u.2 (.inr ⟨by omega,by omega⟩));obtain ⟨q1,q2,q3⟩:=hup.one (w':=w) (L':=[]) (900000+d,dst) (.save (e6f sv)) (.tuple us.toArray) (.inl (hup.dom _ hn)) (fun hst=>⟨us.toArray,Names.put_self _ _ _,(RVall.mono (Names.g6g (.inl (hup.dom _ hn))) hst (by rw [hsu];exact c5v hsv))⟩)
   (fun b hb=>by simp at hb) (fun b hb=>by simp at hb) List.nodup_nil
   (fun b hb=>by simp [owns,put_self] at hb) (fun _ _ _ _=>rfl) rfl rfl rfl (Nat.le_refl _)
  have hpinU:∀ n v,(n,v)∈β.pin→b1y env n=some v:=fun n v hnv=>by
   have:=a3o env n;rw [hfix n v hnv] at this;rw [this];exact hpin n v hnv
  have hpin1:∀ n v,(n,v)∈β.pin++[((900000+d,dst),Value.tuple us.toArray)]→((b1y env).put (900000+d,dst) (.tuple us.toArray)) n=some v:=fun n v hnv=>by
   rcases List.mem_append.1 hnv with h5 | h5
   ·exact q2 _ _ (hpinU n v h5)
   ·have:=List.mem_singleton.1 h5;cases this;exact Names.put_self _ _ _
  have hin:=q1.inner (β.pin++[((900000+d,dst),Value.tuple us.toArray)]);have hist:=c3q q1 (β.pin++[((900000+d,dst),Value.tuple us.toArray)]);have hfix1:f4f (inner β ((b5z m).put (900000+d,dst) (.save (e6f sv))) ((b1y env).put (900000+d,dst) (.tuple us.toArray)) w (β.pin++[((900000+d,dst),Value.tuple us.toArray)])):=fun n v hnv=>by
   rcases List.mem_append.1 hnv with h5 | h5
   ·exact hfix n v h5
   ·have:=List.mem_singleton.1 h5;cases this;exact hnm
  have hargs:RV2s E ((b1y env).put (900000+d,dst) (.tuple us.toArray)) w (a0b (inner β ((b5z m).put (900000+d,dst) (.save (e6f sv))) ((b1y env).put (900000+d,dst) (.tuple us.toArray)) w (β.pin++[((900000+d,dst),Value.tuple us.toArray)])) [] ((b5z m).put (900000+d,dst) (.save (e6f sv))) ((b1y env).put (900000+d,dst) (.tuple us.toArray)) w) (f7b as) vs:=by
   rw [hist];refine RV2s.mono q2 q3 ?_;rw [hsu];exact e1d has
  have hvl:vs.length=as.length:=by
   have:∀ (as:List A) (vs:List Value),RV2s E env w (a0b β [] m env w) as vs→vs.length=as.length:=fun as=>by
    induction as with
    | nil=>intro vs h;cases vs with
     | nil=>rfl
     | cons v l=>exact h.elim
    | cons a as ih=>intro vs h;cases vs with
     | nil=>exact h.elim
     | cons v l=>simp [ih _ h.2]
   exact this _ _ has
  have hrel:Rel E (inner β ((b5z m).put (900000+d,dst) (.save (e6f sv))) ((b1y env).put (900000+d,dst) (.tuple us.toArray)) w (β.pin++[((900000+d,dst),Value.tuple us.toArray)])) fn.ntmps [] ⟨c6m (f7b as),(b5z m).put (900000+d,dst) (.save (e6f sv))⟩ { tmps:=vs.toArray++Array.replicate (fn.ntmps - vs.toArray.size) undef,defers:=[] } w:=by
   refine ⟨⟨_,hin,hpin1,fun i=>?_⟩,?_,rfl⟩
   ·have:=c7v (fn.ntmps - vs.length) i hargs;have he:Act.eval { tmps:=vs.toArray++Array.replicate (fn.ntmps - vs.toArray.size) undef,defers:=[] } (.tmp i)=(vs++List.replicate (fn.ntmps - vs.length) undef).getD i undef:=by
     simp only [Act.eval,Array.getD_eq_getD_getElem?,List.getD_eq_getElem?_getD];rw [← Array.getElem?_toList];simp
    rw [he];exact this
   ·simp;omega
  obtain ⟨hpf,hbody,_⟩:=hTF.1 f fn hfn;refine calls_of_wp hpf hc ?_;refine a5g hT hTF hF hD c (e3c hT hTF hF hD d hfix1) (.inl hnl) hdst hrel h2 fun ex σ' a' w' hK hr'=>?_;have hmain:((b5d E σ' fn.results.toList fn.resultTypes.toList).run σ'.mem ⟨[],[]⟩ fun as' m' _=>bif !a0o as' then none else match m' (900000+d,dst) with
      | some (.save sv')=>K (upW (f9h E fn.resultTypes.toList as')) (e6f sv') (b5z m')
      | _=>none)=some r→a'.defers=[]∧∃ v,(results fn a'.tmps).run P w'=.ok v w'∧post (.returned v) w':=by
   intro hK;obtain ⟨⟨env',hh',hpin',hs'⟩,hsz,hdf⟩:=hr';obtain ⟨as',m2,p2,k1,hK2⟩:=M.g5t hK;obtain ⟨rfl,vals,rvs,l1,l2,l3,l4⟩:=c0d (P:=P) hT hh' hs' k1;cases hsol:a0o as' with
   | false=>rw [hsol] at hK2;cases hK2
   | true=>
   rw [hsol] at hK2;simp only [Bool.not_true,cond_false] at hK2;split at hK2
   case h_2=>cases hK2
   rename_i sv' hsave;obtain ⟨o1,o2,o3⟩:=q1.outer hh';refine ⟨hdf,_,c7r l1,?_⟩;have hrv:=(f5y l2 hsol l3).mono (Names.le_refl _) o2;obtain ⟨us',e1,e2⟩:=hh'.obj _ _ hsave;have hus:us'=us.toArray:=by
    have:=hpin' (900000+d,dst) (.tuple us.toArray) (List.mem_append_right _ (by simp));rw [e1] at this;cases this;rfl
   subst hus;have e2:=e2.mono (Names.le_refl _) o2;have hsu2:=c7p β [] σ'.mem env' w';refine hpost _ _ _ _ _ _ hK2 o1.up (fun n v hnv=>?_) (by rw [hsu2];exact f7w hrv) (by rw [hsu2];exact c5v e2);have:=a3o env' n;rw [hfix n v hnv] at this;rw [this];exact hpin' n v (List.mem_append_left _ hnv)
  cases ex with
  | normal=>exact hmain hK
  | exit i=>cases hK
  | ret=>exact hmain hK
end
end Go.Proofs.Ytdbopobkdpmpgaa.Ev
