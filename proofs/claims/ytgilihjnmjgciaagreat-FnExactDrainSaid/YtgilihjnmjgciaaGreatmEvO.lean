/- The state at a loop's head. No condition. -/
import Derived.Test.YtgilihjnmjgciaaGreatmEvN
namespace Go.Proofs.YtgilihjnmjgciaaGreat.Ev
open Go
set_option linter.unusedVariables false
section
variable {D:Nat→Bool} {P:Program} {E:Env} {β:Base} {m:Mem} {env:Names} {w w':World} {S:Nat→Prop} {N:Nat} {d0:List Deferred}
def a7o:List (Nm×Nm)→Nm→Option Nm
 | [],_=>none
 | (a,b) :: r,x=>bif a9c x b then some a else a7o r x
theorem e5z:∀ {l:List (Nm×Nm)} {n x:Nm},b8s l n=some x→(n,x)∈l
 | (a,b) :: r,n,x,h=>by
  unfold b8s at h;cases hb:a9c n a with
  | true=>rw [hb] at h;cases h;rw [c2j.1 hb];exact List.mem_cons_self
  | false=>rw [hb] at h;exact List.mem_cons_of_mem _ (e5z h)
theorem b1d:∀ {l:List (Nm×Nm)} {n x:Nm},a7o l x=some n→(n,x)∈l
 | (a,b) :: r,n,x,h=>by
  unfold a7o at h;cases hb:a9c x b with
  | true=>rw [hb] at h;cases h;rw [c2j.1 hb];exact List.mem_cons_self
  | false=>rw [hb] at h;exact List.mem_cons_of_mem _ (b1d h)
theorem d3s {n:Nm} {l:List Nm} (h:(!(l.any (a9c n)))=true) {x:Nm} (hx:x∈l):n≠x:=by
 rintro rfl
 have:l.any (a9c n)=true:=List.any_eq_true.2 ⟨n,hx,b1m n⟩;rw [this] at h;cases h
theorem d3t {α γ:Type}:∀ {l:List (α×γ)} {a:α} {b:γ},(a,b)∈l→a∈d3e l
 | (a',b') :: r,a,b,h=>by
  rcases List.mem_cons.1 h with h | h
  ·cases h;exact List.mem_cons_self
  ·exact List.mem_cons_of_mem _ (d3t h)
theorem h1z {α γ:Type}:∀ {l:List (α×γ)} {a:α} {b:γ},(a,b)∈l→b∈i9y l
 | (a',b') :: r,a,b,h=>by
  rcases List.mem_cons.1 h with h | h
  ·cases h;exact List.mem_cons_self
  ·exact List.mem_cons_of_mem _ (h1z h)
theorem f8v:∀ {l:List (Nm×Nm)} {n x:Nm},b7i (d3e l)=true→(n,x)∈l→b8s l n=some x
 | (a,b) :: r,n,x,h,hm=>by
  obtain ⟨h1,h2⟩:=a0d h;unfold b8s;rcases List.mem_cons.1 hm with hm | hm
  ·cases hm;rw [b1m];rfl
  ·rw [c0f (Ne.symm (d3s h1 (d3t hm)))];exact f8v h2 hm
theorem c2n:∀ {l:List (Nm×Nm)} {n x:Nm},b7i (i9y l)=true→(n,x)∈l→a7o l x=some n
 | (a,b) :: r,n,x,h,hm=>by
  obtain ⟨h1,h2⟩:=a0d h;unfold a7o;rcases List.mem_cons.1 hm with hm | hm
  ·cases hm;rw [b1m];rfl
  ·rw [c0f (Ne.symm (d3s h1 (h1z hm)))];exact c2n h2 hm
theorem g4o:∀ {l:List (Nm×O)} {x:Nm} {o:O},a1e l x=some o→(x,o)∈l
 | (a,b) :: r,x,o,h=>by
  unfold a1e at h;cases hb:a9c x a with
  | true=>rw [hb] at h;cases h;rw [c2j.1 hb];exact List.mem_cons_self
  | false=>rw [hb] at h;exact List.mem_cons_of_mem _ (g4o h)
theorem f8w:∀ {l:List (Nm×O)} {x:Nm} {o:O},b7i (d3e l)=true→(x,o)∈l→a1e l x=some o
 | (a,b) :: r,x,o,h,hm=>by
  obtain ⟨h1,h2⟩:=a0d h;unfold a1e;rcases List.mem_cons.1 hm with hm | hm
  ·cases hm;rw [b1m];rfl
  ·rw [c0f (Ne.symm (d3s h1 (d3t hm)))];exact f8w h2 hm
theorem d7w {m:Mem} {ren:List (Nm×Nm)}:∀ {l:List (Nm×Nm)} {x:Nm} {o:O},(x,o)∈b8t m ren l→∃ old,(old,x)∈l∧o=j0m ren (m old)
 | (a,b) :: r,x,o,h=>by
  rcases List.mem_cons.1 h with h | h
  ·cases h;exact ⟨a,List.mem_cons_self,rfl⟩
  ·obtain ⟨old,h1,h2⟩:=d7w h;exact ⟨old,List.mem_cons_of_mem _ h1,h2⟩
theorem f6p:∀ {l:List Nm} {n:Nm},c9a m l=true→n∈l→∃ o,m n=some o
 | a :: r,n,h,hn=>by
  unfold c9a at h;split at h
  ·rename_i o ho;rcases List.mem_cons.1 hn with rfl | hn
   ·exact ⟨o,ho⟩
   ·exact f6p h hn
  ·cases h
theorem e6a {α:Type}:∀ {a b:List (Nm×α)},b7i (d3e (a++b))=true→∀ {x:Nm} {y z:α},(x,y)∈a→(x,z)∈b→False
 | (n,o) :: r,b,h,x,y,z,ha,hb=>by
  obtain ⟨h1,h2⟩:=a0d h;rcases List.mem_cons.1 ha with ha | ha
  ·cases ha;exact d3s h1 (d3t (List.mem_append_right r hb)) rfl
  ·exact e6a h2 ha hb
theorem h2a {S:Nat→Prop} {at_:Nm} {a:A} {v:Value} (h:RV1 E env w S a v) (hn:∀ q,q∈(g4e D at_ a).2→env q.1=some (.slice none 0 0)):RV1 E env w S (g4e D at_ a).1 v∧(a.solid=true→(g4e D at_ a).1.solid=true):=by
 cases a with
 | nil e=>
  have hv:v=.slice none 0 0:=h;subst hv;exact ⟨⟨hn (at_,bif D e then .deep e [] none else .row e true []) List.mem_cons_self,_,_,_,rfl⟩,fun _=>rfl⟩
 | _=>exact ⟨h,fun h=>h⟩
theorem e6b {S:Nat→Prop} {s:Nat}:∀ {j:Nat} {as:List A} {vs:List Value},RVs E env w S as vs→(∀ q,q∈(b7h D s j as).2→env q.1=some (.slice none 0 0))→RVs E env w S (b7h D s j as).1 vs∧(a1f as=true→a1f (b7h D s j as).1=true)
 | j,[],[],_,_=>⟨trivial,fun _=>rfl⟩
 | j,a :: as,v :: vs,h,hn=>by
  have h1:=h2a (at_:=(s,j)) h.1 (fun q hq=>hn q (List.mem_append_left _ hq));have h2:=e6b (j:=j+1) h.2 (fun q hq=>hn q (List.mem_append_right _ hq));refine ⟨⟨h1.1,h2.1⟩,fun hs=>?_⟩;simp only [a1f,Bool.and_eq_true] at hs;simp only [b7h,a1f,h1.2 hs.1,h2.2 hs.2,Bool.and_self]
 | _,[],_ :: _,h,_=>h.elim
 | _,_ :: _,[],h,_=>h.elim
theorem c2o:∀ {l:List (Nm×O)} {x:Nm} {o:O},(x,o)∈(c1b D l).1→(∃ cs,(x,.var cs)∈l∧o=.var (b7h D x.1 1 cs).1∧∀ q,q∈(b7h D x.1 1 cs).2→q∈(c1b D l).2)∨((x,o)∈l∧∀ cs,o≠.var cs)
 | (n,.var cs) :: r,x,o,h=>by
  rcases List.mem_cons.1 h with h | h
  ·cases h;exact .inl ⟨cs,List.mem_cons_self,rfl,fun q hq=>List.mem_append_left _ hq⟩
  ·rcases c2o h with ⟨cs',h1,h2,h3⟩ | ⟨h1,h2⟩
   ·exact .inl ⟨cs',List.mem_cons_of_mem _ h1,h2,fun q hq=>List.mem_append_right _ (h3 q hq)⟩
   ·exact .inr ⟨List.mem_cons_of_mem _ h1,h2⟩
 | (n,.row e d es) :: r,x,o,h=>by
  rcases List.mem_cons.1 h with h | h
  ·cases h;exact .inr ⟨List.mem_cons_self,fun cs h=>by cases h⟩
  ·rcases c2o h with ⟨cs',h1,h2,h3⟩ | ⟨h1,h2⟩
   ·exact .inl ⟨cs',List.mem_cons_of_mem _ h1,h2,h3⟩
   ·exact .inr ⟨List.mem_cons_of_mem _ h1,h2⟩
 | (n,.dead) :: r,x,o,h=>by
  rcases List.mem_cons.1 h with h | h
  ·cases h;exact .inr ⟨List.mem_cons_self,fun cs h=>by cases h⟩
  ·rcases c2o h with ⟨cs',h1,h2,h3⟩ | ⟨h1,h2⟩
   ·exact .inl ⟨cs',List.mem_cons_of_mem _ h1,h2,h3⟩
   ·exact .inr ⟨List.mem_cons_of_mem _ h1,h2⟩
 | (n,.save as) :: r,x,o,h=>by
  rcases List.mem_cons.1 h with h | h
  ·cases h;exact .inr ⟨List.mem_cons_self,fun cs h=>by cases h⟩
  ·rcases c2o h with ⟨cs',h1,h2,h3⟩ | ⟨h1,h2⟩
   ·exact .inl ⟨cs',List.mem_cons_of_mem _ h1,h2,h3⟩
   ·exact .inr ⟨List.mem_cons_of_mem _ h1,h2⟩
 | (n,.deep e es hh) :: r,x,o,h=>by
  rcases List.mem_cons.1 h with h | h
  ·cases h;exact .inr ⟨List.mem_cons_self,fun cs h=>by cases h⟩
  ·rcases c2o h with ⟨cs',h1,h2,h3⟩ | ⟨h1,h2⟩
   ·exact .inl ⟨cs',List.mem_cons_of_mem _ h1,h2,h3⟩
   ·exact .inr ⟨List.mem_cons_of_mem _ h1,h2⟩
def e6c (l:List (Nm×O)):Prop:=∀ x o,(x,o)∈l→∃ e,o=.row e true []∨o=.deep e [] none
theorem g4p (at_:Nm) (a:A):e6c (g4e D at_ a).2:=by
 intro x o h;cases a <;> simp only [g4e] at h <;> first | (simp at h;done) | skip
 rename_i e;simp only [List.mem_singleton,Prod.mk.injEq] at h;refine ⟨e,?_⟩;rw [h.2];cases D e <;> simp
theorem d7x (s:Nat):∀ (j:Nat) (as:List A),e6c (b7h D s j as).2
 | _,[]=>fun x o h=>by simp [b7h] at h
 | j,a :: as=>fun x o h=>by
  rcases List.mem_append.1 h with h | h
  ·exact g4p _ _ x o h
  ·exact d7x s _ _ x o h
theorem h8i (s:Nat) (a:A):e6c (g8t D s a).2:=by
 cases a with
 | agg as=>exact d7x s _ _
 | _=>exact g4p _ _
theorem g4q:∀ (l:List (Nat×A)),e6c (c9r D l).2
 | []=>fun x o h=>by simp [c9r] at h
 | (i,a) :: r=>fun x o h=>by
  rcases List.mem_append.1 h with h | h
  ·exact h8i _ _ x o h
  ·exact g4q r x o h
theorem c2p:∀ (l:List (Nm×O)),e6c (c1b D l).2
 | []=>fun x o h=>by simp [c1b] at h
 | (n,.var cs) :: r=>fun x o h=>by
  rcases List.mem_append.1 h with h | h
  ·exact d7x _ _ _ x o h
  ·exact c2p r x o h
 | (n,.row e d es) :: r=>fun x o h=>c2p r x o h
 | (n,.dead) :: r=>fun x o h=>c2p r x o h
 | (n,.save as) :: r=>fun x o h=>c2p r x o h
 | (n,.deep e es hh) :: r=>fun x o h=>c2p r x o h
end
end Go.Proofs.YtgilihjnmjgciaaGreat.Ev
