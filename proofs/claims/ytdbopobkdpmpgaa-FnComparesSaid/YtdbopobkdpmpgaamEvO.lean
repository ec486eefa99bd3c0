/- The state at a loop's head. No condition. -/
import Derived.Test.YtdbopobkdpmpgaamEvN
namespace Go.Proofs.Ytdbopobkdpmpgaa.Ev
open Go
set_option linter.unusedVariables false
section
variable {D:Nat→Bool} {P:Program} {E:Env} {β:Base} {m:Mem} {env:Names} {w w':World} {S:Nat→Prop} {N:Nat} {d0:List Deferred}
def a5f:List (Nm×Nm)→Nm→Option Nm
 | [],_=>none
 | (a,b) :: r,x=>bif a6h x b then some a else a5f r x
theorem c7h:∀ {l:List (Nm×Nm)} {n x:Nm},b1a l n=some x→(n,x)∈l
 | (a,b) :: r,n,x,h=>by
  unfold b1a at h;cases hb:a6h n a with
  | true=>rw [hb] at h;cases h;rw [b3p.1 hb];exact List.mem_cons_self
  | false=>rw [hb] at h;exact List.mem_cons_of_mem _ (c7h h)
theorem a7h:∀ {l:List (Nm×Nm)} {n x:Nm},a5f l x=some n→(n,x)∈l
 | (a,b) :: r,n,x,h=>by
  unfold a5f at h;cases hb:a6h x b with
  | true=>rw [hb] at h;cases h;rw [b3p.1 hb];exact List.mem_cons_self
  | false=>rw [hb] at h;exact List.mem_cons_of_mem _ (a7h h)
theorem c0a {n:Nm} {l:List Nm} (h:(!(l.any (a6h n)))=true) {x:Nm} (hx:x∈l):n≠x:=by
 rintro rfl
 have:l.any (a6h n)=true:=List.any_eq_true.2 ⟨n,hx,a7n n⟩;rw [this] at h;cases h
theorem c0b {α γ:Type}:∀ {l:List (α×γ)} {a:α} {b:γ},(a,b)∈l→a∈b9m l
 | (a',b') :: r,a,b,h=>by
  rcases List.mem_cons.1 h with h | h
  ·cases h;exact List.mem_cons_self
  ·exact List.mem_cons_of_mem _ (c0b h)
theorem e2q {α γ:Type}:∀ {l:List (α×γ)} {a:α} {b:γ},(a,b)∈l→b∈f6z l
 | (a',b') :: r,a,b,h=>by
  rcases List.mem_cons.1 h with h | h
  ·cases h;exact List.mem_cons_self
  ·exact List.mem_cons_of_mem _ (e2q h)
theorem d4e:∀ {l:List (Nm×Nm)} {n x:Nm},b0g (b9m l)=true→(n,x)∈l→b1a l n=some x
 | (a,b) :: r,n,x,h,hm=>by
  obtain ⟨h1,h2⟩:=a0a h;unfold b1a;rcases List.mem_cons.1 hm with hm | hm
  ·cases hm;rw [a7n];rfl
  ·rw [b2d (Ne.symm (c0a h1 (c0b hm)))];exact d4e h2 hm
theorem b3t:∀ {l:List (Nm×Nm)} {n x:Nm},b0g (f6z l)=true→(n,x)∈l→a5f l x=some n
 | (a,b) :: r,n,x,h,hm=>by
  obtain ⟨h1,h2⟩:=a0a h;unfold a5f;rcases List.mem_cons.1 hm with hm | hm
  ·cases hm;rw [a7n];rfl
  ·rw [b2d (Ne.symm (c0a h1 (e2q hm)))];exact b3t h2 hm
theorem d7r:∀ {l:List (Nm×O)} {x:Nm} {o:O},a2m l x=some o→(x,o)∈l
 | (a,b) :: r,x,o,h=>by
  unfold a2m at h;cases hb:a6h x a with
  | true=>rw [hb] at h;cases h;rw [b3p.1 hb];exact List.mem_cons_self
  | false=>rw [hb] at h;exact List.mem_cons_of_mem _ (d7r h)
theorem d4f:∀ {l:List (Nm×O)} {x:Nm} {o:O},b0g (b9m l)=true→(x,o)∈l→a2m l x=some o
 | (a,b) :: r,x,o,h,hm=>by
  obtain ⟨h1,h2⟩:=a0a h;unfold a2m;rcases List.mem_cons.1 hm with hm | hm
  ·cases hm;rw [a7n];rfl
  ·rw [b2d (Ne.symm (c0a h1 (c0b hm)))];exact d4f h2 hm
theorem c2g {m:Mem} {ren:List (Nm×Nm)}:∀ {l:List (Nm×Nm)} {x:Nm} {o:O},(x,o)∈b1b m ren l→∃ old,(old,x)∈l∧o=f7m ren (m old)
 | (a,b) :: r,x,o,h=>by
  rcases List.mem_cons.1 h with h | h
  ·cases h;exact ⟨a,List.mem_cons_self,rfl⟩
  ·obtain ⟨old,h1,h2⟩:=c2g h;exact ⟨old,List.mem_cons_of_mem _ h1,h2⟩
theorem d1x:∀ {l:List Nm} {n:Nm},b7j m l=true→n∈l→∃ o,m n=some o
 | a :: r,n,h,hn=>by
  unfold b7j at h;split at h
  ·rename_i o ho;rcases List.mem_cons.1 hn with rfl | hn
   ·exact ⟨o,ho⟩
   ·exact d1x h hn
  ·cases h
theorem c7i {α:Type}:∀ {a b:List (Nm×α)},b0g (b9m (a++b))=true→∀ {x:Nm} {y z:α},(x,y)∈a→(x,z)∈b→False
 | (n,o) :: r,b,h,x,y,z,ha,hb=>by
  obtain ⟨h1,h2⟩:=a0a h;rcases List.mem_cons.1 ha with ha | ha
  ·cases ha;exact c0a h1 (c0b (List.mem_append_right r hb)) rfl
  ·exact c7i h2 ha hb
theorem e2r {S:Nat→Prop} {at_:Nm} {a:A} {v:Value} (h:RV1 E env w S a v) (hn:∀ q,q∈(d7h D at_ a).2→env q.1=some (.slice none 0 0)):RV1 E env w S (d7h D at_ a).1 v∧(a.solid=true→(d7h D at_ a).1.solid=true):=by
 cases a with
 | nil e=>
  have hv:v=.slice none 0 0:=h;subst hv;exact ⟨⟨hn (at_,bif D e then .deep e [] none else .row e true []) List.mem_cons_self,_,_,_,rfl⟩,fun _=>rfl⟩
 | _=>exact ⟨h,fun h=>h⟩
theorem c7j {S:Nat→Prop} {s:Nat}:∀ {j:Nat} {as:List A} {vs:List Value},RVs E env w S as vs→(∀ q,q∈(b0f D s j as).2→env q.1=some (.slice none 0 0))→RVs E env w S (b0f D s j as).1 vs∧(a0o as=true→a0o (b0f D s j as).1=true)
 | j,[],[],_,_=>⟨trivial,fun _=>rfl⟩
 | j,a :: as,v :: vs,h,hn=>by
  have h1:=e2r (at_:=(s,j)) h.1 (fun q hq=>hn q (List.mem_append_left _ hq));have h2:=c7j (j:=j+1) h.2 (fun q hq=>hn q (List.mem_append_right _ hq));refine ⟨⟨h1.1,h2.1⟩,fun hs=>?_⟩;simp only [a0o,Bool.and_eq_true] at hs;simp only [b0f,a0o,h1.2 hs.1,h2.2 hs.2,Bool.and_self]
 | _,[],_ :: _,h,_=>h.elim
 | _,_ :: _,[],h,_=>h.elim
theorem b3u:∀ {l:List (Nm×O)} {x:Nm} {o:O},(x,o)∈(b2x D l).1→(∃ cs,(x,.var cs)∈l∧o=.var (b0f D x.1 1 cs).1∧∀ q,q∈(b0f D x.1 1 cs).2→q∈(b2x D l).2)∨((x,o)∈l∧∀ cs,o≠.var cs)
 | (n,.var cs) :: r,x,o,h=>by
  rcases List.mem_cons.1 h with h | h
  ·cases h;exact .inl ⟨cs,List.mem_cons_self,rfl,fun q hq=>List.mem_append_left _ hq⟩
  ·rcases b3u h with ⟨cs',h1,h2,h3⟩ | ⟨h1,h2⟩
   ·exact .inl ⟨cs',List.mem_cons_of_mem _ h1,h2,fun q hq=>List.mem_append_right _ (h3 q hq)⟩
   ·exact .inr ⟨List.mem_cons_of_mem _ h1,h2⟩
 | (n,.row e d es) :: r,x,o,h=>by
  rcases List.mem_cons.1 h with h | h
  ·cases h;exact .inr ⟨List.mem_cons_self,fun cs h=>by cases h⟩
  ·rcases b3u h with ⟨cs',h1,h2,h3⟩ | ⟨h1,h2⟩
   ·exact .inl ⟨cs',List.mem_cons_of_mem _ h1,h2,h3⟩
   ·exact .inr ⟨List.mem_cons_of_mem _ h1,h2⟩
 | (n,.dead) :: r,x,o,h=>by
  rcases List.mem_cons.1 h with h | h
  ·cases h;exact .inr ⟨List.mem_cons_self,fun cs h=>by cases h⟩
  ·rcases b3u h with ⟨cs',h1,h2,h3⟩ | ⟨h1,h2⟩
   ·exact .inl ⟨cs',List.mem_cons_of_mem _ h1,h2,h3⟩
   ·exact .inr ⟨List.mem_cons_of_mem _ h1,h2⟩
 | (n,.save as) :: r,x,o,h=>by
  rcases List.mem_cons.1 h with h | h
  ·cases h;exact .inr ⟨List.mem_cons_self,fun cs h=>by cases h⟩
  ·rcases b3u h with ⟨cs',h1,h2,h3⟩ | ⟨h1,h2⟩
   ·exact .inl ⟨cs',List.mem_cons_of_mem _ h1,h2,h3⟩
   ·exact .inr ⟨List.mem_cons_of_mem _ h1,h2⟩
 | (n,.deep e es hh) :: r,x,o,h=>by
  rcases List.mem_cons.1 h with h | h
  ·cases h;exact .inr ⟨List.mem_cons_self,fun cs h=>by cases h⟩
  ·rcases b3u h with ⟨cs',h1,h2,h3⟩ | ⟨h1,h2⟩
   ·exact .inl ⟨cs',List.mem_cons_of_mem _ h1,h2,h3⟩
   ·exact .inr ⟨List.mem_cons_of_mem _ h1,h2⟩
def c7k (l:List (Nm×O)):Prop:=∀ x o,(x,o)∈l→∃ e,o=.row e true []∨o=.deep e [] none
theorem d7s (at_:Nm) (a:A):c7k (d7h D at_ a).2:=by
 intro x o h;cases a <;> simp only [d7h] at h <;> first | (simp at h;done) | skip
 rename_i e;simp only [List.mem_singleton,Prod.mk.injEq] at h;refine ⟨e,?_⟩;rw [h.2];cases D e <;> simp
theorem c2h (s:Nat):∀ (j:Nat) (as:List A),c7k (b0f D s j as).2
 | _,[]=>fun x o h=>by simp [b0f] at h
 | j,a :: as=>fun x o h=>by
  rcases List.mem_append.1 h with h | h
  ·exact d7s _ _ x o h
  ·exact c2h s _ _ x o h
theorem e8d (s:Nat) (a:A):c7k (e0n D s a).2:=by
 cases a with
 | agg as=>exact c2h s _ _
 | _=>exact d7s _ _
theorem d7t:∀ (l:List (Nat×A)),c7k (b7s D l).2
 | []=>fun x o h=>by simp [b7s] at h
 | (i,a) :: r=>fun x o h=>by
  rcases List.mem_append.1 h with h | h
  ·exact e8d _ _ x o h
  ·exact d7t r x o h
theorem b3v:∀ (l:List (Nm×O)),c7k (b2x D l).2
 | []=>fun x o h=>by simp [b2x] at h
 | (n,.var cs) :: r=>fun x o h=>by
  rcases List.mem_append.1 h with h | h
  ·exact c2h _ _ _ x o h
  ·exact b3v r x o h
 | (n,.row e d es) :: r=>fun x o h=>b3v r x o h
 | (n,.dead) :: r=>fun x o h=>b3v r x o h
 | (n,.save as) :: r=>fun x o h=>b3v r x o h
 | (n,.deep e es hh) :: r=>fun x o h=>b3v r x o h
end
end Go.Proofs.Ytdbopobkdpmpgaa.Ev
