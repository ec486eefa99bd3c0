/- The state at a loop's head. No condition. -/
import Derived.Test.YtjadnceefhbphaaGreatmEvN
namespace Go.Proofs.YtjadnceefhbphaaGreat.Ev
open Go
set_option linter.unusedVariables false
section
variable {D:Nat→Bool} {P:Program} {E:Env} {β:Base} {m:Mem} {env:Names} {w w':World} {S:Nat→Prop} {N:Nat} {d0:List Deferred}
def a7c:List (Nm×Nm)→Nm→Option Nm
 | [],_=>none
 | (a,b) :: r,x=>bif a8m x b then some a else a7c r x
theorem e3l:∀ {l:List (Nm×Nm)} {n x:Nm},b7n l n=some x→(n,x)∈l
 | (a,b) :: r,n,x,h=>by
  unfold b7n at h;cases hb:a8m n a with
  | true=>rw [hb] at h;cases h;rw [c0y.1 hb];exact List.mem_cons_self
  | false=>rw [hb] at h;exact List.mem_cons_of_mem _ (e3l h)
theorem b0k:∀ {l:List (Nm×Nm)} {n x:Nm},a7c l x=some n→(n,x)∈l
 | (a,b) :: r,n,x,h=>by
  unfold a7c at h;cases hb:a8m x b with
  | true=>rw [hb] at h;cases h;rw [c0y.1 hb];exact List.mem_cons_self
  | false=>rw [hb] at h;exact List.mem_cons_of_mem _ (b0k h)
theorem d1x {n:Nm} {l:List Nm} (h:(!(l.any (a8m n)))=true) {x:Nm} (hx:x∈l):n≠x:=by
 rintro rfl
 have:l.any (a8m n)=true:=List.any_eq_true.2 ⟨n,hx,b0s n⟩;rw [this] at h;cases h
theorem d1y {α γ:Type}:∀ {l:List (α×γ)} {a:α} {b:γ},(a,b)∈l→a∈d1j l
 | (a',b') :: r,a,b,h=>by
  rcases List.mem_cons.1 h with h | h
  ·cases h;exact List.mem_cons_self
  ·exact List.mem_cons_of_mem _ (d1y h)
theorem g8j {α γ:Type}:∀ {l:List (α×γ)} {a:α} {b:γ},(a,b)∈l→b∈i6i l
 | (a',b') :: r,a,b,h=>by
  rcases List.mem_cons.1 h with h | h
  ·cases h;exact List.mem_cons_self
  ·exact List.mem_cons_of_mem _ (g8j h)
theorem f5y:∀ {l:List (Nm×Nm)} {n x:Nm},b6c (d1j l)=true→(n,x)∈l→b7n l n=some x
 | (a,b) :: r,n,x,h,hm=>by
  obtain ⟨h1,h2⟩:=a0d h;unfold b7n;rcases List.mem_cons.1 hm with hm | hm
  ·cases hm;rw [b0s];rfl
  ·rw [b8w (Ne.symm (d1x h1 (d1y hm)))];exact f5y h2 hm
theorem c1c:∀ {l:List (Nm×Nm)} {n x:Nm},b6c (i6i l)=true→(n,x)∈l→a7c l x=some n
 | (a,b) :: r,n,x,h,hm=>by
  obtain ⟨h1,h2⟩:=a0d h;unfold a7c;rcases List.mem_cons.1 hm with hm | hm
  ·cases hm;rw [b0s];rfl
  ·rw [b8w (Ne.symm (d1x h1 (g8j hm)))];exact c1c h2 hm
theorem g1n:∀ {l:List (Nm×O)} {x:Nm} {o:O},a1f l x=some o→(x,o)∈l
 | (a,b) :: r,x,o,h=>by
  unfold a1f at h;cases hb:a8m x a with
  | true=>rw [hb] at h;cases h;rw [c0y.1 hb];exact List.mem_cons_self
  | false=>rw [hb] at h;exact List.mem_cons_of_mem _ (g1n h)
theorem f5z:∀ {l:List (Nm×O)} {x:Nm} {o:O},b6c (d1j l)=true→(x,o)∈l→a1f l x=some o
 | (a,b) :: r,x,o,h,hm=>by
  obtain ⟨h1,h2⟩:=a0d h;unfold a1f;rcases List.mem_cons.1 hm with hm | hm
  ·cases hm;rw [b0s];rfl
  ·rw [b8w (Ne.symm (d1x h1 (d1y hm)))];exact f5z h2 hm
theorem d5t {m:Mem} {ren:List (Nm×Nm)}:∀ {l:List (Nm×Nm)} {x:Nm} {o:O},(x,o)∈b7o m ren l→∃ old,(old,x)∈l∧o=i6w ren (m old)
 | (a,b) :: r,x,o,h=>by
  rcases List.mem_cons.1 h with h | h
  ·cases h;exact ⟨a,List.mem_cons_self,rfl⟩
  ·obtain ⟨old,h1,h2⟩:=d5t h;exact ⟨old,List.mem_cons_of_mem _ h1,h2⟩
theorem f3u:∀ {l:List Nm} {n:Nm},c7i m l=true→n∈l→∃ o,m n=some o
 | a :: r,n,h,hn=>by
  unfold c7i at h;split at h
  ·rename_i o ho;rcases List.mem_cons.1 hn with rfl | hn
   ·exact ⟨o,ho⟩
   ·exact f3u h hn
  ·cases h
theorem e3m {α:Type}:∀ {a b:List (Nm×α)},b6c (d1j (a++b))=true→∀ {x:Nm} {y z:α},(x,y)∈a→(x,z)∈b→False
 | (n,o) :: r,b,h,x,y,z,ha,hb=>by
  obtain ⟨h1,h2⟩:=a0d h;rcases List.mem_cons.1 ha with ha | ha
  ·cases ha;exact d1x h1 (d1y (List.mem_append_right r hb)) rfl
  ·exact e3m h2 ha hb
theorem g8k {S:Nat→Prop} {at_:Nm} {a:A} {v:Value} (h:RV1 E env w S a v) (hn:∀ q,q∈(g1c D at_ a).2→env q.1=some (.slice none 0 0)):RV1 E env w S (g1c D at_ a).1 v∧(a.solid=true→(g1c D at_ a).1.solid=true):=by
 cases a with
 | nil e=>
  have hv:v=.slice none 0 0:=h;subst hv;exact ⟨⟨hn (at_,bif D e then .deep e [] none else .row e true []) List.mem_cons_self,_,_,_,rfl⟩,fun _=>rfl⟩
 | _=>exact ⟨h,fun h=>h⟩
theorem e3n {S:Nat→Prop} {s:Nat}:∀ {j:Nat} {as:List A} {vs:List Value},RVs E env w S as vs→(∀ q,q∈(b6b D s j as).2→env q.1=some (.slice none 0 0))→RVs E env w S (b6b D s j as).1 vs∧(a1d as=true→a1d (b6b D s j as).1=true)
 | j,[],[],_,_=>⟨trivial,fun _=>rfl⟩
 | j,a :: as,v :: vs,h,hn=>by
  have h1:=g8k (at_:=(s,j)) h.1 (fun q hq=>hn q (List.mem_append_left _ hq));have h2:=e3n (j:=j+1) h.2 (fun q hq=>hn q (List.mem_append_right _ hq));refine ⟨⟨h1.1,h2.1⟩,fun hs=>?_⟩;simp only [a1d,Bool.and_eq_true] at hs;simp only [b6b,a1d,h1.2 hs.1,h2.2 hs.2,Bool.and_self]
 | _,[],_ :: _,h,_=>h.elim
 | _,_ :: _,[],h,_=>h.elim
theorem c1d:∀ {l:List (Nm×O)} {x:Nm} {o:O},(x,o)∈(b9r D l).1→(∃ cs,(x,.var cs)∈l∧o=.var (b6b D x.1 1 cs).1∧∀ q,q∈(b6b D x.1 1 cs).2→q∈(b9r D l).2)∨((x,o)∈l∧∀ cs,o≠.var cs)
 | (n,.var cs) :: r,x,o,h=>by
  rcases List.mem_cons.1 h with h | h
  ·cases h;exact .inl ⟨cs,List.mem_cons_self,rfl,fun q hq=>List.mem_append_left _ hq⟩
  ·rcases c1d h with ⟨cs',h1,h2,h3⟩ | ⟨h1,h2⟩
   ·exact .inl ⟨cs',List.mem_cons_of_mem _ h1,h2,fun q hq=>List.mem_append_right _ (h3 q hq)⟩
   ·exact .inr ⟨List.mem_cons_of_mem _ h1,h2⟩
 | (n,.row e d es) :: r,x,o,h=>by
  rcases List.mem_cons.1 h with h | h
  ·cases h;exact .inr ⟨List.mem_cons_self,fun cs h=>by cases h⟩
  ·rcases c1d h with ⟨cs',h1,h2,h3⟩ | ⟨h1,h2⟩
   ·exact .inl ⟨cs',List.mem_cons_of_mem _ h1,h2,h3⟩
   ·exact .inr ⟨List.mem_cons_of_mem _ h1,h2⟩
 | (n,.dead) :: r,x,o,h=>by
  rcases List.mem_cons.1 h with h | h
  ·cases h;exact .inr ⟨List.mem_cons_self,fun cs h=>by cases h⟩
  ·rcases c1d h with ⟨cs',h1,h2,h3⟩ | ⟨h1,h2⟩
   ·exact .inl ⟨cs',List.mem_cons_of_mem _ h1,h2,h3⟩
   ·exact .inr ⟨List.mem_cons_of_mem _ h1,h2⟩
 | (n,.save as) :: r,x,o,h=>by
  rcases List.mem_cons.1 h with h | h
  ·cases h;exact .inr ⟨List.mem_cons_self,fun cs h=>by cases h⟩
  ·rcases c1d h with ⟨cs',h1,h2,h3⟩ | ⟨h1,h2⟩
   ·exact .inl ⟨cs',List.mem_cons_of_mem _ h1,h2,h3⟩
   ·exact .inr ⟨List.mem_cons_of_mem _ h1,h2⟩
 | (n,.deep e es hh) :: r,x,o,h=>by
  rcases List.mem_cons.1 h with h | h
  ·cases h;exact .inr ⟨List.mem_cons_self,fun cs h=>by cases h⟩
  ·rcases c1d h with ⟨cs',h1,h2,h3⟩ | ⟨h1,h2⟩
   ·exact .inl ⟨cs',List.mem_cons_of_mem _ h1,h2,h3⟩
   ·exact .inr ⟨List.mem_cons_of_mem _ h1,h2⟩
def e3o (l:List (Nm×O)):Prop:=∀ x o,(x,o)∈l→∃ e,o=.row e true []∨o=.deep e [] none
theorem g1o (at_:Nm) (a:A):e3o (g1c D at_ a).2:=by
 intro x o h;cases a <;> simp only [g1c] at h <;> first | (simp at h;done) | skip
 rename_i e;simp only [List.mem_singleton,Prod.mk.injEq] at h;refine ⟨e,?_⟩;rw [h.2];cases D e <;> simp
theorem d5u (s:Nat):∀ (j:Nat) (as:List A),e3o (b6b D s j as).2
 | _,[]=>fun x o h=>by simp [b6b] at h
 | j,a :: as=>fun x o h=>by
  rcases List.mem_append.1 h with h | h
  ·exact g1o _ _ x o h
  ·exact d5u s _ _ x o h
theorem h4s (s:Nat) (a:A):e3o (g5m D s a).2:=by
 cases a with
 | agg as=>exact d5u s _ _
 | _=>exact g1o _ _
theorem g1p:∀ (l:List (Nat×A)),e3o (c8a D l).2
 | []=>fun x o h=>by simp [c8a] at h
 | (i,a) :: r=>fun x o h=>by
  rcases List.mem_append.1 h with h | h
  ·exact h4s _ _ x o h
  ·exact g1p r x o h
theorem c1e:∀ (l:List (Nm×O)),e3o (b9r D l).2
 | []=>fun x o h=>by simp [b9r] at h
 | (n,.var cs) :: r=>fun x o h=>by
  rcases List.mem_append.1 h with h | h
  ·exact d5u _ _ _ x o h
  ·exact c1e r x o h
 | (n,.row e d es) :: r=>fun x o h=>c1e r x o h
 | (n,.dead) :: r=>fun x o h=>c1e r x o h
 | (n,.save as) :: r=>fun x o h=>c1e r x o h
 | (n,.deep e es hh) :: r=>fun x o h=>c1e r x o h
end
end Go.Proofs.YtjadnceefhbphaaGreat.Ev
