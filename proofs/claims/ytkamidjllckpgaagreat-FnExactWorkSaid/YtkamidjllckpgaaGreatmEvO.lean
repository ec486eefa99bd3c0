/- The state at a loop's head. No condition. -/
import Derived.Test.YtkamidjllckpgaaGreatmEvN
namespace Go.Proofs.YtkamidjllckpgaaGreat.Ev
open Go
set_option linter.unusedVariables false
section
variable {D:Nat→Bool} {P:Program} {E:Env} {β:Base} {m:Mem} {env:Names} {w w':World} {S:Nat→Prop} {N:Nat} {d0:List Deferred}
def a7g:List (Nm×Nm)→Nm→Option Nm
 | [],_=>none
 | (a,b) :: r,x=>bif a8t x b then some a else a7g r x
theorem e9w:∀ {l:List (Nm×Nm)} {n x:Nm},c0x l n=some x→(n,x)∈l
 | (a,b) :: r,n,x,h=>by
  unfold c0x at h
  cases hb:a8t n a with
  | true=>rw [hb] at h;cases h;rw [c5f.1 hb];exact List.mem_cons_self
  | false=>rw [hb] at h;exact List.mem_cons_of_mem _ (e9w h)
theorem b0v:∀ {l:List (Nm×Nm)} {n x:Nm},a7g l x=some n→(n,x)∈l
 | (a,b) :: r,n,x,h=>by
  unfold a7g at h
  cases hb:a8t x b with
  | true=>rw [hb] at h;cases h;rw [c5f.1 hb];exact List.mem_cons_self
  | false=>rw [hb] at h;exact List.mem_cons_of_mem _ (b0v h)
theorem d7g {n:Nm} {l:List Nm} (h:(!(l.any (a8t n)))=true) {x:Nm} (hx:x∈l):n≠x:=by
 rintro rfl
 have:l.any (a8t n)=true:=List.any_eq_true.2 ⟨n,hx,b1f n⟩
 rw [this] at h;cases h
theorem d7h {α γ:Type}:∀ {l:List (α×γ)} {a:α} {b:γ},(a,b)∈l→a∈e1o l
 | (a',b') :: r,a,b,h=>by
  rcases List.mem_cons.1 h with h | h
  ·cases h;exact List.mem_cons_self
  ·exact List.mem_cons_of_mem _ (d7h h)
theorem h3x {α γ:Type}:∀ {l:List (α×γ)} {a:α} {b:γ},(a,b)∈l→b∈j1g l
 | (a',b') :: r,a,b,h=>by
  rcases List.mem_cons.1 h with h | h
  ·cases h;exact List.mem_cons_self
  ·exact List.mem_cons_of_mem _ (h3x h)
theorem g2b:∀ {l:List (Nm×Nm)} {n x:Nm},b8n (e1o l)=true→(n,x)∈l→c0x l n=some x
 | (a,b) :: r,n,x,h,hm=>by
  obtain ⟨h1,h2⟩:=a0e h
  unfold c0x
  rcases List.mem_cons.1 hm with hm | hm
  ·cases hm;rw [b1f];rfl
  ·rw [c2j (Ne.symm (d7g h1 (d7h hm)))];exact g2b h2 hm
theorem c5j:∀ {l:List (Nm×Nm)} {n x:Nm},b8n (j1g l)=true→(n,x)∈l→a7g l x=some n
 | (a,b) :: r,n,x,h,hm=>by
  obtain ⟨h1,h2⟩:=a0e h
  unfold a7g
  rcases List.mem_cons.1 hm with hm | hm
  ·cases hm;rw [b1f];rfl
  ·rw [c2j (Ne.symm (d7g h1 (h3x hm)))];exact c5j h2 hm
theorem g7f:∀ {l:List (Nm×O)} {x:Nm} {o:O},a0y l x=some o→(x,o)∈l
 | (a,b) :: r,x,o,h=>by
  unfold a0y at h
  cases hb:a8t x a with
  | true=>rw [hb] at h;cases h;rw [c5f.1 hb];exact List.mem_cons_self
  | false=>rw [hb] at h;exact List.mem_cons_of_mem _ (g7f h)
theorem g2c:∀ {l:List (Nm×O)} {x:Nm} {o:O},b8n (e1o l)=true→(x,o)∈l→a0y l x=some o
 | (a,b) :: r,x,o,h,hm=>by
  obtain ⟨h1,h2⟩:=a0e h
  unfold a0y
  rcases List.mem_cons.1 hm with hm | hm
  ·cases hm;rw [b1f];rfl
  ·rw [c2j (Ne.symm (d7g h1 (d7h hm)))];exact g2c h2 hm
theorem e1t {m:Mem} {ren:List (Nm×Nm)}:∀ {l:List (Nm×Nm)} {x:Nm} {o:O},(x,o)∈c0y m ren l→∃ old,(old,x)∈l∧o=j1v ren (m old)
 | (a,b) :: r,x,o,h=>by
  rcases List.mem_cons.1 h with h | h
  ·cases h;exact ⟨a,List.mem_cons_self,rfl⟩
  ·obtain ⟨old,h1,h2⟩:=e1t h;exact ⟨old,List.mem_cons_of_mem _ h1,h2⟩
theorem f9w:∀ {l:List Nm} {n:Nm},d2e m l=true→n∈l→∃ o,m n=some o
 | a :: r,n,h,hn=>by
  unfold d2e at h
  split at h
  ·rename_i o ho
   rcases List.mem_cons.1 hn with rfl | hn
   ·exact ⟨o,ho⟩
   ·exact f9w h hn
  ·cases h
theorem e9x {α:Type}:∀ {a b:List (Nm×α)},b8n (e1o (a++b))=true→∀ {x:Nm} {y z:α},(x,y)∈a→(x,z)∈b→False
 | (n,o) :: r,b,h,x,y,z,ha,hb=>by
  obtain ⟨h1,h2⟩:=a0e h
  rcases List.mem_cons.1 ha with ha | ha
  ·cases ha;exact d7g h1 (d7h (List.mem_append_right r hb)) rfl
  ·exact e9x h2 ha hb
theorem h3y {S:Nat→Prop} {at_:Nm} {a:A} {v:Value} (h:RV1 E env w S a v) (hn:∀ q,q∈(g6u D at_ a).2→env q.1=some (.slice none 0 0)):RV1 E env w S (g6u D at_ a).1 v∧(a.solid=true→(g6u D at_ a).1.solid=true):=by
 cases a with
 | nil e=>
  have hv:v=.slice none 0 0:=h
  subst hv
  exact ⟨⟨hn (at_,bif D e then .deep e [] none else .row e true []) List.mem_cons_self,_,_,_,rfl⟩,fun _=>rfl⟩
 | _=>exact ⟨h,fun h=>h⟩
theorem e9y {S:Nat→Prop} {s:Nat}:∀ {j:Nat} {as:List A} {vs:List Value},RVs E env w S as vs→(∀ q,q∈(b8m D s j as).2→env q.1=some (.slice none 0 0))→RVs E env w S (b8m D s j as).1 vs∧(a1d as=true→a1d (b8m D s j as).1=true)
 | j,[],[],_,_=>⟨trivial,fun _=>rfl⟩
 | j,a :: as,v :: vs,h,hn=>by
  have h1:=h3y (at_:=(s,j)) h.1 (fun q hq=>hn q (List.mem_append_left _ hq))
  have h2:=e9y (j:=j+1) h.2 (fun q hq=>hn q (List.mem_append_right _ hq))
  refine ⟨⟨h1.1,h2.1⟩,fun hs=>?_⟩
  simp only [a1d,Bool.and_eq_true] at hs
  simp only [b8m,a1d,h1.2 hs.1,h2.2 hs.2,Bool.and_self]
 | _,[],_ :: _,h,_=>h.elim
 | _,_ :: _,[],h,_=>h.elim
theorem c5k:∀ {l:List (Nm×O)} {x:Nm} {o:O},(x,o)∈(c3s D l).1→(∃ cs,(x,.var cs)∈l∧o=.var (b8m D x.1 1 cs).1∧∀ q,q∈(b8m D x.1 1 cs).2→q∈(c3s D l).2)∨((x,o)∈l∧∀ cs,o≠.var cs)
 | (n,.var cs) :: r,x,o,h=>by
  rcases List.mem_cons.1 h with h | h
  ·cases h;exact .inl ⟨cs,List.mem_cons_self,rfl,fun q hq=>List.mem_append_left _ hq⟩
  ·rcases c5k h with ⟨cs',h1,h2,h3⟩ | ⟨h1,h2⟩
   ·exact .inl ⟨cs',List.mem_cons_of_mem _ h1,h2,fun q hq=>List.mem_append_right _ (h3 q hq)⟩
   ·exact .inr ⟨List.mem_cons_of_mem _ h1,h2⟩
 | (n,.row e d es) :: r,x,o,h=>by
  rcases List.mem_cons.1 h with h | h
  ·cases h;exact .inr ⟨List.mem_cons_self,fun cs h=>by cases h⟩
  ·rcases c5k h with ⟨cs',h1,h2,h3⟩ | ⟨h1,h2⟩
   ·exact .inl ⟨cs',List.mem_cons_of_mem _ h1,h2,h3⟩
   ·exact .inr ⟨List.mem_cons_of_mem _ h1,h2⟩
 | (n,.dead) :: r,x,o,h=>by
  rcases List.mem_cons.1 h with h | h
  ·cases h;exact .inr ⟨List.mem_cons_self,fun cs h=>by cases h⟩
  ·rcases c5k h with ⟨cs',h1,h2,h3⟩ | ⟨h1,h2⟩
   ·exact .inl ⟨cs',List.mem_cons_of_mem _ h1,h2,h3⟩
   ·exact .inr ⟨List.mem_cons_of_mem _ h1,h2⟩
 | (n,.save as) :: r,x,o,h=>by
  rcases List.mem_cons.1 h with h | h
  ·cases h;exact .inr ⟨List.mem_cons_self,fun cs h=>by cases h⟩
  ·rcases c5k h with ⟨cs',h1,h2,h3⟩ | ⟨h1,h2⟩
   ·exact .inl ⟨cs',List.mem_cons_of_mem _ h1,h2,h3⟩
   ·exact .inr ⟨List.mem_cons_of_mem _ h1,h2⟩
 | (n,.deep e es hh) :: r,x,o,h=>by
  rcases List.mem_cons.1 h with h | h
  ·cases h;exact .inr ⟨List.mem_cons_self,fun cs h=>by cases h⟩
  ·rcases c5k h with ⟨cs',h1,h2,h3⟩ | ⟨h1,h2⟩
   ·exact .inl ⟨cs',List.mem_cons_of_mem _ h1,h2,h3⟩
   ·exact .inr ⟨List.mem_cons_of_mem _ h1,h2⟩
def e9z (l:List (Nm×O)):Prop:=∀ x o,(x,o)∈l→∃ e,o=.row e true []∨o=.deep e [] none
theorem g7g (at_:Nm) (a:A):e9z (g6u D at_ a).2:=by
 intro x o h
 cases a <;> simp only [g6u] at h <;> first | (simp at h;done) | skip
 rename_i e
 simp only [List.mem_singleton,Prod.mk.injEq] at h
 refine ⟨e,?_⟩
 rw [h.2]
 cases D e <;> simp
theorem e1u (s:Nat):∀ (j:Nat) (as:List A),e9z (b8m D s j as).2
 | _,[]=>fun x o h=>by simp [b8m] at h
 | j,a :: as=>fun x o h=>by
  rcases List.mem_append.1 h with h | h
  ·exact g7g _ _ x o h
  ·exact e1u s _ _ x o h
theorem h9z (s:Nat) (a:A):e9z (h0z D s a).2:=by
 cases a with
 | agg as=>exact e1u s _ _
 | _=>exact g7g _ _
theorem g7h:∀ (l:List (Nat×A)),e9z (d2t D l).2
 | []=>fun x o h=>by simp [d2t] at h
 | (i,a) :: r=>fun x o h=>by
  rcases List.mem_append.1 h with h | h
  ·exact h9z _ _ x o h
  ·exact g7h r x o h
theorem c5l:∀ (l:List (Nm×O)),e9z (c3s D l).2
 | []=>fun x o h=>by simp [c3s] at h
 | (n,.var cs) :: r=>fun x o h=>by
  rcases List.mem_append.1 h with h | h
  ·exact e1u _ _ _ x o h
  ·exact c5l r x o h
 | (n,.row e d es) :: r=>fun x o h=>c5l r x o h
 | (n,.dead) :: r=>fun x o h=>c5l r x o h
 | (n,.save as) :: r=>fun x o h=>c5l r x o h
 | (n,.deep e es hh) :: r=>fun x o h=>c5l r x o h
end
end Go.Proofs.YtkamidjllckpgaaGreat.Ev
