/- Names are shifted; a caller's memory is handed to a call as a whole, and comes back. No condition. -/
import Derived.Test.YtjadnceefhbphaaGreatmEvP
namespace Go.Proofs.YtjadnceefhbphaaGreat.Ev
open Go
set_option linter.unusedVariables false
set_option maxRecDepth 100000
section
variable {P:Program} {E:Env} {β:Base} {m:Mem} {env:Names} {w w':World} {S:Nat→Prop} {N:Nat} {d0:List Deferred}
theorem e1y {a:Nat}:d5p a=true↔a<2∨(900000≤a∧a<1000000):=by
 unfold d5p;simp [Nat.blt_eq,Nat.ble_eq]
theorem e3r (n:Nm):d1m (d1l n)=some n:=by
 obtain ⟨a,b⟩:=n;unfold d1l d1m;cases h:d5p a with
 | true=>simp [h]
 | false=>
  have h1:¬ (a<2∨(900000≤a∧a<1000000)):=fun hx=>by rw [e1y.2 hx] at h;cases h
  have h2:d5p (a+1000000)=false:=by
   cases h3:d5p (a+1000000) with
   | false=>rfl
   | true=>have:=e1y.1 h3;omega
  have h4:Nat.blt (a+1000000) 1000002=false:=by
   cases h5:Nat.blt (a+1000000) 1000002 with
   | false=>rfl
   | true=>have:=a3s (show Nat.ble (a+1000000+1) 1000002=true from h5);omega
  simp [h2,h4,h]
theorem h4w {x n:Nm} (h:d1m x=some n):x=d1l n:=by
 obtain ⟨a,b⟩:=x;unfold d1m at h;unfold d1l;cases h1:d5p a with
 | true=>rw [h1] at h;cases h;simp [h1]
 | false=>
  rw [h1] at h;simp only [cond_false] at h;cases h2:Nat.blt a 1000002 || d5p (a - 1000000) with
  | true=>rw [h2] at h;cases h
  | false=>
   rw [h2] at h;have h:=Option.some.inj h;subst h;obtain ⟨h3,h4⟩:=Bool.or_eq_false_iff.1 h2;have h5:1000002≤a:=by
    rcases Nat.lt_or_ge a 1000002 with hx | hx
    ·have:Nat.blt a 1000002=true:=by simpa [Nat.blt_eq] using hx
     rw [this] at h3;cases h3
    ·exact hx
   simp only [h4,cond_false];rw [Nat.sub_add_cancel (show 1000000≤a by omega)]
theorem j0s {n n':Nm} (h:d1l n=d1l n'):n=n':=by
 have:=e3r n;rw [h,e3r] at this;exact (Option.some.inj this).symm
def b8t (env:Names):Names:=⟨fun x=>match d1m x with | some n=>env n | none=>none,fun x=>match d1m x with | some n=>env.fp n | none=>[]⟩
theorem a4r (env:Names) (n:Nm):b8t env (d1l n)=env n:=by simp [b8t,e3r]
theorem f6b (env:Names) (n:Nm):(b8t env).fp (d1l n)=env.fp n:=by simp [b8t,e3r]
theorem g8p (m:Mem) (n:Nm):c4o m (d1l n)=(m n).map upO:=by
 unfold c4o;rw [e3r];show (match m n with | some o=>some (upO o) | none=>none)=_
 cases m n <;> rfl
theorem f3v {x:Nm} {o:O} (h:c4o m x=some o):∃ n o',x=d1l n∧m n=some o'∧o=upO o':=by
 unfold c4o at h;split at h
 ·rename_i n hn;split at h
  ·rename_i o' ho;cases h;exact ⟨n,o',h4w hn,ho,rfl⟩
  ·cases h
 ·cases h
theorem f3w {a:A} {v:Value} (h:RV1 E env w S a v):RV1 E (b8t env) w S (upA a) v:=by
 cases a with
 | ref n=>exact ⟨by rw [a4r];exact h.1,h.2⟩
 | cut n e f l=>obtain ⟨ga,len,cap,h1,h2⟩:=h;exact ⟨ga,len,cap,by rw [a4r];exact h1,h2⟩
 | ptr n o=>obtain ⟨b,h1,h2⟩:=h;exact ⟨b,by rw [a4r];exact h1,h2⟩
 | ep n e i o=>obtain ⟨g,len,cap,h1,h2⟩:=h;exact ⟨g,len,cap,by rw [a4r];exact h1,h2⟩
 | clo f o=>cases o with
  | none=>exact h
  | some n=>obtain ⟨b,h1,h2⟩:=h;exact ⟨b,by rw [a4r];exact h1,h2⟩
 | _=>exact h
theorem h4x:∀ {as:List A} {vs:List Value},RVs E env w S as vs→RVs E (b8t env) w S (i6j as) vs
 | [],[],_=>trivial
 | _ :: _,_ :: _,h=>⟨f3w h.1,h4x h.2⟩
 | [],_ :: _,h=>h.elim
 | _ :: _,[],h=>h.elim
theorem h9o (a:A):(upA a).solid=a.solid:=by
 cases a with
 | clo f o=>cases o <;> rfl
 | _=>rfl
theorem e3s:∀ as:List A,a1d (i6j as)=a1d as
 | []=>rfl
 | a :: as=>by simp only [i6j,a1d,h9o,e3s as]
theorem i2k {a:A} {v:Value} (h:RV2 E env w S a v):RV2 E (b8t env) w S (upV a) v:=by
 cases a with
 | agg cs=>obtain ⟨vs,h1,h2,h3⟩:=h;exact ⟨vs,h1,by rw [e3s];exact h2,h4x h3⟩
 | tup vs=>exact h.elim
 | clo f o=>cases o with
  | none=>exact h
  | some n=>exact f3w (E:=E) (w:=w) (S:=S) (a:=.clo f (some n)) h
 | i k n=>exact h
 | b x=>exact h
 | s x=>exact h
 | sl e es=>exact h
 | nil e=>exact h
 | ref n=>exact f3w (E:=E) (w:=w) (S:=S) (a:=.ref n) h
 | cut n e f l=>exact f3w (E:=E) (w:=w) (S:=S) (a:=.cut n e f l) h
 | ptr n o=>exact f3w (E:=E) (w:=w) (S:=S) (a:=.ptr n o) h
 | ep n e i o=>exact f3w (E:=E) (w:=w) (S:=S) (a:=.ep n e i o) h
 | vp t c o=>exact h
 | nilp=>exact h
 | skip=>exact h
 | undef=>exact h
theorem g6b:∀ {as:List A} {vs:List Value},RV2s E env w S as vs→RV2s E (b8t env) w S (i6k as) vs
 | [],[],_=>trivial
 | _ :: _,_ :: _,h=>⟨i2k h.1,g6b h.2⟩
 | [],_ :: _,h=>h.elim
 | _ :: _,[],h=>h.elim
theorem i4i {a:A} (h:a.isTup=false):(upV a).isTup=false:=by
 cases a with
 | clo f o=>cases o <;> rfl
 | tup vs=>cases h
 | _=>rfl
theorem i7g {a:A} {v:Value} (h:RV E env w S a v):RV E (b8t env) w S (upW a) v:=by
 cases ht:a.isTup with
 | true=>
  cases a with
  | tup vs=>obtain ⟨us,h1,h2⟩:=h;exact ⟨us,h1,g6b h2⟩
  | _=>cases ht
 | false=>
  rw [f3h ht] at h;have he:upW a=upV a:=by cases a <;> first | rfl | cases ht
  rw [he,f3h (i4i ht)];exact i2k h
theorem e1z:∀ {as:List A} {vs:List Value},RVall E env w S as vs→RVall E (b8t env) w S (h2r as) vs
 | [],[],_=>trivial
 | _ :: _,_ :: _,h=>⟨i7g h.1,e1z h.2⟩
 | [],_ :: _,h=>h.elim
 | _ :: _,[],h=>h.elim
theorem h4y (n:Nm) (b:Nat):owns (c4o m) (b8t env) (d1l n) b↔owns m env n b:=by
 unfold owns;rw [g8p,a4r,f6b];cases hm:m n with
 | none=>rfl
 | some o=>
  cases o with
  | var cs=>
   cases env.v n with
   | none=>exact Iff.rfl
   | some v=>cases v with
    | pointer p=>cases p <;> exact Iff.rfl
    | _=>exact Iff.rfl
  | row e d es=>cases d <;> exact Iff.rfl
  | deep e es h=>cases h <;> exact Iff.rfl
  | dead=>exact Iff.rfl
  | save as=>exact Iff.rfl
theorem e2a {x:Nm} {b:Nat} (h:owns (c4o m) (b8t env) x b):∃ n,x=d1l n∧owns m env n b:=by
 cases hx:c4o m x with
 | none=>simp [owns,hx] at h
 | some o=>
  obtain ⟨n,o',rfl,_,_⟩:=f3v hx;exact ⟨n,rfl,(h4y n b).1 h⟩
theorem e3t (β:Base) (L:List Nat) (m:Mem) (env:Names) (w:World):a0c β L (c4o m) (b8t env) w=a0c β L m env w:=by
 funext b;refine propext ⟨fun h=>⟨h.1,h.2.1,fun n hn=>h.2.2.1 (d1l n) ((h4y n b).2 hn),h.2.2.2⟩,fun h=>⟨h.1,h.2.1,fun x hx=>?_,h.2.2.2⟩⟩;obtain ⟨n,_,hn⟩:=e2a hx;exact h.2.2.1 n hn
theorem h9p {n:Nm} {o:O} (h:ObjOk E env w S n o):ObjOk E (b8t env) w S (d1l n) (upO o):=by
 cases o with
 | var cs=>obtain ⟨b,vs,el,h1,h2,h3,h4⟩:=h;exact ⟨b,vs,el,by rw [a4r];exact h1,h2,by rw [e3s];exact h3,h4x h4⟩
 | row e d es=>cases d with
  | true=>obtain ⟨v,xs,h1,h2⟩:=h;exact ⟨v,xs,by rw [a4r];exact h1,h2⟩
  | false=>obtain ⟨v,h1,h2⟩:=h;exact ⟨v,by rw [a4r];exact h1,h2⟩
 | deep e es hh=>
  obtain ⟨v,xs,fps,h1,h2,h3,h4,h5⟩:=h;cases hh with
  | none=>exact ⟨v,xs,fps,by rw [a4r];exact h1,h2,h3,⟨fun _ _ _ h=>(by cases h),HoleE.none⟩,by rw [f6b];exact h5⟩
  | some q=>
   obtain ⟨i,j,n'⟩:=q;refine ⟨v,xs,fps,by rw [a4r];exact h1,h2,fun a b ha hb hne hk=>h3 a b ha hb (fun x hx=>?_) (fun k x hx=>?_),⟨fun a b x hx hb=>?_,fun a b x hx hb hne=>?_⟩,by rw [f6b];exact h5⟩
   ·cases hx;exact hne _ rfl
   ·cases hx;exact hk _ _ rfl
   ·cases hx;obtain ⟨q1,q2,q3,q4⟩:=h4.1 i j n' rfl hb;exact ⟨q1,q2,by rw [a4r];exact q3,q4⟩
   ·cases hx;obtain ⟨q1,q2⟩:=h4.2 i j n' rfl hb (fun h9=>hne (by unfold d1l;rw [h9];exact h9));refine ⟨q1,fun b hb=>⟨fun e' ht=>?_,(q2 b hb).2⟩⟩;have hup:((d1l n').1,(d1l n').2+b+1)=d1l (n'.1,n'.2+b+1):=by
     unfold d1l;cases d5p n'.1 <;> rfl
    rw [hup,a4r];exact (q2 b hb).1 e' ht
 | dead=>obtain ⟨v,h⟩:=h;exact ⟨v,by rw [a4r];exact h⟩
 | save as=>obtain ⟨vs,h1,h2⟩:=h;exact ⟨vs,by rw [a4r];exact h1,e1z h2⟩
theorem Heap.up (h:Heap E β [] m env w):Heap E β [] (c4o m) (b8t env) w:=by
 have hs:=e3t β [] m env w;refine ⟨fun x hx=>?_,fun x o hx=>?_,fun x y b hx hy=>?_,fun x b hx=>?_,h.inL,h.nodup,h.os,h.tape,h.output,h.size,h.block,h.gl⟩
 ·show (match d1m x with | some n=>env n | none=>none)=none
  cases hd:d1m x with
  | none=>rfl
  | some n=>
   have:=h4w hd;subst this;rw [g8p] at hx;cases hm:m n with
   | none=>exact h.dom n hm
   | some o=>rw [hm] at hx;cases hx
 ·obtain ⟨n,o',rfl,hn,rfl⟩:=f3v hx;rw [hs];exact h9p (h.obj n o' hn)
 ·obtain ⟨n,rfl,hn⟩:=e2a hx;obtain ⟨n',rfl,hn'⟩:=e2a hy;rw [h.apart _ _ _ hn hn']
 ·obtain ⟨n,rfl,hn⟩:=e2a hx;exact h.inb n b hn
def inner (β:Base) (m:Mem) (env:Names) (w:World) (pin:List (Nm×Value)):Base:=⟨w,fun b=>∃ n,owns m env n b,a0c β [] m env w,pin⟩
theorem d7k (h:Heap E β [] m env w) (pin:List (Nm×Value)):a0c (inner β m env w pin) [] m env w=a0c β [] m env w:=by
 funext b;refine propext ⟨fun hb=>?_,fun hb=>⟨.inl hb,hb.2.1,hb.2.2.1,hb.2.2.2⟩⟩;rcases hb.1 with h1 | ⟨n,h1⟩ | h1
 ·exact h1
 ·exact (hb.2.2.1 n h1).elim
 ·have:w.heap.size≤b:=h1;have:=hb.2.1;omega
theorem Heap.inner (h:Heap E β [] m env w) (pin:List (Nm×Value)):Heap E (inner β m env w pin) [] m env w:=by
 refine ⟨h.dom,fun n o hn=>by rw [d7k h];exact h.obj n o hn,h.apart,fun n b hb=>⟨(h.inb n b hb).1,.inl ⟨n,hb⟩,(h.inb n b hb).2.2⟩,fun b hb=>by simp at hb,h.nodup,rfl,rfl,rfl,Nat.le_refl _,fun _ _ _=>rfl,fun q hq=>?_⟩;obtain ⟨g1,g2,g3⟩:=h.gl q hq;refine ⟨Nat.lt_of_lt_of_le g1 h.size,fun ⟨n,hn⟩=>?_,?_⟩
 ·rcases (h.inb n _ hn).2.1 with h1 | h1
  ·exact g2 h1
  ·omega
 ·show q.2 (w.heap[q.1]?);rw [h.block _ g1 g2];exact g3
theorem Heap.outer (h:Heap E β [] m env w) {pin:List (Nm×Value)} {m':Mem} {env':Names} (h':Heap E (Ev.inner β m env w pin) [] m' env' w') :
  Heap E β [] m' env' w'∧Still w' w' (a0c (Ev.inner β m env w pin) [] m' env' w') (a0c β [] m' env' w')∧Still w w' (a0c β [] m env w) (a0c β [] m' env' w'):=by
 have hB:∀ b,(∃ n,owns m env n b)∨w.heap.size≤b→β.B0 b∨β.w0.heap.size≤b:=fun b hb=>by
  rcases hb with ⟨n,hn⟩ | hb
  ·exact (h.inb n b hn).2.1
  ·exact .inr (Nat.le_trans h.size hb)
 have hst:Still w' w' (a0c (Ev.inner β m env w pin) [] m' env' w') (a0c β [] m' env' w'):=fun b hb=>⟨⟨by
  rcases hb.1 with h1 | h1 | h1
  ·exact h1.1
  ·exact .inr (hB b (.inl h1))
  ·exact .inr (hB b (.inr h1)),hb.2.1,hb.2.2.1,hb.2.2.2⟩,rfl⟩
 refine ⟨⟨h'.dom,fun n o hn=>?_,h'.apart,fun n b hb=>⟨(h'.inb n b hb).1,hB b (h'.inb n b hb).2.1,(h'.inb n b hb).2.2⟩,fun b hb=>by simp at hb,h'.nodup,h'.os.trans h.os,h'.tape.trans h.tape,h'.output.trans h.output,Nat.le_trans h.size h'.size,fun k hk hn=>?_,h.gl⟩,hst,fun b hb=>⟨⟨hb.1,Nat.lt_of_lt_of_le hb.2.1 h'.size,fun n hn=>?_,by simp⟩,?_⟩⟩
 ·exact ObjOk.mono hn (Names.le_refl _) hst rfl (fun _ _=>rfl) (h'.obj n o hn)
 ·have h1:¬ ∃ n,owns m env n k:=fun ⟨n,hx⟩=>by
   rcases (h.inb n k hx).2.1 with h2 | h2
   ·exact hn h2
   ·omega
  rw [h'.block k (Nat.lt_of_lt_of_le hk h.size) h1];exact h.block k hk hn
 ·rcases (h'.inb n b hn).2.1 with ⟨n',h1⟩ | h1
  ·exact hb.2.2.1 n' h1
  ·have:w.heap.size≤b:=h1;have:=hb.2.1;omega
 ·exact h'.block b hb.2.1 (fun ⟨n,h1⟩=>hb.2.2.1 n h1)
end
end Go.Proofs.YtjadnceefhbphaaGreat.Ev
