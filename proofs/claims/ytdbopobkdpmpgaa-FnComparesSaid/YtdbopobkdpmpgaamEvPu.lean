/- Names are shifted; a caller's memory is handed to a call as a whole, and comes back. No condition. -/
import Derived.Test.YtdbopobkdpmpgaamEvP
namespace Go.Proofs.Ytdbopobkdpmpgaa.Ev
open Go
set_option linter.unusedVariables false
set_option maxRecDepth 100000
section
variable {P:Program} {E:Env} {β:Base} {m:Mem} {env:Names} {w w':World} {S:Nat→Prop} {N:Nat} {d0:List Deferred}
theorem c5u {a:Nat}:c2c a=true↔a<2∨(900000≤a∧a<1000000):=by
 unfold c2c;simp [Nat.blt_eq,Nat.ble_eq]
theorem c7n (n:Nm):b9p (b9o n)=some n:=by
 obtain ⟨a,b⟩:=n;unfold b9o b9p;cases h:c2c a with
 | true=>simp [h]
 | false=>
  have h1:¬ (a<2∨(900000≤a∧a<1000000)):=fun hx=>by rw [c5u.2 hx] at h;cases h
  have h2:c2c (a+1000000)=false:=by
   cases h3:c2c (a+1000000) with
   | false=>rfl
   | true=>have:=c5u.1 h3;omega
  have h4:Nat.blt (a+1000000) 1000002=false:=by
   cases h5:Nat.blt (a+1000000) 1000002 with
   | false=>rfl
   | true=>have:=a2p (show Nat.ble (a+1000000+1) 1000002=true from h5);omega
  simp [h2,h4,h]
theorem e8h {x n:Nm} (h:b9p x=some n):x=b9o n:=by
 obtain ⟨a,b⟩:=x;unfold b9p at h;unfold b9o;cases h1:c2c a with
 | true=>rw [h1] at h;cases h;simp [h1]
 | false=>
  rw [h1] at h;simp only [cond_false] at h;cases h2:Nat.blt a 1000002 || c2c (a - 1000000) with
  | true=>rw [h2] at h;cases h
  | false=>
   rw [h2] at h;have h:=Option.some.inj h;subst h;obtain ⟨h3,h4⟩:=Bool.or_eq_false_iff.1 h2;have h5:1000002≤a:=by
    rcases Nat.lt_or_ge a 1000002 with hx | hx
    ·have:Nat.blt a 1000002=true:=by simpa [Nat.blt_eq] using hx
     rw [this] at h3;cases h3
    ·exact hx
   simp only [h4,cond_false];rw [Nat.sub_add_cancel (show 1000000≤a by omega)]
theorem g0x {n n':Nm} (h:b9o n=b9o n'):n=n':=by
 have:=c7n n;rw [h,c7n] at this;exact (Option.some.inj this).symm
def b1y (env:Names):Names:=⟨fun x=>match b9p x with | some n=>env n | none=>none,fun x=>match b9p x with | some n=>env.fp n | none=>[]⟩
theorem a3o (env:Names) (n:Nm):b1y env (b9o n)=env n:=by simp [b1y,c7n]
theorem d4h (env:Names) (n:Nm):(b1y env).fp (b9o n)=env.fp n:=by simp [b1y,c7n]
theorem e2w (m:Mem) (n:Nm):b5z m (b9o n)=(m n).map upO:=by
 unfold b5z;rw [c7n];show (match m n with | some o=>some (upO o) | none=>none)=_
 cases m n <;> rfl
theorem d1y {x:Nm} {o:O} (h:b5z m x=some o):∃ n o',x=b9o n∧m n=some o'∧o=upO o':=by
 unfold b5z at h;split at h
 ·rename_i n hn;split at h
  ·rename_i o' ho;cases h;exact ⟨n,o',e8h hn,ho,rfl⟩
  ·cases h
 ·cases h
theorem d1z {a:A} {v:Value} (h:RV1 E env w S a v):RV1 E (b1y env) w S (upA a) v:=by
 cases a with
 | ref n=>exact ⟨by rw [a3o];exact h.1,h.2⟩
 | cut n e f l=>obtain ⟨ga,len,cap,h1,h2⟩:=h;exact ⟨ga,len,cap,by rw [a3o];exact h1,h2⟩
 | ptr n o=>obtain ⟨b,h1,h2⟩:=h;exact ⟨b,by rw [a3o];exact h1,h2⟩
 | ep n e i o=>obtain ⟨g,len,cap,h1,h2⟩:=h;exact ⟨g,len,cap,by rw [a3o];exact h1,h2⟩
 | clo f o=>cases o with
  | none=>exact h
  | some n=>obtain ⟨b,h1,h2⟩:=h;exact ⟨b,by rw [a3o];exact h1,h2⟩
 | _=>exact h
theorem e8i:∀ {as:List A} {vs:List Value},RVs E env w S as vs→RVs E (b1y env) w S (f7a as) vs
 | [],[],_=>trivial
 | _ :: _,_ :: _,h=>⟨d1z h.1,e8i h.2⟩
 | [],_ :: _,h=>h.elim
 | _ :: _,[],h=>h.elim
theorem f2e (a:A):(upA a).solid=a.solid:=by
 cases a with
 | clo f o=>cases o <;> rfl
 | _=>rfl
theorem c7o:∀ as:List A,a0o (f7a as)=a0o as
 | []=>rfl
 | a :: as=>by simp only [f7a,a0o,f2e,c7o as]
theorem f4e {a:A} {v:Value} (h:RV2 E env w S a v):RV2 E (b1y env) w S (upV a) v:=by
 cases a with
 | agg cs=>obtain ⟨vs,h1,h2,h3⟩:=h;exact ⟨vs,h1,by rw [c7o];exact h2,e8i h3⟩
 | tup vs=>exact h.elim
 | clo f o=>cases o with
  | none=>exact h
  | some n=>exact d1z (E:=E) (w:=w) (S:=S) (a:=.clo f (some n)) h
 | i k n=>exact h
 | b x=>exact h
 | s x=>exact h
 | sl e es=>exact h
 | nil e=>exact h
 | ref n=>exact d1z (E:=E) (w:=w) (S:=S) (a:=.ref n) h
 | cut n e f l=>exact d1z (E:=E) (w:=w) (S:=S) (a:=.cut n e f l) h
 | ptr n o=>exact d1z (E:=E) (w:=w) (S:=S) (a:=.ptr n o) h
 | ep n e i o=>exact d1z (E:=E) (w:=w) (S:=S) (a:=.ep n e i o) h
 | vp t c o=>exact h
 | nilp=>exact h
 | skip=>exact h
 | undef=>exact h
theorem e1d:∀ {as:List A} {vs:List Value},RV2s E env w S as vs→RV2s E (b1y env) w S (f7b as) vs
 | [],[],_=>trivial
 | _ :: _,_ :: _,h=>⟨f4e h.1,e1d h.2⟩
 | [],_ :: _,h=>h.elim
 | _ :: _,[],h=>h.elim
theorem f5x {a:A} (h:a.isTup=false):(upV a).isTup=false:=by
 cases a with
 | clo f o=>cases o <;> rfl
 | tup vs=>cases h
 | _=>rfl
theorem f7w {a:A} {v:Value} (h:RV E env w S a v):RV E (b1y env) w S (upW a) v:=by
 cases ht:a.isTup with
 | true=>
  cases a with
  | tup vs=>obtain ⟨us,h1,h2⟩:=h;exact ⟨us,h1,e1d h2⟩
  | _=>cases ht
 | false=>
  rw [d1k ht] at h;have he:upW a=upV a:=by cases a <;> first | rfl | cases ht
  rw [he,d1k (f5x ht)];exact f4e h
theorem c5v:∀ {as:List A} {vs:List Value},RVall E env w S as vs→RVall E (b1y env) w S (e6f as) vs
 | [],[],_=>trivial
 | _ :: _,_ :: _,h=>⟨f7w h.1,c5v h.2⟩
 | [],_ :: _,h=>h.elim
 | _ :: _,[],h=>h.elim
theorem e8j (n:Nm) (b:Nat):owns (b5z m) (b1y env) (b9o n) b↔owns m env n b:=by
 unfold owns;rw [e2w,a3o,d4h];cases hm:m n with
 | none=>rfl
 | some o=>
  cases o with
  | var cs=>
   cases env.v n with
   | none=>exact Iff.rfl
   | some v=>cases v with
    | pointer p=>cases p <;> exact Iff.rfl
    | _=>exact Iff.rfl
  | row e d es=>cases d <;> exact Iff.rfl
  | deep e es h=>cases h <;> exact Iff.rfl
  | dead=>exact Iff.rfl
  | save as=>exact Iff.rfl
theorem c5w {x:Nm} {b:Nat} (h:owns (b5z m) (b1y env) x b):∃ n,x=b9o n∧owns m env n b:=by
 cases hx:b5z m x with
 | none=>simp [owns,hx] at h
 | some o=>
  obtain ⟨n,o',rfl,_,_⟩:=d1y hx;exact ⟨n,rfl,(e8j n b).1 h⟩
theorem c7p (β:Base) (L:List Nat) (m:Mem) (env:Names) (w:World):a0b β L (b5z m) (b1y env) w=a0b β L m env w:=by
 funext b;refine propext ⟨fun h=>⟨h.1,h.2.1,fun n hn=>h.2.2.1 (b9o n) ((e8j n b).2 hn),h.2.2.2⟩,fun h=>⟨h.1,h.2.1,fun x hx=>?_,h.2.2.2⟩⟩;obtain ⟨n,_,hn⟩:=c5w hx;exact h.2.2.1 n hn
theorem f2f {n:Nm} {o:O} (h:ObjOk E env w S n o):ObjOk E (b1y env) w S (b9o n) (upO o):=by
 cases o with
 | var cs=>obtain ⟨b,vs,el,h1,h2,h3,h4⟩:=h;exact ⟨b,vs,el,by rw [a3o];exact h1,h2,by rw [c7o];exact h3,e8i h4⟩
 | row e d es=>cases d with
  | true=>obtain ⟨v,xs,h1,h2⟩:=h;exact ⟨v,xs,by rw [a3o];exact h1,h2⟩
  | false=>obtain ⟨v,h1,h2⟩:=h;exact ⟨v,by rw [a3o];exact h1,h2⟩
 | deep e es hh=>
  obtain ⟨v,xs,fps,h1,h2,h3,h4,h5⟩:=h;cases hh with
  | none=>exact ⟨v,xs,fps,by rw [a3o];exact h1,h2,h3,⟨fun _ _ _ h=>(by cases h),HoleE.none⟩,by rw [d4h];exact h5⟩
  | some q=>
   obtain ⟨i,j,n'⟩:=q;refine ⟨v,xs,fps,by rw [a3o];exact h1,h2,fun a b ha hb hne hk=>h3 a b ha hb (fun x hx=>?_) (fun k x hx=>?_),⟨fun a b x hx hb=>?_,fun a b x hx hb hne=>?_⟩,by rw [d4h];exact h5⟩
   ·cases hx;exact hne _ rfl
   ·cases hx;exact hk _ _ rfl
   ·cases hx;obtain ⟨q1,q2,q3,q4⟩:=h4.1 i j n' rfl hb;exact ⟨q1,q2,by rw [a3o];exact q3,q4⟩
   ·cases hx;obtain ⟨q1,q2⟩:=h4.2 i j n' rfl hb (fun h9=>hne (by unfold b9o;rw [h9];exact h9));refine ⟨q1,fun b hb=>⟨fun e' ht=>?_,(q2 b hb).2⟩⟩;have hup:((b9o n').1,(b9o n').2+b+1)=b9o (n'.1,n'.2+b+1):=by
     unfold b9o;cases c2c n'.1 <;> rfl
    rw [hup,a3o];exact (q2 b hb).1 e' ht
 | dead=>obtain ⟨v,h⟩:=h;exact ⟨v,by rw [a3o];exact h⟩
 | save as=>obtain ⟨vs,h1,h2⟩:=h;exact ⟨vs,by rw [a3o];exact h1,c5v h2⟩
theorem Heap.up (h:Heap E β [] m env w):Heap E β [] (b5z m) (b1y env) w:=by
 have hs:=c7p β [] m env w;refine ⟨fun x hx=>?_,fun x o hx=>?_,fun x y b hx hy=>?_,fun x b hx=>?_,h.inL,h.nodup,h.os,h.tape,h.output,h.size,h.block,h.gl⟩
 ·show (match b9p x with | some n=>env n | none=>none)=none
  cases hd:b9p x with
  | none=>rfl
  | some n=>
   have:=e8h hd;subst this;rw [e2w] at hx;cases hm:m n with
   | none=>exact h.dom n hm
   | some o=>rw [hm] at hx;cases hx
 ·obtain ⟨n,o',rfl,hn,rfl⟩:=d1y hx;rw [hs];exact f2f (h.obj n o' hn)
 ·obtain ⟨n,rfl,hn⟩:=c5w hx;obtain ⟨n',rfl,hn'⟩:=c5w hy;rw [h.apart _ _ _ hn hn']
 ·obtain ⟨n,rfl,hn⟩:=c5w hx;exact h.inb n b hn
def inner (β:Base) (m:Mem) (env:Names) (w:World) (pin:List (Nm×Value)):Base:=⟨w,fun b=>∃ n,owns m env n b,a0b β [] m env w,pin⟩
theorem c3q (h:Heap E β [] m env w) (pin:List (Nm×Value)):a0b (inner β m env w pin) [] m env w=a0b β [] m env w:=by
 funext b;refine propext ⟨fun hb=>?_,fun hb=>⟨.inl hb,hb.2.1,hb.2.2.1,hb.2.2.2⟩⟩;rcases hb.1 with h1 | ⟨n,h1⟩ | h1
 ·exact h1
 ·exact (hb.2.2.1 n h1).elim
 ·have:w.heap.size≤b:=h1;have:=hb.2.1;omega
theorem Heap.inner (h:Heap E β [] m env w) (pin:List (Nm×Value)):Heap E (inner β m env w pin) [] m env w:=by
 refine ⟨h.dom,fun n o hn=>by rw [c3q h];exact h.obj n o hn,h.apart,fun n b hb=>⟨(h.inb n b hb).1,.inl ⟨n,hb⟩,(h.inb n b hb).2.2⟩,fun b hb=>by simp at hb,h.nodup,rfl,rfl,rfl,Nat.le_refl _,fun _ _ _=>rfl,fun q hq=>?_⟩;obtain ⟨g1,g2,g3⟩:=h.gl q hq;refine ⟨Nat.lt_of_lt_of_le g1 h.size,fun ⟨n,hn⟩=>?_,?_⟩
 ·rcases (h.inb n _ hn).2.1 with h1 | h1
  ·exact g2 h1
  ·omega
 ·show q.2 (w.heap[q.1]?);rw [h.block _ g1 g2];exact g3
theorem Heap.outer (h:Heap E β [] m env w) {pin:List (Nm×Value)} {m':Mem} {env':Names} (h':Heap E (Ev.inner β m env w pin) [] m' env' w') :
  Heap E β [] m' env' w'∧Still w' w' (a0b (Ev.inner β m env w pin) [] m' env' w') (a0b β [] m' env' w')∧Still w w' (a0b β [] m env w) (a0b β [] m' env' w'):=by
 have hB:∀ b,(∃ n,owns m env n b)∨w.heap.size≤b→β.B0 b∨β.w0.heap.size≤b:=fun b hb=>by
  rcases hb with ⟨n,hn⟩ | hb
  ·exact (h.inb n b hn).2.1
  ·exact .inr (Nat.le_trans h.size hb)
 have hst:Still w' w' (a0b (Ev.inner β m env w pin) [] m' env' w') (a0b β [] m' env' w'):=fun b hb=>⟨⟨by
  rcases hb.1 with h1 | h1 | h1
  ·exact h1.1
  ·exact .inr (hB b (.inl h1))
  ·exact .inr (hB b (.inr h1)),hb.2.1,hb.2.2.1,hb.2.2.2⟩,rfl⟩
 refine ⟨⟨h'.dom,fun n o hn=>?_,h'.apart,fun n b hb=>⟨(h'.inb n b hb).1,hB b (h'.inb n b hb).2.1,(h'.inb n b hb).2.2⟩,fun b hb=>by simp at hb,h'.nodup,h'.os.trans h.os,h'.tape.trans h.tape,h'.output.trans h.output,Nat.le_trans h.size h'.size,fun k hk hn=>?_,h.gl⟩,hst,fun b hb=>⟨⟨hb.1,Nat.lt_of_lt_of_le hb.2.1 h'.size,fun n hn=>?_,by simp⟩,?_⟩⟩
 ·exact ObjOk.mono hn (Names.le_refl _) hst rfl (fun _ _=>rfl) (h'.obj n o hn)
 ·have h1:¬ ∃ n,owns m env n k:=fun ⟨n,hx⟩=>by
   rcases (h.inb n k hx).2.1 with h2 | h2
   ·exact hn h2
   ·omega
  rw [h'.block k (Nat.lt_of_lt_of_le hk h.size) h1];exact h.block k hk hn
 ·rcases (h'.inb n b hn).2.1 with ⟨n',h1⟩ | h1
  ·exact hb.2.2.1 n' h1
  ·have:w.heap.size≤b:=h1;have:=hb.2.1;omega
 ·exact h'.block b hb.2.1 (fun ⟨n,h1⟩=>hb.2.2.1 n h1)
end
end Go.Proofs.Ytdbopobkdpmpgaa.Ev
