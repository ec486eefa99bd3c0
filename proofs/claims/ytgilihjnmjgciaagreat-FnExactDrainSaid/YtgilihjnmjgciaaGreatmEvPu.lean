/- Names are shifted; a caller's memory is handed to a call as a whole, and comes back. No condition. -/
import Derived.Test.YtgilihjnmjgciaaGreatmEvP
namespace Go.Proofs.YtgilihjnmjgciaaGreat.Ev
open Go
set_option linter.unusedVariables false
set_option maxRecDepth 100000
section
variable {P:Program} {E:Env} {β:Base} {m:Mem} {env:Names} {w w':World} {S:Nat→Prop} {N:Nat} {d0:List Deferred}
theorem e4l {a:Nat}:d7s a=true↔a<2∨(900000≤a∧a<1000000):=by
 unfold d7s;simp [Nat.blt_eq,Nat.ble_eq]
theorem e6f (n:Nm):d3h (d3g n)=some n:=by
 obtain ⟨a,b⟩:=n;unfold d3g d3h;cases h:d7s a with
 | true=>simp [h]
 | false=>
  have h1:¬ (a<2∨(900000≤a∧a<1000000)):=fun hx=>by rw [e4l.2 hx] at h;cases h
  have h2:d7s (a+1000000)=false:=by
   cases h3:d7s (a+1000000) with
   | false=>rfl
   | true=>have:=e4l.1 h3;omega
  have h4:Nat.blt (a+1000000) 1000002=false:=by
   cases h5:Nat.blt (a+1000000) 1000002 with
   | false=>rfl
   | true=>have:=a3v (show Nat.ble (a+1000000+1) 1000002=true from h5);omega
  simp [h2,h4,h]
theorem h8m {x n:Nm} (h:d3h x=some n):x=d3g n:=by
 obtain ⟨a,b⟩:=x;unfold d3h at h;unfold d3g;cases h1:d7s a with
 | true=>rw [h1] at h;cases h;simp [h1]
 | false=>
  rw [h1] at h;simp only [cond_false] at h;cases h2:Nat.blt a 1000002 || d7s (a - 1000000) with
  | true=>rw [h2] at h;cases h
  | false=>
   rw [h2] at h;have h:=Option.some.inj h;subst h;obtain ⟨h3,h4⟩:=Bool.or_eq_false_iff.1 h2;have h5:1000002≤a:=by
    rcases Nat.lt_or_ge a 1000002 with hx | hx
    ·have:Nat.blt a 1000002=true:=by simpa [Nat.blt_eq] using hx
     rw [this] at h3;cases h3
    ·exact hx
   simp only [h4,cond_false];rw [Nat.sub_add_cancel (show 1000000≤a by omega)]
theorem j4l {n n':Nm} (h:d3g n=d3g n'):n=n':=by
 have:=e6f n;rw [h,e6f] at this;exact (Option.some.inj this).symm
def c0c (env:Names):Names:=⟨fun x=>match d3h x with | some n=>env n | none=>none,fun x=>match d3h x with | some n=>env.fp n | none=>[]⟩
theorem a4w (env:Names) (n:Nm):c0c env (d3g n)=env n:=by simp [c0c,e6f]
theorem f8y (env:Names) (n:Nm):(c0c env).fp (d3g n)=env.fp n:=by simp [c0c,e6f]
theorem h2f (m:Mem) (n:Nm):c6c m (d3g n)=(m n).map upO:=by
 unfold c6c;rw [e6f];show (match m n with | some o=>some (upO o) | none=>none)=_
 cases m n <;> rfl
theorem f6q {x:Nm} {o:O} (h:c6c m x=some o):∃ n o',x=d3g n∧m n=some o'∧o=upO o':=by
 unfold c6c at h;split at h
 ·rename_i n hn;split at h
  ·rename_i o' ho;cases h;exact ⟨n,o',h8m hn,ho,rfl⟩
  ·cases h
 ·cases h
theorem f6r {a:A} {v:Value} (h:RV1 E env w S a v):RV1 E (c0c env) w S (upA a) v:=by
 cases a with
 | ref n=>exact ⟨by rw [a4w];exact h.1,h.2⟩
 | cut n e f l=>obtain ⟨ga,len,cap,h1,h2⟩:=h;exact ⟨ga,len,cap,by rw [a4w];exact h1,h2⟩
 | ptr n o=>obtain ⟨b,h1,h2⟩:=h;exact ⟨b,by rw [a4w];exact h1,h2⟩
 | ep n e i o=>obtain ⟨g,len,cap,h1,h2⟩:=h;exact ⟨g,len,cap,by rw [a4w];exact h1,h2⟩
 | clo f o=>cases o with
  | none=>exact h
  | some n=>obtain ⟨b,h1,h2⟩:=h;exact ⟨b,by rw [a4w];exact h1,h2⟩
 | _=>exact h
theorem h8n:∀ {as:List A} {vs:List Value},RVs E env w S as vs→RVs E (c0c env) w S (i9z as) vs
 | [],[],_=>trivial
 | _ :: _,_ :: _,h=>⟨f6r h.1,h8n h.2⟩
 | [],_ :: _,h=>h.elim
 | _ :: _,[],h=>h.elim
theorem i3e (a:A):(upA a).solid=a.solid:=by
 cases a with
 | clo f o=>cases o <;> rfl
 | _=>rfl
theorem e6g:∀ as:List A,a1f (i9z as)=a1f as
 | []=>rfl
 | a :: as=>by simp only [i9z,a1f,i3e,e6g as]
theorem i6c {a:A} {v:Value} (h:RV2 E env w S a v):RV2 E (c0c env) w S (upV a) v:=by
 cases a with
 | agg cs=>obtain ⟨vs,h1,h2,h3⟩:=h;exact ⟨vs,h1,by rw [e6g];exact h2,h8n h3⟩
 | tup vs=>exact h.elim
 | clo f o=>cases o with
  | none=>exact h
  | some n=>exact f6r (E:=E) (w:=w) (S:=S) (a:=.clo f (some n)) h
 | i k n=>exact h
 | b x=>exact h
 | s x=>exact h
 | sl e es=>exact h
 | nil e=>exact h
 | ref n=>exact f6r (E:=E) (w:=w) (S:=S) (a:=.ref n) h
 | cut n e f l=>exact f6r (E:=E) (w:=w) (S:=S) (a:=.cut n e f l) h
 | ptr n o=>exact f6r (E:=E) (w:=w) (S:=S) (a:=.ptr n o) h
 | ep n e i o=>exact f6r (E:=E) (w:=w) (S:=S) (a:=.ep n e i o) h
 | vp t c o=>exact h
 | nilp=>exact h
 | skip=>exact h
 | undef=>exact h
theorem g9j:∀ {as:List A} {vs:List Value},RV2s E env w S as vs→RV2s E (c0c env) w S (j0a as) vs
 | [],[],_=>trivial
 | _ :: _,_ :: _,h=>⟨i6c h.1,g9j h.2⟩
 | [],_ :: _,h=>h.elim
 | _ :: _,[],h=>h.elim
theorem i7x {a:A} (h:a.isTup=false):(upV a).isTup=false:=by
 cases a with
 | clo f o=>cases o <;> rfl
 | tup vs=>cases h
 | _=>rfl
theorem j0w {a:A} {v:Value} (h:RV E env w S a v):RV E (c0c env) w S (upW a) v:=by
 cases ht:a.isTup with
 | true=>
  cases a with
  | tup vs=>obtain ⟨us,h1,h2⟩:=h;exact ⟨us,h1,g9j h2⟩
  | _=>cases ht
 | false=>
  rw [f6c ht] at h;have he:upW a=upV a:=by cases a <;> first | rfl | cases ht
  rw [he,f6c (i7x ht)];exact i6c h
theorem e4m:∀ {as:List A} {vs:List Value},RVall E env w S as vs→RVall E (c0c env) w S (h6i as) vs
 | [],[],_=>trivial
 | _ :: _,_ :: _,h=>⟨j0w h.1,e4m h.2⟩
 | [],_ :: _,h=>h.elim
 | _ :: _,[],h=>h.elim
theorem h8o (n:Nm) (b:Nat):owns (c6c m) (c0c env) (d3g n) b↔owns m env n b:=by
 unfold owns;rw [h2f,a4w,f8y];cases hm:m n with
 | none=>rfl
 | some o=>
  cases o with
  | var cs=>
   cases env.v n with
   | none=>exact Iff.rfl
   | some v=>cases v with
    | pointer p=>cases p <;> exact Iff.rfl
    | _=>exact Iff.rfl
  | row e d es=>cases d <;> exact Iff.rfl
  | deep e es h=>cases h <;> exact Iff.rfl
  | dead=>exact Iff.rfl
  | save as=>exact Iff.rfl
theorem e4n {x:Nm} {b:Nat} (h:owns (c6c m) (c0c env) x b):∃ n,x=d3g n∧owns m env n b:=by
 cases hx:c6c m x with
 | none=>simp [owns,hx] at h
 | some o=>
  obtain ⟨n,o',rfl,_,_⟩:=f6q hx;exact ⟨n,rfl,(h8o n b).1 h⟩
theorem e6h (β:Base) (L:List Nat) (m:Mem) (env:Names) (w:World):a0c β L (c6c m) (c0c env) w=a0c β L m env w:=by
 funext b;refine propext ⟨fun h=>⟨h.1,h.2.1,fun n hn=>h.2.2.1 (d3g n) ((h8o n b).2 hn),h.2.2.2⟩,fun h=>⟨h.1,h.2.1,fun x hx=>?_,h.2.2.2⟩⟩;obtain ⟨n,_,hn⟩:=e4n hx;exact h.2.2.1 n hn
theorem i3f {n:Nm} {o:O} (h:ObjOk E env w S n o):ObjOk E (c0c env) w S (d3g n) (upO o):=by
 cases o with
 | var cs=>obtain ⟨b,vs,el,h1,h2,h3,h4⟩:=h;exact ⟨b,vs,el,by rw [a4w];exact h1,h2,by rw [e6g];exact h3,h8n h4⟩
 | row e d es=>cases d with
  | true=>obtain ⟨v,xs,h1,h2⟩:=h;exact ⟨v,xs,by rw [a4w];exact h1,h2⟩
  | false=>obtain ⟨v,h1,h2⟩:=h;exact ⟨v,by rw [a4w];exact h1,h2⟩
 | deep e es hh=>
  obtain ⟨v,xs,fps,h1,h2,h3,h4,h5⟩:=h;cases hh with
  | none=>exact ⟨v,xs,fps,by rw [a4w];exact h1,h2,h3,⟨fun _ _ _ h=>(by cases h),HoleE.none⟩,by rw [f8y];exact h5⟩
  | some q=>
   obtain ⟨i,j,n'⟩:=q;refine ⟨v,xs,fps,by rw [a4w];exact h1,h2,fun a b ha hb hne hk=>h3 a b ha hb (fun x hx=>?_) (fun k x hx=>?_),⟨fun a b x hx hb=>?_,fun a b x hx hb hne=>?_⟩,by rw [f8y];exact h5⟩
   ·cases hx;exact hne _ rfl
   ·cases hx;exact hk _ _ rfl
   ·cases hx;obtain ⟨q1,q2,q3,q4⟩:=h4.1 i j n' rfl hb;exact ⟨q1,q2,by rw [a4w];exact q3,q4⟩
   ·cases hx;obtain ⟨q1,q2⟩:=h4.2 i j n' rfl hb (fun h9=>hne (by unfold d3g;rw [h9];exact h9));refine ⟨q1,fun b hb=>⟨fun e' ht=>?_,(q2 b hb).2⟩⟩;have hup:((d3g n').1,(d3g n').2+b+1)=d3g (n'.1,n'.2+b+1):=by
     unfold d3g;cases d7s n'.1 <;> rfl
    rw [hup,a4w];exact (q2 b hb).1 e' ht
 | dead=>obtain ⟨v,h⟩:=h;exact ⟨v,by rw [a4w];exact h⟩
 | save as=>obtain ⟨vs,h1,h2⟩:=h;exact ⟨vs,by rw [a4w];exact h1,e4m h2⟩
theorem Heap.up (h:Heap E β [] m env w):Heap E β [] (c6c m) (c0c env) w:=by
 have hs:=e6h β [] m env w;refine ⟨fun x hx=>?_,fun x o hx=>?_,fun x y b hx hy=>?_,fun x b hx=>?_,h.inL,h.nodup,h.os,h.tape,h.output,h.size,h.block,h.gl⟩
 ·show (match d3h x with | some n=>env n | none=>none)=none
  cases hd:d3h x with
  | none=>rfl
  | some n=>
   have:=h8m hd;subst this;rw [h2f] at hx;cases hm:m n with
   | none=>exact h.dom n hm
   | some o=>rw [hm] at hx;cases hx
 ·obtain ⟨n,o',rfl,hn,rfl⟩:=f6q hx;rw [hs];exact i3f (h.obj n o' hn)
 ·obtain ⟨n,rfl,hn⟩:=e4n hx;obtain ⟨n',rfl,hn'⟩:=e4n hy;rw [h.apart _ _ _ hn hn']
 ·obtain ⟨n,rfl,hn⟩:=e4n hx;exact h.inb n b hn
def inner (β:Base) (m:Mem) (env:Names) (w:World) (pin:List (Nm×Value)):Base:=⟨w,fun b=>∃ n,owns m env n b,a0c β [] m env w,pin⟩
theorem d9p (h:Heap E β [] m env w) (pin:List (Nm×Value)):a0c (inner β m env w pin) [] m env w=a0c β [] m env w:=by
 funext b;refine propext ⟨fun hb=>?_,fun hb=>⟨.inl hb,hb.2.1,hb.2.2.1,hb.2.2.2⟩⟩;rcases hb.1 with h1 | ⟨n,h1⟩ | h1
 ·exact h1
 ·exact (hb.2.2.1 n h1).elim
 ·have:w.heap.size≤b:=h1;have:=hb.2.1;omega
theorem Heap.inner (h:Heap E β [] m env w) (pin:List (Nm×Value)):Heap E (inner β m env w pin) [] m env w:=by
 refine ⟨h.dom,fun n o hn=>by rw [d9p h];exact h.obj n o hn,h.apart,fun n b hb=>⟨(h.inb n b hb).1,.inl ⟨n,hb⟩,(h.inb n b hb).2.2⟩,fun b hb=>by simp at hb,h.nodup,rfl,rfl,rfl,Nat.le_refl _,fun _ _ _=>rfl,fun q hq=>?_⟩;obtain ⟨g1,g2,g3⟩:=h.gl q hq;refine ⟨Nat.lt_of_lt_of_le g1 h.size,fun ⟨n,hn⟩=>?_,?_⟩
 ·rcases (h.inb n _ hn).2.1 with h1 | h1
  ·exact g2 h1
  ·omega
 ·show q.2 (w.heap[q.1]?);rw [h.block _ g1 g2];exact g3
theorem Heap.outer (h:Heap E β [] m env w) {pin:List (Nm×Value)} {m':Mem} {env':Names} (h':Heap E (Ev.inner β m env w pin) [] m' env' w') :
  Heap E β [] m' env' w'∧Still w' w' (a0c (Ev.inner β m env w pin) [] m' env' w') (a0c β [] m' env' w')∧Still w w' (a0c β [] m env w) (a0c β [] m' env' w'):=by
 have hB:∀ b,(∃ n,owns m env n b)∨w.heap.size≤b→β.B0 b∨β.w0.heap.size≤b:=fun b hb=>by
  rcases hb with ⟨n,hn⟩ | hb
  ·exact (h.inb n b hn).2.1
  ·exact .inr (Nat.le_trans h.size hb)
 have hst:Still w' w' (a0c (Ev.inner β m env w pin) [] m' env' w') (a0c β [] m' env' w'):=fun b hb=>⟨⟨by
  rcases hb.1 with h1 | h1 | h1
  ·exact h1.1
  ·exact .inr (hB b (.inl h1))
  ·exact .inr (hB b (.inr h1)),hb.2.1,hb.2.2.1,hb.2.2.2⟩,rfl⟩
 refine ⟨⟨h'.dom,fun n o hn=>?_,h'.apart,fun n b hb=>⟨(h'.inb n b hb).1,hB b (h'.inb n b hb).2.1,(h'.inb n b hb).2.2⟩,fun b hb=>by simp at hb,h'.nodup,h'.os.trans h.os,h'.tape.trans h.tape,h'.output.trans h.output,Nat.le_trans h.size h'.size,fun k hk hn=>?_,h.gl⟩,hst,fun b hb=>⟨⟨hb.1,Nat.lt_of_lt_of_le hb.2.1 h'.size,fun n hn=>?_,by simp⟩,?_⟩⟩
 ·exact ObjOk.mono hn (Names.le_refl _) hst rfl (fun _ _=>rfl) (h'.obj n o hn)
 ·have h1:¬ ∃ n,owns m env n k:=fun ⟨n,hx⟩=>by
   rcases (h.inb n k hx).2.1 with h2 | h2
   ·exact hn h2
   ·omega
  rw [h'.block k (Nat.lt_of_lt_of_le hk h.size) h1];exact h.block k hk hn
 ·rcases (h'.inb n b hn).2.1 with ⟨n',h1⟩ | h1
  ·exact hb.2.2.1 n' h1
  ·have:w.heap.size≤b:=h1;have:=hb.2.1;omega
 ·exact h'.block b hb.2.1 (fun ⟨n,h1⟩=>hb.2.2.1 n h1)
end
end Go.Proofs.YtgilihjnmjgciaaGreat.Ev
