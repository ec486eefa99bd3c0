/- The table of types against the program; operations on numbers, booleans, texts. No condition. -/
import Derived.Test.YtdbopobkdpmpgaamEvE
import Derived.Laws.Concat
namespace Go.Proofs.Ytdbopobkdpmpgaa.Ev
open Go
set_option linter.unusedVariables false
def b8w:Ty→Value
 | .int k=>.int k 0
 | .bool=>.bool false
 | .str=>.string ByteArray.empty
 | .row _=>.slice none 0 0
 | .ptr _=>.pointer none
 | .deep _=>.slice none 0 0
def e7e:Ty→Value→Bool
 | .int k,.int k' n=>decide (k=k')&&decide (n=0)
 | .bool,.bool x=>!x
 | .str,.string s=>(match s.data.toList with | []=>true | _=>false)
 | .row _,.slice none 0 0=>true
 | .ptr _,.pointer none=>true
 | _,_=>false
def e0s:List Ty→List Value→Bool
 | [],[]=>true
 | ty :: tys,v :: vs=>e7e ty v&&e0s tys vs
 | _,_=>false
def a9d (E:Env):List (Nat×Nat)→List Field→Bool
 | [],[]=>true
 | (o,ft) :: r,f :: fs=>Nat.beq o f.offset&&Nat.beq ft f.type&&E.known ft&&a9d E r fs
 | _,_=>false
def e4o (P:Program) (E:Env) (t:Nat):Bool:=
 match (E.ti t).kn,P.underlying t with
 | .int k,some (.int k')=>decide (k=k')&&Nat.beq (E.sz t) 1
 | .bool,some .bool=>Nat.beq (E.sz t) 1
 | .str,some .string=>Nat.beq (E.sz t) 1
 | .slice e,some (.slice e')=>Nat.beq e e'&&Nat.beq (E.sz t) 1
 | .ptr e,some (.pointer e')=>Nat.beq e e'&&Nat.beq (E.sz t) 1
 | .struct fs,some (.struct fields)=>a9d E fs fields.toList
 | .other,_=>Nat.beq (E.sz t) 0
 | .fptr _,_=>Nat.beq (E.sz t) 0
 | _,_=>false
def f3y:Value→Bool | .agg _=>true | _=>false
def e2j (P:Program) (E:Env) (t:Nat):Bool:=
 bif E.known t then
  match P.info? t with
  | some i=>Nat.beq i.size (E.sz t)&&Nat.beq i.bytes (E.ti t).bytes&&(match i.zero with
   | some z=>e0s (E.flat t) z.cells.toList&&(f3y z == E.isAgg t)
   | none=>false)
  | none=>false
 else true
def a1e (P:Program) (E:Env):Bool:=(List.range E.tys.length).all fun t=>e4o P E t&&e2j P E t
section
variable {P:Program} {E:Env}
theorem f3z (h:a1e P E=true) (t:Nat):e4o P E t=true∧e2j P E t=true:=by
 by_cases ht:t<E.tys.length
 ·exact a0a (List.all_eq_true.1 h t (List.mem_range.2 ht))
 ·have hti:E.ti t=⟨.other,[],0⟩∨E.ti t=⟨.fptr (t - 1000000),[],0⟩:=by
   unfold Env.ti;cases hb:Nat.ble 1000000 t with
   | true=>exact .inr rfl
   | false=>exact .inl (by simp [List.getElem?_eq_none (Nat.le_of_not_lt ht)])
  have hs:E.sz t=0:=by rcases hti with hti | hti <;> simp [Env.sz,Env.flat,hti]
  constructor
  ·rcases hti with hti | hti <;> simp [e4o,hti,hs]
  ·have hk:E.known t=false:=by simp [Env.known,hs,Nat.ble]
   simp [e2j,hk]
theorem e7f {ty:Ty} {v:Value} (h:e7e ty v=true):v=b8w ty:=by
 unfold e7e at h;split at h
 ·obtain ⟨h1,h2⟩:=a0a h;cases of_decide_eq_true h1;cases of_decide_eq_true h2;rfl
 ·rename_i x;cases x <;> first | rfl | cases h
 ·rename_i s;have hs:s=ByteArray.empty:=by
   cases s with | mk d=>cases d with | mk l=>cases l with
    | nil=>rfl
    | cons a b=>simp at h
  rw [hs];rfl
 ·rfl
 ·rfl
 ·cases h
theorem d1n:∀ {tys:List Ty} {vs:List Value},e0s tys vs=true→vs=tys.map b8w
 | [],[],_=>rfl
 | ty :: tys,v :: vs,h=>by
  obtain ⟨h1,h2⟩:=a0a h;rw [e7f h1,d1n h2];rfl
 | [],_ :: _,h=>by cases h
 | _ :: _,[],h=>by cases h
theorem a2n {t:Nat} (h:E.known t=true):1≤E.sz t:=Nat.le_of_ble_eq_true h
theorem a4w (h:a1e P E=true) {t:Nat} (hk:E.known t=true):∃ i z,P.info? t=some i∧i.size=E.sz t∧i.bytes=(E.ti t).bytes∧i.zero=some z∧z.cells.toList=(E.flat t).map b8w∧f3y z=E.isAgg t:=by
 have h2:=(f3z h t).2;unfold e2j at h2;rw [hk] at h2;simp only [cond_true] at h2;split at h2
 ·rename_i i hi;obtain ⟨h3,h4⟩:=a0a h2;obtain ⟨h5,h6⟩:=a0a h3;split at h4
  ·rename_i z hz;obtain ⟨h7,h8⟩:=a0a h4;exact ⟨i,z,hi,Nat.eq_of_beq_eq_true h5,Nat.eq_of_beq_eq_true h6,hz,d1n h7,by simpa using h8⟩
  ·cases h4
 ·cases h2
theorem b6a (h:a1e P E=true) {t:Nat} (hk:E.known t=true) (w:World):(sizeOf t).run P w=.ok (E.sz t) w:=by
 obtain ⟨i,z,hi,hs,_⟩:=a4w h hk;simp [sizeOf,typeInfo,hi,hs]
theorem d3s (h:a1e P E=true) (t:Nat):e4o P E t=true:=(f3z h t).1
theorem c6p (h:a1e P E=true) {t:Nat} (hk:E.known t=true) (w:World):(isAgg t).run P w=.ok (E.isAgg t) w:=by
 have h1:=d3s h t;have hpos:=a2n hk;unfold e4o at h1;unfold Env.isAgg;split at h1 <;> rename_i hkn hu <;> first
  | (rw [hkn];simp [isAgg,run_underlying hu])
  | (have:=Nat.eq_of_beq_eq_true h1;omega)
  | cases h1
theorem e0t (h:a1e P E=true) {t:Nat} (hk:E.known t=true):∃ d,P.underlying t=some d:=by
 have h1:=d3s h t;have hpos:=a2n hk;unfold e4o at h1;split at h1 <;> rename_i hkn hu <;> first
  | exact ⟨_,hu⟩
  | (have:=Nat.eq_of_beq_eq_true h1;omega)
  | cases h1
theorem e0u (h:a1e P E=true) {t:Nat} (hk:E.known t=true) (ha:E.isAgg t=false):E.sz t=1:=by
 have h1:=d3s h t;have hpos:=a2n hk;unfold e4o at h1;unfold Env.isAgg at ha;split at h1 <;> rename_i hkn hu <;> first
  | (rw [hkn] at ha;cases ha;done)
  | (exact Nat.eq_of_beq_eq_true (a0a h1).2)
  | (exact Nat.eq_of_beq_eq_true h1)
  | (have:=Nat.eq_of_beq_eq_true h1;omega)
  | cases h1
theorem f5k (h:a1e P E=true) {t:Nat} (hk:(E.ti t).kn=.bool):P.underlying t=some .bool:=by
 have h1:=d3s h t;unfold e4o at h1;rw [hk] at h1;split at h1 <;> rename_i hkn hu <;> first
  | (cases hu;done)
  | exact hu
  | cases hkn
  | cases h1
theorem e7g (h:a1e P E=true) {t:Nat} {k:IntKind} (hk:(E.ti t).kn=.int k):P.underlying t=some (.int k):=by
 have h1:=d3s h t;unfold e4o at h1;rw [hk] at h1;split at h1 <;> rename_i hkn hu <;> first
  | (cases hu;done)
  | (cases hkn;rw [hu,of_decide_eq_true (a0a h1).1])
  | cases hkn
  | cases h1
theorem c5r {k:Kn} (h:e6l k=true):k=.str:=by cases k <;> first | rfl | cases h
theorem d1o (h:a1e P E=true) {t:Nat} (hk:(E.ti t).kn=.str):P.underlying t=some .string:=by
 have h1:=d3s h t;unfold e4o at h1;rw [hk] at h1;split at h1 <;> rename_i hkn hu <;> first
  | (cases hu;done)
  | (cases hkn;exact hu)
  | cases hkn
  | cases h1
theorem d3t (h:a1e P E=true) {t e:Nat} (hk:(E.ti t).kn=.slice e):P.underlying t=some (.slice e):=by
 have h1:=d3s h t;unfold e4o at h1;rw [hk] at h1;split at h1 <;> rename_i hkn hu <;> first
  | (cases hu;done)
  | (cases hkn;rw [hu,Nat.eq_of_beq_eq_true (a0a h1).1])
  | cases hkn
  | cases h1
theorem b9t (h:a1e P E=true) {t:Nat} {fs:List (Nat×Nat)} (hk:(E.ti t).kn=.struct fs):∃ fields,P.underlying t=some (.struct fields)∧a9d E fs fields.toList=true:=by
 have h1:=d3s h t;unfold e4o at h1;rw [hk] at h1;split at h1 <;> rename_i hkn hu <;> first
  | (cases hu;done)
  | (cases hkn;exact ⟨_,hu,h1⟩)
  | cases hkn
  | cases h1
theorem d3u:∀ {fs:List (Nat×Nat)} {fields:List Field} {j o ft:Nat},a9d E fs fields=true→fs[j]?=some (o,ft)→∃ f,fields[j]?=some f∧f.offset=o∧f.type=ft∧E.known ft=true
 | (o',ft') :: r,f :: fs,0,o,ft,h,hj=>by
  simp only [List.getElem?_cons_zero,Option.some.injEq,Prod.mk.injEq] at hj;obtain ⟨rfl,rfl⟩:=hj;obtain ⟨h1,h2⟩:=a0a h;obtain ⟨h3,h4⟩:=a0a h1;obtain ⟨h5,h6⟩:=a0a h3;exact ⟨f,rfl,(Nat.eq_of_beq_eq_true h5).symm,(Nat.eq_of_beq_eq_true h6).symm,h4⟩
 | (o',ft') :: r,f :: fs,j+1,o,ft,h,hj=>by
  obtain ⟨h1,h2⟩:=a0a h;obtain ⟨f',hf,rest⟩:=d3u h2 (by simpa using hj);exact ⟨f',by simpa using hf,rest⟩
 | [],_,_,_,_,_,hj=>by simp at hj
 | _ :: _,[],_,_,_,h,_=>by simp [a9d] at h
section
variable {env:Names} {w:World} {S:Nat→Prop}
theorem b2y {σ:St} {a:Act} (hs:∀ i,RV E env w S (σ.sl i) (a.eval (.tmp i))) (t:Nat) (x:Operand):RV E env w S (a1y E σ t x) (a.eval x):=by
 unfold a1y;split
 ·exact hs _
 all_goals first | exact rfl | trivial
def e4p:A→Value
 | .i k n=>.int k n
 | .b x=>.bool x
 | .s x=>.string x
 | _=>undef
theorem f5l {op:BinOp} {x y:A} {vx vy:Value} (xt:Nat) (ox oy:Operand) (hx:RV E env w S x vx) (hy:RV E env w S y vy) {a:A} {m m':Mem} {p p':FP} (h:(f9w op x y).ev m p=some (a,m',p')) :
  m=m'∧∃ v,((do eqGuard op xt ox oy vx vy;binOp op xt vx vy):Sem Value).run P w=.ok v w∧RV E env w S a v:=by
 unfold f9w at h;split at h
 ·rename_i k a' k' b';have hx:vx=.int k a':=hx;have hy:vy=.int k' b':=hy;subst hx;subst hy;have hg:(eqGuard op xt ox oy (.int k a') (.int k' b')).run P w=.ok () w:=by
   unfold eqGuard;split <;> simp
  split at h
  ·obtain ⟨hc,h⟩:=M.g5y h;cases h;refine ⟨rfl,_,by rw [Sem.run_bind,hg];simp [binOp,Op.shift,Int.not_lt.2 (of_decide_eq_true hc)],rfl⟩
  ·obtain ⟨hc,h⟩:=M.g5y h;cases h;refine ⟨rfl,_,by rw [Sem.run_bind,hg];simp [binOp,Op.shift,Int.not_lt.2 (of_decide_eq_true hc)],rfl⟩
  ·rename_i hn1 hn2;obtain ⟨hk,hq⟩:=M.g5z h;clear h;cases b1c hk;split at hq <;> first
    | (
      refine ⟨?_,e4p a,?_,?_⟩ <;> cases hq
      ·rfl
      ·rw [Sem.run_bind,hg];simp [binOp,Op.intArith,Op.intCmp,Op.intBits,e4p,c1z,e6k,f3r]
      ·exact rfl)
    | (
      obtain ⟨hc,hq1⟩:=M.g5y hq;have hb:¬ b'=0:=by simpa using hc
      refine ⟨?_,e4p a,?_,?_⟩ <;> cases hq1
      ·rfl
      ·rw [Sem.run_bind,hg];simp [binOp,Op.intDiv,hb,e4p]
      ·exact rfl)
    | (cases hq;done)
 ·rename_i a' b';have hx:vx=.string a':=hx;have hy:vy=.string b':=hy;subst hx;subst hy;have hg:(eqGuard op xt ox oy (.string a') (.string b')).run P w=.ok () w:=by
   unfold eqGuard;split <;> simp
  split at h <;> first
   | (
     refine ⟨?_,e4p a,?_,?_⟩ <;> cases h
     ·rfl
     ·rw [Sem.run_bind,hg];simp [binOp,Op.stringOp,e4p]
     ·exact rfl)
   | (cases h;done)
   | (
     obtain ⟨hc,hq⟩:=M.g5y h;have hc:=Nat.le_of_ble_eq_true hc;cases hq;refine ⟨rfl,.string (a'++b'),?_,rfl⟩;rw [Sem.run_bind,hg];show (binOp .add xt (.string a') (.string b')).run P w=_;simp only [binOp];exact run_string_add_sum w a' b' hc)
 ·cases h
theorem d1p {xt:Nat} {a b:Bool} (hb:P.underlying xt=some .bool):(Op.equal xt (.bool a) (.bool b)).run P w=.ok (a == b) w:=by
 have h:∀ d,(Op.equalIn (d+1) xt (.bool a) (.bool b)).run P w=.ok (a == b) w:=by
  intro d;unfold Op.equalIn;rw [Sem.run_bind,run_underlying hb];rfl
 exact h 9999
theorem f5m (hT:a1e P E=true) {op:BinOp} {x y:A} {vx vy:Value} (xt:Nat) (ox oy:Operand) (hx:RV E env w S x vx) (hy:RV E env w S y vy) {a:A} {m m':Mem} {p p':FP} (h:(f9x E op xt x y).ev m p=some (a,m',p')) :
  m=m'∧∃ v,((do eqGuard op xt ox oy vx vy;binOp op xt vx vy):Sem Value).run P w=.ok v w∧RV E env w S a v:=by
 unfold f9x at h;split at h
 ·rename_i a' b';have hx:vx=.bool a':=hx;have hy:vy=.bool b':=hy;subst hx;subst hy;obtain ⟨hk,h⟩:=M.g5z h;have hb:P.underlying xt=some .bool:=by
   exact f5k hT (by cases hq:(E.ti xt).kn <;> rw [hq] at hk <;> first | rfl | cases hk)
  split at h
  ·cases h;refine ⟨rfl,.bool (a' == b'),?_,rfl⟩;have hg:(eqGuard .eql xt ox oy (.bool a') (.bool b')).run P w=.ok () w:=by
    unfold eqGuard;split <;> simp
   rw [Sem.run_bind,hg];show ((do pure (.bool (← Op.equal xt (.bool a') (.bool b')))):Sem Value).run P w=_;rw [Sem.run_bind,d1p hb];rfl
  ·cases h;refine ⟨rfl,.bool (!(a' == b')),?_,rfl⟩;have hg:(eqGuard .neq xt ox oy (.bool a') (.bool b')).run P w=.ok () w:=by
    unfold eqGuard;split <;> simp
   rw [Sem.run_bind,hg];show ((do pure (.bool (!(← Op.equal xt (.bool a') (.bool b'))))):Sem Value).run P w=_;rw [Sem.run_bind,d1p hb];rfl
  ·cases h
 ·exact f5l xt ox oy hx hy h
theorem f7s {op:UnOp} {x:A} {vx:Value} (hx:RV E env w S x vx) {a:A} {m m':Mem} {p p':FP} (h:(unM op x).ev m p=some (a,m',p')) :
  m=m'∧∃ v,(Op.unary op vx).run P w=.ok v w∧RV E env w S a v:=by
 unfold unM at h;split at h
 ·rename_i x';have hx:vx=.bool x':=hx;subst hx;cases h;exact ⟨rfl,_,rfl,rfl⟩
 ·cases h
theorem f1j (hT:a1e P E=true) {s t:Nat} (hks:E.known s=true) {x:A} {vx:Value} (hx:RV E env w S x vx) {a:A} {m m':Mem} {p p':FP} (h:(f4x E t x).ev m p=some (a,m',p')) :
  m=m'∧∃ v,(convert s t vx).run P w=.ok v w∧RV E env w S a v:=by
 unfold f4x at h;split at h
 ·rename_i k k' n hkn;have hx:vx=.int k' n:=hx;subst hx;cases h;obtain ⟨d,hd⟩:=e0t hT hks;refine ⟨rfl,.int k (k.wrap n),?_,rfl⟩;unfold convert;simp [run_underlying hd,run_underlying (e7g hT hkn),Conv.intToInt]
 ·cases h
end
end
end Go.Proofs.Ytdbopobkdpmpgaa.Ev
