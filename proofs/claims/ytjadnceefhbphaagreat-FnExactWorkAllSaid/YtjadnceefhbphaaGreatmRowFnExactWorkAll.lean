/- The statement FnExactWorkAll: for every input the law returns true, and each argument reads behind the call as it read before. No condition. -/
import Derived.Test.YtjadnceefhbphaaGreatRows
import Derived.Test.YtjadnceefhbphaaGreatmCFnExactWorkAll
import Derived.Test.YtjadnceefhbphaaGreatmEvDl
import Derived.WalkKit
import Derived.ProofKit
import Derived.OpenShut
import Derived.ShutString
import Derived.ChangeOld
import Derived.Below
import Derived.SizedLaws
namespace Go.Proofs.YtjadnceefhbphaaGreat.RowFnExactWorkAll
open Go Go.Proofs Go.RowKit Go.ChangeShapes Go.WideShapes Go.ChangeAt Go.Proofs.YtjadnceefhbphaaGreat Go.Proofs.YtjadnceefhbphaaGreat.Ev
set_option linter.unusedVariables false
set_option maxRecDepth 100000
theorem own:ownKnob Tryz.prog.godebug=none:=by kernel_rfl
theorem laidOut:laidOutB Tryz.prog=true:=by kernel_rfl
theorem places_lt {P:Program} {H:Type} {enc:TypeId×Value→H} {W:World} {t:TypeId} {v:Value} {dt:DataW H} {ps:List MemPlace} (hd:DataW.Trod enc P W 0 (fun _=>true) true t v dt ps):∀ x∈ps,x.block<W.heap.size:=by
 obtain ⟨m,hm⟩:=hd;exact DataW.trod_lt m _ _ _ hm
theorem lifted (os:Os) (started:os.Started) (H:Type) (enc:TypeId×Value→H) :
  ReturnsInHanded {} Tryz.checked os 3 .any (Rows.fnExactWorkAllSpec.pre6 enc Tryz.prog Tryz.f3 Rows.fnExactWorkAllRow.domain false) (Rows.fnExactWorkAllSpec.post enc Tryz.prog Tryz.f3 false true false false):=by
 refine returnsInHanded_of_change_sized (C:=Tryz.checked) own started (by kernel_rfl) Tryz.func3
  (ChangeSpec.witness6 (enc:=enc) (C:=Tryz.checked) false ⟨#[],#[.agg #[.int .i64 0,.int .i64 0,.int .i64 0,.slice none 0 0,.int .i64 0,.int .i64 0,.int .i64 0,.int .i64 0,.int .i64 0,.slice none 0 0,.int .i64 0,.bool false,.bool false,.slice none 0 0,.slice none 0 0,.slice none 0 0,.slice none 0 0],.int .i64 0],[]⟩ 8 (by kernel_rfl) (by kernel_rfl) (by kernel_rfl) (by kernel_rfl)) ?_
 intro W base args ds gs before hval0 hW hcnd _ _;have hval:∀ (j:Nat) t v,Tryz.f3.params[j]?=some t→args[j]?=some v→Value.okWide Tryz.prog W .any base t v:=hval0;have hW':=hW;obtain ⟨p,q,hA0,hV,rfl,hfz,hnd⟩:=hW;have hA:DataW.TrodAll enc Tryz.prog W 0 (fun _=>true) true Tryz.f3.params.toList args.toList ds p:=hA0;rw [Tryz.params3] at hA hval;obtain ⟨v0,vs0,d0,ds0,p0,q0,hargs,rfl,rfl,h0,r0⟩:=trodAll_cons hA;obtain ⟨v1,vs1,d1,ds1,p1,q1,rfl,rfl,rfl,h1,r1⟩:=trodAll_cons r0;obtain ⟨rfl,rfl,rfl⟩:=trodAll_nil r1;obtain rfl:args=#[v0,v1]:=by cases args;simp_all
 obtain ⟨rfl,rfl⟩:=trodVars_none hV;have lt0:=places_lt h0;obtain ⟨fu0,hf0⟩:=id h0;obtain ⟨ts0,rc0,ft0⟩:=d2e c1f 8 33 (by kernel_rfl) hf0;obtain ⟨cs0,rfl,_⟩:=okWide_struct Tryz.underlying33 (hval 0 33 v0 rfl rfl);obtain ⟨x0,rfl,F0⟩:=i0u (e7r (by kernel_rfl) ft0);have lt1:=places_lt h1;obtain ⟨fu1,hf1⟩:=id h1;obtain ⟨ts1,rc1,ft1⟩:=d2e c1f 1 3 (by kernel_rfl) hf1;obtain ⟨a1,rfl⟩:=okWide_int Tryz.underlying3 (hval 1 3 v1 rfl rfl);obtain ⟨x1,rfl,F1⟩:∃ n,ts1=[T.i n]∧inI n:=by
  have ft1:=e7r (l:=[.int .i64]) (by kernel_rfl) ft1
  match ts1,ft1 with
  | [t],⟨h,_⟩=>obtain ⟨l,rfl,g⟩:=a1z h;exact ⟨l,rfl,g⟩
 have hp:a0a E P0 (Big+1000) N.k0j ([x0.e,[T.i x1]].map .v)=some ⟨[.b true],[]⟩:=FnExactWorkAll_r x0 F0 x1 F1 (Big+1000) (Nat.add_le_add_left (by decide) _);have ha:g8z E W Tryz.f3.params.toList [Value.agg cs0,Value.int .i64 a1] [x0.e,[T.i x1]]:=by rw [Tryz.params3];exact ⟨⟨⟨_,rfl,rfl⟩,rc0⟩,⟨⟨rfl,rc1⟩,trivial⟩⟩
 refine (h5h (i8u (Big+1000)) (fn:=Tryz.f3) (by kernel_rfl) (by kernel_rfl) (tb:=4) (by kernel_rfl) (by kernel_rfl) (by kernel_rfl) (fun q hq=>by cases hq) ha hp).mono fun e W' ⟨he,bel⟩=>?_;subst he;exact ⟨_,rfl,_,_,_,[],_,[],hW',trodAll_mk1 (shut_bool Tryz.underlying4 _),(trodAll_cons_mk (Below.trod laidOut (by kernel_rfl) (of_decide_eq_true (by kernel_rfl)) h0 bel lt0) (trodAll_cons_mk (Below.trod laidOut (by kernel_rfl) (of_decide_eq_true (by kernel_rfl)) h1 bel lt1) trodAll_mk0)),rfl,bel.frame _,fun h=>by cases h⟩
theorem over:Rows.fnExactWorkAllRow.holds Tryz.pinned (OpenSpec.ofChange Rows.fnExactWorkAllSpec):=
 OpenClaim.holds_of_wide 3 Tryz.f3 rfl rfl rfl rfl rfl rfl rfl ⟨rfl,rfl,rfl,rfl,rfl⟩ rfl rfl rfl rfl rfl (by kernel_rfl) Tryz.func3 (by kernel_rfl)
  (of_decide_eq_true (by kernel_rfl)) (by unfold Func.isWrapper;first | (rw [if_pos (by decide +kernel)];kernel_rfl) | (rw [if_neg (by decide +kernel)];exact ⟨rfl,rfl⟩))
  (fun os started H enc _=>lifted os started H enc)
end Go.Proofs.YtjadnceefhbphaaGreat.RowFnExactWorkAll
namespace Go.Proofs.YtjadnceefhbphaaGreat
theorem fnExactWorkAll_holds:Rows.FnExactWorkAllSaid:=RowFnExactWorkAll.over
#print axioms fnExactWorkAll_holds
end Go.Proofs.YtjadnceefhbphaaGreat
