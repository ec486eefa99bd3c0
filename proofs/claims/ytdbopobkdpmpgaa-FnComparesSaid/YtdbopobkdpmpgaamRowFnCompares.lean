/- The statement FnCompares: for every input the law returns true, and each argument reads behind the call as it read before. No condition. -/
import Derived.Test.YtdbopobkdpmpgaaRows
import Derived.Test.YtdbopobkdpmpgaamCFnCompares
import Derived.Test.YtdbopobkdpmpgaamEvDl
import Derived.WalkKit
import Derived.ProofKit
import Derived.OpenShut
import Derived.ShutString
import Derived.ChangeOld
import Derived.Below
import Derived.SizedLaws
namespace Go.Proofs.Ytdbopobkdpmpgaa.RowFnCompares
open Go Go.Proofs Go.RowKit Go.ChangeShapes Go.WideShapes Go.ChangeAt Go.Proofs.Ytdbopobkdpmpgaa Go.Proofs.Ytdbopobkdpmpgaa.Ev
set_option linter.unusedVariables false
set_option maxRecDepth 100000
theorem own:ownKnob Try.prog.godebug=none:=by kernel_rfl
theorem laidOut:laidOutB Try.prog=true:=by kernel_rfl
theorem places_lt {P:Program} {H:Type} {enc:TypeId×Value→H} {W:World} {t:TypeId} {v:Value} {dt:DataW H} {ps:List MemPlace} (hd:DataW.Trod enc P W 0 (fun _=>true) true t v dt ps):∀ x∈ps,x.block<W.heap.size:=by
 obtain ⟨m,hm⟩:=hd;exact DataW.trod_lt m _ _ _ hm
theorem lifted (os:Os) (started:os.Started) (H:Type) (enc:TypeId×Value→H) :
  ReturnsInHanded {} Try.checked os 3 .any (Rows.fnComparesSpec.pre6 enc Try.prog Try.f3 Rows.fnComparesRow.domain false) (Rows.fnComparesSpec.post enc Try.prog Try.f3 false true false false):=by
 refine returnsInHanded_of_change_sized (C:=Try.checked) own started (by kernel_rfl) Try.func3
  (ChangeSpec.witness6 (enc:=enc) (C:=Try.checked) false ⟨#[],#[.slice none 0 0],[]⟩ 8 (by kernel_rfl) (by kernel_rfl) (by kernel_rfl) (by kernel_rfl)) ?_
 intro W base args ds gs before hval0 hW hcnd _ _;have hval:∀ (j:Nat) t v,Try.f3.params[j]?=some t→args[j]?=some v→Value.okWide Try.prog W .any base t v:=hval0;have hW':=hW;obtain ⟨p,q,hA0,hV,rfl,hfz,hnd⟩:=hW;have hA:DataW.TrodAll enc Try.prog W 0 (fun _=>true) true Try.f3.params.toList args.toList ds p:=hA0;rw [Try.params3] at hA hval;obtain ⟨v0,vs0,d0,ds0,p0,q0,hargs,rfl,rfl,h0,r0⟩:=trodAll_cons hA;obtain ⟨rfl,rfl,rfl⟩:=trodAll_nil r0;obtain rfl:args=#[v0]:=by cases args;simp_all
 obtain ⟨rfl,rfl⟩:=trodVars_none hV;have lt0:=places_lt h0;obtain ⟨fu0,hf0⟩:=id h0;obtain ⟨ts0,rc0,ft0⟩:=c7y b2i 2 22 (by kernel_rfl) hf0;obtain ⟨a0,len0,cap0,rfl⟩:=okWide_slice Try.underlying22 (hval 0 22 v0 rfl rfl);obtain ⟨x0,rfl,F0⟩:∃ l,ts0=[T.r (eIs l)]∧LF inB l:=by
  have ft0:=f8j (l:=[.row TN.Uint8]) (by kernel_rfl) ft0
  match ts0,ft0 with
  | [t],⟨h,_⟩=>obtain ⟨l,rfl,g⟩:=e1t h;exact ⟨l,rfl,g⟩
 have hp:a0d E P0 (Big+1000) N.g5g ([[T.r (eIs x0)]].map .v)=some ⟨[.b true],[]⟩:=FnCompares_r x0 F0 (Big+1000) (Nat.add_le_add_left (by decide) _);have ha:e3g E W Try.f3.params.toList [Value.slice a0 len0 cap0] [[T.r (eIs x0)]]:=by rw [Try.params3];exact ⟨⟨rfl,rc0⟩,trivial⟩
 refine (e8s (f9e (Big+1000)) (fn:=Try.f3) (by kernel_rfl) (by kernel_rfl) (tb:=4) (by kernel_rfl) (by kernel_rfl) (by kernel_rfl) (fun q hq=>by cases hq) ha hp).mono fun e W' ⟨he,bel⟩=>?_;subst he;exact ⟨_,rfl,_,_,_,[],_,[],hW',trodAll_mk1 (shut_bool Try.underlying4 _),(trodAll_cons_mk (Below.trod laidOut (by kernel_rfl) (of_decide_eq_true (by kernel_rfl)) h0 bel lt0) trodAll_mk0),rfl,bel.frame _,fun h=>by cases h⟩
theorem over:Rows.fnComparesRow.holds Try.pinned (OpenSpec.ofChange Rows.fnComparesSpec):=
 OpenClaim.holds_of_wide 3 Try.f3 rfl rfl rfl rfl rfl rfl rfl ⟨rfl,rfl,rfl,rfl,rfl⟩ rfl rfl rfl rfl rfl (by kernel_rfl) Try.func3 (by kernel_rfl)
  (of_decide_eq_true (by kernel_rfl)) (by unfold Func.isWrapper;first | (rw [if_pos (by decide +kernel)];kernel_rfl) | (rw [if_neg (by decide +kernel)];exact ⟨rfl,rfl⟩))
  (fun os started H enc _=>lifted os started H enc)
end Go.Proofs.Ytdbopobkdpmpgaa.RowFnCompares
namespace Go.Proofs.Ytdbopobkdpmpgaa
theorem fnCompares_holds:Rows.FnComparesSaid:=RowFnCompares.over
#print axioms fnCompares_holds
end Go.Proofs.Ytdbopobkdpmpgaa
