/- The statement FnExactDrain: for every input the law returns true, and each argument reads behind the call as it read before. No condition. -/
import Derived.Test.YtgilihjnmjgciaaGreatRows
import Derived.Test.YtgilihjnmjgciaaGreatmCFnExactDrain
import Derived.Test.YtgilihjnmjgciaaGreatmEvDl
import Derived.WalkKit
import Derived.ProofKit
import Derived.OpenShut
import Derived.ShutString
import Derived.ChangeOld
import Derived.Below
import Derived.SizedLaws
namespace Go.Proofs.YtgilihjnmjgciaaGreat.RowFnExactDrain
open Go Go.Proofs Go.RowKit Go.ChangeShapes Go.WideShapes Go.ChangeAt Go.Proofs.YtgilihjnmjgciaaGreat Go.Proofs.YtgilihjnmjgciaaGreat.Ev
set_option linter.unusedVariables false
set_option maxRecDepth 100000
theorem own:ownKnob Tryz.prog.godebug=none:=by kernel_rfl
theorem laidOut:laidOutB Tryz.prog=true:=by kernel_rfl
theorem places_lt {P:Program} {H:Type} {enc:TypeId×Value→H} {W:World} {t:TypeId} {v:Value} {dt:DataW H} {ps:List MemPlace} (hd:DataW.Trod enc P W 0 (fun _=>true) true t v dt ps):∀ x∈ps,x.block<W.heap.size:=by
 obtain ⟨m,hm⟩:=hd;exact DataW.trod_lt m _ _ _ hm
theorem lifted (os:Os) (started:os.Started) (H:Type) (enc:TypeId×Value→H) :
  ReturnsInHanded {} Tryz.checked os 3 .any (Rows.fnExactDrainSpec.pre6 enc Tryz.prog Tryz.f3 Rows.fnExactDrainRow.domain false) (Rows.fnExactDrainSpec.post enc Tryz.prog Tryz.f3 false true false false):=by
 refine returnsInHanded_of_change_sized (C:=Tryz.checked) own started (by kernel_rfl) Tryz.func3
  (ChangeSpec.witness6 (enc:=enc) (C:=Tryz.checked) false ⟨#[],#[.agg #[.int .i64 0,.int .i64 0,.int .i64 0,.slice none 0 0,.int .i64 0,.int .i64 0,.int .i64 0,.int .i64 0,.int .i64 0,.slice none 0 0,.int .i64 0,.bool false,.bool false,.slice none 0 0,.slice none 0 0,.slice none 0 0,.slice none 0 0]],[]⟩ 8 (by kernel_rfl) (by kernel_rfl) (by kernel_rfl) (by kernel_rfl)) ?_
 intro W base args ds gs before hval0 hW hcnd _ _;have hval:∀ (j:Nat) t v,Tryz.f3.params[j]?=some t→args[j]?=some v→Value.okWide Tryz.prog W .any base t v:=hval0;have hW':=hW;obtain ⟨p,q,hA0,hV,rfl,hfz,hnd⟩:=hW;have hA:DataW.TrodAll enc Tryz.prog W 0 (fun _=>true) true Tryz.f3.params.toList args.toList ds p:=hA0;rw [Tryz.params3] at hA hval;obtain ⟨v0,vs0,d0,ds0,p0,q0,hargs,rfl,rfl,h0,r0⟩:=trodAll_cons hA;obtain ⟨rfl,rfl,rfl⟩:=trodAll_nil r0;obtain rfl:args=#[v0]:=by cases args;simp_all
 obtain ⟨rfl,rfl⟩:=trodVars_none hV;have lt0:=places_lt h0;obtain ⟨fu0,hf0⟩:=id h0;obtain ⟨ts0,rc0,ft0⟩:=e6q c0k 8 33 (by kernel_rfl) hf0;obtain ⟨cs0,rfl,_⟩:=okWide_struct Tryz.underlying33 (hval 0 33 v0 rfl rfl);obtain ⟨x0,rfl,F0⟩:=i4l (f5o (by kernel_rfl) ft0);have hp:a0a E P0 (Big+1000) N.k4m ([x0.e].map .v)=some ⟨[.b true],[]⟩:=FnExactDrain_r x0 F0 (Big+1000) (Nat.add_le_add_left (by decide) _);have ha:h2q E W Tryz.f3.params.toList [Value.agg cs0] [x0.e]:=by rw [Tryz.params3];exact ⟨⟨⟨_,rfl,rfl⟩,rc0⟩,trivial⟩
 refine (h8x (j2l (Big+1000)) (fn:=Tryz.f3) (by kernel_rfl) (by kernel_rfl) (tb:=4) (by kernel_rfl) (by kernel_rfl) (by kernel_rfl) (fun q hq=>by cases hq) ha hp).mono fun e W' ⟨he,bel⟩=>?_;subst he;exact ⟨_,rfl,_,_,_,[],_,[],hW',trodAll_mk1 (shut_bool Tryz.underlying4 _),(trodAll_cons_mk (Below.trod laidOut (by kernel_rfl) (of_decide_eq_true (by kernel_rfl)) h0 bel lt0) trodAll_mk0),rfl,bel.frame _,fun h=>by cases h⟩
theorem over:Rows.fnExactDrainRow.holds Tryz.pinned (OpenSpec.ofChange Rows.fnExactDrainSpec):=
 OpenClaim.holds_of_wide 3 Tryz.f3 rfl rfl rfl rfl rfl rfl rfl ⟨rfl,rfl,rfl,rfl,rfl⟩ rfl rfl rfl rfl rfl (by kernel_rfl) Tryz.func3 (by kernel_rfl)
  (of_decide_eq_true (by kernel_rfl)) (by unfold Func.isWrapper;first | (rw [if_pos (by decide +kernel)];kernel_rfl) | (rw [if_neg (by decide +kernel)];exact ⟨rfl,rfl⟩))
  (fun os started H enc _=>lifted os started H enc)
end Go.Proofs.YtgilihjnmjgciaaGreat.RowFnExactDrain
namespace Go.Proofs.YtgilihjnmjgciaaGreat
theorem fnExactDrain_holds:Rows.FnExactDrainSaid:=RowFnExactDrain.over
#print axioms fnExactDrain_holds
end Go.Proofs.YtgilihjnmjgciaaGreat
