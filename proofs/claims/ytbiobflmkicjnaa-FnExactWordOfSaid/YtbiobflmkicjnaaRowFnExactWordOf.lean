/- The statement FnExactWordOf: for every input the law returns true, and each argument reads behind the call as it read before. No condition. -/
import Derived.Test.YtbiobflmkicjnaaRows
import Derived.Test.YtbiobflmkicjnaaPFnExactWordOfx5
import Derived.Test.YtbiobflmkicjnaaFitFnExactWordOf
import Derived.Test.YtbiobflmkicjnaaPureFnExactWordOf
import Derived.WalkKit
import Derived.ProofKit
import Derived.OpenShut
import Derived.ShutString
import Derived.ChangeOld
import Derived.Below
import Derived.SizedLaws
namespace Go.Proofs.Ytbiobflmkicjnaa.PFnExactWordOf
open Go.RowKit Go.ChangeShapes Go.WideShapes Go.ChangeAt Go.Proofs.YtbiobflmkicjnaaW.PrintWords Go.Proofs.Ytbiobflmkicjnaa.PFnExactWordOf Go.Proofs.Ytbiobflmkicjnaa.Open
set_option linter.unusedVariables false
theorem own : ownKnob Try.prog.godebug = none := by kernel_rfl
theorem laidOut : laidOutB Try.prog = true := by kernel_rfl
set_option maxRecDepth 100000 in
theorem lifted (os : Os) (started : os.Started) (H : Type) (enc : TypeId × Value → H) :
    ReturnsInHanded {} Try.checked os 5 .any (Rows.fnExactWordOfSpec.pre6 enc Try.prog Try.f5 Rows.fnExactWordOfRow.domain false) (Rows.fnExactWordOfSpec.post enc Try.prog Try.f5 false true false false) := by
  refine returnsInHanded_of_change_sized (C := Try.checked) own started (by kernel_rfl) Try.func5
    (ChangeSpec.witness6 (enc := enc) (C := Try.checked) false ⟨#[], #[.agg #[.int .i64 0, .int .i64 0, .int .i64 0, .int .i64 0, .slice none 0 0], .int .i64 0], []⟩ 8 (by kernel_rfl) (by kernel_rfl) (by kernel_rfl) (by kernel_rfl)) ?_
  intro W base args ds gs before hval0 hW hcnd _ _
  have hval : ∀ (j : Nat) t v, Try.f5.params[j]? = some t → args[j]? = some v → Value.okWide Try.prog W .any base t v := hval0
  have hW' := hW
  obtain ⟨p, q, hA0, hV, rfl, hfz, hnd⟩ := hW
  have hA : DataW.TrodAll enc Try.prog W 0 (fun _ => true) true Try.f5.params.toList args.toList ds p := hA0
  rw [Try.params5] at hA hval
  obtain ⟨v0, vs0, d0, ds0, p0, q0, hargs, rfl, rfl, h0, r0⟩ := trodAll_cons hA
  obtain ⟨v1, vs1, d1, ds1, p1, q1, rfl, rfl, rfl, h1, r1⟩ := trodAll_cons r0
  obtain ⟨rfl, rfl, rfl⟩ := trodAll_nil r1
  obtain rfl : args = #[v0, v1] := by cases args; simp_all
  obtain ⟨rfl, rfl⟩ := trodVars_none hV
  have t0 := h0
  have lt0 := places_lt h0
  obtain ⟨y0, K0, F0⟩ := opened opens31 h0
  clear h0
  obtain ⟨cs0, rfl, _⟩ := okWide_struct Try.underlying31 (hval 0 31 v0 rfl rfl)
  have K0 : k31.K W y0 cs0.toList := K0
  obtain ⟨A0_4, c0_4, e0, hc0_4, hr0_4⟩ := k31_open K0
  obtain rfl : cs0 = #[.int .i64 y0.f0, .int .i64 y0.f1, .int .i64 y0.f2, .int .i64 y0.f3, .slice A0_4 y0.f4.length c0_4] := by cases cs0; exact congrArg Array.mk e0
  have t1 := h1
  have lt1 := places_lt h1
  obtain ⟨y1, K1, F1⟩ := opened opens3 h1
  clear h1
  obtain ⟨a1, rfl⟩ := okWide_int Try.underlying3 (hval 1 3 v1 rfl rfl)
  obtain rfl : y1 = a1 := Eq.symm (by simpa [Value.cells, Kd.int, Kd.scalar] using K1)
  clear hA0 hval0
  obtain ⟨k, hp⟩ := Pure.FnExactWordOf y0 F0 y1 F1
  refine (laws_FnExactWordOf.calls k y0.f0 y0.f1 y0.f2 y0.f3 _ _ y0.f4 y1 true W hr0_4 hc0_4 hp).mono fun e W' ⟨he, bel⟩ => ?_
  subst he
  exact ⟨_, rfl, _, _, _, [], _, [], hW', trodAll_mk1 (shut_bool Try.underlying4 _), (trodAll_cons_mk (Below.trod laidOut (by kernel_rfl) (of_decide_eq_true (by kernel_rfl)) t0 bel lt0) (trodAll_cons_mk (Below.trod laidOut (by kernel_rfl) (of_decide_eq_true (by kernel_rfl)) t1 bel lt1) trodAll_mk0)), rfl, bel.frame _, fun h => by cases h⟩
theorem over : Rows.fnExactWordOfRow.holds Try.pinned (OpenSpec.ofChange Rows.fnExactWordOfSpec) :=
  OpenClaim.holds_of_wide 5 Try.f5 rfl rfl rfl rfl rfl rfl rfl ⟨rfl, rfl, rfl, rfl, rfl⟩ rfl rfl rfl rfl rfl (by kernel_rfl) Try.func5 (by kernel_rfl)
    (of_decide_eq_true (by kernel_rfl)) (by unfold Func.isWrapper; first | (rw [if_pos (by decide +kernel)]; kernel_rfl) | (rw [if_neg (by decide +kernel)]; exact ⟨rfl, rfl⟩))
    (fun os started H enc _ => lifted os started H enc)
end Go.Proofs.Ytbiobflmkicjnaa.PFnExactWordOf
namespace Go.Proofs.Ytbiobflmkicjnaa
/-- The row, for the claim. -/
theorem fnExactWordOf_holds : Rows.FnExactWordOfSaid := PFnExactWordOf.over
#print axioms fnExactWordOf_holds
end Go.Proofs.Ytbiobflmkicjnaa
