/- The statement FnExactSureOf: for every input the law returns true, and each argument reads behind the call as it read before. No condition. -/
import Derived.Test.YtbiobflmkicjnaaRows
import Derived.Test.YtbiobflmkicjnaaQFnExactSureOfx7
import Derived.Test.YtbiobflmkicjnaaFitFnExactSureOf
import Derived.Test.YtbiobflmkicjnaaPureFnExactSureOf
import Derived.WalkKit
import Derived.ProofKit
import Derived.OpenShut
import Derived.ShutString
import Derived.ChangeOld
import Derived.Below
import Derived.SizedLaws
namespace Go.Proofs.Ytbiobflmkicjnaa.PFnExactSureOf
open Go.RowKit Go.ChangeShapes Go.WideShapes Go.ChangeAt Go.Proofs.YtbiobflmkicjnaaW.PrintWords Go.Proofs.Ytbiobflmkicjnaa.PFnExactSureOf Go.Proofs.Ytbiobflmkicjnaa.Open
set_option linter.unusedVariables false
theorem own : ownKnob Try.prog.godebug = none := by kernel_rfl
theorem laidOut : laidOutB Try.prog = true := by kernel_rfl
set_option maxRecDepth 100000 in
theorem lifted (os : Os) (started : os.Started) (H : Type) (enc : TypeId × Value → H) :
    ReturnsInHanded {} Try.checked os 6 .any (Rows.fnExactSureOfSpec.pre6 enc Try.prog Try.f6 Rows.fnExactSureOfRow.domain false) (Rows.fnExactSureOfSpec.post enc Try.prog Try.f6 false true false false) := by
  refine returnsInHanded_of_change_sized (C := Try.checked) own started (by kernel_rfl) Try.func6
    (ChangeSpec.witness6 (enc := enc) (C := Try.checked) false ⟨#[], #[.slice none 0 0, .int .i64 0], []⟩ 8 (by kernel_rfl) (by kernel_rfl) (by kernel_rfl) (by kernel_rfl)) ?_
  intro W base args ds gs before hval0 hW hcnd _ _
  have hval : ∀ (j : Nat) t v, Try.f6.params[j]? = some t → args[j]? = some v → Value.okWide Try.prog W .any base t v := hval0
  have hW' := hW
  obtain ⟨p, q, hA0, hV, rfl, hfz, hnd⟩ := hW
  have hA : DataW.TrodAll enc Try.prog W 0 (fun _ => true) true Try.f6.params.toList args.toList ds p := hA0
  rw [Try.params6] at hA hval
  obtain ⟨v0, vs0, d0, ds0, p0, q0, hargs, rfl, rfl, h0, r0⟩ := trodAll_cons hA
  obtain ⟨v1, vs1, d1, ds1, p1, q1, rfl, rfl, rfl, h1, r1⟩ := trodAll_cons r0
  obtain ⟨rfl, rfl, rfl⟩ := trodAll_nil r1
  obtain rfl : args = #[v0, v1] := by cases args; simp_all
  obtain ⟨rfl, rfl⟩ := trodVars_none hV
  have t0 := h0
  have lt0 := places_lt h0
  obtain ⟨y0, K0, F0⟩ := opened opens39 h0
  clear h0
  obtain ⟨a0, len0, cap0, rfl⟩ := okWide_slice Try.underlying39 (hval 0 39 v0 rfl rfl)
  obtain ⟨A0, c0, e0, hc0, hr0⟩ := K0
  have e0 : [Value.slice a0 len0 cap0] = [Value.slice A0 y0.length c0] := e0
  injection e0 with e0 _
  injection e0 with u0 u0' u0''
  subst u0 u0' u0''
  have t1 := h1
  have lt1 := places_lt h1
  obtain ⟨y1, K1, F1⟩ := opened opens3 h1
  clear h1
  obtain ⟨a1, rfl⟩ := okWide_int Try.underlying3 (hval 1 3 v1 rfl rfl)
  obtain rfl : y1 = a1 := Eq.symm (by simpa [Value.cells, Kd.int, Kd.scalar] using K1)
  clear hA0 hval0
  obtain ⟨k, hp⟩ := Pure.FnExactSureOf y0 F0 y1 F1
  refine (laws_FnExactSureOf.calls k _ _ y0 y1 true W hr0 hc0 hp).mono fun e W' ⟨he, bel⟩ => ?_
  subst he
  exact ⟨_, rfl, _, _, _, [], _, [], hW', trodAll_mk1 (shut_bool Try.underlying4 _), (trodAll_cons_mk (Below.trod laidOut (by kernel_rfl) (of_decide_eq_true (by kernel_rfl)) t0 bel lt0) (trodAll_cons_mk (Below.trod laidOut (by kernel_rfl) (of_decide_eq_true (by kernel_rfl)) t1 bel lt1) trodAll_mk0)), rfl, bel.frame _, fun h => by cases h⟩
theorem over : Rows.fnExactSureOfRow.holds Try.pinned (OpenSpec.ofChange Rows.fnExactSureOfSpec) :=
  OpenClaim.holds_of_wide 6 Try.f6 rfl rfl rfl rfl rfl rfl rfl ⟨rfl, rfl, rfl, rfl, rfl⟩ rfl rfl rfl rfl rfl (by kernel_rfl) Try.func6 (by kernel_rfl)
    (of_decide_eq_true (by kernel_rfl)) (by unfold Func.isWrapper; first | (rw [if_pos (by decide +kernel)]; kernel_rfl) | (rw [if_neg (by decide +kernel)]; exact ⟨rfl, rfl⟩))
    (fun os started H enc _ => lifted os started H enc)
end Go.Proofs.Ytbiobflmkicjnaa.PFnExactSureOf
namespace Go.Proofs.Ytbiobflmkicjnaa
/-- The row, for the claim. -/
theorem fnExactSureOf_holds : Rows.FnExactSureOfSaid := PFnExactSureOf.over
#print axioms fnExactSureOf_holds
end Go.Proofs.Ytbiobflmkicjnaa
