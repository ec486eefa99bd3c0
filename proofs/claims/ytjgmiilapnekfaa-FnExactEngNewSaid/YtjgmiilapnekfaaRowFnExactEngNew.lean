/- The statement FnExactEngNew: for every input the law returns true, and each argument reads behind the call as it read before. No condition. -/
import Derived.Test.YtjgmiilapnekfaaRows
import Derived.Test.YtjgmiilapnekfaaCFnExactEngNew
import Derived.WalkKit
import Derived.ProofKit
import Derived.OpenShut
import Derived.ShutString
import Derived.ChangeOld
import Derived.Below
import Derived.SizedLaws
namespace Go.Proofs.Ytjgmiilapnekfaa.RowFnExactEngNew
open Go Go.Proofs Go.RowKit Go.ChangeShapes Go.WideShapes Go.ChangeAt Go.Proofs.Ytjgmiilapnekfaa Go.Proofs.Ytjgmiilapnekfaa.Ev
set_option linter.unusedVariables false
set_option maxRecDepth 100000
theorem own : ownKnob Try.prog.godebug = none := by kernel_rfl
theorem laidOut : laidOutB Try.prog = true := by kernel_rfl
theorem places_lt {P : Program} {H : Type} {enc : TypeId × Value → H} {W : World} {t : TypeId} {v : Value} {dt : DataW H} {ps : List MemPlace} (hd : DataW.Trod enc P W 0 (fun _ => true) true t v dt ps) : ∀ x ∈ ps, x.block < W.heap.size := by
  obtain ⟨m, hm⟩ := hd
  exact DataW.trod_lt m _ _ _ hm
theorem lifted (os : Os) (started : os.Started) (H : Type) (enc : TypeId × Value → H) :
    ReturnsInHanded {} Try.checked os 3 .any (Rows.fnExactEngNewSpec.pre6 enc Try.prog Try.f3 Rows.fnExactEngNewRow.domain false) (Rows.fnExactEngNewSpec.post enc Try.prog Try.f3 false true false false) := by
  refine returnsInHanded_of_change_sized (C := Try.checked) own started (by kernel_rfl) Try.func3
    (ChangeSpec.witness6 (enc := enc) (C := Try.checked) false ⟨#[], #[.int .i64 0, .agg #[.int .i64 0, .int .i64 0]], []⟩ 8 (by kernel_rfl) (by kernel_rfl) (by kernel_rfl) (by kernel_rfl)) ?_
  intro W base args ds gs before hval0 hW hcnd _ _
  have hval : ∀ (j : Nat) t v, Try.f3.params[j]? = some t → args[j]? = some v → Value.okWide Try.prog W .any base t v := hval0
  have hW' := hW
  obtain ⟨p, q, hA0, hV, rfl, hfz, hnd⟩ := hW
  have hA : DataW.TrodAll enc Try.prog W 0 (fun _ => true) true Try.f3.params.toList args.toList ds p := hA0
  rw [Try.params3] at hA hval
  obtain ⟨v0, vs0, d0, ds0, p0, q0, hargs, rfl, rfl, h0, r0⟩ := trodAll_cons hA
  obtain ⟨v1, vs1, d1, ds1, p1, q1, rfl, rfl, rfl, h1, r1⟩ := trodAll_cons r0
  obtain ⟨rfl, rfl, rfl⟩ := trodAll_nil r1
  obtain rfl : args = #[v0, v1] := by cases args; simp_all
  obtain ⟨rfl, rfl⟩ := trodVars_none hV
  have lt0 := places_lt h0
  obtain ⟨fu0, hf0⟩ := id h0
  obtain ⟨ts0, rc0, ft0⟩ := trod_open tabOk_ 1 3 (by kernel_rfl) hf0
  obtain ⟨a0, rfl⟩ := okWide_int Try.underlying3 (hval 0 3 v0 rfl rfl)
  obtain ⟨x0, rfl, F0⟩ : ∃ n, ts0 = [T.i n] ∧ inI n := by
    have ft0 := flatT (l := [.int .i64]) (by kernel_rfl) ft0
    match ts0, ft0 with
    | [t], ⟨h, _⟩ => obtain ⟨l, rfl, g⟩ := open_int h; exact ⟨l, rfl, g⟩
  have lt1 := places_lt h1
  obtain ⟨fu1, hf1⟩ := id h1
  obtain ⟨ts1, rc1, ft1⟩ := trod_open tabOk_ 2 23 (by kernel_rfl) hf1
  obtain ⟨cs1, rfl, _⟩ := okWide_struct Try.underlying23 (hval 1 23 v1 rfl rfl)
  obtain ⟨x1, rfl, F1⟩ := open_Geo (flatT (by kernel_rfl) ft1)
  have hp : evalF E P0 (Big + 1000) N.laws_FnExactEngNew ([[T.i x0], x1.e].map .v) = some ⟨[.b true], []⟩ := FnExactEngNew_r x0 F0 x1 F1 (Big + 1000) (Nat.add_le_add_left (by decide) _)
  have ha : ArgsIn E W Try.f3.params.toList [Value.int .i64 a0, Value.agg cs1] [[T.i x0], x1.e] := by rw [Try.params3]; exact ⟨⟨rfl, rc0⟩, ⟨⟨⟨_, rfl, rfl⟩, rc1⟩, trivial⟩⟩
  refine (law_calls (sound_ (Big + 1000)) (fn := Try.f3) (by kernel_rfl) (by kernel_rfl) (tb := 4) (by kernel_rfl) (by kernel_rfl) (by kernel_rfl) (fun q hq => by cases hq) ha hp).mono fun e W' ⟨he, bel⟩ => ?_
  subst he
  exact ⟨_, rfl, _, _, _, [], _, [], hW', trodAll_mk1 (shut_bool Try.underlying4 _), (trodAll_cons_mk (Below.trod laidOut (by kernel_rfl) (of_decide_eq_true (by kernel_rfl)) h0 bel lt0) (trodAll_cons_mk (Below.trod laidOut (by kernel_rfl) (of_decide_eq_true (by kernel_rfl)) h1 bel lt1) trodAll_mk0)), rfl, bel.frame _, fun h => by cases h⟩
theorem over : Rows.fnExactEngNewRow.holds Try.pinned (OpenSpec.ofChange Rows.fnExactEngNewSpec) :=
  OpenClaim.holds_of_wide 3 Try.f3 rfl rfl rfl rfl rfl rfl rfl ⟨rfl, rfl, rfl, rfl, rfl⟩ rfl rfl rfl rfl rfl (by kernel_rfl) Try.func3 (by kernel_rfl)
    (of_decide_eq_true (by kernel_rfl)) (by unfold Func.isWrapper; first | (rw [if_pos (by decide +kernel)]; kernel_rfl) | (rw [if_neg (by decide +kernel)]; exact ⟨rfl, rfl⟩))
    (fun os started H enc _ => lifted os started H enc)
end Go.Proofs.Ytjgmiilapnekfaa.RowFnExactEngNew
namespace Go.Proofs.Ytjgmiilapnekfaa
/-- The row, for the claim. -/
theorem fnExactEngNew_holds : Rows.FnExactEngNewSaid := RowFnExactEngNew.over
#print axioms fnExactEngNew_holds
end Go.Proofs.Ytjgmiilapnekfaa
