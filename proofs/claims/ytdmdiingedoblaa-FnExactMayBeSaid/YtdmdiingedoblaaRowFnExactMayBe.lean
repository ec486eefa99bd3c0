/- The statement FnExactMayBe: for every input the law returns true, and each argument reads behind the call as it read before. No condition. -/
import Derived.Test.YtdmdiingedoblaaRows
import Derived.Test.YtdmdiingedoblaaPo
import Derived.WalkKit
import Derived.ProofKit
import Derived.OpenShut
import Derived.ShutString
import Derived.ChangeOld
import Derived.Below
import Derived.SizedLaws
namespace Go.Proofs.Ytdmdiingedoblaa.RowFnExactMayBe
open Go Go.Proofs Go.RowKit Go.ChangeShapes Go.WideShapes Go.ChangeAt Go.Proofs.Ytdmdiingedoblaa Go.Proofs.Ytdmdiingedoblaa.Ev
set_option linter.unusedVariables false
set_option maxRecDepth 100000
theorem own : ownKnob Try.prog.godebug = none := by kernel_rfl
theorem laidOut : laidOutB Try.prog = true := by kernel_rfl
theorem places_lt {P : Program} {H : Type} {enc : TypeId × Value → H} {W : World} {t : TypeId} {v : Value} {dt : DataW H} {ps : List MemPlace} (hd : DataW.Trod enc P W 0 (fun _ => true) true t v dt ps) : ∀ x ∈ ps, x.block < W.heap.size := by
  obtain ⟨m, hm⟩ := hd
  exact DataW.trod_lt m _ _ _ hm
theorem lifted (os : Os) (started : os.Started) (H : Type) (enc : TypeId × Value → H) :
    ReturnsInHanded {} Try.checked os 4 .any (Rows.fnExactMayBeSpec.pre6 enc Try.prog Try.f4 Rows.fnExactMayBeRow.domain false) (Rows.fnExactMayBeSpec.post enc Try.prog Try.f4 false true false false) := by
  refine returnsInHanded_of_change_sized (C := Try.checked) own started (by kernel_rfl) Try.func4
    (ChangeSpec.witness6 (enc := enc) (C := Try.checked) false ⟨#[], #[.int .i64 0, .slice none 0 0, .int .i64 0, .int .i64 0], []⟩ 8 (by kernel_rfl) (by kernel_rfl) (by kernel_rfl) (by kernel_rfl)) ?_
  intro W base args ds gs before hval0 hW hcnd _ _
  have hval : ∀ (j : Nat) t v, Try.f4.params[j]? = some t → args[j]? = some v → Value.okWide Try.prog W .any base t v := hval0
  have hW' := hW
  obtain ⟨p, q, hA0, hV, rfl, hfz, hnd⟩ := hW
  have hA : DataW.TrodAll enc Try.prog W 0 (fun _ => true) true Try.f4.params.toList args.toList ds p := hA0
  rw [Try.params4] at hA hval
  obtain ⟨v0, vs0, d0, ds0, p0, q0, hargs, rfl, rfl, h0, r0⟩ := trodAll_cons hA
  obtain ⟨v1, vs1, d1, ds1, p1, q1, rfl, rfl, rfl, h1, r1⟩ := trodAll_cons r0
  obtain ⟨v2, vs2, d2, ds2, p2, q2, rfl, rfl, rfl, h2, r2⟩ := trodAll_cons r1
  obtain ⟨v3, vs3, d3, ds3, p3, q3, rfl, rfl, rfl, h3, r3⟩ := trodAll_cons r2
  obtain ⟨rfl, rfl, rfl⟩ := trodAll_nil r3
  obtain rfl : args = #[v0, v1, v2, v3] := by cases args; simp_all
  obtain ⟨rfl, rfl⟩ := trodVars_none hV
  have lt0 := places_lt h0
  obtain ⟨fu0, hf0⟩ := id h0
  obtain ⟨ts0, rc0, ft0⟩ := trod_open tabOk_ 1 3 (by kernel_rfl) hf0
  obtain ⟨a0, rfl⟩ := okWide_int Try.underlying3 (hval 0 3 v0 rfl rfl)
  obtain ⟨x0, rfl, F0⟩ : ∃ n, ts0 = [T.i n] ∧ inI n := by
    have ft0 := flatT (l := [.int .i64]) (by kernel_rfl) ft0
    match ts0, ft0 with
    | [t], ⟨h, _⟩ => obtain ⟨l, rfl, g⟩ := open_int h; exact ⟨l, rfl, g⟩
  have lt1 := places_lt h1
  obtain ⟨fu1, hf1⟩ := id h1
  obtain ⟨ts1, rc1, ft1⟩ := trod_open tabOk_ 5 35 (by kernel_rfl) hf1
  obtain ⟨a1, len1, cap1, rfl⟩ := okWide_slice Try.underlying35 (hval 1 35 v1 rfl rfl)
  obtain ⟨x1, rfl, F1⟩ : ∃ l, ts1 = [T.r (eTurns l)] ∧ LF Turn.Fit l := by
    have ft1 := flatT (l := [.row TN.laws_Turn]) (by kernel_rfl) ft1
    match ts1, ft1 with
    | [t], ⟨h, _⟩ => obtain ⟨l, rfl, g⟩ := open_TurnS h; exact ⟨l, rfl, g⟩
  have lt2 := places_lt h2
  obtain ⟨fu2, hf2⟩ := id h2
  obtain ⟨ts2, rc2, ft2⟩ := trod_open tabOk_ 1 3 (by kernel_rfl) hf2
  obtain ⟨a2, rfl⟩ := okWide_int Try.underlying3 (hval 2 3 v2 rfl rfl)
  obtain ⟨x2, rfl, F2⟩ : ∃ n, ts2 = [T.i n] ∧ inI n := by
    have ft2 := flatT (l := [.int .i64]) (by kernel_rfl) ft2
    match ts2, ft2 with
    | [t], ⟨h, _⟩ => obtain ⟨l, rfl, g⟩ := open_int h; exact ⟨l, rfl, g⟩
  have lt3 := places_lt h3
  obtain ⟨fu3, hf3⟩ := id h3
  obtain ⟨ts3, rc3, ft3⟩ := trod_open tabOk_ 1 3 (by kernel_rfl) hf3
  obtain ⟨a3, rfl⟩ := okWide_int Try.underlying3 (hval 3 3 v3 rfl rfl)
  obtain ⟨x3, rfl, F3⟩ : ∃ n, ts3 = [T.i n] ∧ inI n := by
    have ft3 := flatT (l := [.int .i64]) (by kernel_rfl) ft3
    match ts3, ft3 with
    | [t], ⟨h, _⟩ => obtain ⟨l, rfl, g⟩ := open_int h; exact ⟨l, rfl, g⟩
  have hp : evalF E P0 (Big + 1000) N.laws_FnExactMayBe ([[T.i x0], [T.r (eTurns x1)], [T.i x2], [T.i x3]].map .v) = some ⟨[.b true], []⟩ := FnExactMayBe_r x0 F0 x1 F1 x2 F2 x3 F3 (Big + 1000) (Nat.add_le_add_left (by decide) _)
  have ha : ArgsIn E W Try.f4.params.toList [Value.int .i64 a0, Value.slice a1 len1 cap1, Value.int .i64 a2, Value.int .i64 a3] [[T.i x0], [T.r (eTurns x1)], [T.i x2], [T.i x3]] := by rw [Try.params4]; exact ⟨⟨rfl, rc0⟩, ⟨⟨rfl, rc1⟩, ⟨⟨rfl, rc2⟩, ⟨⟨rfl, rc3⟩, trivial⟩⟩⟩⟩
  refine (law_calls (sound_ (Big + 1000)) (fn := Try.f4) (by kernel_rfl) (by kernel_rfl) (tb := 4) (by kernel_rfl) (by kernel_rfl) (by kernel_rfl) ha hp).mono fun e W' ⟨he, bel⟩ => ?_
  subst he
  exact ⟨_, rfl, _, _, _, [], _, [], hW', trodAll_mk1 (shut_bool Try.underlying4 _), (trodAll_cons_mk (Below.trod laidOut (by kernel_rfl) (of_decide_eq_true (by kernel_rfl)) h0 bel lt0) (trodAll_cons_mk (Below.trod laidOut (by kernel_rfl) (of_decide_eq_true (by kernel_rfl)) h1 bel lt1) (trodAll_cons_mk (Below.trod laidOut (by kernel_rfl) (of_decide_eq_true (by kernel_rfl)) h2 bel lt2) (trodAll_cons_mk (Below.trod laidOut (by kernel_rfl) (of_decide_eq_true (by kernel_rfl)) h3 bel lt3) trodAll_mk0)))), rfl, bel.frame _, fun h => by cases h⟩
theorem over : Rows.fnExactMayBeRow.holds Try.pinned (OpenSpec.ofChange Rows.fnExactMayBeSpec) :=
  OpenClaim.holds_of_wide 4 Try.f4 rfl rfl rfl rfl rfl rfl rfl ⟨rfl, rfl, rfl, rfl, rfl⟩ rfl rfl rfl rfl rfl (by kernel_rfl) Try.func4 (by kernel_rfl)
    (of_decide_eq_true (by kernel_rfl)) (by unfold Func.isWrapper; first | (rw [if_pos (by decide +kernel)]; kernel_rfl) | (rw [if_neg (by decide +kernel)]; exact ⟨rfl, rfl⟩))
    (fun os started H enc _ => lifted os started H enc)
end Go.Proofs.Ytdmdiingedoblaa.RowFnExactMayBe
namespace Go.Proofs.Ytdmdiingedoblaa
/-- The row, for the claim. -/
theorem fnExactMayBe_holds : Rows.FnExactMayBeSaid := RowFnExactMayBe.over
#print axioms fnExactMayBe_holds
end Go.Proofs.Ytdmdiingedoblaa
