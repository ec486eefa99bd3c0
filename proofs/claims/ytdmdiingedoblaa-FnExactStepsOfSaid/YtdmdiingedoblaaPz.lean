/- The laws of steps. No condition. -/
import Derived.Test.YtdmdiingedoblaaPn
namespace Go.Proofs.Ytdmdiingedoblaa.Ev
open Go
set_option linter.unusedVariables false
set_option linter.unusedSimpArgs false
set_option maxHeartbeats 1000000
theorem FnExactStepsOf_r (g : Geo) (hg : g.Fit) (c : Cmd) (hc : c.Fit) : Rn 20 N.laws_FnExactStepsOf [.v g.e, .v c.e] ⟨[.b true], []⟩ := by
  refine Rn.of fun k hk => ?_
  rw [laws_FnExactStepsOf_e]; unfold laws_FnExactStepsOf_u
  rw [szCmd_r c hc _ (by omega) (by omega) k (by omega), bindO_some]
  simp only [Outs.t_mk, List.getD_cons_zero, T.asI_i]
  by_cases hs : (1048576 : Int) < (c.w : Int)
  · rw [szA_neg hs]; rfl
  rw [szA_pos (by omega), decide_eq_false (by omega), cond_false]
  have hw : c.w ≤ 1048576 := by omega
  have hb : c.w ≤ Big := by unfold Big; omega
  rw [toGeo_r g k (by omega), toCmd_r c hw k (by omega)]
  simp only [bindO_some, Outs.t_mk, List.getD_cons_zero, List.getD_cons_succ, T.asI_i, T.asR_r]
  rw [stepsOf_s g c hb k (by omega), stepsOf_i g c hb k (by omega), eqCmd_r c hw k (by omega)]
  simp [bindO_some]
end Go.Proofs.Ytdmdiingedoblaa.Ev
