/- The laws of engines that are right, of what can begin and what a job needs. No condition. -/
import Derived.Test.YtdmdiingedoblaaPq
namespace Go.Proofs.Ytdmdiingedoblaa.Ev
open Go
set_option linter.unusedVariables false
set_option linter.unusedSimpArgs false
set_option maxHeartbeats 1000000
theorem Eng.seq {x : Eng} (h : x.Fit) : inI x.A.Seq ∧ inI x.A.Tail := by
  unfold Eng.Fit Arr.Fit at h
  exact ⟨h.1.2.2.2.2.2.1, h.1.2.2.2.2.2.2.1⟩
theorem FnExactApart_r (x : Eng) (hx : x.Fit) : Rn 20 N.laws_FnExactApart [.v x.e] ⟨[.b true], []⟩ := by
  refine Rn.of fun k hk => ?_
  rw [laws_FnExactApart_e]; unfold laws_FnExactApart_u
  rw [szEng_r x hx _ (by omega) (by omega) k (by omega), bindO_some]
  simp only [Outs.t_mk, List.getD_cons_zero, T.asI_i]
  by_cases hs : (1048576 : Int) < (x.w : Int)
  · rw [szA_neg hs]; rfl
  rw [szA_pos (by omega), decide_eq_false (by omega), cond_false]
  have hw : x.w ≤ 1048576 := by omega
  have hb : x.w ≤ Big := by unfold Big; omega
  rw [toEng_r x hw k (by omega)]
  simp only [bindO_some, Outs.t_mk, List.getD_cons_zero, List.getD_cons_succ, T.asI_i, T.asR_r, T.asB_b]
  rw [apart_s x hb k (by omega), apart_i x hb k (by omega), eqEng_r x hw k (by omega)]
  simp [bindO_some]
theorem FnExactNeedOf_r (x : Eng) (hx : x.Fit) (q : Int) (hq : inI q) : Rn 20 N.laws_FnExactNeedOf [.v x.e, .v [.i q]] ⟨[.b true], []⟩ := by
  refine Rn.of fun k hk => ?_
  rw [laws_FnExactNeedOf_e]; unfold laws_FnExactNeedOf_u
  rw [szEng_r x hx _ (by omega) (by omega) k (by omega), bindO_some]
  simp only [Outs.t_mk, List.getD_cons_zero, T.asI_i]
  by_cases hs : (1048576 : Int) < (x.w : Int)
  · rw [szA_neg hs]; rfl
  rw [szA_pos (by omega), decide_eq_false (by omega), cond_false]
  have hw : x.w ≤ 1048576 := by omega
  have hb : x.w ≤ Big := by unfold Big; omega
  rw [toEng_r x hw k (by omega)]
  simp only [bindO_some, Outs.t_mk, List.getD_cons_zero, List.getD_cons_succ, T.asI_i, T.asR_r, T.asB_b]
  rw [needOf_s x hb q k (by omega), needOf_i x hb q k (by omega), eqEng_r x hw k (by omega)]
  simp [bindO_some]
theorem FnExactNeedAll_r (x : Eng) (hx : x.Fit) : Rn 20 N.laws_FnExactNeedAll [.v x.e] ⟨[.b true], []⟩ := by
  refine Rn.of fun k hk => ?_
  rw [laws_FnExactNeedAll_e]; unfold laws_FnExactNeedAll_u
  rw [szEng_r x hx _ (by omega) (by omega) k (by omega), bindO_some]
  simp only [Outs.t_mk, List.getD_cons_zero, T.asI_i]
  by_cases hs : (1048576 : Int) < (x.w : Int)
  · rw [szA_neg hs]; rfl
  rw [szA_pos (by omega), decide_eq_false (by omega), cond_false]
  have hw : x.w ≤ 1048576 := by omega
  have hb : x.w ≤ Big := by unfold Big; omega
  rw [toEng_r x hw k (by omega)]
  simp only [bindO_some, Outs.t_mk, List.getD_cons_zero, List.getD_cons_succ, T.asI_i, T.asR_r, T.asB_b]
  rw [needAll_s x hb k (by omega), needAll_i x hb k (by omega), eqEng_r x hw k (by omega)]
  simp [bindO_some]
theorem FnExactEngOk_r (x : Eng) (hx : x.Fit) : Rn 20 N.laws_FnExactEngOk [.v x.e] ⟨[.b true], []⟩ := by
  refine Rn.of fun k hk => ?_
  rw [laws_FnExactEngOk_e]; unfold laws_FnExactEngOk_u
  rw [szEng_r x hx _ (by omega) (by omega) k (by omega), bindO_some]
  simp only [Outs.t_mk, List.getD_cons_zero, T.asI_i]
  by_cases hs : (1048576 : Int) < (x.w : Int)
  · rw [szA_neg hs]; rfl
  rw [szA_pos (by omega), decide_eq_false (by omega), cond_false]
  have hw : x.w ≤ 1048576 := by omega
  have hb : x.w ≤ Big := by unfold Big; omega
  rw [toEng_r x hw k (by omega)]
  simp only [bindO_some, Outs.t_mk, List.getD_cons_zero, List.getD_cons_succ, T.asI_i, T.asR_r, T.asB_b]
  rw [engOk_s x hb (Eng.seq hx) k (by omega), engOk_i x hb (Eng.seq hx) k (by omega), eqEng_r x hw k (by omega)]
  simp [bindO_some]
theorem FnExactOnline_r (x : Eng) (hx : x.Fit) : Rn 20 N.laws_FnExactOnline [.v x.e] ⟨[.b true], []⟩ := by
  refine Rn.of fun k hk => ?_
  rw [laws_FnExactOnline_e]; unfold laws_FnExactOnline_u
  rw [szEng_r x hx _ (by omega) (by omega) k (by omega), bindO_some]
  simp only [Outs.t_mk, List.getD_cons_zero, T.asI_i]
  by_cases hs : (1048576 : Int) < (x.w : Int)
  · rw [szA_neg hs]; rfl
  rw [szA_pos (by omega), decide_eq_false (by omega), cond_false]
  have hw : x.w ≤ 1048576 := by omega
  have hb : x.w ≤ Big := by unfold Big; omega
  rw [toEng_r x hw k (by omega)]
  simp only [bindO_some, Outs.t_mk, List.getD_cons_zero, List.getD_cons_succ, T.asI_i, T.asR_r, T.asB_b]
  rw [online_s x hb (Eng.seq hx) k (by omega), online_i x hb (Eng.seq hx) k (by omega), eqEng_r x hw k (by omega)]
  simp [bindO_some]
theorem FnExactCanBegin_r (x : Eng) (hx : x.Fit) (q : Int) (hq : inI q) : Rn 20 N.laws_FnExactCanBegin [.v x.e, .v [.i q]] ⟨[.b true], []⟩ := by
  refine Rn.of fun k hk => ?_
  rw [laws_FnExactCanBegin_e]; unfold laws_FnExactCanBegin_u
  rw [szEng_r x hx _ (by omega) (by omega) k (by omega), bindO_some]
  simp only [Outs.t_mk, List.getD_cons_zero, T.asI_i]
  by_cases hs : (1048576 : Int) < (x.w : Int)
  · rw [szA_neg hs]; rfl
  rw [szA_pos (by omega), decide_eq_false (by omega), cond_false]
  have hw : x.w ≤ 1048576 := by omega
  have hb : x.w ≤ Big := by unfold Big; omega
  rw [toEng_r x hw k (by omega)]
  simp only [bindO_some, Outs.t_mk, List.getD_cons_zero, List.getD_cons_succ, T.asI_i, T.asR_r, T.asB_b]
  rw [canBegin_s x hb (Eng.seq hx) q k (by omega), canBegin_i x hb (Eng.seq hx) q k (by omega), eqEng_r x hw k (by omega)]
  simp [bindO_some]
end Go.Proofs.Ytdmdiingedoblaa.Ev
