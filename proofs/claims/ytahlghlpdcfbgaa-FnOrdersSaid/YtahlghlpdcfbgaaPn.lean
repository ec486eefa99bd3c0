/- Spans and steps of commands; which block a command writes; what is sure of a log; what may be there. No condition. -/
import Derived.Test.YtahlghlpdcfbgaaPm
namespace Go.Proofs.Ytahlghlpdcfbgaa.Ev
open Go
set_option linter.unusedVariables false
set_option linter.unusedSimpArgs false
set_option maxHeartbeats 1000000

def spanOf (g : Geo) (c : Cmd) : Int × Int := bif cmdCode g c == 0 then (bif c.Op == 4 then (0, blocks g) else (c.Lba, c.Lba + runOf c)) else (0, 0)
theorem span_w {g : Geo} {c : Cmd} (h : cmdCode g c = 0) (h4 : c.Op ≠ 4) (hw : c.w ≤ Big) : IntKind.wrap .i64 (c.Lba + runOf c) = c.Lba + runOf c ∧ 0 ≤ c.Lba ∧ c.Lba + runOf c ≤ 32 ∧ 0 ≤ runOf c ∧ runOf c ≤ 6 := by
  obtain ⟨hg, hs, h5⟩ := cmdCode_good h
  have := blocks_b g
  have := runOf_b hs hw
  rcases h5 with h5 | h5
  · exact absurd h5 h4
  · exact ⟨wrap_id (by omega) (by omega), by omega, by omega, by omega, by omega⟩
theorem spanOf_i (g : Geo) (c : Cmd) (h : c.w ≤ Big) : Rn 6 N.impl_SpanOf [.v g.e, .v c.e] ⟨[.i (spanOf g c).1, .i (spanOf g c).2], []⟩ := by
  refine Rn.of fun k hk => ?_
  rw [impl_SpanOf_e]; unfold impl_SpanOf_u spanOf
  rw [cmdCode_i _ _ h k (by omega), blocks_i _ k (by omega), runOf_i _ k (by omega)]
  simp only [bindO_some, Outs.t_mk, List.getD_cons_zero, T.asB_b, T.asI_i, bne, bifN]
  cases h0 : cmdCode g c == 0
  · rfl
  cases h4 : c.Op == 4
  · obtain ⟨e, _⟩ := span_w (by simpa using h0) (by simpa using h4) h
    simp [e]
  · rfl
theorem spanOf_b (g : Geo) (c : Cmd) (h : c.w ≤ Big) : 0 ≤ (spanOf g c).1 ∧ (spanOf g c).1 ≤ 32 ∧ 0 ≤ (spanOf g c).2 ∧ (spanOf g c).2 ≤ 32 := by
  unfold spanOf
  cases h0 : cmdCode g c == 0
  · simp
  cases h4 : c.Op == 4
  · have := span_w (by simpa using h0) (by simpa using h4) h
    simp; omega
  · have := blocks_b g
    simp; omega
def clash (g : Geo) (a b : Cmd) : Bool := decide ((spanOf g a).1 < (spanOf g b).2) && decide ((spanOf g b).1 < (spanOf g a).2) && decide ((spanOf g a).1 < (spanOf g a).2) && decide ((spanOf g b).1 < (spanOf g b).2)
theorem spanOf_le (g : Geo) (c : Cmd) (h : c.w ≤ Big) : (spanOf g c).1 ≤ (spanOf g c).2 := by
  unfold spanOf
  cases h0 : cmdCode g c == 0
  · simp
  cases h4 : c.Op == 4
  · have := span_w (by simpa using h0) (by simpa using h4) h
    simp; omega
  · have := blocks_b g
    simp; omega

def stepsOf (g : Geo) (c : Cmd) : Int :=
  bif cmdCode g c == 0 then
    bif c.Op == 4 then g.S + 1 else bif c.Op == 3 then runOf c + stripeOf g (c.Lba + runOf c - 1) - stripeOf g c.Lba + 2 else runOf c + 1
  else 0
theorem runOf_fua {c : Cmd} (h : c.Op = 3) : runOf c = (c.Vals.length : Int) := by unfold runOf; simp [h]
theorem runOf_cmp {c : Cmd} (h : c.Op = 5) : runOf c = 1 := by unfold runOf; simp [h]
theorem stripesOf_i (g : Geo) (c : Cmd) (h : c.w ≤ Big) : Rn 7 N.impl_stripesOf [.v g.e, .v c.e] ⟨[.i (stripeOf g (spanOf g c).1), .i (stripeOf g ((spanOf g c).2 - 1))], []⟩ := by
  refine Rn.of fun k hk => ?_
  rw [impl_stripesOf_e]; unfold impl_stripesOf_u
  have := spanOf_b g c h
  rw [spanOf_i _ _ h k (by omega), bindO_some]
  simp only [Outs.t_mk, List.getD_cons_zero, List.getD_cons_succ, T.asI_i]
  rw [wrap_id (n := (spanOf g c).2 - 1) (by omega) (by omega), stripeOf_i _ _ k (by omega), stripeOf_i _ _ k (by omega)]; rfl
theorem stepsOf_i (g : Geo) (c : Cmd) (h : c.w ≤ Big) : Rn 8 N.impl_StepsOf [.v g.e, .v c.e] ⟨[.i (stepsOf g c)], []⟩ := by
  refine Rn.of fun k hk => ?_
  rw [impl_StepsOf_e]; unfold impl_StepsOf_u stepsOf
  rw [cmdCode_i _ _ h k (by omega), stripesOf_i _ _ h k (by omega), runOf_i _ k (by omega)]
  simp only [bindO_some, Outs.t_mk, List.getD_cons_zero, List.getD_cons_succ, T.asB_b, T.asI_i, bne, bifN, List.length_map]
  cases h0 : cmdCode g c == 0
  · rfl
  have h0' : cmdCode g c = 0 := by simpa using h0
  obtain ⟨hg, hs, _⟩ := cmdCode_good h0'
  obtain ⟨_, _, _, _⟩ := geoOk_t hg
  have := runOf_b hs h
  cases h4 : c.Op == 4
  · obtain ⟨e, _, _, _, _⟩ := span_w h0' (by simpa using h4) h
    cases h3 : c.Op == 3
    · simp [wrap_id (n := runOf c + 1) (by omega) (by omega)]
    · have es : spanOf g c = (c.Lba, c.Lba + runOf c) := by unfold spanOf; rw [h0, h4]; rfl
      rw [es]
      have := stripeOf_b g (c.Lba + runOf c - 1)
      have := stripeOf_b g c.Lba
      simp only [cond_true, cond_false]
      rw [wrap_id (n := runOf c + stripeOf g (c.Lba + runOf c - 1)) (by omega) (by omega), wrap_id (n := runOf c + stripeOf g (c.Lba + runOf c - 1) - stripeOf g c.Lba) (by omega) (by omega), wrap_id (by omega) (by omega)]
  · have h3 : (c.Op == 3) = false := by
      have : c.Op = 4 := by simpa using h4
      simp [this]
    simp [h3, wrap_id (n := g.S + 1) (by omega) (by omega)]
end Go.Proofs.Ytahlghlpdcfbgaa.Ev
