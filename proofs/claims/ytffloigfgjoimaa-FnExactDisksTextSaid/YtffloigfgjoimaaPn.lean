/- Spans and steps of commands; which block a command writes; what is sure of a log; what may be there. No condition. -/
import Derived.Test.YtffloigfgjoimaaPm
namespace Go.Proofs.Ytffloigfgjoimaa.Ev
open Go
set_option linter.unusedVariables false
set_option linter.unusedSimpArgs false
set_option maxHeartbeats 1000000

def spanOf (g : Geo) (c : Cmd) : Int × Int := bif cmdCode g c == 0 then (bif c.Op == 4 then (0, blocks g) else (c.Lba, c.Lba + runOf c)) else (0, 0)
theorem span_w {g : Geo} {c : Cmd} (h : cmdCode g c = 0) (h4 : c.Op ≠ 4) (hw : c.w ≤ Big) : IntKind.wrap .i64 (c.Lba + runOf c) = c.Lba + runOf c ∧ 0 ≤ c.Lba ∧ c.Lba + runOf c ≤ 32 ∧ 0 ≤ runOf c ∧ runOf c ≤ 6 := by
  obtain ⟨hg, hs, h5⟩ := cmdCode_good h
  have := blocks_b g
  have := runOf_b hs hw
  rcases h5 with h5 | h5
  · exact absurd h5 h4
  · exact ⟨wrap_id (by omega) (by omega), by omega, by omega, by omega, by omega⟩
theorem spanOf_i (g : Geo) (c : Cmd) (h : c.w ≤ Big) : Rn 6 N.impl_SpanOf [.v g.e, .v c.e] ⟨[.i (spanOf g c).1, .i (spanOf g c).2], []⟩ := by
  refine Rn.of fun k hk => ?_
  rw [impl_SpanOf_e]; unfold impl_SpanOf_u spanOf
  rw [cmdCode_i _ _ h k (by omega), blocks_i _ k (by omega), runOf_i _ k (by omega)]
  simp only [bindO_some, Outs.t_mk, List.getD_cons_zero, T.asB_b, T.asI_i, bne, bifN]
  cases h0 : cmdCode g c == 0
  · rfl
  cases h4 : c.Op == 4
  · obtain ⟨e, _⟩ := span_w (by simpa using h0) (by simpa using h4) h
    simp [e]
  · rfl
theorem spanOf_b (g : Geo) (c : Cmd) (h : c.w ≤ Big) : 0 ≤ (spanOf g c).1 ∧ (spanOf g c).1 ≤ 32 ∧ 0 ≤ (spanOf g c).2 ∧ (spanOf g c).2 ≤ 32 := by
  unfold spanOf
  cases h0 : cmdCode g c == 0
  · simp
  cases h4 : c.Op == 4
  · have := span_w (by simpa using h0) (by simpa using h4) h
    simp; omega
  · have := blocks_b g
    simp; omega
def clash (g : Geo) (a b : Cmd) : Bool := decide ((spanOf g a).1 < (spanOf g b).2) && decide ((spanOf g b).1 < (spanOf g a).2) && decide ((spanOf g a).1 < (spanOf g a).2) && decide ((spanOf g b).1 < (spanOf g b).2)
theorem spanOf_le (g : Geo) (c : Cmd) (h : c.w ≤ Big) : (spanOf g c).1 ≤ (spanOf g c).2 := by
  unfold spanOf
  cases h0 : cmdCode g c == 0
  · simp
  cases h4 : c.Op == 4
  · have := span_w (by simpa using h0) (by simpa using h4) h
    simp; omega
  · have := blocks_b g
    simp; omega

def stepsOf (g : Geo) (c : Cmd) : Int :=
  bif cmdCode g c == 0 then
    bif c.Op == 4 then g.S + 1 else bif c.Op == 3 then runOf c + stripeOf g (c.Lba + runOf c - 1) - stripeOf g c.Lba + 2 else runOf c + 1
  else 0
theorem runOf_fua {c : Cmd} (h : c.Op = 3) : runOf c = (c.Vals.length : Int) := by unfold runOf; simp [h]
theorem runOf_cmp {c : Cmd} (h : c.Op = 5) : runOf c = 1 := by unfold runOf; simp [h]
end Go.Proofs.Ytffloigfgjoimaa.Ev
