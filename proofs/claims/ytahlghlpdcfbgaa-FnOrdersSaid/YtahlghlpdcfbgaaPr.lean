/- The laws of engines that are right, of what can begin and what a job needs. No condition. -/
import Derived.Test.YtahlghlpdcfbgaaPq
namespace Go.Proofs.Ytahlghlpdcfbgaa.Ev
open Go
set_option linter.unusedVariables false
set_option linter.unusedSimpArgs false
set_option maxHeartbeats 1000000

theorem Eng.seq {x : Eng} (h : x.Fit) : inI x.A.Seq ∧ inI x.A.Tail := by
  unfold Eng.Fit Arr.Fit at h
  exact ⟨h.1.2.2.2.2.2.1, h.1.2.2.2.2.2.2.1⟩
/-! Who is the first that can begin. No condition. -/
def firstAt (x : Eng) : Nat → Nat → Int
  | 0, _ => -1
  | d + 1, i => bif canBegin x (i : Int) then (i : Int) else firstAt x d (i + 1)
def firstReady (x : Eng) : Int := firstAt x x.Wait.length 0
theorem firstReady_i (x : Eng) (h : x.w ≤ Big) (hf : inI x.A.Seq ∧ inI x.A.Tail) : Rn 11 N.impl_FirstReady [.v x.e] ⟨[.i (firstReady x)], []⟩ := by
  refine Rn.of fun k hk => ?_
  rw [impl_FirstReady_e]; unfold impl_FirstReady_u impl_FirstReady_U firstReady
  obtain ⟨l1, l2, l3, l4, hA⟩ := eng_len x h
  show fixN _ k ((0 : Nat) : Int) = (some ⟨[.i (firstAt x (x.Wait.length - 0) 0)], []⟩ : Option Outs)
  refine fixN_up (R := Outs) x.Wait.length (fun i => (i : Int)) (fun i => (some ⟨[.i (firstAt x (x.Wait.length - i) i)], []⟩ : Option Outs)) (fun i hi G hG => ?_) (fun G => ?_) (show x.Wait.length < k by unfold Big at hk; omega)
  · unfold impl_FirstReady_l1 impl_FirstReady_L1
    simp only [List.length_map, dlt hi, cond_true]
    rw [canBegin_i x h hf _ k (by omega), bindO_some, wrap_up (by omega), hG, show x.Wait.length - i = (x.Wait.length - (i + 1)) + 1 by omega]
    simp only [Outs.t_mk, List.getD_cons_zero, T.asB_b, firstAt]
    cases canBegin x (i : Int) <;> rfl
  · unfold impl_FirstReady_l1 impl_FirstReady_L1
    simp only [List.length_map, dll, cond_false, Nat.sub_self]; rfl
end Go.Proofs.Ytahlghlpdcfbgaa.Ev
