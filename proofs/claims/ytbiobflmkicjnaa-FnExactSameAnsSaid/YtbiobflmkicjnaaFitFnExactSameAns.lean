/- What the arguments of FnExactSameAns are, each of its kind: whole numbers in their range, lengths that an int bears. No condition. -/
import Derived.Test.YtbiobflmkicjnaaPFnExactSameAnsx0
import Derived.Test.YtbiobflmkicjnaaOpen
namespace Go.Proofs.Ytbiobflmkicjnaa.PFnExactSameAns
open Go.RowKit Go.ChangeShapes Go.WideShapes Go.Proofs.YtbiobflmkicjnaaW.PrintWords Go.Proofs.Ytbiobflmkicjnaa.PFnExactSameAns Go.Proofs.Ytbiobflmkicjnaa.Open
set_option linter.unusedVariables false
structure S24 where
  f0 : Int
  f1 : Int
  f2 : (List Int)
def z24 : S24 := ⟨(0 : Int), (0 : Int), []⟩
def k24 : Kd S24 := Kd.iso (Kd.pair (Kd.int .i64) (Kd.pair (Kd.int .i64) (Kd.slice 3 (Kd.int .i64)))) (fun x : S24 => (x.f0, x.f1, x.f2))
theorem k24_open {w : World} {x : S24} {cs : List Value} (h : k24.K w x cs) : ∃ A2 c2, cs = [.int .i64 x.f0, .int .i64 x.f1, .slice A2 x.f2.length c2] ∧ x.f2.length ≤ c2 ∧ Kd.C (Kd.int .i64) w A2 x.f2.length x.f2 := by
  obtain ⟨_, _, rfl, rfl, ⟨_, _, rfl, rfl, ⟨A2, c2, rfl, l2, g2⟩⟩⟩ := h
  exact ⟨A2, c2, rfl, l2, g2⟩
structure S27 where
  f0 : Int
  f1 : Int
  f2 : (List Int)
def z27 : S27 := ⟨(0 : Int), (0 : Int), []⟩
def k27 : Kd S27 := Kd.iso (Kd.pair (Kd.int .i64) (Kd.pair (Kd.int .i64) (Kd.slice 3 (Kd.int .i64)))) (fun x : S27 => (x.f0, x.f1, x.f2))
theorem k27_open {w : World} {x : S27} {cs : List Value} (h : k27.K w x cs) : ∃ A2 c2, cs = [.int .i64 x.f0, .int .i64 x.f1, .slice A2 x.f2.length c2] ∧ x.f2.length ≤ c2 ∧ Kd.C (Kd.int .i64) w A2 x.f2.length x.f2 := by
  obtain ⟨_, _, rfl, rfl, ⟨_, _, rfl, rfl, ⟨A2, c2, rfl, l2, g2⟩⟩⟩ := h
  exact ⟨A2, c2, rfl, l2, g2⟩
def Fit3 (x : Int) : Prop := (Lit.int .i64 x).wf = true
def Fit22 (x : (List Int)) : Prop := (x.length ≤ maxLen ∧ ∀ e_ ∈ x, Fit3 e_)
def Fit24 (x : S24) : Prop := (Lit.int .i64 x.f0).wf = true ∧ (Lit.int .i64 x.f1).wf = true ∧ (x.f2.length ≤ maxLen ∧ ∀ e_ ∈ x.f2, Fit3 e_)
theorem opens3 : Opens Try.prog (Kd.int .i64) 3 Fit3 := opens_int Try.underlying3 (by kernel_rfl)
theorem opens22 : Opens Try.prog (Kd.slice 3 (Kd.int .i64)) 22 Fit22 := opens_slice 3 Try.underlying22 (by kernel_rfl) opens3
set_option maxRecDepth 20000 in
theorem opens24 : Opens Try.prog k24 24 Fit24 := opens_struct Try.underlying24 rfl (by kernel_rfl) (opensF_cons 0 rfl opens3 (opensF_cons 1 rfl opens3 (opensF_one 2 rfl opens22))) _ (fun y => ⟨y.1, y.2.1, y.2.2⟩) (fun _ => rfl)
end Go.Proofs.Ytbiobflmkicjnaa.PFnExactSameAns
