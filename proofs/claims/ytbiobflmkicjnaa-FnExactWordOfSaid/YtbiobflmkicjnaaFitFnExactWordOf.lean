/- What the arguments of FnExactWordOf are, each of its kind: whole numbers in their range, lengths that an int bears. No condition. -/
import Derived.Test.YtbiobflmkicjnaaPFnExactWordOfx0
import Derived.Test.YtbiobflmkicjnaaOpen
namespace Go.Proofs.Ytbiobflmkicjnaa.PFnExactWordOf
open Go.RowKit Go.ChangeShapes Go.WideShapes Go.Proofs.YtbiobflmkicjnaaW.PrintWords Go.Proofs.Ytbiobflmkicjnaa.PFnExactWordOf Go.Proofs.Ytbiobflmkicjnaa.Open
set_option linter.unusedVariables false
structure S31 where
  f0 : Int
  f1 : Int
  f2 : Int
  f3 : Int
  f4 : (List Int)
def z31 : S31 := ⟨(0 : Int), (0 : Int), (0 : Int), (0 : Int), []⟩
def k31 : Kd S31 := Kd.iso (Kd.pair (Kd.int .i64) (Kd.pair (Kd.int .i64) (Kd.pair (Kd.int .i64) (Kd.pair (Kd.int .i64) (Kd.slice 3 (Kd.int .i64)))))) (fun x : S31 => (x.f0, x.f1, x.f2, x.f3, x.f4))
theorem k31_open {w : World} {x : S31} {cs : List Value} (h : k31.K w x cs) : ∃ A4 c4, cs = [.int .i64 x.f0, .int .i64 x.f1, .int .i64 x.f2, .int .i64 x.f3, .slice A4 x.f4.length c4] ∧ x.f4.length ≤ c4 ∧ Kd.C (Kd.int .i64) w A4 x.f4.length x.f4 := by
  obtain ⟨_, _, rfl, rfl, ⟨_, _, rfl, rfl, ⟨_, _, rfl, rfl, ⟨_, _, rfl, rfl, ⟨A4, c4, rfl, l4, g4⟩⟩⟩⟩⟩ := h
  exact ⟨A4, c4, rfl, l4, g4⟩
structure S34 where
  f0 : Int
  f1 : Int
  f2 : Int
  f3 : Int
  f4 : (List Int)
def z34 : S34 := ⟨(0 : Int), (0 : Int), (0 : Int), (0 : Int), []⟩
def k34 : Kd S34 := Kd.iso (Kd.pair (Kd.int .i64) (Kd.pair (Kd.int .i64) (Kd.pair (Kd.int .i64) (Kd.pair (Kd.int .i64) (Kd.slice 3 (Kd.int .i64)))))) (fun x : S34 => (x.f0, x.f1, x.f2, x.f3, x.f4))
theorem k34_open {w : World} {x : S34} {cs : List Value} (h : k34.K w x cs) : ∃ A4 c4, cs = [.int .i64 x.f0, .int .i64 x.f1, .int .i64 x.f2, .int .i64 x.f3, .slice A4 x.f4.length c4] ∧ x.f4.length ≤ c4 ∧ Kd.C (Kd.int .i64) w A4 x.f4.length x.f4 := by
  obtain ⟨_, _, rfl, rfl, ⟨_, _, rfl, rfl, ⟨_, _, rfl, rfl, ⟨_, _, rfl, rfl, ⟨A4, c4, rfl, l4, g4⟩⟩⟩⟩⟩ := h
  exact ⟨A4, c4, rfl, l4, g4⟩
def Fit3 (x : Int) : Prop := (Lit.int .i64 x).wf = true
def Fit22 (x : (List Int)) : Prop := (x.length ≤ maxLen ∧ ∀ e_ ∈ x, Fit3 e_)
def Fit31 (x : S31) : Prop := (Lit.int .i64 x.f0).wf = true ∧ (Lit.int .i64 x.f1).wf = true ∧ (Lit.int .i64 x.f2).wf = true ∧ (Lit.int .i64 x.f3).wf = true ∧ (x.f4.length ≤ maxLen ∧ ∀ e_ ∈ x.f4, Fit3 e_)
theorem opens3 : Opens Try.prog (Kd.int .i64) 3 Fit3 := opens_int Try.underlying3 (by kernel_rfl)
theorem opens22 : Opens Try.prog (Kd.slice 3 (Kd.int .i64)) 22 Fit22 := opens_slice 3 Try.underlying22 (by kernel_rfl) opens3
set_option maxRecDepth 20000 in
theorem opens31 : Opens Try.prog k31 31 Fit31 := opens_struct Try.underlying31 rfl (by kernel_rfl) (opensF_cons 0 rfl opens3 (opensF_cons 1 rfl opens3 (opensF_cons 2 rfl opens3 (opensF_cons 3 rfl opens3 (opensF_one 4 rfl opens22))))) _ (fun y => ⟨y.1, y.2.1, y.2.2.1, y.2.2.2.1, y.2.2.2.2⟩) (fun _ => rfl)
end Go.Proofs.Ytbiobflmkicjnaa.PFnExactWordOf
