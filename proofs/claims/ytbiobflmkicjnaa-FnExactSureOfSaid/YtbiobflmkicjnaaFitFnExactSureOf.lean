/- What the arguments of FnExactSureOf are, each of its kind: whole numbers in their range, lengths that an int bears. No condition. -/
import Derived.Test.YtbiobflmkicjnaaPFnExactSureOfx0
import Derived.Test.YtbiobflmkicjnaaOpen
namespace Go.Proofs.Ytbiobflmkicjnaa.PFnExactSureOf
open Go.RowKit Go.ChangeShapes Go.WideShapes Go.Proofs.YtbiobflmkicjnaaW.PrintWords Go.Proofs.Ytbiobflmkicjnaa.PFnExactSureOf Go.Proofs.Ytbiobflmkicjnaa.Open
set_option linter.unusedVariables false
def Fit3 (x : Int) : Prop := (Lit.int .i64 x).wf = true
def Fit22 (x : (List Int)) : Prop := (x.length ≤ maxLen ∧ ∀ e_ ∈ x, Fit3 e_)
def Fit31 (x : S31) : Prop := (Lit.int .i64 x.f0).wf = true ∧ (Lit.int .i64 x.f1).wf = true ∧ (Lit.int .i64 x.f2).wf = true ∧ (Lit.int .i64 x.f3).wf = true ∧ (x.f4.length ≤ maxLen ∧ ∀ e_ ∈ x.f4, Fit3 e_)
def Fit24 (x : S24) : Prop := (Lit.int .i64 x.f0).wf = true ∧ (Lit.int .i64 x.f1).wf = true ∧ (x.f2.length ≤ maxLen ∧ ∀ e_ ∈ x.f2, Fit3 e_)
def Fit64 (x : S64) : Prop := Fit31 x.f0 ∧ Fit24 x.f1
def Fit39 (x : (List S64)) : Prop := (x.length ≤ maxLen ∧ ∀ e_ ∈ x, Fit64 e_)
theorem opens3 : Opens Try.prog (Kd.int .i64) 3 Fit3 := opens_int Try.underlying3 (by kernel_rfl)
theorem opens22 : Opens Try.prog (Kd.slice 3 (Kd.int .i64)) 22 Fit22 := opens_slice 3 Try.underlying22 (by kernel_rfl) opens3
set_option maxRecDepth 20000 in
theorem opens31 : Opens Try.prog k31 31 Fit31 := opens_struct Try.underlying31 rfl (by kernel_rfl) (opensF_cons 0 rfl opens3 (opensF_cons 1 rfl opens3 (opensF_cons 2 rfl opens3 (opensF_cons 3 rfl opens3 (opensF_one 4 rfl opens22))))) _ (fun y => ⟨y.1, y.2.1, y.2.2.1, y.2.2.2.1, y.2.2.2.2⟩) (fun _ => rfl)
set_option maxRecDepth 20000 in
theorem opens24 : Opens Try.prog k24 24 Fit24 := opens_struct Try.underlying24 rfl (by kernel_rfl) (opensF_cons 0 rfl opens3 (opensF_cons 1 rfl opens3 (opensF_one 2 rfl opens22))) _ (fun y => ⟨y.1, y.2.1, y.2.2⟩) (fun _ => rfl)
set_option maxRecDepth 20000 in
theorem opens64 : Opens Try.prog k64 64 Fit64 := opens_struct Try.underlying64 rfl (by kernel_rfl) (opensF_cons 0 rfl opens31 (opensF_one 5 rfl opens24)) _ (fun y => ⟨y.1, y.2⟩) (fun _ => rfl)
theorem opens39 : Opens Try.prog (Kd.slice 64 k64) 39 Fit39 := opens_slice 64 Try.underlying39 (by kernel_rfl) opens64
end Go.Proofs.Ytbiobflmkicjnaa.PFnExactSureOf
