/-
  No cell of these rows narrows 'for every input' (looked for: loops, veiled, ifaces, maps, wideKeys, modest, calm, conditions, laid).
  DERIVED. THE GIVEN ROWS OF THIS SEAT. 6 by the template 'for every input the law returns true; each argument reads behind the call as it read before'; 0 by the template 'total and deterministic' (their statements: YtbiobflmkicjnaaTotals.lean).
  GIVEN WITH THE SEED: the statements are not yours to turn. If you find one false, say at which input.
  Laid BY PROGRAM, IN A SANDBOX (cutbox-rows.mjs): the forced cells as the released guide's own fill.sh prints them over the translation 0cc3835a19f14a0f… (all of the seat's roots in one cut). By AI agents, Wed Nov 11 2026. No macro, syntax, notation, axiom, sorry.
-/
import Derived.Test.YtbiobflmkicjnaaChecked
import GoSem.Claim
import GoSem.ClaimJoined
import GoSem.ClaimMapViews
import Derived.JoinedTies
import Derived.KernelRfl
namespace Go.Proofs.Ytbiobflmkicjnaa
/- THE CELL 'sum', in the pinned program and in every row, IS THE sha256 OF THE DUMP (.gsa) THAT YtbiobflmkicjnaaProg.lean LOADS. Nothing in Lean hashes anything: it is a label: what it is worth is what the hold of that sum in a sandbox is worth. -/
noncomputable def Try.pinned : Pinned := { name := "ytbiobflmkicjnaa", sum := "0cc3835a19f14a0f9ebcc5c1eba565bdc04bacfd4e875cc2ac95443bbb17f2d3", checked := Try.checked }
namespace Rows
def none {H : Type} : Left H := { results := [], args := [] }

/-- 'laws.FnExactSameAns': WHATEVER THE INPUT: true; the input reads as it did. -/
def fnExactSameAnsSpec : ChangeSpec := { name := "fnExactSameAns", fn := fun _ => fun
  | [d1, d2] => { results := [.lit (.bool true)], args := [d1, d2] }
  | _ => none }
def fnExactSameAnsRow : OpenClaim := { program := "ytbiobflmkicjnaa", sum := "0cc3835a19f14a0f9ebcc5c1eba565bdc04bacfd4e875cc2ac95443bbb17f2d3", func := "loop.example/g00398/laws.FnExactSameAns", spec := "fnExactSameAns", apart := false }
def FnExactSameAnsSaid : Prop := fnExactSameAnsRow.holds Try.pinned (OpenSpec.ofChange fnExactSameAnsSpec)

/-- ITS FALSE NEIGHBOUR: 'it returns false'. Refute it at one input. -/
def fnExactSameAnsWrong : ChangeSpec := { name := "fnExactSameAns", fn := fun _ => fun
  | [d1, d2] => { results := [.lit (.bool false)], args := [d1, d2] }
  | _ => none }
def FnExactSameAnsWrongFalsely : Prop := fnExactSameAnsRow.holds Try.pinned (OpenSpec.ofChange fnExactSameAnsWrong)

/-- 'laws.FnExactWrites': WHATEVER THE INPUT: true; the input reads as it did. -/
def fnExactWritesSpec : ChangeSpec := { name := "fnExactWrites", fn := fun _ => fun
  | [d1, d2] => { results := [.lit (.bool true)], args := [d1, d2] }
  | _ => none }
def fnExactWritesRow : OpenClaim := { program := "ytbiobflmkicjnaa", sum := "0cc3835a19f14a0f9ebcc5c1eba565bdc04bacfd4e875cc2ac95443bbb17f2d3", func := "loop.example/g00398/laws.FnExactWrites", spec := "fnExactWrites", apart := false }
def FnExactWritesSaid : Prop := fnExactWritesRow.holds Try.pinned (OpenSpec.ofChange fnExactWritesSpec)

/-- ITS FALSE NEIGHBOUR: 'it returns false'. Refute it at one input. -/
def fnExactWritesWrong : ChangeSpec := { name := "fnExactWrites", fn := fun _ => fun
  | [d1, d2] => { results := [.lit (.bool false)], args := [d1, d2] }
  | _ => none }
def FnExactWritesWrongFalsely : Prop := fnExactWritesRow.holds Try.pinned (OpenSpec.ofChange fnExactWritesWrong)

/-- 'laws.FnExactWordOf': WHATEVER THE INPUT: true; the input reads as it did. -/
def fnExactWordOfSpec : ChangeSpec := { name := "fnExactWordOf", fn := fun _ => fun
  | [d1, d2] => { results := [.lit (.bool true)], args := [d1, d2] }
  | _ => none }
def fnExactWordOfRow : OpenClaim := { program := "ytbiobflmkicjnaa", sum := "0cc3835a19f14a0f9ebcc5c1eba565bdc04bacfd4e875cc2ac95443bbb17f2d3", func := "loop.example/g00398/laws.FnExactWordOf", spec := "fnExactWordOf", apart := false }
def FnExactWordOfSaid : Prop := fnExactWordOfRow.holds Try.pinned (OpenSpec.ofChange fnExactWordOfSpec)

/-- ITS FALSE NEIGHBOUR: 'it returns false'. Refute it at one input. -/
def fnExactWordOfWrong : ChangeSpec := { name := "fnExactWordOf", fn := fun _ => fun
  | [d1, d2] => { results := [.lit (.bool false)], args := [d1, d2] }
  | _ => none }
def FnExactWordOfWrongFalsely : Prop := fnExactWordOfRow.holds Try.pinned (OpenSpec.ofChange fnExactWordOfWrong)

/-- 'laws.FnExactSureOf': WHATEVER THE INPUT: true; the input reads as it did. -/
def fnExactSureOfSpec : ChangeSpec := { name := "fnExactSureOf", fn := fun _ => fun
  | [d1, d2] => { results := [.lit (.bool true)], args := [d1, d2] }
  | _ => none }
def fnExactSureOfRow : OpenClaim := { program := "ytbiobflmkicjnaa", sum := "0cc3835a19f14a0f9ebcc5c1eba565bdc04bacfd4e875cc2ac95443bbb17f2d3", func := "loop.example/g00398/laws.FnExactSureOf", spec := "fnExactSureOf", apart := false }
def FnExactSureOfSaid : Prop := fnExactSureOfRow.holds Try.pinned (OpenSpec.ofChange fnExactSureOfSpec)

/-- ITS FALSE NEIGHBOUR: 'it returns false'. Refute it at one input. -/
def fnExactSureOfWrong : ChangeSpec := { name := "fnExactSureOf", fn := fun _ => fun
  | [d1, d2] => { results := [.lit (.bool false)], args := [d1, d2] }
  | _ => none }
def FnExactSureOfWrongFalsely : Prop := fnExactSureOfRow.holds Try.pinned (OpenSpec.ofChange fnExactSureOfWrong)

/-- 'laws.FnExactStepsOf': WHATEVER THE INPUT: true; the input reads as it did. -/
def fnExactStepsOfSpec : ChangeSpec := { name := "fnExactStepsOf", fn := fun _ => fun
  | [d1, d2] => { results := [.lit (.bool true)], args := [d1, d2] }
  | _ => none }
def fnExactStepsOfRow : OpenClaim := { program := "ytbiobflmkicjnaa", sum := "0cc3835a19f14a0f9ebcc5c1eba565bdc04bacfd4e875cc2ac95443bbb17f2d3", func := "loop.example/g00398/laws.FnExactStepsOf", spec := "fnExactStepsOf", apart := false }
def FnExactStepsOfSaid : Prop := fnExactStepsOfRow.holds Try.pinned (OpenSpec.ofChange fnExactStepsOfSpec)

/-- ITS FALSE NEIGHBOUR: 'it returns false'. Refute it at one input. -/
def fnExactStepsOfWrong : ChangeSpec := { name := "fnExactStepsOf", fn := fun _ => fun
  | [d1, d2] => { results := [.lit (.bool false)], args := [d1, d2] }
  | _ => none }
def FnExactStepsOfWrongFalsely : Prop := fnExactStepsOfRow.holds Try.pinned (OpenSpec.ofChange fnExactStepsOfWrong)

/-- 'laws.FnExactAnsOf': WHATEVER THE INPUT: true; the input reads as it did. -/
def fnExactAnsOfSpec : ChangeSpec := { name := "fnExactAnsOf", fn := fun _ => fun
  | [d] => { results := [.lit (.bool true)], args := [d] }
  | _ => none }
def fnExactAnsOfRow : OpenClaim := { program := "ytbiobflmkicjnaa", sum := "0cc3835a19f14a0f9ebcc5c1eba565bdc04bacfd4e875cc2ac95443bbb17f2d3", func := "loop.example/g00398/laws.FnExactAnsOf", spec := "fnExactAnsOf", apart := false }
def FnExactAnsOfSaid : Prop := fnExactAnsOfRow.holds Try.pinned (OpenSpec.ofChange fnExactAnsOfSpec)

/-- ITS FALSE NEIGHBOUR: 'it returns false'. Refute it at one input. -/
def fnExactAnsOfWrong : ChangeSpec := { name := "fnExactAnsOf", fn := fun _ => fun
  | [d] => { results := [.lit (.bool false)], args := [d] }
  | _ => none }
def FnExactAnsOfWrongFalsely : Prop := fnExactAnsOfRow.holds Try.pinned (OpenSpec.ofChange fnExactAnsOfWrong)

/- THE SECOND FORM. 'bulk': how many values and letters a reading holds, each counted each time it is reached (what is shared counts as often as it is met; a slice's spare places count too). A statement '..UptoSaid' is the law's where the arguments, and the package variables that the reading takes, are together of bulk at most 1048576: NARROWER than '..Said'. Prove '..Said' where nothing that the law and all that it calls make is longer than what came in: it says more and counts as full. Else prove '..UptoSaid'. A law counts once. -/
mutual
def uptoBulk {H : Type} : DataW H → Nat
  | .lit (.string bytes) => bytes.length + 1
  | .lit _ => 1
  | .nil => 1
  | .ptr d => uptoBulk d + 1
  | .slice elems spare => uptoBulkAll elems + uptoBulkAll spare + 1
  | .agg parts => uptoBulkAll parts + 1
  | .iface _ d => uptoBulk d + 1
  | .map entries => uptoBulkEntries entries + 1
  | .held _ => 1
def uptoBulkAll {H : Type} : List (DataW H) → Nat
  | [] => 0
  | d :: r => uptoBulk d + uptoBulkAll r
def uptoBulkEntries {H : Type} : List (Lit × DataW H) → Nat
  | [] => 0
  | x :: r => uptoBulkEntry x + uptoBulkEntries r
def uptoBulkEntry {H : Type} : Lit × DataW H → Nat
  | (.string bytes, d) => bytes.length + uptoBulk d + 1
  | (_, d) => uptoBulk d + 1
 end
def uptoSmall : (H : Type) → List (DataW H) → Bool := fun _ ds => decide (uptoBulkAll ds ≤ 1048576)
def OpenSpec.upto (s : _root_.Go.ChangeSpec) : _root_.Go.OpenSpec := { _root_.Go.OpenSpec.ofChange s with cond := some uptoSmall }

/-- 'laws.FnExactSameAns', WHERE WHAT IT READS IS OF BULK AT MOST 1048576: true; the input reads as it did. -/
def fnExactSameAnsUptoRow : OpenClaim := { program := "ytbiobflmkicjnaa", sum := "0cc3835a19f14a0f9ebcc5c1eba565bdc04bacfd4e875cc2ac95443bbb17f2d3", func := "loop.example/g00398/laws.FnExactSameAns", spec := "fnExactSameAns", apart := false, narrowed := true }
def FnExactSameAnsUptoSaid : Prop := fnExactSameAnsUptoRow.holds Try.pinned (OpenSpec.upto fnExactSameAnsSpec)

/-- 'laws.FnExactWrites', WHERE WHAT IT READS IS OF BULK AT MOST 1048576: true; the input reads as it did. -/
def fnExactWritesUptoRow : OpenClaim := { program := "ytbiobflmkicjnaa", sum := "0cc3835a19f14a0f9ebcc5c1eba565bdc04bacfd4e875cc2ac95443bbb17f2d3", func := "loop.example/g00398/laws.FnExactWrites", spec := "fnExactWrites", apart := false, narrowed := true }
def FnExactWritesUptoSaid : Prop := fnExactWritesUptoRow.holds Try.pinned (OpenSpec.upto fnExactWritesSpec)

/-- 'laws.FnExactWordOf', WHERE WHAT IT READS IS OF BULK AT MOST 1048576: true; the input reads as it did. -/
def fnExactWordOfUptoRow : OpenClaim := { program := "ytbiobflmkicjnaa", sum := "0cc3835a19f14a0f9ebcc5c1eba565bdc04bacfd4e875cc2ac95443bbb17f2d3", func := "loop.example/g00398/laws.FnExactWordOf", spec := "fnExactWordOf", apart := false, narrowed := true }
def FnExactWordOfUptoSaid : Prop := fnExactWordOfUptoRow.holds Try.pinned (OpenSpec.upto fnExactWordOfSpec)

/-- 'laws.FnExactSureOf', WHERE WHAT IT READS IS OF BULK AT MOST 1048576: true; the input reads as it did. -/
def fnExactSureOfUptoRow : OpenClaim := { program := "ytbiobflmkicjnaa", sum := "0cc3835a19f14a0f9ebcc5c1eba565bdc04bacfd4e875cc2ac95443bbb17f2d3", func := "loop.example/g00398/laws.FnExactSureOf", spec := "fnExactSureOf", apart := false, narrowed := true }
def FnExactSureOfUptoSaid : Prop := fnExactSureOfUptoRow.holds Try.pinned (OpenSpec.upto fnExactSureOfSpec)

/-- 'laws.FnExactStepsOf', WHERE WHAT IT READS IS OF BULK AT MOST 1048576: true; the input reads as it did. -/
def fnExactStepsOfUptoRow : OpenClaim := { program := "ytbiobflmkicjnaa", sum := "0cc3835a19f14a0f9ebcc5c1eba565bdc04bacfd4e875cc2ac95443bbb17f2d3", func := "loop.example/g00398/laws.FnExactStepsOf", spec := "fnExactStepsOf", apart := false, narrowed := true }
def FnExactStepsOfUptoSaid : Prop := fnExactStepsOfUptoRow.holds Try.pinned (OpenSpec.upto fnExactStepsOfSpec)

/-- 'laws.FnExactAnsOf', WHERE WHAT IT READS IS OF BULK AT MOST 1048576: true; the input reads as it did. -/
def fnExactAnsOfUptoRow : OpenClaim := { program := "ytbiobflmkicjnaa", sum := "0cc3835a19f14a0f9ebcc5c1eba565bdc04bacfd4e875cc2ac95443bbb17f2d3", func := "loop.example/g00398/laws.FnExactAnsOf", spec := "fnExactAnsOf", apart := false, narrowed := true }
def FnExactAnsOfUptoSaid : Prop := fnExactAnsOfUptoRow.holds Try.pinned (OpenSpec.upto fnExactAnsOfSpec)

end Rows
end Go.Proofs.Ytbiobflmkicjnaa
