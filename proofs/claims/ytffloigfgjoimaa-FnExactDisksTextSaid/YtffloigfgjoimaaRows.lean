/-
  No cell of these rows narrows 'for every input' (looked for: loops, veiled, ifaces, maps, wideKeys, modest, calm, conditions, laid).
  DERIVED. THE GIVEN ROWS OF THIS SEAT. 4 by the template 'for every input the law returns true; each argument reads behind the call as it read before'; 0 by the template 'total and deterministic' (their statements: YtffloigfgjoimaaTotals.lean).
  GIVEN WITH THE SEED: the statements are not yours to turn. If you find one false, say at which input.
  Laid BY PROGRAM, IN A SANDBOX (cutbox-rows.mjs): the forced cells as the released guide's own fill.sh prints them over the translation ddb95f9ff5ed8a2e… (all of the seat's roots in one cut). By AI agents, Wed Nov 11 2026. No macro, syntax, notation, axiom, sorry.
-/
import Derived.Test.YtffloigfgjoimaaChecked
import GoSem.Claim
import GoSem.ClaimJoined
import GoSem.ClaimMapViews
import Derived.JoinedTies
import Derived.KernelRfl
namespace Go.Proofs.Ytffloigfgjoimaa
/- THE CELL 'sum', in the pinned program and in every row, IS THE sha256 OF THE DUMP (.gsa) THAT YtffloigfgjoimaaProg.lean LOADS. Nothing in Lean hashes anything: it is a label: what it is worth is what the hold of that sum in a sandbox is worth. -/
noncomputable def Try.pinned : Pinned := { name := "ytffloigfgjoimaa", sum := "ddb95f9ff5ed8a2efdc7443265999a1048dc3bf0f78f46ebe2de605705fa28bf", checked := Try.checked }
namespace Rows
def none {H : Type} : Left H := { results := [], args := [] }

/-- 'laws.FnExactDisksText': WHATEVER THE INPUT: true; the input reads as it did. -/
def fnExactDisksTextSpec : ChangeSpec := { name := "fnExactDisksText", fn := fun _ => fun
  | [d] => { results := [.lit (.bool true)], args := [d] }
  | _ => none }
def fnExactDisksTextRow : OpenClaim := { program := "ytffloigfgjoimaa", sum := "ddb95f9ff5ed8a2efdc7443265999a1048dc3bf0f78f46ebe2de605705fa28bf", func := "loop.example/g00398/laws.FnExactDisksText", spec := "fnExactDisksText", apart := false }
def FnExactDisksTextSaid : Prop := fnExactDisksTextRow.holds Try.pinned (OpenSpec.ofChange fnExactDisksTextSpec)

/-- ITS FALSE NEIGHBOUR: 'it returns false'. Refute it at one input. -/
def fnExactDisksTextWrong : ChangeSpec := { name := "fnExactDisksText", fn := fun _ => fun
  | [d] => { results := [.lit (.bool false)], args := [d] }
  | _ => none }
def FnExactDisksTextWrongFalsely : Prop := fnExactDisksTextRow.holds Try.pinned (OpenSpec.ofChange fnExactDisksTextWrong)

/-- 'laws.FnExactAnsOf': WHATEVER THE INPUT: true; the input reads as it did. -/
def fnExactAnsOfSpec : ChangeSpec := { name := "fnExactAnsOf", fn := fun _ => fun
  | [d] => { results := [.lit (.bool true)], args := [d] }
  | _ => none }
def fnExactAnsOfRow : OpenClaim := { program := "ytffloigfgjoimaa", sum := "ddb95f9ff5ed8a2efdc7443265999a1048dc3bf0f78f46ebe2de605705fa28bf", func := "loop.example/g00398/laws.FnExactAnsOf", spec := "fnExactAnsOf", apart := false }
def FnExactAnsOfSaid : Prop := fnExactAnsOfRow.holds Try.pinned (OpenSpec.ofChange fnExactAnsOfSpec)

/-- ITS FALSE NEIGHBOUR: 'it returns false'. Refute it at one input. -/
def fnExactAnsOfWrong : ChangeSpec := { name := "fnExactAnsOf", fn := fun _ => fun
  | [d] => { results := [.lit (.bool false)], args := [d] }
  | _ => none }
def FnExactAnsOfWrongFalsely : Prop := fnExactAnsOfRow.holds Try.pinned (OpenSpec.ofChange fnExactAnsOfWrong)

/-- 'laws.FnExactCmdsOf': WHATEVER THE INPUT: true; the input reads as it did. -/
def fnExactCmdsOfSpec : ChangeSpec := { name := "fnExactCmdsOf", fn := fun _ => fun
  | [d] => { results := [.lit (.bool true)], args := [d] }
  | _ => none }
def fnExactCmdsOfRow : OpenClaim := { program := "ytffloigfgjoimaa", sum := "ddb95f9ff5ed8a2efdc7443265999a1048dc3bf0f78f46ebe2de605705fa28bf", func := "loop.example/g00398/laws.FnExactCmdsOf", spec := "fnExactCmdsOf", apart := false }
def FnExactCmdsOfSaid : Prop := fnExactCmdsOfRow.holds Try.pinned (OpenSpec.ofChange fnExactCmdsOfSpec)

/-- ITS FALSE NEIGHBOUR: 'it returns false'. Refute it at one input. -/
def fnExactCmdsOfWrong : ChangeSpec := { name := "fnExactCmdsOf", fn := fun _ => fun
  | [d] => { results := [.lit (.bool false)], args := [d] }
  | _ => none }
def FnExactCmdsOfWrongFalsely : Prop := fnExactCmdsOfRow.holds Try.pinned (OpenSpec.ofChange fnExactCmdsOfWrong)

/-- 'laws.FnExactAfter': WHATEVER THE INPUT: true; the input reads as it did. -/
def fnExactAfterSpec : ChangeSpec := { name := "fnExactAfter", fn := fun _ => fun
  | [d1, d2, d3] => { results := [.lit (.bool true)], args := [d1, d2, d3] }
  | _ => none }
def fnExactAfterRow : OpenClaim := { program := "ytffloigfgjoimaa", sum := "ddb95f9ff5ed8a2efdc7443265999a1048dc3bf0f78f46ebe2de605705fa28bf", func := "loop.example/g00398/laws.FnExactAfter", spec := "fnExactAfter", apart := false }
def FnExactAfterSaid : Prop := fnExactAfterRow.holds Try.pinned (OpenSpec.ofChange fnExactAfterSpec)

/-- ITS FALSE NEIGHBOUR: 'it returns false'. Refute it at one input. -/
def fnExactAfterWrong : ChangeSpec := { name := "fnExactAfter", fn := fun _ => fun
  | [d1, d2, d3] => { results := [.lit (.bool false)], args := [d1, d2, d3] }
  | _ => none }
def FnExactAfterWrongFalsely : Prop := fnExactAfterRow.holds Try.pinned (OpenSpec.ofChange fnExactAfterWrong)

/- THE SECOND FORM. 'bulk': how many values and letters a reading holds, each counted each time it is reached (what is shared counts as often as it is met; a slice's spare places count too). A statement '..UptoSaid' is the law's where the arguments, and the package variables that the reading takes, are together of bulk at most 1048576: NARROWER than '..Said'. Prove '..Said' where nothing that the law and all that it calls make is longer than what came in: it says more and counts as full. Else prove '..UptoSaid'. A law counts once. -/
mutual
def uptoBulk {H : Type} : DataW H → Nat
  | .lit (.string bytes) => bytes.length + 1
  | .lit _ => 1
  | .nil => 1
  | .ptr d => uptoBulk d + 1
  | .slice elems spare => uptoBulkAll elems + uptoBulkAll spare + 1
  | .agg parts => uptoBulkAll parts + 1
  | .iface _ d => uptoBulk d + 1
  | .map entries => uptoBulkEntries entries + 1
  | .held _ => 1
def uptoBulkAll {H : Type} : List (DataW H) → Nat
  | [] => 0
  | d :: r => uptoBulk d + uptoBulkAll r
def uptoBulkEntries {H : Type} : List (Lit × DataW H) → Nat
  | [] => 0
  | x :: r => uptoBulkEntry x + uptoBulkEntries r
def uptoBulkEntry {H : Type} : Lit × DataW H → Nat
  | (.string bytes, d) => bytes.length + uptoBulk d + 1
  | (_, d) => uptoBulk d + 1
 end
def uptoSmall : (H : Type) → List (DataW H) → Bool := fun _ ds => decide (uptoBulkAll ds ≤ 1048576)
def OpenSpec.upto (s : _root_.Go.ChangeSpec) : _root_.Go.OpenSpec := { _root_.Go.OpenSpec.ofChange s with cond := some uptoSmall }

/-- 'laws.FnExactDisksText', WHERE WHAT IT READS IS OF BULK AT MOST 1048576: true; the input reads as it did. -/
def fnExactDisksTextUptoRow : OpenClaim := { program := "ytffloigfgjoimaa", sum := "ddb95f9ff5ed8a2efdc7443265999a1048dc3bf0f78f46ebe2de605705fa28bf", func := "loop.example/g00398/laws.FnExactDisksText", spec := "fnExactDisksText", apart := false, narrowed := true }
def FnExactDisksTextUptoSaid : Prop := fnExactDisksTextUptoRow.holds Try.pinned (OpenSpec.upto fnExactDisksTextSpec)

/-- 'laws.FnExactAnsOf', WHERE WHAT IT READS IS OF BULK AT MOST 1048576: true; the input reads as it did. -/
def fnExactAnsOfUptoRow : OpenClaim := { program := "ytffloigfgjoimaa", sum := "ddb95f9ff5ed8a2efdc7443265999a1048dc3bf0f78f46ebe2de605705fa28bf", func := "loop.example/g00398/laws.FnExactAnsOf", spec := "fnExactAnsOf", apart := false, narrowed := true }
def FnExactAnsOfUptoSaid : Prop := fnExactAnsOfUptoRow.holds Try.pinned (OpenSpec.upto fnExactAnsOfSpec)

/-- 'laws.FnExactCmdsOf', WHERE WHAT IT READS IS OF BULK AT MOST 1048576: true; the input reads as it did. -/
def fnExactCmdsOfUptoRow : OpenClaim := { program := "ytffloigfgjoimaa", sum := "ddb95f9ff5ed8a2efdc7443265999a1048dc3bf0f78f46ebe2de605705fa28bf", func := "loop.example/g00398/laws.FnExactCmdsOf", spec := "fnExactCmdsOf", apart := false, narrowed := true }
def FnExactCmdsOfUptoSaid : Prop := fnExactCmdsOfUptoRow.holds Try.pinned (OpenSpec.upto fnExactCmdsOfSpec)

/-- 'laws.FnExactAfter', WHERE WHAT IT READS IS OF BULK AT MOST 1048576: true; the input reads as it did. -/
def fnExactAfterUptoRow : OpenClaim := { program := "ytffloigfgjoimaa", sum := "ddb95f9ff5ed8a2efdc7443265999a1048dc3bf0f78f46ebe2de605705fa28bf", func := "loop.example/g00398/laws.FnExactAfter", spec := "fnExactAfter", apart := false, narrowed := true }
def FnExactAfterUptoSaid : Prop := fnExactAfterUptoRow.holds Try.pinned (OpenSpec.upto fnExactAfterSpec)

end Rows
end Go.Proofs.Ytffloigfgjoimaa
