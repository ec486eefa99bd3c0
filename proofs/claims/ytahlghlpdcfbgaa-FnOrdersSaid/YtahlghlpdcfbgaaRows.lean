/-
  No cell of these rows narrows 'for every input' (looked for: loops, veiled, ifaces, maps, wideKeys, modest, calm, conditions, laid).
  DERIVED. THE GIVEN ROWS OF THIS SEAT. 7 by the template 'for every input the law returns true; each argument reads behind the call as it read before'; 0 by the template 'total and deterministic' (their statements: YtahlghlpdcfbgaaTotals.lean).
  GIVEN WITH THE SEED: the statements are not yours to turn. If you find one false, say at which input.
  Laid BY PROGRAM, IN A SANDBOX (cutbox-rows.mjs): the forced cells as the released guide's own fill.sh prints them over the translation fdc7fa7a2a249aaf… (all of the seat's roots in one cut). By AI agents, Wed Nov 11 2026. No macro, syntax, notation, axiom, sorry.
-/
import Derived.Test.YtahlghlpdcfbgaaChecked
import GoSem.Claim
import GoSem.ClaimJoined
import GoSem.ClaimMapViews
import Derived.JoinedTies
import Derived.KernelRfl
namespace Go.Proofs.Ytahlghlpdcfbgaa
/- THE CELL 'sum', in the pinned program and in every row, IS THE sha256 OF THE DUMP (.gsa) THAT YtahlghlpdcfbgaaProg.lean LOADS. Nothing in Lean hashes anything: it is a label: what it is worth is what the hold of that sum in a sandbox is worth. -/
noncomputable def Try.pinned : Pinned := { name := "ytahlghlpdcfbgaa", sum := "fdc7fa7a2a249aaf1941d6793c2e202ef138ab84b31b976f1207764d0f29a740", checked := Try.checked }
namespace Rows
def none {H : Type} : Left H := { results := [], args := [] }

/-- 'laws.FnExactAnsOf': WHATEVER THE INPUT: true; the input reads as it did. -/
def fnExactAnsOfSpec : ChangeSpec := { name := "fnExactAnsOf", fn := fun _ => fun
  | [d] => { results := [.lit (.bool true)], args := [d] }
  | _ => none }
def fnExactAnsOfRow : OpenClaim := { program := "ytahlghlpdcfbgaa", sum := "fdc7fa7a2a249aaf1941d6793c2e202ef138ab84b31b976f1207764d0f29a740", func := "loop.example/g00398/laws.FnExactAnsOf", spec := "fnExactAnsOf", apart := false }
def FnExactAnsOfSaid : Prop := fnExactAnsOfRow.holds Try.pinned (OpenSpec.ofChange fnExactAnsOfSpec)

/-- ITS FALSE NEIGHBOUR: 'it returns false'. Refute it at one input. -/
def fnExactAnsOfWrong : ChangeSpec := { name := "fnExactAnsOf", fn := fun _ => fun
  | [d] => { results := [.lit (.bool false)], args := [d] }
  | _ => none }
def FnExactAnsOfWrongFalsely : Prop := fnExactAnsOfRow.holds Try.pinned (OpenSpec.ofChange fnExactAnsOfWrong)

/-- 'laws.FnExactCmdsOf': WHATEVER THE INPUT: true; the input reads as it did. -/
def fnExactCmdsOfSpec : ChangeSpec := { name := "fnExactCmdsOf", fn := fun _ => fun
  | [d] => { results := [.lit (.bool true)], args := [d] }
  | _ => none }
def fnExactCmdsOfRow : OpenClaim := { program := "ytahlghlpdcfbgaa", sum := "fdc7fa7a2a249aaf1941d6793c2e202ef138ab84b31b976f1207764d0f29a740", func := "loop.example/g00398/laws.FnExactCmdsOf", spec := "fnExactCmdsOf", apart := false }
def FnExactCmdsOfSaid : Prop := fnExactCmdsOfRow.holds Try.pinned (OpenSpec.ofChange fnExactCmdsOfSpec)

/-- ITS FALSE NEIGHBOUR: 'it returns false'. Refute it at one input. -/
def fnExactCmdsOfWrong : ChangeSpec := { name := "fnExactCmdsOf", fn := fun _ => fun
  | [d] => { results := [.lit (.bool false)], args := [d] }
  | _ => none }
def FnExactCmdsOfWrongFalsely : Prop := fnExactCmdsOfRow.holds Try.pinned (OpenSpec.ofChange fnExactCmdsOfWrong)

/-- 'laws.FnExactAfter': WHATEVER THE INPUT: true; the input reads as it did. -/
def fnExactAfterSpec : ChangeSpec := { name := "fnExactAfter", fn := fun _ => fun
  | [d1, d2, d3] => { results := [.lit (.bool true)], args := [d1, d2, d3] }
  | _ => none }
def fnExactAfterRow : OpenClaim := { program := "ytahlghlpdcfbgaa", sum := "fdc7fa7a2a249aaf1941d6793c2e202ef138ab84b31b976f1207764d0f29a740", func := "loop.example/g00398/laws.FnExactAfter", spec := "fnExactAfter", apart := false }
def FnExactAfterSaid : Prop := fnExactAfterRow.holds Try.pinned (OpenSpec.ofChange fnExactAfterSpec)

/-- ITS FALSE NEIGHBOUR: 'it returns false'. Refute it at one input. -/
def fnExactAfterWrong : ChangeSpec := { name := "fnExactAfter", fn := fun _ => fun
  | [d1, d2, d3] => { results := [.lit (.bool false)], args := [d1, d2, d3] }
  | _ => none }
def FnExactAfterWrongFalsely : Prop := fnExactAfterRow.holds Try.pinned (OpenSpec.ofChange fnExactAfterWrong)

/-- 'laws.FnMusts': WHATEVER THE INPUT: true; the input reads as it did. -/
def fnMustsSpec : ChangeSpec := { name := "fnMusts", fn := fun _ => fun
  | [d] => { results := [.lit (.bool true)], args := [d] }
  | _ => none }
def fnMustsRow : OpenClaim := { program := "ytahlghlpdcfbgaa", sum := "fdc7fa7a2a249aaf1941d6793c2e202ef138ab84b31b976f1207764d0f29a740", func := "loop.example/g00398/laws.FnMusts", spec := "fnMusts", apart := false }
def FnMustsSaid : Prop := fnMustsRow.holds Try.pinned (OpenSpec.ofChange fnMustsSpec)

/-- ITS FALSE NEIGHBOUR: 'it returns false'. Refute it at one input. -/
def fnMustsWrong : ChangeSpec := { name := "fnMusts", fn := fun _ => fun
  | [d] => { results := [.lit (.bool false)], args := [d] }
  | _ => none }
def FnMustsWrongFalsely : Prop := fnMustsRow.holds Try.pinned (OpenSpec.ofChange fnMustsWrong)

/-- 'laws.FnOrders': WHATEVER THE INPUT: true; the input reads as it did. -/
def fnOrdersSpec : ChangeSpec := { name := "fnOrders", fn := fun _ => fun
  | [d] => { results := [.lit (.bool true)], args := [d] }
  | _ => none }
def fnOrdersRow : OpenClaim := { program := "ytahlghlpdcfbgaa", sum := "fdc7fa7a2a249aaf1941d6793c2e202ef138ab84b31b976f1207764d0f29a740", func := "loop.example/g00398/laws.FnOrders", spec := "fnOrders", unfollowed := true, recurses := true, apart := false }
def FnOrdersSaid : Prop := fnOrdersRow.holds Try.pinned (OpenSpec.ofChange fnOrdersSpec)

/-- ITS FALSE NEIGHBOUR: 'it returns false'. Refute it at one input. -/
def fnOrdersWrong : ChangeSpec := { name := "fnOrders", fn := fun _ => fun
  | [d] => { results := [.lit (.bool false)], args := [d] }
  | _ => none }
def FnOrdersWrongFalsely : Prop := fnOrdersRow.holds Try.pinned (OpenSpec.ofChange fnOrdersWrong)

/-- 'laws.FnExactEngNew': WHATEVER THE INPUT: true; the input reads as it did. -/
def fnExactEngNewSpec : ChangeSpec := { name := "fnExactEngNew", fn := fun _ => fun
  | [d1, d2] => { results := [.lit (.bool true)], args := [d1, d2] }
  | _ => none }
def fnExactEngNewRow : OpenClaim := { program := "ytahlghlpdcfbgaa", sum := "fdc7fa7a2a249aaf1941d6793c2e202ef138ab84b31b976f1207764d0f29a740", func := "loop.example/g00398/laws.FnExactEngNew", spec := "fnExactEngNew", unfollowed := true, recurses := true, apart := false }
def FnExactEngNewSaid : Prop := fnExactEngNewRow.holds Try.pinned (OpenSpec.ofChange fnExactEngNewSpec)

/-- ITS FALSE NEIGHBOUR: 'it returns false'. Refute it at one input. -/
def fnExactEngNewWrong : ChangeSpec := { name := "fnExactEngNew", fn := fun _ => fun
  | [d1, d2] => { results := [.lit (.bool false)], args := [d1, d2] }
  | _ => none }
def FnExactEngNewWrongFalsely : Prop := fnExactEngNewRow.holds Try.pinned (OpenSpec.ofChange fnExactEngNewWrong)

/-- 'laws.FnCompares': WHATEVER THE INPUT: true; the input reads as it did. -/
def fnComparesSpec : ChangeSpec := { name := "fnCompares", fn := fun _ => fun
  | [d] => { results := [.lit (.bool true)], args := [d] }
  | _ => none }
def fnComparesRow : OpenClaim := { program := "ytahlghlpdcfbgaa", sum := "fdc7fa7a2a249aaf1941d6793c2e202ef138ab84b31b976f1207764d0f29a740", func := "loop.example/g00398/laws.FnCompares", spec := "fnCompares", inPlace := ["slices.overlaps[loop.example/g00398/impl.Ent]"], unfollowed := true, recurses := true, apart := false }
def FnComparesSaid : Prop := fnComparesRow.holds Try.pinned (OpenSpec.ofChange fnComparesSpec)

/-- ITS FALSE NEIGHBOUR: 'it returns false'. Refute it at one input. -/
def fnComparesWrong : ChangeSpec := { name := "fnCompares", fn := fun _ => fun
  | [d] => { results := [.lit (.bool false)], args := [d] }
  | _ => none }
def FnComparesWrongFalsely : Prop := fnComparesRow.holds Try.pinned (OpenSpec.ofChange fnComparesWrong)

/- THE SECOND FORM. 'bulk': how many values and letters a reading holds, each counted each time it is reached (what is shared counts as often as it is met; a slice's spare places count too). A statement '..UptoSaid' is the law's where the arguments, and the package variables that the reading takes, are together of bulk at most 1048576: NARROWER than '..Said'. Prove '..Said' where nothing that the law and all that it calls make is longer than what came in: it says more and counts as full. Else prove '..UptoSaid'. A law counts once. -/
mutual
def uptoBulk {H : Type} : DataW H → Nat
  | .lit (.string bytes) => bytes.length + 1
  | .lit _ => 1
  | .nil => 1
  | .ptr d => uptoBulk d + 1
  | .slice elems spare => uptoBulkAll elems + uptoBulkAll spare + 1
  | .agg parts => uptoBulkAll parts + 1
  | .iface _ d => uptoBulk d + 1
  | .map entries => uptoBulkEntries entries + 1
  | .held _ => 1
def uptoBulkAll {H : Type} : List (DataW H) → Nat
  | [] => 0
  | d :: r => uptoBulk d + uptoBulkAll r
def uptoBulkEntries {H : Type} : List (Lit × DataW H) → Nat
  | [] => 0
  | x :: r => uptoBulkEntry x + uptoBulkEntries r
def uptoBulkEntry {H : Type} : Lit × DataW H → Nat
  | (.string bytes, d) => bytes.length + uptoBulk d + 1
  | (_, d) => uptoBulk d + 1
 end
def uptoSmall : (H : Type) → List (DataW H) → Bool := fun _ ds => decide (uptoBulkAll ds ≤ 1048576)
def OpenSpec.upto (s : _root_.Go.ChangeSpec) : _root_.Go.OpenSpec := { _root_.Go.OpenSpec.ofChange s with cond := some uptoSmall }

/-- 'laws.FnExactAnsOf', WHERE WHAT IT READS IS OF BULK AT MOST 1048576: true; the input reads as it did. -/
def fnExactAnsOfUptoRow : OpenClaim := { program := "ytahlghlpdcfbgaa", sum := "fdc7fa7a2a249aaf1941d6793c2e202ef138ab84b31b976f1207764d0f29a740", func := "loop.example/g00398/laws.FnExactAnsOf", spec := "fnExactAnsOf", apart := false, narrowed := true }
def FnExactAnsOfUptoSaid : Prop := fnExactAnsOfUptoRow.holds Try.pinned (OpenSpec.upto fnExactAnsOfSpec)

/-- 'laws.FnExactCmdsOf', WHERE WHAT IT READS IS OF BULK AT MOST 1048576: true; the input reads as it did. -/
def fnExactCmdsOfUptoRow : OpenClaim := { program := "ytahlghlpdcfbgaa", sum := "fdc7fa7a2a249aaf1941d6793c2e202ef138ab84b31b976f1207764d0f29a740", func := "loop.example/g00398/laws.FnExactCmdsOf", spec := "fnExactCmdsOf", apart := false, narrowed := true }
def FnExactCmdsOfUptoSaid : Prop := fnExactCmdsOfUptoRow.holds Try.pinned (OpenSpec.upto fnExactCmdsOfSpec)

/-- 'laws.FnExactAfter', WHERE WHAT IT READS IS OF BULK AT MOST 1048576: true; the input reads as it did. -/
def fnExactAfterUptoRow : OpenClaim := { program := "ytahlghlpdcfbgaa", sum := "fdc7fa7a2a249aaf1941d6793c2e202ef138ab84b31b976f1207764d0f29a740", func := "loop.example/g00398/laws.FnExactAfter", spec := "fnExactAfter", apart := false, narrowed := true }
def FnExactAfterUptoSaid : Prop := fnExactAfterUptoRow.holds Try.pinned (OpenSpec.upto fnExactAfterSpec)

/-- 'laws.FnMusts', WHERE WHAT IT READS IS OF BULK AT MOST 1048576: true; the input reads as it did. -/
def fnMustsUptoRow : OpenClaim := { program := "ytahlghlpdcfbgaa", sum := "fdc7fa7a2a249aaf1941d6793c2e202ef138ab84b31b976f1207764d0f29a740", func := "loop.example/g00398/laws.FnMusts", spec := "fnMusts", apart := false, narrowed := true }
def FnMustsUptoSaid : Prop := fnMustsUptoRow.holds Try.pinned (OpenSpec.upto fnMustsSpec)

/-- 'laws.FnOrders', WHERE WHAT IT READS IS OF BULK AT MOST 1048576: true; the input reads as it did. -/
def fnOrdersUptoRow : OpenClaim := { program := "ytahlghlpdcfbgaa", sum := "fdc7fa7a2a249aaf1941d6793c2e202ef138ab84b31b976f1207764d0f29a740", func := "loop.example/g00398/laws.FnOrders", spec := "fnOrders", unfollowed := true, recurses := true, apart := false, narrowed := true }
def FnOrdersUptoSaid : Prop := fnOrdersUptoRow.holds Try.pinned (OpenSpec.upto fnOrdersSpec)

/-- 'laws.FnExactEngNew', WHERE WHAT IT READS IS OF BULK AT MOST 1048576: true; the input reads as it did. -/
def fnExactEngNewUptoRow : OpenClaim := { program := "ytahlghlpdcfbgaa", sum := "fdc7fa7a2a249aaf1941d6793c2e202ef138ab84b31b976f1207764d0f29a740", func := "loop.example/g00398/laws.FnExactEngNew", spec := "fnExactEngNew", unfollowed := true, recurses := true, apart := false, narrowed := true }
def FnExactEngNewUptoSaid : Prop := fnExactEngNewUptoRow.holds Try.pinned (OpenSpec.upto fnExactEngNewSpec)

/-- 'laws.FnCompares', WHERE WHAT IT READS IS OF BULK AT MOST 1048576: true; the input reads as it did. -/
def fnComparesUptoRow : OpenClaim := { program := "ytahlghlpdcfbgaa", sum := "fdc7fa7a2a249aaf1941d6793c2e202ef138ab84b31b976f1207764d0f29a740", func := "loop.example/g00398/laws.FnCompares", spec := "fnCompares", inPlace := ["slices.overlaps[loop.example/g00398/impl.Ent]"], unfollowed := true, recurses := true, apart := false, narrowed := true }
def FnComparesUptoSaid : Prop := fnComparesUptoRow.holds Try.pinned (OpenSpec.upto fnComparesSpec)

end Rows
end Go.Proofs.Ytahlghlpdcfbgaa
