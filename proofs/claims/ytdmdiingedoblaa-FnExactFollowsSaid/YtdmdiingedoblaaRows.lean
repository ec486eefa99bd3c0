/-
  No cell of these rows narrows 'for every input' (looked for: loops, veiled, ifaces, maps, wideKeys, modest, calm, conditions, laid).
  DERIVED. THE GIVEN ROWS OF THIS SEAT. 9 by the template 'for every input the law returns true; each argument reads behind the call as it read before'; 0 by the template 'total and deterministic' (their statements: YtdmdiingedoblaaTotals.lean).
  GIVEN WITH THE SEED: the statements are not yours to turn. If you find one false, say at which input.
  Laid BY PROGRAM, IN A SANDBOX (cutbox-rows.mjs): the forced cells as the released guide's own fill.sh prints them over the translation adae6a1c112db47e… (all of the seat's roots in one cut). By AI agents, Wed Nov 11 2026. No macro, syntax, notation, axiom, sorry.
-/
import Derived.Test.YtdmdiingedoblaaChecked
import GoSem.Claim
import GoSem.ClaimJoined
import GoSem.ClaimMapViews
import Derived.JoinedTies
import Derived.KernelRfl
namespace Go.Proofs.Ytdmdiingedoblaa
/- THE CELL 'sum', in the pinned program and in every row, IS THE sha256 OF THE DUMP (.gsa) THAT YtdmdiingedoblaaProg.lean LOADS. Nothing in Lean hashes anything: it is a label: what it is worth is what the hold of that sum in a sandbox is worth. -/
noncomputable def Try.pinned : Pinned := { name := "ytdmdiingedoblaa", sum := "adae6a1c112db47ec685afa15f5751b1e470526bec9512cb595d46e3da86ed81", checked := Try.checked }
namespace Rows
def none {H : Type} : Left H := { results := [], args := [] }

/-- 'laws.FnExactStepsOf': WHATEVER THE INPUT: true; the input reads as it did. -/
def fnExactStepsOfSpec : ChangeSpec := { name := "fnExactStepsOf", fn := fun _ => fun
  | [d1, d2] => { results := [.lit (.bool true)], args := [d1, d2] }
  | _ => none }
def fnExactStepsOfRow : OpenClaim := { program := "ytdmdiingedoblaa", sum := "adae6a1c112db47ec685afa15f5751b1e470526bec9512cb595d46e3da86ed81", func := "loop.example/g00398/laws.FnExactStepsOf", spec := "fnExactStepsOf", apart := false }
def FnExactStepsOfSaid : Prop := fnExactStepsOfRow.holds Try.pinned (OpenSpec.ofChange fnExactStepsOfSpec)

/-- ITS FALSE NEIGHBOUR: 'it returns false'. Refute it at one input. -/
def fnExactStepsOfWrong : ChangeSpec := { name := "fnExactStepsOf", fn := fun _ => fun
  | [d1, d2] => { results := [.lit (.bool false)], args := [d1, d2] }
  | _ => none }
def FnExactStepsOfWrongFalsely : Prop := fnExactStepsOfRow.holds Try.pinned (OpenSpec.ofChange fnExactStepsOfWrong)

/-- 'laws.FnExactMayBe': WHATEVER THE INPUT: true; the input reads as it did. -/
def fnExactMayBeSpec : ChangeSpec := { name := "fnExactMayBe", fn := fun _ => fun
  | [d1, d2, d3, d4] => { results := [.lit (.bool true)], args := [d1, d2, d3, d4] }
  | _ => none }
def fnExactMayBeRow : OpenClaim := { program := "ytdmdiingedoblaa", sum := "adae6a1c112db47ec685afa15f5751b1e470526bec9512cb595d46e3da86ed81", func := "loop.example/g00398/laws.FnExactMayBe", spec := "fnExactMayBe", apart := false }
def FnExactMayBeSaid : Prop := fnExactMayBeRow.holds Try.pinned (OpenSpec.ofChange fnExactMayBeSpec)

/-- ITS FALSE NEIGHBOUR: 'it returns false'. Refute it at one input. -/
def fnExactMayBeWrong : ChangeSpec := { name := "fnExactMayBe", fn := fun _ => fun
  | [d1, d2, d3, d4] => { results := [.lit (.bool false)], args := [d1, d2, d3, d4] }
  | _ => none }
def FnExactMayBeWrongFalsely : Prop := fnExactMayBeRow.holds Try.pinned (OpenSpec.ofChange fnExactMayBeWrong)

/-- 'laws.FnExactFollows': WHATEVER THE INPUT: true; the input reads as it did. -/
def fnExactFollowsSpec : ChangeSpec := { name := "fnExactFollows", fn := fun _ => fun
  | [d1, d2, d3] => { results := [.lit (.bool true)], args := [d1, d2, d3] }
  | _ => none }
def fnExactFollowsRow : OpenClaim := { program := "ytdmdiingedoblaa", sum := "adae6a1c112db47ec685afa15f5751b1e470526bec9512cb595d46e3da86ed81", func := "loop.example/g00398/laws.FnExactFollows", spec := "fnExactFollows", unfollowed := true, recurses := true, apart := false }
def FnExactFollowsSaid : Prop := fnExactFollowsRow.holds Try.pinned (OpenSpec.ofChange fnExactFollowsSpec)

/-- ITS FALSE NEIGHBOUR: 'it returns false'. Refute it at one input. -/
def fnExactFollowsWrong : ChangeSpec := { name := "fnExactFollows", fn := fun _ => fun
  | [d1, d2, d3] => { results := [.lit (.bool false)], args := [d1, d2, d3] }
  | _ => none }
def FnExactFollowsWrongFalsely : Prop := fnExactFollowsRow.holds Try.pinned (OpenSpec.ofChange fnExactFollowsWrong)

/-- 'laws.FnExactApart': WHATEVER THE INPUT: true; the input reads as it did. -/
def fnExactApartSpec : ChangeSpec := { name := "fnExactApart", fn := fun _ => fun
  | [d] => { results := [.lit (.bool true)], args := [d] }
  | _ => none }
def fnExactApartRow : OpenClaim := { program := "ytdmdiingedoblaa", sum := "adae6a1c112db47ec685afa15f5751b1e470526bec9512cb595d46e3da86ed81", func := "loop.example/g00398/laws.FnExactApart", spec := "fnExactApart", apart := false }
def FnExactApartSaid : Prop := fnExactApartRow.holds Try.pinned (OpenSpec.ofChange fnExactApartSpec)

/-- ITS FALSE NEIGHBOUR: 'it returns false'. Refute it at one input. -/
def fnExactApartWrong : ChangeSpec := { name := "fnExactApart", fn := fun _ => fun
  | [d] => { results := [.lit (.bool false)], args := [d] }
  | _ => none }
def FnExactApartWrongFalsely : Prop := fnExactApartRow.holds Try.pinned (OpenSpec.ofChange fnExactApartWrong)

/-- 'laws.FnExactNeedOf': WHATEVER THE INPUT: true; the input reads as it did. -/
def fnExactNeedOfSpec : ChangeSpec := { name := "fnExactNeedOf", fn := fun _ => fun
  | [d1, d2] => { results := [.lit (.bool true)], args := [d1, d2] }
  | _ => none }
def fnExactNeedOfRow : OpenClaim := { program := "ytdmdiingedoblaa", sum := "adae6a1c112db47ec685afa15f5751b1e470526bec9512cb595d46e3da86ed81", func := "loop.example/g00398/laws.FnExactNeedOf", spec := "fnExactNeedOf", apart := false }
def FnExactNeedOfSaid : Prop := fnExactNeedOfRow.holds Try.pinned (OpenSpec.ofChange fnExactNeedOfSpec)

/-- ITS FALSE NEIGHBOUR: 'it returns false'. Refute it at one input. -/
def fnExactNeedOfWrong : ChangeSpec := { name := "fnExactNeedOf", fn := fun _ => fun
  | [d1, d2] => { results := [.lit (.bool false)], args := [d1, d2] }
  | _ => none }
def FnExactNeedOfWrongFalsely : Prop := fnExactNeedOfRow.holds Try.pinned (OpenSpec.ofChange fnExactNeedOfWrong)

/-- 'laws.FnExactNeedAll': WHATEVER THE INPUT: true; the input reads as it did. -/
def fnExactNeedAllSpec : ChangeSpec := { name := "fnExactNeedAll", fn := fun _ => fun
  | [d] => { results := [.lit (.bool true)], args := [d] }
  | _ => none }
def fnExactNeedAllRow : OpenClaim := { program := "ytdmdiingedoblaa", sum := "adae6a1c112db47ec685afa15f5751b1e470526bec9512cb595d46e3da86ed81", func := "loop.example/g00398/laws.FnExactNeedAll", spec := "fnExactNeedAll", apart := false }
def FnExactNeedAllSaid : Prop := fnExactNeedAllRow.holds Try.pinned (OpenSpec.ofChange fnExactNeedAllSpec)

/-- ITS FALSE NEIGHBOUR: 'it returns false'. Refute it at one input. -/
def fnExactNeedAllWrong : ChangeSpec := { name := "fnExactNeedAll", fn := fun _ => fun
  | [d] => { results := [.lit (.bool false)], args := [d] }
  | _ => none }
def FnExactNeedAllWrongFalsely : Prop := fnExactNeedAllRow.holds Try.pinned (OpenSpec.ofChange fnExactNeedAllWrong)

/-- 'laws.FnExactEngOk': WHATEVER THE INPUT: true; the input reads as it did. -/
def fnExactEngOkSpec : ChangeSpec := { name := "fnExactEngOk", fn := fun _ => fun
  | [d] => { results := [.lit (.bool true)], args := [d] }
  | _ => none }
def fnExactEngOkRow : OpenClaim := { program := "ytdmdiingedoblaa", sum := "adae6a1c112db47ec685afa15f5751b1e470526bec9512cb595d46e3da86ed81", func := "loop.example/g00398/laws.FnExactEngOk", spec := "fnExactEngOk", apart := false }
def FnExactEngOkSaid : Prop := fnExactEngOkRow.holds Try.pinned (OpenSpec.ofChange fnExactEngOkSpec)

/-- ITS FALSE NEIGHBOUR: 'it returns false'. Refute it at one input. -/
def fnExactEngOkWrong : ChangeSpec := { name := "fnExactEngOk", fn := fun _ => fun
  | [d] => { results := [.lit (.bool false)], args := [d] }
  | _ => none }
def FnExactEngOkWrongFalsely : Prop := fnExactEngOkRow.holds Try.pinned (OpenSpec.ofChange fnExactEngOkWrong)

/-- 'laws.FnExactOnline': WHATEVER THE INPUT: true; the input reads as it did. -/
def fnExactOnlineSpec : ChangeSpec := { name := "fnExactOnline", fn := fun _ => fun
  | [d] => { results := [.lit (.bool true)], args := [d] }
  | _ => none }
def fnExactOnlineRow : OpenClaim := { program := "ytdmdiingedoblaa", sum := "adae6a1c112db47ec685afa15f5751b1e470526bec9512cb595d46e3da86ed81", func := "loop.example/g00398/laws.FnExactOnline", spec := "fnExactOnline", apart := false }
def FnExactOnlineSaid : Prop := fnExactOnlineRow.holds Try.pinned (OpenSpec.ofChange fnExactOnlineSpec)

/-- ITS FALSE NEIGHBOUR: 'it returns false'. Refute it at one input. -/
def fnExactOnlineWrong : ChangeSpec := { name := "fnExactOnline", fn := fun _ => fun
  | [d] => { results := [.lit (.bool false)], args := [d] }
  | _ => none }
def FnExactOnlineWrongFalsely : Prop := fnExactOnlineRow.holds Try.pinned (OpenSpec.ofChange fnExactOnlineWrong)

/-- 'laws.FnExactCanBegin': WHATEVER THE INPUT: true; the input reads as it did. -/
def fnExactCanBeginSpec : ChangeSpec := { name := "fnExactCanBegin", fn := fun _ => fun
  | [d1, d2] => { results := [.lit (.bool true)], args := [d1, d2] }
  | _ => none }
def fnExactCanBeginRow : OpenClaim := { program := "ytdmdiingedoblaa", sum := "adae6a1c112db47ec685afa15f5751b1e470526bec9512cb595d46e3da86ed81", func := "loop.example/g00398/laws.FnExactCanBegin", spec := "fnExactCanBegin", apart := false }
def FnExactCanBeginSaid : Prop := fnExactCanBeginRow.holds Try.pinned (OpenSpec.ofChange fnExactCanBeginSpec)

/-- ITS FALSE NEIGHBOUR: 'it returns false'. Refute it at one input. -/
def fnExactCanBeginWrong : ChangeSpec := { name := "fnExactCanBegin", fn := fun _ => fun
  | [d1, d2] => { results := [.lit (.bool false)], args := [d1, d2] }
  | _ => none }
def FnExactCanBeginWrongFalsely : Prop := fnExactCanBeginRow.holds Try.pinned (OpenSpec.ofChange fnExactCanBeginWrong)

/- THE SECOND FORM. 'bulk': how many values and letters a reading holds, each counted each time it is reached (what is shared counts as often as it is met; a slice's spare places count too). A statement '..UptoSaid' is the law's where the arguments, and the package variables that the reading takes, are together of bulk at most 1048576: NARROWER than '..Said'. Prove '..Said' where nothing that the law and all that it calls make is longer than what came in: it says more and counts as full. Else prove '..UptoSaid'. A law counts once. -/
mutual
def uptoBulk {H : Type} : DataW H → Nat
  | .lit (.string bytes) => bytes.length + 1
  | .lit _ => 1
  | .nil => 1
  | .ptr d => uptoBulk d + 1
  | .slice elems spare => uptoBulkAll elems + uptoBulkAll spare + 1
  | .agg parts => uptoBulkAll parts + 1
  | .iface _ d => uptoBulk d + 1
  | .map entries => uptoBulkEntries entries + 1
  | .held _ => 1
def uptoBulkAll {H : Type} : List (DataW H) → Nat
  | [] => 0
  | d :: r => uptoBulk d + uptoBulkAll r
def uptoBulkEntries {H : Type} : List (Lit × DataW H) → Nat
  | [] => 0
  | x :: r => uptoBulkEntry x + uptoBulkEntries r
def uptoBulkEntry {H : Type} : Lit × DataW H → Nat
  | (.string bytes, d) => bytes.length + uptoBulk d + 1
  | (_, d) => uptoBulk d + 1
 end
def uptoSmall : (H : Type) → List (DataW H) → Bool := fun _ ds => decide (uptoBulkAll ds ≤ 1048576)
def OpenSpec.upto (s : _root_.Go.ChangeSpec) : _root_.Go.OpenSpec := { _root_.Go.OpenSpec.ofChange s with cond := some uptoSmall }

/-- 'laws.FnExactStepsOf', WHERE WHAT IT READS IS OF BULK AT MOST 1048576: true; the input reads as it did. -/
def fnExactStepsOfUptoRow : OpenClaim := { program := "ytdmdiingedoblaa", sum := "adae6a1c112db47ec685afa15f5751b1e470526bec9512cb595d46e3da86ed81", func := "loop.example/g00398/laws.FnExactStepsOf", spec := "fnExactStepsOf", apart := false, narrowed := true }
def FnExactStepsOfUptoSaid : Prop := fnExactStepsOfUptoRow.holds Try.pinned (OpenSpec.upto fnExactStepsOfSpec)

/-- 'laws.FnExactMayBe', WHERE WHAT IT READS IS OF BULK AT MOST 1048576: true; the input reads as it did. -/
def fnExactMayBeUptoRow : OpenClaim := { program := "ytdmdiingedoblaa", sum := "adae6a1c112db47ec685afa15f5751b1e470526bec9512cb595d46e3da86ed81", func := "loop.example/g00398/laws.FnExactMayBe", spec := "fnExactMayBe", apart := false, narrowed := true }
def FnExactMayBeUptoSaid : Prop := fnExactMayBeUptoRow.holds Try.pinned (OpenSpec.upto fnExactMayBeSpec)

/-- 'laws.FnExactFollows', WHERE WHAT IT READS IS OF BULK AT MOST 1048576: true; the input reads as it did. -/
def fnExactFollowsUptoRow : OpenClaim := { program := "ytdmdiingedoblaa", sum := "adae6a1c112db47ec685afa15f5751b1e470526bec9512cb595d46e3da86ed81", func := "loop.example/g00398/laws.FnExactFollows", spec := "fnExactFollows", unfollowed := true, recurses := true, apart := false, narrowed := true }
def FnExactFollowsUptoSaid : Prop := fnExactFollowsUptoRow.holds Try.pinned (OpenSpec.upto fnExactFollowsSpec)

/-- 'laws.FnExactApart', WHERE WHAT IT READS IS OF BULK AT MOST 1048576: true; the input reads as it did. -/
def fnExactApartUptoRow : OpenClaim := { program := "ytdmdiingedoblaa", sum := "adae6a1c112db47ec685afa15f5751b1e470526bec9512cb595d46e3da86ed81", func := "loop.example/g00398/laws.FnExactApart", spec := "fnExactApart", apart := false, narrowed := true }
def FnExactApartUptoSaid : Prop := fnExactApartUptoRow.holds Try.pinned (OpenSpec.upto fnExactApartSpec)

/-- 'laws.FnExactNeedOf', WHERE WHAT IT READS IS OF BULK AT MOST 1048576: true; the input reads as it did. -/
def fnExactNeedOfUptoRow : OpenClaim := { program := "ytdmdiingedoblaa", sum := "adae6a1c112db47ec685afa15f5751b1e470526bec9512cb595d46e3da86ed81", func := "loop.example/g00398/laws.FnExactNeedOf", spec := "fnExactNeedOf", apart := false, narrowed := true }
def FnExactNeedOfUptoSaid : Prop := fnExactNeedOfUptoRow.holds Try.pinned (OpenSpec.upto fnExactNeedOfSpec)

/-- 'laws.FnExactNeedAll', WHERE WHAT IT READS IS OF BULK AT MOST 1048576: true; the input reads as it did. -/
def fnExactNeedAllUptoRow : OpenClaim := { program := "ytdmdiingedoblaa", sum := "adae6a1c112db47ec685afa15f5751b1e470526bec9512cb595d46e3da86ed81", func := "loop.example/g00398/laws.FnExactNeedAll", spec := "fnExactNeedAll", apart := false, narrowed := true }
def FnExactNeedAllUptoSaid : Prop := fnExactNeedAllUptoRow.holds Try.pinned (OpenSpec.upto fnExactNeedAllSpec)

/-- 'laws.FnExactEngOk', WHERE WHAT IT READS IS OF BULK AT MOST 1048576: true; the input reads as it did. -/
def fnExactEngOkUptoRow : OpenClaim := { program := "ytdmdiingedoblaa", sum := "adae6a1c112db47ec685afa15f5751b1e470526bec9512cb595d46e3da86ed81", func := "loop.example/g00398/laws.FnExactEngOk", spec := "fnExactEngOk", apart := false, narrowed := true }
def FnExactEngOkUptoSaid : Prop := fnExactEngOkUptoRow.holds Try.pinned (OpenSpec.upto fnExactEngOkSpec)

/-- 'laws.FnExactOnline', WHERE WHAT IT READS IS OF BULK AT MOST 1048576: true; the input reads as it did. -/
def fnExactOnlineUptoRow : OpenClaim := { program := "ytdmdiingedoblaa", sum := "adae6a1c112db47ec685afa15f5751b1e470526bec9512cb595d46e3da86ed81", func := "loop.example/g00398/laws.FnExactOnline", spec := "fnExactOnline", apart := false, narrowed := true }
def FnExactOnlineUptoSaid : Prop := fnExactOnlineUptoRow.holds Try.pinned (OpenSpec.upto fnExactOnlineSpec)

/-- 'laws.FnExactCanBegin', WHERE WHAT IT READS IS OF BULK AT MOST 1048576: true; the input reads as it did. -/
def fnExactCanBeginUptoRow : OpenClaim := { program := "ytdmdiingedoblaa", sum := "adae6a1c112db47ec685afa15f5751b1e470526bec9512cb595d46e3da86ed81", func := "loop.example/g00398/laws.FnExactCanBegin", spec := "fnExactCanBegin", apart := false, narrowed := true }
def FnExactCanBeginUptoSaid : Prop := fnExactCanBeginUptoRow.holds Try.pinned (OpenSpec.upto fnExactCanBeginSpec)

end Rows
end Go.Proofs.Ytdmdiingedoblaa
