/- The evaluator answers as the machine's calls do. The table of types fits the program, the functions are the program's, the program may draw any order. -/
import Derived.Test.YtffloigfgjoimaaEvW
namespace Go.Proofs.Ytffloigfgjoimaa.Ev
open Go
theorem eval_sound {P : Program} {E : Env} (hT : tabOk P E = true) (hTF : TabF P E) (hm : P.follows .mixedOrders = true) {prim : FuncId → Option (List Arg → Option Outs)} (hprim : PrimOk P E prim) (k : Nat) : FnOk P E (evalF E prim k) :=
  evalF_ok hT hTF (fun _ hF => draw_ok hT hTF hF hm) hprim k
theorem noPrim {P : Program} {E : Env} : PrimOk P E (fun _ => none) := fun _ _ _ _ _ _ h => by cases h
#print axioms eval_sound
end Go.Proofs.Ytffloigfgjoimaa.Ev
