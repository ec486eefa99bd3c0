/- A law's call, from trees. No condition. -/
import Derived.Test.YtffloigfgjoimaaEvY
import Derived.Below
namespace Go.Proofs.Ytffloigfgjoimaa.Ev
open Go Go.RowKit
set_option linter.unusedVariables false
section
variable {P : Program} {E : Env} {w : World}
theorem BCs_seen {S : Nat → Prop} : ∀ {tys : List Ty} {ts : List T} {vs : List Value}, RCs E w S tys ts vs → BCs E w S [] tys ts vs []
  | [], [], [], _ => rfl
  | _ :: _, _ :: _, _ :: _, h => ⟨[], [], rfl, ⟨h.1, rfl⟩, BCs_seen h.2⟩
  | [], [], _ :: _, h => h.elim
  | [], _ :: _, _, h => h.elim
  | _ :: _, [], _, h => h.elim
  | _ :: _, _ :: _, [], h => h.elim
/-- Arguments that are seen, as trees. -/
def ArgsIn (E : Env) (w : World) : List Nat → List Value → List (List T) → Prop
  | [], [], [] => True
  | t :: ts, v :: vs, x :: xs => (Shape E t v v.cells.toList ∧ RCs E w (fun b => b < w.heap.size) (E.flat t) x v.cells.toList) ∧ ArgsIn E w ts vs xs
  | _, _, _ => False
theorem AsOk_seen : ∀ {ts : List Nat} {vs : List Value} {xs : List (List T)}, ArgsIn E w ts vs xs → AsOk E w (fun b => b < w.heap.size) [] ts (xs.map .v) vs []
  | [], [], [], _ => rfl
  | _ :: _, _ :: _, _ :: _, h => ⟨[], [], rfl, ⟨_, h.1.1, BCs_seen h.1.2⟩, AsOk_seen h.2⟩
  | [], [], _ :: _, h => h.elim
  | [], _ :: _, _, h => h.elim
  | _ :: _, [], _, h => h.elim
  | _ :: _, _ :: _, [], h => h.elim
theorem law_calls {F : Call} (hF : FnOk P E F) {f : FuncId} {fn : Func} (hfn : E.fn f = some fn) (hsig : E.sig f = ⟨[], [], []⟩) {tb : Nat} (hres : fn.resultTypes.toList = [tb]) (hflat : E.flat tb = [.bool]) (hagg : E.isAgg tb = false)
    {xs : List (List T)} {args : List Value} {r : Bool} (ha : ArgsIn E w fn.params.toList args xs) (h : F f (xs.map .v) = some ⟨[.b r], []⟩) :
    Calls P f args.toArray w fun e w' => e = .returned (.bool r) ∧ Below w.heap.size w w' := by
  refine (hF f fn _ _ hfn h w args [] (fun b => b < w.heap.size) List.nodup_nil (fun b hb => by simp at hb) (fun b hb => ⟨hb, by simp⟩) (by rw [hsig]; unfold pars; rw [List.map_nil, List.append_nil]; exact AsOk_seen ha)).mono ?_
  rintro e w' ⟨v, rfl, br, bv, _, _, hos, htape, hout, hsize, hch, ⟨vals, vs, h1, h2, h3⟩, _⟩
  rw [hres] at h1 h2 h3
  have h1 : vals = [v] := h1
  subst h1
  obtain ⟨a, b, rfl, h4, h5, h6⟩ := h2
  have h6 : b = [] := h6
  subst h6
  unfold Shape at h4
  rw [hagg] at h4
  have h4 : a = [v] := h4
  subst h4
  simp only [resTys, hflat, hsig, List.append_nil] at h3
  obtain ⟨b1, b2, _, h7, _⟩ := h3
  have h7 : RC E w' _ .bool (.b r) v := h7.1
  cases h7
  exact ⟨rfl, hos, htape, hout, hsize, fun k hk => hch k hk (by simp)⟩
end
end Go.Proofs.Ytffloigfgjoimaa.Ev
