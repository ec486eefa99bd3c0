/- Functions of Go's library, as the shelf's contracts tell them; what such a call leaves. No condition. -/
import Derived.Test.YtbmkpnabhodggaaDoorEvYb
import Derived.Lib.ItoaNum
import Derived.Lib.Join
import Derived.Lib.LaidTab
namespace Go.Proofs.YtbmkpnabhodggaaDoor.Ev
open Go Go.RowKit
set_option linter.unusedVariables false
set_option linter.unusedSimpArgs false
/-- A block that holds a table. -/
def tabObj (k : IntKind) (zs : List Int) (o : Option Obj) : Prop := ∃ el fr, o = some (.cells (zs.map fun z => Value.int k z).toArray el fr)
theorem tabIs_of {P : Program} {w : World} {name : String} {g : Nat} {k : IntKind} {zs : List Int} (hn : P.globalNamed name = some g) (h : tabObj k zs w.heap[g]?) : Lib.TabIs P w name k zs := by
  obtain ⟨el, fr, h⟩ := h
  unfold Lib.TabIs World.var?
  rw [hn, Option.bind_some, h]
theorem tabObj_of {P : Program} {w : World} {name : String} {g : Nat} {k : IntKind} {zs : List Int} (hn : P.globalNamed name = some g) (h : Lib.TabIs P w name k zs) : tabObj k zs w.heap[g]? ∧ g < w.heap.size := by
  unfold Lib.TabIs World.var? at h
  rw [hn, Option.bind_some] at h
  split at h
  · rename_i cs el fr hc
    cases h
    refine ⟨⟨el, fr, hc⟩, ?_⟩
    rcases Nat.lt_or_ge g w.heap.size with hlt | hge
    · exact hlt
    · rw [Array.getElem?_eq_none hge] at hc; cases hc
  · cases h
def txt (l : List UInt8) : ByteArray := ⟨l.toArray⟩
def prItoa : List Arg → Option Outs
  | [.v [.i n]] => bif decide (-9223372036854775808 ≤ n) && decide (n ≤ 9223372036854775807) then some ⟨[.s (txt (Lib.itoa n))], []⟩ else none
  | _ => none
def joinT (es : List (List T)) (sep : ByteArray) : List UInt8 := Lib.join (es.map fun c => (c.getD 0 (.i 0)).asS.data.toList) sep.data.toList
def prJoin : List Arg → Option Outs
  | [.v [.r es], .v [.s sep]] => bif decide (es.length ≤ 140737488355328) && decide ((joinT es sep).length ≤ 140737488355328) then some ⟨[.s (txt (joinT es sep))], []⟩ else none
  | _ => none
def prSplit : List Arg → Option Outs := fun _ => none
def prAtoi : List Arg → Option Outs := fun _ => none
section
variable {P : Program} {E : Env} {w w' : World} {S : Nat → Prop}
theorem prItoa_some {ins : List Arg} {out : Outs} (h : prItoa ins = some out) : ∃ n, ins = [.v [.i n]] ∧ -9223372036854775808 ≤ n ∧ n ≤ 9223372036854775807 ∧ out = ⟨[.s (txt (Lib.itoa n))], []⟩ := by
  unfold prItoa at h
  split at h
  · rename_i n
    obtain ⟨hc, h⟩ := cond_some h
    obtain ⟨h1, h2⟩ := and_some hc
    cases h
    exact ⟨n, rfl, of_decide_eq_true h1, of_decide_eq_true h2, rfl⟩
  · cases h
theorem prJoin_some {ins : List Arg} {out : Outs} (h : prJoin ins = some out) : ∃ es sep, ins = [.v [.r es], .v [.s sep]] ∧ es.length ≤ 140737488355328 ∧ (joinT es sep).length ≤ 140737488355328 ∧ out = ⟨[.s (txt (joinT es sep))], []⟩ := by
  unfold prJoin at h
  split at h
  · rename_i es sep
    obtain ⟨hc, h⟩ := cond_some h
    obtain ⟨h1, h2⟩ := and_some hc
    cases h
    exact ⟨es, sep, rfl, of_decide_eq_true h1, of_decide_eq_true h2, rfl⟩
  · cases h
/-- One argument of one cell that is seen. -/
theorem AOk_cell {t : Nat} {ty : Ty} {x : T} {v : Value} {bs : List Nat} (hf : E.flat t = [ty]) (ha : E.isAgg t = false) (hp : ∀ e, ty ≠ .ptr e) (h : AOk E w S [] t (.v [x]) v bs) : RC E w S ty x v ∧ bs = [] := by
  obtain ⟨vs, h1, h2⟩ := h
  unfold Shape at h1
  rw [ha] at h1
  have h1 : vs = [v] := h1
  subst h1
  rw [fl_nil, hf] at h2
  obtain ⟨b1, b2, rfl, h3, h4⟩ := h2
  have h4 : b2 = [] := h4
  subst h4
  have h3 : RC E w S ty x v ∧ b1 = [] := by
    cases ty <;> first | exact h3 | exact absurd rfl (hp _)
  exact ⟨h3.1, by rw [h3.2]; rfl⟩
/-- What a call leaves that answers one text and turns nothing of what was there. -/
theorem post_str {sg : Sig} {fn : Func} {tb : Nat} {bs : List Nat} {ins : List Arg} {args : List Value} {s : ByteArray} (hs1 : sg.ins = []) (hs2 : sg.res = []) (hres : fn.resultTypes.toList = [tb]) (hfl : E.flat tb = [.str]) (ha : E.isAgg tb = false)
    (hV : ∀ S', VOk E w' S' sg.ins (pars sg fn) ins args [] []) (hb : Below w.heap.size w w') : Post E sg fn S bs ins args ⟨[.s s], []⟩ w (.string s) w' := by
  refine ⟨[], [], List.nodup_nil, fun b hb => by simp at hb, hb.os, hb.tape, hb.output, hb.size, fun k hk _ => hb.block k hk, ⟨[.string s], [.string s], ?_, ?_, ?_⟩, hV _⟩
  · rw [hres]; rfl
  · rw [hres]
    refine ⟨[.string s], [], rfl, ?_, ?_, rfl⟩
    · unfold Shape; rw [ha]
    · unfold Env.sz; rw [hfl]; rfl
  · rw [hs2, hres, fl_nil]
    show BCs E w' _ [] (E.flat tb ++ []) [.s s] [.string s] []
    rw [hfl]
    exact ⟨[], [], rfl, ⟨.str, rfl⟩, rfl⟩
/-- A row of texts that is seen. -/
theorem strs_of {e : Nat} (hf : E.flat e = [.str]) {es : List (List T)} {v : Value} (h : RC E w S (.row e) (.r es) v) (hS : ∀ b, S b → b < w.heap.size) :
    ∃ xs : List ByteArray, es.map (fun c => (c.getD 0 (.i 0)).asS) = xs ∧ ((es = [] ∧ ∃ a c, v = .slice a 0 c) ∨ ∃ g o c, v = .slice (some ⟨g, o, none⟩) xs.length c ∧ (∀ (j : Nat) x, xs[j]? = some x → w.cell? ⟨g, o + j, none⟩ = some (.string x)) ∧ g < w.heap.size ∧ xs.length ≤ c) := by
  refine ⟨_, rfl, ?_⟩
  have hsz : E.sz e = 1 := by unfold Env.sz; rw [hf]; rfl
  cases h with
  | nl => exact .inl ⟨rfl, none, 0, rfl⟩
  | @emp _ a c => exact .inl ⟨rfl, some a, c, rfl⟩
  | @row _ _ g o cap vs hcap hSg hv hr =>
    cases es with
    | nil => exact .inl ⟨rfl, _, _, rfl⟩
    | cons c0 es =>
      refine .inr ⟨g, o, cap, by simp, fun j x hx => ?_, hS g (hSg (by simp)), by simpa using hcap⟩
      rw [List.getElem?_map, Option.map_eq_some_iff] at hx
      obtain ⟨c, hc, rfl⟩ := hx
      obtain ⟨hlt, hcc⟩ := List.getElem?_eq_some_iff.1 hc
      have h1 := hv j 0 hlt (by omega)
      have h2 := hr j 0 hlt (by omega)
      rw [hsz, Nat.mul_one, Nat.add_zero] at h1
      rw [h1]
      have hty : tyAt E e 0 = .str := by unfold tyAt; rw [hf]; rfl
      rw [hty] at h2
      have ht : tAt (c0 :: es) j 0 = c.getD 0 (.i 0) := by
        have hg : (c0 :: es).getD j [] = c := by rw [List.getD_eq_getElem?_getD, hc]; rfl
        unfold tAt; rw [hg]
      rw [ht] at h2
      generalize c.getD 0 (.i 0) = q at h2 ⊢
      generalize vs j 0 = u at h2 ⊢
      cases h2; rfl
end
end Go.Proofs.YtbmkpnabhodggaaDoor.Ev
