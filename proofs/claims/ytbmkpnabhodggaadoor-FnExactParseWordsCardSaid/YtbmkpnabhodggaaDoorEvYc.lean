/- Functions of Go's library, as the shelf's contracts tell them; what such a call leaves. No condition. -/
import Derived.Test.YtbmkpnabhodggaaDoorEvYb
import Derived.Lib.ItoaNum
import Derived.Lib.Join
import Derived.Lib.LaidTab
import Derived.Lib.AtoiAll
import Derived.Lib.Split
namespace Go.Proofs.YtbmkpnabhodggaaDoor.Ev
open Go Go.RowKit
set_option linter.unusedVariables false
set_option linter.unusedSimpArgs false
/-- A block that holds a table. -/
def tabObj (k : IntKind) (zs : List Int) (o : Option Obj) : Prop := ∃ el fr, o = some (.cells (zs.map fun z => Value.int k z).toArray el fr)
theorem tabIs_of {P : Program} {w : World} {name : String} {g : Nat} {k : IntKind} {zs : List Int} (hn : P.globalNamed name = some g) (h : tabObj k zs w.heap[g]?) : Lib.TabIs P w name k zs := by
  obtain ⟨el, fr, h⟩ := h
  unfold Lib.TabIs World.var?
  rw [hn, Option.bind_some, h]
theorem tabObj_of {P : Program} {w : World} {name : String} {g : Nat} {k : IntKind} {zs : List Int} (hn : P.globalNamed name = some g) (h : Lib.TabIs P w name k zs) : tabObj k zs w.heap[g]? ∧ g < w.heap.size := by
  unfold Lib.TabIs World.var? at h
  rw [hn, Option.bind_some] at h
  split at h
  · rename_i cs el fr hc
    cases h
    refine ⟨⟨el, fr, hc⟩, ?_⟩
    rcases Nat.lt_or_ge g w.heap.size with hlt | hge
    · exact hlt
    · rw [Array.getElem?_eq_none hge] at hc; cases hc
  · cases h
def txt (l : List UInt8) : ByteArray := ⟨l.toArray⟩
def prItoa : List Arg → Option Outs
  | [.v [.i n]] => bif decide (-9223372036854775808 ≤ n) && decide (n ≤ 9223372036854775807) then some ⟨[.s (txt (Lib.itoa n))], []⟩ else none
  | _ => none
def joinT (es : List (List T)) (sep : ByteArray) : List UInt8 := Lib.join (es.map fun c => (c.getD 0 (.i 0)).asS.data.toList) sep.data.toList
def prJoin : List Arg → Option Outs
  | [.v [.r es], .v [.s sep]] => bif decide (es.length ≤ 140737488355328) && decide ((joinT es sep).length ≤ 140737488355328) then some ⟨[.s (txt (joinT es sep))], []⟩ else none
  | _ => none
def splitT (s sep : ByteArray) : List ByteArray := Lib.splitB sep 0 (Lib.countB s sep) s
def prSplit : List Arg → Option Outs
  | [.v [.s s], .v [.s sep]] => bif decide (s.size < 4294967281) && decide (1 ≤ sep.size) then some ⟨[.r ((splitT s sep).map fun x => [.s x])], []⟩ else none
  | _ => none
/-- What parseWord answers. -/
def pwT (s : ByteArray) : Int × Bool :=
  match Lib.atoiAll s.data.toList with
  | .ok v => bif (decide (0 ≤ v) && decide (v ≤ 65535)) && (Lib.itoa v == s.toList) then (v, true) else (0, false)
  | _ => (0, false)
def prPw : List Arg → Option Outs
  | [.v [.s s]] => bif decide (s.size ≤ 281474976710656) then some ⟨[.i (pwT s).1, .b (pwT s).2], []⟩ else none
  | _ => none
/-- A block that holds an interface value; one that holds a whole number. -/
def ifObj (o : Option Obj) : Prop := ∃ te pe cs el fr, o = some (.cells cs el fr) ∧ cs[0]? = some (.iface te pe)
def intObj (o : Option Obj) : Prop := ∃ m cs el fr, o = some (.cells cs el fr) ∧ cs[0]? = some (.int .i64 m)
theorem cell0 {w : World} {g : Nat} {v : Value} (h : w.cell? ⟨g, 0, none⟩ = some v) : ∃ cs el fr, w.heap[g]? = some (.cells cs el fr) ∧ cs[0]? = some v := by
  unfold World.cell? at h
  split at h
  · rename_i cs el fr hc
    exact ⟨cs, _, _, hc, by simpa using h⟩
  · cases h
theorem cell0_lt {w : World} {g : Nat} {v : Value} (h : w.cell? ⟨g, 0, none⟩ = some v) : g < w.heap.size := by
  obtain ⟨cs, el, fr, hc, _⟩ := cell0 h
  rcases Nat.lt_or_ge g w.heap.size with hlt | hge
  · exact hlt
  · rw [Array.getElem?_eq_none hge] at hc; cases hc
section
variable {P : Program} {E : Env} {w w' : World} {S : Nat → Prop}
theorem prItoa_some {ins : List Arg} {out : Outs} (h : prItoa ins = some out) : ∃ n, ins = [.v [.i n]] ∧ -9223372036854775808 ≤ n ∧ n ≤ 9223372036854775807 ∧ out = ⟨[.s (txt (Lib.itoa n))], []⟩ := by
  unfold prItoa at h
  split at h
  · rename_i n
    obtain ⟨hc, h⟩ := cond_some h
    obtain ⟨h1, h2⟩ := and_some hc
    cases h
    exact ⟨n, rfl, of_decide_eq_true h1, of_decide_eq_true h2, rfl⟩
  · cases h
theorem prJoin_some {ins : List Arg} {out : Outs} (h : prJoin ins = some out) : ∃ es sep, ins = [.v [.r es], .v [.s sep]] ∧ es.length ≤ 140737488355328 ∧ (joinT es sep).length ≤ 140737488355328 ∧ out = ⟨[.s (txt (joinT es sep))], []⟩ := by
  unfold prJoin at h
  split at h
  · rename_i es sep
    obtain ⟨hc, h⟩ := cond_some h
    obtain ⟨h1, h2⟩ := and_some hc
    cases h
    exact ⟨es, sep, rfl, of_decide_eq_true h1, of_decide_eq_true h2, rfl⟩
  · cases h
theorem prSplit_some {ins : List Arg} {out : Outs} (h : prSplit ins = some out) : ∃ s sep, ins = [.v [.s s], .v [.s sep]] ∧ s.size < 4294967281 ∧ 1 ≤ sep.size ∧ out = ⟨[.r ((splitT s sep).map fun x => [.s x])], []⟩ := by
  unfold prSplit at h
  split at h
  · rename_i s sep
    obtain ⟨hc, h⟩ := cond_some h
    obtain ⟨h1, h2⟩ := and_some hc
    cases h
    exact ⟨s, sep, rfl, of_decide_eq_true h1, of_decide_eq_true h2, rfl⟩
  · cases h
theorem prPw_some {ins : List Arg} {out : Outs} (h : prPw ins = some out) : ∃ s, ins = [.v [.s s]] ∧ s.size ≤ 281474976710656 ∧ out = ⟨[.i (pwT s).1, .b (pwT s).2], []⟩ := by
  unfold prPw at h
  split at h
  · rename_i s
    obtain ⟨hc, h⟩ := cond_some h
    cases h
    exact ⟨s, rfl, of_decide_eq_true hc, rfl⟩
  · cases h
/-- One argument of one cell that is seen. -/
theorem AOk_cell {t : Nat} {ty : Ty} {x : T} {v : Value} {bs : List Nat} (hf : E.flat t = [ty]) (ha : E.isAgg t = false) (hp : ∀ e, ty ≠ .ptr e) (h : AOk E w S [] t (.v [x]) v bs) : RC E w S ty x v ∧ bs = [] := by
  obtain ⟨vs, h1, h2⟩ := h
  unfold Shape at h1
  rw [ha] at h1
  have h1 : vs = [v] := h1
  subst h1
  rw [fl_nil, hf] at h2
  obtain ⟨b1, b2, rfl, h3, h4⟩ := h2
  have h4 : b2 = [] := h4
  subst h4
  have h3 : RC E w S ty x v ∧ b1 = [] := by
    cases ty <;> first | exact h3 | exact absurd rfl (hp _)
  exact ⟨h3.1, by rw [h3.2]; rfl⟩
/-- What a call leaves that answers one text and turns nothing of what was there. -/
theorem post_str {sg : Sig} {fn : Func} {tb : Nat} {bs : List Nat} {ins : List Arg} {args : List Value} {s : ByteArray} (hs1 : sg.ins = []) (hs2 : sg.res = []) (hres : fn.resultTypes.toList = [tb]) (hfl : E.flat tb = [.str]) (ha : E.isAgg tb = false)
    (hV : ∀ S', VOk E w' S' sg.ins (pars sg fn) ins args [] []) (hb : Below w.heap.size w w') : Post E sg fn S bs ins args ⟨[.s s], []⟩ w (.string s) w' := by
  refine ⟨[], [], List.nodup_nil, fun b hb => by simp at hb, hb.os, hb.tape, hb.output, hb.size, fun k hk _ => hb.block k hk, ⟨[.string s], [.string s], ?_, ?_, ?_⟩, hV _⟩
  · rw [hres]; rfl
  · rw [hres]
    refine ⟨[.string s], [], rfl, ?_, ?_, rfl⟩
    · unfold Shape; rw [ha]
    · unfold Env.sz; rw [hfl]; rfl
  · rw [hs2, hres, fl_nil]
    show BCs E w' _ [] (E.flat tb ++ []) [.s s] [.string s] []
    rw [hfl]
    exact ⟨[], [], rfl, ⟨.str, rfl⟩, rfl⟩
/-- What a call leaves that answers a whole number and a bool and turns nothing of what was there. -/
theorem post_ib {sg : Sig} {fn : Func} {t1 t2 : Nat} {bs : List Nat} {ins : List Arg} {args : List Value} {n : Int} {x : Bool} (hs1 : sg.ins = []) (hs2 : sg.res = []) (hres : fn.resultTypes.toList = [t1, t2]) (hf1 : E.flat t1 = [.int .i64]) (ha1 : E.isAgg t1 = false) (hf2 : E.flat t2 = [.bool]) (ha2 : E.isAgg t2 = false)
    (hV : ∀ S', VOk E w' S' sg.ins (pars sg fn) ins args [] []) (hb : Below w.heap.size w w') : Post E sg fn S bs ins args ⟨[.i n, .b x], []⟩ w (.tuple #[.int .i64 n, .bool x]) w' := by
  refine ⟨[], [], List.nodup_nil, fun b hb => by simp at hb, hb.os, hb.tape, hb.output, hb.size, fun k hk _ => hb.block k hk, ⟨[.int .i64 n, .bool x], [.int .i64 n, .bool x], ?_, ?_, ?_⟩, hV _⟩
  · rw [hres]; exact ⟨_, rfl, rfl⟩
  · rw [hres]
    refine ⟨[.int .i64 n], [.bool x], rfl, ?_, ?_, [.bool x], [], rfl, ?_, ?_, rfl⟩
    · unfold Shape; rw [ha1]
    · unfold Env.sz; rw [hf1]; rfl
    · unfold Shape; rw [ha2]
    · unfold Env.sz; rw [hf2]; rfl
  · rw [hs2, hres, fl_nil]
    show BCs E w' _ [] (E.flat t1 ++ (E.flat t2 ++ [])) [.i n, .b x] [.int .i64 n, .bool x] []
    rw [hf1, hf2]
    exact ⟨[], [], rfl, ⟨.int, rfl⟩, [], [], rfl, ⟨.bool, rfl⟩, rfl⟩
/-- What a call leaves that answers a new row of texts. -/
theorem post_strs {sg : Sig} {fn : Func} {tb e : Nat} {bs : List Nat} {ins : List Arg} {args : List Value} {xs : List ByteArray} (hs1 : sg.ins = []) (hs2 : sg.res = [true]) (hres : fn.resultTypes.toList = [tb]) (hfl : E.flat tb = [.row e]) (ha : E.isAgg tb = false) (hfe : E.flat e = [.str])
    (hbs : ∀ b, b ∈ bs → b < w.heap.size) (hxs : xs.length ≤ maxLen) (hV : ∀ S', VOk E (w.alloc (.cells (xs.map Value.string).toArray e)) S' sg.ins (pars sg fn) ins args [] []) :
    Post E sg fn S bs ins args ⟨[.r (xs.map fun x => [.s x])], []⟩ w (.slice (some ⟨w.heap.size, 0, none⟩) xs.length xs.length) (w.alloc (.cells (xs.map Value.string).toArray e)) := by
  have hsz : E.sz e = 1 := by unfold Env.sz; rw [hfe]; rfl
  have hsize : (w.alloc (.cells (xs.map Value.string).toArray e)).heap.size = w.heap.size + 1 := Array.size_push _
  have hnew : (w.alloc (.cells (xs.map Value.string).toArray e)).heap[w.heap.size]? = some (.cells (xs.map Value.string).toArray e) := by
    show (w.heap.push _)[w.heap.size]? = _
    simp
  refine ⟨[w.heap.size], [], by simp, fun b hb => ?_, rfl, rfl, rfl, by omega, fun k hk _ => ?_, ⟨[.slice (some ⟨w.heap.size, 0, none⟩) xs.length xs.length], [.slice (some ⟨w.heap.size, 0, none⟩) xs.length xs.length], ?_, ?_, ?_⟩, hV _⟩
  · rw [List.append_nil, List.mem_singleton] at hb
    subst hb
    exact ⟨by omega, .inr (Nat.le_refl _)⟩
  · show (w.heap.push _)[k]? = _
    rw [Array.getElem?_push, if_neg (Nat.ne_of_lt hk)]
  · rw [hres]; rfl
  · rw [hres]
    refine ⟨[.slice (some ⟨w.heap.size, 0, none⟩) xs.length xs.length], [], rfl, ?_, ?_, rfl⟩
    · unfold Shape; rw [ha]
    · unfold Env.sz; rw [hfl]; rfl
  · have hfw : fl sg.res (resTys E fn.resultTypes.toList) = [.row e] := by
      rw [hs2, hres]
      show dT ([true].drop (E.flat tb ++ []).length) (E.flat tb ++ []) = _
      rw [hfl]; rfl
    rw [hfw, hs2]
    refine ⟨[w.heap.size], [], rfl, ⟨⟨_, xs.map Value.string, rfl, ?_, fun i j hi hj => ?_⟩, rfl⟩, rfl⟩
    · rw [hsz, List.length_map]
      exact ⟨by simp, .inr ⟨w.heap.size, xs.length, _, rfl, Nat.zero_le _, hnew, Nat.le_refl _, hxs, by simp, by rw [Nat.mul_one]; exact List.take_of_length_le (by simp)⟩⟩
    · rw [List.length_map] at hi
      rw [hsz] at hj ⊢
      obtain rfl : j = 0 := by omega
      refine ⟨.string xs[i], by simp [hi], ?_⟩
      have hty : tyAt E e 0 = .str := by unfold tyAt; rw [hfe]; rfl
      have ht : tAt (xs.map fun x => [T.s x]) i 0 = .s xs[i] := by
        unfold tAt; simp [List.getD_eq_getElem?_getD, hi]
      rw [hty, ht]; exact .str
/-- A row of texts that is seen. -/
theorem strs_of {e : Nat} (hf : E.flat e = [.str]) {es : List (List T)} {v : Value} (h : RC E w S (.row e) (.r es) v) (hS : ∀ b, S b → b < w.heap.size) :
    ∃ xs : List ByteArray, es.map (fun c => (c.getD 0 (.i 0)).asS) = xs ∧ ((es = [] ∧ ∃ a c, v = .slice a 0 c) ∨ ∃ g o c, v = .slice (some ⟨g, o, none⟩) xs.length c ∧ (∀ (j : Nat) x, xs[j]? = some x → w.cell? ⟨g, o + j, none⟩ = some (.string x)) ∧ g < w.heap.size ∧ xs.length ≤ c) := by
  refine ⟨_, rfl, ?_⟩
  have hsz : E.sz e = 1 := by unfold Env.sz; rw [hf]; rfl
  cases h with
  | nl => exact .inl ⟨rfl, none, 0, rfl⟩
  | @emp _ a c => exact .inl ⟨rfl, some a, c, rfl⟩
  | @row _ _ g o cap vs hcap hSg hv hr =>
    cases es with
    | nil => exact .inl ⟨rfl, _, _, rfl⟩
    | cons c0 es =>
      refine .inr ⟨g, o, cap, by simp, fun j x hx => ?_, hS g (hSg (by simp)), by simpa using hcap⟩
      rw [List.getElem?_map, Option.map_eq_some_iff] at hx
      obtain ⟨c, hc, rfl⟩ := hx
      obtain ⟨hlt, hcc⟩ := List.getElem?_eq_some_iff.1 hc
      have h1 := hv j 0 hlt (by omega)
      have h2 := hr j 0 hlt (by omega)
      rw [hsz, Nat.mul_one, Nat.add_zero] at h1
      rw [h1]
      have hty : tyAt E e 0 = .str := by unfold tyAt; rw [hf]; rfl
      rw [hty] at h2
      have ht : tAt (c0 :: es) j 0 = c.getD 0 (.i 0) := by
        have hg : (c0 :: es).getD j [] = c := by rw [List.getD_eq_getElem?_getD, hc]; rfl
        unfold tAt; rw [hg]
      rw [ht] at h2
      generalize c.getD 0 (.i 0) = q at h2 ⊢
      generalize vs j 0 = u at h2 ⊢
      cases h2; rfl
end
end Go.Proofs.YtbmkpnabhodggaaDoor.Ev
