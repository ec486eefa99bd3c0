/- The library's functions at this seat, by the shelf's contracts: what the evaluator takes them for. Of the world as of a premise: the table of powers of ten. -/
import Derived.Test.YtbmkpnabhodggaaDoorTab
import Derived.Ground.NamesProg
import Derived.Shelf.Lay
import Derived.Shelf.LaysM
import Derived.Shelf.Strconv.Itoa3
import Derived.Shelf.Strings.OnBuilder
import Derived.Lib.AppendIntMem
namespace Go.Proofs
open Go.Shelf Go.RowKit Go.Proofs.YtbmkpnabhodggaaDoor.Ev
set_option maxRecDepth 100000
shelf_lay LaysM.n171 Nm 171 at Tryd as Tryd.laysItoa
shelf_lay Lays.n156 Nm 156 at Tryd as Tryd.laysJoin
theorem Tryd.extraJoin : Builder.Extra Tryd.prog Tryd.laysJoin_ren where
  sizeBuilder := by kernel_rfl
  liesBuilder := by kernel_rfl
  t5 := by kernel_rfl
  a5 := fun w => (run_agg (E := E) tabOk_ (t := Tryd.laysJoin_ren.t 5) (by kernel_rfl) w).trans (by rw [show E.isAgg (Tryd.laysJoin_ren.t 5) = false by kernel_rfl])
  z5 := fun w => (run_sz (E := E) tabOk_ (t := Tryd.laysJoin_ren.t 5) (by kernel_rfl) w).trans (by rw [show E.sz (Tryd.laysJoin_ren.t 5) = 1 by kernel_rfl])
  v5 := fun w => by
    obtain ⟨i0, hi0, hz0, _, _⟩ := info_parts (show (Tryd.prog.info? (Tryd.laysJoin_ren.t 5)).map (fun i => (i.zero, i.size, i.bytes)) = some (some (.int .u8 0), 1, 1) by kernel_rfl)
    simp [zeroValue, typeInfo, hi0, hz0]
  infoByte := by kernel_rfl
  cellsByte := by kernel_rfl
  sizeByte := by kernel_rfl
  neB5 := by decide
end Go.Proofs
namespace Go.Proofs.YtbmkpnabhodggaaDoor.Ev
open Go Go.Proofs Go.RowKit
set_option linter.unusedVariables false
set_option maxRecDepth 100000
theorem tabGlobal : Tryd.prog.globalNamed "internal/strconv.uint64pow10" = some tabG := by kernel_rfl
theorem flatStr : E.flat tStr = [.str] := by kernel_rfl
theorem aggStr : E.isAgg tStr = false := by kernel_rfl
theorem flatInt : E.flat tInt = [.int .i64] := by kernel_rfl
theorem aggInt : E.isAgg tInt = false := by kernel_rfl
theorem flatStrs : E.flat tStrs = [.row tStr] := by kernel_rfl
theorem aggStrs : E.isAgg tStrs = false := by kernel_rfl
theorem nItoa : Tryd.laysItoa_ren.f 171 = N.strconv_Itoa := by kernel_rfl
theorem nJoin : Tryd.laysJoin_ren.f 156 = N.strings_Join := by kernel_rfl
theorem fnItoa : E.fn N.strconv_Itoa = some fItoa := by kernel_rfl
theorem fnJoin : E.fn N.strings_Join = some fJoin := by kernel_rfl
theorem resItoa : fItoa.resultTypes.toList = [tStr] := by kernel_rfl
theorem resJoin : fJoin.resultTypes.toList = [tStr] := by kernel_rfl
theorem sigItoa : E.sig N.strconv_Itoa = ⟨[], [], [], false⟩ := by kernel_rfl
theorem sigJoin : E.sig N.strings_Join = ⟨[], [], [], false⟩ := by kernel_rfl
theorem parItoa : pars ⟨[], [], [], false⟩ fItoa = [tInt] := by kernel_rfl
theorem parJoin : pars ⟨[], [], [], false⟩ fJoin = [tStrs, tStr] := by kernel_rfl
theorem tabIn {w : World} {bs : List Nat} (hG : GOk E w bs) : Lib.TabIs Tryd.prog w "internal/strconv.uint64pow10" .u64 Lib.pow10Tab :=
  tabIs_of tabGlobal (hG (tabG, tabObj .u64 Lib.pow10Tab) (show _ ∈ [(tabG, tabObj .u64 Lib.pow10Tab)] from List.mem_singleton.2 rfl)).2.2
theorem itoa_prim (ins : List Arg) (out : Outs) (h : prItoa ins = some out) (w : World) (args : List Value) (bs : List Nat) (S : Nat → Prop) (hG : GOk E w bs)
    (hA : AsOk E w S (E.sig N.strconv_Itoa).ins (pars (E.sig N.strconv_Itoa) fItoa) ins args bs) :
    Calls Tryd.prog N.strconv_Itoa args.toArray w fun e w' => ∃ v, e = .returned v ∧ Post E (E.sig N.strconv_Itoa) fItoa S bs ins args out w v w' := by
  obtain ⟨n, rfl, h0, h1, rfl⟩ := prItoa_some h
  rw [sigItoa] at hA ⊢
  rw [parItoa] at hA
  match args, hA with
  | [v], ⟨b1, b2, _, h2, h3⟩ =>
    obtain ⟨h4, _⟩ := AOk_cell flatInt aggInt (fun e he => by cases he) h2
    cases h4
    have := Any.strconv_Itoa Tryd.laysItoa n h0 h1 w (tabIn hG)
    rw [nItoa] at this
    refine this.mono ?_
    rintro e w' ⟨rfl, k, os, rfl⟩
    exact ⟨_, rfl, post_str rfl rfl resItoa flatStr aggStr (fun S' => by rw [parItoa]; rfl) (Lib.below_grow _ _ (Nat.le_refl _) _ _)⟩
theorem join_prim (ins : List Arg) (out : Outs) (h : prJoin ins = some out) (w : World) (args : List Value) (bs : List Nat) (S : Nat → Prop) (hS : ∀ b, S b → b < w.heap.size ∧ b ∉ bs)
    (hA : AsOk E w S (E.sig N.strings_Join).ins (pars (E.sig N.strings_Join) fJoin) ins args bs) :
    Calls Tryd.prog N.strings_Join args.toArray w fun e w' => ∃ v, e = .returned v ∧ Post E (E.sig N.strings_Join) fJoin S bs ins args out w v w' := by
  obtain ⟨es, sep, rfl, h0, h1, rfl⟩ := prJoin_some h
  rw [sigJoin] at hA ⊢
  rw [parJoin] at hA
  match args, hA with
  | [v, u], ⟨b1, b2, _, h2, b3, b4, _, h5, h6⟩ =>
    obtain ⟨h4, _⟩ := AOk_cell flatStrs aggStrs (fun e he => by cases he) h2
    obtain ⟨h7, _⟩ := AOk_cell flatStr aggStr (fun e he => by cases he) h5
    cases h7
    obtain ⟨xs, hxs, hrow⟩ := strs_of flatStr h4 (fun b hb => (hS b hb).1)
    have hj : joinT es sep = Lib.join (xs.map (·.data.toList)) sep.data.toList := by
      unfold joinT; rw [← hxs, List.map_map]; rfl
    have hlen : xs.length = es.length := by rw [← hxs, List.length_map]
    rcases hrow with ⟨rfl, a, c, rfl⟩ | ⟨g, o, c, rfl, hc, hg, hcap⟩
    · have := Any.strings_Join_none Tryd.laysJoin Tryd.extraJoin a c sep w
      rw [nJoin] at this
      refine this.mono ?_
      rintro e w' ⟨rfl, rfl⟩
      exact ⟨_, rfl, post_str rfl rfl resJoin flatStr aggStr (fun S' => by rw [parJoin]; rfl) (Below.refl _ _)⟩
    · have := Any.strings_Join Tryd.laysJoin Tryd.extraJoin g o c xs sep w hc hg (by rw [hlen]; exact h0) hcap (by rw [← hj]; exact h1)
      rw [nJoin] at this
      refine this.mono ?_
      rintro e w' ⟨rfl, hb⟩
      rw [← hj]
      exact ⟨_, rfl, post_str rfl rfl resJoin flatStr aggStr (fun S' => by rw [parJoin]; rfl) hb⟩
theorem prims_ : PrimOk Tryd.prog E P0 := fun f fn g ins out hfn hg h w args bs S hnd hbs hS hG hA => by
  unfold P0 at hg
  cases hb : Nat.beq f N.strings_Join with
  | true =>
    have := Nat.eq_of_beq_eq_true hb
    subst this
    cases hg
    rw [fnJoin] at hfn; cases hfn
    exact join_prim ins out h w args bs S hS hA
  | false =>
    rw [hb, cond_false] at hg
    cases hs : Nat.beq f N.strings_Split with
    | true => rw [hs] at hg; cases hg; cases h
    | false =>
      rw [hs, cond_false] at hg
      cases hi : Nat.beq f N.strconv_Itoa with
      | true =>
        have := Nat.eq_of_beq_eq_true hi
        subst this
        cases hg
        rw [fnItoa] at hfn; cases hfn
        exact itoa_prim ins out h w args bs S hG hA
      | false => rw [hi] at hg; cases hg
theorem sound_ (k : Nat) : FnOk Tryd.prog E (evalF E P0 k) := eval_sound tabOk_ tabF_ orders_ prims_ k
end Go.Proofs.YtbmkpnabhodggaaDoor.Ev
