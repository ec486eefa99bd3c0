/- The library's functions at this seat, by the shelf's contracts: what the evaluator takes them for. Of the world as of a premise: the table of powers of ten. -/
import Derived.Test.YtbmkpnabhodggaaDoorTab
import Derived.Ground.NamesProg
import Derived.Shelf.Lay
import Derived.Shelf.LaysM
import Derived.Shelf.Strconv.Itoa3
import Derived.Shelf.Strings.OnBuilder
import Derived.Shelf.Strings.SplitShaped
import Derived.Lib.AppendIntMem
import Derived.Test.YtbmkpnabhodggaaDoorEvZp
namespace Go.Proofs
open Go.Shelf Go.RowKit Go.Proofs.YtbmkpnabhodggaaDoor.Ev
set_option maxRecDepth 100000
shelf_lay LaysM.n171 Nm 171 at Tryd as Tryd.laysItoa
shelf_lay Lays.n156 Nm 156 at Tryd as Tryd.laysJoin
shelf_lay LaysM.n146 Nm 146 at Tryd as Tryd.laysSplit
theorem Tryd.extraJoin : Builder.Extra Tryd.prog Tryd.laysJoin_ren where
  sizeBuilder := by kernel_rfl
  liesBuilder := by kernel_rfl
  t5 := by kernel_rfl
  a5 := fun w => (run_agg (E := E) tabOk_ (t := Tryd.laysJoin_ren.t 5) (by kernel_rfl) w).trans (by rw [show E.isAgg (Tryd.laysJoin_ren.t 5) = false by kernel_rfl])
  z5 := fun w => (run_sz (E := E) tabOk_ (t := Tryd.laysJoin_ren.t 5) (by kernel_rfl) w).trans (by rw [show E.sz (Tryd.laysJoin_ren.t 5) = 1 by kernel_rfl])
  v5 := fun w => by
    obtain ⟨i0, hi0, hz0, _, _⟩ := info_parts (show (Tryd.prog.info? (Tryd.laysJoin_ren.t 5)).map (fun i => (i.zero, i.size, i.bytes)) = some (some (.int .u8 0), 1, 1) by kernel_rfl)
    simp [zeroValue, typeInfo, hi0, hz0]
  infoByte := by kernel_rfl
  cellsByte := by kernel_rfl
  sizeByte := by kernel_rfl
  neB5 := by decide
end Go.Proofs
namespace Go.Proofs.YtbmkpnabhodggaaDoor.Ev
open Go Go.Proofs Go.RowKit
set_option linter.unusedVariables false
set_option maxRecDepth 100000
theorem tabGlobal : Tryd.prog.globalNamed "internal/strconv.uint64pow10" = some tabG := by kernel_rfl
theorem flatStr : E.flat tStr = [.str] := by kernel_rfl
theorem aggStr : E.isAgg tStr = false := by kernel_rfl
theorem flatInt : E.flat tInt = [.int .i64] := by kernel_rfl
theorem aggInt : E.isAgg tInt = false := by kernel_rfl
theorem flatStrs : E.flat tStrs = [.row tStr] := by kernel_rfl
theorem aggStrs : E.isAgg tStrs = false := by kernel_rfl
theorem nItoa : Tryd.laysItoa_ren.f 171 = N.strconv_Itoa := by kernel_rfl
theorem nJoin : Tryd.laysJoin_ren.f 156 = N.strings_Join := by kernel_rfl
theorem fnItoa : E.fn N.strconv_Itoa = some fItoa := by kernel_rfl
theorem fnJoin : E.fn N.strings_Join = some fJoin := by kernel_rfl
theorem resItoa : fItoa.resultTypes.toList = [tStr] := by kernel_rfl
theorem resJoin : fJoin.resultTypes.toList = [tStr] := by kernel_rfl
theorem sigItoa : E.sig N.strconv_Itoa = ⟨[], [], [], false⟩ := by kernel_rfl
theorem sigJoin : E.sig N.strings_Join = ⟨[], [], [], false⟩ := by kernel_rfl
theorem parItoa : pars ⟨[], [], [], false⟩ fItoa = [tInt] := by kernel_rfl
theorem parJoin : pars ⟨[], [], [], false⟩ fJoin = [tStrs, tStr] := by kernel_rfl
theorem nSplit : Tryd.laysSplit_ren.f 146 = N.strings_Split := by kernel_rfl
theorem gSplit : Tryd.laysSplit_ren.g 1 = 0 := by kernel_rfl
theorem tSplit : Tryd.laysSplit_ren.t 9 = tStr := by kernel_rfl
theorem fnSplit : E.fn N.strings_Split = some fSplit := by kernel_rfl
theorem fnPw : E.fn N.impl_parseWord = some fparseWord := by kernel_rfl
theorem resSplit : fSplit.resultTypes.toList = [tStrs] := by kernel_rfl
theorem resPw : fparseWord.resultTypes.toList = [tInt, tBool] := by kernel_rfl
theorem sigSplit : E.sig N.strings_Split = ⟨[], [true], [], false⟩ := by kernel_rfl
theorem sigPw : E.sig N.impl_parseWord = ⟨[], [], [], false⟩ := by kernel_rfl
theorem parSplit : pars ⟨[], [true], [], false⟩ fSplit = [tStr, tStr] := by kernel_rfl
theorem parPw : pars ⟨[], [], [], false⟩ fparseWord = [tStr] := by kernel_rfl
theorem flatBool : E.flat tBool = [.bool] := by kernel_rfl
theorem aggBool : E.isAgg tBool = false := by kernel_rfl
theorem glIs : E.gl = [(3, tabObj .u64 Lib.pow10Tab), (0, intObj), (1, ifObj), (2, ifObj)] := rfl
theorem tabIn {w : World} {bs : List Nat} (hG : GOk E w bs) : Lib.TabIs Tryd.prog w "internal/strconv.uint64pow10" .u64 Lib.pow10Tab :=
  tabIs_of tabGlobal (hG (tabG, tabObj .u64 Lib.pow10Tab) (by rw [glIs]; exact List.mem_cons_self)).2.2
theorem lenIn {w : World} {bs : List Nat} (hG : GOk E w bs) : ∃ m, w.cell? ⟨0, 0, none⟩ = some (.int .i64 m) := by
  obtain ⟨m, cs, el, fr, h, h0⟩ := (hG (0, intObj) (by rw [glIs]; simp)).2.2
  exact ⟨m, by simp [World.cell?, h, h0]⟩
theorem synIn {w : World} {bs : List Nat} (hG : GOk E w bs) : ∃ te pe, w.cell? ⟨1, 0, none⟩ = some (.iface te pe) := by
  obtain ⟨te, pe, cs, el, fr, h, h0⟩ := (hG (1, ifObj) (by rw [glIs]; simp)).2.2
  exact ⟨te, pe, by simp [World.cell?, h, h0]⟩
theorem rngIn {w : World} {bs : List Nat} (hG : GOk E w bs) : ∃ te pe, w.cell? ⟨2, 0, none⟩ = some (.iface te pe) := by
  obtain ⟨te, pe, cs, el, fr, h, h0⟩ := (hG (2, ifObj) (by rw [glIs]; simp)).2.2
  exact ⟨te, pe, by simp [World.cell?, h, h0]⟩
theorem split_prim (ins : List Arg) (out : Outs) (h : prSplit ins = some out) (w : World) (args : List Value) (bs : List Nat) (S : Nat → Prop) (hbs : ∀ b, b ∈ bs → b < w.heap.size) (hG : GOk E w bs)
    (hA : AsOk E w S (E.sig N.strings_Split).ins (pars (E.sig N.strings_Split) fSplit) ins args bs) :
    Calls Tryd.prog N.strings_Split args.toArray w fun e w' => ∃ v, e = .returned v ∧ Post E (E.sig N.strings_Split) fSplit S bs ins args out w v w' := by
  obtain ⟨s, sep, rfl, h0, h1, rfl⟩ := prSplit_some h
  rw [sigSplit] at hA ⊢
  rw [parSplit] at hA
  match args, hA with
  | [v, u], ⟨b1, b2, _, h2, b3, b4, _, h5, h6⟩ =>
    obtain ⟨h4, _⟩ := AOk_cell flatStr aggStr (fun e he => by cases he) h2
    obtain ⟨h7, _⟩ := AOk_cell flatStr aggStr (fun e he => by cases he) h5
    cases h4; cases h7
    obtain ⟨m, hm⟩ := lenIn hG
    have hlen : (splitT s sep).length = Lib.countB s sep + 1 := Lib.splitB_all sep h1 0 _ s rfl
    have hle := Lib.countB_le sep h1 s.size s (Nat.le_refl _)
    have := Any.strings_Split { Tryd.laysSplit with } Tryd.laysSplit.i9 s sep m w h0 (by rw [gSplit]; exact hm) h1
    rw [nSplit, tSplit, ← hlen] at this
    refine this.mono ?_
    rintro e w' ⟨rfl, rfl⟩
    exact ⟨_, rfl, post_strs rfl rfl resSplit flatStrs aggStrs flatStr hbs (by rw [hlen]; unfold maxLen; omega) (fun S' => by rw [parSplit]; rfl)⟩
theorem pw_prim (ins : List Arg) (out : Outs) (h : prPw ins = some out) (w : World) (args : List Value) (bs : List Nat) (S : Nat → Prop) (hbs : ∀ b, b ∈ bs → b < w.heap.size) (hG : GOk E w bs)
    (hA : AsOk E w S (E.sig N.impl_parseWord).ins (pars (E.sig N.impl_parseWord) fparseWord) ins args bs) :
    Calls Tryd.prog N.impl_parseWord args.toArray w fun e w' => ∃ v, e = .returned v ∧ Post E (E.sig N.impl_parseWord) fparseWord S bs ins args out w v w' := by
  obtain ⟨s, rfl, h0, rfl⟩ := prPw_some h
  rw [sigPw] at hA ⊢
  rw [parPw] at hA
  match args, hA with
  | [v], ⟨b1, b2, _, h2, h3⟩ =>
    obtain ⟨h4, _⟩ := AOk_cell flatStr aggStr (fun e he => by cases he) h2
    cases h4
    have key : Calls Tryd.prog 39 #[.string s] w fun e w' => e = .returned (.tuple #[.int .i64 (pwT s).1, .bool (pwT s).2]) ∧ Below w.heap.size w w' := by
      cases ha : Lib.atoiAll s.data.toList with
      | ok v => exact pw_ok s v (by omega) ha w (fun w' hb => tabIs_of tabGlobal (by
          have hx := hG (tabG, tabObj .u64 Lib.pow10Tab) (by rw [glIs]; exact List.mem_cons_self)
          rw [hb.block _ hx.1]; exact hx.2.2))
      | «syntax» => exact pw_syn s h0 ha w (synIn hG)
      | range => exact pw_rng s h0 ha w (rngIn hG)
    refine key.mono ?_
    rintro e w' ⟨rfl, hb⟩
    exact ⟨_, rfl, post_ib rfl rfl resPw flatInt aggInt flatBool aggBool (fun S' => by rw [parPw]; rfl) hb⟩
theorem itoa_prim (ins : List Arg) (out : Outs) (h : prItoa ins = some out) (w : World) (args : List Value) (bs : List Nat) (S : Nat → Prop) (hG : GOk E w bs)
    (hA : AsOk E w S (E.sig N.strconv_Itoa).ins (pars (E.sig N.strconv_Itoa) fItoa) ins args bs) :
    Calls Tryd.prog N.strconv_Itoa args.toArray w fun e w' => ∃ v, e = .returned v ∧ Post E (E.sig N.strconv_Itoa) fItoa S bs ins args out w v w' := by
  obtain ⟨n, rfl, h0, h1, rfl⟩ := prItoa_some h
  rw [sigItoa] at hA ⊢
  rw [parItoa] at hA
  match args, hA with
  | [v], ⟨b1, b2, _, h2, h3⟩ =>
    obtain ⟨h4, _⟩ := AOk_cell flatInt aggInt (fun e he => by cases he) h2
    cases h4
    have := Any.strconv_Itoa Tryd.laysItoa n h0 h1 w (tabIn hG)
    rw [nItoa] at this
    refine this.mono ?_
    rintro e w' ⟨rfl, k, os, rfl⟩
    exact ⟨_, rfl, post_str rfl rfl resItoa flatStr aggStr (fun S' => by rw [parItoa]; rfl) (Lib.below_grow _ _ (Nat.le_refl _) _ _)⟩
theorem join_prim (ins : List Arg) (out : Outs) (h : prJoin ins = some out) (w : World) (args : List Value) (bs : List Nat) (S : Nat → Prop) (hS : ∀ b, S b → b < w.heap.size ∧ b ∉ bs)
    (hA : AsOk E w S (E.sig N.strings_Join).ins (pars (E.sig N.strings_Join) fJoin) ins args bs) :
    Calls Tryd.prog N.strings_Join args.toArray w fun e w' => ∃ v, e = .returned v ∧ Post E (E.sig N.strings_Join) fJoin S bs ins args out w v w' := by
  obtain ⟨es, sep, rfl, h0, h1, rfl⟩ := prJoin_some h
  rw [sigJoin] at hA ⊢
  rw [parJoin] at hA
  match args, hA with
  | [v, u], ⟨b1, b2, _, h2, b3, b4, _, h5, h6⟩ =>
    obtain ⟨h4, _⟩ := AOk_cell flatStrs aggStrs (fun e he => by cases he) h2
    obtain ⟨h7, _⟩ := AOk_cell flatStr aggStr (fun e he => by cases he) h5
    cases h7
    obtain ⟨xs, hxs, hrow⟩ := strs_of flatStr h4 (fun b hb => (hS b hb).1)
    have hj : joinT es sep = Lib.join (xs.map (·.data.toList)) sep.data.toList := by
      unfold joinT; rw [← hxs, List.map_map]; rfl
    have hlen : xs.length = es.length := by rw [← hxs, List.length_map]
    rcases hrow with ⟨rfl, a, c, rfl⟩ | ⟨g, o, c, rfl, hc, hg, hcap⟩
    · have := Any.strings_Join_none Tryd.laysJoin Tryd.extraJoin a c sep w
      rw [nJoin] at this
      refine this.mono ?_
      rintro e w' ⟨rfl, rfl⟩
      exact ⟨_, rfl, post_str rfl rfl resJoin flatStr aggStr (fun S' => by rw [parJoin]; rfl) (Below.refl _ _)⟩
    · have := Any.strings_Join Tryd.laysJoin Tryd.extraJoin g o c xs sep w hc hg (by rw [hlen]; exact h0) hcap (by rw [← hj]; exact h1)
      rw [nJoin] at this
      refine this.mono ?_
      rintro e w' ⟨rfl, hb⟩
      rw [← hj]
      exact ⟨_, rfl, post_str rfl rfl resJoin flatStr aggStr (fun S' => by rw [parJoin]; rfl) hb⟩
theorem prims_ : PrimOk Tryd.prog E P0 := fun f fn g ins out hfn hg h w args bs S hnd hbs hS hG hA => by
  unfold P0 at hg
  cases hb : Nat.beq f N.strings_Join with
  | true =>
    have := Nat.eq_of_beq_eq_true hb
    subst this
    cases hg
    rw [fnJoin] at hfn; cases hfn
    exact join_prim ins out h w args bs S hS hA
  | false =>
    rw [hb, cond_false] at hg
    cases hs : Nat.beq f N.strings_Split with
    | true =>
      have := Nat.eq_of_beq_eq_true hs
      subst this
      cases hg
      rw [fnSplit] at hfn; cases hfn
      exact split_prim ins out h w args bs S hbs hG hA
    | false =>
      rw [hs, cond_false] at hg
      cases hp : Nat.beq f N.impl_parseWord with
      | true =>
        have := Nat.eq_of_beq_eq_true hp
        subst this
        cases hg
        rw [fnPw] at hfn; cases hfn
        exact pw_prim ins out h w args bs S hbs hG hA
      | false =>
        rw [hp, cond_false] at hg
        cases hi : Nat.beq f N.strconv_Itoa with
        | true =>
          have := Nat.eq_of_beq_eq_true hi
          subst this
          cases hg
          rw [fnItoa] at hfn; cases hfn
          exact itoa_prim ins out h w args bs S hG hA
        | false => rw [hi] at hg; cases hg
theorem sound_ (k : Nat) : FnOk Tryd.prog E (evalF E P0 k) := eval_sound tabOk_ tabF_ orders_ prims_ k
end Go.Proofs.YtbmkpnabhodggaaDoor.Ev
