/- Every function's call answers as the evaluator says. Of regions that draw their order as of a premise. No other condition. -/
import Derived.Test.YtjgmiilapnekfaaEvR
namespace Go.Proofs.Ytjgmiilapnekfaa.Ev
open Go
set_option linter.unusedVariables false
section
variable {P : Program} {E : Env}

theorem ofArgs_ok {env : Names} {w : World} {S : Nat → Prop} : ∀ {as : List A} {vs : List Value} (n i : Nat), RV2s E env w S as vs → RV E env w S (ofArgs as i) ((vs ++ List.replicate n undef).getD i undef)
  | [], [], n, i, _ => by
    show (([] ++ List.replicate n undef : List Value).getD i undef) = undef
    simp only [List.nil_append, List.getD_eq_getElem?_getD, List.getElem?_replicate]
    split <;> rfl
  | a :: as, v :: vs, n, 0, h => RV_of2 h.1
  | a :: as, v :: vs, n, i + 1, h => by
    have := ofArgs_ok n i h.2
    simpa [ofArgs] using this
  | [], _ :: _, _, _, h => h.elim
  | _ :: _, [], _, _, h => h.elim
theorem evalBody_ok (hT : tabOk P E = true) (hTF : TabF P E) {F : Call} (hF : FnOk P E F) (hD : DrawOk P E F) {k : Nat} {f : FuncId} {fn : Func} {ins : List Arg} {out : Outs} (hfn : E.fn f = some fn)
    (h : evalBody E F k (E.sig f) fn ins = some out) (w : World) (args : List Value) (bs : List Nat) (S : Nat → Prop) (hnd : bs.Nodup) (hbs : ∀ b, b ∈ bs → b < w.heap.size) (hS : ∀ b, S b → b < w.heap.size ∧ b ∉ bs) (hG : GOk E w bs)
    (hA : AsOk E w S (E.sig f).ins (pars (E.sig f) fn) ins args bs) : Calls P f args.toArray w fun e w' => ∃ v, e = .returned v ∧ Post E (E.sig f) fn S bs ins args out w v w' := by
  obtain ⟨hpf, hbody, _⟩ := hTF.1 f fn hfn
  unfold evalBody at h
  split at h
  · rename_i c hc
    obtain ⟨as, m, p, hent0, h1⟩ := M.run_some h
    obtain ⟨as0, m00, p00, hent, hq0⟩ := M.bind_some hent0
    obtain ⟨u0, m01, p01, hmode, hq00⟩ := M.bind_some hq0
    cases hq00
    obtain ⟨hck, h2⟩ := cond_some h1
    obtain ⟨hck, hnoS⟩ := and_some hck
    obtain ⟨hdst, hle⟩ := and_some hck
    have hle := len_pos hle
    obtain ⟨hl1, hl2⟩ := hA.len
    let β : Base := ⟨w, (· ∈ bs), S, pinList E 0 (E.sig f).ins (pars (E.sig f) fn) ins args⟩
    have hh0 : Heap E β (bs ++ []) (fun _ => none) ⟨fun _ => none, fun _ => []⟩ w := by
      rw [List.append_nil]
      exact ⟨fun _ _ => rfl, fun n o hn => (by cases hn), fun n n' b hb => (by simp [owns] at hb), fun n b hb => (by simp [owns] at hb), fun b hb => ⟨hbs b hb, .inl hb⟩, hnd, rfl, rfl, rfl, Nat.le_refl _, fun _ _ _ => rfl, hG⟩
    obtain ⟨env, g1, g2, g3, g4⟩ := enter_ok hh0 (fun b hb => ⟨.inl hb, (hS b hb).1, fun n => by simp [owns], by rw [List.append_nil]; exact (hS b hb).2⟩) hA hent
    have hpins := enter_pins hent g4 hA.sok
    obtain ⟨env, g1, g4, hpins⟩ : ∃ env', Heap E β [] m env' w ∧ RV2s E env' w (stills β [] m env' w) as args ∧ Pins E env' 0 (E.sig f).ins (pars (E.sig f) fn) ins args := by
      cases hdp : (E.sig f).deep with
      | false => rw [hdp] at hmode; cases hmode; exact ⟨env, g1, g4, hpins⟩
      | true =>
        rw [hdp] at hmode
        obtain ⟨hn, rfl⟩ := M.new_some hmode
        obtain ⟨q1, q2, q3⟩ := g1.one (w' := w) (L' := []) modeNm (.row fn.params.toList.length false []) (.slice none 0 0) (.inl (g1.dom _ hn)) (fun _ => ⟨_, Names.put_self _ _ _, .nl, .inl rfl⟩) (fun b hb => by simp at hb) (fun b hb => by simp at hb) List.nodup_nil
          (fun b hb => by simp [owns, put_self] at hb) (fun _ _ _ _ => rfl) rfl rfl rfl (Nat.le_refl _)
        exact ⟨_, q1, g4.mono q2 q3, fun k v hk => q2 _ _ (hpins k v hk)⟩
    have hrel : Rel E β fn.ntmps [] ⟨ofArgs as, m⟩ { tmps := args.toArray ++ Array.replicate (fn.ntmps - args.toArray.size) undef, defers := [] } w := by
      refine ⟨⟨env, g1, hpins, fun i => ?_⟩, ?_, rfl⟩
      · have := ofArgs_ok (fn.ntmps - args.length) i g4
        have he : Act.eval { tmps := args.toArray ++ Array.replicate (fn.ntmps - args.toArray.size) undef, defers := [] } (.tmp i) = (args ++ List.replicate (fn.ntmps - args.length) undef).getD i undef := by
          simp only [Act.eval, Array.getD_eq_getD_getElem?, List.getD_eq_getElem?_getD]
          rw [← Array.getElem?_toList]
          simp
        rw [he]; exact this
      · simp; omega
    refine calls_of_wp hpf hc ?_
    refine evalCode_ok (β := β) hT hTF hF hD c (by
      cases hn : noS ins with
      | true => exact .inr (pins_in hn)
      | false => rw [hn] at hnoS; exact .inl hnoS) hdst hrel h2 fun ex σ' a' w' hK hr' => ?_
    have hmain : (outMem E (E.sig f) fn ins σ').run σ'.mem ⟨[], []⟩ (fun o _ _ => some o) = some out → a'.defers = [] ∧ ∃ v, (results fn a'.tmps).run P w' = .ok v w' ∧ ∃ v', Ending.returned v = .returned v' ∧ Post E (E.sig f) fn S bs ins args out w v' w' := by
      intro hK
      obtain ⟨⟨env', hh, hpin, hs⟩, hsz, hdf⟩ := hr'
      obtain ⟨o, m1, p1, ho, he⟩ := M.run_some hK
      cases he
      unfold outMem at ho
      obtain ⟨_, m9, p9, hcl, ho⟩ := M.bind_some ho
      obtain ⟨md, m8, p8, hmd, hcl⟩ := M.bind_some hcl
      cases M.mode_some hmd
      obtain ⟨env', hh, he9, hst9⟩ : Ghost E β σ'.mem env' w' m9 := by
        cases md with
        | true => exact closeOut_ok hh hcl
        | false => cases hcl; exact Ghost.refl hh
      have hle9 : Names.le _ env' := fun x v hx => (he9 x).trans hx
      have hs := fun i => (hs i).mono hle9 hst9
      have hpin := fun i v hi => hle9 _ _ (hpin i v hi)
      obtain ⟨as1, m2, p2, k1, hq1⟩ := M.bind_some ho
      obtain ⟨rfl, vals, vs, l1, l2, l3, l4⟩ := resVal_ok (P := P) hT hh hs k1
      obtain ⟨res, m3, p3, k2, hq2⟩ := M.bind_some hq1
      obtain ⟨br, b1, b2, b3⟩ := gives_ok hh l3 k2
      obtain ⟨vars, m4, p4, k3, hq3⟩ := M.bind_some hq2
      cases hq3
      rw [List.nil_append] at b1 b2 b3
      obtain ⟨bv, c1, c2, c3⟩ := outVars_ok b1 hA.clo hA.sok hpin (by rw [hl1, hl2]) k3
      refine ⟨hdf, _, run_results l1, _, rfl, br, bv, c1.nodup, fun b hb => c1.inL b hb, c1.os, c1.tape, c1.output, c1.size, fun k hk hkb => c1.block k hk hkb, ⟨vals, vs, ?_, l2, b3.wide fun b hb => ?_⟩, c3.wide fun b hb => ⟨hb.1, hb.2.1, hb.2.2.2⟩⟩
      · unfold OneOr
        split
        · rename_i t ht
          rw [ht] at l4
          obtain ⟨v, rfl⟩ := List.length_eq_one_iff.1 l4
          rfl
        · rename_i hno
          refine ⟨vals.toArray, ?_, rfl⟩
          rw [dif_neg]
          intro hone
          have : fn.resultTypes.toList.length = 1 := by rw [← l4]; simpa using hone
          obtain ⟨t, ht⟩ := List.length_eq_one_iff.1 this
          exact hno t ht
      · have := (c2.still b hb).1
        exact ⟨this.1, this.2.1, this.2.2.2⟩
    cases ex with
    | normal => exact hmain hK
    | exit i => cases hK
    | ret => exact hmain hK
  · cases h
/-- A function that is known by a contract of its own. -/
def PrimOk (P : Program) (E : Env) (prim : FuncId → Option (List Arg → Option Outs)) : Prop :=
  ∀ (f : FuncId) (fn : Func) (g : List Arg → Option Outs) (ins : List Arg) (out : Outs), E.fn f = some fn → prim f = some g → g ins = some out →
    ∀ (w : World) (args : List Value) (bs : List Nat) (S : Nat → Prop), bs.Nodup → (∀ b, b ∈ bs → b < w.heap.size) → (∀ b, S b → b < w.heap.size ∧ b ∉ bs) → GOk E w bs →
      AsOk E w S (E.sig f).ins (pars (E.sig f) fn) ins args bs →
      Calls P f args.toArray w fun e w' => ∃ v, e = .returned v ∧ Post E (E.sig f) fn S bs ins args out w v w'
theorem evalF_ok (hT : tabOk P E = true) (hTF : TabF P E) (hD : ∀ F, FnOk P E F → DrawOk P E F) {prim : FuncId → Option (List Arg → Option Outs)} (hprim : PrimOk P E prim) : ∀ k, FnOk P E (evalF E prim k)
  | 0, f, fn, ins, out, hfn, h => by cases h
  | k + 1, f, fn, ins, out, hfn, h => by
    unfold evalF at h
    split at h
    · rename_i g hg
      exact hprim f fn g ins out hfn hg h
    · split at h
      · rename_i fn' hfn'
        rw [hfn] at hfn'; cases hfn'
        exact evalBody_ok hT hTF (evalF_ok hT hTF hD hprim k) (hD _ (evalF_ok hT hTF hD hprim k)) hfn h
      · cases h
end
end Go.Proofs.Ytjgmiilapnekfaa.Ev
