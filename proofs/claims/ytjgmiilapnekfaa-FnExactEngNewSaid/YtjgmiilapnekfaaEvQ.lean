/- Code. Of regions that draw their order as of a premise. No other condition. -/
import Derived.Test.YtjgmiilapnekfaaEvP
import Derived.LoopN
namespace Go.Proofs.Ytjgmiilapnekfaa.Ev
open Go
set_option linter.unusedVariables false
section
variable {P : Program} {E : Env} {β : Base} {N : Nat} {d0 : List Deferred}

def Ex.to : Ex → Exit
  | .normal => .normal
  | .exit i => .exit i
  | .ret => .ret
/-- A region that draws its order. -/
def DrawOk (P : Program) (E : Env) (F : Call) : Prop :=
  ∀ (β : Base) (N : Nat) (d0 : List Deferred) (id : Nat) (ops : Array Oper) (σ σ' : St) (ps : List FP) (a : Act) (w : World) (Q : Exit → Act → World → Prop), (∀ o, o ∈ ops.toList → ∀ d, o.dst = some d → d < N) → Rel E β N d0 σ a w →
    evalOps E F ops.toList ops.toList σ [] (fun σ' ps => some (σ', ps)) = some (σ', ps) → drawsOk ops.toList ps.reverse = true → (∀ a' w', Rel E β N d0 σ' a' w' → Q .normal a' w') → (Code.region id ops true).wp P Q a w
theorem step_join {E : Env} {F : Call} {R : Type} {σ σ' : St} {p : FP} {o : Oper} {K : St → FP → Option R} (h : step E F σ o (fun σ' p => some (σ', p)) = some (σ', p)) : step E F σ o K = K σ' p := by
  unfold step at h ⊢
  split at h
  · rename_i f args more hcal
    split at h
    · rename_i e hdel
      split at h
      · obtain ⟨a, m1, p1, ha, hK⟩ := M.run_some h
        cases hK
        rw [M.run_eq, ha]
      · cases h
    · split at h
      · cases h
      · rename_i fn hfn
        obtain ⟨hc, h1⟩ := cond_some h
        obtain ⟨⟨ins, l, seen⟩, m1, p1, ha, h2⟩ := M.run_some h1
        rw [hc, cond_true, M.run_eq, ha]
        simp only at h2 ⊢
        split at h2
        · cases h2
        · rename_i out hout
          obtain ⟨a, m3, p3, hb, hK⟩ := M.run_some h2
          cases hK
          rw [M.run_eq, hb]
  · obtain ⟨a, m1, p1, ha, hK⟩ := M.run_some h
    cases hK
    rw [M.run_eq, ha]
theorem evalOps_join {E : Env} {F : Call} {R : Type} {all : List Oper} {o : Oper} {os : List Oper} {σ σ' : St} {p : FP} {ps : List FP} {K : St → List FP → Option R} (h : exec1 E F all o σ = some (σ', p)) :
    evalOps E F all (o :: os) σ ps K = evalOps E F all os σ' (p :: ps) K := by
  unfold exec1 at h
  conv => lhs; unfold evalOps
  split at h
  · rename_i hg; simp only [hg]; rw [step_join h]
  · rename_i j want hg
    simp only [hg]
    split at h
    · cases h
    · rename_i s hs
      simp only [hs]
      split at h
      · rename_i x hx
        simp only [hx]
        cases want <;> cases x <;> simp only [cond_true, cond_false] at h ⊢
        · rw [put_sl_same hx]; exact step_join (by simpa using h)
        · rw [put_sl_same hx]; simp at h; rw [← h.1, ← h.2]
        · rw [put_sl_same hx]; simp at h; rw [← h.1, ← h.2]
        · rw [put_sl_same hx]; exact step_join (by simpa using h)
      · rename_i hx
        simp only [hx]
        simp at h; rw [← h.1, ← h.2]
      · cases h
theorem evalOps_split {E : Env} {F : Call} {R : Type} {all : List Oper} : ∀ {os : List Oper} {σ : St} {ps : List FP} {K : St → List FP → Option R} {r : R}, evalOps E F all os σ ps K = some r →
    ∃ σ' ps', evalOps E F all os σ ps (fun σ' ps => some (σ', ps)) = some (σ', ps') ∧ K σ' ps' = some r
  | [], σ, ps, K, r, h => ⟨σ, ps, rfl, h⟩
  | o :: os, σ, ps, K, r, h => by
    obtain ⟨σ1, p, h1, h2⟩ := evalOps_cons h
    obtain ⟨σ', ps', h3, h4⟩ := evalOps_split h2
    exact ⟨σ', ps', by rw [evalOps_join h1]; exact h3, h4⟩
theorem drew_rel {σ : St} {a : Act} {w : World} (h : Rel E β N d0 σ a w) : Rel E β N d0 σ a { w with drawn := w.drawn + 1 } := by
  obtain ⟨⟨env, hh, hpin, hs⟩, h2, h3⟩ := h
  have hst : Still w { w with drawn := w.drawn + 1 } (stills β [] σ.mem env w) (stills β [] σ.mem env { w with drawn := w.drawn + 1 }) := fun b hb => ⟨hb, rfl⟩
  exact ⟨⟨env, hh.next (Names.le_refl _) hst hh.dom (fun n o hn => .inl ⟨hn, rfl, fun _ _ => rfl⟩) hh.apart hh.inb hh.inL hh.nodup rfl rfl rfl (Nat.le_refl _) (fun _ _ _ _ => rfl), hpin, fun i => (hs i).mono (Names.le_refl _) hst⟩, h2, h3⟩
theorem evalCode_ok (hT : tabOk P E = true) (hTF : TabF P E) {F : Call} (hF : FnOk P E F) (hD : DrawOk P E F) {k : Nat} {pins : List Nat} : ∀ (c : Code) {out : List Nat} {R : Type} {σ : St} {a : Act} {w : World} {K : Ex → St → Option R} {r : R} {Q : Exit → Act → World → Prop}, (noLoop c = true ∨ PinsIn β pins) →
    dstsOk N c = true → Rel E β N d0 σ a w → evalCode E F k pins c out σ K = some r → (∀ ex σ' a' w', K ex σ' = some r → Rel E β N d0 σ' a' w' → Q ex.to a' w') → c.wp P Q a w
  | .skip, out, R, σ, a, w, K, r, Q, hpins, hd, hr, h, hQ => wp_skip (hQ .normal σ a w h hr)
  | .exit id, out, R, σ, a, w, K, r, Q, hpins, hd, hr, h, hQ => wp_exit (hQ (.exit id) σ a w h hr)
  | .ret, out, R, σ, a, w, K, r, Q, hpins, hd, hr, h, hQ => wp_ret (hQ .ret σ a w h hr)
  | .seq x y, out, R, σ, a, w, K, r, Q, hpins, hd, hr, h, hQ => by
    obtain ⟨hd1, hd2⟩ := and_some hd
    have hp1 : noLoop x = true ∨ PinsIn β pins := hpins.imp (fun h => (and_some h).1) id
    have hp2 : noLoop y = true ∨ PinsIn β pins := hpins.imp (fun h => (and_some h).2) id
    refine wp_seq (evalCode_ok hT hTF hF hD x hp1 hd1 hr h fun ex σ' a' w' hK hr' => ?_)
    cases ex with
    | normal => exact evalCode_ok hT hTF hF hD y hp2 hd2 hr' hK hQ
    | exit i => exact hQ (.exit i) σ' a' w' hK hr'
    | ret => exact hQ .ret σ' a' w' hK hr'
  | .cond c x y, out, R, σ, a, w, K, r, Q, hpins, hd, hr, h, hQ => by
    obtain ⟨hd1, hd2⟩ := and_some hd
    have hp1 : noLoop x = true ∨ PinsIn β pins := hpins.imp (fun h => (and_some h).1) id
    have hp2 : noLoop y = true ∨ PinsIn β pins := hpins.imp (fun h => (and_some h).2) id
    unfold evalCode at h
    split at h
    · rename_i b hb
      obtain ⟨env, hh, hpin, hs⟩ := hr.ex
      have hv := opnd_ok (E := E) hs 0 c
      rw [hb] at hv
      have hv : a.eval c = .bool b := hv
      have hsame : σ.put (tmpOf c) (.b b) = σ := by
        cases c with
        | tmp i => exact put_sl_same hb
        | _ => rfl
      refine wp_cond hv ?_
      cases b with
      | true => rw [cond_true, hsame] at h; exact evalCode_ok hT hTF hF hD x hp1 hd1 hr h hQ
      | false => rw [cond_false, hsame] at h; exact evalCode_ok hT hTF hF hD y hp2 hd2 hr h hQ
    · cases h
  | .block id x, out, R, σ, a, w, K, r, Q, hpins, hd, hr, h, hQ => by
    refine wp_block (evalCode_ok hT hTF hF hD x hpins hd hr h fun ex σ' a' w' hK hr' => ?_)
    cases ex with
    | normal => exact hQ .normal σ' a' w' hK hr'
    | exit i =>
      show (if i = id then _ else _)
      simp only at hK
      cases hi : Nat.beq i id with
      | true => rw [hi] at hK; rw [if_pos (Nat.eq_of_beq_eq_true hi)]; exact hQ .normal σ' a' w' hK hr'
      | false =>
        rw [hi] at hK
        rw [if_neg (fun h => by rw [h] at hi; simp at hi)]; exact hQ (.exit i) σ' a' w' hK hr'
    | ret => exact hQ .ret σ' a' w' hK hr'
  | .loop x, out, R, σ, a, w, K, r, Q, hpins, hd, hr, h, hQ => by
    have hpins : PinsIn β pins := hpins.elim (fun h => by cases h) id
    unfold evalCode at h
    split at h
    · rename_i σ1 hc
      have hr1 := canonD_ok hpins hr hc
      generalize sortN (dedup ((exposed x []).1 ++ out)) = keep at h
      have key : ∀ (j : Nat) (σ : St) (a : Act) (w : World), Rel E β N d0 σ a w → iter E (fun σ K' => evalCode E F k pins x ((exposed x []).1 ++ out) σ K') pins keep K j σ = some r → Code.rounds P x Q j a w := by
        intro j
        induction j with
        | zero => intro σ a w _ h; cases h
        | succ j ih =>
          intro σ a w hr h
          unfold iter at h
          unfold Code.rounds
          refine evalCode_ok hT hTF hF hD x (.inr hpins) hd hr h fun ex σ' a' w' hK hr' => ?_
          cases ex with
          | normal =>
            simp only at hK
            split at hK
            · rename_i σ2 hc2
              exact ih σ2 a' w' (canonD_ok hpins hr' hc2) hK
            · cases hK
          | exit i => exact hQ (.exit i) σ' a' w' hK hr'
          | ret => exact hQ .ret σ' a' w' hK hr'
      exact wp_loop_rounds k (key k σ1 a w hr1 h)
    · cases h
  | .region id ops draw, out, R, σ, a, w, K, r, Q, hpins, hd, hr, h, hQ => by
    have hdst : ∀ o, o ∈ ops.toList → ∀ d, o.dst = some d → d < N := fun o ho d hod => by
      have := List.all_eq_true.1 hd o ho
      simp only [hod] at this
      simpa using this
    unfold evalCode at h
    cases draw with
    | false =>
      refine wp_region ?_
      have := evalOps_ok (P := P) (ops := ops) (Q := Q) hT hTF hF (fun σ' ps' hK a' w' hr' => hQ .normal σ' a' w' (by simpa using hK) hr') ops.toList 0 σ [] a w (by simp) hdst hr h
      rw [List.range_eq_range']
      simpa using this
    | true =>
      obtain ⟨σ', ps', h1, h2⟩ := evalOps_split h
      obtain ⟨hp, hK⟩ := cond_some h2
      exact hD β N d0 id ops σ σ' ps' a w Q hdst hr h1 (by simpa using hp) fun a' w' hr' => hQ .normal σ' a' w' hK hr'
  | .rangeFunc _ _ _ _, out, R, σ, a, w, K, r, Q, hpins, hd, hr, h, hQ => by cases h
  | .scope _, out, R, σ, a, w, K, r, Q, hpins, hd, hr, h, hQ => by cases h
  | .label _, out, R, σ, a, w, K, r, Q, hpins, hd, hr, h, hQ => by cases h
  | .goto _, out, R, σ, a, w, K, r, Q, hpins, hd, hr, h, hQ => by cases h
end
end Go.Proofs.Ytjgmiilapnekfaa.Ev
