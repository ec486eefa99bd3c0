/- A function's call answers as the evaluator says. Of regions that draw their order as of a premise. No other condition. -/
import Derived.Test.YtahlghlpdcfbgaaEvQ
namespace Go.Proofs.Ytahlghlpdcfbgaa.Ev
open Go
set_option linter.unusedVariables false
section
variable {P : Program} {E : Env} {β : Base} {m : Mem} {env : Names} {w w' : World} {S : Nat → Prop} {N : Nat} {d0 : List Deferred}

def resF (tmps : Array Value) : ResultVar → Sem Value
  | .tmp t => pure (tmps.getD t undef)
  | .cell a t => do loadVar t (← asAddr (tmps.getD a undef))
theorem results_eq (fn : Func) (tmps : Array Value) : results fn tmps = (do let vs ← fn.results.mapM (resF tmps); pure (if h : vs.size = 1 then vs[0] else .tuple vs)) := by
  have : resF tmps = (fun | .tmp t => pure (tmps.getD t undef) | .cell a t => do loadVar t (← asAddr (tmps.getD a undef)) : ResultVar → Sem Value) := by
    funext r; cases r <;> rfl
  rw [this]; rfl
theorem run_results {fn : Func} {tmps : Array Value} {vals : List Value} (h : (fn.results.toList.mapM (resF tmps)).run P w = .ok vals w) :
    (results fn tmps).run P w = .ok (if h : vals.toArray.size = 1 then vals.toArray[0] else .tuple vals.toArray) w := by
  rw [results_eq, Array.mapM_eq_mapM_toList]
  simp [h]
theorem fits_len {a : A} {t : Nat} (h : a.fits E t = true) : a.cells.length = E.sz t := by
  cases a with
  | agg cs => exact Nat.eq_of_beq_eq_true (and_some h).2
  | tup cs => cases h
  | _ => exact (Nat.eq_of_beq_eq_true (and_some h).2).symm
theorem resVal_ok (hT : tabOk P E = true) {σ : St} {a : Act} (h : Heap E β [] m env w) (hs : ∀ i, RV E env w (stills β [] m env w) (σ.sl i) (a.eval (.tmp i))) :
    ∀ {rs : List ResultVar} {tys : List Nat} {as : List A} {m' : Mem} {p p' : FP}, (resVal E σ rs tys).ev m p = some (as, m', p') →
    m = m' ∧ ∃ vals vs, (rs.mapM (resF a.tmps)).run P w = .ok vals w ∧ Shapes E tys vals vs ∧ RVs E env w (stills β [] m env w) as vs ∧ vals.length = tys.length
  | [], [], as, m', p, p', hp => by
    unfold resVal at hp; cases hp
    exact ⟨rfl, [], [], rfl, rfl, trivial, rfl⟩
  | .tmp t :: r, ty :: tys, as, m', p, p', hp => by
    unfold resVal at hp
    obtain ⟨hf, hq⟩ := M.bif_some hp
    obtain ⟨as', m1, p1, h1, hq1⟩ := M.bind_some hq
    cases hq1
    obtain ⟨rfl, vals, vs, g1, g2, g3, g4⟩ := resVal_ok hT h hs h1
    have hv := hs t
    have htup : (σ.sl t).isTup = false := by cases hb : σ.sl t <;> rw [hb] at hf <;> first | rfl | cases hf
    rw [RV_two htup] at hv
    obtain ⟨vs1, k1, k2⟩ := RV2_fits hf hv
    have hl := k2.length
    rw [fits_len hf] at hl
    refine ⟨rfl, a.eval (.tmp t) :: vals, vs1 ++ vs, ?_, ⟨vs1, vs, rfl, k1, hl.symm, g2⟩, k2.app g3, by simp [g4]⟩
    simp [List.mapM_cons, resF, g1, Act.eval]
  | .cell q t :: r, ty :: tys, as, m', p, p', hp => by
    unfold resVal at hp
    obtain ⟨x, m0, p0, h0, hq0⟩ := M.bind_some hp
    obtain ⟨rfl, v, l1, l2, ad, l3, l4⟩ := loadM_ok hT h (hs q) h0
    obtain ⟨hf, hq⟩ := M.bif_some hq0
    obtain ⟨as', m1, p1, h1, hq1⟩ := M.bind_some hq
    cases hq1
    obtain ⟨rfl, vals, vs, g1, g2, g3, g4⟩ := resVal_ok hT h hs h1
    obtain ⟨vs1, k1, k2⟩ := RV2_fits hf l2
    have hl := k2.length
    rw [fits_len hf] at hl
    refine ⟨rfl, v :: vals, vs1 ++ vs, ?_, ⟨vs1, vs, rfl, k1, hl.symm, g2⟩, k2.app g3, by simp [g4]⟩
    simp only [Act.eval] at l3
    simp [List.mapM_cons, resF, g1, l3, asAddr, l4]
  | [], _ :: _, as, m', p, p', hp => by unfold resVal at hp; cases hp
  | .tmp _ :: _, [], as, m', p, p', hp => by unfold resVal at hp; cases hp
  | .cell _ _ :: _, [], as, m', p, p', hp => by unfold resVal at hp; cases hp

/-- What a function value holds. -/
def heldOf : Value → Value
  | .func _ _ c => c.getD 0 undef
  | v => v
/-- Function values that hold something are what they are. -/
def CloOk : List Arg → List Value → Prop
  | .c f (some _) :: r, v :: vs => (∃ p, v = .func (.func f) #[] #[p]) ∧ CloOk r vs
  | .c _ none :: r, _ :: vs => CloOk r vs
  | .v _ :: r, _ :: vs => CloOk r vs
  | .p _ :: r, _ :: vs => CloOk r vs
  | .r _ :: r, _ :: vs => CloOk r vs
  | _, _ => True
theorem AsOk.clo {S : Nat → Prop} : ∀ {ws : List (List Bool)} {ts : List Nat} {ins : List Arg} {vs : List Value} {bs : List Nat}, AsOk E w S ws ts ins vs bs → CloOk ins vs
  | _, [], [], [], _, _ => trivial
  | _, _ :: _, .v _ :: _, _ :: _, _, ⟨_, _, _, _, h⟩ => by unfold CloOk; exact AsOk.clo h
  | _, _ :: _, .p _ :: _, _ :: _, _, ⟨_, _, _, _, h⟩ => by unfold CloOk; exact AsOk.clo h
  | _, _ :: _, .r _ :: _, _ :: _, _, ⟨_, _, _, _, h⟩ => by unfold CloOk; exact AsOk.clo h
  | _, _ :: _, .c _ none :: _, _ :: _, _, ⟨_, _, _, _, h⟩ => by unfold CloOk; exact AsOk.clo h
  | _, _ :: _, .c _ (some _) :: _, _ :: _, _, ⟨_, _, _, ⟨b, _, _, _, h1, _⟩, h⟩ => ⟨⟨_, h1⟩, AsOk.clo h⟩
  | _, [], [], _ :: _, _, h => h.elim
  | _, [], _ :: _, _, _, h => h.elim
  | _, _ :: _, [], _, _, h => h.elim
  | _, _ :: _, _ :: _, [], _, h => h.elim
/-- Which arguments are variables. -/
def Pins (env : Names) : Nat → List Arg → List Value → Prop
  | _, [], _ => True
  | i, .p _ :: r, v :: vs => env (i, 0) = some v ∧ Pins env (i + 1) r vs
  | i, .r _ :: r, v :: vs => env (i, 0) = some v ∧ Pins env (i + 1) r vs
  | i, .v _ :: r, _ :: vs => Pins env (i + 1) r vs
  | i, .c _ none :: r, _ :: vs => Pins env (i + 1) r vs
  | i, .c _ (some _) :: r, v :: vs => env (i, 0) = some (heldOf v) ∧ Pins env (i + 1) r vs
  | _, _ :: _, [] => True
theorem give_slice {L : List Nat} (h : Heap E β L m env w) {n : Nm} {v : Value} (hv : env n = some v) {ws : List Bool} {e : Nat} {t : T} {m' : Mem} {p p' : FP} (hp : (give E true (lendTy ws e) (.ref n)).ev m p = some (t, m', p')) : ∃ a l c, v = .slice a l c := by
  unfold lendTy at hp
  cases hw : ws.headD false with
  | true =>
    rw [hw] at hp
    simp only [cond_true, give, M.ev] at hp
    split at hp
    · rename_i e' es hn
      obtain ⟨v', h1, h2⟩ := h.deepDC hn
      rw [hv] at h1; cases h1
      exact h2.slice
    · simp [M.ev] at hp
  | false =>
    rw [hw] at hp
    simp only [cond_false, give] at hp
    obtain ⟨_, m6, p6, hlow, h1⟩ := M.bind_some hp
    obtain ⟨g1, g2⟩ := h.lowD hlow
    obtain ⟨⟨e', d, es⟩, m5, p5, hr5, hq5⟩ := M.bind_some h1
    obtain ⟨hn, _⟩ := M.row_some hr5
    obtain ⟨v', h1, h2⟩ := g1.rowOf hn
    rw [hv] at h1; cases h1
    rcases h2 with ⟨rfl, _⟩ | ⟨g, cap, rfl, _⟩ <;> exact ⟨_, _, _, rfl⟩
theorem outVars_ok : ∀ {i : Nat} {ws : List (List Bool)} {ts : List Nat} {ins : List Arg} {args : List Value} {L : List Nat} {m m' : Mem} {p p' : FP} {out : List (List T)}, Heap E β L m env w → CloOk ins args → Pins env i ins args → args.length = ins.length → (outVars E i ws ts ins).ev m p = some (out, m', p') →
    ∃ bs, Heap E β (L ++ bs) m' env w ∧ Prog β env w L m (L ++ bs) m' ∧ VOk E w (stills β (L ++ bs) m' env w) ws ts ins args out bs
  | i, ws, [], [], [], L, m, m', p, p', out, h, hc, hpin, hl, hp => by
    unfold outVars at hp; cases hp
    exact ⟨[], by simpa using h, by simpa using Prog.refl β env w L m, by unfold VOk; rfl⟩
  | i, ws, t :: ts, .p c0 :: ins, v :: args, L, m, m', p, p', out, h, hc, hpin, hl, hp => by
    unfold outVars at hp
    obtain ⟨cs, m0, p0, h0, hq0⟩ := M.bind_some hp
    obtain ⟨hn, rfl⟩ := M.var_some h0
    obtain ⟨c, m1, p1, h1, hq1⟩ := M.bind_some hq0
    obtain ⟨cs2, m2, p2, h2, hq2⟩ := M.bind_some hq1
    obtain ⟨hn2, rfl⟩ := M.var_some h2
    obtain ⟨p3, hq3⟩ := M.set_some hq2
    obtain ⟨out', m4, p4, h4, hq4⟩ := M.bind_some hq3
    cases hq4
    obtain ⟨b, cv, el, hb, hheap, hsol, hrv⟩ := h.obj (i, 0) _ hn
    have hvv : v = .pointer (some ⟨b, 0, none⟩) := by have := hpin.1.symm.trans hb; cases this; rfl
    obtain ⟨b1, g1, g2, g3⟩ := gives_ok h hrv h1
    obtain ⟨k1, k2⟩ := g1.lendVar hn2 hb
    obtain ⟨b2, f1, f2, f3⟩ := outVars_ok k1 (show CloOk ins args from hc) hpin.2 (by simpa using hl) h4
    have hassoc : L ++ b1 ++ [b] ++ b2 = L ++ (b1 ++ b :: b2) := by simp
    rw [hassoc] at f1 f2 f3
    exact ⟨b1 ++ b :: b2, f1, g2.trans (k2.trans f2), b, cv, el, b1, b2, hvv, hheap, g3.wide fun x hx => (f2.still x (k2.still x hx).1).1, rfl, f3⟩
  | i, ws, t :: ts, .v c0 :: ins, v :: args, L, m, m', p, p', out, h, hc, hpin, hl, hp => by
    unfold outVars at hp
    obtain ⟨bs, g1, g2, g3⟩ := outVars_ok (i := i + 1) h (show CloOk ins args from hc) hpin (by simpa using hl) hp
    exact ⟨bs, g1, g2, by unfold VOk; exact g3⟩
  | i, ws, t :: ts, .r es :: ins, v :: args, L, m, m', p, p', out, h, hc, hpin, hl, hp => by
    unfold outVars at hp
    split at hp
    · rename_i e hft
      obtain ⟨c, m1, p1, h1, hq1⟩ := M.bind_some hp
      obtain ⟨out', m4, p4, h4, hq4⟩ := M.bind_some hq1
      cases hq4
      have hrow : ∃ a l c, v = .slice a l c := give_slice h hpin.1 h1
      have hrv1 : RV1 E env w (stills β L m env w) (.ref (i, 0)) v := ⟨hpin.1, hrow⟩
      obtain ⟨b1, g1, g2, g3⟩ := give_ok h hrv1 h1
      obtain ⟨b2, f1, f2, f3⟩ := outVars_ok g1 (show CloOk ins args from hc) hpin.2 (by simpa using hl) h4
      rw [List.append_assoc] at f1 f2 f3
      exact ⟨b1 ++ b2, f1, g2.trans f2, e, c, b1, b2, hft, rfl, g3.wide fun x hx => (f2.still x hx).1, rfl, f3⟩
    · cases hp
  | i, ws, t :: ts, .c _ none :: ins, v :: args, L, m, m', p, p', out, h, hc, hpin, hl, hp => by
    unfold outVars at hp
    obtain ⟨bs, g1, g2, g3⟩ := outVars_ok (i := i + 1) h (show CloOk ins args from hc) hpin (by simpa using hl) hp
    exact ⟨bs, g1, g2, by unfold VOk; exact g3⟩
  | i, ws, t :: ts, .c f (some c0) :: ins, v :: args, L, m, m', p, p', out, h, hc, hpin, hl, hp => by
    unfold outVars at hp
    obtain ⟨cs, m0, p0, h0, hq0⟩ := M.bind_some hp
    obtain ⟨hn, rfl⟩ := M.var_some h0
    obtain ⟨c, m1, p1, h1, hq1⟩ := M.bind_some hq0
    obtain ⟨cs2, m2, p2, h2, hq2⟩ := M.bind_some hq1
    obtain ⟨hn2, rfl⟩ := M.var_some h2
    obtain ⟨p3, hq3⟩ := M.set_some hq2
    obtain ⟨out', m4, p4, h4, hq4⟩ := M.bind_some hq3
    cases hq4
    obtain ⟨b, cv, el, hb, hheap, hsol, hrv⟩ := h.obj (i, 0) _ hn
    have hvv : heldOf v = .pointer (some ⟨b, 0, none⟩) := Option.some.inj (hpin.1.symm.trans hb)
    obtain ⟨b1, g1, g2, g3⟩ := gives_ok h hrv h1
    obtain ⟨k1, k2⟩ := g1.lendVar hn2 hb
    obtain ⟨b2, f1, f2, f3⟩ := outVars_ok k1 hc.2 hpin.2 (by simpa using hl) h4
    have hassoc : L ++ b1 ++ [b] ++ b2 = L ++ (b1 ++ b :: b2) := by simp
    rw [hassoc] at f1 f2 f3
    exact ⟨b1 ++ b :: b2, f1, g2.trans (k2.trans f2), b, cv, el, b1, b2, (by obtain ⟨q, rfl⟩ := hc.1; exact congrArg (fun x => Value.func (.func f) #[] #[x]) hvv), hheap, g3.wide fun x hx => (f2.still x (k2.still x hx).1).1, rfl, f3⟩
  | _, _, [], _ :: _, _, _, _, _, _, _, _, _, _, _, _, hp => by unfold outVars at hp; cases hp
  | _, _, _ :: _, [], _, _, _, _, _, _, _, _, _, _, _, hp => by unfold outVars at hp; cases hp
  | _, _, _ :: _, _ :: _, [], _, _, _, _, _, _, _, _, _, hl, _ => by simp at hl
  | _, _, [], [], _ :: _, _, _, _, _, _, _, _, _, _, hl, _ => by simp at hl
theorem AsOk.len {S : Nat → Prop} : ∀ {ws : List (List Bool)} {ts : List Nat} {ins : List Arg} {vs : List Value} {bs : List Nat}, AsOk E w S ws ts ins vs bs → vs.length = ts.length ∧ ins.length = ts.length
  | _, [], [], [], _, _ => ⟨rfl, rfl⟩
  | _, _ :: _, _ :: _, _ :: _, _, ⟨_, _, _, _, h⟩ => by have := AsOk.len h; simp [this]
  | _, [], [], _ :: _, _, h => h.elim
  | _, [], _ :: _, _, _, h => h.elim
  | _, _ :: _, [], _, _, h => h.elim
  | _, _ :: _, _ :: _, [], _, h => h.elim
theorem enter_pins : ∀ {i : Nat} {ws : List (List Bool)} {ts : List Nat} {ins : List Arg} {vs : List Value} {as : List A} {m m' : Mem} {p p' : FP}, (enter E i ws ts ins).ev m p = some (as, m', p') → RV2s E env w S as vs → Pins env i ins vs
  | _, _, [], [], vs, as, m, m', p, p', h, hv => trivial
  | i, ws, t :: ts, .v cs :: ins, vs, as, m, m', p, p', h, hv => by
    unfold enter at h
    obtain ⟨as1, m1, p1, h1, hq⟩ := M.bind_some h
    obtain ⟨r, m2, p2, h2, hq2⟩ := M.bind_some hq
    cases hq2
    cases vs with
    | nil => exact hv.elim
    | cons v vs => exact enter_pins (i := i + 1) h2 hv.2
  | i, ws, t :: ts, .p cs :: ins, vs, as, m, m', p, p', h, hv => by
    unfold enter at h
    obtain ⟨as1, m1, p1, h1, hq⟩ := M.bind_some h
    obtain ⟨_, m3, p3, h3, hq3⟩ := M.bind_some hq
    obtain ⟨r, m2, p2, h2, hq2⟩ := M.bind_some hq3
    cases hq2
    cases vs with
    | nil => exact hv.elim
    | cons v vs =>
      refine ⟨?_, enter_pins (i := i + 1) h2 hv.2⟩
      obtain ⟨b, e1, e2⟩ := hv.1
      rw [e1, e2]
  | i, ws, t :: ts, .r es :: ins, vs, as, m, m', p, p', h, hv => by
    unfold enter at h
    split at h
    · obtain ⟨_, m3, p3, h3, hq3⟩ := M.bind_some h
      obtain ⟨r, m2, p2, h2, hq2⟩ := M.bind_some hq3
      cases hq2
      cases vs with
      | nil => exact hv.elim
      | cons v vs => exact ⟨hv.1.1, enter_pins (i := i + 1) h2 hv.2⟩
    · cases h
  | i, ws, _ :: ts, .c f none :: ins, vs, as, m, m', p, p', h, hv => by
    unfold enter at h
    obtain ⟨r, m2, p2, h2, hq2⟩ := M.bind_some h
    cases hq2
    cases vs with
    | nil => exact hv.elim
    | cons v vs => exact enter_pins (i := i + 1) h2 hv.2
  | i, ws, _ :: ts, .c f (some cs) :: ins, vs, as, m, m', p, p', h, hv => by
    unfold enter at h
    obtain ⟨as1, m1, p1, h1, hq⟩ := M.bind_some h
    obtain ⟨_, m3, p3, h3, hq3⟩ := M.bind_some hq
    obtain ⟨r, m2, p2, h2, hq2⟩ := M.bind_some hq3
    cases hq2
    cases vs with
    | nil => exact hv.elim
    | cons v vs =>
      refine ⟨?_, enter_pins (i := i + 1) h2 hv.2⟩
      obtain ⟨b, e1, e2⟩ := hv.1
      rw [e1, e2]; rfl
  | _, _, [], _ :: _, _, _, _, _, _, _, h, _ => by unfold enter at h; cases h
  | _, _, _ :: _, [], _, _, _, _, _, _, h, _ => by unfold enter at h; cases h
/-- The pins as a list. -/
def pinList : Nat → List Arg → List Value → List (Nat × Value)
  | i, .p _ :: r, v :: vs => (i, v) :: pinList (i + 1) r vs
  | i, .r _ :: r, v :: vs => (i, v) :: pinList (i + 1) r vs
  | i, .v _ :: r, _ :: vs => pinList (i + 1) r vs
  | i, .c _ none :: r, _ :: vs => pinList (i + 1) r vs
  | i, .c _ (some _) :: r, v :: vs => (i, heldOf v) :: pinList (i + 1) r vs
  | _, _, _ => []
theorem pinList_of : ∀ {i : Nat} {ins : List Arg} {vs : List Value}, Pins env i ins vs → ∀ k v, (k, v) ∈ pinList i ins vs → env (k, 0) = some v
  | i, .p _ :: r, v :: vs, h, k, u, hk => by
    rcases List.mem_cons.1 hk with hk | hk
    · cases hk; exact h.1
    · exact pinList_of h.2 k u hk
  | i, .r _ :: r, v :: vs, h, k, u, hk => by
    rcases List.mem_cons.1 hk with hk | hk
    · cases hk; exact h.1
    · exact pinList_of h.2 k u hk
  | i, .v _ :: r, _ :: vs, h, k, u, hk => pinList_of (i := i + 1) (ins := r) (vs := vs) h k u hk
  | i, .c _ none :: r, _ :: vs, h, k, u, hk => pinList_of (i := i + 1) (ins := r) (vs := vs) h k u hk
  | i, .c _ (some _) :: r, v :: vs, h, k, u, hk => by
    rcases List.mem_cons.1 hk with hk | hk
    · cases hk; exact h.1
    · exact pinList_of h.2 k u hk
  | _, [], _, _, _, _, hk => by simp [pinList] at hk
  | _, .p _ :: _, [], _, _, _, hk => by simp [pinList] at hk
  | _, .r _ :: _, [], _, _, _, hk => by simp [pinList] at hk
  | _, .v _ :: _, [], _, _, _, hk => by simp [pinList] at hk
  | _, .c _ none :: _, [], _, _, _, hk => by simp [pinList] at hk
  | _, .c _ (some _) :: _, [], _, _, _, hk => by simp [pinList] at hk
theorem pins_of_list : ∀ {i : Nat} {ins : List Arg} {vs : List Value}, (∀ k v, (k, v) ∈ pinList i ins vs → env (k, 0) = some v) → Pins env i ins vs
  | i, .p _ :: r, v :: vs, h => ⟨h i v List.mem_cons_self, pins_of_list fun k u hk => h k u (List.mem_cons_of_mem _ hk)⟩
  | i, .r _ :: r, v :: vs, h => ⟨h i v List.mem_cons_self, pins_of_list fun k u hk => h k u (List.mem_cons_of_mem _ hk)⟩
  | i, .v _ :: r, _ :: vs, h => pins_of_list (i := i + 1) (ins := r) (vs := vs) h
  | i, .c _ none :: r, _ :: vs, h => pins_of_list (i := i + 1) (ins := r) (vs := vs) h
  | i, .c _ (some _) :: r, v :: vs, h => ⟨h i _ List.mem_cons_self, pins_of_list fun k u hk => h k u (List.mem_cons_of_mem _ hk)⟩
  | _, [], _, _ => trivial
  | _, .p _ :: _, [], _ => trivial
  | _, .r _ :: _, [], _ => trivial
  | _, .v _ :: _, [], _ => trivial
  | _, .c _ none :: _, [], _ => trivial
  | _, .c _ (some _) :: _, [], _ => trivial
theorem pinList_pins : ∀ {i : Nat} {ins : List Arg} {vs : List Value} {k : Nat} {v : Value}, (k, v) ∈ pinList i ins vs → k ∈ pinsOf i ins
  | i, .p _ :: r, v :: vs, k, u, hk => by
    rcases List.mem_cons.1 hk with hk | hk
    · cases hk; exact List.mem_cons_self
    · exact List.mem_cons_of_mem _ (pinList_pins hk)
  | i, .r _ :: r, v :: vs, k, u, hk => by
    rcases List.mem_cons.1 hk with hk | hk
    · cases hk; exact List.mem_cons_self
    · exact List.mem_cons_of_mem _ (pinList_pins hk)
  | i, .v _ :: r, _ :: vs, k, u, hk => pinList_pins (i := i + 1) (ins := r) (vs := vs) hk
  | i, .c _ none :: r, _ :: vs, k, u, hk => pinList_pins (i := i + 1) (ins := r) (vs := vs) hk
  | i, .c _ (some _) :: r, v :: vs, k, u, hk => by
    rcases List.mem_cons.1 hk with hk | hk
    · cases hk; exact List.mem_cons_self
    · exact List.mem_cons_of_mem _ (pinList_pins hk)
  | _, [], _, _, _, hk => by simp [pinList] at hk
  | _, .p _ :: _, [], _, _, hk => by simp [pinList] at hk
  | _, .r _ :: _, [], _, _, hk => by simp [pinList] at hk
  | _, .v _ :: _, [], _, _, hk => by simp [pinList] at hk
  | _, .c _ none :: _, [], _, _, hk => by simp [pinList] at hk
  | _, .c _ (some _) :: _, [], _, _, hk => by simp [pinList] at hk
end
end Go.Proofs.Ytahlghlpdcfbgaa.Ev
