/- The state at a loop's head stands for the state that was. No condition. -/
import Derived.Test.YtjgmiilapnekfaaEvO
namespace Go.Proofs.Ytjgmiilapnekfaa.Ev
open Go
set_option linter.unusedVariables false
section
variable {D : Nat → Bool} {P : Program} {E : Env} {β : Base} {m : Mem} {env env' : Names} {w w' : World} {S S' : Nat → Prop} {N : Nat} {d0 : List Deferred}

theorem renA_ok {ren : List (Nm × Nm)} (hren : ∀ n n', lookN ren n = some n' → ∀ v, env n = some v → env' n' = some v) (hst : Still w w S S') {a : A} {v : Value} (h : RV1 E env w S a v) : RV1 E env' w S' (renA ren a) v := by
  cases a with
  | sl e es => exact RC.mono hst h
  | ref n =>
    cases hl : lookN ren n with
    | none => simp only [renA, hl]; trivial
    | some n' => simp only [renA, hl]; exact ⟨hren _ _ hl _ h.1, h.2⟩
  | cut n e f l =>
    cases hl : lookN ren n with
    | none => simp only [renA, hl]; trivial
    | some n' => obtain ⟨ga, len, cap, h1, h2⟩ := h; simp only [renA, hl]; exact ⟨ga, len, cap, hren _ _ hl _ h1, h2⟩
  | ptr n o =>
    cases hl : lookN ren n with
    | none => simp only [renA, hl]; trivial
    | some n' => obtain ⟨b, h1, h2⟩ := h; simp only [renA, hl]; exact ⟨b, hren _ _ hl _ h1, h2⟩
  | ep n e i o =>
    cases hl : lookN ren n with
    | none => simp only [renA, hl]; trivial
    | some n' => obtain ⟨g, len, cap, h1, h2⟩ := h; simp only [renA, hl]; exact ⟨g, len, cap, hren _ _ hl _ h1, h2⟩
  | vp tys cs q => exact RV1.mono (env := ⟨fun _ => none, fun _ => []⟩) (a := .vp tys cs q) (fun _ _ h => by cases h) hst h
  | clo f o =>
    cases o with
    | none => exact h
    | some n =>
      cases hl : lookN ren n with
      | none => simp only [renA, hl]; trivial
      | some n' => obtain ⟨b, h1, h2⟩ := h; simp only [renA, hl]; exact ⟨b, hren _ _ hl _ h1, h2⟩
  | agg cs => exact h.elim
  | tup cs => exact h.elim
  | _ => exact h
theorem renAs_ok {ren : List (Nm × Nm)} (hren : ∀ n n', lookN ren n = some n' → ∀ v, env n = some v → env' n' = some v) (hst : Still w w S S') : ∀ {as : List A} {vs : List Value}, RVs E env w S as vs → RVs E env' w S' (renAs ren as) vs
  | [], [], _ => trivial
  | a :: as, v :: vs, h => ⟨renA_ok hren hst h.1, renAs_ok hren hst h.2⟩
  | [], _ :: _, h => h.elim
  | _ :: _, [], h => h.elim
theorem fillV_ok {s : Nat} {a : A} {v : Value} (h : RV E env w S a v) (ht : a.isTup = false) (hn : ∀ q, q ∈ (fillV D s a).2 → env q.1 = some (.slice none 0 0)) : RV E env w S (fillV D s a).1 v := by
  cases a with
  | agg as =>
    obtain ⟨arr, rfl, hsol, hr⟩ := h
    have := fillAs_ok (s := s) (j := 1) hr hn
    exact ⟨arr, rfl, this.2 hsol, this.1⟩
  | tup as => cases ht
  | nil e => exact (fillA_ok (E := E) (w := w) (S := S) (at_ := (s, 0)) (a := .nil e) h hn).1
  | _ => exact h
theorem renV_single {ren : List (Nm × Nm)} {a : A} (h : a.single = true) : renV ren a = renA ren a := by
  cases a <;> first | rfl | cases h
theorem renV_ok {ren : List (Nm × Nm)} (hren : ∀ n n', lookN ren n = some n' → ∀ v, env n = some v → env' n' = some v) (hst : Still w w S S') {a : A} {v : Value} (h : RV E env w S a v) :
    RV E env' w S' (renV ren a) v ∧ (renV ren a).isTup = false := by
  cases a with
  | agg as =>
    obtain ⟨arr, rfl, hsol, hr⟩ := h
    have he : renV ren (.agg as) = (bif solids (renAs ren as) then .agg (renAs ren as) else .undef) := rfl
    rw [he]
    cases hs : solids (renAs ren as) with
    | true => exact ⟨⟨arr, rfl, hs, renAs_ok hren hst hr⟩, rfl⟩
    | false => exact ⟨trivial, rfl⟩
  | tup as => exact ⟨trivial, rfl⟩
  | _ =>
    rw [RV_single rfl] at h
    have h1 := renA_ok hren hst h
    rw [renV_single rfl]
    revert h1
    generalize renA ren _ = b
    intro h1
    have h2 : b.single = true := by cases b <;> first | rfl | exact h1.elim
    exact ⟨by rw [RV_single h2]; exact h1, by cases b <;> first | rfl | cases h2⟩
theorem renMem_has {m : Mem} {ren : List (Nm × Nm)} : ∀ {l : List (Nm × Nm)} {a b : Nm}, (a, b) ∈ l → (b, renO ren (m a)) ∈ renMem m ren l
  | (x, y) :: r, a, b, h => by
    rcases List.mem_cons.1 h with h | h
    · cases h; exact List.mem_cons_self
    · exact List.mem_cons_of_mem _ (renMem_has h)
theorem fillM_has : ∀ {l : List (Nm × O)} {x : Nm} {o : O}, (x, o) ∈ l → ∃ o', (x, o') ∈ (fillM D l).1
  | (n, .var cs) :: r, x, o, h => by
    rcases List.mem_cons.1 h with h | h
    · cases h; exact ⟨_, List.mem_cons_self⟩
    · obtain ⟨o', h1⟩ := fillM_has h; exact ⟨o', List.mem_cons_of_mem _ h1⟩
  | (n, .row e d es) :: r, x, o, h => by
    rcases List.mem_cons.1 h with h | h
    · cases h; exact ⟨_, List.mem_cons_self⟩
    · obtain ⟨o', h1⟩ := fillM_has h; exact ⟨o', List.mem_cons_of_mem _ h1⟩
  | (n, .dead) :: r, x, o, h => by
    rcases List.mem_cons.1 h with h | h
    · cases h; exact ⟨_, List.mem_cons_self⟩
    · obtain ⟨o', h1⟩ := fillM_has h; exact ⟨o', List.mem_cons_of_mem _ h1⟩
  | (n, .deep e es hh) :: r, x, o, h => by
    rcases List.mem_cons.1 h with h | h
    · cases h; exact ⟨_, List.mem_cons_self⟩
    · obtain ⟨o', h1⟩ := fillM_has h; exact ⟨o', List.mem_cons_of_mem _ h1⟩
theorem fillS_at {i : Nat} : ∀ {l : List (Nat × A)}, (∃ a, ofSl (fillS D l).1 i = (fillV D i a).1 ∧ (i, a) ∈ l ∧ ∀ q, q ∈ (fillV D i a).2 → q ∈ (fillS D l).2) ∨ ofSl (fillS D l).1 i = .undef
  | [] => .inr rfl
  | (k, a) :: r => by
    simp only [fillS, ofSl]
    cases hb : Nat.beq i k with
    | true =>
      cases Nat.eq_of_beq_eq_true hb
      exact .inl ⟨a, rfl, List.mem_cons_self, fun q hq => List.mem_append_left _ hq⟩
    | false =>
      rcases fillS_at (i := i) (l := r) with ⟨a', h1, h2, h3⟩ | h1
      · exact .inl ⟨a', h1, List.mem_cons_of_mem _ h2, fun q hq => List.mem_append_right _ (h3 q hq)⟩
      · exact .inr h1
theorem renS_mem {σ : St} {ren : List (Nm × Nm)} : ∀ {keep : List Nat} {i : Nat} {a : A}, (i, a) ∈ renS σ ren keep → a = renV ren (σ.sl i)
  | k :: ks, i, a, h => by
    rcases List.mem_cons.1 h with h | h
    · cases h; rfl
    · exact renS_mem h

theorem pinsOk_of {ren : List (Nm × Nm)} : ∀ {pins : List Nat} {i : Nat}, pinsOk ren pins = true → i ∈ pins → lookN ren (i, 0) = some (i, 0)
  | j :: js, i, h, hi => by
    obtain ⟨h1, h2⟩ := and_some h
    rcases List.mem_cons.1 hi with rfl | hi
    · split at h1
      · rename_i n hn; rw [hn, nmBeq_iff.1 h1]
      · cases h1
    · exact pinsOk_of h2 hi
theorem canonOf_ok {σ σ' : St} {pins keep : List Nat} {ren : List (Nm × Nm)} {vv : Nat → Value} (h : Heap E β [] σ.mem env w) (hs : ∀ i, RV E env w (stills β [] σ.mem env w) (σ.sl i) (vv i)) (hc : canonOf0 D pins keep σ ren = some σ') :
    ∃ env', Heap E β [] σ'.mem env' w ∧ (∀ i, i ∈ pins → env' (i, 0) = env (i, 0)) ∧ ∀ i, RV E env' w (stills β [] σ'.mem env' w) (σ'.sl i) (vv i) := by
  unfold canonOf0 at hc
  obtain ⟨hck, hq⟩ := cond_some hc
  cases hq
  obtain ⟨hck1, hnd⟩ := and_some hck
  obtain ⟨hck2, hpres⟩ := and_some hck1
  obtain ⟨hck3, hn2⟩ := and_some hck2
  obtain ⟨hpo, hn1⟩ := and_some hck3
  generalize hNS : (fillS D (renS σ ren keep)).2 = NS at hnd ⊢
  generalize hNM : (fillM D (renMem σ.mem ren ren)).2 = NM at hnd ⊢
  generalize hMM : (fillM D (renMem σ.mem ren ren)).1 = MM at hnd ⊢
  generalize hl : NS ++ NM ++ MM = l at hnd ⊢
  let env' : Names := ⟨fun x => match lookInv ren x with | some old => env old | none => (match ofMem l x with | some _ => some (.slice none 0 0) | none => none), fun x => match lookInv ren x with | some old => env.fp old | none => []⟩
  have hMMl : ∀ {x o}, (x, o) ∈ MM → (x, o) ∈ l := fun hx => by rw [← hl]; exact List.mem_append_right _ hx
  have hnilrow : ∀ {x o}, (x, o) ∈ NS ++ NM → ∃ e, o = .row e true [] ∨ o = .deep e [] none := fun {x o} hx => by
    rcases List.mem_append.1 hx with hx | hx
    · rw [← hNS] at hx; exact fillS_nil _ x o hx
    · rw [← hNM] at hx; exact fillM_nil _ x o hx
  have hnilenv : ∀ {x o}, (x, o) ∈ NS ++ NM → env' x = some (.slice none 0 0) := fun {x o} hx => by
    have hinv : lookInv ren x = none := by
      cases hi : lookInv ren x with
      | none => rfl
      | some old =>
        obtain ⟨o', ho'⟩ := fillM_has (D := D) (renMem_has (m := σ.mem) (ren := ren) (lookInv_mem hi))
        rw [hMM] at ho'
        exact (nodup_app (by rw [hl]; exact hnd) hx ho').elim
    have hof := ofMem_of hnd (show (x, o) ∈ l by rw [← hl]; exact List.mem_append_left _ hx)
    simp only [env', hinv, hof]
  have hinvenv : ∀ {x old}, lookInv ren x = some old → env' x = env old := fun {x old} hi => by simp only [env', hi]
  have hinvfp : ∀ {x old}, lookInv ren x = some old → env'.fp x = env.fp old := fun {x old} hi => by simp only [env', hi]
  have hnilfp : ∀ {x o}, (x, o) ∈ NS ++ NM → env'.fp x = [] := fun {x o} hx => by
    have hinv : lookInv ren x = none := by
      cases hi : lookInv ren x with
      | none => rfl
      | some old =>
        obtain ⟨o', ho'⟩ := fillM_has (D := D) (renMem_has (m := σ.mem) (ren := ren) (lookInv_mem hi))
        rw [hMM] at ho'
        exact (nodup_app (by rw [hl]; exact hnd) hx ho').elim
    simp only [env', hinv]
  have hren : ∀ n n', lookN ren n = some n' → ∀ v, env n = some v → env' n' = some v := fun n n' hln v hv => by
    rw [hinvenv (lookInv_of hn2 (lookN_mem hln))]; exact hv
  -- what an object of the new state is
  have hcase : ∀ x o, ofMem l x = some o → ((x, o) ∈ NS ++ NM) ∨ ∃ old, lookInv ren x = some old ∧
      ((∃ cs, σ.mem old = some (.var cs) ∧ solids (renAs ren cs) = true ∧ o = .var (fillAs D x.1 1 (renAs ren cs)).1 ∧ ∀ q, q ∈ (fillAs D x.1 1 (renAs ren cs)).2 → (q.1, q.2) ∈ NS ++ NM) ∨
       (∃ e d es, σ.mem old = some (.row e d es) ∧ o = .row e d es) ∨ (∃ e es, σ.mem old = some (.deep e es none) ∧ o = .deep e es none) ∨ o = .dead) := by
    intro x o hx
    have hx := ofMem_mem hx
    rw [← hl] at hx
    rcases List.mem_append.1 hx with hx | hx
    · exact .inl hx
    · right
      rw [← hMM] at hx
      have hrenO : ∀ {old o}, o = renO ren (σ.mem old) → (∃ cs, σ.mem old = some (.var cs) ∧ solids (renAs ren cs) = true ∧ o = .var (renAs ren cs)) ∨ (∃ e d es, σ.mem old = some (.row e d es) ∧ o = .row e d es) ∨ (∃ e es, σ.mem old = some (.deep e es none) ∧ o = .deep e es none) ∨ o = .dead := by
        intro old o ho
        cases hm : σ.mem old with
        | none => rw [hm] at ho; exact .inr (.inr (.inr ho))
        | some o1 =>
          rw [hm] at ho
          cases o1 with
          | var cs =>
            simp only [renO] at ho
            cases hsol : solids (renAs ren cs) with
            | true => rw [hsol] at ho; exact .inl ⟨cs, rfl, hsol, ho⟩
            | false => rw [hsol] at ho; exact .inr (.inr (.inr ho))
          | row e d es => exact .inr (.inl ⟨e, d, es, rfl, ho⟩)
          | deep e es hh => cases hh with
            | none => exact .inr (.inr (.inl ⟨e, es, rfl, ho⟩))
            | some q => exact .inr (.inr (.inr ho))
          | dead => exact .inr (.inr (.inr ho))
      rcases fillM_mem hx with ⟨cs, h1, rfl, h3⟩ | ⟨h1, h2⟩
      · obtain ⟨old, g1, g2⟩ := renMem_mem h1
        refine ⟨old, lookInv_of hn2 g1, ?_⟩
        rcases hrenO g2 with ⟨cs0, k1, k2, k3⟩ | ⟨e, d, es, _, k3⟩ | ⟨e, es, _, k3⟩ | k3
        · cases k3
          exact .inl ⟨cs0, k1, k2, rfl, fun q hq => List.mem_append_right _ (by rw [← hNM]; exact h3 q hq)⟩
        · cases k3
        · cases k3
        · cases k3
      · obtain ⟨old, g1, g2⟩ := renMem_mem h1
        refine ⟨old, lookInv_of hn2 g1, ?_⟩
        rcases hrenO g2 with ⟨cs0, k1, k2, k3⟩ | h5
        · exact (h2 _ k3).elim
        · exact .inr h5
  have hown : ∀ x b, owns (ofMem l) env' x b → ∃ old, lookInv ren x = some old ∧ owns σ.mem env old b := by
    intro x b hb
    cases hx : ofMem l x with
    | none => simp [owns, hx] at hb
    | some o =>
      rcases hcase x o hx with h1 | ⟨old, h1, h2⟩
      · obtain ⟨e, rfl | rfl⟩ := hnilrow h1
        · simp [owns, hx, hnilenv h1, Value.ownBlock] at hb
        · simp [owns, hx, hnilfp h1] at hb
      · refine ⟨old, h1, ?_⟩
        unfold owns at hb ⊢
        rw [hx, hinvenv h1] at hb
        rcases h2 with ⟨cs, k1, k2, rfl, _⟩ | ⟨e, d, es, k1, rfl⟩ | ⟨e, es, k1, rfl⟩ | rfl
        · rw [k1]
          cases hv : env old with
          | none => rw [hv] at hb; simp at hb
          | some v => rw [hv] at hb; cases v with
            | pointer a => cases a <;> simp_all
            | _ => simp at hb
        · rw [k1]; rw [hinvfp h1] at hb; exact hb
        · rw [k1]
          rw [← hinvfp h1]; exact hb
        · cases hv : env old <;> rw [hv] at hb <;> simp at hb
  have hstill : Still w w (stills β [] σ.mem env w) (stills β [] (ofMem l) env' w) := fun b hb =>
    ⟨⟨hb.1, hb.2.1, fun x hx => by obtain ⟨old, _, h2⟩ := hown x b hx; exact hb.2.2.1 old h2, hb.2.2.2⟩, rfl⟩
  refine ⟨env', ⟨fun x hx => ?_, fun x o hx => ?_, fun x y b hx hy => ?_, fun x b hx => ?_, fun b hb => by simp at hb, List.nodup_nil, h.os, h.tape, h.output, h.size, h.block, h.gl⟩, fun i hi => hinvenv (lookInv_of hn2 (lookN_mem (pinsOk_of hpo hi))), fun i => ?_⟩
  · have hinv : lookInv ren x = none := by
      cases hi : lookInv ren x with
      | none => rfl
      | some old =>
        obtain ⟨o', ho'⟩ := fillM_has (D := D) (renMem_has (m := σ.mem) (ren := ren) (lookInv_mem hi))
        rw [hMM] at ho'
        have := ofMem_of hnd (hMMl ho')
        have hx : ofMem l x = none := hx
        rw [hx] at this; cases this
    have hx : ofMem l x = none := hx
    simp only [env', hinv, hx]
  · rcases hcase x o hx with h1 | ⟨old, h1, h2⟩
    · obtain ⟨e, rfl | rfl⟩ := hnilrow h1
      · exact ⟨.slice none 0 0, [], hnilenv h1, World.ownsRow_nil w 0 _ _, fun i j hi => by simp at hi⟩
      · exact ⟨.slice none 0 0, [], fun _ => [], hnilenv h1, World.ownsRow_nil w 0 _ _, fun i j hi => (by simp at hi), fun _ _ _ h => (by cases h), by rw [hnilfp h1]; exact ⟨fun b => by simp [Value.ownBlock], List.nodup_nil, fun p b _ h => by simp at h, fun p q b _ _ h => by simp at h⟩⟩
    · have he := hinvenv h1
      rcases h2 with ⟨cs, k1, k2, rfl, k4⟩ | ⟨e, d, es, k1, rfl⟩ | ⟨e, es, k1, rfl⟩ | rfl
      · obtain ⟨b, vs, el, g1, g2, g3, g4⟩ := h.obj old _ k1
        have hr := renAs_ok (ren := ren) hren hstill g4
        have hf := fillAs_ok (s := x.1) (j := 1) hr (fun q hq => hnilenv (k4 q hq))
        exact ⟨b, vs, el, he.trans g1, g2, hf.2 k2, hf.1⟩
      · have ho := h.obj old _ k1
        cases d with
        | true =>
          obtain ⟨v, xs, g1, g2, g3⟩ := ho
          refine ⟨v, xs, he.trans g1, g2, fun i j hi hj => ?_⟩
          obtain ⟨u, hu, hr⟩ := g3 i j hi hj
          exact ⟨u, hu, hr.mono hstill⟩
        | false =>
          obtain ⟨v, g1, g2, g3⟩ := ho
          exact ⟨v, he.trans g1, g2.mono hstill, g3⟩
      · obtain ⟨v, xs, fps, g1, g2, g3, _, g5⟩ := h.obj old _ k1
        exact ⟨v, xs, fps, he.trans g1, g2, fun i j hi hj _ => g3 i j hi hj (by simp), fun _ _ _ h => (by cases h), by rw [hinvfp h1]; exact g5⟩
      · obtain ⟨o1, ho1⟩ := present_of hpres (mem_fsts (lookInv_mem h1))
        have hob := h.obj old _ ho1
        show ∃ v, env' x = some v
        rw [he]
        cases o1 with
        | var cs => obtain ⟨b, vs, el, g1, _⟩ := hob; exact ⟨_, g1⟩
        | row e d es => cases d with
          | true => obtain ⟨v, xs, g1, _⟩ := hob; exact ⟨_, g1⟩
          | false => obtain ⟨v, g1, _⟩ := hob; exact ⟨_, g1⟩
        | deep e es hh => obtain ⟨v, _, _, g1, _⟩ := hob; exact ⟨_, g1⟩
        | dead => exact hob
  · obtain ⟨o1, h1, h2⟩ := hown x b hx
    obtain ⟨o2, h3, h4⟩ := hown y b hy
    have := h.apart _ _ _ h2 h4
    subst this
    have e1 := lookN_of hn1 (lookInv_mem h1)
    have e2 := lookN_of hn1 (lookInv_mem h3)
    rw [e1] at e2; exact Option.some.inj e2
  · obtain ⟨o1, h1, h2⟩ := hown x b hx
    exact h.inb _ _ h2
  · rcases fillS_at (i := i) (l := renS σ ren keep) with ⟨a, h1, h2, h3⟩ | h1
    · have ha := renS_mem h2
      subst ha
      obtain ⟨g1, g2⟩ := renV_ok (ren := ren) hren hstill (hs i)
      show RV E env' w _ (ofSl _ i) _
      rw [h1]
      exact fillV_ok g1 g2 (fun q hq => hnilenv (o := q.2) (List.mem_append_left _ (by rw [← hNS]; exact h3 q hq)))
    · show RV E env' w _ (ofSl _ i) _
      rw [h1]; trivial
theorem nmBeq_comm (a b : Nm) : nmBeq a b = nmBeq b a := by
  unfold nmBeq
  have h : ∀ x y : Nat, Nat.beq x y = Nat.beq y x := fun x y => by
    rw [Bool.eq_iff_iff]
    exact ⟨fun h => (Nat.eq_of_beq_eq_true h) ▸ Nat.beq_refl _, fun h => (Nat.eq_of_beq_eq_true h) ▸ Nat.beq_refl _⟩
  rw [h a.1, h a.2]
theorem any_insertM (n : Nm) (p : Nm × O) : ∀ l : List (Nm × O), (fsts (insertM p l)).any (nmBeq n) = (nmBeq n p.1 || (fsts l).any (nmBeq n))
  | [] => by simp [insertM, fsts]
  | q :: r => by
    unfold insertM
    cases ltNm p.1 q.1 with
    | true => simp [fsts]
    | false =>
      simp only [cond_false, fsts, List.any_cons, any_insertM n p r]
      cases nmBeq n p.1 <;> cases nmBeq n q.1 <;> rfl
theorem any_sortM (n : Nm) : ∀ l : List (Nm × O), (fsts (sortM l)).any (nmBeq n) = (fsts l).any (nmBeq n)
  | [] => rfl
  | p :: r => by
    rw [sortM, any_insertM, any_sortM n r]
    simp [fsts]
theorem nm_of_beq {a b : Nm} (h : nmBeq a b = true) : a = b := by
  unfold nmBeq at h
  obtain ⟨h1, h2⟩ := and_some h
  exact Prod.ext (Nat.eq_of_beq_eq_true h1) (Nat.eq_of_beq_eq_true h2)
theorem ofMem_insertM (p : Nm × O) (x : Nm) : ∀ l : List (Nm × O), (fsts l).any (nmBeq p.1) = false → ofMem (insertM p l) x = ofMem (p :: l) x
  | [], _ => rfl
  | q :: r, h => by
    unfold insertM
    cases ltNm p.1 q.1 with
    | true => rfl
    | false =>
      simp only [fsts, List.any_cons, Bool.or_eq_false_iff] at h
      have ih := ofMem_insertM p x r h.2
      simp only [cond_false, ofMem] at ih ⊢
      rw [ih]
      cases hq : nmBeq x q.1 with
      | false => rfl
      | true =>
        rw [nm_of_beq hq, nmBeq_comm, h.1]; rfl
theorem ofMem_sortM : ∀ l : List (Nm × O), nodupN (fsts l) = true → ofMem (sortM l) = ofMem l
  | [], _ => rfl
  | p :: r, h => by
    unfold nodupN fsts at h
    obtain ⟨h1, h2⟩ := and_some h
    funext x
    rw [sortM, ofMem_insertM p x _ (by rw [any_sortM]; simpa using h1)]
    simp only [ofMem, ofMem_sortM r h2]
theorem canonOf_same {σ : St} {pins keep : List Nat} {ren : List (Nm × Nm)} : canonOf D pins keep σ ren = canonOf0 D pins keep σ ren := by
  unfold canonOf canonOf0
  cases h : (pinsOk ren pins && nodupN (fsts ren) && nodupN (snds ren) && presentN σ.mem (fsts ren) && nodupN (fsts ((fillS D (renS σ ren keep)).2 ++ (fillM D (renMem σ.mem ren ren)).2 ++ (fillM D (renMem σ.mem ren ren)).1))) with
  | false => rfl
  | true => rw [ofMem_sortM _ (and_some h).2]
/-- Names that are to stay are the loops' pins. -/
def PinsIn (β : Base) (pins : List Nat) : Prop := ∀ n v, (n, v) ∈ β.pin → ∃ i, i ∈ pins ∧ n = (i, 0)
theorem canon_ok {σ σ' : St} {pins keep : List Nat} {a : Act} (hpins : PinsIn β pins) (hr : Rel E β N d0 σ a w) (hc : canon D pins keep σ = some σ') : Rel E β N d0 σ' a w := by
  obtain ⟨⟨env, hh, hpin, hs⟩, h2, h3⟩ := hr
  obtain ⟨env', g1, g2, g3⟩ := canonOf_ok hh hs (canonOf_same.symm.trans hc)
  exact ⟨⟨env', g1, fun n v hn => by obtain ⟨i, hi, rfl⟩ := hpins n v hn; exact (g2 i hi).trans (hpin _ v hn), g3⟩, h2, h3⟩
theorem keepMode_ok {σ : St} {m0 : Mem} {a : Act} (hr : Rel E β N d0 σ a w) : Rel E β N d0 (keepMode m0 σ) a w := by
  unfold keepMode
  cases hb : (modeOf m0 && !modeOf σ.mem) with
  | false => exact hr
  | true =>
    obtain ⟨_, hn⟩ := and_some hb
    obtain ⟨⟨env, hh, hpin, hs⟩, h2, h3⟩ := hr
    have hn : σ.mem modeNm = none := by
      unfold modeOf at hn
      cases hm : σ.mem modeNm with
      | none => rfl
      | some o => rw [hm] at hn; cases hn
    obtain ⟨g1, g2, g3⟩ := hh.one (w' := w) (L' := []) modeNm .dead undef (.inl (hh.dom _ hn)) (fun _ => ⟨undef, Names.put_self _ _ _⟩) (fun b hb => by simp at hb) (fun b hb => by simp at hb) List.nodup_nil
      (fun b hb => by simp [owns, put_self] at hb) (fun _ _ _ _ => rfl) rfl rfl rfl (Nat.le_refl _)
    exact ⟨⟨_, g1, fun i v hi => g2 _ _ (hpin i v hi), fun i => (hs i).mono g2 g3⟩, h2, h3⟩
theorem canonD_ok {σ σ' : St} {pins keep : List Nat} {a : Act} (hpins : PinsIn β pins) (hr : Rel E β N d0 σ a w) (hc : canonD E pins keep σ = some σ') : Rel E β N d0 σ' a w := by
  unfold canonD at hc
  cases hm : modeOf σ.mem with
  | false => rw [hm] at hc; exact canon_ok hpins hr hc
  | true =>
    rw [hm] at hc
    obtain ⟨_, m1, p1, h1, h2⟩ := M.run_some (show (closeL E _).run σ.mem ⟨[], []⟩ _ = _ from hc)
    split at h2
    · rename_i σ2 hcan
      cases h2
      obtain ⟨⟨env, hh, hpin, hs⟩, h3, h4⟩ := hr
      obtain ⟨env1, g1, g2, g3⟩ := closeL_ok hh h1
      have hle : Names.le env env1 := fun x v hx => (g2 x).trans hx
      exact keepMode_ok (canon_ok hpins ⟨⟨env1, g1, fun i v hi => hle _ _ (hpin i v hi), fun i => (hs i).mono hle g3⟩, h3, h4⟩ hcan)
    · cases h2
end
end Go.Proofs.Ytjgmiilapnekfaa.Ev
