/- Regions that draw their order: first, what a step touches, and that it hangs on nothing else. No condition. -/
import Derived.Test.YtjgmiilapnekfaaEvS
namespace Go.Proofs.Ytjgmiilapnekfaa.Ev
open Go
set_option linter.unusedVariables false


theorem M.nearby {α : Type} (x : M α) : ∀ {m : Mem} {q : FP} {a : α} {m' : Mem} {q' : FP}, x.ev m q = some (a, m', q') →
    ∃ rd wr, q' = ⟨rd ++ q.rd, wr ++ q.wr⟩ ∧ (∀ n, n ∉ wr → m' n = m n) ∧ ∀ m2 : Mem, (∀ n, n ∈ rd → m2 n = m n) → ∃ m2', x.ev m2 q = some (a, m2', q') ∧ (∀ n, n ∈ wr → m2' n = m' n) ∧ ∀ n, n ∉ wr → m2' n = m2 n := by
  induction x with
  | ret a => intro m q a' m' q' h; cases h; exact ⟨[], [], rfl, fun _ _ => rfl, fun m2 _ => ⟨m2, rfl, fun n hn => (by simp at hn), fun _ _ => rfl⟩⟩
  | fail => intro m q a' m' q' h; cases h
  | get n k ih =>
    intro m q a' m' q' h
    obtain ⟨rd, wr, h1, h2, h3⟩ := ih (m n) h
    refine ⟨rd ++ [n], wr, by rw [h1]; simp, h2, fun m2 hm => ?_⟩
    obtain ⟨m2', k1, k2, k3⟩ := h3 m2 (fun x hx => hm x (List.mem_append_left _ hx))
    refine ⟨m2', ?_, k2, k3⟩
    show (k (m2 n)).ev m2 _ = _
    rw [hm n (List.mem_append_right _ List.mem_cons_self)]; exact k1
  | set n o k ih =>
    intro m q a' m' q' h
    obtain ⟨rd, wr, h1, h2, h3⟩ := ih h
    refine ⟨rd, wr ++ [n], by rw [h1]; simp, fun x hx => ?_, fun m2 hm => ?_⟩
    · have hxn : x ≠ n := fun e => hx (by rw [e]; exact List.mem_append_right _ List.mem_cons_self)
      rw [h2 x (fun h => hx (List.mem_append_left _ h)), put_ne _ _ hxn]
    · obtain ⟨m2', k1, k2, k3⟩ := h3 (m2.put n o) (fun x hx => by
        by_cases hxn : x = n
        · subst hxn; rw [put_self, put_self]
        · rw [put_ne _ _ hxn, put_ne _ _ hxn]; exact hm x hx)
      refine ⟨m2', k1, fun x hx => ?_, fun x hx => ?_⟩
      · by_cases hw : x ∈ wr
        · exact k2 x hw
        · rcases List.mem_append.1 hx with h5 | h5
          · exact absurd h5 hw
          · simp at h5; subst h5
            rw [k3 x hw, h2 x hw, put_self, put_self]
      · have hxn : x ≠ n := fun e => hx (by rw [e]; exact List.mem_append_right _ List.mem_cons_self)
        rw [k3 x (fun h => hx (List.mem_append_left _ h)), put_ne _ _ hxn]
  | chk c k ih =>
    intro m q a' m' q' h
    obtain ⟨hc, h1⟩ := M.chk_some h
    obtain ⟨rd, wr, h2, h3, h4⟩ := ih h1
    refine ⟨rd, wr, h2, h3, fun m2 hm => ?_⟩
    obtain ⟨m2', k1, k2⟩ := h4 m2 hm
    exact ⟨m2', by simp only [M.ev, hc, cond_true]; exact k1, k2⟩

section
variable {E : Env} {F : Call}
/-- An operation's steps in one piece. -/
def stepM (E : Env) (F : Call) (σ : St) (o : Oper) : M A :=
  match callee? σ o with
  | some (f, args, more) =>
    match delOf E.del f with
    | some e => (match more with
      | [] => (prepM E σ o).bind fun _ => deleteM E e (o.dst.getD 0) (args.map (opnd E σ 0))
      | _ => .fail)
    | none =>
    match E.fn f with
    | none => .fail
    | some fn => bif Nat.beq args.length fn.params.toList.length && Nat.beq more.length (E.sig f).free.length && noTups (opnds E σ fn.params.toList args) then
      ((prepM E σ o).bind fun _ => (argsM E (E.sig f).ins (pars (E.sig f) fn) (opnds E σ fn.params.toList args ++ more)).bind fun r => (aliveAll r.2.2).bind fun _ => .ret r).bind fun r =>
        match F f r.1 with
        | none => .fail
        | some out => behind E (E.sig f) fn (o.dst.getD 0) r.2.1 r.2.2 out
      else .fail
  | none => (prepM E σ o).bind fun _ => opM E σ o (o.dst.getD 0)
theorem step_of {σ σ' : St} {o : Oper} {p : FP} (h : step E F σ o (fun σ' p => some (σ', p)) = some (σ', p)) : ∃ a m', (stepM E F σ o).ev σ.mem ⟨[], []⟩ = some (a, m', p) ∧ σ' = St.put ⟨σ.sl, m'⟩ o.dst a := by
  unfold step at h
  unfold stepM
  split at h
  · rename_i f args more hcal
    split at h
    · rename_i e hdel
      split at h
      · obtain ⟨a, m1, p1, ha, hK⟩ := M.run_some h
        cases hK
        exact ⟨a, m1, by simp only [hcal, hdel]; exact ha, rfl⟩
      · cases h
    · rename_i hdel
      split at h
      · cases h
      · rename_i fn hfn
        obtain ⟨hc, h1⟩ := cond_some h
        obtain ⟨⟨ins, l, seen⟩, m1, p1, ha, h2⟩ := M.run_some h1
        simp only at h2
        split at h2
        · cases h2
        · rename_i out hout
          obtain ⟨a, m3, p3, hb, hK⟩ := M.run_some h2
          cases hK
          refine ⟨a, m3, ?_, rfl⟩
          simp only [hcal, hdel, hfn, hc, cond_true]
          rw [M.ev_bind, ha]
          simp only [hout, hb]
  · rename_i hcal
    obtain ⟨a, m1, p1, ha, hK⟩ := M.run_some h
    cases hK
    exact ⟨a, m1, by simp only [hcal]; exact ha, rfl⟩
theorem step_to {σ : St} {o : Oper} {p : FP} {a : A} {m' : Mem} (h : (stepM E F σ o).ev σ.mem ⟨[], []⟩ = some (a, m', p)) : step E F σ o (fun σ' p => some (σ', p)) = some (St.put ⟨σ.sl, m'⟩ o.dst a, p) := by
  unfold stepM at h
  unfold step
  split at h
  · rename_i f args more hcal
    split at h
    · rename_i e hdel
      split at h
      · simp only [hcal, hdel]
        rw [M.run_eq, h]
      · cases h
    · rename_i hdel
      split at h
      · cases h
      · rename_i fn hfn
        obtain ⟨hc, h1⟩ := M.bif_some h
        obtain ⟨⟨ins, l, seen⟩, m1, p1, ha, h2⟩ := M.bind_some h1
        simp only at h2
        split at h2
        · cases h2
        · rename_i out hout
          simp only [hcal, hdel, hfn, hc, cond_true]
          rw [M.run_eq, ha]
          simp only [hout]
          rw [M.run_eq, h2]
  · rename_i hcal
    simp only [hcal]
    rw [M.run_eq, h]
end

/-! A step hangs on the temporaries that it looks at alone. No condition. -/
section
variable {E : Env} {F : Call} {σ τ : St}

theorem buildAgg_congr {fs : List (Nat × Nat)} : ∀ {ps : List (Nat × Operand)} {cs : List A}, (∀ q, q ∈ ps → ∀ t, opnd E σ t q.2 = opnd E τ t q.2) → buildAgg E σ fs ps cs = buildAgg E τ fs ps cs
  | [], _, _ => rfl
  | (j, x) :: r, cs, h => by
    unfold buildAgg
    split
    · rename_i o ft hf
      have hx := h (j, x) List.mem_cons_self ft
      simp only at hx
      rw [hx, buildAgg_congr fun q hq => h q (List.mem_cons_of_mem _ hq)]
    · rfl
theorem rowM_congr {e : Nat} : ∀ {ps : List (Nat × Operand)} {j : Nat}, (∀ q, q ∈ ps → ∀ t, opnd E σ t q.2 = opnd E τ t q.2) → rowM E σ e j ps = rowM E τ e j ps
  | [], _, _ => rfl
  | (i, x) :: r, j, h => by
    unfold rowM
    have hx := h (i, x) List.mem_cons_self e
    simp only at hx
    rw [hx, rowM_congr fun q hq => h q (List.mem_cons_of_mem _ hq)]
theorem rowD_congr {e : Nat} : ∀ {ps : List (Nat × Operand)} {j : Nat}, (∀ q, q ∈ ps → ∀ t, opnd E σ t q.2 = opnd E τ t q.2) → rowD E σ e j ps = rowD E τ e j ps
  | [], _, _ => rfl
  | (i, x) :: r, j, h => by
    unfold rowD
    have hx := h (i, x) List.mem_cons_self e
    simp only at hx
    rw [hx, rowD_congr fun q hq => h q (List.mem_cons_of_mem _ hq)]
theorem movables_congr {e : Nat} : ∀ {ps : List (Nat × Operand)}, (∀ q, q ∈ ps → ∀ t, opnd E σ t q.2 = opnd E τ t q.2) → movables E σ e ps = movables E τ e ps
  | [], _ => rfl
  | (i, x) :: r, h => by
    unfold movables
    have hx := h (i, x) List.mem_cons_self e
    simp only at hx
    rw [hx, movables_congr fun q hq => h q (List.mem_cons_of_mem _ hq)]
theorem prepNms_congr : ∀ {xs : List Operand}, (∀ i, i ∈ xs.filterMap tmpOf → σ.sl i = τ.sl i) → prepNms σ xs = prepNms τ xs
  | [], _ => rfl
  | .tmp i :: r, h => by
    unfold prepNms
    rw [h i (by simp [tmpOf]), prepNms_congr fun j hj => h j (by rw [List.filterMap_cons]; simp only [tmpOf]; exact List.mem_cons_of_mem _ hj)]
  | .const _ :: r, h => by unfold prepNms; exact prepNms_congr fun j hj => h j (by rw [List.filterMap_cons]; exact hj)
  | .func _ :: r, h => by unfold prepNms; exact prepNms_congr fun j hj => h j (by rw [List.filterMap_cons]; exact hj)
  | .global _ :: r, h => by unfold prepNms; exact prepNms_congr fun j hj => h j (by rw [List.filterMap_cons]; exact hj)
theorem prepM_congr {o : Oper} (h : ∀ i, i ∈ o.op.operands.toList.filterMap tmpOf → σ.sl i = τ.sl i) : prepM E σ o = prepM E τ o := by
  unfold prepM
  rw [prepNms_congr h]
theorem latePs_congr {e k : Nat} {ps : List (Nat × Operand)} (h : ∀ q, q ∈ ps → ∀ t, opnd E σ t q.2 = opnd E τ t q.2) : latePs E σ e k ps = latePs E τ e k ps := by
  unfold latePs
  split
  · rename_i x; rw [h (0, x) (by simp)]
  · rfl
theorem buildL_congr {d t n j : Nat} {nm : Nm} {ps : List (Nat × Operand)} (h : ∀ q, q ∈ ps → ∀ t, opnd E σ t q.2 = opnd E τ t q.2) : buildL E σ d t n j nm ps = buildL E τ d t n j nm ps := by
  unfold buildL
  split
  · rename_i x; rw [h (0, x) (by simp)]
  · rfl
theorem builtinM_congr {d : Nat} {b : Builtin} {args : List Operand} {tys : List Nat} (h : ∀ x, x ∈ args → ∀ t, opnd E σ t x = opnd E τ t x) : builtinM E σ d b args tys = builtinM E τ d b args tys := by
  unfold builtinM
  split
  · rename_i x t; rw [h x (by simp)]
  · rename_i x y t u; rw [h x (by simp), h y (by simp)]
  · rename_i x y t u; rw [h x (by simp), h y (by simp)]
  · rename_i x t; rw [h x (by simp)]
  · rename_i x y t u; rw [h x (by simp), h y (by simp)]
  · rename_i x y t u; rw [h x (by simp), h y (by simp)]
  · rfl
theorem opnds_congr : ∀ {ts : List Nat} {xs : List Operand}, (∀ x, x ∈ xs → ∀ t, opnd E σ t x = opnd E τ t x) → opnds E σ ts xs = opnds E τ ts xs
  | [], _, _ => by unfold opnds; rfl
  | _ :: _, [], _ => rfl
  | t :: ts, x :: xs, h => by
    unfold opnds
    rw [h x List.mem_cons_self, opnds_congr fun y hy => h y (List.mem_cons_of_mem _ hy)]
theorem optmap_congr {x : Option Operand} {t : Nat} (h : ∀ y, x = some y → opnd E σ t y = opnd E τ t y) : x.map (opnd E σ t) = x.map (opnd E τ t) := by
  cases x with
  | none => rfl
  | some y => simp only [Option.map_some, h y rfl]
theorem opM_congr {o : Oper} {d : Nat} (H : ∀ x, x ∈ o.op.operands.toList → ∀ t, opnd E σ t x = opnd E τ t x) : opM E σ o d = opM E τ o d := by
  obtain ⟨dst, op, type, pos, after, guard⟩ := o
  cases op <;> simp only [opM] <;> simp only [Op.operands] at H
  case move x => rw [H x (by simp)]
  case assign x => rw [H x (by simp)]
  case pick c a b => rw [H c (by simp), H a (by simp), H b (by simp)]
  case box t v => rw [H v (by simp)]
  case build t ps =>
    have := fun fs cs => buildAgg_congr (E := E) (σ := σ) (τ := τ) (fs := fs) (ps := ps.toList) (cs := cs) (fun q hq t => H q.2 (by simpa using ⟨q.1, by simpa using hq⟩) t)
    simp only [this]
  case buildSlice t n ps =>
    have h1 := fun e => rowM_congr (E := E) (σ := σ) (τ := τ) (e := e) (ps := ps.toList) (j := 0) (fun q hq t => H q.2 (by simpa using ⟨q.1, by simpa using hq⟩) t)
    have h2 := fun e => rowD_congr (E := E) (σ := σ) (τ := τ) (e := e) (ps := ps.toList) (j := 0) (fun q hq t => H q.2 (by simpa using ⟨q.1, by simpa using hq⟩) t)
    have h3 := fun e => movables_congr (E := E) (σ := σ) (τ := τ) (e := e) (ps := ps.toList) (fun q hq t => H q.2 (by simpa using ⟨q.1, by simpa using hq⟩) t)
    have h4 := fun e k => latePs_congr (E := E) (σ := σ) (τ := τ) (e := e) (k := k) (ps := ps.toList) (fun q hq t => H q.2 (by simpa using ⟨q.1, by simpa using hq⟩) t)
    have h5 := fun j nm => buildL_congr (E := E) (σ := σ) (τ := τ) (d := d) (t := t) (n := n) (j := j) (nm := nm) (ps := ps.toList) (fun q hq t => H q.2 (by simpa using ⟨q.1, by simpa using hq⟩) t)
    unfold buildM buildD
    simp only [h1, h2, h3, h4, h5]
  case load t x => rw [H x (by simp)]
  case store t x y => rw [H x (by simp), H y (by simp)]
  case nilCheck x => rw [H x (by simp)]
  case binOp op xt x y yt => rw [H x (by simp), H y (by simp)]
  case unOp op xt x => rw [H x (by simp)]
  case convert s t x => rw [H x (by simp)]
  case makeSlice t n c => rw [H n (by simp), H c (by simp)]
  case slice t x lo hi mx =>
    cases mx with
    | some z => rfl
    | none =>
      simp only
      rw [H x (by simp), optmap_congr (x := lo) (fun y hy => H y (by subst hy; simp) 0), optmap_congr (x := hi) (fun y hy => H y (by subst hy; simp) 0)]
  case fieldAddr t x j => rw [H x (by simp)]
  case field t x j => rw [H x (by simp)]
  case indexAddr t x i => rw [H x (by simp), H i (by simp)]
  case index t x i => rw [H x (by simp), H i (by simp)]
  case extract x j => rw [H x (by simp)]
  case makeFunc fn first captured =>
    cases fn with
    | func f =>
      have : captured.toList.map (opnd E σ 0) = captured.toList.map (opnd E τ 0) := List.map_congr_left fun x hx => H x (by simp; exact .inr (by simpa using hx)) 0
      simp only [this]
    | _ => rfl
  case call c =>
    obtain ⟨callee, args, argTypes⟩ := c
    cases callee with
    | builtin b => exact builtinM_congr fun x hx => H x (by simpa [Call.operands] using hx)
    | value f => rfl
    | invoke r n => rfl
theorem callee_congr {o : Oper} (h : ∀ i, i ∈ o.op.operands.toList.filterMap tmpOf → σ.sl i = τ.sl i) : callee? σ o = callee? τ o := by
  unfold callee?
  split
  · rfl
  · rename_i i args' _ hop
    rw [h i (by rw [hop]; simp [Op.operands, Call.operands, tmpOf])]
  · rfl
theorem stepM_congr {o : Oper} (h : ∀ i, i ∈ o.op.operands.toList.filterMap tmpOf → σ.sl i = τ.sl i) : stepM E F σ o = stepM E F τ o := by
  have H : ∀ x, x ∈ o.op.operands.toList → ∀ t, opnd E σ t x = opnd E τ t x := by
    intro x hx t
    cases x with
    | tmp i => exact h i (List.mem_filterMap.2 ⟨.tmp i, hx, rfl⟩)
    | const v => unfold opnd; split <;> first | rfl | (rename_i h; cases h)
    | _ => rfl
  unfold stepM
  rw [callee_congr h, prepM_congr h]
  split
  · rename_i f args more hcal
    obtain ⟨c, hop, hca, hcc⟩ := callee_some hcal
    have hargs : ∀ x, x ∈ args → ∀ t, opnd E σ t x = opnd E τ t x := fun x hx t => H x (by
      rw [hop]; simp only [Op.operands, Call.operands, Array.toList_append]
      exact List.mem_append_right _ (by rw [hca]; exact hx)) t
    split
    · split
      · rw [show args.map (opnd E σ 0) = args.map (opnd E τ 0) from List.map_congr_left fun x hx => hargs x hx 0]
      · rfl
    · split
      · rfl
      · rename_i fn hfn
        rw [opnds_congr hargs]
  · rw [opM_congr H]
end
end Go.Proofs.Ytjgmiilapnekfaa.Ev
