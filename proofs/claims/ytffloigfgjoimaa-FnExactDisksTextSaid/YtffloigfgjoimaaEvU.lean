/- A step hangs on the temporaries that it looks at alone. No condition. -/
import Derived.Test.YtffloigfgjoimaaEvT
namespace Go.Proofs.Ytffloigfgjoimaa.Ev
open Go
set_option linter.unusedVariables false
section
variable {E : Env} {F : Call} {σ τ : St}

theorem buildAgg_congr {fs : List (Nat × Nat)} : ∀ {ps : List (Nat × Operand)} {cs : List A}, (∀ q, q ∈ ps → ∀ t, opnd E σ t q.2 = opnd E τ t q.2) → buildAgg E σ fs ps cs = buildAgg E τ fs ps cs
  | [], _, _ => rfl
  | (j, x) :: r, cs, h => by
    unfold buildAgg
    split
    · rename_i o ft hf
      have hx := h (j, x) List.mem_cons_self ft
      simp only at hx
      rw [hx, buildAgg_congr fun q hq => h q (List.mem_cons_of_mem _ hq)]
    · rfl
theorem rowM_congr {e : Nat} : ∀ {ps : List (Nat × Operand)} {j : Nat}, (∀ q, q ∈ ps → ∀ t, opnd E σ t q.2 = opnd E τ t q.2) → rowM E σ e j ps = rowM E τ e j ps
  | [], _, _ => rfl
  | (i, x) :: r, j, h => by
    unfold rowM
    have hx := h (i, x) List.mem_cons_self e
    simp only at hx
    rw [hx, rowM_congr fun q hq => h q (List.mem_cons_of_mem _ hq)]
theorem builtinM_congr {d : Nat} {b : Builtin} {args : List Operand} {tys : List Nat} (h : ∀ x, x ∈ args → ∀ t, opnd E σ t x = opnd E τ t x) : builtinM E σ d b args tys = builtinM E τ d b args tys := by
  unfold builtinM
  split
  · rename_i x t; rw [h x (by simp)]
  · rename_i x y t u; rw [h x (by simp), h y (by simp)]
  · rename_i x y t u; rw [h x (by simp), h y (by simp)]
  · rename_i x t; rw [h x (by simp)]
  · rename_i x y t u; rw [h x (by simp), h y (by simp)]
  · rename_i x y t u; rw [h x (by simp), h y (by simp)]
  · rfl
theorem opnds_congr : ∀ {ts : List Nat} {xs : List Operand}, (∀ x, x ∈ xs → ∀ t, opnd E σ t x = opnd E τ t x) → opnds E σ ts xs = opnds E τ ts xs
  | [], _, _ => by unfold opnds; rfl
  | _ :: _, [], _ => rfl
  | t :: ts, x :: xs, h => by
    unfold opnds
    rw [h x List.mem_cons_self, opnds_congr fun y hy => h y (List.mem_cons_of_mem _ hy)]
theorem optmap_congr {x : Option Operand} {t : Nat} (h : ∀ y, x = some y → opnd E σ t y = opnd E τ t y) : x.map (opnd E σ t) = x.map (opnd E τ t) := by
  cases x with
  | none => rfl
  | some y => simp only [Option.map_some, h y rfl]
theorem opM_congr {o : Oper} {d : Nat} (H : ∀ x, x ∈ o.op.operands.toList → ∀ t, opnd E σ t x = opnd E τ t x) : opM E σ o d = opM E τ o d := by
  obtain ⟨dst, op, type, pos, after, guard⟩ := o
  cases op <;> simp only [opM] <;> simp only [Op.operands] at H
  case move x => rw [H x (by simp)]
  case assign x => rw [H x (by simp)]
  case pick c a b => rw [H c (by simp), H a (by simp), H b (by simp)]
  case box t v => rw [H v (by simp)]
  case build t ps =>
    have := fun fs cs => buildAgg_congr (E := E) (σ := σ) (τ := τ) (fs := fs) (ps := ps.toList) (cs := cs) (fun q hq t => H q.2 (by simpa using ⟨q.1, by simpa using hq⟩) t)
    simp only [this]
  case buildSlice t n ps =>
    have := fun e => rowM_congr (E := E) (σ := σ) (τ := τ) (e := e) (ps := ps.toList) (j := 0) (fun q hq t => H q.2 (by simpa using ⟨q.1, by simpa using hq⟩) t)
    simp only [this]
  case load t x => rw [H x (by simp)]
  case store t x y => rw [H x (by simp), H y (by simp)]
  case nilCheck x => rw [H x (by simp)]
  case binOp op xt x y yt => rw [H x (by simp), H y (by simp)]
  case unOp op xt x => rw [H x (by simp)]
  case convert s t x => rw [H x (by simp)]
  case makeSlice t n c => rw [H n (by simp), H c (by simp)]
  case slice t x lo hi mx =>
    cases mx with
    | some z => rfl
    | none =>
      simp only
      rw [H x (by simp), optmap_congr (x := lo) (fun y hy => H y (by subst hy; simp) 0), optmap_congr (x := hi) (fun y hy => H y (by subst hy; simp) 0)]
  case fieldAddr t x j => rw [H x (by simp)]
  case field t x j => rw [H x (by simp)]
  case indexAddr t x i => rw [H x (by simp), H i (by simp)]
  case extract x j => rw [H x (by simp)]
  case makeFunc fn first captured =>
    cases fn with
    | func f =>
      have : captured.toList.map (opnd E σ 0) = captured.toList.map (opnd E τ 0) := List.map_congr_left fun x hx => H x (by simp; exact .inr (by simpa using hx)) 0
      simp only [this]
    | _ => rfl
  case call c =>
    obtain ⟨callee, args, argTypes⟩ := c
    cases callee with
    | builtin b => exact builtinM_congr fun x hx => H x (by simpa [Call.operands] using hx)
    | value f => rfl
    | invoke r n => rfl
theorem callee_congr {o : Oper} (h : ∀ i, i ∈ o.op.operands.toList.filterMap tmpOf → σ.sl i = τ.sl i) : callee? σ o = callee? τ o := by
  unfold callee?
  split
  · rfl
  · rename_i i args' _ hop
    rw [h i (by rw [hop]; simp [Op.operands, Call.operands, tmpOf])]
  · rfl
theorem stepM_congr {o : Oper} (h : ∀ i, i ∈ o.op.operands.toList.filterMap tmpOf → σ.sl i = τ.sl i) : stepM E F σ o = stepM E F τ o := by
  have H : ∀ x, x ∈ o.op.operands.toList → ∀ t, opnd E σ t x = opnd E τ t x := by
    intro x hx t
    cases x with
    | tmp i => exact h i (List.mem_filterMap.2 ⟨.tmp i, hx, rfl⟩)
    | const v => unfold opnd; split <;> first | rfl | (rename_i h; cases h)
    | _ => rfl
  unfold stepM
  rw [callee_congr h]
  split
  · rename_i f args more hcal
    obtain ⟨c, hop, hca, hcc⟩ := callee_some hcal
    have hargs : ∀ x, x ∈ args → ∀ t, opnd E σ t x = opnd E τ t x := fun x hx t => H x (by
      rw [hop]; simp only [Op.operands, Call.operands, Array.toList_append]
      exact List.mem_append_right _ (by rw [hca]; exact hx)) t
    split
    · rfl
    · rename_i fn hfn
      rw [opnds_congr hargs]
  · exact opM_congr H
end
end Go.Proofs.Ytffloigfgjoimaa.Ev
