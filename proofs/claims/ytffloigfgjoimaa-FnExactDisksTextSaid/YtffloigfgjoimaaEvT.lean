/- Regions that draw their order: first, what a step touches, and that it hangs on nothing else. No condition. -/
import Derived.Test.YtffloigfgjoimaaEvS
namespace Go.Proofs.Ytffloigfgjoimaa.Ev
open Go
set_option linter.unusedVariables false

theorem M.nearby {α : Type} (x : M α) : ∀ {m : Mem} {q : FP} {a : α} {m' : Mem} {q' : FP}, x.ev m q = some (a, m', q') →
    ∃ rd wr, q' = ⟨rd ++ q.rd, wr ++ q.wr⟩ ∧ (∀ n, n ∉ wr → m' n = m n) ∧ ∀ m2 : Mem, (∀ n, n ∈ rd → m2 n = m n) → ∃ m2', x.ev m2 q = some (a, m2', q') ∧ (∀ n, n ∈ wr → m2' n = m' n) ∧ ∀ n, n ∉ wr → m2' n = m2 n := by
  induction x with
  | ret a => intro m q a' m' q' h; cases h; exact ⟨[], [], rfl, fun _ _ => rfl, fun m2 _ => ⟨m2, rfl, fun n hn => (by simp at hn), fun _ _ => rfl⟩⟩
  | fail => intro m q a' m' q' h; cases h
  | get n k ih =>
    intro m q a' m' q' h
    obtain ⟨rd, wr, h1, h2, h3⟩ := ih (m n) h
    refine ⟨rd ++ [n], wr, by rw [h1]; simp, h2, fun m2 hm => ?_⟩
    obtain ⟨m2', k1, k2, k3⟩ := h3 m2 (fun x hx => hm x (List.mem_append_left _ hx))
    refine ⟨m2', ?_, k2, k3⟩
    show (k (m2 n)).ev m2 _ = _
    rw [hm n (List.mem_append_right _ List.mem_cons_self)]; exact k1
  | set n o k ih =>
    intro m q a' m' q' h
    obtain ⟨rd, wr, h1, h2, h3⟩ := ih h
    refine ⟨rd, wr ++ [n], by rw [h1]; simp, fun x hx => ?_, fun m2 hm => ?_⟩
    · have hxn : x ≠ n := fun e => hx (by rw [e]; exact List.mem_append_right _ List.mem_cons_self)
      rw [h2 x (fun h => hx (List.mem_append_left _ h)), put_ne _ _ hxn]
    · obtain ⟨m2', k1, k2, k3⟩ := h3 (m2.put n o) (fun x hx => by
        by_cases hxn : x = n
        · subst hxn; rw [put_self, put_self]
        · rw [put_ne _ _ hxn, put_ne _ _ hxn]; exact hm x hx)
      refine ⟨m2', k1, fun x hx => ?_, fun x hx => ?_⟩
      · by_cases hw : x ∈ wr
        · exact k2 x hw
        · rcases List.mem_append.1 hx with h5 | h5
          · exact absurd h5 hw
          · simp at h5; subst h5
            rw [k3 x hw, h2 x hw, put_self, put_self]
      · have hxn : x ≠ n := fun e => hx (by rw [e]; exact List.mem_append_right _ List.mem_cons_self)
        rw [k3 x (fun h => hx (List.mem_append_left _ h)), put_ne _ _ hxn]
  | chk c k ih =>
    intro m q a' m' q' h
    obtain ⟨hc, h1⟩ := M.chk_some h
    obtain ⟨rd, wr, h2, h3, h4⟩ := ih h1
    refine ⟨rd, wr, h2, h3, fun m2 hm => ?_⟩
    obtain ⟨m2', k1, k2⟩ := h4 m2 hm
    exact ⟨m2', by simp only [M.ev, hc, cond_true]; exact k1, k2⟩

section
variable {E : Env} {F : Call}
/-- An operation's steps in one piece. -/
def stepM (E : Env) (F : Call) (σ : St) (o : Oper) : M A :=
  match callee? σ o with
  | some (f, args, more) =>
    match E.fn f with
    | none => .fail
    | some fn => bif Nat.beq args.length fn.params.toList.length && Nat.beq more.length (E.sig f).free.length && noTups (opnds E σ fn.params.toList args) then
      ((argsM E (E.sig f).ins (pars (E.sig f) fn) (opnds E σ fn.params.toList args ++ more)).bind fun r => (aliveAll r.2.2).bind fun _ => .ret r).bind fun r =>
        match F f r.1 with
        | none => .fail
        | some out => behind E (E.sig f) fn (o.dst.getD 0) r.2.1 r.2.2 out
      else .fail
  | none => opM E σ o (o.dst.getD 0)
theorem step_of {σ σ' : St} {o : Oper} {p : FP} (h : step E F σ o (fun σ' p => some (σ', p)) = some (σ', p)) : ∃ a m', (stepM E F σ o).ev σ.mem ⟨[], []⟩ = some (a, m', p) ∧ σ' = St.put ⟨σ.sl, m'⟩ o.dst a := by
  unfold step at h
  unfold stepM
  split at h
  · rename_i f args more hcal
    split at h
    · cases h
    · rename_i fn hfn
      obtain ⟨hc, h1⟩ := cond_some h
      obtain ⟨⟨ins, l, seen⟩, m1, p1, ha, h2⟩ := M.run_some h1
      simp only at h2
      split at h2
      · cases h2
      · rename_i out hout
        obtain ⟨a, m3, p3, hb, hK⟩ := M.run_some h2
        cases hK
        refine ⟨a, m3, ?_, rfl⟩
        simp only [hcal, hfn, hc, cond_true]
        rw [M.ev_bind, ha]
        simp only [hout, hb]
  · rename_i hcal
    obtain ⟨a, m1, p1, ha, hK⟩ := M.run_some h
    cases hK
    exact ⟨a, m1, by simp only [hcal]; exact ha, rfl⟩
theorem step_to {σ : St} {o : Oper} {p : FP} {a : A} {m' : Mem} (h : (stepM E F σ o).ev σ.mem ⟨[], []⟩ = some (a, m', p)) : step E F σ o (fun σ' p => some (σ', p)) = some (St.put ⟨σ.sl, m'⟩ o.dst a, p) := by
  unfold stepM at h
  unfold step
  split at h
  · rename_i f args more hcal
    split at h
    · cases h
    · rename_i fn hfn
      obtain ⟨hc, h1⟩ := M.bif_some h
      obtain ⟨⟨ins, l, seen⟩, m1, p1, ha, h2⟩ := M.bind_some h1
      simp only at h2
      split at h2
      · cases h2
      · rename_i out hout
        simp only [hcal, hfn, hc, cond_true]
        rw [M.run_eq, ha]
        simp only [hout]
        rw [M.run_eq, h2]
  · rename_i hcal
    simp only [hcal]
    rw [M.run_eq, h]
end
end Go.Proofs.Ytffloigfgjoimaa.Ev
