/- The state at a loop's head. No condition. -/
import Derived.Test.YtjgmiilapnekfaaEvN
namespace Go.Proofs.Ytjgmiilapnekfaa.Ev
open Go
set_option linter.unusedVariables false
section
variable {D : Nat → Bool} {P : Program} {E : Env} {β : Base} {m : Mem} {env : Names} {w w' : World} {S : Nat → Prop} {N : Nat} {d0 : List Deferred}

def lookInv : List (Nm × Nm) → Nm → Option Nm
  | [], _ => none
  | (a, b) :: r, x => bif nmBeq x b then some a else lookInv r x
theorem lookN_mem : ∀ {l : List (Nm × Nm)} {n x : Nm}, lookN l n = some x → (n, x) ∈ l
  | (a, b) :: r, n, x, h => by
    unfold lookN at h
    cases hb : nmBeq n a with
    | true => rw [hb] at h; cases h; rw [nmBeq_iff.1 hb]; exact List.mem_cons_self
    | false => rw [hb] at h; exact List.mem_cons_of_mem _ (lookN_mem h)
theorem lookInv_mem : ∀ {l : List (Nm × Nm)} {n x : Nm}, lookInv l x = some n → (n, x) ∈ l
  | (a, b) :: r, n, x, h => by
    unfold lookInv at h
    cases hb : nmBeq x b with
    | true => rw [hb] at h; cases h; rw [nmBeq_iff.1 hb]; exact List.mem_cons_self
    | false => rw [hb] at h; exact List.mem_cons_of_mem _ (lookInv_mem h)
theorem any_false {n : Nm} {l : List Nm} (h : (!(l.any (nmBeq n))) = true) {x : Nm} (hx : x ∈ l) : n ≠ x := by
  rintro rfl
  have : l.any (nmBeq n) = true := List.any_eq_true.2 ⟨n, hx, nmBeq_self n⟩
  rw [this] at h; cases h
theorem mem_fsts {α γ : Type} : ∀ {l : List (α × γ)} {a : α} {b : γ}, (a, b) ∈ l → a ∈ fsts l
  | (a', b') :: r, a, b, h => by
    rcases List.mem_cons.1 h with h | h
    · cases h; exact List.mem_cons_self
    · exact List.mem_cons_of_mem _ (mem_fsts h)
theorem mem_snds {α γ : Type} : ∀ {l : List (α × γ)} {a : α} {b : γ}, (a, b) ∈ l → b ∈ snds l
  | (a', b') :: r, a, b, h => by
    rcases List.mem_cons.1 h with h | h
    · cases h; exact List.mem_cons_self
    · exact List.mem_cons_of_mem _ (mem_snds h)
theorem lookN_of : ∀ {l : List (Nm × Nm)} {n x : Nm}, nodupN (fsts l) = true → (n, x) ∈ l → lookN l n = some x
  | (a, b) :: r, n, x, h, hm => by
    obtain ⟨h1, h2⟩ := and_some h
    unfold lookN
    rcases List.mem_cons.1 hm with hm | hm
    · cases hm; rw [nmBeq_self]; rfl
    · rw [nmBeq_ne (Ne.symm (any_false h1 (mem_fsts hm)))]; exact lookN_of h2 hm
theorem lookInv_of : ∀ {l : List (Nm × Nm)} {n x : Nm}, nodupN (snds l) = true → (n, x) ∈ l → lookInv l x = some n
  | (a, b) :: r, n, x, h, hm => by
    obtain ⟨h1, h2⟩ := and_some h
    unfold lookInv
    rcases List.mem_cons.1 hm with hm | hm
    · cases hm; rw [nmBeq_self]; rfl
    · rw [nmBeq_ne (Ne.symm (any_false h1 (mem_snds hm)))]; exact lookInv_of h2 hm
theorem ofMem_mem : ∀ {l : List (Nm × O)} {x : Nm} {o : O}, ofMem l x = some o → (x, o) ∈ l
  | (a, b) :: r, x, o, h => by
    unfold ofMem at h
    cases hb : nmBeq x a with
    | true => rw [hb] at h; cases h; rw [nmBeq_iff.1 hb]; exact List.mem_cons_self
    | false => rw [hb] at h; exact List.mem_cons_of_mem _ (ofMem_mem h)
theorem ofMem_of : ∀ {l : List (Nm × O)} {x : Nm} {o : O}, nodupN (fsts l) = true → (x, o) ∈ l → ofMem l x = some o
  | (a, b) :: r, x, o, h, hm => by
    obtain ⟨h1, h2⟩ := and_some h
    unfold ofMem
    rcases List.mem_cons.1 hm with hm | hm
    · cases hm; rw [nmBeq_self]; rfl
    · rw [nmBeq_ne (Ne.symm (any_false h1 (mem_fsts hm)))]; exact ofMem_of h2 hm
theorem renMem_mem {m : Mem} {ren : List (Nm × Nm)} : ∀ {l : List (Nm × Nm)} {x : Nm} {o : O}, (x, o) ∈ renMem m ren l → ∃ old, (old, x) ∈ l ∧ o = renO ren (m old)
  | (a, b) :: r, x, o, h => by
    rcases List.mem_cons.1 h with h | h
    · cases h; exact ⟨a, List.mem_cons_self, rfl⟩
    · obtain ⟨old, h1, h2⟩ := renMem_mem h; exact ⟨old, List.mem_cons_of_mem _ h1, h2⟩
theorem present_of : ∀ {l : List Nm} {n : Nm}, presentN m l = true → n ∈ l → ∃ o, m n = some o
  | a :: r, n, h, hn => by
    unfold presentN at h
    split at h
    · rename_i o ho
      rcases List.mem_cons.1 hn with rfl | hn
      · exact ⟨o, ho⟩
      · exact present_of h hn
    · cases h
theorem nodup_app {α : Type} : ∀ {a b : List (Nm × α)}, nodupN (fsts (a ++ b)) = true → ∀ {x : Nm} {y z : α}, (x, y) ∈ a → (x, z) ∈ b → False
  | (n, o) :: r, b, h, x, y, z, ha, hb => by
    obtain ⟨h1, h2⟩ := and_some h
    rcases List.mem_cons.1 ha with ha | ha
    · cases ha; exact any_false h1 (mem_fsts (List.mem_append_right r hb)) rfl
    · exact nodup_app h2 ha hb

/-- New names, and nil as an own row. -/
theorem fillA_ok {S : Nat → Prop} {at_ : Nm} {a : A} {v : Value} (h : RV1 E env w S a v) (hn : ∀ q, q ∈ (fillA D at_ a).2 → env q.1 = some (.slice none 0 0)) : RV1 E env w S (fillA D at_ a).1 v ∧ (a.solid = true → (fillA D at_ a).1.solid = true) := by
  cases a with
  | nil e =>
    have hv : v = .slice none 0 0 := h
    subst hv
    exact ⟨⟨hn (at_, bif D e then .deep e [] none else .row e true []) List.mem_cons_self, _, _, _, rfl⟩, fun _ => rfl⟩
  | _ => exact ⟨h, fun h => h⟩
theorem fillAs_ok {S : Nat → Prop} {s : Nat} : ∀ {j : Nat} {as : List A} {vs : List Value}, RVs E env w S as vs → (∀ q, q ∈ (fillAs D s j as).2 → env q.1 = some (.slice none 0 0)) → RVs E env w S (fillAs D s j as).1 vs ∧ (solids as = true → solids (fillAs D s j as).1 = true)
  | j, [], [], _, _ => ⟨trivial, fun _ => rfl⟩
  | j, a :: as, v :: vs, h, hn => by
    have h1 := fillA_ok (at_ := (s, j)) h.1 (fun q hq => hn q (List.mem_append_left _ hq))
    have h2 := fillAs_ok (j := j + 1) h.2 (fun q hq => hn q (List.mem_append_right _ hq))
    refine ⟨⟨h1.1, h2.1⟩, fun hs => ?_⟩
    simp only [solids, Bool.and_eq_true] at hs
    simp only [fillAs, solids, h1.2 hs.1, h2.2 hs.2, Bool.and_self]
  | _, [], _ :: _, h, _ => h.elim
  | _, _ :: _, [], h, _ => h.elim
theorem fillM_mem : ∀ {l : List (Nm × O)} {x : Nm} {o : O}, (x, o) ∈ (fillM D l).1 → (∃ cs, (x, .var cs) ∈ l ∧ o = .var (fillAs D x.1 1 cs).1 ∧ ∀ q, q ∈ (fillAs D x.1 1 cs).2 → q ∈ (fillM D l).2) ∨ ((x, o) ∈ l ∧ ∀ cs, o ≠ .var cs)
  | (n, .var cs) :: r, x, o, h => by
    rcases List.mem_cons.1 h with h | h
    · cases h; exact .inl ⟨cs, List.mem_cons_self, rfl, fun q hq => List.mem_append_left _ hq⟩
    · rcases fillM_mem h with ⟨cs', h1, h2, h3⟩ | ⟨h1, h2⟩
      · exact .inl ⟨cs', List.mem_cons_of_mem _ h1, h2, fun q hq => List.mem_append_right _ (h3 q hq)⟩
      · exact .inr ⟨List.mem_cons_of_mem _ h1, h2⟩
  | (n, .row e d es) :: r, x, o, h => by
    rcases List.mem_cons.1 h with h | h
    · cases h; exact .inr ⟨List.mem_cons_self, fun cs h => by cases h⟩
    · rcases fillM_mem h with ⟨cs', h1, h2, h3⟩ | ⟨h1, h2⟩
      · exact .inl ⟨cs', List.mem_cons_of_mem _ h1, h2, h3⟩
      · exact .inr ⟨List.mem_cons_of_mem _ h1, h2⟩
  | (n, .dead) :: r, x, o, h => by
    rcases List.mem_cons.1 h with h | h
    · cases h; exact .inr ⟨List.mem_cons_self, fun cs h => by cases h⟩
    · rcases fillM_mem h with ⟨cs', h1, h2, h3⟩ | ⟨h1, h2⟩
      · exact .inl ⟨cs', List.mem_cons_of_mem _ h1, h2, h3⟩
      · exact .inr ⟨List.mem_cons_of_mem _ h1, h2⟩
  | (n, .deep e es hh) :: r, x, o, h => by
    rcases List.mem_cons.1 h with h | h
    · cases h; exact .inr ⟨List.mem_cons_self, fun cs h => by cases h⟩
    · rcases fillM_mem h with ⟨cs', h1, h2, h3⟩ | ⟨h1, h2⟩
      · exact .inl ⟨cs', List.mem_cons_of_mem _ h1, h2, h3⟩
      · exact .inr ⟨List.mem_cons_of_mem _ h1, h2⟩
/-- The nil rows that come about. -/
def NilRows (l : List (Nm × O)) : Prop := ∀ x o, (x, o) ∈ l → ∃ e, o = .row e true [] ∨ o = .deep e [] none
theorem fillA_nil (at_ : Nm) (a : A) : NilRows (fillA D at_ a).2 := by
  intro x o h
  cases a <;> simp only [fillA] at h <;> first | (simp at h; done) | skip
  rename_i e
  simp only [List.mem_singleton, Prod.mk.injEq] at h
  refine ⟨e, ?_⟩
  rw [h.2]
  cases D e <;> simp
theorem fillAs_nil (s : Nat) : ∀ (j : Nat) (as : List A), NilRows (fillAs D s j as).2
  | _, [] => fun x o h => by simp [fillAs] at h
  | j, a :: as => fun x o h => by
    rcases List.mem_append.1 h with h | h
    · exact fillA_nil _ _ x o h
    · exact fillAs_nil s _ _ x o h
theorem fillV_nil (s : Nat) (a : A) : NilRows (fillV D s a).2 := by
  cases a with
  | agg as => exact fillAs_nil s _ _
  | _ => exact fillA_nil _ _
theorem fillS_nil : ∀ (l : List (Nat × A)), NilRows (fillS D l).2
  | [] => fun x o h => by simp [fillS] at h
  | (i, a) :: r => fun x o h => by
    rcases List.mem_append.1 h with h | h
    · exact fillV_nil _ _ x o h
    · exact fillS_nil r x o h
theorem fillM_nil : ∀ (l : List (Nm × O)), NilRows (fillM D l).2
  | [] => fun x o h => by simp [fillM] at h
  | (n, .var cs) :: r => fun x o h => by
    rcases List.mem_append.1 h with h | h
    · exact fillAs_nil _ _ _ x o h
    · exact fillM_nil r x o h
  | (n, .row e d es) :: r => fun x o h => fillM_nil r x o h
  | (n, .dead) :: r => fun x o h => fillM_nil r x o h
  | (n, .deep e es hh) :: r => fun x o h => fillM_nil r x o h
end
end Go.Proofs.Ytjgmiilapnekfaa.Ev
