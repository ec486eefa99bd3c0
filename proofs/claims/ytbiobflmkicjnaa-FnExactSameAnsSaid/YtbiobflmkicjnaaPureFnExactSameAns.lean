/- The pure statement of FnExactSameAns: what the program's functions and the reference's answer, over numbers and lists alone. No condition. -/
import Derived.Test.YtbiobflmkicjnaaFitFnExactSameAns
import Derived.Test.YtbiobflmkicjnaaPFnExactSameAnsx
import Derived.Test.YtbiobflmkicjnaaPFnExactSameAnsx0
import Derived.Test.YtbiobflmkicjnaaPFnExactSameAnsx1
import Derived.Test.YtbiobflmkicjnaaPFnExactSameAnsx2
import Derived.Test.YtbiobflmkicjnaaPFnExactSameAnsx3
namespace Go.Proofs.Ytbiobflmkicjnaa.Pure
open Go.RowKit Go.Proofs.YtbiobflmkicjnaaW.PrintWords Go.Proofs.YtbiobflmkicjnaaW.PrintLast Go.Proofs.YtbiobflmkicjnaaW.PrintMore Go.Proofs.Ytbiobflmkicjnaa.PFnExactSameAns
set_option linter.unusedVariables false
set_option linter.unusedSimpArgs false
theorem w64 {x : Int} (h0 : -9223372036854775808 ≤ x) (h1 : x ≤ 9223372036854775807) : wrap64 x = x := by unfold wrap64; omega

theorem ev_pos {α : Type} {g : Nat → Option α} {r : α} (h : Ev (fun k => g (k + 1)) r) : Ev g r := Ev.step (f := fun k => g (k + 1)) (fun _ => rfl) h

theorem ev_some {α : Type} {g : Nat → Option α} {r : α} (h : ∀ k, g k = some r) : Ev g r := ⟨0, fun k _ => h k⟩

theorem ev_seq {α β : Type} {g : Nat → Option α} {f : Nat → α → Option β} {a : α} {r : β} (h : Ev g a) (k : Ev (fun n => f n a) r) : Ev (fun n => (g n).bind (f n)) r := Ev.bind h k

theorem ev_pure {α β : Type} {g : Option α} {f : Nat → α → Option β} {a : α} {r : β} (h : g = some a) (k : Ev (fun n => f n a) r) : Ev (fun n => g.bind (f n)) r := by subst h; exact k

theorem rd_at (xs : List Int) (i : Nat) (h : i < xs.length) : rd xs (i : Int) = xs[i] := by
  unfold rd
  simp [List.getD_eq_getElem?_getD, List.getElem?_eq_getElem h]

theorem szIntS (l : List Int) (a : Int) (h0 : 0 ≤ a) (h1 : a ≤ 1048576) (hl : l.length ≤ maxLen) : ∃ r, laws_szIntS.f l a = some r ∧ (r = -1 ∨ 0 ≤ r ∧ r + l.length ≤ a) := by
  unfold maxLen at hl
  unfold laws_szIntS.f
  rw [w64 (x := a - (l.length : Int)) (by omega) (by omega)]
  by_cases h : a - (l.length : Int) < 0
  · rw [if_pos h]; exact ⟨-1, rfl, .inl rfl⟩
  · rw [if_neg h]; exact ⟨_, rfl, .inr ⟨by omega, by omega⟩⟩

theorem toIntS_l (xs : List Int) (hl : xs.length ≤ 1048576) : ∀ (d i : Nat) (ys : List Int), ys.length = xs.length → i ≤ xs.length → xs.length - i = d → (∀ j, j < i → ys[j]? = xs[j]?) → Ev (fun k => laws_toIntS.l0 k xs ys (i : Int)) xs := by
  intro d
  induction d with
  | zero =>
    intro i ys hy hi hd he
    refine ev_pos (ev_some fun k => ?_)
    simp only [laws_toIntS.l0]
    rw [if_neg (by omega)]
    refine congrArg some (List.ext_getElem? fun j => ?_)
    rcases Nat.lt_or_ge j i with h | h
    · exact he j h
    · rw [List.getElem?_eq_none (by omega), List.getElem?_eq_none (by omega)]
  | succ d ih =>
    intro i ys hy hi hd he
    have hlt : i < xs.length := by omega
    refine Ev.step (f := fun k => laws_toIntS.l0 k xs (ys.set i xs[i]) ((i + 1 : Nat) : Int)) (fun k => ?_) (ih (i + 1) (ys.set i xs[i]) (by rw [List.length_set]; exact hy) (by omega) (by omega) ?_)
    · simp only [laws_toIntS.l0]
      rw [if_pos (by omega), if_pos (by omega), if_pos (by omega), w64 (by omega) (by omega), rd_at xs i hlt, Int.toNat_natCast]
      rfl
    · intro j hj
      rw [List.getElem?_set]
      by_cases h : i = j
      · subst h
        rw [if_pos rfl, if_pos (by omega), List.getElem?_eq_getElem hlt]
      · rw [if_neg h]
        exact he j (by omega)
theorem toIntS (xs : List Int) (hl : xs.length ≤ 1048576) : Ev (fun k => laws_toIntS.f k xs) xs := by
  have h := toIntS_l xs hl xs.length 0 (List.replicate xs.length 0) (by simp) (by omega) (by omega) (by intro j hj; omega)
  refine Ev.congr (fun k => ?_) h
  unfold laws_toIntS.f
  rw [if_pos (by omega), Int.toNat_natCast, if_pos (by omega)]
  rfl

theorem eqIntS_l (xs : List Int) (hl : xs.length ≤ 9223372036854775806) : ∀ (d i : Nat), i ≤ xs.length → xs.length - i = d → Ev (fun k => laws_eqIntS.l0 k xs xs (i : Int)) true := by
  intro d
  induction d with
  | zero =>
    intro i hi hd
    refine ev_pos (ev_some fun k => ?_)
    simp only [laws_eqIntS.l0]
    rw [if_neg (by omega)]
  | succ d ih =>
    intro i hi hd
    refine Ev.step (f := fun k => laws_eqIntS.l0 k xs xs ((i + 1 : Nat) : Int)) (fun k => ?_) (ih (i + 1) (by omega) (by omega))
    simp only [laws_eqIntS.l0]
    rw [if_pos (by omega), if_pos (by omega), if_pos (by omega), if_pos trivial, w64 (by omega) (by omega)]
    rfl
theorem eqIntS (xs : List Int) (hl : xs.length ≤ 1048576) : Ev (fun k => laws_eqIntS.f k xs xs) true := by
  refine Ev.congr (fun k => ?_) (eqIntS_l xs (by omega) xs.length 0 (by omega) (by omega))
  unfold laws_eqIntS.f
  rw [if_pos rfl]
  rfl

theorem szAns (i c : Int) (l : List Int) (a : Int) (h0 : 0 ≤ a) (h1 : a ≤ 1048576) (hl : l.length ≤ maxLen) : ∃ r, laws_szAns.f i c l a = some r ∧ (r = -1 ∨ 0 ≤ r ∧ r + l.length ≤ a) := by
  obtain ⟨r, hr, h⟩ := szIntS l a h0 h1 hl
  unfold laws_szAns.f
  rw [hr]
  simp only [Option.bind_some]
  by_cases hc : r < 0
  · rw [if_pos hc]; exact ⟨-1, rfl, .inl rfl⟩
  · rw [if_neg hc]; exact ⟨r, rfl, h⟩

theorem toAns (i c : Int) (l : List Int) (hl : l.length ≤ 1048576) : Ev (fun k => laws_toAns.f k i c l) (i, c, l) := by
  unfold laws_toAns.f
  exact ev_seq (toIntS l hl) (Ev.now _)

theorem eqAns (i c : Int) (l : List Int) (hl : l.length ≤ 1048576) : Ev (fun k => laws_eqAns.f k i c l i c l) true := by
  unfold laws_eqAns.f
  simp only [if_true]
  exact ev_seq (eqIntS l hl) (by simp only [if_true]; exact Ev.now _)

theorem cons_eq {a b : Int} {l m : List Int} (h : a = b) : (a :: l == b :: m) = (l == m) := by rw [List.cons_beq_cons, beq_iff_eq.mpr h, Bool.true_and]
theorem cons_ne {a b : Int} {l m : List Int} (h : ¬ a = b) : (a :: l == b :: m) = false := by rw [List.cons_beq_cons, beq_eq_false_iff_ne.mpr h, Bool.false_and]

theorem spec_SameSec_l (xs ys : List Int) (hl : xs.length ≤ 9223372036854775806) (hxy : xs.length = ys.length) : ∀ (d i : Nat), i ≤ xs.length → xs.length - i = d → Ev (fun k => spec_SameSec.l0 k xs ys (i : Int)) (xs.drop i == ys.drop i) := by
  intro d
  induction d with
  | zero =>
    intro i hi hd
    refine ev_pos (ev_some fun k => ?_)
    simp only [spec_SameSec.l0]
    rw [if_neg (by omega), List.drop_eq_nil_of_le (by omega), List.drop_eq_nil_of_le (by omega)]
    rfl
  | succ d ih =>
    intro i hi hd
    have h1 : i < xs.length := by omega
    have h2 : i < ys.length := by omega
    rw [List.drop_eq_getElem_cons h1, List.drop_eq_getElem_cons h2]
    by_cases he : xs[i] = ys[i]
    · rw [cons_eq he]
      refine Ev.step (f := fun k => spec_SameSec.l0 k xs ys ((i + 1 : Nat) : Int)) (fun k => ?_) (ih (i + 1) (by omega) (by omega))
      simp only [spec_SameSec.l0]
      rw [if_pos (by omega), if_pos (by omega), if_pos (by omega), rd_at xs i h1, rd_at ys i h2, if_pos he, w64 (by omega) (by omega)]
      rfl
    · rw [cons_ne he]
      refine ev_pos (ev_some fun k => ?_)
      simp only [spec_SameSec.l0]
      rw [if_pos (by omega), if_pos (by omega), if_pos (by omega), rd_at xs i h1, rd_at ys i h2, if_neg he]
theorem spec_SameSec' (xs ys : List Int) (hl : xs.length ≤ 1048576) : Ev (fun k => spec_SameSec.f k xs ys) (xs == ys) := by
  unfold spec_SameSec.f
  by_cases h : (xs.length : Int) = (ys.length : Int)
  · simp only [if_pos h]
    have := spec_SameSec_l xs ys (by omega) (by omega) xs.length 0 (by omega) (by omega)
    simpa using this
  · simp only [if_neg h]
    have : (xs == ys) = false := by
      rw [beq_eq_false_iff_ne]
      intro e
      exact h (by rw [e])
    rw [this]
    exact Ev.now _

theorem slices_Equal_l (xs ys : List Int) (hl : xs.length ≤ 9223372036854775806) (hxy : xs.length = ys.length) : ∀ (d i : Nat), i ≤ xs.length → xs.length - i = d → Ev (fun k => slices_Equal_int_int.l0 k xs ys (xs.length : Int) (i : Int)) (xs.drop i == ys.drop i) := by
  intro d
  induction d with
  | zero =>
    intro i hi hd
    refine ev_pos (ev_some fun k => ?_)
    simp only [slices_Equal_int_int.l0]
    rw [if_neg (by omega), List.drop_eq_nil_of_le (by omega), List.drop_eq_nil_of_le (by omega)]
    rfl
  | succ d ih =>
    intro i hi hd
    have h1 : i < xs.length := by omega
    have h2 : i < ys.length := by omega
    rw [List.drop_eq_getElem_cons h1, List.drop_eq_getElem_cons h2]
    by_cases he : xs[i] = ys[i]
    · rw [cons_eq he]
      refine Ev.step (f := fun k => slices_Equal_int_int.l0 k xs ys (xs.length : Int) ((i + 1 : Nat) : Int)) (fun k => ?_) (ih (i + 1) (by omega) (by omega))
      simp only [slices_Equal_int_int.l0]
      rw [if_pos (by omega), if_pos (by omega), if_pos (by omega), if_pos (by omega), rd_at xs i h1, rd_at ys i h2, if_pos he, w64 (by omega) (by omega)]
      rfl
    · rw [cons_ne he]
      refine ev_pos (ev_some fun k => ?_)
      simp only [slices_Equal_int_int.l0]
      rw [if_pos (by omega), if_pos (by omega), if_pos (by omega), if_pos (by omega), rd_at xs i h1, rd_at ys i h2, if_neg he]
theorem slices_Equal (xs ys : List Int) (hl : xs.length ≤ 1048576) : Ev (fun k => slices_Equal_int_int.f k xs ys) (xs == ys) := by
  unfold slices_Equal_int_int.f
  by_cases h : (xs.length : Int) = (ys.length : Int)
  · simp only [if_pos h]
    have := slices_Equal_l xs ys (by omega) (by omega) xs.length 0 (by omega) (by omega)
    simpa using this
  · simp only [if_neg h]
    have : (xs == ys) = false := by
      rw [beq_eq_false_iff_ne]
      intro e
      exact h (by rw [e])
    rw [this]
    exact Ev.now _

theorem impl_SameAns' (i c : Int) (l : List Int) (i' c' : Int) (l' : List Int) (hl : l.length ≤ 1048576) : Ev (fun k => impl_SameAns.f k i c l i' c' l') (decide (i = i') && decide (c = c') && (l == l')) := by
  unfold impl_SameAns.f
  by_cases h1 : i = i'
  · by_cases h2 : c = c'
    · simp only [if_pos h1, if_pos h2, decide_eq_true h1, decide_eq_true h2, Bool.true_and]
      exact ev_seq (slices_Equal l l' hl) (Ev.now _)
    · simp only [if_pos h1, if_neg h2, decide_eq_false h2, Bool.and_false, Bool.false_and]
      exact Ev.now _
  · simp only [if_neg h1, decide_eq_false h1, Bool.false_and]
    exact Ev.now _
theorem spec_SameAns' (i c : Int) (l : List Int) (i' c' : Int) (l' : List Int) (hl : l.length ≤ 1048576) : Ev (fun k => spec_SameAns.f k i c l i' c' l') (decide (i = i') && decide (c = c') && (l == l')) := by
  unfold spec_SameAns.f
  by_cases h1 : i = i'
  · by_cases h2 : c = c'
    · simp only [if_pos h1, if_pos h2, decide_eq_true h1, decide_eq_true h2, Bool.true_and]
      exact ev_seq (spec_SameSec' l l' hl) (Ev.now _)
    · simp only [if_pos h1, if_neg h2, decide_eq_false h2, Bool.and_false, Bool.false_and]
      exact Ev.now _
  · simp only [if_neg h1, decide_eq_false h1, Bool.false_and]
    exact Ev.now _

theorem FnExactSameAns (y0 : S24) (F0 : Fit24 y0) (y1 : S24) (F1 : Fit24 y1) : ∃ k, laws_FnExactSameAns.f k y0.f0 y0.f1 y0.f2 y1.f0 y1.f1 y1.f2 = some true := by
  refine Ev.rounds ?_
  unfold laws_FnExactSameAns.f
  obtain ⟨r, hr, h⟩ := szAns y0.f0 y0.f1 y0.f2 1048576 (by omega) (by omega) F0.2.2.1
  refine ev_pure hr ?_
  rcases h with rfl | ⟨h0, h1⟩
  · exact ev_some fun _ => rfl
  simp only [if_neg (show ¬ r < 0 by omega)]
  obtain ⟨q, hq, h⟩ := szAns y1.f0 y1.f1 y1.f2 r (by omega) (by omega) F1.2.2.1
  refine ev_pure hq ?_
  rcases h with rfl | ⟨h2, h3⟩
  · exact ev_some fun _ => rfl
  simp only [if_neg (show ¬ q < 0 by omega)]
  have l0 : y0.f2.length ≤ 1048576 := by omega
  have l1 : y1.f2.length ≤ 1048576 := by omega
  refine ev_seq (toAns _ _ _ l0) (ev_seq (toAns _ _ _ l1) (ev_seq (spec_SameAns' _ _ _ _ _ _ l0) (ev_seq (toAns _ _ _ l0) (ev_seq (toAns _ _ _ l1) (ev_seq (impl_SameAns' _ _ _ _ _ _ l0) ?_)))))
  simp only [bne_self_eq_false, Bool.false_eq_true, if_false]
  refine ev_seq (toAns _ _ _ l0) (ev_seq (eqAns _ _ _ l0) ?_)
  simp only [if_true]
  refine ev_seq (toAns _ _ _ l1) (ev_seq (eqAns _ _ _ l1) ?_)
  simp only [if_true]
  exact Ev.now _

end Go.Proofs.Ytbiobflmkicjnaa.Pure
