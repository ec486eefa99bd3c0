/- The pure statement of FnExactWordOf: what the program's functions and the reference's answer, over numbers and lists alone. No condition. -/
import Derived.Test.YtbiobflmkicjnaaFitFnExactWordOf
import Derived.Test.YtbiobflmkicjnaaPFnExactWordOfx
import Derived.Test.YtbiobflmkicjnaaPFnExactWordOfx0
import Derived.Test.YtbiobflmkicjnaaPFnExactWordOfx1
import Derived.Test.YtbiobflmkicjnaaPFnExactWordOfx2
import Derived.Test.YtbiobflmkicjnaaPFnExactWordOfx3
import Derived.Test.YtbiobflmkicjnaaPFnExactWordOfx4
import Derived.Test.YtbiobflmkicjnaaPFnExactWordOfx5
namespace Go.Proofs.Ytbiobflmkicjnaa.Pure
open Go.RowKit Go.Proofs.YtbiobflmkicjnaaW.PrintWords Go.Proofs.YtbiobflmkicjnaaW.PrintLast Go.Proofs.YtbiobflmkicjnaaW.PrintMore Go.Proofs.Ytbiobflmkicjnaa.PFnExactWordOf
set_option linter.unusedVariables false
set_option linter.unusedSimpArgs false
theorem ev_seq {α β : Type} {g : Nat → Option α} {f : Nat → α → Option β} {a : α} {r : β} (h : Ev g a) (k : Ev (fun n => f n a) r) : Ev (fun n => (g n).bind (f n)) r := Ev.bind h k

abbrev InI64 (x : Int) : Prop := -9223372036854775808 ≤ x ∧ x ≤ 9223372036854775807

theorem i64_of_wf {x : Int} (h : (Lit.int .i64 x).wf = true) : InI64 x := by
  simp [Lit.wf, IntKind.min, IntKind.max, IntKind.signed, IntKind.bits] at h
  exact ⟨by omega, by omega⟩

theorem w64 {x : Int} (h0 : -9223372036854775808 ≤ x) (h1 : x ≤ 9223372036854775807) : wrap64 x = x := by unfold wrap64; omega

/-- How many blocks a command has. -/
def runLen (op n : Int) (l : List Int) : Int := if op = 1 ∨ op = 6 then n else if op = 2 ∨ op = 3 then l.length else if op = 5 then 1 else 0

/-- Whether a command would write a block. -/
def writesB (op lba n : Int) (l : List Int) (b : Int) : Bool := decide (op = 2 ∨ op = 3 ∨ op = 6 ∨ op = 5) && decide (lba ≤ b) && decide (b - lba < runLen op n l)

theorem spec_l13Len' (o i b n : Int) (l : List Int) : Ev (fun k => spec_l13Len.f k o i b n l) (runLen o n l) := by
  refine ⟨2, fun k hk => ?_⟩
  obtain ⟨k, rfl⟩ : ∃ m, k = m + 2 := ⟨k - 2, by omega⟩
  unfold runLen spec_l13Len.f
  by_cases h1 : o = 1
  · subst h1; simp [spec_l13Len.j0]
  · by_cases h6 : o = 6
    · subst h6; simp [spec_l13Len.j0]
    · by_cases h2 : o = 2
      · subst h2; simp [spec_l13Len.j0, spec_l13Len.j1]
      · by_cases h3 : o = 3
        · subst h3; simp [spec_l13Len.j0, spec_l13Len.j1]
        · by_cases h5 : o = 5
          · subst h5; simp [spec_l13Len.j0, spec_l13Len.j1]
          · simp [spec_l13Len.j0, spec_l13Len.j1, h1, h2, h3, h5, h6]

theorem runLen_in (o n : Int) (l : List Int) (hn : InI64 n) (hl : l.length ≤ 1048576) : InI64 (runLen o n l) := by
  unfold runLen InI64 at *
  split
  · omega
  · split
    · omega
    · split <;> omega

theorem w64_ge {a b : Int} (ha : InI64 a) (hb : InI64 b) (h : b ≤ a) : (wrap64 (a - b) ≥ 0 ∧ wrap64 (a - b) = a - b) ∨ (¬ wrap64 (a - b) ≥ 0 ∧ 9223372036854775807 < a - b) := by
  unfold InI64 at *
  unfold wrap64
  omega
theorem spec_Writes' (o i lba n : Int) (l : List Int) (b : Int) (hb : InI64 b) (hlba : InI64 lba) (hn : InI64 n) (hl : l.length ≤ 1048576) : Ev (fun k => spec_Writes.f k o i lba n l b) (writesB o lba n l b) := by
  obtain ⟨K, hK⟩ := spec_l13Len' o i lba n l
  refine ⟨K, fun k hk => ?_⟩
  have hr := runLen_in o n l hn hl
  unfold spec_Writes.f writesB
  simp only [hK k hk, Option.bind_some]
  by_cases hge : lba ≤ b
  · rw [if_pos (show b ≥ lba from hge)]
    rcases w64_ge hb hlba hge with ⟨h0, he⟩ | ⟨h0, hbig⟩
    · rw [if_pos h0, he]
      simp only [hge, decide_true, Bool.and_true]
      by_cases h2 : o = 2
      · simp [h2]
      · by_cases h3 : o = 3
        · simp [h3]
        · by_cases h6 : o = 6
          · simp [h6]
          · by_cases h5 : o = 5
            · simp [h5]
            · simp [h2, h3, h5, h6]
    · rw [if_neg h0]
      have : decide (b - lba < runLen o n l) = false := by unfold InI64 at hr; exact decide_eq_false (by omega)
      rw [this, Bool.and_false]
      split <;> (try rfl)
      split <;> (try rfl)
      split <;> (try rfl)
      split <;> rfl
  · rw [if_neg (show ¬ b ≥ lba from hge)]
    rw [decide_eq_false hge, Bool.and_false, Bool.false_and]
    split <;> (try rfl)
    split <;> (try rfl)
    split <;> (try rfl)
    split <;> rfl

theorem impl_runOf' (o i b n : Int) (l : List Int) : Ev (fun k => impl_runOf.f k o i b n l) (runLen o n l) := by
  refine ⟨2, fun k hk => ?_⟩
  obtain ⟨k, rfl⟩ : ∃ m, k = m + 2 := ⟨k - 2, by omega⟩
  unfold runLen impl_runOf.f
  by_cases h1 : o = 1
  · subst h1; simp [impl_runOf.j0]
  · by_cases h6 : o = 6
    · subst h6; simp [impl_runOf.j0]
    · by_cases h2 : o = 2
      · subst h2; simp [impl_runOf.j0, impl_runOf.j1]
      · by_cases h3 : o = 3
        · subst h3; simp [impl_runOf.j0, impl_runOf.j1]
        · by_cases h5 : o = 5
          · subst h5; simp [impl_runOf.j0, impl_runOf.j1]
          · simp [impl_runOf.j0, impl_runOf.j1, h1, h2, h3, h5, h6]

theorem u64_of {x : Int} (h : InI64 x) : IntKind.u64.wrap x = if 0 ≤ x then x else x + 18446744073709551616 := by
  unfold InI64 at h
  rw [IntKind.wrap_u64]
  split <;> omega
theorem u64_sub {a b : Int} (ha : InI64 a) (hb : InI64 b) (h : b ≤ a) : IntKind.u64.wrap (IntKind.u64.wrap a - IntKind.u64.wrap b) = a - b := by
  rw [u64_of ha, u64_of hb, IntKind.wrap_u64]
  unfold InI64 at *
  split <;> split <;> omega
theorem impl_Writes' (o i lba n : Int) (l : List Int) (b : Int) (hb : InI64 b) (hlba : InI64 lba) (hn : InI64 n) (hl : l.length ≤ 1048576) : Ev (fun k => impl_Writes.f k o i lba n l b) (writesB o lba n l b) := by
  obtain ⟨K, hK⟩ := impl_runOf' o i lba n l
  refine ⟨K, fun k hk => ?_⟩
  have hr := runLen_in o n l hn hl
  unfold impl_Writes.f writesB
  simp only [hK k hk, Option.bind_some]
  by_cases h1 : o = 1
  · subst h1
    simp
  · rw [if_neg h1]
    by_cases hge : lba ≤ b
    · rw [if_pos (show b ≥ lba from hge), u64_sub hb hlba hge]
      simp only [hge, decide_true, Bool.and_true]
      have hm : IntKind.u64.wrap (mx (runLen o n l) 0) = if 0 ≤ runLen o n l then runLen o n l else 0 := by
        rw [IntKind.wrap_u64]
        unfold InI64 at hr
        unfold mx
        split <;> split <;> omega
      rw [hm]
      congr 1
      by_cases hop : o = 2 ∨ o = 3 ∨ o = 6 ∨ o = 5
      · rw [decide_eq_true hop, Bool.true_and]
        split
        · rfl
        · rw [decide_eq_false (by omega), decide_eq_false (by omega)]
      · rw [decide_eq_false hop, Bool.false_and]
        have : runLen o n l = 0 := by unfold runLen; rw [if_neg (by omega), if_neg (by omega), if_neg (by omega)]
        rw [this]
        exact decide_eq_false (by simp; omega)
    · rw [if_neg (show ¬ b ≥ lba from hge), decide_eq_false hge, Bool.and_false, Bool.false_and]

def wordOf (op lba n : Int) (l : List Int) (b : Int) : Int :=
  if writesB op lba n l b then (if op = 2 ∨ op = 3 then rd l (b - lba) else if op = 5 ∧ l.length = 2 then rd l 1 else 0) else 0
theorem writes_in {op lba n : Int} {l : List Int} {b : Int} (h : writesB op lba n l b = true) (hop : op = 2 ∨ op = 3) : 0 ≤ b - lba ∧ b - lba < l.length := by
  unfold writesB at h
  simp only [Bool.and_eq_true, decide_eq_true_eq] at h
  obtain ⟨⟨_, h1⟩, h2⟩ := h
  unfold runLen at h2
  rw [if_neg (by omega), if_pos hop] at h2
  exact ⟨by omega, h2⟩
theorem spec_WordOf' (o i lba n : Int) (l : List Int) (b : Int) (hb : InI64 b) (hlba : InI64 lba) (hn : InI64 n) (hl : l.length ≤ 1048576) : Ev (fun k => spec_WordOf.f k o i lba n l b) (wordOf o lba n l b) := by
  obtain ⟨K, hK⟩ := spec_Writes' o i lba n l b hb hlba hn hl
  refine ⟨K + 1, fun k hk => ?_⟩
  obtain ⟨k, rfl⟩ : ∃ m, k = m + 1 := ⟨k - 1, by omega⟩
  have hv : spec_Writes.f (k + 1) o i lba n l b = some (writesB o lba n l b) := hK (k + 1) (by omega)
  show spec_WordOf.f (k + 1) o i lba n l b = _
  unfold spec_WordOf.f wordOf
  simp only [hv, Option.bind_some, spec_WordOf.j0]
  by_cases hw : writesB o lba n l b = true
  · rw [if_pos hw, if_pos hw]
    by_cases hop : o = 2 ∨ o = 3
    · obtain ⟨h0, h1⟩ := writes_in hw hop
      rw [if_pos hop, w64 (by omega) (by omega), if_pos h0, if_pos h1]
      rcases hop with rfl | rfl <;> simp
    · have h2 : ¬ o = 2 := fun h => hop (.inl h)
      have h3 : ¬ o = 3 := fun h => hop (.inr h)
      rw [if_neg hop, if_neg h2]
      simp only [beq_eq_false_iff_ne.mpr h3, Bool.false_eq_true, if_false]
      by_cases h5 : o = 5
      · simp only [h5, if_true, true_and]
        by_cases h6 : (l.length : Int) = 2
        · rw [if_pos h6, if_pos (by omega), if_pos (by omega)]
        · rw [if_neg h6, if_neg (by omega)]
      · rw [if_neg h5, if_neg (fun h => h5 h.1)]
  · rw [if_neg hw, if_neg hw]
theorem impl_WordOf' (o i lba n : Int) (l : List Int) (b : Int) (hb : InI64 b) (hlba : InI64 lba) (hn : InI64 n) (hl : l.length ≤ 1048576) : Ev (fun k => impl_WordOf.f k o i lba n l b) (wordOf o lba n l b) := by
  obtain ⟨K, hK⟩ := impl_Writes' o i lba n l b hb hlba hn hl
  refine ⟨K + 1, fun k hk => ?_⟩
  obtain ⟨k, rfl⟩ : ∃ m, k = m + 1 := ⟨k - 1, by omega⟩
  have hv : impl_Writes.f (k + 1) o i lba n l b = some (writesB o lba n l b) := hK (k + 1) (by omega)
  show impl_WordOf.f (k + 1) o i lba n l b = _
  unfold impl_WordOf.f wordOf
  simp only [hv, Option.bind_some, impl_WordOf.j0]
  by_cases hw : writesB o lba n l b = true
  · rw [if_pos hw, if_pos hw]
    by_cases hop : o = 2 ∨ o = 3
    · obtain ⟨h0, h1⟩ := writes_in hw hop
      rw [if_pos hop, w64 (by omega) (by omega), if_pos h0, if_pos h1]
      rcases hop with rfl | rfl <;> simp
    · have h2 : ¬ o = 2 := fun h => hop (.inl h)
      have h3 : ¬ o = 3 := fun h => hop (.inr h)
      rw [if_neg hop, if_neg h2]
      simp only [beq_eq_false_iff_ne.mpr h3, Bool.false_eq_true, if_false]
      by_cases h5 : o = 5
      · simp only [h5, if_true, true_and]
        by_cases h6 : (l.length : Int) = 2
        · rw [if_pos h6, if_pos (by omega), if_pos (by omega)]
        · rw [if_neg h6, if_neg (by omega)]
      · rw [if_neg h5, if_neg (fun h => h5 h.1)]
  · rw [if_neg hw, if_neg hw]

theorem neg1 : (-1 : Int) < 0 := by omega

theorem ev_some {α : Type} {g : Nat → Option α} {r : α} (h : ∀ k, g k = some r) : Ev g r := ⟨0, fun k _ => h k⟩

theorem szIntS (l : List Int) (a : Int) (h0 : 0 ≤ a) (h1 : a ≤ 1048576) (hl : l.length ≤ maxLen) : ∃ r, laws_szIntS.f l a = some r ∧ (r = -1 ∨ 0 ≤ r ∧ r + l.length ≤ a) := by
  unfold maxLen at hl
  unfold laws_szIntS.f
  rw [w64 (x := a - (l.length : Int)) (by omega) (by omega)]
  by_cases h : a - (l.length : Int) < 0
  · rw [if_pos h]; exact ⟨-1, rfl, .inl rfl⟩
  · rw [if_neg h]; exact ⟨_, rfl, .inr ⟨by omega, by omega⟩⟩

def BdIntS (x : List Int) : Prop := x.length ≤ 1048576

theorem szIntSE (l : List Int) (hl : l.length ≤ maxLen) (a : Int) (h0 : 0 ≤ a) (h1 : a ≤ 1048576) : ∃ r, Ev (fun _ => laws_szIntS.f l a) r ∧ (r = -1 ∨ 0 ≤ r ∧ r ≤ a ∧ BdIntS l) := by
  obtain ⟨r, hr, h⟩ := szIntS l a h0 h1 hl
  refine ⟨r, ev_some fun _ => hr, ?_⟩
  rcases h with h | ⟨h2, h3⟩
  · exact .inl h
  · exact .inr ⟨h2, by omega, by unfold BdIntS; omega⟩

def BdCmd (x : S31) : Prop := BdIntS x.f4

theorem szCmdE (x : S31) (F : Fit31 x) (a : Int) (h0 : 0 ≤ a) (h1 : a ≤ 1048576) : ∃ r, Ev (fun k => laws_szCmd.f x.f0 x.f1 x.f2 x.f3 x.f4 a) r ∧ (r = -1 ∨ 0 ≤ r ∧ r ≤ a ∧ BdCmd x) := by
  unfold laws_szCmd.f
  obtain ⟨r1, e1, c1⟩ := szIntSE x.f4 F.2.2.2.2.1 a h0 h1
  rcases c1 with rfl | ⟨u1, v1, b1⟩
  · exact ⟨-1, ev_seq e1 (by simp only [if_pos neg1]; exact Ev.now _), .inl rfl⟩
  exact ⟨r1, ev_seq e1 (by simp only [if_neg (show ¬ r1 < 0 by omega)]; exact Ev.now _), .inr ⟨u1, by omega, b1⟩⟩

theorem ev_pos {α : Type} {g : Nat → Option α} {r : α} (h : Ev (fun k => g (k + 1)) r) : Ev g r := Ev.step (f := fun k => g (k + 1)) (fun _ => rfl) h

theorem rd_at (xs : List Int) (i : Nat) (h : i < xs.length) : rd xs (i : Int) = xs[i] := by
  unfold rd
  simp [List.getD_eq_getElem?_getD, List.getElem?_eq_getElem h]

theorem toIntS_l (xs : List Int) (hl : xs.length ≤ 1048576) : ∀ (d i : Nat) (ys : List Int), ys.length = xs.length → i ≤ xs.length → xs.length - i = d → (∀ j, j < i → ys[j]? = xs[j]?) → Ev (fun k => laws_toIntS.l0 k xs ys (i : Int)) xs := by
  intro d
  induction d with
  | zero =>
    intro i ys hy hi hd he
    refine ev_pos (ev_some fun k => ?_)
    simp only [laws_toIntS.l0]
    rw [if_neg (by omega)]
    refine congrArg some (List.ext_getElem? fun j => ?_)
    rcases Nat.lt_or_ge j i with h | h
    · exact he j h
    · rw [List.getElem?_eq_none (by omega), List.getElem?_eq_none (by omega)]
  | succ d ih =>
    intro i ys hy hi hd he
    have hlt : i < xs.length := by omega
    refine Ev.step (f := fun k => laws_toIntS.l0 k xs (ys.set i xs[i]) ((i + 1 : Nat) : Int)) (fun k => ?_) (ih (i + 1) (ys.set i xs[i]) (by rw [List.length_set]; exact hy) (by omega) (by omega) ?_)
    · simp only [laws_toIntS.l0]
      rw [if_pos (by omega), if_pos (by omega), if_pos (by omega), w64 (by omega) (by omega), rd_at xs i hlt, Int.toNat_natCast]
      rfl
    · intro j hj
      rw [List.getElem?_set]
      by_cases h : i = j
      · subst h
        rw [if_pos rfl, if_pos (by omega), List.getElem?_eq_getElem hlt]
      · rw [if_neg h]
        exact he j (by omega)
theorem toIntS (xs : List Int) (hl : xs.length ≤ 1048576) : Ev (fun k => laws_toIntS.f k xs) xs := by
  have h := toIntS_l xs hl xs.length 0 (List.replicate xs.length 0) (by simp) (by omega) (by omega) (by intro j hj; omega)
  refine Ev.congr (fun k => ?_) h
  unfold laws_toIntS.f
  rw [if_pos (by omega), Int.toNat_natCast, if_pos (by omega)]
  rfl

theorem toIntSE (l : List Int) (h : BdIntS l) : Ev (fun k => laws_toIntS.f k l) l := toIntS l h

def cvCmd (x : S31) : S34 := ⟨x.f0, x.f1, x.f2, x.f3, x.f4⟩

theorem toCmdE (x : S31) (B : BdCmd x) : Ev (fun k => laws_toCmd.f k x.f0 x.f1 x.f2 x.f3 x.f4) ((cvCmd x).f0, (cvCmd x).f1, (cvCmd x).f2, (cvCmd x).f3, (cvCmd x).f4) := by
  unfold laws_toCmd.f
  exact ev_seq (toIntSE x.f4 B) (Ev.now _)

theorem eqIntS_l (xs : List Int) (hl : xs.length ≤ 9223372036854775806) : ∀ (d i : Nat), i ≤ xs.length → xs.length - i = d → Ev (fun k => laws_eqIntS.l0 k xs xs (i : Int)) true := by
  intro d
  induction d with
  | zero =>
    intro i hi hd
    refine ev_pos (ev_some fun k => ?_)
    simp only [laws_eqIntS.l0]
    rw [if_neg (by omega)]
  | succ d ih =>
    intro i hi hd
    refine Ev.step (f := fun k => laws_eqIntS.l0 k xs xs ((i + 1 : Nat) : Int)) (fun k => ?_) (ih (i + 1) (by omega) (by omega))
    simp only [laws_eqIntS.l0]
    rw [if_pos (by omega), if_pos (by omega), if_pos (by omega), if_pos trivial, w64 (by omega) (by omega)]
    rfl
theorem eqIntS (xs : List Int) (hl : xs.length ≤ 1048576) : Ev (fun k => laws_eqIntS.f k xs xs) true := by
  refine Ev.congr (fun k => ?_) (eqIntS_l xs (by omega) xs.length 0 (by omega) (by omega))
  unfold laws_eqIntS.f
  rw [if_pos rfl]
  rfl

theorem eqIntSE (l : List Int) (h : BdIntS l) : Ev (fun k => laws_eqIntS.f k l l) true := eqIntS l h

def BdCmdI (x : S34) : Prop := BdIntS x.f4

theorem eqCmdE (x : S34) (B : BdCmdI x) : Ev (fun k => laws_eqCmd.f k x.f0 x.f1 x.f2 x.f3 x.f4 x.f0 x.f1 x.f2 x.f3 x.f4) true := by
  unfold laws_eqCmd.f
  simp only [if_true]
  exact ev_seq (eqIntSE x.f4 B) (by simp only [if_true]; exact Ev.now _)

theorem FnExactWordOf (y0 : S31) (F0 : Fit31 y0) (y1 : Int) (F1 : Fit3 y1) : ∃ k, laws_FnExactWordOf.f k y0.f0 y0.f1 y0.f2 y0.f3 y0.f4 y1 = some true := by
  refine Ev.rounds ?_
  unfold laws_FnExactWordOf.f
  obtain ⟨r, hr, h⟩ := szCmdE y0 F0 1048576 (by omega) (by omega)
  obtain ⟨hop, hid, hlba, hn, hl, _⟩ := F0
  refine ev_seq hr ?_
  rcases h with rfl | ⟨h0, h1, B⟩
  · simp only [if_pos neg1]; exact Ev.now _
  simp only [if_neg (show ¬ r < 0 by omega)]
  have b0 := i64_of_wf F1
  have b1 := i64_of_wf hlba
  have b2 := i64_of_wf hn
  refine ev_seq (toCmdE y0 B) (ev_seq (spec_WordOf' _ _ _ _ _ _ b0 b1 b2 B) (ev_seq (toCmdE y0 B) (ev_seq (impl_WordOf' _ _ _ _ _ _ b0 b1 b2 B) ?_)))
  simp only [if_true]
  refine ev_seq (toCmdE y0 B) (ev_seq (eqCmdE _ B) ?_)
  simp only [if_true]
  exact Ev.now _

end Go.Proofs.Ytbiobflmkicjnaa.Pure
