/- Which block a command writes; what is sure of a log; what may be there. No condition. -/
import Derived.Test.YtahlghlpdcfbgaaPn
namespace Go.Proofs.Ytahlghlpdcfbgaa.Ev
open Go
set_option linter.unusedVariables false
set_option linter.unusedSimpArgs false
set_option maxHeartbeats 1000000

theorem fixN_dn {V R : Type} {b : (V → Option R) → V → Option R} (n : Nat) (st : Nat → V) (ans : Nat → Option R)
    (h : ∀ i, i < n → ∀ G, G (st i) = ans i → b G (st (i + 1)) = ans (i + 1)) (he : ∀ G, b G (st 0) = ans 0) {j : Nat} (hj : n < j) : fixN b j (st n) = ans n := by
  induction n generalizing j with
  | zero =>
    obtain ⟨j, rfl⟩ : ∃ m, j = m + 1 := ⟨j - 1, by omega⟩
    exact he _
  | succ n ih =>
    obtain ⟨j, rfl⟩ : ∃ m, j = m + 1 := ⟨j - 1, by omega⟩
    exact h n (by omega) _ (ih (fun i hi => h i (by omega)) (by omega))
theorem wrapu (n : Int) : IntKind.wrap .u64 n = n % 18446744073709551616 := by
  unfold IntKind.wrap IntKind.signed IntKind.bits; simp
theorem wrap_lo {n : Int} (h0 : 9223372036854775808 ≤ n) (h1 : n < 18446744073709551616) : IntKind.wrap .i64 n < 0 := by
  unfold IntKind.wrap IntKind.signed IntKind.bits; simp; omega

def writer (c : Cmd) : Bool := c.Op == 2 || c.Op == 3 || c.Op == 6 || c.Op == 5
def writes (c : Cmd) (b : Int) : Bool := writer c && decide (c.Lba ≤ b) && decide (b - c.Lba < runOf c)
theorem runOf_in (c : Cmd) (h : c.Fit) : inI (runOf c) := by
  obtain ⟨_, _, _, hN, hV, _⟩ := h
  unfold maxLen at hV
  unfold runOf inI at *
  cases c.Op == 1 <;> cases c.Op == 6 <;> cases c.Op == 2 <;> cases c.Op == 3 <;> cases c.Op == 5 <;> simp <;> omega
theorem writes_s (c : Cmd) (hc : c.Fit) (b : Int) (hb : inI b) : Rn 2 N.spec_Writes [.v c.e, .v [.i b]] ⟨[.b (writes c b)], []⟩ := by
  refine Rn.of fun k hk => ?_
  rw [spec_Writes_e]; unfold spec_Writes_u spec_Writes_J1 writes writer
  have hl := hc.2.2.1
  have hr := runOf_in c hc
  unfold inI at hb hl hr
  rw [runOf_s _ k (by omega)]
  simp only [bindO_some, Outs.t_mk, List.getD_cons_zero, T.asI_i]
  have key : (bif decide (b ≥ c.Lba) then (bif decide (IntKind.wrap .i64 (b - c.Lba) ≥ 0) then some (⟨[.b (decide (IntKind.wrap .i64 (b - c.Lba) < runOf c))], []⟩ : Outs) else some ⟨[.b false], []⟩) else some ⟨[.b false], []⟩) = some ⟨[.b (decide (c.Lba ≤ b) && decide (b - c.Lba < runOf c))], []⟩ := by
    by_cases h1 : c.Lba ≤ b
    · by_cases h2 : b - c.Lba ≤ 9223372036854775807
      · rw [wrap_id (by omega) h2]
        simp [h1]
      · have := wrap_lo (n := b - c.Lba) (by omega) (by omega)
        have e1 : decide (IntKind.wrap .i64 (b - c.Lba) ≥ 0) = false := decide_eq_false (by omega)
        have e2 : decide (b - c.Lba < runOf c) = false := decide_eq_false (by omega)
        rw [e1, e2, Bool.and_false]; cases decide (b ≥ c.Lba) <;> rfl
    · simp [h1]
  rw [key]
  cases c.Op == 2 <;> cases c.Op == 3 <;> cases c.Op == 6 <;> cases c.Op == 5 <;> rfl
theorem runOf_no {c : Cmd} (h : writer c = false) (h1 : c.Op ≠ 1) : runOf c = 0 := by
  unfold writer at h; unfold runOf
  have h1 : (c.Op == 1) = false := by simpa using h1
  rw [h1]
  cases h2 : c.Op == 2 <;> cases h3 : c.Op == 3 <;> cases h6 : c.Op == 6 <;> cases h5 : c.Op == 5 <;> rw [h2, h3, h6, h5] at h <;> simp at h ⊢
theorem writes_i (c : Cmd) (hc : c.Fit) (b : Int) (hb : inI b) : Rn 2 N.impl_Writes [.v c.e, .v [.i b]] ⟨[.b (writes c b)], []⟩ := by
  refine Rn.of fun k hk => ?_
  rw [impl_Writes_e]; unfold impl_Writes_u writes
  have hl := hc.2.2.1
  have hr := runOf_in c hc
  unfold inI at hb hl hr
  rw [runOf_i _ k (by omega)]
  simp only [bindO_some, Outs.t_mk, List.getD_cons_zero, T.asI_i, wrapu]
  by_cases h1 : c.Op = 1
  · have : writer c = false := by unfold writer; simp [h1]
    simp [h1, this]
  · have h1' : (c.Op != 1) = true := by simpa using h1
    rw [h1', cond_true]
    by_cases h2 : c.Lba ≤ b
    · rw [decide_eq_true (by omega), cond_true]
      have e1 : (b % 18446744073709551616 - c.Lba % 18446744073709551616) % 18446744073709551616 = b - c.Lba := by omega
      rw [e1]
      cases hw : writer c
      · rw [runOf_no hw h1]; simp; omega
      · by_cases h3 : 0 > runOf c
        · rw [if_pos h3]; simp; omega
        · rw [if_neg h3, show runOf c % 18446744073709551616 = runOf c by omega]; simp [h2]
    · rw [decide_eq_false (by omega)]; simp [h2]
theorem writes_t {c : Cmd} {b : Int} (h : writes c b = true) : writer c = true ∧ c.Lba ≤ b ∧ b - c.Lba < runOf c := by
  unfold writes at h
  simp at h
  exact ⟨h.1.1, h.1.2, h.2⟩

def wordOf (c : Cmd) (b : Int) : Int :=
  bif writes c b then
    bif c.Op == 2 || c.Op == 3 then c.Vals.getD (b - c.Lba).toNat 0
    else bif c.Op == 5 && ((c.Vals.length : Int) == 2) then c.Vals.getD 1 0 else 0
  else 0
theorem at_ints {l : List Int} {i : Nat} (h : i < l.length) : (at_ (eIs l) i 0).asI = l.getD i 0 := by
  rw [at_map _ h]; simp [List.getD_eq_getElem?_getD, h]
theorem word_j {c : Cmd} {b : Int} (hc : c.Fit) (hw : writes c b = true) (h2 : c.Op = 2 ∨ c.Op = 3) :
    IntKind.wrap .i64 (b - c.Lba) = b - c.Lba ∧ 0 ≤ b - c.Lba ∧ b - c.Lba < (c.Vals.length : Int) := by
  obtain ⟨_, h1, h3⟩ := writes_t hw
  have hr := runOf_in c hc
  unfold inI at hr
  have e : runOf c = (c.Vals.length : Int) := by
    unfold runOf
    rcases h2 with h2 | h2 <;> simp [h2]
  rw [e] at h3 hr
  exact ⟨wrap_id (by omega) (by omega), by omega, h3⟩
theorem wordOf_s (c : Cmd) (hc : c.Fit) (b : Int) (hb : inI b) : Rn 3 N.spec_WordOf [.v c.e, .v [.i b]] ⟨[.i (wordOf c b)], []⟩ := by
  refine Rn.of fun k hk => ?_
  rw [spec_WordOf_e]; unfold spec_WordOf_u spec_WordOf_J1 wordOf
  rw [writes_s c hc b hb k (by omega), bindO_some]
  simp only [Outs.t_mk, List.getD_cons_zero, T.asB_b, List.length_map]
  cases hw : writes c b
  · rfl
  cases h2 : c.Op == 2
  · cases h3 : c.Op == 3
    · cases h5 : c.Op == 5
      · rfl
      by_cases hl : c.Vals.length = 2
      · rw [show ((c.Vals.length : Int) == 2) = true by simp; omega, at_ints (i := 1) (by omega), show decide ((1 : Int) < (c.Vals.length : Int)) = true from decide_eq_true (by omega)]; rfl
      · rw [show ((c.Vals.length : Int) == 2) = false by simp; omega]; rfl
    · obtain ⟨e, g0, g1⟩ := word_j hc hw (.inr (by simpa using h3))
      simp only [Bool.not_true, cond_false, cond_true, e, Bool.or_true]
      rw [chk_ok (by simp; omega), at_ints (by omega)]
  · obtain ⟨e, g0, g1⟩ := word_j hc hw (.inl (by simpa using h2))
    simp only [Bool.not_true, cond_false, cond_true, e, Bool.true_or]
    rw [chk_ok (by simp; omega), at_ints (by omega)]
theorem wordOf_i (c : Cmd) (hc : c.Fit) (b : Int) (hb : inI b) : Rn 3 N.impl_WordOf [.v c.e, .v [.i b]] ⟨[.i (wordOf c b)], []⟩ := by
  refine Rn.of fun k hk => ?_
  rw [impl_WordOf_e]; unfold impl_WordOf_u impl_WordOf_J1 wordOf
  rw [writes_i c hc b hb k (by omega), bindO_some]
  simp only [Outs.t_mk, List.getD_cons_zero, T.asB_b, List.length_map]
  cases hw : writes c b
  · rfl
  cases h2 : c.Op == 2
  · cases h3 : c.Op == 3
    · cases h5 : c.Op == 5
      · rfl
      by_cases hl : c.Vals.length = 2
      · rw [show ((c.Vals.length : Int) == 2) = true by simp; omega, at_ints (i := 1) (by omega), show decide ((1 : Int) < (c.Vals.length : Int)) = true from decide_eq_true (by omega)]; rfl
      · rw [show ((c.Vals.length : Int) == 2) = false by simp; omega]; rfl
    · obtain ⟨e, g0, g1⟩ := word_j hc hw (.inr (by simpa using h3))
      simp only [Bool.not_true, cond_false, cond_true, e, Bool.or_true]
      rw [chk_ok (by simp; omega), at_ints (by omega)]
  · obtain ⟨e, g0, g1⟩ := word_j hc hw (.inl (by simpa using h2))
    simp only [Bool.not_true, cond_false, cond_true, e, Bool.true_or]
    rw [chk_ok (by simp; omega), at_ints (by omega)]

def isFlush (t : Turn) : Bool := (t.C.Op == 4) && (t.A.Code == 0)
def isSure (l : List Turn) (b : Int) (i : Nat) (t : Turn) : Bool := (t.A.Code == 0) && writes t.C b && ((t.C.Op == 3) || (l.drop (i + 1)).any isFlush)
def sureDn (l : List Turn) (b : Int) : Nat → Int
  | 0 => -1
  | i + 1 => bif (match l[i]? with | some t => isSure l b i t | none => false) then (i : Int) else sureDn l b i
theorem sureDn_at {l : List Turn} {b : Int} {i : Nat} (hi : i < l.length) : sureDn l b (i + 1) = bif isSure l b i l[i] then (i : Int) else sureDn l b i := by
  rw [sureDn, List.getElem?_eq_getElem hi]
def sureOf (l : List Turn) (b : Int) : Int := sureDn l b l.length
theorem sureDn_b (l : List Turn) (b : Int) : ∀ n, n ≤ l.length → -1 ≤ sureDn l b n ∧ sureDn l b n < (l.length : Int)
  | 0, _ => by unfold sureDn; omega
  | n + 1, h => by
    have := sureDn_b l b n (by omega)
    unfold sureDn
    cases (match l[n]? with | some t => isSure l b n t | none => false) <;> simp <;> omega
theorem sureOf_b (l : List Turn) (b : Int) : -1 ≤ sureOf l b ∧ sureOf l b < (l.length : Int) := sureDn_b l b _ (Nat.le_refl _)
theorem flushed_s (l : List Turn) (h : l.length ≤ Big) (i : Nat) (hi : i < l.length) : Rn 1 N.spec_l19Flushed [.v [.r (eTurns l)], .v [.i i]] ⟨[.b ((l.drop (i + 1)).any isFlush)], []⟩ := by
  refine Rn.of fun k hk => ?_
  unfold Big at h hk
  rw [spec_l19Flushed_e]; unfold spec_l19Flushed_u spec_l19Flushed_U
  rw [wrap_up (by omega)]
  have := fixN_up (b := spec_l19Flushed_l1 k (eTurns l)) (l.length - (i + 1)) (fun j => ((i + 1 + j : Nat) : Int)) (fun j => some ⟨[.b ((l.drop (i + 1 + j)).any isFlush)], []⟩) ?_ ?_ (j := k) (by omega)
  · simpa using this
  · intro j hj G hG
    have hij : i + 1 + j < l.length := by omega
    unfold spec_l19Flushed_l1 spec_l19Flushed_L1
    simp only [List.length_map, at_map _ hij, dlt hij, d0, Bool.and_self, chk_true, cond_true, Int.toNat_natCast, List.getD_cons_zero, List.getD_cons_succ, T.asI_i]
    rw [wrap_up (by omega), show i + 1 + j + 1 = i + 1 + (j + 1) by omega, hG, List.drop_eq_getElem_cons hij, List.any_cons]
    unfold isFlush
    cases l[i + 1 + j].C.Op == 4 <;> cases l[i + 1 + j].A.Code == 0 <;> rfl
  · intro G
    unfold spec_l19Flushed_l1 spec_l19Flushed_L1
    rw [show i + 1 + (l.length - (i + 1)) = l.length by omega]
    simp only [List.length_map, dll, cond_false]
    simp
theorem dge {i : Nat} : decide (((i : Int)) ≥ 0) = true := decide_eq_true (by omega)
theorem wrap_dn {i : Nat} (h : i ≤ 1099511627776) : IntKind.wrap .i64 ((i : Int) - 1) = (i : Int) - 1 := wrap_id (by omega) (by omega)
theorem sureOf_s (l : List Turn) (h : l.length ≤ Big) (hf : ∀ t ∈ l, t.Fit) (b : Int) (hb : inI b) : Rn 3 N.spec_SureOf [.v [.r (eTurns l)], .v [.i b]] ⟨[.i (sureOf l b)], []⟩ := by
  refine Rn.of fun k hk => ?_
  have hB := h
  unfold Big at h hk
  rw [spec_SureOf_e]; unfold spec_SureOf_u spec_SureOf_U
  rw [List.length_map, wrap_dn (by omega)]
  refine fixN_dn (b := spec_SureOf_l1 k (eTurns l) b) l.length (fun i => (i : Int) - 1) (fun i => some ⟨[.i (sureDn l b i)], []⟩) ?_ ?_ (j := k) (by omega)
  · intro i hi G hG
    rw [show (((i + 1 : Nat) : Int) - 1) = (i : Int) by omega]
    unfold spec_SureOf_l1 spec_SureOf_L1
    simp only [List.length_map, at_map _ hi, dlt hi, d0, dge, Bool.and_self, chk_true, cond_true, Int.toNat_natCast, List.getD_cons_zero, List.getD_cons_succ, T.asI_i, T.asR_r]
    rw [wrap_dn (by omega), hG, writes_s l[i].C (hf _ (List.getElem_mem hi)).1 b hb k (by unfold Big; omega), flushed_s l hB i hi k (by unfold Big; omega)]
    simp only [bindO_some, Outs.t_mk, List.getD_cons_zero, T.asB_b]
    rw [sureDn_at hi]
    unfold isSure
    cases l[i].A.Code == 0 <;> cases writes l[i].C b <;> cases l[i].C.Op == 3 <;> cases (l.drop (i + 1)).any isFlush <;> rfl
  · intro G
    unfold spec_SureOf_l1 spec_SureOf_L1
    rfl
theorem sureOf_i (l : List Turn) (h : l.length ≤ Big) (hf : ∀ t ∈ l, t.Fit) (b : Int) (hb : inI b) : Rn 3 N.impl_SureOf [.v [.r (eTurns l)], .v [.i b]] ⟨[.i (sureOf l b)], []⟩ := by
  refine Rn.of fun k hk => ?_
  have hB := h
  unfold Big at h hk
  rw [impl_SureOf_e]; unfold impl_SureOf_u impl_SureOf_U
  rw [List.length_map, wrap_dn (by omega)]
  have := fixN_dn (b := impl_SureOf_l1 k (eTurns l) b) l.length (fun i => ((l.drop i).any isFlush, (i : Int) - 1)) (fun i => some ⟨[.i (sureDn l b i)], []⟩) ?_ ?_ (j := k) (by omega)
  · unfold sureOf; simpa using this
  · intro i hi G hG
    rw [show (((i + 1 : Nat) : Int) - 1) = (i : Int) by omega]
    unfold impl_SureOf_l1 impl_SureOf_L1 impl_SureOf_J1
    simp only [List.length_map, at_map _ hi, dlt hi, d0, dge, Bool.and_self, chk_true, cond_true, Int.toNat_natCast, List.getD_cons_zero, List.getD_cons_succ, T.asI_i, T.asR_r]
    rw [List.drop_eq_getElem_cons hi, List.any_cons] at hG
    rw [wrap_dn (by omega), writes_i l[i].C (hf _ (List.getElem_mem hi)).1 b hb k (by unfold Big; omega)]
    simp only [bindO_some, Outs.t_mk, List.getD_cons_zero, T.asB_b]
    rw [sureDn_at hi]
    unfold isSure
    have hx : ∀ x y, isFlush l[i] = x → (List.drop (i + 1) l).any isFlush = y → G (x || y, (i : Int) - 1) = some ⟨[.i (sureDn l b i)], []⟩ := by intro x y e1 e2; rw [← e1, ← e2]; exact hG
    unfold isFlush at hx
    cases hc : l[i].A.Code == 0 <;> cases hw : writes l[i].C b <;> cases ho : l[i].C.Op == 3 <;> cases h4 : l[i].C.Op == 4 <;> cases hn : (l.drop (i + 1)).any isFlush <;>
      simp only [bne, hc, Bool.not_true, Bool.not_false, cond_true, cond_false, Bool.true_and, Bool.false_and, Bool.and_true, Bool.and_false, Bool.or_true, Bool.or_false] <;>
      first | rfl | exact hx _ _ (by rw [h4, hc] <;> rfl) hn
  · intro G
    unfold impl_SureOf_l1 impl_SureOf_L1
    rfl

def mayB (b n : Int) (t : Turn) : Bool := writes t.C b && (wordOf t.C b == n) && !(within t.A.Code 1 4)
def mayBe (frm : Int) (l : List Turn) (b n : Int) : Bool :=
  bif decide (sureOf l b < 0) && (n == frm) then true else (l.drop (sureOf l b).toNat).any (mayB b n)
theorem mayBe_s (frm : Int) (l : List Turn) (h : l.length ≤ Big) (hf : ∀ t ∈ l, t.Fit) (b : Int) (hb : inI b) (n : Int) : Rn 4 N.spec_MayBe [.v [.i frm], .v [.r (eTurns l)], .v [.i b], .v [.i n]] ⟨[.b (mayBe frm l b n)], []⟩ := by
  refine Rn.of fun k hk => ?_
  have hB := h
  unfold Big at h hk
  rw [spec_MayBe_e]; unfold spec_MayBe_u spec_MayBe_U
  rw [sureOf_s l hB hf b hb k (by unfold Big; omega), bindO_some]
  unfold spec_MayBe_J1 spec_MayBe_J2
  simp only [Outs.t_mk, List.getD_cons_zero, T.asI_i]
  have key : ∀ m, m ≤ l.length → fixN (spec_MayBe_l1 k (eTurns l) b n) k (m : Int) = some ⟨[.b ((l.drop m).any (mayB b n))], []⟩ := by
    intro m hm
    have := fixN_up (b := spec_MayBe_l1 k (eTurns l) b n) (l.length - m) (fun j => ((m + j : Nat) : Int)) (fun j => some ⟨[.b ((l.drop (m + j)).any (mayB b n))], []⟩) ?_ ?_ (j := k) (by omega)
    · simpa using this
    · intro j hj G hG
      have hij : m + j < l.length := by omega
      unfold spec_MayBe_l1 spec_MayBe_L1
      simp only [List.length_map, at_map _ hij, dlt hij, d0, Bool.and_self, chk_true, cond_true, Int.toNat_natCast, List.getD_cons_zero, List.getD_cons_succ, T.asI_i, T.asR_r]
      have hc := (hf _ (List.getElem_mem hij)).1
      rw [writes_s _ hc b hb k (by unfold Big; omega), wordOf_s _ hc b hb k (by unfold Big; omega), within_s _ _ _ k (by unfold Big; omega)]
      simp only [bindO_some, Outs.t_mk, List.getD_cons_zero, T.asB_b, T.asI_i]
      rw [wrap_up (by omega), show m + j + 1 = m + (j + 1) by omega, hG, List.drop_eq_getElem_cons hij, List.any_cons]
      unfold mayB
      cases writes l[m + j].C b <;> cases wordOf l[m + j].C b == n <;> cases within l[m + j].A.Code 1 4 <;> rfl
    · intro G
      unfold spec_MayBe_l1 spec_MayBe_L1
      rw [show m + (l.length - m) = l.length by omega]
      simp only [List.length_map, dll, cond_false]
      simp
  have hs := sureOf_b l b
  unfold mayBe
  by_cases h0 : sureOf l b < 0
  · rw [decide_eq_true h0]
    cases hn : n == frm
    · simp only [cond_true, cond_false, Bool.true_and]
      rw [show (sureOf l b).toNat = 0 by omega]
      exact key 0 (by omega)
    · rfl
  · rw [decide_eq_false h0]
    simp only [cond_false, Bool.false_and]
    have := key (sureOf l b).toNat (by omega)
    rwa [Int.toNat_of_nonneg (by omega)] at this
theorem mayBe_i (frm : Int) (l : List Turn) (h : l.length ≤ Big) (hf : ∀ t ∈ l, t.Fit) (b : Int) (hb : inI b) (n : Int) : Rn 4 N.impl_MayBe [.v [.i frm], .v [.r (eTurns l)], .v [.i b], .v [.i n]] ⟨[.b (mayBe frm l b n)], []⟩ := by
  refine Rn.of fun k hk => ?_
  have hB := h
  unfold Big at h hk
  rw [impl_MayBe_e]; unfold impl_MayBe_u impl_MayBe_U
  rw [sureOf_i l hB hf b hb k (by unfold Big; omega), bindO_some]
  unfold impl_MayBe_J1
  simp only [Outs.t_mk, List.getD_cons_zero, T.asI_i, List.length_map]
  have hs := sureOf_b l b
  have e1 : (if 0 > sureOf l b then 0 else sureOf l b) = ((sureOf l b).toNat : Int) := by split <;> omega
  have key : ∀ m : List Turn, m.length ≤ 4294967296 → (∀ t ∈ m, t.Fit) → fixN (impl_MayBe_l1 k b n (eTurns m) (m.length : Int)) k 0 = some ⟨[.b (m.any (mayB b n))], []⟩ := by
    intro m hm hf
    have := fixN_up (b := impl_MayBe_l1 k b n (eTurns m) (m.length : Int)) m.length (fun j => (j : Int)) (fun j => some ⟨[.b ((m.drop j).any (mayB b n))], []⟩) ?_ ?_ (j := k) (by omega)
    · simpa using this
    · intro j hj G hG
      unfold impl_MayBe_l1 impl_MayBe_L1
      simp only [List.length_map, at_map _ hj, dlt hj, d0, Bool.and_self, chk_true, cond_true, Int.toNat_natCast, List.getD_cons_zero, List.getD_cons_succ, T.asI_i, T.asR_r]
      have hc := (hf _ (List.getElem_mem hj)).1
      rw [writes_i _ hc b hb k (by unfold Big; omega), wordOf_i _ hc b hb k (by unfold Big; omega), within_i _ _ _ k (by unfold Big; omega)]
      simp only [bindO_some, Outs.t_mk, List.getD_cons_zero, T.asB_b, T.asI_i]
      rw [wrap_up (by omega), hG, List.drop_eq_getElem_cons hj, List.any_cons]
      unfold mayB
      cases writes m[j].C b <;> cases wordOf m[j].C b == n <;> cases within m[j].A.Code 1 4 <;> rfl
    · intro G
      unfold impl_MayBe_l1 impl_MayBe_L1
      simp only [List.length_map, dll, cond_false]
      simp
  have hd := key (l.drop (sureOf l b).toNat) (by simp; omega) (fun t ht => hf t (List.mem_of_mem_drop ht))
  have e2 : (List.take (l.length - (sureOf l b).toNat) (List.drop (sureOf l b).toNat (eTurns l))) = eTurns (l.drop (sureOf l b).toNat) := by
    rw [List.take_of_length_le (by simp)]; simp only [List.map_drop]
  simp only [e1, Int.toNat_natCast, e2, List.length_map, hd]
  rw [chk_ok (by simp; omega)]
  unfold mayBe
  by_cases h0 : sureOf l b = -1
  · rw [h0]
    cases hn : n == frm <;> rfl
  · rw [show (sureOf l b == -1) = false by simpa using h0, decide_eq_false (by omega)]
    rfl
end Go.Proofs.Ytahlghlpdcfbgaa.Ev
