/- What is read: sectors, words of a stripe, blocks. No condition. -/
import Derived.Test.YtahlghlpdcfbgaaPr
namespace Go.Proofs.Ytahlghlpdcfbgaa.Ev
open Go
set_option linter.unusedVariables false
set_option linter.unusedSimpArgs false
set_option maxHeartbeats 1000000

/-- Rounds with a measure. -/
theorem fixN_rel {V R : Type} {b : (V → Option R) → V → Option R} (rel : Nat → V → Option R → Prop)
    (h : ∀ d v r, rel (d + 1) v r → ∀ G, (∀ v' r', rel d v' r' → G v' = r') → b G v = r) (h0 : ∀ v r, rel 0 v r → ∀ G, b G v = r) : ∀ d v r, rel d v r → ∀ j, d < j → fixN b j v = r := by
  intro d
  induction d with
  | zero =>
    intro v r hr j hj
    obtain ⟨j, rfl⟩ : ∃ m, j = m + 1 := ⟨j - 1, by omega⟩
    exact h0 v r hr _
  | succ d ih =>
    intro v r hr j hj
    obtain ⟨j, rfl⟩ : ∃ m, j = m + 1 := ⟨j - 1, by omega⟩
    exact h d v r hr _ fun v' r' hr' => ih v' r' hr' j (by omega)

theorem copyInts_i (l : List Int) (h : l.length ≤ Big) : Rn 1 N.impl_copyInts [.v [.r (eIs l)]] ⟨[.r (eIs l)], []⟩ := by
  refine Rn.of fun k hk => ?_
  unfold Big at h
  rw [impl_copyInts_e]; unfold impl_copyInts_u
  rw [chk_ok (by simp; omega)]; rfl
def dataAt (s : Int) : Int := bif within s 0 1099511627776 then s + 6 else -1
theorem dataAt_i (s : Int) : Rn 2 N.impl_DataAt [.v [.i s]] ⟨[.i (dataAt s)], []⟩ := by
  refine Rn.of fun k hk => ?_
  rw [impl_DataAt_e]; unfold impl_DataAt_u dataAt
  rw [within_i _ _ _ k (by omega), bindO_some]
  simp only [Outs.t_mk, List.getD_cons_zero, T.asB_b]
  cases h : within s 0 1099511627776
  · rfl
  · have := within_t h
    simp only [Bool.not_true, cond_false, cond_true]
    rw [wrap_id (n := s + 2) (by omega) (by omega), wrap_id (by omega) (by omega), show s + 2 + 4 = s + 6 by omega]
theorem dataAt_s (s : Int) : Rn 2 N.spec_DataAt [.v [.i s]] ⟨[.i (dataAt s)], []⟩ := by
  refine Rn.of fun k hk => ?_
  rw [spec_DataAt_e]; unfold spec_DataAt_u dataAt
  rw [within_s _ _ _ k (by omega), bindO_some]
  simp only [Outs.t_mk, List.getD_cons_zero, T.asB_b]
  cases h : within s 0 1099511627776
  · rfl
  · have := within_t h
    simp only [Bool.not_true, cond_false, cond_true]
    rw [wrap_id (n := s + 2) (by omega) (by omega), wrap_id (by omega) (by omega), show s + 2 + 4 = s + 6 by omega]

/-- The first place at which something holds. -/
def firstIx {α : Type} (p : α → Bool) : Nat → List α → Int
  | _, [] => -1
  | i, x :: l => bif p x then (i : Int) else firstIx p (i + 1) l
theorem firstIx_b {α : Type} (p : α → Bool) : ∀ (l : List α) (i : Nat), firstIx p i l = -1 ∨ ((i : Int) ≤ firstIx p i l ∧ firstIx p i l < (i : Int) + l.length)
  | [], i => .inl rfl
  | x :: l, i => by
    unfold firstIx
    cases p x
    · rcases firstIx_b p l (i + 1) with h | h
      · exact .inl h
      · refine .inr ?_
        simp only [cond_false, List.length_cons]; omega
    · refine .inr ?_
      simp only [cond_true, List.length_cons]; omega
theorem firstIx_any {α : Type} (p : α → Bool) : ∀ (l : List α) (i : Nat), decide (firstIx p i l ≥ 0) = l.any p
  | [], i => rfl
  | x :: l, i => by
    unfold firstIx
    rw [List.any_cons, ← firstIx_any p l (i + 1)]
    cases p x
    · rfl
    · simp
theorem firstIx_loop {α : Type} (p : α → Bool) (l : List α) {b : (Int → Option Outs) → Int → Option Outs} (hl : l.length ≤ 1099511627776)
    (h : ∀ (i : Nat) (hi : i < l.length) G, b G (i : Int) = (bif p l[i] then some ⟨[.i i], []⟩ else G (IntKind.wrap .i64 ((i : Int) + 1))))
    (he : ∀ G, b G (l.length : Int) = some ⟨[.i (-1)], []⟩) {j : Nat} (hj : l.length < j) : fixN b j 0 = some ⟨[.i (firstIx p 0 l)], []⟩ := by
  refine (fixN_up (b := b) l.length (fun i => (i : Int)) (fun i => some ⟨[.i (firstIx p i (l.drop i))], []⟩) ?_ ?_ hj).trans (by simp)
  · intro i hi G hG
    rw [h i hi, wrap_up (by omega), hG, List.drop_eq_getElem_cons hi, firstIx]
    cases p l[i] <;> rfl
  · intro G; rw [he]; simp [firstIx]
theorem any_loop {α : Type} (p : α → Bool) (l : List α) {b : (Int → Option Outs) → Int → Option Outs} (last : Option Outs) (hl : l.length ≤ 1099511627776)
    (h : ∀ (i : Nat) (hi : i < l.length) G, b G (i : Int) = (bif p l[i] then some ⟨[.b true], []⟩ else G (IntKind.wrap .i64 ((i : Int) + 1))))
    (he : ∀ G, b G (l.length : Int) = last) {j : Nat} (hj : l.length < j) : fixN b j 0 = (bif l.any p then some ⟨[.b true], []⟩ else last) := by
  refine (fixN_up (b := b) l.length (fun i => (i : Int)) (fun i => bif (l.drop i).any p then some ⟨[.b true], []⟩ else last) ?_ ?_ hj).trans (by simp)
  · intro i hi G hG
    rw [h i hi, wrap_up (by omega), hG, List.drop_eq_getElem_cons hi, List.any_cons]
    cases p l[i] <;> rfl
  · intro G; rw [he]; simp
theorem bifTB (c : Bool) : (bif c then some (⟨[.b true], []⟩ : Outs) else some ⟨[.b false], []⟩) = some ⟨[.b c], []⟩ := by cases c <;> rfl
def has (l : List Int) (n : Int) : Bool := l.any fun x => x == n
theorem index_s (l : List Int) (h : l.length ≤ Big) (n : Int) : Rn 2 N.slices_Index_int_int [.v [.r (eIs l)], .v [.i n]] ⟨[.i (firstIx (fun x => x == n) 0 l)], []⟩ := by
  refine Rn.of fun k hk => ?_
  unfold Big at h hk
  rw [slices_Index_int_int_e]; unfold slices_Index_int_int_u slices_Index_int_int_U
  refine firstIx_loop _ l (by omega) (fun i hi G => ?_) (fun G => ?_) (by omega)
  · unfold slices_Index_int_int_l1 slices_Index_int_int_L1
    simp only [List.length_map, at_map _ hi, dlt hi, d0, Bool.and_self, chk_true, cond_true, Int.toNat_natCast, List.getD_cons_zero, T.asI_i]
    rw [show (n == l[i]) = (l[i] == n) by rw [Bool.eq_iff_iff]; simp only [beq_iff_eq]; exact eq_comm]
  · unfold slices_Index_int_int_l1 slices_Index_int_int_L1
    simp only [List.length_map, dll, cond_false]
theorem contains_s (l : List Int) (h : l.length ≤ Big) (n : Int) : Rn 3 N.slices_Contains_int_int [.v [.r (eIs l)], .v [.i n]] ⟨[.b (has l n)], []⟩ := by
  refine Rn.of fun k hk => ?_
  rw [slices_Contains_int_int_e]; unfold slices_Contains_int_int_u
  rw [index_s l h n k (by omega), bindO_some]
  simp only [Outs.t_mk, List.getD_cons_zero, T.asI_i, firstIx_any]; rfl
/-! ### A sector -/
def lastOf (n : Int) (s : List Int) (l : List Wr) : List Int := l.foldl (fun s x => bif x.N == n then x.S else s) s
def secAt (m : Dsk) (n : Int) : List Int := lastOf n (m.Secs.getD n.toNat []) m.Cache
def readSec (m : Dsk) (n : Int) : List Int × Bool := bif memOk m && (!m.Failed && (hasSec m n && !has m.Bad n)) then (secAt m n, true) else ([], false)
theorem lastOf_len {n : Int} {b : Nat} : ∀ {l : List Wr} {s : List Int}, s.length ≤ b → (∀ x ∈ l, x.S.length ≤ b) → (lastOf n s l).length ≤ b
  | [], s, hs, _ => hs
  | x :: l, s, hs, hl => by
    unfold lastOf
    rw [List.foldl_cons]
    refine lastOf_len (l := l) ?_ fun y hy => hl y (List.mem_cons_of_mem _ hy)
    cases x.N == n
    · exact hs
    · exact hl x List.mem_cons_self
theorem secAt_len (m : Dsk) (n : Int) : (secAt m n).length ≤ m.w := by
  unfold secAt Dsk.w
  refine lastOf_len ?_ fun x hx => ?_
  · by_cases h : n.toNat < m.Secs.length
    · rw [getD_at h]; have := wL_get List.length h; omega
    · rw [List.getD_eq_getElem?_getD, List.getElem?_eq_none (by omega)]; simp
  · have : x.S.length ≤ wL Wr.w m.Cache := wL_mem Wr.w hx
    omega
theorem read_loop {n : Int} (l : List Wr) {b : (List (List T) × Int → Option Outs) → List (List T) × Int → Option Outs} {last : List Int → Option Outs} (hl : l.length ≤ 1099511627776)
    (h : ∀ (i : Nat) (hi : i < l.length) (s : List Int) G, b G (eIs s, (i : Int)) = G (eIs (bif l[i].N == n then l[i].S else s), IntKind.wrap .i64 ((i : Int) + 1)))
    (he : ∀ s G, b G (eIs s, (l.length : Int)) = last s) (s : List Int) {j : Nat} (hj : l.length < j) : fixN b j (eIs s, 0) = last (lastOf n s l) := by
  have := fixN_up (b := b) l.length (fun i => (eIs (lastOf n s (l.take i)), (i : Int))) (fun _ => last (lastOf n s l)) ?_ ?_ hj
  · simpa [lastOf] using this
  · intro i hi G hG
    rw [h i hi, wrap_up (by omega)]
    rw [List.take_succ_eq_append_getElem hi] at hG
    unfold lastOf at hG ⊢
    rw [List.foldl_append] at hG
    exact hG
  · intro G; rw [he, List.take_length]
theorem readSec_i (m : Dsk) (h : m.w ≤ Big) (n : Int) : Rn 6 N.impl_ReadSec [.v m.e, .v [.i n]] ⟨[.r (eIs (readSec m n).1), .b (readSec m n).2], []⟩ := by
  refine Rn.of fun k hk => ?_
  rw [impl_ReadSec_e]; unfold impl_ReadSec_u impl_ReadSec_U impl_ReadSec_J1
  have hs := wL_len List.length m.Secs
  have hc := wL_len Wr.w m.Cache
  have hw : m.w = wL List.length m.Secs + wL Wr.w m.Cache + m.Bad.length := rfl
  have hB : Big = 4294967296 := rfl
  rw [memOk_i m h k (by omega), hasSec_i m n h k (by omega), contains_s _ (by omega) n k (by omega)]
  unfold readSec
  simp only [bindO_some, Outs.t_mk, List.getD_cons_zero, T.asB_b]
  cases memOk m
  · rfl
  cases m.Failed
  · cases hh : hasSec m n
    · rfl
    · cases has m.Bad n
      · have hb := within_t hh
        have hi : n.toNat < m.Secs.length := by omega
        simp only [Bool.not_true, Bool.not_false, cond_true, cond_false, Bool.true_and, List.length_map]
        rw [chk_ok (by simp; omega), at_map _ hi]
        simp only [List.getD_cons_zero, T.asR_r]
        refine (read_loop (n := n) (last := fun s => bindO (evalF E P0 k N.impl_copyInts [.v [.r (eIs s)]]) fun o6 => some ⟨[.r (o6.t 0).asR, .b true], []⟩) m.Cache (by omega) (fun i hi' s G => ?_) (fun s G => ?_) _ (by omega)).trans ?_
        · unfold impl_ReadSec_l1 impl_ReadSec_L1
          simp only [List.length_map, at_map _ hi', dlt hi', d0, Bool.and_self, chk_true, cond_true, Int.toNat_natCast, List.getD_cons_zero, List.getD_cons_succ, T.asI_i, T.asR_r]
          cases m.Cache[i].N == n <;> rfl
        · unfold impl_ReadSec_l1 impl_ReadSec_L1
          simp only [List.length_map, dll, cond_false]
        · have e : lastOf n m.Secs[n.toNat] m.Cache = secAt m n := by unfold secAt; rw [getD_at hi]
          have := secAt_len m n
          rw [e, copyInts_i _ (by omega) k (by omega)]; rfl
      · rfl
  · rfl
/-! ### A word -/
def liveAt (a : Arr) (m s : Int) : Bool := within m 0 ((a.Mems.length : Int) - 1) && (!(a.Mems.getD m.toNat default).Failed && (a.Lost != m || decide (s < a.Built)))
theorem mems_w (a : Arr) {i : Nat} (hi : i < a.Mems.length) (h : a.w ≤ Big) : a.Mems[i].w ≤ Big := by
  have := wL_get Dsk.w hi
  unfold Arr.w at h
  omega
theorem mems_len (a : Arr) (h : a.w ≤ Big) : a.Mems.length ≤ 4294967296 ∧ a.Dirty.length ≤ 4294967296 := by
  have h1 := wL_len Dsk.w a.Mems
  have h2 := wL_len Ent.w a.Dirty
  unfold Arr.w Big at h
  omega
theorem liveAt_i (a : Arr) (h : a.w ≤ Big) (m s : Int) : Rn 2 N.impl_LiveAt [.v a.e, .v [.i m], .v [.i s]] ⟨[.b (liveAt a m s)], []⟩ := by
  refine Rn.of fun k hk => ?_
  rw [impl_LiveAt_e]; unfold impl_LiveAt_u liveAt
  obtain ⟨l1, l2⟩ := mems_len a h
  rw [List.length_map, wrap_id (n := (a.Mems.length : Int) - 1) (by omega) (by omega), within_i _ _ _ k (by omega), bindO_some]
  simp only [Outs.t_mk, List.getD_cons_zero, T.asB_b]
  cases hw : within m 0 ((a.Mems.length : Int) - 1)
  · rfl
  have := within_t hw
  have hi : m.toNat < a.Mems.length := by omega
  simp only [cond_true, Bool.true_and]
  rw [chk_ok (by simp; omega), at_map _ hi, getD_at hi]
  simp only [List.getD_cons_zero, List.getD_cons_succ, T.asB_b]
  cases a.Mems[m.toNat].Failed <;> cases a.Lost != m <;> rfl
/-- The word of a disk of a stripe, and whether it is there. -/
def wordAt (a : Arr) (m : Nat) (s : Int) : Int × Bool :=
  bif liveAt a m s && ((readSec (a.Mems.getD m default) (dataAt s)).2 && (((readSec (a.Mems.getD m default) (dataAt s)).1.length : Int) == 1)) then ((readSec (a.Mems.getD m default) (dataAt s)).1.getD 0 0, true) else (0, false)
theorem wordAt_i (a : Arr) (h : a.w ≤ Big) (m : Nat) (hm : m < a.Mems.length) (s : Int) : Rn 7 N.impl_wordAt [.v a.e, .v [.i m], .v [.i s]] ⟨[.i (wordAt a m s).1, .b (wordAt a m s).2], []⟩ := by
  refine Rn.of fun k hk => ?_
  rw [impl_wordAt_e]; unfold impl_wordAt_u impl_wordAt_J1 wordAt
  simp only [List.length_map, at_map _ hm, dlt hm, d0, Bool.and_self, chk_true, Int.toNat_natCast, List.getD_cons_zero, List.getD_cons_succ, T.asI_i, T.asR_r, T.asB_b]
  rw [dataAt_i s k (by omega), bindO_some]
  simp only [Outs.t_mk, List.getD_cons_zero, T.asI_i]
  rw [readSec_i a.Mems[m] (mems_w a hm h) (dataAt s) k (by omega), liveAt_i a h _ _ k (by omega), getD_at hm]
  simp only [bindO_some, Outs.t_mk, List.getD_cons_zero, List.getD_cons_succ, T.asI_i, T.asB_b, T.asR_r, bne, List.length_map]
  cases liveAt a m s
  · rfl
  cases (readSec a.Mems[m] (dataAt s)).2
  · rfl
  cases hl : (((readSec a.Mems[m] (dataAt s)).1.length : Int) == 1)
  · rfl
  have hl : (readSec a.Mems[m] (dataAt s)).1.length = 1 := by simp at hl; omega
  simp only [Bool.not_true, cond_false]
  rw [chk_ok (decide_eq_true (by omega)), at_ints (by omega)]; rfl
end Go.Proofs.Ytahlghlpdcfbgaa.Ev
