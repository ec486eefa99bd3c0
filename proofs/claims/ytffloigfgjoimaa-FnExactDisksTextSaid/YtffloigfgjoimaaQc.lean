/- Drawn blocks; what a command does, of drawn ones. No condition. -/
import Derived.Test.YtffloigfgjoimaaQb
namespace Go.Proofs.Ytffloigfgjoimaa.Ev
open Go
set_option linter.unusedVariables false
set_option linter.unusedSimpArgs false
set_option maxHeartbeats 1000000

theorem CmdP.fit {x : Cmd} (h : CmdP x) : x.Fit := by
  obtain ⟨h1, h2, h3, h4, h5, h6⟩ := h
  exact ⟨h1, h2, h3, h4, by unfold maxLen; omega, h6⟩

/-! ### What a command does -/
theorem ovl_get {l xs : List Int} {f i : Nat} (h : f + xs.length ≤ l.length) : (ovl l f xs).getD i 0 = if f ≤ i ∧ i < f + xs.length then xs.getD (i - f) 0 else l.getD i 0 := by
  have hla : (l.take f).length = f := by simp; omega
  unfold ovl
  simp only [List.getD_eq_getElem?_getD]
  by_cases h1 : i < f
  · rw [List.getElem?_append_left (by omega), if_neg (by omega), List.getElem?_take, if_pos h1]
  · rw [List.getElem?_append_right (by omega), hla]
    by_cases h2 : i < f + xs.length
    · rw [List.getElem?_append_left (by omega), if_pos (by omega)]
    · rw [List.getElem?_append_right (by omega), if_neg (by omega), List.getElem?_drop]
      congr 2; omega
theorem doC_id (g : Geo) (l : List Int) (c : Cmd) : (doC g l c).2.Id = c.Id := by
  unfold doC doGood
  cases (l.length : Int) != blocks g
  · cases cmdCode g c != 0
    · cases c.Op == 1
      · cases c.Op == 2 || c.Op == 3
        · cases c.Op == 6
          · cases c.Op == 5
            · rfl
            · simp only [cond_true, cond_false]
              cases l.getD c.Lba.toNat 0 == c.Vals.getD 0 0 <;> rfl
          · rfl
        · rfl
      · rfl
    · rfl
  · rfl
/-- What is refused turns nothing. -/
theorem doC_refused {g : Geo} {l : List Int} {c : Cmd} (h : (doC g l c).2.Code ≠ 0) : (doC g l c).1 = l := by
  unfold doC doGood at *
  cases h0 : (l.length : Int) != blocks g <;> rw [h0] at h
  · cases h1 : cmdCode g c != 0 <;> rw [h1] at h
    · cases h2 : c.Op == 1 <;> rw [h2] at h
      · cases h3 : c.Op == 2 || c.Op == 3 <;> rw [h3] at h
        · cases h4 : c.Op == 6 <;> rw [h4] at h
          · cases h5 : c.Op == 5 <;> rw [h5] at h
            · rfl
            · simp only [cond_true, cond_false] at h ⊢
              cases h6 : l.getD c.Lba.toNat 0 == c.Vals.getD 0 0 <;> rw [h6] at h
              · rfl
              · simp at h
          · simp at h
        · simp at h
      · rfl
    · rfl
  · rfl
theorem doC_good {g : Geo} {l : List Int} {c : Cmd} (h : (doC g l c).2.Code = 0) : (l.length : Int) = blocks g ∧ cmdCode g c = 0 ∧ doC g l c = doGood l c := by
  unfold doC at *
  cases h0 : (l.length : Int) != blocks g <;> rw [h0] at h
  · cases h1 : cmdCode g c != 0 <;> rw [h1] at h
    · exact ⟨by simpa using h0, by simpa using h1, rfl⟩
    · simp at h h1; exact absurd h h1
  · simp at h
theorem doGood_at {g : Geo} {l : List Int} {c : Cmd} (hl : (l.length : Int) = blocks g) (hc : cmdCode g c = 0) (hw : c.w ≤ Big) (hcode : (doGood l c).2.Code = 0) {i : Nat} (hi : i < l.length) :
    (doGood l c).1.getD i 0 = bif writes c i then wordOf c i else l.getD i 0 := by
  obtain ⟨_, hs, h5⟩ := cmdCode_good hc
  obtain ⟨s1, s2, s3⟩ := good_size hs
  have hrun := runOf_b hs hw
  unfold doGood at *
  unfold wordOf
  cases h1 : c.Op == 1 <;> rw [h1] at hcode
  · have h1' : c.Op ≠ 1 := by simpa using h1
    cases h23 : c.Op == 2 || c.Op == 3 <;> rw [h23] at hcode
    · have h23' : c.Op ≠ 2 ∧ c.Op ≠ 3 := by simpa using h23
      cases h6 : c.Op == 6 <;> rw [h6] at hcode
      · have h6' : c.Op ≠ 6 := by simpa using h6
        cases h55 : c.Op == 5 <;> rw [h55] at hcode
        · have h55' : c.Op ≠ 5 := by simpa using h55
          have : writes c i = false := by
            unfold writes writer; simp [h6', h23'.1, h23'.2, h55']
          rw [this]; rfl
        · have h55' : c.Op = 5 := by simpa using h55
          have hwr : writer c = true := by unfold writer; simp [h55']
          have hsp := good_span hc hl (by omega)
          obtain ⟨hr, hv⟩ := s3 h55'
          simp only [cond_true, cond_false] at hcode ⊢
          cases hm : l.getD c.Lba.toNat 0 == c.Vals.getD 0 0 <;> rw [hm] at hcode
          · simp at hcode
          · simp only [cond_true]
            by_cases hii : i = c.Lba.toNat
            · have hwt : writes c i = true := by unfold writes; rw [hwr, hr]; simp; omega
              rw [hwt]
              subst hii
              simp [List.getD_eq_getElem?_getD, hi, hv]
            · have hwt : writes c i = false := by unfold writes; rw [hwr, hr]; simp; omega
              rw [hwt]
              simp [List.getD_eq_getElem?_getD, Ne.symm hii]
      · have h6' : c.Op = 6 := by simpa using h6
        have hwr : writer c = true := by unfold writer; simp [h6']
        have hsp := good_span hc hl (by omega)
        obtain ⟨hr, hn⟩ := s1 (.inr h6')
        simp only [cond_true, cond_false]
        rw [ovl_get (by simp; omega)]
        by_cases hin : c.Lba.toNat ≤ i ∧ i < c.Lba.toNat + (List.replicate c.N.toNat (0 : Int)).length
        · rw [if_pos hin]
          have hwt : writes c i = true := by unfold writes; rw [hwr, hr]; simp at hin ⊢; omega
          have h56 : (c.Op == 5) = false := by rw [h6']; rfl
          rw [hwt, h56]
          simp [List.getD_eq_getElem?_getD, List.getElem?_replicate]
          split <;> rfl
        · rw [if_neg hin]
          have hwt : writes c i = false := by unfold writes; rw [hwr, hr]; simp at hin ⊢; omega
          rw [hwt]; rfl
    · have h23' : c.Op = 2 ∨ c.Op = 3 := by simpa using h23
      have hwr : writer c = true := by unfold writer; rcases h23' with h | h <;> simp [h]
      have hsp := good_span hc hl (by omega)
      have hr := s2 h23'
      simp only [cond_true, cond_false]
      rw [ovl_get (by omega)]
      by_cases hin : c.Lba.toNat ≤ i ∧ i < c.Lba.toNat + c.Vals.length
      · rw [if_pos hin]
        have hwt : writes c i = true := by unfold writes; rw [hwr, hr]; simp; omega
        rw [hwt, show ((i : Int) - c.Lba).toNat = i - c.Lba.toNat by omega]; rfl
      · rw [if_neg hin]
        have hwt : writes c i = false := by unfold writes; rw [hwr, hr]; simp; omega
        rw [hwt]; rfl
  · have h1' : c.Op = 1 := by simpa using h1
    have hwt : writes c i = false := by unfold writes writer; rw [h1']; simp
    rw [hwt]; rfl

/-! ### The law -/
theorem sameAns_refl (a : Ans) : sameAns a a = true := by unfold sameAns; simp
theorem doC_vals (g : Geo) (l : List Int) (c : Cmd) : (doC g l c).2.Vals.length ≤ l.length := by
  have := doAll_vals g l [c] (doC g l c).2 (by unfold doAll; exact List.mem_cons_self)
  exact this
end Go.Proofs.Ytffloigfgjoimaa.Ev
