/- Drawn blocks; what a command does, of drawn ones. No condition. -/
import Derived.Test.YtahlghlpdcfbgaaQb
namespace Go.Proofs.Ytahlghlpdcfbgaa.Ev
open Go
set_option linter.unusedVariables false
set_option linter.unusedSimpArgs false
set_option maxHeartbeats 1000000


theorem sec_d (c : Cur) (hc : c.ok) : Ev (fun k => evalF E P0 k N.spec_l1Sec [.p c.e]) 6 (CD (Row fun l => l.length ≤ 4 ∧ ∀ x ∈ l, 0 ≤ x ∧ x ≤ 65535)) := by
  refine Ev.fn (fun k => spec_l1Sec_e k _ _ _) ?_
  unfold spec_l1Sec_u spec_l1Sec_U
  refine Ev.bind (below_d c hc 5 (by omega)) (by omega) ?_
  rintro o ⟨r, c1, ⟨n, hn, rfl⟩, h1, rfl⟩
  simp only [Outs.t_mk, Outs.vt_mk, List.getD_cons_zero, List.getD_cons_succ, T.asI_i, T.asR_r]
  refine Ev.loop (d := 5) n.toNat (by unfold Big; omega) (fun i v => ∃ l c', l.length = i ∧ (∀ x ∈ l, 0 ≤ x ∧ x ≤ 65535) ∧ Cur.ok c' ∧ v = (n - (i : Int), eIs c'.b, c'.i, c'.h, eIs l)) ?_ ⟨[], c1, rfl, by simp, h1, by simp⟩
  rintro i v hi ⟨l, c', hl, hx, h2, rfl⟩
  by_cases hlt : i < n.toNat
  · refine .inl ⟨hlt, ?_⟩
    obtain ⟨o, ⟨r, c2, ⟨x, hx2, rfl⟩, h3, rfl⟩, hev⟩ := draw_d c' h2
    refine ⟨_, ⟨l ++ [x], c2, by simp [hl], ?_, h3, rfl⟩, fun k hk G => ?_⟩
    · intro y hy
      rcases List.mem_append.1 hy with hy | hy
      · exact hx y hy
      · simp at hy; subst hy; exact hx2
    · have hev' : evalF E P0 k N.spec_l1Draw [.p c'.e] = _ := hev k (by omega)
      unfold spec_l1Sec_l1 spec_l1Sec_L1
      simp only []
      rw [decide_eq_true (by omega), cond_true, hev', bindO_some]
      simp only [Outs.t_mk, Outs.vt_mk, List.getD_cons_zero, List.getD_cons_succ, T.asI_i, T.asR_r]
      rw [chk_ok (by simp; omega), wrap_id (n := n - (i : Int) - 1) (by omega) (by omega), show n - (i : Int) - 1 = n - ((i + 1 : Nat) : Int) by omega]
      simp
  · obtain rfl : i = n.toNat := by omega
    refine .inr ⟨_, ⟨_, c', ⟨l, ⟨by omega, hx⟩, rfl⟩, h2, rfl⟩, fun k hk G => ?_⟩
    unfold spec_l1Sec_l1 spec_l1Sec_L1
    simp only []
    rw [decide_eq_false (by omega)]; rfl
theorem CmdP.fit {x : Cmd} (h : CmdP x) : x.Fit := by
  obtain ⟨h1, h2, h3, h4, h5, h6⟩ := h
  exact ⟨h1, h2, h3, h4, by unfold maxLen; omega, h6⟩

/-! ### What a command does -/
theorem ovl_get {l xs : List Int} {f i : Nat} (h : f + xs.length ≤ l.length) : (ovl l f xs).getD i 0 = if f ≤ i ∧ i < f + xs.length then xs.getD (i - f) 0 else l.getD i 0 := by
  have hla : (l.take f).length = f := by simp; omega
  unfold ovl
  simp only [List.getD_eq_getElem?_getD]
  by_cases h1 : i < f
  · rw [List.getElem?_append_left (by omega), if_neg (by omega), List.getElem?_take, if_pos h1]
  · rw [List.getElem?_append_right (by omega), hla]
    by_cases h2 : i < f + xs.length
    · rw [List.getElem?_append_left (by omega), if_pos (by omega)]
    · rw [List.getElem?_append_right (by omega), if_neg (by omega), List.getElem?_drop]
      congr 2; omega
theorem doC_id (g : Geo) (l : List Int) (c : Cmd) : (doC g l c).2.Id = c.Id := by
  unfold doC doGood
  cases (l.length : Int) != blocks g
  · cases cmdCode g c != 0
    · cases c.Op == 1
      · cases c.Op == 2 || c.Op == 3
        · cases c.Op == 6
          · cases c.Op == 5
            · rfl
            · simp only [cond_true, cond_false]
              cases l.getD c.Lba.toNat 0 == c.Vals.getD 0 0 <;> rfl
          · rfl
        · rfl
      · rfl
    · rfl
  · rfl
/-- What is refused turns nothing. -/
theorem doC_refused {g : Geo} {l : List Int} {c : Cmd} (h : (doC g l c).2.Code ≠ 0) : (doC g l c).1 = l := by
  unfold doC doGood at *
  cases h0 : (l.length : Int) != blocks g <;> rw [h0] at h
  · cases h1 : cmdCode g c != 0 <;> rw [h1] at h
    · cases h2 : c.Op == 1 <;> rw [h2] at h
      · cases h3 : c.Op == 2 || c.Op == 3 <;> rw [h3] at h
        · cases h4 : c.Op == 6 <;> rw [h4] at h
          · cases h5 : c.Op == 5 <;> rw [h5] at h
            · rfl
            · simp only [cond_true, cond_false] at h ⊢
              cases h6 : l.getD c.Lba.toNat 0 == c.Vals.getD 0 0 <;> rw [h6] at h
              · rfl
              · simp at h
          · simp at h
        · simp at h
      · rfl
    · rfl
  · rfl
theorem doC_good {g : Geo} {l : List Int} {c : Cmd} (h : (doC g l c).2.Code = 0) : (l.length : Int) = blocks g ∧ cmdCode g c = 0 ∧ doC g l c = doGood l c := by
  unfold doC at *
  cases h0 : (l.length : Int) != blocks g <;> rw [h0] at h
  · cases h1 : cmdCode g c != 0 <;> rw [h1] at h
    · exact ⟨by simpa using h0, by simpa using h1, rfl⟩
    · simp at h h1; exact absurd h h1
  · simp at h
theorem doGood_at {g : Geo} {l : List Int} {c : Cmd} (hl : (l.length : Int) = blocks g) (hc : cmdCode g c = 0) (hw : c.w ≤ Big) (hcode : (doGood l c).2.Code = 0) {i : Nat} (hi : i < l.length) :
    (doGood l c).1.getD i 0 = bif writes c i then wordOf c i else l.getD i 0 := by
  obtain ⟨_, hs, h5⟩ := cmdCode_good hc
  obtain ⟨s1, s2, s3⟩ := good_size hs
  have hrun := runOf_b hs hw
  unfold doGood at *
  unfold wordOf
  cases h1 : c.Op == 1 <;> rw [h1] at hcode
  · have h1' : c.Op ≠ 1 := by simpa using h1
    cases h23 : c.Op == 2 || c.Op == 3 <;> rw [h23] at hcode
    · have h23' : c.Op ≠ 2 ∧ c.Op ≠ 3 := by simpa using h23
      cases h6 : c.Op == 6 <;> rw [h6] at hcode
      · have h6' : c.Op ≠ 6 := by simpa using h6
        cases h55 : c.Op == 5 <;> rw [h55] at hcode
        · have h55' : c.Op ≠ 5 := by simpa using h55
          have : writes c i = false := by
            unfold writes writer; simp [h6', h23'.1, h23'.2, h55']
          rw [this]; rfl
        · have h55' : c.Op = 5 := by simpa using h55
          have hwr : writer c = true := by unfold writer; simp [h55']
          have hsp := good_span hc hl (by omega)
          obtain ⟨hr, hv⟩ := s3 h55'
          simp only [cond_true, cond_false] at hcode ⊢
          cases hm : l.getD c.Lba.toNat 0 == c.Vals.getD 0 0 <;> rw [hm] at hcode
          · simp at hcode
          · simp only [cond_true]
            by_cases hii : i = c.Lba.toNat
            · have hwt : writes c i = true := by unfold writes; rw [hwr, hr]; simp; omega
              rw [hwt]
              subst hii
              simp [List.getD_eq_getElem?_getD, hi, hv]
            · have hwt : writes c i = false := by unfold writes; rw [hwr, hr]; simp; omega
              rw [hwt]
              simp [List.getD_eq_getElem?_getD, Ne.symm hii]
      · have h6' : c.Op = 6 := by simpa using h6
        have hwr : writer c = true := by unfold writer; simp [h6']
        have hsp := good_span hc hl (by omega)
        obtain ⟨hr, hn⟩ := s1 (.inr h6')
        simp only [cond_true, cond_false]
        rw [ovl_get (by simp; omega)]
        by_cases hin : c.Lba.toNat ≤ i ∧ i < c.Lba.toNat + (List.replicate c.N.toNat (0 : Int)).length
        · rw [if_pos hin]
          have hwt : writes c i = true := by unfold writes; rw [hwr, hr]; simp at hin ⊢; omega
          have h56 : (c.Op == 5) = false := by rw [h6']; rfl
          rw [hwt, h56]
          simp [List.getD_eq_getElem?_getD, List.getElem?_replicate]
          split <;> rfl
        · rw [if_neg hin]
          have hwt : writes c i = false := by unfold writes; rw [hwr, hr]; simp at hin ⊢; omega
          rw [hwt]; rfl
    · have h23' : c.Op = 2 ∨ c.Op = 3 := by simpa using h23
      have hwr : writer c = true := by unfold writer; rcases h23' with h | h <;> simp [h]
      have hsp := good_span hc hl (by omega)
      have hr := s2 h23'
      simp only [cond_true, cond_false]
      rw [ovl_get (by omega)]
      by_cases hin : c.Lba.toNat ≤ i ∧ i < c.Lba.toNat + c.Vals.length
      · rw [if_pos hin]
        have hwt : writes c i = true := by unfold writes; rw [hwr, hr]; simp; omega
        rw [hwt, show ((i : Int) - c.Lba).toNat = i - c.Lba.toNat by omega]; rfl
      · rw [if_neg hin]
        have hwt : writes c i = false := by unfold writes; rw [hwr, hr]; simp; omega
        rw [hwt]; rfl
  · have h1' : c.Op = 1 := by simpa using h1
    have hwt : writes c i = false := by unfold writes writer; rw [h1']; simp
    rw [hwt]; rfl

/-! ### The law -/
theorem sameInts_r (a b : List Int) (h : a.length ≤ Big) : Rn 2 N.laws_sameInts [.v [.r (eIs a)], .v [.r (eIs b)]] ⟨[.b (a == b)], []⟩ := by
  refine Rn.of fun k hk => ?_
  unfold Big at h hk
  rw [laws_sameInts_e]; unfold laws_sameInts_u laws_sameInts_U
  simp only [List.length_map, lenB]
  cases hl : a.length == b.length
  · have : (a == b) = false := by
      cases hab : a == b
      · rfl
      · rw [beq_iff_eq.1 hab] at hl; simp at hl
    rw [this]; rfl
  · have hl : a.length = b.length := by simpa using hl
    simp only [Bool.not_true, cond_false]
    refine (allN_loop a.length (fun i => a.getD i 0 == b.getD i 0) (some ⟨[.b true], []⟩) (by omega) (fun i hi G => ?_) (fun G => ?_) (by omega)).trans ((bifB _ _).trans (by rw [Bool.and_true, eq_all hl]))
    · unfold laws_sameInts_l1 laws_sameInts_L1
      have hi' : i < b.length := by omega
      simp only [List.length_map, at_ints hi, at_ints hi', dlt hi, dlt hi', d0, Bool.and_self, chk_true, cond_true, Int.toNat_natCast]
      simp only [bne]
      cases a.getD i 0 == b.getD i 0 <;> rfl
    · unfold laws_sameInts_l1 laws_sameInts_L1
      simp only [List.length_map, dll, cond_false]
theorem sameAns_r (a b : Ans) (h : a.Vals.length ≤ Big) : Rn 3 N.laws_sameAns [.v a.e, .v b.e] ⟨[.b (sameAns a b)], []⟩ := by
  refine Rn.of fun k hk => ?_
  rw [laws_sameAns_e]; unfold laws_sameAns_u sameAns
  rw [sameInts_r _ _ h k (by omega)]
  cases a.Id == b.Id <;> cases a.Code == b.Code <;> rfl
theorem sameAns_refl (a : Ans) : sameAns a a = true := by unfold sameAns; simp
theorem doC_vals (g : Geo) (l : List Int) (c : Cmd) : (doC g l c).2.Vals.length ≤ l.length := by
  have := doAll_vals g l [c] (doC g l c).2 (by unfold doAll; exact List.mem_cons_self)
  exact this
/-! Disks told as text. No condition. -/

def diskCh (a : Arr) (i : Nat) : ByteArray :=
  bif (a.Mems.getD i default).Failed then ByteArray.mk #[120] else bif a.Lost == (i : Int) then ByteArray.mk #[111] else bif spoilt (a.Mems.getD i default) then ByteArray.mk #[33] else ByteArray.mk #[46]
def disksText (a : Arr) : Nat → ByteArray
  | 0 => ByteArray.mk #[]
  | i + 1 => disksText a i ++ diskCh a i
theorem diskCh_size (a : Arr) (i : Nat) : (diskCh a i).size = 1 := by
  unfold diskCh
  cases (a.Mems.getD i default).Failed <;> cases a.Lost == (i : Int) <;> cases spoilt (a.Mems.getD i default) <;> rfl
theorem disksText_size (a : Arr) : ∀ i, (disksText a i).size = i
  | 0 => rfl
  | i + 1 => by unfold disksText; rw [ByteArray.size_append, disksText_size a i, diskCh_size]
theorem size1 (c : UInt8) : (ByteArray.mk #[c]).size = 1 := rfl
end Go.Proofs.Ytahlghlpdcfbgaa.Ev
