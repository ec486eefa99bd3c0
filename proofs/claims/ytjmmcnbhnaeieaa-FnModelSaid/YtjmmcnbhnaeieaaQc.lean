/- Drawn blocks; what a command does, of drawn ones. No condition. -/
import Derived.Test.YtjmmcnbhnaeieaaQb
namespace Go.Proofs.Ytjmmcnbhnaeieaa.Ev
open Go
set_option linter.unusedVariables false
set_option linter.unusedSimpArgs false
set_option maxHeartbeats 1000000

theorem sec_d (c : Cur) (hc : c.ok) : Ev (fun k => evalF E P0 k N.spec_l1Sec [.p c.e]) 6 (CD (Row fun l => l.length ≤ 4 ∧ ∀ x ∈ l, 0 ≤ x ∧ x ≤ 65535)) := by
  refine Ev.fn (fun k => spec_l1Sec_e k _ _ _) ?_
  unfold spec_l1Sec_u spec_l1Sec_U
  refine Ev.bind (below_d c hc 5 (by omega)) (by omega) ?_
  rintro o ⟨r, c1, ⟨n, hn, rfl⟩, h1, rfl⟩
  simp only [Outs.t_mk, Outs.vt_mk, List.getD_cons_zero, List.getD_cons_succ, T.asI_i, T.asR_r]
  refine Ev.loop (d := 5) n.toNat (by unfold Big; omega) (fun i v => ∃ l c', l.length = i ∧ (∀ x ∈ l, 0 ≤ x ∧ x ≤ 65535) ∧ Cur.ok c' ∧ v = (n - (i : Int), eIs c'.b, c'.i, c'.h, eIs l)) ?_ ⟨[], c1, rfl, by simp, h1, by simp⟩
  rintro i v hi ⟨l, c', hl, hx, h2, rfl⟩
  by_cases hlt : i < n.toNat
  · refine .inl ⟨hlt, ?_⟩
    obtain ⟨o, ⟨r, c2, ⟨x, hx2, rfl⟩, h3, rfl⟩, hev⟩ := draw_d c' h2
    refine ⟨_, ⟨l ++ [x], c2, by simp [hl], ?_, h3, rfl⟩, fun k hk G => ?_⟩
    · intro y hy
      rcases List.mem_append.1 hy with hy | hy
      · exact hx y hy
      · simp at hy; subst hy; exact hx2
    · have hev' : evalF E P0 k N.spec_l1Draw [.p c'.e] = _ := hev k (by omega)
      unfold spec_l1Sec_l1 spec_l1Sec_L1
      simp only []
      rw [decide_eq_true (by omega), cond_true, hev', bindO_some]
      simp only [Outs.t_mk, Outs.vt_mk, List.getD_cons_zero, List.getD_cons_succ, T.asI_i, T.asR_r]
      rw [chk_ok (by simp; omega), wrap_id (n := n - (i : Int) - 1) (by omega) (by omega), show n - (i : Int) - 1 = n - ((i + 1 : Nat) : Int) by omega]
      simp
  · obtain rfl : i = n.toNat := by omega
    refine .inr ⟨_, ⟨_, c', ⟨l, ⟨by omega, hx⟩, rfl⟩, h2, rfl⟩, fun k hk G => ?_⟩
    unfold spec_l1Sec_l1 spec_l1Sec_L1
    simp only []
    rw [decide_eq_false (by omega)]; rfl
theorem any_d (c : Cur) (hc : c.ok) : Ev (fun k => evalF E P0 k N.spec_l1Any [.p c.e]) 7 (CD (Row fun l => l.length ≤ 32)) := by
  refine Ev.fn (fun k => spec_l1Any_e k _ _ _) ?_
  unfold spec_l1Any_u
  refine Ev.bind (sec_d c hc) (by omega) ?_
  rintro o ⟨r, c1, ⟨l, ⟨hl, _⟩, rfl⟩, h1, rfl⟩
  simp only [Outs.t_mk, Outs.vt_mk, List.getD_cons_zero, List.getD_cons_succ, T.asI_i, T.asR_r]
  refine Ev.bind (below_d c1 h1 10 (by omega)) (by omega) ?_
  rintro o ⟨r, c2, ⟨y, hy, rfl⟩, h2, rfl⟩
  simp only [Outs.t_mk, Outs.vt_mk, List.getD_cons_zero, List.getD_cons_succ, T.asI_i, T.asR_r]
  refine Ev.ite (fun _ => ?_) (fun _ => Ev.ite (fun _ => ?_) (fun _ => ?_))
  · refine Ev.bind (int_d c2 h2 [-1, 65536] (by simp) (by simp)) (by omega) ?_
    rintro o ⟨r, c3, ⟨z, hz, rfl⟩, h3, rfl⟩
    simp only [Outs.t_mk, Outs.vt_mk, List.getD_cons_zero, List.getD_cons_succ, T.asI_i, T.asR_r]
    exact Ev.chk (by simp; omega) (Ev.ret ⟨_, c3, ⟨l ++ [z], by simp; omega, by simp⟩, h3, rfl⟩ _)
  · refine Ev.bind (below_d c2 h2 2 (by omega)) (by omega) ?_
    rintro o ⟨r, c3, ⟨z, hz, rfl⟩, h3, rfl⟩
    simp only [Outs.t_mk, Outs.vt_mk, List.getD_cons_zero, List.getD_cons_succ, T.asI_i, T.asR_r]
    rw [wrap_id (n := 12 + z) (by omega) (by omega)]
    exact Ev.chk (by simp; omega) (Ev.ret ⟨_, c3, ⟨List.replicate (12 + z).toNat 0, by simp; omega, by simp⟩, h3, rfl⟩ _)
  · exact Ev.ret ⟨_, c2, ⟨l, by omega, rfl⟩, h2, rfl⟩ _
theorem blocks_d (c : Cur) (hc : c.ok) (g : Geo) : Ev (fun k => evalF E P0 k N.spec_l14Blocks [.p c.e, .v g.e]) 8 (CD (Row fun l => l.length ≤ 32)) := by
  refine Ev.fn (fun k => spec_l14Blocks_e k _ _ _ _ _) ?_
  unfold spec_l14Blocks_u
  refine Ev.bind (once_d c hc 12 (by omega)) (by omega) ?_
  rintro o ⟨r, c1, ⟨x, rfl⟩, h1, rfl⟩
  simp only [Outs.t_mk, Outs.vt_mk, List.getD_cons_zero, List.getD_cons_succ, T.asI_i, T.asR_r, T.asB_b]
  refine Ev.ite (fun _ => ?_) (fun _ => ?_)
  · refine Ev.bind (any_d c1 h1) (by omega) ?_
    rintro o ⟨r, c2, ⟨l, hl, rfl⟩, h2, rfl⟩
    exact Ev.ret ⟨_, c2, ⟨l, hl, rfl⟩, h2, rfl⟩ _
  · refine Ev.call (blocks_s g) (by omega) ?_
    have := blocks_b g
    refine Ev.bind (some_d c1 h1 (blocks g) (by omega)) (by omega) ?_
    rintro o ⟨r, c2, ⟨l, ⟨hl, _⟩, rfl⟩, h2, rfl⟩
    exact Ev.ret ⟨_, c2, ⟨l, by omega, rfl⟩, h2, rfl⟩ _
theorem drawDo_d (l : List Int) (h : l.length ≤ Big) : Ev (fun k => evalF E P0 k N.spec_DrawDoCmd [.v [.r (eIs l)]]) 9 (fun o => ∃ (g : Geo) (b : List Int) (x : Cmd), b.length ≤ 32 ∧ CmdP x ∧ o = ⟨g.e ++ .r (eIs b) :: x.e, []⟩) := by
  refine Ev.fn (fun k => spec_DrawDoCmd_e k _) ?_
  unfold spec_DrawDoCmd_u
  refine Ev.bind (new_d l h) (by omega) ?_
  rintro o ⟨c, hc, rfl⟩
  simp only [Outs.t_mk, List.getD_cons_zero, List.getD_cons_succ, T.asI_i, T.asR_r, List.headD_cons]
  refine Ev.bind (geoAny_d c hc) (by omega) ?_
  rintro o ⟨r, c1, ⟨g, hg, rfl⟩, h1, rfl⟩
  simp only [Outs.t_mk, Outs.vt_mk, List.getD_cons_zero, List.getD_cons_succ, T.asI_i, T.asR_r]
  refine Ev.bind (blocks_d c1 h1 g) (by omega) ?_
  rintro o ⟨r, c2, ⟨b, hb, rfl⟩, h2, rfl⟩
  simp only [Outs.t_mk, Outs.vt_mk, List.getD_cons_zero, List.getD_cons_succ, T.asI_i, T.asR_r]
  refine Ev.bind (cmdAny_d c2 h2 g) (by omega) ?_
  rintro o ⟨r, c3, ⟨x, hx, rfl⟩, h3, rfl⟩
  exact Ev.ret ⟨g, b, x, hb, hx, rfl⟩ _
theorem CmdP.fit {x : Cmd} (h : CmdP x) : x.Fit := by
  obtain ⟨h1, h2, h3, h4, h5, h6⟩ := h
  exact ⟨h1, h2, h3, h4, by unfold maxLen; omega, h6⟩

/-! ### What a command does -/
theorem ovl_get {l xs : List Int} {f i : Nat} (h : f + xs.length ≤ l.length) : (ovl l f xs).getD i 0 = if f ≤ i ∧ i < f + xs.length then xs.getD (i - f) 0 else l.getD i 0 := by
  have hla : (l.take f).length = f := by simp; omega
  unfold ovl
  simp only [List.getD_eq_getElem?_getD]
  by_cases h1 : i < f
  · rw [List.getElem?_append_left (by omega), if_neg (by omega), List.getElem?_take, if_pos h1]
  · rw [List.getElem?_append_right (by omega), hla]
    by_cases h2 : i < f + xs.length
    · rw [List.getElem?_append_left (by omega), if_pos (by omega)]
    · rw [List.getElem?_append_right (by omega), if_neg (by omega), List.getElem?_drop]
      congr 2; omega
theorem doC_id (g : Geo) (l : List Int) (c : Cmd) : (doC g l c).2.Id = c.Id := by
  unfold doC doGood
  cases (l.length : Int) != blocks g
  · cases cmdCode g c != 0
    · cases c.Op == 1
      · cases c.Op == 2 || c.Op == 3
        · cases c.Op == 6
          · cases c.Op == 5
            · rfl
            · simp only [cond_true, cond_false]
              cases l.getD c.Lba.toNat 0 == c.Vals.getD 0 0 <;> rfl
          · rfl
        · rfl
      · rfl
    · rfl
  · rfl
/-- What is refused turns nothing. -/
theorem doC_refused {g : Geo} {l : List Int} {c : Cmd} (h : (doC g l c).2.Code ≠ 0) : (doC g l c).1 = l := by
  unfold doC doGood at *
  cases h0 : (l.length : Int) != blocks g <;> rw [h0] at h
  · cases h1 : cmdCode g c != 0 <;> rw [h1] at h
    · cases h2 : c.Op == 1 <;> rw [h2] at h
      · cases h3 : c.Op == 2 || c.Op == 3 <;> rw [h3] at h
        · cases h4 : c.Op == 6 <;> rw [h4] at h
          · cases h5 : c.Op == 5 <;> rw [h5] at h
            · rfl
            · simp only [cond_true, cond_false] at h ⊢
              cases h6 : l.getD c.Lba.toNat 0 == c.Vals.getD 0 0 <;> rw [h6] at h
              · rfl
              · simp at h
          · simp at h
        · simp at h
      · rfl
    · rfl
  · rfl
theorem doC_good {g : Geo} {l : List Int} {c : Cmd} (h : (doC g l c).2.Code = 0) : (l.length : Int) = blocks g ∧ cmdCode g c = 0 ∧ doC g l c = doGood l c := by
  unfold doC at *
  cases h0 : (l.length : Int) != blocks g <;> rw [h0] at h
  · cases h1 : cmdCode g c != 0 <;> rw [h1] at h
    · exact ⟨by simpa using h0, by simpa using h1, rfl⟩
    · simp at h h1; exact absurd h h1
  · simp at h
theorem doGood_at {g : Geo} {l : List Int} {c : Cmd} (hl : (l.length : Int) = blocks g) (hc : cmdCode g c = 0) (hw : c.w ≤ Big) (hcode : (doGood l c).2.Code = 0) {i : Nat} (hi : i < l.length) :
    (doGood l c).1.getD i 0 = bif writes c i then wordOf c i else l.getD i 0 := by
  obtain ⟨_, hs, h5⟩ := cmdCode_good hc
  obtain ⟨s1, s2, s3⟩ := good_size hs
  have hrun := runOf_b hs hw
  unfold doGood at *
  unfold wordOf
  cases h1 : c.Op == 1 <;> rw [h1] at hcode
  · have h1' : c.Op ≠ 1 := by simpa using h1
    cases h23 : c.Op == 2 || c.Op == 3 <;> rw [h23] at hcode
    · have h23' : c.Op ≠ 2 ∧ c.Op ≠ 3 := by simpa using h23
      cases h6 : c.Op == 6 <;> rw [h6] at hcode
      · have h6' : c.Op ≠ 6 := by simpa using h6
        cases h55 : c.Op == 5 <;> rw [h55] at hcode
        · have h55' : c.Op ≠ 5 := by simpa using h55
          have : writes c i = false := by
            unfold writes writer; simp [h6', h23'.1, h23'.2, h55']
          rw [this]; rfl
        · have h55' : c.Op = 5 := by simpa using h55
          have hwr : writer c = true := by unfold writer; simp [h55']
          have hsp := good_span hc hl (by omega)
          obtain ⟨hr, hv⟩ := s3 h55'
          simp only [cond_true, cond_false] at hcode ⊢
          cases hm : l.getD c.Lba.toNat 0 == c.Vals.getD 0 0 <;> rw [hm] at hcode
          · simp at hcode
          · simp only [cond_true]
            by_cases hii : i = c.Lba.toNat
            · have hwt : writes c i = true := by unfold writes; rw [hwr, hr]; simp; omega
              rw [hwt]
              subst hii
              simp [List.getD_eq_getElem?_getD, hi, hv]
            · have hwt : writes c i = false := by unfold writes; rw [hwr, hr]; simp; omega
              rw [hwt]
              simp [List.getD_eq_getElem?_getD, Ne.symm hii]
      · have h6' : c.Op = 6 := by simpa using h6
        have hwr : writer c = true := by unfold writer; simp [h6']
        have hsp := good_span hc hl (by omega)
        obtain ⟨hr, hn⟩ := s1 (.inr h6')
        simp only [cond_true, cond_false]
        rw [ovl_get (by simp; omega)]
        by_cases hin : c.Lba.toNat ≤ i ∧ i < c.Lba.toNat + (List.replicate c.N.toNat (0 : Int)).length
        · rw [if_pos hin]
          have hwt : writes c i = true := by unfold writes; rw [hwr, hr]; simp at hin ⊢; omega
          have h56 : (c.Op == 5) = false := by rw [h6']; rfl
          rw [hwt, h56]
          simp [List.getD_eq_getElem?_getD, List.getElem?_replicate]
          split <;> rfl
        · rw [if_neg hin]
          have hwt : writes c i = false := by unfold writes; rw [hwr, hr]; simp at hin ⊢; omega
          rw [hwt]; rfl
    · have h23' : c.Op = 2 ∨ c.Op = 3 := by simpa using h23
      have hwr : writer c = true := by unfold writer; rcases h23' with h | h <;> simp [h]
      have hsp := good_span hc hl (by omega)
      have hr := s2 h23'
      simp only [cond_true, cond_false]
      rw [ovl_get (by omega)]
      by_cases hin : c.Lba.toNat ≤ i ∧ i < c.Lba.toNat + c.Vals.length
      · rw [if_pos hin]
        have hwt : writes c i = true := by unfold writes; rw [hwr, hr]; simp; omega
        rw [hwt, show ((i : Int) - c.Lba).toNat = i - c.Lba.toNat by omega]; rfl
      · rw [if_neg hin]
        have hwt : writes c i = false := by unfold writes; rw [hwr, hr]; simp; omega
        rw [hwt]; rfl
  · have h1' : c.Op = 1 := by simpa using h1
    have hwt : writes c i = false := by unfold writes writer; rw [h1']; simp
    rw [hwt]; rfl

/-! ### The law -/
theorem sameInts_r (a b : List Int) (h : a.length ≤ Big) : Rn 2 N.laws_sameInts [.v [.r (eIs a)], .v [.r (eIs b)]] ⟨[.b (a == b)], []⟩ := by
  refine Rn.of fun k hk => ?_
  unfold Big at h hk
  rw [laws_sameInts_e]; unfold laws_sameInts_u laws_sameInts_U
  simp only [List.length_map, lenB]
  cases hl : a.length == b.length
  · have : (a == b) = false := by
      cases hab : a == b
      · rfl
      · rw [beq_iff_eq.1 hab] at hl; simp at hl
    rw [this]; rfl
  · have hl : a.length = b.length := by simpa using hl
    simp only [Bool.not_true, cond_false]
    refine (allN_loop a.length (fun i => a.getD i 0 == b.getD i 0) (some ⟨[.b true], []⟩) (by omega) (fun i hi G => ?_) (fun G => ?_) (by omega)).trans ((bifB _ _).trans (by rw [Bool.and_true, eq_all hl]))
    · unfold laws_sameInts_l1 laws_sameInts_L1
      have hi' : i < b.length := by omega
      simp only [List.length_map, at_ints hi, at_ints hi', dlt hi, dlt hi', d0, Bool.and_self, chk_true, cond_true, Int.toNat_natCast]
      simp only [bne]
      cases a.getD i 0 == b.getD i 0 <;> rfl
    · unfold laws_sameInts_l1 laws_sameInts_L1
      simp only [List.length_map, dll, cond_false]
theorem sameAns_r (a b : Ans) (h : a.Vals.length ≤ Big) : Rn 3 N.laws_sameAns [.v a.e, .v b.e] ⟨[.b (sameAns a b)], []⟩ := by
  refine Rn.of fun k hk => ?_
  rw [laws_sameAns_e]; unfold laws_sameAns_u sameAns
  rw [sameInts_r _ _ h k (by omega)]
  cases a.Id == b.Id <;> cases a.Code == b.Code <;> rfl
theorem sameAns_refl (a : Ans) : sameAns a a = true := by unfold sameAns; simp
theorem doC_vals (g : Geo) (l : List Int) (c : Cmd) : (doC g l c).2.Vals.length ≤ l.length := by
  have := doAll_vals g l [c] (doC g l c).2 (by unfold doAll; exact List.mem_cons_self)
  exact this
theorem FnModel_r (l : List Int) (hl : LF inB l) : Rn 20 N.laws_FnModel [.v [.r (eIs l)]] ⟨[.b true], []⟩ := by
  refine Ev.rn (Ev.fn (fun k => laws_FnModel_e k _) ?_)
  unfold laws_FnModel_u laws_FnModel_U
  refine Ev.call (big_r l) (by omega) ?_
  refine Ev.ite (fun _ => ⟨_, rfl, fun _ _ => rfl⟩) (fun hb => ?_)
  have hb : l.length ≤ Big := by
    simp only [Outs.t_mk, List.getD_cons_zero, T.asB_b] at hb
    have := of_decide_eq_false hb
    unfold Big; omega
  refine Ev.bind (drawDo_d l hb) (by omega) ?_
  rintro o ⟨g, b, x, hbl, hx, rfl⟩
  have hB : Big = 4294967296 := rfl
  refine Ev.call (doCmd_i g b x (by omega) hx.w) (by omega) (Ev.call (doCmd_s g b x (by omega) hx.w) (by omega) ?_)
  have hlen := doC_len g b x
  refine Ev.call (sameInts_r (doC g b x).1 (doC g b x).1 (by omega)) (by omega) ?_
  have hv := doC_vals g b x
  simp only [Outs.t_mk, List.getD_cons_zero, T.asB_b, beq_self_eq_true, Bool.not_true, cond_false]
  refine Ev.call (sameAns_r (doC g b x).2 (doC g b x).2 (by omega)) (by omega) ?_
  refine ⟨_, rfl, fun k hk => ?_⟩
  simp only [Outs.t_mk, List.getD_cons_zero, T.asB_b, sameAns_refl, Bool.not_true, cond_false]
  unfold laws_FnModel_J1
  simp only [Outs.t_mk, List.cons_append, List.nil_append, List.getD_cons_zero, List.getD_cons_succ, T.asI_i, T.asR_r, List.length_map, doC_id, hlen, bne, beq_self_eq_true, Bool.not_true, cond_false]
  refine fixN_up (R := Outs) b.length (fun i => (i : Int)) (fun _ => some ⟨[.b true], []⟩) (fun i hi G hG => ?_) (fun G => ?_) (by omega)
  · have hi' : i < (doC g b x).1.length := by omega
    unfold laws_FnModel_l1 laws_FnModel_L1 laws_FnModel_J2
    simp only [Outs.t_mk, List.cons_append, List.nil_append, List.getD_cons_zero, List.getD_cons_succ, T.asI_i, T.asR_r, List.length_map, hlen, dlt hi, cond_true]
    rw [writes_i x hx.fit i (by unfold inI; omega) k (by omega), wordOf_i x hx.fit i (by unfold inI; omega) k (by omega), wrap_up (by omega)]
    simp only [bindO_some, Outs.t_mk, List.getD_cons_zero, T.asB_b, T.asI_i, dlt hi, d0, Bool.and_self, chk_true, Int.toNat_natCast, at_ints hi, at_ints hi', bne]
    cases hcode : (doC g b x).2.Code == 0
    · have hcode' : (doC g b x).2.Code ≠ 0 := by simpa using hcode
      rw [doC_refused hcode']
      cases writes x i <;> simpa using hG
    · have hcode' : (doC g b x).2.Code = 0 := by simpa using hcode
      obtain ⟨e1, e2, e3⟩ := doC_good hcode'
      have hat := doGood_at e1 e2 hx.w (by rw [← e3]; exact hcode') hi
      rw [e3, hat]
      cases writes x i <;> simpa using hG
  · unfold laws_FnModel_l1 laws_FnModel_L1
    simp only [Outs.t_mk, List.cons_append, List.nil_append, List.getD_cons_zero, List.getD_cons_succ, T.asI_i, T.asR_r, List.length_map, dll, cond_false, bne]
    cases h1 : x.Op == 1
    · rfl
    · cases hcode : (doC g b x).2.Code == 0
      · rfl
      · have hcode' : (doC g b x).2.Code = 0 := by simpa using hcode
        obtain ⟨e1, e2, e3⟩ := doC_good hcode'
        have h1' : x.Op = 1 := by simpa using h1
        have hsp := good_span e2 e1 (by omega)
        obtain ⟨_, hs, _⟩ := cmdCode_good e2
        obtain ⟨hr, hn⟩ := (good_size hs).1 (.inl h1')
        have ev : (doC g b x).2.Vals = (b.drop x.Lba.toNat).take x.N.toNat := by
          rw [e3]; unfold doGood; rw [h1]; rfl
        simp only [Bool.not_true, cond_false]
        rw [wrap_id (n := x.Lba + x.N) (by omega) (by omega), chk_ok (by simp; omega), ev, show (x.Lba + x.N).toNat - x.Lba.toNat = x.N.toNat by omega]
        have e5 : ((eIs b).drop x.Lba.toNat).take x.N.toNat = eIs ((b.drop x.Lba.toNat).take x.N.toNat) := by simp [List.map_take, List.map_drop]
        rw [e5, sameInts_r _ _ (by simp; omega) k (by omega)]
        simp [bindO_some]
end Go.Proofs.Ytjmmcnbhnaeieaa.Ev
