/- What commands do to blocks; what follows in a log. No condition. -/
import Derived.Test.YtahlghlpdcfbgaaPw
namespace Go.Proofs.Ytahlghlpdcfbgaa.Ev
open Go
set_option linter.unusedVariables false
set_option linter.unusedSimpArgs false
set_option maxHeartbeats 1000000

/-! ### Elements laid over others -/
def ovl (l : List Int) (f : Nat) (xs : List Int) : List Int := l.take f ++ (xs ++ l.drop (f + xs.length))
theorem ovl_e (l : List Int) (f : Nat) (xs : List Int) : overlay (eIs l) f (eIs xs) = eIs (ovl l f xs) := by simp [overlay, ovl, List.map_take, List.map_drop]
theorem ovl_nil (l : List Int) (f : Nat) : ovl l f [] = l := by simp [ovl]
theorem ovl_len {l xs : List Int} {f : Nat} (h : f + xs.length ≤ l.length) : (ovl l f xs).length = l.length := by simp [ovl]; omega
theorem ovl_step {l xs : List Int} {f i : Nat} (h : f + xs.length ≤ l.length) (hi : i < xs.length) : (ovl l f (xs.take i)).set (f + i) xs[i] = ovl l f (xs.take (i + 1)) := by
  have h1 : (xs.take i).length = i := by simp; omega
  have h2 : (xs.take (i + 1)).length = i + 1 := by simp; omega
  have h3 : (l.take f).length = f := by simp; omega
  unfold ovl
  rw [h1, h2, List.set_append_right _ _ (by rw [h3]; omega), h3, Nat.add_sub_cancel_left, List.set_append_right _ _ (by rw [h1]; exact Nat.le_refl _), h1, Nat.sub_self, List.drop_eq_getElem_cons (show f + i < l.length by omega), List.set_cons_zero, List.take_succ_eq_append_getElem hi]
  rw [List.append_assoc (xs.take i)]; simp [Nat.add_assoc]
theorem fill_loop {l xs : List Int} {f : Nat} (hfit : f + xs.length ≤ l.length) (hl : l.length ≤ 1099511627776) {b : (Int × List (List T) → Option Outs) → Int × List (List T) → Option Outs} (last : List Int → Option Outs)
    (h : ∀ i (hi : i < xs.length) (w : List Int), w.length = l.length → ∀ G, b G ((i : Int), eIs w) = G (IntKind.wrap .i64 ((i : Int) + 1), eIs (w.set (f + i) xs[i])))
    (he : ∀ w G, b G ((xs.length : Int), eIs w) = last w) {j : Nat} (hj : xs.length < j) : fixN b j (0, eIs l) = last (ovl l f xs) := by
  have := fixN_up (R := Outs) (b := b) xs.length (fun i => ((i : Int), eIs (ovl l f (xs.take i)))) (fun _ => last (ovl l f xs)) (fun i hi G hG => ?_) (fun G => ?_) hj
  · simpa [ovl_nil] using this
  · rw [h i hi _ (ovl_len (by simp; omega)), wrap_up (by omega), ovl_step hfit hi]; exact hG
  · rw [he, List.take_length]
theorem put_int {w : List Int} {n : Nat} (h : n < w.length) (x : Int) : put_ (eIs w) n 0 [.i x] = eIs (w.set n x) := put_map (α := Int) (fun n => [T.i n]) h 0 _ x rfl

/-! ### A command -/
def doGood (l : List Int) (c : Cmd) : List Int × Ans :=
  bif c.Op == 1 then (l, ⟨c.Id, 0, (l.drop c.Lba.toNat).take c.N.toNat⟩)
  else bif c.Op == 2 || c.Op == 3 then (ovl l c.Lba.toNat c.Vals, ⟨c.Id, 0, []⟩)
  else bif c.Op == 6 then (ovl l c.Lba.toNat (List.replicate c.N.toNat 0), ⟨c.Id, 0, []⟩)
  else bif c.Op == 5 then (bif l.getD c.Lba.toNat 0 == c.Vals.getD 0 0 then (l.set c.Lba.toNat (c.Vals.getD 1 0), ⟨c.Id, 0, []⟩) else (l, ⟨c.Id, 4, []⟩))
  else (l, ⟨c.Id, 0, []⟩)
def doC (g : Geo) (l : List Int) (c : Cmd) : List Int × Ans :=
  bif (l.length : Int) != blocks g then (l, ⟨c.Id, 1, []⟩) else bif cmdCode g c != 0 then (l, ⟨c.Id, cmdCode g c, []⟩) else doGood l c
theorem good_size {c : Cmd} (hs : sizeOk c = true) : (c.Op = 1 ∨ c.Op = 6 → runOf c = c.N ∧ 0 ≤ c.N) ∧ (c.Op = 2 ∨ c.Op = 3 → runOf c = (c.Vals.length : Int)) ∧ (c.Op = 5 → runOf c = 1 ∧ c.Vals.length = 2) := by
  unfold sizeOk at hs
  unfold runOf
  refine ⟨fun h => ?_, fun h => ?_, fun h => ?_⟩
  · rcases h with h | h <;> rw [h] at hs ⊢ <;> simp [within] at hs ⊢ <;> omega
  · rcases h with h | h <;> rw [h] <;> simp
  · rw [h] at hs ⊢; simp at hs ⊢; omega
theorem good_span {g : Geo} {c : Cmd} {l : List Int} (h : cmdCode g c = 0) (hl : (l.length : Int) = blocks g) (h4 : c.Op ≠ 4) : 0 ≤ c.Lba ∧ c.Lba + runOf c ≤ (l.length : Int) := by
  obtain ⟨_, _, h5⟩ := cmdCode_good h
  rcases h5 with h5 | h5
  · exact absurd h5 h4
  · omega
theorem doGood_len {g : Geo} {c : Cmd} {l : List Int} (h : cmdCode g c = 0) (hl : (l.length : Int) = blocks g) : (doGood l c).1.length = l.length := by
  obtain ⟨_, hs, _⟩ := cmdCode_good h
  obtain ⟨s1, s2, s3⟩ := good_size hs
  unfold doGood
  cases h1 : c.Op == 1
  · cases h23 : c.Op == 2 || c.Op == 3
    · cases h6 : c.Op == 6
      · cases h5 : c.Op == 5
        · rfl
        · simp only [cond_true, cond_false]
          cases l.getD c.Lba.toNat 0 == c.Vals.getD 0 0 <;> simp
      · have h6 : c.Op = 6 := by simpa using h6
        have := good_span h hl (by omega)
        have := s1 (.inr h6)
        exact ovl_len (by simp; omega)
    · have h23 : c.Op = 2 ∨ c.Op = 3 := by simpa using h23
      have := good_span h hl (by omega)
      have := s2 h23
      exact ovl_len (by omega)
  · rfl
theorem doC_len (g : Geo) (l : List Int) (c : Cmd) : (doC g l c).1.length = l.length := by
  unfold doC
  cases hl : (l.length : Int) != blocks g
  · cases h : cmdCode g c != 0
    · exact doGood_len (by simpa using h) (by simpa using hl)
    · rfl
  · rfl
theorem chk_in {n : Int} {l : List Int} (h0 : 0 ≤ n) (h1 : n < (l.length : Int)) (X : Option Outs) : chk (decide (0 ≤ n) && decide (n < (l.length : Int))) X = X := chk_ok (by simp; omega) X
theorem l14Do_s (g : Geo) (l : List Int) (c : Cmd) (hl32 : l.length ≤ Big) (hw : c.w ≤ Big) (h : cmdCode g c = 0) (hl : (l.length : Int) = blocks g) :
    Rn 2 N.spec_l14Do [.r (eIs l), .v c.e] ⟨(doGood l c).2.e, [[.r (eIs (doGood l c).1)]]⟩ := by
  refine Rn.of fun k hk => ?_
  rw [spec_l14Do_e]; unfold spec_l14Do_u spec_l14Do_U spec_l14Do_J1 doGood
  obtain ⟨_, hs, _⟩ := cmdCode_good h
  obtain ⟨s1, s2, s3⟩ := good_size hs
  have hB : Big = 4294967296 := rfl
  have hv : c.Vals.length ≤ Big := hw
  have hbl := blocks_b g
  simp only [List.length_map]
  cases h1 : c.Op == 1
  · have h1' : c.Op ≠ 1 := by simpa using h1
    cases h23 : c.Op == 2 || c.Op == 3
    · have h23' : (c.Op == 2) = false ∧ (c.Op == 3) = false := by simpa using h23
      rw [h23'.1, h23'.2]
      simp only [cond_false]
      cases h6 : c.Op == 6
      · cases h5 : c.Op == 5
        · rfl
        · have h5 : c.Op = 5 := by simpa using h5
          have hsp := good_span h hl (by omega)
          have h55 := s3 h5
          simp only [cond_true, cond_false]
          rw [chk_in (by omega) (by omega), chk_ok (by simp; omega), at_ints (i := c.Lba.toNat) (by omega), at_ints (i := 0) (by omega), at_ints (i := 1) (by omega), chk_ok (by simp; omega), chk_in (by omega) (by omega), put_int (by omega)]
          simp only [bne, bifN]
          cases l.getD c.Lba.toNat 0 == c.Vals.getD 0 0 <;> rfl
      · have h6 : c.Op = 6 := by simpa using h6
        have hsp := good_span h hl (by omega)
        have h16 := s1 (.inr h6)
        have hcond : (c.N.toNat : Int) = c.N := by omega
        refine (fill_loop (l := l) (xs := List.replicate c.N.toNat 0) (f := c.Lba.toNat) (by simp; omega) (by omega) (fun w => some ⟨[.i c.Id, .i 0, .r []], [[.r (eIs w)]]⟩) (fun i hi w hwl G => ?_) (fun w G => ?_) (by simp; omega)).trans rfl
        · have hi : i < c.N.toNat := by simpa using hi
          unfold spec_l14Do_l2 spec_l14Do_L2
          simp only [List.length_map]
          have e : IntKind.wrap .i64 (c.Lba + (i : Int)) = c.Lba + (i : Int) := wrap_id (by omega) (by omega)
          have e2 : (c.Lba + (i : Int)).toNat = c.Lba.toNat + i := by omega
          rw [decide_eq_true (by omega), cond_true, e, chk_in (by omega) (by omega), e2, put_int (by omega)]
          simp
        · unfold spec_l14Do_l2 spec_l14Do_L2
          simp only [List.length_replicate]
          rw [decide_eq_false (by omega)]; rfl
    · have h23' : c.Op = 2 ∨ c.Op = 3 := by simpa using h23
      have hsp := good_span h hl (by omega)
      have h2 := s2 h23'
      have key : fixN (spec_l14Do_l1 k c.Op c.Id c.Lba c.N (eIs c.Vals)) k (0, eIs l) = some ⟨[.i c.Id, .i 0, .r []], [[.r (eIs (ovl l c.Lba.toNat c.Vals))]]⟩ := by
        refine fill_loop (l := l) (xs := c.Vals) (f := c.Lba.toNat) (by omega) (by omega) (fun w => some ⟨[.i c.Id, .i 0, .r []], [[.r (eIs w)]]⟩) (fun i hi w hwl G => ?_) (fun w G => ?_) (by omega)
        · unfold spec_l14Do_l1 spec_l14Do_L1
          have e : IntKind.wrap .i64 (c.Lba + (i : Int)) = c.Lba + (i : Int) := wrap_id (by omega) (by omega)
          have e2 : (c.Lba + (i : Int)).toNat = c.Lba.toNat + i := by omega
          simp only [List.length_map, dlt hi, d0, Bool.and_self, chk_true, cond_true, Int.toNat_natCast, at_map _ hi, List.getD_cons_zero, T.asI_i]
          rw [e, chk_in (by omega) (by omega), e2, put_int (by omega)]
        · unfold spec_l14Do_l1 spec_l14Do_L1
          simp only [List.length_map, dll, cond_false]
      rw [key]
      simp only [cond_true, cond_false]
      cases h2' : c.Op == 2
      · have h3 : (c.Op == 3) = true := by rw [h2'] at h23; simpa using h23
        rw [h3]; rfl
      · rfl
  · have h1 : c.Op = 1 := by simpa using h1
    have hsp := good_span h hl (by omega)
    have h16 := s1 (.inl h1)
    simp only [cond_true]
    have e : IntKind.wrap .i64 (c.Lba + c.N) = c.Lba + c.N := wrap_id (by omega) (by omega)
    have e2 : (c.Lba + c.N).toNat - c.Lba.toNat = c.N.toNat := by omega
    rw [e, e2, chk_ok (by simp; omega), chk_ok (by simp; omega)]
    simp [List.map_take, List.map_drop]
theorem doCmd_s (g : Geo) (l : List Int) (c : Cmd) (hl32 : l.length ≤ Big) (hw : c.w ≤ Big) : Rn 6 N.spec_DoCmd [.v g.e, .v [.r (eIs l)], .v c.e] ⟨.r (eIs (doC g l c).1) :: (doC g l c).2.e, []⟩ := by
  refine Rn.of fun k hk => ?_
  rw [spec_DoCmd_e]; unfold spec_DoCmd_u spec_DoCmd_J1 doC
  have hB : Big = 4294967296 := rfl
  rw [chk_ok (by simp; omega), cmdCode_s g c hw k (by omega), blocks_s g k (by omega)]
  simp only [bindO_some, Outs.t_mk, List.getD_cons_zero, T.asI_i, List.length_map, List.nil_append]
  cases hl : (l.length : Int) != blocks g
  · cases hc : cmdCode g c != 0
    · simp only [cond_false]
      rw [l14Do_s g l c hl32 hw (by simpa using hc) (by simpa using hl) k (by omega)]; rfl
    · rfl
  · rfl
theorem doCmd_i (g : Geo) (l : List Int) (c : Cmd) (hl32 : l.length ≤ Big) (hw : c.w ≤ Big) : Rn 8 N.impl_DoCmd [.v g.e, .v [.r (eIs l)], .v c.e] ⟨.r (eIs (doC g l c).1) :: (doC g l c).2.e, []⟩ := by
  refine Rn.of fun k hk => ?_
  rw [impl_DoCmd_e]; unfold impl_DoCmd_u impl_DoCmd_J1 impl_DoCmd_J2 doC
  have hB : Big = 4294967296 := rfl
  have hbl := blocks_b g
  rw [copyInts_i l hl32 k (by omega), cmdCode_i g c hw k (by omega), blocks_i g k (by omega), spanOf_i g c hw k (by omega)]
  simp only [bindO_some, Outs.t_mk, List.getD_cons_zero, List.getD_cons_succ, T.asI_i, T.asR_r, List.length_map]
  cases hl : (l.length : Int) != blocks g
  · have hl : (l.length : Int) = blocks g := by simpa using hl
    simp only [cond_false]
    cases hc : cmdCode g c != 0
    · have hc' : cmdCode g c = 0 := by simpa using hc
      obtain ⟨_, hs, _⟩ := cmdCode_good hc'
      obtain ⟨s1, s2, s3⟩ := good_size hs
      have hsp : c.Op ≠ 4 → spanOf g c = (c.Lba, c.Lba + runOf c) := fun h4 => by
        unfold spanOf
        rw [hc', show (c.Op == 4) = false by simpa using h4]; rfl
      unfold doGood
      simp only [cond_false, hc']
      cases h1 : c.Op == 1
      · have h1' : c.Op ≠ 1 := by simpa using h1
        cases h23 : c.Op == 2 || c.Op == 3
        · have h23' : (c.Op == 2) = false ∧ (c.Op == 3) = false := by simpa using h23
          rw [h23'.1, h23'.2]
          simp only [cond_false]
          cases h6 : c.Op == 6
          · cases h5 : c.Op == 5
            · rfl
            · have h5 : c.Op = 5 := by simpa using h5
              have hg := good_span hc' hl (by omega)
              have h55 := s3 h5
              rw [hsp (by omega)]
              simp only [cond_true, cond_false]
              rw [chk_in (by omega) (by omega), chk_ok (by simp; omega), at_ints (i := c.Lba.toNat) (by omega), at_ints (i := 0) (by omega), at_ints (i := 1) (by omega), chk_ok (by simp; omega), chk_in (by omega) (by omega), put_int (by omega)]
              cases l.getD c.Lba.toNat 0 == c.Vals.getD 0 0 <;> rfl
          · have h6 : c.Op = 6 := by simpa using h6
            have hg := good_span hc' hl (by omega)
            have h16 := s1 (.inr h6)
            rw [hsp (by omega)]
            simp only [cond_true, cond_false]
            have e2 : (c.Lba + runOf c).toNat - c.Lba.toNat = c.N.toNat := by omega
            rw [chk_ok (by simp; omega), e2]
            have e3 : List.replicate c.N.toNat [T.i 0] = eIs (List.replicate c.N.toNat 0) := by simp
            rw [e3, ovl_e]; rfl
        · have h23' : c.Op = 2 ∨ c.Op = 3 := by simpa using h23
          have hg := good_span hc' hl (by omega)
          have h2 := s2 h23'
          rw [hsp (by omega)]
          simp only [cond_true, cond_false]
          have e2 : (c.Lba + runOf c).toNat - c.Lba.toNat = c.Vals.length := by omega
          have e4 : (eIs c.Vals).take c.Vals.length = eIs c.Vals := List.take_of_length_le (by simp)
          rw [chk_ok (by simp; omega), e2, e4, ovl_e]
          cases h2' : c.Op == 2
          · have h3 : (c.Op == 3) = true := by rw [h2'] at h23; simpa using h23
            rw [h3]; rfl
          · rfl
      · have h1 : c.Op = 1 := by simpa using h1
        have hg := good_span hc' hl (by omega)
        have h16 := s1 (.inl h1)
        rw [hsp (by omega)]
        simp only [cond_true]
        have e2 : (c.Lba + runOf c).toNat - c.Lba.toNat = c.N.toNat := by omega
        have e3 : ((eIs l).drop c.Lba.toNat).take c.N.toNat = eIs ((l.drop c.Lba.toNat).take c.N.toNat) := by simp [List.map_take, List.map_drop]
        rw [chk_ok (by simp; omega), e2, e3, copyInts_i _ (by simp; omega) k (by omega)]; rfl
    · rfl
  · rfl
end Go.Proofs.Ytahlghlpdcfbgaa.Ev
