/- Logs: what follows. No condition. -/
import Derived.Test.YtahlghlpdcfbgaaPx
namespace Go.Proofs.Ytahlghlpdcfbgaa.Ev
open Go
set_option linter.unusedVariables false
set_option linter.unusedSimpArgs false
set_option maxHeartbeats 1000000

theorem eq_all {a b : List Int} (h : a.length = b.length) : allN a.length (fun i => a.getD i 0 == b.getD i 0) = (a == b) := by
  rw [Bool.eq_iff_iff, allN_iff, beq_iff_eq]
  constructor
  · intro g
    refine List.ext_getElem h fun i h1 h2 => ?_
    have := g i h1
    rw [getD_at h1, getD_at h2] at this
    simpa using this
  · rintro rfl i _; simp
theorem lenB {a b : Nat} : ((a : Int) != (b : Int)) = !(a == b) := by rw [Bool.eq_iff_iff]; simp; omega
theorem equal_i (a b : List Int) (h : a.length ≤ Big) : Rn 2 N.slices_Equal_int_int [.v [.r (eIs a)], .v [.r (eIs b)]] ⟨[.b (a == b)], []⟩ := by
  refine Rn.of fun k hk => ?_
  unfold Big at h hk
  rw [slices_Equal_int_int_e]; unfold slices_Equal_int_int_u slices_Equal_int_int_U
  simp only [List.length_map, lenB]
  cases hl : a.length == b.length
  · have : (a == b) = false := by
      cases hab : a == b
      · rfl
      · rw [beq_iff_eq.1 hab] at hl; simp at hl
    rw [this]; rfl
  · have hl : a.length = b.length := by simpa using hl
    simp only [Bool.not_true, cond_false]
    refine (allN_loop a.length (fun i => a.getD i 0 == b.getD i 0) (some ⟨[.b true], []⟩) (by omega) (fun i hi G => ?_) (fun G => ?_) (by omega)).trans ((bifB _ _).trans (by rw [Bool.and_true, eq_all hl]))
    · unfold slices_Equal_int_int_l1 slices_Equal_int_int_L1
      have hi' : i < b.length := by omega
      simp only [List.length_map, at_ints hi, at_ints hi', dlt hi, dlt hi', d0, Bool.and_self, chk_true, cond_true, Int.toNat_natCast]
      simp only [bne]
      cases a.getD i 0 == b.getD i 0 <;> rfl
    · unfold slices_Equal_int_int_l1 slices_Equal_int_int_L1
      simp only [List.length_map, dll, cond_false]
theorem sameSec_s (a b : List Int) (h : a.length ≤ Big) : Rn 2 N.spec_SameSec [.v [.r (eIs a)], .v [.r (eIs b)]] ⟨[.b (a == b)], []⟩ := by
  refine Rn.of fun k hk => ?_
  unfold Big at h hk
  rw [spec_SameSec_e]; unfold spec_SameSec_u spec_SameSec_U
  simp only [List.length_map, lenB]
  cases hl : a.length == b.length
  · have : (a == b) = false := by
      cases hab : a == b
      · rfl
      · rw [beq_iff_eq.1 hab] at hl; simp at hl
    rw [this]; rfl
  · have hl : a.length = b.length := by simpa using hl
    simp only [Bool.not_true, cond_false]
    refine (allN_loop a.length (fun i => a.getD i 0 == b.getD i 0) (some ⟨[.b true], []⟩) (by omega) (fun i hi G => ?_) (fun G => ?_) (by omega)).trans ((bifB _ _).trans (by rw [Bool.and_true, eq_all hl]))
    · unfold spec_SameSec_l1 spec_SameSec_L1
      have hi' : i < b.length := by omega
      simp only [List.length_map, at_ints hi, at_ints hi', dlt hi, dlt hi', d0, Bool.and_self, chk_true, cond_true, Int.toNat_natCast]
      simp only [bne]
      cases a.getD i 0 == b.getD i 0 <;> rfl
    · unfold spec_SameSec_l1 spec_SameSec_L1
      simp only [List.length_map, dll, cond_false]
def sameAns (a b : Ans) : Bool := (a.Id == b.Id) && ((a.Code == b.Code) && (a.Vals == b.Vals))
theorem sameAns_i (a b : Ans) (h : a.Vals.length ≤ Big) : Rn 3 N.impl_SameAns [.v a.e, .v b.e] ⟨[.b (sameAns a b)], []⟩ := by
  refine Rn.of fun k hk => ?_
  rw [impl_SameAns_e]; unfold impl_SameAns_u sameAns
  rw [equal_i _ _ h k (by omega)]
  cases a.Id == b.Id <;> cases a.Code == b.Code <;> rfl
theorem sameAns_s (a b : Ans) (h : a.Vals.length ≤ Big) : Rn 3 N.spec_SameAns [.v a.e, .v b.e] ⟨[.b (sameAns a b)], []⟩ := by
  refine Rn.of fun k hk => ?_
  rw [spec_SameAns_e]; unfold spec_SameAns_u sameAns
  rw [sameSec_s _ _ h k (by omega)]
  cases a.Id == b.Id <;> cases a.Code == b.Code <;> rfl

/-! ### The commands and answers of a log -/
theorem turn_w {l : List Turn} (h : wL Turn.w l ≤ Big) {i : Nat} (hi : i < l.length) : l[i].C.w ≤ Big ∧ l[i].A.Vals.length ≤ Big := by
  have := wL_get Turn.w hi
  have e : Turn.w l[i] = l[i].C.w + l[i].A.Vals.length := rfl
  omega
theorem take_up {α β : Type} (f : α → β) (l : List α) {i : Nat} (hi : i < l.length) : (l.take (i + 1)).map f = (l.take i).map f ++ [f l[i]] := by
  rw [List.take_succ_eq_append_getElem hi, List.map_append]; rfl
theorem copyCmd_i (c : Cmd) (h : c.w ≤ Big) : Rn 2 N.impl_copyCmd [.v c.e] ⟨c.e, []⟩ := by
  refine Rn.of fun k hk => ?_
  rw [impl_copyCmd_e]; unfold impl_copyCmd_u
  rw [copyInts_i _ h k (by omega)]; rfl
theorem copyAns_i (a : Ans) (h : a.Vals.length ≤ Big) : Rn 2 N.impl_copyAns [.v a.e] ⟨a.e, []⟩ := by
  refine Rn.of fun k hk => ?_
  rw [impl_copyAns_e]; unfold impl_copyAns_u
  rw [copyInts_i _ h k (by omega)]; rfl
theorem copyCmd_s (c : Cmd) (h : c.w ≤ Big) : Rn 1 N.spec_l13Copy [.v c.e] ⟨c.e, []⟩ := by
  refine Rn.of fun k hk => ?_
  have hv : c.Vals.length ≤ 4294967296 := h
  rw [spec_l13Copy_e]; unfold spec_l13Copy_u
  rw [chk_ok (by simp; omega)]; rfl
theorem cmdsOf_i (l : List Turn) (h : wL Turn.w l ≤ Big) : Rn 3 N.impl_CmdsOf [.v [.r (eTurns l)]] ⟨[.r (eCmds (l.map Turn.C))], []⟩ := by
  refine Rn.of fun k hk => ?_
  rw [impl_CmdsOf_e]; unfold impl_CmdsOf_u impl_CmdsOf_U
  have hl := wL_len Turn.w l
  have hB : Big = 4294967296 := rfl
  refine fixN_up (R := Outs) l.length (fun i => ((i : Int), eCmds ((l.take i).map Turn.C))) (fun _ => some ⟨[.r (eCmds (l.map Turn.C))], []⟩) (fun i hi G hG => ?_) (fun G => ?_) (by omega)
  · unfold impl_CmdsOf_l1 impl_CmdsOf_L1
    simp only [List.length_map, at_map _ hi, dlt hi, d0, Bool.and_self, chk_true, cond_true, Int.toNat_natCast, List.getD_cons_zero, List.getD_cons_succ, T.asI_i, T.asR_r]
    rw [copyCmd_i l[i].C (turn_w h hi).1 k (by omega), bindO_some]
    simp only [Outs.t_mk, List.getD_cons_zero, List.getD_cons_succ, T.asI_i, T.asR_r]
    rw [chk_ok (by simp; omega), wrap_up (by omega)]
    rw [take_up Turn.C l hi, show ∀ x y : List Cmd, eCmds (x ++ y) = eCmds x ++ eCmds y from fun _ _ => List.map_append] at hG
    exact hG
  · unfold impl_CmdsOf_l1 impl_CmdsOf_L1
    simp only [List.length_map, dll, cond_false, List.take_length]
theorem cmdsOf_s (l : List Turn) (h : wL Turn.w l ≤ Big) : Rn 3 N.spec_CmdsOf [.v [.r (eTurns l)]] ⟨[.r (eCmds (l.map Turn.C))], []⟩ := by
  refine Rn.of fun k hk => ?_
  rw [spec_CmdsOf_e]; unfold spec_CmdsOf_u spec_CmdsOf_U
  have hl := wL_len Turn.w l
  have hB : Big = 4294967296 := rfl
  refine fixN_up (R := Outs) l.length (fun i => ((i : Int), eCmds ((l.take i).map Turn.C))) (fun _ => some ⟨[.r (eCmds (l.map Turn.C))], []⟩) (fun i hi G hG => ?_) (fun G => ?_) (by omega)
  · unfold spec_CmdsOf_l1 spec_CmdsOf_L1
    simp only [List.length_map, at_map _ hi, dlt hi, d0, Bool.and_self, chk_true, cond_true, Int.toNat_natCast, List.getD_cons_zero, List.getD_cons_succ, T.asI_i, T.asR_r]
    rw [copyCmd_s l[i].C (turn_w h hi).1 k (by omega), bindO_some]
    simp only [Outs.t_mk, List.getD_cons_zero, List.getD_cons_succ, T.asI_i, T.asR_r]
    rw [chk_ok (by simp; omega), wrap_up (by omega)]
    rw [take_up Turn.C l hi, show ∀ x y : List Cmd, eCmds (x ++ y) = eCmds x ++ eCmds y from fun _ _ => List.map_append] at hG
    exact hG
  · unfold spec_CmdsOf_l1 spec_CmdsOf_L1
    simp only [List.length_map, dll, cond_false, List.take_length]
theorem ansOf_i (l : List Turn) (h : wL Turn.w l ≤ Big) : Rn 3 N.impl_AnsOf [.v [.r (eTurns l)]] ⟨[.r (eAnss (l.map Turn.A))], []⟩ := by
  refine Rn.of fun k hk => ?_
  rw [impl_AnsOf_e]; unfold impl_AnsOf_u impl_AnsOf_U
  have hl := wL_len Turn.w l
  have hB : Big = 4294967296 := rfl
  refine fixN_up (R := Outs) l.length (fun i => ((i : Int), eAnss ((l.take i).map Turn.A))) (fun _ => some ⟨[.r (eAnss (l.map Turn.A))], []⟩) (fun i hi G hG => ?_) (fun G => ?_) (by omega)
  · unfold impl_AnsOf_l1 impl_AnsOf_L1
    simp only [List.length_map, at_map _ hi, dlt hi, d0, Bool.and_self, chk_true, cond_true, Int.toNat_natCast, List.getD_cons_zero, List.getD_cons_succ, T.asI_i, T.asR_r]
    rw [copyAns_i l[i].A (turn_w h hi).2 k (by omega), bindO_some]
    simp only [Outs.t_mk, List.getD_cons_zero, List.getD_cons_succ, T.asI_i, T.asR_r]
    rw [chk_ok (by simp; omega), wrap_up (by omega)]
    rw [take_up Turn.A l hi, show ∀ x y : List Ans, eAnss (x ++ y) = eAnss x ++ eAnss y from fun _ _ => List.map_append] at hG
    exact hG
  · unfold impl_AnsOf_l1 impl_AnsOf_L1
    simp only [List.length_map, dll, cond_false, List.take_length]

/-! ### Commands, one behind the other -/
def doAll (g : Geo) : List Int → List Cmd → List Int × List Ans
  | l, [] => (l, [])
  | l, c :: cs => ((doAll g (doC g l c).1 cs).1, (doC g l c).2 :: (doAll g (doC g l c).1 cs).2)
theorem doAll_snoc (g : Geo) : ∀ (l : List Int) (cs : List Cmd) (c : Cmd), doAll g l (cs ++ [c]) = ((doC g (doAll g l cs).1 c).1, (doAll g l cs).2 ++ [(doC g (doAll g l cs).1 c).2])
  | l, [], c => rfl
  | l, d :: cs, c => by
    rw [List.cons_append]
    unfold doAll
    rw [doAll_snoc g _ cs c]; rfl
theorem doAll_len (g : Geo) : ∀ (l : List Int) (cs : List Cmd), (doAll g l cs).1.length = l.length ∧ (doAll g l cs).2.length = cs.length
  | l, [] => ⟨rfl, rfl⟩
  | l, c :: cs => by
    have := doAll_len g (doC g l c).1 cs
    unfold doAll
    exact ⟨this.1.trans (doC_len g l c), by simp [this.2]⟩
theorem doAll_up (g : Geo) (l : List Int) (cs : List Cmd) {i : Nat} (hi : i < cs.length) : doAll g l (cs.take (i + 1)) = ((doC g (doAll g l (cs.take i)).1 cs[i]).1, (doAll g l (cs.take i)).2 ++ [(doC g (doAll g l (cs.take i)).1 cs[i]).2]) := by
  rw [List.take_succ_eq_append_getElem hi, doAll_snoc]
def doCs (g : Geo) (l : List Int) (cs : List Cmd) : List Int × List Ans := doAll g l (cs.take 400)
theorem doCmds_s (g : Geo) (l : List Int) (cs : List Cmd) (hl : l.length ≤ Big) (hc : cs.length ≤ Big) (hw : ∀ i (h : i < cs.length), cs[i].w ≤ Big) : Rn 7 N.spec_DoCmds [.v g.e, .v [.r (eIs l)], .v [.r (eCmds cs)]] ⟨[.r (eIs (doCs g l cs).1), .r (eAnss (doCs g l cs).2)], []⟩ := by
  refine Rn.of fun k hk => ?_
  rw [spec_DoCmds_e]; unfold spec_DoCmds_u spec_DoCmds_U
  have hB : Big = 4294967296 := rfl
  rw [chk_ok (by simp; omega)]
  refine fixN_up (R := Outs) (cs.take 400).length (fun i => ((i : Int), eIs (doAll g l (cs.take i)).1, eAnss (doAll g l (cs.take i)).2)) (fun _ => some ⟨[.r (eIs (doCs g l cs).1), .r (eAnss (doCs g l cs).2)], []⟩) (fun i hi G hG => ?_) (fun G => ?_) (by simp; omega)
  · rw [List.length_take] at hi
    have hi' : i < cs.length := by omega
    obtain ⟨d1, d2⟩ := doAll_len g l (cs.take i)
    rw [List.length_take] at d2
    unfold spec_DoCmds_l1 spec_DoCmds_L1 spec_DoCmds_J1
    simp only [List.length_map, at_map _ hi', dlt hi', d0, Bool.and_self, chk_true, cond_true, Int.toNat_natCast, List.getD_cons_zero, List.getD_cons_succ, T.asI_i, T.asR_r]
    rw [decide_eq_true (by omega), cond_true, doCmd_s g _ cs[i] (by omega) (hw i hi') k (by omega), bindO_some]
    simp only [Outs.t_mk, List.getD_cons_zero, List.getD_cons_succ, T.asI_i, T.asR_r]
    rw [chk_ok (by simp; omega), wrap_up (by omega)]
    simp only [doAll_up g l cs hi', List.map_append] at hG
    exact hG
  · unfold spec_DoCmds_l1 spec_DoCmds_L1 spec_DoCmds_J1
    have e : cs.take (cs.take 400).length = cs.take 400 := by
      rw [List.length_take]
      by_cases h4 : 400 ≤ cs.length
      · rw [Nat.min_eq_left h4]
      · rw [Nat.min_eq_right (by omega), List.take_length, List.take_of_length_le (by omega)]
    simp only [List.length_map, e]
    rw [List.length_take]
    by_cases h4 : 400 < cs.length
    · rw [decide_eq_true (by omega), decide_eq_false (by omega)]; rfl
    · rw [decide_eq_false (by omega)]; rfl
theorem doCmds_i (g : Geo) (l : List Int) (cs : List Cmd) (hl : l.length ≤ Big) (hc : cs.length ≤ Big) (hw : ∀ i (h : i < cs.length), cs[i].w ≤ Big) : Rn 9 N.impl_DoCmds [.v g.e, .v [.r (eIs l)], .v [.r (eCmds cs)]] ⟨[.r (eIs (doCs g l cs).1), .r (eAnss (doCs g l cs).2)], []⟩ := by
  refine Rn.of fun k hk => ?_
  rw [impl_DoCmds_e]; unfold impl_DoCmds_u impl_DoCmds_U
  have hB : Big = 4294967296 := rfl
  have e : ((eCmds cs).drop (0 : Int).toNat).take ((if 400 < ((eCmds cs).length : Int) then 400 else ((eCmds cs).length : Int)).toNat - (0 : Int).toNat) = eCmds (cs.take 400) := by
    rw [List.length_map, show eCmds (cs.take 400) = (eCmds cs).take 400 from List.map_take]
    simp only [Int.toNat_zero, List.drop_zero, Nat.sub_zero]
    split
    · rfl
    · rw [Int.toNat_natCast, List.take_of_length_le (by simp), List.take_of_length_le (by simp; omega)]
  rw [copyInts_i l hl k (by omega), bindO_some, chk_ok (by rw [List.length_map]; simp; split <;> omega), e]
  simp only [Outs.t_mk, List.getD_cons_zero, T.asR_r, List.length_map]
  refine fixN_up (R := Outs) (cs.take 400).length (fun i => ((i : Int), eIs (doAll g l ((cs.take 400).take i)).1, eAnss (doAll g l ((cs.take 400).take i)).2)) (fun _ => some ⟨[.r (eIs (doCs g l cs).1), .r (eAnss (doCs g l cs).2)], []⟩) (fun i hi G hG => ?_) (fun G => ?_) (by simp; omega)
  · obtain ⟨d1, d2⟩ := doAll_len g l ((cs.take 400).take i)
    have hi2 := hi
    rw [List.length_take] at hi2
    rw [List.length_take] at d2
    unfold impl_DoCmds_l1 impl_DoCmds_L1
    simp only [List.length_map, at_map _ hi, dlt hi, d0, Bool.and_self, chk_true, cond_true, Int.toNat_natCast, List.getD_cons_zero, List.getD_cons_succ, T.asI_i, T.asR_r]
    have hci : (cs.take 400)[i].w ≤ Big := by rw [List.getElem_take]; exact hw i (by omega)
    rw [doCmd_i g _ (cs.take 400)[i] (by omega) hci k (by omega), bindO_some]
    simp only [Outs.t_mk, List.getD_cons_zero, List.getD_cons_succ, T.asI_i, T.asR_r]
    rw [chk_ok (by simp; omega), wrap_up (by omega)]
    simp only [doAll_up g l (cs.take 400) hi, List.map_append] at hG
    exact hG
  · unfold impl_DoCmds_l1 impl_DoCmds_L1
    simp only [List.length_map, dll, cond_false, List.take_length]; rfl
theorem doAll_vals (g : Geo) : ∀ (l : List Int) (cs : List Cmd), ∀ a ∈ (doAll g l cs).2, a.Vals.length ≤ l.length
  | l, [], a, ha => by cases ha
  | l, c :: cs, a, ha => by
    unfold doAll at ha
    rcases List.mem_cons.1 ha with rfl | ha
    · unfold doC doGood
      cases (l.length : Int) != blocks g
      · cases cmdCode g c != 0
        · cases c.Op == 1
          · cases c.Op == 2 || c.Op == 3
            · cases c.Op == 6
              · cases c.Op == 5
                · simp
                · simp only [cond_true, cond_false]
                  cases l.getD c.Lba.toNat 0 == c.Vals.getD 0 0 <;> simp
              · simp
            · simp
          · simp; omega
        · simp
      · simp
    · have := doAll_vals g _ cs a ha
      rw [doC_len] at this; exact this

/-! ### What follows -/
def follows (g : Geo) (l : List Int) (t : List Turn) : Bool := bif decide (t.length ≤ 400) then allN t.length (fun i => sameAns ((doCs g l (t.map Turn.C)).2.getD i default) (t.getD i default).A) else false
theorem cs_w {t : List Turn} (h : wL Turn.w t ≤ Big) : ∀ i (hi : i < (t.map Turn.C).length), (t.map Turn.C)[i].w ≤ Big := fun i hi => by
  rw [List.getElem_map]; exact (turn_w h (by simpa using hi)).1
theorem follows_s (g : Geo) (l : List Int) (t : List Turn) (hl : l.length ≤ Big) (h : wL Turn.w t ≤ Big) : Rn 8 N.spec_Follows [.v g.e, .v [.r (eIs l)], .v [.r (eTurns t)]] ⟨[.b (follows g l t)], []⟩ := by
  refine Rn.of fun k hk => ?_
  rw [spec_Follows_e]; unfold spec_Follows_u spec_Follows_U follows
  have hB : Big = 4294967296 := rfl
  have ht := wL_len Turn.w t
  rw [cmdsOf_s t h k (by omega), bindO_some]
  simp only [Outs.t_mk, List.getD_cons_zero, T.asR_r]
  rw [doCmds_s g l (t.map Turn.C) hl (by simp; omega) (cs_w h) k (by omega), bindO_some]
  cases h4 : decide (t.length ≤ 400)
  · have h4 := of_decide_eq_false h4
    obtain ⟨k', rfl⟩ : ∃ m, k = m + 1 := ⟨k - 1, by omega⟩
    show spec_Follows_l1 _ _ _ _ _ = _
    unfold spec_Follows_l1 spec_Follows_L1 spec_Follows_J1
    simp only [List.length_map]
    rw [decide_eq_true (by omega), decide_eq_false (by omega)]; rfl
  · have h4 := of_decide_eq_true h4
    have hlen : (doCs g l (t.map Turn.C)).2.length = t.length := by
      unfold doCs; rw [(doAll_len g l _).2, List.length_take, List.length_map]; omega
    refine (allN_loop t.length _ (some ⟨[.b true], []⟩) (by omega) (fun i hi G => ?_) (fun G => ?_) (by omega)).trans ((bifB _ _).trans (by rw [Bool.and_true]; rfl))
    · unfold spec_Follows_l1 spec_Follows_L1 spec_Follows_J1
      have hi' : i < (doCs g l (t.map Turn.C)).2.length := by omega
      simp only [Outs.t_mk, List.length_map, at_map _ hi, at_map _ hi', dlt hi, dlt hi', d0, Bool.and_self, chk_true, cond_true, Int.toNat_natCast, List.getD_cons_zero, List.getD_cons_succ, T.asI_i, T.asR_r]
      have hv := doAll_vals g l _ _ (List.getElem_mem hi')
      rw [decide_eq_true (by omega), cond_true, sameAns_s (doCs g l (t.map Turn.C)).2[i] t[i].A (by omega) k (by omega), bindO_some, getD_at hi', getD_at hi]
      exact bifN _ _ _
    · unfold spec_Follows_l1 spec_Follows_L1 spec_Follows_J1
      simp only [List.length_map, dll, cond_false]
      rw [decide_eq_true (by omega)]
theorem follows_i (g : Geo) (l : List Int) (t : List Turn) (hl : l.length ≤ Big) (h : wL Turn.w t ≤ Big) : Rn 10 N.impl_Follows [.v g.e, .v [.r (eIs l)], .v [.r (eTurns t)]] ⟨[.b (follows g l t)], []⟩ := by
  refine Rn.of fun k hk => ?_
  rw [impl_Follows_e]; unfold impl_Follows_u follows
  have hB : Big = 4294967296 := rfl
  have ht := wL_len Turn.w t
  rw [List.length_map]
  cases h4 : decide (t.length ≤ 400)
  · have h4 := of_decide_eq_false h4
    rw [decide_eq_true (by omega)]; rfl
  · have h4 := of_decide_eq_true h4
    rw [decide_eq_false (by omega), cond_false, cond_true, cmdsOf_i t h k (by omega), bindO_some]
    simp only [Outs.t_mk, List.getD_cons_zero, T.asR_r]
    rw [doCmds_i g l (t.map Turn.C) hl (by simp; omega) (cs_w h) k (by omega), bindO_some, ansOf_i t h k (by omega), bindO_some]
    simp only [Outs.t_mk, List.getD_cons_zero, List.getD_cons_succ, T.asR_r]
    have hlen : (doCs g l (t.map Turn.C)).2.length = t.length := by
      unfold doCs; rw [(doAll_len g l _).2, List.length_take, List.length_map]; omega
    have key : Rn 5 N.slices_EqualFunc_impl_Ans_impl_Ans_impl_Ans_impl_Ans [.v [.r (eAnss (doCs g l (t.map Turn.C)).2)], .v [.r (eAnss (t.map Turn.A))], .c N.impl_SameAns none] ⟨[.b (allN t.length (fun i => sameAns ((doCs g l (t.map Turn.C)).2.getD i default) (t.getD i default).A))], []⟩ := by
      refine Rn.of fun k hk => ?_
      rw [slices_EqualFunc_impl_Ans_impl_Ans_impl_Ans_impl_Ans_e]; unfold slices_EqualFunc_impl_Ans_impl_Ans_impl_Ans_impl_Ans_u slices_EqualFunc_impl_Ans_impl_Ans_impl_Ans_impl_Ans_U
      simp only [List.length_map, hlen, lenB, beq_self_eq_true, Bool.not_true, cond_false]
      refine (allN_loop t.length _ (some ⟨[.b true], []⟩) (by omega) (fun i hi G => ?_) (fun G => ?_) (by omega)).trans ((bifB _ _).trans (by rw [Bool.and_true]))
      · unfold slices_EqualFunc_impl_Ans_impl_Ans_impl_Ans_impl_Ans_l1 slices_EqualFunc_impl_Ans_impl_Ans_impl_Ans_impl_Ans_L1
        have hi' : i < (doCs g l (t.map Turn.C)).2.length := by omega
        have hi2 : i < (t.map Turn.A).length := by simpa using hi
        simp only [Outs.t_mk, at_map _ hi2, at_map _ hi', List.length_map, hlen, dlt hi, d0, Bool.and_self, chk_true, cond_true, Int.toNat_natCast, List.getD_cons_zero, List.getD_cons_succ, T.asI_i, T.asR_r, List.getElem_map]
        have hv := doAll_vals g l _ _ (List.getElem_mem hi')
        rw [sameAns_i (doCs g l (t.map Turn.C)).2[i] t[i].A (by omega) k (by omega), bindO_some, getD_at hi', getD_at hi]
        exact bifN _ _ _
      · unfold slices_EqualFunc_impl_Ans_impl_Ans_impl_Ans_impl_Ans_l1 slices_EqualFunc_impl_Ans_impl_Ans_impl_Ans_impl_Ans_L1
        simp only [List.length_map, hlen, dll, cond_false]
    rw [key k (by omega)]; rfl
end Go.Proofs.Ytahlghlpdcfbgaa.Ev
