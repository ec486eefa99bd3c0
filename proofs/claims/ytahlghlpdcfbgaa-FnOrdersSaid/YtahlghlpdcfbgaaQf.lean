/- Answers and commands of what was done, and what is behind it: the exact laws. No condition. -/
import Derived.Test.YtahlghlpdcfbgaaQe
namespace Go.Proofs.Ytahlghlpdcfbgaa.Ev
open Go
set_option linter.unusedVariables false
set_option linter.unusedSimpArgs false
set_option maxHeartbeats 1000000

theorem copyAns_s (x : Ans) (h : x.w ≤ Big) : Rn 1 N.spec_l15Ans [.v x.e] ⟨x.e, []⟩ := by
  refine Rn.of fun k hk => ?_
  have hv : x.Vals.length ≤ 4294967296 := h
  rw [spec_l15Ans_e]; unfold spec_l15Ans_u
  rw [chk_ok (by simp; omega)]; rfl
theorem ansOf_s (l : List Turn) (h : wL Turn.w l ≤ Big) : Rn 3 N.spec_AnsOf [.v [.r (eTurns l)]] ⟨[.r (eAnss (l.map Turn.A))], []⟩ := by
  refine Rn.of fun k hk => ?_
  rw [spec_AnsOf_e]; unfold spec_AnsOf_u spec_AnsOf_U
  have hl := wL_len Turn.w l
  have hB : Big = 4294967296 := rfl
  refine fixN_up (R := Outs) l.length (fun i => ((i : Int), eAnss ((l.take i).map Turn.A))) (fun _ => some ⟨[.r (eAnss (l.map Turn.A))], []⟩) (fun i hi G hG => ?_) (fun G => ?_) (by omega)
  · unfold spec_AnsOf_l1 spec_AnsOf_L1
    simp only [List.length_map, at_map _ hi, dlt hi, d0, Bool.and_self, chk_true, cond_true, Int.toNat_natCast, List.getD_cons_zero, List.getD_cons_succ, T.asI_i, T.asR_r]
    rw [copyAns_s l[i].A (turn_w h hi).2 k (by omega), bindO_some]
    simp only [Outs.t_mk, List.getD_cons_zero, List.getD_cons_succ, T.asI_i, T.asR_r]
    rw [chk_ok (by simp; omega), wrap_up (by omega)]
    rw [take_up Turn.A l hi, show ∀ x y : List Ans, eAnss (x ++ y) = eAnss x ++ eAnss y from fun _ _ => List.map_append] at hG
    exact hG
  · unfold spec_AnsOf_l1 spec_AnsOf_L1
    simp only [List.length_map, dll, cond_false, List.take_length]
theorem sum_cnt {α : Type} (cnt w : α → Nat) (q : Nat) (h : ∀ x, cnt x = q + w x) (l : List α) : (l.map cnt).sum = q * l.length + (l.map w).sum := by
  induction l with
  | nil => rfl
  | cons x l ih => simp only [List.map_cons, List.sum_cons, List.length_cons, ih, h, Nat.mul_add, Nat.mul_one]; omega
theorem Turn.cn_w (x : Turn) : Turn.cn x = 6 + Turn.w x := by
  have h1 := sum_cn x.C.Vals
  have h2 := sum_cn x.A.Vals
  have h3 : Turn.cn x = 6 + (x.C.Vals.map Int.cn).sum + (x.A.Vals.map Int.cn).sum := rfl
  have h4 : Turn.w x = x.C.Vals.length + x.A.Vals.length := rfl
  omega
theorem Ans.cn_w (x : Ans) : Ans.cn x = 2 + Ans.w x := by
  have h1 := sum_cn x.Vals
  have h3 : Ans.cn x = 2 + (x.Vals.map Int.cn).sum := rfl
  have h4 : Ans.w x = x.Vals.length := rfl
  omega
theorem Cmd.cn_w (x : Cmd) : Cmd.cn x = 4 + Cmd.w x := by
  have h1 := sum_cn x.Vals
  have h3 : Cmd.cn x = 4 + (x.Vals.map Int.cn).sum := rfl
  have h4 : Cmd.w x = x.Vals.length := rfl
  omega
theorem turns_a (l : List Turn) : wL Ans.w (l.map Turn.A) ≤ wL Turn.w l := by
  unfold wL
  rw [List.length_map]
  induction l with
  | nil => exact Nat.le_refl _
  | cons x l ih =>
    have h : Turn.w x = x.C.w + x.A.w := rfl
    simp only [List.map_cons, List.sum_cons, List.length_cons] at ih ⊢
    omega
theorem turns_c (l : List Turn) : wL Cmd.w (l.map Turn.C) ≤ wL Turn.w l := by
  unfold wL
  rw [List.length_map]
  induction l with
  | nil => exact Nat.le_refl _
  | cons x l ih =>
    have h : Turn.w x = x.C.w + x.A.w := rfl
    simp only [List.map_cons, List.sum_cons, List.length_cons] at ih ⊢
    omega
theorem cnt_ok {α : Type} {cnt w : α → Nat} {q : Nat} (h : ∀ x, cnt x = q + w x) (hq : q ≤ 100) {l : List α} (hl : wL w l ≤ 1048576) : (l.map cnt).sum ≤ 1073741824 := by
  rw [sum_cnt cnt w q h l]
  have h1 : l.length ≤ 1048576 := Nat.le_trans (wL_len w l) hl
  have h2 : (l.map w).sum ≤ 1048576 := Nat.le_trans (Nat.le_add_left _ _) hl
  have h3 : q * l.length ≤ 100 * 1048576 := Nat.mul_le_mul hq h1
  omega
theorem dpos {n : Nat} {a : Int} (h : 0 ≤ a) : decide (a + (n : Int) < 0) = false := decide_eq_false (by omega)
theorem FnExactAnsOf_r (x : List Turn) (hx : LF Turn.Fit x) : Rn 20 N.laws_FnExactAnsOf [.v [.r (eTurns x)]] ⟨[.b true], []⟩ := by
  refine Rn.of fun k hk => ?_
  rw [laws_FnExactAnsOf_e]; unfold laws_FnExactAnsOf_u
  rw [szTurnS_r x hx _ (by omega) (by omega) k (by omega), bindO_some]
  simp only [Outs.t_mk, List.getD_cons_zero, T.asI_i]
  by_cases hs : (1048576 : Int) < (wL Turn.w x : Int)
  · rw [szA_neg hs]; rfl
  rw [szA_pos (by omega), decide_eq_false (by omega), cond_false]
  have hw : wL Turn.w x ≤ 1048576 := by omega
  have hb : wL Turn.w x ≤ Big := by unfold Big; omega
  have ha := turns_a x
  have hB : Big = 4294967296 := rfl
  have c1 := cnt_ok Turn.cn_w (by omega) hw
  have c2 := cnt_ok Ans.cn_w (by omega) (show wL Ans.w (x.map Turn.A) ≤ 1048576 by omega)
  have t1 := toTurnS_r x hw k (by omega)
  have t2 := ansOf_s x hb k (by omega)
  have t3 := ansOf_i x hb k (by omega)
  have t4 := eqAnsS_r (x.map Turn.A) (by omega) k (by omega)
  have t5 := eqTurnS_r x hw k (by omega)
  have t6 := markTurnS_r x 1 (by omega) (by omega) hb k (by omega)
  have t7 := markAnsS_r (x.map Turn.A) 1 (by omega) (by omega) (by omega) k (by omega)
  have t8 := heldAnsS_r (x.map Turn.A) 1 (by omega) (by omega) (by omega) k (by omega)
  have z1 : (0 : Int) ≤ 1 := by omega
  unfold laws_FnExactAnsOf_J1
  simp only [t1, t2, t3, t4, t5, t6, t7, t8, dpos z1, bindO_some, Outs.t_mk, Outs.vt_mk, List.getD_cons_zero, List.getD_cons_succ, T.asI_i, T.asR_r, T.asB_b, Bool.not_true, cond_false, bne_self_eq_false]
theorem FnExactCmdsOf_r (x : List Turn) (hx : LF Turn.Fit x) : Rn 20 N.laws_FnExactCmdsOf [.v [.r (eTurns x)]] ⟨[.b true], []⟩ := by
  refine Rn.of fun k hk => ?_
  rw [laws_FnExactCmdsOf_e]; unfold laws_FnExactCmdsOf_u
  rw [szTurnS_r x hx _ (by omega) (by omega) k (by omega), bindO_some]
  simp only [Outs.t_mk, List.getD_cons_zero, T.asI_i]
  by_cases hs : (1048576 : Int) < (wL Turn.w x : Int)
  · rw [szA_neg hs]; rfl
  rw [szA_pos (by omega), decide_eq_false (by omega), cond_false]
  have hw : wL Turn.w x ≤ 1048576 := by omega
  have hb : wL Turn.w x ≤ Big := by unfold Big; omega
  have ha := turns_c x
  have hB : Big = 4294967296 := rfl
  have c1 := cnt_ok Turn.cn_w (by omega) hw
  have c2 := cnt_ok Cmd.cn_w (by omega) (show wL Cmd.w (x.map Turn.C) ≤ 1048576 by omega)
  have t1 := toTurnS_r x hw k (by omega)
  have t2 := cmdsOf_s x hb k (by omega)
  have t3 := cmdsOf_i x hb k (by omega)
  have t4 := eqCmdS_r (x.map Turn.C) (by omega) k (by omega)
  have t5 := eqTurnS_r x hw k (by omega)
  have t6 := markTurnS_r x 1 (by omega) (by omega) hb k (by omega)
  have t7 := markCmdS_r (x.map Turn.C) 1 (by omega) (by omega) (by omega) k (by omega)
  have t8 := heldCmdS_r (x.map Turn.C) 1 (by omega) (by omega) (by omega) k (by omega)
  have z1 : (0 : Int) ≤ 1 := by omega
  unfold laws_FnExactCmdsOf_J1
  simp only [t1, t2, t3, t4, t5, t6, t7, t8, dpos z1, bindO_some, Outs.t_mk, Outs.vt_mk, List.getD_cons_zero, List.getD_cons_succ, T.asI_i, T.asR_r, T.asB_b, Bool.not_true, cond_false, bne_self_eq_false]
theorem after_s (g : Geo) (l : List Int) (t : List Turn) (hl : l.length ≤ Big) (h : wL Turn.w t ≤ Big) : Rn 8 N.spec_After [.v g.e, .v [.r (eIs l)], .v [.r (eTurns t)]] ⟨[.r (eIs (doCs g l (t.map Turn.C)).1)], []⟩ := by
  refine Rn.of fun k hk => ?_
  have ht := wL_len Turn.w t
  rw [spec_After_e]; unfold spec_After_u
  rw [cmdsOf_s t h k (by omega), bindO_some]
  simp only [Outs.t_mk, List.getD_cons_zero, T.asR_r]
  rw [doCmds_s g l (t.map Turn.C) hl (by simp; omega) (cs_w h) k (by omega), bindO_some]; rfl
theorem after_i (g : Geo) (l : List Int) (t : List Turn) (hl : l.length ≤ Big) (h : wL Turn.w t ≤ Big) : Rn 10 N.impl_After [.v g.e, .v [.r (eIs l)], .v [.r (eTurns t)]] ⟨[.r (eIs (doCs g l (t.map Turn.C)).1)], []⟩ := by
  refine Rn.of fun k hk => ?_
  have ht := wL_len Turn.w t
  rw [impl_After_e]; unfold impl_After_u
  rw [cmdsOf_i t h k (by omega), bindO_some]
  simp only [Outs.t_mk, List.getD_cons_zero, T.asR_r]
  rw [doCmds_i g l (t.map Turn.C) hl (by simp; omega) (cs_w h) k (by omega), bindO_some]; rfl
theorem FnExactAfter_r (g : Geo) (hg : g.Fit) (l : List Int) (hl : LF inI l) (t : List Turn) (ht : LF Turn.Fit t) : Rn 20 N.laws_FnExactAfter [.v g.e, .v [.r (eIs l)], .v [.r (eTurns t)]] ⟨[.b true], []⟩ := by
  refine Rn.of fun k hk => ?_
  rw [laws_FnExactAfter_e]; unfold laws_FnExactAfter_u
  rw [List.length_map]
  by_cases h0 : l.length > 1048576
  · rw [decide_eq_true (by omega)]; rfl
  rw [decide_eq_false (by omega), cond_false, szTurnS_r t ht _ (by omega) (by omega) k (by omega), bindO_some]
  simp only [Outs.t_mk, List.getD_cons_zero, T.asI_i]
  by_cases hs : (1048576 : Int) < (wL Turn.w t : Int)
  · rw [szA_neg hs]; rfl
  rw [szA_pos (by omega), decide_eq_false (by omega), cond_false]
  have hw : wL Turn.w t ≤ 1048576 := by omega
  have hb : wL Turn.w t ≤ Big := by unfold Big; omega
  have hlb : l.length ≤ Big := by unfold Big; omega
  have hB : Big = 4294967296 := rfl
  have c1 := cnt_ok Turn.cn_w (by omega) hw
  have c2 := sum_cn l
  have hd : (doCs g l (t.map Turn.C)).1.length = l.length := (doAll_len g l _).1
  have c3 := sum_cn (doCs g l (t.map Turn.C)).1
  have t0 := toGeo_r g k (by omega)
  have t1 := toIntS_r l (by omega) k (by omega)
  have t2 := toTurnS_r t hw k (by omega)
  have t3 := after_s g l t hlb hb k (by omega)
  have t4 := after_i g l t hlb hb k (by omega)
  have t5 := eqIntS_r l (by omega) k (by omega)
  have t6 := eqTurnS_r t hw k (by omega)
  have t7 := eqIntS_r (doCs g l (t.map Turn.C)).1 (by omega) k (by omega)
  have t8 := markIntS_r l 1 (by omega) (by omega) hlb k (by omega)
  have t9 := markTurnS_r t (1 + ((l.map Int.cn).sum : Nat)) (by omega) (by omega) hb k (by omega)
  have ta := markIntS_r (doCs g l (t.map Turn.C)).1 1 (by omega) (by omega) (by omega) k (by omega)
  have tb := heldIntS_r (doCs g l (t.map Turn.C)).1 1 (by omega) (by omega) (by omega) k (by omega)
  have z1 : (0 : Int) ≤ 1 := by omega
  have z2 : (0 : Int) ≤ 1 + ((l.map Int.cn).sum : Nat) := by omega
  unfold laws_FnExactAfter_J1
  simp only [t0, t1, t2, t3, t4, t5, t6, t7, t8, t9, ta, tb, dpos z1, dpos z2, bindO_some, Outs.t_mk, Outs.vt_mk, List.getD_cons_zero, List.getD_cons_succ, T.asI_i, T.asR_r, T.asB_b, Bool.not_true, cond_false, bne_self_eq_false]
end Go.Proofs.Ytahlghlpdcfbgaa.Ev
