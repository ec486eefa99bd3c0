/- Disks told as text. No condition. -/
import Derived.Test.YtffloigfgjoimaaQc
namespace Go.Proofs.Ytffloigfgjoimaa.Ev
open Go
set_option linter.unusedVariables false
set_option linter.unusedSimpArgs false
set_option maxHeartbeats 1000000

def diskCh (a : Arr) (i : Nat) : ByteArray :=
  bif (a.Mems.getD i default).Failed then ByteArray.mk #[120] else bif a.Lost == (i : Int) then ByteArray.mk #[111] else bif spoilt (a.Mems.getD i default) then ByteArray.mk #[33] else ByteArray.mk #[46]
def disksText (a : Arr) : Nat → ByteArray
  | 0 => ByteArray.mk #[]
  | i + 1 => disksText a i ++ diskCh a i
theorem diskCh_size (a : Arr) (i : Nat) : (diskCh a i).size = 1 := by
  unfold diskCh
  cases (a.Mems.getD i default).Failed <;> cases a.Lost == (i : Int) <;> cases spoilt (a.Mems.getD i default) <;> rfl
theorem disksText_size (a : Arr) : ∀ i, (disksText a i).size = i
  | 0 => rfl
  | i + 1 => by unfold disksText; rw [ByteArray.size_append, disksText_size a i, diskCh_size]
theorem size1 (c : UInt8) : (ByteArray.mk #[c]).size = 1 := rfl
theorem disks_i (a : Arr) (h : a.w ≤ Big) : Rn 5 N.impl_DisksText [.v a.e] ⟨[.s (disksText a a.Mems.length)], []⟩ := by
  refine Rn.of fun k hk => ?_
  rw [impl_DisksText_e]; unfold impl_DisksText_u impl_DisksText_U
  obtain ⟨l1, l2⟩ := mems_len a h
  refine fixN_up (R := Outs) a.Mems.length (fun i => (disksText a i, (i : Int))) (fun _ => some ⟨[.s (disksText a a.Mems.length)], []⟩) (fun i hi G hG => ?_) (fun G => ?_) (by unfold Big at hk; omega)
  · have hsz := disksText_size a i
    unfold impl_DisksText_l1 impl_DisksText_L1
    simp only [List.length_map, at_map _ hi, dlt hi, d0, Bool.and_self, chk_true, cond_true, Int.toNat_natCast, List.getD_cons_zero, List.getD_cons_succ, T.asI_i, T.asR_r, T.asB_b, size1, hsz]
    rw [spoilt_i _ (mems_w a hi h) k (by omega), bindO_some, wrap_up (by omega), chk_ok (Nat.ble_eq_true_of_le (by omega)), chk_ok (Nat.ble_eq_true_of_le (by omega)), chk_ok (Nat.ble_eq_true_of_le (by omega)), chk_ok (Nat.ble_eq_true_of_le (by omega))]
    simp only [Outs.t_mk, List.getD_cons_zero, T.asB_b]
    rw [show disksText a (i + 1) = disksText a i ++ diskCh a i from rfl] at hG
    unfold diskCh at hG
    rw [getD_at hi] at hG
    cases h1 : a.Mems[i].Failed <;> cases h2 : a.Lost == (i : Int) <;> cases h3 : spoilt a.Mems[i] <;> rw [h1, h2, h3] at hG <;> exact hG
  · unfold impl_DisksText_l1 impl_DisksText_L1
    simp only [List.length_map, dll, cond_false]
theorem disks_s (a : Arr) (h : a.w ≤ Big) : Rn 5 N.spec_DisksText [.v a.e] ⟨[.s (disksText a a.Mems.length)], []⟩ := by
  refine Rn.of fun k hk => ?_
  rw [spec_DisksText_e]; unfold spec_DisksText_u spec_DisksText_U
  obtain ⟨l1, l2⟩ := mems_len a h
  refine fixN_up (R := Outs) a.Mems.length (fun i => (disksText a i, (i : Int))) (fun _ => some ⟨[.s (disksText a a.Mems.length)], []⟩) (fun i hi G hG => ?_) (fun G => ?_) (by unfold Big at hk; omega)
  · have hsz := disksText_size a i
    have hbl := bad_len _ (mems_w a hi h)
    unfold spec_DisksText_l1 spec_DisksText_L1
    simp only [List.length_map, dlt hi, cond_true]
    refine fixN_up (R := Outs) a.Mems[i].Bad.length (fun j => ((a.Mems[i].Bad.take j).any (fun x => decide (x ≥ 6)), (j : Int))) (fun _ => some ⟨[.s (disksText a a.Mems.length)], []⟩) (fun j hj G' hG' => ?_) (fun G' => ?_) (by unfold Big at hk; omega)
    · unfold spec_DisksText_l2 spec_DisksText_L2
      simp only [List.length_map, at_map _ hi, at_map _ hj, dlt hi, dlt hj, d0, Bool.and_self, chk_true, cond_true, Int.toNat_natCast, List.getD_cons_zero, List.getD_cons_succ, T.asI_i, T.asR_r]
      rw [dataAt_s 0 k (by omega), bindO_some, wrap_up (by omega)]
      rw [List.take_succ_eq_append_getElem hj, List.any_append, List.any_cons, List.any_nil, Bool.or_false] at hG'
      cases hb : (a.Mems[i].Bad.take j).any (fun x => decide (x ≥ 6)) <;> rw [hb] at hG' <;> exact hG'
    · unfold spec_DisksText_l2 spec_DisksText_L2
      simp only [List.length_map, at_map _ hi, dlt hi, d0, Bool.and_self, chk_true, Int.toNat_natCast, List.getD_cons_zero, List.getD_cons_succ, T.asR_r, T.asB_b, dll, cond_false, size1, hsz, List.take_length]
      rw [wrap_up (by omega), chk_ok (Nat.ble_eq_true_of_le (by omega)), chk_ok (Nat.ble_eq_true_of_le (by omega)), chk_ok (Nat.ble_eq_true_of_le (by omega)), chk_ok (Nat.ble_eq_true_of_le (by omega))]
      have e : ((i : Int) == a.Lost) = (a.Lost == (i : Int)) := by rw [Bool.eq_iff_iff]; simp only [beq_iff_eq]; exact eq_comm
      rw [e]
      rw [show disksText a (i + 1) = disksText a i ++ diskCh a i from rfl] at hG
      unfold diskCh spoilt at hG
      rw [getD_at hi] at hG
      cases h1 : a.Mems[i].Failed <;> cases h2 : a.Lost == (i : Int) <;> cases h3 : a.Mems[i].Bad.any (fun x => decide (x ≥ 6)) <;> rw [h1, h2, h3] at hG <;> exact hG
  · unfold spec_DisksText_l1 spec_DisksText_L1
    simp only [List.length_map, dll, cond_false]
theorem FnExactDisksText_r (x : Arr) (hx : x.Fit) : Rn 20 N.laws_FnExactDisksText [.v x.e] ⟨[.b true], []⟩ := by
  refine Rn.of fun k hk => ?_
  rw [laws_FnExactDisksText_e]; unfold laws_FnExactDisksText_u
  rw [szArr_r x hx _ (by omega) (by omega) k (by omega), bindO_some]
  simp only [Outs.t_mk, List.getD_cons_zero, T.asI_i]
  by_cases hs : (1048576 : Int) < (x.w : Int)
  · rw [szA_neg hs]; rfl
  rw [szA_pos (by omega), decide_eq_false (by omega), cond_false]
  have hw : x.w ≤ 1048576 := by omega
  have hb : x.w ≤ Big := by unfold Big; omega
  rw [toArr_r x hw k (by omega)]
  simp only [bindO_some, Outs.t_mk, List.getD_cons_zero, List.getD_cons_succ, T.asI_i, T.asR_r, T.asB_b]
  rw [disks_s x hb k (by omega), disks_i x hb k (by omega), eqArr_r x hw k (by omega)]
  simp [bindO_some]
end Go.Proofs.Ytffloigfgjoimaa.Ev
