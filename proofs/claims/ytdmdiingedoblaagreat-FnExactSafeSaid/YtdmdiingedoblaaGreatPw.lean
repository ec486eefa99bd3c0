/- Whether an engine is safe. No condition. -/
import Derived.Test.YtdmdiingedoblaaGreatPv
namespace Go.Proofs.YtdmdiingedoblaaGreat.Ev
open Go
set_option linter.unusedVariables false
set_option linter.unusedSimpArgs false
set_option maxHeartbeats 1000000

def xorAt (a : Arr) (s : Int) : Int × Bool := bif allN a.Mems.length (okAt a s) then (xN (sumX (wAt a s) a.Mems.length), true) else (0, false)
theorem xorAt_i (a : Arr) (h : a.w ≤ Big) (s : Int) : Rn 9 N.impl_XorAt [.v a.e, .v [.i s]] ⟨[.i (xorAt a s).1, .b (xorAt a s).2], []⟩ := by
  refine Rn.of fun k hk => ?_
  rw [impl_XorAt_e]; unfold impl_XorAt_u impl_XorAt_U xorAt
  obtain ⟨l1, l2⟩ := mems_len a h
  refine (early a.Mems.length (okAt a s) (fun i => ((i : Int), eIs (mapN (wAt a s) i))) (some ⟨[.i 0, .b false], []⟩) (some ⟨[.i (xN (sumX (wAt a s) a.Mems.length)), .b true], []⟩) (fun i hi G => ?_) (fun G => ?_) (by unfold Big at hk; omega)).trans ?_
  · unfold impl_XorAt_l1 impl_XorAt_L1
    simp only [List.length_map, dlt hi, cond_true]
    rw [wordAt_i a h i hi s k (by omega), bindO_some]
    simp only [Outs.t_mk, List.getD_cons_zero, List.getD_cons_succ, T.asI_i, T.asB_b]
    rw [chk_ok (by simp [mapN_len]; omega), wrap_up (by omega), show (wordAt a i s).1 = wAt a s i from rfl, mapN_up, show (wordAt a i s).2 = okAt a s i from rfl]
    cases okAt a s i <;> rfl
  · unfold impl_XorAt_l1 impl_XorAt_L1
    simp only [List.length_map, dll, cond_false]
    rw [xorOf_i _ (by rw [mapN_len]; exact l1) k (by omega), bindO_some, mapN_len]
    rw [sumX_congr (g := wAt a s) a.Mems.length fun i hi => mapN_get hi 0]; rfl
  · cases allN a.Mems.length (okAt a s) <;> rfl
theorem xorAt_s (a : Arr) (h : a.w ≤ Big) (s : Int) : Rn 9 N.spec_XorAt [.v a.e, .v [.i s]] ⟨[.i (xorAt a s).1, .b (xorAt a s).2], []⟩ := by
  refine Rn.of fun k hk => ?_
  rw [spec_XorAt_e]; unfold spec_XorAt_u spec_XorAt_U xorAt
  obtain ⟨l1, l2⟩ := mems_len a h
  refine (early a.Mems.length (okAt a s) (fun i => (xN (sumX (wAt a s) i), (i : Int))) (some ⟨[.i 0, .b false], []⟩) (some ⟨[.i (xN (sumX (wAt a s) a.Mems.length)), .b true], []⟩) (fun i hi G => ?_) (fun G => ?_) (by unfold Big at hk; omega)).trans ?_
  · unfold spec_XorAt_l1 spec_XorAt_L1
    simp only [List.length_map, dlt hi, cond_true]
    rw [wordAt_s a h i hi s k (by omega), bindO_some]
    simp only [Outs.t_mk, List.getD_cons_zero, List.getD_cons_succ, T.asI_i, T.asB_b]
    rw [wrap_up (by omega), bitsXor_x, show (wordAt a i s).1 = wAt a s i from rfl, show (wordAt a i s).2 = okAt a s i from rfl]
    cases okAt a s i <;> rfl
  · unfold spec_XorAt_l1 spec_XorAt_L1
    simp only [List.length_map, dll, cond_false]
  · cases allN a.Mems.length (okAt a s) <;> rfl
def even (a : Arr) : Bool := allN a.G.S.toNat fun s => !((xorAt a s).2 && ((xorAt a s).1 != 0))
theorem even_i (a : Arr) (h : a.w ≤ Big) (hg : geoOk a.G = true) : Rn 10 N.impl_Even [.v a.e] ⟨[.b (even a)], []⟩ := by
  refine Rn.of fun k hk => ?_
  rw [impl_Even_e]; unfold impl_Even_u impl_Even_U even
  obtain ⟨_, _, _, _⟩ := geoOk_t hg
  refine (allN_loop a.G.S.toNat _ (some ⟨[.b true], []⟩) (by omega) (fun i hi G => ?_) (fun G => ?_) (by unfold Big at hk; omega)).trans ((bifB _ _).trans (by rw [Bool.and_true]))
  · unfold impl_Even_l1 impl_Even_L1 impl_Even_J1
    rw [decide_eq_true (by omega), cond_true, decide_eq_true (by omega), cond_true, xorAt_i a h i k (by omega), bindO_some]
    simp only [Outs.t_mk, List.getD_cons_zero, List.getD_cons_succ, T.asI_i, T.asB_b]
    cases (xorAt a i).2
    · rfl
    · cases (xorAt a i).1 != 0 <;> rfl
  · unfold impl_Even_l1 impl_Even_L1 impl_Even_J1
    rw [decide_eq_false (by omega)]; rfl
theorem even_s (a : Arr) (h : a.w ≤ Big) (hg : geoOk a.G = true) : Rn 10 N.spec_Even [.v a.e] ⟨[.b (even a)], []⟩ := by
  refine Rn.of fun k hk => ?_
  rw [spec_Even_e]; unfold spec_Even_u spec_Even_U even
  obtain ⟨_, _, _, _⟩ := geoOk_t hg
  refine (allN_loop a.G.S.toNat _ (some ⟨[.b true], []⟩) (by omega) (fun i hi G => ?_) (fun G => ?_) (by unfold Big at hk; omega)).trans ((bifB _ _).trans (by rw [Bool.and_true]))
  · unfold spec_Even_l1 spec_Even_L1 spec_Even_J1
    rw [decide_eq_true (by omega), cond_true, decide_eq_true (by omega), cond_true, xorAt_s a h i k (by omega), bindO_some]
    simp only [Outs.t_mk, List.getD_cons_zero, List.getD_cons_succ, T.asI_i, T.asB_b]
    cases (xorAt a i).2
    · rfl
    · cases (xorAt a i).1 != 0 <;> rfl
  · unfold spec_Even_l1 spec_Even_L1 spec_Even_J1
    rw [decide_eq_false (by omega)]; rfl
def spoilt (m : Dsk) : Bool := m.Bad.any fun x => decide (x ≥ 6)
def anySpoilt (a : Arr) : Bool := a.Mems.any spoilt
theorem bad_len (m : Dsk) (h : m.w ≤ Big) : m.Bad.length ≤ 4294967296 := by unfold Dsk.w Big at h; omega
theorem spoilt_i (m : Dsk) (h : m.w ≤ Big) : Rn 3 N.impl_isSpoilt [.v m.e] ⟨[.b (spoilt m)], []⟩ := by
  refine Rn.of fun k hk => ?_
  rw [impl_isSpoilt_e]; unfold impl_isSpoilt_u impl_isSpoilt_U spoilt
  have hl := bad_len m h
  refine (any_loop (fun x => decide (x ≥ 6)) m.Bad (some ⟨[.b false], []⟩) (by omega) (fun i hi G => ?_) (fun G => ?_) (by unfold Big at hk; omega)).trans (bifTB _)
  · unfold impl_isSpoilt_l1 impl_isSpoilt_L1
    simp only [List.length_map, at_map _ hi, dlt hi, d0, Bool.and_self, chk_true, cond_true, Int.toNat_natCast, List.getD_cons_zero, T.asI_i]
    rw [dataAt_i 0 k (by omega), bindO_some]; rfl
  · unfold impl_isSpoilt_l1 impl_isSpoilt_L1
    simp only [List.length_map, dll, cond_false]
theorem anySpoilt_i (a : Arr) (h : a.w ≤ Big) : Rn 4 N.impl_anySpoilt [.v a.e] ⟨[.b (anySpoilt a)], []⟩ := by
  refine Rn.of fun k hk => ?_
  rw [impl_anySpoilt_e]; unfold impl_anySpoilt_u impl_anySpoilt_U anySpoilt
  obtain ⟨l1, l2⟩ := mems_len a h
  refine (any_loop spoilt a.Mems (some ⟨[.b false], []⟩) (by omega) (fun i hi G => ?_) (fun G => ?_) (by unfold Big at hk; omega)).trans (bifTB _)
  · unfold impl_anySpoilt_l1 impl_anySpoilt_L1
    simp only [List.length_map, at_map _ hi, dlt hi, d0, Bool.and_self, chk_true, cond_true, Int.toNat_natCast, List.getD_cons_zero, List.getD_cons_succ, T.asI_i, T.asR_r, T.asB_b]
    rw [spoilt_i _ (mems_w a hi h) k (by omega), bindO_some]; rfl
  · unfold impl_anySpoilt_l1 impl_anySpoilt_L1
    simp only [List.length_map, dll, cond_false]
theorem anySpoilt_s (a : Arr) (h : a.w ≤ Big) : Rn 4 N.spec_l21Bad [.v a.e] ⟨[.b (anySpoilt a)], []⟩ := by
  refine Rn.of fun k hk => ?_
  rw [spec_l21Bad_e]; unfold spec_l21Bad_u spec_l21Bad_U anySpoilt
  obtain ⟨l1, l2⟩ := mems_len a h
  refine (any_loop spoilt a.Mems (some ⟨[.b false], []⟩) (by omega) (fun i hi G => ?_) (fun G => ?_) (by unfold Big at hk; omega)).trans (bifTB _)
  · unfold spec_l21Bad_l1 spec_l21Bad_L1
    simp only [List.length_map, dlt hi, cond_true]
    have hl := bad_len _ (mems_w a hi h)
    refine (any_loop (fun x => decide (x ≥ 6)) a.Mems[i].Bad (G (IntKind.wrap .i64 ((i : Int) + 1))) (by omega) (fun j hj G' => ?_) (fun G' => ?_) (by unfold Big at hk; omega)).trans rfl
    · unfold spec_l21Bad_l2 spec_l21Bad_L2
      simp only [List.length_map, at_map _ hi, at_map _ hj, dlt hi, dlt hj, d0, Bool.and_self, chk_true, cond_true, Int.toNat_natCast, List.getD_cons_zero, List.getD_cons_succ, T.asI_i, T.asR_r, T.asB_b]
      rw [dataAt_s 0 k (by omega), bindO_some]; rfl
    · unfold spec_l21Bad_l2 spec_l21Bad_L2
      simp only [List.length_map, at_map _ hi, dlt hi, d0, Bool.and_self, chk_true, Int.toNat_natCast, List.getD_cons_zero, List.getD_cons_succ, T.asR_r, dll, cond_false]
  · unfold spec_l21Bad_l1 spec_l21Bad_L1
    simp only [List.length_map, dll, cond_false]
def safe (x : Eng) : Int := bif !engOk x then 1 else bif !apart x then 2 else bif !x.A.Down && !even x.A then 3 else bif !x.A.Down && (!x.A.Broken && (!anySpoilt x.A && !whole x)) then 4 else 0
theorem engOk_geo {x : Eng} (h : engOk x = true) : geoOk x.A.G = true := by
  unfold engOk at h
  simp only [Bool.and_eq_true] at h
  exact (arr_t h.2.1).1
theorem safe_i (x : Eng) (h : x.w ≤ Big) (hf : inI x.A.Seq ∧ inI x.A.Tail) : Rn 14 N.impl_Safe [.v x.e] ⟨[.i (safe x)], []⟩ := by
  refine Rn.of fun k hk => ?_
  rw [impl_Safe_e]; unfold impl_Safe_u impl_Safe_J1 safe
  obtain ⟨l1, l2, l3, l4, hA⟩ := eng_len x h
  rw [engOk_i x h hf k (by omega), apart_i x h k (by omega), anySpoilt_i x.A hA k (by omega), whole_i x h hf k (by omega)]
  simp only [bindO_some, Outs.t_mk, List.getD_cons_zero, T.asB_b]
  cases ho : engOk x
  · rfl
  rw [even_i x.A hA (engOk_geo ho) k (by omega)]
  simp only [bindO_some, Outs.t_mk, List.getD_cons_zero, T.asB_b]
  cases apart x <;> cases x.A.Down <;> cases even x.A <;> cases x.A.Broken <;> cases anySpoilt x.A <;> cases whole x <;> rfl
theorem safe_s (x : Eng) (h : x.w ≤ Big) (hf : inI x.A.Seq ∧ inI x.A.Tail) : Rn 14 N.spec_Safe [.v x.e] ⟨[.i (safe x)], []⟩ := by
  refine Rn.of fun k hk => ?_
  rw [spec_Safe_e]; unfold spec_Safe_u spec_Safe_J1 safe
  obtain ⟨l1, l2, l3, l4, hA⟩ := eng_len x h
  rw [engOk_s x h hf k (by omega), apart_s x h k (by omega), anySpoilt_s x.A hA k (by omega), whole_s x h hf k (by omega)]
  simp only [bindO_some, Outs.t_mk, List.getD_cons_zero, T.asB_b]
  cases ho : engOk x
  · rfl
  rw [even_s x.A hA (engOk_geo ho) k (by omega)]
  simp only [bindO_some, Outs.t_mk, List.getD_cons_zero, T.asB_b]
  cases apart x <;> cases x.A.Down <;> cases even x.A <;> cases x.A.Broken <;> cases anySpoilt x.A <;> cases whole x <;> rfl
theorem FnExactSafe_r (x : Eng) (hx : x.Fit) : Rn 20 N.laws_FnExactSafe [.v x.e] ⟨[.b true], []⟩ := by
  refine Rn.of fun k hk => ?_
  rw [laws_FnExactSafe_e]; unfold laws_FnExactSafe_u
  rw [szEng_r x hx _ (by omega) (by omega) k (by omega), bindO_some]
  simp only [Outs.t_mk, List.getD_cons_zero, T.asI_i]
  by_cases hs : (1048576 : Int) < (x.w : Int)
  · rw [szA_neg hs]; rfl
  rw [szA_pos (by omega), decide_eq_false (by omega), cond_false]
  have hw : x.w ≤ 1048576 := by omega
  have hb : x.w ≤ Big := by unfold Big; omega
  rw [toEng_r x hw k (by omega)]
  simp only [bindO_some, Outs.t_mk, List.getD_cons_zero, List.getD_cons_succ, T.asI_i, T.asR_r, T.asB_b]
  rw [safe_s x hb (Eng.seq hx) k (by omega), safe_i x hb (Eng.seq hx) k (by omega), eqEng_r x hw k (by omega)]
  simp [bindO_some]
end Go.Proofs.YtdmdiingedoblaaGreat.Ev
