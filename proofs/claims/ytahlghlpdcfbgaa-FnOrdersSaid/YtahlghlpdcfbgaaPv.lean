/- What the blocks of an array hold; whether it is whole. No condition. -/
import Derived.Test.YtahlghlpdcfbgaaPu
namespace Go.Proofs.Ytahlghlpdcfbgaa.Ev
open Go
set_option linter.unusedVariables false
set_option linter.unusedSimpArgs false
set_option maxHeartbeats 1000000

/-! ### Where the words of a stripe lie -/
theorem hasStripe_t {g : Geo} {s : Int} (h : hasStripe g s = true) : geoOk g = true ∧ 0 ≤ s ∧ s < g.S := by
  unfold hasStripe at h
  rw [Bool.and_eq_true] at h
  have := within_t h.2
  exact ⟨h.1, this.1, by omega⟩
def parityOf (g : Geo) (s : Int) : Int := bif hasStripe g s then g.N - 1 - s % g.N else -1
theorem parity_w {g : Geo} {s : Int} (h : hasStripe g s = true) : IntKind.wrap .i64 (IntKind.wrap .i64 (g.N - 1) - Int.tmod s g.N) = g.N - 1 - s % g.N ∧ g.N ≠ 0 ∧ 0 ≤ g.N - 1 - s % g.N ∧ g.N - 1 - s % g.N < g.N := by
  obtain ⟨hg, h0, h1⟩ := hasStripe_t h
  obtain ⟨a, b, c, d⟩ := geoOk_t hg
  rw [wrap_id (n := g.N - 1) (by omega) (by omega), Int.tmod_eq_emod_of_nonneg h0]
  have := Int.emod_nonneg s (b := g.N) (by omega)
  have := Int.emod_lt_of_pos s (b := g.N) (by omega)
  exact ⟨wrap_id (by omega) (by omega), by omega, by omega, by omega⟩
theorem parityOf_i (g : Geo) (s : Int) : Rn 4 N.impl_ParityOf [.v g.e, .v [.i s]] ⟨[.i (parityOf g s)], []⟩ := by
  refine Rn.of fun k hk => ?_
  rw [impl_ParityOf_e]; unfold impl_ParityOf_u parityOf
  rw [hasStripe_i _ _ k (by omega), bindO_some]
  cases h : hasStripe g s with
  | false => rfl
  | true => obtain ⟨e, hn, _⟩ := parity_w h; simp [e, hn, chk_true]
def diskOf (g : Geo) (s i : Int) : Int := bif hasStripe g s && within i 0 (g.N - 2) then (parityOf g s + 1 + i) % g.N else -1
theorem disk_w {g : Geo} {s i : Int} (h : hasStripe g s = true) (hi : within i 0 (g.N - 2) = true) : Int.tmod (IntKind.wrap .i64 (IntKind.wrap .i64 (parityOf g s + 1) + i)) g.N = (parityOf g s + 1 + i) % g.N ∧ g.N ≠ 0 := by
  obtain ⟨_, hn, h0, h1⟩ := parity_w h
  obtain ⟨a, b, c, d⟩ := geoOk_t (hasStripe_t h).1
  have := within_t hi
  unfold parityOf
  rw [h, cond_true]
  rw [wrap_id (n := g.N - 1 - s % g.N + 1) (by omega) (by omega), wrap_id (by omega) (by omega), Int.tmod_eq_emod_of_nonneg (by omega)]
  exact ⟨rfl, hn⟩
theorem diskOf_b {g : Geo} {s i : Int} (h : hasStripe g s = true) (hi : within i 0 (g.N - 2) = true) : 0 ≤ diskOf g s i ∧ diskOf g s i < g.N := by
  obtain ⟨a, b, c, d⟩ := geoOk_t (hasStripe_t h).1
  unfold diskOf
  rw [h, hi]
  exact ⟨Int.emod_nonneg _ (by omega), Int.emod_lt_of_pos _ (by omega)⟩
theorem diskOf_i (g : Geo) (s i : Int) : Rn 5 N.impl_DiskOf [.v g.e, .v [.i s], .v [.i i]] ⟨[.i (diskOf g s i)], []⟩ := by
  refine Rn.of fun k hk => ?_
  rw [impl_DiskOf_e]; unfold impl_DiskOf_u diskOf
  rw [hasStripe_i _ _ k (by omega), bindO_some]
  simp only [Outs.t_mk, List.getD_cons_zero, T.asB_b]
  cases h : hasStripe g s
  · rfl
  obtain ⟨a, b, c, d⟩ := geoOk_t (hasStripe_t h).1
  rw [wrap_id (n := g.N - 2) (by omega) (by omega), within_i _ _ _ k (by omega), bindO_some, parityOf_i _ _ k (by omega), bindO_some]
  simp only [Outs.t_mk, List.getD_cons_zero, T.asB_b, T.asI_i]
  cases hi : within i 0 (g.N - 2)
  · rfl
  obtain ⟨e, hn⟩ := disk_w h hi
  simp [e, hn, chk_true]
def indexOf (g : Geo) (b : Int) : Int := bif hasBlock g b then b % (g.N - 1) else -1
theorem index_w {g : Geo} {b : Int} (h : hasBlock g b = true) : Int.tmod b (IntKind.wrap .i64 (g.N - 1)) = b % (g.N - 1) ∧ IntKind.wrap .i64 (g.N - 1) ≠ 0 ∧ 0 ≤ b % (g.N - 1) ∧ b % (g.N - 1) < g.N - 1 := by
  obtain ⟨hg, h0, h1⟩ := hasBlock_t h
  obtain ⟨a, b', c, d⟩ := geoOk_t hg
  rw [wrap_id (n := g.N - 1) (by omega) (by omega), Int.tmod_eq_emod_of_nonneg h0]
  exact ⟨rfl, by omega, Int.emod_nonneg _ (by omega), Int.emod_lt_of_pos _ (by omega)⟩
theorem indexOf_i (g : Geo) (b : Int) : Rn 5 N.impl_IndexOf [.v g.e, .v [.i b]] ⟨[.i (indexOf g b)], []⟩ := by
  refine Rn.of fun k hk => ?_
  rw [impl_IndexOf_e]; unfold impl_IndexOf_u indexOf
  rw [hasBlock_i _ _ k (by omega), bindO_some]
  cases h : hasBlock g b with
  | false => rfl
  | true => obtain ⟨e, hn, _⟩ := index_w h; simp [e, hn, chk_true]
theorem stripe_has {g : Geo} {b : Int} (h : hasBlock g b = true) : hasStripe g (stripeOf g b) = true := by
  obtain ⟨hg, h0, h1⟩ := hasBlock_t h
  obtain ⟨a, b', c, d⟩ := geoOk_t hg
  unfold stripeOf hasStripe
  rw [h, hg, cond_true, Bool.true_and]
  have h2 := Int.ediv_nonneg h0 (b := g.N - 1) (by omega)
  have h3 : b / (g.N - 1) < g.S := Int.ediv_lt_of_lt_mul (by omega) h1
  unfold within; simp; omega

/-! ### The data of a stripe -/
def dataOf (a : Arr) (s : Int) : List Int × Bool := bif (words a s).2 then (mapN (fun i => (words a s).1.getD (diskOf a.G s i).toNat 0) (a.G.N - 1).toNat, true) else ([], false)
theorem arr_t {a : Arr} (h : arrOk a = true) : geoOk a.G = true ∧ (a.Mems.length : Int) = a.G.N ∧ dirtyOk a = true := by
  unfold arrOk at h
  simp only [Bool.and_eq_true] at h
  exact ⟨h.1, by simpa using h.2.1, h.2.2.2.2.1⟩
theorem dataOf_len {a : Arr} {s : Int} (ha : arrOk a = true) (h : (dataOf a s).2 = true) : ((dataOf a s).1.length : Int) = a.G.N - 1 := by
  obtain ⟨hg, _, _⟩ := arr_t ha
  obtain ⟨_, _, _, _⟩ := geoOk_t hg
  unfold dataOf at h ⊢
  cases h' : (words a s).2
  · rw [h'] at h; cases h
  · show ((mapN _ _).length : Int) = _
    rw [mapN_len]; omega
theorem at_words {l : List Int} {n : Int} (h0 : 0 ≤ n) (h1 : n < (l.length : Int)) (X : Option Outs) : chk (decide (0 ≤ n) && decide (n < ((eIs l).length : Int))) X = X ∧ (at_ (eIs l) n.toNat 0).asI = l.getD n.toNat 0 := by
  refine ⟨chk_ok ?_ X, at_ints (by omega)⟩
  rw [List.length_map]; simp; omega
theorem dataOf_i (a : Arr) (h : a.w ≤ Big) (hf : inI a.Seq ∧ inI a.Tail) (ha : arrOk a = true) (s : Int) (hs : hasStripe a.G s = true) : Rn 9 N.impl_DataOf [.v a.e, .v [.i s]] ⟨[.r (eIs (bif !a.Broken then dataOf a s else ([], false)).1), .b (bif !a.Broken then dataOf a s else ([], false)).2], []⟩ := by
  refine Rn.of fun k hk => ?_
  rw [impl_DataOf_e]; unfold impl_DataOf_u impl_DataOf_U
  obtain ⟨hg, hn, _⟩ := arr_t ha
  obtain ⟨_, _, _, _⟩ := geoOk_t hg
  rw [words_i a h hf s k (by omega), bindO_some, wrap_id (n := a.G.N - 1) (by omega) (by omega), ha, hs, Bool.true_and, Bool.and_true]
  simp only [Outs.t_mk, List.getD_cons_zero, List.getD_cons_succ, T.asB_b, T.asR_r]
  have hL : (words a s).2 = true → ∀ o2 : Outs, (o2.t 0) = .r (eIs (words a s).1) → fixN (impl_DataOf_l1 k a.Id a.G.N a.G.S (eMems a.Mems) a.Lost a.Built a.Seq a.Tail a.Gen (eEnts a.Dirty) a.Fuse a.Down a.Broken s o2 (a.G.N - 1)) k (0, []) = some ⟨[.r (eIs (mapN (fun i => (words a s).1.getD (diskOf a.G s i).toNat 0) (a.G.N - 1).toNat)), .b true], []⟩ := by
    intro hw o2 ho
    have hl := words_len hw
    refine fixN_up (R := Outs) (a.G.N - 1).toNat (fun i => ((i : Int), eIs (mapN (fun i => (words a s).1.getD (diskOf a.G s i).toNat 0) i))) (fun i => some ⟨[.r (eIs (mapN (fun i => (words a s).1.getD (diskOf a.G s i).toNat 0) (a.G.N - 1).toNat)), .b true], []⟩) (fun i hi G hG => ?_) (fun G => ?_) (by unfold Big at hk; omega)
    · unfold impl_DataOf_l1 impl_DataOf_L1
      have hd := diskOf_b (i := (i : Int)) hs (by unfold within; simp; omega)
      obtain ⟨e1, e2⟩ := at_words (l := (words a s).1) hd.1 (by omega) none
      simp only [ho, T.asR_r]
      rw [decide_eq_true (by omega), cond_true, diskOf_i a.G s i k (by omega), bindO_some]
      simp only [Outs.t_mk, List.getD_cons_zero, T.asI_i]
      rw [(at_words (l := (words a s).1) hd.1 (by omega) _).1, e2, chk_ok (by simp [mapN_len]; omega), wrap_up (by omega), mapN_up (fun i => (words a s).1.getD (diskOf a.G s i).toNat 0)]
      exact hG
    · unfold impl_DataOf_l1 impl_DataOf_L1
      simp only []
      rw [decide_eq_false (by omega)]; rfl
  unfold dataOf
  cases hb : !a.Broken
  · rfl
  · cases hw : (words a s).2
    · simp only [cond_true, hw]; rfl
    · simp only [cond_true, hw, Bool.not_true, cond_false]
      exact hL hw _ rfl
def entAtS (a : Arr) (s : Int) : Int := firstIx (fun x : Ent => x.Stripe == s) 0 a.Dirty
theorem entOf_i (a : Arr) (h : a.w ≤ Big) (s : Int) : Rn 4 N.impl_entOf [.v a.e, .v [.i s]] ⟨[.i (entAtS a s)], []⟩ := by
  refine Rn.of fun k hk => ?_
  rw [impl_entOf_e]; unfold impl_entOf_u
  obtain ⟨l1, l2⟩ := mems_len a h
  have e : Rn 3 N.slices_IndexFunc_impl_Ent_impl_Ent [.v [.r (eEnts a.Dirty)], .c N.impl_entOf_1 (some [.i s])] ⟨[.i (entAtS a s)], [[.i s]]⟩ := by
    refine Rn.of fun k hk => ?_
    rw [slices_IndexFunc_impl_Ent_impl_Ent_e]; unfold slices_IndexFunc_impl_Ent_impl_Ent_u slices_IndexFunc_impl_Ent_impl_Ent_U
    refine (fixN_up (R := Outs) a.Dirty.length (fun i => ((i : Int), s)) (fun i => some ⟨[.i (firstIx (fun x : Ent => x.Stripe == s) i (a.Dirty.drop i))], [[.i s]]⟩) (fun i hi G hG => ?_) (fun G => ?_) (by unfold Big at hk; omega)).trans rfl
    · unfold slices_IndexFunc_impl_Ent_impl_Ent_l1 slices_IndexFunc_impl_Ent_impl_Ent_L1
      simp only [List.length_map, at_map _ hi, dlt hi, d0, Bool.and_self, chk_true, cond_true, Int.toNat_natCast, List.getD_cons_zero, List.getD_cons_succ, T.asI_i, T.asR_r]
      obtain ⟨k', rfl⟩ : ∃ m, k = m + 1 := ⟨k - 1, by unfold Big at hk; omega⟩
      rw [impl_entOf_1_e]; unfold impl_entOf_1_u
      rw [bindO_some, wrap_up (by omega)]
      show (bif a.Dirty[i].Stripe == s then some ⟨[.i (i : Int)], [[.i s]]⟩ else G (((i + 1 : Nat) : Int), s)) = _
      rw [hG, List.drop_eq_getElem_cons hi, firstIx]
      cases a.Dirty[i].Stripe == s <;> rfl
    · unfold slices_IndexFunc_impl_Ent_impl_Ent_l1 slices_IndexFunc_impl_Ent_impl_Ent_L1
      simp only [List.length_map, dll, cond_false]
      simp [firstIx]
  rw [e k (by omega), bindO_some]; rfl
def dataNow (a : Arr) (s : Int) : List Int × Bool :=
  bif decide (entAtS a s ≥ 0) then ((a.Dirty.getD (entAtS a s).toNat default).Data, true) else bif !a.Broken then dataOf a s else ([], false)
theorem entAtS_b {a : Arr} {s : Int} (h : decide (entAtS a s ≥ 0) = true) : 0 ≤ entAtS a s ∧ entAtS a s < a.Dirty.length := by
  have h := of_decide_eq_true h
  rcases firstIx_b (fun x : Ent => x.Stripe == s) a.Dirty 0 with g | g
  · unfold entAtS at h; omega
  · unfold entAtS at h ⊢; omega
theorem dataNow_len {a : Arr} {s : Int} (ha : arrOk a = true) (h : (dataNow a s).2 = true) : ((dataNow a s).1.length : Int) = a.G.N - 1 := by
  unfold dataNow at h ⊢
  cases he : decide (entAtS a s ≥ 0)
  · rw [he] at h
    cases hb : !a.Broken
    · rw [hb] at h; cases h
    · rw [hb] at h; exact dataOf_len ha h
  · have hb := entAtS_b he
    have hd := (arr_t ha).2.2
    unfold dirtyOk at hd
    have := allN_iff.1 hd (entAtS a s).toNat (by omega)
    unfold entAt dataOk at this
    simp only [Bool.and_eq_true, beq_iff_eq] at this
    exact this.2.1
theorem dirty_w (a : Arr) (h : a.w ≤ Big) {i : Nat} (hi : i < a.Dirty.length) : a.Dirty[i].Data.length ≤ 4294967296 := by
  have := wL_get Ent.w hi
  unfold Arr.w Big at h
  unfold Ent.w at this
  unfold Ent.w at h
  omega
theorem dataNow_i (a : Arr) (h : a.w ≤ Big) (hf : inI a.Seq ∧ inI a.Tail) (ha : arrOk a = true) (s : Int) (hs : hasStripe a.G s = true) : Rn 10 N.impl_dataNow [.v a.e, .v [.i s]] ⟨[.r (eIs (dataNow a s).1), .b (dataNow a s).2], []⟩ := by
  refine Rn.of fun k hk => ?_
  rw [impl_dataNow_e]; unfold impl_dataNow_u dataNow
  rw [entOf_i a h s k (by omega), bindO_some]
  simp only [Outs.t_mk, List.getD_cons_zero, T.asI_i]
  cases he : decide (entAtS a s ≥ 0)
  · simp only [cond_false]
    rw [dataOf_i a h hf ha s hs k (by omega)]; rfl
  · have hb := entAtS_b he
    have hi : (entAtS a s).toNat < a.Dirty.length := by omega
    have hw := dirty_w a h hi
    simp only [cond_true]
    rw [chk_ok (by simp; omega), at_map _ hi, getD_at hi]
    simp only [List.getD_cons_zero, List.getD_cons_succ, T.asR_r]
    rw [copyInts_i _ (by unfold Big; omega) k (by omega)]; rfl
/-! ### A block, all blocks -/
def blockCode (a : Arr) (b : Int) : Int := bif !arrOk a then 1 else bif a.Down then 6 else bif !hasBlock a.G b then 2 else 0
theorem blockCode_i (a : Arr) (h : a.w ≤ Big) (hf : inI a.Seq ∧ inI a.Tail) (b : Int) : Rn 8 N.impl_blockCode [.v a.e, .v [.i b]] ⟨[.i (blockCode a b)], []⟩ := by
  refine Rn.of fun k hk => ?_
  rw [impl_blockCode_e]; unfold impl_blockCode_u blockCode
  rw [arrOk_i a h hf k (by omega), hasBlock_i _ _ k (by omega)]
  simp only [Outs.t_mk, List.getD_cons_zero, T.asB_b, bindO_some]
  cases arrOk a <;> cases a.Down <;> cases hasBlock a.G b <;> rfl
theorem blockCode_t {a : Arr} {b : Int} (h : (blockCode a b != 0) = false) : arrOk a = true ∧ hasBlock a.G b = true := by
  unfold blockCode at h
  cases h1 : arrOk a <;> cases h2 : a.Down <;> cases h3 : hasBlock a.G b <;> rw [h1, h2, h3] at h <;> simp at h ⊢
def getBlock (a : Arr) (b : Int) : Int × Int :=
  bif blockCode a b != 0 then (0, blockCode a b) else bif !(dataNow a (stripeOf a.G b)).2 then (0, 5) else ((dataNow a (stripeOf a.G b)).1.getD (indexOf a.G b).toNat 0, 0)
theorem index_b {a : Arr} {b : Int} (ha : arrOk a = true) (hb : hasBlock a.G b = true) (h : (dataNow a (stripeOf a.G b)).2 = true) : 0 ≤ indexOf a.G b ∧ indexOf a.G b < ((dataNow a (stripeOf a.G b)).1.length : Int) := by
  have := index_w hb
  rw [dataNow_len ha h]
  unfold indexOf
  rw [hb]
  exact ⟨this.2.2.1, this.2.2.2⟩
theorem getBlock_i (a : Arr) (h : a.w ≤ Big) (hf : inI a.Seq ∧ inI a.Tail) (b : Int) : Rn 11 N.impl_GetBlock [.v a.e, .v [.i b]] ⟨[.i (getBlock a b).1, .i (getBlock a b).2], []⟩ := by
  refine Rn.of fun k hk => ?_
  rw [impl_GetBlock_e]; unfold impl_GetBlock_u getBlock
  rw [blockCode_i a h hf b k (by omega), bindO_some, stripeOf_i _ _ k (by omega), bindO_some, indexOf_i _ _ k (by omega)]
  simp only [bindO_some, Outs.t_mk, List.getD_cons_zero, T.asI_i]
  cases hc : blockCode a b != 0
  · obtain ⟨ha, hb⟩ := blockCode_t hc
    simp only [cond_false]
    rw [dataNow_i a h hf ha _ (stripe_has hb) k (by omega), bindO_some]
    simp only [Outs.t_mk, List.getD_cons_zero, List.getD_cons_succ, T.asI_i, T.asB_b, T.asR_r]
    cases hd : (dataNow a (stripeOf a.G b)).2
    · rfl
    · obtain ⟨h0, h1⟩ := index_b ha hb hd
      obtain ⟨_, e2⟩ := at_words h0 h1 none
      simp only [Bool.not_true, cond_false]
      rw [(at_words h0 h1 _).1, e2]
  · rfl
def blockV (a : Arr) (i : Nat) : Int := (getBlock a i).1
def contents (a : Arr) : List Int := bif allN (blocks a.G).toNat (fun i => !((getBlock a i).2 != 0)) then mapN (blockV a) (blocks a.G).toNat else []
def whole (x : Eng) : Bool := ((contents x.A).length : Int) == blocks x.A.G
end Go.Proofs.Ytahlghlpdcfbgaa.Ev
