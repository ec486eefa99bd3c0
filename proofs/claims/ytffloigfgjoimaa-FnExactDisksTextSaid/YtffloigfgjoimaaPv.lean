/- What the blocks of an array hold; whether it is whole. No condition. -/
import Derived.Test.YtffloigfgjoimaaPu
namespace Go.Proofs.Ytffloigfgjoimaa.Ev
open Go
set_option linter.unusedVariables false
set_option linter.unusedSimpArgs false
set_option maxHeartbeats 1000000

/-! ### Where the words of a stripe lie -/
theorem hasStripe_t {g : Geo} {s : Int} (h : hasStripe g s = true) : geoOk g = true ∧ 0 ≤ s ∧ s < g.S := by
  unfold hasStripe at h
  rw [Bool.and_eq_true] at h
  have := within_t h.2
  exact ⟨h.1, this.1, by omega⟩
def parityOf (g : Geo) (s : Int) : Int := bif hasStripe g s then g.N - 1 - s % g.N else -1
theorem parity_w {g : Geo} {s : Int} (h : hasStripe g s = true) : IntKind.wrap .i64 (IntKind.wrap .i64 (g.N - 1) - Int.tmod s g.N) = g.N - 1 - s % g.N ∧ g.N ≠ 0 ∧ 0 ≤ g.N - 1 - s % g.N ∧ g.N - 1 - s % g.N < g.N := by
  obtain ⟨hg, h0, h1⟩ := hasStripe_t h
  obtain ⟨a, b, c, d⟩ := geoOk_t hg
  rw [wrap_id (n := g.N - 1) (by omega) (by omega), Int.tmod_eq_emod_of_nonneg h0]
  have := Int.emod_nonneg s (b := g.N) (by omega)
  have := Int.emod_lt_of_pos s (b := g.N) (by omega)
  exact ⟨wrap_id (by omega) (by omega), by omega, by omega, by omega⟩
def diskOf (g : Geo) (s i : Int) : Int := bif hasStripe g s && within i 0 (g.N - 2) then (parityOf g s + 1 + i) % g.N else -1
theorem disk_w {g : Geo} {s i : Int} (h : hasStripe g s = true) (hi : within i 0 (g.N - 2) = true) : Int.tmod (IntKind.wrap .i64 (IntKind.wrap .i64 (parityOf g s + 1) + i)) g.N = (parityOf g s + 1 + i) % g.N ∧ g.N ≠ 0 := by
  obtain ⟨_, hn, h0, h1⟩ := parity_w h
  obtain ⟨a, b, c, d⟩ := geoOk_t (hasStripe_t h).1
  have := within_t hi
  unfold parityOf
  rw [h, cond_true]
  rw [wrap_id (n := g.N - 1 - s % g.N + 1) (by omega) (by omega), wrap_id (by omega) (by omega), Int.tmod_eq_emod_of_nonneg (by omega)]
  exact ⟨rfl, hn⟩
theorem diskOf_b {g : Geo} {s i : Int} (h : hasStripe g s = true) (hi : within i 0 (g.N - 2) = true) : 0 ≤ diskOf g s i ∧ diskOf g s i < g.N := by
  obtain ⟨a, b, c, d⟩ := geoOk_t (hasStripe_t h).1
  unfold diskOf
  rw [h, hi]
  exact ⟨Int.emod_nonneg _ (by omega), Int.emod_lt_of_pos _ (by omega)⟩
def indexOf (g : Geo) (b : Int) : Int := bif hasBlock g b then b % (g.N - 1) else -1
theorem index_w {g : Geo} {b : Int} (h : hasBlock g b = true) : Int.tmod b (IntKind.wrap .i64 (g.N - 1)) = b % (g.N - 1) ∧ IntKind.wrap .i64 (g.N - 1) ≠ 0 ∧ 0 ≤ b % (g.N - 1) ∧ b % (g.N - 1) < g.N - 1 := by
  obtain ⟨hg, h0, h1⟩ := hasBlock_t h
  obtain ⟨a, b', c, d⟩ := geoOk_t hg
  rw [wrap_id (n := g.N - 1) (by omega) (by omega), Int.tmod_eq_emod_of_nonneg h0]
  exact ⟨rfl, by omega, Int.emod_nonneg _ (by omega), Int.emod_lt_of_pos _ (by omega)⟩
theorem stripe_has {g : Geo} {b : Int} (h : hasBlock g b = true) : hasStripe g (stripeOf g b) = true := by
  obtain ⟨hg, h0, h1⟩ := hasBlock_t h
  obtain ⟨a, b', c, d⟩ := geoOk_t hg
  unfold stripeOf hasStripe
  rw [h, hg, cond_true, Bool.true_and]
  have h2 := Int.ediv_nonneg h0 (b := g.N - 1) (by omega)
  have h3 : b / (g.N - 1) < g.S := Int.ediv_lt_of_lt_mul (by omega) h1
  unfold within; simp; omega

/-! ### The data of a stripe -/
def dataOf (a : Arr) (s : Int) : List Int × Bool := bif (words a s).2 then (mapN (fun i => (words a s).1.getD (diskOf a.G s i).toNat 0) (a.G.N - 1).toNat, true) else ([], false)
theorem arr_t {a : Arr} (h : arrOk a = true) : geoOk a.G = true ∧ (a.Mems.length : Int) = a.G.N ∧ dirtyOk a = true := by
  unfold arrOk at h
  simp only [Bool.and_eq_true] at h
  exact ⟨h.1, by simpa using h.2.1, h.2.2.2.2.1⟩
theorem dataOf_len {a : Arr} {s : Int} (ha : arrOk a = true) (h : (dataOf a s).2 = true) : ((dataOf a s).1.length : Int) = a.G.N - 1 := by
  obtain ⟨hg, _, _⟩ := arr_t ha
  obtain ⟨_, _, _, _⟩ := geoOk_t hg
  unfold dataOf at h ⊢
  cases h' : (words a s).2
  · rw [h'] at h; cases h
  · show ((mapN _ _).length : Int) = _
    rw [mapN_len]; omega
theorem at_words {l : List Int} {n : Int} (h0 : 0 ≤ n) (h1 : n < (l.length : Int)) (X : Option Outs) : chk (decide (0 ≤ n) && decide (n < ((eIs l).length : Int))) X = X ∧ (at_ (eIs l) n.toNat 0).asI = l.getD n.toNat 0 := by
  refine ⟨chk_ok ?_ X, at_ints (by omega)⟩
  rw [List.length_map]; simp; omega
def entAtS (a : Arr) (s : Int) : Int := firstIx (fun x : Ent => x.Stripe == s) 0 a.Dirty
def dataNow (a : Arr) (s : Int) : List Int × Bool :=
  bif decide (entAtS a s ≥ 0) then ((a.Dirty.getD (entAtS a s).toNat default).Data, true) else bif !a.Broken then dataOf a s else ([], false)
theorem entAtS_b {a : Arr} {s : Int} (h : decide (entAtS a s ≥ 0) = true) : 0 ≤ entAtS a s ∧ entAtS a s < a.Dirty.length := by
  have h := of_decide_eq_true h
  rcases firstIx_b (fun x : Ent => x.Stripe == s) a.Dirty 0 with g | g
  · unfold entAtS at h; omega
  · unfold entAtS at h ⊢; omega
theorem dataNow_len {a : Arr} {s : Int} (ha : arrOk a = true) (h : (dataNow a s).2 = true) : ((dataNow a s).1.length : Int) = a.G.N - 1 := by
  unfold dataNow at h ⊢
  cases he : decide (entAtS a s ≥ 0)
  · rw [he] at h
    cases hb : !a.Broken
    · rw [hb] at h; cases h
    · rw [hb] at h; exact dataOf_len ha h
  · have hb := entAtS_b he
    have hd := (arr_t ha).2.2
    unfold dirtyOk at hd
    have := allN_iff.1 hd (entAtS a s).toNat (by omega)
    unfold entAt dataOk at this
    simp only [Bool.and_eq_true, beq_iff_eq] at this
    exact this.2.1
theorem dirty_w (a : Arr) (h : a.w ≤ Big) {i : Nat} (hi : i < a.Dirty.length) : a.Dirty[i].Data.length ≤ 4294967296 := by
  have := wL_get Ent.w hi
  unfold Arr.w Big at h
  unfold Ent.w at this
  unfold Ent.w at h
  omega
/-! ### A block, all blocks -/
def blockCode (a : Arr) (b : Int) : Int := bif !arrOk a then 1 else bif a.Down then 6 else bif !hasBlock a.G b then 2 else 0
theorem blockCode_t {a : Arr} {b : Int} (h : (blockCode a b != 0) = false) : arrOk a = true ∧ hasBlock a.G b = true := by
  unfold blockCode at h
  cases h1 : arrOk a <;> cases h2 : a.Down <;> cases h3 : hasBlock a.G b <;> rw [h1, h2, h3] at h <;> simp at h ⊢
def getBlock (a : Arr) (b : Int) : Int × Int :=
  bif blockCode a b != 0 then (0, blockCode a b) else bif !(dataNow a (stripeOf a.G b)).2 then (0, 5) else ((dataNow a (stripeOf a.G b)).1.getD (indexOf a.G b).toNat 0, 0)
theorem index_b {a : Arr} {b : Int} (ha : arrOk a = true) (hb : hasBlock a.G b = true) (h : (dataNow a (stripeOf a.G b)).2 = true) : 0 ≤ indexOf a.G b ∧ indexOf a.G b < ((dataNow a (stripeOf a.G b)).1.length : Int) := by
  have := index_w hb
  rw [dataNow_len ha h]
  unfold indexOf
  rw [hb]
  exact ⟨this.2.2.1, this.2.2.2⟩
def blockV (a : Arr) (i : Nat) : Int := (getBlock a i).1
def contents (a : Arr) : List Int := bif allN (blocks a.G).toNat (fun i => !((getBlock a i).2 != 0)) then mapN (blockV a) (blocks a.G).toNat else []
def whole (x : Eng) : Bool := ((contents x.A).length : Int) == blocks x.A.G
end Go.Proofs.Ytffloigfgjoimaa.Ev
