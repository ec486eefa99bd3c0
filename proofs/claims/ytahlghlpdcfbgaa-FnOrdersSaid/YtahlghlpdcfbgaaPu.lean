/- The words of a stripe: sums of bits, what is missing. No condition. -/
import Derived.Test.YtahlghlpdcfbgaaPt
namespace Go.Proofs.Ytahlghlpdcfbgaa.Ev
open Go
set_option linter.unusedVariables false
set_option linter.unusedSimpArgs false
set_option maxHeartbeats 1000000

/-- Rounds that end at once with one answer if something fails. -/
theorem early {V R : Type} (n : Nat) (p : Nat → Bool) (st : Nat → V) {b : (V → Option R) → V → Option R} (fail last : Option R)
    (h : ∀ i, i < n → ∀ G, b G (st i) = (bif p i then G (st (i + 1)) else fail)) (he : ∀ G, b G (st n) = last) {j : Nat} (hj : n < j) :
    fixN b j (st 0) = (bif allN n p then last else fail) := by
  refine (fixN_up n st (fun i => bif (List.range' i (n - i)).all p then last else fail) ?_ ?_ hj).trans (by unfold allN; rw [List.range_eq_range', Nat.sub_zero])
  · intro i hi G hG
    rw [h i hi, hG, show n - i = (n - (i + 1)) + 1 by omega, List.range'_succ, List.all_cons]
    cases p i <;> rfl
  · intro G; rw [he]; simp
def mapN (f : Nat → Int) (n : Nat) : List Int := (List.range n).map f
theorem mapN_len (f : Nat → Int) (n : Nat) : (mapN f n).length = n := by unfold mapN; simp
theorem mapN_up (f : Nat → Int) (n : Nat) : eIs (mapN f n) ++ [[.i (f n)]] = eIs (mapN f (n + 1)) := by unfold mapN; simp [List.range_succ]
theorem mapN_get {f : Nat → Int} {n i : Nat} (h : i < n) (d : Int) : (mapN f n).getD i d = f i := by
  unfold mapN; simp [List.getD_eq_getElem?_getD, h]

/-! ### Sums of bits -/
def xN (b : BitVec 64) : Int := IntKind.wrap .i64 b.toNat
def X (n : Int) : BitVec 64 := BitVec.ofInt 64 n
theorem X_xN (b : BitVec 64) : X (xN b) = b := by
  have h := b.isLt
  apply BitVec.eq_of_toNat_eq
  unfold X xN IntKind.wrap IntKind.signed IntKind.bits
  rw [BitVec.toNat_ofInt]
  simp
  split <;> omega
theorem bitsXor_x (b : BitVec 64) (n : Int) : bitsXor .i64 (xN b) n = xN (b ^^^ X n) := by
  unfold bitsXor
  show IntKind.wrap .i64 ((X (xN b) ^^^ X n).toNat) = _
  rw [X_xN]; rfl
def sumX (f : Nat → Int) : Nat → BitVec 64
  | 0 => 0#64
  | i + 1 => sumX f i ^^^ X (f i)
theorem sumX_congr {f g : Nat → Int} : ∀ n, (∀ i, i < n → f i = g i) → sumX f n = sumX g n
  | 0, _ => rfl
  | n + 1, h => by unfold sumX; rw [sumX_congr n fun i hi => h i (by omega), h n (by omega)]
def skipX (f : Nat → Int) (n : Int) : Nat → BitVec 64
  | 0 => 0#64
  | i + 1 => bif (i : Int) != n then skipX f n i ^^^ X (f i) else skipX f n i
theorem skip_eq (f : Nat → Int) (n : Int) : ∀ i : Nat, skipX f n i = bif within n 0 ((i : Int) - 1) then sumX f i ^^^ X (f n.toNat) else sumX f i
  | 0 => by
    cases h : within n 0 (((0 : Nat) : Int) - 1)
    · rfl
    · have := within_t h; omega
  | i + 1 => by
    unfold skipX sumX
    rw [skip_eq f n i]
    by_cases hn : (i : Int) = n
    · subst hn
      have h1 : within (i : Int) 0 ((i : Int) - 1) = false := by unfold within; simp <;> omega
      have h2 : within (i : Int) 0 (((i + 1 : Nat) : Int) - 1) = true := by unfold within; simp <;> omega
      rw [h1, h2]
      simp [BitVec.xor_assoc]
    · have h2 : within n 0 (((i + 1 : Nat) : Int) - 1) = within n 0 ((i : Int) - 1) := by
        unfold within; rw [Bool.eq_iff_iff]; simp; omega
      rw [h2]
      have : ((i : Int) != n) = true := by simpa using hn
      rw [this]
      cases within n 0 ((i : Int) - 1)
      · rfl
      · simp only [cond_true, BitVec.xor_assoc, BitVec.xor_comm (X (f n.toNat))]
def missing (l : List Int) (n : Int) : Int := xN (skipX (fun i => l.getD i 0) n l.length)
theorem xorOf_i (l : List Int) (h : l.length ≤ Big) : Rn 2 N.impl_XorOf [.v [.r (eIs l)]] ⟨[.i (xN (sumX (fun i => l.getD i 0) l.length))], []⟩ := by
  refine Rn.of fun k hk => ?_
  unfold Big at h hk
  rw [impl_XorOf_e]; unfold impl_XorOf_u impl_XorOf_U
  show fixN _ k (xN 0#64, ((0 : Nat) : Int)) = _
  refine fixN_up (R := Outs) l.length (fun i => (xN (sumX (fun i => l.getD i 0) i), (i : Int))) (fun i => some ⟨[.i (xN (sumX (fun i => l.getD i 0) l.length))], []⟩) (fun i hi G hG => ?_) (fun G => ?_) (by omega)
  · unfold impl_XorOf_l1 impl_XorOf_L1
    simp only [List.length_map, at_ints hi, dlt hi, d0, Bool.and_self, chk_true, cond_true, Int.toNat_natCast]
    rw [bitsXor_x, wrap_up (by omega)]; exact hG
  · unfold impl_XorOf_l1 impl_XorOf_L1
    simp only [List.length_map, dll, cond_false]
theorem missing_i (l : List Int) (h : l.length ≤ Big) (n : Int) : Rn 3 N.impl_MissingWord [.v [.r (eIs l)], .v [.i n]] ⟨[.i (missing l n)], []⟩ := by
  refine Rn.of fun k hk => ?_
  have h' := h
  unfold Big at h hk
  rw [impl_MissingWord_e]; unfold impl_MissingWord_u missing
  rw [xorOf_i l h' k (by unfold Big; omega), bindO_some, List.length_map, wrap_id (n := (l.length : Int) - 1) (by omega) (by omega), within_i _ _ _ k (by unfold Big; omega), bindO_some, skip_eq]
  simp only [Outs.t_mk, List.getD_cons_zero, T.asB_b, T.asI_i]
  cases hw : within n 0 ((l.length : Int) - 1)
  · rfl
  · have := within_t hw
    simp only [cond_true]
    rw [chk_ok (by simp; omega), at_ints (by omega), bitsXor_x]
/-! ### The words of a stripe -/
def wAt (a : Arr) (s : Int) (i : Nat) : Int := (wordAt a i s).1
def okAt (a : Arr) (s : Int) (i : Nat) : Bool := (wordAt a i s).2
def missAt (ok : Nat → Bool) : Nat → Int
  | 0 => -1
  | i + 1 => bif ok i then missAt ok i else (i : Int)
theorem missAt_b (ok : Nat → Bool) : ∀ i : Nat, -1 ≤ missAt ok i ∧ missAt ok i < (i : Int)
  | 0 => by unfold missAt; omega
  | i + 1 => by
    unfold missAt
    have := missAt_b ok i
    cases ok i <;> simp only [cond_true, cond_false] <;> omega
def mendW (l : List Int) (m : Int) : List Int := bif decide (m ≥ 0) then l.set m.toNat (missing l m) else l
theorem mendW_len (l : List Int) (m : Int) : (mendW l m).length = l.length := by
  unfold mendW; cases decide (m ≥ 0) <;> simp
def words (a : Arr) (s : Int) : List Int × Bool :=
  bif allN a.Mems.length (fun i => okAt a s i || decide (missAt (okAt a s) i < 0)) then (mendW (mapN (wAt a s) a.Mems.length) (missAt (okAt a s) a.Mems.length), true) else ([], false)
theorem words_len {a : Arr} {s : Int} (h : (words a s).2 = true) : (words a s).1.length = a.Mems.length := by
  unfold words at h ⊢
  cases h' : allN a.Mems.length (fun i => okAt a s i || decide (missAt (okAt a s) i < 0))
  · rw [h'] at h; cases h
  · show (mendW _ _).length = _
    rw [mendW_len, mapN_len]
theorem geL {m : Int} : decide (m ≥ 0) = !decide (m < 0) := by rw [Bool.eq_iff_iff]; simp
theorem room {i n : Nat} (h : i < n) (hn : n ≤ 4294967296) (f : Nat → Int) (x : Int) : decide (((eIs (mapN f i)).length + ([[.i x]] : List (List T)).length) * 8 ≤ 140737488355328) = true := by
  rw [List.length_map, mapN_len]; simp; omega
theorem words_i (a : Arr) (h : a.w ≤ Big) (hf : inI a.Seq ∧ inI a.Tail) (s : Int) : Rn 8 N.impl_Words [.v a.e, .v [.i s]] ⟨[.r (eIs (bif arrOk a && (!a.Broken && hasStripe a.G s) then words a s else ([], false)).1), .b (bif arrOk a && (!a.Broken && hasStripe a.G s) then words a s else ([], false)).2], []⟩ := by
  refine Rn.of fun k hk => ?_
  rw [impl_Words_e]; unfold impl_Words_u impl_Words_U impl_Words_J1
  obtain ⟨l1, l2⟩ := mems_len a h
  have hL : fixN (impl_Words_l1 k a.Id a.G.N a.G.S (eMems a.Mems) a.Lost a.Built a.Seq a.Tail a.Gen (eEnts a.Dirty) a.Fuse a.Down a.Broken s) k (-1, 0, []) = some ⟨[.r (eIs (words a s).1), .b (words a s).2], []⟩ := by
    refine (early a.Mems.length (fun i => okAt a s i || decide (missAt (okAt a s) i < 0)) (fun i => (missAt (okAt a s) i, (i : Int), eIs (mapN (wAt a s) i))) (some ⟨[.r [], .b false], []⟩) (some ⟨[.r (eIs (mendW (mapN (wAt a s) a.Mems.length) (missAt (okAt a s) a.Mems.length))), .b true], []⟩) (fun i hi G => ?_) (fun G => ?_) (by unfold Big at hk; omega)).trans ?_
    · unfold impl_Words_l1 impl_Words_L1 impl_Words_J2
      simp only [List.length_map, dlt hi, cond_true]
      rw [wordAt_i a h i hi s k (by omega), bindO_some]
      simp only [Outs.t_mk, List.getD_cons_zero, List.getD_cons_succ, T.asI_i, T.asB_b]
      rw [chk_ok (by simp [mapN_len]; omega), chk_ok (by simp [mapN_len]; omega), wrap_up (by omega), geL]
      show (bif !(okAt a s i) then _ else _) = _
      rw [show (wordAt a i s).1 = wAt a s i from rfl, mapN_up, show missAt (okAt a s) (i + 1) = bif okAt a s i then missAt (okAt a s) i else (i : Int) from rfl]
      cases ho : okAt a s i
      · cases decide (missAt (okAt a s) i < 0) <;> simp [show (wordAt a i s).2 = false from ho]
      · simp [show (wordAt a i s).2 = true from ho]
    · unfold impl_Words_l1 impl_Words_L1
      simp only [List.length_map, dll, cond_false]
      have hb := missAt_b (okAt a s) a.Mems.length
      unfold mendW
      cases hm : decide (missAt (okAt a s) a.Mems.length ≥ 0)
      · rfl
      · have hm' := of_decide_eq_true hm
        simp only [cond_true]
        rw [missing_i _ (by rw [mapN_len]; exact l1) _ k (by omega), bindO_some, mapN_len, chk_ok (by simp; omega)]
        simp only [Outs.t_mk, List.getD_cons_zero, T.asI_i]
        rw [put_map (α := Int) (fun n => [T.i n]) (by rw [mapN_len]; omega) 0 _ (missing (mapN (wAt a s) a.Mems.length) (missAt (okAt a s) a.Mems.length)) rfl]
    · unfold words
      cases allN a.Mems.length (fun i => okAt a s i || decide (missAt (okAt a s) i < 0)) <;> rfl
  rw [arrOk_i a h hf k (by omega), hasStripe_i _ _ k (by omega)]
  simp only [bindO_some, Outs.t_mk, List.getD_cons_zero, T.asB_b]
  rw [hL]
  cases arrOk a
  · rfl
  cases a.Broken
  · cases hasStripe a.G s <;> rfl
  · rfl
end Go.Proofs.Ytahlghlpdcfbgaa.Ev
