/- The words of a stripe: sums of bits, what is missing. No condition. -/
import Derived.Test.YtffloigfgjoimaaPt
namespace Go.Proofs.Ytffloigfgjoimaa.Ev
open Go
set_option linter.unusedVariables false
set_option linter.unusedSimpArgs false
set_option maxHeartbeats 1000000

/-- Rounds that end at once with one answer if something fails. -/
theorem early {V R : Type} (n : Nat) (p : Nat → Bool) (st : Nat → V) {b : (V → Option R) → V → Option R} (fail last : Option R)
    (h : ∀ i, i < n → ∀ G, b G (st i) = (bif p i then G (st (i + 1)) else fail)) (he : ∀ G, b G (st n) = last) {j : Nat} (hj : n < j) :
    fixN b j (st 0) = (bif allN n p then last else fail) := by
  refine (fixN_up n st (fun i => bif (List.range' i (n - i)).all p then last else fail) ?_ ?_ hj).trans (by unfold allN; rw [List.range_eq_range', Nat.sub_zero])
  · intro i hi G hG
    rw [h i hi, hG, show n - i = (n - (i + 1)) + 1 by omega, List.range'_succ, List.all_cons]
    cases p i <;> rfl
  · intro G; rw [he]; simp
def mapN (f : Nat → Int) (n : Nat) : List Int := (List.range n).map f
theorem mapN_len (f : Nat → Int) (n : Nat) : (mapN f n).length = n := by unfold mapN; simp
theorem mapN_up (f : Nat → Int) (n : Nat) : eIs (mapN f n) ++ [[.i (f n)]] = eIs (mapN f (n + 1)) := by unfold mapN; simp [List.range_succ]
theorem mapN_get {f : Nat → Int} {n i : Nat} (h : i < n) (d : Int) : (mapN f n).getD i d = f i := by
  unfold mapN; simp [List.getD_eq_getElem?_getD, h]

/-! ### Sums of bits -/
def xN (b : BitVec 64) : Int := IntKind.wrap .i64 b.toNat
def X (n : Int) : BitVec 64 := BitVec.ofInt 64 n
theorem X_xN (b : BitVec 64) : X (xN b) = b := by
  have h := b.isLt
  apply BitVec.eq_of_toNat_eq
  unfold X xN IntKind.wrap IntKind.signed IntKind.bits
  rw [BitVec.toNat_ofInt]
  simp
  split <;> omega
theorem bitsXor_x (b : BitVec 64) (n : Int) : bitsXor .i64 (xN b) n = xN (b ^^^ X n) := by
  unfold bitsXor
  show IntKind.wrap .i64 ((X (xN b) ^^^ X n).toNat) = _
  rw [X_xN]; rfl
def sumX (f : Nat → Int) : Nat → BitVec 64
  | 0 => 0#64
  | i + 1 => sumX f i ^^^ X (f i)
theorem sumX_congr {f g : Nat → Int} : ∀ n, (∀ i, i < n → f i = g i) → sumX f n = sumX g n
  | 0, _ => rfl
  | n + 1, h => by unfold sumX; rw [sumX_congr n fun i hi => h i (by omega), h n (by omega)]
def skipX (f : Nat → Int) (n : Int) : Nat → BitVec 64
  | 0 => 0#64
  | i + 1 => bif (i : Int) != n then skipX f n i ^^^ X (f i) else skipX f n i
theorem skip_eq (f : Nat → Int) (n : Int) : ∀ i : Nat, skipX f n i = bif within n 0 ((i : Int) - 1) then sumX f i ^^^ X (f n.toNat) else sumX f i
  | 0 => by
    cases h : within n 0 (((0 : Nat) : Int) - 1)
    · rfl
    · have := within_t h; omega
  | i + 1 => by
    unfold skipX sumX
    rw [skip_eq f n i]
    by_cases hn : (i : Int) = n
    · subst hn
      have h1 : within (i : Int) 0 ((i : Int) - 1) = false := by unfold within; simp <;> omega
      have h2 : within (i : Int) 0 (((i + 1 : Nat) : Int) - 1) = true := by unfold within; simp <;> omega
      rw [h1, h2]
      simp [BitVec.xor_assoc]
    · have h2 : within n 0 (((i + 1 : Nat) : Int) - 1) = within n 0 ((i : Int) - 1) := by
        unfold within; rw [Bool.eq_iff_iff]; simp; omega
      rw [h2]
      have : ((i : Int) != n) = true := by simpa using hn
      rw [this]
      cases within n 0 ((i : Int) - 1)
      · rfl
      · simp only [cond_true, BitVec.xor_assoc, BitVec.xor_comm (X (f n.toNat))]
def missing (l : List Int) (n : Int) : Int := xN (skipX (fun i => l.getD i 0) n l.length)
/-! ### The words of a stripe -/
def wAt (a : Arr) (s : Int) (i : Nat) : Int := (wordAt a i s).1
def okAt (a : Arr) (s : Int) (i : Nat) : Bool := (wordAt a i s).2
def missAt (ok : Nat → Bool) : Nat → Int
  | 0 => -1
  | i + 1 => bif ok i then missAt ok i else (i : Int)
theorem missAt_b (ok : Nat → Bool) : ∀ i : Nat, -1 ≤ missAt ok i ∧ missAt ok i < (i : Int)
  | 0 => by unfold missAt; omega
  | i + 1 => by
    unfold missAt
    have := missAt_b ok i
    cases ok i <;> simp only [cond_true, cond_false] <;> omega
def mendW (l : List Int) (m : Int) : List Int := bif decide (m ≥ 0) then l.set m.toNat (missing l m) else l
theorem mendW_len (l : List Int) (m : Int) : (mendW l m).length = l.length := by
  unfold mendW; cases decide (m ≥ 0) <;> simp
def words (a : Arr) (s : Int) : List Int × Bool :=
  bif allN a.Mems.length (fun i => okAt a s i || decide (missAt (okAt a s) i < 0)) then (mendW (mapN (wAt a s) a.Mems.length) (missAt (okAt a s) a.Mems.length), true) else ([], false)
theorem words_len {a : Arr} {s : Int} (h : (words a s).2 = true) : (words a s).1.length = a.Mems.length := by
  unfold words at h ⊢
  cases h' : allN a.Mems.length (fun i => okAt a s i || decide (missAt (okAt a s) i < 0))
  · rw [h'] at h; cases h
  · show (mendW _ _).length = _
    rw [mendW_len, mapN_len]
theorem geL {m : Int} : decide (m ≥ 0) = !decide (m < 0) := by rw [Bool.eq_iff_iff]; simp
theorem room {i n : Nat} (h : i < n) (hn : n ≤ 4294967296) (f : Nat → Int) (x : Int) : decide (((eIs (mapN f i)).length + ([[.i x]] : List (List T)).length) * 8 ≤ 140737488355328) = true := by
  rw [List.length_map, mapN_len]; simp; omega
end Go.Proofs.Ytffloigfgjoimaa.Ev
