/- Which block a command writes; what is sure of a log; what may be there. No condition. -/
import Derived.Test.YtffloigfgjoimaaPn
namespace Go.Proofs.Ytffloigfgjoimaa.Ev
open Go
set_option linter.unusedVariables false
set_option linter.unusedSimpArgs false
set_option maxHeartbeats 1000000

theorem fixN_dn {V R : Type} {b : (V → Option R) → V → Option R} (n : Nat) (st : Nat → V) (ans : Nat → Option R)
    (h : ∀ i, i < n → ∀ G, G (st i) = ans i → b G (st (i + 1)) = ans (i + 1)) (he : ∀ G, b G (st 0) = ans 0) {j : Nat} (hj : n < j) : fixN b j (st n) = ans n := by
  induction n generalizing j with
  | zero =>
    obtain ⟨j, rfl⟩ : ∃ m, j = m + 1 := ⟨j - 1, by omega⟩
    exact he _
  | succ n ih =>
    obtain ⟨j, rfl⟩ : ∃ m, j = m + 1 := ⟨j - 1, by omega⟩
    exact h n (by omega) _ (ih (fun i hi => h i (by omega)) (by omega))
theorem wrapu (n : Int) : IntKind.wrap .u64 n = n % 18446744073709551616 := by
  unfold IntKind.wrap IntKind.signed IntKind.bits; simp
theorem wrap_lo {n : Int} (h0 : 9223372036854775808 ≤ n) (h1 : n < 18446744073709551616) : IntKind.wrap .i64 n < 0 := by
  unfold IntKind.wrap IntKind.signed IntKind.bits; simp; omega

def writer (c : Cmd) : Bool := c.Op == 2 || c.Op == 3 || c.Op == 6 || c.Op == 5
def writes (c : Cmd) (b : Int) : Bool := writer c && decide (c.Lba ≤ b) && decide (b - c.Lba < runOf c)
theorem runOf_in (c : Cmd) (h : c.Fit) : inI (runOf c) := by
  obtain ⟨_, _, _, hN, hV, _⟩ := h
  unfold maxLen at hV
  unfold runOf inI at *
  cases c.Op == 1 <;> cases c.Op == 6 <;> cases c.Op == 2 <;> cases c.Op == 3 <;> cases c.Op == 5 <;> simp <;> omega
theorem runOf_no {c : Cmd} (h : writer c = false) (h1 : c.Op ≠ 1) : runOf c = 0 := by
  unfold writer at h; unfold runOf
  have h1 : (c.Op == 1) = false := by simpa using h1
  rw [h1]
  cases h2 : c.Op == 2 <;> cases h3 : c.Op == 3 <;> cases h6 : c.Op == 6 <;> cases h5 : c.Op == 5 <;> rw [h2, h3, h6, h5] at h <;> simp at h ⊢
theorem writes_t {c : Cmd} {b : Int} (h : writes c b = true) : writer c = true ∧ c.Lba ≤ b ∧ b - c.Lba < runOf c := by
  unfold writes at h
  simp at h
  exact ⟨h.1.1, h.1.2, h.2⟩

def wordOf (c : Cmd) (b : Int) : Int :=
  bif writes c b then
    bif c.Op == 2 || c.Op == 3 then c.Vals.getD (b - c.Lba).toNat 0
    else bif c.Op == 5 && ((c.Vals.length : Int) == 2) then c.Vals.getD 1 0 else 0
  else 0
theorem at_ints {l : List Int} {i : Nat} (h : i < l.length) : (at_ (eIs l) i 0).asI = l.getD i 0 := by
  rw [at_map _ h]; simp [List.getD_eq_getElem?_getD, h]
theorem word_j {c : Cmd} {b : Int} (hc : c.Fit) (hw : writes c b = true) (h2 : c.Op = 2 ∨ c.Op = 3) :
    IntKind.wrap .i64 (b - c.Lba) = b - c.Lba ∧ 0 ≤ b - c.Lba ∧ b - c.Lba < (c.Vals.length : Int) := by
  obtain ⟨_, h1, h3⟩ := writes_t hw
  have hr := runOf_in c hc
  unfold inI at hr
  have e : runOf c = (c.Vals.length : Int) := by
    unfold runOf
    rcases h2 with h2 | h2 <;> simp [h2]
  rw [e] at h3 hr
  exact ⟨wrap_id (by omega) (by omega), by omega, h3⟩
def isFlush (t : Turn) : Bool := (t.C.Op == 4) && (t.A.Code == 0)
def isSure (l : List Turn) (b : Int) (i : Nat) (t : Turn) : Bool := (t.A.Code == 0) && writes t.C b && ((t.C.Op == 3) || (l.drop (i + 1)).any isFlush)
def sureDn (l : List Turn) (b : Int) : Nat → Int
  | 0 => -1
  | i + 1 => bif (match l[i]? with | some t => isSure l b i t | none => false) then (i : Int) else sureDn l b i
theorem sureDn_at {l : List Turn} {b : Int} {i : Nat} (hi : i < l.length) : sureDn l b (i + 1) = bif isSure l b i l[i] then (i : Int) else sureDn l b i := by
  rw [sureDn, List.getElem?_eq_getElem hi]
def sureOf (l : List Turn) (b : Int) : Int := sureDn l b l.length
theorem sureDn_b (l : List Turn) (b : Int) : ∀ n, n ≤ l.length → -1 ≤ sureDn l b n ∧ sureDn l b n < (l.length : Int)
  | 0, _ => by unfold sureDn; omega
  | n + 1, h => by
    have := sureDn_b l b n (by omega)
    unfold sureDn
    cases (match l[n]? with | some t => isSure l b n t | none => false) <;> simp <;> omega
theorem sureOf_b (l : List Turn) (b : Int) : -1 ≤ sureOf l b ∧ sureOf l b < (l.length : Int) := sureDn_b l b _ (Nat.le_refl _)
theorem dge {i : Nat} : decide (((i : Int)) ≥ 0) = true := decide_eq_true (by omega)
theorem wrap_dn {i : Nat} (h : i ≤ 1099511627776) : IntKind.wrap .i64 ((i : Int) - 1) = (i : Int) - 1 := wrap_id (by omega) (by omega)
def mayB (b n : Int) (t : Turn) : Bool := writes t.C b && (wordOf t.C b == n) && !(within t.A.Code 1 4)
def mayBe (frm : Int) (l : List Turn) (b n : Int) : Bool :=
  bif decide (sureOf l b < 0) && (n == frm) then true else (l.drop (sureOf l b).toNat).any (mayB b n)
end Go.Proofs.Ytffloigfgjoimaa.Ev
