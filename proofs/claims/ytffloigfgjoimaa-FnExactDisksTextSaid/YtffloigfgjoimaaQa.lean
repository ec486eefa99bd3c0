/- What is drawn: that it comes, and how great it is. No condition. -/
import Derived.Test.YtffloigfgjoimaaPy
namespace Go.Proofs.Ytffloigfgjoimaa.Ev
open Go
set_option linter.unusedVariables false
set_option linter.unusedSimpArgs false
set_option maxHeartbeats 1000000

/-- What comes out, with all rounds from some number on. -/
def Ev (X : Nat → Option Outs) (d : Nat) (ok : Outs → Prop) : Prop := ∃ o, ok o ∧ ∀ k, Big + d ≤ k → X k = some o
theorem Ev.ret {ok : Outs → Prop} {o : Outs} (h : ok o) (d : Nat) : Ev (fun _ => some o) d ok := ⟨o, h, fun _ _ => rfl⟩
theorem Ev.up {X : Nat → Option Outs} {d d' : Nat} {ok : Outs → Prop} (h : Ev X d ok) (hd : d ≤ d') : Ev X d' ok := by
  obtain ⟨o, h1, h2⟩ := h; exact ⟨o, h1, fun k hk => h2 k (by omega)⟩
theorem Ev.bind {F : Nat → Option Outs} {K : Nat → Outs → Option Outs} {d d1 : Nat} {ok1 ok : Outs → Prop} (h1 : Ev F d1 ok1) (hd : d1 ≤ d) (h2 : ∀ o, ok1 o → Ev (fun k => K k o) d ok) : Ev (fun k => bindO (F k) (K k)) d ok := by
  obtain ⟨o, a1, a2⟩ := h1
  obtain ⟨o', b1, b2⟩ := h2 o a1
  exact ⟨o', b1, fun k hk => by show bindO (F k) (K k) = _; rw [a2 k (by omega), bindO_some]; exact b2 k hk⟩
theorem Ev.call {f : FuncId} {ins : List Arg} {o : Outs} {K : Nat → Outs → Option Outs} {d d1 : Nat} {ok : Outs → Prop} (h1 : Rn d1 f ins o) (hd : d1 ≤ d) (h2 : Ev (fun k => K k o) d ok) : Ev (fun k => bindO (evalF E P0 k f ins) (K k)) d ok := by
  obtain ⟨o', b1, b2⟩ := h2
  exact ⟨o', b1, fun k hk => by show bindO _ (K k) = _; rw [h1 k (by omega), bindO_some]; exact b2 k hk⟩
theorem Ev.chk {c : Bool} {X : Nat → Option Outs} {d : Nat} {ok : Outs → Prop} (hc : c = true) (h : Ev X d ok) : Ev (fun k => Go.Proofs.Ytffloigfgjoimaa.Ev.chk c (X k)) d ok := by
  subst hc; exact h
theorem Ev.ite {c : Bool} {X Y : Nat → Option Outs} {d : Nat} {ok : Outs → Prop} (h1 : c = true → Ev X d ok) (h2 : c = false → Ev Y d ok) : Ev (fun k => bif c then X k else Y k) d ok := by
  cases c
  · exact h2 rfl
  · exact h1 rfl
theorem Ev.fn {f : FuncId} {ins : List Arg} {U : Nat → Option Outs} {d : Nat} {ok : Outs → Prop} (he : ∀ k, evalF E P0 (k + 1) f ins = U k) (h : Ev U d ok) : Ev (fun k => evalF E P0 k f ins) (d + 1) ok := by
  obtain ⟨o, h1, h2⟩ := h
  refine ⟨o, h1, fun k hk => ?_⟩
  obtain ⟨k, rfl⟩ : ∃ m, k = m + 1 := ⟨k - 1, by omega⟩
  show evalF E P0 (k + 1) f ins = _
  rw [he]; exact h2 k (by omega)
theorem Ev.weak {X : Nat → Option Outs} {d : Nat} {ok ok' : Outs → Prop} (h : Ev X d ok) (hk : ∀ o, ok o → ok' o) : Ev X d ok' := by
  obtain ⟨o, h1, h2⟩ := h; exact ⟨o, hk o h1, h2⟩
theorem Ev.rn {f : FuncId} {ins : List Arg} {d : Nat} {o : Outs} (h : Ev (fun k => evalF E P0 k f ins) d (· = o)) : Rn d f ins o := by
  obtain ⟨o', rfl, h2⟩ := h; exact h2
theorem Ev.of_rn {f : FuncId} {ins : List Arg} {d : Nat} {o : Outs} {ok : Outs → Prop} (h : Rn d f ins o) (hk : ok o) : Ev (fun k => evalF E P0 k f ins) d ok := ⟨o, hk, h⟩

/-! ### The cursor -/
structure Cur where
  b : List Int
  i : Int
  h : Int
abbrev Cur.e (c : Cur) : List T := [.r (eIs c.b), .i c.i, .i c.h]
def Cur.ok (c : Cur) : Prop := c.b.length ≤ Big ∧ 0 ≤ c.i ∧ c.i ≤ (c.b.length : Int)
/-- A draw's answer: the cells, and the cursor behind. -/
def CD (okr : List T → Prop) (o : Outs) : Prop := ∃ r c, okr r ∧ Cur.ok c ∧ o = ⟨r, [c.e]⟩
def Num (p : Int → Prop) (r : List T) : Prop := ∃ n, p n ∧ r = [.i n]
@[simp] theorem Outs.vt_mk (l : List T) (c : List T) (j : Nat) : Outs.vt ⟨l, [c]⟩ 0 j = c.getD j (.i 0) := rfl
theorem bitsAnd_b {a n : Int} (h0 : 0 ≤ n) (h1 : n ≤ 4294967296) : 0 ≤ bitsAnd .i64 a n ∧ bitsAnd .i64 a n ≤ n := by
  have hlt : ((BitVec.ofInt 64 a &&& BitVec.ofInt 64 n).toNat : Int) ≤ n := by
    rw [BitVec.toNat_and]
    have h2 : (BitVec.ofInt 64 a).toNat &&& (BitVec.ofInt 64 n).toNat ≤ (BitVec.ofInt 64 n).toNat := Nat.and_le_right
    have h3 : ((BitVec.ofInt 64 n).toNat : Int) = n := by
      rw [BitVec.toNat_ofInt]
      have : n % (2 ^ 64 : Nat) = n := Int.emod_eq_of_lt h0 (by omega)
      omega
    omega
  have e : bitsAnd .i64 a n = ((BitVec.ofInt 64 a &&& BitVec.ofInt 64 n).toNat : Int) := by
    show IntKind.wrap .i64 ((BitVec.ofInt 64 a &&& BitVec.ofInt 64 n).toNat : Int) = _
    exact wrap_id (by omega) (by omega)
  rw [e]; omega
def hashAt (l : List Int) : Nat → Int
  | 0 => IntKind.wrap .i64 (770770 + (l.length : Int))
  | i + 1 => bitsAnd .i64 (IntKind.wrap .i64 ((IntKind.wrap .i64 ((IntKind.wrap .i64 (hashAt l i * 137)) + (IntKind.wrap .i64 (l.getD i 0)))) + 11)) 1073741823
end Go.Proofs.Ytffloigfgjoimaa.Ev
