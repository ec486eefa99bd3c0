/- What functions answer under the evaluator, as Lean terms, part 1. No condition. -/
import Derived.Test.YtahlghlpdcfbgaaTab
namespace Go.Proofs.Ytahlghlpdcfbgaa.Ev
open Go Go.Proofs
set_option linter.unusedVariables false
set_option maxRecDepth 100000
set_option maxHeartbeats 4000000
noncomputable section
/- laws.markJobS -/
def laws_markJobS_L1 (k : Nat) (G1 : (Int × Int × List (List T)) → Option Outs) : (Int × Int × List (List T)) → Option Outs := fun (v15, v16, w8) =>
 bif (decide (v16 < (w8.length : Int))) then
  chk (decide (0 ≤ v16) && decide (v16 < (w8.length : Int))) <|
  chk (decide (0 ≤ v16) && decide (v16 < ((put_ w8 v16.toNat 0 [.i v15]).length : Int))) <|
  chk (decide (0 ≤ v16) && decide (v16 < ((put_ (put_ w8 v16.toNat 0 [.i v15]) v16.toNat 1 [.i (IntKind.wrap .i64 (v15 + 1))]).length : Int))) <|
  chk (decide (0 ≤ v16) && decide (v16 < ((put_ (put_ (put_ w8 v16.toNat 0 [.i v15]) v16.toNat 1 [.i (IntKind.wrap .i64 (v15 + 1))]) v16.toNat 2 [.i (IntKind.wrap .i64 ((IntKind.wrap .i64 (v15 + 1)) + 1))]).length : Int))) <|
  chk (decide (0 ≤ v16) && decide (v16 < ((put_ (put_ (put_ (put_ w8 v16.toNat 0 [.i v15]) v16.toNat 1 [.i (IntKind.wrap .i64 (v15 + 1))]) v16.toNat 2 [.i (IntKind.wrap .i64 ((IntKind.wrap .i64 (v15 + 1)) + 1))]) v16.toNat 3 [.i (IntKind.wrap .i64 ((IntKind.wrap .i64 ((IntKind.wrap .i64 (v15 + 1)) + 1)) + 1))]).length : Int))) <|
  bindO (evalF E P0 k N.laws_markIntS [.r ((at_ (put_ (put_ (put_ (put_ w8 v16.toNat 0 [.i v15]) v16.toNat 1 [.i (IntKind.wrap .i64 (v15 + 1))]) v16.toNat 2 [.i (IntKind.wrap .i64 ((IntKind.wrap .i64 (v15 + 1)) + 1))]) v16.toNat 3 [.i (IntKind.wrap .i64 ((IntKind.wrap .i64 ((IntKind.wrap .i64 (v15 + 1)) + 1)) + 1))]) v16.toNat 4).asR), .v [.i (IntKind.wrap .i64 ((IntKind.wrap .i64 ((IntKind.wrap .i64 ((IntKind.wrap .i64 (v15 + 1)) + 1)) + 1)) + 1))]]) fun o190 =>
  chk (decide (0 ≤ v16) && decide (v16 < ((put_ (put_ (put_ (put_ (put_ w8 v16.toNat 0 [.i v15]) v16.toNat 1 [.i (IntKind.wrap .i64 (v15 + 1))]) v16.toNat 2 [.i (IntKind.wrap .i64 ((IntKind.wrap .i64 (v15 + 1)) + 1))]) v16.toNat 3 [.i (IntKind.wrap .i64 ((IntKind.wrap .i64 ((IntKind.wrap .i64 (v15 + 1)) + 1)) + 1))]) v16.toNat 4 [.r ((o190.vt 0 0).asR)]).length : Int))) <|
  chk (decide (0 ≤ v16) && decide (v16 < ((put_ (put_ (put_ (put_ (put_ (put_ w8 v16.toNat 0 [.i v15]) v16.toNat 1 [.i (IntKind.wrap .i64 (v15 + 1))]) v16.toNat 2 [.i (IntKind.wrap .i64 ((IntKind.wrap .i64 (v15 + 1)) + 1))]) v16.toNat 3 [.i (IntKind.wrap .i64 ((IntKind.wrap .i64 ((IntKind.wrap .i64 (v15 + 1)) + 1)) + 1))]) v16.toNat 4 [.r ((o190.vt 0 0).asR)]) v16.toNat 5 [.i (o190.t 0).asI]).length : Int))) <|
  bindO (evalF E P0 k N.laws_markIntS [.r ((at_ (put_ (put_ (put_ (put_ (put_ (put_ w8 v16.toNat 0 [.i v15]) v16.toNat 1 [.i (IntKind.wrap .i64 (v15 + 1))]) v16.toNat 2 [.i (IntKind.wrap .i64 ((IntKind.wrap .i64 (v15 + 1)) + 1))]) v16.toNat 3 [.i (IntKind.wrap .i64 ((IntKind.wrap .i64 ((IntKind.wrap .i64 (v15 + 1)) + 1)) + 1))]) v16.toNat 4 [.r ((o190.vt 0 0).asR)]) v16.toNat 5 [.i (o190.t 0).asI]) v16.toNat 6).asR), .v [.i (IntKind.wrap .i64 ((o190.t 0).asI + 1))]]) fun o192 =>
  chk (decide (0 ≤ v16) && decide (v16 < ((put_ (put_ (put_ (put_ (put_ (put_ (put_ w8 v16.toNat 0 [.i v15]) v16.toNat 1 [.i (IntKind.wrap .i64 (v15 + 1))]) v16.toNat 2 [.i (IntKind.wrap .i64 ((IntKind.wrap .i64 (v15 + 1)) + 1))]) v16.toNat 3 [.i (IntKind.wrap .i64 ((IntKind.wrap .i64 ((IntKind.wrap .i64 (v15 + 1)) + 1)) + 1))]) v16.toNat 4 [.r ((o190.vt 0 0).asR)]) v16.toNat 5 [.i (o190.t 0).asI]) v16.toNat 6 [.r ((o192.vt 0 0).asR)]).length : Int))) <|
  G1 ((IntKind.wrap .i64 ((o192.t 0).asI + 1)), (IntKind.wrap .i64 (v16 + 1)), (put_ (put_ (put_ (put_ (put_ (put_ (put_ (put_ w8 v16.toNat 0 [.i v15]) v16.toNat 1 [.i (IntKind.wrap .i64 (v15 + 1))]) v16.toNat 2 [.i (IntKind.wrap .i64 ((IntKind.wrap .i64 (v15 + 1)) + 1))]) v16.toNat 3 [.i (IntKind.wrap .i64 ((IntKind.wrap .i64 ((IntKind.wrap .i64 (v15 + 1)) + 1)) + 1))]) v16.toNat 4 [.r ((o190.vt 0 0).asR)]) v16.toNat 5 [.i (o190.t 0).asI]) v16.toNat 6 [.r ((o192.vt 0 0).asR)]) v16.toNat 7 [.i (o192.t 0).asI]))
 else
  some ⟨[.i v15], [[.r w8]]⟩
def laws_markJobS_k1 : List Nat := [0, 1, 4, 5, 73]
def laws_markJobS_S1 : (Int × Int × List (List T)) → St := fun (v15, v16, w8) => ⟨ofSl [(0, .ref (0, 0)), (1, .i .i64 v15), (4, .i .i64 0), (5, .i .i64 v16), (73, .skip)], Mem.put (ofMem [((0, 0), .deep 155 w8 none)]) modeNm .dead⟩
def laws_markJobS_l1 (k : Nat) (G1 : (Int × Int × List (List T)) → Option Outs) : (Int × Int × List (List T)) → Option Outs :=
  laws_markJobS_L1 k G1
def laws_markJobS_U (k : Nat) (a0 : List (List T)) (a1 : Int) (R1 : (Int × Int × List (List T)) → Option Outs) : Option Outs :=
 R1 (a1, 0, a0)
def laws_markJobS_u (k : Nat) (a0 : List (List T)) (a1 : Int) : Option Outs :=
  laws_markJobS_U k a0 a1 (fun v => fixN (laws_markJobS_l1 k) k v)
def laws_markJobS_it1 (k : Nat) (a0 : List (List T)) (a1 : Int) (js : List Nat) (j : Nat) (s : St) : Option Outs := iter E (LB E (evalF E P0 k) k [0] N.laws_markJobS [.sr, .sl, .sr, .bl]) [0] laws_markJobS_k1 (LK E (evalF E P0 k) k [0] N.laws_markJobS [.r a0, .v [.i a1]] [.sr, .sl, .sr, .bl] js) j s
theorem laws_markJobS_e (k : Nat) (a0 : List (List T)) (a1 : Int) : evalF E P0 (k + 1) N.laws_markJobS [.r a0, .v [.i a1]] = laws_markJobS_u k a0 a1 := by
  have e0 : evalF E P0 (k + 1) N.laws_markJobS [.r a0, .v [.i a1]] = laws_markJobS_U k a0 a1 (fun v => laws_markJobS_it1 k a0 a1 [] k (laws_markJobS_S1 v)) := by kernel_rfl
  have e1 : ∀ (j1 : Nat) (v : Int × Int × List (List T)), laws_markJobS_it1 k a0 a1 [] (j1 + 1) (laws_markJobS_S1 v) = laws_markJobS_L1 k (fun v => laws_markJobS_it1 k a0 a1 [] j1 (laws_markJobS_S1 v)) v := by
    intro j1 v; kernel_rfl
  have i1 : ∀ (j1 : Nat) (v : Int × Int × List (List T)), laws_markJobS_it1 k a0 a1 [] j1 (laws_markJobS_S1 v) = fixN (laws_markJobS_l1 k) j1 v := by
    intro j1 v
    refine iter_fix (laws_markJobS_S1) (laws_markJobS_l1 k) (fun j1 v => (e1 j1 v).trans ?_) j1 v
    unfold laws_markJobS_l1
    rfl
  rw [e0]; unfold laws_markJobS_u
  simp only [i1]
/- laws.heldIntSS -/
def laws_heldIntSS_L1 (k : Nat) (a0 : List (List T)) (G1 : (Int × Int) → Option Outs) : (Int × Int) → Option Outs := fun (v15, v16) =>
 bif (decide (v16 < (a0.length : Int))) then
  chk (decide (0 ≤ v16) && decide (v16 < (a0.length : Int))) <|
  bindO (evalF E P0 k N.laws_heldIntS [.v [.r (at_ a0 v16.toNat 0).asR], .v [.i v15]]) fun o96 =>
  bif (decide ((o96.t 0).asI < 0)) then some ⟨[.i (-1)], []⟩ else G1 ((o96.t 0).asI, (IntKind.wrap .i64 (v16 + 1)))
 else
  some ⟨[.i v15], []⟩
def laws_heldIntSS_k1 : List Nat := [0, 1, 4, 5, 20]
def laws_heldIntSS_S1 (a0 : List (List T)) : (Int × Int) → St := fun (v15, v16) => ⟨ofSl [(0, .sl 39 a0), (1, .i .i64 v15), (4, .i .i64 0), (5, .i .i64 v16), (20, .skip)], ofMem []⟩
def laws_heldIntSS_l1 (k : Nat) (a0 : List (List T)) (G1 : (Int × Int) → Option Outs) : (Int × Int) → Option Outs :=
  laws_heldIntSS_L1 k a0 G1
def laws_heldIntSS_U (k : Nat) (a0 : List (List T)) (a1 : Int) (R1 : (Int × Int) → Option Outs) : Option Outs :=
 R1 (a1, 0)
def laws_heldIntSS_u (k : Nat) (a0 : List (List T)) (a1 : Int) : Option Outs :=
  laws_heldIntSS_U k a0 a1 (fun v => fixN (laws_heldIntSS_l1 k a0) k v)
def laws_heldIntSS_it1 (k : Nat) (a0 : List (List T)) (a1 : Int) (js : List Nat) (j : Nat) (s : St) : Option Outs := iter E (LB E (evalF E P0 k) k [] N.laws_heldIntSS [.sr, .sl, .sr, .bl]) [] laws_heldIntSS_k1 (LK E (evalF E P0 k) k [] N.laws_heldIntSS [.v [.r a0], .v [.i a1]] [.sr, .sl, .sr, .bl] js) j s
theorem laws_heldIntSS_e (k : Nat) (a0 : List (List T)) (a1 : Int) : evalF E P0 (k + 1) N.laws_heldIntSS [.v [.r a0], .v [.i a1]] = laws_heldIntSS_u k a0 a1 := by
  have e0 : evalF E P0 (k + 1) N.laws_heldIntSS [.v [.r a0], .v [.i a1]] = laws_heldIntSS_U k a0 a1 (fun v => laws_heldIntSS_it1 k a0 a1 [] k (laws_heldIntSS_S1 a0 v)) := by kernel_rfl
  have e1 : ∀ (j1 : Nat) (v : Int × Int), laws_heldIntSS_it1 k a0 a1 [] (j1 + 1) (laws_heldIntSS_S1 a0 v) = laws_heldIntSS_L1 k a0 (fun v => laws_heldIntSS_it1 k a0 a1 [] j1 (laws_heldIntSS_S1 a0 v)) v := by
    intro j1 v; kernel_rfl
  have i1 : ∀ (j1 : Nat) (v : Int × Int), laws_heldIntSS_it1 k a0 a1 [] j1 (laws_heldIntSS_S1 a0 v) = fixN (laws_heldIntSS_l1 k a0) j1 v := by
    intro j1 v
    refine iter_fix (laws_heldIntSS_S1 a0) (laws_heldIntSS_l1 k a0) (fun j1 v => (e1 j1 v).trans ?_) j1 v
    unfold laws_heldIntSS_l1
    rfl
  rw [e0]; unfold laws_heldIntSS_u
  simp only [i1]
/- laws.heldWrS -/
def laws_heldWrS_L1 (k : Nat) (a0 : List (List T)) (G1 : (Int × Int) → Option Outs) : (Int × Int) → Option Outs := fun (v15, v16) =>
 bif (decide (v16 < (a0.length : Int))) then
  chk (decide (0 ≤ v16) && decide (v16 < (a0.length : Int))) <|
  bif ((at_ a0 v16.toNat 0).asI != v15) then
   some ⟨[.i (-1)], []⟩
  else
   chk (decide (0 ≤ v16) && decide (v16 < (a0.length : Int))) <|
   bindO (evalF E P0 k N.laws_heldIntS [.v [.r (at_ a0 v16.toNat 1).asR], .v [.i (IntKind.wrap .i64 (v15 + 1))]]) fun o96 =>
   bif (decide ((o96.t 0).asI < 0)) then some ⟨[.i (-1)], []⟩ else G1 ((o96.t 0).asI, (IntKind.wrap .i64 (v16 + 1)))
 else
  some ⟨[.i v15], []⟩
def laws_heldWrS_k1 : List Nat := [0, 1, 4, 5, 30]
def laws_heldWrS_S1 (a0 : List (List T)) : (Int × Int) → St := fun (v15, v16) => ⟨ofSl [(0, .sl 174 a0), (1, .i .i64 v15), (4, .i .i64 0), (5, .i .i64 v16), (30, .skip)], ofMem []⟩
def laws_heldWrS_l1 (k : Nat) (a0 : List (List T)) (G1 : (Int × Int) → Option Outs) : (Int × Int) → Option Outs :=
  laws_heldWrS_L1 k a0 G1
def laws_heldWrS_U (k : Nat) (a0 : List (List T)) (a1 : Int) (R1 : (Int × Int) → Option Outs) : Option Outs :=
 R1 (a1, 0)
def laws_heldWrS_u (k : Nat) (a0 : List (List T)) (a1 : Int) : Option Outs :=
  laws_heldWrS_U k a0 a1 (fun v => fixN (laws_heldWrS_l1 k a0) k v)
def laws_heldWrS_it1 (k : Nat) (a0 : List (List T)) (a1 : Int) (js : List Nat) (j : Nat) (s : St) : Option Outs := iter E (LB E (evalF E P0 k) k [] N.laws_heldWrS [.sr, .sl, .sr, .bl]) [] laws_heldWrS_k1 (LK E (evalF E P0 k) k [] N.laws_heldWrS [.v [.r a0], .v [.i a1]] [.sr, .sl, .sr, .bl] js) j s
theorem laws_heldWrS_e (k : Nat) (a0 : List (List T)) (a1 : Int) : evalF E P0 (k + 1) N.laws_heldWrS [.v [.r a0], .v [.i a1]] = laws_heldWrS_u k a0 a1 := by
  have e0 : evalF E P0 (k + 1) N.laws_heldWrS [.v [.r a0], .v [.i a1]] = laws_heldWrS_U k a0 a1 (fun v => laws_heldWrS_it1 k a0 a1 [] k (laws_heldWrS_S1 a0 v)) := by kernel_rfl
  have e1 : ∀ (j1 : Nat) (v : Int × Int), laws_heldWrS_it1 k a0 a1 [] (j1 + 1) (laws_heldWrS_S1 a0 v) = laws_heldWrS_L1 k a0 (fun v => laws_heldWrS_it1 k a0 a1 [] j1 (laws_heldWrS_S1 a0 v)) v := by
    intro j1 v; kernel_rfl
  have i1 : ∀ (j1 : Nat) (v : Int × Int), laws_heldWrS_it1 k a0 a1 [] j1 (laws_heldWrS_S1 a0 v) = fixN (laws_heldWrS_l1 k a0) j1 v := by
    intro j1 v
    refine iter_fix (laws_heldWrS_S1 a0) (laws_heldWrS_l1 k a0) (fun j1 v => (e1 j1 v).trans ?_) j1 v
    unfold laws_heldWrS_l1
    rfl
  rw [e0]; unfold laws_heldWrS_u
  simp only [i1]
/- laws.heldMemS -/
def laws_heldMemS_L1 (k : Nat) (a0 : List (List T)) (G1 : (Int × Int) → Option Outs) : (Int × Int) → Option Outs := fun (v15, v16) =>
 bif (decide (v16 < (a0.length : Int))) then
  chk (decide (0 ≤ v16) && decide (v16 < (a0.length : Int))) <|
  bindO (evalF E P0 k N.laws_heldIntSS [.v [.r (at_ a0 v16.toNat 0).asR], .v [.i v15]]) fun o284 =>
  bif (decide ((o284.t 0).asI < 0)) then
   some ⟨[.i (-1)], []⟩
  else
   chk (decide (0 ≤ v16) && decide (v16 < (a0.length : Int))) <|
   bindO (evalF E P0 k N.laws_heldWrS [.v [.r (at_ a0 v16.toNat 1).asR], .v [.i (o284.t 0).asI]]) fun o286 =>
   bif (decide ((o286.t 0).asI < 0)) then
    some ⟨[.i (-1)], []⟩
   else
    chk (decide (0 ≤ v16) && decide (v16 < (a0.length : Int))) <|
    bif (!((at_ a0 v16.toNat 2).asB == ((Int.tmod (o286.t 0).asI 3) == 0))) then
     some ⟨[.i (-1)], []⟩
    else
     chk (decide (0 ≤ v16) && decide (v16 < (a0.length : Int))) <|
     bindO (evalF E P0 k N.laws_heldIntS [.v [.r (at_ a0 v16.toNat 3).asR], .v [.i (IntKind.wrap .i64 ((o286.t 0).asI + 1))]]) fun o288 =>
     bif (decide ((o288.t 0).asI < 0)) then some ⟨[.i (-1)], []⟩ else G1 ((o288.t 0).asI, (IntKind.wrap .i64 (v16 + 1)))
 else
  some ⟨[.i v15], []⟩
def laws_heldMemS_k1 : List Nat := [0, 1, 4, 5, 50]
def laws_heldMemS_S1 (a0 : List (List T)) : (Int × Int) → St := fun (v15, v16) => ⟨ofSl [(0, .sl 139 a0), (1, .i .i64 v15), (4, .i .i64 0), (5, .i .i64 v16), (50, .skip)], ofMem []⟩
def laws_heldMemS_l1 (k : Nat) (a0 : List (List T)) (G1 : (Int × Int) → Option Outs) : (Int × Int) → Option Outs :=
  laws_heldMemS_L1 k a0 G1
def laws_heldMemS_U (k : Nat) (a0 : List (List T)) (a1 : Int) (R1 : (Int × Int) → Option Outs) : Option Outs :=
 R1 (a1, 0)
def laws_heldMemS_u (k : Nat) (a0 : List (List T)) (a1 : Int) : Option Outs :=
  laws_heldMemS_U k a0 a1 (fun v => fixN (laws_heldMemS_l1 k a0) k v)
def laws_heldMemS_it1 (k : Nat) (a0 : List (List T)) (a1 : Int) (js : List Nat) (j : Nat) (s : St) : Option Outs := iter E (LB E (evalF E P0 k) k [] N.laws_heldMemS [.sr, .sl, .sr, .bl]) [] laws_heldMemS_k1 (LK E (evalF E P0 k) k [] N.laws_heldMemS [.v [.r a0], .v [.i a1]] [.sr, .sl, .sr, .bl] js) j s
theorem laws_heldMemS_e (k : Nat) (a0 : List (List T)) (a1 : Int) : evalF E P0 (k + 1) N.laws_heldMemS [.v [.r a0], .v [.i a1]] = laws_heldMemS_u k a0 a1 := by
  have e0 : evalF E P0 (k + 1) N.laws_heldMemS [.v [.r a0], .v [.i a1]] = laws_heldMemS_U k a0 a1 (fun v => laws_heldMemS_it1 k a0 a1 [] k (laws_heldMemS_S1 a0 v)) := by kernel_rfl
  have e1 : ∀ (j1 : Nat) (v : Int × Int), laws_heldMemS_it1 k a0 a1 [] (j1 + 1) (laws_heldMemS_S1 a0 v) = laws_heldMemS_L1 k a0 (fun v => laws_heldMemS_it1 k a0 a1 [] j1 (laws_heldMemS_S1 a0 v)) v := by
    intro j1 v; kernel_rfl
  have i1 : ∀ (j1 : Nat) (v : Int × Int), laws_heldMemS_it1 k a0 a1 [] j1 (laws_heldMemS_S1 a0 v) = fixN (laws_heldMemS_l1 k a0) j1 v := by
    intro j1 v
    refine iter_fix (laws_heldMemS_S1 a0) (laws_heldMemS_l1 k a0) (fun j1 v => (e1 j1 v).trans ?_) j1 v
    unfold laws_heldMemS_l1
    rfl
  rw [e0]; unfold laws_heldMemS_u
  simp only [i1]
/- laws.heldEntS -/
def laws_heldEntS_L1 (k : Nat) (a0 : List (List T)) (G1 : (Int × Int) → Option Outs) : (Int × Int) → Option Outs := fun (v15, v16) =>
 bif (decide (v16 < (a0.length : Int))) then
  chk (decide (0 ≤ v16) && decide (v16 < (a0.length : Int))) <|
  bif ((at_ a0 v16.toNat 0).asI != v15) then
   some ⟨[.i (-1)], []⟩
  else
   chk (decide (0 ≤ v16) && decide (v16 < (a0.length : Int))) <|
   bindO (evalF E P0 k N.laws_heldIntS [.v [.r (at_ a0 v16.toNat 1).asR], .v [.i (IntKind.wrap .i64 (v15 + 1))]]) fun o96 =>
   bif (decide ((o96.t 0).asI < 0)) then some ⟨[.i (-1)], []⟩ else G1 ((o96.t 0).asI, (IntKind.wrap .i64 (v16 + 1)))
 else
  some ⟨[.i v15], []⟩
def laws_heldEntS_k1 : List Nat := [0, 1, 4, 5, 30]
def laws_heldEntS_S1 (a0 : List (List T)) : (Int × Int) → St := fun (v15, v16) => ⟨ofSl [(0, .sl 166 a0), (1, .i .i64 v15), (4, .i .i64 0), (5, .i .i64 v16), (30, .skip)], ofMem []⟩
def laws_heldEntS_l1 (k : Nat) (a0 : List (List T)) (G1 : (Int × Int) → Option Outs) : (Int × Int) → Option Outs :=
  laws_heldEntS_L1 k a0 G1
def laws_heldEntS_U (k : Nat) (a0 : List (List T)) (a1 : Int) (R1 : (Int × Int) → Option Outs) : Option Outs :=
 R1 (a1, 0)
def laws_heldEntS_u (k : Nat) (a0 : List (List T)) (a1 : Int) : Option Outs :=
  laws_heldEntS_U k a0 a1 (fun v => fixN (laws_heldEntS_l1 k a0) k v)
def laws_heldEntS_it1 (k : Nat) (a0 : List (List T)) (a1 : Int) (js : List Nat) (j : Nat) (s : St) : Option Outs := iter E (LB E (evalF E P0 k) k [] N.laws_heldEntS [.sr, .sl, .sr, .bl]) [] laws_heldEntS_k1 (LK E (evalF E P0 k) k [] N.laws_heldEntS [.v [.r a0], .v [.i a1]] [.sr, .sl, .sr, .bl] js) j s
theorem laws_heldEntS_e (k : Nat) (a0 : List (List T)) (a1 : Int) : evalF E P0 (k + 1) N.laws_heldEntS [.v [.r a0], .v [.i a1]] = laws_heldEntS_u k a0 a1 := by
  have e0 : evalF E P0 (k + 1) N.laws_heldEntS [.v [.r a0], .v [.i a1]] = laws_heldEntS_U k a0 a1 (fun v => laws_heldEntS_it1 k a0 a1 [] k (laws_heldEntS_S1 a0 v)) := by kernel_rfl
  have e1 : ∀ (j1 : Nat) (v : Int × Int), laws_heldEntS_it1 k a0 a1 [] (j1 + 1) (laws_heldEntS_S1 a0 v) = laws_heldEntS_L1 k a0 (fun v => laws_heldEntS_it1 k a0 a1 [] j1 (laws_heldEntS_S1 a0 v)) v := by
    intro j1 v; kernel_rfl
  have i1 : ∀ (j1 : Nat) (v : Int × Int), laws_heldEntS_it1 k a0 a1 [] j1 (laws_heldEntS_S1 a0 v) = fixN (laws_heldEntS_l1 k a0) j1 v := by
    intro j1 v
    refine iter_fix (laws_heldEntS_S1 a0) (laws_heldEntS_l1 k a0) (fun j1 v => (e1 j1 v).trans ?_) j1 v
    unfold laws_heldEntS_l1
    rfl
  rw [e0]; unfold laws_heldEntS_u
  simp only [i1]
/- laws.heldArr -/
def laws_heldArr_u (k : Nat) (a0_0 : Int) (a0_1 : Int) (a0_2 : Int) (a0_3 : List (List T)) (a0_4 : Int) (a0_5 : Int) (a0_6 : Int) (a0_7 : Int) (a0_8 : Int) (a0_9 : List (List T)) (a0_10 : Int) (a0_11 : Bool) (a0_12 : Bool) (a1 : Int) : Option Outs :=
 bindO (evalF E P0 k N.laws_heldMemS [.v [.r a0_3], .v [.i a1]]) fun o2 =>
 bif (decide ((o2.t 0).asI < 0)) then
  some ⟨[.i (-1)], []⟩
 else
  bindO (evalF E P0 k N.laws_heldEntS [.v [.r a0_9], .v [.i (o2.t 0).asI]]) fun o4 =>
  bif (decide ((o4.t 0).asI < 0)) then some ⟨[.i (-1)], []⟩ else some ⟨[.i (o4.t 0).asI], []⟩
theorem laws_heldArr_e (k : Nat) (a0_0 : Int) (a0_1 : Int) (a0_2 : Int) (a0_3 : List (List T)) (a0_4 : Int) (a0_5 : Int) (a0_6 : Int) (a0_7 : Int) (a0_8 : Int) (a0_9 : List (List T)) (a0_10 : Int) (a0_11 : Bool) (a0_12 : Bool) (a1 : Int) : evalF E P0 (k + 1) N.laws_heldArr [.v [.i a0_0, .i a0_1, .i a0_2, .r a0_3, .i a0_4, .i a0_5, .i a0_6, .i a0_7, .i a0_8, .r a0_9, .i a0_10, .b a0_11, .b a0_12], .v [.i a1]] = laws_heldArr_u k a0_0 a0_1 a0_2 a0_3 a0_4 a0_5 a0_6 a0_7 a0_8 a0_9 a0_10 a0_11 a0_12 a1 := by kernel_rfl
/- laws.heldJobS -/
def laws_heldJobS_L1 (k : Nat) (a0 : List (List T)) (G1 : (Int × Int) → Option Outs) : (Int × Int) → Option Outs := fun (v15, v16) =>
 bif (decide (v16 < (a0.length : Int))) then
  chk (decide (0 ≤ v16) && decide (v16 < (a0.length : Int))) <|
  bif ((at_ a0 v16.toNat 0).asI != v15) then
   some ⟨[.i (-1)], []⟩
  else
   chk (decide (0 ≤ v16) && decide (v16 < (a0.length : Int))) <|
   bif ((at_ a0 v16.toNat 1).asI != (IntKind.wrap .i64 (v15 + 1))) then
    some ⟨[.i (-1)], []⟩
   else
    chk (decide (0 ≤ v16) && decide (v16 < (a0.length : Int))) <|
    bif ((at_ a0 v16.toNat 2).asI != (IntKind.wrap .i64 ((IntKind.wrap .i64 (v15 + 1)) + 1))) then
     some ⟨[.i (-1)], []⟩
    else
     chk (decide (0 ≤ v16) && decide (v16 < (a0.length : Int))) <|
     bif ((at_ a0 v16.toNat 3).asI != (IntKind.wrap .i64 ((IntKind.wrap .i64 ((IntKind.wrap .i64 (v15 + 1)) + 1)) + 1))) then
      some ⟨[.i (-1)], []⟩
     else
      chk (decide (0 ≤ v16) && decide (v16 < (a0.length : Int))) <|
      bindO (evalF E P0 k N.laws_heldIntS [.v [.r (at_ a0 v16.toNat 4).asR], .v [.i (IntKind.wrap .i64 ((IntKind.wrap .i64 ((IntKind.wrap .i64 ((IntKind.wrap .i64 (v15 + 1)) + 1)) + 1)) + 1))]]) fun o190 =>
      bif (decide ((o190.t 0).asI < 0)) then
       some ⟨[.i (-1)], []⟩
      else
       chk (decide (0 ≤ v16) && decide (v16 < (a0.length : Int))) <|
       bif ((at_ a0 v16.toNat 5).asI != (o190.t 0).asI) then
        some ⟨[.i (-1)], []⟩
       else
        chk (decide (0 ≤ v16) && decide (v16 < (a0.length : Int))) <|
        bindO (evalF E P0 k N.laws_heldIntS [.v [.r (at_ a0 v16.toNat 6).asR], .v [.i (IntKind.wrap .i64 ((o190.t 0).asI + 1))]]) fun o192 =>
        bif (decide ((o192.t 0).asI < 0)) then
         some ⟨[.i (-1)], []⟩
        else
         chk (decide (0 ≤ v16) && decide (v16 < (a0.length : Int))) <|
         bif ((at_ a0 v16.toNat 7).asI != (o192.t 0).asI) then
          some ⟨[.i (-1)], []⟩
         else
          G1 ((IntKind.wrap .i64 ((o192.t 0).asI + 1)), (IntKind.wrap .i64 (v16 + 1)))
 else
  some ⟨[.i v15], []⟩
def laws_heldJobS_k1 : List Nat := [0, 1, 4, 5, 89]
def laws_heldJobS_S1 (a0 : List (List T)) : (Int × Int) → St := fun (v15, v16) => ⟨ofSl [(0, .sl 155 a0), (1, .i .i64 v15), (4, .i .i64 0), (5, .i .i64 v16), (89, .skip)], ofMem []⟩
def laws_heldJobS_l1 (k : Nat) (a0 : List (List T)) (G1 : (Int × Int) → Option Outs) : (Int × Int) → Option Outs :=
  laws_heldJobS_L1 k a0 G1
def laws_heldJobS_U (k : Nat) (a0 : List (List T)) (a1 : Int) (R1 : (Int × Int) → Option Outs) : Option Outs :=
 R1 (a1, 0)
def laws_heldJobS_u (k : Nat) (a0 : List (List T)) (a1 : Int) : Option Outs :=
  laws_heldJobS_U k a0 a1 (fun v => fixN (laws_heldJobS_l1 k a0) k v)
def laws_heldJobS_it1 (k : Nat) (a0 : List (List T)) (a1 : Int) (js : List Nat) (j : Nat) (s : St) : Option Outs := iter E (LB E (evalF E P0 k) k [] N.laws_heldJobS [.sr, .sl, .sr, .bl]) [] laws_heldJobS_k1 (LK E (evalF E P0 k) k [] N.laws_heldJobS [.v [.r a0], .v [.i a1]] [.sr, .sl, .sr, .bl] js) j s
theorem laws_heldJobS_e (k : Nat) (a0 : List (List T)) (a1 : Int) : evalF E P0 (k + 1) N.laws_heldJobS [.v [.r a0], .v [.i a1]] = laws_heldJobS_u k a0 a1 := by
  have e0 : evalF E P0 (k + 1) N.laws_heldJobS [.v [.r a0], .v [.i a1]] = laws_heldJobS_U k a0 a1 (fun v => laws_heldJobS_it1 k a0 a1 [] k (laws_heldJobS_S1 a0 v)) := by kernel_rfl
  have e1 : ∀ (j1 : Nat) (v : Int × Int), laws_heldJobS_it1 k a0 a1 [] (j1 + 1) (laws_heldJobS_S1 a0 v) = laws_heldJobS_L1 k a0 (fun v => laws_heldJobS_it1 k a0 a1 [] j1 (laws_heldJobS_S1 a0 v)) v := by
    intro j1 v; kernel_rfl
  have i1 : ∀ (j1 : Nat) (v : Int × Int), laws_heldJobS_it1 k a0 a1 [] j1 (laws_heldJobS_S1 a0 v) = fixN (laws_heldJobS_l1 k a0) j1 v := by
    intro j1 v
    refine iter_fix (laws_heldJobS_S1 a0) (laws_heldJobS_l1 k a0) (fun j1 v => (e1 j1 v).trans ?_) j1 v
    unfold laws_heldJobS_l1
    rfl
  rw [e0]; unfold laws_heldJobS_u
  simp only [i1]
/- laws.heldTurnS -/
def laws_heldTurnS_L1 (k : Nat) (a0 : List (List T)) (G1 : (Int × Int) → Option Outs) : (Int × Int) → Option Outs := fun (v15, v16) =>
 bif (decide (v16 < (a0.length : Int))) then
  chk (decide (0 ≤ v16) && decide (v16 < (a0.length : Int))) <|
  bif ((at_ a0 v16.toNat 0).asI != v15) then
   some ⟨[.i (-1)], []⟩
  else
   chk (decide (0 ≤ v16) && decide (v16 < (a0.length : Int))) <|
   bif ((at_ a0 v16.toNat 1).asI != (IntKind.wrap .i64 (v15 + 1))) then
    some ⟨[.i (-1)], []⟩
   else
    chk (decide (0 ≤ v16) && decide (v16 < (a0.length : Int))) <|
    bif ((at_ a0 v16.toNat 2).asI != (IntKind.wrap .i64 ((IntKind.wrap .i64 (v15 + 1)) + 1))) then
     some ⟨[.i (-1)], []⟩
    else
     chk (decide (0 ≤ v16) && decide (v16 < (a0.length : Int))) <|
     bif ((at_ a0 v16.toNat 3).asI != (IntKind.wrap .i64 ((IntKind.wrap .i64 ((IntKind.wrap .i64 (v15 + 1)) + 1)) + 1))) then
      some ⟨[.i (-1)], []⟩
     else
      chk (decide (0 ≤ v16) && decide (v16 < (a0.length : Int))) <|
      bindO (evalF E P0 k N.laws_heldIntS [.v [.r (at_ a0 v16.toNat 4).asR], .v [.i (IntKind.wrap .i64 ((IntKind.wrap .i64 ((IntKind.wrap .i64 ((IntKind.wrap .i64 (v15 + 1)) + 1)) + 1)) + 1))]]) fun o190 =>
      bif (decide ((o190.t 0).asI < 0)) then
       some ⟨[.i (-1)], []⟩
      else
       chk (decide (0 ≤ v16) && decide (v16 < (a0.length : Int))) <|
       bif ((at_ a0 v16.toNat 5).asI != (o190.t 0).asI) then
        some ⟨[.i (-1)], []⟩
       else
        chk (decide (0 ≤ v16) && decide (v16 < (a0.length : Int))) <|
        bif ((at_ a0 v16.toNat 6).asI != (IntKind.wrap .i64 ((o190.t 0).asI + 1))) then
         some ⟨[.i (-1)], []⟩
        else
         chk (decide (0 ≤ v16) && decide (v16 < (a0.length : Int))) <|
         bindO (evalF E P0 k N.laws_heldIntS [.v [.r (at_ a0 v16.toNat 7).asR], .v [.i (IntKind.wrap .i64 ((IntKind.wrap .i64 ((o190.t 0).asI + 1)) + 1))]]) fun o192 =>
         bif (decide ((o192.t 0).asI < 0)) then some ⟨[.i (-1)], []⟩ else G1 ((o192.t 0).asI, (IntKind.wrap .i64 (v16 + 1)))
 else
  some ⟨[.i v15], []⟩
def laws_heldTurnS_k1 : List Nat := [0, 1, 4, 5, 92]
def laws_heldTurnS_S1 (a0 : List (List T)) : (Int × Int) → St := fun (v15, v16) => ⟨ofSl [(0, .sl 63 a0), (1, .i .i64 v15), (4, .i .i64 0), (5, .i .i64 v16), (92, .skip)], ofMem []⟩
def laws_heldTurnS_l1 (k : Nat) (a0 : List (List T)) (G1 : (Int × Int) → Option Outs) : (Int × Int) → Option Outs :=
  laws_heldTurnS_L1 k a0 G1
def laws_heldTurnS_U (k : Nat) (a0 : List (List T)) (a1 : Int) (R1 : (Int × Int) → Option Outs) : Option Outs :=
 R1 (a1, 0)
def laws_heldTurnS_u (k : Nat) (a0 : List (List T)) (a1 : Int) : Option Outs :=
  laws_heldTurnS_U k a0 a1 (fun v => fixN (laws_heldTurnS_l1 k a0) k v)
def laws_heldTurnS_it1 (k : Nat) (a0 : List (List T)) (a1 : Int) (js : List Nat) (j : Nat) (s : St) : Option Outs := iter E (LB E (evalF E P0 k) k [] N.laws_heldTurnS [.sr, .sl, .sr, .bl]) [] laws_heldTurnS_k1 (LK E (evalF E P0 k) k [] N.laws_heldTurnS [.v [.r a0], .v [.i a1]] [.sr, .sl, .sr, .bl] js) j s
theorem laws_heldTurnS_e (k : Nat) (a0 : List (List T)) (a1 : Int) : evalF E P0 (k + 1) N.laws_heldTurnS [.v [.r a0], .v [.i a1]] = laws_heldTurnS_u k a0 a1 := by
  have e0 : evalF E P0 (k + 1) N.laws_heldTurnS [.v [.r a0], .v [.i a1]] = laws_heldTurnS_U k a0 a1 (fun v => laws_heldTurnS_it1 k a0 a1 [] k (laws_heldTurnS_S1 a0 v)) := by kernel_rfl
  have e1 : ∀ (j1 : Nat) (v : Int × Int), laws_heldTurnS_it1 k a0 a1 [] (j1 + 1) (laws_heldTurnS_S1 a0 v) = laws_heldTurnS_L1 k a0 (fun v => laws_heldTurnS_it1 k a0 a1 [] j1 (laws_heldTurnS_S1 a0 v)) v := by
    intro j1 v; kernel_rfl
  have i1 : ∀ (j1 : Nat) (v : Int × Int), laws_heldTurnS_it1 k a0 a1 [] j1 (laws_heldTurnS_S1 a0 v) = fixN (laws_heldTurnS_l1 k a0) j1 v := by
    intro j1 v
    refine iter_fix (laws_heldTurnS_S1 a0) (laws_heldTurnS_l1 k a0) (fun j1 v => (e1 j1 v).trans ?_) j1 v
    unfold laws_heldTurnS_l1
    rfl
  rw [e0]; unfold laws_heldTurnS_u
  simp only [i1]
/- laws.heldEng -/
def laws_heldEng_u (k : Nat) (a0_0 : Int) (a0_1 : Int) (a0_2 : Int) (a0_3 : List (List T)) (a0_4 : Int) (a0_5 : Int) (a0_6 : Int) (a0_7 : Int) (a0_8 : Int) (a0_9 : List (List T)) (a0_10 : Int) (a0_11 : Bool) (a0_12 : Bool) (a0_13 : List (List T)) (a0_14 : List (List T)) (a0_15 : List (List T)) (a0_16 : List (List T)) (a1 : Int) : Option Outs :=
 bindO (evalF E P0 k N.laws_heldArr [.v [.i a0_0, .i a0_1, .i a0_2, .r a0_3, .i a0_4, .i a0_5, .i a0_6, .i a0_7, .i a0_8, .r a0_9, .i a0_10, .b a0_11, .b a0_12], .v [.i a1]]) fun o2 =>
 bif (decide ((o2.t 0).asI < 0)) then
  some ⟨[.i (-1)], []⟩
 else
  bindO (evalF E P0 k N.laws_heldCmdS [.v [.r a0_13], .v [.i (o2.t 0).asI]]) fun o4 =>
  bif (decide ((o4.t 0).asI < 0)) then
   some ⟨[.i (-1)], []⟩
  else
   bindO (evalF E P0 k N.laws_heldJobS [.v [.r a0_14], .v [.i (o4.t 0).asI]]) fun o6 =>
   bif (decide ((o6.t 0).asI < 0)) then
    some ⟨[.i (-1)], []⟩
   else
    bindO (evalF E P0 k N.laws_heldAnsS [.v [.r a0_15], .v [.i (o6.t 0).asI]]) fun o8 =>
    bif (decide ((o8.t 0).asI < 0)) then
     some ⟨[.i (-1)], []⟩
    else
     bindO (evalF E P0 k N.laws_heldTurnS [.v [.r a0_16], .v [.i (o8.t 0).asI]]) fun o10 =>
     bif (decide ((o10.t 0).asI < 0)) then some ⟨[.i (-1)], []⟩ else some ⟨[.i (o10.t 0).asI], []⟩
theorem laws_heldEng_e (k : Nat) (a0_0 : Int) (a0_1 : Int) (a0_2 : Int) (a0_3 : List (List T)) (a0_4 : Int) (a0_5 : Int) (a0_6 : Int) (a0_7 : Int) (a0_8 : Int) (a0_9 : List (List T)) (a0_10 : Int) (a0_11 : Bool) (a0_12 : Bool) (a0_13 : List (List T)) (a0_14 : List (List T)) (a0_15 : List (List T)) (a0_16 : List (List T)) (a1 : Int) : evalF E P0 (k + 1) N.laws_heldEng [.v [.i a0_0, .i a0_1, .i a0_2, .r a0_3, .i a0_4, .i a0_5, .i a0_6, .i a0_7, .i a0_8, .r a0_9, .i a0_10, .b a0_11, .b a0_12, .r a0_13, .r a0_14, .r a0_15, .r a0_16], .v [.i a1]] = laws_heldEng_u k a0_0 a0_1 a0_2 a0_3 a0_4 a0_5 a0_6 a0_7 a0_8 a0_9 a0_10 a0_11 a0_12 a0_13 a0_14 a0_15 a0_16 a1 := by kernel_rfl
/- laws.at -/
def laws_at_u (k : Nat) (a0 : List (List T)) (a1 : Int) : Option Outs :=
 bif (decide (a1 < (a0.length : Int))) then
  chk (decide (0 ≤ a1) && decide (a1 < (a0.length : Int))) <|
  some ⟨[.i (IntKind.wrap .i64 (at_ a0 a1.toNat 0).asI)], []⟩
 else
  some ⟨[.i (Int.tmod (IntKind.wrap .i64 ((IntKind.wrap .i64 (a1 * 31)) + (IntKind.wrap .i64 ((a0.length : Int) * 7)))) 256)], []⟩
theorem laws_at_e (k : Nat) (a0 : List (List T)) (a1 : Int) : evalF E P0 (k + 1) N.laws_at [.v [.r a0], .v [.i a1]] = laws_at_u k a0 a1 := by kernel_rfl
/- impl.copyMems -/
def impl_copyMems_L1 (k : Nat) (a0 : List (List T)) (G1 : (Int × List (List T)) → Option Outs) : (Int × List (List T)) → Option Outs := fun (v8, w8) =>
 bif (decide (v8 < (a0.length : Int))) then
  chk (decide (0 ≤ v8) && decide (v8 < (a0.length : Int))) <|
  bindO (evalF E P0 k N.impl_copyMem [.v [.r (at_ a0 v8.toNat 0).asR, .r (at_ a0 v8.toNat 1).asR, .b (at_ a0 v8.toNat 2).asB, .r (at_ a0 v8.toNat 3).asR]]) fun o48 =>
  chk (decide ((w8.length + ([[.r (o48.t 0).asR, .r (o48.t 1).asR, .b (o48.t 2).asB, .r (o48.t 3).asR]] : List (List T)).length) * 80 ≤ 140737488355328)) <|
  G1 ((IntKind.wrap .i64 (v8 + 1)), (w8 ++ [[.r (o48.t 0).asR, .r (o48.t 1).asR, .b (o48.t 2).asB, .r (o48.t 3).asR]]))
 else
  some ⟨[.r w8], []⟩
def impl_copyMems_k1 : List Nat := [2, 3, 7, 8, 9, 19]
def impl_copyMems_S1 (a0 : List (List T)) : (Int × List (List T)) → St := fun (v8, w8) => ⟨ofSl [(2, .ref (2, 0)), (3, .ref (3, 0)), (7, .sl 139 a0), (8, .i .i64 (a0.length : Int)), (9, .i .i64 v8), (19, .skip)], ofMem [((2, 0), .row 139 true []), ((3, 0), .row 139 true w8)]⟩
def impl_copyMems_l1 (k : Nat) (a0 : List (List T)) (G1 : (Int × List (List T)) → Option Outs) : (Int × List (List T)) → Option Outs :=
  impl_copyMems_L1 k a0 G1
def impl_copyMems_U (k : Nat) (a0 : List (List T)) (R1 : (Int × List (List T)) → Option Outs) : Option Outs :=
 R1 (0, [])
def impl_copyMems_u (k : Nat) (a0 : List (List T)) : Option Outs :=
  impl_copyMems_U k a0 (fun v => fixN (impl_copyMems_l1 k a0) k v)
def impl_copyMems_it1 (k : Nat) (a0 : List (List T)) (js : List Nat) (j : Nat) (s : St) : Option Outs := iter E (LB E (evalF E P0 k) k [] N.impl_copyMems [.sr, .sr, .sl, .sr, .bl]) [] impl_copyMems_k1 (LK E (evalF E P0 k) k [] N.impl_copyMems [.v [.r a0]] [.sr, .sr, .sl, .sr, .bl] js) j s
theorem impl_copyMems_e (k : Nat) (a0 : List (List T)) : evalF E P0 (k + 1) N.impl_copyMems [.v [.r a0]] = impl_copyMems_u k a0 := by
  have e0 : evalF E P0 (k + 1) N.impl_copyMems [.v [.r a0]] = impl_copyMems_U k a0 (fun v => impl_copyMems_it1 k a0 [] k (impl_copyMems_S1 a0 v)) := by kernel_rfl
  have e1 : ∀ (j1 : Nat) (v : Int × List (List T)), impl_copyMems_it1 k a0 [] (j1 + 1) (impl_copyMems_S1 a0 v) = impl_copyMems_L1 k a0 (fun v => impl_copyMems_it1 k a0 [] j1 (impl_copyMems_S1 a0 v)) v := by
    intro j1 v; kernel_rfl
  have i1 : ∀ (j1 : Nat) (v : Int × List (List T)), impl_copyMems_it1 k a0 [] j1 (impl_copyMems_S1 a0 v) = fixN (impl_copyMems_l1 k a0) j1 v := by
    intro j1 v
    refine iter_fix (impl_copyMems_S1 a0) (impl_copyMems_l1 k a0) (fun j1 v => (e1 j1 v).trans ?_) j1 v
    unfold impl_copyMems_l1
    rfl
  rw [e0]; unfold impl_copyMems_u
  simp only [i1]
/- impl.copyArr -/
def impl_copyArr_L1 (k : Nat) (a0_0 : Int) (a0_1 : Int) (a0_2 : Int) (a0_3 : List (List T)) (a0_4 : Int) (a0_5 : Int) (a0_6 : Int) (a0_7 : Int) (a0_8 : Int) (a0_9 : List (List T)) (a0_10 : Int) (a0_11 : Bool) (a0_12 : Bool) (G1 : (Int × List (List T)) → Option Outs) : (Int × List (List T)) → Option Outs := fun (v8, w8) =>
 bif (decide (v8 < (a0_9.length : Int))) then
  chk (decide (0 ≤ v8) && decide (v8 < (a0_9.length : Int))) <|
  bindO (evalF E P0 k N.impl_copyInts [.v [.r (at_ a0_9 v8.toNat 1).asR]]) fun o48 =>
  chk (decide ((w8.length + ([[.i (at_ a0_9 v8.toNat 0).asI, .r (o48.t 0).asR]] : List (List T)).length) * 32 ≤ 140737488355328)) <|
  G1 ((IntKind.wrap .i64 (v8 + 1)), (w8 ++ [[.i (at_ a0_9 v8.toNat 0).asI, .r (o48.t 0).asR]]))
 else
  bindO (evalF E P0 k N.impl_copyMems [.v [.r a0_3]]) fun o50 =>
  some ⟨[.i a0_0, .i a0_1, .i a0_2, .r (o50.t 0).asR, .i a0_4, .i a0_5, .i a0_6, .i a0_7, .i a0_8, .r w8, .i a0_10, .b a0_11, .b a0_12], []⟩
def impl_copyArr_k1 : List Nat := [1, 2, 3, 8, 9, 10, 24, 25, 26, 27, 28, 29, 30]
def impl_copyArr_S1 (a0_0 : Int) (a0_1 : Int) (a0_2 : Int) (a0_3 : List (List T)) (a0_4 : Int) (a0_5 : Int) (a0_6 : Int) (a0_7 : Int) (a0_8 : Int) (a0_9 : List (List T)) (a0_10 : Int) (a0_11 : Bool) (a0_12 : Bool) : (Int × List (List T)) → St := fun (v8, w8) => ⟨ofSl [(1, .ptr (1, 0) 0), (2, .ptr (2, 0) 0), (3, .ref (3, 0)), (8, .sl 166 a0_9), (9, .i .i64 (a0_9.length : Int)), (10, .i .i64 v8), (24, .skip), (25, .skip), (26, .skip), (27, .skip), (28, .skip), (29, .skip), (30, .skip)], ofMem [((1, 0), .var [.i .i64 a0_0, .i .i64 a0_1, .i .i64 a0_2, .sl 139 a0_3, .i .i64 a0_4, .i .i64 a0_5, .i .i64 a0_6, .i .i64 a0_7, .i .i64 a0_8, .sl 166 a0_9, .i .i64 a0_10, .b a0_11, .b a0_12]), ((2, 0), .var [.i .i64 0, .i .i64 0, .i .i64 0, .ref (2, 4), .i .i64 0, .i .i64 0, .i .i64 0, .i .i64 0, .i .i64 0, .ref (2, 10), .i .i64 0, .b false, .b false]), ((2, 4), .row 139 true []), ((2, 10), .row 166 true []), ((3, 0), .row 166 true w8)]⟩
def impl_copyArr_l1 (k : Nat) (a0_0 : Int) (a0_1 : Int) (a0_2 : Int) (a0_3 : List (List T)) (a0_4 : Int) (a0_5 : Int) (a0_6 : Int) (a0_7 : Int) (a0_8 : Int) (a0_9 : List (List T)) (a0_10 : Int) (a0_11 : Bool) (a0_12 : Bool) (G1 : (Int × List (List T)) → Option Outs) : (Int × List (List T)) → Option Outs :=
  impl_copyArr_L1 k a0_0 a0_1 a0_2 a0_3 a0_4 a0_5 a0_6 a0_7 a0_8 a0_9 a0_10 a0_11 a0_12 G1
def impl_copyArr_U (k : Nat) (a0_0 : Int) (a0_1 : Int) (a0_2 : Int) (a0_3 : List (List T)) (a0_4 : Int) (a0_5 : Int) (a0_6 : Int) (a0_7 : Int) (a0_8 : Int) (a0_9 : List (List T)) (a0_10 : Int) (a0_11 : Bool) (a0_12 : Bool) (R1 : (Int × List (List T)) → Option Outs) : Option Outs :=
 R1 (0, [])
def impl_copyArr_u (k : Nat) (a0_0 : Int) (a0_1 : Int) (a0_2 : Int) (a0_3 : List (List T)) (a0_4 : Int) (a0_5 : Int) (a0_6 : Int) (a0_7 : Int) (a0_8 : Int) (a0_9 : List (List T)) (a0_10 : Int) (a0_11 : Bool) (a0_12 : Bool) : Option Outs :=
  impl_copyArr_U k a0_0 a0_1 a0_2 a0_3 a0_4 a0_5 a0_6 a0_7 a0_8 a0_9 a0_10 a0_11 a0_12 (fun v => fixN (impl_copyArr_l1 k a0_0 a0_1 a0_2 a0_3 a0_4 a0_5 a0_6 a0_7 a0_8 a0_9 a0_10 a0_11 a0_12) k v)
def impl_copyArr_it1 (k : Nat) (a0_0 : Int) (a0_1 : Int) (a0_2 : Int) (a0_3 : List (List T)) (a0_4 : Int) (a0_5 : Int) (a0_6 : Int) (a0_7 : Int) (a0_8 : Int) (a0_9 : List (List T)) (a0_10 : Int) (a0_11 : Bool) (a0_12 : Bool) (js : List Nat) (j : Nat) (s : St) : Option Outs := iter E (LB E (evalF E P0 k) k [] N.impl_copyArr [.sr, .sr, .sl, .sr, .bl]) [] impl_copyArr_k1 (LK E (evalF E P0 k) k [] N.impl_copyArr [.v [.i a0_0, .i a0_1, .i a0_2, .r a0_3, .i a0_4, .i a0_5, .i a0_6, .i a0_7, .i a0_8, .r a0_9, .i a0_10, .b a0_11, .b a0_12]] [.sr, .sr, .sl, .sr, .bl] js) j s
theorem impl_copyArr_e (k : Nat) (a0_0 : Int) (a0_1 : Int) (a0_2 : Int) (a0_3 : List (List T)) (a0_4 : Int) (a0_5 : Int) (a0_6 : Int) (a0_7 : Int) (a0_8 : Int) (a0_9 : List (List T)) (a0_10 : Int) (a0_11 : Bool) (a0_12 : Bool) : evalF E P0 (k + 1) N.impl_copyArr [.v [.i a0_0, .i a0_1, .i a0_2, .r a0_3, .i a0_4, .i a0_5, .i a0_6, .i a0_7, .i a0_8, .r a0_9, .i a0_10, .b a0_11, .b a0_12]] = impl_copyArr_u k a0_0 a0_1 a0_2 a0_3 a0_4 a0_5 a0_6 a0_7 a0_8 a0_9 a0_10 a0_11 a0_12 := by
  have e0 : evalF E P0 (k + 1) N.impl_copyArr [.v [.i a0_0, .i a0_1, .i a0_2, .r a0_3, .i a0_4, .i a0_5, .i a0_6, .i a0_7, .i a0_8, .r a0_9, .i a0_10, .b a0_11, .b a0_12]] = impl_copyArr_U k a0_0 a0_1 a0_2 a0_3 a0_4 a0_5 a0_6 a0_7 a0_8 a0_9 a0_10 a0_11 a0_12 (fun v => impl_copyArr_it1 k a0_0 a0_1 a0_2 a0_3 a0_4 a0_5 a0_6 a0_7 a0_8 a0_9 a0_10 a0_11 a0_12 [] k (impl_copyArr_S1 a0_0 a0_1 a0_2 a0_3 a0_4 a0_5 a0_6 a0_7 a0_8 a0_9 a0_10 a0_11 a0_12 v)) := by kernel_rfl
  have e1 : ∀ (j1 : Nat) (v : Int × List (List T)), impl_copyArr_it1 k a0_0 a0_1 a0_2 a0_3 a0_4 a0_5 a0_6 a0_7 a0_8 a0_9 a0_10 a0_11 a0_12 [] (j1 + 1) (impl_copyArr_S1 a0_0 a0_1 a0_2 a0_3 a0_4 a0_5 a0_6 a0_7 a0_8 a0_9 a0_10 a0_11 a0_12 v) = impl_copyArr_L1 k a0_0 a0_1 a0_2 a0_3 a0_4 a0_5 a0_6 a0_7 a0_8 a0_9 a0_10 a0_11 a0_12 (fun v => impl_copyArr_it1 k a0_0 a0_1 a0_2 a0_3 a0_4 a0_5 a0_6 a0_7 a0_8 a0_9 a0_10 a0_11 a0_12 [] j1 (impl_copyArr_S1 a0_0 a0_1 a0_2 a0_3 a0_4 a0_5 a0_6 a0_7 a0_8 a0_9 a0_10 a0_11 a0_12 v)) v := by
    intro j1 v; kernel_rfl
  have i1 : ∀ (j1 : Nat) (v : Int × List (List T)), impl_copyArr_it1 k a0_0 a0_1 a0_2 a0_3 a0_4 a0_5 a0_6 a0_7 a0_8 a0_9 a0_10 a0_11 a0_12 [] j1 (impl_copyArr_S1 a0_0 a0_1 a0_2 a0_3 a0_4 a0_5 a0_6 a0_7 a0_8 a0_9 a0_10 a0_11 a0_12 v) = fixN (impl_copyArr_l1 k a0_0 a0_1 a0_2 a0_3 a0_4 a0_5 a0_6 a0_7 a0_8 a0_9 a0_10 a0_11 a0_12) j1 v := by
    intro j1 v
    refine iter_fix (impl_copyArr_S1 a0_0 a0_1 a0_2 a0_3 a0_4 a0_5 a0_6 a0_7 a0_8 a0_9 a0_10 a0_11 a0_12) (impl_copyArr_l1 k a0_0 a0_1 a0_2 a0_3 a0_4 a0_5 a0_6 a0_7 a0_8 a0_9 a0_10 a0_11 a0_12) (fun j1 v => (e1 j1 v).trans ?_) j1 v
    unfold impl_copyArr_l1
    rfl
  rw [e0]; unfold impl_copyArr_u
  simp only [i1]
/- impl.copyEng -/
def impl_copyEng_L4 (k : Nat) (a0_16 : List (List T)) (o2 : Outs) (w8 : List (List T)) (w16 : List (List T)) (w24 : List (List T)) (G4 : (Int × List (List T)) → Option Outs) : (Int × List (List T)) → Option Outs := fun (v32, w32) =>
 bif (decide (v32 < (a0_16.length : Int))) then
  chk (decide (0 ≤ v32) && decide (v32 < (a0_16.length : Int))) <|
  bindO (evalF E P0 k N.impl_copyCmd [.v [.i (at_ a0_16 v32.toNat 0).asI, .i (at_ a0_16 v32.toNat 1).asI, .i (at_ a0_16 v32.toNat 2).asI, .i (at_ a0_16 v32.toNat 3).asI, .r (at_ a0_16 v32.toNat 4).asR]]) fun o289 =>
  bindO (evalF E P0 k N.impl_copyAns [.v [.i (at_ a0_16 v32.toNat 5).asI, .i (at_ a0_16 v32.toNat 6).asI, .r (at_ a0_16 v32.toNat 7).asR]]) fun o290 =>
  chk (decide ((w32.length + ([[.i (o289.t 0).asI, .i (o289.t 1).asI, .i (o289.t 2).asI, .i (o289.t 3).asI, .r (o289.t 4).asR, .i (o290.t 0).asI, .i (o290.t 1).asI, .r (o290.t 2).asR]] : List (List T)).length) * 96 ≤ 140737488355328)) <|
  G4 ((IntKind.wrap .i64 (v32 + 1)), (w32 ++ [[.i (o289.t 0).asI, .i (o289.t 1).asI, .i (o289.t 2).asI, .i (o289.t 3).asI, .r (o289.t 4).asR, .i (o290.t 0).asI, .i (o290.t 1).asI, .r (o290.t 2).asR]]))
 else
  some ⟨[.i (o2.t 0).asI, .i (o2.t 1).asI, .i (o2.t 2).asI, .r (o2.t 3).asR, .i (o2.t 4).asI, .i (o2.t 5).asI, .i (o2.t 6).asI, .i (o2.t 7).asI, .i (o2.t 8).asI, .r (o2.t 9).asR, .i (o2.t 10).asI, .b (o2.t 11).asB, .b (o2.t 12).asB, .r w8, .r w16, .r w24, .r w32], []⟩
def impl_copyEng_k4 : List Nat := [2, 3, 71, 72, 73, 90]
def impl_copyEng_S4 (a0_16 : List (List T)) (o2 : Outs) (w8 : List (List T)) (w16 : List (List T)) (w24 : List (List T)) : (Int × List (List T)) → St := fun (v32, w32) => ⟨ofSl [(2, .ptr (2, 0) 0), (3, .ptr (3, 0) 0), (71, .sl 63 a0_16), (72, .i .i64 (a0_16.length : Int)), (73, .i .i64 v32), (90, .skip)], ofMem [((2, 0), .var [.i .i64 0, .i .i64 0, .i .i64 0, .ref (2, 4), .i .i64 0, .i .i64 0, .i .i64 0, .i .i64 0, .i .i64 0, .ref (2, 10), .i .i64 0, .b false, .b false, .ref (2, 14), .ref (2, 15), .ref (2, 16), .ref (2, 17)]), ((2, 4), .row 139 true []), ((2, 10), .row 166 true []), ((2, 14), .row 54 true []), ((2, 15), .row 155 true []), ((2, 16), .row 61 true []), ((2, 17), .row 63 true []), ((3, 0), .var [.i .i64 (o2.t 0).asI, .i .i64 (o2.t 1).asI, .i .i64 (o2.t 2).asI, .ref (3, 4), .i .i64 (o2.t 4).asI, .i .i64 (o2.t 5).asI, .i .i64 (o2.t 6).asI, .i .i64 (o2.t 7).asI, .i .i64 (o2.t 8).asI, .ref (3, 10), .i .i64 (o2.t 10).asI, .b (o2.t 11).asB, .b (o2.t 12).asB, .ref (3, 14), .ref (3, 15), .ref (3, 16), .ref (3, 17)]), ((3, 4), .row 139 true (o2.t 3).asR), ((3, 10), .row 166 true (o2.t 9).asR), ((3, 14), .row 54 true w8), ((3, 15), .row 155 true w16), ((3, 16), .row 61 true w24), ((3, 17), .row 63 true w32)]⟩
def impl_copyEng_L3 (k : Nat) (a0_0 : Int) (a0_1 : Int) (a0_2 : Int) (a0_3 : List (List T)) (a0_4 : Int) (a0_5 : Int) (a0_6 : Int) (a0_7 : Int) (a0_8 : Int) (a0_9 : List (List T)) (a0_10 : Int) (a0_11 : Bool) (a0_12 : Bool) (a0_13 : List (List T)) (a0_14 : List (List T)) (a0_15 : List (List T)) (a0_16 : List (List T)) (o2 : Outs) (w8 : List (List T)) (w16 : List (List T)) (R4 : Outs → List (List T) → List (List T) → List (List T) → (Int × List (List T)) → Option Outs) (G3 : (Int × List (List T)) → Option Outs) : (Int × List (List T)) → Option Outs := fun (v24, w24) =>
 bif (decide (v24 < (a0_15.length : Int))) then
  chk (decide (0 ≤ v24) && decide (v24 < (a0_15.length : Int))) <|
  bindO (evalF E P0 k N.impl_copyAns [.v [.i (at_ a0_15 v24.toNat 0).asI, .i (at_ a0_15 v24.toNat 1).asI, .r (at_ a0_15 v24.toNat 2).asR]]) fun o194 =>
  chk (decide ((w24.length + ([[.i (o194.t 0).asI, .i (o194.t 1).asI, .r (o194.t 2).asR]] : List (List T)).length) * 40 ≤ 140737488355328)) <|
  G3 ((IntKind.wrap .i64 (v24 + 1)), (w24 ++ [[.i (o194.t 0).asI, .i (o194.t 1).asI, .r (o194.t 2).asR]]))
 else
  R4 o2 w8 w16 w24 (0, [])
def impl_copyEng_k3 : List Nat := [1, 2, 3, 11, 56, 57, 58, 70, 71, 72, 73, 74, 75, 76, 77, 78, 79, 80, 81, 82, 83, 84, 85, 86, 87, 88, 89, 90]
def impl_copyEng_S3 (a0_0 : Int) (a0_1 : Int) (a0_2 : Int) (a0_3 : List (List T)) (a0_4 : Int) (a0_5 : Int) (a0_6 : Int) (a0_7 : Int) (a0_8 : Int) (a0_9 : List (List T)) (a0_10 : Int) (a0_11 : Bool) (a0_12 : Bool) (a0_13 : List (List T)) (a0_14 : List (List T)) (a0_15 : List (List T)) (a0_16 : List (List T)) (o2 : Outs) (w8 : List (List T)) (w16 : List (List T)) : (Int × List (List T)) → St := fun (v24, w24) => ⟨ofSl [(1, .ptr (1, 0) 0), (2, .ptr (2, 0) 0), (3, .ptr (3, 0) 0), (11, .skip), (56, .sl 61 a0_15), (57, .i .i64 (a0_15.length : Int)), (58, .i .i64 v24), (70, .skip), (71, .skip), (72, .skip), (73, .skip), (74, .skip), (75, .skip), (76, .skip), (77, .skip), (78, .skip), (79, .skip), (80, .skip), (81, .skip), (82, .skip), (83, .skip), (84, .skip), (85, .skip), (86, .skip), (87, .skip), (88, .skip), (89, .skip), (90, .skip)], ofMem [((1, 0), .var [.i .i64 a0_0, .i .i64 a0_1, .i .i64 a0_2, .sl 139 a0_3, .i .i64 a0_4, .i .i64 a0_5, .i .i64 a0_6, .i .i64 a0_7, .i .i64 a0_8, .sl 166 a0_9, .i .i64 a0_10, .b a0_11, .b a0_12, .sl 54 a0_13, .sl 155 a0_14, .sl 61 a0_15, .sl 63 a0_16]), ((2, 0), .var [.i .i64 0, .i .i64 0, .i .i64 0, .ref (2, 4), .i .i64 0, .i .i64 0, .i .i64 0, .i .i64 0, .i .i64 0, .ref (2, 10), .i .i64 0, .b false, .b false, .ref (2, 14), .ref (2, 15), .ref (2, 16), .ref (2, 17)]), ((2, 4), .row 139 true []), ((2, 10), .row 166 true []), ((2, 14), .row 54 true []), ((2, 15), .row 155 true []), ((2, 16), .row 61 true []), ((2, 17), .row 63 true []), ((3, 0), .var [.i .i64 (o2.t 0).asI, .i .i64 (o2.t 1).asI, .i .i64 (o2.t 2).asI, .ref (3, 4), .i .i64 (o2.t 4).asI, .i .i64 (o2.t 5).asI, .i .i64 (o2.t 6).asI, .i .i64 (o2.t 7).asI, .i .i64 (o2.t 8).asI, .ref (3, 10), .i .i64 (o2.t 10).asI, .b (o2.t 11).asB, .b (o2.t 12).asB, .ref (3, 14), .ref (3, 15), .ref (3, 16), .ref (3, 17)]), ((3, 4), .row 139 true (o2.t 3).asR), ((3, 10), .row 166 true (o2.t 9).asR), ((3, 14), .row 54 true w8), ((3, 15), .row 155 true w16), ((3, 16), .row 61 true w24), ((3, 17), .row 63 true [])]⟩
def impl_copyEng_L2 (k : Nat) (a0_0 : Int) (a0_1 : Int) (a0_2 : Int) (a0_3 : List (List T)) (a0_4 : Int) (a0_5 : Int) (a0_6 : Int) (a0_7 : Int) (a0_8 : Int) (a0_9 : List (List T)) (a0_10 : Int) (a0_11 : Bool) (a0_12 : Bool) (a0_13 : List (List T)) (a0_14 : List (List T)) (a0_15 : List (List T)) (a0_16 : List (List T)) (o2 : Outs) (w8 : List (List T)) (R3 : Outs → List (List T) → List (List T) → (Int × List (List T)) → Option Outs) (G2 : (Int × List (List T)) → Option Outs) : (Int × List (List T)) → Option Outs := fun (v16, w16) =>
 bif (decide (v16 < (a0_14.length : Int))) then
  chk (decide (0 ≤ v16) && decide (v16 < (a0_14.length : Int))) <|
  bindO (evalF E P0 k N.impl_copyCmd [.v [.i (at_ a0_14 v16.toNat 0).asI, .i (at_ a0_14 v16.toNat 1).asI, .i (at_ a0_14 v16.toNat 2).asI, .i (at_ a0_14 v16.toNat 3).asI, .r (at_ a0_14 v16.toNat 4).asR]]) fun o145 =>
  bindO (evalF E P0 k N.impl_copyInts [.v [.r (at_ a0_14 v16.toNat 6).asR]]) fun o146 =>
  chk (decide ((w16.length + ([[.i (o145.t 0).asI, .i (o145.t 1).asI, .i (o145.t 2).asI, .i (o145.t 3).asI, .r (o145.t 4).asR, .i (at_ a0_14 v16.toNat 5).asI, .r (o146.t 0).asR, .i (at_ a0_14 v16.toNat 7).asI]] : List (List T)).length) * 96 ≤ 140737488355328)) <|
  G2 ((IntKind.wrap .i64 (v16 + 1)), (w16 ++ [[.i (o145.t 0).asI, .i (o145.t 1).asI, .i (o145.t 2).asI, .i (o145.t 3).asI, .r (o145.t 4).asR, .i (at_ a0_14 v16.toNat 5).asI, .r (o146.t 0).asR, .i (at_ a0_14 v16.toNat 7).asI]]))
 else
  R3 o2 w8 w16 (0, [])
def impl_copyEng_k2 : List Nat := [1, 2, 3, 9, 11, 32, 33, 34, 55, 56, 57, 58, 59, 60, 61, 62, 63, 64, 65, 66, 67, 68, 69, 70, 71, 72, 73, 74, 75, 76, 77, 78, 79, 80, 81, 82, 83, 84, 85, 86, 87, 88, 89, 90]
def impl_copyEng_S2 (a0_0 : Int) (a0_1 : Int) (a0_2 : Int) (a0_3 : List (List T)) (a0_4 : Int) (a0_5 : Int) (a0_6 : Int) (a0_7 : Int) (a0_8 : Int) (a0_9 : List (List T)) (a0_10 : Int) (a0_11 : Bool) (a0_12 : Bool) (a0_13 : List (List T)) (a0_14 : List (List T)) (a0_15 : List (List T)) (a0_16 : List (List T)) (o2 : Outs) (w8 : List (List T)) : (Int × List (List T)) → St := fun (v16, w16) => ⟨ofSl [(1, .ptr (1, 0) 0), (2, .ptr (2, 0) 0), (3, .ptr (3, 0) 0), (9, .skip), (11, .skip), (32, .sl 155 a0_14), (33, .i .i64 (a0_14.length : Int)), (34, .i .i64 v16), (55, .skip), (56, .skip), (57, .skip), (58, .skip), (59, .skip), (60, .skip), (61, .skip), (62, .skip), (63, .skip), (64, .skip), (65, .skip), (66, .skip), (67, .skip), (68, .skip), (69, .skip), (70, .skip), (71, .skip), (72, .skip), (73, .skip), (74, .skip), (75, .skip), (76, .skip), (77, .skip), (78, .skip), (79, .skip), (80, .skip), (81, .skip), (82, .skip), (83, .skip), (84, .skip), (85, .skip), (86, .skip), (87, .skip), (88, .skip), (89, .skip), (90, .skip)], ofMem [((1, 0), .var [.i .i64 a0_0, .i .i64 a0_1, .i .i64 a0_2, .sl 139 a0_3, .i .i64 a0_4, .i .i64 a0_5, .i .i64 a0_6, .i .i64 a0_7, .i .i64 a0_8, .sl 166 a0_9, .i .i64 a0_10, .b a0_11, .b a0_12, .sl 54 a0_13, .sl 155 a0_14, .sl 61 a0_15, .sl 63 a0_16]), ((2, 0), .var [.i .i64 0, .i .i64 0, .i .i64 0, .ref (2, 4), .i .i64 0, .i .i64 0, .i .i64 0, .i .i64 0, .i .i64 0, .ref (2, 10), .i .i64 0, .b false, .b false, .ref (2, 14), .ref (2, 15), .ref (2, 16), .ref (2, 17)]), ((2, 4), .row 139 true []), ((2, 10), .row 166 true []), ((2, 14), .row 54 true []), ((2, 15), .row 155 true []), ((2, 16), .row 61 true []), ((2, 17), .row 63 true []), ((3, 0), .var [.i .i64 (o2.t 0).asI, .i .i64 (o2.t 1).asI, .i .i64 (o2.t 2).asI, .ref (3, 4), .i .i64 (o2.t 4).asI, .i .i64 (o2.t 5).asI, .i .i64 (o2.t 6).asI, .i .i64 (o2.t 7).asI, .i .i64 (o2.t 8).asI, .ref (3, 10), .i .i64 (o2.t 10).asI, .b (o2.t 11).asB, .b (o2.t 12).asB, .ref (3, 14), .ref (3, 15), .ref (3, 16), .ref (3, 17)]), ((3, 4), .row 139 true (o2.t 3).asR), ((3, 10), .row 166 true (o2.t 9).asR), ((3, 14), .row 54 true w8), ((3, 15), .row 155 true w16), ((3, 16), .row 61 true []), ((3, 17), .row 63 true [])]⟩
def impl_copyEng_L1 (k : Nat) (a0_0 : Int) (a0_1 : Int) (a0_2 : Int) (a0_3 : List (List T)) (a0_4 : Int) (a0_5 : Int) (a0_6 : Int) (a0_7 : Int) (a0_8 : Int) (a0_9 : List (List T)) (a0_10 : Int) (a0_11 : Bool) (a0_12 : Bool) (a0_13 : List (List T)) (a0_14 : List (List T)) (a0_15 : List (List T)) (a0_16 : List (List T)) (o2 : Outs) (R2 : Outs → List (List T) → (Int × List (List T)) → Option Outs) (G1 : (Int × List (List T)) → Option Outs) : (Int × List (List T)) → Option Outs := fun (v8, w8) =>
 bif (decide (v8 < (a0_13.length : Int))) then
  chk (decide (0 ≤ v8) && decide (v8 < (a0_13.length : Int))) <|
  bindO (evalF E P0 k N.impl_copyCmd [.v [.i (at_ a0_13 v8.toNat 0).asI, .i (at_ a0_13 v8.toNat 1).asI, .i (at_ a0_13 v8.toNat 2).asI, .i (at_ a0_13 v8.toNat 3).asI, .r (at_ a0_13 v8.toNat 4).asR]]) fun o50 =>
  chk (decide ((w8.length + ([[.i (o50.t 0).asI, .i (o50.t 1).asI, .i (o50.t 2).asI, .i (o50.t 3).asI, .r (o50.t 4).asR]] : List (List T)).length) * 56 ≤ 140737488355328)) <|
  G1 ((IntKind.wrap .i64 (v8 + 1)), (w8 ++ [[.i (o50.t 0).asI, .i (o50.t 1).asI, .i (o50.t 2).asI, .i (o50.t 3).asI, .r (o50.t 4).asR]]))
 else
  R2 o2 w8 (0, [])
def impl_copyEng_k1 : List Nat := [1, 2, 3, 7, 9, 11, 17, 18, 19, 31, 32, 33, 34, 35, 36, 37, 38, 39, 40, 41, 42, 43, 44, 45, 46, 47, 48, 49, 50, 51, 52, 53, 54, 55, 56, 57, 58, 59, 60, 61, 62, 63, 64, 65, 66, 67, 68, 69, 70, 71, 72, 73, 74, 75, 76, 77, 78, 79, 80, 81, 82, 83, 84, 85, 86, 87, 88, 89, 90]
def impl_copyEng_S1 (a0_0 : Int) (a0_1 : Int) (a0_2 : Int) (a0_3 : List (List T)) (a0_4 : Int) (a0_5 : Int) (a0_6 : Int) (a0_7 : Int) (a0_8 : Int) (a0_9 : List (List T)) (a0_10 : Int) (a0_11 : Bool) (a0_12 : Bool) (a0_13 : List (List T)) (a0_14 : List (List T)) (a0_15 : List (List T)) (a0_16 : List (List T)) (o2 : Outs) : (Int × List (List T)) → St := fun (v8, w8) => ⟨ofSl [(1, .ptr (1, 0) 0), (2, .ptr (2, 0) 0), (3, .ptr (3, 0) 0), (7, .skip), (9, .skip), (11, .skip), (17, .sl 54 a0_13), (18, .i .i64 (a0_13.length : Int)), (19, .i .i64 v8), (31, .skip), (32, .skip), (33, .skip), (34, .skip), (35, .skip), (36, .skip), (37, .skip), (38, .skip), (39, .skip), (40, .skip), (41, .skip), (42, .skip), (43, .skip), (44, .skip), (45, .skip), (46, .skip), (47, .skip), (48, .skip), (49, .skip), (50, .skip), (51, .skip), (52, .skip), (53, .skip), (54, .skip), (55, .skip), (56, .skip), (57, .skip), (58, .skip), (59, .skip), (60, .skip), (61, .skip), (62, .skip), (63, .skip), (64, .skip), (65, .skip), (66, .skip), (67, .skip), (68, .skip), (69, .skip), (70, .skip), (71, .skip), (72, .skip), (73, .skip), (74, .skip), (75, .skip), (76, .skip), (77, .skip), (78, .skip), (79, .skip), (80, .skip), (81, .skip), (82, .skip), (83, .skip), (84, .skip), (85, .skip), (86, .skip), (87, .skip), (88, .skip), (89, .skip), (90, .skip)], ofMem [((1, 0), .var [.i .i64 a0_0, .i .i64 a0_1, .i .i64 a0_2, .sl 139 a0_3, .i .i64 a0_4, .i .i64 a0_5, .i .i64 a0_6, .i .i64 a0_7, .i .i64 a0_8, .sl 166 a0_9, .i .i64 a0_10, .b a0_11, .b a0_12, .sl 54 a0_13, .sl 155 a0_14, .sl 61 a0_15, .sl 63 a0_16]), ((2, 0), .var [.i .i64 0, .i .i64 0, .i .i64 0, .ref (2, 4), .i .i64 0, .i .i64 0, .i .i64 0, .i .i64 0, .i .i64 0, .ref (2, 10), .i .i64 0, .b false, .b false, .ref (2, 14), .ref (2, 15), .ref (2, 16), .ref (2, 17)]), ((2, 4), .row 139 true []), ((2, 10), .row 166 true []), ((2, 14), .row 54 true []), ((2, 15), .row 155 true []), ((2, 16), .row 61 true []), ((2, 17), .row 63 true []), ((3, 0), .var [.i .i64 (o2.t 0).asI, .i .i64 (o2.t 1).asI, .i .i64 (o2.t 2).asI, .ref (3, 4), .i .i64 (o2.t 4).asI, .i .i64 (o2.t 5).asI, .i .i64 (o2.t 6).asI, .i .i64 (o2.t 7).asI, .i .i64 (o2.t 8).asI, .ref (3, 10), .i .i64 (o2.t 10).asI, .b (o2.t 11).asB, .b (o2.t 12).asB, .ref (3, 14), .ref (3, 15), .ref (3, 16), .ref (3, 17)]), ((3, 4), .row 139 true (o2.t 3).asR), ((3, 10), .row 166 true (o2.t 9).asR), ((3, 14), .row 54 true w8), ((3, 15), .row 155 true []), ((3, 16), .row 61 true []), ((3, 17), .row 63 true [])]⟩
def impl_copyEng_l4 (k : Nat) (a0_16 : List (List T)) (o2 : Outs) (w8 : List (List T)) (w16 : List (List T)) (w24 : List (List T)) (G4 : (Int × List (List T)) → Option Outs) : (Int × List (List T)) → Option Outs :=
  impl_copyEng_L4 k a0_16 o2 w8 w16 w24 G4
def impl_copyEng_l3 (k : Nat) (a0_0 : Int) (a0_1 : Int) (a0_2 : Int) (a0_3 : List (List T)) (a0_4 : Int) (a0_5 : Int) (a0_6 : Int) (a0_7 : Int) (a0_8 : Int) (a0_9 : List (List T)) (a0_10 : Int) (a0_11 : Bool) (a0_12 : Bool) (a0_13 : List (List T)) (a0_14 : List (List T)) (a0_15 : List (List T)) (a0_16 : List (List T)) (o2 : Outs) (w8 : List (List T)) (w16 : List (List T)) (G3 : (Int × List (List T)) → Option Outs) : (Int × List (List T)) → Option Outs :=
  impl_copyEng_L3 k a0_0 a0_1 a0_2 a0_3 a0_4 a0_5 a0_6 a0_7 a0_8 a0_9 a0_10 a0_11 a0_12 a0_13 a0_14 a0_15 a0_16 o2 w8 w16 (fun y0 y1 y2 y3 v => fixN (impl_copyEng_l4 k a0_16 y0 y1 y2 y3) k v) G3
def impl_copyEng_l2 (k : Nat) (a0_0 : Int) (a0_1 : Int) (a0_2 : Int) (a0_3 : List (List T)) (a0_4 : Int) (a0_5 : Int) (a0_6 : Int) (a0_7 : Int) (a0_8 : Int) (a0_9 : List (List T)) (a0_10 : Int) (a0_11 : Bool) (a0_12 : Bool) (a0_13 : List (List T)) (a0_14 : List (List T)) (a0_15 : List (List T)) (a0_16 : List (List T)) (o2 : Outs) (w8 : List (List T)) (G2 : (Int × List (List T)) → Option Outs) : (Int × List (List T)) → Option Outs :=
  impl_copyEng_L2 k a0_0 a0_1 a0_2 a0_3 a0_4 a0_5 a0_6 a0_7 a0_8 a0_9 a0_10 a0_11 a0_12 a0_13 a0_14 a0_15 a0_16 o2 w8 (fun y0 y1 y2 v => fixN (impl_copyEng_l3 k a0_0 a0_1 a0_2 a0_3 a0_4 a0_5 a0_6 a0_7 a0_8 a0_9 a0_10 a0_11 a0_12 a0_13 a0_14 a0_15 a0_16 y0 y1 y2) k v) G2
def impl_copyEng_l1 (k : Nat) (a0_0 : Int) (a0_1 : Int) (a0_2 : Int) (a0_3 : List (List T)) (a0_4 : Int) (a0_5 : Int) (a0_6 : Int) (a0_7 : Int) (a0_8 : Int) (a0_9 : List (List T)) (a0_10 : Int) (a0_11 : Bool) (a0_12 : Bool) (a0_13 : List (List T)) (a0_14 : List (List T)) (a0_15 : List (List T)) (a0_16 : List (List T)) (o2 : Outs) (G1 : (Int × List (List T)) → Option Outs) : (Int × List (List T)) → Option Outs :=
  impl_copyEng_L1 k a0_0 a0_1 a0_2 a0_3 a0_4 a0_5 a0_6 a0_7 a0_8 a0_9 a0_10 a0_11 a0_12 a0_13 a0_14 a0_15 a0_16 o2 (fun y0 y1 v => fixN (impl_copyEng_l2 k a0_0 a0_1 a0_2 a0_3 a0_4 a0_5 a0_6 a0_7 a0_8 a0_9 a0_10 a0_11 a0_12 a0_13 a0_14 a0_15 a0_16 y0 y1) k v) G1
def impl_copyEng_U (k : Nat) (a0_0 : Int) (a0_1 : Int) (a0_2 : Int) (a0_3 : List (List T)) (a0_4 : Int) (a0_5 : Int) (a0_6 : Int) (a0_7 : Int) (a0_8 : Int) (a0_9 : List (List T)) (a0_10 : Int) (a0_11 : Bool) (a0_12 : Bool) (a0_13 : List (List T)) (a0_14 : List (List T)) (a0_15 : List (List T)) (a0_16 : List (List T)) (R1 : Outs → (Int × List (List T)) → Option Outs) : Option Outs :=
 bindO (evalF E P0 k N.impl_copyArr [.v [.i a0_0, .i a0_1, .i a0_2, .r a0_3, .i a0_4, .i a0_5, .i a0_6, .i a0_7, .i a0_8, .r a0_9, .i a0_10, .b a0_11, .b a0_12]]) fun o2 =>
 R1 o2 (0, [])
def impl_copyEng_u (k : Nat) (a0_0 : Int) (a0_1 : Int) (a0_2 : Int) (a0_3 : List (List T)) (a0_4 : Int) (a0_5 : Int) (a0_6 : Int) (a0_7 : Int) (a0_8 : Int) (a0_9 : List (List T)) (a0_10 : Int) (a0_11 : Bool) (a0_12 : Bool) (a0_13 : List (List T)) (a0_14 : List (List T)) (a0_15 : List (List T)) (a0_16 : List (List T)) : Option Outs :=
  impl_copyEng_U k a0_0 a0_1 a0_2 a0_3 a0_4 a0_5 a0_6 a0_7 a0_8 a0_9 a0_10 a0_11 a0_12 a0_13 a0_14 a0_15 a0_16 (fun y0 v => fixN (impl_copyEng_l1 k a0_0 a0_1 a0_2 a0_3 a0_4 a0_5 a0_6 a0_7 a0_8 a0_9 a0_10 a0_11 a0_12 a0_13 a0_14 a0_15 a0_16 y0) k v)
def impl_copyEng_it1 (k : Nat) (a0_0 : Int) (a0_1 : Int) (a0_2 : Int) (a0_3 : List (List T)) (a0_4 : Int) (a0_5 : Int) (a0_6 : Int) (a0_7 : Int) (a0_8 : Int) (a0_9 : List (List T)) (a0_10 : Int) (a0_11 : Bool) (a0_12 : Bool) (a0_13 : List (List T)) (a0_14 : List (List T)) (a0_15 : List (List T)) (a0_16 : List (List T)) (js : List Nat) (j : Nat) (s : St) : Option Outs := iter E (LB E (evalF E P0 k) k [] N.impl_copyEng [.sr, .sr, .sl, .sr, .bl]) [] impl_copyEng_k1 (LK E (evalF E P0 k) k [] N.impl_copyEng [.v [.i a0_0, .i a0_1, .i a0_2, .r a0_3, .i a0_4, .i a0_5, .i a0_6, .i a0_7, .i a0_8, .r a0_9, .i a0_10, .b a0_11, .b a0_12, .r a0_13, .r a0_14, .r a0_15, .r a0_16]] [.sr, .sr, .sl, .sr, .bl] js) j s
def impl_copyEng_it2 (k : Nat) (a0_0 : Int) (a0_1 : Int) (a0_2 : Int) (a0_3 : List (List T)) (a0_4 : Int) (a0_5 : Int) (a0_6 : Int) (a0_7 : Int) (a0_8 : Int) (a0_9 : List (List T)) (a0_10 : Int) (a0_11 : Bool) (a0_12 : Bool) (a0_13 : List (List T)) (a0_14 : List (List T)) (a0_15 : List (List T)) (a0_16 : List (List T)) (js : List Nat) (j : Nat) (s : St) : Option Outs := iter E (LB E (evalF E P0 k) k [] N.impl_copyEng [.sr, .sr, .sr, .sl, .sr, .bl]) [] impl_copyEng_k2 (LK E (evalF E P0 k) k [] N.impl_copyEng [.v [.i a0_0, .i a0_1, .i a0_2, .r a0_3, .i a0_4, .i a0_5, .i a0_6, .i a0_7, .i a0_8, .r a0_9, .i a0_10, .b a0_11, .b a0_12, .r a0_13, .r a0_14, .r a0_15, .r a0_16]] [.sr, .sr, .sr, .sl, .sr, .bl] js) j s
def impl_copyEng_it3 (k : Nat) (a0_0 : Int) (a0_1 : Int) (a0_2 : Int) (a0_3 : List (List T)) (a0_4 : Int) (a0_5 : Int) (a0_6 : Int) (a0_7 : Int) (a0_8 : Int) (a0_9 : List (List T)) (a0_10 : Int) (a0_11 : Bool) (a0_12 : Bool) (a0_13 : List (List T)) (a0_14 : List (List T)) (a0_15 : List (List T)) (a0_16 : List (List T)) (js : List Nat) (j : Nat) (s : St) : Option Outs := iter E (LB E (evalF E P0 k) k [] N.impl_copyEng [.sr, .sr, .sr, .sr, .sl, .sr, .bl]) [] impl_copyEng_k3 (LK E (evalF E P0 k) k [] N.impl_copyEng [.v [.i a0_0, .i a0_1, .i a0_2, .r a0_3, .i a0_4, .i a0_5, .i a0_6, .i a0_7, .i a0_8, .r a0_9, .i a0_10, .b a0_11, .b a0_12, .r a0_13, .r a0_14, .r a0_15, .r a0_16]] [.sr, .sr, .sr, .sr, .sl, .sr, .bl] js) j s
def impl_copyEng_it4 (k : Nat) (a0_0 : Int) (a0_1 : Int) (a0_2 : Int) (a0_3 : List (List T)) (a0_4 : Int) (a0_5 : Int) (a0_6 : Int) (a0_7 : Int) (a0_8 : Int) (a0_9 : List (List T)) (a0_10 : Int) (a0_11 : Bool) (a0_12 : Bool) (a0_13 : List (List T)) (a0_14 : List (List T)) (a0_15 : List (List T)) (a0_16 : List (List T)) (js : List Nat) (j : Nat) (s : St) : Option Outs := iter E (LB E (evalF E P0 k) k [] N.impl_copyEng [.sr, .sr, .sr, .sr, .sr, .sl, .sr, .bl]) [] impl_copyEng_k4 (LK E (evalF E P0 k) k [] N.impl_copyEng [.v [.i a0_0, .i a0_1, .i a0_2, .r a0_3, .i a0_4, .i a0_5, .i a0_6, .i a0_7, .i a0_8, .r a0_9, .i a0_10, .b a0_11, .b a0_12, .r a0_13, .r a0_14, .r a0_15, .r a0_16]] [.sr, .sr, .sr, .sr, .sr, .sl, .sr, .bl] js) j s
theorem impl_copyEng_e (k : Nat) (a0_0 : Int) (a0_1 : Int) (a0_2 : Int) (a0_3 : List (List T)) (a0_4 : Int) (a0_5 : Int) (a0_6 : Int) (a0_7 : Int) (a0_8 : Int) (a0_9 : List (List T)) (a0_10 : Int) (a0_11 : Bool) (a0_12 : Bool) (a0_13 : List (List T)) (a0_14 : List (List T)) (a0_15 : List (List T)) (a0_16 : List (List T)) : evalF E P0 (k + 1) N.impl_copyEng [.v [.i a0_0, .i a0_1, .i a0_2, .r a0_3, .i a0_4, .i a0_5, .i a0_6, .i a0_7, .i a0_8, .r a0_9, .i a0_10, .b a0_11, .b a0_12, .r a0_13, .r a0_14, .r a0_15, .r a0_16]] = impl_copyEng_u k a0_0 a0_1 a0_2 a0_3 a0_4 a0_5 a0_6 a0_7 a0_8 a0_9 a0_10 a0_11 a0_12 a0_13 a0_14 a0_15 a0_16 := by
  have e0 : evalF E P0 (k + 1) N.impl_copyEng [.v [.i a0_0, .i a0_1, .i a0_2, .r a0_3, .i a0_4, .i a0_5, .i a0_6, .i a0_7, .i a0_8, .r a0_9, .i a0_10, .b a0_11, .b a0_12, .r a0_13, .r a0_14, .r a0_15, .r a0_16]] = impl_copyEng_U k a0_0 a0_1 a0_2 a0_3 a0_4 a0_5 a0_6 a0_7 a0_8 a0_9 a0_10 a0_11 a0_12 a0_13 a0_14 a0_15 a0_16 (fun y0 v => impl_copyEng_it1 k a0_0 a0_1 a0_2 a0_3 a0_4 a0_5 a0_6 a0_7 a0_8 a0_9 a0_10 a0_11 a0_12 a0_13 a0_14 a0_15 a0_16 [] k (impl_copyEng_S1 a0_0 a0_1 a0_2 a0_3 a0_4 a0_5 a0_6 a0_7 a0_8 a0_9 a0_10 a0_11 a0_12 a0_13 a0_14 a0_15 a0_16 y0 v)) := by kernel_rfl
  have e4 : ∀ (o2 : Outs) (w8 : List (List T)) (w16 : List (List T)) (w24 : List (List T)) (j4 : Nat) (v : Int × List (List T)), impl_copyEng_it4 k a0_0 a0_1 a0_2 a0_3 a0_4 a0_5 a0_6 a0_7 a0_8 a0_9 a0_10 a0_11 a0_12 a0_13 a0_14 a0_15 a0_16 [] (j4 + 1) (impl_copyEng_S4 a0_16 o2 w8 w16 w24 v) = impl_copyEng_L4 k a0_16 o2 w8 w16 w24 (fun v => impl_copyEng_it4 k a0_0 a0_1 a0_2 a0_3 a0_4 a0_5 a0_6 a0_7 a0_8 a0_9 a0_10 a0_11 a0_12 a0_13 a0_14 a0_15 a0_16 [] j4 (impl_copyEng_S4 a0_16 o2 w8 w16 w24 v)) v := by
    intro o2 w8 w16 w24 j4 v; kernel_rfl
  have i4 : ∀ (o2 : Outs) (w8 : List (List T)) (w16 : List (List T)) (w24 : List (List T)) (j4 : Nat) (v : Int × List (List T)), impl_copyEng_it4 k a0_0 a0_1 a0_2 a0_3 a0_4 a0_5 a0_6 a0_7 a0_8 a0_9 a0_10 a0_11 a0_12 a0_13 a0_14 a0_15 a0_16 [] j4 (impl_copyEng_S4 a0_16 o2 w8 w16 w24 v) = fixN (impl_copyEng_l4 k a0_16 o2 w8 w16 w24) j4 v := by
    intro o2 w8 w16 w24 j4 v
    refine iter_fix (impl_copyEng_S4 a0_16 o2 w8 w16 w24) (impl_copyEng_l4 k a0_16 o2 w8 w16 w24) (fun j4 v => (e4 o2 w8 w16 w24 j4 v).trans ?_) j4 v
    unfold impl_copyEng_l4
    rfl
  have e3 : ∀ (o2 : Outs) (w8 : List (List T)) (w16 : List (List T)) (j3 : Nat) (v : Int × List (List T)), impl_copyEng_it3 k a0_0 a0_1 a0_2 a0_3 a0_4 a0_5 a0_6 a0_7 a0_8 a0_9 a0_10 a0_11 a0_12 a0_13 a0_14 a0_15 a0_16 [] (j3 + 1) (impl_copyEng_S3 a0_0 a0_1 a0_2 a0_3 a0_4 a0_5 a0_6 a0_7 a0_8 a0_9 a0_10 a0_11 a0_12 a0_13 a0_14 a0_15 a0_16 o2 w8 w16 v) = impl_copyEng_L3 k a0_0 a0_1 a0_2 a0_3 a0_4 a0_5 a0_6 a0_7 a0_8 a0_9 a0_10 a0_11 a0_12 a0_13 a0_14 a0_15 a0_16 o2 w8 w16 (fun y0 y1 y2 y3 v => impl_copyEng_it4 k a0_0 a0_1 a0_2 a0_3 a0_4 a0_5 a0_6 a0_7 a0_8 a0_9 a0_10 a0_11 a0_12 a0_13 a0_14 a0_15 a0_16 [] k (impl_copyEng_S4 a0_16 y0 y1 y2 y3 v)) (fun v => impl_copyEng_it3 k a0_0 a0_1 a0_2 a0_3 a0_4 a0_5 a0_6 a0_7 a0_8 a0_9 a0_10 a0_11 a0_12 a0_13 a0_14 a0_15 a0_16 [] j3 (impl_copyEng_S3 a0_0 a0_1 a0_2 a0_3 a0_4 a0_5 a0_6 a0_7 a0_8 a0_9 a0_10 a0_11 a0_12 a0_13 a0_14 a0_15 a0_16 o2 w8 w16 v)) v := by
    intro o2 w8 w16 j3 v; kernel_rfl
  have i3 : ∀ (o2 : Outs) (w8 : List (List T)) (w16 : List (List T)) (j3 : Nat) (v : Int × List (List T)), impl_copyEng_it3 k a0_0 a0_1 a0_2 a0_3 a0_4 a0_5 a0_6 a0_7 a0_8 a0_9 a0_10 a0_11 a0_12 a0_13 a0_14 a0_15 a0_16 [] j3 (impl_copyEng_S3 a0_0 a0_1 a0_2 a0_3 a0_4 a0_5 a0_6 a0_7 a0_8 a0_9 a0_10 a0_11 a0_12 a0_13 a0_14 a0_15 a0_16 o2 w8 w16 v) = fixN (impl_copyEng_l3 k a0_0 a0_1 a0_2 a0_3 a0_4 a0_5 a0_6 a0_7 a0_8 a0_9 a0_10 a0_11 a0_12 a0_13 a0_14 a0_15 a0_16 o2 w8 w16) j3 v := by
    intro o2 w8 w16 j3 v
    refine iter_fix (impl_copyEng_S3 a0_0 a0_1 a0_2 a0_3 a0_4 a0_5 a0_6 a0_7 a0_8 a0_9 a0_10 a0_11 a0_12 a0_13 a0_14 a0_15 a0_16 o2 w8 w16) (impl_copyEng_l3 k a0_0 a0_1 a0_2 a0_3 a0_4 a0_5 a0_6 a0_7 a0_8 a0_9 a0_10 a0_11 a0_12 a0_13 a0_14 a0_15 a0_16 o2 w8 w16) (fun j3 v => (e3 o2 w8 w16 j3 v).trans ?_) j3 v
    unfold impl_copyEng_l3
    simp only [i4] <;> rfl
  have e2 : ∀ (o2 : Outs) (w8 : List (List T)) (j2 : Nat) (v : Int × List (List T)), impl_copyEng_it2 k a0_0 a0_1 a0_2 a0_3 a0_4 a0_5 a0_6 a0_7 a0_8 a0_9 a0_10 a0_11 a0_12 a0_13 a0_14 a0_15 a0_16 [] (j2 + 1) (impl_copyEng_S2 a0_0 a0_1 a0_2 a0_3 a0_4 a0_5 a0_6 a0_7 a0_8 a0_9 a0_10 a0_11 a0_12 a0_13 a0_14 a0_15 a0_16 o2 w8 v) = impl_copyEng_L2 k a0_0 a0_1 a0_2 a0_3 a0_4 a0_5 a0_6 a0_7 a0_8 a0_9 a0_10 a0_11 a0_12 a0_13 a0_14 a0_15 a0_16 o2 w8 (fun y0 y1 y2 v => impl_copyEng_it3 k a0_0 a0_1 a0_2 a0_3 a0_4 a0_5 a0_6 a0_7 a0_8 a0_9 a0_10 a0_11 a0_12 a0_13 a0_14 a0_15 a0_16 [] k (impl_copyEng_S3 a0_0 a0_1 a0_2 a0_3 a0_4 a0_5 a0_6 a0_7 a0_8 a0_9 a0_10 a0_11 a0_12 a0_13 a0_14 a0_15 a0_16 y0 y1 y2 v)) (fun v => impl_copyEng_it2 k a0_0 a0_1 a0_2 a0_3 a0_4 a0_5 a0_6 a0_7 a0_8 a0_9 a0_10 a0_11 a0_12 a0_13 a0_14 a0_15 a0_16 [] j2 (impl_copyEng_S2 a0_0 a0_1 a0_2 a0_3 a0_4 a0_5 a0_6 a0_7 a0_8 a0_9 a0_10 a0_11 a0_12 a0_13 a0_14 a0_15 a0_16 o2 w8 v)) v := by
    intro o2 w8 j2 v; kernel_rfl
  have i2 : ∀ (o2 : Outs) (w8 : List (List T)) (j2 : Nat) (v : Int × List (List T)), impl_copyEng_it2 k a0_0 a0_1 a0_2 a0_3 a0_4 a0_5 a0_6 a0_7 a0_8 a0_9 a0_10 a0_11 a0_12 a0_13 a0_14 a0_15 a0_16 [] j2 (impl_copyEng_S2 a0_0 a0_1 a0_2 a0_3 a0_4 a0_5 a0_6 a0_7 a0_8 a0_9 a0_10 a0_11 a0_12 a0_13 a0_14 a0_15 a0_16 o2 w8 v) = fixN (impl_copyEng_l2 k a0_0 a0_1 a0_2 a0_3 a0_4 a0_5 a0_6 a0_7 a0_8 a0_9 a0_10 a0_11 a0_12 a0_13 a0_14 a0_15 a0_16 o2 w8) j2 v := by
    intro o2 w8 j2 v
    refine iter_fix (impl_copyEng_S2 a0_0 a0_1 a0_2 a0_3 a0_4 a0_5 a0_6 a0_7 a0_8 a0_9 a0_10 a0_11 a0_12 a0_13 a0_14 a0_15 a0_16 o2 w8) (impl_copyEng_l2 k a0_0 a0_1 a0_2 a0_3 a0_4 a0_5 a0_6 a0_7 a0_8 a0_9 a0_10 a0_11 a0_12 a0_13 a0_14 a0_15 a0_16 o2 w8) (fun j2 v => (e2 o2 w8 j2 v).trans ?_) j2 v
    unfold impl_copyEng_l2
    simp only [i3] <;> rfl
  have e1 : ∀ (o2 : Outs) (j1 : Nat) (v : Int × List (List T)), impl_copyEng_it1 k a0_0 a0_1 a0_2 a0_3 a0_4 a0_5 a0_6 a0_7 a0_8 a0_9 a0_10 a0_11 a0_12 a0_13 a0_14 a0_15 a0_16 [] (j1 + 1) (impl_copyEng_S1 a0_0 a0_1 a0_2 a0_3 a0_4 a0_5 a0_6 a0_7 a0_8 a0_9 a0_10 a0_11 a0_12 a0_13 a0_14 a0_15 a0_16 o2 v) = impl_copyEng_L1 k a0_0 a0_1 a0_2 a0_3 a0_4 a0_5 a0_6 a0_7 a0_8 a0_9 a0_10 a0_11 a0_12 a0_13 a0_14 a0_15 a0_16 o2 (fun y0 y1 v => impl_copyEng_it2 k a0_0 a0_1 a0_2 a0_3 a0_4 a0_5 a0_6 a0_7 a0_8 a0_9 a0_10 a0_11 a0_12 a0_13 a0_14 a0_15 a0_16 [] k (impl_copyEng_S2 a0_0 a0_1 a0_2 a0_3 a0_4 a0_5 a0_6 a0_7 a0_8 a0_9 a0_10 a0_11 a0_12 a0_13 a0_14 a0_15 a0_16 y0 y1 v)) (fun v => impl_copyEng_it1 k a0_0 a0_1 a0_2 a0_3 a0_4 a0_5 a0_6 a0_7 a0_8 a0_9 a0_10 a0_11 a0_12 a0_13 a0_14 a0_15 a0_16 [] j1 (impl_copyEng_S1 a0_0 a0_1 a0_2 a0_3 a0_4 a0_5 a0_6 a0_7 a0_8 a0_9 a0_10 a0_11 a0_12 a0_13 a0_14 a0_15 a0_16 o2 v)) v := by
    intro o2 j1 v; kernel_rfl
  have i1 : ∀ (o2 : Outs) (j1 : Nat) (v : Int × List (List T)), impl_copyEng_it1 k a0_0 a0_1 a0_2 a0_3 a0_4 a0_5 a0_6 a0_7 a0_8 a0_9 a0_10 a0_11 a0_12 a0_13 a0_14 a0_15 a0_16 [] j1 (impl_copyEng_S1 a0_0 a0_1 a0_2 a0_3 a0_4 a0_5 a0_6 a0_7 a0_8 a0_9 a0_10 a0_11 a0_12 a0_13 a0_14 a0_15 a0_16 o2 v) = fixN (impl_copyEng_l1 k a0_0 a0_1 a0_2 a0_3 a0_4 a0_5 a0_6 a0_7 a0_8 a0_9 a0_10 a0_11 a0_12 a0_13 a0_14 a0_15 a0_16 o2) j1 v := by
    intro o2 j1 v
    refine iter_fix (impl_copyEng_S1 a0_0 a0_1 a0_2 a0_3 a0_4 a0_5 a0_6 a0_7 a0_8 a0_9 a0_10 a0_11 a0_12 a0_13 a0_14 a0_15 a0_16 o2) (impl_copyEng_l1 k a0_0 a0_1 a0_2 a0_3 a0_4 a0_5 a0_6 a0_7 a0_8 a0_9 a0_10 a0_11 a0_12 a0_13 a0_14 a0_15 a0_16 o2) (fun j1 v => (e1 o2 j1 v).trans ?_) j1 v
    unfold impl_copyEng_l1
    simp only [i2] <;> rfl
  rw [e0]; unfold impl_copyEng_u
  simp only [i1]
/- impl.jobOk -/
def impl_jobOk_J1 (k : Nat) (a0_0 : Int) (a0_1 : Int) (a1_0 : Int) (a1_1 : Int) (a1_2 : Int) (a1_3 : Int) (a1_4 : List (List T)) (a1_5 : Int) (a1_6 : List (List T)) (c1 : Bool) : Option Outs :=
 bindO (evalF E P0 k N.impl_CmdCode [.v [.i a0_0, .i a0_1], .v [.i a1_0, .i a1_1, .i a1_2, .i a1_3, .r a1_4]]) fun o5 =>
 bif ((o5.t 0).asI == 0) then
  bindO (evalF E P0 k N.impl_within [.v [.i a1_5], .v [.i 0], .v [.i 40]]) fun o6 =>
  bif (o6.t 0).asB then
   bif (decide ((a1_6.length : Int) ≤ 6)) then
    bindO (evalF E P0 k N.impl_wordsOk [.v [.r a1_6]]) fun o7 =>
    bif (o7.t 0).asB then some ⟨[.b c1], []⟩ else some ⟨[.b false], []⟩
   else
    some ⟨[.b false], []⟩
  else
   some ⟨[.b false], []⟩
 else
  some ⟨[.b false], []⟩
def impl_jobOk_u (k : Nat) (a0_0 : Int) (a0_1 : Int) (a1_0 : Int) (a1_1 : Int) (a1_2 : Int) (a1_3 : Int) (a1_4 : List (List T)) (a1_5 : Int) (a1_6 : List (List T)) (a1_7 : Int) : Option Outs :=
 bif (a1_7 == 0) then
  impl_jobOk_J1 k a0_0 a0_1 a1_0 a1_1 a1_2 a1_3 a1_4 a1_5 a1_6 true
 else
  bindO (evalF E P0 k N.impl_within [.v [.i a1_7], .v [.i 4], .v [.i 7]]) fun o8 =>
  impl_jobOk_J1 k a0_0 a0_1 a1_0 a1_1 a1_2 a1_3 a1_4 a1_5 a1_6 ((o8.t 0).asB)
theorem impl_jobOk_e (k : Nat) (a0_0 : Int) (a0_1 : Int) (a1_0 : Int) (a1_1 : Int) (a1_2 : Int) (a1_3 : Int) (a1_4 : List (List T)) (a1_5 : Int) (a1_6 : List (List T)) (a1_7 : Int) : evalF E P0 (k + 1) N.impl_jobOk [.v [.i a0_0, .i a0_1], .v [.i a1_0, .i a1_1, .i a1_2, .i a1_3, .r a1_4, .i a1_5, .r a1_6, .i a1_7]] = impl_jobOk_u k a0_0 a0_1 a1_0 a1_1 a1_2 a1_3 a1_4 a1_5 a1_6 a1_7 := by kernel_rfl
/- impl.hasStripe -/
def impl_hasStripe_u (k : Nat) (a0_0 : Int) (a0_1 : Int) (a1 : Int) : Option Outs :=
 bindO (evalF E P0 k N.impl_GeoOk [.v [.i a0_0, .i a0_1]]) fun o3 =>
 bif (o3.t 0).asB then
  bindO (evalF E P0 k N.impl_within [.v [.i a1], .v [.i 0], .v [.i (IntKind.wrap .i64 (a0_1 - 1))]]) fun o4 =>
  some ⟨[.b (o4.t 0).asB], []⟩
 else
  some ⟨[.b false], []⟩
theorem impl_hasStripe_e (k : Nat) (a0_0 : Int) (a0_1 : Int) (a1 : Int) : evalF E P0 (k + 1) N.impl_hasStripe [.v [.i a0_0, .i a0_1], .v [.i a1]] = impl_hasStripe_u k a0_0 a0_1 a1 := by kernel_rfl
/- impl.dataOk -/
def impl_dataOk_u (k : Nat) (a0_0 : Int) (a0_1 : Int) (a1 : List (List T)) : Option Outs :=
 bif ((a1.length : Int) == (IntKind.wrap .i64 (a0_0 - 1))) then
  bindO (evalF E P0 k N.impl_wordsOk [.v [.r a1]]) fun o2 =>
  some ⟨[.b (o2.t 0).asB], []⟩
 else
  some ⟨[.b false], []⟩
theorem impl_dataOk_e (k : Nat) (a0_0 : Int) (a0_1 : Int) (a1 : List (List T)) : evalF E P0 (k + 1) N.impl_dataOk [.v [.i a0_0, .i a0_1], .v [.r a1]] = impl_dataOk_u k a0_0 a0_1 a1 := by kernel_rfl
/- impl.dirtyOk -/
def impl_dirtyOk_L1 (k : Nat) (a0_0 : Int) (a0_1 : Int) (a0_2 : Int) (a0_3 : List (List T)) (a0_4 : Int) (a0_5 : Int) (a0_6 : Int) (a0_7 : Int) (a0_8 : Int) (a0_9 : List (List T)) (a0_10 : Int) (a0_11 : Bool) (a0_12 : Bool) (G1 : (Int) → Option Outs) : (Int) → Option Outs := fun v8 =>
 bif (decide (v8 < (a0_9.length : Int))) then
  chk (decide (0 ≤ v8) && decide (v8 < (a0_9.length : Int))) <|
  bindO (evalF E P0 k N.impl_hasStripe [.v [.i a0_1, .i a0_2], .v [.i (at_ a0_9 v8.toNat 0).asI]]) fun o254 =>
  bif (!(o254.t 0).asB) then
   some ⟨[.b false], []⟩
  else
   bif (decide (v8 > 0)) then
    chk (decide (0 ≤ (IntKind.wrap .i64 (v8 - 1))) && decide ((IntKind.wrap .i64 (v8 - 1)) < (a0_9.length : Int))) <|
    bif (decide ((at_ a0_9 (IntKind.wrap .i64 (v8 - 1)).toNat 0).asI ≥ (at_ a0_9 v8.toNat 0).asI)) then
     some ⟨[.b false], []⟩
    else
     bindO (evalF E P0 k N.impl_dataOk [.v [.i a0_1, .i a0_2], .v [.r (at_ a0_9 v8.toNat 1).asR]]) fun o255 =>
     bif (!(o255.t 0).asB) then some ⟨[.b false], []⟩ else G1 (IntKind.wrap .i64 (v8 + 1))
   else
    bindO (evalF E P0 k N.impl_dataOk [.v [.i a0_1, .i a0_2], .v [.r (at_ a0_9 v8.toNat 1).asR]]) fun o256 =>
    bif (!(o256.t 0).asB) then some ⟨[.b false], []⟩ else G1 (IntKind.wrap .i64 (v8 + 1))
 else
  some ⟨[.b true], []⟩
def impl_dirtyOk_k1 : List Nat := [1, 2, 6, 7, 8]
def impl_dirtyOk_S1 (a0_0 : Int) (a0_1 : Int) (a0_2 : Int) (a0_3 : List (List T)) (a0_4 : Int) (a0_5 : Int) (a0_6 : Int) (a0_7 : Int) (a0_8 : Int) (a0_9 : List (List T)) (a0_10 : Int) (a0_11 : Bool) (a0_12 : Bool) : (Int) → St := fun v8 => ⟨ofSl [(1, .ptr (1, 0) 0), (2, .b false), (6, .sl 166 a0_9), (7, .i .i64 (a0_9.length : Int)), (8, .i .i64 v8)], ofMem [((1, 0), .var [.i .i64 a0_0, .i .i64 a0_1, .i .i64 a0_2, .sl 139 a0_3, .i .i64 a0_4, .i .i64 a0_5, .i .i64 a0_6, .i .i64 a0_7, .i .i64 a0_8, .sl 166 a0_9, .i .i64 a0_10, .b a0_11, .b a0_12])]⟩
def impl_dirtyOk_l1 (k : Nat) (a0_0 : Int) (a0_1 : Int) (a0_2 : Int) (a0_3 : List (List T)) (a0_4 : Int) (a0_5 : Int) (a0_6 : Int) (a0_7 : Int) (a0_8 : Int) (a0_9 : List (List T)) (a0_10 : Int) (a0_11 : Bool) (a0_12 : Bool) (G1 : (Int) → Option Outs) : (Int) → Option Outs :=
  impl_dirtyOk_L1 k a0_0 a0_1 a0_2 a0_3 a0_4 a0_5 a0_6 a0_7 a0_8 a0_9 a0_10 a0_11 a0_12 G1
def impl_dirtyOk_U (k : Nat) (a0_0 : Int) (a0_1 : Int) (a0_2 : Int) (a0_3 : List (List T)) (a0_4 : Int) (a0_5 : Int) (a0_6 : Int) (a0_7 : Int) (a0_8 : Int) (a0_9 : List (List T)) (a0_10 : Int) (a0_11 : Bool) (a0_12 : Bool) (R1 : (Int) → Option Outs) : Option Outs :=
 R1 0
def impl_dirtyOk_u (k : Nat) (a0_0 : Int) (a0_1 : Int) (a0_2 : Int) (a0_3 : List (List T)) (a0_4 : Int) (a0_5 : Int) (a0_6 : Int) (a0_7 : Int) (a0_8 : Int) (a0_9 : List (List T)) (a0_10 : Int) (a0_11 : Bool) (a0_12 : Bool) : Option Outs :=
  impl_dirtyOk_U k a0_0 a0_1 a0_2 a0_3 a0_4 a0_5 a0_6 a0_7 a0_8 a0_9 a0_10 a0_11 a0_12 (fun v => fixN (impl_dirtyOk_l1 k a0_0 a0_1 a0_2 a0_3 a0_4 a0_5 a0_6 a0_7 a0_8 a0_9 a0_10 a0_11 a0_12) k v)
def impl_dirtyOk_it1 (k : Nat) (a0_0 : Int) (a0_1 : Int) (a0_2 : Int) (a0_3 : List (List T)) (a0_4 : Int) (a0_5 : Int) (a0_6 : Int) (a0_7 : Int) (a0_8 : Int) (a0_9 : List (List T)) (a0_10 : Int) (a0_11 : Bool) (a0_12 : Bool) (js : List Nat) (j : Nat) (s : St) : Option Outs := iter E (LB E (evalF E P0 k) k [] N.impl_dirtyOk [.sr, .sl, .sr, .bl]) [] impl_dirtyOk_k1 (LK E (evalF E P0 k) k [] N.impl_dirtyOk [.v [.i a0_0, .i a0_1, .i a0_2, .r a0_3, .i a0_4, .i a0_5, .i a0_6, .i a0_7, .i a0_8, .r a0_9, .i a0_10, .b a0_11, .b a0_12]] [.sr, .sl, .sr, .bl] js) j s
theorem impl_dirtyOk_e (k : Nat) (a0_0 : Int) (a0_1 : Int) (a0_2 : Int) (a0_3 : List (List T)) (a0_4 : Int) (a0_5 : Int) (a0_6 : Int) (a0_7 : Int) (a0_8 : Int) (a0_9 : List (List T)) (a0_10 : Int) (a0_11 : Bool) (a0_12 : Bool) : evalF E P0 (k + 1) N.impl_dirtyOk [.v [.i a0_0, .i a0_1, .i a0_2, .r a0_3, .i a0_4, .i a0_5, .i a0_6, .i a0_7, .i a0_8, .r a0_9, .i a0_10, .b a0_11, .b a0_12]] = impl_dirtyOk_u k a0_0 a0_1 a0_2 a0_3 a0_4 a0_5 a0_6 a0_7 a0_8 a0_9 a0_10 a0_11 a0_12 := by
  have e0 : evalF E P0 (k + 1) N.impl_dirtyOk [.v [.i a0_0, .i a0_1, .i a0_2, .r a0_3, .i a0_4, .i a0_5, .i a0_6, .i a0_7, .i a0_8, .r a0_9, .i a0_10, .b a0_11, .b a0_12]] = impl_dirtyOk_U k a0_0 a0_1 a0_2 a0_3 a0_4 a0_5 a0_6 a0_7 a0_8 a0_9 a0_10 a0_11 a0_12 (fun v => impl_dirtyOk_it1 k a0_0 a0_1 a0_2 a0_3 a0_4 a0_5 a0_6 a0_7 a0_8 a0_9 a0_10 a0_11 a0_12 [] k (impl_dirtyOk_S1 a0_0 a0_1 a0_2 a0_3 a0_4 a0_5 a0_6 a0_7 a0_8 a0_9 a0_10 a0_11 a0_12 v)) := by kernel_rfl
  have e1 : ∀ (j1 : Nat) (v : Int), impl_dirtyOk_it1 k a0_0 a0_1 a0_2 a0_3 a0_4 a0_5 a0_6 a0_7 a0_8 a0_9 a0_10 a0_11 a0_12 [] (j1 + 1) (impl_dirtyOk_S1 a0_0 a0_1 a0_2 a0_3 a0_4 a0_5 a0_6 a0_7 a0_8 a0_9 a0_10 a0_11 a0_12 v) = impl_dirtyOk_L1 k a0_0 a0_1 a0_2 a0_3 a0_4 a0_5 a0_6 a0_7 a0_8 a0_9 a0_10 a0_11 a0_12 (fun v => impl_dirtyOk_it1 k a0_0 a0_1 a0_2 a0_3 a0_4 a0_5 a0_6 a0_7 a0_8 a0_9 a0_10 a0_11 a0_12 [] j1 (impl_dirtyOk_S1 a0_0 a0_1 a0_2 a0_3 a0_4 a0_5 a0_6 a0_7 a0_8 a0_9 a0_10 a0_11 a0_12 v)) v := by
    intro j1 v; kernel_rfl
  have i1 : ∀ (j1 : Nat) (v : Int), impl_dirtyOk_it1 k a0_0 a0_1 a0_2 a0_3 a0_4 a0_5 a0_6 a0_7 a0_8 a0_9 a0_10 a0_11 a0_12 [] j1 (impl_dirtyOk_S1 a0_0 a0_1 a0_2 a0_3 a0_4 a0_5 a0_6 a0_7 a0_8 a0_9 a0_10 a0_11 a0_12 v) = fixN (impl_dirtyOk_l1 k a0_0 a0_1 a0_2 a0_3 a0_4 a0_5 a0_6 a0_7 a0_8 a0_9 a0_10 a0_11 a0_12) j1 v := by
    intro j1 v
    refine iter_fix (impl_dirtyOk_S1 a0_0 a0_1 a0_2 a0_3 a0_4 a0_5 a0_6 a0_7 a0_8 a0_9 a0_10 a0_11 a0_12) (impl_dirtyOk_l1 k a0_0 a0_1 a0_2 a0_3 a0_4 a0_5 a0_6 a0_7 a0_8 a0_9 a0_10 a0_11 a0_12) (fun j1 v => (e1 j1 v).trans ?_) j1 v
    unfold impl_dirtyOk_l1
    rfl
  rw [e0]; unfold impl_dirtyOk_u
  simp only [i1]
/- impl.ArrOk -/
def impl_ArrOk_J2 (k : Nat) (a0_6 : Int) (a0_7 : Int) (a0_10 : Int) (c50 : Bool) : Option Outs :=
 bif c50 then
  bindO (evalF E P0 k N.impl_within [.v [.i (IntKind.wrap .i64 (a0_6 - a0_7))], .v [.i 0], .v [.i 4]]) fun o206 =>
  bif (o206.t 0).asB then
   bindO (evalF E P0 k N.impl_within [.v [.i a0_10], .v [.i (-1)], .v [.i 1000]]) fun o207 =>
   some ⟨[.b (o207.t 0).asB], []⟩
  else
   some ⟨[.b false], []⟩
 else
  some ⟨[.b false], []⟩
def impl_ArrOk_L1 (k : Nat) (a0_0 : Int) (a0_1 : Int) (a0_2 : Int) (a0_3 : List (List T)) (a0_4 : Int) (a0_5 : Int) (a0_6 : Int) (a0_7 : Int) (a0_8 : Int) (a0_9 : List (List T)) (a0_10 : Int) (a0_11 : Bool) (a0_12 : Bool) (G1 : (Int) → Option Outs) : (Int) → Option Outs := fun v8 =>
 bif (decide (v8 < (a0_3.length : Int))) then
  chk (decide (0 ≤ v8) && decide (v8 < (a0_3.length : Int))) <|
  bindO (evalF E P0 k N.impl_MemOk [.v [.r (at_ a0_3 v8.toNat 0).asR, .r (at_ a0_3 v8.toNat 1).asR, .b (at_ a0_3 v8.toNat 2).asB, .r (at_ a0_3 v8.toNat 3).asR]]) fun o196 =>
  bif (!(o196.t 0).asB) then
   some ⟨[.b false], []⟩
  else
   bindO (evalF E P0 k N.impl_sectors [.v [.i a0_1, .i a0_2]]) fun o197 =>
   bif (((at_ a0_3 v8.toNat 0).asR.length : Int) != (o197.t 0).asI) then
    some ⟨[.b false], []⟩
   else
    bif (at_ a0_3 v8.toNat 2).asB then
     bif (a0_4 != v8) then
      bif (!a0_12) then some ⟨[.b false], []⟩ else G1 (IntKind.wrap .i64 (v8 + 1))
     else
      G1 (IntKind.wrap .i64 (v8 + 1))
    else
     G1 (IntKind.wrap .i64 (v8 + 1))
 else
  bindO (evalF E P0 k N.impl_within [.v [.i a0_6], .v [.i 0], .v [.i 60000]]) fun o201 =>
  bif (o201.t 0).asB then
   bindO (evalF E P0 k N.impl_within [.v [.i a0_7], .v [.i 0], .v [.i 60000]]) fun o202 =>
   bif (o202.t 0).asB then
    bindO (evalF E P0 k N.impl_within [.v [.i a0_8], .v [.i 0], .v [.i 60000]]) fun o203 =>
    impl_ArrOk_J2 k a0_6 a0_7 a0_10 ((o203.t 0).asB)
   else
    impl_ArrOk_J2 k a0_6 a0_7 a0_10 false
  else
   impl_ArrOk_J2 k a0_6 a0_7 a0_10 false
def impl_ArrOk_k1 : List Nat := [1, 2, 5, 41, 42, 43, 76, 77, 78, 79, 80, 81, 82, 83, 84, 85, 86, 87, 88, 89, 90, 91, 92, 93, 94, 95, 96, 97, 98, 99, 100, 101, 102]
def impl_ArrOk_S1 (a0_0 : Int) (a0_1 : Int) (a0_2 : Int) (a0_3 : List (List T)) (a0_4 : Int) (a0_5 : Int) (a0_6 : Int) (a0_7 : Int) (a0_8 : Int) (a0_9 : List (List T)) (a0_10 : Int) (a0_11 : Bool) (a0_12 : Bool) : (Int) → St := fun v8 => ⟨ofSl [(1, .ptr (1, 0) 0), (2, .b false), (5, .skip), (41, .sl 139 a0_3), (42, .i .i64 (a0_3.length : Int)), (43, .i .i64 v8), (76, .skip), (77, .skip), (78, .skip), (79, .skip), (80, .skip), (81, .skip), (82, .skip), (83, .skip), (84, .skip), (85, .skip), (86, .skip), (87, .skip), (88, .skip), (89, .skip), (90, .skip), (91, .skip), (92, .skip), (93, .skip), (94, .skip), (95, .skip), (96, .skip), (97, .skip), (98, .skip), (99, .skip), (100, .skip), (101, .skip), (102, .skip)], ofMem [((1, 0), .var [.i .i64 a0_0, .i .i64 a0_1, .i .i64 a0_2, .sl 139 a0_3, .i .i64 a0_4, .i .i64 a0_5, .i .i64 a0_6, .i .i64 a0_7, .i .i64 a0_8, .sl 166 a0_9, .i .i64 a0_10, .b a0_11, .b a0_12])]⟩
def impl_ArrOk_J1 (k : Nat) (R1 : (Int) → Option Outs) (c1 : Bool) : Option Outs :=
 bif c1 then some ⟨[.b false], []⟩ else R1 0
def impl_ArrOk_l1 (k : Nat) (a0_0 : Int) (a0_1 : Int) (a0_2 : Int) (a0_3 : List (List T)) (a0_4 : Int) (a0_5 : Int) (a0_6 : Int) (a0_7 : Int) (a0_8 : Int) (a0_9 : List (List T)) (a0_10 : Int) (a0_11 : Bool) (a0_12 : Bool) (G1 : (Int) → Option Outs) : (Int) → Option Outs :=
  impl_ArrOk_L1 k a0_0 a0_1 a0_2 a0_3 a0_4 a0_5 a0_6 a0_7 a0_8 a0_9 a0_10 a0_11 a0_12 G1
def impl_ArrOk_U (k : Nat) (a0_0 : Int) (a0_1 : Int) (a0_2 : Int) (a0_3 : List (List T)) (a0_4 : Int) (a0_5 : Int) (a0_6 : Int) (a0_7 : Int) (a0_8 : Int) (a0_9 : List (List T)) (a0_10 : Int) (a0_11 : Bool) (a0_12 : Bool) (R1 : (Int) → Option Outs) : Option Outs :=
 bindO (evalF E P0 k N.impl_GeoOk [.v [.i a0_1, .i a0_2]]) fun o5 =>
 bif (!(o5.t 0).asB) then
  impl_ArrOk_J1 k R1 true
 else
  bif ((a0_3.length : Int) != a0_1) then
   impl_ArrOk_J1 k R1 true
  else
   bindO (evalF E P0 k N.impl_within [.v [.i a0_0], .v [.i 1], .v [.i 60000]]) fun o208 =>
   bif (!(o208.t 0).asB) then
    impl_ArrOk_J1 k R1 true
   else
    bindO (evalF E P0 k N.impl_lostOk [.v [.i a0_1, .i a0_2], .v [.i a0_4], .v [.i a0_5]]) fun o209 =>
    bif (!(o209.t 0).asB) then
     impl_ArrOk_J1 k R1 true
    else
     bindO (evalF E P0 k N.impl_dirtyOk [.v [.i a0_0, .i a0_1, .i a0_2, .r a0_3, .i a0_4, .i a0_5, .i a0_6, .i a0_7, .i a0_8, .r a0_9, .i a0_10, .b a0_11, .b a0_12]]) fun o210 =>
     impl_ArrOk_J1 k R1 (!(o210.t 0).asB)
def impl_ArrOk_u (k : Nat) (a0_0 : Int) (a0_1 : Int) (a0_2 : Int) (a0_3 : List (List T)) (a0_4 : Int) (a0_5 : Int) (a0_6 : Int) (a0_7 : Int) (a0_8 : Int) (a0_9 : List (List T)) (a0_10 : Int) (a0_11 : Bool) (a0_12 : Bool) : Option Outs :=
  impl_ArrOk_U k a0_0 a0_1 a0_2 a0_3 a0_4 a0_5 a0_6 a0_7 a0_8 a0_9 a0_10 a0_11 a0_12 (fun v => fixN (impl_ArrOk_l1 k a0_0 a0_1 a0_2 a0_3 a0_4 a0_5 a0_6 a0_7 a0_8 a0_9 a0_10 a0_11 a0_12) k v)
def impl_ArrOk_it1 (k : Nat) (a0_0 : Int) (a0_1 : Int) (a0_2 : Int) (a0_3 : List (List T)) (a0_4 : Int) (a0_5 : Int) (a0_6 : Int) (a0_7 : Int) (a0_8 : Int) (a0_9 : List (List T)) (a0_10 : Int) (a0_11 : Bool) (a0_12 : Bool) (js : List Nat) (j : Nat) (s : St) : Option Outs := iter E (LB E (evalF E P0 k) k [] N.impl_ArrOk [.sr, .sr, .sl, .sr, .bl]) [] impl_ArrOk_k1 (LK E (evalF E P0 k) k [] N.impl_ArrOk [.v [.i a0_0, .i a0_1, .i a0_2, .r a0_3, .i a0_4, .i a0_5, .i a0_6, .i a0_7, .i a0_8, .r a0_9, .i a0_10, .b a0_11, .b a0_12]] [.sr, .sr, .sl, .sr, .bl] js) j s
theorem impl_ArrOk_e (k : Nat) (a0_0 : Int) (a0_1 : Int) (a0_2 : Int) (a0_3 : List (List T)) (a0_4 : Int) (a0_5 : Int) (a0_6 : Int) (a0_7 : Int) (a0_8 : Int) (a0_9 : List (List T)) (a0_10 : Int) (a0_11 : Bool) (a0_12 : Bool) : evalF E P0 (k + 1) N.impl_ArrOk [.v [.i a0_0, .i a0_1, .i a0_2, .r a0_3, .i a0_4, .i a0_5, .i a0_6, .i a0_7, .i a0_8, .r a0_9, .i a0_10, .b a0_11, .b a0_12]] = impl_ArrOk_u k a0_0 a0_1 a0_2 a0_3 a0_4 a0_5 a0_6 a0_7 a0_8 a0_9 a0_10 a0_11 a0_12 := by
  have e0 : evalF E P0 (k + 1) N.impl_ArrOk [.v [.i a0_0, .i a0_1, .i a0_2, .r a0_3, .i a0_4, .i a0_5, .i a0_6, .i a0_7, .i a0_8, .r a0_9, .i a0_10, .b a0_11, .b a0_12]] = impl_ArrOk_U k a0_0 a0_1 a0_2 a0_3 a0_4 a0_5 a0_6 a0_7 a0_8 a0_9 a0_10 a0_11 a0_12 (fun v => impl_ArrOk_it1 k a0_0 a0_1 a0_2 a0_3 a0_4 a0_5 a0_6 a0_7 a0_8 a0_9 a0_10 a0_11 a0_12 [] k (impl_ArrOk_S1 a0_0 a0_1 a0_2 a0_3 a0_4 a0_5 a0_6 a0_7 a0_8 a0_9 a0_10 a0_11 a0_12 v)) := by kernel_rfl
  have e1 : ∀ (j1 : Nat) (v : Int), impl_ArrOk_it1 k a0_0 a0_1 a0_2 a0_3 a0_4 a0_5 a0_6 a0_7 a0_8 a0_9 a0_10 a0_11 a0_12 [] (j1 + 1) (impl_ArrOk_S1 a0_0 a0_1 a0_2 a0_3 a0_4 a0_5 a0_6 a0_7 a0_8 a0_9 a0_10 a0_11 a0_12 v) = impl_ArrOk_L1 k a0_0 a0_1 a0_2 a0_3 a0_4 a0_5 a0_6 a0_7 a0_8 a0_9 a0_10 a0_11 a0_12 (fun v => impl_ArrOk_it1 k a0_0 a0_1 a0_2 a0_3 a0_4 a0_5 a0_6 a0_7 a0_8 a0_9 a0_10 a0_11 a0_12 [] j1 (impl_ArrOk_S1 a0_0 a0_1 a0_2 a0_3 a0_4 a0_5 a0_6 a0_7 a0_8 a0_9 a0_10 a0_11 a0_12 v)) v := by
    intro j1 v; kernel_rfl
  have i1 : ∀ (j1 : Nat) (v : Int), impl_ArrOk_it1 k a0_0 a0_1 a0_2 a0_3 a0_4 a0_5 a0_6 a0_7 a0_8 a0_9 a0_10 a0_11 a0_12 [] j1 (impl_ArrOk_S1 a0_0 a0_1 a0_2 a0_3 a0_4 a0_5 a0_6 a0_7 a0_8 a0_9 a0_10 a0_11 a0_12 v) = fixN (impl_ArrOk_l1 k a0_0 a0_1 a0_2 a0_3 a0_4 a0_5 a0_6 a0_7 a0_8 a0_9 a0_10 a0_11 a0_12) j1 v := by
    intro j1 v
    refine iter_fix (impl_ArrOk_S1 a0_0 a0_1 a0_2 a0_3 a0_4 a0_5 a0_6 a0_7 a0_8 a0_9 a0_10 a0_11 a0_12) (impl_ArrOk_l1 k a0_0 a0_1 a0_2 a0_3 a0_4 a0_5 a0_6 a0_7 a0_8 a0_9 a0_10 a0_11 a0_12) (fun j1 v => (e1 j1 v).trans ?_) j1 v
    unfold impl_ArrOk_l1
    rfl
  rw [e0]; unfold impl_ArrOk_u
  simp only [i1]
/- impl.Clash -/
def impl_Clash_u (k : Nat) (a0_0 : Int) (a0_1 : Int) (a1_0 : Int) (a1_1 : Int) (a1_2 : Int) (a1_3 : Int) (a1_4 : List (List T)) (a2_0 : Int) (a2_1 : Int) (a2_2 : Int) (a2_3 : Int) (a2_4 : List (List T)) : Option Outs :=
 bindO (evalF E P0 k N.impl_SpanOf [.v [.i a0_0, .i a0_1], .v [.i a1_0, .i a1_1, .i a1_2, .i a1_3, .r a1_4]]) fun o2 =>
 bindO (evalF E P0 k N.impl_SpanOf [.v [.i a0_0, .i a0_1], .v [.i a2_0, .i a2_1, .i a2_2, .i a2_3, .r a2_4]]) fun o4 =>
 some ⟨[.b (decide ((if (o4.t 0).asI > (o2.t 0).asI then (o4.t 0).asI else (o2.t 0).asI) < (if (o4.t 1).asI < (o2.t 1).asI then (o4.t 1).asI else (o2.t 1).asI)))], []⟩
theorem impl_Clash_e (k : Nat) (a0_0 : Int) (a0_1 : Int) (a1_0 : Int) (a1_1 : Int) (a1_2 : Int) (a1_3 : Int) (a1_4 : List (List T)) (a2_0 : Int) (a2_1 : Int) (a2_2 : Int) (a2_3 : Int) (a2_4 : List (List T)) : evalF E P0 (k + 1) N.impl_Clash [.v [.i a0_0, .i a0_1], .v [.i a1_0, .i a1_1, .i a1_2, .i a1_3, .r a1_4], .v [.i a2_0, .i a2_1, .i a2_2, .i a2_3, .r a2_4]] = impl_Clash_u k a0_0 a0_1 a1_0 a1_1 a1_2 a1_3 a1_4 a2_0 a2_1 a2_2 a2_3 a2_4 := by kernel_rfl
/- impl.Apart -/
def impl_Apart_L2 (k : Nat) (a0_0 : Int) (a0_1 : Int) (a0_2 : Int) (a0_3 : List (List T)) (a0_4 : Int) (a0_5 : Int) (a0_6 : Int) (a0_7 : Int) (a0_8 : Int) (a0_9 : List (List T)) (a0_10 : Int) (a0_11 : Bool) (a0_12 : Bool) (a0_13 : List (List T)) (a0_14 : List (List T)) (a0_15 : List (List T)) (a0_16 : List (List T)) (p2103 : List (List T)) (p2104 : Int) (p2105 : Int) (p2106 : Int) (p2107 : Int) (p2108 : Int) (p2109 : List (List T)) (p2110 : Int) (p2111 : List (List T)) (p2112 : Int) (v184 : Int) (G1 : (Int) → Option Outs) (G2 : (Int) → Option Outs) : (Int) → Option Outs := fun v200 =>
 bif (decide (v200 < p2104)) then
  chk (decide (0 ≤ v200) && decide (v200 < (p2103.length : Int))) <|
  bindO (evalF E P0 k N.impl_Clash [.v [.i a0_1, .i a0_2], .v [.i p2105, .i p2106, .i p2107, .i p2108, .r p2109], .v [.i (at_ p2103 v200.toNat 0).asI, .i (at_ p2103 v200.toNat 1).asI, .i (at_ p2103 v200.toNat 2).asI, .i (at_ p2103 v200.toNat 3).asI, .r (at_ p2103 v200.toNat 4).asR]]) fun o2304 =>
  bif (o2304.t 0).asB then some ⟨[.b false], []⟩ else G2 (IntKind.wrap .i64 (v200 + 1))
 else
  G1 (IntKind.wrap .i64 (v184 + 1))
def impl_Apart_k2 : List Nat := [1, 2, 4, 8, 9, 10, 18, 19, 20, 33]
def impl_Apart_S2 (a0_0 : Int) (a0_1 : Int) (a0_2 : Int) (a0_3 : List (List T)) (a0_4 : Int) (a0_5 : Int) (a0_6 : Int) (a0_7 : Int) (a0_8 : Int) (a0_9 : List (List T)) (a0_10 : Int) (a0_11 : Bool) (a0_12 : Bool) (a0_13 : List (List T)) (a0_14 : List (List T)) (a0_15 : List (List T)) (a0_16 : List (List T)) (p2103 : List (List T)) (p2104 : Int) (p2105 : Int) (p2106 : Int) (p2107 : Int) (p2108 : Int) (p2109 : List (List T)) (p2110 : Int) (p2111 : List (List T)) (p2112 : Int) (v184 : Int) : (Int) → St := fun v200 => ⟨ofSl [(1, .ptr (1, 0) 0), (2, .b false), (4, .ptr (4, 0) 0), (8, .sl 155 a0_14), (9, .i .i64 (a0_14.length : Int)), (10, .i .i64 v184), (18, .sl 155 p2103), (19, .i .i64 p2104), (20, .i .i64 v200), (33, .undef)], ofMem [((1, 0), .var [.i .i64 a0_0, .i .i64 a0_1, .i .i64 a0_2, .sl 139 a0_3, .i .i64 a0_4, .i .i64 a0_5, .i .i64 a0_6, .i .i64 a0_7, .i .i64 a0_8, .sl 166 a0_9, .i .i64 a0_10, .b a0_11, .b a0_12, .sl 54 a0_13, .sl 155 a0_14, .sl 61 a0_15, .sl 63 a0_16]), ((4, 0), .var [.i .i64 p2105, .i .i64 p2106, .i .i64 p2107, .i .i64 p2108, .sl 3 p2109, .i .i64 p2110, .sl 3 p2111, .i .i64 p2112])]⟩
def impl_Apart_L1 (k : Nat) (a0_0 : Int) (a0_1 : Int) (a0_2 : Int) (a0_3 : List (List T)) (a0_4 : Int) (a0_5 : Int) (a0_6 : Int) (a0_7 : Int) (a0_8 : Int) (a0_9 : List (List T)) (a0_10 : Int) (a0_11 : Bool) (a0_12 : Bool) (a0_13 : List (List T)) (a0_14 : List (List T)) (a0_15 : List (List T)) (a0_16 : List (List T)) (R2 : List (List T) → Int → Int → Int → Int → Int → List (List T) → Int → List (List T) → Int → Int → (Int) → Option Outs) (G1 : (Int) → Option Outs) : (Int) → Option Outs := fun v184 =>
 bif (decide (v184 < (a0_14.length : Int))) then
  chk (decide (0 ≤ v184) && decide (v184 < (a0_14.length : Int))) <|
  chk (decide (0 ≤ 0) && decide (0 ≤ v184) && decide (v184 ≤ (a0_14.length : Int))) <|
  R2 ((a0_14.drop (0 : Int).toNat).take (v184.toNat - (0 : Int).toNat)) (((a0_14.drop (0 : Int).toNat).take (v184.toNat - (0 : Int).toNat)).length : Int) ((at_ a0_14 v184.toNat 0).asI) ((at_ a0_14 v184.toNat 1).asI) ((at_ a0_14 v184.toNat 2).asI) ((at_ a0_14 v184.toNat 3).asI) ((at_ a0_14 v184.toNat 4).asR) ((at_ a0_14 v184.toNat 5).asI) ((at_ a0_14 v184.toNat 6).asR) ((at_ a0_14 v184.toNat 7).asI) v184 0
 else
  some ⟨[.b true], []⟩
def impl_Apart_k1 : List Nat := [1, 2, 8, 9, 10]
def impl_Apart_S1 (a0_0 : Int) (a0_1 : Int) (a0_2 : Int) (a0_3 : List (List T)) (a0_4 : Int) (a0_5 : Int) (a0_6 : Int) (a0_7 : Int) (a0_8 : Int) (a0_9 : List (List T)) (a0_10 : Int) (a0_11 : Bool) (a0_12 : Bool) (a0_13 : List (List T)) (a0_14 : List (List T)) (a0_15 : List (List T)) (a0_16 : List (List T)) : (Int) → St := fun v184 => ⟨ofSl [(1, .ptr (1, 0) 0), (2, .b false), (8, .sl 155 a0_14), (9, .i .i64 (a0_14.length : Int)), (10, .i .i64 v184)], ofMem [((1, 0), .var [.i .i64 a0_0, .i .i64 a0_1, .i .i64 a0_2, .sl 139 a0_3, .i .i64 a0_4, .i .i64 a0_5, .i .i64 a0_6, .i .i64 a0_7, .i .i64 a0_8, .sl 166 a0_9, .i .i64 a0_10, .b a0_11, .b a0_12, .sl 54 a0_13, .sl 155 a0_14, .sl 61 a0_15, .sl 63 a0_16])]⟩
def impl_Apart_l2 (k : Nat) (a0_0 : Int) (a0_1 : Int) (a0_2 : Int) (a0_3 : List (List T)) (a0_4 : Int) (a0_5 : Int) (a0_6 : Int) (a0_7 : Int) (a0_8 : Int) (a0_9 : List (List T)) (a0_10 : Int) (a0_11 : Bool) (a0_12 : Bool) (a0_13 : List (List T)) (a0_14 : List (List T)) (a0_15 : List (List T)) (a0_16 : List (List T)) (p2103 : List (List T)) (p2104 : Int) (p2105 : Int) (p2106 : Int) (p2107 : Int) (p2108 : Int) (p2109 : List (List T)) (p2110 : Int) (p2111 : List (List T)) (p2112 : Int) (v184 : Int) (G1 : (Int) → Option Outs) (G2 : (Int) → Option Outs) : (Int) → Option Outs :=
  impl_Apart_L2 k a0_0 a0_1 a0_2 a0_3 a0_4 a0_5 a0_6 a0_7 a0_8 a0_9 a0_10 a0_11 a0_12 a0_13 a0_14 a0_15 a0_16 p2103 p2104 p2105 p2106 p2107 p2108 p2109 p2110 p2111 p2112 v184 G1 G2
def impl_Apart_l1 (k : Nat) (a0_0 : Int) (a0_1 : Int) (a0_2 : Int) (a0_3 : List (List T)) (a0_4 : Int) (a0_5 : Int) (a0_6 : Int) (a0_7 : Int) (a0_8 : Int) (a0_9 : List (List T)) (a0_10 : Int) (a0_11 : Bool) (a0_12 : Bool) (a0_13 : List (List T)) (a0_14 : List (List T)) (a0_15 : List (List T)) (a0_16 : List (List T)) (G1 : (Int) → Option Outs) : (Int) → Option Outs :=
  impl_Apart_L1 k a0_0 a0_1 a0_2 a0_3 a0_4 a0_5 a0_6 a0_7 a0_8 a0_9 a0_10 a0_11 a0_12 a0_13 a0_14 a0_15 a0_16 (fun y0 y1 y2 y3 y4 y5 y6 y7 y8 y9 y10 v => fixN (impl_Apart_l2 k a0_0 a0_1 a0_2 a0_3 a0_4 a0_5 a0_6 a0_7 a0_8 a0_9 a0_10 a0_11 a0_12 a0_13 a0_14 a0_15 a0_16 y0 y1 y2 y3 y4 y5 y6 y7 y8 y9 y10 G1) k v) G1
def impl_Apart_U (k : Nat) (a0_0 : Int) (a0_1 : Int) (a0_2 : Int) (a0_3 : List (List T)) (a0_4 : Int) (a0_5 : Int) (a0_6 : Int) (a0_7 : Int) (a0_8 : Int) (a0_9 : List (List T)) (a0_10 : Int) (a0_11 : Bool) (a0_12 : Bool) (a0_13 : List (List T)) (a0_14 : List (List T)) (a0_15 : List (List T)) (a0_16 : List (List T)) (R1 : (Int) → Option Outs) : Option Outs :=
 R1 0
def impl_Apart_u (k : Nat) (a0_0 : Int) (a0_1 : Int) (a0_2 : Int) (a0_3 : List (List T)) (a0_4 : Int) (a0_5 : Int) (a0_6 : Int) (a0_7 : Int) (a0_8 : Int) (a0_9 : List (List T)) (a0_10 : Int) (a0_11 : Bool) (a0_12 : Bool) (a0_13 : List (List T)) (a0_14 : List (List T)) (a0_15 : List (List T)) (a0_16 : List (List T)) : Option Outs :=
  impl_Apart_U k a0_0 a0_1 a0_2 a0_3 a0_4 a0_5 a0_6 a0_7 a0_8 a0_9 a0_10 a0_11 a0_12 a0_13 a0_14 a0_15 a0_16 (fun v => fixN (impl_Apart_l1 k a0_0 a0_1 a0_2 a0_3 a0_4 a0_5 a0_6 a0_7 a0_8 a0_9 a0_10 a0_11 a0_12 a0_13 a0_14 a0_15 a0_16) k v)
def impl_Apart_it1 (k : Nat) (a0_0 : Int) (a0_1 : Int) (a0_2 : Int) (a0_3 : List (List T)) (a0_4 : Int) (a0_5 : Int) (a0_6 : Int) (a0_7 : Int) (a0_8 : Int) (a0_9 : List (List T)) (a0_10 : Int) (a0_11 : Bool) (a0_12 : Bool) (a0_13 : List (List T)) (a0_14 : List (List T)) (a0_15 : List (List T)) (a0_16 : List (List T)) (js : List Nat) (j : Nat) (s : St) : Option Outs := iter E (LB E (evalF E P0 k) k [] N.impl_Apart [.sr, .sl, .sr, .bl]) [] impl_Apart_k1 (LK E (evalF E P0 k) k [] N.impl_Apart [.v [.i a0_0, .i a0_1, .i a0_2, .r a0_3, .i a0_4, .i a0_5, .i a0_6, .i a0_7, .i a0_8, .r a0_9, .i a0_10, .b a0_11, .b a0_12, .r a0_13, .r a0_14, .r a0_15, .r a0_16]] [.sr, .sl, .sr, .bl] js) j s
def impl_Apart_it2 (k : Nat) (a0_0 : Int) (a0_1 : Int) (a0_2 : Int) (a0_3 : List (List T)) (a0_4 : Int) (a0_5 : Int) (a0_6 : Int) (a0_7 : Int) (a0_8 : Int) (a0_9 : List (List T)) (a0_10 : Int) (a0_11 : Bool) (a0_12 : Bool) (a0_13 : List (List T)) (a0_14 : List (List T)) (a0_15 : List (List T)) (a0_16 : List (List T)) (js : List Nat) (j : Nat) (s : St) : Option Outs := iter E (LB E (evalF E P0 k) k [] N.impl_Apart [.sr, .sl, .sr, .bl, .lp, .sr, .sr, .sl, .bl, .sr, .sr, .bl]) [] impl_Apart_k2 (LK E (evalF E P0 k) k [] N.impl_Apart [.v [.i a0_0, .i a0_1, .i a0_2, .r a0_3, .i a0_4, .i a0_5, .i a0_6, .i a0_7, .i a0_8, .r a0_9, .i a0_10, .b a0_11, .b a0_12, .r a0_13, .r a0_14, .r a0_15, .r a0_16]] [.sr, .sl, .sr, .bl, .lp, .sr, .sr, .sl, .bl, .sr, .sr, .bl] js) j s
theorem impl_Apart_e (k : Nat) (a0_0 : Int) (a0_1 : Int) (a0_2 : Int) (a0_3 : List (List T)) (a0_4 : Int) (a0_5 : Int) (a0_6 : Int) (a0_7 : Int) (a0_8 : Int) (a0_9 : List (List T)) (a0_10 : Int) (a0_11 : Bool) (a0_12 : Bool) (a0_13 : List (List T)) (a0_14 : List (List T)) (a0_15 : List (List T)) (a0_16 : List (List T)) : evalF E P0 (k + 1) N.impl_Apart [.v [.i a0_0, .i a0_1, .i a0_2, .r a0_3, .i a0_4, .i a0_5, .i a0_6, .i a0_7, .i a0_8, .r a0_9, .i a0_10, .b a0_11, .b a0_12, .r a0_13, .r a0_14, .r a0_15, .r a0_16]] = impl_Apart_u k a0_0 a0_1 a0_2 a0_3 a0_4 a0_5 a0_6 a0_7 a0_8 a0_9 a0_10 a0_11 a0_12 a0_13 a0_14 a0_15 a0_16 := by
  have e0 : evalF E P0 (k + 1) N.impl_Apart [.v [.i a0_0, .i a0_1, .i a0_2, .r a0_3, .i a0_4, .i a0_5, .i a0_6, .i a0_7, .i a0_8, .r a0_9, .i a0_10, .b a0_11, .b a0_12, .r a0_13, .r a0_14, .r a0_15, .r a0_16]] = impl_Apart_U k a0_0 a0_1 a0_2 a0_3 a0_4 a0_5 a0_6 a0_7 a0_8 a0_9 a0_10 a0_11 a0_12 a0_13 a0_14 a0_15 a0_16 (fun v => impl_Apart_it1 k a0_0 a0_1 a0_2 a0_3 a0_4 a0_5 a0_6 a0_7 a0_8 a0_9 a0_10 a0_11 a0_12 a0_13 a0_14 a0_15 a0_16 [] k (impl_Apart_S1 a0_0 a0_1 a0_2 a0_3 a0_4 a0_5 a0_6 a0_7 a0_8 a0_9 a0_10 a0_11 a0_12 a0_13 a0_14 a0_15 a0_16 v)) := by kernel_rfl
  have e2 : ∀ (j1 : Nat) (p2103 : List (List T)) (p2104 : Int) (p2105 : Int) (p2106 : Int) (p2107 : Int) (p2108 : Int) (p2109 : List (List T)) (p2110 : Int) (p2111 : List (List T)) (p2112 : Int) (v184 : Int) (j2 : Nat) (v : Int), impl_Apart_it2 k a0_0 a0_1 a0_2 a0_3 a0_4 a0_5 a0_6 a0_7 a0_8 a0_9 a0_10 a0_11 a0_12 a0_13 a0_14 a0_15 a0_16 [j1] (j2 + 1) (impl_Apart_S2 a0_0 a0_1 a0_2 a0_3 a0_4 a0_5 a0_6 a0_7 a0_8 a0_9 a0_10 a0_11 a0_12 a0_13 a0_14 a0_15 a0_16 p2103 p2104 p2105 p2106 p2107 p2108 p2109 p2110 p2111 p2112 v184 v) = impl_Apart_L2 k a0_0 a0_1 a0_2 a0_3 a0_4 a0_5 a0_6 a0_7 a0_8 a0_9 a0_10 a0_11 a0_12 a0_13 a0_14 a0_15 a0_16 p2103 p2104 p2105 p2106 p2107 p2108 p2109 p2110 p2111 p2112 v184 (fun v => impl_Apart_it1 k a0_0 a0_1 a0_2 a0_3 a0_4 a0_5 a0_6 a0_7 a0_8 a0_9 a0_10 a0_11 a0_12 a0_13 a0_14 a0_15 a0_16 [] j1 (impl_Apart_S1 a0_0 a0_1 a0_2 a0_3 a0_4 a0_5 a0_6 a0_7 a0_8 a0_9 a0_10 a0_11 a0_12 a0_13 a0_14 a0_15 a0_16 v)) (fun v => impl_Apart_it2 k a0_0 a0_1 a0_2 a0_3 a0_4 a0_5 a0_6 a0_7 a0_8 a0_9 a0_10 a0_11 a0_12 a0_13 a0_14 a0_15 a0_16 [j1] j2 (impl_Apart_S2 a0_0 a0_1 a0_2 a0_3 a0_4 a0_5 a0_6 a0_7 a0_8 a0_9 a0_10 a0_11 a0_12 a0_13 a0_14 a0_15 a0_16 p2103 p2104 p2105 p2106 p2107 p2108 p2109 p2110 p2111 p2112 v184 v)) v := by
    intro j1 p2103 p2104 p2105 p2106 p2107 p2108 p2109 p2110 p2111 p2112 v184 j2 v; kernel_rfl
  have i2 : ∀ (j1 : Nat) (p2103 : List (List T)) (p2104 : Int) (p2105 : Int) (p2106 : Int) (p2107 : Int) (p2108 : Int) (p2109 : List (List T)) (p2110 : Int) (p2111 : List (List T)) (p2112 : Int) (v184 : Int) (j2 : Nat) (v : Int), impl_Apart_it2 k a0_0 a0_1 a0_2 a0_3 a0_4 a0_5 a0_6 a0_7 a0_8 a0_9 a0_10 a0_11 a0_12 a0_13 a0_14 a0_15 a0_16 [j1] j2 (impl_Apart_S2 a0_0 a0_1 a0_2 a0_3 a0_4 a0_5 a0_6 a0_7 a0_8 a0_9 a0_10 a0_11 a0_12 a0_13 a0_14 a0_15 a0_16 p2103 p2104 p2105 p2106 p2107 p2108 p2109 p2110 p2111 p2112 v184 v) = fixN (impl_Apart_l2 k a0_0 a0_1 a0_2 a0_3 a0_4 a0_5 a0_6 a0_7 a0_8 a0_9 a0_10 a0_11 a0_12 a0_13 a0_14 a0_15 a0_16 p2103 p2104 p2105 p2106 p2107 p2108 p2109 p2110 p2111 p2112 v184 (fun v => impl_Apart_it1 k a0_0 a0_1 a0_2 a0_3 a0_4 a0_5 a0_6 a0_7 a0_8 a0_9 a0_10 a0_11 a0_12 a0_13 a0_14 a0_15 a0_16 [] j1 (impl_Apart_S1 a0_0 a0_1 a0_2 a0_3 a0_4 a0_5 a0_6 a0_7 a0_8 a0_9 a0_10 a0_11 a0_12 a0_13 a0_14 a0_15 a0_16 v))) j2 v := by
    intro j1 p2103 p2104 p2105 p2106 p2107 p2108 p2109 p2110 p2111 p2112 v184 j2 v
    refine iter_fix (impl_Apart_S2 a0_0 a0_1 a0_2 a0_3 a0_4 a0_5 a0_6 a0_7 a0_8 a0_9 a0_10 a0_11 a0_12 a0_13 a0_14 a0_15 a0_16 p2103 p2104 p2105 p2106 p2107 p2108 p2109 p2110 p2111 p2112 v184) (impl_Apart_l2 k a0_0 a0_1 a0_2 a0_3 a0_4 a0_5 a0_6 a0_7 a0_8 a0_9 a0_10 a0_11 a0_12 a0_13 a0_14 a0_15 a0_16 p2103 p2104 p2105 p2106 p2107 p2108 p2109 p2110 p2111 p2112 v184 (fun v => impl_Apart_it1 k a0_0 a0_1 a0_2 a0_3 a0_4 a0_5 a0_6 a0_7 a0_8 a0_9 a0_10 a0_11 a0_12 a0_13 a0_14 a0_15 a0_16 [] j1 (impl_Apart_S1 a0_0 a0_1 a0_2 a0_3 a0_4 a0_5 a0_6 a0_7 a0_8 a0_9 a0_10 a0_11 a0_12 a0_13 a0_14 a0_15 a0_16 v))) (fun j2 v => (e2 j1 p2103 p2104 p2105 p2106 p2107 p2108 p2109 p2110 p2111 p2112 v184 j2 v).trans ?_) j2 v
    unfold impl_Apart_l2
    rfl
  have e1 : ∀ (j1 : Nat) (v : Int), impl_Apart_it1 k a0_0 a0_1 a0_2 a0_3 a0_4 a0_5 a0_6 a0_7 a0_8 a0_9 a0_10 a0_11 a0_12 a0_13 a0_14 a0_15 a0_16 [] (j1 + 1) (impl_Apart_S1 a0_0 a0_1 a0_2 a0_3 a0_4 a0_5 a0_6 a0_7 a0_8 a0_9 a0_10 a0_11 a0_12 a0_13 a0_14 a0_15 a0_16 v) = impl_Apart_L1 k a0_0 a0_1 a0_2 a0_3 a0_4 a0_5 a0_6 a0_7 a0_8 a0_9 a0_10 a0_11 a0_12 a0_13 a0_14 a0_15 a0_16 (fun y0 y1 y2 y3 y4 y5 y6 y7 y8 y9 y10 v => impl_Apart_it2 k a0_0 a0_1 a0_2 a0_3 a0_4 a0_5 a0_6 a0_7 a0_8 a0_9 a0_10 a0_11 a0_12 a0_13 a0_14 a0_15 a0_16 [j1] k (impl_Apart_S2 a0_0 a0_1 a0_2 a0_3 a0_4 a0_5 a0_6 a0_7 a0_8 a0_9 a0_10 a0_11 a0_12 a0_13 a0_14 a0_15 a0_16 y0 y1 y2 y3 y4 y5 y6 y7 y8 y9 y10 v)) (fun v => impl_Apart_it1 k a0_0 a0_1 a0_2 a0_3 a0_4 a0_5 a0_6 a0_7 a0_8 a0_9 a0_10 a0_11 a0_12 a0_13 a0_14 a0_15 a0_16 [] j1 (impl_Apart_S1 a0_0 a0_1 a0_2 a0_3 a0_4 a0_5 a0_6 a0_7 a0_8 a0_9 a0_10 a0_11 a0_12 a0_13 a0_14 a0_15 a0_16 v)) v := by
    intro j1 v; kernel_rfl
  have i1 : ∀ (j1 : Nat) (v : Int), impl_Apart_it1 k a0_0 a0_1 a0_2 a0_3 a0_4 a0_5 a0_6 a0_7 a0_8 a0_9 a0_10 a0_11 a0_12 a0_13 a0_14 a0_15 a0_16 [] j1 (impl_Apart_S1 a0_0 a0_1 a0_2 a0_3 a0_4 a0_5 a0_6 a0_7 a0_8 a0_9 a0_10 a0_11 a0_12 a0_13 a0_14 a0_15 a0_16 v) = fixN (impl_Apart_l1 k a0_0 a0_1 a0_2 a0_3 a0_4 a0_5 a0_6 a0_7 a0_8 a0_9 a0_10 a0_11 a0_12 a0_13 a0_14 a0_15 a0_16) j1 v := by
    intro j1 v
    refine iter_fix (impl_Apart_S1 a0_0 a0_1 a0_2 a0_3 a0_4 a0_5 a0_6 a0_7 a0_8 a0_9 a0_10 a0_11 a0_12 a0_13 a0_14 a0_15 a0_16) (impl_Apart_l1 k a0_0 a0_1 a0_2 a0_3 a0_4 a0_5 a0_6 a0_7 a0_8 a0_9 a0_10 a0_11 a0_12 a0_13 a0_14 a0_15 a0_16) (fun j1 v => (e1 j1 v).trans ?_) j1 v
    unfold impl_Apart_l1
    simp only [i2] <;> rfl
  rw [e0]; unfold impl_Apart_u
  simp only [i1]
/- impl.EngOk -/
def impl_EngOk_J1 (k : Nat) (a0_0 : Int) (a0_1 : Int) (a0_2 : Int) (a0_3 : List (List T)) (a0_4 : Int) (a0_5 : Int) (a0_6 : Int) (a0_7 : Int) (a0_8 : Int) (a0_9 : List (List T)) (a0_10 : Int) (a0_11 : Bool) (a0_12 : Bool) (a0_13 : List (List T)) (a0_14 : List (List T)) (a0_15 : List (List T)) (a0_16 : List (List T)) (c1 : Bool) : Option Outs :=
 bif c1 then
  bindO (evalF E P0 k N.impl_ArrOk [.v [.i a0_0, .i a0_1, .i a0_2, .r a0_3, .i a0_4, .i a0_5, .i a0_6, .i a0_7, .i a0_8, .r a0_9, .i a0_10, .b a0_11, .b a0_12]]) fun o99 =>
  bif (o99.t 0).asB then
   bindO (evalF E P0 k N.impl_Apart [.v [.i a0_0, .i a0_1, .i a0_2, .r a0_3, .i a0_4, .i a0_5, .i a0_6, .i a0_7, .i a0_8, .r a0_9, .i a0_10, .b a0_11, .b a0_12, .r a0_13, .r a0_14, .r a0_15, .r a0_16]]) fun o100 =>
   some ⟨[.b (o100.t 0).asB], []⟩
  else
   some ⟨[.b false], []⟩
 else
  some ⟨[.b false], []⟩
def impl_EngOk_L1 (k : Nat) (a0_0 : Int) (a0_1 : Int) (a0_2 : Int) (a0_3 : List (List T)) (a0_4 : Int) (a0_5 : Int) (a0_6 : Int) (a0_7 : Int) (a0_8 : Int) (a0_9 : List (List T)) (a0_10 : Int) (a0_11 : Bool) (a0_12 : Bool) (a0_13 : List (List T)) (a0_14 : List (List T)) (a0_15 : List (List T)) (a0_16 : List (List T)) (G1 : (Int) → Option Outs) : (Int) → Option Outs := fun v8 =>
 bif (decide (v8 < (a0_14.length : Int))) then
  chk (decide (0 ≤ v8) && decide (v8 < (a0_14.length : Int))) <|
  bindO (evalF E P0 k N.impl_jobOk [.v [.i a0_1, .i a0_2], .v [.i (at_ a0_14 v8.toNat 0).asI, .i (at_ a0_14 v8.toNat 1).asI, .i (at_ a0_14 v8.toNat 2).asI, .i (at_ a0_14 v8.toNat 3).asI, .r (at_ a0_14 v8.toNat 4).asR, .i (at_ a0_14 v8.toNat 5).asI, .r (at_ a0_14 v8.toNat 6).asR, .i (at_ a0_14 v8.toNat 7).asI]]) fun o96 =>
  bif (!(o96.t 0).asB) then some ⟨[.b false], []⟩ else G1 (IntKind.wrap .i64 (v8 + 1))
 else
  bif (decide ((a0_13.length : Int) ≤ 8)) then
   bif (decide ((a0_14.length : Int) ≤ 4)) then
    bif (decide ((a0_15.length : Int) ≤ 8)) then
     impl_EngOk_J1 k a0_0 a0_1 a0_2 a0_3 a0_4 a0_5 a0_6 a0_7 a0_8 a0_9 a0_10 a0_11 a0_12 a0_13 a0_14 a0_15 a0_16 (decide ((a0_16.length : Int) ≤ 400))
    else
     impl_EngOk_J1 k a0_0 a0_1 a0_2 a0_3 a0_4 a0_5 a0_6 a0_7 a0_8 a0_9 a0_10 a0_11 a0_12 a0_13 a0_14 a0_15 a0_16 false
   else
    impl_EngOk_J1 k a0_0 a0_1 a0_2 a0_3 a0_4 a0_5 a0_6 a0_7 a0_8 a0_9 a0_10 a0_11 a0_12 a0_13 a0_14 a0_15 a0_16 false
  else
   impl_EngOk_J1 k a0_0 a0_1 a0_2 a0_3 a0_4 a0_5 a0_6 a0_7 a0_8 a0_9 a0_10 a0_11 a0_12 a0_13 a0_14 a0_15 a0_16 false
def impl_EngOk_k1 : List Nat := [1, 2, 5, 7, 8, 9, 20, 21, 22, 23, 24, 25, 26, 27, 28, 29, 30, 31, 32, 33, 34, 35, 36, 37, 38, 39, 40, 41, 42, 43, 44, 45, 46, 47, 48, 49, 50, 51]
def impl_EngOk_S1 (a0_0 : Int) (a0_1 : Int) (a0_2 : Int) (a0_3 : List (List T)) (a0_4 : Int) (a0_5 : Int) (a0_6 : Int) (a0_7 : Int) (a0_8 : Int) (a0_9 : List (List T)) (a0_10 : Int) (a0_11 : Bool) (a0_12 : Bool) (a0_13 : List (List T)) (a0_14 : List (List T)) (a0_15 : List (List T)) (a0_16 : List (List T)) : (Int) → St := fun v8 => ⟨ofSl [(1, .ptr (1, 0) 0), (2, .b false), (5, .skip), (7, .sl 155 a0_14), (8, .i .i64 (a0_14.length : Int)), (9, .i .i64 v8), (20, .skip), (21, .skip), (22, .skip), (23, .skip), (24, .skip), (25, .skip), (26, .skip), (27, .skip), (28, .skip), (29, .skip), (30, .skip), (31, .skip), (32, .skip), (33, .skip), (34, .skip), (35, .skip), (36, .skip), (37, .skip), (38, .skip), (39, .skip), (40, .skip), (41, .skip), (42, .skip), (43, .skip), (44, .skip), (45, .skip), (46, .skip), (47, .skip), (48, .skip), (49, .skip), (50, .skip), (51, .skip)], ofMem [((1, 0), .var [.i .i64 a0_0, .i .i64 a0_1, .i .i64 a0_2, .sl 139 a0_3, .i .i64 a0_4, .i .i64 a0_5, .i .i64 a0_6, .i .i64 a0_7, .i .i64 a0_8, .sl 166 a0_9, .i .i64 a0_10, .b a0_11, .b a0_12, .sl 54 a0_13, .sl 155 a0_14, .sl 61 a0_15, .sl 63 a0_16])]⟩
def impl_EngOk_l1 (k : Nat) (a0_0 : Int) (a0_1 : Int) (a0_2 : Int) (a0_3 : List (List T)) (a0_4 : Int) (a0_5 : Int) (a0_6 : Int) (a0_7 : Int) (a0_8 : Int) (a0_9 : List (List T)) (a0_10 : Int) (a0_11 : Bool) (a0_12 : Bool) (a0_13 : List (List T)) (a0_14 : List (List T)) (a0_15 : List (List T)) (a0_16 : List (List T)) (G1 : (Int) → Option Outs) : (Int) → Option Outs :=
  impl_EngOk_L1 k a0_0 a0_1 a0_2 a0_3 a0_4 a0_5 a0_6 a0_7 a0_8 a0_9 a0_10 a0_11 a0_12 a0_13 a0_14 a0_15 a0_16 G1
def impl_EngOk_U (k : Nat) (a0_0 : Int) (a0_1 : Int) (a0_2 : Int) (a0_3 : List (List T)) (a0_4 : Int) (a0_5 : Int) (a0_6 : Int) (a0_7 : Int) (a0_8 : Int) (a0_9 : List (List T)) (a0_10 : Int) (a0_11 : Bool) (a0_12 : Bool) (a0_13 : List (List T)) (a0_14 : List (List T)) (a0_15 : List (List T)) (a0_16 : List (List T)) (R1 : (Int) → Option Outs) : Option Outs :=
 R1 0
def impl_EngOk_u (k : Nat) (a0_0 : Int) (a0_1 : Int) (a0_2 : Int) (a0_3 : List (List T)) (a0_4 : Int) (a0_5 : Int) (a0_6 : Int) (a0_7 : Int) (a0_8 : Int) (a0_9 : List (List T)) (a0_10 : Int) (a0_11 : Bool) (a0_12 : Bool) (a0_13 : List (List T)) (a0_14 : List (List T)) (a0_15 : List (List T)) (a0_16 : List (List T)) : Option Outs :=
  impl_EngOk_U k a0_0 a0_1 a0_2 a0_3 a0_4 a0_5 a0_6 a0_7 a0_8 a0_9 a0_10 a0_11 a0_12 a0_13 a0_14 a0_15 a0_16 (fun v => fixN (impl_EngOk_l1 k a0_0 a0_1 a0_2 a0_3 a0_4 a0_5 a0_6 a0_7 a0_8 a0_9 a0_10 a0_11 a0_12 a0_13 a0_14 a0_15 a0_16) k v)
def impl_EngOk_it1 (k : Nat) (a0_0 : Int) (a0_1 : Int) (a0_2 : Int) (a0_3 : List (List T)) (a0_4 : Int) (a0_5 : Int) (a0_6 : Int) (a0_7 : Int) (a0_8 : Int) (a0_9 : List (List T)) (a0_10 : Int) (a0_11 : Bool) (a0_12 : Bool) (a0_13 : List (List T)) (a0_14 : List (List T)) (a0_15 : List (List T)) (a0_16 : List (List T)) (js : List Nat) (j : Nat) (s : St) : Option Outs := iter E (LB E (evalF E P0 k) k [] N.impl_EngOk [.sr, .sl, .sr, .bl]) [] impl_EngOk_k1 (LK E (evalF E P0 k) k [] N.impl_EngOk [.v [.i a0_0, .i a0_1, .i a0_2, .r a0_3, .i a0_4, .i a0_5, .i a0_6, .i a0_7, .i a0_8, .r a0_9, .i a0_10, .b a0_11, .b a0_12, .r a0_13, .r a0_14, .r a0_15, .r a0_16]] [.sr, .sl, .sr, .bl] js) j s
theorem impl_EngOk_e (k : Nat) (a0_0 : Int) (a0_1 : Int) (a0_2 : Int) (a0_3 : List (List T)) (a0_4 : Int) (a0_5 : Int) (a0_6 : Int) (a0_7 : Int) (a0_8 : Int) (a0_9 : List (List T)) (a0_10 : Int) (a0_11 : Bool) (a0_12 : Bool) (a0_13 : List (List T)) (a0_14 : List (List T)) (a0_15 : List (List T)) (a0_16 : List (List T)) : evalF E P0 (k + 1) N.impl_EngOk [.v [.i a0_0, .i a0_1, .i a0_2, .r a0_3, .i a0_4, .i a0_5, .i a0_6, .i a0_7, .i a0_8, .r a0_9, .i a0_10, .b a0_11, .b a0_12, .r a0_13, .r a0_14, .r a0_15, .r a0_16]] = impl_EngOk_u k a0_0 a0_1 a0_2 a0_3 a0_4 a0_5 a0_6 a0_7 a0_8 a0_9 a0_10 a0_11 a0_12 a0_13 a0_14 a0_15 a0_16 := by
  have e0 : evalF E P0 (k + 1) N.impl_EngOk [.v [.i a0_0, .i a0_1, .i a0_2, .r a0_3, .i a0_4, .i a0_5, .i a0_6, .i a0_7, .i a0_8, .r a0_9, .i a0_10, .b a0_11, .b a0_12, .r a0_13, .r a0_14, .r a0_15, .r a0_16]] = impl_EngOk_U k a0_0 a0_1 a0_2 a0_3 a0_4 a0_5 a0_6 a0_7 a0_8 a0_9 a0_10 a0_11 a0_12 a0_13 a0_14 a0_15 a0_16 (fun v => impl_EngOk_it1 k a0_0 a0_1 a0_2 a0_3 a0_4 a0_5 a0_6 a0_7 a0_8 a0_9 a0_10 a0_11 a0_12 a0_13 a0_14 a0_15 a0_16 [] k (impl_EngOk_S1 a0_0 a0_1 a0_2 a0_3 a0_4 a0_5 a0_6 a0_7 a0_8 a0_9 a0_10 a0_11 a0_12 a0_13 a0_14 a0_15 a0_16 v)) := by kernel_rfl
  have e1 : ∀ (j1 : Nat) (v : Int), impl_EngOk_it1 k a0_0 a0_1 a0_2 a0_3 a0_4 a0_5 a0_6 a0_7 a0_8 a0_9 a0_10 a0_11 a0_12 a0_13 a0_14 a0_15 a0_16 [] (j1 + 1) (impl_EngOk_S1 a0_0 a0_1 a0_2 a0_3 a0_4 a0_5 a0_6 a0_7 a0_8 a0_9 a0_10 a0_11 a0_12 a0_13 a0_14 a0_15 a0_16 v) = impl_EngOk_L1 k a0_0 a0_1 a0_2 a0_3 a0_4 a0_5 a0_6 a0_7 a0_8 a0_9 a0_10 a0_11 a0_12 a0_13 a0_14 a0_15 a0_16 (fun v => impl_EngOk_it1 k a0_0 a0_1 a0_2 a0_3 a0_4 a0_5 a0_6 a0_7 a0_8 a0_9 a0_10 a0_11 a0_12 a0_13 a0_14 a0_15 a0_16 [] j1 (impl_EngOk_S1 a0_0 a0_1 a0_2 a0_3 a0_4 a0_5 a0_6 a0_7 a0_8 a0_9 a0_10 a0_11 a0_12 a0_13 a0_14 a0_15 a0_16 v)) v := by
    intro j1 v; kernel_rfl
  have i1 : ∀ (j1 : Nat) (v : Int), impl_EngOk_it1 k a0_0 a0_1 a0_2 a0_3 a0_4 a0_5 a0_6 a0_7 a0_8 a0_9 a0_10 a0_11 a0_12 a0_13 a0_14 a0_15 a0_16 [] j1 (impl_EngOk_S1 a0_0 a0_1 a0_2 a0_3 a0_4 a0_5 a0_6 a0_7 a0_8 a0_9 a0_10 a0_11 a0_12 a0_13 a0_14 a0_15 a0_16 v) = fixN (impl_EngOk_l1 k a0_0 a0_1 a0_2 a0_3 a0_4 a0_5 a0_6 a0_7 a0_8 a0_9 a0_10 a0_11 a0_12 a0_13 a0_14 a0_15 a0_16) j1 v := by
    intro j1 v
    refine iter_fix (impl_EngOk_S1 a0_0 a0_1 a0_2 a0_3 a0_4 a0_5 a0_6 a0_7 a0_8 a0_9 a0_10 a0_11 a0_12 a0_13 a0_14 a0_15 a0_16) (impl_EngOk_l1 k a0_0 a0_1 a0_2 a0_3 a0_4 a0_5 a0_6 a0_7 a0_8 a0_9 a0_10 a0_11 a0_12 a0_13 a0_14 a0_15 a0_16) (fun j1 v => (e1 j1 v).trans ?_) j1 v
    unfold impl_EngOk_l1
    rfl
  rw [e0]; unfold impl_EngOk_u
  simp only [i1]
/- impl.Submit -/
def impl_Submit_J1 (k : Nat) (a1_0 : Int) (a1_1 : Int) (a1_2 : Int) (a1_3 : Int) (a1_4 : List (List T)) (o2 : Outs) (c1 : Bool) : Option Outs :=
 bif c1 then
  some ⟨[.i (o2.t 0).asI, .i (o2.t 1).asI, .i (o2.t 2).asI, .r (o2.t 3).asR, .i (o2.t 4).asI, .i (o2.t 5).asI, .i (o2.t 6).asI, .i (o2.t 7).asI, .i (o2.t 8).asI, .r (o2.t 9).asR, .i (o2.t 10).asI, .b (o2.t 11).asB, .b (o2.t 12).asB, .r (o2.t 13).asR, .r (o2.t 14).asR, .r (o2.t 15).asR, .r (o2.t 16).asR, .b false], []⟩
 else
  bindO (evalF E P0 k N.impl_copyCmd [.v [.i a1_0, .i a1_1, .i a1_2, .i a1_3, .r a1_4]]) fun o6 =>
  chk (decide (((o2.t 13).asR.length + ([[.i (o6.t 0).asI, .i (o6.t 1).asI, .i (o6.t 2).asI, .i (o6.t 3).asI, .r (o6.t 4).asR]] : List (List T)).length) * 56 ≤ 140737488355328)) <|
  some ⟨[.i (o2.t 0).asI, .i (o2.t 1).asI, .i (o2.t 2).asI, .r (o2.t 3).asR, .i (o2.t 4).asI, .i (o2.t 5).asI, .i (o2.t 6).asI, .i (o2.t 7).asI, .i (o2.t 8).asI, .r (o2.t 9).asR, .i (o2.t 10).asI, .b (o2.t 11).asB, .b (o2.t 12).asB, .r ((o2.t 13).asR ++ [[.i (o6.t 0).asI, .i (o6.t 1).asI, .i (o6.t 2).asI, .i (o6.t 3).asI, .r (o6.t 4).asR]]), .r (o2.t 14).asR, .r (o2.t 15).asR, .r (o2.t 16).asR, .b true], []⟩
def impl_Submit_u (k : Nat) (a0_0 : Int) (a0_1 : Int) (a0_2 : Int) (a0_3 : List (List T)) (a0_4 : Int) (a0_5 : Int) (a0_6 : Int) (a0_7 : Int) (a0_8 : Int) (a0_9 : List (List T)) (a0_10 : Int) (a0_11 : Bool) (a0_12 : Bool) (a0_13 : List (List T)) (a0_14 : List (List T)) (a0_15 : List (List T)) (a0_16 : List (List T)) (a1_0 : Int) (a1_1 : Int) (a1_2 : Int) (a1_3 : Int) (a1_4 : List (List T)) : Option Outs :=
 bindO (evalF E P0 k N.impl_copyEng [.v [.i a0_0, .i a0_1, .i a0_2, .r a0_3, .i a0_4, .i a0_5, .i a0_6, .i a0_7, .i a0_8, .r a0_9, .i a0_10, .b a0_11, .b a0_12, .r a0_13, .r a0_14, .r a0_15, .r a0_16]]) fun o2 =>
 bindO (evalF E P0 k N.impl_EngOk [.v [.i a0_0, .i a0_1, .i a0_2, .r a0_3, .i a0_4, .i a0_5, .i a0_6, .i a0_7, .i a0_8, .r a0_9, .i a0_10, .b a0_11, .b a0_12, .r a0_13, .r a0_14, .r a0_15, .r a0_16]]) fun o4 =>
 bif (!(o4.t 0).asB) then
  impl_Submit_J1 k a1_0 a1_1 a1_2 a1_3 a1_4 o2 true
 else
  impl_Submit_J1 k a1_0 a1_1 a1_2 a1_3 a1_4 o2 ((a0_13.length : Int) == 8)
theorem impl_Submit_e (k : Nat) (a0_0 : Int) (a0_1 : Int) (a0_2 : Int) (a0_3 : List (List T)) (a0_4 : Int) (a0_5 : Int) (a0_6 : Int) (a0_7 : Int) (a0_8 : Int) (a0_9 : List (List T)) (a0_10 : Int) (a0_11 : Bool) (a0_12 : Bool) (a0_13 : List (List T)) (a0_14 : List (List T)) (a0_15 : List (List T)) (a0_16 : List (List T)) (a1_0 : Int) (a1_1 : Int) (a1_2 : Int) (a1_3 : Int) (a1_4 : List (List T)) : evalF E P0 (k + 1) N.impl_Submit [.v [.i a0_0, .i a0_1, .i a0_2, .r a0_3, .i a0_4, .i a0_5, .i a0_6, .i a0_7, .i a0_8, .r a0_9, .i a0_10, .b a0_11, .b a0_12, .r a0_13, .r a0_14, .r a0_15, .r a0_16], .v [.i a1_0, .i a1_1, .i a1_2, .i a1_3, .r a1_4]] = impl_Submit_u k a0_0 a0_1 a0_2 a0_3 a0_4 a0_5 a0_6 a0_7 a0_8 a0_9 a0_10 a0_11 a0_12 a0_13 a0_14 a0_15 a0_16 a1_0 a1_1 a1_2 a1_3 a1_4 := by kernel_rfl
/- impl.CanBegin -/
def impl_CanBegin_L2 (k : Nat) (a0_0 : Int) (a0_1 : Int) (a0_2 : Int) (a0_3 : List (List T)) (a0_4 : Int) (a0_5 : Int) (a0_6 : Int) (a0_7 : Int) (a0_8 : Int) (a0_9 : List (List T)) (a0_10 : Int) (a0_11 : Bool) (a0_12 : Bool) (a0_13 : List (List T)) (a0_14 : List (List T)) (a0_15 : List (List T)) (a0_16 : List (List T)) (a1 : Int) (p23 : List (List T)) (p24 : Int) (G2 : (Int) → Option Outs) : (Int) → Option Outs := fun v16 =>
 bif (decide (v16 < p24)) then
  chk (decide (0 ≤ v16) && decide (v16 < (p23.length : Int))) <|
  chk (decide (0 ≤ a1) && decide (a1 < (a0_13.length : Int))) <|
  bindO (evalF E P0 k N.impl_Clash [.v [.i a0_1, .i a0_2], .v [.i (at_ a0_13 a1.toNat 0).asI, .i (at_ a0_13 a1.toNat 1).asI, .i (at_ a0_13 a1.toNat 2).asI, .i (at_ a0_13 a1.toNat 3).asI, .r (at_ a0_13 a1.toNat 4).asR], .v [.i (at_ p23 v16.toNat 0).asI, .i (at_ p23 v16.toNat 1).asI, .i (at_ p23 v16.toNat 2).asI, .i (at_ p23 v16.toNat 3).asI, .r (at_ p23 v16.toNat 4).asR]]) fun o195 =>
  bif (o195.t 0).asB then some ⟨[.b false], []⟩ else G2 (IntKind.wrap .i64 (v16 + 1))
 else
  bif (decide ((a0_14.length : Int) < 4)) then
   bif (decide ((IntKind.wrap .i64 ((a0_15.length : Int) + (a0_14.length : Int))) < 8)) then
    some ⟨[.b (decide ((IntKind.wrap .i64 ((a0_16.length : Int) + (a0_14.length : Int))) < 400))], []⟩
   else
    some ⟨[.b false], []⟩
  else
   some ⟨[.b false], []⟩
def impl_CanBegin_k2 : List Nat := [1, 2, 4, 9, 44, 45, 46, 61, 62, 63, 64, 65, 66, 67, 68, 69, 70, 71, 72, 73, 74, 75, 76, 77, 78, 79, 80, 81]
def impl_CanBegin_S2 (a0_0 : Int) (a0_1 : Int) (a0_2 : Int) (a0_3 : List (List T)) (a0_4 : Int) (a0_5 : Int) (a0_6 : Int) (a0_7 : Int) (a0_8 : Int) (a0_9 : List (List T)) (a0_10 : Int) (a0_11 : Bool) (a0_12 : Bool) (a0_13 : List (List T)) (a0_14 : List (List T)) (a0_15 : List (List T)) (a0_16 : List (List T)) (a1 : Int) (p23 : List (List T)) (p24 : Int) : (Int) → St := fun v16 => ⟨ofSl [(1, .i .i64 a1), (2, .ptr (2, 0) 0), (4, .b false), (9, .skip), (44, .sl 54 p23), (45, .i .i64 p24), (46, .i .i64 v16), (61, .skip), (62, .skip), (63, .skip), (64, .skip), (65, .skip), (66, .skip), (67, .skip), (68, .skip), (69, .skip), (70, .skip), (71, .skip), (72, .skip), (73, .skip), (74, .skip), (75, .skip), (76, .skip), (77, .skip), (78, .skip), (79, .skip), (80, .skip), (81, .skip)], ofMem [((2, 0), .var [.i .i64 a0_0, .i .i64 a0_1, .i .i64 a0_2, .sl 139 a0_3, .i .i64 a0_4, .i .i64 a0_5, .i .i64 a0_6, .i .i64 a0_7, .i .i64 a0_8, .sl 166 a0_9, .i .i64 a0_10, .b a0_11, .b a0_12, .sl 54 a0_13, .sl 155 a0_14, .sl 61 a0_15, .sl 63 a0_16])]⟩
def impl_CanBegin_L1 (k : Nat) (a0_0 : Int) (a0_1 : Int) (a0_2 : Int) (a0_3 : List (List T)) (a0_4 : Int) (a0_5 : Int) (a0_6 : Int) (a0_7 : Int) (a0_8 : Int) (a0_9 : List (List T)) (a0_10 : Int) (a0_11 : Bool) (a0_12 : Bool) (a0_13 : List (List T)) (a0_14 : List (List T)) (a0_15 : List (List T)) (a0_16 : List (List T)) (a1 : Int) (R2 : List (List T) → Int → (Int) → Option Outs) (G1 : (Int) → Option Outs) : (Int) → Option Outs := fun v8 =>
 bif (decide (v8 < (a0_14.length : Int))) then
  chk (decide (0 ≤ v8) && decide (v8 < (a0_14.length : Int))) <|
  chk (decide (0 ≤ a1) && decide (a1 < (a0_13.length : Int))) <|
  bindO (evalF E P0 k N.impl_Clash [.v [.i a0_1, .i a0_2], .v [.i (at_ a0_13 a1.toNat 0).asI, .i (at_ a0_13 a1.toNat 1).asI, .i (at_ a0_13 a1.toNat 2).asI, .i (at_ a0_13 a1.toNat 3).asI, .r (at_ a0_13 a1.toNat 4).asR], .v [.i (at_ a0_14 v8.toNat 0).asI, .i (at_ a0_14 v8.toNat 1).asI, .i (at_ a0_14 v8.toNat 2).asI, .i (at_ a0_14 v8.toNat 3).asI, .r (at_ a0_14 v8.toNat 4).asR]]) fun o99 =>
  bif (o99.t 0).asB then some ⟨[.b false], []⟩ else G1 (IntKind.wrap .i64 (v8 + 1))
 else
  chk (decide (0 ≤ 0) && decide (0 ≤ a1) && decide (a1 ≤ (a0_13.length : Int))) <|
  R2 ((a0_13.drop (0 : Int).toNat).take (a1.toNat - (0 : Int).toNat)) (((a0_13.drop (0 : Int).toNat).take (a1.toNat - (0 : Int).toNat)).length : Int) 0
def impl_CanBegin_k1 : List Nat := [1, 2, 4, 8, 9, 23, 24, 25, 41, 42, 43, 44, 45, 46, 47, 48, 49, 50, 51, 52, 53, 54, 55, 56, 57, 58, 59, 60, 61, 62, 63, 64, 65, 66, 67, 68, 69, 70, 71, 72, 73, 74, 75, 76, 77, 78, 79, 80, 81]
def impl_CanBegin_S1 (a0_0 : Int) (a0_1 : Int) (a0_2 : Int) (a0_3 : List (List T)) (a0_4 : Int) (a0_5 : Int) (a0_6 : Int) (a0_7 : Int) (a0_8 : Int) (a0_9 : List (List T)) (a0_10 : Int) (a0_11 : Bool) (a0_12 : Bool) (a0_13 : List (List T)) (a0_14 : List (List T)) (a0_15 : List (List T)) (a0_16 : List (List T)) (a1 : Int) : (Int) → St := fun v8 => ⟨ofSl [(1, .i .i64 a1), (2, .ptr (2, 0) 0), (4, .b false), (8, .skip), (9, .skip), (23, .sl 155 a0_14), (24, .i .i64 (a0_14.length : Int)), (25, .i .i64 v8), (41, .skip), (42, .skip), (43, .skip), (44, .skip), (45, .skip), (46, .skip), (47, .skip), (48, .skip), (49, .skip), (50, .skip), (51, .skip), (52, .skip), (53, .skip), (54, .skip), (55, .skip), (56, .skip), (57, .skip), (58, .skip), (59, .skip), (60, .skip), (61, .skip), (62, .skip), (63, .skip), (64, .skip), (65, .skip), (66, .skip), (67, .skip), (68, .skip), (69, .skip), (70, .skip), (71, .skip), (72, .skip), (73, .skip), (74, .skip), (75, .skip), (76, .skip), (77, .skip), (78, .skip), (79, .skip), (80, .skip), (81, .skip)], ofMem [((2, 0), .var [.i .i64 a0_0, .i .i64 a0_1, .i .i64 a0_2, .sl 139 a0_3, .i .i64 a0_4, .i .i64 a0_5, .i .i64 a0_6, .i .i64 a0_7, .i .i64 a0_8, .sl 166 a0_9, .i .i64 a0_10, .b a0_11, .b a0_12, .sl 54 a0_13, .sl 155 a0_14, .sl 61 a0_15, .sl 63 a0_16])]⟩
def impl_CanBegin_J1 (k : Nat) (R1 : (Int) → Option Outs) (c1 : Bool) : Option Outs :=
 bif c1 then some ⟨[.b false], []⟩ else R1 0
def impl_CanBegin_l2 (k : Nat) (a0_0 : Int) (a0_1 : Int) (a0_2 : Int) (a0_3 : List (List T)) (a0_4 : Int) (a0_5 : Int) (a0_6 : Int) (a0_7 : Int) (a0_8 : Int) (a0_9 : List (List T)) (a0_10 : Int) (a0_11 : Bool) (a0_12 : Bool) (a0_13 : List (List T)) (a0_14 : List (List T)) (a0_15 : List (List T)) (a0_16 : List (List T)) (a1 : Int) (p23 : List (List T)) (p24 : Int) (G2 : (Int) → Option Outs) : (Int) → Option Outs :=
  impl_CanBegin_L2 k a0_0 a0_1 a0_2 a0_3 a0_4 a0_5 a0_6 a0_7 a0_8 a0_9 a0_10 a0_11 a0_12 a0_13 a0_14 a0_15 a0_16 a1 p23 p24 G2
def impl_CanBegin_l1 (k : Nat) (a0_0 : Int) (a0_1 : Int) (a0_2 : Int) (a0_3 : List (List T)) (a0_4 : Int) (a0_5 : Int) (a0_6 : Int) (a0_7 : Int) (a0_8 : Int) (a0_9 : List (List T)) (a0_10 : Int) (a0_11 : Bool) (a0_12 : Bool) (a0_13 : List (List T)) (a0_14 : List (List T)) (a0_15 : List (List T)) (a0_16 : List (List T)) (a1 : Int) (G1 : (Int) → Option Outs) : (Int) → Option Outs :=
  impl_CanBegin_L1 k a0_0 a0_1 a0_2 a0_3 a0_4 a0_5 a0_6 a0_7 a0_8 a0_9 a0_10 a0_11 a0_12 a0_13 a0_14 a0_15 a0_16 a1 (fun y0 y1 v => fixN (impl_CanBegin_l2 k a0_0 a0_1 a0_2 a0_3 a0_4 a0_5 a0_6 a0_7 a0_8 a0_9 a0_10 a0_11 a0_12 a0_13 a0_14 a0_15 a0_16 a1 y0 y1) k v) G1
def impl_CanBegin_U (k : Nat) (a0_0 : Int) (a0_1 : Int) (a0_2 : Int) (a0_3 : List (List T)) (a0_4 : Int) (a0_5 : Int) (a0_6 : Int) (a0_7 : Int) (a0_8 : Int) (a0_9 : List (List T)) (a0_10 : Int) (a0_11 : Bool) (a0_12 : Bool) (a0_13 : List (List T)) (a0_14 : List (List T)) (a0_15 : List (List T)) (a0_16 : List (List T)) (a1 : Int) (R1 : (Int) → Option Outs) : Option Outs :=
 bindO (evalF E P0 k N.impl_EngOk [.v [.i a0_0, .i a0_1, .i a0_2, .r a0_3, .i a0_4, .i a0_5, .i a0_6, .i a0_7, .i a0_8, .r a0_9, .i a0_10, .b a0_11, .b a0_12, .r a0_13, .r a0_14, .r a0_15, .r a0_16]]) fun o3 =>
 bif (!(o3.t 0).asB) then
  impl_CanBegin_J1 k R1 true
 else
  bindO (evalF E P0 k N.impl_within [.v [.i a1], .v [.i 0], .v [.i (IntKind.wrap .i64 ((a0_13.length : Int) - 1))]]) fun o196 =>
  impl_CanBegin_J1 k R1 (!(o196.t 0).asB)
def impl_CanBegin_u (k : Nat) (a0_0 : Int) (a0_1 : Int) (a0_2 : Int) (a0_3 : List (List T)) (a0_4 : Int) (a0_5 : Int) (a0_6 : Int) (a0_7 : Int) (a0_8 : Int) (a0_9 : List (List T)) (a0_10 : Int) (a0_11 : Bool) (a0_12 : Bool) (a0_13 : List (List T)) (a0_14 : List (List T)) (a0_15 : List (List T)) (a0_16 : List (List T)) (a1 : Int) : Option Outs :=
  impl_CanBegin_U k a0_0 a0_1 a0_2 a0_3 a0_4 a0_5 a0_6 a0_7 a0_8 a0_9 a0_10 a0_11 a0_12 a0_13 a0_14 a0_15 a0_16 a1 (fun v => fixN (impl_CanBegin_l1 k a0_0 a0_1 a0_2 a0_3 a0_4 a0_5 a0_6 a0_7 a0_8 a0_9 a0_10 a0_11 a0_12 a0_13 a0_14 a0_15 a0_16 a1) k v)
def impl_CanBegin_it1 (k : Nat) (a0_0 : Int) (a0_1 : Int) (a0_2 : Int) (a0_3 : List (List T)) (a0_4 : Int) (a0_5 : Int) (a0_6 : Int) (a0_7 : Int) (a0_8 : Int) (a0_9 : List (List T)) (a0_10 : Int) (a0_11 : Bool) (a0_12 : Bool) (a0_13 : List (List T)) (a0_14 : List (List T)) (a0_15 : List (List T)) (a0_16 : List (List T)) (a1 : Int) (js : List Nat) (j : Nat) (s : St) : Option Outs := iter E (LB E (evalF E P0 k) k [] N.impl_CanBegin [.sr, .sr, .sl, .sr, .bl]) [] impl_CanBegin_k1 (LK E (evalF E P0 k) k [] N.impl_CanBegin [.v [.i a0_0, .i a0_1, .i a0_2, .r a0_3, .i a0_4, .i a0_5, .i a0_6, .i a0_7, .i a0_8, .r a0_9, .i a0_10, .b a0_11, .b a0_12, .r a0_13, .r a0_14, .r a0_15, .r a0_16], .v [.i a1]] [.sr, .sr, .sl, .sr, .bl] js) j s
def impl_CanBegin_it2 (k : Nat) (a0_0 : Int) (a0_1 : Int) (a0_2 : Int) (a0_3 : List (List T)) (a0_4 : Int) (a0_5 : Int) (a0_6 : Int) (a0_7 : Int) (a0_8 : Int) (a0_9 : List (List T)) (a0_10 : Int) (a0_11 : Bool) (a0_12 : Bool) (a0_13 : List (List T)) (a0_14 : List (List T)) (a0_15 : List (List T)) (a0_16 : List (List T)) (a1 : Int) (js : List Nat) (j : Nat) (s : St) : Option Outs := iter E (LB E (evalF E P0 k) k [] N.impl_CanBegin [.sr, .sr, .sr, .sl, .sr, .bl]) [] impl_CanBegin_k2 (LK E (evalF E P0 k) k [] N.impl_CanBegin [.v [.i a0_0, .i a0_1, .i a0_2, .r a0_3, .i a0_4, .i a0_5, .i a0_6, .i a0_7, .i a0_8, .r a0_9, .i a0_10, .b a0_11, .b a0_12, .r a0_13, .r a0_14, .r a0_15, .r a0_16], .v [.i a1]] [.sr, .sr, .sr, .sl, .sr, .bl] js) j s
theorem impl_CanBegin_e (k : Nat) (a0_0 : Int) (a0_1 : Int) (a0_2 : Int) (a0_3 : List (List T)) (a0_4 : Int) (a0_5 : Int) (a0_6 : Int) (a0_7 : Int) (a0_8 : Int) (a0_9 : List (List T)) (a0_10 : Int) (a0_11 : Bool) (a0_12 : Bool) (a0_13 : List (List T)) (a0_14 : List (List T)) (a0_15 : List (List T)) (a0_16 : List (List T)) (a1 : Int) : evalF E P0 (k + 1) N.impl_CanBegin [.v [.i a0_0, .i a0_1, .i a0_2, .r a0_3, .i a0_4, .i a0_5, .i a0_6, .i a0_7, .i a0_8, .r a0_9, .i a0_10, .b a0_11, .b a0_12, .r a0_13, .r a0_14, .r a0_15, .r a0_16], .v [.i a1]] = impl_CanBegin_u k a0_0 a0_1 a0_2 a0_3 a0_4 a0_5 a0_6 a0_7 a0_8 a0_9 a0_10 a0_11 a0_12 a0_13 a0_14 a0_15 a0_16 a1 := by
  have e0 : evalF E P0 (k + 1) N.impl_CanBegin [.v [.i a0_0, .i a0_1, .i a0_2, .r a0_3, .i a0_4, .i a0_5, .i a0_6, .i a0_7, .i a0_8, .r a0_9, .i a0_10, .b a0_11, .b a0_12, .r a0_13, .r a0_14, .r a0_15, .r a0_16], .v [.i a1]] = impl_CanBegin_U k a0_0 a0_1 a0_2 a0_3 a0_4 a0_5 a0_6 a0_7 a0_8 a0_9 a0_10 a0_11 a0_12 a0_13 a0_14 a0_15 a0_16 a1 (fun v => impl_CanBegin_it1 k a0_0 a0_1 a0_2 a0_3 a0_4 a0_5 a0_6 a0_7 a0_8 a0_9 a0_10 a0_11 a0_12 a0_13 a0_14 a0_15 a0_16 a1 [] k (impl_CanBegin_S1 a0_0 a0_1 a0_2 a0_3 a0_4 a0_5 a0_6 a0_7 a0_8 a0_9 a0_10 a0_11 a0_12 a0_13 a0_14 a0_15 a0_16 a1 v)) := by kernel_rfl
  have e2 : ∀ (p23 : List (List T)) (p24 : Int) (j2 : Nat) (v : Int), impl_CanBegin_it2 k a0_0 a0_1 a0_2 a0_3 a0_4 a0_5 a0_6 a0_7 a0_8 a0_9 a0_10 a0_11 a0_12 a0_13 a0_14 a0_15 a0_16 a1 [] (j2 + 1) (impl_CanBegin_S2 a0_0 a0_1 a0_2 a0_3 a0_4 a0_5 a0_6 a0_7 a0_8 a0_9 a0_10 a0_11 a0_12 a0_13 a0_14 a0_15 a0_16 a1 p23 p24 v) = impl_CanBegin_L2 k a0_0 a0_1 a0_2 a0_3 a0_4 a0_5 a0_6 a0_7 a0_8 a0_9 a0_10 a0_11 a0_12 a0_13 a0_14 a0_15 a0_16 a1 p23 p24 (fun v => impl_CanBegin_it2 k a0_0 a0_1 a0_2 a0_3 a0_4 a0_5 a0_6 a0_7 a0_8 a0_9 a0_10 a0_11 a0_12 a0_13 a0_14 a0_15 a0_16 a1 [] j2 (impl_CanBegin_S2 a0_0 a0_1 a0_2 a0_3 a0_4 a0_5 a0_6 a0_7 a0_8 a0_9 a0_10 a0_11 a0_12 a0_13 a0_14 a0_15 a0_16 a1 p23 p24 v)) v := by
    intro p23 p24 j2 v; kernel_rfl
  have i2 : ∀ (p23 : List (List T)) (p24 : Int) (j2 : Nat) (v : Int), impl_CanBegin_it2 k a0_0 a0_1 a0_2 a0_3 a0_4 a0_5 a0_6 a0_7 a0_8 a0_9 a0_10 a0_11 a0_12 a0_13 a0_14 a0_15 a0_16 a1 [] j2 (impl_CanBegin_S2 a0_0 a0_1 a0_2 a0_3 a0_4 a0_5 a0_6 a0_7 a0_8 a0_9 a0_10 a0_11 a0_12 a0_13 a0_14 a0_15 a0_16 a1 p23 p24 v) = fixN (impl_CanBegin_l2 k a0_0 a0_1 a0_2 a0_3 a0_4 a0_5 a0_6 a0_7 a0_8 a0_9 a0_10 a0_11 a0_12 a0_13 a0_14 a0_15 a0_16 a1 p23 p24) j2 v := by
    intro p23 p24 j2 v
    refine iter_fix (impl_CanBegin_S2 a0_0 a0_1 a0_2 a0_3 a0_4 a0_5 a0_6 a0_7 a0_8 a0_9 a0_10 a0_11 a0_12 a0_13 a0_14 a0_15 a0_16 a1 p23 p24) (impl_CanBegin_l2 k a0_0 a0_1 a0_2 a0_3 a0_4 a0_5 a0_6 a0_7 a0_8 a0_9 a0_10 a0_11 a0_12 a0_13 a0_14 a0_15 a0_16 a1 p23 p24) (fun j2 v => (e2 p23 p24 j2 v).trans ?_) j2 v
    unfold impl_CanBegin_l2
    rfl
  have e1 : ∀ (j1 : Nat) (v : Int), impl_CanBegin_it1 k a0_0 a0_1 a0_2 a0_3 a0_4 a0_5 a0_6 a0_7 a0_8 a0_9 a0_10 a0_11 a0_12 a0_13 a0_14 a0_15 a0_16 a1 [] (j1 + 1) (impl_CanBegin_S1 a0_0 a0_1 a0_2 a0_3 a0_4 a0_5 a0_6 a0_7 a0_8 a0_9 a0_10 a0_11 a0_12 a0_13 a0_14 a0_15 a0_16 a1 v) = impl_CanBegin_L1 k a0_0 a0_1 a0_2 a0_3 a0_4 a0_5 a0_6 a0_7 a0_8 a0_9 a0_10 a0_11 a0_12 a0_13 a0_14 a0_15 a0_16 a1 (fun y0 y1 v => impl_CanBegin_it2 k a0_0 a0_1 a0_2 a0_3 a0_4 a0_5 a0_6 a0_7 a0_8 a0_9 a0_10 a0_11 a0_12 a0_13 a0_14 a0_15 a0_16 a1 [] k (impl_CanBegin_S2 a0_0 a0_1 a0_2 a0_3 a0_4 a0_5 a0_6 a0_7 a0_8 a0_9 a0_10 a0_11 a0_12 a0_13 a0_14 a0_15 a0_16 a1 y0 y1 v)) (fun v => impl_CanBegin_it1 k a0_0 a0_1 a0_2 a0_3 a0_4 a0_5 a0_6 a0_7 a0_8 a0_9 a0_10 a0_11 a0_12 a0_13 a0_14 a0_15 a0_16 a1 [] j1 (impl_CanBegin_S1 a0_0 a0_1 a0_2 a0_3 a0_4 a0_5 a0_6 a0_7 a0_8 a0_9 a0_10 a0_11 a0_12 a0_13 a0_14 a0_15 a0_16 a1 v)) v := by
    intro j1 v; kernel_rfl
  have i1 : ∀ (j1 : Nat) (v : Int), impl_CanBegin_it1 k a0_0 a0_1 a0_2 a0_3 a0_4 a0_5 a0_6 a0_7 a0_8 a0_9 a0_10 a0_11 a0_12 a0_13 a0_14 a0_15 a0_16 a1 [] j1 (impl_CanBegin_S1 a0_0 a0_1 a0_2 a0_3 a0_4 a0_5 a0_6 a0_7 a0_8 a0_9 a0_10 a0_11 a0_12 a0_13 a0_14 a0_15 a0_16 a1 v) = fixN (impl_CanBegin_l1 k a0_0 a0_1 a0_2 a0_3 a0_4 a0_5 a0_6 a0_7 a0_8 a0_9 a0_10 a0_11 a0_12 a0_13 a0_14 a0_15 a0_16 a1) j1 v := by
    intro j1 v
    refine iter_fix (impl_CanBegin_S1 a0_0 a0_1 a0_2 a0_3 a0_4 a0_5 a0_6 a0_7 a0_8 a0_9 a0_10 a0_11 a0_12 a0_13 a0_14 a0_15 a0_16 a1) (impl_CanBegin_l1 k a0_0 a0_1 a0_2 a0_3 a0_4 a0_5 a0_6 a0_7 a0_8 a0_9 a0_10 a0_11 a0_12 a0_13 a0_14 a0_15 a0_16 a1) (fun j1 v => (e1 j1 v).trans ?_) j1 v
    unfold impl_CanBegin_l1
    simp only [i2] <;> rfl
  rw [e0]; unfold impl_CanBegin_u
  simp only [i1]
/- impl.FirstReady -/
def impl_FirstReady_L1 (k : Nat) (a0_0 : Int) (a0_1 : Int) (a0_2 : Int) (a0_3 : List (List T)) (a0_4 : Int) (a0_5 : Int) (a0_6 : Int) (a0_7 : Int) (a0_8 : Int) (a0_9 : List (List T)) (a0_10 : Int) (a0_11 : Bool) (a0_12 : Bool) (a0_13 : List (List T)) (a0_14 : List (List T)) (a0_15 : List (List T)) (a0_16 : List (List T)) (G1 : (Int) → Option Outs) : (Int) → Option Outs := fun v8 =>
 bif (decide (v8 < (a0_13.length : Int))) then
  bindO (evalF E P0 k N.impl_CanBegin [.v [.i a0_0, .i a0_1, .i a0_2, .r a0_3, .i a0_4, .i a0_5, .i a0_6, .i a0_7, .i a0_8, .r a0_9, .i a0_10, .b a0_11, .b a0_12, .r a0_13, .r a0_14, .r a0_15, .r a0_16], .v [.i v8]]) fun o96 =>
  bif (o96.t 0).asB then some ⟨[.i v8], []⟩ else G1 (IntKind.wrap .i64 (v8 + 1))
 else
  some ⟨[.i (-1)], []⟩
def impl_FirstReady_k1 : List Nat := [1, 2, 6, 7]
def impl_FirstReady_S1 (a0_0 : Int) (a0_1 : Int) (a0_2 : Int) (a0_3 : List (List T)) (a0_4 : Int) (a0_5 : Int) (a0_6 : Int) (a0_7 : Int) (a0_8 : Int) (a0_9 : List (List T)) (a0_10 : Int) (a0_11 : Bool) (a0_12 : Bool) (a0_13 : List (List T)) (a0_14 : List (List T)) (a0_15 : List (List T)) (a0_16 : List (List T)) : (Int) → St := fun v8 => ⟨ofSl [(1, .ptr (1, 0) 0), (2, .i .i64 0), (6, .i .i64 (a0_13.length : Int)), (7, .i .i64 v8)], ofMem [((1, 0), .var [.i .i64 a0_0, .i .i64 a0_1, .i .i64 a0_2, .sl 139 a0_3, .i .i64 a0_4, .i .i64 a0_5, .i .i64 a0_6, .i .i64 a0_7, .i .i64 a0_8, .sl 166 a0_9, .i .i64 a0_10, .b a0_11, .b a0_12, .sl 54 a0_13, .sl 155 a0_14, .sl 61 a0_15, .sl 63 a0_16])]⟩
def impl_FirstReady_l1 (k : Nat) (a0_0 : Int) (a0_1 : Int) (a0_2 : Int) (a0_3 : List (List T)) (a0_4 : Int) (a0_5 : Int) (a0_6 : Int) (a0_7 : Int) (a0_8 : Int) (a0_9 : List (List T)) (a0_10 : Int) (a0_11 : Bool) (a0_12 : Bool) (a0_13 : List (List T)) (a0_14 : List (List T)) (a0_15 : List (List T)) (a0_16 : List (List T)) (G1 : (Int) → Option Outs) : (Int) → Option Outs :=
  impl_FirstReady_L1 k a0_0 a0_1 a0_2 a0_3 a0_4 a0_5 a0_6 a0_7 a0_8 a0_9 a0_10 a0_11 a0_12 a0_13 a0_14 a0_15 a0_16 G1
def impl_FirstReady_U (k : Nat) (a0_0 : Int) (a0_1 : Int) (a0_2 : Int) (a0_3 : List (List T)) (a0_4 : Int) (a0_5 : Int) (a0_6 : Int) (a0_7 : Int) (a0_8 : Int) (a0_9 : List (List T)) (a0_10 : Int) (a0_11 : Bool) (a0_12 : Bool) (a0_13 : List (List T)) (a0_14 : List (List T)) (a0_15 : List (List T)) (a0_16 : List (List T)) (R1 : (Int) → Option Outs) : Option Outs :=
 R1 0
def impl_FirstReady_u (k : Nat) (a0_0 : Int) (a0_1 : Int) (a0_2 : Int) (a0_3 : List (List T)) (a0_4 : Int) (a0_5 : Int) (a0_6 : Int) (a0_7 : Int) (a0_8 : Int) (a0_9 : List (List T)) (a0_10 : Int) (a0_11 : Bool) (a0_12 : Bool) (a0_13 : List (List T)) (a0_14 : List (List T)) (a0_15 : List (List T)) (a0_16 : List (List T)) : Option Outs :=
  impl_FirstReady_U k a0_0 a0_1 a0_2 a0_3 a0_4 a0_5 a0_6 a0_7 a0_8 a0_9 a0_10 a0_11 a0_12 a0_13 a0_14 a0_15 a0_16 (fun v => fixN (impl_FirstReady_l1 k a0_0 a0_1 a0_2 a0_3 a0_4 a0_5 a0_6 a0_7 a0_8 a0_9 a0_10 a0_11 a0_12 a0_13 a0_14 a0_15 a0_16) k v)
def impl_FirstReady_it1 (k : Nat) (a0_0 : Int) (a0_1 : Int) (a0_2 : Int) (a0_3 : List (List T)) (a0_4 : Int) (a0_5 : Int) (a0_6 : Int) (a0_7 : Int) (a0_8 : Int) (a0_9 : List (List T)) (a0_10 : Int) (a0_11 : Bool) (a0_12 : Bool) (a0_13 : List (List T)) (a0_14 : List (List T)) (a0_15 : List (List T)) (a0_16 : List (List T)) (js : List Nat) (j : Nat) (s : St) : Option Outs := iter E (LB E (evalF E P0 k) k [] N.impl_FirstReady [.sr, .sl, .sr, .bl]) [] impl_FirstReady_k1 (LK E (evalF E P0 k) k [] N.impl_FirstReady [.v [.i a0_0, .i a0_1, .i a0_2, .r a0_3, .i a0_4, .i a0_5, .i a0_6, .i a0_7, .i a0_8, .r a0_9, .i a0_10, .b a0_11, .b a0_12, .r a0_13, .r a0_14, .r a0_15, .r a0_16]] [.sr, .sl, .sr, .bl] js) j s
theorem impl_FirstReady_e (k : Nat) (a0_0 : Int) (a0_1 : Int) (a0_2 : Int) (a0_3 : List (List T)) (a0_4 : Int) (a0_5 : Int) (a0_6 : Int) (a0_7 : Int) (a0_8 : Int) (a0_9 : List (List T)) (a0_10 : Int) (a0_11 : Bool) (a0_12 : Bool) (a0_13 : List (List T)) (a0_14 : List (List T)) (a0_15 : List (List T)) (a0_16 : List (List T)) : evalF E P0 (k + 1) N.impl_FirstReady [.v [.i a0_0, .i a0_1, .i a0_2, .r a0_3, .i a0_4, .i a0_5, .i a0_6, .i a0_7, .i a0_8, .r a0_9, .i a0_10, .b a0_11, .b a0_12, .r a0_13, .r a0_14, .r a0_15, .r a0_16]] = impl_FirstReady_u k a0_0 a0_1 a0_2 a0_3 a0_4 a0_5 a0_6 a0_7 a0_8 a0_9 a0_10 a0_11 a0_12 a0_13 a0_14 a0_15 a0_16 := by
  have e0 : evalF E P0 (k + 1) N.impl_FirstReady [.v [.i a0_0, .i a0_1, .i a0_2, .r a0_3, .i a0_4, .i a0_5, .i a0_6, .i a0_7, .i a0_8, .r a0_9, .i a0_10, .b a0_11, .b a0_12, .r a0_13, .r a0_14, .r a0_15, .r a0_16]] = impl_FirstReady_U k a0_0 a0_1 a0_2 a0_3 a0_4 a0_5 a0_6 a0_7 a0_8 a0_9 a0_10 a0_11 a0_12 a0_13 a0_14 a0_15 a0_16 (fun v => impl_FirstReady_it1 k a0_0 a0_1 a0_2 a0_3 a0_4 a0_5 a0_6 a0_7 a0_8 a0_9 a0_10 a0_11 a0_12 a0_13 a0_14 a0_15 a0_16 [] k (impl_FirstReady_S1 a0_0 a0_1 a0_2 a0_3 a0_4 a0_5 a0_6 a0_7 a0_8 a0_9 a0_10 a0_11 a0_12 a0_13 a0_14 a0_15 a0_16 v)) := by kernel_rfl
  have e1 : ∀ (j1 : Nat) (v : Int), impl_FirstReady_it1 k a0_0 a0_1 a0_2 a0_3 a0_4 a0_5 a0_6 a0_7 a0_8 a0_9 a0_10 a0_11 a0_12 a0_13 a0_14 a0_15 a0_16 [] (j1 + 1) (impl_FirstReady_S1 a0_0 a0_1 a0_2 a0_3 a0_4 a0_5 a0_6 a0_7 a0_8 a0_9 a0_10 a0_11 a0_12 a0_13 a0_14 a0_15 a0_16 v) = impl_FirstReady_L1 k a0_0 a0_1 a0_2 a0_3 a0_4 a0_5 a0_6 a0_7 a0_8 a0_9 a0_10 a0_11 a0_12 a0_13 a0_14 a0_15 a0_16 (fun v => impl_FirstReady_it1 k a0_0 a0_1 a0_2 a0_3 a0_4 a0_5 a0_6 a0_7 a0_8 a0_9 a0_10 a0_11 a0_12 a0_13 a0_14 a0_15 a0_16 [] j1 (impl_FirstReady_S1 a0_0 a0_1 a0_2 a0_3 a0_4 a0_5 a0_6 a0_7 a0_8 a0_9 a0_10 a0_11 a0_12 a0_13 a0_14 a0_15 a0_16 v)) v := by
    intro j1 v; kernel_rfl
  have i1 : ∀ (j1 : Nat) (v : Int), impl_FirstReady_it1 k a0_0 a0_1 a0_2 a0_3 a0_4 a0_5 a0_6 a0_7 a0_8 a0_9 a0_10 a0_11 a0_12 a0_13 a0_14 a0_15 a0_16 [] j1 (impl_FirstReady_S1 a0_0 a0_1 a0_2 a0_3 a0_4 a0_5 a0_6 a0_7 a0_8 a0_9 a0_10 a0_11 a0_12 a0_13 a0_14 a0_15 a0_16 v) = fixN (impl_FirstReady_l1 k a0_0 a0_1 a0_2 a0_3 a0_4 a0_5 a0_6 a0_7 a0_8 a0_9 a0_10 a0_11 a0_12 a0_13 a0_14 a0_15 a0_16) j1 v := by
    intro j1 v
    refine iter_fix (impl_FirstReady_S1 a0_0 a0_1 a0_2 a0_3 a0_4 a0_5 a0_6 a0_7 a0_8 a0_9 a0_10 a0_11 a0_12 a0_13 a0_14 a0_15 a0_16) (impl_FirstReady_l1 k a0_0 a0_1 a0_2 a0_3 a0_4 a0_5 a0_6 a0_7 a0_8 a0_9 a0_10 a0_11 a0_12 a0_13 a0_14 a0_15 a0_16) (fun j1 v => (e1 j1 v).trans ?_) j1 v
    unfold impl_FirstReady_l1
    rfl
  rw [e0]; unfold impl_FirstReady_u
  simp only [i1]
/- impl.hasBlock -/
def impl_hasBlock_u (k : Nat) (a0_0 : Int) (a0_1 : Int) (a1 : Int) : Option Outs :=
 bindO (evalF E P0 k N.impl_Blocks [.v [.i a0_0, .i a0_1]]) fun o3 =>
 bindO (evalF E P0 k N.impl_within [.v [.i a1], .v [.i 0], .v [.i (IntKind.wrap .i64 ((o3.t 0).asI - 1))]]) fun o4 =>
 some ⟨[.b (o4.t 0).asB], []⟩
theorem impl_hasBlock_e (k : Nat) (a0_0 : Int) (a0_1 : Int) (a1 : Int) : evalF E P0 (k + 1) N.impl_hasBlock [.v [.i a0_0, .i a0_1], .v [.i a1]] = impl_hasBlock_u k a0_0 a0_1 a1 := by kernel_rfl
/- impl.StripeOf -/
def impl_StripeOf_u (k : Nat) (a0_0 : Int) (a0_1 : Int) (a1 : Int) : Option Outs :=
 bindO (evalF E P0 k N.impl_hasBlock [.v [.i a0_0, .i a0_1], .v [.i a1]]) fun o2 =>
 bif (!(o2.t 0).asB) then
  some ⟨[.i (-1)], []⟩
 else
  chk (!decide ((IntKind.wrap .i64 (a0_0 - 1)) = 0)) <|
  some ⟨[.i (IntKind.wrap .i64 (Int.tdiv a1 (IntKind.wrap .i64 (a0_0 - 1))))], []⟩
theorem impl_StripeOf_e (k : Nat) (a0_0 : Int) (a0_1 : Int) (a1 : Int) : evalF E P0 (k + 1) N.impl_StripeOf [.v [.i a0_0, .i a0_1], .v [.i a1]] = impl_StripeOf_u k a0_0 a0_1 a1 := by kernel_rfl
/- impl.stripesOf -/
def impl_stripesOf_u (k : Nat) (a0_0 : Int) (a0_1 : Int) (a1_0 : Int) (a1_1 : Int) (a1_2 : Int) (a1_3 : Int) (a1_4 : List (List T)) : Option Outs :=
 bindO (evalF E P0 k N.impl_SpanOf [.v [.i a0_0, .i a0_1], .v [.i a1_0, .i a1_1, .i a1_2, .i a1_3, .r a1_4]]) fun o2 =>
 bindO (evalF E P0 k N.impl_StripeOf [.v [.i a0_0, .i a0_1], .v [.i (o2.t 0).asI]]) fun o5 =>
 bindO (evalF E P0 k N.impl_StripeOf [.v [.i a0_0, .i a0_1], .v [.i (IntKind.wrap .i64 ((o2.t 1).asI - 1))]]) fun o6 =>
 some ⟨[.i (o5.t 0).asI, .i (o6.t 0).asI], []⟩
theorem impl_stripesOf_e (k : Nat) (a0_0 : Int) (a0_1 : Int) (a1_0 : Int) (a1_1 : Int) (a1_2 : Int) (a1_3 : Int) (a1_4 : List (List T)) : evalF E P0 (k + 1) N.impl_stripesOf [.v [.i a0_0, .i a0_1], .v [.i a1_0, .i a1_1, .i a1_2, .i a1_3, .r a1_4]] = impl_stripesOf_u k a0_0 a0_1 a1_0 a1_1 a1_2 a1_3 a1_4 := by kernel_rfl
/- impl.StepsOf -/
def impl_StepsOf_u (k : Nat) (a0_0 : Int) (a0_1 : Int) (a1_0 : Int) (a1_1 : Int) (a1_2 : Int) (a1_3 : Int) (a1_4 : List (List T)) : Option Outs :=
 bindO (evalF E P0 k N.impl_CmdCode [.v [.i a0_0, .i a0_1], .v [.i a1_0, .i a1_1, .i a1_2, .i a1_3, .r a1_4]]) fun o2 =>
 bif ((o2.t 0).asI != 0) then
  some ⟨[.i 0], []⟩
 else
  bif (a1_0 == 3) then
   bindO (evalF E P0 k N.impl_stripesOf [.v [.i a0_0, .i a0_1], .v [.i a1_0, .i a1_1, .i a1_2, .i a1_3, .r a1_4]]) fun o16 =>
   bindO (evalF E P0 k N.impl_runOf [.v [.i a1_0, .i a1_1, .i a1_2, .i a1_3, .r a1_4]]) fun o18 =>
   some ⟨[.i (IntKind.wrap .i64 ((IntKind.wrap .i64 ((IntKind.wrap .i64 ((o18.t 0).asI + (o16.t 1).asI)) - (o16.t 0).asI)) + 2))], []⟩
  else
   bif (a1_0 == 4) then
    some ⟨[.i (IntKind.wrap .i64 (a0_1 + 1))], []⟩
   else
    bindO (evalF E P0 k N.impl_runOf [.v [.i a1_0, .i a1_1, .i a1_2, .i a1_3, .r a1_4]]) fun o20 =>
    some ⟨[.i (IntKind.wrap .i64 ((o20.t 0).asI + 1))], []⟩
theorem impl_StepsOf_e (k : Nat) (a0_0 : Int) (a0_1 : Int) (a1_0 : Int) (a1_1 : Int) (a1_2 : Int) (a1_3 : Int) (a1_4 : List (List T)) : evalF E P0 (k + 1) N.impl_StepsOf [.v [.i a0_0, .i a0_1], .v [.i a1_0, .i a1_1, .i a1_2, .i a1_3, .r a1_4]] = impl_StepsOf_u k a0_0 a0_1 a1_0 a1_1 a1_2 a1_3 a1_4 := by kernel_rfl
/- impl.blockCode -/
def impl_blockCode_u (k : Nat) (a0_0 : Int) (a0_1 : Int) (a0_2 : Int) (a0_3 : List (List T)) (a0_4 : Int) (a0_5 : Int) (a0_6 : Int) (a0_7 : Int) (a0_8 : Int) (a0_9 : List (List T)) (a0_10 : Int) (a0_11 : Bool) (a0_12 : Bool) (a1 : Int) : Option Outs :=
 bindO (evalF E P0 k N.impl_ArrOk [.v [.i a0_0, .i a0_1, .i a0_2, .r a0_3, .i a0_4, .i a0_5, .i a0_6, .i a0_7, .i a0_8, .r a0_9, .i a0_10, .b a0_11, .b a0_12]]) fun o14 =>
 bif (!(o14.t 0).asB) then
  some ⟨[.i 1], []⟩
 else
  bif a0_11 then
   some ⟨[.i 6], []⟩
  else
   bindO (evalF E P0 k N.impl_hasBlock [.v [.i a0_1, .i a0_2], .v [.i a1]]) fun o16 =>
   bif (!(o16.t 0).asB) then some ⟨[.i 2], []⟩ else some ⟨[.i 0], []⟩
theorem impl_blockCode_e (k : Nat) (a0_0 : Int) (a0_1 : Int) (a0_2 : Int) (a0_3 : List (List T)) (a0_4 : Int) (a0_5 : Int) (a0_6 : Int) (a0_7 : Int) (a0_8 : Int) (a0_9 : List (List T)) (a0_10 : Int) (a0_11 : Bool) (a0_12 : Bool) (a1 : Int) : evalF E P0 (k + 1) N.impl_blockCode [.v [.i a0_0, .i a0_1, .i a0_2, .r a0_3, .i a0_4, .i a0_5, .i a0_6, .i a0_7, .i a0_8, .r a0_9, .i a0_10, .b a0_11, .b a0_12], .v [.i a1]] = impl_blockCode_u k a0_0 a0_1 a0_2 a0_3 a0_4 a0_5 a0_6 a0_7 a0_8 a0_9 a0_10 a0_11 a0_12 a1 := by kernel_rfl
/- impl.entOf$1 -/
def impl_entOf_1_u (k : Nat) (a0_0 : Int) (a0_1 : List (List T)) (a1 : Int) : Option Outs :=
 some ⟨[.b (a0_0 == a1)], [[.i a1]]⟩
theorem impl_entOf_1_e (k : Nat) (a0_0 : Int) (a0_1 : List (List T)) (a1 : Int) : evalF E P0 (k + 1) N.impl_entOf_1 [.v [.i a0_0, .r a0_1], .p [.i a1]] = impl_entOf_1_u k a0_0 a0_1 a1 := by kernel_rfl
/- slices.IndexFunc[[]impl.Ent,impl.Ent] -/
def slices_IndexFunc_impl_Ent_impl_Ent_L1 (k : Nat) (a0 : List (List T)) (G1 : (Int × Int) → Option Outs) : (Int × Int) → Option Outs := fun (v15, v16) =>
 bif (decide (v15 < (a0.length : Int))) then
  chk (decide (0 ≤ v15) && decide (v15 < (a0.length : Int))) <|
  bindO (evalF E P0 k N.impl_entOf_1 [.v [.i (at_ a0 v15.toNat 0).asI, .r (at_ a0 v15.toNat 1).asR], .p [.i v16]]) fun o96 =>
  bif (o96.t 0).asB then
   some ⟨[.i v15], [[.i (o96.vt 0 0).asI]]⟩
  else
   G1 ((IntKind.wrap .i64 (v15 + 1)), (o96.vt 0 0).asI)
 else
  some ⟨[.i (-1)], [[.i v16]]⟩
def slices_IndexFunc_impl_Ent_impl_Ent_k1 : List Nat := [0, 1, 4, 7, 8]
def slices_IndexFunc_impl_Ent_impl_Ent_S1 (a0 : List (List T)) : (Int × Int) → St := fun (v15, v16) => ⟨ofSl [(0, .sl 166 a0), (1, .clo N.impl_entOf_1 (some (1, 0))), (4, .i .i64 0), (7, .i .i64 (a0.length : Int)), (8, .i .i64 v15)], ofMem [((1, 0), .var [.i .i64 v16])]⟩
def slices_IndexFunc_impl_Ent_impl_Ent_l1 (k : Nat) (a0 : List (List T)) (G1 : (Int × Int) → Option Outs) : (Int × Int) → Option Outs :=
  slices_IndexFunc_impl_Ent_impl_Ent_L1 k a0 G1
def slices_IndexFunc_impl_Ent_impl_Ent_U (k : Nat) (a0 : List (List T)) (a1 : Int) (R1 : (Int × Int) → Option Outs) : Option Outs :=
 R1 (0, a1)
def slices_IndexFunc_impl_Ent_impl_Ent_u (k : Nat) (a0 : List (List T)) (a1 : Int) : Option Outs :=
  slices_IndexFunc_impl_Ent_impl_Ent_U k a0 a1 (fun v => fixN (slices_IndexFunc_impl_Ent_impl_Ent_l1 k a0) k v)
def slices_IndexFunc_impl_Ent_impl_Ent_it1 (k : Nat) (a0 : List (List T)) (a1 : Int) (js : List Nat) (j : Nat) (s : St) : Option Outs := iter E (LB E (evalF E P0 k) k [1] N.slices_IndexFunc_impl_Ent_impl_Ent [.sr, .sl, .sr, .bl]) [1] slices_IndexFunc_impl_Ent_impl_Ent_k1 (LK E (evalF E P0 k) k [1] N.slices_IndexFunc_impl_Ent_impl_Ent [.v [.r a0], .c N.impl_entOf_1 (some [.i a1])] [.sr, .sl, .sr, .bl] js) j s
theorem slices_IndexFunc_impl_Ent_impl_Ent_e (k : Nat) (a0 : List (List T)) (a1 : Int) : evalF E P0 (k + 1) N.slices_IndexFunc_impl_Ent_impl_Ent [.v [.r a0], .c N.impl_entOf_1 (some [.i a1])] = slices_IndexFunc_impl_Ent_impl_Ent_u k a0 a1 := by
  have e0 : evalF E P0 (k + 1) N.slices_IndexFunc_impl_Ent_impl_Ent [.v [.r a0], .c N.impl_entOf_1 (some [.i a1])] = slices_IndexFunc_impl_Ent_impl_Ent_U k a0 a1 (fun v => slices_IndexFunc_impl_Ent_impl_Ent_it1 k a0 a1 [] k (slices_IndexFunc_impl_Ent_impl_Ent_S1 a0 v)) := by kernel_rfl
  have e1 : ∀ (j1 : Nat) (v : Int × Int), slices_IndexFunc_impl_Ent_impl_Ent_it1 k a0 a1 [] (j1 + 1) (slices_IndexFunc_impl_Ent_impl_Ent_S1 a0 v) = slices_IndexFunc_impl_Ent_impl_Ent_L1 k a0 (fun v => slices_IndexFunc_impl_Ent_impl_Ent_it1 k a0 a1 [] j1 (slices_IndexFunc_impl_Ent_impl_Ent_S1 a0 v)) v := by
    intro j1 v; kernel_rfl
  have i1 : ∀ (j1 : Nat) (v : Int × Int), slices_IndexFunc_impl_Ent_impl_Ent_it1 k a0 a1 [] j1 (slices_IndexFunc_impl_Ent_impl_Ent_S1 a0 v) = fixN (slices_IndexFunc_impl_Ent_impl_Ent_l1 k a0) j1 v := by
    intro j1 v
    refine iter_fix (slices_IndexFunc_impl_Ent_impl_Ent_S1 a0) (slices_IndexFunc_impl_Ent_impl_Ent_l1 k a0) (fun j1 v => (e1 j1 v).trans ?_) j1 v
    unfold slices_IndexFunc_impl_Ent_impl_Ent_l1
    rfl
  rw [e0]; unfold slices_IndexFunc_impl_Ent_impl_Ent_u
  simp only [i1]
/- impl.entOf -/
def impl_entOf_u (k : Nat) (a0_0 : Int) (a0_1 : Int) (a0_2 : Int) (a0_3 : List (List T)) (a0_4 : Int) (a0_5 : Int) (a0_6 : Int) (a0_7 : Int) (a0_8 : Int) (a0_9 : List (List T)) (a0_10 : Int) (a0_11 : Bool) (a0_12 : Bool) (a1 : Int) : Option Outs :=
 bindO (evalF E P0 k N.slices_IndexFunc_impl_Ent_impl_Ent [.v [.r a0_9], .c N.impl_entOf_1 (some [.i a1])]) fun o2 =>
 some ⟨[.i (o2.t 0).asI], []⟩
theorem impl_entOf_e (k : Nat) (a0_0 : Int) (a0_1 : Int) (a0_2 : Int) (a0_3 : List (List T)) (a0_4 : Int) (a0_5 : Int) (a0_6 : Int) (a0_7 : Int) (a0_8 : Int) (a0_9 : List (List T)) (a0_10 : Int) (a0_11 : Bool) (a0_12 : Bool) (a1 : Int) : evalF E P0 (k + 1) N.impl_entOf [.v [.i a0_0, .i a0_1, .i a0_2, .r a0_3, .i a0_4, .i a0_5, .i a0_6, .i a0_7, .i a0_8, .r a0_9, .i a0_10, .b a0_11, .b a0_12], .v [.i a1]] = impl_entOf_u k a0_0 a0_1 a0_2 a0_3 a0_4 a0_5 a0_6 a0_7 a0_8 a0_9 a0_10 a0_11 a0_12 a1 := by kernel_rfl
/- slices.Index[[]int,int] -/
def slices_Index_int_int_L1 (k : Nat) (a0 : List (List T)) (a1 : Int) (G1 : (Int) → Option Outs) : (Int) → Option Outs := fun v8 =>
 bif (decide (v8 < (a0.length : Int))) then
  chk (decide (0 ≤ v8) && decide (v8 < (a0.length : Int))) <|
  bif (a1 == (at_ a0 v8.toNat 0).asI) then some ⟨[.i v8], []⟩ else G1 (IntKind.wrap .i64 (v8 + 1))
 else
  some ⟨[.i (-1)], []⟩
def slices_Index_int_int_k1 : List Nat := [0, 1, 4, 7, 8]
def slices_Index_int_int_S1 (a0 : List (List T)) (a1 : Int) : (Int) → St := fun v8 => ⟨ofSl [(0, .sl 3 a0), (1, .i .i64 a1), (4, .i .i64 0), (7, .i .i64 (a0.length : Int)), (8, .i .i64 v8)], ofMem []⟩
def slices_Index_int_int_l1 (k : Nat) (a0 : List (List T)) (a1 : Int) (G1 : (Int) → Option Outs) : (Int) → Option Outs :=
  slices_Index_int_int_L1 k a0 a1 G1
def slices_Index_int_int_U (k : Nat) (a0 : List (List T)) (a1 : Int) (R1 : (Int) → Option Outs) : Option Outs :=
 R1 0
def slices_Index_int_int_u (k : Nat) (a0 : List (List T)) (a1 : Int) : Option Outs :=
  slices_Index_int_int_U k a0 a1 (fun v => fixN (slices_Index_int_int_l1 k a0 a1) k v)
def slices_Index_int_int_it1 (k : Nat) (a0 : List (List T)) (a1 : Int) (js : List Nat) (j : Nat) (s : St) : Option Outs := iter E (LB E (evalF E P0 k) k [] N.slices_Index_int_int [.sr, .sl, .sr, .bl]) [] slices_Index_int_int_k1 (LK E (evalF E P0 k) k [] N.slices_Index_int_int [.v [.r a0], .v [.i a1]] [.sr, .sl, .sr, .bl] js) j s
theorem slices_Index_int_int_e (k : Nat) (a0 : List (List T)) (a1 : Int) : evalF E P0 (k + 1) N.slices_Index_int_int [.v [.r a0], .v [.i a1]] = slices_Index_int_int_u k a0 a1 := by
  have e0 : evalF E P0 (k + 1) N.slices_Index_int_int [.v [.r a0], .v [.i a1]] = slices_Index_int_int_U k a0 a1 (fun v => slices_Index_int_int_it1 k a0 a1 [] k (slices_Index_int_int_S1 a0 a1 v)) := by kernel_rfl
  have e1 : ∀ (j1 : Nat) (v : Int), slices_Index_int_int_it1 k a0 a1 [] (j1 + 1) (slices_Index_int_int_S1 a0 a1 v) = slices_Index_int_int_L1 k a0 a1 (fun v => slices_Index_int_int_it1 k a0 a1 [] j1 (slices_Index_int_int_S1 a0 a1 v)) v := by
    intro j1 v; kernel_rfl
  have i1 : ∀ (j1 : Nat) (v : Int), slices_Index_int_int_it1 k a0 a1 [] j1 (slices_Index_int_int_S1 a0 a1 v) = fixN (slices_Index_int_int_l1 k a0 a1) j1 v := by
    intro j1 v
    refine iter_fix (slices_Index_int_int_S1 a0 a1) (slices_Index_int_int_l1 k a0 a1) (fun j1 v => (e1 j1 v).trans ?_) j1 v
    unfold slices_Index_int_int_l1
    rfl
  rw [e0]; unfold slices_Index_int_int_u
  simp only [i1]
/- slices.Contains[[]int,int] -/
def slices_Contains_int_int_u (k : Nat) (a0 : List (List T)) (a1 : Int) : Option Outs :=
 bindO (evalF E P0 k N.slices_Index_int_int [.v [.r a0], .v [.i a1]]) fun o2 =>
 some ⟨[.b (decide ((o2.t 0).asI ≥ 0))], []⟩
theorem slices_Contains_int_int_e (k : Nat) (a0 : List (List T)) (a1 : Int) : evalF E P0 (k + 1) N.slices_Contains_int_int [.v [.r a0], .v [.i a1]] = slices_Contains_int_int_u k a0 a1 := by kernel_rfl
/- impl.ReadSec -/
def impl_ReadSec_L1 (k : Nat) (a0_1 : List (List T)) (a1 : Int) (G1 : (List (List T) × Int) → Option Outs) : (List (List T) × Int) → Option Outs := fun (w8, v8) =>
 bif (decide (v8 < (a0_1.length : Int))) then
  chk (decide (0 ≤ v8) && decide (v8 < (a0_1.length : Int))) <|
  bif ((at_ a0_1 v8.toNat 0).asI == a1) then
   G1 ((at_ a0_1 v8.toNat 1).asR, (IntKind.wrap .i64 (v8 + 1)))
  else
   G1 (w8, (IntKind.wrap .i64 (v8 + 1)))
 else
  bindO (evalF E P0 k N.impl_copyInts [.v [.r w8]]) fun o6 =>
  some ⟨[.r (o6.t 0).asR, .b true], []⟩
def impl_ReadSec_k1 : List Nat := [1, 4, 5, 6, 34, 35, 36, 47, 48]
def impl_ReadSec_S1 (a0_1 : List (List T)) (a1 : Int) : (List (List T) × Int) → St := fun (w8, v8) => ⟨ofSl [(1, .i .i64 a1), (4, .ref (4, 0)), (5, .b false), (6, .sl 3 w8), (34, .sl 174 a0_1), (35, .i .i64 (a0_1.length : Int)), (36, .i .i64 v8), (47, .skip), (48, .skip)], ofMem [((4, 0), .row 3 true [])]⟩
def impl_ReadSec_J1 (k : Nat) (a0_0 : List (List T)) (a1 : Int) (R1 : (List (List T) × Int) → Option Outs) (c1 : Bool) : Option Outs :=
 bif c1 then
  some ⟨[.r [], .b false], []⟩
 else
  chk (decide (0 ≤ a1) && decide (a1 < (a0_0.length : Int))) <|
  R1 ((at_ a0_0 a1.toNat 0).asR, 0)
def impl_ReadSec_l1 (k : Nat) (a0_1 : List (List T)) (a1 : Int) (G1 : (List (List T) × Int) → Option Outs) : (List (List T) × Int) → Option Outs :=
  impl_ReadSec_L1 k a0_1 a1 G1
def impl_ReadSec_U (k : Nat) (a0_0 : List (List T)) (a0_1 : List (List T)) (a0_2 : Bool) (a0_3 : List (List T)) (a1 : Int) (R1 : (List (List T) × Int) → Option Outs) : Option Outs :=
 bindO (evalF E P0 k N.impl_MemOk [.v [.r a0_0, .r a0_1, .b a0_2, .r a0_3]]) fun o4 =>
 bif (!(o4.t 0).asB) then
  impl_ReadSec_J1 k a0_0 a1 R1 true
 else
  bif a0_2 then
   impl_ReadSec_J1 k a0_0 a1 R1 true
  else
   bindO (evalF E P0 k N.impl_hasSec [.v [.r a0_0, .r a0_1, .b a0_2, .r a0_3], .v [.i a1]]) fun o7 =>
   bif (!(o7.t 0).asB) then
    impl_ReadSec_J1 k a0_0 a1 R1 true
   else
    bindO (evalF E P0 k N.slices_Contains_int_int [.v [.r a0_3], .v [.i a1]]) fun o8 =>
    impl_ReadSec_J1 k a0_0 a1 R1 ((o8.t 0).asB)
def impl_ReadSec_u (k : Nat) (a0_0 : List (List T)) (a0_1 : List (List T)) (a0_2 : Bool) (a0_3 : List (List T)) (a1 : Int) : Option Outs :=
  impl_ReadSec_U k a0_0 a0_1 a0_2 a0_3 a1 (fun v => fixN (impl_ReadSec_l1 k a0_1 a1) k v)
def impl_ReadSec_it1 (k : Nat) (a0_0 : List (List T)) (a0_1 : List (List T)) (a0_2 : Bool) (a0_3 : List (List T)) (a1 : Int) (js : List Nat) (j : Nat) (s : St) : Option Outs := iter E (LB E (evalF E P0 k) k [] N.impl_ReadSec [.sr, .sr, .sr, .sl, .sr, .bl]) [] impl_ReadSec_k1 (LK E (evalF E P0 k) k [] N.impl_ReadSec [.v [.r a0_0, .r a0_1, .b a0_2, .r a0_3], .v [.i a1]] [.sr, .sr, .sr, .sl, .sr, .bl] js) j s
theorem impl_ReadSec_e (k : Nat) (a0_0 : List (List T)) (a0_1 : List (List T)) (a0_2 : Bool) (a0_3 : List (List T)) (a1 : Int) : evalF E P0 (k + 1) N.impl_ReadSec [.v [.r a0_0, .r a0_1, .b a0_2, .r a0_3], .v [.i a1]] = impl_ReadSec_u k a0_0 a0_1 a0_2 a0_3 a1 := by
  have e0 : evalF E P0 (k + 1) N.impl_ReadSec [.v [.r a0_0, .r a0_1, .b a0_2, .r a0_3], .v [.i a1]] = impl_ReadSec_U k a0_0 a0_1 a0_2 a0_3 a1 (fun v => impl_ReadSec_it1 k a0_0 a0_1 a0_2 a0_3 a1 [] k (impl_ReadSec_S1 a0_1 a1 v)) := by kernel_rfl
  have e1 : ∀ (j1 : Nat) (v : List (List T) × Int), impl_ReadSec_it1 k a0_0 a0_1 a0_2 a0_3 a1 [] (j1 + 1) (impl_ReadSec_S1 a0_1 a1 v) = impl_ReadSec_L1 k a0_1 a1 (fun v => impl_ReadSec_it1 k a0_0 a0_1 a0_2 a0_3 a1 [] j1 (impl_ReadSec_S1 a0_1 a1 v)) v := by
    intro j1 v; kernel_rfl
  have i1 : ∀ (j1 : Nat) (v : List (List T) × Int), impl_ReadSec_it1 k a0_0 a0_1 a0_2 a0_3 a1 [] j1 (impl_ReadSec_S1 a0_1 a1 v) = fixN (impl_ReadSec_l1 k a0_1 a1) j1 v := by
    intro j1 v
    refine iter_fix (impl_ReadSec_S1 a0_1 a1) (impl_ReadSec_l1 k a0_1 a1) (fun j1 v => (e1 j1 v).trans ?_) j1 v
    unfold impl_ReadSec_l1
    rfl
  rw [e0]; unfold impl_ReadSec_u
  simp only [i1]
/- impl.LiveAt -/
def impl_LiveAt_u (k : Nat) (a0_0 : Int) (a0_1 : Int) (a0_2 : Int) (a0_3 : List (List T)) (a0_4 : Int) (a0_5 : Int) (a0_6 : Int) (a0_7 : Int) (a0_8 : Int) (a0_9 : List (List T)) (a0_10 : Int) (a0_11 : Bool) (a0_12 : Bool) (a1 : Int) (a2 : Int) : Option Outs :=
 bindO (evalF E P0 k N.impl_within [.v [.i a1], .v [.i 0], .v [.i (IntKind.wrap .i64 ((a0_3.length : Int) - 1))]]) fun o2 =>
 bif (o2.t 0).asB then
  chk (decide (0 ≤ a1) && decide (a1 < (a0_3.length : Int))) <|
  bif (!(at_ a0_3 a1.toNat 2).asB) then
   bif (a0_4 != a1) then some ⟨[.b true], []⟩ else some ⟨[.b (decide (a2 < a0_5))], []⟩
  else
   some ⟨[.b false], []⟩
 else
  some ⟨[.b false], []⟩
theorem impl_LiveAt_e (k : Nat) (a0_0 : Int) (a0_1 : Int) (a0_2 : Int) (a0_3 : List (List T)) (a0_4 : Int) (a0_5 : Int) (a0_6 : Int) (a0_7 : Int) (a0_8 : Int) (a0_9 : List (List T)) (a0_10 : Int) (a0_11 : Bool) (a0_12 : Bool) (a1 : Int) (a2 : Int) : evalF E P0 (k + 1) N.impl_LiveAt [.v [.i a0_0, .i a0_1, .i a0_2, .r a0_3, .i a0_4, .i a0_5, .i a0_6, .i a0_7, .i a0_8, .r a0_9, .i a0_10, .b a0_11, .b a0_12], .v [.i a1], .v [.i a2]] = impl_LiveAt_u k a0_0 a0_1 a0_2 a0_3 a0_4 a0_5 a0_6 a0_7 a0_8 a0_9 a0_10 a0_11 a0_12 a1 a2 := by kernel_rfl
/- impl.wordAt -/
def impl_wordAt_J1 (k : Nat) (o4 : Outs) (c1 : Bool) : Option Outs :=
 bif c1 then
  some ⟨[.i 0, .b false], []⟩
 else
  chk (decide ((0 : Int) < ((o4.t 0).asR.length : Int))) <|
  some ⟨[.i (at_ (o4.t 0).asR 0 0).asI, .b true], []⟩
def impl_wordAt_u (k : Nat) (a0_0 : Int) (a0_1 : Int) (a0_2 : Int) (a0_3 : List (List T)) (a0_4 : Int) (a0_5 : Int) (a0_6 : Int) (a0_7 : Int) (a0_8 : Int) (a0_9 : List (List T)) (a0_10 : Int) (a0_11 : Bool) (a0_12 : Bool) (a1 : Int) (a2 : Int) : Option Outs :=
 chk (decide (0 ≤ a1) && decide (a1 < (a0_3.length : Int))) <|
 bindO (evalF E P0 k N.impl_DataAt [.v [.i a2]]) fun o3 =>
 bindO (evalF E P0 k N.impl_ReadSec [.v [.r (at_ a0_3 a1.toNat 0).asR, .r (at_ a0_3 a1.toNat 1).asR, .b (at_ a0_3 a1.toNat 2).asB, .r (at_ a0_3 a1.toNat 3).asR], .v [.i (o3.t 0).asI]]) fun o4 =>
 bindO (evalF E P0 k N.impl_LiveAt [.v [.i a0_0, .i a0_1, .i a0_2, .r a0_3, .i a0_4, .i a0_5, .i a0_6, .i a0_7, .i a0_8, .r a0_9, .i a0_10, .b a0_11, .b a0_12], .v [.i a1], .v [.i a2]]) fun o6 =>
 bif (!(o6.t 0).asB) then
  impl_wordAt_J1 k o4 true
 else
  bif (!(o4.t 1).asB) then impl_wordAt_J1 k o4 true else impl_wordAt_J1 k o4 (((o4.t 0).asR.length : Int) != 1)
theorem impl_wordAt_e (k : Nat) (a0_0 : Int) (a0_1 : Int) (a0_2 : Int) (a0_3 : List (List T)) (a0_4 : Int) (a0_5 : Int) (a0_6 : Int) (a0_7 : Int) (a0_8 : Int) (a0_9 : List (List T)) (a0_10 : Int) (a0_11 : Bool) (a0_12 : Bool) (a1 : Int) (a2 : Int) : evalF E P0 (k + 1) N.impl_wordAt [.v [.i a0_0, .i a0_1, .i a0_2, .r a0_3, .i a0_4, .i a0_5, .i a0_6, .i a0_7, .i a0_8, .r a0_9, .i a0_10, .b a0_11, .b a0_12], .v [.i a1], .v [.i a2]] = impl_wordAt_u k a0_0 a0_1 a0_2 a0_3 a0_4 a0_5 a0_6 a0_7 a0_8 a0_9 a0_10 a0_11 a0_12 a1 a2 := by kernel_rfl
/- impl.XorOf -/
def impl_XorOf_L1 (k : Nat) (a0 : List (List T)) (G1 : (Int × Int) → Option Outs) : (Int × Int) → Option Outs := fun (v15, v16) =>
 bif (decide (v16 < (a0.length : Int))) then
  chk (decide (0 ≤ v16) && decide (v16 < (a0.length : Int))) <|
  G1 ((bitsXor .i64 v15 (at_ a0 v16.toNat 0).asI), (IntKind.wrap .i64 (v16 + 1)))
 else
  some ⟨[.i v15], []⟩
def impl_XorOf_k1 : List Nat := [2, 3, 6, 7, 8, 16]
def impl_XorOf_S1 (a0 : List (List T)) : (Int × Int) → St := fun (v15, v16) => ⟨ofSl [(2, .i .i64 0), (3, .i .i64 v15), (6, .sl 3 a0), (7, .i .i64 (a0.length : Int)), (8, .i .i64 v16), (16, .skip)], ofMem []⟩
def impl_XorOf_l1 (k : Nat) (a0 : List (List T)) (G1 : (Int × Int) → Option Outs) : (Int × Int) → Option Outs :=
  impl_XorOf_L1 k a0 G1
def impl_XorOf_U (k : Nat) (a0 : List (List T)) (R1 : (Int × Int) → Option Outs) : Option Outs :=
 R1 (0, 0)
def impl_XorOf_u (k : Nat) (a0 : List (List T)) : Option Outs :=
  impl_XorOf_U k a0 (fun v => fixN (impl_XorOf_l1 k a0) k v)
def impl_XorOf_it1 (k : Nat) (a0 : List (List T)) (js : List Nat) (j : Nat) (s : St) : Option Outs := iter E (LB E (evalF E P0 k) k [] N.impl_XorOf [.sr, .sr, .sl, .sr, .bl]) [] impl_XorOf_k1 (LK E (evalF E P0 k) k [] N.impl_XorOf [.v [.r a0]] [.sr, .sr, .sl, .sr, .bl] js) j s
theorem impl_XorOf_e (k : Nat) (a0 : List (List T)) : evalF E P0 (k + 1) N.impl_XorOf [.v [.r a0]] = impl_XorOf_u k a0 := by
  have e0 : evalF E P0 (k + 1) N.impl_XorOf [.v [.r a0]] = impl_XorOf_U k a0 (fun v => impl_XorOf_it1 k a0 [] k (impl_XorOf_S1 a0 v)) := by kernel_rfl
  have e1 : ∀ (j1 : Nat) (v : Int × Int), impl_XorOf_it1 k a0 [] (j1 + 1) (impl_XorOf_S1 a0 v) = impl_XorOf_L1 k a0 (fun v => impl_XorOf_it1 k a0 [] j1 (impl_XorOf_S1 a0 v)) v := by
    intro j1 v; kernel_rfl
  have i1 : ∀ (j1 : Nat) (v : Int × Int), impl_XorOf_it1 k a0 [] j1 (impl_XorOf_S1 a0 v) = fixN (impl_XorOf_l1 k a0) j1 v := by
    intro j1 v
    refine iter_fix (impl_XorOf_S1 a0) (impl_XorOf_l1 k a0) (fun j1 v => (e1 j1 v).trans ?_) j1 v
    unfold impl_XorOf_l1
    rfl
  rw [e0]; unfold impl_XorOf_u
  simp only [i1]
/- impl.MissingWord -/
def impl_MissingWord_u (k : Nat) (a0 : List (List T)) (a1 : Int) : Option Outs :=
 bindO (evalF E P0 k N.impl_XorOf [.v [.r a0]]) fun o2 =>
 bindO (evalF E P0 k N.impl_within [.v [.i a1], .v [.i 0], .v [.i (IntKind.wrap .i64 ((a0.length : Int) - 1))]]) fun o4 =>
 bif (o4.t 0).asB then
  chk (decide (0 ≤ a1) && decide (a1 < (a0.length : Int))) <|
  some ⟨[.i (bitsXor .i64 (o2.t 0).asI (at_ a0 a1.toNat 0).asI)], []⟩
 else
  some ⟨[.i (o2.t 0).asI], []⟩
theorem impl_MissingWord_e (k : Nat) (a0 : List (List T)) (a1 : Int) : evalF E P0 (k + 1) N.impl_MissingWord [.v [.r a0], .v [.i a1]] = impl_MissingWord_u k a0 a1 := by kernel_rfl
/- impl.Words -/
def impl_Words_J2 (k : Nat) (o99 : Outs) (v15 : Int) (v16 : Int) (w8 : List (List T)) (G1 : (Int × Int × List (List T)) → Option Outs) (c33 : Bool) : Option Outs :=
 bif c33 then
  some ⟨[.r [], .b false], []⟩
 else
  bif (!(o99.t 1).asB) then
   chk (decide ((w8.length + ([[.i (o99.t 0).asI]] : List (List T)).length) * 8 ≤ 140737488355328)) <|
   G1 (v16, (IntKind.wrap .i64 (v16 + 1)), (w8 ++ [[.i (o99.t 0).asI]]))
  else
   chk (decide ((w8.length + ([[.i (o99.t 0).asI]] : List (List T)).length) * 8 ≤ 140737488355328)) <|
   G1 (v15, (IntKind.wrap .i64 (v16 + 1)), (w8 ++ [[.i (o99.t 0).asI]]))
def impl_Words_L1 (k : Nat) (a0_0 : Int) (a0_1 : Int) (a0_2 : Int) (a0_3 : List (List T)) (a0_4 : Int) (a0_5 : Int) (a0_6 : Int) (a0_7 : Int) (a0_8 : Int) (a0_9 : List (List T)) (a0_10 : Int) (a0_11 : Bool) (a0_12 : Bool) (a1 : Int) (G1 : (Int × Int × List (List T)) → Option Outs) : (Int × Int × List (List T)) → Option Outs := fun (v15, v16, w8) =>
 bif (decide (v16 < (a0_3.length : Int))) then
  bindO (evalF E P0 k N.impl_wordAt [.v [.i a0_0, .i a0_1, .i a0_2, .r a0_3, .i a0_4, .i a0_5, .i a0_6, .i a0_7, .i a0_8, .r a0_9, .i a0_10, .b a0_11, .b a0_12], .v [.i v16], .v [.i a1]]) fun o99 =>
  bif (!(o99.t 1).asB) then
   impl_Words_J2 k o99 v15 v16 w8 G1 (decide (v15 ≥ 0))
  else
   impl_Words_J2 k o99 v15 v16 w8 G1 false
 else
  bif (decide (v15 ≥ 0)) then
   bindO (evalF E P0 k N.impl_MissingWord [.v [.r w8], .v [.i v15]]) fun o101 =>
   chk (decide (0 ≤ v15) && decide (v15 < (w8.length : Int))) <|
   some ⟨[.r (put_ w8 v15.toNat 0 [.i (o101.t 0).asI]), .b true], []⟩
  else
   some ⟨[.r w8, .b true], []⟩
def impl_Words_k1 : List Nat := [1, 2, 4, 5, 6, 7, 28, 29, 53, 54, 55, 56, 57, 58, 59, 60, 61]
def impl_Words_S1 (a0_0 : Int) (a0_1 : Int) (a0_2 : Int) (a0_3 : List (List T)) (a0_4 : Int) (a0_5 : Int) (a0_6 : Int) (a0_7 : Int) (a0_8 : Int) (a0_9 : List (List T)) (a0_10 : Int) (a0_11 : Bool) (a0_12 : Bool) (a1 : Int) : (Int × Int × List (List T)) → St := fun (v15, v16, w8) => ⟨ofSl [(1, .i .i64 a1), (2, .ptr (2, 0) 0), (4, .ref (4, 0)), (5, .b false), (6, .ref (6, 0)), (7, .i .i64 v15), (28, .i .i64 (a0_3.length : Int)), (29, .i .i64 v16), (53, .skip), (54, .skip), (55, .skip), (56, .skip), (57, .skip), (58, .skip), (59, .skip), (60, .skip), (61, .skip)], ofMem [((2, 0), .var [.i .i64 a0_0, .i .i64 a0_1, .i .i64 a0_2, .sl 139 a0_3, .i .i64 a0_4, .i .i64 a0_5, .i .i64 a0_6, .i .i64 a0_7, .i .i64 a0_8, .sl 166 a0_9, .i .i64 a0_10, .b a0_11, .b a0_12]), ((4, 0), .row 3 true []), ((6, 0), .row 3 true w8)]⟩
def impl_Words_J1 (k : Nat) (R1 : (Int × Int × List (List T)) → Option Outs) (c1 : Bool) : Option Outs :=
 bif c1 then some ⟨[.r [], .b false], []⟩ else R1 ((-1), 0, [])
def impl_Words_l1 (k : Nat) (a0_0 : Int) (a0_1 : Int) (a0_2 : Int) (a0_3 : List (List T)) (a0_4 : Int) (a0_5 : Int) (a0_6 : Int) (a0_7 : Int) (a0_8 : Int) (a0_9 : List (List T)) (a0_10 : Int) (a0_11 : Bool) (a0_12 : Bool) (a1 : Int) (G1 : (Int × Int × List (List T)) → Option Outs) : (Int × Int × List (List T)) → Option Outs :=
  impl_Words_L1 k a0_0 a0_1 a0_2 a0_3 a0_4 a0_5 a0_6 a0_7 a0_8 a0_9 a0_10 a0_11 a0_12 a1 G1
def impl_Words_U (k : Nat) (a0_0 : Int) (a0_1 : Int) (a0_2 : Int) (a0_3 : List (List T)) (a0_4 : Int) (a0_5 : Int) (a0_6 : Int) (a0_7 : Int) (a0_8 : Int) (a0_9 : List (List T)) (a0_10 : Int) (a0_11 : Bool) (a0_12 : Bool) (a1 : Int) (R1 : (Int × Int × List (List T)) → Option Outs) : Option Outs :=
 bindO (evalF E P0 k N.impl_ArrOk [.v [.i a0_0, .i a0_1, .i a0_2, .r a0_3, .i a0_4, .i a0_5, .i a0_6, .i a0_7, .i a0_8, .r a0_9, .i a0_10, .b a0_11, .b a0_12]]) fun o3 =>
 bif (!(o3.t 0).asB) then
  impl_Words_J1 k R1 true
 else
  bif a0_12 then
   impl_Words_J1 k R1 true
  else
   bindO (evalF E P0 k N.impl_hasStripe [.v [.i a0_1, .i a0_2], .v [.i a1]]) fun o102 =>
   impl_Words_J1 k R1 (!(o102.t 0).asB)
def impl_Words_u (k : Nat) (a0_0 : Int) (a0_1 : Int) (a0_2 : Int) (a0_3 : List (List T)) (a0_4 : Int) (a0_5 : Int) (a0_6 : Int) (a0_7 : Int) (a0_8 : Int) (a0_9 : List (List T)) (a0_10 : Int) (a0_11 : Bool) (a0_12 : Bool) (a1 : Int) : Option Outs :=
  impl_Words_U k a0_0 a0_1 a0_2 a0_3 a0_4 a0_5 a0_6 a0_7 a0_8 a0_9 a0_10 a0_11 a0_12 a1 (fun v => fixN (impl_Words_l1 k a0_0 a0_1 a0_2 a0_3 a0_4 a0_5 a0_6 a0_7 a0_8 a0_9 a0_10 a0_11 a0_12 a1) k v)
def impl_Words_it1 (k : Nat) (a0_0 : Int) (a0_1 : Int) (a0_2 : Int) (a0_3 : List (List T)) (a0_4 : Int) (a0_5 : Int) (a0_6 : Int) (a0_7 : Int) (a0_8 : Int) (a0_9 : List (List T)) (a0_10 : Int) (a0_11 : Bool) (a0_12 : Bool) (a1 : Int) (js : List Nat) (j : Nat) (s : St) : Option Outs := iter E (LB E (evalF E P0 k) k [] N.impl_Words [.sr, .sr, .sr, .sr, .sl, .sr, .bl]) [] impl_Words_k1 (LK E (evalF E P0 k) k [] N.impl_Words [.v [.i a0_0, .i a0_1, .i a0_2, .r a0_3, .i a0_4, .i a0_5, .i a0_6, .i a0_7, .i a0_8, .r a0_9, .i a0_10, .b a0_11, .b a0_12], .v [.i a1]] [.sr, .sr, .sr, .sr, .sl, .sr, .bl] js) j s
theorem impl_Words_e (k : Nat) (a0_0 : Int) (a0_1 : Int) (a0_2 : Int) (a0_3 : List (List T)) (a0_4 : Int) (a0_5 : Int) (a0_6 : Int) (a0_7 : Int) (a0_8 : Int) (a0_9 : List (List T)) (a0_10 : Int) (a0_11 : Bool) (a0_12 : Bool) (a1 : Int) : evalF E P0 (k + 1) N.impl_Words [.v [.i a0_0, .i a0_1, .i a0_2, .r a0_3, .i a0_4, .i a0_5, .i a0_6, .i a0_7, .i a0_8, .r a0_9, .i a0_10, .b a0_11, .b a0_12], .v [.i a1]] = impl_Words_u k a0_0 a0_1 a0_2 a0_3 a0_4 a0_5 a0_6 a0_7 a0_8 a0_9 a0_10 a0_11 a0_12 a1 := by
  have e0 : evalF E P0 (k + 1) N.impl_Words [.v [.i a0_0, .i a0_1, .i a0_2, .r a0_3, .i a0_4, .i a0_5, .i a0_6, .i a0_7, .i a0_8, .r a0_9, .i a0_10, .b a0_11, .b a0_12], .v [.i a1]] = impl_Words_U k a0_0 a0_1 a0_2 a0_3 a0_4 a0_5 a0_6 a0_7 a0_8 a0_9 a0_10 a0_11 a0_12 a1 (fun v => impl_Words_it1 k a0_0 a0_1 a0_2 a0_3 a0_4 a0_5 a0_6 a0_7 a0_8 a0_9 a0_10 a0_11 a0_12 a1 [] k (impl_Words_S1 a0_0 a0_1 a0_2 a0_3 a0_4 a0_5 a0_6 a0_7 a0_8 a0_9 a0_10 a0_11 a0_12 a1 v)) := by kernel_rfl
  have e1 : ∀ (j1 : Nat) (v : Int × Int × List (List T)), impl_Words_it1 k a0_0 a0_1 a0_2 a0_3 a0_4 a0_5 a0_6 a0_7 a0_8 a0_9 a0_10 a0_11 a0_12 a1 [] (j1 + 1) (impl_Words_S1 a0_0 a0_1 a0_2 a0_3 a0_4 a0_5 a0_6 a0_7 a0_8 a0_9 a0_10 a0_11 a0_12 a1 v) = impl_Words_L1 k a0_0 a0_1 a0_2 a0_3 a0_4 a0_5 a0_6 a0_7 a0_8 a0_9 a0_10 a0_11 a0_12 a1 (fun v => impl_Words_it1 k a0_0 a0_1 a0_2 a0_3 a0_4 a0_5 a0_6 a0_7 a0_8 a0_9 a0_10 a0_11 a0_12 a1 [] j1 (impl_Words_S1 a0_0 a0_1 a0_2 a0_3 a0_4 a0_5 a0_6 a0_7 a0_8 a0_9 a0_10 a0_11 a0_12 a1 v)) v := by
    intro j1 v; kernel_rfl
  have i1 : ∀ (j1 : Nat) (v : Int × Int × List (List T)), impl_Words_it1 k a0_0 a0_1 a0_2 a0_3 a0_4 a0_5 a0_6 a0_7 a0_8 a0_9 a0_10 a0_11 a0_12 a1 [] j1 (impl_Words_S1 a0_0 a0_1 a0_2 a0_3 a0_4 a0_5 a0_6 a0_7 a0_8 a0_9 a0_10 a0_11 a0_12 a1 v) = fixN (impl_Words_l1 k a0_0 a0_1 a0_2 a0_3 a0_4 a0_5 a0_6 a0_7 a0_8 a0_9 a0_10 a0_11 a0_12 a1) j1 v := by
    intro j1 v
    refine iter_fix (impl_Words_S1 a0_0 a0_1 a0_2 a0_3 a0_4 a0_5 a0_6 a0_7 a0_8 a0_9 a0_10 a0_11 a0_12 a1) (impl_Words_l1 k a0_0 a0_1 a0_2 a0_3 a0_4 a0_5 a0_6 a0_7 a0_8 a0_9 a0_10 a0_11 a0_12 a1) (fun j1 v => (e1 j1 v).trans ?_) j1 v
    unfold impl_Words_l1
    rfl
  rw [e0]; unfold impl_Words_u
  simp only [i1]
/- impl.ParityOf -/
def impl_ParityOf_u (k : Nat) (a0_0 : Int) (a0_1 : Int) (a1 : Int) : Option Outs :=
 bindO (evalF E P0 k N.impl_hasStripe [.v [.i a0_0, .i a0_1], .v [.i a1]]) fun o2 =>
 bif (!(o2.t 0).asB) then
  some ⟨[.i (-1)], []⟩
 else
  chk (!decide (a0_0 = 0)) <|
  some ⟨[.i (IntKind.wrap .i64 ((IntKind.wrap .i64 (a0_0 - 1)) - (Int.tmod a1 a0_0)))], []⟩
theorem impl_ParityOf_e (k : Nat) (a0_0 : Int) (a0_1 : Int) (a1 : Int) : evalF E P0 (k + 1) N.impl_ParityOf [.v [.i a0_0, .i a0_1], .v [.i a1]] = impl_ParityOf_u k a0_0 a0_1 a1 := by kernel_rfl
/- impl.DiskOf -/
def impl_DiskOf_u (k : Nat) (a0_0 : Int) (a0_1 : Int) (a1 : Int) (a2 : Int) : Option Outs :=
 bindO (evalF E P0 k N.impl_hasStripe [.v [.i a0_0, .i a0_1], .v [.i a1]]) fun o3 =>
 bif (!(o3.t 0).asB) then
  some ⟨[.i (-1)], []⟩
 else
  bindO (evalF E P0 k N.impl_within [.v [.i a2], .v [.i 0], .v [.i (IntKind.wrap .i64 (a0_0 - 2))]]) fun o6 =>
  bif (!(o6.t 0).asB) then
   some ⟨[.i (-1)], []⟩
  else
   bindO (evalF E P0 k N.impl_ParityOf [.v [.i a0_0, .i a0_1], .v [.i a1]]) fun o8 =>
   chk (!decide (a0_0 = 0)) <|
   some ⟨[.i (Int.tmod (IntKind.wrap .i64 ((IntKind.wrap .i64 ((o8.t 0).asI + 1)) + a2)) a0_0)], []⟩
theorem impl_DiskOf_e (k : Nat) (a0_0 : Int) (a0_1 : Int) (a1 : Int) (a2 : Int) : evalF E P0 (k + 1) N.impl_DiskOf [.v [.i a0_0, .i a0_1], .v [.i a1], .v [.i a2]] = impl_DiskOf_u k a0_0 a0_1 a1 a2 := by kernel_rfl
/- impl.DataOf -/
def impl_DataOf_L1 (k : Nat) (a0_0 : Int) (a0_1 : Int) (a0_2 : Int) (a0_3 : List (List T)) (a0_4 : Int) (a0_5 : Int) (a0_6 : Int) (a0_7 : Int) (a0_8 : Int) (a0_9 : List (List T)) (a0_10 : Int) (a0_11 : Bool) (a0_12 : Bool) (a1 : Int) (o2 : Outs) (p12 : Int) (G1 : (Int × List (List T)) → Option Outs) : (Int × List (List T)) → Option Outs := fun (v8, w8) =>
 bif (decide (v8 < p12)) then
  bindO (evalF E P0 k N.impl_DiskOf [.v [.i a0_1, .i a0_2], .v [.i a1], .v [.i v8]]) fun o50 =>
  chk (decide (0 ≤ (o50.t 0).asI) && decide ((o50.t 0).asI < ((o2.t 0).asR.length : Int))) <|
  chk (decide ((w8.length + ([[.i (at_ (o2.t 0).asR (o50.t 0).asI.toNat 0).asI]] : List (List T)).length) * 8 ≤ 140737488355328)) <|
  G1 ((IntKind.wrap .i64 (v8 + 1)), (w8 ++ [[.i (at_ (o2.t 0).asR (o50.t 0).asI.toNat 0).asI]]))
 else
  some ⟨[.r w8, .b true], []⟩
def impl_DataOf_k1 : List Nat := [1, 2, 4, 5, 6, 8, 22, 23, 38]
def impl_DataOf_S1 (a0_0 : Int) (a0_1 : Int) (a0_2 : Int) (a0_3 : List (List T)) (a0_4 : Int) (a0_5 : Int) (a0_6 : Int) (a0_7 : Int) (a0_8 : Int) (a0_9 : List (List T)) (a0_10 : Int) (a0_11 : Bool) (a0_12 : Bool) (a1 : Int) (o2 : Outs) (p12 : Int) : (Int × List (List T)) → St := fun (v8, w8) => ⟨ofSl [(1, .i .i64 a1), (2, .ptr (2, 0) 0), (4, .ref (4, 0)), (5, .b false), (6, .ref (6, 0)), (8, .ref (8, 0)), (22, .i .i64 p12), (23, .i .i64 v8), (38, .skip)], ofMem [((2, 0), .var [.i .i64 a0_0, .i .i64 a0_1, .i .i64 a0_2, .sl 139 a0_3, .i .i64 a0_4, .i .i64 a0_5, .i .i64 a0_6, .i .i64 a0_7, .i .i64 a0_8, .sl 166 a0_9, .i .i64 a0_10, .b a0_11, .b a0_12]), ((4, 0), .row 3 true []), ((6, 0), .row 3 true (o2.t 0).asR), ((8, 0), .row 3 true w8)]⟩
def impl_DataOf_l1 (k : Nat) (a0_0 : Int) (a0_1 : Int) (a0_2 : Int) (a0_3 : List (List T)) (a0_4 : Int) (a0_5 : Int) (a0_6 : Int) (a0_7 : Int) (a0_8 : Int) (a0_9 : List (List T)) (a0_10 : Int) (a0_11 : Bool) (a0_12 : Bool) (a1 : Int) (o2 : Outs) (p12 : Int) (G1 : (Int × List (List T)) → Option Outs) : (Int × List (List T)) → Option Outs :=
  impl_DataOf_L1 k a0_0 a0_1 a0_2 a0_3 a0_4 a0_5 a0_6 a0_7 a0_8 a0_9 a0_10 a0_11 a0_12 a1 o2 p12 G1
def impl_DataOf_U (k : Nat) (a0_0 : Int) (a0_1 : Int) (a0_2 : Int) (a0_3 : List (List T)) (a0_4 : Int) (a0_5 : Int) (a0_6 : Int) (a0_7 : Int) (a0_8 : Int) (a0_9 : List (List T)) (a0_10 : Int) (a0_11 : Bool) (a0_12 : Bool) (a1 : Int) (R1 : Outs → Int → (Int × List (List T)) → Option Outs) : Option Outs :=
 bindO (evalF E P0 k N.impl_Words [.v [.i a0_0, .i a0_1, .i a0_2, .r a0_3, .i a0_4, .i a0_5, .i a0_6, .i a0_7, .i a0_8, .r a0_9, .i a0_10, .b a0_11, .b a0_12], .v [.i a1]]) fun o2 =>
 bif (!(o2.t 1).asB) then some ⟨[.r [], .b false], []⟩ else R1 o2 (IntKind.wrap .i64 (a0_1 - 1)) (0, [])
def impl_DataOf_u (k : Nat) (a0_0 : Int) (a0_1 : Int) (a0_2 : Int) (a0_3 : List (List T)) (a0_4 : Int) (a0_5 : Int) (a0_6 : Int) (a0_7 : Int) (a0_8 : Int) (a0_9 : List (List T)) (a0_10 : Int) (a0_11 : Bool) (a0_12 : Bool) (a1 : Int) : Option Outs :=
  impl_DataOf_U k a0_0 a0_1 a0_2 a0_3 a0_4 a0_5 a0_6 a0_7 a0_8 a0_9 a0_10 a0_11 a0_12 a1 (fun y0 y1 v => fixN (impl_DataOf_l1 k a0_0 a0_1 a0_2 a0_3 a0_4 a0_5 a0_6 a0_7 a0_8 a0_9 a0_10 a0_11 a0_12 a1 y0 y1) k v)
def impl_DataOf_it1 (k : Nat) (a0_0 : Int) (a0_1 : Int) (a0_2 : Int) (a0_3 : List (List T)) (a0_4 : Int) (a0_5 : Int) (a0_6 : Int) (a0_7 : Int) (a0_8 : Int) (a0_9 : List (List T)) (a0_10 : Int) (a0_11 : Bool) (a0_12 : Bool) (a1 : Int) (js : List Nat) (j : Nat) (s : St) : Option Outs := iter E (LB E (evalF E P0 k) k [] N.impl_DataOf [.sr, .sr, .sr, .sr, .sl, .sr, .bl]) [] impl_DataOf_k1 (LK E (evalF E P0 k) k [] N.impl_DataOf [.v [.i a0_0, .i a0_1, .i a0_2, .r a0_3, .i a0_4, .i a0_5, .i a0_6, .i a0_7, .i a0_8, .r a0_9, .i a0_10, .b a0_11, .b a0_12], .v [.i a1]] [.sr, .sr, .sr, .sr, .sl, .sr, .bl] js) j s
theorem impl_DataOf_e (k : Nat) (a0_0 : Int) (a0_1 : Int) (a0_2 : Int) (a0_3 : List (List T)) (a0_4 : Int) (a0_5 : Int) (a0_6 : Int) (a0_7 : Int) (a0_8 : Int) (a0_9 : List (List T)) (a0_10 : Int) (a0_11 : Bool) (a0_12 : Bool) (a1 : Int) : evalF E P0 (k + 1) N.impl_DataOf [.v [.i a0_0, .i a0_1, .i a0_2, .r a0_3, .i a0_4, .i a0_5, .i a0_6, .i a0_7, .i a0_8, .r a0_9, .i a0_10, .b a0_11, .b a0_12], .v [.i a1]] = impl_DataOf_u k a0_0 a0_1 a0_2 a0_3 a0_4 a0_5 a0_6 a0_7 a0_8 a0_9 a0_10 a0_11 a0_12 a1 := by
  have e0 : evalF E P0 (k + 1) N.impl_DataOf [.v [.i a0_0, .i a0_1, .i a0_2, .r a0_3, .i a0_4, .i a0_5, .i a0_6, .i a0_7, .i a0_8, .r a0_9, .i a0_10, .b a0_11, .b a0_12], .v [.i a1]] = impl_DataOf_U k a0_0 a0_1 a0_2 a0_3 a0_4 a0_5 a0_6 a0_7 a0_8 a0_9 a0_10 a0_11 a0_12 a1 (fun y0 y1 v => impl_DataOf_it1 k a0_0 a0_1 a0_2 a0_3 a0_4 a0_5 a0_6 a0_7 a0_8 a0_9 a0_10 a0_11 a0_12 a1 [] k (impl_DataOf_S1 a0_0 a0_1 a0_2 a0_3 a0_4 a0_5 a0_6 a0_7 a0_8 a0_9 a0_10 a0_11 a0_12 a1 y0 y1 v)) := by kernel_rfl
  have e1 : ∀ (o2 : Outs) (p12 : Int) (j1 : Nat) (v : Int × List (List T)), impl_DataOf_it1 k a0_0 a0_1 a0_2 a0_3 a0_4 a0_5 a0_6 a0_7 a0_8 a0_9 a0_10 a0_11 a0_12 a1 [] (j1 + 1) (impl_DataOf_S1 a0_0 a0_1 a0_2 a0_3 a0_4 a0_5 a0_6 a0_7 a0_8 a0_9 a0_10 a0_11 a0_12 a1 o2 p12 v) = impl_DataOf_L1 k a0_0 a0_1 a0_2 a0_3 a0_4 a0_5 a0_6 a0_7 a0_8 a0_9 a0_10 a0_11 a0_12 a1 o2 p12 (fun v => impl_DataOf_it1 k a0_0 a0_1 a0_2 a0_3 a0_4 a0_5 a0_6 a0_7 a0_8 a0_9 a0_10 a0_11 a0_12 a1 [] j1 (impl_DataOf_S1 a0_0 a0_1 a0_2 a0_3 a0_4 a0_5 a0_6 a0_7 a0_8 a0_9 a0_10 a0_11 a0_12 a1 o2 p12 v)) v := by
    intro o2 p12 j1 v; kernel_rfl
  have i1 : ∀ (o2 : Outs) (p12 : Int) (j1 : Nat) (v : Int × List (List T)), impl_DataOf_it1 k a0_0 a0_1 a0_2 a0_3 a0_4 a0_5 a0_6 a0_7 a0_8 a0_9 a0_10 a0_11 a0_12 a1 [] j1 (impl_DataOf_S1 a0_0 a0_1 a0_2 a0_3 a0_4 a0_5 a0_6 a0_7 a0_8 a0_9 a0_10 a0_11 a0_12 a1 o2 p12 v) = fixN (impl_DataOf_l1 k a0_0 a0_1 a0_2 a0_3 a0_4 a0_5 a0_6 a0_7 a0_8 a0_9 a0_10 a0_11 a0_12 a1 o2 p12) j1 v := by
    intro o2 p12 j1 v
    refine iter_fix (impl_DataOf_S1 a0_0 a0_1 a0_2 a0_3 a0_4 a0_5 a0_6 a0_7 a0_8 a0_9 a0_10 a0_11 a0_12 a1 o2 p12) (impl_DataOf_l1 k a0_0 a0_1 a0_2 a0_3 a0_4 a0_5 a0_6 a0_7 a0_8 a0_9 a0_10 a0_11 a0_12 a1 o2 p12) (fun j1 v => (e1 o2 p12 j1 v).trans ?_) j1 v
    unfold impl_DataOf_l1
    rfl
  rw [e0]; unfold impl_DataOf_u
  simp only [i1]
/- impl.dataNow -/
def impl_dataNow_u (k : Nat) (a0_0 : Int) (a0_1 : Int) (a0_2 : Int) (a0_3 : List (List T)) (a0_4 : Int) (a0_5 : Int) (a0_6 : Int) (a0_7 : Int) (a0_8 : Int) (a0_9 : List (List T)) (a0_10 : Int) (a0_11 : Bool) (a0_12 : Bool) (a1 : Int) : Option Outs :=
 bindO (evalF E P0 k N.impl_entOf [.v [.i a0_0, .i a0_1, .i a0_2, .r a0_3, .i a0_4, .i a0_5, .i a0_6, .i a0_7, .i a0_8, .r a0_9, .i a0_10, .b a0_11, .b a0_12], .v [.i a1]]) fun o2 =>
 bif (decide ((o2.t 0).asI ≥ 0)) then
  chk (decide (0 ≤ (o2.t 0).asI) && decide ((o2.t 0).asI < (a0_9.length : Int))) <|
  bindO (evalF E P0 k N.impl_copyInts [.v [.r (at_ a0_9 (o2.t 0).asI.toNat 1).asR]]) fun o6 =>
  some ⟨[.r (o6.t 0).asR, .b true], []⟩
 else
  bindO (evalF E P0 k N.impl_DataOf [.v [.i a0_0, .i a0_1, .i a0_2, .r a0_3, .i a0_4, .i a0_5, .i a0_6, .i a0_7, .i a0_8, .r a0_9, .i a0_10, .b a0_11, .b a0_12], .v [.i a1]]) fun o8 =>
  some ⟨[.r (o8.t 0).asR, .b (o8.t 1).asB], []⟩
theorem impl_dataNow_e (k : Nat) (a0_0 : Int) (a0_1 : Int) (a0_2 : Int) (a0_3 : List (List T)) (a0_4 : Int) (a0_5 : Int) (a0_6 : Int) (a0_7 : Int) (a0_8 : Int) (a0_9 : List (List T)) (a0_10 : Int) (a0_11 : Bool) (a0_12 : Bool) (a1 : Int) : evalF E P0 (k + 1) N.impl_dataNow [.v [.i a0_0, .i a0_1, .i a0_2, .r a0_3, .i a0_4, .i a0_5, .i a0_6, .i a0_7, .i a0_8, .r a0_9, .i a0_10, .b a0_11, .b a0_12], .v [.i a1]] = impl_dataNow_u k a0_0 a0_1 a0_2 a0_3 a0_4 a0_5 a0_6 a0_7 a0_8 a0_9 a0_10 a0_11 a0_12 a1 := by kernel_rfl
/- impl.IndexOf -/
def impl_IndexOf_u (k : Nat) (a0_0 : Int) (a0_1 : Int) (a1 : Int) : Option Outs :=
 bindO (evalF E P0 k N.impl_hasBlock [.v [.i a0_0, .i a0_1], .v [.i a1]]) fun o2 =>
 bif (!(o2.t 0).asB) then
  some ⟨[.i (-1)], []⟩
 else
  chk (!decide ((IntKind.wrap .i64 (a0_0 - 1)) = 0)) <|
  some ⟨[.i (Int.tmod a1 (IntKind.wrap .i64 (a0_0 - 1)))], []⟩
theorem impl_IndexOf_e (k : Nat) (a0_0 : Int) (a0_1 : Int) (a1 : Int) : evalF E P0 (k + 1) N.impl_IndexOf [.v [.i a0_0, .i a0_1], .v [.i a1]] = impl_IndexOf_u k a0_0 a0_1 a1 := by kernel_rfl
/- impl.GetBlock -/
def impl_GetBlock_u (k : Nat) (a0_0 : Int) (a0_1 : Int) (a0_2 : Int) (a0_3 : List (List T)) (a0_4 : Int) (a0_5 : Int) (a0_6 : Int) (a0_7 : Int) (a0_8 : Int) (a0_9 : List (List T)) (a0_10 : Int) (a0_11 : Bool) (a0_12 : Bool) (a1 : Int) : Option Outs :=
 bindO (evalF E P0 k N.impl_blockCode [.v [.i a0_0, .i a0_1, .i a0_2, .r a0_3, .i a0_4, .i a0_5, .i a0_6, .i a0_7, .i a0_8, .r a0_9, .i a0_10, .b a0_11, .b a0_12], .v [.i a1]]) fun o2 =>
 bif ((o2.t 0).asI != 0) then
  some ⟨[.i 0, .i (o2.t 0).asI], []⟩
 else
  bindO (evalF E P0 k N.impl_StripeOf [.v [.i a0_1, .i a0_2], .v [.i a1]]) fun o5 =>
  bindO (evalF E P0 k N.impl_dataNow [.v [.i a0_0, .i a0_1, .i a0_2, .r a0_3, .i a0_4, .i a0_5, .i a0_6, .i a0_7, .i a0_8, .r a0_9, .i a0_10, .b a0_11, .b a0_12], .v [.i (o5.t 0).asI]]) fun o6 =>
  bif (!(o6.t 1).asB) then
   some ⟨[.i 0, .i 5], []⟩
  else
   bindO (evalF E P0 k N.impl_IndexOf [.v [.i a0_1, .i a0_2], .v [.i a1]]) fun o8 =>
   chk (decide (0 ≤ (o8.t 0).asI) && decide ((o8.t 0).asI < ((o6.t 0).asR.length : Int))) <|
   some ⟨[.i (at_ (o6.t 0).asR (o8.t 0).asI.toNat 0).asI, .i 0], []⟩
theorem impl_GetBlock_e (k : Nat) (a0_0 : Int) (a0_1 : Int) (a0_2 : Int) (a0_3 : List (List T)) (a0_4 : Int) (a0_5 : Int) (a0_6 : Int) (a0_7 : Int) (a0_8 : Int) (a0_9 : List (List T)) (a0_10 : Int) (a0_11 : Bool) (a0_12 : Bool) (a1 : Int) : evalF E P0 (k + 1) N.impl_GetBlock [.v [.i a0_0, .i a0_1, .i a0_2, .r a0_3, .i a0_4, .i a0_5, .i a0_6, .i a0_7, .i a0_8, .r a0_9, .i a0_10, .b a0_11, .b a0_12], .v [.i a1]] = impl_GetBlock_u k a0_0 a0_1 a0_2 a0_3 a0_4 a0_5 a0_6 a0_7 a0_8 a0_9 a0_10 a0_11 a0_12 a1 := by kernel_rfl
/- (*impl.Arr).op -/
def impl_Arr_op_u (k : Nat) (a0_0 : Int) (a0_1 : Int) (a0_2 : Int) (a0_3 : List (List T)) (a0_4 : Int) (a0_5 : Int) (a0_6 : Int) (a0_7 : Int) (a0_8 : Int) (a0_9 : List (List T)) (a0_10 : Int) (a0_11 : Bool) (a0_12 : Bool) : Option Outs :=
 bif (a0_10 == 0) then
  some ⟨[.b false], [[.i a0_0, .i a0_1, .i a0_2, .r a0_3, .i a0_4, .i a0_5, .i a0_6, .i a0_7, .i a0_8, .r a0_9, .i (-1), .b true, .b a0_12]]⟩
 else
  bif (decide (a0_10 > 0)) then
   some ⟨[.b true], [[.i a0_0, .i a0_1, .i a0_2, .r a0_3, .i a0_4, .i a0_5, .i a0_6, .i a0_7, .i a0_8, .r a0_9, .i (IntKind.wrap .i64 (a0_10 - 1)), .b a0_11, .b a0_12]]⟩
  else
   some ⟨[.b true], [[.i a0_0, .i a0_1, .i a0_2, .r a0_3, .i a0_4, .i a0_5, .i a0_6, .i a0_7, .i a0_8, .r a0_9, .i a0_10, .b a0_11, .b a0_12]]⟩
theorem impl_Arr_op_e (k : Nat) (a0_0 : Int) (a0_1 : Int) (a0_2 : Int) (a0_3 : List (List T)) (a0_4 : Int) (a0_5 : Int) (a0_6 : Int) (a0_7 : Int) (a0_8 : Int) (a0_9 : List (List T)) (a0_10 : Int) (a0_11 : Bool) (a0_12 : Bool) : evalF E P0 (k + 1) N.impl_Arr_op [.p [.i a0_0, .i a0_1, .i a0_2, .r a0_3, .i a0_4, .i a0_5, .i a0_6, .i a0_7, .i a0_8, .r a0_9, .i a0_10, .b a0_11, .b a0_12]] = impl_Arr_op_u k a0_0 a0_1 a0_2 a0_3 a0_4 a0_5 a0_6 a0_7 a0_8 a0_9 a0_10 a0_11 a0_12 := by kernel_rfl
/- (*impl.Arr).sync -/
def impl_Arr_sync_L1 (k : Nat) (a0_3 : List (List T)) (G1 : (Int × Int × Int × Int × Int × Int × Int × Int × Int × Int × Bool × Bool × List (List T) × List (List T)) → Option Outs) : (Int × Int × Int × Int × Int × Int × Int × Int × Int × Int × Bool × Bool × List (List T) × List (List T)) → Option Outs := fun (v71, v72, v73, v74, v75, v76, v77, v78, v79, v80, d15, d16, w15, w16) =>
 bif (decide (v71 < (a0_3.length : Int))) then
  chk (decide (0 ≤ v71) && decide (v71 < (w15.length : Int))) <|
  bif (at_ w15 v71.toNat 2).asB then
   G1 ((IntKind.wrap .i64 (v71 + 1)), v72, v73, v74, v75, v76, v77, v78, v79, v80, d15, d16, w15, w16)
  else
   bindO (evalF E P0 k N.impl_Arr_op [.p [.i v72, .i v73, .i v74, .r w15, .i v75, .i v76, .i v77, .i v78, .i v79, .r w16, .i v80, .b d15, .b d16]]) fun o143 =>
   bif (!(o143.t 0).asB) then
    some ⟨[.b false], [[.i (o143.vt 0 0).asI, .i (o143.vt 0 1).asI, .i (o143.vt 0 2).asI, .r (o143.vt 0 3).asR, .i (o143.vt 0 4).asI, .i (o143.vt 0 5).asI, .i (o143.vt 0 6).asI, .i (o143.vt 0 7).asI, .i (o143.vt 0 8).asI, .r (o143.vt 0 9).asR, .i (o143.vt 0 10).asI, .b (o143.vt 0 11).asB, .b (o143.vt 0 12).asB]]⟩
   else
    chk (decide (0 ≤ v71) && decide (v71 < ((o143.vt 0 3).asR.length : Int))) <|
    bindO (evalF E P0 k N.impl_FlushMem [.v [.r (at_ (o143.vt 0 3).asR v71.toNat 0).asR, .r (at_ (o143.vt 0 3).asR v71.toNat 1).asR, .b (at_ (o143.vt 0 3).asR v71.toNat 2).asB, .r (at_ (o143.vt 0 3).asR v71.toNat 3).asR]]) fun o144 =>
    chk (decide (0 ≤ v71) && decide (v71 < ((o143.vt 0 3).asR.length : Int))) <|
    G1 ((IntKind.wrap .i64 (v71 + 1)), (o143.vt 0 0).asI, (o143.vt 0 1).asI, (o143.vt 0 2).asI, (o143.vt 0 4).asI, (o143.vt 0 5).asI, (o143.vt 0 6).asI, (o143.vt 0 7).asI, (o143.vt 0 8).asI, (o143.vt 0 10).asI, (o143.vt 0 11).asB, (o143.vt 0 12).asB, (put_ (o143.vt 0 3).asR v71.toNat 0 [.r (o144.t 0).asR, .r (o144.t 1).asR, .b (o144.t 2).asB, .r (o144.t 3).asR]), (o143.vt 0 9).asR)
 else
  some ⟨[.b true], [[.i v72, .i v73, .i v74, .r w15, .i v75, .i v76, .i v77, .i v78, .i v79, .r w16, .i v80, .b d15, .b d16]]⟩
def impl_Arr_sync_k1 : List Nat := [0, 2, 8, 9]
def impl_Arr_sync_S1 (a0_3 : List (List T)) : (Int × Int × Int × Int × Int × Int × Int × Int × Int × Int × Bool × Bool × List (List T) × List (List T)) → St := fun (v71, v72, v73, v74, v75, v76, v77, v78, v79, v80, d15, d16, w15, w16) => ⟨ofSl [(0, .ptr (0, 0) 0), (2, .b false), (8, .i .i64 (a0_3.length : Int)), (9, .i .i64 v71)], ofMem [((0, 0), .var [.i .i64 v72, .i .i64 v73, .i .i64 v74, .ref (0, 4), .i .i64 v75, .i .i64 v76, .i .i64 v77, .i .i64 v78, .i .i64 v79, .ref (0, 10), .i .i64 v80, .b d15, .b d16]), ((0, 4), .row 139 true w15), ((0, 10), .row 166 true w16)]⟩
def impl_Arr_sync_l1 (k : Nat) (a0_3 : List (List T)) (G1 : (Int × Int × Int × Int × Int × Int × Int × Int × Int × Int × Bool × Bool × List (List T) × List (List T)) → Option Outs) : (Int × Int × Int × Int × Int × Int × Int × Int × Int × Int × Bool × Bool × List (List T) × List (List T)) → Option Outs :=
  impl_Arr_sync_L1 k a0_3 G1
def impl_Arr_sync_U (k : Nat) (a0_0 : Int) (a0_1 : Int) (a0_2 : Int) (a0_3 : List (List T)) (a0_4 : Int) (a0_5 : Int) (a0_6 : Int) (a0_7 : Int) (a0_8 : Int) (a0_9 : List (List T)) (a0_10 : Int) (a0_11 : Bool) (a0_12 : Bool) (R1 : (Int × Int × Int × Int × Int × Int × Int × Int × Int × Int × Bool × Bool × List (List T) × List (List T)) → Option Outs) : Option Outs :=
 R1 (0, a0_0, a0_1, a0_2, a0_4, a0_5, a0_6, a0_7, a0_8, a0_10, a0_11, a0_12, a0_3, a0_9)
def impl_Arr_sync_u (k : Nat) (a0_0 : Int) (a0_1 : Int) (a0_2 : Int) (a0_3 : List (List T)) (a0_4 : Int) (a0_5 : Int) (a0_6 : Int) (a0_7 : Int) (a0_8 : Int) (a0_9 : List (List T)) (a0_10 : Int) (a0_11 : Bool) (a0_12 : Bool) : Option Outs :=
  impl_Arr_sync_U k a0_0 a0_1 a0_2 a0_3 a0_4 a0_5 a0_6 a0_7 a0_8 a0_9 a0_10 a0_11 a0_12 (fun v => fixN (impl_Arr_sync_l1 k a0_3) k v)
def impl_Arr_sync_it1 (k : Nat) (a0_0 : Int) (a0_1 : Int) (a0_2 : Int) (a0_3 : List (List T)) (a0_4 : Int) (a0_5 : Int) (a0_6 : Int) (a0_7 : Int) (a0_8 : Int) (a0_9 : List (List T)) (a0_10 : Int) (a0_11 : Bool) (a0_12 : Bool) (js : List Nat) (j : Nat) (s : St) : Option Outs := iter E (LB E (evalF E P0 k) k [0] N.impl_Arr_sync [.sr, .sl, .sr, .bl]) [0] impl_Arr_sync_k1 (LK E (evalF E P0 k) k [0] N.impl_Arr_sync [.p [.i a0_0, .i a0_1, .i a0_2, .r a0_3, .i a0_4, .i a0_5, .i a0_6, .i a0_7, .i a0_8, .r a0_9, .i a0_10, .b a0_11, .b a0_12]] [.sr, .sl, .sr, .bl] js) j s
theorem impl_Arr_sync_e (k : Nat) (a0_0 : Int) (a0_1 : Int) (a0_2 : Int) (a0_3 : List (List T)) (a0_4 : Int) (a0_5 : Int) (a0_6 : Int) (a0_7 : Int) (a0_8 : Int) (a0_9 : List (List T)) (a0_10 : Int) (a0_11 : Bool) (a0_12 : Bool) : evalF E P0 (k + 1) N.impl_Arr_sync [.p [.i a0_0, .i a0_1, .i a0_2, .r a0_3, .i a0_4, .i a0_5, .i a0_6, .i a0_7, .i a0_8, .r a0_9, .i a0_10, .b a0_11, .b a0_12]] = impl_Arr_sync_u k a0_0 a0_1 a0_2 a0_3 a0_4 a0_5 a0_6 a0_7 a0_8 a0_9 a0_10 a0_11 a0_12 := by
  have e0 : evalF E P0 (k + 1) N.impl_Arr_sync [.p [.i a0_0, .i a0_1, .i a0_2, .r a0_3, .i a0_4, .i a0_5, .i a0_6, .i a0_7, .i a0_8, .r a0_9, .i a0_10, .b a0_11, .b a0_12]] = impl_Arr_sync_U k a0_0 a0_1 a0_2 a0_3 a0_4 a0_5 a0_6 a0_7 a0_8 a0_9 a0_10 a0_11 a0_12 (fun v => impl_Arr_sync_it1 k a0_0 a0_1 a0_2 a0_3 a0_4 a0_5 a0_6 a0_7 a0_8 a0_9 a0_10 a0_11 a0_12 [] k (impl_Arr_sync_S1 a0_3 v)) := by kernel_rfl
  have e1 : ∀ (j1 : Nat) (v : Int × Int × Int × Int × Int × Int × Int × Int × Int × Int × Bool × Bool × List (List T) × List (List T)), impl_Arr_sync_it1 k a0_0 a0_1 a0_2 a0_3 a0_4 a0_5 a0_6 a0_7 a0_8 a0_9 a0_10 a0_11 a0_12 [] (j1 + 1) (impl_Arr_sync_S1 a0_3 v) = impl_Arr_sync_L1 k a0_3 (fun v => impl_Arr_sync_it1 k a0_0 a0_1 a0_2 a0_3 a0_4 a0_5 a0_6 a0_7 a0_8 a0_9 a0_10 a0_11 a0_12 [] j1 (impl_Arr_sync_S1 a0_3 v)) v := by
    intro j1 v; kernel_rfl
  have i1 : ∀ (j1 : Nat) (v : Int × Int × Int × Int × Int × Int × Int × Int × Int × Int × Bool × Bool × List (List T) × List (List T)), impl_Arr_sync_it1 k a0_0 a0_1 a0_2 a0_3 a0_4 a0_5 a0_6 a0_7 a0_8 a0_9 a0_10 a0_11 a0_12 [] j1 (impl_Arr_sync_S1 a0_3 v) = fixN (impl_Arr_sync_l1 k a0_3) j1 v := by
    intro j1 v
    refine iter_fix (impl_Arr_sync_S1 a0_3) (impl_Arr_sync_l1 k a0_3) (fun j1 v => (e1 j1 v).trans ?_) j1 v
    unfold impl_Arr_sync_l1
    rfl
  rw [e0]; unfold impl_Arr_sync_u
  simp only [i1]
/- impl.SlotOf -/
def impl_SlotOf_u (k : Nat) (a0 : Int) : Option Outs :=
 bif (decide (a0 < 0)) then some ⟨[.i (-1)], []⟩ else some ⟨[.i (IntKind.wrap .i64 (2 + (Int.tmod a0 4)))], []⟩
theorem impl_SlotOf_e (k : Nat) (a0 : Int) : evalF E P0 (k + 1) N.impl_SlotOf [.v [.i a0]] = impl_SlotOf_u k a0 := by kernel_rfl
/- impl.RecOk -/
def impl_RecOk_u (k : Nat) (a0_0 : Int) (a0_1 : Int) (a0_2 : List (List T)) : Option Outs :=
 bindO (evalF E P0 k N.impl_within [.v [.i a0_0], .v [.i 0], .v [.i 60000]]) fun o5 =>
 bif (o5.t 0).asB then
  bindO (evalF E P0 k N.impl_within [.v [.i a0_1], .v [.i 0], .v [.i 7]]) fun o6 =>
  bif (o6.t 0).asB then
   bindO (evalF E P0 k N.impl_within [.v [.i (a0_2.length : Int)], .v [.i 2], .v [.i 4]]) fun o7 =>
   bif (o7.t 0).asB then
    bindO (evalF E P0 k N.impl_wordsOk [.v [.r a0_2]]) fun o8 =>
    some ⟨[.b (o8.t 0).asB], []⟩
   else
    some ⟨[.b false], []⟩
  else
   some ⟨[.b false], []⟩
 else
  some ⟨[.b false], []⟩
theorem impl_RecOk_e (k : Nat) (a0_0 : Int) (a0_1 : Int) (a0_2 : List (List T)) : evalF E P0 (k + 1) N.impl_RecOk [.v [.i a0_0, .i a0_1, .r a0_2]] = impl_RecOk_u k a0_0 a0_1 a0_2 := by kernel_rfl
/- impl.PutRec -/
def impl_PutRec_u (k : Nat) (a0_0 : Int) (a0_1 : Int) (a0_2 : List (List T)) : Option Outs :=
 bindO (evalF E P0 k N.impl_RecOk [.v [.i a0_0, .i a0_1, .r a0_2]]) fun o2 =>
 bif (!(o2.t 0).asB) then
  some ⟨[.r []], []⟩
 else
  chk (decide ((([[.i 21322], [.i a0_0], [.i a0_1], [.i (a0_2.length : Int)]] : List (List T)).length + a0_2.length) * 8 ≤ 140737488355328)) <|
  some ⟨[.r ([[.i 21322], [.i a0_0], [.i a0_1], [.i (a0_2.length : Int)]] ++ a0_2)], []⟩
theorem impl_PutRec_e (k : Nat) (a0_0 : Int) (a0_1 : Int) (a0_2 : List (List T)) : evalF E P0 (k + 1) N.impl_PutRec [.v [.i a0_0, .i a0_1, .r a0_2]] = impl_PutRec_u k a0_0 a0_1 a0_2 := by kernel_rfl
/- impl.ParityWord -/
def impl_ParityWord_u (k : Nat) (a0 : List (List T)) : Option Outs :=
 bindO (evalF E P0 k N.impl_XorOf [.v [.r a0]]) fun o2 =>
 some ⟨[.i (o2.t 0).asI], []⟩
theorem impl_ParityWord_e (k : Nat) (a0 : List (List T)) : evalF E P0 (k + 1) N.impl_ParityWord [.v [.r a0]] = impl_ParityWord_u k a0 := by kernel_rfl
/- impl.goodOr -/
def impl_goodOr_u (k : Nat) (a0 : Bool) : Option Outs :=
 bif a0 then some ⟨[.i 0], []⟩ else some ⟨[.i 6], []⟩
theorem impl_goodOr_e (k : Nat) (a0 : Bool) : evalF E P0 (k + 1) N.impl_goodOr [.v [.b a0]] = impl_goodOr_u k a0 := by kernel_rfl
/- (*impl.Eng).answer -/
def impl_Eng_answer_u (k : Nat) (a0_0 : Int) (a0_1 : Int) (a0_2 : Int) (a0_3 : List (List T)) (a0_4 : Int) (a0_5 : Int) (a0_6 : Int) (a0_7 : Int) (a0_8 : Int) (a0_9 : List (List T)) (a0_10 : Int) (a0_11 : Bool) (a0_12 : Bool) (a0_13 : List (List T)) (a0_14 : List (List T)) (a0_15 : List (List T)) (a0_16 : List (List T)) (a1_0 : Int) (a1_1 : Int) (a1_2 : Int) (a1_3 : Int) (a1_4 : List (List T)) (a2_0 : Int) (a2_1 : Int) (a2_2 : List (List T)) : Option Outs :=
 chk (decide ((a0_15.length + ([[.i a2_0, .i a2_1, .r a2_2]] : List (List T)).length) * 40 ≤ 140737488355328)) <|
 bindO (evalF E P0 k N.impl_copyCmd [.v [.i a1_0, .i a1_1, .i a1_2, .i a1_3, .r a1_4]]) fun o1 =>
 bindO (evalF E P0 k N.impl_copyAns [.v [.i a2_0, .i a2_1, .r a2_2]]) fun o2 =>
 chk (decide ((a0_16.length + ([[.i (o1.t 0).asI, .i (o1.t 1).asI, .i (o1.t 2).asI, .i (o1.t 3).asI, .r (o1.t 4).asR, .i (o2.t 0).asI, .i (o2.t 1).asI, .r (o2.t 2).asR]] : List (List T)).length) * 96 ≤ 140737488355328)) <|
 some ⟨[], [[.i a0_0, .i a0_1, .i a0_2, .r a0_3, .i a0_4, .i a0_5, .i a0_6, .i a0_7, .i a0_8, .r a0_9, .i a0_10, .b a0_11, .b a0_12, .r a0_13, .r a0_14, .r (a0_15 ++ [[.i a2_0, .i a2_1, .r a2_2]]), .r (a0_16 ++ [[.i (o1.t 0).asI, .i (o1.t 1).asI, .i (o1.t 2).asI, .i (o1.t 3).asI, .r (o1.t 4).asR, .i (o2.t 0).asI, .i (o2.t 1).asI, .r (o2.t 2).asR]])]]⟩
theorem impl_Eng_answer_e (k : Nat) (a0_0 : Int) (a0_1 : Int) (a0_2 : Int) (a0_3 : List (List T)) (a0_4 : Int) (a0_5 : Int) (a0_6 : Int) (a0_7 : Int) (a0_8 : Int) (a0_9 : List (List T)) (a0_10 : Int) (a0_11 : Bool) (a0_12 : Bool) (a0_13 : List (List T)) (a0_14 : List (List T)) (a0_15 : List (List T)) (a0_16 : List (List T)) (a1_0 : Int) (a1_1 : Int) (a1_2 : Int) (a1_3 : Int) (a1_4 : List (List T)) (a2_0 : Int) (a2_1 : Int) (a2_2 : List (List T)) : evalF E P0 (k + 1) N.impl_Eng_answer [.p [.i a0_0, .i a0_1, .i a0_2, .r a0_3, .i a0_4, .i a0_5, .i a0_6, .i a0_7, .i a0_8, .r a0_9, .i a0_10, .b a0_11, .b a0_12, .r a0_13, .r a0_14, .r a0_15, .r a0_16], .v [.i a1_0, .i a1_1, .i a1_2, .i a1_3, .r a1_4], .v [.i a2_0, .i a2_1, .r a2_2]] = impl_Eng_answer_u k a0_0 a0_1 a0_2 a0_3 a0_4 a0_5 a0_6 a0_7 a0_8 a0_9 a0_10 a0_11 a0_12 a0_13 a0_14 a0_15 a0_16 a1_0 a1_1 a1_2 a1_3 a1_4 a2_0 a2_1 a2_2 := by kernel_rfl
end
end Go.Proofs.Ytahlghlpdcfbgaa.Ev
