/- What functions answer under the evaluator, as Lean terms, part 1: what FnExactEngNew needs. No condition. -/
import Derived.Test.YtjgmiilapnekfaaTab
namespace Go.Proofs.Ytjgmiilapnekfaa.Ev
open Go Go.Proofs
set_option linter.unusedVariables false
set_option maxRecDepth 100000
set_option maxHeartbeats 4000000
noncomputable section
def laws_eqCmdS_L1 (k : Nat) (a0 : List (List T)) (a1 : List (List T)) (G1 : (Int) → Option Outs) : (Int) → Option Outs := fun v8 =>
 bif (decide (v8 < (a0.length : Int))) then
  chk (decide (0 ≤ v8) && decide (v8 < (a0.length : Int))) <|
  chk (decide (0 ≤ v8) && decide (v8 < (a1.length : Int))) <|
  bindO (evalF E P0 k N.laws_eqCmd [.v [.i (at_ a0 v8.toNat 0).asI, .i (at_ a0 v8.toNat 1).asI, .i (at_ a0 v8.toNat 2).asI, .i (at_ a0 v8.toNat 3).asI, .r (at_ a0 v8.toNat 4).asR], .v [.i (at_ a1 v8.toNat 0).asI, .i (at_ a1 v8.toNat 1).asI, .i (at_ a1 v8.toNat 2).asI, .i (at_ a1 v8.toNat 3).asI, .r (at_ a1 v8.toNat 4).asR]]) fun o96 =>
  bif (!(o96.t 0).asB) then some ⟨[.b false], []⟩ else G1 (IntKind.wrap .i64 (v8 + 1))
 else
  some ⟨[.b true], []⟩
def laws_eqCmdS_k1 : List Nat := [0, 1, 4, 5]
def laws_eqCmdS_S1 (a0 : List (List T)) (a1 : List (List T)) : (Int) → St := fun v8 => ⟨ofSl [(0, .sl 74 a0), (1, .sl 74 a1), (4, .b false), (5, .i .i64 v8)], ofMem []⟩
def laws_eqCmdS_l1 (k : Nat) (a0 : List (List T)) (a1 : List (List T)) (G1 : (Int) → Option Outs) : (Int) → Option Outs :=
  laws_eqCmdS_L1 k a0 a1 G1
def laws_eqCmdS_U (k : Nat) (a0 : List (List T)) (a1 : List (List T)) (R1 : (Int) → Option Outs) : Option Outs :=
 bif ((a0.length : Int) != (a1.length : Int)) then some ⟨[.b false], []⟩ else R1 0
def laws_eqCmdS_u (k : Nat) (a0 : List (List T)) (a1 : List (List T)) : Option Outs :=
  laws_eqCmdS_U k a0 a1 (fun v => fixN (laws_eqCmdS_l1 k a0 a1) k v)
def laws_eqCmdS_it1 (k : Nat) (a0 : List (List T)) (a1 : List (List T)) (js : List Nat) (j : Nat) (s : St) : Option Outs := iter E (LB E (evalF E P0 k) k [] N.laws_eqCmdS [.sr, .sr, .sl, .sr, .bl]) [] laws_eqCmdS_k1 (LK E (evalF E P0 k) k [] N.laws_eqCmdS [.v [.r a0], .v [.r a1]] [.sr, .sr, .sl, .sr, .bl] js) j s
theorem laws_eqCmdS_e (k : Nat) (a0 : List (List T)) (a1 : List (List T)) : evalF E P0 (k + 1) N.laws_eqCmdS [.v [.r a0], .v [.r a1]] = laws_eqCmdS_u k a0 a1 := by
  have e0 : evalF E P0 (k + 1) N.laws_eqCmdS [.v [.r a0], .v [.r a1]] = laws_eqCmdS_U k a0 a1 (fun v => laws_eqCmdS_it1 k a0 a1 [] k (laws_eqCmdS_S1 a0 a1 v)) := by kernel_rfl
  have e1 : ∀ (j1 : Nat) (v : Int), laws_eqCmdS_it1 k a0 a1 [] (j1 + 1) (laws_eqCmdS_S1 a0 a1 v) = laws_eqCmdS_L1 k a0 a1 (fun v => laws_eqCmdS_it1 k a0 a1 [] j1 (laws_eqCmdS_S1 a0 a1 v)) v := by
    intro j1 v; kernel_rfl
  have i1 : ∀ (j1 : Nat) (v : Int), laws_eqCmdS_it1 k a0 a1 [] j1 (laws_eqCmdS_S1 a0 a1 v) = fixN (laws_eqCmdS_l1 k a0 a1) j1 v := by
    intro j1 v
    refine iter_fix (laws_eqCmdS_S1 a0 a1) (laws_eqCmdS_l1 k a0 a1) (fun j1 v => (e1 j1 v).trans ?_) j1 v
    unfold laws_eqCmdS_l1
    rfl
  rw [e0]; unfold laws_eqCmdS_u
  simp only [i1]
def laws_eqJob_u (k : Nat) (a0_0 : Int) (a0_1 : Int) (a0_2 : Int) (a0_3 : Int) (a0_4 : List (List T)) (a0_5 : Int) (a0_6 : List (List T)) (a0_7 : Int) (a1_0 : Int) (a1_1 : Int) (a1_2 : Int) (a1_3 : Int) (a1_4 : List (List T)) (a1_5 : Int) (a1_6 : List (List T)) (a1_7 : Int) : Option Outs :=
 bindO (evalF E P0 k N.laws_eqCmd [.v [.i a0_0, .i a0_1, .i a0_2, .i a0_3, .r a0_4], .v [.i a1_0, .i a1_1, .i a1_2, .i a1_3, .r a1_4]]) fun o2 =>
 bif (!(o2.t 0).asB) then
  some ⟨[.b false], []⟩
 else
  bif (a0_5 != a1_5) then
   some ⟨[.b false], []⟩
  else
   bindO (evalF E P0 k N.laws_eqIntS [.v [.r a0_6], .v [.r a1_6]]) fun o4 =>
   bif (!(o4.t 0).asB) then
    some ⟨[.b false], []⟩
   else
    bif (a0_7 != a1_7) then some ⟨[.b false], []⟩ else some ⟨[.b true], []⟩
theorem laws_eqJob_e (k : Nat) (a0_0 : Int) (a0_1 : Int) (a0_2 : Int) (a0_3 : Int) (a0_4 : List (List T)) (a0_5 : Int) (a0_6 : List (List T)) (a0_7 : Int) (a1_0 : Int) (a1_1 : Int) (a1_2 : Int) (a1_3 : Int) (a1_4 : List (List T)) (a1_5 : Int) (a1_6 : List (List T)) (a1_7 : Int) : evalF E P0 (k + 1) N.laws_eqJob [.v [.i a0_0, .i a0_1, .i a0_2, .i a0_3, .r a0_4, .i a0_5, .r a0_6, .i a0_7], .v [.i a1_0, .i a1_1, .i a1_2, .i a1_3, .r a1_4, .i a1_5, .r a1_6, .i a1_7]] = laws_eqJob_u k a0_0 a0_1 a0_2 a0_3 a0_4 a0_5 a0_6 a0_7 a1_0 a1_1 a1_2 a1_3 a1_4 a1_5 a1_6 a1_7 := by kernel_rfl
def laws_eqJobS_L1 (k : Nat) (a0 : List (List T)) (a1 : List (List T)) (G1 : (Int) → Option Outs) : (Int) → Option Outs := fun v8 =>
 bif (decide (v8 < (a0.length : Int))) then
  chk (decide (0 ≤ v8) && decide (v8 < (a0.length : Int))) <|
  chk (decide (0 ≤ v8) && decide (v8 < (a1.length : Int))) <|
  bindO (evalF E P0 k N.laws_eqJob [.v [.i (at_ a0 v8.toNat 0).asI, .i (at_ a0 v8.toNat 1).asI, .i (at_ a0 v8.toNat 2).asI, .i (at_ a0 v8.toNat 3).asI, .r (at_ a0 v8.toNat 4).asR, .i (at_ a0 v8.toNat 5).asI, .r (at_ a0 v8.toNat 6).asR, .i (at_ a0 v8.toNat 7).asI], .v [.i (at_ a1 v8.toNat 0).asI, .i (at_ a1 v8.toNat 1).asI, .i (at_ a1 v8.toNat 2).asI, .i (at_ a1 v8.toNat 3).asI, .r (at_ a1 v8.toNat 4).asR, .i (at_ a1 v8.toNat 5).asI, .r (at_ a1 v8.toNat 6).asR, .i (at_ a1 v8.toNat 7).asI]]) fun o96 =>
  bif (!(o96.t 0).asB) then some ⟨[.b false], []⟩ else G1 (IntKind.wrap .i64 (v8 + 1))
 else
  some ⟨[.b true], []⟩
def laws_eqJobS_k1 : List Nat := [0, 1, 4, 5]
def laws_eqJobS_S1 (a0 : List (List T)) (a1 : List (List T)) : (Int) → St := fun v8 => ⟨ofSl [(0, .sl 77 a0), (1, .sl 77 a1), (4, .b false), (5, .i .i64 v8)], ofMem []⟩
def laws_eqJobS_l1 (k : Nat) (a0 : List (List T)) (a1 : List (List T)) (G1 : (Int) → Option Outs) : (Int) → Option Outs :=
  laws_eqJobS_L1 k a0 a1 G1
def laws_eqJobS_U (k : Nat) (a0 : List (List T)) (a1 : List (List T)) (R1 : (Int) → Option Outs) : Option Outs :=
 bif ((a0.length : Int) != (a1.length : Int)) then some ⟨[.b false], []⟩ else R1 0
def laws_eqJobS_u (k : Nat) (a0 : List (List T)) (a1 : List (List T)) : Option Outs :=
  laws_eqJobS_U k a0 a1 (fun v => fixN (laws_eqJobS_l1 k a0 a1) k v)
def laws_eqJobS_it1 (k : Nat) (a0 : List (List T)) (a1 : List (List T)) (js : List Nat) (j : Nat) (s : St) : Option Outs := iter E (LB E (evalF E P0 k) k [] N.laws_eqJobS [.sr, .sr, .sl, .sr, .bl]) [] laws_eqJobS_k1 (LK E (evalF E P0 k) k [] N.laws_eqJobS [.v [.r a0], .v [.r a1]] [.sr, .sr, .sl, .sr, .bl] js) j s
theorem laws_eqJobS_e (k : Nat) (a0 : List (List T)) (a1 : List (List T)) : evalF E P0 (k + 1) N.laws_eqJobS [.v [.r a0], .v [.r a1]] = laws_eqJobS_u k a0 a1 := by
  have e0 : evalF E P0 (k + 1) N.laws_eqJobS [.v [.r a0], .v [.r a1]] = laws_eqJobS_U k a0 a1 (fun v => laws_eqJobS_it1 k a0 a1 [] k (laws_eqJobS_S1 a0 a1 v)) := by kernel_rfl
  have e1 : ∀ (j1 : Nat) (v : Int), laws_eqJobS_it1 k a0 a1 [] (j1 + 1) (laws_eqJobS_S1 a0 a1 v) = laws_eqJobS_L1 k a0 a1 (fun v => laws_eqJobS_it1 k a0 a1 [] j1 (laws_eqJobS_S1 a0 a1 v)) v := by
    intro j1 v; kernel_rfl
  have i1 : ∀ (j1 : Nat) (v : Int), laws_eqJobS_it1 k a0 a1 [] j1 (laws_eqJobS_S1 a0 a1 v) = fixN (laws_eqJobS_l1 k a0 a1) j1 v := by
    intro j1 v
    refine iter_fix (laws_eqJobS_S1 a0 a1) (laws_eqJobS_l1 k a0 a1) (fun j1 v => (e1 j1 v).trans ?_) j1 v
    unfold laws_eqJobS_l1
    rfl
  rw [e0]; unfold laws_eqJobS_u
  simp only [i1]
def laws_eqAns_u (k : Nat) (a0_0 : Int) (a0_1 : Int) (a0_2 : List (List T)) (a1_0 : Int) (a1_1 : Int) (a1_2 : List (List T)) : Option Outs :=
 bif (a0_0 != a1_0) then
  some ⟨[.b false], []⟩
 else
  bif (a0_1 != a1_1) then
   some ⟨[.b false], []⟩
  else
   bindO (evalF E P0 k N.laws_eqIntS [.v [.r a0_2], .v [.r a1_2]]) fun o2 =>
   bif (!(o2.t 0).asB) then some ⟨[.b false], []⟩ else some ⟨[.b true], []⟩
theorem laws_eqAns_e (k : Nat) (a0_0 : Int) (a0_1 : Int) (a0_2 : List (List T)) (a1_0 : Int) (a1_1 : Int) (a1_2 : List (List T)) : evalF E P0 (k + 1) N.laws_eqAns [.v [.i a0_0, .i a0_1, .r a0_2], .v [.i a1_0, .i a1_1, .r a1_2]] = laws_eqAns_u k a0_0 a0_1 a0_2 a1_0 a1_1 a1_2 := by kernel_rfl
def laws_eqAnsS_L1 (k : Nat) (a0 : List (List T)) (a1 : List (List T)) (G1 : (Int) → Option Outs) : (Int) → Option Outs := fun v8 =>
 bif (decide (v8 < (a0.length : Int))) then
  chk (decide (0 ≤ v8) && decide (v8 < (a0.length : Int))) <|
  chk (decide (0 ≤ v8) && decide (v8 < (a1.length : Int))) <|
  bindO (evalF E P0 k N.laws_eqAns [.v [.i (at_ a0 v8.toNat 0).asI, .i (at_ a0 v8.toNat 1).asI, .r (at_ a0 v8.toNat 2).asR], .v [.i (at_ a1 v8.toNat 0).asI, .i (at_ a1 v8.toNat 1).asI, .r (at_ a1 v8.toNat 2).asR]]) fun o96 =>
  bif (!(o96.t 0).asB) then some ⟨[.b false], []⟩ else G1 (IntKind.wrap .i64 (v8 + 1))
 else
  some ⟨[.b true], []⟩
def laws_eqAnsS_k1 : List Nat := [0, 1, 4, 5]
def laws_eqAnsS_S1 (a0 : List (List T)) (a1 : List (List T)) : (Int) → St := fun v8 => ⟨ofSl [(0, .sl 80 a0), (1, .sl 80 a1), (4, .b false), (5, .i .i64 v8)], ofMem []⟩
def laws_eqAnsS_l1 (k : Nat) (a0 : List (List T)) (a1 : List (List T)) (G1 : (Int) → Option Outs) : (Int) → Option Outs :=
  laws_eqAnsS_L1 k a0 a1 G1
def laws_eqAnsS_U (k : Nat) (a0 : List (List T)) (a1 : List (List T)) (R1 : (Int) → Option Outs) : Option Outs :=
 bif ((a0.length : Int) != (a1.length : Int)) then some ⟨[.b false], []⟩ else R1 0
def laws_eqAnsS_u (k : Nat) (a0 : List (List T)) (a1 : List (List T)) : Option Outs :=
  laws_eqAnsS_U k a0 a1 (fun v => fixN (laws_eqAnsS_l1 k a0 a1) k v)
def laws_eqAnsS_it1 (k : Nat) (a0 : List (List T)) (a1 : List (List T)) (js : List Nat) (j : Nat) (s : St) : Option Outs := iter E (LB E (evalF E P0 k) k [] N.laws_eqAnsS [.sr, .sr, .sl, .sr, .bl]) [] laws_eqAnsS_k1 (LK E (evalF E P0 k) k [] N.laws_eqAnsS [.v [.r a0], .v [.r a1]] [.sr, .sr, .sl, .sr, .bl] js) j s
theorem laws_eqAnsS_e (k : Nat) (a0 : List (List T)) (a1 : List (List T)) : evalF E P0 (k + 1) N.laws_eqAnsS [.v [.r a0], .v [.r a1]] = laws_eqAnsS_u k a0 a1 := by
  have e0 : evalF E P0 (k + 1) N.laws_eqAnsS [.v [.r a0], .v [.r a1]] = laws_eqAnsS_U k a0 a1 (fun v => laws_eqAnsS_it1 k a0 a1 [] k (laws_eqAnsS_S1 a0 a1 v)) := by kernel_rfl
  have e1 : ∀ (j1 : Nat) (v : Int), laws_eqAnsS_it1 k a0 a1 [] (j1 + 1) (laws_eqAnsS_S1 a0 a1 v) = laws_eqAnsS_L1 k a0 a1 (fun v => laws_eqAnsS_it1 k a0 a1 [] j1 (laws_eqAnsS_S1 a0 a1 v)) v := by
    intro j1 v; kernel_rfl
  have i1 : ∀ (j1 : Nat) (v : Int), laws_eqAnsS_it1 k a0 a1 [] j1 (laws_eqAnsS_S1 a0 a1 v) = fixN (laws_eqAnsS_l1 k a0 a1) j1 v := by
    intro j1 v
    refine iter_fix (laws_eqAnsS_S1 a0 a1) (laws_eqAnsS_l1 k a0 a1) (fun j1 v => (e1 j1 v).trans ?_) j1 v
    unfold laws_eqAnsS_l1
    rfl
  rw [e0]; unfold laws_eqAnsS_u
  simp only [i1]
def laws_eqTurn_u (k : Nat) (a0_0 : Int) (a0_1 : Int) (a0_2 : Int) (a0_3 : Int) (a0_4 : List (List T)) (a0_5 : Int) (a0_6 : Int) (a0_7 : List (List T)) (a1_0 : Int) (a1_1 : Int) (a1_2 : Int) (a1_3 : Int) (a1_4 : List (List T)) (a1_5 : Int) (a1_6 : Int) (a1_7 : List (List T)) : Option Outs :=
 bindO (evalF E P0 k N.laws_eqCmd [.v [.i a0_0, .i a0_1, .i a0_2, .i a0_3, .r a0_4], .v [.i a1_0, .i a1_1, .i a1_2, .i a1_3, .r a1_4]]) fun o2 =>
 bif (!(o2.t 0).asB) then
  some ⟨[.b false], []⟩
 else
  bindO (evalF E P0 k N.laws_eqAns [.v [.i a0_5, .i a0_6, .r a0_7], .v [.i a1_5, .i a1_6, .r a1_7]]) fun o4 =>
  bif (!(o4.t 0).asB) then some ⟨[.b false], []⟩ else some ⟨[.b true], []⟩
theorem laws_eqTurn_e (k : Nat) (a0_0 : Int) (a0_1 : Int) (a0_2 : Int) (a0_3 : Int) (a0_4 : List (List T)) (a0_5 : Int) (a0_6 : Int) (a0_7 : List (List T)) (a1_0 : Int) (a1_1 : Int) (a1_2 : Int) (a1_3 : Int) (a1_4 : List (List T)) (a1_5 : Int) (a1_6 : Int) (a1_7 : List (List T)) : evalF E P0 (k + 1) N.laws_eqTurn [.v [.i a0_0, .i a0_1, .i a0_2, .i a0_3, .r a0_4, .i a0_5, .i a0_6, .r a0_7], .v [.i a1_0, .i a1_1, .i a1_2, .i a1_3, .r a1_4, .i a1_5, .i a1_6, .r a1_7]] = laws_eqTurn_u k a0_0 a0_1 a0_2 a0_3 a0_4 a0_5 a0_6 a0_7 a1_0 a1_1 a1_2 a1_3 a1_4 a1_5 a1_6 a1_7 := by kernel_rfl
def laws_eqTurnS_L1 (k : Nat) (a0 : List (List T)) (a1 : List (List T)) (G1 : (Int) → Option Outs) : (Int) → Option Outs := fun v8 =>
 bif (decide (v8 < (a0.length : Int))) then
  chk (decide (0 ≤ v8) && decide (v8 < (a0.length : Int))) <|
  chk (decide (0 ≤ v8) && decide (v8 < (a1.length : Int))) <|
  bindO (evalF E P0 k N.laws_eqTurn [.v [.i (at_ a0 v8.toNat 0).asI, .i (at_ a0 v8.toNat 1).asI, .i (at_ a0 v8.toNat 2).asI, .i (at_ a0 v8.toNat 3).asI, .r (at_ a0 v8.toNat 4).asR, .i (at_ a0 v8.toNat 5).asI, .i (at_ a0 v8.toNat 6).asI, .r (at_ a0 v8.toNat 7).asR], .v [.i (at_ a1 v8.toNat 0).asI, .i (at_ a1 v8.toNat 1).asI, .i (at_ a1 v8.toNat 2).asI, .i (at_ a1 v8.toNat 3).asI, .r (at_ a1 v8.toNat 4).asR, .i (at_ a1 v8.toNat 5).asI, .i (at_ a1 v8.toNat 6).asI, .r (at_ a1 v8.toNat 7).asR]]) fun o96 =>
  bif (!(o96.t 0).asB) then some ⟨[.b false], []⟩ else G1 (IntKind.wrap .i64 (v8 + 1))
 else
  some ⟨[.b true], []⟩
def laws_eqTurnS_k1 : List Nat := [0, 1, 4, 5]
def laws_eqTurnS_S1 (a0 : List (List T)) (a1 : List (List T)) : (Int) → St := fun v8 => ⟨ofSl [(0, .sl 83 a0), (1, .sl 83 a1), (4, .b false), (5, .i .i64 v8)], ofMem []⟩
def laws_eqTurnS_l1 (k : Nat) (a0 : List (List T)) (a1 : List (List T)) (G1 : (Int) → Option Outs) : (Int) → Option Outs :=
  laws_eqTurnS_L1 k a0 a1 G1
def laws_eqTurnS_U (k : Nat) (a0 : List (List T)) (a1 : List (List T)) (R1 : (Int) → Option Outs) : Option Outs :=
 bif ((a0.length : Int) != (a1.length : Int)) then some ⟨[.b false], []⟩ else R1 0
def laws_eqTurnS_u (k : Nat) (a0 : List (List T)) (a1 : List (List T)) : Option Outs :=
  laws_eqTurnS_U k a0 a1 (fun v => fixN (laws_eqTurnS_l1 k a0 a1) k v)
def laws_eqTurnS_it1 (k : Nat) (a0 : List (List T)) (a1 : List (List T)) (js : List Nat) (j : Nat) (s : St) : Option Outs := iter E (LB E (evalF E P0 k) k [] N.laws_eqTurnS [.sr, .sr, .sl, .sr, .bl]) [] laws_eqTurnS_k1 (LK E (evalF E P0 k) k [] N.laws_eqTurnS [.v [.r a0], .v [.r a1]] [.sr, .sr, .sl, .sr, .bl] js) j s
theorem laws_eqTurnS_e (k : Nat) (a0 : List (List T)) (a1 : List (List T)) : evalF E P0 (k + 1) N.laws_eqTurnS [.v [.r a0], .v [.r a1]] = laws_eqTurnS_u k a0 a1 := by
  have e0 : evalF E P0 (k + 1) N.laws_eqTurnS [.v [.r a0], .v [.r a1]] = laws_eqTurnS_U k a0 a1 (fun v => laws_eqTurnS_it1 k a0 a1 [] k (laws_eqTurnS_S1 a0 a1 v)) := by kernel_rfl
  have e1 : ∀ (j1 : Nat) (v : Int), laws_eqTurnS_it1 k a0 a1 [] (j1 + 1) (laws_eqTurnS_S1 a0 a1 v) = laws_eqTurnS_L1 k a0 a1 (fun v => laws_eqTurnS_it1 k a0 a1 [] j1 (laws_eqTurnS_S1 a0 a1 v)) v := by
    intro j1 v; kernel_rfl
  have i1 : ∀ (j1 : Nat) (v : Int), laws_eqTurnS_it1 k a0 a1 [] j1 (laws_eqTurnS_S1 a0 a1 v) = fixN (laws_eqTurnS_l1 k a0 a1) j1 v := by
    intro j1 v
    refine iter_fix (laws_eqTurnS_S1 a0 a1) (laws_eqTurnS_l1 k a0 a1) (fun j1 v => (e1 j1 v).trans ?_) j1 v
    unfold laws_eqTurnS_l1
    rfl
  rw [e0]; unfold laws_eqTurnS_u
  simp only [i1]
def laws_eqEng_u (k : Nat) (a0_0 : Int) (a0_1 : Int) (a0_2 : Int) (a0_3 : List (List T)) (a0_4 : Int) (a0_5 : Int) (a0_6 : Int) (a0_7 : Int) (a0_8 : Int) (a0_9 : List (List T)) (a0_10 : Int) (a0_11 : Bool) (a0_12 : Bool) (a0_13 : List (List T)) (a0_14 : List (List T)) (a0_15 : List (List T)) (a0_16 : List (List T)) (a1_0 : Int) (a1_1 : Int) (a1_2 : Int) (a1_3 : List (List T)) (a1_4 : Int) (a1_5 : Int) (a1_6 : Int) (a1_7 : Int) (a1_8 : Int) (a1_9 : List (List T)) (a1_10 : Int) (a1_11 : Bool) (a1_12 : Bool) (a1_13 : List (List T)) (a1_14 : List (List T)) (a1_15 : List (List T)) (a1_16 : List (List T)) : Option Outs :=
 bindO (evalF E P0 k N.laws_eqArr [.v [.i a0_0, .i a0_1, .i a0_2, .r a0_3, .i a0_4, .i a0_5, .i a0_6, .i a0_7, .i a0_8, .r a0_9, .i a0_10, .b a0_11, .b a0_12], .v [.i a1_0, .i a1_1, .i a1_2, .r a1_3, .i a1_4, .i a1_5, .i a1_6, .i a1_7, .i a1_8, .r a1_9, .i a1_10, .b a1_11, .b a1_12]]) fun o2 =>
 bif (!(o2.t 0).asB) then
  some ⟨[.b false], []⟩
 else
  bindO (evalF E P0 k N.laws_eqCmdS [.v [.r a0_13], .v [.r a1_13]]) fun o4 =>
  bif (!(o4.t 0).asB) then
   some ⟨[.b false], []⟩
  else
   bindO (evalF E P0 k N.laws_eqJobS [.v [.r a0_14], .v [.r a1_14]]) fun o6 =>
   bif (!(o6.t 0).asB) then
    some ⟨[.b false], []⟩
   else
    bindO (evalF E P0 k N.laws_eqAnsS [.v [.r a0_15], .v [.r a1_15]]) fun o8 =>
    bif (!(o8.t 0).asB) then
     some ⟨[.b false], []⟩
    else
     bindO (evalF E P0 k N.laws_eqTurnS [.v [.r a0_16], .v [.r a1_16]]) fun o10 =>
     bif (!(o10.t 0).asB) then some ⟨[.b false], []⟩ else some ⟨[.b true], []⟩
theorem laws_eqEng_e (k : Nat) (a0_0 : Int) (a0_1 : Int) (a0_2 : Int) (a0_3 : List (List T)) (a0_4 : Int) (a0_5 : Int) (a0_6 : Int) (a0_7 : Int) (a0_8 : Int) (a0_9 : List (List T)) (a0_10 : Int) (a0_11 : Bool) (a0_12 : Bool) (a0_13 : List (List T)) (a0_14 : List (List T)) (a0_15 : List (List T)) (a0_16 : List (List T)) (a1_0 : Int) (a1_1 : Int) (a1_2 : Int) (a1_3 : List (List T)) (a1_4 : Int) (a1_5 : Int) (a1_6 : Int) (a1_7 : Int) (a1_8 : Int) (a1_9 : List (List T)) (a1_10 : Int) (a1_11 : Bool) (a1_12 : Bool) (a1_13 : List (List T)) (a1_14 : List (List T)) (a1_15 : List (List T)) (a1_16 : List (List T)) : evalF E P0 (k + 1) N.laws_eqEng [.v [.i a0_0, .i a0_1, .i a0_2, .r a0_3, .i a0_4, .i a0_5, .i a0_6, .i a0_7, .i a0_8, .r a0_9, .i a0_10, .b a0_11, .b a0_12, .r a0_13, .r a0_14, .r a0_15, .r a0_16], .v [.i a1_0, .i a1_1, .i a1_2, .r a1_3, .i a1_4, .i a1_5, .i a1_6, .i a1_7, .i a1_8, .r a1_9, .i a1_10, .b a1_11, .b a1_12, .r a1_13, .r a1_14, .r a1_15, .r a1_16]] = laws_eqEng_u k a0_0 a0_1 a0_2 a0_3 a0_4 a0_5 a0_6 a0_7 a0_8 a0_9 a0_10 a0_11 a0_12 a0_13 a0_14 a0_15 a0_16 a1_0 a1_1 a1_2 a1_3 a1_4 a1_5 a1_6 a1_7 a1_8 a1_9 a1_10 a1_11 a1_12 a1_13 a1_14 a1_15 a1_16 := by kernel_rfl
def laws_markIntS_L1 (k : Nat) (G1 : (Int × Int × List (List T)) → Option Outs) : (Int × Int × List (List T)) → Option Outs := fun (v15, v16, w8) =>
 bif (decide (v16 < (w8.length : Int))) then
  chk (decide (0 ≤ v16) && decide (v16 < (w8.length : Int))) <|
  G1 ((IntKind.wrap .i64 (v15 + 1)), (IntKind.wrap .i64 (v16 + 1)), (put_ w8 v16.toNat 0 [.i v15]))
 else
  some ⟨[.i v15], [[.r w8]]⟩
def laws_markIntS_k1 : List Nat := [0, 1, 4, 5, 18]
def laws_markIntS_S1 : (Int × Int × List (List T)) → St := fun (v15, v16, w8) => ⟨ofSl [(0, .ref (0, 0)), (1, .i .i64 v15), (4, .i .i64 0), (5, .i .i64 v16), (18, .skip)], ofMem [((0, 0), .row 3 true w8)]⟩
def laws_markIntS_l1 (k : Nat) (G1 : (Int × Int × List (List T)) → Option Outs) : (Int × Int × List (List T)) → Option Outs :=
  laws_markIntS_L1 k G1
def laws_markIntS_U (k : Nat) (a0 : List (List T)) (a1 : Int) (R1 : (Int × Int × List (List T)) → Option Outs) : Option Outs :=
 R1 (a1, 0, a0)
def laws_markIntS_u (k : Nat) (a0 : List (List T)) (a1 : Int) : Option Outs :=
  laws_markIntS_U k a0 a1 (fun v => fixN (laws_markIntS_l1 k) k v)
def laws_markIntS_it1 (k : Nat) (a0 : List (List T)) (a1 : Int) (js : List Nat) (j : Nat) (s : St) : Option Outs := iter E (LB E (evalF E P0 k) k [0] N.laws_markIntS [.sr, .sl, .sr, .bl]) [0] laws_markIntS_k1 (LK E (evalF E P0 k) k [0] N.laws_markIntS [.r a0, .v [.i a1]] [.sr, .sl, .sr, .bl] js) j s
theorem laws_markIntS_e (k : Nat) (a0 : List (List T)) (a1 : Int) : evalF E P0 (k + 1) N.laws_markIntS [.r a0, .v [.i a1]] = laws_markIntS_u k a0 a1 := by
  have e0 : evalF E P0 (k + 1) N.laws_markIntS [.r a0, .v [.i a1]] = laws_markIntS_U k a0 a1 (fun v => laws_markIntS_it1 k a0 a1 [] k (laws_markIntS_S1 v)) := by kernel_rfl
  have e1 : ∀ (j1 : Nat) (v : Int × Int × List (List T)), laws_markIntS_it1 k a0 a1 [] (j1 + 1) (laws_markIntS_S1 v) = laws_markIntS_L1 k (fun v => laws_markIntS_it1 k a0 a1 [] j1 (laws_markIntS_S1 v)) v := by
    intro j1 v; kernel_rfl
  have i1 : ∀ (j1 : Nat) (v : Int × Int × List (List T)), laws_markIntS_it1 k a0 a1 [] j1 (laws_markIntS_S1 v) = fixN (laws_markIntS_l1 k) j1 v := by
    intro j1 v
    refine iter_fix (laws_markIntS_S1) (laws_markIntS_l1 k) (fun j1 v => (e1 j1 v).trans ?_) j1 v
    unfold laws_markIntS_l1
    rfl
  rw [e0]; unfold laws_markIntS_u
  simp only [i1]
def laws_markIntSS_L1 (k : Nat) (G1 : (Int × Int × List (List T)) → Option Outs) : (Int × Int × List (List T)) → Option Outs := fun (v15, v16, w8) =>
 bif (decide (v16 < (w8.length : Int))) then
  chk (decide (0 ≤ v16) && decide (v16 < (w8.length : Int))) <|
  bindO (evalF E P0 k N.laws_markIntS [.r ((at_ w8 v16.toNat 0).asR), .v [.i v15]]) fun o48 =>
  G1 ((o48.t 0).asI, (IntKind.wrap .i64 (v16 + 1)), (put_ w8 v16.toNat 0 [.r ((o48.vt 0 0).asR)]))
 else
  some ⟨[.i v15], [[.r w8]]⟩
def laws_markIntSS_k1 : List Nat := [0, 1, 4, 5, 18]
def laws_markIntSS_S1 : (Int × Int × List (List T)) → St := fun (v15, v16, w8) => ⟨ofSl [(0, .ref (0, 0)), (1, .i .i64 v15), (4, .i .i64 0), (5, .i .i64 v16), (18, .skip)], Mem.put (ofMem [((0, 0), .deep 55 w8 none)]) modeNm .dead⟩
def laws_markIntSS_l1 (k : Nat) (G1 : (Int × Int × List (List T)) → Option Outs) : (Int × Int × List (List T)) → Option Outs :=
  laws_markIntSS_L1 k G1
def laws_markIntSS_U (k : Nat) (a0 : List (List T)) (a1 : Int) (R1 : (Int × Int × List (List T)) → Option Outs) : Option Outs :=
 R1 (a1, 0, a0)
def laws_markIntSS_u (k : Nat) (a0 : List (List T)) (a1 : Int) : Option Outs :=
  laws_markIntSS_U k a0 a1 (fun v => fixN (laws_markIntSS_l1 k) k v)
def laws_markIntSS_it1 (k : Nat) (a0 : List (List T)) (a1 : Int) (js : List Nat) (j : Nat) (s : St) : Option Outs := iter E (LB E (evalF E P0 k) k [0] N.laws_markIntSS [.sr, .sl, .sr, .bl]) [0] laws_markIntSS_k1 (LK E (evalF E P0 k) k [0] N.laws_markIntSS [.r a0, .v [.i a1]] [.sr, .sl, .sr, .bl] js) j s
theorem laws_markIntSS_e (k : Nat) (a0 : List (List T)) (a1 : Int) : evalF E P0 (k + 1) N.laws_markIntSS [.r a0, .v [.i a1]] = laws_markIntSS_u k a0 a1 := by
  have e0 : evalF E P0 (k + 1) N.laws_markIntSS [.r a0, .v [.i a1]] = laws_markIntSS_U k a0 a1 (fun v => laws_markIntSS_it1 k a0 a1 [] k (laws_markIntSS_S1 v)) := by kernel_rfl
  have e1 : ∀ (j1 : Nat) (v : Int × Int × List (List T)), laws_markIntSS_it1 k a0 a1 [] (j1 + 1) (laws_markIntSS_S1 v) = laws_markIntSS_L1 k (fun v => laws_markIntSS_it1 k a0 a1 [] j1 (laws_markIntSS_S1 v)) v := by
    intro j1 v; kernel_rfl
  have i1 : ∀ (j1 : Nat) (v : Int × Int × List (List T)), laws_markIntSS_it1 k a0 a1 [] j1 (laws_markIntSS_S1 v) = fixN (laws_markIntSS_l1 k) j1 v := by
    intro j1 v
    refine iter_fix (laws_markIntSS_S1) (laws_markIntSS_l1 k) (fun j1 v => (e1 j1 v).trans ?_) j1 v
    unfold laws_markIntSS_l1
    rfl
  rw [e0]; unfold laws_markIntSS_u
  simp only [i1]
def laws_markWrS_L1 (k : Nat) (G1 : (Int × Int × List (List T)) → Option Outs) : (Int × Int × List (List T)) → Option Outs := fun (v15, v16, w8) =>
 bif (decide (v16 < (w8.length : Int))) then
  chk (decide (0 ≤ v16) && decide (v16 < (w8.length : Int))) <|
  chk (decide (0 ≤ v16) && decide (v16 < ((put_ w8 v16.toNat 0 [.i v15]).length : Int))) <|
  bindO (evalF E P0 k N.laws_markIntS [.r ((at_ (put_ w8 v16.toNat 0 [.i v15]) v16.toNat 1).asR), .v [.i (IntKind.wrap .i64 (v15 + 1))]]) fun o48 =>
  G1 ((o48.t 0).asI, (IntKind.wrap .i64 (v16 + 1)), (put_ (put_ w8 v16.toNat 0 [.i v15]) v16.toNat 1 [.r ((o48.vt 0 0).asR)]))
 else
  some ⟨[.i v15], [[.r w8]]⟩
def laws_markWrS_k1 : List Nat := [0, 1, 4, 5, 26]
def laws_markWrS_S1 : (Int × Int × List (List T)) → St := fun (v15, v16, w8) => ⟨ofSl [(0, .ref (0, 0)), (1, .i .i64 v15), (4, .i .i64 0), (5, .i .i64 v16), (26, .skip)], Mem.put (ofMem [((0, 0), .deep 93 w8 none)]) modeNm .dead⟩
def laws_markWrS_l1 (k : Nat) (G1 : (Int × Int × List (List T)) → Option Outs) : (Int × Int × List (List T)) → Option Outs :=
  laws_markWrS_L1 k G1
def laws_markWrS_U (k : Nat) (a0 : List (List T)) (a1 : Int) (R1 : (Int × Int × List (List T)) → Option Outs) : Option Outs :=
 R1 (a1, 0, a0)
def laws_markWrS_u (k : Nat) (a0 : List (List T)) (a1 : Int) : Option Outs :=
  laws_markWrS_U k a0 a1 (fun v => fixN (laws_markWrS_l1 k) k v)
def laws_markWrS_it1 (k : Nat) (a0 : List (List T)) (a1 : Int) (js : List Nat) (j : Nat) (s : St) : Option Outs := iter E (LB E (evalF E P0 k) k [0] N.laws_markWrS [.sr, .sl, .sr, .bl]) [0] laws_markWrS_k1 (LK E (evalF E P0 k) k [0] N.laws_markWrS [.r a0, .v [.i a1]] [.sr, .sl, .sr, .bl] js) j s
theorem laws_markWrS_e (k : Nat) (a0 : List (List T)) (a1 : Int) : evalF E P0 (k + 1) N.laws_markWrS [.r a0, .v [.i a1]] = laws_markWrS_u k a0 a1 := by
  have e0 : evalF E P0 (k + 1) N.laws_markWrS [.r a0, .v [.i a1]] = laws_markWrS_U k a0 a1 (fun v => laws_markWrS_it1 k a0 a1 [] k (laws_markWrS_S1 v)) := by kernel_rfl
  have e1 : ∀ (j1 : Nat) (v : Int × Int × List (List T)), laws_markWrS_it1 k a0 a1 [] (j1 + 1) (laws_markWrS_S1 v) = laws_markWrS_L1 k (fun v => laws_markWrS_it1 k a0 a1 [] j1 (laws_markWrS_S1 v)) v := by
    intro j1 v; kernel_rfl
  have i1 : ∀ (j1 : Nat) (v : Int × Int × List (List T)), laws_markWrS_it1 k a0 a1 [] j1 (laws_markWrS_S1 v) = fixN (laws_markWrS_l1 k) j1 v := by
    intro j1 v
    refine iter_fix (laws_markWrS_S1) (laws_markWrS_l1 k) (fun j1 v => (e1 j1 v).trans ?_) j1 v
    unfold laws_markWrS_l1
    rfl
  rw [e0]; unfold laws_markWrS_u
  simp only [i1]
def laws_markMemS_L1 (k : Nat) (G1 : (Int × Int × List (List T)) → Option Outs) : (Int × Int × List (List T)) → Option Outs := fun (v15, v16, w8) =>
 bif (decide (v16 < (w8.length : Int))) then
  chk (decide (0 ≤ v16) && decide (v16 < (w8.length : Int))) <|
  bindO (evalF E P0 k N.laws_markIntSS [.r ((at_ w8 v16.toNat 0).asR), .v [.i v15]]) fun o237 =>
  chk (decide (0 ≤ v16) && decide (v16 < (w8.length : Int))) <|
  bindO (evalF E P0 k N.laws_markWrS [.r ((at_ (put_ w8 v16.toNat 0 [.r ((o237.vt 0 0).asR)]) v16.toNat 1).asR), .v [.i (o237.t 0).asI]]) fun o239 =>
  chk (decide (0 ≤ v16) && decide (v16 < ((put_ w8 v16.toNat 0 [.r ((o237.vt 0 0).asR)]).length : Int))) <|
  chk (decide (0 ≤ v16) && decide (v16 < ((put_ (put_ (put_ w8 v16.toNat 0 [.r ((o237.vt 0 0).asR)]) v16.toNat 1 [.r ((o239.vt 0 0).asR)]) v16.toNat 2 [.b ((Int.tmod (o239.t 0).asI 3) == 0)]).length : Int))) <|
  bindO (evalF E P0 k N.laws_markIntS [.r ((at_ (put_ (put_ (put_ w8 v16.toNat 0 [.r ((o237.vt 0 0).asR)]) v16.toNat 1 [.r ((o239.vt 0 0).asR)]) v16.toNat 2 [.b ((Int.tmod (o239.t 0).asI 3) == 0)]) v16.toNat 3).asR), .v [.i (IntKind.wrap .i64 ((o239.t 0).asI + 1))]]) fun o240 =>
  G1 ((o240.t 0).asI, (IntKind.wrap .i64 (v16 + 1)), (put_ (put_ (put_ (put_ w8 v16.toNat 0 [.r ((o237.vt 0 0).asR)]) v16.toNat 1 [.r ((o239.vt 0 0).asR)]) v16.toNat 2 [.b ((Int.tmod (o239.t 0).asI 3) == 0)]) v16.toNat 3 [.r ((o240.vt 0 0).asR)]))
 else
  some ⟨[.i v15], [[.r w8]]⟩
def laws_markMemS_k1 : List Nat := [0, 1, 4, 5, 42]
def laws_markMemS_S1 : (Int × Int × List (List T)) → St := fun (v15, v16, w8) => ⟨ofSl [(0, .ref (0, 0)), (1, .i .i64 v15), (4, .i .i64 0), (5, .i .i64 v16), (42, .skip)], Mem.put (ofMem [((0, 0), .deep 57 w8 none)]) modeNm .dead⟩
def laws_markMemS_l1 (k : Nat) (G1 : (Int × Int × List (List T)) → Option Outs) : (Int × Int × List (List T)) → Option Outs :=
  laws_markMemS_L1 k G1
def laws_markMemS_U (k : Nat) (a0 : List (List T)) (a1 : Int) (R1 : (Int × Int × List (List T)) → Option Outs) : Option Outs :=
 R1 (a1, 0, a0)
def laws_markMemS_u (k : Nat) (a0 : List (List T)) (a1 : Int) : Option Outs :=
  laws_markMemS_U k a0 a1 (fun v => fixN (laws_markMemS_l1 k) k v)
def laws_markMemS_it1 (k : Nat) (a0 : List (List T)) (a1 : Int) (js : List Nat) (j : Nat) (s : St) : Option Outs := iter E (LB E (evalF E P0 k) k [0] N.laws_markMemS [.sr, .sl, .sr, .bl]) [0] laws_markMemS_k1 (LK E (evalF E P0 k) k [0] N.laws_markMemS [.r a0, .v [.i a1]] [.sr, .sl, .sr, .bl] js) j s
theorem laws_markMemS_e (k : Nat) (a0 : List (List T)) (a1 : Int) : evalF E P0 (k + 1) N.laws_markMemS [.r a0, .v [.i a1]] = laws_markMemS_u k a0 a1 := by
  have e0 : evalF E P0 (k + 1) N.laws_markMemS [.r a0, .v [.i a1]] = laws_markMemS_U k a0 a1 (fun v => laws_markMemS_it1 k a0 a1 [] k (laws_markMemS_S1 v)) := by kernel_rfl
  have e1 : ∀ (j1 : Nat) (v : Int × Int × List (List T)), laws_markMemS_it1 k a0 a1 [] (j1 + 1) (laws_markMemS_S1 v) = laws_markMemS_L1 k (fun v => laws_markMemS_it1 k a0 a1 [] j1 (laws_markMemS_S1 v)) v := by
    intro j1 v; kernel_rfl
  have i1 : ∀ (j1 : Nat) (v : Int × Int × List (List T)), laws_markMemS_it1 k a0 a1 [] j1 (laws_markMemS_S1 v) = fixN (laws_markMemS_l1 k) j1 v := by
    intro j1 v
    refine iter_fix (laws_markMemS_S1) (laws_markMemS_l1 k) (fun j1 v => (e1 j1 v).trans ?_) j1 v
    unfold laws_markMemS_l1
    rfl
  rw [e0]; unfold laws_markMemS_u
  simp only [i1]
def laws_markEntS_L1 (k : Nat) (G1 : (Int × Int × List (List T)) → Option Outs) : (Int × Int × List (List T)) → Option Outs := fun (v15, v16, w8) =>
 bif (decide (v16 < (w8.length : Int))) then
  chk (decide (0 ≤ v16) && decide (v16 < (w8.length : Int))) <|
  chk (decide (0 ≤ v16) && decide (v16 < ((put_ w8 v16.toNat 0 [.i v15]).length : Int))) <|
  bindO (evalF E P0 k N.laws_markIntS [.r ((at_ (put_ w8 v16.toNat 0 [.i v15]) v16.toNat 1).asR), .v [.i (IntKind.wrap .i64 (v15 + 1))]]) fun o48 =>
  G1 ((o48.t 0).asI, (IntKind.wrap .i64 (v16 + 1)), (put_ (put_ w8 v16.toNat 0 [.i v15]) v16.toNat 1 [.r ((o48.vt 0 0).asR)]))
 else
  some ⟨[.i v15], [[.r w8]]⟩
def laws_markEntS_k1 : List Nat := [0, 1, 4, 5, 26]
def laws_markEntS_S1 : (Int × Int × List (List T)) → St := fun (v15, v16, w8) => ⟨ofSl [(0, .ref (0, 0)), (1, .i .i64 v15), (4, .i .i64 0), (5, .i .i64 v16), (26, .skip)], Mem.put (ofMem [((0, 0), .deep 99 w8 none)]) modeNm .dead⟩
def laws_markEntS_l1 (k : Nat) (G1 : (Int × Int × List (List T)) → Option Outs) : (Int × Int × List (List T)) → Option Outs :=
  laws_markEntS_L1 k G1
def laws_markEntS_U (k : Nat) (a0 : List (List T)) (a1 : Int) (R1 : (Int × Int × List (List T)) → Option Outs) : Option Outs :=
 R1 (a1, 0, a0)
def laws_markEntS_u (k : Nat) (a0 : List (List T)) (a1 : Int) : Option Outs :=
  laws_markEntS_U k a0 a1 (fun v => fixN (laws_markEntS_l1 k) k v)
def laws_markEntS_it1 (k : Nat) (a0 : List (List T)) (a1 : Int) (js : List Nat) (j : Nat) (s : St) : Option Outs := iter E (LB E (evalF E P0 k) k [0] N.laws_markEntS [.sr, .sl, .sr, .bl]) [0] laws_markEntS_k1 (LK E (evalF E P0 k) k [0] N.laws_markEntS [.r a0, .v [.i a1]] [.sr, .sl, .sr, .bl] js) j s
theorem laws_markEntS_e (k : Nat) (a0 : List (List T)) (a1 : Int) : evalF E P0 (k + 1) N.laws_markEntS [.r a0, .v [.i a1]] = laws_markEntS_u k a0 a1 := by
  have e0 : evalF E P0 (k + 1) N.laws_markEntS [.r a0, .v [.i a1]] = laws_markEntS_U k a0 a1 (fun v => laws_markEntS_it1 k a0 a1 [] k (laws_markEntS_S1 v)) := by kernel_rfl
  have e1 : ∀ (j1 : Nat) (v : Int × Int × List (List T)), laws_markEntS_it1 k a0 a1 [] (j1 + 1) (laws_markEntS_S1 v) = laws_markEntS_L1 k (fun v => laws_markEntS_it1 k a0 a1 [] j1 (laws_markEntS_S1 v)) v := by
    intro j1 v; kernel_rfl
  have i1 : ∀ (j1 : Nat) (v : Int × Int × List (List T)), laws_markEntS_it1 k a0 a1 [] j1 (laws_markEntS_S1 v) = fixN (laws_markEntS_l1 k) j1 v := by
    intro j1 v
    refine iter_fix (laws_markEntS_S1) (laws_markEntS_l1 k) (fun j1 v => (e1 j1 v).trans ?_) j1 v
    unfold laws_markEntS_l1
    rfl
  rw [e0]; unfold laws_markEntS_u
  simp only [i1]
def laws_markArr_u (k : Nat) (a0_0 : Int) (a0_1 : Int) (a0_2 : Int) (a0_3 : List (List T)) (a0_4 : Int) (a0_5 : Int) (a0_6 : Int) (a0_7 : Int) (a0_8 : Int) (a0_9 : List (List T)) (a0_10 : Int) (a0_11 : Bool) (a0_12 : Bool) (a1 : Int) : Option Outs :=
 bindO (evalF E P0 k N.laws_markMemS [.r a0_3, .v [.i a1]]) fun o2 =>
 bindO (evalF E P0 k N.laws_markEntS [.r a0_9, .v [.i (o2.t 0).asI]]) fun o4 =>
 some ⟨[.i (o4.t 0).asI], [[.i a0_0, .i a0_1, .i a0_2, .r (o2.vt 0 0).asR, .i a0_4, .i a0_5, .i a0_6, .i a0_7, .i a0_8, .r (o4.vt 0 0).asR, .i a0_10, .b a0_11, .b a0_12]]⟩
theorem laws_markArr_e (k : Nat) (a0_0 : Int) (a0_1 : Int) (a0_2 : Int) (a0_3 : List (List T)) (a0_4 : Int) (a0_5 : Int) (a0_6 : Int) (a0_7 : Int) (a0_8 : Int) (a0_9 : List (List T)) (a0_10 : Int) (a0_11 : Bool) (a0_12 : Bool) (a1 : Int) : evalF E P0 (k + 1) N.laws_markArr [.s [.i a0_0, .i a0_1, .i a0_2, .r a0_3, .i a0_4, .i a0_5, .i a0_6, .i a0_7, .i a0_8, .r a0_9, .i a0_10, .b a0_11, .b a0_12], .v [.i a1]] = laws_markArr_u k a0_0 a0_1 a0_2 a0_3 a0_4 a0_5 a0_6 a0_7 a0_8 a0_9 a0_10 a0_11 a0_12 a1 := by kernel_rfl
def laws_markCmdS_L1 (k : Nat) (G1 : (Int × Int × List (List T)) → Option Outs) : (Int × Int × List (List T)) → Option Outs := fun (v15, v16, w8) =>
 bif (decide (v16 < (w8.length : Int))) then
  chk (decide (0 ≤ v16) && decide (v16 < (w8.length : Int))) <|
  chk (decide (0 ≤ v16) && decide (v16 < ((put_ w8 v16.toNat 0 [.i v15]).length : Int))) <|
  chk (decide (0 ≤ v16) && decide (v16 < ((put_ (put_ w8 v16.toNat 0 [.i v15]) v16.toNat 1 [.i (IntKind.wrap .i64 (v15 + 1))]).length : Int))) <|
  chk (decide (0 ≤ v16) && decide (v16 < ((put_ (put_ (put_ w8 v16.toNat 0 [.i v15]) v16.toNat 1 [.i (IntKind.wrap .i64 (v15 + 1))]) v16.toNat 2 [.i (IntKind.wrap .i64 ((IntKind.wrap .i64 (v15 + 1)) + 1))]).length : Int))) <|
  chk (decide (0 ≤ v16) && decide (v16 < ((put_ (put_ (put_ (put_ w8 v16.toNat 0 [.i v15]) v16.toNat 1 [.i (IntKind.wrap .i64 (v15 + 1))]) v16.toNat 2 [.i (IntKind.wrap .i64 ((IntKind.wrap .i64 (v15 + 1)) + 1))]) v16.toNat 3 [.i (IntKind.wrap .i64 ((IntKind.wrap .i64 ((IntKind.wrap .i64 (v15 + 1)) + 1)) + 1))]).length : Int))) <|
  bindO (evalF E P0 k N.laws_markIntS [.r ((at_ (put_ (put_ (put_ (put_ w8 v16.toNat 0 [.i v15]) v16.toNat 1 [.i (IntKind.wrap .i64 (v15 + 1))]) v16.toNat 2 [.i (IntKind.wrap .i64 ((IntKind.wrap .i64 (v15 + 1)) + 1))]) v16.toNat 3 [.i (IntKind.wrap .i64 ((IntKind.wrap .i64 ((IntKind.wrap .i64 (v15 + 1)) + 1)) + 1))]) v16.toNat 4).asR), .v [.i (IntKind.wrap .i64 ((IntKind.wrap .i64 ((IntKind.wrap .i64 ((IntKind.wrap .i64 (v15 + 1)) + 1)) + 1)) + 1))]]) fun o48 =>
  G1 ((o48.t 0).asI, (IntKind.wrap .i64 (v16 + 1)), (put_ (put_ (put_ (put_ (put_ w8 v16.toNat 0 [.i v15]) v16.toNat 1 [.i (IntKind.wrap .i64 (v15 + 1))]) v16.toNat 2 [.i (IntKind.wrap .i64 ((IntKind.wrap .i64 (v15 + 1)) + 1))]) v16.toNat 3 [.i (IntKind.wrap .i64 ((IntKind.wrap .i64 ((IntKind.wrap .i64 (v15 + 1)) + 1)) + 1))]) v16.toNat 4 [.r ((o48.vt 0 0).asR)]))
 else
  some ⟨[.i v15], [[.r w8]]⟩
def laws_markCmdS_k1 : List Nat := [0, 1, 4, 5, 47]
def laws_markCmdS_S1 : (Int × Int × List (List T)) → St := fun (v15, v16, w8) => ⟨ofSl [(0, .ref (0, 0)), (1, .i .i64 v15), (4, .i .i64 0), (5, .i .i64 v16), (47, .skip)], Mem.put (ofMem [((0, 0), .deep 74 w8 none)]) modeNm .dead⟩
def laws_markCmdS_l1 (k : Nat) (G1 : (Int × Int × List (List T)) → Option Outs) : (Int × Int × List (List T)) → Option Outs :=
  laws_markCmdS_L1 k G1
def laws_markCmdS_U (k : Nat) (a0 : List (List T)) (a1 : Int) (R1 : (Int × Int × List (List T)) → Option Outs) : Option Outs :=
 R1 (a1, 0, a0)
def laws_markCmdS_u (k : Nat) (a0 : List (List T)) (a1 : Int) : Option Outs :=
  laws_markCmdS_U k a0 a1 (fun v => fixN (laws_markCmdS_l1 k) k v)
def laws_markCmdS_it1 (k : Nat) (a0 : List (List T)) (a1 : Int) (js : List Nat) (j : Nat) (s : St) : Option Outs := iter E (LB E (evalF E P0 k) k [0] N.laws_markCmdS [.sr, .sl, .sr, .bl]) [0] laws_markCmdS_k1 (LK E (evalF E P0 k) k [0] N.laws_markCmdS [.r a0, .v [.i a1]] [.sr, .sl, .sr, .bl] js) j s
theorem laws_markCmdS_e (k : Nat) (a0 : List (List T)) (a1 : Int) : evalF E P0 (k + 1) N.laws_markCmdS [.r a0, .v [.i a1]] = laws_markCmdS_u k a0 a1 := by
  have e0 : evalF E P0 (k + 1) N.laws_markCmdS [.r a0, .v [.i a1]] = laws_markCmdS_U k a0 a1 (fun v => laws_markCmdS_it1 k a0 a1 [] k (laws_markCmdS_S1 v)) := by kernel_rfl
  have e1 : ∀ (j1 : Nat) (v : Int × Int × List (List T)), laws_markCmdS_it1 k a0 a1 [] (j1 + 1) (laws_markCmdS_S1 v) = laws_markCmdS_L1 k (fun v => laws_markCmdS_it1 k a0 a1 [] j1 (laws_markCmdS_S1 v)) v := by
    intro j1 v; kernel_rfl
  have i1 : ∀ (j1 : Nat) (v : Int × Int × List (List T)), laws_markCmdS_it1 k a0 a1 [] j1 (laws_markCmdS_S1 v) = fixN (laws_markCmdS_l1 k) j1 v := by
    intro j1 v
    refine iter_fix (laws_markCmdS_S1) (laws_markCmdS_l1 k) (fun j1 v => (e1 j1 v).trans ?_) j1 v
    unfold laws_markCmdS_l1
    rfl
  rw [e0]; unfold laws_markCmdS_u
  simp only [i1]
def laws_markJobS_L1 (k : Nat) (G1 : (Int × Int × List (List T)) → Option Outs) : (Int × Int × List (List T)) → Option Outs := fun (v15, v16, w8) =>
 bif (decide (v16 < (w8.length : Int))) then
  chk (decide (0 ≤ v16) && decide (v16 < (w8.length : Int))) <|
  chk (decide (0 ≤ v16) && decide (v16 < ((put_ w8 v16.toNat 0 [.i v15]).length : Int))) <|
  chk (decide (0 ≤ v16) && decide (v16 < ((put_ (put_ w8 v16.toNat 0 [.i v15]) v16.toNat 1 [.i (IntKind.wrap .i64 (v15 + 1))]).length : Int))) <|
  chk (decide (0 ≤ v16) && decide (v16 < ((put_ (put_ (put_ w8 v16.toNat 0 [.i v15]) v16.toNat 1 [.i (IntKind.wrap .i64 (v15 + 1))]) v16.toNat 2 [.i (IntKind.wrap .i64 ((IntKind.wrap .i64 (v15 + 1)) + 1))]).length : Int))) <|
  chk (decide (0 ≤ v16) && decide (v16 < ((put_ (put_ (put_ (put_ w8 v16.toNat 0 [.i v15]) v16.toNat 1 [.i (IntKind.wrap .i64 (v15 + 1))]) v16.toNat 2 [.i (IntKind.wrap .i64 ((IntKind.wrap .i64 (v15 + 1)) + 1))]) v16.toNat 3 [.i (IntKind.wrap .i64 ((IntKind.wrap .i64 ((IntKind.wrap .i64 (v15 + 1)) + 1)) + 1))]).length : Int))) <|
  bindO (evalF E P0 k N.laws_markIntS [.r ((at_ (put_ (put_ (put_ (put_ w8 v16.toNat 0 [.i v15]) v16.toNat 1 [.i (IntKind.wrap .i64 (v15 + 1))]) v16.toNat 2 [.i (IntKind.wrap .i64 ((IntKind.wrap .i64 (v15 + 1)) + 1))]) v16.toNat 3 [.i (IntKind.wrap .i64 ((IntKind.wrap .i64 ((IntKind.wrap .i64 (v15 + 1)) + 1)) + 1))]) v16.toNat 4).asR), .v [.i (IntKind.wrap .i64 ((IntKind.wrap .i64 ((IntKind.wrap .i64 ((IntKind.wrap .i64 (v15 + 1)) + 1)) + 1)) + 1))]]) fun o190 =>
  chk (decide (0 ≤ v16) && decide (v16 < ((put_ (put_ (put_ (put_ w8 v16.toNat 0 [.i v15]) v16.toNat 1 [.i (IntKind.wrap .i64 (v15 + 1))]) v16.toNat 2 [.i (IntKind.wrap .i64 ((IntKind.wrap .i64 (v15 + 1)) + 1))]) v16.toNat 3 [.i (IntKind.wrap .i64 ((IntKind.wrap .i64 ((IntKind.wrap .i64 (v15 + 1)) + 1)) + 1))]).length : Int))) <|
  chk (decide (0 ≤ v16) && decide (v16 < ((put_ (put_ (put_ (put_ (put_ (put_ w8 v16.toNat 0 [.i v15]) v16.toNat 1 [.i (IntKind.wrap .i64 (v15 + 1))]) v16.toNat 2 [.i (IntKind.wrap .i64 ((IntKind.wrap .i64 (v15 + 1)) + 1))]) v16.toNat 3 [.i (IntKind.wrap .i64 ((IntKind.wrap .i64 ((IntKind.wrap .i64 (v15 + 1)) + 1)) + 1))]) v16.toNat 4 [.r ((o190.vt 0 0).asR)]) v16.toNat 5 [.i (o190.t 0).asI]).length : Int))) <|
  bindO (evalF E P0 k N.laws_markIntS [.r ((at_ (put_ (put_ (put_ (put_ (put_ (put_ w8 v16.toNat 0 [.i v15]) v16.toNat 1 [.i (IntKind.wrap .i64 (v15 + 1))]) v16.toNat 2 [.i (IntKind.wrap .i64 ((IntKind.wrap .i64 (v15 + 1)) + 1))]) v16.toNat 3 [.i (IntKind.wrap .i64 ((IntKind.wrap .i64 ((IntKind.wrap .i64 (v15 + 1)) + 1)) + 1))]) v16.toNat 4 [.r ((o190.vt 0 0).asR)]) v16.toNat 5 [.i (o190.t 0).asI]) v16.toNat 6).asR), .v [.i (IntKind.wrap .i64 ((o190.t 0).asI + 1))]]) fun o192 =>
  chk (decide (0 ≤ v16) && decide (v16 < ((put_ (put_ (put_ (put_ (put_ (put_ w8 v16.toNat 0 [.i v15]) v16.toNat 1 [.i (IntKind.wrap .i64 (v15 + 1))]) v16.toNat 2 [.i (IntKind.wrap .i64 ((IntKind.wrap .i64 (v15 + 1)) + 1))]) v16.toNat 3 [.i (IntKind.wrap .i64 ((IntKind.wrap .i64 ((IntKind.wrap .i64 (v15 + 1)) + 1)) + 1))]) v16.toNat 4 [.r ((o190.vt 0 0).asR)]) v16.toNat 5 [.i (o190.t 0).asI]).length : Int))) <|
  G1 ((IntKind.wrap .i64 ((o192.t 0).asI + 1)), (IntKind.wrap .i64 (v16 + 1)), (put_ (put_ (put_ (put_ (put_ (put_ (put_ (put_ w8 v16.toNat 0 [.i v15]) v16.toNat 1 [.i (IntKind.wrap .i64 (v15 + 1))]) v16.toNat 2 [.i (IntKind.wrap .i64 ((IntKind.wrap .i64 (v15 + 1)) + 1))]) v16.toNat 3 [.i (IntKind.wrap .i64 ((IntKind.wrap .i64 ((IntKind.wrap .i64 (v15 + 1)) + 1)) + 1))]) v16.toNat 4 [.r ((o190.vt 0 0).asR)]) v16.toNat 5 [.i (o190.t 0).asI]) v16.toNat 6 [.r ((o192.vt 0 0).asR)]) v16.toNat 7 [.i (o192.t 0).asI]))
 else
  some ⟨[.i v15], [[.r w8]]⟩
def laws_markJobS_k1 : List Nat := [0, 1, 4, 5, 73]
def laws_markJobS_S1 : (Int × Int × List (List T)) → St := fun (v15, v16, w8) => ⟨ofSl [(0, .ref (0, 0)), (1, .i .i64 v15), (4, .i .i64 0), (5, .i .i64 v16), (73, .skip)], Mem.put (ofMem [((0, 0), .deep 77 w8 none)]) modeNm .dead⟩
def laws_markJobS_l1 (k : Nat) (G1 : (Int × Int × List (List T)) → Option Outs) : (Int × Int × List (List T)) → Option Outs :=
  laws_markJobS_L1 k G1
def laws_markJobS_U (k : Nat) (a0 : List (List T)) (a1 : Int) (R1 : (Int × Int × List (List T)) → Option Outs) : Option Outs :=
 R1 (a1, 0, a0)
def laws_markJobS_u (k : Nat) (a0 : List (List T)) (a1 : Int) : Option Outs :=
  laws_markJobS_U k a0 a1 (fun v => fixN (laws_markJobS_l1 k) k v)
def laws_markJobS_it1 (k : Nat) (a0 : List (List T)) (a1 : Int) (js : List Nat) (j : Nat) (s : St) : Option Outs := iter E (LB E (evalF E P0 k) k [0] N.laws_markJobS [.sr, .sl, .sr, .bl]) [0] laws_markJobS_k1 (LK E (evalF E P0 k) k [0] N.laws_markJobS [.r a0, .v [.i a1]] [.sr, .sl, .sr, .bl] js) j s
theorem laws_markJobS_e (k : Nat) (a0 : List (List T)) (a1 : Int) : evalF E P0 (k + 1) N.laws_markJobS [.r a0, .v [.i a1]] = laws_markJobS_u k a0 a1 := by
  have e0 : evalF E P0 (k + 1) N.laws_markJobS [.r a0, .v [.i a1]] = laws_markJobS_U k a0 a1 (fun v => laws_markJobS_it1 k a0 a1 [] k (laws_markJobS_S1 v)) := by kernel_rfl
  have e1 : ∀ (j1 : Nat) (v : Int × Int × List (List T)), laws_markJobS_it1 k a0 a1 [] (j1 + 1) (laws_markJobS_S1 v) = laws_markJobS_L1 k (fun v => laws_markJobS_it1 k a0 a1 [] j1 (laws_markJobS_S1 v)) v := by
    intro j1 v; kernel_rfl
  have i1 : ∀ (j1 : Nat) (v : Int × Int × List (List T)), laws_markJobS_it1 k a0 a1 [] j1 (laws_markJobS_S1 v) = fixN (laws_markJobS_l1 k) j1 v := by
    intro j1 v
    refine iter_fix (laws_markJobS_S1) (laws_markJobS_l1 k) (fun j1 v => (e1 j1 v).trans ?_) j1 v
    unfold laws_markJobS_l1
    rfl
  rw [e0]; unfold laws_markJobS_u
  simp only [i1]
def laws_markAnsS_L1 (k : Nat) (G1 : (Int × Int × List (List T)) → Option Outs) : (Int × Int × List (List T)) → Option Outs := fun (v15, v16, w8) =>
 bif (decide (v16 < (w8.length : Int))) then
  chk (decide (0 ≤ v16) && decide (v16 < (w8.length : Int))) <|
  chk (decide (0 ≤ v16) && decide (v16 < ((put_ w8 v16.toNat 0 [.i v15]).length : Int))) <|
  chk (decide (0 ≤ v16) && decide (v16 < ((put_ (put_ w8 v16.toNat 0 [.i v15]) v16.toNat 1 [.i (IntKind.wrap .i64 (v15 + 1))]).length : Int))) <|
  bindO (evalF E P0 k N.laws_markIntS [.r ((at_ (put_ (put_ w8 v16.toNat 0 [.i v15]) v16.toNat 1 [.i (IntKind.wrap .i64 (v15 + 1))]) v16.toNat 2).asR), .v [.i (IntKind.wrap .i64 ((IntKind.wrap .i64 (v15 + 1)) + 1))]]) fun o48 =>
  G1 ((o48.t 0).asI, (IntKind.wrap .i64 (v16 + 1)), (put_ (put_ (put_ w8 v16.toNat 0 [.i v15]) v16.toNat 1 [.i (IntKind.wrap .i64 (v15 + 1))]) v16.toNat 2 [.r ((o48.vt 0 0).asR)]))
 else
  some ⟨[.i v15], [[.r w8]]⟩
def laws_markAnsS_k1 : List Nat := [0, 1, 4, 5, 33]
def laws_markAnsS_S1 : (Int × Int × List (List T)) → St := fun (v15, v16, w8) => ⟨ofSl [(0, .ref (0, 0)), (1, .i .i64 v15), (4, .i .i64 0), (5, .i .i64 v16), (33, .skip)], Mem.put (ofMem [((0, 0), .deep 80 w8 none)]) modeNm .dead⟩
def laws_markAnsS_l1 (k : Nat) (G1 : (Int × Int × List (List T)) → Option Outs) : (Int × Int × List (List T)) → Option Outs :=
  laws_markAnsS_L1 k G1
def laws_markAnsS_U (k : Nat) (a0 : List (List T)) (a1 : Int) (R1 : (Int × Int × List (List T)) → Option Outs) : Option Outs :=
 R1 (a1, 0, a0)
def laws_markAnsS_u (k : Nat) (a0 : List (List T)) (a1 : Int) : Option Outs :=
  laws_markAnsS_U k a0 a1 (fun v => fixN (laws_markAnsS_l1 k) k v)
def laws_markAnsS_it1 (k : Nat) (a0 : List (List T)) (a1 : Int) (js : List Nat) (j : Nat) (s : St) : Option Outs := iter E (LB E (evalF E P0 k) k [0] N.laws_markAnsS [.sr, .sl, .sr, .bl]) [0] laws_markAnsS_k1 (LK E (evalF E P0 k) k [0] N.laws_markAnsS [.r a0, .v [.i a1]] [.sr, .sl, .sr, .bl] js) j s
theorem laws_markAnsS_e (k : Nat) (a0 : List (List T)) (a1 : Int) : evalF E P0 (k + 1) N.laws_markAnsS [.r a0, .v [.i a1]] = laws_markAnsS_u k a0 a1 := by
  have e0 : evalF E P0 (k + 1) N.laws_markAnsS [.r a0, .v [.i a1]] = laws_markAnsS_U k a0 a1 (fun v => laws_markAnsS_it1 k a0 a1 [] k (laws_markAnsS_S1 v)) := by kernel_rfl
  have e1 : ∀ (j1 : Nat) (v : Int × Int × List (List T)), laws_markAnsS_it1 k a0 a1 [] (j1 + 1) (laws_markAnsS_S1 v) = laws_markAnsS_L1 k (fun v => laws_markAnsS_it1 k a0 a1 [] j1 (laws_markAnsS_S1 v)) v := by
    intro j1 v; kernel_rfl
  have i1 : ∀ (j1 : Nat) (v : Int × Int × List (List T)), laws_markAnsS_it1 k a0 a1 [] j1 (laws_markAnsS_S1 v) = fixN (laws_markAnsS_l1 k) j1 v := by
    intro j1 v
    refine iter_fix (laws_markAnsS_S1) (laws_markAnsS_l1 k) (fun j1 v => (e1 j1 v).trans ?_) j1 v
    unfold laws_markAnsS_l1
    rfl
  rw [e0]; unfold laws_markAnsS_u
  simp only [i1]
def laws_markTurnS_L1 (k : Nat) (G1 : (Int × Int × List (List T)) → Option Outs) : (Int × Int × List (List T)) → Option Outs := fun (v15, v16, w8) =>
 bif (decide (v16 < (w8.length : Int))) then
  chk (decide (0 ≤ v16) && decide (v16 < (w8.length : Int))) <|
  chk (decide (0 ≤ v16) && decide (v16 < ((put_ w8 v16.toNat 0 [.i v15]).length : Int))) <|
  chk (decide (0 ≤ v16) && decide (v16 < ((put_ (put_ w8 v16.toNat 0 [.i v15]) v16.toNat 1 [.i (IntKind.wrap .i64 (v15 + 1))]).length : Int))) <|
  chk (decide (0 ≤ v16) && decide (v16 < ((put_ (put_ (put_ w8 v16.toNat 0 [.i v15]) v16.toNat 1 [.i (IntKind.wrap .i64 (v15 + 1))]) v16.toNat 2 [.i (IntKind.wrap .i64 ((IntKind.wrap .i64 (v15 + 1)) + 1))]).length : Int))) <|
  chk (decide (0 ≤ v16) && decide (v16 < ((put_ (put_ (put_ (put_ w8 v16.toNat 0 [.i v15]) v16.toNat 1 [.i (IntKind.wrap .i64 (v15 + 1))]) v16.toNat 2 [.i (IntKind.wrap .i64 ((IntKind.wrap .i64 (v15 + 1)) + 1))]) v16.toNat 3 [.i (IntKind.wrap .i64 ((IntKind.wrap .i64 ((IntKind.wrap .i64 (v15 + 1)) + 1)) + 1))]).length : Int))) <|
  bindO (evalF E P0 k N.laws_markIntS [.r ((at_ (put_ (put_ (put_ (put_ w8 v16.toNat 0 [.i v15]) v16.toNat 1 [.i (IntKind.wrap .i64 (v15 + 1))]) v16.toNat 2 [.i (IntKind.wrap .i64 ((IntKind.wrap .i64 (v15 + 1)) + 1))]) v16.toNat 3 [.i (IntKind.wrap .i64 ((IntKind.wrap .i64 ((IntKind.wrap .i64 (v15 + 1)) + 1)) + 1))]) v16.toNat 4).asR), .v [.i (IntKind.wrap .i64 ((IntKind.wrap .i64 ((IntKind.wrap .i64 ((IntKind.wrap .i64 (v15 + 1)) + 1)) + 1)) + 1))]]) fun o143 =>
  chk (decide (0 ≤ v16) && decide (v16 < ((put_ (put_ (put_ (put_ w8 v16.toNat 0 [.i v15]) v16.toNat 1 [.i (IntKind.wrap .i64 (v15 + 1))]) v16.toNat 2 [.i (IntKind.wrap .i64 ((IntKind.wrap .i64 (v15 + 1)) + 1))]) v16.toNat 3 [.i (IntKind.wrap .i64 ((IntKind.wrap .i64 ((IntKind.wrap .i64 (v15 + 1)) + 1)) + 1))]).length : Int))) <|
  chk (decide (0 ≤ v16) && decide (v16 < ((put_ (put_ (put_ (put_ (put_ (put_ w8 v16.toNat 0 [.i v15]) v16.toNat 1 [.i (IntKind.wrap .i64 (v15 + 1))]) v16.toNat 2 [.i (IntKind.wrap .i64 ((IntKind.wrap .i64 (v15 + 1)) + 1))]) v16.toNat 3 [.i (IntKind.wrap .i64 ((IntKind.wrap .i64 ((IntKind.wrap .i64 (v15 + 1)) + 1)) + 1))]) v16.toNat 4 [.r ((o143.vt 0 0).asR)]) v16.toNat 5 [.i (o143.t 0).asI]).length : Int))) <|
  chk (decide (0 ≤ v16) && decide (v16 < ((put_ (put_ (put_ (put_ (put_ (put_ (put_ w8 v16.toNat 0 [.i v15]) v16.toNat 1 [.i (IntKind.wrap .i64 (v15 + 1))]) v16.toNat 2 [.i (IntKind.wrap .i64 ((IntKind.wrap .i64 (v15 + 1)) + 1))]) v16.toNat 3 [.i (IntKind.wrap .i64 ((IntKind.wrap .i64 ((IntKind.wrap .i64 (v15 + 1)) + 1)) + 1))]) v16.toNat 4 [.r ((o143.vt 0 0).asR)]) v16.toNat 5 [.i (o143.t 0).asI]) v16.toNat 6 [.i (IntKind.wrap .i64 ((o143.t 0).asI + 1))]).length : Int))) <|
  bindO (evalF E P0 k N.laws_markIntS [.r ((at_ (put_ (put_ (put_ (put_ (put_ (put_ (put_ w8 v16.toNat 0 [.i v15]) v16.toNat 1 [.i (IntKind.wrap .i64 (v15 + 1))]) v16.toNat 2 [.i (IntKind.wrap .i64 ((IntKind.wrap .i64 (v15 + 1)) + 1))]) v16.toNat 3 [.i (IntKind.wrap .i64 ((IntKind.wrap .i64 ((IntKind.wrap .i64 (v15 + 1)) + 1)) + 1))]) v16.toNat 4 [.r ((o143.vt 0 0).asR)]) v16.toNat 5 [.i (o143.t 0).asI]) v16.toNat 6 [.i (IntKind.wrap .i64 ((o143.t 0).asI + 1))]) v16.toNat 7).asR), .v [.i (IntKind.wrap .i64 ((IntKind.wrap .i64 ((o143.t 0).asI + 1)) + 1))]]) fun o144 =>
  G1 ((o144.t 0).asI, (IntKind.wrap .i64 (v16 + 1)), (put_ (put_ (put_ (put_ (put_ (put_ (put_ (put_ w8 v16.toNat 0 [.i v15]) v16.toNat 1 [.i (IntKind.wrap .i64 (v15 + 1))]) v16.toNat 2 [.i (IntKind.wrap .i64 ((IntKind.wrap .i64 (v15 + 1)) + 1))]) v16.toNat 3 [.i (IntKind.wrap .i64 ((IntKind.wrap .i64 ((IntKind.wrap .i64 (v15 + 1)) + 1)) + 1))]) v16.toNat 4 [.r ((o143.vt 0 0).asR)]) v16.toNat 5 [.i (o143.t 0).asI]) v16.toNat 6 [.i (IntKind.wrap .i64 ((o143.t 0).asI + 1))]) v16.toNat 7 [.r ((o144.vt 0 0).asR)]))
 else
  some ⟨[.i v15], [[.r w8]]⟩
def laws_markTurnS_k1 : List Nat := [0, 1, 4, 5, 76]
def laws_markTurnS_S1 : (Int × Int × List (List T)) → St := fun (v15, v16, w8) => ⟨ofSl [(0, .ref (0, 0)), (1, .i .i64 v15), (4, .i .i64 0), (5, .i .i64 v16), (76, .skip)], Mem.put (ofMem [((0, 0), .deep 83 w8 none)]) modeNm .dead⟩
def laws_markTurnS_l1 (k : Nat) (G1 : (Int × Int × List (List T)) → Option Outs) : (Int × Int × List (List T)) → Option Outs :=
  laws_markTurnS_L1 k G1
def laws_markTurnS_U (k : Nat) (a0 : List (List T)) (a1 : Int) (R1 : (Int × Int × List (List T)) → Option Outs) : Option Outs :=
 R1 (a1, 0, a0)
def laws_markTurnS_u (k : Nat) (a0 : List (List T)) (a1 : Int) : Option Outs :=
  laws_markTurnS_U k a0 a1 (fun v => fixN (laws_markTurnS_l1 k) k v)
def laws_markTurnS_it1 (k : Nat) (a0 : List (List T)) (a1 : Int) (js : List Nat) (j : Nat) (s : St) : Option Outs := iter E (LB E (evalF E P0 k) k [0] N.laws_markTurnS [.sr, .sl, .sr, .bl]) [0] laws_markTurnS_k1 (LK E (evalF E P0 k) k [0] N.laws_markTurnS [.r a0, .v [.i a1]] [.sr, .sl, .sr, .bl] js) j s
theorem laws_markTurnS_e (k : Nat) (a0 : List (List T)) (a1 : Int) : evalF E P0 (k + 1) N.laws_markTurnS [.r a0, .v [.i a1]] = laws_markTurnS_u k a0 a1 := by
  have e0 : evalF E P0 (k + 1) N.laws_markTurnS [.r a0, .v [.i a1]] = laws_markTurnS_U k a0 a1 (fun v => laws_markTurnS_it1 k a0 a1 [] k (laws_markTurnS_S1 v)) := by kernel_rfl
  have e1 : ∀ (j1 : Nat) (v : Int × Int × List (List T)), laws_markTurnS_it1 k a0 a1 [] (j1 + 1) (laws_markTurnS_S1 v) = laws_markTurnS_L1 k (fun v => laws_markTurnS_it1 k a0 a1 [] j1 (laws_markTurnS_S1 v)) v := by
    intro j1 v; kernel_rfl
  have i1 : ∀ (j1 : Nat) (v : Int × Int × List (List T)), laws_markTurnS_it1 k a0 a1 [] j1 (laws_markTurnS_S1 v) = fixN (laws_markTurnS_l1 k) j1 v := by
    intro j1 v
    refine iter_fix (laws_markTurnS_S1) (laws_markTurnS_l1 k) (fun j1 v => (e1 j1 v).trans ?_) j1 v
    unfold laws_markTurnS_l1
    rfl
  rw [e0]; unfold laws_markTurnS_u
  simp only [i1]
def laws_markEng_u (k : Nat) (a0_0 : Int) (a0_1 : Int) (a0_2 : Int) (a0_3 : List (List T)) (a0_4 : Int) (a0_5 : Int) (a0_6 : Int) (a0_7 : Int) (a0_8 : Int) (a0_9 : List (List T)) (a0_10 : Int) (a0_11 : Bool) (a0_12 : Bool) (a0_13 : List (List T)) (a0_14 : List (List T)) (a0_15 : List (List T)) (a0_16 : List (List T)) (a1 : Int) : Option Outs :=
 bindO (evalF E P0 k N.laws_markArr [.s [.i a0_0, .i a0_1, .i a0_2, .r a0_3, .i a0_4, .i a0_5, .i a0_6, .i a0_7, .i a0_8, .r a0_9, .i a0_10, .b a0_11, .b a0_12], .v [.i a1]]) fun o2 =>
 bindO (evalF E P0 k N.laws_markCmdS [.r a0_13, .v [.i (o2.t 0).asI]]) fun o4 =>
 bindO (evalF E P0 k N.laws_markJobS [.r a0_14, .v [.i (o4.t 0).asI]]) fun o6 =>
 bindO (evalF E P0 k N.laws_markAnsS [.r a0_15, .v [.i (o6.t 0).asI]]) fun o8 =>
 bindO (evalF E P0 k N.laws_markTurnS [.r a0_16, .v [.i (o8.t 0).asI]]) fun o10 =>
 some ⟨[.i (o10.t 0).asI], [[.i a0_0, .i a0_1, .i a0_2, .r (o2.vt 0 3).asR, .i a0_4, .i a0_5, .i a0_6, .i a0_7, .i a0_8, .r (o2.vt 0 9).asR, .i a0_10, .b a0_11, .b a0_12, .r (o4.vt 0 0).asR, .r (o6.vt 0 0).asR, .r (o8.vt 0 0).asR, .r (o10.vt 0 0).asR]]⟩
theorem laws_markEng_e (k : Nat) (a0_0 : Int) (a0_1 : Int) (a0_2 : Int) (a0_3 : List (List T)) (a0_4 : Int) (a0_5 : Int) (a0_6 : Int) (a0_7 : Int) (a0_8 : Int) (a0_9 : List (List T)) (a0_10 : Int) (a0_11 : Bool) (a0_12 : Bool) (a0_13 : List (List T)) (a0_14 : List (List T)) (a0_15 : List (List T)) (a0_16 : List (List T)) (a1 : Int) : evalF E P0 (k + 1) N.laws_markEng [.s [.i a0_0, .i a0_1, .i a0_2, .r a0_3, .i a0_4, .i a0_5, .i a0_6, .i a0_7, .i a0_8, .r a0_9, .i a0_10, .b a0_11, .b a0_12, .r a0_13, .r a0_14, .r a0_15, .r a0_16], .v [.i a1]] = laws_markEng_u k a0_0 a0_1 a0_2 a0_3 a0_4 a0_5 a0_6 a0_7 a0_8 a0_9 a0_10 a0_11 a0_12 a0_13 a0_14 a0_15 a0_16 a1 := by kernel_rfl
def laws_heldIntS_L1 (k : Nat) (a0 : List (List T)) (G1 : (Int × Int) → Option Outs) : (Int × Int) → Option Outs := fun (v15, v16) =>
 bif (decide (v16 < (a0.length : Int))) then
  chk (decide (0 ≤ v16) && decide (v16 < (a0.length : Int))) <|
  bif ((at_ a0 v16.toNat 0).asI != v15) then
   some ⟨[.i (-1)], []⟩
  else
   G1 ((IntKind.wrap .i64 (v15 + 1)), (IntKind.wrap .i64 (v16 + 1)))
 else
  some ⟨[.i v15], []⟩
def laws_heldIntS_k1 : List Nat := [0, 1, 4, 5, 20]
def laws_heldIntS_S1 (a0 : List (List T)) : (Int × Int) → St := fun (v15, v16) => ⟨ofSl [(0, .sl 3 a0), (1, .i .i64 v15), (4, .i .i64 0), (5, .i .i64 v16), (20, .skip)], ofMem []⟩
def laws_heldIntS_l1 (k : Nat) (a0 : List (List T)) (G1 : (Int × Int) → Option Outs) : (Int × Int) → Option Outs :=
  laws_heldIntS_L1 k a0 G1
def laws_heldIntS_U (k : Nat) (a0 : List (List T)) (a1 : Int) (R1 : (Int × Int) → Option Outs) : Option Outs :=
 R1 (a1, 0)
def laws_heldIntS_u (k : Nat) (a0 : List (List T)) (a1 : Int) : Option Outs :=
  laws_heldIntS_U k a0 a1 (fun v => fixN (laws_heldIntS_l1 k a0) k v)
def laws_heldIntS_it1 (k : Nat) (a0 : List (List T)) (a1 : Int) (js : List Nat) (j : Nat) (s : St) : Option Outs := iter E (LB E (evalF E P0 k) k [] N.laws_heldIntS [.sr, .sl, .sr, .bl]) [] laws_heldIntS_k1 (LK E (evalF E P0 k) k [] N.laws_heldIntS [.v [.r a0], .v [.i a1]] [.sr, .sl, .sr, .bl] js) j s
theorem laws_heldIntS_e (k : Nat) (a0 : List (List T)) (a1 : Int) : evalF E P0 (k + 1) N.laws_heldIntS [.v [.r a0], .v [.i a1]] = laws_heldIntS_u k a0 a1 := by
  have e0 : evalF E P0 (k + 1) N.laws_heldIntS [.v [.r a0], .v [.i a1]] = laws_heldIntS_U k a0 a1 (fun v => laws_heldIntS_it1 k a0 a1 [] k (laws_heldIntS_S1 a0 v)) := by kernel_rfl
  have e1 : ∀ (j1 : Nat) (v : Int × Int), laws_heldIntS_it1 k a0 a1 [] (j1 + 1) (laws_heldIntS_S1 a0 v) = laws_heldIntS_L1 k a0 (fun v => laws_heldIntS_it1 k a0 a1 [] j1 (laws_heldIntS_S1 a0 v)) v := by
    intro j1 v; kernel_rfl
  have i1 : ∀ (j1 : Nat) (v : Int × Int), laws_heldIntS_it1 k a0 a1 [] j1 (laws_heldIntS_S1 a0 v) = fixN (laws_heldIntS_l1 k a0) j1 v := by
    intro j1 v
    refine iter_fix (laws_heldIntS_S1 a0) (laws_heldIntS_l1 k a0) (fun j1 v => (e1 j1 v).trans ?_) j1 v
    unfold laws_heldIntS_l1
    rfl
  rw [e0]; unfold laws_heldIntS_u
  simp only [i1]
def laws_heldIntSS_L1 (k : Nat) (a0 : List (List T)) (G1 : (Int × Int) → Option Outs) : (Int × Int) → Option Outs := fun (v15, v16) =>
 bif (decide (v16 < (a0.length : Int))) then
  chk (decide (0 ≤ v16) && decide (v16 < (a0.length : Int))) <|
  bindO (evalF E P0 k N.laws_heldIntS [.v [.r (at_ a0 v16.toNat 0).asR], .v [.i v15]]) fun o96 =>
  bif (decide ((o96.t 0).asI < 0)) then some ⟨[.i (-1)], []⟩ else G1 ((o96.t 0).asI, (IntKind.wrap .i64 (v16 + 1)))
 else
  some ⟨[.i v15], []⟩
def laws_heldIntSS_k1 : List Nat := [0, 1, 4, 5, 20]
def laws_heldIntSS_S1 (a0 : List (List T)) : (Int × Int) → St := fun (v15, v16) => ⟨ofSl [(0, .sl 55 a0), (1, .i .i64 v15), (4, .i .i64 0), (5, .i .i64 v16), (20, .skip)], ofMem []⟩
def laws_heldIntSS_l1 (k : Nat) (a0 : List (List T)) (G1 : (Int × Int) → Option Outs) : (Int × Int) → Option Outs :=
  laws_heldIntSS_L1 k a0 G1
def laws_heldIntSS_U (k : Nat) (a0 : List (List T)) (a1 : Int) (R1 : (Int × Int) → Option Outs) : Option Outs :=
 R1 (a1, 0)
def laws_heldIntSS_u (k : Nat) (a0 : List (List T)) (a1 : Int) : Option Outs :=
  laws_heldIntSS_U k a0 a1 (fun v => fixN (laws_heldIntSS_l1 k a0) k v)
def laws_heldIntSS_it1 (k : Nat) (a0 : List (List T)) (a1 : Int) (js : List Nat) (j : Nat) (s : St) : Option Outs := iter E (LB E (evalF E P0 k) k [] N.laws_heldIntSS [.sr, .sl, .sr, .bl]) [] laws_heldIntSS_k1 (LK E (evalF E P0 k) k [] N.laws_heldIntSS [.v [.r a0], .v [.i a1]] [.sr, .sl, .sr, .bl] js) j s
theorem laws_heldIntSS_e (k : Nat) (a0 : List (List T)) (a1 : Int) : evalF E P0 (k + 1) N.laws_heldIntSS [.v [.r a0], .v [.i a1]] = laws_heldIntSS_u k a0 a1 := by
  have e0 : evalF E P0 (k + 1) N.laws_heldIntSS [.v [.r a0], .v [.i a1]] = laws_heldIntSS_U k a0 a1 (fun v => laws_heldIntSS_it1 k a0 a1 [] k (laws_heldIntSS_S1 a0 v)) := by kernel_rfl
  have e1 : ∀ (j1 : Nat) (v : Int × Int), laws_heldIntSS_it1 k a0 a1 [] (j1 + 1) (laws_heldIntSS_S1 a0 v) = laws_heldIntSS_L1 k a0 (fun v => laws_heldIntSS_it1 k a0 a1 [] j1 (laws_heldIntSS_S1 a0 v)) v := by
    intro j1 v; kernel_rfl
  have i1 : ∀ (j1 : Nat) (v : Int × Int), laws_heldIntSS_it1 k a0 a1 [] j1 (laws_heldIntSS_S1 a0 v) = fixN (laws_heldIntSS_l1 k a0) j1 v := by
    intro j1 v
    refine iter_fix (laws_heldIntSS_S1 a0) (laws_heldIntSS_l1 k a0) (fun j1 v => (e1 j1 v).trans ?_) j1 v
    unfold laws_heldIntSS_l1
    rfl
  rw [e0]; unfold laws_heldIntSS_u
  simp only [i1]
def laws_heldWrS_L1 (k : Nat) (a0 : List (List T)) (G1 : (Int × Int) → Option Outs) : (Int × Int) → Option Outs := fun (v15, v16) =>
 bif (decide (v16 < (a0.length : Int))) then
  chk (decide (0 ≤ v16) && decide (v16 < (a0.length : Int))) <|
  bif ((at_ a0 v16.toNat 0).asI != v15) then
   some ⟨[.i (-1)], []⟩
  else
   chk (decide (0 ≤ v16) && decide (v16 < (a0.length : Int))) <|
   bindO (evalF E P0 k N.laws_heldIntS [.v [.r (at_ a0 v16.toNat 1).asR], .v [.i (IntKind.wrap .i64 (v15 + 1))]]) fun o96 =>
   bif (decide ((o96.t 0).asI < 0)) then some ⟨[.i (-1)], []⟩ else G1 ((o96.t 0).asI, (IntKind.wrap .i64 (v16 + 1)))
 else
  some ⟨[.i v15], []⟩
def laws_heldWrS_k1 : List Nat := [0, 1, 4, 5, 30]
def laws_heldWrS_S1 (a0 : List (List T)) : (Int × Int) → St := fun (v15, v16) => ⟨ofSl [(0, .sl 93 a0), (1, .i .i64 v15), (4, .i .i64 0), (5, .i .i64 v16), (30, .skip)], ofMem []⟩
def laws_heldWrS_l1 (k : Nat) (a0 : List (List T)) (G1 : (Int × Int) → Option Outs) : (Int × Int) → Option Outs :=
  laws_heldWrS_L1 k a0 G1
def laws_heldWrS_U (k : Nat) (a0 : List (List T)) (a1 : Int) (R1 : (Int × Int) → Option Outs) : Option Outs :=
 R1 (a1, 0)
def laws_heldWrS_u (k : Nat) (a0 : List (List T)) (a1 : Int) : Option Outs :=
  laws_heldWrS_U k a0 a1 (fun v => fixN (laws_heldWrS_l1 k a0) k v)
def laws_heldWrS_it1 (k : Nat) (a0 : List (List T)) (a1 : Int) (js : List Nat) (j : Nat) (s : St) : Option Outs := iter E (LB E (evalF E P0 k) k [] N.laws_heldWrS [.sr, .sl, .sr, .bl]) [] laws_heldWrS_k1 (LK E (evalF E P0 k) k [] N.laws_heldWrS [.v [.r a0], .v [.i a1]] [.sr, .sl, .sr, .bl] js) j s
theorem laws_heldWrS_e (k : Nat) (a0 : List (List T)) (a1 : Int) : evalF E P0 (k + 1) N.laws_heldWrS [.v [.r a0], .v [.i a1]] = laws_heldWrS_u k a0 a1 := by
  have e0 : evalF E P0 (k + 1) N.laws_heldWrS [.v [.r a0], .v [.i a1]] = laws_heldWrS_U k a0 a1 (fun v => laws_heldWrS_it1 k a0 a1 [] k (laws_heldWrS_S1 a0 v)) := by kernel_rfl
  have e1 : ∀ (j1 : Nat) (v : Int × Int), laws_heldWrS_it1 k a0 a1 [] (j1 + 1) (laws_heldWrS_S1 a0 v) = laws_heldWrS_L1 k a0 (fun v => laws_heldWrS_it1 k a0 a1 [] j1 (laws_heldWrS_S1 a0 v)) v := by
    intro j1 v; kernel_rfl
  have i1 : ∀ (j1 : Nat) (v : Int × Int), laws_heldWrS_it1 k a0 a1 [] j1 (laws_heldWrS_S1 a0 v) = fixN (laws_heldWrS_l1 k a0) j1 v := by
    intro j1 v
    refine iter_fix (laws_heldWrS_S1 a0) (laws_heldWrS_l1 k a0) (fun j1 v => (e1 j1 v).trans ?_) j1 v
    unfold laws_heldWrS_l1
    rfl
  rw [e0]; unfold laws_heldWrS_u
  simp only [i1]
def laws_heldMemS_L1 (k : Nat) (a0 : List (List T)) (G1 : (Int × Int) → Option Outs) : (Int × Int) → Option Outs := fun (v15, v16) =>
 bif (decide (v16 < (a0.length : Int))) then
  chk (decide (0 ≤ v16) && decide (v16 < (a0.length : Int))) <|
  bindO (evalF E P0 k N.laws_heldIntSS [.v [.r (at_ a0 v16.toNat 0).asR], .v [.i v15]]) fun o284 =>
  bif (decide ((o284.t 0).asI < 0)) then
   some ⟨[.i (-1)], []⟩
  else
   chk (decide (0 ≤ v16) && decide (v16 < (a0.length : Int))) <|
   bindO (evalF E P0 k N.laws_heldWrS [.v [.r (at_ a0 v16.toNat 1).asR], .v [.i (o284.t 0).asI]]) fun o286 =>
   bif (decide ((o286.t 0).asI < 0)) then
    some ⟨[.i (-1)], []⟩
   else
    chk (decide (0 ≤ v16) && decide (v16 < (a0.length : Int))) <|
    bif (!((at_ a0 v16.toNat 2).asB == ((Int.tmod (o286.t 0).asI 3) == 0))) then
     some ⟨[.i (-1)], []⟩
    else
     chk (decide (0 ≤ v16) && decide (v16 < (a0.length : Int))) <|
     bindO (evalF E P0 k N.laws_heldIntS [.v [.r (at_ a0 v16.toNat 3).asR], .v [.i (IntKind.wrap .i64 ((o286.t 0).asI + 1))]]) fun o288 =>
     bif (decide ((o288.t 0).asI < 0)) then some ⟨[.i (-1)], []⟩ else G1 ((o288.t 0).asI, (IntKind.wrap .i64 (v16 + 1)))
 else
  some ⟨[.i v15], []⟩
def laws_heldMemS_k1 : List Nat := [0, 1, 4, 5, 50]
def laws_heldMemS_S1 (a0 : List (List T)) : (Int × Int) → St := fun (v15, v16) => ⟨ofSl [(0, .sl 57 a0), (1, .i .i64 v15), (4, .i .i64 0), (5, .i .i64 v16), (50, .skip)], ofMem []⟩
def laws_heldMemS_l1 (k : Nat) (a0 : List (List T)) (G1 : (Int × Int) → Option Outs) : (Int × Int) → Option Outs :=
  laws_heldMemS_L1 k a0 G1
def laws_heldMemS_U (k : Nat) (a0 : List (List T)) (a1 : Int) (R1 : (Int × Int) → Option Outs) : Option Outs :=
 R1 (a1, 0)
def laws_heldMemS_u (k : Nat) (a0 : List (List T)) (a1 : Int) : Option Outs :=
  laws_heldMemS_U k a0 a1 (fun v => fixN (laws_heldMemS_l1 k a0) k v)
def laws_heldMemS_it1 (k : Nat) (a0 : List (List T)) (a1 : Int) (js : List Nat) (j : Nat) (s : St) : Option Outs := iter E (LB E (evalF E P0 k) k [] N.laws_heldMemS [.sr, .sl, .sr, .bl]) [] laws_heldMemS_k1 (LK E (evalF E P0 k) k [] N.laws_heldMemS [.v [.r a0], .v [.i a1]] [.sr, .sl, .sr, .bl] js) j s
theorem laws_heldMemS_e (k : Nat) (a0 : List (List T)) (a1 : Int) : evalF E P0 (k + 1) N.laws_heldMemS [.v [.r a0], .v [.i a1]] = laws_heldMemS_u k a0 a1 := by
  have e0 : evalF E P0 (k + 1) N.laws_heldMemS [.v [.r a0], .v [.i a1]] = laws_heldMemS_U k a0 a1 (fun v => laws_heldMemS_it1 k a0 a1 [] k (laws_heldMemS_S1 a0 v)) := by kernel_rfl
  have e1 : ∀ (j1 : Nat) (v : Int × Int), laws_heldMemS_it1 k a0 a1 [] (j1 + 1) (laws_heldMemS_S1 a0 v) = laws_heldMemS_L1 k a0 (fun v => laws_heldMemS_it1 k a0 a1 [] j1 (laws_heldMemS_S1 a0 v)) v := by
    intro j1 v; kernel_rfl
  have i1 : ∀ (j1 : Nat) (v : Int × Int), laws_heldMemS_it1 k a0 a1 [] j1 (laws_heldMemS_S1 a0 v) = fixN (laws_heldMemS_l1 k a0) j1 v := by
    intro j1 v
    refine iter_fix (laws_heldMemS_S1 a0) (laws_heldMemS_l1 k a0) (fun j1 v => (e1 j1 v).trans ?_) j1 v
    unfold laws_heldMemS_l1
    rfl
  rw [e0]; unfold laws_heldMemS_u
  simp only [i1]
def laws_heldEntS_L1 (k : Nat) (a0 : List (List T)) (G1 : (Int × Int) → Option Outs) : (Int × Int) → Option Outs := fun (v15, v16) =>
 bif (decide (v16 < (a0.length : Int))) then
  chk (decide (0 ≤ v16) && decide (v16 < (a0.length : Int))) <|
  bif ((at_ a0 v16.toNat 0).asI != v15) then
   some ⟨[.i (-1)], []⟩
  else
   chk (decide (0 ≤ v16) && decide (v16 < (a0.length : Int))) <|
   bindO (evalF E P0 k N.laws_heldIntS [.v [.r (at_ a0 v16.toNat 1).asR], .v [.i (IntKind.wrap .i64 (v15 + 1))]]) fun o96 =>
   bif (decide ((o96.t 0).asI < 0)) then some ⟨[.i (-1)], []⟩ else G1 ((o96.t 0).asI, (IntKind.wrap .i64 (v16 + 1)))
 else
  some ⟨[.i v15], []⟩
def laws_heldEntS_k1 : List Nat := [0, 1, 4, 5, 30]
def laws_heldEntS_S1 (a0 : List (List T)) : (Int × Int) → St := fun (v15, v16) => ⟨ofSl [(0, .sl 99 a0), (1, .i .i64 v15), (4, .i .i64 0), (5, .i .i64 v16), (30, .skip)], ofMem []⟩
def laws_heldEntS_l1 (k : Nat) (a0 : List (List T)) (G1 : (Int × Int) → Option Outs) : (Int × Int) → Option Outs :=
  laws_heldEntS_L1 k a0 G1
def laws_heldEntS_U (k : Nat) (a0 : List (List T)) (a1 : Int) (R1 : (Int × Int) → Option Outs) : Option Outs :=
 R1 (a1, 0)
def laws_heldEntS_u (k : Nat) (a0 : List (List T)) (a1 : Int) : Option Outs :=
  laws_heldEntS_U k a0 a1 (fun v => fixN (laws_heldEntS_l1 k a0) k v)
def laws_heldEntS_it1 (k : Nat) (a0 : List (List T)) (a1 : Int) (js : List Nat) (j : Nat) (s : St) : Option Outs := iter E (LB E (evalF E P0 k) k [] N.laws_heldEntS [.sr, .sl, .sr, .bl]) [] laws_heldEntS_k1 (LK E (evalF E P0 k) k [] N.laws_heldEntS [.v [.r a0], .v [.i a1]] [.sr, .sl, .sr, .bl] js) j s
theorem laws_heldEntS_e (k : Nat) (a0 : List (List T)) (a1 : Int) : evalF E P0 (k + 1) N.laws_heldEntS [.v [.r a0], .v [.i a1]] = laws_heldEntS_u k a0 a1 := by
  have e0 : evalF E P0 (k + 1) N.laws_heldEntS [.v [.r a0], .v [.i a1]] = laws_heldEntS_U k a0 a1 (fun v => laws_heldEntS_it1 k a0 a1 [] k (laws_heldEntS_S1 a0 v)) := by kernel_rfl
  have e1 : ∀ (j1 : Nat) (v : Int × Int), laws_heldEntS_it1 k a0 a1 [] (j1 + 1) (laws_heldEntS_S1 a0 v) = laws_heldEntS_L1 k a0 (fun v => laws_heldEntS_it1 k a0 a1 [] j1 (laws_heldEntS_S1 a0 v)) v := by
    intro j1 v; kernel_rfl
  have i1 : ∀ (j1 : Nat) (v : Int × Int), laws_heldEntS_it1 k a0 a1 [] j1 (laws_heldEntS_S1 a0 v) = fixN (laws_heldEntS_l1 k a0) j1 v := by
    intro j1 v
    refine iter_fix (laws_heldEntS_S1 a0) (laws_heldEntS_l1 k a0) (fun j1 v => (e1 j1 v).trans ?_) j1 v
    unfold laws_heldEntS_l1
    rfl
  rw [e0]; unfold laws_heldEntS_u
  simp only [i1]
def laws_heldArr_u (k : Nat) (a0_0 : Int) (a0_1 : Int) (a0_2 : Int) (a0_3 : List (List T)) (a0_4 : Int) (a0_5 : Int) (a0_6 : Int) (a0_7 : Int) (a0_8 : Int) (a0_9 : List (List T)) (a0_10 : Int) (a0_11 : Bool) (a0_12 : Bool) (a1 : Int) : Option Outs :=
 bindO (evalF E P0 k N.laws_heldMemS [.v [.r a0_3], .v [.i a1]]) fun o2 =>
 bif (decide ((o2.t 0).asI < 0)) then
  some ⟨[.i (-1)], []⟩
 else
  bindO (evalF E P0 k N.laws_heldEntS [.v [.r a0_9], .v [.i (o2.t 0).asI]]) fun o4 =>
  bif (decide ((o4.t 0).asI < 0)) then some ⟨[.i (-1)], []⟩ else some ⟨[.i (o4.t 0).asI], []⟩
theorem laws_heldArr_e (k : Nat) (a0_0 : Int) (a0_1 : Int) (a0_2 : Int) (a0_3 : List (List T)) (a0_4 : Int) (a0_5 : Int) (a0_6 : Int) (a0_7 : Int) (a0_8 : Int) (a0_9 : List (List T)) (a0_10 : Int) (a0_11 : Bool) (a0_12 : Bool) (a1 : Int) : evalF E P0 (k + 1) N.laws_heldArr [.v [.i a0_0, .i a0_1, .i a0_2, .r a0_3, .i a0_4, .i a0_5, .i a0_6, .i a0_7, .i a0_8, .r a0_9, .i a0_10, .b a0_11, .b a0_12], .v [.i a1]] = laws_heldArr_u k a0_0 a0_1 a0_2 a0_3 a0_4 a0_5 a0_6 a0_7 a0_8 a0_9 a0_10 a0_11 a0_12 a1 := by kernel_rfl
def laws_heldCmdS_L1 (k : Nat) (a0 : List (List T)) (G1 : (Int × Int) → Option Outs) : (Int × Int) → Option Outs := fun (v15, v16) =>
 bif (decide (v16 < (a0.length : Int))) then
  chk (decide (0 ≤ v16) && decide (v16 < (a0.length : Int))) <|
  bif ((at_ a0 v16.toNat 0).asI != v15) then
   some ⟨[.i (-1)], []⟩
  else
   chk (decide (0 ≤ v16) && decide (v16 < (a0.length : Int))) <|
   bif ((at_ a0 v16.toNat 1).asI != (IntKind.wrap .i64 (v15 + 1))) then
    some ⟨[.i (-1)], []⟩
   else
    chk (decide (0 ≤ v16) && decide (v16 < (a0.length : Int))) <|
    bif ((at_ a0 v16.toNat 2).asI != (IntKind.wrap .i64 ((IntKind.wrap .i64 (v15 + 1)) + 1))) then
     some ⟨[.i (-1)], []⟩
    else
     chk (decide (0 ≤ v16) && decide (v16 < (a0.length : Int))) <|
     bif ((at_ a0 v16.toNat 3).asI != (IntKind.wrap .i64 ((IntKind.wrap .i64 ((IntKind.wrap .i64 (v15 + 1)) + 1)) + 1))) then
      some ⟨[.i (-1)], []⟩
     else
      chk (decide (0 ≤ v16) && decide (v16 < (a0.length : Int))) <|
      bindO (evalF E P0 k N.laws_heldIntS [.v [.r (at_ a0 v16.toNat 4).asR], .v [.i (IntKind.wrap .i64 ((IntKind.wrap .i64 ((IntKind.wrap .i64 ((IntKind.wrap .i64 (v15 + 1)) + 1)) + 1)) + 1))]]) fun o96 =>
      bif (decide ((o96.t 0).asI < 0)) then some ⟨[.i (-1)], []⟩ else G1 ((o96.t 0).asI, (IntKind.wrap .i64 (v16 + 1)))
 else
  some ⟨[.i v15], []⟩
def laws_heldCmdS_k1 : List Nat := [0, 1, 4, 5, 57]
def laws_heldCmdS_S1 (a0 : List (List T)) : (Int × Int) → St := fun (v15, v16) => ⟨ofSl [(0, .sl 74 a0), (1, .i .i64 v15), (4, .i .i64 0), (5, .i .i64 v16), (57, .skip)], ofMem []⟩
def laws_heldCmdS_l1 (k : Nat) (a0 : List (List T)) (G1 : (Int × Int) → Option Outs) : (Int × Int) → Option Outs :=
  laws_heldCmdS_L1 k a0 G1
def laws_heldCmdS_U (k : Nat) (a0 : List (List T)) (a1 : Int) (R1 : (Int × Int) → Option Outs) : Option Outs :=
 R1 (a1, 0)
def laws_heldCmdS_u (k : Nat) (a0 : List (List T)) (a1 : Int) : Option Outs :=
  laws_heldCmdS_U k a0 a1 (fun v => fixN (laws_heldCmdS_l1 k a0) k v)
def laws_heldCmdS_it1 (k : Nat) (a0 : List (List T)) (a1 : Int) (js : List Nat) (j : Nat) (s : St) : Option Outs := iter E (LB E (evalF E P0 k) k [] N.laws_heldCmdS [.sr, .sl, .sr, .bl]) [] laws_heldCmdS_k1 (LK E (evalF E P0 k) k [] N.laws_heldCmdS [.v [.r a0], .v [.i a1]] [.sr, .sl, .sr, .bl] js) j s
theorem laws_heldCmdS_e (k : Nat) (a0 : List (List T)) (a1 : Int) : evalF E P0 (k + 1) N.laws_heldCmdS [.v [.r a0], .v [.i a1]] = laws_heldCmdS_u k a0 a1 := by
  have e0 : evalF E P0 (k + 1) N.laws_heldCmdS [.v [.r a0], .v [.i a1]] = laws_heldCmdS_U k a0 a1 (fun v => laws_heldCmdS_it1 k a0 a1 [] k (laws_heldCmdS_S1 a0 v)) := by kernel_rfl
  have e1 : ∀ (j1 : Nat) (v : Int × Int), laws_heldCmdS_it1 k a0 a1 [] (j1 + 1) (laws_heldCmdS_S1 a0 v) = laws_heldCmdS_L1 k a0 (fun v => laws_heldCmdS_it1 k a0 a1 [] j1 (laws_heldCmdS_S1 a0 v)) v := by
    intro j1 v; kernel_rfl
  have i1 : ∀ (j1 : Nat) (v : Int × Int), laws_heldCmdS_it1 k a0 a1 [] j1 (laws_heldCmdS_S1 a0 v) = fixN (laws_heldCmdS_l1 k a0) j1 v := by
    intro j1 v
    refine iter_fix (laws_heldCmdS_S1 a0) (laws_heldCmdS_l1 k a0) (fun j1 v => (e1 j1 v).trans ?_) j1 v
    unfold laws_heldCmdS_l1
    rfl
  rw [e0]; unfold laws_heldCmdS_u
  simp only [i1]
def laws_heldJobS_L1 (k : Nat) (a0 : List (List T)) (G1 : (Int × Int) → Option Outs) : (Int × Int) → Option Outs := fun (v15, v16) =>
 bif (decide (v16 < (a0.length : Int))) then
  chk (decide (0 ≤ v16) && decide (v16 < (a0.length : Int))) <|
  bif ((at_ a0 v16.toNat 0).asI != v15) then
   some ⟨[.i (-1)], []⟩
  else
   chk (decide (0 ≤ v16) && decide (v16 < (a0.length : Int))) <|
   bif ((at_ a0 v16.toNat 1).asI != (IntKind.wrap .i64 (v15 + 1))) then
    some ⟨[.i (-1)], []⟩
   else
    chk (decide (0 ≤ v16) && decide (v16 < (a0.length : Int))) <|
    bif ((at_ a0 v16.toNat 2).asI != (IntKind.wrap .i64 ((IntKind.wrap .i64 (v15 + 1)) + 1))) then
     some ⟨[.i (-1)], []⟩
    else
     chk (decide (0 ≤ v16) && decide (v16 < (a0.length : Int))) <|
     bif ((at_ a0 v16.toNat 3).asI != (IntKind.wrap .i64 ((IntKind.wrap .i64 ((IntKind.wrap .i64 (v15 + 1)) + 1)) + 1))) then
      some ⟨[.i (-1)], []⟩
     else
      chk (decide (0 ≤ v16) && decide (v16 < (a0.length : Int))) <|
      bindO (evalF E P0 k N.laws_heldIntS [.v [.r (at_ a0 v16.toNat 4).asR], .v [.i (IntKind.wrap .i64 ((IntKind.wrap .i64 ((IntKind.wrap .i64 ((IntKind.wrap .i64 (v15 + 1)) + 1)) + 1)) + 1))]]) fun o190 =>
      bif (decide ((o190.t 0).asI < 0)) then
       some ⟨[.i (-1)], []⟩
      else
       chk (decide (0 ≤ v16) && decide (v16 < (a0.length : Int))) <|
       bif ((at_ a0 v16.toNat 5).asI != (o190.t 0).asI) then
        some ⟨[.i (-1)], []⟩
       else
        chk (decide (0 ≤ v16) && decide (v16 < (a0.length : Int))) <|
        bindO (evalF E P0 k N.laws_heldIntS [.v [.r (at_ a0 v16.toNat 6).asR], .v [.i (IntKind.wrap .i64 ((o190.t 0).asI + 1))]]) fun o192 =>
        bif (decide ((o192.t 0).asI < 0)) then
         some ⟨[.i (-1)], []⟩
        else
         chk (decide (0 ≤ v16) && decide (v16 < (a0.length : Int))) <|
         bif ((at_ a0 v16.toNat 7).asI != (o192.t 0).asI) then
          some ⟨[.i (-1)], []⟩
         else
          G1 ((IntKind.wrap .i64 ((o192.t 0).asI + 1)), (IntKind.wrap .i64 (v16 + 1)))
 else
  some ⟨[.i v15], []⟩
def laws_heldJobS_k1 : List Nat := [0, 1, 4, 5, 89]
def laws_heldJobS_S1 (a0 : List (List T)) : (Int × Int) → St := fun (v15, v16) => ⟨ofSl [(0, .sl 77 a0), (1, .i .i64 v15), (4, .i .i64 0), (5, .i .i64 v16), (89, .skip)], ofMem []⟩
def laws_heldJobS_l1 (k : Nat) (a0 : List (List T)) (G1 : (Int × Int) → Option Outs) : (Int × Int) → Option Outs :=
  laws_heldJobS_L1 k a0 G1
def laws_heldJobS_U (k : Nat) (a0 : List (List T)) (a1 : Int) (R1 : (Int × Int) → Option Outs) : Option Outs :=
 R1 (a1, 0)
def laws_heldJobS_u (k : Nat) (a0 : List (List T)) (a1 : Int) : Option Outs :=
  laws_heldJobS_U k a0 a1 (fun v => fixN (laws_heldJobS_l1 k a0) k v)
def laws_heldJobS_it1 (k : Nat) (a0 : List (List T)) (a1 : Int) (js : List Nat) (j : Nat) (s : St) : Option Outs := iter E (LB E (evalF E P0 k) k [] N.laws_heldJobS [.sr, .sl, .sr, .bl]) [] laws_heldJobS_k1 (LK E (evalF E P0 k) k [] N.laws_heldJobS [.v [.r a0], .v [.i a1]] [.sr, .sl, .sr, .bl] js) j s
theorem laws_heldJobS_e (k : Nat) (a0 : List (List T)) (a1 : Int) : evalF E P0 (k + 1) N.laws_heldJobS [.v [.r a0], .v [.i a1]] = laws_heldJobS_u k a0 a1 := by
  have e0 : evalF E P0 (k + 1) N.laws_heldJobS [.v [.r a0], .v [.i a1]] = laws_heldJobS_U k a0 a1 (fun v => laws_heldJobS_it1 k a0 a1 [] k (laws_heldJobS_S1 a0 v)) := by kernel_rfl
  have e1 : ∀ (j1 : Nat) (v : Int × Int), laws_heldJobS_it1 k a0 a1 [] (j1 + 1) (laws_heldJobS_S1 a0 v) = laws_heldJobS_L1 k a0 (fun v => laws_heldJobS_it1 k a0 a1 [] j1 (laws_heldJobS_S1 a0 v)) v := by
    intro j1 v; kernel_rfl
  have i1 : ∀ (j1 : Nat) (v : Int × Int), laws_heldJobS_it1 k a0 a1 [] j1 (laws_heldJobS_S1 a0 v) = fixN (laws_heldJobS_l1 k a0) j1 v := by
    intro j1 v
    refine iter_fix (laws_heldJobS_S1 a0) (laws_heldJobS_l1 k a0) (fun j1 v => (e1 j1 v).trans ?_) j1 v
    unfold laws_heldJobS_l1
    rfl
  rw [e0]; unfold laws_heldJobS_u
  simp only [i1]
def laws_heldAnsS_L1 (k : Nat) (a0 : List (List T)) (G1 : (Int × Int) → Option Outs) : (Int × Int) → Option Outs := fun (v15, v16) =>
 bif (decide (v16 < (a0.length : Int))) then
  chk (decide (0 ≤ v16) && decide (v16 < (a0.length : Int))) <|
  bif ((at_ a0 v16.toNat 0).asI != v15) then
   some ⟨[.i (-1)], []⟩
  else
   chk (decide (0 ≤ v16) && decide (v16 < (a0.length : Int))) <|
   bif ((at_ a0 v16.toNat 1).asI != (IntKind.wrap .i64 (v15 + 1))) then
    some ⟨[.i (-1)], []⟩
   else
    chk (decide (0 ≤ v16) && decide (v16 < (a0.length : Int))) <|
    bindO (evalF E P0 k N.laws_heldIntS [.v [.r (at_ a0 v16.toNat 2).asR], .v [.i (IntKind.wrap .i64 ((IntKind.wrap .i64 (v15 + 1)) + 1))]]) fun o96 =>
    bif (decide ((o96.t 0).asI < 0)) then some ⟨[.i (-1)], []⟩ else G1 ((o96.t 0).asI, (IntKind.wrap .i64 (v16 + 1)))
 else
  some ⟨[.i v15], []⟩
def laws_heldAnsS_k1 : List Nat := [0, 1, 4, 5, 39]
def laws_heldAnsS_S1 (a0 : List (List T)) : (Int × Int) → St := fun (v15, v16) => ⟨ofSl [(0, .sl 80 a0), (1, .i .i64 v15), (4, .i .i64 0), (5, .i .i64 v16), (39, .skip)], ofMem []⟩
def laws_heldAnsS_l1 (k : Nat) (a0 : List (List T)) (G1 : (Int × Int) → Option Outs) : (Int × Int) → Option Outs :=
  laws_heldAnsS_L1 k a0 G1
def laws_heldAnsS_U (k : Nat) (a0 : List (List T)) (a1 : Int) (R1 : (Int × Int) → Option Outs) : Option Outs :=
 R1 (a1, 0)
def laws_heldAnsS_u (k : Nat) (a0 : List (List T)) (a1 : Int) : Option Outs :=
  laws_heldAnsS_U k a0 a1 (fun v => fixN (laws_heldAnsS_l1 k a0) k v)
def laws_heldAnsS_it1 (k : Nat) (a0 : List (List T)) (a1 : Int) (js : List Nat) (j : Nat) (s : St) : Option Outs := iter E (LB E (evalF E P0 k) k [] N.laws_heldAnsS [.sr, .sl, .sr, .bl]) [] laws_heldAnsS_k1 (LK E (evalF E P0 k) k [] N.laws_heldAnsS [.v [.r a0], .v [.i a1]] [.sr, .sl, .sr, .bl] js) j s
theorem laws_heldAnsS_e (k : Nat) (a0 : List (List T)) (a1 : Int) : evalF E P0 (k + 1) N.laws_heldAnsS [.v [.r a0], .v [.i a1]] = laws_heldAnsS_u k a0 a1 := by
  have e0 : evalF E P0 (k + 1) N.laws_heldAnsS [.v [.r a0], .v [.i a1]] = laws_heldAnsS_U k a0 a1 (fun v => laws_heldAnsS_it1 k a0 a1 [] k (laws_heldAnsS_S1 a0 v)) := by kernel_rfl
  have e1 : ∀ (j1 : Nat) (v : Int × Int), laws_heldAnsS_it1 k a0 a1 [] (j1 + 1) (laws_heldAnsS_S1 a0 v) = laws_heldAnsS_L1 k a0 (fun v => laws_heldAnsS_it1 k a0 a1 [] j1 (laws_heldAnsS_S1 a0 v)) v := by
    intro j1 v; kernel_rfl
  have i1 : ∀ (j1 : Nat) (v : Int × Int), laws_heldAnsS_it1 k a0 a1 [] j1 (laws_heldAnsS_S1 a0 v) = fixN (laws_heldAnsS_l1 k a0) j1 v := by
    intro j1 v
    refine iter_fix (laws_heldAnsS_S1 a0) (laws_heldAnsS_l1 k a0) (fun j1 v => (e1 j1 v).trans ?_) j1 v
    unfold laws_heldAnsS_l1
    rfl
  rw [e0]; unfold laws_heldAnsS_u
  simp only [i1]
def laws_heldTurnS_L1 (k : Nat) (a0 : List (List T)) (G1 : (Int × Int) → Option Outs) : (Int × Int) → Option Outs := fun (v15, v16) =>
 bif (decide (v16 < (a0.length : Int))) then
  chk (decide (0 ≤ v16) && decide (v16 < (a0.length : Int))) <|
  bif ((at_ a0 v16.toNat 0).asI != v15) then
   some ⟨[.i (-1)], []⟩
  else
   chk (decide (0 ≤ v16) && decide (v16 < (a0.length : Int))) <|
   bif ((at_ a0 v16.toNat 1).asI != (IntKind.wrap .i64 (v15 + 1))) then
    some ⟨[.i (-1)], []⟩
   else
    chk (decide (0 ≤ v16) && decide (v16 < (a0.length : Int))) <|
    bif ((at_ a0 v16.toNat 2).asI != (IntKind.wrap .i64 ((IntKind.wrap .i64 (v15 + 1)) + 1))) then
     some ⟨[.i (-1)], []⟩
    else
     chk (decide (0 ≤ v16) && decide (v16 < (a0.length : Int))) <|
     bif ((at_ a0 v16.toNat 3).asI != (IntKind.wrap .i64 ((IntKind.wrap .i64 ((IntKind.wrap .i64 (v15 + 1)) + 1)) + 1))) then
      some ⟨[.i (-1)], []⟩
     else
      chk (decide (0 ≤ v16) && decide (v16 < (a0.length : Int))) <|
      bindO (evalF E P0 k N.laws_heldIntS [.v [.r (at_ a0 v16.toNat 4).asR], .v [.i (IntKind.wrap .i64 ((IntKind.wrap .i64 ((IntKind.wrap .i64 ((IntKind.wrap .i64 (v15 + 1)) + 1)) + 1)) + 1))]]) fun o190 =>
      bif (decide ((o190.t 0).asI < 0)) then
       some ⟨[.i (-1)], []⟩
      else
       chk (decide (0 ≤ v16) && decide (v16 < (a0.length : Int))) <|
       bif ((at_ a0 v16.toNat 5).asI != (o190.t 0).asI) then
        some ⟨[.i (-1)], []⟩
       else
        chk (decide (0 ≤ v16) && decide (v16 < (a0.length : Int))) <|
        bif ((at_ a0 v16.toNat 6).asI != (IntKind.wrap .i64 ((o190.t 0).asI + 1))) then
         some ⟨[.i (-1)], []⟩
        else
         chk (decide (0 ≤ v16) && decide (v16 < (a0.length : Int))) <|
         bindO (evalF E P0 k N.laws_heldIntS [.v [.r (at_ a0 v16.toNat 7).asR], .v [.i (IntKind.wrap .i64 ((IntKind.wrap .i64 ((o190.t 0).asI + 1)) + 1))]]) fun o192 =>
         bif (decide ((o192.t 0).asI < 0)) then some ⟨[.i (-1)], []⟩ else G1 ((o192.t 0).asI, (IntKind.wrap .i64 (v16 + 1)))
 else
  some ⟨[.i v15], []⟩
def laws_heldTurnS_k1 : List Nat := [0, 1, 4, 5, 92]
def laws_heldTurnS_S1 (a0 : List (List T)) : (Int × Int) → St := fun (v15, v16) => ⟨ofSl [(0, .sl 83 a0), (1, .i .i64 v15), (4, .i .i64 0), (5, .i .i64 v16), (92, .skip)], ofMem []⟩
def laws_heldTurnS_l1 (k : Nat) (a0 : List (List T)) (G1 : (Int × Int) → Option Outs) : (Int × Int) → Option Outs :=
  laws_heldTurnS_L1 k a0 G1
def laws_heldTurnS_U (k : Nat) (a0 : List (List T)) (a1 : Int) (R1 : (Int × Int) → Option Outs) : Option Outs :=
 R1 (a1, 0)
def laws_heldTurnS_u (k : Nat) (a0 : List (List T)) (a1 : Int) : Option Outs :=
  laws_heldTurnS_U k a0 a1 (fun v => fixN (laws_heldTurnS_l1 k a0) k v)
def laws_heldTurnS_it1 (k : Nat) (a0 : List (List T)) (a1 : Int) (js : List Nat) (j : Nat) (s : St) : Option Outs := iter E (LB E (evalF E P0 k) k [] N.laws_heldTurnS [.sr, .sl, .sr, .bl]) [] laws_heldTurnS_k1 (LK E (evalF E P0 k) k [] N.laws_heldTurnS [.v [.r a0], .v [.i a1]] [.sr, .sl, .sr, .bl] js) j s
theorem laws_heldTurnS_e (k : Nat) (a0 : List (List T)) (a1 : Int) : evalF E P0 (k + 1) N.laws_heldTurnS [.v [.r a0], .v [.i a1]] = laws_heldTurnS_u k a0 a1 := by
  have e0 : evalF E P0 (k + 1) N.laws_heldTurnS [.v [.r a0], .v [.i a1]] = laws_heldTurnS_U k a0 a1 (fun v => laws_heldTurnS_it1 k a0 a1 [] k (laws_heldTurnS_S1 a0 v)) := by kernel_rfl
  have e1 : ∀ (j1 : Nat) (v : Int × Int), laws_heldTurnS_it1 k a0 a1 [] (j1 + 1) (laws_heldTurnS_S1 a0 v) = laws_heldTurnS_L1 k a0 (fun v => laws_heldTurnS_it1 k a0 a1 [] j1 (laws_heldTurnS_S1 a0 v)) v := by
    intro j1 v; kernel_rfl
  have i1 : ∀ (j1 : Nat) (v : Int × Int), laws_heldTurnS_it1 k a0 a1 [] j1 (laws_heldTurnS_S1 a0 v) = fixN (laws_heldTurnS_l1 k a0) j1 v := by
    intro j1 v
    refine iter_fix (laws_heldTurnS_S1 a0) (laws_heldTurnS_l1 k a0) (fun j1 v => (e1 j1 v).trans ?_) j1 v
    unfold laws_heldTurnS_l1
    rfl
  rw [e0]; unfold laws_heldTurnS_u
  simp only [i1]
def laws_heldEng_u (k : Nat) (a0_0 : Int) (a0_1 : Int) (a0_2 : Int) (a0_3 : List (List T)) (a0_4 : Int) (a0_5 : Int) (a0_6 : Int) (a0_7 : Int) (a0_8 : Int) (a0_9 : List (List T)) (a0_10 : Int) (a0_11 : Bool) (a0_12 : Bool) (a0_13 : List (List T)) (a0_14 : List (List T)) (a0_15 : List (List T)) (a0_16 : List (List T)) (a1 : Int) : Option Outs :=
 bindO (evalF E P0 k N.laws_heldArr [.v [.i a0_0, .i a0_1, .i a0_2, .r a0_3, .i a0_4, .i a0_5, .i a0_6, .i a0_7, .i a0_8, .r a0_9, .i a0_10, .b a0_11, .b a0_12], .v [.i a1]]) fun o2 =>
 bif (decide ((o2.t 0).asI < 0)) then
  some ⟨[.i (-1)], []⟩
 else
  bindO (evalF E P0 k N.laws_heldCmdS [.v [.r a0_13], .v [.i (o2.t 0).asI]]) fun o4 =>
  bif (decide ((o4.t 0).asI < 0)) then
   some ⟨[.i (-1)], []⟩
  else
   bindO (evalF E P0 k N.laws_heldJobS [.v [.r a0_14], .v [.i (o4.t 0).asI]]) fun o6 =>
   bif (decide ((o6.t 0).asI < 0)) then
    some ⟨[.i (-1)], []⟩
   else
    bindO (evalF E P0 k N.laws_heldAnsS [.v [.r a0_15], .v [.i (o6.t 0).asI]]) fun o8 =>
    bif (decide ((o8.t 0).asI < 0)) then
     some ⟨[.i (-1)], []⟩
    else
     bindO (evalF E P0 k N.laws_heldTurnS [.v [.r a0_16], .v [.i (o8.t 0).asI]]) fun o10 =>
     bif (decide ((o10.t 0).asI < 0)) then some ⟨[.i (-1)], []⟩ else some ⟨[.i (o10.t 0).asI], []⟩
theorem laws_heldEng_e (k : Nat) (a0_0 : Int) (a0_1 : Int) (a0_2 : Int) (a0_3 : List (List T)) (a0_4 : Int) (a0_5 : Int) (a0_6 : Int) (a0_7 : Int) (a0_8 : Int) (a0_9 : List (List T)) (a0_10 : Int) (a0_11 : Bool) (a0_12 : Bool) (a0_13 : List (List T)) (a0_14 : List (List T)) (a0_15 : List (List T)) (a0_16 : List (List T)) (a1 : Int) : evalF E P0 (k + 1) N.laws_heldEng [.v [.i a0_0, .i a0_1, .i a0_2, .r a0_3, .i a0_4, .i a0_5, .i a0_6, .i a0_7, .i a0_8, .r a0_9, .i a0_10, .b a0_11, .b a0_12, .r a0_13, .r a0_14, .r a0_15, .r a0_16], .v [.i a1]] = laws_heldEng_u k a0_0 a0_1 a0_2 a0_3 a0_4 a0_5 a0_6 a0_7 a0_8 a0_9 a0_10 a0_11 a0_12 a0_13 a0_14 a0_15 a0_16 a1 := by kernel_rfl
def laws_FnExactEngNew_u (k : Nat) (a0 : Int) (a1_0 : Int) (a1_1 : Int) : Option Outs :=
 bindO (evalF E P0 k N.laws_toGeo [.v [.i a1_0, .i a1_1]]) fun o3 =>
 bindO (evalF E P0 k N.spec_EngNew [.v [.i a0], .v [.i (o3.t 0).asI, .i (o3.t 1).asI]]) fun o4 =>
 bindO (evalF E P0 k N.laws_toGeo [.v [.i a1_0, .i a1_1]]) fun o7 =>
 bindO (evalF E P0 k N.impl_EngNew [.v [.i a0], .v [.i (o7.t 0).asI, .i (o7.t 1).asI]]) fun o8 =>
 bindO (evalF E P0 k N.laws_eqEng [.v [.i (o8.t 0).asI, .i (o8.t 1).asI, .i (o8.t 2).asI, .r (o8.t 3).asR, .i (o8.t 4).asI, .i (o8.t 5).asI, .i (o8.t 6).asI, .i (o8.t 7).asI, .i (o8.t 8).asI, .r (o8.t 9).asR, .i (o8.t 10).asI, .b (o8.t 11).asB, .b (o8.t 12).asB, .r (o8.t 13).asR, .r (o8.t 14).asR, .r (o8.t 15).asR, .r (o8.t 16).asR], .v [.i (o4.t 0).asI, .i (o4.t 1).asI, .i (o4.t 2).asI, .r (o4.t 3).asR, .i (o4.t 4).asI, .i (o4.t 5).asI, .i (o4.t 6).asI, .i (o4.t 7).asI, .i (o4.t 8).asI, .r (o4.t 9).asR, .i (o4.t 10).asI, .b (o4.t 11).asB, .b (o4.t 12).asB, .r (o4.t 13).asR, .r (o4.t 14).asR, .r (o4.t 15).asR, .r (o4.t 16).asR]]) fun o10 =>
 bif (!(o10.t 0).asB) then
  some ⟨[.b false], []⟩
 else
  bindO (evalF E P0 k N.laws_markEng [.s [.i (o8.t 0).asI, .i (o8.t 1).asI, .i (o8.t 2).asI, .r (o8.t 3).asR, .i (o8.t 4).asI, .i (o8.t 5).asI, .i (o8.t 6).asI, .i (o8.t 7).asI, .i (o8.t 8).asI, .r (o8.t 9).asR, .i (o8.t 10).asI, .b (o8.t 11).asB, .b (o8.t 12).asB, .r (o8.t 13).asR, .r (o8.t 14).asR, .r (o8.t 15).asR, .r (o8.t 16).asR], .v [.i 1]]) fun o12 =>
  bindO (evalF E P0 k N.laws_heldEng [.v [.i (o8.t 0).asI, .i (o8.t 1).asI, .i (o8.t 2).asI, .r (o12.vt 0 3).asR, .i (o8.t 4).asI, .i (o8.t 5).asI, .i (o8.t 6).asI, .i (o8.t 7).asI, .i (o8.t 8).asI, .r (o12.vt 0 9).asR, .i (o8.t 10).asI, .b (o8.t 11).asB, .b (o8.t 12).asB, .r (o12.vt 0 13).asR, .r (o12.vt 0 14).asR, .r (o12.vt 0 15).asR, .r (o12.vt 0 16).asR], .v [.i 1]]) fun o14 =>
  bif (decide ((o14.t 0).asI < 0)) then
   some ⟨[.b false], []⟩
  else
   bif ((o14.t 0).asI != (o12.t 0).asI) then
    some ⟨[.b false], []⟩
   else
    bindO (evalF E P0 k N.laws_toGeo [.v [.i a1_0, .i a1_1]]) fun o17 =>
    bindO (evalF E P0 k N.impl_EngNew [.v [.i a0], .v [.i (o17.t 0).asI, .i (o17.t 1).asI]]) fun o18 =>
    bindO (evalF E P0 k N.laws_eqEng [.v [.i (o18.t 0).asI, .i (o18.t 1).asI, .i (o18.t 2).asI, .r (o18.t 3).asR, .i (o18.t 4).asI, .i (o18.t 5).asI, .i (o18.t 6).asI, .i (o18.t 7).asI, .i (o18.t 8).asI, .r (o18.t 9).asR, .i (o18.t 10).asI, .b (o18.t 11).asB, .b (o18.t 12).asB, .r (o18.t 13).asR, .r (o18.t 14).asR, .r (o18.t 15).asR, .r (o18.t 16).asR], .v [.i (o4.t 0).asI, .i (o4.t 1).asI, .i (o4.t 2).asI, .r (o4.t 3).asR, .i (o4.t 4).asI, .i (o4.t 5).asI, .i (o4.t 6).asI, .i (o4.t 7).asI, .i (o4.t 8).asI, .r (o4.t 9).asR, .i (o4.t 10).asI, .b (o4.t 11).asB, .b (o4.t 12).asB, .r (o4.t 13).asR, .r (o4.t 14).asR, .r (o4.t 15).asR, .r (o4.t 16).asR]]) fun o20 =>
    bif (!(o20.t 0).asB) then
     some ⟨[.b false], []⟩
    else
     bindO (evalF E P0 k N.laws_heldEng [.v [.i (o8.t 0).asI, .i (o8.t 1).asI, .i (o8.t 2).asI, .r (o12.vt 0 3).asR, .i (o8.t 4).asI, .i (o8.t 5).asI, .i (o8.t 6).asI, .i (o8.t 7).asI, .i (o8.t 8).asI, .r (o12.vt 0 9).asR, .i (o8.t 10).asI, .b (o8.t 11).asB, .b (o8.t 12).asB, .r (o12.vt 0 13).asR, .r (o12.vt 0 14).asR, .r (o12.vt 0 15).asR, .r (o12.vt 0 16).asR], .v [.i 1]]) fun o22 =>
     bif (decide ((o22.t 0).asI < 0)) then
      some ⟨[.b false], []⟩
     else
      bif ((o22.t 0).asI != (o12.t 0).asI) then some ⟨[.b false], []⟩ else some ⟨[.b true], []⟩
theorem laws_FnExactEngNew_e (k : Nat) (a0 : Int) (a1_0 : Int) (a1_1 : Int) : evalF E P0 (k + 1) N.laws_FnExactEngNew [.v [.i a0], .v [.i a1_0, .i a1_1]] = laws_FnExactEngNew_u k a0 a1_0 a1_1 := by kernel_rfl
end
end Go.Proofs.Ytjgmiilapnekfaa.Ev
