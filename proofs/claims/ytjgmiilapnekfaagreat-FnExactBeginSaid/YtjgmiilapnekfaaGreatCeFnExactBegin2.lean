/- What functions answer under the evaluator, as Lean terms, part 2: what FnExactBegin needs. No condition. -/
import Derived.Test.YtjgmiilapnekfaaGreatTab
namespace Go.Proofs.YtjgmiilapnekfaaGreat.Ev
open Go Go.Proofs
set_option linter.unusedVariables false
set_option maxRecDepth 100000
set_option maxHeartbeats 4000000
noncomputable section
def laws_eqJob_u (k : Nat) (a0_0 : Int) (a0_1 : Int) (a0_2 : Int) (a0_3 : Int) (a0_4 : List (List T)) (a0_5 : Int) (a0_6 : List (List T)) (a0_7 : Int) (a1_0 : Int) (a1_1 : Int) (a1_2 : Int) (a1_3 : Int) (a1_4 : List (List T)) (a1_5 : Int) (a1_6 : List (List T)) (a1_7 : Int) : Option Outs :=
 bindO (evalF E P0 k N.laws_eqCmd [.v [.i a0_0, .i a0_1, .i a0_2, .i a0_3, .r a0_4], .v [.i a1_0, .i a1_1, .i a1_2, .i a1_3, .r a1_4]]) fun o2 =>
 bif (!(o2.t 0).asB) then
  some ⟨[.b false], []⟩
 else
  bif (a0_5 != a1_5) then
   some ⟨[.b false], []⟩
  else
   bindO (evalF E P0 k N.laws_eqIntS [.v [.r a0_6], .v [.r a1_6]]) fun o4 =>
   bif (!(o4.t 0).asB) then
    some ⟨[.b false], []⟩
   else
    bif (a0_7 != a1_7) then some ⟨[.b false], []⟩ else some ⟨[.b true], []⟩
theorem laws_eqJob_e (k : Nat) (a0_0 : Int) (a0_1 : Int) (a0_2 : Int) (a0_3 : Int) (a0_4 : List (List T)) (a0_5 : Int) (a0_6 : List (List T)) (a0_7 : Int) (a1_0 : Int) (a1_1 : Int) (a1_2 : Int) (a1_3 : Int) (a1_4 : List (List T)) (a1_5 : Int) (a1_6 : List (List T)) (a1_7 : Int) : evalF E P0 (k + 1) N.laws_eqJob [.v [.i a0_0, .i a0_1, .i a0_2, .i a0_3, .r a0_4, .i a0_5, .r a0_6, .i a0_7], .v [.i a1_0, .i a1_1, .i a1_2, .i a1_3, .r a1_4, .i a1_5, .r a1_6, .i a1_7]] = laws_eqJob_u k a0_0 a0_1 a0_2 a0_3 a0_4 a0_5 a0_6 a0_7 a1_0 a1_1 a1_2 a1_3 a1_4 a1_5 a1_6 a1_7 := by kernel_rfl
def laws_eqJobS_L1 (k : Nat) (a0 : List (List T)) (a1 : List (List T)) (G1 : (Int) → Option Outs) : (Int) → Option Outs := fun v8 =>
 bif (decide (v8 < (a0.length : Int))) then
  chk (decide (0 ≤ v8) && decide (v8 < (a0.length : Int))) <|
  chk (decide (0 ≤ v8) && decide (v8 < (a1.length : Int))) <|
  bindO (evalF E P0 k N.laws_eqJob [.v [.i (at_ a0 v8.toNat 0).asI, .i (at_ a0 v8.toNat 1).asI, .i (at_ a0 v8.toNat 2).asI, .i (at_ a0 v8.toNat 3).asI, .r (at_ a0 v8.toNat 4).asR, .i (at_ a0 v8.toNat 5).asI, .r (at_ a0 v8.toNat 6).asR, .i (at_ a0 v8.toNat 7).asI], .v [.i (at_ a1 v8.toNat 0).asI, .i (at_ a1 v8.toNat 1).asI, .i (at_ a1 v8.toNat 2).asI, .i (at_ a1 v8.toNat 3).asI, .r (at_ a1 v8.toNat 4).asR, .i (at_ a1 v8.toNat 5).asI, .r (at_ a1 v8.toNat 6).asR, .i (at_ a1 v8.toNat 7).asI]]) fun o96 =>
  bif (!(o96.t 0).asB) then some ⟨[.b false], []⟩ else G1 (IntKind.wrap .i64 (v8 + 1))
 else
  some ⟨[.b true], []⟩
def laws_eqJobS_k1 : List Nat := [0, 1, 4, 5]
def laws_eqJobS_S1 (a0 : List (List T)) (a1 : List (List T)) : (Int) → St := fun v8 => ⟨ofSl [(0, .sl 103 a0), (1, .sl 103 a1), (4, .b false), (5, .i .i64 v8)], ofMem []⟩
def laws_eqJobS_l1 (k : Nat) (a0 : List (List T)) (a1 : List (List T)) (G1 : (Int) → Option Outs) : (Int) → Option Outs :=
  laws_eqJobS_L1 k a0 a1 G1
def laws_eqJobS_U (k : Nat) (a0 : List (List T)) (a1 : List (List T)) (R1 : (Int) → Option Outs) : Option Outs :=
 bif ((a0.length : Int) != (a1.length : Int)) then some ⟨[.b false], []⟩ else R1 0
def laws_eqJobS_u (k : Nat) (a0 : List (List T)) (a1 : List (List T)) : Option Outs :=
  laws_eqJobS_U k a0 a1 (fun v => fixN (laws_eqJobS_l1 k a0 a1) k v)
def laws_eqJobS_it1 (k : Nat) (a0 : List (List T)) (a1 : List (List T)) (js : List Nat) (j : Nat) (s : St) : Option Outs := iter E (LB E (evalF E P0 k) k [] N.laws_eqJobS [.sr, .sr, .sl, .sr, .bl]) [] laws_eqJobS_k1 (LK E (evalF E P0 k) k [] N.laws_eqJobS [.v [.r a0], .v [.r a1]] [.sr, .sr, .sl, .sr, .bl] js) j s
theorem laws_eqJobS_e (k : Nat) (a0 : List (List T)) (a1 : List (List T)) : evalF E P0 (k + 1) N.laws_eqJobS [.v [.r a0], .v [.r a1]] = laws_eqJobS_u k a0 a1 := by
  have e0 : evalF E P0 (k + 1) N.laws_eqJobS [.v [.r a0], .v [.r a1]] = laws_eqJobS_U k a0 a1 (fun v => laws_eqJobS_it1 k a0 a1 [] k (laws_eqJobS_S1 a0 a1 v)) := by kernel_rfl
  have e1 : ∀ (j1 : Nat) (v : Int), laws_eqJobS_it1 k a0 a1 [] (j1 + 1) (laws_eqJobS_S1 a0 a1 v) = laws_eqJobS_L1 k a0 a1 (fun v => laws_eqJobS_it1 k a0 a1 [] j1 (laws_eqJobS_S1 a0 a1 v)) v := by
    intro j1 v; kernel_rfl
  have i1 : ∀ (j1 : Nat) (v : Int), laws_eqJobS_it1 k a0 a1 [] j1 (laws_eqJobS_S1 a0 a1 v) = fixN (laws_eqJobS_l1 k a0 a1) j1 v := by
    intro j1 v
    refine iter_fix (laws_eqJobS_S1 a0 a1) (laws_eqJobS_l1 k a0 a1) (fun j1 v => (e1 j1 v).trans ?_) j1 v
    unfold laws_eqJobS_l1
    rfl
  rw [e0]; unfold laws_eqJobS_u
  simp only [i1]
def laws_eqAns_u (k : Nat) (a0_0 : Int) (a0_1 : Int) (a0_2 : List (List T)) (a1_0 : Int) (a1_1 : Int) (a1_2 : List (List T)) : Option Outs :=
 bif (a0_0 != a1_0) then
  some ⟨[.b false], []⟩
 else
  bif (a0_1 != a1_1) then
   some ⟨[.b false], []⟩
  else
   bindO (evalF E P0 k N.laws_eqIntS [.v [.r a0_2], .v [.r a1_2]]) fun o2 =>
   bif (!(o2.t 0).asB) then some ⟨[.b false], []⟩ else some ⟨[.b true], []⟩
theorem laws_eqAns_e (k : Nat) (a0_0 : Int) (a0_1 : Int) (a0_2 : List (List T)) (a1_0 : Int) (a1_1 : Int) (a1_2 : List (List T)) : evalF E P0 (k + 1) N.laws_eqAns [.v [.i a0_0, .i a0_1, .r a0_2], .v [.i a1_0, .i a1_1, .r a1_2]] = laws_eqAns_u k a0_0 a0_1 a0_2 a1_0 a1_1 a1_2 := by kernel_rfl
def laws_eqAnsS_L1 (k : Nat) (a0 : List (List T)) (a1 : List (List T)) (G1 : (Int) → Option Outs) : (Int) → Option Outs := fun v8 =>
 bif (decide (v8 < (a0.length : Int))) then
  chk (decide (0 ≤ v8) && decide (v8 < (a0.length : Int))) <|
  chk (decide (0 ≤ v8) && decide (v8 < (a1.length : Int))) <|
  bindO (evalF E P0 k N.laws_eqAns [.v [.i (at_ a0 v8.toNat 0).asI, .i (at_ a0 v8.toNat 1).asI, .r (at_ a0 v8.toNat 2).asR], .v [.i (at_ a1 v8.toNat 0).asI, .i (at_ a1 v8.toNat 1).asI, .r (at_ a1 v8.toNat 2).asR]]) fun o96 =>
  bif (!(o96.t 0).asB) then some ⟨[.b false], []⟩ else G1 (IntKind.wrap .i64 (v8 + 1))
 else
  some ⟨[.b true], []⟩
def laws_eqAnsS_k1 : List Nat := [0, 1, 4, 5]
def laws_eqAnsS_S1 (a0 : List (List T)) (a1 : List (List T)) : (Int) → St := fun v8 => ⟨ofSl [(0, .sl 61 a0), (1, .sl 61 a1), (4, .b false), (5, .i .i64 v8)], ofMem []⟩
def laws_eqAnsS_l1 (k : Nat) (a0 : List (List T)) (a1 : List (List T)) (G1 : (Int) → Option Outs) : (Int) → Option Outs :=
  laws_eqAnsS_L1 k a0 a1 G1
def laws_eqAnsS_U (k : Nat) (a0 : List (List T)) (a1 : List (List T)) (R1 : (Int) → Option Outs) : Option Outs :=
 bif ((a0.length : Int) != (a1.length : Int)) then some ⟨[.b false], []⟩ else R1 0
def laws_eqAnsS_u (k : Nat) (a0 : List (List T)) (a1 : List (List T)) : Option Outs :=
  laws_eqAnsS_U k a0 a1 (fun v => fixN (laws_eqAnsS_l1 k a0 a1) k v)
def laws_eqAnsS_it1 (k : Nat) (a0 : List (List T)) (a1 : List (List T)) (js : List Nat) (j : Nat) (s : St) : Option Outs := iter E (LB E (evalF E P0 k) k [] N.laws_eqAnsS [.sr, .sr, .sl, .sr, .bl]) [] laws_eqAnsS_k1 (LK E (evalF E P0 k) k [] N.laws_eqAnsS [.v [.r a0], .v [.r a1]] [.sr, .sr, .sl, .sr, .bl] js) j s
theorem laws_eqAnsS_e (k : Nat) (a0 : List (List T)) (a1 : List (List T)) : evalF E P0 (k + 1) N.laws_eqAnsS [.v [.r a0], .v [.r a1]] = laws_eqAnsS_u k a0 a1 := by
  have e0 : evalF E P0 (k + 1) N.laws_eqAnsS [.v [.r a0], .v [.r a1]] = laws_eqAnsS_U k a0 a1 (fun v => laws_eqAnsS_it1 k a0 a1 [] k (laws_eqAnsS_S1 a0 a1 v)) := by kernel_rfl
  have e1 : ∀ (j1 : Nat) (v : Int), laws_eqAnsS_it1 k a0 a1 [] (j1 + 1) (laws_eqAnsS_S1 a0 a1 v) = laws_eqAnsS_L1 k a0 a1 (fun v => laws_eqAnsS_it1 k a0 a1 [] j1 (laws_eqAnsS_S1 a0 a1 v)) v := by
    intro j1 v; kernel_rfl
  have i1 : ∀ (j1 : Nat) (v : Int), laws_eqAnsS_it1 k a0 a1 [] j1 (laws_eqAnsS_S1 a0 a1 v) = fixN (laws_eqAnsS_l1 k a0 a1) j1 v := by
    intro j1 v
    refine iter_fix (laws_eqAnsS_S1 a0 a1) (laws_eqAnsS_l1 k a0 a1) (fun j1 v => (e1 j1 v).trans ?_) j1 v
    unfold laws_eqAnsS_l1
    rfl
  rw [e0]; unfold laws_eqAnsS_u
  simp only [i1]
def laws_eqTurn_u (k : Nat) (a0_0 : Int) (a0_1 : Int) (a0_2 : Int) (a0_3 : Int) (a0_4 : List (List T)) (a0_5 : Int) (a0_6 : Int) (a0_7 : List (List T)) (a1_0 : Int) (a1_1 : Int) (a1_2 : Int) (a1_3 : Int) (a1_4 : List (List T)) (a1_5 : Int) (a1_6 : Int) (a1_7 : List (List T)) : Option Outs :=
 bindO (evalF E P0 k N.laws_eqCmd [.v [.i a0_0, .i a0_1, .i a0_2, .i a0_3, .r a0_4], .v [.i a1_0, .i a1_1, .i a1_2, .i a1_3, .r a1_4]]) fun o2 =>
 bif (!(o2.t 0).asB) then
  some ⟨[.b false], []⟩
 else
  bindO (evalF E P0 k N.laws_eqAns [.v [.i a0_5, .i a0_6, .r a0_7], .v [.i a1_5, .i a1_6, .r a1_7]]) fun o4 =>
  bif (!(o4.t 0).asB) then some ⟨[.b false], []⟩ else some ⟨[.b true], []⟩
theorem laws_eqTurn_e (k : Nat) (a0_0 : Int) (a0_1 : Int) (a0_2 : Int) (a0_3 : Int) (a0_4 : List (List T)) (a0_5 : Int) (a0_6 : Int) (a0_7 : List (List T)) (a1_0 : Int) (a1_1 : Int) (a1_2 : Int) (a1_3 : Int) (a1_4 : List (List T)) (a1_5 : Int) (a1_6 : Int) (a1_7 : List (List T)) : evalF E P0 (k + 1) N.laws_eqTurn [.v [.i a0_0, .i a0_1, .i a0_2, .i a0_3, .r a0_4, .i a0_5, .i a0_6, .r a0_7], .v [.i a1_0, .i a1_1, .i a1_2, .i a1_3, .r a1_4, .i a1_5, .i a1_6, .r a1_7]] = laws_eqTurn_u k a0_0 a0_1 a0_2 a0_3 a0_4 a0_5 a0_6 a0_7 a1_0 a1_1 a1_2 a1_3 a1_4 a1_5 a1_6 a1_7 := by kernel_rfl
def laws_eqTurnS_L1 (k : Nat) (a0 : List (List T)) (a1 : List (List T)) (G1 : (Int) → Option Outs) : (Int) → Option Outs := fun v8 =>
 bif (decide (v8 < (a0.length : Int))) then
  chk (decide (0 ≤ v8) && decide (v8 < (a0.length : Int))) <|
  chk (decide (0 ≤ v8) && decide (v8 < (a1.length : Int))) <|
  bindO (evalF E P0 k N.laws_eqTurn [.v [.i (at_ a0 v8.toNat 0).asI, .i (at_ a0 v8.toNat 1).asI, .i (at_ a0 v8.toNat 2).asI, .i (at_ a0 v8.toNat 3).asI, .r (at_ a0 v8.toNat 4).asR, .i (at_ a0 v8.toNat 5).asI, .i (at_ a0 v8.toNat 6).asI, .r (at_ a0 v8.toNat 7).asR], .v [.i (at_ a1 v8.toNat 0).asI, .i (at_ a1 v8.toNat 1).asI, .i (at_ a1 v8.toNat 2).asI, .i (at_ a1 v8.toNat 3).asI, .r (at_ a1 v8.toNat 4).asR, .i (at_ a1 v8.toNat 5).asI, .i (at_ a1 v8.toNat 6).asI, .r (at_ a1 v8.toNat 7).asR]]) fun o96 =>
  bif (!(o96.t 0).asB) then some ⟨[.b false], []⟩ else G1 (IntKind.wrap .i64 (v8 + 1))
 else
  some ⟨[.b true], []⟩
def laws_eqTurnS_k1 : List Nat := [0, 1, 4, 5]
def laws_eqTurnS_S1 (a0 : List (List T)) (a1 : List (List T)) : (Int) → St := fun v8 => ⟨ofSl [(0, .sl 120 a0), (1, .sl 120 a1), (4, .b false), (5, .i .i64 v8)], ofMem []⟩
def laws_eqTurnS_l1 (k : Nat) (a0 : List (List T)) (a1 : List (List T)) (G1 : (Int) → Option Outs) : (Int) → Option Outs :=
  laws_eqTurnS_L1 k a0 a1 G1
def laws_eqTurnS_U (k : Nat) (a0 : List (List T)) (a1 : List (List T)) (R1 : (Int) → Option Outs) : Option Outs :=
 bif ((a0.length : Int) != (a1.length : Int)) then some ⟨[.b false], []⟩ else R1 0
def laws_eqTurnS_u (k : Nat) (a0 : List (List T)) (a1 : List (List T)) : Option Outs :=
  laws_eqTurnS_U k a0 a1 (fun v => fixN (laws_eqTurnS_l1 k a0 a1) k v)
def laws_eqTurnS_it1 (k : Nat) (a0 : List (List T)) (a1 : List (List T)) (js : List Nat) (j : Nat) (s : St) : Option Outs := iter E (LB E (evalF E P0 k) k [] N.laws_eqTurnS [.sr, .sr, .sl, .sr, .bl]) [] laws_eqTurnS_k1 (LK E (evalF E P0 k) k [] N.laws_eqTurnS [.v [.r a0], .v [.r a1]] [.sr, .sr, .sl, .sr, .bl] js) j s
theorem laws_eqTurnS_e (k : Nat) (a0 : List (List T)) (a1 : List (List T)) : evalF E P0 (k + 1) N.laws_eqTurnS [.v [.r a0], .v [.r a1]] = laws_eqTurnS_u k a0 a1 := by
  have e0 : evalF E P0 (k + 1) N.laws_eqTurnS [.v [.r a0], .v [.r a1]] = laws_eqTurnS_U k a0 a1 (fun v => laws_eqTurnS_it1 k a0 a1 [] k (laws_eqTurnS_S1 a0 a1 v)) := by kernel_rfl
  have e1 : ∀ (j1 : Nat) (v : Int), laws_eqTurnS_it1 k a0 a1 [] (j1 + 1) (laws_eqTurnS_S1 a0 a1 v) = laws_eqTurnS_L1 k a0 a1 (fun v => laws_eqTurnS_it1 k a0 a1 [] j1 (laws_eqTurnS_S1 a0 a1 v)) v := by
    intro j1 v; kernel_rfl
  have i1 : ∀ (j1 : Nat) (v : Int), laws_eqTurnS_it1 k a0 a1 [] j1 (laws_eqTurnS_S1 a0 a1 v) = fixN (laws_eqTurnS_l1 k a0 a1) j1 v := by
    intro j1 v
    refine iter_fix (laws_eqTurnS_S1 a0 a1) (laws_eqTurnS_l1 k a0 a1) (fun j1 v => (e1 j1 v).trans ?_) j1 v
    unfold laws_eqTurnS_l1
    rfl
  rw [e0]; unfold laws_eqTurnS_u
  simp only [i1]
def laws_eqEng_u (k : Nat) (a0_0 : Int) (a0_1 : Int) (a0_2 : Int) (a0_3 : List (List T)) (a0_4 : Int) (a0_5 : Int) (a0_6 : Int) (a0_7 : Int) (a0_8 : Int) (a0_9 : List (List T)) (a0_10 : Int) (a0_11 : Bool) (a0_12 : Bool) (a0_13 : List (List T)) (a0_14 : List (List T)) (a0_15 : List (List T)) (a0_16 : List (List T)) (a1_0 : Int) (a1_1 : Int) (a1_2 : Int) (a1_3 : List (List T)) (a1_4 : Int) (a1_5 : Int) (a1_6 : Int) (a1_7 : Int) (a1_8 : Int) (a1_9 : List (List T)) (a1_10 : Int) (a1_11 : Bool) (a1_12 : Bool) (a1_13 : List (List T)) (a1_14 : List (List T)) (a1_15 : List (List T)) (a1_16 : List (List T)) : Option Outs :=
 bindO (evalF E P0 k N.laws_eqArr [.v [.i a0_0, .i a0_1, .i a0_2, .r a0_3, .i a0_4, .i a0_5, .i a0_6, .i a0_7, .i a0_8, .r a0_9, .i a0_10, .b a0_11, .b a0_12], .v [.i a1_0, .i a1_1, .i a1_2, .r a1_3, .i a1_4, .i a1_5, .i a1_6, .i a1_7, .i a1_8, .r a1_9, .i a1_10, .b a1_11, .b a1_12]]) fun o2 =>
 bif (!(o2.t 0).asB) then
  some ⟨[.b false], []⟩
 else
  bindO (evalF E P0 k N.laws_eqCmdS [.v [.r a0_13], .v [.r a1_13]]) fun o4 =>
  bif (!(o4.t 0).asB) then
   some ⟨[.b false], []⟩
  else
   bindO (evalF E P0 k N.laws_eqJobS [.v [.r a0_14], .v [.r a1_14]]) fun o6 =>
   bif (!(o6.t 0).asB) then
    some ⟨[.b false], []⟩
   else
    bindO (evalF E P0 k N.laws_eqAnsS [.v [.r a0_15], .v [.r a1_15]]) fun o8 =>
    bif (!(o8.t 0).asB) then
     some ⟨[.b false], []⟩
    else
     bindO (evalF E P0 k N.laws_eqTurnS [.v [.r a0_16], .v [.r a1_16]]) fun o10 =>
     bif (!(o10.t 0).asB) then some ⟨[.b false], []⟩ else some ⟨[.b true], []⟩
theorem laws_eqEng_e (k : Nat) (a0_0 : Int) (a0_1 : Int) (a0_2 : Int) (a0_3 : List (List T)) (a0_4 : Int) (a0_5 : Int) (a0_6 : Int) (a0_7 : Int) (a0_8 : Int) (a0_9 : List (List T)) (a0_10 : Int) (a0_11 : Bool) (a0_12 : Bool) (a0_13 : List (List T)) (a0_14 : List (List T)) (a0_15 : List (List T)) (a0_16 : List (List T)) (a1_0 : Int) (a1_1 : Int) (a1_2 : Int) (a1_3 : List (List T)) (a1_4 : Int) (a1_5 : Int) (a1_6 : Int) (a1_7 : Int) (a1_8 : Int) (a1_9 : List (List T)) (a1_10 : Int) (a1_11 : Bool) (a1_12 : Bool) (a1_13 : List (List T)) (a1_14 : List (List T)) (a1_15 : List (List T)) (a1_16 : List (List T)) : evalF E P0 (k + 1) N.laws_eqEng [.v [.i a0_0, .i a0_1, .i a0_2, .r a0_3, .i a0_4, .i a0_5, .i a0_6, .i a0_7, .i a0_8, .r a0_9, .i a0_10, .b a0_11, .b a0_12, .r a0_13, .r a0_14, .r a0_15, .r a0_16], .v [.i a1_0, .i a1_1, .i a1_2, .r a1_3, .i a1_4, .i a1_5, .i a1_6, .i a1_7, .i a1_8, .r a1_9, .i a1_10, .b a1_11, .b a1_12, .r a1_13, .r a1_14, .r a1_15, .r a1_16]] = laws_eqEng_u k a0_0 a0_1 a0_2 a0_3 a0_4 a0_5 a0_6 a0_7 a0_8 a0_9 a0_10 a0_11 a0_12 a0_13 a0_14 a0_15 a0_16 a1_0 a1_1 a1_2 a1_3 a1_4 a1_5 a1_6 a1_7 a1_8 a1_9 a1_10 a1_11 a1_12 a1_13 a1_14 a1_15 a1_16 := by kernel_rfl
def laws_markIntS_L1 (k : Nat) (G1 : (Int × Int × List (List T)) → Option Outs) : (Int × Int × List (List T)) → Option Outs := fun (v15, v16, w8) =>
 bif (decide (v16 < (w8.length : Int))) then
  chk (decide (0 ≤ v16) && decide (v16 < (w8.length : Int))) <|
  G1 ((IntKind.wrap .i64 (v15 + 1)), (IntKind.wrap .i64 (v16 + 1)), (put_ w8 v16.toNat 0 [.i v15]))
 else
  some ⟨[.i v15], [[.r w8]]⟩
def laws_markIntS_k1 : List Nat := [0, 1, 4, 5, 18]
def laws_markIntS_S1 : (Int × Int × List (List T)) → St := fun (v15, v16, w8) => ⟨ofSl [(0, .ref (0, 0)), (1, .i .i64 v15), (4, .i .i64 0), (5, .i .i64 v16), (18, .skip)], ofMem [((0, 0), .row 3 true w8)]⟩
def laws_markIntS_l1 (k : Nat) (G1 : (Int × Int × List (List T)) → Option Outs) : (Int × Int × List (List T)) → Option Outs :=
  laws_markIntS_L1 k G1
def laws_markIntS_U (k : Nat) (a0 : List (List T)) (a1 : Int) (R1 : (Int × Int × List (List T)) → Option Outs) : Option Outs :=
 R1 (a1, 0, a0)
def laws_markIntS_u (k : Nat) (a0 : List (List T)) (a1 : Int) : Option Outs :=
  laws_markIntS_U k a0 a1 (fun v => fixN (laws_markIntS_l1 k) k v)
def laws_markIntS_it1 (k : Nat) (a0 : List (List T)) (a1 : Int) (js : List Nat) (j : Nat) (s : St) : Option Outs := iter E (LB E (evalF E P0 k) k [0] N.laws_markIntS [.sr, .sl, .sr, .bl]) [0] laws_markIntS_k1 (LK E (evalF E P0 k) k [0] N.laws_markIntS [.r a0, .v [.i a1]] [.sr, .sl, .sr, .bl] js) j s
theorem laws_markIntS_e (k : Nat) (a0 : List (List T)) (a1 : Int) : evalF E P0 (k + 1) N.laws_markIntS [.r a0, .v [.i a1]] = laws_markIntS_u k a0 a1 := by
  have e0 : evalF E P0 (k + 1) N.laws_markIntS [.r a0, .v [.i a1]] = laws_markIntS_U k a0 a1 (fun v => laws_markIntS_it1 k a0 a1 [] k (laws_markIntS_S1 v)) := by kernel_rfl
  have e1 : ∀ (j1 : Nat) (v : Int × Int × List (List T)), laws_markIntS_it1 k a0 a1 [] (j1 + 1) (laws_markIntS_S1 v) = laws_markIntS_L1 k (fun v => laws_markIntS_it1 k a0 a1 [] j1 (laws_markIntS_S1 v)) v := by
    intro j1 v; kernel_rfl
  have i1 : ∀ (j1 : Nat) (v : Int × Int × List (List T)), laws_markIntS_it1 k a0 a1 [] j1 (laws_markIntS_S1 v) = fixN (laws_markIntS_l1 k) j1 v := by
    intro j1 v
    refine iter_fix (laws_markIntS_S1) (laws_markIntS_l1 k) (fun j1 v => (e1 j1 v).trans ?_) j1 v
    unfold laws_markIntS_l1
    rfl
  rw [e0]; unfold laws_markIntS_u
  simp only [i1]
def laws_markIntSS_L1 (k : Nat) (G1 : (Int × Int × List (List T)) → Option Outs) : (Int × Int × List (List T)) → Option Outs := fun (v15, v16, w8) =>
 bif (decide (v16 < (w8.length : Int))) then
  chk (decide (0 ≤ v16) && decide (v16 < (w8.length : Int))) <|
  bindO (evalF E P0 k N.laws_markIntS [.r ((at_ w8 v16.toNat 0).asR), .v [.i v15]]) fun o48 =>
  G1 ((o48.t 0).asI, (IntKind.wrap .i64 (v16 + 1)), (put_ w8 v16.toNat 0 [.r ((o48.vt 0 0).asR)]))
 else
  some ⟨[.i v15], [[.r w8]]⟩
def laws_markIntSS_k1 : List Nat := [0, 1, 4, 5, 18]
def laws_markIntSS_S1 : (Int × Int × List (List T)) → St := fun (v15, v16, w8) => ⟨ofSl [(0, .ref (0, 0)), (1, .i .i64 v15), (4, .i .i64 0), (5, .i .i64 v16), (18, .skip)], Mem.put (ofMem [((0, 0), .deep 34 w8 none)]) modeNm .dead⟩
def laws_markIntSS_l1 (k : Nat) (G1 : (Int × Int × List (List T)) → Option Outs) : (Int × Int × List (List T)) → Option Outs :=
  laws_markIntSS_L1 k G1
def laws_markIntSS_U (k : Nat) (a0 : List (List T)) (a1 : Int) (R1 : (Int × Int × List (List T)) → Option Outs) : Option Outs :=
 R1 (a1, 0, a0)
def laws_markIntSS_u (k : Nat) (a0 : List (List T)) (a1 : Int) : Option Outs :=
  laws_markIntSS_U k a0 a1 (fun v => fixN (laws_markIntSS_l1 k) k v)
def laws_markIntSS_it1 (k : Nat) (a0 : List (List T)) (a1 : Int) (js : List Nat) (j : Nat) (s : St) : Option Outs := iter E (LB E (evalF E P0 k) k [0] N.laws_markIntSS [.sr, .sl, .sr, .bl]) [0] laws_markIntSS_k1 (LK E (evalF E P0 k) k [0] N.laws_markIntSS [.r a0, .v [.i a1]] [.sr, .sl, .sr, .bl] js) j s
theorem laws_markIntSS_e (k : Nat) (a0 : List (List T)) (a1 : Int) : evalF E P0 (k + 1) N.laws_markIntSS [.r a0, .v [.i a1]] = laws_markIntSS_u k a0 a1 := by
  have e0 : evalF E P0 (k + 1) N.laws_markIntSS [.r a0, .v [.i a1]] = laws_markIntSS_U k a0 a1 (fun v => laws_markIntSS_it1 k a0 a1 [] k (laws_markIntSS_S1 v)) := by kernel_rfl
  have e1 : ∀ (j1 : Nat) (v : Int × Int × List (List T)), laws_markIntSS_it1 k a0 a1 [] (j1 + 1) (laws_markIntSS_S1 v) = laws_markIntSS_L1 k (fun v => laws_markIntSS_it1 k a0 a1 [] j1 (laws_markIntSS_S1 v)) v := by
    intro j1 v; kernel_rfl
  have i1 : ∀ (j1 : Nat) (v : Int × Int × List (List T)), laws_markIntSS_it1 k a0 a1 [] j1 (laws_markIntSS_S1 v) = fixN (laws_markIntSS_l1 k) j1 v := by
    intro j1 v
    refine iter_fix (laws_markIntSS_S1) (laws_markIntSS_l1 k) (fun j1 v => (e1 j1 v).trans ?_) j1 v
    unfold laws_markIntSS_l1
    rfl
  rw [e0]; unfold laws_markIntSS_u
  simp only [i1]
def laws_markWrS_L1 (k : Nat) (G1 : (Int × Int × List (List T)) → Option Outs) : (Int × Int × List (List T)) → Option Outs := fun (v15, v16, w8) =>
 bif (decide (v16 < (w8.length : Int))) then
  chk (decide (0 ≤ v16) && decide (v16 < (w8.length : Int))) <|
  chk (decide (0 ≤ v16) && decide (v16 < ((put_ w8 v16.toNat 0 [.i v15]).length : Int))) <|
  bindO (evalF E P0 k N.laws_markIntS [.r ((at_ (put_ w8 v16.toNat 0 [.i v15]) v16.toNat 1).asR), .v [.i (IntKind.wrap .i64 (v15 + 1))]]) fun o48 =>
  G1 ((o48.t 0).asI, (IntKind.wrap .i64 (v16 + 1)), (put_ (put_ w8 v16.toNat 0 [.i v15]) v16.toNat 1 [.r ((o48.vt 0 0).asR)]))
 else
  some ⟨[.i v15], [[.r w8]]⟩
def laws_markWrS_k1 : List Nat := [0, 1, 4, 5, 26]
def laws_markWrS_S1 : (Int × Int × List (List T)) → St := fun (v15, v16, w8) => ⟨ofSl [(0, .ref (0, 0)), (1, .i .i64 v15), (4, .i .i64 0), (5, .i .i64 v16), (26, .skip)], Mem.put (ofMem [((0, 0), .deep 184 w8 none)]) modeNm .dead⟩
def laws_markWrS_l1 (k : Nat) (G1 : (Int × Int × List (List T)) → Option Outs) : (Int × Int × List (List T)) → Option Outs :=
  laws_markWrS_L1 k G1
def laws_markWrS_U (k : Nat) (a0 : List (List T)) (a1 : Int) (R1 : (Int × Int × List (List T)) → Option Outs) : Option Outs :=
 R1 (a1, 0, a0)
def laws_markWrS_u (k : Nat) (a0 : List (List T)) (a1 : Int) : Option Outs :=
  laws_markWrS_U k a0 a1 (fun v => fixN (laws_markWrS_l1 k) k v)
def laws_markWrS_it1 (k : Nat) (a0 : List (List T)) (a1 : Int) (js : List Nat) (j : Nat) (s : St) : Option Outs := iter E (LB E (evalF E P0 k) k [0] N.laws_markWrS [.sr, .sl, .sr, .bl]) [0] laws_markWrS_k1 (LK E (evalF E P0 k) k [0] N.laws_markWrS [.r a0, .v [.i a1]] [.sr, .sl, .sr, .bl] js) j s
theorem laws_markWrS_e (k : Nat) (a0 : List (List T)) (a1 : Int) : evalF E P0 (k + 1) N.laws_markWrS [.r a0, .v [.i a1]] = laws_markWrS_u k a0 a1 := by
  have e0 : evalF E P0 (k + 1) N.laws_markWrS [.r a0, .v [.i a1]] = laws_markWrS_U k a0 a1 (fun v => laws_markWrS_it1 k a0 a1 [] k (laws_markWrS_S1 v)) := by kernel_rfl
  have e1 : ∀ (j1 : Nat) (v : Int × Int × List (List T)), laws_markWrS_it1 k a0 a1 [] (j1 + 1) (laws_markWrS_S1 v) = laws_markWrS_L1 k (fun v => laws_markWrS_it1 k a0 a1 [] j1 (laws_markWrS_S1 v)) v := by
    intro j1 v; kernel_rfl
  have i1 : ∀ (j1 : Nat) (v : Int × Int × List (List T)), laws_markWrS_it1 k a0 a1 [] j1 (laws_markWrS_S1 v) = fixN (laws_markWrS_l1 k) j1 v := by
    intro j1 v
    refine iter_fix (laws_markWrS_S1) (laws_markWrS_l1 k) (fun j1 v => (e1 j1 v).trans ?_) j1 v
    unfold laws_markWrS_l1
    rfl
  rw [e0]; unfold laws_markWrS_u
  simp only [i1]
def laws_markMemS_L1 (k : Nat) (G1 : (Int × Int × List (List T)) → Option Outs) : (Int × Int × List (List T)) → Option Outs := fun (v15, v16, w8) =>
 bif (decide (v16 < (w8.length : Int))) then
  chk (decide (0 ≤ v16) && decide (v16 < (w8.length : Int))) <|
  bindO (evalF E P0 k N.laws_markIntSS [.r ((at_ w8 v16.toNat 0).asR), .v [.i v15]]) fun o237 =>
  chk (decide (0 ≤ v16) && decide (v16 < (w8.length : Int))) <|
  bindO (evalF E P0 k N.laws_markWrS [.r ((at_ (put_ w8 v16.toNat 0 [.r ((o237.vt 0 0).asR)]) v16.toNat 1).asR), .v [.i (o237.t 0).asI]]) fun o239 =>
  chk (decide (0 ≤ v16) && decide (v16 < ((put_ w8 v16.toNat 0 [.r ((o237.vt 0 0).asR)]).length : Int))) <|
  chk (decide (0 ≤ v16) && decide (v16 < ((put_ (put_ (put_ w8 v16.toNat 0 [.r ((o237.vt 0 0).asR)]) v16.toNat 1 [.r ((o239.vt 0 0).asR)]) v16.toNat 2 [.b ((Int.tmod (o239.t 0).asI 3) == 0)]).length : Int))) <|
  bindO (evalF E P0 k N.laws_markIntS [.r ((at_ (put_ (put_ (put_ w8 v16.toNat 0 [.r ((o237.vt 0 0).asR)]) v16.toNat 1 [.r ((o239.vt 0 0).asR)]) v16.toNat 2 [.b ((Int.tmod (o239.t 0).asI 3) == 0)]) v16.toNat 3).asR), .v [.i (IntKind.wrap .i64 ((o239.t 0).asI + 1))]]) fun o240 =>
  G1 ((o240.t 0).asI, (IntKind.wrap .i64 (v16 + 1)), (put_ (put_ (put_ (put_ w8 v16.toNat 0 [.r ((o237.vt 0 0).asR)]) v16.toNat 1 [.r ((o239.vt 0 0).asR)]) v16.toNat 2 [.b ((Int.tmod (o239.t 0).asI 3) == 0)]) v16.toNat 3 [.r ((o240.vt 0 0).asR)]))
 else
  some ⟨[.i v15], [[.r w8]]⟩
def laws_markMemS_k1 : List Nat := [0, 1, 4, 5, 42]
def laws_markMemS_S1 : (Int × Int × List (List T)) → St := fun (v15, v16, w8) => ⟨ofSl [(0, .ref (0, 0)), (1, .i .i64 v15), (4, .i .i64 0), (5, .i .i64 v16), (42, .skip)], Mem.put (ofMem [((0, 0), .deep 160 w8 none)]) modeNm .dead⟩
def laws_markMemS_l1 (k : Nat) (G1 : (Int × Int × List (List T)) → Option Outs) : (Int × Int × List (List T)) → Option Outs :=
  laws_markMemS_L1 k G1
def laws_markMemS_U (k : Nat) (a0 : List (List T)) (a1 : Int) (R1 : (Int × Int × List (List T)) → Option Outs) : Option Outs :=
 R1 (a1, 0, a0)
def laws_markMemS_u (k : Nat) (a0 : List (List T)) (a1 : Int) : Option Outs :=
  laws_markMemS_U k a0 a1 (fun v => fixN (laws_markMemS_l1 k) k v)
def laws_markMemS_it1 (k : Nat) (a0 : List (List T)) (a1 : Int) (js : List Nat) (j : Nat) (s : St) : Option Outs := iter E (LB E (evalF E P0 k) k [0] N.laws_markMemS [.sr, .sl, .sr, .bl]) [0] laws_markMemS_k1 (LK E (evalF E P0 k) k [0] N.laws_markMemS [.r a0, .v [.i a1]] [.sr, .sl, .sr, .bl] js) j s
theorem laws_markMemS_e (k : Nat) (a0 : List (List T)) (a1 : Int) : evalF E P0 (k + 1) N.laws_markMemS [.r a0, .v [.i a1]] = laws_markMemS_u k a0 a1 := by
  have e0 : evalF E P0 (k + 1) N.laws_markMemS [.r a0, .v [.i a1]] = laws_markMemS_U k a0 a1 (fun v => laws_markMemS_it1 k a0 a1 [] k (laws_markMemS_S1 v)) := by kernel_rfl
  have e1 : ∀ (j1 : Nat) (v : Int × Int × List (List T)), laws_markMemS_it1 k a0 a1 [] (j1 + 1) (laws_markMemS_S1 v) = laws_markMemS_L1 k (fun v => laws_markMemS_it1 k a0 a1 [] j1 (laws_markMemS_S1 v)) v := by
    intro j1 v; kernel_rfl
  have i1 : ∀ (j1 : Nat) (v : Int × Int × List (List T)), laws_markMemS_it1 k a0 a1 [] j1 (laws_markMemS_S1 v) = fixN (laws_markMemS_l1 k) j1 v := by
    intro j1 v
    refine iter_fix (laws_markMemS_S1) (laws_markMemS_l1 k) (fun j1 v => (e1 j1 v).trans ?_) j1 v
    unfold laws_markMemS_l1
    rfl
  rw [e0]; unfold laws_markMemS_u
  simp only [i1]
def laws_markEntS_L1 (k : Nat) (G1 : (Int × Int × List (List T)) → Option Outs) : (Int × Int × List (List T)) → Option Outs := fun (v15, v16, w8) =>
 bif (decide (v16 < (w8.length : Int))) then
  chk (decide (0 ≤ v16) && decide (v16 < (w8.length : Int))) <|
  chk (decide (0 ≤ v16) && decide (v16 < ((put_ w8 v16.toNat 0 [.i v15]).length : Int))) <|
  bindO (evalF E P0 k N.laws_markIntS [.r ((at_ (put_ w8 v16.toNat 0 [.i v15]) v16.toNat 1).asR), .v [.i (IntKind.wrap .i64 (v15 + 1))]]) fun o48 =>
  G1 ((o48.t 0).asI, (IntKind.wrap .i64 (v16 + 1)), (put_ (put_ w8 v16.toNat 0 [.i v15]) v16.toNat 1 [.r ((o48.vt 0 0).asR)]))
 else
  some ⟨[.i v15], [[.r w8]]⟩
def laws_markEntS_k1 : List Nat := [0, 1, 4, 5, 26]
def laws_markEntS_S1 : (Int × Int × List (List T)) → St := fun (v15, v16, w8) => ⟨ofSl [(0, .ref (0, 0)), (1, .i .i64 v15), (4, .i .i64 0), (5, .i .i64 v16), (26, .skip)], Mem.put (ofMem [((0, 0), .deep 162 w8 none)]) modeNm .dead⟩
def laws_markEntS_l1 (k : Nat) (G1 : (Int × Int × List (List T)) → Option Outs) : (Int × Int × List (List T)) → Option Outs :=
  laws_markEntS_L1 k G1
def laws_markEntS_U (k : Nat) (a0 : List (List T)) (a1 : Int) (R1 : (Int × Int × List (List T)) → Option Outs) : Option Outs :=
 R1 (a1, 0, a0)
def laws_markEntS_u (k : Nat) (a0 : List (List T)) (a1 : Int) : Option Outs :=
  laws_markEntS_U k a0 a1 (fun v => fixN (laws_markEntS_l1 k) k v)
def laws_markEntS_it1 (k : Nat) (a0 : List (List T)) (a1 : Int) (js : List Nat) (j : Nat) (s : St) : Option Outs := iter E (LB E (evalF E P0 k) k [0] N.laws_markEntS [.sr, .sl, .sr, .bl]) [0] laws_markEntS_k1 (LK E (evalF E P0 k) k [0] N.laws_markEntS [.r a0, .v [.i a1]] [.sr, .sl, .sr, .bl] js) j s
theorem laws_markEntS_e (k : Nat) (a0 : List (List T)) (a1 : Int) : evalF E P0 (k + 1) N.laws_markEntS [.r a0, .v [.i a1]] = laws_markEntS_u k a0 a1 := by
  have e0 : evalF E P0 (k + 1) N.laws_markEntS [.r a0, .v [.i a1]] = laws_markEntS_U k a0 a1 (fun v => laws_markEntS_it1 k a0 a1 [] k (laws_markEntS_S1 v)) := by kernel_rfl
  have e1 : ∀ (j1 : Nat) (v : Int × Int × List (List T)), laws_markEntS_it1 k a0 a1 [] (j1 + 1) (laws_markEntS_S1 v) = laws_markEntS_L1 k (fun v => laws_markEntS_it1 k a0 a1 [] j1 (laws_markEntS_S1 v)) v := by
    intro j1 v; kernel_rfl
  have i1 : ∀ (j1 : Nat) (v : Int × Int × List (List T)), laws_markEntS_it1 k a0 a1 [] j1 (laws_markEntS_S1 v) = fixN (laws_markEntS_l1 k) j1 v := by
    intro j1 v
    refine iter_fix (laws_markEntS_S1) (laws_markEntS_l1 k) (fun j1 v => (e1 j1 v).trans ?_) j1 v
    unfold laws_markEntS_l1
    rfl
  rw [e0]; unfold laws_markEntS_u
  simp only [i1]
def laws_markArr_u (k : Nat) (a0_0 : Int) (a0_1 : Int) (a0_2 : Int) (a0_3 : List (List T)) (a0_4 : Int) (a0_5 : Int) (a0_6 : Int) (a0_7 : Int) (a0_8 : Int) (a0_9 : List (List T)) (a0_10 : Int) (a0_11 : Bool) (a0_12 : Bool) (a1 : Int) : Option Outs :=
 bindO (evalF E P0 k N.laws_markMemS [.r a0_3, .v [.i a1]]) fun o2 =>
 bindO (evalF E P0 k N.laws_markEntS [.r a0_9, .v [.i (o2.t 0).asI]]) fun o4 =>
 some ⟨[.i (o4.t 0).asI], [[.i a0_0, .i a0_1, .i a0_2, .r (o2.vt 0 0).asR, .i a0_4, .i a0_5, .i a0_6, .i a0_7, .i a0_8, .r (o4.vt 0 0).asR, .i a0_10, .b a0_11, .b a0_12]]⟩
theorem laws_markArr_e (k : Nat) (a0_0 : Int) (a0_1 : Int) (a0_2 : Int) (a0_3 : List (List T)) (a0_4 : Int) (a0_5 : Int) (a0_6 : Int) (a0_7 : Int) (a0_8 : Int) (a0_9 : List (List T)) (a0_10 : Int) (a0_11 : Bool) (a0_12 : Bool) (a1 : Int) : evalF E P0 (k + 1) N.laws_markArr [.s [.i a0_0, .i a0_1, .i a0_2, .r a0_3, .i a0_4, .i a0_5, .i a0_6, .i a0_7, .i a0_8, .r a0_9, .i a0_10, .b a0_11, .b a0_12], .v [.i a1]] = laws_markArr_u k a0_0 a0_1 a0_2 a0_3 a0_4 a0_5 a0_6 a0_7 a0_8 a0_9 a0_10 a0_11 a0_12 a1 := by kernel_rfl
def laws_markCmdS_L1 (k : Nat) (G1 : (Int × Int × List (List T)) → Option Outs) : (Int × Int × List (List T)) → Option Outs := fun (v15, v16, w8) =>
 bif (decide (v16 < (w8.length : Int))) then
  chk (decide (0 ≤ v16) && decide (v16 < (w8.length : Int))) <|
  chk (decide (0 ≤ v16) && decide (v16 < ((put_ w8 v16.toNat 0 [.i v15]).length : Int))) <|
  chk (decide (0 ≤ v16) && decide (v16 < ((put_ (put_ w8 v16.toNat 0 [.i v15]) v16.toNat 1 [.i (IntKind.wrap .i64 (v15 + 1))]).length : Int))) <|
  chk (decide (0 ≤ v16) && decide (v16 < ((put_ (put_ (put_ w8 v16.toNat 0 [.i v15]) v16.toNat 1 [.i (IntKind.wrap .i64 (v15 + 1))]) v16.toNat 2 [.i (IntKind.wrap .i64 ((IntKind.wrap .i64 (v15 + 1)) + 1))]).length : Int))) <|
  chk (decide (0 ≤ v16) && decide (v16 < ((put_ (put_ (put_ (put_ w8 v16.toNat 0 [.i v15]) v16.toNat 1 [.i (IntKind.wrap .i64 (v15 + 1))]) v16.toNat 2 [.i (IntKind.wrap .i64 ((IntKind.wrap .i64 (v15 + 1)) + 1))]) v16.toNat 3 [.i (IntKind.wrap .i64 ((IntKind.wrap .i64 ((IntKind.wrap .i64 (v15 + 1)) + 1)) + 1))]).length : Int))) <|
  bindO (evalF E P0 k N.laws_markIntS [.r ((at_ (put_ (put_ (put_ (put_ w8 v16.toNat 0 [.i v15]) v16.toNat 1 [.i (IntKind.wrap .i64 (v15 + 1))]) v16.toNat 2 [.i (IntKind.wrap .i64 ((IntKind.wrap .i64 (v15 + 1)) + 1))]) v16.toNat 3 [.i (IntKind.wrap .i64 ((IntKind.wrap .i64 ((IntKind.wrap .i64 (v15 + 1)) + 1)) + 1))]) v16.toNat 4).asR), .v [.i (IntKind.wrap .i64 ((IntKind.wrap .i64 ((IntKind.wrap .i64 ((IntKind.wrap .i64 (v15 + 1)) + 1)) + 1)) + 1))]]) fun o48 =>
  G1 ((o48.t 0).asI, (IntKind.wrap .i64 (v16 + 1)), (put_ (put_ (put_ (put_ (put_ w8 v16.toNat 0 [.i v15]) v16.toNat 1 [.i (IntKind.wrap .i64 (v15 + 1))]) v16.toNat 2 [.i (IntKind.wrap .i64 ((IntKind.wrap .i64 (v15 + 1)) + 1))]) v16.toNat 3 [.i (IntKind.wrap .i64 ((IntKind.wrap .i64 ((IntKind.wrap .i64 (v15 + 1)) + 1)) + 1))]) v16.toNat 4 [.r ((o48.vt 0 0).asR)]))
 else
  some ⟨[.i v15], [[.r w8]]⟩
def laws_markCmdS_k1 : List Nat := [0, 1, 4, 5, 47]
def laws_markCmdS_S1 : (Int × Int × List (List T)) → St := fun (v15, v16, w8) => ⟨ofSl [(0, .ref (0, 0)), (1, .i .i64 v15), (4, .i .i64 0), (5, .i .i64 v16), (47, .skip)], Mem.put (ofMem [((0, 0), .deep 53 w8 none)]) modeNm .dead⟩
def laws_markCmdS_l1 (k : Nat) (G1 : (Int × Int × List (List T)) → Option Outs) : (Int × Int × List (List T)) → Option Outs :=
  laws_markCmdS_L1 k G1
def laws_markCmdS_U (k : Nat) (a0 : List (List T)) (a1 : Int) (R1 : (Int × Int × List (List T)) → Option Outs) : Option Outs :=
 R1 (a1, 0, a0)
def laws_markCmdS_u (k : Nat) (a0 : List (List T)) (a1 : Int) : Option Outs :=
  laws_markCmdS_U k a0 a1 (fun v => fixN (laws_markCmdS_l1 k) k v)
def laws_markCmdS_it1 (k : Nat) (a0 : List (List T)) (a1 : Int) (js : List Nat) (j : Nat) (s : St) : Option Outs := iter E (LB E (evalF E P0 k) k [0] N.laws_markCmdS [.sr, .sl, .sr, .bl]) [0] laws_markCmdS_k1 (LK E (evalF E P0 k) k [0] N.laws_markCmdS [.r a0, .v [.i a1]] [.sr, .sl, .sr, .bl] js) j s
theorem laws_markCmdS_e (k : Nat) (a0 : List (List T)) (a1 : Int) : evalF E P0 (k + 1) N.laws_markCmdS [.r a0, .v [.i a1]] = laws_markCmdS_u k a0 a1 := by
  have e0 : evalF E P0 (k + 1) N.laws_markCmdS [.r a0, .v [.i a1]] = laws_markCmdS_U k a0 a1 (fun v => laws_markCmdS_it1 k a0 a1 [] k (laws_markCmdS_S1 v)) := by kernel_rfl
  have e1 : ∀ (j1 : Nat) (v : Int × Int × List (List T)), laws_markCmdS_it1 k a0 a1 [] (j1 + 1) (laws_markCmdS_S1 v) = laws_markCmdS_L1 k (fun v => laws_markCmdS_it1 k a0 a1 [] j1 (laws_markCmdS_S1 v)) v := by
    intro j1 v; kernel_rfl
  have i1 : ∀ (j1 : Nat) (v : Int × Int × List (List T)), laws_markCmdS_it1 k a0 a1 [] j1 (laws_markCmdS_S1 v) = fixN (laws_markCmdS_l1 k) j1 v := by
    intro j1 v
    refine iter_fix (laws_markCmdS_S1) (laws_markCmdS_l1 k) (fun j1 v => (e1 j1 v).trans ?_) j1 v
    unfold laws_markCmdS_l1
    rfl
  rw [e0]; unfold laws_markCmdS_u
  simp only [i1]
def laws_markJobS_L1 (k : Nat) (G1 : (Int × Int × List (List T)) → Option Outs) : (Int × Int × List (List T)) → Option Outs := fun (v15, v16, w8) =>
 bif (decide (v16 < (w8.length : Int))) then
  chk (decide (0 ≤ v16) && decide (v16 < (w8.length : Int))) <|
  chk (decide (0 ≤ v16) && decide (v16 < ((put_ w8 v16.toNat 0 [.i v15]).length : Int))) <|
  chk (decide (0 ≤ v16) && decide (v16 < ((put_ (put_ w8 v16.toNat 0 [.i v15]) v16.toNat 1 [.i (IntKind.wrap .i64 (v15 + 1))]).length : Int))) <|
  chk (decide (0 ≤ v16) && decide (v16 < ((put_ (put_ (put_ w8 v16.toNat 0 [.i v15]) v16.toNat 1 [.i (IntKind.wrap .i64 (v15 + 1))]) v16.toNat 2 [.i (IntKind.wrap .i64 ((IntKind.wrap .i64 (v15 + 1)) + 1))]).length : Int))) <|
  chk (decide (0 ≤ v16) && decide (v16 < ((put_ (put_ (put_ (put_ w8 v16.toNat 0 [.i v15]) v16.toNat 1 [.i (IntKind.wrap .i64 (v15 + 1))]) v16.toNat 2 [.i (IntKind.wrap .i64 ((IntKind.wrap .i64 (v15 + 1)) + 1))]) v16.toNat 3 [.i (IntKind.wrap .i64 ((IntKind.wrap .i64 ((IntKind.wrap .i64 (v15 + 1)) + 1)) + 1))]).length : Int))) <|
  bindO (evalF E P0 k N.laws_markIntS [.r ((at_ (put_ (put_ (put_ (put_ w8 v16.toNat 0 [.i v15]) v16.toNat 1 [.i (IntKind.wrap .i64 (v15 + 1))]) v16.toNat 2 [.i (IntKind.wrap .i64 ((IntKind.wrap .i64 (v15 + 1)) + 1))]) v16.toNat 3 [.i (IntKind.wrap .i64 ((IntKind.wrap .i64 ((IntKind.wrap .i64 (v15 + 1)) + 1)) + 1))]) v16.toNat 4).asR), .v [.i (IntKind.wrap .i64 ((IntKind.wrap .i64 ((IntKind.wrap .i64 ((IntKind.wrap .i64 (v15 + 1)) + 1)) + 1)) + 1))]]) fun o190 =>
  chk (decide (0 ≤ v16) && decide (v16 < ((put_ (put_ (put_ (put_ w8 v16.toNat 0 [.i v15]) v16.toNat 1 [.i (IntKind.wrap .i64 (v15 + 1))]) v16.toNat 2 [.i (IntKind.wrap .i64 ((IntKind.wrap .i64 (v15 + 1)) + 1))]) v16.toNat 3 [.i (IntKind.wrap .i64 ((IntKind.wrap .i64 ((IntKind.wrap .i64 (v15 + 1)) + 1)) + 1))]).length : Int))) <|
  chk (decide (0 ≤ v16) && decide (v16 < ((put_ (put_ (put_ (put_ (put_ (put_ w8 v16.toNat 0 [.i v15]) v16.toNat 1 [.i (IntKind.wrap .i64 (v15 + 1))]) v16.toNat 2 [.i (IntKind.wrap .i64 ((IntKind.wrap .i64 (v15 + 1)) + 1))]) v16.toNat 3 [.i (IntKind.wrap .i64 ((IntKind.wrap .i64 ((IntKind.wrap .i64 (v15 + 1)) + 1)) + 1))]) v16.toNat 4 [.r ((o190.vt 0 0).asR)]) v16.toNat 5 [.i (o190.t 0).asI]).length : Int))) <|
  bindO (evalF E P0 k N.laws_markIntS [.r ((at_ (put_ (put_ (put_ (put_ (put_ (put_ w8 v16.toNat 0 [.i v15]) v16.toNat 1 [.i (IntKind.wrap .i64 (v15 + 1))]) v16.toNat 2 [.i (IntKind.wrap .i64 ((IntKind.wrap .i64 (v15 + 1)) + 1))]) v16.toNat 3 [.i (IntKind.wrap .i64 ((IntKind.wrap .i64 ((IntKind.wrap .i64 (v15 + 1)) + 1)) + 1))]) v16.toNat 4 [.r ((o190.vt 0 0).asR)]) v16.toNat 5 [.i (o190.t 0).asI]) v16.toNat 6).asR), .v [.i (IntKind.wrap .i64 ((o190.t 0).asI + 1))]]) fun o192 =>
  chk (decide (0 ≤ v16) && decide (v16 < ((put_ (put_ (put_ (put_ (put_ (put_ w8 v16.toNat 0 [.i v15]) v16.toNat 1 [.i (IntKind.wrap .i64 (v15 + 1))]) v16.toNat 2 [.i (IntKind.wrap .i64 ((IntKind.wrap .i64 (v15 + 1)) + 1))]) v16.toNat 3 [.i (IntKind.wrap .i64 ((IntKind.wrap .i64 ((IntKind.wrap .i64 (v15 + 1)) + 1)) + 1))]) v16.toNat 4 [.r ((o190.vt 0 0).asR)]) v16.toNat 5 [.i (o190.t 0).asI]).length : Int))) <|
  G1 ((IntKind.wrap .i64 ((o192.t 0).asI + 1)), (IntKind.wrap .i64 (v16 + 1)), (put_ (put_ (put_ (put_ (put_ (put_ (put_ (put_ w8 v16.toNat 0 [.i v15]) v16.toNat 1 [.i (IntKind.wrap .i64 (v15 + 1))]) v16.toNat 2 [.i (IntKind.wrap .i64 ((IntKind.wrap .i64 (v15 + 1)) + 1))]) v16.toNat 3 [.i (IntKind.wrap .i64 ((IntKind.wrap .i64 ((IntKind.wrap .i64 (v15 + 1)) + 1)) + 1))]) v16.toNat 4 [.r ((o190.vt 0 0).asR)]) v16.toNat 5 [.i (o190.t 0).asI]) v16.toNat 6 [.r ((o192.vt 0 0).asR)]) v16.toNat 7 [.i (o192.t 0).asI]))
 else
  some ⟨[.i v15], [[.r w8]]⟩
def laws_markJobS_k1 : List Nat := [0, 1, 4, 5, 73]
def laws_markJobS_S1 : (Int × Int × List (List T)) → St := fun (v15, v16, w8) => ⟨ofSl [(0, .ref (0, 0)), (1, .i .i64 v15), (4, .i .i64 0), (5, .i .i64 v16), (73, .skip)], Mem.put (ofMem [((0, 0), .deep 103 w8 none)]) modeNm .dead⟩
def laws_markJobS_l1 (k : Nat) (G1 : (Int × Int × List (List T)) → Option Outs) : (Int × Int × List (List T)) → Option Outs :=
  laws_markJobS_L1 k G1
def laws_markJobS_U (k : Nat) (a0 : List (List T)) (a1 : Int) (R1 : (Int × Int × List (List T)) → Option Outs) : Option Outs :=
 R1 (a1, 0, a0)
def laws_markJobS_u (k : Nat) (a0 : List (List T)) (a1 : Int) : Option Outs :=
  laws_markJobS_U k a0 a1 (fun v => fixN (laws_markJobS_l1 k) k v)
def laws_markJobS_it1 (k : Nat) (a0 : List (List T)) (a1 : Int) (js : List Nat) (j : Nat) (s : St) : Option Outs := iter E (LB E (evalF E P0 k) k [0] N.laws_markJobS [.sr, .sl, .sr, .bl]) [0] laws_markJobS_k1 (LK E (evalF E P0 k) k [0] N.laws_markJobS [.r a0, .v [.i a1]] [.sr, .sl, .sr, .bl] js) j s
theorem laws_markJobS_e (k : Nat) (a0 : List (List T)) (a1 : Int) : evalF E P0 (k + 1) N.laws_markJobS [.r a0, .v [.i a1]] = laws_markJobS_u k a0 a1 := by
  have e0 : evalF E P0 (k + 1) N.laws_markJobS [.r a0, .v [.i a1]] = laws_markJobS_U k a0 a1 (fun v => laws_markJobS_it1 k a0 a1 [] k (laws_markJobS_S1 v)) := by kernel_rfl
  have e1 : ∀ (j1 : Nat) (v : Int × Int × List (List T)), laws_markJobS_it1 k a0 a1 [] (j1 + 1) (laws_markJobS_S1 v) = laws_markJobS_L1 k (fun v => laws_markJobS_it1 k a0 a1 [] j1 (laws_markJobS_S1 v)) v := by
    intro j1 v; kernel_rfl
  have i1 : ∀ (j1 : Nat) (v : Int × Int × List (List T)), laws_markJobS_it1 k a0 a1 [] j1 (laws_markJobS_S1 v) = fixN (laws_markJobS_l1 k) j1 v := by
    intro j1 v
    refine iter_fix (laws_markJobS_S1) (laws_markJobS_l1 k) (fun j1 v => (e1 j1 v).trans ?_) j1 v
    unfold laws_markJobS_l1
    rfl
  rw [e0]; unfold laws_markJobS_u
  simp only [i1]
def laws_markAnsS_L1 (k : Nat) (G1 : (Int × Int × List (List T)) → Option Outs) : (Int × Int × List (List T)) → Option Outs := fun (v15, v16, w8) =>
 bif (decide (v16 < (w8.length : Int))) then
  chk (decide (0 ≤ v16) && decide (v16 < (w8.length : Int))) <|
  chk (decide (0 ≤ v16) && decide (v16 < ((put_ w8 v16.toNat 0 [.i v15]).length : Int))) <|
  chk (decide (0 ≤ v16) && decide (v16 < ((put_ (put_ w8 v16.toNat 0 [.i v15]) v16.toNat 1 [.i (IntKind.wrap .i64 (v15 + 1))]).length : Int))) <|
  bindO (evalF E P0 k N.laws_markIntS [.r ((at_ (put_ (put_ w8 v16.toNat 0 [.i v15]) v16.toNat 1 [.i (IntKind.wrap .i64 (v15 + 1))]) v16.toNat 2).asR), .v [.i (IntKind.wrap .i64 ((IntKind.wrap .i64 (v15 + 1)) + 1))]]) fun o48 =>
  G1 ((o48.t 0).asI, (IntKind.wrap .i64 (v16 + 1)), (put_ (put_ (put_ w8 v16.toNat 0 [.i v15]) v16.toNat 1 [.i (IntKind.wrap .i64 (v15 + 1))]) v16.toNat 2 [.r ((o48.vt 0 0).asR)]))
 else
  some ⟨[.i v15], [[.r w8]]⟩
def laws_markAnsS_k1 : List Nat := [0, 1, 4, 5, 33]
def laws_markAnsS_S1 : (Int × Int × List (List T)) → St := fun (v15, v16, w8) => ⟨ofSl [(0, .ref (0, 0)), (1, .i .i64 v15), (4, .i .i64 0), (5, .i .i64 v16), (33, .skip)], Mem.put (ofMem [((0, 0), .deep 61 w8 none)]) modeNm .dead⟩
def laws_markAnsS_l1 (k : Nat) (G1 : (Int × Int × List (List T)) → Option Outs) : (Int × Int × List (List T)) → Option Outs :=
  laws_markAnsS_L1 k G1
def laws_markAnsS_U (k : Nat) (a0 : List (List T)) (a1 : Int) (R1 : (Int × Int × List (List T)) → Option Outs) : Option Outs :=
 R1 (a1, 0, a0)
def laws_markAnsS_u (k : Nat) (a0 : List (List T)) (a1 : Int) : Option Outs :=
  laws_markAnsS_U k a0 a1 (fun v => fixN (laws_markAnsS_l1 k) k v)
def laws_markAnsS_it1 (k : Nat) (a0 : List (List T)) (a1 : Int) (js : List Nat) (j : Nat) (s : St) : Option Outs := iter E (LB E (evalF E P0 k) k [0] N.laws_markAnsS [.sr, .sl, .sr, .bl]) [0] laws_markAnsS_k1 (LK E (evalF E P0 k) k [0] N.laws_markAnsS [.r a0, .v [.i a1]] [.sr, .sl, .sr, .bl] js) j s
theorem laws_markAnsS_e (k : Nat) (a0 : List (List T)) (a1 : Int) : evalF E P0 (k + 1) N.laws_markAnsS [.r a0, .v [.i a1]] = laws_markAnsS_u k a0 a1 := by
  have e0 : evalF E P0 (k + 1) N.laws_markAnsS [.r a0, .v [.i a1]] = laws_markAnsS_U k a0 a1 (fun v => laws_markAnsS_it1 k a0 a1 [] k (laws_markAnsS_S1 v)) := by kernel_rfl
  have e1 : ∀ (j1 : Nat) (v : Int × Int × List (List T)), laws_markAnsS_it1 k a0 a1 [] (j1 + 1) (laws_markAnsS_S1 v) = laws_markAnsS_L1 k (fun v => laws_markAnsS_it1 k a0 a1 [] j1 (laws_markAnsS_S1 v)) v := by
    intro j1 v; kernel_rfl
  have i1 : ∀ (j1 : Nat) (v : Int × Int × List (List T)), laws_markAnsS_it1 k a0 a1 [] j1 (laws_markAnsS_S1 v) = fixN (laws_markAnsS_l1 k) j1 v := by
    intro j1 v
    refine iter_fix (laws_markAnsS_S1) (laws_markAnsS_l1 k) (fun j1 v => (e1 j1 v).trans ?_) j1 v
    unfold laws_markAnsS_l1
    rfl
  rw [e0]; unfold laws_markAnsS_u
  simp only [i1]
def laws_markTurnS_L1 (k : Nat) (G1 : (Int × Int × List (List T)) → Option Outs) : (Int × Int × List (List T)) → Option Outs := fun (v15, v16, w8) =>
 bif (decide (v16 < (w8.length : Int))) then
  chk (decide (0 ≤ v16) && decide (v16 < (w8.length : Int))) <|
  chk (decide (0 ≤ v16) && decide (v16 < ((put_ w8 v16.toNat 0 [.i v15]).length : Int))) <|
  chk (decide (0 ≤ v16) && decide (v16 < ((put_ (put_ w8 v16.toNat 0 [.i v15]) v16.toNat 1 [.i (IntKind.wrap .i64 (v15 + 1))]).length : Int))) <|
  chk (decide (0 ≤ v16) && decide (v16 < ((put_ (put_ (put_ w8 v16.toNat 0 [.i v15]) v16.toNat 1 [.i (IntKind.wrap .i64 (v15 + 1))]) v16.toNat 2 [.i (IntKind.wrap .i64 ((IntKind.wrap .i64 (v15 + 1)) + 1))]).length : Int))) <|
  chk (decide (0 ≤ v16) && decide (v16 < ((put_ (put_ (put_ (put_ w8 v16.toNat 0 [.i v15]) v16.toNat 1 [.i (IntKind.wrap .i64 (v15 + 1))]) v16.toNat 2 [.i (IntKind.wrap .i64 ((IntKind.wrap .i64 (v15 + 1)) + 1))]) v16.toNat 3 [.i (IntKind.wrap .i64 ((IntKind.wrap .i64 ((IntKind.wrap .i64 (v15 + 1)) + 1)) + 1))]).length : Int))) <|
  bindO (evalF E P0 k N.laws_markIntS [.r ((at_ (put_ (put_ (put_ (put_ w8 v16.toNat 0 [.i v15]) v16.toNat 1 [.i (IntKind.wrap .i64 (v15 + 1))]) v16.toNat 2 [.i (IntKind.wrap .i64 ((IntKind.wrap .i64 (v15 + 1)) + 1))]) v16.toNat 3 [.i (IntKind.wrap .i64 ((IntKind.wrap .i64 ((IntKind.wrap .i64 (v15 + 1)) + 1)) + 1))]) v16.toNat 4).asR), .v [.i (IntKind.wrap .i64 ((IntKind.wrap .i64 ((IntKind.wrap .i64 ((IntKind.wrap .i64 (v15 + 1)) + 1)) + 1)) + 1))]]) fun o143 =>
  chk (decide (0 ≤ v16) && decide (v16 < ((put_ (put_ (put_ (put_ w8 v16.toNat 0 [.i v15]) v16.toNat 1 [.i (IntKind.wrap .i64 (v15 + 1))]) v16.toNat 2 [.i (IntKind.wrap .i64 ((IntKind.wrap .i64 (v15 + 1)) + 1))]) v16.toNat 3 [.i (IntKind.wrap .i64 ((IntKind.wrap .i64 ((IntKind.wrap .i64 (v15 + 1)) + 1)) + 1))]).length : Int))) <|
  chk (decide (0 ≤ v16) && decide (v16 < ((put_ (put_ (put_ (put_ (put_ (put_ w8 v16.toNat 0 [.i v15]) v16.toNat 1 [.i (IntKind.wrap .i64 (v15 + 1))]) v16.toNat 2 [.i (IntKind.wrap .i64 ((IntKind.wrap .i64 (v15 + 1)) + 1))]) v16.toNat 3 [.i (IntKind.wrap .i64 ((IntKind.wrap .i64 ((IntKind.wrap .i64 (v15 + 1)) + 1)) + 1))]) v16.toNat 4 [.r ((o143.vt 0 0).asR)]) v16.toNat 5 [.i (o143.t 0).asI]).length : Int))) <|
  chk (decide (0 ≤ v16) && decide (v16 < ((put_ (put_ (put_ (put_ (put_ (put_ (put_ w8 v16.toNat 0 [.i v15]) v16.toNat 1 [.i (IntKind.wrap .i64 (v15 + 1))]) v16.toNat 2 [.i (IntKind.wrap .i64 ((IntKind.wrap .i64 (v15 + 1)) + 1))]) v16.toNat 3 [.i (IntKind.wrap .i64 ((IntKind.wrap .i64 ((IntKind.wrap .i64 (v15 + 1)) + 1)) + 1))]) v16.toNat 4 [.r ((o143.vt 0 0).asR)]) v16.toNat 5 [.i (o143.t 0).asI]) v16.toNat 6 [.i (IntKind.wrap .i64 ((o143.t 0).asI + 1))]).length : Int))) <|
  bindO (evalF E P0 k N.laws_markIntS [.r ((at_ (put_ (put_ (put_ (put_ (put_ (put_ (put_ w8 v16.toNat 0 [.i v15]) v16.toNat 1 [.i (IntKind.wrap .i64 (v15 + 1))]) v16.toNat 2 [.i (IntKind.wrap .i64 ((IntKind.wrap .i64 (v15 + 1)) + 1))]) v16.toNat 3 [.i (IntKind.wrap .i64 ((IntKind.wrap .i64 ((IntKind.wrap .i64 (v15 + 1)) + 1)) + 1))]) v16.toNat 4 [.r ((o143.vt 0 0).asR)]) v16.toNat 5 [.i (o143.t 0).asI]) v16.toNat 6 [.i (IntKind.wrap .i64 ((o143.t 0).asI + 1))]) v16.toNat 7).asR), .v [.i (IntKind.wrap .i64 ((IntKind.wrap .i64 ((o143.t 0).asI + 1)) + 1))]]) fun o144 =>
  G1 ((o144.t 0).asI, (IntKind.wrap .i64 (v16 + 1)), (put_ (put_ (put_ (put_ (put_ (put_ (put_ (put_ w8 v16.toNat 0 [.i v15]) v16.toNat 1 [.i (IntKind.wrap .i64 (v15 + 1))]) v16.toNat 2 [.i (IntKind.wrap .i64 ((IntKind.wrap .i64 (v15 + 1)) + 1))]) v16.toNat 3 [.i (IntKind.wrap .i64 ((IntKind.wrap .i64 ((IntKind.wrap .i64 (v15 + 1)) + 1)) + 1))]) v16.toNat 4 [.r ((o143.vt 0 0).asR)]) v16.toNat 5 [.i (o143.t 0).asI]) v16.toNat 6 [.i (IntKind.wrap .i64 ((o143.t 0).asI + 1))]) v16.toNat 7 [.r ((o144.vt 0 0).asR)]))
 else
  some ⟨[.i v15], [[.r w8]]⟩
def laws_markTurnS_k1 : List Nat := [0, 1, 4, 5, 76]
def laws_markTurnS_S1 : (Int × Int × List (List T)) → St := fun (v15, v16, w8) => ⟨ofSl [(0, .ref (0, 0)), (1, .i .i64 v15), (4, .i .i64 0), (5, .i .i64 v16), (76, .skip)], Mem.put (ofMem [((0, 0), .deep 120 w8 none)]) modeNm .dead⟩
def laws_markTurnS_l1 (k : Nat) (G1 : (Int × Int × List (List T)) → Option Outs) : (Int × Int × List (List T)) → Option Outs :=
  laws_markTurnS_L1 k G1
def laws_markTurnS_U (k : Nat) (a0 : List (List T)) (a1 : Int) (R1 : (Int × Int × List (List T)) → Option Outs) : Option Outs :=
 R1 (a1, 0, a0)
def laws_markTurnS_u (k : Nat) (a0 : List (List T)) (a1 : Int) : Option Outs :=
  laws_markTurnS_U k a0 a1 (fun v => fixN (laws_markTurnS_l1 k) k v)
def laws_markTurnS_it1 (k : Nat) (a0 : List (List T)) (a1 : Int) (js : List Nat) (j : Nat) (s : St) : Option Outs := iter E (LB E (evalF E P0 k) k [0] N.laws_markTurnS [.sr, .sl, .sr, .bl]) [0] laws_markTurnS_k1 (LK E (evalF E P0 k) k [0] N.laws_markTurnS [.r a0, .v [.i a1]] [.sr, .sl, .sr, .bl] js) j s
theorem laws_markTurnS_e (k : Nat) (a0 : List (List T)) (a1 : Int) : evalF E P0 (k + 1) N.laws_markTurnS [.r a0, .v [.i a1]] = laws_markTurnS_u k a0 a1 := by
  have e0 : evalF E P0 (k + 1) N.laws_markTurnS [.r a0, .v [.i a1]] = laws_markTurnS_U k a0 a1 (fun v => laws_markTurnS_it1 k a0 a1 [] k (laws_markTurnS_S1 v)) := by kernel_rfl
  have e1 : ∀ (j1 : Nat) (v : Int × Int × List (List T)), laws_markTurnS_it1 k a0 a1 [] (j1 + 1) (laws_markTurnS_S1 v) = laws_markTurnS_L1 k (fun v => laws_markTurnS_it1 k a0 a1 [] j1 (laws_markTurnS_S1 v)) v := by
    intro j1 v; kernel_rfl
  have i1 : ∀ (j1 : Nat) (v : Int × Int × List (List T)), laws_markTurnS_it1 k a0 a1 [] j1 (laws_markTurnS_S1 v) = fixN (laws_markTurnS_l1 k) j1 v := by
    intro j1 v
    refine iter_fix (laws_markTurnS_S1) (laws_markTurnS_l1 k) (fun j1 v => (e1 j1 v).trans ?_) j1 v
    unfold laws_markTurnS_l1
    rfl
  rw [e0]; unfold laws_markTurnS_u
  simp only [i1]
def laws_markEng_u (k : Nat) (a0_0 : Int) (a0_1 : Int) (a0_2 : Int) (a0_3 : List (List T)) (a0_4 : Int) (a0_5 : Int) (a0_6 : Int) (a0_7 : Int) (a0_8 : Int) (a0_9 : List (List T)) (a0_10 : Int) (a0_11 : Bool) (a0_12 : Bool) (a0_13 : List (List T)) (a0_14 : List (List T)) (a0_15 : List (List T)) (a0_16 : List (List T)) (a1 : Int) : Option Outs :=
 bindO (evalF E P0 k N.laws_markArr [.s [.i a0_0, .i a0_1, .i a0_2, .r a0_3, .i a0_4, .i a0_5, .i a0_6, .i a0_7, .i a0_8, .r a0_9, .i a0_10, .b a0_11, .b a0_12], .v [.i a1]]) fun o2 =>
 bindO (evalF E P0 k N.laws_markCmdS [.r a0_13, .v [.i (o2.t 0).asI]]) fun o4 =>
 bindO (evalF E P0 k N.laws_markJobS [.r a0_14, .v [.i (o4.t 0).asI]]) fun o6 =>
 bindO (evalF E P0 k N.laws_markAnsS [.r a0_15, .v [.i (o6.t 0).asI]]) fun o8 =>
 bindO (evalF E P0 k N.laws_markTurnS [.r a0_16, .v [.i (o8.t 0).asI]]) fun o10 =>
 some ⟨[.i (o10.t 0).asI], [[.i a0_0, .i a0_1, .i a0_2, .r (o2.vt 0 3).asR, .i a0_4, .i a0_5, .i a0_6, .i a0_7, .i a0_8, .r (o2.vt 0 9).asR, .i a0_10, .b a0_11, .b a0_12, .r (o4.vt 0 0).asR, .r (o6.vt 0 0).asR, .r (o8.vt 0 0).asR, .r (o10.vt 0 0).asR]]⟩
theorem laws_markEng_e (k : Nat) (a0_0 : Int) (a0_1 : Int) (a0_2 : Int) (a0_3 : List (List T)) (a0_4 : Int) (a0_5 : Int) (a0_6 : Int) (a0_7 : Int) (a0_8 : Int) (a0_9 : List (List T)) (a0_10 : Int) (a0_11 : Bool) (a0_12 : Bool) (a0_13 : List (List T)) (a0_14 : List (List T)) (a0_15 : List (List T)) (a0_16 : List (List T)) (a1 : Int) : evalF E P0 (k + 1) N.laws_markEng [.s [.i a0_0, .i a0_1, .i a0_2, .r a0_3, .i a0_4, .i a0_5, .i a0_6, .i a0_7, .i a0_8, .r a0_9, .i a0_10, .b a0_11, .b a0_12, .r a0_13, .r a0_14, .r a0_15, .r a0_16], .v [.i a1]] = laws_markEng_u k a0_0 a0_1 a0_2 a0_3 a0_4 a0_5 a0_6 a0_7 a0_8 a0_9 a0_10 a0_11 a0_12 a0_13 a0_14 a0_15 a0_16 a1 := by kernel_rfl
def laws_heldIntS_L1 (k : Nat) (a0 : List (List T)) (G1 : (Int × Int) → Option Outs) : (Int × Int) → Option Outs := fun (v15, v16) =>
 bif (decide (v16 < (a0.length : Int))) then
  chk (decide (0 ≤ v16) && decide (v16 < (a0.length : Int))) <|
  bif ((at_ a0 v16.toNat 0).asI != v15) then
   some ⟨[.i (-1)], []⟩
  else
   G1 ((IntKind.wrap .i64 (v15 + 1)), (IntKind.wrap .i64 (v16 + 1)))
 else
  some ⟨[.i v15], []⟩
def laws_heldIntS_k1 : List Nat := [0, 1, 4, 5, 20]
def laws_heldIntS_S1 (a0 : List (List T)) : (Int × Int) → St := fun (v15, v16) => ⟨ofSl [(0, .sl 3 a0), (1, .i .i64 v15), (4, .i .i64 0), (5, .i .i64 v16), (20, .skip)], ofMem []⟩
def laws_heldIntS_l1 (k : Nat) (a0 : List (List T)) (G1 : (Int × Int) → Option Outs) : (Int × Int) → Option Outs :=
  laws_heldIntS_L1 k a0 G1
def laws_heldIntS_U (k : Nat) (a0 : List (List T)) (a1 : Int) (R1 : (Int × Int) → Option Outs) : Option Outs :=
 R1 (a1, 0)
def laws_heldIntS_u (k : Nat) (a0 : List (List T)) (a1 : Int) : Option Outs :=
  laws_heldIntS_U k a0 a1 (fun v => fixN (laws_heldIntS_l1 k a0) k v)
def laws_heldIntS_it1 (k : Nat) (a0 : List (List T)) (a1 : Int) (js : List Nat) (j : Nat) (s : St) : Option Outs := iter E (LB E (evalF E P0 k) k [] N.laws_heldIntS [.sr, .sl, .sr, .bl]) [] laws_heldIntS_k1 (LK E (evalF E P0 k) k [] N.laws_heldIntS [.v [.r a0], .v [.i a1]] [.sr, .sl, .sr, .bl] js) j s
theorem laws_heldIntS_e (k : Nat) (a0 : List (List T)) (a1 : Int) : evalF E P0 (k + 1) N.laws_heldIntS [.v [.r a0], .v [.i a1]] = laws_heldIntS_u k a0 a1 := by
  have e0 : evalF E P0 (k + 1) N.laws_heldIntS [.v [.r a0], .v [.i a1]] = laws_heldIntS_U k a0 a1 (fun v => laws_heldIntS_it1 k a0 a1 [] k (laws_heldIntS_S1 a0 v)) := by kernel_rfl
  have e1 : ∀ (j1 : Nat) (v : Int × Int), laws_heldIntS_it1 k a0 a1 [] (j1 + 1) (laws_heldIntS_S1 a0 v) = laws_heldIntS_L1 k a0 (fun v => laws_heldIntS_it1 k a0 a1 [] j1 (laws_heldIntS_S1 a0 v)) v := by
    intro j1 v; kernel_rfl
  have i1 : ∀ (j1 : Nat) (v : Int × Int), laws_heldIntS_it1 k a0 a1 [] j1 (laws_heldIntS_S1 a0 v) = fixN (laws_heldIntS_l1 k a0) j1 v := by
    intro j1 v
    refine iter_fix (laws_heldIntS_S1 a0) (laws_heldIntS_l1 k a0) (fun j1 v => (e1 j1 v).trans ?_) j1 v
    unfold laws_heldIntS_l1
    rfl
  rw [e0]; unfold laws_heldIntS_u
  simp only [i1]
def laws_heldIntSS_L1 (k : Nat) (a0 : List (List T)) (G1 : (Int × Int) → Option Outs) : (Int × Int) → Option Outs := fun (v15, v16) =>
 bif (decide (v16 < (a0.length : Int))) then
  chk (decide (0 ≤ v16) && decide (v16 < (a0.length : Int))) <|
  bindO (evalF E P0 k N.laws_heldIntS [.v [.r (at_ a0 v16.toNat 0).asR], .v [.i v15]]) fun o96 =>
  bif (decide ((o96.t 0).asI < 0)) then some ⟨[.i (-1)], []⟩ else G1 ((o96.t 0).asI, (IntKind.wrap .i64 (v16 + 1)))
 else
  some ⟨[.i v15], []⟩
def laws_heldIntSS_k1 : List Nat := [0, 1, 4, 5, 20]
def laws_heldIntSS_S1 (a0 : List (List T)) : (Int × Int) → St := fun (v15, v16) => ⟨ofSl [(0, .sl 34 a0), (1, .i .i64 v15), (4, .i .i64 0), (5, .i .i64 v16), (20, .skip)], ofMem []⟩
def laws_heldIntSS_l1 (k : Nat) (a0 : List (List T)) (G1 : (Int × Int) → Option Outs) : (Int × Int) → Option Outs :=
  laws_heldIntSS_L1 k a0 G1
def laws_heldIntSS_U (k : Nat) (a0 : List (List T)) (a1 : Int) (R1 : (Int × Int) → Option Outs) : Option Outs :=
 R1 (a1, 0)
def laws_heldIntSS_u (k : Nat) (a0 : List (List T)) (a1 : Int) : Option Outs :=
  laws_heldIntSS_U k a0 a1 (fun v => fixN (laws_heldIntSS_l1 k a0) k v)
def laws_heldIntSS_it1 (k : Nat) (a0 : List (List T)) (a1 : Int) (js : List Nat) (j : Nat) (s : St) : Option Outs := iter E (LB E (evalF E P0 k) k [] N.laws_heldIntSS [.sr, .sl, .sr, .bl]) [] laws_heldIntSS_k1 (LK E (evalF E P0 k) k [] N.laws_heldIntSS [.v [.r a0], .v [.i a1]] [.sr, .sl, .sr, .bl] js) j s
theorem laws_heldIntSS_e (k : Nat) (a0 : List (List T)) (a1 : Int) : evalF E P0 (k + 1) N.laws_heldIntSS [.v [.r a0], .v [.i a1]] = laws_heldIntSS_u k a0 a1 := by
  have e0 : evalF E P0 (k + 1) N.laws_heldIntSS [.v [.r a0], .v [.i a1]] = laws_heldIntSS_U k a0 a1 (fun v => laws_heldIntSS_it1 k a0 a1 [] k (laws_heldIntSS_S1 a0 v)) := by kernel_rfl
  have e1 : ∀ (j1 : Nat) (v : Int × Int), laws_heldIntSS_it1 k a0 a1 [] (j1 + 1) (laws_heldIntSS_S1 a0 v) = laws_heldIntSS_L1 k a0 (fun v => laws_heldIntSS_it1 k a0 a1 [] j1 (laws_heldIntSS_S1 a0 v)) v := by
    intro j1 v; kernel_rfl
  have i1 : ∀ (j1 : Nat) (v : Int × Int), laws_heldIntSS_it1 k a0 a1 [] j1 (laws_heldIntSS_S1 a0 v) = fixN (laws_heldIntSS_l1 k a0) j1 v := by
    intro j1 v
    refine iter_fix (laws_heldIntSS_S1 a0) (laws_heldIntSS_l1 k a0) (fun j1 v => (e1 j1 v).trans ?_) j1 v
    unfold laws_heldIntSS_l1
    rfl
  rw [e0]; unfold laws_heldIntSS_u
  simp only [i1]
def laws_heldWrS_L1 (k : Nat) (a0 : List (List T)) (G1 : (Int × Int) → Option Outs) : (Int × Int) → Option Outs := fun (v15, v16) =>
 bif (decide (v16 < (a0.length : Int))) then
  chk (decide (0 ≤ v16) && decide (v16 < (a0.length : Int))) <|
  bif ((at_ a0 v16.toNat 0).asI != v15) then
   some ⟨[.i (-1)], []⟩
  else
   chk (decide (0 ≤ v16) && decide (v16 < (a0.length : Int))) <|
   bindO (evalF E P0 k N.laws_heldIntS [.v [.r (at_ a0 v16.toNat 1).asR], .v [.i (IntKind.wrap .i64 (v15 + 1))]]) fun o96 =>
   bif (decide ((o96.t 0).asI < 0)) then some ⟨[.i (-1)], []⟩ else G1 ((o96.t 0).asI, (IntKind.wrap .i64 (v16 + 1)))
 else
  some ⟨[.i v15], []⟩
def laws_heldWrS_k1 : List Nat := [0, 1, 4, 5, 30]
def laws_heldWrS_S1 (a0 : List (List T)) : (Int × Int) → St := fun (v15, v16) => ⟨ofSl [(0, .sl 184 a0), (1, .i .i64 v15), (4, .i .i64 0), (5, .i .i64 v16), (30, .skip)], ofMem []⟩
def laws_heldWrS_l1 (k : Nat) (a0 : List (List T)) (G1 : (Int × Int) → Option Outs) : (Int × Int) → Option Outs :=
  laws_heldWrS_L1 k a0 G1
def laws_heldWrS_U (k : Nat) (a0 : List (List T)) (a1 : Int) (R1 : (Int × Int) → Option Outs) : Option Outs :=
 R1 (a1, 0)
def laws_heldWrS_u (k : Nat) (a0 : List (List T)) (a1 : Int) : Option Outs :=
  laws_heldWrS_U k a0 a1 (fun v => fixN (laws_heldWrS_l1 k a0) k v)
def laws_heldWrS_it1 (k : Nat) (a0 : List (List T)) (a1 : Int) (js : List Nat) (j : Nat) (s : St) : Option Outs := iter E (LB E (evalF E P0 k) k [] N.laws_heldWrS [.sr, .sl, .sr, .bl]) [] laws_heldWrS_k1 (LK E (evalF E P0 k) k [] N.laws_heldWrS [.v [.r a0], .v [.i a1]] [.sr, .sl, .sr, .bl] js) j s
theorem laws_heldWrS_e (k : Nat) (a0 : List (List T)) (a1 : Int) : evalF E P0 (k + 1) N.laws_heldWrS [.v [.r a0], .v [.i a1]] = laws_heldWrS_u k a0 a1 := by
  have e0 : evalF E P0 (k + 1) N.laws_heldWrS [.v [.r a0], .v [.i a1]] = laws_heldWrS_U k a0 a1 (fun v => laws_heldWrS_it1 k a0 a1 [] k (laws_heldWrS_S1 a0 v)) := by kernel_rfl
  have e1 : ∀ (j1 : Nat) (v : Int × Int), laws_heldWrS_it1 k a0 a1 [] (j1 + 1) (laws_heldWrS_S1 a0 v) = laws_heldWrS_L1 k a0 (fun v => laws_heldWrS_it1 k a0 a1 [] j1 (laws_heldWrS_S1 a0 v)) v := by
    intro j1 v; kernel_rfl
  have i1 : ∀ (j1 : Nat) (v : Int × Int), laws_heldWrS_it1 k a0 a1 [] j1 (laws_heldWrS_S1 a0 v) = fixN (laws_heldWrS_l1 k a0) j1 v := by
    intro j1 v
    refine iter_fix (laws_heldWrS_S1 a0) (laws_heldWrS_l1 k a0) (fun j1 v => (e1 j1 v).trans ?_) j1 v
    unfold laws_heldWrS_l1
    rfl
  rw [e0]; unfold laws_heldWrS_u
  simp only [i1]
def laws_heldMemS_L1 (k : Nat) (a0 : List (List T)) (G1 : (Int × Int) → Option Outs) : (Int × Int) → Option Outs := fun (v15, v16) =>
 bif (decide (v16 < (a0.length : Int))) then
  chk (decide (0 ≤ v16) && decide (v16 < (a0.length : Int))) <|
  bindO (evalF E P0 k N.laws_heldIntSS [.v [.r (at_ a0 v16.toNat 0).asR], .v [.i v15]]) fun o284 =>
  bif (decide ((o284.t 0).asI < 0)) then
   some ⟨[.i (-1)], []⟩
  else
   chk (decide (0 ≤ v16) && decide (v16 < (a0.length : Int))) <|
   bindO (evalF E P0 k N.laws_heldWrS [.v [.r (at_ a0 v16.toNat 1).asR], .v [.i (o284.t 0).asI]]) fun o286 =>
   bif (decide ((o286.t 0).asI < 0)) then
    some ⟨[.i (-1)], []⟩
   else
    chk (decide (0 ≤ v16) && decide (v16 < (a0.length : Int))) <|
    bif (!((at_ a0 v16.toNat 2).asB == ((Int.tmod (o286.t 0).asI 3) == 0))) then
     some ⟨[.i (-1)], []⟩
    else
     chk (decide (0 ≤ v16) && decide (v16 < (a0.length : Int))) <|
     bindO (evalF E P0 k N.laws_heldIntS [.v [.r (at_ a0 v16.toNat 3).asR], .v [.i (IntKind.wrap .i64 ((o286.t 0).asI + 1))]]) fun o288 =>
     bif (decide ((o288.t 0).asI < 0)) then some ⟨[.i (-1)], []⟩ else G1 ((o288.t 0).asI, (IntKind.wrap .i64 (v16 + 1)))
 else
  some ⟨[.i v15], []⟩
def laws_heldMemS_k1 : List Nat := [0, 1, 4, 5, 50]
def laws_heldMemS_S1 (a0 : List (List T)) : (Int × Int) → St := fun (v15, v16) => ⟨ofSl [(0, .sl 160 a0), (1, .i .i64 v15), (4, .i .i64 0), (5, .i .i64 v16), (50, .skip)], ofMem []⟩
def laws_heldMemS_l1 (k : Nat) (a0 : List (List T)) (G1 : (Int × Int) → Option Outs) : (Int × Int) → Option Outs :=
  laws_heldMemS_L1 k a0 G1
def laws_heldMemS_U (k : Nat) (a0 : List (List T)) (a1 : Int) (R1 : (Int × Int) → Option Outs) : Option Outs :=
 R1 (a1, 0)
def laws_heldMemS_u (k : Nat) (a0 : List (List T)) (a1 : Int) : Option Outs :=
  laws_heldMemS_U k a0 a1 (fun v => fixN (laws_heldMemS_l1 k a0) k v)
def laws_heldMemS_it1 (k : Nat) (a0 : List (List T)) (a1 : Int) (js : List Nat) (j : Nat) (s : St) : Option Outs := iter E (LB E (evalF E P0 k) k [] N.laws_heldMemS [.sr, .sl, .sr, .bl]) [] laws_heldMemS_k1 (LK E (evalF E P0 k) k [] N.laws_heldMemS [.v [.r a0], .v [.i a1]] [.sr, .sl, .sr, .bl] js) j s
theorem laws_heldMemS_e (k : Nat) (a0 : List (List T)) (a1 : Int) : evalF E P0 (k + 1) N.laws_heldMemS [.v [.r a0], .v [.i a1]] = laws_heldMemS_u k a0 a1 := by
  have e0 : evalF E P0 (k + 1) N.laws_heldMemS [.v [.r a0], .v [.i a1]] = laws_heldMemS_U k a0 a1 (fun v => laws_heldMemS_it1 k a0 a1 [] k (laws_heldMemS_S1 a0 v)) := by kernel_rfl
  have e1 : ∀ (j1 : Nat) (v : Int × Int), laws_heldMemS_it1 k a0 a1 [] (j1 + 1) (laws_heldMemS_S1 a0 v) = laws_heldMemS_L1 k a0 (fun v => laws_heldMemS_it1 k a0 a1 [] j1 (laws_heldMemS_S1 a0 v)) v := by
    intro j1 v; kernel_rfl
  have i1 : ∀ (j1 : Nat) (v : Int × Int), laws_heldMemS_it1 k a0 a1 [] j1 (laws_heldMemS_S1 a0 v) = fixN (laws_heldMemS_l1 k a0) j1 v := by
    intro j1 v
    refine iter_fix (laws_heldMemS_S1 a0) (laws_heldMemS_l1 k a0) (fun j1 v => (e1 j1 v).trans ?_) j1 v
    unfold laws_heldMemS_l1
    rfl
  rw [e0]; unfold laws_heldMemS_u
  simp only [i1]
def laws_heldEntS_L1 (k : Nat) (a0 : List (List T)) (G1 : (Int × Int) → Option Outs) : (Int × Int) → Option Outs := fun (v15, v16) =>
 bif (decide (v16 < (a0.length : Int))) then
  chk (decide (0 ≤ v16) && decide (v16 < (a0.length : Int))) <|
  bif ((at_ a0 v16.toNat 0).asI != v15) then
   some ⟨[.i (-1)], []⟩
  else
   chk (decide (0 ≤ v16) && decide (v16 < (a0.length : Int))) <|
   bindO (evalF E P0 k N.laws_heldIntS [.v [.r (at_ a0 v16.toNat 1).asR], .v [.i (IntKind.wrap .i64 (v15 + 1))]]) fun o96 =>
   bif (decide ((o96.t 0).asI < 0)) then some ⟨[.i (-1)], []⟩ else G1 ((o96.t 0).asI, (IntKind.wrap .i64 (v16 + 1)))
 else
  some ⟨[.i v15], []⟩
def laws_heldEntS_k1 : List Nat := [0, 1, 4, 5, 30]
def laws_heldEntS_S1 (a0 : List (List T)) : (Int × Int) → St := fun (v15, v16) => ⟨ofSl [(0, .sl 162 a0), (1, .i .i64 v15), (4, .i .i64 0), (5, .i .i64 v16), (30, .skip)], ofMem []⟩
def laws_heldEntS_l1 (k : Nat) (a0 : List (List T)) (G1 : (Int × Int) → Option Outs) : (Int × Int) → Option Outs :=
  laws_heldEntS_L1 k a0 G1
def laws_heldEntS_U (k : Nat) (a0 : List (List T)) (a1 : Int) (R1 : (Int × Int) → Option Outs) : Option Outs :=
 R1 (a1, 0)
def laws_heldEntS_u (k : Nat) (a0 : List (List T)) (a1 : Int) : Option Outs :=
  laws_heldEntS_U k a0 a1 (fun v => fixN (laws_heldEntS_l1 k a0) k v)
def laws_heldEntS_it1 (k : Nat) (a0 : List (List T)) (a1 : Int) (js : List Nat) (j : Nat) (s : St) : Option Outs := iter E (LB E (evalF E P0 k) k [] N.laws_heldEntS [.sr, .sl, .sr, .bl]) [] laws_heldEntS_k1 (LK E (evalF E P0 k) k [] N.laws_heldEntS [.v [.r a0], .v [.i a1]] [.sr, .sl, .sr, .bl] js) j s
theorem laws_heldEntS_e (k : Nat) (a0 : List (List T)) (a1 : Int) : evalF E P0 (k + 1) N.laws_heldEntS [.v [.r a0], .v [.i a1]] = laws_heldEntS_u k a0 a1 := by
  have e0 : evalF E P0 (k + 1) N.laws_heldEntS [.v [.r a0], .v [.i a1]] = laws_heldEntS_U k a0 a1 (fun v => laws_heldEntS_it1 k a0 a1 [] k (laws_heldEntS_S1 a0 v)) := by kernel_rfl
  have e1 : ∀ (j1 : Nat) (v : Int × Int), laws_heldEntS_it1 k a0 a1 [] (j1 + 1) (laws_heldEntS_S1 a0 v) = laws_heldEntS_L1 k a0 (fun v => laws_heldEntS_it1 k a0 a1 [] j1 (laws_heldEntS_S1 a0 v)) v := by
    intro j1 v; kernel_rfl
  have i1 : ∀ (j1 : Nat) (v : Int × Int), laws_heldEntS_it1 k a0 a1 [] j1 (laws_heldEntS_S1 a0 v) = fixN (laws_heldEntS_l1 k a0) j1 v := by
    intro j1 v
    refine iter_fix (laws_heldEntS_S1 a0) (laws_heldEntS_l1 k a0) (fun j1 v => (e1 j1 v).trans ?_) j1 v
    unfold laws_heldEntS_l1
    rfl
  rw [e0]; unfold laws_heldEntS_u
  simp only [i1]
def laws_heldArr_u (k : Nat) (a0_0 : Int) (a0_1 : Int) (a0_2 : Int) (a0_3 : List (List T)) (a0_4 : Int) (a0_5 : Int) (a0_6 : Int) (a0_7 : Int) (a0_8 : Int) (a0_9 : List (List T)) (a0_10 : Int) (a0_11 : Bool) (a0_12 : Bool) (a1 : Int) : Option Outs :=
 bindO (evalF E P0 k N.laws_heldMemS [.v [.r a0_3], .v [.i a1]]) fun o2 =>
 bif (decide ((o2.t 0).asI < 0)) then
  some ⟨[.i (-1)], []⟩
 else
  bindO (evalF E P0 k N.laws_heldEntS [.v [.r a0_9], .v [.i (o2.t 0).asI]]) fun o4 =>
  bif (decide ((o4.t 0).asI < 0)) then some ⟨[.i (-1)], []⟩ else some ⟨[.i (o4.t 0).asI], []⟩
theorem laws_heldArr_e (k : Nat) (a0_0 : Int) (a0_1 : Int) (a0_2 : Int) (a0_3 : List (List T)) (a0_4 : Int) (a0_5 : Int) (a0_6 : Int) (a0_7 : Int) (a0_8 : Int) (a0_9 : List (List T)) (a0_10 : Int) (a0_11 : Bool) (a0_12 : Bool) (a1 : Int) : evalF E P0 (k + 1) N.laws_heldArr [.v [.i a0_0, .i a0_1, .i a0_2, .r a0_3, .i a0_4, .i a0_5, .i a0_6, .i a0_7, .i a0_8, .r a0_9, .i a0_10, .b a0_11, .b a0_12], .v [.i a1]] = laws_heldArr_u k a0_0 a0_1 a0_2 a0_3 a0_4 a0_5 a0_6 a0_7 a0_8 a0_9 a0_10 a0_11 a0_12 a1 := by kernel_rfl
def laws_heldCmdS_L1 (k : Nat) (a0 : List (List T)) (G1 : (Int × Int) → Option Outs) : (Int × Int) → Option Outs := fun (v15, v16) =>
 bif (decide (v16 < (a0.length : Int))) then
  chk (decide (0 ≤ v16) && decide (v16 < (a0.length : Int))) <|
  bif ((at_ a0 v16.toNat 0).asI != v15) then
   some ⟨[.i (-1)], []⟩
  else
   chk (decide (0 ≤ v16) && decide (v16 < (a0.length : Int))) <|
   bif ((at_ a0 v16.toNat 1).asI != (IntKind.wrap .i64 (v15 + 1))) then
    some ⟨[.i (-1)], []⟩
   else
    chk (decide (0 ≤ v16) && decide (v16 < (a0.length : Int))) <|
    bif ((at_ a0 v16.toNat 2).asI != (IntKind.wrap .i64 ((IntKind.wrap .i64 (v15 + 1)) + 1))) then
     some ⟨[.i (-1)], []⟩
    else
     chk (decide (0 ≤ v16) && decide (v16 < (a0.length : Int))) <|
     bif ((at_ a0 v16.toNat 3).asI != (IntKind.wrap .i64 ((IntKind.wrap .i64 ((IntKind.wrap .i64 (v15 + 1)) + 1)) + 1))) then
      some ⟨[.i (-1)], []⟩
     else
      chk (decide (0 ≤ v16) && decide (v16 < (a0.length : Int))) <|
      bindO (evalF E P0 k N.laws_heldIntS [.v [.r (at_ a0 v16.toNat 4).asR], .v [.i (IntKind.wrap .i64 ((IntKind.wrap .i64 ((IntKind.wrap .i64 ((IntKind.wrap .i64 (v15 + 1)) + 1)) + 1)) + 1))]]) fun o96 =>
      bif (decide ((o96.t 0).asI < 0)) then some ⟨[.i (-1)], []⟩ else G1 ((o96.t 0).asI, (IntKind.wrap .i64 (v16 + 1)))
 else
  some ⟨[.i v15], []⟩
def laws_heldCmdS_k1 : List Nat := [0, 1, 4, 5, 57]
def laws_heldCmdS_S1 (a0 : List (List T)) : (Int × Int) → St := fun (v15, v16) => ⟨ofSl [(0, .sl 53 a0), (1, .i .i64 v15), (4, .i .i64 0), (5, .i .i64 v16), (57, .skip)], ofMem []⟩
def laws_heldCmdS_l1 (k : Nat) (a0 : List (List T)) (G1 : (Int × Int) → Option Outs) : (Int × Int) → Option Outs :=
  laws_heldCmdS_L1 k a0 G1
def laws_heldCmdS_U (k : Nat) (a0 : List (List T)) (a1 : Int) (R1 : (Int × Int) → Option Outs) : Option Outs :=
 R1 (a1, 0)
def laws_heldCmdS_u (k : Nat) (a0 : List (List T)) (a1 : Int) : Option Outs :=
  laws_heldCmdS_U k a0 a1 (fun v => fixN (laws_heldCmdS_l1 k a0) k v)
def laws_heldCmdS_it1 (k : Nat) (a0 : List (List T)) (a1 : Int) (js : List Nat) (j : Nat) (s : St) : Option Outs := iter E (LB E (evalF E P0 k) k [] N.laws_heldCmdS [.sr, .sl, .sr, .bl]) [] laws_heldCmdS_k1 (LK E (evalF E P0 k) k [] N.laws_heldCmdS [.v [.r a0], .v [.i a1]] [.sr, .sl, .sr, .bl] js) j s
theorem laws_heldCmdS_e (k : Nat) (a0 : List (List T)) (a1 : Int) : evalF E P0 (k + 1) N.laws_heldCmdS [.v [.r a0], .v [.i a1]] = laws_heldCmdS_u k a0 a1 := by
  have e0 : evalF E P0 (k + 1) N.laws_heldCmdS [.v [.r a0], .v [.i a1]] = laws_heldCmdS_U k a0 a1 (fun v => laws_heldCmdS_it1 k a0 a1 [] k (laws_heldCmdS_S1 a0 v)) := by kernel_rfl
  have e1 : ∀ (j1 : Nat) (v : Int × Int), laws_heldCmdS_it1 k a0 a1 [] (j1 + 1) (laws_heldCmdS_S1 a0 v) = laws_heldCmdS_L1 k a0 (fun v => laws_heldCmdS_it1 k a0 a1 [] j1 (laws_heldCmdS_S1 a0 v)) v := by
    intro j1 v; kernel_rfl
  have i1 : ∀ (j1 : Nat) (v : Int × Int), laws_heldCmdS_it1 k a0 a1 [] j1 (laws_heldCmdS_S1 a0 v) = fixN (laws_heldCmdS_l1 k a0) j1 v := by
    intro j1 v
    refine iter_fix (laws_heldCmdS_S1 a0) (laws_heldCmdS_l1 k a0) (fun j1 v => (e1 j1 v).trans ?_) j1 v
    unfold laws_heldCmdS_l1
    rfl
  rw [e0]; unfold laws_heldCmdS_u
  simp only [i1]
def laws_heldJobS_L1 (k : Nat) (a0 : List (List T)) (G1 : (Int × Int) → Option Outs) : (Int × Int) → Option Outs := fun (v15, v16) =>
 bif (decide (v16 < (a0.length : Int))) then
  chk (decide (0 ≤ v16) && decide (v16 < (a0.length : Int))) <|
  bif ((at_ a0 v16.toNat 0).asI != v15) then
   some ⟨[.i (-1)], []⟩
  else
   chk (decide (0 ≤ v16) && decide (v16 < (a0.length : Int))) <|
   bif ((at_ a0 v16.toNat 1).asI != (IntKind.wrap .i64 (v15 + 1))) then
    some ⟨[.i (-1)], []⟩
   else
    chk (decide (0 ≤ v16) && decide (v16 < (a0.length : Int))) <|
    bif ((at_ a0 v16.toNat 2).asI != (IntKind.wrap .i64 ((IntKind.wrap .i64 (v15 + 1)) + 1))) then
     some ⟨[.i (-1)], []⟩
    else
     chk (decide (0 ≤ v16) && decide (v16 < (a0.length : Int))) <|
     bif ((at_ a0 v16.toNat 3).asI != (IntKind.wrap .i64 ((IntKind.wrap .i64 ((IntKind.wrap .i64 (v15 + 1)) + 1)) + 1))) then
      some ⟨[.i (-1)], []⟩
     else
      chk (decide (0 ≤ v16) && decide (v16 < (a0.length : Int))) <|
      bindO (evalF E P0 k N.laws_heldIntS [.v [.r (at_ a0 v16.toNat 4).asR], .v [.i (IntKind.wrap .i64 ((IntKind.wrap .i64 ((IntKind.wrap .i64 ((IntKind.wrap .i64 (v15 + 1)) + 1)) + 1)) + 1))]]) fun o190 =>
      bif (decide ((o190.t 0).asI < 0)) then
       some ⟨[.i (-1)], []⟩
      else
       chk (decide (0 ≤ v16) && decide (v16 < (a0.length : Int))) <|
       bif ((at_ a0 v16.toNat 5).asI != (o190.t 0).asI) then
        some ⟨[.i (-1)], []⟩
       else
        chk (decide (0 ≤ v16) && decide (v16 < (a0.length : Int))) <|
        bindO (evalF E P0 k N.laws_heldIntS [.v [.r (at_ a0 v16.toNat 6).asR], .v [.i (IntKind.wrap .i64 ((o190.t 0).asI + 1))]]) fun o192 =>
        bif (decide ((o192.t 0).asI < 0)) then
         some ⟨[.i (-1)], []⟩
        else
         chk (decide (0 ≤ v16) && decide (v16 < (a0.length : Int))) <|
         bif ((at_ a0 v16.toNat 7).asI != (o192.t 0).asI) then
          some ⟨[.i (-1)], []⟩
         else
          G1 ((IntKind.wrap .i64 ((o192.t 0).asI + 1)), (IntKind.wrap .i64 (v16 + 1)))
 else
  some ⟨[.i v15], []⟩
def laws_heldJobS_k1 : List Nat := [0, 1, 4, 5, 89]
def laws_heldJobS_S1 (a0 : List (List T)) : (Int × Int) → St := fun (v15, v16) => ⟨ofSl [(0, .sl 103 a0), (1, .i .i64 v15), (4, .i .i64 0), (5, .i .i64 v16), (89, .skip)], ofMem []⟩
def laws_heldJobS_l1 (k : Nat) (a0 : List (List T)) (G1 : (Int × Int) → Option Outs) : (Int × Int) → Option Outs :=
  laws_heldJobS_L1 k a0 G1
def laws_heldJobS_U (k : Nat) (a0 : List (List T)) (a1 : Int) (R1 : (Int × Int) → Option Outs) : Option Outs :=
 R1 (a1, 0)
def laws_heldJobS_u (k : Nat) (a0 : List (List T)) (a1 : Int) : Option Outs :=
  laws_heldJobS_U k a0 a1 (fun v => fixN (laws_heldJobS_l1 k a0) k v)
def laws_heldJobS_it1 (k : Nat) (a0 : List (List T)) (a1 : Int) (js : List Nat) (j : Nat) (s : St) : Option Outs := iter E (LB E (evalF E P0 k) k [] N.laws_heldJobS [.sr, .sl, .sr, .bl]) [] laws_heldJobS_k1 (LK E (evalF E P0 k) k [] N.laws_heldJobS [.v [.r a0], .v [.i a1]] [.sr, .sl, .sr, .bl] js) j s
theorem laws_heldJobS_e (k : Nat) (a0 : List (List T)) (a1 : Int) : evalF E P0 (k + 1) N.laws_heldJobS [.v [.r a0], .v [.i a1]] = laws_heldJobS_u k a0 a1 := by
  have e0 : evalF E P0 (k + 1) N.laws_heldJobS [.v [.r a0], .v [.i a1]] = laws_heldJobS_U k a0 a1 (fun v => laws_heldJobS_it1 k a0 a1 [] k (laws_heldJobS_S1 a0 v)) := by kernel_rfl
  have e1 : ∀ (j1 : Nat) (v : Int × Int), laws_heldJobS_it1 k a0 a1 [] (j1 + 1) (laws_heldJobS_S1 a0 v) = laws_heldJobS_L1 k a0 (fun v => laws_heldJobS_it1 k a0 a1 [] j1 (laws_heldJobS_S1 a0 v)) v := by
    intro j1 v; kernel_rfl
  have i1 : ∀ (j1 : Nat) (v : Int × Int), laws_heldJobS_it1 k a0 a1 [] j1 (laws_heldJobS_S1 a0 v) = fixN (laws_heldJobS_l1 k a0) j1 v := by
    intro j1 v
    refine iter_fix (laws_heldJobS_S1 a0) (laws_heldJobS_l1 k a0) (fun j1 v => (e1 j1 v).trans ?_) j1 v
    unfold laws_heldJobS_l1
    rfl
  rw [e0]; unfold laws_heldJobS_u
  simp only [i1]
def laws_heldAnsS_L1 (k : Nat) (a0 : List (List T)) (G1 : (Int × Int) → Option Outs) : (Int × Int) → Option Outs := fun (v15, v16) =>
 bif (decide (v16 < (a0.length : Int))) then
  chk (decide (0 ≤ v16) && decide (v16 < (a0.length : Int))) <|
  bif ((at_ a0 v16.toNat 0).asI != v15) then
   some ⟨[.i (-1)], []⟩
  else
   chk (decide (0 ≤ v16) && decide (v16 < (a0.length : Int))) <|
   bif ((at_ a0 v16.toNat 1).asI != (IntKind.wrap .i64 (v15 + 1))) then
    some ⟨[.i (-1)], []⟩
   else
    chk (decide (0 ≤ v16) && decide (v16 < (a0.length : Int))) <|
    bindO (evalF E P0 k N.laws_heldIntS [.v [.r (at_ a0 v16.toNat 2).asR], .v [.i (IntKind.wrap .i64 ((IntKind.wrap .i64 (v15 + 1)) + 1))]]) fun o96 =>
    bif (decide ((o96.t 0).asI < 0)) then some ⟨[.i (-1)], []⟩ else G1 ((o96.t 0).asI, (IntKind.wrap .i64 (v16 + 1)))
 else
  some ⟨[.i v15], []⟩
def laws_heldAnsS_k1 : List Nat := [0, 1, 4, 5, 39]
def laws_heldAnsS_S1 (a0 : List (List T)) : (Int × Int) → St := fun (v15, v16) => ⟨ofSl [(0, .sl 61 a0), (1, .i .i64 v15), (4, .i .i64 0), (5, .i .i64 v16), (39, .skip)], ofMem []⟩
def laws_heldAnsS_l1 (k : Nat) (a0 : List (List T)) (G1 : (Int × Int) → Option Outs) : (Int × Int) → Option Outs :=
  laws_heldAnsS_L1 k a0 G1
def laws_heldAnsS_U (k : Nat) (a0 : List (List T)) (a1 : Int) (R1 : (Int × Int) → Option Outs) : Option Outs :=
 R1 (a1, 0)
def laws_heldAnsS_u (k : Nat) (a0 : List (List T)) (a1 : Int) : Option Outs :=
  laws_heldAnsS_U k a0 a1 (fun v => fixN (laws_heldAnsS_l1 k a0) k v)
def laws_heldAnsS_it1 (k : Nat) (a0 : List (List T)) (a1 : Int) (js : List Nat) (j : Nat) (s : St) : Option Outs := iter E (LB E (evalF E P0 k) k [] N.laws_heldAnsS [.sr, .sl, .sr, .bl]) [] laws_heldAnsS_k1 (LK E (evalF E P0 k) k [] N.laws_heldAnsS [.v [.r a0], .v [.i a1]] [.sr, .sl, .sr, .bl] js) j s
theorem laws_heldAnsS_e (k : Nat) (a0 : List (List T)) (a1 : Int) : evalF E P0 (k + 1) N.laws_heldAnsS [.v [.r a0], .v [.i a1]] = laws_heldAnsS_u k a0 a1 := by
  have e0 : evalF E P0 (k + 1) N.laws_heldAnsS [.v [.r a0], .v [.i a1]] = laws_heldAnsS_U k a0 a1 (fun v => laws_heldAnsS_it1 k a0 a1 [] k (laws_heldAnsS_S1 a0 v)) := by kernel_rfl
  have e1 : ∀ (j1 : Nat) (v : Int × Int), laws_heldAnsS_it1 k a0 a1 [] (j1 + 1) (laws_heldAnsS_S1 a0 v) = laws_heldAnsS_L1 k a0 (fun v => laws_heldAnsS_it1 k a0 a1 [] j1 (laws_heldAnsS_S1 a0 v)) v := by
    intro j1 v; kernel_rfl
  have i1 : ∀ (j1 : Nat) (v : Int × Int), laws_heldAnsS_it1 k a0 a1 [] j1 (laws_heldAnsS_S1 a0 v) = fixN (laws_heldAnsS_l1 k a0) j1 v := by
    intro j1 v
    refine iter_fix (laws_heldAnsS_S1 a0) (laws_heldAnsS_l1 k a0) (fun j1 v => (e1 j1 v).trans ?_) j1 v
    unfold laws_heldAnsS_l1
    rfl
  rw [e0]; unfold laws_heldAnsS_u
  simp only [i1]
def laws_heldTurnS_L1 (k : Nat) (a0 : List (List T)) (G1 : (Int × Int) → Option Outs) : (Int × Int) → Option Outs := fun (v15, v16) =>
 bif (decide (v16 < (a0.length : Int))) then
  chk (decide (0 ≤ v16) && decide (v16 < (a0.length : Int))) <|
  bif ((at_ a0 v16.toNat 0).asI != v15) then
   some ⟨[.i (-1)], []⟩
  else
   chk (decide (0 ≤ v16) && decide (v16 < (a0.length : Int))) <|
   bif ((at_ a0 v16.toNat 1).asI != (IntKind.wrap .i64 (v15 + 1))) then
    some ⟨[.i (-1)], []⟩
   else
    chk (decide (0 ≤ v16) && decide (v16 < (a0.length : Int))) <|
    bif ((at_ a0 v16.toNat 2).asI != (IntKind.wrap .i64 ((IntKind.wrap .i64 (v15 + 1)) + 1))) then
     some ⟨[.i (-1)], []⟩
    else
     chk (decide (0 ≤ v16) && decide (v16 < (a0.length : Int))) <|
     bif ((at_ a0 v16.toNat 3).asI != (IntKind.wrap .i64 ((IntKind.wrap .i64 ((IntKind.wrap .i64 (v15 + 1)) + 1)) + 1))) then
      some ⟨[.i (-1)], []⟩
     else
      chk (decide (0 ≤ v16) && decide (v16 < (a0.length : Int))) <|
      bindO (evalF E P0 k N.laws_heldIntS [.v [.r (at_ a0 v16.toNat 4).asR], .v [.i (IntKind.wrap .i64 ((IntKind.wrap .i64 ((IntKind.wrap .i64 ((IntKind.wrap .i64 (v15 + 1)) + 1)) + 1)) + 1))]]) fun o190 =>
      bif (decide ((o190.t 0).asI < 0)) then
       some ⟨[.i (-1)], []⟩
      else
       chk (decide (0 ≤ v16) && decide (v16 < (a0.length : Int))) <|
       bif ((at_ a0 v16.toNat 5).asI != (o190.t 0).asI) then
        some ⟨[.i (-1)], []⟩
       else
        chk (decide (0 ≤ v16) && decide (v16 < (a0.length : Int))) <|
        bif ((at_ a0 v16.toNat 6).asI != (IntKind.wrap .i64 ((o190.t 0).asI + 1))) then
         some ⟨[.i (-1)], []⟩
        else
         chk (decide (0 ≤ v16) && decide (v16 < (a0.length : Int))) <|
         bindO (evalF E P0 k N.laws_heldIntS [.v [.r (at_ a0 v16.toNat 7).asR], .v [.i (IntKind.wrap .i64 ((IntKind.wrap .i64 ((o190.t 0).asI + 1)) + 1))]]) fun o192 =>
         bif (decide ((o192.t 0).asI < 0)) then some ⟨[.i (-1)], []⟩ else G1 ((o192.t 0).asI, (IntKind.wrap .i64 (v16 + 1)))
 else
  some ⟨[.i v15], []⟩
def laws_heldTurnS_k1 : List Nat := [0, 1, 4, 5, 92]
def laws_heldTurnS_S1 (a0 : List (List T)) : (Int × Int) → St := fun (v15, v16) => ⟨ofSl [(0, .sl 120 a0), (1, .i .i64 v15), (4, .i .i64 0), (5, .i .i64 v16), (92, .skip)], ofMem []⟩
def laws_heldTurnS_l1 (k : Nat) (a0 : List (List T)) (G1 : (Int × Int) → Option Outs) : (Int × Int) → Option Outs :=
  laws_heldTurnS_L1 k a0 G1
def laws_heldTurnS_U (k : Nat) (a0 : List (List T)) (a1 : Int) (R1 : (Int × Int) → Option Outs) : Option Outs :=
 R1 (a1, 0)
def laws_heldTurnS_u (k : Nat) (a0 : List (List T)) (a1 : Int) : Option Outs :=
  laws_heldTurnS_U k a0 a1 (fun v => fixN (laws_heldTurnS_l1 k a0) k v)
def laws_heldTurnS_it1 (k : Nat) (a0 : List (List T)) (a1 : Int) (js : List Nat) (j : Nat) (s : St) : Option Outs := iter E (LB E (evalF E P0 k) k [] N.laws_heldTurnS [.sr, .sl, .sr, .bl]) [] laws_heldTurnS_k1 (LK E (evalF E P0 k) k [] N.laws_heldTurnS [.v [.r a0], .v [.i a1]] [.sr, .sl, .sr, .bl] js) j s
theorem laws_heldTurnS_e (k : Nat) (a0 : List (List T)) (a1 : Int) : evalF E P0 (k + 1) N.laws_heldTurnS [.v [.r a0], .v [.i a1]] = laws_heldTurnS_u k a0 a1 := by
  have e0 : evalF E P0 (k + 1) N.laws_heldTurnS [.v [.r a0], .v [.i a1]] = laws_heldTurnS_U k a0 a1 (fun v => laws_heldTurnS_it1 k a0 a1 [] k (laws_heldTurnS_S1 a0 v)) := by kernel_rfl
  have e1 : ∀ (j1 : Nat) (v : Int × Int), laws_heldTurnS_it1 k a0 a1 [] (j1 + 1) (laws_heldTurnS_S1 a0 v) = laws_heldTurnS_L1 k a0 (fun v => laws_heldTurnS_it1 k a0 a1 [] j1 (laws_heldTurnS_S1 a0 v)) v := by
    intro j1 v; kernel_rfl
  have i1 : ∀ (j1 : Nat) (v : Int × Int), laws_heldTurnS_it1 k a0 a1 [] j1 (laws_heldTurnS_S1 a0 v) = fixN (laws_heldTurnS_l1 k a0) j1 v := by
    intro j1 v
    refine iter_fix (laws_heldTurnS_S1 a0) (laws_heldTurnS_l1 k a0) (fun j1 v => (e1 j1 v).trans ?_) j1 v
    unfold laws_heldTurnS_l1
    rfl
  rw [e0]; unfold laws_heldTurnS_u
  simp only [i1]
def laws_heldEng_u (k : Nat) (a0_0 : Int) (a0_1 : Int) (a0_2 : Int) (a0_3 : List (List T)) (a0_4 : Int) (a0_5 : Int) (a0_6 : Int) (a0_7 : Int) (a0_8 : Int) (a0_9 : List (List T)) (a0_10 : Int) (a0_11 : Bool) (a0_12 : Bool) (a0_13 : List (List T)) (a0_14 : List (List T)) (a0_15 : List (List T)) (a0_16 : List (List T)) (a1 : Int) : Option Outs :=
 bindO (evalF E P0 k N.laws_heldArr [.v [.i a0_0, .i a0_1, .i a0_2, .r a0_3, .i a0_4, .i a0_5, .i a0_6, .i a0_7, .i a0_8, .r a0_9, .i a0_10, .b a0_11, .b a0_12], .v [.i a1]]) fun o2 =>
 bif (decide ((o2.t 0).asI < 0)) then
  some ⟨[.i (-1)], []⟩
 else
  bindO (evalF E P0 k N.laws_heldCmdS [.v [.r a0_13], .v [.i (o2.t 0).asI]]) fun o4 =>
  bif (decide ((o4.t 0).asI < 0)) then
   some ⟨[.i (-1)], []⟩
  else
   bindO (evalF E P0 k N.laws_heldJobS [.v [.r a0_14], .v [.i (o4.t 0).asI]]) fun o6 =>
   bif (decide ((o6.t 0).asI < 0)) then
    some ⟨[.i (-1)], []⟩
   else
    bindO (evalF E P0 k N.laws_heldAnsS [.v [.r a0_15], .v [.i (o6.t 0).asI]]) fun o8 =>
    bif (decide ((o8.t 0).asI < 0)) then
     some ⟨[.i (-1)], []⟩
    else
     bindO (evalF E P0 k N.laws_heldTurnS [.v [.r a0_16], .v [.i (o8.t 0).asI]]) fun o10 =>
     bif (decide ((o10.t 0).asI < 0)) then some ⟨[.i (-1)], []⟩ else some ⟨[.i (o10.t 0).asI], []⟩
theorem laws_heldEng_e (k : Nat) (a0_0 : Int) (a0_1 : Int) (a0_2 : Int) (a0_3 : List (List T)) (a0_4 : Int) (a0_5 : Int) (a0_6 : Int) (a0_7 : Int) (a0_8 : Int) (a0_9 : List (List T)) (a0_10 : Int) (a0_11 : Bool) (a0_12 : Bool) (a0_13 : List (List T)) (a0_14 : List (List T)) (a0_15 : List (List T)) (a0_16 : List (List T)) (a1 : Int) : evalF E P0 (k + 1) N.laws_heldEng [.v [.i a0_0, .i a0_1, .i a0_2, .r a0_3, .i a0_4, .i a0_5, .i a0_6, .i a0_7, .i a0_8, .r a0_9, .i a0_10, .b a0_11, .b a0_12, .r a0_13, .r a0_14, .r a0_15, .r a0_16], .v [.i a1]] = laws_heldEng_u k a0_0 a0_1 a0_2 a0_3 a0_4 a0_5 a0_6 a0_7 a0_8 a0_9 a0_10 a0_11 a0_12 a0_13 a0_14 a0_15 a0_16 a1 := by kernel_rfl
def spec_l15Can_L2 (k : Nat) (a0_0 : Int) (a0_1 : Int) (a0_2 : Int) (a0_3 : List (List T)) (a0_4 : Int) (a0_5 : Int) (a0_6 : Int) (a0_7 : Int) (a0_8 : Int) (a0_9 : List (List T)) (a0_10 : Int) (a0_11 : Bool) (a0_12 : Bool) (a0_13 : List (List T)) (a0_14 : List (List T)) (a0_15 : List (List T)) (a0_16 : List (List T)) (a1 : Int) (G2 : (Int) → Option Outs) : (Int) → Option Outs := fun v16 =>
 bif (decide (v16 < a1)) then
  chk (decide (0 ≤ v16) && decide (v16 < (a0_13.length : Int))) <|
  chk (decide (0 ≤ a1) && decide (a1 < (a0_13.length : Int))) <|
  bindO (evalF E P0 k N.spec_Clash [.v [.i a0_1, .i a0_2], .v [.i (at_ a0_13 v16.toNat 0).asI, .i (at_ a0_13 v16.toNat 1).asI, .i (at_ a0_13 v16.toNat 2).asI, .i (at_ a0_13 v16.toNat 3).asI, .r (at_ a0_13 v16.toNat 4).asR], .v [.i (at_ a0_13 a1.toNat 0).asI, .i (at_ a0_13 a1.toNat 1).asI, .i (at_ a0_13 a1.toNat 2).asI, .i (at_ a0_13 a1.toNat 3).asI, .r (at_ a0_13 a1.toNat 4).asR]]) fun o192 =>
  bif (o192.t 0).asB then some ⟨[.b false], []⟩ else G2 (IntKind.wrap .i64 (v16 + 1))
 else
  bif (decide ((a0_14.length : Int) < 4)) then
   bif (decide ((IntKind.wrap .i64 ((a0_15.length : Int) + (a0_14.length : Int))) < 8)) then
    some ⟨[.b (decide ((IntKind.wrap .i64 ((a0_16.length : Int) + (a0_14.length : Int))) < 400))], []⟩
   else
    some ⟨[.b false], []⟩
  else
   some ⟨[.b false], []⟩
def spec_l15Can_k2 : List Nat := [1, 2, 4, 6, 48, 49, 50, 51, 52, 53, 54, 55, 56, 57, 58, 59, 60, 61, 62, 63, 64, 65, 66, 67, 68, 69, 70, 71]
def spec_l15Can_S2 (a0_0 : Int) (a0_1 : Int) (a0_2 : Int) (a0_3 : List (List T)) (a0_4 : Int) (a0_5 : Int) (a0_6 : Int) (a0_7 : Int) (a0_8 : Int) (a0_9 : List (List T)) (a0_10 : Int) (a0_11 : Bool) (a0_12 : Bool) (a0_13 : List (List T)) (a0_14 : List (List T)) (a0_15 : List (List T)) (a0_16 : List (List T)) (a1 : Int) : (Int) → St := fun v16 => ⟨ofSl [(1, .i .i64 a1), (2, .ptr (2, 0) 0), (4, .b false), (6, .i .i64 v16), (48, .skip), (49, .skip), (50, .skip), (51, .skip), (52, .skip), (53, .skip), (54, .skip), (55, .skip), (56, .skip), (57, .skip), (58, .skip), (59, .skip), (60, .skip), (61, .skip), (62, .skip), (63, .skip), (64, .skip), (65, .skip), (66, .skip), (67, .skip), (68, .skip), (69, .skip), (70, .skip), (71, .skip)], ofMem [((2, 0), .var [.i .i64 a0_0, .i .i64 a0_1, .i .i64 a0_2, .sl 160 a0_3, .i .i64 a0_4, .i .i64 a0_5, .i .i64 a0_6, .i .i64 a0_7, .i .i64 a0_8, .sl 162 a0_9, .i .i64 a0_10, .b a0_11, .b a0_12, .sl 53 a0_13, .sl 103 a0_14, .sl 61 a0_15, .sl 120 a0_16])]⟩
def spec_l15Can_L1 (k : Nat) (a0_0 : Int) (a0_1 : Int) (a0_2 : Int) (a0_3 : List (List T)) (a0_4 : Int) (a0_5 : Int) (a0_6 : Int) (a0_7 : Int) (a0_8 : Int) (a0_9 : List (List T)) (a0_10 : Int) (a0_11 : Bool) (a0_12 : Bool) (a0_13 : List (List T)) (a0_14 : List (List T)) (a0_15 : List (List T)) (a0_16 : List (List T)) (a1 : Int) (R2 : (Int) → Option Outs) (G1 : (Int) → Option Outs) : (Int) → Option Outs := fun v8 =>
 bif (decide (v8 < (a0_14.length : Int))) then
  chk (decide (0 ≤ v8) && decide (v8 < (a0_14.length : Int))) <|
  chk (decide (0 ≤ a1) && decide (a1 < (a0_13.length : Int))) <|
  bindO (evalF E P0 k N.spec_Clash [.v [.i a0_1, .i a0_2], .v [.i (at_ a0_14 v8.toNat 0).asI, .i (at_ a0_14 v8.toNat 1).asI, .i (at_ a0_14 v8.toNat 2).asI, .i (at_ a0_14 v8.toNat 3).asI, .r (at_ a0_14 v8.toNat 4).asR], .v [.i (at_ a0_13 a1.toNat 0).asI, .i (at_ a0_13 a1.toNat 1).asI, .i (at_ a0_13 a1.toNat 2).asI, .i (at_ a0_13 a1.toNat 3).asI, .r (at_ a0_13 a1.toNat 4).asR]]) fun o96 =>
  bif (o96.t 0).asB then some ⟨[.b false], []⟩ else G1 (IntKind.wrap .i64 (v8 + 1))
 else
  R2 0
def spec_l15Can_k1 : List Nat := [1, 2, 4, 5, 6, 29, 30, 31, 32, 33, 34, 35, 36, 37, 38, 39, 40, 41, 42, 43, 44, 45, 46, 47, 48, 49, 50, 51, 52, 53, 54, 55, 56, 57, 58, 59, 60, 61, 62, 63, 64, 65, 66, 67, 68, 69, 70, 71]
def spec_l15Can_S1 (a0_0 : Int) (a0_1 : Int) (a0_2 : Int) (a0_3 : List (List T)) (a0_4 : Int) (a0_5 : Int) (a0_6 : Int) (a0_7 : Int) (a0_8 : Int) (a0_9 : List (List T)) (a0_10 : Int) (a0_11 : Bool) (a0_12 : Bool) (a0_13 : List (List T)) (a0_14 : List (List T)) (a0_15 : List (List T)) (a0_16 : List (List T)) (a1 : Int) : (Int) → St := fun v8 => ⟨ofSl [(1, .i .i64 a1), (2, .ptr (2, 0) 0), (4, .b false), (5, .i .i64 v8), (6, .skip), (29, .skip), (30, .skip), (31, .skip), (32, .skip), (33, .skip), (34, .skip), (35, .skip), (36, .skip), (37, .skip), (38, .skip), (39, .skip), (40, .skip), (41, .skip), (42, .skip), (43, .skip), (44, .skip), (45, .skip), (46, .skip), (47, .skip), (48, .skip), (49, .skip), (50, .skip), (51, .skip), (52, .skip), (53, .skip), (54, .skip), (55, .skip), (56, .skip), (57, .skip), (58, .skip), (59, .skip), (60, .skip), (61, .skip), (62, .skip), (63, .skip), (64, .skip), (65, .skip), (66, .skip), (67, .skip), (68, .skip), (69, .skip), (70, .skip), (71, .skip)], ofMem [((2, 0), .var [.i .i64 a0_0, .i .i64 a0_1, .i .i64 a0_2, .sl 160 a0_3, .i .i64 a0_4, .i .i64 a0_5, .i .i64 a0_6, .i .i64 a0_7, .i .i64 a0_8, .sl 162 a0_9, .i .i64 a0_10, .b a0_11, .b a0_12, .sl 53 a0_13, .sl 103 a0_14, .sl 61 a0_15, .sl 120 a0_16])]⟩
def spec_l15Can_l2 (k : Nat) (a0_0 : Int) (a0_1 : Int) (a0_2 : Int) (a0_3 : List (List T)) (a0_4 : Int) (a0_5 : Int) (a0_6 : Int) (a0_7 : Int) (a0_8 : Int) (a0_9 : List (List T)) (a0_10 : Int) (a0_11 : Bool) (a0_12 : Bool) (a0_13 : List (List T)) (a0_14 : List (List T)) (a0_15 : List (List T)) (a0_16 : List (List T)) (a1 : Int) (G2 : (Int) → Option Outs) : (Int) → Option Outs :=
  spec_l15Can_L2 k a0_0 a0_1 a0_2 a0_3 a0_4 a0_5 a0_6 a0_7 a0_8 a0_9 a0_10 a0_11 a0_12 a0_13 a0_14 a0_15 a0_16 a1 G2
def spec_l15Can_l1 (k : Nat) (a0_0 : Int) (a0_1 : Int) (a0_2 : Int) (a0_3 : List (List T)) (a0_4 : Int) (a0_5 : Int) (a0_6 : Int) (a0_7 : Int) (a0_8 : Int) (a0_9 : List (List T)) (a0_10 : Int) (a0_11 : Bool) (a0_12 : Bool) (a0_13 : List (List T)) (a0_14 : List (List T)) (a0_15 : List (List T)) (a0_16 : List (List T)) (a1 : Int) (G1 : (Int) → Option Outs) : (Int) → Option Outs :=
  spec_l15Can_L1 k a0_0 a0_1 a0_2 a0_3 a0_4 a0_5 a0_6 a0_7 a0_8 a0_9 a0_10 a0_11 a0_12 a0_13 a0_14 a0_15 a0_16 a1 (fun v => fixN (spec_l15Can_l2 k a0_0 a0_1 a0_2 a0_3 a0_4 a0_5 a0_6 a0_7 a0_8 a0_9 a0_10 a0_11 a0_12 a0_13 a0_14 a0_15 a0_16 a1) k v) G1
def spec_l15Can_U (k : Nat) (a0_0 : Int) (a0_1 : Int) (a0_2 : Int) (a0_3 : List (List T)) (a0_4 : Int) (a0_5 : Int) (a0_6 : Int) (a0_7 : Int) (a0_8 : Int) (a0_9 : List (List T)) (a0_10 : Int) (a0_11 : Bool) (a0_12 : Bool) (a0_13 : List (List T)) (a0_14 : List (List T)) (a0_15 : List (List T)) (a0_16 : List (List T)) (a1 : Int) (R1 : (Int) → Option Outs) : Option Outs :=
 R1 0
def spec_l15Can_u (k : Nat) (a0_0 : Int) (a0_1 : Int) (a0_2 : Int) (a0_3 : List (List T)) (a0_4 : Int) (a0_5 : Int) (a0_6 : Int) (a0_7 : Int) (a0_8 : Int) (a0_9 : List (List T)) (a0_10 : Int) (a0_11 : Bool) (a0_12 : Bool) (a0_13 : List (List T)) (a0_14 : List (List T)) (a0_15 : List (List T)) (a0_16 : List (List T)) (a1 : Int) : Option Outs :=
  spec_l15Can_U k a0_0 a0_1 a0_2 a0_3 a0_4 a0_5 a0_6 a0_7 a0_8 a0_9 a0_10 a0_11 a0_12 a0_13 a0_14 a0_15 a0_16 a1 (fun v => fixN (spec_l15Can_l1 k a0_0 a0_1 a0_2 a0_3 a0_4 a0_5 a0_6 a0_7 a0_8 a0_9 a0_10 a0_11 a0_12 a0_13 a0_14 a0_15 a0_16 a1) k v)
def spec_l15Can_it1 (k : Nat) (a0_0 : Int) (a0_1 : Int) (a0_2 : Int) (a0_3 : List (List T)) (a0_4 : Int) (a0_5 : Int) (a0_6 : Int) (a0_7 : Int) (a0_8 : Int) (a0_9 : List (List T)) (a0_10 : Int) (a0_11 : Bool) (a0_12 : Bool) (a0_13 : List (List T)) (a0_14 : List (List T)) (a0_15 : List (List T)) (a0_16 : List (List T)) (a1 : Int) (js : List Nat) (j : Nat) (s : St) : Option Outs := iter E (LB E (evalF E P0 k) k [] N.spec_l15Can [.sr, .sl, .sr, .bl]) [] spec_l15Can_k1 (LK E (evalF E P0 k) k [] N.spec_l15Can [.v [.i a0_0, .i a0_1, .i a0_2, .r a0_3, .i a0_4, .i a0_5, .i a0_6, .i a0_7, .i a0_8, .r a0_9, .i a0_10, .b a0_11, .b a0_12, .r a0_13, .r a0_14, .r a0_15, .r a0_16], .v [.i a1]] [.sr, .sl, .sr, .bl] js) j s
def spec_l15Can_it2 (k : Nat) (a0_0 : Int) (a0_1 : Int) (a0_2 : Int) (a0_3 : List (List T)) (a0_4 : Int) (a0_5 : Int) (a0_6 : Int) (a0_7 : Int) (a0_8 : Int) (a0_9 : List (List T)) (a0_10 : Int) (a0_11 : Bool) (a0_12 : Bool) (a0_13 : List (List T)) (a0_14 : List (List T)) (a0_15 : List (List T)) (a0_16 : List (List T)) (a1 : Int) (js : List Nat) (j : Nat) (s : St) : Option Outs := iter E (LB E (evalF E P0 k) k [] N.spec_l15Can [.sr, .sr, .sl, .sr, .bl]) [] spec_l15Can_k2 (LK E (evalF E P0 k) k [] N.spec_l15Can [.v [.i a0_0, .i a0_1, .i a0_2, .r a0_3, .i a0_4, .i a0_5, .i a0_6, .i a0_7, .i a0_8, .r a0_9, .i a0_10, .b a0_11, .b a0_12, .r a0_13, .r a0_14, .r a0_15, .r a0_16], .v [.i a1]] [.sr, .sr, .sl, .sr, .bl] js) j s
theorem spec_l15Can_e (k : Nat) (a0_0 : Int) (a0_1 : Int) (a0_2 : Int) (a0_3 : List (List T)) (a0_4 : Int) (a0_5 : Int) (a0_6 : Int) (a0_7 : Int) (a0_8 : Int) (a0_9 : List (List T)) (a0_10 : Int) (a0_11 : Bool) (a0_12 : Bool) (a0_13 : List (List T)) (a0_14 : List (List T)) (a0_15 : List (List T)) (a0_16 : List (List T)) (a1 : Int) : evalF E P0 (k + 1) N.spec_l15Can [.v [.i a0_0, .i a0_1, .i a0_2, .r a0_3, .i a0_4, .i a0_5, .i a0_6, .i a0_7, .i a0_8, .r a0_9, .i a0_10, .b a0_11, .b a0_12, .r a0_13, .r a0_14, .r a0_15, .r a0_16], .v [.i a1]] = spec_l15Can_u k a0_0 a0_1 a0_2 a0_3 a0_4 a0_5 a0_6 a0_7 a0_8 a0_9 a0_10 a0_11 a0_12 a0_13 a0_14 a0_15 a0_16 a1 := by
  have e0 : evalF E P0 (k + 1) N.spec_l15Can [.v [.i a0_0, .i a0_1, .i a0_2, .r a0_3, .i a0_4, .i a0_5, .i a0_6, .i a0_7, .i a0_8, .r a0_9, .i a0_10, .b a0_11, .b a0_12, .r a0_13, .r a0_14, .r a0_15, .r a0_16], .v [.i a1]] = spec_l15Can_U k a0_0 a0_1 a0_2 a0_3 a0_4 a0_5 a0_6 a0_7 a0_8 a0_9 a0_10 a0_11 a0_12 a0_13 a0_14 a0_15 a0_16 a1 (fun v => spec_l15Can_it1 k a0_0 a0_1 a0_2 a0_3 a0_4 a0_5 a0_6 a0_7 a0_8 a0_9 a0_10 a0_11 a0_12 a0_13 a0_14 a0_15 a0_16 a1 [] k (spec_l15Can_S1 a0_0 a0_1 a0_2 a0_3 a0_4 a0_5 a0_6 a0_7 a0_8 a0_9 a0_10 a0_11 a0_12 a0_13 a0_14 a0_15 a0_16 a1 v)) := by kernel_rfl
  have e2 : ∀ (j2 : Nat) (v : Int), spec_l15Can_it2 k a0_0 a0_1 a0_2 a0_3 a0_4 a0_5 a0_6 a0_7 a0_8 a0_9 a0_10 a0_11 a0_12 a0_13 a0_14 a0_15 a0_16 a1 [] (j2 + 1) (spec_l15Can_S2 a0_0 a0_1 a0_2 a0_3 a0_4 a0_5 a0_6 a0_7 a0_8 a0_9 a0_10 a0_11 a0_12 a0_13 a0_14 a0_15 a0_16 a1 v) = spec_l15Can_L2 k a0_0 a0_1 a0_2 a0_3 a0_4 a0_5 a0_6 a0_7 a0_8 a0_9 a0_10 a0_11 a0_12 a0_13 a0_14 a0_15 a0_16 a1 (fun v => spec_l15Can_it2 k a0_0 a0_1 a0_2 a0_3 a0_4 a0_5 a0_6 a0_7 a0_8 a0_9 a0_10 a0_11 a0_12 a0_13 a0_14 a0_15 a0_16 a1 [] j2 (spec_l15Can_S2 a0_0 a0_1 a0_2 a0_3 a0_4 a0_5 a0_6 a0_7 a0_8 a0_9 a0_10 a0_11 a0_12 a0_13 a0_14 a0_15 a0_16 a1 v)) v := by
    intro j2 v; kernel_rfl
  have i2 : ∀ (j2 : Nat) (v : Int), spec_l15Can_it2 k a0_0 a0_1 a0_2 a0_3 a0_4 a0_5 a0_6 a0_7 a0_8 a0_9 a0_10 a0_11 a0_12 a0_13 a0_14 a0_15 a0_16 a1 [] j2 (spec_l15Can_S2 a0_0 a0_1 a0_2 a0_3 a0_4 a0_5 a0_6 a0_7 a0_8 a0_9 a0_10 a0_11 a0_12 a0_13 a0_14 a0_15 a0_16 a1 v) = fixN (spec_l15Can_l2 k a0_0 a0_1 a0_2 a0_3 a0_4 a0_5 a0_6 a0_7 a0_8 a0_9 a0_10 a0_11 a0_12 a0_13 a0_14 a0_15 a0_16 a1) j2 v := by
    intro j2 v
    refine iter_fix (spec_l15Can_S2 a0_0 a0_1 a0_2 a0_3 a0_4 a0_5 a0_6 a0_7 a0_8 a0_9 a0_10 a0_11 a0_12 a0_13 a0_14 a0_15 a0_16 a1) (spec_l15Can_l2 k a0_0 a0_1 a0_2 a0_3 a0_4 a0_5 a0_6 a0_7 a0_8 a0_9 a0_10 a0_11 a0_12 a0_13 a0_14 a0_15 a0_16 a1) (fun j2 v => (e2 j2 v).trans ?_) j2 v
    unfold spec_l15Can_l2
    rfl
  have e1 : ∀ (j1 : Nat) (v : Int), spec_l15Can_it1 k a0_0 a0_1 a0_2 a0_3 a0_4 a0_5 a0_6 a0_7 a0_8 a0_9 a0_10 a0_11 a0_12 a0_13 a0_14 a0_15 a0_16 a1 [] (j1 + 1) (spec_l15Can_S1 a0_0 a0_1 a0_2 a0_3 a0_4 a0_5 a0_6 a0_7 a0_8 a0_9 a0_10 a0_11 a0_12 a0_13 a0_14 a0_15 a0_16 a1 v) = spec_l15Can_L1 k a0_0 a0_1 a0_2 a0_3 a0_4 a0_5 a0_6 a0_7 a0_8 a0_9 a0_10 a0_11 a0_12 a0_13 a0_14 a0_15 a0_16 a1 (fun v => spec_l15Can_it2 k a0_0 a0_1 a0_2 a0_3 a0_4 a0_5 a0_6 a0_7 a0_8 a0_9 a0_10 a0_11 a0_12 a0_13 a0_14 a0_15 a0_16 a1 [] k (spec_l15Can_S2 a0_0 a0_1 a0_2 a0_3 a0_4 a0_5 a0_6 a0_7 a0_8 a0_9 a0_10 a0_11 a0_12 a0_13 a0_14 a0_15 a0_16 a1 v)) (fun v => spec_l15Can_it1 k a0_0 a0_1 a0_2 a0_3 a0_4 a0_5 a0_6 a0_7 a0_8 a0_9 a0_10 a0_11 a0_12 a0_13 a0_14 a0_15 a0_16 a1 [] j1 (spec_l15Can_S1 a0_0 a0_1 a0_2 a0_3 a0_4 a0_5 a0_6 a0_7 a0_8 a0_9 a0_10 a0_11 a0_12 a0_13 a0_14 a0_15 a0_16 a1 v)) v := by
    intro j1 v; kernel_rfl
  have i1 : ∀ (j1 : Nat) (v : Int), spec_l15Can_it1 k a0_0 a0_1 a0_2 a0_3 a0_4 a0_5 a0_6 a0_7 a0_8 a0_9 a0_10 a0_11 a0_12 a0_13 a0_14 a0_15 a0_16 a1 [] j1 (spec_l15Can_S1 a0_0 a0_1 a0_2 a0_3 a0_4 a0_5 a0_6 a0_7 a0_8 a0_9 a0_10 a0_11 a0_12 a0_13 a0_14 a0_15 a0_16 a1 v) = fixN (spec_l15Can_l1 k a0_0 a0_1 a0_2 a0_3 a0_4 a0_5 a0_6 a0_7 a0_8 a0_9 a0_10 a0_11 a0_12 a0_13 a0_14 a0_15 a0_16 a1) j1 v := by
    intro j1 v
    refine iter_fix (spec_l15Can_S1 a0_0 a0_1 a0_2 a0_3 a0_4 a0_5 a0_6 a0_7 a0_8 a0_9 a0_10 a0_11 a0_12 a0_13 a0_14 a0_15 a0_16 a1) (spec_l15Can_l1 k a0_0 a0_1 a0_2 a0_3 a0_4 a0_5 a0_6 a0_7 a0_8 a0_9 a0_10 a0_11 a0_12 a0_13 a0_14 a0_15 a0_16 a1) (fun j1 v => (e1 j1 v).trans ?_) j1 v
    unfold spec_l15Can_l1
    simp only [i2] <;> rfl
  rw [e0]; unfold spec_l15Can_u
  simp only [i1]
def spec_CanBegin_u (k : Nat) (a0_0 : Int) (a0_1 : Int) (a0_2 : Int) (a0_3 : List (List T)) (a0_4 : Int) (a0_5 : Int) (a0_6 : Int) (a0_7 : Int) (a0_8 : Int) (a0_9 : List (List T)) (a0_10 : Int) (a0_11 : Bool) (a0_12 : Bool) (a0_13 : List (List T)) (a0_14 : List (List T)) (a0_15 : List (List T)) (a0_16 : List (List T)) (a1 : Int) : Option Outs :=
 bindO (evalF E P0 k N.spec_EngOk [.v [.i a0_0, .i a0_1, .i a0_2, .r a0_3, .i a0_4, .i a0_5, .i a0_6, .i a0_7, .i a0_8, .r a0_9, .i a0_10, .b a0_11, .b a0_12, .r a0_13, .r a0_14, .r a0_15, .r a0_16]]) fun o4 =>
 bif (o4.t 0).asB then
  bindO (evalF E P0 k N.spec_l1In [.v [.i a1], .v [.i 0], .v [.i (IntKind.wrap .i64 ((a0_13.length : Int) - 1))]]) fun o5 =>
  bif (o5.t 0).asB then
   bindO (evalF E P0 k N.spec_l15Can [.v [.i a0_0, .i a0_1, .i a0_2, .r a0_3, .i a0_4, .i a0_5, .i a0_6, .i a0_7, .i a0_8, .r a0_9, .i a0_10, .b a0_11, .b a0_12, .r a0_13, .r a0_14, .r a0_15, .r a0_16], .v [.i a1]]) fun o6 =>
   some ⟨[.b (o6.t 0).asB], []⟩
  else
   some ⟨[.b false], []⟩
 else
  some ⟨[.b false], []⟩
theorem spec_CanBegin_e (k : Nat) (a0_0 : Int) (a0_1 : Int) (a0_2 : Int) (a0_3 : List (List T)) (a0_4 : Int) (a0_5 : Int) (a0_6 : Int) (a0_7 : Int) (a0_8 : Int) (a0_9 : List (List T)) (a0_10 : Int) (a0_11 : Bool) (a0_12 : Bool) (a0_13 : List (List T)) (a0_14 : List (List T)) (a0_15 : List (List T)) (a0_16 : List (List T)) (a1 : Int) : evalF E P0 (k + 1) N.spec_CanBegin [.v [.i a0_0, .i a0_1, .i a0_2, .r a0_3, .i a0_4, .i a0_5, .i a0_6, .i a0_7, .i a0_8, .r a0_9, .i a0_10, .b a0_11, .b a0_12, .r a0_13, .r a0_14, .r a0_15, .r a0_16], .v [.i a1]] = spec_CanBegin_u k a0_0 a0_1 a0_2 a0_3 a0_4 a0_5 a0_6 a0_7 a0_8 a0_9 a0_10 a0_11 a0_12 a0_13 a0_14 a0_15 a0_16 a1 := by kernel_rfl
def spec_l15Answer_u (k : Nat) (a0_0 : Int) (a0_1 : Int) (a0_2 : Int) (a0_3 : List (List T)) (a0_4 : Int) (a0_5 : Int) (a0_6 : Int) (a0_7 : Int) (a0_8 : Int) (a0_9 : List (List T)) (a0_10 : Int) (a0_11 : Bool) (a0_12 : Bool) (a0_13 : List (List T)) (a0_14 : List (List T)) (a0_15 : List (List T)) (a0_16 : List (List T)) (a1_0 : Int) (a1_1 : Int) (a1_2 : Int) (a1_3 : Int) (a1_4 : List (List T)) (a2_0 : Int) (a2_1 : Int) (a2_2 : List (List T)) : Option Outs :=
 bindO (evalF E P0 k N.spec_l15Ans [.v [.i a2_0, .i a2_1, .r a2_2]]) fun o2 =>
 chk (decide ((a0_15.length + ([[.i (o2.t 0).asI, .i (o2.t 1).asI, .r (o2.t 2).asR]] : List (List T)).length) * 40 ≤ 140737488355328)) <|
 chk (decide ((a0_16.length + ([[.i a1_0, .i a1_1, .i a1_2, .i a1_3, .r a1_4, .i a2_0, .i a2_1, .r a2_2]] : List (List T)).length) * 96 ≤ 140737488355328)) <|
 some ⟨[], [[.i a0_0, .i a0_1, .i a0_2, .r a0_3, .i a0_4, .i a0_5, .i a0_6, .i a0_7, .i a0_8, .r a0_9, .i a0_10, .b a0_11, .b a0_12, .r a0_13, .r a0_14, .r (a0_15 ++ ([[.i (o2.t 0).asI, .i (o2.t 1).asI, .r (o2.t 2).asR]] : List (List T))), .r (a0_16 ++ ([[.i a1_0, .i a1_1, .i a1_2, .i a1_3, .r a1_4, .i a2_0, .i a2_1, .r a2_2]] : List (List T)))]]⟩
theorem spec_l15Answer_e (k : Nat) (a0_0 : Int) (a0_1 : Int) (a0_2 : Int) (a0_3 : List (List T)) (a0_4 : Int) (a0_5 : Int) (a0_6 : Int) (a0_7 : Int) (a0_8 : Int) (a0_9 : List (List T)) (a0_10 : Int) (a0_11 : Bool) (a0_12 : Bool) (a0_13 : List (List T)) (a0_14 : List (List T)) (a0_15 : List (List T)) (a0_16 : List (List T)) (a1_0 : Int) (a1_1 : Int) (a1_2 : Int) (a1_3 : Int) (a1_4 : List (List T)) (a2_0 : Int) (a2_1 : Int) (a2_2 : List (List T)) : evalF E P0 (k + 1) N.spec_l15Answer [.p [.i a0_0, .i a0_1, .i a0_2, .r a0_3, .i a0_4, .i a0_5, .i a0_6, .i a0_7, .i a0_8, .r a0_9, .i a0_10, .b a0_11, .b a0_12, .r a0_13, .r a0_14, .r a0_15, .r a0_16], .v [.i a1_0, .i a1_1, .i a1_2, .i a1_3, .r a1_4], .v [.i a2_0, .i a2_1, .r a2_2]] = spec_l15Answer_u k a0_0 a0_1 a0_2 a0_3 a0_4 a0_5 a0_6 a0_7 a0_8 a0_9 a0_10 a0_11 a0_12 a0_13 a0_14 a0_15 a0_16 a1_0 a1_1 a1_2 a1_3 a1_4 a2_0 a2_1 a2_2 := by kernel_rfl
def spec_l15Begin_u (k : Nat) (a0_0 : Int) (a0_1 : Int) (a0_2 : Int) (a0_3 : List (List T)) (a0_4 : Int) (a0_5 : Int) (a0_6 : Int) (a0_7 : Int) (a0_8 : Int) (a0_9 : List (List T)) (a0_10 : Int) (a0_11 : Bool) (a0_12 : Bool) (a0_13 : List (List T)) (a0_14 : List (List T)) (a0_15 : List (List T)) (a0_16 : List (List T)) (a1 : Int) : Option Outs :=
 chk (decide (0 ≤ a1) && decide (a1 < (a0_13.length : Int))) <|
 chk (decide (0 ≤ 0) && decide (0 ≤ a1) && decide (a1 ≤ (a0_13.length : Int))) <|
 chk (decide ((([] : List (List T)).length + ((a0_13.drop (0 : Int).toNat).take (a1.toNat - (0 : Int).toNat)).length) * 56 ≤ 140737488355328)) <|
 chk (decide (0 ≤ (IntKind.wrap .i64 (a1 + 1))) && decide ((IntKind.wrap .i64 (a1 + 1)) ≤ (a0_13.length : Int)) && decide ((a0_13.length : Int) ≤ (a0_13.length : Int))) <|
 chk (decide (((([] : List (List T)) ++ ((a0_13.drop (0 : Int).toNat).take (a1.toNat - (0 : Int).toNat))).length + ((a0_13.drop (IntKind.wrap .i64 (a1 + 1)).toNat).take ((a0_13.length : Int).toNat - (IntKind.wrap .i64 (a1 + 1)).toNat)).length) * 56 ≤ 140737488355328)) <|
 bindO (evalF E P0 k N.spec_CmdCode [.v [.i a0_1, .i a0_2], .v [.i (at_ a0_13 a1.toNat 0).asI, .i (at_ a0_13 a1.toNat 1).asI, .i (at_ a0_13 a1.toNat 2).asI, .i (at_ a0_13 a1.toNat 3).asI, .r (at_ a0_13 a1.toNat 4).asR]]) fun o2 =>
 bif ((o2.t 0).asI != 0) then
  bindO (evalF E P0 k N.spec_l15Answer [.p [.i a0_0, .i a0_1, .i a0_2, .r a0_3, .i a0_4, .i a0_5, .i a0_6, .i a0_7, .i a0_8, .r a0_9, .i a0_10, .b a0_11, .b a0_12, .r ((([] : List (List T)) ++ ((a0_13.drop (0 : Int).toNat).take (a1.toNat - (0 : Int).toNat))) ++ ((a0_13.drop (IntKind.wrap .i64 (a1 + 1)).toNat).take ((a0_13.length : Int).toNat - (IntKind.wrap .i64 (a1 + 1)).toNat))), .r a0_14, .r a0_15, .r a0_16], .v [.i (at_ a0_13 a1.toNat 0).asI, .i (at_ a0_13 a1.toNat 1).asI, .i (at_ a0_13 a1.toNat 2).asI, .i (at_ a0_13 a1.toNat 3).asI, .r (at_ a0_13 a1.toNat 4).asR], .v [.i (at_ a0_13 a1.toNat 1).asI, .i (o2.t 0).asI, .r []]]) fun o6 =>
  some ⟨[], [[.i (o6.vt 0 0).asI, .i (o6.vt 0 1).asI, .i (o6.vt 0 2).asI, .r (o6.vt 0 3).asR, .i (o6.vt 0 4).asI, .i (o6.vt 0 5).asI, .i (o6.vt 0 6).asI, .i (o6.vt 0 7).asI, .i (o6.vt 0 8).asI, .r (o6.vt 0 9).asR, .i (o6.vt 0 10).asI, .b (o6.vt 0 11).asB, .b (o6.vt 0 12).asB, .r (o6.vt 0 13).asR, .r (o6.vt 0 14).asR, .r (o6.vt 0 15).asR, .r (o6.vt 0 16).asR]]⟩
 else
  chk (decide ((a0_14.length + ([[.i (at_ a0_13 a1.toNat 0).asI, .i (at_ a0_13 a1.toNat 1).asI, .i (at_ a0_13 a1.toNat 2).asI, .i (at_ a0_13 a1.toNat 3).asI, .r (at_ a0_13 a1.toNat 4).asR, .i 0, .r [], .i 0]] : List (List T)).length) * 96 ≤ 140737488355328)) <|
  some ⟨[], [[.i a0_0, .i a0_1, .i a0_2, .r a0_3, .i a0_4, .i a0_5, .i a0_6, .i a0_7, .i a0_8, .r a0_9, .i a0_10, .b a0_11, .b a0_12, .r ((([] : List (List T)) ++ ((a0_13.drop (0 : Int).toNat).take (a1.toNat - (0 : Int).toNat))) ++ ((a0_13.drop (IntKind.wrap .i64 (a1 + 1)).toNat).take ((a0_13.length : Int).toNat - (IntKind.wrap .i64 (a1 + 1)).toNat))), .r (a0_14 ++ ([[.i (at_ a0_13 a1.toNat 0).asI, .i (at_ a0_13 a1.toNat 1).asI, .i (at_ a0_13 a1.toNat 2).asI, .i (at_ a0_13 a1.toNat 3).asI, .r (at_ a0_13 a1.toNat 4).asR, .i 0, .r [], .i 0]] : List (List T))), .r a0_15, .r a0_16]]⟩
theorem spec_l15Begin_e (k : Nat) (a0_0 : Int) (a0_1 : Int) (a0_2 : Int) (a0_3 : List (List T)) (a0_4 : Int) (a0_5 : Int) (a0_6 : Int) (a0_7 : Int) (a0_8 : Int) (a0_9 : List (List T)) (a0_10 : Int) (a0_11 : Bool) (a0_12 : Bool) (a0_13 : List (List T)) (a0_14 : List (List T)) (a0_15 : List (List T)) (a0_16 : List (List T)) (a1 : Int) : evalF E P0 (k + 1) N.spec_l15Begin [.p [.i a0_0, .i a0_1, .i a0_2, .r a0_3, .i a0_4, .i a0_5, .i a0_6, .i a0_7, .i a0_8, .r a0_9, .i a0_10, .b a0_11, .b a0_12, .r a0_13, .r a0_14, .r a0_15, .r a0_16], .v [.i a1]] = spec_l15Begin_u k a0_0 a0_1 a0_2 a0_3 a0_4 a0_5 a0_6 a0_7 a0_8 a0_9 a0_10 a0_11 a0_12 a0_13 a0_14 a0_15 a0_16 a1 := by kernel_rfl
def spec_Begin_u (k : Nat) (a0_0 : Int) (a0_1 : Int) (a0_2 : Int) (a0_3 : List (List T)) (a0_4 : Int) (a0_5 : Int) (a0_6 : Int) (a0_7 : Int) (a0_8 : Int) (a0_9 : List (List T)) (a0_10 : Int) (a0_11 : Bool) (a0_12 : Bool) (a0_13 : List (List T)) (a0_14 : List (List T)) (a0_15 : List (List T)) (a0_16 : List (List T)) (a1 : Int) : Option Outs :=
 bindO (evalF E P0 k N.spec_l15Copy [.v [.i a0_0, .i a0_1, .i a0_2, .r a0_3, .i a0_4, .i a0_5, .i a0_6, .i a0_7, .i a0_8, .r a0_9, .i a0_10, .b a0_11, .b a0_12, .r a0_13, .r a0_14, .r a0_15, .r a0_16]]) fun o2 =>
 bindO (evalF E P0 k N.spec_CanBegin [.v [.i a0_0, .i a0_1, .i a0_2, .r a0_3, .i a0_4, .i a0_5, .i a0_6, .i a0_7, .i a0_8, .r a0_9, .i a0_10, .b a0_11, .b a0_12, .r a0_13, .r a0_14, .r a0_15, .r a0_16], .v [.i a1]]) fun o4 =>
 bif (!(o4.t 0).asB) then
  some ⟨[.i (o2.t 0).asI, .i (o2.t 1).asI, .i (o2.t 2).asI, .r (o2.t 3).asR, .i (o2.t 4).asI, .i (o2.t 5).asI, .i (o2.t 6).asI, .i (o2.t 7).asI, .i (o2.t 8).asI, .r (o2.t 9).asR, .i (o2.t 10).asI, .b (o2.t 11).asB, .b (o2.t 12).asB, .r (o2.t 13).asR, .r (o2.t 14).asR, .r (o2.t 15).asR, .r (o2.t 16).asR, .b false], []⟩
 else
  bindO (evalF E P0 k N.spec_l15Begin [.p [.i (o2.t 0).asI, .i (o2.t 1).asI, .i (o2.t 2).asI, .r (o2.t 3).asR, .i (o2.t 4).asI, .i (o2.t 5).asI, .i (o2.t 6).asI, .i (o2.t 7).asI, .i (o2.t 8).asI, .r (o2.t 9).asR, .i (o2.t 10).asI, .b (o2.t 11).asB, .b (o2.t 12).asB, .r (o2.t 13).asR, .r (o2.t 14).asR, .r (o2.t 15).asR, .r (o2.t 16).asR], .v [.i a1]]) fun o6 =>
  some ⟨[.i (o6.vt 0 0).asI, .i (o6.vt 0 1).asI, .i (o6.vt 0 2).asI, .r (o6.vt 0 3).asR, .i (o6.vt 0 4).asI, .i (o6.vt 0 5).asI, .i (o6.vt 0 6).asI, .i (o6.vt 0 7).asI, .i (o6.vt 0 8).asI, .r (o6.vt 0 9).asR, .i (o6.vt 0 10).asI, .b (o6.vt 0 11).asB, .b (o6.vt 0 12).asB, .r (o6.vt 0 13).asR, .r (o6.vt 0 14).asR, .r (o6.vt 0 15).asR, .r (o6.vt 0 16).asR, .b true], []⟩
theorem spec_Begin_e (k : Nat) (a0_0 : Int) (a0_1 : Int) (a0_2 : Int) (a0_3 : List (List T)) (a0_4 : Int) (a0_5 : Int) (a0_6 : Int) (a0_7 : Int) (a0_8 : Int) (a0_9 : List (List T)) (a0_10 : Int) (a0_11 : Bool) (a0_12 : Bool) (a0_13 : List (List T)) (a0_14 : List (List T)) (a0_15 : List (List T)) (a0_16 : List (List T)) (a1 : Int) : evalF E P0 (k + 1) N.spec_Begin [.v [.i a0_0, .i a0_1, .i a0_2, .r a0_3, .i a0_4, .i a0_5, .i a0_6, .i a0_7, .i a0_8, .r a0_9, .i a0_10, .b a0_11, .b a0_12, .r a0_13, .r a0_14, .r a0_15, .r a0_16], .v [.i a1]] = spec_Begin_u k a0_0 a0_1 a0_2 a0_3 a0_4 a0_5 a0_6 a0_7 a0_8 a0_9 a0_10 a0_11 a0_12 a0_13 a0_14 a0_15 a0_16 a1 := by kernel_rfl
def impl_CanBegin_L2 (k : Nat) (a0_0 : Int) (a0_1 : Int) (a0_2 : Int) (a0_3 : List (List T)) (a0_4 : Int) (a0_5 : Int) (a0_6 : Int) (a0_7 : Int) (a0_8 : Int) (a0_9 : List (List T)) (a0_10 : Int) (a0_11 : Bool) (a0_12 : Bool) (a0_13 : List (List T)) (a0_14 : List (List T)) (a0_15 : List (List T)) (a0_16 : List (List T)) (a1 : Int) (p23 : List (List T)) (p24 : Int) (G2 : (Int) → Option Outs) : (Int) → Option Outs := fun v16 =>
 bif (decide (v16 < p24)) then
  chk (decide (0 ≤ v16) && decide (v16 < (p23.length : Int))) <|
  chk (decide (0 ≤ a1) && decide (a1 < (a0_13.length : Int))) <|
  bindO (evalF E P0 k N.impl_Clash [.v [.i a0_1, .i a0_2], .v [.i (at_ a0_13 a1.toNat 0).asI, .i (at_ a0_13 a1.toNat 1).asI, .i (at_ a0_13 a1.toNat 2).asI, .i (at_ a0_13 a1.toNat 3).asI, .r (at_ a0_13 a1.toNat 4).asR], .v [.i (at_ p23 v16.toNat 0).asI, .i (at_ p23 v16.toNat 1).asI, .i (at_ p23 v16.toNat 2).asI, .i (at_ p23 v16.toNat 3).asI, .r (at_ p23 v16.toNat 4).asR]]) fun o195 =>
  bif (o195.t 0).asB then some ⟨[.b false], []⟩ else G2 (IntKind.wrap .i64 (v16 + 1))
 else
  bif (decide ((a0_14.length : Int) < 4)) then
   bif (decide ((IntKind.wrap .i64 ((a0_15.length : Int) + (a0_14.length : Int))) < 8)) then
    some ⟨[.b (decide ((IntKind.wrap .i64 ((a0_16.length : Int) + (a0_14.length : Int))) < 400))], []⟩
   else
    some ⟨[.b false], []⟩
  else
   some ⟨[.b false], []⟩
def impl_CanBegin_k2 : List Nat := [1, 2, 4, 9, 44, 45, 46, 61, 62, 63, 64, 65, 66, 67, 68, 69, 70, 71, 72, 73, 74, 75, 76, 77, 78, 79, 80, 81]
def impl_CanBegin_S2 (a0_0 : Int) (a0_1 : Int) (a0_2 : Int) (a0_3 : List (List T)) (a0_4 : Int) (a0_5 : Int) (a0_6 : Int) (a0_7 : Int) (a0_8 : Int) (a0_9 : List (List T)) (a0_10 : Int) (a0_11 : Bool) (a0_12 : Bool) (a0_13 : List (List T)) (a0_14 : List (List T)) (a0_15 : List (List T)) (a0_16 : List (List T)) (a1 : Int) (p23 : List (List T)) (p24 : Int) : (Int) → St := fun v16 => ⟨ofSl [(1, .i .i64 a1), (2, .ptr (2, 0) 0), (4, .b false), (9, .skip), (44, .sl 53 p23), (45, .i .i64 p24), (46, .i .i64 v16), (61, .skip), (62, .skip), (63, .skip), (64, .skip), (65, .skip), (66, .skip), (67, .skip), (68, .skip), (69, .skip), (70, .skip), (71, .skip), (72, .skip), (73, .skip), (74, .skip), (75, .skip), (76, .skip), (77, .skip), (78, .skip), (79, .skip), (80, .skip), (81, .skip)], ofMem [((2, 0), .var [.i .i64 a0_0, .i .i64 a0_1, .i .i64 a0_2, .sl 160 a0_3, .i .i64 a0_4, .i .i64 a0_5, .i .i64 a0_6, .i .i64 a0_7, .i .i64 a0_8, .sl 162 a0_9, .i .i64 a0_10, .b a0_11, .b a0_12, .sl 53 a0_13, .sl 103 a0_14, .sl 61 a0_15, .sl 120 a0_16])]⟩
def impl_CanBegin_L1 (k : Nat) (a0_0 : Int) (a0_1 : Int) (a0_2 : Int) (a0_3 : List (List T)) (a0_4 : Int) (a0_5 : Int) (a0_6 : Int) (a0_7 : Int) (a0_8 : Int) (a0_9 : List (List T)) (a0_10 : Int) (a0_11 : Bool) (a0_12 : Bool) (a0_13 : List (List T)) (a0_14 : List (List T)) (a0_15 : List (List T)) (a0_16 : List (List T)) (a1 : Int) (R2 : List (List T) → Int → (Int) → Option Outs) (G1 : (Int) → Option Outs) : (Int) → Option Outs := fun v8 =>
 bif (decide (v8 < (a0_14.length : Int))) then
  chk (decide (0 ≤ v8) && decide (v8 < (a0_14.length : Int))) <|
  chk (decide (0 ≤ a1) && decide (a1 < (a0_13.length : Int))) <|
  bindO (evalF E P0 k N.impl_Clash [.v [.i a0_1, .i a0_2], .v [.i (at_ a0_13 a1.toNat 0).asI, .i (at_ a0_13 a1.toNat 1).asI, .i (at_ a0_13 a1.toNat 2).asI, .i (at_ a0_13 a1.toNat 3).asI, .r (at_ a0_13 a1.toNat 4).asR], .v [.i (at_ a0_14 v8.toNat 0).asI, .i (at_ a0_14 v8.toNat 1).asI, .i (at_ a0_14 v8.toNat 2).asI, .i (at_ a0_14 v8.toNat 3).asI, .r (at_ a0_14 v8.toNat 4).asR]]) fun o99 =>
  bif (o99.t 0).asB then some ⟨[.b false], []⟩ else G1 (IntKind.wrap .i64 (v8 + 1))
 else
  chk (decide (0 ≤ 0) && decide (0 ≤ a1) && decide (a1 ≤ (a0_13.length : Int))) <|
  R2 ((a0_13.drop (0 : Int).toNat).take (a1.toNat - (0 : Int).toNat)) (((a0_13.drop (0 : Int).toNat).take (a1.toNat - (0 : Int).toNat)).length : Int) 0
def impl_CanBegin_k1 : List Nat := [1, 2, 4, 8, 9, 23, 24, 25, 41, 42, 43, 44, 45, 46, 47, 48, 49, 50, 51, 52, 53, 54, 55, 56, 57, 58, 59, 60, 61, 62, 63, 64, 65, 66, 67, 68, 69, 70, 71, 72, 73, 74, 75, 76, 77, 78, 79, 80, 81]
def impl_CanBegin_S1 (a0_0 : Int) (a0_1 : Int) (a0_2 : Int) (a0_3 : List (List T)) (a0_4 : Int) (a0_5 : Int) (a0_6 : Int) (a0_7 : Int) (a0_8 : Int) (a0_9 : List (List T)) (a0_10 : Int) (a0_11 : Bool) (a0_12 : Bool) (a0_13 : List (List T)) (a0_14 : List (List T)) (a0_15 : List (List T)) (a0_16 : List (List T)) (a1 : Int) : (Int) → St := fun v8 => ⟨ofSl [(1, .i .i64 a1), (2, .ptr (2, 0) 0), (4, .b false), (8, .skip), (9, .skip), (23, .sl 103 a0_14), (24, .i .i64 (a0_14.length : Int)), (25, .i .i64 v8), (41, .skip), (42, .skip), (43, .skip), (44, .skip), (45, .skip), (46, .skip), (47, .skip), (48, .skip), (49, .skip), (50, .skip), (51, .skip), (52, .skip), (53, .skip), (54, .skip), (55, .skip), (56, .skip), (57, .skip), (58, .skip), (59, .skip), (60, .skip), (61, .skip), (62, .skip), (63, .skip), (64, .skip), (65, .skip), (66, .skip), (67, .skip), (68, .skip), (69, .skip), (70, .skip), (71, .skip), (72, .skip), (73, .skip), (74, .skip), (75, .skip), (76, .skip), (77, .skip), (78, .skip), (79, .skip), (80, .skip), (81, .skip)], ofMem [((2, 0), .var [.i .i64 a0_0, .i .i64 a0_1, .i .i64 a0_2, .sl 160 a0_3, .i .i64 a0_4, .i .i64 a0_5, .i .i64 a0_6, .i .i64 a0_7, .i .i64 a0_8, .sl 162 a0_9, .i .i64 a0_10, .b a0_11, .b a0_12, .sl 53 a0_13, .sl 103 a0_14, .sl 61 a0_15, .sl 120 a0_16])]⟩
def impl_CanBegin_J1 (k : Nat) (R1 : (Int) → Option Outs) (c1 : Bool) : Option Outs :=
 bif c1 then some ⟨[.b false], []⟩ else R1 0
def impl_CanBegin_l2 (k : Nat) (a0_0 : Int) (a0_1 : Int) (a0_2 : Int) (a0_3 : List (List T)) (a0_4 : Int) (a0_5 : Int) (a0_6 : Int) (a0_7 : Int) (a0_8 : Int) (a0_9 : List (List T)) (a0_10 : Int) (a0_11 : Bool) (a0_12 : Bool) (a0_13 : List (List T)) (a0_14 : List (List T)) (a0_15 : List (List T)) (a0_16 : List (List T)) (a1 : Int) (p23 : List (List T)) (p24 : Int) (G2 : (Int) → Option Outs) : (Int) → Option Outs :=
  impl_CanBegin_L2 k a0_0 a0_1 a0_2 a0_3 a0_4 a0_5 a0_6 a0_7 a0_8 a0_9 a0_10 a0_11 a0_12 a0_13 a0_14 a0_15 a0_16 a1 p23 p24 G2
def impl_CanBegin_l1 (k : Nat) (a0_0 : Int) (a0_1 : Int) (a0_2 : Int) (a0_3 : List (List T)) (a0_4 : Int) (a0_5 : Int) (a0_6 : Int) (a0_7 : Int) (a0_8 : Int) (a0_9 : List (List T)) (a0_10 : Int) (a0_11 : Bool) (a0_12 : Bool) (a0_13 : List (List T)) (a0_14 : List (List T)) (a0_15 : List (List T)) (a0_16 : List (List T)) (a1 : Int) (G1 : (Int) → Option Outs) : (Int) → Option Outs :=
  impl_CanBegin_L1 k a0_0 a0_1 a0_2 a0_3 a0_4 a0_5 a0_6 a0_7 a0_8 a0_9 a0_10 a0_11 a0_12 a0_13 a0_14 a0_15 a0_16 a1 (fun y0 y1 v => fixN (impl_CanBegin_l2 k a0_0 a0_1 a0_2 a0_3 a0_4 a0_5 a0_6 a0_7 a0_8 a0_9 a0_10 a0_11 a0_12 a0_13 a0_14 a0_15 a0_16 a1 y0 y1) k v) G1
def impl_CanBegin_U (k : Nat) (a0_0 : Int) (a0_1 : Int) (a0_2 : Int) (a0_3 : List (List T)) (a0_4 : Int) (a0_5 : Int) (a0_6 : Int) (a0_7 : Int) (a0_8 : Int) (a0_9 : List (List T)) (a0_10 : Int) (a0_11 : Bool) (a0_12 : Bool) (a0_13 : List (List T)) (a0_14 : List (List T)) (a0_15 : List (List T)) (a0_16 : List (List T)) (a1 : Int) (R1 : (Int) → Option Outs) : Option Outs :=
 bindO (evalF E P0 k N.impl_EngOk [.v [.i a0_0, .i a0_1, .i a0_2, .r a0_3, .i a0_4, .i a0_5, .i a0_6, .i a0_7, .i a0_8, .r a0_9, .i a0_10, .b a0_11, .b a0_12, .r a0_13, .r a0_14, .r a0_15, .r a0_16]]) fun o3 =>
 bif (!(o3.t 0).asB) then
  impl_CanBegin_J1 k R1 true
 else
  bindO (evalF E P0 k N.impl_within [.v [.i a1], .v [.i 0], .v [.i (IntKind.wrap .i64 ((a0_13.length : Int) - 1))]]) fun o196 =>
  impl_CanBegin_J1 k R1 (!(o196.t 0).asB)
def impl_CanBegin_u (k : Nat) (a0_0 : Int) (a0_1 : Int) (a0_2 : Int) (a0_3 : List (List T)) (a0_4 : Int) (a0_5 : Int) (a0_6 : Int) (a0_7 : Int) (a0_8 : Int) (a0_9 : List (List T)) (a0_10 : Int) (a0_11 : Bool) (a0_12 : Bool) (a0_13 : List (List T)) (a0_14 : List (List T)) (a0_15 : List (List T)) (a0_16 : List (List T)) (a1 : Int) : Option Outs :=
  impl_CanBegin_U k a0_0 a0_1 a0_2 a0_3 a0_4 a0_5 a0_6 a0_7 a0_8 a0_9 a0_10 a0_11 a0_12 a0_13 a0_14 a0_15 a0_16 a1 (fun v => fixN (impl_CanBegin_l1 k a0_0 a0_1 a0_2 a0_3 a0_4 a0_5 a0_6 a0_7 a0_8 a0_9 a0_10 a0_11 a0_12 a0_13 a0_14 a0_15 a0_16 a1) k v)
def impl_CanBegin_it1 (k : Nat) (a0_0 : Int) (a0_1 : Int) (a0_2 : Int) (a0_3 : List (List T)) (a0_4 : Int) (a0_5 : Int) (a0_6 : Int) (a0_7 : Int) (a0_8 : Int) (a0_9 : List (List T)) (a0_10 : Int) (a0_11 : Bool) (a0_12 : Bool) (a0_13 : List (List T)) (a0_14 : List (List T)) (a0_15 : List (List T)) (a0_16 : List (List T)) (a1 : Int) (js : List Nat) (j : Nat) (s : St) : Option Outs := iter E (LB E (evalF E P0 k) k [] N.impl_CanBegin [.sr, .sr, .sl, .sr, .bl]) [] impl_CanBegin_k1 (LK E (evalF E P0 k) k [] N.impl_CanBegin [.v [.i a0_0, .i a0_1, .i a0_2, .r a0_3, .i a0_4, .i a0_5, .i a0_6, .i a0_7, .i a0_8, .r a0_9, .i a0_10, .b a0_11, .b a0_12, .r a0_13, .r a0_14, .r a0_15, .r a0_16], .v [.i a1]] [.sr, .sr, .sl, .sr, .bl] js) j s
def impl_CanBegin_it2 (k : Nat) (a0_0 : Int) (a0_1 : Int) (a0_2 : Int) (a0_3 : List (List T)) (a0_4 : Int) (a0_5 : Int) (a0_6 : Int) (a0_7 : Int) (a0_8 : Int) (a0_9 : List (List T)) (a0_10 : Int) (a0_11 : Bool) (a0_12 : Bool) (a0_13 : List (List T)) (a0_14 : List (List T)) (a0_15 : List (List T)) (a0_16 : List (List T)) (a1 : Int) (js : List Nat) (j : Nat) (s : St) : Option Outs := iter E (LB E (evalF E P0 k) k [] N.impl_CanBegin [.sr, .sr, .sr, .sl, .sr, .bl]) [] impl_CanBegin_k2 (LK E (evalF E P0 k) k [] N.impl_CanBegin [.v [.i a0_0, .i a0_1, .i a0_2, .r a0_3, .i a0_4, .i a0_5, .i a0_6, .i a0_7, .i a0_8, .r a0_9, .i a0_10, .b a0_11, .b a0_12, .r a0_13, .r a0_14, .r a0_15, .r a0_16], .v [.i a1]] [.sr, .sr, .sr, .sl, .sr, .bl] js) j s
theorem impl_CanBegin_e (k : Nat) (a0_0 : Int) (a0_1 : Int) (a0_2 : Int) (a0_3 : List (List T)) (a0_4 : Int) (a0_5 : Int) (a0_6 : Int) (a0_7 : Int) (a0_8 : Int) (a0_9 : List (List T)) (a0_10 : Int) (a0_11 : Bool) (a0_12 : Bool) (a0_13 : List (List T)) (a0_14 : List (List T)) (a0_15 : List (List T)) (a0_16 : List (List T)) (a1 : Int) : evalF E P0 (k + 1) N.impl_CanBegin [.v [.i a0_0, .i a0_1, .i a0_2, .r a0_3, .i a0_4, .i a0_5, .i a0_6, .i a0_7, .i a0_8, .r a0_9, .i a0_10, .b a0_11, .b a0_12, .r a0_13, .r a0_14, .r a0_15, .r a0_16], .v [.i a1]] = impl_CanBegin_u k a0_0 a0_1 a0_2 a0_3 a0_4 a0_5 a0_6 a0_7 a0_8 a0_9 a0_10 a0_11 a0_12 a0_13 a0_14 a0_15 a0_16 a1 := by
  have e0 : evalF E P0 (k + 1) N.impl_CanBegin [.v [.i a0_0, .i a0_1, .i a0_2, .r a0_3, .i a0_4, .i a0_5, .i a0_6, .i a0_7, .i a0_8, .r a0_9, .i a0_10, .b a0_11, .b a0_12, .r a0_13, .r a0_14, .r a0_15, .r a0_16], .v [.i a1]] = impl_CanBegin_U k a0_0 a0_1 a0_2 a0_3 a0_4 a0_5 a0_6 a0_7 a0_8 a0_9 a0_10 a0_11 a0_12 a0_13 a0_14 a0_15 a0_16 a1 (fun v => impl_CanBegin_it1 k a0_0 a0_1 a0_2 a0_3 a0_4 a0_5 a0_6 a0_7 a0_8 a0_9 a0_10 a0_11 a0_12 a0_13 a0_14 a0_15 a0_16 a1 [] k (impl_CanBegin_S1 a0_0 a0_1 a0_2 a0_3 a0_4 a0_5 a0_6 a0_7 a0_8 a0_9 a0_10 a0_11 a0_12 a0_13 a0_14 a0_15 a0_16 a1 v)) := by kernel_rfl
  have e2 : ∀ (p23 : List (List T)) (p24 : Int) (j2 : Nat) (v : Int), impl_CanBegin_it2 k a0_0 a0_1 a0_2 a0_3 a0_4 a0_5 a0_6 a0_7 a0_8 a0_9 a0_10 a0_11 a0_12 a0_13 a0_14 a0_15 a0_16 a1 [] (j2 + 1) (impl_CanBegin_S2 a0_0 a0_1 a0_2 a0_3 a0_4 a0_5 a0_6 a0_7 a0_8 a0_9 a0_10 a0_11 a0_12 a0_13 a0_14 a0_15 a0_16 a1 p23 p24 v) = impl_CanBegin_L2 k a0_0 a0_1 a0_2 a0_3 a0_4 a0_5 a0_6 a0_7 a0_8 a0_9 a0_10 a0_11 a0_12 a0_13 a0_14 a0_15 a0_16 a1 p23 p24 (fun v => impl_CanBegin_it2 k a0_0 a0_1 a0_2 a0_3 a0_4 a0_5 a0_6 a0_7 a0_8 a0_9 a0_10 a0_11 a0_12 a0_13 a0_14 a0_15 a0_16 a1 [] j2 (impl_CanBegin_S2 a0_0 a0_1 a0_2 a0_3 a0_4 a0_5 a0_6 a0_7 a0_8 a0_9 a0_10 a0_11 a0_12 a0_13 a0_14 a0_15 a0_16 a1 p23 p24 v)) v := by
    intro p23 p24 j2 v; kernel_rfl
  have i2 : ∀ (p23 : List (List T)) (p24 : Int) (j2 : Nat) (v : Int), impl_CanBegin_it2 k a0_0 a0_1 a0_2 a0_3 a0_4 a0_5 a0_6 a0_7 a0_8 a0_9 a0_10 a0_11 a0_12 a0_13 a0_14 a0_15 a0_16 a1 [] j2 (impl_CanBegin_S2 a0_0 a0_1 a0_2 a0_3 a0_4 a0_5 a0_6 a0_7 a0_8 a0_9 a0_10 a0_11 a0_12 a0_13 a0_14 a0_15 a0_16 a1 p23 p24 v) = fixN (impl_CanBegin_l2 k a0_0 a0_1 a0_2 a0_3 a0_4 a0_5 a0_6 a0_7 a0_8 a0_9 a0_10 a0_11 a0_12 a0_13 a0_14 a0_15 a0_16 a1 p23 p24) j2 v := by
    intro p23 p24 j2 v
    refine iter_fix (impl_CanBegin_S2 a0_0 a0_1 a0_2 a0_3 a0_4 a0_5 a0_6 a0_7 a0_8 a0_9 a0_10 a0_11 a0_12 a0_13 a0_14 a0_15 a0_16 a1 p23 p24) (impl_CanBegin_l2 k a0_0 a0_1 a0_2 a0_3 a0_4 a0_5 a0_6 a0_7 a0_8 a0_9 a0_10 a0_11 a0_12 a0_13 a0_14 a0_15 a0_16 a1 p23 p24) (fun j2 v => (e2 p23 p24 j2 v).trans ?_) j2 v
    unfold impl_CanBegin_l2
    rfl
  have e1 : ∀ (j1 : Nat) (v : Int), impl_CanBegin_it1 k a0_0 a0_1 a0_2 a0_3 a0_4 a0_5 a0_6 a0_7 a0_8 a0_9 a0_10 a0_11 a0_12 a0_13 a0_14 a0_15 a0_16 a1 [] (j1 + 1) (impl_CanBegin_S1 a0_0 a0_1 a0_2 a0_3 a0_4 a0_5 a0_6 a0_7 a0_8 a0_9 a0_10 a0_11 a0_12 a0_13 a0_14 a0_15 a0_16 a1 v) = impl_CanBegin_L1 k a0_0 a0_1 a0_2 a0_3 a0_4 a0_5 a0_6 a0_7 a0_8 a0_9 a0_10 a0_11 a0_12 a0_13 a0_14 a0_15 a0_16 a1 (fun y0 y1 v => impl_CanBegin_it2 k a0_0 a0_1 a0_2 a0_3 a0_4 a0_5 a0_6 a0_7 a0_8 a0_9 a0_10 a0_11 a0_12 a0_13 a0_14 a0_15 a0_16 a1 [] k (impl_CanBegin_S2 a0_0 a0_1 a0_2 a0_3 a0_4 a0_5 a0_6 a0_7 a0_8 a0_9 a0_10 a0_11 a0_12 a0_13 a0_14 a0_15 a0_16 a1 y0 y1 v)) (fun v => impl_CanBegin_it1 k a0_0 a0_1 a0_2 a0_3 a0_4 a0_5 a0_6 a0_7 a0_8 a0_9 a0_10 a0_11 a0_12 a0_13 a0_14 a0_15 a0_16 a1 [] j1 (impl_CanBegin_S1 a0_0 a0_1 a0_2 a0_3 a0_4 a0_5 a0_6 a0_7 a0_8 a0_9 a0_10 a0_11 a0_12 a0_13 a0_14 a0_15 a0_16 a1 v)) v := by
    intro j1 v; kernel_rfl
  have i1 : ∀ (j1 : Nat) (v : Int), impl_CanBegin_it1 k a0_0 a0_1 a0_2 a0_3 a0_4 a0_5 a0_6 a0_7 a0_8 a0_9 a0_10 a0_11 a0_12 a0_13 a0_14 a0_15 a0_16 a1 [] j1 (impl_CanBegin_S1 a0_0 a0_1 a0_2 a0_3 a0_4 a0_5 a0_6 a0_7 a0_8 a0_9 a0_10 a0_11 a0_12 a0_13 a0_14 a0_15 a0_16 a1 v) = fixN (impl_CanBegin_l1 k a0_0 a0_1 a0_2 a0_3 a0_4 a0_5 a0_6 a0_7 a0_8 a0_9 a0_10 a0_11 a0_12 a0_13 a0_14 a0_15 a0_16 a1) j1 v := by
    intro j1 v
    refine iter_fix (impl_CanBegin_S1 a0_0 a0_1 a0_2 a0_3 a0_4 a0_5 a0_6 a0_7 a0_8 a0_9 a0_10 a0_11 a0_12 a0_13 a0_14 a0_15 a0_16 a1) (impl_CanBegin_l1 k a0_0 a0_1 a0_2 a0_3 a0_4 a0_5 a0_6 a0_7 a0_8 a0_9 a0_10 a0_11 a0_12 a0_13 a0_14 a0_15 a0_16 a1) (fun j1 v => (e1 j1 v).trans ?_) j1 v
    unfold impl_CanBegin_l1
    simp only [i2] <;> rfl
  rw [e0]; unfold impl_CanBegin_u
  simp only [i1]
def impl_Eng_answer_u (k : Nat) (a0_0 : Int) (a0_1 : Int) (a0_2 : Int) (a0_3 : List (List T)) (a0_4 : Int) (a0_5 : Int) (a0_6 : Int) (a0_7 : Int) (a0_8 : Int) (a0_9 : List (List T)) (a0_10 : Int) (a0_11 : Bool) (a0_12 : Bool) (a0_13 : List (List T)) (a0_14 : List (List T)) (a0_15 : List (List T)) (a0_16 : List (List T)) (a1_0 : Int) (a1_1 : Int) (a1_2 : Int) (a1_3 : Int) (a1_4 : List (List T)) (a2_0 : Int) (a2_1 : Int) (a2_2 : List (List T)) : Option Outs :=
 chk (decide ((a0_15.length + ([[.i a2_0, .i a2_1, .r a2_2]] : List (List T)).length) * 40 ≤ 140737488355328)) <|
 bindO (evalF E P0 k N.impl_copyCmd [.v [.i a1_0, .i a1_1, .i a1_2, .i a1_3, .r a1_4]]) fun o1 =>
 bindO (evalF E P0 k N.impl_copyAns [.v [.i a2_0, .i a2_1, .r a2_2]]) fun o2 =>
 chk (decide ((a0_16.length + ([[.i (o1.t 0).asI, .i (o1.t 1).asI, .i (o1.t 2).asI, .i (o1.t 3).asI, .r (o1.t 4).asR, .i (o2.t 0).asI, .i (o2.t 1).asI, .r (o2.t 2).asR]] : List (List T)).length) * 96 ≤ 140737488355328)) <|
 some ⟨[], [[.i a0_0, .i a0_1, .i a0_2, .r a0_3, .i a0_4, .i a0_5, .i a0_6, .i a0_7, .i a0_8, .r a0_9, .i a0_10, .b a0_11, .b a0_12, .r a0_13, .r a0_14, .r (put_ (a0_15 ++ ([[.i a2_0, .i a2_1, .r a2_2]] : List (List T))) (a0_15.length + 0) 2 [.r a2_2]), .r (a0_16 ++ ([[.i (o1.t 0).asI, .i (o1.t 1).asI, .i (o1.t 2).asI, .i (o1.t 3).asI, .r (o1.t 4).asR, .i (o2.t 0).asI, .i (o2.t 1).asI, .r (o2.t 2).asR]] : List (List T)))]]⟩
theorem impl_Eng_answer_e (k : Nat) (a0_0 : Int) (a0_1 : Int) (a0_2 : Int) (a0_3 : List (List T)) (a0_4 : Int) (a0_5 : Int) (a0_6 : Int) (a0_7 : Int) (a0_8 : Int) (a0_9 : List (List T)) (a0_10 : Int) (a0_11 : Bool) (a0_12 : Bool) (a0_13 : List (List T)) (a0_14 : List (List T)) (a0_15 : List (List T)) (a0_16 : List (List T)) (a1_0 : Int) (a1_1 : Int) (a1_2 : Int) (a1_3 : Int) (a1_4 : List (List T)) (a2_0 : Int) (a2_1 : Int) (a2_2 : List (List T)) : evalF E P0 (k + 1) N.impl_Eng_answer [.p [.i a0_0, .i a0_1, .i a0_2, .r a0_3, .i a0_4, .i a0_5, .i a0_6, .i a0_7, .i a0_8, .r a0_9, .i a0_10, .b a0_11, .b a0_12, .r a0_13, .r a0_14, .r a0_15, .r a0_16], .v [.i a1_0, .i a1_1, .i a1_2, .i a1_3, .r a1_4], .v [.i a2_0, .i a2_1, .r a2_2]] = impl_Eng_answer_u k a0_0 a0_1 a0_2 a0_3 a0_4 a0_5 a0_6 a0_7 a0_8 a0_9 a0_10 a0_11 a0_12 a0_13 a0_14 a0_15 a0_16 a1_0 a1_1 a1_2 a1_3 a1_4 a2_0 a2_1 a2_2 := by kernel_rfl
def impl_Begin_u (k : Nat) (a0_0 : Int) (a0_1 : Int) (a0_2 : Int) (a0_3 : List (List T)) (a0_4 : Int) (a0_5 : Int) (a0_6 : Int) (a0_7 : Int) (a0_8 : Int) (a0_9 : List (List T)) (a0_10 : Int) (a0_11 : Bool) (a0_12 : Bool) (a0_13 : List (List T)) (a0_14 : List (List T)) (a0_15 : List (List T)) (a0_16 : List (List T)) (a1 : Int) : Option Outs :=
 bindO (evalF E P0 k N.impl_copyEng [.v [.i a0_0, .i a0_1, .i a0_2, .r a0_3, .i a0_4, .i a0_5, .i a0_6, .i a0_7, .i a0_8, .r a0_9, .i a0_10, .b a0_11, .b a0_12, .r a0_13, .r a0_14, .r a0_15, .r a0_16]]) fun o2 =>
 bindO (evalF E P0 k N.impl_CanBegin [.v [.i a0_0, .i a0_1, .i a0_2, .r a0_3, .i a0_4, .i a0_5, .i a0_6, .i a0_7, .i a0_8, .r a0_9, .i a0_10, .b a0_11, .b a0_12, .r a0_13, .r a0_14, .r a0_15, .r a0_16], .v [.i a1]]) fun o4 =>
 bif (!(o4.t 0).asB) then
  some ⟨[.i (o2.t 0).asI, .i (o2.t 1).asI, .i (o2.t 2).asI, .r (o2.t 3).asR, .i (o2.t 4).asI, .i (o2.t 5).asI, .i (o2.t 6).asI, .i (o2.t 7).asI, .i (o2.t 8).asI, .r (o2.t 9).asR, .i (o2.t 10).asI, .b (o2.t 11).asB, .b (o2.t 12).asB, .r (o2.t 13).asR, .r (o2.t 14).asR, .r (o2.t 15).asR, .r (o2.t 16).asR, .b false], []⟩
 else
  chk (decide (0 ≤ a1) && decide (a1 < ((o2.t 13).asR.length : Int))) <|
  chk (delIn (o2.t 13).asR.length a1 (IntKind.wrap .i64 (a1 + 1))) <|
  chk (decide (a1 ≤ ((a1.toNat : Nat) : Int)) && decide (((a1.toNat : Nat) : Int) < (IntKind.wrap .i64 (a1 + 1)))) <|
  bindO (evalF E P0 k N.impl_CmdCode [.v [.i a0_1, .i a0_2], .v [.i (at_ (o2.t 13).asR a1.toNat 0).asI, .i (at_ (o2.t 13).asR a1.toNat 1).asI, .i (at_ (o2.t 13).asR a1.toNat 2).asI, .i (at_ (o2.t 13).asR a1.toNat 3).asI, .r (at_ (o2.t 13).asR a1.toNat 4).asR]]) fun o6 =>
  bif ((o6.t 0).asI == 0) then
   chk (decide (((o2.t 14).asR.length + ([[.i (at_ (o2.t 13).asR a1.toNat 0).asI, .i (at_ (o2.t 13).asR a1.toNat 1).asI, .i (at_ (o2.t 13).asR a1.toNat 2).asI, .i (at_ (o2.t 13).asR a1.toNat 3).asI, .r (at_ (o2.t 13).asR a1.toNat 4).asR, .i 0, .r [], .i 0]] : List (List T)).length) * 96 ≤ 140737488355328)) <|
   some ⟨[.i (o2.t 0).asI, .i (o2.t 1).asI, .i (o2.t 2).asI, .r (o2.t 3).asR, .i (o2.t 4).asI, .i (o2.t 5).asI, .i (o2.t 6).asI, .i (o2.t 7).asI, .i (o2.t 8).asI, .r (o2.t 9).asR, .i (o2.t 10).asI, .b (o2.t 11).asB, .b (o2.t 12).asB, .r ((o2.t 13).asR.take a1.toNat ++ (o2.t 13).asR.drop (IntKind.wrap .i64 (a1 + 1)).toNat), .r ((o2.t 14).asR ++ ([[.i (at_ (o2.t 13).asR a1.toNat 0).asI, .i (at_ (o2.t 13).asR a1.toNat 1).asI, .i (at_ (o2.t 13).asR a1.toNat 2).asI, .i (at_ (o2.t 13).asR a1.toNat 3).asI, .r (at_ (o2.t 13).asR a1.toNat 4).asR, .i 0, .r [], .i 0]] : List (List T))), .r (o2.t 15).asR, .r (o2.t 16).asR, .b true], []⟩
  else
   bindO (evalF E P0 k N.impl_Eng_answer [.p [.i (o2.t 0).asI, .i (o2.t 1).asI, .i (o2.t 2).asI, .r (o2.t 3).asR, .i (o2.t 4).asI, .i (o2.t 5).asI, .i (o2.t 6).asI, .i (o2.t 7).asI, .i (o2.t 8).asI, .r (o2.t 9).asR, .i (o2.t 10).asI, .b (o2.t 11).asB, .b (o2.t 12).asB, .r ((o2.t 13).asR.take a1.toNat ++ (o2.t 13).asR.drop (IntKind.wrap .i64 (a1 + 1)).toNat), .r (o2.t 14).asR, .r (o2.t 15).asR, .r (o2.t 16).asR], .v [.i (at_ (o2.t 13).asR a1.toNat 0).asI, .i (at_ (o2.t 13).asR a1.toNat 1).asI, .i (at_ (o2.t 13).asR a1.toNat 2).asI, .i (at_ (o2.t 13).asR a1.toNat 3).asI, .r (at_ (o2.t 13).asR a1.toNat 4).asR], .v [.i (at_ (o2.t 13).asR a1.toNat 1).asI, .i (o6.t 0).asI, .r []]]) fun o8 =>
   some ⟨[.i (o8.vt 0 0).asI, .i (o8.vt 0 1).asI, .i (o8.vt 0 2).asI, .r (o8.vt 0 3).asR, .i (o8.vt 0 4).asI, .i (o8.vt 0 5).asI, .i (o8.vt 0 6).asI, .i (o8.vt 0 7).asI, .i (o8.vt 0 8).asI, .r (o8.vt 0 9).asR, .i (o8.vt 0 10).asI, .b (o8.vt 0 11).asB, .b (o8.vt 0 12).asB, .r (o8.vt 0 13).asR, .r (o8.vt 0 14).asR, .r (o8.vt 0 15).asR, .r (o8.vt 0 16).asR, .b true], []⟩
theorem impl_Begin_e (k : Nat) (a0_0 : Int) (a0_1 : Int) (a0_2 : Int) (a0_3 : List (List T)) (a0_4 : Int) (a0_5 : Int) (a0_6 : Int) (a0_7 : Int) (a0_8 : Int) (a0_9 : List (List T)) (a0_10 : Int) (a0_11 : Bool) (a0_12 : Bool) (a0_13 : List (List T)) (a0_14 : List (List T)) (a0_15 : List (List T)) (a0_16 : List (List T)) (a1 : Int) : evalF E P0 (k + 1) N.impl_Begin [.v [.i a0_0, .i a0_1, .i a0_2, .r a0_3, .i a0_4, .i a0_5, .i a0_6, .i a0_7, .i a0_8, .r a0_9, .i a0_10, .b a0_11, .b a0_12, .r a0_13, .r a0_14, .r a0_15, .r a0_16], .v [.i a1]] = impl_Begin_u k a0_0 a0_1 a0_2 a0_3 a0_4 a0_5 a0_6 a0_7 a0_8 a0_9 a0_10 a0_11 a0_12 a0_13 a0_14 a0_15 a0_16 a1 := by kernel_rfl
def laws_FnExactBegin_J3 (k : Nat) (o10 : Outs) (o21 : Outs) (c3 : Bool) : Option Outs :=
 bif c3 then
  some ⟨[.b false], []⟩
 else
  bindO (evalF E P0 k N.laws_heldEng [.v [.i (o10.t 0).asI, .i (o10.t 1).asI, .i (o10.t 2).asI, .r (o21.vt 0 3).asR, .i (o10.t 4).asI, .i (o10.t 5).asI, .i (o10.t 6).asI, .i (o10.t 7).asI, .i (o10.t 8).asI, .r (o21.vt 0 9).asR, .i (o10.t 10).asI, .b (o10.t 11).asB, .b (o10.t 12).asB, .r (o21.vt 0 13).asR, .r (o21.vt 0 14).asR, .r (o21.vt 0 15).asR, .r (o21.vt 0 16).asR], .v [.i 1]]) fun o31 =>
  bif (decide ((o31.t 0).asI < 0)) then
   some ⟨[.b false], []⟩
  else
   bif ((o31.t 0).asI != (o21.t 0).asI) then some ⟨[.b false], []⟩ else some ⟨[.b true], []⟩
def laws_FnExactBegin_J2 (k : Nat) (a0_0 : Int) (a0_1 : Int) (a0_2 : Int) (a0_3 : List (List T)) (a0_4 : Int) (a0_5 : Int) (a0_6 : Int) (a0_7 : Int) (a0_8 : Int) (a0_9 : List (List T)) (a0_10 : Int) (a0_11 : Bool) (a0_12 : Bool) (a0_13 : List (List T)) (a0_14 : List (List T)) (a0_15 : List (List T)) (a0_16 : List (List T)) (a1 : Int) (o6 : Outs) (o10 : Outs) (c2 : Bool) : Option Outs :=
 bif c2 then
  some ⟨[.b false], []⟩
 else
  bindO (evalF E P0 k N.laws_markEng [.s [.i (o10.t 0).asI, .i (o10.t 1).asI, .i (o10.t 2).asI, .r (o10.t 3).asR, .i (o10.t 4).asI, .i (o10.t 5).asI, .i (o10.t 6).asI, .i (o10.t 7).asI, .i (o10.t 8).asI, .r (o10.t 9).asR, .i (o10.t 10).asI, .b (o10.t 11).asB, .b (o10.t 12).asB, .r (o10.t 13).asR, .r (o10.t 14).asR, .r (o10.t 15).asR, .r (o10.t 16).asR], .v [.i 1]]) fun o21 =>
  bindO (evalF E P0 k N.laws_heldEng [.v [.i (o10.t 0).asI, .i (o10.t 1).asI, .i (o10.t 2).asI, .r (o21.vt 0 3).asR, .i (o10.t 4).asI, .i (o10.t 5).asI, .i (o10.t 6).asI, .i (o10.t 7).asI, .i (o10.t 8).asI, .r (o21.vt 0 9).asR, .i (o10.t 10).asI, .b (o10.t 11).asB, .b (o10.t 12).asB, .r (o21.vt 0 13).asR, .r (o21.vt 0 14).asR, .r (o21.vt 0 15).asR, .r (o21.vt 0 16).asR], .v [.i 1]]) fun o23 =>
  bif (decide ((o23.t 0).asI < 0)) then
   some ⟨[.b false], []⟩
  else
   bif ((o23.t 0).asI != (o21.t 0).asI) then
    some ⟨[.b false], []⟩
   else
    bindO (evalF E P0 k N.laws_toEng [.v [.i a0_0, .i a0_1, .i a0_2, .r a0_3, .i a0_4, .i a0_5, .i a0_6, .i a0_7, .i a0_8, .r a0_9, .i a0_10, .b a0_11, .b a0_12, .r a0_13, .r a0_14, .r a0_15, .r a0_16]]) fun o26 =>
    bindO (evalF E P0 k N.impl_Begin [.v [.i (o26.t 0).asI, .i (o26.t 1).asI, .i (o26.t 2).asI, .r (o26.t 3).asR, .i (o26.t 4).asI, .i (o26.t 5).asI, .i (o26.t 6).asI, .i (o26.t 7).asI, .i (o26.t 8).asI, .r (o26.t 9).asR, .i (o26.t 10).asI, .b (o26.t 11).asB, .b (o26.t 12).asB, .r (o26.t 13).asR, .r (o26.t 14).asR, .r (o26.t 15).asR, .r (o26.t 16).asR], .v [.i a1]]) fun o27 =>
    bindO (evalF E P0 k N.laws_eqEng [.v [.i (o27.t 0).asI, .i (o27.t 1).asI, .i (o27.t 2).asI, .r (o27.t 3).asR, .i (o27.t 4).asI, .i (o27.t 5).asI, .i (o27.t 6).asI, .i (o27.t 7).asI, .i (o27.t 8).asI, .r (o27.t 9).asR, .i (o27.t 10).asI, .b (o27.t 11).asB, .b (o27.t 12).asB, .r (o27.t 13).asR, .r (o27.t 14).asR, .r (o27.t 15).asR, .r (o27.t 16).asR], .v [.i (o6.t 0).asI, .i (o6.t 1).asI, .i (o6.t 2).asI, .r (o6.t 3).asR, .i (o6.t 4).asI, .i (o6.t 5).asI, .i (o6.t 6).asI, .i (o6.t 7).asI, .i (o6.t 8).asI, .r (o6.t 9).asR, .i (o6.t 10).asI, .b (o6.t 11).asB, .b (o6.t 12).asB, .r (o6.t 13).asR, .r (o6.t 14).asR, .r (o6.t 15).asR, .r (o6.t 16).asR]]) fun o29 =>
    bif (!(o29.t 0).asB) then
     laws_FnExactBegin_J3 k o10 o21 true
    else
     laws_FnExactBegin_J3 k o10 o21 (!((o27.t 17).asB == (o6.t 17).asB))
def laws_FnExactBegin_J1 (k : Nat) (a0_0 : Int) (a0_1 : Int) (a0_2 : Int) (a0_3 : List (List T)) (a0_4 : Int) (a0_5 : Int) (a0_6 : Int) (a0_7 : Int) (a0_8 : Int) (a0_9 : List (List T)) (a0_10 : Int) (a0_11 : Bool) (a0_12 : Bool) (a0_13 : List (List T)) (a0_14 : List (List T)) (a0_15 : List (List T)) (a0_16 : List (List T)) (a1 : Int) (o6 : Outs) (o8 : Outs) (o10 : Outs) (c1 : Bool) : Option Outs :=
 bif c1 then
  some ⟨[.b false], []⟩
 else
  bindO (evalF E P0 k N.laws_toEng [.v [.i a0_0, .i a0_1, .i a0_2, .r a0_3, .i a0_4, .i a0_5, .i a0_6, .i a0_7, .i a0_8, .r a0_9, .i a0_10, .b a0_11, .b a0_12, .r a0_13, .r a0_14, .r a0_15, .r a0_16]]) fun o15 =>
  bindO (evalF E P0 k N.laws_eqEng [.v [.i (o8.t 0).asI, .i (o8.t 1).asI, .i (o8.t 2).asI, .r (o8.t 3).asR, .i (o8.t 4).asI, .i (o8.t 5).asI, .i (o8.t 6).asI, .i (o8.t 7).asI, .i (o8.t 8).asI, .r (o8.t 9).asR, .i (o8.t 10).asI, .b (o8.t 11).asB, .b (o8.t 12).asB, .r (o8.t 13).asR, .r (o8.t 14).asR, .r (o8.t 15).asR, .r (o8.t 16).asR], .v [.i (o15.t 0).asI, .i (o15.t 1).asI, .i (o15.t 2).asI, .r (o15.t 3).asR, .i (o15.t 4).asI, .i (o15.t 5).asI, .i (o15.t 6).asI, .i (o15.t 7).asI, .i (o15.t 8).asI, .r (o15.t 9).asR, .i (o15.t 10).asI, .b (o15.t 11).asB, .b (o15.t 12).asB, .r (o15.t 13).asR, .r (o15.t 14).asR, .r (o15.t 15).asR, .r (o15.t 16).asR]]) fun o16 =>
  bif (!(o16.t 0).asB) then
   some ⟨[.b false], []⟩
  else
   bindO (evalF E P0 k N.laws_markEng [.s [.i (o8.t 0).asI, .i (o8.t 1).asI, .i (o8.t 2).asI, .r (o8.t 3).asR, .i (o8.t 4).asI, .i (o8.t 5).asI, .i (o8.t 6).asI, .i (o8.t 7).asI, .i (o8.t 8).asI, .r (o8.t 9).asR, .i (o8.t 10).asI, .b (o8.t 11).asB, .b (o8.t 12).asB, .r (o8.t 13).asR, .r (o8.t 14).asR, .r (o8.t 15).asR, .r (o8.t 16).asR], .v [.i 1]]) fun o18 =>
   bif (decide ((o18.t 0).asI < 0)) then
    laws_FnExactBegin_J2 k a0_0 a0_1 a0_2 a0_3 a0_4 a0_5 a0_6 a0_7 a0_8 a0_9 a0_10 a0_11 a0_12 a0_13 a0_14 a0_15 a0_16 a1 o6 o10 true
   else
    bindO (evalF E P0 k N.laws_eqEng [.v [.i (o10.t 0).asI, .i (o10.t 1).asI, .i (o10.t 2).asI, .r (o10.t 3).asR, .i (o10.t 4).asI, .i (o10.t 5).asI, .i (o10.t 6).asI, .i (o10.t 7).asI, .i (o10.t 8).asI, .r (o10.t 9).asR, .i (o10.t 10).asI, .b (o10.t 11).asB, .b (o10.t 12).asB, .r (o10.t 13).asR, .r (o10.t 14).asR, .r (o10.t 15).asR, .r (o10.t 16).asR], .v [.i (o6.t 0).asI, .i (o6.t 1).asI, .i (o6.t 2).asI, .r (o6.t 3).asR, .i (o6.t 4).asI, .i (o6.t 5).asI, .i (o6.t 6).asI, .i (o6.t 7).asI, .i (o6.t 8).asI, .r (o6.t 9).asR, .i (o6.t 10).asI, .b (o6.t 11).asB, .b (o6.t 12).asB, .r (o6.t 13).asR, .r (o6.t 14).asR, .r (o6.t 15).asR, .r (o6.t 16).asR]]) fun o32 =>
    bif (!(o32.t 0).asB) then
     laws_FnExactBegin_J2 k a0_0 a0_1 a0_2 a0_3 a0_4 a0_5 a0_6 a0_7 a0_8 a0_9 a0_10 a0_11 a0_12 a0_13 a0_14 a0_15 a0_16 a1 o6 o10 true
    else
     laws_FnExactBegin_J2 k a0_0 a0_1 a0_2 a0_3 a0_4 a0_5 a0_6 a0_7 a0_8 a0_9 a0_10 a0_11 a0_12 a0_13 a0_14 a0_15 a0_16 a1 o6 o10 (!((o10.t 17).asB == (o6.t 17).asB))
def laws_FnExactBegin_u (k : Nat) (a0_0 : Int) (a0_1 : Int) (a0_2 : Int) (a0_3 : List (List T)) (a0_4 : Int) (a0_5 : Int) (a0_6 : Int) (a0_7 : Int) (a0_8 : Int) (a0_9 : List (List T)) (a0_10 : Int) (a0_11 : Bool) (a0_12 : Bool) (a0_13 : List (List T)) (a0_14 : List (List T)) (a0_15 : List (List T)) (a0_16 : List (List T)) (a1 : Int) : Option Outs :=
 bindO (evalF E P0 k N.laws_szEng [.v [.i a0_0, .i a0_1, .i a0_2, .r a0_3, .i a0_4, .i a0_5, .i a0_6, .i a0_7, .i a0_8, .r a0_9, .i a0_10, .b a0_11, .b a0_12, .r a0_13, .r a0_14, .r a0_15, .r a0_16], .v [.i 1048576]]) fun o2 =>
 bif (decide ((o2.t 0).asI < 0)) then
  some ⟨[.b true], []⟩
 else
  bindO (evalF E P0 k N.laws_toEng [.v [.i a0_0, .i a0_1, .i a0_2, .r a0_3, .i a0_4, .i a0_5, .i a0_6, .i a0_7, .i a0_8, .r a0_9, .i a0_10, .b a0_11, .b a0_12, .r a0_13, .r a0_14, .r a0_15, .r a0_16]]) fun o5 =>
  bindO (evalF E P0 k N.spec_Begin [.v [.i (o5.t 0).asI, .i (o5.t 1).asI, .i (o5.t 2).asI, .r (o5.t 3).asR, .i (o5.t 4).asI, .i (o5.t 5).asI, .i (o5.t 6).asI, .i (o5.t 7).asI, .i (o5.t 8).asI, .r (o5.t 9).asR, .i (o5.t 10).asI, .b (o5.t 11).asB, .b (o5.t 12).asB, .r (o5.t 13).asR, .r (o5.t 14).asR, .r (o5.t 15).asR, .r (o5.t 16).asR], .v [.i a1]]) fun o6 =>
  bindO (evalF E P0 k N.laws_toEng [.v [.i a0_0, .i a0_1, .i a0_2, .r a0_3, .i a0_4, .i a0_5, .i a0_6, .i a0_7, .i a0_8, .r a0_9, .i a0_10, .b a0_11, .b a0_12, .r a0_13, .r a0_14, .r a0_15, .r a0_16]]) fun o8 =>
  bindO (evalF E P0 k N.impl_Begin [.v [.i (o8.t 0).asI, .i (o8.t 1).asI, .i (o8.t 2).asI, .r (o8.t 3).asR, .i (o8.t 4).asI, .i (o8.t 5).asI, .i (o8.t 6).asI, .i (o8.t 7).asI, .i (o8.t 8).asI, .r (o8.t 9).asR, .i (o8.t 10).asI, .b (o8.t 11).asB, .b (o8.t 12).asB, .r (o8.t 13).asR, .r (o8.t 14).asR, .r (o8.t 15).asR, .r (o8.t 16).asR], .v [.i a1]]) fun o10 =>
  bindO (evalF E P0 k N.laws_eqEng [.v [.i (o10.t 0).asI, .i (o10.t 1).asI, .i (o10.t 2).asI, .r (o10.t 3).asR, .i (o10.t 4).asI, .i (o10.t 5).asI, .i (o10.t 6).asI, .i (o10.t 7).asI, .i (o10.t 8).asI, .r (o10.t 9).asR, .i (o10.t 10).asI, .b (o10.t 11).asB, .b (o10.t 12).asB, .r (o10.t 13).asR, .r (o10.t 14).asR, .r (o10.t 15).asR, .r (o10.t 16).asR], .v [.i (o6.t 0).asI, .i (o6.t 1).asI, .i (o6.t 2).asI, .r (o6.t 3).asR, .i (o6.t 4).asI, .i (o6.t 5).asI, .i (o6.t 6).asI, .i (o6.t 7).asI, .i (o6.t 8).asI, .r (o6.t 9).asR, .i (o6.t 10).asI, .b (o6.t 11).asB, .b (o6.t 12).asB, .r (o6.t 13).asR, .r (o6.t 14).asR, .r (o6.t 15).asR, .r (o6.t 16).asR]]) fun o12 =>
  bif (!(o12.t 0).asB) then
   laws_FnExactBegin_J1 k a0_0 a0_1 a0_2 a0_3 a0_4 a0_5 a0_6 a0_7 a0_8 a0_9 a0_10 a0_11 a0_12 a0_13 a0_14 a0_15 a0_16 a1 o6 o8 o10 true
  else
   laws_FnExactBegin_J1 k a0_0 a0_1 a0_2 a0_3 a0_4 a0_5 a0_6 a0_7 a0_8 a0_9 a0_10 a0_11 a0_12 a0_13 a0_14 a0_15 a0_16 a1 o6 o8 o10 (!((o10.t 17).asB == (o6.t 17).asB))
theorem laws_FnExactBegin_e (k : Nat) (a0_0 : Int) (a0_1 : Int) (a0_2 : Int) (a0_3 : List (List T)) (a0_4 : Int) (a0_5 : Int) (a0_6 : Int) (a0_7 : Int) (a0_8 : Int) (a0_9 : List (List T)) (a0_10 : Int) (a0_11 : Bool) (a0_12 : Bool) (a0_13 : List (List T)) (a0_14 : List (List T)) (a0_15 : List (List T)) (a0_16 : List (List T)) (a1 : Int) : evalF E P0 (k + 1) N.laws_FnExactBegin [.v [.i a0_0, .i a0_1, .i a0_2, .r a0_3, .i a0_4, .i a0_5, .i a0_6, .i a0_7, .i a0_8, .r a0_9, .i a0_10, .b a0_11, .b a0_12, .r a0_13, .r a0_14, .r a0_15, .r a0_16], .v [.i a1]] = laws_FnExactBegin_u k a0_0 a0_1 a0_2 a0_3 a0_4 a0_5 a0_6 a0_7 a0_8 a0_9 a0_10 a0_11 a0_12 a0_13 a0_14 a0_15 a0_16 a1 := by kernel_rfl
end
end Go.Proofs.YtjgmiilapnekfaaGreat.Ev
