/- What functions answer under the evaluator, as Lean terms, part 0: what FnExactBegin needs. No condition. -/
import Derived.Test.YtjgmiilapnekfaaGreatTab
namespace Go.Proofs.YtjgmiilapnekfaaGreat.Ev
open Go Go.Proofs
set_option linter.unusedVariables false
set_option maxRecDepth 100000
set_option maxHeartbeats 4000000
noncomputable section
def laws_szIntS_u (k : Nat) (a0 : List (List T)) (a1 : Int) : Option Outs :=
 bif (decide ((IntKind.wrap .i64 (a1 - (a0.length : Int))) < 0)) then
  some ⟨[.i (-1)], []⟩
 else
  some ⟨[.i (IntKind.wrap .i64 (a1 - (a0.length : Int)))], []⟩
theorem laws_szIntS_e (k : Nat) (a0 : List (List T)) (a1 : Int) : evalF E P0 (k + 1) N.laws_szIntS [.v [.r a0], .v [.i a1]] = laws_szIntS_u k a0 a1 := by kernel_rfl
def laws_szIntSS_L1 (k : Nat) (a0 : List (List T)) (G1 : (Int × Int) → Option Outs) : (Int × Int) → Option Outs := fun (v15, v16) =>
 bif (decide (v16 < (a0.length : Int))) then
  chk (decide (0 ≤ v16) && decide (v16 < (a0.length : Int))) <|
  bindO (evalF E P0 k N.laws_szIntS [.v [.r (at_ a0 v16.toNat 0).asR], .v [.i v15]]) fun o96 =>
  bif (decide ((o96.t 0).asI < 0)) then some ⟨[.i (-1)], []⟩ else G1 ((o96.t 0).asI, (IntKind.wrap .i64 (v16 + 1)))
 else
  some ⟨[.i v15], []⟩
def laws_szIntSS_k1 : List Nat := [0, 1, 4, 5, 26]
def laws_szIntSS_S1 (a0 : List (List T)) : (Int × Int) → St := fun (v15, v16) => ⟨ofSl [(0, .sl 34 a0), (1, .i .i64 v15), (4, .i .i64 0), (5, .i .i64 v16), (26, .skip)], ofMem []⟩
def laws_szIntSS_l1 (k : Nat) (a0 : List (List T)) (G1 : (Int × Int) → Option Outs) : (Int × Int) → Option Outs :=
  laws_szIntSS_L1 k a0 G1
def laws_szIntSS_U (k : Nat) (a0 : List (List T)) (a1 : Int) (R1 : (Int × Int) → Option Outs) : Option Outs :=
 bif (decide ((IntKind.wrap .i64 (a1 - (a0.length : Int))) < 0)) then
  some ⟨[.i (-1)], []⟩
 else
  R1 ((IntKind.wrap .i64 (a1 - (a0.length : Int))), 0)
def laws_szIntSS_u (k : Nat) (a0 : List (List T)) (a1 : Int) : Option Outs :=
  laws_szIntSS_U k a0 a1 (fun v => fixN (laws_szIntSS_l1 k a0) k v)
def laws_szIntSS_it1 (k : Nat) (a0 : List (List T)) (a1 : Int) (js : List Nat) (j : Nat) (s : St) : Option Outs := iter E (LB E (evalF E P0 k) k [] N.laws_szIntSS [.sr, .sr, .sr, .sl, .sr, .bl]) [] laws_szIntSS_k1 (LK E (evalF E P0 k) k [] N.laws_szIntSS [.v [.r a0], .v [.i a1]] [.sr, .sr, .sr, .sl, .sr, .bl] js) j s
theorem laws_szIntSS_e (k : Nat) (a0 : List (List T)) (a1 : Int) : evalF E P0 (k + 1) N.laws_szIntSS [.v [.r a0], .v [.i a1]] = laws_szIntSS_u k a0 a1 := by
  have e0 : evalF E P0 (k + 1) N.laws_szIntSS [.v [.r a0], .v [.i a1]] = laws_szIntSS_U k a0 a1 (fun v => laws_szIntSS_it1 k a0 a1 [] k (laws_szIntSS_S1 a0 v)) := by kernel_rfl
  have e1 : ∀ (j1 : Nat) (v : Int × Int), laws_szIntSS_it1 k a0 a1 [] (j1 + 1) (laws_szIntSS_S1 a0 v) = laws_szIntSS_L1 k a0 (fun v => laws_szIntSS_it1 k a0 a1 [] j1 (laws_szIntSS_S1 a0 v)) v := by
    intro j1 v; kernel_rfl
  have i1 : ∀ (j1 : Nat) (v : Int × Int), laws_szIntSS_it1 k a0 a1 [] j1 (laws_szIntSS_S1 a0 v) = fixN (laws_szIntSS_l1 k a0) j1 v := by
    intro j1 v
    refine iter_fix (laws_szIntSS_S1 a0) (laws_szIntSS_l1 k a0) (fun j1 v => (e1 j1 v).trans ?_) j1 v
    unfold laws_szIntSS_l1
    rfl
  rw [e0]; unfold laws_szIntSS_u
  simp only [i1]
def laws_szWr_u (k : Nat) (a0_0 : Int) (a0_1 : List (List T)) (a1 : Int) : Option Outs :=
 bindO (evalF E P0 k N.laws_szIntS [.v [.r a0_1], .v [.i a1]]) fun o2 =>
 bif (decide ((o2.t 0).asI < 0)) then some ⟨[.i (-1)], []⟩ else some ⟨[.i (o2.t 0).asI], []⟩
theorem laws_szWr_e (k : Nat) (a0_0 : Int) (a0_1 : List (List T)) (a1 : Int) : evalF E P0 (k + 1) N.laws_szWr [.v [.i a0_0, .r a0_1], .v [.i a1]] = laws_szWr_u k a0_0 a0_1 a1 := by kernel_rfl
def laws_szWrS_L1 (k : Nat) (a0 : List (List T)) (G1 : (Int × Int) → Option Outs) : (Int × Int) → Option Outs := fun (v15, v16) =>
 bif (decide (v16 < (a0.length : Int))) then
  chk (decide (0 ≤ v16) && decide (v16 < (a0.length : Int))) <|
  bindO (evalF E P0 k N.laws_szWr [.v [.i (at_ a0 v16.toNat 0).asI, .r (at_ a0 v16.toNat 1).asR], .v [.i v15]]) fun o96 =>
  bif (decide ((o96.t 0).asI < 0)) then some ⟨[.i (-1)], []⟩ else G1 ((o96.t 0).asI, (IntKind.wrap .i64 (v16 + 1)))
 else
  some ⟨[.i v15], []⟩
def laws_szWrS_k1 : List Nat := [0, 1, 4, 5, 26]
def laws_szWrS_S1 (a0 : List (List T)) : (Int × Int) → St := fun (v15, v16) => ⟨ofSl [(0, .sl 199 a0), (1, .i .i64 v15), (4, .i .i64 0), (5, .i .i64 v16), (26, .skip)], ofMem []⟩
def laws_szWrS_l1 (k : Nat) (a0 : List (List T)) (G1 : (Int × Int) → Option Outs) : (Int × Int) → Option Outs :=
  laws_szWrS_L1 k a0 G1
def laws_szWrS_U (k : Nat) (a0 : List (List T)) (a1 : Int) (R1 : (Int × Int) → Option Outs) : Option Outs :=
 bif (decide ((IntKind.wrap .i64 (a1 - (a0.length : Int))) < 0)) then
  some ⟨[.i (-1)], []⟩
 else
  R1 ((IntKind.wrap .i64 (a1 - (a0.length : Int))), 0)
def laws_szWrS_u (k : Nat) (a0 : List (List T)) (a1 : Int) : Option Outs :=
  laws_szWrS_U k a0 a1 (fun v => fixN (laws_szWrS_l1 k a0) k v)
def laws_szWrS_it1 (k : Nat) (a0 : List (List T)) (a1 : Int) (js : List Nat) (j : Nat) (s : St) : Option Outs := iter E (LB E (evalF E P0 k) k [] N.laws_szWrS [.sr, .sr, .sr, .sl, .sr, .bl]) [] laws_szWrS_k1 (LK E (evalF E P0 k) k [] N.laws_szWrS [.v [.r a0], .v [.i a1]] [.sr, .sr, .sr, .sl, .sr, .bl] js) j s
theorem laws_szWrS_e (k : Nat) (a0 : List (List T)) (a1 : Int) : evalF E P0 (k + 1) N.laws_szWrS [.v [.r a0], .v [.i a1]] = laws_szWrS_u k a0 a1 := by
  have e0 : evalF E P0 (k + 1) N.laws_szWrS [.v [.r a0], .v [.i a1]] = laws_szWrS_U k a0 a1 (fun v => laws_szWrS_it1 k a0 a1 [] k (laws_szWrS_S1 a0 v)) := by kernel_rfl
  have e1 : ∀ (j1 : Nat) (v : Int × Int), laws_szWrS_it1 k a0 a1 [] (j1 + 1) (laws_szWrS_S1 a0 v) = laws_szWrS_L1 k a0 (fun v => laws_szWrS_it1 k a0 a1 [] j1 (laws_szWrS_S1 a0 v)) v := by
    intro j1 v; kernel_rfl
  have i1 : ∀ (j1 : Nat) (v : Int × Int), laws_szWrS_it1 k a0 a1 [] j1 (laws_szWrS_S1 a0 v) = fixN (laws_szWrS_l1 k a0) j1 v := by
    intro j1 v
    refine iter_fix (laws_szWrS_S1 a0) (laws_szWrS_l1 k a0) (fun j1 v => (e1 j1 v).trans ?_) j1 v
    unfold laws_szWrS_l1
    rfl
  rw [e0]; unfold laws_szWrS_u
  simp only [i1]
def laws_szMem_u (k : Nat) (a0_0 : List (List T)) (a0_1 : List (List T)) (a0_2 : Bool) (a0_3 : List (List T)) (a1 : Int) : Option Outs :=
 bindO (evalF E P0 k N.laws_szIntSS [.v [.r a0_0], .v [.i a1]]) fun o2 =>
 bif (decide ((o2.t 0).asI < 0)) then
  some ⟨[.i (-1)], []⟩
 else
  bindO (evalF E P0 k N.laws_szWrS [.v [.r a0_1], .v [.i (o2.t 0).asI]]) fun o4 =>
  bif (decide ((o4.t 0).asI < 0)) then
   some ⟨[.i (-1)], []⟩
  else
   bindO (evalF E P0 k N.laws_szIntS [.v [.r a0_3], .v [.i (o4.t 0).asI]]) fun o6 =>
   bif (decide ((o6.t 0).asI < 0)) then some ⟨[.i (-1)], []⟩ else some ⟨[.i (o6.t 0).asI], []⟩
theorem laws_szMem_e (k : Nat) (a0_0 : List (List T)) (a0_1 : List (List T)) (a0_2 : Bool) (a0_3 : List (List T)) (a1 : Int) : evalF E P0 (k + 1) N.laws_szMem [.v [.r a0_0, .r a0_1, .b a0_2, .r a0_3], .v [.i a1]] = laws_szMem_u k a0_0 a0_1 a0_2 a0_3 a1 := by kernel_rfl
def laws_szMemS_L1 (k : Nat) (a0 : List (List T)) (G1 : (Int × Int) → Option Outs) : (Int × Int) → Option Outs := fun (v15, v16) =>
 bif (decide (v16 < (a0.length : Int))) then
  chk (decide (0 ≤ v16) && decide (v16 < (a0.length : Int))) <|
  bindO (evalF E P0 k N.laws_szMem [.v [.r (at_ a0 v16.toNat 0).asR, .r (at_ a0 v16.toNat 1).asR, .b (at_ a0 v16.toNat 2).asB, .r (at_ a0 v16.toNat 3).asR], .v [.i v15]]) fun o96 =>
  bif (decide ((o96.t 0).asI < 0)) then some ⟨[.i (-1)], []⟩ else G1 ((o96.t 0).asI, (IntKind.wrap .i64 (v16 + 1)))
 else
  some ⟨[.i v15], []⟩
def laws_szMemS_k1 : List Nat := [0, 1, 4, 5, 26]
def laws_szMemS_S1 (a0 : List (List T)) : (Int × Int) → St := fun (v15, v16) => ⟨ofSl [(0, .sl 154 a0), (1, .i .i64 v15), (4, .i .i64 0), (5, .i .i64 v16), (26, .skip)], ofMem []⟩
def laws_szMemS_l1 (k : Nat) (a0 : List (List T)) (G1 : (Int × Int) → Option Outs) : (Int × Int) → Option Outs :=
  laws_szMemS_L1 k a0 G1
def laws_szMemS_U (k : Nat) (a0 : List (List T)) (a1 : Int) (R1 : (Int × Int) → Option Outs) : Option Outs :=
 bif (decide ((IntKind.wrap .i64 (a1 - (a0.length : Int))) < 0)) then
  some ⟨[.i (-1)], []⟩
 else
  R1 ((IntKind.wrap .i64 (a1 - (a0.length : Int))), 0)
def laws_szMemS_u (k : Nat) (a0 : List (List T)) (a1 : Int) : Option Outs :=
  laws_szMemS_U k a0 a1 (fun v => fixN (laws_szMemS_l1 k a0) k v)
def laws_szMemS_it1 (k : Nat) (a0 : List (List T)) (a1 : Int) (js : List Nat) (j : Nat) (s : St) : Option Outs := iter E (LB E (evalF E P0 k) k [] N.laws_szMemS [.sr, .sr, .sr, .sl, .sr, .bl]) [] laws_szMemS_k1 (LK E (evalF E P0 k) k [] N.laws_szMemS [.v [.r a0], .v [.i a1]] [.sr, .sr, .sr, .sl, .sr, .bl] js) j s
theorem laws_szMemS_e (k : Nat) (a0 : List (List T)) (a1 : Int) : evalF E P0 (k + 1) N.laws_szMemS [.v [.r a0], .v [.i a1]] = laws_szMemS_u k a0 a1 := by
  have e0 : evalF E P0 (k + 1) N.laws_szMemS [.v [.r a0], .v [.i a1]] = laws_szMemS_U k a0 a1 (fun v => laws_szMemS_it1 k a0 a1 [] k (laws_szMemS_S1 a0 v)) := by kernel_rfl
  have e1 : ∀ (j1 : Nat) (v : Int × Int), laws_szMemS_it1 k a0 a1 [] (j1 + 1) (laws_szMemS_S1 a0 v) = laws_szMemS_L1 k a0 (fun v => laws_szMemS_it1 k a0 a1 [] j1 (laws_szMemS_S1 a0 v)) v := by
    intro j1 v; kernel_rfl
  have i1 : ∀ (j1 : Nat) (v : Int × Int), laws_szMemS_it1 k a0 a1 [] j1 (laws_szMemS_S1 a0 v) = fixN (laws_szMemS_l1 k a0) j1 v := by
    intro j1 v
    refine iter_fix (laws_szMemS_S1 a0) (laws_szMemS_l1 k a0) (fun j1 v => (e1 j1 v).trans ?_) j1 v
    unfold laws_szMemS_l1
    rfl
  rw [e0]; unfold laws_szMemS_u
  simp only [i1]
def laws_szEnt_u (k : Nat) (a0_0 : Int) (a0_1 : List (List T)) (a1 : Int) : Option Outs :=
 bindO (evalF E P0 k N.laws_szIntS [.v [.r a0_1], .v [.i a1]]) fun o2 =>
 bif (decide ((o2.t 0).asI < 0)) then some ⟨[.i (-1)], []⟩ else some ⟨[.i (o2.t 0).asI], []⟩
theorem laws_szEnt_e (k : Nat) (a0_0 : Int) (a0_1 : List (List T)) (a1 : Int) : evalF E P0 (k + 1) N.laws_szEnt [.v [.i a0_0, .r a0_1], .v [.i a1]] = laws_szEnt_u k a0_0 a0_1 a1 := by kernel_rfl
def laws_szEntS_L1 (k : Nat) (a0 : List (List T)) (G1 : (Int × Int) → Option Outs) : (Int × Int) → Option Outs := fun (v15, v16) =>
 bif (decide (v16 < (a0.length : Int))) then
  chk (decide (0 ≤ v16) && decide (v16 < (a0.length : Int))) <|
  bindO (evalF E P0 k N.laws_szEnt [.v [.i (at_ a0 v16.toNat 0).asI, .r (at_ a0 v16.toNat 1).asR], .v [.i v15]]) fun o96 =>
  bif (decide ((o96.t 0).asI < 0)) then some ⟨[.i (-1)], []⟩ else G1 ((o96.t 0).asI, (IntKind.wrap .i64 (v16 + 1)))
 else
  some ⟨[.i v15], []⟩
def laws_szEntS_k1 : List Nat := [0, 1, 4, 5, 26]
def laws_szEntS_S1 (a0 : List (List T)) : (Int × Int) → St := fun (v15, v16) => ⟨ofSl [(0, .sl 157 a0), (1, .i .i64 v15), (4, .i .i64 0), (5, .i .i64 v16), (26, .skip)], ofMem []⟩
def laws_szEntS_l1 (k : Nat) (a0 : List (List T)) (G1 : (Int × Int) → Option Outs) : (Int × Int) → Option Outs :=
  laws_szEntS_L1 k a0 G1
def laws_szEntS_U (k : Nat) (a0 : List (List T)) (a1 : Int) (R1 : (Int × Int) → Option Outs) : Option Outs :=
 bif (decide ((IntKind.wrap .i64 (a1 - (a0.length : Int))) < 0)) then
  some ⟨[.i (-1)], []⟩
 else
  R1 ((IntKind.wrap .i64 (a1 - (a0.length : Int))), 0)
def laws_szEntS_u (k : Nat) (a0 : List (List T)) (a1 : Int) : Option Outs :=
  laws_szEntS_U k a0 a1 (fun v => fixN (laws_szEntS_l1 k a0) k v)
def laws_szEntS_it1 (k : Nat) (a0 : List (List T)) (a1 : Int) (js : List Nat) (j : Nat) (s : St) : Option Outs := iter E (LB E (evalF E P0 k) k [] N.laws_szEntS [.sr, .sr, .sr, .sl, .sr, .bl]) [] laws_szEntS_k1 (LK E (evalF E P0 k) k [] N.laws_szEntS [.v [.r a0], .v [.i a1]] [.sr, .sr, .sr, .sl, .sr, .bl] js) j s
theorem laws_szEntS_e (k : Nat) (a0 : List (List T)) (a1 : Int) : evalF E P0 (k + 1) N.laws_szEntS [.v [.r a0], .v [.i a1]] = laws_szEntS_u k a0 a1 := by
  have e0 : evalF E P0 (k + 1) N.laws_szEntS [.v [.r a0], .v [.i a1]] = laws_szEntS_U k a0 a1 (fun v => laws_szEntS_it1 k a0 a1 [] k (laws_szEntS_S1 a0 v)) := by kernel_rfl
  have e1 : ∀ (j1 : Nat) (v : Int × Int), laws_szEntS_it1 k a0 a1 [] (j1 + 1) (laws_szEntS_S1 a0 v) = laws_szEntS_L1 k a0 (fun v => laws_szEntS_it1 k a0 a1 [] j1 (laws_szEntS_S1 a0 v)) v := by
    intro j1 v; kernel_rfl
  have i1 : ∀ (j1 : Nat) (v : Int × Int), laws_szEntS_it1 k a0 a1 [] j1 (laws_szEntS_S1 a0 v) = fixN (laws_szEntS_l1 k a0) j1 v := by
    intro j1 v
    refine iter_fix (laws_szEntS_S1 a0) (laws_szEntS_l1 k a0) (fun j1 v => (e1 j1 v).trans ?_) j1 v
    unfold laws_szEntS_l1
    rfl
  rw [e0]; unfold laws_szEntS_u
  simp only [i1]
def laws_szArr_u (k : Nat) (a0_0 : Int) (a0_1 : Int) (a0_2 : Int) (a0_3 : List (List T)) (a0_4 : Int) (a0_5 : Int) (a0_6 : Int) (a0_7 : Int) (a0_8 : Int) (a0_9 : List (List T)) (a0_10 : Int) (a0_11 : Bool) (a0_12 : Bool) (a1 : Int) : Option Outs :=
 bindO (evalF E P0 k N.laws_szMemS [.v [.r a0_3], .v [.i a1]]) fun o2 =>
 bif (decide ((o2.t 0).asI < 0)) then
  some ⟨[.i (-1)], []⟩
 else
  bindO (evalF E P0 k N.laws_szEntS [.v [.r a0_9], .v [.i (o2.t 0).asI]]) fun o4 =>
  bif (decide ((o4.t 0).asI < 0)) then some ⟨[.i (-1)], []⟩ else some ⟨[.i (o4.t 0).asI], []⟩
theorem laws_szArr_e (k : Nat) (a0_0 : Int) (a0_1 : Int) (a0_2 : Int) (a0_3 : List (List T)) (a0_4 : Int) (a0_5 : Int) (a0_6 : Int) (a0_7 : Int) (a0_8 : Int) (a0_9 : List (List T)) (a0_10 : Int) (a0_11 : Bool) (a0_12 : Bool) (a1 : Int) : evalF E P0 (k + 1) N.laws_szArr [.v [.i a0_0, .i a0_1, .i a0_2, .r a0_3, .i a0_4, .i a0_5, .i a0_6, .i a0_7, .i a0_8, .r a0_9, .i a0_10, .b a0_11, .b a0_12], .v [.i a1]] = laws_szArr_u k a0_0 a0_1 a0_2 a0_3 a0_4 a0_5 a0_6 a0_7 a0_8 a0_9 a0_10 a0_11 a0_12 a1 := by kernel_rfl
def laws_szCmd_u (k : Nat) (a0_0 : Int) (a0_1 : Int) (a0_2 : Int) (a0_3 : Int) (a0_4 : List (List T)) (a1 : Int) : Option Outs :=
 bindO (evalF E P0 k N.laws_szIntS [.v [.r a0_4], .v [.i a1]]) fun o2 =>
 bif (decide ((o2.t 0).asI < 0)) then some ⟨[.i (-1)], []⟩ else some ⟨[.i (o2.t 0).asI], []⟩
theorem laws_szCmd_e (k : Nat) (a0_0 : Int) (a0_1 : Int) (a0_2 : Int) (a0_3 : Int) (a0_4 : List (List T)) (a1 : Int) : evalF E P0 (k + 1) N.laws_szCmd [.v [.i a0_0, .i a0_1, .i a0_2, .i a0_3, .r a0_4], .v [.i a1]] = laws_szCmd_u k a0_0 a0_1 a0_2 a0_3 a0_4 a1 := by kernel_rfl
def laws_szCmdS_L1 (k : Nat) (a0 : List (List T)) (G1 : (Int × Int) → Option Outs) : (Int × Int) → Option Outs := fun (v15, v16) =>
 bif (decide (v16 < (a0.length : Int))) then
  chk (decide (0 ≤ v16) && decide (v16 < (a0.length : Int))) <|
  bindO (evalF E P0 k N.laws_szCmd [.v [.i (at_ a0 v16.toNat 0).asI, .i (at_ a0 v16.toNat 1).asI, .i (at_ a0 v16.toNat 2).asI, .i (at_ a0 v16.toNat 3).asI, .r (at_ a0 v16.toNat 4).asR], .v [.i v15]]) fun o96 =>
  bif (decide ((o96.t 0).asI < 0)) then some ⟨[.i (-1)], []⟩ else G1 ((o96.t 0).asI, (IntKind.wrap .i64 (v16 + 1)))
 else
  some ⟨[.i v15], []⟩
def laws_szCmdS_k1 : List Nat := [0, 1, 4, 5, 26]
def laws_szCmdS_S1 (a0 : List (List T)) : (Int × Int) → St := fun (v15, v16) => ⟨ofSl [(0, .sl 36 a0), (1, .i .i64 v15), (4, .i .i64 0), (5, .i .i64 v16), (26, .skip)], ofMem []⟩
def laws_szCmdS_l1 (k : Nat) (a0 : List (List T)) (G1 : (Int × Int) → Option Outs) : (Int × Int) → Option Outs :=
  laws_szCmdS_L1 k a0 G1
def laws_szCmdS_U (k : Nat) (a0 : List (List T)) (a1 : Int) (R1 : (Int × Int) → Option Outs) : Option Outs :=
 bif (decide ((IntKind.wrap .i64 (a1 - (a0.length : Int))) < 0)) then
  some ⟨[.i (-1)], []⟩
 else
  R1 ((IntKind.wrap .i64 (a1 - (a0.length : Int))), 0)
def laws_szCmdS_u (k : Nat) (a0 : List (List T)) (a1 : Int) : Option Outs :=
  laws_szCmdS_U k a0 a1 (fun v => fixN (laws_szCmdS_l1 k a0) k v)
def laws_szCmdS_it1 (k : Nat) (a0 : List (List T)) (a1 : Int) (js : List Nat) (j : Nat) (s : St) : Option Outs := iter E (LB E (evalF E P0 k) k [] N.laws_szCmdS [.sr, .sr, .sr, .sl, .sr, .bl]) [] laws_szCmdS_k1 (LK E (evalF E P0 k) k [] N.laws_szCmdS [.v [.r a0], .v [.i a1]] [.sr, .sr, .sr, .sl, .sr, .bl] js) j s
theorem laws_szCmdS_e (k : Nat) (a0 : List (List T)) (a1 : Int) : evalF E P0 (k + 1) N.laws_szCmdS [.v [.r a0], .v [.i a1]] = laws_szCmdS_u k a0 a1 := by
  have e0 : evalF E P0 (k + 1) N.laws_szCmdS [.v [.r a0], .v [.i a1]] = laws_szCmdS_U k a0 a1 (fun v => laws_szCmdS_it1 k a0 a1 [] k (laws_szCmdS_S1 a0 v)) := by kernel_rfl
  have e1 : ∀ (j1 : Nat) (v : Int × Int), laws_szCmdS_it1 k a0 a1 [] (j1 + 1) (laws_szCmdS_S1 a0 v) = laws_szCmdS_L1 k a0 (fun v => laws_szCmdS_it1 k a0 a1 [] j1 (laws_szCmdS_S1 a0 v)) v := by
    intro j1 v; kernel_rfl
  have i1 : ∀ (j1 : Nat) (v : Int × Int), laws_szCmdS_it1 k a0 a1 [] j1 (laws_szCmdS_S1 a0 v) = fixN (laws_szCmdS_l1 k a0) j1 v := by
    intro j1 v
    refine iter_fix (laws_szCmdS_S1 a0) (laws_szCmdS_l1 k a0) (fun j1 v => (e1 j1 v).trans ?_) j1 v
    unfold laws_szCmdS_l1
    rfl
  rw [e0]; unfold laws_szCmdS_u
  simp only [i1]
def laws_szJob_u (k : Nat) (a0_0 : Int) (a0_1 : Int) (a0_2 : Int) (a0_3 : Int) (a0_4 : List (List T)) (a0_5 : Int) (a0_6 : List (List T)) (a0_7 : Int) (a1 : Int) : Option Outs :=
 bindO (evalF E P0 k N.laws_szCmd [.v [.i a0_0, .i a0_1, .i a0_2, .i a0_3, .r a0_4], .v [.i a1]]) fun o2 =>
 bif (decide ((o2.t 0).asI < 0)) then
  some ⟨[.i (-1)], []⟩
 else
  bindO (evalF E P0 k N.laws_szIntS [.v [.r a0_6], .v [.i (o2.t 0).asI]]) fun o4 =>
  bif (decide ((o4.t 0).asI < 0)) then some ⟨[.i (-1)], []⟩ else some ⟨[.i (o4.t 0).asI], []⟩
theorem laws_szJob_e (k : Nat) (a0_0 : Int) (a0_1 : Int) (a0_2 : Int) (a0_3 : Int) (a0_4 : List (List T)) (a0_5 : Int) (a0_6 : List (List T)) (a0_7 : Int) (a1 : Int) : evalF E P0 (k + 1) N.laws_szJob [.v [.i a0_0, .i a0_1, .i a0_2, .i a0_3, .r a0_4, .i a0_5, .r a0_6, .i a0_7], .v [.i a1]] = laws_szJob_u k a0_0 a0_1 a0_2 a0_3 a0_4 a0_5 a0_6 a0_7 a1 := by kernel_rfl
def laws_szJobS_L1 (k : Nat) (a0 : List (List T)) (G1 : (Int × Int) → Option Outs) : (Int × Int) → Option Outs := fun (v15, v16) =>
 bif (decide (v16 < (a0.length : Int))) then
  chk (decide (0 ≤ v16) && decide (v16 < (a0.length : Int))) <|
  bindO (evalF E P0 k N.laws_szJob [.v [.i (at_ a0 v16.toNat 0).asI, .i (at_ a0 v16.toNat 1).asI, .i (at_ a0 v16.toNat 2).asI, .i (at_ a0 v16.toNat 3).asI, .r (at_ a0 v16.toNat 4).asR, .i (at_ a0 v16.toNat 5).asI, .r (at_ a0 v16.toNat 6).asR, .i (at_ a0 v16.toNat 7).asI], .v [.i v15]]) fun o96 =>
  bif (decide ((o96.t 0).asI < 0)) then some ⟨[.i (-1)], []⟩ else G1 ((o96.t 0).asI, (IntKind.wrap .i64 (v16 + 1)))
 else
  some ⟨[.i v15], []⟩
def laws_szJobS_k1 : List Nat := [0, 1, 4, 5, 26]
def laws_szJobS_S1 (a0 : List (List T)) : (Int × Int) → St := fun (v15, v16) => ⟨ofSl [(0, .sl 112 a0), (1, .i .i64 v15), (4, .i .i64 0), (5, .i .i64 v16), (26, .skip)], ofMem []⟩
def laws_szJobS_l1 (k : Nat) (a0 : List (List T)) (G1 : (Int × Int) → Option Outs) : (Int × Int) → Option Outs :=
  laws_szJobS_L1 k a0 G1
def laws_szJobS_U (k : Nat) (a0 : List (List T)) (a1 : Int) (R1 : (Int × Int) → Option Outs) : Option Outs :=
 bif (decide ((IntKind.wrap .i64 (a1 - (a0.length : Int))) < 0)) then
  some ⟨[.i (-1)], []⟩
 else
  R1 ((IntKind.wrap .i64 (a1 - (a0.length : Int))), 0)
def laws_szJobS_u (k : Nat) (a0 : List (List T)) (a1 : Int) : Option Outs :=
  laws_szJobS_U k a0 a1 (fun v => fixN (laws_szJobS_l1 k a0) k v)
def laws_szJobS_it1 (k : Nat) (a0 : List (List T)) (a1 : Int) (js : List Nat) (j : Nat) (s : St) : Option Outs := iter E (LB E (evalF E P0 k) k [] N.laws_szJobS [.sr, .sr, .sr, .sl, .sr, .bl]) [] laws_szJobS_k1 (LK E (evalF E P0 k) k [] N.laws_szJobS [.v [.r a0], .v [.i a1]] [.sr, .sr, .sr, .sl, .sr, .bl] js) j s
theorem laws_szJobS_e (k : Nat) (a0 : List (List T)) (a1 : Int) : evalF E P0 (k + 1) N.laws_szJobS [.v [.r a0], .v [.i a1]] = laws_szJobS_u k a0 a1 := by
  have e0 : evalF E P0 (k + 1) N.laws_szJobS [.v [.r a0], .v [.i a1]] = laws_szJobS_U k a0 a1 (fun v => laws_szJobS_it1 k a0 a1 [] k (laws_szJobS_S1 a0 v)) := by kernel_rfl
  have e1 : ∀ (j1 : Nat) (v : Int × Int), laws_szJobS_it1 k a0 a1 [] (j1 + 1) (laws_szJobS_S1 a0 v) = laws_szJobS_L1 k a0 (fun v => laws_szJobS_it1 k a0 a1 [] j1 (laws_szJobS_S1 a0 v)) v := by
    intro j1 v; kernel_rfl
  have i1 : ∀ (j1 : Nat) (v : Int × Int), laws_szJobS_it1 k a0 a1 [] j1 (laws_szJobS_S1 a0 v) = fixN (laws_szJobS_l1 k a0) j1 v := by
    intro j1 v
    refine iter_fix (laws_szJobS_S1 a0) (laws_szJobS_l1 k a0) (fun j1 v => (e1 j1 v).trans ?_) j1 v
    unfold laws_szJobS_l1
    rfl
  rw [e0]; unfold laws_szJobS_u
  simp only [i1]
def laws_szAns_u (k : Nat) (a0_0 : Int) (a0_1 : Int) (a0_2 : List (List T)) (a1 : Int) : Option Outs :=
 bindO (evalF E P0 k N.laws_szIntS [.v [.r a0_2], .v [.i a1]]) fun o2 =>
 bif (decide ((o2.t 0).asI < 0)) then some ⟨[.i (-1)], []⟩ else some ⟨[.i (o2.t 0).asI], []⟩
theorem laws_szAns_e (k : Nat) (a0_0 : Int) (a0_1 : Int) (a0_2 : List (List T)) (a1 : Int) : evalF E P0 (k + 1) N.laws_szAns [.v [.i a0_0, .i a0_1, .r a0_2], .v [.i a1]] = laws_szAns_u k a0_0 a0_1 a0_2 a1 := by kernel_rfl
def laws_szAnsS_L1 (k : Nat) (a0 : List (List T)) (G1 : (Int × Int) → Option Outs) : (Int × Int) → Option Outs := fun (v15, v16) =>
 bif (decide (v16 < (a0.length : Int))) then
  chk (decide (0 ≤ v16) && decide (v16 < (a0.length : Int))) <|
  bindO (evalF E P0 k N.laws_szAns [.v [.i (at_ a0 v16.toNat 0).asI, .i (at_ a0 v16.toNat 1).asI, .r (at_ a0 v16.toNat 2).asR], .v [.i v15]]) fun o96 =>
  bif (decide ((o96.t 0).asI < 0)) then some ⟨[.i (-1)], []⟩ else G1 ((o96.t 0).asI, (IntKind.wrap .i64 (v16 + 1)))
 else
  some ⟨[.i v15], []⟩
def laws_szAnsS_k1 : List Nat := [0, 1, 4, 5, 26]
def laws_szAnsS_S1 (a0 : List (List T)) : (Int × Int) → St := fun (v15, v16) => ⟨ofSl [(0, .sl 114 a0), (1, .i .i64 v15), (4, .i .i64 0), (5, .i .i64 v16), (26, .skip)], ofMem []⟩
def laws_szAnsS_l1 (k : Nat) (a0 : List (List T)) (G1 : (Int × Int) → Option Outs) : (Int × Int) → Option Outs :=
  laws_szAnsS_L1 k a0 G1
def laws_szAnsS_U (k : Nat) (a0 : List (List T)) (a1 : Int) (R1 : (Int × Int) → Option Outs) : Option Outs :=
 bif (decide ((IntKind.wrap .i64 (a1 - (a0.length : Int))) < 0)) then
  some ⟨[.i (-1)], []⟩
 else
  R1 ((IntKind.wrap .i64 (a1 - (a0.length : Int))), 0)
def laws_szAnsS_u (k : Nat) (a0 : List (List T)) (a1 : Int) : Option Outs :=
  laws_szAnsS_U k a0 a1 (fun v => fixN (laws_szAnsS_l1 k a0) k v)
def laws_szAnsS_it1 (k : Nat) (a0 : List (List T)) (a1 : Int) (js : List Nat) (j : Nat) (s : St) : Option Outs := iter E (LB E (evalF E P0 k) k [] N.laws_szAnsS [.sr, .sr, .sr, .sl, .sr, .bl]) [] laws_szAnsS_k1 (LK E (evalF E P0 k) k [] N.laws_szAnsS [.v [.r a0], .v [.i a1]] [.sr, .sr, .sr, .sl, .sr, .bl] js) j s
theorem laws_szAnsS_e (k : Nat) (a0 : List (List T)) (a1 : Int) : evalF E P0 (k + 1) N.laws_szAnsS [.v [.r a0], .v [.i a1]] = laws_szAnsS_u k a0 a1 := by
  have e0 : evalF E P0 (k + 1) N.laws_szAnsS [.v [.r a0], .v [.i a1]] = laws_szAnsS_U k a0 a1 (fun v => laws_szAnsS_it1 k a0 a1 [] k (laws_szAnsS_S1 a0 v)) := by kernel_rfl
  have e1 : ∀ (j1 : Nat) (v : Int × Int), laws_szAnsS_it1 k a0 a1 [] (j1 + 1) (laws_szAnsS_S1 a0 v) = laws_szAnsS_L1 k a0 (fun v => laws_szAnsS_it1 k a0 a1 [] j1 (laws_szAnsS_S1 a0 v)) v := by
    intro j1 v; kernel_rfl
  have i1 : ∀ (j1 : Nat) (v : Int × Int), laws_szAnsS_it1 k a0 a1 [] j1 (laws_szAnsS_S1 a0 v) = fixN (laws_szAnsS_l1 k a0) j1 v := by
    intro j1 v
    refine iter_fix (laws_szAnsS_S1 a0) (laws_szAnsS_l1 k a0) (fun j1 v => (e1 j1 v).trans ?_) j1 v
    unfold laws_szAnsS_l1
    rfl
  rw [e0]; unfold laws_szAnsS_u
  simp only [i1]
def laws_szTurn_u (k : Nat) (a0_0 : Int) (a0_1 : Int) (a0_2 : Int) (a0_3 : Int) (a0_4 : List (List T)) (a0_5 : Int) (a0_6 : Int) (a0_7 : List (List T)) (a1 : Int) : Option Outs :=
 bindO (evalF E P0 k N.laws_szCmd [.v [.i a0_0, .i a0_1, .i a0_2, .i a0_3, .r a0_4], .v [.i a1]]) fun o2 =>
 bif (decide ((o2.t 0).asI < 0)) then
  some ⟨[.i (-1)], []⟩
 else
  bindO (evalF E P0 k N.laws_szAns [.v [.i a0_5, .i a0_6, .r a0_7], .v [.i (o2.t 0).asI]]) fun o4 =>
  bif (decide ((o4.t 0).asI < 0)) then some ⟨[.i (-1)], []⟩ else some ⟨[.i (o4.t 0).asI], []⟩
theorem laws_szTurn_e (k : Nat) (a0_0 : Int) (a0_1 : Int) (a0_2 : Int) (a0_3 : Int) (a0_4 : List (List T)) (a0_5 : Int) (a0_6 : Int) (a0_7 : List (List T)) (a1 : Int) : evalF E P0 (k + 1) N.laws_szTurn [.v [.i a0_0, .i a0_1, .i a0_2, .i a0_3, .r a0_4, .i a0_5, .i a0_6, .r a0_7], .v [.i a1]] = laws_szTurn_u k a0_0 a0_1 a0_2 a0_3 a0_4 a0_5 a0_6 a0_7 a1 := by kernel_rfl
def laws_szTurnS_L1 (k : Nat) (a0 : List (List T)) (G1 : (Int × Int) → Option Outs) : (Int × Int) → Option Outs := fun (v15, v16) =>
 bif (decide (v16 < (a0.length : Int))) then
  chk (decide (0 ≤ v16) && decide (v16 < (a0.length : Int))) <|
  bindO (evalF E P0 k N.laws_szTurn [.v [.i (at_ a0 v16.toNat 0).asI, .i (at_ a0 v16.toNat 1).asI, .i (at_ a0 v16.toNat 2).asI, .i (at_ a0 v16.toNat 3).asI, .r (at_ a0 v16.toNat 4).asR, .i (at_ a0 v16.toNat 5).asI, .i (at_ a0 v16.toNat 6).asI, .r (at_ a0 v16.toNat 7).asR], .v [.i v15]]) fun o96 =>
  bif (decide ((o96.t 0).asI < 0)) then some ⟨[.i (-1)], []⟩ else G1 ((o96.t 0).asI, (IntKind.wrap .i64 (v16 + 1)))
 else
  some ⟨[.i v15], []⟩
def laws_szTurnS_k1 : List Nat := [0, 1, 4, 5, 26]
def laws_szTurnS_S1 (a0 : List (List T)) : (Int × Int) → St := fun (v15, v16) => ⟨ofSl [(0, .sl 117 a0), (1, .i .i64 v15), (4, .i .i64 0), (5, .i .i64 v16), (26, .skip)], ofMem []⟩
def laws_szTurnS_l1 (k : Nat) (a0 : List (List T)) (G1 : (Int × Int) → Option Outs) : (Int × Int) → Option Outs :=
  laws_szTurnS_L1 k a0 G1
def laws_szTurnS_U (k : Nat) (a0 : List (List T)) (a1 : Int) (R1 : (Int × Int) → Option Outs) : Option Outs :=
 bif (decide ((IntKind.wrap .i64 (a1 - (a0.length : Int))) < 0)) then
  some ⟨[.i (-1)], []⟩
 else
  R1 ((IntKind.wrap .i64 (a1 - (a0.length : Int))), 0)
def laws_szTurnS_u (k : Nat) (a0 : List (List T)) (a1 : Int) : Option Outs :=
  laws_szTurnS_U k a0 a1 (fun v => fixN (laws_szTurnS_l1 k a0) k v)
def laws_szTurnS_it1 (k : Nat) (a0 : List (List T)) (a1 : Int) (js : List Nat) (j : Nat) (s : St) : Option Outs := iter E (LB E (evalF E P0 k) k [] N.laws_szTurnS [.sr, .sr, .sr, .sl, .sr, .bl]) [] laws_szTurnS_k1 (LK E (evalF E P0 k) k [] N.laws_szTurnS [.v [.r a0], .v [.i a1]] [.sr, .sr, .sr, .sl, .sr, .bl] js) j s
theorem laws_szTurnS_e (k : Nat) (a0 : List (List T)) (a1 : Int) : evalF E P0 (k + 1) N.laws_szTurnS [.v [.r a0], .v [.i a1]] = laws_szTurnS_u k a0 a1 := by
  have e0 : evalF E P0 (k + 1) N.laws_szTurnS [.v [.r a0], .v [.i a1]] = laws_szTurnS_U k a0 a1 (fun v => laws_szTurnS_it1 k a0 a1 [] k (laws_szTurnS_S1 a0 v)) := by kernel_rfl
  have e1 : ∀ (j1 : Nat) (v : Int × Int), laws_szTurnS_it1 k a0 a1 [] (j1 + 1) (laws_szTurnS_S1 a0 v) = laws_szTurnS_L1 k a0 (fun v => laws_szTurnS_it1 k a0 a1 [] j1 (laws_szTurnS_S1 a0 v)) v := by
    intro j1 v; kernel_rfl
  have i1 : ∀ (j1 : Nat) (v : Int × Int), laws_szTurnS_it1 k a0 a1 [] j1 (laws_szTurnS_S1 a0 v) = fixN (laws_szTurnS_l1 k a0) j1 v := by
    intro j1 v
    refine iter_fix (laws_szTurnS_S1 a0) (laws_szTurnS_l1 k a0) (fun j1 v => (e1 j1 v).trans ?_) j1 v
    unfold laws_szTurnS_l1
    rfl
  rw [e0]; unfold laws_szTurnS_u
  simp only [i1]
def laws_szEng_u (k : Nat) (a0_0 : Int) (a0_1 : Int) (a0_2 : Int) (a0_3 : List (List T)) (a0_4 : Int) (a0_5 : Int) (a0_6 : Int) (a0_7 : Int) (a0_8 : Int) (a0_9 : List (List T)) (a0_10 : Int) (a0_11 : Bool) (a0_12 : Bool) (a0_13 : List (List T)) (a0_14 : List (List T)) (a0_15 : List (List T)) (a0_16 : List (List T)) (a1 : Int) : Option Outs :=
 bindO (evalF E P0 k N.laws_szArr [.v [.i a0_0, .i a0_1, .i a0_2, .r a0_3, .i a0_4, .i a0_5, .i a0_6, .i a0_7, .i a0_8, .r a0_9, .i a0_10, .b a0_11, .b a0_12], .v [.i a1]]) fun o2 =>
 bif (decide ((o2.t 0).asI < 0)) then
  some ⟨[.i (-1)], []⟩
 else
  bindO (evalF E P0 k N.laws_szCmdS [.v [.r a0_13], .v [.i (o2.t 0).asI]]) fun o4 =>
  bif (decide ((o4.t 0).asI < 0)) then
   some ⟨[.i (-1)], []⟩
  else
   bindO (evalF E P0 k N.laws_szJobS [.v [.r a0_14], .v [.i (o4.t 0).asI]]) fun o6 =>
   bif (decide ((o6.t 0).asI < 0)) then
    some ⟨[.i (-1)], []⟩
   else
    bindO (evalF E P0 k N.laws_szAnsS [.v [.r a0_15], .v [.i (o6.t 0).asI]]) fun o8 =>
    bif (decide ((o8.t 0).asI < 0)) then
     some ⟨[.i (-1)], []⟩
    else
     bindO (evalF E P0 k N.laws_szTurnS [.v [.r a0_16], .v [.i (o8.t 0).asI]]) fun o10 =>
     bif (decide ((o10.t 0).asI < 0)) then some ⟨[.i (-1)], []⟩ else some ⟨[.i (o10.t 0).asI], []⟩
theorem laws_szEng_e (k : Nat) (a0_0 : Int) (a0_1 : Int) (a0_2 : Int) (a0_3 : List (List T)) (a0_4 : Int) (a0_5 : Int) (a0_6 : Int) (a0_7 : Int) (a0_8 : Int) (a0_9 : List (List T)) (a0_10 : Int) (a0_11 : Bool) (a0_12 : Bool) (a0_13 : List (List T)) (a0_14 : List (List T)) (a0_15 : List (List T)) (a0_16 : List (List T)) (a1 : Int) : evalF E P0 (k + 1) N.laws_szEng [.v [.i a0_0, .i a0_1, .i a0_2, .r a0_3, .i a0_4, .i a0_5, .i a0_6, .i a0_7, .i a0_8, .r a0_9, .i a0_10, .b a0_11, .b a0_12, .r a0_13, .r a0_14, .r a0_15, .r a0_16], .v [.i a1]] = laws_szEng_u k a0_0 a0_1 a0_2 a0_3 a0_4 a0_5 a0_6 a0_7 a0_8 a0_9 a0_10 a0_11 a0_12 a0_13 a0_14 a0_15 a0_16 a1 := by kernel_rfl
def laws_toGeo_u (k : Nat) (a0_0 : Int) (a0_1 : Int) : Option Outs :=
 some ⟨[.i a0_0, .i a0_1], []⟩
theorem laws_toGeo_e (k : Nat) (a0_0 : Int) (a0_1 : Int) : evalF E P0 (k + 1) N.laws_toGeo [.v [.i a0_0, .i a0_1]] = laws_toGeo_u k a0_0 a0_1 := by kernel_rfl
def laws_toIntS_L1 (k : Nat) (a0 : List (List T)) (G1 : (Int × List (List T)) → Option Outs) : (Int × List (List T)) → Option Outs := fun (v8, w8) =>
 bif (decide (v8 < (a0.length : Int))) then
  chk (decide (0 ≤ v8) && decide (v8 < (a0.length : Int))) <|
  chk (decide (0 ≤ v8) && decide (v8 < (w8.length : Int))) <|
  G1 ((IntKind.wrap .i64 (v8 + 1)), (put_ w8 v8.toNat 0 [.i (at_ a0 v8.toNat 0).asI]))
 else
  some ⟨[.r w8], []⟩
def laws_toIntS_k1 : List Nat := [0, 2, 3, 4, 21]
def laws_toIntS_S1 (a0 : List (List T)) : (Int × List (List T)) → St := fun (v8, w8) => ⟨ofSl [(0, .sl 3 a0), (2, .ref (2, 0)), (3, .ref (3, 0)), (4, .i .i64 v8), (21, .skip)], ofMem [((2, 0), .row 3 true []), ((3, 0), .row 3 true w8)]⟩
def laws_toIntS_l1 (k : Nat) (a0 : List (List T)) (G1 : (Int × List (List T)) → Option Outs) : (Int × List (List T)) → Option Outs :=
  laws_toIntS_L1 k a0 G1
def laws_toIntS_U (k : Nat) (a0 : List (List T)) (R1 : (Int × List (List T)) → Option Outs) : Option Outs :=
 chk (decide ((a0.length : Int) = (a0.length : Int)) && decide (0 ≤ (a0.length : Int)) && decide ((a0.length : Int) * ((8 : Nat) : Int) ≤ 140737488355328)) <|
 R1 (0, (List.replicate ((a0.length : Int) : Int).toNat [.i 0]))
def laws_toIntS_u (k : Nat) (a0 : List (List T)) : Option Outs :=
  laws_toIntS_U k a0 (fun v => fixN (laws_toIntS_l1 k a0) k v)
def laws_toIntS_it1 (k : Nat) (a0 : List (List T)) (js : List Nat) (j : Nat) (s : St) : Option Outs := iter E (LB E (evalF E P0 k) k [] N.laws_toIntS [.sr, .sr, .sl, .sr, .bl]) [] laws_toIntS_k1 (LK E (evalF E P0 k) k [] N.laws_toIntS [.v [.r a0]] [.sr, .sr, .sl, .sr, .bl] js) j s
theorem laws_toIntS_e (k : Nat) (a0 : List (List T)) : evalF E P0 (k + 1) N.laws_toIntS [.v [.r a0]] = laws_toIntS_u k a0 := by
  have e0 : evalF E P0 (k + 1) N.laws_toIntS [.v [.r a0]] = laws_toIntS_U k a0 (fun v => laws_toIntS_it1 k a0 [] k (laws_toIntS_S1 a0 v)) := by kernel_rfl
  have e1 : ∀ (j1 : Nat) (v : Int × List (List T)), laws_toIntS_it1 k a0 [] (j1 + 1) (laws_toIntS_S1 a0 v) = laws_toIntS_L1 k a0 (fun v => laws_toIntS_it1 k a0 [] j1 (laws_toIntS_S1 a0 v)) v := by
    intro j1 v; kernel_rfl
  have i1 : ∀ (j1 : Nat) (v : Int × List (List T)), laws_toIntS_it1 k a0 [] j1 (laws_toIntS_S1 a0 v) = fixN (laws_toIntS_l1 k a0) j1 v := by
    intro j1 v
    refine iter_fix (laws_toIntS_S1 a0) (laws_toIntS_l1 k a0) (fun j1 v => (e1 j1 v).trans ?_) j1 v
    unfold laws_toIntS_l1
    rfl
  rw [e0]; unfold laws_toIntS_u
  simp only [i1]
def laws_toIntSS_L1 (k : Nat) (a0 : List (List T)) (G1 : (Int × List (List T)) → Option Outs) : (Int × List (List T)) → Option Outs := fun (v8, w8) =>
 bif (decide (v8 < (a0.length : Int))) then
  chk (decide (0 ≤ v8) && decide (v8 < (a0.length : Int))) <|
  bindO (evalF E P0 k N.laws_toIntS [.v [.r (at_ a0 v8.toNat 0).asR]]) fun o48 =>
  chk (decide (0 ≤ v8) && decide (v8 < (w8.length : Int))) <|
  G1 ((IntKind.wrap .i64 (v8 + 1)), (put_ w8 v8.toNat 0 [.r (o48.t 0).asR]))
 else
  some ⟨[.r w8], []⟩
def laws_toIntSS_k1 : List Nat := [0, 2, 3, 4, 22]
def laws_toIntSS_S1 (a0 : List (List T)) : (Int × List (List T)) → St := fun (v8, w8) => ⟨ofSl [(0, .sl 34 a0), (2, .ref (2, 0)), (3, .ref (3, 0)), (4, .i .i64 v8), (22, .skip)], Mem.put (ofMem [((2, 0), .deep 34 [] none), ((3, 0), .deep 34 w8 none)]) modeNm .dead⟩
def laws_toIntSS_l1 (k : Nat) (a0 : List (List T)) (G1 : (Int × List (List T)) → Option Outs) : (Int × List (List T)) → Option Outs :=
  laws_toIntSS_L1 k a0 G1
def laws_toIntSS_U (k : Nat) (a0 : List (List T)) (R1 : (Int × List (List T)) → Option Outs) : Option Outs :=
 chk (decide ((a0.length : Int) = (a0.length : Int)) && decide (0 ≤ (a0.length : Int)) && decide ((a0.length : Int) * ((24 : Nat) : Int) ≤ 140737488355328)) <|
 R1 (0, (List.replicate ((a0.length : Int) : Int).toNat [.r []]))
def laws_toIntSS_u (k : Nat) (a0 : List (List T)) : Option Outs :=
  laws_toIntSS_U k a0 (fun v => fixN (laws_toIntSS_l1 k a0) k v)
def laws_toIntSS_it1 (k : Nat) (a0 : List (List T)) (js : List Nat) (j : Nat) (s : St) : Option Outs := iter E (LB E (evalF E P0 k) k [] N.laws_toIntSS [.sr, .sr, .sl, .sr, .bl]) [] laws_toIntSS_k1 (LK E (evalF E P0 k) k [] N.laws_toIntSS [.v [.r a0]] [.sr, .sr, .sl, .sr, .bl] js) j s
theorem laws_toIntSS_e (k : Nat) (a0 : List (List T)) : evalF E P0 (k + 1) N.laws_toIntSS [.v [.r a0]] = laws_toIntSS_u k a0 := by
  have e0 : evalF E P0 (k + 1) N.laws_toIntSS [.v [.r a0]] = laws_toIntSS_U k a0 (fun v => laws_toIntSS_it1 k a0 [] k (laws_toIntSS_S1 a0 v)) := by kernel_rfl
  have e1 : ∀ (j1 : Nat) (v : Int × List (List T)), laws_toIntSS_it1 k a0 [] (j1 + 1) (laws_toIntSS_S1 a0 v) = laws_toIntSS_L1 k a0 (fun v => laws_toIntSS_it1 k a0 [] j1 (laws_toIntSS_S1 a0 v)) v := by
    intro j1 v; kernel_rfl
  have i1 : ∀ (j1 : Nat) (v : Int × List (List T)), laws_toIntSS_it1 k a0 [] j1 (laws_toIntSS_S1 a0 v) = fixN (laws_toIntSS_l1 k a0) j1 v := by
    intro j1 v
    refine iter_fix (laws_toIntSS_S1 a0) (laws_toIntSS_l1 k a0) (fun j1 v => (e1 j1 v).trans ?_) j1 v
    unfold laws_toIntSS_l1
    rfl
  rw [e0]; unfold laws_toIntSS_u
  simp only [i1]
def laws_toWr_u (k : Nat) (a0_0 : Int) (a0_1 : List (List T)) : Option Outs :=
 bindO (evalF E P0 k N.laws_toIntS [.v [.r a0_1]]) fun o2 =>
 some ⟨[.i a0_0, .r (o2.t 0).asR], []⟩
theorem laws_toWr_e (k : Nat) (a0_0 : Int) (a0_1 : List (List T)) : evalF E P0 (k + 1) N.laws_toWr [.v [.i a0_0, .r a0_1]] = laws_toWr_u k a0_0 a0_1 := by kernel_rfl
def laws_toWrS_L1 (k : Nat) (a0 : List (List T)) (G1 : (Int × List (List T)) → Option Outs) : (Int × List (List T)) → Option Outs := fun (v8, w8) =>
 bif (decide (v8 < (a0.length : Int))) then
  chk (decide (0 ≤ v8) && decide (v8 < (a0.length : Int))) <|
  bindO (evalF E P0 k N.laws_toWr [.v [.i (at_ a0 v8.toNat 0).asI, .r (at_ a0 v8.toNat 1).asR]]) fun o48 =>
  chk (decide (0 ≤ v8) && decide (v8 < (w8.length : Int))) <|
  G1 ((IntKind.wrap .i64 (v8 + 1)), (put_ w8 v8.toNat 0 [.i (o48.t 0).asI, .r (o48.t 1).asR]))
 else
  some ⟨[.r w8], []⟩
def laws_toWrS_k1 : List Nat := [0, 2, 3, 4, 22]
def laws_toWrS_S1 (a0 : List (List T)) : (Int × List (List T)) → St := fun (v8, w8) => ⟨ofSl [(0, .sl 199 a0), (2, .ref (2, 0)), (3, .ref (3, 0)), (4, .i .i64 v8), (22, .skip)], Mem.put (ofMem [((2, 0), .deep 184 [] none), ((3, 0), .deep 184 w8 none)]) modeNm .dead⟩
def laws_toWrS_l1 (k : Nat) (a0 : List (List T)) (G1 : (Int × List (List T)) → Option Outs) : (Int × List (List T)) → Option Outs :=
  laws_toWrS_L1 k a0 G1
def laws_toWrS_U (k : Nat) (a0 : List (List T)) (R1 : (Int × List (List T)) → Option Outs) : Option Outs :=
 chk (decide ((a0.length : Int) = (a0.length : Int)) && decide (0 ≤ (a0.length : Int)) && decide ((a0.length : Int) * ((32 : Nat) : Int) ≤ 140737488355328)) <|
 R1 (0, (List.replicate ((a0.length : Int) : Int).toNat [.i 0, .r []]))
def laws_toWrS_u (k : Nat) (a0 : List (List T)) : Option Outs :=
  laws_toWrS_U k a0 (fun v => fixN (laws_toWrS_l1 k a0) k v)
def laws_toWrS_it1 (k : Nat) (a0 : List (List T)) (js : List Nat) (j : Nat) (s : St) : Option Outs := iter E (LB E (evalF E P0 k) k [] N.laws_toWrS [.sr, .sr, .sl, .sr, .bl]) [] laws_toWrS_k1 (LK E (evalF E P0 k) k [] N.laws_toWrS [.v [.r a0]] [.sr, .sr, .sl, .sr, .bl] js) j s
theorem laws_toWrS_e (k : Nat) (a0 : List (List T)) : evalF E P0 (k + 1) N.laws_toWrS [.v [.r a0]] = laws_toWrS_u k a0 := by
  have e0 : evalF E P0 (k + 1) N.laws_toWrS [.v [.r a0]] = laws_toWrS_U k a0 (fun v => laws_toWrS_it1 k a0 [] k (laws_toWrS_S1 a0 v)) := by kernel_rfl
  have e1 : ∀ (j1 : Nat) (v : Int × List (List T)), laws_toWrS_it1 k a0 [] (j1 + 1) (laws_toWrS_S1 a0 v) = laws_toWrS_L1 k a0 (fun v => laws_toWrS_it1 k a0 [] j1 (laws_toWrS_S1 a0 v)) v := by
    intro j1 v; kernel_rfl
  have i1 : ∀ (j1 : Nat) (v : Int × List (List T)), laws_toWrS_it1 k a0 [] j1 (laws_toWrS_S1 a0 v) = fixN (laws_toWrS_l1 k a0) j1 v := by
    intro j1 v
    refine iter_fix (laws_toWrS_S1 a0) (laws_toWrS_l1 k a0) (fun j1 v => (e1 j1 v).trans ?_) j1 v
    unfold laws_toWrS_l1
    rfl
  rw [e0]; unfold laws_toWrS_u
  simp only [i1]
def laws_toMem_u (k : Nat) (a0_0 : List (List T)) (a0_1 : List (List T)) (a0_2 : Bool) (a0_3 : List (List T)) : Option Outs :=
 bindO (evalF E P0 k N.laws_toIntSS [.v [.r a0_0]]) fun o2 =>
 bindO (evalF E P0 k N.laws_toWrS [.v [.r a0_1]]) fun o4 =>
 bindO (evalF E P0 k N.laws_toIntS [.v [.r a0_3]]) fun o6 =>
 some ⟨[.r (o2.t 0).asR, .r (o4.t 0).asR, .b a0_2, .r (o6.t 0).asR], []⟩
theorem laws_toMem_e (k : Nat) (a0_0 : List (List T)) (a0_1 : List (List T)) (a0_2 : Bool) (a0_3 : List (List T)) : evalF E P0 (k + 1) N.laws_toMem [.v [.r a0_0, .r a0_1, .b a0_2, .r a0_3]] = laws_toMem_u k a0_0 a0_1 a0_2 a0_3 := by kernel_rfl
def laws_toMemS_L1 (k : Nat) (a0 : List (List T)) (G1 : (Int × List (List T)) → Option Outs) : (Int × List (List T)) → Option Outs := fun (v8, w8) =>
 bif (decide (v8 < (a0.length : Int))) then
  chk (decide (0 ≤ v8) && decide (v8 < (a0.length : Int))) <|
  bindO (evalF E P0 k N.laws_toMem [.v [.r (at_ a0 v8.toNat 0).asR, .r (at_ a0 v8.toNat 1).asR, .b (at_ a0 v8.toNat 2).asB, .r (at_ a0 v8.toNat 3).asR]]) fun o48 =>
  chk (decide (0 ≤ v8) && decide (v8 < (w8.length : Int))) <|
  G1 ((IntKind.wrap .i64 (v8 + 1)), (put_ w8 v8.toNat 0 [.r (o48.t 0).asR, .r (o48.t 1).asR, .b (o48.t 2).asB, .r (o48.t 3).asR]))
 else
  some ⟨[.r w8], []⟩
def laws_toMemS_k1 : List Nat := [0, 2, 3, 4, 22]
def laws_toMemS_S1 (a0 : List (List T)) : (Int × List (List T)) → St := fun (v8, w8) => ⟨ofSl [(0, .sl 154 a0), (2, .ref (2, 0)), (3, .ref (3, 0)), (4, .i .i64 v8), (22, .skip)], Mem.put (ofMem [((2, 0), .deep 160 [] none), ((3, 0), .deep 160 w8 none)]) modeNm .dead⟩
def laws_toMemS_l1 (k : Nat) (a0 : List (List T)) (G1 : (Int × List (List T)) → Option Outs) : (Int × List (List T)) → Option Outs :=
  laws_toMemS_L1 k a0 G1
def laws_toMemS_U (k : Nat) (a0 : List (List T)) (R1 : (Int × List (List T)) → Option Outs) : Option Outs :=
 chk (decide ((a0.length : Int) = (a0.length : Int)) && decide (0 ≤ (a0.length : Int)) && decide ((a0.length : Int) * ((80 : Nat) : Int) ≤ 140737488355328)) <|
 R1 (0, (List.replicate ((a0.length : Int) : Int).toNat [.r [], .r [], .b false, .r []]))
def laws_toMemS_u (k : Nat) (a0 : List (List T)) : Option Outs :=
  laws_toMemS_U k a0 (fun v => fixN (laws_toMemS_l1 k a0) k v)
def laws_toMemS_it1 (k : Nat) (a0 : List (List T)) (js : List Nat) (j : Nat) (s : St) : Option Outs := iter E (LB E (evalF E P0 k) k [] N.laws_toMemS [.sr, .sr, .sl, .sr, .bl]) [] laws_toMemS_k1 (LK E (evalF E P0 k) k [] N.laws_toMemS [.v [.r a0]] [.sr, .sr, .sl, .sr, .bl] js) j s
theorem laws_toMemS_e (k : Nat) (a0 : List (List T)) : evalF E P0 (k + 1) N.laws_toMemS [.v [.r a0]] = laws_toMemS_u k a0 := by
  have e0 : evalF E P0 (k + 1) N.laws_toMemS [.v [.r a0]] = laws_toMemS_U k a0 (fun v => laws_toMemS_it1 k a0 [] k (laws_toMemS_S1 a0 v)) := by kernel_rfl
  have e1 : ∀ (j1 : Nat) (v : Int × List (List T)), laws_toMemS_it1 k a0 [] (j1 + 1) (laws_toMemS_S1 a0 v) = laws_toMemS_L1 k a0 (fun v => laws_toMemS_it1 k a0 [] j1 (laws_toMemS_S1 a0 v)) v := by
    intro j1 v; kernel_rfl
  have i1 : ∀ (j1 : Nat) (v : Int × List (List T)), laws_toMemS_it1 k a0 [] j1 (laws_toMemS_S1 a0 v) = fixN (laws_toMemS_l1 k a0) j1 v := by
    intro j1 v
    refine iter_fix (laws_toMemS_S1 a0) (laws_toMemS_l1 k a0) (fun j1 v => (e1 j1 v).trans ?_) j1 v
    unfold laws_toMemS_l1
    rfl
  rw [e0]; unfold laws_toMemS_u
  simp only [i1]
def laws_toEnt_u (k : Nat) (a0_0 : Int) (a0_1 : List (List T)) : Option Outs :=
 bindO (evalF E P0 k N.laws_toIntS [.v [.r a0_1]]) fun o2 =>
 some ⟨[.i a0_0, .r (o2.t 0).asR], []⟩
theorem laws_toEnt_e (k : Nat) (a0_0 : Int) (a0_1 : List (List T)) : evalF E P0 (k + 1) N.laws_toEnt [.v [.i a0_0, .r a0_1]] = laws_toEnt_u k a0_0 a0_1 := by kernel_rfl
def laws_toEntS_L1 (k : Nat) (a0 : List (List T)) (G1 : (Int × List (List T)) → Option Outs) : (Int × List (List T)) → Option Outs := fun (v8, w8) =>
 bif (decide (v8 < (a0.length : Int))) then
  chk (decide (0 ≤ v8) && decide (v8 < (a0.length : Int))) <|
  bindO (evalF E P0 k N.laws_toEnt [.v [.i (at_ a0 v8.toNat 0).asI, .r (at_ a0 v8.toNat 1).asR]]) fun o48 =>
  chk (decide (0 ≤ v8) && decide (v8 < (w8.length : Int))) <|
  G1 ((IntKind.wrap .i64 (v8 + 1)), (put_ w8 v8.toNat 0 [.i (o48.t 0).asI, .r (o48.t 1).asR]))
 else
  some ⟨[.r w8], []⟩
def laws_toEntS_k1 : List Nat := [0, 2, 3, 4, 22]
def laws_toEntS_S1 (a0 : List (List T)) : (Int × List (List T)) → St := fun (v8, w8) => ⟨ofSl [(0, .sl 157 a0), (2, .ref (2, 0)), (3, .ref (3, 0)), (4, .i .i64 v8), (22, .skip)], Mem.put (ofMem [((2, 0), .deep 162 [] none), ((3, 0), .deep 162 w8 none)]) modeNm .dead⟩
def laws_toEntS_l1 (k : Nat) (a0 : List (List T)) (G1 : (Int × List (List T)) → Option Outs) : (Int × List (List T)) → Option Outs :=
  laws_toEntS_L1 k a0 G1
def laws_toEntS_U (k : Nat) (a0 : List (List T)) (R1 : (Int × List (List T)) → Option Outs) : Option Outs :=
 chk (decide ((a0.length : Int) = (a0.length : Int)) && decide (0 ≤ (a0.length : Int)) && decide ((a0.length : Int) * ((32 : Nat) : Int) ≤ 140737488355328)) <|
 R1 (0, (List.replicate ((a0.length : Int) : Int).toNat [.i 0, .r []]))
def laws_toEntS_u (k : Nat) (a0 : List (List T)) : Option Outs :=
  laws_toEntS_U k a0 (fun v => fixN (laws_toEntS_l1 k a0) k v)
def laws_toEntS_it1 (k : Nat) (a0 : List (List T)) (js : List Nat) (j : Nat) (s : St) : Option Outs := iter E (LB E (evalF E P0 k) k [] N.laws_toEntS [.sr, .sr, .sl, .sr, .bl]) [] laws_toEntS_k1 (LK E (evalF E P0 k) k [] N.laws_toEntS [.v [.r a0]] [.sr, .sr, .sl, .sr, .bl] js) j s
theorem laws_toEntS_e (k : Nat) (a0 : List (List T)) : evalF E P0 (k + 1) N.laws_toEntS [.v [.r a0]] = laws_toEntS_u k a0 := by
  have e0 : evalF E P0 (k + 1) N.laws_toEntS [.v [.r a0]] = laws_toEntS_U k a0 (fun v => laws_toEntS_it1 k a0 [] k (laws_toEntS_S1 a0 v)) := by kernel_rfl
  have e1 : ∀ (j1 : Nat) (v : Int × List (List T)), laws_toEntS_it1 k a0 [] (j1 + 1) (laws_toEntS_S1 a0 v) = laws_toEntS_L1 k a0 (fun v => laws_toEntS_it1 k a0 [] j1 (laws_toEntS_S1 a0 v)) v := by
    intro j1 v; kernel_rfl
  have i1 : ∀ (j1 : Nat) (v : Int × List (List T)), laws_toEntS_it1 k a0 [] j1 (laws_toEntS_S1 a0 v) = fixN (laws_toEntS_l1 k a0) j1 v := by
    intro j1 v
    refine iter_fix (laws_toEntS_S1 a0) (laws_toEntS_l1 k a0) (fun j1 v => (e1 j1 v).trans ?_) j1 v
    unfold laws_toEntS_l1
    rfl
  rw [e0]; unfold laws_toEntS_u
  simp only [i1]
def laws_toArr_u (k : Nat) (a0_0 : Int) (a0_1 : Int) (a0_2 : Int) (a0_3 : List (List T)) (a0_4 : Int) (a0_5 : Int) (a0_6 : Int) (a0_7 : Int) (a0_8 : Int) (a0_9 : List (List T)) (a0_10 : Int) (a0_11 : Bool) (a0_12 : Bool) : Option Outs :=
 bindO (evalF E P0 k N.laws_toGeo [.v [.i a0_1, .i a0_2]]) fun o2 =>
 bindO (evalF E P0 k N.laws_toMemS [.v [.r a0_3]]) fun o4 =>
 bindO (evalF E P0 k N.laws_toEntS [.v [.r a0_9]]) fun o6 =>
 some ⟨[.i a0_0, .i (o2.t 0).asI, .i (o2.t 1).asI, .r (o4.t 0).asR, .i a0_4, .i a0_5, .i a0_6, .i a0_7, .i a0_8, .r (o6.t 0).asR, .i a0_10, .b a0_11, .b a0_12], []⟩
theorem laws_toArr_e (k : Nat) (a0_0 : Int) (a0_1 : Int) (a0_2 : Int) (a0_3 : List (List T)) (a0_4 : Int) (a0_5 : Int) (a0_6 : Int) (a0_7 : Int) (a0_8 : Int) (a0_9 : List (List T)) (a0_10 : Int) (a0_11 : Bool) (a0_12 : Bool) : evalF E P0 (k + 1) N.laws_toArr [.v [.i a0_0, .i a0_1, .i a0_2, .r a0_3, .i a0_4, .i a0_5, .i a0_6, .i a0_7, .i a0_8, .r a0_9, .i a0_10, .b a0_11, .b a0_12]] = laws_toArr_u k a0_0 a0_1 a0_2 a0_3 a0_4 a0_5 a0_6 a0_7 a0_8 a0_9 a0_10 a0_11 a0_12 := by kernel_rfl
def laws_toCmd_u (k : Nat) (a0_0 : Int) (a0_1 : Int) (a0_2 : Int) (a0_3 : Int) (a0_4 : List (List T)) : Option Outs :=
 bindO (evalF E P0 k N.laws_toIntS [.v [.r a0_4]]) fun o2 =>
 some ⟨[.i a0_0, .i a0_1, .i a0_2, .i a0_3, .r (o2.t 0).asR], []⟩
theorem laws_toCmd_e (k : Nat) (a0_0 : Int) (a0_1 : Int) (a0_2 : Int) (a0_3 : Int) (a0_4 : List (List T)) : evalF E P0 (k + 1) N.laws_toCmd [.v [.i a0_0, .i a0_1, .i a0_2, .i a0_3, .r a0_4]] = laws_toCmd_u k a0_0 a0_1 a0_2 a0_3 a0_4 := by kernel_rfl
def laws_toCmdS_L1 (k : Nat) (a0 : List (List T)) (G1 : (Int × List (List T)) → Option Outs) : (Int × List (List T)) → Option Outs := fun (v8, w8) =>
 bif (decide (v8 < (a0.length : Int))) then
  chk (decide (0 ≤ v8) && decide (v8 < (a0.length : Int))) <|
  bindO (evalF E P0 k N.laws_toCmd [.v [.i (at_ a0 v8.toNat 0).asI, .i (at_ a0 v8.toNat 1).asI, .i (at_ a0 v8.toNat 2).asI, .i (at_ a0 v8.toNat 3).asI, .r (at_ a0 v8.toNat 4).asR]]) fun o48 =>
  chk (decide (0 ≤ v8) && decide (v8 < (w8.length : Int))) <|
  G1 ((IntKind.wrap .i64 (v8 + 1)), (put_ w8 v8.toNat 0 [.i (o48.t 0).asI, .i (o48.t 1).asI, .i (o48.t 2).asI, .i (o48.t 3).asI, .r (o48.t 4).asR]))
 else
  some ⟨[.r w8], []⟩
def laws_toCmdS_k1 : List Nat := [0, 2, 3, 4, 22]
def laws_toCmdS_S1 (a0 : List (List T)) : (Int × List (List T)) → St := fun (v8, w8) => ⟨ofSl [(0, .sl 36 a0), (2, .ref (2, 0)), (3, .ref (3, 0)), (4, .i .i64 v8), (22, .skip)], Mem.put (ofMem [((2, 0), .deep 53 [] none), ((3, 0), .deep 53 w8 none)]) modeNm .dead⟩
def laws_toCmdS_l1 (k : Nat) (a0 : List (List T)) (G1 : (Int × List (List T)) → Option Outs) : (Int × List (List T)) → Option Outs :=
  laws_toCmdS_L1 k a0 G1
def laws_toCmdS_U (k : Nat) (a0 : List (List T)) (R1 : (Int × List (List T)) → Option Outs) : Option Outs :=
 chk (decide ((a0.length : Int) = (a0.length : Int)) && decide (0 ≤ (a0.length : Int)) && decide ((a0.length : Int) * ((56 : Nat) : Int) ≤ 140737488355328)) <|
 R1 (0, (List.replicate ((a0.length : Int) : Int).toNat [.i 0, .i 0, .i 0, .i 0, .r []]))
def laws_toCmdS_u (k : Nat) (a0 : List (List T)) : Option Outs :=
  laws_toCmdS_U k a0 (fun v => fixN (laws_toCmdS_l1 k a0) k v)
def laws_toCmdS_it1 (k : Nat) (a0 : List (List T)) (js : List Nat) (j : Nat) (s : St) : Option Outs := iter E (LB E (evalF E P0 k) k [] N.laws_toCmdS [.sr, .sr, .sl, .sr, .bl]) [] laws_toCmdS_k1 (LK E (evalF E P0 k) k [] N.laws_toCmdS [.v [.r a0]] [.sr, .sr, .sl, .sr, .bl] js) j s
theorem laws_toCmdS_e (k : Nat) (a0 : List (List T)) : evalF E P0 (k + 1) N.laws_toCmdS [.v [.r a0]] = laws_toCmdS_u k a0 := by
  have e0 : evalF E P0 (k + 1) N.laws_toCmdS [.v [.r a0]] = laws_toCmdS_U k a0 (fun v => laws_toCmdS_it1 k a0 [] k (laws_toCmdS_S1 a0 v)) := by kernel_rfl
  have e1 : ∀ (j1 : Nat) (v : Int × List (List T)), laws_toCmdS_it1 k a0 [] (j1 + 1) (laws_toCmdS_S1 a0 v) = laws_toCmdS_L1 k a0 (fun v => laws_toCmdS_it1 k a0 [] j1 (laws_toCmdS_S1 a0 v)) v := by
    intro j1 v; kernel_rfl
  have i1 : ∀ (j1 : Nat) (v : Int × List (List T)), laws_toCmdS_it1 k a0 [] j1 (laws_toCmdS_S1 a0 v) = fixN (laws_toCmdS_l1 k a0) j1 v := by
    intro j1 v
    refine iter_fix (laws_toCmdS_S1 a0) (laws_toCmdS_l1 k a0) (fun j1 v => (e1 j1 v).trans ?_) j1 v
    unfold laws_toCmdS_l1
    rfl
  rw [e0]; unfold laws_toCmdS_u
  simp only [i1]
def laws_toJob_u (k : Nat) (a0_0 : Int) (a0_1 : Int) (a0_2 : Int) (a0_3 : Int) (a0_4 : List (List T)) (a0_5 : Int) (a0_6 : List (List T)) (a0_7 : Int) : Option Outs :=
 bindO (evalF E P0 k N.laws_toCmd [.v [.i a0_0, .i a0_1, .i a0_2, .i a0_3, .r a0_4]]) fun o2 =>
 bindO (evalF E P0 k N.laws_toIntS [.v [.r a0_6]]) fun o4 =>
 some ⟨[.i (o2.t 0).asI, .i (o2.t 1).asI, .i (o2.t 2).asI, .i (o2.t 3).asI, .r (o2.t 4).asR, .i a0_5, .r (o4.t 0).asR, .i a0_7], []⟩
theorem laws_toJob_e (k : Nat) (a0_0 : Int) (a0_1 : Int) (a0_2 : Int) (a0_3 : Int) (a0_4 : List (List T)) (a0_5 : Int) (a0_6 : List (List T)) (a0_7 : Int) : evalF E P0 (k + 1) N.laws_toJob [.v [.i a0_0, .i a0_1, .i a0_2, .i a0_3, .r a0_4, .i a0_5, .r a0_6, .i a0_7]] = laws_toJob_u k a0_0 a0_1 a0_2 a0_3 a0_4 a0_5 a0_6 a0_7 := by kernel_rfl
def laws_toJobS_L1 (k : Nat) (a0 : List (List T)) (G1 : (Int × List (List T)) → Option Outs) : (Int × List (List T)) → Option Outs := fun (v8, w8) =>
 bif (decide (v8 < (a0.length : Int))) then
  chk (decide (0 ≤ v8) && decide (v8 < (a0.length : Int))) <|
  bindO (evalF E P0 k N.laws_toJob [.v [.i (at_ a0 v8.toNat 0).asI, .i (at_ a0 v8.toNat 1).asI, .i (at_ a0 v8.toNat 2).asI, .i (at_ a0 v8.toNat 3).asI, .r (at_ a0 v8.toNat 4).asR, .i (at_ a0 v8.toNat 5).asI, .r (at_ a0 v8.toNat 6).asR, .i (at_ a0 v8.toNat 7).asI]]) fun o48 =>
  chk (decide (0 ≤ v8) && decide (v8 < (w8.length : Int))) <|
  G1 ((IntKind.wrap .i64 (v8 + 1)), (put_ w8 v8.toNat 0 [.i (o48.t 0).asI, .i (o48.t 1).asI, .i (o48.t 2).asI, .i (o48.t 3).asI, .r (o48.t 4).asR, .i (o48.t 5).asI, .r (o48.t 6).asR, .i (o48.t 7).asI]))
 else
  some ⟨[.r w8], []⟩
def laws_toJobS_k1 : List Nat := [0, 2, 3, 4, 22]
def laws_toJobS_S1 (a0 : List (List T)) : (Int × List (List T)) → St := fun (v8, w8) => ⟨ofSl [(0, .sl 112 a0), (2, .ref (2, 0)), (3, .ref (3, 0)), (4, .i .i64 v8), (22, .skip)], Mem.put (ofMem [((2, 0), .deep 103 [] none), ((3, 0), .deep 103 w8 none)]) modeNm .dead⟩
def laws_toJobS_l1 (k : Nat) (a0 : List (List T)) (G1 : (Int × List (List T)) → Option Outs) : (Int × List (List T)) → Option Outs :=
  laws_toJobS_L1 k a0 G1
def laws_toJobS_U (k : Nat) (a0 : List (List T)) (R1 : (Int × List (List T)) → Option Outs) : Option Outs :=
 chk (decide ((a0.length : Int) = (a0.length : Int)) && decide (0 ≤ (a0.length : Int)) && decide ((a0.length : Int) * ((96 : Nat) : Int) ≤ 140737488355328)) <|
 R1 (0, (List.replicate ((a0.length : Int) : Int).toNat [.i 0, .i 0, .i 0, .i 0, .r [], .i 0, .r [], .i 0]))
def laws_toJobS_u (k : Nat) (a0 : List (List T)) : Option Outs :=
  laws_toJobS_U k a0 (fun v => fixN (laws_toJobS_l1 k a0) k v)
def laws_toJobS_it1 (k : Nat) (a0 : List (List T)) (js : List Nat) (j : Nat) (s : St) : Option Outs := iter E (LB E (evalF E P0 k) k [] N.laws_toJobS [.sr, .sr, .sl, .sr, .bl]) [] laws_toJobS_k1 (LK E (evalF E P0 k) k [] N.laws_toJobS [.v [.r a0]] [.sr, .sr, .sl, .sr, .bl] js) j s
theorem laws_toJobS_e (k : Nat) (a0 : List (List T)) : evalF E P0 (k + 1) N.laws_toJobS [.v [.r a0]] = laws_toJobS_u k a0 := by
  have e0 : evalF E P0 (k + 1) N.laws_toJobS [.v [.r a0]] = laws_toJobS_U k a0 (fun v => laws_toJobS_it1 k a0 [] k (laws_toJobS_S1 a0 v)) := by kernel_rfl
  have e1 : ∀ (j1 : Nat) (v : Int × List (List T)), laws_toJobS_it1 k a0 [] (j1 + 1) (laws_toJobS_S1 a0 v) = laws_toJobS_L1 k a0 (fun v => laws_toJobS_it1 k a0 [] j1 (laws_toJobS_S1 a0 v)) v := by
    intro j1 v; kernel_rfl
  have i1 : ∀ (j1 : Nat) (v : Int × List (List T)), laws_toJobS_it1 k a0 [] j1 (laws_toJobS_S1 a0 v) = fixN (laws_toJobS_l1 k a0) j1 v := by
    intro j1 v
    refine iter_fix (laws_toJobS_S1 a0) (laws_toJobS_l1 k a0) (fun j1 v => (e1 j1 v).trans ?_) j1 v
    unfold laws_toJobS_l1
    rfl
  rw [e0]; unfold laws_toJobS_u
  simp only [i1]
def laws_toAns_u (k : Nat) (a0_0 : Int) (a0_1 : Int) (a0_2 : List (List T)) : Option Outs :=
 bindO (evalF E P0 k N.laws_toIntS [.v [.r a0_2]]) fun o2 =>
 some ⟨[.i a0_0, .i a0_1, .r (o2.t 0).asR], []⟩
theorem laws_toAns_e (k : Nat) (a0_0 : Int) (a0_1 : Int) (a0_2 : List (List T)) : evalF E P0 (k + 1) N.laws_toAns [.v [.i a0_0, .i a0_1, .r a0_2]] = laws_toAns_u k a0_0 a0_1 a0_2 := by kernel_rfl
def laws_toAnsS_L1 (k : Nat) (a0 : List (List T)) (G1 : (Int × List (List T)) → Option Outs) : (Int × List (List T)) → Option Outs := fun (v8, w8) =>
 bif (decide (v8 < (a0.length : Int))) then
  chk (decide (0 ≤ v8) && decide (v8 < (a0.length : Int))) <|
  bindO (evalF E P0 k N.laws_toAns [.v [.i (at_ a0 v8.toNat 0).asI, .i (at_ a0 v8.toNat 1).asI, .r (at_ a0 v8.toNat 2).asR]]) fun o48 =>
  chk (decide (0 ≤ v8) && decide (v8 < (w8.length : Int))) <|
  G1 ((IntKind.wrap .i64 (v8 + 1)), (put_ w8 v8.toNat 0 [.i (o48.t 0).asI, .i (o48.t 1).asI, .r (o48.t 2).asR]))
 else
  some ⟨[.r w8], []⟩
def laws_toAnsS_k1 : List Nat := [0, 2, 3, 4, 22]
def laws_toAnsS_S1 (a0 : List (List T)) : (Int × List (List T)) → St := fun (v8, w8) => ⟨ofSl [(0, .sl 114 a0), (2, .ref (2, 0)), (3, .ref (3, 0)), (4, .i .i64 v8), (22, .skip)], Mem.put (ofMem [((2, 0), .deep 61 [] none), ((3, 0), .deep 61 w8 none)]) modeNm .dead⟩
def laws_toAnsS_l1 (k : Nat) (a0 : List (List T)) (G1 : (Int × List (List T)) → Option Outs) : (Int × List (List T)) → Option Outs :=
  laws_toAnsS_L1 k a0 G1
def laws_toAnsS_U (k : Nat) (a0 : List (List T)) (R1 : (Int × List (List T)) → Option Outs) : Option Outs :=
 chk (decide ((a0.length : Int) = (a0.length : Int)) && decide (0 ≤ (a0.length : Int)) && decide ((a0.length : Int) * ((40 : Nat) : Int) ≤ 140737488355328)) <|
 R1 (0, (List.replicate ((a0.length : Int) : Int).toNat [.i 0, .i 0, .r []]))
def laws_toAnsS_u (k : Nat) (a0 : List (List T)) : Option Outs :=
  laws_toAnsS_U k a0 (fun v => fixN (laws_toAnsS_l1 k a0) k v)
def laws_toAnsS_it1 (k : Nat) (a0 : List (List T)) (js : List Nat) (j : Nat) (s : St) : Option Outs := iter E (LB E (evalF E P0 k) k [] N.laws_toAnsS [.sr, .sr, .sl, .sr, .bl]) [] laws_toAnsS_k1 (LK E (evalF E P0 k) k [] N.laws_toAnsS [.v [.r a0]] [.sr, .sr, .sl, .sr, .bl] js) j s
theorem laws_toAnsS_e (k : Nat) (a0 : List (List T)) : evalF E P0 (k + 1) N.laws_toAnsS [.v [.r a0]] = laws_toAnsS_u k a0 := by
  have e0 : evalF E P0 (k + 1) N.laws_toAnsS [.v [.r a0]] = laws_toAnsS_U k a0 (fun v => laws_toAnsS_it1 k a0 [] k (laws_toAnsS_S1 a0 v)) := by kernel_rfl
  have e1 : ∀ (j1 : Nat) (v : Int × List (List T)), laws_toAnsS_it1 k a0 [] (j1 + 1) (laws_toAnsS_S1 a0 v) = laws_toAnsS_L1 k a0 (fun v => laws_toAnsS_it1 k a0 [] j1 (laws_toAnsS_S1 a0 v)) v := by
    intro j1 v; kernel_rfl
  have i1 : ∀ (j1 : Nat) (v : Int × List (List T)), laws_toAnsS_it1 k a0 [] j1 (laws_toAnsS_S1 a0 v) = fixN (laws_toAnsS_l1 k a0) j1 v := by
    intro j1 v
    refine iter_fix (laws_toAnsS_S1 a0) (laws_toAnsS_l1 k a0) (fun j1 v => (e1 j1 v).trans ?_) j1 v
    unfold laws_toAnsS_l1
    rfl
  rw [e0]; unfold laws_toAnsS_u
  simp only [i1]
def laws_toTurn_u (k : Nat) (a0_0 : Int) (a0_1 : Int) (a0_2 : Int) (a0_3 : Int) (a0_4 : List (List T)) (a0_5 : Int) (a0_6 : Int) (a0_7 : List (List T)) : Option Outs :=
 bindO (evalF E P0 k N.laws_toCmd [.v [.i a0_0, .i a0_1, .i a0_2, .i a0_3, .r a0_4]]) fun o2 =>
 bindO (evalF E P0 k N.laws_toAns [.v [.i a0_5, .i a0_6, .r a0_7]]) fun o4 =>
 some ⟨[.i (o2.t 0).asI, .i (o2.t 1).asI, .i (o2.t 2).asI, .i (o2.t 3).asI, .r (o2.t 4).asR, .i (o4.t 0).asI, .i (o4.t 1).asI, .r (o4.t 2).asR], []⟩
theorem laws_toTurn_e (k : Nat) (a0_0 : Int) (a0_1 : Int) (a0_2 : Int) (a0_3 : Int) (a0_4 : List (List T)) (a0_5 : Int) (a0_6 : Int) (a0_7 : List (List T)) : evalF E P0 (k + 1) N.laws_toTurn [.v [.i a0_0, .i a0_1, .i a0_2, .i a0_3, .r a0_4, .i a0_5, .i a0_6, .r a0_7]] = laws_toTurn_u k a0_0 a0_1 a0_2 a0_3 a0_4 a0_5 a0_6 a0_7 := by kernel_rfl
def laws_toTurnS_L1 (k : Nat) (a0 : List (List T)) (G1 : (Int × List (List T)) → Option Outs) : (Int × List (List T)) → Option Outs := fun (v8, w8) =>
 bif (decide (v8 < (a0.length : Int))) then
  chk (decide (0 ≤ v8) && decide (v8 < (a0.length : Int))) <|
  bindO (evalF E P0 k N.laws_toTurn [.v [.i (at_ a0 v8.toNat 0).asI, .i (at_ a0 v8.toNat 1).asI, .i (at_ a0 v8.toNat 2).asI, .i (at_ a0 v8.toNat 3).asI, .r (at_ a0 v8.toNat 4).asR, .i (at_ a0 v8.toNat 5).asI, .i (at_ a0 v8.toNat 6).asI, .r (at_ a0 v8.toNat 7).asR]]) fun o48 =>
  chk (decide (0 ≤ v8) && decide (v8 < (w8.length : Int))) <|
  G1 ((IntKind.wrap .i64 (v8 + 1)), (put_ w8 v8.toNat 0 [.i (o48.t 0).asI, .i (o48.t 1).asI, .i (o48.t 2).asI, .i (o48.t 3).asI, .r (o48.t 4).asR, .i (o48.t 5).asI, .i (o48.t 6).asI, .r (o48.t 7).asR]))
 else
  some ⟨[.r w8], []⟩
def laws_toTurnS_k1 : List Nat := [0, 2, 3, 4, 22]
def laws_toTurnS_S1 (a0 : List (List T)) : (Int × List (List T)) → St := fun (v8, w8) => ⟨ofSl [(0, .sl 117 a0), (2, .ref (2, 0)), (3, .ref (3, 0)), (4, .i .i64 v8), (22, .skip)], Mem.put (ofMem [((2, 0), .deep 120 [] none), ((3, 0), .deep 120 w8 none)]) modeNm .dead⟩
def laws_toTurnS_l1 (k : Nat) (a0 : List (List T)) (G1 : (Int × List (List T)) → Option Outs) : (Int × List (List T)) → Option Outs :=
  laws_toTurnS_L1 k a0 G1
def laws_toTurnS_U (k : Nat) (a0 : List (List T)) (R1 : (Int × List (List T)) → Option Outs) : Option Outs :=
 chk (decide ((a0.length : Int) = (a0.length : Int)) && decide (0 ≤ (a0.length : Int)) && decide ((a0.length : Int) * ((96 : Nat) : Int) ≤ 140737488355328)) <|
 R1 (0, (List.replicate ((a0.length : Int) : Int).toNat [.i 0, .i 0, .i 0, .i 0, .r [], .i 0, .i 0, .r []]))
def laws_toTurnS_u (k : Nat) (a0 : List (List T)) : Option Outs :=
  laws_toTurnS_U k a0 (fun v => fixN (laws_toTurnS_l1 k a0) k v)
def laws_toTurnS_it1 (k : Nat) (a0 : List (List T)) (js : List Nat) (j : Nat) (s : St) : Option Outs := iter E (LB E (evalF E P0 k) k [] N.laws_toTurnS [.sr, .sr, .sl, .sr, .bl]) [] laws_toTurnS_k1 (LK E (evalF E P0 k) k [] N.laws_toTurnS [.v [.r a0]] [.sr, .sr, .sl, .sr, .bl] js) j s
theorem laws_toTurnS_e (k : Nat) (a0 : List (List T)) : evalF E P0 (k + 1) N.laws_toTurnS [.v [.r a0]] = laws_toTurnS_u k a0 := by
  have e0 : evalF E P0 (k + 1) N.laws_toTurnS [.v [.r a0]] = laws_toTurnS_U k a0 (fun v => laws_toTurnS_it1 k a0 [] k (laws_toTurnS_S1 a0 v)) := by kernel_rfl
  have e1 : ∀ (j1 : Nat) (v : Int × List (List T)), laws_toTurnS_it1 k a0 [] (j1 + 1) (laws_toTurnS_S1 a0 v) = laws_toTurnS_L1 k a0 (fun v => laws_toTurnS_it1 k a0 [] j1 (laws_toTurnS_S1 a0 v)) v := by
    intro j1 v; kernel_rfl
  have i1 : ∀ (j1 : Nat) (v : Int × List (List T)), laws_toTurnS_it1 k a0 [] j1 (laws_toTurnS_S1 a0 v) = fixN (laws_toTurnS_l1 k a0) j1 v := by
    intro j1 v
    refine iter_fix (laws_toTurnS_S1 a0) (laws_toTurnS_l1 k a0) (fun j1 v => (e1 j1 v).trans ?_) j1 v
    unfold laws_toTurnS_l1
    rfl
  rw [e0]; unfold laws_toTurnS_u
  simp only [i1]
def laws_toEng_u (k : Nat) (a0_0 : Int) (a0_1 : Int) (a0_2 : Int) (a0_3 : List (List T)) (a0_4 : Int) (a0_5 : Int) (a0_6 : Int) (a0_7 : Int) (a0_8 : Int) (a0_9 : List (List T)) (a0_10 : Int) (a0_11 : Bool) (a0_12 : Bool) (a0_13 : List (List T)) (a0_14 : List (List T)) (a0_15 : List (List T)) (a0_16 : List (List T)) : Option Outs :=
 bindO (evalF E P0 k N.laws_toArr [.v [.i a0_0, .i a0_1, .i a0_2, .r a0_3, .i a0_4, .i a0_5, .i a0_6, .i a0_7, .i a0_8, .r a0_9, .i a0_10, .b a0_11, .b a0_12]]) fun o2 =>
 bindO (evalF E P0 k N.laws_toCmdS [.v [.r a0_13]]) fun o4 =>
 bindO (evalF E P0 k N.laws_toJobS [.v [.r a0_14]]) fun o6 =>
 bindO (evalF E P0 k N.laws_toAnsS [.v [.r a0_15]]) fun o8 =>
 bindO (evalF E P0 k N.laws_toTurnS [.v [.r a0_16]]) fun o10 =>
 some ⟨[.i (o2.t 0).asI, .i (o2.t 1).asI, .i (o2.t 2).asI, .r (o2.t 3).asR, .i (o2.t 4).asI, .i (o2.t 5).asI, .i (o2.t 6).asI, .i (o2.t 7).asI, .i (o2.t 8).asI, .r (o2.t 9).asR, .i (o2.t 10).asI, .b (o2.t 11).asB, .b (o2.t 12).asB, .r (o4.t 0).asR, .r (o6.t 0).asR, .r (o8.t 0).asR, .r (o10.t 0).asR], []⟩
theorem laws_toEng_e (k : Nat) (a0_0 : Int) (a0_1 : Int) (a0_2 : Int) (a0_3 : List (List T)) (a0_4 : Int) (a0_5 : Int) (a0_6 : Int) (a0_7 : Int) (a0_8 : Int) (a0_9 : List (List T)) (a0_10 : Int) (a0_11 : Bool) (a0_12 : Bool) (a0_13 : List (List T)) (a0_14 : List (List T)) (a0_15 : List (List T)) (a0_16 : List (List T)) : evalF E P0 (k + 1) N.laws_toEng [.v [.i a0_0, .i a0_1, .i a0_2, .r a0_3, .i a0_4, .i a0_5, .i a0_6, .i a0_7, .i a0_8, .r a0_9, .i a0_10, .b a0_11, .b a0_12, .r a0_13, .r a0_14, .r a0_15, .r a0_16]] = laws_toEng_u k a0_0 a0_1 a0_2 a0_3 a0_4 a0_5 a0_6 a0_7 a0_8 a0_9 a0_10 a0_11 a0_12 a0_13 a0_14 a0_15 a0_16 := by kernel_rfl
def spec_l2Copy_L2 (k : Nat) (a0_0 : List (List T)) (a0_1 : List (List T)) (a0_2 : Bool) (a0_3 : List (List T)) (p12 : List (List T)) (w8 : List (List T)) (G2 : (Int × List (List T)) → Option Outs) : (Int × List (List T)) → Option Outs := fun (v16, w16) =>
 bif (decide (v16 < (a0_1.length : Int))) then
  chk (decide (0 ≤ v16) && decide (v16 < (a0_1.length : Int))) <|
  chk (decide (0 ≤ v16) && decide (v16 < (a0_1.length : Int))) <|
  chk (decide ((([] : List (List T)).length + (at_ a0_1 v16.toNat 1).asR.length) * 8 ≤ 140737488355328)) <|
  chk (decide ((w16.length + ([[.i (at_ a0_1 v16.toNat 0).asI, .r (([] : List (List T)) ++ (at_ a0_1 v16.toNat 1).asR)]] : List (List T)).length) * 32 ≤ 140737488355328)) <|
  G2 ((IntKind.wrap .i64 (v16 + 1)), (w16 ++ ([[.i (at_ a0_1 v16.toNat 0).asI, .r (([] : List (List T)) ++ (at_ a0_1 v16.toNat 1).asR)]] : List (List T))))
 else
  some ⟨[.r w8, .r w16, .b a0_2, .r p12], []⟩
def spec_l2Copy_k2 : List Nat := [1, 2, 3, 5, 59]
def spec_l2Copy_S2 (a0_0 : List (List T)) (a0_1 : List (List T)) (a0_2 : Bool) (a0_3 : List (List T)) (p12 : List (List T)) (w8 : List (List T)) : (Int × List (List T)) → St := fun (v16, w16) => ⟨ofSl [(1, .ptr (1, 0) 0), (2, .ptr (2, 0) 0), (3, .ptr (3, 0) 0), (5, .i .i64 v16), (59, .skip)], ofMem [((1, 0), .var [.sl 34 a0_0, .sl 184 a0_1, .b a0_2, .sl 3 a0_3]), ((2, 0), .var [.ref (2, 1), .ref (2, 2), .b false, .ref (2, 4)]), ((2, 1), .row 34 true []), ((2, 2), .row 184 true []), ((2, 4), .row 3 true []), ((3, 0), .var [.ref (3, 1), .ref (3, 2), .b a0_2, .ref (3, 4)]), ((3, 1), .row 34 true w8), ((3, 2), .row 184 true w16), ((3, 4), .row 3 true p12)]⟩
def spec_l2Copy_L1 (k : Nat) (a0_0 : List (List T)) (a0_1 : List (List T)) (a0_2 : Bool) (a0_3 : List (List T)) (p12 : List (List T)) (R2 : List (List T) → List (List T) → (Int × List (List T)) → Option Outs) (G1 : (Int × List (List T)) → Option Outs) : (Int × List (List T)) → Option Outs := fun (v8, w8) =>
 bif (decide (v8 < (a0_0.length : Int))) then
  chk (decide (0 ≤ v8) && decide (v8 < (a0_0.length : Int))) <|
  chk (decide ((([] : List (List T)).length + (at_ a0_0 v8.toNat 0).asR.length) * 8 ≤ 140737488355328)) <|
  chk (decide ((w8.length + ([[.r (([] : List (List T)) ++ (at_ a0_0 v8.toNat 0).asR)]] : List (List T)).length) * 24 ≤ 140737488355328)) <|
  G1 ((IntKind.wrap .i64 (v8 + 1)), (w8 ++ ([[.r (([] : List (List T)) ++ (at_ a0_0 v8.toNat 0).asR)]] : List (List T))))
 else
  R2 p12 w8 (0, [])
def spec_l2Copy_k1 : List Nat := [1, 2, 3, 4, 5, 32, 33, 34, 35, 36, 37, 38, 39, 40, 41, 42, 43, 44, 45, 46, 47, 48, 49, 50, 51, 52, 53, 54, 55, 56, 57, 58, 59]
def spec_l2Copy_S1 (a0_0 : List (List T)) (a0_1 : List (List T)) (a0_2 : Bool) (a0_3 : List (List T)) (p12 : List (List T)) : (Int × List (List T)) → St := fun (v8, w8) => ⟨ofSl [(1, .ptr (1, 0) 0), (2, .ptr (2, 0) 0), (3, .ptr (3, 0) 0), (4, .i .i64 v8), (5, .skip), (32, .skip), (33, .skip), (34, .skip), (35, .skip), (36, .skip), (37, .skip), (38, .skip), (39, .skip), (40, .skip), (41, .skip), (42, .skip), (43, .skip), (44, .skip), (45, .skip), (46, .skip), (47, .skip), (48, .skip), (49, .skip), (50, .skip), (51, .skip), (52, .skip), (53, .skip), (54, .skip), (55, .skip), (56, .skip), (57, .skip), (58, .skip), (59, .skip)], ofMem [((1, 0), .var [.sl 34 a0_0, .sl 184 a0_1, .b a0_2, .sl 3 a0_3]), ((2, 0), .var [.ref (2, 1), .ref (2, 2), .b false, .ref (2, 4)]), ((2, 1), .row 34 true []), ((2, 2), .row 184 true []), ((2, 4), .row 3 true []), ((3, 0), .var [.ref (3, 1), .ref (3, 2), .b a0_2, .ref (3, 4)]), ((3, 1), .row 34 true w8), ((3, 2), .row 184 true []), ((3, 4), .row 3 true p12)]⟩
def spec_l2Copy_l2 (k : Nat) (a0_0 : List (List T)) (a0_1 : List (List T)) (a0_2 : Bool) (a0_3 : List (List T)) (p12 : List (List T)) (w8 : List (List T)) (G2 : (Int × List (List T)) → Option Outs) : (Int × List (List T)) → Option Outs :=
  spec_l2Copy_L2 k a0_0 a0_1 a0_2 a0_3 p12 w8 G2
def spec_l2Copy_l1 (k : Nat) (a0_0 : List (List T)) (a0_1 : List (List T)) (a0_2 : Bool) (a0_3 : List (List T)) (p12 : List (List T)) (G1 : (Int × List (List T)) → Option Outs) : (Int × List (List T)) → Option Outs :=
  spec_l2Copy_L1 k a0_0 a0_1 a0_2 a0_3 p12 (fun y0 y1 v => fixN (spec_l2Copy_l2 k a0_0 a0_1 a0_2 a0_3 y0 y1) k v) G1
def spec_l2Copy_U (k : Nat) (a0_0 : List (List T)) (a0_1 : List (List T)) (a0_2 : Bool) (a0_3 : List (List T)) (R1 : List (List T) → (Int × List (List T)) → Option Outs) : Option Outs :=
 chk (decide ((([] : List (List T)).length + a0_3.length) * 8 ≤ 140737488355328)) <|
 R1 (([] : List (List T)) ++ a0_3) (0, [])
def spec_l2Copy_u (k : Nat) (a0_0 : List (List T)) (a0_1 : List (List T)) (a0_2 : Bool) (a0_3 : List (List T)) : Option Outs :=
  spec_l2Copy_U k a0_0 a0_1 a0_2 a0_3 (fun y0 v => fixN (spec_l2Copy_l1 k a0_0 a0_1 a0_2 a0_3 y0) k v)
def spec_l2Copy_it1 (k : Nat) (a0_0 : List (List T)) (a0_1 : List (List T)) (a0_2 : Bool) (a0_3 : List (List T)) (js : List Nat) (j : Nat) (s : St) : Option Outs := iter E (LB E (evalF E P0 k) k [] N.spec_l2Copy [.sr, .sr, .sl, .sr, .bl]) [] spec_l2Copy_k1 (LK E (evalF E P0 k) k [] N.spec_l2Copy [.v [.r a0_0, .r a0_1, .b a0_2, .r a0_3]] [.sr, .sr, .sl, .sr, .bl] js) j s
def spec_l2Copy_it2 (k : Nat) (a0_0 : List (List T)) (a0_1 : List (List T)) (a0_2 : Bool) (a0_3 : List (List T)) (js : List Nat) (j : Nat) (s : St) : Option Outs := iter E (LB E (evalF E P0 k) k [] N.spec_l2Copy [.sr, .sr, .sr, .sl, .sr, .bl]) [] spec_l2Copy_k2 (LK E (evalF E P0 k) k [] N.spec_l2Copy [.v [.r a0_0, .r a0_1, .b a0_2, .r a0_3]] [.sr, .sr, .sr, .sl, .sr, .bl] js) j s
theorem spec_l2Copy_e (k : Nat) (a0_0 : List (List T)) (a0_1 : List (List T)) (a0_2 : Bool) (a0_3 : List (List T)) : evalF E P0 (k + 1) N.spec_l2Copy [.v [.r a0_0, .r a0_1, .b a0_2, .r a0_3]] = spec_l2Copy_u k a0_0 a0_1 a0_2 a0_3 := by
  have e0 : evalF E P0 (k + 1) N.spec_l2Copy [.v [.r a0_0, .r a0_1, .b a0_2, .r a0_3]] = spec_l2Copy_U k a0_0 a0_1 a0_2 a0_3 (fun y0 v => spec_l2Copy_it1 k a0_0 a0_1 a0_2 a0_3 [] k (spec_l2Copy_S1 a0_0 a0_1 a0_2 a0_3 y0 v)) := by kernel_rfl
  have e2 : ∀ (p12 : List (List T)) (w8 : List (List T)) (j2 : Nat) (v : Int × List (List T)), spec_l2Copy_it2 k a0_0 a0_1 a0_2 a0_3 [] (j2 + 1) (spec_l2Copy_S2 a0_0 a0_1 a0_2 a0_3 p12 w8 v) = spec_l2Copy_L2 k a0_0 a0_1 a0_2 a0_3 p12 w8 (fun v => spec_l2Copy_it2 k a0_0 a0_1 a0_2 a0_3 [] j2 (spec_l2Copy_S2 a0_0 a0_1 a0_2 a0_3 p12 w8 v)) v := by
    intro p12 w8 j2 v; kernel_rfl
  have i2 : ∀ (p12 : List (List T)) (w8 : List (List T)) (j2 : Nat) (v : Int × List (List T)), spec_l2Copy_it2 k a0_0 a0_1 a0_2 a0_3 [] j2 (spec_l2Copy_S2 a0_0 a0_1 a0_2 a0_3 p12 w8 v) = fixN (spec_l2Copy_l2 k a0_0 a0_1 a0_2 a0_3 p12 w8) j2 v := by
    intro p12 w8 j2 v
    refine iter_fix (spec_l2Copy_S2 a0_0 a0_1 a0_2 a0_3 p12 w8) (spec_l2Copy_l2 k a0_0 a0_1 a0_2 a0_3 p12 w8) (fun j2 v => (e2 p12 w8 j2 v).trans ?_) j2 v
    unfold spec_l2Copy_l2
    rfl
  have e1 : ∀ (p12 : List (List T)) (j1 : Nat) (v : Int × List (List T)), spec_l2Copy_it1 k a0_0 a0_1 a0_2 a0_3 [] (j1 + 1) (spec_l2Copy_S1 a0_0 a0_1 a0_2 a0_3 p12 v) = spec_l2Copy_L1 k a0_0 a0_1 a0_2 a0_3 p12 (fun y0 y1 v => spec_l2Copy_it2 k a0_0 a0_1 a0_2 a0_3 [] k (spec_l2Copy_S2 a0_0 a0_1 a0_2 a0_3 y0 y1 v)) (fun v => spec_l2Copy_it1 k a0_0 a0_1 a0_2 a0_3 [] j1 (spec_l2Copy_S1 a0_0 a0_1 a0_2 a0_3 p12 v)) v := by
    intro p12 j1 v; kernel_rfl
  have i1 : ∀ (p12 : List (List T)) (j1 : Nat) (v : Int × List (List T)), spec_l2Copy_it1 k a0_0 a0_1 a0_2 a0_3 [] j1 (spec_l2Copy_S1 a0_0 a0_1 a0_2 a0_3 p12 v) = fixN (spec_l2Copy_l1 k a0_0 a0_1 a0_2 a0_3 p12) j1 v := by
    intro p12 j1 v
    refine iter_fix (spec_l2Copy_S1 a0_0 a0_1 a0_2 a0_3 p12) (spec_l2Copy_l1 k a0_0 a0_1 a0_2 a0_3 p12) (fun j1 v => (e1 p12 j1 v).trans ?_) j1 v
    unfold spec_l2Copy_l1
    simp only [i2] <;> rfl
  rw [e0]; unfold spec_l2Copy_u
  simp only [i1]
def spec_l6Copy_L2 (k : Nat) (a0_0 : Int) (a0_1 : Int) (a0_2 : Int) (a0_3 : List (List T)) (a0_4 : Int) (a0_5 : Int) (a0_6 : Int) (a0_7 : Int) (a0_8 : Int) (a0_9 : List (List T)) (a0_10 : Int) (a0_11 : Bool) (a0_12 : Bool) (w8 : List (List T)) (G2 : (Int × List (List T)) → Option Outs) : (Int × List (List T)) → Option Outs := fun (v16, w16) =>
 bif (decide (v16 < (a0_9.length : Int))) then
  chk (decide (0 ≤ v16) && decide (v16 < (a0_9.length : Int))) <|
  chk (decide (0 ≤ v16) && decide (v16 < (a0_9.length : Int))) <|
  chk (decide ((([] : List (List T)).length + (at_ a0_9 v16.toNat 1).asR.length) * 8 ≤ 140737488355328)) <|
  chk (decide ((w16.length + ([[.i (at_ a0_9 v16.toNat 0).asI, .r (([] : List (List T)) ++ (at_ a0_9 v16.toNat 1).asR)]] : List (List T)).length) * 32 ≤ 140737488355328)) <|
  G2 ((IntKind.wrap .i64 (v16 + 1)), (w16 ++ ([[.i (at_ a0_9 v16.toNat 0).asI, .r (([] : List (List T)) ++ (at_ a0_9 v16.toNat 1).asR)]] : List (List T))))
 else
  some ⟨[.i a0_0, .i a0_1, .i a0_2, .r w8, .i a0_4, .i a0_5, .i a0_6, .i a0_7, .i a0_8, .r w16, .i a0_10, .b a0_11, .b a0_12], []⟩
def spec_l6Copy_k2 : List Nat := [1, 2, 3, 5, 56]
def spec_l6Copy_S2 (a0_0 : Int) (a0_1 : Int) (a0_2 : Int) (a0_3 : List (List T)) (a0_4 : Int) (a0_5 : Int) (a0_6 : Int) (a0_7 : Int) (a0_8 : Int) (a0_9 : List (List T)) (a0_10 : Int) (a0_11 : Bool) (a0_12 : Bool) (w8 : List (List T)) : (Int × List (List T)) → St := fun (v16, w16) => ⟨ofSl [(1, .ptr (1, 0) 0), (2, .ptr (2, 0) 0), (3, .ptr (3, 0) 0), (5, .i .i64 v16), (56, .skip)], ofMem [((1, 0), .var [.i .i64 a0_0, .i .i64 a0_1, .i .i64 a0_2, .sl 160 a0_3, .i .i64 a0_4, .i .i64 a0_5, .i .i64 a0_6, .i .i64 a0_7, .i .i64 a0_8, .sl 162 a0_9, .i .i64 a0_10, .b a0_11, .b a0_12]), ((2, 0), .var [.i .i64 0, .i .i64 0, .i .i64 0, .ref (2, 4), .i .i64 0, .i .i64 0, .i .i64 0, .i .i64 0, .i .i64 0, .ref (2, 10), .i .i64 0, .b false, .b false]), ((2, 4), .row 160 true []), ((2, 10), .row 162 true []), ((3, 0), .var [.i .i64 a0_0, .i .i64 a0_1, .i .i64 a0_2, .ref (3, 4), .i .i64 a0_4, .i .i64 a0_5, .i .i64 a0_6, .i .i64 a0_7, .i .i64 a0_8, .ref (3, 10), .i .i64 a0_10, .b a0_11, .b a0_12]), ((3, 4), .row 160 true w8), ((3, 10), .row 162 true w16)]⟩
def spec_l6Copy_L1 (k : Nat) (a0_0 : Int) (a0_1 : Int) (a0_2 : Int) (a0_3 : List (List T)) (a0_4 : Int) (a0_5 : Int) (a0_6 : Int) (a0_7 : Int) (a0_8 : Int) (a0_9 : List (List T)) (a0_10 : Int) (a0_11 : Bool) (a0_12 : Bool) (R2 : List (List T) → (Int × List (List T)) → Option Outs) (G1 : (Int × List (List T)) → Option Outs) : (Int × List (List T)) → Option Outs := fun (v8, w8) =>
 bif (decide (v8 < (a0_3.length : Int))) then
  chk (decide (0 ≤ v8) && decide (v8 < (a0_3.length : Int))) <|
  bindO (evalF E P0 k N.spec_l2Copy [.v [.r (at_ a0_3 v8.toNat 0).asR, .r (at_ a0_3 v8.toNat 1).asR, .b (at_ a0_3 v8.toNat 2).asB, .r (at_ a0_3 v8.toNat 3).asR]]) fun o48 =>
  chk (decide ((w8.length + ([[.r (o48.t 0).asR, .r (o48.t 1).asR, .b (o48.t 2).asB, .r (o48.t 3).asR]] : List (List T)).length) * 80 ≤ 140737488355328)) <|
  G1 ((IntKind.wrap .i64 (v8 + 1)), (w8 ++ ([[.r (o48.t 0).asR, .r (o48.t 1).asR, .b (o48.t 2).asB, .r (o48.t 3).asR]] : List (List T))))
 else
  R2 w8 (0, [])
def spec_l6Copy_k1 : List Nat := [1, 2, 3, 4, 5, 27, 28, 29, 30, 31, 32, 33, 34, 35, 36, 37, 38, 39, 40, 41, 42, 43, 44, 45, 46, 47, 48, 49, 50, 51, 52, 53, 54, 55, 56]
def spec_l6Copy_S1 (a0_0 : Int) (a0_1 : Int) (a0_2 : Int) (a0_3 : List (List T)) (a0_4 : Int) (a0_5 : Int) (a0_6 : Int) (a0_7 : Int) (a0_8 : Int) (a0_9 : List (List T)) (a0_10 : Int) (a0_11 : Bool) (a0_12 : Bool) : (Int × List (List T)) → St := fun (v8, w8) => ⟨ofSl [(1, .ptr (1, 0) 0), (2, .ptr (2, 0) 0), (3, .ptr (3, 0) 0), (4, .i .i64 v8), (5, .skip), (27, .skip), (28, .skip), (29, .skip), (30, .skip), (31, .skip), (32, .skip), (33, .skip), (34, .skip), (35, .skip), (36, .skip), (37, .skip), (38, .skip), (39, .skip), (40, .skip), (41, .skip), (42, .skip), (43, .skip), (44, .skip), (45, .skip), (46, .skip), (47, .skip), (48, .skip), (49, .skip), (50, .skip), (51, .skip), (52, .skip), (53, .skip), (54, .skip), (55, .skip), (56, .skip)], ofMem [((1, 0), .var [.i .i64 a0_0, .i .i64 a0_1, .i .i64 a0_2, .sl 160 a0_3, .i .i64 a0_4, .i .i64 a0_5, .i .i64 a0_6, .i .i64 a0_7, .i .i64 a0_8, .sl 162 a0_9, .i .i64 a0_10, .b a0_11, .b a0_12]), ((2, 0), .var [.i .i64 0, .i .i64 0, .i .i64 0, .ref (2, 4), .i .i64 0, .i .i64 0, .i .i64 0, .i .i64 0, .i .i64 0, .ref (2, 10), .i .i64 0, .b false, .b false]), ((2, 4), .row 160 true []), ((2, 10), .row 162 true []), ((3, 0), .var [.i .i64 a0_0, .i .i64 a0_1, .i .i64 a0_2, .ref (3, 4), .i .i64 a0_4, .i .i64 a0_5, .i .i64 a0_6, .i .i64 a0_7, .i .i64 a0_8, .sl 162 a0_9, .i .i64 a0_10, .b a0_11, .b a0_12]), ((3, 4), .row 160 true w8)]⟩
def spec_l6Copy_l2 (k : Nat) (a0_0 : Int) (a0_1 : Int) (a0_2 : Int) (a0_3 : List (List T)) (a0_4 : Int) (a0_5 : Int) (a0_6 : Int) (a0_7 : Int) (a0_8 : Int) (a0_9 : List (List T)) (a0_10 : Int) (a0_11 : Bool) (a0_12 : Bool) (w8 : List (List T)) (G2 : (Int × List (List T)) → Option Outs) : (Int × List (List T)) → Option Outs :=
  spec_l6Copy_L2 k a0_0 a0_1 a0_2 a0_3 a0_4 a0_5 a0_6 a0_7 a0_8 a0_9 a0_10 a0_11 a0_12 w8 G2
def spec_l6Copy_l1 (k : Nat) (a0_0 : Int) (a0_1 : Int) (a0_2 : Int) (a0_3 : List (List T)) (a0_4 : Int) (a0_5 : Int) (a0_6 : Int) (a0_7 : Int) (a0_8 : Int) (a0_9 : List (List T)) (a0_10 : Int) (a0_11 : Bool) (a0_12 : Bool) (G1 : (Int × List (List T)) → Option Outs) : (Int × List (List T)) → Option Outs :=
  spec_l6Copy_L1 k a0_0 a0_1 a0_2 a0_3 a0_4 a0_5 a0_6 a0_7 a0_8 a0_9 a0_10 a0_11 a0_12 (fun y0 v => fixN (spec_l6Copy_l2 k a0_0 a0_1 a0_2 a0_3 a0_4 a0_5 a0_6 a0_7 a0_8 a0_9 a0_10 a0_11 a0_12 y0) k v) G1
def spec_l6Copy_U (k : Nat) (a0_0 : Int) (a0_1 : Int) (a0_2 : Int) (a0_3 : List (List T)) (a0_4 : Int) (a0_5 : Int) (a0_6 : Int) (a0_7 : Int) (a0_8 : Int) (a0_9 : List (List T)) (a0_10 : Int) (a0_11 : Bool) (a0_12 : Bool) (R1 : (Int × List (List T)) → Option Outs) : Option Outs :=
 R1 (0, [])
def spec_l6Copy_u (k : Nat) (a0_0 : Int) (a0_1 : Int) (a0_2 : Int) (a0_3 : List (List T)) (a0_4 : Int) (a0_5 : Int) (a0_6 : Int) (a0_7 : Int) (a0_8 : Int) (a0_9 : List (List T)) (a0_10 : Int) (a0_11 : Bool) (a0_12 : Bool) : Option Outs :=
  spec_l6Copy_U k a0_0 a0_1 a0_2 a0_3 a0_4 a0_5 a0_6 a0_7 a0_8 a0_9 a0_10 a0_11 a0_12 (fun v => fixN (spec_l6Copy_l1 k a0_0 a0_1 a0_2 a0_3 a0_4 a0_5 a0_6 a0_7 a0_8 a0_9 a0_10 a0_11 a0_12) k v)
def spec_l6Copy_it1 (k : Nat) (a0_0 : Int) (a0_1 : Int) (a0_2 : Int) (a0_3 : List (List T)) (a0_4 : Int) (a0_5 : Int) (a0_6 : Int) (a0_7 : Int) (a0_8 : Int) (a0_9 : List (List T)) (a0_10 : Int) (a0_11 : Bool) (a0_12 : Bool) (js : List Nat) (j : Nat) (s : St) : Option Outs := iter E (LB E (evalF E P0 k) k [] N.spec_l6Copy [.sr, .sr, .sr, .sl, .sr, .bl]) [] spec_l6Copy_k1 (LK E (evalF E P0 k) k [] N.spec_l6Copy [.v [.i a0_0, .i a0_1, .i a0_2, .r a0_3, .i a0_4, .i a0_5, .i a0_6, .i a0_7, .i a0_8, .r a0_9, .i a0_10, .b a0_11, .b a0_12]] [.sr, .sr, .sr, .sl, .sr, .bl] js) j s
def spec_l6Copy_it2 (k : Nat) (a0_0 : Int) (a0_1 : Int) (a0_2 : Int) (a0_3 : List (List T)) (a0_4 : Int) (a0_5 : Int) (a0_6 : Int) (a0_7 : Int) (a0_8 : Int) (a0_9 : List (List T)) (a0_10 : Int) (a0_11 : Bool) (a0_12 : Bool) (js : List Nat) (j : Nat) (s : St) : Option Outs := iter E (LB E (evalF E P0 k) k [] N.spec_l6Copy [.sr, .sr, .sr, .sr, .sr, .sl, .sr, .bl]) [] spec_l6Copy_k2 (LK E (evalF E P0 k) k [] N.spec_l6Copy [.v [.i a0_0, .i a0_1, .i a0_2, .r a0_3, .i a0_4, .i a0_5, .i a0_6, .i a0_7, .i a0_8, .r a0_9, .i a0_10, .b a0_11, .b a0_12]] [.sr, .sr, .sr, .sr, .sr, .sl, .sr, .bl] js) j s
theorem spec_l6Copy_e (k : Nat) (a0_0 : Int) (a0_1 : Int) (a0_2 : Int) (a0_3 : List (List T)) (a0_4 : Int) (a0_5 : Int) (a0_6 : Int) (a0_7 : Int) (a0_8 : Int) (a0_9 : List (List T)) (a0_10 : Int) (a0_11 : Bool) (a0_12 : Bool) : evalF E P0 (k + 1) N.spec_l6Copy [.v [.i a0_0, .i a0_1, .i a0_2, .r a0_3, .i a0_4, .i a0_5, .i a0_6, .i a0_7, .i a0_8, .r a0_9, .i a0_10, .b a0_11, .b a0_12]] = spec_l6Copy_u k a0_0 a0_1 a0_2 a0_3 a0_4 a0_5 a0_6 a0_7 a0_8 a0_9 a0_10 a0_11 a0_12 := by
  have e0 : evalF E P0 (k + 1) N.spec_l6Copy [.v [.i a0_0, .i a0_1, .i a0_2, .r a0_3, .i a0_4, .i a0_5, .i a0_6, .i a0_7, .i a0_8, .r a0_9, .i a0_10, .b a0_11, .b a0_12]] = spec_l6Copy_U k a0_0 a0_1 a0_2 a0_3 a0_4 a0_5 a0_6 a0_7 a0_8 a0_9 a0_10 a0_11 a0_12 (fun v => spec_l6Copy_it1 k a0_0 a0_1 a0_2 a0_3 a0_4 a0_5 a0_6 a0_7 a0_8 a0_9 a0_10 a0_11 a0_12 [] k (spec_l6Copy_S1 a0_0 a0_1 a0_2 a0_3 a0_4 a0_5 a0_6 a0_7 a0_8 a0_9 a0_10 a0_11 a0_12 v)) := by kernel_rfl
  have e2 : ∀ (w8 : List (List T)) (j2 : Nat) (v : Int × List (List T)), spec_l6Copy_it2 k a0_0 a0_1 a0_2 a0_3 a0_4 a0_5 a0_6 a0_7 a0_8 a0_9 a0_10 a0_11 a0_12 [] (j2 + 1) (spec_l6Copy_S2 a0_0 a0_1 a0_2 a0_3 a0_4 a0_5 a0_6 a0_7 a0_8 a0_9 a0_10 a0_11 a0_12 w8 v) = spec_l6Copy_L2 k a0_0 a0_1 a0_2 a0_3 a0_4 a0_5 a0_6 a0_7 a0_8 a0_9 a0_10 a0_11 a0_12 w8 (fun v => spec_l6Copy_it2 k a0_0 a0_1 a0_2 a0_3 a0_4 a0_5 a0_6 a0_7 a0_8 a0_9 a0_10 a0_11 a0_12 [] j2 (spec_l6Copy_S2 a0_0 a0_1 a0_2 a0_3 a0_4 a0_5 a0_6 a0_7 a0_8 a0_9 a0_10 a0_11 a0_12 w8 v)) v := by
    intro w8 j2 v; kernel_rfl
  have i2 : ∀ (w8 : List (List T)) (j2 : Nat) (v : Int × List (List T)), spec_l6Copy_it2 k a0_0 a0_1 a0_2 a0_3 a0_4 a0_5 a0_6 a0_7 a0_8 a0_9 a0_10 a0_11 a0_12 [] j2 (spec_l6Copy_S2 a0_0 a0_1 a0_2 a0_3 a0_4 a0_5 a0_6 a0_7 a0_8 a0_9 a0_10 a0_11 a0_12 w8 v) = fixN (spec_l6Copy_l2 k a0_0 a0_1 a0_2 a0_3 a0_4 a0_5 a0_6 a0_7 a0_8 a0_9 a0_10 a0_11 a0_12 w8) j2 v := by
    intro w8 j2 v
    refine iter_fix (spec_l6Copy_S2 a0_0 a0_1 a0_2 a0_3 a0_4 a0_5 a0_6 a0_7 a0_8 a0_9 a0_10 a0_11 a0_12 w8) (spec_l6Copy_l2 k a0_0 a0_1 a0_2 a0_3 a0_4 a0_5 a0_6 a0_7 a0_8 a0_9 a0_10 a0_11 a0_12 w8) (fun j2 v => (e2 w8 j2 v).trans ?_) j2 v
    unfold spec_l6Copy_l2
    rfl
  have e1 : ∀ (j1 : Nat) (v : Int × List (List T)), spec_l6Copy_it1 k a0_0 a0_1 a0_2 a0_3 a0_4 a0_5 a0_6 a0_7 a0_8 a0_9 a0_10 a0_11 a0_12 [] (j1 + 1) (spec_l6Copy_S1 a0_0 a0_1 a0_2 a0_3 a0_4 a0_5 a0_6 a0_7 a0_8 a0_9 a0_10 a0_11 a0_12 v) = spec_l6Copy_L1 k a0_0 a0_1 a0_2 a0_3 a0_4 a0_5 a0_6 a0_7 a0_8 a0_9 a0_10 a0_11 a0_12 (fun y0 v => spec_l6Copy_it2 k a0_0 a0_1 a0_2 a0_3 a0_4 a0_5 a0_6 a0_7 a0_8 a0_9 a0_10 a0_11 a0_12 [] k (spec_l6Copy_S2 a0_0 a0_1 a0_2 a0_3 a0_4 a0_5 a0_6 a0_7 a0_8 a0_9 a0_10 a0_11 a0_12 y0 v)) (fun v => spec_l6Copy_it1 k a0_0 a0_1 a0_2 a0_3 a0_4 a0_5 a0_6 a0_7 a0_8 a0_9 a0_10 a0_11 a0_12 [] j1 (spec_l6Copy_S1 a0_0 a0_1 a0_2 a0_3 a0_4 a0_5 a0_6 a0_7 a0_8 a0_9 a0_10 a0_11 a0_12 v)) v := by
    intro j1 v; kernel_rfl
  have i1 : ∀ (j1 : Nat) (v : Int × List (List T)), spec_l6Copy_it1 k a0_0 a0_1 a0_2 a0_3 a0_4 a0_5 a0_6 a0_7 a0_8 a0_9 a0_10 a0_11 a0_12 [] j1 (spec_l6Copy_S1 a0_0 a0_1 a0_2 a0_3 a0_4 a0_5 a0_6 a0_7 a0_8 a0_9 a0_10 a0_11 a0_12 v) = fixN (spec_l6Copy_l1 k a0_0 a0_1 a0_2 a0_3 a0_4 a0_5 a0_6 a0_7 a0_8 a0_9 a0_10 a0_11 a0_12) j1 v := by
    intro j1 v
    refine iter_fix (spec_l6Copy_S1 a0_0 a0_1 a0_2 a0_3 a0_4 a0_5 a0_6 a0_7 a0_8 a0_9 a0_10 a0_11 a0_12) (spec_l6Copy_l1 k a0_0 a0_1 a0_2 a0_3 a0_4 a0_5 a0_6 a0_7 a0_8 a0_9 a0_10 a0_11 a0_12) (fun j1 v => (e1 j1 v).trans ?_) j1 v
    unfold spec_l6Copy_l1
    simp only [i2] <;> rfl
  rw [e0]; unfold spec_l6Copy_u
  simp only [i1]
def spec_l13Copy_u (k : Nat) (a0_0 : Int) (a0_1 : Int) (a0_2 : Int) (a0_3 : Int) (a0_4 : List (List T)) : Option Outs :=
 chk (decide ((([] : List (List T)).length + a0_4.length) * 8 ≤ 140737488355328)) <|
 some ⟨[.i a0_0, .i a0_1, .i a0_2, .i a0_3, .r (([] : List (List T)) ++ a0_4)], []⟩
theorem spec_l13Copy_e (k : Nat) (a0_0 : Int) (a0_1 : Int) (a0_2 : Int) (a0_3 : Int) (a0_4 : List (List T)) : evalF E P0 (k + 1) N.spec_l13Copy [.v [.i a0_0, .i a0_1, .i a0_2, .i a0_3, .r a0_4]] = spec_l13Copy_u k a0_0 a0_1 a0_2 a0_3 a0_4 := by kernel_rfl
def spec_l15Ans_u (k : Nat) (a0_0 : Int) (a0_1 : Int) (a0_2 : List (List T)) : Option Outs :=
 chk (decide ((([] : List (List T)).length + a0_2.length) * 8 ≤ 140737488355328)) <|
 some ⟨[.i a0_0, .i a0_1, .r (([] : List (List T)) ++ a0_2)], []⟩
theorem spec_l15Ans_e (k : Nat) (a0_0 : Int) (a0_1 : Int) (a0_2 : List (List T)) : evalF E P0 (k + 1) N.spec_l15Ans [.v [.i a0_0, .i a0_1, .r a0_2]] = spec_l15Ans_u k a0_0 a0_1 a0_2 := by kernel_rfl
def spec_l15Copy_L4 (k : Nat) (a0_0 : Int) (a0_1 : Int) (a0_2 : Int) (a0_3 : List (List T)) (a0_4 : Int) (a0_5 : Int) (a0_6 : Int) (a0_7 : Int) (a0_8 : Int) (a0_9 : List (List T)) (a0_10 : Int) (a0_11 : Bool) (a0_12 : Bool) (a0_13 : List (List T)) (a0_14 : List (List T)) (a0_15 : List (List T)) (a0_16 : List (List T)) (o2 : Outs) (w8 : List (List T)) (w16 : List (List T)) (w24 : List (List T)) (G4 : (Int × List (List T)) → Option Outs) : (Int × List (List T)) → Option Outs := fun (v32, w32) =>
 bif (decide (v32 < (a0_16.length : Int))) then
  chk (decide (0 ≤ v32) && decide (v32 < (a0_16.length : Int))) <|
  bindO (evalF E P0 k N.spec_l13Copy [.v [.i (at_ a0_16 v32.toNat 0).asI, .i (at_ a0_16 v32.toNat 1).asI, .i (at_ a0_16 v32.toNat 2).asI, .i (at_ a0_16 v32.toNat 3).asI, .r (at_ a0_16 v32.toNat 4).asR]]) fun o241 =>
  chk (decide (0 ≤ v32) && decide (v32 < (a0_16.length : Int))) <|
  bindO (evalF E P0 k N.spec_l15Ans [.v [.i (at_ a0_16 v32.toNat 5).asI, .i (at_ a0_16 v32.toNat 6).asI, .r (at_ a0_16 v32.toNat 7).asR]]) fun o242 =>
  chk (decide ((w32.length + ([[.i (o241.t 0).asI, .i (o241.t 1).asI, .i (o241.t 2).asI, .i (o241.t 3).asI, .r (o241.t 4).asR, .i (o242.t 0).asI, .i (o242.t 1).asI, .r (o242.t 2).asR]] : List (List T)).length) * 96 ≤ 140737488355328)) <|
  G4 ((IntKind.wrap .i64 (v32 + 1)), (w32 ++ ([[.i (o241.t 0).asI, .i (o241.t 1).asI, .i (o241.t 2).asI, .i (o241.t 3).asI, .r (o241.t 4).asR, .i (o242.t 0).asI, .i (o242.t 1).asI, .r (o242.t 2).asR]] : List (List T))))
 else
  some ⟨[.i (o2.t 0).asI, .i (o2.t 1).asI, .i (o2.t 2).asI, .r (o2.t 3).asR, .i (o2.t 4).asI, .i (o2.t 5).asI, .i (o2.t 6).asI, .i (o2.t 7).asI, .i (o2.t 8).asI, .r (o2.t 9).asR, .i (o2.t 10).asI, .b (o2.t 11).asB, .b (o2.t 12).asB, .r w8, .r w16, .r w24, .r w32], []⟩
def spec_l15Copy_k4 : List Nat := [1, 2, 3, 8, 105]
def spec_l15Copy_S4 (a0_0 : Int) (a0_1 : Int) (a0_2 : Int) (a0_3 : List (List T)) (a0_4 : Int) (a0_5 : Int) (a0_6 : Int) (a0_7 : Int) (a0_8 : Int) (a0_9 : List (List T)) (a0_10 : Int) (a0_11 : Bool) (a0_12 : Bool) (a0_13 : List (List T)) (a0_14 : List (List T)) (a0_15 : List (List T)) (a0_16 : List (List T)) (o2 : Outs) (w8 : List (List T)) (w16 : List (List T)) (w24 : List (List T)) : (Int × List (List T)) → St := fun (v32, w32) => ⟨ofSl [(1, .ptr (1, 0) 0), (2, .ptr (2, 0) 0), (3, .ptr (3, 0) 0), (8, .i .i64 v32), (105, .skip)], ofMem [((1, 0), .var [.i .i64 a0_0, .i .i64 a0_1, .i .i64 a0_2, .sl 160 a0_3, .i .i64 a0_4, .i .i64 a0_5, .i .i64 a0_6, .i .i64 a0_7, .i .i64 a0_8, .sl 162 a0_9, .i .i64 a0_10, .b a0_11, .b a0_12, .sl 53 a0_13, .sl 103 a0_14, .sl 61 a0_15, .sl 120 a0_16]), ((2, 0), .var [.i .i64 0, .i .i64 0, .i .i64 0, .ref (2, 4), .i .i64 0, .i .i64 0, .i .i64 0, .i .i64 0, .i .i64 0, .ref (2, 10), .i .i64 0, .b false, .b false, .ref (2, 14), .ref (2, 15), .ref (2, 16), .ref (2, 17)]), ((2, 4), .row 160 true []), ((2, 10), .row 162 true []), ((2, 14), .row 53 true []), ((2, 15), .row 103 true []), ((2, 16), .row 61 true []), ((2, 17), .row 120 true []), ((3, 0), .var [.i .i64 (o2.t 0).asI, .i .i64 (o2.t 1).asI, .i .i64 (o2.t 2).asI, .ref (3, 4), .i .i64 (o2.t 4).asI, .i .i64 (o2.t 5).asI, .i .i64 (o2.t 6).asI, .i .i64 (o2.t 7).asI, .i .i64 (o2.t 8).asI, .ref (3, 10), .i .i64 (o2.t 10).asI, .b (o2.t 11).asB, .b (o2.t 12).asB, .ref (3, 14), .ref (3, 15), .ref (3, 16), .ref (3, 17)]), ((3, 4), .row 160 true (o2.t 3).asR), ((3, 10), .row 162 true (o2.t 9).asR), ((3, 14), .row 53 true w8), ((3, 15), .row 103 true w16), ((3, 16), .row 61 true w24), ((3, 17), .row 120 true w32)]⟩
def spec_l15Copy_L3 (k : Nat) (a0_0 : Int) (a0_1 : Int) (a0_2 : Int) (a0_3 : List (List T)) (a0_4 : Int) (a0_5 : Int) (a0_6 : Int) (a0_7 : Int) (a0_8 : Int) (a0_9 : List (List T)) (a0_10 : Int) (a0_11 : Bool) (a0_12 : Bool) (a0_13 : List (List T)) (a0_14 : List (List T)) (a0_15 : List (List T)) (a0_16 : List (List T)) (o2 : Outs) (w8 : List (List T)) (w16 : List (List T)) (R4 : Outs → List (List T) → List (List T) → List (List T) → (Int × List (List T)) → Option Outs) (G3 : (Int × List (List T)) → Option Outs) : (Int × List (List T)) → Option Outs := fun (v24, w24) =>
 bif (decide (v24 < (a0_15.length : Int))) then
  chk (decide (0 ≤ v24) && decide (v24 < (a0_15.length : Int))) <|
  bindO (evalF E P0 k N.spec_l15Ans [.v [.i (at_ a0_15 v24.toNat 0).asI, .i (at_ a0_15 v24.toNat 1).asI, .r (at_ a0_15 v24.toNat 2).asR]]) fun o146 =>
  chk (decide ((w24.length + ([[.i (o146.t 0).asI, .i (o146.t 1).asI, .r (o146.t 2).asR]] : List (List T)).length) * 40 ≤ 140737488355328)) <|
  G3 ((IntKind.wrap .i64 (v24 + 1)), (w24 ++ ([[.i (o146.t 0).asI, .i (o146.t 1).asI, .r (o146.t 2).asR]] : List (List T))))
 else
  R4 o2 w8 w16 w24 (0, [])
def spec_l15Copy_k3 : List Nat := [1, 2, 3, 7, 8, 78, 79, 80, 81, 82, 83, 84, 85, 86, 87, 88, 89, 90, 91, 92, 93, 94, 95, 96, 97, 98, 99, 100, 101, 102, 103, 104, 105]
def spec_l15Copy_S3 (a0_0 : Int) (a0_1 : Int) (a0_2 : Int) (a0_3 : List (List T)) (a0_4 : Int) (a0_5 : Int) (a0_6 : Int) (a0_7 : Int) (a0_8 : Int) (a0_9 : List (List T)) (a0_10 : Int) (a0_11 : Bool) (a0_12 : Bool) (a0_13 : List (List T)) (a0_14 : List (List T)) (a0_15 : List (List T)) (a0_16 : List (List T)) (o2 : Outs) (w8 : List (List T)) (w16 : List (List T)) : (Int × List (List T)) → St := fun (v24, w24) => ⟨ofSl [(1, .ptr (1, 0) 0), (2, .ptr (2, 0) 0), (3, .ptr (3, 0) 0), (7, .i .i64 v24), (8, .skip), (78, .skip), (79, .skip), (80, .skip), (81, .skip), (82, .skip), (83, .skip), (84, .skip), (85, .skip), (86, .skip), (87, .skip), (88, .skip), (89, .skip), (90, .skip), (91, .skip), (92, .skip), (93, .skip), (94, .skip), (95, .skip), (96, .skip), (97, .skip), (98, .skip), (99, .skip), (100, .skip), (101, .skip), (102, .skip), (103, .skip), (104, .skip), (105, .skip)], ofMem [((1, 0), .var [.i .i64 a0_0, .i .i64 a0_1, .i .i64 a0_2, .sl 160 a0_3, .i .i64 a0_4, .i .i64 a0_5, .i .i64 a0_6, .i .i64 a0_7, .i .i64 a0_8, .sl 162 a0_9, .i .i64 a0_10, .b a0_11, .b a0_12, .sl 53 a0_13, .sl 103 a0_14, .sl 61 a0_15, .sl 120 a0_16]), ((2, 0), .var [.i .i64 0, .i .i64 0, .i .i64 0, .ref (2, 4), .i .i64 0, .i .i64 0, .i .i64 0, .i .i64 0, .i .i64 0, .ref (2, 10), .i .i64 0, .b false, .b false, .ref (2, 14), .ref (2, 15), .ref (2, 16), .ref (2, 17)]), ((2, 4), .row 160 true []), ((2, 10), .row 162 true []), ((2, 14), .row 53 true []), ((2, 15), .row 103 true []), ((2, 16), .row 61 true []), ((2, 17), .row 120 true []), ((3, 0), .var [.i .i64 (o2.t 0).asI, .i .i64 (o2.t 1).asI, .i .i64 (o2.t 2).asI, .ref (3, 4), .i .i64 (o2.t 4).asI, .i .i64 (o2.t 5).asI, .i .i64 (o2.t 6).asI, .i .i64 (o2.t 7).asI, .i .i64 (o2.t 8).asI, .ref (3, 10), .i .i64 (o2.t 10).asI, .b (o2.t 11).asB, .b (o2.t 12).asB, .ref (3, 14), .ref (3, 15), .ref (3, 16), .ref (3, 17)]), ((3, 4), .row 160 true (o2.t 3).asR), ((3, 10), .row 162 true (o2.t 9).asR), ((3, 14), .row 53 true w8), ((3, 15), .row 103 true w16), ((3, 16), .row 61 true w24), ((3, 17), .row 120 true [])]⟩
def spec_l15Copy_L2 (k : Nat) (a0_0 : Int) (a0_1 : Int) (a0_2 : Int) (a0_3 : List (List T)) (a0_4 : Int) (a0_5 : Int) (a0_6 : Int) (a0_7 : Int) (a0_8 : Int) (a0_9 : List (List T)) (a0_10 : Int) (a0_11 : Bool) (a0_12 : Bool) (a0_13 : List (List T)) (a0_14 : List (List T)) (a0_15 : List (List T)) (a0_16 : List (List T)) (o2 : Outs) (w8 : List (List T)) (R3 : Outs → List (List T) → List (List T) → (Int × List (List T)) → Option Outs) (G2 : (Int × List (List T)) → Option Outs) : (Int × List (List T)) → Option Outs := fun (v16, w16) =>
 bif (decide (v16 < (a0_14.length : Int))) then
  chk (decide (0 ≤ v16) && decide (v16 < (a0_14.length : Int))) <|
  bindO (evalF E P0 k N.spec_l13Copy [.v [.i (at_ a0_14 v16.toNat 0).asI, .i (at_ a0_14 v16.toNat 1).asI, .i (at_ a0_14 v16.toNat 2).asI, .i (at_ a0_14 v16.toNat 3).asI, .r (at_ a0_14 v16.toNat 4).asR]]) fun o98 =>
  chk (decide ((([] : List (List T)).length + (at_ a0_14 v16.toNat 6).asR.length) * 8 ≤ 140737488355328)) <|
  chk (decide ((w16.length + ([[.i (o98.t 0).asI, .i (o98.t 1).asI, .i (o98.t 2).asI, .i (o98.t 3).asI, .r (o98.t 4).asR, .i (at_ a0_14 v16.toNat 5).asI, .r (([] : List (List T)) ++ (at_ a0_14 v16.toNat 6).asR), .i (at_ a0_14 v16.toNat 7).asI]] : List (List T)).length) * 96 ≤ 140737488355328)) <|
  G2 ((IntKind.wrap .i64 (v16 + 1)), (w16 ++ ([[.i (o98.t 0).asI, .i (o98.t 1).asI, .i (o98.t 2).asI, .i (o98.t 3).asI, .r (o98.t 4).asR, .i (at_ a0_14 v16.toNat 5).asI, .r (([] : List (List T)) ++ (at_ a0_14 v16.toNat 6).asR), .i (at_ a0_14 v16.toNat 7).asI]] : List (List T))))
 else
  R3 o2 w8 w16 (0, [])
def spec_l15Copy_k2 : List Nat := [1, 2, 3, 5, 7, 8, 60, 61, 62, 63, 64, 65, 66, 67, 68, 69, 70, 71, 72, 73, 74, 75, 76, 77, 78, 79, 80, 81, 82, 83, 84, 85, 86, 87, 88, 89, 90, 91, 92, 93, 94, 95, 96, 97, 98, 99, 100, 101, 102, 103, 104, 105]
def spec_l15Copy_S2 (a0_0 : Int) (a0_1 : Int) (a0_2 : Int) (a0_3 : List (List T)) (a0_4 : Int) (a0_5 : Int) (a0_6 : Int) (a0_7 : Int) (a0_8 : Int) (a0_9 : List (List T)) (a0_10 : Int) (a0_11 : Bool) (a0_12 : Bool) (a0_13 : List (List T)) (a0_14 : List (List T)) (a0_15 : List (List T)) (a0_16 : List (List T)) (o2 : Outs) (w8 : List (List T)) : (Int × List (List T)) → St := fun (v16, w16) => ⟨ofSl [(1, .ptr (1, 0) 0), (2, .ptr (2, 0) 0), (3, .ptr (3, 0) 0), (5, .i .i64 v16), (7, .skip), (8, .skip), (60, .skip), (61, .skip), (62, .skip), (63, .skip), (64, .skip), (65, .skip), (66, .skip), (67, .skip), (68, .skip), (69, .skip), (70, .skip), (71, .skip), (72, .skip), (73, .skip), (74, .skip), (75, .skip), (76, .skip), (77, .skip), (78, .skip), (79, .skip), (80, .skip), (81, .skip), (82, .skip), (83, .skip), (84, .skip), (85, .skip), (86, .skip), (87, .skip), (88, .skip), (89, .skip), (90, .skip), (91, .skip), (92, .skip), (93, .skip), (94, .skip), (95, .skip), (96, .skip), (97, .skip), (98, .skip), (99, .skip), (100, .skip), (101, .skip), (102, .skip), (103, .skip), (104, .skip), (105, .skip)], ofMem [((1, 0), .var [.i .i64 a0_0, .i .i64 a0_1, .i .i64 a0_2, .sl 160 a0_3, .i .i64 a0_4, .i .i64 a0_5, .i .i64 a0_6, .i .i64 a0_7, .i .i64 a0_8, .sl 162 a0_9, .i .i64 a0_10, .b a0_11, .b a0_12, .sl 53 a0_13, .sl 103 a0_14, .sl 61 a0_15, .sl 120 a0_16]), ((2, 0), .var [.i .i64 0, .i .i64 0, .i .i64 0, .ref (2, 4), .i .i64 0, .i .i64 0, .i .i64 0, .i .i64 0, .i .i64 0, .ref (2, 10), .i .i64 0, .b false, .b false, .ref (2, 14), .ref (2, 15), .ref (2, 16), .ref (2, 17)]), ((2, 4), .row 160 true []), ((2, 10), .row 162 true []), ((2, 14), .row 53 true []), ((2, 15), .row 103 true []), ((2, 16), .row 61 true []), ((2, 17), .row 120 true []), ((3, 0), .var [.i .i64 (o2.t 0).asI, .i .i64 (o2.t 1).asI, .i .i64 (o2.t 2).asI, .ref (3, 4), .i .i64 (o2.t 4).asI, .i .i64 (o2.t 5).asI, .i .i64 (o2.t 6).asI, .i .i64 (o2.t 7).asI, .i .i64 (o2.t 8).asI, .ref (3, 10), .i .i64 (o2.t 10).asI, .b (o2.t 11).asB, .b (o2.t 12).asB, .ref (3, 14), .ref (3, 15), .ref (3, 16), .ref (3, 17)]), ((3, 4), .row 160 true (o2.t 3).asR), ((3, 10), .row 162 true (o2.t 9).asR), ((3, 14), .row 53 true w8), ((3, 15), .row 103 true w16), ((3, 16), .row 61 true []), ((3, 17), .row 120 true [])]⟩
def spec_l15Copy_L1 (k : Nat) (a0_0 : Int) (a0_1 : Int) (a0_2 : Int) (a0_3 : List (List T)) (a0_4 : Int) (a0_5 : Int) (a0_6 : Int) (a0_7 : Int) (a0_8 : Int) (a0_9 : List (List T)) (a0_10 : Int) (a0_11 : Bool) (a0_12 : Bool) (a0_13 : List (List T)) (a0_14 : List (List T)) (a0_15 : List (List T)) (a0_16 : List (List T)) (o2 : Outs) (R2 : Outs → List (List T) → (Int × List (List T)) → Option Outs) (G1 : (Int × List (List T)) → Option Outs) : (Int × List (List T)) → Option Outs := fun (v8, w8) =>
 bif (decide (v8 < (a0_13.length : Int))) then
  chk (decide (0 ≤ v8) && decide (v8 < (a0_13.length : Int))) <|
  bindO (evalF E P0 k N.spec_l13Copy [.v [.i (at_ a0_13 v8.toNat 0).asI, .i (at_ a0_13 v8.toNat 1).asI, .i (at_ a0_13 v8.toNat 2).asI, .i (at_ a0_13 v8.toNat 3).asI, .r (at_ a0_13 v8.toNat 4).asR]]) fun o50 =>
  chk (decide ((w8.length + ([[.i (o50.t 0).asI, .i (o50.t 1).asI, .i (o50.t 2).asI, .i (o50.t 3).asI, .r (o50.t 4).asR]] : List (List T)).length) * 56 ≤ 140737488355328)) <|
  G1 ((IntKind.wrap .i64 (v8 + 1)), (w8 ++ ([[.i (o50.t 0).asI, .i (o50.t 1).asI, .i (o50.t 2).asI, .i (o50.t 3).asI, .r (o50.t 4).asR]] : List (List T))))
 else
  R2 o2 w8 (0, [])
def spec_l15Copy_k1 : List Nat := [1, 2, 3, 4, 5, 6, 7, 8, 31, 32, 33, 34, 35, 36, 37, 38, 39, 40, 41, 42, 43, 44, 45, 46, 47, 48, 49, 50, 51, 52, 53, 54, 55, 56, 57, 58, 59, 60, 61, 62, 63, 64, 65, 66, 67, 68, 69, 70, 71, 72, 73, 74, 75, 76, 77, 78, 79, 80, 81, 82, 83, 84, 85, 86, 87, 88, 89, 90, 91, 92, 93, 94, 95, 96, 97, 98, 99, 100, 101, 102, 103, 104, 105]
def spec_l15Copy_S1 (a0_0 : Int) (a0_1 : Int) (a0_2 : Int) (a0_3 : List (List T)) (a0_4 : Int) (a0_5 : Int) (a0_6 : Int) (a0_7 : Int) (a0_8 : Int) (a0_9 : List (List T)) (a0_10 : Int) (a0_11 : Bool) (a0_12 : Bool) (a0_13 : List (List T)) (a0_14 : List (List T)) (a0_15 : List (List T)) (a0_16 : List (List T)) (o2 : Outs) : (Int × List (List T)) → St := fun (v8, w8) => ⟨ofSl [(1, .ptr (1, 0) 0), (2, .ptr (2, 0) 0), (3, .ptr (3, 0) 0), (4, .i .i64 v8), (5, .skip), (6, .skip), (7, .skip), (8, .skip), (31, .skip), (32, .skip), (33, .skip), (34, .skip), (35, .skip), (36, .skip), (37, .skip), (38, .skip), (39, .skip), (40, .skip), (41, .skip), (42, .skip), (43, .skip), (44, .skip), (45, .skip), (46, .skip), (47, .skip), (48, .skip), (49, .skip), (50, .skip), (51, .skip), (52, .skip), (53, .skip), (54, .skip), (55, .skip), (56, .skip), (57, .skip), (58, .skip), (59, .skip), (60, .skip), (61, .skip), (62, .skip), (63, .skip), (64, .skip), (65, .skip), (66, .skip), (67, .skip), (68, .skip), (69, .skip), (70, .skip), (71, .skip), (72, .skip), (73, .skip), (74, .skip), (75, .skip), (76, .skip), (77, .skip), (78, .skip), (79, .skip), (80, .skip), (81, .skip), (82, .skip), (83, .skip), (84, .skip), (85, .skip), (86, .skip), (87, .skip), (88, .skip), (89, .skip), (90, .skip), (91, .skip), (92, .skip), (93, .skip), (94, .skip), (95, .skip), (96, .skip), (97, .skip), (98, .skip), (99, .skip), (100, .skip), (101, .skip), (102, .skip), (103, .skip), (104, .skip), (105, .skip)], ofMem [((1, 0), .var [.i .i64 a0_0, .i .i64 a0_1, .i .i64 a0_2, .sl 160 a0_3, .i .i64 a0_4, .i .i64 a0_5, .i .i64 a0_6, .i .i64 a0_7, .i .i64 a0_8, .sl 162 a0_9, .i .i64 a0_10, .b a0_11, .b a0_12, .sl 53 a0_13, .sl 103 a0_14, .sl 61 a0_15, .sl 120 a0_16]), ((2, 0), .var [.i .i64 0, .i .i64 0, .i .i64 0, .ref (2, 4), .i .i64 0, .i .i64 0, .i .i64 0, .i .i64 0, .i .i64 0, .ref (2, 10), .i .i64 0, .b false, .b false, .ref (2, 14), .ref (2, 15), .ref (2, 16), .ref (2, 17)]), ((2, 4), .row 160 true []), ((2, 10), .row 162 true []), ((2, 14), .row 53 true []), ((2, 15), .row 103 true []), ((2, 16), .row 61 true []), ((2, 17), .row 120 true []), ((3, 0), .var [.i .i64 (o2.t 0).asI, .i .i64 (o2.t 1).asI, .i .i64 (o2.t 2).asI, .ref (3, 4), .i .i64 (o2.t 4).asI, .i .i64 (o2.t 5).asI, .i .i64 (o2.t 6).asI, .i .i64 (o2.t 7).asI, .i .i64 (o2.t 8).asI, .ref (3, 10), .i .i64 (o2.t 10).asI, .b (o2.t 11).asB, .b (o2.t 12).asB, .ref (3, 14), .ref (3, 15), .ref (3, 16), .ref (3, 17)]), ((3, 4), .row 160 true (o2.t 3).asR), ((3, 10), .row 162 true (o2.t 9).asR), ((3, 14), .row 53 true w8), ((3, 15), .row 103 true []), ((3, 16), .row 61 true []), ((3, 17), .row 120 true [])]⟩
def spec_l15Copy_l4 (k : Nat) (a0_0 : Int) (a0_1 : Int) (a0_2 : Int) (a0_3 : List (List T)) (a0_4 : Int) (a0_5 : Int) (a0_6 : Int) (a0_7 : Int) (a0_8 : Int) (a0_9 : List (List T)) (a0_10 : Int) (a0_11 : Bool) (a0_12 : Bool) (a0_13 : List (List T)) (a0_14 : List (List T)) (a0_15 : List (List T)) (a0_16 : List (List T)) (o2 : Outs) (w8 : List (List T)) (w16 : List (List T)) (w24 : List (List T)) (G4 : (Int × List (List T)) → Option Outs) : (Int × List (List T)) → Option Outs :=
  spec_l15Copy_L4 k a0_0 a0_1 a0_2 a0_3 a0_4 a0_5 a0_6 a0_7 a0_8 a0_9 a0_10 a0_11 a0_12 a0_13 a0_14 a0_15 a0_16 o2 w8 w16 w24 G4
def spec_l15Copy_l3 (k : Nat) (a0_0 : Int) (a0_1 : Int) (a0_2 : Int) (a0_3 : List (List T)) (a0_4 : Int) (a0_5 : Int) (a0_6 : Int) (a0_7 : Int) (a0_8 : Int) (a0_9 : List (List T)) (a0_10 : Int) (a0_11 : Bool) (a0_12 : Bool) (a0_13 : List (List T)) (a0_14 : List (List T)) (a0_15 : List (List T)) (a0_16 : List (List T)) (o2 : Outs) (w8 : List (List T)) (w16 : List (List T)) (G3 : (Int × List (List T)) → Option Outs) : (Int × List (List T)) → Option Outs :=
  spec_l15Copy_L3 k a0_0 a0_1 a0_2 a0_3 a0_4 a0_5 a0_6 a0_7 a0_8 a0_9 a0_10 a0_11 a0_12 a0_13 a0_14 a0_15 a0_16 o2 w8 w16 (fun y0 y1 y2 y3 v => fixN (spec_l15Copy_l4 k a0_0 a0_1 a0_2 a0_3 a0_4 a0_5 a0_6 a0_7 a0_8 a0_9 a0_10 a0_11 a0_12 a0_13 a0_14 a0_15 a0_16 y0 y1 y2 y3) k v) G3
def spec_l15Copy_l2 (k : Nat) (a0_0 : Int) (a0_1 : Int) (a0_2 : Int) (a0_3 : List (List T)) (a0_4 : Int) (a0_5 : Int) (a0_6 : Int) (a0_7 : Int) (a0_8 : Int) (a0_9 : List (List T)) (a0_10 : Int) (a0_11 : Bool) (a0_12 : Bool) (a0_13 : List (List T)) (a0_14 : List (List T)) (a0_15 : List (List T)) (a0_16 : List (List T)) (o2 : Outs) (w8 : List (List T)) (G2 : (Int × List (List T)) → Option Outs) : (Int × List (List T)) → Option Outs :=
  spec_l15Copy_L2 k a0_0 a0_1 a0_2 a0_3 a0_4 a0_5 a0_6 a0_7 a0_8 a0_9 a0_10 a0_11 a0_12 a0_13 a0_14 a0_15 a0_16 o2 w8 (fun y0 y1 y2 v => fixN (spec_l15Copy_l3 k a0_0 a0_1 a0_2 a0_3 a0_4 a0_5 a0_6 a0_7 a0_8 a0_9 a0_10 a0_11 a0_12 a0_13 a0_14 a0_15 a0_16 y0 y1 y2) k v) G2
def spec_l15Copy_l1 (k : Nat) (a0_0 : Int) (a0_1 : Int) (a0_2 : Int) (a0_3 : List (List T)) (a0_4 : Int) (a0_5 : Int) (a0_6 : Int) (a0_7 : Int) (a0_8 : Int) (a0_9 : List (List T)) (a0_10 : Int) (a0_11 : Bool) (a0_12 : Bool) (a0_13 : List (List T)) (a0_14 : List (List T)) (a0_15 : List (List T)) (a0_16 : List (List T)) (o2 : Outs) (G1 : (Int × List (List T)) → Option Outs) : (Int × List (List T)) → Option Outs :=
  spec_l15Copy_L1 k a0_0 a0_1 a0_2 a0_3 a0_4 a0_5 a0_6 a0_7 a0_8 a0_9 a0_10 a0_11 a0_12 a0_13 a0_14 a0_15 a0_16 o2 (fun y0 y1 v => fixN (spec_l15Copy_l2 k a0_0 a0_1 a0_2 a0_3 a0_4 a0_5 a0_6 a0_7 a0_8 a0_9 a0_10 a0_11 a0_12 a0_13 a0_14 a0_15 a0_16 y0 y1) k v) G1
def spec_l15Copy_U (k : Nat) (a0_0 : Int) (a0_1 : Int) (a0_2 : Int) (a0_3 : List (List T)) (a0_4 : Int) (a0_5 : Int) (a0_6 : Int) (a0_7 : Int) (a0_8 : Int) (a0_9 : List (List T)) (a0_10 : Int) (a0_11 : Bool) (a0_12 : Bool) (a0_13 : List (List T)) (a0_14 : List (List T)) (a0_15 : List (List T)) (a0_16 : List (List T)) (R1 : Outs → (Int × List (List T)) → Option Outs) : Option Outs :=
 bindO (evalF E P0 k N.spec_l6Copy [.v [.i a0_0, .i a0_1, .i a0_2, .r a0_3, .i a0_4, .i a0_5, .i a0_6, .i a0_7, .i a0_8, .r a0_9, .i a0_10, .b a0_11, .b a0_12]]) fun o2 =>
 R1 o2 (0, [])
def spec_l15Copy_u (k : Nat) (a0_0 : Int) (a0_1 : Int) (a0_2 : Int) (a0_3 : List (List T)) (a0_4 : Int) (a0_5 : Int) (a0_6 : Int) (a0_7 : Int) (a0_8 : Int) (a0_9 : List (List T)) (a0_10 : Int) (a0_11 : Bool) (a0_12 : Bool) (a0_13 : List (List T)) (a0_14 : List (List T)) (a0_15 : List (List T)) (a0_16 : List (List T)) : Option Outs :=
  spec_l15Copy_U k a0_0 a0_1 a0_2 a0_3 a0_4 a0_5 a0_6 a0_7 a0_8 a0_9 a0_10 a0_11 a0_12 a0_13 a0_14 a0_15 a0_16 (fun y0 v => fixN (spec_l15Copy_l1 k a0_0 a0_1 a0_2 a0_3 a0_4 a0_5 a0_6 a0_7 a0_8 a0_9 a0_10 a0_11 a0_12 a0_13 a0_14 a0_15 a0_16 y0) k v)
def spec_l15Copy_it1 (k : Nat) (a0_0 : Int) (a0_1 : Int) (a0_2 : Int) (a0_3 : List (List T)) (a0_4 : Int) (a0_5 : Int) (a0_6 : Int) (a0_7 : Int) (a0_8 : Int) (a0_9 : List (List T)) (a0_10 : Int) (a0_11 : Bool) (a0_12 : Bool) (a0_13 : List (List T)) (a0_14 : List (List T)) (a0_15 : List (List T)) (a0_16 : List (List T)) (js : List Nat) (j : Nat) (s : St) : Option Outs := iter E (LB E (evalF E P0 k) k [] N.spec_l15Copy [.sr, .sr, .sl, .sr, .bl]) [] spec_l15Copy_k1 (LK E (evalF E P0 k) k [] N.spec_l15Copy [.v [.i a0_0, .i a0_1, .i a0_2, .r a0_3, .i a0_4, .i a0_5, .i a0_6, .i a0_7, .i a0_8, .r a0_9, .i a0_10, .b a0_11, .b a0_12, .r a0_13, .r a0_14, .r a0_15, .r a0_16]] [.sr, .sr, .sl, .sr, .bl] js) j s
def spec_l15Copy_it2 (k : Nat) (a0_0 : Int) (a0_1 : Int) (a0_2 : Int) (a0_3 : List (List T)) (a0_4 : Int) (a0_5 : Int) (a0_6 : Int) (a0_7 : Int) (a0_8 : Int) (a0_9 : List (List T)) (a0_10 : Int) (a0_11 : Bool) (a0_12 : Bool) (a0_13 : List (List T)) (a0_14 : List (List T)) (a0_15 : List (List T)) (a0_16 : List (List T)) (js : List Nat) (j : Nat) (s : St) : Option Outs := iter E (LB E (evalF E P0 k) k [] N.spec_l15Copy [.sr, .sr, .sr, .sl, .sr, .bl]) [] spec_l15Copy_k2 (LK E (evalF E P0 k) k [] N.spec_l15Copy [.v [.i a0_0, .i a0_1, .i a0_2, .r a0_3, .i a0_4, .i a0_5, .i a0_6, .i a0_7, .i a0_8, .r a0_9, .i a0_10, .b a0_11, .b a0_12, .r a0_13, .r a0_14, .r a0_15, .r a0_16]] [.sr, .sr, .sr, .sl, .sr, .bl] js) j s
def spec_l15Copy_it3 (k : Nat) (a0_0 : Int) (a0_1 : Int) (a0_2 : Int) (a0_3 : List (List T)) (a0_4 : Int) (a0_5 : Int) (a0_6 : Int) (a0_7 : Int) (a0_8 : Int) (a0_9 : List (List T)) (a0_10 : Int) (a0_11 : Bool) (a0_12 : Bool) (a0_13 : List (List T)) (a0_14 : List (List T)) (a0_15 : List (List T)) (a0_16 : List (List T)) (js : List Nat) (j : Nat) (s : St) : Option Outs := iter E (LB E (evalF E P0 k) k [] N.spec_l15Copy [.sr, .sr, .sr, .sr, .sl, .sr, .bl]) [] spec_l15Copy_k3 (LK E (evalF E P0 k) k [] N.spec_l15Copy [.v [.i a0_0, .i a0_1, .i a0_2, .r a0_3, .i a0_4, .i a0_5, .i a0_6, .i a0_7, .i a0_8, .r a0_9, .i a0_10, .b a0_11, .b a0_12, .r a0_13, .r a0_14, .r a0_15, .r a0_16]] [.sr, .sr, .sr, .sr, .sl, .sr, .bl] js) j s
def spec_l15Copy_it4 (k : Nat) (a0_0 : Int) (a0_1 : Int) (a0_2 : Int) (a0_3 : List (List T)) (a0_4 : Int) (a0_5 : Int) (a0_6 : Int) (a0_7 : Int) (a0_8 : Int) (a0_9 : List (List T)) (a0_10 : Int) (a0_11 : Bool) (a0_12 : Bool) (a0_13 : List (List T)) (a0_14 : List (List T)) (a0_15 : List (List T)) (a0_16 : List (List T)) (js : List Nat) (j : Nat) (s : St) : Option Outs := iter E (LB E (evalF E P0 k) k [] N.spec_l15Copy [.sr, .sr, .sr, .sr, .sr, .sl, .sr, .bl]) [] spec_l15Copy_k4 (LK E (evalF E P0 k) k [] N.spec_l15Copy [.v [.i a0_0, .i a0_1, .i a0_2, .r a0_3, .i a0_4, .i a0_5, .i a0_6, .i a0_7, .i a0_8, .r a0_9, .i a0_10, .b a0_11, .b a0_12, .r a0_13, .r a0_14, .r a0_15, .r a0_16]] [.sr, .sr, .sr, .sr, .sr, .sl, .sr, .bl] js) j s
theorem spec_l15Copy_e (k : Nat) (a0_0 : Int) (a0_1 : Int) (a0_2 : Int) (a0_3 : List (List T)) (a0_4 : Int) (a0_5 : Int) (a0_6 : Int) (a0_7 : Int) (a0_8 : Int) (a0_9 : List (List T)) (a0_10 : Int) (a0_11 : Bool) (a0_12 : Bool) (a0_13 : List (List T)) (a0_14 : List (List T)) (a0_15 : List (List T)) (a0_16 : List (List T)) : evalF E P0 (k + 1) N.spec_l15Copy [.v [.i a0_0, .i a0_1, .i a0_2, .r a0_3, .i a0_4, .i a0_5, .i a0_6, .i a0_7, .i a0_8, .r a0_9, .i a0_10, .b a0_11, .b a0_12, .r a0_13, .r a0_14, .r a0_15, .r a0_16]] = spec_l15Copy_u k a0_0 a0_1 a0_2 a0_3 a0_4 a0_5 a0_6 a0_7 a0_8 a0_9 a0_10 a0_11 a0_12 a0_13 a0_14 a0_15 a0_16 := by
  have e0 : evalF E P0 (k + 1) N.spec_l15Copy [.v [.i a0_0, .i a0_1, .i a0_2, .r a0_3, .i a0_4, .i a0_5, .i a0_6, .i a0_7, .i a0_8, .r a0_9, .i a0_10, .b a0_11, .b a0_12, .r a0_13, .r a0_14, .r a0_15, .r a0_16]] = spec_l15Copy_U k a0_0 a0_1 a0_2 a0_3 a0_4 a0_5 a0_6 a0_7 a0_8 a0_9 a0_10 a0_11 a0_12 a0_13 a0_14 a0_15 a0_16 (fun y0 v => spec_l15Copy_it1 k a0_0 a0_1 a0_2 a0_3 a0_4 a0_5 a0_6 a0_7 a0_8 a0_9 a0_10 a0_11 a0_12 a0_13 a0_14 a0_15 a0_16 [] k (spec_l15Copy_S1 a0_0 a0_1 a0_2 a0_3 a0_4 a0_5 a0_6 a0_7 a0_8 a0_9 a0_10 a0_11 a0_12 a0_13 a0_14 a0_15 a0_16 y0 v)) := by kernel_rfl
  have e4 : ∀ (o2 : Outs) (w8 : List (List T)) (w16 : List (List T)) (w24 : List (List T)) (j4 : Nat) (v : Int × List (List T)), spec_l15Copy_it4 k a0_0 a0_1 a0_2 a0_3 a0_4 a0_5 a0_6 a0_7 a0_8 a0_9 a0_10 a0_11 a0_12 a0_13 a0_14 a0_15 a0_16 [] (j4 + 1) (spec_l15Copy_S4 a0_0 a0_1 a0_2 a0_3 a0_4 a0_5 a0_6 a0_7 a0_8 a0_9 a0_10 a0_11 a0_12 a0_13 a0_14 a0_15 a0_16 o2 w8 w16 w24 v) = spec_l15Copy_L4 k a0_0 a0_1 a0_2 a0_3 a0_4 a0_5 a0_6 a0_7 a0_8 a0_9 a0_10 a0_11 a0_12 a0_13 a0_14 a0_15 a0_16 o2 w8 w16 w24 (fun v => spec_l15Copy_it4 k a0_0 a0_1 a0_2 a0_3 a0_4 a0_5 a0_6 a0_7 a0_8 a0_9 a0_10 a0_11 a0_12 a0_13 a0_14 a0_15 a0_16 [] j4 (spec_l15Copy_S4 a0_0 a0_1 a0_2 a0_3 a0_4 a0_5 a0_6 a0_7 a0_8 a0_9 a0_10 a0_11 a0_12 a0_13 a0_14 a0_15 a0_16 o2 w8 w16 w24 v)) v := by
    intro o2 w8 w16 w24 j4 v; kernel_rfl
  have i4 : ∀ (o2 : Outs) (w8 : List (List T)) (w16 : List (List T)) (w24 : List (List T)) (j4 : Nat) (v : Int × List (List T)), spec_l15Copy_it4 k a0_0 a0_1 a0_2 a0_3 a0_4 a0_5 a0_6 a0_7 a0_8 a0_9 a0_10 a0_11 a0_12 a0_13 a0_14 a0_15 a0_16 [] j4 (spec_l15Copy_S4 a0_0 a0_1 a0_2 a0_3 a0_4 a0_5 a0_6 a0_7 a0_8 a0_9 a0_10 a0_11 a0_12 a0_13 a0_14 a0_15 a0_16 o2 w8 w16 w24 v) = fixN (spec_l15Copy_l4 k a0_0 a0_1 a0_2 a0_3 a0_4 a0_5 a0_6 a0_7 a0_8 a0_9 a0_10 a0_11 a0_12 a0_13 a0_14 a0_15 a0_16 o2 w8 w16 w24) j4 v := by
    intro o2 w8 w16 w24 j4 v
    refine iter_fix (spec_l15Copy_S4 a0_0 a0_1 a0_2 a0_3 a0_4 a0_5 a0_6 a0_7 a0_8 a0_9 a0_10 a0_11 a0_12 a0_13 a0_14 a0_15 a0_16 o2 w8 w16 w24) (spec_l15Copy_l4 k a0_0 a0_1 a0_2 a0_3 a0_4 a0_5 a0_6 a0_7 a0_8 a0_9 a0_10 a0_11 a0_12 a0_13 a0_14 a0_15 a0_16 o2 w8 w16 w24) (fun j4 v => (e4 o2 w8 w16 w24 j4 v).trans ?_) j4 v
    unfold spec_l15Copy_l4
    rfl
  have e3 : ∀ (o2 : Outs) (w8 : List (List T)) (w16 : List (List T)) (j3 : Nat) (v : Int × List (List T)), spec_l15Copy_it3 k a0_0 a0_1 a0_2 a0_3 a0_4 a0_5 a0_6 a0_7 a0_8 a0_9 a0_10 a0_11 a0_12 a0_13 a0_14 a0_15 a0_16 [] (j3 + 1) (spec_l15Copy_S3 a0_0 a0_1 a0_2 a0_3 a0_4 a0_5 a0_6 a0_7 a0_8 a0_9 a0_10 a0_11 a0_12 a0_13 a0_14 a0_15 a0_16 o2 w8 w16 v) = spec_l15Copy_L3 k a0_0 a0_1 a0_2 a0_3 a0_4 a0_5 a0_6 a0_7 a0_8 a0_9 a0_10 a0_11 a0_12 a0_13 a0_14 a0_15 a0_16 o2 w8 w16 (fun y0 y1 y2 y3 v => spec_l15Copy_it4 k a0_0 a0_1 a0_2 a0_3 a0_4 a0_5 a0_6 a0_7 a0_8 a0_9 a0_10 a0_11 a0_12 a0_13 a0_14 a0_15 a0_16 [] k (spec_l15Copy_S4 a0_0 a0_1 a0_2 a0_3 a0_4 a0_5 a0_6 a0_7 a0_8 a0_9 a0_10 a0_11 a0_12 a0_13 a0_14 a0_15 a0_16 y0 y1 y2 y3 v)) (fun v => spec_l15Copy_it3 k a0_0 a0_1 a0_2 a0_3 a0_4 a0_5 a0_6 a0_7 a0_8 a0_9 a0_10 a0_11 a0_12 a0_13 a0_14 a0_15 a0_16 [] j3 (spec_l15Copy_S3 a0_0 a0_1 a0_2 a0_3 a0_4 a0_5 a0_6 a0_7 a0_8 a0_9 a0_10 a0_11 a0_12 a0_13 a0_14 a0_15 a0_16 o2 w8 w16 v)) v := by
    intro o2 w8 w16 j3 v; kernel_rfl
  have i3 : ∀ (o2 : Outs) (w8 : List (List T)) (w16 : List (List T)) (j3 : Nat) (v : Int × List (List T)), spec_l15Copy_it3 k a0_0 a0_1 a0_2 a0_3 a0_4 a0_5 a0_6 a0_7 a0_8 a0_9 a0_10 a0_11 a0_12 a0_13 a0_14 a0_15 a0_16 [] j3 (spec_l15Copy_S3 a0_0 a0_1 a0_2 a0_3 a0_4 a0_5 a0_6 a0_7 a0_8 a0_9 a0_10 a0_11 a0_12 a0_13 a0_14 a0_15 a0_16 o2 w8 w16 v) = fixN (spec_l15Copy_l3 k a0_0 a0_1 a0_2 a0_3 a0_4 a0_5 a0_6 a0_7 a0_8 a0_9 a0_10 a0_11 a0_12 a0_13 a0_14 a0_15 a0_16 o2 w8 w16) j3 v := by
    intro o2 w8 w16 j3 v
    refine iter_fix (spec_l15Copy_S3 a0_0 a0_1 a0_2 a0_3 a0_4 a0_5 a0_6 a0_7 a0_8 a0_9 a0_10 a0_11 a0_12 a0_13 a0_14 a0_15 a0_16 o2 w8 w16) (spec_l15Copy_l3 k a0_0 a0_1 a0_2 a0_3 a0_4 a0_5 a0_6 a0_7 a0_8 a0_9 a0_10 a0_11 a0_12 a0_13 a0_14 a0_15 a0_16 o2 w8 w16) (fun j3 v => (e3 o2 w8 w16 j3 v).trans ?_) j3 v
    unfold spec_l15Copy_l3
    simp only [i4] <;> rfl
  have e2 : ∀ (o2 : Outs) (w8 : List (List T)) (j2 : Nat) (v : Int × List (List T)), spec_l15Copy_it2 k a0_0 a0_1 a0_2 a0_3 a0_4 a0_5 a0_6 a0_7 a0_8 a0_9 a0_10 a0_11 a0_12 a0_13 a0_14 a0_15 a0_16 [] (j2 + 1) (spec_l15Copy_S2 a0_0 a0_1 a0_2 a0_3 a0_4 a0_5 a0_6 a0_7 a0_8 a0_9 a0_10 a0_11 a0_12 a0_13 a0_14 a0_15 a0_16 o2 w8 v) = spec_l15Copy_L2 k a0_0 a0_1 a0_2 a0_3 a0_4 a0_5 a0_6 a0_7 a0_8 a0_9 a0_10 a0_11 a0_12 a0_13 a0_14 a0_15 a0_16 o2 w8 (fun y0 y1 y2 v => spec_l15Copy_it3 k a0_0 a0_1 a0_2 a0_3 a0_4 a0_5 a0_6 a0_7 a0_8 a0_9 a0_10 a0_11 a0_12 a0_13 a0_14 a0_15 a0_16 [] k (spec_l15Copy_S3 a0_0 a0_1 a0_2 a0_3 a0_4 a0_5 a0_6 a0_7 a0_8 a0_9 a0_10 a0_11 a0_12 a0_13 a0_14 a0_15 a0_16 y0 y1 y2 v)) (fun v => spec_l15Copy_it2 k a0_0 a0_1 a0_2 a0_3 a0_4 a0_5 a0_6 a0_7 a0_8 a0_9 a0_10 a0_11 a0_12 a0_13 a0_14 a0_15 a0_16 [] j2 (spec_l15Copy_S2 a0_0 a0_1 a0_2 a0_3 a0_4 a0_5 a0_6 a0_7 a0_8 a0_9 a0_10 a0_11 a0_12 a0_13 a0_14 a0_15 a0_16 o2 w8 v)) v := by
    intro o2 w8 j2 v; kernel_rfl
  have i2 : ∀ (o2 : Outs) (w8 : List (List T)) (j2 : Nat) (v : Int × List (List T)), spec_l15Copy_it2 k a0_0 a0_1 a0_2 a0_3 a0_4 a0_5 a0_6 a0_7 a0_8 a0_9 a0_10 a0_11 a0_12 a0_13 a0_14 a0_15 a0_16 [] j2 (spec_l15Copy_S2 a0_0 a0_1 a0_2 a0_3 a0_4 a0_5 a0_6 a0_7 a0_8 a0_9 a0_10 a0_11 a0_12 a0_13 a0_14 a0_15 a0_16 o2 w8 v) = fixN (spec_l15Copy_l2 k a0_0 a0_1 a0_2 a0_3 a0_4 a0_5 a0_6 a0_7 a0_8 a0_9 a0_10 a0_11 a0_12 a0_13 a0_14 a0_15 a0_16 o2 w8) j2 v := by
    intro o2 w8 j2 v
    refine iter_fix (spec_l15Copy_S2 a0_0 a0_1 a0_2 a0_3 a0_4 a0_5 a0_6 a0_7 a0_8 a0_9 a0_10 a0_11 a0_12 a0_13 a0_14 a0_15 a0_16 o2 w8) (spec_l15Copy_l2 k a0_0 a0_1 a0_2 a0_3 a0_4 a0_5 a0_6 a0_7 a0_8 a0_9 a0_10 a0_11 a0_12 a0_13 a0_14 a0_15 a0_16 o2 w8) (fun j2 v => (e2 o2 w8 j2 v).trans ?_) j2 v
    unfold spec_l15Copy_l2
    simp only [i3] <;> rfl
  have e1 : ∀ (o2 : Outs) (j1 : Nat) (v : Int × List (List T)), spec_l15Copy_it1 k a0_0 a0_1 a0_2 a0_3 a0_4 a0_5 a0_6 a0_7 a0_8 a0_9 a0_10 a0_11 a0_12 a0_13 a0_14 a0_15 a0_16 [] (j1 + 1) (spec_l15Copy_S1 a0_0 a0_1 a0_2 a0_3 a0_4 a0_5 a0_6 a0_7 a0_8 a0_9 a0_10 a0_11 a0_12 a0_13 a0_14 a0_15 a0_16 o2 v) = spec_l15Copy_L1 k a0_0 a0_1 a0_2 a0_3 a0_4 a0_5 a0_6 a0_7 a0_8 a0_9 a0_10 a0_11 a0_12 a0_13 a0_14 a0_15 a0_16 o2 (fun y0 y1 v => spec_l15Copy_it2 k a0_0 a0_1 a0_2 a0_3 a0_4 a0_5 a0_6 a0_7 a0_8 a0_9 a0_10 a0_11 a0_12 a0_13 a0_14 a0_15 a0_16 [] k (spec_l15Copy_S2 a0_0 a0_1 a0_2 a0_3 a0_4 a0_5 a0_6 a0_7 a0_8 a0_9 a0_10 a0_11 a0_12 a0_13 a0_14 a0_15 a0_16 y0 y1 v)) (fun v => spec_l15Copy_it1 k a0_0 a0_1 a0_2 a0_3 a0_4 a0_5 a0_6 a0_7 a0_8 a0_9 a0_10 a0_11 a0_12 a0_13 a0_14 a0_15 a0_16 [] j1 (spec_l15Copy_S1 a0_0 a0_1 a0_2 a0_3 a0_4 a0_5 a0_6 a0_7 a0_8 a0_9 a0_10 a0_11 a0_12 a0_13 a0_14 a0_15 a0_16 o2 v)) v := by
    intro o2 j1 v; kernel_rfl
  have i1 : ∀ (o2 : Outs) (j1 : Nat) (v : Int × List (List T)), spec_l15Copy_it1 k a0_0 a0_1 a0_2 a0_3 a0_4 a0_5 a0_6 a0_7 a0_8 a0_9 a0_10 a0_11 a0_12 a0_13 a0_14 a0_15 a0_16 [] j1 (spec_l15Copy_S1 a0_0 a0_1 a0_2 a0_3 a0_4 a0_5 a0_6 a0_7 a0_8 a0_9 a0_10 a0_11 a0_12 a0_13 a0_14 a0_15 a0_16 o2 v) = fixN (spec_l15Copy_l1 k a0_0 a0_1 a0_2 a0_3 a0_4 a0_5 a0_6 a0_7 a0_8 a0_9 a0_10 a0_11 a0_12 a0_13 a0_14 a0_15 a0_16 o2) j1 v := by
    intro o2 j1 v
    refine iter_fix (spec_l15Copy_S1 a0_0 a0_1 a0_2 a0_3 a0_4 a0_5 a0_6 a0_7 a0_8 a0_9 a0_10 a0_11 a0_12 a0_13 a0_14 a0_15 a0_16 o2) (spec_l15Copy_l1 k a0_0 a0_1 a0_2 a0_3 a0_4 a0_5 a0_6 a0_7 a0_8 a0_9 a0_10 a0_11 a0_12 a0_13 a0_14 a0_15 a0_16 o2) (fun j1 v => (e1 o2 j1 v).trans ?_) j1 v
    unfold spec_l15Copy_l1
    simp only [i2] <;> rfl
  rw [e0]; unfold spec_l15Copy_u
  simp only [i1]
def spec_l1In_u (k : Nat) (a0 : Int) (a1 : Int) (a2 : Int) : Option Outs :=
 bif (decide (a0 ≥ a1)) then some ⟨[.b (decide (a0 ≤ a2))], []⟩ else some ⟨[.b false], []⟩
theorem spec_l1In_e (k : Nat) (a0 : Int) (a1 : Int) (a2 : Int) : evalF E P0 (k + 1) N.spec_l1In [.v [.i a0], .v [.i a1], .v [.i a2]] = spec_l1In_u k a0 a1 a2 := by kernel_rfl
def spec_GeoOk_u (k : Nat) (a0_0 : Int) (a0_1 : Int) : Option Outs :=
 bindO (evalF E P0 k N.spec_l1In [.v [.i a0_0], .v [.i 3], .v [.i 5]]) fun o3 =>
 bif (o3.t 0).asB then
  bindO (evalF E P0 k N.spec_l1In [.v [.i a0_1], .v [.i 1], .v [.i 8]]) fun o4 =>
  some ⟨[.b (o4.t 0).asB], []⟩
 else
  some ⟨[.b false], []⟩
theorem spec_GeoOk_e (k : Nat) (a0_0 : Int) (a0_1 : Int) : evalF E P0 (k + 1) N.spec_GeoOk [.v [.i a0_0, .i a0_1]] = spec_GeoOk_u k a0_0 a0_1 := by kernel_rfl
def spec_l1Word_u (k : Nat) (a0 : Int) : Option Outs :=
 bindO (evalF E P0 k N.spec_l1In [.v [.i a0], .v [.i 0], .v [.i 65535]]) fun o2 =>
 some ⟨[.b (o2.t 0).asB], []⟩
theorem spec_l1Word_e (k : Nat) (a0 : Int) : evalF E P0 (k + 1) N.spec_l1Word [.v [.i a0]] = spec_l1Word_u k a0 := by kernel_rfl
def spec_l1Words_L1 (k : Nat) (a0 : List (List T)) (G1 : (Int) → Option Outs) : (Int) → Option Outs := fun v8 =>
 bif (decide (v8 < (a0.length : Int))) then
  chk (decide (0 ≤ v8) && decide (v8 < (a0.length : Int))) <|
  bindO (evalF E P0 k N.spec_l1Word [.v [.i (at_ a0 v8.toNat 0).asI]]) fun o96 =>
  bif (!(o96.t 0).asB) then some ⟨[.b false], []⟩ else G1 (IntKind.wrap .i64 (v8 + 1))
 else
  some ⟨[.b true], []⟩
def spec_l1Words_k1 : List Nat := [0, 2, 3]
def spec_l1Words_S1 (a0 : List (List T)) : (Int) → St := fun v8 => ⟨ofSl [(0, .sl 3 a0), (2, .b false), (3, .i .i64 v8)], ofMem []⟩
def spec_l1Words_l1 (k : Nat) (a0 : List (List T)) (G1 : (Int) → Option Outs) : (Int) → Option Outs :=
  spec_l1Words_L1 k a0 G1
def spec_l1Words_U (k : Nat) (a0 : List (List T)) (R1 : (Int) → Option Outs) : Option Outs :=
 R1 0
def spec_l1Words_u (k : Nat) (a0 : List (List T)) : Option Outs :=
  spec_l1Words_U k a0 (fun v => fixN (spec_l1Words_l1 k a0) k v)
def spec_l1Words_it1 (k : Nat) (a0 : List (List T)) (js : List Nat) (j : Nat) (s : St) : Option Outs := iter E (LB E (evalF E P0 k) k [] N.spec_l1Words [.sr, .sl, .sr, .bl]) [] spec_l1Words_k1 (LK E (evalF E P0 k) k [] N.spec_l1Words [.v [.r a0]] [.sr, .sl, .sr, .bl] js) j s
theorem spec_l1Words_e (k : Nat) (a0 : List (List T)) : evalF E P0 (k + 1) N.spec_l1Words [.v [.r a0]] = spec_l1Words_u k a0 := by
  have e0 : evalF E P0 (k + 1) N.spec_l1Words [.v [.r a0]] = spec_l1Words_U k a0 (fun v => spec_l1Words_it1 k a0 [] k (spec_l1Words_S1 a0 v)) := by kernel_rfl
  have e1 : ∀ (j1 : Nat) (v : Int), spec_l1Words_it1 k a0 [] (j1 + 1) (spec_l1Words_S1 a0 v) = spec_l1Words_L1 k a0 (fun v => spec_l1Words_it1 k a0 [] j1 (spec_l1Words_S1 a0 v)) v := by
    intro j1 v; kernel_rfl
  have i1 : ∀ (j1 : Nat) (v : Int), spec_l1Words_it1 k a0 [] j1 (spec_l1Words_S1 a0 v) = fixN (spec_l1Words_l1 k a0) j1 v := by
    intro j1 v
    refine iter_fix (spec_l1Words_S1 a0) (spec_l1Words_l1 k a0) (fun j1 v => (e1 j1 v).trans ?_) j1 v
    unfold spec_l1Words_l1
    rfl
  rw [e0]; unfold spec_l1Words_u
  simp only [i1]
def spec_l13Size_J1 (k : Nat) (a0_0 : Int) (a0_4 : List (List T)) (c17 : Bool) : Option Outs :=
 bif c17 then
  bindO (evalF E P0 k N.spec_l1In [.v [.i (a0_4.length : Int)], .v [.i 1], .v [.i 6]]) fun o39 =>
  bif (o39.t 0).asB then
   bindO (evalF E P0 k N.spec_l1Words [.v [.r a0_4]]) fun o40 =>
   some ⟨[.b (o40.t 0).asB], []⟩
  else
   some ⟨[.b false], []⟩
 else
  bif (a0_0 == 5) then
   bif ((a0_4.length : Int) == 2) then
    bindO (evalF E P0 k N.spec_l1Words [.v [.r a0_4]]) fun o42 =>
    some ⟨[.b (o42.t 0).asB], []⟩
   else
    some ⟨[.b false], []⟩
  else
   some ⟨[.b true], []⟩
def spec_l13Size_u (k : Nat) (a0_0 : Int) (a0_1 : Int) (a0_2 : Int) (a0_3 : Int) (a0_4 : List (List T)) : Option Outs :=
 bif (a0_0 == 1) then
  bindO (evalF E P0 k N.spec_l1In [.v [.i a0_3], .v [.i 1], .v [.i 6]]) fun o34 =>
  some ⟨[.b (o34.t 0).asB], []⟩
 else
  bif (a0_0 == 6) then
   bindO (evalF E P0 k N.spec_l1In [.v [.i a0_3], .v [.i 1], .v [.i 6]]) fun o36 =>
   some ⟨[.b (o36.t 0).asB], []⟩
  else
   bif (a0_0 == 2) then spec_l13Size_J1 k a0_0 a0_4 true else spec_l13Size_J1 k a0_0 a0_4 (a0_0 == 3)
theorem spec_l13Size_e (k : Nat) (a0_0 : Int) (a0_1 : Int) (a0_2 : Int) (a0_3 : Int) (a0_4 : List (List T)) : evalF E P0 (k + 1) N.spec_l13Size [.v [.i a0_0, .i a0_1, .i a0_2, .i a0_3, .r a0_4]] = spec_l13Size_u k a0_0 a0_1 a0_2 a0_3 a0_4 := by kernel_rfl
def spec_Blocks_u (k : Nat) (a0_0 : Int) (a0_1 : Int) : Option Outs :=
 bindO (evalF E P0 k N.spec_GeoOk [.v [.i a0_0, .i a0_1]]) fun o2 =>
 bif (!(o2.t 0).asB) then
  some ⟨[.i 0], []⟩
 else
  some ⟨[.i (IntKind.wrap .i64 (a0_1 * (IntKind.wrap .i64 (a0_0 - 1))))], []⟩
theorem spec_Blocks_e (k : Nat) (a0_0 : Int) (a0_1 : Int) : evalF E P0 (k + 1) N.spec_Blocks [.v [.i a0_0, .i a0_1]] = spec_Blocks_u k a0_0 a0_1 := by kernel_rfl
def spec_l13Len_u (k : Nat) (a0_0 : Int) (a0_1 : Int) (a0_2 : Int) (a0_3 : Int) (a0_4 : List (List T)) : Option Outs :=
 bif (a0_0 == 1) then
  some ⟨[.i a0_3], []⟩
 else
  bif (a0_0 == 6) then
   some ⟨[.i a0_3], []⟩
  else
   bif (a0_0 == 2) then
    some ⟨[.i (a0_4.length : Int)], []⟩
   else
    bif (a0_0 == 3) then
     some ⟨[.i (a0_4.length : Int)], []⟩
    else
     bif (a0_0 == 5) then some ⟨[.i 1], []⟩ else some ⟨[.i 0], []⟩
theorem spec_l13Len_e (k : Nat) (a0_0 : Int) (a0_1 : Int) (a0_2 : Int) (a0_3 : Int) (a0_4 : List (List T)) : evalF E P0 (k + 1) N.spec_l13Len [.v [.i a0_0, .i a0_1, .i a0_2, .i a0_3, .r a0_4]] = spec_l13Len_u k a0_0 a0_1 a0_2 a0_3 a0_4 := by kernel_rfl
def spec_CmdCode_J1 (k : Nat) (a0_0 : Int) (a0_1 : Int) (a1_0 : Int) (a1_1 : Int) (a1_2 : Int) (a1_3 : Int) (a1_4 : List (List T)) (c4 : Bool) : Option Outs :=
 bif c4 then
  some ⟨[.i 1], []⟩
 else
  bindO (evalF E P0 k N.spec_l13Size [.v [.i a1_0, .i a1_1, .i a1_2, .i a1_3, .r a1_4]]) fun o48 =>
  bif (!(o48.t 0).asB) then
   some ⟨[.i 3], []⟩
  else
   bif (a1_0 == 4) then
    some ⟨[.i 0], []⟩
   else
    bindO (evalF E P0 k N.spec_Blocks [.v [.i a0_0, .i a0_1]]) fun o52 =>
    bindO (evalF E P0 k N.spec_l13Len [.v [.i a1_0, .i a1_1, .i a1_2, .i a1_3, .r a1_4]]) fun o53 =>
    bindO (evalF E P0 k N.spec_l1In [.v [.i a1_2], .v [.i 0], .v [.i (IntKind.wrap .i64 ((o52.t 0).asI - (o53.t 0).asI))]]) fun o54 =>
    bif (!(o54.t 0).asB) then some ⟨[.i 2], []⟩ else some ⟨[.i 0], []⟩
def spec_CmdCode_u (k : Nat) (a0_0 : Int) (a0_1 : Int) (a1_0 : Int) (a1_1 : Int) (a1_2 : Int) (a1_3 : Int) (a1_4 : List (List T)) : Option Outs :=
 bindO (evalF E P0 k N.spec_GeoOk [.v [.i a0_0, .i a0_1]]) fun o46 =>
 bif (!(o46.t 0).asB) then
  spec_CmdCode_J1 k a0_0 a0_1 a1_0 a1_1 a1_2 a1_3 a1_4 true
 else
  bindO (evalF E P0 k N.spec_l1In [.v [.i a1_0], .v [.i 1], .v [.i 6]]) fun o55 =>
  bif (!(o55.t 0).asB) then
   spec_CmdCode_J1 k a0_0 a0_1 a1_0 a1_1 a1_2 a1_3 a1_4 true
  else
   bindO (evalF E P0 k N.spec_l1In [.v [.i a1_1], .v [.i 1], .v [.i 999]]) fun o56 =>
   spec_CmdCode_J1 k a0_0 a0_1 a1_0 a1_1 a1_2 a1_3 a1_4 (!(o56.t 0).asB)
theorem spec_CmdCode_e (k : Nat) (a0_0 : Int) (a0_1 : Int) (a1_0 : Int) (a1_1 : Int) (a1_2 : Int) (a1_3 : Int) (a1_4 : List (List T)) : evalF E P0 (k + 1) N.spec_CmdCode [.v [.i a0_0, .i a0_1], .v [.i a1_0, .i a1_1, .i a1_2, .i a1_3, .r a1_4]] = spec_CmdCode_u k a0_0 a0_1 a1_0 a1_1 a1_2 a1_3 a1_4 := by kernel_rfl
def spec_SpanOf_u (k : Nat) (a0_0 : Int) (a0_1 : Int) (a1_0 : Int) (a1_1 : Int) (a1_2 : Int) (a1_3 : Int) (a1_4 : List (List T)) : Option Outs :=
 bindO (evalF E P0 k N.spec_CmdCode [.v [.i a0_0, .i a0_1], .v [.i a1_0, .i a1_1, .i a1_2, .i a1_3, .r a1_4]]) fun o2 =>
 bif ((o2.t 0).asI != 0) then
  some ⟨[.i 0, .i 0], []⟩
 else
  bif (a1_0 == 4) then
   bindO (evalF E P0 k N.spec_Blocks [.v [.i a0_0, .i a0_1]]) fun o6 =>
   some ⟨[.i 0, .i (o6.t 0).asI], []⟩
  else
   bindO (evalF E P0 k N.spec_l13Len [.v [.i a1_0, .i a1_1, .i a1_2, .i a1_3, .r a1_4]]) fun o8 =>
   some ⟨[.i a1_2, .i (IntKind.wrap .i64 (a1_2 + (o8.t 0).asI))], []⟩
theorem spec_SpanOf_e (k : Nat) (a0_0 : Int) (a0_1 : Int) (a1_0 : Int) (a1_1 : Int) (a1_2 : Int) (a1_3 : Int) (a1_4 : List (List T)) : evalF E P0 (k + 1) N.spec_SpanOf [.v [.i a0_0, .i a0_1], .v [.i a1_0, .i a1_1, .i a1_2, .i a1_3, .r a1_4]] = spec_SpanOf_u k a0_0 a0_1 a1_0 a1_1 a1_2 a1_3 a1_4 := by kernel_rfl
def spec_Clash_u (k : Nat) (a0_0 : Int) (a0_1 : Int) (a1_0 : Int) (a1_1 : Int) (a1_2 : Int) (a1_3 : Int) (a1_4 : List (List T)) (a2_0 : Int) (a2_1 : Int) (a2_2 : Int) (a2_3 : Int) (a2_4 : List (List T)) : Option Outs :=
 bindO (evalF E P0 k N.spec_SpanOf [.v [.i a0_0, .i a0_1], .v [.i a1_0, .i a1_1, .i a1_2, .i a1_3, .r a1_4]]) fun o2 =>
 bindO (evalF E P0 k N.spec_SpanOf [.v [.i a0_0, .i a0_1], .v [.i a2_0, .i a2_1, .i a2_2, .i a2_3, .r a2_4]]) fun o4 =>
 bif (decide ((o2.t 0).asI < (o4.t 1).asI)) then
  some ⟨[.b (decide ((o4.t 0).asI < (o2.t 1).asI))], []⟩
 else
  some ⟨[.b false], []⟩
theorem spec_Clash_e (k : Nat) (a0_0 : Int) (a0_1 : Int) (a1_0 : Int) (a1_1 : Int) (a1_2 : Int) (a1_3 : Int) (a1_4 : List (List T)) (a2_0 : Int) (a2_1 : Int) (a2_2 : Int) (a2_3 : Int) (a2_4 : List (List T)) : evalF E P0 (k + 1) N.spec_Clash [.v [.i a0_0, .i a0_1], .v [.i a1_0, .i a1_1, .i a1_2, .i a1_3, .r a1_4], .v [.i a2_0, .i a2_1, .i a2_2, .i a2_3, .r a2_4]] = spec_Clash_u k a0_0 a0_1 a1_0 a1_1 a1_2 a1_3 a1_4 a2_0 a2_1 a2_2 a2_3 a2_4 := by kernel_rfl
def spec_l15Job_L1 (k : Nat) (a0_0 : Int) (a0_1 : Int) (a0_2 : Int) (a0_3 : List (List T)) (a0_4 : Int) (a0_5 : Int) (a0_6 : Int) (a0_7 : Int) (a0_8 : Int) (a0_9 : List (List T)) (a0_10 : Int) (a0_11 : Bool) (a0_12 : Bool) (a0_13 : List (List T)) (a0_14 : List (List T)) (a0_15 : List (List T)) (a0_16 : List (List T)) (a1 : Int) (p89 : Int) (p90 : Int) (p91 : Int) (p92 : Int) (p93 : List (List T)) (p94 : Int) (p95 : List (List T)) (p96 : Int) (G1 : (Int) → Option Outs) : (Int) → Option Outs := fun v8 =>
 bif (decide (v8 < a1)) then
  chk (decide (0 ≤ v8) && decide (v8 < (a0_14.length : Int))) <|
  bindO (evalF E P0 k N.spec_Clash [.v [.i a0_1, .i a0_2], .v [.i (at_ a0_14 v8.toNat 0).asI, .i (at_ a0_14 v8.toNat 1).asI, .i (at_ a0_14 v8.toNat 2).asI, .i (at_ a0_14 v8.toNat 3).asI, .r (at_ a0_14 v8.toNat 4).asR], .v [.i p89, .i p90, .i p91, .i p92, .r p93]]) fun o100 =>
  bif (o100.t 0).asB then some ⟨[.b false], []⟩ else G1 (IntKind.wrap .i64 (v8 + 1))
 else
  bif (p96 == 0) then
   some ⟨[.b true], []⟩
  else
   bindO (evalF E P0 k N.spec_l1In [.v [.i p96], .v [.i 4], .v [.i 7]]) fun o102 =>
   some ⟨[.b (o102.t 0).asB], []⟩
def spec_l15Job_k1 : List Nat := [1, 2, 4, 5, 6, 54, 55, 56, 57, 58, 59, 60, 61]
def spec_l15Job_S1 (a0_0 : Int) (a0_1 : Int) (a0_2 : Int) (a0_3 : List (List T)) (a0_4 : Int) (a0_5 : Int) (a0_6 : Int) (a0_7 : Int) (a0_8 : Int) (a0_9 : List (List T)) (a0_10 : Int) (a0_11 : Bool) (a0_12 : Bool) (a0_13 : List (List T)) (a0_14 : List (List T)) (a0_15 : List (List T)) (a0_16 : List (List T)) (a1 : Int) (p89 : Int) (p90 : Int) (p91 : Int) (p92 : Int) (p93 : List (List T)) (p94 : Int) (p95 : List (List T)) (p96 : Int) : (Int) → St := fun v8 => ⟨ofSl [(1, .i .i64 a1), (2, .ptr (2, 0) 0), (4, .b false), (5, .ptr (5, 0) 0), (6, .i .i64 v8), (54, .skip), (55, .skip), (56, .skip), (57, .skip), (58, .skip), (59, .skip), (60, .skip), (61, .skip)], ofMem [((2, 0), .var [.i .i64 a0_0, .i .i64 a0_1, .i .i64 a0_2, .sl 160 a0_3, .i .i64 a0_4, .i .i64 a0_5, .i .i64 a0_6, .i .i64 a0_7, .i .i64 a0_8, .sl 162 a0_9, .i .i64 a0_10, .b a0_11, .b a0_12, .sl 53 a0_13, .sl 103 a0_14, .sl 61 a0_15, .sl 120 a0_16]), ((5, 0), .var [.i .i64 p89, .i .i64 p90, .i .i64 p91, .i .i64 p92, .sl 3 p93, .i .i64 p94, .sl 3 p95, .i .i64 p96])]⟩
def spec_l15Job_J1 (k : Nat) (a0_14 : List (List T)) (a1 : Int) (R1 : Int → Int → Int → Int → List (List T) → Int → List (List T) → Int → (Int) → Option Outs) (c1 : Bool) : Option Outs :=
 bif c1 then
  some ⟨[.b false], []⟩
 else
  R1 ((at_ a0_14 a1.toNat 0).asI) ((at_ a0_14 a1.toNat 1).asI) ((at_ a0_14 a1.toNat 2).asI) ((at_ a0_14 a1.toNat 3).asI) ((at_ a0_14 a1.toNat 4).asR) ((at_ a0_14 a1.toNat 5).asI) ((at_ a0_14 a1.toNat 6).asR) ((at_ a0_14 a1.toNat 7).asI) 0
def spec_l15Job_l1 (k : Nat) (a0_0 : Int) (a0_1 : Int) (a0_2 : Int) (a0_3 : List (List T)) (a0_4 : Int) (a0_5 : Int) (a0_6 : Int) (a0_7 : Int) (a0_8 : Int) (a0_9 : List (List T)) (a0_10 : Int) (a0_11 : Bool) (a0_12 : Bool) (a0_13 : List (List T)) (a0_14 : List (List T)) (a0_15 : List (List T)) (a0_16 : List (List T)) (a1 : Int) (p89 : Int) (p90 : Int) (p91 : Int) (p92 : Int) (p93 : List (List T)) (p94 : Int) (p95 : List (List T)) (p96 : Int) (G1 : (Int) → Option Outs) : (Int) → Option Outs :=
  spec_l15Job_L1 k a0_0 a0_1 a0_2 a0_3 a0_4 a0_5 a0_6 a0_7 a0_8 a0_9 a0_10 a0_11 a0_12 a0_13 a0_14 a0_15 a0_16 a1 p89 p90 p91 p92 p93 p94 p95 p96 G1
def spec_l15Job_U (k : Nat) (a0_0 : Int) (a0_1 : Int) (a0_2 : Int) (a0_3 : List (List T)) (a0_4 : Int) (a0_5 : Int) (a0_6 : Int) (a0_7 : Int) (a0_8 : Int) (a0_9 : List (List T)) (a0_10 : Int) (a0_11 : Bool) (a0_12 : Bool) (a0_13 : List (List T)) (a0_14 : List (List T)) (a0_15 : List (List T)) (a0_16 : List (List T)) (a1 : Int) (R1 : Int → Int → Int → Int → List (List T) → Int → List (List T) → Int → (Int) → Option Outs) : Option Outs :=
 chk (decide (0 ≤ a1) && decide (a1 < (a0_14.length : Int))) <|
 bindO (evalF E P0 k N.spec_CmdCode [.v [.i a0_1, .i a0_2], .v [.i (at_ a0_14 a1.toNat 0).asI, .i (at_ a0_14 a1.toNat 1).asI, .i (at_ a0_14 a1.toNat 2).asI, .i (at_ a0_14 a1.toNat 3).asI, .r (at_ a0_14 a1.toNat 4).asR]]) fun o4 =>
 bif ((o4.t 0).asI != 0) then
  spec_l15Job_J1 k a0_14 a1 R1 true
 else
  bindO (evalF E P0 k N.spec_l1In [.v [.i (at_ a0_14 a1.toNat 5).asI], .v [.i 0], .v [.i 40]]) fun o103 =>
  bif (!(o103.t 0).asB) then
   spec_l15Job_J1 k a0_14 a1 R1 true
  else
   bindO (evalF E P0 k N.spec_l1Words [.v [.r (at_ a0_14 a1.toNat 6).asR]]) fun o104 =>
   bif (!(o104.t 0).asB) then
    spec_l15Job_J1 k a0_14 a1 R1 true
   else
    spec_l15Job_J1 k a0_14 a1 R1 (decide (((at_ a0_14 a1.toNat 6).asR.length : Int) > 6))
def spec_l15Job_u (k : Nat) (a0_0 : Int) (a0_1 : Int) (a0_2 : Int) (a0_3 : List (List T)) (a0_4 : Int) (a0_5 : Int) (a0_6 : Int) (a0_7 : Int) (a0_8 : Int) (a0_9 : List (List T)) (a0_10 : Int) (a0_11 : Bool) (a0_12 : Bool) (a0_13 : List (List T)) (a0_14 : List (List T)) (a0_15 : List (List T)) (a0_16 : List (List T)) (a1 : Int) : Option Outs :=
  spec_l15Job_U k a0_0 a0_1 a0_2 a0_3 a0_4 a0_5 a0_6 a0_7 a0_8 a0_9 a0_10 a0_11 a0_12 a0_13 a0_14 a0_15 a0_16 a1 (fun y0 y1 y2 y3 y4 y5 y6 y7 v => fixN (spec_l15Job_l1 k a0_0 a0_1 a0_2 a0_3 a0_4 a0_5 a0_6 a0_7 a0_8 a0_9 a0_10 a0_11 a0_12 a0_13 a0_14 a0_15 a0_16 a1 y0 y1 y2 y3 y4 y5 y6 y7) k v)
def spec_l15Job_it1 (k : Nat) (a0_0 : Int) (a0_1 : Int) (a0_2 : Int) (a0_3 : List (List T)) (a0_4 : Int) (a0_5 : Int) (a0_6 : Int) (a0_7 : Int) (a0_8 : Int) (a0_9 : List (List T)) (a0_10 : Int) (a0_11 : Bool) (a0_12 : Bool) (a0_13 : List (List T)) (a0_14 : List (List T)) (a0_15 : List (List T)) (a0_16 : List (List T)) (a1 : Int) (js : List Nat) (j : Nat) (s : St) : Option Outs := iter E (LB E (evalF E P0 k) k [] N.spec_l15Job [.sr, .sr, .sr, .sl, .sr, .bl]) [] spec_l15Job_k1 (LK E (evalF E P0 k) k [] N.spec_l15Job [.v [.i a0_0, .i a0_1, .i a0_2, .r a0_3, .i a0_4, .i a0_5, .i a0_6, .i a0_7, .i a0_8, .r a0_9, .i a0_10, .b a0_11, .b a0_12, .r a0_13, .r a0_14, .r a0_15, .r a0_16], .v [.i a1]] [.sr, .sr, .sr, .sl, .sr, .bl] js) j s
theorem spec_l15Job_e (k : Nat) (a0_0 : Int) (a0_1 : Int) (a0_2 : Int) (a0_3 : List (List T)) (a0_4 : Int) (a0_5 : Int) (a0_6 : Int) (a0_7 : Int) (a0_8 : Int) (a0_9 : List (List T)) (a0_10 : Int) (a0_11 : Bool) (a0_12 : Bool) (a0_13 : List (List T)) (a0_14 : List (List T)) (a0_15 : List (List T)) (a0_16 : List (List T)) (a1 : Int) : evalF E P0 (k + 1) N.spec_l15Job [.v [.i a0_0, .i a0_1, .i a0_2, .r a0_3, .i a0_4, .i a0_5, .i a0_6, .i a0_7, .i a0_8, .r a0_9, .i a0_10, .b a0_11, .b a0_12, .r a0_13, .r a0_14, .r a0_15, .r a0_16], .v [.i a1]] = spec_l15Job_u k a0_0 a0_1 a0_2 a0_3 a0_4 a0_5 a0_6 a0_7 a0_8 a0_9 a0_10 a0_11 a0_12 a0_13 a0_14 a0_15 a0_16 a1 := by
  have e0 : evalF E P0 (k + 1) N.spec_l15Job [.v [.i a0_0, .i a0_1, .i a0_2, .r a0_3, .i a0_4, .i a0_5, .i a0_6, .i a0_7, .i a0_8, .r a0_9, .i a0_10, .b a0_11, .b a0_12, .r a0_13, .r a0_14, .r a0_15, .r a0_16], .v [.i a1]] = spec_l15Job_U k a0_0 a0_1 a0_2 a0_3 a0_4 a0_5 a0_6 a0_7 a0_8 a0_9 a0_10 a0_11 a0_12 a0_13 a0_14 a0_15 a0_16 a1 (fun y0 y1 y2 y3 y4 y5 y6 y7 v => spec_l15Job_it1 k a0_0 a0_1 a0_2 a0_3 a0_4 a0_5 a0_6 a0_7 a0_8 a0_9 a0_10 a0_11 a0_12 a0_13 a0_14 a0_15 a0_16 a1 [] k (spec_l15Job_S1 a0_0 a0_1 a0_2 a0_3 a0_4 a0_5 a0_6 a0_7 a0_8 a0_9 a0_10 a0_11 a0_12 a0_13 a0_14 a0_15 a0_16 a1 y0 y1 y2 y3 y4 y5 y6 y7 v)) := by kernel_rfl
  have e1 : ∀ (p89 : Int) (p90 : Int) (p91 : Int) (p92 : Int) (p93 : List (List T)) (p94 : Int) (p95 : List (List T)) (p96 : Int) (j1 : Nat) (v : Int), spec_l15Job_it1 k a0_0 a0_1 a0_2 a0_3 a0_4 a0_5 a0_6 a0_7 a0_8 a0_9 a0_10 a0_11 a0_12 a0_13 a0_14 a0_15 a0_16 a1 [] (j1 + 1) (spec_l15Job_S1 a0_0 a0_1 a0_2 a0_3 a0_4 a0_5 a0_6 a0_7 a0_8 a0_9 a0_10 a0_11 a0_12 a0_13 a0_14 a0_15 a0_16 a1 p89 p90 p91 p92 p93 p94 p95 p96 v) = spec_l15Job_L1 k a0_0 a0_1 a0_2 a0_3 a0_4 a0_5 a0_6 a0_7 a0_8 a0_9 a0_10 a0_11 a0_12 a0_13 a0_14 a0_15 a0_16 a1 p89 p90 p91 p92 p93 p94 p95 p96 (fun v => spec_l15Job_it1 k a0_0 a0_1 a0_2 a0_3 a0_4 a0_5 a0_6 a0_7 a0_8 a0_9 a0_10 a0_11 a0_12 a0_13 a0_14 a0_15 a0_16 a1 [] j1 (spec_l15Job_S1 a0_0 a0_1 a0_2 a0_3 a0_4 a0_5 a0_6 a0_7 a0_8 a0_9 a0_10 a0_11 a0_12 a0_13 a0_14 a0_15 a0_16 a1 p89 p90 p91 p92 p93 p94 p95 p96 v)) v := by
    intro p89 p90 p91 p92 p93 p94 p95 p96 j1 v; kernel_rfl
  have i1 : ∀ (p89 : Int) (p90 : Int) (p91 : Int) (p92 : Int) (p93 : List (List T)) (p94 : Int) (p95 : List (List T)) (p96 : Int) (j1 : Nat) (v : Int), spec_l15Job_it1 k a0_0 a0_1 a0_2 a0_3 a0_4 a0_5 a0_6 a0_7 a0_8 a0_9 a0_10 a0_11 a0_12 a0_13 a0_14 a0_15 a0_16 a1 [] j1 (spec_l15Job_S1 a0_0 a0_1 a0_2 a0_3 a0_4 a0_5 a0_6 a0_7 a0_8 a0_9 a0_10 a0_11 a0_12 a0_13 a0_14 a0_15 a0_16 a1 p89 p90 p91 p92 p93 p94 p95 p96 v) = fixN (spec_l15Job_l1 k a0_0 a0_1 a0_2 a0_3 a0_4 a0_5 a0_6 a0_7 a0_8 a0_9 a0_10 a0_11 a0_12 a0_13 a0_14 a0_15 a0_16 a1 p89 p90 p91 p92 p93 p94 p95 p96) j1 v := by
    intro p89 p90 p91 p92 p93 p94 p95 p96 j1 v
    refine iter_fix (spec_l15Job_S1 a0_0 a0_1 a0_2 a0_3 a0_4 a0_5 a0_6 a0_7 a0_8 a0_9 a0_10 a0_11 a0_12 a0_13 a0_14 a0_15 a0_16 a1 p89 p90 p91 p92 p93 p94 p95 p96) (spec_l15Job_l1 k a0_0 a0_1 a0_2 a0_3 a0_4 a0_5 a0_6 a0_7 a0_8 a0_9 a0_10 a0_11 a0_12 a0_13 a0_14 a0_15 a0_16 a1 p89 p90 p91 p92 p93 p94 p95 p96) (fun j1 v => (e1 p89 p90 p91 p92 p93 p94 p95 p96 j1 v).trans ?_) j1 v
    unfold spec_l15Job_l1
    rfl
  rw [e0]; unfold spec_l15Job_u
  simp only [i1]
def spec_SecOk_u (k : Nat) (a0 : List (List T)) : Option Outs :=
 bif (decide ((a0.length : Int) ≤ 12)) then
  bindO (evalF E P0 k N.spec_l1Words [.v [.r a0]]) fun o2 =>
  some ⟨[.b (o2.t 0).asB], []⟩
 else
  some ⟨[.b false], []⟩
theorem spec_SecOk_e (k : Nat) (a0 : List (List T)) : evalF E P0 (k + 1) N.spec_SecOk [.v [.r a0]] = spec_SecOk_u k a0 := by kernel_rfl
def spec_MemOk_L3 (k : Nat) (a0_0 : List (List T)) (a0_1 : List (List T)) (a0_2 : Bool) (a0_3 : List (List T)) (G3 : (Int) → Option Outs) : (Int) → Option Outs := fun v24 =>
 bif (decide (v24 < (a0_3.length : Int))) then
  chk (decide (0 ≤ v24) && decide (v24 < (a0_3.length : Int))) <|
  bindO (evalF E P0 k N.spec_l1In [.v [.i (at_ a0_3 v24.toNat 0).asI], .v [.i 0], .v [.i (IntKind.wrap .i64 ((a0_0.length : Int) - 1))]]) fun o384 =>
  bif (!(o384.t 0).asB) then
   some ⟨[.b false], []⟩
  else
   bif (decide (v24 > 0)) then
    chk (decide (0 ≤ (IntKind.wrap .i64 (v24 - 1))) && decide ((IntKind.wrap .i64 (v24 - 1)) < (a0_3.length : Int))) <|
    chk (decide (0 ≤ v24) && decide (v24 < (a0_3.length : Int))) <|
    bif (decide ((at_ a0_3 (IntKind.wrap .i64 (v24 - 1)).toNat 0).asI ≥ (at_ a0_3 v24.toNat 0).asI)) then
     some ⟨[.b false], []⟩
    else
     G3 (IntKind.wrap .i64 (v24 + 1))
   else
    G3 (IntKind.wrap .i64 (v24 + 1))
 else
  bindO (evalF E P0 k N.spec_l1In [.v [.i (a0_0.length : Int)], .v [.i 1], .v [.i 20]]) fun o386 =>
  bif (o386.t 0).asB then some ⟨[.b (decide ((a0_1.length : Int) ≤ 60))], []⟩ else some ⟨[.b false], []⟩
def spec_MemOk_k3 : List Nat := [1, 2, 3, 6, 83, 84, 85, 86, 87, 88, 89, 90]
def spec_MemOk_S3 (a0_0 : List (List T)) (a0_1 : List (List T)) (a0_2 : Bool) (a0_3 : List (List T)) : (Int) → St := fun v24 => ⟨ofSl [(1, .ptr (1, 0) 0), (2, .b false), (3, .i .i64 (a0_0.length : Int)), (6, .i .i64 v24), (83, .skip), (84, .skip), (85, .skip), (86, .skip), (87, .skip), (88, .skip), (89, .skip), (90, .skip)], ofMem [((1, 0), .var [.sl 34 a0_0, .sl 184 a0_1, .b a0_2, .sl 3 a0_3])]⟩
def spec_MemOk_L2 (k : Nat) (a0_0 : List (List T)) (a0_1 : List (List T)) (a0_2 : Bool) (a0_3 : List (List T)) (R3 : (Int) → Option Outs) (G2 : (Int) → Option Outs) : (Int) → Option Outs := fun v16 =>
 bif (decide (v16 < (a0_1.length : Int))) then
  chk (decide (0 ≤ v16) && decide (v16 < (a0_1.length : Int))) <|
  bindO (evalF E P0 k N.spec_l1In [.v [.i (at_ a0_1 v16.toNat 0).asI], .v [.i 0], .v [.i (IntKind.wrap .i64 ((a0_0.length : Int) - 1))]]) fun o287 =>
  bif (!(o287.t 0).asB) then
   some ⟨[.b false], []⟩
  else
   chk (decide (0 ≤ v16) && decide (v16 < (a0_1.length : Int))) <|
   bindO (evalF E P0 k N.spec_SecOk [.v [.r (at_ a0_1 v16.toNat 1).asR]]) fun o288 =>
   bif (!(o288.t 0).asB) then some ⟨[.b false], []⟩ else G2 (IntKind.wrap .i64 (v16 + 1))
 else
  R3 0
def spec_MemOk_k2 : List Nat := [1, 2, 3, 5, 6, 49, 50, 51, 52, 53, 54, 55, 56, 57, 58, 59, 60, 61, 62, 63, 64, 65, 66, 67, 68, 69, 70, 71, 72, 73, 74, 75, 76, 77, 78, 79, 80, 81, 82, 83, 84, 85, 86, 87, 88, 89, 90]
def spec_MemOk_S2 (a0_0 : List (List T)) (a0_1 : List (List T)) (a0_2 : Bool) (a0_3 : List (List T)) : (Int) → St := fun v16 => ⟨ofSl [(1, .ptr (1, 0) 0), (2, .b false), (3, .i .i64 (a0_0.length : Int)), (5, .i .i64 v16), (6, .skip), (49, .skip), (50, .skip), (51, .skip), (52, .skip), (53, .skip), (54, .skip), (55, .skip), (56, .skip), (57, .skip), (58, .skip), (59, .skip), (60, .skip), (61, .skip), (62, .skip), (63, .skip), (64, .skip), (65, .skip), (66, .skip), (67, .skip), (68, .skip), (69, .skip), (70, .skip), (71, .skip), (72, .skip), (73, .skip), (74, .skip), (75, .skip), (76, .skip), (77, .skip), (78, .skip), (79, .skip), (80, .skip), (81, .skip), (82, .skip), (83, .skip), (84, .skip), (85, .skip), (86, .skip), (87, .skip), (88, .skip), (89, .skip), (90, .skip)], ofMem [((1, 0), .var [.sl 34 a0_0, .sl 184 a0_1, .b a0_2, .sl 3 a0_3])]⟩
def spec_MemOk_L1 (k : Nat) (a0_0 : List (List T)) (a0_1 : List (List T)) (a0_2 : Bool) (a0_3 : List (List T)) (R2 : (Int) → Option Outs) (G1 : (Int) → Option Outs) : (Int) → Option Outs := fun v8 =>
 bif (decide (v8 < (a0_0.length : Int))) then
  chk (decide (0 ≤ v8) && decide (v8 < (a0_0.length : Int))) <|
  bindO (evalF E P0 k N.spec_SecOk [.v [.r (at_ a0_0 v8.toNat 0).asR]]) fun o96 =>
  bif (!(o96.t 0).asB) then some ⟨[.b false], []⟩ else G1 (IntKind.wrap .i64 (v8 + 1))
 else
  R2 0
def spec_MemOk_k1 : List Nat := [1, 2, 3, 4, 5, 6, 22, 23, 24, 25, 26, 27, 28, 29, 30, 31, 32, 33, 34, 35, 36, 37, 38, 39, 40, 41, 42, 43, 44, 45, 46, 47, 48, 49, 50, 51, 52, 53, 54, 55, 56, 57, 58, 59, 60, 61, 62, 63, 64, 65, 66, 67, 68, 69, 70, 71, 72, 73, 74, 75, 76, 77, 78, 79, 80, 81, 82, 83, 84, 85, 86, 87, 88, 89, 90]
def spec_MemOk_S1 (a0_0 : List (List T)) (a0_1 : List (List T)) (a0_2 : Bool) (a0_3 : List (List T)) : (Int) → St := fun v8 => ⟨ofSl [(1, .ptr (1, 0) 0), (2, .b false), (3, .i .i64 (a0_0.length : Int)), (4, .i .i64 v8), (5, .skip), (6, .skip), (22, .skip), (23, .skip), (24, .skip), (25, .skip), (26, .skip), (27, .skip), (28, .skip), (29, .skip), (30, .skip), (31, .skip), (32, .skip), (33, .skip), (34, .skip), (35, .skip), (36, .skip), (37, .skip), (38, .skip), (39, .skip), (40, .skip), (41, .skip), (42, .skip), (43, .skip), (44, .skip), (45, .skip), (46, .skip), (47, .skip), (48, .skip), (49, .skip), (50, .skip), (51, .skip), (52, .skip), (53, .skip), (54, .skip), (55, .skip), (56, .skip), (57, .skip), (58, .skip), (59, .skip), (60, .skip), (61, .skip), (62, .skip), (63, .skip), (64, .skip), (65, .skip), (66, .skip), (67, .skip), (68, .skip), (69, .skip), (70, .skip), (71, .skip), (72, .skip), (73, .skip), (74, .skip), (75, .skip), (76, .skip), (77, .skip), (78, .skip), (79, .skip), (80, .skip), (81, .skip), (82, .skip), (83, .skip), (84, .skip), (85, .skip), (86, .skip), (87, .skip), (88, .skip), (89, .skip), (90, .skip)], ofMem [((1, 0), .var [.sl 34 a0_0, .sl 184 a0_1, .b a0_2, .sl 3 a0_3])]⟩
def spec_MemOk_l3 (k : Nat) (a0_0 : List (List T)) (a0_1 : List (List T)) (a0_2 : Bool) (a0_3 : List (List T)) (G3 : (Int) → Option Outs) : (Int) → Option Outs :=
  spec_MemOk_L3 k a0_0 a0_1 a0_2 a0_3 G3
def spec_MemOk_l2 (k : Nat) (a0_0 : List (List T)) (a0_1 : List (List T)) (a0_2 : Bool) (a0_3 : List (List T)) (G2 : (Int) → Option Outs) : (Int) → Option Outs :=
  spec_MemOk_L2 k a0_0 a0_1 a0_2 a0_3 (fun v => fixN (spec_MemOk_l3 k a0_0 a0_1 a0_2 a0_3) k v) G2
def spec_MemOk_l1 (k : Nat) (a0_0 : List (List T)) (a0_1 : List (List T)) (a0_2 : Bool) (a0_3 : List (List T)) (G1 : (Int) → Option Outs) : (Int) → Option Outs :=
  spec_MemOk_L1 k a0_0 a0_1 a0_2 a0_3 (fun v => fixN (spec_MemOk_l2 k a0_0 a0_1 a0_2 a0_3) k v) G1
def spec_MemOk_U (k : Nat) (a0_0 : List (List T)) (a0_1 : List (List T)) (a0_2 : Bool) (a0_3 : List (List T)) (R1 : (Int) → Option Outs) : Option Outs :=
 R1 0
def spec_MemOk_u (k : Nat) (a0_0 : List (List T)) (a0_1 : List (List T)) (a0_2 : Bool) (a0_3 : List (List T)) : Option Outs :=
  spec_MemOk_U k a0_0 a0_1 a0_2 a0_3 (fun v => fixN (spec_MemOk_l1 k a0_0 a0_1 a0_2 a0_3) k v)
def spec_MemOk_it1 (k : Nat) (a0_0 : List (List T)) (a0_1 : List (List T)) (a0_2 : Bool) (a0_3 : List (List T)) (js : List Nat) (j : Nat) (s : St) : Option Outs := iter E (LB E (evalF E P0 k) k [] N.spec_MemOk [.sr, .sr, .sl, .sr, .bl]) [] spec_MemOk_k1 (LK E (evalF E P0 k) k [] N.spec_MemOk [.v [.r a0_0, .r a0_1, .b a0_2, .r a0_3]] [.sr, .sr, .sl, .sr, .bl] js) j s
def spec_MemOk_it2 (k : Nat) (a0_0 : List (List T)) (a0_1 : List (List T)) (a0_2 : Bool) (a0_3 : List (List T)) (js : List Nat) (j : Nat) (s : St) : Option Outs := iter E (LB E (evalF E P0 k) k [] N.spec_MemOk [.sr, .sr, .sr, .sl, .sr, .bl]) [] spec_MemOk_k2 (LK E (evalF E P0 k) k [] N.spec_MemOk [.v [.r a0_0, .r a0_1, .b a0_2, .r a0_3]] [.sr, .sr, .sr, .sl, .sr, .bl] js) j s
def spec_MemOk_it3 (k : Nat) (a0_0 : List (List T)) (a0_1 : List (List T)) (a0_2 : Bool) (a0_3 : List (List T)) (js : List Nat) (j : Nat) (s : St) : Option Outs := iter E (LB E (evalF E P0 k) k [] N.spec_MemOk [.sr, .sr, .sr, .sr, .sl, .sr, .bl]) [] spec_MemOk_k3 (LK E (evalF E P0 k) k [] N.spec_MemOk [.v [.r a0_0, .r a0_1, .b a0_2, .r a0_3]] [.sr, .sr, .sr, .sr, .sl, .sr, .bl] js) j s
theorem spec_MemOk_e (k : Nat) (a0_0 : List (List T)) (a0_1 : List (List T)) (a0_2 : Bool) (a0_3 : List (List T)) : evalF E P0 (k + 1) N.spec_MemOk [.v [.r a0_0, .r a0_1, .b a0_2, .r a0_3]] = spec_MemOk_u k a0_0 a0_1 a0_2 a0_3 := by
  have e0 : evalF E P0 (k + 1) N.spec_MemOk [.v [.r a0_0, .r a0_1, .b a0_2, .r a0_3]] = spec_MemOk_U k a0_0 a0_1 a0_2 a0_3 (fun v => spec_MemOk_it1 k a0_0 a0_1 a0_2 a0_3 [] k (spec_MemOk_S1 a0_0 a0_1 a0_2 a0_3 v)) := by kernel_rfl
  have e3 : ∀ (j3 : Nat) (v : Int), spec_MemOk_it3 k a0_0 a0_1 a0_2 a0_3 [] (j3 + 1) (spec_MemOk_S3 a0_0 a0_1 a0_2 a0_3 v) = spec_MemOk_L3 k a0_0 a0_1 a0_2 a0_3 (fun v => spec_MemOk_it3 k a0_0 a0_1 a0_2 a0_3 [] j3 (spec_MemOk_S3 a0_0 a0_1 a0_2 a0_3 v)) v := by
    intro j3 v; kernel_rfl
  have i3 : ∀ (j3 : Nat) (v : Int), spec_MemOk_it3 k a0_0 a0_1 a0_2 a0_3 [] j3 (spec_MemOk_S3 a0_0 a0_1 a0_2 a0_3 v) = fixN (spec_MemOk_l3 k a0_0 a0_1 a0_2 a0_3) j3 v := by
    intro j3 v
    refine iter_fix (spec_MemOk_S3 a0_0 a0_1 a0_2 a0_3) (spec_MemOk_l3 k a0_0 a0_1 a0_2 a0_3) (fun j3 v => (e3 j3 v).trans ?_) j3 v
    unfold spec_MemOk_l3
    rfl
  have e2 : ∀ (j2 : Nat) (v : Int), spec_MemOk_it2 k a0_0 a0_1 a0_2 a0_3 [] (j2 + 1) (spec_MemOk_S2 a0_0 a0_1 a0_2 a0_3 v) = spec_MemOk_L2 k a0_0 a0_1 a0_2 a0_3 (fun v => spec_MemOk_it3 k a0_0 a0_1 a0_2 a0_3 [] k (spec_MemOk_S3 a0_0 a0_1 a0_2 a0_3 v)) (fun v => spec_MemOk_it2 k a0_0 a0_1 a0_2 a0_3 [] j2 (spec_MemOk_S2 a0_0 a0_1 a0_2 a0_3 v)) v := by
    intro j2 v; kernel_rfl
  have i2 : ∀ (j2 : Nat) (v : Int), spec_MemOk_it2 k a0_0 a0_1 a0_2 a0_3 [] j2 (spec_MemOk_S2 a0_0 a0_1 a0_2 a0_3 v) = fixN (spec_MemOk_l2 k a0_0 a0_1 a0_2 a0_3) j2 v := by
    intro j2 v
    refine iter_fix (spec_MemOk_S2 a0_0 a0_1 a0_2 a0_3) (spec_MemOk_l2 k a0_0 a0_1 a0_2 a0_3) (fun j2 v => (e2 j2 v).trans ?_) j2 v
    unfold spec_MemOk_l2
    simp only [i3] <;> rfl
  have e1 : ∀ (j1 : Nat) (v : Int), spec_MemOk_it1 k a0_0 a0_1 a0_2 a0_3 [] (j1 + 1) (spec_MemOk_S1 a0_0 a0_1 a0_2 a0_3 v) = spec_MemOk_L1 k a0_0 a0_1 a0_2 a0_3 (fun v => spec_MemOk_it2 k a0_0 a0_1 a0_2 a0_3 [] k (spec_MemOk_S2 a0_0 a0_1 a0_2 a0_3 v)) (fun v => spec_MemOk_it1 k a0_0 a0_1 a0_2 a0_3 [] j1 (spec_MemOk_S1 a0_0 a0_1 a0_2 a0_3 v)) v := by
    intro j1 v; kernel_rfl
  have i1 : ∀ (j1 : Nat) (v : Int), spec_MemOk_it1 k a0_0 a0_1 a0_2 a0_3 [] j1 (spec_MemOk_S1 a0_0 a0_1 a0_2 a0_3 v) = fixN (spec_MemOk_l1 k a0_0 a0_1 a0_2 a0_3) j1 v := by
    intro j1 v
    refine iter_fix (spec_MemOk_S1 a0_0 a0_1 a0_2 a0_3) (spec_MemOk_l1 k a0_0 a0_1 a0_2 a0_3) (fun j1 v => (e1 j1 v).trans ?_) j1 v
    unfold spec_MemOk_l1
    simp only [i2] <;> rfl
  rw [e0]; unfold spec_MemOk_u
  simp only [i1]
def spec_l6Secs_u (k : Nat) (a0_0 : Int) (a0_1 : Int) : Option Outs :=
 some ⟨[.i (IntKind.wrap .i64 (6 + a0_1))], []⟩
theorem spec_l6Secs_e (k : Nat) (a0_0 : Int) (a0_1 : Int) : evalF E P0 (k + 1) N.spec_l6Secs [.v [.i a0_0, .i a0_1]] = spec_l6Secs_u k a0_0 a0_1 := by kernel_rfl
def spec_l6Mems_L1 (k : Nat) (a0_0 : Int) (a0_1 : Int) (a0_2 : Int) (a0_3 : List (List T)) (a0_4 : Int) (a0_5 : Int) (a0_6 : Int) (a0_7 : Int) (a0_8 : Int) (a0_9 : List (List T)) (a0_10 : Int) (a0_11 : Bool) (a0_12 : Bool) (G1 : (Int) → Option Outs) : (Int) → Option Outs := fun v8 =>
 bif (decide (v8 < (a0_3.length : Int))) then
  chk (decide (0 ≤ v8) && decide (v8 < (a0_3.length : Int))) <|
  bindO (evalF E P0 k N.spec_MemOk [.v [.r (at_ a0_3 v8.toNat 0).asR, .r (at_ a0_3 v8.toNat 1).asR, .b (at_ a0_3 v8.toNat 2).asB, .r (at_ a0_3 v8.toNat 3).asR]]) fun o191 =>
  bif (!(o191.t 0).asB) then
   some ⟨[.b false], []⟩
  else
   bindO (evalF E P0 k N.spec_l6Secs [.v [.i a0_1, .i a0_2]]) fun o192 =>
   bif (((at_ a0_3 v8.toNat 0).asR.length : Int) != (o192.t 0).asI) then
    some ⟨[.b false], []⟩
   else
    bif (at_ a0_3 v8.toNat 2).asB then
     bif (v8 != a0_4) then
      bif (!a0_12) then some ⟨[.b false], []⟩ else G1 (IntKind.wrap .i64 (v8 + 1))
     else
      G1 (IntKind.wrap .i64 (v8 + 1))
    else
     G1 (IntKind.wrap .i64 (v8 + 1))
 else
  some ⟨[.b ((a0_3.length : Int) == a0_1)], []⟩
def spec_l6Mems_k1 : List Nat := [1, 2, 3, 44, 45, 46, 47, 48, 49, 50]
def spec_l6Mems_S1 (a0_0 : Int) (a0_1 : Int) (a0_2 : Int) (a0_3 : List (List T)) (a0_4 : Int) (a0_5 : Int) (a0_6 : Int) (a0_7 : Int) (a0_8 : Int) (a0_9 : List (List T)) (a0_10 : Int) (a0_11 : Bool) (a0_12 : Bool) : (Int) → St := fun v8 => ⟨ofSl [(1, .ptr (1, 0) 0), (2, .b false), (3, .i .i64 v8), (44, .skip), (45, .skip), (46, .skip), (47, .skip), (48, .skip), (49, .skip), (50, .skip)], ofMem [((1, 0), .var [.i .i64 a0_0, .i .i64 a0_1, .i .i64 a0_2, .sl 160 a0_3, .i .i64 a0_4, .i .i64 a0_5, .i .i64 a0_6, .i .i64 a0_7, .i .i64 a0_8, .sl 162 a0_9, .i .i64 a0_10, .b a0_11, .b a0_12])]⟩
def spec_l6Mems_l1 (k : Nat) (a0_0 : Int) (a0_1 : Int) (a0_2 : Int) (a0_3 : List (List T)) (a0_4 : Int) (a0_5 : Int) (a0_6 : Int) (a0_7 : Int) (a0_8 : Int) (a0_9 : List (List T)) (a0_10 : Int) (a0_11 : Bool) (a0_12 : Bool) (G1 : (Int) → Option Outs) : (Int) → Option Outs :=
  spec_l6Mems_L1 k a0_0 a0_1 a0_2 a0_3 a0_4 a0_5 a0_6 a0_7 a0_8 a0_9 a0_10 a0_11 a0_12 G1
def spec_l6Mems_U (k : Nat) (a0_0 : Int) (a0_1 : Int) (a0_2 : Int) (a0_3 : List (List T)) (a0_4 : Int) (a0_5 : Int) (a0_6 : Int) (a0_7 : Int) (a0_8 : Int) (a0_9 : List (List T)) (a0_10 : Int) (a0_11 : Bool) (a0_12 : Bool) (R1 : (Int) → Option Outs) : Option Outs :=
 R1 0
def spec_l6Mems_u (k : Nat) (a0_0 : Int) (a0_1 : Int) (a0_2 : Int) (a0_3 : List (List T)) (a0_4 : Int) (a0_5 : Int) (a0_6 : Int) (a0_7 : Int) (a0_8 : Int) (a0_9 : List (List T)) (a0_10 : Int) (a0_11 : Bool) (a0_12 : Bool) : Option Outs :=
  spec_l6Mems_U k a0_0 a0_1 a0_2 a0_3 a0_4 a0_5 a0_6 a0_7 a0_8 a0_9 a0_10 a0_11 a0_12 (fun v => fixN (spec_l6Mems_l1 k a0_0 a0_1 a0_2 a0_3 a0_4 a0_5 a0_6 a0_7 a0_8 a0_9 a0_10 a0_11 a0_12) k v)
def spec_l6Mems_it1 (k : Nat) (a0_0 : Int) (a0_1 : Int) (a0_2 : Int) (a0_3 : List (List T)) (a0_4 : Int) (a0_5 : Int) (a0_6 : Int) (a0_7 : Int) (a0_8 : Int) (a0_9 : List (List T)) (a0_10 : Int) (a0_11 : Bool) (a0_12 : Bool) (js : List Nat) (j : Nat) (s : St) : Option Outs := iter E (LB E (evalF E P0 k) k [] N.spec_l6Mems [.sr, .sl, .sr, .bl]) [] spec_l6Mems_k1 (LK E (evalF E P0 k) k [] N.spec_l6Mems [.v [.i a0_0, .i a0_1, .i a0_2, .r a0_3, .i a0_4, .i a0_5, .i a0_6, .i a0_7, .i a0_8, .r a0_9, .i a0_10, .b a0_11, .b a0_12]] [.sr, .sl, .sr, .bl] js) j s
theorem spec_l6Mems_e (k : Nat) (a0_0 : Int) (a0_1 : Int) (a0_2 : Int) (a0_3 : List (List T)) (a0_4 : Int) (a0_5 : Int) (a0_6 : Int) (a0_7 : Int) (a0_8 : Int) (a0_9 : List (List T)) (a0_10 : Int) (a0_11 : Bool) (a0_12 : Bool) : evalF E P0 (k + 1) N.spec_l6Mems [.v [.i a0_0, .i a0_1, .i a0_2, .r a0_3, .i a0_4, .i a0_5, .i a0_6, .i a0_7, .i a0_8, .r a0_9, .i a0_10, .b a0_11, .b a0_12]] = spec_l6Mems_u k a0_0 a0_1 a0_2 a0_3 a0_4 a0_5 a0_6 a0_7 a0_8 a0_9 a0_10 a0_11 a0_12 := by
  have e0 : evalF E P0 (k + 1) N.spec_l6Mems [.v [.i a0_0, .i a0_1, .i a0_2, .r a0_3, .i a0_4, .i a0_5, .i a0_6, .i a0_7, .i a0_8, .r a0_9, .i a0_10, .b a0_11, .b a0_12]] = spec_l6Mems_U k a0_0 a0_1 a0_2 a0_3 a0_4 a0_5 a0_6 a0_7 a0_8 a0_9 a0_10 a0_11 a0_12 (fun v => spec_l6Mems_it1 k a0_0 a0_1 a0_2 a0_3 a0_4 a0_5 a0_6 a0_7 a0_8 a0_9 a0_10 a0_11 a0_12 [] k (spec_l6Mems_S1 a0_0 a0_1 a0_2 a0_3 a0_4 a0_5 a0_6 a0_7 a0_8 a0_9 a0_10 a0_11 a0_12 v)) := by kernel_rfl
  have e1 : ∀ (j1 : Nat) (v : Int), spec_l6Mems_it1 k a0_0 a0_1 a0_2 a0_3 a0_4 a0_5 a0_6 a0_7 a0_8 a0_9 a0_10 a0_11 a0_12 [] (j1 + 1) (spec_l6Mems_S1 a0_0 a0_1 a0_2 a0_3 a0_4 a0_5 a0_6 a0_7 a0_8 a0_9 a0_10 a0_11 a0_12 v) = spec_l6Mems_L1 k a0_0 a0_1 a0_2 a0_3 a0_4 a0_5 a0_6 a0_7 a0_8 a0_9 a0_10 a0_11 a0_12 (fun v => spec_l6Mems_it1 k a0_0 a0_1 a0_2 a0_3 a0_4 a0_5 a0_6 a0_7 a0_8 a0_9 a0_10 a0_11 a0_12 [] j1 (spec_l6Mems_S1 a0_0 a0_1 a0_2 a0_3 a0_4 a0_5 a0_6 a0_7 a0_8 a0_9 a0_10 a0_11 a0_12 v)) v := by
    intro j1 v; kernel_rfl
  have i1 : ∀ (j1 : Nat) (v : Int), spec_l6Mems_it1 k a0_0 a0_1 a0_2 a0_3 a0_4 a0_5 a0_6 a0_7 a0_8 a0_9 a0_10 a0_11 a0_12 [] j1 (spec_l6Mems_S1 a0_0 a0_1 a0_2 a0_3 a0_4 a0_5 a0_6 a0_7 a0_8 a0_9 a0_10 a0_11 a0_12 v) = fixN (spec_l6Mems_l1 k a0_0 a0_1 a0_2 a0_3 a0_4 a0_5 a0_6 a0_7 a0_8 a0_9 a0_10 a0_11 a0_12) j1 v := by
    intro j1 v
    refine iter_fix (spec_l6Mems_S1 a0_0 a0_1 a0_2 a0_3 a0_4 a0_5 a0_6 a0_7 a0_8 a0_9 a0_10 a0_11 a0_12) (spec_l6Mems_l1 k a0_0 a0_1 a0_2 a0_3 a0_4 a0_5 a0_6 a0_7 a0_8 a0_9 a0_10 a0_11 a0_12) (fun j1 v => (e1 j1 v).trans ?_) j1 v
    unfold spec_l6Mems_l1
    rfl
  rw [e0]; unfold spec_l6Mems_u
  simp only [i1]
end
end Go.Proofs.YtjgmiilapnekfaaGreat.Ev
