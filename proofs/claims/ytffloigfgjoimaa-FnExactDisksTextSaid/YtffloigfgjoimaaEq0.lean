/- What functions answer under the evaluator, as Lean terms, part 0. No condition. -/
import Derived.Test.YtffloigfgjoimaaTab
namespace Go.Proofs.Ytffloigfgjoimaa.Ev
open Go Go.Proofs
set_option linter.unusedVariables false
set_option maxRecDepth 100000
set_option maxHeartbeats 4000000
noncomputable section
/- laws.szIntS -/
def laws_szIntS_u (k : Nat) (a0 : List (List T)) (a1 : Int) : Option Outs :=
 bif (decide ((IntKind.wrap .i64 (a1 - (a0.length : Int))) < 0)) then
  some ⟨[.i (-1)], []⟩
 else
  some ⟨[.i (IntKind.wrap .i64 (a1 - (a0.length : Int)))], []⟩
theorem laws_szIntS_e (k : Nat) (a0 : List (List T)) (a1 : Int) : evalF E P0 (k + 1) N.laws_szIntS [.v [.r a0], .v [.i a1]] = laws_szIntS_u k a0 a1 := by kernel_rfl
/- laws.szIntSS -/
def laws_szIntSS_L1 (k : Nat) (a0 : List (List T)) (G1 : (Int × Int) → Option Outs) : (Int × Int) → Option Outs := fun (v15, v16) =>
 bif (decide (v16 < (a0.length : Int))) then
  chk (decide (0 ≤ v16) && decide (v16 < (a0.length : Int))) <|
  bindO (evalF E P0 k N.laws_szIntS [.v [.r (at_ a0 v16.toNat 0).asR], .v [.i v15]]) fun o96 =>
  bif (decide ((o96.t 0).asI < 0)) then some ⟨[.i (-1)], []⟩ else G1 ((o96.t 0).asI, (IntKind.wrap .i64 (v16 + 1)))
 else
  some ⟨[.i v15], []⟩
def laws_szIntSS_k1 : List Nat := [0, 1, 4, 5, 26]
def laws_szIntSS_S1 (a0 : List (List T)) : (Int × Int) → St := fun (v15, v16) => ⟨ofSl [(0, .sl 53 a0), (1, .i .i64 v15), (4, .i .i64 0), (5, .i .i64 v16), (26, .skip)], ofMem []⟩
def laws_szIntSS_l1 (k : Nat) (a0 : List (List T)) (G1 : (Int × Int) → Option Outs) : (Int × Int) → Option Outs :=
  laws_szIntSS_L1 k a0 G1
def laws_szIntSS_U (k : Nat) (a0 : List (List T)) (a1 : Int) (R1 : (Int × Int) → Option Outs) : Option Outs :=
 bif (decide ((IntKind.wrap .i64 (a1 - (a0.length : Int))) < 0)) then
  some ⟨[.i (-1)], []⟩
 else
  R1 ((IntKind.wrap .i64 (a1 - (a0.length : Int))), 0)
def laws_szIntSS_u (k : Nat) (a0 : List (List T)) (a1 : Int) : Option Outs :=
  laws_szIntSS_U k a0 a1 (fun v => fixN (laws_szIntSS_l1 k a0) k v)
def laws_szIntSS_it1 (k : Nat) (a0 : List (List T)) (a1 : Int) (js : List Nat) (j : Nat) (s : St) : Option Outs := iter (LB E (evalF E P0 k) k [] N.laws_szIntSS [.sr, .sr, .sr, .sl, .sr, .bl]) [] laws_szIntSS_k1 (LK E (evalF E P0 k) k [] N.laws_szIntSS [.v [.r a0], .v [.i a1]] [.sr, .sr, .sr, .sl, .sr, .bl] js) j s
theorem laws_szIntSS_e (k : Nat) (a0 : List (List T)) (a1 : Int) : evalF E P0 (k + 1) N.laws_szIntSS [.v [.r a0], .v [.i a1]] = laws_szIntSS_u k a0 a1 := by
  have e0 : evalF E P0 (k + 1) N.laws_szIntSS [.v [.r a0], .v [.i a1]] = laws_szIntSS_U k a0 a1 (fun v => laws_szIntSS_it1 k a0 a1 [] k (laws_szIntSS_S1 a0 v)) := by kernel_rfl
  have e1 : ∀ (j1 : Nat) (v : Int × Int), laws_szIntSS_it1 k a0 a1 [] (j1 + 1) (laws_szIntSS_S1 a0 v) = laws_szIntSS_L1 k a0 (fun v => laws_szIntSS_it1 k a0 a1 [] j1 (laws_szIntSS_S1 a0 v)) v := by
    intro j1 v; kernel_rfl
  have i1 : ∀ (j1 : Nat) (v : Int × Int), laws_szIntSS_it1 k a0 a1 [] j1 (laws_szIntSS_S1 a0 v) = fixN (laws_szIntSS_l1 k a0) j1 v := by
    intro j1 v
    refine iter_fix (laws_szIntSS_S1 a0) (laws_szIntSS_l1 k a0) (fun j1 v => (e1 j1 v).trans ?_) j1 v
    unfold laws_szIntSS_l1
    rfl
  rw [e0]; unfold laws_szIntSS_u
  simp only [i1]
/- laws.szWr -/
def laws_szWr_u (k : Nat) (a0_0 : Int) (a0_1 : List (List T)) (a1 : Int) : Option Outs :=
 bindO (evalF E P0 k N.laws_szIntS [.v [.r a0_1], .v [.i a1]]) fun o2 =>
 bif (decide ((o2.t 0).asI < 0)) then some ⟨[.i (-1)], []⟩ else some ⟨[.i (o2.t 0).asI], []⟩
theorem laws_szWr_e (k : Nat) (a0_0 : Int) (a0_1 : List (List T)) (a1 : Int) : evalF E P0 (k + 1) N.laws_szWr [.v [.i a0_0, .r a0_1], .v [.i a1]] = laws_szWr_u k a0_0 a0_1 a1 := by kernel_rfl
/- laws.szWrS -/
def laws_szWrS_L1 (k : Nat) (a0 : List (List T)) (G1 : (Int × Int) → Option Outs) : (Int × Int) → Option Outs := fun (v15, v16) =>
 bif (decide (v16 < (a0.length : Int))) then
  chk (decide (0 ≤ v16) && decide (v16 < (a0.length : Int))) <|
  bindO (evalF E P0 k N.laws_szWr [.v [.i (at_ a0 v16.toNat 0).asI, .r (at_ a0 v16.toNat 1).asR], .v [.i v15]]) fun o96 =>
  bif (decide ((o96.t 0).asI < 0)) then some ⟨[.i (-1)], []⟩ else G1 ((o96.t 0).asI, (IntKind.wrap .i64 (v16 + 1)))
 else
  some ⟨[.i v15], []⟩
def laws_szWrS_k1 : List Nat := [0, 1, 4, 5, 26]
def laws_szWrS_S1 (a0 : List (List T)) : (Int × Int) → St := fun (v15, v16) => ⟨ofSl [(0, .sl 124 a0), (1, .i .i64 v15), (4, .i .i64 0), (5, .i .i64 v16), (26, .skip)], ofMem []⟩
def laws_szWrS_l1 (k : Nat) (a0 : List (List T)) (G1 : (Int × Int) → Option Outs) : (Int × Int) → Option Outs :=
  laws_szWrS_L1 k a0 G1
def laws_szWrS_U (k : Nat) (a0 : List (List T)) (a1 : Int) (R1 : (Int × Int) → Option Outs) : Option Outs :=
 bif (decide ((IntKind.wrap .i64 (a1 - (a0.length : Int))) < 0)) then
  some ⟨[.i (-1)], []⟩
 else
  R1 ((IntKind.wrap .i64 (a1 - (a0.length : Int))), 0)
def laws_szWrS_u (k : Nat) (a0 : List (List T)) (a1 : Int) : Option Outs :=
  laws_szWrS_U k a0 a1 (fun v => fixN (laws_szWrS_l1 k a0) k v)
def laws_szWrS_it1 (k : Nat) (a0 : List (List T)) (a1 : Int) (js : List Nat) (j : Nat) (s : St) : Option Outs := iter (LB E (evalF E P0 k) k [] N.laws_szWrS [.sr, .sr, .sr, .sl, .sr, .bl]) [] laws_szWrS_k1 (LK E (evalF E P0 k) k [] N.laws_szWrS [.v [.r a0], .v [.i a1]] [.sr, .sr, .sr, .sl, .sr, .bl] js) j s
theorem laws_szWrS_e (k : Nat) (a0 : List (List T)) (a1 : Int) : evalF E P0 (k + 1) N.laws_szWrS [.v [.r a0], .v [.i a1]] = laws_szWrS_u k a0 a1 := by
  have e0 : evalF E P0 (k + 1) N.laws_szWrS [.v [.r a0], .v [.i a1]] = laws_szWrS_U k a0 a1 (fun v => laws_szWrS_it1 k a0 a1 [] k (laws_szWrS_S1 a0 v)) := by kernel_rfl
  have e1 : ∀ (j1 : Nat) (v : Int × Int), laws_szWrS_it1 k a0 a1 [] (j1 + 1) (laws_szWrS_S1 a0 v) = laws_szWrS_L1 k a0 (fun v => laws_szWrS_it1 k a0 a1 [] j1 (laws_szWrS_S1 a0 v)) v := by
    intro j1 v; kernel_rfl
  have i1 : ∀ (j1 : Nat) (v : Int × Int), laws_szWrS_it1 k a0 a1 [] j1 (laws_szWrS_S1 a0 v) = fixN (laws_szWrS_l1 k a0) j1 v := by
    intro j1 v
    refine iter_fix (laws_szWrS_S1 a0) (laws_szWrS_l1 k a0) (fun j1 v => (e1 j1 v).trans ?_) j1 v
    unfold laws_szWrS_l1
    rfl
  rw [e0]; unfold laws_szWrS_u
  simp only [i1]
/- laws.szMem -/
def laws_szMem_u (k : Nat) (a0_0 : List (List T)) (a0_1 : List (List T)) (a0_2 : Bool) (a0_3 : List (List T)) (a1 : Int) : Option Outs :=
 bindO (evalF E P0 k N.laws_szIntSS [.v [.r a0_0], .v [.i a1]]) fun o2 =>
 bif (decide ((o2.t 0).asI < 0)) then
  some ⟨[.i (-1)], []⟩
 else
  bindO (evalF E P0 k N.laws_szWrS [.v [.r a0_1], .v [.i (o2.t 0).asI]]) fun o4 =>
  bif (decide ((o4.t 0).asI < 0)) then
   some ⟨[.i (-1)], []⟩
  else
   bindO (evalF E P0 k N.laws_szIntS [.v [.r a0_3], .v [.i (o4.t 0).asI]]) fun o6 =>
   bif (decide ((o6.t 0).asI < 0)) then some ⟨[.i (-1)], []⟩ else some ⟨[.i (o6.t 0).asI], []⟩
theorem laws_szMem_e (k : Nat) (a0_0 : List (List T)) (a0_1 : List (List T)) (a0_2 : Bool) (a0_3 : List (List T)) (a1 : Int) : evalF E P0 (k + 1) N.laws_szMem [.v [.r a0_0, .r a0_1, .b a0_2, .r a0_3], .v [.i a1]] = laws_szMem_u k a0_0 a0_1 a0_2 a0_3 a1 := by kernel_rfl
/- laws.szMemS -/
def laws_szMemS_L1 (k : Nat) (a0 : List (List T)) (G1 : (Int × Int) → Option Outs) : (Int × Int) → Option Outs := fun (v15, v16) =>
 bif (decide (v16 < (a0.length : Int))) then
  chk (decide (0 ≤ v16) && decide (v16 < (a0.length : Int))) <|
  bindO (evalF E P0 k N.laws_szMem [.v [.r (at_ a0 v16.toNat 0).asR, .r (at_ a0 v16.toNat 1).asR, .b (at_ a0 v16.toNat 2).asB, .r (at_ a0 v16.toNat 3).asR], .v [.i v15]]) fun o96 =>
  bif (decide ((o96.t 0).asI < 0)) then some ⟨[.i (-1)], []⟩ else G1 ((o96.t 0).asI, (IntKind.wrap .i64 (v16 + 1)))
 else
  some ⟨[.i v15], []⟩
def laws_szMemS_k1 : List Nat := [0, 1, 4, 5, 26]
def laws_szMemS_S1 (a0 : List (List T)) : (Int × Int) → St := fun (v15, v16) => ⟨ofSl [(0, .sl 95 a0), (1, .i .i64 v15), (4, .i .i64 0), (5, .i .i64 v16), (26, .skip)], ofMem []⟩
def laws_szMemS_l1 (k : Nat) (a0 : List (List T)) (G1 : (Int × Int) → Option Outs) : (Int × Int) → Option Outs :=
  laws_szMemS_L1 k a0 G1
def laws_szMemS_U (k : Nat) (a0 : List (List T)) (a1 : Int) (R1 : (Int × Int) → Option Outs) : Option Outs :=
 bif (decide ((IntKind.wrap .i64 (a1 - (a0.length : Int))) < 0)) then
  some ⟨[.i (-1)], []⟩
 else
  R1 ((IntKind.wrap .i64 (a1 - (a0.length : Int))), 0)
def laws_szMemS_u (k : Nat) (a0 : List (List T)) (a1 : Int) : Option Outs :=
  laws_szMemS_U k a0 a1 (fun v => fixN (laws_szMemS_l1 k a0) k v)
def laws_szMemS_it1 (k : Nat) (a0 : List (List T)) (a1 : Int) (js : List Nat) (j : Nat) (s : St) : Option Outs := iter (LB E (evalF E P0 k) k [] N.laws_szMemS [.sr, .sr, .sr, .sl, .sr, .bl]) [] laws_szMemS_k1 (LK E (evalF E P0 k) k [] N.laws_szMemS [.v [.r a0], .v [.i a1]] [.sr, .sr, .sr, .sl, .sr, .bl] js) j s
theorem laws_szMemS_e (k : Nat) (a0 : List (List T)) (a1 : Int) : evalF E P0 (k + 1) N.laws_szMemS [.v [.r a0], .v [.i a1]] = laws_szMemS_u k a0 a1 := by
  have e0 : evalF E P0 (k + 1) N.laws_szMemS [.v [.r a0], .v [.i a1]] = laws_szMemS_U k a0 a1 (fun v => laws_szMemS_it1 k a0 a1 [] k (laws_szMemS_S1 a0 v)) := by kernel_rfl
  have e1 : ∀ (j1 : Nat) (v : Int × Int), laws_szMemS_it1 k a0 a1 [] (j1 + 1) (laws_szMemS_S1 a0 v) = laws_szMemS_L1 k a0 (fun v => laws_szMemS_it1 k a0 a1 [] j1 (laws_szMemS_S1 a0 v)) v := by
    intro j1 v; kernel_rfl
  have i1 : ∀ (j1 : Nat) (v : Int × Int), laws_szMemS_it1 k a0 a1 [] j1 (laws_szMemS_S1 a0 v) = fixN (laws_szMemS_l1 k a0) j1 v := by
    intro j1 v
    refine iter_fix (laws_szMemS_S1 a0) (laws_szMemS_l1 k a0) (fun j1 v => (e1 j1 v).trans ?_) j1 v
    unfold laws_szMemS_l1
    rfl
  rw [e0]; unfold laws_szMemS_u
  simp only [i1]
/- laws.szEnt -/
def laws_szEnt_u (k : Nat) (a0_0 : Int) (a0_1 : List (List T)) (a1 : Int) : Option Outs :=
 bindO (evalF E P0 k N.laws_szIntS [.v [.r a0_1], .v [.i a1]]) fun o2 =>
 bif (decide ((o2.t 0).asI < 0)) then some ⟨[.i (-1)], []⟩ else some ⟨[.i (o2.t 0).asI], []⟩
theorem laws_szEnt_e (k : Nat) (a0_0 : Int) (a0_1 : List (List T)) (a1 : Int) : evalF E P0 (k + 1) N.laws_szEnt [.v [.i a0_0, .r a0_1], .v [.i a1]] = laws_szEnt_u k a0_0 a0_1 a1 := by kernel_rfl
/- laws.szEntS -/
def laws_szEntS_L1 (k : Nat) (a0 : List (List T)) (G1 : (Int × Int) → Option Outs) : (Int × Int) → Option Outs := fun (v15, v16) =>
 bif (decide (v16 < (a0.length : Int))) then
  chk (decide (0 ≤ v16) && decide (v16 < (a0.length : Int))) <|
  bindO (evalF E P0 k N.laws_szEnt [.v [.i (at_ a0 v16.toNat 0).asI, .r (at_ a0 v16.toNat 1).asR], .v [.i v15]]) fun o96 =>
  bif (decide ((o96.t 0).asI < 0)) then some ⟨[.i (-1)], []⟩ else G1 ((o96.t 0).asI, (IntKind.wrap .i64 (v16 + 1)))
 else
  some ⟨[.i v15], []⟩
def laws_szEntS_k1 : List Nat := [0, 1, 4, 5, 26]
def laws_szEntS_S1 (a0 : List (List T)) : (Int × Int) → St := fun (v15, v16) => ⟨ofSl [(0, .sl 98 a0), (1, .i .i64 v15), (4, .i .i64 0), (5, .i .i64 v16), (26, .skip)], ofMem []⟩
def laws_szEntS_l1 (k : Nat) (a0 : List (List T)) (G1 : (Int × Int) → Option Outs) : (Int × Int) → Option Outs :=
  laws_szEntS_L1 k a0 G1
def laws_szEntS_U (k : Nat) (a0 : List (List T)) (a1 : Int) (R1 : (Int × Int) → Option Outs) : Option Outs :=
 bif (decide ((IntKind.wrap .i64 (a1 - (a0.length : Int))) < 0)) then
  some ⟨[.i (-1)], []⟩
 else
  R1 ((IntKind.wrap .i64 (a1 - (a0.length : Int))), 0)
def laws_szEntS_u (k : Nat) (a0 : List (List T)) (a1 : Int) : Option Outs :=
  laws_szEntS_U k a0 a1 (fun v => fixN (laws_szEntS_l1 k a0) k v)
def laws_szEntS_it1 (k : Nat) (a0 : List (List T)) (a1 : Int) (js : List Nat) (j : Nat) (s : St) : Option Outs := iter (LB E (evalF E P0 k) k [] N.laws_szEntS [.sr, .sr, .sr, .sl, .sr, .bl]) [] laws_szEntS_k1 (LK E (evalF E P0 k) k [] N.laws_szEntS [.v [.r a0], .v [.i a1]] [.sr, .sr, .sr, .sl, .sr, .bl] js) j s
theorem laws_szEntS_e (k : Nat) (a0 : List (List T)) (a1 : Int) : evalF E P0 (k + 1) N.laws_szEntS [.v [.r a0], .v [.i a1]] = laws_szEntS_u k a0 a1 := by
  have e0 : evalF E P0 (k + 1) N.laws_szEntS [.v [.r a0], .v [.i a1]] = laws_szEntS_U k a0 a1 (fun v => laws_szEntS_it1 k a0 a1 [] k (laws_szEntS_S1 a0 v)) := by kernel_rfl
  have e1 : ∀ (j1 : Nat) (v : Int × Int), laws_szEntS_it1 k a0 a1 [] (j1 + 1) (laws_szEntS_S1 a0 v) = laws_szEntS_L1 k a0 (fun v => laws_szEntS_it1 k a0 a1 [] j1 (laws_szEntS_S1 a0 v)) v := by
    intro j1 v; kernel_rfl
  have i1 : ∀ (j1 : Nat) (v : Int × Int), laws_szEntS_it1 k a0 a1 [] j1 (laws_szEntS_S1 a0 v) = fixN (laws_szEntS_l1 k a0) j1 v := by
    intro j1 v
    refine iter_fix (laws_szEntS_S1 a0) (laws_szEntS_l1 k a0) (fun j1 v => (e1 j1 v).trans ?_) j1 v
    unfold laws_szEntS_l1
    rfl
  rw [e0]; unfold laws_szEntS_u
  simp only [i1]
/- laws.szArr -/
def laws_szArr_u (k : Nat) (a0_0 : Int) (a0_1 : Int) (a0_2 : Int) (a0_3 : List (List T)) (a0_4 : Int) (a0_5 : Int) (a0_6 : Int) (a0_7 : Int) (a0_8 : Int) (a0_9 : List (List T)) (a0_10 : Int) (a0_11 : Bool) (a0_12 : Bool) (a1 : Int) : Option Outs :=
 bindO (evalF E P0 k N.laws_szMemS [.v [.r a0_3], .v [.i a1]]) fun o2 =>
 bif (decide ((o2.t 0).asI < 0)) then
  some ⟨[.i (-1)], []⟩
 else
  bindO (evalF E P0 k N.laws_szEntS [.v [.r a0_9], .v [.i (o2.t 0).asI]]) fun o4 =>
  bif (decide ((o4.t 0).asI < 0)) then some ⟨[.i (-1)], []⟩ else some ⟨[.i (o4.t 0).asI], []⟩
theorem laws_szArr_e (k : Nat) (a0_0 : Int) (a0_1 : Int) (a0_2 : Int) (a0_3 : List (List T)) (a0_4 : Int) (a0_5 : Int) (a0_6 : Int) (a0_7 : Int) (a0_8 : Int) (a0_9 : List (List T)) (a0_10 : Int) (a0_11 : Bool) (a0_12 : Bool) (a1 : Int) : evalF E P0 (k + 1) N.laws_szArr [.v [.i a0_0, .i a0_1, .i a0_2, .r a0_3, .i a0_4, .i a0_5, .i a0_6, .i a0_7, .i a0_8, .r a0_9, .i a0_10, .b a0_11, .b a0_12], .v [.i a1]] = laws_szArr_u k a0_0 a0_1 a0_2 a0_3 a0_4 a0_5 a0_6 a0_7 a0_8 a0_9 a0_10 a0_11 a0_12 a1 := by kernel_rfl
/- laws.toGeo -/
def laws_toGeo_u (k : Nat) (a0_0 : Int) (a0_1 : Int) : Option Outs :=
 some ⟨[.i a0_0, .i a0_1], []⟩
theorem laws_toGeo_e (k : Nat) (a0_0 : Int) (a0_1 : Int) : evalF E P0 (k + 1) N.laws_toGeo [.v [.i a0_0, .i a0_1]] = laws_toGeo_u k a0_0 a0_1 := by kernel_rfl
/- laws.toIntS -/
def laws_toIntS_L1 (k : Nat) (a0 : List (List T)) (G1 : (Int × List (List T)) → Option Outs) : (Int × List (List T)) → Option Outs := fun (v8, w8) =>
 bif (decide (v8 < (a0.length : Int))) then
  chk (decide (0 ≤ v8) && decide (v8 < (a0.length : Int))) <|
  chk (decide (0 ≤ v8) && decide (v8 < (w8.length : Int))) <|
  G1 ((IntKind.wrap .i64 (v8 + 1)), (put_ w8 v8.toNat 0 [.i (at_ a0 v8.toNat 0).asI]))
 else
  some ⟨[.r w8], []⟩
def laws_toIntS_k1 : List Nat := [0, 2, 3, 4, 21]
def laws_toIntS_S1 (a0 : List (List T)) : (Int × List (List T)) → St := fun (v8, w8) => ⟨ofSl [(0, .sl 3 a0), (2, .ref (2, 0)), (3, .ref (3, 0)), (4, .i .i64 v8), (21, .skip)], ofMem [((2, 0), .row 3 true []), ((3, 0), .row 3 true w8)]⟩
def laws_toIntS_l1 (k : Nat) (a0 : List (List T)) (G1 : (Int × List (List T)) → Option Outs) : (Int × List (List T)) → Option Outs :=
  laws_toIntS_L1 k a0 G1
def laws_toIntS_U (k : Nat) (a0 : List (List T)) (R1 : (Int × List (List T)) → Option Outs) : Option Outs :=
 chk (decide ((a0.length : Int) = (a0.length : Int)) && decide (0 ≤ (a0.length : Int)) && decide ((a0.length : Int) * ((8 : Nat) : Int) ≤ 140737488355328)) <|
 R1 (0, (List.replicate ((a0.length : Int) : Int).toNat [.i 0]))
def laws_toIntS_u (k : Nat) (a0 : List (List T)) : Option Outs :=
  laws_toIntS_U k a0 (fun v => fixN (laws_toIntS_l1 k a0) k v)
def laws_toIntS_it1 (k : Nat) (a0 : List (List T)) (js : List Nat) (j : Nat) (s : St) : Option Outs := iter (LB E (evalF E P0 k) k [] N.laws_toIntS [.sr, .sr, .sl, .sr, .bl]) [] laws_toIntS_k1 (LK E (evalF E P0 k) k [] N.laws_toIntS [.v [.r a0]] [.sr, .sr, .sl, .sr, .bl] js) j s
theorem laws_toIntS_e (k : Nat) (a0 : List (List T)) : evalF E P0 (k + 1) N.laws_toIntS [.v [.r a0]] = laws_toIntS_u k a0 := by
  have e0 : evalF E P0 (k + 1) N.laws_toIntS [.v [.r a0]] = laws_toIntS_U k a0 (fun v => laws_toIntS_it1 k a0 [] k (laws_toIntS_S1 a0 v)) := by kernel_rfl
  have e1 : ∀ (j1 : Nat) (v : Int × List (List T)), laws_toIntS_it1 k a0 [] (j1 + 1) (laws_toIntS_S1 a0 v) = laws_toIntS_L1 k a0 (fun v => laws_toIntS_it1 k a0 [] j1 (laws_toIntS_S1 a0 v)) v := by
    intro j1 v; kernel_rfl
  have i1 : ∀ (j1 : Nat) (v : Int × List (List T)), laws_toIntS_it1 k a0 [] j1 (laws_toIntS_S1 a0 v) = fixN (laws_toIntS_l1 k a0) j1 v := by
    intro j1 v
    refine iter_fix (laws_toIntS_S1 a0) (laws_toIntS_l1 k a0) (fun j1 v => (e1 j1 v).trans ?_) j1 v
    unfold laws_toIntS_l1
    rfl
  rw [e0]; unfold laws_toIntS_u
  simp only [i1]
/- laws.toIntSS -/
def laws_toIntSS_L1 (k : Nat) (a0 : List (List T)) (G1 : (Int × List (List T)) → Option Outs) : (Int × List (List T)) → Option Outs := fun (v8, w8) =>
 bif (decide (v8 < (a0.length : Int))) then
  chk (decide (0 ≤ v8) && decide (v8 < (a0.length : Int))) <|
  bindO (evalF E P0 k N.laws_toIntS [.v [.r (at_ a0 v8.toNat 0).asR]]) fun o48 =>
  chk (decide (0 ≤ v8) && decide (v8 < (w8.length : Int))) <|
  G1 ((IntKind.wrap .i64 (v8 + 1)), (put_ w8 v8.toNat 0 [.r (o48.t 0).asR]))
 else
  some ⟨[.r w8], []⟩
def laws_toIntSS_k1 : List Nat := [0, 2, 3, 4, 22]
def laws_toIntSS_S1 (a0 : List (List T)) : (Int × List (List T)) → St := fun (v8, w8) => ⟨ofSl [(0, .sl 53 a0), (2, .ref (2, 0)), (3, .ref (3, 0)), (4, .i .i64 v8), (22, .skip)], ofMem [((2, 0), .row 53 true []), ((3, 0), .row 53 true w8)]⟩
def laws_toIntSS_l1 (k : Nat) (a0 : List (List T)) (G1 : (Int × List (List T)) → Option Outs) : (Int × List (List T)) → Option Outs :=
  laws_toIntSS_L1 k a0 G1
def laws_toIntSS_U (k : Nat) (a0 : List (List T)) (R1 : (Int × List (List T)) → Option Outs) : Option Outs :=
 chk (decide ((a0.length : Int) = (a0.length : Int)) && decide (0 ≤ (a0.length : Int)) && decide ((a0.length : Int) * ((24 : Nat) : Int) ≤ 140737488355328)) <|
 R1 (0, (List.replicate ((a0.length : Int) : Int).toNat [.r []]))
def laws_toIntSS_u (k : Nat) (a0 : List (List T)) : Option Outs :=
  laws_toIntSS_U k a0 (fun v => fixN (laws_toIntSS_l1 k a0) k v)
def laws_toIntSS_it1 (k : Nat) (a0 : List (List T)) (js : List Nat) (j : Nat) (s : St) : Option Outs := iter (LB E (evalF E P0 k) k [] N.laws_toIntSS [.sr, .sr, .sl, .sr, .bl]) [] laws_toIntSS_k1 (LK E (evalF E P0 k) k [] N.laws_toIntSS [.v [.r a0]] [.sr, .sr, .sl, .sr, .bl] js) j s
theorem laws_toIntSS_e (k : Nat) (a0 : List (List T)) : evalF E P0 (k + 1) N.laws_toIntSS [.v [.r a0]] = laws_toIntSS_u k a0 := by
  have e0 : evalF E P0 (k + 1) N.laws_toIntSS [.v [.r a0]] = laws_toIntSS_U k a0 (fun v => laws_toIntSS_it1 k a0 [] k (laws_toIntSS_S1 a0 v)) := by kernel_rfl
  have e1 : ∀ (j1 : Nat) (v : Int × List (List T)), laws_toIntSS_it1 k a0 [] (j1 + 1) (laws_toIntSS_S1 a0 v) = laws_toIntSS_L1 k a0 (fun v => laws_toIntSS_it1 k a0 [] j1 (laws_toIntSS_S1 a0 v)) v := by
    intro j1 v; kernel_rfl
  have i1 : ∀ (j1 : Nat) (v : Int × List (List T)), laws_toIntSS_it1 k a0 [] j1 (laws_toIntSS_S1 a0 v) = fixN (laws_toIntSS_l1 k a0) j1 v := by
    intro j1 v
    refine iter_fix (laws_toIntSS_S1 a0) (laws_toIntSS_l1 k a0) (fun j1 v => (e1 j1 v).trans ?_) j1 v
    unfold laws_toIntSS_l1
    rfl
  rw [e0]; unfold laws_toIntSS_u
  simp only [i1]
/- laws.toWr -/
def laws_toWr_u (k : Nat) (a0_0 : Int) (a0_1 : List (List T)) : Option Outs :=
 bindO (evalF E P0 k N.laws_toIntS [.v [.r a0_1]]) fun o2 =>
 some ⟨[.i a0_0, .r (o2.t 0).asR], []⟩
theorem laws_toWr_e (k : Nat) (a0_0 : Int) (a0_1 : List (List T)) : evalF E P0 (k + 1) N.laws_toWr [.v [.i a0_0, .r a0_1]] = laws_toWr_u k a0_0 a0_1 := by kernel_rfl
/- laws.toWrS -/
def laws_toWrS_L1 (k : Nat) (a0 : List (List T)) (G1 : (Int × List (List T)) → Option Outs) : (Int × List (List T)) → Option Outs := fun (v8, w8) =>
 bif (decide (v8 < (a0.length : Int))) then
  chk (decide (0 ≤ v8) && decide (v8 < (a0.length : Int))) <|
  bindO (evalF E P0 k N.laws_toWr [.v [.i (at_ a0 v8.toNat 0).asI, .r (at_ a0 v8.toNat 1).asR]]) fun o48 =>
  chk (decide (0 ≤ v8) && decide (v8 < (w8.length : Int))) <|
  G1 ((IntKind.wrap .i64 (v8 + 1)), (put_ w8 v8.toNat 0 [.i (o48.t 0).asI, .r (o48.t 1).asR]))
 else
  some ⟨[.r w8], []⟩
def laws_toWrS_k1 : List Nat := [0, 2, 3, 4, 22]
def laws_toWrS_S1 (a0 : List (List T)) : (Int × List (List T)) → St := fun (v8, w8) => ⟨ofSl [(0, .sl 124 a0), (2, .ref (2, 0)), (3, .ref (3, 0)), (4, .i .i64 v8), (22, .skip)], ofMem [((2, 0), .row 125 true []), ((3, 0), .row 125 true w8)]⟩
def laws_toWrS_l1 (k : Nat) (a0 : List (List T)) (G1 : (Int × List (List T)) → Option Outs) : (Int × List (List T)) → Option Outs :=
  laws_toWrS_L1 k a0 G1
def laws_toWrS_U (k : Nat) (a0 : List (List T)) (R1 : (Int × List (List T)) → Option Outs) : Option Outs :=
 chk (decide ((a0.length : Int) = (a0.length : Int)) && decide (0 ≤ (a0.length : Int)) && decide ((a0.length : Int) * ((32 : Nat) : Int) ≤ 140737488355328)) <|
 R1 (0, (List.replicate ((a0.length : Int) : Int).toNat [.i 0, .r []]))
def laws_toWrS_u (k : Nat) (a0 : List (List T)) : Option Outs :=
  laws_toWrS_U k a0 (fun v => fixN (laws_toWrS_l1 k a0) k v)
def laws_toWrS_it1 (k : Nat) (a0 : List (List T)) (js : List Nat) (j : Nat) (s : St) : Option Outs := iter (LB E (evalF E P0 k) k [] N.laws_toWrS [.sr, .sr, .sl, .sr, .bl]) [] laws_toWrS_k1 (LK E (evalF E P0 k) k [] N.laws_toWrS [.v [.r a0]] [.sr, .sr, .sl, .sr, .bl] js) j s
theorem laws_toWrS_e (k : Nat) (a0 : List (List T)) : evalF E P0 (k + 1) N.laws_toWrS [.v [.r a0]] = laws_toWrS_u k a0 := by
  have e0 : evalF E P0 (k + 1) N.laws_toWrS [.v [.r a0]] = laws_toWrS_U k a0 (fun v => laws_toWrS_it1 k a0 [] k (laws_toWrS_S1 a0 v)) := by kernel_rfl
  have e1 : ∀ (j1 : Nat) (v : Int × List (List T)), laws_toWrS_it1 k a0 [] (j1 + 1) (laws_toWrS_S1 a0 v) = laws_toWrS_L1 k a0 (fun v => laws_toWrS_it1 k a0 [] j1 (laws_toWrS_S1 a0 v)) v := by
    intro j1 v; kernel_rfl
  have i1 : ∀ (j1 : Nat) (v : Int × List (List T)), laws_toWrS_it1 k a0 [] j1 (laws_toWrS_S1 a0 v) = fixN (laws_toWrS_l1 k a0) j1 v := by
    intro j1 v
    refine iter_fix (laws_toWrS_S1 a0) (laws_toWrS_l1 k a0) (fun j1 v => (e1 j1 v).trans ?_) j1 v
    unfold laws_toWrS_l1
    rfl
  rw [e0]; unfold laws_toWrS_u
  simp only [i1]
/- laws.toMem -/
def laws_toMem_u (k : Nat) (a0_0 : List (List T)) (a0_1 : List (List T)) (a0_2 : Bool) (a0_3 : List (List T)) : Option Outs :=
 bindO (evalF E P0 k N.laws_toIntSS [.v [.r a0_0]]) fun o2 =>
 bindO (evalF E P0 k N.laws_toWrS [.v [.r a0_1]]) fun o4 =>
 bindO (evalF E P0 k N.laws_toIntS [.v [.r a0_3]]) fun o6 =>
 some ⟨[.r (o2.t 0).asR, .r (o4.t 0).asR, .b a0_2, .r (o6.t 0).asR], []⟩
theorem laws_toMem_e (k : Nat) (a0_0 : List (List T)) (a0_1 : List (List T)) (a0_2 : Bool) (a0_3 : List (List T)) : evalF E P0 (k + 1) N.laws_toMem [.v [.r a0_0, .r a0_1, .b a0_2, .r a0_3]] = laws_toMem_u k a0_0 a0_1 a0_2 a0_3 := by kernel_rfl
/- laws.toMemS -/
def laws_toMemS_L1 (k : Nat) (a0 : List (List T)) (G1 : (Int × List (List T)) → Option Outs) : (Int × List (List T)) → Option Outs := fun (v8, w8) =>
 bif (decide (v8 < (a0.length : Int))) then
  chk (decide (0 ≤ v8) && decide (v8 < (a0.length : Int))) <|
  bindO (evalF E P0 k N.laws_toMem [.v [.r (at_ a0 v8.toNat 0).asR, .r (at_ a0 v8.toNat 1).asR, .b (at_ a0 v8.toNat 2).asB, .r (at_ a0 v8.toNat 3).asR]]) fun o48 =>
  chk (decide (0 ≤ v8) && decide (v8 < (w8.length : Int))) <|
  G1 ((IntKind.wrap .i64 (v8 + 1)), (put_ w8 v8.toNat 0 [.r (o48.t 0).asR, .r (o48.t 1).asR, .b (o48.t 2).asB, .r (o48.t 3).asR]))
 else
  some ⟨[.r w8], []⟩
def laws_toMemS_k1 : List Nat := [0, 2, 3, 4, 22]
def laws_toMemS_S1 (a0 : List (List T)) : (Int × List (List T)) → St := fun (v8, w8) => ⟨ofSl [(0, .sl 95 a0), (2, .ref (2, 0)), (3, .ref (3, 0)), (4, .i .i64 v8), (22, .skip)], ofMem [((2, 0), .row 65 true []), ((3, 0), .row 65 true w8)]⟩
def laws_toMemS_l1 (k : Nat) (a0 : List (List T)) (G1 : (Int × List (List T)) → Option Outs) : (Int × List (List T)) → Option Outs :=
  laws_toMemS_L1 k a0 G1
def laws_toMemS_U (k : Nat) (a0 : List (List T)) (R1 : (Int × List (List T)) → Option Outs) : Option Outs :=
 chk (decide ((a0.length : Int) = (a0.length : Int)) && decide (0 ≤ (a0.length : Int)) && decide ((a0.length : Int) * ((80 : Nat) : Int) ≤ 140737488355328)) <|
 R1 (0, (List.replicate ((a0.length : Int) : Int).toNat [.r [], .r [], .b false, .r []]))
def laws_toMemS_u (k : Nat) (a0 : List (List T)) : Option Outs :=
  laws_toMemS_U k a0 (fun v => fixN (laws_toMemS_l1 k a0) k v)
def laws_toMemS_it1 (k : Nat) (a0 : List (List T)) (js : List Nat) (j : Nat) (s : St) : Option Outs := iter (LB E (evalF E P0 k) k [] N.laws_toMemS [.sr, .sr, .sl, .sr, .bl]) [] laws_toMemS_k1 (LK E (evalF E P0 k) k [] N.laws_toMemS [.v [.r a0]] [.sr, .sr, .sl, .sr, .bl] js) j s
theorem laws_toMemS_e (k : Nat) (a0 : List (List T)) : evalF E P0 (k + 1) N.laws_toMemS [.v [.r a0]] = laws_toMemS_u k a0 := by
  have e0 : evalF E P0 (k + 1) N.laws_toMemS [.v [.r a0]] = laws_toMemS_U k a0 (fun v => laws_toMemS_it1 k a0 [] k (laws_toMemS_S1 a0 v)) := by kernel_rfl
  have e1 : ∀ (j1 : Nat) (v : Int × List (List T)), laws_toMemS_it1 k a0 [] (j1 + 1) (laws_toMemS_S1 a0 v) = laws_toMemS_L1 k a0 (fun v => laws_toMemS_it1 k a0 [] j1 (laws_toMemS_S1 a0 v)) v := by
    intro j1 v; kernel_rfl
  have i1 : ∀ (j1 : Nat) (v : Int × List (List T)), laws_toMemS_it1 k a0 [] j1 (laws_toMemS_S1 a0 v) = fixN (laws_toMemS_l1 k a0) j1 v := by
    intro j1 v
    refine iter_fix (laws_toMemS_S1 a0) (laws_toMemS_l1 k a0) (fun j1 v => (e1 j1 v).trans ?_) j1 v
    unfold laws_toMemS_l1
    rfl
  rw [e0]; unfold laws_toMemS_u
  simp only [i1]
/- laws.toEnt -/
def laws_toEnt_u (k : Nat) (a0_0 : Int) (a0_1 : List (List T)) : Option Outs :=
 bindO (evalF E P0 k N.laws_toIntS [.v [.r a0_1]]) fun o2 =>
 some ⟨[.i a0_0, .r (o2.t 0).asR], []⟩
theorem laws_toEnt_e (k : Nat) (a0_0 : Int) (a0_1 : List (List T)) : evalF E P0 (k + 1) N.laws_toEnt [.v [.i a0_0, .r a0_1]] = laws_toEnt_u k a0_0 a0_1 := by kernel_rfl
/- laws.toEntS -/
def laws_toEntS_L1 (k : Nat) (a0 : List (List T)) (G1 : (Int × List (List T)) → Option Outs) : (Int × List (List T)) → Option Outs := fun (v8, w8) =>
 bif (decide (v8 < (a0.length : Int))) then
  chk (decide (0 ≤ v8) && decide (v8 < (a0.length : Int))) <|
  bindO (evalF E P0 k N.laws_toEnt [.v [.i (at_ a0 v8.toNat 0).asI, .r (at_ a0 v8.toNat 1).asR]]) fun o48 =>
  chk (decide (0 ≤ v8) && decide (v8 < (w8.length : Int))) <|
  G1 ((IntKind.wrap .i64 (v8 + 1)), (put_ w8 v8.toNat 0 [.i (o48.t 0).asI, .r (o48.t 1).asR]))
 else
  some ⟨[.r w8], []⟩
def laws_toEntS_k1 : List Nat := [0, 2, 3, 4, 22]
def laws_toEntS_S1 (a0 : List (List T)) : (Int × List (List T)) → St := fun (v8, w8) => ⟨ofSl [(0, .sl 98 a0), (2, .ref (2, 0)), (3, .ref (3, 0)), (4, .i .i64 v8), (22, .skip)], ofMem [((2, 0), .row 101 true []), ((3, 0), .row 101 true w8)]⟩
def laws_toEntS_l1 (k : Nat) (a0 : List (List T)) (G1 : (Int × List (List T)) → Option Outs) : (Int × List (List T)) → Option Outs :=
  laws_toEntS_L1 k a0 G1
def laws_toEntS_U (k : Nat) (a0 : List (List T)) (R1 : (Int × List (List T)) → Option Outs) : Option Outs :=
 chk (decide ((a0.length : Int) = (a0.length : Int)) && decide (0 ≤ (a0.length : Int)) && decide ((a0.length : Int) * ((32 : Nat) : Int) ≤ 140737488355328)) <|
 R1 (0, (List.replicate ((a0.length : Int) : Int).toNat [.i 0, .r []]))
def laws_toEntS_u (k : Nat) (a0 : List (List T)) : Option Outs :=
  laws_toEntS_U k a0 (fun v => fixN (laws_toEntS_l1 k a0) k v)
def laws_toEntS_it1 (k : Nat) (a0 : List (List T)) (js : List Nat) (j : Nat) (s : St) : Option Outs := iter (LB E (evalF E P0 k) k [] N.laws_toEntS [.sr, .sr, .sl, .sr, .bl]) [] laws_toEntS_k1 (LK E (evalF E P0 k) k [] N.laws_toEntS [.v [.r a0]] [.sr, .sr, .sl, .sr, .bl] js) j s
theorem laws_toEntS_e (k : Nat) (a0 : List (List T)) : evalF E P0 (k + 1) N.laws_toEntS [.v [.r a0]] = laws_toEntS_u k a0 := by
  have e0 : evalF E P0 (k + 1) N.laws_toEntS [.v [.r a0]] = laws_toEntS_U k a0 (fun v => laws_toEntS_it1 k a0 [] k (laws_toEntS_S1 a0 v)) := by kernel_rfl
  have e1 : ∀ (j1 : Nat) (v : Int × List (List T)), laws_toEntS_it1 k a0 [] (j1 + 1) (laws_toEntS_S1 a0 v) = laws_toEntS_L1 k a0 (fun v => laws_toEntS_it1 k a0 [] j1 (laws_toEntS_S1 a0 v)) v := by
    intro j1 v; kernel_rfl
  have i1 : ∀ (j1 : Nat) (v : Int × List (List T)), laws_toEntS_it1 k a0 [] j1 (laws_toEntS_S1 a0 v) = fixN (laws_toEntS_l1 k a0) j1 v := by
    intro j1 v
    refine iter_fix (laws_toEntS_S1 a0) (laws_toEntS_l1 k a0) (fun j1 v => (e1 j1 v).trans ?_) j1 v
    unfold laws_toEntS_l1
    rfl
  rw [e0]; unfold laws_toEntS_u
  simp only [i1]
/- laws.toArr -/
def laws_toArr_u (k : Nat) (a0_0 : Int) (a0_1 : Int) (a0_2 : Int) (a0_3 : List (List T)) (a0_4 : Int) (a0_5 : Int) (a0_6 : Int) (a0_7 : Int) (a0_8 : Int) (a0_9 : List (List T)) (a0_10 : Int) (a0_11 : Bool) (a0_12 : Bool) : Option Outs :=
 bindO (evalF E P0 k N.laws_toGeo [.v [.i a0_1, .i a0_2]]) fun o2 =>
 bindO (evalF E P0 k N.laws_toMemS [.v [.r a0_3]]) fun o4 =>
 bindO (evalF E P0 k N.laws_toEntS [.v [.r a0_9]]) fun o6 =>
 some ⟨[.i a0_0, .i (o2.t 0).asI, .i (o2.t 1).asI, .r (o4.t 0).asR, .i a0_4, .i a0_5, .i a0_6, .i a0_7, .i a0_8, .r (o6.t 0).asR, .i a0_10, .b a0_11, .b a0_12], []⟩
theorem laws_toArr_e (k : Nat) (a0_0 : Int) (a0_1 : Int) (a0_2 : Int) (a0_3 : List (List T)) (a0_4 : Int) (a0_5 : Int) (a0_6 : Int) (a0_7 : Int) (a0_8 : Int) (a0_9 : List (List T)) (a0_10 : Int) (a0_11 : Bool) (a0_12 : Bool) : evalF E P0 (k + 1) N.laws_toArr [.v [.i a0_0, .i a0_1, .i a0_2, .r a0_3, .i a0_4, .i a0_5, .i a0_6, .i a0_7, .i a0_8, .r a0_9, .i a0_10, .b a0_11, .b a0_12]] = laws_toArr_u k a0_0 a0_1 a0_2 a0_3 a0_4 a0_5 a0_6 a0_7 a0_8 a0_9 a0_10 a0_11 a0_12 := by kernel_rfl
/- spec.l1In -/
def spec_l1In_u (k : Nat) (a0 : Int) (a1 : Int) (a2 : Int) : Option Outs :=
 bif (decide (a0 ≥ a1)) then some ⟨[.b (decide (a0 ≤ a2))], []⟩ else some ⟨[.b false], []⟩
theorem spec_l1In_e (k : Nat) (a0 : Int) (a1 : Int) (a2 : Int) : evalF E P0 (k + 1) N.spec_l1In [.v [.i a0], .v [.i a1], .v [.i a2]] = spec_l1In_u k a0 a1 a2 := by kernel_rfl
/- spec.DataAt -/
def spec_DataAt_u (k : Nat) (a0 : Int) : Option Outs :=
 bindO (evalF E P0 k N.spec_l1In [.v [.i a0], .v [.i 0], .v [.i 1099511627776]]) fun o2 =>
 bif (!(o2.t 0).asB) then
  some ⟨[.i (-1)], []⟩
 else
  some ⟨[.i (IntKind.wrap .i64 ((IntKind.wrap .i64 (a0 + 2)) + 4))], []⟩
theorem spec_DataAt_e (k : Nat) (a0 : Int) : evalF E P0 (k + 1) N.spec_DataAt [.v [.i a0]] = spec_DataAt_u k a0 := by kernel_rfl
/- spec.DisksText -/
def spec_DisksText_L2 (k : Nat) (a0_0 : Int) (a0_1 : Int) (a0_2 : Int) (a0_3 : List (List T)) (a0_4 : Int) (a0_5 : Int) (a0_6 : Int) (a0_7 : Int) (a0_8 : Int) (a0_9 : List (List T)) (a0_10 : Int) (a0_11 : Bool) (a0_12 : Bool) (t8 : ByteArray) (v360 : Int) (G1 : (ByteArray × Int) → Option Outs) (G2 : (Bool × Int) → Option Outs) : (Bool × Int) → Option Outs := fun (d384, v392) =>
 chk (decide (0 ≤ v360) && decide (v360 < (a0_3.length : Int))) <|
 bif (decide (v392 < ((at_ a0_3 v360.toNat 3).asR.length : Int))) then
  bif d384 then
   G2 (true, (IntKind.wrap .i64 (v392 + 1)))
  else
   chk (decide (0 ≤ v360) && decide (v360 < (a0_3.length : Int))) <|
   chk (decide (0 ≤ v392) && decide (v392 < ((at_ a0_3 v360.toNat 3).asR.length : Int))) <|
   bindO (evalF E P0 k N.spec_DataAt [.v [.i 0]]) fun o2304 =>
   G2 ((decide ((at_ (at_ a0_3 v360.toNat 3).asR v392.toNat 0).asI ≥ (o2304.t 0).asI)), (IntKind.wrap .i64 (v392 + 1)))
 else
  chk (decide (0 ≤ v360) && decide (v360 < (a0_3.length : Int))) <|
  bif (at_ a0_3 v360.toNat 2).asB then
   chk (Nat.ble (t8.size + (ByteArray.mk #[120]).size) 9223372036854775807) <|
   G1 ((t8 ++ (ByteArray.mk #[120])), (IntKind.wrap .i64 (v360 + 1)))
  else
   bif (v360 == a0_4) then
    chk (Nat.ble (t8.size + (ByteArray.mk #[111]).size) 9223372036854775807) <|
    G1 ((t8 ++ (ByteArray.mk #[111])), (IntKind.wrap .i64 (v360 + 1)))
   else
    bif d384 then
     chk (Nat.ble (t8.size + (ByteArray.mk #[33]).size) 9223372036854775807) <|
     G1 ((t8 ++ (ByteArray.mk #[33])), (IntKind.wrap .i64 (v360 + 1)))
    else
     chk (Nat.ble (t8.size + (ByteArray.mk #[46]).size) 9223372036854775807) <|
     G1 ((t8 ++ (ByteArray.mk #[46])), (IntKind.wrap .i64 (v360 + 1)))
def spec_DisksText_k2 : List Nat := [1, 2, 3, 4, 5, 6, 12, 13, 39, 40, 41, 42, 43, 44, 45, 46, 47, 48, 49, 50, 51, 52, 53, 54, 55, 56, 57, 58, 59, 60, 61]
def spec_DisksText_S2 (a0_0 : Int) (a0_1 : Int) (a0_2 : Int) (a0_3 : List (List T)) (a0_4 : Int) (a0_5 : Int) (a0_6 : Int) (a0_7 : Int) (a0_8 : Int) (a0_9 : List (List T)) (a0_10 : Int) (a0_11 : Bool) (a0_12 : Bool) (t8 : ByteArray) (v360 : Int) : (Bool × Int) → St := fun (d384, v392) => ⟨ofSl [(1, .ptr (1, 0) 0), (2, .s (ByteArray.mk #[])), (3, .s t8), (4, .i .i64 v360), (5, .b d384), (6, .i .i64 v392), (12, .undef), (13, .undef), (39, .undef), (40, .undef), (41, .undef), (42, .undef), (43, .undef), (44, .undef), (45, .undef), (46, .undef), (47, .undef), (48, .undef), (49, .undef), (50, .undef), (51, .undef), (52, .undef), (53, .undef), (54, .undef), (55, .undef), (56, .undef), (57, .undef), (58, .undef), (59, .undef), (60, .undef), (61, .skip)], ofMem [((1, 0), .var [.i .i64 a0_0, .i .i64 a0_1, .i .i64 a0_2, .sl 65 a0_3, .i .i64 a0_4, .i .i64 a0_5, .i .i64 a0_6, .i .i64 a0_7, .i .i64 a0_8, .sl 101 a0_9, .i .i64 a0_10, .b a0_11, .b a0_12])]⟩
def spec_DisksText_L1 (k : Nat) (a0_0 : Int) (a0_1 : Int) (a0_2 : Int) (a0_3 : List (List T)) (a0_4 : Int) (a0_5 : Int) (a0_6 : Int) (a0_7 : Int) (a0_8 : Int) (a0_9 : List (List T)) (a0_10 : Int) (a0_11 : Bool) (a0_12 : Bool) (R2 : ByteArray → Int → (Bool × Int) → Option Outs) (G1 : (ByteArray × Int) → Option Outs) : (ByteArray × Int) → Option Outs := fun (t8, v360) =>
 bif (decide (v360 < (a0_3.length : Int))) then R2 t8 v360 (false, 0) else some ⟨[.s t8], []⟩
def spec_DisksText_k1 : List Nat := [1, 2, 3, 4, 61]
def spec_DisksText_S1 (a0_0 : Int) (a0_1 : Int) (a0_2 : Int) (a0_3 : List (List T)) (a0_4 : Int) (a0_5 : Int) (a0_6 : Int) (a0_7 : Int) (a0_8 : Int) (a0_9 : List (List T)) (a0_10 : Int) (a0_11 : Bool) (a0_12 : Bool) : (ByteArray × Int) → St := fun (t8, v360) => ⟨ofSl [(1, .ptr (1, 0) 0), (2, .s (ByteArray.mk #[])), (3, .s t8), (4, .i .i64 v360), (61, .skip)], ofMem [((1, 0), .var [.i .i64 a0_0, .i .i64 a0_1, .i .i64 a0_2, .sl 65 a0_3, .i .i64 a0_4, .i .i64 a0_5, .i .i64 a0_6, .i .i64 a0_7, .i .i64 a0_8, .sl 101 a0_9, .i .i64 a0_10, .b a0_11, .b a0_12])]⟩
def spec_DisksText_l2 (k : Nat) (a0_0 : Int) (a0_1 : Int) (a0_2 : Int) (a0_3 : List (List T)) (a0_4 : Int) (a0_5 : Int) (a0_6 : Int) (a0_7 : Int) (a0_8 : Int) (a0_9 : List (List T)) (a0_10 : Int) (a0_11 : Bool) (a0_12 : Bool) (t8 : ByteArray) (v360 : Int) (G1 : (ByteArray × Int) → Option Outs) (G2 : (Bool × Int) → Option Outs) : (Bool × Int) → Option Outs :=
  spec_DisksText_L2 k a0_0 a0_1 a0_2 a0_3 a0_4 a0_5 a0_6 a0_7 a0_8 a0_9 a0_10 a0_11 a0_12 t8 v360 G1 G2
def spec_DisksText_l1 (k : Nat) (a0_0 : Int) (a0_1 : Int) (a0_2 : Int) (a0_3 : List (List T)) (a0_4 : Int) (a0_5 : Int) (a0_6 : Int) (a0_7 : Int) (a0_8 : Int) (a0_9 : List (List T)) (a0_10 : Int) (a0_11 : Bool) (a0_12 : Bool) (G1 : (ByteArray × Int) → Option Outs) : (ByteArray × Int) → Option Outs :=
  spec_DisksText_L1 k a0_0 a0_1 a0_2 a0_3 a0_4 a0_5 a0_6 a0_7 a0_8 a0_9 a0_10 a0_11 a0_12 (fun y0 y1 v => fixN (spec_DisksText_l2 k a0_0 a0_1 a0_2 a0_3 a0_4 a0_5 a0_6 a0_7 a0_8 a0_9 a0_10 a0_11 a0_12 y0 y1 G1) k v) G1
def spec_DisksText_U (k : Nat) (a0_0 : Int) (a0_1 : Int) (a0_2 : Int) (a0_3 : List (List T)) (a0_4 : Int) (a0_5 : Int) (a0_6 : Int) (a0_7 : Int) (a0_8 : Int) (a0_9 : List (List T)) (a0_10 : Int) (a0_11 : Bool) (a0_12 : Bool) (R1 : (ByteArray × Int) → Option Outs) : Option Outs :=
 R1 ((ByteArray.mk #[]), 0)
def spec_DisksText_u (k : Nat) (a0_0 : Int) (a0_1 : Int) (a0_2 : Int) (a0_3 : List (List T)) (a0_4 : Int) (a0_5 : Int) (a0_6 : Int) (a0_7 : Int) (a0_8 : Int) (a0_9 : List (List T)) (a0_10 : Int) (a0_11 : Bool) (a0_12 : Bool) : Option Outs :=
  spec_DisksText_U k a0_0 a0_1 a0_2 a0_3 a0_4 a0_5 a0_6 a0_7 a0_8 a0_9 a0_10 a0_11 a0_12 (fun v => fixN (spec_DisksText_l1 k a0_0 a0_1 a0_2 a0_3 a0_4 a0_5 a0_6 a0_7 a0_8 a0_9 a0_10 a0_11 a0_12) k v)
def spec_DisksText_it1 (k : Nat) (a0_0 : Int) (a0_1 : Int) (a0_2 : Int) (a0_3 : List (List T)) (a0_4 : Int) (a0_5 : Int) (a0_6 : Int) (a0_7 : Int) (a0_8 : Int) (a0_9 : List (List T)) (a0_10 : Int) (a0_11 : Bool) (a0_12 : Bool) (js : List Nat) (j : Nat) (s : St) : Option Outs := iter (LB E (evalF E P0 k) k [] N.spec_DisksText [.sr, .sr, .sl, .sr, .bl]) [] spec_DisksText_k1 (LK E (evalF E P0 k) k [] N.spec_DisksText [.v [.i a0_0, .i a0_1, .i a0_2, .r a0_3, .i a0_4, .i a0_5, .i a0_6, .i a0_7, .i a0_8, .r a0_9, .i a0_10, .b a0_11, .b a0_12]] [.sr, .sr, .sl, .sr, .bl] js) j s
def spec_DisksText_it2 (k : Nat) (a0_0 : Int) (a0_1 : Int) (a0_2 : Int) (a0_3 : List (List T)) (a0_4 : Int) (a0_5 : Int) (a0_6 : Int) (a0_7 : Int) (a0_8 : Int) (a0_9 : List (List T)) (a0_10 : Int) (a0_11 : Bool) (a0_12 : Bool) (js : List Nat) (j : Nat) (s : St) : Option Outs := iter (LB E (evalF E P0 k) k [] N.spec_DisksText [.sr, .sr, .sl, .sr, .bl, .lp, .sr, .sl, .bl, .sr, .sl, .sr, .bl]) [] spec_DisksText_k2 (LK E (evalF E P0 k) k [] N.spec_DisksText [.v [.i a0_0, .i a0_1, .i a0_2, .r a0_3, .i a0_4, .i a0_5, .i a0_6, .i a0_7, .i a0_8, .r a0_9, .i a0_10, .b a0_11, .b a0_12]] [.sr, .sr, .sl, .sr, .bl, .lp, .sr, .sl, .bl, .sr, .sl, .sr, .bl] js) j s
theorem spec_DisksText_e (k : Nat) (a0_0 : Int) (a0_1 : Int) (a0_2 : Int) (a0_3 : List (List T)) (a0_4 : Int) (a0_5 : Int) (a0_6 : Int) (a0_7 : Int) (a0_8 : Int) (a0_9 : List (List T)) (a0_10 : Int) (a0_11 : Bool) (a0_12 : Bool) : evalF E P0 (k + 1) N.spec_DisksText [.v [.i a0_0, .i a0_1, .i a0_2, .r a0_3, .i a0_4, .i a0_5, .i a0_6, .i a0_7, .i a0_8, .r a0_9, .i a0_10, .b a0_11, .b a0_12]] = spec_DisksText_u k a0_0 a0_1 a0_2 a0_3 a0_4 a0_5 a0_6 a0_7 a0_8 a0_9 a0_10 a0_11 a0_12 := by
  have e0 : evalF E P0 (k + 1) N.spec_DisksText [.v [.i a0_0, .i a0_1, .i a0_2, .r a0_3, .i a0_4, .i a0_5, .i a0_6, .i a0_7, .i a0_8, .r a0_9, .i a0_10, .b a0_11, .b a0_12]] = spec_DisksText_U k a0_0 a0_1 a0_2 a0_3 a0_4 a0_5 a0_6 a0_7 a0_8 a0_9 a0_10 a0_11 a0_12 (fun v => spec_DisksText_it1 k a0_0 a0_1 a0_2 a0_3 a0_4 a0_5 a0_6 a0_7 a0_8 a0_9 a0_10 a0_11 a0_12 [] k (spec_DisksText_S1 a0_0 a0_1 a0_2 a0_3 a0_4 a0_5 a0_6 a0_7 a0_8 a0_9 a0_10 a0_11 a0_12 v)) := by kernel_rfl
  have e2 : ∀ (j1 : Nat) (t8 : ByteArray) (v360 : Int) (j2 : Nat) (v : Bool × Int), spec_DisksText_it2 k a0_0 a0_1 a0_2 a0_3 a0_4 a0_5 a0_6 a0_7 a0_8 a0_9 a0_10 a0_11 a0_12 [j1] (j2 + 1) (spec_DisksText_S2 a0_0 a0_1 a0_2 a0_3 a0_4 a0_5 a0_6 a0_7 a0_8 a0_9 a0_10 a0_11 a0_12 t8 v360 v) = spec_DisksText_L2 k a0_0 a0_1 a0_2 a0_3 a0_4 a0_5 a0_6 a0_7 a0_8 a0_9 a0_10 a0_11 a0_12 t8 v360 (fun v => spec_DisksText_it1 k a0_0 a0_1 a0_2 a0_3 a0_4 a0_5 a0_6 a0_7 a0_8 a0_9 a0_10 a0_11 a0_12 [] j1 (spec_DisksText_S1 a0_0 a0_1 a0_2 a0_3 a0_4 a0_5 a0_6 a0_7 a0_8 a0_9 a0_10 a0_11 a0_12 v)) (fun v => spec_DisksText_it2 k a0_0 a0_1 a0_2 a0_3 a0_4 a0_5 a0_6 a0_7 a0_8 a0_9 a0_10 a0_11 a0_12 [j1] j2 (spec_DisksText_S2 a0_0 a0_1 a0_2 a0_3 a0_4 a0_5 a0_6 a0_7 a0_8 a0_9 a0_10 a0_11 a0_12 t8 v360 v)) v := by
    intro j1 t8 v360 j2 v; kernel_rfl
  have i2 : ∀ (j1 : Nat) (t8 : ByteArray) (v360 : Int) (j2 : Nat) (v : Bool × Int), spec_DisksText_it2 k a0_0 a0_1 a0_2 a0_3 a0_4 a0_5 a0_6 a0_7 a0_8 a0_9 a0_10 a0_11 a0_12 [j1] j2 (spec_DisksText_S2 a0_0 a0_1 a0_2 a0_3 a0_4 a0_5 a0_6 a0_7 a0_8 a0_9 a0_10 a0_11 a0_12 t8 v360 v) = fixN (spec_DisksText_l2 k a0_0 a0_1 a0_2 a0_3 a0_4 a0_5 a0_6 a0_7 a0_8 a0_9 a0_10 a0_11 a0_12 t8 v360 (fun v => spec_DisksText_it1 k a0_0 a0_1 a0_2 a0_3 a0_4 a0_5 a0_6 a0_7 a0_8 a0_9 a0_10 a0_11 a0_12 [] j1 (spec_DisksText_S1 a0_0 a0_1 a0_2 a0_3 a0_4 a0_5 a0_6 a0_7 a0_8 a0_9 a0_10 a0_11 a0_12 v))) j2 v := by
    intro j1 t8 v360 j2 v
    refine iter_fix (spec_DisksText_S2 a0_0 a0_1 a0_2 a0_3 a0_4 a0_5 a0_6 a0_7 a0_8 a0_9 a0_10 a0_11 a0_12 t8 v360) (spec_DisksText_l2 k a0_0 a0_1 a0_2 a0_3 a0_4 a0_5 a0_6 a0_7 a0_8 a0_9 a0_10 a0_11 a0_12 t8 v360 (fun v => spec_DisksText_it1 k a0_0 a0_1 a0_2 a0_3 a0_4 a0_5 a0_6 a0_7 a0_8 a0_9 a0_10 a0_11 a0_12 [] j1 (spec_DisksText_S1 a0_0 a0_1 a0_2 a0_3 a0_4 a0_5 a0_6 a0_7 a0_8 a0_9 a0_10 a0_11 a0_12 v))) (fun j2 v => (e2 j1 t8 v360 j2 v).trans ?_) j2 v
    unfold spec_DisksText_l2
    rfl
  have e1 : ∀ (j1 : Nat) (v : ByteArray × Int), spec_DisksText_it1 k a0_0 a0_1 a0_2 a0_3 a0_4 a0_5 a0_6 a0_7 a0_8 a0_9 a0_10 a0_11 a0_12 [] (j1 + 1) (spec_DisksText_S1 a0_0 a0_1 a0_2 a0_3 a0_4 a0_5 a0_6 a0_7 a0_8 a0_9 a0_10 a0_11 a0_12 v) = spec_DisksText_L1 k a0_0 a0_1 a0_2 a0_3 a0_4 a0_5 a0_6 a0_7 a0_8 a0_9 a0_10 a0_11 a0_12 (fun y0 y1 v => spec_DisksText_it2 k a0_0 a0_1 a0_2 a0_3 a0_4 a0_5 a0_6 a0_7 a0_8 a0_9 a0_10 a0_11 a0_12 [j1] k (spec_DisksText_S2 a0_0 a0_1 a0_2 a0_3 a0_4 a0_5 a0_6 a0_7 a0_8 a0_9 a0_10 a0_11 a0_12 y0 y1 v)) (fun v => spec_DisksText_it1 k a0_0 a0_1 a0_2 a0_3 a0_4 a0_5 a0_6 a0_7 a0_8 a0_9 a0_10 a0_11 a0_12 [] j1 (spec_DisksText_S1 a0_0 a0_1 a0_2 a0_3 a0_4 a0_5 a0_6 a0_7 a0_8 a0_9 a0_10 a0_11 a0_12 v)) v := by
    intro j1 v; kernel_rfl
  have i1 : ∀ (j1 : Nat) (v : ByteArray × Int), spec_DisksText_it1 k a0_0 a0_1 a0_2 a0_3 a0_4 a0_5 a0_6 a0_7 a0_8 a0_9 a0_10 a0_11 a0_12 [] j1 (spec_DisksText_S1 a0_0 a0_1 a0_2 a0_3 a0_4 a0_5 a0_6 a0_7 a0_8 a0_9 a0_10 a0_11 a0_12 v) = fixN (spec_DisksText_l1 k a0_0 a0_1 a0_2 a0_3 a0_4 a0_5 a0_6 a0_7 a0_8 a0_9 a0_10 a0_11 a0_12) j1 v := by
    intro j1 v
    refine iter_fix (spec_DisksText_S1 a0_0 a0_1 a0_2 a0_3 a0_4 a0_5 a0_6 a0_7 a0_8 a0_9 a0_10 a0_11 a0_12) (spec_DisksText_l1 k a0_0 a0_1 a0_2 a0_3 a0_4 a0_5 a0_6 a0_7 a0_8 a0_9 a0_10 a0_11 a0_12) (fun j1 v => (e1 j1 v).trans ?_) j1 v
    unfold spec_DisksText_l1
    simp only [i2] <;> rfl
  rw [e0]; unfold spec_DisksText_u
  simp only [i1]
/- impl.within -/
def impl_within_u (k : Nat) (a0 : Int) (a1 : Int) (a2 : Int) : Option Outs :=
 bif (decide (a0 ≥ a1)) then some ⟨[.b (decide (a0 ≤ a2))], []⟩ else some ⟨[.b false], []⟩
theorem impl_within_e (k : Nat) (a0 : Int) (a1 : Int) (a2 : Int) : evalF E P0 (k + 1) N.impl_within [.v [.i a0], .v [.i a1], .v [.i a2]] = impl_within_u k a0 a1 a2 := by kernel_rfl
/- impl.DataAt -/
def impl_DataAt_u (k : Nat) (a0 : Int) : Option Outs :=
 bindO (evalF E P0 k N.impl_within [.v [.i a0], .v [.i 0], .v [.i 1099511627776]]) fun o2 =>
 bif (!(o2.t 0).asB) then
  some ⟨[.i (-1)], []⟩
 else
  some ⟨[.i (IntKind.wrap .i64 ((IntKind.wrap .i64 (a0 + 2)) + 4))], []⟩
theorem impl_DataAt_e (k : Nat) (a0 : Int) : evalF E P0 (k + 1) N.impl_DataAt [.v [.i a0]] = impl_DataAt_u k a0 := by kernel_rfl
/- impl.isSpoilt -/
def impl_isSpoilt_L1 (k : Nat) (a0_3 : List (List T)) (G1 : (Int) → Option Outs) : (Int) → Option Outs := fun v8 =>
 bif (decide (v8 < (a0_3.length : Int))) then
  chk (decide (0 ≤ v8) && decide (v8 < (a0_3.length : Int))) <|
  bindO (evalF E P0 k N.impl_DataAt [.v [.i 0]]) fun o96 =>
  bif (decide ((at_ a0_3 v8.toNat 0).asI ≥ (o96.t 0).asI)) then
   some ⟨[.b true], []⟩
  else
   G1 (IntKind.wrap .i64 (v8 + 1))
 else
  some ⟨[.b false], []⟩
def impl_isSpoilt_k1 : List Nat := [2, 6, 7, 8]
def impl_isSpoilt_S1 (a0_3 : List (List T)) : (Int) → St := fun v8 => ⟨ofSl [(2, .b false), (6, .sl 3 a0_3), (7, .i .i64 (a0_3.length : Int)), (8, .i .i64 v8)], ofMem []⟩
def impl_isSpoilt_l1 (k : Nat) (a0_3 : List (List T)) (G1 : (Int) → Option Outs) : (Int) → Option Outs :=
  impl_isSpoilt_L1 k a0_3 G1
def impl_isSpoilt_U (k : Nat) (a0_0 : List (List T)) (a0_1 : List (List T)) (a0_2 : Bool) (a0_3 : List (List T)) (R1 : (Int) → Option Outs) : Option Outs :=
 R1 0
def impl_isSpoilt_u (k : Nat) (a0_0 : List (List T)) (a0_1 : List (List T)) (a0_2 : Bool) (a0_3 : List (List T)) : Option Outs :=
  impl_isSpoilt_U k a0_0 a0_1 a0_2 a0_3 (fun v => fixN (impl_isSpoilt_l1 k a0_3) k v)
def impl_isSpoilt_it1 (k : Nat) (a0_0 : List (List T)) (a0_1 : List (List T)) (a0_2 : Bool) (a0_3 : List (List T)) (js : List Nat) (j : Nat) (s : St) : Option Outs := iter (LB E (evalF E P0 k) k [] N.impl_isSpoilt [.sr, .sl, .sr, .bl]) [] impl_isSpoilt_k1 (LK E (evalF E P0 k) k [] N.impl_isSpoilt [.v [.r a0_0, .r a0_1, .b a0_2, .r a0_3]] [.sr, .sl, .sr, .bl] js) j s
theorem impl_isSpoilt_e (k : Nat) (a0_0 : List (List T)) (a0_1 : List (List T)) (a0_2 : Bool) (a0_3 : List (List T)) : evalF E P0 (k + 1) N.impl_isSpoilt [.v [.r a0_0, .r a0_1, .b a0_2, .r a0_3]] = impl_isSpoilt_u k a0_0 a0_1 a0_2 a0_3 := by
  have e0 : evalF E P0 (k + 1) N.impl_isSpoilt [.v [.r a0_0, .r a0_1, .b a0_2, .r a0_3]] = impl_isSpoilt_U k a0_0 a0_1 a0_2 a0_3 (fun v => impl_isSpoilt_it1 k a0_0 a0_1 a0_2 a0_3 [] k (impl_isSpoilt_S1 a0_3 v)) := by kernel_rfl
  have e1 : ∀ (j1 : Nat) (v : Int), impl_isSpoilt_it1 k a0_0 a0_1 a0_2 a0_3 [] (j1 + 1) (impl_isSpoilt_S1 a0_3 v) = impl_isSpoilt_L1 k a0_3 (fun v => impl_isSpoilt_it1 k a0_0 a0_1 a0_2 a0_3 [] j1 (impl_isSpoilt_S1 a0_3 v)) v := by
    intro j1 v; kernel_rfl
  have i1 : ∀ (j1 : Nat) (v : Int), impl_isSpoilt_it1 k a0_0 a0_1 a0_2 a0_3 [] j1 (impl_isSpoilt_S1 a0_3 v) = fixN (impl_isSpoilt_l1 k a0_3) j1 v := by
    intro j1 v
    refine iter_fix (impl_isSpoilt_S1 a0_3) (impl_isSpoilt_l1 k a0_3) (fun j1 v => (e1 j1 v).trans ?_) j1 v
    unfold impl_isSpoilt_l1
    rfl
  rw [e0]; unfold impl_isSpoilt_u
  simp only [i1]
/- impl.DisksText -/
def impl_DisksText_L1 (k : Nat) (a0_0 : Int) (a0_1 : Int) (a0_2 : Int) (a0_3 : List (List T)) (a0_4 : Int) (a0_5 : Int) (a0_6 : Int) (a0_7 : Int) (a0_8 : Int) (a0_9 : List (List T)) (a0_10 : Int) (a0_11 : Bool) (a0_12 : Bool) (G1 : (ByteArray × Int) → Option Outs) : (ByteArray × Int) → Option Outs := fun (t8, v8) =>
 bif (decide (v8 < (a0_3.length : Int))) then
  chk (decide (0 ≤ v8) && decide (v8 < (a0_3.length : Int))) <|
  bif (at_ a0_3 v8.toNat 2).asB then
   chk (Nat.ble (t8.size + (ByteArray.mk #[120]).size) 9223372036854775807) <|
   G1 ((t8 ++ (ByteArray.mk #[120])), (IntKind.wrap .i64 (v8 + 1)))
  else
   bif (a0_4 == v8) then
    chk (Nat.ble (t8.size + (ByteArray.mk #[111]).size) 9223372036854775807) <|
    G1 ((t8 ++ (ByteArray.mk #[111])), (IntKind.wrap .i64 (v8 + 1)))
   else
    bindO (evalF E P0 k N.impl_isSpoilt [.v [.r (at_ a0_3 v8.toNat 0).asR, .r (at_ a0_3 v8.toNat 1).asR, .b (at_ a0_3 v8.toNat 2).asB, .r (at_ a0_3 v8.toNat 3).asR]]) fun o192 =>
    bif (o192.t 0).asB then
     chk (Nat.ble (t8.size + (ByteArray.mk #[33]).size) 9223372036854775807) <|
     G1 ((t8 ++ (ByteArray.mk #[33])), (IntKind.wrap .i64 (v8 + 1)))
    else
     chk (Nat.ble (t8.size + (ByteArray.mk #[46]).size) 9223372036854775807) <|
     G1 ((t8 ++ (ByteArray.mk #[46])), (IntKind.wrap .i64 (v8 + 1)))
 else
  some ⟨[.s t8], []⟩
def impl_DisksText_k1 : List Nat := [1, 2, 3, 7, 8, 9, 34]
def impl_DisksText_S1 (a0_0 : Int) (a0_1 : Int) (a0_2 : Int) (a0_3 : List (List T)) (a0_4 : Int) (a0_5 : Int) (a0_6 : Int) (a0_7 : Int) (a0_8 : Int) (a0_9 : List (List T)) (a0_10 : Int) (a0_11 : Bool) (a0_12 : Bool) : (ByteArray × Int) → St := fun (t8, v8) => ⟨ofSl [(1, .ptr (1, 0) 0), (2, .s (ByteArray.mk #[])), (3, .s t8), (7, .sl 65 a0_3), (8, .i .i64 (a0_3.length : Int)), (9, .i .i64 v8), (34, .skip)], ofMem [((1, 0), .var [.i .i64 a0_0, .i .i64 a0_1, .i .i64 a0_2, .sl 65 a0_3, .i .i64 a0_4, .i .i64 a0_5, .i .i64 a0_6, .i .i64 a0_7, .i .i64 a0_8, .sl 101 a0_9, .i .i64 a0_10, .b a0_11, .b a0_12])]⟩
def impl_DisksText_l1 (k : Nat) (a0_0 : Int) (a0_1 : Int) (a0_2 : Int) (a0_3 : List (List T)) (a0_4 : Int) (a0_5 : Int) (a0_6 : Int) (a0_7 : Int) (a0_8 : Int) (a0_9 : List (List T)) (a0_10 : Int) (a0_11 : Bool) (a0_12 : Bool) (G1 : (ByteArray × Int) → Option Outs) : (ByteArray × Int) → Option Outs :=
  impl_DisksText_L1 k a0_0 a0_1 a0_2 a0_3 a0_4 a0_5 a0_6 a0_7 a0_8 a0_9 a0_10 a0_11 a0_12 G1
def impl_DisksText_U (k : Nat) (a0_0 : Int) (a0_1 : Int) (a0_2 : Int) (a0_3 : List (List T)) (a0_4 : Int) (a0_5 : Int) (a0_6 : Int) (a0_7 : Int) (a0_8 : Int) (a0_9 : List (List T)) (a0_10 : Int) (a0_11 : Bool) (a0_12 : Bool) (R1 : (ByteArray × Int) → Option Outs) : Option Outs :=
 R1 ((ByteArray.mk #[]), 0)
def impl_DisksText_u (k : Nat) (a0_0 : Int) (a0_1 : Int) (a0_2 : Int) (a0_3 : List (List T)) (a0_4 : Int) (a0_5 : Int) (a0_6 : Int) (a0_7 : Int) (a0_8 : Int) (a0_9 : List (List T)) (a0_10 : Int) (a0_11 : Bool) (a0_12 : Bool) : Option Outs :=
  impl_DisksText_U k a0_0 a0_1 a0_2 a0_3 a0_4 a0_5 a0_6 a0_7 a0_8 a0_9 a0_10 a0_11 a0_12 (fun v => fixN (impl_DisksText_l1 k a0_0 a0_1 a0_2 a0_3 a0_4 a0_5 a0_6 a0_7 a0_8 a0_9 a0_10 a0_11 a0_12) k v)
def impl_DisksText_it1 (k : Nat) (a0_0 : Int) (a0_1 : Int) (a0_2 : Int) (a0_3 : List (List T)) (a0_4 : Int) (a0_5 : Int) (a0_6 : Int) (a0_7 : Int) (a0_8 : Int) (a0_9 : List (List T)) (a0_10 : Int) (a0_11 : Bool) (a0_12 : Bool) (js : List Nat) (j : Nat) (s : St) : Option Outs := iter (LB E (evalF E P0 k) k [] N.impl_DisksText [.sr, .sr, .sl, .sr, .bl]) [] impl_DisksText_k1 (LK E (evalF E P0 k) k [] N.impl_DisksText [.v [.i a0_0, .i a0_1, .i a0_2, .r a0_3, .i a0_4, .i a0_5, .i a0_6, .i a0_7, .i a0_8, .r a0_9, .i a0_10, .b a0_11, .b a0_12]] [.sr, .sr, .sl, .sr, .bl] js) j s
theorem impl_DisksText_e (k : Nat) (a0_0 : Int) (a0_1 : Int) (a0_2 : Int) (a0_3 : List (List T)) (a0_4 : Int) (a0_5 : Int) (a0_6 : Int) (a0_7 : Int) (a0_8 : Int) (a0_9 : List (List T)) (a0_10 : Int) (a0_11 : Bool) (a0_12 : Bool) : evalF E P0 (k + 1) N.impl_DisksText [.v [.i a0_0, .i a0_1, .i a0_2, .r a0_3, .i a0_4, .i a0_5, .i a0_6, .i a0_7, .i a0_8, .r a0_9, .i a0_10, .b a0_11, .b a0_12]] = impl_DisksText_u k a0_0 a0_1 a0_2 a0_3 a0_4 a0_5 a0_6 a0_7 a0_8 a0_9 a0_10 a0_11 a0_12 := by
  have e0 : evalF E P0 (k + 1) N.impl_DisksText [.v [.i a0_0, .i a0_1, .i a0_2, .r a0_3, .i a0_4, .i a0_5, .i a0_6, .i a0_7, .i a0_8, .r a0_9, .i a0_10, .b a0_11, .b a0_12]] = impl_DisksText_U k a0_0 a0_1 a0_2 a0_3 a0_4 a0_5 a0_6 a0_7 a0_8 a0_9 a0_10 a0_11 a0_12 (fun v => impl_DisksText_it1 k a0_0 a0_1 a0_2 a0_3 a0_4 a0_5 a0_6 a0_7 a0_8 a0_9 a0_10 a0_11 a0_12 [] k (impl_DisksText_S1 a0_0 a0_1 a0_2 a0_3 a0_4 a0_5 a0_6 a0_7 a0_8 a0_9 a0_10 a0_11 a0_12 v)) := by kernel_rfl
  have e1 : ∀ (j1 : Nat) (v : ByteArray × Int), impl_DisksText_it1 k a0_0 a0_1 a0_2 a0_3 a0_4 a0_5 a0_6 a0_7 a0_8 a0_9 a0_10 a0_11 a0_12 [] (j1 + 1) (impl_DisksText_S1 a0_0 a0_1 a0_2 a0_3 a0_4 a0_5 a0_6 a0_7 a0_8 a0_9 a0_10 a0_11 a0_12 v) = impl_DisksText_L1 k a0_0 a0_1 a0_2 a0_3 a0_4 a0_5 a0_6 a0_7 a0_8 a0_9 a0_10 a0_11 a0_12 (fun v => impl_DisksText_it1 k a0_0 a0_1 a0_2 a0_3 a0_4 a0_5 a0_6 a0_7 a0_8 a0_9 a0_10 a0_11 a0_12 [] j1 (impl_DisksText_S1 a0_0 a0_1 a0_2 a0_3 a0_4 a0_5 a0_6 a0_7 a0_8 a0_9 a0_10 a0_11 a0_12 v)) v := by
    intro j1 v; kernel_rfl
  have i1 : ∀ (j1 : Nat) (v : ByteArray × Int), impl_DisksText_it1 k a0_0 a0_1 a0_2 a0_3 a0_4 a0_5 a0_6 a0_7 a0_8 a0_9 a0_10 a0_11 a0_12 [] j1 (impl_DisksText_S1 a0_0 a0_1 a0_2 a0_3 a0_4 a0_5 a0_6 a0_7 a0_8 a0_9 a0_10 a0_11 a0_12 v) = fixN (impl_DisksText_l1 k a0_0 a0_1 a0_2 a0_3 a0_4 a0_5 a0_6 a0_7 a0_8 a0_9 a0_10 a0_11 a0_12) j1 v := by
    intro j1 v
    refine iter_fix (impl_DisksText_S1 a0_0 a0_1 a0_2 a0_3 a0_4 a0_5 a0_6 a0_7 a0_8 a0_9 a0_10 a0_11 a0_12) (impl_DisksText_l1 k a0_0 a0_1 a0_2 a0_3 a0_4 a0_5 a0_6 a0_7 a0_8 a0_9 a0_10 a0_11 a0_12) (fun j1 v => (e1 j1 v).trans ?_) j1 v
    unfold impl_DisksText_l1
    rfl
  rw [e0]; unfold impl_DisksText_u
  simp only [i1]
/- laws.eqGeo -/
def laws_eqGeo_u (k : Nat) (a0_0 : Int) (a0_1 : Int) (a1_0 : Int) (a1_1 : Int) : Option Outs :=
 bif (a0_0 != a1_0) then
  some ⟨[.b false], []⟩
 else
  bif (a0_1 != a1_1) then some ⟨[.b false], []⟩ else some ⟨[.b true], []⟩
theorem laws_eqGeo_e (k : Nat) (a0_0 : Int) (a0_1 : Int) (a1_0 : Int) (a1_1 : Int) : evalF E P0 (k + 1) N.laws_eqGeo [.v [.i a0_0, .i a0_1], .v [.i a1_0, .i a1_1]] = laws_eqGeo_u k a0_0 a0_1 a1_0 a1_1 := by kernel_rfl
/- laws.eqIntS -/
def laws_eqIntS_L1 (k : Nat) (a0 : List (List T)) (a1 : List (List T)) (G1 : (Int) → Option Outs) : (Int) → Option Outs := fun v8 =>
 bif (decide (v8 < (a0.length : Int))) then
  chk (decide (0 ≤ v8) && decide (v8 < (a0.length : Int))) <|
  chk (decide (0 ≤ v8) && decide (v8 < (a1.length : Int))) <|
  bif ((at_ a0 v8.toNat 0).asI != (at_ a1 v8.toNat 0).asI) then
   some ⟨[.b false], []⟩
  else
   G1 (IntKind.wrap .i64 (v8 + 1))
 else
  some ⟨[.b true], []⟩
def laws_eqIntS_k1 : List Nat := [0, 1, 4, 5]
def laws_eqIntS_S1 (a0 : List (List T)) (a1 : List (List T)) : (Int) → St := fun v8 => ⟨ofSl [(0, .sl 3 a0), (1, .sl 3 a1), (4, .b false), (5, .i .i64 v8)], ofMem []⟩
def laws_eqIntS_l1 (k : Nat) (a0 : List (List T)) (a1 : List (List T)) (G1 : (Int) → Option Outs) : (Int) → Option Outs :=
  laws_eqIntS_L1 k a0 a1 G1
def laws_eqIntS_U (k : Nat) (a0 : List (List T)) (a1 : List (List T)) (R1 : (Int) → Option Outs) : Option Outs :=
 bif ((a0.length : Int) != (a1.length : Int)) then some ⟨[.b false], []⟩ else R1 0
def laws_eqIntS_u (k : Nat) (a0 : List (List T)) (a1 : List (List T)) : Option Outs :=
  laws_eqIntS_U k a0 a1 (fun v => fixN (laws_eqIntS_l1 k a0 a1) k v)
def laws_eqIntS_it1 (k : Nat) (a0 : List (List T)) (a1 : List (List T)) (js : List Nat) (j : Nat) (s : St) : Option Outs := iter (LB E (evalF E P0 k) k [] N.laws_eqIntS [.sr, .sr, .sl, .sr, .bl]) [] laws_eqIntS_k1 (LK E (evalF E P0 k) k [] N.laws_eqIntS [.v [.r a0], .v [.r a1]] [.sr, .sr, .sl, .sr, .bl] js) j s
theorem laws_eqIntS_e (k : Nat) (a0 : List (List T)) (a1 : List (List T)) : evalF E P0 (k + 1) N.laws_eqIntS [.v [.r a0], .v [.r a1]] = laws_eqIntS_u k a0 a1 := by
  have e0 : evalF E P0 (k + 1) N.laws_eqIntS [.v [.r a0], .v [.r a1]] = laws_eqIntS_U k a0 a1 (fun v => laws_eqIntS_it1 k a0 a1 [] k (laws_eqIntS_S1 a0 a1 v)) := by kernel_rfl
  have e1 : ∀ (j1 : Nat) (v : Int), laws_eqIntS_it1 k a0 a1 [] (j1 + 1) (laws_eqIntS_S1 a0 a1 v) = laws_eqIntS_L1 k a0 a1 (fun v => laws_eqIntS_it1 k a0 a1 [] j1 (laws_eqIntS_S1 a0 a1 v)) v := by
    intro j1 v; kernel_rfl
  have i1 : ∀ (j1 : Nat) (v : Int), laws_eqIntS_it1 k a0 a1 [] j1 (laws_eqIntS_S1 a0 a1 v) = fixN (laws_eqIntS_l1 k a0 a1) j1 v := by
    intro j1 v
    refine iter_fix (laws_eqIntS_S1 a0 a1) (laws_eqIntS_l1 k a0 a1) (fun j1 v => (e1 j1 v).trans ?_) j1 v
    unfold laws_eqIntS_l1
    rfl
  rw [e0]; unfold laws_eqIntS_u
  simp only [i1]
/- laws.eqIntSS -/
def laws_eqIntSS_L1 (k : Nat) (a0 : List (List T)) (a1 : List (List T)) (G1 : (Int) → Option Outs) : (Int) → Option Outs := fun v8 =>
 bif (decide (v8 < (a0.length : Int))) then
  chk (decide (0 ≤ v8) && decide (v8 < (a0.length : Int))) <|
  chk (decide (0 ≤ v8) && decide (v8 < (a1.length : Int))) <|
  bindO (evalF E P0 k N.laws_eqIntS [.v [.r (at_ a0 v8.toNat 0).asR], .v [.r (at_ a1 v8.toNat 0).asR]]) fun o96 =>
  bif (!(o96.t 0).asB) then some ⟨[.b false], []⟩ else G1 (IntKind.wrap .i64 (v8 + 1))
 else
  some ⟨[.b true], []⟩
def laws_eqIntSS_k1 : List Nat := [0, 1, 4, 5]
def laws_eqIntSS_S1 (a0 : List (List T)) (a1 : List (List T)) : (Int) → St := fun v8 => ⟨ofSl [(0, .sl 53 a0), (1, .sl 53 a1), (4, .b false), (5, .i .i64 v8)], ofMem []⟩
def laws_eqIntSS_l1 (k : Nat) (a0 : List (List T)) (a1 : List (List T)) (G1 : (Int) → Option Outs) : (Int) → Option Outs :=
  laws_eqIntSS_L1 k a0 a1 G1
def laws_eqIntSS_U (k : Nat) (a0 : List (List T)) (a1 : List (List T)) (R1 : (Int) → Option Outs) : Option Outs :=
 bif ((a0.length : Int) != (a1.length : Int)) then some ⟨[.b false], []⟩ else R1 0
def laws_eqIntSS_u (k : Nat) (a0 : List (List T)) (a1 : List (List T)) : Option Outs :=
  laws_eqIntSS_U k a0 a1 (fun v => fixN (laws_eqIntSS_l1 k a0 a1) k v)
def laws_eqIntSS_it1 (k : Nat) (a0 : List (List T)) (a1 : List (List T)) (js : List Nat) (j : Nat) (s : St) : Option Outs := iter (LB E (evalF E P0 k) k [] N.laws_eqIntSS [.sr, .sr, .sl, .sr, .bl]) [] laws_eqIntSS_k1 (LK E (evalF E P0 k) k [] N.laws_eqIntSS [.v [.r a0], .v [.r a1]] [.sr, .sr, .sl, .sr, .bl] js) j s
theorem laws_eqIntSS_e (k : Nat) (a0 : List (List T)) (a1 : List (List T)) : evalF E P0 (k + 1) N.laws_eqIntSS [.v [.r a0], .v [.r a1]] = laws_eqIntSS_u k a0 a1 := by
  have e0 : evalF E P0 (k + 1) N.laws_eqIntSS [.v [.r a0], .v [.r a1]] = laws_eqIntSS_U k a0 a1 (fun v => laws_eqIntSS_it1 k a0 a1 [] k (laws_eqIntSS_S1 a0 a1 v)) := by kernel_rfl
  have e1 : ∀ (j1 : Nat) (v : Int), laws_eqIntSS_it1 k a0 a1 [] (j1 + 1) (laws_eqIntSS_S1 a0 a1 v) = laws_eqIntSS_L1 k a0 a1 (fun v => laws_eqIntSS_it1 k a0 a1 [] j1 (laws_eqIntSS_S1 a0 a1 v)) v := by
    intro j1 v; kernel_rfl
  have i1 : ∀ (j1 : Nat) (v : Int), laws_eqIntSS_it1 k a0 a1 [] j1 (laws_eqIntSS_S1 a0 a1 v) = fixN (laws_eqIntSS_l1 k a0 a1) j1 v := by
    intro j1 v
    refine iter_fix (laws_eqIntSS_S1 a0 a1) (laws_eqIntSS_l1 k a0 a1) (fun j1 v => (e1 j1 v).trans ?_) j1 v
    unfold laws_eqIntSS_l1
    rfl
  rw [e0]; unfold laws_eqIntSS_u
  simp only [i1]
/- laws.eqWr -/
def laws_eqWr_u (k : Nat) (a0_0 : Int) (a0_1 : List (List T)) (a1_0 : Int) (a1_1 : List (List T)) : Option Outs :=
 bif (a0_0 != a1_0) then
  some ⟨[.b false], []⟩
 else
  bindO (evalF E P0 k N.laws_eqIntS [.v [.r a0_1], .v [.r a1_1]]) fun o2 =>
  bif (!(o2.t 0).asB) then some ⟨[.b false], []⟩ else some ⟨[.b true], []⟩
theorem laws_eqWr_e (k : Nat) (a0_0 : Int) (a0_1 : List (List T)) (a1_0 : Int) (a1_1 : List (List T)) : evalF E P0 (k + 1) N.laws_eqWr [.v [.i a0_0, .r a0_1], .v [.i a1_0, .r a1_1]] = laws_eqWr_u k a0_0 a0_1 a1_0 a1_1 := by kernel_rfl
/- laws.eqWrS -/
def laws_eqWrS_L1 (k : Nat) (a0 : List (List T)) (a1 : List (List T)) (G1 : (Int) → Option Outs) : (Int) → Option Outs := fun v8 =>
 bif (decide (v8 < (a0.length : Int))) then
  chk (decide (0 ≤ v8) && decide (v8 < (a0.length : Int))) <|
  chk (decide (0 ≤ v8) && decide (v8 < (a1.length : Int))) <|
  bindO (evalF E P0 k N.laws_eqWr [.v [.i (at_ a0 v8.toNat 0).asI, .r (at_ a0 v8.toNat 1).asR], .v [.i (at_ a1 v8.toNat 0).asI, .r (at_ a1 v8.toNat 1).asR]]) fun o96 =>
  bif (!(o96.t 0).asB) then some ⟨[.b false], []⟩ else G1 (IntKind.wrap .i64 (v8 + 1))
 else
  some ⟨[.b true], []⟩
def laws_eqWrS_k1 : List Nat := [0, 1, 4, 5]
def laws_eqWrS_S1 (a0 : List (List T)) (a1 : List (List T)) : (Int) → St := fun v8 => ⟨ofSl [(0, .sl 125 a0), (1, .sl 125 a1), (4, .b false), (5, .i .i64 v8)], ofMem []⟩
def laws_eqWrS_l1 (k : Nat) (a0 : List (List T)) (a1 : List (List T)) (G1 : (Int) → Option Outs) : (Int) → Option Outs :=
  laws_eqWrS_L1 k a0 a1 G1
def laws_eqWrS_U (k : Nat) (a0 : List (List T)) (a1 : List (List T)) (R1 : (Int) → Option Outs) : Option Outs :=
 bif ((a0.length : Int) != (a1.length : Int)) then some ⟨[.b false], []⟩ else R1 0
def laws_eqWrS_u (k : Nat) (a0 : List (List T)) (a1 : List (List T)) : Option Outs :=
  laws_eqWrS_U k a0 a1 (fun v => fixN (laws_eqWrS_l1 k a0 a1) k v)
def laws_eqWrS_it1 (k : Nat) (a0 : List (List T)) (a1 : List (List T)) (js : List Nat) (j : Nat) (s : St) : Option Outs := iter (LB E (evalF E P0 k) k [] N.laws_eqWrS [.sr, .sr, .sl, .sr, .bl]) [] laws_eqWrS_k1 (LK E (evalF E P0 k) k [] N.laws_eqWrS [.v [.r a0], .v [.r a1]] [.sr, .sr, .sl, .sr, .bl] js) j s
theorem laws_eqWrS_e (k : Nat) (a0 : List (List T)) (a1 : List (List T)) : evalF E P0 (k + 1) N.laws_eqWrS [.v [.r a0], .v [.r a1]] = laws_eqWrS_u k a0 a1 := by
  have e0 : evalF E P0 (k + 1) N.laws_eqWrS [.v [.r a0], .v [.r a1]] = laws_eqWrS_U k a0 a1 (fun v => laws_eqWrS_it1 k a0 a1 [] k (laws_eqWrS_S1 a0 a1 v)) := by kernel_rfl
  have e1 : ∀ (j1 : Nat) (v : Int), laws_eqWrS_it1 k a0 a1 [] (j1 + 1) (laws_eqWrS_S1 a0 a1 v) = laws_eqWrS_L1 k a0 a1 (fun v => laws_eqWrS_it1 k a0 a1 [] j1 (laws_eqWrS_S1 a0 a1 v)) v := by
    intro j1 v; kernel_rfl
  have i1 : ∀ (j1 : Nat) (v : Int), laws_eqWrS_it1 k a0 a1 [] j1 (laws_eqWrS_S1 a0 a1 v) = fixN (laws_eqWrS_l1 k a0 a1) j1 v := by
    intro j1 v
    refine iter_fix (laws_eqWrS_S1 a0 a1) (laws_eqWrS_l1 k a0 a1) (fun j1 v => (e1 j1 v).trans ?_) j1 v
    unfold laws_eqWrS_l1
    rfl
  rw [e0]; unfold laws_eqWrS_u
  simp only [i1]
/- laws.eqMem -/
def laws_eqMem_u (k : Nat) (a0_0 : List (List T)) (a0_1 : List (List T)) (a0_2 : Bool) (a0_3 : List (List T)) (a1_0 : List (List T)) (a1_1 : List (List T)) (a1_2 : Bool) (a1_3 : List (List T)) : Option Outs :=
 bindO (evalF E P0 k N.laws_eqIntSS [.v [.r a0_0], .v [.r a1_0]]) fun o2 =>
 bif (!(o2.t 0).asB) then
  some ⟨[.b false], []⟩
 else
  bindO (evalF E P0 k N.laws_eqWrS [.v [.r a0_1], .v [.r a1_1]]) fun o4 =>
  bif (!(o4.t 0).asB) then
   some ⟨[.b false], []⟩
  else
   bif (!(a0_2 == a1_2)) then
    some ⟨[.b false], []⟩
   else
    bindO (evalF E P0 k N.laws_eqIntS [.v [.r a0_3], .v [.r a1_3]]) fun o6 =>
    bif (!(o6.t 0).asB) then some ⟨[.b false], []⟩ else some ⟨[.b true], []⟩
theorem laws_eqMem_e (k : Nat) (a0_0 : List (List T)) (a0_1 : List (List T)) (a0_2 : Bool) (a0_3 : List (List T)) (a1_0 : List (List T)) (a1_1 : List (List T)) (a1_2 : Bool) (a1_3 : List (List T)) : evalF E P0 (k + 1) N.laws_eqMem [.v [.r a0_0, .r a0_1, .b a0_2, .r a0_3], .v [.r a1_0, .r a1_1, .b a1_2, .r a1_3]] = laws_eqMem_u k a0_0 a0_1 a0_2 a0_3 a1_0 a1_1 a1_2 a1_3 := by kernel_rfl
/- laws.eqMemS -/
def laws_eqMemS_L1 (k : Nat) (a0 : List (List T)) (a1 : List (List T)) (G1 : (Int) → Option Outs) : (Int) → Option Outs := fun v8 =>
 bif (decide (v8 < (a0.length : Int))) then
  chk (decide (0 ≤ v8) && decide (v8 < (a0.length : Int))) <|
  chk (decide (0 ≤ v8) && decide (v8 < (a1.length : Int))) <|
  bindO (evalF E P0 k N.laws_eqMem [.v [.r (at_ a0 v8.toNat 0).asR, .r (at_ a0 v8.toNat 1).asR, .b (at_ a0 v8.toNat 2).asB, .r (at_ a0 v8.toNat 3).asR], .v [.r (at_ a1 v8.toNat 0).asR, .r (at_ a1 v8.toNat 1).asR, .b (at_ a1 v8.toNat 2).asB, .r (at_ a1 v8.toNat 3).asR]]) fun o96 =>
  bif (!(o96.t 0).asB) then some ⟨[.b false], []⟩ else G1 (IntKind.wrap .i64 (v8 + 1))
 else
  some ⟨[.b true], []⟩
def laws_eqMemS_k1 : List Nat := [0, 1, 4, 5]
def laws_eqMemS_S1 (a0 : List (List T)) (a1 : List (List T)) : (Int) → St := fun v8 => ⟨ofSl [(0, .sl 65 a0), (1, .sl 65 a1), (4, .b false), (5, .i .i64 v8)], ofMem []⟩
def laws_eqMemS_l1 (k : Nat) (a0 : List (List T)) (a1 : List (List T)) (G1 : (Int) → Option Outs) : (Int) → Option Outs :=
  laws_eqMemS_L1 k a0 a1 G1
def laws_eqMemS_U (k : Nat) (a0 : List (List T)) (a1 : List (List T)) (R1 : (Int) → Option Outs) : Option Outs :=
 bif ((a0.length : Int) != (a1.length : Int)) then some ⟨[.b false], []⟩ else R1 0
def laws_eqMemS_u (k : Nat) (a0 : List (List T)) (a1 : List (List T)) : Option Outs :=
  laws_eqMemS_U k a0 a1 (fun v => fixN (laws_eqMemS_l1 k a0 a1) k v)
def laws_eqMemS_it1 (k : Nat) (a0 : List (List T)) (a1 : List (List T)) (js : List Nat) (j : Nat) (s : St) : Option Outs := iter (LB E (evalF E P0 k) k [] N.laws_eqMemS [.sr, .sr, .sl, .sr, .bl]) [] laws_eqMemS_k1 (LK E (evalF E P0 k) k [] N.laws_eqMemS [.v [.r a0], .v [.r a1]] [.sr, .sr, .sl, .sr, .bl] js) j s
theorem laws_eqMemS_e (k : Nat) (a0 : List (List T)) (a1 : List (List T)) : evalF E P0 (k + 1) N.laws_eqMemS [.v [.r a0], .v [.r a1]] = laws_eqMemS_u k a0 a1 := by
  have e0 : evalF E P0 (k + 1) N.laws_eqMemS [.v [.r a0], .v [.r a1]] = laws_eqMemS_U k a0 a1 (fun v => laws_eqMemS_it1 k a0 a1 [] k (laws_eqMemS_S1 a0 a1 v)) := by kernel_rfl
  have e1 : ∀ (j1 : Nat) (v : Int), laws_eqMemS_it1 k a0 a1 [] (j1 + 1) (laws_eqMemS_S1 a0 a1 v) = laws_eqMemS_L1 k a0 a1 (fun v => laws_eqMemS_it1 k a0 a1 [] j1 (laws_eqMemS_S1 a0 a1 v)) v := by
    intro j1 v; kernel_rfl
  have i1 : ∀ (j1 : Nat) (v : Int), laws_eqMemS_it1 k a0 a1 [] j1 (laws_eqMemS_S1 a0 a1 v) = fixN (laws_eqMemS_l1 k a0 a1) j1 v := by
    intro j1 v
    refine iter_fix (laws_eqMemS_S1 a0 a1) (laws_eqMemS_l1 k a0 a1) (fun j1 v => (e1 j1 v).trans ?_) j1 v
    unfold laws_eqMemS_l1
    rfl
  rw [e0]; unfold laws_eqMemS_u
  simp only [i1]
/- laws.eqEnt -/
def laws_eqEnt_u (k : Nat) (a0_0 : Int) (a0_1 : List (List T)) (a1_0 : Int) (a1_1 : List (List T)) : Option Outs :=
 bif (a0_0 != a1_0) then
  some ⟨[.b false], []⟩
 else
  bindO (evalF E P0 k N.laws_eqIntS [.v [.r a0_1], .v [.r a1_1]]) fun o2 =>
  bif (!(o2.t 0).asB) then some ⟨[.b false], []⟩ else some ⟨[.b true], []⟩
theorem laws_eqEnt_e (k : Nat) (a0_0 : Int) (a0_1 : List (List T)) (a1_0 : Int) (a1_1 : List (List T)) : evalF E P0 (k + 1) N.laws_eqEnt [.v [.i a0_0, .r a0_1], .v [.i a1_0, .r a1_1]] = laws_eqEnt_u k a0_0 a0_1 a1_0 a1_1 := by kernel_rfl
/- laws.eqEntS -/
def laws_eqEntS_L1 (k : Nat) (a0 : List (List T)) (a1 : List (List T)) (G1 : (Int) → Option Outs) : (Int) → Option Outs := fun v8 =>
 bif (decide (v8 < (a0.length : Int))) then
  chk (decide (0 ≤ v8) && decide (v8 < (a0.length : Int))) <|
  chk (decide (0 ≤ v8) && decide (v8 < (a1.length : Int))) <|
  bindO (evalF E P0 k N.laws_eqEnt [.v [.i (at_ a0 v8.toNat 0).asI, .r (at_ a0 v8.toNat 1).asR], .v [.i (at_ a1 v8.toNat 0).asI, .r (at_ a1 v8.toNat 1).asR]]) fun o96 =>
  bif (!(o96.t 0).asB) then some ⟨[.b false], []⟩ else G1 (IntKind.wrap .i64 (v8 + 1))
 else
  some ⟨[.b true], []⟩
def laws_eqEntS_k1 : List Nat := [0, 1, 4, 5]
def laws_eqEntS_S1 (a0 : List (List T)) (a1 : List (List T)) : (Int) → St := fun v8 => ⟨ofSl [(0, .sl 101 a0), (1, .sl 101 a1), (4, .b false), (5, .i .i64 v8)], ofMem []⟩
def laws_eqEntS_l1 (k : Nat) (a0 : List (List T)) (a1 : List (List T)) (G1 : (Int) → Option Outs) : (Int) → Option Outs :=
  laws_eqEntS_L1 k a0 a1 G1
def laws_eqEntS_U (k : Nat) (a0 : List (List T)) (a1 : List (List T)) (R1 : (Int) → Option Outs) : Option Outs :=
 bif ((a0.length : Int) != (a1.length : Int)) then some ⟨[.b false], []⟩ else R1 0
def laws_eqEntS_u (k : Nat) (a0 : List (List T)) (a1 : List (List T)) : Option Outs :=
  laws_eqEntS_U k a0 a1 (fun v => fixN (laws_eqEntS_l1 k a0 a1) k v)
def laws_eqEntS_it1 (k : Nat) (a0 : List (List T)) (a1 : List (List T)) (js : List Nat) (j : Nat) (s : St) : Option Outs := iter (LB E (evalF E P0 k) k [] N.laws_eqEntS [.sr, .sr, .sl, .sr, .bl]) [] laws_eqEntS_k1 (LK E (evalF E P0 k) k [] N.laws_eqEntS [.v [.r a0], .v [.r a1]] [.sr, .sr, .sl, .sr, .bl] js) j s
theorem laws_eqEntS_e (k : Nat) (a0 : List (List T)) (a1 : List (List T)) : evalF E P0 (k + 1) N.laws_eqEntS [.v [.r a0], .v [.r a1]] = laws_eqEntS_u k a0 a1 := by
  have e0 : evalF E P0 (k + 1) N.laws_eqEntS [.v [.r a0], .v [.r a1]] = laws_eqEntS_U k a0 a1 (fun v => laws_eqEntS_it1 k a0 a1 [] k (laws_eqEntS_S1 a0 a1 v)) := by kernel_rfl
  have e1 : ∀ (j1 : Nat) (v : Int), laws_eqEntS_it1 k a0 a1 [] (j1 + 1) (laws_eqEntS_S1 a0 a1 v) = laws_eqEntS_L1 k a0 a1 (fun v => laws_eqEntS_it1 k a0 a1 [] j1 (laws_eqEntS_S1 a0 a1 v)) v := by
    intro j1 v; kernel_rfl
  have i1 : ∀ (j1 : Nat) (v : Int), laws_eqEntS_it1 k a0 a1 [] j1 (laws_eqEntS_S1 a0 a1 v) = fixN (laws_eqEntS_l1 k a0 a1) j1 v := by
    intro j1 v
    refine iter_fix (laws_eqEntS_S1 a0 a1) (laws_eqEntS_l1 k a0 a1) (fun j1 v => (e1 j1 v).trans ?_) j1 v
    unfold laws_eqEntS_l1
    rfl
  rw [e0]; unfold laws_eqEntS_u
  simp only [i1]
/- laws.eqArr -/
def laws_eqArr_u (k : Nat) (a0_0 : Int) (a0_1 : Int) (a0_2 : Int) (a0_3 : List (List T)) (a0_4 : Int) (a0_5 : Int) (a0_6 : Int) (a0_7 : Int) (a0_8 : Int) (a0_9 : List (List T)) (a0_10 : Int) (a0_11 : Bool) (a0_12 : Bool) (a1_0 : Int) (a1_1 : Int) (a1_2 : Int) (a1_3 : List (List T)) (a1_4 : Int) (a1_5 : Int) (a1_6 : Int) (a1_7 : Int) (a1_8 : Int) (a1_9 : List (List T)) (a1_10 : Int) (a1_11 : Bool) (a1_12 : Bool) : Option Outs :=
 bif (a0_0 != a1_0) then
  some ⟨[.b false], []⟩
 else
  bindO (evalF E P0 k N.laws_eqGeo [.v [.i a0_1, .i a0_2], .v [.i a1_1, .i a1_2]]) fun o2 =>
  bif (!(o2.t 0).asB) then
   some ⟨[.b false], []⟩
  else
   bindO (evalF E P0 k N.laws_eqMemS [.v [.r a0_3], .v [.r a1_3]]) fun o4 =>
   bif (!(o4.t 0).asB) then
    some ⟨[.b false], []⟩
   else
    bif (a0_4 != a1_4) then
     some ⟨[.b false], []⟩
    else
     bif (a0_5 != a1_5) then
      some ⟨[.b false], []⟩
     else
      bif (a0_6 != a1_6) then
       some ⟨[.b false], []⟩
      else
       bif (a0_7 != a1_7) then
        some ⟨[.b false], []⟩
       else
        bif (a0_8 != a1_8) then
         some ⟨[.b false], []⟩
        else
         bindO (evalF E P0 k N.laws_eqEntS [.v [.r a0_9], .v [.r a1_9]]) fun o6 =>
         bif (!(o6.t 0).asB) then
          some ⟨[.b false], []⟩
         else
          bif (a0_10 != a1_10) then
           some ⟨[.b false], []⟩
          else
           bif (!(a0_11 == a1_11)) then
            some ⟨[.b false], []⟩
           else
            bif (!(a0_12 == a1_12)) then some ⟨[.b false], []⟩ else some ⟨[.b true], []⟩
theorem laws_eqArr_e (k : Nat) (a0_0 : Int) (a0_1 : Int) (a0_2 : Int) (a0_3 : List (List T)) (a0_4 : Int) (a0_5 : Int) (a0_6 : Int) (a0_7 : Int) (a0_8 : Int) (a0_9 : List (List T)) (a0_10 : Int) (a0_11 : Bool) (a0_12 : Bool) (a1_0 : Int) (a1_1 : Int) (a1_2 : Int) (a1_3 : List (List T)) (a1_4 : Int) (a1_5 : Int) (a1_6 : Int) (a1_7 : Int) (a1_8 : Int) (a1_9 : List (List T)) (a1_10 : Int) (a1_11 : Bool) (a1_12 : Bool) : evalF E P0 (k + 1) N.laws_eqArr [.v [.i a0_0, .i a0_1, .i a0_2, .r a0_3, .i a0_4, .i a0_5, .i a0_6, .i a0_7, .i a0_8, .r a0_9, .i a0_10, .b a0_11, .b a0_12], .v [.i a1_0, .i a1_1, .i a1_2, .r a1_3, .i a1_4, .i a1_5, .i a1_6, .i a1_7, .i a1_8, .r a1_9, .i a1_10, .b a1_11, .b a1_12]] = laws_eqArr_u k a0_0 a0_1 a0_2 a0_3 a0_4 a0_5 a0_6 a0_7 a0_8 a0_9 a0_10 a0_11 a0_12 a1_0 a1_1 a1_2 a1_3 a1_4 a1_5 a1_6 a1_7 a1_8 a1_9 a1_10 a1_11 a1_12 := by kernel_rfl
/- laws.FnExactDisksText -/
def laws_FnExactDisksText_u (k : Nat) (a0_0 : Int) (a0_1 : Int) (a0_2 : Int) (a0_3 : List (List T)) (a0_4 : Int) (a0_5 : Int) (a0_6 : Int) (a0_7 : Int) (a0_8 : Int) (a0_9 : List (List T)) (a0_10 : Int) (a0_11 : Bool) (a0_12 : Bool) : Option Outs :=
 bindO (evalF E P0 k N.laws_szArr [.v [.i a0_0, .i a0_1, .i a0_2, .r a0_3, .i a0_4, .i a0_5, .i a0_6, .i a0_7, .i a0_8, .r a0_9, .i a0_10, .b a0_11, .b a0_12], .v [.i 1048576]]) fun o2 =>
 bif (decide ((o2.t 0).asI < 0)) then
  some ⟨[.b true], []⟩
 else
  bindO (evalF E P0 k N.laws_toArr [.v [.i a0_0, .i a0_1, .i a0_2, .r a0_3, .i a0_4, .i a0_5, .i a0_6, .i a0_7, .i a0_8, .r a0_9, .i a0_10, .b a0_11, .b a0_12]]) fun o5 =>
  bindO (evalF E P0 k N.spec_DisksText [.v [.i (o5.t 0).asI, .i (o5.t 1).asI, .i (o5.t 2).asI, .r (o5.t 3).asR, .i (o5.t 4).asI, .i (o5.t 5).asI, .i (o5.t 6).asI, .i (o5.t 7).asI, .i (o5.t 8).asI, .r (o5.t 9).asR, .i (o5.t 10).asI, .b (o5.t 11).asB, .b (o5.t 12).asB]]) fun o6 =>
  bindO (evalF E P0 k N.laws_toArr [.v [.i a0_0, .i a0_1, .i a0_2, .r a0_3, .i a0_4, .i a0_5, .i a0_6, .i a0_7, .i a0_8, .r a0_9, .i a0_10, .b a0_11, .b a0_12]]) fun o8 =>
  bindO (evalF E P0 k N.impl_DisksText [.v [.i (o8.t 0).asI, .i (o8.t 1).asI, .i (o8.t 2).asI, .r (o8.t 3).asR, .i (o8.t 4).asI, .i (o8.t 5).asI, .i (o8.t 6).asI, .i (o8.t 7).asI, .i (o8.t 8).asI, .r (o8.t 9).asR, .i (o8.t 10).asI, .b (o8.t 11).asB, .b (o8.t 12).asB]]) fun o10 =>
  bif (!((o10.t 0).asS.toList == (o6.t 0).asS.toList)) then
   some ⟨[.b false], []⟩
  else
   bindO (evalF E P0 k N.laws_toArr [.v [.i a0_0, .i a0_1, .i a0_2, .r a0_3, .i a0_4, .i a0_5, .i a0_6, .i a0_7, .i a0_8, .r a0_9, .i a0_10, .b a0_11, .b a0_12]]) fun o13 =>
   bindO (evalF E P0 k N.laws_eqArr [.v [.i (o8.t 0).asI, .i (o8.t 1).asI, .i (o8.t 2).asI, .r (o8.t 3).asR, .i (o8.t 4).asI, .i (o8.t 5).asI, .i (o8.t 6).asI, .i (o8.t 7).asI, .i (o8.t 8).asI, .r (o8.t 9).asR, .i (o8.t 10).asI, .b (o8.t 11).asB, .b (o8.t 12).asB], .v [.i (o13.t 0).asI, .i (o13.t 1).asI, .i (o13.t 2).asI, .r (o13.t 3).asR, .i (o13.t 4).asI, .i (o13.t 5).asI, .i (o13.t 6).asI, .i (o13.t 7).asI, .i (o13.t 8).asI, .r (o13.t 9).asR, .i (o13.t 10).asI, .b (o13.t 11).asB, .b (o13.t 12).asB]]) fun o14 =>
   bif (!(o14.t 0).asB) then some ⟨[.b false], []⟩ else some ⟨[.b true], []⟩
theorem laws_FnExactDisksText_e (k : Nat) (a0_0 : Int) (a0_1 : Int) (a0_2 : Int) (a0_3 : List (List T)) (a0_4 : Int) (a0_5 : Int) (a0_6 : Int) (a0_7 : Int) (a0_8 : Int) (a0_9 : List (List T)) (a0_10 : Int) (a0_11 : Bool) (a0_12 : Bool) : evalF E P0 (k + 1) N.laws_FnExactDisksText [.v [.i a0_0, .i a0_1, .i a0_2, .r a0_3, .i a0_4, .i a0_5, .i a0_6, .i a0_7, .i a0_8, .r a0_9, .i a0_10, .b a0_11, .b a0_12]] = laws_FnExactDisksText_u k a0_0 a0_1 a0_2 a0_3 a0_4 a0_5 a0_6 a0_7 a0_8 a0_9 a0_10 a0_11 a0_12 := by kernel_rfl
/- laws.szCmd -/
def laws_szCmd_u (k : Nat) (a0_0 : Int) (a0_1 : Int) (a0_2 : Int) (a0_3 : Int) (a0_4 : List (List T)) (a1 : Int) : Option Outs :=
 bindO (evalF E P0 k N.laws_szIntS [.v [.r a0_4], .v [.i a1]]) fun o2 =>
 bif (decide ((o2.t 0).asI < 0)) then some ⟨[.i (-1)], []⟩ else some ⟨[.i (o2.t 0).asI], []⟩
theorem laws_szCmd_e (k : Nat) (a0_0 : Int) (a0_1 : Int) (a0_2 : Int) (a0_3 : Int) (a0_4 : List (List T)) (a1 : Int) : evalF E P0 (k + 1) N.laws_szCmd [.v [.i a0_0, .i a0_1, .i a0_2, .i a0_3, .r a0_4], .v [.i a1]] = laws_szCmd_u k a0_0 a0_1 a0_2 a0_3 a0_4 a1 := by kernel_rfl
/- laws.szAns -/
def laws_szAns_u (k : Nat) (a0_0 : Int) (a0_1 : Int) (a0_2 : List (List T)) (a1 : Int) : Option Outs :=
 bindO (evalF E P0 k N.laws_szIntS [.v [.r a0_2], .v [.i a1]]) fun o2 =>
 bif (decide ((o2.t 0).asI < 0)) then some ⟨[.i (-1)], []⟩ else some ⟨[.i (o2.t 0).asI], []⟩
theorem laws_szAns_e (k : Nat) (a0_0 : Int) (a0_1 : Int) (a0_2 : List (List T)) (a1 : Int) : evalF E P0 (k + 1) N.laws_szAns [.v [.i a0_0, .i a0_1, .r a0_2], .v [.i a1]] = laws_szAns_u k a0_0 a0_1 a0_2 a1 := by kernel_rfl
/- laws.szTurn -/
def laws_szTurn_u (k : Nat) (a0_0 : Int) (a0_1 : Int) (a0_2 : Int) (a0_3 : Int) (a0_4 : List (List T)) (a0_5 : Int) (a0_6 : Int) (a0_7 : List (List T)) (a1 : Int) : Option Outs :=
 bindO (evalF E P0 k N.laws_szCmd [.v [.i a0_0, .i a0_1, .i a0_2, .i a0_3, .r a0_4], .v [.i a1]]) fun o2 =>
 bif (decide ((o2.t 0).asI < 0)) then
  some ⟨[.i (-1)], []⟩
 else
  bindO (evalF E P0 k N.laws_szAns [.v [.i a0_5, .i a0_6, .r a0_7], .v [.i (o2.t 0).asI]]) fun o4 =>
  bif (decide ((o4.t 0).asI < 0)) then some ⟨[.i (-1)], []⟩ else some ⟨[.i (o4.t 0).asI], []⟩
theorem laws_szTurn_e (k : Nat) (a0_0 : Int) (a0_1 : Int) (a0_2 : Int) (a0_3 : Int) (a0_4 : List (List T)) (a0_5 : Int) (a0_6 : Int) (a0_7 : List (List T)) (a1 : Int) : evalF E P0 (k + 1) N.laws_szTurn [.v [.i a0_0, .i a0_1, .i a0_2, .i a0_3, .r a0_4, .i a0_5, .i a0_6, .r a0_7], .v [.i a1]] = laws_szTurn_u k a0_0 a0_1 a0_2 a0_3 a0_4 a0_5 a0_6 a0_7 a1 := by kernel_rfl
/- laws.szTurnS -/
def laws_szTurnS_L1 (k : Nat) (a0 : List (List T)) (G1 : (Int × Int) → Option Outs) : (Int × Int) → Option Outs := fun (v15, v16) =>
 bif (decide (v16 < (a0.length : Int))) then
  chk (decide (0 ≤ v16) && decide (v16 < (a0.length : Int))) <|
  bindO (evalF E P0 k N.laws_szTurn [.v [.i (at_ a0 v16.toNat 0).asI, .i (at_ a0 v16.toNat 1).asI, .i (at_ a0 v16.toNat 2).asI, .i (at_ a0 v16.toNat 3).asI, .r (at_ a0 v16.toNat 4).asR, .i (at_ a0 v16.toNat 5).asI, .i (at_ a0 v16.toNat 6).asI, .r (at_ a0 v16.toNat 7).asR], .v [.i v15]]) fun o96 =>
  bif (decide ((o96.t 0).asI < 0)) then some ⟨[.i (-1)], []⟩ else G1 ((o96.t 0).asI, (IntKind.wrap .i64 (v16 + 1)))
 else
  some ⟨[.i v15], []⟩
def laws_szTurnS_k1 : List Nat := [0, 1, 4, 5, 26]
def laws_szTurnS_S1 (a0 : List (List T)) : (Int × Int) → St := fun (v15, v16) => ⟨ofSl [(0, .sl 79 a0), (1, .i .i64 v15), (4, .i .i64 0), (5, .i .i64 v16), (26, .skip)], ofMem []⟩
def laws_szTurnS_l1 (k : Nat) (a0 : List (List T)) (G1 : (Int × Int) → Option Outs) : (Int × Int) → Option Outs :=
  laws_szTurnS_L1 k a0 G1
def laws_szTurnS_U (k : Nat) (a0 : List (List T)) (a1 : Int) (R1 : (Int × Int) → Option Outs) : Option Outs :=
 bif (decide ((IntKind.wrap .i64 (a1 - (a0.length : Int))) < 0)) then
  some ⟨[.i (-1)], []⟩
 else
  R1 ((IntKind.wrap .i64 (a1 - (a0.length : Int))), 0)
def laws_szTurnS_u (k : Nat) (a0 : List (List T)) (a1 : Int) : Option Outs :=
  laws_szTurnS_U k a0 a1 (fun v => fixN (laws_szTurnS_l1 k a0) k v)
def laws_szTurnS_it1 (k : Nat) (a0 : List (List T)) (a1 : Int) (js : List Nat) (j : Nat) (s : St) : Option Outs := iter (LB E (evalF E P0 k) k [] N.laws_szTurnS [.sr, .sr, .sr, .sl, .sr, .bl]) [] laws_szTurnS_k1 (LK E (evalF E P0 k) k [] N.laws_szTurnS [.v [.r a0], .v [.i a1]] [.sr, .sr, .sr, .sl, .sr, .bl] js) j s
theorem laws_szTurnS_e (k : Nat) (a0 : List (List T)) (a1 : Int) : evalF E P0 (k + 1) N.laws_szTurnS [.v [.r a0], .v [.i a1]] = laws_szTurnS_u k a0 a1 := by
  have e0 : evalF E P0 (k + 1) N.laws_szTurnS [.v [.r a0], .v [.i a1]] = laws_szTurnS_U k a0 a1 (fun v => laws_szTurnS_it1 k a0 a1 [] k (laws_szTurnS_S1 a0 v)) := by kernel_rfl
  have e1 : ∀ (j1 : Nat) (v : Int × Int), laws_szTurnS_it1 k a0 a1 [] (j1 + 1) (laws_szTurnS_S1 a0 v) = laws_szTurnS_L1 k a0 (fun v => laws_szTurnS_it1 k a0 a1 [] j1 (laws_szTurnS_S1 a0 v)) v := by
    intro j1 v; kernel_rfl
  have i1 : ∀ (j1 : Nat) (v : Int × Int), laws_szTurnS_it1 k a0 a1 [] j1 (laws_szTurnS_S1 a0 v) = fixN (laws_szTurnS_l1 k a0) j1 v := by
    intro j1 v
    refine iter_fix (laws_szTurnS_S1 a0) (laws_szTurnS_l1 k a0) (fun j1 v => (e1 j1 v).trans ?_) j1 v
    unfold laws_szTurnS_l1
    rfl
  rw [e0]; unfold laws_szTurnS_u
  simp only [i1]
/- laws.toCmd -/
def laws_toCmd_u (k : Nat) (a0_0 : Int) (a0_1 : Int) (a0_2 : Int) (a0_3 : Int) (a0_4 : List (List T)) : Option Outs :=
 bindO (evalF E P0 k N.laws_toIntS [.v [.r a0_4]]) fun o2 =>
 some ⟨[.i a0_0, .i a0_1, .i a0_2, .i a0_3, .r (o2.t 0).asR], []⟩
theorem laws_toCmd_e (k : Nat) (a0_0 : Int) (a0_1 : Int) (a0_2 : Int) (a0_3 : Int) (a0_4 : List (List T)) : evalF E P0 (k + 1) N.laws_toCmd [.v [.i a0_0, .i a0_1, .i a0_2, .i a0_3, .r a0_4]] = laws_toCmd_u k a0_0 a0_1 a0_2 a0_3 a0_4 := by kernel_rfl
/- laws.toAns -/
def laws_toAns_u (k : Nat) (a0_0 : Int) (a0_1 : Int) (a0_2 : List (List T)) : Option Outs :=
 bindO (evalF E P0 k N.laws_toIntS [.v [.r a0_2]]) fun o2 =>
 some ⟨[.i a0_0, .i a0_1, .r (o2.t 0).asR], []⟩
theorem laws_toAns_e (k : Nat) (a0_0 : Int) (a0_1 : Int) (a0_2 : List (List T)) : evalF E P0 (k + 1) N.laws_toAns [.v [.i a0_0, .i a0_1, .r a0_2]] = laws_toAns_u k a0_0 a0_1 a0_2 := by kernel_rfl
/- laws.toTurn -/
def laws_toTurn_u (k : Nat) (a0_0 : Int) (a0_1 : Int) (a0_2 : Int) (a0_3 : Int) (a0_4 : List (List T)) (a0_5 : Int) (a0_6 : Int) (a0_7 : List (List T)) : Option Outs :=
 bindO (evalF E P0 k N.laws_toCmd [.v [.i a0_0, .i a0_1, .i a0_2, .i a0_3, .r a0_4]]) fun o2 =>
 bindO (evalF E P0 k N.laws_toAns [.v [.i a0_5, .i a0_6, .r a0_7]]) fun o4 =>
 some ⟨[.i (o2.t 0).asI, .i (o2.t 1).asI, .i (o2.t 2).asI, .i (o2.t 3).asI, .r (o2.t 4).asR, .i (o4.t 0).asI, .i (o4.t 1).asI, .r (o4.t 2).asR], []⟩
theorem laws_toTurn_e (k : Nat) (a0_0 : Int) (a0_1 : Int) (a0_2 : Int) (a0_3 : Int) (a0_4 : List (List T)) (a0_5 : Int) (a0_6 : Int) (a0_7 : List (List T)) : evalF E P0 (k + 1) N.laws_toTurn [.v [.i a0_0, .i a0_1, .i a0_2, .i a0_3, .r a0_4, .i a0_5, .i a0_6, .r a0_7]] = laws_toTurn_u k a0_0 a0_1 a0_2 a0_3 a0_4 a0_5 a0_6 a0_7 := by kernel_rfl
/- laws.toTurnS -/
def laws_toTurnS_L1 (k : Nat) (a0 : List (List T)) (G1 : (Int × List (List T)) → Option Outs) : (Int × List (List T)) → Option Outs := fun (v8, w8) =>
 bif (decide (v8 < (a0.length : Int))) then
  chk (decide (0 ≤ v8) && decide (v8 < (a0.length : Int))) <|
  bindO (evalF E P0 k N.laws_toTurn [.v [.i (at_ a0 v8.toNat 0).asI, .i (at_ a0 v8.toNat 1).asI, .i (at_ a0 v8.toNat 2).asI, .i (at_ a0 v8.toNat 3).asI, .r (at_ a0 v8.toNat 4).asR, .i (at_ a0 v8.toNat 5).asI, .i (at_ a0 v8.toNat 6).asI, .r (at_ a0 v8.toNat 7).asR]]) fun o48 =>
  chk (decide (0 ≤ v8) && decide (v8 < (w8.length : Int))) <|
  G1 ((IntKind.wrap .i64 (v8 + 1)), (put_ w8 v8.toNat 0 [.i (o48.t 0).asI, .i (o48.t 1).asI, .i (o48.t 2).asI, .i (o48.t 3).asI, .r (o48.t 4).asR, .i (o48.t 5).asI, .i (o48.t 6).asI, .r (o48.t 7).asR]))
 else
  some ⟨[.r w8], []⟩
def laws_toTurnS_k1 : List Nat := [0, 2, 3, 4, 22]
def laws_toTurnS_S1 (a0 : List (List T)) : (Int × List (List T)) → St := fun (v8, w8) => ⟨ofSl [(0, .sl 79 a0), (2, .ref (2, 0)), (3, .ref (3, 0)), (4, .i .i64 v8), (22, .skip)], ofMem [((2, 0), .row 84 true []), ((3, 0), .row 84 true w8)]⟩
def laws_toTurnS_l1 (k : Nat) (a0 : List (List T)) (G1 : (Int × List (List T)) → Option Outs) : (Int × List (List T)) → Option Outs :=
  laws_toTurnS_L1 k a0 G1
def laws_toTurnS_U (k : Nat) (a0 : List (List T)) (R1 : (Int × List (List T)) → Option Outs) : Option Outs :=
 chk (decide ((a0.length : Int) = (a0.length : Int)) && decide (0 ≤ (a0.length : Int)) && decide ((a0.length : Int) * ((96 : Nat) : Int) ≤ 140737488355328)) <|
 R1 (0, (List.replicate ((a0.length : Int) : Int).toNat [.i 0, .i 0, .i 0, .i 0, .r [], .i 0, .i 0, .r []]))
def laws_toTurnS_u (k : Nat) (a0 : List (List T)) : Option Outs :=
  laws_toTurnS_U k a0 (fun v => fixN (laws_toTurnS_l1 k a0) k v)
def laws_toTurnS_it1 (k : Nat) (a0 : List (List T)) (js : List Nat) (j : Nat) (s : St) : Option Outs := iter (LB E (evalF E P0 k) k [] N.laws_toTurnS [.sr, .sr, .sl, .sr, .bl]) [] laws_toTurnS_k1 (LK E (evalF E P0 k) k [] N.laws_toTurnS [.v [.r a0]] [.sr, .sr, .sl, .sr, .bl] js) j s
theorem laws_toTurnS_e (k : Nat) (a0 : List (List T)) : evalF E P0 (k + 1) N.laws_toTurnS [.v [.r a0]] = laws_toTurnS_u k a0 := by
  have e0 : evalF E P0 (k + 1) N.laws_toTurnS [.v [.r a0]] = laws_toTurnS_U k a0 (fun v => laws_toTurnS_it1 k a0 [] k (laws_toTurnS_S1 a0 v)) := by kernel_rfl
  have e1 : ∀ (j1 : Nat) (v : Int × List (List T)), laws_toTurnS_it1 k a0 [] (j1 + 1) (laws_toTurnS_S1 a0 v) = laws_toTurnS_L1 k a0 (fun v => laws_toTurnS_it1 k a0 [] j1 (laws_toTurnS_S1 a0 v)) v := by
    intro j1 v; kernel_rfl
  have i1 : ∀ (j1 : Nat) (v : Int × List (List T)), laws_toTurnS_it1 k a0 [] j1 (laws_toTurnS_S1 a0 v) = fixN (laws_toTurnS_l1 k a0) j1 v := by
    intro j1 v
    refine iter_fix (laws_toTurnS_S1 a0) (laws_toTurnS_l1 k a0) (fun j1 v => (e1 j1 v).trans ?_) j1 v
    unfold laws_toTurnS_l1
    rfl
  rw [e0]; unfold laws_toTurnS_u
  simp only [i1]
/- spec.l15Ans -/
def spec_l15Ans_u (k : Nat) (a0_0 : Int) (a0_1 : Int) (a0_2 : List (List T)) : Option Outs :=
 chk (decide ((([] : List (List T)).length + a0_2.length) * 8 ≤ 140737488355328)) <|
 some ⟨[.i a0_0, .i a0_1, .r (([] : List (List T)) ++ a0_2)], []⟩
theorem spec_l15Ans_e (k : Nat) (a0_0 : Int) (a0_1 : Int) (a0_2 : List (List T)) : evalF E P0 (k + 1) N.spec_l15Ans [.v [.i a0_0, .i a0_1, .r a0_2]] = spec_l15Ans_u k a0_0 a0_1 a0_2 := by kernel_rfl
/- spec.AnsOf -/
def spec_AnsOf_L1 (k : Nat) (a0 : List (List T)) (G1 : (Int × List (List T)) → Option Outs) : (Int × List (List T)) → Option Outs := fun (v8, w8) =>
 bif (decide (v8 < (a0.length : Int))) then
  chk (decide (0 ≤ v8) && decide (v8 < (a0.length : Int))) <|
  bindO (evalF E P0 k N.spec_l15Ans [.v [.i (at_ a0 v8.toNat 5).asI, .i (at_ a0 v8.toNat 6).asI, .r (at_ a0 v8.toNat 7).asR]]) fun o48 =>
  chk (decide ((w8.length + ([[.i (o48.t 0).asI, .i (o48.t 1).asI, .r (o48.t 2).asR]] : List (List T)).length) * 40 ≤ 140737488355328)) <|
  G1 ((IntKind.wrap .i64 (v8 + 1)), (w8 ++ [[.i (o48.t 0).asI, .i (o48.t 1).asI, .r (o48.t 2).asR]]))
 else
  some ⟨[.r w8], []⟩
def spec_AnsOf_k1 : List Nat := [0, 2, 3, 4, 21]
def spec_AnsOf_S1 (a0 : List (List T)) : (Int × List (List T)) → St := fun (v8, w8) => ⟨ofSl [(0, .sl 84 a0), (2, .ref (2, 0)), (3, .ref (3, 0)), (4, .i .i64 v8), (21, .skip)], ofMem [((2, 0), .row 80 true []), ((3, 0), .row 80 true w8)]⟩
def spec_AnsOf_l1 (k : Nat) (a0 : List (List T)) (G1 : (Int × List (List T)) → Option Outs) : (Int × List (List T)) → Option Outs :=
  spec_AnsOf_L1 k a0 G1
def spec_AnsOf_U (k : Nat) (a0 : List (List T)) (R1 : (Int × List (List T)) → Option Outs) : Option Outs :=
 R1 (0, [])
def spec_AnsOf_u (k : Nat) (a0 : List (List T)) : Option Outs :=
  spec_AnsOf_U k a0 (fun v => fixN (spec_AnsOf_l1 k a0) k v)
def spec_AnsOf_it1 (k : Nat) (a0 : List (List T)) (js : List Nat) (j : Nat) (s : St) : Option Outs := iter (LB E (evalF E P0 k) k [] N.spec_AnsOf [.sr, .sr, .sl, .sr, .bl]) [] spec_AnsOf_k1 (LK E (evalF E P0 k) k [] N.spec_AnsOf [.v [.r a0]] [.sr, .sr, .sl, .sr, .bl] js) j s
theorem spec_AnsOf_e (k : Nat) (a0 : List (List T)) : evalF E P0 (k + 1) N.spec_AnsOf [.v [.r a0]] = spec_AnsOf_u k a0 := by
  have e0 : evalF E P0 (k + 1) N.spec_AnsOf [.v [.r a0]] = spec_AnsOf_U k a0 (fun v => spec_AnsOf_it1 k a0 [] k (spec_AnsOf_S1 a0 v)) := by kernel_rfl
  have e1 : ∀ (j1 : Nat) (v : Int × List (List T)), spec_AnsOf_it1 k a0 [] (j1 + 1) (spec_AnsOf_S1 a0 v) = spec_AnsOf_L1 k a0 (fun v => spec_AnsOf_it1 k a0 [] j1 (spec_AnsOf_S1 a0 v)) v := by
    intro j1 v; kernel_rfl
  have i1 : ∀ (j1 : Nat) (v : Int × List (List T)), spec_AnsOf_it1 k a0 [] j1 (spec_AnsOf_S1 a0 v) = fixN (spec_AnsOf_l1 k a0) j1 v := by
    intro j1 v
    refine iter_fix (spec_AnsOf_S1 a0) (spec_AnsOf_l1 k a0) (fun j1 v => (e1 j1 v).trans ?_) j1 v
    unfold spec_AnsOf_l1
    rfl
  rw [e0]; unfold spec_AnsOf_u
  simp only [i1]
/- impl.copyInts -/
def impl_copyInts_u (k : Nat) (a0 : List (List T)) : Option Outs :=
 chk (decide ((([] : List (List T)).length + a0.length) * 8 ≤ 140737488355328)) <|
 some ⟨[.r (([] : List (List T)) ++ a0)], []⟩
theorem impl_copyInts_e (k : Nat) (a0 : List (List T)) : evalF E P0 (k + 1) N.impl_copyInts [.v [.r a0]] = impl_copyInts_u k a0 := by kernel_rfl
/- impl.copyAns -/
def impl_copyAns_u (k : Nat) (a0_0 : Int) (a0_1 : Int) (a0_2 : List (List T)) : Option Outs :=
 bindO (evalF E P0 k N.impl_copyInts [.v [.r a0_2]]) fun o2 =>
 some ⟨[.i a0_0, .i a0_1, .r (o2.t 0).asR], []⟩
theorem impl_copyAns_e (k : Nat) (a0_0 : Int) (a0_1 : Int) (a0_2 : List (List T)) : evalF E P0 (k + 1) N.impl_copyAns [.v [.i a0_0, .i a0_1, .r a0_2]] = impl_copyAns_u k a0_0 a0_1 a0_2 := by kernel_rfl
/- impl.AnsOf -/
def impl_AnsOf_L1 (k : Nat) (a0 : List (List T)) (G1 : (Int × List (List T)) → Option Outs) : (Int × List (List T)) → Option Outs := fun (v8, w8) =>
 bif (decide (v8 < (a0.length : Int))) then
  chk (decide (0 ≤ v8) && decide (v8 < (a0.length : Int))) <|
  bindO (evalF E P0 k N.impl_copyAns [.v [.i (at_ a0 v8.toNat 5).asI, .i (at_ a0 v8.toNat 6).asI, .r (at_ a0 v8.toNat 7).asR]]) fun o48 =>
  chk (decide ((w8.length + ([[.i (o48.t 0).asI, .i (o48.t 1).asI, .r (o48.t 2).asR]] : List (List T)).length) * 40 ≤ 140737488355328)) <|
  G1 ((IntKind.wrap .i64 (v8 + 1)), (w8 ++ [[.i (o48.t 0).asI, .i (o48.t 1).asI, .r (o48.t 2).asR]]))
 else
  some ⟨[.r w8], []⟩
def impl_AnsOf_k1 : List Nat := [2, 3, 7, 8, 9, 20]
def impl_AnsOf_S1 (a0 : List (List T)) : (Int × List (List T)) → St := fun (v8, w8) => ⟨ofSl [(2, .ref (2, 0)), (3, .ref (3, 0)), (7, .sl 84 a0), (8, .i .i64 (a0.length : Int)), (9, .i .i64 v8), (20, .skip)], ofMem [((2, 0), .row 80 true []), ((3, 0), .row 80 true w8)]⟩
def impl_AnsOf_l1 (k : Nat) (a0 : List (List T)) (G1 : (Int × List (List T)) → Option Outs) : (Int × List (List T)) → Option Outs :=
  impl_AnsOf_L1 k a0 G1
def impl_AnsOf_U (k : Nat) (a0 : List (List T)) (R1 : (Int × List (List T)) → Option Outs) : Option Outs :=
 R1 (0, [])
def impl_AnsOf_u (k : Nat) (a0 : List (List T)) : Option Outs :=
  impl_AnsOf_U k a0 (fun v => fixN (impl_AnsOf_l1 k a0) k v)
def impl_AnsOf_it1 (k : Nat) (a0 : List (List T)) (js : List Nat) (j : Nat) (s : St) : Option Outs := iter (LB E (evalF E P0 k) k [] N.impl_AnsOf [.sr, .sr, .sl, .sr, .bl]) [] impl_AnsOf_k1 (LK E (evalF E P0 k) k [] N.impl_AnsOf [.v [.r a0]] [.sr, .sr, .sl, .sr, .bl] js) j s
theorem impl_AnsOf_e (k : Nat) (a0 : List (List T)) : evalF E P0 (k + 1) N.impl_AnsOf [.v [.r a0]] = impl_AnsOf_u k a0 := by
  have e0 : evalF E P0 (k + 1) N.impl_AnsOf [.v [.r a0]] = impl_AnsOf_U k a0 (fun v => impl_AnsOf_it1 k a0 [] k (impl_AnsOf_S1 a0 v)) := by kernel_rfl
  have e1 : ∀ (j1 : Nat) (v : Int × List (List T)), impl_AnsOf_it1 k a0 [] (j1 + 1) (impl_AnsOf_S1 a0 v) = impl_AnsOf_L1 k a0 (fun v => impl_AnsOf_it1 k a0 [] j1 (impl_AnsOf_S1 a0 v)) v := by
    intro j1 v; kernel_rfl
  have i1 : ∀ (j1 : Nat) (v : Int × List (List T)), impl_AnsOf_it1 k a0 [] j1 (impl_AnsOf_S1 a0 v) = fixN (impl_AnsOf_l1 k a0) j1 v := by
    intro j1 v
    refine iter_fix (impl_AnsOf_S1 a0) (impl_AnsOf_l1 k a0) (fun j1 v => (e1 j1 v).trans ?_) j1 v
    unfold impl_AnsOf_l1
    rfl
  rw [e0]; unfold impl_AnsOf_u
  simp only [i1]
/- laws.eqAns -/
def laws_eqAns_u (k : Nat) (a0_0 : Int) (a0_1 : Int) (a0_2 : List (List T)) (a1_0 : Int) (a1_1 : Int) (a1_2 : List (List T)) : Option Outs :=
 bif (a0_0 != a1_0) then
  some ⟨[.b false], []⟩
 else
  bif (a0_1 != a1_1) then
   some ⟨[.b false], []⟩
  else
   bindO (evalF E P0 k N.laws_eqIntS [.v [.r a0_2], .v [.r a1_2]]) fun o2 =>
   bif (!(o2.t 0).asB) then some ⟨[.b false], []⟩ else some ⟨[.b true], []⟩
theorem laws_eqAns_e (k : Nat) (a0_0 : Int) (a0_1 : Int) (a0_2 : List (List T)) (a1_0 : Int) (a1_1 : Int) (a1_2 : List (List T)) : evalF E P0 (k + 1) N.laws_eqAns [.v [.i a0_0, .i a0_1, .r a0_2], .v [.i a1_0, .i a1_1, .r a1_2]] = laws_eqAns_u k a0_0 a0_1 a0_2 a1_0 a1_1 a1_2 := by kernel_rfl
/- laws.eqAnsS -/
def laws_eqAnsS_L1 (k : Nat) (a0 : List (List T)) (a1 : List (List T)) (G1 : (Int) → Option Outs) : (Int) → Option Outs := fun v8 =>
 bif (decide (v8 < (a0.length : Int))) then
  chk (decide (0 ≤ v8) && decide (v8 < (a0.length : Int))) <|
  chk (decide (0 ≤ v8) && decide (v8 < (a1.length : Int))) <|
  bindO (evalF E P0 k N.laws_eqAns [.v [.i (at_ a0 v8.toNat 0).asI, .i (at_ a0 v8.toNat 1).asI, .r (at_ a0 v8.toNat 2).asR], .v [.i (at_ a1 v8.toNat 0).asI, .i (at_ a1 v8.toNat 1).asI, .r (at_ a1 v8.toNat 2).asR]]) fun o96 =>
  bif (!(o96.t 0).asB) then some ⟨[.b false], []⟩ else G1 (IntKind.wrap .i64 (v8 + 1))
 else
  some ⟨[.b true], []⟩
def laws_eqAnsS_k1 : List Nat := [0, 1, 4, 5]
def laws_eqAnsS_S1 (a0 : List (List T)) (a1 : List (List T)) : (Int) → St := fun v8 => ⟨ofSl [(0, .sl 80 a0), (1, .sl 80 a1), (4, .b false), (5, .i .i64 v8)], ofMem []⟩
def laws_eqAnsS_l1 (k : Nat) (a0 : List (List T)) (a1 : List (List T)) (G1 : (Int) → Option Outs) : (Int) → Option Outs :=
  laws_eqAnsS_L1 k a0 a1 G1
def laws_eqAnsS_U (k : Nat) (a0 : List (List T)) (a1 : List (List T)) (R1 : (Int) → Option Outs) : Option Outs :=
 bif ((a0.length : Int) != (a1.length : Int)) then some ⟨[.b false], []⟩ else R1 0
def laws_eqAnsS_u (k : Nat) (a0 : List (List T)) (a1 : List (List T)) : Option Outs :=
  laws_eqAnsS_U k a0 a1 (fun v => fixN (laws_eqAnsS_l1 k a0 a1) k v)
def laws_eqAnsS_it1 (k : Nat) (a0 : List (List T)) (a1 : List (List T)) (js : List Nat) (j : Nat) (s : St) : Option Outs := iter (LB E (evalF E P0 k) k [] N.laws_eqAnsS [.sr, .sr, .sl, .sr, .bl]) [] laws_eqAnsS_k1 (LK E (evalF E P0 k) k [] N.laws_eqAnsS [.v [.r a0], .v [.r a1]] [.sr, .sr, .sl, .sr, .bl] js) j s
theorem laws_eqAnsS_e (k : Nat) (a0 : List (List T)) (a1 : List (List T)) : evalF E P0 (k + 1) N.laws_eqAnsS [.v [.r a0], .v [.r a1]] = laws_eqAnsS_u k a0 a1 := by
  have e0 : evalF E P0 (k + 1) N.laws_eqAnsS [.v [.r a0], .v [.r a1]] = laws_eqAnsS_U k a0 a1 (fun v => laws_eqAnsS_it1 k a0 a1 [] k (laws_eqAnsS_S1 a0 a1 v)) := by kernel_rfl
  have e1 : ∀ (j1 : Nat) (v : Int), laws_eqAnsS_it1 k a0 a1 [] (j1 + 1) (laws_eqAnsS_S1 a0 a1 v) = laws_eqAnsS_L1 k a0 a1 (fun v => laws_eqAnsS_it1 k a0 a1 [] j1 (laws_eqAnsS_S1 a0 a1 v)) v := by
    intro j1 v; kernel_rfl
  have i1 : ∀ (j1 : Nat) (v : Int), laws_eqAnsS_it1 k a0 a1 [] j1 (laws_eqAnsS_S1 a0 a1 v) = fixN (laws_eqAnsS_l1 k a0 a1) j1 v := by
    intro j1 v
    refine iter_fix (laws_eqAnsS_S1 a0 a1) (laws_eqAnsS_l1 k a0 a1) (fun j1 v => (e1 j1 v).trans ?_) j1 v
    unfold laws_eqAnsS_l1
    rfl
  rw [e0]; unfold laws_eqAnsS_u
  simp only [i1]
/- laws.eqCmd -/
def laws_eqCmd_u (k : Nat) (a0_0 : Int) (a0_1 : Int) (a0_2 : Int) (a0_3 : Int) (a0_4 : List (List T)) (a1_0 : Int) (a1_1 : Int) (a1_2 : Int) (a1_3 : Int) (a1_4 : List (List T)) : Option Outs :=
 bif (a0_0 != a1_0) then
  some ⟨[.b false], []⟩
 else
  bif (a0_1 != a1_1) then
   some ⟨[.b false], []⟩
  else
   bif (a0_2 != a1_2) then
    some ⟨[.b false], []⟩
   else
    bif (a0_3 != a1_3) then
     some ⟨[.b false], []⟩
    else
     bindO (evalF E P0 k N.laws_eqIntS [.v [.r a0_4], .v [.r a1_4]]) fun o2 =>
     bif (!(o2.t 0).asB) then some ⟨[.b false], []⟩ else some ⟨[.b true], []⟩
theorem laws_eqCmd_e (k : Nat) (a0_0 : Int) (a0_1 : Int) (a0_2 : Int) (a0_3 : Int) (a0_4 : List (List T)) (a1_0 : Int) (a1_1 : Int) (a1_2 : Int) (a1_3 : Int) (a1_4 : List (List T)) : evalF E P0 (k + 1) N.laws_eqCmd [.v [.i a0_0, .i a0_1, .i a0_2, .i a0_3, .r a0_4], .v [.i a1_0, .i a1_1, .i a1_2, .i a1_3, .r a1_4]] = laws_eqCmd_u k a0_0 a0_1 a0_2 a0_3 a0_4 a1_0 a1_1 a1_2 a1_3 a1_4 := by kernel_rfl
/- laws.eqTurn -/
def laws_eqTurn_u (k : Nat) (a0_0 : Int) (a0_1 : Int) (a0_2 : Int) (a0_3 : Int) (a0_4 : List (List T)) (a0_5 : Int) (a0_6 : Int) (a0_7 : List (List T)) (a1_0 : Int) (a1_1 : Int) (a1_2 : Int) (a1_3 : Int) (a1_4 : List (List T)) (a1_5 : Int) (a1_6 : Int) (a1_7 : List (List T)) : Option Outs :=
 bindO (evalF E P0 k N.laws_eqCmd [.v [.i a0_0, .i a0_1, .i a0_2, .i a0_3, .r a0_4], .v [.i a1_0, .i a1_1, .i a1_2, .i a1_3, .r a1_4]]) fun o2 =>
 bif (!(o2.t 0).asB) then
  some ⟨[.b false], []⟩
 else
  bindO (evalF E P0 k N.laws_eqAns [.v [.i a0_5, .i a0_6, .r a0_7], .v [.i a1_5, .i a1_6, .r a1_7]]) fun o4 =>
  bif (!(o4.t 0).asB) then some ⟨[.b false], []⟩ else some ⟨[.b true], []⟩
theorem laws_eqTurn_e (k : Nat) (a0_0 : Int) (a0_1 : Int) (a0_2 : Int) (a0_3 : Int) (a0_4 : List (List T)) (a0_5 : Int) (a0_6 : Int) (a0_7 : List (List T)) (a1_0 : Int) (a1_1 : Int) (a1_2 : Int) (a1_3 : Int) (a1_4 : List (List T)) (a1_5 : Int) (a1_6 : Int) (a1_7 : List (List T)) : evalF E P0 (k + 1) N.laws_eqTurn [.v [.i a0_0, .i a0_1, .i a0_2, .i a0_3, .r a0_4, .i a0_5, .i a0_6, .r a0_7], .v [.i a1_0, .i a1_1, .i a1_2, .i a1_3, .r a1_4, .i a1_5, .i a1_6, .r a1_7]] = laws_eqTurn_u k a0_0 a0_1 a0_2 a0_3 a0_4 a0_5 a0_6 a0_7 a1_0 a1_1 a1_2 a1_3 a1_4 a1_5 a1_6 a1_7 := by kernel_rfl
/- laws.eqTurnS -/
def laws_eqTurnS_L1 (k : Nat) (a0 : List (List T)) (a1 : List (List T)) (G1 : (Int) → Option Outs) : (Int) → Option Outs := fun v8 =>
 bif (decide (v8 < (a0.length : Int))) then
  chk (decide (0 ≤ v8) && decide (v8 < (a0.length : Int))) <|
  chk (decide (0 ≤ v8) && decide (v8 < (a1.length : Int))) <|
  bindO (evalF E P0 k N.laws_eqTurn [.v [.i (at_ a0 v8.toNat 0).asI, .i (at_ a0 v8.toNat 1).asI, .i (at_ a0 v8.toNat 2).asI, .i (at_ a0 v8.toNat 3).asI, .r (at_ a0 v8.toNat 4).asR, .i (at_ a0 v8.toNat 5).asI, .i (at_ a0 v8.toNat 6).asI, .r (at_ a0 v8.toNat 7).asR], .v [.i (at_ a1 v8.toNat 0).asI, .i (at_ a1 v8.toNat 1).asI, .i (at_ a1 v8.toNat 2).asI, .i (at_ a1 v8.toNat 3).asI, .r (at_ a1 v8.toNat 4).asR, .i (at_ a1 v8.toNat 5).asI, .i (at_ a1 v8.toNat 6).asI, .r (at_ a1 v8.toNat 7).asR]]) fun o96 =>
  bif (!(o96.t 0).asB) then some ⟨[.b false], []⟩ else G1 (IntKind.wrap .i64 (v8 + 1))
 else
  some ⟨[.b true], []⟩
def laws_eqTurnS_k1 : List Nat := [0, 1, 4, 5]
def laws_eqTurnS_S1 (a0 : List (List T)) (a1 : List (List T)) : (Int) → St := fun v8 => ⟨ofSl [(0, .sl 84 a0), (1, .sl 84 a1), (4, .b false), (5, .i .i64 v8)], ofMem []⟩
def laws_eqTurnS_l1 (k : Nat) (a0 : List (List T)) (a1 : List (List T)) (G1 : (Int) → Option Outs) : (Int) → Option Outs :=
  laws_eqTurnS_L1 k a0 a1 G1
def laws_eqTurnS_U (k : Nat) (a0 : List (List T)) (a1 : List (List T)) (R1 : (Int) → Option Outs) : Option Outs :=
 bif ((a0.length : Int) != (a1.length : Int)) then some ⟨[.b false], []⟩ else R1 0
def laws_eqTurnS_u (k : Nat) (a0 : List (List T)) (a1 : List (List T)) : Option Outs :=
  laws_eqTurnS_U k a0 a1 (fun v => fixN (laws_eqTurnS_l1 k a0 a1) k v)
def laws_eqTurnS_it1 (k : Nat) (a0 : List (List T)) (a1 : List (List T)) (js : List Nat) (j : Nat) (s : St) : Option Outs := iter (LB E (evalF E P0 k) k [] N.laws_eqTurnS [.sr, .sr, .sl, .sr, .bl]) [] laws_eqTurnS_k1 (LK E (evalF E P0 k) k [] N.laws_eqTurnS [.v [.r a0], .v [.r a1]] [.sr, .sr, .sl, .sr, .bl] js) j s
theorem laws_eqTurnS_e (k : Nat) (a0 : List (List T)) (a1 : List (List T)) : evalF E P0 (k + 1) N.laws_eqTurnS [.v [.r a0], .v [.r a1]] = laws_eqTurnS_u k a0 a1 := by
  have e0 : evalF E P0 (k + 1) N.laws_eqTurnS [.v [.r a0], .v [.r a1]] = laws_eqTurnS_U k a0 a1 (fun v => laws_eqTurnS_it1 k a0 a1 [] k (laws_eqTurnS_S1 a0 a1 v)) := by kernel_rfl
  have e1 : ∀ (j1 : Nat) (v : Int), laws_eqTurnS_it1 k a0 a1 [] (j1 + 1) (laws_eqTurnS_S1 a0 a1 v) = laws_eqTurnS_L1 k a0 a1 (fun v => laws_eqTurnS_it1 k a0 a1 [] j1 (laws_eqTurnS_S1 a0 a1 v)) v := by
    intro j1 v; kernel_rfl
  have i1 : ∀ (j1 : Nat) (v : Int), laws_eqTurnS_it1 k a0 a1 [] j1 (laws_eqTurnS_S1 a0 a1 v) = fixN (laws_eqTurnS_l1 k a0 a1) j1 v := by
    intro j1 v
    refine iter_fix (laws_eqTurnS_S1 a0 a1) (laws_eqTurnS_l1 k a0 a1) (fun j1 v => (e1 j1 v).trans ?_) j1 v
    unfold laws_eqTurnS_l1
    rfl
  rw [e0]; unfold laws_eqTurnS_u
  simp only [i1]
/- laws.markIntS -/
def laws_markIntS_L1 (k : Nat) (G1 : (Int × Int × List (List T)) → Option Outs) : (Int × Int × List (List T)) → Option Outs := fun (v15, v16, w8) =>
 bif (decide (v16 < (w8.length : Int))) then
  chk (decide (0 ≤ v16) && decide (v16 < (w8.length : Int))) <|
  G1 ((IntKind.wrap .i64 (v15 + 1)), (IntKind.wrap .i64 (v16 + 1)), (put_ w8 v16.toNat 0 [.i v15]))
 else
  some ⟨[.i v15], [[.r w8]]⟩
def laws_markIntS_k1 : List Nat := [0, 1, 4, 5, 18]
def laws_markIntS_S1 : (Int × Int × List (List T)) → St := fun (v15, v16, w8) => ⟨ofSl [(0, .ref (0, 0)), (1, .i .i64 v15), (4, .i .i64 0), (5, .i .i64 v16), (18, .skip)], ofMem [((0, 0), .row 3 true w8)]⟩
def laws_markIntS_l1 (k : Nat) (G1 : (Int × Int × List (List T)) → Option Outs) : (Int × Int × List (List T)) → Option Outs :=
  laws_markIntS_L1 k G1
def laws_markIntS_U (k : Nat) (a0 : List (List T)) (a1 : Int) (R1 : (Int × Int × List (List T)) → Option Outs) : Option Outs :=
 R1 (a1, 0, a0)
def laws_markIntS_u (k : Nat) (a0 : List (List T)) (a1 : Int) : Option Outs :=
  laws_markIntS_U k a0 a1 (fun v => fixN (laws_markIntS_l1 k) k v)
def laws_markIntS_it1 (k : Nat) (a0 : List (List T)) (a1 : Int) (js : List Nat) (j : Nat) (s : St) : Option Outs := iter (LB E (evalF E P0 k) k [0] N.laws_markIntS [.sr, .sl, .sr, .bl]) [0] laws_markIntS_k1 (LK E (evalF E P0 k) k [0] N.laws_markIntS [.r a0, .v [.i a1]] [.sr, .sl, .sr, .bl] js) j s
theorem laws_markIntS_e (k : Nat) (a0 : List (List T)) (a1 : Int) : evalF E P0 (k + 1) N.laws_markIntS [.r a0, .v [.i a1]] = laws_markIntS_u k a0 a1 := by
  have e0 : evalF E P0 (k + 1) N.laws_markIntS [.r a0, .v [.i a1]] = laws_markIntS_U k a0 a1 (fun v => laws_markIntS_it1 k a0 a1 [] k (laws_markIntS_S1 v)) := by kernel_rfl
  have e1 : ∀ (j1 : Nat) (v : Int × Int × List (List T)), laws_markIntS_it1 k a0 a1 [] (j1 + 1) (laws_markIntS_S1 v) = laws_markIntS_L1 k (fun v => laws_markIntS_it1 k a0 a1 [] j1 (laws_markIntS_S1 v)) v := by
    intro j1 v; kernel_rfl
  have i1 : ∀ (j1 : Nat) (v : Int × Int × List (List T)), laws_markIntS_it1 k a0 a1 [] j1 (laws_markIntS_S1 v) = fixN (laws_markIntS_l1 k) j1 v := by
    intro j1 v
    refine iter_fix (laws_markIntS_S1) (laws_markIntS_l1 k) (fun j1 v => (e1 j1 v).trans ?_) j1 v
    unfold laws_markIntS_l1
    rfl
  rw [e0]; unfold laws_markIntS_u
  simp only [i1]
/- laws.heldIntS -/
def laws_heldIntS_L1 (k : Nat) (a0 : List (List T)) (G1 : (Int × Int) → Option Outs) : (Int × Int) → Option Outs := fun (v15, v16) =>
 bif (decide (v16 < (a0.length : Int))) then
  chk (decide (0 ≤ v16) && decide (v16 < (a0.length : Int))) <|
  bif ((at_ a0 v16.toNat 0).asI != v15) then
   some ⟨[.i (-1)], []⟩
  else
   G1 ((IntKind.wrap .i64 (v15 + 1)), (IntKind.wrap .i64 (v16 + 1)))
 else
  some ⟨[.i v15], []⟩
def laws_heldIntS_k1 : List Nat := [0, 1, 4, 5, 20]
def laws_heldIntS_S1 (a0 : List (List T)) : (Int × Int) → St := fun (v15, v16) => ⟨ofSl [(0, .sl 3 a0), (1, .i .i64 v15), (4, .i .i64 0), (5, .i .i64 v16), (20, .skip)], ofMem []⟩
def laws_heldIntS_l1 (k : Nat) (a0 : List (List T)) (G1 : (Int × Int) → Option Outs) : (Int × Int) → Option Outs :=
  laws_heldIntS_L1 k a0 G1
def laws_heldIntS_U (k : Nat) (a0 : List (List T)) (a1 : Int) (R1 : (Int × Int) → Option Outs) : Option Outs :=
 R1 (a1, 0)
def laws_heldIntS_u (k : Nat) (a0 : List (List T)) (a1 : Int) : Option Outs :=
  laws_heldIntS_U k a0 a1 (fun v => fixN (laws_heldIntS_l1 k a0) k v)
def laws_heldIntS_it1 (k : Nat) (a0 : List (List T)) (a1 : Int) (js : List Nat) (j : Nat) (s : St) : Option Outs := iter (LB E (evalF E P0 k) k [] N.laws_heldIntS [.sr, .sl, .sr, .bl]) [] laws_heldIntS_k1 (LK E (evalF E P0 k) k [] N.laws_heldIntS [.v [.r a0], .v [.i a1]] [.sr, .sl, .sr, .bl] js) j s
theorem laws_heldIntS_e (k : Nat) (a0 : List (List T)) (a1 : Int) : evalF E P0 (k + 1) N.laws_heldIntS [.v [.r a0], .v [.i a1]] = laws_heldIntS_u k a0 a1 := by
  have e0 : evalF E P0 (k + 1) N.laws_heldIntS [.v [.r a0], .v [.i a1]] = laws_heldIntS_U k a0 a1 (fun v => laws_heldIntS_it1 k a0 a1 [] k (laws_heldIntS_S1 a0 v)) := by kernel_rfl
  have e1 : ∀ (j1 : Nat) (v : Int × Int), laws_heldIntS_it1 k a0 a1 [] (j1 + 1) (laws_heldIntS_S1 a0 v) = laws_heldIntS_L1 k a0 (fun v => laws_heldIntS_it1 k a0 a1 [] j1 (laws_heldIntS_S1 a0 v)) v := by
    intro j1 v; kernel_rfl
  have i1 : ∀ (j1 : Nat) (v : Int × Int), laws_heldIntS_it1 k a0 a1 [] j1 (laws_heldIntS_S1 a0 v) = fixN (laws_heldIntS_l1 k a0) j1 v := by
    intro j1 v
    refine iter_fix (laws_heldIntS_S1 a0) (laws_heldIntS_l1 k a0) (fun j1 v => (e1 j1 v).trans ?_) j1 v
    unfold laws_heldIntS_l1
    rfl
  rw [e0]; unfold laws_heldIntS_u
  simp only [i1]
/- laws.heldAnsS -/
def laws_heldAnsS_L1 (k : Nat) (a0 : List (List T)) (G1 : (Int × Int) → Option Outs) : (Int × Int) → Option Outs := fun (v15, v16) =>
 bif (decide (v16 < (a0.length : Int))) then
  chk (decide (0 ≤ v16) && decide (v16 < (a0.length : Int))) <|
  bif ((at_ a0 v16.toNat 0).asI != v15) then
   some ⟨[.i (-1)], []⟩
  else
   chk (decide (0 ≤ v16) && decide (v16 < (a0.length : Int))) <|
   bif ((at_ a0 v16.toNat 1).asI != (IntKind.wrap .i64 (v15 + 1))) then
    some ⟨[.i (-1)], []⟩
   else
    chk (decide (0 ≤ v16) && decide (v16 < (a0.length : Int))) <|
    bindO (evalF E P0 k N.laws_heldIntS [.v [.r (at_ a0 v16.toNat 2).asR], .v [.i (IntKind.wrap .i64 ((IntKind.wrap .i64 (v15 + 1)) + 1))]]) fun o96 =>
    bif (decide ((o96.t 0).asI < 0)) then some ⟨[.i (-1)], []⟩ else G1 ((o96.t 0).asI, (IntKind.wrap .i64 (v16 + 1)))
 else
  some ⟨[.i v15], []⟩
def laws_heldAnsS_k1 : List Nat := [0, 1, 4, 5, 39]
def laws_heldAnsS_S1 (a0 : List (List T)) : (Int × Int) → St := fun (v15, v16) => ⟨ofSl [(0, .sl 80 a0), (1, .i .i64 v15), (4, .i .i64 0), (5, .i .i64 v16), (39, .skip)], ofMem []⟩
def laws_heldAnsS_l1 (k : Nat) (a0 : List (List T)) (G1 : (Int × Int) → Option Outs) : (Int × Int) → Option Outs :=
  laws_heldAnsS_L1 k a0 G1
def laws_heldAnsS_U (k : Nat) (a0 : List (List T)) (a1 : Int) (R1 : (Int × Int) → Option Outs) : Option Outs :=
 R1 (a1, 0)
def laws_heldAnsS_u (k : Nat) (a0 : List (List T)) (a1 : Int) : Option Outs :=
  laws_heldAnsS_U k a0 a1 (fun v => fixN (laws_heldAnsS_l1 k a0) k v)
def laws_heldAnsS_it1 (k : Nat) (a0 : List (List T)) (a1 : Int) (js : List Nat) (j : Nat) (s : St) : Option Outs := iter (LB E (evalF E P0 k) k [] N.laws_heldAnsS [.sr, .sl, .sr, .bl]) [] laws_heldAnsS_k1 (LK E (evalF E P0 k) k [] N.laws_heldAnsS [.v [.r a0], .v [.i a1]] [.sr, .sl, .sr, .bl] js) j s
theorem laws_heldAnsS_e (k : Nat) (a0 : List (List T)) (a1 : Int) : evalF E P0 (k + 1) N.laws_heldAnsS [.v [.r a0], .v [.i a1]] = laws_heldAnsS_u k a0 a1 := by
  have e0 : evalF E P0 (k + 1) N.laws_heldAnsS [.v [.r a0], .v [.i a1]] = laws_heldAnsS_U k a0 a1 (fun v => laws_heldAnsS_it1 k a0 a1 [] k (laws_heldAnsS_S1 a0 v)) := by kernel_rfl
  have e1 : ∀ (j1 : Nat) (v : Int × Int), laws_heldAnsS_it1 k a0 a1 [] (j1 + 1) (laws_heldAnsS_S1 a0 v) = laws_heldAnsS_L1 k a0 (fun v => laws_heldAnsS_it1 k a0 a1 [] j1 (laws_heldAnsS_S1 a0 v)) v := by
    intro j1 v; kernel_rfl
  have i1 : ∀ (j1 : Nat) (v : Int × Int), laws_heldAnsS_it1 k a0 a1 [] j1 (laws_heldAnsS_S1 a0 v) = fixN (laws_heldAnsS_l1 k a0) j1 v := by
    intro j1 v
    refine iter_fix (laws_heldAnsS_S1 a0) (laws_heldAnsS_l1 k a0) (fun j1 v => (e1 j1 v).trans ?_) j1 v
    unfold laws_heldAnsS_l1
    rfl
  rw [e0]; unfold laws_heldAnsS_u
  simp only [i1]
/- spec.l13Copy -/
def spec_l13Copy_u (k : Nat) (a0_0 : Int) (a0_1 : Int) (a0_2 : Int) (a0_3 : Int) (a0_4 : List (List T)) : Option Outs :=
 chk (decide ((([] : List (List T)).length + a0_4.length) * 8 ≤ 140737488355328)) <|
 some ⟨[.i a0_0, .i a0_1, .i a0_2, .i a0_3, .r (([] : List (List T)) ++ a0_4)], []⟩
theorem spec_l13Copy_e (k : Nat) (a0_0 : Int) (a0_1 : Int) (a0_2 : Int) (a0_3 : Int) (a0_4 : List (List T)) : evalF E P0 (k + 1) N.spec_l13Copy [.v [.i a0_0, .i a0_1, .i a0_2, .i a0_3, .r a0_4]] = spec_l13Copy_u k a0_0 a0_1 a0_2 a0_3 a0_4 := by kernel_rfl
/- spec.CmdsOf -/
def spec_CmdsOf_L1 (k : Nat) (a0 : List (List T)) (G1 : (Int × List (List T)) → Option Outs) : (Int × List (List T)) → Option Outs := fun (v8, w8) =>
 bif (decide (v8 < (a0.length : Int))) then
  chk (decide (0 ≤ v8) && decide (v8 < (a0.length : Int))) <|
  bindO (evalF E P0 k N.spec_l13Copy [.v [.i (at_ a0 v8.toNat 0).asI, .i (at_ a0 v8.toNat 1).asI, .i (at_ a0 v8.toNat 2).asI, .i (at_ a0 v8.toNat 3).asI, .r (at_ a0 v8.toNat 4).asR]]) fun o48 =>
  chk (decide ((w8.length + ([[.i (o48.t 0).asI, .i (o48.t 1).asI, .i (o48.t 2).asI, .i (o48.t 3).asI, .r (o48.t 4).asR]] : List (List T)).length) * 56 ≤ 140737488355328)) <|
  G1 ((IntKind.wrap .i64 (v8 + 1)), (w8 ++ [[.i (o48.t 0).asI, .i (o48.t 1).asI, .i (o48.t 2).asI, .i (o48.t 3).asI, .r (o48.t 4).asR]]))
 else
  some ⟨[.r w8], []⟩
def spec_CmdsOf_k1 : List Nat := [0, 2, 3, 4, 21]
def spec_CmdsOf_S1 (a0 : List (List T)) : (Int × List (List T)) → St := fun (v8, w8) => ⟨ofSl [(0, .sl 84 a0), (2, .ref (2, 0)), (3, .ref (3, 0)), (4, .i .i64 v8), (21, .skip)], ofMem [((2, 0), .row 82 true []), ((3, 0), .row 82 true w8)]⟩
def spec_CmdsOf_l1 (k : Nat) (a0 : List (List T)) (G1 : (Int × List (List T)) → Option Outs) : (Int × List (List T)) → Option Outs :=
  spec_CmdsOf_L1 k a0 G1
def spec_CmdsOf_U (k : Nat) (a0 : List (List T)) (R1 : (Int × List (List T)) → Option Outs) : Option Outs :=
 R1 (0, [])
def spec_CmdsOf_u (k : Nat) (a0 : List (List T)) : Option Outs :=
  spec_CmdsOf_U k a0 (fun v => fixN (spec_CmdsOf_l1 k a0) k v)
def spec_CmdsOf_it1 (k : Nat) (a0 : List (List T)) (js : List Nat) (j : Nat) (s : St) : Option Outs := iter (LB E (evalF E P0 k) k [] N.spec_CmdsOf [.sr, .sr, .sl, .sr, .bl]) [] spec_CmdsOf_k1 (LK E (evalF E P0 k) k [] N.spec_CmdsOf [.v [.r a0]] [.sr, .sr, .sl, .sr, .bl] js) j s
theorem spec_CmdsOf_e (k : Nat) (a0 : List (List T)) : evalF E P0 (k + 1) N.spec_CmdsOf [.v [.r a0]] = spec_CmdsOf_u k a0 := by
  have e0 : evalF E P0 (k + 1) N.spec_CmdsOf [.v [.r a0]] = spec_CmdsOf_U k a0 (fun v => spec_CmdsOf_it1 k a0 [] k (spec_CmdsOf_S1 a0 v)) := by kernel_rfl
  have e1 : ∀ (j1 : Nat) (v : Int × List (List T)), spec_CmdsOf_it1 k a0 [] (j1 + 1) (spec_CmdsOf_S1 a0 v) = spec_CmdsOf_L1 k a0 (fun v => spec_CmdsOf_it1 k a0 [] j1 (spec_CmdsOf_S1 a0 v)) v := by
    intro j1 v; kernel_rfl
  have i1 : ∀ (j1 : Nat) (v : Int × List (List T)), spec_CmdsOf_it1 k a0 [] j1 (spec_CmdsOf_S1 a0 v) = fixN (spec_CmdsOf_l1 k a0) j1 v := by
    intro j1 v
    refine iter_fix (spec_CmdsOf_S1 a0) (spec_CmdsOf_l1 k a0) (fun j1 v => (e1 j1 v).trans ?_) j1 v
    unfold spec_CmdsOf_l1
    rfl
  rw [e0]; unfold spec_CmdsOf_u
  simp only [i1]
/- impl.copyCmd -/
def impl_copyCmd_u (k : Nat) (a0_0 : Int) (a0_1 : Int) (a0_2 : Int) (a0_3 : Int) (a0_4 : List (List T)) : Option Outs :=
 bindO (evalF E P0 k N.impl_copyInts [.v [.r a0_4]]) fun o2 =>
 some ⟨[.i a0_0, .i a0_1, .i a0_2, .i a0_3, .r (o2.t 0).asR], []⟩
theorem impl_copyCmd_e (k : Nat) (a0_0 : Int) (a0_1 : Int) (a0_2 : Int) (a0_3 : Int) (a0_4 : List (List T)) : evalF E P0 (k + 1) N.impl_copyCmd [.v [.i a0_0, .i a0_1, .i a0_2, .i a0_3, .r a0_4]] = impl_copyCmd_u k a0_0 a0_1 a0_2 a0_3 a0_4 := by kernel_rfl
/- impl.CmdsOf -/
def impl_CmdsOf_L1 (k : Nat) (a0 : List (List T)) (G1 : (Int × List (List T)) → Option Outs) : (Int × List (List T)) → Option Outs := fun (v8, w8) =>
 bif (decide (v8 < (a0.length : Int))) then
  chk (decide (0 ≤ v8) && decide (v8 < (a0.length : Int))) <|
  bindO (evalF E P0 k N.impl_copyCmd [.v [.i (at_ a0 v8.toNat 0).asI, .i (at_ a0 v8.toNat 1).asI, .i (at_ a0 v8.toNat 2).asI, .i (at_ a0 v8.toNat 3).asI, .r (at_ a0 v8.toNat 4).asR]]) fun o48 =>
  chk (decide ((w8.length + ([[.i (o48.t 0).asI, .i (o48.t 1).asI, .i (o48.t 2).asI, .i (o48.t 3).asI, .r (o48.t 4).asR]] : List (List T)).length) * 56 ≤ 140737488355328)) <|
  G1 ((IntKind.wrap .i64 (v8 + 1)), (w8 ++ [[.i (o48.t 0).asI, .i (o48.t 1).asI, .i (o48.t 2).asI, .i (o48.t 3).asI, .r (o48.t 4).asR]]))
 else
  some ⟨[.r w8], []⟩
def impl_CmdsOf_k1 : List Nat := [2, 3, 7, 8, 9, 20]
def impl_CmdsOf_S1 (a0 : List (List T)) : (Int × List (List T)) → St := fun (v8, w8) => ⟨ofSl [(2, .ref (2, 0)), (3, .ref (3, 0)), (7, .sl 84 a0), (8, .i .i64 (a0.length : Int)), (9, .i .i64 v8), (20, .skip)], ofMem [((2, 0), .row 82 true []), ((3, 0), .row 82 true w8)]⟩
def impl_CmdsOf_l1 (k : Nat) (a0 : List (List T)) (G1 : (Int × List (List T)) → Option Outs) : (Int × List (List T)) → Option Outs :=
  impl_CmdsOf_L1 k a0 G1
def impl_CmdsOf_U (k : Nat) (a0 : List (List T)) (R1 : (Int × List (List T)) → Option Outs) : Option Outs :=
 R1 (0, [])
def impl_CmdsOf_u (k : Nat) (a0 : List (List T)) : Option Outs :=
  impl_CmdsOf_U k a0 (fun v => fixN (impl_CmdsOf_l1 k a0) k v)
def impl_CmdsOf_it1 (k : Nat) (a0 : List (List T)) (js : List Nat) (j : Nat) (s : St) : Option Outs := iter (LB E (evalF E P0 k) k [] N.impl_CmdsOf [.sr, .sr, .sl, .sr, .bl]) [] impl_CmdsOf_k1 (LK E (evalF E P0 k) k [] N.impl_CmdsOf [.v [.r a0]] [.sr, .sr, .sl, .sr, .bl] js) j s
theorem impl_CmdsOf_e (k : Nat) (a0 : List (List T)) : evalF E P0 (k + 1) N.impl_CmdsOf [.v [.r a0]] = impl_CmdsOf_u k a0 := by
  have e0 : evalF E P0 (k + 1) N.impl_CmdsOf [.v [.r a0]] = impl_CmdsOf_U k a0 (fun v => impl_CmdsOf_it1 k a0 [] k (impl_CmdsOf_S1 a0 v)) := by kernel_rfl
  have e1 : ∀ (j1 : Nat) (v : Int × List (List T)), impl_CmdsOf_it1 k a0 [] (j1 + 1) (impl_CmdsOf_S1 a0 v) = impl_CmdsOf_L1 k a0 (fun v => impl_CmdsOf_it1 k a0 [] j1 (impl_CmdsOf_S1 a0 v)) v := by
    intro j1 v; kernel_rfl
  have i1 : ∀ (j1 : Nat) (v : Int × List (List T)), impl_CmdsOf_it1 k a0 [] j1 (impl_CmdsOf_S1 a0 v) = fixN (impl_CmdsOf_l1 k a0) j1 v := by
    intro j1 v
    refine iter_fix (impl_CmdsOf_S1 a0) (impl_CmdsOf_l1 k a0) (fun j1 v => (e1 j1 v).trans ?_) j1 v
    unfold impl_CmdsOf_l1
    rfl
  rw [e0]; unfold impl_CmdsOf_u
  simp only [i1]
/- laws.eqCmdS -/
def laws_eqCmdS_L1 (k : Nat) (a0 : List (List T)) (a1 : List (List T)) (G1 : (Int) → Option Outs) : (Int) → Option Outs := fun v8 =>
 bif (decide (v8 < (a0.length : Int))) then
  chk (decide (0 ≤ v8) && decide (v8 < (a0.length : Int))) <|
  chk (decide (0 ≤ v8) && decide (v8 < (a1.length : Int))) <|
  bindO (evalF E P0 k N.laws_eqCmd [.v [.i (at_ a0 v8.toNat 0).asI, .i (at_ a0 v8.toNat 1).asI, .i (at_ a0 v8.toNat 2).asI, .i (at_ a0 v8.toNat 3).asI, .r (at_ a0 v8.toNat 4).asR], .v [.i (at_ a1 v8.toNat 0).asI, .i (at_ a1 v8.toNat 1).asI, .i (at_ a1 v8.toNat 2).asI, .i (at_ a1 v8.toNat 3).asI, .r (at_ a1 v8.toNat 4).asR]]) fun o96 =>
  bif (!(o96.t 0).asB) then some ⟨[.b false], []⟩ else G1 (IntKind.wrap .i64 (v8 + 1))
 else
  some ⟨[.b true], []⟩
def laws_eqCmdS_k1 : List Nat := [0, 1, 4, 5]
def laws_eqCmdS_S1 (a0 : List (List T)) (a1 : List (List T)) : (Int) → St := fun v8 => ⟨ofSl [(0, .sl 82 a0), (1, .sl 82 a1), (4, .b false), (5, .i .i64 v8)], ofMem []⟩
def laws_eqCmdS_l1 (k : Nat) (a0 : List (List T)) (a1 : List (List T)) (G1 : (Int) → Option Outs) : (Int) → Option Outs :=
  laws_eqCmdS_L1 k a0 a1 G1
def laws_eqCmdS_U (k : Nat) (a0 : List (List T)) (a1 : List (List T)) (R1 : (Int) → Option Outs) : Option Outs :=
 bif ((a0.length : Int) != (a1.length : Int)) then some ⟨[.b false], []⟩ else R1 0
def laws_eqCmdS_u (k : Nat) (a0 : List (List T)) (a1 : List (List T)) : Option Outs :=
  laws_eqCmdS_U k a0 a1 (fun v => fixN (laws_eqCmdS_l1 k a0 a1) k v)
def laws_eqCmdS_it1 (k : Nat) (a0 : List (List T)) (a1 : List (List T)) (js : List Nat) (j : Nat) (s : St) : Option Outs := iter (LB E (evalF E P0 k) k [] N.laws_eqCmdS [.sr, .sr, .sl, .sr, .bl]) [] laws_eqCmdS_k1 (LK E (evalF E P0 k) k [] N.laws_eqCmdS [.v [.r a0], .v [.r a1]] [.sr, .sr, .sl, .sr, .bl] js) j s
theorem laws_eqCmdS_e (k : Nat) (a0 : List (List T)) (a1 : List (List T)) : evalF E P0 (k + 1) N.laws_eqCmdS [.v [.r a0], .v [.r a1]] = laws_eqCmdS_u k a0 a1 := by
  have e0 : evalF E P0 (k + 1) N.laws_eqCmdS [.v [.r a0], .v [.r a1]] = laws_eqCmdS_U k a0 a1 (fun v => laws_eqCmdS_it1 k a0 a1 [] k (laws_eqCmdS_S1 a0 a1 v)) := by kernel_rfl
  have e1 : ∀ (j1 : Nat) (v : Int), laws_eqCmdS_it1 k a0 a1 [] (j1 + 1) (laws_eqCmdS_S1 a0 a1 v) = laws_eqCmdS_L1 k a0 a1 (fun v => laws_eqCmdS_it1 k a0 a1 [] j1 (laws_eqCmdS_S1 a0 a1 v)) v := by
    intro j1 v; kernel_rfl
  have i1 : ∀ (j1 : Nat) (v : Int), laws_eqCmdS_it1 k a0 a1 [] j1 (laws_eqCmdS_S1 a0 a1 v) = fixN (laws_eqCmdS_l1 k a0 a1) j1 v := by
    intro j1 v
    refine iter_fix (laws_eqCmdS_S1 a0 a1) (laws_eqCmdS_l1 k a0 a1) (fun j1 v => (e1 j1 v).trans ?_) j1 v
    unfold laws_eqCmdS_l1
    rfl
  rw [e0]; unfold laws_eqCmdS_u
  simp only [i1]
/- laws.heldCmdS -/
def laws_heldCmdS_L1 (k : Nat) (a0 : List (List T)) (G1 : (Int × Int) → Option Outs) : (Int × Int) → Option Outs := fun (v15, v16) =>
 bif (decide (v16 < (a0.length : Int))) then
  chk (decide (0 ≤ v16) && decide (v16 < (a0.length : Int))) <|
  bif ((at_ a0 v16.toNat 0).asI != v15) then
   some ⟨[.i (-1)], []⟩
  else
   chk (decide (0 ≤ v16) && decide (v16 < (a0.length : Int))) <|
   bif ((at_ a0 v16.toNat 1).asI != (IntKind.wrap .i64 (v15 + 1))) then
    some ⟨[.i (-1)], []⟩
   else
    chk (decide (0 ≤ v16) && decide (v16 < (a0.length : Int))) <|
    bif ((at_ a0 v16.toNat 2).asI != (IntKind.wrap .i64 ((IntKind.wrap .i64 (v15 + 1)) + 1))) then
     some ⟨[.i (-1)], []⟩
    else
     chk (decide (0 ≤ v16) && decide (v16 < (a0.length : Int))) <|
     bif ((at_ a0 v16.toNat 3).asI != (IntKind.wrap .i64 ((IntKind.wrap .i64 ((IntKind.wrap .i64 (v15 + 1)) + 1)) + 1))) then
      some ⟨[.i (-1)], []⟩
     else
      chk (decide (0 ≤ v16) && decide (v16 < (a0.length : Int))) <|
      bindO (evalF E P0 k N.laws_heldIntS [.v [.r (at_ a0 v16.toNat 4).asR], .v [.i (IntKind.wrap .i64 ((IntKind.wrap .i64 ((IntKind.wrap .i64 ((IntKind.wrap .i64 (v15 + 1)) + 1)) + 1)) + 1))]]) fun o96 =>
      bif (decide ((o96.t 0).asI < 0)) then some ⟨[.i (-1)], []⟩ else G1 ((o96.t 0).asI, (IntKind.wrap .i64 (v16 + 1)))
 else
  some ⟨[.i v15], []⟩
def laws_heldCmdS_k1 : List Nat := [0, 1, 4, 5, 57]
def laws_heldCmdS_S1 (a0 : List (List T)) : (Int × Int) → St := fun (v15, v16) => ⟨ofSl [(0, .sl 82 a0), (1, .i .i64 v15), (4, .i .i64 0), (5, .i .i64 v16), (57, .skip)], ofMem []⟩
def laws_heldCmdS_l1 (k : Nat) (a0 : List (List T)) (G1 : (Int × Int) → Option Outs) : (Int × Int) → Option Outs :=
  laws_heldCmdS_L1 k a0 G1
def laws_heldCmdS_U (k : Nat) (a0 : List (List T)) (a1 : Int) (R1 : (Int × Int) → Option Outs) : Option Outs :=
 R1 (a1, 0)
def laws_heldCmdS_u (k : Nat) (a0 : List (List T)) (a1 : Int) : Option Outs :=
  laws_heldCmdS_U k a0 a1 (fun v => fixN (laws_heldCmdS_l1 k a0) k v)
def laws_heldCmdS_it1 (k : Nat) (a0 : List (List T)) (a1 : Int) (js : List Nat) (j : Nat) (s : St) : Option Outs := iter (LB E (evalF E P0 k) k [] N.laws_heldCmdS [.sr, .sl, .sr, .bl]) [] laws_heldCmdS_k1 (LK E (evalF E P0 k) k [] N.laws_heldCmdS [.v [.r a0], .v [.i a1]] [.sr, .sl, .sr, .bl] js) j s
theorem laws_heldCmdS_e (k : Nat) (a0 : List (List T)) (a1 : Int) : evalF E P0 (k + 1) N.laws_heldCmdS [.v [.r a0], .v [.i a1]] = laws_heldCmdS_u k a0 a1 := by
  have e0 : evalF E P0 (k + 1) N.laws_heldCmdS [.v [.r a0], .v [.i a1]] = laws_heldCmdS_U k a0 a1 (fun v => laws_heldCmdS_it1 k a0 a1 [] k (laws_heldCmdS_S1 a0 v)) := by kernel_rfl
  have e1 : ∀ (j1 : Nat) (v : Int × Int), laws_heldCmdS_it1 k a0 a1 [] (j1 + 1) (laws_heldCmdS_S1 a0 v) = laws_heldCmdS_L1 k a0 (fun v => laws_heldCmdS_it1 k a0 a1 [] j1 (laws_heldCmdS_S1 a0 v)) v := by
    intro j1 v; kernel_rfl
  have i1 : ∀ (j1 : Nat) (v : Int × Int), laws_heldCmdS_it1 k a0 a1 [] j1 (laws_heldCmdS_S1 a0 v) = fixN (laws_heldCmdS_l1 k a0) j1 v := by
    intro j1 v
    refine iter_fix (laws_heldCmdS_S1 a0) (laws_heldCmdS_l1 k a0) (fun j1 v => (e1 j1 v).trans ?_) j1 v
    unfold laws_heldCmdS_l1
    rfl
  rw [e0]; unfold laws_heldCmdS_u
  simp only [i1]
/- spec.GeoOk -/
def spec_GeoOk_u (k : Nat) (a0_0 : Int) (a0_1 : Int) : Option Outs :=
 bindO (evalF E P0 k N.spec_l1In [.v [.i a0_0], .v [.i 3], .v [.i 5]]) fun o3 =>
 bif (o3.t 0).asB then
  bindO (evalF E P0 k N.spec_l1In [.v [.i a0_1], .v [.i 1], .v [.i 8]]) fun o4 =>
  some ⟨[.b (o4.t 0).asB], []⟩
 else
  some ⟨[.b false], []⟩
theorem spec_GeoOk_e (k : Nat) (a0_0 : Int) (a0_1 : Int) : evalF E P0 (k + 1) N.spec_GeoOk [.v [.i a0_0, .i a0_1]] = spec_GeoOk_u k a0_0 a0_1 := by kernel_rfl
/- spec.l1Word -/
def spec_l1Word_u (k : Nat) (a0 : Int) : Option Outs :=
 bindO (evalF E P0 k N.spec_l1In [.v [.i a0], .v [.i 0], .v [.i 65535]]) fun o2 =>
 some ⟨[.b (o2.t 0).asB], []⟩
theorem spec_l1Word_e (k : Nat) (a0 : Int) : evalF E P0 (k + 1) N.spec_l1Word [.v [.i a0]] = spec_l1Word_u k a0 := by kernel_rfl
/- spec.l1Words -/
def spec_l1Words_L1 (k : Nat) (a0 : List (List T)) (G1 : (Int) → Option Outs) : (Int) → Option Outs := fun v8 =>
 bif (decide (v8 < (a0.length : Int))) then
  chk (decide (0 ≤ v8) && decide (v8 < (a0.length : Int))) <|
  bindO (evalF E P0 k N.spec_l1Word [.v [.i (at_ a0 v8.toNat 0).asI]]) fun o96 =>
  bif (!(o96.t 0).asB) then some ⟨[.b false], []⟩ else G1 (IntKind.wrap .i64 (v8 + 1))
 else
  some ⟨[.b true], []⟩
def spec_l1Words_k1 : List Nat := [0, 2, 3]
def spec_l1Words_S1 (a0 : List (List T)) : (Int) → St := fun v8 => ⟨ofSl [(0, .sl 3 a0), (2, .b false), (3, .i .i64 v8)], ofMem []⟩
def spec_l1Words_l1 (k : Nat) (a0 : List (List T)) (G1 : (Int) → Option Outs) : (Int) → Option Outs :=
  spec_l1Words_L1 k a0 G1
def spec_l1Words_U (k : Nat) (a0 : List (List T)) (R1 : (Int) → Option Outs) : Option Outs :=
 R1 0
def spec_l1Words_u (k : Nat) (a0 : List (List T)) : Option Outs :=
  spec_l1Words_U k a0 (fun v => fixN (spec_l1Words_l1 k a0) k v)
def spec_l1Words_it1 (k : Nat) (a0 : List (List T)) (js : List Nat) (j : Nat) (s : St) : Option Outs := iter (LB E (evalF E P0 k) k [] N.spec_l1Words [.sr, .sl, .sr, .bl]) [] spec_l1Words_k1 (LK E (evalF E P0 k) k [] N.spec_l1Words [.v [.r a0]] [.sr, .sl, .sr, .bl] js) j s
theorem spec_l1Words_e (k : Nat) (a0 : List (List T)) : evalF E P0 (k + 1) N.spec_l1Words [.v [.r a0]] = spec_l1Words_u k a0 := by
  have e0 : evalF E P0 (k + 1) N.spec_l1Words [.v [.r a0]] = spec_l1Words_U k a0 (fun v => spec_l1Words_it1 k a0 [] k (spec_l1Words_S1 a0 v)) := by kernel_rfl
  have e1 : ∀ (j1 : Nat) (v : Int), spec_l1Words_it1 k a0 [] (j1 + 1) (spec_l1Words_S1 a0 v) = spec_l1Words_L1 k a0 (fun v => spec_l1Words_it1 k a0 [] j1 (spec_l1Words_S1 a0 v)) v := by
    intro j1 v; kernel_rfl
  have i1 : ∀ (j1 : Nat) (v : Int), spec_l1Words_it1 k a0 [] j1 (spec_l1Words_S1 a0 v) = fixN (spec_l1Words_l1 k a0) j1 v := by
    intro j1 v
    refine iter_fix (spec_l1Words_S1 a0) (spec_l1Words_l1 k a0) (fun j1 v => (e1 j1 v).trans ?_) j1 v
    unfold spec_l1Words_l1
    rfl
  rw [e0]; unfold spec_l1Words_u
  simp only [i1]
/- spec.l13Size -/
def spec_l13Size_J1 (k : Nat) (a0_0 : Int) (a0_4 : List (List T)) (c17 : Bool) : Option Outs :=
 bif c17 then
  bindO (evalF E P0 k N.spec_l1In [.v [.i (a0_4.length : Int)], .v [.i 1], .v [.i 6]]) fun o39 =>
  bif (o39.t 0).asB then
   bindO (evalF E P0 k N.spec_l1Words [.v [.r a0_4]]) fun o40 =>
   some ⟨[.b (o40.t 0).asB], []⟩
  else
   some ⟨[.b false], []⟩
 else
  bif (a0_0 == 5) then
   bif ((a0_4.length : Int) == 2) then
    bindO (evalF E P0 k N.spec_l1Words [.v [.r a0_4]]) fun o42 =>
    some ⟨[.b (o42.t 0).asB], []⟩
   else
    some ⟨[.b false], []⟩
  else
   some ⟨[.b true], []⟩
def spec_l13Size_u (k : Nat) (a0_0 : Int) (a0_1 : Int) (a0_2 : Int) (a0_3 : Int) (a0_4 : List (List T)) : Option Outs :=
 bif (a0_0 == 1) then
  bindO (evalF E P0 k N.spec_l1In [.v [.i a0_3], .v [.i 1], .v [.i 6]]) fun o34 =>
  some ⟨[.b (o34.t 0).asB], []⟩
 else
  bif (a0_0 == 6) then
   bindO (evalF E P0 k N.spec_l1In [.v [.i a0_3], .v [.i 1], .v [.i 6]]) fun o36 =>
   some ⟨[.b (o36.t 0).asB], []⟩
  else
   bif (a0_0 == 2) then spec_l13Size_J1 k a0_0 a0_4 true else spec_l13Size_J1 k a0_0 a0_4 (a0_0 == 3)
theorem spec_l13Size_e (k : Nat) (a0_0 : Int) (a0_1 : Int) (a0_2 : Int) (a0_3 : Int) (a0_4 : List (List T)) : evalF E P0 (k + 1) N.spec_l13Size [.v [.i a0_0, .i a0_1, .i a0_2, .i a0_3, .r a0_4]] = spec_l13Size_u k a0_0 a0_1 a0_2 a0_3 a0_4 := by kernel_rfl
/- spec.Blocks -/
def spec_Blocks_u (k : Nat) (a0_0 : Int) (a0_1 : Int) : Option Outs :=
 bindO (evalF E P0 k N.spec_GeoOk [.v [.i a0_0, .i a0_1]]) fun o2 =>
 bif (!(o2.t 0).asB) then
  some ⟨[.i 0], []⟩
 else
  some ⟨[.i (IntKind.wrap .i64 (a0_1 * (IntKind.wrap .i64 (a0_0 - 1))))], []⟩
theorem spec_Blocks_e (k : Nat) (a0_0 : Int) (a0_1 : Int) : evalF E P0 (k + 1) N.spec_Blocks [.v [.i a0_0, .i a0_1]] = spec_Blocks_u k a0_0 a0_1 := by kernel_rfl
/- spec.l13Len -/
def spec_l13Len_u (k : Nat) (a0_0 : Int) (a0_1 : Int) (a0_2 : Int) (a0_3 : Int) (a0_4 : List (List T)) : Option Outs :=
 bif (a0_0 == 1) then
  some ⟨[.i a0_3], []⟩
 else
  bif (a0_0 == 6) then
   some ⟨[.i a0_3], []⟩
  else
   bif (a0_0 == 2) then
    some ⟨[.i (a0_4.length : Int)], []⟩
   else
    bif (a0_0 == 3) then
     some ⟨[.i (a0_4.length : Int)], []⟩
    else
     bif (a0_0 == 5) then some ⟨[.i 1], []⟩ else some ⟨[.i 0], []⟩
theorem spec_l13Len_e (k : Nat) (a0_0 : Int) (a0_1 : Int) (a0_2 : Int) (a0_3 : Int) (a0_4 : List (List T)) : evalF E P0 (k + 1) N.spec_l13Len [.v [.i a0_0, .i a0_1, .i a0_2, .i a0_3, .r a0_4]] = spec_l13Len_u k a0_0 a0_1 a0_2 a0_3 a0_4 := by kernel_rfl
/- spec.CmdCode -/
def spec_CmdCode_J1 (k : Nat) (a0_0 : Int) (a0_1 : Int) (a1_0 : Int) (a1_1 : Int) (a1_2 : Int) (a1_3 : Int) (a1_4 : List (List T)) (c4 : Bool) : Option Outs :=
 bif c4 then
  some ⟨[.i 1], []⟩
 else
  bindO (evalF E P0 k N.spec_l13Size [.v [.i a1_0, .i a1_1, .i a1_2, .i a1_3, .r a1_4]]) fun o48 =>
  bif (!(o48.t 0).asB) then
   some ⟨[.i 3], []⟩
  else
   bif (a1_0 == 4) then
    some ⟨[.i 0], []⟩
   else
    bindO (evalF E P0 k N.spec_Blocks [.v [.i a0_0, .i a0_1]]) fun o52 =>
    bindO (evalF E P0 k N.spec_l13Len [.v [.i a1_0, .i a1_1, .i a1_2, .i a1_3, .r a1_4]]) fun o53 =>
    bindO (evalF E P0 k N.spec_l1In [.v [.i a1_2], .v [.i 0], .v [.i (IntKind.wrap .i64 ((o52.t 0).asI - (o53.t 0).asI))]]) fun o54 =>
    bif (!(o54.t 0).asB) then some ⟨[.i 2], []⟩ else some ⟨[.i 0], []⟩
def spec_CmdCode_u (k : Nat) (a0_0 : Int) (a0_1 : Int) (a1_0 : Int) (a1_1 : Int) (a1_2 : Int) (a1_3 : Int) (a1_4 : List (List T)) : Option Outs :=
 bindO (evalF E P0 k N.spec_GeoOk [.v [.i a0_0, .i a0_1]]) fun o46 =>
 bif (!(o46.t 0).asB) then
  spec_CmdCode_J1 k a0_0 a0_1 a1_0 a1_1 a1_2 a1_3 a1_4 true
 else
  bindO (evalF E P0 k N.spec_l1In [.v [.i a1_0], .v [.i 1], .v [.i 6]]) fun o55 =>
  bif (!(o55.t 0).asB) then
   spec_CmdCode_J1 k a0_0 a0_1 a1_0 a1_1 a1_2 a1_3 a1_4 true
  else
   bindO (evalF E P0 k N.spec_l1In [.v [.i a1_1], .v [.i 1], .v [.i 999]]) fun o56 =>
   spec_CmdCode_J1 k a0_0 a0_1 a1_0 a1_1 a1_2 a1_3 a1_4 (!(o56.t 0).asB)
theorem spec_CmdCode_e (k : Nat) (a0_0 : Int) (a0_1 : Int) (a1_0 : Int) (a1_1 : Int) (a1_2 : Int) (a1_3 : Int) (a1_4 : List (List T)) : evalF E P0 (k + 1) N.spec_CmdCode [.v [.i a0_0, .i a0_1], .v [.i a1_0, .i a1_1, .i a1_2, .i a1_3, .r a1_4]] = spec_CmdCode_u k a0_0 a0_1 a1_0 a1_1 a1_2 a1_3 a1_4 := by kernel_rfl
/- spec.l14Do -/
def spec_l14Do_L1 (k : Nat) (a1_0 : Int) (a1_1 : Int) (a1_2 : Int) (a1_3 : Int) (a1_4 : List (List T)) (G1 : (Int × List (List T)) → Option Outs) : (Int × List (List T)) → Option Outs := fun (v28, w28) =>
 bif (decide (v28 < (a1_4.length : Int))) then
  chk (decide (0 ≤ v28) && decide (v28 < (a1_4.length : Int))) <|
  chk (decide (0 ≤ (IntKind.wrap .i64 (a1_2 + v28))) && decide ((IntKind.wrap .i64 (a1_2 + v28)) < (w28.length : Int))) <|
  G1 ((IntKind.wrap .i64 (v28 + 1)), (put_ w28 (IntKind.wrap .i64 (a1_2 + v28)).toNat 0 [.i (at_ a1_4 v28.toNat 0).asI]))
 else
  some ⟨[.i a1_1, .i 0, .r []], [[.r w28]]⟩
def spec_l14Do_k1 : List Nat := [0, 3, 4, 5, 6, 84]
def spec_l14Do_S1 (a1_0 : Int) (a1_1 : Int) (a1_2 : Int) (a1_3 : Int) (a1_4 : List (List T)) : (Int × List (List T)) → St := fun (v28, w28) => ⟨ofSl [(0, .ref (0, 0)), (3, .ptr (3, 0) 0), (4, .ptr (4, 0) 0), (5, .ptr (5, 0) 0), (6, .i .i64 v28), (84, .skip)], ofMem [((0, 0), .row 3 true w28), ((3, 0), .var [.i .i64 a1_0, .i .i64 a1_1, .i .i64 a1_2, .i .i64 a1_3, .sl 3 a1_4]), ((4, 0), .var [.i .i64 0, .i .i64 0, .ref (4, 3)]), ((4, 3), .row 3 true []), ((5, 0), .var [.i .i64 a1_1, .i .i64 0, .ref (5, 3)]), ((5, 3), .row 3 true [])]⟩
def spec_l14Do_L2 (k : Nat) (a1_0 : Int) (a1_1 : Int) (a1_2 : Int) (a1_3 : Int) (a1_4 : List (List T)) (G2 : (Int × List (List T)) → Option Outs) : (Int × List (List T)) → Option Outs := fun (v32, w32) =>
 bif (decide (v32 < a1_3)) then
  chk (decide (0 ≤ (IntKind.wrap .i64 (a1_2 + v32))) && decide ((IntKind.wrap .i64 (a1_2 + v32)) < (w32.length : Int))) <|
  G2 ((IntKind.wrap .i64 (v32 + 1)), (put_ w32 (IntKind.wrap .i64 (a1_2 + v32)).toNat 0 [.i 0]))
 else
  some ⟨[.i a1_1, .i 0, .r []], [[.r w32]]⟩
def spec_l14Do_k2 : List Nat := [0, 3, 4, 5, 7, 84]
def spec_l14Do_S2 (a1_0 : Int) (a1_1 : Int) (a1_2 : Int) (a1_3 : Int) (a1_4 : List (List T)) : (Int × List (List T)) → St := fun (v32, w32) => ⟨ofSl [(0, .ref (0, 0)), (3, .ptr (3, 0) 0), (4, .ptr (4, 0) 0), (5, .ptr (5, 0) 0), (7, .i .i64 v32), (84, .skip)], ofMem [((0, 0), .row 3 true w32), ((3, 0), .var [.i .i64 a1_0, .i .i64 a1_1, .i .i64 a1_2, .i .i64 a1_3, .sl 3 a1_4]), ((4, 0), .var [.i .i64 0, .i .i64 0, .ref (4, 3)]), ((4, 3), .row 3 true []), ((5, 0), .var [.i .i64 a1_1, .i .i64 0, .ref (5, 3)]), ((5, 3), .row 3 true [])]⟩
def spec_l14Do_J1 (k : Nat) (a0 : List (List T)) (a1_0 : Int) (a1_1 : Int) (a1_2 : Int) (a1_4 : List (List T)) (R1 : (Int × List (List T)) → Option Outs) (R2 : (Int × List (List T)) → Option Outs) (c4 : Bool) : Option Outs :=
 bif c4 then
  R1 (0, a0)
 else
  bif (a1_0 == 6) then
   R2 (0, a0)
  else
   bif (a1_0 == 5) then
    chk (decide (0 ≤ a1_2) && decide (a1_2 < (a0.length : Int))) <|
    chk (decide ((0 : Int) < (a1_4.length : Int))) <|
    bif ((at_ a0 a1_2.toNat 0).asI != (at_ a1_4 0 0).asI) then
     some ⟨[.i a1_1, .i 4, .r []], [[.r a0]]⟩
    else
     chk (decide ((1 : Int) < (a1_4.length : Int))) <|
     chk (decide (0 ≤ a1_2) && decide (a1_2 < (a0.length : Int))) <|
     some ⟨[.i a1_1, .i 0, .r []], [[.r (put_ a0 a1_2.toNat 0 [.i (at_ a1_4 1 0).asI])]]⟩
   else
    some ⟨[.i a1_1, .i 0, .r []], [[.r a0]]⟩
def spec_l14Do_l1 (k : Nat) (a1_0 : Int) (a1_1 : Int) (a1_2 : Int) (a1_3 : Int) (a1_4 : List (List T)) (G1 : (Int × List (List T)) → Option Outs) : (Int × List (List T)) → Option Outs :=
  spec_l14Do_L1 k a1_0 a1_1 a1_2 a1_3 a1_4 G1
def spec_l14Do_l2 (k : Nat) (a1_0 : Int) (a1_1 : Int) (a1_2 : Int) (a1_3 : Int) (a1_4 : List (List T)) (G2 : (Int × List (List T)) → Option Outs) : (Int × List (List T)) → Option Outs :=
  spec_l14Do_L2 k a1_0 a1_1 a1_2 a1_3 a1_4 G2
def spec_l14Do_U (k : Nat) (a0 : List (List T)) (a1_0 : Int) (a1_1 : Int) (a1_2 : Int) (a1_3 : Int) (a1_4 : List (List T)) (R1 : (Int × List (List T)) → Option Outs) (R2 : (Int × List (List T)) → Option Outs) : Option Outs :=
 bif (a1_0 == 1) then
  chk (decide (0 ≤ a1_2) && decide (a1_2 ≤ (IntKind.wrap .i64 (a1_2 + a1_3))) && decide ((IntKind.wrap .i64 (a1_2 + a1_3)) ≤ (a0.length : Int))) <|
  chk (decide ((([] : List (List T)).length + ((a0.drop a1_2.toNat).take ((IntKind.wrap .i64 (a1_2 + a1_3)).toNat - a1_2.toNat)).length) * 8 ≤ 140737488355328)) <|
  some ⟨[.i a1_1, .i 0, .r (([] : List (List T)) ++ ((a0.drop a1_2.toNat).take ((IntKind.wrap .i64 (a1_2 + a1_3)).toNat - a1_2.toNat)))], [[.r a0]]⟩
 else
  bif (a1_0 == 2) then
   spec_l14Do_J1 k a0 a1_0 a1_1 a1_2 a1_4 R1 R2 true
  else
   spec_l14Do_J1 k a0 a1_0 a1_1 a1_2 a1_4 R1 R2 (a1_0 == 3)
def spec_l14Do_u (k : Nat) (a0 : List (List T)) (a1_0 : Int) (a1_1 : Int) (a1_2 : Int) (a1_3 : Int) (a1_4 : List (List T)) : Option Outs :=
  spec_l14Do_U k a0 a1_0 a1_1 a1_2 a1_3 a1_4 (fun v => fixN (spec_l14Do_l1 k a1_0 a1_1 a1_2 a1_3 a1_4) k v) (fun v => fixN (spec_l14Do_l2 k a1_0 a1_1 a1_2 a1_3 a1_4) k v)
def spec_l14Do_it1 (k : Nat) (a0 : List (List T)) (a1_0 : Int) (a1_1 : Int) (a1_2 : Int) (a1_3 : Int) (a1_4 : List (List T)) (js : List Nat) (j : Nat) (s : St) : Option Outs := iter (LB E (evalF E P0 k) k [0] N.spec_l14Do [.sr, .sr, .sl, .sr, .bl, .sr, .ce, .sr, .ct, .sr, .bl]) [0] spec_l14Do_k1 (LK E (evalF E P0 k) k [0] N.spec_l14Do [.r a0, .v [.i a1_0, .i a1_1, .i a1_2, .i a1_3, .r a1_4]] [.sr, .sr, .sl, .sr, .bl, .sr, .ce, .sr, .ct, .sr, .bl] js) j s
def spec_l14Do_it2 (k : Nat) (a0 : List (List T)) (a1_0 : Int) (a1_1 : Int) (a1_2 : Int) (a1_3 : Int) (a1_4 : List (List T)) (js : List Nat) (j : Nat) (s : St) : Option Outs := iter (LB E (evalF E P0 k) k [0] N.spec_l14Do [.sr, .sr, .sl, .sr, .bl, .sr, .ce, .sr, .ce, .sr, .ct, .sr, .bl]) [0] spec_l14Do_k2 (LK E (evalF E P0 k) k [0] N.spec_l14Do [.r a0, .v [.i a1_0, .i a1_1, .i a1_2, .i a1_3, .r a1_4]] [.sr, .sr, .sl, .sr, .bl, .sr, .ce, .sr, .ce, .sr, .ct, .sr, .bl] js) j s
theorem spec_l14Do_e (k : Nat) (a0 : List (List T)) (a1_0 : Int) (a1_1 : Int) (a1_2 : Int) (a1_3 : Int) (a1_4 : List (List T)) : evalF E P0 (k + 1) N.spec_l14Do [.r a0, .v [.i a1_0, .i a1_1, .i a1_2, .i a1_3, .r a1_4]] = spec_l14Do_u k a0 a1_0 a1_1 a1_2 a1_3 a1_4 := by
  have e0 : evalF E P0 (k + 1) N.spec_l14Do [.r a0, .v [.i a1_0, .i a1_1, .i a1_2, .i a1_3, .r a1_4]] = spec_l14Do_U k a0 a1_0 a1_1 a1_2 a1_3 a1_4 (fun v => spec_l14Do_it1 k a0 a1_0 a1_1 a1_2 a1_3 a1_4 [] k (spec_l14Do_S1 a1_0 a1_1 a1_2 a1_3 a1_4 v)) (fun v => spec_l14Do_it2 k a0 a1_0 a1_1 a1_2 a1_3 a1_4 [] k (spec_l14Do_S2 a1_0 a1_1 a1_2 a1_3 a1_4 v)) := by kernel_rfl
  have e1 : ∀ (j1 : Nat) (v : Int × List (List T)), spec_l14Do_it1 k a0 a1_0 a1_1 a1_2 a1_3 a1_4 [] (j1 + 1) (spec_l14Do_S1 a1_0 a1_1 a1_2 a1_3 a1_4 v) = spec_l14Do_L1 k a1_0 a1_1 a1_2 a1_3 a1_4 (fun v => spec_l14Do_it1 k a0 a1_0 a1_1 a1_2 a1_3 a1_4 [] j1 (spec_l14Do_S1 a1_0 a1_1 a1_2 a1_3 a1_4 v)) v := by
    intro j1 v; kernel_rfl
  have i1 : ∀ (j1 : Nat) (v : Int × List (List T)), spec_l14Do_it1 k a0 a1_0 a1_1 a1_2 a1_3 a1_4 [] j1 (spec_l14Do_S1 a1_0 a1_1 a1_2 a1_3 a1_4 v) = fixN (spec_l14Do_l1 k a1_0 a1_1 a1_2 a1_3 a1_4) j1 v := by
    intro j1 v
    refine iter_fix (spec_l14Do_S1 a1_0 a1_1 a1_2 a1_3 a1_4) (spec_l14Do_l1 k a1_0 a1_1 a1_2 a1_3 a1_4) (fun j1 v => (e1 j1 v).trans ?_) j1 v
    unfold spec_l14Do_l1
    rfl
  have e2 : ∀ (j2 : Nat) (v : Int × List (List T)), spec_l14Do_it2 k a0 a1_0 a1_1 a1_2 a1_3 a1_4 [] (j2 + 1) (spec_l14Do_S2 a1_0 a1_1 a1_2 a1_3 a1_4 v) = spec_l14Do_L2 k a1_0 a1_1 a1_2 a1_3 a1_4 (fun v => spec_l14Do_it2 k a0 a1_0 a1_1 a1_2 a1_3 a1_4 [] j2 (spec_l14Do_S2 a1_0 a1_1 a1_2 a1_3 a1_4 v)) v := by
    intro j2 v; kernel_rfl
  have i2 : ∀ (j2 : Nat) (v : Int × List (List T)), spec_l14Do_it2 k a0 a1_0 a1_1 a1_2 a1_3 a1_4 [] j2 (spec_l14Do_S2 a1_0 a1_1 a1_2 a1_3 a1_4 v) = fixN (spec_l14Do_l2 k a1_0 a1_1 a1_2 a1_3 a1_4) j2 v := by
    intro j2 v
    refine iter_fix (spec_l14Do_S2 a1_0 a1_1 a1_2 a1_3 a1_4) (spec_l14Do_l2 k a1_0 a1_1 a1_2 a1_3 a1_4) (fun j2 v => (e2 j2 v).trans ?_) j2 v
    unfold spec_l14Do_l2
    rfl
  rw [e0]; unfold spec_l14Do_u
  simp only [i1, i2]
/- spec.DoCmd -/
def spec_DoCmd_J1 (k : Nat) (a1 : List (List T)) (a2_0 : Int) (a2_1 : Int) (a2_2 : Int) (a2_3 : Int) (a2_4 : List (List T)) (x1 : Int) : Option Outs :=
 bif (x1 != 0) then
  some ⟨[.r (([] : List (List T)) ++ a1), .i a2_1, .i x1, .r []], []⟩
 else
  bindO (evalF E P0 k N.spec_l14Do [.r (([] : List (List T)) ++ a1), .v [.i a2_0, .i a2_1, .i a2_2, .i a2_3, .r a2_4]]) fun o6 =>
  some ⟨[.r (o6.vt 0 0).asR, .i (o6.t 0).asI, .i (o6.t 1).asI, .r (o6.t 2).asR], []⟩
def spec_DoCmd_u (k : Nat) (a0_0 : Int) (a0_1 : Int) (a1 : List (List T)) (a2_0 : Int) (a2_1 : Int) (a2_2 : Int) (a2_3 : Int) (a2_4 : List (List T)) : Option Outs :=
 chk (decide ((([] : List (List T)).length + a1.length) * 8 ≤ 140737488355328)) <|
 bindO (evalF E P0 k N.spec_CmdCode [.v [.i a0_0, .i a0_1], .v [.i a2_0, .i a2_1, .i a2_2, .i a2_3, .r a2_4]]) fun o2 =>
 bindO (evalF E P0 k N.spec_Blocks [.v [.i a0_0, .i a0_1]]) fun o4 =>
 bif ((a1.length : Int) != (o4.t 0).asI) then
  spec_DoCmd_J1 k a1 a2_0 a2_1 a2_2 a2_3 a2_4 1
 else
  spec_DoCmd_J1 k a1 a2_0 a2_1 a2_2 a2_3 a2_4 ((o2.t 0).asI)
theorem spec_DoCmd_e (k : Nat) (a0_0 : Int) (a0_1 : Int) (a1 : List (List T)) (a2_0 : Int) (a2_1 : Int) (a2_2 : Int) (a2_3 : Int) (a2_4 : List (List T)) : evalF E P0 (k + 1) N.spec_DoCmd [.v [.i a0_0, .i a0_1], .v [.r a1], .v [.i a2_0, .i a2_1, .i a2_2, .i a2_3, .r a2_4]] = spec_DoCmd_u k a0_0 a0_1 a1 a2_0 a2_1 a2_2 a2_3 a2_4 := by kernel_rfl
/- spec.DoCmds -/
def spec_DoCmds_J1 (k : Nat) (a0_0 : Int) (a0_1 : Int) (a2 : List (List T)) (v8 : Int) (w15 : List (List T)) (w16 : List (List T)) (G1 : (Int × List (List T) × List (List T)) → Option Outs) (c12 : Bool) : Option Outs :=
 bif c12 then
  chk (decide (0 ≤ v8) && decide (v8 < (a2.length : Int))) <|
  bindO (evalF E P0 k N.spec_DoCmd [.v [.i a0_0, .i a0_1], .v [.r w15], .v [.i (at_ a2 v8.toNat 0).asI, .i (at_ a2 v8.toNat 1).asI, .i (at_ a2 v8.toNat 2).asI, .i (at_ a2 v8.toNat 3).asI, .r (at_ a2 v8.toNat 4).asR]]) fun o96 =>
  chk (decide ((w16.length + ([[.i (o96.t 1).asI, .i (o96.t 2).asI, .r (o96.t 3).asR]] : List (List T)).length) * 40 ≤ 140737488355328)) <|
  G1 ((IntKind.wrap .i64 (v8 + 1)), (o96.t 0).asR, (w16 ++ [[.i (o96.t 1).asI, .i (o96.t 2).asI, .r (o96.t 3).asR]]))
 else
  some ⟨[.r w15, .r w16], []⟩
def spec_DoCmds_L1 (k : Nat) (a0_0 : Int) (a0_1 : Int) (a2 : List (List T)) (G1 : (Int × List (List T) × List (List T)) → Option Outs) : (Int × List (List T) × List (List T)) → Option Outs := fun (v8, w15, w16) =>
 bif (decide (v8 < (a2.length : Int))) then
  spec_DoCmds_J1 k a0_0 a0_1 a2 v8 w15 w16 G1 (decide (v8 < 400))
 else
  spec_DoCmds_J1 k a0_0 a0_1 a2 v8 w15 w16 G1 false
def spec_DoCmds_k1 : List Nat := [2, 3, 6, 7, 8, 9, 10, 42, 43]
def spec_DoCmds_S1 (a0_0 : Int) (a0_1 : Int) (a2 : List (List T)) : (Int × List (List T) × List (List T)) → St := fun (v8, w15, w16) => ⟨ofSl [(2, .sl 82 a2), (3, .ptr (3, 0) 0), (6, .ref (6, 0)), (7, .ref (7, 0)), (8, .ref (8, 0)), (9, .ref (9, 0)), (10, .i .i64 v8), (42, .skip), (43, .skip)], ofMem [((3, 0), .var [.i .i64 a0_0, .i .i64 a0_1]), ((6, 0), .row 3 true []), ((7, 0), .row 80 true []), ((8, 0), .row 3 true w15), ((9, 0), .row 80 true w16)]⟩
def spec_DoCmds_l1 (k : Nat) (a0_0 : Int) (a0_1 : Int) (a2 : List (List T)) (G1 : (Int × List (List T) × List (List T)) → Option Outs) : (Int × List (List T) × List (List T)) → Option Outs :=
  spec_DoCmds_L1 k a0_0 a0_1 a2 G1
def spec_DoCmds_U (k : Nat) (a0_0 : Int) (a0_1 : Int) (a1 : List (List T)) (a2 : List (List T)) (R1 : (Int × List (List T) × List (List T)) → Option Outs) : Option Outs :=
 chk (decide ((([] : List (List T)).length + a1.length) * 8 ≤ 140737488355328)) <|
 R1 (0, (([] : List (List T)) ++ a1), [])
def spec_DoCmds_u (k : Nat) (a0_0 : Int) (a0_1 : Int) (a1 : List (List T)) (a2 : List (List T)) : Option Outs :=
  spec_DoCmds_U k a0_0 a0_1 a1 a2 (fun v => fixN (spec_DoCmds_l1 k a0_0 a0_1 a2) k v)
def spec_DoCmds_it1 (k : Nat) (a0_0 : Int) (a0_1 : Int) (a1 : List (List T)) (a2 : List (List T)) (js : List Nat) (j : Nat) (s : St) : Option Outs := iter (LB E (evalF E P0 k) k [] N.spec_DoCmds [.sr, .sr, .sr, .sl, .sr, .bl]) [] spec_DoCmds_k1 (LK E (evalF E P0 k) k [] N.spec_DoCmds [.v [.i a0_0, .i a0_1], .v [.r a1], .v [.r a2]] [.sr, .sr, .sr, .sl, .sr, .bl] js) j s
theorem spec_DoCmds_e (k : Nat) (a0_0 : Int) (a0_1 : Int) (a1 : List (List T)) (a2 : List (List T)) : evalF E P0 (k + 1) N.spec_DoCmds [.v [.i a0_0, .i a0_1], .v [.r a1], .v [.r a2]] = spec_DoCmds_u k a0_0 a0_1 a1 a2 := by
  have e0 : evalF E P0 (k + 1) N.spec_DoCmds [.v [.i a0_0, .i a0_1], .v [.r a1], .v [.r a2]] = spec_DoCmds_U k a0_0 a0_1 a1 a2 (fun v => spec_DoCmds_it1 k a0_0 a0_1 a1 a2 [] k (spec_DoCmds_S1 a0_0 a0_1 a2 v)) := by kernel_rfl
  have e1 : ∀ (j1 : Nat) (v : Int × List (List T) × List (List T)), spec_DoCmds_it1 k a0_0 a0_1 a1 a2 [] (j1 + 1) (spec_DoCmds_S1 a0_0 a0_1 a2 v) = spec_DoCmds_L1 k a0_0 a0_1 a2 (fun v => spec_DoCmds_it1 k a0_0 a0_1 a1 a2 [] j1 (spec_DoCmds_S1 a0_0 a0_1 a2 v)) v := by
    intro j1 v; kernel_rfl
  have i1 : ∀ (j1 : Nat) (v : Int × List (List T) × List (List T)), spec_DoCmds_it1 k a0_0 a0_1 a1 a2 [] j1 (spec_DoCmds_S1 a0_0 a0_1 a2 v) = fixN (spec_DoCmds_l1 k a0_0 a0_1 a2) j1 v := by
    intro j1 v
    refine iter_fix (spec_DoCmds_S1 a0_0 a0_1 a2) (spec_DoCmds_l1 k a0_0 a0_1 a2) (fun j1 v => (e1 j1 v).trans ?_) j1 v
    unfold spec_DoCmds_l1
    rfl
  rw [e0]; unfold spec_DoCmds_u
  simp only [i1]
/- spec.After -/
def spec_After_u (k : Nat) (a0_0 : Int) (a0_1 : Int) (a1 : List (List T)) (a2 : List (List T)) : Option Outs :=
 bindO (evalF E P0 k N.spec_CmdsOf [.v [.r a2]]) fun o3 =>
 bindO (evalF E P0 k N.spec_DoCmds [.v [.i a0_0, .i a0_1], .v [.r a1], .v [.r (o3.t 0).asR]]) fun o4 =>
 some ⟨[.r (o4.t 0).asR], []⟩
theorem spec_After_e (k : Nat) (a0_0 : Int) (a0_1 : Int) (a1 : List (List T)) (a2 : List (List T)) : evalF E P0 (k + 1) N.spec_After [.v [.i a0_0, .i a0_1], .v [.r a1], .v [.r a2]] = spec_After_u k a0_0 a0_1 a1 a2 := by kernel_rfl
/- impl.GeoOk -/
def impl_GeoOk_u (k : Nat) (a0_0 : Int) (a0_1 : Int) : Option Outs :=
 bindO (evalF E P0 k N.impl_within [.v [.i a0_0], .v [.i 3], .v [.i 5]]) fun o3 =>
 bif (o3.t 0).asB then
  bindO (evalF E P0 k N.impl_within [.v [.i a0_1], .v [.i 1], .v [.i 8]]) fun o4 =>
  some ⟨[.b (o4.t 0).asB], []⟩
 else
  some ⟨[.b false], []⟩
theorem impl_GeoOk_e (k : Nat) (a0_0 : Int) (a0_1 : Int) : evalF E P0 (k + 1) N.impl_GeoOk [.v [.i a0_0, .i a0_1]] = impl_GeoOk_u k a0_0 a0_1 := by kernel_rfl
/- impl.isWord -/
def impl_isWord_u (k : Nat) (a0 : Int) : Option Outs :=
 bindO (evalF E P0 k N.impl_within [.v [.i a0], .v [.i 0], .v [.i 65535]]) fun o2 =>
 some ⟨[.b (o2.t 0).asB], []⟩
theorem impl_isWord_e (k : Nat) (a0 : Int) : evalF E P0 (k + 1) N.impl_isWord [.v [.i a0]] = impl_isWord_u k a0 := by kernel_rfl
/- impl.wordsOk -/
def impl_wordsOk_L1 (k : Nat) (a0 : List (List T)) (G1 : (Int) → Option Outs) : (Int) → Option Outs := fun v8 =>
 bif (decide (v8 < (a0.length : Int))) then
  chk (decide (0 ≤ v8) && decide (v8 < (a0.length : Int))) <|
  bindO (evalF E P0 k N.impl_isWord [.v [.i (at_ a0 v8.toNat 0).asI]]) fun o96 =>
  bif (!(o96.t 0).asB) then some ⟨[.b false], []⟩ else G1 (IntKind.wrap .i64 (v8 + 1))
 else
  some ⟨[.b true], []⟩
def impl_wordsOk_k1 : List Nat := [2, 5, 6, 7]
def impl_wordsOk_S1 (a0 : List (List T)) : (Int) → St := fun v8 => ⟨ofSl [(2, .b false), (5, .sl 3 a0), (6, .i .i64 (a0.length : Int)), (7, .i .i64 v8)], ofMem []⟩
def impl_wordsOk_l1 (k : Nat) (a0 : List (List T)) (G1 : (Int) → Option Outs) : (Int) → Option Outs :=
  impl_wordsOk_L1 k a0 G1
def impl_wordsOk_U (k : Nat) (a0 : List (List T)) (R1 : (Int) → Option Outs) : Option Outs :=
 R1 0
def impl_wordsOk_u (k : Nat) (a0 : List (List T)) : Option Outs :=
  impl_wordsOk_U k a0 (fun v => fixN (impl_wordsOk_l1 k a0) k v)
def impl_wordsOk_it1 (k : Nat) (a0 : List (List T)) (js : List Nat) (j : Nat) (s : St) : Option Outs := iter (LB E (evalF E P0 k) k [] N.impl_wordsOk [.sr, .sl, .sr, .bl]) [] impl_wordsOk_k1 (LK E (evalF E P0 k) k [] N.impl_wordsOk [.v [.r a0]] [.sr, .sl, .sr, .bl] js) j s
theorem impl_wordsOk_e (k : Nat) (a0 : List (List T)) : evalF E P0 (k + 1) N.impl_wordsOk [.v [.r a0]] = impl_wordsOk_u k a0 := by
  have e0 : evalF E P0 (k + 1) N.impl_wordsOk [.v [.r a0]] = impl_wordsOk_U k a0 (fun v => impl_wordsOk_it1 k a0 [] k (impl_wordsOk_S1 a0 v)) := by kernel_rfl
  have e1 : ∀ (j1 : Nat) (v : Int), impl_wordsOk_it1 k a0 [] (j1 + 1) (impl_wordsOk_S1 a0 v) = impl_wordsOk_L1 k a0 (fun v => impl_wordsOk_it1 k a0 [] j1 (impl_wordsOk_S1 a0 v)) v := by
    intro j1 v; kernel_rfl
  have i1 : ∀ (j1 : Nat) (v : Int), impl_wordsOk_it1 k a0 [] j1 (impl_wordsOk_S1 a0 v) = fixN (impl_wordsOk_l1 k a0) j1 v := by
    intro j1 v
    refine iter_fix (impl_wordsOk_S1 a0) (impl_wordsOk_l1 k a0) (fun j1 v => (e1 j1 v).trans ?_) j1 v
    unfold impl_wordsOk_l1
    rfl
  rw [e0]; unfold impl_wordsOk_u
  simp only [i1]
/- impl.sizeOk -/
def impl_sizeOk_J1 (k : Nat) (a0_0 : Int) (a0_4 : List (List T)) (c17 : Bool) : Option Outs :=
 bif c17 then
  bindO (evalF E P0 k N.impl_within [.v [.i (a0_4.length : Int)], .v [.i 1], .v [.i 6]]) fun o39 =>
  bif (o39.t 0).asB then
   bindO (evalF E P0 k N.impl_wordsOk [.v [.r a0_4]]) fun o40 =>
   some ⟨[.b (o40.t 0).asB], []⟩
  else
   some ⟨[.b false], []⟩
 else
  bif (a0_0 == 5) then
   bif ((a0_4.length : Int) == 2) then
    bindO (evalF E P0 k N.impl_wordsOk [.v [.r a0_4]]) fun o42 =>
    some ⟨[.b (o42.t 0).asB], []⟩
   else
    some ⟨[.b false], []⟩
  else
   some ⟨[.b true], []⟩
def impl_sizeOk_u (k : Nat) (a0_0 : Int) (a0_1 : Int) (a0_2 : Int) (a0_3 : Int) (a0_4 : List (List T)) : Option Outs :=
 bif (a0_0 == 1) then
  bindO (evalF E P0 k N.impl_within [.v [.i a0_3], .v [.i 1], .v [.i 6]]) fun o34 =>
  some ⟨[.b (o34.t 0).asB], []⟩
 else
  bif (a0_0 == 6) then
   bindO (evalF E P0 k N.impl_within [.v [.i a0_3], .v [.i 1], .v [.i 6]]) fun o36 =>
   some ⟨[.b (o36.t 0).asB], []⟩
  else
   bif (a0_0 == 2) then impl_sizeOk_J1 k a0_0 a0_4 true else impl_sizeOk_J1 k a0_0 a0_4 (a0_0 == 3)
theorem impl_sizeOk_e (k : Nat) (a0_0 : Int) (a0_1 : Int) (a0_2 : Int) (a0_3 : Int) (a0_4 : List (List T)) : evalF E P0 (k + 1) N.impl_sizeOk [.v [.i a0_0, .i a0_1, .i a0_2, .i a0_3, .r a0_4]] = impl_sizeOk_u k a0_0 a0_1 a0_2 a0_3 a0_4 := by kernel_rfl
/- impl.Blocks -/
def impl_Blocks_u (k : Nat) (a0_0 : Int) (a0_1 : Int) : Option Outs :=
 bindO (evalF E P0 k N.impl_GeoOk [.v [.i a0_0, .i a0_1]]) fun o2 =>
 bif (!(o2.t 0).asB) then
  some ⟨[.i 0], []⟩
 else
  some ⟨[.i (IntKind.wrap .i64 (a0_1 * (IntKind.wrap .i64 (a0_0 - 1))))], []⟩
theorem impl_Blocks_e (k : Nat) (a0_0 : Int) (a0_1 : Int) : evalF E P0 (k + 1) N.impl_Blocks [.v [.i a0_0, .i a0_1]] = impl_Blocks_u k a0_0 a0_1 := by kernel_rfl
/- impl.runOf -/
def impl_runOf_u (k : Nat) (a0_0 : Int) (a0_1 : Int) (a0_2 : Int) (a0_3 : Int) (a0_4 : List (List T)) : Option Outs :=
 bif (a0_0 == 1) then
  some ⟨[.i a0_3], []⟩
 else
  bif (a0_0 == 6) then
   some ⟨[.i a0_3], []⟩
  else
   bif (a0_0 == 2) then
    some ⟨[.i (a0_4.length : Int)], []⟩
   else
    bif (a0_0 == 3) then
     some ⟨[.i (a0_4.length : Int)], []⟩
    else
     bif (a0_0 == 5) then some ⟨[.i 1], []⟩ else some ⟨[.i 0], []⟩
theorem impl_runOf_e (k : Nat) (a0_0 : Int) (a0_1 : Int) (a0_2 : Int) (a0_3 : Int) (a0_4 : List (List T)) : evalF E P0 (k + 1) N.impl_runOf [.v [.i a0_0, .i a0_1, .i a0_2, .i a0_3, .r a0_4]] = impl_runOf_u k a0_0 a0_1 a0_2 a0_3 a0_4 := by kernel_rfl
/- impl.CmdCode -/
def impl_CmdCode_J1 (k : Nat) (a0_0 : Int) (a0_1 : Int) (a1_0 : Int) (a1_1 : Int) (a1_2 : Int) (a1_3 : Int) (a1_4 : List (List T)) (c7 : Bool) : Option Outs :=
 bif c7 then
  some ⟨[.i 1], []⟩
 else
  bindO (evalF E P0 k N.impl_sizeOk [.v [.i a1_0, .i a1_1, .i a1_2, .i a1_3, .r a1_4]]) fun o48 =>
  bif (!(o48.t 0).asB) then
   some ⟨[.i 3], []⟩
  else
   bif (a1_0 != 4) then
    bindO (evalF E P0 k N.impl_Blocks [.v [.i a0_0, .i a0_1]]) fun o52 =>
    bindO (evalF E P0 k N.impl_runOf [.v [.i a1_0, .i a1_1, .i a1_2, .i a1_3, .r a1_4]]) fun o53 =>
    bindO (evalF E P0 k N.impl_within [.v [.i a1_2], .v [.i 0], .v [.i (IntKind.wrap .i64 ((o52.t 0).asI - (o53.t 0).asI))]]) fun o54 =>
    bif (!(o54.t 0).asB) then some ⟨[.i 2], []⟩ else some ⟨[.i 0], []⟩
   else
    some ⟨[.i 0], []⟩
def impl_CmdCode_u (k : Nat) (a0_0 : Int) (a0_1 : Int) (a1_0 : Int) (a1_1 : Int) (a1_2 : Int) (a1_3 : Int) (a1_4 : List (List T)) : Option Outs :=
 bindO (evalF E P0 k N.impl_GeoOk [.v [.i a0_0, .i a0_1]]) fun o46 =>
 bif (!(o46.t 0).asB) then
  impl_CmdCode_J1 k a0_0 a0_1 a1_0 a1_1 a1_2 a1_3 a1_4 true
 else
  bindO (evalF E P0 k N.impl_within [.v [.i a1_0], .v [.i 1], .v [.i 6]]) fun o55 =>
  bif (!(o55.t 0).asB) then
   impl_CmdCode_J1 k a0_0 a0_1 a1_0 a1_1 a1_2 a1_3 a1_4 true
  else
   bindO (evalF E P0 k N.impl_within [.v [.i a1_1], .v [.i 1], .v [.i 999]]) fun o56 =>
   impl_CmdCode_J1 k a0_0 a0_1 a1_0 a1_1 a1_2 a1_3 a1_4 (!(o56.t 0).asB)
theorem impl_CmdCode_e (k : Nat) (a0_0 : Int) (a0_1 : Int) (a1_0 : Int) (a1_1 : Int) (a1_2 : Int) (a1_3 : Int) (a1_4 : List (List T)) : evalF E P0 (k + 1) N.impl_CmdCode [.v [.i a0_0, .i a0_1], .v [.i a1_0, .i a1_1, .i a1_2, .i a1_3, .r a1_4]] = impl_CmdCode_u k a0_0 a0_1 a1_0 a1_1 a1_2 a1_3 a1_4 := by kernel_rfl
/- impl.SpanOf -/
def impl_SpanOf_u (k : Nat) (a0_0 : Int) (a0_1 : Int) (a1_0 : Int) (a1_1 : Int) (a1_2 : Int) (a1_3 : Int) (a1_4 : List (List T)) : Option Outs :=
 bindO (evalF E P0 k N.impl_CmdCode [.v [.i a0_0, .i a0_1], .v [.i a1_0, .i a1_1, .i a1_2, .i a1_3, .r a1_4]]) fun o14 =>
 bif ((o14.t 0).asI != 0) then
  some ⟨[.i 0, .i 0], []⟩
 else
  bif (a1_0 == 4) then
   bindO (evalF E P0 k N.impl_Blocks [.v [.i a0_0, .i a0_1]]) fun o16 =>
   some ⟨[.i 0, .i (o16.t 0).asI], []⟩
  else
   bindO (evalF E P0 k N.impl_runOf [.v [.i a1_0, .i a1_1, .i a1_2, .i a1_3, .r a1_4]]) fun o18 =>
   some ⟨[.i a1_2, .i (IntKind.wrap .i64 (a1_2 + (o18.t 0).asI))], []⟩
theorem impl_SpanOf_e (k : Nat) (a0_0 : Int) (a0_1 : Int) (a1_0 : Int) (a1_1 : Int) (a1_2 : Int) (a1_3 : Int) (a1_4 : List (List T)) : evalF E P0 (k + 1) N.impl_SpanOf [.v [.i a0_0, .i a0_1], .v [.i a1_0, .i a1_1, .i a1_2, .i a1_3, .r a1_4]] = impl_SpanOf_u k a0_0 a0_1 a1_0 a1_1 a1_2 a1_3 a1_4 := by kernel_rfl
/- impl.DoCmd -/
def impl_DoCmd_J2 (k : Nat) (a1 : List (List T)) (a2_0 : Int) (a2_1 : Int) (a2_4 : List (List T)) (o2 : Outs) (o8 : Outs) (x1 : Int) (c4 : Bool) : Option Outs :=
 bif c4 then
  chk (decide (0 ≤ (o8.t 0).asI) && decide ((o8.t 0).asI ≤ (o8.t 1).asI) && decide ((o8.t 1).asI ≤ ((o2.t 0).asR.length : Int))) <|
  some ⟨[.r (overlay (o2.t 0).asR (o8.t 0).asI.toNat (a2_4.take ((o8.t 1).asI.toNat - (o8.t 0).asI.toNat))), .i a2_1, .i x1, .r []], []⟩
 else
  bif (a2_0 == 6) then
   chk (decide (0 ≤ (o8.t 0).asI) && decide ((o8.t 0).asI ≤ (o8.t 1).asI) && decide ((o8.t 1).asI ≤ ((o2.t 0).asR.length : Int))) <|
   some ⟨[.r (overlay (o2.t 0).asR (o8.t 0).asI.toNat (List.replicate ((o8.t 1).asI.toNat - (o8.t 0).asI.toNat) [.i 0])), .i a2_1, .i x1, .r []], []⟩
  else
   bif (a2_0 == 5) then
    chk (decide (0 ≤ (o8.t 0).asI) && decide ((o8.t 0).asI < (a1.length : Int))) <|
    chk (decide ((0 : Int) < (a2_4.length : Int))) <|
    bif ((at_ a1 (o8.t 0).asI.toNat 0).asI == (at_ a2_4 0 0).asI) then
     chk (decide ((1 : Int) < (a2_4.length : Int))) <|
     chk (decide (0 ≤ (o8.t 0).asI) && decide ((o8.t 0).asI < ((o2.t 0).asR.length : Int))) <|
     some ⟨[.r (put_ (o2.t 0).asR (o8.t 0).asI.toNat 0 [.i (at_ a2_4 1 0).asI]), .i a2_1, .i x1, .r []], []⟩
    else
     some ⟨[.r (o2.t 0).asR, .i a2_1, .i 4, .r []], []⟩
   else
    some ⟨[.r (o2.t 0).asR, .i a2_1, .i x1, .r []], []⟩
def impl_DoCmd_J1 (k : Nat) (a0_0 : Int) (a0_1 : Int) (a1 : List (List T)) (a2_0 : Int) (a2_1 : Int) (a2_2 : Int) (a2_3 : Int) (a2_4 : List (List T)) (o2 : Outs) (x1 : Int) : Option Outs :=
 bif (x1 != 0) then
  some ⟨[.r (o2.t 0).asR, .i a2_1, .i x1, .r []], []⟩
 else
  bindO (evalF E P0 k N.impl_SpanOf [.v [.i a0_0, .i a0_1], .v [.i a2_0, .i a2_1, .i a2_2, .i a2_3, .r a2_4]]) fun o8 =>
  bif (a2_0 == 1) then
   chk (decide (0 ≤ (o8.t 0).asI) && decide ((o8.t 0).asI ≤ (o8.t 1).asI) && decide ((o8.t 1).asI ≤ (a1.length : Int))) <|
   bindO (evalF E P0 k N.impl_copyInts [.v [.r ((a1.drop (o8.t 0).asI.toNat).take ((o8.t 1).asI.toNat - (o8.t 0).asI.toNat))]]) fun o12 =>
   some ⟨[.r (o2.t 0).asR, .i a2_1, .i x1, .r (o12.t 0).asR], []⟩
  else
   bif (a2_0 == 2) then
    impl_DoCmd_J2 k a1 a2_0 a2_1 a2_4 o2 o8 x1 true
   else
    impl_DoCmd_J2 k a1 a2_0 a2_1 a2_4 o2 o8 x1 (a2_0 == 3)
def impl_DoCmd_u (k : Nat) (a0_0 : Int) (a0_1 : Int) (a1 : List (List T)) (a2_0 : Int) (a2_1 : Int) (a2_2 : Int) (a2_3 : Int) (a2_4 : List (List T)) : Option Outs :=
 bindO (evalF E P0 k N.impl_copyInts [.v [.r a1]]) fun o2 =>
 bindO (evalF E P0 k N.impl_CmdCode [.v [.i a0_0, .i a0_1], .v [.i a2_0, .i a2_1, .i a2_2, .i a2_3, .r a2_4]]) fun o4 =>
 bindO (evalF E P0 k N.impl_Blocks [.v [.i a0_0, .i a0_1]]) fun o6 =>
 bif ((a1.length : Int) != (o6.t 0).asI) then
  impl_DoCmd_J1 k a0_0 a0_1 a1 a2_0 a2_1 a2_2 a2_3 a2_4 o2 1
 else
  impl_DoCmd_J1 k a0_0 a0_1 a1 a2_0 a2_1 a2_2 a2_3 a2_4 o2 ((o4.t 0).asI)
theorem impl_DoCmd_e (k : Nat) (a0_0 : Int) (a0_1 : Int) (a1 : List (List T)) (a2_0 : Int) (a2_1 : Int) (a2_2 : Int) (a2_3 : Int) (a2_4 : List (List T)) : evalF E P0 (k + 1) N.impl_DoCmd [.v [.i a0_0, .i a0_1], .v [.r a1], .v [.i a2_0, .i a2_1, .i a2_2, .i a2_3, .r a2_4]] = impl_DoCmd_u k a0_0 a0_1 a1 a2_0 a2_1 a2_2 a2_3 a2_4 := by kernel_rfl
/- impl.DoCmds -/
def impl_DoCmds_L1 (k : Nat) (a0_0 : Int) (a0_1 : Int) (p23 : List (List T)) (p24 : Int) (G1 : (Int × List (List T) × List (List T)) → Option Outs) : (Int × List (List T) × List (List T)) → Option Outs := fun (v8, w15, w16) =>
 bif (decide (v8 < p24)) then
  chk (decide (0 ≤ v8) && decide (v8 < (p23.length : Int))) <|
  bindO (evalF E P0 k N.impl_DoCmd [.v [.i a0_0, .i a0_1], .v [.r w15], .v [.i (at_ p23 v8.toNat 0).asI, .i (at_ p23 v8.toNat 1).asI, .i (at_ p23 v8.toNat 2).asI, .i (at_ p23 v8.toNat 3).asI, .r (at_ p23 v8.toNat 4).asR]]) fun o98 =>
  chk (decide ((w16.length + ([[.i (o98.t 1).asI, .i (o98.t 2).asI, .r (o98.t 3).asR]] : List (List T)).length) * 40 ≤ 140737488355328)) <|
  G1 ((IntKind.wrap .i64 (v8 + 1)), (o98.t 0).asR, (w16 ++ [[.i (o98.t 1).asI, .i (o98.t 2).asI, .r (o98.t 3).asR]]))
 else
  some ⟨[.r w15, .r w16], []⟩
def impl_DoCmds_k1 : List Nat := [3, 6, 7, 8, 9, 21, 22, 23, 40, 41]
def impl_DoCmds_S1 (a0_0 : Int) (a0_1 : Int) (p23 : List (List T)) (p24 : Int) : (Int × List (List T) × List (List T)) → St := fun (v8, w15, w16) => ⟨ofSl [(3, .ptr (3, 0) 0), (6, .ref (6, 0)), (7, .ref (7, 0)), (8, .ref (8, 0)), (9, .ref (9, 0)), (21, .sl 82 p23), (22, .i .i64 p24), (23, .i .i64 v8), (40, .skip), (41, .skip)], ofMem [((3, 0), .var [.i .i64 a0_0, .i .i64 a0_1]), ((6, 0), .row 3 true []), ((7, 0), .row 80 true []), ((8, 0), .row 3 true w15), ((9, 0), .row 80 true w16)]⟩
def impl_DoCmds_l1 (k : Nat) (a0_0 : Int) (a0_1 : Int) (p23 : List (List T)) (p24 : Int) (G1 : (Int × List (List T) × List (List T)) → Option Outs) : (Int × List (List T) × List (List T)) → Option Outs :=
  impl_DoCmds_L1 k a0_0 a0_1 p23 p24 G1
def impl_DoCmds_U (k : Nat) (a0_0 : Int) (a0_1 : Int) (a1 : List (List T)) (a2 : List (List T)) (R1 : List (List T) → Int → (Int × List (List T) × List (List T)) → Option Outs) : Option Outs :=
 bindO (evalF E P0 k N.impl_copyInts [.v [.r a1]]) fun o2 =>
 chk (decide (0 ≤ 0) && decide (0 ≤ (if 400 < (a2.length : Int) then 400 else (a2.length : Int))) && decide ((if 400 < (a2.length : Int) then 400 else (a2.length : Int)) ≤ (a2.length : Int))) <|
 R1 ((a2.drop (0 : Int).toNat).take ((if 400 < (a2.length : Int) then 400 else (a2.length : Int)).toNat - (0 : Int).toNat)) (((a2.drop (0 : Int).toNat).take ((if 400 < (a2.length : Int) then 400 else (a2.length : Int)).toNat - (0 : Int).toNat)).length : Int) (0, (o2.t 0).asR, [])
def impl_DoCmds_u (k : Nat) (a0_0 : Int) (a0_1 : Int) (a1 : List (List T)) (a2 : List (List T)) : Option Outs :=
  impl_DoCmds_U k a0_0 a0_1 a1 a2 (fun y0 y1 v => fixN (impl_DoCmds_l1 k a0_0 a0_1 y0 y1) k v)
def impl_DoCmds_it1 (k : Nat) (a0_0 : Int) (a0_1 : Int) (a1 : List (List T)) (a2 : List (List T)) (js : List Nat) (j : Nat) (s : St) : Option Outs := iter (LB E (evalF E P0 k) k [] N.impl_DoCmds [.sr, .sr, .sr, .sl, .sr, .bl]) [] impl_DoCmds_k1 (LK E (evalF E P0 k) k [] N.impl_DoCmds [.v [.i a0_0, .i a0_1], .v [.r a1], .v [.r a2]] [.sr, .sr, .sr, .sl, .sr, .bl] js) j s
theorem impl_DoCmds_e (k : Nat) (a0_0 : Int) (a0_1 : Int) (a1 : List (List T)) (a2 : List (List T)) : evalF E P0 (k + 1) N.impl_DoCmds [.v [.i a0_0, .i a0_1], .v [.r a1], .v [.r a2]] = impl_DoCmds_u k a0_0 a0_1 a1 a2 := by
  have e0 : evalF E P0 (k + 1) N.impl_DoCmds [.v [.i a0_0, .i a0_1], .v [.r a1], .v [.r a2]] = impl_DoCmds_U k a0_0 a0_1 a1 a2 (fun y0 y1 v => impl_DoCmds_it1 k a0_0 a0_1 a1 a2 [] k (impl_DoCmds_S1 a0_0 a0_1 y0 y1 v)) := by kernel_rfl
  have e1 : ∀ (p23 : List (List T)) (p24 : Int) (j1 : Nat) (v : Int × List (List T) × List (List T)), impl_DoCmds_it1 k a0_0 a0_1 a1 a2 [] (j1 + 1) (impl_DoCmds_S1 a0_0 a0_1 p23 p24 v) = impl_DoCmds_L1 k a0_0 a0_1 p23 p24 (fun v => impl_DoCmds_it1 k a0_0 a0_1 a1 a2 [] j1 (impl_DoCmds_S1 a0_0 a0_1 p23 p24 v)) v := by
    intro p23 p24 j1 v; kernel_rfl
  have i1 : ∀ (p23 : List (List T)) (p24 : Int) (j1 : Nat) (v : Int × List (List T) × List (List T)), impl_DoCmds_it1 k a0_0 a0_1 a1 a2 [] j1 (impl_DoCmds_S1 a0_0 a0_1 p23 p24 v) = fixN (impl_DoCmds_l1 k a0_0 a0_1 p23 p24) j1 v := by
    intro p23 p24 j1 v
    refine iter_fix (impl_DoCmds_S1 a0_0 a0_1 p23 p24) (impl_DoCmds_l1 k a0_0 a0_1 p23 p24) (fun j1 v => (e1 p23 p24 j1 v).trans ?_) j1 v
    unfold impl_DoCmds_l1
    rfl
  rw [e0]; unfold impl_DoCmds_u
  simp only [i1]
/- impl.After -/
def impl_After_u (k : Nat) (a0_0 : Int) (a0_1 : Int) (a1 : List (List T)) (a2 : List (List T)) : Option Outs :=
 bindO (evalF E P0 k N.impl_CmdsOf [.v [.r a2]]) fun o3 =>
 bindO (evalF E P0 k N.impl_DoCmds [.v [.i a0_0, .i a0_1], .v [.r a1], .v [.r (o3.t 0).asR]]) fun o4 =>
 some ⟨[.r (o4.t 0).asR], []⟩
theorem impl_After_e (k : Nat) (a0_0 : Int) (a0_1 : Int) (a1 : List (List T)) (a2 : List (List T)) : evalF E P0 (k + 1) N.impl_After [.v [.i a0_0, .i a0_1], .v [.r a1], .v [.r a2]] = impl_After_u k a0_0 a0_1 a1 a2 := by kernel_rfl
end
end Go.Proofs.Ytffloigfgjoimaa.Ev
