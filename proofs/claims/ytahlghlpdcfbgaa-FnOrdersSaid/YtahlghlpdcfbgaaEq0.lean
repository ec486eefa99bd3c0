/- What functions answer under the evaluator, as Lean terms, part 0. No condition. -/
import Derived.Test.YtahlghlpdcfbgaaTab
namespace Go.Proofs.Ytahlghlpdcfbgaa.Ev
open Go Go.Proofs
set_option linter.unusedVariables false
set_option maxRecDepth 100000
set_option maxHeartbeats 4000000
noncomputable section
/- laws.szIntS -/
def laws_szIntS_u (k : Nat) (a0 : List (List T)) (a1 : Int) : Option Outs :=
 bif (decide ((IntKind.wrap .i64 (a1 - (a0.length : Int))) < 0)) then
  some ⟨[.i (-1)], []⟩
 else
  some ⟨[.i (IntKind.wrap .i64 (a1 - (a0.length : Int)))], []⟩
theorem laws_szIntS_e (k : Nat) (a0 : List (List T)) (a1 : Int) : evalF E P0 (k + 1) N.laws_szIntS [.v [.r a0], .v [.i a1]] = laws_szIntS_u k a0 a1 := by kernel_rfl
/- laws.szCmd -/
def laws_szCmd_u (k : Nat) (a0_0 : Int) (a0_1 : Int) (a0_2 : Int) (a0_3 : Int) (a0_4 : List (List T)) (a1 : Int) : Option Outs :=
 bindO (evalF E P0 k N.laws_szIntS [.v [.r a0_4], .v [.i a1]]) fun o2 =>
 bif (decide ((o2.t 0).asI < 0)) then some ⟨[.i (-1)], []⟩ else some ⟨[.i (o2.t 0).asI], []⟩
theorem laws_szCmd_e (k : Nat) (a0_0 : Int) (a0_1 : Int) (a0_2 : Int) (a0_3 : Int) (a0_4 : List (List T)) (a1 : Int) : evalF E P0 (k + 1) N.laws_szCmd [.v [.i a0_0, .i a0_1, .i a0_2, .i a0_3, .r a0_4], .v [.i a1]] = laws_szCmd_u k a0_0 a0_1 a0_2 a0_3 a0_4 a1 := by kernel_rfl
/- laws.szAns -/
def laws_szAns_u (k : Nat) (a0_0 : Int) (a0_1 : Int) (a0_2 : List (List T)) (a1 : Int) : Option Outs :=
 bindO (evalF E P0 k N.laws_szIntS [.v [.r a0_2], .v [.i a1]]) fun o2 =>
 bif (decide ((o2.t 0).asI < 0)) then some ⟨[.i (-1)], []⟩ else some ⟨[.i (o2.t 0).asI], []⟩
theorem laws_szAns_e (k : Nat) (a0_0 : Int) (a0_1 : Int) (a0_2 : List (List T)) (a1 : Int) : evalF E P0 (k + 1) N.laws_szAns [.v [.i a0_0, .i a0_1, .r a0_2], .v [.i a1]] = laws_szAns_u k a0_0 a0_1 a0_2 a1 := by kernel_rfl
/- laws.szTurn -/
def laws_szTurn_u (k : Nat) (a0_0 : Int) (a0_1 : Int) (a0_2 : Int) (a0_3 : Int) (a0_4 : List (List T)) (a0_5 : Int) (a0_6 : Int) (a0_7 : List (List T)) (a1 : Int) : Option Outs :=
 bindO (evalF E P0 k N.laws_szCmd [.v [.i a0_0, .i a0_1, .i a0_2, .i a0_3, .r a0_4], .v [.i a1]]) fun o2 =>
 bif (decide ((o2.t 0).asI < 0)) then
  some ⟨[.i (-1)], []⟩
 else
  bindO (evalF E P0 k N.laws_szAns [.v [.i a0_5, .i a0_6, .r a0_7], .v [.i (o2.t 0).asI]]) fun o4 =>
  bif (decide ((o4.t 0).asI < 0)) then some ⟨[.i (-1)], []⟩ else some ⟨[.i (o4.t 0).asI], []⟩
theorem laws_szTurn_e (k : Nat) (a0_0 : Int) (a0_1 : Int) (a0_2 : Int) (a0_3 : Int) (a0_4 : List (List T)) (a0_5 : Int) (a0_6 : Int) (a0_7 : List (List T)) (a1 : Int) : evalF E P0 (k + 1) N.laws_szTurn [.v [.i a0_0, .i a0_1, .i a0_2, .i a0_3, .r a0_4, .i a0_5, .i a0_6, .r a0_7], .v [.i a1]] = laws_szTurn_u k a0_0 a0_1 a0_2 a0_3 a0_4 a0_5 a0_6 a0_7 a1 := by kernel_rfl
/- laws.szTurnS -/
def laws_szTurnS_L1 (k : Nat) (a0 : List (List T)) (G1 : (Int × Int) → Option Outs) : (Int × Int) → Option Outs := fun (v15, v16) =>
 bif (decide (v16 < (a0.length : Int))) then
  chk (decide (0 ≤ v16) && decide (v16 < (a0.length : Int))) <|
  bindO (evalF E P0 k N.laws_szTurn [.v [.i (at_ a0 v16.toNat 0).asI, .i (at_ a0 v16.toNat 1).asI, .i (at_ a0 v16.toNat 2).asI, .i (at_ a0 v16.toNat 3).asI, .r (at_ a0 v16.toNat 4).asR, .i (at_ a0 v16.toNat 5).asI, .i (at_ a0 v16.toNat 6).asI, .r (at_ a0 v16.toNat 7).asR], .v [.i v15]]) fun o96 =>
  bif (decide ((o96.t 0).asI < 0)) then some ⟨[.i (-1)], []⟩ else G1 ((o96.t 0).asI, (IntKind.wrap .i64 (v16 + 1)))
 else
  some ⟨[.i v15], []⟩
def laws_szTurnS_k1 : List Nat := [0, 1, 4, 5, 26]
def laws_szTurnS_S1 (a0 : List (List T)) : (Int × Int) → St := fun (v15, v16) => ⟨ofSl [(0, .sl 93 a0), (1, .i .i64 v15), (4, .i .i64 0), (5, .i .i64 v16), (26, .skip)], ofMem []⟩
def laws_szTurnS_l1 (k : Nat) (a0 : List (List T)) (G1 : (Int × Int) → Option Outs) : (Int × Int) → Option Outs :=
  laws_szTurnS_L1 k a0 G1
def laws_szTurnS_U (k : Nat) (a0 : List (List T)) (a1 : Int) (R1 : (Int × Int) → Option Outs) : Option Outs :=
 bif (decide ((IntKind.wrap .i64 (a1 - (a0.length : Int))) < 0)) then
  some ⟨[.i (-1)], []⟩
 else
  R1 ((IntKind.wrap .i64 (a1 - (a0.length : Int))), 0)
def laws_szTurnS_u (k : Nat) (a0 : List (List T)) (a1 : Int) : Option Outs :=
  laws_szTurnS_U k a0 a1 (fun v => fixN (laws_szTurnS_l1 k a0) k v)
def laws_szTurnS_it1 (k : Nat) (a0 : List (List T)) (a1 : Int) (js : List Nat) (j : Nat) (s : St) : Option Outs := iter E (LB E (evalF E P0 k) k [] N.laws_szTurnS [.sr, .sr, .sr, .sl, .sr, .bl]) [] laws_szTurnS_k1 (LK E (evalF E P0 k) k [] N.laws_szTurnS [.v [.r a0], .v [.i a1]] [.sr, .sr, .sr, .sl, .sr, .bl] js) j s
theorem laws_szTurnS_e (k : Nat) (a0 : List (List T)) (a1 : Int) : evalF E P0 (k + 1) N.laws_szTurnS [.v [.r a0], .v [.i a1]] = laws_szTurnS_u k a0 a1 := by
  have e0 : evalF E P0 (k + 1) N.laws_szTurnS [.v [.r a0], .v [.i a1]] = laws_szTurnS_U k a0 a1 (fun v => laws_szTurnS_it1 k a0 a1 [] k (laws_szTurnS_S1 a0 v)) := by kernel_rfl
  have e1 : ∀ (j1 : Nat) (v : Int × Int), laws_szTurnS_it1 k a0 a1 [] (j1 + 1) (laws_szTurnS_S1 a0 v) = laws_szTurnS_L1 k a0 (fun v => laws_szTurnS_it1 k a0 a1 [] j1 (laws_szTurnS_S1 a0 v)) v := by
    intro j1 v; kernel_rfl
  have i1 : ∀ (j1 : Nat) (v : Int × Int), laws_szTurnS_it1 k a0 a1 [] j1 (laws_szTurnS_S1 a0 v) = fixN (laws_szTurnS_l1 k a0) j1 v := by
    intro j1 v
    refine iter_fix (laws_szTurnS_S1 a0) (laws_szTurnS_l1 k a0) (fun j1 v => (e1 j1 v).trans ?_) j1 v
    unfold laws_szTurnS_l1
    rfl
  rw [e0]; unfold laws_szTurnS_u
  simp only [i1]
/- laws.toIntS -/
def laws_toIntS_L1 (k : Nat) (a0 : List (List T)) (G1 : (Int × List (List T)) → Option Outs) : (Int × List (List T)) → Option Outs := fun (v8, w8) =>
 bif (decide (v8 < (a0.length : Int))) then
  chk (decide (0 ≤ v8) && decide (v8 < (a0.length : Int))) <|
  chk (decide (0 ≤ v8) && decide (v8 < (w8.length : Int))) <|
  G1 ((IntKind.wrap .i64 (v8 + 1)), (put_ w8 v8.toNat 0 [.i (at_ a0 v8.toNat 0).asI]))
 else
  some ⟨[.r w8], []⟩
def laws_toIntS_k1 : List Nat := [0, 2, 3, 4, 21]
def laws_toIntS_S1 (a0 : List (List T)) : (Int × List (List T)) → St := fun (v8, w8) => ⟨ofSl [(0, .sl 3 a0), (2, .ref (2, 0)), (3, .ref (3, 0)), (4, .i .i64 v8), (21, .skip)], ofMem [((2, 0), .row 3 true []), ((3, 0), .row 3 true w8)]⟩
def laws_toIntS_l1 (k : Nat) (a0 : List (List T)) (G1 : (Int × List (List T)) → Option Outs) : (Int × List (List T)) → Option Outs :=
  laws_toIntS_L1 k a0 G1
def laws_toIntS_U (k : Nat) (a0 : List (List T)) (R1 : (Int × List (List T)) → Option Outs) : Option Outs :=
 chk (decide ((a0.length : Int) = (a0.length : Int)) && decide (0 ≤ (a0.length : Int)) && decide ((a0.length : Int) * ((8 : Nat) : Int) ≤ 140737488355328)) <|
 R1 (0, (List.replicate ((a0.length : Int) : Int).toNat [.i 0]))
def laws_toIntS_u (k : Nat) (a0 : List (List T)) : Option Outs :=
  laws_toIntS_U k a0 (fun v => fixN (laws_toIntS_l1 k a0) k v)
def laws_toIntS_it1 (k : Nat) (a0 : List (List T)) (js : List Nat) (j : Nat) (s : St) : Option Outs := iter E (LB E (evalF E P0 k) k [] N.laws_toIntS [.sr, .sr, .sl, .sr, .bl]) [] laws_toIntS_k1 (LK E (evalF E P0 k) k [] N.laws_toIntS [.v [.r a0]] [.sr, .sr, .sl, .sr, .bl] js) j s
theorem laws_toIntS_e (k : Nat) (a0 : List (List T)) : evalF E P0 (k + 1) N.laws_toIntS [.v [.r a0]] = laws_toIntS_u k a0 := by
  have e0 : evalF E P0 (k + 1) N.laws_toIntS [.v [.r a0]] = laws_toIntS_U k a0 (fun v => laws_toIntS_it1 k a0 [] k (laws_toIntS_S1 a0 v)) := by kernel_rfl
  have e1 : ∀ (j1 : Nat) (v : Int × List (List T)), laws_toIntS_it1 k a0 [] (j1 + 1) (laws_toIntS_S1 a0 v) = laws_toIntS_L1 k a0 (fun v => laws_toIntS_it1 k a0 [] j1 (laws_toIntS_S1 a0 v)) v := by
    intro j1 v; kernel_rfl
  have i1 : ∀ (j1 : Nat) (v : Int × List (List T)), laws_toIntS_it1 k a0 [] j1 (laws_toIntS_S1 a0 v) = fixN (laws_toIntS_l1 k a0) j1 v := by
    intro j1 v
    refine iter_fix (laws_toIntS_S1 a0) (laws_toIntS_l1 k a0) (fun j1 v => (e1 j1 v).trans ?_) j1 v
    unfold laws_toIntS_l1
    rfl
  rw [e0]; unfold laws_toIntS_u
  simp only [i1]
/- laws.toCmd -/
def laws_toCmd_u (k : Nat) (a0_0 : Int) (a0_1 : Int) (a0_2 : Int) (a0_3 : Int) (a0_4 : List (List T)) : Option Outs :=
 bindO (evalF E P0 k N.laws_toIntS [.v [.r a0_4]]) fun o2 =>
 some ⟨[.i a0_0, .i a0_1, .i a0_2, .i a0_3, .r (o2.t 0).asR], []⟩
theorem laws_toCmd_e (k : Nat) (a0_0 : Int) (a0_1 : Int) (a0_2 : Int) (a0_3 : Int) (a0_4 : List (List T)) : evalF E P0 (k + 1) N.laws_toCmd [.v [.i a0_0, .i a0_1, .i a0_2, .i a0_3, .r a0_4]] = laws_toCmd_u k a0_0 a0_1 a0_2 a0_3 a0_4 := by kernel_rfl
/- laws.toAns -/
def laws_toAns_u (k : Nat) (a0_0 : Int) (a0_1 : Int) (a0_2 : List (List T)) : Option Outs :=
 bindO (evalF E P0 k N.laws_toIntS [.v [.r a0_2]]) fun o2 =>
 some ⟨[.i a0_0, .i a0_1, .r (o2.t 0).asR], []⟩
theorem laws_toAns_e (k : Nat) (a0_0 : Int) (a0_1 : Int) (a0_2 : List (List T)) : evalF E P0 (k + 1) N.laws_toAns [.v [.i a0_0, .i a0_1, .r a0_2]] = laws_toAns_u k a0_0 a0_1 a0_2 := by kernel_rfl
/- laws.toTurn -/
def laws_toTurn_u (k : Nat) (a0_0 : Int) (a0_1 : Int) (a0_2 : Int) (a0_3 : Int) (a0_4 : List (List T)) (a0_5 : Int) (a0_6 : Int) (a0_7 : List (List T)) : Option Outs :=
 bindO (evalF E P0 k N.laws_toCmd [.v [.i a0_0, .i a0_1, .i a0_2, .i a0_3, .r a0_4]]) fun o2 =>
 bindO (evalF E P0 k N.laws_toAns [.v [.i a0_5, .i a0_6, .r a0_7]]) fun o4 =>
 some ⟨[.i (o2.t 0).asI, .i (o2.t 1).asI, .i (o2.t 2).asI, .i (o2.t 3).asI, .r (o2.t 4).asR, .i (o4.t 0).asI, .i (o4.t 1).asI, .r (o4.t 2).asR], []⟩
theorem laws_toTurn_e (k : Nat) (a0_0 : Int) (a0_1 : Int) (a0_2 : Int) (a0_3 : Int) (a0_4 : List (List T)) (a0_5 : Int) (a0_6 : Int) (a0_7 : List (List T)) : evalF E P0 (k + 1) N.laws_toTurn [.v [.i a0_0, .i a0_1, .i a0_2, .i a0_3, .r a0_4, .i a0_5, .i a0_6, .r a0_7]] = laws_toTurn_u k a0_0 a0_1 a0_2 a0_3 a0_4 a0_5 a0_6 a0_7 := by kernel_rfl
/- laws.toTurnS -/
def laws_toTurnS_L1 (k : Nat) (a0 : List (List T)) (G1 : (Int × List (List T)) → Option Outs) : (Int × List (List T)) → Option Outs := fun (v8, w8) =>
 bif (decide (v8 < (a0.length : Int))) then
  chk (decide (0 ≤ v8) && decide (v8 < (a0.length : Int))) <|
  bindO (evalF E P0 k N.laws_toTurn [.v [.i (at_ a0 v8.toNat 0).asI, .i (at_ a0 v8.toNat 1).asI, .i (at_ a0 v8.toNat 2).asI, .i (at_ a0 v8.toNat 3).asI, .r (at_ a0 v8.toNat 4).asR, .i (at_ a0 v8.toNat 5).asI, .i (at_ a0 v8.toNat 6).asI, .r (at_ a0 v8.toNat 7).asR]]) fun o48 =>
  chk (decide (0 ≤ v8) && decide (v8 < (w8.length : Int))) <|
  G1 ((IntKind.wrap .i64 (v8 + 1)), (put_ w8 v8.toNat 0 [.i (o48.t 0).asI, .i (o48.t 1).asI, .i (o48.t 2).asI, .i (o48.t 3).asI, .r (o48.t 4).asR, .i (o48.t 5).asI, .i (o48.t 6).asI, .r (o48.t 7).asR]))
 else
  some ⟨[.r w8], []⟩
def laws_toTurnS_k1 : List Nat := [0, 2, 3, 4, 22]
def laws_toTurnS_S1 (a0 : List (List T)) : (Int × List (List T)) → St := fun (v8, w8) => ⟨ofSl [(0, .sl 93 a0), (2, .ref (2, 0)), (3, .ref (3, 0)), (4, .i .i64 v8), (22, .skip)], Mem.put (ofMem [((2, 0), .deep 63 [] none), ((3, 0), .deep 63 w8 none)]) modeNm .dead⟩
def laws_toTurnS_l1 (k : Nat) (a0 : List (List T)) (G1 : (Int × List (List T)) → Option Outs) : (Int × List (List T)) → Option Outs :=
  laws_toTurnS_L1 k a0 G1
def laws_toTurnS_U (k : Nat) (a0 : List (List T)) (R1 : (Int × List (List T)) → Option Outs) : Option Outs :=
 chk (decide ((a0.length : Int) = (a0.length : Int)) && decide (0 ≤ (a0.length : Int)) && decide ((a0.length : Int) * ((96 : Nat) : Int) ≤ 140737488355328)) <|
 R1 (0, (List.replicate ((a0.length : Int) : Int).toNat [.i 0, .i 0, .i 0, .i 0, .r [], .i 0, .i 0, .r []]))
def laws_toTurnS_u (k : Nat) (a0 : List (List T)) : Option Outs :=
  laws_toTurnS_U k a0 (fun v => fixN (laws_toTurnS_l1 k a0) k v)
def laws_toTurnS_it1 (k : Nat) (a0 : List (List T)) (js : List Nat) (j : Nat) (s : St) : Option Outs := iter E (LB E (evalF E P0 k) k [] N.laws_toTurnS [.sr, .sr, .sl, .sr, .bl]) [] laws_toTurnS_k1 (LK E (evalF E P0 k) k [] N.laws_toTurnS [.v [.r a0]] [.sr, .sr, .sl, .sr, .bl] js) j s
theorem laws_toTurnS_e (k : Nat) (a0 : List (List T)) : evalF E P0 (k + 1) N.laws_toTurnS [.v [.r a0]] = laws_toTurnS_u k a0 := by
  have e0 : evalF E P0 (k + 1) N.laws_toTurnS [.v [.r a0]] = laws_toTurnS_U k a0 (fun v => laws_toTurnS_it1 k a0 [] k (laws_toTurnS_S1 a0 v)) := by kernel_rfl
  have e1 : ∀ (j1 : Nat) (v : Int × List (List T)), laws_toTurnS_it1 k a0 [] (j1 + 1) (laws_toTurnS_S1 a0 v) = laws_toTurnS_L1 k a0 (fun v => laws_toTurnS_it1 k a0 [] j1 (laws_toTurnS_S1 a0 v)) v := by
    intro j1 v; kernel_rfl
  have i1 : ∀ (j1 : Nat) (v : Int × List (List T)), laws_toTurnS_it1 k a0 [] j1 (laws_toTurnS_S1 a0 v) = fixN (laws_toTurnS_l1 k a0) j1 v := by
    intro j1 v
    refine iter_fix (laws_toTurnS_S1 a0) (laws_toTurnS_l1 k a0) (fun j1 v => (e1 j1 v).trans ?_) j1 v
    unfold laws_toTurnS_l1
    rfl
  rw [e0]; unfold laws_toTurnS_u
  simp only [i1]
/- spec.l15Ans -/
def spec_l15Ans_u (k : Nat) (a0_0 : Int) (a0_1 : Int) (a0_2 : List (List T)) : Option Outs :=
 chk (decide ((([] : List (List T)).length + a0_2.length) * 8 ≤ 140737488355328)) <|
 some ⟨[.i a0_0, .i a0_1, .r (([] : List (List T)) ++ a0_2)], []⟩
theorem spec_l15Ans_e (k : Nat) (a0_0 : Int) (a0_1 : Int) (a0_2 : List (List T)) : evalF E P0 (k + 1) N.spec_l15Ans [.v [.i a0_0, .i a0_1, .r a0_2]] = spec_l15Ans_u k a0_0 a0_1 a0_2 := by kernel_rfl
/- spec.AnsOf -/
def spec_AnsOf_L1 (k : Nat) (a0 : List (List T)) (G1 : (Int × List (List T)) → Option Outs) : (Int × List (List T)) → Option Outs := fun (v8, w8) =>
 bif (decide (v8 < (a0.length : Int))) then
  chk (decide (0 ≤ v8) && decide (v8 < (a0.length : Int))) <|
  bindO (evalF E P0 k N.spec_l15Ans [.v [.i (at_ a0 v8.toNat 5).asI, .i (at_ a0 v8.toNat 6).asI, .r (at_ a0 v8.toNat 7).asR]]) fun o48 =>
  chk (decide ((w8.length + ([[.i (o48.t 0).asI, .i (o48.t 1).asI, .r (o48.t 2).asR]] : List (List T)).length) * 40 ≤ 140737488355328)) <|
  G1 ((IntKind.wrap .i64 (v8 + 1)), (w8 ++ [[.i (o48.t 0).asI, .i (o48.t 1).asI, .r (o48.t 2).asR]]))
 else
  some ⟨[.r w8], []⟩
def spec_AnsOf_k1 : List Nat := [0, 2, 3, 4, 21]
def spec_AnsOf_S1 (a0 : List (List T)) : (Int × List (List T)) → St := fun (v8, w8) => ⟨ofSl [(0, .sl 63 a0), (2, .ref (2, 0)), (3, .ref (3, 0)), (4, .i .i64 v8), (21, .skip)], ofMem [((2, 0), .row 61 true []), ((3, 0), .row 61 true w8)]⟩
def spec_AnsOf_l1 (k : Nat) (a0 : List (List T)) (G1 : (Int × List (List T)) → Option Outs) : (Int × List (List T)) → Option Outs :=
  spec_AnsOf_L1 k a0 G1
def spec_AnsOf_U (k : Nat) (a0 : List (List T)) (R1 : (Int × List (List T)) → Option Outs) : Option Outs :=
 R1 (0, [])
def spec_AnsOf_u (k : Nat) (a0 : List (List T)) : Option Outs :=
  spec_AnsOf_U k a0 (fun v => fixN (spec_AnsOf_l1 k a0) k v)
def spec_AnsOf_it1 (k : Nat) (a0 : List (List T)) (js : List Nat) (j : Nat) (s : St) : Option Outs := iter E (LB E (evalF E P0 k) k [] N.spec_AnsOf [.sr, .sr, .sl, .sr, .bl]) [] spec_AnsOf_k1 (LK E (evalF E P0 k) k [] N.spec_AnsOf [.v [.r a0]] [.sr, .sr, .sl, .sr, .bl] js) j s
theorem spec_AnsOf_e (k : Nat) (a0 : List (List T)) : evalF E P0 (k + 1) N.spec_AnsOf [.v [.r a0]] = spec_AnsOf_u k a0 := by
  have e0 : evalF E P0 (k + 1) N.spec_AnsOf [.v [.r a0]] = spec_AnsOf_U k a0 (fun v => spec_AnsOf_it1 k a0 [] k (spec_AnsOf_S1 a0 v)) := by kernel_rfl
  have e1 : ∀ (j1 : Nat) (v : Int × List (List T)), spec_AnsOf_it1 k a0 [] (j1 + 1) (spec_AnsOf_S1 a0 v) = spec_AnsOf_L1 k a0 (fun v => spec_AnsOf_it1 k a0 [] j1 (spec_AnsOf_S1 a0 v)) v := by
    intro j1 v; kernel_rfl
  have i1 : ∀ (j1 : Nat) (v : Int × List (List T)), spec_AnsOf_it1 k a0 [] j1 (spec_AnsOf_S1 a0 v) = fixN (spec_AnsOf_l1 k a0) j1 v := by
    intro j1 v
    refine iter_fix (spec_AnsOf_S1 a0) (spec_AnsOf_l1 k a0) (fun j1 v => (e1 j1 v).trans ?_) j1 v
    unfold spec_AnsOf_l1
    rfl
  rw [e0]; unfold spec_AnsOf_u
  simp only [i1]
/- impl.copyInts -/
def impl_copyInts_u (k : Nat) (a0 : List (List T)) : Option Outs :=
 chk (decide ((([] : List (List T)).length + a0.length) * 8 ≤ 140737488355328)) <|
 some ⟨[.r (([] : List (List T)) ++ a0)], []⟩
theorem impl_copyInts_e (k : Nat) (a0 : List (List T)) : evalF E P0 (k + 1) N.impl_copyInts [.v [.r a0]] = impl_copyInts_u k a0 := by kernel_rfl
/- impl.copyAns -/
def impl_copyAns_u (k : Nat) (a0_0 : Int) (a0_1 : Int) (a0_2 : List (List T)) : Option Outs :=
 bindO (evalF E P0 k N.impl_copyInts [.v [.r a0_2]]) fun o2 =>
 some ⟨[.i a0_0, .i a0_1, .r (o2.t 0).asR], []⟩
theorem impl_copyAns_e (k : Nat) (a0_0 : Int) (a0_1 : Int) (a0_2 : List (List T)) : evalF E P0 (k + 1) N.impl_copyAns [.v [.i a0_0, .i a0_1, .r a0_2]] = impl_copyAns_u k a0_0 a0_1 a0_2 := by kernel_rfl
/- impl.AnsOf -/
def impl_AnsOf_L1 (k : Nat) (a0 : List (List T)) (G1 : (Int × List (List T)) → Option Outs) : (Int × List (List T)) → Option Outs := fun (v8, w8) =>
 bif (decide (v8 < (a0.length : Int))) then
  chk (decide (0 ≤ v8) && decide (v8 < (a0.length : Int))) <|
  bindO (evalF E P0 k N.impl_copyAns [.v [.i (at_ a0 v8.toNat 5).asI, .i (at_ a0 v8.toNat 6).asI, .r (at_ a0 v8.toNat 7).asR]]) fun o48 =>
  chk (decide ((w8.length + ([[.i (o48.t 0).asI, .i (o48.t 1).asI, .r (o48.t 2).asR]] : List (List T)).length) * 40 ≤ 140737488355328)) <|
  G1 ((IntKind.wrap .i64 (v8 + 1)), (w8 ++ [[.i (o48.t 0).asI, .i (o48.t 1).asI, .r (o48.t 2).asR]]))
 else
  some ⟨[.r w8], []⟩
def impl_AnsOf_k1 : List Nat := [2, 3, 7, 8, 9, 20]
def impl_AnsOf_S1 (a0 : List (List T)) : (Int × List (List T)) → St := fun (v8, w8) => ⟨ofSl [(2, .ref (2, 0)), (3, .ref (3, 0)), (7, .sl 63 a0), (8, .i .i64 (a0.length : Int)), (9, .i .i64 v8), (20, .skip)], Mem.put (ofMem [((2, 0), .deep 61 [] none), ((3, 0), .deep 61 w8 none)]) modeNm .dead⟩
def impl_AnsOf_l1 (k : Nat) (a0 : List (List T)) (G1 : (Int × List (List T)) → Option Outs) : (Int × List (List T)) → Option Outs :=
  impl_AnsOf_L1 k a0 G1
def impl_AnsOf_U (k : Nat) (a0 : List (List T)) (R1 : (Int × List (List T)) → Option Outs) : Option Outs :=
 R1 (0, [])
def impl_AnsOf_u (k : Nat) (a0 : List (List T)) : Option Outs :=
  impl_AnsOf_U k a0 (fun v => fixN (impl_AnsOf_l1 k a0) k v)
def impl_AnsOf_it1 (k : Nat) (a0 : List (List T)) (js : List Nat) (j : Nat) (s : St) : Option Outs := iter E (LB E (evalF E P0 k) k [] N.impl_AnsOf [.sr, .sr, .sl, .sr, .bl]) [] impl_AnsOf_k1 (LK E (evalF E P0 k) k [] N.impl_AnsOf [.v [.r a0]] [.sr, .sr, .sl, .sr, .bl] js) j s
theorem impl_AnsOf_e (k : Nat) (a0 : List (List T)) : evalF E P0 (k + 1) N.impl_AnsOf [.v [.r a0]] = impl_AnsOf_u k a0 := by
  have e0 : evalF E P0 (k + 1) N.impl_AnsOf [.v [.r a0]] = impl_AnsOf_U k a0 (fun v => impl_AnsOf_it1 k a0 [] k (impl_AnsOf_S1 a0 v)) := by kernel_rfl
  have e1 : ∀ (j1 : Nat) (v : Int × List (List T)), impl_AnsOf_it1 k a0 [] (j1 + 1) (impl_AnsOf_S1 a0 v) = impl_AnsOf_L1 k a0 (fun v => impl_AnsOf_it1 k a0 [] j1 (impl_AnsOf_S1 a0 v)) v := by
    intro j1 v; kernel_rfl
  have i1 : ∀ (j1 : Nat) (v : Int × List (List T)), impl_AnsOf_it1 k a0 [] j1 (impl_AnsOf_S1 a0 v) = fixN (impl_AnsOf_l1 k a0) j1 v := by
    intro j1 v
    refine iter_fix (impl_AnsOf_S1 a0) (impl_AnsOf_l1 k a0) (fun j1 v => (e1 j1 v).trans ?_) j1 v
    unfold impl_AnsOf_l1
    rfl
  rw [e0]; unfold impl_AnsOf_u
  simp only [i1]
/- laws.eqIntS -/
def laws_eqIntS_L1 (k : Nat) (a0 : List (List T)) (a1 : List (List T)) (G1 : (Int) → Option Outs) : (Int) → Option Outs := fun v8 =>
 bif (decide (v8 < (a0.length : Int))) then
  chk (decide (0 ≤ v8) && decide (v8 < (a0.length : Int))) <|
  chk (decide (0 ≤ v8) && decide (v8 < (a1.length : Int))) <|
  bif ((at_ a0 v8.toNat 0).asI != (at_ a1 v8.toNat 0).asI) then
   some ⟨[.b false], []⟩
  else
   G1 (IntKind.wrap .i64 (v8 + 1))
 else
  some ⟨[.b true], []⟩
def laws_eqIntS_k1 : List Nat := [0, 1, 4, 5]
def laws_eqIntS_S1 (a0 : List (List T)) (a1 : List (List T)) : (Int) → St := fun v8 => ⟨ofSl [(0, .sl 3 a0), (1, .sl 3 a1), (4, .b false), (5, .i .i64 v8)], ofMem []⟩
def laws_eqIntS_l1 (k : Nat) (a0 : List (List T)) (a1 : List (List T)) (G1 : (Int) → Option Outs) : (Int) → Option Outs :=
  laws_eqIntS_L1 k a0 a1 G1
def laws_eqIntS_U (k : Nat) (a0 : List (List T)) (a1 : List (List T)) (R1 : (Int) → Option Outs) : Option Outs :=
 bif ((a0.length : Int) != (a1.length : Int)) then some ⟨[.b false], []⟩ else R1 0
def laws_eqIntS_u (k : Nat) (a0 : List (List T)) (a1 : List (List T)) : Option Outs :=
  laws_eqIntS_U k a0 a1 (fun v => fixN (laws_eqIntS_l1 k a0 a1) k v)
def laws_eqIntS_it1 (k : Nat) (a0 : List (List T)) (a1 : List (List T)) (js : List Nat) (j : Nat) (s : St) : Option Outs := iter E (LB E (evalF E P0 k) k [] N.laws_eqIntS [.sr, .sr, .sl, .sr, .bl]) [] laws_eqIntS_k1 (LK E (evalF E P0 k) k [] N.laws_eqIntS [.v [.r a0], .v [.r a1]] [.sr, .sr, .sl, .sr, .bl] js) j s
theorem laws_eqIntS_e (k : Nat) (a0 : List (List T)) (a1 : List (List T)) : evalF E P0 (k + 1) N.laws_eqIntS [.v [.r a0], .v [.r a1]] = laws_eqIntS_u k a0 a1 := by
  have e0 : evalF E P0 (k + 1) N.laws_eqIntS [.v [.r a0], .v [.r a1]] = laws_eqIntS_U k a0 a1 (fun v => laws_eqIntS_it1 k a0 a1 [] k (laws_eqIntS_S1 a0 a1 v)) := by kernel_rfl
  have e1 : ∀ (j1 : Nat) (v : Int), laws_eqIntS_it1 k a0 a1 [] (j1 + 1) (laws_eqIntS_S1 a0 a1 v) = laws_eqIntS_L1 k a0 a1 (fun v => laws_eqIntS_it1 k a0 a1 [] j1 (laws_eqIntS_S1 a0 a1 v)) v := by
    intro j1 v; kernel_rfl
  have i1 : ∀ (j1 : Nat) (v : Int), laws_eqIntS_it1 k a0 a1 [] j1 (laws_eqIntS_S1 a0 a1 v) = fixN (laws_eqIntS_l1 k a0 a1) j1 v := by
    intro j1 v
    refine iter_fix (laws_eqIntS_S1 a0 a1) (laws_eqIntS_l1 k a0 a1) (fun j1 v => (e1 j1 v).trans ?_) j1 v
    unfold laws_eqIntS_l1
    rfl
  rw [e0]; unfold laws_eqIntS_u
  simp only [i1]
/- laws.eqAns -/
def laws_eqAns_u (k : Nat) (a0_0 : Int) (a0_1 : Int) (a0_2 : List (List T)) (a1_0 : Int) (a1_1 : Int) (a1_2 : List (List T)) : Option Outs :=
 bif (a0_0 != a1_0) then
  some ⟨[.b false], []⟩
 else
  bif (a0_1 != a1_1) then
   some ⟨[.b false], []⟩
  else
   bindO (evalF E P0 k N.laws_eqIntS [.v [.r a0_2], .v [.r a1_2]]) fun o2 =>
   bif (!(o2.t 0).asB) then some ⟨[.b false], []⟩ else some ⟨[.b true], []⟩
theorem laws_eqAns_e (k : Nat) (a0_0 : Int) (a0_1 : Int) (a0_2 : List (List T)) (a1_0 : Int) (a1_1 : Int) (a1_2 : List (List T)) : evalF E P0 (k + 1) N.laws_eqAns [.v [.i a0_0, .i a0_1, .r a0_2], .v [.i a1_0, .i a1_1, .r a1_2]] = laws_eqAns_u k a0_0 a0_1 a0_2 a1_0 a1_1 a1_2 := by kernel_rfl
/- laws.eqAnsS -/
def laws_eqAnsS_L1 (k : Nat) (a0 : List (List T)) (a1 : List (List T)) (G1 : (Int) → Option Outs) : (Int) → Option Outs := fun v8 =>
 bif (decide (v8 < (a0.length : Int))) then
  chk (decide (0 ≤ v8) && decide (v8 < (a0.length : Int))) <|
  chk (decide (0 ≤ v8) && decide (v8 < (a1.length : Int))) <|
  bindO (evalF E P0 k N.laws_eqAns [.v [.i (at_ a0 v8.toNat 0).asI, .i (at_ a0 v8.toNat 1).asI, .r (at_ a0 v8.toNat 2).asR], .v [.i (at_ a1 v8.toNat 0).asI, .i (at_ a1 v8.toNat 1).asI, .r (at_ a1 v8.toNat 2).asR]]) fun o96 =>
  bif (!(o96.t 0).asB) then some ⟨[.b false], []⟩ else G1 (IntKind.wrap .i64 (v8 + 1))
 else
  some ⟨[.b true], []⟩
def laws_eqAnsS_k1 : List Nat := [0, 1, 4, 5]
def laws_eqAnsS_S1 (a0 : List (List T)) (a1 : List (List T)) : (Int) → St := fun v8 => ⟨ofSl [(0, .sl 61 a0), (1, .sl 61 a1), (4, .b false), (5, .i .i64 v8)], ofMem []⟩
def laws_eqAnsS_l1 (k : Nat) (a0 : List (List T)) (a1 : List (List T)) (G1 : (Int) → Option Outs) : (Int) → Option Outs :=
  laws_eqAnsS_L1 k a0 a1 G1
def laws_eqAnsS_U (k : Nat) (a0 : List (List T)) (a1 : List (List T)) (R1 : (Int) → Option Outs) : Option Outs :=
 bif ((a0.length : Int) != (a1.length : Int)) then some ⟨[.b false], []⟩ else R1 0
def laws_eqAnsS_u (k : Nat) (a0 : List (List T)) (a1 : List (List T)) : Option Outs :=
  laws_eqAnsS_U k a0 a1 (fun v => fixN (laws_eqAnsS_l1 k a0 a1) k v)
def laws_eqAnsS_it1 (k : Nat) (a0 : List (List T)) (a1 : List (List T)) (js : List Nat) (j : Nat) (s : St) : Option Outs := iter E (LB E (evalF E P0 k) k [] N.laws_eqAnsS [.sr, .sr, .sl, .sr, .bl]) [] laws_eqAnsS_k1 (LK E (evalF E P0 k) k [] N.laws_eqAnsS [.v [.r a0], .v [.r a1]] [.sr, .sr, .sl, .sr, .bl] js) j s
theorem laws_eqAnsS_e (k : Nat) (a0 : List (List T)) (a1 : List (List T)) : evalF E P0 (k + 1) N.laws_eqAnsS [.v [.r a0], .v [.r a1]] = laws_eqAnsS_u k a0 a1 := by
  have e0 : evalF E P0 (k + 1) N.laws_eqAnsS [.v [.r a0], .v [.r a1]] = laws_eqAnsS_U k a0 a1 (fun v => laws_eqAnsS_it1 k a0 a1 [] k (laws_eqAnsS_S1 a0 a1 v)) := by kernel_rfl
  have e1 : ∀ (j1 : Nat) (v : Int), laws_eqAnsS_it1 k a0 a1 [] (j1 + 1) (laws_eqAnsS_S1 a0 a1 v) = laws_eqAnsS_L1 k a0 a1 (fun v => laws_eqAnsS_it1 k a0 a1 [] j1 (laws_eqAnsS_S1 a0 a1 v)) v := by
    intro j1 v; kernel_rfl
  have i1 : ∀ (j1 : Nat) (v : Int), laws_eqAnsS_it1 k a0 a1 [] j1 (laws_eqAnsS_S1 a0 a1 v) = fixN (laws_eqAnsS_l1 k a0 a1) j1 v := by
    intro j1 v
    refine iter_fix (laws_eqAnsS_S1 a0 a1) (laws_eqAnsS_l1 k a0 a1) (fun j1 v => (e1 j1 v).trans ?_) j1 v
    unfold laws_eqAnsS_l1
    rfl
  rw [e0]; unfold laws_eqAnsS_u
  simp only [i1]
/- laws.eqCmd -/
def laws_eqCmd_u (k : Nat) (a0_0 : Int) (a0_1 : Int) (a0_2 : Int) (a0_3 : Int) (a0_4 : List (List T)) (a1_0 : Int) (a1_1 : Int) (a1_2 : Int) (a1_3 : Int) (a1_4 : List (List T)) : Option Outs :=
 bif (a0_0 != a1_0) then
  some ⟨[.b false], []⟩
 else
  bif (a0_1 != a1_1) then
   some ⟨[.b false], []⟩
  else
   bif (a0_2 != a1_2) then
    some ⟨[.b false], []⟩
   else
    bif (a0_3 != a1_3) then
     some ⟨[.b false], []⟩
    else
     bindO (evalF E P0 k N.laws_eqIntS [.v [.r a0_4], .v [.r a1_4]]) fun o2 =>
     bif (!(o2.t 0).asB) then some ⟨[.b false], []⟩ else some ⟨[.b true], []⟩
theorem laws_eqCmd_e (k : Nat) (a0_0 : Int) (a0_1 : Int) (a0_2 : Int) (a0_3 : Int) (a0_4 : List (List T)) (a1_0 : Int) (a1_1 : Int) (a1_2 : Int) (a1_3 : Int) (a1_4 : List (List T)) : evalF E P0 (k + 1) N.laws_eqCmd [.v [.i a0_0, .i a0_1, .i a0_2, .i a0_3, .r a0_4], .v [.i a1_0, .i a1_1, .i a1_2, .i a1_3, .r a1_4]] = laws_eqCmd_u k a0_0 a0_1 a0_2 a0_3 a0_4 a1_0 a1_1 a1_2 a1_3 a1_4 := by kernel_rfl
/- laws.eqTurn -/
def laws_eqTurn_u (k : Nat) (a0_0 : Int) (a0_1 : Int) (a0_2 : Int) (a0_3 : Int) (a0_4 : List (List T)) (a0_5 : Int) (a0_6 : Int) (a0_7 : List (List T)) (a1_0 : Int) (a1_1 : Int) (a1_2 : Int) (a1_3 : Int) (a1_4 : List (List T)) (a1_5 : Int) (a1_6 : Int) (a1_7 : List (List T)) : Option Outs :=
 bindO (evalF E P0 k N.laws_eqCmd [.v [.i a0_0, .i a0_1, .i a0_2, .i a0_3, .r a0_4], .v [.i a1_0, .i a1_1, .i a1_2, .i a1_3, .r a1_4]]) fun o2 =>
 bif (!(o2.t 0).asB) then
  some ⟨[.b false], []⟩
 else
  bindO (evalF E P0 k N.laws_eqAns [.v [.i a0_5, .i a0_6, .r a0_7], .v [.i a1_5, .i a1_6, .r a1_7]]) fun o4 =>
  bif (!(o4.t 0).asB) then some ⟨[.b false], []⟩ else some ⟨[.b true], []⟩
theorem laws_eqTurn_e (k : Nat) (a0_0 : Int) (a0_1 : Int) (a0_2 : Int) (a0_3 : Int) (a0_4 : List (List T)) (a0_5 : Int) (a0_6 : Int) (a0_7 : List (List T)) (a1_0 : Int) (a1_1 : Int) (a1_2 : Int) (a1_3 : Int) (a1_4 : List (List T)) (a1_5 : Int) (a1_6 : Int) (a1_7 : List (List T)) : evalF E P0 (k + 1) N.laws_eqTurn [.v [.i a0_0, .i a0_1, .i a0_2, .i a0_3, .r a0_4, .i a0_5, .i a0_6, .r a0_7], .v [.i a1_0, .i a1_1, .i a1_2, .i a1_3, .r a1_4, .i a1_5, .i a1_6, .r a1_7]] = laws_eqTurn_u k a0_0 a0_1 a0_2 a0_3 a0_4 a0_5 a0_6 a0_7 a1_0 a1_1 a1_2 a1_3 a1_4 a1_5 a1_6 a1_7 := by kernel_rfl
/- laws.eqTurnS -/
def laws_eqTurnS_L1 (k : Nat) (a0 : List (List T)) (a1 : List (List T)) (G1 : (Int) → Option Outs) : (Int) → Option Outs := fun v8 =>
 bif (decide (v8 < (a0.length : Int))) then
  chk (decide (0 ≤ v8) && decide (v8 < (a0.length : Int))) <|
  chk (decide (0 ≤ v8) && decide (v8 < (a1.length : Int))) <|
  bindO (evalF E P0 k N.laws_eqTurn [.v [.i (at_ a0 v8.toNat 0).asI, .i (at_ a0 v8.toNat 1).asI, .i (at_ a0 v8.toNat 2).asI, .i (at_ a0 v8.toNat 3).asI, .r (at_ a0 v8.toNat 4).asR, .i (at_ a0 v8.toNat 5).asI, .i (at_ a0 v8.toNat 6).asI, .r (at_ a0 v8.toNat 7).asR], .v [.i (at_ a1 v8.toNat 0).asI, .i (at_ a1 v8.toNat 1).asI, .i (at_ a1 v8.toNat 2).asI, .i (at_ a1 v8.toNat 3).asI, .r (at_ a1 v8.toNat 4).asR, .i (at_ a1 v8.toNat 5).asI, .i (at_ a1 v8.toNat 6).asI, .r (at_ a1 v8.toNat 7).asR]]) fun o96 =>
  bif (!(o96.t 0).asB) then some ⟨[.b false], []⟩ else G1 (IntKind.wrap .i64 (v8 + 1))
 else
  some ⟨[.b true], []⟩
def laws_eqTurnS_k1 : List Nat := [0, 1, 4, 5]
def laws_eqTurnS_S1 (a0 : List (List T)) (a1 : List (List T)) : (Int) → St := fun v8 => ⟨ofSl [(0, .sl 63 a0), (1, .sl 63 a1), (4, .b false), (5, .i .i64 v8)], ofMem []⟩
def laws_eqTurnS_l1 (k : Nat) (a0 : List (List T)) (a1 : List (List T)) (G1 : (Int) → Option Outs) : (Int) → Option Outs :=
  laws_eqTurnS_L1 k a0 a1 G1
def laws_eqTurnS_U (k : Nat) (a0 : List (List T)) (a1 : List (List T)) (R1 : (Int) → Option Outs) : Option Outs :=
 bif ((a0.length : Int) != (a1.length : Int)) then some ⟨[.b false], []⟩ else R1 0
def laws_eqTurnS_u (k : Nat) (a0 : List (List T)) (a1 : List (List T)) : Option Outs :=
  laws_eqTurnS_U k a0 a1 (fun v => fixN (laws_eqTurnS_l1 k a0 a1) k v)
def laws_eqTurnS_it1 (k : Nat) (a0 : List (List T)) (a1 : List (List T)) (js : List Nat) (j : Nat) (s : St) : Option Outs := iter E (LB E (evalF E P0 k) k [] N.laws_eqTurnS [.sr, .sr, .sl, .sr, .bl]) [] laws_eqTurnS_k1 (LK E (evalF E P0 k) k [] N.laws_eqTurnS [.v [.r a0], .v [.r a1]] [.sr, .sr, .sl, .sr, .bl] js) j s
theorem laws_eqTurnS_e (k : Nat) (a0 : List (List T)) (a1 : List (List T)) : evalF E P0 (k + 1) N.laws_eqTurnS [.v [.r a0], .v [.r a1]] = laws_eqTurnS_u k a0 a1 := by
  have e0 : evalF E P0 (k + 1) N.laws_eqTurnS [.v [.r a0], .v [.r a1]] = laws_eqTurnS_U k a0 a1 (fun v => laws_eqTurnS_it1 k a0 a1 [] k (laws_eqTurnS_S1 a0 a1 v)) := by kernel_rfl
  have e1 : ∀ (j1 : Nat) (v : Int), laws_eqTurnS_it1 k a0 a1 [] (j1 + 1) (laws_eqTurnS_S1 a0 a1 v) = laws_eqTurnS_L1 k a0 a1 (fun v => laws_eqTurnS_it1 k a0 a1 [] j1 (laws_eqTurnS_S1 a0 a1 v)) v := by
    intro j1 v; kernel_rfl
  have i1 : ∀ (j1 : Nat) (v : Int), laws_eqTurnS_it1 k a0 a1 [] j1 (laws_eqTurnS_S1 a0 a1 v) = fixN (laws_eqTurnS_l1 k a0 a1) j1 v := by
    intro j1 v
    refine iter_fix (laws_eqTurnS_S1 a0 a1) (laws_eqTurnS_l1 k a0 a1) (fun j1 v => (e1 j1 v).trans ?_) j1 v
    unfold laws_eqTurnS_l1
    rfl
  rw [e0]; unfold laws_eqTurnS_u
  simp only [i1]
/- laws.markIntS -/
def laws_markIntS_L1 (k : Nat) (G1 : (Int × Int × List (List T)) → Option Outs) : (Int × Int × List (List T)) → Option Outs := fun (v15, v16, w8) =>
 bif (decide (v16 < (w8.length : Int))) then
  chk (decide (0 ≤ v16) && decide (v16 < (w8.length : Int))) <|
  G1 ((IntKind.wrap .i64 (v15 + 1)), (IntKind.wrap .i64 (v16 + 1)), (put_ w8 v16.toNat 0 [.i v15]))
 else
  some ⟨[.i v15], [[.r w8]]⟩
def laws_markIntS_k1 : List Nat := [0, 1, 4, 5, 18]
def laws_markIntS_S1 : (Int × Int × List (List T)) → St := fun (v15, v16, w8) => ⟨ofSl [(0, .ref (0, 0)), (1, .i .i64 v15), (4, .i .i64 0), (5, .i .i64 v16), (18, .skip)], ofMem [((0, 0), .row 3 true w8)]⟩
def laws_markIntS_l1 (k : Nat) (G1 : (Int × Int × List (List T)) → Option Outs) : (Int × Int × List (List T)) → Option Outs :=
  laws_markIntS_L1 k G1
def laws_markIntS_U (k : Nat) (a0 : List (List T)) (a1 : Int) (R1 : (Int × Int × List (List T)) → Option Outs) : Option Outs :=
 R1 (a1, 0, a0)
def laws_markIntS_u (k : Nat) (a0 : List (List T)) (a1 : Int) : Option Outs :=
  laws_markIntS_U k a0 a1 (fun v => fixN (laws_markIntS_l1 k) k v)
def laws_markIntS_it1 (k : Nat) (a0 : List (List T)) (a1 : Int) (js : List Nat) (j : Nat) (s : St) : Option Outs := iter E (LB E (evalF E P0 k) k [0] N.laws_markIntS [.sr, .sl, .sr, .bl]) [0] laws_markIntS_k1 (LK E (evalF E P0 k) k [0] N.laws_markIntS [.r a0, .v [.i a1]] [.sr, .sl, .sr, .bl] js) j s
theorem laws_markIntS_e (k : Nat) (a0 : List (List T)) (a1 : Int) : evalF E P0 (k + 1) N.laws_markIntS [.r a0, .v [.i a1]] = laws_markIntS_u k a0 a1 := by
  have e0 : evalF E P0 (k + 1) N.laws_markIntS [.r a0, .v [.i a1]] = laws_markIntS_U k a0 a1 (fun v => laws_markIntS_it1 k a0 a1 [] k (laws_markIntS_S1 v)) := by kernel_rfl
  have e1 : ∀ (j1 : Nat) (v : Int × Int × List (List T)), laws_markIntS_it1 k a0 a1 [] (j1 + 1) (laws_markIntS_S1 v) = laws_markIntS_L1 k (fun v => laws_markIntS_it1 k a0 a1 [] j1 (laws_markIntS_S1 v)) v := by
    intro j1 v; kernel_rfl
  have i1 : ∀ (j1 : Nat) (v : Int × Int × List (List T)), laws_markIntS_it1 k a0 a1 [] j1 (laws_markIntS_S1 v) = fixN (laws_markIntS_l1 k) j1 v := by
    intro j1 v
    refine iter_fix (laws_markIntS_S1) (laws_markIntS_l1 k) (fun j1 v => (e1 j1 v).trans ?_) j1 v
    unfold laws_markIntS_l1
    rfl
  rw [e0]; unfold laws_markIntS_u
  simp only [i1]
/- laws.markTurnS -/
def laws_markTurnS_L1 (k : Nat) (G1 : (Int × Int × List (List T)) → Option Outs) : (Int × Int × List (List T)) → Option Outs := fun (v15, v16, w8) =>
 bif (decide (v16 < (w8.length : Int))) then
  chk (decide (0 ≤ v16) && decide (v16 < (w8.length : Int))) <|
  chk (decide (0 ≤ v16) && decide (v16 < ((put_ w8 v16.toNat 0 [.i v15]).length : Int))) <|
  chk (decide (0 ≤ v16) && decide (v16 < ((put_ (put_ w8 v16.toNat 0 [.i v15]) v16.toNat 1 [.i (IntKind.wrap .i64 (v15 + 1))]).length : Int))) <|
  chk (decide (0 ≤ v16) && decide (v16 < ((put_ (put_ (put_ w8 v16.toNat 0 [.i v15]) v16.toNat 1 [.i (IntKind.wrap .i64 (v15 + 1))]) v16.toNat 2 [.i (IntKind.wrap .i64 ((IntKind.wrap .i64 (v15 + 1)) + 1))]).length : Int))) <|
  chk (decide (0 ≤ v16) && decide (v16 < ((put_ (put_ (put_ (put_ w8 v16.toNat 0 [.i v15]) v16.toNat 1 [.i (IntKind.wrap .i64 (v15 + 1))]) v16.toNat 2 [.i (IntKind.wrap .i64 ((IntKind.wrap .i64 (v15 + 1)) + 1))]) v16.toNat 3 [.i (IntKind.wrap .i64 ((IntKind.wrap .i64 ((IntKind.wrap .i64 (v15 + 1)) + 1)) + 1))]).length : Int))) <|
  bindO (evalF E P0 k N.laws_markIntS [.r ((at_ (put_ (put_ (put_ (put_ w8 v16.toNat 0 [.i v15]) v16.toNat 1 [.i (IntKind.wrap .i64 (v15 + 1))]) v16.toNat 2 [.i (IntKind.wrap .i64 ((IntKind.wrap .i64 (v15 + 1)) + 1))]) v16.toNat 3 [.i (IntKind.wrap .i64 ((IntKind.wrap .i64 ((IntKind.wrap .i64 (v15 + 1)) + 1)) + 1))]) v16.toNat 4).asR), .v [.i (IntKind.wrap .i64 ((IntKind.wrap .i64 ((IntKind.wrap .i64 ((IntKind.wrap .i64 (v15 + 1)) + 1)) + 1)) + 1))]]) fun o143 =>
  chk (decide (0 ≤ v16) && decide (v16 < ((put_ (put_ (put_ (put_ (put_ w8 v16.toNat 0 [.i v15]) v16.toNat 1 [.i (IntKind.wrap .i64 (v15 + 1))]) v16.toNat 2 [.i (IntKind.wrap .i64 ((IntKind.wrap .i64 (v15 + 1)) + 1))]) v16.toNat 3 [.i (IntKind.wrap .i64 ((IntKind.wrap .i64 ((IntKind.wrap .i64 (v15 + 1)) + 1)) + 1))]) v16.toNat 4 [.r ((o143.vt 0 0).asR)]).length : Int))) <|
  chk (decide (0 ≤ v16) && decide (v16 < ((put_ (put_ (put_ (put_ (put_ (put_ w8 v16.toNat 0 [.i v15]) v16.toNat 1 [.i (IntKind.wrap .i64 (v15 + 1))]) v16.toNat 2 [.i (IntKind.wrap .i64 ((IntKind.wrap .i64 (v15 + 1)) + 1))]) v16.toNat 3 [.i (IntKind.wrap .i64 ((IntKind.wrap .i64 ((IntKind.wrap .i64 (v15 + 1)) + 1)) + 1))]) v16.toNat 4 [.r ((o143.vt 0 0).asR)]) v16.toNat 5 [.i (o143.t 0).asI]).length : Int))) <|
  chk (decide (0 ≤ v16) && decide (v16 < ((put_ (put_ (put_ (put_ (put_ (put_ (put_ w8 v16.toNat 0 [.i v15]) v16.toNat 1 [.i (IntKind.wrap .i64 (v15 + 1))]) v16.toNat 2 [.i (IntKind.wrap .i64 ((IntKind.wrap .i64 (v15 + 1)) + 1))]) v16.toNat 3 [.i (IntKind.wrap .i64 ((IntKind.wrap .i64 ((IntKind.wrap .i64 (v15 + 1)) + 1)) + 1))]) v16.toNat 4 [.r ((o143.vt 0 0).asR)]) v16.toNat 5 [.i (o143.t 0).asI]) v16.toNat 6 [.i (IntKind.wrap .i64 ((o143.t 0).asI + 1))]).length : Int))) <|
  bindO (evalF E P0 k N.laws_markIntS [.r ((at_ (put_ (put_ (put_ (put_ (put_ (put_ (put_ w8 v16.toNat 0 [.i v15]) v16.toNat 1 [.i (IntKind.wrap .i64 (v15 + 1))]) v16.toNat 2 [.i (IntKind.wrap .i64 ((IntKind.wrap .i64 (v15 + 1)) + 1))]) v16.toNat 3 [.i (IntKind.wrap .i64 ((IntKind.wrap .i64 ((IntKind.wrap .i64 (v15 + 1)) + 1)) + 1))]) v16.toNat 4 [.r ((o143.vt 0 0).asR)]) v16.toNat 5 [.i (o143.t 0).asI]) v16.toNat 6 [.i (IntKind.wrap .i64 ((o143.t 0).asI + 1))]) v16.toNat 7).asR), .v [.i (IntKind.wrap .i64 ((IntKind.wrap .i64 ((o143.t 0).asI + 1)) + 1))]]) fun o144 =>
  G1 ((o144.t 0).asI, (IntKind.wrap .i64 (v16 + 1)), (put_ (put_ (put_ (put_ (put_ (put_ (put_ (put_ w8 v16.toNat 0 [.i v15]) v16.toNat 1 [.i (IntKind.wrap .i64 (v15 + 1))]) v16.toNat 2 [.i (IntKind.wrap .i64 ((IntKind.wrap .i64 (v15 + 1)) + 1))]) v16.toNat 3 [.i (IntKind.wrap .i64 ((IntKind.wrap .i64 ((IntKind.wrap .i64 (v15 + 1)) + 1)) + 1))]) v16.toNat 4 [.r ((o143.vt 0 0).asR)]) v16.toNat 5 [.i (o143.t 0).asI]) v16.toNat 6 [.i (IntKind.wrap .i64 ((o143.t 0).asI + 1))]) v16.toNat 7 [.r ((o144.vt 0 0).asR)]))
 else
  some ⟨[.i v15], [[.r w8]]⟩
def laws_markTurnS_k1 : List Nat := [0, 1, 4, 5, 76]
def laws_markTurnS_S1 : (Int × Int × List (List T)) → St := fun (v15, v16, w8) => ⟨ofSl [(0, .ref (0, 0)), (1, .i .i64 v15), (4, .i .i64 0), (5, .i .i64 v16), (76, .skip)], Mem.put (ofMem [((0, 0), .deep 63 w8 none)]) modeNm .dead⟩
def laws_markTurnS_l1 (k : Nat) (G1 : (Int × Int × List (List T)) → Option Outs) : (Int × Int × List (List T)) → Option Outs :=
  laws_markTurnS_L1 k G1
def laws_markTurnS_U (k : Nat) (a0 : List (List T)) (a1 : Int) (R1 : (Int × Int × List (List T)) → Option Outs) : Option Outs :=
 R1 (a1, 0, a0)
def laws_markTurnS_u (k : Nat) (a0 : List (List T)) (a1 : Int) : Option Outs :=
  laws_markTurnS_U k a0 a1 (fun v => fixN (laws_markTurnS_l1 k) k v)
def laws_markTurnS_it1 (k : Nat) (a0 : List (List T)) (a1 : Int) (js : List Nat) (j : Nat) (s : St) : Option Outs := iter E (LB E (evalF E P0 k) k [0] N.laws_markTurnS [.sr, .sl, .sr, .bl]) [0] laws_markTurnS_k1 (LK E (evalF E P0 k) k [0] N.laws_markTurnS [.r a0, .v [.i a1]] [.sr, .sl, .sr, .bl] js) j s
theorem laws_markTurnS_e (k : Nat) (a0 : List (List T)) (a1 : Int) : evalF E P0 (k + 1) N.laws_markTurnS [.r a0, .v [.i a1]] = laws_markTurnS_u k a0 a1 := by
  have e0 : evalF E P0 (k + 1) N.laws_markTurnS [.r a0, .v [.i a1]] = laws_markTurnS_U k a0 a1 (fun v => laws_markTurnS_it1 k a0 a1 [] k (laws_markTurnS_S1 v)) := by kernel_rfl
  have e1 : ∀ (j1 : Nat) (v : Int × Int × List (List T)), laws_markTurnS_it1 k a0 a1 [] (j1 + 1) (laws_markTurnS_S1 v) = laws_markTurnS_L1 k (fun v => laws_markTurnS_it1 k a0 a1 [] j1 (laws_markTurnS_S1 v)) v := by
    intro j1 v; kernel_rfl
  have i1 : ∀ (j1 : Nat) (v : Int × Int × List (List T)), laws_markTurnS_it1 k a0 a1 [] j1 (laws_markTurnS_S1 v) = fixN (laws_markTurnS_l1 k) j1 v := by
    intro j1 v
    refine iter_fix (laws_markTurnS_S1) (laws_markTurnS_l1 k) (fun j1 v => (e1 j1 v).trans ?_) j1 v
    unfold laws_markTurnS_l1
    rfl
  rw [e0]; unfold laws_markTurnS_u
  simp only [i1]
/- laws.markAnsS -/
def laws_markAnsS_L1 (k : Nat) (G1 : (Int × Int × List (List T)) → Option Outs) : (Int × Int × List (List T)) → Option Outs := fun (v15, v16, w8) =>
 bif (decide (v16 < (w8.length : Int))) then
  chk (decide (0 ≤ v16) && decide (v16 < (w8.length : Int))) <|
  chk (decide (0 ≤ v16) && decide (v16 < ((put_ w8 v16.toNat 0 [.i v15]).length : Int))) <|
  chk (decide (0 ≤ v16) && decide (v16 < ((put_ (put_ w8 v16.toNat 0 [.i v15]) v16.toNat 1 [.i (IntKind.wrap .i64 (v15 + 1))]).length : Int))) <|
  bindO (evalF E P0 k N.laws_markIntS [.r ((at_ (put_ (put_ w8 v16.toNat 0 [.i v15]) v16.toNat 1 [.i (IntKind.wrap .i64 (v15 + 1))]) v16.toNat 2).asR), .v [.i (IntKind.wrap .i64 ((IntKind.wrap .i64 (v15 + 1)) + 1))]]) fun o48 =>
  G1 ((o48.t 0).asI, (IntKind.wrap .i64 (v16 + 1)), (put_ (put_ (put_ w8 v16.toNat 0 [.i v15]) v16.toNat 1 [.i (IntKind.wrap .i64 (v15 + 1))]) v16.toNat 2 [.r ((o48.vt 0 0).asR)]))
 else
  some ⟨[.i v15], [[.r w8]]⟩
def laws_markAnsS_k1 : List Nat := [0, 1, 4, 5, 33]
def laws_markAnsS_S1 : (Int × Int × List (List T)) → St := fun (v15, v16, w8) => ⟨ofSl [(0, .ref (0, 0)), (1, .i .i64 v15), (4, .i .i64 0), (5, .i .i64 v16), (33, .skip)], Mem.put (ofMem [((0, 0), .deep 61 w8 none)]) modeNm .dead⟩
def laws_markAnsS_l1 (k : Nat) (G1 : (Int × Int × List (List T)) → Option Outs) : (Int × Int × List (List T)) → Option Outs :=
  laws_markAnsS_L1 k G1
def laws_markAnsS_U (k : Nat) (a0 : List (List T)) (a1 : Int) (R1 : (Int × Int × List (List T)) → Option Outs) : Option Outs :=
 R1 (a1, 0, a0)
def laws_markAnsS_u (k : Nat) (a0 : List (List T)) (a1 : Int) : Option Outs :=
  laws_markAnsS_U k a0 a1 (fun v => fixN (laws_markAnsS_l1 k) k v)
def laws_markAnsS_it1 (k : Nat) (a0 : List (List T)) (a1 : Int) (js : List Nat) (j : Nat) (s : St) : Option Outs := iter E (LB E (evalF E P0 k) k [0] N.laws_markAnsS [.sr, .sl, .sr, .bl]) [0] laws_markAnsS_k1 (LK E (evalF E P0 k) k [0] N.laws_markAnsS [.r a0, .v [.i a1]] [.sr, .sl, .sr, .bl] js) j s
theorem laws_markAnsS_e (k : Nat) (a0 : List (List T)) (a1 : Int) : evalF E P0 (k + 1) N.laws_markAnsS [.r a0, .v [.i a1]] = laws_markAnsS_u k a0 a1 := by
  have e0 : evalF E P0 (k + 1) N.laws_markAnsS [.r a0, .v [.i a1]] = laws_markAnsS_U k a0 a1 (fun v => laws_markAnsS_it1 k a0 a1 [] k (laws_markAnsS_S1 v)) := by kernel_rfl
  have e1 : ∀ (j1 : Nat) (v : Int × Int × List (List T)), laws_markAnsS_it1 k a0 a1 [] (j1 + 1) (laws_markAnsS_S1 v) = laws_markAnsS_L1 k (fun v => laws_markAnsS_it1 k a0 a1 [] j1 (laws_markAnsS_S1 v)) v := by
    intro j1 v; kernel_rfl
  have i1 : ∀ (j1 : Nat) (v : Int × Int × List (List T)), laws_markAnsS_it1 k a0 a1 [] j1 (laws_markAnsS_S1 v) = fixN (laws_markAnsS_l1 k) j1 v := by
    intro j1 v
    refine iter_fix (laws_markAnsS_S1) (laws_markAnsS_l1 k) (fun j1 v => (e1 j1 v).trans ?_) j1 v
    unfold laws_markAnsS_l1
    rfl
  rw [e0]; unfold laws_markAnsS_u
  simp only [i1]
/- laws.heldIntS -/
def laws_heldIntS_L1 (k : Nat) (a0 : List (List T)) (G1 : (Int × Int) → Option Outs) : (Int × Int) → Option Outs := fun (v15, v16) =>
 bif (decide (v16 < (a0.length : Int))) then
  chk (decide (0 ≤ v16) && decide (v16 < (a0.length : Int))) <|
  bif ((at_ a0 v16.toNat 0).asI != v15) then
   some ⟨[.i (-1)], []⟩
  else
   G1 ((IntKind.wrap .i64 (v15 + 1)), (IntKind.wrap .i64 (v16 + 1)))
 else
  some ⟨[.i v15], []⟩
def laws_heldIntS_k1 : List Nat := [0, 1, 4, 5, 20]
def laws_heldIntS_S1 (a0 : List (List T)) : (Int × Int) → St := fun (v15, v16) => ⟨ofSl [(0, .sl 3 a0), (1, .i .i64 v15), (4, .i .i64 0), (5, .i .i64 v16), (20, .skip)], ofMem []⟩
def laws_heldIntS_l1 (k : Nat) (a0 : List (List T)) (G1 : (Int × Int) → Option Outs) : (Int × Int) → Option Outs :=
  laws_heldIntS_L1 k a0 G1
def laws_heldIntS_U (k : Nat) (a0 : List (List T)) (a1 : Int) (R1 : (Int × Int) → Option Outs) : Option Outs :=
 R1 (a1, 0)
def laws_heldIntS_u (k : Nat) (a0 : List (List T)) (a1 : Int) : Option Outs :=
  laws_heldIntS_U k a0 a1 (fun v => fixN (laws_heldIntS_l1 k a0) k v)
def laws_heldIntS_it1 (k : Nat) (a0 : List (List T)) (a1 : Int) (js : List Nat) (j : Nat) (s : St) : Option Outs := iter E (LB E (evalF E P0 k) k [] N.laws_heldIntS [.sr, .sl, .sr, .bl]) [] laws_heldIntS_k1 (LK E (evalF E P0 k) k [] N.laws_heldIntS [.v [.r a0], .v [.i a1]] [.sr, .sl, .sr, .bl] js) j s
theorem laws_heldIntS_e (k : Nat) (a0 : List (List T)) (a1 : Int) : evalF E P0 (k + 1) N.laws_heldIntS [.v [.r a0], .v [.i a1]] = laws_heldIntS_u k a0 a1 := by
  have e0 : evalF E P0 (k + 1) N.laws_heldIntS [.v [.r a0], .v [.i a1]] = laws_heldIntS_U k a0 a1 (fun v => laws_heldIntS_it1 k a0 a1 [] k (laws_heldIntS_S1 a0 v)) := by kernel_rfl
  have e1 : ∀ (j1 : Nat) (v : Int × Int), laws_heldIntS_it1 k a0 a1 [] (j1 + 1) (laws_heldIntS_S1 a0 v) = laws_heldIntS_L1 k a0 (fun v => laws_heldIntS_it1 k a0 a1 [] j1 (laws_heldIntS_S1 a0 v)) v := by
    intro j1 v; kernel_rfl
  have i1 : ∀ (j1 : Nat) (v : Int × Int), laws_heldIntS_it1 k a0 a1 [] j1 (laws_heldIntS_S1 a0 v) = fixN (laws_heldIntS_l1 k a0) j1 v := by
    intro j1 v
    refine iter_fix (laws_heldIntS_S1 a0) (laws_heldIntS_l1 k a0) (fun j1 v => (e1 j1 v).trans ?_) j1 v
    unfold laws_heldIntS_l1
    rfl
  rw [e0]; unfold laws_heldIntS_u
  simp only [i1]
/- laws.heldAnsS -/
def laws_heldAnsS_L1 (k : Nat) (a0 : List (List T)) (G1 : (Int × Int) → Option Outs) : (Int × Int) → Option Outs := fun (v15, v16) =>
 bif (decide (v16 < (a0.length : Int))) then
  chk (decide (0 ≤ v16) && decide (v16 < (a0.length : Int))) <|
  bif ((at_ a0 v16.toNat 0).asI != v15) then
   some ⟨[.i (-1)], []⟩
  else
   chk (decide (0 ≤ v16) && decide (v16 < (a0.length : Int))) <|
   bif ((at_ a0 v16.toNat 1).asI != (IntKind.wrap .i64 (v15 + 1))) then
    some ⟨[.i (-1)], []⟩
   else
    chk (decide (0 ≤ v16) && decide (v16 < (a0.length : Int))) <|
    bindO (evalF E P0 k N.laws_heldIntS [.v [.r (at_ a0 v16.toNat 2).asR], .v [.i (IntKind.wrap .i64 ((IntKind.wrap .i64 (v15 + 1)) + 1))]]) fun o96 =>
    bif (decide ((o96.t 0).asI < 0)) then some ⟨[.i (-1)], []⟩ else G1 ((o96.t 0).asI, (IntKind.wrap .i64 (v16 + 1)))
 else
  some ⟨[.i v15], []⟩
def laws_heldAnsS_k1 : List Nat := [0, 1, 4, 5, 39]
def laws_heldAnsS_S1 (a0 : List (List T)) : (Int × Int) → St := fun (v15, v16) => ⟨ofSl [(0, .sl 61 a0), (1, .i .i64 v15), (4, .i .i64 0), (5, .i .i64 v16), (39, .skip)], ofMem []⟩
def laws_heldAnsS_l1 (k : Nat) (a0 : List (List T)) (G1 : (Int × Int) → Option Outs) : (Int × Int) → Option Outs :=
  laws_heldAnsS_L1 k a0 G1
def laws_heldAnsS_U (k : Nat) (a0 : List (List T)) (a1 : Int) (R1 : (Int × Int) → Option Outs) : Option Outs :=
 R1 (a1, 0)
def laws_heldAnsS_u (k : Nat) (a0 : List (List T)) (a1 : Int) : Option Outs :=
  laws_heldAnsS_U k a0 a1 (fun v => fixN (laws_heldAnsS_l1 k a0) k v)
def laws_heldAnsS_it1 (k : Nat) (a0 : List (List T)) (a1 : Int) (js : List Nat) (j : Nat) (s : St) : Option Outs := iter E (LB E (evalF E P0 k) k [] N.laws_heldAnsS [.sr, .sl, .sr, .bl]) [] laws_heldAnsS_k1 (LK E (evalF E P0 k) k [] N.laws_heldAnsS [.v [.r a0], .v [.i a1]] [.sr, .sl, .sr, .bl] js) j s
theorem laws_heldAnsS_e (k : Nat) (a0 : List (List T)) (a1 : Int) : evalF E P0 (k + 1) N.laws_heldAnsS [.v [.r a0], .v [.i a1]] = laws_heldAnsS_u k a0 a1 := by
  have e0 : evalF E P0 (k + 1) N.laws_heldAnsS [.v [.r a0], .v [.i a1]] = laws_heldAnsS_U k a0 a1 (fun v => laws_heldAnsS_it1 k a0 a1 [] k (laws_heldAnsS_S1 a0 v)) := by kernel_rfl
  have e1 : ∀ (j1 : Nat) (v : Int × Int), laws_heldAnsS_it1 k a0 a1 [] (j1 + 1) (laws_heldAnsS_S1 a0 v) = laws_heldAnsS_L1 k a0 (fun v => laws_heldAnsS_it1 k a0 a1 [] j1 (laws_heldAnsS_S1 a0 v)) v := by
    intro j1 v; kernel_rfl
  have i1 : ∀ (j1 : Nat) (v : Int × Int), laws_heldAnsS_it1 k a0 a1 [] j1 (laws_heldAnsS_S1 a0 v) = fixN (laws_heldAnsS_l1 k a0) j1 v := by
    intro j1 v
    refine iter_fix (laws_heldAnsS_S1 a0) (laws_heldAnsS_l1 k a0) (fun j1 v => (e1 j1 v).trans ?_) j1 v
    unfold laws_heldAnsS_l1
    rfl
  rw [e0]; unfold laws_heldAnsS_u
  simp only [i1]
/- laws.FnExactAnsOf -/
def laws_FnExactAnsOf_J1 (k : Nat) (a0 : List (List T)) (o6 : Outs) (o10 : Outs) (c1 : Bool) : Option Outs :=
 bif c1 then
  some ⟨[.b false], []⟩
 else
  bindO (evalF E P0 k N.laws_markAnsS [.r ((o10.t 0).asR), .v [.i 1]]) fun o21 =>
  bindO (evalF E P0 k N.laws_heldAnsS [.v [.r (o21.vt 0 0).asR], .v [.i 1]]) fun o23 =>
  bif (decide ((o23.t 0).asI < 0)) then
   some ⟨[.b false], []⟩
  else
   bif ((o23.t 0).asI != (o21.t 0).asI) then
    some ⟨[.b false], []⟩
   else
    bindO (evalF E P0 k N.laws_toTurnS [.v [.r a0]]) fun o26 =>
    bindO (evalF E P0 k N.impl_AnsOf [.v [.r (o26.t 0).asR]]) fun o27 =>
    bindO (evalF E P0 k N.laws_eqAnsS [.v [.r (o27.t 0).asR], .v [.r (o6.t 0).asR]]) fun o29 =>
    bif (!(o29.t 0).asB) then
     some ⟨[.b false], []⟩
    else
     bindO (evalF E P0 k N.laws_heldAnsS [.v [.r (o21.vt 0 0).asR], .v [.i 1]]) fun o31 =>
     bif (decide ((o31.t 0).asI < 0)) then
      some ⟨[.b false], []⟩
     else
      bif ((o31.t 0).asI != (o21.t 0).asI) then some ⟨[.b false], []⟩ else some ⟨[.b true], []⟩
def laws_FnExactAnsOf_u (k : Nat) (a0 : List (List T)) : Option Outs :=
 bindO (evalF E P0 k N.laws_szTurnS [.v [.r a0], .v [.i 1048576]]) fun o2 =>
 bif (decide ((o2.t 0).asI < 0)) then
  some ⟨[.b true], []⟩
 else
  bindO (evalF E P0 k N.laws_toTurnS [.v [.r a0]]) fun o5 =>
  bindO (evalF E P0 k N.spec_AnsOf [.v [.r (o5.t 0).asR]]) fun o6 =>
  bindO (evalF E P0 k N.laws_toTurnS [.v [.r a0]]) fun o8 =>
  bindO (evalF E P0 k N.impl_AnsOf [.v [.r (o8.t 0).asR]]) fun o10 =>
  bindO (evalF E P0 k N.laws_eqAnsS [.v [.r (o10.t 0).asR], .v [.r (o6.t 0).asR]]) fun o12 =>
  bif (!(o12.t 0).asB) then
   some ⟨[.b false], []⟩
  else
   bindO (evalF E P0 k N.laws_toTurnS [.v [.r a0]]) fun o15 =>
   bindO (evalF E P0 k N.laws_eqTurnS [.v [.r (o8.t 0).asR], .v [.r (o15.t 0).asR]]) fun o16 =>
   bif (!(o16.t 0).asB) then
    some ⟨[.b false], []⟩
   else
    bindO (evalF E P0 k N.laws_markTurnS [.r ((o8.t 0).asR), .v [.i 1]]) fun o18 =>
    bif (decide ((o18.t 0).asI < 0)) then
     laws_FnExactAnsOf_J1 k a0 o6 o10 true
    else
     bindO (evalF E P0 k N.laws_eqAnsS [.v [.r (o10.t 0).asR], .v [.r (o6.t 0).asR]]) fun o32 =>
     laws_FnExactAnsOf_J1 k a0 o6 o10 (!(o32.t 0).asB)
theorem laws_FnExactAnsOf_e (k : Nat) (a0 : List (List T)) : evalF E P0 (k + 1) N.laws_FnExactAnsOf [.v [.r a0]] = laws_FnExactAnsOf_u k a0 := by kernel_rfl
/- spec.l13Copy -/
def spec_l13Copy_u (k : Nat) (a0_0 : Int) (a0_1 : Int) (a0_2 : Int) (a0_3 : Int) (a0_4 : List (List T)) : Option Outs :=
 chk (decide ((([] : List (List T)).length + a0_4.length) * 8 ≤ 140737488355328)) <|
 some ⟨[.i a0_0, .i a0_1, .i a0_2, .i a0_3, .r (([] : List (List T)) ++ a0_4)], []⟩
theorem spec_l13Copy_e (k : Nat) (a0_0 : Int) (a0_1 : Int) (a0_2 : Int) (a0_3 : Int) (a0_4 : List (List T)) : evalF E P0 (k + 1) N.spec_l13Copy [.v [.i a0_0, .i a0_1, .i a0_2, .i a0_3, .r a0_4]] = spec_l13Copy_u k a0_0 a0_1 a0_2 a0_3 a0_4 := by kernel_rfl
/- spec.CmdsOf -/
def spec_CmdsOf_L1 (k : Nat) (a0 : List (List T)) (G1 : (Int × List (List T)) → Option Outs) : (Int × List (List T)) → Option Outs := fun (v8, w8) =>
 bif (decide (v8 < (a0.length : Int))) then
  chk (decide (0 ≤ v8) && decide (v8 < (a0.length : Int))) <|
  bindO (evalF E P0 k N.spec_l13Copy [.v [.i (at_ a0 v8.toNat 0).asI, .i (at_ a0 v8.toNat 1).asI, .i (at_ a0 v8.toNat 2).asI, .i (at_ a0 v8.toNat 3).asI, .r (at_ a0 v8.toNat 4).asR]]) fun o48 =>
  chk (decide ((w8.length + ([[.i (o48.t 0).asI, .i (o48.t 1).asI, .i (o48.t 2).asI, .i (o48.t 3).asI, .r (o48.t 4).asR]] : List (List T)).length) * 56 ≤ 140737488355328)) <|
  G1 ((IntKind.wrap .i64 (v8 + 1)), (w8 ++ [[.i (o48.t 0).asI, .i (o48.t 1).asI, .i (o48.t 2).asI, .i (o48.t 3).asI, .r (o48.t 4).asR]]))
 else
  some ⟨[.r w8], []⟩
def spec_CmdsOf_k1 : List Nat := [0, 2, 3, 4, 21]
def spec_CmdsOf_S1 (a0 : List (List T)) : (Int × List (List T)) → St := fun (v8, w8) => ⟨ofSl [(0, .sl 63 a0), (2, .ref (2, 0)), (3, .ref (3, 0)), (4, .i .i64 v8), (21, .skip)], ofMem [((2, 0), .row 54 true []), ((3, 0), .row 54 true w8)]⟩
def spec_CmdsOf_l1 (k : Nat) (a0 : List (List T)) (G1 : (Int × List (List T)) → Option Outs) : (Int × List (List T)) → Option Outs :=
  spec_CmdsOf_L1 k a0 G1
def spec_CmdsOf_U (k : Nat) (a0 : List (List T)) (R1 : (Int × List (List T)) → Option Outs) : Option Outs :=
 R1 (0, [])
def spec_CmdsOf_u (k : Nat) (a0 : List (List T)) : Option Outs :=
  spec_CmdsOf_U k a0 (fun v => fixN (spec_CmdsOf_l1 k a0) k v)
def spec_CmdsOf_it1 (k : Nat) (a0 : List (List T)) (js : List Nat) (j : Nat) (s : St) : Option Outs := iter E (LB E (evalF E P0 k) k [] N.spec_CmdsOf [.sr, .sr, .sl, .sr, .bl]) [] spec_CmdsOf_k1 (LK E (evalF E P0 k) k [] N.spec_CmdsOf [.v [.r a0]] [.sr, .sr, .sl, .sr, .bl] js) j s
theorem spec_CmdsOf_e (k : Nat) (a0 : List (List T)) : evalF E P0 (k + 1) N.spec_CmdsOf [.v [.r a0]] = spec_CmdsOf_u k a0 := by
  have e0 : evalF E P0 (k + 1) N.spec_CmdsOf [.v [.r a0]] = spec_CmdsOf_U k a0 (fun v => spec_CmdsOf_it1 k a0 [] k (spec_CmdsOf_S1 a0 v)) := by kernel_rfl
  have e1 : ∀ (j1 : Nat) (v : Int × List (List T)), spec_CmdsOf_it1 k a0 [] (j1 + 1) (spec_CmdsOf_S1 a0 v) = spec_CmdsOf_L1 k a0 (fun v => spec_CmdsOf_it1 k a0 [] j1 (spec_CmdsOf_S1 a0 v)) v := by
    intro j1 v; kernel_rfl
  have i1 : ∀ (j1 : Nat) (v : Int × List (List T)), spec_CmdsOf_it1 k a0 [] j1 (spec_CmdsOf_S1 a0 v) = fixN (spec_CmdsOf_l1 k a0) j1 v := by
    intro j1 v
    refine iter_fix (spec_CmdsOf_S1 a0) (spec_CmdsOf_l1 k a0) (fun j1 v => (e1 j1 v).trans ?_) j1 v
    unfold spec_CmdsOf_l1
    rfl
  rw [e0]; unfold spec_CmdsOf_u
  simp only [i1]
/- impl.copyCmd -/
def impl_copyCmd_u (k : Nat) (a0_0 : Int) (a0_1 : Int) (a0_2 : Int) (a0_3 : Int) (a0_4 : List (List T)) : Option Outs :=
 bindO (evalF E P0 k N.impl_copyInts [.v [.r a0_4]]) fun o2 =>
 some ⟨[.i a0_0, .i a0_1, .i a0_2, .i a0_3, .r (o2.t 0).asR], []⟩
theorem impl_copyCmd_e (k : Nat) (a0_0 : Int) (a0_1 : Int) (a0_2 : Int) (a0_3 : Int) (a0_4 : List (List T)) : evalF E P0 (k + 1) N.impl_copyCmd [.v [.i a0_0, .i a0_1, .i a0_2, .i a0_3, .r a0_4]] = impl_copyCmd_u k a0_0 a0_1 a0_2 a0_3 a0_4 := by kernel_rfl
/- impl.CmdsOf -/
def impl_CmdsOf_L1 (k : Nat) (a0 : List (List T)) (G1 : (Int × List (List T)) → Option Outs) : (Int × List (List T)) → Option Outs := fun (v8, w8) =>
 bif (decide (v8 < (a0.length : Int))) then
  chk (decide (0 ≤ v8) && decide (v8 < (a0.length : Int))) <|
  bindO (evalF E P0 k N.impl_copyCmd [.v [.i (at_ a0 v8.toNat 0).asI, .i (at_ a0 v8.toNat 1).asI, .i (at_ a0 v8.toNat 2).asI, .i (at_ a0 v8.toNat 3).asI, .r (at_ a0 v8.toNat 4).asR]]) fun o48 =>
  chk (decide ((w8.length + ([[.i (o48.t 0).asI, .i (o48.t 1).asI, .i (o48.t 2).asI, .i (o48.t 3).asI, .r (o48.t 4).asR]] : List (List T)).length) * 56 ≤ 140737488355328)) <|
  G1 ((IntKind.wrap .i64 (v8 + 1)), (w8 ++ [[.i (o48.t 0).asI, .i (o48.t 1).asI, .i (o48.t 2).asI, .i (o48.t 3).asI, .r (o48.t 4).asR]]))
 else
  some ⟨[.r w8], []⟩
def impl_CmdsOf_k1 : List Nat := [2, 3, 7, 8, 9, 20]
def impl_CmdsOf_S1 (a0 : List (List T)) : (Int × List (List T)) → St := fun (v8, w8) => ⟨ofSl [(2, .ref (2, 0)), (3, .ref (3, 0)), (7, .sl 63 a0), (8, .i .i64 (a0.length : Int)), (9, .i .i64 v8), (20, .skip)], Mem.put (ofMem [((2, 0), .deep 54 [] none), ((3, 0), .deep 54 w8 none)]) modeNm .dead⟩
def impl_CmdsOf_l1 (k : Nat) (a0 : List (List T)) (G1 : (Int × List (List T)) → Option Outs) : (Int × List (List T)) → Option Outs :=
  impl_CmdsOf_L1 k a0 G1
def impl_CmdsOf_U (k : Nat) (a0 : List (List T)) (R1 : (Int × List (List T)) → Option Outs) : Option Outs :=
 R1 (0, [])
def impl_CmdsOf_u (k : Nat) (a0 : List (List T)) : Option Outs :=
  impl_CmdsOf_U k a0 (fun v => fixN (impl_CmdsOf_l1 k a0) k v)
def impl_CmdsOf_it1 (k : Nat) (a0 : List (List T)) (js : List Nat) (j : Nat) (s : St) : Option Outs := iter E (LB E (evalF E P0 k) k [] N.impl_CmdsOf [.sr, .sr, .sl, .sr, .bl]) [] impl_CmdsOf_k1 (LK E (evalF E P0 k) k [] N.impl_CmdsOf [.v [.r a0]] [.sr, .sr, .sl, .sr, .bl] js) j s
theorem impl_CmdsOf_e (k : Nat) (a0 : List (List T)) : evalF E P0 (k + 1) N.impl_CmdsOf [.v [.r a0]] = impl_CmdsOf_u k a0 := by
  have e0 : evalF E P0 (k + 1) N.impl_CmdsOf [.v [.r a0]] = impl_CmdsOf_U k a0 (fun v => impl_CmdsOf_it1 k a0 [] k (impl_CmdsOf_S1 a0 v)) := by kernel_rfl
  have e1 : ∀ (j1 : Nat) (v : Int × List (List T)), impl_CmdsOf_it1 k a0 [] (j1 + 1) (impl_CmdsOf_S1 a0 v) = impl_CmdsOf_L1 k a0 (fun v => impl_CmdsOf_it1 k a0 [] j1 (impl_CmdsOf_S1 a0 v)) v := by
    intro j1 v; kernel_rfl
  have i1 : ∀ (j1 : Nat) (v : Int × List (List T)), impl_CmdsOf_it1 k a0 [] j1 (impl_CmdsOf_S1 a0 v) = fixN (impl_CmdsOf_l1 k a0) j1 v := by
    intro j1 v
    refine iter_fix (impl_CmdsOf_S1 a0) (impl_CmdsOf_l1 k a0) (fun j1 v => (e1 j1 v).trans ?_) j1 v
    unfold impl_CmdsOf_l1
    rfl
  rw [e0]; unfold impl_CmdsOf_u
  simp only [i1]
/- laws.eqCmdS -/
def laws_eqCmdS_L1 (k : Nat) (a0 : List (List T)) (a1 : List (List T)) (G1 : (Int) → Option Outs) : (Int) → Option Outs := fun v8 =>
 bif (decide (v8 < (a0.length : Int))) then
  chk (decide (0 ≤ v8) && decide (v8 < (a0.length : Int))) <|
  chk (decide (0 ≤ v8) && decide (v8 < (a1.length : Int))) <|
  bindO (evalF E P0 k N.laws_eqCmd [.v [.i (at_ a0 v8.toNat 0).asI, .i (at_ a0 v8.toNat 1).asI, .i (at_ a0 v8.toNat 2).asI, .i (at_ a0 v8.toNat 3).asI, .r (at_ a0 v8.toNat 4).asR], .v [.i (at_ a1 v8.toNat 0).asI, .i (at_ a1 v8.toNat 1).asI, .i (at_ a1 v8.toNat 2).asI, .i (at_ a1 v8.toNat 3).asI, .r (at_ a1 v8.toNat 4).asR]]) fun o96 =>
  bif (!(o96.t 0).asB) then some ⟨[.b false], []⟩ else G1 (IntKind.wrap .i64 (v8 + 1))
 else
  some ⟨[.b true], []⟩
def laws_eqCmdS_k1 : List Nat := [0, 1, 4, 5]
def laws_eqCmdS_S1 (a0 : List (List T)) (a1 : List (List T)) : (Int) → St := fun v8 => ⟨ofSl [(0, .sl 54 a0), (1, .sl 54 a1), (4, .b false), (5, .i .i64 v8)], ofMem []⟩
def laws_eqCmdS_l1 (k : Nat) (a0 : List (List T)) (a1 : List (List T)) (G1 : (Int) → Option Outs) : (Int) → Option Outs :=
  laws_eqCmdS_L1 k a0 a1 G1
def laws_eqCmdS_U (k : Nat) (a0 : List (List T)) (a1 : List (List T)) (R1 : (Int) → Option Outs) : Option Outs :=
 bif ((a0.length : Int) != (a1.length : Int)) then some ⟨[.b false], []⟩ else R1 0
def laws_eqCmdS_u (k : Nat) (a0 : List (List T)) (a1 : List (List T)) : Option Outs :=
  laws_eqCmdS_U k a0 a1 (fun v => fixN (laws_eqCmdS_l1 k a0 a1) k v)
def laws_eqCmdS_it1 (k : Nat) (a0 : List (List T)) (a1 : List (List T)) (js : List Nat) (j : Nat) (s : St) : Option Outs := iter E (LB E (evalF E P0 k) k [] N.laws_eqCmdS [.sr, .sr, .sl, .sr, .bl]) [] laws_eqCmdS_k1 (LK E (evalF E P0 k) k [] N.laws_eqCmdS [.v [.r a0], .v [.r a1]] [.sr, .sr, .sl, .sr, .bl] js) j s
theorem laws_eqCmdS_e (k : Nat) (a0 : List (List T)) (a1 : List (List T)) : evalF E P0 (k + 1) N.laws_eqCmdS [.v [.r a0], .v [.r a1]] = laws_eqCmdS_u k a0 a1 := by
  have e0 : evalF E P0 (k + 1) N.laws_eqCmdS [.v [.r a0], .v [.r a1]] = laws_eqCmdS_U k a0 a1 (fun v => laws_eqCmdS_it1 k a0 a1 [] k (laws_eqCmdS_S1 a0 a1 v)) := by kernel_rfl
  have e1 : ∀ (j1 : Nat) (v : Int), laws_eqCmdS_it1 k a0 a1 [] (j1 + 1) (laws_eqCmdS_S1 a0 a1 v) = laws_eqCmdS_L1 k a0 a1 (fun v => laws_eqCmdS_it1 k a0 a1 [] j1 (laws_eqCmdS_S1 a0 a1 v)) v := by
    intro j1 v; kernel_rfl
  have i1 : ∀ (j1 : Nat) (v : Int), laws_eqCmdS_it1 k a0 a1 [] j1 (laws_eqCmdS_S1 a0 a1 v) = fixN (laws_eqCmdS_l1 k a0 a1) j1 v := by
    intro j1 v
    refine iter_fix (laws_eqCmdS_S1 a0 a1) (laws_eqCmdS_l1 k a0 a1) (fun j1 v => (e1 j1 v).trans ?_) j1 v
    unfold laws_eqCmdS_l1
    rfl
  rw [e0]; unfold laws_eqCmdS_u
  simp only [i1]
/- laws.markCmdS -/
def laws_markCmdS_L1 (k : Nat) (G1 : (Int × Int × List (List T)) → Option Outs) : (Int × Int × List (List T)) → Option Outs := fun (v15, v16, w8) =>
 bif (decide (v16 < (w8.length : Int))) then
  chk (decide (0 ≤ v16) && decide (v16 < (w8.length : Int))) <|
  chk (decide (0 ≤ v16) && decide (v16 < ((put_ w8 v16.toNat 0 [.i v15]).length : Int))) <|
  chk (decide (0 ≤ v16) && decide (v16 < ((put_ (put_ w8 v16.toNat 0 [.i v15]) v16.toNat 1 [.i (IntKind.wrap .i64 (v15 + 1))]).length : Int))) <|
  chk (decide (0 ≤ v16) && decide (v16 < ((put_ (put_ (put_ w8 v16.toNat 0 [.i v15]) v16.toNat 1 [.i (IntKind.wrap .i64 (v15 + 1))]) v16.toNat 2 [.i (IntKind.wrap .i64 ((IntKind.wrap .i64 (v15 + 1)) + 1))]).length : Int))) <|
  chk (decide (0 ≤ v16) && decide (v16 < ((put_ (put_ (put_ (put_ w8 v16.toNat 0 [.i v15]) v16.toNat 1 [.i (IntKind.wrap .i64 (v15 + 1))]) v16.toNat 2 [.i (IntKind.wrap .i64 ((IntKind.wrap .i64 (v15 + 1)) + 1))]) v16.toNat 3 [.i (IntKind.wrap .i64 ((IntKind.wrap .i64 ((IntKind.wrap .i64 (v15 + 1)) + 1)) + 1))]).length : Int))) <|
  bindO (evalF E P0 k N.laws_markIntS [.r ((at_ (put_ (put_ (put_ (put_ w8 v16.toNat 0 [.i v15]) v16.toNat 1 [.i (IntKind.wrap .i64 (v15 + 1))]) v16.toNat 2 [.i (IntKind.wrap .i64 ((IntKind.wrap .i64 (v15 + 1)) + 1))]) v16.toNat 3 [.i (IntKind.wrap .i64 ((IntKind.wrap .i64 ((IntKind.wrap .i64 (v15 + 1)) + 1)) + 1))]) v16.toNat 4).asR), .v [.i (IntKind.wrap .i64 ((IntKind.wrap .i64 ((IntKind.wrap .i64 ((IntKind.wrap .i64 (v15 + 1)) + 1)) + 1)) + 1))]]) fun o48 =>
  G1 ((o48.t 0).asI, (IntKind.wrap .i64 (v16 + 1)), (put_ (put_ (put_ (put_ (put_ w8 v16.toNat 0 [.i v15]) v16.toNat 1 [.i (IntKind.wrap .i64 (v15 + 1))]) v16.toNat 2 [.i (IntKind.wrap .i64 ((IntKind.wrap .i64 (v15 + 1)) + 1))]) v16.toNat 3 [.i (IntKind.wrap .i64 ((IntKind.wrap .i64 ((IntKind.wrap .i64 (v15 + 1)) + 1)) + 1))]) v16.toNat 4 [.r ((o48.vt 0 0).asR)]))
 else
  some ⟨[.i v15], [[.r w8]]⟩
def laws_markCmdS_k1 : List Nat := [0, 1, 4, 5, 47]
def laws_markCmdS_S1 : (Int × Int × List (List T)) → St := fun (v15, v16, w8) => ⟨ofSl [(0, .ref (0, 0)), (1, .i .i64 v15), (4, .i .i64 0), (5, .i .i64 v16), (47, .skip)], Mem.put (ofMem [((0, 0), .deep 54 w8 none)]) modeNm .dead⟩
def laws_markCmdS_l1 (k : Nat) (G1 : (Int × Int × List (List T)) → Option Outs) : (Int × Int × List (List T)) → Option Outs :=
  laws_markCmdS_L1 k G1
def laws_markCmdS_U (k : Nat) (a0 : List (List T)) (a1 : Int) (R1 : (Int × Int × List (List T)) → Option Outs) : Option Outs :=
 R1 (a1, 0, a0)
def laws_markCmdS_u (k : Nat) (a0 : List (List T)) (a1 : Int) : Option Outs :=
  laws_markCmdS_U k a0 a1 (fun v => fixN (laws_markCmdS_l1 k) k v)
def laws_markCmdS_it1 (k : Nat) (a0 : List (List T)) (a1 : Int) (js : List Nat) (j : Nat) (s : St) : Option Outs := iter E (LB E (evalF E P0 k) k [0] N.laws_markCmdS [.sr, .sl, .sr, .bl]) [0] laws_markCmdS_k1 (LK E (evalF E P0 k) k [0] N.laws_markCmdS [.r a0, .v [.i a1]] [.sr, .sl, .sr, .bl] js) j s
theorem laws_markCmdS_e (k : Nat) (a0 : List (List T)) (a1 : Int) : evalF E P0 (k + 1) N.laws_markCmdS [.r a0, .v [.i a1]] = laws_markCmdS_u k a0 a1 := by
  have e0 : evalF E P0 (k + 1) N.laws_markCmdS [.r a0, .v [.i a1]] = laws_markCmdS_U k a0 a1 (fun v => laws_markCmdS_it1 k a0 a1 [] k (laws_markCmdS_S1 v)) := by kernel_rfl
  have e1 : ∀ (j1 : Nat) (v : Int × Int × List (List T)), laws_markCmdS_it1 k a0 a1 [] (j1 + 1) (laws_markCmdS_S1 v) = laws_markCmdS_L1 k (fun v => laws_markCmdS_it1 k a0 a1 [] j1 (laws_markCmdS_S1 v)) v := by
    intro j1 v; kernel_rfl
  have i1 : ∀ (j1 : Nat) (v : Int × Int × List (List T)), laws_markCmdS_it1 k a0 a1 [] j1 (laws_markCmdS_S1 v) = fixN (laws_markCmdS_l1 k) j1 v := by
    intro j1 v
    refine iter_fix (laws_markCmdS_S1) (laws_markCmdS_l1 k) (fun j1 v => (e1 j1 v).trans ?_) j1 v
    unfold laws_markCmdS_l1
    rfl
  rw [e0]; unfold laws_markCmdS_u
  simp only [i1]
/- laws.heldCmdS -/
def laws_heldCmdS_L1 (k : Nat) (a0 : List (List T)) (G1 : (Int × Int) → Option Outs) : (Int × Int) → Option Outs := fun (v15, v16) =>
 bif (decide (v16 < (a0.length : Int))) then
  chk (decide (0 ≤ v16) && decide (v16 < (a0.length : Int))) <|
  bif ((at_ a0 v16.toNat 0).asI != v15) then
   some ⟨[.i (-1)], []⟩
  else
   chk (decide (0 ≤ v16) && decide (v16 < (a0.length : Int))) <|
   bif ((at_ a0 v16.toNat 1).asI != (IntKind.wrap .i64 (v15 + 1))) then
    some ⟨[.i (-1)], []⟩
   else
    chk (decide (0 ≤ v16) && decide (v16 < (a0.length : Int))) <|
    bif ((at_ a0 v16.toNat 2).asI != (IntKind.wrap .i64 ((IntKind.wrap .i64 (v15 + 1)) + 1))) then
     some ⟨[.i (-1)], []⟩
    else
     chk (decide (0 ≤ v16) && decide (v16 < (a0.length : Int))) <|
     bif ((at_ a0 v16.toNat 3).asI != (IntKind.wrap .i64 ((IntKind.wrap .i64 ((IntKind.wrap .i64 (v15 + 1)) + 1)) + 1))) then
      some ⟨[.i (-1)], []⟩
     else
      chk (decide (0 ≤ v16) && decide (v16 < (a0.length : Int))) <|
      bindO (evalF E P0 k N.laws_heldIntS [.v [.r (at_ a0 v16.toNat 4).asR], .v [.i (IntKind.wrap .i64 ((IntKind.wrap .i64 ((IntKind.wrap .i64 ((IntKind.wrap .i64 (v15 + 1)) + 1)) + 1)) + 1))]]) fun o96 =>
      bif (decide ((o96.t 0).asI < 0)) then some ⟨[.i (-1)], []⟩ else G1 ((o96.t 0).asI, (IntKind.wrap .i64 (v16 + 1)))
 else
  some ⟨[.i v15], []⟩
def laws_heldCmdS_k1 : List Nat := [0, 1, 4, 5, 57]
def laws_heldCmdS_S1 (a0 : List (List T)) : (Int × Int) → St := fun (v15, v16) => ⟨ofSl [(0, .sl 54 a0), (1, .i .i64 v15), (4, .i .i64 0), (5, .i .i64 v16), (57, .skip)], ofMem []⟩
def laws_heldCmdS_l1 (k : Nat) (a0 : List (List T)) (G1 : (Int × Int) → Option Outs) : (Int × Int) → Option Outs :=
  laws_heldCmdS_L1 k a0 G1
def laws_heldCmdS_U (k : Nat) (a0 : List (List T)) (a1 : Int) (R1 : (Int × Int) → Option Outs) : Option Outs :=
 R1 (a1, 0)
def laws_heldCmdS_u (k : Nat) (a0 : List (List T)) (a1 : Int) : Option Outs :=
  laws_heldCmdS_U k a0 a1 (fun v => fixN (laws_heldCmdS_l1 k a0) k v)
def laws_heldCmdS_it1 (k : Nat) (a0 : List (List T)) (a1 : Int) (js : List Nat) (j : Nat) (s : St) : Option Outs := iter E (LB E (evalF E P0 k) k [] N.laws_heldCmdS [.sr, .sl, .sr, .bl]) [] laws_heldCmdS_k1 (LK E (evalF E P0 k) k [] N.laws_heldCmdS [.v [.r a0], .v [.i a1]] [.sr, .sl, .sr, .bl] js) j s
theorem laws_heldCmdS_e (k : Nat) (a0 : List (List T)) (a1 : Int) : evalF E P0 (k + 1) N.laws_heldCmdS [.v [.r a0], .v [.i a1]] = laws_heldCmdS_u k a0 a1 := by
  have e0 : evalF E P0 (k + 1) N.laws_heldCmdS [.v [.r a0], .v [.i a1]] = laws_heldCmdS_U k a0 a1 (fun v => laws_heldCmdS_it1 k a0 a1 [] k (laws_heldCmdS_S1 a0 v)) := by kernel_rfl
  have e1 : ∀ (j1 : Nat) (v : Int × Int), laws_heldCmdS_it1 k a0 a1 [] (j1 + 1) (laws_heldCmdS_S1 a0 v) = laws_heldCmdS_L1 k a0 (fun v => laws_heldCmdS_it1 k a0 a1 [] j1 (laws_heldCmdS_S1 a0 v)) v := by
    intro j1 v; kernel_rfl
  have i1 : ∀ (j1 : Nat) (v : Int × Int), laws_heldCmdS_it1 k a0 a1 [] j1 (laws_heldCmdS_S1 a0 v) = fixN (laws_heldCmdS_l1 k a0) j1 v := by
    intro j1 v
    refine iter_fix (laws_heldCmdS_S1 a0) (laws_heldCmdS_l1 k a0) (fun j1 v => (e1 j1 v).trans ?_) j1 v
    unfold laws_heldCmdS_l1
    rfl
  rw [e0]; unfold laws_heldCmdS_u
  simp only [i1]
/- laws.FnExactCmdsOf -/
def laws_FnExactCmdsOf_J1 (k : Nat) (a0 : List (List T)) (o6 : Outs) (o10 : Outs) (c1 : Bool) : Option Outs :=
 bif c1 then
  some ⟨[.b false], []⟩
 else
  bindO (evalF E P0 k N.laws_markCmdS [.r ((o10.t 0).asR), .v [.i 1]]) fun o21 =>
  bindO (evalF E P0 k N.laws_heldCmdS [.v [.r (o21.vt 0 0).asR], .v [.i 1]]) fun o23 =>
  bif (decide ((o23.t 0).asI < 0)) then
   some ⟨[.b false], []⟩
  else
   bif ((o23.t 0).asI != (o21.t 0).asI) then
    some ⟨[.b false], []⟩
   else
    bindO (evalF E P0 k N.laws_toTurnS [.v [.r a0]]) fun o26 =>
    bindO (evalF E P0 k N.impl_CmdsOf [.v [.r (o26.t 0).asR]]) fun o27 =>
    bindO (evalF E P0 k N.laws_eqCmdS [.v [.r (o27.t 0).asR], .v [.r (o6.t 0).asR]]) fun o29 =>
    bif (!(o29.t 0).asB) then
     some ⟨[.b false], []⟩
    else
     bindO (evalF E P0 k N.laws_heldCmdS [.v [.r (o21.vt 0 0).asR], .v [.i 1]]) fun o31 =>
     bif (decide ((o31.t 0).asI < 0)) then
      some ⟨[.b false], []⟩
     else
      bif ((o31.t 0).asI != (o21.t 0).asI) then some ⟨[.b false], []⟩ else some ⟨[.b true], []⟩
def laws_FnExactCmdsOf_u (k : Nat) (a0 : List (List T)) : Option Outs :=
 bindO (evalF E P0 k N.laws_szTurnS [.v [.r a0], .v [.i 1048576]]) fun o2 =>
 bif (decide ((o2.t 0).asI < 0)) then
  some ⟨[.b true], []⟩
 else
  bindO (evalF E P0 k N.laws_toTurnS [.v [.r a0]]) fun o5 =>
  bindO (evalF E P0 k N.spec_CmdsOf [.v [.r (o5.t 0).asR]]) fun o6 =>
  bindO (evalF E P0 k N.laws_toTurnS [.v [.r a0]]) fun o8 =>
  bindO (evalF E P0 k N.impl_CmdsOf [.v [.r (o8.t 0).asR]]) fun o10 =>
  bindO (evalF E P0 k N.laws_eqCmdS [.v [.r (o10.t 0).asR], .v [.r (o6.t 0).asR]]) fun o12 =>
  bif (!(o12.t 0).asB) then
   some ⟨[.b false], []⟩
  else
   bindO (evalF E P0 k N.laws_toTurnS [.v [.r a0]]) fun o15 =>
   bindO (evalF E P0 k N.laws_eqTurnS [.v [.r (o8.t 0).asR], .v [.r (o15.t 0).asR]]) fun o16 =>
   bif (!(o16.t 0).asB) then
    some ⟨[.b false], []⟩
   else
    bindO (evalF E P0 k N.laws_markTurnS [.r ((o8.t 0).asR), .v [.i 1]]) fun o18 =>
    bif (decide ((o18.t 0).asI < 0)) then
     laws_FnExactCmdsOf_J1 k a0 o6 o10 true
    else
     bindO (evalF E P0 k N.laws_eqCmdS [.v [.r (o10.t 0).asR], .v [.r (o6.t 0).asR]]) fun o32 =>
     laws_FnExactCmdsOf_J1 k a0 o6 o10 (!(o32.t 0).asB)
theorem laws_FnExactCmdsOf_e (k : Nat) (a0 : List (List T)) : evalF E P0 (k + 1) N.laws_FnExactCmdsOf [.v [.r a0]] = laws_FnExactCmdsOf_u k a0 := by kernel_rfl
/- laws.toGeo -/
def laws_toGeo_u (k : Nat) (a0_0 : Int) (a0_1 : Int) : Option Outs :=
 some ⟨[.i a0_0, .i a0_1], []⟩
theorem laws_toGeo_e (k : Nat) (a0_0 : Int) (a0_1 : Int) : evalF E P0 (k + 1) N.laws_toGeo [.v [.i a0_0, .i a0_1]] = laws_toGeo_u k a0_0 a0_1 := by kernel_rfl
/- spec.l1In -/
def spec_l1In_u (k : Nat) (a0 : Int) (a1 : Int) (a2 : Int) : Option Outs :=
 bif (decide (a0 ≥ a1)) then some ⟨[.b (decide (a0 ≤ a2))], []⟩ else some ⟨[.b false], []⟩
theorem spec_l1In_e (k : Nat) (a0 : Int) (a1 : Int) (a2 : Int) : evalF E P0 (k + 1) N.spec_l1In [.v [.i a0], .v [.i a1], .v [.i a2]] = spec_l1In_u k a0 a1 a2 := by kernel_rfl
/- spec.GeoOk -/
def spec_GeoOk_u (k : Nat) (a0_0 : Int) (a0_1 : Int) : Option Outs :=
 bindO (evalF E P0 k N.spec_l1In [.v [.i a0_0], .v [.i 3], .v [.i 5]]) fun o3 =>
 bif (o3.t 0).asB then
  bindO (evalF E P0 k N.spec_l1In [.v [.i a0_1], .v [.i 1], .v [.i 8]]) fun o4 =>
  some ⟨[.b (o4.t 0).asB], []⟩
 else
  some ⟨[.b false], []⟩
theorem spec_GeoOk_e (k : Nat) (a0_0 : Int) (a0_1 : Int) : evalF E P0 (k + 1) N.spec_GeoOk [.v [.i a0_0, .i a0_1]] = spec_GeoOk_u k a0_0 a0_1 := by kernel_rfl
/- spec.l1Word -/
def spec_l1Word_u (k : Nat) (a0 : Int) : Option Outs :=
 bindO (evalF E P0 k N.spec_l1In [.v [.i a0], .v [.i 0], .v [.i 65535]]) fun o2 =>
 some ⟨[.b (o2.t 0).asB], []⟩
theorem spec_l1Word_e (k : Nat) (a0 : Int) : evalF E P0 (k + 1) N.spec_l1Word [.v [.i a0]] = spec_l1Word_u k a0 := by kernel_rfl
/- spec.l1Words -/
def spec_l1Words_L1 (k : Nat) (a0 : List (List T)) (G1 : (Int) → Option Outs) : (Int) → Option Outs := fun v8 =>
 bif (decide (v8 < (a0.length : Int))) then
  chk (decide (0 ≤ v8) && decide (v8 < (a0.length : Int))) <|
  bindO (evalF E P0 k N.spec_l1Word [.v [.i (at_ a0 v8.toNat 0).asI]]) fun o96 =>
  bif (!(o96.t 0).asB) then some ⟨[.b false], []⟩ else G1 (IntKind.wrap .i64 (v8 + 1))
 else
  some ⟨[.b true], []⟩
def spec_l1Words_k1 : List Nat := [0, 2, 3]
def spec_l1Words_S1 (a0 : List (List T)) : (Int) → St := fun v8 => ⟨ofSl [(0, .sl 3 a0), (2, .b false), (3, .i .i64 v8)], ofMem []⟩
def spec_l1Words_l1 (k : Nat) (a0 : List (List T)) (G1 : (Int) → Option Outs) : (Int) → Option Outs :=
  spec_l1Words_L1 k a0 G1
def spec_l1Words_U (k : Nat) (a0 : List (List T)) (R1 : (Int) → Option Outs) : Option Outs :=
 R1 0
def spec_l1Words_u (k : Nat) (a0 : List (List T)) : Option Outs :=
  spec_l1Words_U k a0 (fun v => fixN (spec_l1Words_l1 k a0) k v)
def spec_l1Words_it1 (k : Nat) (a0 : List (List T)) (js : List Nat) (j : Nat) (s : St) : Option Outs := iter E (LB E (evalF E P0 k) k [] N.spec_l1Words [.sr, .sl, .sr, .bl]) [] spec_l1Words_k1 (LK E (evalF E P0 k) k [] N.spec_l1Words [.v [.r a0]] [.sr, .sl, .sr, .bl] js) j s
theorem spec_l1Words_e (k : Nat) (a0 : List (List T)) : evalF E P0 (k + 1) N.spec_l1Words [.v [.r a0]] = spec_l1Words_u k a0 := by
  have e0 : evalF E P0 (k + 1) N.spec_l1Words [.v [.r a0]] = spec_l1Words_U k a0 (fun v => spec_l1Words_it1 k a0 [] k (spec_l1Words_S1 a0 v)) := by kernel_rfl
  have e1 : ∀ (j1 : Nat) (v : Int), spec_l1Words_it1 k a0 [] (j1 + 1) (spec_l1Words_S1 a0 v) = spec_l1Words_L1 k a0 (fun v => spec_l1Words_it1 k a0 [] j1 (spec_l1Words_S1 a0 v)) v := by
    intro j1 v; kernel_rfl
  have i1 : ∀ (j1 : Nat) (v : Int), spec_l1Words_it1 k a0 [] j1 (spec_l1Words_S1 a0 v) = fixN (spec_l1Words_l1 k a0) j1 v := by
    intro j1 v
    refine iter_fix (spec_l1Words_S1 a0) (spec_l1Words_l1 k a0) (fun j1 v => (e1 j1 v).trans ?_) j1 v
    unfold spec_l1Words_l1
    rfl
  rw [e0]; unfold spec_l1Words_u
  simp only [i1]
/- spec.l13Size -/
def spec_l13Size_J1 (k : Nat) (a0_0 : Int) (a0_4 : List (List T)) (c17 : Bool) : Option Outs :=
 bif c17 then
  bindO (evalF E P0 k N.spec_l1In [.v [.i (a0_4.length : Int)], .v [.i 1], .v [.i 6]]) fun o39 =>
  bif (o39.t 0).asB then
   bindO (evalF E P0 k N.spec_l1Words [.v [.r a0_4]]) fun o40 =>
   some ⟨[.b (o40.t 0).asB], []⟩
  else
   some ⟨[.b false], []⟩
 else
  bif (a0_0 == 5) then
   bif ((a0_4.length : Int) == 2) then
    bindO (evalF E P0 k N.spec_l1Words [.v [.r a0_4]]) fun o42 =>
    some ⟨[.b (o42.t 0).asB], []⟩
   else
    some ⟨[.b false], []⟩
  else
   some ⟨[.b true], []⟩
def spec_l13Size_u (k : Nat) (a0_0 : Int) (a0_1 : Int) (a0_2 : Int) (a0_3 : Int) (a0_4 : List (List T)) : Option Outs :=
 bif (a0_0 == 1) then
  bindO (evalF E P0 k N.spec_l1In [.v [.i a0_3], .v [.i 1], .v [.i 6]]) fun o34 =>
  some ⟨[.b (o34.t 0).asB], []⟩
 else
  bif (a0_0 == 6) then
   bindO (evalF E P0 k N.spec_l1In [.v [.i a0_3], .v [.i 1], .v [.i 6]]) fun o36 =>
   some ⟨[.b (o36.t 0).asB], []⟩
  else
   bif (a0_0 == 2) then spec_l13Size_J1 k a0_0 a0_4 true else spec_l13Size_J1 k a0_0 a0_4 (a0_0 == 3)
theorem spec_l13Size_e (k : Nat) (a0_0 : Int) (a0_1 : Int) (a0_2 : Int) (a0_3 : Int) (a0_4 : List (List T)) : evalF E P0 (k + 1) N.spec_l13Size [.v [.i a0_0, .i a0_1, .i a0_2, .i a0_3, .r a0_4]] = spec_l13Size_u k a0_0 a0_1 a0_2 a0_3 a0_4 := by kernel_rfl
/- spec.Blocks -/
def spec_Blocks_u (k : Nat) (a0_0 : Int) (a0_1 : Int) : Option Outs :=
 bindO (evalF E P0 k N.spec_GeoOk [.v [.i a0_0, .i a0_1]]) fun o2 =>
 bif (!(o2.t 0).asB) then
  some ⟨[.i 0], []⟩
 else
  some ⟨[.i (IntKind.wrap .i64 (a0_1 * (IntKind.wrap .i64 (a0_0 - 1))))], []⟩
theorem spec_Blocks_e (k : Nat) (a0_0 : Int) (a0_1 : Int) : evalF E P0 (k + 1) N.spec_Blocks [.v [.i a0_0, .i a0_1]] = spec_Blocks_u k a0_0 a0_1 := by kernel_rfl
/- spec.l13Len -/
def spec_l13Len_u (k : Nat) (a0_0 : Int) (a0_1 : Int) (a0_2 : Int) (a0_3 : Int) (a0_4 : List (List T)) : Option Outs :=
 bif (a0_0 == 1) then
  some ⟨[.i a0_3], []⟩
 else
  bif (a0_0 == 6) then
   some ⟨[.i a0_3], []⟩
  else
   bif (a0_0 == 2) then
    some ⟨[.i (a0_4.length : Int)], []⟩
   else
    bif (a0_0 == 3) then
     some ⟨[.i (a0_4.length : Int)], []⟩
    else
     bif (a0_0 == 5) then some ⟨[.i 1], []⟩ else some ⟨[.i 0], []⟩
theorem spec_l13Len_e (k : Nat) (a0_0 : Int) (a0_1 : Int) (a0_2 : Int) (a0_3 : Int) (a0_4 : List (List T)) : evalF E P0 (k + 1) N.spec_l13Len [.v [.i a0_0, .i a0_1, .i a0_2, .i a0_3, .r a0_4]] = spec_l13Len_u k a0_0 a0_1 a0_2 a0_3 a0_4 := by kernel_rfl
/- spec.CmdCode -/
def spec_CmdCode_J1 (k : Nat) (a0_0 : Int) (a0_1 : Int) (a1_0 : Int) (a1_1 : Int) (a1_2 : Int) (a1_3 : Int) (a1_4 : List (List T)) (c4 : Bool) : Option Outs :=
 bif c4 then
  some ⟨[.i 1], []⟩
 else
  bindO (evalF E P0 k N.spec_l13Size [.v [.i a1_0, .i a1_1, .i a1_2, .i a1_3, .r a1_4]]) fun o48 =>
  bif (!(o48.t 0).asB) then
   some ⟨[.i 3], []⟩
  else
   bif (a1_0 == 4) then
    some ⟨[.i 0], []⟩
   else
    bindO (evalF E P0 k N.spec_Blocks [.v [.i a0_0, .i a0_1]]) fun o52 =>
    bindO (evalF E P0 k N.spec_l13Len [.v [.i a1_0, .i a1_1, .i a1_2, .i a1_3, .r a1_4]]) fun o53 =>
    bindO (evalF E P0 k N.spec_l1In [.v [.i a1_2], .v [.i 0], .v [.i (IntKind.wrap .i64 ((o52.t 0).asI - (o53.t 0).asI))]]) fun o54 =>
    bif (!(o54.t 0).asB) then some ⟨[.i 2], []⟩ else some ⟨[.i 0], []⟩
def spec_CmdCode_u (k : Nat) (a0_0 : Int) (a0_1 : Int) (a1_0 : Int) (a1_1 : Int) (a1_2 : Int) (a1_3 : Int) (a1_4 : List (List T)) : Option Outs :=
 bindO (evalF E P0 k N.spec_GeoOk [.v [.i a0_0, .i a0_1]]) fun o46 =>
 bif (!(o46.t 0).asB) then
  spec_CmdCode_J1 k a0_0 a0_1 a1_0 a1_1 a1_2 a1_3 a1_4 true
 else
  bindO (evalF E P0 k N.spec_l1In [.v [.i a1_0], .v [.i 1], .v [.i 6]]) fun o55 =>
  bif (!(o55.t 0).asB) then
   spec_CmdCode_J1 k a0_0 a0_1 a1_0 a1_1 a1_2 a1_3 a1_4 true
  else
   bindO (evalF E P0 k N.spec_l1In [.v [.i a1_1], .v [.i 1], .v [.i 999]]) fun o56 =>
   spec_CmdCode_J1 k a0_0 a0_1 a1_0 a1_1 a1_2 a1_3 a1_4 (!(o56.t 0).asB)
theorem spec_CmdCode_e (k : Nat) (a0_0 : Int) (a0_1 : Int) (a1_0 : Int) (a1_1 : Int) (a1_2 : Int) (a1_3 : Int) (a1_4 : List (List T)) : evalF E P0 (k + 1) N.spec_CmdCode [.v [.i a0_0, .i a0_1], .v [.i a1_0, .i a1_1, .i a1_2, .i a1_3, .r a1_4]] = spec_CmdCode_u k a0_0 a0_1 a1_0 a1_1 a1_2 a1_3 a1_4 := by kernel_rfl
/- spec.l14Do -/
def spec_l14Do_L1 (k : Nat) (a1_0 : Int) (a1_1 : Int) (a1_2 : Int) (a1_3 : Int) (a1_4 : List (List T)) (G1 : (Int × List (List T)) → Option Outs) : (Int × List (List T)) → Option Outs := fun (v28, w28) =>
 bif (decide (v28 < (a1_4.length : Int))) then
  chk (decide (0 ≤ v28) && decide (v28 < (a1_4.length : Int))) <|
  chk (decide (0 ≤ (IntKind.wrap .i64 (a1_2 + v28))) && decide ((IntKind.wrap .i64 (a1_2 + v28)) < (w28.length : Int))) <|
  G1 ((IntKind.wrap .i64 (v28 + 1)), (put_ w28 (IntKind.wrap .i64 (a1_2 + v28)).toNat 0 [.i (at_ a1_4 v28.toNat 0).asI]))
 else
  some ⟨[.i a1_1, .i 0, .r []], [[.r w28]]⟩
def spec_l14Do_k1 : List Nat := [0, 3, 4, 5, 6, 84]
def spec_l14Do_S1 (a1_0 : Int) (a1_1 : Int) (a1_2 : Int) (a1_3 : Int) (a1_4 : List (List T)) : (Int × List (List T)) → St := fun (v28, w28) => ⟨ofSl [(0, .ref (0, 0)), (3, .ptr (3, 0) 0), (4, .ptr (4, 0) 0), (5, .ptr (5, 0) 0), (6, .i .i64 v28), (84, .skip)], ofMem [((0, 0), .row 3 true w28), ((3, 0), .var [.i .i64 a1_0, .i .i64 a1_1, .i .i64 a1_2, .i .i64 a1_3, .sl 3 a1_4]), ((4, 0), .var [.i .i64 0, .i .i64 0, .ref (4, 3)]), ((4, 3), .row 3 true []), ((5, 0), .var [.i .i64 a1_1, .i .i64 0, .ref (5, 3)]), ((5, 3), .row 3 true [])]⟩
def spec_l14Do_L2 (k : Nat) (a1_0 : Int) (a1_1 : Int) (a1_2 : Int) (a1_3 : Int) (a1_4 : List (List T)) (G2 : (Int × List (List T)) → Option Outs) : (Int × List (List T)) → Option Outs := fun (v32, w32) =>
 bif (decide (v32 < a1_3)) then
  chk (decide (0 ≤ (IntKind.wrap .i64 (a1_2 + v32))) && decide ((IntKind.wrap .i64 (a1_2 + v32)) < (w32.length : Int))) <|
  G2 ((IntKind.wrap .i64 (v32 + 1)), (put_ w32 (IntKind.wrap .i64 (a1_2 + v32)).toNat 0 [.i 0]))
 else
  some ⟨[.i a1_1, .i 0, .r []], [[.r w32]]⟩
def spec_l14Do_k2 : List Nat := [0, 3, 4, 5, 7, 84]
def spec_l14Do_S2 (a1_0 : Int) (a1_1 : Int) (a1_2 : Int) (a1_3 : Int) (a1_4 : List (List T)) : (Int × List (List T)) → St := fun (v32, w32) => ⟨ofSl [(0, .ref (0, 0)), (3, .ptr (3, 0) 0), (4, .ptr (4, 0) 0), (5, .ptr (5, 0) 0), (7, .i .i64 v32), (84, .skip)], ofMem [((0, 0), .row 3 true w32), ((3, 0), .var [.i .i64 a1_0, .i .i64 a1_1, .i .i64 a1_2, .i .i64 a1_3, .sl 3 a1_4]), ((4, 0), .var [.i .i64 0, .i .i64 0, .ref (4, 3)]), ((4, 3), .row 3 true []), ((5, 0), .var [.i .i64 a1_1, .i .i64 0, .ref (5, 3)]), ((5, 3), .row 3 true [])]⟩
def spec_l14Do_J1 (k : Nat) (a0 : List (List T)) (a1_0 : Int) (a1_1 : Int) (a1_2 : Int) (a1_4 : List (List T)) (R1 : (Int × List (List T)) → Option Outs) (R2 : (Int × List (List T)) → Option Outs) (c4 : Bool) : Option Outs :=
 bif c4 then
  R1 (0, a0)
 else
  bif (a1_0 == 6) then
   R2 (0, a0)
  else
   bif (a1_0 == 5) then
    chk (decide (0 ≤ a1_2) && decide (a1_2 < (a0.length : Int))) <|
    chk (decide ((0 : Int) < (a1_4.length : Int))) <|
    bif ((at_ a0 a1_2.toNat 0).asI != (at_ a1_4 0 0).asI) then
     some ⟨[.i a1_1, .i 4, .r []], [[.r a0]]⟩
    else
     chk (decide ((1 : Int) < (a1_4.length : Int))) <|
     chk (decide (0 ≤ a1_2) && decide (a1_2 < (a0.length : Int))) <|
     some ⟨[.i a1_1, .i 0, .r []], [[.r (put_ a0 a1_2.toNat 0 [.i (at_ a1_4 1 0).asI])]]⟩
   else
    some ⟨[.i a1_1, .i 0, .r []], [[.r a0]]⟩
def spec_l14Do_l1 (k : Nat) (a1_0 : Int) (a1_1 : Int) (a1_2 : Int) (a1_3 : Int) (a1_4 : List (List T)) (G1 : (Int × List (List T)) → Option Outs) : (Int × List (List T)) → Option Outs :=
  spec_l14Do_L1 k a1_0 a1_1 a1_2 a1_3 a1_4 G1
def spec_l14Do_l2 (k : Nat) (a1_0 : Int) (a1_1 : Int) (a1_2 : Int) (a1_3 : Int) (a1_4 : List (List T)) (G2 : (Int × List (List T)) → Option Outs) : (Int × List (List T)) → Option Outs :=
  spec_l14Do_L2 k a1_0 a1_1 a1_2 a1_3 a1_4 G2
def spec_l14Do_U (k : Nat) (a0 : List (List T)) (a1_0 : Int) (a1_1 : Int) (a1_2 : Int) (a1_3 : Int) (a1_4 : List (List T)) (R1 : (Int × List (List T)) → Option Outs) (R2 : (Int × List (List T)) → Option Outs) : Option Outs :=
 bif (a1_0 == 1) then
  chk (decide (0 ≤ a1_2) && decide (a1_2 ≤ (IntKind.wrap .i64 (a1_2 + a1_3))) && decide ((IntKind.wrap .i64 (a1_2 + a1_3)) ≤ (a0.length : Int))) <|
  chk (decide ((([] : List (List T)).length + ((a0.drop a1_2.toNat).take ((IntKind.wrap .i64 (a1_2 + a1_3)).toNat - a1_2.toNat)).length) * 8 ≤ 140737488355328)) <|
  some ⟨[.i a1_1, .i 0, .r (([] : List (List T)) ++ ((a0.drop a1_2.toNat).take ((IntKind.wrap .i64 (a1_2 + a1_3)).toNat - a1_2.toNat)))], [[.r a0]]⟩
 else
  bif (a1_0 == 2) then
   spec_l14Do_J1 k a0 a1_0 a1_1 a1_2 a1_4 R1 R2 true
  else
   spec_l14Do_J1 k a0 a1_0 a1_1 a1_2 a1_4 R1 R2 (a1_0 == 3)
def spec_l14Do_u (k : Nat) (a0 : List (List T)) (a1_0 : Int) (a1_1 : Int) (a1_2 : Int) (a1_3 : Int) (a1_4 : List (List T)) : Option Outs :=
  spec_l14Do_U k a0 a1_0 a1_1 a1_2 a1_3 a1_4 (fun v => fixN (spec_l14Do_l1 k a1_0 a1_1 a1_2 a1_3 a1_4) k v) (fun v => fixN (spec_l14Do_l2 k a1_0 a1_1 a1_2 a1_3 a1_4) k v)
def spec_l14Do_it1 (k : Nat) (a0 : List (List T)) (a1_0 : Int) (a1_1 : Int) (a1_2 : Int) (a1_3 : Int) (a1_4 : List (List T)) (js : List Nat) (j : Nat) (s : St) : Option Outs := iter E (LB E (evalF E P0 k) k [0] N.spec_l14Do [.sr, .sr, .sl, .sr, .bl, .sr, .ce, .sr, .ct, .sr, .bl]) [0] spec_l14Do_k1 (LK E (evalF E P0 k) k [0] N.spec_l14Do [.r a0, .v [.i a1_0, .i a1_1, .i a1_2, .i a1_3, .r a1_4]] [.sr, .sr, .sl, .sr, .bl, .sr, .ce, .sr, .ct, .sr, .bl] js) j s
def spec_l14Do_it2 (k : Nat) (a0 : List (List T)) (a1_0 : Int) (a1_1 : Int) (a1_2 : Int) (a1_3 : Int) (a1_4 : List (List T)) (js : List Nat) (j : Nat) (s : St) : Option Outs := iter E (LB E (evalF E P0 k) k [0] N.spec_l14Do [.sr, .sr, .sl, .sr, .bl, .sr, .ce, .sr, .ce, .sr, .ct, .sr, .bl]) [0] spec_l14Do_k2 (LK E (evalF E P0 k) k [0] N.spec_l14Do [.r a0, .v [.i a1_0, .i a1_1, .i a1_2, .i a1_3, .r a1_4]] [.sr, .sr, .sl, .sr, .bl, .sr, .ce, .sr, .ce, .sr, .ct, .sr, .bl] js) j s
theorem spec_l14Do_e (k : Nat) (a0 : List (List T)) (a1_0 : Int) (a1_1 : Int) (a1_2 : Int) (a1_3 : Int) (a1_4 : List (List T)) : evalF E P0 (k + 1) N.spec_l14Do [.r a0, .v [.i a1_0, .i a1_1, .i a1_2, .i a1_3, .r a1_4]] = spec_l14Do_u k a0 a1_0 a1_1 a1_2 a1_3 a1_4 := by
  have e0 : evalF E P0 (k + 1) N.spec_l14Do [.r a0, .v [.i a1_0, .i a1_1, .i a1_2, .i a1_3, .r a1_4]] = spec_l14Do_U k a0 a1_0 a1_1 a1_2 a1_3 a1_4 (fun v => spec_l14Do_it1 k a0 a1_0 a1_1 a1_2 a1_3 a1_4 [] k (spec_l14Do_S1 a1_0 a1_1 a1_2 a1_3 a1_4 v)) (fun v => spec_l14Do_it2 k a0 a1_0 a1_1 a1_2 a1_3 a1_4 [] k (spec_l14Do_S2 a1_0 a1_1 a1_2 a1_3 a1_4 v)) := by kernel_rfl
  have e1 : ∀ (j1 : Nat) (v : Int × List (List T)), spec_l14Do_it1 k a0 a1_0 a1_1 a1_2 a1_3 a1_4 [] (j1 + 1) (spec_l14Do_S1 a1_0 a1_1 a1_2 a1_3 a1_4 v) = spec_l14Do_L1 k a1_0 a1_1 a1_2 a1_3 a1_4 (fun v => spec_l14Do_it1 k a0 a1_0 a1_1 a1_2 a1_3 a1_4 [] j1 (spec_l14Do_S1 a1_0 a1_1 a1_2 a1_3 a1_4 v)) v := by
    intro j1 v; kernel_rfl
  have i1 : ∀ (j1 : Nat) (v : Int × List (List T)), spec_l14Do_it1 k a0 a1_0 a1_1 a1_2 a1_3 a1_4 [] j1 (spec_l14Do_S1 a1_0 a1_1 a1_2 a1_3 a1_4 v) = fixN (spec_l14Do_l1 k a1_0 a1_1 a1_2 a1_3 a1_4) j1 v := by
    intro j1 v
    refine iter_fix (spec_l14Do_S1 a1_0 a1_1 a1_2 a1_3 a1_4) (spec_l14Do_l1 k a1_0 a1_1 a1_2 a1_3 a1_4) (fun j1 v => (e1 j1 v).trans ?_) j1 v
    unfold spec_l14Do_l1
    rfl
  have e2 : ∀ (j2 : Nat) (v : Int × List (List T)), spec_l14Do_it2 k a0 a1_0 a1_1 a1_2 a1_3 a1_4 [] (j2 + 1) (spec_l14Do_S2 a1_0 a1_1 a1_2 a1_3 a1_4 v) = spec_l14Do_L2 k a1_0 a1_1 a1_2 a1_3 a1_4 (fun v => spec_l14Do_it2 k a0 a1_0 a1_1 a1_2 a1_3 a1_4 [] j2 (spec_l14Do_S2 a1_0 a1_1 a1_2 a1_3 a1_4 v)) v := by
    intro j2 v; kernel_rfl
  have i2 : ∀ (j2 : Nat) (v : Int × List (List T)), spec_l14Do_it2 k a0 a1_0 a1_1 a1_2 a1_3 a1_4 [] j2 (spec_l14Do_S2 a1_0 a1_1 a1_2 a1_3 a1_4 v) = fixN (spec_l14Do_l2 k a1_0 a1_1 a1_2 a1_3 a1_4) j2 v := by
    intro j2 v
    refine iter_fix (spec_l14Do_S2 a1_0 a1_1 a1_2 a1_3 a1_4) (spec_l14Do_l2 k a1_0 a1_1 a1_2 a1_3 a1_4) (fun j2 v => (e2 j2 v).trans ?_) j2 v
    unfold spec_l14Do_l2
    rfl
  rw [e0]; unfold spec_l14Do_u
  simp only [i1, i2]
/- spec.DoCmd -/
def spec_DoCmd_J1 (k : Nat) (a1 : List (List T)) (a2_0 : Int) (a2_1 : Int) (a2_2 : Int) (a2_3 : Int) (a2_4 : List (List T)) (x1 : Int) : Option Outs :=
 bif (x1 != 0) then
  some ⟨[.r (([] : List (List T)) ++ a1), .i a2_1, .i x1, .r []], []⟩
 else
  bindO (evalF E P0 k N.spec_l14Do [.r (([] : List (List T)) ++ a1), .v [.i a2_0, .i a2_1, .i a2_2, .i a2_3, .r a2_4]]) fun o6 =>
  some ⟨[.r (o6.vt 0 0).asR, .i (o6.t 0).asI, .i (o6.t 1).asI, .r (o6.t 2).asR], []⟩
def spec_DoCmd_u (k : Nat) (a0_0 : Int) (a0_1 : Int) (a1 : List (List T)) (a2_0 : Int) (a2_1 : Int) (a2_2 : Int) (a2_3 : Int) (a2_4 : List (List T)) : Option Outs :=
 chk (decide ((([] : List (List T)).length + a1.length) * 8 ≤ 140737488355328)) <|
 bindO (evalF E P0 k N.spec_CmdCode [.v [.i a0_0, .i a0_1], .v [.i a2_0, .i a2_1, .i a2_2, .i a2_3, .r a2_4]]) fun o2 =>
 bindO (evalF E P0 k N.spec_Blocks [.v [.i a0_0, .i a0_1]]) fun o4 =>
 bif ((a1.length : Int) != (o4.t 0).asI) then
  spec_DoCmd_J1 k a1 a2_0 a2_1 a2_2 a2_3 a2_4 1
 else
  spec_DoCmd_J1 k a1 a2_0 a2_1 a2_2 a2_3 a2_4 ((o2.t 0).asI)
theorem spec_DoCmd_e (k : Nat) (a0_0 : Int) (a0_1 : Int) (a1 : List (List T)) (a2_0 : Int) (a2_1 : Int) (a2_2 : Int) (a2_3 : Int) (a2_4 : List (List T)) : evalF E P0 (k + 1) N.spec_DoCmd [.v [.i a0_0, .i a0_1], .v [.r a1], .v [.i a2_0, .i a2_1, .i a2_2, .i a2_3, .r a2_4]] = spec_DoCmd_u k a0_0 a0_1 a1 a2_0 a2_1 a2_2 a2_3 a2_4 := by kernel_rfl
/- spec.DoCmds -/
def spec_DoCmds_J1 (k : Nat) (a0_0 : Int) (a0_1 : Int) (a2 : List (List T)) (v8 : Int) (w15 : List (List T)) (w16 : List (List T)) (G1 : (Int × List (List T) × List (List T)) → Option Outs) (c12 : Bool) : Option Outs :=
 bif c12 then
  chk (decide (0 ≤ v8) && decide (v8 < (a2.length : Int))) <|
  bindO (evalF E P0 k N.spec_DoCmd [.v [.i a0_0, .i a0_1], .v [.r w15], .v [.i (at_ a2 v8.toNat 0).asI, .i (at_ a2 v8.toNat 1).asI, .i (at_ a2 v8.toNat 2).asI, .i (at_ a2 v8.toNat 3).asI, .r (at_ a2 v8.toNat 4).asR]]) fun o96 =>
  chk (decide ((w16.length + ([[.i (o96.t 1).asI, .i (o96.t 2).asI, .r (o96.t 3).asR]] : List (List T)).length) * 40 ≤ 140737488355328)) <|
  G1 ((IntKind.wrap .i64 (v8 + 1)), (o96.t 0).asR, (w16 ++ [[.i (o96.t 1).asI, .i (o96.t 2).asI, .r (o96.t 3).asR]]))
 else
  some ⟨[.r w15, .r w16], []⟩
def spec_DoCmds_L1 (k : Nat) (a0_0 : Int) (a0_1 : Int) (a2 : List (List T)) (G1 : (Int × List (List T) × List (List T)) → Option Outs) : (Int × List (List T) × List (List T)) → Option Outs := fun (v8, w15, w16) =>
 bif (decide (v8 < (a2.length : Int))) then
  spec_DoCmds_J1 k a0_0 a0_1 a2 v8 w15 w16 G1 (decide (v8 < 400))
 else
  spec_DoCmds_J1 k a0_0 a0_1 a2 v8 w15 w16 G1 false
def spec_DoCmds_k1 : List Nat := [2, 3, 6, 7, 8, 9, 10, 42, 43]
def spec_DoCmds_S1 (a0_0 : Int) (a0_1 : Int) (a2 : List (List T)) : (Int × List (List T) × List (List T)) → St := fun (v8, w15, w16) => ⟨ofSl [(2, .sl 54 a2), (3, .ptr (3, 0) 0), (6, .ref (6, 0)), (7, .ref (7, 0)), (8, .ref (8, 0)), (9, .ref (9, 0)), (10, .i .i64 v8), (42, .skip), (43, .skip)], ofMem [((3, 0), .var [.i .i64 a0_0, .i .i64 a0_1]), ((6, 0), .row 3 true []), ((7, 0), .row 61 true []), ((8, 0), .row 3 true w15), ((9, 0), .row 61 true w16)]⟩
def spec_DoCmds_l1 (k : Nat) (a0_0 : Int) (a0_1 : Int) (a2 : List (List T)) (G1 : (Int × List (List T) × List (List T)) → Option Outs) : (Int × List (List T) × List (List T)) → Option Outs :=
  spec_DoCmds_L1 k a0_0 a0_1 a2 G1
def spec_DoCmds_U (k : Nat) (a0_0 : Int) (a0_1 : Int) (a1 : List (List T)) (a2 : List (List T)) (R1 : (Int × List (List T) × List (List T)) → Option Outs) : Option Outs :=
 chk (decide ((([] : List (List T)).length + a1.length) * 8 ≤ 140737488355328)) <|
 R1 (0, (([] : List (List T)) ++ a1), [])
def spec_DoCmds_u (k : Nat) (a0_0 : Int) (a0_1 : Int) (a1 : List (List T)) (a2 : List (List T)) : Option Outs :=
  spec_DoCmds_U k a0_0 a0_1 a1 a2 (fun v => fixN (spec_DoCmds_l1 k a0_0 a0_1 a2) k v)
def spec_DoCmds_it1 (k : Nat) (a0_0 : Int) (a0_1 : Int) (a1 : List (List T)) (a2 : List (List T)) (js : List Nat) (j : Nat) (s : St) : Option Outs := iter E (LB E (evalF E P0 k) k [] N.spec_DoCmds [.sr, .sr, .sr, .sl, .sr, .bl]) [] spec_DoCmds_k1 (LK E (evalF E P0 k) k [] N.spec_DoCmds [.v [.i a0_0, .i a0_1], .v [.r a1], .v [.r a2]] [.sr, .sr, .sr, .sl, .sr, .bl] js) j s
theorem spec_DoCmds_e (k : Nat) (a0_0 : Int) (a0_1 : Int) (a1 : List (List T)) (a2 : List (List T)) : evalF E P0 (k + 1) N.spec_DoCmds [.v [.i a0_0, .i a0_1], .v [.r a1], .v [.r a2]] = spec_DoCmds_u k a0_0 a0_1 a1 a2 := by
  have e0 : evalF E P0 (k + 1) N.spec_DoCmds [.v [.i a0_0, .i a0_1], .v [.r a1], .v [.r a2]] = spec_DoCmds_U k a0_0 a0_1 a1 a2 (fun v => spec_DoCmds_it1 k a0_0 a0_1 a1 a2 [] k (spec_DoCmds_S1 a0_0 a0_1 a2 v)) := by kernel_rfl
  have e1 : ∀ (j1 : Nat) (v : Int × List (List T) × List (List T)), spec_DoCmds_it1 k a0_0 a0_1 a1 a2 [] (j1 + 1) (spec_DoCmds_S1 a0_0 a0_1 a2 v) = spec_DoCmds_L1 k a0_0 a0_1 a2 (fun v => spec_DoCmds_it1 k a0_0 a0_1 a1 a2 [] j1 (spec_DoCmds_S1 a0_0 a0_1 a2 v)) v := by
    intro j1 v; kernel_rfl
  have i1 : ∀ (j1 : Nat) (v : Int × List (List T) × List (List T)), spec_DoCmds_it1 k a0_0 a0_1 a1 a2 [] j1 (spec_DoCmds_S1 a0_0 a0_1 a2 v) = fixN (spec_DoCmds_l1 k a0_0 a0_1 a2) j1 v := by
    intro j1 v
    refine iter_fix (spec_DoCmds_S1 a0_0 a0_1 a2) (spec_DoCmds_l1 k a0_0 a0_1 a2) (fun j1 v => (e1 j1 v).trans ?_) j1 v
    unfold spec_DoCmds_l1
    rfl
  rw [e0]; unfold spec_DoCmds_u
  simp only [i1]
/- spec.After -/
def spec_After_u (k : Nat) (a0_0 : Int) (a0_1 : Int) (a1 : List (List T)) (a2 : List (List T)) : Option Outs :=
 bindO (evalF E P0 k N.spec_CmdsOf [.v [.r a2]]) fun o3 =>
 bindO (evalF E P0 k N.spec_DoCmds [.v [.i a0_0, .i a0_1], .v [.r a1], .v [.r (o3.t 0).asR]]) fun o4 =>
 some ⟨[.r (o4.t 0).asR], []⟩
theorem spec_After_e (k : Nat) (a0_0 : Int) (a0_1 : Int) (a1 : List (List T)) (a2 : List (List T)) : evalF E P0 (k + 1) N.spec_After [.v [.i a0_0, .i a0_1], .v [.r a1], .v [.r a2]] = spec_After_u k a0_0 a0_1 a1 a2 := by kernel_rfl
/- impl.within -/
def impl_within_u (k : Nat) (a0 : Int) (a1 : Int) (a2 : Int) : Option Outs :=
 bif (decide (a0 ≥ a1)) then some ⟨[.b (decide (a0 ≤ a2))], []⟩ else some ⟨[.b false], []⟩
theorem impl_within_e (k : Nat) (a0 : Int) (a1 : Int) (a2 : Int) : evalF E P0 (k + 1) N.impl_within [.v [.i a0], .v [.i a1], .v [.i a2]] = impl_within_u k a0 a1 a2 := by kernel_rfl
/- impl.GeoOk -/
def impl_GeoOk_u (k : Nat) (a0_0 : Int) (a0_1 : Int) : Option Outs :=
 bindO (evalF E P0 k N.impl_within [.v [.i a0_0], .v [.i 3], .v [.i 5]]) fun o3 =>
 bif (o3.t 0).asB then
  bindO (evalF E P0 k N.impl_within [.v [.i a0_1], .v [.i 1], .v [.i 8]]) fun o4 =>
  some ⟨[.b (o4.t 0).asB], []⟩
 else
  some ⟨[.b false], []⟩
theorem impl_GeoOk_e (k : Nat) (a0_0 : Int) (a0_1 : Int) : evalF E P0 (k + 1) N.impl_GeoOk [.v [.i a0_0, .i a0_1]] = impl_GeoOk_u k a0_0 a0_1 := by kernel_rfl
/- impl.isWord -/
def impl_isWord_u (k : Nat) (a0 : Int) : Option Outs :=
 bindO (evalF E P0 k N.impl_within [.v [.i a0], .v [.i 0], .v [.i 65535]]) fun o2 =>
 some ⟨[.b (o2.t 0).asB], []⟩
theorem impl_isWord_e (k : Nat) (a0 : Int) : evalF E P0 (k + 1) N.impl_isWord [.v [.i a0]] = impl_isWord_u k a0 := by kernel_rfl
/- impl.wordsOk -/
def impl_wordsOk_L1 (k : Nat) (a0 : List (List T)) (G1 : (Int) → Option Outs) : (Int) → Option Outs := fun v8 =>
 bif (decide (v8 < (a0.length : Int))) then
  chk (decide (0 ≤ v8) && decide (v8 < (a0.length : Int))) <|
  bindO (evalF E P0 k N.impl_isWord [.v [.i (at_ a0 v8.toNat 0).asI]]) fun o96 =>
  bif (!(o96.t 0).asB) then some ⟨[.b false], []⟩ else G1 (IntKind.wrap .i64 (v8 + 1))
 else
  some ⟨[.b true], []⟩
def impl_wordsOk_k1 : List Nat := [2, 5, 6, 7]
def impl_wordsOk_S1 (a0 : List (List T)) : (Int) → St := fun v8 => ⟨ofSl [(2, .b false), (5, .sl 3 a0), (6, .i .i64 (a0.length : Int)), (7, .i .i64 v8)], ofMem []⟩
def impl_wordsOk_l1 (k : Nat) (a0 : List (List T)) (G1 : (Int) → Option Outs) : (Int) → Option Outs :=
  impl_wordsOk_L1 k a0 G1
def impl_wordsOk_U (k : Nat) (a0 : List (List T)) (R1 : (Int) → Option Outs) : Option Outs :=
 R1 0
def impl_wordsOk_u (k : Nat) (a0 : List (List T)) : Option Outs :=
  impl_wordsOk_U k a0 (fun v => fixN (impl_wordsOk_l1 k a0) k v)
def impl_wordsOk_it1 (k : Nat) (a0 : List (List T)) (js : List Nat) (j : Nat) (s : St) : Option Outs := iter E (LB E (evalF E P0 k) k [] N.impl_wordsOk [.sr, .sl, .sr, .bl]) [] impl_wordsOk_k1 (LK E (evalF E P0 k) k [] N.impl_wordsOk [.v [.r a0]] [.sr, .sl, .sr, .bl] js) j s
theorem impl_wordsOk_e (k : Nat) (a0 : List (List T)) : evalF E P0 (k + 1) N.impl_wordsOk [.v [.r a0]] = impl_wordsOk_u k a0 := by
  have e0 : evalF E P0 (k + 1) N.impl_wordsOk [.v [.r a0]] = impl_wordsOk_U k a0 (fun v => impl_wordsOk_it1 k a0 [] k (impl_wordsOk_S1 a0 v)) := by kernel_rfl
  have e1 : ∀ (j1 : Nat) (v : Int), impl_wordsOk_it1 k a0 [] (j1 + 1) (impl_wordsOk_S1 a0 v) = impl_wordsOk_L1 k a0 (fun v => impl_wordsOk_it1 k a0 [] j1 (impl_wordsOk_S1 a0 v)) v := by
    intro j1 v; kernel_rfl
  have i1 : ∀ (j1 : Nat) (v : Int), impl_wordsOk_it1 k a0 [] j1 (impl_wordsOk_S1 a0 v) = fixN (impl_wordsOk_l1 k a0) j1 v := by
    intro j1 v
    refine iter_fix (impl_wordsOk_S1 a0) (impl_wordsOk_l1 k a0) (fun j1 v => (e1 j1 v).trans ?_) j1 v
    unfold impl_wordsOk_l1
    rfl
  rw [e0]; unfold impl_wordsOk_u
  simp only [i1]
/- impl.sizeOk -/
def impl_sizeOk_J1 (k : Nat) (a0_0 : Int) (a0_4 : List (List T)) (c17 : Bool) : Option Outs :=
 bif c17 then
  bindO (evalF E P0 k N.impl_within [.v [.i (a0_4.length : Int)], .v [.i 1], .v [.i 6]]) fun o39 =>
  bif (o39.t 0).asB then
   bindO (evalF E P0 k N.impl_wordsOk [.v [.r a0_4]]) fun o40 =>
   some ⟨[.b (o40.t 0).asB], []⟩
  else
   some ⟨[.b false], []⟩
 else
  bif (a0_0 == 5) then
   bif ((a0_4.length : Int) == 2) then
    bindO (evalF E P0 k N.impl_wordsOk [.v [.r a0_4]]) fun o42 =>
    some ⟨[.b (o42.t 0).asB], []⟩
   else
    some ⟨[.b false], []⟩
  else
   some ⟨[.b true], []⟩
def impl_sizeOk_u (k : Nat) (a0_0 : Int) (a0_1 : Int) (a0_2 : Int) (a0_3 : Int) (a0_4 : List (List T)) : Option Outs :=
 bif (a0_0 == 1) then
  bindO (evalF E P0 k N.impl_within [.v [.i a0_3], .v [.i 1], .v [.i 6]]) fun o34 =>
  some ⟨[.b (o34.t 0).asB], []⟩
 else
  bif (a0_0 == 6) then
   bindO (evalF E P0 k N.impl_within [.v [.i a0_3], .v [.i 1], .v [.i 6]]) fun o36 =>
   some ⟨[.b (o36.t 0).asB], []⟩
  else
   bif (a0_0 == 2) then impl_sizeOk_J1 k a0_0 a0_4 true else impl_sizeOk_J1 k a0_0 a0_4 (a0_0 == 3)
theorem impl_sizeOk_e (k : Nat) (a0_0 : Int) (a0_1 : Int) (a0_2 : Int) (a0_3 : Int) (a0_4 : List (List T)) : evalF E P0 (k + 1) N.impl_sizeOk [.v [.i a0_0, .i a0_1, .i a0_2, .i a0_3, .r a0_4]] = impl_sizeOk_u k a0_0 a0_1 a0_2 a0_3 a0_4 := by kernel_rfl
/- impl.Blocks -/
def impl_Blocks_u (k : Nat) (a0_0 : Int) (a0_1 : Int) : Option Outs :=
 bindO (evalF E P0 k N.impl_GeoOk [.v [.i a0_0, .i a0_1]]) fun o2 =>
 bif (!(o2.t 0).asB) then
  some ⟨[.i 0], []⟩
 else
  some ⟨[.i (IntKind.wrap .i64 (a0_1 * (IntKind.wrap .i64 (a0_0 - 1))))], []⟩
theorem impl_Blocks_e (k : Nat) (a0_0 : Int) (a0_1 : Int) : evalF E P0 (k + 1) N.impl_Blocks [.v [.i a0_0, .i a0_1]] = impl_Blocks_u k a0_0 a0_1 := by kernel_rfl
/- impl.runOf -/
def impl_runOf_u (k : Nat) (a0_0 : Int) (a0_1 : Int) (a0_2 : Int) (a0_3 : Int) (a0_4 : List (List T)) : Option Outs :=
 bif (a0_0 == 1) then
  some ⟨[.i a0_3], []⟩
 else
  bif (a0_0 == 6) then
   some ⟨[.i a0_3], []⟩
  else
   bif (a0_0 == 2) then
    some ⟨[.i (a0_4.length : Int)], []⟩
   else
    bif (a0_0 == 3) then
     some ⟨[.i (a0_4.length : Int)], []⟩
    else
     bif (a0_0 == 5) then some ⟨[.i 1], []⟩ else some ⟨[.i 0], []⟩
theorem impl_runOf_e (k : Nat) (a0_0 : Int) (a0_1 : Int) (a0_2 : Int) (a0_3 : Int) (a0_4 : List (List T)) : evalF E P0 (k + 1) N.impl_runOf [.v [.i a0_0, .i a0_1, .i a0_2, .i a0_3, .r a0_4]] = impl_runOf_u k a0_0 a0_1 a0_2 a0_3 a0_4 := by kernel_rfl
/- impl.CmdCode -/
def impl_CmdCode_J1 (k : Nat) (a0_0 : Int) (a0_1 : Int) (a1_0 : Int) (a1_1 : Int) (a1_2 : Int) (a1_3 : Int) (a1_4 : List (List T)) (c7 : Bool) : Option Outs :=
 bif c7 then
  some ⟨[.i 1], []⟩
 else
  bindO (evalF E P0 k N.impl_sizeOk [.v [.i a1_0, .i a1_1, .i a1_2, .i a1_3, .r a1_4]]) fun o48 =>
  bif (!(o48.t 0).asB) then
   some ⟨[.i 3], []⟩
  else
   bif (a1_0 != 4) then
    bindO (evalF E P0 k N.impl_Blocks [.v [.i a0_0, .i a0_1]]) fun o52 =>
    bindO (evalF E P0 k N.impl_runOf [.v [.i a1_0, .i a1_1, .i a1_2, .i a1_3, .r a1_4]]) fun o53 =>
    bindO (evalF E P0 k N.impl_within [.v [.i a1_2], .v [.i 0], .v [.i (IntKind.wrap .i64 ((o52.t 0).asI - (o53.t 0).asI))]]) fun o54 =>
    bif (!(o54.t 0).asB) then some ⟨[.i 2], []⟩ else some ⟨[.i 0], []⟩
   else
    some ⟨[.i 0], []⟩
def impl_CmdCode_u (k : Nat) (a0_0 : Int) (a0_1 : Int) (a1_0 : Int) (a1_1 : Int) (a1_2 : Int) (a1_3 : Int) (a1_4 : List (List T)) : Option Outs :=
 bindO (evalF E P0 k N.impl_GeoOk [.v [.i a0_0, .i a0_1]]) fun o46 =>
 bif (!(o46.t 0).asB) then
  impl_CmdCode_J1 k a0_0 a0_1 a1_0 a1_1 a1_2 a1_3 a1_4 true
 else
  bindO (evalF E P0 k N.impl_within [.v [.i a1_0], .v [.i 1], .v [.i 6]]) fun o55 =>
  bif (!(o55.t 0).asB) then
   impl_CmdCode_J1 k a0_0 a0_1 a1_0 a1_1 a1_2 a1_3 a1_4 true
  else
   bindO (evalF E P0 k N.impl_within [.v [.i a1_1], .v [.i 1], .v [.i 999]]) fun o56 =>
   impl_CmdCode_J1 k a0_0 a0_1 a1_0 a1_1 a1_2 a1_3 a1_4 (!(o56.t 0).asB)
theorem impl_CmdCode_e (k : Nat) (a0_0 : Int) (a0_1 : Int) (a1_0 : Int) (a1_1 : Int) (a1_2 : Int) (a1_3 : Int) (a1_4 : List (List T)) : evalF E P0 (k + 1) N.impl_CmdCode [.v [.i a0_0, .i a0_1], .v [.i a1_0, .i a1_1, .i a1_2, .i a1_3, .r a1_4]] = impl_CmdCode_u k a0_0 a0_1 a1_0 a1_1 a1_2 a1_3 a1_4 := by kernel_rfl
/- impl.SpanOf -/
def impl_SpanOf_u (k : Nat) (a0_0 : Int) (a0_1 : Int) (a1_0 : Int) (a1_1 : Int) (a1_2 : Int) (a1_3 : Int) (a1_4 : List (List T)) : Option Outs :=
 bindO (evalF E P0 k N.impl_CmdCode [.v [.i a0_0, .i a0_1], .v [.i a1_0, .i a1_1, .i a1_2, .i a1_3, .r a1_4]]) fun o14 =>
 bif ((o14.t 0).asI != 0) then
  some ⟨[.i 0, .i 0], []⟩
 else
  bif (a1_0 == 4) then
   bindO (evalF E P0 k N.impl_Blocks [.v [.i a0_0, .i a0_1]]) fun o16 =>
   some ⟨[.i 0, .i (o16.t 0).asI], []⟩
  else
   bindO (evalF E P0 k N.impl_runOf [.v [.i a1_0, .i a1_1, .i a1_2, .i a1_3, .r a1_4]]) fun o18 =>
   some ⟨[.i a1_2, .i (IntKind.wrap .i64 (a1_2 + (o18.t 0).asI))], []⟩
theorem impl_SpanOf_e (k : Nat) (a0_0 : Int) (a0_1 : Int) (a1_0 : Int) (a1_1 : Int) (a1_2 : Int) (a1_3 : Int) (a1_4 : List (List T)) : evalF E P0 (k + 1) N.impl_SpanOf [.v [.i a0_0, .i a0_1], .v [.i a1_0, .i a1_1, .i a1_2, .i a1_3, .r a1_4]] = impl_SpanOf_u k a0_0 a0_1 a1_0 a1_1 a1_2 a1_3 a1_4 := by kernel_rfl
/- impl.DoCmd -/
def impl_DoCmd_J2 (k : Nat) (a1 : List (List T)) (a2_0 : Int) (a2_1 : Int) (a2_4 : List (List T)) (o2 : Outs) (o8 : Outs) (x1 : Int) (c4 : Bool) : Option Outs :=
 bif c4 then
  chk (decide (0 ≤ (o8.t 0).asI) && decide ((o8.t 0).asI ≤ (o8.t 1).asI) && decide ((o8.t 1).asI ≤ ((o2.t 0).asR.length : Int))) <|
  some ⟨[.r (overlay (o2.t 0).asR (o8.t 0).asI.toNat (a2_4.take ((o8.t 1).asI.toNat - (o8.t 0).asI.toNat))), .i a2_1, .i x1, .r []], []⟩
 else
  bif (a2_0 == 6) then
   chk (decide (0 ≤ (o8.t 0).asI) && decide ((o8.t 0).asI ≤ (o8.t 1).asI) && decide ((o8.t 1).asI ≤ ((o2.t 0).asR.length : Int))) <|
   some ⟨[.r (overlay (o2.t 0).asR (o8.t 0).asI.toNat (List.replicate ((o8.t 1).asI.toNat - (o8.t 0).asI.toNat) [.i 0])), .i a2_1, .i x1, .r []], []⟩
  else
   bif (a2_0 == 5) then
    chk (decide (0 ≤ (o8.t 0).asI) && decide ((o8.t 0).asI < (a1.length : Int))) <|
    chk (decide ((0 : Int) < (a2_4.length : Int))) <|
    bif ((at_ a1 (o8.t 0).asI.toNat 0).asI == (at_ a2_4 0 0).asI) then
     chk (decide ((1 : Int) < (a2_4.length : Int))) <|
     chk (decide (0 ≤ (o8.t 0).asI) && decide ((o8.t 0).asI < ((o2.t 0).asR.length : Int))) <|
     some ⟨[.r (put_ (o2.t 0).asR (o8.t 0).asI.toNat 0 [.i (at_ a2_4 1 0).asI]), .i a2_1, .i x1, .r []], []⟩
    else
     some ⟨[.r (o2.t 0).asR, .i a2_1, .i 4, .r []], []⟩
   else
    some ⟨[.r (o2.t 0).asR, .i a2_1, .i x1, .r []], []⟩
def impl_DoCmd_J1 (k : Nat) (a0_0 : Int) (a0_1 : Int) (a1 : List (List T)) (a2_0 : Int) (a2_1 : Int) (a2_2 : Int) (a2_3 : Int) (a2_4 : List (List T)) (o2 : Outs) (x1 : Int) : Option Outs :=
 bif (x1 != 0) then
  some ⟨[.r (o2.t 0).asR, .i a2_1, .i x1, .r []], []⟩
 else
  bindO (evalF E P0 k N.impl_SpanOf [.v [.i a0_0, .i a0_1], .v [.i a2_0, .i a2_1, .i a2_2, .i a2_3, .r a2_4]]) fun o8 =>
  bif (a2_0 == 1) then
   chk (decide (0 ≤ (o8.t 0).asI) && decide ((o8.t 0).asI ≤ (o8.t 1).asI) && decide ((o8.t 1).asI ≤ (a1.length : Int))) <|
   bindO (evalF E P0 k N.impl_copyInts [.v [.r ((a1.drop (o8.t 0).asI.toNat).take ((o8.t 1).asI.toNat - (o8.t 0).asI.toNat))]]) fun o12 =>
   some ⟨[.r (o2.t 0).asR, .i a2_1, .i x1, .r (o12.t 0).asR], []⟩
  else
   bif (a2_0 == 2) then
    impl_DoCmd_J2 k a1 a2_0 a2_1 a2_4 o2 o8 x1 true
   else
    impl_DoCmd_J2 k a1 a2_0 a2_1 a2_4 o2 o8 x1 (a2_0 == 3)
def impl_DoCmd_u (k : Nat) (a0_0 : Int) (a0_1 : Int) (a1 : List (List T)) (a2_0 : Int) (a2_1 : Int) (a2_2 : Int) (a2_3 : Int) (a2_4 : List (List T)) : Option Outs :=
 bindO (evalF E P0 k N.impl_copyInts [.v [.r a1]]) fun o2 =>
 bindO (evalF E P0 k N.impl_CmdCode [.v [.i a0_0, .i a0_1], .v [.i a2_0, .i a2_1, .i a2_2, .i a2_3, .r a2_4]]) fun o4 =>
 bindO (evalF E P0 k N.impl_Blocks [.v [.i a0_0, .i a0_1]]) fun o6 =>
 bif ((a1.length : Int) != (o6.t 0).asI) then
  impl_DoCmd_J1 k a0_0 a0_1 a1 a2_0 a2_1 a2_2 a2_3 a2_4 o2 1
 else
  impl_DoCmd_J1 k a0_0 a0_1 a1 a2_0 a2_1 a2_2 a2_3 a2_4 o2 ((o4.t 0).asI)
theorem impl_DoCmd_e (k : Nat) (a0_0 : Int) (a0_1 : Int) (a1 : List (List T)) (a2_0 : Int) (a2_1 : Int) (a2_2 : Int) (a2_3 : Int) (a2_4 : List (List T)) : evalF E P0 (k + 1) N.impl_DoCmd [.v [.i a0_0, .i a0_1], .v [.r a1], .v [.i a2_0, .i a2_1, .i a2_2, .i a2_3, .r a2_4]] = impl_DoCmd_u k a0_0 a0_1 a1 a2_0 a2_1 a2_2 a2_3 a2_4 := by kernel_rfl
/- impl.DoCmds -/
def impl_DoCmds_L1 (k : Nat) (a0_0 : Int) (a0_1 : Int) (p23 : List (List T)) (p24 : Int) (G1 : (Int × List (List T) × List (List T)) → Option Outs) : (Int × List (List T) × List (List T)) → Option Outs := fun (v8, w15, w16) =>
 bif (decide (v8 < p24)) then
  chk (decide (0 ≤ v8) && decide (v8 < (p23.length : Int))) <|
  bindO (evalF E P0 k N.impl_DoCmd [.v [.i a0_0, .i a0_1], .v [.r w15], .v [.i (at_ p23 v8.toNat 0).asI, .i (at_ p23 v8.toNat 1).asI, .i (at_ p23 v8.toNat 2).asI, .i (at_ p23 v8.toNat 3).asI, .r (at_ p23 v8.toNat 4).asR]]) fun o98 =>
  chk (decide ((w16.length + ([[.i (o98.t 1).asI, .i (o98.t 2).asI, .r (o98.t 3).asR]] : List (List T)).length) * 40 ≤ 140737488355328)) <|
  G1 ((IntKind.wrap .i64 (v8 + 1)), (o98.t 0).asR, (w16 ++ [[.i (o98.t 1).asI, .i (o98.t 2).asI, .r (o98.t 3).asR]]))
 else
  some ⟨[.r w15, .r w16], []⟩
def impl_DoCmds_k1 : List Nat := [3, 6, 7, 8, 9, 21, 22, 23, 40, 41]
def impl_DoCmds_S1 (a0_0 : Int) (a0_1 : Int) (p23 : List (List T)) (p24 : Int) : (Int × List (List T) × List (List T)) → St := fun (v8, w15, w16) => ⟨ofSl [(3, .ptr (3, 0) 0), (6, .ref (6, 0)), (7, .ref (7, 0)), (8, .ref (8, 0)), (9, .ref (9, 0)), (21, .sl 54 p23), (22, .i .i64 p24), (23, .i .i64 v8), (40, .skip), (41, .skip)], ofMem [((3, 0), .var [.i .i64 a0_0, .i .i64 a0_1]), ((6, 0), .row 3 true []), ((7, 0), .row 61 true []), ((8, 0), .row 3 true w15), ((9, 0), .row 61 true w16)]⟩
def impl_DoCmds_l1 (k : Nat) (a0_0 : Int) (a0_1 : Int) (p23 : List (List T)) (p24 : Int) (G1 : (Int × List (List T) × List (List T)) → Option Outs) : (Int × List (List T) × List (List T)) → Option Outs :=
  impl_DoCmds_L1 k a0_0 a0_1 p23 p24 G1
def impl_DoCmds_U (k : Nat) (a0_0 : Int) (a0_1 : Int) (a1 : List (List T)) (a2 : List (List T)) (R1 : List (List T) → Int → (Int × List (List T) × List (List T)) → Option Outs) : Option Outs :=
 bindO (evalF E P0 k N.impl_copyInts [.v [.r a1]]) fun o2 =>
 chk (decide (0 ≤ 0) && decide (0 ≤ (if 400 < (a2.length : Int) then 400 else (a2.length : Int))) && decide ((if 400 < (a2.length : Int) then 400 else (a2.length : Int)) ≤ (a2.length : Int))) <|
 R1 ((a2.drop (0 : Int).toNat).take ((if 400 < (a2.length : Int) then 400 else (a2.length : Int)).toNat - (0 : Int).toNat)) (((a2.drop (0 : Int).toNat).take ((if 400 < (a2.length : Int) then 400 else (a2.length : Int)).toNat - (0 : Int).toNat)).length : Int) (0, (o2.t 0).asR, [])
def impl_DoCmds_u (k : Nat) (a0_0 : Int) (a0_1 : Int) (a1 : List (List T)) (a2 : List (List T)) : Option Outs :=
  impl_DoCmds_U k a0_0 a0_1 a1 a2 (fun y0 y1 v => fixN (impl_DoCmds_l1 k a0_0 a0_1 y0 y1) k v)
def impl_DoCmds_it1 (k : Nat) (a0_0 : Int) (a0_1 : Int) (a1 : List (List T)) (a2 : List (List T)) (js : List Nat) (j : Nat) (s : St) : Option Outs := iter E (LB E (evalF E P0 k) k [] N.impl_DoCmds [.sr, .sr, .sr, .sl, .sr, .bl]) [] impl_DoCmds_k1 (LK E (evalF E P0 k) k [] N.impl_DoCmds [.v [.i a0_0, .i a0_1], .v [.r a1], .v [.r a2]] [.sr, .sr, .sr, .sl, .sr, .bl] js) j s
theorem impl_DoCmds_e (k : Nat) (a0_0 : Int) (a0_1 : Int) (a1 : List (List T)) (a2 : List (List T)) : evalF E P0 (k + 1) N.impl_DoCmds [.v [.i a0_0, .i a0_1], .v [.r a1], .v [.r a2]] = impl_DoCmds_u k a0_0 a0_1 a1 a2 := by
  have e0 : evalF E P0 (k + 1) N.impl_DoCmds [.v [.i a0_0, .i a0_1], .v [.r a1], .v [.r a2]] = impl_DoCmds_U k a0_0 a0_1 a1 a2 (fun y0 y1 v => impl_DoCmds_it1 k a0_0 a0_1 a1 a2 [] k (impl_DoCmds_S1 a0_0 a0_1 y0 y1 v)) := by kernel_rfl
  have e1 : ∀ (p23 : List (List T)) (p24 : Int) (j1 : Nat) (v : Int × List (List T) × List (List T)), impl_DoCmds_it1 k a0_0 a0_1 a1 a2 [] (j1 + 1) (impl_DoCmds_S1 a0_0 a0_1 p23 p24 v) = impl_DoCmds_L1 k a0_0 a0_1 p23 p24 (fun v => impl_DoCmds_it1 k a0_0 a0_1 a1 a2 [] j1 (impl_DoCmds_S1 a0_0 a0_1 p23 p24 v)) v := by
    intro p23 p24 j1 v; kernel_rfl
  have i1 : ∀ (p23 : List (List T)) (p24 : Int) (j1 : Nat) (v : Int × List (List T) × List (List T)), impl_DoCmds_it1 k a0_0 a0_1 a1 a2 [] j1 (impl_DoCmds_S1 a0_0 a0_1 p23 p24 v) = fixN (impl_DoCmds_l1 k a0_0 a0_1 p23 p24) j1 v := by
    intro p23 p24 j1 v
    refine iter_fix (impl_DoCmds_S1 a0_0 a0_1 p23 p24) (impl_DoCmds_l1 k a0_0 a0_1 p23 p24) (fun j1 v => (e1 p23 p24 j1 v).trans ?_) j1 v
    unfold impl_DoCmds_l1
    rfl
  rw [e0]; unfold impl_DoCmds_u
  simp only [i1]
/- impl.After -/
def impl_After_u (k : Nat) (a0_0 : Int) (a0_1 : Int) (a1 : List (List T)) (a2 : List (List T)) : Option Outs :=
 bindO (evalF E P0 k N.impl_CmdsOf [.v [.r a2]]) fun o3 =>
 bindO (evalF E P0 k N.impl_DoCmds [.v [.i a0_0, .i a0_1], .v [.r a1], .v [.r (o3.t 0).asR]]) fun o4 =>
 some ⟨[.r (o4.t 0).asR], []⟩
theorem impl_After_e (k : Nat) (a0_0 : Int) (a0_1 : Int) (a1 : List (List T)) (a2 : List (List T)) : evalF E P0 (k + 1) N.impl_After [.v [.i a0_0, .i a0_1], .v [.r a1], .v [.r a2]] = impl_After_u k a0_0 a0_1 a1 a2 := by kernel_rfl
/- laws.FnExactAfter -/
def laws_FnExactAfter_J1 (k : Nat) (a0_0 : Int) (a0_1 : Int) (a1 : List (List T)) (a2 : List (List T)) (o10 : Outs) (o18 : Outs) (c1 : Bool) : Option Outs :=
 bif c1 then
  some ⟨[.b false], []⟩
 else
  bindO (evalF E P0 k N.laws_markIntS [.r ((o18.t 0).asR), .v [.i 1]]) fun o35 =>
  bindO (evalF E P0 k N.laws_heldIntS [.v [.r (o35.vt 0 0).asR], .v [.i 1]]) fun o37 =>
  bif (decide ((o37.t 0).asI < 0)) then
   some ⟨[.b false], []⟩
  else
   bif ((o37.t 0).asI != (o35.t 0).asI) then
    some ⟨[.b false], []⟩
   else
    bindO (evalF E P0 k N.laws_toGeo [.v [.i a0_0, .i a0_1]]) fun o42 =>
    bindO (evalF E P0 k N.laws_toIntS [.v [.r a1]]) fun o43 =>
    bindO (evalF E P0 k N.laws_toTurnS [.v [.r a2]]) fun o44 =>
    bindO (evalF E P0 k N.impl_After [.v [.i (o42.t 0).asI, .i (o42.t 1).asI], .v [.r (o43.t 0).asR], .v [.r (o44.t 0).asR]]) fun o45 =>
    bindO (evalF E P0 k N.laws_eqIntS [.v [.r (o45.t 0).asR], .v [.r (o10.t 0).asR]]) fun o47 =>
    bif (!(o47.t 0).asB) then
     some ⟨[.b false], []⟩
    else
     bindO (evalF E P0 k N.laws_heldIntS [.v [.r (o35.vt 0 0).asR], .v [.i 1]]) fun o49 =>
     bif (decide ((o49.t 0).asI < 0)) then
      some ⟨[.b false], []⟩
     else
      bif ((o49.t 0).asI != (o35.t 0).asI) then some ⟨[.b false], []⟩ else some ⟨[.b true], []⟩
def laws_FnExactAfter_u (k : Nat) (a0_0 : Int) (a0_1 : Int) (a1 : List (List T)) (a2 : List (List T)) : Option Outs :=
 bif (decide ((a1.length : Int) > 1048576)) then
  some ⟨[.b true], []⟩
 else
  bindO (evalF E P0 k N.laws_szTurnS [.v [.r a2], .v [.i 1048576]]) fun o2 =>
  bif (decide ((o2.t 0).asI < 0)) then
   some ⟨[.b true], []⟩
  else
   bindO (evalF E P0 k N.laws_toGeo [.v [.i a0_0, .i a0_1]]) fun o7 =>
   bindO (evalF E P0 k N.laws_toIntS [.v [.r a1]]) fun o8 =>
   bindO (evalF E P0 k N.laws_toTurnS [.v [.r a2]]) fun o9 =>
   bindO (evalF E P0 k N.spec_After [.v [.i (o7.t 0).asI, .i (o7.t 1).asI], .v [.r (o8.t 0).asR], .v [.r (o9.t 0).asR]]) fun o10 =>
   bindO (evalF E P0 k N.laws_toIntS [.v [.r a1]]) fun o12 =>
   bindO (evalF E P0 k N.laws_toTurnS [.v [.r a2]]) fun o14 =>
   bindO (evalF E P0 k N.laws_toGeo [.v [.i a0_0, .i a0_1]]) fun o17 =>
   bindO (evalF E P0 k N.impl_After [.v [.i (o17.t 0).asI, .i (o17.t 1).asI], .v [.r (o12.t 0).asR], .v [.r (o14.t 0).asR]]) fun o18 =>
   bindO (evalF E P0 k N.laws_eqIntS [.v [.r (o18.t 0).asR], .v [.r (o10.t 0).asR]]) fun o20 =>
   bif (!(o20.t 0).asB) then
    some ⟨[.b false], []⟩
   else
    bindO (evalF E P0 k N.laws_toIntS [.v [.r a1]]) fun o23 =>
    bindO (evalF E P0 k N.laws_eqIntS [.v [.r (o12.t 0).asR], .v [.r (o23.t 0).asR]]) fun o24 =>
    bif (!(o24.t 0).asB) then
     some ⟨[.b false], []⟩
    else
     bindO (evalF E P0 k N.laws_toTurnS [.v [.r a2]]) fun o27 =>
     bindO (evalF E P0 k N.laws_eqTurnS [.v [.r (o14.t 0).asR], .v [.r (o27.t 0).asR]]) fun o28 =>
     bif (!(o28.t 0).asB) then
      some ⟨[.b false], []⟩
     else
      bindO (evalF E P0 k N.laws_markIntS [.r ((o12.t 0).asR), .v [.i 1]]) fun o30 =>
      bindO (evalF E P0 k N.laws_markTurnS [.r ((o14.t 0).asR), .v [.i (o30.t 0).asI]]) fun o32 =>
      bif (decide ((o32.t 0).asI < 0)) then
       laws_FnExactAfter_J1 k a0_0 a0_1 a1 a2 o10 o18 true
      else
       bindO (evalF E P0 k N.laws_eqIntS [.v [.r (o18.t 0).asR], .v [.r (o10.t 0).asR]]) fun o50 =>
       laws_FnExactAfter_J1 k a0_0 a0_1 a1 a2 o10 o18 (!(o50.t 0).asB)
theorem laws_FnExactAfter_e (k : Nat) (a0_0 : Int) (a0_1 : Int) (a1 : List (List T)) (a2 : List (List T)) : evalF E P0 (k + 1) N.laws_FnExactAfter [.v [.i a0_0, .i a0_1], .v [.r a1], .v [.r a2]] = laws_FnExactAfter_u k a0_0 a0_1 a1 a2 := by kernel_rfl
/- laws.big -/
def laws_big_u (k : Nat) (a0 : List (List T)) : Option Outs :=
 some ⟨[.b (decide ((a0.length : Int) > 1048576))], []⟩
theorem laws_big_e (k : Nat) (a0 : List (List T)) : evalF E P0 (k + 1) N.laws_big [.v [.r a0]] = laws_big_u k a0 := by kernel_rfl
/- spec.l1New -/
def spec_l1New_J1 (k : Nat) (a0 : List (List T)) (v15 : Int) (v16 : Int) (G1 : (Int × Int) → Option Outs) (c12 : Bool) : Option Outs :=
 bif c12 then
  chk (decide (0 ≤ v16) && decide (v16 < (a0.length : Int))) <|
  G1 ((bitsAnd .i64 (IntKind.wrap .i64 ((IntKind.wrap .i64 ((IntKind.wrap .i64 (v15 * 137)) + (IntKind.wrap .i64 (at_ a0 v16.toNat 0).asI))) + 11)) 1073741823), (IntKind.wrap .i64 (v16 + 1)))
 else
  some ⟨[.r [[.r a0, .i 0, .i v15]]], []⟩
def spec_l1New_L1 (k : Nat) (a0 : List (List T)) (G1 : (Int × Int) → Option Outs) : (Int × Int) → Option Outs := fun (v15, v16) =>
 bif (decide (v16 < (a0.length : Int))) then
  spec_l1New_J1 k a0 v15 v16 G1 (decide (v16 < 4000))
 else
  spec_l1New_J1 k a0 v15 v16 G1 false
def spec_l1New_k1 : List Nat := [0, 2, 3, 4, 28, 29, 30, 31]
def spec_l1New_S1 (a0 : List (List T)) : (Int × Int) → St := fun (v15, v16) => ⟨ofSl [(0, .sl 5 a0), (2, .nilp), (3, .i .i64 v15), (4, .i .i64 v16), (28, .skip), (29, .skip), (30, .skip), (31, .skip)], ofMem []⟩
def spec_l1New_l1 (k : Nat) (a0 : List (List T)) (G1 : (Int × Int) → Option Outs) : (Int × Int) → Option Outs :=
  spec_l1New_L1 k a0 G1
def spec_l1New_U (k : Nat) (a0 : List (List T)) (R1 : (Int × Int) → Option Outs) : Option Outs :=
 R1 ((IntKind.wrap .i64 (770770 + (a0.length : Int))), 0)
def spec_l1New_u (k : Nat) (a0 : List (List T)) : Option Outs :=
  spec_l1New_U k a0 (fun v => fixN (spec_l1New_l1 k a0) k v)
def spec_l1New_it1 (k : Nat) (a0 : List (List T)) (js : List Nat) (j : Nat) (s : St) : Option Outs := iter E (LB E (evalF E P0 k) k [] N.spec_l1New [.sr, .sr, .sl, .sr, .bl]) [] spec_l1New_k1 (LK E (evalF E P0 k) k [] N.spec_l1New [.v [.r a0]] [.sr, .sr, .sl, .sr, .bl] js) j s
theorem spec_l1New_e (k : Nat) (a0 : List (List T)) : evalF E P0 (k + 1) N.spec_l1New [.v [.r a0]] = spec_l1New_u k a0 := by
  have e0 : evalF E P0 (k + 1) N.spec_l1New [.v [.r a0]] = spec_l1New_U k a0 (fun v => spec_l1New_it1 k a0 [] k (spec_l1New_S1 a0 v)) := by kernel_rfl
  have e1 : ∀ (j1 : Nat) (v : Int × Int), spec_l1New_it1 k a0 [] (j1 + 1) (spec_l1New_S1 a0 v) = spec_l1New_L1 k a0 (fun v => spec_l1New_it1 k a0 [] j1 (spec_l1New_S1 a0 v)) v := by
    intro j1 v; kernel_rfl
  have i1 : ∀ (j1 : Nat) (v : Int × Int), spec_l1New_it1 k a0 [] j1 (spec_l1New_S1 a0 v) = fixN (spec_l1New_l1 k a0) j1 v := by
    intro j1 v
    refine iter_fix (spec_l1New_S1 a0) (spec_l1New_l1 k a0) (fun j1 v => (e1 j1 v).trans ?_) j1 v
    unfold spec_l1New_l1
    rfl
  rw [e0]; unfold spec_l1New_u
  simp only [i1]
/- spec.l1Byte -/
def spec_l1Byte_u (k : Nat) (a0_0 : List (List T)) (a0_1 : Int) (a0_2 : Int) : Option Outs :=
 bif (decide (a0_1 < (a0_0.length : Int))) then
  chk (decide (0 ≤ a0_1) && decide (a0_1 < (a0_0.length : Int))) <|
  some ⟨[.i (bitsAnd .i64 (IntKind.wrap .i64 ((bitsAnd .i64 (bitsXor .i64 (Int.fdiv (IntKind.wrap .i64 ((IntKind.wrap .i64 (a0_2 * 6364136223846793005)) + 1442695040888963407)) 8589934592) (Int.fdiv (IntKind.wrap .i64 ((IntKind.wrap .i64 (a0_2 * 6364136223846793005)) + 1442695040888963407)) 140737488355328)) 255) + (IntKind.wrap .i64 (at_ a0_0 a0_1.toNat 0).asI))) 255)], [[.r a0_0, .i (IntKind.wrap .i64 (a0_1 + 1)), .i (IntKind.wrap .i64 ((IntKind.wrap .i64 (a0_2 * 6364136223846793005)) + 1442695040888963407))]]⟩
 else
  some ⟨[.i (bitsAnd .i64 (bitsXor .i64 (Int.fdiv (IntKind.wrap .i64 ((IntKind.wrap .i64 (a0_2 * 6364136223846793005)) + 1442695040888963407)) 8589934592) (Int.fdiv (IntKind.wrap .i64 ((IntKind.wrap .i64 (a0_2 * 6364136223846793005)) + 1442695040888963407)) 140737488355328)) 255)], [[.r a0_0, .i a0_1, .i (IntKind.wrap .i64 ((IntKind.wrap .i64 (a0_2 * 6364136223846793005)) + 1442695040888963407))]]⟩
theorem spec_l1Byte_e (k : Nat) (a0_0 : List (List T)) (a0_1 : Int) (a0_2 : Int) : evalF E P0 (k + 1) N.spec_l1Byte [.p [.r a0_0, .i a0_1, .i a0_2]] = spec_l1Byte_u k a0_0 a0_1 a0_2 := by kernel_rfl
/- spec.l1Below -/
def spec_l1Below_u (k : Nat) (a0_0 : List (List T)) (a0_1 : Int) (a0_2 : Int) (a1 : Int) : Option Outs :=
 bif (decide (a1 ≤ 0)) then
  some ⟨[.i 0], [[.r a0_0, .i a0_1, .i a0_2]]⟩
 else
  bif (decide (a1 ≤ 256)) then
   bindO (evalF E P0 k N.spec_l1Byte [.p [.r a0_0, .i a0_1, .i a0_2]]) fun o4 =>
   chk (!decide (a1 = 0)) <|
   some ⟨[.i (Int.tmod (o4.t 0).asI a1)], [[.r (o4.vt 0 0).asR, .i (o4.vt 0 1).asI, .i (o4.vt 0 2).asI]]⟩
  else
   bindO (evalF E P0 k N.spec_l1Byte [.p [.r a0_0, .i a0_1, .i a0_2]]) fun o6 =>
   bindO (evalF E P0 k N.spec_l1Byte [.p [.r (o6.vt 0 0).asR, .i (o6.vt 0 1).asI, .i (o6.vt 0 2).asI]]) fun o8 =>
   bindO (evalF E P0 k N.spec_l1Byte [.p [.r (o8.vt 0 0).asR, .i (o8.vt 0 1).asI, .i (o8.vt 0 2).asI]]) fun o10 =>
   chk (!decide (a1 = 0)) <|
   some ⟨[.i (Int.tmod (IntKind.wrap .i64 ((IntKind.wrap .i64 ((IntKind.wrap .i64 ((o6.t 0).asI * 65536)) + (IntKind.wrap .i64 ((o8.t 0).asI * 256)))) + (o10.t 0).asI)) a1)], [[.r (o10.vt 0 0).asR, .i (o10.vt 0 1).asI, .i (o10.vt 0 2).asI]]⟩
theorem spec_l1Below_e (k : Nat) (a0_0 : List (List T)) (a0_1 : Int) (a0_2 : Int) (a1 : Int) : evalF E P0 (k + 1) N.spec_l1Below [.p [.r a0_0, .i a0_1, .i a0_2], .v [.i a1]] = spec_l1Below_u k a0_0 a0_1 a0_2 a1 := by kernel_rfl
/- spec.l6Geo -/
def spec_l6Geo_u (k : Nat) (a0_0 : List (List T)) (a0_1 : Int) (a0_2 : Int) : Option Outs :=
 bindO (evalF E P0 k N.spec_l1Below [.p [.r a0_0, .i a0_1, .i a0_2], .v [.i 3]]) fun o3 =>
 bindO (evalF E P0 k N.spec_l1Below [.p [.r (o3.vt 0 0).asR, .i (o3.vt 0 1).asI, .i (o3.vt 0 2).asI], .v [.i 4]]) fun o4 =>
 some ⟨[.i (IntKind.wrap .i64 (3 + (o3.t 0).asI)), .i (IntKind.wrap .i64 (1 + (o4.t 0).asI))], [[.r (o4.vt 0 0).asR, .i (o4.vt 0 1).asI, .i (o4.vt 0 2).asI]]⟩
theorem spec_l6Geo_e (k : Nat) (a0_0 : List (List T)) (a0_1 : Int) (a0_2 : Int) : evalF E P0 (k + 1) N.spec_l6Geo [.p [.r a0_0, .i a0_1, .i a0_2]] = spec_l6Geo_u k a0_0 a0_1 a0_2 := by kernel_rfl
/- spec.l1Int -/
def spec_l1Int_u (k : Nat) (a0_0 : List (List T)) (a0_1 : Int) (a0_2 : Int) (a1 : List (List T)) : Option Outs :=
 bindO (evalF E P0 k N.spec_l1Below [.p [.r a0_0, .i a0_1, .i a0_2], .v [.i (a1.length : Int)]]) fun o2 =>
 chk (decide (0 ≤ (o2.t 0).asI) && decide ((o2.t 0).asI < (a1.length : Int))) <|
 some ⟨[.i (at_ a1 (o2.t 0).asI.toNat 0).asI], [[.r (o2.vt 0 0).asR, .i (o2.vt 0 1).asI, .i (o2.vt 0 2).asI]]⟩
theorem spec_l1Int_e (k : Nat) (a0_0 : List (List T)) (a0_1 : Int) (a0_2 : Int) (a1 : List (List T)) : evalF E P0 (k + 1) N.spec_l1Int [.p [.r a0_0, .i a0_1, .i a0_2], .v [.r a1]] = spec_l1Int_u k a0_0 a0_1 a0_2 a1 := by kernel_rfl
/- spec.l1Draw -/
def spec_l1Draw_u (k : Nat) (a0_0 : List (List T)) (a0_1 : Int) (a0_2 : Int) : Option Outs :=
 bindO (evalF E P0 k N.spec_l1Int [.p [.r a0_0, .i a0_1, .i a0_2], .v [.r [[.i 0], [.i 1], [.i 2], [.i 7], [.i 255], [.i 256], [.i 4660], [.i 65535]]]]) fun o2 =>
 some ⟨[.i (o2.t 0).asI], [[.r (o2.vt 0 0).asR, .i (o2.vt 0 1).asI, .i (o2.vt 0 2).asI]]⟩
theorem spec_l1Draw_e (k : Nat) (a0_0 : List (List T)) (a0_1 : Int) (a0_2 : Int) : evalF E P0 (k + 1) N.spec_l1Draw [.p [.r a0_0, .i a0_1, .i a0_2]] = spec_l1Draw_u k a0_0 a0_1 a0_2 := by kernel_rfl
/- spec.l7Some -/
def spec_l7Some_L1 (k : Nat) (a1 : Int) (G1 : (Int × List (List T) × Int × Int × List (List T)) → Option Outs) : (Int × List (List T) × Int × Int × List (List T)) → Option Outs := fun (v22, w15, v23, v24, w16) =>
 bif (decide (v22 < a1)) then
  bindO (evalF E P0 k N.spec_l1Draw [.p [.r w15, .i v23, .i v24]]) fun o48 =>
  chk (decide ((w16.length + ([[.i (o48.t 0).asI]] : List (List T)).length) * 8 ≤ 140737488355328)) <|
  G1 ((IntKind.wrap .i64 (v22 + 1)), (o48.vt 0 0).asR, (o48.vt 0 1).asI, (o48.vt 0 2).asI, (w16 ++ [[.i (o48.t 0).asI]]))
 else
  some ⟨[.r w16], [[.r w15, .i v23, .i v24]]⟩
def spec_l7Some_k1 : List Nat := [0, 1, 4, 5, 6, 18]
def spec_l7Some_S1 (a1 : Int) : (Int × List (List T) × Int × Int × List (List T)) → St := fun (v22, w15, v23, v24, w16) => ⟨ofSl [(0, .ptr (0, 0) 0), (1, .i .i64 a1), (4, .ref (4, 0)), (5, .ref (5, 0)), (6, .i .i64 v22), (18, .skip)], ofMem [((0, 0), .var [.sl 5 w15, .i .i64 v23, .i .i64 v24]), ((4, 0), .row 3 true []), ((5, 0), .row 3 true w16)]⟩
def spec_l7Some_l1 (k : Nat) (a1 : Int) (G1 : (Int × List (List T) × Int × Int × List (List T)) → Option Outs) : (Int × List (List T) × Int × Int × List (List T)) → Option Outs :=
  spec_l7Some_L1 k a1 G1
def spec_l7Some_U (k : Nat) (a0_0 : List (List T)) (a0_1 : Int) (a0_2 : Int) (a1 : Int) (R1 : (Int × List (List T) × Int × Int × List (List T)) → Option Outs) : Option Outs :=
 R1 (0, a0_0, a0_1, a0_2, [])
def spec_l7Some_u (k : Nat) (a0_0 : List (List T)) (a0_1 : Int) (a0_2 : Int) (a1 : Int) : Option Outs :=
  spec_l7Some_U k a0_0 a0_1 a0_2 a1 (fun v => fixN (spec_l7Some_l1 k a1) k v)
def spec_l7Some_it1 (k : Nat) (a0_0 : List (List T)) (a0_1 : Int) (a0_2 : Int) (a1 : Int) (js : List Nat) (j : Nat) (s : St) : Option Outs := iter E (LB E (evalF E P0 k) k [0] N.spec_l7Some [.sr, .sr, .sl, .sr, .bl]) [0] spec_l7Some_k1 (LK E (evalF E P0 k) k [0] N.spec_l7Some [.p [.r a0_0, .i a0_1, .i a0_2], .v [.i a1]] [.sr, .sr, .sl, .sr, .bl] js) j s
theorem spec_l7Some_e (k : Nat) (a0_0 : List (List T)) (a0_1 : Int) (a0_2 : Int) (a1 : Int) : evalF E P0 (k + 1) N.spec_l7Some [.p [.r a0_0, .i a0_1, .i a0_2], .v [.i a1]] = spec_l7Some_u k a0_0 a0_1 a0_2 a1 := by
  have e0 : evalF E P0 (k + 1) N.spec_l7Some [.p [.r a0_0, .i a0_1, .i a0_2], .v [.i a1]] = spec_l7Some_U k a0_0 a0_1 a0_2 a1 (fun v => spec_l7Some_it1 k a0_0 a0_1 a0_2 a1 [] k (spec_l7Some_S1 a1 v)) := by kernel_rfl
  have e1 : ∀ (j1 : Nat) (v : Int × List (List T) × Int × Int × List (List T)), spec_l7Some_it1 k a0_0 a0_1 a0_2 a1 [] (j1 + 1) (spec_l7Some_S1 a1 v) = spec_l7Some_L1 k a1 (fun v => spec_l7Some_it1 k a0_0 a0_1 a0_2 a1 [] j1 (spec_l7Some_S1 a1 v)) v := by
    intro j1 v; kernel_rfl
  have i1 : ∀ (j1 : Nat) (v : Int × List (List T) × Int × Int × List (List T)), spec_l7Some_it1 k a0_0 a0_1 a0_2 a1 [] j1 (spec_l7Some_S1 a1 v) = fixN (spec_l7Some_l1 k a1) j1 v := by
    intro j1 v
    refine iter_fix (spec_l7Some_S1 a1) (spec_l7Some_l1 k a1) (fun j1 v => (e1 j1 v).trans ?_) j1 v
    unfold spec_l7Some_l1
    rfl
  rw [e0]; unfold spec_l7Some_u
  simp only [i1]
/- spec.l13Draw -/
def spec_l13Draw_J2 (k : Nat) (o3 : Outs) (o4 : Outs) (o12 : Outs) (x1 : Int) (c4 : Bool) : Option Outs :=
 bif c4 then
  some ⟨[.i (o3.t 0).asI, .i (IntKind.wrap .i64 (1 + (o4.t 0).asI)), .i (o12.t 0).asI, .i x1, .r []], [[.r (o12.vt 0 0).asR, .i (o12.vt 0 1).asI, .i (o12.vt 0 2).asI]]⟩
 else
  bif ((o3.t 0).asI == 5) then
   bindO (evalF E P0 k N.spec_l1Int [.p [.r (o12.vt 0 0).asR, .i (o12.vt 0 1).asI, .i (o12.vt 0 2).asI], .v [.r [[.i 0], [.i 0], [.i 1], [.i 2]]]]) fun o22 =>
   bindO (evalF E P0 k N.spec_l1Int [.p [.r (o22.vt 0 0).asR, .i (o22.vt 0 1).asI, .i (o22.vt 0 2).asI], .v [.r [[.i 0], [.i 1], [.i 2], [.i 7]]]]) fun o23 =>
   some ⟨[.i (o3.t 0).asI, .i (IntKind.wrap .i64 (1 + (o4.t 0).asI)), .i (o12.t 0).asI, .i 0, .r [[.i (o22.t 0).asI], [.i (o23.t 0).asI]]], [[.r (o23.vt 0 0).asR, .i (o23.vt 0 1).asI, .i (o23.vt 0 2).asI]]⟩
  else
   bindO (evalF E P0 k N.spec_l7Some [.p [.r (o12.vt 0 0).asR, .i (o12.vt 0 1).asI, .i (o12.vt 0 2).asI], .v [.i x1]]) fun o24 =>
   some ⟨[.i (o3.t 0).asI, .i (IntKind.wrap .i64 (1 + (o4.t 0).asI)), .i (o12.t 0).asI, .i 0, .r (o24.t 0).asR], [[.r (o24.vt 0 0).asR, .i (o24.vt 0 1).asI, .i (o24.vt 0 2).asI]]⟩
def spec_l13Draw_J1 (k : Nat) (a1_0 : Int) (a1_1 : Int) (o3 : Outs) (o4 : Outs) (o6 : Outs) (x1 : Int) : Option Outs :=
 bindO (evalF E P0 k N.spec_Blocks [.v [.i a1_0, .i a1_1]]) fun o11 =>
 bindO (evalF E P0 k N.spec_l1Below [.p [.r (o6.vt 0 0).asR, .i (o6.vt 0 1).asI, .i (o6.vt 0 2).asI], .v [.i (IntKind.wrap .i64 ((IntKind.wrap .i64 ((o11.t 0).asI - x1)) + 1))]]) fun o12 =>
 bif ((o3.t 0).asI == 1) then
  spec_l13Draw_J2 k o3 o4 o12 x1 true
 else
  spec_l13Draw_J2 k o3 o4 o12 x1 ((o3.t 0).asI == 6)
def spec_l13Draw_u (k : Nat) (a0_0 : List (List T)) (a0_1 : Int) (a0_2 : Int) (a1_0 : Int) (a1_1 : Int) : Option Outs :=
 bindO (evalF E P0 k N.spec_l1Int [.p [.r a0_0, .i a0_1, .i a0_2], .v [.r [[.i 1], [.i 1], [.i 2], [.i 2], [.i 2], [.i 3], [.i 3], [.i 4], [.i 5], [.i 6]]]]) fun o3 =>
 bindO (evalF E P0 k N.spec_l1Below [.p [.r (o3.vt 0 0).asR, .i (o3.vt 0 1).asI, .i (o3.vt 0 2).asI], .v [.i 99]]) fun o4 =>
 bif ((o3.t 0).asI == 4) then
  some ⟨[.i (o3.t 0).asI, .i (IntKind.wrap .i64 (1 + (o4.t 0).asI)), .i 0, .i 0, .r []], [[.r (o4.vt 0 0).asR, .i (o4.vt 0 1).asI, .i (o4.vt 0 2).asI]]⟩
 else
  bindO (evalF E P0 k N.spec_l1Below [.p [.r (o4.vt 0 0).asR, .i (o4.vt 0 1).asI, .i (o4.vt 0 2).asI], .v [.i 4]]) fun o6 =>
  bindO (evalF E P0 k N.spec_Blocks [.v [.i a1_0, .i a1_1]]) fun o8 =>
  bif (decide ((IntKind.wrap .i64 (1 + (o6.t 0).asI)) > (o8.t 0).asI)) then
   spec_l13Draw_J1 k a1_0 a1_1 o3 o4 o6 1
  else
   spec_l13Draw_J1 k a1_0 a1_1 o3 o4 o6 (IntKind.wrap .i64 (1 + (o6.t 0).asI))
theorem spec_l13Draw_e (k : Nat) (a0_0 : List (List T)) (a0_1 : Int) (a0_2 : Int) (a1_0 : Int) (a1_1 : Int) : evalF E P0 (k + 1) N.spec_l13Draw [.p [.r a0_0, .i a0_1, .i a0_2], .v [.i a1_0, .i a1_1]] = spec_l13Draw_u k a0_0 a0_1 a0_2 a1_0 a1_1 := by kernel_rfl
/- spec.l13Any -/
def spec_l13Any_J1 (k : Nat) (o4 : Outs) (x7 : Int) (x8 : Int) (x9 : Int) (x10 : Int) (l2 : List (List T)) (x11 : Int) (x12 : Int) : Option Outs :=
 some ⟨[.i x7, .i x8, .i x9, .i x10, .r (o4.t 4).asR], [[.r l2, .i x11, .i x12]]⟩
def spec_l13Any_J2 (k : Nat) (x19 : Int) (x20 : Int) (x21 : Int) (x22 : Int) (l4 : List (List T)) (x23 : Int) (x24 : Int) : Option Outs :=
 some ⟨[.i x19, .i x20, .i x21, .i x22, .r []], [[.r l4, .i x23, .i x24]]⟩
def spec_l13Any_u (k : Nat) (a0_0 : List (List T)) (a0_1 : Int) (a0_2 : Int) (a1_0 : Int) (a1_1 : Int) : Option Outs :=
 bindO (evalF E P0 k N.spec_GeoOk [.v [.i a1_0, .i a1_1]]) fun o2 =>
 bif (o2.t 0).asB then
  bindO (evalF E P0 k N.spec_l13Draw [.p [.r a0_0, .i a0_1, .i a0_2], .v [.i a1_0, .i a1_1]]) fun o4 =>
  bindO (evalF E P0 k N.spec_l1Below [.p [.r (o4.vt 0 0).asR, .i (o4.vt 0 1).asI, .i (o4.vt 0 2).asI], .v [.i 12]]) fun o6 =>
  bif ((o6.t 0).asI == 0) then
   bindO (evalF E P0 k N.spec_l1Int [.p [.r (o6.vt 0 0).asR, .i (o6.vt 0 1).asI, .i (o6.vt 0 2).asI], .v [.r [[.i 0], [.i 7], [.i (-1)], [.i 4]]]]) fun o25 =>
   spec_l13Any_J1 k o4 ((o25.t 0).asI) ((o4.t 1).asI) ((o4.t 2).asI) ((o4.t 3).asI) ((o25.vt 0 0).asR) ((o25.vt 0 1).asI) ((o25.vt 0 2).asI)
  else
   bif ((o6.t 0).asI == 1) then
    bindO (evalF E P0 k N.spec_l1Int [.p [.r (o6.vt 0 0).asR, .i (o6.vt 0 1).asI, .i (o6.vt 0 2).asI], .v [.r [[.i 0], [.i 999], [.i 1000], [.i 65536]]]]) fun o26 =>
    spec_l13Any_J1 k o4 ((o4.t 0).asI) ((o26.t 0).asI) ((o4.t 2).asI) ((o4.t 3).asI) ((o26.vt 0 0).asR) ((o26.vt 0 1).asI) ((o26.vt 0 2).asI)
   else
    bif ((o6.t 0).asI == 2) then
     bindO (evalF E P0 k N.spec_l1Int [.p [.r (o6.vt 0 0).asR, .i (o6.vt 0 1).asI, .i (o6.vt 0 2).asI], .v [.r [[.i (-1)], [.i 7], [.i 31], [.i 32], [.i 9223372036854775807]]]]) fun o27 =>
     spec_l13Any_J1 k o4 ((o4.t 0).asI) ((o4.t 1).asI) ((o27.t 0).asI) ((o4.t 3).asI) ((o27.vt 0 0).asR) ((o27.vt 0 1).asI) ((o27.vt 0 2).asI)
    else
     bif ((o6.t 0).asI == 3) then
      bindO (evalF E P0 k N.spec_l1Int [.p [.r (o6.vt 0 0).asR, .i (o6.vt 0 1).asI, .i (o6.vt 0 2).asI], .v [.r [[.i 0], [.i 6], [.i 7], [.i (-1)], [.i 65536]]]]) fun o28 =>
      spec_l13Any_J1 k o4 ((o4.t 0).asI) ((o4.t 1).asI) ((o4.t 2).asI) ((o28.t 0).asI) ((o28.vt 0 0).asR) ((o28.vt 0 1).asI) ((o28.vt 0 2).asI)
     else
      bif ((o6.t 0).asI == 4) then
       bindO (evalF E P0 k N.spec_l1Int [.p [.r (o6.vt 0 0).asR, .i (o6.vt 0 1).asI, .i (o6.vt 0 2).asI], .v [.r [[.i (-1)], [.i 5], [.i 65536]]]]) fun o29 =>
       chk (decide (((o4.t 4).asR.length + ([[.i (o29.t 0).asI]] : List (List T)).length) * 8 ≤ 140737488355328)) <|
       some ⟨[.i (o4.t 0).asI, .i (o4.t 1).asI, .i (o4.t 2).asI, .i (o4.t 3).asI, .r ((o4.t 4).asR ++ [[.i (o29.t 0).asI]])], [[.r (o29.vt 0 0).asR, .i (o29.vt 0 1).asI, .i (o29.vt 0 2).asI]]⟩
      else
       bif ((o6.t 0).asI == 5) then
        bindO (evalF E P0 k N.spec_l1Below [.p [.r (o6.vt 0 0).asR, .i (o6.vt 0 1).asI, .i (o6.vt 0 2).asI], .v [.i 2]]) fun o30 =>
        chk (decide ((IntKind.wrap .i64 (6 + (o30.t 0).asI)) = (IntKind.wrap .i64 (6 + (o30.t 0).asI))) && decide (0 ≤ (IntKind.wrap .i64 (6 + (o30.t 0).asI))) && decide ((IntKind.wrap .i64 (6 + (o30.t 0).asI)) * ((8 : Nat) : Int) ≤ 140737488355328)) <|
        some ⟨[.i (o4.t 0).asI, .i (o4.t 1).asI, .i (o4.t 2).asI, .i (o4.t 3).asI, .r (List.replicate ((IntKind.wrap .i64 (6 + (o30.t 0).asI)) : Int).toNat [.i 0])], [[.r (o30.vt 0 0).asR, .i (o30.vt 0 1).asI, .i (o30.vt 0 2).asI]]⟩
       else
        spec_l13Any_J1 k o4 ((o4.t 0).asI) ((o4.t 1).asI) ((o4.t 2).asI) ((o4.t 3).asI) ((o6.vt 0 0).asR) ((o6.vt 0 1).asI) ((o6.vt 0 2).asI)
 else
  bindO (evalF E P0 k N.spec_l1Below [.p [.r a0_0, .i a0_1, .i a0_2], .v [.i 12]]) fun o32 =>
  bif ((o32.t 0).asI == 0) then
   bindO (evalF E P0 k N.spec_l1Int [.p [.r (o32.vt 0 0).asR, .i (o32.vt 0 1).asI, .i (o32.vt 0 2).asI], .v [.r [[.i 0], [.i 7], [.i (-1)], [.i 4]]]]) fun o51 =>
   spec_l13Any_J2 k ((o51.t 0).asI) 1 0 1 ((o51.vt 0 0).asR) ((o51.vt 0 1).asI) ((o51.vt 0 2).asI)
  else
   bif ((o32.t 0).asI == 1) then
    bindO (evalF E P0 k N.spec_l1Int [.p [.r (o32.vt 0 0).asR, .i (o32.vt 0 1).asI, .i (o32.vt 0 2).asI], .v [.r [[.i 0], [.i 999], [.i 1000], [.i 65536]]]]) fun o52 =>
    spec_l13Any_J2 k 1 ((o52.t 0).asI) 0 1 ((o52.vt 0 0).asR) ((o52.vt 0 1).asI) ((o52.vt 0 2).asI)
   else
    bif ((o32.t 0).asI == 2) then
     bindO (evalF E P0 k N.spec_l1Int [.p [.r (o32.vt 0 0).asR, .i (o32.vt 0 1).asI, .i (o32.vt 0 2).asI], .v [.r [[.i (-1)], [.i 7], [.i 31], [.i 32], [.i 9223372036854775807]]]]) fun o53 =>
     spec_l13Any_J2 k 1 1 ((o53.t 0).asI) 1 ((o53.vt 0 0).asR) ((o53.vt 0 1).asI) ((o53.vt 0 2).asI)
    else
     bif ((o32.t 0).asI == 3) then
      bindO (evalF E P0 k N.spec_l1Int [.p [.r (o32.vt 0 0).asR, .i (o32.vt 0 1).asI, .i (o32.vt 0 2).asI], .v [.r [[.i 0], [.i 6], [.i 7], [.i (-1)], [.i 65536]]]]) fun o54 =>
      spec_l13Any_J2 k 1 1 0 ((o54.t 0).asI) ((o54.vt 0 0).asR) ((o54.vt 0 1).asI) ((o54.vt 0 2).asI)
     else
      bif ((o32.t 0).asI == 4) then
       bindO (evalF E P0 k N.spec_l1Int [.p [.r (o32.vt 0 0).asR, .i (o32.vt 0 1).asI, .i (o32.vt 0 2).asI], .v [.r [[.i (-1)], [.i 5], [.i 65536]]]]) fun o55 =>
       some ⟨[.i 1, .i 1, .i 0, .i 1, .r [[.i (o55.t 0).asI]]], [[.r (o55.vt 0 0).asR, .i (o55.vt 0 1).asI, .i (o55.vt 0 2).asI]]⟩
      else
       bif ((o32.t 0).asI == 5) then
        bindO (evalF E P0 k N.spec_l1Below [.p [.r (o32.vt 0 0).asR, .i (o32.vt 0 1).asI, .i (o32.vt 0 2).asI], .v [.i 2]]) fun o56 =>
        chk (decide ((IntKind.wrap .i64 (6 + (o56.t 0).asI)) = (IntKind.wrap .i64 (6 + (o56.t 0).asI))) && decide (0 ≤ (IntKind.wrap .i64 (6 + (o56.t 0).asI))) && decide ((IntKind.wrap .i64 (6 + (o56.t 0).asI)) * ((8 : Nat) : Int) ≤ 140737488355328)) <|
        some ⟨[.i 1, .i 1, .i 0, .i 1, .r (List.replicate ((IntKind.wrap .i64 (6 + (o56.t 0).asI)) : Int).toNat [.i 0])], [[.r (o56.vt 0 0).asR, .i (o56.vt 0 1).asI, .i (o56.vt 0 2).asI]]⟩
       else
        spec_l13Any_J2 k 1 1 0 1 ((o32.vt 0 0).asR) ((o32.vt 0 1).asI) ((o32.vt 0 2).asI)
theorem spec_l13Any_e (k : Nat) (a0_0 : List (List T)) (a0_1 : Int) (a0_2 : Int) (a1_0 : Int) (a1_1 : Int) : evalF E P0 (k + 1) N.spec_l13Any [.p [.r a0_0, .i a0_1, .i a0_2], .v [.i a1_0, .i a1_1]] = spec_l13Any_u k a0_0 a0_1 a0_2 a1_0 a1_1 := by kernel_rfl
/- spec.l1Once -/
def spec_l1Once_u (k : Nat) (a0_0 : List (List T)) (a0_1 : Int) (a0_2 : Int) (a1 : Int) : Option Outs :=
 bindO (evalF E P0 k N.spec_l1Below [.p [.r a0_0, .i a0_1, .i a0_2], .v [.i a1]]) fun o2 =>
 some ⟨[.b ((o2.t 0).asI == 0)], [[.r (o2.vt 0 0).asR, .i (o2.vt 0 1).asI, .i (o2.vt 0 2).asI]]⟩
theorem spec_l1Once_e (k : Nat) (a0_0 : List (List T)) (a0_1 : Int) (a0_2 : Int) (a1 : Int) : evalF E P0 (k + 1) N.spec_l1Once [.p [.r a0_0, .i a0_1, .i a0_2], .v [.i a1]] = spec_l1Once_u k a0_0 a0_1 a0_2 a1 := by kernel_rfl
/- spec.l18Log -/
def spec_l18Log_J1 (k : Nat) (o2 : Outs) (o6 : Outs) (w23 : List (List T)) (l1 : List (List T)) (x1 : Int) (x2 : Int) (c1 : Bool) : Option Outs :=
 bif c1 then
  bindO (evalF E P0 k N.spec_l1Below [.p [.r l1, .i x1, .i x2], .v [.i (w23.length : Int)]]) fun o210 =>
  bindO (evalF E P0 k N.spec_l1Below [.p [.r (o210.vt 0 0).asR, .i (o210.vt 0 1).asI, .i (o210.vt 0 2).asI], .v [.i 3]]) fun o212 =>
  bif ((o212.t 0).asI == 0) then
   bindO (evalF E P0 k N.spec_l1Below [.p [.r (o212.vt 0 0).asR, .i (o212.vt 0 1).asI, .i (o212.vt 0 2).asI], .v [.i 8]]) fun o214 =>
   chk (decide (0 ≤ (o210.t 0).asI) && decide ((o210.t 0).asI < (w23.length : Int))) <|
   some ⟨[.i (o2.t 0).asI, .i (o2.t 1).asI, .r (o6.t 0).asR, .r (put_ w23 (o210.t 0).asI.toNat 6 [.i (o214.t 0).asI])], [[.r (o214.vt 0 0).asR, .i (o214.vt 0 1).asI, .i (o214.vt 0 2).asI]]⟩
  else
   bif ((o212.t 0).asI == 1) then
    chk (decide (0 ≤ (o210.t 0).asI) && decide ((o210.t 0).asI < (w23.length : Int))) <|
    chk (decide (0 ≤ (o210.t 0).asI) && decide ((o210.t 0).asI < (w23.length : Int))) <|
    some ⟨[.i (o2.t 0).asI, .i (o2.t 1).asI, .r (o6.t 0).asR, .r (put_ w23 (o210.t 0).asI.toNat 5 [.i (IntKind.wrap .i64 ((at_ w23 (o210.t 0).asI.toNat 5).asI + 1))])], [[.r (o212.vt 0 0).asR, .i (o212.vt 0 1).asI, .i (o212.vt 0 2).asI]]⟩
   else
    chk (decide (0 ≤ (o210.t 0).asI) && decide ((o210.t 0).asI < (w23.length : Int))) <|
    chk (decide (((at_ w23 (o210.t 0).asI.toNat 7).asR.length + ([[.i 5]] : List (List T)).length) * 8 ≤ 140737488355328)) <|
    chk (decide (0 ≤ (o210.t 0).asI) && decide ((o210.t 0).asI < (w23.length : Int))) <|
    chk (Nat.beq (o210.t 0).asI.toNat (o210.t 0).asI.toNat) <|
    some ⟨[.i (o2.t 0).asI, .i (o2.t 1).asI, .r (o6.t 0).asR, .r (put_ w23 (o210.t 0).asI.toNat 7 [.r ((at_ w23 (o210.t 0).asI.toNat 7).asR ++ [[.i 5]])])], [[.r (o212.vt 0 0).asR, .i (o212.vt 0 1).asI, .i (o212.vt 0 2).asI]]⟩
 else
  some ⟨[.i (o2.t 0).asI, .i (o2.t 1).asI, .r (o6.t 0).asR, .r w23], [[.r l1, .i x1, .i x2]]⟩
def spec_l18Log_L1 (k : Nat) (o2 : Outs) (o6 : Outs) (G1 : (Int × List (List T) × Int × Int × List (List T) × List (List T)) → Option Outs) : (Int × List (List T) × Int × Int × List (List T) × List (List T)) → Option Outs := fun (v22, w22, v23, v24, w23, w24) =>
 bif (decide (v22 > 0)) then
  bindO (evalF E P0 k N.spec_l13Any [.p [.r w22, .i v23, .i v24], .v [.i (o2.t 0).asI, .i (o2.t 1).asI]]) fun o198 =>
  bindO (evalF E P0 k N.spec_DoCmd [.v [.i (o2.t 0).asI, .i (o2.t 1).asI], .v [.r w24], .v [.i (o198.t 0).asI, .i (o198.t 1).asI, .i (o198.t 2).asI, .i (o198.t 3).asI, .r (o198.t 4).asR]]) fun o200 =>
  chk (decide ((w23.length + ([[.i (o198.t 0).asI, .i (o198.t 1).asI, .i (o198.t 2).asI, .i (o198.t 3).asI, .r (o198.t 4).asR, .i (o200.t 1).asI, .i (o200.t 2).asI, .r (o200.t 3).asR]] : List (List T)).length) * 96 ≤ 140737488355328)) <|
  G1 ((IntKind.wrap .i64 (v22 - 1)), (o198.vt 0 0).asR, (o198.vt 0 1).asI, (o198.vt 0 2).asI, (w23 ++ [[.i (o198.t 0).asI, .i (o198.t 1).asI, .i (o198.t 2).asI, .i (o198.t 3).asI, .r (o198.t 4).asR, .i (o200.t 1).asI, .i (o200.t 2).asI, .r (o200.t 3).asR]]), (o200.t 0).asR)
 else
  bif (decide ((w23.length : Int) > 0)) then
   bindO (evalF E P0 k N.spec_l1Once [.p [.r w22, .i v23, .i v24], .v [.i 4]]) fun o202 =>
   spec_l18Log_J1 k o2 o6 w23 ((o202.vt 0 0).asR) ((o202.vt 0 1).asI) ((o202.vt 0 2).asI) ((o202.t 0).asB)
  else
   spec_l18Log_J1 k o2 o6 w23 w22 v23 v24 false
def spec_l18Log_k1 : List Nat := [0, 2, 3, 4, 5, 6, 7, 8, 9, 13, 47, 48, 49, 50, 51, 52, 53, 54, 55, 56, 57, 58, 59, 60, 61, 62, 63, 64, 65, 66, 67, 68, 69, 70, 71, 72, 73, 74, 75, 76, 77, 78, 79, 80, 81, 82, 83, 84, 85, 86, 87, 88, 89, 90, 91, 92, 93, 94, 95, 96, 97, 98]
def spec_l18Log_S1 (o2 : Outs) (o6 : Outs) : (Int × List (List T) × Int × Int × List (List T) × List (List T)) → St := fun (v22, w22, v23, v24, w23, w24) => ⟨ofSl [(0, .ptr (0, 0) 0), (2, .ptr (2, 0) 0), (3, .ref (3, 0)), (4, .ref (4, 0)), (5, .ptr (5, 0) 0), (6, .ref (6, 0)), (7, .ref (7, 0)), (8, .ref (8, 0)), (9, .i .i64 v22), (13, .skip), (47, .skip), (48, .skip), (49, .skip), (50, .skip), (51, .skip), (52, .skip), (53, .skip), (54, .skip), (55, .skip), (56, .skip), (57, .skip), (58, .skip), (59, .skip), (60, .skip), (61, .skip), (62, .skip), (63, .skip), (64, .skip), (65, .skip), (66, .skip), (67, .skip), (68, .skip), (69, .skip), (70, .skip), (71, .skip), (72, .skip), (73, .skip), (74, .skip), (75, .skip), (76, .skip), (77, .skip), (78, .skip), (79, .skip), (80, .skip), (81, .skip), (82, .skip), (83, .skip), (84, .skip), (85, .skip), (86, .skip), (87, .skip), (88, .skip), (89, .skip), (90, .skip), (91, .skip), (92, .skip), (93, .skip), (94, .skip), (95, .skip), (96, .skip), (97, .skip), (98, .skip)], Mem.put (ofMem [((0, 0), .var [.sl 5 w22, .i .i64 v23, .i .i64 v24]), ((2, 0), .var [.i .i64 0, .i .i64 0]), ((3, 0), .row 3 true []), ((4, 0), .deep 63 [] none), ((5, 0), .var [.i .i64 (o2.t 0).asI, .i .i64 (o2.t 1).asI]), ((6, 0), .row 3 true (o6.t 0).asR), ((7, 0), .deep 63 w23 none), ((8, 0), .row 3 true w24)]) modeNm .dead⟩
def spec_l18Log_l1 (k : Nat) (o2 : Outs) (o6 : Outs) (G1 : (Int × List (List T) × Int × Int × List (List T) × List (List T)) → Option Outs) : (Int × List (List T) × Int × Int × List (List T) × List (List T)) → Option Outs :=
  spec_l18Log_L1 k o2 o6 G1
def spec_l18Log_U (k : Nat) (a0_0 : List (List T)) (a0_1 : Int) (a0_2 : Int) (R1 : Outs → Outs → (Int × List (List T) × Int × Int × List (List T) × List (List T)) → Option Outs) : Option Outs :=
 bindO (evalF E P0 k N.spec_l6Geo [.p [.r a0_0, .i a0_1, .i a0_2]]) fun o2 =>
 bindO (evalF E P0 k N.spec_Blocks [.v [.i (o2.t 0).asI, .i (o2.t 1).asI]]) fun o5 =>
 bindO (evalF E P0 k N.spec_l7Some [.p [.r (o2.vt 0 0).asR, .i (o2.vt 0 1).asI, .i (o2.vt 0 2).asI], .v [.i (o5.t 0).asI]]) fun o6 =>
 chk (decide ((([] : List (List T)).length + (o6.t 0).asR.length) * 8 ≤ 140737488355328)) <|
 bindO (evalF E P0 k N.spec_l1Below [.p [.r (o6.vt 0 0).asR, .i (o6.vt 0 1).asI, .i (o6.vt 0 2).asI], .v [.i 8]]) fun o8 =>
 R1 o2 o6 ((o8.t 0).asI, (o8.vt 0 0).asR, (o8.vt 0 1).asI, (o8.vt 0 2).asI, [], (([] : List (List T)) ++ (o6.t 0).asR))
def spec_l18Log_u (k : Nat) (a0_0 : List (List T)) (a0_1 : Int) (a0_2 : Int) : Option Outs :=
  spec_l18Log_U k a0_0 a0_1 a0_2 (fun y0 y1 v => fixN (spec_l18Log_l1 k y0 y1) k v)
def spec_l18Log_it1 (k : Nat) (a0_0 : List (List T)) (a0_1 : Int) (a0_2 : Int) (js : List Nat) (j : Nat) (s : St) : Option Outs := iter E (LB E (evalF E P0 k) k [0] N.spec_l18Log [.sr, .sr, .sr, .sr, .sr, .sl, .sr, .bl]) [0] spec_l18Log_k1 (LK E (evalF E P0 k) k [0] N.spec_l18Log [.p [.r a0_0, .i a0_1, .i a0_2]] [.sr, .sr, .sr, .sr, .sr, .sl, .sr, .bl] js) j s
theorem spec_l18Log_e (k : Nat) (a0_0 : List (List T)) (a0_1 : Int) (a0_2 : Int) : evalF E P0 (k + 1) N.spec_l18Log [.p [.r a0_0, .i a0_1, .i a0_2]] = spec_l18Log_u k a0_0 a0_1 a0_2 := by
  have e0 : evalF E P0 (k + 1) N.spec_l18Log [.p [.r a0_0, .i a0_1, .i a0_2]] = spec_l18Log_U k a0_0 a0_1 a0_2 (fun y0 y1 v => spec_l18Log_it1 k a0_0 a0_1 a0_2 [] k (spec_l18Log_S1 y0 y1 v)) := by kernel_rfl
  have e1 : ∀ (o2 : Outs) (o6 : Outs) (j1 : Nat) (v : Int × List (List T) × Int × Int × List (List T) × List (List T)), spec_l18Log_it1 k a0_0 a0_1 a0_2 [] (j1 + 1) (spec_l18Log_S1 o2 o6 v) = spec_l18Log_L1 k o2 o6 (fun v => spec_l18Log_it1 k a0_0 a0_1 a0_2 [] j1 (spec_l18Log_S1 o2 o6 v)) v := by
    intro o2 o6 j1 v; kernel_rfl
  have i1 : ∀ (o2 : Outs) (o6 : Outs) (j1 : Nat) (v : Int × List (List T) × Int × Int × List (List T) × List (List T)), spec_l18Log_it1 k a0_0 a0_1 a0_2 [] j1 (spec_l18Log_S1 o2 o6 v) = fixN (spec_l18Log_l1 k o2 o6) j1 v := by
    intro o2 o6 j1 v
    refine iter_fix (spec_l18Log_S1 o2 o6) (spec_l18Log_l1 k o2 o6) (fun j1 v => (e1 o2 o6 j1 v).trans ?_) j1 v
    unfold spec_l18Log_l1
    rfl
  rw [e0]; unfold spec_l18Log_u
  simp only [i1]
/- spec.DrawSureOf -/
def spec_DrawSureOf_u (k : Nat) (a0 : List (List T)) : Option Outs :=
 bindO (evalF E P0 k N.spec_l1New [.v [.r a0]]) fun o2 =>
 bindO (evalF E P0 k N.spec_l18Log [.p [.r (((o2.t 0).asR.headD []).getD 0 (.i 0)).asR, .i (((o2.t 0).asR.headD []).getD 1 (.i 0)).asI, .i (((o2.t 0).asR.headD []).getD 2 (.i 0)).asI]]) fun o4 =>
 bindO (evalF E P0 k N.spec_l1Below [.p [.r (o4.vt 0 0).asR, .i (o4.vt 0 1).asI, .i (o4.vt 0 2).asI], .v [.i 6]]) fun o6 =>
 some ⟨[.r (o4.t 3).asR, .i (o6.t 0).asI], []⟩
theorem spec_DrawSureOf_e (k : Nat) (a0 : List (List T)) : evalF E P0 (k + 1) N.spec_DrawSureOf [.v [.r a0]] = spec_DrawSureOf_u k a0 := by kernel_rfl
/- impl.Writes -/
def impl_Writes_u (k : Nat) (a0_0 : Int) (a0_1 : Int) (a0_2 : Int) (a0_3 : Int) (a0_4 : List (List T)) (a1 : Int) : Option Outs :=
 bif (a0_0 != 1) then
  bif (decide (a1 ≥ a0_2)) then
   bindO (evalF E P0 k N.impl_runOf [.v [.i a0_0, .i a0_1, .i a0_2, .i a0_3, .r a0_4]]) fun o2 =>
   some ⟨[.b (decide ((IntKind.wrap .u64 ((IntKind.wrap .u64 a1) - (IntKind.wrap .u64 a0_2))) < (IntKind.wrap .u64 (if 0 > (o2.t 0).asI then 0 else (o2.t 0).asI))))], []⟩
  else
   some ⟨[.b false], []⟩
 else
  some ⟨[.b false], []⟩
theorem impl_Writes_e (k : Nat) (a0_0 : Int) (a0_1 : Int) (a0_2 : Int) (a0_3 : Int) (a0_4 : List (List T)) (a1 : Int) : evalF E P0 (k + 1) N.impl_Writes [.v [.i a0_0, .i a0_1, .i a0_2, .i a0_3, .r a0_4], .v [.i a1]] = impl_Writes_u k a0_0 a0_1 a0_2 a0_3 a0_4 a1 := by kernel_rfl
/- impl.SureOf -/
def impl_SureOf_J1 (k : Nat) (a0 : List (List T)) (d8 : Bool) (v8 : Int) (G1 : (Bool × Int) → Option Outs) (c72 : Bool) : Option Outs :=
 bif c72 then
  some ⟨[.i v8], []⟩
 else
  bif d8 then
   G1 (true, (IntKind.wrap .i64 (v8 - 1)))
  else
   G1 (((at_ a0 v8.toNat 0).asI == 4), (IntKind.wrap .i64 (v8 - 1)))
def impl_SureOf_L1 (k : Nat) (a0 : List (List T)) (a1 : Int) (G1 : (Bool × Int) → Option Outs) : (Bool × Int) → Option Outs := fun (d8, v8) =>
 bif (decide (v8 ≥ 0)) then
  chk (decide (0 ≤ v8) && decide (v8 < (a0.length : Int))) <|
  bif ((at_ a0 v8.toNat 6).asI != 0) then
   G1 (d8, (IntKind.wrap .i64 (v8 - 1)))
  else
   bindO (evalF E P0 k N.impl_Writes [.v [.i (at_ a0 v8.toNat 0).asI, .i (at_ a0 v8.toNat 1).asI, .i (at_ a0 v8.toNat 2).asI, .i (at_ a0 v8.toNat 3).asI, .r (at_ a0 v8.toNat 4).asR], .v [.i a1]]) fun o96 =>
   bif (o96.t 0).asB then
    bif d8 then impl_SureOf_J1 k a0 d8 v8 G1 true else impl_SureOf_J1 k a0 d8 v8 G1 ((at_ a0 v8.toNat 0).asI == 3)
   else
    impl_SureOf_J1 k a0 d8 v8 G1 false
 else
  some ⟨[.i (-1)], []⟩
def impl_SureOf_k1 : List Nat := [0, 1, 4, 5, 6]
def impl_SureOf_S1 (a0 : List (List T)) (a1 : Int) : (Bool × Int) → St := fun (d8, v8) => ⟨ofSl [(0, .sl 63 a0), (1, .i .i64 a1), (4, .i .i64 0), (5, .b d8), (6, .i .i64 v8)], ofMem []⟩
def impl_SureOf_l1 (k : Nat) (a0 : List (List T)) (a1 : Int) (G1 : (Bool × Int) → Option Outs) : (Bool × Int) → Option Outs :=
  impl_SureOf_L1 k a0 a1 G1
def impl_SureOf_U (k : Nat) (a0 : List (List T)) (a1 : Int) (R1 : (Bool × Int) → Option Outs) : Option Outs :=
 R1 (false, (IntKind.wrap .i64 ((a0.length : Int) - 1)))
def impl_SureOf_u (k : Nat) (a0 : List (List T)) (a1 : Int) : Option Outs :=
  impl_SureOf_U k a0 a1 (fun v => fixN (impl_SureOf_l1 k a0 a1) k v)
def impl_SureOf_it1 (k : Nat) (a0 : List (List T)) (a1 : Int) (js : List Nat) (j : Nat) (s : St) : Option Outs := iter E (LB E (evalF E P0 k) k [] N.impl_SureOf [.sr, .sr, .sl, .sr, .bl]) [] impl_SureOf_k1 (LK E (evalF E P0 k) k [] N.impl_SureOf [.v [.r a0], .v [.i a1]] [.sr, .sr, .sl, .sr, .bl] js) j s
theorem impl_SureOf_e (k : Nat) (a0 : List (List T)) (a1 : Int) : evalF E P0 (k + 1) N.impl_SureOf [.v [.r a0], .v [.i a1]] = impl_SureOf_u k a0 a1 := by
  have e0 : evalF E P0 (k + 1) N.impl_SureOf [.v [.r a0], .v [.i a1]] = impl_SureOf_U k a0 a1 (fun v => impl_SureOf_it1 k a0 a1 [] k (impl_SureOf_S1 a0 a1 v)) := by kernel_rfl
  have e1 : ∀ (j1 : Nat) (v : Bool × Int), impl_SureOf_it1 k a0 a1 [] (j1 + 1) (impl_SureOf_S1 a0 a1 v) = impl_SureOf_L1 k a0 a1 (fun v => impl_SureOf_it1 k a0 a1 [] j1 (impl_SureOf_S1 a0 a1 v)) v := by
    intro j1 v; kernel_rfl
  have i1 : ∀ (j1 : Nat) (v : Bool × Int), impl_SureOf_it1 k a0 a1 [] j1 (impl_SureOf_S1 a0 a1 v) = fixN (impl_SureOf_l1 k a0 a1) j1 v := by
    intro j1 v
    refine iter_fix (impl_SureOf_S1 a0 a1) (impl_SureOf_l1 k a0 a1) (fun j1 v => (e1 j1 v).trans ?_) j1 v
    unfold impl_SureOf_l1
    rfl
  rw [e0]; unfold impl_SureOf_u
  simp only [i1]
/- spec.Writes -/
def spec_Writes_J1 (k : Nat) (a0_0 : Int) (a0_1 : Int) (a0_2 : Int) (a0_3 : Int) (a0_4 : List (List T)) (a1 : Int) (c7 : Bool) : Option Outs :=
 bif c7 then
  bif (decide (a1 ≥ a0_2)) then
   bif (decide ((IntKind.wrap .i64 (a1 - a0_2)) ≥ 0)) then
    bindO (evalF E P0 k N.spec_l13Len [.v [.i a0_0, .i a0_1, .i a0_2, .i a0_3, .r a0_4]]) fun o8 =>
    some ⟨[.b (decide ((IntKind.wrap .i64 (a1 - a0_2)) < (o8.t 0).asI))], []⟩
   else
    some ⟨[.b false], []⟩
  else
   some ⟨[.b false], []⟩
 else
  some ⟨[.b false], []⟩
def spec_Writes_u (k : Nat) (a0_0 : Int) (a0_1 : Int) (a0_2 : Int) (a0_3 : Int) (a0_4 : List (List T)) (a1 : Int) : Option Outs :=
 bif (a0_0 == 2) then
  spec_Writes_J1 k a0_0 a0_1 a0_2 a0_3 a0_4 a1 true
 else
  bif (a0_0 == 3) then
   spec_Writes_J1 k a0_0 a0_1 a0_2 a0_3 a0_4 a1 true
  else
   bif (a0_0 == 6) then
    spec_Writes_J1 k a0_0 a0_1 a0_2 a0_3 a0_4 a1 true
   else
    spec_Writes_J1 k a0_0 a0_1 a0_2 a0_3 a0_4 a1 (a0_0 == 5)
theorem spec_Writes_e (k : Nat) (a0_0 : Int) (a0_1 : Int) (a0_2 : Int) (a0_3 : Int) (a0_4 : List (List T)) (a1 : Int) : evalF E P0 (k + 1) N.spec_Writes [.v [.i a0_0, .i a0_1, .i a0_2, .i a0_3, .r a0_4], .v [.i a1]] = spec_Writes_u k a0_0 a0_1 a0_2 a0_3 a0_4 a1 := by kernel_rfl
/- spec.WordOf -/
def spec_WordOf_J1 (k : Nat) (a0_0 : Int) (a0_2 : Int) (a0_4 : List (List T)) (a1 : Int) (c4 : Bool) : Option Outs :=
 bif c4 then
  chk (decide (0 ≤ (IntKind.wrap .i64 (a1 - a0_2))) && decide ((IntKind.wrap .i64 (a1 - a0_2)) < (a0_4.length : Int))) <|
  some ⟨[.i (at_ a0_4 (IntKind.wrap .i64 (a1 - a0_2)).toNat 0).asI], []⟩
 else
  bif (a0_0 == 5) then
   bif ((a0_4.length : Int) == 2) then
    chk (decide ((1 : Int) < (a0_4.length : Int))) <|
    some ⟨[.i (at_ a0_4 1 0).asI], []⟩
   else
    some ⟨[.i 0], []⟩
  else
   some ⟨[.i 0], []⟩
def spec_WordOf_u (k : Nat) (a0_0 : Int) (a0_1 : Int) (a0_2 : Int) (a0_3 : Int) (a0_4 : List (List T)) (a1 : Int) : Option Outs :=
 bindO (evalF E P0 k N.spec_Writes [.v [.i a0_0, .i a0_1, .i a0_2, .i a0_3, .r a0_4], .v [.i a1]]) fun o2 =>
 bif (!(o2.t 0).asB) then
  some ⟨[.i 0], []⟩
 else
  bif (a0_0 == 2) then spec_WordOf_J1 k a0_0 a0_2 a0_4 a1 true else spec_WordOf_J1 k a0_0 a0_2 a0_4 a1 (a0_0 == 3)
theorem spec_WordOf_e (k : Nat) (a0_0 : Int) (a0_1 : Int) (a0_2 : Int) (a0_3 : Int) (a0_4 : List (List T)) (a1 : Int) : evalF E P0 (k + 1) N.spec_WordOf [.v [.i a0_0, .i a0_1, .i a0_2, .i a0_3, .r a0_4], .v [.i a1]] = spec_WordOf_u k a0_0 a0_1 a0_2 a0_3 a0_4 a1 := by kernel_rfl
/- spec.DrawMayBe -/
def spec_DrawMayBe_J1 (k : Nat) (o4 : Outs) (o6 : Outs) (l1 : List (List T)) (x1 : Int) (x2 : Int) (c1 : Bool) : Option Outs :=
 bif c1 then
  bindO (evalF E P0 k N.spec_l1Below [.p [.r l1, .i x1, .i x2], .v [.i ((o4.t 3).asR.length : Int)]]) fun o11 =>
  chk (decide (0 ≤ (o11.t 0).asI) && decide ((o11.t 0).asI < ((o4.t 3).asR.length : Int))) <|
  bindO (evalF E P0 k N.spec_WordOf [.v [.i (at_ (o4.t 3).asR (o11.t 0).asI.toNat 0).asI, .i (at_ (o4.t 3).asR (o11.t 0).asI.toNat 1).asI, .i (at_ (o4.t 3).asR (o11.t 0).asI.toNat 2).asI, .i (at_ (o4.t 3).asR (o11.t 0).asI.toNat 3).asI, .r (at_ (o4.t 3).asR (o11.t 0).asI.toNat 4).asR], .v [.i (o6.t 0).asI]]) fun o12 =>
  chk (decide (0 ≤ (o6.t 0).asI) && decide ((o6.t 0).asI < ((o4.t 2).asR.length : Int))) <|
  some ⟨[.i (at_ (o4.t 2).asR (o6.t 0).asI.toNat 0).asI, .r (o4.t 3).asR, .i (o6.t 0).asI, .i (o12.t 0).asI], []⟩
 else
  chk (decide (0 ≤ (o6.t 0).asI) && decide ((o6.t 0).asI < ((o4.t 2).asR.length : Int))) <|
  some ⟨[.i (at_ (o4.t 2).asR (o6.t 0).asI.toNat 0).asI, .r (o4.t 3).asR, .i (o6.t 0).asI, .i (at_ (o4.t 2).asR (o6.t 0).asI.toNat 0).asI], []⟩
def spec_DrawMayBe_u (k : Nat) (a0 : List (List T)) : Option Outs :=
 bindO (evalF E P0 k N.spec_l1New [.v [.r a0]]) fun o2 =>
 bindO (evalF E P0 k N.spec_l18Log [.p [.r (((o2.t 0).asR.headD []).getD 0 (.i 0)).asR, .i (((o2.t 0).asR.headD []).getD 1 (.i 0)).asI, .i (((o2.t 0).asR.headD []).getD 2 (.i 0)).asI]]) fun o4 =>
 bindO (evalF E P0 k N.spec_l1Below [.p [.r (o4.vt 0 0).asR, .i (o4.vt 0 1).asI, .i (o4.vt 0 2).asI], .v [.i ((o4.t 2).asR.length : Int)]]) fun o6 =>
 chk (decide (0 ≤ (o6.t 0).asI) && decide ((o6.t 0).asI < ((o4.t 2).asR.length : Int))) <|
 bif (decide (((o4.t 3).asR.length : Int) > 0)) then
  bindO (evalF E P0 k N.spec_l1Once [.p [.r (o6.vt 0 0).asR, .i (o6.vt 0 1).asI, .i (o6.vt 0 2).asI], .v [.i 2]]) fun o8 =>
  spec_DrawMayBe_J1 k o4 o6 ((o8.vt 0 0).asR) ((o8.vt 0 1).asI) ((o8.vt 0 2).asI) ((o8.t 0).asB)
 else
  spec_DrawMayBe_J1 k o4 o6 ((o6.vt 0 0).asR) ((o6.vt 0 1).asI) ((o6.vt 0 2).asI) false
theorem spec_DrawMayBe_e (k : Nat) (a0 : List (List T)) : evalF E P0 (k + 1) N.spec_DrawMayBe [.v [.r a0]] = spec_DrawMayBe_u k a0 := by kernel_rfl
/- spec.l3Geo -/
def spec_l3Geo_u (k : Nat) (a0_0 : List (List T)) (a0_1 : Int) (a0_2 : Int) : Option Outs :=
 bindO (evalF E P0 k N.spec_l1Below [.p [.r a0_0, .i a0_1, .i a0_2], .v [.i 3]]) fun o3 =>
 bindO (evalF E P0 k N.spec_l1Below [.p [.r (o3.vt 0 0).asR, .i (o3.vt 0 1).asI, .i (o3.vt 0 2).asI], .v [.i 8]]) fun o4 =>
 some ⟨[.i (IntKind.wrap .i64 (3 + (o3.t 0).asI)), .i (IntKind.wrap .i64 (1 + (o4.t 0).asI))], [[.r (o4.vt 0 0).asR, .i (o4.vt 0 1).asI, .i (o4.vt 0 2).asI]]⟩
theorem spec_l3Geo_e (k : Nat) (a0_0 : List (List T)) (a0_1 : Int) (a0_2 : Int) : evalF E P0 (k + 1) N.spec_l3Geo [.p [.r a0_0, .i a0_1, .i a0_2]] = spec_l3Geo_u k a0_0 a0_1 a0_2 := by kernel_rfl
/- spec.DrawWrites -/
def spec_DrawWrites_u (k : Nat) (a0 : List (List T)) : Option Outs :=
 bindO (evalF E P0 k N.spec_l1New [.v [.r a0]]) fun o2 =>
 bindO (evalF E P0 k N.spec_l3Geo [.p [.r (((o2.t 0).asR.headD []).getD 0 (.i 0)).asR, .i (((o2.t 0).asR.headD []).getD 1 (.i 0)).asI, .i (((o2.t 0).asR.headD []).getD 2 (.i 0)).asI]]) fun o4 =>
 bindO (evalF E P0 k N.spec_l13Any [.p [.r (o4.vt 0 0).asR, .i (o4.vt 0 1).asI, .i (o4.vt 0 2).asI], .v [.i (o4.t 0).asI, .i (o4.t 1).asI]]) fun o6 =>
 bindO (evalF E P0 k N.spec_l1Int [.p [.r (o6.vt 0 0).asR, .i (o6.vt 0 1).asI, .i (o6.vt 0 2).asI], .v [.r [[.i (o6.t 2).asI], [.i (o6.t 2).asI], [.i 0], [.i 1], [.i 3], [.i (-1)]]]]) fun o8 =>
 some ⟨[.i (o6.t 0).asI, .i (o6.t 1).asI, .i (o6.t 2).asI, .i (o6.t 3).asI, .r (o6.t 4).asR, .i (o8.t 0).asI], []⟩
theorem spec_DrawWrites_e (k : Nat) (a0 : List (List T)) : evalF E P0 (k + 1) N.spec_DrawWrites [.v [.r a0]] = spec_DrawWrites_u k a0 := by kernel_rfl
/- spec.l19Flushed -/
def spec_l19Flushed_L1 (k : Nat) (a0 : List (List T)) (G1 : (Int) → Option Outs) : (Int) → Option Outs := fun v8 =>
 bif (decide (v8 < (a0.length : Int))) then
  chk (decide (0 ≤ v8) && decide (v8 < (a0.length : Int))) <|
  bif ((at_ a0 v8.toNat 0).asI == 4) then
   chk (decide (0 ≤ v8) && decide (v8 < (a0.length : Int))) <|
   bif ((at_ a0 v8.toNat 6).asI == 0) then some ⟨[.b true], []⟩ else G1 (IntKind.wrap .i64 (v8 + 1))
  else
   G1 (IntKind.wrap .i64 (v8 + 1))
 else
  some ⟨[.b false], []⟩
def spec_l19Flushed_k1 : List Nat := [0, 4, 5]
def spec_l19Flushed_S1 (a0 : List (List T)) : (Int) → St := fun v8 => ⟨ofSl [(0, .sl 63 a0), (4, .b false), (5, .i .i64 v8)], ofMem []⟩
def spec_l19Flushed_l1 (k : Nat) (a0 : List (List T)) (G1 : (Int) → Option Outs) : (Int) → Option Outs :=
  spec_l19Flushed_L1 k a0 G1
def spec_l19Flushed_U (k : Nat) (a0 : List (List T)) (a1 : Int) (R1 : (Int) → Option Outs) : Option Outs :=
 R1 (IntKind.wrap .i64 (a1 + 1))
def spec_l19Flushed_u (k : Nat) (a0 : List (List T)) (a1 : Int) : Option Outs :=
  spec_l19Flushed_U k a0 a1 (fun v => fixN (spec_l19Flushed_l1 k a0) k v)
def spec_l19Flushed_it1 (k : Nat) (a0 : List (List T)) (a1 : Int) (js : List Nat) (j : Nat) (s : St) : Option Outs := iter E (LB E (evalF E P0 k) k [] N.spec_l19Flushed [.sr, .sl, .sr, .bl]) [] spec_l19Flushed_k1 (LK E (evalF E P0 k) k [] N.spec_l19Flushed [.v [.r a0], .v [.i a1]] [.sr, .sl, .sr, .bl] js) j s
theorem spec_l19Flushed_e (k : Nat) (a0 : List (List T)) (a1 : Int) : evalF E P0 (k + 1) N.spec_l19Flushed [.v [.r a0], .v [.i a1]] = spec_l19Flushed_u k a0 a1 := by
  have e0 : evalF E P0 (k + 1) N.spec_l19Flushed [.v [.r a0], .v [.i a1]] = spec_l19Flushed_U k a0 a1 (fun v => spec_l19Flushed_it1 k a0 a1 [] k (spec_l19Flushed_S1 a0 v)) := by kernel_rfl
  have e1 : ∀ (j1 : Nat) (v : Int), spec_l19Flushed_it1 k a0 a1 [] (j1 + 1) (spec_l19Flushed_S1 a0 v) = spec_l19Flushed_L1 k a0 (fun v => spec_l19Flushed_it1 k a0 a1 [] j1 (spec_l19Flushed_S1 a0 v)) v := by
    intro j1 v; kernel_rfl
  have i1 : ∀ (j1 : Nat) (v : Int), spec_l19Flushed_it1 k a0 a1 [] j1 (spec_l19Flushed_S1 a0 v) = fixN (spec_l19Flushed_l1 k a0) j1 v := by
    intro j1 v
    refine iter_fix (spec_l19Flushed_S1 a0) (spec_l19Flushed_l1 k a0) (fun j1 v => (e1 j1 v).trans ?_) j1 v
    unfold spec_l19Flushed_l1
    rfl
  rw [e0]; unfold spec_l19Flushed_u
  simp only [i1]
/- spec.SureOf -/
def spec_SureOf_L1 (k : Nat) (a0 : List (List T)) (a1 : Int) (G1 : (Int) → Option Outs) : (Int) → Option Outs := fun v8 =>
 bif (decide (v8 ≥ 0)) then
  chk (decide (0 ≤ v8) && decide (v8 < (a0.length : Int))) <|
  bif ((at_ a0 v8.toNat 6).asI == 0) then
   chk (decide (0 ≤ v8) && decide (v8 < (a0.length : Int))) <|
   bindO (evalF E P0 k N.spec_Writes [.v [.i (at_ a0 v8.toNat 0).asI, .i (at_ a0 v8.toNat 1).asI, .i (at_ a0 v8.toNat 2).asI, .i (at_ a0 v8.toNat 3).asI, .r (at_ a0 v8.toNat 4).asR], .v [.i a1]]) fun o191 =>
   bif (o191.t 0).asB then
    chk (decide (0 ≤ v8) && decide (v8 < (a0.length : Int))) <|
    bif ((at_ a0 v8.toNat 0).asI == 3) then
     some ⟨[.i v8], []⟩
    else
     bindO (evalF E P0 k N.spec_l19Flushed [.v [.r a0], .v [.i v8]]) fun o192 =>
     bif (o192.t 0).asB then some ⟨[.i v8], []⟩ else G1 (IntKind.wrap .i64 (v8 - 1))
   else
    G1 (IntKind.wrap .i64 (v8 - 1))
  else
   G1 (IntKind.wrap .i64 (v8 - 1))
 else
  some ⟨[.i (-1)], []⟩
def spec_SureOf_k1 : List Nat := [0, 1, 4, 5]
def spec_SureOf_S1 (a0 : List (List T)) (a1 : Int) : (Int) → St := fun v8 => ⟨ofSl [(0, .sl 63 a0), (1, .i .i64 a1), (4, .i .i64 0), (5, .i .i64 v8)], ofMem []⟩
def spec_SureOf_l1 (k : Nat) (a0 : List (List T)) (a1 : Int) (G1 : (Int) → Option Outs) : (Int) → Option Outs :=
  spec_SureOf_L1 k a0 a1 G1
def spec_SureOf_U (k : Nat) (a0 : List (List T)) (a1 : Int) (R1 : (Int) → Option Outs) : Option Outs :=
 R1 (IntKind.wrap .i64 ((a0.length : Int) - 1))
def spec_SureOf_u (k : Nat) (a0 : List (List T)) (a1 : Int) : Option Outs :=
  spec_SureOf_U k a0 a1 (fun v => fixN (spec_SureOf_l1 k a0 a1) k v)
def spec_SureOf_it1 (k : Nat) (a0 : List (List T)) (a1 : Int) (js : List Nat) (j : Nat) (s : St) : Option Outs := iter E (LB E (evalF E P0 k) k [] N.spec_SureOf [.sr, .sl, .sr, .bl]) [] spec_SureOf_k1 (LK E (evalF E P0 k) k [] N.spec_SureOf [.v [.r a0], .v [.i a1]] [.sr, .sl, .sr, .bl] js) j s
theorem spec_SureOf_e (k : Nat) (a0 : List (List T)) (a1 : Int) : evalF E P0 (k + 1) N.spec_SureOf [.v [.r a0], .v [.i a1]] = spec_SureOf_u k a0 a1 := by
  have e0 : evalF E P0 (k + 1) N.spec_SureOf [.v [.r a0], .v [.i a1]] = spec_SureOf_U k a0 a1 (fun v => spec_SureOf_it1 k a0 a1 [] k (spec_SureOf_S1 a0 a1 v)) := by kernel_rfl
  have e1 : ∀ (j1 : Nat) (v : Int), spec_SureOf_it1 k a0 a1 [] (j1 + 1) (spec_SureOf_S1 a0 a1 v) = spec_SureOf_L1 k a0 a1 (fun v => spec_SureOf_it1 k a0 a1 [] j1 (spec_SureOf_S1 a0 a1 v)) v := by
    intro j1 v; kernel_rfl
  have i1 : ∀ (j1 : Nat) (v : Int), spec_SureOf_it1 k a0 a1 [] j1 (spec_SureOf_S1 a0 a1 v) = fixN (spec_SureOf_l1 k a0 a1) j1 v := by
    intro j1 v
    refine iter_fix (spec_SureOf_S1 a0 a1) (spec_SureOf_l1 k a0 a1) (fun j1 v => (e1 j1 v).trans ?_) j1 v
    unfold spec_SureOf_l1
    rfl
  rw [e0]; unfold spec_SureOf_u
  simp only [i1]
/- impl.WordOf -/
def impl_WordOf_J1 (k : Nat) (a0_0 : Int) (a0_2 : Int) (a0_4 : List (List T)) (a1 : Int) (c4 : Bool) : Option Outs :=
 bif c4 then
  chk (decide (0 ≤ (IntKind.wrap .i64 (a1 - a0_2))) && decide ((IntKind.wrap .i64 (a1 - a0_2)) < (a0_4.length : Int))) <|
  some ⟨[.i (at_ a0_4 (IntKind.wrap .i64 (a1 - a0_2)).toNat 0).asI], []⟩
 else
  bif (a0_0 == 5) then
   bif ((a0_4.length : Int) == 2) then
    chk (decide ((1 : Int) < (a0_4.length : Int))) <|
    some ⟨[.i (at_ a0_4 1 0).asI], []⟩
   else
    some ⟨[.i 0], []⟩
  else
   some ⟨[.i 0], []⟩
def impl_WordOf_u (k : Nat) (a0_0 : Int) (a0_1 : Int) (a0_2 : Int) (a0_3 : Int) (a0_4 : List (List T)) (a1 : Int) : Option Outs :=
 bindO (evalF E P0 k N.impl_Writes [.v [.i a0_0, .i a0_1, .i a0_2, .i a0_3, .r a0_4], .v [.i a1]]) fun o2 =>
 bif (!(o2.t 0).asB) then
  some ⟨[.i 0], []⟩
 else
  bif (a0_0 == 2) then impl_WordOf_J1 k a0_0 a0_2 a0_4 a1 true else impl_WordOf_J1 k a0_0 a0_2 a0_4 a1 (a0_0 == 3)
theorem impl_WordOf_e (k : Nat) (a0_0 : Int) (a0_1 : Int) (a0_2 : Int) (a0_3 : Int) (a0_4 : List (List T)) (a1 : Int) : evalF E P0 (k + 1) N.impl_WordOf [.v [.i a0_0, .i a0_1, .i a0_2, .i a0_3, .r a0_4], .v [.i a1]] = impl_WordOf_u k a0_0 a0_1 a0_2 a0_3 a0_4 a1 := by kernel_rfl
/- impl.MayBe -/
def impl_MayBe_L1 (k : Nat) (a2 : Int) (a3 : Int) (p23 : List (List T)) (p24 : Int) (G1 : (Int) → Option Outs) : (Int) → Option Outs := fun v8 =>
 bif (decide (v8 < p24)) then
  chk (decide (0 ≤ v8) && decide (v8 < (p23.length : Int))) <|
  bindO (evalF E P0 k N.impl_Writes [.v [.i (at_ p23 v8.toNat 0).asI, .i (at_ p23 v8.toNat 1).asI, .i (at_ p23 v8.toNat 2).asI, .i (at_ p23 v8.toNat 3).asI, .r (at_ p23 v8.toNat 4).asR], .v [.i a2]]) fun o288 =>
  bif (o288.t 0).asB then
   bindO (evalF E P0 k N.impl_WordOf [.v [.i (at_ p23 v8.toNat 0).asI, .i (at_ p23 v8.toNat 1).asI, .i (at_ p23 v8.toNat 2).asI, .i (at_ p23 v8.toNat 3).asI, .r (at_ p23 v8.toNat 4).asR], .v [.i a2]]) fun o289 =>
   bif ((o289.t 0).asI == a3) then
    bindO (evalF E P0 k N.impl_within [.v [.i (at_ p23 v8.toNat 6).asI], .v [.i 1], .v [.i 4]]) fun o290 =>
    bif (!(o290.t 0).asB) then some ⟨[.b true], []⟩ else G1 (IntKind.wrap .i64 (v8 + 1))
   else
    G1 (IntKind.wrap .i64 (v8 + 1))
  else
   G1 (IntKind.wrap .i64 (v8 + 1))
 else
  some ⟨[.b false], []⟩
def impl_MayBe_k1 : List Nat := [2, 3, 8, 25, 26, 27]
def impl_MayBe_S1 (a2 : Int) (a3 : Int) (p23 : List (List T)) (p24 : Int) : (Int) → St := fun v8 => ⟨ofSl [(2, .i .i64 a2), (3, .i .i64 a3), (8, .b false), (25, .sl 63 p23), (26, .i .i64 p24), (27, .i .i64 v8)], ofMem []⟩
def impl_MayBe_J1 (k : Nat) (a1 : List (List T)) (o2 : Outs) (R1 : List (List T) → Int → (Int) → Option Outs) (c1 : Bool) : Option Outs :=
 bif c1 then
  some ⟨[.b true], []⟩
 else
  chk (decide (0 ≤ (if 0 > (o2.t 0).asI then 0 else (o2.t 0).asI)) && decide ((if 0 > (o2.t 0).asI then 0 else (o2.t 0).asI) ≤ (a1.length : Int)) && decide ((a1.length : Int) ≤ (a1.length : Int))) <|
  R1 ((a1.drop (if 0 > (o2.t 0).asI then 0 else (o2.t 0).asI).toNat).take ((a1.length : Int).toNat - (if 0 > (o2.t 0).asI then 0 else (o2.t 0).asI).toNat)) (((a1.drop (if 0 > (o2.t 0).asI then 0 else (o2.t 0).asI).toNat).take ((a1.length : Int).toNat - (if 0 > (o2.t 0).asI then 0 else (o2.t 0).asI).toNat)).length : Int) 0
def impl_MayBe_l1 (k : Nat) (a2 : Int) (a3 : Int) (p23 : List (List T)) (p24 : Int) (G1 : (Int) → Option Outs) : (Int) → Option Outs :=
  impl_MayBe_L1 k a2 a3 p23 p24 G1
def impl_MayBe_U (k : Nat) (a0 : Int) (a1 : List (List T)) (a2 : Int) (a3 : Int) (R1 : List (List T) → Int → (Int) → Option Outs) : Option Outs :=
 bindO (evalF E P0 k N.impl_SureOf [.v [.r a1], .v [.i a2]]) fun o2 =>
 bif ((o2.t 0).asI == (-1)) then impl_MayBe_J1 k a1 o2 R1 (a3 == a0) else impl_MayBe_J1 k a1 o2 R1 false
def impl_MayBe_u (k : Nat) (a0 : Int) (a1 : List (List T)) (a2 : Int) (a3 : Int) : Option Outs :=
  impl_MayBe_U k a0 a1 a2 a3 (fun y0 y1 v => fixN (impl_MayBe_l1 k a2 a3 y0 y1) k v)
def impl_MayBe_it1 (k : Nat) (a0 : Int) (a1 : List (List T)) (a2 : Int) (a3 : Int) (js : List Nat) (j : Nat) (s : St) : Option Outs := iter E (LB E (evalF E P0 k) k [] N.impl_MayBe [.sr, .sr, .sr, .sl, .sr, .bl]) [] impl_MayBe_k1 (LK E (evalF E P0 k) k [] N.impl_MayBe [.v [.i a0], .v [.r a1], .v [.i a2], .v [.i a3]] [.sr, .sr, .sr, .sl, .sr, .bl] js) j s
theorem impl_MayBe_e (k : Nat) (a0 : Int) (a1 : List (List T)) (a2 : Int) (a3 : Int) : evalF E P0 (k + 1) N.impl_MayBe [.v [.i a0], .v [.r a1], .v [.i a2], .v [.i a3]] = impl_MayBe_u k a0 a1 a2 a3 := by
  have e0 : evalF E P0 (k + 1) N.impl_MayBe [.v [.i a0], .v [.r a1], .v [.i a2], .v [.i a3]] = impl_MayBe_U k a0 a1 a2 a3 (fun y0 y1 v => impl_MayBe_it1 k a0 a1 a2 a3 [] k (impl_MayBe_S1 a2 a3 y0 y1 v)) := by kernel_rfl
  have e1 : ∀ (p23 : List (List T)) (p24 : Int) (j1 : Nat) (v : Int), impl_MayBe_it1 k a0 a1 a2 a3 [] (j1 + 1) (impl_MayBe_S1 a2 a3 p23 p24 v) = impl_MayBe_L1 k a2 a3 p23 p24 (fun v => impl_MayBe_it1 k a0 a1 a2 a3 [] j1 (impl_MayBe_S1 a2 a3 p23 p24 v)) v := by
    intro p23 p24 j1 v; kernel_rfl
  have i1 : ∀ (p23 : List (List T)) (p24 : Int) (j1 : Nat) (v : Int), impl_MayBe_it1 k a0 a1 a2 a3 [] j1 (impl_MayBe_S1 a2 a3 p23 p24 v) = fixN (impl_MayBe_l1 k a2 a3 p23 p24) j1 v := by
    intro p23 p24 j1 v
    refine iter_fix (impl_MayBe_S1 a2 a3 p23 p24) (impl_MayBe_l1 k a2 a3 p23 p24) (fun j1 v => (e1 p23 p24 j1 v).trans ?_) j1 v
    unfold impl_MayBe_l1
    rfl
  rw [e0]; unfold impl_MayBe_u
  simp only [i1]
/- spec.MayBe -/
def spec_MayBe_L1 (k : Nat) (a1 : List (List T)) (a2 : Int) (a3 : Int) (G1 : (Int) → Option Outs) : (Int) → Option Outs := fun v8 =>
 bif (decide (v8 < (a1.length : Int))) then
  chk (decide (0 ≤ v8) && decide (v8 < (a1.length : Int))) <|
  chk (decide (0 ≤ v8) && decide (v8 < (a1.length : Int))) <|
  bindO (evalF E P0 k N.spec_Writes [.v [.i (at_ a1 v8.toNat 0).asI, .i (at_ a1 v8.toNat 1).asI, .i (at_ a1 v8.toNat 2).asI, .i (at_ a1 v8.toNat 3).asI, .r (at_ a1 v8.toNat 4).asR], .v [.i a2]]) fun o288 =>
  bif (o288.t 0).asB then
   chk (decide (0 ≤ v8) && decide (v8 < (a1.length : Int))) <|
   bindO (evalF E P0 k N.spec_WordOf [.v [.i (at_ a1 v8.toNat 0).asI, .i (at_ a1 v8.toNat 1).asI, .i (at_ a1 v8.toNat 2).asI, .i (at_ a1 v8.toNat 3).asI, .r (at_ a1 v8.toNat 4).asR], .v [.i a2]]) fun o289 =>
   bif ((o289.t 0).asI == a3) then
    bindO (evalF E P0 k N.spec_l1In [.v [.i (at_ a1 v8.toNat 6).asI], .v [.i 1], .v [.i 4]]) fun o290 =>
    bif (!(o290.t 0).asB) then some ⟨[.b true], []⟩ else G1 (IntKind.wrap .i64 (v8 + 1))
   else
    G1 (IntKind.wrap .i64 (v8 + 1))
  else
   G1 (IntKind.wrap .i64 (v8 + 1))
 else
  some ⟨[.b false], []⟩
def spec_MayBe_k1 : List Nat := [1, 2, 3, 8, 10]
def spec_MayBe_S1 (a1 : List (List T)) (a2 : Int) (a3 : Int) : (Int) → St := fun v8 => ⟨ofSl [(1, .sl 63 a1), (2, .i .i64 a2), (3, .i .i64 a3), (8, .b false), (10, .i .i64 v8)], ofMem []⟩
def spec_MayBe_J2 (k : Nat) (R1 : (Int) → Option Outs) (x1 : Int) : Option Outs :=
 R1 x1
def spec_MayBe_J1 (k : Nat) (o2 : Outs) (R1 : (Int) → Option Outs) (c1 : Bool) : Option Outs :=
 bif c1 then
  some ⟨[.b true], []⟩
 else
  bif (decide ((o2.t 0).asI < 0)) then spec_MayBe_J2 k R1 0 else spec_MayBe_J2 k R1 ((o2.t 0).asI)
def spec_MayBe_l1 (k : Nat) (a1 : List (List T)) (a2 : Int) (a3 : Int) (G1 : (Int) → Option Outs) : (Int) → Option Outs :=
  spec_MayBe_L1 k a1 a2 a3 G1
def spec_MayBe_U (k : Nat) (a0 : Int) (a1 : List (List T)) (a2 : Int) (a3 : Int) (R1 : (Int) → Option Outs) : Option Outs :=
 bindO (evalF E P0 k N.spec_SureOf [.v [.r a1], .v [.i a2]]) fun o2 =>
 bif (decide ((o2.t 0).asI < 0)) then spec_MayBe_J1 k o2 R1 (a3 == a0) else spec_MayBe_J1 k o2 R1 false
def spec_MayBe_u (k : Nat) (a0 : Int) (a1 : List (List T)) (a2 : Int) (a3 : Int) : Option Outs :=
  spec_MayBe_U k a0 a1 a2 a3 (fun v => fixN (spec_MayBe_l1 k a1 a2 a3) k v)
def spec_MayBe_it1 (k : Nat) (a0 : Int) (a1 : List (List T)) (a2 : Int) (a3 : Int) (js : List Nat) (j : Nat) (s : St) : Option Outs := iter E (LB E (evalF E P0 k) k [] N.spec_MayBe [.sr, .sr, .sr, .sr, .sl, .sr, .bl]) [] spec_MayBe_k1 (LK E (evalF E P0 k) k [] N.spec_MayBe [.v [.i a0], .v [.r a1], .v [.i a2], .v [.i a3]] [.sr, .sr, .sr, .sr, .sl, .sr, .bl] js) j s
theorem spec_MayBe_e (k : Nat) (a0 : Int) (a1 : List (List T)) (a2 : Int) (a3 : Int) : evalF E P0 (k + 1) N.spec_MayBe [.v [.i a0], .v [.r a1], .v [.i a2], .v [.i a3]] = spec_MayBe_u k a0 a1 a2 a3 := by
  have e0 : evalF E P0 (k + 1) N.spec_MayBe [.v [.i a0], .v [.r a1], .v [.i a2], .v [.i a3]] = spec_MayBe_U k a0 a1 a2 a3 (fun v => spec_MayBe_it1 k a0 a1 a2 a3 [] k (spec_MayBe_S1 a1 a2 a3 v)) := by kernel_rfl
  have e1 : ∀ (j1 : Nat) (v : Int), spec_MayBe_it1 k a0 a1 a2 a3 [] (j1 + 1) (spec_MayBe_S1 a1 a2 a3 v) = spec_MayBe_L1 k a1 a2 a3 (fun v => spec_MayBe_it1 k a0 a1 a2 a3 [] j1 (spec_MayBe_S1 a1 a2 a3 v)) v := by
    intro j1 v; kernel_rfl
  have i1 : ∀ (j1 : Nat) (v : Int), spec_MayBe_it1 k a0 a1 a2 a3 [] j1 (spec_MayBe_S1 a1 a2 a3 v) = fixN (spec_MayBe_l1 k a1 a2 a3) j1 v := by
    intro j1 v
    refine iter_fix (spec_MayBe_S1 a1 a2 a3) (spec_MayBe_l1 k a1 a2 a3) (fun j1 v => (e1 j1 v).trans ?_) j1 v
    unfold spec_MayBe_l1
    rfl
  rw [e0]; unfold spec_MayBe_u
  simp only [i1]
/- laws.FnMusts -/
def laws_FnMusts_J1 (k : Nat) (o4 : Outs) (o6 : Outs) (c1 : Bool) : Option Outs :=
 bif c1 then
  some ⟨[.b false], []⟩
 else
  bif (decide ((o6.t 0).asI < 0)) then
   bindO (evalF E P0 k N.impl_MayBe [.v [.i 77], .v [.r (o4.t 0).asR], .v [.i (o4.t 1).asI], .v [.i 77]]) fun o22 =>
   some ⟨[.b (o22.t 0).asB], []⟩
  else
   chk (decide (0 ≤ (o6.t 0).asI) && decide ((o6.t 0).asI < ((o4.t 0).asR.length : Int))) <|
   bindO (evalF E P0 k N.impl_Writes [.v [.i (at_ (o4.t 0).asR (o6.t 0).asI.toNat 0).asI, .i (at_ (o4.t 0).asR (o6.t 0).asI.toNat 1).asI, .i (at_ (o4.t 0).asR (o6.t 0).asI.toNat 2).asI, .i (at_ (o4.t 0).asR (o6.t 0).asI.toNat 3).asI, .r (at_ (o4.t 0).asR (o6.t 0).asI.toNat 4).asR], .v [.i (o4.t 1).asI]]) fun o26 =>
   bif (o26.t 0).asB then
    chk (decide (0 ≤ (o6.t 0).asI) && decide ((o6.t 0).asI < ((o4.t 0).asR.length : Int))) <|
    bindO (evalF E P0 k N.impl_WordOf [.v [.i (at_ (o4.t 0).asR (o6.t 0).asI.toNat 0).asI, .i (at_ (o4.t 0).asR (o6.t 0).asI.toNat 1).asI, .i (at_ (o4.t 0).asR (o6.t 0).asI.toNat 2).asI, .i (at_ (o4.t 0).asR (o6.t 0).asI.toNat 3).asI, .r (at_ (o4.t 0).asR (o6.t 0).asI.toNat 4).asR], .v [.i (o4.t 1).asI]]) fun o27 =>
    bindO (evalF E P0 k N.impl_MayBe [.v [.i 77], .v [.r (o4.t 0).asR], .v [.i (o4.t 1).asI], .v [.i (o27.t 0).asI]]) fun o28 =>
    bif (o28.t 0).asB then
     chk (decide (0 ≤ (o6.t 0).asI) && decide ((o6.t 0).asI < ((o4.t 0).asR.length : Int))) <|
     some ⟨[.b ((at_ (o4.t 0).asR (o6.t 0).asI.toNat 6).asI == 0)], []⟩
    else
     some ⟨[.b false], []⟩
   else
    some ⟨[.b false], []⟩
def laws_FnMusts_u (k : Nat) (a0 : List (List T)) : Option Outs :=
 bindO (evalF E P0 k N.laws_big [.v [.r a0]]) fun o2 =>
 bif (o2.t 0).asB then
  some ⟨[.b true], []⟩
 else
  bindO (evalF E P0 k N.spec_DrawSureOf [.v [.r a0]]) fun o4 =>
  bindO (evalF E P0 k N.impl_SureOf [.v [.r (o4.t 0).asR], .v [.i (o4.t 1).asI]]) fun o6 =>
  bindO (evalF E P0 k N.spec_DrawMayBe [.v [.r a0]]) fun o8 =>
  bindO (evalF E P0 k N.spec_DrawWrites [.v [.r a0]]) fun o10 =>
  bindO (evalF E P0 k N.spec_SureOf [.v [.r (o4.t 0).asR], .v [.i (o4.t 1).asI]]) fun o18 =>
  bif ((o6.t 0).asI != (o18.t 0).asI) then
   laws_FnMusts_J1 k o4 o6 true
  else
   bindO (evalF E P0 k N.impl_MayBe [.v [.i (o8.t 0).asI], .v [.r (o8.t 1).asR], .v [.i (o8.t 2).asI], .v [.i (o8.t 3).asI]]) fun o29 =>
   bindO (evalF E P0 k N.spec_MayBe [.v [.i (o8.t 0).asI], .v [.r (o8.t 1).asR], .v [.i (o8.t 2).asI], .v [.i (o8.t 3).asI]]) fun o30 =>
   bif (!((o29.t 0).asB == (o30.t 0).asB)) then
    laws_FnMusts_J1 k o4 o6 true
   else
    bindO (evalF E P0 k N.impl_Writes [.v [.i (o10.t 0).asI, .i (o10.t 1).asI, .i (o10.t 2).asI, .i (o10.t 3).asI, .r (o10.t 4).asR], .v [.i (o10.t 5).asI]]) fun o31 =>
    bindO (evalF E P0 k N.spec_Writes [.v [.i (o10.t 0).asI, .i (o10.t 1).asI, .i (o10.t 2).asI, .i (o10.t 3).asI, .r (o10.t 4).asR], .v [.i (o10.t 5).asI]]) fun o32 =>
    bif (!((o31.t 0).asB == (o32.t 0).asB)) then
     laws_FnMusts_J1 k o4 o6 true
    else
     bindO (evalF E P0 k N.impl_WordOf [.v [.i (o10.t 0).asI, .i (o10.t 1).asI, .i (o10.t 2).asI, .i (o10.t 3).asI, .r (o10.t 4).asR], .v [.i (o10.t 5).asI]]) fun o33 =>
     bindO (evalF E P0 k N.spec_WordOf [.v [.i (o10.t 0).asI, .i (o10.t 1).asI, .i (o10.t 2).asI, .i (o10.t 3).asI, .r (o10.t 4).asR], .v [.i (o10.t 5).asI]]) fun o34 =>
     laws_FnMusts_J1 k o4 o6 ((o33.t 0).asI != (o34.t 0).asI)
theorem laws_FnMusts_e (k : Nat) (a0 : List (List T)) : evalF E P0 (k + 1) N.laws_FnMusts [.v [.r a0]] = laws_FnMusts_u k a0 := by kernel_rfl
/- spec.DrawFollows -/
def spec_DrawFollows_u (k : Nat) (a0 : List (List T)) : Option Outs :=
 bindO (evalF E P0 k N.spec_l1New [.v [.r a0]]) fun o2 =>
 bindO (evalF E P0 k N.spec_l18Log [.p [.r (((o2.t 0).asR.headD []).getD 0 (.i 0)).asR, .i (((o2.t 0).asR.headD []).getD 1 (.i 0)).asI, .i (((o2.t 0).asR.headD []).getD 2 (.i 0)).asI]]) fun o4 =>
 bindO (evalF E P0 k N.spec_l1Once [.p [.r (o4.vt 0 0).asR, .i (o4.vt 0 1).asI, .i (o4.vt 0 2).asI], .v [.i 30]]) fun o6 =>
 bif (o6.t 0).asB then
  some ⟨[.i (o4.t 0).asI, .i (o4.t 1).asI, .r (o4.t 2).asR, .r (List.replicate (401 : Int).toNat [.i 0, .i 0, .i 0, .i 0, .r [], .i 0, .i 0, .r []])], []⟩
 else
  some ⟨[.i (o4.t 0).asI, .i (o4.t 1).asI, .r (o4.t 2).asR, .r (o4.t 3).asR], []⟩
theorem spec_DrawFollows_e (k : Nat) (a0 : List (List T)) : evalF E P0 (k + 1) N.spec_DrawFollows [.v [.r a0]] = spec_DrawFollows_u k a0 := by kernel_rfl
/- slices.EqualFunc[[]impl.Ans,[]impl.Ans,impl.Ans,impl.Ans] -/
def slices_EqualFunc_impl_Ans_impl_Ans_impl_Ans_impl_Ans_L1 (k : Nat) (a0 : List (List T)) (a1 : List (List T)) (G1 : (Int) → Option Outs) : (Int) → Option Outs := fun v8 =>
 bif (decide (v8 < (a0.length : Int))) then
  chk (decide (0 ≤ v8) && decide (v8 < (a0.length : Int))) <|
  chk (decide (0 ≤ v8) && decide (v8 < (a1.length : Int))) <|
  bindO (evalF E P0 k N.impl_SameAns [.v [.i (at_ a0 v8.toNat 0).asI, .i (at_ a0 v8.toNat 1).asI, .r (at_ a0 v8.toNat 2).asR], .v [.i (at_ a1 v8.toNat 0).asI, .i (at_ a1 v8.toNat 1).asI, .r (at_ a1 v8.toNat 2).asR]]) fun o96 =>
  bif (!(o96.t 0).asB) then some ⟨[.b false], []⟩ else G1 (IntKind.wrap .i64 (v8 + 1))
 else
  some ⟨[.b true], []⟩
def slices_EqualFunc_impl_Ans_impl_Ans_impl_Ans_impl_Ans_k1 : List Nat := [1, 2, 6, 15, 16, 17]
def slices_EqualFunc_impl_Ans_impl_Ans_impl_Ans_impl_Ans_S1 (a0 : List (List T)) (a1 : List (List T)) : (Int) → St := fun v8 => ⟨ofSl [(1, .sl 61 a1), (2, .clo N.impl_SameAns none), (6, .b false), (15, .sl 61 a0), (16, .i .i64 (a0.length : Int)), (17, .i .i64 v8)], ofMem []⟩
def slices_EqualFunc_impl_Ans_impl_Ans_impl_Ans_impl_Ans_l1 (k : Nat) (a0 : List (List T)) (a1 : List (List T)) (G1 : (Int) → Option Outs) : (Int) → Option Outs :=
  slices_EqualFunc_impl_Ans_impl_Ans_impl_Ans_impl_Ans_L1 k a0 a1 G1
def slices_EqualFunc_impl_Ans_impl_Ans_impl_Ans_impl_Ans_U (k : Nat) (a0 : List (List T)) (a1 : List (List T)) (R1 : (Int) → Option Outs) : Option Outs :=
 bif ((a0.length : Int) != (a1.length : Int)) then some ⟨[.b false], []⟩ else R1 0
def slices_EqualFunc_impl_Ans_impl_Ans_impl_Ans_impl_Ans_u (k : Nat) (a0 : List (List T)) (a1 : List (List T)) : Option Outs :=
  slices_EqualFunc_impl_Ans_impl_Ans_impl_Ans_impl_Ans_U k a0 a1 (fun v => fixN (slices_EqualFunc_impl_Ans_impl_Ans_impl_Ans_impl_Ans_l1 k a0 a1) k v)
def slices_EqualFunc_impl_Ans_impl_Ans_impl_Ans_impl_Ans_it1 (k : Nat) (a0 : List (List T)) (a1 : List (List T)) (js : List Nat) (j : Nat) (s : St) : Option Outs := iter E (LB E (evalF E P0 k) k [] N.slices_EqualFunc_impl_Ans_impl_Ans_impl_Ans_impl_Ans [.sr, .sr, .sl, .sr, .bl]) [] slices_EqualFunc_impl_Ans_impl_Ans_impl_Ans_impl_Ans_k1 (LK E (evalF E P0 k) k [] N.slices_EqualFunc_impl_Ans_impl_Ans_impl_Ans_impl_Ans [.v [.r a0], .v [.r a1], .c N.impl_SameAns none] [.sr, .sr, .sl, .sr, .bl] js) j s
theorem slices_EqualFunc_impl_Ans_impl_Ans_impl_Ans_impl_Ans_e (k : Nat) (a0 : List (List T)) (a1 : List (List T)) : evalF E P0 (k + 1) N.slices_EqualFunc_impl_Ans_impl_Ans_impl_Ans_impl_Ans [.v [.r a0], .v [.r a1], .c N.impl_SameAns none] = slices_EqualFunc_impl_Ans_impl_Ans_impl_Ans_impl_Ans_u k a0 a1 := by
  have e0 : evalF E P0 (k + 1) N.slices_EqualFunc_impl_Ans_impl_Ans_impl_Ans_impl_Ans [.v [.r a0], .v [.r a1], .c N.impl_SameAns none] = slices_EqualFunc_impl_Ans_impl_Ans_impl_Ans_impl_Ans_U k a0 a1 (fun v => slices_EqualFunc_impl_Ans_impl_Ans_impl_Ans_impl_Ans_it1 k a0 a1 [] k (slices_EqualFunc_impl_Ans_impl_Ans_impl_Ans_impl_Ans_S1 a0 a1 v)) := by kernel_rfl
  have e1 : ∀ (j1 : Nat) (v : Int), slices_EqualFunc_impl_Ans_impl_Ans_impl_Ans_impl_Ans_it1 k a0 a1 [] (j1 + 1) (slices_EqualFunc_impl_Ans_impl_Ans_impl_Ans_impl_Ans_S1 a0 a1 v) = slices_EqualFunc_impl_Ans_impl_Ans_impl_Ans_impl_Ans_L1 k a0 a1 (fun v => slices_EqualFunc_impl_Ans_impl_Ans_impl_Ans_impl_Ans_it1 k a0 a1 [] j1 (slices_EqualFunc_impl_Ans_impl_Ans_impl_Ans_impl_Ans_S1 a0 a1 v)) v := by
    intro j1 v; kernel_rfl
  have i1 : ∀ (j1 : Nat) (v : Int), slices_EqualFunc_impl_Ans_impl_Ans_impl_Ans_impl_Ans_it1 k a0 a1 [] j1 (slices_EqualFunc_impl_Ans_impl_Ans_impl_Ans_impl_Ans_S1 a0 a1 v) = fixN (slices_EqualFunc_impl_Ans_impl_Ans_impl_Ans_impl_Ans_l1 k a0 a1) j1 v := by
    intro j1 v
    refine iter_fix (slices_EqualFunc_impl_Ans_impl_Ans_impl_Ans_impl_Ans_S1 a0 a1) (slices_EqualFunc_impl_Ans_impl_Ans_impl_Ans_impl_Ans_l1 k a0 a1) (fun j1 v => (e1 j1 v).trans ?_) j1 v
    unfold slices_EqualFunc_impl_Ans_impl_Ans_impl_Ans_impl_Ans_l1
    rfl
  rw [e0]; unfold slices_EqualFunc_impl_Ans_impl_Ans_impl_Ans_impl_Ans_u
  simp only [i1]
/- slices.Equal[[]int,int] -/
def slices_Equal_int_int_L1 (k : Nat) (a0 : List (List T)) (a1 : List (List T)) (G1 : (Int) → Option Outs) : (Int) → Option Outs := fun v8 =>
 bif (decide (v8 < (a0.length : Int))) then
  chk (decide (0 ≤ v8) && decide (v8 < (a0.length : Int))) <|
  chk (decide (0 ≤ v8) && decide (v8 < (a1.length : Int))) <|
  bif ((at_ a0 v8.toNat 0).asI != (at_ a1 v8.toNat 0).asI) then
   some ⟨[.b false], []⟩
  else
   G1 (IntKind.wrap .i64 (v8 + 1))
 else
  some ⟨[.b true], []⟩
def slices_Equal_int_int_k1 : List Nat := [0, 1, 4, 12, 13]
def slices_Equal_int_int_S1 (a0 : List (List T)) (a1 : List (List T)) : (Int) → St := fun v8 => ⟨ofSl [(0, .sl 3 a0), (1, .sl 3 a1), (4, .b false), (12, .i .i64 (a0.length : Int)), (13, .i .i64 v8)], ofMem []⟩
def slices_Equal_int_int_l1 (k : Nat) (a0 : List (List T)) (a1 : List (List T)) (G1 : (Int) → Option Outs) : (Int) → Option Outs :=
  slices_Equal_int_int_L1 k a0 a1 G1
def slices_Equal_int_int_U (k : Nat) (a0 : List (List T)) (a1 : List (List T)) (R1 : (Int) → Option Outs) : Option Outs :=
 bif ((a0.length : Int) != (a1.length : Int)) then some ⟨[.b false], []⟩ else R1 0
def slices_Equal_int_int_u (k : Nat) (a0 : List (List T)) (a1 : List (List T)) : Option Outs :=
  slices_Equal_int_int_U k a0 a1 (fun v => fixN (slices_Equal_int_int_l1 k a0 a1) k v)
def slices_Equal_int_int_it1 (k : Nat) (a0 : List (List T)) (a1 : List (List T)) (js : List Nat) (j : Nat) (s : St) : Option Outs := iter E (LB E (evalF E P0 k) k [] N.slices_Equal_int_int [.sr, .sr, .sl, .sr, .bl]) [] slices_Equal_int_int_k1 (LK E (evalF E P0 k) k [] N.slices_Equal_int_int [.v [.r a0], .v [.r a1]] [.sr, .sr, .sl, .sr, .bl] js) j s
theorem slices_Equal_int_int_e (k : Nat) (a0 : List (List T)) (a1 : List (List T)) : evalF E P0 (k + 1) N.slices_Equal_int_int [.v [.r a0], .v [.r a1]] = slices_Equal_int_int_u k a0 a1 := by
  have e0 : evalF E P0 (k + 1) N.slices_Equal_int_int [.v [.r a0], .v [.r a1]] = slices_Equal_int_int_U k a0 a1 (fun v => slices_Equal_int_int_it1 k a0 a1 [] k (slices_Equal_int_int_S1 a0 a1 v)) := by kernel_rfl
  have e1 : ∀ (j1 : Nat) (v : Int), slices_Equal_int_int_it1 k a0 a1 [] (j1 + 1) (slices_Equal_int_int_S1 a0 a1 v) = slices_Equal_int_int_L1 k a0 a1 (fun v => slices_Equal_int_int_it1 k a0 a1 [] j1 (slices_Equal_int_int_S1 a0 a1 v)) v := by
    intro j1 v; kernel_rfl
  have i1 : ∀ (j1 : Nat) (v : Int), slices_Equal_int_int_it1 k a0 a1 [] j1 (slices_Equal_int_int_S1 a0 a1 v) = fixN (slices_Equal_int_int_l1 k a0 a1) j1 v := by
    intro j1 v
    refine iter_fix (slices_Equal_int_int_S1 a0 a1) (slices_Equal_int_int_l1 k a0 a1) (fun j1 v => (e1 j1 v).trans ?_) j1 v
    unfold slices_Equal_int_int_l1
    rfl
  rw [e0]; unfold slices_Equal_int_int_u
  simp only [i1]
/- impl.SameAns -/
def impl_SameAns_u (k : Nat) (a0_0 : Int) (a0_1 : Int) (a0_2 : List (List T)) (a1_0 : Int) (a1_1 : Int) (a1_2 : List (List T)) : Option Outs :=
 bif (a0_0 == a1_0) then
  bif (a0_1 == a1_1) then
   bindO (evalF E P0 k N.slices_Equal_int_int [.v [.r a0_2], .v [.r a1_2]]) fun o2 =>
   some ⟨[.b (o2.t 0).asB], []⟩
  else
   some ⟨[.b false], []⟩
 else
  some ⟨[.b false], []⟩
theorem impl_SameAns_e (k : Nat) (a0_0 : Int) (a0_1 : Int) (a0_2 : List (List T)) (a1_0 : Int) (a1_1 : Int) (a1_2 : List (List T)) : evalF E P0 (k + 1) N.impl_SameAns [.v [.i a0_0, .i a0_1, .r a0_2], .v [.i a1_0, .i a1_1, .r a1_2]] = impl_SameAns_u k a0_0 a0_1 a0_2 a1_0 a1_1 a1_2 := by kernel_rfl
/- impl.Follows -/
def impl_Follows_u (k : Nat) (a0_0 : Int) (a0_1 : Int) (a1 : List (List T)) (a2 : List (List T)) : Option Outs :=
 bif (decide ((a2.length : Int) > 400)) then
  some ⟨[.b false], []⟩
 else
  bindO (evalF E P0 k N.impl_CmdsOf [.v [.r a2]]) fun o3 =>
  bindO (evalF E P0 k N.impl_DoCmds [.v [.i a0_0, .i a0_1], .v [.r a1], .v [.r (o3.t 0).asR]]) fun o4 =>
  bindO (evalF E P0 k N.impl_AnsOf [.v [.r a2]]) fun o7 =>
  bindO (evalF E P0 k N.slices_EqualFunc_impl_Ans_impl_Ans_impl_Ans_impl_Ans [.v [.r (o4.t 1).asR], .v [.r (o7.t 0).asR], .c N.impl_SameAns none]) fun o8 =>
  some ⟨[.b (o8.t 0).asB], []⟩
theorem impl_Follows_e (k : Nat) (a0_0 : Int) (a0_1 : Int) (a1 : List (List T)) (a2 : List (List T)) : evalF E P0 (k + 1) N.impl_Follows [.v [.i a0_0, .i a0_1], .v [.r a1], .v [.r a2]] = impl_Follows_u k a0_0 a0_1 a1 a2 := by kernel_rfl
/- spec.l1Sec -/
def spec_l1Sec_L1 (k : Nat) (G1 : (Int × List (List T) × Int × Int × List (List T)) → Option Outs) : (Int × List (List T) × Int × Int × List (List T)) → Option Outs := fun (v22, w15, v23, v24, w16) =>
 bif (decide (v22 > 0)) then
  bindO (evalF E P0 k N.spec_l1Draw [.p [.r w15, .i v23, .i v24]]) fun o50 =>
  chk (decide ((w16.length + ([[.i (o50.t 0).asI]] : List (List T)).length) * 8 ≤ 140737488355328)) <|
  G1 ((IntKind.wrap .i64 (v22 - 1)), (o50.vt 0 0).asR, (o50.vt 0 1).asI, (o50.vt 0 2).asI, (w16 ++ [[.i (o50.t 0).asI]]))
 else
  some ⟨[.r w16], [[.r w15, .i v23, .i v24]]⟩
def spec_l1Sec_k1 : List Nat := [0, 2, 3, 4, 17]
def spec_l1Sec_S1 : (Int × List (List T) × Int × Int × List (List T)) → St := fun (v22, w15, v23, v24, w16) => ⟨ofSl [(0, .ptr (0, 0) 0), (2, .ref (2, 0)), (3, .ref (3, 0)), (4, .i .i64 v22), (17, .skip)], ofMem [((0, 0), .var [.sl 5 w15, .i .i64 v23, .i .i64 v24]), ((2, 0), .row 3 true []), ((3, 0), .row 3 true w16)]⟩
def spec_l1Sec_l1 (k : Nat) (G1 : (Int × List (List T) × Int × Int × List (List T)) → Option Outs) : (Int × List (List T) × Int × Int × List (List T)) → Option Outs :=
  spec_l1Sec_L1 k G1
def spec_l1Sec_U (k : Nat) (a0_0 : List (List T)) (a0_1 : Int) (a0_2 : Int) (R1 : (Int × List (List T) × Int × Int × List (List T)) → Option Outs) : Option Outs :=
 bindO (evalF E P0 k N.spec_l1Below [.p [.r a0_0, .i a0_1, .i a0_2], .v [.i 5]]) fun o2 =>
 R1 ((o2.t 0).asI, (o2.vt 0 0).asR, (o2.vt 0 1).asI, (o2.vt 0 2).asI, [])
def spec_l1Sec_u (k : Nat) (a0_0 : List (List T)) (a0_1 : Int) (a0_2 : Int) : Option Outs :=
  spec_l1Sec_U k a0_0 a0_1 a0_2 (fun v => fixN (spec_l1Sec_l1 k) k v)
def spec_l1Sec_it1 (k : Nat) (a0_0 : List (List T)) (a0_1 : Int) (a0_2 : Int) (js : List Nat) (j : Nat) (s : St) : Option Outs := iter E (LB E (evalF E P0 k) k [0] N.spec_l1Sec [.sr, .sr, .sl, .sr, .bl]) [0] spec_l1Sec_k1 (LK E (evalF E P0 k) k [0] N.spec_l1Sec [.p [.r a0_0, .i a0_1, .i a0_2]] [.sr, .sr, .sl, .sr, .bl] js) j s
theorem spec_l1Sec_e (k : Nat) (a0_0 : List (List T)) (a0_1 : Int) (a0_2 : Int) : evalF E P0 (k + 1) N.spec_l1Sec [.p [.r a0_0, .i a0_1, .i a0_2]] = spec_l1Sec_u k a0_0 a0_1 a0_2 := by
  have e0 : evalF E P0 (k + 1) N.spec_l1Sec [.p [.r a0_0, .i a0_1, .i a0_2]] = spec_l1Sec_U k a0_0 a0_1 a0_2 (fun v => spec_l1Sec_it1 k a0_0 a0_1 a0_2 [] k (spec_l1Sec_S1 v)) := by kernel_rfl
  have e1 : ∀ (j1 : Nat) (v : Int × List (List T) × Int × Int × List (List T)), spec_l1Sec_it1 k a0_0 a0_1 a0_2 [] (j1 + 1) (spec_l1Sec_S1 v) = spec_l1Sec_L1 k (fun v => spec_l1Sec_it1 k a0_0 a0_1 a0_2 [] j1 (spec_l1Sec_S1 v)) v := by
    intro j1 v; kernel_rfl
  have i1 : ∀ (j1 : Nat) (v : Int × List (List T) × Int × Int × List (List T)), spec_l1Sec_it1 k a0_0 a0_1 a0_2 [] j1 (spec_l1Sec_S1 v) = fixN (spec_l1Sec_l1 k) j1 v := by
    intro j1 v
    refine iter_fix (spec_l1Sec_S1) (spec_l1Sec_l1 k) (fun j1 v => (e1 j1 v).trans ?_) j1 v
    unfold spec_l1Sec_l1
    rfl
  rw [e0]; unfold spec_l1Sec_u
  simp only [i1]
/- spec.DrawSameAns -/
def spec_DrawSameAns_u (k : Nat) (a0 : List (List T)) : Option Outs :=
 bindO (evalF E P0 k N.spec_l1New [.v [.r a0]]) fun o2 =>
 bindO (evalF E P0 k N.spec_l1Below [.p [.r (((o2.t 0).asR.headD []).getD 0 (.i 0)).asR, .i (((o2.t 0).asR.headD []).getD 1 (.i 0)).asI, .i (((o2.t 0).asR.headD []).getD 2 (.i 0)).asI], .v [.i 2]]) fun o6 =>
 bindO (evalF E P0 k N.spec_l1Below [.p [.r (o6.vt 0 0).asR, .i (o6.vt 0 1).asI, .i (o6.vt 0 2).asI], .v [.i 2]]) fun o7 =>
 bindO (evalF E P0 k N.spec_l1Sec [.p [.r (o7.vt 0 0).asR, .i (o7.vt 0 1).asI, .i (o7.vt 0 2).asI]]) fun o8 =>
 bindO (evalF E P0 k N.spec_l1Once [.p [.r (o8.vt 0 0).asR, .i (o8.vt 0 1).asI, .i (o8.vt 0 2).asI], .v [.i 2]]) fun o10 =>
 bif (o10.t 0).asB then
  bindO (evalF E P0 k N.spec_l15Ans [.v [.i (o6.t 0).asI, .i (o7.t 0).asI, .r (o8.t 0).asR]]) fun o14 =>
  some ⟨[.i (o6.t 0).asI, .i (o7.t 0).asI, .r (o8.t 0).asR, .i (o14.t 0).asI, .i (o14.t 1).asI, .r (o14.t 2).asR], []⟩
 else
  bindO (evalF E P0 k N.spec_l1Below [.p [.r (o10.vt 0 0).asR, .i (o10.vt 0 1).asI, .i (o10.vt 0 2).asI], .v [.i 2]]) fun o17 =>
  bindO (evalF E P0 k N.spec_l1Below [.p [.r (o17.vt 0 0).asR, .i (o17.vt 0 1).asI, .i (o17.vt 0 2).asI], .v [.i 2]]) fun o18 =>
  chk (decide ((([] : List (List T)).length + (o8.t 0).asR.length) * 8 ≤ 140737488355328)) <|
  some ⟨[.i (o6.t 0).asI, .i (o7.t 0).asI, .r (o8.t 0).asR, .i (o17.t 0).asI, .i (o18.t 0).asI, .r (([] : List (List T)) ++ (o8.t 0).asR)], []⟩
theorem spec_DrawSameAns_e (k : Nat) (a0 : List (List T)) : evalF E P0 (k + 1) N.spec_DrawSameAns [.v [.r a0]] = spec_DrawSameAns_u k a0 := by kernel_rfl
/- spec.SameSec -/
def spec_SameSec_L1 (k : Nat) (a0 : List (List T)) (a1 : List (List T)) (G1 : (Int) → Option Outs) : (Int) → Option Outs := fun v8 =>
 bif (decide (v8 < (a0.length : Int))) then
  chk (decide (0 ≤ v8) && decide (v8 < (a0.length : Int))) <|
  chk (decide (0 ≤ v8) && decide (v8 < (a1.length : Int))) <|
  bif ((at_ a0 v8.toNat 0).asI != (at_ a1 v8.toNat 0).asI) then
   some ⟨[.b false], []⟩
  else
   G1 (IntKind.wrap .i64 (v8 + 1))
 else
  some ⟨[.b true], []⟩
def spec_SameSec_k1 : List Nat := [0, 1, 4, 5]
def spec_SameSec_S1 (a0 : List (List T)) (a1 : List (List T)) : (Int) → St := fun v8 => ⟨ofSl [(0, .sl 3 a0), (1, .sl 3 a1), (4, .b false), (5, .i .i64 v8)], ofMem []⟩
def spec_SameSec_l1 (k : Nat) (a0 : List (List T)) (a1 : List (List T)) (G1 : (Int) → Option Outs) : (Int) → Option Outs :=
  spec_SameSec_L1 k a0 a1 G1
def spec_SameSec_U (k : Nat) (a0 : List (List T)) (a1 : List (List T)) (R1 : (Int) → Option Outs) : Option Outs :=
 bif ((a0.length : Int) != (a1.length : Int)) then some ⟨[.b false], []⟩ else R1 0
def spec_SameSec_u (k : Nat) (a0 : List (List T)) (a1 : List (List T)) : Option Outs :=
  spec_SameSec_U k a0 a1 (fun v => fixN (spec_SameSec_l1 k a0 a1) k v)
def spec_SameSec_it1 (k : Nat) (a0 : List (List T)) (a1 : List (List T)) (js : List Nat) (j : Nat) (s : St) : Option Outs := iter E (LB E (evalF E P0 k) k [] N.spec_SameSec [.sr, .sr, .sl, .sr, .bl]) [] spec_SameSec_k1 (LK E (evalF E P0 k) k [] N.spec_SameSec [.v [.r a0], .v [.r a1]] [.sr, .sr, .sl, .sr, .bl] js) j s
theorem spec_SameSec_e (k : Nat) (a0 : List (List T)) (a1 : List (List T)) : evalF E P0 (k + 1) N.spec_SameSec [.v [.r a0], .v [.r a1]] = spec_SameSec_u k a0 a1 := by
  have e0 : evalF E P0 (k + 1) N.spec_SameSec [.v [.r a0], .v [.r a1]] = spec_SameSec_U k a0 a1 (fun v => spec_SameSec_it1 k a0 a1 [] k (spec_SameSec_S1 a0 a1 v)) := by kernel_rfl
  have e1 : ∀ (j1 : Nat) (v : Int), spec_SameSec_it1 k a0 a1 [] (j1 + 1) (spec_SameSec_S1 a0 a1 v) = spec_SameSec_L1 k a0 a1 (fun v => spec_SameSec_it1 k a0 a1 [] j1 (spec_SameSec_S1 a0 a1 v)) v := by
    intro j1 v; kernel_rfl
  have i1 : ∀ (j1 : Nat) (v : Int), spec_SameSec_it1 k a0 a1 [] j1 (spec_SameSec_S1 a0 a1 v) = fixN (spec_SameSec_l1 k a0 a1) j1 v := by
    intro j1 v
    refine iter_fix (spec_SameSec_S1 a0 a1) (spec_SameSec_l1 k a0 a1) (fun j1 v => (e1 j1 v).trans ?_) j1 v
    unfold spec_SameSec_l1
    rfl
  rw [e0]; unfold spec_SameSec_u
  simp only [i1]
/- spec.SameAns -/
def spec_SameAns_u (k : Nat) (a0_0 : Int) (a0_1 : Int) (a0_2 : List (List T)) (a1_0 : Int) (a1_1 : Int) (a1_2 : List (List T)) : Option Outs :=
 bif (a0_0 == a1_0) then
  bif (a0_1 == a1_1) then
   bindO (evalF E P0 k N.spec_SameSec [.v [.r a0_2], .v [.r a1_2]]) fun o2 =>
   some ⟨[.b (o2.t 0).asB], []⟩
  else
   some ⟨[.b false], []⟩
 else
  some ⟨[.b false], []⟩
theorem spec_SameAns_e (k : Nat) (a0_0 : Int) (a0_1 : Int) (a0_2 : List (List T)) (a1_0 : Int) (a1_1 : Int) (a1_2 : List (List T)) : evalF E P0 (k + 1) N.spec_SameAns [.v [.i a0_0, .i a0_1, .r a0_2], .v [.i a1_0, .i a1_1, .r a1_2]] = spec_SameAns_u k a0_0 a0_1 a0_2 a1_0 a1_1 a1_2 := by kernel_rfl
/- spec.Follows -/
def spec_Follows_J1 (k : Nat) (a2 : List (List T)) (o4 : Outs) (v8 : Int) (G1 : (Int) → Option Outs) (c12 : Bool) : Option Outs :=
 bif c12 then
  chk (decide (0 ≤ v8) && decide (v8 < ((o4.t 1).asR.length : Int))) <|
  chk (decide (0 ≤ v8) && decide (v8 < (a2.length : Int))) <|
  bindO (evalF E P0 k N.spec_SameAns [.v [.i (at_ (o4.t 1).asR v8.toNat 0).asI, .i (at_ (o4.t 1).asR v8.toNat 1).asI, .r (at_ (o4.t 1).asR v8.toNat 2).asR], .v [.i (at_ a2 v8.toNat 5).asI, .i (at_ a2 v8.toNat 6).asI, .r (at_ a2 v8.toNat 7).asR]]) fun o100 =>
  bif (!(o100.t 0).asB) then some ⟨[.b false], []⟩ else G1 (IntKind.wrap .i64 (v8 + 1))
 else
  some ⟨[.b (decide ((a2.length : Int) ≤ 400))], []⟩
def spec_Follows_L1 (k : Nat) (a2 : List (List T)) (o4 : Outs) (G1 : (Int) → Option Outs) : (Int) → Option Outs := fun v8 =>
 bif (decide (v8 < (a2.length : Int))) then
  spec_Follows_J1 k a2 o4 v8 G1 (decide ((a2.length : Int) ≤ 400))
 else
  spec_Follows_J1 k a2 o4 v8 G1 false
def spec_Follows_k1 : List Nat := [2, 6, 8, 9, 40, 41, 42]
def spec_Follows_S1 (a2 : List (List T)) (o4 : Outs) : (Int) → St := fun v8 => ⟨ofSl [(2, .sl 63 a2), (6, .b false), (8, .ref (8, 0)), (9, .i .i64 v8), (40, .skip), (41, .skip), (42, .skip)], ofMem [((8, 0), .row 61 true (o4.t 1).asR)]⟩
def spec_Follows_l1 (k : Nat) (a2 : List (List T)) (o4 : Outs) (G1 : (Int) → Option Outs) : (Int) → Option Outs :=
  spec_Follows_L1 k a2 o4 G1
def spec_Follows_U (k : Nat) (a0_0 : Int) (a0_1 : Int) (a1 : List (List T)) (a2 : List (List T)) (R1 : Outs → (Int) → Option Outs) : Option Outs :=
 bindO (evalF E P0 k N.spec_CmdsOf [.v [.r a2]]) fun o3 =>
 bindO (evalF E P0 k N.spec_DoCmds [.v [.i a0_0, .i a0_1], .v [.r a1], .v [.r (o3.t 0).asR]]) fun o4 =>
 R1 o4 0
def spec_Follows_u (k : Nat) (a0_0 : Int) (a0_1 : Int) (a1 : List (List T)) (a2 : List (List T)) : Option Outs :=
  spec_Follows_U k a0_0 a0_1 a1 a2 (fun y0 v => fixN (spec_Follows_l1 k a2 y0) k v)
def spec_Follows_it1 (k : Nat) (a0_0 : Int) (a0_1 : Int) (a1 : List (List T)) (a2 : List (List T)) (js : List Nat) (j : Nat) (s : St) : Option Outs := iter E (LB E (evalF E P0 k) k [] N.spec_Follows [.sr, .sr, .sl, .sr, .bl]) [] spec_Follows_k1 (LK E (evalF E P0 k) k [] N.spec_Follows [.v [.i a0_0, .i a0_1], .v [.r a1], .v [.r a2]] [.sr, .sr, .sl, .sr, .bl] js) j s
theorem spec_Follows_e (k : Nat) (a0_0 : Int) (a0_1 : Int) (a1 : List (List T)) (a2 : List (List T)) : evalF E P0 (k + 1) N.spec_Follows [.v [.i a0_0, .i a0_1], .v [.r a1], .v [.r a2]] = spec_Follows_u k a0_0 a0_1 a1 a2 := by
  have e0 : evalF E P0 (k + 1) N.spec_Follows [.v [.i a0_0, .i a0_1], .v [.r a1], .v [.r a2]] = spec_Follows_U k a0_0 a0_1 a1 a2 (fun y0 v => spec_Follows_it1 k a0_0 a0_1 a1 a2 [] k (spec_Follows_S1 a2 y0 v)) := by kernel_rfl
  have e1 : ∀ (o4 : Outs) (j1 : Nat) (v : Int), spec_Follows_it1 k a0_0 a0_1 a1 a2 [] (j1 + 1) (spec_Follows_S1 a2 o4 v) = spec_Follows_L1 k a2 o4 (fun v => spec_Follows_it1 k a0_0 a0_1 a1 a2 [] j1 (spec_Follows_S1 a2 o4 v)) v := by
    intro o4 j1 v; kernel_rfl
  have i1 : ∀ (o4 : Outs) (j1 : Nat) (v : Int), spec_Follows_it1 k a0_0 a0_1 a1 a2 [] j1 (spec_Follows_S1 a2 o4 v) = fixN (spec_Follows_l1 k a2 o4) j1 v := by
    intro o4 j1 v
    refine iter_fix (spec_Follows_S1 a2 o4) (spec_Follows_l1 k a2 o4) (fun j1 v => (e1 o4 j1 v).trans ?_) j1 v
    unfold spec_Follows_l1
    rfl
  rw [e0]; unfold spec_Follows_u
  simp only [i1]
/- laws.sameInts -/
def laws_sameInts_L1 (k : Nat) (a0 : List (List T)) (a1 : List (List T)) (G1 : (Int) → Option Outs) : (Int) → Option Outs := fun v8 =>
 bif (decide (v8 < (a0.length : Int))) then
  chk (decide (0 ≤ v8) && decide (v8 < (a0.length : Int))) <|
  chk (decide (0 ≤ v8) && decide (v8 < (a1.length : Int))) <|
  bif ((at_ a0 v8.toNat 0).asI != (at_ a1 v8.toNat 0).asI) then
   some ⟨[.b false], []⟩
  else
   G1 (IntKind.wrap .i64 (v8 + 1))
 else
  some ⟨[.b true], []⟩
def laws_sameInts_k1 : List Nat := [0, 1, 4, 5]
def laws_sameInts_S1 (a0 : List (List T)) (a1 : List (List T)) : (Int) → St := fun v8 => ⟨ofSl [(0, .sl 3 a0), (1, .sl 3 a1), (4, .b false), (5, .i .i64 v8)], ofMem []⟩
def laws_sameInts_l1 (k : Nat) (a0 : List (List T)) (a1 : List (List T)) (G1 : (Int) → Option Outs) : (Int) → Option Outs :=
  laws_sameInts_L1 k a0 a1 G1
def laws_sameInts_U (k : Nat) (a0 : List (List T)) (a1 : List (List T)) (R1 : (Int) → Option Outs) : Option Outs :=
 bif ((a0.length : Int) != (a1.length : Int)) then some ⟨[.b false], []⟩ else R1 0
def laws_sameInts_u (k : Nat) (a0 : List (List T)) (a1 : List (List T)) : Option Outs :=
  laws_sameInts_U k a0 a1 (fun v => fixN (laws_sameInts_l1 k a0 a1) k v)
def laws_sameInts_it1 (k : Nat) (a0 : List (List T)) (a1 : List (List T)) (js : List Nat) (j : Nat) (s : St) : Option Outs := iter E (LB E (evalF E P0 k) k [] N.laws_sameInts [.sr, .sr, .sl, .sr, .bl]) [] laws_sameInts_k1 (LK E (evalF E P0 k) k [] N.laws_sameInts [.v [.r a0], .v [.r a1]] [.sr, .sr, .sl, .sr, .bl] js) j s
theorem laws_sameInts_e (k : Nat) (a0 : List (List T)) (a1 : List (List T)) : evalF E P0 (k + 1) N.laws_sameInts [.v [.r a0], .v [.r a1]] = laws_sameInts_u k a0 a1 := by
  have e0 : evalF E P0 (k + 1) N.laws_sameInts [.v [.r a0], .v [.r a1]] = laws_sameInts_U k a0 a1 (fun v => laws_sameInts_it1 k a0 a1 [] k (laws_sameInts_S1 a0 a1 v)) := by kernel_rfl
  have e1 : ∀ (j1 : Nat) (v : Int), laws_sameInts_it1 k a0 a1 [] (j1 + 1) (laws_sameInts_S1 a0 a1 v) = laws_sameInts_L1 k a0 a1 (fun v => laws_sameInts_it1 k a0 a1 [] j1 (laws_sameInts_S1 a0 a1 v)) v := by
    intro j1 v; kernel_rfl
  have i1 : ∀ (j1 : Nat) (v : Int), laws_sameInts_it1 k a0 a1 [] j1 (laws_sameInts_S1 a0 a1 v) = fixN (laws_sameInts_l1 k a0 a1) j1 v := by
    intro j1 v
    refine iter_fix (laws_sameInts_S1 a0 a1) (laws_sameInts_l1 k a0 a1) (fun j1 v => (e1 j1 v).trans ?_) j1 v
    unfold laws_sameInts_l1
    rfl
  rw [e0]; unfold laws_sameInts_u
  simp only [i1]
/- laws.sameAns -/
def laws_sameAns_u (k : Nat) (a0_0 : Int) (a0_1 : Int) (a0_2 : List (List T)) (a1_0 : Int) (a1_1 : Int) (a1_2 : List (List T)) : Option Outs :=
 bif (a0_0 == a1_0) then
  bif (a0_1 == a1_1) then
   bindO (evalF E P0 k N.laws_sameInts [.v [.r a0_2], .v [.r a1_2]]) fun o2 =>
   some ⟨[.b (o2.t 0).asB], []⟩
  else
   some ⟨[.b false], []⟩
 else
  some ⟨[.b false], []⟩
theorem laws_sameAns_e (k : Nat) (a0_0 : Int) (a0_1 : Int) (a0_2 : List (List T)) (a1_0 : Int) (a1_1 : Int) (a1_2 : List (List T)) : evalF E P0 (k + 1) N.laws_sameAns [.v [.i a0_0, .i a0_1, .r a0_2], .v [.i a1_0, .i a1_1, .r a1_2]] = laws_sameAns_u k a0_0 a0_1 a0_2 a1_0 a1_1 a1_2 := by kernel_rfl
/- laws.sameAnss -/
def laws_sameAnss_L1 (k : Nat) (a0 : List (List T)) (a1 : List (List T)) (G1 : (Int) → Option Outs) : (Int) → Option Outs := fun v8 =>
 bif (decide (v8 < (a0.length : Int))) then
  chk (decide (0 ≤ v8) && decide (v8 < (a0.length : Int))) <|
  chk (decide (0 ≤ v8) && decide (v8 < (a1.length : Int))) <|
  bindO (evalF E P0 k N.laws_sameAns [.v [.i (at_ a0 v8.toNat 0).asI, .i (at_ a0 v8.toNat 1).asI, .r (at_ a0 v8.toNat 2).asR], .v [.i (at_ a1 v8.toNat 0).asI, .i (at_ a1 v8.toNat 1).asI, .r (at_ a1 v8.toNat 2).asR]]) fun o96 =>
  bif (!(o96.t 0).asB) then some ⟨[.b false], []⟩ else G1 (IntKind.wrap .i64 (v8 + 1))
 else
  some ⟨[.b true], []⟩
def laws_sameAnss_k1 : List Nat := [0, 1, 4, 5]
def laws_sameAnss_S1 (a0 : List (List T)) (a1 : List (List T)) : (Int) → St := fun v8 => ⟨ofSl [(0, .sl 61 a0), (1, .sl 61 a1), (4, .b false), (5, .i .i64 v8)], ofMem []⟩
def laws_sameAnss_l1 (k : Nat) (a0 : List (List T)) (a1 : List (List T)) (G1 : (Int) → Option Outs) : (Int) → Option Outs :=
  laws_sameAnss_L1 k a0 a1 G1
def laws_sameAnss_U (k : Nat) (a0 : List (List T)) (a1 : List (List T)) (R1 : (Int) → Option Outs) : Option Outs :=
 bif ((a0.length : Int) != (a1.length : Int)) then some ⟨[.b false], []⟩ else R1 0
def laws_sameAnss_u (k : Nat) (a0 : List (List T)) (a1 : List (List T)) : Option Outs :=
  laws_sameAnss_U k a0 a1 (fun v => fixN (laws_sameAnss_l1 k a0 a1) k v)
def laws_sameAnss_it1 (k : Nat) (a0 : List (List T)) (a1 : List (List T)) (js : List Nat) (j : Nat) (s : St) : Option Outs := iter E (LB E (evalF E P0 k) k [] N.laws_sameAnss [.sr, .sr, .sl, .sr, .bl]) [] laws_sameAnss_k1 (LK E (evalF E P0 k) k [] N.laws_sameAnss [.v [.r a0], .v [.r a1]] [.sr, .sr, .sl, .sr, .bl] js) j s
theorem laws_sameAnss_e (k : Nat) (a0 : List (List T)) (a1 : List (List T)) : evalF E P0 (k + 1) N.laws_sameAnss [.v [.r a0], .v [.r a1]] = laws_sameAnss_u k a0 a1 := by
  have e0 : evalF E P0 (k + 1) N.laws_sameAnss [.v [.r a0], .v [.r a1]] = laws_sameAnss_U k a0 a1 (fun v => laws_sameAnss_it1 k a0 a1 [] k (laws_sameAnss_S1 a0 a1 v)) := by kernel_rfl
  have e1 : ∀ (j1 : Nat) (v : Int), laws_sameAnss_it1 k a0 a1 [] (j1 + 1) (laws_sameAnss_S1 a0 a1 v) = laws_sameAnss_L1 k a0 a1 (fun v => laws_sameAnss_it1 k a0 a1 [] j1 (laws_sameAnss_S1 a0 a1 v)) v := by
    intro j1 v; kernel_rfl
  have i1 : ∀ (j1 : Nat) (v : Int), laws_sameAnss_it1 k a0 a1 [] j1 (laws_sameAnss_S1 a0 a1 v) = fixN (laws_sameAnss_l1 k a0 a1) j1 v := by
    intro j1 v
    refine iter_fix (laws_sameAnss_S1 a0 a1) (laws_sameAnss_l1 k a0 a1) (fun j1 v => (e1 j1 v).trans ?_) j1 v
    unfold laws_sameAnss_l1
    rfl
  rw [e0]; unfold laws_sameAnss_u
  simp only [i1]
/- laws.FnOrders -/
def laws_FnOrders_J1 (k : Nat) (o4 : Outs) (o6 : Outs) (o14 : Outs) (c1 : Bool) : Option Outs :=
 bif c1 then
  some ⟨[.b false], []⟩
 else
  bif (decide (((o4.t 3).asR.length : Int) > 400)) then
   some ⟨[.b true], []⟩
  else
   bindO (evalF E P0 k N.impl_AnsOf [.v [.r (o4.t 3).asR]]) fun o24 =>
   bindO (evalF E P0 k N.laws_sameAnss [.v [.r (o14.t 1).asR], .v [.r (o24.t 0).asR]]) fun o25 =>
   some ⟨[.b ((o6.t 0).asB == (o25.t 0).asB)], []⟩
def laws_FnOrders_u (k : Nat) (a0 : List (List T)) : Option Outs :=
 bindO (evalF E P0 k N.laws_big [.v [.r a0]]) fun o2 =>
 bif (o2.t 0).asB then
  some ⟨[.b true], []⟩
 else
  bindO (evalF E P0 k N.spec_DrawFollows [.v [.r a0]]) fun o4 =>
  bindO (evalF E P0 k N.impl_Follows [.v [.i (o4.t 0).asI, .i (o4.t 1).asI], .v [.r (o4.t 2).asR], .v [.r (o4.t 3).asR]]) fun o6 =>
  bindO (evalF E P0 k N.impl_After [.v [.i (o4.t 0).asI, .i (o4.t 1).asI], .v [.r (o4.t 2).asR], .v [.r (o4.t 3).asR]]) fun o8 =>
  bindO (evalF E P0 k N.spec_DrawSameAns [.v [.r a0]]) fun o10 =>
  bindO (evalF E P0 k N.impl_CmdsOf [.v [.r (o4.t 3).asR]]) fun o13 =>
  bindO (evalF E P0 k N.impl_DoCmds [.v [.i (o4.t 0).asI, .i (o4.t 1).asI], .v [.r (o4.t 2).asR], .v [.r (o13.t 0).asR]]) fun o14 =>
  bindO (evalF E P0 k N.spec_Follows [.v [.i (o4.t 0).asI, .i (o4.t 1).asI], .v [.r (o4.t 2).asR], .v [.r (o4.t 3).asR]]) fun o21 =>
  bif (!((o6.t 0).asB == (o21.t 0).asB)) then
   laws_FnOrders_J1 k o4 o6 o14 true
  else
   bindO (evalF E P0 k N.spec_After [.v [.i (o4.t 0).asI, .i (o4.t 1).asI], .v [.r (o4.t 2).asR], .v [.r (o4.t 3).asR]]) fun o26 =>
   bindO (evalF E P0 k N.laws_sameInts [.v [.r (o8.t 0).asR], .v [.r (o26.t 0).asR]]) fun o27 =>
   bif (!(o27.t 0).asB) then
    laws_FnOrders_J1 k o4 o6 o14 true
   else
    bindO (evalF E P0 k N.laws_sameInts [.v [.r (o8.t 0).asR], .v [.r (o14.t 0).asR]]) fun o28 =>
    bif (!(o28.t 0).asB) then
     laws_FnOrders_J1 k o4 o6 o14 true
    else
     bindO (evalF E P0 k N.impl_SameAns [.v [.i (o10.t 0).asI, .i (o10.t 1).asI, .r (o10.t 2).asR], .v [.i (o10.t 3).asI, .i (o10.t 4).asI, .r (o10.t 5).asR]]) fun o29 =>
     bindO (evalF E P0 k N.laws_sameAns [.v [.i (o10.t 0).asI, .i (o10.t 1).asI, .r (o10.t 2).asR], .v [.i (o10.t 3).asI, .i (o10.t 4).asI, .r (o10.t 5).asR]]) fun o30 =>
     laws_FnOrders_J1 k o4 o6 o14 (!((o29.t 0).asB == (o30.t 0).asB))
theorem laws_FnOrders_e (k : Nat) (a0 : List (List T)) : evalF E P0 (k + 1) N.laws_FnOrders [.v [.r a0]] = laws_FnOrders_u k a0 := by kernel_rfl
/- spec.l6Secs -/
def spec_l6Secs_u (k : Nat) (a0_0 : Int) (a0_1 : Int) : Option Outs :=
 some ⟨[.i (IntKind.wrap .i64 (6 + a0_1))], []⟩
theorem spec_l6Secs_e (k : Nat) (a0_0 : Int) (a0_1 : Int) : evalF E P0 (k + 1) N.spec_l6Secs [.v [.i a0_0, .i a0_1]] = spec_l6Secs_u k a0_0 a0_1 := by kernel_rfl
/- spec.MemNew -/
def spec_MemNew_L1 (k : Nat) (a0 : Int) (G1 : (Int × List (List T)) → Option Outs) : (Int × List (List T)) → Option Outs := fun (v8, w8) =>
 bif (decide (v8 < a0)) then
  chk (decide ((w8.length + ([[.r []]] : List (List T)).length) * 24 ≤ 140737488355328)) <|
  G1 ((IntKind.wrap .i64 (v8 + 1)), (w8 ++ [[.r []]]))
 else
  some ⟨[.r w8, .r [], .b false, .r []], []⟩
def spec_MemNew_k1 : List Nat := [0, 2, 3, 4, 21]
def spec_MemNew_S1 (a0 : Int) : (Int × List (List T)) → St := fun (v8, w8) => ⟨ofSl [(0, .i .i64 a0), (2, .ptr (2, 0) 0), (3, .ptr (3, 0) 0), (4, .i .i64 v8), (21, .skip)], ofMem [((2, 0), .var [.ref (2, 1), .ref (2, 2), .b false, .ref (2, 4)]), ((2, 1), .row 39 true []), ((2, 2), .row 174 true []), ((2, 4), .row 3 true []), ((3, 0), .var [.ref (3, 1), .ref (3, 2), .b false, .ref (3, 4)]), ((3, 1), .row 39 true w8), ((3, 2), .row 174 true []), ((3, 4), .row 3 true [])]⟩
def spec_MemNew_l1 (k : Nat) (a0 : Int) (G1 : (Int × List (List T)) → Option Outs) : (Int × List (List T)) → Option Outs :=
  spec_MemNew_L1 k a0 G1
def spec_MemNew_U (k : Nat) (a0 : Int) (R1 : (Int × List (List T)) → Option Outs) : Option Outs :=
 bindO (evalF E P0 k N.spec_l1In [.v [.i a0], .v [.i 1], .v [.i 20]]) fun o2 =>
 bif (!(o2.t 0).asB) then some ⟨[.r [], .r [], .b false, .r []], []⟩ else R1 (0, [])
def spec_MemNew_u (k : Nat) (a0 : Int) : Option Outs :=
  spec_MemNew_U k a0 (fun v => fixN (spec_MemNew_l1 k a0) k v)
def spec_MemNew_it1 (k : Nat) (a0 : Int) (js : List Nat) (j : Nat) (s : St) : Option Outs := iter E (LB E (evalF E P0 k) k [] N.spec_MemNew [.sr, .sr, .sr, .sl, .sr, .bl]) [] spec_MemNew_k1 (LK E (evalF E P0 k) k [] N.spec_MemNew [.v [.i a0]] [.sr, .sr, .sr, .sl, .sr, .bl] js) j s
theorem spec_MemNew_e (k : Nat) (a0 : Int) : evalF E P0 (k + 1) N.spec_MemNew [.v [.i a0]] = spec_MemNew_u k a0 := by
  have e0 : evalF E P0 (k + 1) N.spec_MemNew [.v [.i a0]] = spec_MemNew_U k a0 (fun v => spec_MemNew_it1 k a0 [] k (spec_MemNew_S1 a0 v)) := by kernel_rfl
  have e1 : ∀ (j1 : Nat) (v : Int × List (List T)), spec_MemNew_it1 k a0 [] (j1 + 1) (spec_MemNew_S1 a0 v) = spec_MemNew_L1 k a0 (fun v => spec_MemNew_it1 k a0 [] j1 (spec_MemNew_S1 a0 v)) v := by
    intro j1 v; kernel_rfl
  have i1 : ∀ (j1 : Nat) (v : Int × List (List T)), spec_MemNew_it1 k a0 [] j1 (spec_MemNew_S1 a0 v) = fixN (spec_MemNew_l1 k a0) j1 v := by
    intro j1 v
    refine iter_fix (spec_MemNew_S1 a0) (spec_MemNew_l1 k a0) (fun j1 v => (e1 j1 v).trans ?_) j1 v
    unfold spec_MemNew_l1
    rfl
  rw [e0]; unfold spec_MemNew_u
  simp only [i1]
/- spec.SuperOk -/
def spec_SuperOk_J1 (k : Nat) (a0_3 : Int) (a0_4 : Int) (a0_6 : Int) (a0_7 : Int) (c1 : Bool) : Option Outs :=
 bif c1 then
  some ⟨[.b false], []⟩
 else
  bindO (evalF E P0 k N.spec_l1In [.v [.i a0_6], .v [.i (-1)], .v [.i (IntKind.wrap .i64 (a0_3 - 1))]]) fun o9 =>
  bif (o9.t 0).asB then
   bindO (evalF E P0 k N.spec_l1In [.v [.i a0_7], .v [.i 0], .v [.i a0_4]]) fun o10 =>
   bif (o10.t 0).asB then
    bif (decide (a0_6 ≥ 0)) then some ⟨[.b true], []⟩ else some ⟨[.b (a0_7 == 0)], []⟩
   else
    some ⟨[.b false], []⟩
  else
   some ⟨[.b false], []⟩
def spec_SuperOk_u (k : Nat) (a0_0 : Int) (a0_1 : Int) (a0_2 : Int) (a0_3 : Int) (a0_4 : Int) (a0_5 : Int) (a0_6 : Int) (a0_7 : Int) : Option Outs :=
 bindO (evalF E P0 k N.spec_GeoOk [.v [.i a0_3, .i a0_4]]) fun o6 =>
 bif (!(o6.t 0).asB) then
  spec_SuperOk_J1 k a0_3 a0_4 a0_6 a0_7 true
 else
  bindO (evalF E P0 k N.spec_l1In [.v [.i a0_0], .v [.i 1], .v [.i 60000]]) fun o11 =>
  bif (!(o11.t 0).asB) then
   spec_SuperOk_J1 k a0_3 a0_4 a0_6 a0_7 true
  else
   bindO (evalF E P0 k N.spec_l1In [.v [.i a0_1], .v [.i 0], .v [.i 60000]]) fun o12 =>
   bif (!(o12.t 0).asB) then
    spec_SuperOk_J1 k a0_3 a0_4 a0_6 a0_7 true
   else
    bindO (evalF E P0 k N.spec_l1In [.v [.i a0_2], .v [.i 0], .v [.i (IntKind.wrap .i64 (a0_3 - 1))]]) fun o13 =>
    bif (!(o13.t 0).asB) then
     spec_SuperOk_J1 k a0_3 a0_4 a0_6 a0_7 true
    else
     bindO (evalF E P0 k N.spec_l1In [.v [.i a0_5], .v [.i 0], .v [.i 60000]]) fun o14 =>
     spec_SuperOk_J1 k a0_3 a0_4 a0_6 a0_7 (!(o14.t 0).asB)
theorem spec_SuperOk_e (k : Nat) (a0_0 : Int) (a0_1 : Int) (a0_2 : Int) (a0_3 : Int) (a0_4 : Int) (a0_5 : Int) (a0_6 : Int) (a0_7 : Int) : evalF E P0 (k + 1) N.spec_SuperOk [.v [.i a0_0, .i a0_1, .i a0_2, .i a0_3, .i a0_4, .i a0_5, .i a0_6, .i a0_7]] = spec_SuperOk_u k a0_0 a0_1 a0_2 a0_3 a0_4 a0_5 a0_6 a0_7 := by kernel_rfl
/- spec.PutSuper -/
def spec_PutSuper_u (k : Nat) (a0_0 : Int) (a0_1 : Int) (a0_2 : Int) (a0_3 : Int) (a0_4 : Int) (a0_5 : Int) (a0_6 : Int) (a0_7 : Int) : Option Outs :=
 bindO (evalF E P0 k N.spec_SuperOk [.v [.i a0_0, .i a0_1, .i a0_2, .i a0_3, .i a0_4, .i a0_5, .i a0_6, .i a0_7]]) fun o2 =>
 bif (!(o2.t 0).asB) then
  some ⟨[.r []], []⟩
 else
  some ⟨[.r [[.i 21317], [.i a0_0], [.i a0_1], [.i a0_2], [.i a0_3], [.i a0_4], [.i a0_5], [.i (IntKind.wrap .i64 (a0_6 + 1))], [.i a0_7]]], []⟩
theorem spec_PutSuper_e (k : Nat) (a0_0 : Int) (a0_1 : Int) (a0_2 : Int) (a0_3 : Int) (a0_4 : Int) (a0_5 : Int) (a0_6 : Int) (a0_7 : Int) : evalF E P0 (k + 1) N.spec_PutSuper [.v [.i a0_0, .i a0_1, .i a0_2, .i a0_3, .i a0_4, .i a0_5, .i a0_6, .i a0_7]] = spec_PutSuper_u k a0_0 a0_1 a0_2 a0_3 a0_4 a0_5 a0_6 a0_7 := by kernel_rfl
/- spec.DataAt -/
def spec_DataAt_u (k : Nat) (a0 : Int) : Option Outs :=
 bindO (evalF E P0 k N.spec_l1In [.v [.i a0], .v [.i 0], .v [.i 1099511627776]]) fun o2 =>
 bif (!(o2.t 0).asB) then
  some ⟨[.i (-1)], []⟩
 else
  some ⟨[.i (IntKind.wrap .i64 ((IntKind.wrap .i64 (a0 + 2)) + 4))], []⟩
theorem spec_DataAt_e (k : Nat) (a0 : Int) : evalF E P0 (k + 1) N.spec_DataAt [.v [.i a0]] = spec_DataAt_u k a0 := by kernel_rfl
/- spec.ArrNew -/
def spec_ArrNew_L2 (k : Nat) (a0 : Int) (a1_0 : Int) (a1_1 : Int) (o2545 : Outs) (v360 : Int) (w360 : List (List T)) (G1 : (Int × List (List T)) → Option Outs) (G2 : (Int × List (List T)) → Option Outs) : (Int × List (List T)) → Option Outs := fun (v392, w392) =>
 bif (decide (v392 < a1_1)) then
  bindO (evalF E P0 k N.spec_DataAt [.v [.i v392]]) fun o2595 =>
  chk (decide (0 ≤ (o2595.t 0).asI) && decide ((o2595.t 0).asI < (w392.length : Int))) <|
  G2 ((IntKind.wrap .i64 (v392 + 1)), (put_ w392 (o2595.t 0).asI.toNat 0 [.r [[.i 0]]]))
 else
  chk (decide ((w360.length + ([[.r w392, .r (o2545.t 1).asR, .b (o2545.t 2).asB, .r (o2545.t 3).asR]] : List (List T)).length) * 80 ≤ 140737488355328)) <|
  G1 ((IntKind.wrap .i64 (v360 + 1)), (w360 ++ [[.r w392, .r (o2545.t 1).asR, .b (o2545.t 2).asB, .r (o2545.t 3).asR]]))
def spec_ArrNew_k2 : List Nat := [0, 3, 4, 5, 6, 7, 8, 25, 26, 53, 54, 55, 56, 57, 58, 59]
def spec_ArrNew_S2 (a0 : Int) (a1_0 : Int) (a1_1 : Int) (o2545 : Outs) (v360 : Int) (w360 : List (List T)) : (Int × List (List T)) → St := fun (v392, w392) => ⟨ofSl [(0, .i .i64 a0), (3, .ptr (3, 0) 0), (4, .ptr (4, 0) 0), (5, .ptr (5, 0) 0), (6, .i .i64 v360), (7, .ptr (7, 0) 0), (8, .i .i64 v392), (25, .undef), (26, .undef), (53, .undef), (54, .undef), (55, .undef), (56, .undef), (57, .undef), (58, .undef), (59, .skip)], ofMem [((3, 0), .var [.i .i64 a1_0, .i .i64 a1_1]), ((4, 0), .var [.i .i64 0, .i .i64 0, .i .i64 0, .ref (4, 4), .i .i64 0, .i .i64 0, .i .i64 0, .i .i64 0, .i .i64 0, .ref (4, 10), .i .i64 0, .b false, .b false]), ((4, 4), .row 139 true []), ((4, 10), .row 166 true []), ((5, 0), .var [.i .i64 a0, .i .i64 a1_0, .i .i64 a1_1, .ref (5, 4), .i .i64 (-1), .i .i64 0, .i .i64 0, .i .i64 0, .i .i64 0, .ref (5, 10), .i .i64 (-1), .b false, .b false]), ((5, 4), .row 139 true w360), ((5, 10), .row 166 true []), ((7, 0), .var [.ref (7, 1), .ref (7, 2), .b (o2545.t 2).asB, .ref (7, 4)]), ((7, 1), .row 39 true w392), ((7, 2), .row 174 true (o2545.t 1).asR), ((7, 4), .row 3 true (o2545.t 3).asR)]⟩
def spec_ArrNew_L1 (k : Nat) (a0 : Int) (a1_0 : Int) (a1_1 : Int) (R2 : Outs → Int → List (List T) → (Int × List (List T)) → Option Outs) (G1 : (Int × List (List T)) → Option Outs) : (Int × List (List T)) → Option Outs := fun (v360, w360) =>
 bif (decide (v360 < a1_0)) then
  bindO (evalF E P0 k N.spec_l6Secs [.v [.i a1_0, .i a1_1]]) fun o2544 =>
  bindO (evalF E P0 k N.spec_MemNew [.v [.i (o2544.t 0).asI]]) fun o2545 =>
  bindO (evalF E P0 k N.spec_PutSuper [.v [.i a0, .i 0, .i v360, .i a1_0, .i a1_1, .i 0, .i (-1), .i 0]]) fun o2547 =>
  chk (decide ((0 : Int) < ((o2545.t 0).asR.length : Int))) <|
  R2 o2545 v360 w360 (0, (put_ (o2545.t 0).asR 0 0 [.r (o2547.t 0).asR]))
 else
  some ⟨[.i a0, .i a1_0, .i a1_1, .r w360, .i (-1), .i 0, .i 0, .i 0, .i 0, .r [], .i (-1), .b false, .b false], []⟩
def spec_ArrNew_k1 : List Nat := [0, 3, 4, 5, 6, 59]
def spec_ArrNew_S1 (a0 : Int) (a1_0 : Int) (a1_1 : Int) : (Int × List (List T)) → St := fun (v360, w360) => ⟨ofSl [(0, .i .i64 a0), (3, .ptr (3, 0) 0), (4, .ptr (4, 0) 0), (5, .ptr (5, 0) 0), (6, .i .i64 v360), (59, .skip)], ofMem [((3, 0), .var [.i .i64 a1_0, .i .i64 a1_1]), ((4, 0), .var [.i .i64 0, .i .i64 0, .i .i64 0, .ref (4, 4), .i .i64 0, .i .i64 0, .i .i64 0, .i .i64 0, .i .i64 0, .ref (4, 10), .i .i64 0, .b false, .b false]), ((4, 4), .row 139 true []), ((4, 10), .row 166 true []), ((5, 0), .var [.i .i64 a0, .i .i64 a1_0, .i .i64 a1_1, .ref (5, 4), .i .i64 (-1), .i .i64 0, .i .i64 0, .i .i64 0, .i .i64 0, .ref (5, 10), .i .i64 (-1), .b false, .b false]), ((5, 4), .row 139 true w360), ((5, 10), .row 166 true [])]⟩
def spec_ArrNew_J1 (k : Nat) (R1 : (Int × List (List T)) → Option Outs) (c1 : Bool) : Option Outs :=
 bif c1 then
  some ⟨[.i 0, .i 0, .i 0, .r [], .i 0, .i 0, .i 0, .i 0, .i 0, .r [], .i 0, .b false, .b false], []⟩
 else
  R1 (0, [])
def spec_ArrNew_l2 (k : Nat) (a0 : Int) (a1_0 : Int) (a1_1 : Int) (o2545 : Outs) (v360 : Int) (w360 : List (List T)) (G1 : (Int × List (List T)) → Option Outs) (G2 : (Int × List (List T)) → Option Outs) : (Int × List (List T)) → Option Outs :=
  spec_ArrNew_L2 k a0 a1_0 a1_1 o2545 v360 w360 G1 G2
def spec_ArrNew_l1 (k : Nat) (a0 : Int) (a1_0 : Int) (a1_1 : Int) (G1 : (Int × List (List T)) → Option Outs) : (Int × List (List T)) → Option Outs :=
  spec_ArrNew_L1 k a0 a1_0 a1_1 (fun y0 y1 y2 v => fixN (spec_ArrNew_l2 k a0 a1_0 a1_1 y0 y1 y2 G1) k v) G1
def spec_ArrNew_U (k : Nat) (a0 : Int) (a1_0 : Int) (a1_1 : Int) (R1 : (Int × List (List T)) → Option Outs) : Option Outs :=
 bindO (evalF E P0 k N.spec_GeoOk [.v [.i a1_0, .i a1_1]]) fun o3 =>
 bif (!(o3.t 0).asB) then
  spec_ArrNew_J1 k R1 true
 else
  bindO (evalF E P0 k N.spec_l1In [.v [.i a0], .v [.i 1], .v [.i 60000]]) fun o2596 =>
  spec_ArrNew_J1 k R1 (!(o2596.t 0).asB)
def spec_ArrNew_u (k : Nat) (a0 : Int) (a1_0 : Int) (a1_1 : Int) : Option Outs :=
  spec_ArrNew_U k a0 a1_0 a1_1 (fun v => fixN (spec_ArrNew_l1 k a0 a1_0 a1_1) k v)
def spec_ArrNew_it1 (k : Nat) (a0 : Int) (a1_0 : Int) (a1_1 : Int) (js : List Nat) (j : Nat) (s : St) : Option Outs := iter E (LB E (evalF E P0 k) k [] N.spec_ArrNew [.sr, .sr, .sr, .sl, .sr, .bl]) [] spec_ArrNew_k1 (LK E (evalF E P0 k) k [] N.spec_ArrNew [.v [.i a0], .v [.i a1_0, .i a1_1]] [.sr, .sr, .sr, .sl, .sr, .bl] js) j s
def spec_ArrNew_it2 (k : Nat) (a0 : Int) (a1_0 : Int) (a1_1 : Int) (js : List Nat) (j : Nat) (s : St) : Option Outs := iter E (LB E (evalF E P0 k) k [] N.spec_ArrNew [.sr, .sr, .sr, .sl, .sr, .bl, .lp, .sr, .sl, .bl, .sr, .sr, .sl, .sr, .bl]) [] spec_ArrNew_k2 (LK E (evalF E P0 k) k [] N.spec_ArrNew [.v [.i a0], .v [.i a1_0, .i a1_1]] [.sr, .sr, .sr, .sl, .sr, .bl, .lp, .sr, .sl, .bl, .sr, .sr, .sl, .sr, .bl] js) j s
theorem spec_ArrNew_e (k : Nat) (a0 : Int) (a1_0 : Int) (a1_1 : Int) : evalF E P0 (k + 1) N.spec_ArrNew [.v [.i a0], .v [.i a1_0, .i a1_1]] = spec_ArrNew_u k a0 a1_0 a1_1 := by
  have e0 : evalF E P0 (k + 1) N.spec_ArrNew [.v [.i a0], .v [.i a1_0, .i a1_1]] = spec_ArrNew_U k a0 a1_0 a1_1 (fun v => spec_ArrNew_it1 k a0 a1_0 a1_1 [] k (spec_ArrNew_S1 a0 a1_0 a1_1 v)) := by kernel_rfl
  have e2 : ∀ (j1 : Nat) (o2545 : Outs) (v360 : Int) (w360 : List (List T)) (j2 : Nat) (v : Int × List (List T)), spec_ArrNew_it2 k a0 a1_0 a1_1 [j1] (j2 + 1) (spec_ArrNew_S2 a0 a1_0 a1_1 o2545 v360 w360 v) = spec_ArrNew_L2 k a0 a1_0 a1_1 o2545 v360 w360 (fun v => spec_ArrNew_it1 k a0 a1_0 a1_1 [] j1 (spec_ArrNew_S1 a0 a1_0 a1_1 v)) (fun v => spec_ArrNew_it2 k a0 a1_0 a1_1 [j1] j2 (spec_ArrNew_S2 a0 a1_0 a1_1 o2545 v360 w360 v)) v := by
    intro j1 o2545 v360 w360 j2 v; kernel_rfl
  have i2 : ∀ (j1 : Nat) (o2545 : Outs) (v360 : Int) (w360 : List (List T)) (j2 : Nat) (v : Int × List (List T)), spec_ArrNew_it2 k a0 a1_0 a1_1 [j1] j2 (spec_ArrNew_S2 a0 a1_0 a1_1 o2545 v360 w360 v) = fixN (spec_ArrNew_l2 k a0 a1_0 a1_1 o2545 v360 w360 (fun v => spec_ArrNew_it1 k a0 a1_0 a1_1 [] j1 (spec_ArrNew_S1 a0 a1_0 a1_1 v))) j2 v := by
    intro j1 o2545 v360 w360 j2 v
    refine iter_fix (spec_ArrNew_S2 a0 a1_0 a1_1 o2545 v360 w360) (spec_ArrNew_l2 k a0 a1_0 a1_1 o2545 v360 w360 (fun v => spec_ArrNew_it1 k a0 a1_0 a1_1 [] j1 (spec_ArrNew_S1 a0 a1_0 a1_1 v))) (fun j2 v => (e2 j1 o2545 v360 w360 j2 v).trans ?_) j2 v
    unfold spec_ArrNew_l2
    rfl
  have e1 : ∀ (j1 : Nat) (v : Int × List (List T)), spec_ArrNew_it1 k a0 a1_0 a1_1 [] (j1 + 1) (spec_ArrNew_S1 a0 a1_0 a1_1 v) = spec_ArrNew_L1 k a0 a1_0 a1_1 (fun y0 y1 y2 v => spec_ArrNew_it2 k a0 a1_0 a1_1 [j1] k (spec_ArrNew_S2 a0 a1_0 a1_1 y0 y1 y2 v)) (fun v => spec_ArrNew_it1 k a0 a1_0 a1_1 [] j1 (spec_ArrNew_S1 a0 a1_0 a1_1 v)) v := by
    intro j1 v; kernel_rfl
  have i1 : ∀ (j1 : Nat) (v : Int × List (List T)), spec_ArrNew_it1 k a0 a1_0 a1_1 [] j1 (spec_ArrNew_S1 a0 a1_0 a1_1 v) = fixN (spec_ArrNew_l1 k a0 a1_0 a1_1) j1 v := by
    intro j1 v
    refine iter_fix (spec_ArrNew_S1 a0 a1_0 a1_1) (spec_ArrNew_l1 k a0 a1_0 a1_1) (fun j1 v => (e1 j1 v).trans ?_) j1 v
    unfold spec_ArrNew_l1
    simp only [i2] <;> rfl
  rw [e0]; unfold spec_ArrNew_u
  simp only [i1]
/- spec.EngNew -/
def spec_EngNew_u (k : Nat) (a0 : Int) (a1_0 : Int) (a1_1 : Int) : Option Outs :=
 bindO (evalF E P0 k N.spec_ArrNew [.v [.i a0], .v [.i a1_0, .i a1_1]]) fun o2 =>
 some ⟨[.i (o2.t 0).asI, .i (o2.t 1).asI, .i (o2.t 2).asI, .r (o2.t 3).asR, .i (o2.t 4).asI, .i (o2.t 5).asI, .i (o2.t 6).asI, .i (o2.t 7).asI, .i (o2.t 8).asI, .r (o2.t 9).asR, .i (o2.t 10).asI, .b (o2.t 11).asB, .b (o2.t 12).asB, .r [], .r [], .r [], .r []], []⟩
theorem spec_EngNew_e (k : Nat) (a0 : Int) (a1_0 : Int) (a1_1 : Int) : evalF E P0 (k + 1) N.spec_EngNew [.v [.i a0], .v [.i a1_0, .i a1_1]] = spec_EngNew_u k a0 a1_0 a1_1 := by kernel_rfl
/- impl.sectors -/
def impl_sectors_u (k : Nat) (a0_0 : Int) (a0_1 : Int) : Option Outs :=
 some ⟨[.i (IntKind.wrap .i64 (6 + a0_1))], []⟩
theorem impl_sectors_e (k : Nat) (a0_0 : Int) (a0_1 : Int) : evalF E P0 (k + 1) N.impl_sectors [.v [.i a0_0, .i a0_1]] = impl_sectors_u k a0_0 a0_1 := by kernel_rfl
/- impl.MemNew -/
def impl_MemNew_u (k : Nat) (a0 : Int) : Option Outs :=
 bindO (evalF E P0 k N.impl_within [.v [.i a0], .v [.i 1], .v [.i 20]]) fun o2 =>
 bif (!(o2.t 0).asB) then
  some ⟨[.r [], .r [], .b false, .r []], []⟩
 else
  chk (decide (a0 = a0) && decide (0 ≤ a0) && decide (a0 * ((24 : Nat) : Int) ≤ 140737488355328)) <|
  some ⟨[.r (List.replicate (a0 : Int).toNat [.r []]), .r [], .b false, .r []], []⟩
theorem impl_MemNew_e (k : Nat) (a0 : Int) : evalF E P0 (k + 1) N.impl_MemNew [.v [.i a0]] = impl_MemNew_u k a0 := by kernel_rfl
/- impl.superOf -/
def impl_superOf_u (k : Nat) (a0_0 : Int) (a0_1 : Int) (a0_2 : Int) (a0_3 : List (List T)) (a0_4 : Int) (a0_5 : Int) (a0_6 : Int) (a0_7 : Int) (a0_8 : Int) (a0_9 : List (List T)) (a0_10 : Int) (a0_11 : Bool) (a0_12 : Bool) (a1 : Int) : Option Outs :=
 some ⟨[.i a0_0, .i a0_8, .i a1, .i a0_1, .i a0_2, .i a0_7, .i a0_4, .i a0_5], []⟩
theorem impl_superOf_e (k : Nat) (a0_0 : Int) (a0_1 : Int) (a0_2 : Int) (a0_3 : List (List T)) (a0_4 : Int) (a0_5 : Int) (a0_6 : Int) (a0_7 : Int) (a0_8 : Int) (a0_9 : List (List T)) (a0_10 : Int) (a0_11 : Bool) (a0_12 : Bool) (a1 : Int) : evalF E P0 (k + 1) N.impl_superOf [.v [.i a0_0, .i a0_1, .i a0_2, .r a0_3, .i a0_4, .i a0_5, .i a0_6, .i a0_7, .i a0_8, .r a0_9, .i a0_10, .b a0_11, .b a0_12], .v [.i a1]] = impl_superOf_u k a0_0 a0_1 a0_2 a0_3 a0_4 a0_5 a0_6 a0_7 a0_8 a0_9 a0_10 a0_11 a0_12 a1 := by kernel_rfl
/- impl.lostOk -/
def impl_lostOk_u (k : Nat) (a0_0 : Int) (a0_1 : Int) (a1 : Int) (a2 : Int) : Option Outs :=
 bindO (evalF E P0 k N.impl_within [.v [.i a1], .v [.i (-1)], .v [.i (IntKind.wrap .i64 (a0_0 - 1))]]) fun o3 =>
 bif (o3.t 0).asB then
  bindO (evalF E P0 k N.impl_within [.v [.i a2], .v [.i 0], .v [.i a0_1]]) fun o4 =>
  bif (o4.t 0).asB then
   bif (a2 == 0) then some ⟨[.b true], []⟩ else some ⟨[.b (a1 != (-1))], []⟩
  else
   some ⟨[.b false], []⟩
 else
  some ⟨[.b false], []⟩
theorem impl_lostOk_e (k : Nat) (a0_0 : Int) (a0_1 : Int) (a1 : Int) (a2 : Int) : evalF E P0 (k + 1) N.impl_lostOk [.v [.i a0_0, .i a0_1], .v [.i a1], .v [.i a2]] = impl_lostOk_u k a0_0 a0_1 a1 a2 := by kernel_rfl
/- impl.SuperOk -/
def impl_SuperOk_J1 (k : Nat) (a0_2 : Int) (a0_3 : Int) (a0_4 : Int) (a0_6 : Int) (a0_7 : Int) (c1 : Bool) : Option Outs :=
 bif c1 then
  bindO (evalF E P0 k N.impl_GeoOk [.v [.i a0_3, .i a0_4]]) fun o10 =>
  bif (o10.t 0).asB then
   bindO (evalF E P0 k N.impl_within [.v [.i a0_2], .v [.i 0], .v [.i (IntKind.wrap .i64 (a0_3 - 1))]]) fun o11 =>
   bif (o11.t 0).asB then
    bindO (evalF E P0 k N.impl_lostOk [.v [.i a0_3, .i a0_4], .v [.i a0_6], .v [.i a0_7]]) fun o12 =>
    some ⟨[.b (o12.t 0).asB], []⟩
   else
    some ⟨[.b false], []⟩
  else
   some ⟨[.b false], []⟩
 else
  some ⟨[.b false], []⟩
def impl_SuperOk_u (k : Nat) (a0_0 : Int) (a0_1 : Int) (a0_2 : Int) (a0_3 : Int) (a0_4 : Int) (a0_5 : Int) (a0_6 : Int) (a0_7 : Int) : Option Outs :=
 bindO (evalF E P0 k N.impl_within [.v [.i a0_0], .v [.i 1], .v [.i 60000]]) fun o4 =>
 bif (o4.t 0).asB then
  bindO (evalF E P0 k N.impl_within [.v [.i a0_1], .v [.i 0], .v [.i 60000]]) fun o5 =>
  bif (o5.t 0).asB then
   bindO (evalF E P0 k N.impl_within [.v [.i a0_5], .v [.i 0], .v [.i 60000]]) fun o6 =>
   impl_SuperOk_J1 k a0_2 a0_3 a0_4 a0_6 a0_7 ((o6.t 0).asB)
  else
   impl_SuperOk_J1 k a0_2 a0_3 a0_4 a0_6 a0_7 false
 else
  impl_SuperOk_J1 k a0_2 a0_3 a0_4 a0_6 a0_7 false
theorem impl_SuperOk_e (k : Nat) (a0_0 : Int) (a0_1 : Int) (a0_2 : Int) (a0_3 : Int) (a0_4 : Int) (a0_5 : Int) (a0_6 : Int) (a0_7 : Int) : evalF E P0 (k + 1) N.impl_SuperOk [.v [.i a0_0, .i a0_1, .i a0_2, .i a0_3, .i a0_4, .i a0_5, .i a0_6, .i a0_7]] = impl_SuperOk_u k a0_0 a0_1 a0_2 a0_3 a0_4 a0_5 a0_6 a0_7 := by kernel_rfl
/- impl.copyMem -/
def impl_copyMem_L2 (k : Nat) (a0_1 : List (List T)) (a0_2 : Bool) (o2 : Outs) (w8 : List (List T)) (G2 : (Int × List (List T)) → Option Outs) : (Int × List (List T)) → Option Outs := fun (v16, w16) =>
 bif (decide (v16 < (a0_1.length : Int))) then
  chk (decide (0 ≤ v16) && decide (v16 < (a0_1.length : Int))) <|
  bindO (evalF E P0 k N.impl_copyInts [.v [.r (at_ a0_1 v16.toNat 1).asR]]) fun o98 =>
  chk (decide ((w16.length + ([[.i (at_ a0_1 v16.toNat 0).asI, .r (o98.t 0).asR]] : List (List T)).length) * 32 ≤ 140737488355328)) <|
  G2 ((IntKind.wrap .i64 (v16 + 1)), (w16 ++ [[.i (at_ a0_1 v16.toNat 0).asI, .r (o98.t 0).asR]]))
 else
  some ⟨[.r w8, .r w16, .b a0_2, .r (o2.t 0).asR], []⟩
def impl_copyMem_k2 : List Nat := [2, 3, 30, 31, 32, 48]
def impl_copyMem_S2 (a0_1 : List (List T)) (a0_2 : Bool) (o2 : Outs) (w8 : List (List T)) : (Int × List (List T)) → St := fun (v16, w16) => ⟨ofSl [(2, .ptr (2, 0) 0), (3, .ptr (3, 0) 0), (30, .sl 174 a0_1), (31, .i .i64 (a0_1.length : Int)), (32, .i .i64 v16), (48, .skip)], ofMem [((2, 0), .var [.ref (2, 1), .ref (2, 2), .b false, .ref (2, 4)]), ((2, 1), .row 39 true []), ((2, 2), .row 174 true []), ((2, 4), .row 3 true []), ((3, 0), .var [.ref (3, 1), .ref (3, 2), .b a0_2, .ref (3, 4)]), ((3, 1), .row 39 true w8), ((3, 2), .row 174 true w16), ((3, 4), .row 3 true (o2.t 0).asR)]⟩
def impl_copyMem_L1 (k : Nat) (a0_0 : List (List T)) (a0_1 : List (List T)) (a0_2 : Bool) (a0_3 : List (List T)) (o2 : Outs) (R2 : Outs → List (List T) → (Int × List (List T)) → Option Outs) (G1 : (Int × List (List T)) → Option Outs) : (Int × List (List T)) → Option Outs := fun (v8, w8) =>
 bif (decide (v8 < (a0_0.length : Int))) then
  chk (decide (0 ≤ v8) && decide (v8 < (a0_0.length : Int))) <|
  bindO (evalF E P0 k N.impl_copyInts [.v [.r (at_ a0_0 v8.toNat 0).asR]]) fun o50 =>
  chk (decide ((w8.length + ([[.r (o50.t 0).asR]] : List (List T)).length) * 24 ≤ 140737488355328)) <|
  G1 ((IntKind.wrap .i64 (v8 + 1)), (w8 ++ [[.r (o50.t 0).asR]]))
 else
  R2 o2 w8 (0, [])
def impl_copyMem_k1 : List Nat := [1, 2, 3, 7, 15, 16, 17, 29, 30, 31, 32, 33, 34, 35, 36, 37, 38, 39, 40, 41, 42, 43, 44, 45, 46, 47, 48]
def impl_copyMem_S1 (a0_0 : List (List T)) (a0_1 : List (List T)) (a0_2 : Bool) (a0_3 : List (List T)) (o2 : Outs) : (Int × List (List T)) → St := fun (v8, w8) => ⟨ofSl [(1, .ptr (1, 0) 0), (2, .ptr (2, 0) 0), (3, .ptr (3, 0) 0), (7, .skip), (15, .sl 39 a0_0), (16, .i .i64 (a0_0.length : Int)), (17, .i .i64 v8), (29, .skip), (30, .skip), (31, .skip), (32, .skip), (33, .skip), (34, .skip), (35, .skip), (36, .skip), (37, .skip), (38, .skip), (39, .skip), (40, .skip), (41, .skip), (42, .skip), (43, .skip), (44, .skip), (45, .skip), (46, .skip), (47, .skip), (48, .skip)], ofMem [((1, 0), .var [.sl 39 a0_0, .sl 174 a0_1, .b a0_2, .sl 3 a0_3]), ((2, 0), .var [.ref (2, 1), .ref (2, 2), .b false, .ref (2, 4)]), ((2, 1), .row 39 true []), ((2, 2), .row 174 true []), ((2, 4), .row 3 true []), ((3, 0), .var [.ref (3, 1), .ref (3, 2), .b a0_2, .ref (3, 4)]), ((3, 1), .row 39 true w8), ((3, 2), .row 174 true []), ((3, 4), .row 3 true (o2.t 0).asR)]⟩
def impl_copyMem_l2 (k : Nat) (a0_1 : List (List T)) (a0_2 : Bool) (o2 : Outs) (w8 : List (List T)) (G2 : (Int × List (List T)) → Option Outs) : (Int × List (List T)) → Option Outs :=
  impl_copyMem_L2 k a0_1 a0_2 o2 w8 G2
def impl_copyMem_l1 (k : Nat) (a0_0 : List (List T)) (a0_1 : List (List T)) (a0_2 : Bool) (a0_3 : List (List T)) (o2 : Outs) (G1 : (Int × List (List T)) → Option Outs) : (Int × List (List T)) → Option Outs :=
  impl_copyMem_L1 k a0_0 a0_1 a0_2 a0_3 o2 (fun y0 y1 v => fixN (impl_copyMem_l2 k a0_1 a0_2 y0 y1) k v) G1
def impl_copyMem_U (k : Nat) (a0_0 : List (List T)) (a0_1 : List (List T)) (a0_2 : Bool) (a0_3 : List (List T)) (R1 : Outs → (Int × List (List T)) → Option Outs) : Option Outs :=
 bindO (evalF E P0 k N.impl_copyInts [.v [.r a0_3]]) fun o2 =>
 R1 o2 (0, [])
def impl_copyMem_u (k : Nat) (a0_0 : List (List T)) (a0_1 : List (List T)) (a0_2 : Bool) (a0_3 : List (List T)) : Option Outs :=
  impl_copyMem_U k a0_0 a0_1 a0_2 a0_3 (fun y0 v => fixN (impl_copyMem_l1 k a0_0 a0_1 a0_2 a0_3 y0) k v)
def impl_copyMem_it1 (k : Nat) (a0_0 : List (List T)) (a0_1 : List (List T)) (a0_2 : Bool) (a0_3 : List (List T)) (js : List Nat) (j : Nat) (s : St) : Option Outs := iter E (LB E (evalF E P0 k) k [] N.impl_copyMem [.sr, .sr, .sl, .sr, .bl]) [] impl_copyMem_k1 (LK E (evalF E P0 k) k [] N.impl_copyMem [.v [.r a0_0, .r a0_1, .b a0_2, .r a0_3]] [.sr, .sr, .sl, .sr, .bl] js) j s
def impl_copyMem_it2 (k : Nat) (a0_0 : List (List T)) (a0_1 : List (List T)) (a0_2 : Bool) (a0_3 : List (List T)) (js : List Nat) (j : Nat) (s : St) : Option Outs := iter E (LB E (evalF E P0 k) k [] N.impl_copyMem [.sr, .sr, .sr, .sl, .sr, .bl]) [] impl_copyMem_k2 (LK E (evalF E P0 k) k [] N.impl_copyMem [.v [.r a0_0, .r a0_1, .b a0_2, .r a0_3]] [.sr, .sr, .sr, .sl, .sr, .bl] js) j s
theorem impl_copyMem_e (k : Nat) (a0_0 : List (List T)) (a0_1 : List (List T)) (a0_2 : Bool) (a0_3 : List (List T)) : evalF E P0 (k + 1) N.impl_copyMem [.v [.r a0_0, .r a0_1, .b a0_2, .r a0_3]] = impl_copyMem_u k a0_0 a0_1 a0_2 a0_3 := by
  have e0 : evalF E P0 (k + 1) N.impl_copyMem [.v [.r a0_0, .r a0_1, .b a0_2, .r a0_3]] = impl_copyMem_U k a0_0 a0_1 a0_2 a0_3 (fun y0 v => impl_copyMem_it1 k a0_0 a0_1 a0_2 a0_3 [] k (impl_copyMem_S1 a0_0 a0_1 a0_2 a0_3 y0 v)) := by kernel_rfl
  have e2 : ∀ (o2 : Outs) (w8 : List (List T)) (j2 : Nat) (v : Int × List (List T)), impl_copyMem_it2 k a0_0 a0_1 a0_2 a0_3 [] (j2 + 1) (impl_copyMem_S2 a0_1 a0_2 o2 w8 v) = impl_copyMem_L2 k a0_1 a0_2 o2 w8 (fun v => impl_copyMem_it2 k a0_0 a0_1 a0_2 a0_3 [] j2 (impl_copyMem_S2 a0_1 a0_2 o2 w8 v)) v := by
    intro o2 w8 j2 v; kernel_rfl
  have i2 : ∀ (o2 : Outs) (w8 : List (List T)) (j2 : Nat) (v : Int × List (List T)), impl_copyMem_it2 k a0_0 a0_1 a0_2 a0_3 [] j2 (impl_copyMem_S2 a0_1 a0_2 o2 w8 v) = fixN (impl_copyMem_l2 k a0_1 a0_2 o2 w8) j2 v := by
    intro o2 w8 j2 v
    refine iter_fix (impl_copyMem_S2 a0_1 a0_2 o2 w8) (impl_copyMem_l2 k a0_1 a0_2 o2 w8) (fun j2 v => (e2 o2 w8 j2 v).trans ?_) j2 v
    unfold impl_copyMem_l2
    rfl
  have e1 : ∀ (o2 : Outs) (j1 : Nat) (v : Int × List (List T)), impl_copyMem_it1 k a0_0 a0_1 a0_2 a0_3 [] (j1 + 1) (impl_copyMem_S1 a0_0 a0_1 a0_2 a0_3 o2 v) = impl_copyMem_L1 k a0_0 a0_1 a0_2 a0_3 o2 (fun y0 y1 v => impl_copyMem_it2 k a0_0 a0_1 a0_2 a0_3 [] k (impl_copyMem_S2 a0_1 a0_2 y0 y1 v)) (fun v => impl_copyMem_it1 k a0_0 a0_1 a0_2 a0_3 [] j1 (impl_copyMem_S1 a0_0 a0_1 a0_2 a0_3 o2 v)) v := by
    intro o2 j1 v; kernel_rfl
  have i1 : ∀ (o2 : Outs) (j1 : Nat) (v : Int × List (List T)), impl_copyMem_it1 k a0_0 a0_1 a0_2 a0_3 [] j1 (impl_copyMem_S1 a0_0 a0_1 a0_2 a0_3 o2 v) = fixN (impl_copyMem_l1 k a0_0 a0_1 a0_2 a0_3 o2) j1 v := by
    intro o2 j1 v
    refine iter_fix (impl_copyMem_S1 a0_0 a0_1 a0_2 a0_3 o2) (impl_copyMem_l1 k a0_0 a0_1 a0_2 a0_3 o2) (fun j1 v => (e1 o2 j1 v).trans ?_) j1 v
    unfold impl_copyMem_l1
    simp only [i2] <;> rfl
  rw [e0]; unfold impl_copyMem_u
  simp only [i1]
/- impl.PutSuper -/
def impl_PutSuper_u (k : Nat) (a0_0 : Int) (a0_1 : Int) (a0_2 : Int) (a0_3 : Int) (a0_4 : Int) (a0_5 : Int) (a0_6 : Int) (a0_7 : Int) : Option Outs :=
 bindO (evalF E P0 k N.impl_SuperOk [.v [.i a0_0, .i a0_1, .i a0_2, .i a0_3, .i a0_4, .i a0_5, .i a0_6, .i a0_7]]) fun o2 =>
 bif (!(o2.t 0).asB) then
  some ⟨[.r []], []⟩
 else
  some ⟨[.r [[.i 21317], [.i a0_0], [.i a0_1], [.i a0_2], [.i a0_3], [.i a0_4], [.i a0_5], [.i (IntKind.wrap .i64 (a0_6 + 1))], [.i a0_7]]], []⟩
theorem impl_PutSuper_e (k : Nat) (a0_0 : Int) (a0_1 : Int) (a0_2 : Int) (a0_3 : Int) (a0_4 : Int) (a0_5 : Int) (a0_6 : Int) (a0_7 : Int) : evalF E P0 (k + 1) N.impl_PutSuper [.v [.i a0_0, .i a0_1, .i a0_2, .i a0_3, .i a0_4, .i a0_5, .i a0_6, .i a0_7]] = impl_PutSuper_u k a0_0 a0_1 a0_2 a0_3 a0_4 a0_5 a0_6 a0_7 := by kernel_rfl
/- impl.SecOk -/
def impl_SecOk_u (k : Nat) (a0 : List (List T)) : Option Outs :=
 bif (decide ((a0.length : Int) ≤ 12)) then
  bindO (evalF E P0 k N.impl_wordsOk [.v [.r a0]]) fun o2 =>
  some ⟨[.b (o2.t 0).asB], []⟩
 else
  some ⟨[.b false], []⟩
theorem impl_SecOk_e (k : Nat) (a0 : List (List T)) : evalF E P0 (k + 1) N.impl_SecOk [.v [.r a0]] = impl_SecOk_u k a0 := by kernel_rfl
/- impl.hasSec -/
def impl_hasSec_u (k : Nat) (a0_0 : List (List T)) (a0_1 : List (List T)) (a0_2 : Bool) (a0_3 : List (List T)) (a1 : Int) : Option Outs :=
 bindO (evalF E P0 k N.impl_within [.v [.i a1], .v [.i 0], .v [.i (IntKind.wrap .i64 ((a0_0.length : Int) - 1))]]) fun o2 =>
 some ⟨[.b (o2.t 0).asB], []⟩
theorem impl_hasSec_e (k : Nat) (a0_0 : List (List T)) (a0_1 : List (List T)) (a0_2 : Bool) (a0_3 : List (List T)) (a1 : Int) : evalF E P0 (k + 1) N.impl_hasSec [.v [.r a0_0, .r a0_1, .b a0_2, .r a0_3], .v [.i a1]] = impl_hasSec_u k a0_0 a0_1 a0_2 a0_3 a1 := by kernel_rfl
/- impl.MemOk -/
def impl_MemOk_L3 (k : Nat) (a0_0 : List (List T)) (a0_1 : List (List T)) (a0_2 : Bool) (a0_3 : List (List T)) (G3 : (Int) → Option Outs) : (Int) → Option Outs := fun v24 =>
 bif (decide (v24 < (a0_3.length : Int))) then
  chk (decide (0 ≤ v24) && decide (v24 < (a0_3.length : Int))) <|
  bindO (evalF E P0 k N.impl_hasSec [.v [.r a0_0, .r a0_1, .b a0_2, .r a0_3], .v [.i (at_ a0_3 v24.toNat 0).asI]]) fun o384 =>
  bif (!(o384.t 0).asB) then
   some ⟨[.b false], []⟩
  else
   bif (decide (v24 > 0)) then
    chk (decide (0 ≤ (IntKind.wrap .i64 (v24 - 1))) && decide ((IntKind.wrap .i64 (v24 - 1)) < (a0_3.length : Int))) <|
    bif (decide ((at_ a0_3 (IntKind.wrap .i64 (v24 - 1)).toNat 0).asI ≥ (at_ a0_3 v24.toNat 0).asI)) then
     some ⟨[.b false], []⟩
    else
     G3 (IntKind.wrap .i64 (v24 + 1))
   else
    G3 (IntKind.wrap .i64 (v24 + 1))
 else
  bindO (evalF E P0 k N.impl_within [.v [.i (a0_0.length : Int)], .v [.i 1], .v [.i 20]]) fun o386 =>
  bif (o386.t 0).asB then some ⟨[.b (decide ((a0_1.length : Int) ≤ 60))], []⟩ else some ⟨[.b false], []⟩
def impl_MemOk_k3 : List Nat := [1, 2, 40, 41, 42, 66, 67, 68, 69, 70, 71, 72, 73, 74, 75]
def impl_MemOk_S3 (a0_0 : List (List T)) (a0_1 : List (List T)) (a0_2 : Bool) (a0_3 : List (List T)) : (Int) → St := fun v24 => ⟨ofSl [(1, .ptr (1, 0) 0), (2, .b false), (40, .sl 3 a0_3), (41, .i .i64 (a0_3.length : Int)), (42, .i .i64 v24), (66, .skip), (67, .skip), (68, .skip), (69, .skip), (70, .skip), (71, .skip), (72, .skip), (73, .skip), (74, .skip), (75, .skip)], ofMem [((1, 0), .var [.sl 39 a0_0, .sl 174 a0_1, .b a0_2, .sl 3 a0_3])]⟩
def impl_MemOk_L2 (k : Nat) (a0_0 : List (List T)) (a0_1 : List (List T)) (a0_2 : Bool) (a0_3 : List (List T)) (R3 : (Int) → Option Outs) (G2 : (Int) → Option Outs) : (Int) → Option Outs := fun v16 =>
 bif (decide (v16 < (a0_1.length : Int))) then
  chk (decide (0 ≤ v16) && decide (v16 < (a0_1.length : Int))) <|
  bindO (evalF E P0 k N.impl_hasSec [.v [.r a0_0, .r a0_1, .b a0_2, .r a0_3], .v [.i (at_ a0_1 v16.toNat 0).asI]]) fun o287 =>
  bif (!(o287.t 0).asB) then
   some ⟨[.b false], []⟩
  else
   bindO (evalF E P0 k N.impl_SecOk [.v [.r (at_ a0_1 v16.toNat 1).asR]]) fun o288 =>
   bif (!(o288.t 0).asB) then some ⟨[.b false], []⟩ else G2 (IntKind.wrap .i64 (v16 + 1))
 else
  R3 0
def impl_MemOk_k2 : List Nat := [1, 2, 7, 8, 21, 22, 23, 39, 40, 41, 42, 43, 44, 45, 46, 47, 48, 49, 50, 51, 52, 53, 54, 55, 56, 57, 58, 59, 60, 61, 62, 63, 64, 65, 66, 67, 68, 69, 70, 71, 72, 73, 74, 75]
def impl_MemOk_S2 (a0_0 : List (List T)) (a0_1 : List (List T)) (a0_2 : Bool) (a0_3 : List (List T)) : (Int) → St := fun v16 => ⟨ofSl [(1, .ptr (1, 0) 0), (2, .b false), (7, .skip), (8, .skip), (21, .sl 174 a0_1), (22, .i .i64 (a0_1.length : Int)), (23, .i .i64 v16), (39, .skip), (40, .skip), (41, .skip), (42, .skip), (43, .skip), (44, .skip), (45, .skip), (46, .skip), (47, .skip), (48, .skip), (49, .skip), (50, .skip), (51, .skip), (52, .skip), (53, .skip), (54, .skip), (55, .skip), (56, .skip), (57, .skip), (58, .skip), (59, .skip), (60, .skip), (61, .skip), (62, .skip), (63, .skip), (64, .skip), (65, .skip), (66, .skip), (67, .skip), (68, .skip), (69, .skip), (70, .skip), (71, .skip), (72, .skip), (73, .skip), (74, .skip), (75, .skip)], ofMem [((1, 0), .var [.sl 39 a0_0, .sl 174 a0_1, .b a0_2, .sl 3 a0_3])]⟩
def impl_MemOk_L1 (k : Nat) (a0_0 : List (List T)) (a0_1 : List (List T)) (a0_2 : Bool) (a0_3 : List (List T)) (R2 : (Int) → Option Outs) (G1 : (Int) → Option Outs) : (Int) → Option Outs := fun v8 =>
 bif (decide (v8 < (a0_0.length : Int))) then
  chk (decide (0 ≤ v8) && decide (v8 < (a0_0.length : Int))) <|
  bindO (evalF E P0 k N.impl_SecOk [.v [.r (at_ a0_0 v8.toNat 0).asR]]) fun o96 =>
  bif (!(o96.t 0).asB) then some ⟨[.b false], []⟩ else G1 (IntKind.wrap .i64 (v8 + 1))
 else
  R2 0
def impl_MemOk_k1 : List Nat := [1, 2, 6, 7, 8, 10, 11, 12, 20, 21, 22, 23, 24, 25, 26, 27, 28, 29, 30, 31, 32, 33, 34, 35, 36, 37, 38, 39, 40, 41, 42, 43, 44, 45, 46, 47, 48, 49, 50, 51, 52, 53, 54, 55, 56, 57, 58, 59, 60, 61, 62, 63, 64, 65, 66, 67, 68, 69, 70, 71, 72, 73, 74, 75]
def impl_MemOk_S1 (a0_0 : List (List T)) (a0_1 : List (List T)) (a0_2 : Bool) (a0_3 : List (List T)) : (Int) → St := fun v8 => ⟨ofSl [(1, .ptr (1, 0) 0), (2, .b false), (6, .skip), (7, .skip), (8, .skip), (10, .sl 39 a0_0), (11, .i .i64 (a0_0.length : Int)), (12, .i .i64 v8), (20, .skip), (21, .skip), (22, .skip), (23, .skip), (24, .skip), (25, .skip), (26, .skip), (27, .skip), (28, .skip), (29, .skip), (30, .skip), (31, .skip), (32, .skip), (33, .skip), (34, .skip), (35, .skip), (36, .skip), (37, .skip), (38, .skip), (39, .skip), (40, .skip), (41, .skip), (42, .skip), (43, .skip), (44, .skip), (45, .skip), (46, .skip), (47, .skip), (48, .skip), (49, .skip), (50, .skip), (51, .skip), (52, .skip), (53, .skip), (54, .skip), (55, .skip), (56, .skip), (57, .skip), (58, .skip), (59, .skip), (60, .skip), (61, .skip), (62, .skip), (63, .skip), (64, .skip), (65, .skip), (66, .skip), (67, .skip), (68, .skip), (69, .skip), (70, .skip), (71, .skip), (72, .skip), (73, .skip), (74, .skip), (75, .skip)], ofMem [((1, 0), .var [.sl 39 a0_0, .sl 174 a0_1, .b a0_2, .sl 3 a0_3])]⟩
def impl_MemOk_l3 (k : Nat) (a0_0 : List (List T)) (a0_1 : List (List T)) (a0_2 : Bool) (a0_3 : List (List T)) (G3 : (Int) → Option Outs) : (Int) → Option Outs :=
  impl_MemOk_L3 k a0_0 a0_1 a0_2 a0_3 G3
def impl_MemOk_l2 (k : Nat) (a0_0 : List (List T)) (a0_1 : List (List T)) (a0_2 : Bool) (a0_3 : List (List T)) (G2 : (Int) → Option Outs) : (Int) → Option Outs :=
  impl_MemOk_L2 k a0_0 a0_1 a0_2 a0_3 (fun v => fixN (impl_MemOk_l3 k a0_0 a0_1 a0_2 a0_3) k v) G2
def impl_MemOk_l1 (k : Nat) (a0_0 : List (List T)) (a0_1 : List (List T)) (a0_2 : Bool) (a0_3 : List (List T)) (G1 : (Int) → Option Outs) : (Int) → Option Outs :=
  impl_MemOk_L1 k a0_0 a0_1 a0_2 a0_3 (fun v => fixN (impl_MemOk_l2 k a0_0 a0_1 a0_2 a0_3) k v) G1
def impl_MemOk_U (k : Nat) (a0_0 : List (List T)) (a0_1 : List (List T)) (a0_2 : Bool) (a0_3 : List (List T)) (R1 : (Int) → Option Outs) : Option Outs :=
 R1 0
def impl_MemOk_u (k : Nat) (a0_0 : List (List T)) (a0_1 : List (List T)) (a0_2 : Bool) (a0_3 : List (List T)) : Option Outs :=
  impl_MemOk_U k a0_0 a0_1 a0_2 a0_3 (fun v => fixN (impl_MemOk_l1 k a0_0 a0_1 a0_2 a0_3) k v)
def impl_MemOk_it1 (k : Nat) (a0_0 : List (List T)) (a0_1 : List (List T)) (a0_2 : Bool) (a0_3 : List (List T)) (js : List Nat) (j : Nat) (s : St) : Option Outs := iter E (LB E (evalF E P0 k) k [] N.impl_MemOk [.sr, .sl, .sr, .bl]) [] impl_MemOk_k1 (LK E (evalF E P0 k) k [] N.impl_MemOk [.v [.r a0_0, .r a0_1, .b a0_2, .r a0_3]] [.sr, .sl, .sr, .bl] js) j s
def impl_MemOk_it2 (k : Nat) (a0_0 : List (List T)) (a0_1 : List (List T)) (a0_2 : Bool) (a0_3 : List (List T)) (js : List Nat) (j : Nat) (s : St) : Option Outs := iter E (LB E (evalF E P0 k) k [] N.impl_MemOk [.sr, .sr, .sl, .sr, .bl]) [] impl_MemOk_k2 (LK E (evalF E P0 k) k [] N.impl_MemOk [.v [.r a0_0, .r a0_1, .b a0_2, .r a0_3]] [.sr, .sr, .sl, .sr, .bl] js) j s
def impl_MemOk_it3 (k : Nat) (a0_0 : List (List T)) (a0_1 : List (List T)) (a0_2 : Bool) (a0_3 : List (List T)) (js : List Nat) (j : Nat) (s : St) : Option Outs := iter E (LB E (evalF E P0 k) k [] N.impl_MemOk [.sr, .sr, .sr, .sl, .sr, .bl]) [] impl_MemOk_k3 (LK E (evalF E P0 k) k [] N.impl_MemOk [.v [.r a0_0, .r a0_1, .b a0_2, .r a0_3]] [.sr, .sr, .sr, .sl, .sr, .bl] js) j s
theorem impl_MemOk_e (k : Nat) (a0_0 : List (List T)) (a0_1 : List (List T)) (a0_2 : Bool) (a0_3 : List (List T)) : evalF E P0 (k + 1) N.impl_MemOk [.v [.r a0_0, .r a0_1, .b a0_2, .r a0_3]] = impl_MemOk_u k a0_0 a0_1 a0_2 a0_3 := by
  have e0 : evalF E P0 (k + 1) N.impl_MemOk [.v [.r a0_0, .r a0_1, .b a0_2, .r a0_3]] = impl_MemOk_U k a0_0 a0_1 a0_2 a0_3 (fun v => impl_MemOk_it1 k a0_0 a0_1 a0_2 a0_3 [] k (impl_MemOk_S1 a0_0 a0_1 a0_2 a0_3 v)) := by kernel_rfl
  have e3 : ∀ (j3 : Nat) (v : Int), impl_MemOk_it3 k a0_0 a0_1 a0_2 a0_3 [] (j3 + 1) (impl_MemOk_S3 a0_0 a0_1 a0_2 a0_3 v) = impl_MemOk_L3 k a0_0 a0_1 a0_2 a0_3 (fun v => impl_MemOk_it3 k a0_0 a0_1 a0_2 a0_3 [] j3 (impl_MemOk_S3 a0_0 a0_1 a0_2 a0_3 v)) v := by
    intro j3 v; kernel_rfl
  have i3 : ∀ (j3 : Nat) (v : Int), impl_MemOk_it3 k a0_0 a0_1 a0_2 a0_3 [] j3 (impl_MemOk_S3 a0_0 a0_1 a0_2 a0_3 v) = fixN (impl_MemOk_l3 k a0_0 a0_1 a0_2 a0_3) j3 v := by
    intro j3 v
    refine iter_fix (impl_MemOk_S3 a0_0 a0_1 a0_2 a0_3) (impl_MemOk_l3 k a0_0 a0_1 a0_2 a0_3) (fun j3 v => (e3 j3 v).trans ?_) j3 v
    unfold impl_MemOk_l3
    rfl
  have e2 : ∀ (j2 : Nat) (v : Int), impl_MemOk_it2 k a0_0 a0_1 a0_2 a0_3 [] (j2 + 1) (impl_MemOk_S2 a0_0 a0_1 a0_2 a0_3 v) = impl_MemOk_L2 k a0_0 a0_1 a0_2 a0_3 (fun v => impl_MemOk_it3 k a0_0 a0_1 a0_2 a0_3 [] k (impl_MemOk_S3 a0_0 a0_1 a0_2 a0_3 v)) (fun v => impl_MemOk_it2 k a0_0 a0_1 a0_2 a0_3 [] j2 (impl_MemOk_S2 a0_0 a0_1 a0_2 a0_3 v)) v := by
    intro j2 v; kernel_rfl
  have i2 : ∀ (j2 : Nat) (v : Int), impl_MemOk_it2 k a0_0 a0_1 a0_2 a0_3 [] j2 (impl_MemOk_S2 a0_0 a0_1 a0_2 a0_3 v) = fixN (impl_MemOk_l2 k a0_0 a0_1 a0_2 a0_3) j2 v := by
    intro j2 v
    refine iter_fix (impl_MemOk_S2 a0_0 a0_1 a0_2 a0_3) (impl_MemOk_l2 k a0_0 a0_1 a0_2 a0_3) (fun j2 v => (e2 j2 v).trans ?_) j2 v
    unfold impl_MemOk_l2
    simp only [i3] <;> rfl
  have e1 : ∀ (j1 : Nat) (v : Int), impl_MemOk_it1 k a0_0 a0_1 a0_2 a0_3 [] (j1 + 1) (impl_MemOk_S1 a0_0 a0_1 a0_2 a0_3 v) = impl_MemOk_L1 k a0_0 a0_1 a0_2 a0_3 (fun v => impl_MemOk_it2 k a0_0 a0_1 a0_2 a0_3 [] k (impl_MemOk_S2 a0_0 a0_1 a0_2 a0_3 v)) (fun v => impl_MemOk_it1 k a0_0 a0_1 a0_2 a0_3 [] j1 (impl_MemOk_S1 a0_0 a0_1 a0_2 a0_3 v)) v := by
    intro j1 v; kernel_rfl
  have i1 : ∀ (j1 : Nat) (v : Int), impl_MemOk_it1 k a0_0 a0_1 a0_2 a0_3 [] j1 (impl_MemOk_S1 a0_0 a0_1 a0_2 a0_3 v) = fixN (impl_MemOk_l1 k a0_0 a0_1 a0_2 a0_3) j1 v := by
    intro j1 v
    refine iter_fix (impl_MemOk_S1 a0_0 a0_1 a0_2 a0_3) (impl_MemOk_l1 k a0_0 a0_1 a0_2 a0_3) (fun j1 v => (e1 j1 v).trans ?_) j1 v
    unfold impl_MemOk_l1
    simp only [i2] <;> rfl
  rw [e0]; unfold impl_MemOk_u
  simp only [i1]
/- impl.WriteSec$1 -/
def impl_WriteSec_1_u (k : Nat) (a0 : Int) (a1 : Int) : Option Outs :=
 some ⟨[.b (a0 == a1)], [[.i a1]]⟩
theorem impl_WriteSec_1_e (k : Nat) (a0 : Int) (a1 : Int) : evalF E P0 (k + 1) N.impl_WriteSec_1 [.v [.i a0], .p [.i a1]] = impl_WriteSec_1_u k a0 a1 := by kernel_rfl
/- slices.IndexFunc[[]int,int] -/
def slices_IndexFunc_int_int_L1 (k : Nat) (a0 : List (List T)) (G1 : (Int × Int) → Option Outs) : (Int × Int) → Option Outs := fun (v15, v16) =>
 bif (decide (v15 < (a0.length : Int))) then
  chk (decide (0 ≤ v15) && decide (v15 < (a0.length : Int))) <|
  bindO (evalF E P0 k N.impl_WriteSec_1 [.v [.i (at_ a0 v15.toNat 0).asI], .p [.i v16]]) fun o96 =>
  bif (o96.t 0).asB then
   some ⟨[.i v15], [[.i (o96.vt 0 0).asI]]⟩
  else
   G1 ((IntKind.wrap .i64 (v15 + 1)), (o96.vt 0 0).asI)
 else
  some ⟨[.i (-1)], [[.i v16]]⟩
def slices_IndexFunc_int_int_k1 : List Nat := [0, 1, 4, 7, 8]
def slices_IndexFunc_int_int_S1 (a0 : List (List T)) : (Int × Int) → St := fun (v15, v16) => ⟨ofSl [(0, .sl 3 a0), (1, .clo N.impl_WriteSec_1 (some (1, 0))), (4, .i .i64 0), (7, .i .i64 (a0.length : Int)), (8, .i .i64 v15)], ofMem [((1, 0), .var [.i .i64 v16])]⟩
def slices_IndexFunc_int_int_l1 (k : Nat) (a0 : List (List T)) (G1 : (Int × Int) → Option Outs) : (Int × Int) → Option Outs :=
  slices_IndexFunc_int_int_L1 k a0 G1
def slices_IndexFunc_int_int_U (k : Nat) (a0 : List (List T)) (a1 : Int) (R1 : (Int × Int) → Option Outs) : Option Outs :=
 R1 (0, a1)
def slices_IndexFunc_int_int_u (k : Nat) (a0 : List (List T)) (a1 : Int) : Option Outs :=
  slices_IndexFunc_int_int_U k a0 a1 (fun v => fixN (slices_IndexFunc_int_int_l1 k a0) k v)
def slices_IndexFunc_int_int_it1 (k : Nat) (a0 : List (List T)) (a1 : Int) (js : List Nat) (j : Nat) (s : St) : Option Outs := iter E (LB E (evalF E P0 k) k [1] N.slices_IndexFunc_int_int [.sr, .sl, .sr, .bl]) [1] slices_IndexFunc_int_int_k1 (LK E (evalF E P0 k) k [1] N.slices_IndexFunc_int_int [.v [.r a0], .c N.impl_WriteSec_1 (some [.i a1])] [.sr, .sl, .sr, .bl] js) j s
theorem slices_IndexFunc_int_int_e (k : Nat) (a0 : List (List T)) (a1 : Int) : evalF E P0 (k + 1) N.slices_IndexFunc_int_int [.v [.r a0], .c N.impl_WriteSec_1 (some [.i a1])] = slices_IndexFunc_int_int_u k a0 a1 := by
  have e0 : evalF E P0 (k + 1) N.slices_IndexFunc_int_int [.v [.r a0], .c N.impl_WriteSec_1 (some [.i a1])] = slices_IndexFunc_int_int_U k a0 a1 (fun v => slices_IndexFunc_int_int_it1 k a0 a1 [] k (slices_IndexFunc_int_int_S1 a0 v)) := by kernel_rfl
  have e1 : ∀ (j1 : Nat) (v : Int × Int), slices_IndexFunc_int_int_it1 k a0 a1 [] (j1 + 1) (slices_IndexFunc_int_int_S1 a0 v) = slices_IndexFunc_int_int_L1 k a0 (fun v => slices_IndexFunc_int_int_it1 k a0 a1 [] j1 (slices_IndexFunc_int_int_S1 a0 v)) v := by
    intro j1 v; kernel_rfl
  have i1 : ∀ (j1 : Nat) (v : Int × Int), slices_IndexFunc_int_int_it1 k a0 a1 [] j1 (slices_IndexFunc_int_int_S1 a0 v) = fixN (slices_IndexFunc_int_int_l1 k a0) j1 v := by
    intro j1 v
    refine iter_fix (slices_IndexFunc_int_int_S1 a0) (slices_IndexFunc_int_int_l1 k a0) (fun j1 v => (e1 j1 v).trans ?_) j1 v
    unfold slices_IndexFunc_int_int_l1
    rfl
  rw [e0]; unfold slices_IndexFunc_int_int_u
  simp only [i1]
/- impl.DataAt -/
def impl_DataAt_u (k : Nat) (a0 : Int) : Option Outs :=
 bindO (evalF E P0 k N.impl_within [.v [.i a0], .v [.i 0], .v [.i 1099511627776]]) fun o2 =>
 bif (!(o2.t 0).asB) then
  some ⟨[.i (-1)], []⟩
 else
  some ⟨[.i (IntKind.wrap .i64 ((IntKind.wrap .i64 (a0 + 2)) + 4))], []⟩
theorem impl_DataAt_e (k : Nat) (a0 : Int) : evalF E P0 (k + 1) N.impl_DataAt [.v [.i a0]] = impl_DataAt_u k a0 := by kernel_rfl
/- impl.FlushMem -/
def impl_FlushMem_L1 (k : Nat) (a0_1 : List (List T)) (o2 : Outs) (G1 : (Int × List (List T)) → Option Outs) : (Int × List (List T)) → Option Outs := fun (v8, w8) =>
 bif (decide (v8 < (a0_1.length : Int))) then
  chk (decide (0 ≤ v8) && decide (v8 < (a0_1.length : Int))) <|
  bindO (evalF E P0 k N.impl_copyInts [.v [.r (at_ a0_1 v8.toNat 1).asR]]) fun o52 =>
  chk (decide (0 ≤ (at_ a0_1 v8.toNat 0).asI) && decide ((at_ a0_1 v8.toNat 0).asI < (w8.length : Int))) <|
  G1 ((IntKind.wrap .i64 (v8 + 1)), (put_ w8 (at_ a0_1 v8.toNat 0).asI.toNat 0 [.r (o52.t 0).asR]))
 else
  some ⟨[.r w8, .r [], .b (o2.t 2).asB, .r (o2.t 3).asR], []⟩
def impl_FlushMem_k1 : List Nat := [2, 3, 17, 18, 19, 32, 33]
def impl_FlushMem_S1 (a0_1 : List (List T)) (o2 : Outs) : (Int × List (List T)) → St := fun (v8, w8) => ⟨ofSl [(2, .ptr (2, 0) 0), (3, .ptr (3, 0) 0), (17, .sl 174 a0_1), (18, .i .i64 (a0_1.length : Int)), (19, .i .i64 v8), (32, .skip), (33, .skip)], ofMem [((2, 0), .var [.ref (2, 1), .ref (2, 2), .b false, .ref (2, 4)]), ((2, 1), .row 39 true []), ((2, 2), .row 174 true []), ((2, 4), .row 3 true []), ((3, 0), .var [.ref (3, 1), .ref (3, 2), .b (o2.t 2).asB, .ref (3, 4)]), ((3, 1), .row 39 true w8), ((3, 2), .row 174 true (o2.t 1).asR), ((3, 4), .row 3 true (o2.t 3).asR)]⟩
def impl_FlushMem_J1 (k : Nat) (o2 : Outs) (R1 : Outs → (Int × List (List T)) → Option Outs) (c1 : Bool) : Option Outs :=
 bif c1 then
  some ⟨[.r (o2.t 0).asR, .r (o2.t 1).asR, .b (o2.t 2).asB, .r (o2.t 3).asR], []⟩
 else
  R1 o2 (0, (o2.t 0).asR)
def impl_FlushMem_l1 (k : Nat) (a0_1 : List (List T)) (o2 : Outs) (G1 : (Int × List (List T)) → Option Outs) : (Int × List (List T)) → Option Outs :=
  impl_FlushMem_L1 k a0_1 o2 G1
def impl_FlushMem_U (k : Nat) (a0_0 : List (List T)) (a0_1 : List (List T)) (a0_2 : Bool) (a0_3 : List (List T)) (R1 : Outs → (Int × List (List T)) → Option Outs) : Option Outs :=
 bindO (evalF E P0 k N.impl_copyMem [.v [.r a0_0, .r a0_1, .b a0_2, .r a0_3]]) fun o2 =>
 bindO (evalF E P0 k N.impl_MemOk [.v [.r a0_0, .r a0_1, .b a0_2, .r a0_3]]) fun o4 =>
 bif (!(o4.t 0).asB) then impl_FlushMem_J1 k o2 R1 true else impl_FlushMem_J1 k o2 R1 a0_2
def impl_FlushMem_u (k : Nat) (a0_0 : List (List T)) (a0_1 : List (List T)) (a0_2 : Bool) (a0_3 : List (List T)) : Option Outs :=
  impl_FlushMem_U k a0_0 a0_1 a0_2 a0_3 (fun y0 v => fixN (impl_FlushMem_l1 k a0_1 y0) k v)
def impl_FlushMem_it1 (k : Nat) (a0_0 : List (List T)) (a0_1 : List (List T)) (a0_2 : Bool) (a0_3 : List (List T)) (js : List Nat) (j : Nat) (s : St) : Option Outs := iter E (LB E (evalF E P0 k) k [] N.impl_FlushMem [.sr, .sr, .sr, .sl, .sr, .bl]) [] impl_FlushMem_k1 (LK E (evalF E P0 k) k [] N.impl_FlushMem [.v [.r a0_0, .r a0_1, .b a0_2, .r a0_3]] [.sr, .sr, .sr, .sl, .sr, .bl] js) j s
theorem impl_FlushMem_e (k : Nat) (a0_0 : List (List T)) (a0_1 : List (List T)) (a0_2 : Bool) (a0_3 : List (List T)) : evalF E P0 (k + 1) N.impl_FlushMem [.v [.r a0_0, .r a0_1, .b a0_2, .r a0_3]] = impl_FlushMem_u k a0_0 a0_1 a0_2 a0_3 := by
  have e0 : evalF E P0 (k + 1) N.impl_FlushMem [.v [.r a0_0, .r a0_1, .b a0_2, .r a0_3]] = impl_FlushMem_U k a0_0 a0_1 a0_2 a0_3 (fun y0 v => impl_FlushMem_it1 k a0_0 a0_1 a0_2 a0_3 [] k (impl_FlushMem_S1 a0_1 y0 v)) := by kernel_rfl
  have e1 : ∀ (o2 : Outs) (j1 : Nat) (v : Int × List (List T)), impl_FlushMem_it1 k a0_0 a0_1 a0_2 a0_3 [] (j1 + 1) (impl_FlushMem_S1 a0_1 o2 v) = impl_FlushMem_L1 k a0_1 o2 (fun v => impl_FlushMem_it1 k a0_0 a0_1 a0_2 a0_3 [] j1 (impl_FlushMem_S1 a0_1 o2 v)) v := by
    intro o2 j1 v; kernel_rfl
  have i1 : ∀ (o2 : Outs) (j1 : Nat) (v : Int × List (List T)), impl_FlushMem_it1 k a0_0 a0_1 a0_2 a0_3 [] j1 (impl_FlushMem_S1 a0_1 o2 v) = fixN (impl_FlushMem_l1 k a0_1 o2) j1 v := by
    intro o2 j1 v
    refine iter_fix (impl_FlushMem_S1 a0_1 o2) (impl_FlushMem_l1 k a0_1 o2) (fun j1 v => (e1 o2 j1 v).trans ?_) j1 v
    unfold impl_FlushMem_l1
    rfl
  rw [e0]; unfold impl_FlushMem_u
  simp only [i1]
/- laws.eqGeo -/
def laws_eqGeo_u (k : Nat) (a0_0 : Int) (a0_1 : Int) (a1_0 : Int) (a1_1 : Int) : Option Outs :=
 bif (a0_0 != a1_0) then
  some ⟨[.b false], []⟩
 else
  bif (a0_1 != a1_1) then some ⟨[.b false], []⟩ else some ⟨[.b true], []⟩
theorem laws_eqGeo_e (k : Nat) (a0_0 : Int) (a0_1 : Int) (a1_0 : Int) (a1_1 : Int) : evalF E P0 (k + 1) N.laws_eqGeo [.v [.i a0_0, .i a0_1], .v [.i a1_0, .i a1_1]] = laws_eqGeo_u k a0_0 a0_1 a1_0 a1_1 := by kernel_rfl
/- laws.eqIntSS -/
def laws_eqIntSS_L1 (k : Nat) (a0 : List (List T)) (a1 : List (List T)) (G1 : (Int) → Option Outs) : (Int) → Option Outs := fun v8 =>
 bif (decide (v8 < (a0.length : Int))) then
  chk (decide (0 ≤ v8) && decide (v8 < (a0.length : Int))) <|
  chk (decide (0 ≤ v8) && decide (v8 < (a1.length : Int))) <|
  bindO (evalF E P0 k N.laws_eqIntS [.v [.r (at_ a0 v8.toNat 0).asR], .v [.r (at_ a1 v8.toNat 0).asR]]) fun o96 =>
  bif (!(o96.t 0).asB) then some ⟨[.b false], []⟩ else G1 (IntKind.wrap .i64 (v8 + 1))
 else
  some ⟨[.b true], []⟩
def laws_eqIntSS_k1 : List Nat := [0, 1, 4, 5]
def laws_eqIntSS_S1 (a0 : List (List T)) (a1 : List (List T)) : (Int) → St := fun v8 => ⟨ofSl [(0, .sl 39 a0), (1, .sl 39 a1), (4, .b false), (5, .i .i64 v8)], ofMem []⟩
def laws_eqIntSS_l1 (k : Nat) (a0 : List (List T)) (a1 : List (List T)) (G1 : (Int) → Option Outs) : (Int) → Option Outs :=
  laws_eqIntSS_L1 k a0 a1 G1
def laws_eqIntSS_U (k : Nat) (a0 : List (List T)) (a1 : List (List T)) (R1 : (Int) → Option Outs) : Option Outs :=
 bif ((a0.length : Int) != (a1.length : Int)) then some ⟨[.b false], []⟩ else R1 0
def laws_eqIntSS_u (k : Nat) (a0 : List (List T)) (a1 : List (List T)) : Option Outs :=
  laws_eqIntSS_U k a0 a1 (fun v => fixN (laws_eqIntSS_l1 k a0 a1) k v)
def laws_eqIntSS_it1 (k : Nat) (a0 : List (List T)) (a1 : List (List T)) (js : List Nat) (j : Nat) (s : St) : Option Outs := iter E (LB E (evalF E P0 k) k [] N.laws_eqIntSS [.sr, .sr, .sl, .sr, .bl]) [] laws_eqIntSS_k1 (LK E (evalF E P0 k) k [] N.laws_eqIntSS [.v [.r a0], .v [.r a1]] [.sr, .sr, .sl, .sr, .bl] js) j s
theorem laws_eqIntSS_e (k : Nat) (a0 : List (List T)) (a1 : List (List T)) : evalF E P0 (k + 1) N.laws_eqIntSS [.v [.r a0], .v [.r a1]] = laws_eqIntSS_u k a0 a1 := by
  have e0 : evalF E P0 (k + 1) N.laws_eqIntSS [.v [.r a0], .v [.r a1]] = laws_eqIntSS_U k a0 a1 (fun v => laws_eqIntSS_it1 k a0 a1 [] k (laws_eqIntSS_S1 a0 a1 v)) := by kernel_rfl
  have e1 : ∀ (j1 : Nat) (v : Int), laws_eqIntSS_it1 k a0 a1 [] (j1 + 1) (laws_eqIntSS_S1 a0 a1 v) = laws_eqIntSS_L1 k a0 a1 (fun v => laws_eqIntSS_it1 k a0 a1 [] j1 (laws_eqIntSS_S1 a0 a1 v)) v := by
    intro j1 v; kernel_rfl
  have i1 : ∀ (j1 : Nat) (v : Int), laws_eqIntSS_it1 k a0 a1 [] j1 (laws_eqIntSS_S1 a0 a1 v) = fixN (laws_eqIntSS_l1 k a0 a1) j1 v := by
    intro j1 v
    refine iter_fix (laws_eqIntSS_S1 a0 a1) (laws_eqIntSS_l1 k a0 a1) (fun j1 v => (e1 j1 v).trans ?_) j1 v
    unfold laws_eqIntSS_l1
    rfl
  rw [e0]; unfold laws_eqIntSS_u
  simp only [i1]
/- laws.eqWr -/
def laws_eqWr_u (k : Nat) (a0_0 : Int) (a0_1 : List (List T)) (a1_0 : Int) (a1_1 : List (List T)) : Option Outs :=
 bif (a0_0 != a1_0) then
  some ⟨[.b false], []⟩
 else
  bindO (evalF E P0 k N.laws_eqIntS [.v [.r a0_1], .v [.r a1_1]]) fun o2 =>
  bif (!(o2.t 0).asB) then some ⟨[.b false], []⟩ else some ⟨[.b true], []⟩
theorem laws_eqWr_e (k : Nat) (a0_0 : Int) (a0_1 : List (List T)) (a1_0 : Int) (a1_1 : List (List T)) : evalF E P0 (k + 1) N.laws_eqWr [.v [.i a0_0, .r a0_1], .v [.i a1_0, .r a1_1]] = laws_eqWr_u k a0_0 a0_1 a1_0 a1_1 := by kernel_rfl
/- laws.eqWrS -/
def laws_eqWrS_L1 (k : Nat) (a0 : List (List T)) (a1 : List (List T)) (G1 : (Int) → Option Outs) : (Int) → Option Outs := fun v8 =>
 bif (decide (v8 < (a0.length : Int))) then
  chk (decide (0 ≤ v8) && decide (v8 < (a0.length : Int))) <|
  chk (decide (0 ≤ v8) && decide (v8 < (a1.length : Int))) <|
  bindO (evalF E P0 k N.laws_eqWr [.v [.i (at_ a0 v8.toNat 0).asI, .r (at_ a0 v8.toNat 1).asR], .v [.i (at_ a1 v8.toNat 0).asI, .r (at_ a1 v8.toNat 1).asR]]) fun o96 =>
  bif (!(o96.t 0).asB) then some ⟨[.b false], []⟩ else G1 (IntKind.wrap .i64 (v8 + 1))
 else
  some ⟨[.b true], []⟩
def laws_eqWrS_k1 : List Nat := [0, 1, 4, 5]
def laws_eqWrS_S1 (a0 : List (List T)) (a1 : List (List T)) : (Int) → St := fun v8 => ⟨ofSl [(0, .sl 174 a0), (1, .sl 174 a1), (4, .b false), (5, .i .i64 v8)], ofMem []⟩
def laws_eqWrS_l1 (k : Nat) (a0 : List (List T)) (a1 : List (List T)) (G1 : (Int) → Option Outs) : (Int) → Option Outs :=
  laws_eqWrS_L1 k a0 a1 G1
def laws_eqWrS_U (k : Nat) (a0 : List (List T)) (a1 : List (List T)) (R1 : (Int) → Option Outs) : Option Outs :=
 bif ((a0.length : Int) != (a1.length : Int)) then some ⟨[.b false], []⟩ else R1 0
def laws_eqWrS_u (k : Nat) (a0 : List (List T)) (a1 : List (List T)) : Option Outs :=
  laws_eqWrS_U k a0 a1 (fun v => fixN (laws_eqWrS_l1 k a0 a1) k v)
def laws_eqWrS_it1 (k : Nat) (a0 : List (List T)) (a1 : List (List T)) (js : List Nat) (j : Nat) (s : St) : Option Outs := iter E (LB E (evalF E P0 k) k [] N.laws_eqWrS [.sr, .sr, .sl, .sr, .bl]) [] laws_eqWrS_k1 (LK E (evalF E P0 k) k [] N.laws_eqWrS [.v [.r a0], .v [.r a1]] [.sr, .sr, .sl, .sr, .bl] js) j s
theorem laws_eqWrS_e (k : Nat) (a0 : List (List T)) (a1 : List (List T)) : evalF E P0 (k + 1) N.laws_eqWrS [.v [.r a0], .v [.r a1]] = laws_eqWrS_u k a0 a1 := by
  have e0 : evalF E P0 (k + 1) N.laws_eqWrS [.v [.r a0], .v [.r a1]] = laws_eqWrS_U k a0 a1 (fun v => laws_eqWrS_it1 k a0 a1 [] k (laws_eqWrS_S1 a0 a1 v)) := by kernel_rfl
  have e1 : ∀ (j1 : Nat) (v : Int), laws_eqWrS_it1 k a0 a1 [] (j1 + 1) (laws_eqWrS_S1 a0 a1 v) = laws_eqWrS_L1 k a0 a1 (fun v => laws_eqWrS_it1 k a0 a1 [] j1 (laws_eqWrS_S1 a0 a1 v)) v := by
    intro j1 v; kernel_rfl
  have i1 : ∀ (j1 : Nat) (v : Int), laws_eqWrS_it1 k a0 a1 [] j1 (laws_eqWrS_S1 a0 a1 v) = fixN (laws_eqWrS_l1 k a0 a1) j1 v := by
    intro j1 v
    refine iter_fix (laws_eqWrS_S1 a0 a1) (laws_eqWrS_l1 k a0 a1) (fun j1 v => (e1 j1 v).trans ?_) j1 v
    unfold laws_eqWrS_l1
    rfl
  rw [e0]; unfold laws_eqWrS_u
  simp only [i1]
/- laws.eqMem -/
def laws_eqMem_u (k : Nat) (a0_0 : List (List T)) (a0_1 : List (List T)) (a0_2 : Bool) (a0_3 : List (List T)) (a1_0 : List (List T)) (a1_1 : List (List T)) (a1_2 : Bool) (a1_3 : List (List T)) : Option Outs :=
 bindO (evalF E P0 k N.laws_eqIntSS [.v [.r a0_0], .v [.r a1_0]]) fun o2 =>
 bif (!(o2.t 0).asB) then
  some ⟨[.b false], []⟩
 else
  bindO (evalF E P0 k N.laws_eqWrS [.v [.r a0_1], .v [.r a1_1]]) fun o4 =>
  bif (!(o4.t 0).asB) then
   some ⟨[.b false], []⟩
  else
   bif (!(a0_2 == a1_2)) then
    some ⟨[.b false], []⟩
   else
    bindO (evalF E P0 k N.laws_eqIntS [.v [.r a0_3], .v [.r a1_3]]) fun o6 =>
    bif (!(o6.t 0).asB) then some ⟨[.b false], []⟩ else some ⟨[.b true], []⟩
theorem laws_eqMem_e (k : Nat) (a0_0 : List (List T)) (a0_1 : List (List T)) (a0_2 : Bool) (a0_3 : List (List T)) (a1_0 : List (List T)) (a1_1 : List (List T)) (a1_2 : Bool) (a1_3 : List (List T)) : evalF E P0 (k + 1) N.laws_eqMem [.v [.r a0_0, .r a0_1, .b a0_2, .r a0_3], .v [.r a1_0, .r a1_1, .b a1_2, .r a1_3]] = laws_eqMem_u k a0_0 a0_1 a0_2 a0_3 a1_0 a1_1 a1_2 a1_3 := by kernel_rfl
/- laws.eqMemS -/
def laws_eqMemS_L1 (k : Nat) (a0 : List (List T)) (a1 : List (List T)) (G1 : (Int) → Option Outs) : (Int) → Option Outs := fun v8 =>
 bif (decide (v8 < (a0.length : Int))) then
  chk (decide (0 ≤ v8) && decide (v8 < (a0.length : Int))) <|
  chk (decide (0 ≤ v8) && decide (v8 < (a1.length : Int))) <|
  bindO (evalF E P0 k N.laws_eqMem [.v [.r (at_ a0 v8.toNat 0).asR, .r (at_ a0 v8.toNat 1).asR, .b (at_ a0 v8.toNat 2).asB, .r (at_ a0 v8.toNat 3).asR], .v [.r (at_ a1 v8.toNat 0).asR, .r (at_ a1 v8.toNat 1).asR, .b (at_ a1 v8.toNat 2).asB, .r (at_ a1 v8.toNat 3).asR]]) fun o96 =>
  bif (!(o96.t 0).asB) then some ⟨[.b false], []⟩ else G1 (IntKind.wrap .i64 (v8 + 1))
 else
  some ⟨[.b true], []⟩
def laws_eqMemS_k1 : List Nat := [0, 1, 4, 5]
def laws_eqMemS_S1 (a0 : List (List T)) (a1 : List (List T)) : (Int) → St := fun v8 => ⟨ofSl [(0, .sl 139 a0), (1, .sl 139 a1), (4, .b false), (5, .i .i64 v8)], ofMem []⟩
def laws_eqMemS_l1 (k : Nat) (a0 : List (List T)) (a1 : List (List T)) (G1 : (Int) → Option Outs) : (Int) → Option Outs :=
  laws_eqMemS_L1 k a0 a1 G1
def laws_eqMemS_U (k : Nat) (a0 : List (List T)) (a1 : List (List T)) (R1 : (Int) → Option Outs) : Option Outs :=
 bif ((a0.length : Int) != (a1.length : Int)) then some ⟨[.b false], []⟩ else R1 0
def laws_eqMemS_u (k : Nat) (a0 : List (List T)) (a1 : List (List T)) : Option Outs :=
  laws_eqMemS_U k a0 a1 (fun v => fixN (laws_eqMemS_l1 k a0 a1) k v)
def laws_eqMemS_it1 (k : Nat) (a0 : List (List T)) (a1 : List (List T)) (js : List Nat) (j : Nat) (s : St) : Option Outs := iter E (LB E (evalF E P0 k) k [] N.laws_eqMemS [.sr, .sr, .sl, .sr, .bl]) [] laws_eqMemS_k1 (LK E (evalF E P0 k) k [] N.laws_eqMemS [.v [.r a0], .v [.r a1]] [.sr, .sr, .sl, .sr, .bl] js) j s
theorem laws_eqMemS_e (k : Nat) (a0 : List (List T)) (a1 : List (List T)) : evalF E P0 (k + 1) N.laws_eqMemS [.v [.r a0], .v [.r a1]] = laws_eqMemS_u k a0 a1 := by
  have e0 : evalF E P0 (k + 1) N.laws_eqMemS [.v [.r a0], .v [.r a1]] = laws_eqMemS_U k a0 a1 (fun v => laws_eqMemS_it1 k a0 a1 [] k (laws_eqMemS_S1 a0 a1 v)) := by kernel_rfl
  have e1 : ∀ (j1 : Nat) (v : Int), laws_eqMemS_it1 k a0 a1 [] (j1 + 1) (laws_eqMemS_S1 a0 a1 v) = laws_eqMemS_L1 k a0 a1 (fun v => laws_eqMemS_it1 k a0 a1 [] j1 (laws_eqMemS_S1 a0 a1 v)) v := by
    intro j1 v; kernel_rfl
  have i1 : ∀ (j1 : Nat) (v : Int), laws_eqMemS_it1 k a0 a1 [] j1 (laws_eqMemS_S1 a0 a1 v) = fixN (laws_eqMemS_l1 k a0 a1) j1 v := by
    intro j1 v
    refine iter_fix (laws_eqMemS_S1 a0 a1) (laws_eqMemS_l1 k a0 a1) (fun j1 v => (e1 j1 v).trans ?_) j1 v
    unfold laws_eqMemS_l1
    rfl
  rw [e0]; unfold laws_eqMemS_u
  simp only [i1]
/- laws.eqEnt -/
def laws_eqEnt_u (k : Nat) (a0_0 : Int) (a0_1 : List (List T)) (a1_0 : Int) (a1_1 : List (List T)) : Option Outs :=
 bif (a0_0 != a1_0) then
  some ⟨[.b false], []⟩
 else
  bindO (evalF E P0 k N.laws_eqIntS [.v [.r a0_1], .v [.r a1_1]]) fun o2 =>
  bif (!(o2.t 0).asB) then some ⟨[.b false], []⟩ else some ⟨[.b true], []⟩
theorem laws_eqEnt_e (k : Nat) (a0_0 : Int) (a0_1 : List (List T)) (a1_0 : Int) (a1_1 : List (List T)) : evalF E P0 (k + 1) N.laws_eqEnt [.v [.i a0_0, .r a0_1], .v [.i a1_0, .r a1_1]] = laws_eqEnt_u k a0_0 a0_1 a1_0 a1_1 := by kernel_rfl
/- laws.eqEntS -/
def laws_eqEntS_L1 (k : Nat) (a0 : List (List T)) (a1 : List (List T)) (G1 : (Int) → Option Outs) : (Int) → Option Outs := fun v8 =>
 bif (decide (v8 < (a0.length : Int))) then
  chk (decide (0 ≤ v8) && decide (v8 < (a0.length : Int))) <|
  chk (decide (0 ≤ v8) && decide (v8 < (a1.length : Int))) <|
  bindO (evalF E P0 k N.laws_eqEnt [.v [.i (at_ a0 v8.toNat 0).asI, .r (at_ a0 v8.toNat 1).asR], .v [.i (at_ a1 v8.toNat 0).asI, .r (at_ a1 v8.toNat 1).asR]]) fun o96 =>
  bif (!(o96.t 0).asB) then some ⟨[.b false], []⟩ else G1 (IntKind.wrap .i64 (v8 + 1))
 else
  some ⟨[.b true], []⟩
def laws_eqEntS_k1 : List Nat := [0, 1, 4, 5]
def laws_eqEntS_S1 (a0 : List (List T)) (a1 : List (List T)) : (Int) → St := fun v8 => ⟨ofSl [(0, .sl 166 a0), (1, .sl 166 a1), (4, .b false), (5, .i .i64 v8)], ofMem []⟩
def laws_eqEntS_l1 (k : Nat) (a0 : List (List T)) (a1 : List (List T)) (G1 : (Int) → Option Outs) : (Int) → Option Outs :=
  laws_eqEntS_L1 k a0 a1 G1
def laws_eqEntS_U (k : Nat) (a0 : List (List T)) (a1 : List (List T)) (R1 : (Int) → Option Outs) : Option Outs :=
 bif ((a0.length : Int) != (a1.length : Int)) then some ⟨[.b false], []⟩ else R1 0
def laws_eqEntS_u (k : Nat) (a0 : List (List T)) (a1 : List (List T)) : Option Outs :=
  laws_eqEntS_U k a0 a1 (fun v => fixN (laws_eqEntS_l1 k a0 a1) k v)
def laws_eqEntS_it1 (k : Nat) (a0 : List (List T)) (a1 : List (List T)) (js : List Nat) (j : Nat) (s : St) : Option Outs := iter E (LB E (evalF E P0 k) k [] N.laws_eqEntS [.sr, .sr, .sl, .sr, .bl]) [] laws_eqEntS_k1 (LK E (evalF E P0 k) k [] N.laws_eqEntS [.v [.r a0], .v [.r a1]] [.sr, .sr, .sl, .sr, .bl] js) j s
theorem laws_eqEntS_e (k : Nat) (a0 : List (List T)) (a1 : List (List T)) : evalF E P0 (k + 1) N.laws_eqEntS [.v [.r a0], .v [.r a1]] = laws_eqEntS_u k a0 a1 := by
  have e0 : evalF E P0 (k + 1) N.laws_eqEntS [.v [.r a0], .v [.r a1]] = laws_eqEntS_U k a0 a1 (fun v => laws_eqEntS_it1 k a0 a1 [] k (laws_eqEntS_S1 a0 a1 v)) := by kernel_rfl
  have e1 : ∀ (j1 : Nat) (v : Int), laws_eqEntS_it1 k a0 a1 [] (j1 + 1) (laws_eqEntS_S1 a0 a1 v) = laws_eqEntS_L1 k a0 a1 (fun v => laws_eqEntS_it1 k a0 a1 [] j1 (laws_eqEntS_S1 a0 a1 v)) v := by
    intro j1 v; kernel_rfl
  have i1 : ∀ (j1 : Nat) (v : Int), laws_eqEntS_it1 k a0 a1 [] j1 (laws_eqEntS_S1 a0 a1 v) = fixN (laws_eqEntS_l1 k a0 a1) j1 v := by
    intro j1 v
    refine iter_fix (laws_eqEntS_S1 a0 a1) (laws_eqEntS_l1 k a0 a1) (fun j1 v => (e1 j1 v).trans ?_) j1 v
    unfold laws_eqEntS_l1
    rfl
  rw [e0]; unfold laws_eqEntS_u
  simp only [i1]
/- laws.eqArr -/
def laws_eqArr_u (k : Nat) (a0_0 : Int) (a0_1 : Int) (a0_2 : Int) (a0_3 : List (List T)) (a0_4 : Int) (a0_5 : Int) (a0_6 : Int) (a0_7 : Int) (a0_8 : Int) (a0_9 : List (List T)) (a0_10 : Int) (a0_11 : Bool) (a0_12 : Bool) (a1_0 : Int) (a1_1 : Int) (a1_2 : Int) (a1_3 : List (List T)) (a1_4 : Int) (a1_5 : Int) (a1_6 : Int) (a1_7 : Int) (a1_8 : Int) (a1_9 : List (List T)) (a1_10 : Int) (a1_11 : Bool) (a1_12 : Bool) : Option Outs :=
 bif (a0_0 != a1_0) then
  some ⟨[.b false], []⟩
 else
  bindO (evalF E P0 k N.laws_eqGeo [.v [.i a0_1, .i a0_2], .v [.i a1_1, .i a1_2]]) fun o2 =>
  bif (!(o2.t 0).asB) then
   some ⟨[.b false], []⟩
  else
   bindO (evalF E P0 k N.laws_eqMemS [.v [.r a0_3], .v [.r a1_3]]) fun o4 =>
   bif (!(o4.t 0).asB) then
    some ⟨[.b false], []⟩
   else
    bif (a0_4 != a1_4) then
     some ⟨[.b false], []⟩
    else
     bif (a0_5 != a1_5) then
      some ⟨[.b false], []⟩
     else
      bif (a0_6 != a1_6) then
       some ⟨[.b false], []⟩
      else
       bif (a0_7 != a1_7) then
        some ⟨[.b false], []⟩
       else
        bif (a0_8 != a1_8) then
         some ⟨[.b false], []⟩
        else
         bindO (evalF E P0 k N.laws_eqEntS [.v [.r a0_9], .v [.r a1_9]]) fun o6 =>
         bif (!(o6.t 0).asB) then
          some ⟨[.b false], []⟩
         else
          bif (a0_10 != a1_10) then
           some ⟨[.b false], []⟩
          else
           bif (!(a0_11 == a1_11)) then
            some ⟨[.b false], []⟩
           else
            bif (!(a0_12 == a1_12)) then some ⟨[.b false], []⟩ else some ⟨[.b true], []⟩
theorem laws_eqArr_e (k : Nat) (a0_0 : Int) (a0_1 : Int) (a0_2 : Int) (a0_3 : List (List T)) (a0_4 : Int) (a0_5 : Int) (a0_6 : Int) (a0_7 : Int) (a0_8 : Int) (a0_9 : List (List T)) (a0_10 : Int) (a0_11 : Bool) (a0_12 : Bool) (a1_0 : Int) (a1_1 : Int) (a1_2 : Int) (a1_3 : List (List T)) (a1_4 : Int) (a1_5 : Int) (a1_6 : Int) (a1_7 : Int) (a1_8 : Int) (a1_9 : List (List T)) (a1_10 : Int) (a1_11 : Bool) (a1_12 : Bool) : evalF E P0 (k + 1) N.laws_eqArr [.v [.i a0_0, .i a0_1, .i a0_2, .r a0_3, .i a0_4, .i a0_5, .i a0_6, .i a0_7, .i a0_8, .r a0_9, .i a0_10, .b a0_11, .b a0_12], .v [.i a1_0, .i a1_1, .i a1_2, .r a1_3, .i a1_4, .i a1_5, .i a1_6, .i a1_7, .i a1_8, .r a1_9, .i a1_10, .b a1_11, .b a1_12]] = laws_eqArr_u k a0_0 a0_1 a0_2 a0_3 a0_4 a0_5 a0_6 a0_7 a0_8 a0_9 a0_10 a0_11 a0_12 a1_0 a1_1 a1_2 a1_3 a1_4 a1_5 a1_6 a1_7 a1_8 a1_9 a1_10 a1_11 a1_12 := by kernel_rfl
/- laws.eqJob -/
def laws_eqJob_u (k : Nat) (a0_0 : Int) (a0_1 : Int) (a0_2 : Int) (a0_3 : Int) (a0_4 : List (List T)) (a0_5 : Int) (a0_6 : List (List T)) (a0_7 : Int) (a1_0 : Int) (a1_1 : Int) (a1_2 : Int) (a1_3 : Int) (a1_4 : List (List T)) (a1_5 : Int) (a1_6 : List (List T)) (a1_7 : Int) : Option Outs :=
 bindO (evalF E P0 k N.laws_eqCmd [.v [.i a0_0, .i a0_1, .i a0_2, .i a0_3, .r a0_4], .v [.i a1_0, .i a1_1, .i a1_2, .i a1_3, .r a1_4]]) fun o2 =>
 bif (!(o2.t 0).asB) then
  some ⟨[.b false], []⟩
 else
  bif (a0_5 != a1_5) then
   some ⟨[.b false], []⟩
  else
   bindO (evalF E P0 k N.laws_eqIntS [.v [.r a0_6], .v [.r a1_6]]) fun o4 =>
   bif (!(o4.t 0).asB) then
    some ⟨[.b false], []⟩
   else
    bif (a0_7 != a1_7) then some ⟨[.b false], []⟩ else some ⟨[.b true], []⟩
theorem laws_eqJob_e (k : Nat) (a0_0 : Int) (a0_1 : Int) (a0_2 : Int) (a0_3 : Int) (a0_4 : List (List T)) (a0_5 : Int) (a0_6 : List (List T)) (a0_7 : Int) (a1_0 : Int) (a1_1 : Int) (a1_2 : Int) (a1_3 : Int) (a1_4 : List (List T)) (a1_5 : Int) (a1_6 : List (List T)) (a1_7 : Int) : evalF E P0 (k + 1) N.laws_eqJob [.v [.i a0_0, .i a0_1, .i a0_2, .i a0_3, .r a0_4, .i a0_5, .r a0_6, .i a0_7], .v [.i a1_0, .i a1_1, .i a1_2, .i a1_3, .r a1_4, .i a1_5, .r a1_6, .i a1_7]] = laws_eqJob_u k a0_0 a0_1 a0_2 a0_3 a0_4 a0_5 a0_6 a0_7 a1_0 a1_1 a1_2 a1_3 a1_4 a1_5 a1_6 a1_7 := by kernel_rfl
/- laws.eqJobS -/
def laws_eqJobS_L1 (k : Nat) (a0 : List (List T)) (a1 : List (List T)) (G1 : (Int) → Option Outs) : (Int) → Option Outs := fun v8 =>
 bif (decide (v8 < (a0.length : Int))) then
  chk (decide (0 ≤ v8) && decide (v8 < (a0.length : Int))) <|
  chk (decide (0 ≤ v8) && decide (v8 < (a1.length : Int))) <|
  bindO (evalF E P0 k N.laws_eqJob [.v [.i (at_ a0 v8.toNat 0).asI, .i (at_ a0 v8.toNat 1).asI, .i (at_ a0 v8.toNat 2).asI, .i (at_ a0 v8.toNat 3).asI, .r (at_ a0 v8.toNat 4).asR, .i (at_ a0 v8.toNat 5).asI, .r (at_ a0 v8.toNat 6).asR, .i (at_ a0 v8.toNat 7).asI], .v [.i (at_ a1 v8.toNat 0).asI, .i (at_ a1 v8.toNat 1).asI, .i (at_ a1 v8.toNat 2).asI, .i (at_ a1 v8.toNat 3).asI, .r (at_ a1 v8.toNat 4).asR, .i (at_ a1 v8.toNat 5).asI, .r (at_ a1 v8.toNat 6).asR, .i (at_ a1 v8.toNat 7).asI]]) fun o96 =>
  bif (!(o96.t 0).asB) then some ⟨[.b false], []⟩ else G1 (IntKind.wrap .i64 (v8 + 1))
 else
  some ⟨[.b true], []⟩
def laws_eqJobS_k1 : List Nat := [0, 1, 4, 5]
def laws_eqJobS_S1 (a0 : List (List T)) (a1 : List (List T)) : (Int) → St := fun v8 => ⟨ofSl [(0, .sl 155 a0), (1, .sl 155 a1), (4, .b false), (5, .i .i64 v8)], ofMem []⟩
def laws_eqJobS_l1 (k : Nat) (a0 : List (List T)) (a1 : List (List T)) (G1 : (Int) → Option Outs) : (Int) → Option Outs :=
  laws_eqJobS_L1 k a0 a1 G1
def laws_eqJobS_U (k : Nat) (a0 : List (List T)) (a1 : List (List T)) (R1 : (Int) → Option Outs) : Option Outs :=
 bif ((a0.length : Int) != (a1.length : Int)) then some ⟨[.b false], []⟩ else R1 0
def laws_eqJobS_u (k : Nat) (a0 : List (List T)) (a1 : List (List T)) : Option Outs :=
  laws_eqJobS_U k a0 a1 (fun v => fixN (laws_eqJobS_l1 k a0 a1) k v)
def laws_eqJobS_it1 (k : Nat) (a0 : List (List T)) (a1 : List (List T)) (js : List Nat) (j : Nat) (s : St) : Option Outs := iter E (LB E (evalF E P0 k) k [] N.laws_eqJobS [.sr, .sr, .sl, .sr, .bl]) [] laws_eqJobS_k1 (LK E (evalF E P0 k) k [] N.laws_eqJobS [.v [.r a0], .v [.r a1]] [.sr, .sr, .sl, .sr, .bl] js) j s
theorem laws_eqJobS_e (k : Nat) (a0 : List (List T)) (a1 : List (List T)) : evalF E P0 (k + 1) N.laws_eqJobS [.v [.r a0], .v [.r a1]] = laws_eqJobS_u k a0 a1 := by
  have e0 : evalF E P0 (k + 1) N.laws_eqJobS [.v [.r a0], .v [.r a1]] = laws_eqJobS_U k a0 a1 (fun v => laws_eqJobS_it1 k a0 a1 [] k (laws_eqJobS_S1 a0 a1 v)) := by kernel_rfl
  have e1 : ∀ (j1 : Nat) (v : Int), laws_eqJobS_it1 k a0 a1 [] (j1 + 1) (laws_eqJobS_S1 a0 a1 v) = laws_eqJobS_L1 k a0 a1 (fun v => laws_eqJobS_it1 k a0 a1 [] j1 (laws_eqJobS_S1 a0 a1 v)) v := by
    intro j1 v; kernel_rfl
  have i1 : ∀ (j1 : Nat) (v : Int), laws_eqJobS_it1 k a0 a1 [] j1 (laws_eqJobS_S1 a0 a1 v) = fixN (laws_eqJobS_l1 k a0 a1) j1 v := by
    intro j1 v
    refine iter_fix (laws_eqJobS_S1 a0 a1) (laws_eqJobS_l1 k a0 a1) (fun j1 v => (e1 j1 v).trans ?_) j1 v
    unfold laws_eqJobS_l1
    rfl
  rw [e0]; unfold laws_eqJobS_u
  simp only [i1]
/- laws.eqEng -/
def laws_eqEng_u (k : Nat) (a0_0 : Int) (a0_1 : Int) (a0_2 : Int) (a0_3 : List (List T)) (a0_4 : Int) (a0_5 : Int) (a0_6 : Int) (a0_7 : Int) (a0_8 : Int) (a0_9 : List (List T)) (a0_10 : Int) (a0_11 : Bool) (a0_12 : Bool) (a0_13 : List (List T)) (a0_14 : List (List T)) (a0_15 : List (List T)) (a0_16 : List (List T)) (a1_0 : Int) (a1_1 : Int) (a1_2 : Int) (a1_3 : List (List T)) (a1_4 : Int) (a1_5 : Int) (a1_6 : Int) (a1_7 : Int) (a1_8 : Int) (a1_9 : List (List T)) (a1_10 : Int) (a1_11 : Bool) (a1_12 : Bool) (a1_13 : List (List T)) (a1_14 : List (List T)) (a1_15 : List (List T)) (a1_16 : List (List T)) : Option Outs :=
 bindO (evalF E P0 k N.laws_eqArr [.v [.i a0_0, .i a0_1, .i a0_2, .r a0_3, .i a0_4, .i a0_5, .i a0_6, .i a0_7, .i a0_8, .r a0_9, .i a0_10, .b a0_11, .b a0_12], .v [.i a1_0, .i a1_1, .i a1_2, .r a1_3, .i a1_4, .i a1_5, .i a1_6, .i a1_7, .i a1_8, .r a1_9, .i a1_10, .b a1_11, .b a1_12]]) fun o2 =>
 bif (!(o2.t 0).asB) then
  some ⟨[.b false], []⟩
 else
  bindO (evalF E P0 k N.laws_eqCmdS [.v [.r a0_13], .v [.r a1_13]]) fun o4 =>
  bif (!(o4.t 0).asB) then
   some ⟨[.b false], []⟩
  else
   bindO (evalF E P0 k N.laws_eqJobS [.v [.r a0_14], .v [.r a1_14]]) fun o6 =>
   bif (!(o6.t 0).asB) then
    some ⟨[.b false], []⟩
   else
    bindO (evalF E P0 k N.laws_eqAnsS [.v [.r a0_15], .v [.r a1_15]]) fun o8 =>
    bif (!(o8.t 0).asB) then
     some ⟨[.b false], []⟩
    else
     bindO (evalF E P0 k N.laws_eqTurnS [.v [.r a0_16], .v [.r a1_16]]) fun o10 =>
     bif (!(o10.t 0).asB) then some ⟨[.b false], []⟩ else some ⟨[.b true], []⟩
theorem laws_eqEng_e (k : Nat) (a0_0 : Int) (a0_1 : Int) (a0_2 : Int) (a0_3 : List (List T)) (a0_4 : Int) (a0_5 : Int) (a0_6 : Int) (a0_7 : Int) (a0_8 : Int) (a0_9 : List (List T)) (a0_10 : Int) (a0_11 : Bool) (a0_12 : Bool) (a0_13 : List (List T)) (a0_14 : List (List T)) (a0_15 : List (List T)) (a0_16 : List (List T)) (a1_0 : Int) (a1_1 : Int) (a1_2 : Int) (a1_3 : List (List T)) (a1_4 : Int) (a1_5 : Int) (a1_6 : Int) (a1_7 : Int) (a1_8 : Int) (a1_9 : List (List T)) (a1_10 : Int) (a1_11 : Bool) (a1_12 : Bool) (a1_13 : List (List T)) (a1_14 : List (List T)) (a1_15 : List (List T)) (a1_16 : List (List T)) : evalF E P0 (k + 1) N.laws_eqEng [.v [.i a0_0, .i a0_1, .i a0_2, .r a0_3, .i a0_4, .i a0_5, .i a0_6, .i a0_7, .i a0_8, .r a0_9, .i a0_10, .b a0_11, .b a0_12, .r a0_13, .r a0_14, .r a0_15, .r a0_16], .v [.i a1_0, .i a1_1, .i a1_2, .r a1_3, .i a1_4, .i a1_5, .i a1_6, .i a1_7, .i a1_8, .r a1_9, .i a1_10, .b a1_11, .b a1_12, .r a1_13, .r a1_14, .r a1_15, .r a1_16]] = laws_eqEng_u k a0_0 a0_1 a0_2 a0_3 a0_4 a0_5 a0_6 a0_7 a0_8 a0_9 a0_10 a0_11 a0_12 a0_13 a0_14 a0_15 a0_16 a1_0 a1_1 a1_2 a1_3 a1_4 a1_5 a1_6 a1_7 a1_8 a1_9 a1_10 a1_11 a1_12 a1_13 a1_14 a1_15 a1_16 := by kernel_rfl
/- laws.markIntSS -/
def laws_markIntSS_L1 (k : Nat) (G1 : (Int × Int × List (List T)) → Option Outs) : (Int × Int × List (List T)) → Option Outs := fun (v15, v16, w8) =>
 bif (decide (v16 < (w8.length : Int))) then
  chk (decide (0 ≤ v16) && decide (v16 < (w8.length : Int))) <|
  bindO (evalF E P0 k N.laws_markIntS [.r ((at_ w8 v16.toNat 0).asR), .v [.i v15]]) fun o48 =>
  G1 ((o48.t 0).asI, (IntKind.wrap .i64 (v16 + 1)), (put_ w8 v16.toNat 0 [.r ((o48.vt 0 0).asR)]))
 else
  some ⟨[.i v15], [[.r w8]]⟩
def laws_markIntSS_k1 : List Nat := [0, 1, 4, 5, 18]
def laws_markIntSS_S1 : (Int × Int × List (List T)) → St := fun (v15, v16, w8) => ⟨ofSl [(0, .ref (0, 0)), (1, .i .i64 v15), (4, .i .i64 0), (5, .i .i64 v16), (18, .skip)], Mem.put (ofMem [((0, 0), .deep 39 w8 none)]) modeNm .dead⟩
def laws_markIntSS_l1 (k : Nat) (G1 : (Int × Int × List (List T)) → Option Outs) : (Int × Int × List (List T)) → Option Outs :=
  laws_markIntSS_L1 k G1
def laws_markIntSS_U (k : Nat) (a0 : List (List T)) (a1 : Int) (R1 : (Int × Int × List (List T)) → Option Outs) : Option Outs :=
 R1 (a1, 0, a0)
def laws_markIntSS_u (k : Nat) (a0 : List (List T)) (a1 : Int) : Option Outs :=
  laws_markIntSS_U k a0 a1 (fun v => fixN (laws_markIntSS_l1 k) k v)
def laws_markIntSS_it1 (k : Nat) (a0 : List (List T)) (a1 : Int) (js : List Nat) (j : Nat) (s : St) : Option Outs := iter E (LB E (evalF E P0 k) k [0] N.laws_markIntSS [.sr, .sl, .sr, .bl]) [0] laws_markIntSS_k1 (LK E (evalF E P0 k) k [0] N.laws_markIntSS [.r a0, .v [.i a1]] [.sr, .sl, .sr, .bl] js) j s
theorem laws_markIntSS_e (k : Nat) (a0 : List (List T)) (a1 : Int) : evalF E P0 (k + 1) N.laws_markIntSS [.r a0, .v [.i a1]] = laws_markIntSS_u k a0 a1 := by
  have e0 : evalF E P0 (k + 1) N.laws_markIntSS [.r a0, .v [.i a1]] = laws_markIntSS_U k a0 a1 (fun v => laws_markIntSS_it1 k a0 a1 [] k (laws_markIntSS_S1 v)) := by kernel_rfl
  have e1 : ∀ (j1 : Nat) (v : Int × Int × List (List T)), laws_markIntSS_it1 k a0 a1 [] (j1 + 1) (laws_markIntSS_S1 v) = laws_markIntSS_L1 k (fun v => laws_markIntSS_it1 k a0 a1 [] j1 (laws_markIntSS_S1 v)) v := by
    intro j1 v; kernel_rfl
  have i1 : ∀ (j1 : Nat) (v : Int × Int × List (List T)), laws_markIntSS_it1 k a0 a1 [] j1 (laws_markIntSS_S1 v) = fixN (laws_markIntSS_l1 k) j1 v := by
    intro j1 v
    refine iter_fix (laws_markIntSS_S1) (laws_markIntSS_l1 k) (fun j1 v => (e1 j1 v).trans ?_) j1 v
    unfold laws_markIntSS_l1
    rfl
  rw [e0]; unfold laws_markIntSS_u
  simp only [i1]
/- laws.markWrS -/
def laws_markWrS_L1 (k : Nat) (G1 : (Int × Int × List (List T)) → Option Outs) : (Int × Int × List (List T)) → Option Outs := fun (v15, v16, w8) =>
 bif (decide (v16 < (w8.length : Int))) then
  chk (decide (0 ≤ v16) && decide (v16 < (w8.length : Int))) <|
  chk (decide (0 ≤ v16) && decide (v16 < ((put_ w8 v16.toNat 0 [.i v15]).length : Int))) <|
  bindO (evalF E P0 k N.laws_markIntS [.r ((at_ (put_ w8 v16.toNat 0 [.i v15]) v16.toNat 1).asR), .v [.i (IntKind.wrap .i64 (v15 + 1))]]) fun o48 =>
  G1 ((o48.t 0).asI, (IntKind.wrap .i64 (v16 + 1)), (put_ (put_ w8 v16.toNat 0 [.i v15]) v16.toNat 1 [.r ((o48.vt 0 0).asR)]))
 else
  some ⟨[.i v15], [[.r w8]]⟩
def laws_markWrS_k1 : List Nat := [0, 1, 4, 5, 26]
def laws_markWrS_S1 : (Int × Int × List (List T)) → St := fun (v15, v16, w8) => ⟨ofSl [(0, .ref (0, 0)), (1, .i .i64 v15), (4, .i .i64 0), (5, .i .i64 v16), (26, .skip)], Mem.put (ofMem [((0, 0), .deep 174 w8 none)]) modeNm .dead⟩
def laws_markWrS_l1 (k : Nat) (G1 : (Int × Int × List (List T)) → Option Outs) : (Int × Int × List (List T)) → Option Outs :=
  laws_markWrS_L1 k G1
def laws_markWrS_U (k : Nat) (a0 : List (List T)) (a1 : Int) (R1 : (Int × Int × List (List T)) → Option Outs) : Option Outs :=
 R1 (a1, 0, a0)
def laws_markWrS_u (k : Nat) (a0 : List (List T)) (a1 : Int) : Option Outs :=
  laws_markWrS_U k a0 a1 (fun v => fixN (laws_markWrS_l1 k) k v)
def laws_markWrS_it1 (k : Nat) (a0 : List (List T)) (a1 : Int) (js : List Nat) (j : Nat) (s : St) : Option Outs := iter E (LB E (evalF E P0 k) k [0] N.laws_markWrS [.sr, .sl, .sr, .bl]) [0] laws_markWrS_k1 (LK E (evalF E P0 k) k [0] N.laws_markWrS [.r a0, .v [.i a1]] [.sr, .sl, .sr, .bl] js) j s
theorem laws_markWrS_e (k : Nat) (a0 : List (List T)) (a1 : Int) : evalF E P0 (k + 1) N.laws_markWrS [.r a0, .v [.i a1]] = laws_markWrS_u k a0 a1 := by
  have e0 : evalF E P0 (k + 1) N.laws_markWrS [.r a0, .v [.i a1]] = laws_markWrS_U k a0 a1 (fun v => laws_markWrS_it1 k a0 a1 [] k (laws_markWrS_S1 v)) := by kernel_rfl
  have e1 : ∀ (j1 : Nat) (v : Int × Int × List (List T)), laws_markWrS_it1 k a0 a1 [] (j1 + 1) (laws_markWrS_S1 v) = laws_markWrS_L1 k (fun v => laws_markWrS_it1 k a0 a1 [] j1 (laws_markWrS_S1 v)) v := by
    intro j1 v; kernel_rfl
  have i1 : ∀ (j1 : Nat) (v : Int × Int × List (List T)), laws_markWrS_it1 k a0 a1 [] j1 (laws_markWrS_S1 v) = fixN (laws_markWrS_l1 k) j1 v := by
    intro j1 v
    refine iter_fix (laws_markWrS_S1) (laws_markWrS_l1 k) (fun j1 v => (e1 j1 v).trans ?_) j1 v
    unfold laws_markWrS_l1
    rfl
  rw [e0]; unfold laws_markWrS_u
  simp only [i1]
/- laws.markMemS -/
def laws_markMemS_L1 (k : Nat) (G1 : (Int × Int × List (List T)) → Option Outs) : (Int × Int × List (List T)) → Option Outs := fun (v15, v16, w8) =>
 bif (decide (v16 < (w8.length : Int))) then
  chk (decide (0 ≤ v16) && decide (v16 < (w8.length : Int))) <|
  bindO (evalF E P0 k N.laws_markIntSS [.r ((at_ w8 v16.toNat 0).asR), .v [.i v15]]) fun o237 =>
  chk (decide (0 ≤ v16) && decide (v16 < ((put_ w8 v16.toNat 0 [.r ((o237.vt 0 0).asR)]).length : Int))) <|
  bindO (evalF E P0 k N.laws_markWrS [.r ((at_ (put_ w8 v16.toNat 0 [.r ((o237.vt 0 0).asR)]) v16.toNat 1).asR), .v [.i (o237.t 0).asI]]) fun o239 =>
  chk (decide (0 ≤ v16) && decide (v16 < ((put_ (put_ w8 v16.toNat 0 [.r ((o237.vt 0 0).asR)]) v16.toNat 1 [.r ((o239.vt 0 0).asR)]).length : Int))) <|
  chk (decide (0 ≤ v16) && decide (v16 < ((put_ (put_ (put_ w8 v16.toNat 0 [.r ((o237.vt 0 0).asR)]) v16.toNat 1 [.r ((o239.vt 0 0).asR)]) v16.toNat 2 [.b ((Int.tmod (o239.t 0).asI 3) == 0)]).length : Int))) <|
  bindO (evalF E P0 k N.laws_markIntS [.r ((at_ (put_ (put_ (put_ w8 v16.toNat 0 [.r ((o237.vt 0 0).asR)]) v16.toNat 1 [.r ((o239.vt 0 0).asR)]) v16.toNat 2 [.b ((Int.tmod (o239.t 0).asI 3) == 0)]) v16.toNat 3).asR), .v [.i (IntKind.wrap .i64 ((o239.t 0).asI + 1))]]) fun o240 =>
  G1 ((o240.t 0).asI, (IntKind.wrap .i64 (v16 + 1)), (put_ (put_ (put_ (put_ w8 v16.toNat 0 [.r ((o237.vt 0 0).asR)]) v16.toNat 1 [.r ((o239.vt 0 0).asR)]) v16.toNat 2 [.b ((Int.tmod (o239.t 0).asI 3) == 0)]) v16.toNat 3 [.r ((o240.vt 0 0).asR)]))
 else
  some ⟨[.i v15], [[.r w8]]⟩
def laws_markMemS_k1 : List Nat := [0, 1, 4, 5, 42]
def laws_markMemS_S1 : (Int × Int × List (List T)) → St := fun (v15, v16, w8) => ⟨ofSl [(0, .ref (0, 0)), (1, .i .i64 v15), (4, .i .i64 0), (5, .i .i64 v16), (42, .skip)], Mem.put (ofMem [((0, 0), .deep 139 w8 none)]) modeNm .dead⟩
def laws_markMemS_l1 (k : Nat) (G1 : (Int × Int × List (List T)) → Option Outs) : (Int × Int × List (List T)) → Option Outs :=
  laws_markMemS_L1 k G1
def laws_markMemS_U (k : Nat) (a0 : List (List T)) (a1 : Int) (R1 : (Int × Int × List (List T)) → Option Outs) : Option Outs :=
 R1 (a1, 0, a0)
def laws_markMemS_u (k : Nat) (a0 : List (List T)) (a1 : Int) : Option Outs :=
  laws_markMemS_U k a0 a1 (fun v => fixN (laws_markMemS_l1 k) k v)
def laws_markMemS_it1 (k : Nat) (a0 : List (List T)) (a1 : Int) (js : List Nat) (j : Nat) (s : St) : Option Outs := iter E (LB E (evalF E P0 k) k [0] N.laws_markMemS [.sr, .sl, .sr, .bl]) [0] laws_markMemS_k1 (LK E (evalF E P0 k) k [0] N.laws_markMemS [.r a0, .v [.i a1]] [.sr, .sl, .sr, .bl] js) j s
theorem laws_markMemS_e (k : Nat) (a0 : List (List T)) (a1 : Int) : evalF E P0 (k + 1) N.laws_markMemS [.r a0, .v [.i a1]] = laws_markMemS_u k a0 a1 := by
  have e0 : evalF E P0 (k + 1) N.laws_markMemS [.r a0, .v [.i a1]] = laws_markMemS_U k a0 a1 (fun v => laws_markMemS_it1 k a0 a1 [] k (laws_markMemS_S1 v)) := by kernel_rfl
  have e1 : ∀ (j1 : Nat) (v : Int × Int × List (List T)), laws_markMemS_it1 k a0 a1 [] (j1 + 1) (laws_markMemS_S1 v) = laws_markMemS_L1 k (fun v => laws_markMemS_it1 k a0 a1 [] j1 (laws_markMemS_S1 v)) v := by
    intro j1 v; kernel_rfl
  have i1 : ∀ (j1 : Nat) (v : Int × Int × List (List T)), laws_markMemS_it1 k a0 a1 [] j1 (laws_markMemS_S1 v) = fixN (laws_markMemS_l1 k) j1 v := by
    intro j1 v
    refine iter_fix (laws_markMemS_S1) (laws_markMemS_l1 k) (fun j1 v => (e1 j1 v).trans ?_) j1 v
    unfold laws_markMemS_l1
    rfl
  rw [e0]; unfold laws_markMemS_u
  simp only [i1]
/- laws.markEntS -/
def laws_markEntS_L1 (k : Nat) (G1 : (Int × Int × List (List T)) → Option Outs) : (Int × Int × List (List T)) → Option Outs := fun (v15, v16, w8) =>
 bif (decide (v16 < (w8.length : Int))) then
  chk (decide (0 ≤ v16) && decide (v16 < (w8.length : Int))) <|
  chk (decide (0 ≤ v16) && decide (v16 < ((put_ w8 v16.toNat 0 [.i v15]).length : Int))) <|
  bindO (evalF E P0 k N.laws_markIntS [.r ((at_ (put_ w8 v16.toNat 0 [.i v15]) v16.toNat 1).asR), .v [.i (IntKind.wrap .i64 (v15 + 1))]]) fun o48 =>
  G1 ((o48.t 0).asI, (IntKind.wrap .i64 (v16 + 1)), (put_ (put_ w8 v16.toNat 0 [.i v15]) v16.toNat 1 [.r ((o48.vt 0 0).asR)]))
 else
  some ⟨[.i v15], [[.r w8]]⟩
def laws_markEntS_k1 : List Nat := [0, 1, 4, 5, 26]
def laws_markEntS_S1 : (Int × Int × List (List T)) → St := fun (v15, v16, w8) => ⟨ofSl [(0, .ref (0, 0)), (1, .i .i64 v15), (4, .i .i64 0), (5, .i .i64 v16), (26, .skip)], Mem.put (ofMem [((0, 0), .deep 166 w8 none)]) modeNm .dead⟩
def laws_markEntS_l1 (k : Nat) (G1 : (Int × Int × List (List T)) → Option Outs) : (Int × Int × List (List T)) → Option Outs :=
  laws_markEntS_L1 k G1
def laws_markEntS_U (k : Nat) (a0 : List (List T)) (a1 : Int) (R1 : (Int × Int × List (List T)) → Option Outs) : Option Outs :=
 R1 (a1, 0, a0)
def laws_markEntS_u (k : Nat) (a0 : List (List T)) (a1 : Int) : Option Outs :=
  laws_markEntS_U k a0 a1 (fun v => fixN (laws_markEntS_l1 k) k v)
def laws_markEntS_it1 (k : Nat) (a0 : List (List T)) (a1 : Int) (js : List Nat) (j : Nat) (s : St) : Option Outs := iter E (LB E (evalF E P0 k) k [0] N.laws_markEntS [.sr, .sl, .sr, .bl]) [0] laws_markEntS_k1 (LK E (evalF E P0 k) k [0] N.laws_markEntS [.r a0, .v [.i a1]] [.sr, .sl, .sr, .bl] js) j s
theorem laws_markEntS_e (k : Nat) (a0 : List (List T)) (a1 : Int) : evalF E P0 (k + 1) N.laws_markEntS [.r a0, .v [.i a1]] = laws_markEntS_u k a0 a1 := by
  have e0 : evalF E P0 (k + 1) N.laws_markEntS [.r a0, .v [.i a1]] = laws_markEntS_U k a0 a1 (fun v => laws_markEntS_it1 k a0 a1 [] k (laws_markEntS_S1 v)) := by kernel_rfl
  have e1 : ∀ (j1 : Nat) (v : Int × Int × List (List T)), laws_markEntS_it1 k a0 a1 [] (j1 + 1) (laws_markEntS_S1 v) = laws_markEntS_L1 k (fun v => laws_markEntS_it1 k a0 a1 [] j1 (laws_markEntS_S1 v)) v := by
    intro j1 v; kernel_rfl
  have i1 : ∀ (j1 : Nat) (v : Int × Int × List (List T)), laws_markEntS_it1 k a0 a1 [] j1 (laws_markEntS_S1 v) = fixN (laws_markEntS_l1 k) j1 v := by
    intro j1 v
    refine iter_fix (laws_markEntS_S1) (laws_markEntS_l1 k) (fun j1 v => (e1 j1 v).trans ?_) j1 v
    unfold laws_markEntS_l1
    rfl
  rw [e0]; unfold laws_markEntS_u
  simp only [i1]
end
end Go.Proofs.Ytahlghlpdcfbgaa.Ev
