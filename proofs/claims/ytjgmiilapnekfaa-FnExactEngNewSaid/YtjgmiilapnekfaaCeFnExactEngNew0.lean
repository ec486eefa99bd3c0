/- What functions answer under the evaluator, as Lean terms, part 0: what FnExactEngNew needs. No condition. -/
import Derived.Test.YtjgmiilapnekfaaTab
namespace Go.Proofs.Ytjgmiilapnekfaa.Ev
open Go Go.Proofs
set_option linter.unusedVariables false
set_option maxRecDepth 100000
set_option maxHeartbeats 4000000
noncomputable section
def laws_toGeo_u (k : Nat) (a0_0 : Int) (a0_1 : Int) : Option Outs :=
 some ⟨[.i a0_0, .i a0_1], []⟩
theorem laws_toGeo_e (k : Nat) (a0_0 : Int) (a0_1 : Int) : evalF E P0 (k + 1) N.laws_toGeo [.v [.i a0_0, .i a0_1]] = laws_toGeo_u k a0_0 a0_1 := by kernel_rfl
def spec_l1In_u (k : Nat) (a0 : Int) (a1 : Int) (a2 : Int) : Option Outs :=
 bif (decide (a0 ≥ a1)) then some ⟨[.b (decide (a0 ≤ a2))], []⟩ else some ⟨[.b false], []⟩
theorem spec_l1In_e (k : Nat) (a0 : Int) (a1 : Int) (a2 : Int) : evalF E P0 (k + 1) N.spec_l1In [.v [.i a0], .v [.i a1], .v [.i a2]] = spec_l1In_u k a0 a1 a2 := by kernel_rfl
def spec_GeoOk_u (k : Nat) (a0_0 : Int) (a0_1 : Int) : Option Outs :=
 bindO (evalF E P0 k N.spec_l1In [.v [.i a0_0], .v [.i 3], .v [.i 5]]) fun o3 =>
 bif (o3.t 0).asB then
  bindO (evalF E P0 k N.spec_l1In [.v [.i a0_1], .v [.i 1], .v [.i 8]]) fun o4 =>
  some ⟨[.b (o4.t 0).asB], []⟩
 else
  some ⟨[.b false], []⟩
theorem spec_GeoOk_e (k : Nat) (a0_0 : Int) (a0_1 : Int) : evalF E P0 (k + 1) N.spec_GeoOk [.v [.i a0_0, .i a0_1]] = spec_GeoOk_u k a0_0 a0_1 := by kernel_rfl
def spec_l6Secs_u (k : Nat) (a0_0 : Int) (a0_1 : Int) : Option Outs :=
 some ⟨[.i (IntKind.wrap .i64 (6 + a0_1))], []⟩
theorem spec_l6Secs_e (k : Nat) (a0_0 : Int) (a0_1 : Int) : evalF E P0 (k + 1) N.spec_l6Secs [.v [.i a0_0, .i a0_1]] = spec_l6Secs_u k a0_0 a0_1 := by kernel_rfl
def spec_MemNew_L1 (k : Nat) (a0 : Int) (G1 : (Int × List (List T)) → Option Outs) : (Int × List (List T)) → Option Outs := fun (v8, w8) =>
 bif (decide (v8 < a0)) then
  chk (decide ((w8.length + ([[.r []]] : List (List T)).length) * 24 ≤ 140737488355328)) <|
  G1 ((IntKind.wrap .i64 (v8 + 1)), (w8 ++ ([[.r []]] : List (List T))))
 else
  some ⟨[.r w8, .r [], .b false, .r []], []⟩
def spec_MemNew_k1 : List Nat := [0, 2, 3, 4, 21]
def spec_MemNew_S1 (a0 : Int) : (Int × List (List T)) → St := fun (v8, w8) => ⟨ofSl [(0, .i .i64 a0), (2, .ptr (2, 0) 0), (3, .ptr (3, 0) 0), (4, .i .i64 v8), (21, .skip)], ofMem [((2, 0), .var [.ref (2, 1), .ref (2, 2), .b false, .ref (2, 4)]), ((2, 1), .row 55 true []), ((2, 2), .row 93 true []), ((2, 4), .row 3 true []), ((3, 0), .var [.ref (3, 1), .ref (3, 2), .b false, .ref (3, 4)]), ((3, 1), .row 55 true w8), ((3, 2), .row 93 true []), ((3, 4), .row 3 true [])]⟩
def spec_MemNew_l1 (k : Nat) (a0 : Int) (G1 : (Int × List (List T)) → Option Outs) : (Int × List (List T)) → Option Outs :=
  spec_MemNew_L1 k a0 G1
def spec_MemNew_U (k : Nat) (a0 : Int) (R1 : (Int × List (List T)) → Option Outs) : Option Outs :=
 bindO (evalF E P0 k N.spec_l1In [.v [.i a0], .v [.i 1], .v [.i 20]]) fun o2 =>
 bif (!(o2.t 0).asB) then some ⟨[.r [], .r [], .b false, .r []], []⟩ else R1 (0, [])
def spec_MemNew_u (k : Nat) (a0 : Int) : Option Outs :=
  spec_MemNew_U k a0 (fun v => fixN (spec_MemNew_l1 k a0) k v)
def spec_MemNew_it1 (k : Nat) (a0 : Int) (js : List Nat) (j : Nat) (s : St) : Option Outs := iter E (LB E (evalF E P0 k) k [] N.spec_MemNew [.sr, .sr, .sr, .sl, .sr, .bl]) [] spec_MemNew_k1 (LK E (evalF E P0 k) k [] N.spec_MemNew [.v [.i a0]] [.sr, .sr, .sr, .sl, .sr, .bl] js) j s
theorem spec_MemNew_e (k : Nat) (a0 : Int) : evalF E P0 (k + 1) N.spec_MemNew [.v [.i a0]] = spec_MemNew_u k a0 := by
  have e0 : evalF E P0 (k + 1) N.spec_MemNew [.v [.i a0]] = spec_MemNew_U k a0 (fun v => spec_MemNew_it1 k a0 [] k (spec_MemNew_S1 a0 v)) := by kernel_rfl
  have e1 : ∀ (j1 : Nat) (v : Int × List (List T)), spec_MemNew_it1 k a0 [] (j1 + 1) (spec_MemNew_S1 a0 v) = spec_MemNew_L1 k a0 (fun v => spec_MemNew_it1 k a0 [] j1 (spec_MemNew_S1 a0 v)) v := by
    intro j1 v; kernel_rfl
  have i1 : ∀ (j1 : Nat) (v : Int × List (List T)), spec_MemNew_it1 k a0 [] j1 (spec_MemNew_S1 a0 v) = fixN (spec_MemNew_l1 k a0) j1 v := by
    intro j1 v
    refine iter_fix (spec_MemNew_S1 a0) (spec_MemNew_l1 k a0) (fun j1 v => (e1 j1 v).trans ?_) j1 v
    unfold spec_MemNew_l1
    rfl
  rw [e0]; unfold spec_MemNew_u
  simp only [i1]
def spec_SuperOk_J1 (k : Nat) (a0_3 : Int) (a0_4 : Int) (a0_6 : Int) (a0_7 : Int) (c1 : Bool) : Option Outs :=
 bif c1 then
  some ⟨[.b false], []⟩
 else
  bindO (evalF E P0 k N.spec_l1In [.v [.i a0_6], .v [.i (-1)], .v [.i (IntKind.wrap .i64 (a0_3 - 1))]]) fun o9 =>
  bif (o9.t 0).asB then
   bindO (evalF E P0 k N.spec_l1In [.v [.i a0_7], .v [.i 0], .v [.i a0_4]]) fun o10 =>
   bif (o10.t 0).asB then
    bif (decide (a0_6 ≥ 0)) then some ⟨[.b true], []⟩ else some ⟨[.b (a0_7 == 0)], []⟩
   else
    some ⟨[.b false], []⟩
  else
   some ⟨[.b false], []⟩
def spec_SuperOk_u (k : Nat) (a0_0 : Int) (a0_1 : Int) (a0_2 : Int) (a0_3 : Int) (a0_4 : Int) (a0_5 : Int) (a0_6 : Int) (a0_7 : Int) : Option Outs :=
 bindO (evalF E P0 k N.spec_GeoOk [.v [.i a0_3, .i a0_4]]) fun o6 =>
 bif (!(o6.t 0).asB) then
  spec_SuperOk_J1 k a0_3 a0_4 a0_6 a0_7 true
 else
  bindO (evalF E P0 k N.spec_l1In [.v [.i a0_0], .v [.i 1], .v [.i 60000]]) fun o11 =>
  bif (!(o11.t 0).asB) then
   spec_SuperOk_J1 k a0_3 a0_4 a0_6 a0_7 true
  else
   bindO (evalF E P0 k N.spec_l1In [.v [.i a0_1], .v [.i 0], .v [.i 60000]]) fun o12 =>
   bif (!(o12.t 0).asB) then
    spec_SuperOk_J1 k a0_3 a0_4 a0_6 a0_7 true
   else
    bindO (evalF E P0 k N.spec_l1In [.v [.i a0_2], .v [.i 0], .v [.i (IntKind.wrap .i64 (a0_3 - 1))]]) fun o13 =>
    bif (!(o13.t 0).asB) then
     spec_SuperOk_J1 k a0_3 a0_4 a0_6 a0_7 true
    else
     bindO (evalF E P0 k N.spec_l1In [.v [.i a0_5], .v [.i 0], .v [.i 60000]]) fun o14 =>
     spec_SuperOk_J1 k a0_3 a0_4 a0_6 a0_7 (!(o14.t 0).asB)
theorem spec_SuperOk_e (k : Nat) (a0_0 : Int) (a0_1 : Int) (a0_2 : Int) (a0_3 : Int) (a0_4 : Int) (a0_5 : Int) (a0_6 : Int) (a0_7 : Int) : evalF E P0 (k + 1) N.spec_SuperOk [.v [.i a0_0, .i a0_1, .i a0_2, .i a0_3, .i a0_4, .i a0_5, .i a0_6, .i a0_7]] = spec_SuperOk_u k a0_0 a0_1 a0_2 a0_3 a0_4 a0_5 a0_6 a0_7 := by kernel_rfl
def spec_PutSuper_u (k : Nat) (a0_0 : Int) (a0_1 : Int) (a0_2 : Int) (a0_3 : Int) (a0_4 : Int) (a0_5 : Int) (a0_6 : Int) (a0_7 : Int) : Option Outs :=
 bindO (evalF E P0 k N.spec_SuperOk [.v [.i a0_0, .i a0_1, .i a0_2, .i a0_3, .i a0_4, .i a0_5, .i a0_6, .i a0_7]]) fun o2 =>
 bif (!(o2.t 0).asB) then
  some ⟨[.r []], []⟩
 else
  some ⟨[.r [[.i 21317], [.i a0_0], [.i a0_1], [.i a0_2], [.i a0_3], [.i a0_4], [.i a0_5], [.i (IntKind.wrap .i64 (a0_6 + 1))], [.i a0_7]]], []⟩
theorem spec_PutSuper_e (k : Nat) (a0_0 : Int) (a0_1 : Int) (a0_2 : Int) (a0_3 : Int) (a0_4 : Int) (a0_5 : Int) (a0_6 : Int) (a0_7 : Int) : evalF E P0 (k + 1) N.spec_PutSuper [.v [.i a0_0, .i a0_1, .i a0_2, .i a0_3, .i a0_4, .i a0_5, .i a0_6, .i a0_7]] = spec_PutSuper_u k a0_0 a0_1 a0_2 a0_3 a0_4 a0_5 a0_6 a0_7 := by kernel_rfl
def spec_DataAt_u (k : Nat) (a0 : Int) : Option Outs :=
 bindO (evalF E P0 k N.spec_l1In [.v [.i a0], .v [.i 0], .v [.i 1099511627776]]) fun o2 =>
 bif (!(o2.t 0).asB) then
  some ⟨[.i (-1)], []⟩
 else
  some ⟨[.i (IntKind.wrap .i64 ((IntKind.wrap .i64 (a0 + 2)) + 4))], []⟩
theorem spec_DataAt_e (k : Nat) (a0 : Int) : evalF E P0 (k + 1) N.spec_DataAt [.v [.i a0]] = spec_DataAt_u k a0 := by kernel_rfl
def spec_ArrNew_L2 (k : Nat) (a0 : Int) (a1_0 : Int) (a1_1 : Int) (o2545 : Outs) (v360 : Int) (w360 : List (List T)) (G1 : (Int × List (List T)) → Option Outs) (G2 : (Int × List (List T)) → Option Outs) : (Int × List (List T)) → Option Outs := fun (v392, w392) =>
 bif (decide (v392 < a1_1)) then
  bindO (evalF E P0 k N.spec_DataAt [.v [.i v392]]) fun o2595 =>
  chk (decide (0 ≤ (o2595.t 0).asI) && decide ((o2595.t 0).asI < (w392.length : Int))) <|
  G2 ((IntKind.wrap .i64 (v392 + 1)), (put_ w392 (o2595.t 0).asI.toNat 0 [.r [[.i 0]]]))
 else
  chk (decide ((w360.length + ([[.r w392, .r (o2545.t 1).asR, .b (o2545.t 2).asB, .r (o2545.t 3).asR]] : List (List T)).length) * 80 ≤ 140737488355328)) <|
  G1 ((IntKind.wrap .i64 (v360 + 1)), (w360 ++ ([[.r w392, .r (o2545.t 1).asR, .b (o2545.t 2).asB, .r (o2545.t 3).asR]] : List (List T))))
def spec_ArrNew_k2 : List Nat := [0, 3, 4, 5, 6, 7, 8, 25, 26, 53, 54, 55, 56, 57, 58, 59]
def spec_ArrNew_S2 (a0 : Int) (a1_0 : Int) (a1_1 : Int) (o2545 : Outs) (v360 : Int) (w360 : List (List T)) : (Int × List (List T)) → St := fun (v392, w392) => ⟨ofSl [(0, .i .i64 a0), (3, .ptr (3, 0) 0), (4, .ptr (4, 0) 0), (5, .ptr (5, 0) 0), (6, .i .i64 v360), (7, .ptr (7, 0) 0), (8, .i .i64 v392), (25, .undef), (26, .undef), (53, .undef), (54, .undef), (55, .undef), (56, .undef), (57, .undef), (58, .undef), (59, .skip)], ofMem [((3, 0), .var [.i .i64 a1_0, .i .i64 a1_1]), ((4, 0), .var [.i .i64 0, .i .i64 0, .i .i64 0, .ref (4, 4), .i .i64 0, .i .i64 0, .i .i64 0, .i .i64 0, .i .i64 0, .ref (4, 10), .i .i64 0, .b false, .b false]), ((4, 4), .row 57 true []), ((4, 10), .row 99 true []), ((5, 0), .var [.i .i64 a0, .i .i64 a1_0, .i .i64 a1_1, .ref (5, 4), .i .i64 (-1), .i .i64 0, .i .i64 0, .i .i64 0, .i .i64 0, .ref (5, 10), .i .i64 (-1), .b false, .b false]), ((5, 4), .row 57 true w360), ((5, 10), .row 99 true []), ((7, 0), .var [.ref (7, 1), .ref (7, 2), .b (o2545.t 2).asB, .ref (7, 4)]), ((7, 1), .row 55 true w392), ((7, 2), .row 93 true (o2545.t 1).asR), ((7, 4), .row 3 true (o2545.t 3).asR)]⟩
def spec_ArrNew_L1 (k : Nat) (a0 : Int) (a1_0 : Int) (a1_1 : Int) (R2 : Outs → Int → List (List T) → (Int × List (List T)) → Option Outs) (G1 : (Int × List (List T)) → Option Outs) : (Int × List (List T)) → Option Outs := fun (v360, w360) =>
 bif (decide (v360 < a1_0)) then
  bindO (evalF E P0 k N.spec_l6Secs [.v [.i a1_0, .i a1_1]]) fun o2544 =>
  bindO (evalF E P0 k N.spec_MemNew [.v [.i (o2544.t 0).asI]]) fun o2545 =>
  bindO (evalF E P0 k N.spec_PutSuper [.v [.i a0, .i 0, .i v360, .i a1_0, .i a1_1, .i 0, .i (-1), .i 0]]) fun o2547 =>
  chk (decide ((0 : Int) < ((o2545.t 0).asR.length : Int))) <|
  R2 o2545 v360 w360 (0, (put_ (o2545.t 0).asR 0 0 [.r (o2547.t 0).asR]))
 else
  some ⟨[.i a0, .i a1_0, .i a1_1, .r w360, .i (-1), .i 0, .i 0, .i 0, .i 0, .r [], .i (-1), .b false, .b false], []⟩
def spec_ArrNew_k1 : List Nat := [0, 3, 4, 5, 6, 59]
def spec_ArrNew_S1 (a0 : Int) (a1_0 : Int) (a1_1 : Int) : (Int × List (List T)) → St := fun (v360, w360) => ⟨ofSl [(0, .i .i64 a0), (3, .ptr (3, 0) 0), (4, .ptr (4, 0) 0), (5, .ptr (5, 0) 0), (6, .i .i64 v360), (59, .skip)], ofMem [((3, 0), .var [.i .i64 a1_0, .i .i64 a1_1]), ((4, 0), .var [.i .i64 0, .i .i64 0, .i .i64 0, .ref (4, 4), .i .i64 0, .i .i64 0, .i .i64 0, .i .i64 0, .i .i64 0, .ref (4, 10), .i .i64 0, .b false, .b false]), ((4, 4), .row 57 true []), ((4, 10), .row 99 true []), ((5, 0), .var [.i .i64 a0, .i .i64 a1_0, .i .i64 a1_1, .ref (5, 4), .i .i64 (-1), .i .i64 0, .i .i64 0, .i .i64 0, .i .i64 0, .ref (5, 10), .i .i64 (-1), .b false, .b false]), ((5, 4), .row 57 true w360), ((5, 10), .row 99 true [])]⟩
def spec_ArrNew_J1 (k : Nat) (R1 : (Int × List (List T)) → Option Outs) (c1 : Bool) : Option Outs :=
 bif c1 then
  some ⟨[.i 0, .i 0, .i 0, .r [], .i 0, .i 0, .i 0, .i 0, .i 0, .r [], .i 0, .b false, .b false], []⟩
 else
  R1 (0, [])
def spec_ArrNew_l2 (k : Nat) (a0 : Int) (a1_0 : Int) (a1_1 : Int) (o2545 : Outs) (v360 : Int) (w360 : List (List T)) (G1 : (Int × List (List T)) → Option Outs) (G2 : (Int × List (List T)) → Option Outs) : (Int × List (List T)) → Option Outs :=
  spec_ArrNew_L2 k a0 a1_0 a1_1 o2545 v360 w360 G1 G2
def spec_ArrNew_l1 (k : Nat) (a0 : Int) (a1_0 : Int) (a1_1 : Int) (G1 : (Int × List (List T)) → Option Outs) : (Int × List (List T)) → Option Outs :=
  spec_ArrNew_L1 k a0 a1_0 a1_1 (fun y0 y1 y2 v => fixN (spec_ArrNew_l2 k a0 a1_0 a1_1 y0 y1 y2 G1) k v) G1
def spec_ArrNew_U (k : Nat) (a0 : Int) (a1_0 : Int) (a1_1 : Int) (R1 : (Int × List (List T)) → Option Outs) : Option Outs :=
 bindO (evalF E P0 k N.spec_GeoOk [.v [.i a1_0, .i a1_1]]) fun o3 =>
 bif (!(o3.t 0).asB) then
  spec_ArrNew_J1 k R1 true
 else
  bindO (evalF E P0 k N.spec_l1In [.v [.i a0], .v [.i 1], .v [.i 60000]]) fun o2596 =>
  spec_ArrNew_J1 k R1 (!(o2596.t 0).asB)
def spec_ArrNew_u (k : Nat) (a0 : Int) (a1_0 : Int) (a1_1 : Int) : Option Outs :=
  spec_ArrNew_U k a0 a1_0 a1_1 (fun v => fixN (spec_ArrNew_l1 k a0 a1_0 a1_1) k v)
def spec_ArrNew_it1 (k : Nat) (a0 : Int) (a1_0 : Int) (a1_1 : Int) (js : List Nat) (j : Nat) (s : St) : Option Outs := iter E (LB E (evalF E P0 k) k [] N.spec_ArrNew [.sr, .sr, .sr, .sl, .sr, .bl]) [] spec_ArrNew_k1 (LK E (evalF E P0 k) k [] N.spec_ArrNew [.v [.i a0], .v [.i a1_0, .i a1_1]] [.sr, .sr, .sr, .sl, .sr, .bl] js) j s
def spec_ArrNew_it2 (k : Nat) (a0 : Int) (a1_0 : Int) (a1_1 : Int) (js : List Nat) (j : Nat) (s : St) : Option Outs := iter E (LB E (evalF E P0 k) k [] N.spec_ArrNew [.sr, .sr, .sr, .sl, .sr, .bl, .lp, .sr, .sl, .bl, .sr, .sr, .sl, .sr, .bl]) [] spec_ArrNew_k2 (LK E (evalF E P0 k) k [] N.spec_ArrNew [.v [.i a0], .v [.i a1_0, .i a1_1]] [.sr, .sr, .sr, .sl, .sr, .bl, .lp, .sr, .sl, .bl, .sr, .sr, .sl, .sr, .bl] js) j s
theorem spec_ArrNew_e (k : Nat) (a0 : Int) (a1_0 : Int) (a1_1 : Int) : evalF E P0 (k + 1) N.spec_ArrNew [.v [.i a0], .v [.i a1_0, .i a1_1]] = spec_ArrNew_u k a0 a1_0 a1_1 := by
  have e0 : evalF E P0 (k + 1) N.spec_ArrNew [.v [.i a0], .v [.i a1_0, .i a1_1]] = spec_ArrNew_U k a0 a1_0 a1_1 (fun v => spec_ArrNew_it1 k a0 a1_0 a1_1 [] k (spec_ArrNew_S1 a0 a1_0 a1_1 v)) := by kernel_rfl
  have e2 : ∀ (j1 : Nat) (o2545 : Outs) (v360 : Int) (w360 : List (List T)) (j2 : Nat) (v : Int × List (List T)), spec_ArrNew_it2 k a0 a1_0 a1_1 [j1] (j2 + 1) (spec_ArrNew_S2 a0 a1_0 a1_1 o2545 v360 w360 v) = spec_ArrNew_L2 k a0 a1_0 a1_1 o2545 v360 w360 (fun v => spec_ArrNew_it1 k a0 a1_0 a1_1 [] j1 (spec_ArrNew_S1 a0 a1_0 a1_1 v)) (fun v => spec_ArrNew_it2 k a0 a1_0 a1_1 [j1] j2 (spec_ArrNew_S2 a0 a1_0 a1_1 o2545 v360 w360 v)) v := by
    intro j1 o2545 v360 w360 j2 v; kernel_rfl
  have i2 : ∀ (j1 : Nat) (o2545 : Outs) (v360 : Int) (w360 : List (List T)) (j2 : Nat) (v : Int × List (List T)), spec_ArrNew_it2 k a0 a1_0 a1_1 [j1] j2 (spec_ArrNew_S2 a0 a1_0 a1_1 o2545 v360 w360 v) = fixN (spec_ArrNew_l2 k a0 a1_0 a1_1 o2545 v360 w360 (fun v => spec_ArrNew_it1 k a0 a1_0 a1_1 [] j1 (spec_ArrNew_S1 a0 a1_0 a1_1 v))) j2 v := by
    intro j1 o2545 v360 w360 j2 v
    refine iter_fix (spec_ArrNew_S2 a0 a1_0 a1_1 o2545 v360 w360) (spec_ArrNew_l2 k a0 a1_0 a1_1 o2545 v360 w360 (fun v => spec_ArrNew_it1 k a0 a1_0 a1_1 [] j1 (spec_ArrNew_S1 a0 a1_0 a1_1 v))) (fun j2 v => (e2 j1 o2545 v360 w360 j2 v).trans ?_) j2 v
    unfold spec_ArrNew_l2
    rfl
  have e1 : ∀ (j1 : Nat) (v : Int × List (List T)), spec_ArrNew_it1 k a0 a1_0 a1_1 [] (j1 + 1) (spec_ArrNew_S1 a0 a1_0 a1_1 v) = spec_ArrNew_L1 k a0 a1_0 a1_1 (fun y0 y1 y2 v => spec_ArrNew_it2 k a0 a1_0 a1_1 [j1] k (spec_ArrNew_S2 a0 a1_0 a1_1 y0 y1 y2 v)) (fun v => spec_ArrNew_it1 k a0 a1_0 a1_1 [] j1 (spec_ArrNew_S1 a0 a1_0 a1_1 v)) v := by
    intro j1 v; kernel_rfl
  have i1 : ∀ (j1 : Nat) (v : Int × List (List T)), spec_ArrNew_it1 k a0 a1_0 a1_1 [] j1 (spec_ArrNew_S1 a0 a1_0 a1_1 v) = fixN (spec_ArrNew_l1 k a0 a1_0 a1_1) j1 v := by
    intro j1 v
    refine iter_fix (spec_ArrNew_S1 a0 a1_0 a1_1) (spec_ArrNew_l1 k a0 a1_0 a1_1) (fun j1 v => (e1 j1 v).trans ?_) j1 v
    unfold spec_ArrNew_l1
    simp only [i2] <;> rfl
  rw [e0]; unfold spec_ArrNew_u
  simp only [i1]
def spec_EngNew_u (k : Nat) (a0 : Int) (a1_0 : Int) (a1_1 : Int) : Option Outs :=
 bindO (evalF E P0 k N.spec_ArrNew [.v [.i a0], .v [.i a1_0, .i a1_1]]) fun o2 =>
 some ⟨[.i (o2.t 0).asI, .i (o2.t 1).asI, .i (o2.t 2).asI, .r (o2.t 3).asR, .i (o2.t 4).asI, .i (o2.t 5).asI, .i (o2.t 6).asI, .i (o2.t 7).asI, .i (o2.t 8).asI, .r (o2.t 9).asR, .i (o2.t 10).asI, .b (o2.t 11).asB, .b (o2.t 12).asB, .r [], .r [], .r [], .r []], []⟩
theorem spec_EngNew_e (k : Nat) (a0 : Int) (a1_0 : Int) (a1_1 : Int) : evalF E P0 (k + 1) N.spec_EngNew [.v [.i a0], .v [.i a1_0, .i a1_1]] = spec_EngNew_u k a0 a1_0 a1_1 := by kernel_rfl
def impl_within_u (k : Nat) (a0 : Int) (a1 : Int) (a2 : Int) : Option Outs :=
 bif (decide (a0 ≥ a1)) then some ⟨[.b (decide (a0 ≤ a2))], []⟩ else some ⟨[.b false], []⟩
theorem impl_within_e (k : Nat) (a0 : Int) (a1 : Int) (a2 : Int) : evalF E P0 (k + 1) N.impl_within [.v [.i a0], .v [.i a1], .v [.i a2]] = impl_within_u k a0 a1 a2 := by kernel_rfl
def impl_GeoOk_u (k : Nat) (a0_0 : Int) (a0_1 : Int) : Option Outs :=
 bindO (evalF E P0 k N.impl_within [.v [.i a0_0], .v [.i 3], .v [.i 5]]) fun o3 =>
 bif (o3.t 0).asB then
  bindO (evalF E P0 k N.impl_within [.v [.i a0_1], .v [.i 1], .v [.i 8]]) fun o4 =>
  some ⟨[.b (o4.t 0).asB], []⟩
 else
  some ⟨[.b false], []⟩
theorem impl_GeoOk_e (k : Nat) (a0_0 : Int) (a0_1 : Int) : evalF E P0 (k + 1) N.impl_GeoOk [.v [.i a0_0, .i a0_1]] = impl_GeoOk_u k a0_0 a0_1 := by kernel_rfl
def impl_sectors_u (k : Nat) (a0_0 : Int) (a0_1 : Int) : Option Outs :=
 some ⟨[.i (IntKind.wrap .i64 (6 + a0_1))], []⟩
theorem impl_sectors_e (k : Nat) (a0_0 : Int) (a0_1 : Int) : evalF E P0 (k + 1) N.impl_sectors [.v [.i a0_0, .i a0_1]] = impl_sectors_u k a0_0 a0_1 := by kernel_rfl
def impl_MemNew_u (k : Nat) (a0 : Int) : Option Outs :=
 bindO (evalF E P0 k N.impl_within [.v [.i a0], .v [.i 1], .v [.i 20]]) fun o2 =>
 bif (!(o2.t 0).asB) then
  some ⟨[.r [], .r [], .b false, .r []], []⟩
 else
  chk (decide (a0 = a0) && decide (0 ≤ a0) && decide (a0 * ((24 : Nat) : Int) ≤ 140737488355328)) <|
  some ⟨[.r (List.replicate (a0 : Int).toNat [.r []]), .r [], .b false, .r []], []⟩
theorem impl_MemNew_e (k : Nat) (a0 : Int) : evalF E P0 (k + 1) N.impl_MemNew [.v [.i a0]] = impl_MemNew_u k a0 := by kernel_rfl
def impl_superOf_u (k : Nat) (a0_0 : Int) (a0_1 : Int) (a0_2 : Int) (a0_3 : List (List T)) (a0_4 : Int) (a0_5 : Int) (a0_6 : Int) (a0_7 : Int) (a0_8 : Int) (a0_9 : List (List T)) (a0_10 : Int) (a0_11 : Bool) (a0_12 : Bool) (a1 : Int) : Option Outs :=
 some ⟨[.i a0_0, .i a0_8, .i a1, .i a0_1, .i a0_2, .i a0_7, .i a0_4, .i a0_5], []⟩
theorem impl_superOf_e (k : Nat) (a0_0 : Int) (a0_1 : Int) (a0_2 : Int) (a0_3 : List (List T)) (a0_4 : Int) (a0_5 : Int) (a0_6 : Int) (a0_7 : Int) (a0_8 : Int) (a0_9 : List (List T)) (a0_10 : Int) (a0_11 : Bool) (a0_12 : Bool) (a1 : Int) : evalF E P0 (k + 1) N.impl_superOf [.v [.i a0_0, .i a0_1, .i a0_2, .r a0_3, .i a0_4, .i a0_5, .i a0_6, .i a0_7, .i a0_8, .r a0_9, .i a0_10, .b a0_11, .b a0_12], .v [.i a1]] = impl_superOf_u k a0_0 a0_1 a0_2 a0_3 a0_4 a0_5 a0_6 a0_7 a0_8 a0_9 a0_10 a0_11 a0_12 a1 := by kernel_rfl
def impl_lostOk_u (k : Nat) (a0_0 : Int) (a0_1 : Int) (a1 : Int) (a2 : Int) : Option Outs :=
 bindO (evalF E P0 k N.impl_within [.v [.i a1], .v [.i (-1)], .v [.i (IntKind.wrap .i64 (a0_0 - 1))]]) fun o3 =>
 bif (o3.t 0).asB then
  bindO (evalF E P0 k N.impl_within [.v [.i a2], .v [.i 0], .v [.i a0_1]]) fun o4 =>
  bif (o4.t 0).asB then
   bif (a2 == 0) then some ⟨[.b true], []⟩ else some ⟨[.b (a1 != (-1))], []⟩
  else
   some ⟨[.b false], []⟩
 else
  some ⟨[.b false], []⟩
theorem impl_lostOk_e (k : Nat) (a0_0 : Int) (a0_1 : Int) (a1 : Int) (a2 : Int) : evalF E P0 (k + 1) N.impl_lostOk [.v [.i a0_0, .i a0_1], .v [.i a1], .v [.i a2]] = impl_lostOk_u k a0_0 a0_1 a1 a2 := by kernel_rfl
def impl_SuperOk_J1 (k : Nat) (a0_2 : Int) (a0_3 : Int) (a0_4 : Int) (a0_6 : Int) (a0_7 : Int) (c1 : Bool) : Option Outs :=
 bif c1 then
  bindO (evalF E P0 k N.impl_GeoOk [.v [.i a0_3, .i a0_4]]) fun o10 =>
  bif (o10.t 0).asB then
   bindO (evalF E P0 k N.impl_within [.v [.i a0_2], .v [.i 0], .v [.i (IntKind.wrap .i64 (a0_3 - 1))]]) fun o11 =>
   bif (o11.t 0).asB then
    bindO (evalF E P0 k N.impl_lostOk [.v [.i a0_3, .i a0_4], .v [.i a0_6], .v [.i a0_7]]) fun o12 =>
    some ⟨[.b (o12.t 0).asB], []⟩
   else
    some ⟨[.b false], []⟩
  else
   some ⟨[.b false], []⟩
 else
  some ⟨[.b false], []⟩
def impl_SuperOk_u (k : Nat) (a0_0 : Int) (a0_1 : Int) (a0_2 : Int) (a0_3 : Int) (a0_4 : Int) (a0_5 : Int) (a0_6 : Int) (a0_7 : Int) : Option Outs :=
 bindO (evalF E P0 k N.impl_within [.v [.i a0_0], .v [.i 1], .v [.i 60000]]) fun o4 =>
 bif (o4.t 0).asB then
  bindO (evalF E P0 k N.impl_within [.v [.i a0_1], .v [.i 0], .v [.i 60000]]) fun o5 =>
  bif (o5.t 0).asB then
   bindO (evalF E P0 k N.impl_within [.v [.i a0_5], .v [.i 0], .v [.i 60000]]) fun o6 =>
   impl_SuperOk_J1 k a0_2 a0_3 a0_4 a0_6 a0_7 ((o6.t 0).asB)
  else
   impl_SuperOk_J1 k a0_2 a0_3 a0_4 a0_6 a0_7 false
 else
  impl_SuperOk_J1 k a0_2 a0_3 a0_4 a0_6 a0_7 false
theorem impl_SuperOk_e (k : Nat) (a0_0 : Int) (a0_1 : Int) (a0_2 : Int) (a0_3 : Int) (a0_4 : Int) (a0_5 : Int) (a0_6 : Int) (a0_7 : Int) : evalF E P0 (k + 1) N.impl_SuperOk [.v [.i a0_0, .i a0_1, .i a0_2, .i a0_3, .i a0_4, .i a0_5, .i a0_6, .i a0_7]] = impl_SuperOk_u k a0_0 a0_1 a0_2 a0_3 a0_4 a0_5 a0_6 a0_7 := by kernel_rfl
def impl_copyInts_u (k : Nat) (a0 : List (List T)) : Option Outs :=
 chk (decide ((([] : List (List T)).length + a0.length) * 8 ≤ 140737488355328)) <|
 some ⟨[.r (([] : List (List T)) ++ a0)], []⟩
theorem impl_copyInts_e (k : Nat) (a0 : List (List T)) : evalF E P0 (k + 1) N.impl_copyInts [.v [.r a0]] = impl_copyInts_u k a0 := by kernel_rfl
def impl_copyMem_L2 (k : Nat) (a0_1 : List (List T)) (a0_2 : Bool) (o2 : Outs) (w8 : List (List T)) (G2 : (Int × List (List T)) → Option Outs) : (Int × List (List T)) → Option Outs := fun (v16, w16) =>
 bif (decide (v16 < (a0_1.length : Int))) then
  chk (decide (0 ≤ v16) && decide (v16 < (a0_1.length : Int))) <|
  bindO (evalF E P0 k N.impl_copyInts [.v [.r (at_ a0_1 v16.toNat 1).asR]]) fun o98 =>
  chk (decide ((w16.length + ([[.i (at_ a0_1 v16.toNat 0).asI, .r (o98.t 0).asR]] : List (List T)).length) * 32 ≤ 140737488355328)) <|
  G2 ((IntKind.wrap .i64 (v16 + 1)), (w16 ++ ([[.i (at_ a0_1 v16.toNat 0).asI, .r (o98.t 0).asR]] : List (List T))))
 else
  some ⟨[.r w8, .r w16, .b a0_2, .r (o2.t 0).asR], []⟩
def impl_copyMem_k2 : List Nat := [2, 3, 30, 31, 32, 48]
def impl_copyMem_S2 (a0_1 : List (List T)) (a0_2 : Bool) (o2 : Outs) (w8 : List (List T)) : (Int × List (List T)) → St := fun (v16, w16) => ⟨ofSl [(2, .ptr (2, 0) 0), (3, .ptr (3, 0) 0), (30, .sl 93 a0_1), (31, .i .i64 (a0_1.length : Int)), (32, .i .i64 v16), (48, .skip)], Mem.put (ofMem [((2, 0), .var [.ref (2, 1), .ref (2, 2), .b false, .ref (2, 4)]), ((2, 1), .deep 55 [] none), ((2, 2), .deep 93 [] none), ((2, 4), .row 3 true []), ((3, 0), .var [.ref (3, 1), .ref (3, 2), .b a0_2, .ref (3, 4)]), ((3, 1), .deep 55 w8 none), ((3, 2), .deep 93 w16 none), ((3, 4), .row 3 true (o2.t 0).asR)]) modeNm .dead⟩
def impl_copyMem_L1 (k : Nat) (a0_0 : List (List T)) (a0_1 : List (List T)) (a0_2 : Bool) (a0_3 : List (List T)) (o2 : Outs) (R2 : Outs → List (List T) → (Int × List (List T)) → Option Outs) (G1 : (Int × List (List T)) → Option Outs) : (Int × List (List T)) → Option Outs := fun (v8, w8) =>
 bif (decide (v8 < (a0_0.length : Int))) then
  chk (decide (0 ≤ v8) && decide (v8 < (a0_0.length : Int))) <|
  bindO (evalF E P0 k N.impl_copyInts [.v [.r (at_ a0_0 v8.toNat 0).asR]]) fun o50 =>
  chk (decide ((w8.length + ([[.r (o50.t 0).asR]] : List (List T)).length) * 24 ≤ 140737488355328)) <|
  G1 ((IntKind.wrap .i64 (v8 + 1)), (w8 ++ ([[.r (o50.t 0).asR]] : List (List T))))
 else
  R2 o2 w8 (0, [])
def impl_copyMem_k1 : List Nat := [1, 2, 3, 7, 15, 16, 17, 29, 30, 31, 32, 33, 34, 35, 36, 37, 38, 39, 40, 41, 42, 43, 44, 45, 46, 47, 48]
def impl_copyMem_S1 (a0_0 : List (List T)) (a0_1 : List (List T)) (a0_2 : Bool) (a0_3 : List (List T)) (o2 : Outs) : (Int × List (List T)) → St := fun (v8, w8) => ⟨ofSl [(1, .ptr (1, 0) 0), (2, .ptr (2, 0) 0), (3, .ptr (3, 0) 0), (7, .skip), (15, .sl 55 a0_0), (16, .i .i64 (a0_0.length : Int)), (17, .i .i64 v8), (29, .skip), (30, .skip), (31, .skip), (32, .skip), (33, .skip), (34, .skip), (35, .skip), (36, .skip), (37, .skip), (38, .skip), (39, .skip), (40, .skip), (41, .skip), (42, .skip), (43, .skip), (44, .skip), (45, .skip), (46, .skip), (47, .skip), (48, .skip)], Mem.put (ofMem [((1, 0), .var [.sl 55 a0_0, .sl 93 a0_1, .b a0_2, .sl 3 a0_3]), ((2, 0), .var [.ref (2, 1), .ref (2, 2), .b false, .ref (2, 4)]), ((2, 1), .deep 55 [] none), ((2, 2), .deep 93 [] none), ((2, 4), .row 3 true []), ((3, 0), .var [.ref (3, 1), .ref (3, 2), .b a0_2, .ref (3, 4)]), ((3, 1), .deep 55 w8 none), ((3, 2), .deep 93 [] none), ((3, 4), .row 3 true (o2.t 0).asR)]) modeNm .dead⟩
def impl_copyMem_l2 (k : Nat) (a0_1 : List (List T)) (a0_2 : Bool) (o2 : Outs) (w8 : List (List T)) (G2 : (Int × List (List T)) → Option Outs) : (Int × List (List T)) → Option Outs :=
  impl_copyMem_L2 k a0_1 a0_2 o2 w8 G2
def impl_copyMem_l1 (k : Nat) (a0_0 : List (List T)) (a0_1 : List (List T)) (a0_2 : Bool) (a0_3 : List (List T)) (o2 : Outs) (G1 : (Int × List (List T)) → Option Outs) : (Int × List (List T)) → Option Outs :=
  impl_copyMem_L1 k a0_0 a0_1 a0_2 a0_3 o2 (fun y0 y1 v => fixN (impl_copyMem_l2 k a0_1 a0_2 y0 y1) k v) G1
def impl_copyMem_U (k : Nat) (a0_0 : List (List T)) (a0_1 : List (List T)) (a0_2 : Bool) (a0_3 : List (List T)) (R1 : Outs → (Int × List (List T)) → Option Outs) : Option Outs :=
 bindO (evalF E P0 k N.impl_copyInts [.v [.r a0_3]]) fun o2 =>
 R1 o2 (0, [])
def impl_copyMem_u (k : Nat) (a0_0 : List (List T)) (a0_1 : List (List T)) (a0_2 : Bool) (a0_3 : List (List T)) : Option Outs :=
  impl_copyMem_U k a0_0 a0_1 a0_2 a0_3 (fun y0 v => fixN (impl_copyMem_l1 k a0_0 a0_1 a0_2 a0_3 y0) k v)
def impl_copyMem_it1 (k : Nat) (a0_0 : List (List T)) (a0_1 : List (List T)) (a0_2 : Bool) (a0_3 : List (List T)) (js : List Nat) (j : Nat) (s : St) : Option Outs := iter E (LB E (evalF E P0 k) k [] N.impl_copyMem [.sr, .sr, .sl, .sr, .bl]) [] impl_copyMem_k1 (LK E (evalF E P0 k) k [] N.impl_copyMem [.v [.r a0_0, .r a0_1, .b a0_2, .r a0_3]] [.sr, .sr, .sl, .sr, .bl] js) j s
def impl_copyMem_it2 (k : Nat) (a0_0 : List (List T)) (a0_1 : List (List T)) (a0_2 : Bool) (a0_3 : List (List T)) (js : List Nat) (j : Nat) (s : St) : Option Outs := iter E (LB E (evalF E P0 k) k [] N.impl_copyMem [.sr, .sr, .sr, .sl, .sr, .bl]) [] impl_copyMem_k2 (LK E (evalF E P0 k) k [] N.impl_copyMem [.v [.r a0_0, .r a0_1, .b a0_2, .r a0_3]] [.sr, .sr, .sr, .sl, .sr, .bl] js) j s
theorem impl_copyMem_e (k : Nat) (a0_0 : List (List T)) (a0_1 : List (List T)) (a0_2 : Bool) (a0_3 : List (List T)) : evalF E P0 (k + 1) N.impl_copyMem [.v [.r a0_0, .r a0_1, .b a0_2, .r a0_3]] = impl_copyMem_u k a0_0 a0_1 a0_2 a0_3 := by
  have e0 : evalF E P0 (k + 1) N.impl_copyMem [.v [.r a0_0, .r a0_1, .b a0_2, .r a0_3]] = impl_copyMem_U k a0_0 a0_1 a0_2 a0_3 (fun y0 v => impl_copyMem_it1 k a0_0 a0_1 a0_2 a0_3 [] k (impl_copyMem_S1 a0_0 a0_1 a0_2 a0_3 y0 v)) := by kernel_rfl
  have e2 : ∀ (o2 : Outs) (w8 : List (List T)) (j2 : Nat) (v : Int × List (List T)), impl_copyMem_it2 k a0_0 a0_1 a0_2 a0_3 [] (j2 + 1) (impl_copyMem_S2 a0_1 a0_2 o2 w8 v) = impl_copyMem_L2 k a0_1 a0_2 o2 w8 (fun v => impl_copyMem_it2 k a0_0 a0_1 a0_2 a0_3 [] j2 (impl_copyMem_S2 a0_1 a0_2 o2 w8 v)) v := by
    intro o2 w8 j2 v; kernel_rfl
  have i2 : ∀ (o2 : Outs) (w8 : List (List T)) (j2 : Nat) (v : Int × List (List T)), impl_copyMem_it2 k a0_0 a0_1 a0_2 a0_3 [] j2 (impl_copyMem_S2 a0_1 a0_2 o2 w8 v) = fixN (impl_copyMem_l2 k a0_1 a0_2 o2 w8) j2 v := by
    intro o2 w8 j2 v
    refine iter_fix (impl_copyMem_S2 a0_1 a0_2 o2 w8) (impl_copyMem_l2 k a0_1 a0_2 o2 w8) (fun j2 v => (e2 o2 w8 j2 v).trans ?_) j2 v
    unfold impl_copyMem_l2
    rfl
  have e1 : ∀ (o2 : Outs) (j1 : Nat) (v : Int × List (List T)), impl_copyMem_it1 k a0_0 a0_1 a0_2 a0_3 [] (j1 + 1) (impl_copyMem_S1 a0_0 a0_1 a0_2 a0_3 o2 v) = impl_copyMem_L1 k a0_0 a0_1 a0_2 a0_3 o2 (fun y0 y1 v => impl_copyMem_it2 k a0_0 a0_1 a0_2 a0_3 [] k (impl_copyMem_S2 a0_1 a0_2 y0 y1 v)) (fun v => impl_copyMem_it1 k a0_0 a0_1 a0_2 a0_3 [] j1 (impl_copyMem_S1 a0_0 a0_1 a0_2 a0_3 o2 v)) v := by
    intro o2 j1 v; kernel_rfl
  have i1 : ∀ (o2 : Outs) (j1 : Nat) (v : Int × List (List T)), impl_copyMem_it1 k a0_0 a0_1 a0_2 a0_3 [] j1 (impl_copyMem_S1 a0_0 a0_1 a0_2 a0_3 o2 v) = fixN (impl_copyMem_l1 k a0_0 a0_1 a0_2 a0_3 o2) j1 v := by
    intro o2 j1 v
    refine iter_fix (impl_copyMem_S1 a0_0 a0_1 a0_2 a0_3 o2) (impl_copyMem_l1 k a0_0 a0_1 a0_2 a0_3 o2) (fun j1 v => (e1 o2 j1 v).trans ?_) j1 v
    unfold impl_copyMem_l1
    simp only [i2] <;> rfl
  rw [e0]; unfold impl_copyMem_u
  simp only [i1]
def impl_PutSuper_u (k : Nat) (a0_0 : Int) (a0_1 : Int) (a0_2 : Int) (a0_3 : Int) (a0_4 : Int) (a0_5 : Int) (a0_6 : Int) (a0_7 : Int) : Option Outs :=
 bindO (evalF E P0 k N.impl_SuperOk [.v [.i a0_0, .i a0_1, .i a0_2, .i a0_3, .i a0_4, .i a0_5, .i a0_6, .i a0_7]]) fun o2 =>
 bif (!(o2.t 0).asB) then
  some ⟨[.r []], []⟩
 else
  some ⟨[.r [[.i 21317], [.i a0_0], [.i a0_1], [.i a0_2], [.i a0_3], [.i a0_4], [.i a0_5], [.i (IntKind.wrap .i64 (a0_6 + 1))], [.i a0_7]]], []⟩
theorem impl_PutSuper_e (k : Nat) (a0_0 : Int) (a0_1 : Int) (a0_2 : Int) (a0_3 : Int) (a0_4 : Int) (a0_5 : Int) (a0_6 : Int) (a0_7 : Int) : evalF E P0 (k + 1) N.impl_PutSuper [.v [.i a0_0, .i a0_1, .i a0_2, .i a0_3, .i a0_4, .i a0_5, .i a0_6, .i a0_7]] = impl_PutSuper_u k a0_0 a0_1 a0_2 a0_3 a0_4 a0_5 a0_6 a0_7 := by kernel_rfl
def impl_isWord_u (k : Nat) (a0 : Int) : Option Outs :=
 bindO (evalF E P0 k N.impl_within [.v [.i a0], .v [.i 0], .v [.i 65535]]) fun o2 =>
 some ⟨[.b (o2.t 0).asB], []⟩
theorem impl_isWord_e (k : Nat) (a0 : Int) : evalF E P0 (k + 1) N.impl_isWord [.v [.i a0]] = impl_isWord_u k a0 := by kernel_rfl
def impl_wordsOk_L1 (k : Nat) (a0 : List (List T)) (G1 : (Int) → Option Outs) : (Int) → Option Outs := fun v8 =>
 bif (decide (v8 < (a0.length : Int))) then
  chk (decide (0 ≤ v8) && decide (v8 < (a0.length : Int))) <|
  bindO (evalF E P0 k N.impl_isWord [.v [.i (at_ a0 v8.toNat 0).asI]]) fun o96 =>
  bif (!(o96.t 0).asB) then some ⟨[.b false], []⟩ else G1 (IntKind.wrap .i64 (v8 + 1))
 else
  some ⟨[.b true], []⟩
def impl_wordsOk_k1 : List Nat := [2, 5, 6, 7]
def impl_wordsOk_S1 (a0 : List (List T)) : (Int) → St := fun v8 => ⟨ofSl [(2, .b false), (5, .sl 3 a0), (6, .i .i64 (a0.length : Int)), (7, .i .i64 v8)], ofMem []⟩
def impl_wordsOk_l1 (k : Nat) (a0 : List (List T)) (G1 : (Int) → Option Outs) : (Int) → Option Outs :=
  impl_wordsOk_L1 k a0 G1
def impl_wordsOk_U (k : Nat) (a0 : List (List T)) (R1 : (Int) → Option Outs) : Option Outs :=
 R1 0
def impl_wordsOk_u (k : Nat) (a0 : List (List T)) : Option Outs :=
  impl_wordsOk_U k a0 (fun v => fixN (impl_wordsOk_l1 k a0) k v)
def impl_wordsOk_it1 (k : Nat) (a0 : List (List T)) (js : List Nat) (j : Nat) (s : St) : Option Outs := iter E (LB E (evalF E P0 k) k [] N.impl_wordsOk [.sr, .sl, .sr, .bl]) [] impl_wordsOk_k1 (LK E (evalF E P0 k) k [] N.impl_wordsOk [.v [.r a0]] [.sr, .sl, .sr, .bl] js) j s
theorem impl_wordsOk_e (k : Nat) (a0 : List (List T)) : evalF E P0 (k + 1) N.impl_wordsOk [.v [.r a0]] = impl_wordsOk_u k a0 := by
  have e0 : evalF E P0 (k + 1) N.impl_wordsOk [.v [.r a0]] = impl_wordsOk_U k a0 (fun v => impl_wordsOk_it1 k a0 [] k (impl_wordsOk_S1 a0 v)) := by kernel_rfl
  have e1 : ∀ (j1 : Nat) (v : Int), impl_wordsOk_it1 k a0 [] (j1 + 1) (impl_wordsOk_S1 a0 v) = impl_wordsOk_L1 k a0 (fun v => impl_wordsOk_it1 k a0 [] j1 (impl_wordsOk_S1 a0 v)) v := by
    intro j1 v; kernel_rfl
  have i1 : ∀ (j1 : Nat) (v : Int), impl_wordsOk_it1 k a0 [] j1 (impl_wordsOk_S1 a0 v) = fixN (impl_wordsOk_l1 k a0) j1 v := by
    intro j1 v
    refine iter_fix (impl_wordsOk_S1 a0) (impl_wordsOk_l1 k a0) (fun j1 v => (e1 j1 v).trans ?_) j1 v
    unfold impl_wordsOk_l1
    rfl
  rw [e0]; unfold impl_wordsOk_u
  simp only [i1]
def impl_SecOk_u (k : Nat) (a0 : List (List T)) : Option Outs :=
 bif (decide ((a0.length : Int) ≤ 12)) then
  bindO (evalF E P0 k N.impl_wordsOk [.v [.r a0]]) fun o2 =>
  some ⟨[.b (o2.t 0).asB], []⟩
 else
  some ⟨[.b false], []⟩
theorem impl_SecOk_e (k : Nat) (a0 : List (List T)) : evalF E P0 (k + 1) N.impl_SecOk [.v [.r a0]] = impl_SecOk_u k a0 := by kernel_rfl
def impl_hasSec_u (k : Nat) (a0_0 : List (List T)) (a0_1 : List (List T)) (a0_2 : Bool) (a0_3 : List (List T)) (a1 : Int) : Option Outs :=
 bindO (evalF E P0 k N.impl_within [.v [.i a1], .v [.i 0], .v [.i (IntKind.wrap .i64 ((a0_0.length : Int) - 1))]]) fun o2 =>
 some ⟨[.b (o2.t 0).asB], []⟩
theorem impl_hasSec_e (k : Nat) (a0_0 : List (List T)) (a0_1 : List (List T)) (a0_2 : Bool) (a0_3 : List (List T)) (a1 : Int) : evalF E P0 (k + 1) N.impl_hasSec [.v [.r a0_0, .r a0_1, .b a0_2, .r a0_3], .v [.i a1]] = impl_hasSec_u k a0_0 a0_1 a0_2 a0_3 a1 := by kernel_rfl
def impl_MemOk_L3 (k : Nat) (a0_0 : List (List T)) (a0_1 : List (List T)) (a0_2 : Bool) (a0_3 : List (List T)) (G3 : (Int) → Option Outs) : (Int) → Option Outs := fun v24 =>
 bif (decide (v24 < (a0_3.length : Int))) then
  chk (decide (0 ≤ v24) && decide (v24 < (a0_3.length : Int))) <|
  bindO (evalF E P0 k N.impl_hasSec [.v [.r a0_0, .r a0_1, .b a0_2, .r a0_3], .v [.i (at_ a0_3 v24.toNat 0).asI]]) fun o384 =>
  bif (!(o384.t 0).asB) then
   some ⟨[.b false], []⟩
  else
   bif (decide (v24 > 0)) then
    chk (decide (0 ≤ (IntKind.wrap .i64 (v24 - 1))) && decide ((IntKind.wrap .i64 (v24 - 1)) < (a0_3.length : Int))) <|
    bif (decide ((at_ a0_3 (IntKind.wrap .i64 (v24 - 1)).toNat 0).asI ≥ (at_ a0_3 v24.toNat 0).asI)) then
     some ⟨[.b false], []⟩
    else
     G3 (IntKind.wrap .i64 (v24 + 1))
   else
    G3 (IntKind.wrap .i64 (v24 + 1))
 else
  bindO (evalF E P0 k N.impl_within [.v [.i (a0_0.length : Int)], .v [.i 1], .v [.i 20]]) fun o386 =>
  bif (o386.t 0).asB then some ⟨[.b (decide ((a0_1.length : Int) ≤ 60))], []⟩ else some ⟨[.b false], []⟩
def impl_MemOk_k3 : List Nat := [1, 2, 40, 41, 42, 66, 67, 68, 69, 70, 71, 72, 73, 74, 75]
def impl_MemOk_S3 (a0_0 : List (List T)) (a0_1 : List (List T)) (a0_2 : Bool) (a0_3 : List (List T)) : (Int) → St := fun v24 => ⟨ofSl [(1, .ptr (1, 0) 0), (2, .b false), (40, .sl 3 a0_3), (41, .i .i64 (a0_3.length : Int)), (42, .i .i64 v24), (66, .skip), (67, .skip), (68, .skip), (69, .skip), (70, .skip), (71, .skip), (72, .skip), (73, .skip), (74, .skip), (75, .skip)], ofMem [((1, 0), .var [.sl 55 a0_0, .sl 93 a0_1, .b a0_2, .sl 3 a0_3])]⟩
def impl_MemOk_L2 (k : Nat) (a0_0 : List (List T)) (a0_1 : List (List T)) (a0_2 : Bool) (a0_3 : List (List T)) (R3 : (Int) → Option Outs) (G2 : (Int) → Option Outs) : (Int) → Option Outs := fun v16 =>
 bif (decide (v16 < (a0_1.length : Int))) then
  chk (decide (0 ≤ v16) && decide (v16 < (a0_1.length : Int))) <|
  bindO (evalF E P0 k N.impl_hasSec [.v [.r a0_0, .r a0_1, .b a0_2, .r a0_3], .v [.i (at_ a0_1 v16.toNat 0).asI]]) fun o287 =>
  bif (!(o287.t 0).asB) then
   some ⟨[.b false], []⟩
  else
   bindO (evalF E P0 k N.impl_SecOk [.v [.r (at_ a0_1 v16.toNat 1).asR]]) fun o288 =>
   bif (!(o288.t 0).asB) then some ⟨[.b false], []⟩ else G2 (IntKind.wrap .i64 (v16 + 1))
 else
  R3 0
def impl_MemOk_k2 : List Nat := [1, 2, 7, 8, 21, 22, 23, 39, 40, 41, 42, 43, 44, 45, 46, 47, 48, 49, 50, 51, 52, 53, 54, 55, 56, 57, 58, 59, 60, 61, 62, 63, 64, 65, 66, 67, 68, 69, 70, 71, 72, 73, 74, 75]
def impl_MemOk_S2 (a0_0 : List (List T)) (a0_1 : List (List T)) (a0_2 : Bool) (a0_3 : List (List T)) : (Int) → St := fun v16 => ⟨ofSl [(1, .ptr (1, 0) 0), (2, .b false), (7, .skip), (8, .skip), (21, .sl 93 a0_1), (22, .i .i64 (a0_1.length : Int)), (23, .i .i64 v16), (39, .skip), (40, .skip), (41, .skip), (42, .skip), (43, .skip), (44, .skip), (45, .skip), (46, .skip), (47, .skip), (48, .skip), (49, .skip), (50, .skip), (51, .skip), (52, .skip), (53, .skip), (54, .skip), (55, .skip), (56, .skip), (57, .skip), (58, .skip), (59, .skip), (60, .skip), (61, .skip), (62, .skip), (63, .skip), (64, .skip), (65, .skip), (66, .skip), (67, .skip), (68, .skip), (69, .skip), (70, .skip), (71, .skip), (72, .skip), (73, .skip), (74, .skip), (75, .skip)], ofMem [((1, 0), .var [.sl 55 a0_0, .sl 93 a0_1, .b a0_2, .sl 3 a0_3])]⟩
def impl_MemOk_L1 (k : Nat) (a0_0 : List (List T)) (a0_1 : List (List T)) (a0_2 : Bool) (a0_3 : List (List T)) (R2 : (Int) → Option Outs) (G1 : (Int) → Option Outs) : (Int) → Option Outs := fun v8 =>
 bif (decide (v8 < (a0_0.length : Int))) then
  chk (decide (0 ≤ v8) && decide (v8 < (a0_0.length : Int))) <|
  bindO (evalF E P0 k N.impl_SecOk [.v [.r (at_ a0_0 v8.toNat 0).asR]]) fun o96 =>
  bif (!(o96.t 0).asB) then some ⟨[.b false], []⟩ else G1 (IntKind.wrap .i64 (v8 + 1))
 else
  R2 0
def impl_MemOk_k1 : List Nat := [1, 2, 6, 7, 8, 10, 11, 12, 20, 21, 22, 23, 24, 25, 26, 27, 28, 29, 30, 31, 32, 33, 34, 35, 36, 37, 38, 39, 40, 41, 42, 43, 44, 45, 46, 47, 48, 49, 50, 51, 52, 53, 54, 55, 56, 57, 58, 59, 60, 61, 62, 63, 64, 65, 66, 67, 68, 69, 70, 71, 72, 73, 74, 75]
def impl_MemOk_S1 (a0_0 : List (List T)) (a0_1 : List (List T)) (a0_2 : Bool) (a0_3 : List (List T)) : (Int) → St := fun v8 => ⟨ofSl [(1, .ptr (1, 0) 0), (2, .b false), (6, .skip), (7, .skip), (8, .skip), (10, .sl 55 a0_0), (11, .i .i64 (a0_0.length : Int)), (12, .i .i64 v8), (20, .skip), (21, .skip), (22, .skip), (23, .skip), (24, .skip), (25, .skip), (26, .skip), (27, .skip), (28, .skip), (29, .skip), (30, .skip), (31, .skip), (32, .skip), (33, .skip), (34, .skip), (35, .skip), (36, .skip), (37, .skip), (38, .skip), (39, .skip), (40, .skip), (41, .skip), (42, .skip), (43, .skip), (44, .skip), (45, .skip), (46, .skip), (47, .skip), (48, .skip), (49, .skip), (50, .skip), (51, .skip), (52, .skip), (53, .skip), (54, .skip), (55, .skip), (56, .skip), (57, .skip), (58, .skip), (59, .skip), (60, .skip), (61, .skip), (62, .skip), (63, .skip), (64, .skip), (65, .skip), (66, .skip), (67, .skip), (68, .skip), (69, .skip), (70, .skip), (71, .skip), (72, .skip), (73, .skip), (74, .skip), (75, .skip)], ofMem [((1, 0), .var [.sl 55 a0_0, .sl 93 a0_1, .b a0_2, .sl 3 a0_3])]⟩
def impl_MemOk_l3 (k : Nat) (a0_0 : List (List T)) (a0_1 : List (List T)) (a0_2 : Bool) (a0_3 : List (List T)) (G3 : (Int) → Option Outs) : (Int) → Option Outs :=
  impl_MemOk_L3 k a0_0 a0_1 a0_2 a0_3 G3
def impl_MemOk_l2 (k : Nat) (a0_0 : List (List T)) (a0_1 : List (List T)) (a0_2 : Bool) (a0_3 : List (List T)) (G2 : (Int) → Option Outs) : (Int) → Option Outs :=
  impl_MemOk_L2 k a0_0 a0_1 a0_2 a0_3 (fun v => fixN (impl_MemOk_l3 k a0_0 a0_1 a0_2 a0_3) k v) G2
def impl_MemOk_l1 (k : Nat) (a0_0 : List (List T)) (a0_1 : List (List T)) (a0_2 : Bool) (a0_3 : List (List T)) (G1 : (Int) → Option Outs) : (Int) → Option Outs :=
  impl_MemOk_L1 k a0_0 a0_1 a0_2 a0_3 (fun v => fixN (impl_MemOk_l2 k a0_0 a0_1 a0_2 a0_3) k v) G1
def impl_MemOk_U (k : Nat) (a0_0 : List (List T)) (a0_1 : List (List T)) (a0_2 : Bool) (a0_3 : List (List T)) (R1 : (Int) → Option Outs) : Option Outs :=
 R1 0
def impl_MemOk_u (k : Nat) (a0_0 : List (List T)) (a0_1 : List (List T)) (a0_2 : Bool) (a0_3 : List (List T)) : Option Outs :=
  impl_MemOk_U k a0_0 a0_1 a0_2 a0_3 (fun v => fixN (impl_MemOk_l1 k a0_0 a0_1 a0_2 a0_3) k v)
def impl_MemOk_it1 (k : Nat) (a0_0 : List (List T)) (a0_1 : List (List T)) (a0_2 : Bool) (a0_3 : List (List T)) (js : List Nat) (j : Nat) (s : St) : Option Outs := iter E (LB E (evalF E P0 k) k [] N.impl_MemOk [.sr, .sl, .sr, .bl]) [] impl_MemOk_k1 (LK E (evalF E P0 k) k [] N.impl_MemOk [.v [.r a0_0, .r a0_1, .b a0_2, .r a0_3]] [.sr, .sl, .sr, .bl] js) j s
def impl_MemOk_it2 (k : Nat) (a0_0 : List (List T)) (a0_1 : List (List T)) (a0_2 : Bool) (a0_3 : List (List T)) (js : List Nat) (j : Nat) (s : St) : Option Outs := iter E (LB E (evalF E P0 k) k [] N.impl_MemOk [.sr, .sr, .sl, .sr, .bl]) [] impl_MemOk_k2 (LK E (evalF E P0 k) k [] N.impl_MemOk [.v [.r a0_0, .r a0_1, .b a0_2, .r a0_3]] [.sr, .sr, .sl, .sr, .bl] js) j s
def impl_MemOk_it3 (k : Nat) (a0_0 : List (List T)) (a0_1 : List (List T)) (a0_2 : Bool) (a0_3 : List (List T)) (js : List Nat) (j : Nat) (s : St) : Option Outs := iter E (LB E (evalF E P0 k) k [] N.impl_MemOk [.sr, .sr, .sr, .sl, .sr, .bl]) [] impl_MemOk_k3 (LK E (evalF E P0 k) k [] N.impl_MemOk [.v [.r a0_0, .r a0_1, .b a0_2, .r a0_3]] [.sr, .sr, .sr, .sl, .sr, .bl] js) j s
theorem impl_MemOk_e (k : Nat) (a0_0 : List (List T)) (a0_1 : List (List T)) (a0_2 : Bool) (a0_3 : List (List T)) : evalF E P0 (k + 1) N.impl_MemOk [.v [.r a0_0, .r a0_1, .b a0_2, .r a0_3]] = impl_MemOk_u k a0_0 a0_1 a0_2 a0_3 := by
  have e0 : evalF E P0 (k + 1) N.impl_MemOk [.v [.r a0_0, .r a0_1, .b a0_2, .r a0_3]] = impl_MemOk_U k a0_0 a0_1 a0_2 a0_3 (fun v => impl_MemOk_it1 k a0_0 a0_1 a0_2 a0_3 [] k (impl_MemOk_S1 a0_0 a0_1 a0_2 a0_3 v)) := by kernel_rfl
  have e3 : ∀ (j3 : Nat) (v : Int), impl_MemOk_it3 k a0_0 a0_1 a0_2 a0_3 [] (j3 + 1) (impl_MemOk_S3 a0_0 a0_1 a0_2 a0_3 v) = impl_MemOk_L3 k a0_0 a0_1 a0_2 a0_3 (fun v => impl_MemOk_it3 k a0_0 a0_1 a0_2 a0_3 [] j3 (impl_MemOk_S3 a0_0 a0_1 a0_2 a0_3 v)) v := by
    intro j3 v; kernel_rfl
  have i3 : ∀ (j3 : Nat) (v : Int), impl_MemOk_it3 k a0_0 a0_1 a0_2 a0_3 [] j3 (impl_MemOk_S3 a0_0 a0_1 a0_2 a0_3 v) = fixN (impl_MemOk_l3 k a0_0 a0_1 a0_2 a0_3) j3 v := by
    intro j3 v
    refine iter_fix (impl_MemOk_S3 a0_0 a0_1 a0_2 a0_3) (impl_MemOk_l3 k a0_0 a0_1 a0_2 a0_3) (fun j3 v => (e3 j3 v).trans ?_) j3 v
    unfold impl_MemOk_l3
    rfl
  have e2 : ∀ (j2 : Nat) (v : Int), impl_MemOk_it2 k a0_0 a0_1 a0_2 a0_3 [] (j2 + 1) (impl_MemOk_S2 a0_0 a0_1 a0_2 a0_3 v) = impl_MemOk_L2 k a0_0 a0_1 a0_2 a0_3 (fun v => impl_MemOk_it3 k a0_0 a0_1 a0_2 a0_3 [] k (impl_MemOk_S3 a0_0 a0_1 a0_2 a0_3 v)) (fun v => impl_MemOk_it2 k a0_0 a0_1 a0_2 a0_3 [] j2 (impl_MemOk_S2 a0_0 a0_1 a0_2 a0_3 v)) v := by
    intro j2 v; kernel_rfl
  have i2 : ∀ (j2 : Nat) (v : Int), impl_MemOk_it2 k a0_0 a0_1 a0_2 a0_3 [] j2 (impl_MemOk_S2 a0_0 a0_1 a0_2 a0_3 v) = fixN (impl_MemOk_l2 k a0_0 a0_1 a0_2 a0_3) j2 v := by
    intro j2 v
    refine iter_fix (impl_MemOk_S2 a0_0 a0_1 a0_2 a0_3) (impl_MemOk_l2 k a0_0 a0_1 a0_2 a0_3) (fun j2 v => (e2 j2 v).trans ?_) j2 v
    unfold impl_MemOk_l2
    simp only [i3] <;> rfl
  have e1 : ∀ (j1 : Nat) (v : Int), impl_MemOk_it1 k a0_0 a0_1 a0_2 a0_3 [] (j1 + 1) (impl_MemOk_S1 a0_0 a0_1 a0_2 a0_3 v) = impl_MemOk_L1 k a0_0 a0_1 a0_2 a0_3 (fun v => impl_MemOk_it2 k a0_0 a0_1 a0_2 a0_3 [] k (impl_MemOk_S2 a0_0 a0_1 a0_2 a0_3 v)) (fun v => impl_MemOk_it1 k a0_0 a0_1 a0_2 a0_3 [] j1 (impl_MemOk_S1 a0_0 a0_1 a0_2 a0_3 v)) v := by
    intro j1 v; kernel_rfl
  have i1 : ∀ (j1 : Nat) (v : Int), impl_MemOk_it1 k a0_0 a0_1 a0_2 a0_3 [] j1 (impl_MemOk_S1 a0_0 a0_1 a0_2 a0_3 v) = fixN (impl_MemOk_l1 k a0_0 a0_1 a0_2 a0_3) j1 v := by
    intro j1 v
    refine iter_fix (impl_MemOk_S1 a0_0 a0_1 a0_2 a0_3) (impl_MemOk_l1 k a0_0 a0_1 a0_2 a0_3) (fun j1 v => (e1 j1 v).trans ?_) j1 v
    unfold impl_MemOk_l1
    simp only [i2] <;> rfl
  rw [e0]; unfold impl_MemOk_u
  simp only [i1]
def impl_WriteSec_1_u (k : Nat) (a0 : Int) (a1 : Int) : Option Outs :=
 some ⟨[.b (a0 == a1)], [[.i a1]]⟩
theorem impl_WriteSec_1_e (k : Nat) (a0 : Int) (a1 : Int) : evalF E P0 (k + 1) N.impl_WriteSec_1 [.v [.i a0], .p [.i a1]] = impl_WriteSec_1_u k a0 a1 := by kernel_rfl
def slices_IndexFunc_int_int_L1 (k : Nat) (a0 : List (List T)) (G1 : (Int × Int) → Option Outs) : (Int × Int) → Option Outs := fun (v15, v16) =>
 bif (decide (v15 < (a0.length : Int))) then
  chk (decide (0 ≤ v15) && decide (v15 < (a0.length : Int))) <|
  bindO (evalF E P0 k N.impl_WriteSec_1 [.v [.i (at_ a0 v15.toNat 0).asI], .p [.i v16]]) fun o96 =>
  bif (o96.t 0).asB then
   some ⟨[.i v15], [[.i (o96.vt 0 0).asI]]⟩
  else
   G1 ((IntKind.wrap .i64 (v15 + 1)), (o96.vt 0 0).asI)
 else
  some ⟨[.i (-1)], [[.i v16]]⟩
def slices_IndexFunc_int_int_k1 : List Nat := [0, 1, 4, 7, 8]
def slices_IndexFunc_int_int_S1 (a0 : List (List T)) : (Int × Int) → St := fun (v15, v16) => ⟨ofSl [(0, .sl 3 a0), (1, .clo N.impl_WriteSec_1 (some (1, 0))), (4, .i .i64 0), (7, .i .i64 (a0.length : Int)), (8, .i .i64 v15)], ofMem [((1, 0), .var [.i .i64 v16])]⟩
def slices_IndexFunc_int_int_l1 (k : Nat) (a0 : List (List T)) (G1 : (Int × Int) → Option Outs) : (Int × Int) → Option Outs :=
  slices_IndexFunc_int_int_L1 k a0 G1
def slices_IndexFunc_int_int_U (k : Nat) (a0 : List (List T)) (a1 : Int) (R1 : (Int × Int) → Option Outs) : Option Outs :=
 R1 (0, a1)
def slices_IndexFunc_int_int_u (k : Nat) (a0 : List (List T)) (a1 : Int) : Option Outs :=
  slices_IndexFunc_int_int_U k a0 a1 (fun v => fixN (slices_IndexFunc_int_int_l1 k a0) k v)
def slices_IndexFunc_int_int_it1 (k : Nat) (a0 : List (List T)) (a1 : Int) (js : List Nat) (j : Nat) (s : St) : Option Outs := iter E (LB E (evalF E P0 k) k [1] N.slices_IndexFunc_int_int [.sr, .sl, .sr, .bl]) [1] slices_IndexFunc_int_int_k1 (LK E (evalF E P0 k) k [1] N.slices_IndexFunc_int_int [.v [.r a0], .c N.impl_WriteSec_1 (some [.i a1])] [.sr, .sl, .sr, .bl] js) j s
theorem slices_IndexFunc_int_int_e (k : Nat) (a0 : List (List T)) (a1 : Int) : evalF E P0 (k + 1) N.slices_IndexFunc_int_int [.v [.r a0], .c N.impl_WriteSec_1 (some [.i a1])] = slices_IndexFunc_int_int_u k a0 a1 := by
  have e0 : evalF E P0 (k + 1) N.slices_IndexFunc_int_int [.v [.r a0], .c N.impl_WriteSec_1 (some [.i a1])] = slices_IndexFunc_int_int_U k a0 a1 (fun v => slices_IndexFunc_int_int_it1 k a0 a1 [] k (slices_IndexFunc_int_int_S1 a0 v)) := by kernel_rfl
  have e1 : ∀ (j1 : Nat) (v : Int × Int), slices_IndexFunc_int_int_it1 k a0 a1 [] (j1 + 1) (slices_IndexFunc_int_int_S1 a0 v) = slices_IndexFunc_int_int_L1 k a0 (fun v => slices_IndexFunc_int_int_it1 k a0 a1 [] j1 (slices_IndexFunc_int_int_S1 a0 v)) v := by
    intro j1 v; kernel_rfl
  have i1 : ∀ (j1 : Nat) (v : Int × Int), slices_IndexFunc_int_int_it1 k a0 a1 [] j1 (slices_IndexFunc_int_int_S1 a0 v) = fixN (slices_IndexFunc_int_int_l1 k a0) j1 v := by
    intro j1 v
    refine iter_fix (slices_IndexFunc_int_int_S1 a0) (slices_IndexFunc_int_int_l1 k a0) (fun j1 v => (e1 j1 v).trans ?_) j1 v
    unfold slices_IndexFunc_int_int_l1
    rfl
  rw [e0]; unfold slices_IndexFunc_int_int_u
  simp only [i1]
def slices_DeleteFunc_int_int_L1 (k : Nat) (G1 : (Int × Int × List (List T) × Int) → Option Outs) : (Int × Int × List (List T) × Int) → Option Outs := fun (v22, v23, w8, v24) =>
 bif (decide (v23 < (w8.length : Int))) then
  chk (decide (0 ≤ v23) && decide (v23 < (w8.length : Int))) <|
  bindO (evalF E P0 k N.impl_WriteSec_1 [.v [.i (at_ w8 v23.toNat 0).asI], .p [.i v24]]) fun o98 =>
  bif (!(o98.t 0).asB) then
   chk (decide (0 ≤ v22) && decide (v22 < (w8.length : Int))) <|
   G1 ((IntKind.wrap .i64 (v22 + 1)), (IntKind.wrap .i64 (v23 + 1)), (put_ w8 v22.toNat 0 [.i (at_ w8 v23.toNat 0).asI]), (o98.vt 0 0).asI)
  else
   G1 (v22, (IntKind.wrap .i64 (v23 + 1)), w8, (o98.vt 0 0).asI)
 else
  chk (decide (0 ≤ v22) && decide (v22 ≤ (w8.length : Int)) && decide ((w8.length : Int) ≤ (w8.length : Int))) <|
  chk (decide (0 ≤ 0) && decide (0 ≤ v22) && decide (v22 ≤ ((overlay w8 v22.toNat (List.replicate ((w8.length : Int).toNat - v22.toNat) [.i 0])).length : Int))) <|
  chk (decide (0 < (overlay w8 v22.toNat (List.replicate ((w8.length : Int).toNat - v22.toNat) [.i 0])).length)) <|
  some ⟨[.r ((overlay w8 v22.toNat (List.replicate ((w8.length : Int).toNat - v22.toNat) [.i 0])).take (v22.toNat - (0 : Int).toNat))], [[.i v24]]⟩
def slices_DeleteFunc_int_int_k1 : List Nat := [0, 1, 4, 5, 6, 36, 37, 38, 39, 40, 41]
def slices_DeleteFunc_int_int_S1 : (Int × Int × List (List T) × Int) → St := fun (v22, v23, w8, v24) => ⟨ofSl [(0, .ref (0, 0)), (1, .clo N.impl_WriteSec_1 (some (1, 0))), (4, .ref (4, 0)), (5, .i .i64 v22), (6, .i .i64 v23), (36, .skip), (37, .skip), (38, .skip), (39, .skip), (40, .skip), (41, .skip)], ofMem [((0, 0), .row 3 true w8), ((1, 0), .var [.i .i64 v24]), ((4, 0), .row 3 true [])]⟩
def slices_DeleteFunc_int_int_l1 (k : Nat) (G1 : (Int × Int × List (List T) × Int) → Option Outs) : (Int × Int × List (List T) × Int) → Option Outs :=
  slices_DeleteFunc_int_int_L1 k G1
def slices_DeleteFunc_int_int_U (k : Nat) (a0 : List (List T)) (a1 : Int) (R1 : (Int × Int × List (List T) × Int) → Option Outs) : Option Outs :=
 bindO (evalF E P0 k N.slices_IndexFunc_int_int [.v [.r a0], .c N.impl_WriteSec_1 (some [.i a1])]) fun o2 =>
 bif ((o2.t 0).asI == (-1)) then
  some ⟨[.r a0], [[.i (o2.vt 0 0).asI]]⟩
 else
  R1 ((o2.t 0).asI, (IntKind.wrap .i64 ((o2.t 0).asI + 1)), a0, (o2.vt 0 0).asI)
def slices_DeleteFunc_int_int_u (k : Nat) (a0 : List (List T)) (a1 : Int) : Option Outs :=
  slices_DeleteFunc_int_int_U k a0 a1 (fun v => fixN (slices_DeleteFunc_int_int_l1 k) k v)
def slices_DeleteFunc_int_int_it1 (k : Nat) (a0 : List (List T)) (a1 : Int) (js : List Nat) (j : Nat) (s : St) : Option Outs := iter E (LB E (evalF E P0 k) k [1] N.slices_DeleteFunc_int_int [.sr, .sr, .sr, .sl, .sr, .bl]) [1] slices_DeleteFunc_int_int_k1 (LK E (evalF E P0 k) k [1] N.slices_DeleteFunc_int_int [.v [.r a0], .c N.impl_WriteSec_1 (some [.i a1])] [.sr, .sr, .sr, .sl, .sr, .bl] js) j s
theorem slices_DeleteFunc_int_int_e (k : Nat) (a0 : List (List T)) (a1 : Int) : evalF E P0 (k + 1) N.slices_DeleteFunc_int_int [.v [.r a0], .c N.impl_WriteSec_1 (some [.i a1])] = slices_DeleteFunc_int_int_u k a0 a1 := by
  have e0 : evalF E P0 (k + 1) N.slices_DeleteFunc_int_int [.v [.r a0], .c N.impl_WriteSec_1 (some [.i a1])] = slices_DeleteFunc_int_int_U k a0 a1 (fun v => slices_DeleteFunc_int_int_it1 k a0 a1 [] k (slices_DeleteFunc_int_int_S1 v)) := by kernel_rfl
  have e1 : ∀ (j1 : Nat) (v : Int × Int × List (List T) × Int), slices_DeleteFunc_int_int_it1 k a0 a1 [] (j1 + 1) (slices_DeleteFunc_int_int_S1 v) = slices_DeleteFunc_int_int_L1 k (fun v => slices_DeleteFunc_int_int_it1 k a0 a1 [] j1 (slices_DeleteFunc_int_int_S1 v)) v := by
    intro j1 v; kernel_rfl
  have i1 : ∀ (j1 : Nat) (v : Int × Int × List (List T) × Int), slices_DeleteFunc_int_int_it1 k a0 a1 [] j1 (slices_DeleteFunc_int_int_S1 v) = fixN (slices_DeleteFunc_int_int_l1 k) j1 v := by
    intro j1 v
    refine iter_fix (slices_DeleteFunc_int_int_S1) (slices_DeleteFunc_int_int_l1 k) (fun j1 v => (e1 j1 v).trans ?_) j1 v
    unfold slices_DeleteFunc_int_int_l1
    rfl
  rw [e0]; unfold slices_DeleteFunc_int_int_u
  simp only [i1]
def impl_WriteSec_J1 (k : Nat) (a1 : Int) (a2 : List (List T)) (o2 : Outs) (c1 : Bool) : Option Outs :=
 bif c1 then
  some ⟨[.r (o2.t 0).asR, .r (o2.t 1).asR, .b (o2.t 2).asB, .r (o2.t 3).asR, .b false], []⟩
 else
  bindO (evalF E P0 k N.impl_copyInts [.v [.r a2]]) fun o8 =>
  chk (decide (((o2.t 1).asR.length + ([[.i a1, .r (o8.t 0).asR]] : List (List T)).length) * 32 ≤ 140737488355328)) <|
  bindO (evalF E P0 k N.slices_DeleteFunc_int_int [.v [.r (o2.t 3).asR], .c N.impl_WriteSec_1 (some [.i a1])]) fun o10 =>
  some ⟨[.r (o2.t 0).asR, .r ((o2.t 1).asR ++ ([[.i a1, .r (o8.t 0).asR]] : List (List T))), .b (o2.t 2).asB, .r (o10.t 0).asR, .b true], []⟩
def impl_WriteSec_u (k : Nat) (a0_0 : List (List T)) (a0_1 : List (List T)) (a0_2 : Bool) (a0_3 : List (List T)) (a1 : Int) (a2 : List (List T)) : Option Outs :=
 bindO (evalF E P0 k N.impl_copyMem [.v [.r a0_0, .r a0_1, .b a0_2, .r a0_3]]) fun o2 =>
 bindO (evalF E P0 k N.impl_MemOk [.v [.r a0_0, .r a0_1, .b a0_2, .r a0_3]]) fun o6 =>
 bif (!(o6.t 0).asB) then
  impl_WriteSec_J1 k a1 a2 o2 true
 else
  bif a0_2 then
   impl_WriteSec_J1 k a1 a2 o2 true
  else
   bindO (evalF E P0 k N.impl_hasSec [.v [.r a0_0, .r a0_1, .b a0_2, .r a0_3], .v [.i a1]]) fun o11 =>
   bif (!(o11.t 0).asB) then
    impl_WriteSec_J1 k a1 a2 o2 true
   else
    bindO (evalF E P0 k N.impl_SecOk [.v [.r a2]]) fun o12 =>
    bif (!(o12.t 0).asB) then
     impl_WriteSec_J1 k a1 a2 o2 true
    else
     impl_WriteSec_J1 k a1 a2 o2 ((a0_1.length : Int) == 60)
theorem impl_WriteSec_e (k : Nat) (a0_0 : List (List T)) (a0_1 : List (List T)) (a0_2 : Bool) (a0_3 : List (List T)) (a1 : Int) (a2 : List (List T)) : evalF E P0 (k + 1) N.impl_WriteSec [.v [.r a0_0, .r a0_1, .b a0_2, .r a0_3], .v [.i a1], .v [.r a2]] = impl_WriteSec_u k a0_0 a0_1 a0_2 a0_3 a1 a2 := by kernel_rfl
def impl_WriteSuper_u (k : Nat) (a0_0 : List (List T)) (a0_1 : List (List T)) (a0_2 : Bool) (a0_3 : List (List T)) (a1_0 : Int) (a1_1 : Int) (a1_2 : Int) (a1_3 : Int) (a1_4 : Int) (a1_5 : Int) (a1_6 : Int) (a1_7 : Int) : Option Outs :=
 bindO (evalF E P0 k N.impl_SuperOk [.v [.i a1_0, .i a1_1, .i a1_2, .i a1_3, .i a1_4, .i a1_5, .i a1_6, .i a1_7]]) fun o2 =>
 bif (!(o2.t 0).asB) then
  bindO (evalF E P0 k N.impl_copyMem [.v [.r a0_0, .r a0_1, .b a0_2, .r a0_3]]) fun o6 =>
  some ⟨[.r (o6.t 0).asR, .r (o6.t 1).asR, .b (o6.t 2).asB, .r (o6.t 3).asR], []⟩
 else
  bindO (evalF E P0 k N.impl_PutSuper [.v [.i a1_0, .i a1_1, .i a1_2, .i a1_3, .i a1_4, .i a1_5, .i a1_6, .i a1_7]]) fun o9 =>
  bindO (evalF E P0 k N.impl_WriteSec [.v [.r a0_0, .r a0_1, .b a0_2, .r a0_3], .v [.i (Int.tmod a1_1 2)], .v [.r (o9.t 0).asR]]) fun o10 =>
  some ⟨[.r (o10.t 0).asR, .r (o10.t 1).asR, .b (o10.t 2).asB, .r (o10.t 3).asR], []⟩
theorem impl_WriteSuper_e (k : Nat) (a0_0 : List (List T)) (a0_1 : List (List T)) (a0_2 : Bool) (a0_3 : List (List T)) (a1_0 : Int) (a1_1 : Int) (a1_2 : Int) (a1_3 : Int) (a1_4 : Int) (a1_5 : Int) (a1_6 : Int) (a1_7 : Int) : evalF E P0 (k + 1) N.impl_WriteSuper [.v [.r a0_0, .r a0_1, .b a0_2, .r a0_3], .v [.i a1_0, .i a1_1, .i a1_2, .i a1_3, .i a1_4, .i a1_5, .i a1_6, .i a1_7]] = impl_WriteSuper_u k a0_0 a0_1 a0_2 a0_3 a1_0 a1_1 a1_2 a1_3 a1_4 a1_5 a1_6 a1_7 := by kernel_rfl
def impl_DataAt_u (k : Nat) (a0 : Int) : Option Outs :=
 bindO (evalF E P0 k N.impl_within [.v [.i a0], .v [.i 0], .v [.i 1099511627776]]) fun o2 =>
 bif (!(o2.t 0).asB) then
  some ⟨[.i (-1)], []⟩
 else
  some ⟨[.i (IntKind.wrap .i64 ((IntKind.wrap .i64 (a0 + 2)) + 4))], []⟩
theorem impl_DataAt_e (k : Nat) (a0 : Int) : evalF E P0 (k + 1) N.impl_DataAt [.v [.i a0]] = impl_DataAt_u k a0 := by kernel_rfl
def impl_FlushMem_L1 (k : Nat) (a0_1 : List (List T)) (o2 : Outs) (G1 : (Int × List (List T)) → Option Outs) : (Int × List (List T)) → Option Outs := fun (v8, w8) =>
 bif (decide (v8 < (a0_1.length : Int))) then
  chk (decide (0 ≤ v8) && decide (v8 < (a0_1.length : Int))) <|
  bindO (evalF E P0 k N.impl_copyInts [.v [.r (at_ a0_1 v8.toNat 1).asR]]) fun o52 =>
  chk (decide (0 ≤ (at_ a0_1 v8.toNat 0).asI) && decide ((at_ a0_1 v8.toNat 0).asI < (w8.length : Int))) <|
  G1 ((IntKind.wrap .i64 (v8 + 1)), (put_ w8 (at_ a0_1 v8.toNat 0).asI.toNat 0 [.r (o52.t 0).asR]))
 else
  some ⟨[.r w8, .r [], .b (o2.t 2).asB, .r (o2.t 3).asR], []⟩
def impl_FlushMem_k1 : List Nat := [2, 3, 17, 18, 19, 32, 33]
def impl_FlushMem_S1 (a0_1 : List (List T)) (o2 : Outs) : (Int × List (List T)) → St := fun (v8, w8) => ⟨ofSl [(2, .ptr (2, 0) 0), (3, .ptr (3, 0) 0), (17, .sl 93 a0_1), (18, .i .i64 (a0_1.length : Int)), (19, .i .i64 v8), (32, .skip), (33, .skip)], Mem.put (ofMem [((2, 0), .var [.ref (2, 1), .ref (2, 2), .b false, .ref (2, 4)]), ((2, 1), .deep 55 [] none), ((2, 2), .deep 93 [] none), ((2, 4), .row 3 true []), ((3, 0), .var [.ref (3, 1), .ref (3, 2), .b (o2.t 2).asB, .ref (3, 4)]), ((3, 1), .deep 55 w8 none), ((3, 2), .deep 93 (o2.t 1).asR none), ((3, 4), .row 3 true (o2.t 3).asR)]) modeNm .dead⟩
def impl_FlushMem_J1 (k : Nat) (o2 : Outs) (R1 : Outs → (Int × List (List T)) → Option Outs) (c1 : Bool) : Option Outs :=
 bif c1 then
  some ⟨[.r (o2.t 0).asR, .r (o2.t 1).asR, .b (o2.t 2).asB, .r (o2.t 3).asR], []⟩
 else
  R1 o2 (0, (o2.t 0).asR)
def impl_FlushMem_l1 (k : Nat) (a0_1 : List (List T)) (o2 : Outs) (G1 : (Int × List (List T)) → Option Outs) : (Int × List (List T)) → Option Outs :=
  impl_FlushMem_L1 k a0_1 o2 G1
def impl_FlushMem_U (k : Nat) (a0_0 : List (List T)) (a0_1 : List (List T)) (a0_2 : Bool) (a0_3 : List (List T)) (R1 : Outs → (Int × List (List T)) → Option Outs) : Option Outs :=
 bindO (evalF E P0 k N.impl_copyMem [.v [.r a0_0, .r a0_1, .b a0_2, .r a0_3]]) fun o2 =>
 bindO (evalF E P0 k N.impl_MemOk [.v [.r a0_0, .r a0_1, .b a0_2, .r a0_3]]) fun o4 =>
 bif (!(o4.t 0).asB) then impl_FlushMem_J1 k o2 R1 true else impl_FlushMem_J1 k o2 R1 a0_2
def impl_FlushMem_u (k : Nat) (a0_0 : List (List T)) (a0_1 : List (List T)) (a0_2 : Bool) (a0_3 : List (List T)) : Option Outs :=
  impl_FlushMem_U k a0_0 a0_1 a0_2 a0_3 (fun y0 v => fixN (impl_FlushMem_l1 k a0_1 y0) k v)
def impl_FlushMem_it1 (k : Nat) (a0_0 : List (List T)) (a0_1 : List (List T)) (a0_2 : Bool) (a0_3 : List (List T)) (js : List Nat) (j : Nat) (s : St) : Option Outs := iter E (LB E (evalF E P0 k) k [] N.impl_FlushMem [.sr, .sr, .sr, .sl, .sr, .bl]) [] impl_FlushMem_k1 (LK E (evalF E P0 k) k [] N.impl_FlushMem [.v [.r a0_0, .r a0_1, .b a0_2, .r a0_3]] [.sr, .sr, .sr, .sl, .sr, .bl] js) j s
theorem impl_FlushMem_e (k : Nat) (a0_0 : List (List T)) (a0_1 : List (List T)) (a0_2 : Bool) (a0_3 : List (List T)) : evalF E P0 (k + 1) N.impl_FlushMem [.v [.r a0_0, .r a0_1, .b a0_2, .r a0_3]] = impl_FlushMem_u k a0_0 a0_1 a0_2 a0_3 := by
  have e0 : evalF E P0 (k + 1) N.impl_FlushMem [.v [.r a0_0, .r a0_1, .b a0_2, .r a0_3]] = impl_FlushMem_U k a0_0 a0_1 a0_2 a0_3 (fun y0 v => impl_FlushMem_it1 k a0_0 a0_1 a0_2 a0_3 [] k (impl_FlushMem_S1 a0_1 y0 v)) := by kernel_rfl
  have e1 : ∀ (o2 : Outs) (j1 : Nat) (v : Int × List (List T)), impl_FlushMem_it1 k a0_0 a0_1 a0_2 a0_3 [] (j1 + 1) (impl_FlushMem_S1 a0_1 o2 v) = impl_FlushMem_L1 k a0_1 o2 (fun v => impl_FlushMem_it1 k a0_0 a0_1 a0_2 a0_3 [] j1 (impl_FlushMem_S1 a0_1 o2 v)) v := by
    intro o2 j1 v; kernel_rfl
  have i1 : ∀ (o2 : Outs) (j1 : Nat) (v : Int × List (List T)), impl_FlushMem_it1 k a0_0 a0_1 a0_2 a0_3 [] j1 (impl_FlushMem_S1 a0_1 o2 v) = fixN (impl_FlushMem_l1 k a0_1 o2) j1 v := by
    intro o2 j1 v
    refine iter_fix (impl_FlushMem_S1 a0_1 o2) (impl_FlushMem_l1 k a0_1 o2) (fun j1 v => (e1 o2 j1 v).trans ?_) j1 v
    unfold impl_FlushMem_l1
    rfl
  rw [e0]; unfold impl_FlushMem_u
  simp only [i1]
def impl_ArrNew_L2 (k : Nat) (a0 : Int) (a1_0 : Int) (a1_1 : Int) (v360 : Int) (w1064 : List (List T)) (G1 : (Int × List (List T)) → Option Outs) (G2 : (Int × Bool × List (List T) × List (List T) × List (List T)) → Option Outs) : (Int × Bool × List (List T) × List (List T) × List (List T)) → Option Outs := fun (v392, d384, w1158, w1159, w1160) =>
 bif (decide (v392 < a1_1)) then
  bindO (evalF E P0 k N.impl_DataAt [.v [.i v392]]) fun o5041 =>
  bindO (evalF E P0 k N.impl_WriteSec [.v [.r w1158, .r w1159, .b d384, .r w1160], .v [.i (o5041.t 0).asI], .v [.r [[.i 0]]]]) fun o5042 =>
  G2 ((IntKind.wrap .i64 (v392 + 1)), (o5042.t 2).asB, (o5042.t 0).asR, (o5042.t 1).asR, (o5042.t 3).asR)
 else
  bindO (evalF E P0 k N.impl_FlushMem [.v [.r w1158, .r w1159, .b d384, .r w1160]]) fun o5043 =>
  chk (decide ((w1064.length + ([[.r (o5043.t 0).asR, .r (o5043.t 1).asR, .b (o5043.t 2).asB, .r (o5043.t 3).asR]] : List (List T)).length) * 80 ≤ 140737488355328)) <|
  G1 ((IntKind.wrap .i64 (v360 + 1)), (w1064 ++ ([[.r (o5043.t 0).asR, .r (o5043.t 1).asR, .b (o5043.t 2).asB, .r (o5043.t 3).asR]] : List (List T))))
def impl_ArrNew_k2 : List Nat := [3, 4, 5, 7, 22, 23, 34, 35, 47, 48, 49, 50, 51, 52, 53, 54, 55]
def impl_ArrNew_S2 (a0 : Int) (a1_0 : Int) (a1_1 : Int) (v360 : Int) (w1064 : List (List T)) : (Int × Bool × List (List T) × List (List T) × List (List T)) → St := fun (v392, d384, w1158, w1159, w1160) => ⟨ofSl [(3, .ptr (3, 0) 0), (4, .ptr (4, 0) 0), (5, .ptr (5, 0) 0), (7, .ptr (7, 0) 0), (22, .i .i64 a1_0), (23, .i .i64 v360), (34, .i .i64 a1_1), (35, .i .i64 v392), (47, .undef), (48, .undef), (49, .undef), (50, .undef), (51, .undef), (52, .undef), (53, .undef), (54, .undef), (55, .skip)], Mem.put (ofMem [((3, 0), .var [.i .i64 a1_0, .i .i64 a1_1]), ((4, 0), .var [.i .i64 0, .i .i64 0, .i .i64 0, .ref (4, 4), .i .i64 0, .i .i64 0, .i .i64 0, .i .i64 0, .i .i64 0, .ref (4, 10), .i .i64 0, .b false, .b false]), ((4, 4), .deep 57 [] none), ((4, 10), .deep 99 [] none), ((5, 0), .var [.i .i64 a0, .i .i64 a1_0, .i .i64 a1_1, .ref (5, 4), .i .i64 (-1), .i .i64 0, .i .i64 0, .i .i64 0, .i .i64 0, .ref (5, 10), .i .i64 (-1), .b false, .b false]), ((5, 4), .deep 57 w1064 none), ((5, 10), .deep 99 [] none), ((7, 0), .var [.ref (7, 1), .ref (7, 2), .b d384, .ref (7, 4)]), ((7, 1), .row 55 true w1158), ((7, 2), .row 93 true w1159), ((7, 4), .row 3 true w1160)]) modeNm .dead⟩
def impl_ArrNew_L1 (k : Nat) (a0 : Int) (a1_0 : Int) (a1_1 : Int) (R2 : Int → List (List T) → (Int × Bool × List (List T) × List (List T) × List (List T)) → Option Outs) (G1 : (Int × List (List T)) → Option Outs) : (Int × List (List T)) → Option Outs := fun (v360, w1064) =>
 bif (decide (v360 < a1_0)) then
  bindO (evalF E P0 k N.impl_sectors [.v [.i a1_0, .i a1_1]]) fun o4943 =>
  bindO (evalF E P0 k N.impl_MemNew [.v [.i (o4943.t 0).asI]]) fun o4944 =>
  bindO (evalF E P0 k N.impl_superOf [.v [.i a0, .i a1_0, .i a1_1, .r w1064, .i (-1), .i 0, .i 0, .i 0, .i 0, .r [], .i (-1), .b false, .b false], .v [.i v360]]) fun o4945 =>
  bindO (evalF E P0 k N.impl_WriteSuper [.v [.r (o4944.t 0).asR, .r (o4944.t 1).asR, .b (o4944.t 2).asB, .r (o4944.t 3).asR], .v [.i (o4945.t 0).asI, .i (o4945.t 1).asI, .i (o4945.t 2).asI, .i (o4945.t 3).asI, .i (o4945.t 4).asI, .i (o4945.t 5).asI, .i (o4945.t 6).asI, .i (o4945.t 7).asI]]) fun o4946 =>
  R2 v360 w1064 (0, (o4946.t 2).asB, (o4946.t 0).asR, (o4946.t 1).asR, (o4946.t 3).asR)
 else
  some ⟨[.i a0, .i a1_0, .i a1_1, .r w1064, .i (-1), .i 0, .i 0, .i 0, .i 0, .r [], .i (-1), .b false, .b false], []⟩
def impl_ArrNew_k1 : List Nat := [3, 4, 5, 22, 23, 55]
def impl_ArrNew_S1 (a0 : Int) (a1_0 : Int) (a1_1 : Int) : (Int × List (List T)) → St := fun (v360, w1064) => ⟨ofSl [(3, .ptr (3, 0) 0), (4, .ptr (4, 0) 0), (5, .ptr (5, 0) 0), (22, .i .i64 a1_0), (23, .i .i64 v360), (55, .skip)], Mem.put (ofMem [((3, 0), .var [.i .i64 a1_0, .i .i64 a1_1]), ((4, 0), .var [.i .i64 0, .i .i64 0, .i .i64 0, .ref (4, 4), .i .i64 0, .i .i64 0, .i .i64 0, .i .i64 0, .i .i64 0, .ref (4, 10), .i .i64 0, .b false, .b false]), ((4, 4), .deep 57 [] none), ((4, 10), .deep 99 [] none), ((5, 0), .var [.i .i64 a0, .i .i64 a1_0, .i .i64 a1_1, .ref (5, 4), .i .i64 (-1), .i .i64 0, .i .i64 0, .i .i64 0, .i .i64 0, .ref (5, 10), .i .i64 (-1), .b false, .b false]), ((5, 4), .deep 57 w1064 none), ((5, 10), .deep 99 [] none)]) modeNm .dead⟩
def impl_ArrNew_J1 (k : Nat) (R1 : (Int × List (List T)) → Option Outs) (c1 : Bool) : Option Outs :=
 bif c1 then
  some ⟨[.i 0, .i 0, .i 0, .r [], .i 0, .i 0, .i 0, .i 0, .i 0, .r [], .i 0, .b false, .b false], []⟩
 else
  R1 (0, [])
def impl_ArrNew_l2 (k : Nat) (a0 : Int) (a1_0 : Int) (a1_1 : Int) (v360 : Int) (w1064 : List (List T)) (G1 : (Int × List (List T)) → Option Outs) (G2 : (Int × Bool × List (List T) × List (List T) × List (List T)) → Option Outs) : (Int × Bool × List (List T) × List (List T) × List (List T)) → Option Outs :=
  impl_ArrNew_L2 k a0 a1_0 a1_1 v360 w1064 G1 G2
def impl_ArrNew_l1 (k : Nat) (a0 : Int) (a1_0 : Int) (a1_1 : Int) (G1 : (Int × List (List T)) → Option Outs) : (Int × List (List T)) → Option Outs :=
  impl_ArrNew_L1 k a0 a1_0 a1_1 (fun y0 y1 v => fixN (impl_ArrNew_l2 k a0 a1_0 a1_1 y0 y1 G1) k v) G1
def impl_ArrNew_U (k : Nat) (a0 : Int) (a1_0 : Int) (a1_1 : Int) (R1 : (Int × List (List T)) → Option Outs) : Option Outs :=
 bindO (evalF E P0 k N.impl_GeoOk [.v [.i a1_0, .i a1_1]]) fun o3 =>
 bif (!(o3.t 0).asB) then
  impl_ArrNew_J1 k R1 true
 else
  bindO (evalF E P0 k N.impl_within [.v [.i a0], .v [.i 1], .v [.i 60000]]) fun o5044 =>
  impl_ArrNew_J1 k R1 (!(o5044.t 0).asB)
def impl_ArrNew_u (k : Nat) (a0 : Int) (a1_0 : Int) (a1_1 : Int) : Option Outs :=
  impl_ArrNew_U k a0 a1_0 a1_1 (fun v => fixN (impl_ArrNew_l1 k a0 a1_0 a1_1) k v)
def impl_ArrNew_it1 (k : Nat) (a0 : Int) (a1_0 : Int) (a1_1 : Int) (js : List Nat) (j : Nat) (s : St) : Option Outs := iter E (LB E (evalF E P0 k) k [] N.impl_ArrNew [.sr, .sr, .sr, .sl, .sr, .bl]) [] impl_ArrNew_k1 (LK E (evalF E P0 k) k [] N.impl_ArrNew [.v [.i a0], .v [.i a1_0, .i a1_1]] [.sr, .sr, .sr, .sl, .sr, .bl] js) j s
def impl_ArrNew_it2 (k : Nat) (a0 : Int) (a1_0 : Int) (a1_1 : Int) (js : List Nat) (j : Nat) (s : St) : Option Outs := iter E (LB E (evalF E P0 k) k [] N.impl_ArrNew [.sr, .sr, .sr, .sl, .sr, .bl, .lp, .sr, .sr, .sl, .bl, .sr, .sr, .sl, .sr, .bl]) [] impl_ArrNew_k2 (LK E (evalF E P0 k) k [] N.impl_ArrNew [.v [.i a0], .v [.i a1_0, .i a1_1]] [.sr, .sr, .sr, .sl, .sr, .bl, .lp, .sr, .sr, .sl, .bl, .sr, .sr, .sl, .sr, .bl] js) j s
theorem impl_ArrNew_e (k : Nat) (a0 : Int) (a1_0 : Int) (a1_1 : Int) : evalF E P0 (k + 1) N.impl_ArrNew [.v [.i a0], .v [.i a1_0, .i a1_1]] = impl_ArrNew_u k a0 a1_0 a1_1 := by
  have e0 : evalF E P0 (k + 1) N.impl_ArrNew [.v [.i a0], .v [.i a1_0, .i a1_1]] = impl_ArrNew_U k a0 a1_0 a1_1 (fun v => impl_ArrNew_it1 k a0 a1_0 a1_1 [] k (impl_ArrNew_S1 a0 a1_0 a1_1 v)) := by kernel_rfl
  have e2 : ∀ (j1 : Nat) (v360 : Int) (w1064 : List (List T)) (j2 : Nat) (v : Int × Bool × List (List T) × List (List T) × List (List T)), impl_ArrNew_it2 k a0 a1_0 a1_1 [j1] (j2 + 1) (impl_ArrNew_S2 a0 a1_0 a1_1 v360 w1064 v) = impl_ArrNew_L2 k a0 a1_0 a1_1 v360 w1064 (fun v => impl_ArrNew_it1 k a0 a1_0 a1_1 [] j1 (impl_ArrNew_S1 a0 a1_0 a1_1 v)) (fun v => impl_ArrNew_it2 k a0 a1_0 a1_1 [j1] j2 (impl_ArrNew_S2 a0 a1_0 a1_1 v360 w1064 v)) v := by
    intro j1 v360 w1064 j2 v; kernel_rfl
  have i2 : ∀ (j1 : Nat) (v360 : Int) (w1064 : List (List T)) (j2 : Nat) (v : Int × Bool × List (List T) × List (List T) × List (List T)), impl_ArrNew_it2 k a0 a1_0 a1_1 [j1] j2 (impl_ArrNew_S2 a0 a1_0 a1_1 v360 w1064 v) = fixN (impl_ArrNew_l2 k a0 a1_0 a1_1 v360 w1064 (fun v => impl_ArrNew_it1 k a0 a1_0 a1_1 [] j1 (impl_ArrNew_S1 a0 a1_0 a1_1 v))) j2 v := by
    intro j1 v360 w1064 j2 v
    refine iter_fix (impl_ArrNew_S2 a0 a1_0 a1_1 v360 w1064) (impl_ArrNew_l2 k a0 a1_0 a1_1 v360 w1064 (fun v => impl_ArrNew_it1 k a0 a1_0 a1_1 [] j1 (impl_ArrNew_S1 a0 a1_0 a1_1 v))) (fun j2 v => (e2 j1 v360 w1064 j2 v).trans ?_) j2 v
    unfold impl_ArrNew_l2
    rfl
  have e1 : ∀ (j1 : Nat) (v : Int × List (List T)), impl_ArrNew_it1 k a0 a1_0 a1_1 [] (j1 + 1) (impl_ArrNew_S1 a0 a1_0 a1_1 v) = impl_ArrNew_L1 k a0 a1_0 a1_1 (fun y0 y1 v => impl_ArrNew_it2 k a0 a1_0 a1_1 [j1] k (impl_ArrNew_S2 a0 a1_0 a1_1 y0 y1 v)) (fun v => impl_ArrNew_it1 k a0 a1_0 a1_1 [] j1 (impl_ArrNew_S1 a0 a1_0 a1_1 v)) v := by
    intro j1 v; kernel_rfl
  have i1 : ∀ (j1 : Nat) (v : Int × List (List T)), impl_ArrNew_it1 k a0 a1_0 a1_1 [] j1 (impl_ArrNew_S1 a0 a1_0 a1_1 v) = fixN (impl_ArrNew_l1 k a0 a1_0 a1_1) j1 v := by
    intro j1 v
    refine iter_fix (impl_ArrNew_S1 a0 a1_0 a1_1) (impl_ArrNew_l1 k a0 a1_0 a1_1) (fun j1 v => (e1 j1 v).trans ?_) j1 v
    unfold impl_ArrNew_l1
    simp only [i2] <;> rfl
  rw [e0]; unfold impl_ArrNew_u
  simp only [i1]
def impl_EngNew_u (k : Nat) (a0 : Int) (a1_0 : Int) (a1_1 : Int) : Option Outs :=
 bindO (evalF E P0 k N.impl_ArrNew [.v [.i a0], .v [.i a1_0, .i a1_1]]) fun o2 =>
 some ⟨[.i (o2.t 0).asI, .i (o2.t 1).asI, .i (o2.t 2).asI, .r (o2.t 3).asR, .i (o2.t 4).asI, .i (o2.t 5).asI, .i (o2.t 6).asI, .i (o2.t 7).asI, .i (o2.t 8).asI, .r (o2.t 9).asR, .i (o2.t 10).asI, .b (o2.t 11).asB, .b (o2.t 12).asB, .r [], .r [], .r [], .r []], []⟩
theorem impl_EngNew_e (k : Nat) (a0 : Int) (a1_0 : Int) (a1_1 : Int) : evalF E P0 (k + 1) N.impl_EngNew [.v [.i a0], .v [.i a1_0, .i a1_1]] = impl_EngNew_u k a0 a1_0 a1_1 := by kernel_rfl
def laws_eqGeo_u (k : Nat) (a0_0 : Int) (a0_1 : Int) (a1_0 : Int) (a1_1 : Int) : Option Outs :=
 bif (a0_0 != a1_0) then
  some ⟨[.b false], []⟩
 else
  bif (a0_1 != a1_1) then some ⟨[.b false], []⟩ else some ⟨[.b true], []⟩
theorem laws_eqGeo_e (k : Nat) (a0_0 : Int) (a0_1 : Int) (a1_0 : Int) (a1_1 : Int) : evalF E P0 (k + 1) N.laws_eqGeo [.v [.i a0_0, .i a0_1], .v [.i a1_0, .i a1_1]] = laws_eqGeo_u k a0_0 a0_1 a1_0 a1_1 := by kernel_rfl
def laws_eqIntS_L1 (k : Nat) (a0 : List (List T)) (a1 : List (List T)) (G1 : (Int) → Option Outs) : (Int) → Option Outs := fun v8 =>
 bif (decide (v8 < (a0.length : Int))) then
  chk (decide (0 ≤ v8) && decide (v8 < (a0.length : Int))) <|
  chk (decide (0 ≤ v8) && decide (v8 < (a1.length : Int))) <|
  bif ((at_ a0 v8.toNat 0).asI != (at_ a1 v8.toNat 0).asI) then
   some ⟨[.b false], []⟩
  else
   G1 (IntKind.wrap .i64 (v8 + 1))
 else
  some ⟨[.b true], []⟩
def laws_eqIntS_k1 : List Nat := [0, 1, 4, 5]
def laws_eqIntS_S1 (a0 : List (List T)) (a1 : List (List T)) : (Int) → St := fun v8 => ⟨ofSl [(0, .sl 3 a0), (1, .sl 3 a1), (4, .b false), (5, .i .i64 v8)], ofMem []⟩
def laws_eqIntS_l1 (k : Nat) (a0 : List (List T)) (a1 : List (List T)) (G1 : (Int) → Option Outs) : (Int) → Option Outs :=
  laws_eqIntS_L1 k a0 a1 G1
def laws_eqIntS_U (k : Nat) (a0 : List (List T)) (a1 : List (List T)) (R1 : (Int) → Option Outs) : Option Outs :=
 bif ((a0.length : Int) != (a1.length : Int)) then some ⟨[.b false], []⟩ else R1 0
def laws_eqIntS_u (k : Nat) (a0 : List (List T)) (a1 : List (List T)) : Option Outs :=
  laws_eqIntS_U k a0 a1 (fun v => fixN (laws_eqIntS_l1 k a0 a1) k v)
def laws_eqIntS_it1 (k : Nat) (a0 : List (List T)) (a1 : List (List T)) (js : List Nat) (j : Nat) (s : St) : Option Outs := iter E (LB E (evalF E P0 k) k [] N.laws_eqIntS [.sr, .sr, .sl, .sr, .bl]) [] laws_eqIntS_k1 (LK E (evalF E P0 k) k [] N.laws_eqIntS [.v [.r a0], .v [.r a1]] [.sr, .sr, .sl, .sr, .bl] js) j s
theorem laws_eqIntS_e (k : Nat) (a0 : List (List T)) (a1 : List (List T)) : evalF E P0 (k + 1) N.laws_eqIntS [.v [.r a0], .v [.r a1]] = laws_eqIntS_u k a0 a1 := by
  have e0 : evalF E P0 (k + 1) N.laws_eqIntS [.v [.r a0], .v [.r a1]] = laws_eqIntS_U k a0 a1 (fun v => laws_eqIntS_it1 k a0 a1 [] k (laws_eqIntS_S1 a0 a1 v)) := by kernel_rfl
  have e1 : ∀ (j1 : Nat) (v : Int), laws_eqIntS_it1 k a0 a1 [] (j1 + 1) (laws_eqIntS_S1 a0 a1 v) = laws_eqIntS_L1 k a0 a1 (fun v => laws_eqIntS_it1 k a0 a1 [] j1 (laws_eqIntS_S1 a0 a1 v)) v := by
    intro j1 v; kernel_rfl
  have i1 : ∀ (j1 : Nat) (v : Int), laws_eqIntS_it1 k a0 a1 [] j1 (laws_eqIntS_S1 a0 a1 v) = fixN (laws_eqIntS_l1 k a0 a1) j1 v := by
    intro j1 v
    refine iter_fix (laws_eqIntS_S1 a0 a1) (laws_eqIntS_l1 k a0 a1) (fun j1 v => (e1 j1 v).trans ?_) j1 v
    unfold laws_eqIntS_l1
    rfl
  rw [e0]; unfold laws_eqIntS_u
  simp only [i1]
def laws_eqIntSS_L1 (k : Nat) (a0 : List (List T)) (a1 : List (List T)) (G1 : (Int) → Option Outs) : (Int) → Option Outs := fun v8 =>
 bif (decide (v8 < (a0.length : Int))) then
  chk (decide (0 ≤ v8) && decide (v8 < (a0.length : Int))) <|
  chk (decide (0 ≤ v8) && decide (v8 < (a1.length : Int))) <|
  bindO (evalF E P0 k N.laws_eqIntS [.v [.r (at_ a0 v8.toNat 0).asR], .v [.r (at_ a1 v8.toNat 0).asR]]) fun o96 =>
  bif (!(o96.t 0).asB) then some ⟨[.b false], []⟩ else G1 (IntKind.wrap .i64 (v8 + 1))
 else
  some ⟨[.b true], []⟩
def laws_eqIntSS_k1 : List Nat := [0, 1, 4, 5]
def laws_eqIntSS_S1 (a0 : List (List T)) (a1 : List (List T)) : (Int) → St := fun v8 => ⟨ofSl [(0, .sl 55 a0), (1, .sl 55 a1), (4, .b false), (5, .i .i64 v8)], ofMem []⟩
def laws_eqIntSS_l1 (k : Nat) (a0 : List (List T)) (a1 : List (List T)) (G1 : (Int) → Option Outs) : (Int) → Option Outs :=
  laws_eqIntSS_L1 k a0 a1 G1
def laws_eqIntSS_U (k : Nat) (a0 : List (List T)) (a1 : List (List T)) (R1 : (Int) → Option Outs) : Option Outs :=
 bif ((a0.length : Int) != (a1.length : Int)) then some ⟨[.b false], []⟩ else R1 0
def laws_eqIntSS_u (k : Nat) (a0 : List (List T)) (a1 : List (List T)) : Option Outs :=
  laws_eqIntSS_U k a0 a1 (fun v => fixN (laws_eqIntSS_l1 k a0 a1) k v)
def laws_eqIntSS_it1 (k : Nat) (a0 : List (List T)) (a1 : List (List T)) (js : List Nat) (j : Nat) (s : St) : Option Outs := iter E (LB E (evalF E P0 k) k [] N.laws_eqIntSS [.sr, .sr, .sl, .sr, .bl]) [] laws_eqIntSS_k1 (LK E (evalF E P0 k) k [] N.laws_eqIntSS [.v [.r a0], .v [.r a1]] [.sr, .sr, .sl, .sr, .bl] js) j s
theorem laws_eqIntSS_e (k : Nat) (a0 : List (List T)) (a1 : List (List T)) : evalF E P0 (k + 1) N.laws_eqIntSS [.v [.r a0], .v [.r a1]] = laws_eqIntSS_u k a0 a1 := by
  have e0 : evalF E P0 (k + 1) N.laws_eqIntSS [.v [.r a0], .v [.r a1]] = laws_eqIntSS_U k a0 a1 (fun v => laws_eqIntSS_it1 k a0 a1 [] k (laws_eqIntSS_S1 a0 a1 v)) := by kernel_rfl
  have e1 : ∀ (j1 : Nat) (v : Int), laws_eqIntSS_it1 k a0 a1 [] (j1 + 1) (laws_eqIntSS_S1 a0 a1 v) = laws_eqIntSS_L1 k a0 a1 (fun v => laws_eqIntSS_it1 k a0 a1 [] j1 (laws_eqIntSS_S1 a0 a1 v)) v := by
    intro j1 v; kernel_rfl
  have i1 : ∀ (j1 : Nat) (v : Int), laws_eqIntSS_it1 k a0 a1 [] j1 (laws_eqIntSS_S1 a0 a1 v) = fixN (laws_eqIntSS_l1 k a0 a1) j1 v := by
    intro j1 v
    refine iter_fix (laws_eqIntSS_S1 a0 a1) (laws_eqIntSS_l1 k a0 a1) (fun j1 v => (e1 j1 v).trans ?_) j1 v
    unfold laws_eqIntSS_l1
    rfl
  rw [e0]; unfold laws_eqIntSS_u
  simp only [i1]
def laws_eqWr_u (k : Nat) (a0_0 : Int) (a0_1 : List (List T)) (a1_0 : Int) (a1_1 : List (List T)) : Option Outs :=
 bif (a0_0 != a1_0) then
  some ⟨[.b false], []⟩
 else
  bindO (evalF E P0 k N.laws_eqIntS [.v [.r a0_1], .v [.r a1_1]]) fun o2 =>
  bif (!(o2.t 0).asB) then some ⟨[.b false], []⟩ else some ⟨[.b true], []⟩
theorem laws_eqWr_e (k : Nat) (a0_0 : Int) (a0_1 : List (List T)) (a1_0 : Int) (a1_1 : List (List T)) : evalF E P0 (k + 1) N.laws_eqWr [.v [.i a0_0, .r a0_1], .v [.i a1_0, .r a1_1]] = laws_eqWr_u k a0_0 a0_1 a1_0 a1_1 := by kernel_rfl
def laws_eqWrS_L1 (k : Nat) (a0 : List (List T)) (a1 : List (List T)) (G1 : (Int) → Option Outs) : (Int) → Option Outs := fun v8 =>
 bif (decide (v8 < (a0.length : Int))) then
  chk (decide (0 ≤ v8) && decide (v8 < (a0.length : Int))) <|
  chk (decide (0 ≤ v8) && decide (v8 < (a1.length : Int))) <|
  bindO (evalF E P0 k N.laws_eqWr [.v [.i (at_ a0 v8.toNat 0).asI, .r (at_ a0 v8.toNat 1).asR], .v [.i (at_ a1 v8.toNat 0).asI, .r (at_ a1 v8.toNat 1).asR]]) fun o96 =>
  bif (!(o96.t 0).asB) then some ⟨[.b false], []⟩ else G1 (IntKind.wrap .i64 (v8 + 1))
 else
  some ⟨[.b true], []⟩
def laws_eqWrS_k1 : List Nat := [0, 1, 4, 5]
def laws_eqWrS_S1 (a0 : List (List T)) (a1 : List (List T)) : (Int) → St := fun v8 => ⟨ofSl [(0, .sl 93 a0), (1, .sl 93 a1), (4, .b false), (5, .i .i64 v8)], ofMem []⟩
def laws_eqWrS_l1 (k : Nat) (a0 : List (List T)) (a1 : List (List T)) (G1 : (Int) → Option Outs) : (Int) → Option Outs :=
  laws_eqWrS_L1 k a0 a1 G1
def laws_eqWrS_U (k : Nat) (a0 : List (List T)) (a1 : List (List T)) (R1 : (Int) → Option Outs) : Option Outs :=
 bif ((a0.length : Int) != (a1.length : Int)) then some ⟨[.b false], []⟩ else R1 0
def laws_eqWrS_u (k : Nat) (a0 : List (List T)) (a1 : List (List T)) : Option Outs :=
  laws_eqWrS_U k a0 a1 (fun v => fixN (laws_eqWrS_l1 k a0 a1) k v)
def laws_eqWrS_it1 (k : Nat) (a0 : List (List T)) (a1 : List (List T)) (js : List Nat) (j : Nat) (s : St) : Option Outs := iter E (LB E (evalF E P0 k) k [] N.laws_eqWrS [.sr, .sr, .sl, .sr, .bl]) [] laws_eqWrS_k1 (LK E (evalF E P0 k) k [] N.laws_eqWrS [.v [.r a0], .v [.r a1]] [.sr, .sr, .sl, .sr, .bl] js) j s
theorem laws_eqWrS_e (k : Nat) (a0 : List (List T)) (a1 : List (List T)) : evalF E P0 (k + 1) N.laws_eqWrS [.v [.r a0], .v [.r a1]] = laws_eqWrS_u k a0 a1 := by
  have e0 : evalF E P0 (k + 1) N.laws_eqWrS [.v [.r a0], .v [.r a1]] = laws_eqWrS_U k a0 a1 (fun v => laws_eqWrS_it1 k a0 a1 [] k (laws_eqWrS_S1 a0 a1 v)) := by kernel_rfl
  have e1 : ∀ (j1 : Nat) (v : Int), laws_eqWrS_it1 k a0 a1 [] (j1 + 1) (laws_eqWrS_S1 a0 a1 v) = laws_eqWrS_L1 k a0 a1 (fun v => laws_eqWrS_it1 k a0 a1 [] j1 (laws_eqWrS_S1 a0 a1 v)) v := by
    intro j1 v; kernel_rfl
  have i1 : ∀ (j1 : Nat) (v : Int), laws_eqWrS_it1 k a0 a1 [] j1 (laws_eqWrS_S1 a0 a1 v) = fixN (laws_eqWrS_l1 k a0 a1) j1 v := by
    intro j1 v
    refine iter_fix (laws_eqWrS_S1 a0 a1) (laws_eqWrS_l1 k a0 a1) (fun j1 v => (e1 j1 v).trans ?_) j1 v
    unfold laws_eqWrS_l1
    rfl
  rw [e0]; unfold laws_eqWrS_u
  simp only [i1]
def laws_eqMem_u (k : Nat) (a0_0 : List (List T)) (a0_1 : List (List T)) (a0_2 : Bool) (a0_3 : List (List T)) (a1_0 : List (List T)) (a1_1 : List (List T)) (a1_2 : Bool) (a1_3 : List (List T)) : Option Outs :=
 bindO (evalF E P0 k N.laws_eqIntSS [.v [.r a0_0], .v [.r a1_0]]) fun o2 =>
 bif (!(o2.t 0).asB) then
  some ⟨[.b false], []⟩
 else
  bindO (evalF E P0 k N.laws_eqWrS [.v [.r a0_1], .v [.r a1_1]]) fun o4 =>
  bif (!(o4.t 0).asB) then
   some ⟨[.b false], []⟩
  else
   bif (!(a0_2 == a1_2)) then
    some ⟨[.b false], []⟩
   else
    bindO (evalF E P0 k N.laws_eqIntS [.v [.r a0_3], .v [.r a1_3]]) fun o6 =>
    bif (!(o6.t 0).asB) then some ⟨[.b false], []⟩ else some ⟨[.b true], []⟩
theorem laws_eqMem_e (k : Nat) (a0_0 : List (List T)) (a0_1 : List (List T)) (a0_2 : Bool) (a0_3 : List (List T)) (a1_0 : List (List T)) (a1_1 : List (List T)) (a1_2 : Bool) (a1_3 : List (List T)) : evalF E P0 (k + 1) N.laws_eqMem [.v [.r a0_0, .r a0_1, .b a0_2, .r a0_3], .v [.r a1_0, .r a1_1, .b a1_2, .r a1_3]] = laws_eqMem_u k a0_0 a0_1 a0_2 a0_3 a1_0 a1_1 a1_2 a1_3 := by kernel_rfl
def laws_eqMemS_L1 (k : Nat) (a0 : List (List T)) (a1 : List (List T)) (G1 : (Int) → Option Outs) : (Int) → Option Outs := fun v8 =>
 bif (decide (v8 < (a0.length : Int))) then
  chk (decide (0 ≤ v8) && decide (v8 < (a0.length : Int))) <|
  chk (decide (0 ≤ v8) && decide (v8 < (a1.length : Int))) <|
  bindO (evalF E P0 k N.laws_eqMem [.v [.r (at_ a0 v8.toNat 0).asR, .r (at_ a0 v8.toNat 1).asR, .b (at_ a0 v8.toNat 2).asB, .r (at_ a0 v8.toNat 3).asR], .v [.r (at_ a1 v8.toNat 0).asR, .r (at_ a1 v8.toNat 1).asR, .b (at_ a1 v8.toNat 2).asB, .r (at_ a1 v8.toNat 3).asR]]) fun o96 =>
  bif (!(o96.t 0).asB) then some ⟨[.b false], []⟩ else G1 (IntKind.wrap .i64 (v8 + 1))
 else
  some ⟨[.b true], []⟩
def laws_eqMemS_k1 : List Nat := [0, 1, 4, 5]
def laws_eqMemS_S1 (a0 : List (List T)) (a1 : List (List T)) : (Int) → St := fun v8 => ⟨ofSl [(0, .sl 57 a0), (1, .sl 57 a1), (4, .b false), (5, .i .i64 v8)], ofMem []⟩
def laws_eqMemS_l1 (k : Nat) (a0 : List (List T)) (a1 : List (List T)) (G1 : (Int) → Option Outs) : (Int) → Option Outs :=
  laws_eqMemS_L1 k a0 a1 G1
def laws_eqMemS_U (k : Nat) (a0 : List (List T)) (a1 : List (List T)) (R1 : (Int) → Option Outs) : Option Outs :=
 bif ((a0.length : Int) != (a1.length : Int)) then some ⟨[.b false], []⟩ else R1 0
def laws_eqMemS_u (k : Nat) (a0 : List (List T)) (a1 : List (List T)) : Option Outs :=
  laws_eqMemS_U k a0 a1 (fun v => fixN (laws_eqMemS_l1 k a0 a1) k v)
def laws_eqMemS_it1 (k : Nat) (a0 : List (List T)) (a1 : List (List T)) (js : List Nat) (j : Nat) (s : St) : Option Outs := iter E (LB E (evalF E P0 k) k [] N.laws_eqMemS [.sr, .sr, .sl, .sr, .bl]) [] laws_eqMemS_k1 (LK E (evalF E P0 k) k [] N.laws_eqMemS [.v [.r a0], .v [.r a1]] [.sr, .sr, .sl, .sr, .bl] js) j s
theorem laws_eqMemS_e (k : Nat) (a0 : List (List T)) (a1 : List (List T)) : evalF E P0 (k + 1) N.laws_eqMemS [.v [.r a0], .v [.r a1]] = laws_eqMemS_u k a0 a1 := by
  have e0 : evalF E P0 (k + 1) N.laws_eqMemS [.v [.r a0], .v [.r a1]] = laws_eqMemS_U k a0 a1 (fun v => laws_eqMemS_it1 k a0 a1 [] k (laws_eqMemS_S1 a0 a1 v)) := by kernel_rfl
  have e1 : ∀ (j1 : Nat) (v : Int), laws_eqMemS_it1 k a0 a1 [] (j1 + 1) (laws_eqMemS_S1 a0 a1 v) = laws_eqMemS_L1 k a0 a1 (fun v => laws_eqMemS_it1 k a0 a1 [] j1 (laws_eqMemS_S1 a0 a1 v)) v := by
    intro j1 v; kernel_rfl
  have i1 : ∀ (j1 : Nat) (v : Int), laws_eqMemS_it1 k a0 a1 [] j1 (laws_eqMemS_S1 a0 a1 v) = fixN (laws_eqMemS_l1 k a0 a1) j1 v := by
    intro j1 v
    refine iter_fix (laws_eqMemS_S1 a0 a1) (laws_eqMemS_l1 k a0 a1) (fun j1 v => (e1 j1 v).trans ?_) j1 v
    unfold laws_eqMemS_l1
    rfl
  rw [e0]; unfold laws_eqMemS_u
  simp only [i1]
def laws_eqEnt_u (k : Nat) (a0_0 : Int) (a0_1 : List (List T)) (a1_0 : Int) (a1_1 : List (List T)) : Option Outs :=
 bif (a0_0 != a1_0) then
  some ⟨[.b false], []⟩
 else
  bindO (evalF E P0 k N.laws_eqIntS [.v [.r a0_1], .v [.r a1_1]]) fun o2 =>
  bif (!(o2.t 0).asB) then some ⟨[.b false], []⟩ else some ⟨[.b true], []⟩
theorem laws_eqEnt_e (k : Nat) (a0_0 : Int) (a0_1 : List (List T)) (a1_0 : Int) (a1_1 : List (List T)) : evalF E P0 (k + 1) N.laws_eqEnt [.v [.i a0_0, .r a0_1], .v [.i a1_0, .r a1_1]] = laws_eqEnt_u k a0_0 a0_1 a1_0 a1_1 := by kernel_rfl
def laws_eqEntS_L1 (k : Nat) (a0 : List (List T)) (a1 : List (List T)) (G1 : (Int) → Option Outs) : (Int) → Option Outs := fun v8 =>
 bif (decide (v8 < (a0.length : Int))) then
  chk (decide (0 ≤ v8) && decide (v8 < (a0.length : Int))) <|
  chk (decide (0 ≤ v8) && decide (v8 < (a1.length : Int))) <|
  bindO (evalF E P0 k N.laws_eqEnt [.v [.i (at_ a0 v8.toNat 0).asI, .r (at_ a0 v8.toNat 1).asR], .v [.i (at_ a1 v8.toNat 0).asI, .r (at_ a1 v8.toNat 1).asR]]) fun o96 =>
  bif (!(o96.t 0).asB) then some ⟨[.b false], []⟩ else G1 (IntKind.wrap .i64 (v8 + 1))
 else
  some ⟨[.b true], []⟩
def laws_eqEntS_k1 : List Nat := [0, 1, 4, 5]
def laws_eqEntS_S1 (a0 : List (List T)) (a1 : List (List T)) : (Int) → St := fun v8 => ⟨ofSl [(0, .sl 99 a0), (1, .sl 99 a1), (4, .b false), (5, .i .i64 v8)], ofMem []⟩
def laws_eqEntS_l1 (k : Nat) (a0 : List (List T)) (a1 : List (List T)) (G1 : (Int) → Option Outs) : (Int) → Option Outs :=
  laws_eqEntS_L1 k a0 a1 G1
def laws_eqEntS_U (k : Nat) (a0 : List (List T)) (a1 : List (List T)) (R1 : (Int) → Option Outs) : Option Outs :=
 bif ((a0.length : Int) != (a1.length : Int)) then some ⟨[.b false], []⟩ else R1 0
def laws_eqEntS_u (k : Nat) (a0 : List (List T)) (a1 : List (List T)) : Option Outs :=
  laws_eqEntS_U k a0 a1 (fun v => fixN (laws_eqEntS_l1 k a0 a1) k v)
def laws_eqEntS_it1 (k : Nat) (a0 : List (List T)) (a1 : List (List T)) (js : List Nat) (j : Nat) (s : St) : Option Outs := iter E (LB E (evalF E P0 k) k [] N.laws_eqEntS [.sr, .sr, .sl, .sr, .bl]) [] laws_eqEntS_k1 (LK E (evalF E P0 k) k [] N.laws_eqEntS [.v [.r a0], .v [.r a1]] [.sr, .sr, .sl, .sr, .bl] js) j s
theorem laws_eqEntS_e (k : Nat) (a0 : List (List T)) (a1 : List (List T)) : evalF E P0 (k + 1) N.laws_eqEntS [.v [.r a0], .v [.r a1]] = laws_eqEntS_u k a0 a1 := by
  have e0 : evalF E P0 (k + 1) N.laws_eqEntS [.v [.r a0], .v [.r a1]] = laws_eqEntS_U k a0 a1 (fun v => laws_eqEntS_it1 k a0 a1 [] k (laws_eqEntS_S1 a0 a1 v)) := by kernel_rfl
  have e1 : ∀ (j1 : Nat) (v : Int), laws_eqEntS_it1 k a0 a1 [] (j1 + 1) (laws_eqEntS_S1 a0 a1 v) = laws_eqEntS_L1 k a0 a1 (fun v => laws_eqEntS_it1 k a0 a1 [] j1 (laws_eqEntS_S1 a0 a1 v)) v := by
    intro j1 v; kernel_rfl
  have i1 : ∀ (j1 : Nat) (v : Int), laws_eqEntS_it1 k a0 a1 [] j1 (laws_eqEntS_S1 a0 a1 v) = fixN (laws_eqEntS_l1 k a0 a1) j1 v := by
    intro j1 v
    refine iter_fix (laws_eqEntS_S1 a0 a1) (laws_eqEntS_l1 k a0 a1) (fun j1 v => (e1 j1 v).trans ?_) j1 v
    unfold laws_eqEntS_l1
    rfl
  rw [e0]; unfold laws_eqEntS_u
  simp only [i1]
def laws_eqArr_u (k : Nat) (a0_0 : Int) (a0_1 : Int) (a0_2 : Int) (a0_3 : List (List T)) (a0_4 : Int) (a0_5 : Int) (a0_6 : Int) (a0_7 : Int) (a0_8 : Int) (a0_9 : List (List T)) (a0_10 : Int) (a0_11 : Bool) (a0_12 : Bool) (a1_0 : Int) (a1_1 : Int) (a1_2 : Int) (a1_3 : List (List T)) (a1_4 : Int) (a1_5 : Int) (a1_6 : Int) (a1_7 : Int) (a1_8 : Int) (a1_9 : List (List T)) (a1_10 : Int) (a1_11 : Bool) (a1_12 : Bool) : Option Outs :=
 bif (a0_0 != a1_0) then
  some ⟨[.b false], []⟩
 else
  bindO (evalF E P0 k N.laws_eqGeo [.v [.i a0_1, .i a0_2], .v [.i a1_1, .i a1_2]]) fun o2 =>
  bif (!(o2.t 0).asB) then
   some ⟨[.b false], []⟩
  else
   bindO (evalF E P0 k N.laws_eqMemS [.v [.r a0_3], .v [.r a1_3]]) fun o4 =>
   bif (!(o4.t 0).asB) then
    some ⟨[.b false], []⟩
   else
    bif (a0_4 != a1_4) then
     some ⟨[.b false], []⟩
    else
     bif (a0_5 != a1_5) then
      some ⟨[.b false], []⟩
     else
      bif (a0_6 != a1_6) then
       some ⟨[.b false], []⟩
      else
       bif (a0_7 != a1_7) then
        some ⟨[.b false], []⟩
       else
        bif (a0_8 != a1_8) then
         some ⟨[.b false], []⟩
        else
         bindO (evalF E P0 k N.laws_eqEntS [.v [.r a0_9], .v [.r a1_9]]) fun o6 =>
         bif (!(o6.t 0).asB) then
          some ⟨[.b false], []⟩
         else
          bif (a0_10 != a1_10) then
           some ⟨[.b false], []⟩
          else
           bif (!(a0_11 == a1_11)) then
            some ⟨[.b false], []⟩
           else
            bif (!(a0_12 == a1_12)) then some ⟨[.b false], []⟩ else some ⟨[.b true], []⟩
theorem laws_eqArr_e (k : Nat) (a0_0 : Int) (a0_1 : Int) (a0_2 : Int) (a0_3 : List (List T)) (a0_4 : Int) (a0_5 : Int) (a0_6 : Int) (a0_7 : Int) (a0_8 : Int) (a0_9 : List (List T)) (a0_10 : Int) (a0_11 : Bool) (a0_12 : Bool) (a1_0 : Int) (a1_1 : Int) (a1_2 : Int) (a1_3 : List (List T)) (a1_4 : Int) (a1_5 : Int) (a1_6 : Int) (a1_7 : Int) (a1_8 : Int) (a1_9 : List (List T)) (a1_10 : Int) (a1_11 : Bool) (a1_12 : Bool) : evalF E P0 (k + 1) N.laws_eqArr [.v [.i a0_0, .i a0_1, .i a0_2, .r a0_3, .i a0_4, .i a0_5, .i a0_6, .i a0_7, .i a0_8, .r a0_9, .i a0_10, .b a0_11, .b a0_12], .v [.i a1_0, .i a1_1, .i a1_2, .r a1_3, .i a1_4, .i a1_5, .i a1_6, .i a1_7, .i a1_8, .r a1_9, .i a1_10, .b a1_11, .b a1_12]] = laws_eqArr_u k a0_0 a0_1 a0_2 a0_3 a0_4 a0_5 a0_6 a0_7 a0_8 a0_9 a0_10 a0_11 a0_12 a1_0 a1_1 a1_2 a1_3 a1_4 a1_5 a1_6 a1_7 a1_8 a1_9 a1_10 a1_11 a1_12 := by kernel_rfl
def laws_eqCmd_u (k : Nat) (a0_0 : Int) (a0_1 : Int) (a0_2 : Int) (a0_3 : Int) (a0_4 : List (List T)) (a1_0 : Int) (a1_1 : Int) (a1_2 : Int) (a1_3 : Int) (a1_4 : List (List T)) : Option Outs :=
 bif (a0_0 != a1_0) then
  some ⟨[.b false], []⟩
 else
  bif (a0_1 != a1_1) then
   some ⟨[.b false], []⟩
  else
   bif (a0_2 != a1_2) then
    some ⟨[.b false], []⟩
   else
    bif (a0_3 != a1_3) then
     some ⟨[.b false], []⟩
    else
     bindO (evalF E P0 k N.laws_eqIntS [.v [.r a0_4], .v [.r a1_4]]) fun o2 =>
     bif (!(o2.t 0).asB) then some ⟨[.b false], []⟩ else some ⟨[.b true], []⟩
theorem laws_eqCmd_e (k : Nat) (a0_0 : Int) (a0_1 : Int) (a0_2 : Int) (a0_3 : Int) (a0_4 : List (List T)) (a1_0 : Int) (a1_1 : Int) (a1_2 : Int) (a1_3 : Int) (a1_4 : List (List T)) : evalF E P0 (k + 1) N.laws_eqCmd [.v [.i a0_0, .i a0_1, .i a0_2, .i a0_3, .r a0_4], .v [.i a1_0, .i a1_1, .i a1_2, .i a1_3, .r a1_4]] = laws_eqCmd_u k a0_0 a0_1 a0_2 a0_3 a0_4 a1_0 a1_1 a1_2 a1_3 a1_4 := by kernel_rfl
end
end Go.Proofs.Ytjgmiilapnekfaa.Ev
