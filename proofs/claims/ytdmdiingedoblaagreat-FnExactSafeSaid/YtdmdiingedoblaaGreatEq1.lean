/- What functions answer under the evaluator, as Lean terms, part 1. No condition. -/
import Derived.Test.YtdmdiingedoblaaGreatTab
namespace Go.Proofs.YtdmdiingedoblaaGreat.Ev
open Go Go.Proofs
set_option linter.unusedVariables false
set_option maxRecDepth 100000
set_option maxHeartbeats 4000000
noncomputable section
/- spec.l6Words -/
def spec_l6Words_L1 (k : Nat) (a0_0 : Int) (a0_1 : Int) (a0_2 : Int) (a0_3 : List (List T)) (a0_4 : Int) (a0_5 : Int) (a0_6 : Int) (a0_7 : Int) (a0_8 : Int) (a0_9 : List (List T)) (a0_10 : Int) (a0_11 : Bool) (a0_12 : Bool) (a1 : Int) (G1 : (Int × Int × List (List T)) → Option Outs) : (Int × Int × List (List T)) → Option Outs := fun (v15, v16, w8) =>
 bif (decide (v16 < a0_1)) then
  bindO (evalF E P0 k N.spec_l6Word [.v [.i a0_0, .i a0_1, .i a0_2, .r a0_3, .i a0_4, .i a0_5, .i a0_6, .i a0_7, .i a0_8, .r a0_9, .i a0_10, .b a0_11, .b a0_12], .v [.i v16], .v [.i a1]]) fun o96 =>
  bif (!(o96.t 1).asB) then
   bif (decide (v15 ≥ 0)) then
    some ⟨[.r [], .b false], []⟩
   else
    chk (decide ((w8.length + ([[.i (o96.t 0).asI]] : List (List T)).length) * 8 ≤ 140737488355328)) <|
    G1 (v16, (IntKind.wrap .i64 (v16 + 1)), (w8 ++ [[.i (o96.t 0).asI]]))
  else
   chk (decide ((w8.length + ([[.i (o96.t 0).asI]] : List (List T)).length) * 8 ≤ 140737488355328)) <|
   G1 (v15, (IntKind.wrap .i64 (v16 + 1)), (w8 ++ [[.i (o96.t 0).asI]]))
 else
  bif (decide (v15 ≥ 0)) then
   bindO (evalF E P0 k N.spec_MissingWord [.v [.r w8], .v [.i v15]]) fun o98 =>
   chk (decide (0 ≤ v15) && decide (v15 < (w8.length : Int))) <|
   some ⟨[.r (put_ w8 v15.toNat 0 [.i (o98.t 0).asI]), .b true], []⟩
  else
   some ⟨[.r w8, .b true], []⟩
def spec_l6Words_k1 : List Nat := [1, 2, 4, 5, 6, 7, 8, 36, 37, 38, 39, 40, 41, 42, 43, 44]
def spec_l6Words_S1 (a0_0 : Int) (a0_1 : Int) (a0_2 : Int) (a0_3 : List (List T)) (a0_4 : Int) (a0_5 : Int) (a0_6 : Int) (a0_7 : Int) (a0_8 : Int) (a0_9 : List (List T)) (a0_10 : Int) (a0_11 : Bool) (a0_12 : Bool) (a1 : Int) : (Int × Int × List (List T)) → St := fun (v15, v16, w8) => ⟨ofSl [(1, .i .i64 a1), (2, .ptr (2, 0) 0), (4, .ref (4, 0)), (5, .b false), (6, .ref (6, 0)), (7, .i .i64 v15), (8, .i .i64 v16), (36, .skip), (37, .skip), (38, .skip), (39, .skip), (40, .skip), (41, .skip), (42, .skip), (43, .skip), (44, .skip)], ofMem [((2, 0), .var [.i .i64 a0_0, .i .i64 a0_1, .i .i64 a0_2, .sl 115 a0_3, .i .i64 a0_4, .i .i64 a0_5, .i .i64 a0_6, .i .i64 a0_7, .i .i64 a0_8, .sl 128 a0_9, .i .i64 a0_10, .b a0_11, .b a0_12]), ((4, 0), .row 3 true []), ((6, 0), .row 3 true w8)]⟩
def spec_l6Words_l1 (k : Nat) (a0_0 : Int) (a0_1 : Int) (a0_2 : Int) (a0_3 : List (List T)) (a0_4 : Int) (a0_5 : Int) (a0_6 : Int) (a0_7 : Int) (a0_8 : Int) (a0_9 : List (List T)) (a0_10 : Int) (a0_11 : Bool) (a0_12 : Bool) (a1 : Int) (G1 : (Int × Int × List (List T)) → Option Outs) : (Int × Int × List (List T)) → Option Outs :=
  spec_l6Words_L1 k a0_0 a0_1 a0_2 a0_3 a0_4 a0_5 a0_6 a0_7 a0_8 a0_9 a0_10 a0_11 a0_12 a1 G1
def spec_l6Words_U (k : Nat) (a0_0 : Int) (a0_1 : Int) (a0_2 : Int) (a0_3 : List (List T)) (a0_4 : Int) (a0_5 : Int) (a0_6 : Int) (a0_7 : Int) (a0_8 : Int) (a0_9 : List (List T)) (a0_10 : Int) (a0_11 : Bool) (a0_12 : Bool) (a1 : Int) (R1 : (Int × Int × List (List T)) → Option Outs) : Option Outs :=
 R1 ((-1), 0, [])
def spec_l6Words_u (k : Nat) (a0_0 : Int) (a0_1 : Int) (a0_2 : Int) (a0_3 : List (List T)) (a0_4 : Int) (a0_5 : Int) (a0_6 : Int) (a0_7 : Int) (a0_8 : Int) (a0_9 : List (List T)) (a0_10 : Int) (a0_11 : Bool) (a0_12 : Bool) (a1 : Int) : Option Outs :=
  spec_l6Words_U k a0_0 a0_1 a0_2 a0_3 a0_4 a0_5 a0_6 a0_7 a0_8 a0_9 a0_10 a0_11 a0_12 a1 (fun v => fixN (spec_l6Words_l1 k a0_0 a0_1 a0_2 a0_3 a0_4 a0_5 a0_6 a0_7 a0_8 a0_9 a0_10 a0_11 a0_12 a1) k v)
def spec_l6Words_it1 (k : Nat) (a0_0 : Int) (a0_1 : Int) (a0_2 : Int) (a0_3 : List (List T)) (a0_4 : Int) (a0_5 : Int) (a0_6 : Int) (a0_7 : Int) (a0_8 : Int) (a0_9 : List (List T)) (a0_10 : Int) (a0_11 : Bool) (a0_12 : Bool) (a1 : Int) (js : List Nat) (j : Nat) (s : St) : Option Outs := iter (LB E (evalF E P0 k) k [] N.spec_l6Words [.sr, .sr, .sr, .sl, .sr, .bl]) [] spec_l6Words_k1 (LK E (evalF E P0 k) k [] N.spec_l6Words [.v [.i a0_0, .i a0_1, .i a0_2, .r a0_3, .i a0_4, .i a0_5, .i a0_6, .i a0_7, .i a0_8, .r a0_9, .i a0_10, .b a0_11, .b a0_12], .v [.i a1]] [.sr, .sr, .sr, .sl, .sr, .bl] js) j s
theorem spec_l6Words_e (k : Nat) (a0_0 : Int) (a0_1 : Int) (a0_2 : Int) (a0_3 : List (List T)) (a0_4 : Int) (a0_5 : Int) (a0_6 : Int) (a0_7 : Int) (a0_8 : Int) (a0_9 : List (List T)) (a0_10 : Int) (a0_11 : Bool) (a0_12 : Bool) (a1 : Int) : evalF E P0 (k + 1) N.spec_l6Words [.v [.i a0_0, .i a0_1, .i a0_2, .r a0_3, .i a0_4, .i a0_5, .i a0_6, .i a0_7, .i a0_8, .r a0_9, .i a0_10, .b a0_11, .b a0_12], .v [.i a1]] = spec_l6Words_u k a0_0 a0_1 a0_2 a0_3 a0_4 a0_5 a0_6 a0_7 a0_8 a0_9 a0_10 a0_11 a0_12 a1 := by
  have e0 : evalF E P0 (k + 1) N.spec_l6Words [.v [.i a0_0, .i a0_1, .i a0_2, .r a0_3, .i a0_4, .i a0_5, .i a0_6, .i a0_7, .i a0_8, .r a0_9, .i a0_10, .b a0_11, .b a0_12], .v [.i a1]] = spec_l6Words_U k a0_0 a0_1 a0_2 a0_3 a0_4 a0_5 a0_6 a0_7 a0_8 a0_9 a0_10 a0_11 a0_12 a1 (fun v => spec_l6Words_it1 k a0_0 a0_1 a0_2 a0_3 a0_4 a0_5 a0_6 a0_7 a0_8 a0_9 a0_10 a0_11 a0_12 a1 [] k (spec_l6Words_S1 a0_0 a0_1 a0_2 a0_3 a0_4 a0_5 a0_6 a0_7 a0_8 a0_9 a0_10 a0_11 a0_12 a1 v)) := by kernel_rfl
  have e1 : ∀ (j1 : Nat) (v : Int × Int × List (List T)), spec_l6Words_it1 k a0_0 a0_1 a0_2 a0_3 a0_4 a0_5 a0_6 a0_7 a0_8 a0_9 a0_10 a0_11 a0_12 a1 [] (j1 + 1) (spec_l6Words_S1 a0_0 a0_1 a0_2 a0_3 a0_4 a0_5 a0_6 a0_7 a0_8 a0_9 a0_10 a0_11 a0_12 a1 v) = spec_l6Words_L1 k a0_0 a0_1 a0_2 a0_3 a0_4 a0_5 a0_6 a0_7 a0_8 a0_9 a0_10 a0_11 a0_12 a1 (fun v => spec_l6Words_it1 k a0_0 a0_1 a0_2 a0_3 a0_4 a0_5 a0_6 a0_7 a0_8 a0_9 a0_10 a0_11 a0_12 a1 [] j1 (spec_l6Words_S1 a0_0 a0_1 a0_2 a0_3 a0_4 a0_5 a0_6 a0_7 a0_8 a0_9 a0_10 a0_11 a0_12 a1 v)) v := by
    intro j1 v; kernel_rfl
  have i1 : ∀ (j1 : Nat) (v : Int × Int × List (List T)), spec_l6Words_it1 k a0_0 a0_1 a0_2 a0_3 a0_4 a0_5 a0_6 a0_7 a0_8 a0_9 a0_10 a0_11 a0_12 a1 [] j1 (spec_l6Words_S1 a0_0 a0_1 a0_2 a0_3 a0_4 a0_5 a0_6 a0_7 a0_8 a0_9 a0_10 a0_11 a0_12 a1 v) = fixN (spec_l6Words_l1 k a0_0 a0_1 a0_2 a0_3 a0_4 a0_5 a0_6 a0_7 a0_8 a0_9 a0_10 a0_11 a0_12 a1) j1 v := by
    intro j1 v
    refine iter_fix (spec_l6Words_S1 a0_0 a0_1 a0_2 a0_3 a0_4 a0_5 a0_6 a0_7 a0_8 a0_9 a0_10 a0_11 a0_12 a1) (spec_l6Words_l1 k a0_0 a0_1 a0_2 a0_3 a0_4 a0_5 a0_6 a0_7 a0_8 a0_9 a0_10 a0_11 a0_12 a1) (fun j1 v => (e1 j1 v).trans ?_) j1 v
    unfold spec_l6Words_l1
    rfl
  rw [e0]; unfold spec_l6Words_u
  simp only [i1]
/- spec.l3Stripe -/
def spec_l3Stripe_u (k : Nat) (a0_0 : Int) (a0_1 : Int) (a1 : Int) : Option Outs :=
 bindO (evalF E P0 k N.spec_GeoOk [.v [.i a0_0, .i a0_1]]) fun o3 =>
 bif (o3.t 0).asB then
  bindO (evalF E P0 k N.spec_l1In [.v [.i a1], .v [.i 0], .v [.i (IntKind.wrap .i64 (a0_1 - 1))]]) fun o4 =>
  some ⟨[.b (o4.t 0).asB], []⟩
 else
  some ⟨[.b false], []⟩
theorem spec_l3Stripe_e (k : Nat) (a0_0 : Int) (a0_1 : Int) (a1 : Int) : evalF E P0 (k + 1) N.spec_l3Stripe [.v [.i a0_0, .i a0_1], .v [.i a1]] = spec_l3Stripe_u k a0_0 a0_1 a1 := by kernel_rfl
/- spec.ParityOf -/
def spec_ParityOf_u (k : Nat) (a0_0 : Int) (a0_1 : Int) (a1 : Int) : Option Outs :=
 bindO (evalF E P0 k N.spec_l3Stripe [.v [.i a0_0, .i a0_1], .v [.i a1]]) fun o2 =>
 bif (!(o2.t 0).asB) then
  some ⟨[.i (-1)], []⟩
 else
  chk (!decide (a0_0 = 0)) <|
  some ⟨[.i (IntKind.wrap .i64 ((IntKind.wrap .i64 (a0_0 - 1)) - (Int.tmod a1 a0_0)))], []⟩
theorem spec_ParityOf_e (k : Nat) (a0_0 : Int) (a0_1 : Int) (a1 : Int) : evalF E P0 (k + 1) N.spec_ParityOf [.v [.i a0_0, .i a0_1], .v [.i a1]] = spec_ParityOf_u k a0_0 a0_1 a1 := by kernel_rfl
/- spec.DiskOf -/
def spec_DiskOf_u (k : Nat) (a0_0 : Int) (a0_1 : Int) (a1 : Int) (a2 : Int) : Option Outs :=
 bindO (evalF E P0 k N.spec_l3Stripe [.v [.i a0_0, .i a0_1], .v [.i a1]]) fun o3 =>
 bif (!(o3.t 0).asB) then
  some ⟨[.i (-1)], []⟩
 else
  bindO (evalF E P0 k N.spec_l1In [.v [.i a2], .v [.i 0], .v [.i (IntKind.wrap .i64 (a0_0 - 2))]]) fun o6 =>
  bif (!(o6.t 0).asB) then
   some ⟨[.i (-1)], []⟩
  else
   bindO (evalF E P0 k N.spec_ParityOf [.v [.i a0_0, .i a0_1], .v [.i a1]]) fun o8 =>
   chk (!decide (a0_0 = 0)) <|
   some ⟨[.i (Int.tmod (IntKind.wrap .i64 ((IntKind.wrap .i64 ((o8.t 0).asI + 1)) + a2)) a0_0)], []⟩
theorem spec_DiskOf_e (k : Nat) (a0_0 : Int) (a0_1 : Int) (a1 : Int) (a2 : Int) : evalF E P0 (k + 1) N.spec_DiskOf [.v [.i a0_0, .i a0_1], .v [.i a1], .v [.i a2]] = spec_DiskOf_u k a0_0 a0_1 a1 a2 := by kernel_rfl
/- spec.l6Data -/
def spec_l6Data_J1 (k : Nat) (a0_1 : Int) (a0_2 : Int) (a1 : Int) (o2 : Outs) (v8 : Int) (w8 : List (List T)) (G1 : (Int × List (List T)) → Option Outs) (c12 : Bool) : Option Outs :=
 bif c12 then
  bindO (evalF E P0 k N.spec_DiskOf [.v [.i a0_1, .i a0_2], .v [.i a1], .v [.i v8]]) fun o50 =>
  chk (decide (0 ≤ (o50.t 0).asI) && decide ((o50.t 0).asI < ((o2.t 0).asR.length : Int))) <|
  chk (decide ((w8.length + ([[.i (at_ (o2.t 0).asR (o50.t 0).asI.toNat 0).asI]] : List (List T)).length) * 8 ≤ 140737488355328)) <|
  G1 ((IntKind.wrap .i64 (v8 + 1)), (w8 ++ [[.i (at_ (o2.t 0).asR (o50.t 0).asI.toNat 0).asI]]))
 else
  some ⟨[.r w8, .b (o2.t 1).asB], []⟩
def spec_l6Data_L1 (k : Nat) (a0_0 : Int) (a0_1 : Int) (a0_2 : Int) (a0_3 : List (List T)) (a0_4 : Int) (a0_5 : Int) (a0_6 : Int) (a0_7 : Int) (a0_8 : Int) (a0_9 : List (List T)) (a0_10 : Int) (a0_11 : Bool) (a0_12 : Bool) (a1 : Int) (o2 : Outs) (G1 : (Int × List (List T)) → Option Outs) : (Int × List (List T)) → Option Outs := fun (v8, w8) =>
 bif (decide (v8 < (IntKind.wrap .i64 (a0_1 - 1)))) then
  spec_l6Data_J1 k a0_1 a0_2 a1 o2 v8 w8 G1 ((o2.t 1).asB)
 else
  spec_l6Data_J1 k a0_1 a0_2 a1 o2 v8 w8 G1 false
def spec_l6Data_k1 : List Nat := [1, 2, 4, 5, 6, 7, 8, 9, 39, 40]
def spec_l6Data_S1 (a0_0 : Int) (a0_1 : Int) (a0_2 : Int) (a0_3 : List (List T)) (a0_4 : Int) (a0_5 : Int) (a0_6 : Int) (a0_7 : Int) (a0_8 : Int) (a0_9 : List (List T)) (a0_10 : Int) (a0_11 : Bool) (a0_12 : Bool) (a1 : Int) (o2 : Outs) : (Int × List (List T)) → St := fun (v8, w8) => ⟨ofSl [(1, .i .i64 a1), (2, .ptr (2, 0) 0), (4, .ref (4, 0)), (5, .b false), (6, .ref (6, 0)), (7, .b (o2.t 1).asB), (8, .ref (8, 0)), (9, .i .i64 v8), (39, .skip), (40, .skip)], ofMem [((2, 0), .var [.i .i64 a0_0, .i .i64 a0_1, .i .i64 a0_2, .sl 115 a0_3, .i .i64 a0_4, .i .i64 a0_5, .i .i64 a0_6, .i .i64 a0_7, .i .i64 a0_8, .sl 128 a0_9, .i .i64 a0_10, .b a0_11, .b a0_12]), ((4, 0), .row 3 true []), ((6, 0), .row 3 true (o2.t 0).asR), ((8, 0), .row 3 true w8)]⟩
def spec_l6Data_l1 (k : Nat) (a0_0 : Int) (a0_1 : Int) (a0_2 : Int) (a0_3 : List (List T)) (a0_4 : Int) (a0_5 : Int) (a0_6 : Int) (a0_7 : Int) (a0_8 : Int) (a0_9 : List (List T)) (a0_10 : Int) (a0_11 : Bool) (a0_12 : Bool) (a1 : Int) (o2 : Outs) (G1 : (Int × List (List T)) → Option Outs) : (Int × List (List T)) → Option Outs :=
  spec_l6Data_L1 k a0_0 a0_1 a0_2 a0_3 a0_4 a0_5 a0_6 a0_7 a0_8 a0_9 a0_10 a0_11 a0_12 a1 o2 G1
def spec_l6Data_U (k : Nat) (a0_0 : Int) (a0_1 : Int) (a0_2 : Int) (a0_3 : List (List T)) (a0_4 : Int) (a0_5 : Int) (a0_6 : Int) (a0_7 : Int) (a0_8 : Int) (a0_9 : List (List T)) (a0_10 : Int) (a0_11 : Bool) (a0_12 : Bool) (a1 : Int) (R1 : Outs → (Int × List (List T)) → Option Outs) : Option Outs :=
 bindO (evalF E P0 k N.spec_l6Words [.v [.i a0_0, .i a0_1, .i a0_2, .r a0_3, .i a0_4, .i a0_5, .i a0_6, .i a0_7, .i a0_8, .r a0_9, .i a0_10, .b a0_11, .b a0_12], .v [.i a1]]) fun o2 =>
 R1 o2 (0, [])
def spec_l6Data_u (k : Nat) (a0_0 : Int) (a0_1 : Int) (a0_2 : Int) (a0_3 : List (List T)) (a0_4 : Int) (a0_5 : Int) (a0_6 : Int) (a0_7 : Int) (a0_8 : Int) (a0_9 : List (List T)) (a0_10 : Int) (a0_11 : Bool) (a0_12 : Bool) (a1 : Int) : Option Outs :=
  spec_l6Data_U k a0_0 a0_1 a0_2 a0_3 a0_4 a0_5 a0_6 a0_7 a0_8 a0_9 a0_10 a0_11 a0_12 a1 (fun y0 v => fixN (spec_l6Data_l1 k a0_0 a0_1 a0_2 a0_3 a0_4 a0_5 a0_6 a0_7 a0_8 a0_9 a0_10 a0_11 a0_12 a1 y0) k v)
def spec_l6Data_it1 (k : Nat) (a0_0 : Int) (a0_1 : Int) (a0_2 : Int) (a0_3 : List (List T)) (a0_4 : Int) (a0_5 : Int) (a0_6 : Int) (a0_7 : Int) (a0_8 : Int) (a0_9 : List (List T)) (a0_10 : Int) (a0_11 : Bool) (a0_12 : Bool) (a1 : Int) (js : List Nat) (j : Nat) (s : St) : Option Outs := iter (LB E (evalF E P0 k) k [] N.spec_l6Data [.sr, .sr, .sr, .sl, .sr, .bl]) [] spec_l6Data_k1 (LK E (evalF E P0 k) k [] N.spec_l6Data [.v [.i a0_0, .i a0_1, .i a0_2, .r a0_3, .i a0_4, .i a0_5, .i a0_6, .i a0_7, .i a0_8, .r a0_9, .i a0_10, .b a0_11, .b a0_12], .v [.i a1]] [.sr, .sr, .sr, .sl, .sr, .bl] js) j s
theorem spec_l6Data_e (k : Nat) (a0_0 : Int) (a0_1 : Int) (a0_2 : Int) (a0_3 : List (List T)) (a0_4 : Int) (a0_5 : Int) (a0_6 : Int) (a0_7 : Int) (a0_8 : Int) (a0_9 : List (List T)) (a0_10 : Int) (a0_11 : Bool) (a0_12 : Bool) (a1 : Int) : evalF E P0 (k + 1) N.spec_l6Data [.v [.i a0_0, .i a0_1, .i a0_2, .r a0_3, .i a0_4, .i a0_5, .i a0_6, .i a0_7, .i a0_8, .r a0_9, .i a0_10, .b a0_11, .b a0_12], .v [.i a1]] = spec_l6Data_u k a0_0 a0_1 a0_2 a0_3 a0_4 a0_5 a0_6 a0_7 a0_8 a0_9 a0_10 a0_11 a0_12 a1 := by
  have e0 : evalF E P0 (k + 1) N.spec_l6Data [.v [.i a0_0, .i a0_1, .i a0_2, .r a0_3, .i a0_4, .i a0_5, .i a0_6, .i a0_7, .i a0_8, .r a0_9, .i a0_10, .b a0_11, .b a0_12], .v [.i a1]] = spec_l6Data_U k a0_0 a0_1 a0_2 a0_3 a0_4 a0_5 a0_6 a0_7 a0_8 a0_9 a0_10 a0_11 a0_12 a1 (fun y0 v => spec_l6Data_it1 k a0_0 a0_1 a0_2 a0_3 a0_4 a0_5 a0_6 a0_7 a0_8 a0_9 a0_10 a0_11 a0_12 a1 [] k (spec_l6Data_S1 a0_0 a0_1 a0_2 a0_3 a0_4 a0_5 a0_6 a0_7 a0_8 a0_9 a0_10 a0_11 a0_12 a1 y0 v)) := by kernel_rfl
  have e1 : ∀ (o2 : Outs) (j1 : Nat) (v : Int × List (List T)), spec_l6Data_it1 k a0_0 a0_1 a0_2 a0_3 a0_4 a0_5 a0_6 a0_7 a0_8 a0_9 a0_10 a0_11 a0_12 a1 [] (j1 + 1) (spec_l6Data_S1 a0_0 a0_1 a0_2 a0_3 a0_4 a0_5 a0_6 a0_7 a0_8 a0_9 a0_10 a0_11 a0_12 a1 o2 v) = spec_l6Data_L1 k a0_0 a0_1 a0_2 a0_3 a0_4 a0_5 a0_6 a0_7 a0_8 a0_9 a0_10 a0_11 a0_12 a1 o2 (fun v => spec_l6Data_it1 k a0_0 a0_1 a0_2 a0_3 a0_4 a0_5 a0_6 a0_7 a0_8 a0_9 a0_10 a0_11 a0_12 a1 [] j1 (spec_l6Data_S1 a0_0 a0_1 a0_2 a0_3 a0_4 a0_5 a0_6 a0_7 a0_8 a0_9 a0_10 a0_11 a0_12 a1 o2 v)) v := by
    intro o2 j1 v; kernel_rfl
  have i1 : ∀ (o2 : Outs) (j1 : Nat) (v : Int × List (List T)), spec_l6Data_it1 k a0_0 a0_1 a0_2 a0_3 a0_4 a0_5 a0_6 a0_7 a0_8 a0_9 a0_10 a0_11 a0_12 a1 [] j1 (spec_l6Data_S1 a0_0 a0_1 a0_2 a0_3 a0_4 a0_5 a0_6 a0_7 a0_8 a0_9 a0_10 a0_11 a0_12 a1 o2 v) = fixN (spec_l6Data_l1 k a0_0 a0_1 a0_2 a0_3 a0_4 a0_5 a0_6 a0_7 a0_8 a0_9 a0_10 a0_11 a0_12 a1 o2) j1 v := by
    intro o2 j1 v
    refine iter_fix (spec_l6Data_S1 a0_0 a0_1 a0_2 a0_3 a0_4 a0_5 a0_6 a0_7 a0_8 a0_9 a0_10 a0_11 a0_12 a1 o2) (spec_l6Data_l1 k a0_0 a0_1 a0_2 a0_3 a0_4 a0_5 a0_6 a0_7 a0_8 a0_9 a0_10 a0_11 a0_12 a1 o2) (fun j1 v => (e1 o2 j1 v).trans ?_) j1 v
    unfold spec_l6Data_l1
    rfl
  rw [e0]; unfold spec_l6Data_u
  simp only [i1]
/- spec.l8Stripe -/
def spec_l8Stripe_u (k : Nat) (a0_0 : Int) (a0_1 : Int) (a0_2 : Int) (a0_3 : List (List T)) (a0_4 : Int) (a0_5 : Int) (a0_6 : Int) (a0_7 : Int) (a0_8 : Int) (a0_9 : List (List T)) (a0_10 : Int) (a0_11 : Bool) (a0_12 : Bool) (a1 : Int) : Option Outs :=
 bindO (evalF E P0 k N.spec_l8At [.v [.i a0_0, .i a0_1, .i a0_2, .r a0_3, .i a0_4, .i a0_5, .i a0_6, .i a0_7, .i a0_8, .r a0_9, .i a0_10, .b a0_11, .b a0_12], .v [.i a1]]) fun o2 =>
 bif (decide ((o2.t 0).asI ≥ 0)) then
  chk (decide (0 ≤ (o2.t 0).asI) && decide ((o2.t 0).asI < (a0_9.length : Int))) <|
  chk (decide ((([] : List (List T)).length + (at_ a0_9 (o2.t 0).asI.toNat 1).asR.length) * 8 ≤ 140737488355328)) <|
  some ⟨[.r (([] : List (List T)) ++ (at_ a0_9 (o2.t 0).asI.toNat 1).asR), .b true], []⟩
 else
  bif a0_12 then
   some ⟨[.r [], .b false], []⟩
  else
   bindO (evalF E P0 k N.spec_l6Data [.v [.i a0_0, .i a0_1, .i a0_2, .r a0_3, .i a0_4, .i a0_5, .i a0_6, .i a0_7, .i a0_8, .r a0_9, .i a0_10, .b a0_11, .b a0_12], .v [.i a1]]) fun o4 =>
   some ⟨[.r (o4.t 0).asR, .b (o4.t 1).asB], []⟩
theorem spec_l8Stripe_e (k : Nat) (a0_0 : Int) (a0_1 : Int) (a0_2 : Int) (a0_3 : List (List T)) (a0_4 : Int) (a0_5 : Int) (a0_6 : Int) (a0_7 : Int) (a0_8 : Int) (a0_9 : List (List T)) (a0_10 : Int) (a0_11 : Bool) (a0_12 : Bool) (a1 : Int) : evalF E P0 (k + 1) N.spec_l8Stripe [.v [.i a0_0, .i a0_1, .i a0_2, .r a0_3, .i a0_4, .i a0_5, .i a0_6, .i a0_7, .i a0_8, .r a0_9, .i a0_10, .b a0_11, .b a0_12], .v [.i a1]] = spec_l8Stripe_u k a0_0 a0_1 a0_2 a0_3 a0_4 a0_5 a0_6 a0_7 a0_8 a0_9 a0_10 a0_11 a0_12 a1 := by kernel_rfl
/- spec.IndexOf -/
def spec_IndexOf_u (k : Nat) (a0_0 : Int) (a0_1 : Int) (a1 : Int) : Option Outs :=
 bindO (evalF E P0 k N.spec_Blocks [.v [.i a0_0, .i a0_1]]) fun o3 =>
 bindO (evalF E P0 k N.spec_l1In [.v [.i a1], .v [.i 0], .v [.i (IntKind.wrap .i64 ((o3.t 0).asI - 1))]]) fun o4 =>
 bif (!(o4.t 0).asB) then
  some ⟨[.i (-1)], []⟩
 else
  chk (!decide ((IntKind.wrap .i64 (a0_0 - 1)) = 0)) <|
  some ⟨[.i (Int.tmod a1 (IntKind.wrap .i64 (a0_0 - 1)))], []⟩
theorem spec_IndexOf_e (k : Nat) (a0_0 : Int) (a0_1 : Int) (a1 : Int) : evalF E P0 (k + 1) N.spec_IndexOf [.v [.i a0_0, .i a0_1], .v [.i a1]] = spec_IndexOf_u k a0_0 a0_1 a1 := by kernel_rfl
/- spec.GetBlock -/
def spec_GetBlock_u (k : Nat) (a0_0 : Int) (a0_1 : Int) (a0_2 : Int) (a0_3 : List (List T)) (a0_4 : Int) (a0_5 : Int) (a0_6 : Int) (a0_7 : Int) (a0_8 : Int) (a0_9 : List (List T)) (a0_10 : Int) (a0_11 : Bool) (a0_12 : Bool) (a1 : Int) : Option Outs :=
 bindO (evalF E P0 k N.spec_l8Code [.v [.i a0_0, .i a0_1, .i a0_2, .r a0_3, .i a0_4, .i a0_5, .i a0_6, .i a0_7, .i a0_8, .r a0_9, .i a0_10, .b a0_11, .b a0_12], .v [.i a1]]) fun o2 =>
 bif ((o2.t 0).asI != 0) then
  some ⟨[.i 0, .i (o2.t 0).asI], []⟩
 else
  bindO (evalF E P0 k N.spec_StripeOf [.v [.i a0_1, .i a0_2], .v [.i a1]]) fun o5 =>
  bindO (evalF E P0 k N.spec_l8Stripe [.v [.i a0_0, .i a0_1, .i a0_2, .r a0_3, .i a0_4, .i a0_5, .i a0_6, .i a0_7, .i a0_8, .r a0_9, .i a0_10, .b a0_11, .b a0_12], .v [.i (o5.t 0).asI]]) fun o6 =>
  bif (!(o6.t 1).asB) then
   some ⟨[.i 0, .i 5], []⟩
  else
   bindO (evalF E P0 k N.spec_IndexOf [.v [.i a0_1, .i a0_2], .v [.i a1]]) fun o8 =>
   chk (decide (0 ≤ (o8.t 0).asI) && decide ((o8.t 0).asI < ((o6.t 0).asR.length : Int))) <|
   some ⟨[.i (at_ (o6.t 0).asR (o8.t 0).asI.toNat 0).asI, .i 0], []⟩
theorem spec_GetBlock_e (k : Nat) (a0_0 : Int) (a0_1 : Int) (a0_2 : Int) (a0_3 : List (List T)) (a0_4 : Int) (a0_5 : Int) (a0_6 : Int) (a0_7 : Int) (a0_8 : Int) (a0_9 : List (List T)) (a0_10 : Int) (a0_11 : Bool) (a0_12 : Bool) (a1 : Int) : evalF E P0 (k + 1) N.spec_GetBlock [.v [.i a0_0, .i a0_1, .i a0_2, .r a0_3, .i a0_4, .i a0_5, .i a0_6, .i a0_7, .i a0_8, .r a0_9, .i a0_10, .b a0_11, .b a0_12], .v [.i a1]] = spec_GetBlock_u k a0_0 a0_1 a0_2 a0_3 a0_4 a0_5 a0_6 a0_7 a0_8 a0_9 a0_10 a0_11 a0_12 a1 := by kernel_rfl
/- spec.Contents -/
def spec_Contents_L1 (k : Nat) (a0_0 : Int) (a0_1 : Int) (a0_2 : Int) (a0_3 : List (List T)) (a0_4 : Int) (a0_5 : Int) (a0_6 : Int) (a0_7 : Int) (a0_8 : Int) (a0_9 : List (List T)) (a0_10 : Int) (a0_11 : Bool) (a0_12 : Bool) (G1 : (Int × List (List T)) → Option Outs) : (Int × List (List T)) → Option Outs := fun (v8, w8) =>
 bindO (evalF E P0 k N.spec_Blocks [.v [.i a0_1, .i a0_2]]) fun o112 =>
 bif (decide (v8 < (o112.t 0).asI)) then
  bindO (evalF E P0 k N.spec_GetBlock [.v [.i a0_0, .i a0_1, .i a0_2, .r a0_3, .i a0_4, .i a0_5, .i a0_6, .i a0_7, .i a0_8, .r a0_9, .i a0_10, .b a0_11, .b a0_12], .v [.i v8]]) fun o120 =>
  bif ((o120.t 1).asI != 0) then
   some ⟨[.r []], []⟩
  else
   chk (decide ((w8.length + ([[.i (o120.t 0).asI]] : List (List T)).length) * 8 ≤ 140737488355328)) <|
   G1 ((IntKind.wrap .i64 (v8 + 1)), (w8 ++ [[.i (o120.t 0).asI]]))
 else
  some ⟨[.r w8], []⟩
def spec_Contents_k1 : List Nat := [1, 2, 3, 4, 28]
def spec_Contents_S1 (a0_0 : Int) (a0_1 : Int) (a0_2 : Int) (a0_3 : List (List T)) (a0_4 : Int) (a0_5 : Int) (a0_6 : Int) (a0_7 : Int) (a0_8 : Int) (a0_9 : List (List T)) (a0_10 : Int) (a0_11 : Bool) (a0_12 : Bool) : (Int × List (List T)) → St := fun (v8, w8) => ⟨ofSl [(1, .ptr (1, 0) 0), (2, .ref (2, 0)), (3, .ref (3, 0)), (4, .i .i64 v8), (28, .skip)], ofMem [((1, 0), .var [.i .i64 a0_0, .i .i64 a0_1, .i .i64 a0_2, .sl 115 a0_3, .i .i64 a0_4, .i .i64 a0_5, .i .i64 a0_6, .i .i64 a0_7, .i .i64 a0_8, .sl 128 a0_9, .i .i64 a0_10, .b a0_11, .b a0_12]), ((2, 0), .row 3 true []), ((3, 0), .row 3 true w8)]⟩
def spec_Contents_l1 (k : Nat) (a0_0 : Int) (a0_1 : Int) (a0_2 : Int) (a0_3 : List (List T)) (a0_4 : Int) (a0_5 : Int) (a0_6 : Int) (a0_7 : Int) (a0_8 : Int) (a0_9 : List (List T)) (a0_10 : Int) (a0_11 : Bool) (a0_12 : Bool) (G1 : (Int × List (List T)) → Option Outs) : (Int × List (List T)) → Option Outs :=
  spec_Contents_L1 k a0_0 a0_1 a0_2 a0_3 a0_4 a0_5 a0_6 a0_7 a0_8 a0_9 a0_10 a0_11 a0_12 G1
def spec_Contents_U (k : Nat) (a0_0 : Int) (a0_1 : Int) (a0_2 : Int) (a0_3 : List (List T)) (a0_4 : Int) (a0_5 : Int) (a0_6 : Int) (a0_7 : Int) (a0_8 : Int) (a0_9 : List (List T)) (a0_10 : Int) (a0_11 : Bool) (a0_12 : Bool) (R1 : (Int × List (List T)) → Option Outs) : Option Outs :=
 R1 (0, [])
def spec_Contents_u (k : Nat) (a0_0 : Int) (a0_1 : Int) (a0_2 : Int) (a0_3 : List (List T)) (a0_4 : Int) (a0_5 : Int) (a0_6 : Int) (a0_7 : Int) (a0_8 : Int) (a0_9 : List (List T)) (a0_10 : Int) (a0_11 : Bool) (a0_12 : Bool) : Option Outs :=
  spec_Contents_U k a0_0 a0_1 a0_2 a0_3 a0_4 a0_5 a0_6 a0_7 a0_8 a0_9 a0_10 a0_11 a0_12 (fun v => fixN (spec_Contents_l1 k a0_0 a0_1 a0_2 a0_3 a0_4 a0_5 a0_6 a0_7 a0_8 a0_9 a0_10 a0_11 a0_12) k v)
def spec_Contents_it1 (k : Nat) (a0_0 : Int) (a0_1 : Int) (a0_2 : Int) (a0_3 : List (List T)) (a0_4 : Int) (a0_5 : Int) (a0_6 : Int) (a0_7 : Int) (a0_8 : Int) (a0_9 : List (List T)) (a0_10 : Int) (a0_11 : Bool) (a0_12 : Bool) (js : List Nat) (j : Nat) (s : St) : Option Outs := iter (LB E (evalF E P0 k) k [] N.spec_Contents [.sr, .sr, .sl, .sr, .bl]) [] spec_Contents_k1 (LK E (evalF E P0 k) k [] N.spec_Contents [.v [.i a0_0, .i a0_1, .i a0_2, .r a0_3, .i a0_4, .i a0_5, .i a0_6, .i a0_7, .i a0_8, .r a0_9, .i a0_10, .b a0_11, .b a0_12]] [.sr, .sr, .sl, .sr, .bl] js) j s
theorem spec_Contents_e (k : Nat) (a0_0 : Int) (a0_1 : Int) (a0_2 : Int) (a0_3 : List (List T)) (a0_4 : Int) (a0_5 : Int) (a0_6 : Int) (a0_7 : Int) (a0_8 : Int) (a0_9 : List (List T)) (a0_10 : Int) (a0_11 : Bool) (a0_12 : Bool) : evalF E P0 (k + 1) N.spec_Contents [.v [.i a0_0, .i a0_1, .i a0_2, .r a0_3, .i a0_4, .i a0_5, .i a0_6, .i a0_7, .i a0_8, .r a0_9, .i a0_10, .b a0_11, .b a0_12]] = spec_Contents_u k a0_0 a0_1 a0_2 a0_3 a0_4 a0_5 a0_6 a0_7 a0_8 a0_9 a0_10 a0_11 a0_12 := by
  have e0 : evalF E P0 (k + 1) N.spec_Contents [.v [.i a0_0, .i a0_1, .i a0_2, .r a0_3, .i a0_4, .i a0_5, .i a0_6, .i a0_7, .i a0_8, .r a0_9, .i a0_10, .b a0_11, .b a0_12]] = spec_Contents_U k a0_0 a0_1 a0_2 a0_3 a0_4 a0_5 a0_6 a0_7 a0_8 a0_9 a0_10 a0_11 a0_12 (fun v => spec_Contents_it1 k a0_0 a0_1 a0_2 a0_3 a0_4 a0_5 a0_6 a0_7 a0_8 a0_9 a0_10 a0_11 a0_12 [] k (spec_Contents_S1 a0_0 a0_1 a0_2 a0_3 a0_4 a0_5 a0_6 a0_7 a0_8 a0_9 a0_10 a0_11 a0_12 v)) := by kernel_rfl
  have e1 : ∀ (j1 : Nat) (v : Int × List (List T)), spec_Contents_it1 k a0_0 a0_1 a0_2 a0_3 a0_4 a0_5 a0_6 a0_7 a0_8 a0_9 a0_10 a0_11 a0_12 [] (j1 + 1) (spec_Contents_S1 a0_0 a0_1 a0_2 a0_3 a0_4 a0_5 a0_6 a0_7 a0_8 a0_9 a0_10 a0_11 a0_12 v) = spec_Contents_L1 k a0_0 a0_1 a0_2 a0_3 a0_4 a0_5 a0_6 a0_7 a0_8 a0_9 a0_10 a0_11 a0_12 (fun v => spec_Contents_it1 k a0_0 a0_1 a0_2 a0_3 a0_4 a0_5 a0_6 a0_7 a0_8 a0_9 a0_10 a0_11 a0_12 [] j1 (spec_Contents_S1 a0_0 a0_1 a0_2 a0_3 a0_4 a0_5 a0_6 a0_7 a0_8 a0_9 a0_10 a0_11 a0_12 v)) v := by
    intro j1 v; kernel_rfl
  have i1 : ∀ (j1 : Nat) (v : Int × List (List T)), spec_Contents_it1 k a0_0 a0_1 a0_2 a0_3 a0_4 a0_5 a0_6 a0_7 a0_8 a0_9 a0_10 a0_11 a0_12 [] j1 (spec_Contents_S1 a0_0 a0_1 a0_2 a0_3 a0_4 a0_5 a0_6 a0_7 a0_8 a0_9 a0_10 a0_11 a0_12 v) = fixN (spec_Contents_l1 k a0_0 a0_1 a0_2 a0_3 a0_4 a0_5 a0_6 a0_7 a0_8 a0_9 a0_10 a0_11 a0_12) j1 v := by
    intro j1 v
    refine iter_fix (spec_Contents_S1 a0_0 a0_1 a0_2 a0_3 a0_4 a0_5 a0_6 a0_7 a0_8 a0_9 a0_10 a0_11 a0_12) (spec_Contents_l1 k a0_0 a0_1 a0_2 a0_3 a0_4 a0_5 a0_6 a0_7 a0_8 a0_9 a0_10 a0_11 a0_12) (fun j1 v => (e1 j1 v).trans ?_) j1 v
    unfold spec_Contents_l1
    rfl
  rw [e0]; unfold spec_Contents_u
  simp only [i1]
/- spec.Whole -/
def spec_Whole_u (k : Nat) (a0_0 : Int) (a0_1 : Int) (a0_2 : Int) (a0_3 : List (List T)) (a0_4 : Int) (a0_5 : Int) (a0_6 : Int) (a0_7 : Int) (a0_8 : Int) (a0_9 : List (List T)) (a0_10 : Int) (a0_11 : Bool) (a0_12 : Bool) (a0_13 : List (List T)) (a0_14 : List (List T)) (a0_15 : List (List T)) (a0_16 : List (List T)) : Option Outs :=
 bindO (evalF E P0 k N.spec_Contents [.v [.i a0_0, .i a0_1, .i a0_2, .r a0_3, .i a0_4, .i a0_5, .i a0_6, .i a0_7, .i a0_8, .r a0_9, .i a0_10, .b a0_11, .b a0_12]]) fun o3 =>
 bindO (evalF E P0 k N.spec_Blocks [.v [.i a0_1, .i a0_2]]) fun o4 =>
 some ⟨[.b (((o3.t 0).asR.length : Int) == (o4.t 0).asI)], []⟩
theorem spec_Whole_e (k : Nat) (a0_0 : Int) (a0_1 : Int) (a0_2 : Int) (a0_3 : List (List T)) (a0_4 : Int) (a0_5 : Int) (a0_6 : Int) (a0_7 : Int) (a0_8 : Int) (a0_9 : List (List T)) (a0_10 : Int) (a0_11 : Bool) (a0_12 : Bool) (a0_13 : List (List T)) (a0_14 : List (List T)) (a0_15 : List (List T)) (a0_16 : List (List T)) : evalF E P0 (k + 1) N.spec_Whole [.v [.i a0_0, .i a0_1, .i a0_2, .r a0_3, .i a0_4, .i a0_5, .i a0_6, .i a0_7, .i a0_8, .r a0_9, .i a0_10, .b a0_11, .b a0_12, .r a0_13, .r a0_14, .r a0_15, .r a0_16]] = spec_Whole_u k a0_0 a0_1 a0_2 a0_3 a0_4 a0_5 a0_6 a0_7 a0_8 a0_9 a0_10 a0_11 a0_12 a0_13 a0_14 a0_15 a0_16 := by kernel_rfl
/- impl.hasBlock -/
def impl_hasBlock_u (k : Nat) (a0_0 : Int) (a0_1 : Int) (a1 : Int) : Option Outs :=
 bindO (evalF E P0 k N.impl_Blocks [.v [.i a0_0, .i a0_1]]) fun o3 =>
 bindO (evalF E P0 k N.impl_within [.v [.i a1], .v [.i 0], .v [.i (IntKind.wrap .i64 ((o3.t 0).asI - 1))]]) fun o4 =>
 some ⟨[.b (o4.t 0).asB], []⟩
theorem impl_hasBlock_e (k : Nat) (a0_0 : Int) (a0_1 : Int) (a1 : Int) : evalF E P0 (k + 1) N.impl_hasBlock [.v [.i a0_0, .i a0_1], .v [.i a1]] = impl_hasBlock_u k a0_0 a0_1 a1 := by kernel_rfl
/- impl.blockCode -/
def impl_blockCode_u (k : Nat) (a0_0 : Int) (a0_1 : Int) (a0_2 : Int) (a0_3 : List (List T)) (a0_4 : Int) (a0_5 : Int) (a0_6 : Int) (a0_7 : Int) (a0_8 : Int) (a0_9 : List (List T)) (a0_10 : Int) (a0_11 : Bool) (a0_12 : Bool) (a1 : Int) : Option Outs :=
 bindO (evalF E P0 k N.impl_ArrOk [.v [.i a0_0, .i a0_1, .i a0_2, .r a0_3, .i a0_4, .i a0_5, .i a0_6, .i a0_7, .i a0_8, .r a0_9, .i a0_10, .b a0_11, .b a0_12]]) fun o14 =>
 bif (!(o14.t 0).asB) then
  some ⟨[.i 1], []⟩
 else
  bif a0_11 then
   some ⟨[.i 6], []⟩
  else
   bindO (evalF E P0 k N.impl_hasBlock [.v [.i a0_1, .i a0_2], .v [.i a1]]) fun o16 =>
   bif (!(o16.t 0).asB) then some ⟨[.i 2], []⟩ else some ⟨[.i 0], []⟩
theorem impl_blockCode_e (k : Nat) (a0_0 : Int) (a0_1 : Int) (a0_2 : Int) (a0_3 : List (List T)) (a0_4 : Int) (a0_5 : Int) (a0_6 : Int) (a0_7 : Int) (a0_8 : Int) (a0_9 : List (List T)) (a0_10 : Int) (a0_11 : Bool) (a0_12 : Bool) (a1 : Int) : evalF E P0 (k + 1) N.impl_blockCode [.v [.i a0_0, .i a0_1, .i a0_2, .r a0_3, .i a0_4, .i a0_5, .i a0_6, .i a0_7, .i a0_8, .r a0_9, .i a0_10, .b a0_11, .b a0_12], .v [.i a1]] = impl_blockCode_u k a0_0 a0_1 a0_2 a0_3 a0_4 a0_5 a0_6 a0_7 a0_8 a0_9 a0_10 a0_11 a0_12 a1 := by kernel_rfl
/- impl.StripeOf -/
def impl_StripeOf_u (k : Nat) (a0_0 : Int) (a0_1 : Int) (a1 : Int) : Option Outs :=
 bindO (evalF E P0 k N.impl_hasBlock [.v [.i a0_0, .i a0_1], .v [.i a1]]) fun o2 =>
 bif (!(o2.t 0).asB) then
  some ⟨[.i (-1)], []⟩
 else
  chk (!decide ((IntKind.wrap .i64 (a0_0 - 1)) = 0)) <|
  some ⟨[.i (IntKind.wrap .i64 (Int.tdiv a1 (IntKind.wrap .i64 (a0_0 - 1))))], []⟩
theorem impl_StripeOf_e (k : Nat) (a0_0 : Int) (a0_1 : Int) (a1 : Int) : evalF E P0 (k + 1) N.impl_StripeOf [.v [.i a0_0, .i a0_1], .v [.i a1]] = impl_StripeOf_u k a0_0 a0_1 a1 := by kernel_rfl
/- impl.entOf$1 -/
def impl_entOf_1_u (k : Nat) (a0_0 : Int) (a0_1 : List (List T)) (a1 : Int) : Option Outs :=
 some ⟨[.b (a0_0 == a1)], [[.i a1]]⟩
theorem impl_entOf_1_e (k : Nat) (a0_0 : Int) (a0_1 : List (List T)) (a1 : Int) : evalF E P0 (k + 1) N.impl_entOf_1 [.v [.i a0_0, .r a0_1], .p [.i a1]] = impl_entOf_1_u k a0_0 a0_1 a1 := by kernel_rfl
/- slices.IndexFunc[[]impl.Ent,impl.Ent] -/
def slices_IndexFunc_impl_Ent_impl_Ent_L1 (k : Nat) (a0 : List (List T)) (G1 : (Int × Int) → Option Outs) : (Int × Int) → Option Outs := fun (v15, v16) =>
 bif (decide (v15 < (a0.length : Int))) then
  chk (decide (0 ≤ v15) && decide (v15 < (a0.length : Int))) <|
  bindO (evalF E P0 k N.impl_entOf_1 [.v [.i (at_ a0 v15.toNat 0).asI, .r (at_ a0 v15.toNat 1).asR], .p [.i v16]]) fun o96 =>
  bif (o96.t 0).asB then
   some ⟨[.i v15], [[.i (o96.vt 0 0).asI]]⟩
  else
   G1 ((IntKind.wrap .i64 (v15 + 1)), (o96.vt 0 0).asI)
 else
  some ⟨[.i (-1)], [[.i v16]]⟩
def slices_IndexFunc_impl_Ent_impl_Ent_k1 : List Nat := [0, 1, 4, 7, 8]
def slices_IndexFunc_impl_Ent_impl_Ent_S1 (a0 : List (List T)) : (Int × Int) → St := fun (v15, v16) => ⟨ofSl [(0, .sl 128 a0), (1, .clo N.impl_entOf_1 (some (1, 0))), (4, .i .i64 0), (7, .i .i64 (a0.length : Int)), (8, .i .i64 v15)], ofMem [((1, 0), .var [.i .i64 v16])]⟩
def slices_IndexFunc_impl_Ent_impl_Ent_l1 (k : Nat) (a0 : List (List T)) (G1 : (Int × Int) → Option Outs) : (Int × Int) → Option Outs :=
  slices_IndexFunc_impl_Ent_impl_Ent_L1 k a0 G1
def slices_IndexFunc_impl_Ent_impl_Ent_U (k : Nat) (a0 : List (List T)) (a1 : Int) (R1 : (Int × Int) → Option Outs) : Option Outs :=
 R1 (0, a1)
def slices_IndexFunc_impl_Ent_impl_Ent_u (k : Nat) (a0 : List (List T)) (a1 : Int) : Option Outs :=
  slices_IndexFunc_impl_Ent_impl_Ent_U k a0 a1 (fun v => fixN (slices_IndexFunc_impl_Ent_impl_Ent_l1 k a0) k v)
def slices_IndexFunc_impl_Ent_impl_Ent_it1 (k : Nat) (a0 : List (List T)) (a1 : Int) (js : List Nat) (j : Nat) (s : St) : Option Outs := iter (LB E (evalF E P0 k) k [1] N.slices_IndexFunc_impl_Ent_impl_Ent [.sr, .sl, .sr, .bl]) [1] slices_IndexFunc_impl_Ent_impl_Ent_k1 (LK E (evalF E P0 k) k [1] N.slices_IndexFunc_impl_Ent_impl_Ent [.v [.r a0], .c N.impl_entOf_1 (some [.i a1])] [.sr, .sl, .sr, .bl] js) j s
theorem slices_IndexFunc_impl_Ent_impl_Ent_e (k : Nat) (a0 : List (List T)) (a1 : Int) : evalF E P0 (k + 1) N.slices_IndexFunc_impl_Ent_impl_Ent [.v [.r a0], .c N.impl_entOf_1 (some [.i a1])] = slices_IndexFunc_impl_Ent_impl_Ent_u k a0 a1 := by
  have e0 : evalF E P0 (k + 1) N.slices_IndexFunc_impl_Ent_impl_Ent [.v [.r a0], .c N.impl_entOf_1 (some [.i a1])] = slices_IndexFunc_impl_Ent_impl_Ent_U k a0 a1 (fun v => slices_IndexFunc_impl_Ent_impl_Ent_it1 k a0 a1 [] k (slices_IndexFunc_impl_Ent_impl_Ent_S1 a0 v)) := by kernel_rfl
  have e1 : ∀ (j1 : Nat) (v : Int × Int), slices_IndexFunc_impl_Ent_impl_Ent_it1 k a0 a1 [] (j1 + 1) (slices_IndexFunc_impl_Ent_impl_Ent_S1 a0 v) = slices_IndexFunc_impl_Ent_impl_Ent_L1 k a0 (fun v => slices_IndexFunc_impl_Ent_impl_Ent_it1 k a0 a1 [] j1 (slices_IndexFunc_impl_Ent_impl_Ent_S1 a0 v)) v := by
    intro j1 v; kernel_rfl
  have i1 : ∀ (j1 : Nat) (v : Int × Int), slices_IndexFunc_impl_Ent_impl_Ent_it1 k a0 a1 [] j1 (slices_IndexFunc_impl_Ent_impl_Ent_S1 a0 v) = fixN (slices_IndexFunc_impl_Ent_impl_Ent_l1 k a0) j1 v := by
    intro j1 v
    refine iter_fix (slices_IndexFunc_impl_Ent_impl_Ent_S1 a0) (slices_IndexFunc_impl_Ent_impl_Ent_l1 k a0) (fun j1 v => (e1 j1 v).trans ?_) j1 v
    unfold slices_IndexFunc_impl_Ent_impl_Ent_l1
    rfl
  rw [e0]; unfold slices_IndexFunc_impl_Ent_impl_Ent_u
  simp only [i1]
/- impl.entOf -/
def impl_entOf_u (k : Nat) (a0_0 : Int) (a0_1 : Int) (a0_2 : Int) (a0_3 : List (List T)) (a0_4 : Int) (a0_5 : Int) (a0_6 : Int) (a0_7 : Int) (a0_8 : Int) (a0_9 : List (List T)) (a0_10 : Int) (a0_11 : Bool) (a0_12 : Bool) (a1 : Int) : Option Outs :=
 bindO (evalF E P0 k N.slices_IndexFunc_impl_Ent_impl_Ent [.v [.r a0_9], .c N.impl_entOf_1 (some [.i a1])]) fun o2 =>
 some ⟨[.i (o2.t 0).asI], []⟩
theorem impl_entOf_e (k : Nat) (a0_0 : Int) (a0_1 : Int) (a0_2 : Int) (a0_3 : List (List T)) (a0_4 : Int) (a0_5 : Int) (a0_6 : Int) (a0_7 : Int) (a0_8 : Int) (a0_9 : List (List T)) (a0_10 : Int) (a0_11 : Bool) (a0_12 : Bool) (a1 : Int) : evalF E P0 (k + 1) N.impl_entOf [.v [.i a0_0, .i a0_1, .i a0_2, .r a0_3, .i a0_4, .i a0_5, .i a0_6, .i a0_7, .i a0_8, .r a0_9, .i a0_10, .b a0_11, .b a0_12], .v [.i a1]] = impl_entOf_u k a0_0 a0_1 a0_2 a0_3 a0_4 a0_5 a0_6 a0_7 a0_8 a0_9 a0_10 a0_11 a0_12 a1 := by kernel_rfl
/- impl.copyInts -/
def impl_copyInts_u (k : Nat) (a0 : List (List T)) : Option Outs :=
 chk (decide ((([] : List (List T)).length + a0.length) * 8 ≤ 140737488355328)) <|
 some ⟨[.r (([] : List (List T)) ++ a0)], []⟩
theorem impl_copyInts_e (k : Nat) (a0 : List (List T)) : evalF E P0 (k + 1) N.impl_copyInts [.v [.r a0]] = impl_copyInts_u k a0 := by kernel_rfl
/- impl.DataAt -/
def impl_DataAt_u (k : Nat) (a0 : Int) : Option Outs :=
 bindO (evalF E P0 k N.impl_within [.v [.i a0], .v [.i 0], .v [.i 1099511627776]]) fun o2 =>
 bif (!(o2.t 0).asB) then
  some ⟨[.i (-1)], []⟩
 else
  some ⟨[.i (IntKind.wrap .i64 ((IntKind.wrap .i64 (a0 + 2)) + 4))], []⟩
theorem impl_DataAt_e (k : Nat) (a0 : Int) : evalF E P0 (k + 1) N.impl_DataAt [.v [.i a0]] = impl_DataAt_u k a0 := by kernel_rfl
/- slices.Index[[]int,int] -/
def slices_Index_int_int_L1 (k : Nat) (a0 : List (List T)) (a1 : Int) (G1 : (Int) → Option Outs) : (Int) → Option Outs := fun v8 =>
 bif (decide (v8 < (a0.length : Int))) then
  chk (decide (0 ≤ v8) && decide (v8 < (a0.length : Int))) <|
  bif (a1 == (at_ a0 v8.toNat 0).asI) then some ⟨[.i v8], []⟩ else G1 (IntKind.wrap .i64 (v8 + 1))
 else
  some ⟨[.i (-1)], []⟩
def slices_Index_int_int_k1 : List Nat := [0, 1, 4, 7, 8]
def slices_Index_int_int_S1 (a0 : List (List T)) (a1 : Int) : (Int) → St := fun v8 => ⟨ofSl [(0, .sl 3 a0), (1, .i .i64 a1), (4, .i .i64 0), (7, .i .i64 (a0.length : Int)), (8, .i .i64 v8)], ofMem []⟩
def slices_Index_int_int_l1 (k : Nat) (a0 : List (List T)) (a1 : Int) (G1 : (Int) → Option Outs) : (Int) → Option Outs :=
  slices_Index_int_int_L1 k a0 a1 G1
def slices_Index_int_int_U (k : Nat) (a0 : List (List T)) (a1 : Int) (R1 : (Int) → Option Outs) : Option Outs :=
 R1 0
def slices_Index_int_int_u (k : Nat) (a0 : List (List T)) (a1 : Int) : Option Outs :=
  slices_Index_int_int_U k a0 a1 (fun v => fixN (slices_Index_int_int_l1 k a0 a1) k v)
def slices_Index_int_int_it1 (k : Nat) (a0 : List (List T)) (a1 : Int) (js : List Nat) (j : Nat) (s : St) : Option Outs := iter (LB E (evalF E P0 k) k [] N.slices_Index_int_int [.sr, .sl, .sr, .bl]) [] slices_Index_int_int_k1 (LK E (evalF E P0 k) k [] N.slices_Index_int_int [.v [.r a0], .v [.i a1]] [.sr, .sl, .sr, .bl] js) j s
theorem slices_Index_int_int_e (k : Nat) (a0 : List (List T)) (a1 : Int) : evalF E P0 (k + 1) N.slices_Index_int_int [.v [.r a0], .v [.i a1]] = slices_Index_int_int_u k a0 a1 := by
  have e0 : evalF E P0 (k + 1) N.slices_Index_int_int [.v [.r a0], .v [.i a1]] = slices_Index_int_int_U k a0 a1 (fun v => slices_Index_int_int_it1 k a0 a1 [] k (slices_Index_int_int_S1 a0 a1 v)) := by kernel_rfl
  have e1 : ∀ (j1 : Nat) (v : Int), slices_Index_int_int_it1 k a0 a1 [] (j1 + 1) (slices_Index_int_int_S1 a0 a1 v) = slices_Index_int_int_L1 k a0 a1 (fun v => slices_Index_int_int_it1 k a0 a1 [] j1 (slices_Index_int_int_S1 a0 a1 v)) v := by
    intro j1 v; kernel_rfl
  have i1 : ∀ (j1 : Nat) (v : Int), slices_Index_int_int_it1 k a0 a1 [] j1 (slices_Index_int_int_S1 a0 a1 v) = fixN (slices_Index_int_int_l1 k a0 a1) j1 v := by
    intro j1 v
    refine iter_fix (slices_Index_int_int_S1 a0 a1) (slices_Index_int_int_l1 k a0 a1) (fun j1 v => (e1 j1 v).trans ?_) j1 v
    unfold slices_Index_int_int_l1
    rfl
  rw [e0]; unfold slices_Index_int_int_u
  simp only [i1]
/- slices.Contains[[]int,int] -/
def slices_Contains_int_int_u (k : Nat) (a0 : List (List T)) (a1 : Int) : Option Outs :=
 bindO (evalF E P0 k N.slices_Index_int_int [.v [.r a0], .v [.i a1]]) fun o2 =>
 some ⟨[.b (decide ((o2.t 0).asI ≥ 0))], []⟩
theorem slices_Contains_int_int_e (k : Nat) (a0 : List (List T)) (a1 : Int) : evalF E P0 (k + 1) N.slices_Contains_int_int [.v [.r a0], .v [.i a1]] = slices_Contains_int_int_u k a0 a1 := by kernel_rfl
/- impl.ReadSec -/
def impl_ReadSec_L1 (k : Nat) (a0_1 : List (List T)) (a1 : Int) (G1 : (List (List T) × Int) → Option Outs) : (List (List T) × Int) → Option Outs := fun (w8, v8) =>
 bif (decide (v8 < (a0_1.length : Int))) then
  chk (decide (0 ≤ v8) && decide (v8 < (a0_1.length : Int))) <|
  bif ((at_ a0_1 v8.toNat 0).asI == a1) then
   G1 ((at_ a0_1 v8.toNat 1).asR, (IntKind.wrap .i64 (v8 + 1)))
  else
   G1 (w8, (IntKind.wrap .i64 (v8 + 1)))
 else
  bindO (evalF E P0 k N.impl_copyInts [.v [.r w8]]) fun o6 =>
  some ⟨[.r (o6.t 0).asR, .b true], []⟩
def impl_ReadSec_k1 : List Nat := [1, 4, 5, 6, 34, 35, 36, 47, 48]
def impl_ReadSec_S1 (a0_1 : List (List T)) (a1 : Int) : (List (List T) × Int) → St := fun (w8, v8) => ⟨ofSl [(1, .i .i64 a1), (4, .ref (4, 0)), (5, .b false), (6, .sl 3 w8), (34, .sl 158 a0_1), (35, .i .i64 (a0_1.length : Int)), (36, .i .i64 v8), (47, .skip), (48, .skip)], ofMem [((4, 0), .row 3 true [])]⟩
def impl_ReadSec_J1 (k : Nat) (a0_0 : List (List T)) (a1 : Int) (R1 : (List (List T) × Int) → Option Outs) (c1 : Bool) : Option Outs :=
 bif c1 then
  some ⟨[.r [], .b false], []⟩
 else
  chk (decide (0 ≤ a1) && decide (a1 < (a0_0.length : Int))) <|
  R1 ((at_ a0_0 a1.toNat 0).asR, 0)
def impl_ReadSec_l1 (k : Nat) (a0_1 : List (List T)) (a1 : Int) (G1 : (List (List T) × Int) → Option Outs) : (List (List T) × Int) → Option Outs :=
  impl_ReadSec_L1 k a0_1 a1 G1
def impl_ReadSec_U (k : Nat) (a0_0 : List (List T)) (a0_1 : List (List T)) (a0_2 : Bool) (a0_3 : List (List T)) (a1 : Int) (R1 : (List (List T) × Int) → Option Outs) : Option Outs :=
 bindO (evalF E P0 k N.impl_MemOk [.v [.r a0_0, .r a0_1, .b a0_2, .r a0_3]]) fun o4 =>
 bif (!(o4.t 0).asB) then
  impl_ReadSec_J1 k a0_0 a1 R1 true
 else
  bif a0_2 then
   impl_ReadSec_J1 k a0_0 a1 R1 true
  else
   bindO (evalF E P0 k N.impl_hasSec [.v [.r a0_0, .r a0_1, .b a0_2, .r a0_3], .v [.i a1]]) fun o7 =>
   bif (!(o7.t 0).asB) then
    impl_ReadSec_J1 k a0_0 a1 R1 true
   else
    bindO (evalF E P0 k N.slices_Contains_int_int [.v [.r a0_3], .v [.i a1]]) fun o8 =>
    impl_ReadSec_J1 k a0_0 a1 R1 ((o8.t 0).asB)
def impl_ReadSec_u (k : Nat) (a0_0 : List (List T)) (a0_1 : List (List T)) (a0_2 : Bool) (a0_3 : List (List T)) (a1 : Int) : Option Outs :=
  impl_ReadSec_U k a0_0 a0_1 a0_2 a0_3 a1 (fun v => fixN (impl_ReadSec_l1 k a0_1 a1) k v)
def impl_ReadSec_it1 (k : Nat) (a0_0 : List (List T)) (a0_1 : List (List T)) (a0_2 : Bool) (a0_3 : List (List T)) (a1 : Int) (js : List Nat) (j : Nat) (s : St) : Option Outs := iter (LB E (evalF E P0 k) k [] N.impl_ReadSec [.sr, .sr, .sr, .sl, .sr, .bl]) [] impl_ReadSec_k1 (LK E (evalF E P0 k) k [] N.impl_ReadSec [.v [.r a0_0, .r a0_1, .b a0_2, .r a0_3], .v [.i a1]] [.sr, .sr, .sr, .sl, .sr, .bl] js) j s
theorem impl_ReadSec_e (k : Nat) (a0_0 : List (List T)) (a0_1 : List (List T)) (a0_2 : Bool) (a0_3 : List (List T)) (a1 : Int) : evalF E P0 (k + 1) N.impl_ReadSec [.v [.r a0_0, .r a0_1, .b a0_2, .r a0_3], .v [.i a1]] = impl_ReadSec_u k a0_0 a0_1 a0_2 a0_3 a1 := by
  have e0 : evalF E P0 (k + 1) N.impl_ReadSec [.v [.r a0_0, .r a0_1, .b a0_2, .r a0_3], .v [.i a1]] = impl_ReadSec_U k a0_0 a0_1 a0_2 a0_3 a1 (fun v => impl_ReadSec_it1 k a0_0 a0_1 a0_2 a0_3 a1 [] k (impl_ReadSec_S1 a0_1 a1 v)) := by kernel_rfl
  have e1 : ∀ (j1 : Nat) (v : List (List T) × Int), impl_ReadSec_it1 k a0_0 a0_1 a0_2 a0_3 a1 [] (j1 + 1) (impl_ReadSec_S1 a0_1 a1 v) = impl_ReadSec_L1 k a0_1 a1 (fun v => impl_ReadSec_it1 k a0_0 a0_1 a0_2 a0_3 a1 [] j1 (impl_ReadSec_S1 a0_1 a1 v)) v := by
    intro j1 v; kernel_rfl
  have i1 : ∀ (j1 : Nat) (v : List (List T) × Int), impl_ReadSec_it1 k a0_0 a0_1 a0_2 a0_3 a1 [] j1 (impl_ReadSec_S1 a0_1 a1 v) = fixN (impl_ReadSec_l1 k a0_1 a1) j1 v := by
    intro j1 v
    refine iter_fix (impl_ReadSec_S1 a0_1 a1) (impl_ReadSec_l1 k a0_1 a1) (fun j1 v => (e1 j1 v).trans ?_) j1 v
    unfold impl_ReadSec_l1
    rfl
  rw [e0]; unfold impl_ReadSec_u
  simp only [i1]
/- impl.LiveAt -/
def impl_LiveAt_u (k : Nat) (a0_0 : Int) (a0_1 : Int) (a0_2 : Int) (a0_3 : List (List T)) (a0_4 : Int) (a0_5 : Int) (a0_6 : Int) (a0_7 : Int) (a0_8 : Int) (a0_9 : List (List T)) (a0_10 : Int) (a0_11 : Bool) (a0_12 : Bool) (a1 : Int) (a2 : Int) : Option Outs :=
 bindO (evalF E P0 k N.impl_within [.v [.i a1], .v [.i 0], .v [.i (IntKind.wrap .i64 ((a0_3.length : Int) - 1))]]) fun o2 =>
 bif (o2.t 0).asB then
  chk (decide (0 ≤ a1) && decide (a1 < (a0_3.length : Int))) <|
  bif (!(at_ a0_3 a1.toNat 2).asB) then
   bif (a0_4 != a1) then some ⟨[.b true], []⟩ else some ⟨[.b (decide (a2 < a0_5))], []⟩
  else
   some ⟨[.b false], []⟩
 else
  some ⟨[.b false], []⟩
theorem impl_LiveAt_e (k : Nat) (a0_0 : Int) (a0_1 : Int) (a0_2 : Int) (a0_3 : List (List T)) (a0_4 : Int) (a0_5 : Int) (a0_6 : Int) (a0_7 : Int) (a0_8 : Int) (a0_9 : List (List T)) (a0_10 : Int) (a0_11 : Bool) (a0_12 : Bool) (a1 : Int) (a2 : Int) : evalF E P0 (k + 1) N.impl_LiveAt [.v [.i a0_0, .i a0_1, .i a0_2, .r a0_3, .i a0_4, .i a0_5, .i a0_6, .i a0_7, .i a0_8, .r a0_9, .i a0_10, .b a0_11, .b a0_12], .v [.i a1], .v [.i a2]] = impl_LiveAt_u k a0_0 a0_1 a0_2 a0_3 a0_4 a0_5 a0_6 a0_7 a0_8 a0_9 a0_10 a0_11 a0_12 a1 a2 := by kernel_rfl
/- impl.wordAt -/
def impl_wordAt_J1 (k : Nat) (o4 : Outs) (c1 : Bool) : Option Outs :=
 bif c1 then
  some ⟨[.i 0, .b false], []⟩
 else
  chk (decide ((0 : Int) < ((o4.t 0).asR.length : Int))) <|
  some ⟨[.i (at_ (o4.t 0).asR 0 0).asI, .b true], []⟩
def impl_wordAt_u (k : Nat) (a0_0 : Int) (a0_1 : Int) (a0_2 : Int) (a0_3 : List (List T)) (a0_4 : Int) (a0_5 : Int) (a0_6 : Int) (a0_7 : Int) (a0_8 : Int) (a0_9 : List (List T)) (a0_10 : Int) (a0_11 : Bool) (a0_12 : Bool) (a1 : Int) (a2 : Int) : Option Outs :=
 chk (decide (0 ≤ a1) && decide (a1 < (a0_3.length : Int))) <|
 bindO (evalF E P0 k N.impl_DataAt [.v [.i a2]]) fun o3 =>
 bindO (evalF E P0 k N.impl_ReadSec [.v [.r (at_ a0_3 a1.toNat 0).asR, .r (at_ a0_3 a1.toNat 1).asR, .b (at_ a0_3 a1.toNat 2).asB, .r (at_ a0_3 a1.toNat 3).asR], .v [.i (o3.t 0).asI]]) fun o4 =>
 bindO (evalF E P0 k N.impl_LiveAt [.v [.i a0_0, .i a0_1, .i a0_2, .r a0_3, .i a0_4, .i a0_5, .i a0_6, .i a0_7, .i a0_8, .r a0_9, .i a0_10, .b a0_11, .b a0_12], .v [.i a1], .v [.i a2]]) fun o6 =>
 bif (!(o6.t 0).asB) then
  impl_wordAt_J1 k o4 true
 else
  bif (!(o4.t 1).asB) then impl_wordAt_J1 k o4 true else impl_wordAt_J1 k o4 (((o4.t 0).asR.length : Int) != 1)
theorem impl_wordAt_e (k : Nat) (a0_0 : Int) (a0_1 : Int) (a0_2 : Int) (a0_3 : List (List T)) (a0_4 : Int) (a0_5 : Int) (a0_6 : Int) (a0_7 : Int) (a0_8 : Int) (a0_9 : List (List T)) (a0_10 : Int) (a0_11 : Bool) (a0_12 : Bool) (a1 : Int) (a2 : Int) : evalF E P0 (k + 1) N.impl_wordAt [.v [.i a0_0, .i a0_1, .i a0_2, .r a0_3, .i a0_4, .i a0_5, .i a0_6, .i a0_7, .i a0_8, .r a0_9, .i a0_10, .b a0_11, .b a0_12], .v [.i a1], .v [.i a2]] = impl_wordAt_u k a0_0 a0_1 a0_2 a0_3 a0_4 a0_5 a0_6 a0_7 a0_8 a0_9 a0_10 a0_11 a0_12 a1 a2 := by kernel_rfl
/- impl.XorOf -/
def impl_XorOf_L1 (k : Nat) (a0 : List (List T)) (G1 : (Int × Int) → Option Outs) : (Int × Int) → Option Outs := fun (v15, v16) =>
 bif (decide (v16 < (a0.length : Int))) then
  chk (decide (0 ≤ v16) && decide (v16 < (a0.length : Int))) <|
  G1 ((bitsXor .i64 v15 (at_ a0 v16.toNat 0).asI), (IntKind.wrap .i64 (v16 + 1)))
 else
  some ⟨[.i v15], []⟩
def impl_XorOf_k1 : List Nat := [2, 3, 6, 7, 8, 16]
def impl_XorOf_S1 (a0 : List (List T)) : (Int × Int) → St := fun (v15, v16) => ⟨ofSl [(2, .i .i64 0), (3, .i .i64 v15), (6, .sl 3 a0), (7, .i .i64 (a0.length : Int)), (8, .i .i64 v16), (16, .skip)], ofMem []⟩
def impl_XorOf_l1 (k : Nat) (a0 : List (List T)) (G1 : (Int × Int) → Option Outs) : (Int × Int) → Option Outs :=
  impl_XorOf_L1 k a0 G1
def impl_XorOf_U (k : Nat) (a0 : List (List T)) (R1 : (Int × Int) → Option Outs) : Option Outs :=
 R1 (0, 0)
def impl_XorOf_u (k : Nat) (a0 : List (List T)) : Option Outs :=
  impl_XorOf_U k a0 (fun v => fixN (impl_XorOf_l1 k a0) k v)
def impl_XorOf_it1 (k : Nat) (a0 : List (List T)) (js : List Nat) (j : Nat) (s : St) : Option Outs := iter (LB E (evalF E P0 k) k [] N.impl_XorOf [.sr, .sr, .sl, .sr, .bl]) [] impl_XorOf_k1 (LK E (evalF E P0 k) k [] N.impl_XorOf [.v [.r a0]] [.sr, .sr, .sl, .sr, .bl] js) j s
theorem impl_XorOf_e (k : Nat) (a0 : List (List T)) : evalF E P0 (k + 1) N.impl_XorOf [.v [.r a0]] = impl_XorOf_u k a0 := by
  have e0 : evalF E P0 (k + 1) N.impl_XorOf [.v [.r a0]] = impl_XorOf_U k a0 (fun v => impl_XorOf_it1 k a0 [] k (impl_XorOf_S1 a0 v)) := by kernel_rfl
  have e1 : ∀ (j1 : Nat) (v : Int × Int), impl_XorOf_it1 k a0 [] (j1 + 1) (impl_XorOf_S1 a0 v) = impl_XorOf_L1 k a0 (fun v => impl_XorOf_it1 k a0 [] j1 (impl_XorOf_S1 a0 v)) v := by
    intro j1 v; kernel_rfl
  have i1 : ∀ (j1 : Nat) (v : Int × Int), impl_XorOf_it1 k a0 [] j1 (impl_XorOf_S1 a0 v) = fixN (impl_XorOf_l1 k a0) j1 v := by
    intro j1 v
    refine iter_fix (impl_XorOf_S1 a0) (impl_XorOf_l1 k a0) (fun j1 v => (e1 j1 v).trans ?_) j1 v
    unfold impl_XorOf_l1
    rfl
  rw [e0]; unfold impl_XorOf_u
  simp only [i1]
/- impl.MissingWord -/
def impl_MissingWord_u (k : Nat) (a0 : List (List T)) (a1 : Int) : Option Outs :=
 bindO (evalF E P0 k N.impl_XorOf [.v [.r a0]]) fun o2 =>
 bindO (evalF E P0 k N.impl_within [.v [.i a1], .v [.i 0], .v [.i (IntKind.wrap .i64 ((a0.length : Int) - 1))]]) fun o4 =>
 bif (o4.t 0).asB then
  chk (decide (0 ≤ a1) && decide (a1 < (a0.length : Int))) <|
  some ⟨[.i (bitsXor .i64 (o2.t 0).asI (at_ a0 a1.toNat 0).asI)], []⟩
 else
  some ⟨[.i (o2.t 0).asI], []⟩
theorem impl_MissingWord_e (k : Nat) (a0 : List (List T)) (a1 : Int) : evalF E P0 (k + 1) N.impl_MissingWord [.v [.r a0], .v [.i a1]] = impl_MissingWord_u k a0 a1 := by kernel_rfl
/- impl.Words -/
def impl_Words_J2 (k : Nat) (o99 : Outs) (v15 : Int) (v16 : Int) (w8 : List (List T)) (G1 : (Int × Int × List (List T)) → Option Outs) (c33 : Bool) : Option Outs :=
 bif c33 then
  some ⟨[.r [], .b false], []⟩
 else
  bif (!(o99.t 1).asB) then
   chk (decide ((w8.length + ([[.i (o99.t 0).asI]] : List (List T)).length) * 8 ≤ 140737488355328)) <|
   G1 (v16, (IntKind.wrap .i64 (v16 + 1)), (w8 ++ [[.i (o99.t 0).asI]]))
  else
   chk (decide ((w8.length + ([[.i (o99.t 0).asI]] : List (List T)).length) * 8 ≤ 140737488355328)) <|
   G1 (v15, (IntKind.wrap .i64 (v16 + 1)), (w8 ++ [[.i (o99.t 0).asI]]))
def impl_Words_L1 (k : Nat) (a0_0 : Int) (a0_1 : Int) (a0_2 : Int) (a0_3 : List (List T)) (a0_4 : Int) (a0_5 : Int) (a0_6 : Int) (a0_7 : Int) (a0_8 : Int) (a0_9 : List (List T)) (a0_10 : Int) (a0_11 : Bool) (a0_12 : Bool) (a1 : Int) (G1 : (Int × Int × List (List T)) → Option Outs) : (Int × Int × List (List T)) → Option Outs := fun (v15, v16, w8) =>
 bif (decide (v16 < (a0_3.length : Int))) then
  bindO (evalF E P0 k N.impl_wordAt [.v [.i a0_0, .i a0_1, .i a0_2, .r a0_3, .i a0_4, .i a0_5, .i a0_6, .i a0_7, .i a0_8, .r a0_9, .i a0_10, .b a0_11, .b a0_12], .v [.i v16], .v [.i a1]]) fun o99 =>
  bif (!(o99.t 1).asB) then
   impl_Words_J2 k o99 v15 v16 w8 G1 (decide (v15 ≥ 0))
  else
   impl_Words_J2 k o99 v15 v16 w8 G1 false
 else
  bif (decide (v15 ≥ 0)) then
   bindO (evalF E P0 k N.impl_MissingWord [.v [.r w8], .v [.i v15]]) fun o101 =>
   chk (decide (0 ≤ v15) && decide (v15 < (w8.length : Int))) <|
   some ⟨[.r (put_ w8 v15.toNat 0 [.i (o101.t 0).asI]), .b true], []⟩
  else
   some ⟨[.r w8, .b true], []⟩
def impl_Words_k1 : List Nat := [1, 2, 4, 5, 6, 7, 28, 29, 53, 54, 55, 56, 57, 58, 59, 60, 61]
def impl_Words_S1 (a0_0 : Int) (a0_1 : Int) (a0_2 : Int) (a0_3 : List (List T)) (a0_4 : Int) (a0_5 : Int) (a0_6 : Int) (a0_7 : Int) (a0_8 : Int) (a0_9 : List (List T)) (a0_10 : Int) (a0_11 : Bool) (a0_12 : Bool) (a1 : Int) : (Int × Int × List (List T)) → St := fun (v15, v16, w8) => ⟨ofSl [(1, .i .i64 a1), (2, .ptr (2, 0) 0), (4, .ref (4, 0)), (5, .b false), (6, .ref (6, 0)), (7, .i .i64 v15), (28, .i .i64 (a0_3.length : Int)), (29, .i .i64 v16), (53, .skip), (54, .skip), (55, .skip), (56, .skip), (57, .skip), (58, .skip), (59, .skip), (60, .skip), (61, .skip)], ofMem [((2, 0), .var [.i .i64 a0_0, .i .i64 a0_1, .i .i64 a0_2, .sl 115 a0_3, .i .i64 a0_4, .i .i64 a0_5, .i .i64 a0_6, .i .i64 a0_7, .i .i64 a0_8, .sl 128 a0_9, .i .i64 a0_10, .b a0_11, .b a0_12]), ((4, 0), .row 3 true []), ((6, 0), .row 3 true w8)]⟩
def impl_Words_J1 (k : Nat) (R1 : (Int × Int × List (List T)) → Option Outs) (c1 : Bool) : Option Outs :=
 bif c1 then some ⟨[.r [], .b false], []⟩ else R1 ((-1), 0, [])
def impl_Words_l1 (k : Nat) (a0_0 : Int) (a0_1 : Int) (a0_2 : Int) (a0_3 : List (List T)) (a0_4 : Int) (a0_5 : Int) (a0_6 : Int) (a0_7 : Int) (a0_8 : Int) (a0_9 : List (List T)) (a0_10 : Int) (a0_11 : Bool) (a0_12 : Bool) (a1 : Int) (G1 : (Int × Int × List (List T)) → Option Outs) : (Int × Int × List (List T)) → Option Outs :=
  impl_Words_L1 k a0_0 a0_1 a0_2 a0_3 a0_4 a0_5 a0_6 a0_7 a0_8 a0_9 a0_10 a0_11 a0_12 a1 G1
def impl_Words_U (k : Nat) (a0_0 : Int) (a0_1 : Int) (a0_2 : Int) (a0_3 : List (List T)) (a0_4 : Int) (a0_5 : Int) (a0_6 : Int) (a0_7 : Int) (a0_8 : Int) (a0_9 : List (List T)) (a0_10 : Int) (a0_11 : Bool) (a0_12 : Bool) (a1 : Int) (R1 : (Int × Int × List (List T)) → Option Outs) : Option Outs :=
 bindO (evalF E P0 k N.impl_ArrOk [.v [.i a0_0, .i a0_1, .i a0_2, .r a0_3, .i a0_4, .i a0_5, .i a0_6, .i a0_7, .i a0_8, .r a0_9, .i a0_10, .b a0_11, .b a0_12]]) fun o3 =>
 bif (!(o3.t 0).asB) then
  impl_Words_J1 k R1 true
 else
  bif a0_12 then
   impl_Words_J1 k R1 true
  else
   bindO (evalF E P0 k N.impl_hasStripe [.v [.i a0_1, .i a0_2], .v [.i a1]]) fun o102 =>
   impl_Words_J1 k R1 (!(o102.t 0).asB)
def impl_Words_u (k : Nat) (a0_0 : Int) (a0_1 : Int) (a0_2 : Int) (a0_3 : List (List T)) (a0_4 : Int) (a0_5 : Int) (a0_6 : Int) (a0_7 : Int) (a0_8 : Int) (a0_9 : List (List T)) (a0_10 : Int) (a0_11 : Bool) (a0_12 : Bool) (a1 : Int) : Option Outs :=
  impl_Words_U k a0_0 a0_1 a0_2 a0_3 a0_4 a0_5 a0_6 a0_7 a0_8 a0_9 a0_10 a0_11 a0_12 a1 (fun v => fixN (impl_Words_l1 k a0_0 a0_1 a0_2 a0_3 a0_4 a0_5 a0_6 a0_7 a0_8 a0_9 a0_10 a0_11 a0_12 a1) k v)
def impl_Words_it1 (k : Nat) (a0_0 : Int) (a0_1 : Int) (a0_2 : Int) (a0_3 : List (List T)) (a0_4 : Int) (a0_5 : Int) (a0_6 : Int) (a0_7 : Int) (a0_8 : Int) (a0_9 : List (List T)) (a0_10 : Int) (a0_11 : Bool) (a0_12 : Bool) (a1 : Int) (js : List Nat) (j : Nat) (s : St) : Option Outs := iter (LB E (evalF E P0 k) k [] N.impl_Words [.sr, .sr, .sr, .sr, .sl, .sr, .bl]) [] impl_Words_k1 (LK E (evalF E P0 k) k [] N.impl_Words [.v [.i a0_0, .i a0_1, .i a0_2, .r a0_3, .i a0_4, .i a0_5, .i a0_6, .i a0_7, .i a0_8, .r a0_9, .i a0_10, .b a0_11, .b a0_12], .v [.i a1]] [.sr, .sr, .sr, .sr, .sl, .sr, .bl] js) j s
theorem impl_Words_e (k : Nat) (a0_0 : Int) (a0_1 : Int) (a0_2 : Int) (a0_3 : List (List T)) (a0_4 : Int) (a0_5 : Int) (a0_6 : Int) (a0_7 : Int) (a0_8 : Int) (a0_9 : List (List T)) (a0_10 : Int) (a0_11 : Bool) (a0_12 : Bool) (a1 : Int) : evalF E P0 (k + 1) N.impl_Words [.v [.i a0_0, .i a0_1, .i a0_2, .r a0_3, .i a0_4, .i a0_5, .i a0_6, .i a0_7, .i a0_8, .r a0_9, .i a0_10, .b a0_11, .b a0_12], .v [.i a1]] = impl_Words_u k a0_0 a0_1 a0_2 a0_3 a0_4 a0_5 a0_6 a0_7 a0_8 a0_9 a0_10 a0_11 a0_12 a1 := by
  have e0 : evalF E P0 (k + 1) N.impl_Words [.v [.i a0_0, .i a0_1, .i a0_2, .r a0_3, .i a0_4, .i a0_5, .i a0_6, .i a0_7, .i a0_8, .r a0_9, .i a0_10, .b a0_11, .b a0_12], .v [.i a1]] = impl_Words_U k a0_0 a0_1 a0_2 a0_3 a0_4 a0_5 a0_6 a0_7 a0_8 a0_9 a0_10 a0_11 a0_12 a1 (fun v => impl_Words_it1 k a0_0 a0_1 a0_2 a0_3 a0_4 a0_5 a0_6 a0_7 a0_8 a0_9 a0_10 a0_11 a0_12 a1 [] k (impl_Words_S1 a0_0 a0_1 a0_2 a0_3 a0_4 a0_5 a0_6 a0_7 a0_8 a0_9 a0_10 a0_11 a0_12 a1 v)) := by kernel_rfl
  have e1 : ∀ (j1 : Nat) (v : Int × Int × List (List T)), impl_Words_it1 k a0_0 a0_1 a0_2 a0_3 a0_4 a0_5 a0_6 a0_7 a0_8 a0_9 a0_10 a0_11 a0_12 a1 [] (j1 + 1) (impl_Words_S1 a0_0 a0_1 a0_2 a0_3 a0_4 a0_5 a0_6 a0_7 a0_8 a0_9 a0_10 a0_11 a0_12 a1 v) = impl_Words_L1 k a0_0 a0_1 a0_2 a0_3 a0_4 a0_5 a0_6 a0_7 a0_8 a0_9 a0_10 a0_11 a0_12 a1 (fun v => impl_Words_it1 k a0_0 a0_1 a0_2 a0_3 a0_4 a0_5 a0_6 a0_7 a0_8 a0_9 a0_10 a0_11 a0_12 a1 [] j1 (impl_Words_S1 a0_0 a0_1 a0_2 a0_3 a0_4 a0_5 a0_6 a0_7 a0_8 a0_9 a0_10 a0_11 a0_12 a1 v)) v := by
    intro j1 v; kernel_rfl
  have i1 : ∀ (j1 : Nat) (v : Int × Int × List (List T)), impl_Words_it1 k a0_0 a0_1 a0_2 a0_3 a0_4 a0_5 a0_6 a0_7 a0_8 a0_9 a0_10 a0_11 a0_12 a1 [] j1 (impl_Words_S1 a0_0 a0_1 a0_2 a0_3 a0_4 a0_5 a0_6 a0_7 a0_8 a0_9 a0_10 a0_11 a0_12 a1 v) = fixN (impl_Words_l1 k a0_0 a0_1 a0_2 a0_3 a0_4 a0_5 a0_6 a0_7 a0_8 a0_9 a0_10 a0_11 a0_12 a1) j1 v := by
    intro j1 v
    refine iter_fix (impl_Words_S1 a0_0 a0_1 a0_2 a0_3 a0_4 a0_5 a0_6 a0_7 a0_8 a0_9 a0_10 a0_11 a0_12 a1) (impl_Words_l1 k a0_0 a0_1 a0_2 a0_3 a0_4 a0_5 a0_6 a0_7 a0_8 a0_9 a0_10 a0_11 a0_12 a1) (fun j1 v => (e1 j1 v).trans ?_) j1 v
    unfold impl_Words_l1
    rfl
  rw [e0]; unfold impl_Words_u
  simp only [i1]
/- impl.ParityOf -/
def impl_ParityOf_u (k : Nat) (a0_0 : Int) (a0_1 : Int) (a1 : Int) : Option Outs :=
 bindO (evalF E P0 k N.impl_hasStripe [.v [.i a0_0, .i a0_1], .v [.i a1]]) fun o2 =>
 bif (!(o2.t 0).asB) then
  some ⟨[.i (-1)], []⟩
 else
  chk (!decide (a0_0 = 0)) <|
  some ⟨[.i (IntKind.wrap .i64 ((IntKind.wrap .i64 (a0_0 - 1)) - (Int.tmod a1 a0_0)))], []⟩
theorem impl_ParityOf_e (k : Nat) (a0_0 : Int) (a0_1 : Int) (a1 : Int) : evalF E P0 (k + 1) N.impl_ParityOf [.v [.i a0_0, .i a0_1], .v [.i a1]] = impl_ParityOf_u k a0_0 a0_1 a1 := by kernel_rfl
/- impl.DiskOf -/
def impl_DiskOf_u (k : Nat) (a0_0 : Int) (a0_1 : Int) (a1 : Int) (a2 : Int) : Option Outs :=
 bindO (evalF E P0 k N.impl_hasStripe [.v [.i a0_0, .i a0_1], .v [.i a1]]) fun o3 =>
 bif (!(o3.t 0).asB) then
  some ⟨[.i (-1)], []⟩
 else
  bindO (evalF E P0 k N.impl_within [.v [.i a2], .v [.i 0], .v [.i (IntKind.wrap .i64 (a0_0 - 2))]]) fun o6 =>
  bif (!(o6.t 0).asB) then
   some ⟨[.i (-1)], []⟩
  else
   bindO (evalF E P0 k N.impl_ParityOf [.v [.i a0_0, .i a0_1], .v [.i a1]]) fun o8 =>
   chk (!decide (a0_0 = 0)) <|
   some ⟨[.i (Int.tmod (IntKind.wrap .i64 ((IntKind.wrap .i64 ((o8.t 0).asI + 1)) + a2)) a0_0)], []⟩
theorem impl_DiskOf_e (k : Nat) (a0_0 : Int) (a0_1 : Int) (a1 : Int) (a2 : Int) : evalF E P0 (k + 1) N.impl_DiskOf [.v [.i a0_0, .i a0_1], .v [.i a1], .v [.i a2]] = impl_DiskOf_u k a0_0 a0_1 a1 a2 := by kernel_rfl
/- impl.DataOf -/
def impl_DataOf_L1 (k : Nat) (a0_0 : Int) (a0_1 : Int) (a0_2 : Int) (a0_3 : List (List T)) (a0_4 : Int) (a0_5 : Int) (a0_6 : Int) (a0_7 : Int) (a0_8 : Int) (a0_9 : List (List T)) (a0_10 : Int) (a0_11 : Bool) (a0_12 : Bool) (a1 : Int) (o2 : Outs) (p12 : Int) (G1 : (Int × List (List T)) → Option Outs) : (Int × List (List T)) → Option Outs := fun (v8, w8) =>
 bif (decide (v8 < p12)) then
  bindO (evalF E P0 k N.impl_DiskOf [.v [.i a0_1, .i a0_2], .v [.i a1], .v [.i v8]]) fun o50 =>
  chk (decide (0 ≤ (o50.t 0).asI) && decide ((o50.t 0).asI < ((o2.t 0).asR.length : Int))) <|
  chk (decide ((w8.length + ([[.i (at_ (o2.t 0).asR (o50.t 0).asI.toNat 0).asI]] : List (List T)).length) * 8 ≤ 140737488355328)) <|
  G1 ((IntKind.wrap .i64 (v8 + 1)), (w8 ++ [[.i (at_ (o2.t 0).asR (o50.t 0).asI.toNat 0).asI]]))
 else
  some ⟨[.r w8, .b true], []⟩
def impl_DataOf_k1 : List Nat := [1, 2, 4, 5, 6, 8, 22, 23, 38]
def impl_DataOf_S1 (a0_0 : Int) (a0_1 : Int) (a0_2 : Int) (a0_3 : List (List T)) (a0_4 : Int) (a0_5 : Int) (a0_6 : Int) (a0_7 : Int) (a0_8 : Int) (a0_9 : List (List T)) (a0_10 : Int) (a0_11 : Bool) (a0_12 : Bool) (a1 : Int) (o2 : Outs) (p12 : Int) : (Int × List (List T)) → St := fun (v8, w8) => ⟨ofSl [(1, .i .i64 a1), (2, .ptr (2, 0) 0), (4, .ref (4, 0)), (5, .b false), (6, .ref (6, 0)), (8, .ref (8, 0)), (22, .i .i64 p12), (23, .i .i64 v8), (38, .skip)], ofMem [((2, 0), .var [.i .i64 a0_0, .i .i64 a0_1, .i .i64 a0_2, .sl 115 a0_3, .i .i64 a0_4, .i .i64 a0_5, .i .i64 a0_6, .i .i64 a0_7, .i .i64 a0_8, .sl 128 a0_9, .i .i64 a0_10, .b a0_11, .b a0_12]), ((4, 0), .row 3 true []), ((6, 0), .row 3 true (o2.t 0).asR), ((8, 0), .row 3 true w8)]⟩
def impl_DataOf_l1 (k : Nat) (a0_0 : Int) (a0_1 : Int) (a0_2 : Int) (a0_3 : List (List T)) (a0_4 : Int) (a0_5 : Int) (a0_6 : Int) (a0_7 : Int) (a0_8 : Int) (a0_9 : List (List T)) (a0_10 : Int) (a0_11 : Bool) (a0_12 : Bool) (a1 : Int) (o2 : Outs) (p12 : Int) (G1 : (Int × List (List T)) → Option Outs) : (Int × List (List T)) → Option Outs :=
  impl_DataOf_L1 k a0_0 a0_1 a0_2 a0_3 a0_4 a0_5 a0_6 a0_7 a0_8 a0_9 a0_10 a0_11 a0_12 a1 o2 p12 G1
def impl_DataOf_U (k : Nat) (a0_0 : Int) (a0_1 : Int) (a0_2 : Int) (a0_3 : List (List T)) (a0_4 : Int) (a0_5 : Int) (a0_6 : Int) (a0_7 : Int) (a0_8 : Int) (a0_9 : List (List T)) (a0_10 : Int) (a0_11 : Bool) (a0_12 : Bool) (a1 : Int) (R1 : Outs → Int → (Int × List (List T)) → Option Outs) : Option Outs :=
 bindO (evalF E P0 k N.impl_Words [.v [.i a0_0, .i a0_1, .i a0_2, .r a0_3, .i a0_4, .i a0_5, .i a0_6, .i a0_7, .i a0_8, .r a0_9, .i a0_10, .b a0_11, .b a0_12], .v [.i a1]]) fun o2 =>
 bif (!(o2.t 1).asB) then some ⟨[.r [], .b false], []⟩ else R1 o2 (IntKind.wrap .i64 (a0_1 - 1)) (0, [])
def impl_DataOf_u (k : Nat) (a0_0 : Int) (a0_1 : Int) (a0_2 : Int) (a0_3 : List (List T)) (a0_4 : Int) (a0_5 : Int) (a0_6 : Int) (a0_7 : Int) (a0_8 : Int) (a0_9 : List (List T)) (a0_10 : Int) (a0_11 : Bool) (a0_12 : Bool) (a1 : Int) : Option Outs :=
  impl_DataOf_U k a0_0 a0_1 a0_2 a0_3 a0_4 a0_5 a0_6 a0_7 a0_8 a0_9 a0_10 a0_11 a0_12 a1 (fun y0 y1 v => fixN (impl_DataOf_l1 k a0_0 a0_1 a0_2 a0_3 a0_4 a0_5 a0_6 a0_7 a0_8 a0_9 a0_10 a0_11 a0_12 a1 y0 y1) k v)
def impl_DataOf_it1 (k : Nat) (a0_0 : Int) (a0_1 : Int) (a0_2 : Int) (a0_3 : List (List T)) (a0_4 : Int) (a0_5 : Int) (a0_6 : Int) (a0_7 : Int) (a0_8 : Int) (a0_9 : List (List T)) (a0_10 : Int) (a0_11 : Bool) (a0_12 : Bool) (a1 : Int) (js : List Nat) (j : Nat) (s : St) : Option Outs := iter (LB E (evalF E P0 k) k [] N.impl_DataOf [.sr, .sr, .sr, .sr, .sl, .sr, .bl]) [] impl_DataOf_k1 (LK E (evalF E P0 k) k [] N.impl_DataOf [.v [.i a0_0, .i a0_1, .i a0_2, .r a0_3, .i a0_4, .i a0_5, .i a0_6, .i a0_7, .i a0_8, .r a0_9, .i a0_10, .b a0_11, .b a0_12], .v [.i a1]] [.sr, .sr, .sr, .sr, .sl, .sr, .bl] js) j s
theorem impl_DataOf_e (k : Nat) (a0_0 : Int) (a0_1 : Int) (a0_2 : Int) (a0_3 : List (List T)) (a0_4 : Int) (a0_5 : Int) (a0_6 : Int) (a0_7 : Int) (a0_8 : Int) (a0_9 : List (List T)) (a0_10 : Int) (a0_11 : Bool) (a0_12 : Bool) (a1 : Int) : evalF E P0 (k + 1) N.impl_DataOf [.v [.i a0_0, .i a0_1, .i a0_2, .r a0_3, .i a0_4, .i a0_5, .i a0_6, .i a0_7, .i a0_8, .r a0_9, .i a0_10, .b a0_11, .b a0_12], .v [.i a1]] = impl_DataOf_u k a0_0 a0_1 a0_2 a0_3 a0_4 a0_5 a0_6 a0_7 a0_8 a0_9 a0_10 a0_11 a0_12 a1 := by
  have e0 : evalF E P0 (k + 1) N.impl_DataOf [.v [.i a0_0, .i a0_1, .i a0_2, .r a0_3, .i a0_4, .i a0_5, .i a0_6, .i a0_7, .i a0_8, .r a0_9, .i a0_10, .b a0_11, .b a0_12], .v [.i a1]] = impl_DataOf_U k a0_0 a0_1 a0_2 a0_3 a0_4 a0_5 a0_6 a0_7 a0_8 a0_9 a0_10 a0_11 a0_12 a1 (fun y0 y1 v => impl_DataOf_it1 k a0_0 a0_1 a0_2 a0_3 a0_4 a0_5 a0_6 a0_7 a0_8 a0_9 a0_10 a0_11 a0_12 a1 [] k (impl_DataOf_S1 a0_0 a0_1 a0_2 a0_3 a0_4 a0_5 a0_6 a0_7 a0_8 a0_9 a0_10 a0_11 a0_12 a1 y0 y1 v)) := by kernel_rfl
  have e1 : ∀ (o2 : Outs) (p12 : Int) (j1 : Nat) (v : Int × List (List T)), impl_DataOf_it1 k a0_0 a0_1 a0_2 a0_3 a0_4 a0_5 a0_6 a0_7 a0_8 a0_9 a0_10 a0_11 a0_12 a1 [] (j1 + 1) (impl_DataOf_S1 a0_0 a0_1 a0_2 a0_3 a0_4 a0_5 a0_6 a0_7 a0_8 a0_9 a0_10 a0_11 a0_12 a1 o2 p12 v) = impl_DataOf_L1 k a0_0 a0_1 a0_2 a0_3 a0_4 a0_5 a0_6 a0_7 a0_8 a0_9 a0_10 a0_11 a0_12 a1 o2 p12 (fun v => impl_DataOf_it1 k a0_0 a0_1 a0_2 a0_3 a0_4 a0_5 a0_6 a0_7 a0_8 a0_9 a0_10 a0_11 a0_12 a1 [] j1 (impl_DataOf_S1 a0_0 a0_1 a0_2 a0_3 a0_4 a0_5 a0_6 a0_7 a0_8 a0_9 a0_10 a0_11 a0_12 a1 o2 p12 v)) v := by
    intro o2 p12 j1 v; kernel_rfl
  have i1 : ∀ (o2 : Outs) (p12 : Int) (j1 : Nat) (v : Int × List (List T)), impl_DataOf_it1 k a0_0 a0_1 a0_2 a0_3 a0_4 a0_5 a0_6 a0_7 a0_8 a0_9 a0_10 a0_11 a0_12 a1 [] j1 (impl_DataOf_S1 a0_0 a0_1 a0_2 a0_3 a0_4 a0_5 a0_6 a0_7 a0_8 a0_9 a0_10 a0_11 a0_12 a1 o2 p12 v) = fixN (impl_DataOf_l1 k a0_0 a0_1 a0_2 a0_3 a0_4 a0_5 a0_6 a0_7 a0_8 a0_9 a0_10 a0_11 a0_12 a1 o2 p12) j1 v := by
    intro o2 p12 j1 v
    refine iter_fix (impl_DataOf_S1 a0_0 a0_1 a0_2 a0_3 a0_4 a0_5 a0_6 a0_7 a0_8 a0_9 a0_10 a0_11 a0_12 a1 o2 p12) (impl_DataOf_l1 k a0_0 a0_1 a0_2 a0_3 a0_4 a0_5 a0_6 a0_7 a0_8 a0_9 a0_10 a0_11 a0_12 a1 o2 p12) (fun j1 v => (e1 o2 p12 j1 v).trans ?_) j1 v
    unfold impl_DataOf_l1
    rfl
  rw [e0]; unfold impl_DataOf_u
  simp only [i1]
/- impl.dataNow -/
def impl_dataNow_u (k : Nat) (a0_0 : Int) (a0_1 : Int) (a0_2 : Int) (a0_3 : List (List T)) (a0_4 : Int) (a0_5 : Int) (a0_6 : Int) (a0_7 : Int) (a0_8 : Int) (a0_9 : List (List T)) (a0_10 : Int) (a0_11 : Bool) (a0_12 : Bool) (a1 : Int) : Option Outs :=
 bindO (evalF E P0 k N.impl_entOf [.v [.i a0_0, .i a0_1, .i a0_2, .r a0_3, .i a0_4, .i a0_5, .i a0_6, .i a0_7, .i a0_8, .r a0_9, .i a0_10, .b a0_11, .b a0_12], .v [.i a1]]) fun o2 =>
 bif (decide ((o2.t 0).asI ≥ 0)) then
  chk (decide (0 ≤ (o2.t 0).asI) && decide ((o2.t 0).asI < (a0_9.length : Int))) <|
  bindO (evalF E P0 k N.impl_copyInts [.v [.r (at_ a0_9 (o2.t 0).asI.toNat 1).asR]]) fun o6 =>
  some ⟨[.r (o6.t 0).asR, .b true], []⟩
 else
  bindO (evalF E P0 k N.impl_DataOf [.v [.i a0_0, .i a0_1, .i a0_2, .r a0_3, .i a0_4, .i a0_5, .i a0_6, .i a0_7, .i a0_8, .r a0_9, .i a0_10, .b a0_11, .b a0_12], .v [.i a1]]) fun o8 =>
  some ⟨[.r (o8.t 0).asR, .b (o8.t 1).asB], []⟩
theorem impl_dataNow_e (k : Nat) (a0_0 : Int) (a0_1 : Int) (a0_2 : Int) (a0_3 : List (List T)) (a0_4 : Int) (a0_5 : Int) (a0_6 : Int) (a0_7 : Int) (a0_8 : Int) (a0_9 : List (List T)) (a0_10 : Int) (a0_11 : Bool) (a0_12 : Bool) (a1 : Int) : evalF E P0 (k + 1) N.impl_dataNow [.v [.i a0_0, .i a0_1, .i a0_2, .r a0_3, .i a0_4, .i a0_5, .i a0_6, .i a0_7, .i a0_8, .r a0_9, .i a0_10, .b a0_11, .b a0_12], .v [.i a1]] = impl_dataNow_u k a0_0 a0_1 a0_2 a0_3 a0_4 a0_5 a0_6 a0_7 a0_8 a0_9 a0_10 a0_11 a0_12 a1 := by kernel_rfl
/- impl.IndexOf -/
def impl_IndexOf_u (k : Nat) (a0_0 : Int) (a0_1 : Int) (a1 : Int) : Option Outs :=
 bindO (evalF E P0 k N.impl_hasBlock [.v [.i a0_0, .i a0_1], .v [.i a1]]) fun o2 =>
 bif (!(o2.t 0).asB) then
  some ⟨[.i (-1)], []⟩
 else
  chk (!decide ((IntKind.wrap .i64 (a0_0 - 1)) = 0)) <|
  some ⟨[.i (Int.tmod a1 (IntKind.wrap .i64 (a0_0 - 1)))], []⟩
theorem impl_IndexOf_e (k : Nat) (a0_0 : Int) (a0_1 : Int) (a1 : Int) : evalF E P0 (k + 1) N.impl_IndexOf [.v [.i a0_0, .i a0_1], .v [.i a1]] = impl_IndexOf_u k a0_0 a0_1 a1 := by kernel_rfl
/- impl.GetBlock -/
def impl_GetBlock_u (k : Nat) (a0_0 : Int) (a0_1 : Int) (a0_2 : Int) (a0_3 : List (List T)) (a0_4 : Int) (a0_5 : Int) (a0_6 : Int) (a0_7 : Int) (a0_8 : Int) (a0_9 : List (List T)) (a0_10 : Int) (a0_11 : Bool) (a0_12 : Bool) (a1 : Int) : Option Outs :=
 bindO (evalF E P0 k N.impl_blockCode [.v [.i a0_0, .i a0_1, .i a0_2, .r a0_3, .i a0_4, .i a0_5, .i a0_6, .i a0_7, .i a0_8, .r a0_9, .i a0_10, .b a0_11, .b a0_12], .v [.i a1]]) fun o2 =>
 bif ((o2.t 0).asI != 0) then
  some ⟨[.i 0, .i (o2.t 0).asI], []⟩
 else
  bindO (evalF E P0 k N.impl_StripeOf [.v [.i a0_1, .i a0_2], .v [.i a1]]) fun o5 =>
  bindO (evalF E P0 k N.impl_dataNow [.v [.i a0_0, .i a0_1, .i a0_2, .r a0_3, .i a0_4, .i a0_5, .i a0_6, .i a0_7, .i a0_8, .r a0_9, .i a0_10, .b a0_11, .b a0_12], .v [.i (o5.t 0).asI]]) fun o6 =>
  bif (!(o6.t 1).asB) then
   some ⟨[.i 0, .i 5], []⟩
  else
   bindO (evalF E P0 k N.impl_IndexOf [.v [.i a0_1, .i a0_2], .v [.i a1]]) fun o8 =>
   chk (decide (0 ≤ (o8.t 0).asI) && decide ((o8.t 0).asI < ((o6.t 0).asR.length : Int))) <|
   some ⟨[.i (at_ (o6.t 0).asR (o8.t 0).asI.toNat 0).asI, .i 0], []⟩
theorem impl_GetBlock_e (k : Nat) (a0_0 : Int) (a0_1 : Int) (a0_2 : Int) (a0_3 : List (List T)) (a0_4 : Int) (a0_5 : Int) (a0_6 : Int) (a0_7 : Int) (a0_8 : Int) (a0_9 : List (List T)) (a0_10 : Int) (a0_11 : Bool) (a0_12 : Bool) (a1 : Int) : evalF E P0 (k + 1) N.impl_GetBlock [.v [.i a0_0, .i a0_1, .i a0_2, .r a0_3, .i a0_4, .i a0_5, .i a0_6, .i a0_7, .i a0_8, .r a0_9, .i a0_10, .b a0_11, .b a0_12], .v [.i a1]] = impl_GetBlock_u k a0_0 a0_1 a0_2 a0_3 a0_4 a0_5 a0_6 a0_7 a0_8 a0_9 a0_10 a0_11 a0_12 a1 := by kernel_rfl
/- impl.Contents -/
def impl_Contents_L1 (k : Nat) (a0_0 : Int) (a0_1 : Int) (a0_2 : Int) (a0_3 : List (List T)) (a0_4 : Int) (a0_5 : Int) (a0_6 : Int) (a0_7 : Int) (a0_8 : Int) (a0_9 : List (List T)) (a0_10 : Int) (a0_11 : Bool) (a0_12 : Bool) (o2 : Outs) (G1 : (Int × List (List T)) → Option Outs) : (Int × List (List T)) → Option Outs := fun (v8, w8) =>
 bif (decide (v8 < (o2.t 0).asI)) then
  bindO (evalF E P0 k N.impl_GetBlock [.v [.i a0_0, .i a0_1, .i a0_2, .r a0_3, .i a0_4, .i a0_5, .i a0_6, .i a0_7, .i a0_8, .r a0_9, .i a0_10, .b a0_11, .b a0_12], .v [.i v8]]) fun o98 =>
  bif ((o98.t 1).asI != 0) then
   some ⟨[.r []], []⟩
  else
   chk (decide ((w8.length + ([[.i (o98.t 0).asI]] : List (List T)).length) * 8 ≤ 140737488355328)) <|
   G1 ((IntKind.wrap .i64 (v8 + 1)), (w8 ++ [[.i (o98.t 0).asI]]))
 else
  some ⟨[.r w8], []⟩
def impl_Contents_k1 : List Nat := [1, 2, 3, 10, 11, 27]
def impl_Contents_S1 (a0_0 : Int) (a0_1 : Int) (a0_2 : Int) (a0_3 : List (List T)) (a0_4 : Int) (a0_5 : Int) (a0_6 : Int) (a0_7 : Int) (a0_8 : Int) (a0_9 : List (List T)) (a0_10 : Int) (a0_11 : Bool) (a0_12 : Bool) (o2 : Outs) : (Int × List (List T)) → St := fun (v8, w8) => ⟨ofSl [(1, .ptr (1, 0) 0), (2, .ref (2, 0)), (3, .ref (3, 0)), (10, .i .i64 (o2.t 0).asI), (11, .i .i64 v8), (27, .skip)], ofMem [((1, 0), .var [.i .i64 a0_0, .i .i64 a0_1, .i .i64 a0_2, .sl 115 a0_3, .i .i64 a0_4, .i .i64 a0_5, .i .i64 a0_6, .i .i64 a0_7, .i .i64 a0_8, .sl 128 a0_9, .i .i64 a0_10, .b a0_11, .b a0_12]), ((2, 0), .row 3 true []), ((3, 0), .row 3 true w8)]⟩
def impl_Contents_l1 (k : Nat) (a0_0 : Int) (a0_1 : Int) (a0_2 : Int) (a0_3 : List (List T)) (a0_4 : Int) (a0_5 : Int) (a0_6 : Int) (a0_7 : Int) (a0_8 : Int) (a0_9 : List (List T)) (a0_10 : Int) (a0_11 : Bool) (a0_12 : Bool) (o2 : Outs) (G1 : (Int × List (List T)) → Option Outs) : (Int × List (List T)) → Option Outs :=
  impl_Contents_L1 k a0_0 a0_1 a0_2 a0_3 a0_4 a0_5 a0_6 a0_7 a0_8 a0_9 a0_10 a0_11 a0_12 o2 G1
def impl_Contents_U (k : Nat) (a0_0 : Int) (a0_1 : Int) (a0_2 : Int) (a0_3 : List (List T)) (a0_4 : Int) (a0_5 : Int) (a0_6 : Int) (a0_7 : Int) (a0_8 : Int) (a0_9 : List (List T)) (a0_10 : Int) (a0_11 : Bool) (a0_12 : Bool) (R1 : Outs → (Int × List (List T)) → Option Outs) : Option Outs :=
 bindO (evalF E P0 k N.impl_Blocks [.v [.i a0_1, .i a0_2]]) fun o2 =>
 R1 o2 (0, [])
def impl_Contents_u (k : Nat) (a0_0 : Int) (a0_1 : Int) (a0_2 : Int) (a0_3 : List (List T)) (a0_4 : Int) (a0_5 : Int) (a0_6 : Int) (a0_7 : Int) (a0_8 : Int) (a0_9 : List (List T)) (a0_10 : Int) (a0_11 : Bool) (a0_12 : Bool) : Option Outs :=
  impl_Contents_U k a0_0 a0_1 a0_2 a0_3 a0_4 a0_5 a0_6 a0_7 a0_8 a0_9 a0_10 a0_11 a0_12 (fun y0 v => fixN (impl_Contents_l1 k a0_0 a0_1 a0_2 a0_3 a0_4 a0_5 a0_6 a0_7 a0_8 a0_9 a0_10 a0_11 a0_12 y0) k v)
def impl_Contents_it1 (k : Nat) (a0_0 : Int) (a0_1 : Int) (a0_2 : Int) (a0_3 : List (List T)) (a0_4 : Int) (a0_5 : Int) (a0_6 : Int) (a0_7 : Int) (a0_8 : Int) (a0_9 : List (List T)) (a0_10 : Int) (a0_11 : Bool) (a0_12 : Bool) (js : List Nat) (j : Nat) (s : St) : Option Outs := iter (LB E (evalF E P0 k) k [] N.impl_Contents [.sr, .sr, .sl, .sr, .bl]) [] impl_Contents_k1 (LK E (evalF E P0 k) k [] N.impl_Contents [.v [.i a0_0, .i a0_1, .i a0_2, .r a0_3, .i a0_4, .i a0_5, .i a0_6, .i a0_7, .i a0_8, .r a0_9, .i a0_10, .b a0_11, .b a0_12]] [.sr, .sr, .sl, .sr, .bl] js) j s
theorem impl_Contents_e (k : Nat) (a0_0 : Int) (a0_1 : Int) (a0_2 : Int) (a0_3 : List (List T)) (a0_4 : Int) (a0_5 : Int) (a0_6 : Int) (a0_7 : Int) (a0_8 : Int) (a0_9 : List (List T)) (a0_10 : Int) (a0_11 : Bool) (a0_12 : Bool) : evalF E P0 (k + 1) N.impl_Contents [.v [.i a0_0, .i a0_1, .i a0_2, .r a0_3, .i a0_4, .i a0_5, .i a0_6, .i a0_7, .i a0_8, .r a0_9, .i a0_10, .b a0_11, .b a0_12]] = impl_Contents_u k a0_0 a0_1 a0_2 a0_3 a0_4 a0_5 a0_6 a0_7 a0_8 a0_9 a0_10 a0_11 a0_12 := by
  have e0 : evalF E P0 (k + 1) N.impl_Contents [.v [.i a0_0, .i a0_1, .i a0_2, .r a0_3, .i a0_4, .i a0_5, .i a0_6, .i a0_7, .i a0_8, .r a0_9, .i a0_10, .b a0_11, .b a0_12]] = impl_Contents_U k a0_0 a0_1 a0_2 a0_3 a0_4 a0_5 a0_6 a0_7 a0_8 a0_9 a0_10 a0_11 a0_12 (fun y0 v => impl_Contents_it1 k a0_0 a0_1 a0_2 a0_3 a0_4 a0_5 a0_6 a0_7 a0_8 a0_9 a0_10 a0_11 a0_12 [] k (impl_Contents_S1 a0_0 a0_1 a0_2 a0_3 a0_4 a0_5 a0_6 a0_7 a0_8 a0_9 a0_10 a0_11 a0_12 y0 v)) := by kernel_rfl
  have e1 : ∀ (o2 : Outs) (j1 : Nat) (v : Int × List (List T)), impl_Contents_it1 k a0_0 a0_1 a0_2 a0_3 a0_4 a0_5 a0_6 a0_7 a0_8 a0_9 a0_10 a0_11 a0_12 [] (j1 + 1) (impl_Contents_S1 a0_0 a0_1 a0_2 a0_3 a0_4 a0_5 a0_6 a0_7 a0_8 a0_9 a0_10 a0_11 a0_12 o2 v) = impl_Contents_L1 k a0_0 a0_1 a0_2 a0_3 a0_4 a0_5 a0_6 a0_7 a0_8 a0_9 a0_10 a0_11 a0_12 o2 (fun v => impl_Contents_it1 k a0_0 a0_1 a0_2 a0_3 a0_4 a0_5 a0_6 a0_7 a0_8 a0_9 a0_10 a0_11 a0_12 [] j1 (impl_Contents_S1 a0_0 a0_1 a0_2 a0_3 a0_4 a0_5 a0_6 a0_7 a0_8 a0_9 a0_10 a0_11 a0_12 o2 v)) v := by
    intro o2 j1 v; kernel_rfl
  have i1 : ∀ (o2 : Outs) (j1 : Nat) (v : Int × List (List T)), impl_Contents_it1 k a0_0 a0_1 a0_2 a0_3 a0_4 a0_5 a0_6 a0_7 a0_8 a0_9 a0_10 a0_11 a0_12 [] j1 (impl_Contents_S1 a0_0 a0_1 a0_2 a0_3 a0_4 a0_5 a0_6 a0_7 a0_8 a0_9 a0_10 a0_11 a0_12 o2 v) = fixN (impl_Contents_l1 k a0_0 a0_1 a0_2 a0_3 a0_4 a0_5 a0_6 a0_7 a0_8 a0_9 a0_10 a0_11 a0_12 o2) j1 v := by
    intro o2 j1 v
    refine iter_fix (impl_Contents_S1 a0_0 a0_1 a0_2 a0_3 a0_4 a0_5 a0_6 a0_7 a0_8 a0_9 a0_10 a0_11 a0_12 o2) (impl_Contents_l1 k a0_0 a0_1 a0_2 a0_3 a0_4 a0_5 a0_6 a0_7 a0_8 a0_9 a0_10 a0_11 a0_12 o2) (fun j1 v => (e1 o2 j1 v).trans ?_) j1 v
    unfold impl_Contents_l1
    rfl
  rw [e0]; unfold impl_Contents_u
  simp only [i1]
/- impl.Whole -/
def impl_Whole_u (k : Nat) (a0_0 : Int) (a0_1 : Int) (a0_2 : Int) (a0_3 : List (List T)) (a0_4 : Int) (a0_5 : Int) (a0_6 : Int) (a0_7 : Int) (a0_8 : Int) (a0_9 : List (List T)) (a0_10 : Int) (a0_11 : Bool) (a0_12 : Bool) (a0_13 : List (List T)) (a0_14 : List (List T)) (a0_15 : List (List T)) (a0_16 : List (List T)) : Option Outs :=
 bindO (evalF E P0 k N.impl_Contents [.v [.i a0_0, .i a0_1, .i a0_2, .r a0_3, .i a0_4, .i a0_5, .i a0_6, .i a0_7, .i a0_8, .r a0_9, .i a0_10, .b a0_11, .b a0_12]]) fun o3 =>
 bindO (evalF E P0 k N.impl_Blocks [.v [.i a0_1, .i a0_2]]) fun o4 =>
 some ⟨[.b (((o3.t 0).asR.length : Int) == (o4.t 0).asI)], []⟩
theorem impl_Whole_e (k : Nat) (a0_0 : Int) (a0_1 : Int) (a0_2 : Int) (a0_3 : List (List T)) (a0_4 : Int) (a0_5 : Int) (a0_6 : Int) (a0_7 : Int) (a0_8 : Int) (a0_9 : List (List T)) (a0_10 : Int) (a0_11 : Bool) (a0_12 : Bool) (a0_13 : List (List T)) (a0_14 : List (List T)) (a0_15 : List (List T)) (a0_16 : List (List T)) : evalF E P0 (k + 1) N.impl_Whole [.v [.i a0_0, .i a0_1, .i a0_2, .r a0_3, .i a0_4, .i a0_5, .i a0_6, .i a0_7, .i a0_8, .r a0_9, .i a0_10, .b a0_11, .b a0_12, .r a0_13, .r a0_14, .r a0_15, .r a0_16]] = impl_Whole_u k a0_0 a0_1 a0_2 a0_3 a0_4 a0_5 a0_6 a0_7 a0_8 a0_9 a0_10 a0_11 a0_12 a0_13 a0_14 a0_15 a0_16 := by kernel_rfl
/- laws.FnExactWhole -/
def laws_FnExactWhole_u (k : Nat) (a0_0 : Int) (a0_1 : Int) (a0_2 : Int) (a0_3 : List (List T)) (a0_4 : Int) (a0_5 : Int) (a0_6 : Int) (a0_7 : Int) (a0_8 : Int) (a0_9 : List (List T)) (a0_10 : Int) (a0_11 : Bool) (a0_12 : Bool) (a0_13 : List (List T)) (a0_14 : List (List T)) (a0_15 : List (List T)) (a0_16 : List (List T)) : Option Outs :=
 bindO (evalF E P0 k N.laws_szEng [.v [.i a0_0, .i a0_1, .i a0_2, .r a0_3, .i a0_4, .i a0_5, .i a0_6, .i a0_7, .i a0_8, .r a0_9, .i a0_10, .b a0_11, .b a0_12, .r a0_13, .r a0_14, .r a0_15, .r a0_16], .v [.i 1048576]]) fun o2 =>
 bif (decide ((o2.t 0).asI < 0)) then
  some ⟨[.b true], []⟩
 else
  bindO (evalF E P0 k N.laws_toEng [.v [.i a0_0, .i a0_1, .i a0_2, .r a0_3, .i a0_4, .i a0_5, .i a0_6, .i a0_7, .i a0_8, .r a0_9, .i a0_10, .b a0_11, .b a0_12, .r a0_13, .r a0_14, .r a0_15, .r a0_16]]) fun o5 =>
  bindO (evalF E P0 k N.spec_Whole [.v [.i (o5.t 0).asI, .i (o5.t 1).asI, .i (o5.t 2).asI, .r (o5.t 3).asR, .i (o5.t 4).asI, .i (o5.t 5).asI, .i (o5.t 6).asI, .i (o5.t 7).asI, .i (o5.t 8).asI, .r (o5.t 9).asR, .i (o5.t 10).asI, .b (o5.t 11).asB, .b (o5.t 12).asB, .r (o5.t 13).asR, .r (o5.t 14).asR, .r (o5.t 15).asR, .r (o5.t 16).asR]]) fun o6 =>
  bindO (evalF E P0 k N.laws_toEng [.v [.i a0_0, .i a0_1, .i a0_2, .r a0_3, .i a0_4, .i a0_5, .i a0_6, .i a0_7, .i a0_8, .r a0_9, .i a0_10, .b a0_11, .b a0_12, .r a0_13, .r a0_14, .r a0_15, .r a0_16]]) fun o8 =>
  bindO (evalF E P0 k N.impl_Whole [.v [.i (o8.t 0).asI, .i (o8.t 1).asI, .i (o8.t 2).asI, .r (o8.t 3).asR, .i (o8.t 4).asI, .i (o8.t 5).asI, .i (o8.t 6).asI, .i (o8.t 7).asI, .i (o8.t 8).asI, .r (o8.t 9).asR, .i (o8.t 10).asI, .b (o8.t 11).asB, .b (o8.t 12).asB, .r (o8.t 13).asR, .r (o8.t 14).asR, .r (o8.t 15).asR, .r (o8.t 16).asR]]) fun o10 =>
  bif (!((o10.t 0).asB == (o6.t 0).asB)) then
   some ⟨[.b false], []⟩
  else
   bindO (evalF E P0 k N.laws_toEng [.v [.i a0_0, .i a0_1, .i a0_2, .r a0_3, .i a0_4, .i a0_5, .i a0_6, .i a0_7, .i a0_8, .r a0_9, .i a0_10, .b a0_11, .b a0_12, .r a0_13, .r a0_14, .r a0_15, .r a0_16]]) fun o13 =>
   bindO (evalF E P0 k N.laws_eqEng [.v [.i (o8.t 0).asI, .i (o8.t 1).asI, .i (o8.t 2).asI, .r (o8.t 3).asR, .i (o8.t 4).asI, .i (o8.t 5).asI, .i (o8.t 6).asI, .i (o8.t 7).asI, .i (o8.t 8).asI, .r (o8.t 9).asR, .i (o8.t 10).asI, .b (o8.t 11).asB, .b (o8.t 12).asB, .r (o8.t 13).asR, .r (o8.t 14).asR, .r (o8.t 15).asR, .r (o8.t 16).asR], .v [.i (o13.t 0).asI, .i (o13.t 1).asI, .i (o13.t 2).asI, .r (o13.t 3).asR, .i (o13.t 4).asI, .i (o13.t 5).asI, .i (o13.t 6).asI, .i (o13.t 7).asI, .i (o13.t 8).asI, .r (o13.t 9).asR, .i (o13.t 10).asI, .b (o13.t 11).asB, .b (o13.t 12).asB, .r (o13.t 13).asR, .r (o13.t 14).asR, .r (o13.t 15).asR, .r (o13.t 16).asR]]) fun o14 =>
   bif (!(o14.t 0).asB) then some ⟨[.b false], []⟩ else some ⟨[.b true], []⟩
theorem laws_FnExactWhole_e (k : Nat) (a0_0 : Int) (a0_1 : Int) (a0_2 : Int) (a0_3 : List (List T)) (a0_4 : Int) (a0_5 : Int) (a0_6 : Int) (a0_7 : Int) (a0_8 : Int) (a0_9 : List (List T)) (a0_10 : Int) (a0_11 : Bool) (a0_12 : Bool) (a0_13 : List (List T)) (a0_14 : List (List T)) (a0_15 : List (List T)) (a0_16 : List (List T)) : evalF E P0 (k + 1) N.laws_FnExactWhole [.v [.i a0_0, .i a0_1, .i a0_2, .r a0_3, .i a0_4, .i a0_5, .i a0_6, .i a0_7, .i a0_8, .r a0_9, .i a0_10, .b a0_11, .b a0_12, .r a0_13, .r a0_14, .r a0_15, .r a0_16]] = laws_FnExactWhole_u k a0_0 a0_1 a0_2 a0_3 a0_4 a0_5 a0_6 a0_7 a0_8 a0_9 a0_10 a0_11 a0_12 a0_13 a0_14 a0_15 a0_16 := by kernel_rfl
/- spec.Apart -/
def spec_Apart_L2 (k : Nat) (a0_0 : Int) (a0_1 : Int) (a0_2 : Int) (a0_3 : List (List T)) (a0_4 : Int) (a0_5 : Int) (a0_6 : Int) (a0_7 : Int) (a0_8 : Int) (a0_9 : List (List T)) (a0_10 : Int) (a0_11 : Bool) (a0_12 : Bool) (a0_13 : List (List T)) (a0_14 : List (List T)) (a0_15 : List (List T)) (a0_16 : List (List T)) (v120 : Int) (G1 : (Int) → Option Outs) (G2 : (Int) → Option Outs) : (Int) → Option Outs := fun v136 =>
 bif (decide (v136 < v120)) then
  chk (decide (0 ≤ v120) && decide (v120 < (a0_14.length : Int))) <|
  chk (decide (0 ≤ v136) && decide (v136 < (a0_14.length : Int))) <|
  bindO (evalF E P0 k N.spec_Clash [.v [.i a0_1, .i a0_2], .v [.i (at_ a0_14 v120.toNat 0).asI, .i (at_ a0_14 v120.toNat 1).asI, .i (at_ a0_14 v120.toNat 2).asI, .i (at_ a0_14 v120.toNat 3).asI, .r (at_ a0_14 v120.toNat 4).asR], .v [.i (at_ a0_14 v136.toNat 0).asI, .i (at_ a0_14 v136.toNat 1).asI, .i (at_ a0_14 v136.toNat 2).asI, .i (at_ a0_14 v136.toNat 3).asI, .r (at_ a0_14 v136.toNat 4).asR]]) fun o1536 =>
  bif (o1536.t 0).asB then some ⟨[.b false], []⟩ else G2 (IntKind.wrap .i64 (v136 + 1))
 else
  G1 (IntKind.wrap .i64 (v120 + 1))
def spec_Apart_k2 : List Nat := [1, 2, 3, 4, 10, 11]
def spec_Apart_S2 (a0_0 : Int) (a0_1 : Int) (a0_2 : Int) (a0_3 : List (List T)) (a0_4 : Int) (a0_5 : Int) (a0_6 : Int) (a0_7 : Int) (a0_8 : Int) (a0_9 : List (List T)) (a0_10 : Int) (a0_11 : Bool) (a0_12 : Bool) (a0_13 : List (List T)) (a0_14 : List (List T)) (a0_15 : List (List T)) (a0_16 : List (List T)) (v120 : Int) : (Int) → St := fun v136 => ⟨ofSl [(1, .ptr (1, 0) 0), (2, .b false), (3, .i .i64 v120), (4, .i .i64 v136), (10, .undef), (11, .undef)], ofMem [((1, 0), .var [.i .i64 a0_0, .i .i64 a0_1, .i .i64 a0_2, .sl 115 a0_3, .i .i64 a0_4, .i .i64 a0_5, .i .i64 a0_6, .i .i64 a0_7, .i .i64 a0_8, .sl 128 a0_9, .i .i64 a0_10, .b a0_11, .b a0_12, .sl 89 a0_13, .sl 92 a0_14, .sl 94 a0_15, .sl 97 a0_16])]⟩
def spec_Apart_L1 (k : Nat) (a0_0 : Int) (a0_1 : Int) (a0_2 : Int) (a0_3 : List (List T)) (a0_4 : Int) (a0_5 : Int) (a0_6 : Int) (a0_7 : Int) (a0_8 : Int) (a0_9 : List (List T)) (a0_10 : Int) (a0_11 : Bool) (a0_12 : Bool) (a0_13 : List (List T)) (a0_14 : List (List T)) (a0_15 : List (List T)) (a0_16 : List (List T)) (R2 : Int → (Int) → Option Outs) (G1 : (Int) → Option Outs) : (Int) → Option Outs := fun v120 =>
 bif (decide (v120 < (a0_14.length : Int))) then R2 v120 0 else some ⟨[.b true], []⟩
def spec_Apart_k1 : List Nat := [1, 2, 3]
def spec_Apart_S1 (a0_0 : Int) (a0_1 : Int) (a0_2 : Int) (a0_3 : List (List T)) (a0_4 : Int) (a0_5 : Int) (a0_6 : Int) (a0_7 : Int) (a0_8 : Int) (a0_9 : List (List T)) (a0_10 : Int) (a0_11 : Bool) (a0_12 : Bool) (a0_13 : List (List T)) (a0_14 : List (List T)) (a0_15 : List (List T)) (a0_16 : List (List T)) : (Int) → St := fun v120 => ⟨ofSl [(1, .ptr (1, 0) 0), (2, .b false), (3, .i .i64 v120)], ofMem [((1, 0), .var [.i .i64 a0_0, .i .i64 a0_1, .i .i64 a0_2, .sl 115 a0_3, .i .i64 a0_4, .i .i64 a0_5, .i .i64 a0_6, .i .i64 a0_7, .i .i64 a0_8, .sl 128 a0_9, .i .i64 a0_10, .b a0_11, .b a0_12, .sl 89 a0_13, .sl 92 a0_14, .sl 94 a0_15, .sl 97 a0_16])]⟩
def spec_Apart_l2 (k : Nat) (a0_0 : Int) (a0_1 : Int) (a0_2 : Int) (a0_3 : List (List T)) (a0_4 : Int) (a0_5 : Int) (a0_6 : Int) (a0_7 : Int) (a0_8 : Int) (a0_9 : List (List T)) (a0_10 : Int) (a0_11 : Bool) (a0_12 : Bool) (a0_13 : List (List T)) (a0_14 : List (List T)) (a0_15 : List (List T)) (a0_16 : List (List T)) (v120 : Int) (G1 : (Int) → Option Outs) (G2 : (Int) → Option Outs) : (Int) → Option Outs :=
  spec_Apart_L2 k a0_0 a0_1 a0_2 a0_3 a0_4 a0_5 a0_6 a0_7 a0_8 a0_9 a0_10 a0_11 a0_12 a0_13 a0_14 a0_15 a0_16 v120 G1 G2
def spec_Apart_l1 (k : Nat) (a0_0 : Int) (a0_1 : Int) (a0_2 : Int) (a0_3 : List (List T)) (a0_4 : Int) (a0_5 : Int) (a0_6 : Int) (a0_7 : Int) (a0_8 : Int) (a0_9 : List (List T)) (a0_10 : Int) (a0_11 : Bool) (a0_12 : Bool) (a0_13 : List (List T)) (a0_14 : List (List T)) (a0_15 : List (List T)) (a0_16 : List (List T)) (G1 : (Int) → Option Outs) : (Int) → Option Outs :=
  spec_Apart_L1 k a0_0 a0_1 a0_2 a0_3 a0_4 a0_5 a0_6 a0_7 a0_8 a0_9 a0_10 a0_11 a0_12 a0_13 a0_14 a0_15 a0_16 (fun y0 v => fixN (spec_Apart_l2 k a0_0 a0_1 a0_2 a0_3 a0_4 a0_5 a0_6 a0_7 a0_8 a0_9 a0_10 a0_11 a0_12 a0_13 a0_14 a0_15 a0_16 y0 G1) k v) G1
def spec_Apart_U (k : Nat) (a0_0 : Int) (a0_1 : Int) (a0_2 : Int) (a0_3 : List (List T)) (a0_4 : Int) (a0_5 : Int) (a0_6 : Int) (a0_7 : Int) (a0_8 : Int) (a0_9 : List (List T)) (a0_10 : Int) (a0_11 : Bool) (a0_12 : Bool) (a0_13 : List (List T)) (a0_14 : List (List T)) (a0_15 : List (List T)) (a0_16 : List (List T)) (R1 : (Int) → Option Outs) : Option Outs :=
 R1 0
def spec_Apart_u (k : Nat) (a0_0 : Int) (a0_1 : Int) (a0_2 : Int) (a0_3 : List (List T)) (a0_4 : Int) (a0_5 : Int) (a0_6 : Int) (a0_7 : Int) (a0_8 : Int) (a0_9 : List (List T)) (a0_10 : Int) (a0_11 : Bool) (a0_12 : Bool) (a0_13 : List (List T)) (a0_14 : List (List T)) (a0_15 : List (List T)) (a0_16 : List (List T)) : Option Outs :=
  spec_Apart_U k a0_0 a0_1 a0_2 a0_3 a0_4 a0_5 a0_6 a0_7 a0_8 a0_9 a0_10 a0_11 a0_12 a0_13 a0_14 a0_15 a0_16 (fun v => fixN (spec_Apart_l1 k a0_0 a0_1 a0_2 a0_3 a0_4 a0_5 a0_6 a0_7 a0_8 a0_9 a0_10 a0_11 a0_12 a0_13 a0_14 a0_15 a0_16) k v)
def spec_Apart_it1 (k : Nat) (a0_0 : Int) (a0_1 : Int) (a0_2 : Int) (a0_3 : List (List T)) (a0_4 : Int) (a0_5 : Int) (a0_6 : Int) (a0_7 : Int) (a0_8 : Int) (a0_9 : List (List T)) (a0_10 : Int) (a0_11 : Bool) (a0_12 : Bool) (a0_13 : List (List T)) (a0_14 : List (List T)) (a0_15 : List (List T)) (a0_16 : List (List T)) (js : List Nat) (j : Nat) (s : St) : Option Outs := iter (LB E (evalF E P0 k) k [] N.spec_Apart [.sr, .sl, .sr, .bl]) [] spec_Apart_k1 (LK E (evalF E P0 k) k [] N.spec_Apart [.v [.i a0_0, .i a0_1, .i a0_2, .r a0_3, .i a0_4, .i a0_5, .i a0_6, .i a0_7, .i a0_8, .r a0_9, .i a0_10, .b a0_11, .b a0_12, .r a0_13, .r a0_14, .r a0_15, .r a0_16]] [.sr, .sl, .sr, .bl] js) j s
def spec_Apart_it2 (k : Nat) (a0_0 : Int) (a0_1 : Int) (a0_2 : Int) (a0_3 : List (List T)) (a0_4 : Int) (a0_5 : Int) (a0_6 : Int) (a0_7 : Int) (a0_8 : Int) (a0_9 : List (List T)) (a0_10 : Int) (a0_11 : Bool) (a0_12 : Bool) (a0_13 : List (List T)) (a0_14 : List (List T)) (a0_15 : List (List T)) (a0_16 : List (List T)) (js : List Nat) (j : Nat) (s : St) : Option Outs := iter (LB E (evalF E P0 k) k [] N.spec_Apart [.sr, .sl, .sr, .bl, .lp, .sr, .sl, .bl, .sr, .bl]) [] spec_Apart_k2 (LK E (evalF E P0 k) k [] N.spec_Apart [.v [.i a0_0, .i a0_1, .i a0_2, .r a0_3, .i a0_4, .i a0_5, .i a0_6, .i a0_7, .i a0_8, .r a0_9, .i a0_10, .b a0_11, .b a0_12, .r a0_13, .r a0_14, .r a0_15, .r a0_16]] [.sr, .sl, .sr, .bl, .lp, .sr, .sl, .bl, .sr, .bl] js) j s
theorem spec_Apart_e (k : Nat) (a0_0 : Int) (a0_1 : Int) (a0_2 : Int) (a0_3 : List (List T)) (a0_4 : Int) (a0_5 : Int) (a0_6 : Int) (a0_7 : Int) (a0_8 : Int) (a0_9 : List (List T)) (a0_10 : Int) (a0_11 : Bool) (a0_12 : Bool) (a0_13 : List (List T)) (a0_14 : List (List T)) (a0_15 : List (List T)) (a0_16 : List (List T)) : evalF E P0 (k + 1) N.spec_Apart [.v [.i a0_0, .i a0_1, .i a0_2, .r a0_3, .i a0_4, .i a0_5, .i a0_6, .i a0_7, .i a0_8, .r a0_9, .i a0_10, .b a0_11, .b a0_12, .r a0_13, .r a0_14, .r a0_15, .r a0_16]] = spec_Apart_u k a0_0 a0_1 a0_2 a0_3 a0_4 a0_5 a0_6 a0_7 a0_8 a0_9 a0_10 a0_11 a0_12 a0_13 a0_14 a0_15 a0_16 := by
  have e0 : evalF E P0 (k + 1) N.spec_Apart [.v [.i a0_0, .i a0_1, .i a0_2, .r a0_3, .i a0_4, .i a0_5, .i a0_6, .i a0_7, .i a0_8, .r a0_9, .i a0_10, .b a0_11, .b a0_12, .r a0_13, .r a0_14, .r a0_15, .r a0_16]] = spec_Apart_U k a0_0 a0_1 a0_2 a0_3 a0_4 a0_5 a0_6 a0_7 a0_8 a0_9 a0_10 a0_11 a0_12 a0_13 a0_14 a0_15 a0_16 (fun v => spec_Apart_it1 k a0_0 a0_1 a0_2 a0_3 a0_4 a0_5 a0_6 a0_7 a0_8 a0_9 a0_10 a0_11 a0_12 a0_13 a0_14 a0_15 a0_16 [] k (spec_Apart_S1 a0_0 a0_1 a0_2 a0_3 a0_4 a0_5 a0_6 a0_7 a0_8 a0_9 a0_10 a0_11 a0_12 a0_13 a0_14 a0_15 a0_16 v)) := by kernel_rfl
  have e2 : ∀ (j1 : Nat) (v120 : Int) (j2 : Nat) (v : Int), spec_Apart_it2 k a0_0 a0_1 a0_2 a0_3 a0_4 a0_5 a0_6 a0_7 a0_8 a0_9 a0_10 a0_11 a0_12 a0_13 a0_14 a0_15 a0_16 [j1] (j2 + 1) (spec_Apart_S2 a0_0 a0_1 a0_2 a0_3 a0_4 a0_5 a0_6 a0_7 a0_8 a0_9 a0_10 a0_11 a0_12 a0_13 a0_14 a0_15 a0_16 v120 v) = spec_Apart_L2 k a0_0 a0_1 a0_2 a0_3 a0_4 a0_5 a0_6 a0_7 a0_8 a0_9 a0_10 a0_11 a0_12 a0_13 a0_14 a0_15 a0_16 v120 (fun v => spec_Apart_it1 k a0_0 a0_1 a0_2 a0_3 a0_4 a0_5 a0_6 a0_7 a0_8 a0_9 a0_10 a0_11 a0_12 a0_13 a0_14 a0_15 a0_16 [] j1 (spec_Apart_S1 a0_0 a0_1 a0_2 a0_3 a0_4 a0_5 a0_6 a0_7 a0_8 a0_9 a0_10 a0_11 a0_12 a0_13 a0_14 a0_15 a0_16 v)) (fun v => spec_Apart_it2 k a0_0 a0_1 a0_2 a0_3 a0_4 a0_5 a0_6 a0_7 a0_8 a0_9 a0_10 a0_11 a0_12 a0_13 a0_14 a0_15 a0_16 [j1] j2 (spec_Apart_S2 a0_0 a0_1 a0_2 a0_3 a0_4 a0_5 a0_6 a0_7 a0_8 a0_9 a0_10 a0_11 a0_12 a0_13 a0_14 a0_15 a0_16 v120 v)) v := by
    intro j1 v120 j2 v; kernel_rfl
  have i2 : ∀ (j1 : Nat) (v120 : Int) (j2 : Nat) (v : Int), spec_Apart_it2 k a0_0 a0_1 a0_2 a0_3 a0_4 a0_5 a0_6 a0_7 a0_8 a0_9 a0_10 a0_11 a0_12 a0_13 a0_14 a0_15 a0_16 [j1] j2 (spec_Apart_S2 a0_0 a0_1 a0_2 a0_3 a0_4 a0_5 a0_6 a0_7 a0_8 a0_9 a0_10 a0_11 a0_12 a0_13 a0_14 a0_15 a0_16 v120 v) = fixN (spec_Apart_l2 k a0_0 a0_1 a0_2 a0_3 a0_4 a0_5 a0_6 a0_7 a0_8 a0_9 a0_10 a0_11 a0_12 a0_13 a0_14 a0_15 a0_16 v120 (fun v => spec_Apart_it1 k a0_0 a0_1 a0_2 a0_3 a0_4 a0_5 a0_6 a0_7 a0_8 a0_9 a0_10 a0_11 a0_12 a0_13 a0_14 a0_15 a0_16 [] j1 (spec_Apart_S1 a0_0 a0_1 a0_2 a0_3 a0_4 a0_5 a0_6 a0_7 a0_8 a0_9 a0_10 a0_11 a0_12 a0_13 a0_14 a0_15 a0_16 v))) j2 v := by
    intro j1 v120 j2 v
    refine iter_fix (spec_Apart_S2 a0_0 a0_1 a0_2 a0_3 a0_4 a0_5 a0_6 a0_7 a0_8 a0_9 a0_10 a0_11 a0_12 a0_13 a0_14 a0_15 a0_16 v120) (spec_Apart_l2 k a0_0 a0_1 a0_2 a0_3 a0_4 a0_5 a0_6 a0_7 a0_8 a0_9 a0_10 a0_11 a0_12 a0_13 a0_14 a0_15 a0_16 v120 (fun v => spec_Apart_it1 k a0_0 a0_1 a0_2 a0_3 a0_4 a0_5 a0_6 a0_7 a0_8 a0_9 a0_10 a0_11 a0_12 a0_13 a0_14 a0_15 a0_16 [] j1 (spec_Apart_S1 a0_0 a0_1 a0_2 a0_3 a0_4 a0_5 a0_6 a0_7 a0_8 a0_9 a0_10 a0_11 a0_12 a0_13 a0_14 a0_15 a0_16 v))) (fun j2 v => (e2 j1 v120 j2 v).trans ?_) j2 v
    unfold spec_Apart_l2
    rfl
  have e1 : ∀ (j1 : Nat) (v : Int), spec_Apart_it1 k a0_0 a0_1 a0_2 a0_3 a0_4 a0_5 a0_6 a0_7 a0_8 a0_9 a0_10 a0_11 a0_12 a0_13 a0_14 a0_15 a0_16 [] (j1 + 1) (spec_Apart_S1 a0_0 a0_1 a0_2 a0_3 a0_4 a0_5 a0_6 a0_7 a0_8 a0_9 a0_10 a0_11 a0_12 a0_13 a0_14 a0_15 a0_16 v) = spec_Apart_L1 k a0_0 a0_1 a0_2 a0_3 a0_4 a0_5 a0_6 a0_7 a0_8 a0_9 a0_10 a0_11 a0_12 a0_13 a0_14 a0_15 a0_16 (fun y0 v => spec_Apart_it2 k a0_0 a0_1 a0_2 a0_3 a0_4 a0_5 a0_6 a0_7 a0_8 a0_9 a0_10 a0_11 a0_12 a0_13 a0_14 a0_15 a0_16 [j1] k (spec_Apart_S2 a0_0 a0_1 a0_2 a0_3 a0_4 a0_5 a0_6 a0_7 a0_8 a0_9 a0_10 a0_11 a0_12 a0_13 a0_14 a0_15 a0_16 y0 v)) (fun v => spec_Apart_it1 k a0_0 a0_1 a0_2 a0_3 a0_4 a0_5 a0_6 a0_7 a0_8 a0_9 a0_10 a0_11 a0_12 a0_13 a0_14 a0_15 a0_16 [] j1 (spec_Apart_S1 a0_0 a0_1 a0_2 a0_3 a0_4 a0_5 a0_6 a0_7 a0_8 a0_9 a0_10 a0_11 a0_12 a0_13 a0_14 a0_15 a0_16 v)) v := by
    intro j1 v; kernel_rfl
  have i1 : ∀ (j1 : Nat) (v : Int), spec_Apart_it1 k a0_0 a0_1 a0_2 a0_3 a0_4 a0_5 a0_6 a0_7 a0_8 a0_9 a0_10 a0_11 a0_12 a0_13 a0_14 a0_15 a0_16 [] j1 (spec_Apart_S1 a0_0 a0_1 a0_2 a0_3 a0_4 a0_5 a0_6 a0_7 a0_8 a0_9 a0_10 a0_11 a0_12 a0_13 a0_14 a0_15 a0_16 v) = fixN (spec_Apart_l1 k a0_0 a0_1 a0_2 a0_3 a0_4 a0_5 a0_6 a0_7 a0_8 a0_9 a0_10 a0_11 a0_12 a0_13 a0_14 a0_15 a0_16) j1 v := by
    intro j1 v
    refine iter_fix (spec_Apart_S1 a0_0 a0_1 a0_2 a0_3 a0_4 a0_5 a0_6 a0_7 a0_8 a0_9 a0_10 a0_11 a0_12 a0_13 a0_14 a0_15 a0_16) (spec_Apart_l1 k a0_0 a0_1 a0_2 a0_3 a0_4 a0_5 a0_6 a0_7 a0_8 a0_9 a0_10 a0_11 a0_12 a0_13 a0_14 a0_15 a0_16) (fun j1 v => (e1 j1 v).trans ?_) j1 v
    unfold spec_Apart_l1
    simp only [i2] <;> rfl
  rw [e0]; unfold spec_Apart_u
  simp only [i1]
/- spec.XorAt -/
def spec_XorAt_L1 (k : Nat) (a0_0 : Int) (a0_1 : Int) (a0_2 : Int) (a0_3 : List (List T)) (a0_4 : Int) (a0_5 : Int) (a0_6 : Int) (a0_7 : Int) (a0_8 : Int) (a0_9 : List (List T)) (a0_10 : Int) (a0_11 : Bool) (a0_12 : Bool) (a1 : Int) (G1 : (Int × Int) → Option Outs) : (Int × Int) → Option Outs := fun (v15, v16) =>
 bif (decide (v16 < (a0_3.length : Int))) then
  bindO (evalF E P0 k N.spec_l6Word [.v [.i a0_0, .i a0_1, .i a0_2, .r a0_3, .i a0_4, .i a0_5, .i a0_6, .i a0_7, .i a0_8, .r a0_9, .i a0_10, .b a0_11, .b a0_12], .v [.i v16], .v [.i a1]]) fun o96 =>
  bif (!(o96.t 1).asB) then
   some ⟨[.i 0, .b false], []⟩
  else
   G1 ((bitsXor .i64 v15 (o96.t 0).asI), (IntKind.wrap .i64 (v16 + 1)))
 else
  some ⟨[.i v15, .b true], []⟩
def spec_XorAt_k1 : List Nat := [1, 2, 4, 5, 6, 7, 29]
def spec_XorAt_S1 (a0_0 : Int) (a0_1 : Int) (a0_2 : Int) (a0_3 : List (List T)) (a0_4 : Int) (a0_5 : Int) (a0_6 : Int) (a0_7 : Int) (a0_8 : Int) (a0_9 : List (List T)) (a0_10 : Int) (a0_11 : Bool) (a0_12 : Bool) (a1 : Int) : (Int × Int) → St := fun (v15, v16) => ⟨ofSl [(1, .i .i64 a1), (2, .ptr (2, 0) 0), (4, .i .i64 0), (5, .b false), (6, .i .i64 v15), (7, .i .i64 v16), (29, .skip)], ofMem [((2, 0), .var [.i .i64 a0_0, .i .i64 a0_1, .i .i64 a0_2, .sl 115 a0_3, .i .i64 a0_4, .i .i64 a0_5, .i .i64 a0_6, .i .i64 a0_7, .i .i64 a0_8, .sl 128 a0_9, .i .i64 a0_10, .b a0_11, .b a0_12])]⟩
def spec_XorAt_l1 (k : Nat) (a0_0 : Int) (a0_1 : Int) (a0_2 : Int) (a0_3 : List (List T)) (a0_4 : Int) (a0_5 : Int) (a0_6 : Int) (a0_7 : Int) (a0_8 : Int) (a0_9 : List (List T)) (a0_10 : Int) (a0_11 : Bool) (a0_12 : Bool) (a1 : Int) (G1 : (Int × Int) → Option Outs) : (Int × Int) → Option Outs :=
  spec_XorAt_L1 k a0_0 a0_1 a0_2 a0_3 a0_4 a0_5 a0_6 a0_7 a0_8 a0_9 a0_10 a0_11 a0_12 a1 G1
def spec_XorAt_U (k : Nat) (a0_0 : Int) (a0_1 : Int) (a0_2 : Int) (a0_3 : List (List T)) (a0_4 : Int) (a0_5 : Int) (a0_6 : Int) (a0_7 : Int) (a0_8 : Int) (a0_9 : List (List T)) (a0_10 : Int) (a0_11 : Bool) (a0_12 : Bool) (a1 : Int) (R1 : (Int × Int) → Option Outs) : Option Outs :=
 R1 (0, 0)
def spec_XorAt_u (k : Nat) (a0_0 : Int) (a0_1 : Int) (a0_2 : Int) (a0_3 : List (List T)) (a0_4 : Int) (a0_5 : Int) (a0_6 : Int) (a0_7 : Int) (a0_8 : Int) (a0_9 : List (List T)) (a0_10 : Int) (a0_11 : Bool) (a0_12 : Bool) (a1 : Int) : Option Outs :=
  spec_XorAt_U k a0_0 a0_1 a0_2 a0_3 a0_4 a0_5 a0_6 a0_7 a0_8 a0_9 a0_10 a0_11 a0_12 a1 (fun v => fixN (spec_XorAt_l1 k a0_0 a0_1 a0_2 a0_3 a0_4 a0_5 a0_6 a0_7 a0_8 a0_9 a0_10 a0_11 a0_12 a1) k v)
def spec_XorAt_it1 (k : Nat) (a0_0 : Int) (a0_1 : Int) (a0_2 : Int) (a0_3 : List (List T)) (a0_4 : Int) (a0_5 : Int) (a0_6 : Int) (a0_7 : Int) (a0_8 : Int) (a0_9 : List (List T)) (a0_10 : Int) (a0_11 : Bool) (a0_12 : Bool) (a1 : Int) (js : List Nat) (j : Nat) (s : St) : Option Outs := iter (LB E (evalF E P0 k) k [] N.spec_XorAt [.sr, .sr, .sl, .sr, .bl]) [] spec_XorAt_k1 (LK E (evalF E P0 k) k [] N.spec_XorAt [.v [.i a0_0, .i a0_1, .i a0_2, .r a0_3, .i a0_4, .i a0_5, .i a0_6, .i a0_7, .i a0_8, .r a0_9, .i a0_10, .b a0_11, .b a0_12], .v [.i a1]] [.sr, .sr, .sl, .sr, .bl] js) j s
theorem spec_XorAt_e (k : Nat) (a0_0 : Int) (a0_1 : Int) (a0_2 : Int) (a0_3 : List (List T)) (a0_4 : Int) (a0_5 : Int) (a0_6 : Int) (a0_7 : Int) (a0_8 : Int) (a0_9 : List (List T)) (a0_10 : Int) (a0_11 : Bool) (a0_12 : Bool) (a1 : Int) : evalF E P0 (k + 1) N.spec_XorAt [.v [.i a0_0, .i a0_1, .i a0_2, .r a0_3, .i a0_4, .i a0_5, .i a0_6, .i a0_7, .i a0_8, .r a0_9, .i a0_10, .b a0_11, .b a0_12], .v [.i a1]] = spec_XorAt_u k a0_0 a0_1 a0_2 a0_3 a0_4 a0_5 a0_6 a0_7 a0_8 a0_9 a0_10 a0_11 a0_12 a1 := by
  have e0 : evalF E P0 (k + 1) N.spec_XorAt [.v [.i a0_0, .i a0_1, .i a0_2, .r a0_3, .i a0_4, .i a0_5, .i a0_6, .i a0_7, .i a0_8, .r a0_9, .i a0_10, .b a0_11, .b a0_12], .v [.i a1]] = spec_XorAt_U k a0_0 a0_1 a0_2 a0_3 a0_4 a0_5 a0_6 a0_7 a0_8 a0_9 a0_10 a0_11 a0_12 a1 (fun v => spec_XorAt_it1 k a0_0 a0_1 a0_2 a0_3 a0_4 a0_5 a0_6 a0_7 a0_8 a0_9 a0_10 a0_11 a0_12 a1 [] k (spec_XorAt_S1 a0_0 a0_1 a0_2 a0_3 a0_4 a0_5 a0_6 a0_7 a0_8 a0_9 a0_10 a0_11 a0_12 a1 v)) := by kernel_rfl
  have e1 : ∀ (j1 : Nat) (v : Int × Int), spec_XorAt_it1 k a0_0 a0_1 a0_2 a0_3 a0_4 a0_5 a0_6 a0_7 a0_8 a0_9 a0_10 a0_11 a0_12 a1 [] (j1 + 1) (spec_XorAt_S1 a0_0 a0_1 a0_2 a0_3 a0_4 a0_5 a0_6 a0_7 a0_8 a0_9 a0_10 a0_11 a0_12 a1 v) = spec_XorAt_L1 k a0_0 a0_1 a0_2 a0_3 a0_4 a0_5 a0_6 a0_7 a0_8 a0_9 a0_10 a0_11 a0_12 a1 (fun v => spec_XorAt_it1 k a0_0 a0_1 a0_2 a0_3 a0_4 a0_5 a0_6 a0_7 a0_8 a0_9 a0_10 a0_11 a0_12 a1 [] j1 (spec_XorAt_S1 a0_0 a0_1 a0_2 a0_3 a0_4 a0_5 a0_6 a0_7 a0_8 a0_9 a0_10 a0_11 a0_12 a1 v)) v := by
    intro j1 v; kernel_rfl
  have i1 : ∀ (j1 : Nat) (v : Int × Int), spec_XorAt_it1 k a0_0 a0_1 a0_2 a0_3 a0_4 a0_5 a0_6 a0_7 a0_8 a0_9 a0_10 a0_11 a0_12 a1 [] j1 (spec_XorAt_S1 a0_0 a0_1 a0_2 a0_3 a0_4 a0_5 a0_6 a0_7 a0_8 a0_9 a0_10 a0_11 a0_12 a1 v) = fixN (spec_XorAt_l1 k a0_0 a0_1 a0_2 a0_3 a0_4 a0_5 a0_6 a0_7 a0_8 a0_9 a0_10 a0_11 a0_12 a1) j1 v := by
    intro j1 v
    refine iter_fix (spec_XorAt_S1 a0_0 a0_1 a0_2 a0_3 a0_4 a0_5 a0_6 a0_7 a0_8 a0_9 a0_10 a0_11 a0_12 a1) (spec_XorAt_l1 k a0_0 a0_1 a0_2 a0_3 a0_4 a0_5 a0_6 a0_7 a0_8 a0_9 a0_10 a0_11 a0_12 a1) (fun j1 v => (e1 j1 v).trans ?_) j1 v
    unfold spec_XorAt_l1
    rfl
  rw [e0]; unfold spec_XorAt_u
  simp only [i1]
/- spec.Even -/
def spec_Even_J1 (k : Nat) (a0_0 : Int) (a0_1 : Int) (a0_2 : Int) (a0_3 : List (List T)) (a0_4 : Int) (a0_5 : Int) (a0_6 : Int) (a0_7 : Int) (a0_8 : Int) (a0_9 : List (List T)) (a0_10 : Int) (a0_11 : Bool) (a0_12 : Bool) (v8 : Int) (G1 : (Int) → Option Outs) (c56 : Bool) : Option Outs :=
 bif c56 then
  bindO (evalF E P0 k N.spec_XorAt [.v [.i a0_0, .i a0_1, .i a0_2, .r a0_3, .i a0_4, .i a0_5, .i a0_6, .i a0_7, .i a0_8, .r a0_9, .i a0_10, .b a0_11, .b a0_12], .v [.i v8]]) fun o96 =>
  bif (o96.t 1).asB then
   bif ((o96.t 0).asI != 0) then some ⟨[.b false], []⟩ else G1 (IntKind.wrap .i64 (v8 + 1))
  else
   G1 (IntKind.wrap .i64 (v8 + 1))
 else
  some ⟨[.b true], []⟩
def spec_Even_L1 (k : Nat) (a0_0 : Int) (a0_1 : Int) (a0_2 : Int) (a0_3 : List (List T)) (a0_4 : Int) (a0_5 : Int) (a0_6 : Int) (a0_7 : Int) (a0_8 : Int) (a0_9 : List (List T)) (a0_10 : Int) (a0_11 : Bool) (a0_12 : Bool) (G1 : (Int) → Option Outs) : (Int) → Option Outs := fun v8 =>
 bif (decide (v8 < a0_2)) then
  spec_Even_J1 k a0_0 a0_1 a0_2 a0_3 a0_4 a0_5 a0_6 a0_7 a0_8 a0_9 a0_10 a0_11 a0_12 v8 G1 (decide (v8 < 20))
 else
  spec_Even_J1 k a0_0 a0_1 a0_2 a0_3 a0_4 a0_5 a0_6 a0_7 a0_8 a0_9 a0_10 a0_11 a0_12 v8 G1 false
def spec_Even_k1 : List Nat := [1, 2, 3]
def spec_Even_S1 (a0_0 : Int) (a0_1 : Int) (a0_2 : Int) (a0_3 : List (List T)) (a0_4 : Int) (a0_5 : Int) (a0_6 : Int) (a0_7 : Int) (a0_8 : Int) (a0_9 : List (List T)) (a0_10 : Int) (a0_11 : Bool) (a0_12 : Bool) : (Int) → St := fun v8 => ⟨ofSl [(1, .ptr (1, 0) 0), (2, .b false), (3, .i .i64 v8)], ofMem [((1, 0), .var [.i .i64 a0_0, .i .i64 a0_1, .i .i64 a0_2, .sl 115 a0_3, .i .i64 a0_4, .i .i64 a0_5, .i .i64 a0_6, .i .i64 a0_7, .i .i64 a0_8, .sl 128 a0_9, .i .i64 a0_10, .b a0_11, .b a0_12])]⟩
def spec_Even_l1 (k : Nat) (a0_0 : Int) (a0_1 : Int) (a0_2 : Int) (a0_3 : List (List T)) (a0_4 : Int) (a0_5 : Int) (a0_6 : Int) (a0_7 : Int) (a0_8 : Int) (a0_9 : List (List T)) (a0_10 : Int) (a0_11 : Bool) (a0_12 : Bool) (G1 : (Int) → Option Outs) : (Int) → Option Outs :=
  spec_Even_L1 k a0_0 a0_1 a0_2 a0_3 a0_4 a0_5 a0_6 a0_7 a0_8 a0_9 a0_10 a0_11 a0_12 G1
def spec_Even_U (k : Nat) (a0_0 : Int) (a0_1 : Int) (a0_2 : Int) (a0_3 : List (List T)) (a0_4 : Int) (a0_5 : Int) (a0_6 : Int) (a0_7 : Int) (a0_8 : Int) (a0_9 : List (List T)) (a0_10 : Int) (a0_11 : Bool) (a0_12 : Bool) (R1 : (Int) → Option Outs) : Option Outs :=
 R1 0
def spec_Even_u (k : Nat) (a0_0 : Int) (a0_1 : Int) (a0_2 : Int) (a0_3 : List (List T)) (a0_4 : Int) (a0_5 : Int) (a0_6 : Int) (a0_7 : Int) (a0_8 : Int) (a0_9 : List (List T)) (a0_10 : Int) (a0_11 : Bool) (a0_12 : Bool) : Option Outs :=
  spec_Even_U k a0_0 a0_1 a0_2 a0_3 a0_4 a0_5 a0_6 a0_7 a0_8 a0_9 a0_10 a0_11 a0_12 (fun v => fixN (spec_Even_l1 k a0_0 a0_1 a0_2 a0_3 a0_4 a0_5 a0_6 a0_7 a0_8 a0_9 a0_10 a0_11 a0_12) k v)
def spec_Even_it1 (k : Nat) (a0_0 : Int) (a0_1 : Int) (a0_2 : Int) (a0_3 : List (List T)) (a0_4 : Int) (a0_5 : Int) (a0_6 : Int) (a0_7 : Int) (a0_8 : Int) (a0_9 : List (List T)) (a0_10 : Int) (a0_11 : Bool) (a0_12 : Bool) (js : List Nat) (j : Nat) (s : St) : Option Outs := iter (LB E (evalF E P0 k) k [] N.spec_Even [.sr, .sl, .sr, .bl]) [] spec_Even_k1 (LK E (evalF E P0 k) k [] N.spec_Even [.v [.i a0_0, .i a0_1, .i a0_2, .r a0_3, .i a0_4, .i a0_5, .i a0_6, .i a0_7, .i a0_8, .r a0_9, .i a0_10, .b a0_11, .b a0_12]] [.sr, .sl, .sr, .bl] js) j s
theorem spec_Even_e (k : Nat) (a0_0 : Int) (a0_1 : Int) (a0_2 : Int) (a0_3 : List (List T)) (a0_4 : Int) (a0_5 : Int) (a0_6 : Int) (a0_7 : Int) (a0_8 : Int) (a0_9 : List (List T)) (a0_10 : Int) (a0_11 : Bool) (a0_12 : Bool) : evalF E P0 (k + 1) N.spec_Even [.v [.i a0_0, .i a0_1, .i a0_2, .r a0_3, .i a0_4, .i a0_5, .i a0_6, .i a0_7, .i a0_8, .r a0_9, .i a0_10, .b a0_11, .b a0_12]] = spec_Even_u k a0_0 a0_1 a0_2 a0_3 a0_4 a0_5 a0_6 a0_7 a0_8 a0_9 a0_10 a0_11 a0_12 := by
  have e0 : evalF E P0 (k + 1) N.spec_Even [.v [.i a0_0, .i a0_1, .i a0_2, .r a0_3, .i a0_4, .i a0_5, .i a0_6, .i a0_7, .i a0_8, .r a0_9, .i a0_10, .b a0_11, .b a0_12]] = spec_Even_U k a0_0 a0_1 a0_2 a0_3 a0_4 a0_5 a0_6 a0_7 a0_8 a0_9 a0_10 a0_11 a0_12 (fun v => spec_Even_it1 k a0_0 a0_1 a0_2 a0_3 a0_4 a0_5 a0_6 a0_7 a0_8 a0_9 a0_10 a0_11 a0_12 [] k (spec_Even_S1 a0_0 a0_1 a0_2 a0_3 a0_4 a0_5 a0_6 a0_7 a0_8 a0_9 a0_10 a0_11 a0_12 v)) := by kernel_rfl
  have e1 : ∀ (j1 : Nat) (v : Int), spec_Even_it1 k a0_0 a0_1 a0_2 a0_3 a0_4 a0_5 a0_6 a0_7 a0_8 a0_9 a0_10 a0_11 a0_12 [] (j1 + 1) (spec_Even_S1 a0_0 a0_1 a0_2 a0_3 a0_4 a0_5 a0_6 a0_7 a0_8 a0_9 a0_10 a0_11 a0_12 v) = spec_Even_L1 k a0_0 a0_1 a0_2 a0_3 a0_4 a0_5 a0_6 a0_7 a0_8 a0_9 a0_10 a0_11 a0_12 (fun v => spec_Even_it1 k a0_0 a0_1 a0_2 a0_3 a0_4 a0_5 a0_6 a0_7 a0_8 a0_9 a0_10 a0_11 a0_12 [] j1 (spec_Even_S1 a0_0 a0_1 a0_2 a0_3 a0_4 a0_5 a0_6 a0_7 a0_8 a0_9 a0_10 a0_11 a0_12 v)) v := by
    intro j1 v; kernel_rfl
  have i1 : ∀ (j1 : Nat) (v : Int), spec_Even_it1 k a0_0 a0_1 a0_2 a0_3 a0_4 a0_5 a0_6 a0_7 a0_8 a0_9 a0_10 a0_11 a0_12 [] j1 (spec_Even_S1 a0_0 a0_1 a0_2 a0_3 a0_4 a0_5 a0_6 a0_7 a0_8 a0_9 a0_10 a0_11 a0_12 v) = fixN (spec_Even_l1 k a0_0 a0_1 a0_2 a0_3 a0_4 a0_5 a0_6 a0_7 a0_8 a0_9 a0_10 a0_11 a0_12) j1 v := by
    intro j1 v
    refine iter_fix (spec_Even_S1 a0_0 a0_1 a0_2 a0_3 a0_4 a0_5 a0_6 a0_7 a0_8 a0_9 a0_10 a0_11 a0_12) (spec_Even_l1 k a0_0 a0_1 a0_2 a0_3 a0_4 a0_5 a0_6 a0_7 a0_8 a0_9 a0_10 a0_11 a0_12) (fun j1 v => (e1 j1 v).trans ?_) j1 v
    unfold spec_Even_l1
    rfl
  rw [e0]; unfold spec_Even_u
  simp only [i1]
/- spec.l21Bad -/
def spec_l21Bad_L2 (k : Nat) (a0_0 : Int) (a0_1 : Int) (a0_2 : Int) (a0_3 : List (List T)) (a0_4 : Int) (a0_5 : Int) (a0_6 : Int) (a0_7 : Int) (a0_8 : Int) (a0_9 : List (List T)) (a0_10 : Int) (a0_11 : Bool) (a0_12 : Bool) (v184 : Int) (G1 : (Int) → Option Outs) (G2 : (Int) → Option Outs) : (Int) → Option Outs := fun v200 =>
 chk (decide (0 ≤ v184) && decide (v184 < (a0_3.length : Int))) <|
 bif (decide (v200 < ((at_ a0_3 v184.toNat 3).asR.length : Int))) then
  chk (decide (0 ≤ v184) && decide (v184 < (a0_3.length : Int))) <|
  chk (decide (0 ≤ v200) && decide (v200 < ((at_ a0_3 v184.toNat 3).asR.length : Int))) <|
  bindO (evalF E P0 k N.spec_DataAt [.v [.i 0]]) fun o2304 =>
  bif (decide ((at_ (at_ a0_3 v184.toNat 3).asR v200.toNat 0).asI ≥ (o2304.t 0).asI)) then
   some ⟨[.b true], []⟩
  else
   G2 (IntKind.wrap .i64 (v200 + 1))
 else
  G1 (IntKind.wrap .i64 (v184 + 1))
def spec_l21Bad_k2 : List Nat := [1, 2, 3, 4, 10, 11]
def spec_l21Bad_S2 (a0_0 : Int) (a0_1 : Int) (a0_2 : Int) (a0_3 : List (List T)) (a0_4 : Int) (a0_5 : Int) (a0_6 : Int) (a0_7 : Int) (a0_8 : Int) (a0_9 : List (List T)) (a0_10 : Int) (a0_11 : Bool) (a0_12 : Bool) (v184 : Int) : (Int) → St := fun v200 => ⟨ofSl [(1, .ptr (1, 0) 0), (2, .b false), (3, .i .i64 v184), (4, .i .i64 v200), (10, .undef), (11, .undef)], ofMem [((1, 0), .var [.i .i64 a0_0, .i .i64 a0_1, .i .i64 a0_2, .sl 115 a0_3, .i .i64 a0_4, .i .i64 a0_5, .i .i64 a0_6, .i .i64 a0_7, .i .i64 a0_8, .sl 128 a0_9, .i .i64 a0_10, .b a0_11, .b a0_12])]⟩
def spec_l21Bad_L1 (k : Nat) (a0_0 : Int) (a0_1 : Int) (a0_2 : Int) (a0_3 : List (List T)) (a0_4 : Int) (a0_5 : Int) (a0_6 : Int) (a0_7 : Int) (a0_8 : Int) (a0_9 : List (List T)) (a0_10 : Int) (a0_11 : Bool) (a0_12 : Bool) (R2 : Int → (Int) → Option Outs) (G1 : (Int) → Option Outs) : (Int) → Option Outs := fun v184 =>
 bif (decide (v184 < (a0_3.length : Int))) then R2 v184 0 else some ⟨[.b false], []⟩
def spec_l21Bad_k1 : List Nat := [1, 2, 3]
def spec_l21Bad_S1 (a0_0 : Int) (a0_1 : Int) (a0_2 : Int) (a0_3 : List (List T)) (a0_4 : Int) (a0_5 : Int) (a0_6 : Int) (a0_7 : Int) (a0_8 : Int) (a0_9 : List (List T)) (a0_10 : Int) (a0_11 : Bool) (a0_12 : Bool) : (Int) → St := fun v184 => ⟨ofSl [(1, .ptr (1, 0) 0), (2, .b false), (3, .i .i64 v184)], ofMem [((1, 0), .var [.i .i64 a0_0, .i .i64 a0_1, .i .i64 a0_2, .sl 115 a0_3, .i .i64 a0_4, .i .i64 a0_5, .i .i64 a0_6, .i .i64 a0_7, .i .i64 a0_8, .sl 128 a0_9, .i .i64 a0_10, .b a0_11, .b a0_12])]⟩
def spec_l21Bad_l2 (k : Nat) (a0_0 : Int) (a0_1 : Int) (a0_2 : Int) (a0_3 : List (List T)) (a0_4 : Int) (a0_5 : Int) (a0_6 : Int) (a0_7 : Int) (a0_8 : Int) (a0_9 : List (List T)) (a0_10 : Int) (a0_11 : Bool) (a0_12 : Bool) (v184 : Int) (G1 : (Int) → Option Outs) (G2 : (Int) → Option Outs) : (Int) → Option Outs :=
  spec_l21Bad_L2 k a0_0 a0_1 a0_2 a0_3 a0_4 a0_5 a0_6 a0_7 a0_8 a0_9 a0_10 a0_11 a0_12 v184 G1 G2
def spec_l21Bad_l1 (k : Nat) (a0_0 : Int) (a0_1 : Int) (a0_2 : Int) (a0_3 : List (List T)) (a0_4 : Int) (a0_5 : Int) (a0_6 : Int) (a0_7 : Int) (a0_8 : Int) (a0_9 : List (List T)) (a0_10 : Int) (a0_11 : Bool) (a0_12 : Bool) (G1 : (Int) → Option Outs) : (Int) → Option Outs :=
  spec_l21Bad_L1 k a0_0 a0_1 a0_2 a0_3 a0_4 a0_5 a0_6 a0_7 a0_8 a0_9 a0_10 a0_11 a0_12 (fun y0 v => fixN (spec_l21Bad_l2 k a0_0 a0_1 a0_2 a0_3 a0_4 a0_5 a0_6 a0_7 a0_8 a0_9 a0_10 a0_11 a0_12 y0 G1) k v) G1
def spec_l21Bad_U (k : Nat) (a0_0 : Int) (a0_1 : Int) (a0_2 : Int) (a0_3 : List (List T)) (a0_4 : Int) (a0_5 : Int) (a0_6 : Int) (a0_7 : Int) (a0_8 : Int) (a0_9 : List (List T)) (a0_10 : Int) (a0_11 : Bool) (a0_12 : Bool) (R1 : (Int) → Option Outs) : Option Outs :=
 R1 0
def spec_l21Bad_u (k : Nat) (a0_0 : Int) (a0_1 : Int) (a0_2 : Int) (a0_3 : List (List T)) (a0_4 : Int) (a0_5 : Int) (a0_6 : Int) (a0_7 : Int) (a0_8 : Int) (a0_9 : List (List T)) (a0_10 : Int) (a0_11 : Bool) (a0_12 : Bool) : Option Outs :=
  spec_l21Bad_U k a0_0 a0_1 a0_2 a0_3 a0_4 a0_5 a0_6 a0_7 a0_8 a0_9 a0_10 a0_11 a0_12 (fun v => fixN (spec_l21Bad_l1 k a0_0 a0_1 a0_2 a0_3 a0_4 a0_5 a0_6 a0_7 a0_8 a0_9 a0_10 a0_11 a0_12) k v)
def spec_l21Bad_it1 (k : Nat) (a0_0 : Int) (a0_1 : Int) (a0_2 : Int) (a0_3 : List (List T)) (a0_4 : Int) (a0_5 : Int) (a0_6 : Int) (a0_7 : Int) (a0_8 : Int) (a0_9 : List (List T)) (a0_10 : Int) (a0_11 : Bool) (a0_12 : Bool) (js : List Nat) (j : Nat) (s : St) : Option Outs := iter (LB E (evalF E P0 k) k [] N.spec_l21Bad [.sr, .sl, .sr, .bl]) [] spec_l21Bad_k1 (LK E (evalF E P0 k) k [] N.spec_l21Bad [.v [.i a0_0, .i a0_1, .i a0_2, .r a0_3, .i a0_4, .i a0_5, .i a0_6, .i a0_7, .i a0_8, .r a0_9, .i a0_10, .b a0_11, .b a0_12]] [.sr, .sl, .sr, .bl] js) j s
def spec_l21Bad_it2 (k : Nat) (a0_0 : Int) (a0_1 : Int) (a0_2 : Int) (a0_3 : List (List T)) (a0_4 : Int) (a0_5 : Int) (a0_6 : Int) (a0_7 : Int) (a0_8 : Int) (a0_9 : List (List T)) (a0_10 : Int) (a0_11 : Bool) (a0_12 : Bool) (js : List Nat) (j : Nat) (s : St) : Option Outs := iter (LB E (evalF E P0 k) k [] N.spec_l21Bad [.sr, .sl, .sr, .bl, .lp, .sr, .sl, .bl, .sr, .bl]) [] spec_l21Bad_k2 (LK E (evalF E P0 k) k [] N.spec_l21Bad [.v [.i a0_0, .i a0_1, .i a0_2, .r a0_3, .i a0_4, .i a0_5, .i a0_6, .i a0_7, .i a0_8, .r a0_9, .i a0_10, .b a0_11, .b a0_12]] [.sr, .sl, .sr, .bl, .lp, .sr, .sl, .bl, .sr, .bl] js) j s
theorem spec_l21Bad_e (k : Nat) (a0_0 : Int) (a0_1 : Int) (a0_2 : Int) (a0_3 : List (List T)) (a0_4 : Int) (a0_5 : Int) (a0_6 : Int) (a0_7 : Int) (a0_8 : Int) (a0_9 : List (List T)) (a0_10 : Int) (a0_11 : Bool) (a0_12 : Bool) : evalF E P0 (k + 1) N.spec_l21Bad [.v [.i a0_0, .i a0_1, .i a0_2, .r a0_3, .i a0_4, .i a0_5, .i a0_6, .i a0_7, .i a0_8, .r a0_9, .i a0_10, .b a0_11, .b a0_12]] = spec_l21Bad_u k a0_0 a0_1 a0_2 a0_3 a0_4 a0_5 a0_6 a0_7 a0_8 a0_9 a0_10 a0_11 a0_12 := by
  have e0 : evalF E P0 (k + 1) N.spec_l21Bad [.v [.i a0_0, .i a0_1, .i a0_2, .r a0_3, .i a0_4, .i a0_5, .i a0_6, .i a0_7, .i a0_8, .r a0_9, .i a0_10, .b a0_11, .b a0_12]] = spec_l21Bad_U k a0_0 a0_1 a0_2 a0_3 a0_4 a0_5 a0_6 a0_7 a0_8 a0_9 a0_10 a0_11 a0_12 (fun v => spec_l21Bad_it1 k a0_0 a0_1 a0_2 a0_3 a0_4 a0_5 a0_6 a0_7 a0_8 a0_9 a0_10 a0_11 a0_12 [] k (spec_l21Bad_S1 a0_0 a0_1 a0_2 a0_3 a0_4 a0_5 a0_6 a0_7 a0_8 a0_9 a0_10 a0_11 a0_12 v)) := by kernel_rfl
  have e2 : ∀ (j1 : Nat) (v184 : Int) (j2 : Nat) (v : Int), spec_l21Bad_it2 k a0_0 a0_1 a0_2 a0_3 a0_4 a0_5 a0_6 a0_7 a0_8 a0_9 a0_10 a0_11 a0_12 [j1] (j2 + 1) (spec_l21Bad_S2 a0_0 a0_1 a0_2 a0_3 a0_4 a0_5 a0_6 a0_7 a0_8 a0_9 a0_10 a0_11 a0_12 v184 v) = spec_l21Bad_L2 k a0_0 a0_1 a0_2 a0_3 a0_4 a0_5 a0_6 a0_7 a0_8 a0_9 a0_10 a0_11 a0_12 v184 (fun v => spec_l21Bad_it1 k a0_0 a0_1 a0_2 a0_3 a0_4 a0_5 a0_6 a0_7 a0_8 a0_9 a0_10 a0_11 a0_12 [] j1 (spec_l21Bad_S1 a0_0 a0_1 a0_2 a0_3 a0_4 a0_5 a0_6 a0_7 a0_8 a0_9 a0_10 a0_11 a0_12 v)) (fun v => spec_l21Bad_it2 k a0_0 a0_1 a0_2 a0_3 a0_4 a0_5 a0_6 a0_7 a0_8 a0_9 a0_10 a0_11 a0_12 [j1] j2 (spec_l21Bad_S2 a0_0 a0_1 a0_2 a0_3 a0_4 a0_5 a0_6 a0_7 a0_8 a0_9 a0_10 a0_11 a0_12 v184 v)) v := by
    intro j1 v184 j2 v; kernel_rfl
  have i2 : ∀ (j1 : Nat) (v184 : Int) (j2 : Nat) (v : Int), spec_l21Bad_it2 k a0_0 a0_1 a0_2 a0_3 a0_4 a0_5 a0_6 a0_7 a0_8 a0_9 a0_10 a0_11 a0_12 [j1] j2 (spec_l21Bad_S2 a0_0 a0_1 a0_2 a0_3 a0_4 a0_5 a0_6 a0_7 a0_8 a0_9 a0_10 a0_11 a0_12 v184 v) = fixN (spec_l21Bad_l2 k a0_0 a0_1 a0_2 a0_3 a0_4 a0_5 a0_6 a0_7 a0_8 a0_9 a0_10 a0_11 a0_12 v184 (fun v => spec_l21Bad_it1 k a0_0 a0_1 a0_2 a0_3 a0_4 a0_5 a0_6 a0_7 a0_8 a0_9 a0_10 a0_11 a0_12 [] j1 (spec_l21Bad_S1 a0_0 a0_1 a0_2 a0_3 a0_4 a0_5 a0_6 a0_7 a0_8 a0_9 a0_10 a0_11 a0_12 v))) j2 v := by
    intro j1 v184 j2 v
    refine iter_fix (spec_l21Bad_S2 a0_0 a0_1 a0_2 a0_3 a0_4 a0_5 a0_6 a0_7 a0_8 a0_9 a0_10 a0_11 a0_12 v184) (spec_l21Bad_l2 k a0_0 a0_1 a0_2 a0_3 a0_4 a0_5 a0_6 a0_7 a0_8 a0_9 a0_10 a0_11 a0_12 v184 (fun v => spec_l21Bad_it1 k a0_0 a0_1 a0_2 a0_3 a0_4 a0_5 a0_6 a0_7 a0_8 a0_9 a0_10 a0_11 a0_12 [] j1 (spec_l21Bad_S1 a0_0 a0_1 a0_2 a0_3 a0_4 a0_5 a0_6 a0_7 a0_8 a0_9 a0_10 a0_11 a0_12 v))) (fun j2 v => (e2 j1 v184 j2 v).trans ?_) j2 v
    unfold spec_l21Bad_l2
    rfl
  have e1 : ∀ (j1 : Nat) (v : Int), spec_l21Bad_it1 k a0_0 a0_1 a0_2 a0_3 a0_4 a0_5 a0_6 a0_7 a0_8 a0_9 a0_10 a0_11 a0_12 [] (j1 + 1) (spec_l21Bad_S1 a0_0 a0_1 a0_2 a0_3 a0_4 a0_5 a0_6 a0_7 a0_8 a0_9 a0_10 a0_11 a0_12 v) = spec_l21Bad_L1 k a0_0 a0_1 a0_2 a0_3 a0_4 a0_5 a0_6 a0_7 a0_8 a0_9 a0_10 a0_11 a0_12 (fun y0 v => spec_l21Bad_it2 k a0_0 a0_1 a0_2 a0_3 a0_4 a0_5 a0_6 a0_7 a0_8 a0_9 a0_10 a0_11 a0_12 [j1] k (spec_l21Bad_S2 a0_0 a0_1 a0_2 a0_3 a0_4 a0_5 a0_6 a0_7 a0_8 a0_9 a0_10 a0_11 a0_12 y0 v)) (fun v => spec_l21Bad_it1 k a0_0 a0_1 a0_2 a0_3 a0_4 a0_5 a0_6 a0_7 a0_8 a0_9 a0_10 a0_11 a0_12 [] j1 (spec_l21Bad_S1 a0_0 a0_1 a0_2 a0_3 a0_4 a0_5 a0_6 a0_7 a0_8 a0_9 a0_10 a0_11 a0_12 v)) v := by
    intro j1 v; kernel_rfl
  have i1 : ∀ (j1 : Nat) (v : Int), spec_l21Bad_it1 k a0_0 a0_1 a0_2 a0_3 a0_4 a0_5 a0_6 a0_7 a0_8 a0_9 a0_10 a0_11 a0_12 [] j1 (spec_l21Bad_S1 a0_0 a0_1 a0_2 a0_3 a0_4 a0_5 a0_6 a0_7 a0_8 a0_9 a0_10 a0_11 a0_12 v) = fixN (spec_l21Bad_l1 k a0_0 a0_1 a0_2 a0_3 a0_4 a0_5 a0_6 a0_7 a0_8 a0_9 a0_10 a0_11 a0_12) j1 v := by
    intro j1 v
    refine iter_fix (spec_l21Bad_S1 a0_0 a0_1 a0_2 a0_3 a0_4 a0_5 a0_6 a0_7 a0_8 a0_9 a0_10 a0_11 a0_12) (spec_l21Bad_l1 k a0_0 a0_1 a0_2 a0_3 a0_4 a0_5 a0_6 a0_7 a0_8 a0_9 a0_10 a0_11 a0_12) (fun j1 v => (e1 j1 v).trans ?_) j1 v
    unfold spec_l21Bad_l1
    simp only [i2] <;> rfl
  rw [e0]; unfold spec_l21Bad_u
  simp only [i1]
/- spec.Safe -/
def spec_Safe_J1 (k : Nat) (a0_0 : Int) (a0_1 : Int) (a0_2 : Int) (a0_3 : List (List T)) (a0_4 : Int) (a0_5 : Int) (a0_6 : Int) (a0_7 : Int) (a0_8 : Int) (a0_9 : List (List T)) (a0_10 : Int) (a0_11 : Bool) (a0_12 : Bool) (a0_13 : List (List T)) (a0_14 : List (List T)) (a0_15 : List (List T)) (a0_16 : List (List T)) (c7 : Bool) : Option Outs :=
 bif c7 then
  some ⟨[.i 3], []⟩
 else
  bif (!a0_11) then
   bif (!a0_12) then
    bindO (evalF E P0 k N.spec_l21Bad [.v [.i a0_0, .i a0_1, .i a0_2, .r a0_3, .i a0_4, .i a0_5, .i a0_6, .i a0_7, .i a0_8, .r a0_9, .i a0_10, .b a0_11, .b a0_12]]) fun o39 =>
    bif (!(o39.t 0).asB) then
     bindO (evalF E P0 k N.spec_Whole [.v [.i a0_0, .i a0_1, .i a0_2, .r a0_3, .i a0_4, .i a0_5, .i a0_6, .i a0_7, .i a0_8, .r a0_9, .i a0_10, .b a0_11, .b a0_12, .r a0_13, .r a0_14, .r a0_15, .r a0_16]]) fun o40 =>
     bif (!(o40.t 0).asB) then some ⟨[.i 4], []⟩ else some ⟨[.i 0], []⟩
    else
     some ⟨[.i 0], []⟩
   else
    some ⟨[.i 0], []⟩
  else
   some ⟨[.i 0], []⟩
def spec_Safe_u (k : Nat) (a0_0 : Int) (a0_1 : Int) (a0_2 : Int) (a0_3 : List (List T)) (a0_4 : Int) (a0_5 : Int) (a0_6 : Int) (a0_7 : Int) (a0_8 : Int) (a0_9 : List (List T)) (a0_10 : Int) (a0_11 : Bool) (a0_12 : Bool) (a0_13 : List (List T)) (a0_14 : List (List T)) (a0_15 : List (List T)) (a0_16 : List (List T)) : Option Outs :=
 bindO (evalF E P0 k N.spec_EngOk [.v [.i a0_0, .i a0_1, .i a0_2, .r a0_3, .i a0_4, .i a0_5, .i a0_6, .i a0_7, .i a0_8, .r a0_9, .i a0_10, .b a0_11, .b a0_12, .r a0_13, .r a0_14, .r a0_15, .r a0_16]]) fun o32 =>
 bif (!(o32.t 0).asB) then
  some ⟨[.i 1], []⟩
 else
  bindO (evalF E P0 k N.spec_Apart [.v [.i a0_0, .i a0_1, .i a0_2, .r a0_3, .i a0_4, .i a0_5, .i a0_6, .i a0_7, .i a0_8, .r a0_9, .i a0_10, .b a0_11, .b a0_12, .r a0_13, .r a0_14, .r a0_15, .r a0_16]]) fun o34 =>
  bif (!(o34.t 0).asB) then
   some ⟨[.i 2], []⟩
  else
   bif (!a0_11) then
    bindO (evalF E P0 k N.spec_Even [.v [.i a0_0, .i a0_1, .i a0_2, .r a0_3, .i a0_4, .i a0_5, .i a0_6, .i a0_7, .i a0_8, .r a0_9, .i a0_10, .b a0_11, .b a0_12]]) fun o36 =>
    spec_Safe_J1 k a0_0 a0_1 a0_2 a0_3 a0_4 a0_5 a0_6 a0_7 a0_8 a0_9 a0_10 a0_11 a0_12 a0_13 a0_14 a0_15 a0_16 (!(o36.t 0).asB)
   else
    spec_Safe_J1 k a0_0 a0_1 a0_2 a0_3 a0_4 a0_5 a0_6 a0_7 a0_8 a0_9 a0_10 a0_11 a0_12 a0_13 a0_14 a0_15 a0_16 false
theorem spec_Safe_e (k : Nat) (a0_0 : Int) (a0_1 : Int) (a0_2 : Int) (a0_3 : List (List T)) (a0_4 : Int) (a0_5 : Int) (a0_6 : Int) (a0_7 : Int) (a0_8 : Int) (a0_9 : List (List T)) (a0_10 : Int) (a0_11 : Bool) (a0_12 : Bool) (a0_13 : List (List T)) (a0_14 : List (List T)) (a0_15 : List (List T)) (a0_16 : List (List T)) : evalF E P0 (k + 1) N.spec_Safe [.v [.i a0_0, .i a0_1, .i a0_2, .r a0_3, .i a0_4, .i a0_5, .i a0_6, .i a0_7, .i a0_8, .r a0_9, .i a0_10, .b a0_11, .b a0_12, .r a0_13, .r a0_14, .r a0_15, .r a0_16]] = spec_Safe_u k a0_0 a0_1 a0_2 a0_3 a0_4 a0_5 a0_6 a0_7 a0_8 a0_9 a0_10 a0_11 a0_12 a0_13 a0_14 a0_15 a0_16 := by kernel_rfl
/- impl.XorAt -/
def impl_XorAt_L1 (k : Nat) (a0_0 : Int) (a0_1 : Int) (a0_2 : Int) (a0_3 : List (List T)) (a0_4 : Int) (a0_5 : Int) (a0_6 : Int) (a0_7 : Int) (a0_8 : Int) (a0_9 : List (List T)) (a0_10 : Int) (a0_11 : Bool) (a0_12 : Bool) (a1 : Int) (G1 : (Int × List (List T)) → Option Outs) : (Int × List (List T)) → Option Outs := fun (v8, w8) =>
 bif (decide (v8 < (a0_3.length : Int))) then
  bindO (evalF E P0 k N.impl_wordAt [.v [.i a0_0, .i a0_1, .i a0_2, .r a0_3, .i a0_4, .i a0_5, .i a0_6, .i a0_7, .i a0_8, .r a0_9, .i a0_10, .b a0_11, .b a0_12], .v [.i v8], .v [.i a1]]) fun o96 =>
  bif (!(o96.t 1).asB) then
   some ⟨[.i 0, .b false], []⟩
  else
   chk (decide ((w8.length + ([[.i (o96.t 0).asI]] : List (List T)).length) * 8 ≤ 140737488355328)) <|
   G1 ((IntKind.wrap .i64 (v8 + 1)), (w8 ++ [[.i (o96.t 0).asI]]))
 else
  bindO (evalF E P0 k N.impl_XorOf [.v [.r w8]]) fun o98 =>
  some ⟨[.i (o98.t 0).asI, .b true], []⟩
def impl_XorAt_k1 : List Nat := [1, 2, 4, 5, 6, 13, 14, 31, 32]
def impl_XorAt_S1 (a0_0 : Int) (a0_1 : Int) (a0_2 : Int) (a0_3 : List (List T)) (a0_4 : Int) (a0_5 : Int) (a0_6 : Int) (a0_7 : Int) (a0_8 : Int) (a0_9 : List (List T)) (a0_10 : Int) (a0_11 : Bool) (a0_12 : Bool) (a1 : Int) : (Int × List (List T)) → St := fun (v8, w8) => ⟨ofSl [(1, .i .i64 a1), (2, .ptr (2, 0) 0), (4, .i .i64 0), (5, .b false), (6, .ref (6, 0)), (13, .i .i64 (a0_3.length : Int)), (14, .i .i64 v8), (31, .skip), (32, .skip)], ofMem [((2, 0), .var [.i .i64 a0_0, .i .i64 a0_1, .i .i64 a0_2, .sl 115 a0_3, .i .i64 a0_4, .i .i64 a0_5, .i .i64 a0_6, .i .i64 a0_7, .i .i64 a0_8, .sl 128 a0_9, .i .i64 a0_10, .b a0_11, .b a0_12]), ((6, 0), .row 3 true w8)]⟩
def impl_XorAt_l1 (k : Nat) (a0_0 : Int) (a0_1 : Int) (a0_2 : Int) (a0_3 : List (List T)) (a0_4 : Int) (a0_5 : Int) (a0_6 : Int) (a0_7 : Int) (a0_8 : Int) (a0_9 : List (List T)) (a0_10 : Int) (a0_11 : Bool) (a0_12 : Bool) (a1 : Int) (G1 : (Int × List (List T)) → Option Outs) : (Int × List (List T)) → Option Outs :=
  impl_XorAt_L1 k a0_0 a0_1 a0_2 a0_3 a0_4 a0_5 a0_6 a0_7 a0_8 a0_9 a0_10 a0_11 a0_12 a1 G1
def impl_XorAt_U (k : Nat) (a0_0 : Int) (a0_1 : Int) (a0_2 : Int) (a0_3 : List (List T)) (a0_4 : Int) (a0_5 : Int) (a0_6 : Int) (a0_7 : Int) (a0_8 : Int) (a0_9 : List (List T)) (a0_10 : Int) (a0_11 : Bool) (a0_12 : Bool) (a1 : Int) (R1 : (Int × List (List T)) → Option Outs) : Option Outs :=
 R1 (0, [])
def impl_XorAt_u (k : Nat) (a0_0 : Int) (a0_1 : Int) (a0_2 : Int) (a0_3 : List (List T)) (a0_4 : Int) (a0_5 : Int) (a0_6 : Int) (a0_7 : Int) (a0_8 : Int) (a0_9 : List (List T)) (a0_10 : Int) (a0_11 : Bool) (a0_12 : Bool) (a1 : Int) : Option Outs :=
  impl_XorAt_U k a0_0 a0_1 a0_2 a0_3 a0_4 a0_5 a0_6 a0_7 a0_8 a0_9 a0_10 a0_11 a0_12 a1 (fun v => fixN (impl_XorAt_l1 k a0_0 a0_1 a0_2 a0_3 a0_4 a0_5 a0_6 a0_7 a0_8 a0_9 a0_10 a0_11 a0_12 a1) k v)
def impl_XorAt_it1 (k : Nat) (a0_0 : Int) (a0_1 : Int) (a0_2 : Int) (a0_3 : List (List T)) (a0_4 : Int) (a0_5 : Int) (a0_6 : Int) (a0_7 : Int) (a0_8 : Int) (a0_9 : List (List T)) (a0_10 : Int) (a0_11 : Bool) (a0_12 : Bool) (a1 : Int) (js : List Nat) (j : Nat) (s : St) : Option Outs := iter (LB E (evalF E P0 k) k [] N.impl_XorAt [.sr, .sr, .sl, .sr, .bl]) [] impl_XorAt_k1 (LK E (evalF E P0 k) k [] N.impl_XorAt [.v [.i a0_0, .i a0_1, .i a0_2, .r a0_3, .i a0_4, .i a0_5, .i a0_6, .i a0_7, .i a0_8, .r a0_9, .i a0_10, .b a0_11, .b a0_12], .v [.i a1]] [.sr, .sr, .sl, .sr, .bl] js) j s
theorem impl_XorAt_e (k : Nat) (a0_0 : Int) (a0_1 : Int) (a0_2 : Int) (a0_3 : List (List T)) (a0_4 : Int) (a0_5 : Int) (a0_6 : Int) (a0_7 : Int) (a0_8 : Int) (a0_9 : List (List T)) (a0_10 : Int) (a0_11 : Bool) (a0_12 : Bool) (a1 : Int) : evalF E P0 (k + 1) N.impl_XorAt [.v [.i a0_0, .i a0_1, .i a0_2, .r a0_3, .i a0_4, .i a0_5, .i a0_6, .i a0_7, .i a0_8, .r a0_9, .i a0_10, .b a0_11, .b a0_12], .v [.i a1]] = impl_XorAt_u k a0_0 a0_1 a0_2 a0_3 a0_4 a0_5 a0_6 a0_7 a0_8 a0_9 a0_10 a0_11 a0_12 a1 := by
  have e0 : evalF E P0 (k + 1) N.impl_XorAt [.v [.i a0_0, .i a0_1, .i a0_2, .r a0_3, .i a0_4, .i a0_5, .i a0_6, .i a0_7, .i a0_8, .r a0_9, .i a0_10, .b a0_11, .b a0_12], .v [.i a1]] = impl_XorAt_U k a0_0 a0_1 a0_2 a0_3 a0_4 a0_5 a0_6 a0_7 a0_8 a0_9 a0_10 a0_11 a0_12 a1 (fun v => impl_XorAt_it1 k a0_0 a0_1 a0_2 a0_3 a0_4 a0_5 a0_6 a0_7 a0_8 a0_9 a0_10 a0_11 a0_12 a1 [] k (impl_XorAt_S1 a0_0 a0_1 a0_2 a0_3 a0_4 a0_5 a0_6 a0_7 a0_8 a0_9 a0_10 a0_11 a0_12 a1 v)) := by kernel_rfl
  have e1 : ∀ (j1 : Nat) (v : Int × List (List T)), impl_XorAt_it1 k a0_0 a0_1 a0_2 a0_3 a0_4 a0_5 a0_6 a0_7 a0_8 a0_9 a0_10 a0_11 a0_12 a1 [] (j1 + 1) (impl_XorAt_S1 a0_0 a0_1 a0_2 a0_3 a0_4 a0_5 a0_6 a0_7 a0_8 a0_9 a0_10 a0_11 a0_12 a1 v) = impl_XorAt_L1 k a0_0 a0_1 a0_2 a0_3 a0_4 a0_5 a0_6 a0_7 a0_8 a0_9 a0_10 a0_11 a0_12 a1 (fun v => impl_XorAt_it1 k a0_0 a0_1 a0_2 a0_3 a0_4 a0_5 a0_6 a0_7 a0_8 a0_9 a0_10 a0_11 a0_12 a1 [] j1 (impl_XorAt_S1 a0_0 a0_1 a0_2 a0_3 a0_4 a0_5 a0_6 a0_7 a0_8 a0_9 a0_10 a0_11 a0_12 a1 v)) v := by
    intro j1 v; kernel_rfl
  have i1 : ∀ (j1 : Nat) (v : Int × List (List T)), impl_XorAt_it1 k a0_0 a0_1 a0_2 a0_3 a0_4 a0_5 a0_6 a0_7 a0_8 a0_9 a0_10 a0_11 a0_12 a1 [] j1 (impl_XorAt_S1 a0_0 a0_1 a0_2 a0_3 a0_4 a0_5 a0_6 a0_7 a0_8 a0_9 a0_10 a0_11 a0_12 a1 v) = fixN (impl_XorAt_l1 k a0_0 a0_1 a0_2 a0_3 a0_4 a0_5 a0_6 a0_7 a0_8 a0_9 a0_10 a0_11 a0_12 a1) j1 v := by
    intro j1 v
    refine iter_fix (impl_XorAt_S1 a0_0 a0_1 a0_2 a0_3 a0_4 a0_5 a0_6 a0_7 a0_8 a0_9 a0_10 a0_11 a0_12 a1) (impl_XorAt_l1 k a0_0 a0_1 a0_2 a0_3 a0_4 a0_5 a0_6 a0_7 a0_8 a0_9 a0_10 a0_11 a0_12 a1) (fun j1 v => (e1 j1 v).trans ?_) j1 v
    unfold impl_XorAt_l1
    rfl
  rw [e0]; unfold impl_XorAt_u
  simp only [i1]
/- impl.Even -/
def impl_Even_J1 (k : Nat) (a0_0 : Int) (a0_1 : Int) (a0_2 : Int) (a0_3 : List (List T)) (a0_4 : Int) (a0_5 : Int) (a0_6 : Int) (a0_7 : Int) (a0_8 : Int) (a0_9 : List (List T)) (a0_10 : Int) (a0_11 : Bool) (a0_12 : Bool) (v8 : Int) (G1 : (Int) → Option Outs) (c56 : Bool) : Option Outs :=
 bif c56 then
  bindO (evalF E P0 k N.impl_XorAt [.v [.i a0_0, .i a0_1, .i a0_2, .r a0_3, .i a0_4, .i a0_5, .i a0_6, .i a0_7, .i a0_8, .r a0_9, .i a0_10, .b a0_11, .b a0_12], .v [.i v8]]) fun o96 =>
  bif (o96.t 1).asB then
   bif ((o96.t 0).asI != 0) then some ⟨[.b false], []⟩ else G1 (IntKind.wrap .i64 (v8 + 1))
  else
   G1 (IntKind.wrap .i64 (v8 + 1))
 else
  some ⟨[.b true], []⟩
def impl_Even_L1 (k : Nat) (a0_0 : Int) (a0_1 : Int) (a0_2 : Int) (a0_3 : List (List T)) (a0_4 : Int) (a0_5 : Int) (a0_6 : Int) (a0_7 : Int) (a0_8 : Int) (a0_9 : List (List T)) (a0_10 : Int) (a0_11 : Bool) (a0_12 : Bool) (G1 : (Int) → Option Outs) : (Int) → Option Outs := fun v8 =>
 bif (decide (v8 < a0_2)) then
  impl_Even_J1 k a0_0 a0_1 a0_2 a0_3 a0_4 a0_5 a0_6 a0_7 a0_8 a0_9 a0_10 a0_11 a0_12 v8 G1 (decide (v8 < 20))
 else
  impl_Even_J1 k a0_0 a0_1 a0_2 a0_3 a0_4 a0_5 a0_6 a0_7 a0_8 a0_9 a0_10 a0_11 a0_12 v8 G1 false
def impl_Even_k1 : List Nat := [1, 2, 3]
def impl_Even_S1 (a0_0 : Int) (a0_1 : Int) (a0_2 : Int) (a0_3 : List (List T)) (a0_4 : Int) (a0_5 : Int) (a0_6 : Int) (a0_7 : Int) (a0_8 : Int) (a0_9 : List (List T)) (a0_10 : Int) (a0_11 : Bool) (a0_12 : Bool) : (Int) → St := fun v8 => ⟨ofSl [(1, .ptr (1, 0) 0), (2, .b false), (3, .i .i64 v8)], ofMem [((1, 0), .var [.i .i64 a0_0, .i .i64 a0_1, .i .i64 a0_2, .sl 115 a0_3, .i .i64 a0_4, .i .i64 a0_5, .i .i64 a0_6, .i .i64 a0_7, .i .i64 a0_8, .sl 128 a0_9, .i .i64 a0_10, .b a0_11, .b a0_12])]⟩
def impl_Even_l1 (k : Nat) (a0_0 : Int) (a0_1 : Int) (a0_2 : Int) (a0_3 : List (List T)) (a0_4 : Int) (a0_5 : Int) (a0_6 : Int) (a0_7 : Int) (a0_8 : Int) (a0_9 : List (List T)) (a0_10 : Int) (a0_11 : Bool) (a0_12 : Bool) (G1 : (Int) → Option Outs) : (Int) → Option Outs :=
  impl_Even_L1 k a0_0 a0_1 a0_2 a0_3 a0_4 a0_5 a0_6 a0_7 a0_8 a0_9 a0_10 a0_11 a0_12 G1
def impl_Even_U (k : Nat) (a0_0 : Int) (a0_1 : Int) (a0_2 : Int) (a0_3 : List (List T)) (a0_4 : Int) (a0_5 : Int) (a0_6 : Int) (a0_7 : Int) (a0_8 : Int) (a0_9 : List (List T)) (a0_10 : Int) (a0_11 : Bool) (a0_12 : Bool) (R1 : (Int) → Option Outs) : Option Outs :=
 R1 0
def impl_Even_u (k : Nat) (a0_0 : Int) (a0_1 : Int) (a0_2 : Int) (a0_3 : List (List T)) (a0_4 : Int) (a0_5 : Int) (a0_6 : Int) (a0_7 : Int) (a0_8 : Int) (a0_9 : List (List T)) (a0_10 : Int) (a0_11 : Bool) (a0_12 : Bool) : Option Outs :=
  impl_Even_U k a0_0 a0_1 a0_2 a0_3 a0_4 a0_5 a0_6 a0_7 a0_8 a0_9 a0_10 a0_11 a0_12 (fun v => fixN (impl_Even_l1 k a0_0 a0_1 a0_2 a0_3 a0_4 a0_5 a0_6 a0_7 a0_8 a0_9 a0_10 a0_11 a0_12) k v)
def impl_Even_it1 (k : Nat) (a0_0 : Int) (a0_1 : Int) (a0_2 : Int) (a0_3 : List (List T)) (a0_4 : Int) (a0_5 : Int) (a0_6 : Int) (a0_7 : Int) (a0_8 : Int) (a0_9 : List (List T)) (a0_10 : Int) (a0_11 : Bool) (a0_12 : Bool) (js : List Nat) (j : Nat) (s : St) : Option Outs := iter (LB E (evalF E P0 k) k [] N.impl_Even [.sr, .sl, .sr, .bl]) [] impl_Even_k1 (LK E (evalF E P0 k) k [] N.impl_Even [.v [.i a0_0, .i a0_1, .i a0_2, .r a0_3, .i a0_4, .i a0_5, .i a0_6, .i a0_7, .i a0_8, .r a0_9, .i a0_10, .b a0_11, .b a0_12]] [.sr, .sl, .sr, .bl] js) j s
theorem impl_Even_e (k : Nat) (a0_0 : Int) (a0_1 : Int) (a0_2 : Int) (a0_3 : List (List T)) (a0_4 : Int) (a0_5 : Int) (a0_6 : Int) (a0_7 : Int) (a0_8 : Int) (a0_9 : List (List T)) (a0_10 : Int) (a0_11 : Bool) (a0_12 : Bool) : evalF E P0 (k + 1) N.impl_Even [.v [.i a0_0, .i a0_1, .i a0_2, .r a0_3, .i a0_4, .i a0_5, .i a0_6, .i a0_7, .i a0_8, .r a0_9, .i a0_10, .b a0_11, .b a0_12]] = impl_Even_u k a0_0 a0_1 a0_2 a0_3 a0_4 a0_5 a0_6 a0_7 a0_8 a0_9 a0_10 a0_11 a0_12 := by
  have e0 : evalF E P0 (k + 1) N.impl_Even [.v [.i a0_0, .i a0_1, .i a0_2, .r a0_3, .i a0_4, .i a0_5, .i a0_6, .i a0_7, .i a0_8, .r a0_9, .i a0_10, .b a0_11, .b a0_12]] = impl_Even_U k a0_0 a0_1 a0_2 a0_3 a0_4 a0_5 a0_6 a0_7 a0_8 a0_9 a0_10 a0_11 a0_12 (fun v => impl_Even_it1 k a0_0 a0_1 a0_2 a0_3 a0_4 a0_5 a0_6 a0_7 a0_8 a0_9 a0_10 a0_11 a0_12 [] k (impl_Even_S1 a0_0 a0_1 a0_2 a0_3 a0_4 a0_5 a0_6 a0_7 a0_8 a0_9 a0_10 a0_11 a0_12 v)) := by kernel_rfl
  have e1 : ∀ (j1 : Nat) (v : Int), impl_Even_it1 k a0_0 a0_1 a0_2 a0_3 a0_4 a0_5 a0_6 a0_7 a0_8 a0_9 a0_10 a0_11 a0_12 [] (j1 + 1) (impl_Even_S1 a0_0 a0_1 a0_2 a0_3 a0_4 a0_5 a0_6 a0_7 a0_8 a0_9 a0_10 a0_11 a0_12 v) = impl_Even_L1 k a0_0 a0_1 a0_2 a0_3 a0_4 a0_5 a0_6 a0_7 a0_8 a0_9 a0_10 a0_11 a0_12 (fun v => impl_Even_it1 k a0_0 a0_1 a0_2 a0_3 a0_4 a0_5 a0_6 a0_7 a0_8 a0_9 a0_10 a0_11 a0_12 [] j1 (impl_Even_S1 a0_0 a0_1 a0_2 a0_3 a0_4 a0_5 a0_6 a0_7 a0_8 a0_9 a0_10 a0_11 a0_12 v)) v := by
    intro j1 v; kernel_rfl
  have i1 : ∀ (j1 : Nat) (v : Int), impl_Even_it1 k a0_0 a0_1 a0_2 a0_3 a0_4 a0_5 a0_6 a0_7 a0_8 a0_9 a0_10 a0_11 a0_12 [] j1 (impl_Even_S1 a0_0 a0_1 a0_2 a0_3 a0_4 a0_5 a0_6 a0_7 a0_8 a0_9 a0_10 a0_11 a0_12 v) = fixN (impl_Even_l1 k a0_0 a0_1 a0_2 a0_3 a0_4 a0_5 a0_6 a0_7 a0_8 a0_9 a0_10 a0_11 a0_12) j1 v := by
    intro j1 v
    refine iter_fix (impl_Even_S1 a0_0 a0_1 a0_2 a0_3 a0_4 a0_5 a0_6 a0_7 a0_8 a0_9 a0_10 a0_11 a0_12) (impl_Even_l1 k a0_0 a0_1 a0_2 a0_3 a0_4 a0_5 a0_6 a0_7 a0_8 a0_9 a0_10 a0_11 a0_12) (fun j1 v => (e1 j1 v).trans ?_) j1 v
    unfold impl_Even_l1
    rfl
  rw [e0]; unfold impl_Even_u
  simp only [i1]
/- impl.isSpoilt -/
def impl_isSpoilt_L1 (k : Nat) (a0_3 : List (List T)) (G1 : (Int) → Option Outs) : (Int) → Option Outs := fun v8 =>
 bif (decide (v8 < (a0_3.length : Int))) then
  chk (decide (0 ≤ v8) && decide (v8 < (a0_3.length : Int))) <|
  bindO (evalF E P0 k N.impl_DataAt [.v [.i 0]]) fun o96 =>
  bif (decide ((at_ a0_3 v8.toNat 0).asI ≥ (o96.t 0).asI)) then
   some ⟨[.b true], []⟩
  else
   G1 (IntKind.wrap .i64 (v8 + 1))
 else
  some ⟨[.b false], []⟩
def impl_isSpoilt_k1 : List Nat := [2, 6, 7, 8]
def impl_isSpoilt_S1 (a0_3 : List (List T)) : (Int) → St := fun v8 => ⟨ofSl [(2, .b false), (6, .sl 3 a0_3), (7, .i .i64 (a0_3.length : Int)), (8, .i .i64 v8)], ofMem []⟩
def impl_isSpoilt_l1 (k : Nat) (a0_3 : List (List T)) (G1 : (Int) → Option Outs) : (Int) → Option Outs :=
  impl_isSpoilt_L1 k a0_3 G1
def impl_isSpoilt_U (k : Nat) (a0_0 : List (List T)) (a0_1 : List (List T)) (a0_2 : Bool) (a0_3 : List (List T)) (R1 : (Int) → Option Outs) : Option Outs :=
 R1 0
def impl_isSpoilt_u (k : Nat) (a0_0 : List (List T)) (a0_1 : List (List T)) (a0_2 : Bool) (a0_3 : List (List T)) : Option Outs :=
  impl_isSpoilt_U k a0_0 a0_1 a0_2 a0_3 (fun v => fixN (impl_isSpoilt_l1 k a0_3) k v)
def impl_isSpoilt_it1 (k : Nat) (a0_0 : List (List T)) (a0_1 : List (List T)) (a0_2 : Bool) (a0_3 : List (List T)) (js : List Nat) (j : Nat) (s : St) : Option Outs := iter (LB E (evalF E P0 k) k [] N.impl_isSpoilt [.sr, .sl, .sr, .bl]) [] impl_isSpoilt_k1 (LK E (evalF E P0 k) k [] N.impl_isSpoilt [.v [.r a0_0, .r a0_1, .b a0_2, .r a0_3]] [.sr, .sl, .sr, .bl] js) j s
theorem impl_isSpoilt_e (k : Nat) (a0_0 : List (List T)) (a0_1 : List (List T)) (a0_2 : Bool) (a0_3 : List (List T)) : evalF E P0 (k + 1) N.impl_isSpoilt [.v [.r a0_0, .r a0_1, .b a0_2, .r a0_3]] = impl_isSpoilt_u k a0_0 a0_1 a0_2 a0_3 := by
  have e0 : evalF E P0 (k + 1) N.impl_isSpoilt [.v [.r a0_0, .r a0_1, .b a0_2, .r a0_3]] = impl_isSpoilt_U k a0_0 a0_1 a0_2 a0_3 (fun v => impl_isSpoilt_it1 k a0_0 a0_1 a0_2 a0_3 [] k (impl_isSpoilt_S1 a0_3 v)) := by kernel_rfl
  have e1 : ∀ (j1 : Nat) (v : Int), impl_isSpoilt_it1 k a0_0 a0_1 a0_2 a0_3 [] (j1 + 1) (impl_isSpoilt_S1 a0_3 v) = impl_isSpoilt_L1 k a0_3 (fun v => impl_isSpoilt_it1 k a0_0 a0_1 a0_2 a0_3 [] j1 (impl_isSpoilt_S1 a0_3 v)) v := by
    intro j1 v; kernel_rfl
  have i1 : ∀ (j1 : Nat) (v : Int), impl_isSpoilt_it1 k a0_0 a0_1 a0_2 a0_3 [] j1 (impl_isSpoilt_S1 a0_3 v) = fixN (impl_isSpoilt_l1 k a0_3) j1 v := by
    intro j1 v
    refine iter_fix (impl_isSpoilt_S1 a0_3) (impl_isSpoilt_l1 k a0_3) (fun j1 v => (e1 j1 v).trans ?_) j1 v
    unfold impl_isSpoilt_l1
    rfl
  rw [e0]; unfold impl_isSpoilt_u
  simp only [i1]
/- impl.anySpoilt -/
def impl_anySpoilt_L1 (k : Nat) (a0_3 : List (List T)) (G1 : (Int) → Option Outs) : (Int) → Option Outs := fun v8 =>
 bif (decide (v8 < (a0_3.length : Int))) then
  chk (decide (0 ≤ v8) && decide (v8 < (a0_3.length : Int))) <|
  bindO (evalF E P0 k N.impl_isSpoilt [.v [.r (at_ a0_3 v8.toNat 0).asR, .r (at_ a0_3 v8.toNat 1).asR, .b (at_ a0_3 v8.toNat 2).asB, .r (at_ a0_3 v8.toNat 3).asR]]) fun o96 =>
  bif (o96.t 0).asB then some ⟨[.b true], []⟩ else G1 (IntKind.wrap .i64 (v8 + 1))
 else
  some ⟨[.b false], []⟩
def impl_anySpoilt_k1 : List Nat := [2, 6, 7, 8]
def impl_anySpoilt_S1 (a0_3 : List (List T)) : (Int) → St := fun v8 => ⟨ofSl [(2, .b false), (6, .sl 115 a0_3), (7, .i .i64 (a0_3.length : Int)), (8, .i .i64 v8)], ofMem []⟩
def impl_anySpoilt_l1 (k : Nat) (a0_3 : List (List T)) (G1 : (Int) → Option Outs) : (Int) → Option Outs :=
  impl_anySpoilt_L1 k a0_3 G1
def impl_anySpoilt_U (k : Nat) (a0_0 : Int) (a0_1 : Int) (a0_2 : Int) (a0_3 : List (List T)) (a0_4 : Int) (a0_5 : Int) (a0_6 : Int) (a0_7 : Int) (a0_8 : Int) (a0_9 : List (List T)) (a0_10 : Int) (a0_11 : Bool) (a0_12 : Bool) (R1 : (Int) → Option Outs) : Option Outs :=
 R1 0
def impl_anySpoilt_u (k : Nat) (a0_0 : Int) (a0_1 : Int) (a0_2 : Int) (a0_3 : List (List T)) (a0_4 : Int) (a0_5 : Int) (a0_6 : Int) (a0_7 : Int) (a0_8 : Int) (a0_9 : List (List T)) (a0_10 : Int) (a0_11 : Bool) (a0_12 : Bool) : Option Outs :=
  impl_anySpoilt_U k a0_0 a0_1 a0_2 a0_3 a0_4 a0_5 a0_6 a0_7 a0_8 a0_9 a0_10 a0_11 a0_12 (fun v => fixN (impl_anySpoilt_l1 k a0_3) k v)
def impl_anySpoilt_it1 (k : Nat) (a0_0 : Int) (a0_1 : Int) (a0_2 : Int) (a0_3 : List (List T)) (a0_4 : Int) (a0_5 : Int) (a0_6 : Int) (a0_7 : Int) (a0_8 : Int) (a0_9 : List (List T)) (a0_10 : Int) (a0_11 : Bool) (a0_12 : Bool) (js : List Nat) (j : Nat) (s : St) : Option Outs := iter (LB E (evalF E P0 k) k [] N.impl_anySpoilt [.sr, .sl, .sr, .bl]) [] impl_anySpoilt_k1 (LK E (evalF E P0 k) k [] N.impl_anySpoilt [.v [.i a0_0, .i a0_1, .i a0_2, .r a0_3, .i a0_4, .i a0_5, .i a0_6, .i a0_7, .i a0_8, .r a0_9, .i a0_10, .b a0_11, .b a0_12]] [.sr, .sl, .sr, .bl] js) j s
theorem impl_anySpoilt_e (k : Nat) (a0_0 : Int) (a0_1 : Int) (a0_2 : Int) (a0_3 : List (List T)) (a0_4 : Int) (a0_5 : Int) (a0_6 : Int) (a0_7 : Int) (a0_8 : Int) (a0_9 : List (List T)) (a0_10 : Int) (a0_11 : Bool) (a0_12 : Bool) : evalF E P0 (k + 1) N.impl_anySpoilt [.v [.i a0_0, .i a0_1, .i a0_2, .r a0_3, .i a0_4, .i a0_5, .i a0_6, .i a0_7, .i a0_8, .r a0_9, .i a0_10, .b a0_11, .b a0_12]] = impl_anySpoilt_u k a0_0 a0_1 a0_2 a0_3 a0_4 a0_5 a0_6 a0_7 a0_8 a0_9 a0_10 a0_11 a0_12 := by
  have e0 : evalF E P0 (k + 1) N.impl_anySpoilt [.v [.i a0_0, .i a0_1, .i a0_2, .r a0_3, .i a0_4, .i a0_5, .i a0_6, .i a0_7, .i a0_8, .r a0_9, .i a0_10, .b a0_11, .b a0_12]] = impl_anySpoilt_U k a0_0 a0_1 a0_2 a0_3 a0_4 a0_5 a0_6 a0_7 a0_8 a0_9 a0_10 a0_11 a0_12 (fun v => impl_anySpoilt_it1 k a0_0 a0_1 a0_2 a0_3 a0_4 a0_5 a0_6 a0_7 a0_8 a0_9 a0_10 a0_11 a0_12 [] k (impl_anySpoilt_S1 a0_3 v)) := by kernel_rfl
  have e1 : ∀ (j1 : Nat) (v : Int), impl_anySpoilt_it1 k a0_0 a0_1 a0_2 a0_3 a0_4 a0_5 a0_6 a0_7 a0_8 a0_9 a0_10 a0_11 a0_12 [] (j1 + 1) (impl_anySpoilt_S1 a0_3 v) = impl_anySpoilt_L1 k a0_3 (fun v => impl_anySpoilt_it1 k a0_0 a0_1 a0_2 a0_3 a0_4 a0_5 a0_6 a0_7 a0_8 a0_9 a0_10 a0_11 a0_12 [] j1 (impl_anySpoilt_S1 a0_3 v)) v := by
    intro j1 v; kernel_rfl
  have i1 : ∀ (j1 : Nat) (v : Int), impl_anySpoilt_it1 k a0_0 a0_1 a0_2 a0_3 a0_4 a0_5 a0_6 a0_7 a0_8 a0_9 a0_10 a0_11 a0_12 [] j1 (impl_anySpoilt_S1 a0_3 v) = fixN (impl_anySpoilt_l1 k a0_3) j1 v := by
    intro j1 v
    refine iter_fix (impl_anySpoilt_S1 a0_3) (impl_anySpoilt_l1 k a0_3) (fun j1 v => (e1 j1 v).trans ?_) j1 v
    unfold impl_anySpoilt_l1
    rfl
  rw [e0]; unfold impl_anySpoilt_u
  simp only [i1]
/- impl.Safe -/
def impl_Safe_J1 (k : Nat) (a0_0 : Int) (a0_1 : Int) (a0_2 : Int) (a0_3 : List (List T)) (a0_4 : Int) (a0_5 : Int) (a0_6 : Int) (a0_7 : Int) (a0_8 : Int) (a0_9 : List (List T)) (a0_10 : Int) (a0_11 : Bool) (a0_12 : Bool) (a0_13 : List (List T)) (a0_14 : List (List T)) (a0_15 : List (List T)) (a0_16 : List (List T)) (c7 : Bool) : Option Outs :=
 bif c7 then
  some ⟨[.i 3], []⟩
 else
  bif (!a0_11) then
   bif (!a0_12) then
    bindO (evalF E P0 k N.impl_anySpoilt [.v [.i a0_0, .i a0_1, .i a0_2, .r a0_3, .i a0_4, .i a0_5, .i a0_6, .i a0_7, .i a0_8, .r a0_9, .i a0_10, .b a0_11, .b a0_12]]) fun o39 =>
    bif (!(o39.t 0).asB) then
     bindO (evalF E P0 k N.impl_Whole [.v [.i a0_0, .i a0_1, .i a0_2, .r a0_3, .i a0_4, .i a0_5, .i a0_6, .i a0_7, .i a0_8, .r a0_9, .i a0_10, .b a0_11, .b a0_12, .r a0_13, .r a0_14, .r a0_15, .r a0_16]]) fun o40 =>
     bif (!(o40.t 0).asB) then some ⟨[.i 4], []⟩ else some ⟨[.i 0], []⟩
    else
     some ⟨[.i 0], []⟩
   else
    some ⟨[.i 0], []⟩
  else
   some ⟨[.i 0], []⟩
def impl_Safe_u (k : Nat) (a0_0 : Int) (a0_1 : Int) (a0_2 : Int) (a0_3 : List (List T)) (a0_4 : Int) (a0_5 : Int) (a0_6 : Int) (a0_7 : Int) (a0_8 : Int) (a0_9 : List (List T)) (a0_10 : Int) (a0_11 : Bool) (a0_12 : Bool) (a0_13 : List (List T)) (a0_14 : List (List T)) (a0_15 : List (List T)) (a0_16 : List (List T)) : Option Outs :=
 bindO (evalF E P0 k N.impl_EngOk [.v [.i a0_0, .i a0_1, .i a0_2, .r a0_3, .i a0_4, .i a0_5, .i a0_6, .i a0_7, .i a0_8, .r a0_9, .i a0_10, .b a0_11, .b a0_12, .r a0_13, .r a0_14, .r a0_15, .r a0_16]]) fun o32 =>
 bif (!(o32.t 0).asB) then
  some ⟨[.i 1], []⟩
 else
  bindO (evalF E P0 k N.impl_Apart [.v [.i a0_0, .i a0_1, .i a0_2, .r a0_3, .i a0_4, .i a0_5, .i a0_6, .i a0_7, .i a0_8, .r a0_9, .i a0_10, .b a0_11, .b a0_12, .r a0_13, .r a0_14, .r a0_15, .r a0_16]]) fun o34 =>
  bif (!(o34.t 0).asB) then
   some ⟨[.i 2], []⟩
  else
   bif (!a0_11) then
    bindO (evalF E P0 k N.impl_Even [.v [.i a0_0, .i a0_1, .i a0_2, .r a0_3, .i a0_4, .i a0_5, .i a0_6, .i a0_7, .i a0_8, .r a0_9, .i a0_10, .b a0_11, .b a0_12]]) fun o36 =>
    impl_Safe_J1 k a0_0 a0_1 a0_2 a0_3 a0_4 a0_5 a0_6 a0_7 a0_8 a0_9 a0_10 a0_11 a0_12 a0_13 a0_14 a0_15 a0_16 (!(o36.t 0).asB)
   else
    impl_Safe_J1 k a0_0 a0_1 a0_2 a0_3 a0_4 a0_5 a0_6 a0_7 a0_8 a0_9 a0_10 a0_11 a0_12 a0_13 a0_14 a0_15 a0_16 false
theorem impl_Safe_e (k : Nat) (a0_0 : Int) (a0_1 : Int) (a0_2 : Int) (a0_3 : List (List T)) (a0_4 : Int) (a0_5 : Int) (a0_6 : Int) (a0_7 : Int) (a0_8 : Int) (a0_9 : List (List T)) (a0_10 : Int) (a0_11 : Bool) (a0_12 : Bool) (a0_13 : List (List T)) (a0_14 : List (List T)) (a0_15 : List (List T)) (a0_16 : List (List T)) : evalF E P0 (k + 1) N.impl_Safe [.v [.i a0_0, .i a0_1, .i a0_2, .r a0_3, .i a0_4, .i a0_5, .i a0_6, .i a0_7, .i a0_8, .r a0_9, .i a0_10, .b a0_11, .b a0_12, .r a0_13, .r a0_14, .r a0_15, .r a0_16]] = impl_Safe_u k a0_0 a0_1 a0_2 a0_3 a0_4 a0_5 a0_6 a0_7 a0_8 a0_9 a0_10 a0_11 a0_12 a0_13 a0_14 a0_15 a0_16 := by kernel_rfl
/- laws.FnExactSafe -/
def laws_FnExactSafe_u (k : Nat) (a0_0 : Int) (a0_1 : Int) (a0_2 : Int) (a0_3 : List (List T)) (a0_4 : Int) (a0_5 : Int) (a0_6 : Int) (a0_7 : Int) (a0_8 : Int) (a0_9 : List (List T)) (a0_10 : Int) (a0_11 : Bool) (a0_12 : Bool) (a0_13 : List (List T)) (a0_14 : List (List T)) (a0_15 : List (List T)) (a0_16 : List (List T)) : Option Outs :=
 bindO (evalF E P0 k N.laws_szEng [.v [.i a0_0, .i a0_1, .i a0_2, .r a0_3, .i a0_4, .i a0_5, .i a0_6, .i a0_7, .i a0_8, .r a0_9, .i a0_10, .b a0_11, .b a0_12, .r a0_13, .r a0_14, .r a0_15, .r a0_16], .v [.i 1048576]]) fun o2 =>
 bif (decide ((o2.t 0).asI < 0)) then
  some ⟨[.b true], []⟩
 else
  bindO (evalF E P0 k N.laws_toEng [.v [.i a0_0, .i a0_1, .i a0_2, .r a0_3, .i a0_4, .i a0_5, .i a0_6, .i a0_7, .i a0_8, .r a0_9, .i a0_10, .b a0_11, .b a0_12, .r a0_13, .r a0_14, .r a0_15, .r a0_16]]) fun o5 =>
  bindO (evalF E P0 k N.spec_Safe [.v [.i (o5.t 0).asI, .i (o5.t 1).asI, .i (o5.t 2).asI, .r (o5.t 3).asR, .i (o5.t 4).asI, .i (o5.t 5).asI, .i (o5.t 6).asI, .i (o5.t 7).asI, .i (o5.t 8).asI, .r (o5.t 9).asR, .i (o5.t 10).asI, .b (o5.t 11).asB, .b (o5.t 12).asB, .r (o5.t 13).asR, .r (o5.t 14).asR, .r (o5.t 15).asR, .r (o5.t 16).asR]]) fun o6 =>
  bindO (evalF E P0 k N.laws_toEng [.v [.i a0_0, .i a0_1, .i a0_2, .r a0_3, .i a0_4, .i a0_5, .i a0_6, .i a0_7, .i a0_8, .r a0_9, .i a0_10, .b a0_11, .b a0_12, .r a0_13, .r a0_14, .r a0_15, .r a0_16]]) fun o8 =>
  bindO (evalF E P0 k N.impl_Safe [.v [.i (o8.t 0).asI, .i (o8.t 1).asI, .i (o8.t 2).asI, .r (o8.t 3).asR, .i (o8.t 4).asI, .i (o8.t 5).asI, .i (o8.t 6).asI, .i (o8.t 7).asI, .i (o8.t 8).asI, .r (o8.t 9).asR, .i (o8.t 10).asI, .b (o8.t 11).asB, .b (o8.t 12).asB, .r (o8.t 13).asR, .r (o8.t 14).asR, .r (o8.t 15).asR, .r (o8.t 16).asR]]) fun o10 =>
  bif ((o10.t 0).asI != (o6.t 0).asI) then
   some ⟨[.b false], []⟩
  else
   bindO (evalF E P0 k N.laws_toEng [.v [.i a0_0, .i a0_1, .i a0_2, .r a0_3, .i a0_4, .i a0_5, .i a0_6, .i a0_7, .i a0_8, .r a0_9, .i a0_10, .b a0_11, .b a0_12, .r a0_13, .r a0_14, .r a0_15, .r a0_16]]) fun o13 =>
   bindO (evalF E P0 k N.laws_eqEng [.v [.i (o8.t 0).asI, .i (o8.t 1).asI, .i (o8.t 2).asI, .r (o8.t 3).asR, .i (o8.t 4).asI, .i (o8.t 5).asI, .i (o8.t 6).asI, .i (o8.t 7).asI, .i (o8.t 8).asI, .r (o8.t 9).asR, .i (o8.t 10).asI, .b (o8.t 11).asB, .b (o8.t 12).asB, .r (o8.t 13).asR, .r (o8.t 14).asR, .r (o8.t 15).asR, .r (o8.t 16).asR], .v [.i (o13.t 0).asI, .i (o13.t 1).asI, .i (o13.t 2).asI, .r (o13.t 3).asR, .i (o13.t 4).asI, .i (o13.t 5).asI, .i (o13.t 6).asI, .i (o13.t 7).asI, .i (o13.t 8).asI, .r (o13.t 9).asR, .i (o13.t 10).asI, .b (o13.t 11).asB, .b (o13.t 12).asB, .r (o13.t 13).asR, .r (o13.t 14).asR, .r (o13.t 15).asR, .r (o13.t 16).asR]]) fun o14 =>
   bif (!(o14.t 0).asB) then some ⟨[.b false], []⟩ else some ⟨[.b true], []⟩
theorem laws_FnExactSafe_e (k : Nat) (a0_0 : Int) (a0_1 : Int) (a0_2 : Int) (a0_3 : List (List T)) (a0_4 : Int) (a0_5 : Int) (a0_6 : Int) (a0_7 : Int) (a0_8 : Int) (a0_9 : List (List T)) (a0_10 : Int) (a0_11 : Bool) (a0_12 : Bool) (a0_13 : List (List T)) (a0_14 : List (List T)) (a0_15 : List (List T)) (a0_16 : List (List T)) : evalF E P0 (k + 1) N.laws_FnExactSafe [.v [.i a0_0, .i a0_1, .i a0_2, .r a0_3, .i a0_4, .i a0_5, .i a0_6, .i a0_7, .i a0_8, .r a0_9, .i a0_10, .b a0_11, .b a0_12, .r a0_13, .r a0_14, .r a0_15, .r a0_16]] = laws_FnExactSafe_u k a0_0 a0_1 a0_2 a0_3 a0_4 a0_5 a0_6 a0_7 a0_8 a0_9 a0_10 a0_11 a0_12 a0_13 a0_14 a0_15 a0_16 := by kernel_rfl
end
end Go.Proofs.YtdmdiingedoblaaGreat.Ev
