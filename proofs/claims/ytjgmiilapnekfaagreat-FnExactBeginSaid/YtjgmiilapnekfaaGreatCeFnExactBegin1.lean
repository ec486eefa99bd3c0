/- What functions answer under the evaluator, as Lean terms, part 1: what FnExactBegin needs. No condition. -/
import Derived.Test.YtjgmiilapnekfaaGreatTab
namespace Go.Proofs.YtjgmiilapnekfaaGreat.Ev
open Go Go.Proofs
set_option linter.unusedVariables false
set_option maxRecDepth 100000
set_option maxHeartbeats 4000000
noncomputable section
def spec_l6Dirty_L1 (k : Nat) (a0_0 : Int) (a0_1 : Int) (a0_2 : Int) (a0_3 : List (List T)) (a0_4 : Int) (a0_5 : Int) (a0_6 : Int) (a0_7 : Int) (a0_8 : Int) (a0_9 : List (List T)) (a0_10 : Int) (a0_11 : Bool) (a0_12 : Bool) (G1 : (Int) → Option Outs) : (Int) → Option Outs := fun v8 =>
 bif (decide (v8 < (a0_9.length : Int))) then
  chk (decide (0 ≤ v8) && decide (v8 < (a0_9.length : Int))) <|
  bindO (evalF E P0 k N.spec_l1In [.v [.i (at_ a0_9 v8.toNat 0).asI], .v [.i 0], .v [.i (IntKind.wrap .i64 (a0_2 - 1))]]) fun o191 =>
  bif (!(o191.t 0).asB) then
   some ⟨[.b false], []⟩
  else
   bif (((at_ a0_9 v8.toNat 1).asR.length : Int) != (IntKind.wrap .i64 (a0_1 - 1))) then
    some ⟨[.b false], []⟩
   else
    bindO (evalF E P0 k N.spec_l1Words [.v [.r (at_ a0_9 v8.toNat 1).asR]]) fun o192 =>
    bif (!(o192.t 0).asB) then
     some ⟨[.b false], []⟩
    else
     bif (decide (v8 > 0)) then
      chk (decide (0 ≤ (IntKind.wrap .i64 (v8 - 1))) && decide ((IntKind.wrap .i64 (v8 - 1)) < (a0_9.length : Int))) <|
      bif (decide ((at_ a0_9 (IntKind.wrap .i64 (v8 - 1)).toNat 0).asI ≥ (at_ a0_9 v8.toNat 0).asI)) then
       some ⟨[.b false], []⟩
      else
       G1 (IntKind.wrap .i64 (v8 + 1))
     else
      G1 (IntKind.wrap .i64 (v8 + 1))
 else
  some ⟨[.b true], []⟩
def spec_l6Dirty_k1 : List Nat := [1, 2, 3]
def spec_l6Dirty_S1 (a0_0 : Int) (a0_1 : Int) (a0_2 : Int) (a0_3 : List (List T)) (a0_4 : Int) (a0_5 : Int) (a0_6 : Int) (a0_7 : Int) (a0_8 : Int) (a0_9 : List (List T)) (a0_10 : Int) (a0_11 : Bool) (a0_12 : Bool) : (Int) → St := fun v8 => ⟨ofSl [(1, .ptr (1, 0) 0), (2, .b false), (3, .i .i64 v8)], ofMem [((1, 0), .var [.i .i64 a0_0, .i .i64 a0_1, .i .i64 a0_2, .sl 160 a0_3, .i .i64 a0_4, .i .i64 a0_5, .i .i64 a0_6, .i .i64 a0_7, .i .i64 a0_8, .sl 162 a0_9, .i .i64 a0_10, .b a0_11, .b a0_12])]⟩
def spec_l6Dirty_l1 (k : Nat) (a0_0 : Int) (a0_1 : Int) (a0_2 : Int) (a0_3 : List (List T)) (a0_4 : Int) (a0_5 : Int) (a0_6 : Int) (a0_7 : Int) (a0_8 : Int) (a0_9 : List (List T)) (a0_10 : Int) (a0_11 : Bool) (a0_12 : Bool) (G1 : (Int) → Option Outs) : (Int) → Option Outs :=
  spec_l6Dirty_L1 k a0_0 a0_1 a0_2 a0_3 a0_4 a0_5 a0_6 a0_7 a0_8 a0_9 a0_10 a0_11 a0_12 G1
def spec_l6Dirty_U (k : Nat) (a0_0 : Int) (a0_1 : Int) (a0_2 : Int) (a0_3 : List (List T)) (a0_4 : Int) (a0_5 : Int) (a0_6 : Int) (a0_7 : Int) (a0_8 : Int) (a0_9 : List (List T)) (a0_10 : Int) (a0_11 : Bool) (a0_12 : Bool) (R1 : (Int) → Option Outs) : Option Outs :=
 R1 0
def spec_l6Dirty_u (k : Nat) (a0_0 : Int) (a0_1 : Int) (a0_2 : Int) (a0_3 : List (List T)) (a0_4 : Int) (a0_5 : Int) (a0_6 : Int) (a0_7 : Int) (a0_8 : Int) (a0_9 : List (List T)) (a0_10 : Int) (a0_11 : Bool) (a0_12 : Bool) : Option Outs :=
  spec_l6Dirty_U k a0_0 a0_1 a0_2 a0_3 a0_4 a0_5 a0_6 a0_7 a0_8 a0_9 a0_10 a0_11 a0_12 (fun v => fixN (spec_l6Dirty_l1 k a0_0 a0_1 a0_2 a0_3 a0_4 a0_5 a0_6 a0_7 a0_8 a0_9 a0_10 a0_11 a0_12) k v)
def spec_l6Dirty_it1 (k : Nat) (a0_0 : Int) (a0_1 : Int) (a0_2 : Int) (a0_3 : List (List T)) (a0_4 : Int) (a0_5 : Int) (a0_6 : Int) (a0_7 : Int) (a0_8 : Int) (a0_9 : List (List T)) (a0_10 : Int) (a0_11 : Bool) (a0_12 : Bool) (js : List Nat) (j : Nat) (s : St) : Option Outs := iter E (LB E (evalF E P0 k) k [] N.spec_l6Dirty [.sr, .sl, .sr, .bl]) [] spec_l6Dirty_k1 (LK E (evalF E P0 k) k [] N.spec_l6Dirty [.v [.i a0_0, .i a0_1, .i a0_2, .r a0_3, .i a0_4, .i a0_5, .i a0_6, .i a0_7, .i a0_8, .r a0_9, .i a0_10, .b a0_11, .b a0_12]] [.sr, .sl, .sr, .bl] js) j s
theorem spec_l6Dirty_e (k : Nat) (a0_0 : Int) (a0_1 : Int) (a0_2 : Int) (a0_3 : List (List T)) (a0_4 : Int) (a0_5 : Int) (a0_6 : Int) (a0_7 : Int) (a0_8 : Int) (a0_9 : List (List T)) (a0_10 : Int) (a0_11 : Bool) (a0_12 : Bool) : evalF E P0 (k + 1) N.spec_l6Dirty [.v [.i a0_0, .i a0_1, .i a0_2, .r a0_3, .i a0_4, .i a0_5, .i a0_6, .i a0_7, .i a0_8, .r a0_9, .i a0_10, .b a0_11, .b a0_12]] = spec_l6Dirty_u k a0_0 a0_1 a0_2 a0_3 a0_4 a0_5 a0_6 a0_7 a0_8 a0_9 a0_10 a0_11 a0_12 := by
  have e0 : evalF E P0 (k + 1) N.spec_l6Dirty [.v [.i a0_0, .i a0_1, .i a0_2, .r a0_3, .i a0_4, .i a0_5, .i a0_6, .i a0_7, .i a0_8, .r a0_9, .i a0_10, .b a0_11, .b a0_12]] = spec_l6Dirty_U k a0_0 a0_1 a0_2 a0_3 a0_4 a0_5 a0_6 a0_7 a0_8 a0_9 a0_10 a0_11 a0_12 (fun v => spec_l6Dirty_it1 k a0_0 a0_1 a0_2 a0_3 a0_4 a0_5 a0_6 a0_7 a0_8 a0_9 a0_10 a0_11 a0_12 [] k (spec_l6Dirty_S1 a0_0 a0_1 a0_2 a0_3 a0_4 a0_5 a0_6 a0_7 a0_8 a0_9 a0_10 a0_11 a0_12 v)) := by kernel_rfl
  have e1 : ∀ (j1 : Nat) (v : Int), spec_l6Dirty_it1 k a0_0 a0_1 a0_2 a0_3 a0_4 a0_5 a0_6 a0_7 a0_8 a0_9 a0_10 a0_11 a0_12 [] (j1 + 1) (spec_l6Dirty_S1 a0_0 a0_1 a0_2 a0_3 a0_4 a0_5 a0_6 a0_7 a0_8 a0_9 a0_10 a0_11 a0_12 v) = spec_l6Dirty_L1 k a0_0 a0_1 a0_2 a0_3 a0_4 a0_5 a0_6 a0_7 a0_8 a0_9 a0_10 a0_11 a0_12 (fun v => spec_l6Dirty_it1 k a0_0 a0_1 a0_2 a0_3 a0_4 a0_5 a0_6 a0_7 a0_8 a0_9 a0_10 a0_11 a0_12 [] j1 (spec_l6Dirty_S1 a0_0 a0_1 a0_2 a0_3 a0_4 a0_5 a0_6 a0_7 a0_8 a0_9 a0_10 a0_11 a0_12 v)) v := by
    intro j1 v; kernel_rfl
  have i1 : ∀ (j1 : Nat) (v : Int), spec_l6Dirty_it1 k a0_0 a0_1 a0_2 a0_3 a0_4 a0_5 a0_6 a0_7 a0_8 a0_9 a0_10 a0_11 a0_12 [] j1 (spec_l6Dirty_S1 a0_0 a0_1 a0_2 a0_3 a0_4 a0_5 a0_6 a0_7 a0_8 a0_9 a0_10 a0_11 a0_12 v) = fixN (spec_l6Dirty_l1 k a0_0 a0_1 a0_2 a0_3 a0_4 a0_5 a0_6 a0_7 a0_8 a0_9 a0_10 a0_11 a0_12) j1 v := by
    intro j1 v
    refine iter_fix (spec_l6Dirty_S1 a0_0 a0_1 a0_2 a0_3 a0_4 a0_5 a0_6 a0_7 a0_8 a0_9 a0_10 a0_11 a0_12) (spec_l6Dirty_l1 k a0_0 a0_1 a0_2 a0_3 a0_4 a0_5 a0_6 a0_7 a0_8 a0_9 a0_10 a0_11 a0_12) (fun j1 v => (e1 j1 v).trans ?_) j1 v
    unfold spec_l6Dirty_l1
    rfl
  rw [e0]; unfold spec_l6Dirty_u
  simp only [i1]
def spec_ArrOk_J2 (k : Nat) (a0_6 : Int) (a0_7 : Int) (a0_8 : Int) (a0_10 : Int) (c2 : Bool) : Option Outs :=
 bif c2 then
  some ⟨[.b false], []⟩
 else
  bindO (evalF E P0 k N.spec_l1In [.v [.i a0_7], .v [.i 0], .v [.i 60000]]) fun o13 =>
  bif (o13.t 0).asB then
   bindO (evalF E P0 k N.spec_l1In [.v [.i a0_6], .v [.i a0_7], .v [.i 60000]]) fun o14 =>
   bif (o14.t 0).asB then
    bif (decide (a0_6 ≤ (IntKind.wrap .i64 (a0_7 + 4)))) then
     bindO (evalF E P0 k N.spec_l1In [.v [.i a0_8], .v [.i 0], .v [.i 60000]]) fun o15 =>
     bif (o15.t 0).asB then
      bindO (evalF E P0 k N.spec_l1In [.v [.i a0_10], .v [.i (-1)], .v [.i 1000]]) fun o16 =>
      some ⟨[.b (o16.t 0).asB], []⟩
     else
      some ⟨[.b false], []⟩
    else
     some ⟨[.b false], []⟩
   else
    some ⟨[.b false], []⟩
  else
   some ⟨[.b false], []⟩
def spec_ArrOk_J1 (k : Nat) (a0_1 : Int) (a0_2 : Int) (a0_4 : Int) (a0_5 : Int) (a0_6 : Int) (a0_7 : Int) (a0_8 : Int) (a0_10 : Int) (c1 : Bool) : Option Outs :=
 bif c1 then
  some ⟨[.b false], []⟩
 else
  bindO (evalF E P0 k N.spec_l1In [.v [.i a0_4], .v [.i (-1)], .v [.i (IntKind.wrap .i64 (a0_1 - 1))]]) fun o8 =>
  bif (!(o8.t 0).asB) then
   spec_ArrOk_J2 k a0_6 a0_7 a0_8 a0_10 true
  else
   bindO (evalF E P0 k N.spec_l1In [.v [.i a0_5], .v [.i 0], .v [.i a0_2]]) fun o17 =>
   bif (!(o17.t 0).asB) then
    spec_ArrOk_J2 k a0_6 a0_7 a0_8 a0_10 true
   else
    bif (a0_4 == (-1)) then
     spec_ArrOk_J2 k a0_6 a0_7 a0_8 a0_10 (a0_5 != 0)
    else
     spec_ArrOk_J2 k a0_6 a0_7 a0_8 a0_10 false
def spec_ArrOk_u (k : Nat) (a0_0 : Int) (a0_1 : Int) (a0_2 : Int) (a0_3 : List (List T)) (a0_4 : Int) (a0_5 : Int) (a0_6 : Int) (a0_7 : Int) (a0_8 : Int) (a0_9 : List (List T)) (a0_10 : Int) (a0_11 : Bool) (a0_12 : Bool) : Option Outs :=
 bindO (evalF E P0 k N.spec_GeoOk [.v [.i a0_1, .i a0_2]]) fun o5 =>
 bif (!(o5.t 0).asB) then
  spec_ArrOk_J1 k a0_1 a0_2 a0_4 a0_5 a0_6 a0_7 a0_8 a0_10 true
 else
  bindO (evalF E P0 k N.spec_l1In [.v [.i a0_0], .v [.i 1], .v [.i 60000]]) fun o18 =>
  bif (!(o18.t 0).asB) then
   spec_ArrOk_J1 k a0_1 a0_2 a0_4 a0_5 a0_6 a0_7 a0_8 a0_10 true
  else
   bindO (evalF E P0 k N.spec_l6Mems [.v [.i a0_0, .i a0_1, .i a0_2, .r a0_3, .i a0_4, .i a0_5, .i a0_6, .i a0_7, .i a0_8, .r a0_9, .i a0_10, .b a0_11, .b a0_12]]) fun o19 =>
   bif (!(o19.t 0).asB) then
    spec_ArrOk_J1 k a0_1 a0_2 a0_4 a0_5 a0_6 a0_7 a0_8 a0_10 true
   else
    bindO (evalF E P0 k N.spec_l6Dirty [.v [.i a0_0, .i a0_1, .i a0_2, .r a0_3, .i a0_4, .i a0_5, .i a0_6, .i a0_7, .i a0_8, .r a0_9, .i a0_10, .b a0_11, .b a0_12]]) fun o20 =>
    spec_ArrOk_J1 k a0_1 a0_2 a0_4 a0_5 a0_6 a0_7 a0_8 a0_10 (!(o20.t 0).asB)
theorem spec_ArrOk_e (k : Nat) (a0_0 : Int) (a0_1 : Int) (a0_2 : Int) (a0_3 : List (List T)) (a0_4 : Int) (a0_5 : Int) (a0_6 : Int) (a0_7 : Int) (a0_8 : Int) (a0_9 : List (List T)) (a0_10 : Int) (a0_11 : Bool) (a0_12 : Bool) : evalF E P0 (k + 1) N.spec_ArrOk [.v [.i a0_0, .i a0_1, .i a0_2, .r a0_3, .i a0_4, .i a0_5, .i a0_6, .i a0_7, .i a0_8, .r a0_9, .i a0_10, .b a0_11, .b a0_12]] = spec_ArrOk_u k a0_0 a0_1 a0_2 a0_3 a0_4 a0_5 a0_6 a0_7 a0_8 a0_9 a0_10 a0_11 a0_12 := by kernel_rfl
def spec_EngOk_L1 (k : Nat) (a0_0 : Int) (a0_1 : Int) (a0_2 : Int) (a0_3 : List (List T)) (a0_4 : Int) (a0_5 : Int) (a0_6 : Int) (a0_7 : Int) (a0_8 : Int) (a0_9 : List (List T)) (a0_10 : Int) (a0_11 : Bool) (a0_12 : Bool) (a0_13 : List (List T)) (a0_14 : List (List T)) (a0_15 : List (List T)) (a0_16 : List (List T)) (G1 : (Int) → Option Outs) : (Int) → Option Outs := fun v8 =>
 bif (decide (v8 < (a0_14.length : Int))) then
  bindO (evalF E P0 k N.spec_l15Job [.v [.i a0_0, .i a0_1, .i a0_2, .r a0_3, .i a0_4, .i a0_5, .i a0_6, .i a0_7, .i a0_8, .r a0_9, .i a0_10, .b a0_11, .b a0_12, .r a0_13, .r a0_14, .r a0_15, .r a0_16], .v [.i v8]]) fun o96 =>
  bif (!(o96.t 0).asB) then some ⟨[.b false], []⟩ else G1 (IntKind.wrap .i64 (v8 + 1))
 else
  bindO (evalF E P0 k N.spec_ArrOk [.v [.i a0_0, .i a0_1, .i a0_2, .r a0_3, .i a0_4, .i a0_5, .i a0_6, .i a0_7, .i a0_8, .r a0_9, .i a0_10, .b a0_11, .b a0_12]]) fun o98 =>
  bif (o98.t 0).asB then
   bif (decide ((a0_13.length : Int) ≤ 8)) then
    bif (decide ((a0_14.length : Int) ≤ 4)) then
     bif (decide ((a0_15.length : Int) ≤ 8)) then
      some ⟨[.b (decide ((a0_16.length : Int) ≤ 400))], []⟩
     else
      some ⟨[.b false], []⟩
    else
     some ⟨[.b false], []⟩
   else
    some ⟨[.b false], []⟩
  else
   some ⟨[.b false], []⟩
def spec_EngOk_k1 : List Nat := [1, 2, 3, 15, 16, 17, 18, 19, 20, 21, 22, 23, 24, 25, 26, 27, 28, 29, 30, 31, 32, 33, 34, 35, 36, 37, 38, 39, 40, 41]
def spec_EngOk_S1 (a0_0 : Int) (a0_1 : Int) (a0_2 : Int) (a0_3 : List (List T)) (a0_4 : Int) (a0_5 : Int) (a0_6 : Int) (a0_7 : Int) (a0_8 : Int) (a0_9 : List (List T)) (a0_10 : Int) (a0_11 : Bool) (a0_12 : Bool) (a0_13 : List (List T)) (a0_14 : List (List T)) (a0_15 : List (List T)) (a0_16 : List (List T)) : (Int) → St := fun v8 => ⟨ofSl [(1, .ptr (1, 0) 0), (2, .b false), (3, .i .i64 v8), (15, .skip), (16, .skip), (17, .skip), (18, .skip), (19, .skip), (20, .skip), (21, .skip), (22, .skip), (23, .skip), (24, .skip), (25, .skip), (26, .skip), (27, .skip), (28, .skip), (29, .skip), (30, .skip), (31, .skip), (32, .skip), (33, .skip), (34, .skip), (35, .skip), (36, .skip), (37, .skip), (38, .skip), (39, .skip), (40, .skip), (41, .skip)], ofMem [((1, 0), .var [.i .i64 a0_0, .i .i64 a0_1, .i .i64 a0_2, .sl 160 a0_3, .i .i64 a0_4, .i .i64 a0_5, .i .i64 a0_6, .i .i64 a0_7, .i .i64 a0_8, .sl 162 a0_9, .i .i64 a0_10, .b a0_11, .b a0_12, .sl 53 a0_13, .sl 103 a0_14, .sl 61 a0_15, .sl 120 a0_16])]⟩
def spec_EngOk_l1 (k : Nat) (a0_0 : Int) (a0_1 : Int) (a0_2 : Int) (a0_3 : List (List T)) (a0_4 : Int) (a0_5 : Int) (a0_6 : Int) (a0_7 : Int) (a0_8 : Int) (a0_9 : List (List T)) (a0_10 : Int) (a0_11 : Bool) (a0_12 : Bool) (a0_13 : List (List T)) (a0_14 : List (List T)) (a0_15 : List (List T)) (a0_16 : List (List T)) (G1 : (Int) → Option Outs) : (Int) → Option Outs :=
  spec_EngOk_L1 k a0_0 a0_1 a0_2 a0_3 a0_4 a0_5 a0_6 a0_7 a0_8 a0_9 a0_10 a0_11 a0_12 a0_13 a0_14 a0_15 a0_16 G1
def spec_EngOk_U (k : Nat) (a0_0 : Int) (a0_1 : Int) (a0_2 : Int) (a0_3 : List (List T)) (a0_4 : Int) (a0_5 : Int) (a0_6 : Int) (a0_7 : Int) (a0_8 : Int) (a0_9 : List (List T)) (a0_10 : Int) (a0_11 : Bool) (a0_12 : Bool) (a0_13 : List (List T)) (a0_14 : List (List T)) (a0_15 : List (List T)) (a0_16 : List (List T)) (R1 : (Int) → Option Outs) : Option Outs :=
 R1 0
def spec_EngOk_u (k : Nat) (a0_0 : Int) (a0_1 : Int) (a0_2 : Int) (a0_3 : List (List T)) (a0_4 : Int) (a0_5 : Int) (a0_6 : Int) (a0_7 : Int) (a0_8 : Int) (a0_9 : List (List T)) (a0_10 : Int) (a0_11 : Bool) (a0_12 : Bool) (a0_13 : List (List T)) (a0_14 : List (List T)) (a0_15 : List (List T)) (a0_16 : List (List T)) : Option Outs :=
  spec_EngOk_U k a0_0 a0_1 a0_2 a0_3 a0_4 a0_5 a0_6 a0_7 a0_8 a0_9 a0_10 a0_11 a0_12 a0_13 a0_14 a0_15 a0_16 (fun v => fixN (spec_EngOk_l1 k a0_0 a0_1 a0_2 a0_3 a0_4 a0_5 a0_6 a0_7 a0_8 a0_9 a0_10 a0_11 a0_12 a0_13 a0_14 a0_15 a0_16) k v)
def spec_EngOk_it1 (k : Nat) (a0_0 : Int) (a0_1 : Int) (a0_2 : Int) (a0_3 : List (List T)) (a0_4 : Int) (a0_5 : Int) (a0_6 : Int) (a0_7 : Int) (a0_8 : Int) (a0_9 : List (List T)) (a0_10 : Int) (a0_11 : Bool) (a0_12 : Bool) (a0_13 : List (List T)) (a0_14 : List (List T)) (a0_15 : List (List T)) (a0_16 : List (List T)) (js : List Nat) (j : Nat) (s : St) : Option Outs := iter E (LB E (evalF E P0 k) k [] N.spec_EngOk [.sr, .sl, .sr, .bl]) [] spec_EngOk_k1 (LK E (evalF E P0 k) k [] N.spec_EngOk [.v [.i a0_0, .i a0_1, .i a0_2, .r a0_3, .i a0_4, .i a0_5, .i a0_6, .i a0_7, .i a0_8, .r a0_9, .i a0_10, .b a0_11, .b a0_12, .r a0_13, .r a0_14, .r a0_15, .r a0_16]] [.sr, .sl, .sr, .bl] js) j s
theorem spec_EngOk_e (k : Nat) (a0_0 : Int) (a0_1 : Int) (a0_2 : Int) (a0_3 : List (List T)) (a0_4 : Int) (a0_5 : Int) (a0_6 : Int) (a0_7 : Int) (a0_8 : Int) (a0_9 : List (List T)) (a0_10 : Int) (a0_11 : Bool) (a0_12 : Bool) (a0_13 : List (List T)) (a0_14 : List (List T)) (a0_15 : List (List T)) (a0_16 : List (List T)) : evalF E P0 (k + 1) N.spec_EngOk [.v [.i a0_0, .i a0_1, .i a0_2, .r a0_3, .i a0_4, .i a0_5, .i a0_6, .i a0_7, .i a0_8, .r a0_9, .i a0_10, .b a0_11, .b a0_12, .r a0_13, .r a0_14, .r a0_15, .r a0_16]] = spec_EngOk_u k a0_0 a0_1 a0_2 a0_3 a0_4 a0_5 a0_6 a0_7 a0_8 a0_9 a0_10 a0_11 a0_12 a0_13 a0_14 a0_15 a0_16 := by
  have e0 : evalF E P0 (k + 1) N.spec_EngOk [.v [.i a0_0, .i a0_1, .i a0_2, .r a0_3, .i a0_4, .i a0_5, .i a0_6, .i a0_7, .i a0_8, .r a0_9, .i a0_10, .b a0_11, .b a0_12, .r a0_13, .r a0_14, .r a0_15, .r a0_16]] = spec_EngOk_U k a0_0 a0_1 a0_2 a0_3 a0_4 a0_5 a0_6 a0_7 a0_8 a0_9 a0_10 a0_11 a0_12 a0_13 a0_14 a0_15 a0_16 (fun v => spec_EngOk_it1 k a0_0 a0_1 a0_2 a0_3 a0_4 a0_5 a0_6 a0_7 a0_8 a0_9 a0_10 a0_11 a0_12 a0_13 a0_14 a0_15 a0_16 [] k (spec_EngOk_S1 a0_0 a0_1 a0_2 a0_3 a0_4 a0_5 a0_6 a0_7 a0_8 a0_9 a0_10 a0_11 a0_12 a0_13 a0_14 a0_15 a0_16 v)) := by kernel_rfl
  have e1 : ∀ (j1 : Nat) (v : Int), spec_EngOk_it1 k a0_0 a0_1 a0_2 a0_3 a0_4 a0_5 a0_6 a0_7 a0_8 a0_9 a0_10 a0_11 a0_12 a0_13 a0_14 a0_15 a0_16 [] (j1 + 1) (spec_EngOk_S1 a0_0 a0_1 a0_2 a0_3 a0_4 a0_5 a0_6 a0_7 a0_8 a0_9 a0_10 a0_11 a0_12 a0_13 a0_14 a0_15 a0_16 v) = spec_EngOk_L1 k a0_0 a0_1 a0_2 a0_3 a0_4 a0_5 a0_6 a0_7 a0_8 a0_9 a0_10 a0_11 a0_12 a0_13 a0_14 a0_15 a0_16 (fun v => spec_EngOk_it1 k a0_0 a0_1 a0_2 a0_3 a0_4 a0_5 a0_6 a0_7 a0_8 a0_9 a0_10 a0_11 a0_12 a0_13 a0_14 a0_15 a0_16 [] j1 (spec_EngOk_S1 a0_0 a0_1 a0_2 a0_3 a0_4 a0_5 a0_6 a0_7 a0_8 a0_9 a0_10 a0_11 a0_12 a0_13 a0_14 a0_15 a0_16 v)) v := by
    intro j1 v; kernel_rfl
  have i1 : ∀ (j1 : Nat) (v : Int), spec_EngOk_it1 k a0_0 a0_1 a0_2 a0_3 a0_4 a0_5 a0_6 a0_7 a0_8 a0_9 a0_10 a0_11 a0_12 a0_13 a0_14 a0_15 a0_16 [] j1 (spec_EngOk_S1 a0_0 a0_1 a0_2 a0_3 a0_4 a0_5 a0_6 a0_7 a0_8 a0_9 a0_10 a0_11 a0_12 a0_13 a0_14 a0_15 a0_16 v) = fixN (spec_EngOk_l1 k a0_0 a0_1 a0_2 a0_3 a0_4 a0_5 a0_6 a0_7 a0_8 a0_9 a0_10 a0_11 a0_12 a0_13 a0_14 a0_15 a0_16) j1 v := by
    intro j1 v
    refine iter_fix (spec_EngOk_S1 a0_0 a0_1 a0_2 a0_3 a0_4 a0_5 a0_6 a0_7 a0_8 a0_9 a0_10 a0_11 a0_12 a0_13 a0_14 a0_15 a0_16) (spec_EngOk_l1 k a0_0 a0_1 a0_2 a0_3 a0_4 a0_5 a0_6 a0_7 a0_8 a0_9 a0_10 a0_11 a0_12 a0_13 a0_14 a0_15 a0_16) (fun j1 v => (e1 j1 v).trans ?_) j1 v
    unfold spec_EngOk_l1
    rfl
  rw [e0]; unfold spec_EngOk_u
  simp only [i1]
def impl_copyInts_u (k : Nat) (a0 : List (List T)) : Option Outs :=
 chk (decide ((([] : List (List T)).length + a0.length) * 8 ≤ 140737488355328)) <|
 some ⟨[.r (([] : List (List T)) ++ a0)], []⟩
theorem impl_copyInts_e (k : Nat) (a0 : List (List T)) : evalF E P0 (k + 1) N.impl_copyInts [.v [.r a0]] = impl_copyInts_u k a0 := by kernel_rfl
def impl_copyMem_L2 (k : Nat) (a0_1 : List (List T)) (a0_2 : Bool) (o2 : Outs) (w8 : List (List T)) (G2 : (Int × List (List T)) → Option Outs) : (Int × List (List T)) → Option Outs := fun (v16, w16) =>
 bif (decide (v16 < (a0_1.length : Int))) then
  chk (decide (0 ≤ v16) && decide (v16 < (a0_1.length : Int))) <|
  bindO (evalF E P0 k N.impl_copyInts [.v [.r (at_ a0_1 v16.toNat 1).asR]]) fun o98 =>
  chk (decide ((w16.length + ([[.i (at_ a0_1 v16.toNat 0).asI, .r (o98.t 0).asR]] : List (List T)).length) * 32 ≤ 140737488355328)) <|
  G2 ((IntKind.wrap .i64 (v16 + 1)), (w16 ++ ([[.i (at_ a0_1 v16.toNat 0).asI, .r (o98.t 0).asR]] : List (List T))))
 else
  some ⟨[.r w8, .r w16, .b a0_2, .r (o2.t 0).asR], []⟩
def impl_copyMem_k2 : List Nat := [2, 3, 30, 31, 32, 48]
def impl_copyMem_S2 (a0_1 : List (List T)) (a0_2 : Bool) (o2 : Outs) (w8 : List (List T)) : (Int × List (List T)) → St := fun (v16, w16) => ⟨ofSl [(2, .ptr (2, 0) 0), (3, .ptr (3, 0) 0), (30, .sl 184 a0_1), (31, .i .i64 (a0_1.length : Int)), (32, .i .i64 v16), (48, .skip)], Mem.put (ofMem [((2, 0), .var [.ref (2, 1), .ref (2, 2), .b false, .ref (2, 4)]), ((2, 1), .deep 34 [] none), ((2, 2), .deep 184 [] none), ((2, 4), .row 3 true []), ((3, 0), .var [.ref (3, 1), .ref (3, 2), .b a0_2, .ref (3, 4)]), ((3, 1), .deep 34 w8 none), ((3, 2), .deep 184 w16 none), ((3, 4), .row 3 true (o2.t 0).asR)]) modeNm .dead⟩
def impl_copyMem_L1 (k : Nat) (a0_0 : List (List T)) (a0_1 : List (List T)) (a0_2 : Bool) (a0_3 : List (List T)) (o2 : Outs) (R2 : Outs → List (List T) → (Int × List (List T)) → Option Outs) (G1 : (Int × List (List T)) → Option Outs) : (Int × List (List T)) → Option Outs := fun (v8, w8) =>
 bif (decide (v8 < (a0_0.length : Int))) then
  chk (decide (0 ≤ v8) && decide (v8 < (a0_0.length : Int))) <|
  bindO (evalF E P0 k N.impl_copyInts [.v [.r (at_ a0_0 v8.toNat 0).asR]]) fun o50 =>
  chk (decide ((w8.length + ([[.r (o50.t 0).asR]] : List (List T)).length) * 24 ≤ 140737488355328)) <|
  G1 ((IntKind.wrap .i64 (v8 + 1)), (w8 ++ ([[.r (o50.t 0).asR]] : List (List T))))
 else
  R2 o2 w8 (0, [])
def impl_copyMem_k1 : List Nat := [1, 2, 3, 7, 15, 16, 17, 29, 30, 31, 32, 33, 34, 35, 36, 37, 38, 39, 40, 41, 42, 43, 44, 45, 46, 47, 48]
def impl_copyMem_S1 (a0_0 : List (List T)) (a0_1 : List (List T)) (a0_2 : Bool) (a0_3 : List (List T)) (o2 : Outs) : (Int × List (List T)) → St := fun (v8, w8) => ⟨ofSl [(1, .ptr (1, 0) 0), (2, .ptr (2, 0) 0), (3, .ptr (3, 0) 0), (7, .skip), (15, .sl 34 a0_0), (16, .i .i64 (a0_0.length : Int)), (17, .i .i64 v8), (29, .skip), (30, .skip), (31, .skip), (32, .skip), (33, .skip), (34, .skip), (35, .skip), (36, .skip), (37, .skip), (38, .skip), (39, .skip), (40, .skip), (41, .skip), (42, .skip), (43, .skip), (44, .skip), (45, .skip), (46, .skip), (47, .skip), (48, .skip)], Mem.put (ofMem [((1, 0), .var [.sl 34 a0_0, .sl 184 a0_1, .b a0_2, .sl 3 a0_3]), ((2, 0), .var [.ref (2, 1), .ref (2, 2), .b false, .ref (2, 4)]), ((2, 1), .deep 34 [] none), ((2, 2), .deep 184 [] none), ((2, 4), .row 3 true []), ((3, 0), .var [.ref (3, 1), .ref (3, 2), .b a0_2, .ref (3, 4)]), ((3, 1), .deep 34 w8 none), ((3, 2), .deep 184 [] none), ((3, 4), .row 3 true (o2.t 0).asR)]) modeNm .dead⟩
def impl_copyMem_l2 (k : Nat) (a0_1 : List (List T)) (a0_2 : Bool) (o2 : Outs) (w8 : List (List T)) (G2 : (Int × List (List T)) → Option Outs) : (Int × List (List T)) → Option Outs :=
  impl_copyMem_L2 k a0_1 a0_2 o2 w8 G2
def impl_copyMem_l1 (k : Nat) (a0_0 : List (List T)) (a0_1 : List (List T)) (a0_2 : Bool) (a0_3 : List (List T)) (o2 : Outs) (G1 : (Int × List (List T)) → Option Outs) : (Int × List (List T)) → Option Outs :=
  impl_copyMem_L1 k a0_0 a0_1 a0_2 a0_3 o2 (fun y0 y1 v => fixN (impl_copyMem_l2 k a0_1 a0_2 y0 y1) k v) G1
def impl_copyMem_U (k : Nat) (a0_0 : List (List T)) (a0_1 : List (List T)) (a0_2 : Bool) (a0_3 : List (List T)) (R1 : Outs → (Int × List (List T)) → Option Outs) : Option Outs :=
 bindO (evalF E P0 k N.impl_copyInts [.v [.r a0_3]]) fun o2 =>
 R1 o2 (0, [])
def impl_copyMem_u (k : Nat) (a0_0 : List (List T)) (a0_1 : List (List T)) (a0_2 : Bool) (a0_3 : List (List T)) : Option Outs :=
  impl_copyMem_U k a0_0 a0_1 a0_2 a0_3 (fun y0 v => fixN (impl_copyMem_l1 k a0_0 a0_1 a0_2 a0_3 y0) k v)
def impl_copyMem_it1 (k : Nat) (a0_0 : List (List T)) (a0_1 : List (List T)) (a0_2 : Bool) (a0_3 : List (List T)) (js : List Nat) (j : Nat) (s : St) : Option Outs := iter E (LB E (evalF E P0 k) k [] N.impl_copyMem [.sr, .sr, .sl, .sr, .bl]) [] impl_copyMem_k1 (LK E (evalF E P0 k) k [] N.impl_copyMem [.v [.r a0_0, .r a0_1, .b a0_2, .r a0_3]] [.sr, .sr, .sl, .sr, .bl] js) j s
def impl_copyMem_it2 (k : Nat) (a0_0 : List (List T)) (a0_1 : List (List T)) (a0_2 : Bool) (a0_3 : List (List T)) (js : List Nat) (j : Nat) (s : St) : Option Outs := iter E (LB E (evalF E P0 k) k [] N.impl_copyMem [.sr, .sr, .sr, .sl, .sr, .bl]) [] impl_copyMem_k2 (LK E (evalF E P0 k) k [] N.impl_copyMem [.v [.r a0_0, .r a0_1, .b a0_2, .r a0_3]] [.sr, .sr, .sr, .sl, .sr, .bl] js) j s
theorem impl_copyMem_e (k : Nat) (a0_0 : List (List T)) (a0_1 : List (List T)) (a0_2 : Bool) (a0_3 : List (List T)) : evalF E P0 (k + 1) N.impl_copyMem [.v [.r a0_0, .r a0_1, .b a0_2, .r a0_3]] = impl_copyMem_u k a0_0 a0_1 a0_2 a0_3 := by
  have e0 : evalF E P0 (k + 1) N.impl_copyMem [.v [.r a0_0, .r a0_1, .b a0_2, .r a0_3]] = impl_copyMem_U k a0_0 a0_1 a0_2 a0_3 (fun y0 v => impl_copyMem_it1 k a0_0 a0_1 a0_2 a0_3 [] k (impl_copyMem_S1 a0_0 a0_1 a0_2 a0_3 y0 v)) := by kernel_rfl
  have e2 : ∀ (o2 : Outs) (w8 : List (List T)) (j2 : Nat) (v : Int × List (List T)), impl_copyMem_it2 k a0_0 a0_1 a0_2 a0_3 [] (j2 + 1) (impl_copyMem_S2 a0_1 a0_2 o2 w8 v) = impl_copyMem_L2 k a0_1 a0_2 o2 w8 (fun v => impl_copyMem_it2 k a0_0 a0_1 a0_2 a0_3 [] j2 (impl_copyMem_S2 a0_1 a0_2 o2 w8 v)) v := by
    intro o2 w8 j2 v; kernel_rfl
  have i2 : ∀ (o2 : Outs) (w8 : List (List T)) (j2 : Nat) (v : Int × List (List T)), impl_copyMem_it2 k a0_0 a0_1 a0_2 a0_3 [] j2 (impl_copyMem_S2 a0_1 a0_2 o2 w8 v) = fixN (impl_copyMem_l2 k a0_1 a0_2 o2 w8) j2 v := by
    intro o2 w8 j2 v
    refine iter_fix (impl_copyMem_S2 a0_1 a0_2 o2 w8) (impl_copyMem_l2 k a0_1 a0_2 o2 w8) (fun j2 v => (e2 o2 w8 j2 v).trans ?_) j2 v
    unfold impl_copyMem_l2
    rfl
  have e1 : ∀ (o2 : Outs) (j1 : Nat) (v : Int × List (List T)), impl_copyMem_it1 k a0_0 a0_1 a0_2 a0_3 [] (j1 + 1) (impl_copyMem_S1 a0_0 a0_1 a0_2 a0_3 o2 v) = impl_copyMem_L1 k a0_0 a0_1 a0_2 a0_3 o2 (fun y0 y1 v => impl_copyMem_it2 k a0_0 a0_1 a0_2 a0_3 [] k (impl_copyMem_S2 a0_1 a0_2 y0 y1 v)) (fun v => impl_copyMem_it1 k a0_0 a0_1 a0_2 a0_3 [] j1 (impl_copyMem_S1 a0_0 a0_1 a0_2 a0_3 o2 v)) v := by
    intro o2 j1 v; kernel_rfl
  have i1 : ∀ (o2 : Outs) (j1 : Nat) (v : Int × List (List T)), impl_copyMem_it1 k a0_0 a0_1 a0_2 a0_3 [] j1 (impl_copyMem_S1 a0_0 a0_1 a0_2 a0_3 o2 v) = fixN (impl_copyMem_l1 k a0_0 a0_1 a0_2 a0_3 o2) j1 v := by
    intro o2 j1 v
    refine iter_fix (impl_copyMem_S1 a0_0 a0_1 a0_2 a0_3 o2) (impl_copyMem_l1 k a0_0 a0_1 a0_2 a0_3 o2) (fun j1 v => (e1 o2 j1 v).trans ?_) j1 v
    unfold impl_copyMem_l1
    simp only [i2] <;> rfl
  rw [e0]; unfold impl_copyMem_u
  simp only [i1]
def impl_copyMems_L1 (k : Nat) (a0 : List (List T)) (G1 : (Int × List (List T)) → Option Outs) : (Int × List (List T)) → Option Outs := fun (v8, w8) =>
 bif (decide (v8 < (a0.length : Int))) then
  chk (decide (0 ≤ v8) && decide (v8 < (a0.length : Int))) <|
  bindO (evalF E P0 k N.impl_copyMem [.v [.r (at_ a0 v8.toNat 0).asR, .r (at_ a0 v8.toNat 1).asR, .b (at_ a0 v8.toNat 2).asB, .r (at_ a0 v8.toNat 3).asR]]) fun o48 =>
  chk (decide ((w8.length + ([[.r (o48.t 0).asR, .r (o48.t 1).asR, .b (o48.t 2).asB, .r (o48.t 3).asR]] : List (List T)).length) * 80 ≤ 140737488355328)) <|
  G1 ((IntKind.wrap .i64 (v8 + 1)), (w8 ++ ([[.r (o48.t 0).asR, .r (o48.t 1).asR, .b (o48.t 2).asB, .r (o48.t 3).asR]] : List (List T))))
 else
  some ⟨[.r w8], []⟩
def impl_copyMems_k1 : List Nat := [2, 3, 7, 8, 9, 19]
def impl_copyMems_S1 (a0 : List (List T)) : (Int × List (List T)) → St := fun (v8, w8) => ⟨ofSl [(2, .ref (2, 0)), (3, .ref (3, 0)), (7, .sl 160 a0), (8, .i .i64 (a0.length : Int)), (9, .i .i64 v8), (19, .skip)], Mem.put (ofMem [((2, 0), .deep 160 [] none), ((3, 0), .deep 160 w8 none)]) modeNm .dead⟩
def impl_copyMems_l1 (k : Nat) (a0 : List (List T)) (G1 : (Int × List (List T)) → Option Outs) : (Int × List (List T)) → Option Outs :=
  impl_copyMems_L1 k a0 G1
def impl_copyMems_U (k : Nat) (a0 : List (List T)) (R1 : (Int × List (List T)) → Option Outs) : Option Outs :=
 R1 (0, [])
def impl_copyMems_u (k : Nat) (a0 : List (List T)) : Option Outs :=
  impl_copyMems_U k a0 (fun v => fixN (impl_copyMems_l1 k a0) k v)
def impl_copyMems_it1 (k : Nat) (a0 : List (List T)) (js : List Nat) (j : Nat) (s : St) : Option Outs := iter E (LB E (evalF E P0 k) k [] N.impl_copyMems [.sr, .sr, .sl, .sr, .bl]) [] impl_copyMems_k1 (LK E (evalF E P0 k) k [] N.impl_copyMems [.v [.r a0]] [.sr, .sr, .sl, .sr, .bl] js) j s
theorem impl_copyMems_e (k : Nat) (a0 : List (List T)) : evalF E P0 (k + 1) N.impl_copyMems [.v [.r a0]] = impl_copyMems_u k a0 := by
  have e0 : evalF E P0 (k + 1) N.impl_copyMems [.v [.r a0]] = impl_copyMems_U k a0 (fun v => impl_copyMems_it1 k a0 [] k (impl_copyMems_S1 a0 v)) := by kernel_rfl
  have e1 : ∀ (j1 : Nat) (v : Int × List (List T)), impl_copyMems_it1 k a0 [] (j1 + 1) (impl_copyMems_S1 a0 v) = impl_copyMems_L1 k a0 (fun v => impl_copyMems_it1 k a0 [] j1 (impl_copyMems_S1 a0 v)) v := by
    intro j1 v; kernel_rfl
  have i1 : ∀ (j1 : Nat) (v : Int × List (List T)), impl_copyMems_it1 k a0 [] j1 (impl_copyMems_S1 a0 v) = fixN (impl_copyMems_l1 k a0) j1 v := by
    intro j1 v
    refine iter_fix (impl_copyMems_S1 a0) (impl_copyMems_l1 k a0) (fun j1 v => (e1 j1 v).trans ?_) j1 v
    unfold impl_copyMems_l1
    rfl
  rw [e0]; unfold impl_copyMems_u
  simp only [i1]
def impl_copyArr_L1 (k : Nat) (a0_0 : Int) (a0_1 : Int) (a0_2 : Int) (a0_3 : List (List T)) (a0_4 : Int) (a0_5 : Int) (a0_6 : Int) (a0_7 : Int) (a0_8 : Int) (a0_9 : List (List T)) (a0_10 : Int) (a0_11 : Bool) (a0_12 : Bool) (G1 : (Int × List (List T)) → Option Outs) : (Int × List (List T)) → Option Outs := fun (v8, w8) =>
 bif (decide (v8 < (a0_9.length : Int))) then
  chk (decide (0 ≤ v8) && decide (v8 < (a0_9.length : Int))) <|
  bindO (evalF E P0 k N.impl_copyInts [.v [.r (at_ a0_9 v8.toNat 1).asR]]) fun o48 =>
  chk (decide ((w8.length + ([[.i (at_ a0_9 v8.toNat 0).asI, .r (o48.t 0).asR]] : List (List T)).length) * 32 ≤ 140737488355328)) <|
  G1 ((IntKind.wrap .i64 (v8 + 1)), (w8 ++ ([[.i (at_ a0_9 v8.toNat 0).asI, .r (o48.t 0).asR]] : List (List T))))
 else
  bindO (evalF E P0 k N.impl_copyMems [.v [.r a0_3]]) fun o50 =>
  some ⟨[.i a0_0, .i a0_1, .i a0_2, .r (o50.t 0).asR, .i a0_4, .i a0_5, .i a0_6, .i a0_7, .i a0_8, .r w8, .i a0_10, .b a0_11, .b a0_12], []⟩
def impl_copyArr_k1 : List Nat := [1, 2, 3, 8, 9, 10, 24, 25, 26, 27, 28, 29, 30]
def impl_copyArr_S1 (a0_0 : Int) (a0_1 : Int) (a0_2 : Int) (a0_3 : List (List T)) (a0_4 : Int) (a0_5 : Int) (a0_6 : Int) (a0_7 : Int) (a0_8 : Int) (a0_9 : List (List T)) (a0_10 : Int) (a0_11 : Bool) (a0_12 : Bool) : (Int × List (List T)) → St := fun (v8, w8) => ⟨ofSl [(1, .ptr (1, 0) 0), (2, .ptr (2, 0) 0), (3, .ref (3, 0)), (8, .sl 162 a0_9), (9, .i .i64 (a0_9.length : Int)), (10, .i .i64 v8), (24, .skip), (25, .skip), (26, .skip), (27, .skip), (28, .skip), (29, .skip), (30, .skip)], Mem.put (ofMem [((1, 0), .var [.i .i64 a0_0, .i .i64 a0_1, .i .i64 a0_2, .sl 160 a0_3, .i .i64 a0_4, .i .i64 a0_5, .i .i64 a0_6, .i .i64 a0_7, .i .i64 a0_8, .sl 162 a0_9, .i .i64 a0_10, .b a0_11, .b a0_12]), ((2, 0), .var [.i .i64 0, .i .i64 0, .i .i64 0, .ref (2, 4), .i .i64 0, .i .i64 0, .i .i64 0, .i .i64 0, .i .i64 0, .ref (2, 10), .i .i64 0, .b false, .b false]), ((2, 4), .deep 160 [] none), ((2, 10), .deep 162 [] none), ((3, 0), .deep 162 w8 none)]) modeNm .dead⟩
def impl_copyArr_l1 (k : Nat) (a0_0 : Int) (a0_1 : Int) (a0_2 : Int) (a0_3 : List (List T)) (a0_4 : Int) (a0_5 : Int) (a0_6 : Int) (a0_7 : Int) (a0_8 : Int) (a0_9 : List (List T)) (a0_10 : Int) (a0_11 : Bool) (a0_12 : Bool) (G1 : (Int × List (List T)) → Option Outs) : (Int × List (List T)) → Option Outs :=
  impl_copyArr_L1 k a0_0 a0_1 a0_2 a0_3 a0_4 a0_5 a0_6 a0_7 a0_8 a0_9 a0_10 a0_11 a0_12 G1
def impl_copyArr_U (k : Nat) (a0_0 : Int) (a0_1 : Int) (a0_2 : Int) (a0_3 : List (List T)) (a0_4 : Int) (a0_5 : Int) (a0_6 : Int) (a0_7 : Int) (a0_8 : Int) (a0_9 : List (List T)) (a0_10 : Int) (a0_11 : Bool) (a0_12 : Bool) (R1 : (Int × List (List T)) → Option Outs) : Option Outs :=
 R1 (0, [])
def impl_copyArr_u (k : Nat) (a0_0 : Int) (a0_1 : Int) (a0_2 : Int) (a0_3 : List (List T)) (a0_4 : Int) (a0_5 : Int) (a0_6 : Int) (a0_7 : Int) (a0_8 : Int) (a0_9 : List (List T)) (a0_10 : Int) (a0_11 : Bool) (a0_12 : Bool) : Option Outs :=
  impl_copyArr_U k a0_0 a0_1 a0_2 a0_3 a0_4 a0_5 a0_6 a0_7 a0_8 a0_9 a0_10 a0_11 a0_12 (fun v => fixN (impl_copyArr_l1 k a0_0 a0_1 a0_2 a0_3 a0_4 a0_5 a0_6 a0_7 a0_8 a0_9 a0_10 a0_11 a0_12) k v)
def impl_copyArr_it1 (k : Nat) (a0_0 : Int) (a0_1 : Int) (a0_2 : Int) (a0_3 : List (List T)) (a0_4 : Int) (a0_5 : Int) (a0_6 : Int) (a0_7 : Int) (a0_8 : Int) (a0_9 : List (List T)) (a0_10 : Int) (a0_11 : Bool) (a0_12 : Bool) (js : List Nat) (j : Nat) (s : St) : Option Outs := iter E (LB E (evalF E P0 k) k [] N.impl_copyArr [.sr, .sr, .sl, .sr, .bl]) [] impl_copyArr_k1 (LK E (evalF E P0 k) k [] N.impl_copyArr [.v [.i a0_0, .i a0_1, .i a0_2, .r a0_3, .i a0_4, .i a0_5, .i a0_6, .i a0_7, .i a0_8, .r a0_9, .i a0_10, .b a0_11, .b a0_12]] [.sr, .sr, .sl, .sr, .bl] js) j s
theorem impl_copyArr_e (k : Nat) (a0_0 : Int) (a0_1 : Int) (a0_2 : Int) (a0_3 : List (List T)) (a0_4 : Int) (a0_5 : Int) (a0_6 : Int) (a0_7 : Int) (a0_8 : Int) (a0_9 : List (List T)) (a0_10 : Int) (a0_11 : Bool) (a0_12 : Bool) : evalF E P0 (k + 1) N.impl_copyArr [.v [.i a0_0, .i a0_1, .i a0_2, .r a0_3, .i a0_4, .i a0_5, .i a0_6, .i a0_7, .i a0_8, .r a0_9, .i a0_10, .b a0_11, .b a0_12]] = impl_copyArr_u k a0_0 a0_1 a0_2 a0_3 a0_4 a0_5 a0_6 a0_7 a0_8 a0_9 a0_10 a0_11 a0_12 := by
  have e0 : evalF E P0 (k + 1) N.impl_copyArr [.v [.i a0_0, .i a0_1, .i a0_2, .r a0_3, .i a0_4, .i a0_5, .i a0_6, .i a0_7, .i a0_8, .r a0_9, .i a0_10, .b a0_11, .b a0_12]] = impl_copyArr_U k a0_0 a0_1 a0_2 a0_3 a0_4 a0_5 a0_6 a0_7 a0_8 a0_9 a0_10 a0_11 a0_12 (fun v => impl_copyArr_it1 k a0_0 a0_1 a0_2 a0_3 a0_4 a0_5 a0_6 a0_7 a0_8 a0_9 a0_10 a0_11 a0_12 [] k (impl_copyArr_S1 a0_0 a0_1 a0_2 a0_3 a0_4 a0_5 a0_6 a0_7 a0_8 a0_9 a0_10 a0_11 a0_12 v)) := by kernel_rfl
  have e1 : ∀ (j1 : Nat) (v : Int × List (List T)), impl_copyArr_it1 k a0_0 a0_1 a0_2 a0_3 a0_4 a0_5 a0_6 a0_7 a0_8 a0_9 a0_10 a0_11 a0_12 [] (j1 + 1) (impl_copyArr_S1 a0_0 a0_1 a0_2 a0_3 a0_4 a0_5 a0_6 a0_7 a0_8 a0_9 a0_10 a0_11 a0_12 v) = impl_copyArr_L1 k a0_0 a0_1 a0_2 a0_3 a0_4 a0_5 a0_6 a0_7 a0_8 a0_9 a0_10 a0_11 a0_12 (fun v => impl_copyArr_it1 k a0_0 a0_1 a0_2 a0_3 a0_4 a0_5 a0_6 a0_7 a0_8 a0_9 a0_10 a0_11 a0_12 [] j1 (impl_copyArr_S1 a0_0 a0_1 a0_2 a0_3 a0_4 a0_5 a0_6 a0_7 a0_8 a0_9 a0_10 a0_11 a0_12 v)) v := by
    intro j1 v; kernel_rfl
  have i1 : ∀ (j1 : Nat) (v : Int × List (List T)), impl_copyArr_it1 k a0_0 a0_1 a0_2 a0_3 a0_4 a0_5 a0_6 a0_7 a0_8 a0_9 a0_10 a0_11 a0_12 [] j1 (impl_copyArr_S1 a0_0 a0_1 a0_2 a0_3 a0_4 a0_5 a0_6 a0_7 a0_8 a0_9 a0_10 a0_11 a0_12 v) = fixN (impl_copyArr_l1 k a0_0 a0_1 a0_2 a0_3 a0_4 a0_5 a0_6 a0_7 a0_8 a0_9 a0_10 a0_11 a0_12) j1 v := by
    intro j1 v
    refine iter_fix (impl_copyArr_S1 a0_0 a0_1 a0_2 a0_3 a0_4 a0_5 a0_6 a0_7 a0_8 a0_9 a0_10 a0_11 a0_12) (impl_copyArr_l1 k a0_0 a0_1 a0_2 a0_3 a0_4 a0_5 a0_6 a0_7 a0_8 a0_9 a0_10 a0_11 a0_12) (fun j1 v => (e1 j1 v).trans ?_) j1 v
    unfold impl_copyArr_l1
    rfl
  rw [e0]; unfold impl_copyArr_u
  simp only [i1]
def impl_copyCmd_u (k : Nat) (a0_0 : Int) (a0_1 : Int) (a0_2 : Int) (a0_3 : Int) (a0_4 : List (List T)) : Option Outs :=
 bindO (evalF E P0 k N.impl_copyInts [.v [.r a0_4]]) fun o2 =>
 some ⟨[.i a0_0, .i a0_1, .i a0_2, .i a0_3, .r (o2.t 0).asR], []⟩
theorem impl_copyCmd_e (k : Nat) (a0_0 : Int) (a0_1 : Int) (a0_2 : Int) (a0_3 : Int) (a0_4 : List (List T)) : evalF E P0 (k + 1) N.impl_copyCmd [.v [.i a0_0, .i a0_1, .i a0_2, .i a0_3, .r a0_4]] = impl_copyCmd_u k a0_0 a0_1 a0_2 a0_3 a0_4 := by kernel_rfl
def impl_copyAns_u (k : Nat) (a0_0 : Int) (a0_1 : Int) (a0_2 : List (List T)) : Option Outs :=
 bindO (evalF E P0 k N.impl_copyInts [.v [.r a0_2]]) fun o2 =>
 some ⟨[.i a0_0, .i a0_1, .r (o2.t 0).asR], []⟩
theorem impl_copyAns_e (k : Nat) (a0_0 : Int) (a0_1 : Int) (a0_2 : List (List T)) : evalF E P0 (k + 1) N.impl_copyAns [.v [.i a0_0, .i a0_1, .r a0_2]] = impl_copyAns_u k a0_0 a0_1 a0_2 := by kernel_rfl
def impl_copyEng_L4 (k : Nat) (a0_16 : List (List T)) (o2 : Outs) (w8 : List (List T)) (w16 : List (List T)) (w24 : List (List T)) (G4 : (Int × List (List T)) → Option Outs) : (Int × List (List T)) → Option Outs := fun (v32, w32) =>
 bif (decide (v32 < (a0_16.length : Int))) then
  chk (decide (0 ≤ v32) && decide (v32 < (a0_16.length : Int))) <|
  bindO (evalF E P0 k N.impl_copyCmd [.v [.i (at_ a0_16 v32.toNat 0).asI, .i (at_ a0_16 v32.toNat 1).asI, .i (at_ a0_16 v32.toNat 2).asI, .i (at_ a0_16 v32.toNat 3).asI, .r (at_ a0_16 v32.toNat 4).asR]]) fun o289 =>
  bindO (evalF E P0 k N.impl_copyAns [.v [.i (at_ a0_16 v32.toNat 5).asI, .i (at_ a0_16 v32.toNat 6).asI, .r (at_ a0_16 v32.toNat 7).asR]]) fun o290 =>
  chk (decide ((w32.length + ([[.i (o289.t 0).asI, .i (o289.t 1).asI, .i (o289.t 2).asI, .i (o289.t 3).asI, .r (o289.t 4).asR, .i (o290.t 0).asI, .i (o290.t 1).asI, .r (o290.t 2).asR]] : List (List T)).length) * 96 ≤ 140737488355328)) <|
  G4 ((IntKind.wrap .i64 (v32 + 1)), (w32 ++ ([[.i (o289.t 0).asI, .i (o289.t 1).asI, .i (o289.t 2).asI, .i (o289.t 3).asI, .r (o289.t 4).asR, .i (o290.t 0).asI, .i (o290.t 1).asI, .r (o290.t 2).asR]] : List (List T))))
 else
  some ⟨[.i (o2.t 0).asI, .i (o2.t 1).asI, .i (o2.t 2).asI, .r (o2.t 3).asR, .i (o2.t 4).asI, .i (o2.t 5).asI, .i (o2.t 6).asI, .i (o2.t 7).asI, .i (o2.t 8).asI, .r (o2.t 9).asR, .i (o2.t 10).asI, .b (o2.t 11).asB, .b (o2.t 12).asB, .r w8, .r w16, .r w24, .r w32], []⟩
def impl_copyEng_k4 : List Nat := [2, 3, 71, 72, 73, 90]
def impl_copyEng_S4 (a0_16 : List (List T)) (o2 : Outs) (w8 : List (List T)) (w16 : List (List T)) (w24 : List (List T)) : (Int × List (List T)) → St := fun (v32, w32) => ⟨ofSl [(2, .ptr (2, 0) 0), (3, .ptr (3, 0) 0), (71, .sl 120 a0_16), (72, .i .i64 (a0_16.length : Int)), (73, .i .i64 v32), (90, .skip)], Mem.put (ofMem [((2, 0), .var [.i .i64 0, .i .i64 0, .i .i64 0, .ref (2, 4), .i .i64 0, .i .i64 0, .i .i64 0, .i .i64 0, .i .i64 0, .ref (2, 10), .i .i64 0, .b false, .b false, .ref (2, 14), .ref (2, 15), .ref (2, 16), .ref (2, 17)]), ((2, 4), .deep 160 [] none), ((2, 10), .deep 162 [] none), ((2, 14), .deep 53 [] none), ((2, 15), .deep 103 [] none), ((2, 16), .deep 61 [] none), ((2, 17), .deep 120 [] none), ((3, 0), .var [.i .i64 (o2.t 0).asI, .i .i64 (o2.t 1).asI, .i .i64 (o2.t 2).asI, .ref (3, 4), .i .i64 (o2.t 4).asI, .i .i64 (o2.t 5).asI, .i .i64 (o2.t 6).asI, .i .i64 (o2.t 7).asI, .i .i64 (o2.t 8).asI, .ref (3, 10), .i .i64 (o2.t 10).asI, .b (o2.t 11).asB, .b (o2.t 12).asB, .ref (3, 14), .ref (3, 15), .ref (3, 16), .ref (3, 17)]), ((3, 4), .deep 160 (o2.t 3).asR none), ((3, 10), .deep 162 (o2.t 9).asR none), ((3, 14), .deep 53 w8 none), ((3, 15), .deep 103 w16 none), ((3, 16), .deep 61 w24 none), ((3, 17), .deep 120 w32 none)]) modeNm .dead⟩
def impl_copyEng_L3 (k : Nat) (a0_0 : Int) (a0_1 : Int) (a0_2 : Int) (a0_3 : List (List T)) (a0_4 : Int) (a0_5 : Int) (a0_6 : Int) (a0_7 : Int) (a0_8 : Int) (a0_9 : List (List T)) (a0_10 : Int) (a0_11 : Bool) (a0_12 : Bool) (a0_13 : List (List T)) (a0_14 : List (List T)) (a0_15 : List (List T)) (a0_16 : List (List T)) (o2 : Outs) (w8 : List (List T)) (w16 : List (List T)) (R4 : Outs → List (List T) → List (List T) → List (List T) → (Int × List (List T)) → Option Outs) (G3 : (Int × List (List T)) → Option Outs) : (Int × List (List T)) → Option Outs := fun (v24, w24) =>
 bif (decide (v24 < (a0_15.length : Int))) then
  chk (decide (0 ≤ v24) && decide (v24 < (a0_15.length : Int))) <|
  bindO (evalF E P0 k N.impl_copyAns [.v [.i (at_ a0_15 v24.toNat 0).asI, .i (at_ a0_15 v24.toNat 1).asI, .r (at_ a0_15 v24.toNat 2).asR]]) fun o194 =>
  chk (decide ((w24.length + ([[.i (o194.t 0).asI, .i (o194.t 1).asI, .r (o194.t 2).asR]] : List (List T)).length) * 40 ≤ 140737488355328)) <|
  G3 ((IntKind.wrap .i64 (v24 + 1)), (w24 ++ ([[.i (o194.t 0).asI, .i (o194.t 1).asI, .r (o194.t 2).asR]] : List (List T))))
 else
  R4 o2 w8 w16 w24 (0, [])
def impl_copyEng_k3 : List Nat := [1, 2, 3, 11, 56, 57, 58, 70, 71, 72, 73, 74, 75, 76, 77, 78, 79, 80, 81, 82, 83, 84, 85, 86, 87, 88, 89, 90]
def impl_copyEng_S3 (a0_0 : Int) (a0_1 : Int) (a0_2 : Int) (a0_3 : List (List T)) (a0_4 : Int) (a0_5 : Int) (a0_6 : Int) (a0_7 : Int) (a0_8 : Int) (a0_9 : List (List T)) (a0_10 : Int) (a0_11 : Bool) (a0_12 : Bool) (a0_13 : List (List T)) (a0_14 : List (List T)) (a0_15 : List (List T)) (a0_16 : List (List T)) (o2 : Outs) (w8 : List (List T)) (w16 : List (List T)) : (Int × List (List T)) → St := fun (v24, w24) => ⟨ofSl [(1, .ptr (1, 0) 0), (2, .ptr (2, 0) 0), (3, .ptr (3, 0) 0), (11, .skip), (56, .sl 61 a0_15), (57, .i .i64 (a0_15.length : Int)), (58, .i .i64 v24), (70, .skip), (71, .skip), (72, .skip), (73, .skip), (74, .skip), (75, .skip), (76, .skip), (77, .skip), (78, .skip), (79, .skip), (80, .skip), (81, .skip), (82, .skip), (83, .skip), (84, .skip), (85, .skip), (86, .skip), (87, .skip), (88, .skip), (89, .skip), (90, .skip)], Mem.put (ofMem [((1, 0), .var [.i .i64 a0_0, .i .i64 a0_1, .i .i64 a0_2, .sl 160 a0_3, .i .i64 a0_4, .i .i64 a0_5, .i .i64 a0_6, .i .i64 a0_7, .i .i64 a0_8, .sl 162 a0_9, .i .i64 a0_10, .b a0_11, .b a0_12, .sl 53 a0_13, .sl 103 a0_14, .sl 61 a0_15, .sl 120 a0_16]), ((2, 0), .var [.i .i64 0, .i .i64 0, .i .i64 0, .ref (2, 4), .i .i64 0, .i .i64 0, .i .i64 0, .i .i64 0, .i .i64 0, .ref (2, 10), .i .i64 0, .b false, .b false, .ref (2, 14), .ref (2, 15), .ref (2, 16), .ref (2, 17)]), ((2, 4), .deep 160 [] none), ((2, 10), .deep 162 [] none), ((2, 14), .deep 53 [] none), ((2, 15), .deep 103 [] none), ((2, 16), .deep 61 [] none), ((2, 17), .deep 120 [] none), ((3, 0), .var [.i .i64 (o2.t 0).asI, .i .i64 (o2.t 1).asI, .i .i64 (o2.t 2).asI, .ref (3, 4), .i .i64 (o2.t 4).asI, .i .i64 (o2.t 5).asI, .i .i64 (o2.t 6).asI, .i .i64 (o2.t 7).asI, .i .i64 (o2.t 8).asI, .ref (3, 10), .i .i64 (o2.t 10).asI, .b (o2.t 11).asB, .b (o2.t 12).asB, .ref (3, 14), .ref (3, 15), .ref (3, 16), .ref (3, 17)]), ((3, 4), .deep 160 (o2.t 3).asR none), ((3, 10), .deep 162 (o2.t 9).asR none), ((3, 14), .deep 53 w8 none), ((3, 15), .deep 103 w16 none), ((3, 16), .deep 61 w24 none), ((3, 17), .deep 120 [] none)]) modeNm .dead⟩
def impl_copyEng_L2 (k : Nat) (a0_0 : Int) (a0_1 : Int) (a0_2 : Int) (a0_3 : List (List T)) (a0_4 : Int) (a0_5 : Int) (a0_6 : Int) (a0_7 : Int) (a0_8 : Int) (a0_9 : List (List T)) (a0_10 : Int) (a0_11 : Bool) (a0_12 : Bool) (a0_13 : List (List T)) (a0_14 : List (List T)) (a0_15 : List (List T)) (a0_16 : List (List T)) (o2 : Outs) (w8 : List (List T)) (R3 : Outs → List (List T) → List (List T) → (Int × List (List T)) → Option Outs) (G2 : (Int × List (List T)) → Option Outs) : (Int × List (List T)) → Option Outs := fun (v16, w16) =>
 bif (decide (v16 < (a0_14.length : Int))) then
  chk (decide (0 ≤ v16) && decide (v16 < (a0_14.length : Int))) <|
  bindO (evalF E P0 k N.impl_copyCmd [.v [.i (at_ a0_14 v16.toNat 0).asI, .i (at_ a0_14 v16.toNat 1).asI, .i (at_ a0_14 v16.toNat 2).asI, .i (at_ a0_14 v16.toNat 3).asI, .r (at_ a0_14 v16.toNat 4).asR]]) fun o145 =>
  bindO (evalF E P0 k N.impl_copyInts [.v [.r (at_ a0_14 v16.toNat 6).asR]]) fun o146 =>
  chk (decide ((w16.length + ([[.i (o145.t 0).asI, .i (o145.t 1).asI, .i (o145.t 2).asI, .i (o145.t 3).asI, .r (o145.t 4).asR, .i (at_ a0_14 v16.toNat 5).asI, .r (o146.t 0).asR, .i (at_ a0_14 v16.toNat 7).asI]] : List (List T)).length) * 96 ≤ 140737488355328)) <|
  G2 ((IntKind.wrap .i64 (v16 + 1)), (w16 ++ ([[.i (o145.t 0).asI, .i (o145.t 1).asI, .i (o145.t 2).asI, .i (o145.t 3).asI, .r (o145.t 4).asR, .i (at_ a0_14 v16.toNat 5).asI, .r (o146.t 0).asR, .i (at_ a0_14 v16.toNat 7).asI]] : List (List T))))
 else
  R3 o2 w8 w16 (0, [])
def impl_copyEng_k2 : List Nat := [1, 2, 3, 9, 11, 32, 33, 34, 55, 56, 57, 58, 59, 60, 61, 62, 63, 64, 65, 66, 67, 68, 69, 70, 71, 72, 73, 74, 75, 76, 77, 78, 79, 80, 81, 82, 83, 84, 85, 86, 87, 88, 89, 90]
def impl_copyEng_S2 (a0_0 : Int) (a0_1 : Int) (a0_2 : Int) (a0_3 : List (List T)) (a0_4 : Int) (a0_5 : Int) (a0_6 : Int) (a0_7 : Int) (a0_8 : Int) (a0_9 : List (List T)) (a0_10 : Int) (a0_11 : Bool) (a0_12 : Bool) (a0_13 : List (List T)) (a0_14 : List (List T)) (a0_15 : List (List T)) (a0_16 : List (List T)) (o2 : Outs) (w8 : List (List T)) : (Int × List (List T)) → St := fun (v16, w16) => ⟨ofSl [(1, .ptr (1, 0) 0), (2, .ptr (2, 0) 0), (3, .ptr (3, 0) 0), (9, .skip), (11, .skip), (32, .sl 103 a0_14), (33, .i .i64 (a0_14.length : Int)), (34, .i .i64 v16), (55, .skip), (56, .skip), (57, .skip), (58, .skip), (59, .skip), (60, .skip), (61, .skip), (62, .skip), (63, .skip), (64, .skip), (65, .skip), (66, .skip), (67, .skip), (68, .skip), (69, .skip), (70, .skip), (71, .skip), (72, .skip), (73, .skip), (74, .skip), (75, .skip), (76, .skip), (77, .skip), (78, .skip), (79, .skip), (80, .skip), (81, .skip), (82, .skip), (83, .skip), (84, .skip), (85, .skip), (86, .skip), (87, .skip), (88, .skip), (89, .skip), (90, .skip)], Mem.put (ofMem [((1, 0), .var [.i .i64 a0_0, .i .i64 a0_1, .i .i64 a0_2, .sl 160 a0_3, .i .i64 a0_4, .i .i64 a0_5, .i .i64 a0_6, .i .i64 a0_7, .i .i64 a0_8, .sl 162 a0_9, .i .i64 a0_10, .b a0_11, .b a0_12, .sl 53 a0_13, .sl 103 a0_14, .sl 61 a0_15, .sl 120 a0_16]), ((2, 0), .var [.i .i64 0, .i .i64 0, .i .i64 0, .ref (2, 4), .i .i64 0, .i .i64 0, .i .i64 0, .i .i64 0, .i .i64 0, .ref (2, 10), .i .i64 0, .b false, .b false, .ref (2, 14), .ref (2, 15), .ref (2, 16), .ref (2, 17)]), ((2, 4), .deep 160 [] none), ((2, 10), .deep 162 [] none), ((2, 14), .deep 53 [] none), ((2, 15), .deep 103 [] none), ((2, 16), .deep 61 [] none), ((2, 17), .deep 120 [] none), ((3, 0), .var [.i .i64 (o2.t 0).asI, .i .i64 (o2.t 1).asI, .i .i64 (o2.t 2).asI, .ref (3, 4), .i .i64 (o2.t 4).asI, .i .i64 (o2.t 5).asI, .i .i64 (o2.t 6).asI, .i .i64 (o2.t 7).asI, .i .i64 (o2.t 8).asI, .ref (3, 10), .i .i64 (o2.t 10).asI, .b (o2.t 11).asB, .b (o2.t 12).asB, .ref (3, 14), .ref (3, 15), .ref (3, 16), .ref (3, 17)]), ((3, 4), .deep 160 (o2.t 3).asR none), ((3, 10), .deep 162 (o2.t 9).asR none), ((3, 14), .deep 53 w8 none), ((3, 15), .deep 103 w16 none), ((3, 16), .deep 61 [] none), ((3, 17), .deep 120 [] none)]) modeNm .dead⟩
def impl_copyEng_L1 (k : Nat) (a0_0 : Int) (a0_1 : Int) (a0_2 : Int) (a0_3 : List (List T)) (a0_4 : Int) (a0_5 : Int) (a0_6 : Int) (a0_7 : Int) (a0_8 : Int) (a0_9 : List (List T)) (a0_10 : Int) (a0_11 : Bool) (a0_12 : Bool) (a0_13 : List (List T)) (a0_14 : List (List T)) (a0_15 : List (List T)) (a0_16 : List (List T)) (o2 : Outs) (R2 : Outs → List (List T) → (Int × List (List T)) → Option Outs) (G1 : (Int × List (List T)) → Option Outs) : (Int × List (List T)) → Option Outs := fun (v8, w8) =>
 bif (decide (v8 < (a0_13.length : Int))) then
  chk (decide (0 ≤ v8) && decide (v8 < (a0_13.length : Int))) <|
  bindO (evalF E P0 k N.impl_copyCmd [.v [.i (at_ a0_13 v8.toNat 0).asI, .i (at_ a0_13 v8.toNat 1).asI, .i (at_ a0_13 v8.toNat 2).asI, .i (at_ a0_13 v8.toNat 3).asI, .r (at_ a0_13 v8.toNat 4).asR]]) fun o50 =>
  chk (decide ((w8.length + ([[.i (o50.t 0).asI, .i (o50.t 1).asI, .i (o50.t 2).asI, .i (o50.t 3).asI, .r (o50.t 4).asR]] : List (List T)).length) * 56 ≤ 140737488355328)) <|
  G1 ((IntKind.wrap .i64 (v8 + 1)), (w8 ++ ([[.i (o50.t 0).asI, .i (o50.t 1).asI, .i (o50.t 2).asI, .i (o50.t 3).asI, .r (o50.t 4).asR]] : List (List T))))
 else
  R2 o2 w8 (0, [])
def impl_copyEng_k1 : List Nat := [1, 2, 3, 7, 9, 11, 17, 18, 19, 31, 32, 33, 34, 35, 36, 37, 38, 39, 40, 41, 42, 43, 44, 45, 46, 47, 48, 49, 50, 51, 52, 53, 54, 55, 56, 57, 58, 59, 60, 61, 62, 63, 64, 65, 66, 67, 68, 69, 70, 71, 72, 73, 74, 75, 76, 77, 78, 79, 80, 81, 82, 83, 84, 85, 86, 87, 88, 89, 90]
def impl_copyEng_S1 (a0_0 : Int) (a0_1 : Int) (a0_2 : Int) (a0_3 : List (List T)) (a0_4 : Int) (a0_5 : Int) (a0_6 : Int) (a0_7 : Int) (a0_8 : Int) (a0_9 : List (List T)) (a0_10 : Int) (a0_11 : Bool) (a0_12 : Bool) (a0_13 : List (List T)) (a0_14 : List (List T)) (a0_15 : List (List T)) (a0_16 : List (List T)) (o2 : Outs) : (Int × List (List T)) → St := fun (v8, w8) => ⟨ofSl [(1, .ptr (1, 0) 0), (2, .ptr (2, 0) 0), (3, .ptr (3, 0) 0), (7, .skip), (9, .skip), (11, .skip), (17, .sl 53 a0_13), (18, .i .i64 (a0_13.length : Int)), (19, .i .i64 v8), (31, .skip), (32, .skip), (33, .skip), (34, .skip), (35, .skip), (36, .skip), (37, .skip), (38, .skip), (39, .skip), (40, .skip), (41, .skip), (42, .skip), (43, .skip), (44, .skip), (45, .skip), (46, .skip), (47, .skip), (48, .skip), (49, .skip), (50, .skip), (51, .skip), (52, .skip), (53, .skip), (54, .skip), (55, .skip), (56, .skip), (57, .skip), (58, .skip), (59, .skip), (60, .skip), (61, .skip), (62, .skip), (63, .skip), (64, .skip), (65, .skip), (66, .skip), (67, .skip), (68, .skip), (69, .skip), (70, .skip), (71, .skip), (72, .skip), (73, .skip), (74, .skip), (75, .skip), (76, .skip), (77, .skip), (78, .skip), (79, .skip), (80, .skip), (81, .skip), (82, .skip), (83, .skip), (84, .skip), (85, .skip), (86, .skip), (87, .skip), (88, .skip), (89, .skip), (90, .skip)], Mem.put (ofMem [((1, 0), .var [.i .i64 a0_0, .i .i64 a0_1, .i .i64 a0_2, .sl 160 a0_3, .i .i64 a0_4, .i .i64 a0_5, .i .i64 a0_6, .i .i64 a0_7, .i .i64 a0_8, .sl 162 a0_9, .i .i64 a0_10, .b a0_11, .b a0_12, .sl 53 a0_13, .sl 103 a0_14, .sl 61 a0_15, .sl 120 a0_16]), ((2, 0), .var [.i .i64 0, .i .i64 0, .i .i64 0, .ref (2, 4), .i .i64 0, .i .i64 0, .i .i64 0, .i .i64 0, .i .i64 0, .ref (2, 10), .i .i64 0, .b false, .b false, .ref (2, 14), .ref (2, 15), .ref (2, 16), .ref (2, 17)]), ((2, 4), .deep 160 [] none), ((2, 10), .deep 162 [] none), ((2, 14), .deep 53 [] none), ((2, 15), .deep 103 [] none), ((2, 16), .deep 61 [] none), ((2, 17), .deep 120 [] none), ((3, 0), .var [.i .i64 (o2.t 0).asI, .i .i64 (o2.t 1).asI, .i .i64 (o2.t 2).asI, .ref (3, 4), .i .i64 (o2.t 4).asI, .i .i64 (o2.t 5).asI, .i .i64 (o2.t 6).asI, .i .i64 (o2.t 7).asI, .i .i64 (o2.t 8).asI, .ref (3, 10), .i .i64 (o2.t 10).asI, .b (o2.t 11).asB, .b (o2.t 12).asB, .ref (3, 14), .ref (3, 15), .ref (3, 16), .ref (3, 17)]), ((3, 4), .deep 160 (o2.t 3).asR none), ((3, 10), .deep 162 (o2.t 9).asR none), ((3, 14), .deep 53 w8 none), ((3, 15), .deep 103 [] none), ((3, 16), .deep 61 [] none), ((3, 17), .deep 120 [] none)]) modeNm .dead⟩
def impl_copyEng_l4 (k : Nat) (a0_16 : List (List T)) (o2 : Outs) (w8 : List (List T)) (w16 : List (List T)) (w24 : List (List T)) (G4 : (Int × List (List T)) → Option Outs) : (Int × List (List T)) → Option Outs :=
  impl_copyEng_L4 k a0_16 o2 w8 w16 w24 G4
def impl_copyEng_l3 (k : Nat) (a0_0 : Int) (a0_1 : Int) (a0_2 : Int) (a0_3 : List (List T)) (a0_4 : Int) (a0_5 : Int) (a0_6 : Int) (a0_7 : Int) (a0_8 : Int) (a0_9 : List (List T)) (a0_10 : Int) (a0_11 : Bool) (a0_12 : Bool) (a0_13 : List (List T)) (a0_14 : List (List T)) (a0_15 : List (List T)) (a0_16 : List (List T)) (o2 : Outs) (w8 : List (List T)) (w16 : List (List T)) (G3 : (Int × List (List T)) → Option Outs) : (Int × List (List T)) → Option Outs :=
  impl_copyEng_L3 k a0_0 a0_1 a0_2 a0_3 a0_4 a0_5 a0_6 a0_7 a0_8 a0_9 a0_10 a0_11 a0_12 a0_13 a0_14 a0_15 a0_16 o2 w8 w16 (fun y0 y1 y2 y3 v => fixN (impl_copyEng_l4 k a0_16 y0 y1 y2 y3) k v) G3
def impl_copyEng_l2 (k : Nat) (a0_0 : Int) (a0_1 : Int) (a0_2 : Int) (a0_3 : List (List T)) (a0_4 : Int) (a0_5 : Int) (a0_6 : Int) (a0_7 : Int) (a0_8 : Int) (a0_9 : List (List T)) (a0_10 : Int) (a0_11 : Bool) (a0_12 : Bool) (a0_13 : List (List T)) (a0_14 : List (List T)) (a0_15 : List (List T)) (a0_16 : List (List T)) (o2 : Outs) (w8 : List (List T)) (G2 : (Int × List (List T)) → Option Outs) : (Int × List (List T)) → Option Outs :=
  impl_copyEng_L2 k a0_0 a0_1 a0_2 a0_3 a0_4 a0_5 a0_6 a0_7 a0_8 a0_9 a0_10 a0_11 a0_12 a0_13 a0_14 a0_15 a0_16 o2 w8 (fun y0 y1 y2 v => fixN (impl_copyEng_l3 k a0_0 a0_1 a0_2 a0_3 a0_4 a0_5 a0_6 a0_7 a0_8 a0_9 a0_10 a0_11 a0_12 a0_13 a0_14 a0_15 a0_16 y0 y1 y2) k v) G2
def impl_copyEng_l1 (k : Nat) (a0_0 : Int) (a0_1 : Int) (a0_2 : Int) (a0_3 : List (List T)) (a0_4 : Int) (a0_5 : Int) (a0_6 : Int) (a0_7 : Int) (a0_8 : Int) (a0_9 : List (List T)) (a0_10 : Int) (a0_11 : Bool) (a0_12 : Bool) (a0_13 : List (List T)) (a0_14 : List (List T)) (a0_15 : List (List T)) (a0_16 : List (List T)) (o2 : Outs) (G1 : (Int × List (List T)) → Option Outs) : (Int × List (List T)) → Option Outs :=
  impl_copyEng_L1 k a0_0 a0_1 a0_2 a0_3 a0_4 a0_5 a0_6 a0_7 a0_8 a0_9 a0_10 a0_11 a0_12 a0_13 a0_14 a0_15 a0_16 o2 (fun y0 y1 v => fixN (impl_copyEng_l2 k a0_0 a0_1 a0_2 a0_3 a0_4 a0_5 a0_6 a0_7 a0_8 a0_9 a0_10 a0_11 a0_12 a0_13 a0_14 a0_15 a0_16 y0 y1) k v) G1
def impl_copyEng_U (k : Nat) (a0_0 : Int) (a0_1 : Int) (a0_2 : Int) (a0_3 : List (List T)) (a0_4 : Int) (a0_5 : Int) (a0_6 : Int) (a0_7 : Int) (a0_8 : Int) (a0_9 : List (List T)) (a0_10 : Int) (a0_11 : Bool) (a0_12 : Bool) (a0_13 : List (List T)) (a0_14 : List (List T)) (a0_15 : List (List T)) (a0_16 : List (List T)) (R1 : Outs → (Int × List (List T)) → Option Outs) : Option Outs :=
 bindO (evalF E P0 k N.impl_copyArr [.v [.i a0_0, .i a0_1, .i a0_2, .r a0_3, .i a0_4, .i a0_5, .i a0_6, .i a0_7, .i a0_8, .r a0_9, .i a0_10, .b a0_11, .b a0_12]]) fun o2 =>
 R1 o2 (0, [])
def impl_copyEng_u (k : Nat) (a0_0 : Int) (a0_1 : Int) (a0_2 : Int) (a0_3 : List (List T)) (a0_4 : Int) (a0_5 : Int) (a0_6 : Int) (a0_7 : Int) (a0_8 : Int) (a0_9 : List (List T)) (a0_10 : Int) (a0_11 : Bool) (a0_12 : Bool) (a0_13 : List (List T)) (a0_14 : List (List T)) (a0_15 : List (List T)) (a0_16 : List (List T)) : Option Outs :=
  impl_copyEng_U k a0_0 a0_1 a0_2 a0_3 a0_4 a0_5 a0_6 a0_7 a0_8 a0_9 a0_10 a0_11 a0_12 a0_13 a0_14 a0_15 a0_16 (fun y0 v => fixN (impl_copyEng_l1 k a0_0 a0_1 a0_2 a0_3 a0_4 a0_5 a0_6 a0_7 a0_8 a0_9 a0_10 a0_11 a0_12 a0_13 a0_14 a0_15 a0_16 y0) k v)
def impl_copyEng_it1 (k : Nat) (a0_0 : Int) (a0_1 : Int) (a0_2 : Int) (a0_3 : List (List T)) (a0_4 : Int) (a0_5 : Int) (a0_6 : Int) (a0_7 : Int) (a0_8 : Int) (a0_9 : List (List T)) (a0_10 : Int) (a0_11 : Bool) (a0_12 : Bool) (a0_13 : List (List T)) (a0_14 : List (List T)) (a0_15 : List (List T)) (a0_16 : List (List T)) (js : List Nat) (j : Nat) (s : St) : Option Outs := iter E (LB E (evalF E P0 k) k [] N.impl_copyEng [.sr, .sr, .sl, .sr, .bl]) [] impl_copyEng_k1 (LK E (evalF E P0 k) k [] N.impl_copyEng [.v [.i a0_0, .i a0_1, .i a0_2, .r a0_3, .i a0_4, .i a0_5, .i a0_6, .i a0_7, .i a0_8, .r a0_9, .i a0_10, .b a0_11, .b a0_12, .r a0_13, .r a0_14, .r a0_15, .r a0_16]] [.sr, .sr, .sl, .sr, .bl] js) j s
def impl_copyEng_it2 (k : Nat) (a0_0 : Int) (a0_1 : Int) (a0_2 : Int) (a0_3 : List (List T)) (a0_4 : Int) (a0_5 : Int) (a0_6 : Int) (a0_7 : Int) (a0_8 : Int) (a0_9 : List (List T)) (a0_10 : Int) (a0_11 : Bool) (a0_12 : Bool) (a0_13 : List (List T)) (a0_14 : List (List T)) (a0_15 : List (List T)) (a0_16 : List (List T)) (js : List Nat) (j : Nat) (s : St) : Option Outs := iter E (LB E (evalF E P0 k) k [] N.impl_copyEng [.sr, .sr, .sr, .sl, .sr, .bl]) [] impl_copyEng_k2 (LK E (evalF E P0 k) k [] N.impl_copyEng [.v [.i a0_0, .i a0_1, .i a0_2, .r a0_3, .i a0_4, .i a0_5, .i a0_6, .i a0_7, .i a0_8, .r a0_9, .i a0_10, .b a0_11, .b a0_12, .r a0_13, .r a0_14, .r a0_15, .r a0_16]] [.sr, .sr, .sr, .sl, .sr, .bl] js) j s
def impl_copyEng_it3 (k : Nat) (a0_0 : Int) (a0_1 : Int) (a0_2 : Int) (a0_3 : List (List T)) (a0_4 : Int) (a0_5 : Int) (a0_6 : Int) (a0_7 : Int) (a0_8 : Int) (a0_9 : List (List T)) (a0_10 : Int) (a0_11 : Bool) (a0_12 : Bool) (a0_13 : List (List T)) (a0_14 : List (List T)) (a0_15 : List (List T)) (a0_16 : List (List T)) (js : List Nat) (j : Nat) (s : St) : Option Outs := iter E (LB E (evalF E P0 k) k [] N.impl_copyEng [.sr, .sr, .sr, .sr, .sl, .sr, .bl]) [] impl_copyEng_k3 (LK E (evalF E P0 k) k [] N.impl_copyEng [.v [.i a0_0, .i a0_1, .i a0_2, .r a0_3, .i a0_4, .i a0_5, .i a0_6, .i a0_7, .i a0_8, .r a0_9, .i a0_10, .b a0_11, .b a0_12, .r a0_13, .r a0_14, .r a0_15, .r a0_16]] [.sr, .sr, .sr, .sr, .sl, .sr, .bl] js) j s
def impl_copyEng_it4 (k : Nat) (a0_0 : Int) (a0_1 : Int) (a0_2 : Int) (a0_3 : List (List T)) (a0_4 : Int) (a0_5 : Int) (a0_6 : Int) (a0_7 : Int) (a0_8 : Int) (a0_9 : List (List T)) (a0_10 : Int) (a0_11 : Bool) (a0_12 : Bool) (a0_13 : List (List T)) (a0_14 : List (List T)) (a0_15 : List (List T)) (a0_16 : List (List T)) (js : List Nat) (j : Nat) (s : St) : Option Outs := iter E (LB E (evalF E P0 k) k [] N.impl_copyEng [.sr, .sr, .sr, .sr, .sr, .sl, .sr, .bl]) [] impl_copyEng_k4 (LK E (evalF E P0 k) k [] N.impl_copyEng [.v [.i a0_0, .i a0_1, .i a0_2, .r a0_3, .i a0_4, .i a0_5, .i a0_6, .i a0_7, .i a0_8, .r a0_9, .i a0_10, .b a0_11, .b a0_12, .r a0_13, .r a0_14, .r a0_15, .r a0_16]] [.sr, .sr, .sr, .sr, .sr, .sl, .sr, .bl] js) j s
theorem impl_copyEng_e (k : Nat) (a0_0 : Int) (a0_1 : Int) (a0_2 : Int) (a0_3 : List (List T)) (a0_4 : Int) (a0_5 : Int) (a0_6 : Int) (a0_7 : Int) (a0_8 : Int) (a0_9 : List (List T)) (a0_10 : Int) (a0_11 : Bool) (a0_12 : Bool) (a0_13 : List (List T)) (a0_14 : List (List T)) (a0_15 : List (List T)) (a0_16 : List (List T)) : evalF E P0 (k + 1) N.impl_copyEng [.v [.i a0_0, .i a0_1, .i a0_2, .r a0_3, .i a0_4, .i a0_5, .i a0_6, .i a0_7, .i a0_8, .r a0_9, .i a0_10, .b a0_11, .b a0_12, .r a0_13, .r a0_14, .r a0_15, .r a0_16]] = impl_copyEng_u k a0_0 a0_1 a0_2 a0_3 a0_4 a0_5 a0_6 a0_7 a0_8 a0_9 a0_10 a0_11 a0_12 a0_13 a0_14 a0_15 a0_16 := by
  have e0 : evalF E P0 (k + 1) N.impl_copyEng [.v [.i a0_0, .i a0_1, .i a0_2, .r a0_3, .i a0_4, .i a0_5, .i a0_6, .i a0_7, .i a0_8, .r a0_9, .i a0_10, .b a0_11, .b a0_12, .r a0_13, .r a0_14, .r a0_15, .r a0_16]] = impl_copyEng_U k a0_0 a0_1 a0_2 a0_3 a0_4 a0_5 a0_6 a0_7 a0_8 a0_9 a0_10 a0_11 a0_12 a0_13 a0_14 a0_15 a0_16 (fun y0 v => impl_copyEng_it1 k a0_0 a0_1 a0_2 a0_3 a0_4 a0_5 a0_6 a0_7 a0_8 a0_9 a0_10 a0_11 a0_12 a0_13 a0_14 a0_15 a0_16 [] k (impl_copyEng_S1 a0_0 a0_1 a0_2 a0_3 a0_4 a0_5 a0_6 a0_7 a0_8 a0_9 a0_10 a0_11 a0_12 a0_13 a0_14 a0_15 a0_16 y0 v)) := by kernel_rfl
  have e4 : ∀ (o2 : Outs) (w8 : List (List T)) (w16 : List (List T)) (w24 : List (List T)) (j4 : Nat) (v : Int × List (List T)), impl_copyEng_it4 k a0_0 a0_1 a0_2 a0_3 a0_4 a0_5 a0_6 a0_7 a0_8 a0_9 a0_10 a0_11 a0_12 a0_13 a0_14 a0_15 a0_16 [] (j4 + 1) (impl_copyEng_S4 a0_16 o2 w8 w16 w24 v) = impl_copyEng_L4 k a0_16 o2 w8 w16 w24 (fun v => impl_copyEng_it4 k a0_0 a0_1 a0_2 a0_3 a0_4 a0_5 a0_6 a0_7 a0_8 a0_9 a0_10 a0_11 a0_12 a0_13 a0_14 a0_15 a0_16 [] j4 (impl_copyEng_S4 a0_16 o2 w8 w16 w24 v)) v := by
    intro o2 w8 w16 w24 j4 v; kernel_rfl
  have i4 : ∀ (o2 : Outs) (w8 : List (List T)) (w16 : List (List T)) (w24 : List (List T)) (j4 : Nat) (v : Int × List (List T)), impl_copyEng_it4 k a0_0 a0_1 a0_2 a0_3 a0_4 a0_5 a0_6 a0_7 a0_8 a0_9 a0_10 a0_11 a0_12 a0_13 a0_14 a0_15 a0_16 [] j4 (impl_copyEng_S4 a0_16 o2 w8 w16 w24 v) = fixN (impl_copyEng_l4 k a0_16 o2 w8 w16 w24) j4 v := by
    intro o2 w8 w16 w24 j4 v
    refine iter_fix (impl_copyEng_S4 a0_16 o2 w8 w16 w24) (impl_copyEng_l4 k a0_16 o2 w8 w16 w24) (fun j4 v => (e4 o2 w8 w16 w24 j4 v).trans ?_) j4 v
    unfold impl_copyEng_l4
    rfl
  have e3 : ∀ (o2 : Outs) (w8 : List (List T)) (w16 : List (List T)) (j3 : Nat) (v : Int × List (List T)), impl_copyEng_it3 k a0_0 a0_1 a0_2 a0_3 a0_4 a0_5 a0_6 a0_7 a0_8 a0_9 a0_10 a0_11 a0_12 a0_13 a0_14 a0_15 a0_16 [] (j3 + 1) (impl_copyEng_S3 a0_0 a0_1 a0_2 a0_3 a0_4 a0_5 a0_6 a0_7 a0_8 a0_9 a0_10 a0_11 a0_12 a0_13 a0_14 a0_15 a0_16 o2 w8 w16 v) = impl_copyEng_L3 k a0_0 a0_1 a0_2 a0_3 a0_4 a0_5 a0_6 a0_7 a0_8 a0_9 a0_10 a0_11 a0_12 a0_13 a0_14 a0_15 a0_16 o2 w8 w16 (fun y0 y1 y2 y3 v => impl_copyEng_it4 k a0_0 a0_1 a0_2 a0_3 a0_4 a0_5 a0_6 a0_7 a0_8 a0_9 a0_10 a0_11 a0_12 a0_13 a0_14 a0_15 a0_16 [] k (impl_copyEng_S4 a0_16 y0 y1 y2 y3 v)) (fun v => impl_copyEng_it3 k a0_0 a0_1 a0_2 a0_3 a0_4 a0_5 a0_6 a0_7 a0_8 a0_9 a0_10 a0_11 a0_12 a0_13 a0_14 a0_15 a0_16 [] j3 (impl_copyEng_S3 a0_0 a0_1 a0_2 a0_3 a0_4 a0_5 a0_6 a0_7 a0_8 a0_9 a0_10 a0_11 a0_12 a0_13 a0_14 a0_15 a0_16 o2 w8 w16 v)) v := by
    intro o2 w8 w16 j3 v; kernel_rfl
  have i3 : ∀ (o2 : Outs) (w8 : List (List T)) (w16 : List (List T)) (j3 : Nat) (v : Int × List (List T)), impl_copyEng_it3 k a0_0 a0_1 a0_2 a0_3 a0_4 a0_5 a0_6 a0_7 a0_8 a0_9 a0_10 a0_11 a0_12 a0_13 a0_14 a0_15 a0_16 [] j3 (impl_copyEng_S3 a0_0 a0_1 a0_2 a0_3 a0_4 a0_5 a0_6 a0_7 a0_8 a0_9 a0_10 a0_11 a0_12 a0_13 a0_14 a0_15 a0_16 o2 w8 w16 v) = fixN (impl_copyEng_l3 k a0_0 a0_1 a0_2 a0_3 a0_4 a0_5 a0_6 a0_7 a0_8 a0_9 a0_10 a0_11 a0_12 a0_13 a0_14 a0_15 a0_16 o2 w8 w16) j3 v := by
    intro o2 w8 w16 j3 v
    refine iter_fix (impl_copyEng_S3 a0_0 a0_1 a0_2 a0_3 a0_4 a0_5 a0_6 a0_7 a0_8 a0_9 a0_10 a0_11 a0_12 a0_13 a0_14 a0_15 a0_16 o2 w8 w16) (impl_copyEng_l3 k a0_0 a0_1 a0_2 a0_3 a0_4 a0_5 a0_6 a0_7 a0_8 a0_9 a0_10 a0_11 a0_12 a0_13 a0_14 a0_15 a0_16 o2 w8 w16) (fun j3 v => (e3 o2 w8 w16 j3 v).trans ?_) j3 v
    unfold impl_copyEng_l3
    simp only [i4] <;> rfl
  have e2 : ∀ (o2 : Outs) (w8 : List (List T)) (j2 : Nat) (v : Int × List (List T)), impl_copyEng_it2 k a0_0 a0_1 a0_2 a0_3 a0_4 a0_5 a0_6 a0_7 a0_8 a0_9 a0_10 a0_11 a0_12 a0_13 a0_14 a0_15 a0_16 [] (j2 + 1) (impl_copyEng_S2 a0_0 a0_1 a0_2 a0_3 a0_4 a0_5 a0_6 a0_7 a0_8 a0_9 a0_10 a0_11 a0_12 a0_13 a0_14 a0_15 a0_16 o2 w8 v) = impl_copyEng_L2 k a0_0 a0_1 a0_2 a0_3 a0_4 a0_5 a0_6 a0_7 a0_8 a0_9 a0_10 a0_11 a0_12 a0_13 a0_14 a0_15 a0_16 o2 w8 (fun y0 y1 y2 v => impl_copyEng_it3 k a0_0 a0_1 a0_2 a0_3 a0_4 a0_5 a0_6 a0_7 a0_8 a0_9 a0_10 a0_11 a0_12 a0_13 a0_14 a0_15 a0_16 [] k (impl_copyEng_S3 a0_0 a0_1 a0_2 a0_3 a0_4 a0_5 a0_6 a0_7 a0_8 a0_9 a0_10 a0_11 a0_12 a0_13 a0_14 a0_15 a0_16 y0 y1 y2 v)) (fun v => impl_copyEng_it2 k a0_0 a0_1 a0_2 a0_3 a0_4 a0_5 a0_6 a0_7 a0_8 a0_9 a0_10 a0_11 a0_12 a0_13 a0_14 a0_15 a0_16 [] j2 (impl_copyEng_S2 a0_0 a0_1 a0_2 a0_3 a0_4 a0_5 a0_6 a0_7 a0_8 a0_9 a0_10 a0_11 a0_12 a0_13 a0_14 a0_15 a0_16 o2 w8 v)) v := by
    intro o2 w8 j2 v; kernel_rfl
  have i2 : ∀ (o2 : Outs) (w8 : List (List T)) (j2 : Nat) (v : Int × List (List T)), impl_copyEng_it2 k a0_0 a0_1 a0_2 a0_3 a0_4 a0_5 a0_6 a0_7 a0_8 a0_9 a0_10 a0_11 a0_12 a0_13 a0_14 a0_15 a0_16 [] j2 (impl_copyEng_S2 a0_0 a0_1 a0_2 a0_3 a0_4 a0_5 a0_6 a0_7 a0_8 a0_9 a0_10 a0_11 a0_12 a0_13 a0_14 a0_15 a0_16 o2 w8 v) = fixN (impl_copyEng_l2 k a0_0 a0_1 a0_2 a0_3 a0_4 a0_5 a0_6 a0_7 a0_8 a0_9 a0_10 a0_11 a0_12 a0_13 a0_14 a0_15 a0_16 o2 w8) j2 v := by
    intro o2 w8 j2 v
    refine iter_fix (impl_copyEng_S2 a0_0 a0_1 a0_2 a0_3 a0_4 a0_5 a0_6 a0_7 a0_8 a0_9 a0_10 a0_11 a0_12 a0_13 a0_14 a0_15 a0_16 o2 w8) (impl_copyEng_l2 k a0_0 a0_1 a0_2 a0_3 a0_4 a0_5 a0_6 a0_7 a0_8 a0_9 a0_10 a0_11 a0_12 a0_13 a0_14 a0_15 a0_16 o2 w8) (fun j2 v => (e2 o2 w8 j2 v).trans ?_) j2 v
    unfold impl_copyEng_l2
    simp only [i3] <;> rfl
  have e1 : ∀ (o2 : Outs) (j1 : Nat) (v : Int × List (List T)), impl_copyEng_it1 k a0_0 a0_1 a0_2 a0_3 a0_4 a0_5 a0_6 a0_7 a0_8 a0_9 a0_10 a0_11 a0_12 a0_13 a0_14 a0_15 a0_16 [] (j1 + 1) (impl_copyEng_S1 a0_0 a0_1 a0_2 a0_3 a0_4 a0_5 a0_6 a0_7 a0_8 a0_9 a0_10 a0_11 a0_12 a0_13 a0_14 a0_15 a0_16 o2 v) = impl_copyEng_L1 k a0_0 a0_1 a0_2 a0_3 a0_4 a0_5 a0_6 a0_7 a0_8 a0_9 a0_10 a0_11 a0_12 a0_13 a0_14 a0_15 a0_16 o2 (fun y0 y1 v => impl_copyEng_it2 k a0_0 a0_1 a0_2 a0_3 a0_4 a0_5 a0_6 a0_7 a0_8 a0_9 a0_10 a0_11 a0_12 a0_13 a0_14 a0_15 a0_16 [] k (impl_copyEng_S2 a0_0 a0_1 a0_2 a0_3 a0_4 a0_5 a0_6 a0_7 a0_8 a0_9 a0_10 a0_11 a0_12 a0_13 a0_14 a0_15 a0_16 y0 y1 v)) (fun v => impl_copyEng_it1 k a0_0 a0_1 a0_2 a0_3 a0_4 a0_5 a0_6 a0_7 a0_8 a0_9 a0_10 a0_11 a0_12 a0_13 a0_14 a0_15 a0_16 [] j1 (impl_copyEng_S1 a0_0 a0_1 a0_2 a0_3 a0_4 a0_5 a0_6 a0_7 a0_8 a0_9 a0_10 a0_11 a0_12 a0_13 a0_14 a0_15 a0_16 o2 v)) v := by
    intro o2 j1 v; kernel_rfl
  have i1 : ∀ (o2 : Outs) (j1 : Nat) (v : Int × List (List T)), impl_copyEng_it1 k a0_0 a0_1 a0_2 a0_3 a0_4 a0_5 a0_6 a0_7 a0_8 a0_9 a0_10 a0_11 a0_12 a0_13 a0_14 a0_15 a0_16 [] j1 (impl_copyEng_S1 a0_0 a0_1 a0_2 a0_3 a0_4 a0_5 a0_6 a0_7 a0_8 a0_9 a0_10 a0_11 a0_12 a0_13 a0_14 a0_15 a0_16 o2 v) = fixN (impl_copyEng_l1 k a0_0 a0_1 a0_2 a0_3 a0_4 a0_5 a0_6 a0_7 a0_8 a0_9 a0_10 a0_11 a0_12 a0_13 a0_14 a0_15 a0_16 o2) j1 v := by
    intro o2 j1 v
    refine iter_fix (impl_copyEng_S1 a0_0 a0_1 a0_2 a0_3 a0_4 a0_5 a0_6 a0_7 a0_8 a0_9 a0_10 a0_11 a0_12 a0_13 a0_14 a0_15 a0_16 o2) (impl_copyEng_l1 k a0_0 a0_1 a0_2 a0_3 a0_4 a0_5 a0_6 a0_7 a0_8 a0_9 a0_10 a0_11 a0_12 a0_13 a0_14 a0_15 a0_16 o2) (fun j1 v => (e1 o2 j1 v).trans ?_) j1 v
    unfold impl_copyEng_l1
    simp only [i2] <;> rfl
  rw [e0]; unfold impl_copyEng_u
  simp only [i1]
def impl_within_u (k : Nat) (a0 : Int) (a1 : Int) (a2 : Int) : Option Outs :=
 bif (decide (a0 ≥ a1)) then some ⟨[.b (decide (a0 ≤ a2))], []⟩ else some ⟨[.b false], []⟩
theorem impl_within_e (k : Nat) (a0 : Int) (a1 : Int) (a2 : Int) : evalF E P0 (k + 1) N.impl_within [.v [.i a0], .v [.i a1], .v [.i a2]] = impl_within_u k a0 a1 a2 := by kernel_rfl
def impl_GeoOk_u (k : Nat) (a0_0 : Int) (a0_1 : Int) : Option Outs :=
 bindO (evalF E P0 k N.impl_within [.v [.i a0_0], .v [.i 3], .v [.i 5]]) fun o3 =>
 bif (o3.t 0).asB then
  bindO (evalF E P0 k N.impl_within [.v [.i a0_1], .v [.i 1], .v [.i 8]]) fun o4 =>
  some ⟨[.b (o4.t 0).asB], []⟩
 else
  some ⟨[.b false], []⟩
theorem impl_GeoOk_e (k : Nat) (a0_0 : Int) (a0_1 : Int) : evalF E P0 (k + 1) N.impl_GeoOk [.v [.i a0_0, .i a0_1]] = impl_GeoOk_u k a0_0 a0_1 := by kernel_rfl
def impl_isWord_u (k : Nat) (a0 : Int) : Option Outs :=
 bindO (evalF E P0 k N.impl_within [.v [.i a0], .v [.i 0], .v [.i 65535]]) fun o2 =>
 some ⟨[.b (o2.t 0).asB], []⟩
theorem impl_isWord_e (k : Nat) (a0 : Int) : evalF E P0 (k + 1) N.impl_isWord [.v [.i a0]] = impl_isWord_u k a0 := by kernel_rfl
def impl_wordsOk_L1 (k : Nat) (a0 : List (List T)) (G1 : (Int) → Option Outs) : (Int) → Option Outs := fun v8 =>
 bif (decide (v8 < (a0.length : Int))) then
  chk (decide (0 ≤ v8) && decide (v8 < (a0.length : Int))) <|
  bindO (evalF E P0 k N.impl_isWord [.v [.i (at_ a0 v8.toNat 0).asI]]) fun o96 =>
  bif (!(o96.t 0).asB) then some ⟨[.b false], []⟩ else G1 (IntKind.wrap .i64 (v8 + 1))
 else
  some ⟨[.b true], []⟩
def impl_wordsOk_k1 : List Nat := [2, 5, 6, 7]
def impl_wordsOk_S1 (a0 : List (List T)) : (Int) → St := fun v8 => ⟨ofSl [(2, .b false), (5, .sl 3 a0), (6, .i .i64 (a0.length : Int)), (7, .i .i64 v8)], ofMem []⟩
def impl_wordsOk_l1 (k : Nat) (a0 : List (List T)) (G1 : (Int) → Option Outs) : (Int) → Option Outs :=
  impl_wordsOk_L1 k a0 G1
def impl_wordsOk_U (k : Nat) (a0 : List (List T)) (R1 : (Int) → Option Outs) : Option Outs :=
 R1 0
def impl_wordsOk_u (k : Nat) (a0 : List (List T)) : Option Outs :=
  impl_wordsOk_U k a0 (fun v => fixN (impl_wordsOk_l1 k a0) k v)
def impl_wordsOk_it1 (k : Nat) (a0 : List (List T)) (js : List Nat) (j : Nat) (s : St) : Option Outs := iter E (LB E (evalF E P0 k) k [] N.impl_wordsOk [.sr, .sl, .sr, .bl]) [] impl_wordsOk_k1 (LK E (evalF E P0 k) k [] N.impl_wordsOk [.v [.r a0]] [.sr, .sl, .sr, .bl] js) j s
theorem impl_wordsOk_e (k : Nat) (a0 : List (List T)) : evalF E P0 (k + 1) N.impl_wordsOk [.v [.r a0]] = impl_wordsOk_u k a0 := by
  have e0 : evalF E P0 (k + 1) N.impl_wordsOk [.v [.r a0]] = impl_wordsOk_U k a0 (fun v => impl_wordsOk_it1 k a0 [] k (impl_wordsOk_S1 a0 v)) := by kernel_rfl
  have e1 : ∀ (j1 : Nat) (v : Int), impl_wordsOk_it1 k a0 [] (j1 + 1) (impl_wordsOk_S1 a0 v) = impl_wordsOk_L1 k a0 (fun v => impl_wordsOk_it1 k a0 [] j1 (impl_wordsOk_S1 a0 v)) v := by
    intro j1 v; kernel_rfl
  have i1 : ∀ (j1 : Nat) (v : Int), impl_wordsOk_it1 k a0 [] j1 (impl_wordsOk_S1 a0 v) = fixN (impl_wordsOk_l1 k a0) j1 v := by
    intro j1 v
    refine iter_fix (impl_wordsOk_S1 a0) (impl_wordsOk_l1 k a0) (fun j1 v => (e1 j1 v).trans ?_) j1 v
    unfold impl_wordsOk_l1
    rfl
  rw [e0]; unfold impl_wordsOk_u
  simp only [i1]
def impl_sizeOk_J1 (k : Nat) (a0_0 : Int) (a0_4 : List (List T)) (c17 : Bool) : Option Outs :=
 bif c17 then
  bindO (evalF E P0 k N.impl_within [.v [.i (a0_4.length : Int)], .v [.i 1], .v [.i 6]]) fun o39 =>
  bif (o39.t 0).asB then
   bindO (evalF E P0 k N.impl_wordsOk [.v [.r a0_4]]) fun o40 =>
   some ⟨[.b (o40.t 0).asB], []⟩
  else
   some ⟨[.b false], []⟩
 else
  bif (a0_0 == 5) then
   bif ((a0_4.length : Int) == 2) then
    bindO (evalF E P0 k N.impl_wordsOk [.v [.r a0_4]]) fun o42 =>
    some ⟨[.b (o42.t 0).asB], []⟩
   else
    some ⟨[.b false], []⟩
  else
   some ⟨[.b true], []⟩
def impl_sizeOk_u (k : Nat) (a0_0 : Int) (a0_1 : Int) (a0_2 : Int) (a0_3 : Int) (a0_4 : List (List T)) : Option Outs :=
 bif (a0_0 == 1) then
  bindO (evalF E P0 k N.impl_within [.v [.i a0_3], .v [.i 1], .v [.i 6]]) fun o34 =>
  some ⟨[.b (o34.t 0).asB], []⟩
 else
  bif (a0_0 == 6) then
   bindO (evalF E P0 k N.impl_within [.v [.i a0_3], .v [.i 1], .v [.i 6]]) fun o36 =>
   some ⟨[.b (o36.t 0).asB], []⟩
  else
   bif (a0_0 == 2) then impl_sizeOk_J1 k a0_0 a0_4 true else impl_sizeOk_J1 k a0_0 a0_4 (a0_0 == 3)
theorem impl_sizeOk_e (k : Nat) (a0_0 : Int) (a0_1 : Int) (a0_2 : Int) (a0_3 : Int) (a0_4 : List (List T)) : evalF E P0 (k + 1) N.impl_sizeOk [.v [.i a0_0, .i a0_1, .i a0_2, .i a0_3, .r a0_4]] = impl_sizeOk_u k a0_0 a0_1 a0_2 a0_3 a0_4 := by kernel_rfl
def impl_Blocks_u (k : Nat) (a0_0 : Int) (a0_1 : Int) : Option Outs :=
 bindO (evalF E P0 k N.impl_GeoOk [.v [.i a0_0, .i a0_1]]) fun o2 =>
 bif (!(o2.t 0).asB) then
  some ⟨[.i 0], []⟩
 else
  some ⟨[.i (IntKind.wrap .i64 (a0_1 * (IntKind.wrap .i64 (a0_0 - 1))))], []⟩
theorem impl_Blocks_e (k : Nat) (a0_0 : Int) (a0_1 : Int) : evalF E P0 (k + 1) N.impl_Blocks [.v [.i a0_0, .i a0_1]] = impl_Blocks_u k a0_0 a0_1 := by kernel_rfl
def impl_runOf_u (k : Nat) (a0_0 : Int) (a0_1 : Int) (a0_2 : Int) (a0_3 : Int) (a0_4 : List (List T)) : Option Outs :=
 bif (a0_0 == 1) then
  some ⟨[.i a0_3], []⟩
 else
  bif (a0_0 == 6) then
   some ⟨[.i a0_3], []⟩
  else
   bif (a0_0 == 2) then
    some ⟨[.i (a0_4.length : Int)], []⟩
   else
    bif (a0_0 == 3) then
     some ⟨[.i (a0_4.length : Int)], []⟩
    else
     bif (a0_0 == 5) then some ⟨[.i 1], []⟩ else some ⟨[.i 0], []⟩
theorem impl_runOf_e (k : Nat) (a0_0 : Int) (a0_1 : Int) (a0_2 : Int) (a0_3 : Int) (a0_4 : List (List T)) : evalF E P0 (k + 1) N.impl_runOf [.v [.i a0_0, .i a0_1, .i a0_2, .i a0_3, .r a0_4]] = impl_runOf_u k a0_0 a0_1 a0_2 a0_3 a0_4 := by kernel_rfl
def impl_CmdCode_J1 (k : Nat) (a0_0 : Int) (a0_1 : Int) (a1_0 : Int) (a1_1 : Int) (a1_2 : Int) (a1_3 : Int) (a1_4 : List (List T)) (c7 : Bool) : Option Outs :=
 bif c7 then
  some ⟨[.i 1], []⟩
 else
  bindO (evalF E P0 k N.impl_sizeOk [.v [.i a1_0, .i a1_1, .i a1_2, .i a1_3, .r a1_4]]) fun o48 =>
  bif (!(o48.t 0).asB) then
   some ⟨[.i 3], []⟩
  else
   bif (a1_0 != 4) then
    bindO (evalF E P0 k N.impl_Blocks [.v [.i a0_0, .i a0_1]]) fun o52 =>
    bindO (evalF E P0 k N.impl_runOf [.v [.i a1_0, .i a1_1, .i a1_2, .i a1_3, .r a1_4]]) fun o53 =>
    bindO (evalF E P0 k N.impl_within [.v [.i a1_2], .v [.i 0], .v [.i (IntKind.wrap .i64 ((o52.t 0).asI - (o53.t 0).asI))]]) fun o54 =>
    bif (!(o54.t 0).asB) then some ⟨[.i 2], []⟩ else some ⟨[.i 0], []⟩
   else
    some ⟨[.i 0], []⟩
def impl_CmdCode_u (k : Nat) (a0_0 : Int) (a0_1 : Int) (a1_0 : Int) (a1_1 : Int) (a1_2 : Int) (a1_3 : Int) (a1_4 : List (List T)) : Option Outs :=
 bindO (evalF E P0 k N.impl_GeoOk [.v [.i a0_0, .i a0_1]]) fun o46 =>
 bif (!(o46.t 0).asB) then
  impl_CmdCode_J1 k a0_0 a0_1 a1_0 a1_1 a1_2 a1_3 a1_4 true
 else
  bindO (evalF E P0 k N.impl_within [.v [.i a1_0], .v [.i 1], .v [.i 6]]) fun o55 =>
  bif (!(o55.t 0).asB) then
   impl_CmdCode_J1 k a0_0 a0_1 a1_0 a1_1 a1_2 a1_3 a1_4 true
  else
   bindO (evalF E P0 k N.impl_within [.v [.i a1_1], .v [.i 1], .v [.i 999]]) fun o56 =>
   impl_CmdCode_J1 k a0_0 a0_1 a1_0 a1_1 a1_2 a1_3 a1_4 (!(o56.t 0).asB)
theorem impl_CmdCode_e (k : Nat) (a0_0 : Int) (a0_1 : Int) (a1_0 : Int) (a1_1 : Int) (a1_2 : Int) (a1_3 : Int) (a1_4 : List (List T)) : evalF E P0 (k + 1) N.impl_CmdCode [.v [.i a0_0, .i a0_1], .v [.i a1_0, .i a1_1, .i a1_2, .i a1_3, .r a1_4]] = impl_CmdCode_u k a0_0 a0_1 a1_0 a1_1 a1_2 a1_3 a1_4 := by kernel_rfl
def impl_jobOk_J1 (k : Nat) (a0_0 : Int) (a0_1 : Int) (a1_0 : Int) (a1_1 : Int) (a1_2 : Int) (a1_3 : Int) (a1_4 : List (List T)) (a1_5 : Int) (a1_6 : List (List T)) (c1 : Bool) : Option Outs :=
 bindO (evalF E P0 k N.impl_CmdCode [.v [.i a0_0, .i a0_1], .v [.i a1_0, .i a1_1, .i a1_2, .i a1_3, .r a1_4]]) fun o5 =>
 bif ((o5.t 0).asI == 0) then
  bindO (evalF E P0 k N.impl_within [.v [.i a1_5], .v [.i 0], .v [.i 40]]) fun o6 =>
  bif (o6.t 0).asB then
   bif (decide ((a1_6.length : Int) ≤ 6)) then
    bindO (evalF E P0 k N.impl_wordsOk [.v [.r a1_6]]) fun o7 =>
    bif (o7.t 0).asB then some ⟨[.b c1], []⟩ else some ⟨[.b false], []⟩
   else
    some ⟨[.b false], []⟩
  else
   some ⟨[.b false], []⟩
 else
  some ⟨[.b false], []⟩
def impl_jobOk_u (k : Nat) (a0_0 : Int) (a0_1 : Int) (a1_0 : Int) (a1_1 : Int) (a1_2 : Int) (a1_3 : Int) (a1_4 : List (List T)) (a1_5 : Int) (a1_6 : List (List T)) (a1_7 : Int) : Option Outs :=
 bif (a1_7 == 0) then
  impl_jobOk_J1 k a0_0 a0_1 a1_0 a1_1 a1_2 a1_3 a1_4 a1_5 a1_6 true
 else
  bindO (evalF E P0 k N.impl_within [.v [.i a1_7], .v [.i 4], .v [.i 7]]) fun o8 =>
  impl_jobOk_J1 k a0_0 a0_1 a1_0 a1_1 a1_2 a1_3 a1_4 a1_5 a1_6 ((o8.t 0).asB)
theorem impl_jobOk_e (k : Nat) (a0_0 : Int) (a0_1 : Int) (a1_0 : Int) (a1_1 : Int) (a1_2 : Int) (a1_3 : Int) (a1_4 : List (List T)) (a1_5 : Int) (a1_6 : List (List T)) (a1_7 : Int) : evalF E P0 (k + 1) N.impl_jobOk [.v [.i a0_0, .i a0_1], .v [.i a1_0, .i a1_1, .i a1_2, .i a1_3, .r a1_4, .i a1_5, .r a1_6, .i a1_7]] = impl_jobOk_u k a0_0 a0_1 a1_0 a1_1 a1_2 a1_3 a1_4 a1_5 a1_6 a1_7 := by kernel_rfl
def impl_lostOk_u (k : Nat) (a0_0 : Int) (a0_1 : Int) (a1 : Int) (a2 : Int) : Option Outs :=
 bindO (evalF E P0 k N.impl_within [.v [.i a1], .v [.i (-1)], .v [.i (IntKind.wrap .i64 (a0_0 - 1))]]) fun o3 =>
 bif (o3.t 0).asB then
  bindO (evalF E P0 k N.impl_within [.v [.i a2], .v [.i 0], .v [.i a0_1]]) fun o4 =>
  bif (o4.t 0).asB then
   bif (a2 == 0) then some ⟨[.b true], []⟩ else some ⟨[.b (a1 != (-1))], []⟩
  else
   some ⟨[.b false], []⟩
 else
  some ⟨[.b false], []⟩
theorem impl_lostOk_e (k : Nat) (a0_0 : Int) (a0_1 : Int) (a1 : Int) (a2 : Int) : evalF E P0 (k + 1) N.impl_lostOk [.v [.i a0_0, .i a0_1], .v [.i a1], .v [.i a2]] = impl_lostOk_u k a0_0 a0_1 a1 a2 := by kernel_rfl
def impl_hasStripe_u (k : Nat) (a0_0 : Int) (a0_1 : Int) (a1 : Int) : Option Outs :=
 bindO (evalF E P0 k N.impl_GeoOk [.v [.i a0_0, .i a0_1]]) fun o3 =>
 bif (o3.t 0).asB then
  bindO (evalF E P0 k N.impl_within [.v [.i a1], .v [.i 0], .v [.i (IntKind.wrap .i64 (a0_1 - 1))]]) fun o4 =>
  some ⟨[.b (o4.t 0).asB], []⟩
 else
  some ⟨[.b false], []⟩
theorem impl_hasStripe_e (k : Nat) (a0_0 : Int) (a0_1 : Int) (a1 : Int) : evalF E P0 (k + 1) N.impl_hasStripe [.v [.i a0_0, .i a0_1], .v [.i a1]] = impl_hasStripe_u k a0_0 a0_1 a1 := by kernel_rfl
def impl_dataOk_u (k : Nat) (a0_0 : Int) (a0_1 : Int) (a1 : List (List T)) : Option Outs :=
 bif ((a1.length : Int) == (IntKind.wrap .i64 (a0_0 - 1))) then
  bindO (evalF E P0 k N.impl_wordsOk [.v [.r a1]]) fun o2 =>
  some ⟨[.b (o2.t 0).asB], []⟩
 else
  some ⟨[.b false], []⟩
theorem impl_dataOk_e (k : Nat) (a0_0 : Int) (a0_1 : Int) (a1 : List (List T)) : evalF E P0 (k + 1) N.impl_dataOk [.v [.i a0_0, .i a0_1], .v [.r a1]] = impl_dataOk_u k a0_0 a0_1 a1 := by kernel_rfl
def impl_dirtyOk_L1 (k : Nat) (a0_0 : Int) (a0_1 : Int) (a0_2 : Int) (a0_3 : List (List T)) (a0_4 : Int) (a0_5 : Int) (a0_6 : Int) (a0_7 : Int) (a0_8 : Int) (a0_9 : List (List T)) (a0_10 : Int) (a0_11 : Bool) (a0_12 : Bool) (G1 : (Int) → Option Outs) : (Int) → Option Outs := fun v8 =>
 bif (decide (v8 < (a0_9.length : Int))) then
  chk (decide (0 ≤ v8) && decide (v8 < (a0_9.length : Int))) <|
  bindO (evalF E P0 k N.impl_hasStripe [.v [.i a0_1, .i a0_2], .v [.i (at_ a0_9 v8.toNat 0).asI]]) fun o254 =>
  bif (!(o254.t 0).asB) then
   some ⟨[.b false], []⟩
  else
   bif (decide (v8 > 0)) then
    chk (decide (0 ≤ (IntKind.wrap .i64 (v8 - 1))) && decide ((IntKind.wrap .i64 (v8 - 1)) < (a0_9.length : Int))) <|
    bif (decide ((at_ a0_9 (IntKind.wrap .i64 (v8 - 1)).toNat 0).asI ≥ (at_ a0_9 v8.toNat 0).asI)) then
     some ⟨[.b false], []⟩
    else
     bindO (evalF E P0 k N.impl_dataOk [.v [.i a0_1, .i a0_2], .v [.r (at_ a0_9 v8.toNat 1).asR]]) fun o255 =>
     bif (!(o255.t 0).asB) then some ⟨[.b false], []⟩ else G1 (IntKind.wrap .i64 (v8 + 1))
   else
    bindO (evalF E P0 k N.impl_dataOk [.v [.i a0_1, .i a0_2], .v [.r (at_ a0_9 v8.toNat 1).asR]]) fun o256 =>
    bif (!(o256.t 0).asB) then some ⟨[.b false], []⟩ else G1 (IntKind.wrap .i64 (v8 + 1))
 else
  some ⟨[.b true], []⟩
def impl_dirtyOk_k1 : List Nat := [1, 2, 6, 7, 8]
def impl_dirtyOk_S1 (a0_0 : Int) (a0_1 : Int) (a0_2 : Int) (a0_3 : List (List T)) (a0_4 : Int) (a0_5 : Int) (a0_6 : Int) (a0_7 : Int) (a0_8 : Int) (a0_9 : List (List T)) (a0_10 : Int) (a0_11 : Bool) (a0_12 : Bool) : (Int) → St := fun v8 => ⟨ofSl [(1, .ptr (1, 0) 0), (2, .b false), (6, .sl 162 a0_9), (7, .i .i64 (a0_9.length : Int)), (8, .i .i64 v8)], ofMem [((1, 0), .var [.i .i64 a0_0, .i .i64 a0_1, .i .i64 a0_2, .sl 160 a0_3, .i .i64 a0_4, .i .i64 a0_5, .i .i64 a0_6, .i .i64 a0_7, .i .i64 a0_8, .sl 162 a0_9, .i .i64 a0_10, .b a0_11, .b a0_12])]⟩
def impl_dirtyOk_l1 (k : Nat) (a0_0 : Int) (a0_1 : Int) (a0_2 : Int) (a0_3 : List (List T)) (a0_4 : Int) (a0_5 : Int) (a0_6 : Int) (a0_7 : Int) (a0_8 : Int) (a0_9 : List (List T)) (a0_10 : Int) (a0_11 : Bool) (a0_12 : Bool) (G1 : (Int) → Option Outs) : (Int) → Option Outs :=
  impl_dirtyOk_L1 k a0_0 a0_1 a0_2 a0_3 a0_4 a0_5 a0_6 a0_7 a0_8 a0_9 a0_10 a0_11 a0_12 G1
def impl_dirtyOk_U (k : Nat) (a0_0 : Int) (a0_1 : Int) (a0_2 : Int) (a0_3 : List (List T)) (a0_4 : Int) (a0_5 : Int) (a0_6 : Int) (a0_7 : Int) (a0_8 : Int) (a0_9 : List (List T)) (a0_10 : Int) (a0_11 : Bool) (a0_12 : Bool) (R1 : (Int) → Option Outs) : Option Outs :=
 R1 0
def impl_dirtyOk_u (k : Nat) (a0_0 : Int) (a0_1 : Int) (a0_2 : Int) (a0_3 : List (List T)) (a0_4 : Int) (a0_5 : Int) (a0_6 : Int) (a0_7 : Int) (a0_8 : Int) (a0_9 : List (List T)) (a0_10 : Int) (a0_11 : Bool) (a0_12 : Bool) : Option Outs :=
  impl_dirtyOk_U k a0_0 a0_1 a0_2 a0_3 a0_4 a0_5 a0_6 a0_7 a0_8 a0_9 a0_10 a0_11 a0_12 (fun v => fixN (impl_dirtyOk_l1 k a0_0 a0_1 a0_2 a0_3 a0_4 a0_5 a0_6 a0_7 a0_8 a0_9 a0_10 a0_11 a0_12) k v)
def impl_dirtyOk_it1 (k : Nat) (a0_0 : Int) (a0_1 : Int) (a0_2 : Int) (a0_3 : List (List T)) (a0_4 : Int) (a0_5 : Int) (a0_6 : Int) (a0_7 : Int) (a0_8 : Int) (a0_9 : List (List T)) (a0_10 : Int) (a0_11 : Bool) (a0_12 : Bool) (js : List Nat) (j : Nat) (s : St) : Option Outs := iter E (LB E (evalF E P0 k) k [] N.impl_dirtyOk [.sr, .sl, .sr, .bl]) [] impl_dirtyOk_k1 (LK E (evalF E P0 k) k [] N.impl_dirtyOk [.v [.i a0_0, .i a0_1, .i a0_2, .r a0_3, .i a0_4, .i a0_5, .i a0_6, .i a0_7, .i a0_8, .r a0_9, .i a0_10, .b a0_11, .b a0_12]] [.sr, .sl, .sr, .bl] js) j s
theorem impl_dirtyOk_e (k : Nat) (a0_0 : Int) (a0_1 : Int) (a0_2 : Int) (a0_3 : List (List T)) (a0_4 : Int) (a0_5 : Int) (a0_6 : Int) (a0_7 : Int) (a0_8 : Int) (a0_9 : List (List T)) (a0_10 : Int) (a0_11 : Bool) (a0_12 : Bool) : evalF E P0 (k + 1) N.impl_dirtyOk [.v [.i a0_0, .i a0_1, .i a0_2, .r a0_3, .i a0_4, .i a0_5, .i a0_6, .i a0_7, .i a0_8, .r a0_9, .i a0_10, .b a0_11, .b a0_12]] = impl_dirtyOk_u k a0_0 a0_1 a0_2 a0_3 a0_4 a0_5 a0_6 a0_7 a0_8 a0_9 a0_10 a0_11 a0_12 := by
  have e0 : evalF E P0 (k + 1) N.impl_dirtyOk [.v [.i a0_0, .i a0_1, .i a0_2, .r a0_3, .i a0_4, .i a0_5, .i a0_6, .i a0_7, .i a0_8, .r a0_9, .i a0_10, .b a0_11, .b a0_12]] = impl_dirtyOk_U k a0_0 a0_1 a0_2 a0_3 a0_4 a0_5 a0_6 a0_7 a0_8 a0_9 a0_10 a0_11 a0_12 (fun v => impl_dirtyOk_it1 k a0_0 a0_1 a0_2 a0_3 a0_4 a0_5 a0_6 a0_7 a0_8 a0_9 a0_10 a0_11 a0_12 [] k (impl_dirtyOk_S1 a0_0 a0_1 a0_2 a0_3 a0_4 a0_5 a0_6 a0_7 a0_8 a0_9 a0_10 a0_11 a0_12 v)) := by kernel_rfl
  have e1 : ∀ (j1 : Nat) (v : Int), impl_dirtyOk_it1 k a0_0 a0_1 a0_2 a0_3 a0_4 a0_5 a0_6 a0_7 a0_8 a0_9 a0_10 a0_11 a0_12 [] (j1 + 1) (impl_dirtyOk_S1 a0_0 a0_1 a0_2 a0_3 a0_4 a0_5 a0_6 a0_7 a0_8 a0_9 a0_10 a0_11 a0_12 v) = impl_dirtyOk_L1 k a0_0 a0_1 a0_2 a0_3 a0_4 a0_5 a0_6 a0_7 a0_8 a0_9 a0_10 a0_11 a0_12 (fun v => impl_dirtyOk_it1 k a0_0 a0_1 a0_2 a0_3 a0_4 a0_5 a0_6 a0_7 a0_8 a0_9 a0_10 a0_11 a0_12 [] j1 (impl_dirtyOk_S1 a0_0 a0_1 a0_2 a0_3 a0_4 a0_5 a0_6 a0_7 a0_8 a0_9 a0_10 a0_11 a0_12 v)) v := by
    intro j1 v; kernel_rfl
  have i1 : ∀ (j1 : Nat) (v : Int), impl_dirtyOk_it1 k a0_0 a0_1 a0_2 a0_3 a0_4 a0_5 a0_6 a0_7 a0_8 a0_9 a0_10 a0_11 a0_12 [] j1 (impl_dirtyOk_S1 a0_0 a0_1 a0_2 a0_3 a0_4 a0_5 a0_6 a0_7 a0_8 a0_9 a0_10 a0_11 a0_12 v) = fixN (impl_dirtyOk_l1 k a0_0 a0_1 a0_2 a0_3 a0_4 a0_5 a0_6 a0_7 a0_8 a0_9 a0_10 a0_11 a0_12) j1 v := by
    intro j1 v
    refine iter_fix (impl_dirtyOk_S1 a0_0 a0_1 a0_2 a0_3 a0_4 a0_5 a0_6 a0_7 a0_8 a0_9 a0_10 a0_11 a0_12) (impl_dirtyOk_l1 k a0_0 a0_1 a0_2 a0_3 a0_4 a0_5 a0_6 a0_7 a0_8 a0_9 a0_10 a0_11 a0_12) (fun j1 v => (e1 j1 v).trans ?_) j1 v
    unfold impl_dirtyOk_l1
    rfl
  rw [e0]; unfold impl_dirtyOk_u
  simp only [i1]
def impl_SecOk_u (k : Nat) (a0 : List (List T)) : Option Outs :=
 bif (decide ((a0.length : Int) ≤ 12)) then
  bindO (evalF E P0 k N.impl_wordsOk [.v [.r a0]]) fun o2 =>
  some ⟨[.b (o2.t 0).asB], []⟩
 else
  some ⟨[.b false], []⟩
theorem impl_SecOk_e (k : Nat) (a0 : List (List T)) : evalF E P0 (k + 1) N.impl_SecOk [.v [.r a0]] = impl_SecOk_u k a0 := by kernel_rfl
def impl_hasSec_u (k : Nat) (a0_0 : List (List T)) (a0_1 : List (List T)) (a0_2 : Bool) (a0_3 : List (List T)) (a1 : Int) : Option Outs :=
 bindO (evalF E P0 k N.impl_within [.v [.i a1], .v [.i 0], .v [.i (IntKind.wrap .i64 ((a0_0.length : Int) - 1))]]) fun o2 =>
 some ⟨[.b (o2.t 0).asB], []⟩
theorem impl_hasSec_e (k : Nat) (a0_0 : List (List T)) (a0_1 : List (List T)) (a0_2 : Bool) (a0_3 : List (List T)) (a1 : Int) : evalF E P0 (k + 1) N.impl_hasSec [.v [.r a0_0, .r a0_1, .b a0_2, .r a0_3], .v [.i a1]] = impl_hasSec_u k a0_0 a0_1 a0_2 a0_3 a1 := by kernel_rfl
def impl_MemOk_L3 (k : Nat) (a0_0 : List (List T)) (a0_1 : List (List T)) (a0_2 : Bool) (a0_3 : List (List T)) (G3 : (Int) → Option Outs) : (Int) → Option Outs := fun v24 =>
 bif (decide (v24 < (a0_3.length : Int))) then
  chk (decide (0 ≤ v24) && decide (v24 < (a0_3.length : Int))) <|
  bindO (evalF E P0 k N.impl_hasSec [.v [.r a0_0, .r a0_1, .b a0_2, .r a0_3], .v [.i (at_ a0_3 v24.toNat 0).asI]]) fun o384 =>
  bif (!(o384.t 0).asB) then
   some ⟨[.b false], []⟩
  else
   bif (decide (v24 > 0)) then
    chk (decide (0 ≤ (IntKind.wrap .i64 (v24 - 1))) && decide ((IntKind.wrap .i64 (v24 - 1)) < (a0_3.length : Int))) <|
    bif (decide ((at_ a0_3 (IntKind.wrap .i64 (v24 - 1)).toNat 0).asI ≥ (at_ a0_3 v24.toNat 0).asI)) then
     some ⟨[.b false], []⟩
    else
     G3 (IntKind.wrap .i64 (v24 + 1))
   else
    G3 (IntKind.wrap .i64 (v24 + 1))
 else
  bindO (evalF E P0 k N.impl_within [.v [.i (a0_0.length : Int)], .v [.i 1], .v [.i 20]]) fun o386 =>
  bif (o386.t 0).asB then some ⟨[.b (decide ((a0_1.length : Int) ≤ 60))], []⟩ else some ⟨[.b false], []⟩
def impl_MemOk_k3 : List Nat := [1, 2, 40, 41, 42, 66, 67, 68, 69, 70, 71, 72, 73, 74, 75]
def impl_MemOk_S3 (a0_0 : List (List T)) (a0_1 : List (List T)) (a0_2 : Bool) (a0_3 : List (List T)) : (Int) → St := fun v24 => ⟨ofSl [(1, .ptr (1, 0) 0), (2, .b false), (40, .sl 3 a0_3), (41, .i .i64 (a0_3.length : Int)), (42, .i .i64 v24), (66, .skip), (67, .skip), (68, .skip), (69, .skip), (70, .skip), (71, .skip), (72, .skip), (73, .skip), (74, .skip), (75, .skip)], ofMem [((1, 0), .var [.sl 34 a0_0, .sl 184 a0_1, .b a0_2, .sl 3 a0_3])]⟩
def impl_MemOk_L2 (k : Nat) (a0_0 : List (List T)) (a0_1 : List (List T)) (a0_2 : Bool) (a0_3 : List (List T)) (R3 : (Int) → Option Outs) (G2 : (Int) → Option Outs) : (Int) → Option Outs := fun v16 =>
 bif (decide (v16 < (a0_1.length : Int))) then
  chk (decide (0 ≤ v16) && decide (v16 < (a0_1.length : Int))) <|
  bindO (evalF E P0 k N.impl_hasSec [.v [.r a0_0, .r a0_1, .b a0_2, .r a0_3], .v [.i (at_ a0_1 v16.toNat 0).asI]]) fun o287 =>
  bif (!(o287.t 0).asB) then
   some ⟨[.b false], []⟩
  else
   bindO (evalF E P0 k N.impl_SecOk [.v [.r (at_ a0_1 v16.toNat 1).asR]]) fun o288 =>
   bif (!(o288.t 0).asB) then some ⟨[.b false], []⟩ else G2 (IntKind.wrap .i64 (v16 + 1))
 else
  R3 0
def impl_MemOk_k2 : List Nat := [1, 2, 7, 8, 21, 22, 23, 39, 40, 41, 42, 43, 44, 45, 46, 47, 48, 49, 50, 51, 52, 53, 54, 55, 56, 57, 58, 59, 60, 61, 62, 63, 64, 65, 66, 67, 68, 69, 70, 71, 72, 73, 74, 75]
def impl_MemOk_S2 (a0_0 : List (List T)) (a0_1 : List (List T)) (a0_2 : Bool) (a0_3 : List (List T)) : (Int) → St := fun v16 => ⟨ofSl [(1, .ptr (1, 0) 0), (2, .b false), (7, .skip), (8, .skip), (21, .sl 184 a0_1), (22, .i .i64 (a0_1.length : Int)), (23, .i .i64 v16), (39, .skip), (40, .skip), (41, .skip), (42, .skip), (43, .skip), (44, .skip), (45, .skip), (46, .skip), (47, .skip), (48, .skip), (49, .skip), (50, .skip), (51, .skip), (52, .skip), (53, .skip), (54, .skip), (55, .skip), (56, .skip), (57, .skip), (58, .skip), (59, .skip), (60, .skip), (61, .skip), (62, .skip), (63, .skip), (64, .skip), (65, .skip), (66, .skip), (67, .skip), (68, .skip), (69, .skip), (70, .skip), (71, .skip), (72, .skip), (73, .skip), (74, .skip), (75, .skip)], ofMem [((1, 0), .var [.sl 34 a0_0, .sl 184 a0_1, .b a0_2, .sl 3 a0_3])]⟩
def impl_MemOk_L1 (k : Nat) (a0_0 : List (List T)) (a0_1 : List (List T)) (a0_2 : Bool) (a0_3 : List (List T)) (R2 : (Int) → Option Outs) (G1 : (Int) → Option Outs) : (Int) → Option Outs := fun v8 =>
 bif (decide (v8 < (a0_0.length : Int))) then
  chk (decide (0 ≤ v8) && decide (v8 < (a0_0.length : Int))) <|
  bindO (evalF E P0 k N.impl_SecOk [.v [.r (at_ a0_0 v8.toNat 0).asR]]) fun o96 =>
  bif (!(o96.t 0).asB) then some ⟨[.b false], []⟩ else G1 (IntKind.wrap .i64 (v8 + 1))
 else
  R2 0
def impl_MemOk_k1 : List Nat := [1, 2, 6, 7, 8, 10, 11, 12, 20, 21, 22, 23, 24, 25, 26, 27, 28, 29, 30, 31, 32, 33, 34, 35, 36, 37, 38, 39, 40, 41, 42, 43, 44, 45, 46, 47, 48, 49, 50, 51, 52, 53, 54, 55, 56, 57, 58, 59, 60, 61, 62, 63, 64, 65, 66, 67, 68, 69, 70, 71, 72, 73, 74, 75]
def impl_MemOk_S1 (a0_0 : List (List T)) (a0_1 : List (List T)) (a0_2 : Bool) (a0_3 : List (List T)) : (Int) → St := fun v8 => ⟨ofSl [(1, .ptr (1, 0) 0), (2, .b false), (6, .skip), (7, .skip), (8, .skip), (10, .sl 34 a0_0), (11, .i .i64 (a0_0.length : Int)), (12, .i .i64 v8), (20, .skip), (21, .skip), (22, .skip), (23, .skip), (24, .skip), (25, .skip), (26, .skip), (27, .skip), (28, .skip), (29, .skip), (30, .skip), (31, .skip), (32, .skip), (33, .skip), (34, .skip), (35, .skip), (36, .skip), (37, .skip), (38, .skip), (39, .skip), (40, .skip), (41, .skip), (42, .skip), (43, .skip), (44, .skip), (45, .skip), (46, .skip), (47, .skip), (48, .skip), (49, .skip), (50, .skip), (51, .skip), (52, .skip), (53, .skip), (54, .skip), (55, .skip), (56, .skip), (57, .skip), (58, .skip), (59, .skip), (60, .skip), (61, .skip), (62, .skip), (63, .skip), (64, .skip), (65, .skip), (66, .skip), (67, .skip), (68, .skip), (69, .skip), (70, .skip), (71, .skip), (72, .skip), (73, .skip), (74, .skip), (75, .skip)], ofMem [((1, 0), .var [.sl 34 a0_0, .sl 184 a0_1, .b a0_2, .sl 3 a0_3])]⟩
def impl_MemOk_l3 (k : Nat) (a0_0 : List (List T)) (a0_1 : List (List T)) (a0_2 : Bool) (a0_3 : List (List T)) (G3 : (Int) → Option Outs) : (Int) → Option Outs :=
  impl_MemOk_L3 k a0_0 a0_1 a0_2 a0_3 G3
def impl_MemOk_l2 (k : Nat) (a0_0 : List (List T)) (a0_1 : List (List T)) (a0_2 : Bool) (a0_3 : List (List T)) (G2 : (Int) → Option Outs) : (Int) → Option Outs :=
  impl_MemOk_L2 k a0_0 a0_1 a0_2 a0_3 (fun v => fixN (impl_MemOk_l3 k a0_0 a0_1 a0_2 a0_3) k v) G2
def impl_MemOk_l1 (k : Nat) (a0_0 : List (List T)) (a0_1 : List (List T)) (a0_2 : Bool) (a0_3 : List (List T)) (G1 : (Int) → Option Outs) : (Int) → Option Outs :=
  impl_MemOk_L1 k a0_0 a0_1 a0_2 a0_3 (fun v => fixN (impl_MemOk_l2 k a0_0 a0_1 a0_2 a0_3) k v) G1
def impl_MemOk_U (k : Nat) (a0_0 : List (List T)) (a0_1 : List (List T)) (a0_2 : Bool) (a0_3 : List (List T)) (R1 : (Int) → Option Outs) : Option Outs :=
 R1 0
def impl_MemOk_u (k : Nat) (a0_0 : List (List T)) (a0_1 : List (List T)) (a0_2 : Bool) (a0_3 : List (List T)) : Option Outs :=
  impl_MemOk_U k a0_0 a0_1 a0_2 a0_3 (fun v => fixN (impl_MemOk_l1 k a0_0 a0_1 a0_2 a0_3) k v)
def impl_MemOk_it1 (k : Nat) (a0_0 : List (List T)) (a0_1 : List (List T)) (a0_2 : Bool) (a0_3 : List (List T)) (js : List Nat) (j : Nat) (s : St) : Option Outs := iter E (LB E (evalF E P0 k) k [] N.impl_MemOk [.sr, .sl, .sr, .bl]) [] impl_MemOk_k1 (LK E (evalF E P0 k) k [] N.impl_MemOk [.v [.r a0_0, .r a0_1, .b a0_2, .r a0_3]] [.sr, .sl, .sr, .bl] js) j s
def impl_MemOk_it2 (k : Nat) (a0_0 : List (List T)) (a0_1 : List (List T)) (a0_2 : Bool) (a0_3 : List (List T)) (js : List Nat) (j : Nat) (s : St) : Option Outs := iter E (LB E (evalF E P0 k) k [] N.impl_MemOk [.sr, .sr, .sl, .sr, .bl]) [] impl_MemOk_k2 (LK E (evalF E P0 k) k [] N.impl_MemOk [.v [.r a0_0, .r a0_1, .b a0_2, .r a0_3]] [.sr, .sr, .sl, .sr, .bl] js) j s
def impl_MemOk_it3 (k : Nat) (a0_0 : List (List T)) (a0_1 : List (List T)) (a0_2 : Bool) (a0_3 : List (List T)) (js : List Nat) (j : Nat) (s : St) : Option Outs := iter E (LB E (evalF E P0 k) k [] N.impl_MemOk [.sr, .sr, .sr, .sl, .sr, .bl]) [] impl_MemOk_k3 (LK E (evalF E P0 k) k [] N.impl_MemOk [.v [.r a0_0, .r a0_1, .b a0_2, .r a0_3]] [.sr, .sr, .sr, .sl, .sr, .bl] js) j s
theorem impl_MemOk_e (k : Nat) (a0_0 : List (List T)) (a0_1 : List (List T)) (a0_2 : Bool) (a0_3 : List (List T)) : evalF E P0 (k + 1) N.impl_MemOk [.v [.r a0_0, .r a0_1, .b a0_2, .r a0_3]] = impl_MemOk_u k a0_0 a0_1 a0_2 a0_3 := by
  have e0 : evalF E P0 (k + 1) N.impl_MemOk [.v [.r a0_0, .r a0_1, .b a0_2, .r a0_3]] = impl_MemOk_U k a0_0 a0_1 a0_2 a0_3 (fun v => impl_MemOk_it1 k a0_0 a0_1 a0_2 a0_3 [] k (impl_MemOk_S1 a0_0 a0_1 a0_2 a0_3 v)) := by kernel_rfl
  have e3 : ∀ (j3 : Nat) (v : Int), impl_MemOk_it3 k a0_0 a0_1 a0_2 a0_3 [] (j3 + 1) (impl_MemOk_S3 a0_0 a0_1 a0_2 a0_3 v) = impl_MemOk_L3 k a0_0 a0_1 a0_2 a0_3 (fun v => impl_MemOk_it3 k a0_0 a0_1 a0_2 a0_3 [] j3 (impl_MemOk_S3 a0_0 a0_1 a0_2 a0_3 v)) v := by
    intro j3 v; kernel_rfl
  have i3 : ∀ (j3 : Nat) (v : Int), impl_MemOk_it3 k a0_0 a0_1 a0_2 a0_3 [] j3 (impl_MemOk_S3 a0_0 a0_1 a0_2 a0_3 v) = fixN (impl_MemOk_l3 k a0_0 a0_1 a0_2 a0_3) j3 v := by
    intro j3 v
    refine iter_fix (impl_MemOk_S3 a0_0 a0_1 a0_2 a0_3) (impl_MemOk_l3 k a0_0 a0_1 a0_2 a0_3) (fun j3 v => (e3 j3 v).trans ?_) j3 v
    unfold impl_MemOk_l3
    rfl
  have e2 : ∀ (j2 : Nat) (v : Int), impl_MemOk_it2 k a0_0 a0_1 a0_2 a0_3 [] (j2 + 1) (impl_MemOk_S2 a0_0 a0_1 a0_2 a0_3 v) = impl_MemOk_L2 k a0_0 a0_1 a0_2 a0_3 (fun v => impl_MemOk_it3 k a0_0 a0_1 a0_2 a0_3 [] k (impl_MemOk_S3 a0_0 a0_1 a0_2 a0_3 v)) (fun v => impl_MemOk_it2 k a0_0 a0_1 a0_2 a0_3 [] j2 (impl_MemOk_S2 a0_0 a0_1 a0_2 a0_3 v)) v := by
    intro j2 v; kernel_rfl
  have i2 : ∀ (j2 : Nat) (v : Int), impl_MemOk_it2 k a0_0 a0_1 a0_2 a0_3 [] j2 (impl_MemOk_S2 a0_0 a0_1 a0_2 a0_3 v) = fixN (impl_MemOk_l2 k a0_0 a0_1 a0_2 a0_3) j2 v := by
    intro j2 v
    refine iter_fix (impl_MemOk_S2 a0_0 a0_1 a0_2 a0_3) (impl_MemOk_l2 k a0_0 a0_1 a0_2 a0_3) (fun j2 v => (e2 j2 v).trans ?_) j2 v
    unfold impl_MemOk_l2
    simp only [i3] <;> rfl
  have e1 : ∀ (j1 : Nat) (v : Int), impl_MemOk_it1 k a0_0 a0_1 a0_2 a0_3 [] (j1 + 1) (impl_MemOk_S1 a0_0 a0_1 a0_2 a0_3 v) = impl_MemOk_L1 k a0_0 a0_1 a0_2 a0_3 (fun v => impl_MemOk_it2 k a0_0 a0_1 a0_2 a0_3 [] k (impl_MemOk_S2 a0_0 a0_1 a0_2 a0_3 v)) (fun v => impl_MemOk_it1 k a0_0 a0_1 a0_2 a0_3 [] j1 (impl_MemOk_S1 a0_0 a0_1 a0_2 a0_3 v)) v := by
    intro j1 v; kernel_rfl
  have i1 : ∀ (j1 : Nat) (v : Int), impl_MemOk_it1 k a0_0 a0_1 a0_2 a0_3 [] j1 (impl_MemOk_S1 a0_0 a0_1 a0_2 a0_3 v) = fixN (impl_MemOk_l1 k a0_0 a0_1 a0_2 a0_3) j1 v := by
    intro j1 v
    refine iter_fix (impl_MemOk_S1 a0_0 a0_1 a0_2 a0_3) (impl_MemOk_l1 k a0_0 a0_1 a0_2 a0_3) (fun j1 v => (e1 j1 v).trans ?_) j1 v
    unfold impl_MemOk_l1
    simp only [i2] <;> rfl
  rw [e0]; unfold impl_MemOk_u
  simp only [i1]
def impl_sectors_u (k : Nat) (a0_0 : Int) (a0_1 : Int) : Option Outs :=
 some ⟨[.i (IntKind.wrap .i64 (6 + a0_1))], []⟩
theorem impl_sectors_e (k : Nat) (a0_0 : Int) (a0_1 : Int) : evalF E P0 (k + 1) N.impl_sectors [.v [.i a0_0, .i a0_1]] = impl_sectors_u k a0_0 a0_1 := by kernel_rfl
def impl_ArrOk_J2 (k : Nat) (a0_6 : Int) (a0_7 : Int) (a0_10 : Int) (c50 : Bool) : Option Outs :=
 bif c50 then
  bindO (evalF E P0 k N.impl_within [.v [.i (IntKind.wrap .i64 (a0_6 - a0_7))], .v [.i 0], .v [.i 4]]) fun o206 =>
  bif (o206.t 0).asB then
   bindO (evalF E P0 k N.impl_within [.v [.i a0_10], .v [.i (-1)], .v [.i 1000]]) fun o207 =>
   some ⟨[.b (o207.t 0).asB], []⟩
  else
   some ⟨[.b false], []⟩
 else
  some ⟨[.b false], []⟩
def impl_ArrOk_L1 (k : Nat) (a0_0 : Int) (a0_1 : Int) (a0_2 : Int) (a0_3 : List (List T)) (a0_4 : Int) (a0_5 : Int) (a0_6 : Int) (a0_7 : Int) (a0_8 : Int) (a0_9 : List (List T)) (a0_10 : Int) (a0_11 : Bool) (a0_12 : Bool) (G1 : (Int) → Option Outs) : (Int) → Option Outs := fun v8 =>
 bif (decide (v8 < (a0_3.length : Int))) then
  chk (decide (0 ≤ v8) && decide (v8 < (a0_3.length : Int))) <|
  bindO (evalF E P0 k N.impl_MemOk [.v [.r (at_ a0_3 v8.toNat 0).asR, .r (at_ a0_3 v8.toNat 1).asR, .b (at_ a0_3 v8.toNat 2).asB, .r (at_ a0_3 v8.toNat 3).asR]]) fun o196 =>
  bif (!(o196.t 0).asB) then
   some ⟨[.b false], []⟩
  else
   bindO (evalF E P0 k N.impl_sectors [.v [.i a0_1, .i a0_2]]) fun o197 =>
   bif (((at_ a0_3 v8.toNat 0).asR.length : Int) != (o197.t 0).asI) then
    some ⟨[.b false], []⟩
   else
    bif (at_ a0_3 v8.toNat 2).asB then
     bif (a0_4 != v8) then
      bif (!a0_12) then some ⟨[.b false], []⟩ else G1 (IntKind.wrap .i64 (v8 + 1))
     else
      G1 (IntKind.wrap .i64 (v8 + 1))
    else
     G1 (IntKind.wrap .i64 (v8 + 1))
 else
  bindO (evalF E P0 k N.impl_within [.v [.i a0_6], .v [.i 0], .v [.i 60000]]) fun o201 =>
  bif (o201.t 0).asB then
   bindO (evalF E P0 k N.impl_within [.v [.i a0_7], .v [.i 0], .v [.i 60000]]) fun o202 =>
   bif (o202.t 0).asB then
    bindO (evalF E P0 k N.impl_within [.v [.i a0_8], .v [.i 0], .v [.i 60000]]) fun o203 =>
    impl_ArrOk_J2 k a0_6 a0_7 a0_10 ((o203.t 0).asB)
   else
    impl_ArrOk_J2 k a0_6 a0_7 a0_10 false
  else
   impl_ArrOk_J2 k a0_6 a0_7 a0_10 false
def impl_ArrOk_k1 : List Nat := [1, 2, 5, 41, 42, 43, 76, 77, 78, 79, 80, 81, 82, 83, 84, 85, 86, 87, 88, 89, 90, 91, 92, 93, 94, 95, 96, 97, 98, 99, 100, 101, 102]
def impl_ArrOk_S1 (a0_0 : Int) (a0_1 : Int) (a0_2 : Int) (a0_3 : List (List T)) (a0_4 : Int) (a0_5 : Int) (a0_6 : Int) (a0_7 : Int) (a0_8 : Int) (a0_9 : List (List T)) (a0_10 : Int) (a0_11 : Bool) (a0_12 : Bool) : (Int) → St := fun v8 => ⟨ofSl [(1, .ptr (1, 0) 0), (2, .b false), (5, .skip), (41, .sl 160 a0_3), (42, .i .i64 (a0_3.length : Int)), (43, .i .i64 v8), (76, .skip), (77, .skip), (78, .skip), (79, .skip), (80, .skip), (81, .skip), (82, .skip), (83, .skip), (84, .skip), (85, .skip), (86, .skip), (87, .skip), (88, .skip), (89, .skip), (90, .skip), (91, .skip), (92, .skip), (93, .skip), (94, .skip), (95, .skip), (96, .skip), (97, .skip), (98, .skip), (99, .skip), (100, .skip), (101, .skip), (102, .skip)], ofMem [((1, 0), .var [.i .i64 a0_0, .i .i64 a0_1, .i .i64 a0_2, .sl 160 a0_3, .i .i64 a0_4, .i .i64 a0_5, .i .i64 a0_6, .i .i64 a0_7, .i .i64 a0_8, .sl 162 a0_9, .i .i64 a0_10, .b a0_11, .b a0_12])]⟩
def impl_ArrOk_J1 (k : Nat) (R1 : (Int) → Option Outs) (c1 : Bool) : Option Outs :=
 bif c1 then some ⟨[.b false], []⟩ else R1 0
def impl_ArrOk_l1 (k : Nat) (a0_0 : Int) (a0_1 : Int) (a0_2 : Int) (a0_3 : List (List T)) (a0_4 : Int) (a0_5 : Int) (a0_6 : Int) (a0_7 : Int) (a0_8 : Int) (a0_9 : List (List T)) (a0_10 : Int) (a0_11 : Bool) (a0_12 : Bool) (G1 : (Int) → Option Outs) : (Int) → Option Outs :=
  impl_ArrOk_L1 k a0_0 a0_1 a0_2 a0_3 a0_4 a0_5 a0_6 a0_7 a0_8 a0_9 a0_10 a0_11 a0_12 G1
def impl_ArrOk_U (k : Nat) (a0_0 : Int) (a0_1 : Int) (a0_2 : Int) (a0_3 : List (List T)) (a0_4 : Int) (a0_5 : Int) (a0_6 : Int) (a0_7 : Int) (a0_8 : Int) (a0_9 : List (List T)) (a0_10 : Int) (a0_11 : Bool) (a0_12 : Bool) (R1 : (Int) → Option Outs) : Option Outs :=
 bindO (evalF E P0 k N.impl_GeoOk [.v [.i a0_1, .i a0_2]]) fun o5 =>
 bif (!(o5.t 0).asB) then
  impl_ArrOk_J1 k R1 true
 else
  bif ((a0_3.length : Int) != a0_1) then
   impl_ArrOk_J1 k R1 true
  else
   bindO (evalF E P0 k N.impl_within [.v [.i a0_0], .v [.i 1], .v [.i 60000]]) fun o208 =>
   bif (!(o208.t 0).asB) then
    impl_ArrOk_J1 k R1 true
   else
    bindO (evalF E P0 k N.impl_lostOk [.v [.i a0_1, .i a0_2], .v [.i a0_4], .v [.i a0_5]]) fun o209 =>
    bif (!(o209.t 0).asB) then
     impl_ArrOk_J1 k R1 true
    else
     bindO (evalF E P0 k N.impl_dirtyOk [.v [.i a0_0, .i a0_1, .i a0_2, .r a0_3, .i a0_4, .i a0_5, .i a0_6, .i a0_7, .i a0_8, .r a0_9, .i a0_10, .b a0_11, .b a0_12]]) fun o210 =>
     impl_ArrOk_J1 k R1 (!(o210.t 0).asB)
def impl_ArrOk_u (k : Nat) (a0_0 : Int) (a0_1 : Int) (a0_2 : Int) (a0_3 : List (List T)) (a0_4 : Int) (a0_5 : Int) (a0_6 : Int) (a0_7 : Int) (a0_8 : Int) (a0_9 : List (List T)) (a0_10 : Int) (a0_11 : Bool) (a0_12 : Bool) : Option Outs :=
  impl_ArrOk_U k a0_0 a0_1 a0_2 a0_3 a0_4 a0_5 a0_6 a0_7 a0_8 a0_9 a0_10 a0_11 a0_12 (fun v => fixN (impl_ArrOk_l1 k a0_0 a0_1 a0_2 a0_3 a0_4 a0_5 a0_6 a0_7 a0_8 a0_9 a0_10 a0_11 a0_12) k v)
def impl_ArrOk_it1 (k : Nat) (a0_0 : Int) (a0_1 : Int) (a0_2 : Int) (a0_3 : List (List T)) (a0_4 : Int) (a0_5 : Int) (a0_6 : Int) (a0_7 : Int) (a0_8 : Int) (a0_9 : List (List T)) (a0_10 : Int) (a0_11 : Bool) (a0_12 : Bool) (js : List Nat) (j : Nat) (s : St) : Option Outs := iter E (LB E (evalF E P0 k) k [] N.impl_ArrOk [.sr, .sr, .sl, .sr, .bl]) [] impl_ArrOk_k1 (LK E (evalF E P0 k) k [] N.impl_ArrOk [.v [.i a0_0, .i a0_1, .i a0_2, .r a0_3, .i a0_4, .i a0_5, .i a0_6, .i a0_7, .i a0_8, .r a0_9, .i a0_10, .b a0_11, .b a0_12]] [.sr, .sr, .sl, .sr, .bl] js) j s
theorem impl_ArrOk_e (k : Nat) (a0_0 : Int) (a0_1 : Int) (a0_2 : Int) (a0_3 : List (List T)) (a0_4 : Int) (a0_5 : Int) (a0_6 : Int) (a0_7 : Int) (a0_8 : Int) (a0_9 : List (List T)) (a0_10 : Int) (a0_11 : Bool) (a0_12 : Bool) : evalF E P0 (k + 1) N.impl_ArrOk [.v [.i a0_0, .i a0_1, .i a0_2, .r a0_3, .i a0_4, .i a0_5, .i a0_6, .i a0_7, .i a0_8, .r a0_9, .i a0_10, .b a0_11, .b a0_12]] = impl_ArrOk_u k a0_0 a0_1 a0_2 a0_3 a0_4 a0_5 a0_6 a0_7 a0_8 a0_9 a0_10 a0_11 a0_12 := by
  have e0 : evalF E P0 (k + 1) N.impl_ArrOk [.v [.i a0_0, .i a0_1, .i a0_2, .r a0_3, .i a0_4, .i a0_5, .i a0_6, .i a0_7, .i a0_8, .r a0_9, .i a0_10, .b a0_11, .b a0_12]] = impl_ArrOk_U k a0_0 a0_1 a0_2 a0_3 a0_4 a0_5 a0_6 a0_7 a0_8 a0_9 a0_10 a0_11 a0_12 (fun v => impl_ArrOk_it1 k a0_0 a0_1 a0_2 a0_3 a0_4 a0_5 a0_6 a0_7 a0_8 a0_9 a0_10 a0_11 a0_12 [] k (impl_ArrOk_S1 a0_0 a0_1 a0_2 a0_3 a0_4 a0_5 a0_6 a0_7 a0_8 a0_9 a0_10 a0_11 a0_12 v)) := by kernel_rfl
  have e1 : ∀ (j1 : Nat) (v : Int), impl_ArrOk_it1 k a0_0 a0_1 a0_2 a0_3 a0_4 a0_5 a0_6 a0_7 a0_8 a0_9 a0_10 a0_11 a0_12 [] (j1 + 1) (impl_ArrOk_S1 a0_0 a0_1 a0_2 a0_3 a0_4 a0_5 a0_6 a0_7 a0_8 a0_9 a0_10 a0_11 a0_12 v) = impl_ArrOk_L1 k a0_0 a0_1 a0_2 a0_3 a0_4 a0_5 a0_6 a0_7 a0_8 a0_9 a0_10 a0_11 a0_12 (fun v => impl_ArrOk_it1 k a0_0 a0_1 a0_2 a0_3 a0_4 a0_5 a0_6 a0_7 a0_8 a0_9 a0_10 a0_11 a0_12 [] j1 (impl_ArrOk_S1 a0_0 a0_1 a0_2 a0_3 a0_4 a0_5 a0_6 a0_7 a0_8 a0_9 a0_10 a0_11 a0_12 v)) v := by
    intro j1 v; kernel_rfl
  have i1 : ∀ (j1 : Nat) (v : Int), impl_ArrOk_it1 k a0_0 a0_1 a0_2 a0_3 a0_4 a0_5 a0_6 a0_7 a0_8 a0_9 a0_10 a0_11 a0_12 [] j1 (impl_ArrOk_S1 a0_0 a0_1 a0_2 a0_3 a0_4 a0_5 a0_6 a0_7 a0_8 a0_9 a0_10 a0_11 a0_12 v) = fixN (impl_ArrOk_l1 k a0_0 a0_1 a0_2 a0_3 a0_4 a0_5 a0_6 a0_7 a0_8 a0_9 a0_10 a0_11 a0_12) j1 v := by
    intro j1 v
    refine iter_fix (impl_ArrOk_S1 a0_0 a0_1 a0_2 a0_3 a0_4 a0_5 a0_6 a0_7 a0_8 a0_9 a0_10 a0_11 a0_12) (impl_ArrOk_l1 k a0_0 a0_1 a0_2 a0_3 a0_4 a0_5 a0_6 a0_7 a0_8 a0_9 a0_10 a0_11 a0_12) (fun j1 v => (e1 j1 v).trans ?_) j1 v
    unfold impl_ArrOk_l1
    rfl
  rw [e0]; unfold impl_ArrOk_u
  simp only [i1]
def impl_SpanOf_u (k : Nat) (a0_0 : Int) (a0_1 : Int) (a1_0 : Int) (a1_1 : Int) (a1_2 : Int) (a1_3 : Int) (a1_4 : List (List T)) : Option Outs :=
 bindO (evalF E P0 k N.impl_CmdCode [.v [.i a0_0, .i a0_1], .v [.i a1_0, .i a1_1, .i a1_2, .i a1_3, .r a1_4]]) fun o14 =>
 bif ((o14.t 0).asI != 0) then
  some ⟨[.i 0, .i 0], []⟩
 else
  bif (a1_0 == 4) then
   bindO (evalF E P0 k N.impl_Blocks [.v [.i a0_0, .i a0_1]]) fun o16 =>
   some ⟨[.i 0, .i (o16.t 0).asI], []⟩
  else
   bindO (evalF E P0 k N.impl_runOf [.v [.i a1_0, .i a1_1, .i a1_2, .i a1_3, .r a1_4]]) fun o18 =>
   some ⟨[.i a1_2, .i (IntKind.wrap .i64 (a1_2 + (o18.t 0).asI))], []⟩
theorem impl_SpanOf_e (k : Nat) (a0_0 : Int) (a0_1 : Int) (a1_0 : Int) (a1_1 : Int) (a1_2 : Int) (a1_3 : Int) (a1_4 : List (List T)) : evalF E P0 (k + 1) N.impl_SpanOf [.v [.i a0_0, .i a0_1], .v [.i a1_0, .i a1_1, .i a1_2, .i a1_3, .r a1_4]] = impl_SpanOf_u k a0_0 a0_1 a1_0 a1_1 a1_2 a1_3 a1_4 := by kernel_rfl
def impl_Clash_u (k : Nat) (a0_0 : Int) (a0_1 : Int) (a1_0 : Int) (a1_1 : Int) (a1_2 : Int) (a1_3 : Int) (a1_4 : List (List T)) (a2_0 : Int) (a2_1 : Int) (a2_2 : Int) (a2_3 : Int) (a2_4 : List (List T)) : Option Outs :=
 bindO (evalF E P0 k N.impl_SpanOf [.v [.i a0_0, .i a0_1], .v [.i a1_0, .i a1_1, .i a1_2, .i a1_3, .r a1_4]]) fun o2 =>
 bindO (evalF E P0 k N.impl_SpanOf [.v [.i a0_0, .i a0_1], .v [.i a2_0, .i a2_1, .i a2_2, .i a2_3, .r a2_4]]) fun o4 =>
 some ⟨[.b (decide ((if (o4.t 0).asI > (o2.t 0).asI then (o4.t 0).asI else (o2.t 0).asI) < (if (o4.t 1).asI < (o2.t 1).asI then (o4.t 1).asI else (o2.t 1).asI)))], []⟩
theorem impl_Clash_e (k : Nat) (a0_0 : Int) (a0_1 : Int) (a1_0 : Int) (a1_1 : Int) (a1_2 : Int) (a1_3 : Int) (a1_4 : List (List T)) (a2_0 : Int) (a2_1 : Int) (a2_2 : Int) (a2_3 : Int) (a2_4 : List (List T)) : evalF E P0 (k + 1) N.impl_Clash [.v [.i a0_0, .i a0_1], .v [.i a1_0, .i a1_1, .i a1_2, .i a1_3, .r a1_4], .v [.i a2_0, .i a2_1, .i a2_2, .i a2_3, .r a2_4]] = impl_Clash_u k a0_0 a0_1 a1_0 a1_1 a1_2 a1_3 a1_4 a2_0 a2_1 a2_2 a2_3 a2_4 := by kernel_rfl
def impl_Apart_L2 (k : Nat) (a0_0 : Int) (a0_1 : Int) (a0_2 : Int) (a0_3 : List (List T)) (a0_4 : Int) (a0_5 : Int) (a0_6 : Int) (a0_7 : Int) (a0_8 : Int) (a0_9 : List (List T)) (a0_10 : Int) (a0_11 : Bool) (a0_12 : Bool) (a0_13 : List (List T)) (a0_14 : List (List T)) (a0_15 : List (List T)) (a0_16 : List (List T)) (p2103 : List (List T)) (p2104 : Int) (p2105 : Int) (p2106 : Int) (p2107 : Int) (p2108 : Int) (p2109 : List (List T)) (p2110 : Int) (p2111 : List (List T)) (p2112 : Int) (v184 : Int) (G1 : (Int) → Option Outs) (G2 : (Int) → Option Outs) : (Int) → Option Outs := fun v200 =>
 bif (decide (v200 < p2104)) then
  chk (decide (0 ≤ v200) && decide (v200 < (p2103.length : Int))) <|
  bindO (evalF E P0 k N.impl_Clash [.v [.i a0_1, .i a0_2], .v [.i p2105, .i p2106, .i p2107, .i p2108, .r p2109], .v [.i (at_ p2103 v200.toNat 0).asI, .i (at_ p2103 v200.toNat 1).asI, .i (at_ p2103 v200.toNat 2).asI, .i (at_ p2103 v200.toNat 3).asI, .r (at_ p2103 v200.toNat 4).asR]]) fun o2304 =>
  bif (o2304.t 0).asB then some ⟨[.b false], []⟩ else G2 (IntKind.wrap .i64 (v200 + 1))
 else
  G1 (IntKind.wrap .i64 (v184 + 1))
def impl_Apart_k2 : List Nat := [1, 2, 4, 8, 9, 10, 18, 19, 20, 33]
def impl_Apart_S2 (a0_0 : Int) (a0_1 : Int) (a0_2 : Int) (a0_3 : List (List T)) (a0_4 : Int) (a0_5 : Int) (a0_6 : Int) (a0_7 : Int) (a0_8 : Int) (a0_9 : List (List T)) (a0_10 : Int) (a0_11 : Bool) (a0_12 : Bool) (a0_13 : List (List T)) (a0_14 : List (List T)) (a0_15 : List (List T)) (a0_16 : List (List T)) (p2103 : List (List T)) (p2104 : Int) (p2105 : Int) (p2106 : Int) (p2107 : Int) (p2108 : Int) (p2109 : List (List T)) (p2110 : Int) (p2111 : List (List T)) (p2112 : Int) (v184 : Int) : (Int) → St := fun v200 => ⟨ofSl [(1, .ptr (1, 0) 0), (2, .b false), (4, .ptr (4, 0) 0), (8, .sl 103 a0_14), (9, .i .i64 (a0_14.length : Int)), (10, .i .i64 v184), (18, .sl 103 p2103), (19, .i .i64 p2104), (20, .i .i64 v200), (33, .undef)], ofMem [((1, 0), .var [.i .i64 a0_0, .i .i64 a0_1, .i .i64 a0_2, .sl 160 a0_3, .i .i64 a0_4, .i .i64 a0_5, .i .i64 a0_6, .i .i64 a0_7, .i .i64 a0_8, .sl 162 a0_9, .i .i64 a0_10, .b a0_11, .b a0_12, .sl 53 a0_13, .sl 103 a0_14, .sl 61 a0_15, .sl 120 a0_16]), ((4, 0), .var [.i .i64 p2105, .i .i64 p2106, .i .i64 p2107, .i .i64 p2108, .sl 3 p2109, .i .i64 p2110, .sl 3 p2111, .i .i64 p2112])]⟩
def impl_Apart_L1 (k : Nat) (a0_0 : Int) (a0_1 : Int) (a0_2 : Int) (a0_3 : List (List T)) (a0_4 : Int) (a0_5 : Int) (a0_6 : Int) (a0_7 : Int) (a0_8 : Int) (a0_9 : List (List T)) (a0_10 : Int) (a0_11 : Bool) (a0_12 : Bool) (a0_13 : List (List T)) (a0_14 : List (List T)) (a0_15 : List (List T)) (a0_16 : List (List T)) (R2 : List (List T) → Int → Int → Int → Int → Int → List (List T) → Int → List (List T) → Int → Int → (Int) → Option Outs) (G1 : (Int) → Option Outs) : (Int) → Option Outs := fun v184 =>
 bif (decide (v184 < (a0_14.length : Int))) then
  chk (decide (0 ≤ v184) && decide (v184 < (a0_14.length : Int))) <|
  chk (decide (0 ≤ 0) && decide (0 ≤ v184) && decide (v184 ≤ (a0_14.length : Int))) <|
  R2 ((a0_14.drop (0 : Int).toNat).take (v184.toNat - (0 : Int).toNat)) (((a0_14.drop (0 : Int).toNat).take (v184.toNat - (0 : Int).toNat)).length : Int) ((at_ a0_14 v184.toNat 0).asI) ((at_ a0_14 v184.toNat 1).asI) ((at_ a0_14 v184.toNat 2).asI) ((at_ a0_14 v184.toNat 3).asI) ((at_ a0_14 v184.toNat 4).asR) ((at_ a0_14 v184.toNat 5).asI) ((at_ a0_14 v184.toNat 6).asR) ((at_ a0_14 v184.toNat 7).asI) v184 0
 else
  some ⟨[.b true], []⟩
def impl_Apart_k1 : List Nat := [1, 2, 8, 9, 10]
def impl_Apart_S1 (a0_0 : Int) (a0_1 : Int) (a0_2 : Int) (a0_3 : List (List T)) (a0_4 : Int) (a0_5 : Int) (a0_6 : Int) (a0_7 : Int) (a0_8 : Int) (a0_9 : List (List T)) (a0_10 : Int) (a0_11 : Bool) (a0_12 : Bool) (a0_13 : List (List T)) (a0_14 : List (List T)) (a0_15 : List (List T)) (a0_16 : List (List T)) : (Int) → St := fun v184 => ⟨ofSl [(1, .ptr (1, 0) 0), (2, .b false), (8, .sl 103 a0_14), (9, .i .i64 (a0_14.length : Int)), (10, .i .i64 v184)], ofMem [((1, 0), .var [.i .i64 a0_0, .i .i64 a0_1, .i .i64 a0_2, .sl 160 a0_3, .i .i64 a0_4, .i .i64 a0_5, .i .i64 a0_6, .i .i64 a0_7, .i .i64 a0_8, .sl 162 a0_9, .i .i64 a0_10, .b a0_11, .b a0_12, .sl 53 a0_13, .sl 103 a0_14, .sl 61 a0_15, .sl 120 a0_16])]⟩
def impl_Apart_l2 (k : Nat) (a0_0 : Int) (a0_1 : Int) (a0_2 : Int) (a0_3 : List (List T)) (a0_4 : Int) (a0_5 : Int) (a0_6 : Int) (a0_7 : Int) (a0_8 : Int) (a0_9 : List (List T)) (a0_10 : Int) (a0_11 : Bool) (a0_12 : Bool) (a0_13 : List (List T)) (a0_14 : List (List T)) (a0_15 : List (List T)) (a0_16 : List (List T)) (p2103 : List (List T)) (p2104 : Int) (p2105 : Int) (p2106 : Int) (p2107 : Int) (p2108 : Int) (p2109 : List (List T)) (p2110 : Int) (p2111 : List (List T)) (p2112 : Int) (v184 : Int) (G1 : (Int) → Option Outs) (G2 : (Int) → Option Outs) : (Int) → Option Outs :=
  impl_Apart_L2 k a0_0 a0_1 a0_2 a0_3 a0_4 a0_5 a0_6 a0_7 a0_8 a0_9 a0_10 a0_11 a0_12 a0_13 a0_14 a0_15 a0_16 p2103 p2104 p2105 p2106 p2107 p2108 p2109 p2110 p2111 p2112 v184 G1 G2
def impl_Apart_l1 (k : Nat) (a0_0 : Int) (a0_1 : Int) (a0_2 : Int) (a0_3 : List (List T)) (a0_4 : Int) (a0_5 : Int) (a0_6 : Int) (a0_7 : Int) (a0_8 : Int) (a0_9 : List (List T)) (a0_10 : Int) (a0_11 : Bool) (a0_12 : Bool) (a0_13 : List (List T)) (a0_14 : List (List T)) (a0_15 : List (List T)) (a0_16 : List (List T)) (G1 : (Int) → Option Outs) : (Int) → Option Outs :=
  impl_Apart_L1 k a0_0 a0_1 a0_2 a0_3 a0_4 a0_5 a0_6 a0_7 a0_8 a0_9 a0_10 a0_11 a0_12 a0_13 a0_14 a0_15 a0_16 (fun y0 y1 y2 y3 y4 y5 y6 y7 y8 y9 y10 v => fixN (impl_Apart_l2 k a0_0 a0_1 a0_2 a0_3 a0_4 a0_5 a0_6 a0_7 a0_8 a0_9 a0_10 a0_11 a0_12 a0_13 a0_14 a0_15 a0_16 y0 y1 y2 y3 y4 y5 y6 y7 y8 y9 y10 G1) k v) G1
def impl_Apart_U (k : Nat) (a0_0 : Int) (a0_1 : Int) (a0_2 : Int) (a0_3 : List (List T)) (a0_4 : Int) (a0_5 : Int) (a0_6 : Int) (a0_7 : Int) (a0_8 : Int) (a0_9 : List (List T)) (a0_10 : Int) (a0_11 : Bool) (a0_12 : Bool) (a0_13 : List (List T)) (a0_14 : List (List T)) (a0_15 : List (List T)) (a0_16 : List (List T)) (R1 : (Int) → Option Outs) : Option Outs :=
 R1 0
def impl_Apart_u (k : Nat) (a0_0 : Int) (a0_1 : Int) (a0_2 : Int) (a0_3 : List (List T)) (a0_4 : Int) (a0_5 : Int) (a0_6 : Int) (a0_7 : Int) (a0_8 : Int) (a0_9 : List (List T)) (a0_10 : Int) (a0_11 : Bool) (a0_12 : Bool) (a0_13 : List (List T)) (a0_14 : List (List T)) (a0_15 : List (List T)) (a0_16 : List (List T)) : Option Outs :=
  impl_Apart_U k a0_0 a0_1 a0_2 a0_3 a0_4 a0_5 a0_6 a0_7 a0_8 a0_9 a0_10 a0_11 a0_12 a0_13 a0_14 a0_15 a0_16 (fun v => fixN (impl_Apart_l1 k a0_0 a0_1 a0_2 a0_3 a0_4 a0_5 a0_6 a0_7 a0_8 a0_9 a0_10 a0_11 a0_12 a0_13 a0_14 a0_15 a0_16) k v)
def impl_Apart_it1 (k : Nat) (a0_0 : Int) (a0_1 : Int) (a0_2 : Int) (a0_3 : List (List T)) (a0_4 : Int) (a0_5 : Int) (a0_6 : Int) (a0_7 : Int) (a0_8 : Int) (a0_9 : List (List T)) (a0_10 : Int) (a0_11 : Bool) (a0_12 : Bool) (a0_13 : List (List T)) (a0_14 : List (List T)) (a0_15 : List (List T)) (a0_16 : List (List T)) (js : List Nat) (j : Nat) (s : St) : Option Outs := iter E (LB E (evalF E P0 k) k [] N.impl_Apart [.sr, .sl, .sr, .bl]) [] impl_Apart_k1 (LK E (evalF E P0 k) k [] N.impl_Apart [.v [.i a0_0, .i a0_1, .i a0_2, .r a0_3, .i a0_4, .i a0_5, .i a0_6, .i a0_7, .i a0_8, .r a0_9, .i a0_10, .b a0_11, .b a0_12, .r a0_13, .r a0_14, .r a0_15, .r a0_16]] [.sr, .sl, .sr, .bl] js) j s
def impl_Apart_it2 (k : Nat) (a0_0 : Int) (a0_1 : Int) (a0_2 : Int) (a0_3 : List (List T)) (a0_4 : Int) (a0_5 : Int) (a0_6 : Int) (a0_7 : Int) (a0_8 : Int) (a0_9 : List (List T)) (a0_10 : Int) (a0_11 : Bool) (a0_12 : Bool) (a0_13 : List (List T)) (a0_14 : List (List T)) (a0_15 : List (List T)) (a0_16 : List (List T)) (js : List Nat) (j : Nat) (s : St) : Option Outs := iter E (LB E (evalF E P0 k) k [] N.impl_Apart [.sr, .sl, .sr, .bl, .lp, .sr, .sr, .sl, .bl, .sr, .sr, .bl]) [] impl_Apart_k2 (LK E (evalF E P0 k) k [] N.impl_Apart [.v [.i a0_0, .i a0_1, .i a0_2, .r a0_3, .i a0_4, .i a0_5, .i a0_6, .i a0_7, .i a0_8, .r a0_9, .i a0_10, .b a0_11, .b a0_12, .r a0_13, .r a0_14, .r a0_15, .r a0_16]] [.sr, .sl, .sr, .bl, .lp, .sr, .sr, .sl, .bl, .sr, .sr, .bl] js) j s
theorem impl_Apart_e (k : Nat) (a0_0 : Int) (a0_1 : Int) (a0_2 : Int) (a0_3 : List (List T)) (a0_4 : Int) (a0_5 : Int) (a0_6 : Int) (a0_7 : Int) (a0_8 : Int) (a0_9 : List (List T)) (a0_10 : Int) (a0_11 : Bool) (a0_12 : Bool) (a0_13 : List (List T)) (a0_14 : List (List T)) (a0_15 : List (List T)) (a0_16 : List (List T)) : evalF E P0 (k + 1) N.impl_Apart [.v [.i a0_0, .i a0_1, .i a0_2, .r a0_3, .i a0_4, .i a0_5, .i a0_6, .i a0_7, .i a0_8, .r a0_9, .i a0_10, .b a0_11, .b a0_12, .r a0_13, .r a0_14, .r a0_15, .r a0_16]] = impl_Apart_u k a0_0 a0_1 a0_2 a0_3 a0_4 a0_5 a0_6 a0_7 a0_8 a0_9 a0_10 a0_11 a0_12 a0_13 a0_14 a0_15 a0_16 := by
  have e0 : evalF E P0 (k + 1) N.impl_Apart [.v [.i a0_0, .i a0_1, .i a0_2, .r a0_3, .i a0_4, .i a0_5, .i a0_6, .i a0_7, .i a0_8, .r a0_9, .i a0_10, .b a0_11, .b a0_12, .r a0_13, .r a0_14, .r a0_15, .r a0_16]] = impl_Apart_U k a0_0 a0_1 a0_2 a0_3 a0_4 a0_5 a0_6 a0_7 a0_8 a0_9 a0_10 a0_11 a0_12 a0_13 a0_14 a0_15 a0_16 (fun v => impl_Apart_it1 k a0_0 a0_1 a0_2 a0_3 a0_4 a0_5 a0_6 a0_7 a0_8 a0_9 a0_10 a0_11 a0_12 a0_13 a0_14 a0_15 a0_16 [] k (impl_Apart_S1 a0_0 a0_1 a0_2 a0_3 a0_4 a0_5 a0_6 a0_7 a0_8 a0_9 a0_10 a0_11 a0_12 a0_13 a0_14 a0_15 a0_16 v)) := by kernel_rfl
  have e2 : ∀ (j1 : Nat) (p2103 : List (List T)) (p2104 : Int) (p2105 : Int) (p2106 : Int) (p2107 : Int) (p2108 : Int) (p2109 : List (List T)) (p2110 : Int) (p2111 : List (List T)) (p2112 : Int) (v184 : Int) (j2 : Nat) (v : Int), impl_Apart_it2 k a0_0 a0_1 a0_2 a0_3 a0_4 a0_5 a0_6 a0_7 a0_8 a0_9 a0_10 a0_11 a0_12 a0_13 a0_14 a0_15 a0_16 [j1] (j2 + 1) (impl_Apart_S2 a0_0 a0_1 a0_2 a0_3 a0_4 a0_5 a0_6 a0_7 a0_8 a0_9 a0_10 a0_11 a0_12 a0_13 a0_14 a0_15 a0_16 p2103 p2104 p2105 p2106 p2107 p2108 p2109 p2110 p2111 p2112 v184 v) = impl_Apart_L2 k a0_0 a0_1 a0_2 a0_3 a0_4 a0_5 a0_6 a0_7 a0_8 a0_9 a0_10 a0_11 a0_12 a0_13 a0_14 a0_15 a0_16 p2103 p2104 p2105 p2106 p2107 p2108 p2109 p2110 p2111 p2112 v184 (fun v => impl_Apart_it1 k a0_0 a0_1 a0_2 a0_3 a0_4 a0_5 a0_6 a0_7 a0_8 a0_9 a0_10 a0_11 a0_12 a0_13 a0_14 a0_15 a0_16 [] j1 (impl_Apart_S1 a0_0 a0_1 a0_2 a0_3 a0_4 a0_5 a0_6 a0_7 a0_8 a0_9 a0_10 a0_11 a0_12 a0_13 a0_14 a0_15 a0_16 v)) (fun v => impl_Apart_it2 k a0_0 a0_1 a0_2 a0_3 a0_4 a0_5 a0_6 a0_7 a0_8 a0_9 a0_10 a0_11 a0_12 a0_13 a0_14 a0_15 a0_16 [j1] j2 (impl_Apart_S2 a0_0 a0_1 a0_2 a0_3 a0_4 a0_5 a0_6 a0_7 a0_8 a0_9 a0_10 a0_11 a0_12 a0_13 a0_14 a0_15 a0_16 p2103 p2104 p2105 p2106 p2107 p2108 p2109 p2110 p2111 p2112 v184 v)) v := by
    intro j1 p2103 p2104 p2105 p2106 p2107 p2108 p2109 p2110 p2111 p2112 v184 j2 v; kernel_rfl
  have i2 : ∀ (j1 : Nat) (p2103 : List (List T)) (p2104 : Int) (p2105 : Int) (p2106 : Int) (p2107 : Int) (p2108 : Int) (p2109 : List (List T)) (p2110 : Int) (p2111 : List (List T)) (p2112 : Int) (v184 : Int) (j2 : Nat) (v : Int), impl_Apart_it2 k a0_0 a0_1 a0_2 a0_3 a0_4 a0_5 a0_6 a0_7 a0_8 a0_9 a0_10 a0_11 a0_12 a0_13 a0_14 a0_15 a0_16 [j1] j2 (impl_Apart_S2 a0_0 a0_1 a0_2 a0_3 a0_4 a0_5 a0_6 a0_7 a0_8 a0_9 a0_10 a0_11 a0_12 a0_13 a0_14 a0_15 a0_16 p2103 p2104 p2105 p2106 p2107 p2108 p2109 p2110 p2111 p2112 v184 v) = fixN (impl_Apart_l2 k a0_0 a0_1 a0_2 a0_3 a0_4 a0_5 a0_6 a0_7 a0_8 a0_9 a0_10 a0_11 a0_12 a0_13 a0_14 a0_15 a0_16 p2103 p2104 p2105 p2106 p2107 p2108 p2109 p2110 p2111 p2112 v184 (fun v => impl_Apart_it1 k a0_0 a0_1 a0_2 a0_3 a0_4 a0_5 a0_6 a0_7 a0_8 a0_9 a0_10 a0_11 a0_12 a0_13 a0_14 a0_15 a0_16 [] j1 (impl_Apart_S1 a0_0 a0_1 a0_2 a0_3 a0_4 a0_5 a0_6 a0_7 a0_8 a0_9 a0_10 a0_11 a0_12 a0_13 a0_14 a0_15 a0_16 v))) j2 v := by
    intro j1 p2103 p2104 p2105 p2106 p2107 p2108 p2109 p2110 p2111 p2112 v184 j2 v
    refine iter_fix (impl_Apart_S2 a0_0 a0_1 a0_2 a0_3 a0_4 a0_5 a0_6 a0_7 a0_8 a0_9 a0_10 a0_11 a0_12 a0_13 a0_14 a0_15 a0_16 p2103 p2104 p2105 p2106 p2107 p2108 p2109 p2110 p2111 p2112 v184) (impl_Apart_l2 k a0_0 a0_1 a0_2 a0_3 a0_4 a0_5 a0_6 a0_7 a0_8 a0_9 a0_10 a0_11 a0_12 a0_13 a0_14 a0_15 a0_16 p2103 p2104 p2105 p2106 p2107 p2108 p2109 p2110 p2111 p2112 v184 (fun v => impl_Apart_it1 k a0_0 a0_1 a0_2 a0_3 a0_4 a0_5 a0_6 a0_7 a0_8 a0_9 a0_10 a0_11 a0_12 a0_13 a0_14 a0_15 a0_16 [] j1 (impl_Apart_S1 a0_0 a0_1 a0_2 a0_3 a0_4 a0_5 a0_6 a0_7 a0_8 a0_9 a0_10 a0_11 a0_12 a0_13 a0_14 a0_15 a0_16 v))) (fun j2 v => (e2 j1 p2103 p2104 p2105 p2106 p2107 p2108 p2109 p2110 p2111 p2112 v184 j2 v).trans ?_) j2 v
    unfold impl_Apart_l2
    rfl
  have e1 : ∀ (j1 : Nat) (v : Int), impl_Apart_it1 k a0_0 a0_1 a0_2 a0_3 a0_4 a0_5 a0_6 a0_7 a0_8 a0_9 a0_10 a0_11 a0_12 a0_13 a0_14 a0_15 a0_16 [] (j1 + 1) (impl_Apart_S1 a0_0 a0_1 a0_2 a0_3 a0_4 a0_5 a0_6 a0_7 a0_8 a0_9 a0_10 a0_11 a0_12 a0_13 a0_14 a0_15 a0_16 v) = impl_Apart_L1 k a0_0 a0_1 a0_2 a0_3 a0_4 a0_5 a0_6 a0_7 a0_8 a0_9 a0_10 a0_11 a0_12 a0_13 a0_14 a0_15 a0_16 (fun y0 y1 y2 y3 y4 y5 y6 y7 y8 y9 y10 v => impl_Apart_it2 k a0_0 a0_1 a0_2 a0_3 a0_4 a0_5 a0_6 a0_7 a0_8 a0_9 a0_10 a0_11 a0_12 a0_13 a0_14 a0_15 a0_16 [j1] k (impl_Apart_S2 a0_0 a0_1 a0_2 a0_3 a0_4 a0_5 a0_6 a0_7 a0_8 a0_9 a0_10 a0_11 a0_12 a0_13 a0_14 a0_15 a0_16 y0 y1 y2 y3 y4 y5 y6 y7 y8 y9 y10 v)) (fun v => impl_Apart_it1 k a0_0 a0_1 a0_2 a0_3 a0_4 a0_5 a0_6 a0_7 a0_8 a0_9 a0_10 a0_11 a0_12 a0_13 a0_14 a0_15 a0_16 [] j1 (impl_Apart_S1 a0_0 a0_1 a0_2 a0_3 a0_4 a0_5 a0_6 a0_7 a0_8 a0_9 a0_10 a0_11 a0_12 a0_13 a0_14 a0_15 a0_16 v)) v := by
    intro j1 v; kernel_rfl
  have i1 : ∀ (j1 : Nat) (v : Int), impl_Apart_it1 k a0_0 a0_1 a0_2 a0_3 a0_4 a0_5 a0_6 a0_7 a0_8 a0_9 a0_10 a0_11 a0_12 a0_13 a0_14 a0_15 a0_16 [] j1 (impl_Apart_S1 a0_0 a0_1 a0_2 a0_3 a0_4 a0_5 a0_6 a0_7 a0_8 a0_9 a0_10 a0_11 a0_12 a0_13 a0_14 a0_15 a0_16 v) = fixN (impl_Apart_l1 k a0_0 a0_1 a0_2 a0_3 a0_4 a0_5 a0_6 a0_7 a0_8 a0_9 a0_10 a0_11 a0_12 a0_13 a0_14 a0_15 a0_16) j1 v := by
    intro j1 v
    refine iter_fix (impl_Apart_S1 a0_0 a0_1 a0_2 a0_3 a0_4 a0_5 a0_6 a0_7 a0_8 a0_9 a0_10 a0_11 a0_12 a0_13 a0_14 a0_15 a0_16) (impl_Apart_l1 k a0_0 a0_1 a0_2 a0_3 a0_4 a0_5 a0_6 a0_7 a0_8 a0_9 a0_10 a0_11 a0_12 a0_13 a0_14 a0_15 a0_16) (fun j1 v => (e1 j1 v).trans ?_) j1 v
    unfold impl_Apart_l1
    simp only [i2] <;> rfl
  rw [e0]; unfold impl_Apart_u
  simp only [i1]
def impl_EngOk_J1 (k : Nat) (a0_0 : Int) (a0_1 : Int) (a0_2 : Int) (a0_3 : List (List T)) (a0_4 : Int) (a0_5 : Int) (a0_6 : Int) (a0_7 : Int) (a0_8 : Int) (a0_9 : List (List T)) (a0_10 : Int) (a0_11 : Bool) (a0_12 : Bool) (a0_13 : List (List T)) (a0_14 : List (List T)) (a0_15 : List (List T)) (a0_16 : List (List T)) (c1 : Bool) : Option Outs :=
 bif c1 then
  bindO (evalF E P0 k N.impl_ArrOk [.v [.i a0_0, .i a0_1, .i a0_2, .r a0_3, .i a0_4, .i a0_5, .i a0_6, .i a0_7, .i a0_8, .r a0_9, .i a0_10, .b a0_11, .b a0_12]]) fun o99 =>
  bif (o99.t 0).asB then
   bindO (evalF E P0 k N.impl_Apart [.v [.i a0_0, .i a0_1, .i a0_2, .r a0_3, .i a0_4, .i a0_5, .i a0_6, .i a0_7, .i a0_8, .r a0_9, .i a0_10, .b a0_11, .b a0_12, .r a0_13, .r a0_14, .r a0_15, .r a0_16]]) fun o100 =>
   some ⟨[.b (o100.t 0).asB], []⟩
  else
   some ⟨[.b false], []⟩
 else
  some ⟨[.b false], []⟩
def impl_EngOk_L1 (k : Nat) (a0_0 : Int) (a0_1 : Int) (a0_2 : Int) (a0_3 : List (List T)) (a0_4 : Int) (a0_5 : Int) (a0_6 : Int) (a0_7 : Int) (a0_8 : Int) (a0_9 : List (List T)) (a0_10 : Int) (a0_11 : Bool) (a0_12 : Bool) (a0_13 : List (List T)) (a0_14 : List (List T)) (a0_15 : List (List T)) (a0_16 : List (List T)) (G1 : (Int) → Option Outs) : (Int) → Option Outs := fun v8 =>
 bif (decide (v8 < (a0_14.length : Int))) then
  chk (decide (0 ≤ v8) && decide (v8 < (a0_14.length : Int))) <|
  bindO (evalF E P0 k N.impl_jobOk [.v [.i a0_1, .i a0_2], .v [.i (at_ a0_14 v8.toNat 0).asI, .i (at_ a0_14 v8.toNat 1).asI, .i (at_ a0_14 v8.toNat 2).asI, .i (at_ a0_14 v8.toNat 3).asI, .r (at_ a0_14 v8.toNat 4).asR, .i (at_ a0_14 v8.toNat 5).asI, .r (at_ a0_14 v8.toNat 6).asR, .i (at_ a0_14 v8.toNat 7).asI]]) fun o96 =>
  bif (!(o96.t 0).asB) then some ⟨[.b false], []⟩ else G1 (IntKind.wrap .i64 (v8 + 1))
 else
  bif (decide ((a0_13.length : Int) ≤ 8)) then
   bif (decide ((a0_14.length : Int) ≤ 4)) then
    bif (decide ((a0_15.length : Int) ≤ 8)) then
     impl_EngOk_J1 k a0_0 a0_1 a0_2 a0_3 a0_4 a0_5 a0_6 a0_7 a0_8 a0_9 a0_10 a0_11 a0_12 a0_13 a0_14 a0_15 a0_16 (decide ((a0_16.length : Int) ≤ 400))
    else
     impl_EngOk_J1 k a0_0 a0_1 a0_2 a0_3 a0_4 a0_5 a0_6 a0_7 a0_8 a0_9 a0_10 a0_11 a0_12 a0_13 a0_14 a0_15 a0_16 false
   else
    impl_EngOk_J1 k a0_0 a0_1 a0_2 a0_3 a0_4 a0_5 a0_6 a0_7 a0_8 a0_9 a0_10 a0_11 a0_12 a0_13 a0_14 a0_15 a0_16 false
  else
   impl_EngOk_J1 k a0_0 a0_1 a0_2 a0_3 a0_4 a0_5 a0_6 a0_7 a0_8 a0_9 a0_10 a0_11 a0_12 a0_13 a0_14 a0_15 a0_16 false
def impl_EngOk_k1 : List Nat := [1, 2, 5, 7, 8, 9, 20, 21, 22, 23, 24, 25, 26, 27, 28, 29, 30, 31, 32, 33, 34, 35, 36, 37, 38, 39, 40, 41, 42, 43, 44, 45, 46, 47, 48, 49, 50, 51]
def impl_EngOk_S1 (a0_0 : Int) (a0_1 : Int) (a0_2 : Int) (a0_3 : List (List T)) (a0_4 : Int) (a0_5 : Int) (a0_6 : Int) (a0_7 : Int) (a0_8 : Int) (a0_9 : List (List T)) (a0_10 : Int) (a0_11 : Bool) (a0_12 : Bool) (a0_13 : List (List T)) (a0_14 : List (List T)) (a0_15 : List (List T)) (a0_16 : List (List T)) : (Int) → St := fun v8 => ⟨ofSl [(1, .ptr (1, 0) 0), (2, .b false), (5, .skip), (7, .sl 103 a0_14), (8, .i .i64 (a0_14.length : Int)), (9, .i .i64 v8), (20, .skip), (21, .skip), (22, .skip), (23, .skip), (24, .skip), (25, .skip), (26, .skip), (27, .skip), (28, .skip), (29, .skip), (30, .skip), (31, .skip), (32, .skip), (33, .skip), (34, .skip), (35, .skip), (36, .skip), (37, .skip), (38, .skip), (39, .skip), (40, .skip), (41, .skip), (42, .skip), (43, .skip), (44, .skip), (45, .skip), (46, .skip), (47, .skip), (48, .skip), (49, .skip), (50, .skip), (51, .skip)], ofMem [((1, 0), .var [.i .i64 a0_0, .i .i64 a0_1, .i .i64 a0_2, .sl 160 a0_3, .i .i64 a0_4, .i .i64 a0_5, .i .i64 a0_6, .i .i64 a0_7, .i .i64 a0_8, .sl 162 a0_9, .i .i64 a0_10, .b a0_11, .b a0_12, .sl 53 a0_13, .sl 103 a0_14, .sl 61 a0_15, .sl 120 a0_16])]⟩
def impl_EngOk_l1 (k : Nat) (a0_0 : Int) (a0_1 : Int) (a0_2 : Int) (a0_3 : List (List T)) (a0_4 : Int) (a0_5 : Int) (a0_6 : Int) (a0_7 : Int) (a0_8 : Int) (a0_9 : List (List T)) (a0_10 : Int) (a0_11 : Bool) (a0_12 : Bool) (a0_13 : List (List T)) (a0_14 : List (List T)) (a0_15 : List (List T)) (a0_16 : List (List T)) (G1 : (Int) → Option Outs) : (Int) → Option Outs :=
  impl_EngOk_L1 k a0_0 a0_1 a0_2 a0_3 a0_4 a0_5 a0_6 a0_7 a0_8 a0_9 a0_10 a0_11 a0_12 a0_13 a0_14 a0_15 a0_16 G1
def impl_EngOk_U (k : Nat) (a0_0 : Int) (a0_1 : Int) (a0_2 : Int) (a0_3 : List (List T)) (a0_4 : Int) (a0_5 : Int) (a0_6 : Int) (a0_7 : Int) (a0_8 : Int) (a0_9 : List (List T)) (a0_10 : Int) (a0_11 : Bool) (a0_12 : Bool) (a0_13 : List (List T)) (a0_14 : List (List T)) (a0_15 : List (List T)) (a0_16 : List (List T)) (R1 : (Int) → Option Outs) : Option Outs :=
 R1 0
def impl_EngOk_u (k : Nat) (a0_0 : Int) (a0_1 : Int) (a0_2 : Int) (a0_3 : List (List T)) (a0_4 : Int) (a0_5 : Int) (a0_6 : Int) (a0_7 : Int) (a0_8 : Int) (a0_9 : List (List T)) (a0_10 : Int) (a0_11 : Bool) (a0_12 : Bool) (a0_13 : List (List T)) (a0_14 : List (List T)) (a0_15 : List (List T)) (a0_16 : List (List T)) : Option Outs :=
  impl_EngOk_U k a0_0 a0_1 a0_2 a0_3 a0_4 a0_5 a0_6 a0_7 a0_8 a0_9 a0_10 a0_11 a0_12 a0_13 a0_14 a0_15 a0_16 (fun v => fixN (impl_EngOk_l1 k a0_0 a0_1 a0_2 a0_3 a0_4 a0_5 a0_6 a0_7 a0_8 a0_9 a0_10 a0_11 a0_12 a0_13 a0_14 a0_15 a0_16) k v)
def impl_EngOk_it1 (k : Nat) (a0_0 : Int) (a0_1 : Int) (a0_2 : Int) (a0_3 : List (List T)) (a0_4 : Int) (a0_5 : Int) (a0_6 : Int) (a0_7 : Int) (a0_8 : Int) (a0_9 : List (List T)) (a0_10 : Int) (a0_11 : Bool) (a0_12 : Bool) (a0_13 : List (List T)) (a0_14 : List (List T)) (a0_15 : List (List T)) (a0_16 : List (List T)) (js : List Nat) (j : Nat) (s : St) : Option Outs := iter E (LB E (evalF E P0 k) k [] N.impl_EngOk [.sr, .sl, .sr, .bl]) [] impl_EngOk_k1 (LK E (evalF E P0 k) k [] N.impl_EngOk [.v [.i a0_0, .i a0_1, .i a0_2, .r a0_3, .i a0_4, .i a0_5, .i a0_6, .i a0_7, .i a0_8, .r a0_9, .i a0_10, .b a0_11, .b a0_12, .r a0_13, .r a0_14, .r a0_15, .r a0_16]] [.sr, .sl, .sr, .bl] js) j s
theorem impl_EngOk_e (k : Nat) (a0_0 : Int) (a0_1 : Int) (a0_2 : Int) (a0_3 : List (List T)) (a0_4 : Int) (a0_5 : Int) (a0_6 : Int) (a0_7 : Int) (a0_8 : Int) (a0_9 : List (List T)) (a0_10 : Int) (a0_11 : Bool) (a0_12 : Bool) (a0_13 : List (List T)) (a0_14 : List (List T)) (a0_15 : List (List T)) (a0_16 : List (List T)) : evalF E P0 (k + 1) N.impl_EngOk [.v [.i a0_0, .i a0_1, .i a0_2, .r a0_3, .i a0_4, .i a0_5, .i a0_6, .i a0_7, .i a0_8, .r a0_9, .i a0_10, .b a0_11, .b a0_12, .r a0_13, .r a0_14, .r a0_15, .r a0_16]] = impl_EngOk_u k a0_0 a0_1 a0_2 a0_3 a0_4 a0_5 a0_6 a0_7 a0_8 a0_9 a0_10 a0_11 a0_12 a0_13 a0_14 a0_15 a0_16 := by
  have e0 : evalF E P0 (k + 1) N.impl_EngOk [.v [.i a0_0, .i a0_1, .i a0_2, .r a0_3, .i a0_4, .i a0_5, .i a0_6, .i a0_7, .i a0_8, .r a0_9, .i a0_10, .b a0_11, .b a0_12, .r a0_13, .r a0_14, .r a0_15, .r a0_16]] = impl_EngOk_U k a0_0 a0_1 a0_2 a0_3 a0_4 a0_5 a0_6 a0_7 a0_8 a0_9 a0_10 a0_11 a0_12 a0_13 a0_14 a0_15 a0_16 (fun v => impl_EngOk_it1 k a0_0 a0_1 a0_2 a0_3 a0_4 a0_5 a0_6 a0_7 a0_8 a0_9 a0_10 a0_11 a0_12 a0_13 a0_14 a0_15 a0_16 [] k (impl_EngOk_S1 a0_0 a0_1 a0_2 a0_3 a0_4 a0_5 a0_6 a0_7 a0_8 a0_9 a0_10 a0_11 a0_12 a0_13 a0_14 a0_15 a0_16 v)) := by kernel_rfl
  have e1 : ∀ (j1 : Nat) (v : Int), impl_EngOk_it1 k a0_0 a0_1 a0_2 a0_3 a0_4 a0_5 a0_6 a0_7 a0_8 a0_9 a0_10 a0_11 a0_12 a0_13 a0_14 a0_15 a0_16 [] (j1 + 1) (impl_EngOk_S1 a0_0 a0_1 a0_2 a0_3 a0_4 a0_5 a0_6 a0_7 a0_8 a0_9 a0_10 a0_11 a0_12 a0_13 a0_14 a0_15 a0_16 v) = impl_EngOk_L1 k a0_0 a0_1 a0_2 a0_3 a0_4 a0_5 a0_6 a0_7 a0_8 a0_9 a0_10 a0_11 a0_12 a0_13 a0_14 a0_15 a0_16 (fun v => impl_EngOk_it1 k a0_0 a0_1 a0_2 a0_3 a0_4 a0_5 a0_6 a0_7 a0_8 a0_9 a0_10 a0_11 a0_12 a0_13 a0_14 a0_15 a0_16 [] j1 (impl_EngOk_S1 a0_0 a0_1 a0_2 a0_3 a0_4 a0_5 a0_6 a0_7 a0_8 a0_9 a0_10 a0_11 a0_12 a0_13 a0_14 a0_15 a0_16 v)) v := by
    intro j1 v; kernel_rfl
  have i1 : ∀ (j1 : Nat) (v : Int), impl_EngOk_it1 k a0_0 a0_1 a0_2 a0_3 a0_4 a0_5 a0_6 a0_7 a0_8 a0_9 a0_10 a0_11 a0_12 a0_13 a0_14 a0_15 a0_16 [] j1 (impl_EngOk_S1 a0_0 a0_1 a0_2 a0_3 a0_4 a0_5 a0_6 a0_7 a0_8 a0_9 a0_10 a0_11 a0_12 a0_13 a0_14 a0_15 a0_16 v) = fixN (impl_EngOk_l1 k a0_0 a0_1 a0_2 a0_3 a0_4 a0_5 a0_6 a0_7 a0_8 a0_9 a0_10 a0_11 a0_12 a0_13 a0_14 a0_15 a0_16) j1 v := by
    intro j1 v
    refine iter_fix (impl_EngOk_S1 a0_0 a0_1 a0_2 a0_3 a0_4 a0_5 a0_6 a0_7 a0_8 a0_9 a0_10 a0_11 a0_12 a0_13 a0_14 a0_15 a0_16) (impl_EngOk_l1 k a0_0 a0_1 a0_2 a0_3 a0_4 a0_5 a0_6 a0_7 a0_8 a0_9 a0_10 a0_11 a0_12 a0_13 a0_14 a0_15 a0_16) (fun j1 v => (e1 j1 v).trans ?_) j1 v
    unfold impl_EngOk_l1
    rfl
  rw [e0]; unfold impl_EngOk_u
  simp only [i1]
def laws_eqGeo_u (k : Nat) (a0_0 : Int) (a0_1 : Int) (a1_0 : Int) (a1_1 : Int) : Option Outs :=
 bif (a0_0 != a1_0) then
  some ⟨[.b false], []⟩
 else
  bif (a0_1 != a1_1) then some ⟨[.b false], []⟩ else some ⟨[.b true], []⟩
theorem laws_eqGeo_e (k : Nat) (a0_0 : Int) (a0_1 : Int) (a1_0 : Int) (a1_1 : Int) : evalF E P0 (k + 1) N.laws_eqGeo [.v [.i a0_0, .i a0_1], .v [.i a1_0, .i a1_1]] = laws_eqGeo_u k a0_0 a0_1 a1_0 a1_1 := by kernel_rfl
def laws_eqIntS_L1 (k : Nat) (a0 : List (List T)) (a1 : List (List T)) (G1 : (Int) → Option Outs) : (Int) → Option Outs := fun v8 =>
 bif (decide (v8 < (a0.length : Int))) then
  chk (decide (0 ≤ v8) && decide (v8 < (a0.length : Int))) <|
  chk (decide (0 ≤ v8) && decide (v8 < (a1.length : Int))) <|
  bif ((at_ a0 v8.toNat 0).asI != (at_ a1 v8.toNat 0).asI) then
   some ⟨[.b false], []⟩
  else
   G1 (IntKind.wrap .i64 (v8 + 1))
 else
  some ⟨[.b true], []⟩
def laws_eqIntS_k1 : List Nat := [0, 1, 4, 5]
def laws_eqIntS_S1 (a0 : List (List T)) (a1 : List (List T)) : (Int) → St := fun v8 => ⟨ofSl [(0, .sl 3 a0), (1, .sl 3 a1), (4, .b false), (5, .i .i64 v8)], ofMem []⟩
def laws_eqIntS_l1 (k : Nat) (a0 : List (List T)) (a1 : List (List T)) (G1 : (Int) → Option Outs) : (Int) → Option Outs :=
  laws_eqIntS_L1 k a0 a1 G1
def laws_eqIntS_U (k : Nat) (a0 : List (List T)) (a1 : List (List T)) (R1 : (Int) → Option Outs) : Option Outs :=
 bif ((a0.length : Int) != (a1.length : Int)) then some ⟨[.b false], []⟩ else R1 0
def laws_eqIntS_u (k : Nat) (a0 : List (List T)) (a1 : List (List T)) : Option Outs :=
  laws_eqIntS_U k a0 a1 (fun v => fixN (laws_eqIntS_l1 k a0 a1) k v)
def laws_eqIntS_it1 (k : Nat) (a0 : List (List T)) (a1 : List (List T)) (js : List Nat) (j : Nat) (s : St) : Option Outs := iter E (LB E (evalF E P0 k) k [] N.laws_eqIntS [.sr, .sr, .sl, .sr, .bl]) [] laws_eqIntS_k1 (LK E (evalF E P0 k) k [] N.laws_eqIntS [.v [.r a0], .v [.r a1]] [.sr, .sr, .sl, .sr, .bl] js) j s
theorem laws_eqIntS_e (k : Nat) (a0 : List (List T)) (a1 : List (List T)) : evalF E P0 (k + 1) N.laws_eqIntS [.v [.r a0], .v [.r a1]] = laws_eqIntS_u k a0 a1 := by
  have e0 : evalF E P0 (k + 1) N.laws_eqIntS [.v [.r a0], .v [.r a1]] = laws_eqIntS_U k a0 a1 (fun v => laws_eqIntS_it1 k a0 a1 [] k (laws_eqIntS_S1 a0 a1 v)) := by kernel_rfl
  have e1 : ∀ (j1 : Nat) (v : Int), laws_eqIntS_it1 k a0 a1 [] (j1 + 1) (laws_eqIntS_S1 a0 a1 v) = laws_eqIntS_L1 k a0 a1 (fun v => laws_eqIntS_it1 k a0 a1 [] j1 (laws_eqIntS_S1 a0 a1 v)) v := by
    intro j1 v; kernel_rfl
  have i1 : ∀ (j1 : Nat) (v : Int), laws_eqIntS_it1 k a0 a1 [] j1 (laws_eqIntS_S1 a0 a1 v) = fixN (laws_eqIntS_l1 k a0 a1) j1 v := by
    intro j1 v
    refine iter_fix (laws_eqIntS_S1 a0 a1) (laws_eqIntS_l1 k a0 a1) (fun j1 v => (e1 j1 v).trans ?_) j1 v
    unfold laws_eqIntS_l1
    rfl
  rw [e0]; unfold laws_eqIntS_u
  simp only [i1]
def laws_eqIntSS_L1 (k : Nat) (a0 : List (List T)) (a1 : List (List T)) (G1 : (Int) → Option Outs) : (Int) → Option Outs := fun v8 =>
 bif (decide (v8 < (a0.length : Int))) then
  chk (decide (0 ≤ v8) && decide (v8 < (a0.length : Int))) <|
  chk (decide (0 ≤ v8) && decide (v8 < (a1.length : Int))) <|
  bindO (evalF E P0 k N.laws_eqIntS [.v [.r (at_ a0 v8.toNat 0).asR], .v [.r (at_ a1 v8.toNat 0).asR]]) fun o96 =>
  bif (!(o96.t 0).asB) then some ⟨[.b false], []⟩ else G1 (IntKind.wrap .i64 (v8 + 1))
 else
  some ⟨[.b true], []⟩
def laws_eqIntSS_k1 : List Nat := [0, 1, 4, 5]
def laws_eqIntSS_S1 (a0 : List (List T)) (a1 : List (List T)) : (Int) → St := fun v8 => ⟨ofSl [(0, .sl 34 a0), (1, .sl 34 a1), (4, .b false), (5, .i .i64 v8)], ofMem []⟩
def laws_eqIntSS_l1 (k : Nat) (a0 : List (List T)) (a1 : List (List T)) (G1 : (Int) → Option Outs) : (Int) → Option Outs :=
  laws_eqIntSS_L1 k a0 a1 G1
def laws_eqIntSS_U (k : Nat) (a0 : List (List T)) (a1 : List (List T)) (R1 : (Int) → Option Outs) : Option Outs :=
 bif ((a0.length : Int) != (a1.length : Int)) then some ⟨[.b false], []⟩ else R1 0
def laws_eqIntSS_u (k : Nat) (a0 : List (List T)) (a1 : List (List T)) : Option Outs :=
  laws_eqIntSS_U k a0 a1 (fun v => fixN (laws_eqIntSS_l1 k a0 a1) k v)
def laws_eqIntSS_it1 (k : Nat) (a0 : List (List T)) (a1 : List (List T)) (js : List Nat) (j : Nat) (s : St) : Option Outs := iter E (LB E (evalF E P0 k) k [] N.laws_eqIntSS [.sr, .sr, .sl, .sr, .bl]) [] laws_eqIntSS_k1 (LK E (evalF E P0 k) k [] N.laws_eqIntSS [.v [.r a0], .v [.r a1]] [.sr, .sr, .sl, .sr, .bl] js) j s
theorem laws_eqIntSS_e (k : Nat) (a0 : List (List T)) (a1 : List (List T)) : evalF E P0 (k + 1) N.laws_eqIntSS [.v [.r a0], .v [.r a1]] = laws_eqIntSS_u k a0 a1 := by
  have e0 : evalF E P0 (k + 1) N.laws_eqIntSS [.v [.r a0], .v [.r a1]] = laws_eqIntSS_U k a0 a1 (fun v => laws_eqIntSS_it1 k a0 a1 [] k (laws_eqIntSS_S1 a0 a1 v)) := by kernel_rfl
  have e1 : ∀ (j1 : Nat) (v : Int), laws_eqIntSS_it1 k a0 a1 [] (j1 + 1) (laws_eqIntSS_S1 a0 a1 v) = laws_eqIntSS_L1 k a0 a1 (fun v => laws_eqIntSS_it1 k a0 a1 [] j1 (laws_eqIntSS_S1 a0 a1 v)) v := by
    intro j1 v; kernel_rfl
  have i1 : ∀ (j1 : Nat) (v : Int), laws_eqIntSS_it1 k a0 a1 [] j1 (laws_eqIntSS_S1 a0 a1 v) = fixN (laws_eqIntSS_l1 k a0 a1) j1 v := by
    intro j1 v
    refine iter_fix (laws_eqIntSS_S1 a0 a1) (laws_eqIntSS_l1 k a0 a1) (fun j1 v => (e1 j1 v).trans ?_) j1 v
    unfold laws_eqIntSS_l1
    rfl
  rw [e0]; unfold laws_eqIntSS_u
  simp only [i1]
def laws_eqWr_u (k : Nat) (a0_0 : Int) (a0_1 : List (List T)) (a1_0 : Int) (a1_1 : List (List T)) : Option Outs :=
 bif (a0_0 != a1_0) then
  some ⟨[.b false], []⟩
 else
  bindO (evalF E P0 k N.laws_eqIntS [.v [.r a0_1], .v [.r a1_1]]) fun o2 =>
  bif (!(o2.t 0).asB) then some ⟨[.b false], []⟩ else some ⟨[.b true], []⟩
theorem laws_eqWr_e (k : Nat) (a0_0 : Int) (a0_1 : List (List T)) (a1_0 : Int) (a1_1 : List (List T)) : evalF E P0 (k + 1) N.laws_eqWr [.v [.i a0_0, .r a0_1], .v [.i a1_0, .r a1_1]] = laws_eqWr_u k a0_0 a0_1 a1_0 a1_1 := by kernel_rfl
def laws_eqWrS_L1 (k : Nat) (a0 : List (List T)) (a1 : List (List T)) (G1 : (Int) → Option Outs) : (Int) → Option Outs := fun v8 =>
 bif (decide (v8 < (a0.length : Int))) then
  chk (decide (0 ≤ v8) && decide (v8 < (a0.length : Int))) <|
  chk (decide (0 ≤ v8) && decide (v8 < (a1.length : Int))) <|
  bindO (evalF E P0 k N.laws_eqWr [.v [.i (at_ a0 v8.toNat 0).asI, .r (at_ a0 v8.toNat 1).asR], .v [.i (at_ a1 v8.toNat 0).asI, .r (at_ a1 v8.toNat 1).asR]]) fun o96 =>
  bif (!(o96.t 0).asB) then some ⟨[.b false], []⟩ else G1 (IntKind.wrap .i64 (v8 + 1))
 else
  some ⟨[.b true], []⟩
def laws_eqWrS_k1 : List Nat := [0, 1, 4, 5]
def laws_eqWrS_S1 (a0 : List (List T)) (a1 : List (List T)) : (Int) → St := fun v8 => ⟨ofSl [(0, .sl 184 a0), (1, .sl 184 a1), (4, .b false), (5, .i .i64 v8)], ofMem []⟩
def laws_eqWrS_l1 (k : Nat) (a0 : List (List T)) (a1 : List (List T)) (G1 : (Int) → Option Outs) : (Int) → Option Outs :=
  laws_eqWrS_L1 k a0 a1 G1
def laws_eqWrS_U (k : Nat) (a0 : List (List T)) (a1 : List (List T)) (R1 : (Int) → Option Outs) : Option Outs :=
 bif ((a0.length : Int) != (a1.length : Int)) then some ⟨[.b false], []⟩ else R1 0
def laws_eqWrS_u (k : Nat) (a0 : List (List T)) (a1 : List (List T)) : Option Outs :=
  laws_eqWrS_U k a0 a1 (fun v => fixN (laws_eqWrS_l1 k a0 a1) k v)
def laws_eqWrS_it1 (k : Nat) (a0 : List (List T)) (a1 : List (List T)) (js : List Nat) (j : Nat) (s : St) : Option Outs := iter E (LB E (evalF E P0 k) k [] N.laws_eqWrS [.sr, .sr, .sl, .sr, .bl]) [] laws_eqWrS_k1 (LK E (evalF E P0 k) k [] N.laws_eqWrS [.v [.r a0], .v [.r a1]] [.sr, .sr, .sl, .sr, .bl] js) j s
theorem laws_eqWrS_e (k : Nat) (a0 : List (List T)) (a1 : List (List T)) : evalF E P0 (k + 1) N.laws_eqWrS [.v [.r a0], .v [.r a1]] = laws_eqWrS_u k a0 a1 := by
  have e0 : evalF E P0 (k + 1) N.laws_eqWrS [.v [.r a0], .v [.r a1]] = laws_eqWrS_U k a0 a1 (fun v => laws_eqWrS_it1 k a0 a1 [] k (laws_eqWrS_S1 a0 a1 v)) := by kernel_rfl
  have e1 : ∀ (j1 : Nat) (v : Int), laws_eqWrS_it1 k a0 a1 [] (j1 + 1) (laws_eqWrS_S1 a0 a1 v) = laws_eqWrS_L1 k a0 a1 (fun v => laws_eqWrS_it1 k a0 a1 [] j1 (laws_eqWrS_S1 a0 a1 v)) v := by
    intro j1 v; kernel_rfl
  have i1 : ∀ (j1 : Nat) (v : Int), laws_eqWrS_it1 k a0 a1 [] j1 (laws_eqWrS_S1 a0 a1 v) = fixN (laws_eqWrS_l1 k a0 a1) j1 v := by
    intro j1 v
    refine iter_fix (laws_eqWrS_S1 a0 a1) (laws_eqWrS_l1 k a0 a1) (fun j1 v => (e1 j1 v).trans ?_) j1 v
    unfold laws_eqWrS_l1
    rfl
  rw [e0]; unfold laws_eqWrS_u
  simp only [i1]
def laws_eqMem_u (k : Nat) (a0_0 : List (List T)) (a0_1 : List (List T)) (a0_2 : Bool) (a0_3 : List (List T)) (a1_0 : List (List T)) (a1_1 : List (List T)) (a1_2 : Bool) (a1_3 : List (List T)) : Option Outs :=
 bindO (evalF E P0 k N.laws_eqIntSS [.v [.r a0_0], .v [.r a1_0]]) fun o2 =>
 bif (!(o2.t 0).asB) then
  some ⟨[.b false], []⟩
 else
  bindO (evalF E P0 k N.laws_eqWrS [.v [.r a0_1], .v [.r a1_1]]) fun o4 =>
  bif (!(o4.t 0).asB) then
   some ⟨[.b false], []⟩
  else
   bif (!(a0_2 == a1_2)) then
    some ⟨[.b false], []⟩
   else
    bindO (evalF E P0 k N.laws_eqIntS [.v [.r a0_3], .v [.r a1_3]]) fun o6 =>
    bif (!(o6.t 0).asB) then some ⟨[.b false], []⟩ else some ⟨[.b true], []⟩
theorem laws_eqMem_e (k : Nat) (a0_0 : List (List T)) (a0_1 : List (List T)) (a0_2 : Bool) (a0_3 : List (List T)) (a1_0 : List (List T)) (a1_1 : List (List T)) (a1_2 : Bool) (a1_3 : List (List T)) : evalF E P0 (k + 1) N.laws_eqMem [.v [.r a0_0, .r a0_1, .b a0_2, .r a0_3], .v [.r a1_0, .r a1_1, .b a1_2, .r a1_3]] = laws_eqMem_u k a0_0 a0_1 a0_2 a0_3 a1_0 a1_1 a1_2 a1_3 := by kernel_rfl
def laws_eqMemS_L1 (k : Nat) (a0 : List (List T)) (a1 : List (List T)) (G1 : (Int) → Option Outs) : (Int) → Option Outs := fun v8 =>
 bif (decide (v8 < (a0.length : Int))) then
  chk (decide (0 ≤ v8) && decide (v8 < (a0.length : Int))) <|
  chk (decide (0 ≤ v8) && decide (v8 < (a1.length : Int))) <|
  bindO (evalF E P0 k N.laws_eqMem [.v [.r (at_ a0 v8.toNat 0).asR, .r (at_ a0 v8.toNat 1).asR, .b (at_ a0 v8.toNat 2).asB, .r (at_ a0 v8.toNat 3).asR], .v [.r (at_ a1 v8.toNat 0).asR, .r (at_ a1 v8.toNat 1).asR, .b (at_ a1 v8.toNat 2).asB, .r (at_ a1 v8.toNat 3).asR]]) fun o96 =>
  bif (!(o96.t 0).asB) then some ⟨[.b false], []⟩ else G1 (IntKind.wrap .i64 (v8 + 1))
 else
  some ⟨[.b true], []⟩
def laws_eqMemS_k1 : List Nat := [0, 1, 4, 5]
def laws_eqMemS_S1 (a0 : List (List T)) (a1 : List (List T)) : (Int) → St := fun v8 => ⟨ofSl [(0, .sl 160 a0), (1, .sl 160 a1), (4, .b false), (5, .i .i64 v8)], ofMem []⟩
def laws_eqMemS_l1 (k : Nat) (a0 : List (List T)) (a1 : List (List T)) (G1 : (Int) → Option Outs) : (Int) → Option Outs :=
  laws_eqMemS_L1 k a0 a1 G1
def laws_eqMemS_U (k : Nat) (a0 : List (List T)) (a1 : List (List T)) (R1 : (Int) → Option Outs) : Option Outs :=
 bif ((a0.length : Int) != (a1.length : Int)) then some ⟨[.b false], []⟩ else R1 0
def laws_eqMemS_u (k : Nat) (a0 : List (List T)) (a1 : List (List T)) : Option Outs :=
  laws_eqMemS_U k a0 a1 (fun v => fixN (laws_eqMemS_l1 k a0 a1) k v)
def laws_eqMemS_it1 (k : Nat) (a0 : List (List T)) (a1 : List (List T)) (js : List Nat) (j : Nat) (s : St) : Option Outs := iter E (LB E (evalF E P0 k) k [] N.laws_eqMemS [.sr, .sr, .sl, .sr, .bl]) [] laws_eqMemS_k1 (LK E (evalF E P0 k) k [] N.laws_eqMemS [.v [.r a0], .v [.r a1]] [.sr, .sr, .sl, .sr, .bl] js) j s
theorem laws_eqMemS_e (k : Nat) (a0 : List (List T)) (a1 : List (List T)) : evalF E P0 (k + 1) N.laws_eqMemS [.v [.r a0], .v [.r a1]] = laws_eqMemS_u k a0 a1 := by
  have e0 : evalF E P0 (k + 1) N.laws_eqMemS [.v [.r a0], .v [.r a1]] = laws_eqMemS_U k a0 a1 (fun v => laws_eqMemS_it1 k a0 a1 [] k (laws_eqMemS_S1 a0 a1 v)) := by kernel_rfl
  have e1 : ∀ (j1 : Nat) (v : Int), laws_eqMemS_it1 k a0 a1 [] (j1 + 1) (laws_eqMemS_S1 a0 a1 v) = laws_eqMemS_L1 k a0 a1 (fun v => laws_eqMemS_it1 k a0 a1 [] j1 (laws_eqMemS_S1 a0 a1 v)) v := by
    intro j1 v; kernel_rfl
  have i1 : ∀ (j1 : Nat) (v : Int), laws_eqMemS_it1 k a0 a1 [] j1 (laws_eqMemS_S1 a0 a1 v) = fixN (laws_eqMemS_l1 k a0 a1) j1 v := by
    intro j1 v
    refine iter_fix (laws_eqMemS_S1 a0 a1) (laws_eqMemS_l1 k a0 a1) (fun j1 v => (e1 j1 v).trans ?_) j1 v
    unfold laws_eqMemS_l1
    rfl
  rw [e0]; unfold laws_eqMemS_u
  simp only [i1]
def laws_eqEnt_u (k : Nat) (a0_0 : Int) (a0_1 : List (List T)) (a1_0 : Int) (a1_1 : List (List T)) : Option Outs :=
 bif (a0_0 != a1_0) then
  some ⟨[.b false], []⟩
 else
  bindO (evalF E P0 k N.laws_eqIntS [.v [.r a0_1], .v [.r a1_1]]) fun o2 =>
  bif (!(o2.t 0).asB) then some ⟨[.b false], []⟩ else some ⟨[.b true], []⟩
theorem laws_eqEnt_e (k : Nat) (a0_0 : Int) (a0_1 : List (List T)) (a1_0 : Int) (a1_1 : List (List T)) : evalF E P0 (k + 1) N.laws_eqEnt [.v [.i a0_0, .r a0_1], .v [.i a1_0, .r a1_1]] = laws_eqEnt_u k a0_0 a0_1 a1_0 a1_1 := by kernel_rfl
def laws_eqEntS_L1 (k : Nat) (a0 : List (List T)) (a1 : List (List T)) (G1 : (Int) → Option Outs) : (Int) → Option Outs := fun v8 =>
 bif (decide (v8 < (a0.length : Int))) then
  chk (decide (0 ≤ v8) && decide (v8 < (a0.length : Int))) <|
  chk (decide (0 ≤ v8) && decide (v8 < (a1.length : Int))) <|
  bindO (evalF E P0 k N.laws_eqEnt [.v [.i (at_ a0 v8.toNat 0).asI, .r (at_ a0 v8.toNat 1).asR], .v [.i (at_ a1 v8.toNat 0).asI, .r (at_ a1 v8.toNat 1).asR]]) fun o96 =>
  bif (!(o96.t 0).asB) then some ⟨[.b false], []⟩ else G1 (IntKind.wrap .i64 (v8 + 1))
 else
  some ⟨[.b true], []⟩
def laws_eqEntS_k1 : List Nat := [0, 1, 4, 5]
def laws_eqEntS_S1 (a0 : List (List T)) (a1 : List (List T)) : (Int) → St := fun v8 => ⟨ofSl [(0, .sl 162 a0), (1, .sl 162 a1), (4, .b false), (5, .i .i64 v8)], ofMem []⟩
def laws_eqEntS_l1 (k : Nat) (a0 : List (List T)) (a1 : List (List T)) (G1 : (Int) → Option Outs) : (Int) → Option Outs :=
  laws_eqEntS_L1 k a0 a1 G1
def laws_eqEntS_U (k : Nat) (a0 : List (List T)) (a1 : List (List T)) (R1 : (Int) → Option Outs) : Option Outs :=
 bif ((a0.length : Int) != (a1.length : Int)) then some ⟨[.b false], []⟩ else R1 0
def laws_eqEntS_u (k : Nat) (a0 : List (List T)) (a1 : List (List T)) : Option Outs :=
  laws_eqEntS_U k a0 a1 (fun v => fixN (laws_eqEntS_l1 k a0 a1) k v)
def laws_eqEntS_it1 (k : Nat) (a0 : List (List T)) (a1 : List (List T)) (js : List Nat) (j : Nat) (s : St) : Option Outs := iter E (LB E (evalF E P0 k) k [] N.laws_eqEntS [.sr, .sr, .sl, .sr, .bl]) [] laws_eqEntS_k1 (LK E (evalF E P0 k) k [] N.laws_eqEntS [.v [.r a0], .v [.r a1]] [.sr, .sr, .sl, .sr, .bl] js) j s
theorem laws_eqEntS_e (k : Nat) (a0 : List (List T)) (a1 : List (List T)) : evalF E P0 (k + 1) N.laws_eqEntS [.v [.r a0], .v [.r a1]] = laws_eqEntS_u k a0 a1 := by
  have e0 : evalF E P0 (k + 1) N.laws_eqEntS [.v [.r a0], .v [.r a1]] = laws_eqEntS_U k a0 a1 (fun v => laws_eqEntS_it1 k a0 a1 [] k (laws_eqEntS_S1 a0 a1 v)) := by kernel_rfl
  have e1 : ∀ (j1 : Nat) (v : Int), laws_eqEntS_it1 k a0 a1 [] (j1 + 1) (laws_eqEntS_S1 a0 a1 v) = laws_eqEntS_L1 k a0 a1 (fun v => laws_eqEntS_it1 k a0 a1 [] j1 (laws_eqEntS_S1 a0 a1 v)) v := by
    intro j1 v; kernel_rfl
  have i1 : ∀ (j1 : Nat) (v : Int), laws_eqEntS_it1 k a0 a1 [] j1 (laws_eqEntS_S1 a0 a1 v) = fixN (laws_eqEntS_l1 k a0 a1) j1 v := by
    intro j1 v
    refine iter_fix (laws_eqEntS_S1 a0 a1) (laws_eqEntS_l1 k a0 a1) (fun j1 v => (e1 j1 v).trans ?_) j1 v
    unfold laws_eqEntS_l1
    rfl
  rw [e0]; unfold laws_eqEntS_u
  simp only [i1]
def laws_eqArr_u (k : Nat) (a0_0 : Int) (a0_1 : Int) (a0_2 : Int) (a0_3 : List (List T)) (a0_4 : Int) (a0_5 : Int) (a0_6 : Int) (a0_7 : Int) (a0_8 : Int) (a0_9 : List (List T)) (a0_10 : Int) (a0_11 : Bool) (a0_12 : Bool) (a1_0 : Int) (a1_1 : Int) (a1_2 : Int) (a1_3 : List (List T)) (a1_4 : Int) (a1_5 : Int) (a1_6 : Int) (a1_7 : Int) (a1_8 : Int) (a1_9 : List (List T)) (a1_10 : Int) (a1_11 : Bool) (a1_12 : Bool) : Option Outs :=
 bif (a0_0 != a1_0) then
  some ⟨[.b false], []⟩
 else
  bindO (evalF E P0 k N.laws_eqGeo [.v [.i a0_1, .i a0_2], .v [.i a1_1, .i a1_2]]) fun o2 =>
  bif (!(o2.t 0).asB) then
   some ⟨[.b false], []⟩
  else
   bindO (evalF E P0 k N.laws_eqMemS [.v [.r a0_3], .v [.r a1_3]]) fun o4 =>
   bif (!(o4.t 0).asB) then
    some ⟨[.b false], []⟩
   else
    bif (a0_4 != a1_4) then
     some ⟨[.b false], []⟩
    else
     bif (a0_5 != a1_5) then
      some ⟨[.b false], []⟩
     else
      bif (a0_6 != a1_6) then
       some ⟨[.b false], []⟩
      else
       bif (a0_7 != a1_7) then
        some ⟨[.b false], []⟩
       else
        bif (a0_8 != a1_8) then
         some ⟨[.b false], []⟩
        else
         bindO (evalF E P0 k N.laws_eqEntS [.v [.r a0_9], .v [.r a1_9]]) fun o6 =>
         bif (!(o6.t 0).asB) then
          some ⟨[.b false], []⟩
         else
          bif (a0_10 != a1_10) then
           some ⟨[.b false], []⟩
          else
           bif (!(a0_11 == a1_11)) then
            some ⟨[.b false], []⟩
           else
            bif (!(a0_12 == a1_12)) then some ⟨[.b false], []⟩ else some ⟨[.b true], []⟩
theorem laws_eqArr_e (k : Nat) (a0_0 : Int) (a0_1 : Int) (a0_2 : Int) (a0_3 : List (List T)) (a0_4 : Int) (a0_5 : Int) (a0_6 : Int) (a0_7 : Int) (a0_8 : Int) (a0_9 : List (List T)) (a0_10 : Int) (a0_11 : Bool) (a0_12 : Bool) (a1_0 : Int) (a1_1 : Int) (a1_2 : Int) (a1_3 : List (List T)) (a1_4 : Int) (a1_5 : Int) (a1_6 : Int) (a1_7 : Int) (a1_8 : Int) (a1_9 : List (List T)) (a1_10 : Int) (a1_11 : Bool) (a1_12 : Bool) : evalF E P0 (k + 1) N.laws_eqArr [.v [.i a0_0, .i a0_1, .i a0_2, .r a0_3, .i a0_4, .i a0_5, .i a0_6, .i a0_7, .i a0_8, .r a0_9, .i a0_10, .b a0_11, .b a0_12], .v [.i a1_0, .i a1_1, .i a1_2, .r a1_3, .i a1_4, .i a1_5, .i a1_6, .i a1_7, .i a1_8, .r a1_9, .i a1_10, .b a1_11, .b a1_12]] = laws_eqArr_u k a0_0 a0_1 a0_2 a0_3 a0_4 a0_5 a0_6 a0_7 a0_8 a0_9 a0_10 a0_11 a0_12 a1_0 a1_1 a1_2 a1_3 a1_4 a1_5 a1_6 a1_7 a1_8 a1_9 a1_10 a1_11 a1_12 := by kernel_rfl
def laws_eqCmd_u (k : Nat) (a0_0 : Int) (a0_1 : Int) (a0_2 : Int) (a0_3 : Int) (a0_4 : List (List T)) (a1_0 : Int) (a1_1 : Int) (a1_2 : Int) (a1_3 : Int) (a1_4 : List (List T)) : Option Outs :=
 bif (a0_0 != a1_0) then
  some ⟨[.b false], []⟩
 else
  bif (a0_1 != a1_1) then
   some ⟨[.b false], []⟩
  else
   bif (a0_2 != a1_2) then
    some ⟨[.b false], []⟩
   else
    bif (a0_3 != a1_3) then
     some ⟨[.b false], []⟩
    else
     bindO (evalF E P0 k N.laws_eqIntS [.v [.r a0_4], .v [.r a1_4]]) fun o2 =>
     bif (!(o2.t 0).asB) then some ⟨[.b false], []⟩ else some ⟨[.b true], []⟩
theorem laws_eqCmd_e (k : Nat) (a0_0 : Int) (a0_1 : Int) (a0_2 : Int) (a0_3 : Int) (a0_4 : List (List T)) (a1_0 : Int) (a1_1 : Int) (a1_2 : Int) (a1_3 : Int) (a1_4 : List (List T)) : evalF E P0 (k + 1) N.laws_eqCmd [.v [.i a0_0, .i a0_1, .i a0_2, .i a0_3, .r a0_4], .v [.i a1_0, .i a1_1, .i a1_2, .i a1_3, .r a1_4]] = laws_eqCmd_u k a0_0 a0_1 a0_2 a0_3 a0_4 a1_0 a1_1 a1_2 a1_3 a1_4 := by kernel_rfl
def laws_eqCmdS_L1 (k : Nat) (a0 : List (List T)) (a1 : List (List T)) (G1 : (Int) → Option Outs) : (Int) → Option Outs := fun v8 =>
 bif (decide (v8 < (a0.length : Int))) then
  chk (decide (0 ≤ v8) && decide (v8 < (a0.length : Int))) <|
  chk (decide (0 ≤ v8) && decide (v8 < (a1.length : Int))) <|
  bindO (evalF E P0 k N.laws_eqCmd [.v [.i (at_ a0 v8.toNat 0).asI, .i (at_ a0 v8.toNat 1).asI, .i (at_ a0 v8.toNat 2).asI, .i (at_ a0 v8.toNat 3).asI, .r (at_ a0 v8.toNat 4).asR], .v [.i (at_ a1 v8.toNat 0).asI, .i (at_ a1 v8.toNat 1).asI, .i (at_ a1 v8.toNat 2).asI, .i (at_ a1 v8.toNat 3).asI, .r (at_ a1 v8.toNat 4).asR]]) fun o96 =>
  bif (!(o96.t 0).asB) then some ⟨[.b false], []⟩ else G1 (IntKind.wrap .i64 (v8 + 1))
 else
  some ⟨[.b true], []⟩
def laws_eqCmdS_k1 : List Nat := [0, 1, 4, 5]
def laws_eqCmdS_S1 (a0 : List (List T)) (a1 : List (List T)) : (Int) → St := fun v8 => ⟨ofSl [(0, .sl 53 a0), (1, .sl 53 a1), (4, .b false), (5, .i .i64 v8)], ofMem []⟩
def laws_eqCmdS_l1 (k : Nat) (a0 : List (List T)) (a1 : List (List T)) (G1 : (Int) → Option Outs) : (Int) → Option Outs :=
  laws_eqCmdS_L1 k a0 a1 G1
def laws_eqCmdS_U (k : Nat) (a0 : List (List T)) (a1 : List (List T)) (R1 : (Int) → Option Outs) : Option Outs :=
 bif ((a0.length : Int) != (a1.length : Int)) then some ⟨[.b false], []⟩ else R1 0
def laws_eqCmdS_u (k : Nat) (a0 : List (List T)) (a1 : List (List T)) : Option Outs :=
  laws_eqCmdS_U k a0 a1 (fun v => fixN (laws_eqCmdS_l1 k a0 a1) k v)
def laws_eqCmdS_it1 (k : Nat) (a0 : List (List T)) (a1 : List (List T)) (js : List Nat) (j : Nat) (s : St) : Option Outs := iter E (LB E (evalF E P0 k) k [] N.laws_eqCmdS [.sr, .sr, .sl, .sr, .bl]) [] laws_eqCmdS_k1 (LK E (evalF E P0 k) k [] N.laws_eqCmdS [.v [.r a0], .v [.r a1]] [.sr, .sr, .sl, .sr, .bl] js) j s
theorem laws_eqCmdS_e (k : Nat) (a0 : List (List T)) (a1 : List (List T)) : evalF E P0 (k + 1) N.laws_eqCmdS [.v [.r a0], .v [.r a1]] = laws_eqCmdS_u k a0 a1 := by
  have e0 : evalF E P0 (k + 1) N.laws_eqCmdS [.v [.r a0], .v [.r a1]] = laws_eqCmdS_U k a0 a1 (fun v => laws_eqCmdS_it1 k a0 a1 [] k (laws_eqCmdS_S1 a0 a1 v)) := by kernel_rfl
  have e1 : ∀ (j1 : Nat) (v : Int), laws_eqCmdS_it1 k a0 a1 [] (j1 + 1) (laws_eqCmdS_S1 a0 a1 v) = laws_eqCmdS_L1 k a0 a1 (fun v => laws_eqCmdS_it1 k a0 a1 [] j1 (laws_eqCmdS_S1 a0 a1 v)) v := by
    intro j1 v; kernel_rfl
  have i1 : ∀ (j1 : Nat) (v : Int), laws_eqCmdS_it1 k a0 a1 [] j1 (laws_eqCmdS_S1 a0 a1 v) = fixN (laws_eqCmdS_l1 k a0 a1) j1 v := by
    intro j1 v
    refine iter_fix (laws_eqCmdS_S1 a0 a1) (laws_eqCmdS_l1 k a0 a1) (fun j1 v => (e1 j1 v).trans ?_) j1 v
    unfold laws_eqCmdS_l1
    rfl
  rw [e0]; unfold laws_eqCmdS_u
  simp only [i1]
end
end Go.Proofs.YtjgmiilapnekfaaGreat.Ev
