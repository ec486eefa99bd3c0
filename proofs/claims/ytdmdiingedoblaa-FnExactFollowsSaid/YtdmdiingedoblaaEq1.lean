/- What functions answer under the evaluator, as Lean terms, part 1. No condition. -/
import Derived.Test.YtdmdiingedoblaaTab
namespace Go.Proofs.Ytdmdiingedoblaa.Ev
open Go Go.Proofs
set_option linter.unusedVariables false
set_option maxRecDepth 100000
set_option maxHeartbeats 4000000
noncomputable section
/- spec.ArrOk -/
def spec_ArrOk_J2 (k : Nat) (a0_6 : Int) (a0_7 : Int) (a0_8 : Int) (a0_10 : Int) (c2 : Bool) : Option Outs :=
 bif c2 then
  some ⟨[.b false], []⟩
 else
  bindO (evalF E P0 k N.spec_l1In [.v [.i a0_7], .v [.i 0], .v [.i 60000]]) fun o13 =>
  bif (o13.t 0).asB then
   bindO (evalF E P0 k N.spec_l1In [.v [.i a0_6], .v [.i a0_7], .v [.i 60000]]) fun o14 =>
   bif (o14.t 0).asB then
    bif (decide (a0_6 ≤ (IntKind.wrap .i64 (a0_7 + 4)))) then
     bindO (evalF E P0 k N.spec_l1In [.v [.i a0_8], .v [.i 0], .v [.i 60000]]) fun o15 =>
     bif (o15.t 0).asB then
      bindO (evalF E P0 k N.spec_l1In [.v [.i a0_10], .v [.i (-1)], .v [.i 1000]]) fun o16 =>
      some ⟨[.b (o16.t 0).asB], []⟩
     else
      some ⟨[.b false], []⟩
    else
     some ⟨[.b false], []⟩
   else
    some ⟨[.b false], []⟩
  else
   some ⟨[.b false], []⟩
def spec_ArrOk_J1 (k : Nat) (a0_1 : Int) (a0_2 : Int) (a0_4 : Int) (a0_5 : Int) (a0_6 : Int) (a0_7 : Int) (a0_8 : Int) (a0_10 : Int) (c1 : Bool) : Option Outs :=
 bif c1 then
  some ⟨[.b false], []⟩
 else
  bindO (evalF E P0 k N.spec_l1In [.v [.i a0_4], .v [.i (-1)], .v [.i (IntKind.wrap .i64 (a0_1 - 1))]]) fun o8 =>
  bif (!(o8.t 0).asB) then
   spec_ArrOk_J2 k a0_6 a0_7 a0_8 a0_10 true
  else
   bindO (evalF E P0 k N.spec_l1In [.v [.i a0_5], .v [.i 0], .v [.i a0_2]]) fun o17 =>
   bif (!(o17.t 0).asB) then
    spec_ArrOk_J2 k a0_6 a0_7 a0_8 a0_10 true
   else
    bif (a0_4 == (-1)) then
     spec_ArrOk_J2 k a0_6 a0_7 a0_8 a0_10 (a0_5 != 0)
    else
     spec_ArrOk_J2 k a0_6 a0_7 a0_8 a0_10 false
def spec_ArrOk_u (k : Nat) (a0_0 : Int) (a0_1 : Int) (a0_2 : Int) (a0_3 : List (List T)) (a0_4 : Int) (a0_5 : Int) (a0_6 : Int) (a0_7 : Int) (a0_8 : Int) (a0_9 : List (List T)) (a0_10 : Int) (a0_11 : Bool) (a0_12 : Bool) : Option Outs :=
 bindO (evalF E P0 k N.spec_GeoOk [.v [.i a0_1, .i a0_2]]) fun o5 =>
 bif (!(o5.t 0).asB) then
  spec_ArrOk_J1 k a0_1 a0_2 a0_4 a0_5 a0_6 a0_7 a0_8 a0_10 true
 else
  bindO (evalF E P0 k N.spec_l1In [.v [.i a0_0], .v [.i 1], .v [.i 60000]]) fun o18 =>
  bif (!(o18.t 0).asB) then
   spec_ArrOk_J1 k a0_1 a0_2 a0_4 a0_5 a0_6 a0_7 a0_8 a0_10 true
  else
   bindO (evalF E P0 k N.spec_l6Mems [.v [.i a0_0, .i a0_1, .i a0_2, .r a0_3, .i a0_4, .i a0_5, .i a0_6, .i a0_7, .i a0_8, .r a0_9, .i a0_10, .b a0_11, .b a0_12]]) fun o19 =>
   bif (!(o19.t 0).asB) then
    spec_ArrOk_J1 k a0_1 a0_2 a0_4 a0_5 a0_6 a0_7 a0_8 a0_10 true
   else
    bindO (evalF E P0 k N.spec_l6Dirty [.v [.i a0_0, .i a0_1, .i a0_2, .r a0_3, .i a0_4, .i a0_5, .i a0_6, .i a0_7, .i a0_8, .r a0_9, .i a0_10, .b a0_11, .b a0_12]]) fun o20 =>
    spec_ArrOk_J1 k a0_1 a0_2 a0_4 a0_5 a0_6 a0_7 a0_8 a0_10 (!(o20.t 0).asB)
theorem spec_ArrOk_e (k : Nat) (a0_0 : Int) (a0_1 : Int) (a0_2 : Int) (a0_3 : List (List T)) (a0_4 : Int) (a0_5 : Int) (a0_6 : Int) (a0_7 : Int) (a0_8 : Int) (a0_9 : List (List T)) (a0_10 : Int) (a0_11 : Bool) (a0_12 : Bool) : evalF E P0 (k + 1) N.spec_ArrOk [.v [.i a0_0, .i a0_1, .i a0_2, .r a0_3, .i a0_4, .i a0_5, .i a0_6, .i a0_7, .i a0_8, .r a0_9, .i a0_10, .b a0_11, .b a0_12]] = spec_ArrOk_u k a0_0 a0_1 a0_2 a0_3 a0_4 a0_5 a0_6 a0_7 a0_8 a0_9 a0_10 a0_11 a0_12 := by kernel_rfl
/- spec.EngOk -/
def spec_EngOk_L1 (k : Nat) (a0_0 : Int) (a0_1 : Int) (a0_2 : Int) (a0_3 : List (List T)) (a0_4 : Int) (a0_5 : Int) (a0_6 : Int) (a0_7 : Int) (a0_8 : Int) (a0_9 : List (List T)) (a0_10 : Int) (a0_11 : Bool) (a0_12 : Bool) (a0_13 : List (List T)) (a0_14 : List (List T)) (a0_15 : List (List T)) (a0_16 : List (List T)) (G1 : (Int) → Option Outs) : (Int) → Option Outs := fun v8 =>
 bif (decide (v8 < (a0_14.length : Int))) then
  bindO (evalF E P0 k N.spec_l15Job [.v [.i a0_0, .i a0_1, .i a0_2, .r a0_3, .i a0_4, .i a0_5, .i a0_6, .i a0_7, .i a0_8, .r a0_9, .i a0_10, .b a0_11, .b a0_12, .r a0_13, .r a0_14, .r a0_15, .r a0_16], .v [.i v8]]) fun o96 =>
  bif (!(o96.t 0).asB) then some ⟨[.b false], []⟩ else G1 (IntKind.wrap .i64 (v8 + 1))
 else
  bindO (evalF E P0 k N.spec_ArrOk [.v [.i a0_0, .i a0_1, .i a0_2, .r a0_3, .i a0_4, .i a0_5, .i a0_6, .i a0_7, .i a0_8, .r a0_9, .i a0_10, .b a0_11, .b a0_12]]) fun o98 =>
  bif (o98.t 0).asB then
   bif (decide ((a0_13.length : Int) ≤ 8)) then
    bif (decide ((a0_14.length : Int) ≤ 4)) then
     bif (decide ((a0_15.length : Int) ≤ 8)) then
      some ⟨[.b (decide ((a0_16.length : Int) ≤ 400))], []⟩
     else
      some ⟨[.b false], []⟩
    else
     some ⟨[.b false], []⟩
   else
    some ⟨[.b false], []⟩
  else
   some ⟨[.b false], []⟩
def spec_EngOk_k1 : List Nat := [1, 2, 3, 15, 16, 17, 18, 19, 20, 21, 22, 23, 24, 25, 26, 27, 28, 29, 30, 31, 32, 33, 34, 35, 36, 37, 38, 39, 40, 41]
def spec_EngOk_S1 (a0_0 : Int) (a0_1 : Int) (a0_2 : Int) (a0_3 : List (List T)) (a0_4 : Int) (a0_5 : Int) (a0_6 : Int) (a0_7 : Int) (a0_8 : Int) (a0_9 : List (List T)) (a0_10 : Int) (a0_11 : Bool) (a0_12 : Bool) (a0_13 : List (List T)) (a0_14 : List (List T)) (a0_15 : List (List T)) (a0_16 : List (List T)) : (Int) → St := fun v8 => ⟨ofSl [(1, .ptr (1, 0) 0), (2, .b false), (3, .i .i64 v8), (15, .skip), (16, .skip), (17, .skip), (18, .skip), (19, .skip), (20, .skip), (21, .skip), (22, .skip), (23, .skip), (24, .skip), (25, .skip), (26, .skip), (27, .skip), (28, .skip), (29, .skip), (30, .skip), (31, .skip), (32, .skip), (33, .skip), (34, .skip), (35, .skip), (36, .skip), (37, .skip), (38, .skip), (39, .skip), (40, .skip), (41, .skip)], ofMem [((1, 0), .var [.i .i64 a0_0, .i .i64 a0_1, .i .i64 a0_2, .sl 143 a0_3, .i .i64 a0_4, .i .i64 a0_5, .i .i64 a0_6, .i .i64 a0_7, .i .i64 a0_8, .sl 155 a0_9, .i .i64 a0_10, .b a0_11, .b a0_12, .sl 31 a0_13, .sl 104 a0_14, .sl 84 a0_15, .sl 86 a0_16])]⟩
def spec_EngOk_l1 (k : Nat) (a0_0 : Int) (a0_1 : Int) (a0_2 : Int) (a0_3 : List (List T)) (a0_4 : Int) (a0_5 : Int) (a0_6 : Int) (a0_7 : Int) (a0_8 : Int) (a0_9 : List (List T)) (a0_10 : Int) (a0_11 : Bool) (a0_12 : Bool) (a0_13 : List (List T)) (a0_14 : List (List T)) (a0_15 : List (List T)) (a0_16 : List (List T)) (G1 : (Int) → Option Outs) : (Int) → Option Outs :=
  spec_EngOk_L1 k a0_0 a0_1 a0_2 a0_3 a0_4 a0_5 a0_6 a0_7 a0_8 a0_9 a0_10 a0_11 a0_12 a0_13 a0_14 a0_15 a0_16 G1
def spec_EngOk_U (k : Nat) (a0_0 : Int) (a0_1 : Int) (a0_2 : Int) (a0_3 : List (List T)) (a0_4 : Int) (a0_5 : Int) (a0_6 : Int) (a0_7 : Int) (a0_8 : Int) (a0_9 : List (List T)) (a0_10 : Int) (a0_11 : Bool) (a0_12 : Bool) (a0_13 : List (List T)) (a0_14 : List (List T)) (a0_15 : List (List T)) (a0_16 : List (List T)) (R1 : (Int) → Option Outs) : Option Outs :=
 R1 0
def spec_EngOk_u (k : Nat) (a0_0 : Int) (a0_1 : Int) (a0_2 : Int) (a0_3 : List (List T)) (a0_4 : Int) (a0_5 : Int) (a0_6 : Int) (a0_7 : Int) (a0_8 : Int) (a0_9 : List (List T)) (a0_10 : Int) (a0_11 : Bool) (a0_12 : Bool) (a0_13 : List (List T)) (a0_14 : List (List T)) (a0_15 : List (List T)) (a0_16 : List (List T)) : Option Outs :=
  spec_EngOk_U k a0_0 a0_1 a0_2 a0_3 a0_4 a0_5 a0_6 a0_7 a0_8 a0_9 a0_10 a0_11 a0_12 a0_13 a0_14 a0_15 a0_16 (fun v => fixN (spec_EngOk_l1 k a0_0 a0_1 a0_2 a0_3 a0_4 a0_5 a0_6 a0_7 a0_8 a0_9 a0_10 a0_11 a0_12 a0_13 a0_14 a0_15 a0_16) k v)
def spec_EngOk_it1 (k : Nat) (a0_0 : Int) (a0_1 : Int) (a0_2 : Int) (a0_3 : List (List T)) (a0_4 : Int) (a0_5 : Int) (a0_6 : Int) (a0_7 : Int) (a0_8 : Int) (a0_9 : List (List T)) (a0_10 : Int) (a0_11 : Bool) (a0_12 : Bool) (a0_13 : List (List T)) (a0_14 : List (List T)) (a0_15 : List (List T)) (a0_16 : List (List T)) (js : List Nat) (j : Nat) (s : St) : Option Outs := iter (LB E (evalF E P0 k) k [] N.spec_EngOk [.sr, .sl, .sr, .bl]) [] spec_EngOk_k1 (LK E (evalF E P0 k) k [] N.spec_EngOk [.v [.i a0_0, .i a0_1, .i a0_2, .r a0_3, .i a0_4, .i a0_5, .i a0_6, .i a0_7, .i a0_8, .r a0_9, .i a0_10, .b a0_11, .b a0_12, .r a0_13, .r a0_14, .r a0_15, .r a0_16]] [.sr, .sl, .sr, .bl] js) j s
theorem spec_EngOk_e (k : Nat) (a0_0 : Int) (a0_1 : Int) (a0_2 : Int) (a0_3 : List (List T)) (a0_4 : Int) (a0_5 : Int) (a0_6 : Int) (a0_7 : Int) (a0_8 : Int) (a0_9 : List (List T)) (a0_10 : Int) (a0_11 : Bool) (a0_12 : Bool) (a0_13 : List (List T)) (a0_14 : List (List T)) (a0_15 : List (List T)) (a0_16 : List (List T)) : evalF E P0 (k + 1) N.spec_EngOk [.v [.i a0_0, .i a0_1, .i a0_2, .r a0_3, .i a0_4, .i a0_5, .i a0_6, .i a0_7, .i a0_8, .r a0_9, .i a0_10, .b a0_11, .b a0_12, .r a0_13, .r a0_14, .r a0_15, .r a0_16]] = spec_EngOk_u k a0_0 a0_1 a0_2 a0_3 a0_4 a0_5 a0_6 a0_7 a0_8 a0_9 a0_10 a0_11 a0_12 a0_13 a0_14 a0_15 a0_16 := by
  have e0 : evalF E P0 (k + 1) N.spec_EngOk [.v [.i a0_0, .i a0_1, .i a0_2, .r a0_3, .i a0_4, .i a0_5, .i a0_6, .i a0_7, .i a0_8, .r a0_9, .i a0_10, .b a0_11, .b a0_12, .r a0_13, .r a0_14, .r a0_15, .r a0_16]] = spec_EngOk_U k a0_0 a0_1 a0_2 a0_3 a0_4 a0_5 a0_6 a0_7 a0_8 a0_9 a0_10 a0_11 a0_12 a0_13 a0_14 a0_15 a0_16 (fun v => spec_EngOk_it1 k a0_0 a0_1 a0_2 a0_3 a0_4 a0_5 a0_6 a0_7 a0_8 a0_9 a0_10 a0_11 a0_12 a0_13 a0_14 a0_15 a0_16 [] k (spec_EngOk_S1 a0_0 a0_1 a0_2 a0_3 a0_4 a0_5 a0_6 a0_7 a0_8 a0_9 a0_10 a0_11 a0_12 a0_13 a0_14 a0_15 a0_16 v)) := by kernel_rfl
  have e1 : ∀ (j1 : Nat) (v : Int), spec_EngOk_it1 k a0_0 a0_1 a0_2 a0_3 a0_4 a0_5 a0_6 a0_7 a0_8 a0_9 a0_10 a0_11 a0_12 a0_13 a0_14 a0_15 a0_16 [] (j1 + 1) (spec_EngOk_S1 a0_0 a0_1 a0_2 a0_3 a0_4 a0_5 a0_6 a0_7 a0_8 a0_9 a0_10 a0_11 a0_12 a0_13 a0_14 a0_15 a0_16 v) = spec_EngOk_L1 k a0_0 a0_1 a0_2 a0_3 a0_4 a0_5 a0_6 a0_7 a0_8 a0_9 a0_10 a0_11 a0_12 a0_13 a0_14 a0_15 a0_16 (fun v => spec_EngOk_it1 k a0_0 a0_1 a0_2 a0_3 a0_4 a0_5 a0_6 a0_7 a0_8 a0_9 a0_10 a0_11 a0_12 a0_13 a0_14 a0_15 a0_16 [] j1 (spec_EngOk_S1 a0_0 a0_1 a0_2 a0_3 a0_4 a0_5 a0_6 a0_7 a0_8 a0_9 a0_10 a0_11 a0_12 a0_13 a0_14 a0_15 a0_16 v)) v := by
    intro j1 v; kernel_rfl
  have i1 : ∀ (j1 : Nat) (v : Int), spec_EngOk_it1 k a0_0 a0_1 a0_2 a0_3 a0_4 a0_5 a0_6 a0_7 a0_8 a0_9 a0_10 a0_11 a0_12 a0_13 a0_14 a0_15 a0_16 [] j1 (spec_EngOk_S1 a0_0 a0_1 a0_2 a0_3 a0_4 a0_5 a0_6 a0_7 a0_8 a0_9 a0_10 a0_11 a0_12 a0_13 a0_14 a0_15 a0_16 v) = fixN (spec_EngOk_l1 k a0_0 a0_1 a0_2 a0_3 a0_4 a0_5 a0_6 a0_7 a0_8 a0_9 a0_10 a0_11 a0_12 a0_13 a0_14 a0_15 a0_16) j1 v := by
    intro j1 v
    refine iter_fix (spec_EngOk_S1 a0_0 a0_1 a0_2 a0_3 a0_4 a0_5 a0_6 a0_7 a0_8 a0_9 a0_10 a0_11 a0_12 a0_13 a0_14 a0_15 a0_16) (spec_EngOk_l1 k a0_0 a0_1 a0_2 a0_3 a0_4 a0_5 a0_6 a0_7 a0_8 a0_9 a0_10 a0_11 a0_12 a0_13 a0_14 a0_15 a0_16) (fun j1 v => (e1 j1 v).trans ?_) j1 v
    unfold spec_EngOk_l1
    rfl
  rw [e0]; unfold spec_EngOk_u
  simp only [i1]
/- impl.jobOk -/
def impl_jobOk_J1 (k : Nat) (a0_0 : Int) (a0_1 : Int) (a1_0 : Int) (a1_1 : Int) (a1_2 : Int) (a1_3 : Int) (a1_4 : List (List T)) (a1_5 : Int) (a1_6 : List (List T)) (c1 : Bool) : Option Outs :=
 bindO (evalF E P0 k N.impl_CmdCode [.v [.i a0_0, .i a0_1], .v [.i a1_0, .i a1_1, .i a1_2, .i a1_3, .r a1_4]]) fun o5 =>
 bif ((o5.t 0).asI == 0) then
  bindO (evalF E P0 k N.impl_within [.v [.i a1_5], .v [.i 0], .v [.i 40]]) fun o6 =>
  bif (o6.t 0).asB then
   bif (decide ((a1_6.length : Int) ≤ 6)) then
    bindO (evalF E P0 k N.impl_wordsOk [.v [.r a1_6]]) fun o7 =>
    bif (o7.t 0).asB then some ⟨[.b c1], []⟩ else some ⟨[.b false], []⟩
   else
    some ⟨[.b false], []⟩
  else
   some ⟨[.b false], []⟩
 else
  some ⟨[.b false], []⟩
def impl_jobOk_u (k : Nat) (a0_0 : Int) (a0_1 : Int) (a1_0 : Int) (a1_1 : Int) (a1_2 : Int) (a1_3 : Int) (a1_4 : List (List T)) (a1_5 : Int) (a1_6 : List (List T)) (a1_7 : Int) : Option Outs :=
 bif (a1_7 == 0) then
  impl_jobOk_J1 k a0_0 a0_1 a1_0 a1_1 a1_2 a1_3 a1_4 a1_5 a1_6 true
 else
  bindO (evalF E P0 k N.impl_within [.v [.i a1_7], .v [.i 4], .v [.i 7]]) fun o8 =>
  impl_jobOk_J1 k a0_0 a0_1 a1_0 a1_1 a1_2 a1_3 a1_4 a1_5 a1_6 ((o8.t 0).asB)
theorem impl_jobOk_e (k : Nat) (a0_0 : Int) (a0_1 : Int) (a1_0 : Int) (a1_1 : Int) (a1_2 : Int) (a1_3 : Int) (a1_4 : List (List T)) (a1_5 : Int) (a1_6 : List (List T)) (a1_7 : Int) : evalF E P0 (k + 1) N.impl_jobOk [.v [.i a0_0, .i a0_1], .v [.i a1_0, .i a1_1, .i a1_2, .i a1_3, .r a1_4, .i a1_5, .r a1_6, .i a1_7]] = impl_jobOk_u k a0_0 a0_1 a1_0 a1_1 a1_2 a1_3 a1_4 a1_5 a1_6 a1_7 := by kernel_rfl
/- impl.lostOk -/
def impl_lostOk_u (k : Nat) (a0_0 : Int) (a0_1 : Int) (a1 : Int) (a2 : Int) : Option Outs :=
 bindO (evalF E P0 k N.impl_within [.v [.i a1], .v [.i (-1)], .v [.i (IntKind.wrap .i64 (a0_0 - 1))]]) fun o3 =>
 bif (o3.t 0).asB then
  bindO (evalF E P0 k N.impl_within [.v [.i a2], .v [.i 0], .v [.i a0_1]]) fun o4 =>
  bif (o4.t 0).asB then
   bif (a2 == 0) then some ⟨[.b true], []⟩ else some ⟨[.b (a1 != (-1))], []⟩
  else
   some ⟨[.b false], []⟩
 else
  some ⟨[.b false], []⟩
theorem impl_lostOk_e (k : Nat) (a0_0 : Int) (a0_1 : Int) (a1 : Int) (a2 : Int) : evalF E P0 (k + 1) N.impl_lostOk [.v [.i a0_0, .i a0_1], .v [.i a1], .v [.i a2]] = impl_lostOk_u k a0_0 a0_1 a1 a2 := by kernel_rfl
/- impl.hasStripe -/
def impl_hasStripe_u (k : Nat) (a0_0 : Int) (a0_1 : Int) (a1 : Int) : Option Outs :=
 bindO (evalF E P0 k N.impl_GeoOk [.v [.i a0_0, .i a0_1]]) fun o3 =>
 bif (o3.t 0).asB then
  bindO (evalF E P0 k N.impl_within [.v [.i a1], .v [.i 0], .v [.i (IntKind.wrap .i64 (a0_1 - 1))]]) fun o4 =>
  some ⟨[.b (o4.t 0).asB], []⟩
 else
  some ⟨[.b false], []⟩
theorem impl_hasStripe_e (k : Nat) (a0_0 : Int) (a0_1 : Int) (a1 : Int) : evalF E P0 (k + 1) N.impl_hasStripe [.v [.i a0_0, .i a0_1], .v [.i a1]] = impl_hasStripe_u k a0_0 a0_1 a1 := by kernel_rfl
/- impl.dataOk -/
def impl_dataOk_u (k : Nat) (a0_0 : Int) (a0_1 : Int) (a1 : List (List T)) : Option Outs :=
 bif ((a1.length : Int) == (IntKind.wrap .i64 (a0_0 - 1))) then
  bindO (evalF E P0 k N.impl_wordsOk [.v [.r a1]]) fun o2 =>
  some ⟨[.b (o2.t 0).asB], []⟩
 else
  some ⟨[.b false], []⟩
theorem impl_dataOk_e (k : Nat) (a0_0 : Int) (a0_1 : Int) (a1 : List (List T)) : evalF E P0 (k + 1) N.impl_dataOk [.v [.i a0_0, .i a0_1], .v [.r a1]] = impl_dataOk_u k a0_0 a0_1 a1 := by kernel_rfl
/- impl.dirtyOk -/
def impl_dirtyOk_L1 (k : Nat) (a0_0 : Int) (a0_1 : Int) (a0_2 : Int) (a0_3 : List (List T)) (a0_4 : Int) (a0_5 : Int) (a0_6 : Int) (a0_7 : Int) (a0_8 : Int) (a0_9 : List (List T)) (a0_10 : Int) (a0_11 : Bool) (a0_12 : Bool) (G1 : (Int) → Option Outs) : (Int) → Option Outs := fun v8 =>
 bif (decide (v8 < (a0_9.length : Int))) then
  chk (decide (0 ≤ v8) && decide (v8 < (a0_9.length : Int))) <|
  bindO (evalF E P0 k N.impl_hasStripe [.v [.i a0_1, .i a0_2], .v [.i (at_ a0_9 v8.toNat 0).asI]]) fun o254 =>
  bif (!(o254.t 0).asB) then
   some ⟨[.b false], []⟩
  else
   bif (decide (v8 > 0)) then
    chk (decide (0 ≤ (IntKind.wrap .i64 (v8 - 1))) && decide ((IntKind.wrap .i64 (v8 - 1)) < (a0_9.length : Int))) <|
    bif (decide ((at_ a0_9 (IntKind.wrap .i64 (v8 - 1)).toNat 0).asI ≥ (at_ a0_9 v8.toNat 0).asI)) then
     some ⟨[.b false], []⟩
    else
     bindO (evalF E P0 k N.impl_dataOk [.v [.i a0_1, .i a0_2], .v [.r (at_ a0_9 v8.toNat 1).asR]]) fun o255 =>
     bif (!(o255.t 0).asB) then some ⟨[.b false], []⟩ else G1 (IntKind.wrap .i64 (v8 + 1))
   else
    bindO (evalF E P0 k N.impl_dataOk [.v [.i a0_1, .i a0_2], .v [.r (at_ a0_9 v8.toNat 1).asR]]) fun o256 =>
    bif (!(o256.t 0).asB) then some ⟨[.b false], []⟩ else G1 (IntKind.wrap .i64 (v8 + 1))
 else
  some ⟨[.b true], []⟩
def impl_dirtyOk_k1 : List Nat := [1, 2, 6, 7, 8]
def impl_dirtyOk_S1 (a0_0 : Int) (a0_1 : Int) (a0_2 : Int) (a0_3 : List (List T)) (a0_4 : Int) (a0_5 : Int) (a0_6 : Int) (a0_7 : Int) (a0_8 : Int) (a0_9 : List (List T)) (a0_10 : Int) (a0_11 : Bool) (a0_12 : Bool) : (Int) → St := fun v8 => ⟨ofSl [(1, .ptr (1, 0) 0), (2, .b false), (6, .sl 155 a0_9), (7, .i .i64 (a0_9.length : Int)), (8, .i .i64 v8)], ofMem [((1, 0), .var [.i .i64 a0_0, .i .i64 a0_1, .i .i64 a0_2, .sl 143 a0_3, .i .i64 a0_4, .i .i64 a0_5, .i .i64 a0_6, .i .i64 a0_7, .i .i64 a0_8, .sl 155 a0_9, .i .i64 a0_10, .b a0_11, .b a0_12])]⟩
def impl_dirtyOk_l1 (k : Nat) (a0_0 : Int) (a0_1 : Int) (a0_2 : Int) (a0_3 : List (List T)) (a0_4 : Int) (a0_5 : Int) (a0_6 : Int) (a0_7 : Int) (a0_8 : Int) (a0_9 : List (List T)) (a0_10 : Int) (a0_11 : Bool) (a0_12 : Bool) (G1 : (Int) → Option Outs) : (Int) → Option Outs :=
  impl_dirtyOk_L1 k a0_0 a0_1 a0_2 a0_3 a0_4 a0_5 a0_6 a0_7 a0_8 a0_9 a0_10 a0_11 a0_12 G1
def impl_dirtyOk_U (k : Nat) (a0_0 : Int) (a0_1 : Int) (a0_2 : Int) (a0_3 : List (List T)) (a0_4 : Int) (a0_5 : Int) (a0_6 : Int) (a0_7 : Int) (a0_8 : Int) (a0_9 : List (List T)) (a0_10 : Int) (a0_11 : Bool) (a0_12 : Bool) (R1 : (Int) → Option Outs) : Option Outs :=
 R1 0
def impl_dirtyOk_u (k : Nat) (a0_0 : Int) (a0_1 : Int) (a0_2 : Int) (a0_3 : List (List T)) (a0_4 : Int) (a0_5 : Int) (a0_6 : Int) (a0_7 : Int) (a0_8 : Int) (a0_9 : List (List T)) (a0_10 : Int) (a0_11 : Bool) (a0_12 : Bool) : Option Outs :=
  impl_dirtyOk_U k a0_0 a0_1 a0_2 a0_3 a0_4 a0_5 a0_6 a0_7 a0_8 a0_9 a0_10 a0_11 a0_12 (fun v => fixN (impl_dirtyOk_l1 k a0_0 a0_1 a0_2 a0_3 a0_4 a0_5 a0_6 a0_7 a0_8 a0_9 a0_10 a0_11 a0_12) k v)
def impl_dirtyOk_it1 (k : Nat) (a0_0 : Int) (a0_1 : Int) (a0_2 : Int) (a0_3 : List (List T)) (a0_4 : Int) (a0_5 : Int) (a0_6 : Int) (a0_7 : Int) (a0_8 : Int) (a0_9 : List (List T)) (a0_10 : Int) (a0_11 : Bool) (a0_12 : Bool) (js : List Nat) (j : Nat) (s : St) : Option Outs := iter (LB E (evalF E P0 k) k [] N.impl_dirtyOk [.sr, .sl, .sr, .bl]) [] impl_dirtyOk_k1 (LK E (evalF E P0 k) k [] N.impl_dirtyOk [.v [.i a0_0, .i a0_1, .i a0_2, .r a0_3, .i a0_4, .i a0_5, .i a0_6, .i a0_7, .i a0_8, .r a0_9, .i a0_10, .b a0_11, .b a0_12]] [.sr, .sl, .sr, .bl] js) j s
theorem impl_dirtyOk_e (k : Nat) (a0_0 : Int) (a0_1 : Int) (a0_2 : Int) (a0_3 : List (List T)) (a0_4 : Int) (a0_5 : Int) (a0_6 : Int) (a0_7 : Int) (a0_8 : Int) (a0_9 : List (List T)) (a0_10 : Int) (a0_11 : Bool) (a0_12 : Bool) : evalF E P0 (k + 1) N.impl_dirtyOk [.v [.i a0_0, .i a0_1, .i a0_2, .r a0_3, .i a0_4, .i a0_5, .i a0_6, .i a0_7, .i a0_8, .r a0_9, .i a0_10, .b a0_11, .b a0_12]] = impl_dirtyOk_u k a0_0 a0_1 a0_2 a0_3 a0_4 a0_5 a0_6 a0_7 a0_8 a0_9 a0_10 a0_11 a0_12 := by
  have e0 : evalF E P0 (k + 1) N.impl_dirtyOk [.v [.i a0_0, .i a0_1, .i a0_2, .r a0_3, .i a0_4, .i a0_5, .i a0_6, .i a0_7, .i a0_8, .r a0_9, .i a0_10, .b a0_11, .b a0_12]] = impl_dirtyOk_U k a0_0 a0_1 a0_2 a0_3 a0_4 a0_5 a0_6 a0_7 a0_8 a0_9 a0_10 a0_11 a0_12 (fun v => impl_dirtyOk_it1 k a0_0 a0_1 a0_2 a0_3 a0_4 a0_5 a0_6 a0_7 a0_8 a0_9 a0_10 a0_11 a0_12 [] k (impl_dirtyOk_S1 a0_0 a0_1 a0_2 a0_3 a0_4 a0_5 a0_6 a0_7 a0_8 a0_9 a0_10 a0_11 a0_12 v)) := by kernel_rfl
  have e1 : ∀ (j1 : Nat) (v : Int), impl_dirtyOk_it1 k a0_0 a0_1 a0_2 a0_3 a0_4 a0_5 a0_6 a0_7 a0_8 a0_9 a0_10 a0_11 a0_12 [] (j1 + 1) (impl_dirtyOk_S1 a0_0 a0_1 a0_2 a0_3 a0_4 a0_5 a0_6 a0_7 a0_8 a0_9 a0_10 a0_11 a0_12 v) = impl_dirtyOk_L1 k a0_0 a0_1 a0_2 a0_3 a0_4 a0_5 a0_6 a0_7 a0_8 a0_9 a0_10 a0_11 a0_12 (fun v => impl_dirtyOk_it1 k a0_0 a0_1 a0_2 a0_3 a0_4 a0_5 a0_6 a0_7 a0_8 a0_9 a0_10 a0_11 a0_12 [] j1 (impl_dirtyOk_S1 a0_0 a0_1 a0_2 a0_3 a0_4 a0_5 a0_6 a0_7 a0_8 a0_9 a0_10 a0_11 a0_12 v)) v := by
    intro j1 v; kernel_rfl
  have i1 : ∀ (j1 : Nat) (v : Int), impl_dirtyOk_it1 k a0_0 a0_1 a0_2 a0_3 a0_4 a0_5 a0_6 a0_7 a0_8 a0_9 a0_10 a0_11 a0_12 [] j1 (impl_dirtyOk_S1 a0_0 a0_1 a0_2 a0_3 a0_4 a0_5 a0_6 a0_7 a0_8 a0_9 a0_10 a0_11 a0_12 v) = fixN (impl_dirtyOk_l1 k a0_0 a0_1 a0_2 a0_3 a0_4 a0_5 a0_6 a0_7 a0_8 a0_9 a0_10 a0_11 a0_12) j1 v := by
    intro j1 v
    refine iter_fix (impl_dirtyOk_S1 a0_0 a0_1 a0_2 a0_3 a0_4 a0_5 a0_6 a0_7 a0_8 a0_9 a0_10 a0_11 a0_12) (impl_dirtyOk_l1 k a0_0 a0_1 a0_2 a0_3 a0_4 a0_5 a0_6 a0_7 a0_8 a0_9 a0_10 a0_11 a0_12) (fun j1 v => (e1 j1 v).trans ?_) j1 v
    unfold impl_dirtyOk_l1
    rfl
  rw [e0]; unfold impl_dirtyOk_u
  simp only [i1]
/- impl.SecOk -/
def impl_SecOk_u (k : Nat) (a0 : List (List T)) : Option Outs :=
 bif (decide ((a0.length : Int) ≤ 12)) then
  bindO (evalF E P0 k N.impl_wordsOk [.v [.r a0]]) fun o2 =>
  some ⟨[.b (o2.t 0).asB], []⟩
 else
  some ⟨[.b false], []⟩
theorem impl_SecOk_e (k : Nat) (a0 : List (List T)) : evalF E P0 (k + 1) N.impl_SecOk [.v [.r a0]] = impl_SecOk_u k a0 := by kernel_rfl
/- impl.hasSec -/
def impl_hasSec_u (k : Nat) (a0_0 : List (List T)) (a0_1 : List (List T)) (a0_2 : Bool) (a0_3 : List (List T)) (a1 : Int) : Option Outs :=
 bindO (evalF E P0 k N.impl_within [.v [.i a1], .v [.i 0], .v [.i (IntKind.wrap .i64 ((a0_0.length : Int) - 1))]]) fun o2 =>
 some ⟨[.b (o2.t 0).asB], []⟩
theorem impl_hasSec_e (k : Nat) (a0_0 : List (List T)) (a0_1 : List (List T)) (a0_2 : Bool) (a0_3 : List (List T)) (a1 : Int) : evalF E P0 (k + 1) N.impl_hasSec [.v [.r a0_0, .r a0_1, .b a0_2, .r a0_3], .v [.i a1]] = impl_hasSec_u k a0_0 a0_1 a0_2 a0_3 a1 := by kernel_rfl
/- impl.MemOk -/
def impl_MemOk_L3 (k : Nat) (a0_0 : List (List T)) (a0_1 : List (List T)) (a0_2 : Bool) (a0_3 : List (List T)) (G3 : (Int) → Option Outs) : (Int) → Option Outs := fun v24 =>
 bif (decide (v24 < (a0_3.length : Int))) then
  chk (decide (0 ≤ v24) && decide (v24 < (a0_3.length : Int))) <|
  bindO (evalF E P0 k N.impl_hasSec [.v [.r a0_0, .r a0_1, .b a0_2, .r a0_3], .v [.i (at_ a0_3 v24.toNat 0).asI]]) fun o384 =>
  bif (!(o384.t 0).asB) then
   some ⟨[.b false], []⟩
  else
   bif (decide (v24 > 0)) then
    chk (decide (0 ≤ (IntKind.wrap .i64 (v24 - 1))) && decide ((IntKind.wrap .i64 (v24 - 1)) < (a0_3.length : Int))) <|
    bif (decide ((at_ a0_3 (IntKind.wrap .i64 (v24 - 1)).toNat 0).asI ≥ (at_ a0_3 v24.toNat 0).asI)) then
     some ⟨[.b false], []⟩
    else
     G3 (IntKind.wrap .i64 (v24 + 1))
   else
    G3 (IntKind.wrap .i64 (v24 + 1))
 else
  bindO (evalF E P0 k N.impl_within [.v [.i (a0_0.length : Int)], .v [.i 1], .v [.i 20]]) fun o386 =>
  bif (o386.t 0).asB then some ⟨[.b (decide ((a0_1.length : Int) ≤ 60))], []⟩ else some ⟨[.b false], []⟩
def impl_MemOk_k3 : List Nat := [1, 2, 40, 41, 42, 66, 67, 68, 69, 70, 71, 72, 73, 74, 75]
def impl_MemOk_S3 (a0_0 : List (List T)) (a0_1 : List (List T)) (a0_2 : Bool) (a0_3 : List (List T)) : (Int) → St := fun v24 => ⟨ofSl [(1, .ptr (1, 0) 0), (2, .b false), (40, .sl 3 a0_3), (41, .i .i64 (a0_3.length : Int)), (42, .i .i64 v24), (66, .skip), (67, .skip), (68, .skip), (69, .skip), (70, .skip), (71, .skip), (72, .skip), (73, .skip), (74, .skip), (75, .skip)], ofMem [((1, 0), .var [.sl 24 a0_0, .sl 162 a0_1, .b a0_2, .sl 3 a0_3])]⟩
def impl_MemOk_L2 (k : Nat) (a0_0 : List (List T)) (a0_1 : List (List T)) (a0_2 : Bool) (a0_3 : List (List T)) (R3 : (Int) → Option Outs) (G2 : (Int) → Option Outs) : (Int) → Option Outs := fun v16 =>
 bif (decide (v16 < (a0_1.length : Int))) then
  chk (decide (0 ≤ v16) && decide (v16 < (a0_1.length : Int))) <|
  bindO (evalF E P0 k N.impl_hasSec [.v [.r a0_0, .r a0_1, .b a0_2, .r a0_3], .v [.i (at_ a0_1 v16.toNat 0).asI]]) fun o287 =>
  bif (!(o287.t 0).asB) then
   some ⟨[.b false], []⟩
  else
   bindO (evalF E P0 k N.impl_SecOk [.v [.r (at_ a0_1 v16.toNat 1).asR]]) fun o288 =>
   bif (!(o288.t 0).asB) then some ⟨[.b false], []⟩ else G2 (IntKind.wrap .i64 (v16 + 1))
 else
  R3 0
def impl_MemOk_k2 : List Nat := [1, 2, 7, 8, 21, 22, 23, 39, 40, 41, 42, 43, 44, 45, 46, 47, 48, 49, 50, 51, 52, 53, 54, 55, 56, 57, 58, 59, 60, 61, 62, 63, 64, 65, 66, 67, 68, 69, 70, 71, 72, 73, 74, 75]
def impl_MemOk_S2 (a0_0 : List (List T)) (a0_1 : List (List T)) (a0_2 : Bool) (a0_3 : List (List T)) : (Int) → St := fun v16 => ⟨ofSl [(1, .ptr (1, 0) 0), (2, .b false), (7, .skip), (8, .skip), (21, .sl 162 a0_1), (22, .i .i64 (a0_1.length : Int)), (23, .i .i64 v16), (39, .skip), (40, .skip), (41, .skip), (42, .skip), (43, .skip), (44, .skip), (45, .skip), (46, .skip), (47, .skip), (48, .skip), (49, .skip), (50, .skip), (51, .skip), (52, .skip), (53, .skip), (54, .skip), (55, .skip), (56, .skip), (57, .skip), (58, .skip), (59, .skip), (60, .skip), (61, .skip), (62, .skip), (63, .skip), (64, .skip), (65, .skip), (66, .skip), (67, .skip), (68, .skip), (69, .skip), (70, .skip), (71, .skip), (72, .skip), (73, .skip), (74, .skip), (75, .skip)], ofMem [((1, 0), .var [.sl 24 a0_0, .sl 162 a0_1, .b a0_2, .sl 3 a0_3])]⟩
def impl_MemOk_L1 (k : Nat) (a0_0 : List (List T)) (a0_1 : List (List T)) (a0_2 : Bool) (a0_3 : List (List T)) (R2 : (Int) → Option Outs) (G1 : (Int) → Option Outs) : (Int) → Option Outs := fun v8 =>
 bif (decide (v8 < (a0_0.length : Int))) then
  chk (decide (0 ≤ v8) && decide (v8 < (a0_0.length : Int))) <|
  bindO (evalF E P0 k N.impl_SecOk [.v [.r (at_ a0_0 v8.toNat 0).asR]]) fun o96 =>
  bif (!(o96.t 0).asB) then some ⟨[.b false], []⟩ else G1 (IntKind.wrap .i64 (v8 + 1))
 else
  R2 0
def impl_MemOk_k1 : List Nat := [1, 2, 6, 7, 8, 10, 11, 12, 20, 21, 22, 23, 24, 25, 26, 27, 28, 29, 30, 31, 32, 33, 34, 35, 36, 37, 38, 39, 40, 41, 42, 43, 44, 45, 46, 47, 48, 49, 50, 51, 52, 53, 54, 55, 56, 57, 58, 59, 60, 61, 62, 63, 64, 65, 66, 67, 68, 69, 70, 71, 72, 73, 74, 75]
def impl_MemOk_S1 (a0_0 : List (List T)) (a0_1 : List (List T)) (a0_2 : Bool) (a0_3 : List (List T)) : (Int) → St := fun v8 => ⟨ofSl [(1, .ptr (1, 0) 0), (2, .b false), (6, .skip), (7, .skip), (8, .skip), (10, .sl 24 a0_0), (11, .i .i64 (a0_0.length : Int)), (12, .i .i64 v8), (20, .skip), (21, .skip), (22, .skip), (23, .skip), (24, .skip), (25, .skip), (26, .skip), (27, .skip), (28, .skip), (29, .skip), (30, .skip), (31, .skip), (32, .skip), (33, .skip), (34, .skip), (35, .skip), (36, .skip), (37, .skip), (38, .skip), (39, .skip), (40, .skip), (41, .skip), (42, .skip), (43, .skip), (44, .skip), (45, .skip), (46, .skip), (47, .skip), (48, .skip), (49, .skip), (50, .skip), (51, .skip), (52, .skip), (53, .skip), (54, .skip), (55, .skip), (56, .skip), (57, .skip), (58, .skip), (59, .skip), (60, .skip), (61, .skip), (62, .skip), (63, .skip), (64, .skip), (65, .skip), (66, .skip), (67, .skip), (68, .skip), (69, .skip), (70, .skip), (71, .skip), (72, .skip), (73, .skip), (74, .skip), (75, .skip)], ofMem [((1, 0), .var [.sl 24 a0_0, .sl 162 a0_1, .b a0_2, .sl 3 a0_3])]⟩
def impl_MemOk_l3 (k : Nat) (a0_0 : List (List T)) (a0_1 : List (List T)) (a0_2 : Bool) (a0_3 : List (List T)) (G3 : (Int) → Option Outs) : (Int) → Option Outs :=
  impl_MemOk_L3 k a0_0 a0_1 a0_2 a0_3 G3
def impl_MemOk_l2 (k : Nat) (a0_0 : List (List T)) (a0_1 : List (List T)) (a0_2 : Bool) (a0_3 : List (List T)) (G2 : (Int) → Option Outs) : (Int) → Option Outs :=
  impl_MemOk_L2 k a0_0 a0_1 a0_2 a0_3 (fun v => fixN (impl_MemOk_l3 k a0_0 a0_1 a0_2 a0_3) k v) G2
def impl_MemOk_l1 (k : Nat) (a0_0 : List (List T)) (a0_1 : List (List T)) (a0_2 : Bool) (a0_3 : List (List T)) (G1 : (Int) → Option Outs) : (Int) → Option Outs :=
  impl_MemOk_L1 k a0_0 a0_1 a0_2 a0_3 (fun v => fixN (impl_MemOk_l2 k a0_0 a0_1 a0_2 a0_3) k v) G1
def impl_MemOk_U (k : Nat) (a0_0 : List (List T)) (a0_1 : List (List T)) (a0_2 : Bool) (a0_3 : List (List T)) (R1 : (Int) → Option Outs) : Option Outs :=
 R1 0
def impl_MemOk_u (k : Nat) (a0_0 : List (List T)) (a0_1 : List (List T)) (a0_2 : Bool) (a0_3 : List (List T)) : Option Outs :=
  impl_MemOk_U k a0_0 a0_1 a0_2 a0_3 (fun v => fixN (impl_MemOk_l1 k a0_0 a0_1 a0_2 a0_3) k v)
def impl_MemOk_it1 (k : Nat) (a0_0 : List (List T)) (a0_1 : List (List T)) (a0_2 : Bool) (a0_3 : List (List T)) (js : List Nat) (j : Nat) (s : St) : Option Outs := iter (LB E (evalF E P0 k) k [] N.impl_MemOk [.sr, .sl, .sr, .bl]) [] impl_MemOk_k1 (LK E (evalF E P0 k) k [] N.impl_MemOk [.v [.r a0_0, .r a0_1, .b a0_2, .r a0_3]] [.sr, .sl, .sr, .bl] js) j s
def impl_MemOk_it2 (k : Nat) (a0_0 : List (List T)) (a0_1 : List (List T)) (a0_2 : Bool) (a0_3 : List (List T)) (js : List Nat) (j : Nat) (s : St) : Option Outs := iter (LB E (evalF E P0 k) k [] N.impl_MemOk [.sr, .sr, .sl, .sr, .bl]) [] impl_MemOk_k2 (LK E (evalF E P0 k) k [] N.impl_MemOk [.v [.r a0_0, .r a0_1, .b a0_2, .r a0_3]] [.sr, .sr, .sl, .sr, .bl] js) j s
def impl_MemOk_it3 (k : Nat) (a0_0 : List (List T)) (a0_1 : List (List T)) (a0_2 : Bool) (a0_3 : List (List T)) (js : List Nat) (j : Nat) (s : St) : Option Outs := iter (LB E (evalF E P0 k) k [] N.impl_MemOk [.sr, .sr, .sr, .sl, .sr, .bl]) [] impl_MemOk_k3 (LK E (evalF E P0 k) k [] N.impl_MemOk [.v [.r a0_0, .r a0_1, .b a0_2, .r a0_3]] [.sr, .sr, .sr, .sl, .sr, .bl] js) j s
theorem impl_MemOk_e (k : Nat) (a0_0 : List (List T)) (a0_1 : List (List T)) (a0_2 : Bool) (a0_3 : List (List T)) : evalF E P0 (k + 1) N.impl_MemOk [.v [.r a0_0, .r a0_1, .b a0_2, .r a0_3]] = impl_MemOk_u k a0_0 a0_1 a0_2 a0_3 := by
  have e0 : evalF E P0 (k + 1) N.impl_MemOk [.v [.r a0_0, .r a0_1, .b a0_2, .r a0_3]] = impl_MemOk_U k a0_0 a0_1 a0_2 a0_3 (fun v => impl_MemOk_it1 k a0_0 a0_1 a0_2 a0_3 [] k (impl_MemOk_S1 a0_0 a0_1 a0_2 a0_3 v)) := by kernel_rfl
  have e3 : ∀ (j3 : Nat) (v : Int), impl_MemOk_it3 k a0_0 a0_1 a0_2 a0_3 [] (j3 + 1) (impl_MemOk_S3 a0_0 a0_1 a0_2 a0_3 v) = impl_MemOk_L3 k a0_0 a0_1 a0_2 a0_3 (fun v => impl_MemOk_it3 k a0_0 a0_1 a0_2 a0_3 [] j3 (impl_MemOk_S3 a0_0 a0_1 a0_2 a0_3 v)) v := by
    intro j3 v; kernel_rfl
  have i3 : ∀ (j3 : Nat) (v : Int), impl_MemOk_it3 k a0_0 a0_1 a0_2 a0_3 [] j3 (impl_MemOk_S3 a0_0 a0_1 a0_2 a0_3 v) = fixN (impl_MemOk_l3 k a0_0 a0_1 a0_2 a0_3) j3 v := by
    intro j3 v
    refine iter_fix (impl_MemOk_S3 a0_0 a0_1 a0_2 a0_3) (impl_MemOk_l3 k a0_0 a0_1 a0_2 a0_3) (fun j3 v => (e3 j3 v).trans ?_) j3 v
    unfold impl_MemOk_l3
    rfl
  have e2 : ∀ (j2 : Nat) (v : Int), impl_MemOk_it2 k a0_0 a0_1 a0_2 a0_3 [] (j2 + 1) (impl_MemOk_S2 a0_0 a0_1 a0_2 a0_3 v) = impl_MemOk_L2 k a0_0 a0_1 a0_2 a0_3 (fun v => impl_MemOk_it3 k a0_0 a0_1 a0_2 a0_3 [] k (impl_MemOk_S3 a0_0 a0_1 a0_2 a0_3 v)) (fun v => impl_MemOk_it2 k a0_0 a0_1 a0_2 a0_3 [] j2 (impl_MemOk_S2 a0_0 a0_1 a0_2 a0_3 v)) v := by
    intro j2 v; kernel_rfl
  have i2 : ∀ (j2 : Nat) (v : Int), impl_MemOk_it2 k a0_0 a0_1 a0_2 a0_3 [] j2 (impl_MemOk_S2 a0_0 a0_1 a0_2 a0_3 v) = fixN (impl_MemOk_l2 k a0_0 a0_1 a0_2 a0_3) j2 v := by
    intro j2 v
    refine iter_fix (impl_MemOk_S2 a0_0 a0_1 a0_2 a0_3) (impl_MemOk_l2 k a0_0 a0_1 a0_2 a0_3) (fun j2 v => (e2 j2 v).trans ?_) j2 v
    unfold impl_MemOk_l2
    simp only [i3] <;> rfl
  have e1 : ∀ (j1 : Nat) (v : Int), impl_MemOk_it1 k a0_0 a0_1 a0_2 a0_3 [] (j1 + 1) (impl_MemOk_S1 a0_0 a0_1 a0_2 a0_3 v) = impl_MemOk_L1 k a0_0 a0_1 a0_2 a0_3 (fun v => impl_MemOk_it2 k a0_0 a0_1 a0_2 a0_3 [] k (impl_MemOk_S2 a0_0 a0_1 a0_2 a0_3 v)) (fun v => impl_MemOk_it1 k a0_0 a0_1 a0_2 a0_3 [] j1 (impl_MemOk_S1 a0_0 a0_1 a0_2 a0_3 v)) v := by
    intro j1 v; kernel_rfl
  have i1 : ∀ (j1 : Nat) (v : Int), impl_MemOk_it1 k a0_0 a0_1 a0_2 a0_3 [] j1 (impl_MemOk_S1 a0_0 a0_1 a0_2 a0_3 v) = fixN (impl_MemOk_l1 k a0_0 a0_1 a0_2 a0_3) j1 v := by
    intro j1 v
    refine iter_fix (impl_MemOk_S1 a0_0 a0_1 a0_2 a0_3) (impl_MemOk_l1 k a0_0 a0_1 a0_2 a0_3) (fun j1 v => (e1 j1 v).trans ?_) j1 v
    unfold impl_MemOk_l1
    simp only [i2] <;> rfl
  rw [e0]; unfold impl_MemOk_u
  simp only [i1]
/- impl.sectors -/
def impl_sectors_u (k : Nat) (a0_0 : Int) (a0_1 : Int) : Option Outs :=
 some ⟨[.i (IntKind.wrap .i64 (6 + a0_1))], []⟩
theorem impl_sectors_e (k : Nat) (a0_0 : Int) (a0_1 : Int) : evalF E P0 (k + 1) N.impl_sectors [.v [.i a0_0, .i a0_1]] = impl_sectors_u k a0_0 a0_1 := by kernel_rfl
/- impl.ArrOk -/
def impl_ArrOk_J2 (k : Nat) (a0_6 : Int) (a0_7 : Int) (a0_10 : Int) (c50 : Bool) : Option Outs :=
 bif c50 then
  bindO (evalF E P0 k N.impl_within [.v [.i (IntKind.wrap .i64 (a0_6 - a0_7))], .v [.i 0], .v [.i 4]]) fun o206 =>
  bif (o206.t 0).asB then
   bindO (evalF E P0 k N.impl_within [.v [.i a0_10], .v [.i (-1)], .v [.i 1000]]) fun o207 =>
   some ⟨[.b (o207.t 0).asB], []⟩
  else
   some ⟨[.b false], []⟩
 else
  some ⟨[.b false], []⟩
def impl_ArrOk_L1 (k : Nat) (a0_0 : Int) (a0_1 : Int) (a0_2 : Int) (a0_3 : List (List T)) (a0_4 : Int) (a0_5 : Int) (a0_6 : Int) (a0_7 : Int) (a0_8 : Int) (a0_9 : List (List T)) (a0_10 : Int) (a0_11 : Bool) (a0_12 : Bool) (G1 : (Int) → Option Outs) : (Int) → Option Outs := fun v8 =>
 bif (decide (v8 < (a0_3.length : Int))) then
  chk (decide (0 ≤ v8) && decide (v8 < (a0_3.length : Int))) <|
  bindO (evalF E P0 k N.impl_MemOk [.v [.r (at_ a0_3 v8.toNat 0).asR, .r (at_ a0_3 v8.toNat 1).asR, .b (at_ a0_3 v8.toNat 2).asB, .r (at_ a0_3 v8.toNat 3).asR]]) fun o196 =>
  bif (!(o196.t 0).asB) then
   some ⟨[.b false], []⟩
  else
   bindO (evalF E P0 k N.impl_sectors [.v [.i a0_1, .i a0_2]]) fun o197 =>
   bif (((at_ a0_3 v8.toNat 0).asR.length : Int) != (o197.t 0).asI) then
    some ⟨[.b false], []⟩
   else
    bif (at_ a0_3 v8.toNat 2).asB then
     bif (a0_4 != v8) then
      bif (!a0_12) then some ⟨[.b false], []⟩ else G1 (IntKind.wrap .i64 (v8 + 1))
     else
      G1 (IntKind.wrap .i64 (v8 + 1))
    else
     G1 (IntKind.wrap .i64 (v8 + 1))
 else
  bindO (evalF E P0 k N.impl_within [.v [.i a0_6], .v [.i 0], .v [.i 60000]]) fun o201 =>
  bif (o201.t 0).asB then
   bindO (evalF E P0 k N.impl_within [.v [.i a0_7], .v [.i 0], .v [.i 60000]]) fun o202 =>
   bif (o202.t 0).asB then
    bindO (evalF E P0 k N.impl_within [.v [.i a0_8], .v [.i 0], .v [.i 60000]]) fun o203 =>
    impl_ArrOk_J2 k a0_6 a0_7 a0_10 ((o203.t 0).asB)
   else
    impl_ArrOk_J2 k a0_6 a0_7 a0_10 false
  else
   impl_ArrOk_J2 k a0_6 a0_7 a0_10 false
def impl_ArrOk_k1 : List Nat := [1, 2, 5, 41, 42, 43, 76, 77, 78, 79, 80, 81, 82, 83, 84, 85, 86, 87, 88, 89, 90, 91, 92, 93, 94, 95, 96, 97, 98, 99, 100, 101, 102]
def impl_ArrOk_S1 (a0_0 : Int) (a0_1 : Int) (a0_2 : Int) (a0_3 : List (List T)) (a0_4 : Int) (a0_5 : Int) (a0_6 : Int) (a0_7 : Int) (a0_8 : Int) (a0_9 : List (List T)) (a0_10 : Int) (a0_11 : Bool) (a0_12 : Bool) : (Int) → St := fun v8 => ⟨ofSl [(1, .ptr (1, 0) 0), (2, .b false), (5, .skip), (41, .sl 143 a0_3), (42, .i .i64 (a0_3.length : Int)), (43, .i .i64 v8), (76, .skip), (77, .skip), (78, .skip), (79, .skip), (80, .skip), (81, .skip), (82, .skip), (83, .skip), (84, .skip), (85, .skip), (86, .skip), (87, .skip), (88, .skip), (89, .skip), (90, .skip), (91, .skip), (92, .skip), (93, .skip), (94, .skip), (95, .skip), (96, .skip), (97, .skip), (98, .skip), (99, .skip), (100, .skip), (101, .skip), (102, .skip)], ofMem [((1, 0), .var [.i .i64 a0_0, .i .i64 a0_1, .i .i64 a0_2, .sl 143 a0_3, .i .i64 a0_4, .i .i64 a0_5, .i .i64 a0_6, .i .i64 a0_7, .i .i64 a0_8, .sl 155 a0_9, .i .i64 a0_10, .b a0_11, .b a0_12])]⟩
def impl_ArrOk_J1 (k : Nat) (R1 : (Int) → Option Outs) (c1 : Bool) : Option Outs :=
 bif c1 then some ⟨[.b false], []⟩ else R1 0
def impl_ArrOk_l1 (k : Nat) (a0_0 : Int) (a0_1 : Int) (a0_2 : Int) (a0_3 : List (List T)) (a0_4 : Int) (a0_5 : Int) (a0_6 : Int) (a0_7 : Int) (a0_8 : Int) (a0_9 : List (List T)) (a0_10 : Int) (a0_11 : Bool) (a0_12 : Bool) (G1 : (Int) → Option Outs) : (Int) → Option Outs :=
  impl_ArrOk_L1 k a0_0 a0_1 a0_2 a0_3 a0_4 a0_5 a0_6 a0_7 a0_8 a0_9 a0_10 a0_11 a0_12 G1
def impl_ArrOk_U (k : Nat) (a0_0 : Int) (a0_1 : Int) (a0_2 : Int) (a0_3 : List (List T)) (a0_4 : Int) (a0_5 : Int) (a0_6 : Int) (a0_7 : Int) (a0_8 : Int) (a0_9 : List (List T)) (a0_10 : Int) (a0_11 : Bool) (a0_12 : Bool) (R1 : (Int) → Option Outs) : Option Outs :=
 bindO (evalF E P0 k N.impl_GeoOk [.v [.i a0_1, .i a0_2]]) fun o5 =>
 bif (!(o5.t 0).asB) then
  impl_ArrOk_J1 k R1 true
 else
  bif ((a0_3.length : Int) != a0_1) then
   impl_ArrOk_J1 k R1 true
  else
   bindO (evalF E P0 k N.impl_within [.v [.i a0_0], .v [.i 1], .v [.i 60000]]) fun o208 =>
   bif (!(o208.t 0).asB) then
    impl_ArrOk_J1 k R1 true
   else
    bindO (evalF E P0 k N.impl_lostOk [.v [.i a0_1, .i a0_2], .v [.i a0_4], .v [.i a0_5]]) fun o209 =>
    bif (!(o209.t 0).asB) then
     impl_ArrOk_J1 k R1 true
    else
     bindO (evalF E P0 k N.impl_dirtyOk [.v [.i a0_0, .i a0_1, .i a0_2, .r a0_3, .i a0_4, .i a0_5, .i a0_6, .i a0_7, .i a0_8, .r a0_9, .i a0_10, .b a0_11, .b a0_12]]) fun o210 =>
     impl_ArrOk_J1 k R1 (!(o210.t 0).asB)
def impl_ArrOk_u (k : Nat) (a0_0 : Int) (a0_1 : Int) (a0_2 : Int) (a0_3 : List (List T)) (a0_4 : Int) (a0_5 : Int) (a0_6 : Int) (a0_7 : Int) (a0_8 : Int) (a0_9 : List (List T)) (a0_10 : Int) (a0_11 : Bool) (a0_12 : Bool) : Option Outs :=
  impl_ArrOk_U k a0_0 a0_1 a0_2 a0_3 a0_4 a0_5 a0_6 a0_7 a0_8 a0_9 a0_10 a0_11 a0_12 (fun v => fixN (impl_ArrOk_l1 k a0_0 a0_1 a0_2 a0_3 a0_4 a0_5 a0_6 a0_7 a0_8 a0_9 a0_10 a0_11 a0_12) k v)
def impl_ArrOk_it1 (k : Nat) (a0_0 : Int) (a0_1 : Int) (a0_2 : Int) (a0_3 : List (List T)) (a0_4 : Int) (a0_5 : Int) (a0_6 : Int) (a0_7 : Int) (a0_8 : Int) (a0_9 : List (List T)) (a0_10 : Int) (a0_11 : Bool) (a0_12 : Bool) (js : List Nat) (j : Nat) (s : St) : Option Outs := iter (LB E (evalF E P0 k) k [] N.impl_ArrOk [.sr, .sr, .sl, .sr, .bl]) [] impl_ArrOk_k1 (LK E (evalF E P0 k) k [] N.impl_ArrOk [.v [.i a0_0, .i a0_1, .i a0_2, .r a0_3, .i a0_4, .i a0_5, .i a0_6, .i a0_7, .i a0_8, .r a0_9, .i a0_10, .b a0_11, .b a0_12]] [.sr, .sr, .sl, .sr, .bl] js) j s
theorem impl_ArrOk_e (k : Nat) (a0_0 : Int) (a0_1 : Int) (a0_2 : Int) (a0_3 : List (List T)) (a0_4 : Int) (a0_5 : Int) (a0_6 : Int) (a0_7 : Int) (a0_8 : Int) (a0_9 : List (List T)) (a0_10 : Int) (a0_11 : Bool) (a0_12 : Bool) : evalF E P0 (k + 1) N.impl_ArrOk [.v [.i a0_0, .i a0_1, .i a0_2, .r a0_3, .i a0_4, .i a0_5, .i a0_6, .i a0_7, .i a0_8, .r a0_9, .i a0_10, .b a0_11, .b a0_12]] = impl_ArrOk_u k a0_0 a0_1 a0_2 a0_3 a0_4 a0_5 a0_6 a0_7 a0_8 a0_9 a0_10 a0_11 a0_12 := by
  have e0 : evalF E P0 (k + 1) N.impl_ArrOk [.v [.i a0_0, .i a0_1, .i a0_2, .r a0_3, .i a0_4, .i a0_5, .i a0_6, .i a0_7, .i a0_8, .r a0_9, .i a0_10, .b a0_11, .b a0_12]] = impl_ArrOk_U k a0_0 a0_1 a0_2 a0_3 a0_4 a0_5 a0_6 a0_7 a0_8 a0_9 a0_10 a0_11 a0_12 (fun v => impl_ArrOk_it1 k a0_0 a0_1 a0_2 a0_3 a0_4 a0_5 a0_6 a0_7 a0_8 a0_9 a0_10 a0_11 a0_12 [] k (impl_ArrOk_S1 a0_0 a0_1 a0_2 a0_3 a0_4 a0_5 a0_6 a0_7 a0_8 a0_9 a0_10 a0_11 a0_12 v)) := by kernel_rfl
  have e1 : ∀ (j1 : Nat) (v : Int), impl_ArrOk_it1 k a0_0 a0_1 a0_2 a0_3 a0_4 a0_5 a0_6 a0_7 a0_8 a0_9 a0_10 a0_11 a0_12 [] (j1 + 1) (impl_ArrOk_S1 a0_0 a0_1 a0_2 a0_3 a0_4 a0_5 a0_6 a0_7 a0_8 a0_9 a0_10 a0_11 a0_12 v) = impl_ArrOk_L1 k a0_0 a0_1 a0_2 a0_3 a0_4 a0_5 a0_6 a0_7 a0_8 a0_9 a0_10 a0_11 a0_12 (fun v => impl_ArrOk_it1 k a0_0 a0_1 a0_2 a0_3 a0_4 a0_5 a0_6 a0_7 a0_8 a0_9 a0_10 a0_11 a0_12 [] j1 (impl_ArrOk_S1 a0_0 a0_1 a0_2 a0_3 a0_4 a0_5 a0_6 a0_7 a0_8 a0_9 a0_10 a0_11 a0_12 v)) v := by
    intro j1 v; kernel_rfl
  have i1 : ∀ (j1 : Nat) (v : Int), impl_ArrOk_it1 k a0_0 a0_1 a0_2 a0_3 a0_4 a0_5 a0_6 a0_7 a0_8 a0_9 a0_10 a0_11 a0_12 [] j1 (impl_ArrOk_S1 a0_0 a0_1 a0_2 a0_3 a0_4 a0_5 a0_6 a0_7 a0_8 a0_9 a0_10 a0_11 a0_12 v) = fixN (impl_ArrOk_l1 k a0_0 a0_1 a0_2 a0_3 a0_4 a0_5 a0_6 a0_7 a0_8 a0_9 a0_10 a0_11 a0_12) j1 v := by
    intro j1 v
    refine iter_fix (impl_ArrOk_S1 a0_0 a0_1 a0_2 a0_3 a0_4 a0_5 a0_6 a0_7 a0_8 a0_9 a0_10 a0_11 a0_12) (impl_ArrOk_l1 k a0_0 a0_1 a0_2 a0_3 a0_4 a0_5 a0_6 a0_7 a0_8 a0_9 a0_10 a0_11 a0_12) (fun j1 v => (e1 j1 v).trans ?_) j1 v
    unfold impl_ArrOk_l1
    rfl
  rw [e0]; unfold impl_ArrOk_u
  simp only [i1]
/- impl.EngOk -/
def impl_EngOk_J1 (k : Nat) (a0_0 : Int) (a0_1 : Int) (a0_2 : Int) (a0_3 : List (List T)) (a0_4 : Int) (a0_5 : Int) (a0_6 : Int) (a0_7 : Int) (a0_8 : Int) (a0_9 : List (List T)) (a0_10 : Int) (a0_11 : Bool) (a0_12 : Bool) (a0_13 : List (List T)) (a0_14 : List (List T)) (a0_15 : List (List T)) (a0_16 : List (List T)) (c1 : Bool) : Option Outs :=
 bif c1 then
  bindO (evalF E P0 k N.impl_ArrOk [.v [.i a0_0, .i a0_1, .i a0_2, .r a0_3, .i a0_4, .i a0_5, .i a0_6, .i a0_7, .i a0_8, .r a0_9, .i a0_10, .b a0_11, .b a0_12]]) fun o99 =>
  bif (o99.t 0).asB then
   bindO (evalF E P0 k N.impl_Apart [.v [.i a0_0, .i a0_1, .i a0_2, .r a0_3, .i a0_4, .i a0_5, .i a0_6, .i a0_7, .i a0_8, .r a0_9, .i a0_10, .b a0_11, .b a0_12, .r a0_13, .r a0_14, .r a0_15, .r a0_16]]) fun o100 =>
   some ⟨[.b (o100.t 0).asB], []⟩
  else
   some ⟨[.b false], []⟩
 else
  some ⟨[.b false], []⟩
def impl_EngOk_L1 (k : Nat) (a0_0 : Int) (a0_1 : Int) (a0_2 : Int) (a0_3 : List (List T)) (a0_4 : Int) (a0_5 : Int) (a0_6 : Int) (a0_7 : Int) (a0_8 : Int) (a0_9 : List (List T)) (a0_10 : Int) (a0_11 : Bool) (a0_12 : Bool) (a0_13 : List (List T)) (a0_14 : List (List T)) (a0_15 : List (List T)) (a0_16 : List (List T)) (G1 : (Int) → Option Outs) : (Int) → Option Outs := fun v8 =>
 bif (decide (v8 < (a0_14.length : Int))) then
  chk (decide (0 ≤ v8) && decide (v8 < (a0_14.length : Int))) <|
  bindO (evalF E P0 k N.impl_jobOk [.v [.i a0_1, .i a0_2], .v [.i (at_ a0_14 v8.toNat 0).asI, .i (at_ a0_14 v8.toNat 1).asI, .i (at_ a0_14 v8.toNat 2).asI, .i (at_ a0_14 v8.toNat 3).asI, .r (at_ a0_14 v8.toNat 4).asR, .i (at_ a0_14 v8.toNat 5).asI, .r (at_ a0_14 v8.toNat 6).asR, .i (at_ a0_14 v8.toNat 7).asI]]) fun o96 =>
  bif (!(o96.t 0).asB) then some ⟨[.b false], []⟩ else G1 (IntKind.wrap .i64 (v8 + 1))
 else
  bif (decide ((a0_13.length : Int) ≤ 8)) then
   bif (decide ((a0_14.length : Int) ≤ 4)) then
    bif (decide ((a0_15.length : Int) ≤ 8)) then
     impl_EngOk_J1 k a0_0 a0_1 a0_2 a0_3 a0_4 a0_5 a0_6 a0_7 a0_8 a0_9 a0_10 a0_11 a0_12 a0_13 a0_14 a0_15 a0_16 (decide ((a0_16.length : Int) ≤ 400))
    else
     impl_EngOk_J1 k a0_0 a0_1 a0_2 a0_3 a0_4 a0_5 a0_6 a0_7 a0_8 a0_9 a0_10 a0_11 a0_12 a0_13 a0_14 a0_15 a0_16 false
   else
    impl_EngOk_J1 k a0_0 a0_1 a0_2 a0_3 a0_4 a0_5 a0_6 a0_7 a0_8 a0_9 a0_10 a0_11 a0_12 a0_13 a0_14 a0_15 a0_16 false
  else
   impl_EngOk_J1 k a0_0 a0_1 a0_2 a0_3 a0_4 a0_5 a0_6 a0_7 a0_8 a0_9 a0_10 a0_11 a0_12 a0_13 a0_14 a0_15 a0_16 false
def impl_EngOk_k1 : List Nat := [1, 2, 5, 7, 8, 9, 20, 21, 22, 23, 24, 25, 26, 27, 28, 29, 30, 31, 32, 33, 34, 35, 36, 37, 38, 39, 40, 41, 42, 43, 44, 45, 46, 47, 48, 49, 50, 51]
def impl_EngOk_S1 (a0_0 : Int) (a0_1 : Int) (a0_2 : Int) (a0_3 : List (List T)) (a0_4 : Int) (a0_5 : Int) (a0_6 : Int) (a0_7 : Int) (a0_8 : Int) (a0_9 : List (List T)) (a0_10 : Int) (a0_11 : Bool) (a0_12 : Bool) (a0_13 : List (List T)) (a0_14 : List (List T)) (a0_15 : List (List T)) (a0_16 : List (List T)) : (Int) → St := fun v8 => ⟨ofSl [(1, .ptr (1, 0) 0), (2, .b false), (5, .skip), (7, .sl 104 a0_14), (8, .i .i64 (a0_14.length : Int)), (9, .i .i64 v8), (20, .skip), (21, .skip), (22, .skip), (23, .skip), (24, .skip), (25, .skip), (26, .skip), (27, .skip), (28, .skip), (29, .skip), (30, .skip), (31, .skip), (32, .skip), (33, .skip), (34, .skip), (35, .skip), (36, .skip), (37, .skip), (38, .skip), (39, .skip), (40, .skip), (41, .skip), (42, .skip), (43, .skip), (44, .skip), (45, .skip), (46, .skip), (47, .skip), (48, .skip), (49, .skip), (50, .skip), (51, .skip)], ofMem [((1, 0), .var [.i .i64 a0_0, .i .i64 a0_1, .i .i64 a0_2, .sl 143 a0_3, .i .i64 a0_4, .i .i64 a0_5, .i .i64 a0_6, .i .i64 a0_7, .i .i64 a0_8, .sl 155 a0_9, .i .i64 a0_10, .b a0_11, .b a0_12, .sl 31 a0_13, .sl 104 a0_14, .sl 84 a0_15, .sl 86 a0_16])]⟩
def impl_EngOk_l1 (k : Nat) (a0_0 : Int) (a0_1 : Int) (a0_2 : Int) (a0_3 : List (List T)) (a0_4 : Int) (a0_5 : Int) (a0_6 : Int) (a0_7 : Int) (a0_8 : Int) (a0_9 : List (List T)) (a0_10 : Int) (a0_11 : Bool) (a0_12 : Bool) (a0_13 : List (List T)) (a0_14 : List (List T)) (a0_15 : List (List T)) (a0_16 : List (List T)) (G1 : (Int) → Option Outs) : (Int) → Option Outs :=
  impl_EngOk_L1 k a0_0 a0_1 a0_2 a0_3 a0_4 a0_5 a0_6 a0_7 a0_8 a0_9 a0_10 a0_11 a0_12 a0_13 a0_14 a0_15 a0_16 G1
def impl_EngOk_U (k : Nat) (a0_0 : Int) (a0_1 : Int) (a0_2 : Int) (a0_3 : List (List T)) (a0_4 : Int) (a0_5 : Int) (a0_6 : Int) (a0_7 : Int) (a0_8 : Int) (a0_9 : List (List T)) (a0_10 : Int) (a0_11 : Bool) (a0_12 : Bool) (a0_13 : List (List T)) (a0_14 : List (List T)) (a0_15 : List (List T)) (a0_16 : List (List T)) (R1 : (Int) → Option Outs) : Option Outs :=
 R1 0
def impl_EngOk_u (k : Nat) (a0_0 : Int) (a0_1 : Int) (a0_2 : Int) (a0_3 : List (List T)) (a0_4 : Int) (a0_5 : Int) (a0_6 : Int) (a0_7 : Int) (a0_8 : Int) (a0_9 : List (List T)) (a0_10 : Int) (a0_11 : Bool) (a0_12 : Bool) (a0_13 : List (List T)) (a0_14 : List (List T)) (a0_15 : List (List T)) (a0_16 : List (List T)) : Option Outs :=
  impl_EngOk_U k a0_0 a0_1 a0_2 a0_3 a0_4 a0_5 a0_6 a0_7 a0_8 a0_9 a0_10 a0_11 a0_12 a0_13 a0_14 a0_15 a0_16 (fun v => fixN (impl_EngOk_l1 k a0_0 a0_1 a0_2 a0_3 a0_4 a0_5 a0_6 a0_7 a0_8 a0_9 a0_10 a0_11 a0_12 a0_13 a0_14 a0_15 a0_16) k v)
def impl_EngOk_it1 (k : Nat) (a0_0 : Int) (a0_1 : Int) (a0_2 : Int) (a0_3 : List (List T)) (a0_4 : Int) (a0_5 : Int) (a0_6 : Int) (a0_7 : Int) (a0_8 : Int) (a0_9 : List (List T)) (a0_10 : Int) (a0_11 : Bool) (a0_12 : Bool) (a0_13 : List (List T)) (a0_14 : List (List T)) (a0_15 : List (List T)) (a0_16 : List (List T)) (js : List Nat) (j : Nat) (s : St) : Option Outs := iter (LB E (evalF E P0 k) k [] N.impl_EngOk [.sr, .sl, .sr, .bl]) [] impl_EngOk_k1 (LK E (evalF E P0 k) k [] N.impl_EngOk [.v [.i a0_0, .i a0_1, .i a0_2, .r a0_3, .i a0_4, .i a0_5, .i a0_6, .i a0_7, .i a0_8, .r a0_9, .i a0_10, .b a0_11, .b a0_12, .r a0_13, .r a0_14, .r a0_15, .r a0_16]] [.sr, .sl, .sr, .bl] js) j s
theorem impl_EngOk_e (k : Nat) (a0_0 : Int) (a0_1 : Int) (a0_2 : Int) (a0_3 : List (List T)) (a0_4 : Int) (a0_5 : Int) (a0_6 : Int) (a0_7 : Int) (a0_8 : Int) (a0_9 : List (List T)) (a0_10 : Int) (a0_11 : Bool) (a0_12 : Bool) (a0_13 : List (List T)) (a0_14 : List (List T)) (a0_15 : List (List T)) (a0_16 : List (List T)) : evalF E P0 (k + 1) N.impl_EngOk [.v [.i a0_0, .i a0_1, .i a0_2, .r a0_3, .i a0_4, .i a0_5, .i a0_6, .i a0_7, .i a0_8, .r a0_9, .i a0_10, .b a0_11, .b a0_12, .r a0_13, .r a0_14, .r a0_15, .r a0_16]] = impl_EngOk_u k a0_0 a0_1 a0_2 a0_3 a0_4 a0_5 a0_6 a0_7 a0_8 a0_9 a0_10 a0_11 a0_12 a0_13 a0_14 a0_15 a0_16 := by
  have e0 : evalF E P0 (k + 1) N.impl_EngOk [.v [.i a0_0, .i a0_1, .i a0_2, .r a0_3, .i a0_4, .i a0_5, .i a0_6, .i a0_7, .i a0_8, .r a0_9, .i a0_10, .b a0_11, .b a0_12, .r a0_13, .r a0_14, .r a0_15, .r a0_16]] = impl_EngOk_U k a0_0 a0_1 a0_2 a0_3 a0_4 a0_5 a0_6 a0_7 a0_8 a0_9 a0_10 a0_11 a0_12 a0_13 a0_14 a0_15 a0_16 (fun v => impl_EngOk_it1 k a0_0 a0_1 a0_2 a0_3 a0_4 a0_5 a0_6 a0_7 a0_8 a0_9 a0_10 a0_11 a0_12 a0_13 a0_14 a0_15 a0_16 [] k (impl_EngOk_S1 a0_0 a0_1 a0_2 a0_3 a0_4 a0_5 a0_6 a0_7 a0_8 a0_9 a0_10 a0_11 a0_12 a0_13 a0_14 a0_15 a0_16 v)) := by kernel_rfl
  have e1 : ∀ (j1 : Nat) (v : Int), impl_EngOk_it1 k a0_0 a0_1 a0_2 a0_3 a0_4 a0_5 a0_6 a0_7 a0_8 a0_9 a0_10 a0_11 a0_12 a0_13 a0_14 a0_15 a0_16 [] (j1 + 1) (impl_EngOk_S1 a0_0 a0_1 a0_2 a0_3 a0_4 a0_5 a0_6 a0_7 a0_8 a0_9 a0_10 a0_11 a0_12 a0_13 a0_14 a0_15 a0_16 v) = impl_EngOk_L1 k a0_0 a0_1 a0_2 a0_3 a0_4 a0_5 a0_6 a0_7 a0_8 a0_9 a0_10 a0_11 a0_12 a0_13 a0_14 a0_15 a0_16 (fun v => impl_EngOk_it1 k a0_0 a0_1 a0_2 a0_3 a0_4 a0_5 a0_6 a0_7 a0_8 a0_9 a0_10 a0_11 a0_12 a0_13 a0_14 a0_15 a0_16 [] j1 (impl_EngOk_S1 a0_0 a0_1 a0_2 a0_3 a0_4 a0_5 a0_6 a0_7 a0_8 a0_9 a0_10 a0_11 a0_12 a0_13 a0_14 a0_15 a0_16 v)) v := by
    intro j1 v; kernel_rfl
  have i1 : ∀ (j1 : Nat) (v : Int), impl_EngOk_it1 k a0_0 a0_1 a0_2 a0_3 a0_4 a0_5 a0_6 a0_7 a0_8 a0_9 a0_10 a0_11 a0_12 a0_13 a0_14 a0_15 a0_16 [] j1 (impl_EngOk_S1 a0_0 a0_1 a0_2 a0_3 a0_4 a0_5 a0_6 a0_7 a0_8 a0_9 a0_10 a0_11 a0_12 a0_13 a0_14 a0_15 a0_16 v) = fixN (impl_EngOk_l1 k a0_0 a0_1 a0_2 a0_3 a0_4 a0_5 a0_6 a0_7 a0_8 a0_9 a0_10 a0_11 a0_12 a0_13 a0_14 a0_15 a0_16) j1 v := by
    intro j1 v
    refine iter_fix (impl_EngOk_S1 a0_0 a0_1 a0_2 a0_3 a0_4 a0_5 a0_6 a0_7 a0_8 a0_9 a0_10 a0_11 a0_12 a0_13 a0_14 a0_15 a0_16) (impl_EngOk_l1 k a0_0 a0_1 a0_2 a0_3 a0_4 a0_5 a0_6 a0_7 a0_8 a0_9 a0_10 a0_11 a0_12 a0_13 a0_14 a0_15 a0_16) (fun j1 v => (e1 j1 v).trans ?_) j1 v
    unfold impl_EngOk_l1
    rfl
  rw [e0]; unfold impl_EngOk_u
  simp only [i1]
/- laws.FnExactEngOk -/
def laws_FnExactEngOk_u (k : Nat) (a0_0 : Int) (a0_1 : Int) (a0_2 : Int) (a0_3 : List (List T)) (a0_4 : Int) (a0_5 : Int) (a0_6 : Int) (a0_7 : Int) (a0_8 : Int) (a0_9 : List (List T)) (a0_10 : Int) (a0_11 : Bool) (a0_12 : Bool) (a0_13 : List (List T)) (a0_14 : List (List T)) (a0_15 : List (List T)) (a0_16 : List (List T)) : Option Outs :=
 bindO (evalF E P0 k N.laws_szEng [.v [.i a0_0, .i a0_1, .i a0_2, .r a0_3, .i a0_4, .i a0_5, .i a0_6, .i a0_7, .i a0_8, .r a0_9, .i a0_10, .b a0_11, .b a0_12, .r a0_13, .r a0_14, .r a0_15, .r a0_16], .v [.i 1048576]]) fun o2 =>
 bif (decide ((o2.t 0).asI < 0)) then
  some ⟨[.b true], []⟩
 else
  bindO (evalF E P0 k N.laws_toEng [.v [.i a0_0, .i a0_1, .i a0_2, .r a0_3, .i a0_4, .i a0_5, .i a0_6, .i a0_7, .i a0_8, .r a0_9, .i a0_10, .b a0_11, .b a0_12, .r a0_13, .r a0_14, .r a0_15, .r a0_16]]) fun o5 =>
  bindO (evalF E P0 k N.spec_EngOk [.v [.i (o5.t 0).asI, .i (o5.t 1).asI, .i (o5.t 2).asI, .r (o5.t 3).asR, .i (o5.t 4).asI, .i (o5.t 5).asI, .i (o5.t 6).asI, .i (o5.t 7).asI, .i (o5.t 8).asI, .r (o5.t 9).asR, .i (o5.t 10).asI, .b (o5.t 11).asB, .b (o5.t 12).asB, .r (o5.t 13).asR, .r (o5.t 14).asR, .r (o5.t 15).asR, .r (o5.t 16).asR]]) fun o6 =>
  bindO (evalF E P0 k N.laws_toEng [.v [.i a0_0, .i a0_1, .i a0_2, .r a0_3, .i a0_4, .i a0_5, .i a0_6, .i a0_7, .i a0_8, .r a0_9, .i a0_10, .b a0_11, .b a0_12, .r a0_13, .r a0_14, .r a0_15, .r a0_16]]) fun o8 =>
  bindO (evalF E P0 k N.impl_EngOk [.v [.i (o8.t 0).asI, .i (o8.t 1).asI, .i (o8.t 2).asI, .r (o8.t 3).asR, .i (o8.t 4).asI, .i (o8.t 5).asI, .i (o8.t 6).asI, .i (o8.t 7).asI, .i (o8.t 8).asI, .r (o8.t 9).asR, .i (o8.t 10).asI, .b (o8.t 11).asB, .b (o8.t 12).asB, .r (o8.t 13).asR, .r (o8.t 14).asR, .r (o8.t 15).asR, .r (o8.t 16).asR]]) fun o10 =>
  bif (!((o10.t 0).asB == (o6.t 0).asB)) then
   some ⟨[.b false], []⟩
  else
   bindO (evalF E P0 k N.laws_toEng [.v [.i a0_0, .i a0_1, .i a0_2, .r a0_3, .i a0_4, .i a0_5, .i a0_6, .i a0_7, .i a0_8, .r a0_9, .i a0_10, .b a0_11, .b a0_12, .r a0_13, .r a0_14, .r a0_15, .r a0_16]]) fun o13 =>
   bindO (evalF E P0 k N.laws_eqEng [.v [.i (o8.t 0).asI, .i (o8.t 1).asI, .i (o8.t 2).asI, .r (o8.t 3).asR, .i (o8.t 4).asI, .i (o8.t 5).asI, .i (o8.t 6).asI, .i (o8.t 7).asI, .i (o8.t 8).asI, .r (o8.t 9).asR, .i (o8.t 10).asI, .b (o8.t 11).asB, .b (o8.t 12).asB, .r (o8.t 13).asR, .r (o8.t 14).asR, .r (o8.t 15).asR, .r (o8.t 16).asR], .v [.i (o13.t 0).asI, .i (o13.t 1).asI, .i (o13.t 2).asI, .r (o13.t 3).asR, .i (o13.t 4).asI, .i (o13.t 5).asI, .i (o13.t 6).asI, .i (o13.t 7).asI, .i (o13.t 8).asI, .r (o13.t 9).asR, .i (o13.t 10).asI, .b (o13.t 11).asB, .b (o13.t 12).asB, .r (o13.t 13).asR, .r (o13.t 14).asR, .r (o13.t 15).asR, .r (o13.t 16).asR]]) fun o14 =>
   bif (!(o14.t 0).asB) then some ⟨[.b false], []⟩ else some ⟨[.b true], []⟩
theorem laws_FnExactEngOk_e (k : Nat) (a0_0 : Int) (a0_1 : Int) (a0_2 : Int) (a0_3 : List (List T)) (a0_4 : Int) (a0_5 : Int) (a0_6 : Int) (a0_7 : Int) (a0_8 : Int) (a0_9 : List (List T)) (a0_10 : Int) (a0_11 : Bool) (a0_12 : Bool) (a0_13 : List (List T)) (a0_14 : List (List T)) (a0_15 : List (List T)) (a0_16 : List (List T)) : evalF E P0 (k + 1) N.laws_FnExactEngOk [.v [.i a0_0, .i a0_1, .i a0_2, .r a0_3, .i a0_4, .i a0_5, .i a0_6, .i a0_7, .i a0_8, .r a0_9, .i a0_10, .b a0_11, .b a0_12, .r a0_13, .r a0_14, .r a0_15, .r a0_16]] = laws_FnExactEngOk_u k a0_0 a0_1 a0_2 a0_3 a0_4 a0_5 a0_6 a0_7 a0_8 a0_9 a0_10 a0_11 a0_12 a0_13 a0_14 a0_15 a0_16 := by kernel_rfl
/- spec.Online -/
def spec_Online_u (k : Nat) (a0_0 : Int) (a0_1 : Int) (a0_2 : Int) (a0_3 : List (List T)) (a0_4 : Int) (a0_5 : Int) (a0_6 : Int) (a0_7 : Int) (a0_8 : Int) (a0_9 : List (List T)) (a0_10 : Int) (a0_11 : Bool) (a0_12 : Bool) (a0_13 : List (List T)) (a0_14 : List (List T)) (a0_15 : List (List T)) (a0_16 : List (List T)) : Option Outs :=
 bindO (evalF E P0 k N.spec_EngOk [.v [.i a0_0, .i a0_1, .i a0_2, .r a0_3, .i a0_4, .i a0_5, .i a0_6, .i a0_7, .i a0_8, .r a0_9, .i a0_10, .b a0_11, .b a0_12, .r a0_13, .r a0_14, .r a0_15, .r a0_16]]) fun o2 =>
 bif (o2.t 0).asB then bif (!a0_11) then some ⟨[.b (!a0_12)], []⟩ else some ⟨[.b false], []⟩ else some ⟨[.b false], []⟩
theorem spec_Online_e (k : Nat) (a0_0 : Int) (a0_1 : Int) (a0_2 : Int) (a0_3 : List (List T)) (a0_4 : Int) (a0_5 : Int) (a0_6 : Int) (a0_7 : Int) (a0_8 : Int) (a0_9 : List (List T)) (a0_10 : Int) (a0_11 : Bool) (a0_12 : Bool) (a0_13 : List (List T)) (a0_14 : List (List T)) (a0_15 : List (List T)) (a0_16 : List (List T)) : evalF E P0 (k + 1) N.spec_Online [.v [.i a0_0, .i a0_1, .i a0_2, .r a0_3, .i a0_4, .i a0_5, .i a0_6, .i a0_7, .i a0_8, .r a0_9, .i a0_10, .b a0_11, .b a0_12, .r a0_13, .r a0_14, .r a0_15, .r a0_16]] = spec_Online_u k a0_0 a0_1 a0_2 a0_3 a0_4 a0_5 a0_6 a0_7 a0_8 a0_9 a0_10 a0_11 a0_12 a0_13 a0_14 a0_15 a0_16 := by kernel_rfl
/- impl.Online -/
def impl_Online_u (k : Nat) (a0_0 : Int) (a0_1 : Int) (a0_2 : Int) (a0_3 : List (List T)) (a0_4 : Int) (a0_5 : Int) (a0_6 : Int) (a0_7 : Int) (a0_8 : Int) (a0_9 : List (List T)) (a0_10 : Int) (a0_11 : Bool) (a0_12 : Bool) (a0_13 : List (List T)) (a0_14 : List (List T)) (a0_15 : List (List T)) (a0_16 : List (List T)) : Option Outs :=
 bindO (evalF E P0 k N.impl_EngOk [.v [.i a0_0, .i a0_1, .i a0_2, .r a0_3, .i a0_4, .i a0_5, .i a0_6, .i a0_7, .i a0_8, .r a0_9, .i a0_10, .b a0_11, .b a0_12, .r a0_13, .r a0_14, .r a0_15, .r a0_16]]) fun o2 =>
 bif (o2.t 0).asB then bif (!a0_11) then some ⟨[.b (!a0_12)], []⟩ else some ⟨[.b false], []⟩ else some ⟨[.b false], []⟩
theorem impl_Online_e (k : Nat) (a0_0 : Int) (a0_1 : Int) (a0_2 : Int) (a0_3 : List (List T)) (a0_4 : Int) (a0_5 : Int) (a0_6 : Int) (a0_7 : Int) (a0_8 : Int) (a0_9 : List (List T)) (a0_10 : Int) (a0_11 : Bool) (a0_12 : Bool) (a0_13 : List (List T)) (a0_14 : List (List T)) (a0_15 : List (List T)) (a0_16 : List (List T)) : evalF E P0 (k + 1) N.impl_Online [.v [.i a0_0, .i a0_1, .i a0_2, .r a0_3, .i a0_4, .i a0_5, .i a0_6, .i a0_7, .i a0_8, .r a0_9, .i a0_10, .b a0_11, .b a0_12, .r a0_13, .r a0_14, .r a0_15, .r a0_16]] = impl_Online_u k a0_0 a0_1 a0_2 a0_3 a0_4 a0_5 a0_6 a0_7 a0_8 a0_9 a0_10 a0_11 a0_12 a0_13 a0_14 a0_15 a0_16 := by kernel_rfl
/- laws.FnExactOnline -/
def laws_FnExactOnline_u (k : Nat) (a0_0 : Int) (a0_1 : Int) (a0_2 : Int) (a0_3 : List (List T)) (a0_4 : Int) (a0_5 : Int) (a0_6 : Int) (a0_7 : Int) (a0_8 : Int) (a0_9 : List (List T)) (a0_10 : Int) (a0_11 : Bool) (a0_12 : Bool) (a0_13 : List (List T)) (a0_14 : List (List T)) (a0_15 : List (List T)) (a0_16 : List (List T)) : Option Outs :=
 bindO (evalF E P0 k N.laws_szEng [.v [.i a0_0, .i a0_1, .i a0_2, .r a0_3, .i a0_4, .i a0_5, .i a0_6, .i a0_7, .i a0_8, .r a0_9, .i a0_10, .b a0_11, .b a0_12, .r a0_13, .r a0_14, .r a0_15, .r a0_16], .v [.i 1048576]]) fun o2 =>
 bif (decide ((o2.t 0).asI < 0)) then
  some ⟨[.b true], []⟩
 else
  bindO (evalF E P0 k N.laws_toEng [.v [.i a0_0, .i a0_1, .i a0_2, .r a0_3, .i a0_4, .i a0_5, .i a0_6, .i a0_7, .i a0_8, .r a0_9, .i a0_10, .b a0_11, .b a0_12, .r a0_13, .r a0_14, .r a0_15, .r a0_16]]) fun o5 =>
  bindO (evalF E P0 k N.spec_Online [.v [.i (o5.t 0).asI, .i (o5.t 1).asI, .i (o5.t 2).asI, .r (o5.t 3).asR, .i (o5.t 4).asI, .i (o5.t 5).asI, .i (o5.t 6).asI, .i (o5.t 7).asI, .i (o5.t 8).asI, .r (o5.t 9).asR, .i (o5.t 10).asI, .b (o5.t 11).asB, .b (o5.t 12).asB, .r (o5.t 13).asR, .r (o5.t 14).asR, .r (o5.t 15).asR, .r (o5.t 16).asR]]) fun o6 =>
  bindO (evalF E P0 k N.laws_toEng [.v [.i a0_0, .i a0_1, .i a0_2, .r a0_3, .i a0_4, .i a0_5, .i a0_6, .i a0_7, .i a0_8, .r a0_9, .i a0_10, .b a0_11, .b a0_12, .r a0_13, .r a0_14, .r a0_15, .r a0_16]]) fun o8 =>
  bindO (evalF E P0 k N.impl_Online [.v [.i (o8.t 0).asI, .i (o8.t 1).asI, .i (o8.t 2).asI, .r (o8.t 3).asR, .i (o8.t 4).asI, .i (o8.t 5).asI, .i (o8.t 6).asI, .i (o8.t 7).asI, .i (o8.t 8).asI, .r (o8.t 9).asR, .i (o8.t 10).asI, .b (o8.t 11).asB, .b (o8.t 12).asB, .r (o8.t 13).asR, .r (o8.t 14).asR, .r (o8.t 15).asR, .r (o8.t 16).asR]]) fun o10 =>
  bif (!((o10.t 0).asB == (o6.t 0).asB)) then
   some ⟨[.b false], []⟩
  else
   bindO (evalF E P0 k N.laws_toEng [.v [.i a0_0, .i a0_1, .i a0_2, .r a0_3, .i a0_4, .i a0_5, .i a0_6, .i a0_7, .i a0_8, .r a0_9, .i a0_10, .b a0_11, .b a0_12, .r a0_13, .r a0_14, .r a0_15, .r a0_16]]) fun o13 =>
   bindO (evalF E P0 k N.laws_eqEng [.v [.i (o8.t 0).asI, .i (o8.t 1).asI, .i (o8.t 2).asI, .r (o8.t 3).asR, .i (o8.t 4).asI, .i (o8.t 5).asI, .i (o8.t 6).asI, .i (o8.t 7).asI, .i (o8.t 8).asI, .r (o8.t 9).asR, .i (o8.t 10).asI, .b (o8.t 11).asB, .b (o8.t 12).asB, .r (o8.t 13).asR, .r (o8.t 14).asR, .r (o8.t 15).asR, .r (o8.t 16).asR], .v [.i (o13.t 0).asI, .i (o13.t 1).asI, .i (o13.t 2).asI, .r (o13.t 3).asR, .i (o13.t 4).asI, .i (o13.t 5).asI, .i (o13.t 6).asI, .i (o13.t 7).asI, .i (o13.t 8).asI, .r (o13.t 9).asR, .i (o13.t 10).asI, .b (o13.t 11).asB, .b (o13.t 12).asB, .r (o13.t 13).asR, .r (o13.t 14).asR, .r (o13.t 15).asR, .r (o13.t 16).asR]]) fun o14 =>
   bif (!(o14.t 0).asB) then some ⟨[.b false], []⟩ else some ⟨[.b true], []⟩
theorem laws_FnExactOnline_e (k : Nat) (a0_0 : Int) (a0_1 : Int) (a0_2 : Int) (a0_3 : List (List T)) (a0_4 : Int) (a0_5 : Int) (a0_6 : Int) (a0_7 : Int) (a0_8 : Int) (a0_9 : List (List T)) (a0_10 : Int) (a0_11 : Bool) (a0_12 : Bool) (a0_13 : List (List T)) (a0_14 : List (List T)) (a0_15 : List (List T)) (a0_16 : List (List T)) : evalF E P0 (k + 1) N.laws_FnExactOnline [.v [.i a0_0, .i a0_1, .i a0_2, .r a0_3, .i a0_4, .i a0_5, .i a0_6, .i a0_7, .i a0_8, .r a0_9, .i a0_10, .b a0_11, .b a0_12, .r a0_13, .r a0_14, .r a0_15, .r a0_16]] = laws_FnExactOnline_u k a0_0 a0_1 a0_2 a0_3 a0_4 a0_5 a0_6 a0_7 a0_8 a0_9 a0_10 a0_11 a0_12 a0_13 a0_14 a0_15 a0_16 := by kernel_rfl
/- spec.l15Can -/
def spec_l15Can_L2 (k : Nat) (a0_0 : Int) (a0_1 : Int) (a0_2 : Int) (a0_3 : List (List T)) (a0_4 : Int) (a0_5 : Int) (a0_6 : Int) (a0_7 : Int) (a0_8 : Int) (a0_9 : List (List T)) (a0_10 : Int) (a0_11 : Bool) (a0_12 : Bool) (a0_13 : List (List T)) (a0_14 : List (List T)) (a0_15 : List (List T)) (a0_16 : List (List T)) (a1 : Int) (G2 : (Int) → Option Outs) : (Int) → Option Outs := fun v16 =>
 bif (decide (v16 < a1)) then
  chk (decide (0 ≤ v16) && decide (v16 < (a0_13.length : Int))) <|
  chk (decide (0 ≤ a1) && decide (a1 < (a0_13.length : Int))) <|
  bindO (evalF E P0 k N.spec_Clash [.v [.i a0_1, .i a0_2], .v [.i (at_ a0_13 v16.toNat 0).asI, .i (at_ a0_13 v16.toNat 1).asI, .i (at_ a0_13 v16.toNat 2).asI, .i (at_ a0_13 v16.toNat 3).asI, .r (at_ a0_13 v16.toNat 4).asR], .v [.i (at_ a0_13 a1.toNat 0).asI, .i (at_ a0_13 a1.toNat 1).asI, .i (at_ a0_13 a1.toNat 2).asI, .i (at_ a0_13 a1.toNat 3).asI, .r (at_ a0_13 a1.toNat 4).asR]]) fun o192 =>
  bif (o192.t 0).asB then some ⟨[.b false], []⟩ else G2 (IntKind.wrap .i64 (v16 + 1))
 else
  bif (decide ((a0_14.length : Int) < 4)) then
   bif (decide ((IntKind.wrap .i64 ((a0_15.length : Int) + (a0_14.length : Int))) < 8)) then
    some ⟨[.b (decide ((IntKind.wrap .i64 ((a0_16.length : Int) + (a0_14.length : Int))) < 400))], []⟩
   else
    some ⟨[.b false], []⟩
  else
   some ⟨[.b false], []⟩
def spec_l15Can_k2 : List Nat := [1, 2, 4, 6, 48, 49, 50, 51, 52, 53, 54, 55, 56, 57, 58, 59, 60, 61, 62, 63, 64, 65, 66, 67, 68, 69, 70, 71]
def spec_l15Can_S2 (a0_0 : Int) (a0_1 : Int) (a0_2 : Int) (a0_3 : List (List T)) (a0_4 : Int) (a0_5 : Int) (a0_6 : Int) (a0_7 : Int) (a0_8 : Int) (a0_9 : List (List T)) (a0_10 : Int) (a0_11 : Bool) (a0_12 : Bool) (a0_13 : List (List T)) (a0_14 : List (List T)) (a0_15 : List (List T)) (a0_16 : List (List T)) (a1 : Int) : (Int) → St := fun v16 => ⟨ofSl [(1, .i .i64 a1), (2, .ptr (2, 0) 0), (4, .b false), (6, .i .i64 v16), (48, .skip), (49, .skip), (50, .skip), (51, .skip), (52, .skip), (53, .skip), (54, .skip), (55, .skip), (56, .skip), (57, .skip), (58, .skip), (59, .skip), (60, .skip), (61, .skip), (62, .skip), (63, .skip), (64, .skip), (65, .skip), (66, .skip), (67, .skip), (68, .skip), (69, .skip), (70, .skip), (71, .skip)], ofMem [((2, 0), .var [.i .i64 a0_0, .i .i64 a0_1, .i .i64 a0_2, .sl 143 a0_3, .i .i64 a0_4, .i .i64 a0_5, .i .i64 a0_6, .i .i64 a0_7, .i .i64 a0_8, .sl 155 a0_9, .i .i64 a0_10, .b a0_11, .b a0_12, .sl 31 a0_13, .sl 104 a0_14, .sl 84 a0_15, .sl 86 a0_16])]⟩
def spec_l15Can_L1 (k : Nat) (a0_0 : Int) (a0_1 : Int) (a0_2 : Int) (a0_3 : List (List T)) (a0_4 : Int) (a0_5 : Int) (a0_6 : Int) (a0_7 : Int) (a0_8 : Int) (a0_9 : List (List T)) (a0_10 : Int) (a0_11 : Bool) (a0_12 : Bool) (a0_13 : List (List T)) (a0_14 : List (List T)) (a0_15 : List (List T)) (a0_16 : List (List T)) (a1 : Int) (R2 : (Int) → Option Outs) (G1 : (Int) → Option Outs) : (Int) → Option Outs := fun v8 =>
 bif (decide (v8 < (a0_14.length : Int))) then
  chk (decide (0 ≤ v8) && decide (v8 < (a0_14.length : Int))) <|
  chk (decide (0 ≤ a1) && decide (a1 < (a0_13.length : Int))) <|
  bindO (evalF E P0 k N.spec_Clash [.v [.i a0_1, .i a0_2], .v [.i (at_ a0_14 v8.toNat 0).asI, .i (at_ a0_14 v8.toNat 1).asI, .i (at_ a0_14 v8.toNat 2).asI, .i (at_ a0_14 v8.toNat 3).asI, .r (at_ a0_14 v8.toNat 4).asR], .v [.i (at_ a0_13 a1.toNat 0).asI, .i (at_ a0_13 a1.toNat 1).asI, .i (at_ a0_13 a1.toNat 2).asI, .i (at_ a0_13 a1.toNat 3).asI, .r (at_ a0_13 a1.toNat 4).asR]]) fun o96 =>
  bif (o96.t 0).asB then some ⟨[.b false], []⟩ else G1 (IntKind.wrap .i64 (v8 + 1))
 else
  R2 0
def spec_l15Can_k1 : List Nat := [1, 2, 4, 5, 6, 29, 30, 31, 32, 33, 34, 35, 36, 37, 38, 39, 40, 41, 42, 43, 44, 45, 46, 47, 48, 49, 50, 51, 52, 53, 54, 55, 56, 57, 58, 59, 60, 61, 62, 63, 64, 65, 66, 67, 68, 69, 70, 71]
def spec_l15Can_S1 (a0_0 : Int) (a0_1 : Int) (a0_2 : Int) (a0_3 : List (List T)) (a0_4 : Int) (a0_5 : Int) (a0_6 : Int) (a0_7 : Int) (a0_8 : Int) (a0_9 : List (List T)) (a0_10 : Int) (a0_11 : Bool) (a0_12 : Bool) (a0_13 : List (List T)) (a0_14 : List (List T)) (a0_15 : List (List T)) (a0_16 : List (List T)) (a1 : Int) : (Int) → St := fun v8 => ⟨ofSl [(1, .i .i64 a1), (2, .ptr (2, 0) 0), (4, .b false), (5, .i .i64 v8), (6, .skip), (29, .skip), (30, .skip), (31, .skip), (32, .skip), (33, .skip), (34, .skip), (35, .skip), (36, .skip), (37, .skip), (38, .skip), (39, .skip), (40, .skip), (41, .skip), (42, .skip), (43, .skip), (44, .skip), (45, .skip), (46, .skip), (47, .skip), (48, .skip), (49, .skip), (50, .skip), (51, .skip), (52, .skip), (53, .skip), (54, .skip), (55, .skip), (56, .skip), (57, .skip), (58, .skip), (59, .skip), (60, .skip), (61, .skip), (62, .skip), (63, .skip), (64, .skip), (65, .skip), (66, .skip), (67, .skip), (68, .skip), (69, .skip), (70, .skip), (71, .skip)], ofMem [((2, 0), .var [.i .i64 a0_0, .i .i64 a0_1, .i .i64 a0_2, .sl 143 a0_3, .i .i64 a0_4, .i .i64 a0_5, .i .i64 a0_6, .i .i64 a0_7, .i .i64 a0_8, .sl 155 a0_9, .i .i64 a0_10, .b a0_11, .b a0_12, .sl 31 a0_13, .sl 104 a0_14, .sl 84 a0_15, .sl 86 a0_16])]⟩
def spec_l15Can_l2 (k : Nat) (a0_0 : Int) (a0_1 : Int) (a0_2 : Int) (a0_3 : List (List T)) (a0_4 : Int) (a0_5 : Int) (a0_6 : Int) (a0_7 : Int) (a0_8 : Int) (a0_9 : List (List T)) (a0_10 : Int) (a0_11 : Bool) (a0_12 : Bool) (a0_13 : List (List T)) (a0_14 : List (List T)) (a0_15 : List (List T)) (a0_16 : List (List T)) (a1 : Int) (G2 : (Int) → Option Outs) : (Int) → Option Outs :=
  spec_l15Can_L2 k a0_0 a0_1 a0_2 a0_3 a0_4 a0_5 a0_6 a0_7 a0_8 a0_9 a0_10 a0_11 a0_12 a0_13 a0_14 a0_15 a0_16 a1 G2
def spec_l15Can_l1 (k : Nat) (a0_0 : Int) (a0_1 : Int) (a0_2 : Int) (a0_3 : List (List T)) (a0_4 : Int) (a0_5 : Int) (a0_6 : Int) (a0_7 : Int) (a0_8 : Int) (a0_9 : List (List T)) (a0_10 : Int) (a0_11 : Bool) (a0_12 : Bool) (a0_13 : List (List T)) (a0_14 : List (List T)) (a0_15 : List (List T)) (a0_16 : List (List T)) (a1 : Int) (G1 : (Int) → Option Outs) : (Int) → Option Outs :=
  spec_l15Can_L1 k a0_0 a0_1 a0_2 a0_3 a0_4 a0_5 a0_6 a0_7 a0_8 a0_9 a0_10 a0_11 a0_12 a0_13 a0_14 a0_15 a0_16 a1 (fun v => fixN (spec_l15Can_l2 k a0_0 a0_1 a0_2 a0_3 a0_4 a0_5 a0_6 a0_7 a0_8 a0_9 a0_10 a0_11 a0_12 a0_13 a0_14 a0_15 a0_16 a1) k v) G1
def spec_l15Can_U (k : Nat) (a0_0 : Int) (a0_1 : Int) (a0_2 : Int) (a0_3 : List (List T)) (a0_4 : Int) (a0_5 : Int) (a0_6 : Int) (a0_7 : Int) (a0_8 : Int) (a0_9 : List (List T)) (a0_10 : Int) (a0_11 : Bool) (a0_12 : Bool) (a0_13 : List (List T)) (a0_14 : List (List T)) (a0_15 : List (List T)) (a0_16 : List (List T)) (a1 : Int) (R1 : (Int) → Option Outs) : Option Outs :=
 R1 0
def spec_l15Can_u (k : Nat) (a0_0 : Int) (a0_1 : Int) (a0_2 : Int) (a0_3 : List (List T)) (a0_4 : Int) (a0_5 : Int) (a0_6 : Int) (a0_7 : Int) (a0_8 : Int) (a0_9 : List (List T)) (a0_10 : Int) (a0_11 : Bool) (a0_12 : Bool) (a0_13 : List (List T)) (a0_14 : List (List T)) (a0_15 : List (List T)) (a0_16 : List (List T)) (a1 : Int) : Option Outs :=
  spec_l15Can_U k a0_0 a0_1 a0_2 a0_3 a0_4 a0_5 a0_6 a0_7 a0_8 a0_9 a0_10 a0_11 a0_12 a0_13 a0_14 a0_15 a0_16 a1 (fun v => fixN (spec_l15Can_l1 k a0_0 a0_1 a0_2 a0_3 a0_4 a0_5 a0_6 a0_7 a0_8 a0_9 a0_10 a0_11 a0_12 a0_13 a0_14 a0_15 a0_16 a1) k v)
def spec_l15Can_it1 (k : Nat) (a0_0 : Int) (a0_1 : Int) (a0_2 : Int) (a0_3 : List (List T)) (a0_4 : Int) (a0_5 : Int) (a0_6 : Int) (a0_7 : Int) (a0_8 : Int) (a0_9 : List (List T)) (a0_10 : Int) (a0_11 : Bool) (a0_12 : Bool) (a0_13 : List (List T)) (a0_14 : List (List T)) (a0_15 : List (List T)) (a0_16 : List (List T)) (a1 : Int) (js : List Nat) (j : Nat) (s : St) : Option Outs := iter (LB E (evalF E P0 k) k [] N.spec_l15Can [.sr, .sl, .sr, .bl]) [] spec_l15Can_k1 (LK E (evalF E P0 k) k [] N.spec_l15Can [.v [.i a0_0, .i a0_1, .i a0_2, .r a0_3, .i a0_4, .i a0_5, .i a0_6, .i a0_7, .i a0_8, .r a0_9, .i a0_10, .b a0_11, .b a0_12, .r a0_13, .r a0_14, .r a0_15, .r a0_16], .v [.i a1]] [.sr, .sl, .sr, .bl] js) j s
def spec_l15Can_it2 (k : Nat) (a0_0 : Int) (a0_1 : Int) (a0_2 : Int) (a0_3 : List (List T)) (a0_4 : Int) (a0_5 : Int) (a0_6 : Int) (a0_7 : Int) (a0_8 : Int) (a0_9 : List (List T)) (a0_10 : Int) (a0_11 : Bool) (a0_12 : Bool) (a0_13 : List (List T)) (a0_14 : List (List T)) (a0_15 : List (List T)) (a0_16 : List (List T)) (a1 : Int) (js : List Nat) (j : Nat) (s : St) : Option Outs := iter (LB E (evalF E P0 k) k [] N.spec_l15Can [.sr, .sr, .sl, .sr, .bl]) [] spec_l15Can_k2 (LK E (evalF E P0 k) k [] N.spec_l15Can [.v [.i a0_0, .i a0_1, .i a0_2, .r a0_3, .i a0_4, .i a0_5, .i a0_6, .i a0_7, .i a0_8, .r a0_9, .i a0_10, .b a0_11, .b a0_12, .r a0_13, .r a0_14, .r a0_15, .r a0_16], .v [.i a1]] [.sr, .sr, .sl, .sr, .bl] js) j s
theorem spec_l15Can_e (k : Nat) (a0_0 : Int) (a0_1 : Int) (a0_2 : Int) (a0_3 : List (List T)) (a0_4 : Int) (a0_5 : Int) (a0_6 : Int) (a0_7 : Int) (a0_8 : Int) (a0_9 : List (List T)) (a0_10 : Int) (a0_11 : Bool) (a0_12 : Bool) (a0_13 : List (List T)) (a0_14 : List (List T)) (a0_15 : List (List T)) (a0_16 : List (List T)) (a1 : Int) : evalF E P0 (k + 1) N.spec_l15Can [.v [.i a0_0, .i a0_1, .i a0_2, .r a0_3, .i a0_4, .i a0_5, .i a0_6, .i a0_7, .i a0_8, .r a0_9, .i a0_10, .b a0_11, .b a0_12, .r a0_13, .r a0_14, .r a0_15, .r a0_16], .v [.i a1]] = spec_l15Can_u k a0_0 a0_1 a0_2 a0_3 a0_4 a0_5 a0_6 a0_7 a0_8 a0_9 a0_10 a0_11 a0_12 a0_13 a0_14 a0_15 a0_16 a1 := by
  have e0 : evalF E P0 (k + 1) N.spec_l15Can [.v [.i a0_0, .i a0_1, .i a0_2, .r a0_3, .i a0_4, .i a0_5, .i a0_6, .i a0_7, .i a0_8, .r a0_9, .i a0_10, .b a0_11, .b a0_12, .r a0_13, .r a0_14, .r a0_15, .r a0_16], .v [.i a1]] = spec_l15Can_U k a0_0 a0_1 a0_2 a0_3 a0_4 a0_5 a0_6 a0_7 a0_8 a0_9 a0_10 a0_11 a0_12 a0_13 a0_14 a0_15 a0_16 a1 (fun v => spec_l15Can_it1 k a0_0 a0_1 a0_2 a0_3 a0_4 a0_5 a0_6 a0_7 a0_8 a0_9 a0_10 a0_11 a0_12 a0_13 a0_14 a0_15 a0_16 a1 [] k (spec_l15Can_S1 a0_0 a0_1 a0_2 a0_3 a0_4 a0_5 a0_6 a0_7 a0_8 a0_9 a0_10 a0_11 a0_12 a0_13 a0_14 a0_15 a0_16 a1 v)) := by kernel_rfl
  have e2 : ∀ (j2 : Nat) (v : Int), spec_l15Can_it2 k a0_0 a0_1 a0_2 a0_3 a0_4 a0_5 a0_6 a0_7 a0_8 a0_9 a0_10 a0_11 a0_12 a0_13 a0_14 a0_15 a0_16 a1 [] (j2 + 1) (spec_l15Can_S2 a0_0 a0_1 a0_2 a0_3 a0_4 a0_5 a0_6 a0_7 a0_8 a0_9 a0_10 a0_11 a0_12 a0_13 a0_14 a0_15 a0_16 a1 v) = spec_l15Can_L2 k a0_0 a0_1 a0_2 a0_3 a0_4 a0_5 a0_6 a0_7 a0_8 a0_9 a0_10 a0_11 a0_12 a0_13 a0_14 a0_15 a0_16 a1 (fun v => spec_l15Can_it2 k a0_0 a0_1 a0_2 a0_3 a0_4 a0_5 a0_6 a0_7 a0_8 a0_9 a0_10 a0_11 a0_12 a0_13 a0_14 a0_15 a0_16 a1 [] j2 (spec_l15Can_S2 a0_0 a0_1 a0_2 a0_3 a0_4 a0_5 a0_6 a0_7 a0_8 a0_9 a0_10 a0_11 a0_12 a0_13 a0_14 a0_15 a0_16 a1 v)) v := by
    intro j2 v; kernel_rfl
  have i2 : ∀ (j2 : Nat) (v : Int), spec_l15Can_it2 k a0_0 a0_1 a0_2 a0_3 a0_4 a0_5 a0_6 a0_7 a0_8 a0_9 a0_10 a0_11 a0_12 a0_13 a0_14 a0_15 a0_16 a1 [] j2 (spec_l15Can_S2 a0_0 a0_1 a0_2 a0_3 a0_4 a0_5 a0_6 a0_7 a0_8 a0_9 a0_10 a0_11 a0_12 a0_13 a0_14 a0_15 a0_16 a1 v) = fixN (spec_l15Can_l2 k a0_0 a0_1 a0_2 a0_3 a0_4 a0_5 a0_6 a0_7 a0_8 a0_9 a0_10 a0_11 a0_12 a0_13 a0_14 a0_15 a0_16 a1) j2 v := by
    intro j2 v
    refine iter_fix (spec_l15Can_S2 a0_0 a0_1 a0_2 a0_3 a0_4 a0_5 a0_6 a0_7 a0_8 a0_9 a0_10 a0_11 a0_12 a0_13 a0_14 a0_15 a0_16 a1) (spec_l15Can_l2 k a0_0 a0_1 a0_2 a0_3 a0_4 a0_5 a0_6 a0_7 a0_8 a0_9 a0_10 a0_11 a0_12 a0_13 a0_14 a0_15 a0_16 a1) (fun j2 v => (e2 j2 v).trans ?_) j2 v
    unfold spec_l15Can_l2
    rfl
  have e1 : ∀ (j1 : Nat) (v : Int), spec_l15Can_it1 k a0_0 a0_1 a0_2 a0_3 a0_4 a0_5 a0_6 a0_7 a0_8 a0_9 a0_10 a0_11 a0_12 a0_13 a0_14 a0_15 a0_16 a1 [] (j1 + 1) (spec_l15Can_S1 a0_0 a0_1 a0_2 a0_3 a0_4 a0_5 a0_6 a0_7 a0_8 a0_9 a0_10 a0_11 a0_12 a0_13 a0_14 a0_15 a0_16 a1 v) = spec_l15Can_L1 k a0_0 a0_1 a0_2 a0_3 a0_4 a0_5 a0_6 a0_7 a0_8 a0_9 a0_10 a0_11 a0_12 a0_13 a0_14 a0_15 a0_16 a1 (fun v => spec_l15Can_it2 k a0_0 a0_1 a0_2 a0_3 a0_4 a0_5 a0_6 a0_7 a0_8 a0_9 a0_10 a0_11 a0_12 a0_13 a0_14 a0_15 a0_16 a1 [] k (spec_l15Can_S2 a0_0 a0_1 a0_2 a0_3 a0_4 a0_5 a0_6 a0_7 a0_8 a0_9 a0_10 a0_11 a0_12 a0_13 a0_14 a0_15 a0_16 a1 v)) (fun v => spec_l15Can_it1 k a0_0 a0_1 a0_2 a0_3 a0_4 a0_5 a0_6 a0_7 a0_8 a0_9 a0_10 a0_11 a0_12 a0_13 a0_14 a0_15 a0_16 a1 [] j1 (spec_l15Can_S1 a0_0 a0_1 a0_2 a0_3 a0_4 a0_5 a0_6 a0_7 a0_8 a0_9 a0_10 a0_11 a0_12 a0_13 a0_14 a0_15 a0_16 a1 v)) v := by
    intro j1 v; kernel_rfl
  have i1 : ∀ (j1 : Nat) (v : Int), spec_l15Can_it1 k a0_0 a0_1 a0_2 a0_3 a0_4 a0_5 a0_6 a0_7 a0_8 a0_9 a0_10 a0_11 a0_12 a0_13 a0_14 a0_15 a0_16 a1 [] j1 (spec_l15Can_S1 a0_0 a0_1 a0_2 a0_3 a0_4 a0_5 a0_6 a0_7 a0_8 a0_9 a0_10 a0_11 a0_12 a0_13 a0_14 a0_15 a0_16 a1 v) = fixN (spec_l15Can_l1 k a0_0 a0_1 a0_2 a0_3 a0_4 a0_5 a0_6 a0_7 a0_8 a0_9 a0_10 a0_11 a0_12 a0_13 a0_14 a0_15 a0_16 a1) j1 v := by
    intro j1 v
    refine iter_fix (spec_l15Can_S1 a0_0 a0_1 a0_2 a0_3 a0_4 a0_5 a0_6 a0_7 a0_8 a0_9 a0_10 a0_11 a0_12 a0_13 a0_14 a0_15 a0_16 a1) (spec_l15Can_l1 k a0_0 a0_1 a0_2 a0_3 a0_4 a0_5 a0_6 a0_7 a0_8 a0_9 a0_10 a0_11 a0_12 a0_13 a0_14 a0_15 a0_16 a1) (fun j1 v => (e1 j1 v).trans ?_) j1 v
    unfold spec_l15Can_l1
    simp only [i2] <;> rfl
  rw [e0]; unfold spec_l15Can_u
  simp only [i1]
/- spec.CanBegin -/
def spec_CanBegin_u (k : Nat) (a0_0 : Int) (a0_1 : Int) (a0_2 : Int) (a0_3 : List (List T)) (a0_4 : Int) (a0_5 : Int) (a0_6 : Int) (a0_7 : Int) (a0_8 : Int) (a0_9 : List (List T)) (a0_10 : Int) (a0_11 : Bool) (a0_12 : Bool) (a0_13 : List (List T)) (a0_14 : List (List T)) (a0_15 : List (List T)) (a0_16 : List (List T)) (a1 : Int) : Option Outs :=
 bindO (evalF E P0 k N.spec_EngOk [.v [.i a0_0, .i a0_1, .i a0_2, .r a0_3, .i a0_4, .i a0_5, .i a0_6, .i a0_7, .i a0_8, .r a0_9, .i a0_10, .b a0_11, .b a0_12, .r a0_13, .r a0_14, .r a0_15, .r a0_16]]) fun o4 =>
 bif (o4.t 0).asB then
  bindO (evalF E P0 k N.spec_l1In [.v [.i a1], .v [.i 0], .v [.i (IntKind.wrap .i64 ((a0_13.length : Int) - 1))]]) fun o5 =>
  bif (o5.t 0).asB then
   bindO (evalF E P0 k N.spec_l15Can [.v [.i a0_0, .i a0_1, .i a0_2, .r a0_3, .i a0_4, .i a0_5, .i a0_6, .i a0_7, .i a0_8, .r a0_9, .i a0_10, .b a0_11, .b a0_12, .r a0_13, .r a0_14, .r a0_15, .r a0_16], .v [.i a1]]) fun o6 =>
   some ⟨[.b (o6.t 0).asB], []⟩
  else
   some ⟨[.b false], []⟩
 else
  some ⟨[.b false], []⟩
theorem spec_CanBegin_e (k : Nat) (a0_0 : Int) (a0_1 : Int) (a0_2 : Int) (a0_3 : List (List T)) (a0_4 : Int) (a0_5 : Int) (a0_6 : Int) (a0_7 : Int) (a0_8 : Int) (a0_9 : List (List T)) (a0_10 : Int) (a0_11 : Bool) (a0_12 : Bool) (a0_13 : List (List T)) (a0_14 : List (List T)) (a0_15 : List (List T)) (a0_16 : List (List T)) (a1 : Int) : evalF E P0 (k + 1) N.spec_CanBegin [.v [.i a0_0, .i a0_1, .i a0_2, .r a0_3, .i a0_4, .i a0_5, .i a0_6, .i a0_7, .i a0_8, .r a0_9, .i a0_10, .b a0_11, .b a0_12, .r a0_13, .r a0_14, .r a0_15, .r a0_16], .v [.i a1]] = spec_CanBegin_u k a0_0 a0_1 a0_2 a0_3 a0_4 a0_5 a0_6 a0_7 a0_8 a0_9 a0_10 a0_11 a0_12 a0_13 a0_14 a0_15 a0_16 a1 := by kernel_rfl
/- impl.CanBegin -/
def impl_CanBegin_L2 (k : Nat) (a0_0 : Int) (a0_1 : Int) (a0_2 : Int) (a0_3 : List (List T)) (a0_4 : Int) (a0_5 : Int) (a0_6 : Int) (a0_7 : Int) (a0_8 : Int) (a0_9 : List (List T)) (a0_10 : Int) (a0_11 : Bool) (a0_12 : Bool) (a0_13 : List (List T)) (a0_14 : List (List T)) (a0_15 : List (List T)) (a0_16 : List (List T)) (a1 : Int) (p23 : List (List T)) (p24 : Int) (G2 : (Int) → Option Outs) : (Int) → Option Outs := fun v16 =>
 bif (decide (v16 < p24)) then
  chk (decide (0 ≤ v16) && decide (v16 < (p23.length : Int))) <|
  chk (decide (0 ≤ a1) && decide (a1 < (a0_13.length : Int))) <|
  bindO (evalF E P0 k N.impl_Clash [.v [.i a0_1, .i a0_2], .v [.i (at_ a0_13 a1.toNat 0).asI, .i (at_ a0_13 a1.toNat 1).asI, .i (at_ a0_13 a1.toNat 2).asI, .i (at_ a0_13 a1.toNat 3).asI, .r (at_ a0_13 a1.toNat 4).asR], .v [.i (at_ p23 v16.toNat 0).asI, .i (at_ p23 v16.toNat 1).asI, .i (at_ p23 v16.toNat 2).asI, .i (at_ p23 v16.toNat 3).asI, .r (at_ p23 v16.toNat 4).asR]]) fun o195 =>
  bif (o195.t 0).asB then some ⟨[.b false], []⟩ else G2 (IntKind.wrap .i64 (v16 + 1))
 else
  bif (decide ((a0_14.length : Int) < 4)) then
   bif (decide ((IntKind.wrap .i64 ((a0_15.length : Int) + (a0_14.length : Int))) < 8)) then
    some ⟨[.b (decide ((IntKind.wrap .i64 ((a0_16.length : Int) + (a0_14.length : Int))) < 400))], []⟩
   else
    some ⟨[.b false], []⟩
  else
   some ⟨[.b false], []⟩
def impl_CanBegin_k2 : List Nat := [1, 2, 4, 9, 44, 45, 46, 61, 62, 63, 64, 65, 66, 67, 68, 69, 70, 71, 72, 73, 74, 75, 76, 77, 78, 79, 80, 81]
def impl_CanBegin_S2 (a0_0 : Int) (a0_1 : Int) (a0_2 : Int) (a0_3 : List (List T)) (a0_4 : Int) (a0_5 : Int) (a0_6 : Int) (a0_7 : Int) (a0_8 : Int) (a0_9 : List (List T)) (a0_10 : Int) (a0_11 : Bool) (a0_12 : Bool) (a0_13 : List (List T)) (a0_14 : List (List T)) (a0_15 : List (List T)) (a0_16 : List (List T)) (a1 : Int) (p23 : List (List T)) (p24 : Int) : (Int) → St := fun v16 => ⟨ofSl [(1, .i .i64 a1), (2, .ptr (2, 0) 0), (4, .b false), (9, .skip), (44, .sl 31 p23), (45, .i .i64 p24), (46, .i .i64 v16), (61, .skip), (62, .skip), (63, .skip), (64, .skip), (65, .skip), (66, .skip), (67, .skip), (68, .skip), (69, .skip), (70, .skip), (71, .skip), (72, .skip), (73, .skip), (74, .skip), (75, .skip), (76, .skip), (77, .skip), (78, .skip), (79, .skip), (80, .skip), (81, .skip)], ofMem [((2, 0), .var [.i .i64 a0_0, .i .i64 a0_1, .i .i64 a0_2, .sl 143 a0_3, .i .i64 a0_4, .i .i64 a0_5, .i .i64 a0_6, .i .i64 a0_7, .i .i64 a0_8, .sl 155 a0_9, .i .i64 a0_10, .b a0_11, .b a0_12, .sl 31 a0_13, .sl 104 a0_14, .sl 84 a0_15, .sl 86 a0_16])]⟩
def impl_CanBegin_L1 (k : Nat) (a0_0 : Int) (a0_1 : Int) (a0_2 : Int) (a0_3 : List (List T)) (a0_4 : Int) (a0_5 : Int) (a0_6 : Int) (a0_7 : Int) (a0_8 : Int) (a0_9 : List (List T)) (a0_10 : Int) (a0_11 : Bool) (a0_12 : Bool) (a0_13 : List (List T)) (a0_14 : List (List T)) (a0_15 : List (List T)) (a0_16 : List (List T)) (a1 : Int) (R2 : List (List T) → Int → (Int) → Option Outs) (G1 : (Int) → Option Outs) : (Int) → Option Outs := fun v8 =>
 bif (decide (v8 < (a0_14.length : Int))) then
  chk (decide (0 ≤ v8) && decide (v8 < (a0_14.length : Int))) <|
  chk (decide (0 ≤ a1) && decide (a1 < (a0_13.length : Int))) <|
  bindO (evalF E P0 k N.impl_Clash [.v [.i a0_1, .i a0_2], .v [.i (at_ a0_13 a1.toNat 0).asI, .i (at_ a0_13 a1.toNat 1).asI, .i (at_ a0_13 a1.toNat 2).asI, .i (at_ a0_13 a1.toNat 3).asI, .r (at_ a0_13 a1.toNat 4).asR], .v [.i (at_ a0_14 v8.toNat 0).asI, .i (at_ a0_14 v8.toNat 1).asI, .i (at_ a0_14 v8.toNat 2).asI, .i (at_ a0_14 v8.toNat 3).asI, .r (at_ a0_14 v8.toNat 4).asR]]) fun o99 =>
  bif (o99.t 0).asB then some ⟨[.b false], []⟩ else G1 (IntKind.wrap .i64 (v8 + 1))
 else
  chk (decide (0 ≤ 0) && decide (0 ≤ a1) && decide (a1 ≤ (a0_13.length : Int))) <|
  R2 ((a0_13.drop (0 : Int).toNat).take (a1.toNat - (0 : Int).toNat)) (((a0_13.drop (0 : Int).toNat).take (a1.toNat - (0 : Int).toNat)).length : Int) 0
def impl_CanBegin_k1 : List Nat := [1, 2, 4, 8, 9, 23, 24, 25, 41, 42, 43, 44, 45, 46, 47, 48, 49, 50, 51, 52, 53, 54, 55, 56, 57, 58, 59, 60, 61, 62, 63, 64, 65, 66, 67, 68, 69, 70, 71, 72, 73, 74, 75, 76, 77, 78, 79, 80, 81]
def impl_CanBegin_S1 (a0_0 : Int) (a0_1 : Int) (a0_2 : Int) (a0_3 : List (List T)) (a0_4 : Int) (a0_5 : Int) (a0_6 : Int) (a0_7 : Int) (a0_8 : Int) (a0_9 : List (List T)) (a0_10 : Int) (a0_11 : Bool) (a0_12 : Bool) (a0_13 : List (List T)) (a0_14 : List (List T)) (a0_15 : List (List T)) (a0_16 : List (List T)) (a1 : Int) : (Int) → St := fun v8 => ⟨ofSl [(1, .i .i64 a1), (2, .ptr (2, 0) 0), (4, .b false), (8, .skip), (9, .skip), (23, .sl 104 a0_14), (24, .i .i64 (a0_14.length : Int)), (25, .i .i64 v8), (41, .skip), (42, .skip), (43, .skip), (44, .skip), (45, .skip), (46, .skip), (47, .skip), (48, .skip), (49, .skip), (50, .skip), (51, .skip), (52, .skip), (53, .skip), (54, .skip), (55, .skip), (56, .skip), (57, .skip), (58, .skip), (59, .skip), (60, .skip), (61, .skip), (62, .skip), (63, .skip), (64, .skip), (65, .skip), (66, .skip), (67, .skip), (68, .skip), (69, .skip), (70, .skip), (71, .skip), (72, .skip), (73, .skip), (74, .skip), (75, .skip), (76, .skip), (77, .skip), (78, .skip), (79, .skip), (80, .skip), (81, .skip)], ofMem [((2, 0), .var [.i .i64 a0_0, .i .i64 a0_1, .i .i64 a0_2, .sl 143 a0_3, .i .i64 a0_4, .i .i64 a0_5, .i .i64 a0_6, .i .i64 a0_7, .i .i64 a0_8, .sl 155 a0_9, .i .i64 a0_10, .b a0_11, .b a0_12, .sl 31 a0_13, .sl 104 a0_14, .sl 84 a0_15, .sl 86 a0_16])]⟩
def impl_CanBegin_J1 (k : Nat) (R1 : (Int) → Option Outs) (c1 : Bool) : Option Outs :=
 bif c1 then some ⟨[.b false], []⟩ else R1 0
def impl_CanBegin_l2 (k : Nat) (a0_0 : Int) (a0_1 : Int) (a0_2 : Int) (a0_3 : List (List T)) (a0_4 : Int) (a0_5 : Int) (a0_6 : Int) (a0_7 : Int) (a0_8 : Int) (a0_9 : List (List T)) (a0_10 : Int) (a0_11 : Bool) (a0_12 : Bool) (a0_13 : List (List T)) (a0_14 : List (List T)) (a0_15 : List (List T)) (a0_16 : List (List T)) (a1 : Int) (p23 : List (List T)) (p24 : Int) (G2 : (Int) → Option Outs) : (Int) → Option Outs :=
  impl_CanBegin_L2 k a0_0 a0_1 a0_2 a0_3 a0_4 a0_5 a0_6 a0_7 a0_8 a0_9 a0_10 a0_11 a0_12 a0_13 a0_14 a0_15 a0_16 a1 p23 p24 G2
def impl_CanBegin_l1 (k : Nat) (a0_0 : Int) (a0_1 : Int) (a0_2 : Int) (a0_3 : List (List T)) (a0_4 : Int) (a0_5 : Int) (a0_6 : Int) (a0_7 : Int) (a0_8 : Int) (a0_9 : List (List T)) (a0_10 : Int) (a0_11 : Bool) (a0_12 : Bool) (a0_13 : List (List T)) (a0_14 : List (List T)) (a0_15 : List (List T)) (a0_16 : List (List T)) (a1 : Int) (G1 : (Int) → Option Outs) : (Int) → Option Outs :=
  impl_CanBegin_L1 k a0_0 a0_1 a0_2 a0_3 a0_4 a0_5 a0_6 a0_7 a0_8 a0_9 a0_10 a0_11 a0_12 a0_13 a0_14 a0_15 a0_16 a1 (fun y0 y1 v => fixN (impl_CanBegin_l2 k a0_0 a0_1 a0_2 a0_3 a0_4 a0_5 a0_6 a0_7 a0_8 a0_9 a0_10 a0_11 a0_12 a0_13 a0_14 a0_15 a0_16 a1 y0 y1) k v) G1
def impl_CanBegin_U (k : Nat) (a0_0 : Int) (a0_1 : Int) (a0_2 : Int) (a0_3 : List (List T)) (a0_4 : Int) (a0_5 : Int) (a0_6 : Int) (a0_7 : Int) (a0_8 : Int) (a0_9 : List (List T)) (a0_10 : Int) (a0_11 : Bool) (a0_12 : Bool) (a0_13 : List (List T)) (a0_14 : List (List T)) (a0_15 : List (List T)) (a0_16 : List (List T)) (a1 : Int) (R1 : (Int) → Option Outs) : Option Outs :=
 bindO (evalF E P0 k N.impl_EngOk [.v [.i a0_0, .i a0_1, .i a0_2, .r a0_3, .i a0_4, .i a0_5, .i a0_6, .i a0_7, .i a0_8, .r a0_9, .i a0_10, .b a0_11, .b a0_12, .r a0_13, .r a0_14, .r a0_15, .r a0_16]]) fun o3 =>
 bif (!(o3.t 0).asB) then
  impl_CanBegin_J1 k R1 true
 else
  bindO (evalF E P0 k N.impl_within [.v [.i a1], .v [.i 0], .v [.i (IntKind.wrap .i64 ((a0_13.length : Int) - 1))]]) fun o196 =>
  impl_CanBegin_J1 k R1 (!(o196.t 0).asB)
def impl_CanBegin_u (k : Nat) (a0_0 : Int) (a0_1 : Int) (a0_2 : Int) (a0_3 : List (List T)) (a0_4 : Int) (a0_5 : Int) (a0_6 : Int) (a0_7 : Int) (a0_8 : Int) (a0_9 : List (List T)) (a0_10 : Int) (a0_11 : Bool) (a0_12 : Bool) (a0_13 : List (List T)) (a0_14 : List (List T)) (a0_15 : List (List T)) (a0_16 : List (List T)) (a1 : Int) : Option Outs :=
  impl_CanBegin_U k a0_0 a0_1 a0_2 a0_3 a0_4 a0_5 a0_6 a0_7 a0_8 a0_9 a0_10 a0_11 a0_12 a0_13 a0_14 a0_15 a0_16 a1 (fun v => fixN (impl_CanBegin_l1 k a0_0 a0_1 a0_2 a0_3 a0_4 a0_5 a0_6 a0_7 a0_8 a0_9 a0_10 a0_11 a0_12 a0_13 a0_14 a0_15 a0_16 a1) k v)
def impl_CanBegin_it1 (k : Nat) (a0_0 : Int) (a0_1 : Int) (a0_2 : Int) (a0_3 : List (List T)) (a0_4 : Int) (a0_5 : Int) (a0_6 : Int) (a0_7 : Int) (a0_8 : Int) (a0_9 : List (List T)) (a0_10 : Int) (a0_11 : Bool) (a0_12 : Bool) (a0_13 : List (List T)) (a0_14 : List (List T)) (a0_15 : List (List T)) (a0_16 : List (List T)) (a1 : Int) (js : List Nat) (j : Nat) (s : St) : Option Outs := iter (LB E (evalF E P0 k) k [] N.impl_CanBegin [.sr, .sr, .sl, .sr, .bl]) [] impl_CanBegin_k1 (LK E (evalF E P0 k) k [] N.impl_CanBegin [.v [.i a0_0, .i a0_1, .i a0_2, .r a0_3, .i a0_4, .i a0_5, .i a0_6, .i a0_7, .i a0_8, .r a0_9, .i a0_10, .b a0_11, .b a0_12, .r a0_13, .r a0_14, .r a0_15, .r a0_16], .v [.i a1]] [.sr, .sr, .sl, .sr, .bl] js) j s
def impl_CanBegin_it2 (k : Nat) (a0_0 : Int) (a0_1 : Int) (a0_2 : Int) (a0_3 : List (List T)) (a0_4 : Int) (a0_5 : Int) (a0_6 : Int) (a0_7 : Int) (a0_8 : Int) (a0_9 : List (List T)) (a0_10 : Int) (a0_11 : Bool) (a0_12 : Bool) (a0_13 : List (List T)) (a0_14 : List (List T)) (a0_15 : List (List T)) (a0_16 : List (List T)) (a1 : Int) (js : List Nat) (j : Nat) (s : St) : Option Outs := iter (LB E (evalF E P0 k) k [] N.impl_CanBegin [.sr, .sr, .sr, .sl, .sr, .bl]) [] impl_CanBegin_k2 (LK E (evalF E P0 k) k [] N.impl_CanBegin [.v [.i a0_0, .i a0_1, .i a0_2, .r a0_3, .i a0_4, .i a0_5, .i a0_6, .i a0_7, .i a0_8, .r a0_9, .i a0_10, .b a0_11, .b a0_12, .r a0_13, .r a0_14, .r a0_15, .r a0_16], .v [.i a1]] [.sr, .sr, .sr, .sl, .sr, .bl] js) j s
theorem impl_CanBegin_e (k : Nat) (a0_0 : Int) (a0_1 : Int) (a0_2 : Int) (a0_3 : List (List T)) (a0_4 : Int) (a0_5 : Int) (a0_6 : Int) (a0_7 : Int) (a0_8 : Int) (a0_9 : List (List T)) (a0_10 : Int) (a0_11 : Bool) (a0_12 : Bool) (a0_13 : List (List T)) (a0_14 : List (List T)) (a0_15 : List (List T)) (a0_16 : List (List T)) (a1 : Int) : evalF E P0 (k + 1) N.impl_CanBegin [.v [.i a0_0, .i a0_1, .i a0_2, .r a0_3, .i a0_4, .i a0_5, .i a0_6, .i a0_7, .i a0_8, .r a0_9, .i a0_10, .b a0_11, .b a0_12, .r a0_13, .r a0_14, .r a0_15, .r a0_16], .v [.i a1]] = impl_CanBegin_u k a0_0 a0_1 a0_2 a0_3 a0_4 a0_5 a0_6 a0_7 a0_8 a0_9 a0_10 a0_11 a0_12 a0_13 a0_14 a0_15 a0_16 a1 := by
  have e0 : evalF E P0 (k + 1) N.impl_CanBegin [.v [.i a0_0, .i a0_1, .i a0_2, .r a0_3, .i a0_4, .i a0_5, .i a0_6, .i a0_7, .i a0_8, .r a0_9, .i a0_10, .b a0_11, .b a0_12, .r a0_13, .r a0_14, .r a0_15, .r a0_16], .v [.i a1]] = impl_CanBegin_U k a0_0 a0_1 a0_2 a0_3 a0_4 a0_5 a0_6 a0_7 a0_8 a0_9 a0_10 a0_11 a0_12 a0_13 a0_14 a0_15 a0_16 a1 (fun v => impl_CanBegin_it1 k a0_0 a0_1 a0_2 a0_3 a0_4 a0_5 a0_6 a0_7 a0_8 a0_9 a0_10 a0_11 a0_12 a0_13 a0_14 a0_15 a0_16 a1 [] k (impl_CanBegin_S1 a0_0 a0_1 a0_2 a0_3 a0_4 a0_5 a0_6 a0_7 a0_8 a0_9 a0_10 a0_11 a0_12 a0_13 a0_14 a0_15 a0_16 a1 v)) := by kernel_rfl
  have e2 : ∀ (p23 : List (List T)) (p24 : Int) (j2 : Nat) (v : Int), impl_CanBegin_it2 k a0_0 a0_1 a0_2 a0_3 a0_4 a0_5 a0_6 a0_7 a0_8 a0_9 a0_10 a0_11 a0_12 a0_13 a0_14 a0_15 a0_16 a1 [] (j2 + 1) (impl_CanBegin_S2 a0_0 a0_1 a0_2 a0_3 a0_4 a0_5 a0_6 a0_7 a0_8 a0_9 a0_10 a0_11 a0_12 a0_13 a0_14 a0_15 a0_16 a1 p23 p24 v) = impl_CanBegin_L2 k a0_0 a0_1 a0_2 a0_3 a0_4 a0_5 a0_6 a0_7 a0_8 a0_9 a0_10 a0_11 a0_12 a0_13 a0_14 a0_15 a0_16 a1 p23 p24 (fun v => impl_CanBegin_it2 k a0_0 a0_1 a0_2 a0_3 a0_4 a0_5 a0_6 a0_7 a0_8 a0_9 a0_10 a0_11 a0_12 a0_13 a0_14 a0_15 a0_16 a1 [] j2 (impl_CanBegin_S2 a0_0 a0_1 a0_2 a0_3 a0_4 a0_5 a0_6 a0_7 a0_8 a0_9 a0_10 a0_11 a0_12 a0_13 a0_14 a0_15 a0_16 a1 p23 p24 v)) v := by
    intro p23 p24 j2 v; kernel_rfl
  have i2 : ∀ (p23 : List (List T)) (p24 : Int) (j2 : Nat) (v : Int), impl_CanBegin_it2 k a0_0 a0_1 a0_2 a0_3 a0_4 a0_5 a0_6 a0_7 a0_8 a0_9 a0_10 a0_11 a0_12 a0_13 a0_14 a0_15 a0_16 a1 [] j2 (impl_CanBegin_S2 a0_0 a0_1 a0_2 a0_3 a0_4 a0_5 a0_6 a0_7 a0_8 a0_9 a0_10 a0_11 a0_12 a0_13 a0_14 a0_15 a0_16 a1 p23 p24 v) = fixN (impl_CanBegin_l2 k a0_0 a0_1 a0_2 a0_3 a0_4 a0_5 a0_6 a0_7 a0_8 a0_9 a0_10 a0_11 a0_12 a0_13 a0_14 a0_15 a0_16 a1 p23 p24) j2 v := by
    intro p23 p24 j2 v
    refine iter_fix (impl_CanBegin_S2 a0_0 a0_1 a0_2 a0_3 a0_4 a0_5 a0_6 a0_7 a0_8 a0_9 a0_10 a0_11 a0_12 a0_13 a0_14 a0_15 a0_16 a1 p23 p24) (impl_CanBegin_l2 k a0_0 a0_1 a0_2 a0_3 a0_4 a0_5 a0_6 a0_7 a0_8 a0_9 a0_10 a0_11 a0_12 a0_13 a0_14 a0_15 a0_16 a1 p23 p24) (fun j2 v => (e2 p23 p24 j2 v).trans ?_) j2 v
    unfold impl_CanBegin_l2
    rfl
  have e1 : ∀ (j1 : Nat) (v : Int), impl_CanBegin_it1 k a0_0 a0_1 a0_2 a0_3 a0_4 a0_5 a0_6 a0_7 a0_8 a0_9 a0_10 a0_11 a0_12 a0_13 a0_14 a0_15 a0_16 a1 [] (j1 + 1) (impl_CanBegin_S1 a0_0 a0_1 a0_2 a0_3 a0_4 a0_5 a0_6 a0_7 a0_8 a0_9 a0_10 a0_11 a0_12 a0_13 a0_14 a0_15 a0_16 a1 v) = impl_CanBegin_L1 k a0_0 a0_1 a0_2 a0_3 a0_4 a0_5 a0_6 a0_7 a0_8 a0_9 a0_10 a0_11 a0_12 a0_13 a0_14 a0_15 a0_16 a1 (fun y0 y1 v => impl_CanBegin_it2 k a0_0 a0_1 a0_2 a0_3 a0_4 a0_5 a0_6 a0_7 a0_8 a0_9 a0_10 a0_11 a0_12 a0_13 a0_14 a0_15 a0_16 a1 [] k (impl_CanBegin_S2 a0_0 a0_1 a0_2 a0_3 a0_4 a0_5 a0_6 a0_7 a0_8 a0_9 a0_10 a0_11 a0_12 a0_13 a0_14 a0_15 a0_16 a1 y0 y1 v)) (fun v => impl_CanBegin_it1 k a0_0 a0_1 a0_2 a0_3 a0_4 a0_5 a0_6 a0_7 a0_8 a0_9 a0_10 a0_11 a0_12 a0_13 a0_14 a0_15 a0_16 a1 [] j1 (impl_CanBegin_S1 a0_0 a0_1 a0_2 a0_3 a0_4 a0_5 a0_6 a0_7 a0_8 a0_9 a0_10 a0_11 a0_12 a0_13 a0_14 a0_15 a0_16 a1 v)) v := by
    intro j1 v; kernel_rfl
  have i1 : ∀ (j1 : Nat) (v : Int), impl_CanBegin_it1 k a0_0 a0_1 a0_2 a0_3 a0_4 a0_5 a0_6 a0_7 a0_8 a0_9 a0_10 a0_11 a0_12 a0_13 a0_14 a0_15 a0_16 a1 [] j1 (impl_CanBegin_S1 a0_0 a0_1 a0_2 a0_3 a0_4 a0_5 a0_6 a0_7 a0_8 a0_9 a0_10 a0_11 a0_12 a0_13 a0_14 a0_15 a0_16 a1 v) = fixN (impl_CanBegin_l1 k a0_0 a0_1 a0_2 a0_3 a0_4 a0_5 a0_6 a0_7 a0_8 a0_9 a0_10 a0_11 a0_12 a0_13 a0_14 a0_15 a0_16 a1) j1 v := by
    intro j1 v
    refine iter_fix (impl_CanBegin_S1 a0_0 a0_1 a0_2 a0_3 a0_4 a0_5 a0_6 a0_7 a0_8 a0_9 a0_10 a0_11 a0_12 a0_13 a0_14 a0_15 a0_16 a1) (impl_CanBegin_l1 k a0_0 a0_1 a0_2 a0_3 a0_4 a0_5 a0_6 a0_7 a0_8 a0_9 a0_10 a0_11 a0_12 a0_13 a0_14 a0_15 a0_16 a1) (fun j1 v => (e1 j1 v).trans ?_) j1 v
    unfold impl_CanBegin_l1
    simp only [i2] <;> rfl
  rw [e0]; unfold impl_CanBegin_u
  simp only [i1]
/- laws.FnExactCanBegin -/
def laws_FnExactCanBegin_u (k : Nat) (a0_0 : Int) (a0_1 : Int) (a0_2 : Int) (a0_3 : List (List T)) (a0_4 : Int) (a0_5 : Int) (a0_6 : Int) (a0_7 : Int) (a0_8 : Int) (a0_9 : List (List T)) (a0_10 : Int) (a0_11 : Bool) (a0_12 : Bool) (a0_13 : List (List T)) (a0_14 : List (List T)) (a0_15 : List (List T)) (a0_16 : List (List T)) (a1 : Int) : Option Outs :=
 bindO (evalF E P0 k N.laws_szEng [.v [.i a0_0, .i a0_1, .i a0_2, .r a0_3, .i a0_4, .i a0_5, .i a0_6, .i a0_7, .i a0_8, .r a0_9, .i a0_10, .b a0_11, .b a0_12, .r a0_13, .r a0_14, .r a0_15, .r a0_16], .v [.i 1048576]]) fun o2 =>
 bif (decide ((o2.t 0).asI < 0)) then
  some ⟨[.b true], []⟩
 else
  bindO (evalF E P0 k N.laws_toEng [.v [.i a0_0, .i a0_1, .i a0_2, .r a0_3, .i a0_4, .i a0_5, .i a0_6, .i a0_7, .i a0_8, .r a0_9, .i a0_10, .b a0_11, .b a0_12, .r a0_13, .r a0_14, .r a0_15, .r a0_16]]) fun o5 =>
  bindO (evalF E P0 k N.spec_CanBegin [.v [.i (o5.t 0).asI, .i (o5.t 1).asI, .i (o5.t 2).asI, .r (o5.t 3).asR, .i (o5.t 4).asI, .i (o5.t 5).asI, .i (o5.t 6).asI, .i (o5.t 7).asI, .i (o5.t 8).asI, .r (o5.t 9).asR, .i (o5.t 10).asI, .b (o5.t 11).asB, .b (o5.t 12).asB, .r (o5.t 13).asR, .r (o5.t 14).asR, .r (o5.t 15).asR, .r (o5.t 16).asR], .v [.i a1]]) fun o6 =>
  bindO (evalF E P0 k N.laws_toEng [.v [.i a0_0, .i a0_1, .i a0_2, .r a0_3, .i a0_4, .i a0_5, .i a0_6, .i a0_7, .i a0_8, .r a0_9, .i a0_10, .b a0_11, .b a0_12, .r a0_13, .r a0_14, .r a0_15, .r a0_16]]) fun o8 =>
  bindO (evalF E P0 k N.impl_CanBegin [.v [.i (o8.t 0).asI, .i (o8.t 1).asI, .i (o8.t 2).asI, .r (o8.t 3).asR, .i (o8.t 4).asI, .i (o8.t 5).asI, .i (o8.t 6).asI, .i (o8.t 7).asI, .i (o8.t 8).asI, .r (o8.t 9).asR, .i (o8.t 10).asI, .b (o8.t 11).asB, .b (o8.t 12).asB, .r (o8.t 13).asR, .r (o8.t 14).asR, .r (o8.t 15).asR, .r (o8.t 16).asR], .v [.i a1]]) fun o10 =>
  bif (!((o10.t 0).asB == (o6.t 0).asB)) then
   some ⟨[.b false], []⟩
  else
   bindO (evalF E P0 k N.laws_toEng [.v [.i a0_0, .i a0_1, .i a0_2, .r a0_3, .i a0_4, .i a0_5, .i a0_6, .i a0_7, .i a0_8, .r a0_9, .i a0_10, .b a0_11, .b a0_12, .r a0_13, .r a0_14, .r a0_15, .r a0_16]]) fun o13 =>
   bindO (evalF E P0 k N.laws_eqEng [.v [.i (o8.t 0).asI, .i (o8.t 1).asI, .i (o8.t 2).asI, .r (o8.t 3).asR, .i (o8.t 4).asI, .i (o8.t 5).asI, .i (o8.t 6).asI, .i (o8.t 7).asI, .i (o8.t 8).asI, .r (o8.t 9).asR, .i (o8.t 10).asI, .b (o8.t 11).asB, .b (o8.t 12).asB, .r (o8.t 13).asR, .r (o8.t 14).asR, .r (o8.t 15).asR, .r (o8.t 16).asR], .v [.i (o13.t 0).asI, .i (o13.t 1).asI, .i (o13.t 2).asI, .r (o13.t 3).asR, .i (o13.t 4).asI, .i (o13.t 5).asI, .i (o13.t 6).asI, .i (o13.t 7).asI, .i (o13.t 8).asI, .r (o13.t 9).asR, .i (o13.t 10).asI, .b (o13.t 11).asB, .b (o13.t 12).asB, .r (o13.t 13).asR, .r (o13.t 14).asR, .r (o13.t 15).asR, .r (o13.t 16).asR]]) fun o14 =>
   bif (!(o14.t 0).asB) then some ⟨[.b false], []⟩ else some ⟨[.b true], []⟩
theorem laws_FnExactCanBegin_e (k : Nat) (a0_0 : Int) (a0_1 : Int) (a0_2 : Int) (a0_3 : List (List T)) (a0_4 : Int) (a0_5 : Int) (a0_6 : Int) (a0_7 : Int) (a0_8 : Int) (a0_9 : List (List T)) (a0_10 : Int) (a0_11 : Bool) (a0_12 : Bool) (a0_13 : List (List T)) (a0_14 : List (List T)) (a0_15 : List (List T)) (a0_16 : List (List T)) (a1 : Int) : evalF E P0 (k + 1) N.laws_FnExactCanBegin [.v [.i a0_0, .i a0_1, .i a0_2, .r a0_3, .i a0_4, .i a0_5, .i a0_6, .i a0_7, .i a0_8, .r a0_9, .i a0_10, .b a0_11, .b a0_12, .r a0_13, .r a0_14, .r a0_15, .r a0_16], .v [.i a1]] = laws_FnExactCanBegin_u k a0_0 a0_1 a0_2 a0_3 a0_4 a0_5 a0_6 a0_7 a0_8 a0_9 a0_10 a0_11 a0_12 a0_13 a0_14 a0_15 a0_16 a1 := by kernel_rfl
end
end Go.Proofs.Ytdmdiingedoblaa.Ev
