/- What functions answer under the evaluator, as Lean terms, part 0. No condition. -/
import Derived.Test.YtdmdiingedoblaaTab
namespace Go.Proofs.Ytdmdiingedoblaa.Ev
open Go Go.Proofs
set_option linter.unusedVariables false
set_option maxRecDepth 100000
set_option maxHeartbeats 4000000
noncomputable section
/- laws.szIntS -/
def laws_szIntS_u (k : Nat) (a0 : List (List T)) (a1 : Int) : Option Outs :=
 bif (decide ((IntKind.wrap .i64 (a1 - (a0.length : Int))) < 0)) then
  some ⟨[.i (-1)], []⟩
 else
  some ⟨[.i (IntKind.wrap .i64 (a1 - (a0.length : Int)))], []⟩
theorem laws_szIntS_e (k : Nat) (a0 : List (List T)) (a1 : Int) : evalF E P0 (k + 1) N.laws_szIntS [.v [.r a0], .v [.i a1]] = laws_szIntS_u k a0 a1 := by kernel_rfl
/- laws.szCmd -/
def laws_szCmd_u (k : Nat) (a0_0 : Int) (a0_1 : Int) (a0_2 : Int) (a0_3 : Int) (a0_4 : List (List T)) (a1 : Int) : Option Outs :=
 bindO (evalF E P0 k N.laws_szIntS [.v [.r a0_4], .v [.i a1]]) fun o2 =>
 bif (decide ((o2.t 0).asI < 0)) then some ⟨[.i (-1)], []⟩ else some ⟨[.i (o2.t 0).asI], []⟩
theorem laws_szCmd_e (k : Nat) (a0_0 : Int) (a0_1 : Int) (a0_2 : Int) (a0_3 : Int) (a0_4 : List (List T)) (a1 : Int) : evalF E P0 (k + 1) N.laws_szCmd [.v [.i a0_0, .i a0_1, .i a0_2, .i a0_3, .r a0_4], .v [.i a1]] = laws_szCmd_u k a0_0 a0_1 a0_2 a0_3 a0_4 a1 := by kernel_rfl
/- laws.toGeo -/
def laws_toGeo_u (k : Nat) (a0_0 : Int) (a0_1 : Int) : Option Outs :=
 some ⟨[.i a0_0, .i a0_1], []⟩
theorem laws_toGeo_e (k : Nat) (a0_0 : Int) (a0_1 : Int) : evalF E P0 (k + 1) N.laws_toGeo [.v [.i a0_0, .i a0_1]] = laws_toGeo_u k a0_0 a0_1 := by kernel_rfl
/- laws.toIntS -/
def laws_toIntS_L1 (k : Nat) (a0 : List (List T)) (G1 : (Int × List (List T)) → Option Outs) : (Int × List (List T)) → Option Outs := fun (v8, w8) =>
 bif (decide (v8 < (a0.length : Int))) then
  chk (decide (0 ≤ v8) && decide (v8 < (a0.length : Int))) <|
  chk (decide (0 ≤ v8) && decide (v8 < (w8.length : Int))) <|
  G1 ((IntKind.wrap .i64 (v8 + 1)), (put_ w8 v8.toNat 0 [.i (at_ a0 v8.toNat 0).asI]))
 else
  some ⟨[.r w8], []⟩
def laws_toIntS_k1 : List Nat := [0, 2, 3, 4, 21]
def laws_toIntS_S1 (a0 : List (List T)) : (Int × List (List T)) → St := fun (v8, w8) => ⟨ofSl [(0, .sl 3 a0), (2, .ref (2, 0)), (3, .ref (3, 0)), (4, .i .i64 v8), (21, .skip)], ofMem [((2, 0), .row 3 true []), ((3, 0), .row 3 true w8)]⟩
def laws_toIntS_l1 (k : Nat) (a0 : List (List T)) (G1 : (Int × List (List T)) → Option Outs) : (Int × List (List T)) → Option Outs :=
  laws_toIntS_L1 k a0 G1
def laws_toIntS_U (k : Nat) (a0 : List (List T)) (R1 : (Int × List (List T)) → Option Outs) : Option Outs :=
 chk (decide ((a0.length : Int) = (a0.length : Int)) && decide (0 ≤ (a0.length : Int)) && decide ((a0.length : Int) * ((8 : Nat) : Int) ≤ 140737488355328)) <|
 R1 (0, (List.replicate ((a0.length : Int) : Int).toNat [.i 0]))
def laws_toIntS_u (k : Nat) (a0 : List (List T)) : Option Outs :=
  laws_toIntS_U k a0 (fun v => fixN (laws_toIntS_l1 k a0) k v)
def laws_toIntS_it1 (k : Nat) (a0 : List (List T)) (js : List Nat) (j : Nat) (s : St) : Option Outs := iter (LB E (evalF E P0 k) k [] N.laws_toIntS [.sr, .sr, .sl, .sr, .bl]) [] laws_toIntS_k1 (LK E (evalF E P0 k) k [] N.laws_toIntS [.v [.r a0]] [.sr, .sr, .sl, .sr, .bl] js) j s
theorem laws_toIntS_e (k : Nat) (a0 : List (List T)) : evalF E P0 (k + 1) N.laws_toIntS [.v [.r a0]] = laws_toIntS_u k a0 := by
  have e0 : evalF E P0 (k + 1) N.laws_toIntS [.v [.r a0]] = laws_toIntS_U k a0 (fun v => laws_toIntS_it1 k a0 [] k (laws_toIntS_S1 a0 v)) := by kernel_rfl
  have e1 : ∀ (j1 : Nat) (v : Int × List (List T)), laws_toIntS_it1 k a0 [] (j1 + 1) (laws_toIntS_S1 a0 v) = laws_toIntS_L1 k a0 (fun v => laws_toIntS_it1 k a0 [] j1 (laws_toIntS_S1 a0 v)) v := by
    intro j1 v; kernel_rfl
  have i1 : ∀ (j1 : Nat) (v : Int × List (List T)), laws_toIntS_it1 k a0 [] j1 (laws_toIntS_S1 a0 v) = fixN (laws_toIntS_l1 k a0) j1 v := by
    intro j1 v
    refine iter_fix (laws_toIntS_S1 a0) (laws_toIntS_l1 k a0) (fun j1 v => (e1 j1 v).trans ?_) j1 v
    unfold laws_toIntS_l1
    rfl
  rw [e0]; unfold laws_toIntS_u
  simp only [i1]
/- laws.toCmd -/
def laws_toCmd_u (k : Nat) (a0_0 : Int) (a0_1 : Int) (a0_2 : Int) (a0_3 : Int) (a0_4 : List (List T)) : Option Outs :=
 bindO (evalF E P0 k N.laws_toIntS [.v [.r a0_4]]) fun o2 =>
 some ⟨[.i a0_0, .i a0_1, .i a0_2, .i a0_3, .r (o2.t 0).asR], []⟩
theorem laws_toCmd_e (k : Nat) (a0_0 : Int) (a0_1 : Int) (a0_2 : Int) (a0_3 : Int) (a0_4 : List (List T)) : evalF E P0 (k + 1) N.laws_toCmd [.v [.i a0_0, .i a0_1, .i a0_2, .i a0_3, .r a0_4]] = laws_toCmd_u k a0_0 a0_1 a0_2 a0_3 a0_4 := by kernel_rfl
/- spec.l1In -/
def spec_l1In_u (k : Nat) (a0 : Int) (a1 : Int) (a2 : Int) : Option Outs :=
 bif (decide (a0 ≥ a1)) then some ⟨[.b (decide (a0 ≤ a2))], []⟩ else some ⟨[.b false], []⟩
theorem spec_l1In_e (k : Nat) (a0 : Int) (a1 : Int) (a2 : Int) : evalF E P0 (k + 1) N.spec_l1In [.v [.i a0], .v [.i a1], .v [.i a2]] = spec_l1In_u k a0 a1 a2 := by kernel_rfl
/- spec.GeoOk -/
def spec_GeoOk_u (k : Nat) (a0_0 : Int) (a0_1 : Int) : Option Outs :=
 bindO (evalF E P0 k N.spec_l1In [.v [.i a0_0], .v [.i 3], .v [.i 5]]) fun o3 =>
 bif (o3.t 0).asB then
  bindO (evalF E P0 k N.spec_l1In [.v [.i a0_1], .v [.i 1], .v [.i 8]]) fun o4 =>
  some ⟨[.b (o4.t 0).asB], []⟩
 else
  some ⟨[.b false], []⟩
theorem spec_GeoOk_e (k : Nat) (a0_0 : Int) (a0_1 : Int) : evalF E P0 (k + 1) N.spec_GeoOk [.v [.i a0_0, .i a0_1]] = spec_GeoOk_u k a0_0 a0_1 := by kernel_rfl
/- spec.l1Word -/
def spec_l1Word_u (k : Nat) (a0 : Int) : Option Outs :=
 bindO (evalF E P0 k N.spec_l1In [.v [.i a0], .v [.i 0], .v [.i 65535]]) fun o2 =>
 some ⟨[.b (o2.t 0).asB], []⟩
theorem spec_l1Word_e (k : Nat) (a0 : Int) : evalF E P0 (k + 1) N.spec_l1Word [.v [.i a0]] = spec_l1Word_u k a0 := by kernel_rfl
/- spec.l1Words -/
def spec_l1Words_L1 (k : Nat) (a0 : List (List T)) (G1 : (Int) → Option Outs) : (Int) → Option Outs := fun v8 =>
 bif (decide (v8 < (a0.length : Int))) then
  chk (decide (0 ≤ v8) && decide (v8 < (a0.length : Int))) <|
  bindO (evalF E P0 k N.spec_l1Word [.v [.i (at_ a0 v8.toNat 0).asI]]) fun o96 =>
  bif (!(o96.t 0).asB) then some ⟨[.b false], []⟩ else G1 (IntKind.wrap .i64 (v8 + 1))
 else
  some ⟨[.b true], []⟩
def spec_l1Words_k1 : List Nat := [0, 2, 3]
def spec_l1Words_S1 (a0 : List (List T)) : (Int) → St := fun v8 => ⟨ofSl [(0, .sl 3 a0), (2, .b false), (3, .i .i64 v8)], ofMem []⟩
def spec_l1Words_l1 (k : Nat) (a0 : List (List T)) (G1 : (Int) → Option Outs) : (Int) → Option Outs :=
  spec_l1Words_L1 k a0 G1
def spec_l1Words_U (k : Nat) (a0 : List (List T)) (R1 : (Int) → Option Outs) : Option Outs :=
 R1 0
def spec_l1Words_u (k : Nat) (a0 : List (List T)) : Option Outs :=
  spec_l1Words_U k a0 (fun v => fixN (spec_l1Words_l1 k a0) k v)
def spec_l1Words_it1 (k : Nat) (a0 : List (List T)) (js : List Nat) (j : Nat) (s : St) : Option Outs := iter (LB E (evalF E P0 k) k [] N.spec_l1Words [.sr, .sl, .sr, .bl]) [] spec_l1Words_k1 (LK E (evalF E P0 k) k [] N.spec_l1Words [.v [.r a0]] [.sr, .sl, .sr, .bl] js) j s
theorem spec_l1Words_e (k : Nat) (a0 : List (List T)) : evalF E P0 (k + 1) N.spec_l1Words [.v [.r a0]] = spec_l1Words_u k a0 := by
  have e0 : evalF E P0 (k + 1) N.spec_l1Words [.v [.r a0]] = spec_l1Words_U k a0 (fun v => spec_l1Words_it1 k a0 [] k (spec_l1Words_S1 a0 v)) := by kernel_rfl
  have e1 : ∀ (j1 : Nat) (v : Int), spec_l1Words_it1 k a0 [] (j1 + 1) (spec_l1Words_S1 a0 v) = spec_l1Words_L1 k a0 (fun v => spec_l1Words_it1 k a0 [] j1 (spec_l1Words_S1 a0 v)) v := by
    intro j1 v; kernel_rfl
  have i1 : ∀ (j1 : Nat) (v : Int), spec_l1Words_it1 k a0 [] j1 (spec_l1Words_S1 a0 v) = fixN (spec_l1Words_l1 k a0) j1 v := by
    intro j1 v
    refine iter_fix (spec_l1Words_S1 a0) (spec_l1Words_l1 k a0) (fun j1 v => (e1 j1 v).trans ?_) j1 v
    unfold spec_l1Words_l1
    rfl
  rw [e0]; unfold spec_l1Words_u
  simp only [i1]
/- spec.l13Size -/
def spec_l13Size_J1 (k : Nat) (a0_0 : Int) (a0_4 : List (List T)) (c17 : Bool) : Option Outs :=
 bif c17 then
  bindO (evalF E P0 k N.spec_l1In [.v [.i (a0_4.length : Int)], .v [.i 1], .v [.i 6]]) fun o39 =>
  bif (o39.t 0).asB then
   bindO (evalF E P0 k N.spec_l1Words [.v [.r a0_4]]) fun o40 =>
   some ⟨[.b (o40.t 0).asB], []⟩
  else
   some ⟨[.b false], []⟩
 else
  bif (a0_0 == 5) then
   bif ((a0_4.length : Int) == 2) then
    bindO (evalF E P0 k N.spec_l1Words [.v [.r a0_4]]) fun o42 =>
    some ⟨[.b (o42.t 0).asB], []⟩
   else
    some ⟨[.b false], []⟩
  else
   some ⟨[.b true], []⟩
def spec_l13Size_u (k : Nat) (a0_0 : Int) (a0_1 : Int) (a0_2 : Int) (a0_3 : Int) (a0_4 : List (List T)) : Option Outs :=
 bif (a0_0 == 1) then
  bindO (evalF E P0 k N.spec_l1In [.v [.i a0_3], .v [.i 1], .v [.i 6]]) fun o34 =>
  some ⟨[.b (o34.t 0).asB], []⟩
 else
  bif (a0_0 == 6) then
   bindO (evalF E P0 k N.spec_l1In [.v [.i a0_3], .v [.i 1], .v [.i 6]]) fun o36 =>
   some ⟨[.b (o36.t 0).asB], []⟩
  else
   bif (a0_0 == 2) then spec_l13Size_J1 k a0_0 a0_4 true else spec_l13Size_J1 k a0_0 a0_4 (a0_0 == 3)
theorem spec_l13Size_e (k : Nat) (a0_0 : Int) (a0_1 : Int) (a0_2 : Int) (a0_3 : Int) (a0_4 : List (List T)) : evalF E P0 (k + 1) N.spec_l13Size [.v [.i a0_0, .i a0_1, .i a0_2, .i a0_3, .r a0_4]] = spec_l13Size_u k a0_0 a0_1 a0_2 a0_3 a0_4 := by kernel_rfl
/- spec.Blocks -/
def spec_Blocks_u (k : Nat) (a0_0 : Int) (a0_1 : Int) : Option Outs :=
 bindO (evalF E P0 k N.spec_GeoOk [.v [.i a0_0, .i a0_1]]) fun o2 =>
 bif (!(o2.t 0).asB) then
  some ⟨[.i 0], []⟩
 else
  some ⟨[.i (IntKind.wrap .i64 (a0_1 * (IntKind.wrap .i64 (a0_0 - 1))))], []⟩
theorem spec_Blocks_e (k : Nat) (a0_0 : Int) (a0_1 : Int) : evalF E P0 (k + 1) N.spec_Blocks [.v [.i a0_0, .i a0_1]] = spec_Blocks_u k a0_0 a0_1 := by kernel_rfl
/- spec.l13Len -/
def spec_l13Len_u (k : Nat) (a0_0 : Int) (a0_1 : Int) (a0_2 : Int) (a0_3 : Int) (a0_4 : List (List T)) : Option Outs :=
 bif (a0_0 == 1) then
  some ⟨[.i a0_3], []⟩
 else
  bif (a0_0 == 6) then
   some ⟨[.i a0_3], []⟩
  else
   bif (a0_0 == 2) then
    some ⟨[.i (a0_4.length : Int)], []⟩
   else
    bif (a0_0 == 3) then
     some ⟨[.i (a0_4.length : Int)], []⟩
    else
     bif (a0_0 == 5) then some ⟨[.i 1], []⟩ else some ⟨[.i 0], []⟩
theorem spec_l13Len_e (k : Nat) (a0_0 : Int) (a0_1 : Int) (a0_2 : Int) (a0_3 : Int) (a0_4 : List (List T)) : evalF E P0 (k + 1) N.spec_l13Len [.v [.i a0_0, .i a0_1, .i a0_2, .i a0_3, .r a0_4]] = spec_l13Len_u k a0_0 a0_1 a0_2 a0_3 a0_4 := by kernel_rfl
/- spec.CmdCode -/
def spec_CmdCode_J1 (k : Nat) (a0_0 : Int) (a0_1 : Int) (a1_0 : Int) (a1_1 : Int) (a1_2 : Int) (a1_3 : Int) (a1_4 : List (List T)) (c4 : Bool) : Option Outs :=
 bif c4 then
  some ⟨[.i 1], []⟩
 else
  bindO (evalF E P0 k N.spec_l13Size [.v [.i a1_0, .i a1_1, .i a1_2, .i a1_3, .r a1_4]]) fun o48 =>
  bif (!(o48.t 0).asB) then
   some ⟨[.i 3], []⟩
  else
   bif (a1_0 == 4) then
    some ⟨[.i 0], []⟩
   else
    bindO (evalF E P0 k N.spec_Blocks [.v [.i a0_0, .i a0_1]]) fun o52 =>
    bindO (evalF E P0 k N.spec_l13Len [.v [.i a1_0, .i a1_1, .i a1_2, .i a1_3, .r a1_4]]) fun o53 =>
    bindO (evalF E P0 k N.spec_l1In [.v [.i a1_2], .v [.i 0], .v [.i (IntKind.wrap .i64 ((o52.t 0).asI - (o53.t 0).asI))]]) fun o54 =>
    bif (!(o54.t 0).asB) then some ⟨[.i 2], []⟩ else some ⟨[.i 0], []⟩
def spec_CmdCode_u (k : Nat) (a0_0 : Int) (a0_1 : Int) (a1_0 : Int) (a1_1 : Int) (a1_2 : Int) (a1_3 : Int) (a1_4 : List (List T)) : Option Outs :=
 bindO (evalF E P0 k N.spec_GeoOk [.v [.i a0_0, .i a0_1]]) fun o46 =>
 bif (!(o46.t 0).asB) then
  spec_CmdCode_J1 k a0_0 a0_1 a1_0 a1_1 a1_2 a1_3 a1_4 true
 else
  bindO (evalF E P0 k N.spec_l1In [.v [.i a1_0], .v [.i 1], .v [.i 6]]) fun o55 =>
  bif (!(o55.t 0).asB) then
   spec_CmdCode_J1 k a0_0 a0_1 a1_0 a1_1 a1_2 a1_3 a1_4 true
  else
   bindO (evalF E P0 k N.spec_l1In [.v [.i a1_1], .v [.i 1], .v [.i 999]]) fun o56 =>
   spec_CmdCode_J1 k a0_0 a0_1 a1_0 a1_1 a1_2 a1_3 a1_4 (!(o56.t 0).asB)
theorem spec_CmdCode_e (k : Nat) (a0_0 : Int) (a0_1 : Int) (a1_0 : Int) (a1_1 : Int) (a1_2 : Int) (a1_3 : Int) (a1_4 : List (List T)) : evalF E P0 (k + 1) N.spec_CmdCode [.v [.i a0_0, .i a0_1], .v [.i a1_0, .i a1_1, .i a1_2, .i a1_3, .r a1_4]] = spec_CmdCode_u k a0_0 a0_1 a1_0 a1_1 a1_2 a1_3 a1_4 := by kernel_rfl
/- spec.StripeOf -/
def spec_StripeOf_u (k : Nat) (a0_0 : Int) (a0_1 : Int) (a1 : Int) : Option Outs :=
 bindO (evalF E P0 k N.spec_Blocks [.v [.i a0_0, .i a0_1]]) fun o3 =>
 bindO (evalF E P0 k N.spec_l1In [.v [.i a1], .v [.i 0], .v [.i (IntKind.wrap .i64 ((o3.t 0).asI - 1))]]) fun o4 =>
 bif (!(o4.t 0).asB) then
  some ⟨[.i (-1)], []⟩
 else
  chk (!decide ((IntKind.wrap .i64 (a0_0 - 1)) = 0)) <|
  some ⟨[.i (IntKind.wrap .i64 (Int.tdiv a1 (IntKind.wrap .i64 (a0_0 - 1))))], []⟩
theorem spec_StripeOf_e (k : Nat) (a0_0 : Int) (a0_1 : Int) (a1 : Int) : evalF E P0 (k + 1) N.spec_StripeOf [.v [.i a0_0, .i a0_1], .v [.i a1]] = spec_StripeOf_u k a0_0 a0_1 a1 := by kernel_rfl
/- spec.StepsOf -/
def spec_StepsOf_u (k : Nat) (a0_0 : Int) (a0_1 : Int) (a1_0 : Int) (a1_1 : Int) (a1_2 : Int) (a1_3 : Int) (a1_4 : List (List T)) : Option Outs :=
 bindO (evalF E P0 k N.spec_CmdCode [.v [.i a0_0, .i a0_1], .v [.i a1_0, .i a1_1, .i a1_2, .i a1_3, .r a1_4]]) fun o2 =>
 bif ((o2.t 0).asI != 0) then
  some ⟨[.i 0], []⟩
 else
  bif (a1_0 == 4) then
   some ⟨[.i (IntKind.wrap .i64 (a0_1 + 1))], []⟩
  else
   bif (a1_0 == 5) then
    some ⟨[.i 2], []⟩
   else
    bif (a1_0 == 3) then
     bindO (evalF E P0 k N.spec_StripeOf [.v [.i a0_0, .i a0_1], .v [.i (IntKind.wrap .i64 ((IntKind.wrap .i64 (a1_2 + (a1_4.length : Int))) - 1))]]) fun o17 =>
     bindO (evalF E P0 k N.spec_StripeOf [.v [.i a0_0, .i a0_1], .v [.i a1_2]]) fun o18 =>
     some ⟨[.i (IntKind.wrap .i64 ((IntKind.wrap .i64 ((IntKind.wrap .i64 ((a1_4.length : Int) + (o17.t 0).asI)) - (o18.t 0).asI)) + 2))], []⟩
    else
     bindO (evalF E P0 k N.spec_l13Len [.v [.i a1_0, .i a1_1, .i a1_2, .i a1_3, .r a1_4]]) fun o20 =>
     some ⟨[.i (IntKind.wrap .i64 ((o20.t 0).asI + 1))], []⟩
theorem spec_StepsOf_e (k : Nat) (a0_0 : Int) (a0_1 : Int) (a1_0 : Int) (a1_1 : Int) (a1_2 : Int) (a1_3 : Int) (a1_4 : List (List T)) : evalF E P0 (k + 1) N.spec_StepsOf [.v [.i a0_0, .i a0_1], .v [.i a1_0, .i a1_1, .i a1_2, .i a1_3, .r a1_4]] = spec_StepsOf_u k a0_0 a0_1 a1_0 a1_1 a1_2 a1_3 a1_4 := by kernel_rfl
/- impl.within -/
def impl_within_u (k : Nat) (a0 : Int) (a1 : Int) (a2 : Int) : Option Outs :=
 bif (decide (a0 ≥ a1)) then some ⟨[.b (decide (a0 ≤ a2))], []⟩ else some ⟨[.b false], []⟩
theorem impl_within_e (k : Nat) (a0 : Int) (a1 : Int) (a2 : Int) : evalF E P0 (k + 1) N.impl_within [.v [.i a0], .v [.i a1], .v [.i a2]] = impl_within_u k a0 a1 a2 := by kernel_rfl
/- impl.GeoOk -/
def impl_GeoOk_u (k : Nat) (a0_0 : Int) (a0_1 : Int) : Option Outs :=
 bindO (evalF E P0 k N.impl_within [.v [.i a0_0], .v [.i 3], .v [.i 5]]) fun o3 =>
 bif (o3.t 0).asB then
  bindO (evalF E P0 k N.impl_within [.v [.i a0_1], .v [.i 1], .v [.i 8]]) fun o4 =>
  some ⟨[.b (o4.t 0).asB], []⟩
 else
  some ⟨[.b false], []⟩
theorem impl_GeoOk_e (k : Nat) (a0_0 : Int) (a0_1 : Int) : evalF E P0 (k + 1) N.impl_GeoOk [.v [.i a0_0, .i a0_1]] = impl_GeoOk_u k a0_0 a0_1 := by kernel_rfl
/- impl.isWord -/
def impl_isWord_u (k : Nat) (a0 : Int) : Option Outs :=
 bindO (evalF E P0 k N.impl_within [.v [.i a0], .v [.i 0], .v [.i 65535]]) fun o2 =>
 some ⟨[.b (o2.t 0).asB], []⟩
theorem impl_isWord_e (k : Nat) (a0 : Int) : evalF E P0 (k + 1) N.impl_isWord [.v [.i a0]] = impl_isWord_u k a0 := by kernel_rfl
/- impl.wordsOk -/
def impl_wordsOk_L1 (k : Nat) (a0 : List (List T)) (G1 : (Int) → Option Outs) : (Int) → Option Outs := fun v8 =>
 bif (decide (v8 < (a0.length : Int))) then
  chk (decide (0 ≤ v8) && decide (v8 < (a0.length : Int))) <|
  bindO (evalF E P0 k N.impl_isWord [.v [.i (at_ a0 v8.toNat 0).asI]]) fun o96 =>
  bif (!(o96.t 0).asB) then some ⟨[.b false], []⟩ else G1 (IntKind.wrap .i64 (v8 + 1))
 else
  some ⟨[.b true], []⟩
def impl_wordsOk_k1 : List Nat := [2, 5, 6, 7]
def impl_wordsOk_S1 (a0 : List (List T)) : (Int) → St := fun v8 => ⟨ofSl [(2, .b false), (5, .sl 3 a0), (6, .i .i64 (a0.length : Int)), (7, .i .i64 v8)], ofMem []⟩
def impl_wordsOk_l1 (k : Nat) (a0 : List (List T)) (G1 : (Int) → Option Outs) : (Int) → Option Outs :=
  impl_wordsOk_L1 k a0 G1
def impl_wordsOk_U (k : Nat) (a0 : List (List T)) (R1 : (Int) → Option Outs) : Option Outs :=
 R1 0
def impl_wordsOk_u (k : Nat) (a0 : List (List T)) : Option Outs :=
  impl_wordsOk_U k a0 (fun v => fixN (impl_wordsOk_l1 k a0) k v)
def impl_wordsOk_it1 (k : Nat) (a0 : List (List T)) (js : List Nat) (j : Nat) (s : St) : Option Outs := iter (LB E (evalF E P0 k) k [] N.impl_wordsOk [.sr, .sl, .sr, .bl]) [] impl_wordsOk_k1 (LK E (evalF E P0 k) k [] N.impl_wordsOk [.v [.r a0]] [.sr, .sl, .sr, .bl] js) j s
theorem impl_wordsOk_e (k : Nat) (a0 : List (List T)) : evalF E P0 (k + 1) N.impl_wordsOk [.v [.r a0]] = impl_wordsOk_u k a0 := by
  have e0 : evalF E P0 (k + 1) N.impl_wordsOk [.v [.r a0]] = impl_wordsOk_U k a0 (fun v => impl_wordsOk_it1 k a0 [] k (impl_wordsOk_S1 a0 v)) := by kernel_rfl
  have e1 : ∀ (j1 : Nat) (v : Int), impl_wordsOk_it1 k a0 [] (j1 + 1) (impl_wordsOk_S1 a0 v) = impl_wordsOk_L1 k a0 (fun v => impl_wordsOk_it1 k a0 [] j1 (impl_wordsOk_S1 a0 v)) v := by
    intro j1 v; kernel_rfl
  have i1 : ∀ (j1 : Nat) (v : Int), impl_wordsOk_it1 k a0 [] j1 (impl_wordsOk_S1 a0 v) = fixN (impl_wordsOk_l1 k a0) j1 v := by
    intro j1 v
    refine iter_fix (impl_wordsOk_S1 a0) (impl_wordsOk_l1 k a0) (fun j1 v => (e1 j1 v).trans ?_) j1 v
    unfold impl_wordsOk_l1
    rfl
  rw [e0]; unfold impl_wordsOk_u
  simp only [i1]
/- impl.sizeOk -/
def impl_sizeOk_J1 (k : Nat) (a0_0 : Int) (a0_4 : List (List T)) (c17 : Bool) : Option Outs :=
 bif c17 then
  bindO (evalF E P0 k N.impl_within [.v [.i (a0_4.length : Int)], .v [.i 1], .v [.i 6]]) fun o39 =>
  bif (o39.t 0).asB then
   bindO (evalF E P0 k N.impl_wordsOk [.v [.r a0_4]]) fun o40 =>
   some ⟨[.b (o40.t 0).asB], []⟩
  else
   some ⟨[.b false], []⟩
 else
  bif (a0_0 == 5) then
   bif ((a0_4.length : Int) == 2) then
    bindO (evalF E P0 k N.impl_wordsOk [.v [.r a0_4]]) fun o42 =>
    some ⟨[.b (o42.t 0).asB], []⟩
   else
    some ⟨[.b false], []⟩
  else
   some ⟨[.b true], []⟩
def impl_sizeOk_u (k : Nat) (a0_0 : Int) (a0_1 : Int) (a0_2 : Int) (a0_3 : Int) (a0_4 : List (List T)) : Option Outs :=
 bif (a0_0 == 1) then
  bindO (evalF E P0 k N.impl_within [.v [.i a0_3], .v [.i 1], .v [.i 6]]) fun o34 =>
  some ⟨[.b (o34.t 0).asB], []⟩
 else
  bif (a0_0 == 6) then
   bindO (evalF E P0 k N.impl_within [.v [.i a0_3], .v [.i 1], .v [.i 6]]) fun o36 =>
   some ⟨[.b (o36.t 0).asB], []⟩
  else
   bif (a0_0 == 2) then impl_sizeOk_J1 k a0_0 a0_4 true else impl_sizeOk_J1 k a0_0 a0_4 (a0_0 == 3)
theorem impl_sizeOk_e (k : Nat) (a0_0 : Int) (a0_1 : Int) (a0_2 : Int) (a0_3 : Int) (a0_4 : List (List T)) : evalF E P0 (k + 1) N.impl_sizeOk [.v [.i a0_0, .i a0_1, .i a0_2, .i a0_3, .r a0_4]] = impl_sizeOk_u k a0_0 a0_1 a0_2 a0_3 a0_4 := by kernel_rfl
/- impl.Blocks -/
def impl_Blocks_u (k : Nat) (a0_0 : Int) (a0_1 : Int) : Option Outs :=
 bindO (evalF E P0 k N.impl_GeoOk [.v [.i a0_0, .i a0_1]]) fun o2 =>
 bif (!(o2.t 0).asB) then
  some ⟨[.i 0], []⟩
 else
  some ⟨[.i (IntKind.wrap .i64 (a0_1 * (IntKind.wrap .i64 (a0_0 - 1))))], []⟩
theorem impl_Blocks_e (k : Nat) (a0_0 : Int) (a0_1 : Int) : evalF E P0 (k + 1) N.impl_Blocks [.v [.i a0_0, .i a0_1]] = impl_Blocks_u k a0_0 a0_1 := by kernel_rfl
/- impl.runOf -/
def impl_runOf_u (k : Nat) (a0_0 : Int) (a0_1 : Int) (a0_2 : Int) (a0_3 : Int) (a0_4 : List (List T)) : Option Outs :=
 bif (a0_0 == 1) then
  some ⟨[.i a0_3], []⟩
 else
  bif (a0_0 == 6) then
   some ⟨[.i a0_3], []⟩
  else
   bif (a0_0 == 2) then
    some ⟨[.i (a0_4.length : Int)], []⟩
   else
    bif (a0_0 == 3) then
     some ⟨[.i (a0_4.length : Int)], []⟩
    else
     bif (a0_0 == 5) then some ⟨[.i 1], []⟩ else some ⟨[.i 0], []⟩
theorem impl_runOf_e (k : Nat) (a0_0 : Int) (a0_1 : Int) (a0_2 : Int) (a0_3 : Int) (a0_4 : List (List T)) : evalF E P0 (k + 1) N.impl_runOf [.v [.i a0_0, .i a0_1, .i a0_2, .i a0_3, .r a0_4]] = impl_runOf_u k a0_0 a0_1 a0_2 a0_3 a0_4 := by kernel_rfl
/- impl.CmdCode -/
def impl_CmdCode_J1 (k : Nat) (a0_0 : Int) (a0_1 : Int) (a1_0 : Int) (a1_1 : Int) (a1_2 : Int) (a1_3 : Int) (a1_4 : List (List T)) (c7 : Bool) : Option Outs :=
 bif c7 then
  some ⟨[.i 1], []⟩
 else
  bindO (evalF E P0 k N.impl_sizeOk [.v [.i a1_0, .i a1_1, .i a1_2, .i a1_3, .r a1_4]]) fun o48 =>
  bif (!(o48.t 0).asB) then
   some ⟨[.i 3], []⟩
  else
   bif (a1_0 != 4) then
    bindO (evalF E P0 k N.impl_Blocks [.v [.i a0_0, .i a0_1]]) fun o52 =>
    bindO (evalF E P0 k N.impl_runOf [.v [.i a1_0, .i a1_1, .i a1_2, .i a1_3, .r a1_4]]) fun o53 =>
    bindO (evalF E P0 k N.impl_within [.v [.i a1_2], .v [.i 0], .v [.i (IntKind.wrap .i64 ((o52.t 0).asI - (o53.t 0).asI))]]) fun o54 =>
    bif (!(o54.t 0).asB) then some ⟨[.i 2], []⟩ else some ⟨[.i 0], []⟩
   else
    some ⟨[.i 0], []⟩
def impl_CmdCode_u (k : Nat) (a0_0 : Int) (a0_1 : Int) (a1_0 : Int) (a1_1 : Int) (a1_2 : Int) (a1_3 : Int) (a1_4 : List (List T)) : Option Outs :=
 bindO (evalF E P0 k N.impl_GeoOk [.v [.i a0_0, .i a0_1]]) fun o46 =>
 bif (!(o46.t 0).asB) then
  impl_CmdCode_J1 k a0_0 a0_1 a1_0 a1_1 a1_2 a1_3 a1_4 true
 else
  bindO (evalF E P0 k N.impl_within [.v [.i a1_0], .v [.i 1], .v [.i 6]]) fun o55 =>
  bif (!(o55.t 0).asB) then
   impl_CmdCode_J1 k a0_0 a0_1 a1_0 a1_1 a1_2 a1_3 a1_4 true
  else
   bindO (evalF E P0 k N.impl_within [.v [.i a1_1], .v [.i 1], .v [.i 999]]) fun o56 =>
   impl_CmdCode_J1 k a0_0 a0_1 a1_0 a1_1 a1_2 a1_3 a1_4 (!(o56.t 0).asB)
theorem impl_CmdCode_e (k : Nat) (a0_0 : Int) (a0_1 : Int) (a1_0 : Int) (a1_1 : Int) (a1_2 : Int) (a1_3 : Int) (a1_4 : List (List T)) : evalF E P0 (k + 1) N.impl_CmdCode [.v [.i a0_0, .i a0_1], .v [.i a1_0, .i a1_1, .i a1_2, .i a1_3, .r a1_4]] = impl_CmdCode_u k a0_0 a0_1 a1_0 a1_1 a1_2 a1_3 a1_4 := by kernel_rfl
/- impl.SpanOf -/
def impl_SpanOf_u (k : Nat) (a0_0 : Int) (a0_1 : Int) (a1_0 : Int) (a1_1 : Int) (a1_2 : Int) (a1_3 : Int) (a1_4 : List (List T)) : Option Outs :=
 bindO (evalF E P0 k N.impl_CmdCode [.v [.i a0_0, .i a0_1], .v [.i a1_0, .i a1_1, .i a1_2, .i a1_3, .r a1_4]]) fun o14 =>
 bif ((o14.t 0).asI != 0) then
  some ⟨[.i 0, .i 0], []⟩
 else
  bif (a1_0 == 4) then
   bindO (evalF E P0 k N.impl_Blocks [.v [.i a0_0, .i a0_1]]) fun o16 =>
   some ⟨[.i 0, .i (o16.t 0).asI], []⟩
  else
   bindO (evalF E P0 k N.impl_runOf [.v [.i a1_0, .i a1_1, .i a1_2, .i a1_3, .r a1_4]]) fun o18 =>
   some ⟨[.i a1_2, .i (IntKind.wrap .i64 (a1_2 + (o18.t 0).asI))], []⟩
theorem impl_SpanOf_e (k : Nat) (a0_0 : Int) (a0_1 : Int) (a1_0 : Int) (a1_1 : Int) (a1_2 : Int) (a1_3 : Int) (a1_4 : List (List T)) : evalF E P0 (k + 1) N.impl_SpanOf [.v [.i a0_0, .i a0_1], .v [.i a1_0, .i a1_1, .i a1_2, .i a1_3, .r a1_4]] = impl_SpanOf_u k a0_0 a0_1 a1_0 a1_1 a1_2 a1_3 a1_4 := by kernel_rfl
/- impl.hasBlock -/
def impl_hasBlock_u (k : Nat) (a0_0 : Int) (a0_1 : Int) (a1 : Int) : Option Outs :=
 bindO (evalF E P0 k N.impl_Blocks [.v [.i a0_0, .i a0_1]]) fun o3 =>
 bindO (evalF E P0 k N.impl_within [.v [.i a1], .v [.i 0], .v [.i (IntKind.wrap .i64 ((o3.t 0).asI - 1))]]) fun o4 =>
 some ⟨[.b (o4.t 0).asB], []⟩
theorem impl_hasBlock_e (k : Nat) (a0_0 : Int) (a0_1 : Int) (a1 : Int) : evalF E P0 (k + 1) N.impl_hasBlock [.v [.i a0_0, .i a0_1], .v [.i a1]] = impl_hasBlock_u k a0_0 a0_1 a1 := by kernel_rfl
/- impl.StripeOf -/
def impl_StripeOf_u (k : Nat) (a0_0 : Int) (a0_1 : Int) (a1 : Int) : Option Outs :=
 bindO (evalF E P0 k N.impl_hasBlock [.v [.i a0_0, .i a0_1], .v [.i a1]]) fun o2 =>
 bif (!(o2.t 0).asB) then
  some ⟨[.i (-1)], []⟩
 else
  chk (!decide ((IntKind.wrap .i64 (a0_0 - 1)) = 0)) <|
  some ⟨[.i (IntKind.wrap .i64 (Int.tdiv a1 (IntKind.wrap .i64 (a0_0 - 1))))], []⟩
theorem impl_StripeOf_e (k : Nat) (a0_0 : Int) (a0_1 : Int) (a1 : Int) : evalF E P0 (k + 1) N.impl_StripeOf [.v [.i a0_0, .i a0_1], .v [.i a1]] = impl_StripeOf_u k a0_0 a0_1 a1 := by kernel_rfl
/- impl.stripesOf -/
def impl_stripesOf_u (k : Nat) (a0_0 : Int) (a0_1 : Int) (a1_0 : Int) (a1_1 : Int) (a1_2 : Int) (a1_3 : Int) (a1_4 : List (List T)) : Option Outs :=
 bindO (evalF E P0 k N.impl_SpanOf [.v [.i a0_0, .i a0_1], .v [.i a1_0, .i a1_1, .i a1_2, .i a1_3, .r a1_4]]) fun o2 =>
 bindO (evalF E P0 k N.impl_StripeOf [.v [.i a0_0, .i a0_1], .v [.i (o2.t 0).asI]]) fun o5 =>
 bindO (evalF E P0 k N.impl_StripeOf [.v [.i a0_0, .i a0_1], .v [.i (IntKind.wrap .i64 ((o2.t 1).asI - 1))]]) fun o6 =>
 some ⟨[.i (o5.t 0).asI, .i (o6.t 0).asI], []⟩
theorem impl_stripesOf_e (k : Nat) (a0_0 : Int) (a0_1 : Int) (a1_0 : Int) (a1_1 : Int) (a1_2 : Int) (a1_3 : Int) (a1_4 : List (List T)) : evalF E P0 (k + 1) N.impl_stripesOf [.v [.i a0_0, .i a0_1], .v [.i a1_0, .i a1_1, .i a1_2, .i a1_3, .r a1_4]] = impl_stripesOf_u k a0_0 a0_1 a1_0 a1_1 a1_2 a1_3 a1_4 := by kernel_rfl
/- impl.StepsOf -/
def impl_StepsOf_u (k : Nat) (a0_0 : Int) (a0_1 : Int) (a1_0 : Int) (a1_1 : Int) (a1_2 : Int) (a1_3 : Int) (a1_4 : List (List T)) : Option Outs :=
 bindO (evalF E P0 k N.impl_CmdCode [.v [.i a0_0, .i a0_1], .v [.i a1_0, .i a1_1, .i a1_2, .i a1_3, .r a1_4]]) fun o2 =>
 bif ((o2.t 0).asI != 0) then
  some ⟨[.i 0], []⟩
 else
  bif (a1_0 == 3) then
   bindO (evalF E P0 k N.impl_stripesOf [.v [.i a0_0, .i a0_1], .v [.i a1_0, .i a1_1, .i a1_2, .i a1_3, .r a1_4]]) fun o16 =>
   bindO (evalF E P0 k N.impl_runOf [.v [.i a1_0, .i a1_1, .i a1_2, .i a1_3, .r a1_4]]) fun o18 =>
   some ⟨[.i (IntKind.wrap .i64 ((IntKind.wrap .i64 ((IntKind.wrap .i64 ((o18.t 0).asI + (o16.t 1).asI)) - (o16.t 0).asI)) + 2))], []⟩
  else
   bif (a1_0 == 4) then
    some ⟨[.i (IntKind.wrap .i64 (a0_1 + 1))], []⟩
   else
    bindO (evalF E P0 k N.impl_runOf [.v [.i a1_0, .i a1_1, .i a1_2, .i a1_3, .r a1_4]]) fun o20 =>
    some ⟨[.i (IntKind.wrap .i64 ((o20.t 0).asI + 1))], []⟩
theorem impl_StepsOf_e (k : Nat) (a0_0 : Int) (a0_1 : Int) (a1_0 : Int) (a1_1 : Int) (a1_2 : Int) (a1_3 : Int) (a1_4 : List (List T)) : evalF E P0 (k + 1) N.impl_StepsOf [.v [.i a0_0, .i a0_1], .v [.i a1_0, .i a1_1, .i a1_2, .i a1_3, .r a1_4]] = impl_StepsOf_u k a0_0 a0_1 a1_0 a1_1 a1_2 a1_3 a1_4 := by kernel_rfl
/- laws.eqIntS -/
def laws_eqIntS_L1 (k : Nat) (a0 : List (List T)) (a1 : List (List T)) (G1 : (Int) → Option Outs) : (Int) → Option Outs := fun v8 =>
 bif (decide (v8 < (a0.length : Int))) then
  chk (decide (0 ≤ v8) && decide (v8 < (a0.length : Int))) <|
  chk (decide (0 ≤ v8) && decide (v8 < (a1.length : Int))) <|
  bif ((at_ a0 v8.toNat 0).asI != (at_ a1 v8.toNat 0).asI) then
   some ⟨[.b false], []⟩
  else
   G1 (IntKind.wrap .i64 (v8 + 1))
 else
  some ⟨[.b true], []⟩
def laws_eqIntS_k1 : List Nat := [0, 1, 4, 5]
def laws_eqIntS_S1 (a0 : List (List T)) (a1 : List (List T)) : (Int) → St := fun v8 => ⟨ofSl [(0, .sl 3 a0), (1, .sl 3 a1), (4, .b false), (5, .i .i64 v8)], ofMem []⟩
def laws_eqIntS_l1 (k : Nat) (a0 : List (List T)) (a1 : List (List T)) (G1 : (Int) → Option Outs) : (Int) → Option Outs :=
  laws_eqIntS_L1 k a0 a1 G1
def laws_eqIntS_U (k : Nat) (a0 : List (List T)) (a1 : List (List T)) (R1 : (Int) → Option Outs) : Option Outs :=
 bif ((a0.length : Int) != (a1.length : Int)) then some ⟨[.b false], []⟩ else R1 0
def laws_eqIntS_u (k : Nat) (a0 : List (List T)) (a1 : List (List T)) : Option Outs :=
  laws_eqIntS_U k a0 a1 (fun v => fixN (laws_eqIntS_l1 k a0 a1) k v)
def laws_eqIntS_it1 (k : Nat) (a0 : List (List T)) (a1 : List (List T)) (js : List Nat) (j : Nat) (s : St) : Option Outs := iter (LB E (evalF E P0 k) k [] N.laws_eqIntS [.sr, .sr, .sl, .sr, .bl]) [] laws_eqIntS_k1 (LK E (evalF E P0 k) k [] N.laws_eqIntS [.v [.r a0], .v [.r a1]] [.sr, .sr, .sl, .sr, .bl] js) j s
theorem laws_eqIntS_e (k : Nat) (a0 : List (List T)) (a1 : List (List T)) : evalF E P0 (k + 1) N.laws_eqIntS [.v [.r a0], .v [.r a1]] = laws_eqIntS_u k a0 a1 := by
  have e0 : evalF E P0 (k + 1) N.laws_eqIntS [.v [.r a0], .v [.r a1]] = laws_eqIntS_U k a0 a1 (fun v => laws_eqIntS_it1 k a0 a1 [] k (laws_eqIntS_S1 a0 a1 v)) := by kernel_rfl
  have e1 : ∀ (j1 : Nat) (v : Int), laws_eqIntS_it1 k a0 a1 [] (j1 + 1) (laws_eqIntS_S1 a0 a1 v) = laws_eqIntS_L1 k a0 a1 (fun v => laws_eqIntS_it1 k a0 a1 [] j1 (laws_eqIntS_S1 a0 a1 v)) v := by
    intro j1 v; kernel_rfl
  have i1 : ∀ (j1 : Nat) (v : Int), laws_eqIntS_it1 k a0 a1 [] j1 (laws_eqIntS_S1 a0 a1 v) = fixN (laws_eqIntS_l1 k a0 a1) j1 v := by
    intro j1 v
    refine iter_fix (laws_eqIntS_S1 a0 a1) (laws_eqIntS_l1 k a0 a1) (fun j1 v => (e1 j1 v).trans ?_) j1 v
    unfold laws_eqIntS_l1
    rfl
  rw [e0]; unfold laws_eqIntS_u
  simp only [i1]
/- laws.eqCmd -/
def laws_eqCmd_u (k : Nat) (a0_0 : Int) (a0_1 : Int) (a0_2 : Int) (a0_3 : Int) (a0_4 : List (List T)) (a1_0 : Int) (a1_1 : Int) (a1_2 : Int) (a1_3 : Int) (a1_4 : List (List T)) : Option Outs :=
 bif (a0_0 != a1_0) then
  some ⟨[.b false], []⟩
 else
  bif (a0_1 != a1_1) then
   some ⟨[.b false], []⟩
  else
   bif (a0_2 != a1_2) then
    some ⟨[.b false], []⟩
   else
    bif (a0_3 != a1_3) then
     some ⟨[.b false], []⟩
    else
     bindO (evalF E P0 k N.laws_eqIntS [.v [.r a0_4], .v [.r a1_4]]) fun o2 =>
     bif (!(o2.t 0).asB) then some ⟨[.b false], []⟩ else some ⟨[.b true], []⟩
theorem laws_eqCmd_e (k : Nat) (a0_0 : Int) (a0_1 : Int) (a0_2 : Int) (a0_3 : Int) (a0_4 : List (List T)) (a1_0 : Int) (a1_1 : Int) (a1_2 : Int) (a1_3 : Int) (a1_4 : List (List T)) : evalF E P0 (k + 1) N.laws_eqCmd [.v [.i a0_0, .i a0_1, .i a0_2, .i a0_3, .r a0_4], .v [.i a1_0, .i a1_1, .i a1_2, .i a1_3, .r a1_4]] = laws_eqCmd_u k a0_0 a0_1 a0_2 a0_3 a0_4 a1_0 a1_1 a1_2 a1_3 a1_4 := by kernel_rfl
/- laws.FnExactStepsOf -/
def laws_FnExactStepsOf_u (k : Nat) (a0_0 : Int) (a0_1 : Int) (a1_0 : Int) (a1_1 : Int) (a1_2 : Int) (a1_3 : Int) (a1_4 : List (List T)) : Option Outs :=
 bindO (evalF E P0 k N.laws_szCmd [.v [.i a1_0, .i a1_1, .i a1_2, .i a1_3, .r a1_4], .v [.i 1048576]]) fun o2 =>
 bif (decide ((o2.t 0).asI < 0)) then
  some ⟨[.b true], []⟩
 else
  bindO (evalF E P0 k N.laws_toGeo [.v [.i a0_0, .i a0_1]]) fun o6 =>
  bindO (evalF E P0 k N.laws_toCmd [.v [.i a1_0, .i a1_1, .i a1_2, .i a1_3, .r a1_4]]) fun o7 =>
  bindO (evalF E P0 k N.spec_StepsOf [.v [.i (o6.t 0).asI, .i (o6.t 1).asI], .v [.i (o7.t 0).asI, .i (o7.t 1).asI, .i (o7.t 2).asI, .i (o7.t 3).asI, .r (o7.t 4).asR]]) fun o8 =>
  bindO (evalF E P0 k N.laws_toCmd [.v [.i a1_0, .i a1_1, .i a1_2, .i a1_3, .r a1_4]]) fun o10 =>
  bindO (evalF E P0 k N.laws_toGeo [.v [.i a0_0, .i a0_1]]) fun o13 =>
  bindO (evalF E P0 k N.impl_StepsOf [.v [.i (o13.t 0).asI, .i (o13.t 1).asI], .v [.i (o10.t 0).asI, .i (o10.t 1).asI, .i (o10.t 2).asI, .i (o10.t 3).asI, .r (o10.t 4).asR]]) fun o14 =>
  bif ((o14.t 0).asI != (o8.t 0).asI) then
   some ⟨[.b false], []⟩
  else
   bindO (evalF E P0 k N.laws_toCmd [.v [.i a1_0, .i a1_1, .i a1_2, .i a1_3, .r a1_4]]) fun o17 =>
   bindO (evalF E P0 k N.laws_eqCmd [.v [.i (o10.t 0).asI, .i (o10.t 1).asI, .i (o10.t 2).asI, .i (o10.t 3).asI, .r (o10.t 4).asR], .v [.i (o17.t 0).asI, .i (o17.t 1).asI, .i (o17.t 2).asI, .i (o17.t 3).asI, .r (o17.t 4).asR]]) fun o18 =>
   bif (!(o18.t 0).asB) then some ⟨[.b false], []⟩ else some ⟨[.b true], []⟩
theorem laws_FnExactStepsOf_e (k : Nat) (a0_0 : Int) (a0_1 : Int) (a1_0 : Int) (a1_1 : Int) (a1_2 : Int) (a1_3 : Int) (a1_4 : List (List T)) : evalF E P0 (k + 1) N.laws_FnExactStepsOf [.v [.i a0_0, .i a0_1], .v [.i a1_0, .i a1_1, .i a1_2, .i a1_3, .r a1_4]] = laws_FnExactStepsOf_u k a0_0 a0_1 a1_0 a1_1 a1_2 a1_3 a1_4 := by kernel_rfl
/- laws.szAns -/
def laws_szAns_u (k : Nat) (a0_0 : Int) (a0_1 : Int) (a0_2 : List (List T)) (a1 : Int) : Option Outs :=
 bindO (evalF E P0 k N.laws_szIntS [.v [.r a0_2], .v [.i a1]]) fun o2 =>
 bif (decide ((o2.t 0).asI < 0)) then some ⟨[.i (-1)], []⟩ else some ⟨[.i (o2.t 0).asI], []⟩
theorem laws_szAns_e (k : Nat) (a0_0 : Int) (a0_1 : Int) (a0_2 : List (List T)) (a1 : Int) : evalF E P0 (k + 1) N.laws_szAns [.v [.i a0_0, .i a0_1, .r a0_2], .v [.i a1]] = laws_szAns_u k a0_0 a0_1 a0_2 a1 := by kernel_rfl
/- laws.szTurn -/
def laws_szTurn_u (k : Nat) (a0_0 : Int) (a0_1 : Int) (a0_2 : Int) (a0_3 : Int) (a0_4 : List (List T)) (a0_5 : Int) (a0_6 : Int) (a0_7 : List (List T)) (a1 : Int) : Option Outs :=
 bindO (evalF E P0 k N.laws_szCmd [.v [.i a0_0, .i a0_1, .i a0_2, .i a0_3, .r a0_4], .v [.i a1]]) fun o2 =>
 bif (decide ((o2.t 0).asI < 0)) then
  some ⟨[.i (-1)], []⟩
 else
  bindO (evalF E P0 k N.laws_szAns [.v [.i a0_5, .i a0_6, .r a0_7], .v [.i (o2.t 0).asI]]) fun o4 =>
  bif (decide ((o4.t 0).asI < 0)) then some ⟨[.i (-1)], []⟩ else some ⟨[.i (o4.t 0).asI], []⟩
theorem laws_szTurn_e (k : Nat) (a0_0 : Int) (a0_1 : Int) (a0_2 : Int) (a0_3 : Int) (a0_4 : List (List T)) (a0_5 : Int) (a0_6 : Int) (a0_7 : List (List T)) (a1 : Int) : evalF E P0 (k + 1) N.laws_szTurn [.v [.i a0_0, .i a0_1, .i a0_2, .i a0_3, .r a0_4, .i a0_5, .i a0_6, .r a0_7], .v [.i a1]] = laws_szTurn_u k a0_0 a0_1 a0_2 a0_3 a0_4 a0_5 a0_6 a0_7 a1 := by kernel_rfl
/- laws.szTurnS -/
def laws_szTurnS_L1 (k : Nat) (a0 : List (List T)) (G1 : (Int × Int) → Option Outs) : (Int × Int) → Option Outs := fun (v15, v16) =>
 bif (decide (v16 < (a0.length : Int))) then
  chk (decide (0 ≤ v16) && decide (v16 < (a0.length : Int))) <|
  bindO (evalF E P0 k N.laws_szTurn [.v [.i (at_ a0 v16.toNat 0).asI, .i (at_ a0 v16.toNat 1).asI, .i (at_ a0 v16.toNat 2).asI, .i (at_ a0 v16.toNat 3).asI, .r (at_ a0 v16.toNat 4).asR, .i (at_ a0 v16.toNat 5).asI, .i (at_ a0 v16.toNat 6).asI, .r (at_ a0 v16.toNat 7).asR], .v [.i v15]]) fun o96 =>
  bif (decide ((o96.t 0).asI < 0)) then some ⟨[.i (-1)], []⟩ else G1 ((o96.t 0).asI, (IntKind.wrap .i64 (v16 + 1)))
 else
  some ⟨[.i v15], []⟩
def laws_szTurnS_k1 : List Nat := [0, 1, 4, 5, 26]
def laws_szTurnS_S1 (a0 : List (List T)) : (Int × Int) → St := fun (v15, v16) => ⟨ofSl [(0, .sl 82 a0), (1, .i .i64 v15), (4, .i .i64 0), (5, .i .i64 v16), (26, .skip)], ofMem []⟩
def laws_szTurnS_l1 (k : Nat) (a0 : List (List T)) (G1 : (Int × Int) → Option Outs) : (Int × Int) → Option Outs :=
  laws_szTurnS_L1 k a0 G1
def laws_szTurnS_U (k : Nat) (a0 : List (List T)) (a1 : Int) (R1 : (Int × Int) → Option Outs) : Option Outs :=
 bif (decide ((IntKind.wrap .i64 (a1 - (a0.length : Int))) < 0)) then
  some ⟨[.i (-1)], []⟩
 else
  R1 ((IntKind.wrap .i64 (a1 - (a0.length : Int))), 0)
def laws_szTurnS_u (k : Nat) (a0 : List (List T)) (a1 : Int) : Option Outs :=
  laws_szTurnS_U k a0 a1 (fun v => fixN (laws_szTurnS_l1 k a0) k v)
def laws_szTurnS_it1 (k : Nat) (a0 : List (List T)) (a1 : Int) (js : List Nat) (j : Nat) (s : St) : Option Outs := iter (LB E (evalF E P0 k) k [] N.laws_szTurnS [.sr, .sr, .sr, .sl, .sr, .bl]) [] laws_szTurnS_k1 (LK E (evalF E P0 k) k [] N.laws_szTurnS [.v [.r a0], .v [.i a1]] [.sr, .sr, .sr, .sl, .sr, .bl] js) j s
theorem laws_szTurnS_e (k : Nat) (a0 : List (List T)) (a1 : Int) : evalF E P0 (k + 1) N.laws_szTurnS [.v [.r a0], .v [.i a1]] = laws_szTurnS_u k a0 a1 := by
  have e0 : evalF E P0 (k + 1) N.laws_szTurnS [.v [.r a0], .v [.i a1]] = laws_szTurnS_U k a0 a1 (fun v => laws_szTurnS_it1 k a0 a1 [] k (laws_szTurnS_S1 a0 v)) := by kernel_rfl
  have e1 : ∀ (j1 : Nat) (v : Int × Int), laws_szTurnS_it1 k a0 a1 [] (j1 + 1) (laws_szTurnS_S1 a0 v) = laws_szTurnS_L1 k a0 (fun v => laws_szTurnS_it1 k a0 a1 [] j1 (laws_szTurnS_S1 a0 v)) v := by
    intro j1 v; kernel_rfl
  have i1 : ∀ (j1 : Nat) (v : Int × Int), laws_szTurnS_it1 k a0 a1 [] j1 (laws_szTurnS_S1 a0 v) = fixN (laws_szTurnS_l1 k a0) j1 v := by
    intro j1 v
    refine iter_fix (laws_szTurnS_S1 a0) (laws_szTurnS_l1 k a0) (fun j1 v => (e1 j1 v).trans ?_) j1 v
    unfold laws_szTurnS_l1
    rfl
  rw [e0]; unfold laws_szTurnS_u
  simp only [i1]
/- laws.toAns -/
def laws_toAns_u (k : Nat) (a0_0 : Int) (a0_1 : Int) (a0_2 : List (List T)) : Option Outs :=
 bindO (evalF E P0 k N.laws_toIntS [.v [.r a0_2]]) fun o2 =>
 some ⟨[.i a0_0, .i a0_1, .r (o2.t 0).asR], []⟩
theorem laws_toAns_e (k : Nat) (a0_0 : Int) (a0_1 : Int) (a0_2 : List (List T)) : evalF E P0 (k + 1) N.laws_toAns [.v [.i a0_0, .i a0_1, .r a0_2]] = laws_toAns_u k a0_0 a0_1 a0_2 := by kernel_rfl
/- laws.toTurn -/
def laws_toTurn_u (k : Nat) (a0_0 : Int) (a0_1 : Int) (a0_2 : Int) (a0_3 : Int) (a0_4 : List (List T)) (a0_5 : Int) (a0_6 : Int) (a0_7 : List (List T)) : Option Outs :=
 bindO (evalF E P0 k N.laws_toCmd [.v [.i a0_0, .i a0_1, .i a0_2, .i a0_3, .r a0_4]]) fun o2 =>
 bindO (evalF E P0 k N.laws_toAns [.v [.i a0_5, .i a0_6, .r a0_7]]) fun o4 =>
 some ⟨[.i (o2.t 0).asI, .i (o2.t 1).asI, .i (o2.t 2).asI, .i (o2.t 3).asI, .r (o2.t 4).asR, .i (o4.t 0).asI, .i (o4.t 1).asI, .r (o4.t 2).asR], []⟩
theorem laws_toTurn_e (k : Nat) (a0_0 : Int) (a0_1 : Int) (a0_2 : Int) (a0_3 : Int) (a0_4 : List (List T)) (a0_5 : Int) (a0_6 : Int) (a0_7 : List (List T)) : evalF E P0 (k + 1) N.laws_toTurn [.v [.i a0_0, .i a0_1, .i a0_2, .i a0_3, .r a0_4, .i a0_5, .i a0_6, .r a0_7]] = laws_toTurn_u k a0_0 a0_1 a0_2 a0_3 a0_4 a0_5 a0_6 a0_7 := by kernel_rfl
/- laws.toTurnS -/
def laws_toTurnS_L1 (k : Nat) (a0 : List (List T)) (G1 : (Int × List (List T)) → Option Outs) : (Int × List (List T)) → Option Outs := fun (v8, w8) =>
 bif (decide (v8 < (a0.length : Int))) then
  chk (decide (0 ≤ v8) && decide (v8 < (a0.length : Int))) <|
  bindO (evalF E P0 k N.laws_toTurn [.v [.i (at_ a0 v8.toNat 0).asI, .i (at_ a0 v8.toNat 1).asI, .i (at_ a0 v8.toNat 2).asI, .i (at_ a0 v8.toNat 3).asI, .r (at_ a0 v8.toNat 4).asR, .i (at_ a0 v8.toNat 5).asI, .i (at_ a0 v8.toNat 6).asI, .r (at_ a0 v8.toNat 7).asR]]) fun o48 =>
  chk (decide (0 ≤ v8) && decide (v8 < (w8.length : Int))) <|
  G1 ((IntKind.wrap .i64 (v8 + 1)), (put_ w8 v8.toNat 0 [.i (o48.t 0).asI, .i (o48.t 1).asI, .i (o48.t 2).asI, .i (o48.t 3).asI, .r (o48.t 4).asR, .i (o48.t 5).asI, .i (o48.t 6).asI, .r (o48.t 7).asR]))
 else
  some ⟨[.r w8], []⟩
def laws_toTurnS_k1 : List Nat := [0, 2, 3, 4, 22]
def laws_toTurnS_S1 (a0 : List (List T)) : (Int × List (List T)) → St := fun (v8, w8) => ⟨ofSl [(0, .sl 82 a0), (2, .ref (2, 0)), (3, .ref (3, 0)), (4, .i .i64 v8), (22, .skip)], ofMem [((2, 0), .row 86 true []), ((3, 0), .row 86 true w8)]⟩
def laws_toTurnS_l1 (k : Nat) (a0 : List (List T)) (G1 : (Int × List (List T)) → Option Outs) : (Int × List (List T)) → Option Outs :=
  laws_toTurnS_L1 k a0 G1
def laws_toTurnS_U (k : Nat) (a0 : List (List T)) (R1 : (Int × List (List T)) → Option Outs) : Option Outs :=
 chk (decide ((a0.length : Int) = (a0.length : Int)) && decide (0 ≤ (a0.length : Int)) && decide ((a0.length : Int) * ((96 : Nat) : Int) ≤ 140737488355328)) <|
 R1 (0, (List.replicate ((a0.length : Int) : Int).toNat [.i 0, .i 0, .i 0, .i 0, .r [], .i 0, .i 0, .r []]))
def laws_toTurnS_u (k : Nat) (a0 : List (List T)) : Option Outs :=
  laws_toTurnS_U k a0 (fun v => fixN (laws_toTurnS_l1 k a0) k v)
def laws_toTurnS_it1 (k : Nat) (a0 : List (List T)) (js : List Nat) (j : Nat) (s : St) : Option Outs := iter (LB E (evalF E P0 k) k [] N.laws_toTurnS [.sr, .sr, .sl, .sr, .bl]) [] laws_toTurnS_k1 (LK E (evalF E P0 k) k [] N.laws_toTurnS [.v [.r a0]] [.sr, .sr, .sl, .sr, .bl] js) j s
theorem laws_toTurnS_e (k : Nat) (a0 : List (List T)) : evalF E P0 (k + 1) N.laws_toTurnS [.v [.r a0]] = laws_toTurnS_u k a0 := by
  have e0 : evalF E P0 (k + 1) N.laws_toTurnS [.v [.r a0]] = laws_toTurnS_U k a0 (fun v => laws_toTurnS_it1 k a0 [] k (laws_toTurnS_S1 a0 v)) := by kernel_rfl
  have e1 : ∀ (j1 : Nat) (v : Int × List (List T)), laws_toTurnS_it1 k a0 [] (j1 + 1) (laws_toTurnS_S1 a0 v) = laws_toTurnS_L1 k a0 (fun v => laws_toTurnS_it1 k a0 [] j1 (laws_toTurnS_S1 a0 v)) v := by
    intro j1 v; kernel_rfl
  have i1 : ∀ (j1 : Nat) (v : Int × List (List T)), laws_toTurnS_it1 k a0 [] j1 (laws_toTurnS_S1 a0 v) = fixN (laws_toTurnS_l1 k a0) j1 v := by
    intro j1 v
    refine iter_fix (laws_toTurnS_S1 a0) (laws_toTurnS_l1 k a0) (fun j1 v => (e1 j1 v).trans ?_) j1 v
    unfold laws_toTurnS_l1
    rfl
  rw [e0]; unfold laws_toTurnS_u
  simp only [i1]
/- spec.Writes -/
def spec_Writes_J1 (k : Nat) (a0_0 : Int) (a0_1 : Int) (a0_2 : Int) (a0_3 : Int) (a0_4 : List (List T)) (a1 : Int) (c7 : Bool) : Option Outs :=
 bif c7 then
  bif (decide (a1 ≥ a0_2)) then
   bif (decide ((IntKind.wrap .i64 (a1 - a0_2)) ≥ 0)) then
    bindO (evalF E P0 k N.spec_l13Len [.v [.i a0_0, .i a0_1, .i a0_2, .i a0_3, .r a0_4]]) fun o8 =>
    some ⟨[.b (decide ((IntKind.wrap .i64 (a1 - a0_2)) < (o8.t 0).asI))], []⟩
   else
    some ⟨[.b false], []⟩
  else
   some ⟨[.b false], []⟩
 else
  some ⟨[.b false], []⟩
def spec_Writes_u (k : Nat) (a0_0 : Int) (a0_1 : Int) (a0_2 : Int) (a0_3 : Int) (a0_4 : List (List T)) (a1 : Int) : Option Outs :=
 bif (a0_0 == 2) then
  spec_Writes_J1 k a0_0 a0_1 a0_2 a0_3 a0_4 a1 true
 else
  bif (a0_0 == 3) then
   spec_Writes_J1 k a0_0 a0_1 a0_2 a0_3 a0_4 a1 true
  else
   bif (a0_0 == 6) then
    spec_Writes_J1 k a0_0 a0_1 a0_2 a0_3 a0_4 a1 true
   else
    spec_Writes_J1 k a0_0 a0_1 a0_2 a0_3 a0_4 a1 (a0_0 == 5)
theorem spec_Writes_e (k : Nat) (a0_0 : Int) (a0_1 : Int) (a0_2 : Int) (a0_3 : Int) (a0_4 : List (List T)) (a1 : Int) : evalF E P0 (k + 1) N.spec_Writes [.v [.i a0_0, .i a0_1, .i a0_2, .i a0_3, .r a0_4], .v [.i a1]] = spec_Writes_u k a0_0 a0_1 a0_2 a0_3 a0_4 a1 := by kernel_rfl
/- spec.l19Flushed -/
def spec_l19Flushed_L1 (k : Nat) (a0 : List (List T)) (G1 : (Int) → Option Outs) : (Int) → Option Outs := fun v8 =>
 bif (decide (v8 < (a0.length : Int))) then
  chk (decide (0 ≤ v8) && decide (v8 < (a0.length : Int))) <|
  bif ((at_ a0 v8.toNat 0).asI == 4) then
   chk (decide (0 ≤ v8) && decide (v8 < (a0.length : Int))) <|
   bif ((at_ a0 v8.toNat 6).asI == 0) then some ⟨[.b true], []⟩ else G1 (IntKind.wrap .i64 (v8 + 1))
  else
   G1 (IntKind.wrap .i64 (v8 + 1))
 else
  some ⟨[.b false], []⟩
def spec_l19Flushed_k1 : List Nat := [0, 4, 5]
def spec_l19Flushed_S1 (a0 : List (List T)) : (Int) → St := fun v8 => ⟨ofSl [(0, .sl 86 a0), (4, .b false), (5, .i .i64 v8)], ofMem []⟩
def spec_l19Flushed_l1 (k : Nat) (a0 : List (List T)) (G1 : (Int) → Option Outs) : (Int) → Option Outs :=
  spec_l19Flushed_L1 k a0 G1
def spec_l19Flushed_U (k : Nat) (a0 : List (List T)) (a1 : Int) (R1 : (Int) → Option Outs) : Option Outs :=
 R1 (IntKind.wrap .i64 (a1 + 1))
def spec_l19Flushed_u (k : Nat) (a0 : List (List T)) (a1 : Int) : Option Outs :=
  spec_l19Flushed_U k a0 a1 (fun v => fixN (spec_l19Flushed_l1 k a0) k v)
def spec_l19Flushed_it1 (k : Nat) (a0 : List (List T)) (a1 : Int) (js : List Nat) (j : Nat) (s : St) : Option Outs := iter (LB E (evalF E P0 k) k [] N.spec_l19Flushed [.sr, .sl, .sr, .bl]) [] spec_l19Flushed_k1 (LK E (evalF E P0 k) k [] N.spec_l19Flushed [.v [.r a0], .v [.i a1]] [.sr, .sl, .sr, .bl] js) j s
theorem spec_l19Flushed_e (k : Nat) (a0 : List (List T)) (a1 : Int) : evalF E P0 (k + 1) N.spec_l19Flushed [.v [.r a0], .v [.i a1]] = spec_l19Flushed_u k a0 a1 := by
  have e0 : evalF E P0 (k + 1) N.spec_l19Flushed [.v [.r a0], .v [.i a1]] = spec_l19Flushed_U k a0 a1 (fun v => spec_l19Flushed_it1 k a0 a1 [] k (spec_l19Flushed_S1 a0 v)) := by kernel_rfl
  have e1 : ∀ (j1 : Nat) (v : Int), spec_l19Flushed_it1 k a0 a1 [] (j1 + 1) (spec_l19Flushed_S1 a0 v) = spec_l19Flushed_L1 k a0 (fun v => spec_l19Flushed_it1 k a0 a1 [] j1 (spec_l19Flushed_S1 a0 v)) v := by
    intro j1 v; kernel_rfl
  have i1 : ∀ (j1 : Nat) (v : Int), spec_l19Flushed_it1 k a0 a1 [] j1 (spec_l19Flushed_S1 a0 v) = fixN (spec_l19Flushed_l1 k a0) j1 v := by
    intro j1 v
    refine iter_fix (spec_l19Flushed_S1 a0) (spec_l19Flushed_l1 k a0) (fun j1 v => (e1 j1 v).trans ?_) j1 v
    unfold spec_l19Flushed_l1
    rfl
  rw [e0]; unfold spec_l19Flushed_u
  simp only [i1]
/- spec.SureOf -/
def spec_SureOf_L1 (k : Nat) (a0 : List (List T)) (a1 : Int) (G1 : (Int) → Option Outs) : (Int) → Option Outs := fun v8 =>
 bif (decide (v8 ≥ 0)) then
  chk (decide (0 ≤ v8) && decide (v8 < (a0.length : Int))) <|
  bif ((at_ a0 v8.toNat 6).asI == 0) then
   chk (decide (0 ≤ v8) && decide (v8 < (a0.length : Int))) <|
   bindO (evalF E P0 k N.spec_Writes [.v [.i (at_ a0 v8.toNat 0).asI, .i (at_ a0 v8.toNat 1).asI, .i (at_ a0 v8.toNat 2).asI, .i (at_ a0 v8.toNat 3).asI, .r (at_ a0 v8.toNat 4).asR], .v [.i a1]]) fun o191 =>
   bif (o191.t 0).asB then
    chk (decide (0 ≤ v8) && decide (v8 < (a0.length : Int))) <|
    bif ((at_ a0 v8.toNat 0).asI == 3) then
     some ⟨[.i v8], []⟩
    else
     bindO (evalF E P0 k N.spec_l19Flushed [.v [.r a0], .v [.i v8]]) fun o192 =>
     bif (o192.t 0).asB then some ⟨[.i v8], []⟩ else G1 (IntKind.wrap .i64 (v8 - 1))
   else
    G1 (IntKind.wrap .i64 (v8 - 1))
  else
   G1 (IntKind.wrap .i64 (v8 - 1))
 else
  some ⟨[.i (-1)], []⟩
def spec_SureOf_k1 : List Nat := [0, 1, 4, 5]
def spec_SureOf_S1 (a0 : List (List T)) (a1 : Int) : (Int) → St := fun v8 => ⟨ofSl [(0, .sl 86 a0), (1, .i .i64 a1), (4, .i .i64 0), (5, .i .i64 v8)], ofMem []⟩
def spec_SureOf_l1 (k : Nat) (a0 : List (List T)) (a1 : Int) (G1 : (Int) → Option Outs) : (Int) → Option Outs :=
  spec_SureOf_L1 k a0 a1 G1
def spec_SureOf_U (k : Nat) (a0 : List (List T)) (a1 : Int) (R1 : (Int) → Option Outs) : Option Outs :=
 R1 (IntKind.wrap .i64 ((a0.length : Int) - 1))
def spec_SureOf_u (k : Nat) (a0 : List (List T)) (a1 : Int) : Option Outs :=
  spec_SureOf_U k a0 a1 (fun v => fixN (spec_SureOf_l1 k a0 a1) k v)
def spec_SureOf_it1 (k : Nat) (a0 : List (List T)) (a1 : Int) (js : List Nat) (j : Nat) (s : St) : Option Outs := iter (LB E (evalF E P0 k) k [] N.spec_SureOf [.sr, .sl, .sr, .bl]) [] spec_SureOf_k1 (LK E (evalF E P0 k) k [] N.spec_SureOf [.v [.r a0], .v [.i a1]] [.sr, .sl, .sr, .bl] js) j s
theorem spec_SureOf_e (k : Nat) (a0 : List (List T)) (a1 : Int) : evalF E P0 (k + 1) N.spec_SureOf [.v [.r a0], .v [.i a1]] = spec_SureOf_u k a0 a1 := by
  have e0 : evalF E P0 (k + 1) N.spec_SureOf [.v [.r a0], .v [.i a1]] = spec_SureOf_U k a0 a1 (fun v => spec_SureOf_it1 k a0 a1 [] k (spec_SureOf_S1 a0 a1 v)) := by kernel_rfl
  have e1 : ∀ (j1 : Nat) (v : Int), spec_SureOf_it1 k a0 a1 [] (j1 + 1) (spec_SureOf_S1 a0 a1 v) = spec_SureOf_L1 k a0 a1 (fun v => spec_SureOf_it1 k a0 a1 [] j1 (spec_SureOf_S1 a0 a1 v)) v := by
    intro j1 v; kernel_rfl
  have i1 : ∀ (j1 : Nat) (v : Int), spec_SureOf_it1 k a0 a1 [] j1 (spec_SureOf_S1 a0 a1 v) = fixN (spec_SureOf_l1 k a0 a1) j1 v := by
    intro j1 v
    refine iter_fix (spec_SureOf_S1 a0 a1) (spec_SureOf_l1 k a0 a1) (fun j1 v => (e1 j1 v).trans ?_) j1 v
    unfold spec_SureOf_l1
    rfl
  rw [e0]; unfold spec_SureOf_u
  simp only [i1]
/- spec.WordOf -/
def spec_WordOf_J1 (k : Nat) (a0_0 : Int) (a0_2 : Int) (a0_4 : List (List T)) (a1 : Int) (c4 : Bool) : Option Outs :=
 bif c4 then
  chk (decide (0 ≤ (IntKind.wrap .i64 (a1 - a0_2))) && decide ((IntKind.wrap .i64 (a1 - a0_2)) < (a0_4.length : Int))) <|
  some ⟨[.i (at_ a0_4 (IntKind.wrap .i64 (a1 - a0_2)).toNat 0).asI], []⟩
 else
  bif (a0_0 == 5) then
   bif ((a0_4.length : Int) == 2) then
    chk (decide ((1 : Int) < (a0_4.length : Int))) <|
    some ⟨[.i (at_ a0_4 1 0).asI], []⟩
   else
    some ⟨[.i 0], []⟩
  else
   some ⟨[.i 0], []⟩
def spec_WordOf_u (k : Nat) (a0_0 : Int) (a0_1 : Int) (a0_2 : Int) (a0_3 : Int) (a0_4 : List (List T)) (a1 : Int) : Option Outs :=
 bindO (evalF E P0 k N.spec_Writes [.v [.i a0_0, .i a0_1, .i a0_2, .i a0_3, .r a0_4], .v [.i a1]]) fun o2 =>
 bif (!(o2.t 0).asB) then
  some ⟨[.i 0], []⟩
 else
  bif (a0_0 == 2) then spec_WordOf_J1 k a0_0 a0_2 a0_4 a1 true else spec_WordOf_J1 k a0_0 a0_2 a0_4 a1 (a0_0 == 3)
theorem spec_WordOf_e (k : Nat) (a0_0 : Int) (a0_1 : Int) (a0_2 : Int) (a0_3 : Int) (a0_4 : List (List T)) (a1 : Int) : evalF E P0 (k + 1) N.spec_WordOf [.v [.i a0_0, .i a0_1, .i a0_2, .i a0_3, .r a0_4], .v [.i a1]] = spec_WordOf_u k a0_0 a0_1 a0_2 a0_3 a0_4 a1 := by kernel_rfl
/- spec.MayBe -/
def spec_MayBe_L1 (k : Nat) (a1 : List (List T)) (a2 : Int) (a3 : Int) (G1 : (Int) → Option Outs) : (Int) → Option Outs := fun v8 =>
 bif (decide (v8 < (a1.length : Int))) then
  chk (decide (0 ≤ v8) && decide (v8 < (a1.length : Int))) <|
  chk (decide (0 ≤ v8) && decide (v8 < (a1.length : Int))) <|
  bindO (evalF E P0 k N.spec_Writes [.v [.i (at_ a1 v8.toNat 0).asI, .i (at_ a1 v8.toNat 1).asI, .i (at_ a1 v8.toNat 2).asI, .i (at_ a1 v8.toNat 3).asI, .r (at_ a1 v8.toNat 4).asR], .v [.i a2]]) fun o288 =>
  bif (o288.t 0).asB then
   chk (decide (0 ≤ v8) && decide (v8 < (a1.length : Int))) <|
   bindO (evalF E P0 k N.spec_WordOf [.v [.i (at_ a1 v8.toNat 0).asI, .i (at_ a1 v8.toNat 1).asI, .i (at_ a1 v8.toNat 2).asI, .i (at_ a1 v8.toNat 3).asI, .r (at_ a1 v8.toNat 4).asR], .v [.i a2]]) fun o289 =>
   bif ((o289.t 0).asI == a3) then
    bindO (evalF E P0 k N.spec_l1In [.v [.i (at_ a1 v8.toNat 6).asI], .v [.i 1], .v [.i 4]]) fun o290 =>
    bif (!(o290.t 0).asB) then some ⟨[.b true], []⟩ else G1 (IntKind.wrap .i64 (v8 + 1))
   else
    G1 (IntKind.wrap .i64 (v8 + 1))
  else
   G1 (IntKind.wrap .i64 (v8 + 1))
 else
  some ⟨[.b false], []⟩
def spec_MayBe_k1 : List Nat := [1, 2, 3, 8, 10]
def spec_MayBe_S1 (a1 : List (List T)) (a2 : Int) (a3 : Int) : (Int) → St := fun v8 => ⟨ofSl [(1, .sl 86 a1), (2, .i .i64 a2), (3, .i .i64 a3), (8, .b false), (10, .i .i64 v8)], ofMem []⟩
def spec_MayBe_J2 (k : Nat) (R1 : (Int) → Option Outs) (x1 : Int) : Option Outs :=
 R1 x1
def spec_MayBe_J1 (k : Nat) (o2 : Outs) (R1 : (Int) → Option Outs) (c1 : Bool) : Option Outs :=
 bif c1 then
  some ⟨[.b true], []⟩
 else
  bif (decide ((o2.t 0).asI < 0)) then spec_MayBe_J2 k R1 0 else spec_MayBe_J2 k R1 ((o2.t 0).asI)
def spec_MayBe_l1 (k : Nat) (a1 : List (List T)) (a2 : Int) (a3 : Int) (G1 : (Int) → Option Outs) : (Int) → Option Outs :=
  spec_MayBe_L1 k a1 a2 a3 G1
def spec_MayBe_U (k : Nat) (a0 : Int) (a1 : List (List T)) (a2 : Int) (a3 : Int) (R1 : (Int) → Option Outs) : Option Outs :=
 bindO (evalF E P0 k N.spec_SureOf [.v [.r a1], .v [.i a2]]) fun o2 =>
 bif (decide ((o2.t 0).asI < 0)) then spec_MayBe_J1 k o2 R1 (a3 == a0) else spec_MayBe_J1 k o2 R1 false
def spec_MayBe_u (k : Nat) (a0 : Int) (a1 : List (List T)) (a2 : Int) (a3 : Int) : Option Outs :=
  spec_MayBe_U k a0 a1 a2 a3 (fun v => fixN (spec_MayBe_l1 k a1 a2 a3) k v)
def spec_MayBe_it1 (k : Nat) (a0 : Int) (a1 : List (List T)) (a2 : Int) (a3 : Int) (js : List Nat) (j : Nat) (s : St) : Option Outs := iter (LB E (evalF E P0 k) k [] N.spec_MayBe [.sr, .sr, .sr, .sr, .sl, .sr, .bl]) [] spec_MayBe_k1 (LK E (evalF E P0 k) k [] N.spec_MayBe [.v [.i a0], .v [.r a1], .v [.i a2], .v [.i a3]] [.sr, .sr, .sr, .sr, .sl, .sr, .bl] js) j s
theorem spec_MayBe_e (k : Nat) (a0 : Int) (a1 : List (List T)) (a2 : Int) (a3 : Int) : evalF E P0 (k + 1) N.spec_MayBe [.v [.i a0], .v [.r a1], .v [.i a2], .v [.i a3]] = spec_MayBe_u k a0 a1 a2 a3 := by
  have e0 : evalF E P0 (k + 1) N.spec_MayBe [.v [.i a0], .v [.r a1], .v [.i a2], .v [.i a3]] = spec_MayBe_U k a0 a1 a2 a3 (fun v => spec_MayBe_it1 k a0 a1 a2 a3 [] k (spec_MayBe_S1 a1 a2 a3 v)) := by kernel_rfl
  have e1 : ∀ (j1 : Nat) (v : Int), spec_MayBe_it1 k a0 a1 a2 a3 [] (j1 + 1) (spec_MayBe_S1 a1 a2 a3 v) = spec_MayBe_L1 k a1 a2 a3 (fun v => spec_MayBe_it1 k a0 a1 a2 a3 [] j1 (spec_MayBe_S1 a1 a2 a3 v)) v := by
    intro j1 v; kernel_rfl
  have i1 : ∀ (j1 : Nat) (v : Int), spec_MayBe_it1 k a0 a1 a2 a3 [] j1 (spec_MayBe_S1 a1 a2 a3 v) = fixN (spec_MayBe_l1 k a1 a2 a3) j1 v := by
    intro j1 v
    refine iter_fix (spec_MayBe_S1 a1 a2 a3) (spec_MayBe_l1 k a1 a2 a3) (fun j1 v => (e1 j1 v).trans ?_) j1 v
    unfold spec_MayBe_l1
    rfl
  rw [e0]; unfold spec_MayBe_u
  simp only [i1]
/- impl.Writes -/
def impl_Writes_u (k : Nat) (a0_0 : Int) (a0_1 : Int) (a0_2 : Int) (a0_3 : Int) (a0_4 : List (List T)) (a1 : Int) : Option Outs :=
 bif (a0_0 != 1) then
  bif (decide (a1 ≥ a0_2)) then
   bindO (evalF E P0 k N.impl_runOf [.v [.i a0_0, .i a0_1, .i a0_2, .i a0_3, .r a0_4]]) fun o2 =>
   some ⟨[.b (decide ((IntKind.wrap .u64 ((IntKind.wrap .u64 a1) - (IntKind.wrap .u64 a0_2))) < (IntKind.wrap .u64 (if 0 > (o2.t 0).asI then 0 else (o2.t 0).asI))))], []⟩
  else
   some ⟨[.b false], []⟩
 else
  some ⟨[.b false], []⟩
theorem impl_Writes_e (k : Nat) (a0_0 : Int) (a0_1 : Int) (a0_2 : Int) (a0_3 : Int) (a0_4 : List (List T)) (a1 : Int) : evalF E P0 (k + 1) N.impl_Writes [.v [.i a0_0, .i a0_1, .i a0_2, .i a0_3, .r a0_4], .v [.i a1]] = impl_Writes_u k a0_0 a0_1 a0_2 a0_3 a0_4 a1 := by kernel_rfl
/- impl.SureOf -/
def impl_SureOf_J1 (k : Nat) (a0 : List (List T)) (d8 : Bool) (v8 : Int) (G1 : (Bool × Int) → Option Outs) (c72 : Bool) : Option Outs :=
 bif c72 then
  some ⟨[.i v8], []⟩
 else
  bif d8 then
   G1 (true, (IntKind.wrap .i64 (v8 - 1)))
  else
   G1 (((at_ a0 v8.toNat 0).asI == 4), (IntKind.wrap .i64 (v8 - 1)))
def impl_SureOf_L1 (k : Nat) (a0 : List (List T)) (a1 : Int) (G1 : (Bool × Int) → Option Outs) : (Bool × Int) → Option Outs := fun (d8, v8) =>
 bif (decide (v8 ≥ 0)) then
  chk (decide (0 ≤ v8) && decide (v8 < (a0.length : Int))) <|
  bif ((at_ a0 v8.toNat 6).asI != 0) then
   G1 (d8, (IntKind.wrap .i64 (v8 - 1)))
  else
   bindO (evalF E P0 k N.impl_Writes [.v [.i (at_ a0 v8.toNat 0).asI, .i (at_ a0 v8.toNat 1).asI, .i (at_ a0 v8.toNat 2).asI, .i (at_ a0 v8.toNat 3).asI, .r (at_ a0 v8.toNat 4).asR], .v [.i a1]]) fun o96 =>
   bif (o96.t 0).asB then
    bif d8 then impl_SureOf_J1 k a0 d8 v8 G1 true else impl_SureOf_J1 k a0 d8 v8 G1 ((at_ a0 v8.toNat 0).asI == 3)
   else
    impl_SureOf_J1 k a0 d8 v8 G1 false
 else
  some ⟨[.i (-1)], []⟩
def impl_SureOf_k1 : List Nat := [0, 1, 4, 5, 6]
def impl_SureOf_S1 (a0 : List (List T)) (a1 : Int) : (Bool × Int) → St := fun (d8, v8) => ⟨ofSl [(0, .sl 86 a0), (1, .i .i64 a1), (4, .i .i64 0), (5, .b d8), (6, .i .i64 v8)], ofMem []⟩
def impl_SureOf_l1 (k : Nat) (a0 : List (List T)) (a1 : Int) (G1 : (Bool × Int) → Option Outs) : (Bool × Int) → Option Outs :=
  impl_SureOf_L1 k a0 a1 G1
def impl_SureOf_U (k : Nat) (a0 : List (List T)) (a1 : Int) (R1 : (Bool × Int) → Option Outs) : Option Outs :=
 R1 (false, (IntKind.wrap .i64 ((a0.length : Int) - 1)))
def impl_SureOf_u (k : Nat) (a0 : List (List T)) (a1 : Int) : Option Outs :=
  impl_SureOf_U k a0 a1 (fun v => fixN (impl_SureOf_l1 k a0 a1) k v)
def impl_SureOf_it1 (k : Nat) (a0 : List (List T)) (a1 : Int) (js : List Nat) (j : Nat) (s : St) : Option Outs := iter (LB E (evalF E P0 k) k [] N.impl_SureOf [.sr, .sr, .sl, .sr, .bl]) [] impl_SureOf_k1 (LK E (evalF E P0 k) k [] N.impl_SureOf [.v [.r a0], .v [.i a1]] [.sr, .sr, .sl, .sr, .bl] js) j s
theorem impl_SureOf_e (k : Nat) (a0 : List (List T)) (a1 : Int) : evalF E P0 (k + 1) N.impl_SureOf [.v [.r a0], .v [.i a1]] = impl_SureOf_u k a0 a1 := by
  have e0 : evalF E P0 (k + 1) N.impl_SureOf [.v [.r a0], .v [.i a1]] = impl_SureOf_U k a0 a1 (fun v => impl_SureOf_it1 k a0 a1 [] k (impl_SureOf_S1 a0 a1 v)) := by kernel_rfl
  have e1 : ∀ (j1 : Nat) (v : Bool × Int), impl_SureOf_it1 k a0 a1 [] (j1 + 1) (impl_SureOf_S1 a0 a1 v) = impl_SureOf_L1 k a0 a1 (fun v => impl_SureOf_it1 k a0 a1 [] j1 (impl_SureOf_S1 a0 a1 v)) v := by
    intro j1 v; kernel_rfl
  have i1 : ∀ (j1 : Nat) (v : Bool × Int), impl_SureOf_it1 k a0 a1 [] j1 (impl_SureOf_S1 a0 a1 v) = fixN (impl_SureOf_l1 k a0 a1) j1 v := by
    intro j1 v
    refine iter_fix (impl_SureOf_S1 a0 a1) (impl_SureOf_l1 k a0 a1) (fun j1 v => (e1 j1 v).trans ?_) j1 v
    unfold impl_SureOf_l1
    rfl
  rw [e0]; unfold impl_SureOf_u
  simp only [i1]
/- impl.WordOf -/
def impl_WordOf_J1 (k : Nat) (a0_0 : Int) (a0_2 : Int) (a0_4 : List (List T)) (a1 : Int) (c4 : Bool) : Option Outs :=
 bif c4 then
  chk (decide (0 ≤ (IntKind.wrap .i64 (a1 - a0_2))) && decide ((IntKind.wrap .i64 (a1 - a0_2)) < (a0_4.length : Int))) <|
  some ⟨[.i (at_ a0_4 (IntKind.wrap .i64 (a1 - a0_2)).toNat 0).asI], []⟩
 else
  bif (a0_0 == 5) then
   bif ((a0_4.length : Int) == 2) then
    chk (decide ((1 : Int) < (a0_4.length : Int))) <|
    some ⟨[.i (at_ a0_4 1 0).asI], []⟩
   else
    some ⟨[.i 0], []⟩
  else
   some ⟨[.i 0], []⟩
def impl_WordOf_u (k : Nat) (a0_0 : Int) (a0_1 : Int) (a0_2 : Int) (a0_3 : Int) (a0_4 : List (List T)) (a1 : Int) : Option Outs :=
 bindO (evalF E P0 k N.impl_Writes [.v [.i a0_0, .i a0_1, .i a0_2, .i a0_3, .r a0_4], .v [.i a1]]) fun o2 =>
 bif (!(o2.t 0).asB) then
  some ⟨[.i 0], []⟩
 else
  bif (a0_0 == 2) then impl_WordOf_J1 k a0_0 a0_2 a0_4 a1 true else impl_WordOf_J1 k a0_0 a0_2 a0_4 a1 (a0_0 == 3)
theorem impl_WordOf_e (k : Nat) (a0_0 : Int) (a0_1 : Int) (a0_2 : Int) (a0_3 : Int) (a0_4 : List (List T)) (a1 : Int) : evalF E P0 (k + 1) N.impl_WordOf [.v [.i a0_0, .i a0_1, .i a0_2, .i a0_3, .r a0_4], .v [.i a1]] = impl_WordOf_u k a0_0 a0_1 a0_2 a0_3 a0_4 a1 := by kernel_rfl
/- impl.MayBe -/
def impl_MayBe_L1 (k : Nat) (a2 : Int) (a3 : Int) (p23 : List (List T)) (p24 : Int) (G1 : (Int) → Option Outs) : (Int) → Option Outs := fun v8 =>
 bif (decide (v8 < p24)) then
  chk (decide (0 ≤ v8) && decide (v8 < (p23.length : Int))) <|
  bindO (evalF E P0 k N.impl_Writes [.v [.i (at_ p23 v8.toNat 0).asI, .i (at_ p23 v8.toNat 1).asI, .i (at_ p23 v8.toNat 2).asI, .i (at_ p23 v8.toNat 3).asI, .r (at_ p23 v8.toNat 4).asR], .v [.i a2]]) fun o288 =>
  bif (o288.t 0).asB then
   bindO (evalF E P0 k N.impl_WordOf [.v [.i (at_ p23 v8.toNat 0).asI, .i (at_ p23 v8.toNat 1).asI, .i (at_ p23 v8.toNat 2).asI, .i (at_ p23 v8.toNat 3).asI, .r (at_ p23 v8.toNat 4).asR], .v [.i a2]]) fun o289 =>
   bif ((o289.t 0).asI == a3) then
    bindO (evalF E P0 k N.impl_within [.v [.i (at_ p23 v8.toNat 6).asI], .v [.i 1], .v [.i 4]]) fun o290 =>
    bif (!(o290.t 0).asB) then some ⟨[.b true], []⟩ else G1 (IntKind.wrap .i64 (v8 + 1))
   else
    G1 (IntKind.wrap .i64 (v8 + 1))
  else
   G1 (IntKind.wrap .i64 (v8 + 1))
 else
  some ⟨[.b false], []⟩
def impl_MayBe_k1 : List Nat := [2, 3, 8, 25, 26, 27]
def impl_MayBe_S1 (a2 : Int) (a3 : Int) (p23 : List (List T)) (p24 : Int) : (Int) → St := fun v8 => ⟨ofSl [(2, .i .i64 a2), (3, .i .i64 a3), (8, .b false), (25, .sl 86 p23), (26, .i .i64 p24), (27, .i .i64 v8)], ofMem []⟩
def impl_MayBe_J1 (k : Nat) (a1 : List (List T)) (o2 : Outs) (R1 : List (List T) → Int → (Int) → Option Outs) (c1 : Bool) : Option Outs :=
 bif c1 then
  some ⟨[.b true], []⟩
 else
  chk (decide (0 ≤ (if 0 > (o2.t 0).asI then 0 else (o2.t 0).asI)) && decide ((if 0 > (o2.t 0).asI then 0 else (o2.t 0).asI) ≤ (a1.length : Int)) && decide ((a1.length : Int) ≤ (a1.length : Int))) <|
  R1 ((a1.drop (if 0 > (o2.t 0).asI then 0 else (o2.t 0).asI).toNat).take ((a1.length : Int).toNat - (if 0 > (o2.t 0).asI then 0 else (o2.t 0).asI).toNat)) (((a1.drop (if 0 > (o2.t 0).asI then 0 else (o2.t 0).asI).toNat).take ((a1.length : Int).toNat - (if 0 > (o2.t 0).asI then 0 else (o2.t 0).asI).toNat)).length : Int) 0
def impl_MayBe_l1 (k : Nat) (a2 : Int) (a3 : Int) (p23 : List (List T)) (p24 : Int) (G1 : (Int) → Option Outs) : (Int) → Option Outs :=
  impl_MayBe_L1 k a2 a3 p23 p24 G1
def impl_MayBe_U (k : Nat) (a0 : Int) (a1 : List (List T)) (a2 : Int) (a3 : Int) (R1 : List (List T) → Int → (Int) → Option Outs) : Option Outs :=
 bindO (evalF E P0 k N.impl_SureOf [.v [.r a1], .v [.i a2]]) fun o2 =>
 bif ((o2.t 0).asI == (-1)) then impl_MayBe_J1 k a1 o2 R1 (a3 == a0) else impl_MayBe_J1 k a1 o2 R1 false
def impl_MayBe_u (k : Nat) (a0 : Int) (a1 : List (List T)) (a2 : Int) (a3 : Int) : Option Outs :=
  impl_MayBe_U k a0 a1 a2 a3 (fun y0 y1 v => fixN (impl_MayBe_l1 k a2 a3 y0 y1) k v)
def impl_MayBe_it1 (k : Nat) (a0 : Int) (a1 : List (List T)) (a2 : Int) (a3 : Int) (js : List Nat) (j : Nat) (s : St) : Option Outs := iter (LB E (evalF E P0 k) k [] N.impl_MayBe [.sr, .sr, .sr, .sl, .sr, .bl]) [] impl_MayBe_k1 (LK E (evalF E P0 k) k [] N.impl_MayBe [.v [.i a0], .v [.r a1], .v [.i a2], .v [.i a3]] [.sr, .sr, .sr, .sl, .sr, .bl] js) j s
theorem impl_MayBe_e (k : Nat) (a0 : Int) (a1 : List (List T)) (a2 : Int) (a3 : Int) : evalF E P0 (k + 1) N.impl_MayBe [.v [.i a0], .v [.r a1], .v [.i a2], .v [.i a3]] = impl_MayBe_u k a0 a1 a2 a3 := by
  have e0 : evalF E P0 (k + 1) N.impl_MayBe [.v [.i a0], .v [.r a1], .v [.i a2], .v [.i a3]] = impl_MayBe_U k a0 a1 a2 a3 (fun y0 y1 v => impl_MayBe_it1 k a0 a1 a2 a3 [] k (impl_MayBe_S1 a2 a3 y0 y1 v)) := by kernel_rfl
  have e1 : ∀ (p23 : List (List T)) (p24 : Int) (j1 : Nat) (v : Int), impl_MayBe_it1 k a0 a1 a2 a3 [] (j1 + 1) (impl_MayBe_S1 a2 a3 p23 p24 v) = impl_MayBe_L1 k a2 a3 p23 p24 (fun v => impl_MayBe_it1 k a0 a1 a2 a3 [] j1 (impl_MayBe_S1 a2 a3 p23 p24 v)) v := by
    intro p23 p24 j1 v; kernel_rfl
  have i1 : ∀ (p23 : List (List T)) (p24 : Int) (j1 : Nat) (v : Int), impl_MayBe_it1 k a0 a1 a2 a3 [] j1 (impl_MayBe_S1 a2 a3 p23 p24 v) = fixN (impl_MayBe_l1 k a2 a3 p23 p24) j1 v := by
    intro p23 p24 j1 v
    refine iter_fix (impl_MayBe_S1 a2 a3 p23 p24) (impl_MayBe_l1 k a2 a3 p23 p24) (fun j1 v => (e1 p23 p24 j1 v).trans ?_) j1 v
    unfold impl_MayBe_l1
    rfl
  rw [e0]; unfold impl_MayBe_u
  simp only [i1]
/- laws.eqAns -/
def laws_eqAns_u (k : Nat) (a0_0 : Int) (a0_1 : Int) (a0_2 : List (List T)) (a1_0 : Int) (a1_1 : Int) (a1_2 : List (List T)) : Option Outs :=
 bif (a0_0 != a1_0) then
  some ⟨[.b false], []⟩
 else
  bif (a0_1 != a1_1) then
   some ⟨[.b false], []⟩
  else
   bindO (evalF E P0 k N.laws_eqIntS [.v [.r a0_2], .v [.r a1_2]]) fun o2 =>
   bif (!(o2.t 0).asB) then some ⟨[.b false], []⟩ else some ⟨[.b true], []⟩
theorem laws_eqAns_e (k : Nat) (a0_0 : Int) (a0_1 : Int) (a0_2 : List (List T)) (a1_0 : Int) (a1_1 : Int) (a1_2 : List (List T)) : evalF E P0 (k + 1) N.laws_eqAns [.v [.i a0_0, .i a0_1, .r a0_2], .v [.i a1_0, .i a1_1, .r a1_2]] = laws_eqAns_u k a0_0 a0_1 a0_2 a1_0 a1_1 a1_2 := by kernel_rfl
/- laws.eqTurn -/
def laws_eqTurn_u (k : Nat) (a0_0 : Int) (a0_1 : Int) (a0_2 : Int) (a0_3 : Int) (a0_4 : List (List T)) (a0_5 : Int) (a0_6 : Int) (a0_7 : List (List T)) (a1_0 : Int) (a1_1 : Int) (a1_2 : Int) (a1_3 : Int) (a1_4 : List (List T)) (a1_5 : Int) (a1_6 : Int) (a1_7 : List (List T)) : Option Outs :=
 bindO (evalF E P0 k N.laws_eqCmd [.v [.i a0_0, .i a0_1, .i a0_2, .i a0_3, .r a0_4], .v [.i a1_0, .i a1_1, .i a1_2, .i a1_3, .r a1_4]]) fun o2 =>
 bif (!(o2.t 0).asB) then
  some ⟨[.b false], []⟩
 else
  bindO (evalF E P0 k N.laws_eqAns [.v [.i a0_5, .i a0_6, .r a0_7], .v [.i a1_5, .i a1_6, .r a1_7]]) fun o4 =>
  bif (!(o4.t 0).asB) then some ⟨[.b false], []⟩ else some ⟨[.b true], []⟩
theorem laws_eqTurn_e (k : Nat) (a0_0 : Int) (a0_1 : Int) (a0_2 : Int) (a0_3 : Int) (a0_4 : List (List T)) (a0_5 : Int) (a0_6 : Int) (a0_7 : List (List T)) (a1_0 : Int) (a1_1 : Int) (a1_2 : Int) (a1_3 : Int) (a1_4 : List (List T)) (a1_5 : Int) (a1_6 : Int) (a1_7 : List (List T)) : evalF E P0 (k + 1) N.laws_eqTurn [.v [.i a0_0, .i a0_1, .i a0_2, .i a0_3, .r a0_4, .i a0_5, .i a0_6, .r a0_7], .v [.i a1_0, .i a1_1, .i a1_2, .i a1_3, .r a1_4, .i a1_5, .i a1_6, .r a1_7]] = laws_eqTurn_u k a0_0 a0_1 a0_2 a0_3 a0_4 a0_5 a0_6 a0_7 a1_0 a1_1 a1_2 a1_3 a1_4 a1_5 a1_6 a1_7 := by kernel_rfl
/- laws.eqTurnS -/
def laws_eqTurnS_L1 (k : Nat) (a0 : List (List T)) (a1 : List (List T)) (G1 : (Int) → Option Outs) : (Int) → Option Outs := fun v8 =>
 bif (decide (v8 < (a0.length : Int))) then
  chk (decide (0 ≤ v8) && decide (v8 < (a0.length : Int))) <|
  chk (decide (0 ≤ v8) && decide (v8 < (a1.length : Int))) <|
  bindO (evalF E P0 k N.laws_eqTurn [.v [.i (at_ a0 v8.toNat 0).asI, .i (at_ a0 v8.toNat 1).asI, .i (at_ a0 v8.toNat 2).asI, .i (at_ a0 v8.toNat 3).asI, .r (at_ a0 v8.toNat 4).asR, .i (at_ a0 v8.toNat 5).asI, .i (at_ a0 v8.toNat 6).asI, .r (at_ a0 v8.toNat 7).asR], .v [.i (at_ a1 v8.toNat 0).asI, .i (at_ a1 v8.toNat 1).asI, .i (at_ a1 v8.toNat 2).asI, .i (at_ a1 v8.toNat 3).asI, .r (at_ a1 v8.toNat 4).asR, .i (at_ a1 v8.toNat 5).asI, .i (at_ a1 v8.toNat 6).asI, .r (at_ a1 v8.toNat 7).asR]]) fun o96 =>
  bif (!(o96.t 0).asB) then some ⟨[.b false], []⟩ else G1 (IntKind.wrap .i64 (v8 + 1))
 else
  some ⟨[.b true], []⟩
def laws_eqTurnS_k1 : List Nat := [0, 1, 4, 5]
def laws_eqTurnS_S1 (a0 : List (List T)) (a1 : List (List T)) : (Int) → St := fun v8 => ⟨ofSl [(0, .sl 86 a0), (1, .sl 86 a1), (4, .b false), (5, .i .i64 v8)], ofMem []⟩
def laws_eqTurnS_l1 (k : Nat) (a0 : List (List T)) (a1 : List (List T)) (G1 : (Int) → Option Outs) : (Int) → Option Outs :=
  laws_eqTurnS_L1 k a0 a1 G1
def laws_eqTurnS_U (k : Nat) (a0 : List (List T)) (a1 : List (List T)) (R1 : (Int) → Option Outs) : Option Outs :=
 bif ((a0.length : Int) != (a1.length : Int)) then some ⟨[.b false], []⟩ else R1 0
def laws_eqTurnS_u (k : Nat) (a0 : List (List T)) (a1 : List (List T)) : Option Outs :=
  laws_eqTurnS_U k a0 a1 (fun v => fixN (laws_eqTurnS_l1 k a0 a1) k v)
def laws_eqTurnS_it1 (k : Nat) (a0 : List (List T)) (a1 : List (List T)) (js : List Nat) (j : Nat) (s : St) : Option Outs := iter (LB E (evalF E P0 k) k [] N.laws_eqTurnS [.sr, .sr, .sl, .sr, .bl]) [] laws_eqTurnS_k1 (LK E (evalF E P0 k) k [] N.laws_eqTurnS [.v [.r a0], .v [.r a1]] [.sr, .sr, .sl, .sr, .bl] js) j s
theorem laws_eqTurnS_e (k : Nat) (a0 : List (List T)) (a1 : List (List T)) : evalF E P0 (k + 1) N.laws_eqTurnS [.v [.r a0], .v [.r a1]] = laws_eqTurnS_u k a0 a1 := by
  have e0 : evalF E P0 (k + 1) N.laws_eqTurnS [.v [.r a0], .v [.r a1]] = laws_eqTurnS_U k a0 a1 (fun v => laws_eqTurnS_it1 k a0 a1 [] k (laws_eqTurnS_S1 a0 a1 v)) := by kernel_rfl
  have e1 : ∀ (j1 : Nat) (v : Int), laws_eqTurnS_it1 k a0 a1 [] (j1 + 1) (laws_eqTurnS_S1 a0 a1 v) = laws_eqTurnS_L1 k a0 a1 (fun v => laws_eqTurnS_it1 k a0 a1 [] j1 (laws_eqTurnS_S1 a0 a1 v)) v := by
    intro j1 v; kernel_rfl
  have i1 : ∀ (j1 : Nat) (v : Int), laws_eqTurnS_it1 k a0 a1 [] j1 (laws_eqTurnS_S1 a0 a1 v) = fixN (laws_eqTurnS_l1 k a0 a1) j1 v := by
    intro j1 v
    refine iter_fix (laws_eqTurnS_S1 a0 a1) (laws_eqTurnS_l1 k a0 a1) (fun j1 v => (e1 j1 v).trans ?_) j1 v
    unfold laws_eqTurnS_l1
    rfl
  rw [e0]; unfold laws_eqTurnS_u
  simp only [i1]
/- laws.FnExactMayBe -/
def laws_FnExactMayBe_u (k : Nat) (a0 : Int) (a1 : List (List T)) (a2 : Int) (a3 : Int) : Option Outs :=
 bindO (evalF E P0 k N.laws_szTurnS [.v [.r a1], .v [.i 1048576]]) fun o2 =>
 bif (decide ((o2.t 0).asI < 0)) then
  some ⟨[.b true], []⟩
 else
  bindO (evalF E P0 k N.laws_toTurnS [.v [.r a1]]) fun o5 =>
  bindO (evalF E P0 k N.spec_MayBe [.v [.i a0], .v [.r (o5.t 0).asR], .v [.i a2], .v [.i a3]]) fun o6 =>
  bindO (evalF E P0 k N.laws_toTurnS [.v [.r a1]]) fun o8 =>
  bindO (evalF E P0 k N.impl_MayBe [.v [.i a0], .v [.r (o8.t 0).asR], .v [.i a2], .v [.i a3]]) fun o10 =>
  bif (!((o10.t 0).asB == (o6.t 0).asB)) then
   some ⟨[.b false], []⟩
  else
   bindO (evalF E P0 k N.laws_toTurnS [.v [.r a1]]) fun o13 =>
   bindO (evalF E P0 k N.laws_eqTurnS [.v [.r (o8.t 0).asR], .v [.r (o13.t 0).asR]]) fun o14 =>
   bif (!(o14.t 0).asB) then some ⟨[.b false], []⟩ else some ⟨[.b true], []⟩
theorem laws_FnExactMayBe_e (k : Nat) (a0 : Int) (a1 : List (List T)) (a2 : Int) (a3 : Int) : evalF E P0 (k + 1) N.laws_FnExactMayBe [.v [.i a0], .v [.r a1], .v [.i a2], .v [.i a3]] = laws_FnExactMayBe_u k a0 a1 a2 a3 := by kernel_rfl
/- spec.l13Copy -/
def spec_l13Copy_u (k : Nat) (a0_0 : Int) (a0_1 : Int) (a0_2 : Int) (a0_3 : Int) (a0_4 : List (List T)) : Option Outs :=
 chk (decide ((([] : List (List T)).length + a0_4.length) * 8 ≤ 140737488355328)) <|
 some ⟨[.i a0_0, .i a0_1, .i a0_2, .i a0_3, .r (([] : List (List T)) ++ a0_4)], []⟩
theorem spec_l13Copy_e (k : Nat) (a0_0 : Int) (a0_1 : Int) (a0_2 : Int) (a0_3 : Int) (a0_4 : List (List T)) : evalF E P0 (k + 1) N.spec_l13Copy [.v [.i a0_0, .i a0_1, .i a0_2, .i a0_3, .r a0_4]] = spec_l13Copy_u k a0_0 a0_1 a0_2 a0_3 a0_4 := by kernel_rfl
/- spec.CmdsOf -/
def spec_CmdsOf_L1 (k : Nat) (a0 : List (List T)) (G1 : (Int × List (List T)) → Option Outs) : (Int × List (List T)) → Option Outs := fun (v8, w8) =>
 bif (decide (v8 < (a0.length : Int))) then
  chk (decide (0 ≤ v8) && decide (v8 < (a0.length : Int))) <|
  bindO (evalF E P0 k N.spec_l13Copy [.v [.i (at_ a0 v8.toNat 0).asI, .i (at_ a0 v8.toNat 1).asI, .i (at_ a0 v8.toNat 2).asI, .i (at_ a0 v8.toNat 3).asI, .r (at_ a0 v8.toNat 4).asR]]) fun o48 =>
  chk (decide ((w8.length + ([[.i (o48.t 0).asI, .i (o48.t 1).asI, .i (o48.t 2).asI, .i (o48.t 3).asI, .r (o48.t 4).asR]] : List (List T)).length) * 56 ≤ 140737488355328)) <|
  G1 ((IntKind.wrap .i64 (v8 + 1)), (w8 ++ [[.i (o48.t 0).asI, .i (o48.t 1).asI, .i (o48.t 2).asI, .i (o48.t 3).asI, .r (o48.t 4).asR]]))
 else
  some ⟨[.r w8], []⟩
def spec_CmdsOf_k1 : List Nat := [0, 2, 3, 4, 21]
def spec_CmdsOf_S1 (a0 : List (List T)) : (Int × List (List T)) → St := fun (v8, w8) => ⟨ofSl [(0, .sl 86 a0), (2, .ref (2, 0)), (3, .ref (3, 0)), (4, .i .i64 v8), (21, .skip)], ofMem [((2, 0), .row 31 true []), ((3, 0), .row 31 true w8)]⟩
def spec_CmdsOf_l1 (k : Nat) (a0 : List (List T)) (G1 : (Int × List (List T)) → Option Outs) : (Int × List (List T)) → Option Outs :=
  spec_CmdsOf_L1 k a0 G1
def spec_CmdsOf_U (k : Nat) (a0 : List (List T)) (R1 : (Int × List (List T)) → Option Outs) : Option Outs :=
 R1 (0, [])
def spec_CmdsOf_u (k : Nat) (a0 : List (List T)) : Option Outs :=
  spec_CmdsOf_U k a0 (fun v => fixN (spec_CmdsOf_l1 k a0) k v)
def spec_CmdsOf_it1 (k : Nat) (a0 : List (List T)) (js : List Nat) (j : Nat) (s : St) : Option Outs := iter (LB E (evalF E P0 k) k [] N.spec_CmdsOf [.sr, .sr, .sl, .sr, .bl]) [] spec_CmdsOf_k1 (LK E (evalF E P0 k) k [] N.spec_CmdsOf [.v [.r a0]] [.sr, .sr, .sl, .sr, .bl] js) j s
theorem spec_CmdsOf_e (k : Nat) (a0 : List (List T)) : evalF E P0 (k + 1) N.spec_CmdsOf [.v [.r a0]] = spec_CmdsOf_u k a0 := by
  have e0 : evalF E P0 (k + 1) N.spec_CmdsOf [.v [.r a0]] = spec_CmdsOf_U k a0 (fun v => spec_CmdsOf_it1 k a0 [] k (spec_CmdsOf_S1 a0 v)) := by kernel_rfl
  have e1 : ∀ (j1 : Nat) (v : Int × List (List T)), spec_CmdsOf_it1 k a0 [] (j1 + 1) (spec_CmdsOf_S1 a0 v) = spec_CmdsOf_L1 k a0 (fun v => spec_CmdsOf_it1 k a0 [] j1 (spec_CmdsOf_S1 a0 v)) v := by
    intro j1 v; kernel_rfl
  have i1 : ∀ (j1 : Nat) (v : Int × List (List T)), spec_CmdsOf_it1 k a0 [] j1 (spec_CmdsOf_S1 a0 v) = fixN (spec_CmdsOf_l1 k a0) j1 v := by
    intro j1 v
    refine iter_fix (spec_CmdsOf_S1 a0) (spec_CmdsOf_l1 k a0) (fun j1 v => (e1 j1 v).trans ?_) j1 v
    unfold spec_CmdsOf_l1
    rfl
  rw [e0]; unfold spec_CmdsOf_u
  simp only [i1]
/- spec.l14Do -/
def spec_l14Do_L1 (k : Nat) (a1_0 : Int) (a1_1 : Int) (a1_2 : Int) (a1_3 : Int) (a1_4 : List (List T)) (G1 : (Int × List (List T)) → Option Outs) : (Int × List (List T)) → Option Outs := fun (v28, w28) =>
 bif (decide (v28 < (a1_4.length : Int))) then
  chk (decide (0 ≤ v28) && decide (v28 < (a1_4.length : Int))) <|
  chk (decide (0 ≤ (IntKind.wrap .i64 (a1_2 + v28))) && decide ((IntKind.wrap .i64 (a1_2 + v28)) < (w28.length : Int))) <|
  G1 ((IntKind.wrap .i64 (v28 + 1)), (put_ w28 (IntKind.wrap .i64 (a1_2 + v28)).toNat 0 [.i (at_ a1_4 v28.toNat 0).asI]))
 else
  some ⟨[.i a1_1, .i 0, .r []], [[.r w28]]⟩
def spec_l14Do_k1 : List Nat := [0, 3, 4, 5, 6, 84]
def spec_l14Do_S1 (a1_0 : Int) (a1_1 : Int) (a1_2 : Int) (a1_3 : Int) (a1_4 : List (List T)) : (Int × List (List T)) → St := fun (v28, w28) => ⟨ofSl [(0, .ref (0, 0)), (3, .ptr (3, 0) 0), (4, .ptr (4, 0) 0), (5, .ptr (5, 0) 0), (6, .i .i64 v28), (84, .skip)], ofMem [((0, 0), .row 3 true w28), ((3, 0), .var [.i .i64 a1_0, .i .i64 a1_1, .i .i64 a1_2, .i .i64 a1_3, .sl 3 a1_4]), ((4, 0), .var [.i .i64 0, .i .i64 0, .ref (4, 3)]), ((4, 3), .row 3 true []), ((5, 0), .var [.i .i64 a1_1, .i .i64 0, .ref (5, 3)]), ((5, 3), .row 3 true [])]⟩
def spec_l14Do_L2 (k : Nat) (a1_0 : Int) (a1_1 : Int) (a1_2 : Int) (a1_3 : Int) (a1_4 : List (List T)) (G2 : (Int × List (List T)) → Option Outs) : (Int × List (List T)) → Option Outs := fun (v32, w32) =>
 bif (decide (v32 < a1_3)) then
  chk (decide (0 ≤ (IntKind.wrap .i64 (a1_2 + v32))) && decide ((IntKind.wrap .i64 (a1_2 + v32)) < (w32.length : Int))) <|
  G2 ((IntKind.wrap .i64 (v32 + 1)), (put_ w32 (IntKind.wrap .i64 (a1_2 + v32)).toNat 0 [.i 0]))
 else
  some ⟨[.i a1_1, .i 0, .r []], [[.r w32]]⟩
def spec_l14Do_k2 : List Nat := [0, 3, 4, 5, 7, 84]
def spec_l14Do_S2 (a1_0 : Int) (a1_1 : Int) (a1_2 : Int) (a1_3 : Int) (a1_4 : List (List T)) : (Int × List (List T)) → St := fun (v32, w32) => ⟨ofSl [(0, .ref (0, 0)), (3, .ptr (3, 0) 0), (4, .ptr (4, 0) 0), (5, .ptr (5, 0) 0), (7, .i .i64 v32), (84, .skip)], ofMem [((0, 0), .row 3 true w32), ((3, 0), .var [.i .i64 a1_0, .i .i64 a1_1, .i .i64 a1_2, .i .i64 a1_3, .sl 3 a1_4]), ((4, 0), .var [.i .i64 0, .i .i64 0, .ref (4, 3)]), ((4, 3), .row 3 true []), ((5, 0), .var [.i .i64 a1_1, .i .i64 0, .ref (5, 3)]), ((5, 3), .row 3 true [])]⟩
def spec_l14Do_J1 (k : Nat) (a0 : List (List T)) (a1_0 : Int) (a1_1 : Int) (a1_2 : Int) (a1_4 : List (List T)) (R1 : (Int × List (List T)) → Option Outs) (R2 : (Int × List (List T)) → Option Outs) (c4 : Bool) : Option Outs :=
 bif c4 then
  R1 (0, a0)
 else
  bif (a1_0 == 6) then
   R2 (0, a0)
  else
   bif (a1_0 == 5) then
    chk (decide (0 ≤ a1_2) && decide (a1_2 < (a0.length : Int))) <|
    chk (decide ((0 : Int) < (a1_4.length : Int))) <|
    bif ((at_ a0 a1_2.toNat 0).asI != (at_ a1_4 0 0).asI) then
     some ⟨[.i a1_1, .i 4, .r []], [[.r a0]]⟩
    else
     chk (decide ((1 : Int) < (a1_4.length : Int))) <|
     chk (decide (0 ≤ a1_2) && decide (a1_2 < (a0.length : Int))) <|
     some ⟨[.i a1_1, .i 0, .r []], [[.r (put_ a0 a1_2.toNat 0 [.i (at_ a1_4 1 0).asI])]]⟩
   else
    some ⟨[.i a1_1, .i 0, .r []], [[.r a0]]⟩
def spec_l14Do_l1 (k : Nat) (a1_0 : Int) (a1_1 : Int) (a1_2 : Int) (a1_3 : Int) (a1_4 : List (List T)) (G1 : (Int × List (List T)) → Option Outs) : (Int × List (List T)) → Option Outs :=
  spec_l14Do_L1 k a1_0 a1_1 a1_2 a1_3 a1_4 G1
def spec_l14Do_l2 (k : Nat) (a1_0 : Int) (a1_1 : Int) (a1_2 : Int) (a1_3 : Int) (a1_4 : List (List T)) (G2 : (Int × List (List T)) → Option Outs) : (Int × List (List T)) → Option Outs :=
  spec_l14Do_L2 k a1_0 a1_1 a1_2 a1_3 a1_4 G2
def spec_l14Do_U (k : Nat) (a0 : List (List T)) (a1_0 : Int) (a1_1 : Int) (a1_2 : Int) (a1_3 : Int) (a1_4 : List (List T)) (R1 : (Int × List (List T)) → Option Outs) (R2 : (Int × List (List T)) → Option Outs) : Option Outs :=
 bif (a1_0 == 1) then
  chk (decide (0 ≤ a1_2) && decide (a1_2 ≤ (IntKind.wrap .i64 (a1_2 + a1_3))) && decide ((IntKind.wrap .i64 (a1_2 + a1_3)) ≤ (a0.length : Int))) <|
  chk (decide ((([] : List (List T)).length + ((a0.drop a1_2.toNat).take ((IntKind.wrap .i64 (a1_2 + a1_3)).toNat - a1_2.toNat)).length) * 8 ≤ 140737488355328)) <|
  some ⟨[.i a1_1, .i 0, .r (([] : List (List T)) ++ ((a0.drop a1_2.toNat).take ((IntKind.wrap .i64 (a1_2 + a1_3)).toNat - a1_2.toNat)))], [[.r a0]]⟩
 else
  bif (a1_0 == 2) then
   spec_l14Do_J1 k a0 a1_0 a1_1 a1_2 a1_4 R1 R2 true
  else
   spec_l14Do_J1 k a0 a1_0 a1_1 a1_2 a1_4 R1 R2 (a1_0 == 3)
def spec_l14Do_u (k : Nat) (a0 : List (List T)) (a1_0 : Int) (a1_1 : Int) (a1_2 : Int) (a1_3 : Int) (a1_4 : List (List T)) : Option Outs :=
  spec_l14Do_U k a0 a1_0 a1_1 a1_2 a1_3 a1_4 (fun v => fixN (spec_l14Do_l1 k a1_0 a1_1 a1_2 a1_3 a1_4) k v) (fun v => fixN (spec_l14Do_l2 k a1_0 a1_1 a1_2 a1_3 a1_4) k v)
def spec_l14Do_it1 (k : Nat) (a0 : List (List T)) (a1_0 : Int) (a1_1 : Int) (a1_2 : Int) (a1_3 : Int) (a1_4 : List (List T)) (js : List Nat) (j : Nat) (s : St) : Option Outs := iter (LB E (evalF E P0 k) k [0] N.spec_l14Do [.sr, .sr, .sl, .sr, .bl, .sr, .ce, .sr, .ct, .sr, .bl]) [0] spec_l14Do_k1 (LK E (evalF E P0 k) k [0] N.spec_l14Do [.r a0, .v [.i a1_0, .i a1_1, .i a1_2, .i a1_3, .r a1_4]] [.sr, .sr, .sl, .sr, .bl, .sr, .ce, .sr, .ct, .sr, .bl] js) j s
def spec_l14Do_it2 (k : Nat) (a0 : List (List T)) (a1_0 : Int) (a1_1 : Int) (a1_2 : Int) (a1_3 : Int) (a1_4 : List (List T)) (js : List Nat) (j : Nat) (s : St) : Option Outs := iter (LB E (evalF E P0 k) k [0] N.spec_l14Do [.sr, .sr, .sl, .sr, .bl, .sr, .ce, .sr, .ce, .sr, .ct, .sr, .bl]) [0] spec_l14Do_k2 (LK E (evalF E P0 k) k [0] N.spec_l14Do [.r a0, .v [.i a1_0, .i a1_1, .i a1_2, .i a1_3, .r a1_4]] [.sr, .sr, .sl, .sr, .bl, .sr, .ce, .sr, .ce, .sr, .ct, .sr, .bl] js) j s
theorem spec_l14Do_e (k : Nat) (a0 : List (List T)) (a1_0 : Int) (a1_1 : Int) (a1_2 : Int) (a1_3 : Int) (a1_4 : List (List T)) : evalF E P0 (k + 1) N.spec_l14Do [.r a0, .v [.i a1_0, .i a1_1, .i a1_2, .i a1_3, .r a1_4]] = spec_l14Do_u k a0 a1_0 a1_1 a1_2 a1_3 a1_4 := by
  have e0 : evalF E P0 (k + 1) N.spec_l14Do [.r a0, .v [.i a1_0, .i a1_1, .i a1_2, .i a1_3, .r a1_4]] = spec_l14Do_U k a0 a1_0 a1_1 a1_2 a1_3 a1_4 (fun v => spec_l14Do_it1 k a0 a1_0 a1_1 a1_2 a1_3 a1_4 [] k (spec_l14Do_S1 a1_0 a1_1 a1_2 a1_3 a1_4 v)) (fun v => spec_l14Do_it2 k a0 a1_0 a1_1 a1_2 a1_3 a1_4 [] k (spec_l14Do_S2 a1_0 a1_1 a1_2 a1_3 a1_4 v)) := by kernel_rfl
  have e1 : ∀ (j1 : Nat) (v : Int × List (List T)), spec_l14Do_it1 k a0 a1_0 a1_1 a1_2 a1_3 a1_4 [] (j1 + 1) (spec_l14Do_S1 a1_0 a1_1 a1_2 a1_3 a1_4 v) = spec_l14Do_L1 k a1_0 a1_1 a1_2 a1_3 a1_4 (fun v => spec_l14Do_it1 k a0 a1_0 a1_1 a1_2 a1_3 a1_4 [] j1 (spec_l14Do_S1 a1_0 a1_1 a1_2 a1_3 a1_4 v)) v := by
    intro j1 v; kernel_rfl
  have i1 : ∀ (j1 : Nat) (v : Int × List (List T)), spec_l14Do_it1 k a0 a1_0 a1_1 a1_2 a1_3 a1_4 [] j1 (spec_l14Do_S1 a1_0 a1_1 a1_2 a1_3 a1_4 v) = fixN (spec_l14Do_l1 k a1_0 a1_1 a1_2 a1_3 a1_4) j1 v := by
    intro j1 v
    refine iter_fix (spec_l14Do_S1 a1_0 a1_1 a1_2 a1_3 a1_4) (spec_l14Do_l1 k a1_0 a1_1 a1_2 a1_3 a1_4) (fun j1 v => (e1 j1 v).trans ?_) j1 v
    unfold spec_l14Do_l1
    rfl
  have e2 : ∀ (j2 : Nat) (v : Int × List (List T)), spec_l14Do_it2 k a0 a1_0 a1_1 a1_2 a1_3 a1_4 [] (j2 + 1) (spec_l14Do_S2 a1_0 a1_1 a1_2 a1_3 a1_4 v) = spec_l14Do_L2 k a1_0 a1_1 a1_2 a1_3 a1_4 (fun v => spec_l14Do_it2 k a0 a1_0 a1_1 a1_2 a1_3 a1_4 [] j2 (spec_l14Do_S2 a1_0 a1_1 a1_2 a1_3 a1_4 v)) v := by
    intro j2 v; kernel_rfl
  have i2 : ∀ (j2 : Nat) (v : Int × List (List T)), spec_l14Do_it2 k a0 a1_0 a1_1 a1_2 a1_3 a1_4 [] j2 (spec_l14Do_S2 a1_0 a1_1 a1_2 a1_3 a1_4 v) = fixN (spec_l14Do_l2 k a1_0 a1_1 a1_2 a1_3 a1_4) j2 v := by
    intro j2 v
    refine iter_fix (spec_l14Do_S2 a1_0 a1_1 a1_2 a1_3 a1_4) (spec_l14Do_l2 k a1_0 a1_1 a1_2 a1_3 a1_4) (fun j2 v => (e2 j2 v).trans ?_) j2 v
    unfold spec_l14Do_l2
    rfl
  rw [e0]; unfold spec_l14Do_u
  simp only [i1, i2]
/- spec.DoCmd -/
def spec_DoCmd_J1 (k : Nat) (a1 : List (List T)) (a2_0 : Int) (a2_1 : Int) (a2_2 : Int) (a2_3 : Int) (a2_4 : List (List T)) (x1 : Int) : Option Outs :=
 bif (x1 != 0) then
  some ⟨[.r (([] : List (List T)) ++ a1), .i a2_1, .i x1, .r []], []⟩
 else
  bindO (evalF E P0 k N.spec_l14Do [.r (([] : List (List T)) ++ a1), .v [.i a2_0, .i a2_1, .i a2_2, .i a2_3, .r a2_4]]) fun o6 =>
  some ⟨[.r (o6.vt 0 0).asR, .i (o6.t 0).asI, .i (o6.t 1).asI, .r (o6.t 2).asR], []⟩
def spec_DoCmd_u (k : Nat) (a0_0 : Int) (a0_1 : Int) (a1 : List (List T)) (a2_0 : Int) (a2_1 : Int) (a2_2 : Int) (a2_3 : Int) (a2_4 : List (List T)) : Option Outs :=
 chk (decide ((([] : List (List T)).length + a1.length) * 8 ≤ 140737488355328)) <|
 bindO (evalF E P0 k N.spec_CmdCode [.v [.i a0_0, .i a0_1], .v [.i a2_0, .i a2_1, .i a2_2, .i a2_3, .r a2_4]]) fun o2 =>
 bindO (evalF E P0 k N.spec_Blocks [.v [.i a0_0, .i a0_1]]) fun o4 =>
 bif ((a1.length : Int) != (o4.t 0).asI) then
  spec_DoCmd_J1 k a1 a2_0 a2_1 a2_2 a2_3 a2_4 1
 else
  spec_DoCmd_J1 k a1 a2_0 a2_1 a2_2 a2_3 a2_4 ((o2.t 0).asI)
theorem spec_DoCmd_e (k : Nat) (a0_0 : Int) (a0_1 : Int) (a1 : List (List T)) (a2_0 : Int) (a2_1 : Int) (a2_2 : Int) (a2_3 : Int) (a2_4 : List (List T)) : evalF E P0 (k + 1) N.spec_DoCmd [.v [.i a0_0, .i a0_1], .v [.r a1], .v [.i a2_0, .i a2_1, .i a2_2, .i a2_3, .r a2_4]] = spec_DoCmd_u k a0_0 a0_1 a1 a2_0 a2_1 a2_2 a2_3 a2_4 := by kernel_rfl
/- spec.DoCmds -/
def spec_DoCmds_J1 (k : Nat) (a0_0 : Int) (a0_1 : Int) (a2 : List (List T)) (v8 : Int) (w15 : List (List T)) (w16 : List (List T)) (G1 : (Int × List (List T) × List (List T)) → Option Outs) (c12 : Bool) : Option Outs :=
 bif c12 then
  chk (decide (0 ≤ v8) && decide (v8 < (a2.length : Int))) <|
  bindO (evalF E P0 k N.spec_DoCmd [.v [.i a0_0, .i a0_1], .v [.r w15], .v [.i (at_ a2 v8.toNat 0).asI, .i (at_ a2 v8.toNat 1).asI, .i (at_ a2 v8.toNat 2).asI, .i (at_ a2 v8.toNat 3).asI, .r (at_ a2 v8.toNat 4).asR]]) fun o96 =>
  chk (decide ((w16.length + ([[.i (o96.t 1).asI, .i (o96.t 2).asI, .r (o96.t 3).asR]] : List (List T)).length) * 40 ≤ 140737488355328)) <|
  G1 ((IntKind.wrap .i64 (v8 + 1)), (o96.t 0).asR, (w16 ++ [[.i (o96.t 1).asI, .i (o96.t 2).asI, .r (o96.t 3).asR]]))
 else
  some ⟨[.r w15, .r w16], []⟩
def spec_DoCmds_L1 (k : Nat) (a0_0 : Int) (a0_1 : Int) (a2 : List (List T)) (G1 : (Int × List (List T) × List (List T)) → Option Outs) : (Int × List (List T) × List (List T)) → Option Outs := fun (v8, w15, w16) =>
 bif (decide (v8 < (a2.length : Int))) then
  spec_DoCmds_J1 k a0_0 a0_1 a2 v8 w15 w16 G1 (decide (v8 < 400))
 else
  spec_DoCmds_J1 k a0_0 a0_1 a2 v8 w15 w16 G1 false
def spec_DoCmds_k1 : List Nat := [2, 3, 6, 7, 8, 9, 10, 42, 43]
def spec_DoCmds_S1 (a0_0 : Int) (a0_1 : Int) (a2 : List (List T)) : (Int × List (List T) × List (List T)) → St := fun (v8, w15, w16) => ⟨ofSl [(2, .sl 31 a2), (3, .ptr (3, 0) 0), (6, .ref (6, 0)), (7, .ref (7, 0)), (8, .ref (8, 0)), (9, .ref (9, 0)), (10, .i .i64 v8), (42, .skip), (43, .skip)], ofMem [((3, 0), .var [.i .i64 a0_0, .i .i64 a0_1]), ((6, 0), .row 3 true []), ((7, 0), .row 84 true []), ((8, 0), .row 3 true w15), ((9, 0), .row 84 true w16)]⟩
def spec_DoCmds_l1 (k : Nat) (a0_0 : Int) (a0_1 : Int) (a2 : List (List T)) (G1 : (Int × List (List T) × List (List T)) → Option Outs) : (Int × List (List T) × List (List T)) → Option Outs :=
  spec_DoCmds_L1 k a0_0 a0_1 a2 G1
def spec_DoCmds_U (k : Nat) (a0_0 : Int) (a0_1 : Int) (a1 : List (List T)) (a2 : List (List T)) (R1 : (Int × List (List T) × List (List T)) → Option Outs) : Option Outs :=
 chk (decide ((([] : List (List T)).length + a1.length) * 8 ≤ 140737488355328)) <|
 R1 (0, (([] : List (List T)) ++ a1), [])
def spec_DoCmds_u (k : Nat) (a0_0 : Int) (a0_1 : Int) (a1 : List (List T)) (a2 : List (List T)) : Option Outs :=
  spec_DoCmds_U k a0_0 a0_1 a1 a2 (fun v => fixN (spec_DoCmds_l1 k a0_0 a0_1 a2) k v)
def spec_DoCmds_it1 (k : Nat) (a0_0 : Int) (a0_1 : Int) (a1 : List (List T)) (a2 : List (List T)) (js : List Nat) (j : Nat) (s : St) : Option Outs := iter (LB E (evalF E P0 k) k [] N.spec_DoCmds [.sr, .sr, .sr, .sl, .sr, .bl]) [] spec_DoCmds_k1 (LK E (evalF E P0 k) k [] N.spec_DoCmds [.v [.i a0_0, .i a0_1], .v [.r a1], .v [.r a2]] [.sr, .sr, .sr, .sl, .sr, .bl] js) j s
theorem spec_DoCmds_e (k : Nat) (a0_0 : Int) (a0_1 : Int) (a1 : List (List T)) (a2 : List (List T)) : evalF E P0 (k + 1) N.spec_DoCmds [.v [.i a0_0, .i a0_1], .v [.r a1], .v [.r a2]] = spec_DoCmds_u k a0_0 a0_1 a1 a2 := by
  have e0 : evalF E P0 (k + 1) N.spec_DoCmds [.v [.i a0_0, .i a0_1], .v [.r a1], .v [.r a2]] = spec_DoCmds_U k a0_0 a0_1 a1 a2 (fun v => spec_DoCmds_it1 k a0_0 a0_1 a1 a2 [] k (spec_DoCmds_S1 a0_0 a0_1 a2 v)) := by kernel_rfl
  have e1 : ∀ (j1 : Nat) (v : Int × List (List T) × List (List T)), spec_DoCmds_it1 k a0_0 a0_1 a1 a2 [] (j1 + 1) (spec_DoCmds_S1 a0_0 a0_1 a2 v) = spec_DoCmds_L1 k a0_0 a0_1 a2 (fun v => spec_DoCmds_it1 k a0_0 a0_1 a1 a2 [] j1 (spec_DoCmds_S1 a0_0 a0_1 a2 v)) v := by
    intro j1 v; kernel_rfl
  have i1 : ∀ (j1 : Nat) (v : Int × List (List T) × List (List T)), spec_DoCmds_it1 k a0_0 a0_1 a1 a2 [] j1 (spec_DoCmds_S1 a0_0 a0_1 a2 v) = fixN (spec_DoCmds_l1 k a0_0 a0_1 a2) j1 v := by
    intro j1 v
    refine iter_fix (spec_DoCmds_S1 a0_0 a0_1 a2) (spec_DoCmds_l1 k a0_0 a0_1 a2) (fun j1 v => (e1 j1 v).trans ?_) j1 v
    unfold spec_DoCmds_l1
    rfl
  rw [e0]; unfold spec_DoCmds_u
  simp only [i1]
/- spec.SameSec -/
def spec_SameSec_L1 (k : Nat) (a0 : List (List T)) (a1 : List (List T)) (G1 : (Int) → Option Outs) : (Int) → Option Outs := fun v8 =>
 bif (decide (v8 < (a0.length : Int))) then
  chk (decide (0 ≤ v8) && decide (v8 < (a0.length : Int))) <|
  chk (decide (0 ≤ v8) && decide (v8 < (a1.length : Int))) <|
  bif ((at_ a0 v8.toNat 0).asI != (at_ a1 v8.toNat 0).asI) then
   some ⟨[.b false], []⟩
  else
   G1 (IntKind.wrap .i64 (v8 + 1))
 else
  some ⟨[.b true], []⟩
def spec_SameSec_k1 : List Nat := [0, 1, 4, 5]
def spec_SameSec_S1 (a0 : List (List T)) (a1 : List (List T)) : (Int) → St := fun v8 => ⟨ofSl [(0, .sl 3 a0), (1, .sl 3 a1), (4, .b false), (5, .i .i64 v8)], ofMem []⟩
def spec_SameSec_l1 (k : Nat) (a0 : List (List T)) (a1 : List (List T)) (G1 : (Int) → Option Outs) : (Int) → Option Outs :=
  spec_SameSec_L1 k a0 a1 G1
def spec_SameSec_U (k : Nat) (a0 : List (List T)) (a1 : List (List T)) (R1 : (Int) → Option Outs) : Option Outs :=
 bif ((a0.length : Int) != (a1.length : Int)) then some ⟨[.b false], []⟩ else R1 0
def spec_SameSec_u (k : Nat) (a0 : List (List T)) (a1 : List (List T)) : Option Outs :=
  spec_SameSec_U k a0 a1 (fun v => fixN (spec_SameSec_l1 k a0 a1) k v)
def spec_SameSec_it1 (k : Nat) (a0 : List (List T)) (a1 : List (List T)) (js : List Nat) (j : Nat) (s : St) : Option Outs := iter (LB E (evalF E P0 k) k [] N.spec_SameSec [.sr, .sr, .sl, .sr, .bl]) [] spec_SameSec_k1 (LK E (evalF E P0 k) k [] N.spec_SameSec [.v [.r a0], .v [.r a1]] [.sr, .sr, .sl, .sr, .bl] js) j s
theorem spec_SameSec_e (k : Nat) (a0 : List (List T)) (a1 : List (List T)) : evalF E P0 (k + 1) N.spec_SameSec [.v [.r a0], .v [.r a1]] = spec_SameSec_u k a0 a1 := by
  have e0 : evalF E P0 (k + 1) N.spec_SameSec [.v [.r a0], .v [.r a1]] = spec_SameSec_U k a0 a1 (fun v => spec_SameSec_it1 k a0 a1 [] k (spec_SameSec_S1 a0 a1 v)) := by kernel_rfl
  have e1 : ∀ (j1 : Nat) (v : Int), spec_SameSec_it1 k a0 a1 [] (j1 + 1) (spec_SameSec_S1 a0 a1 v) = spec_SameSec_L1 k a0 a1 (fun v => spec_SameSec_it1 k a0 a1 [] j1 (spec_SameSec_S1 a0 a1 v)) v := by
    intro j1 v; kernel_rfl
  have i1 : ∀ (j1 : Nat) (v : Int), spec_SameSec_it1 k a0 a1 [] j1 (spec_SameSec_S1 a0 a1 v) = fixN (spec_SameSec_l1 k a0 a1) j1 v := by
    intro j1 v
    refine iter_fix (spec_SameSec_S1 a0 a1) (spec_SameSec_l1 k a0 a1) (fun j1 v => (e1 j1 v).trans ?_) j1 v
    unfold spec_SameSec_l1
    rfl
  rw [e0]; unfold spec_SameSec_u
  simp only [i1]
/- spec.SameAns -/
def spec_SameAns_u (k : Nat) (a0_0 : Int) (a0_1 : Int) (a0_2 : List (List T)) (a1_0 : Int) (a1_1 : Int) (a1_2 : List (List T)) : Option Outs :=
 bif (a0_0 == a1_0) then
  bif (a0_1 == a1_1) then
   bindO (evalF E P0 k N.spec_SameSec [.v [.r a0_2], .v [.r a1_2]]) fun o2 =>
   some ⟨[.b (o2.t 0).asB], []⟩
  else
   some ⟨[.b false], []⟩
 else
  some ⟨[.b false], []⟩
theorem spec_SameAns_e (k : Nat) (a0_0 : Int) (a0_1 : Int) (a0_2 : List (List T)) (a1_0 : Int) (a1_1 : Int) (a1_2 : List (List T)) : evalF E P0 (k + 1) N.spec_SameAns [.v [.i a0_0, .i a0_1, .r a0_2], .v [.i a1_0, .i a1_1, .r a1_2]] = spec_SameAns_u k a0_0 a0_1 a0_2 a1_0 a1_1 a1_2 := by kernel_rfl
/- spec.Follows -/
def spec_Follows_J1 (k : Nat) (a2 : List (List T)) (o4 : Outs) (v8 : Int) (G1 : (Int) → Option Outs) (c12 : Bool) : Option Outs :=
 bif c12 then
  chk (decide (0 ≤ v8) && decide (v8 < ((o4.t 1).asR.length : Int))) <|
  chk (decide (0 ≤ v8) && decide (v8 < (a2.length : Int))) <|
  bindO (evalF E P0 k N.spec_SameAns [.v [.i (at_ (o4.t 1).asR v8.toNat 0).asI, .i (at_ (o4.t 1).asR v8.toNat 1).asI, .r (at_ (o4.t 1).asR v8.toNat 2).asR], .v [.i (at_ a2 v8.toNat 5).asI, .i (at_ a2 v8.toNat 6).asI, .r (at_ a2 v8.toNat 7).asR]]) fun o100 =>
  bif (!(o100.t 0).asB) then some ⟨[.b false], []⟩ else G1 (IntKind.wrap .i64 (v8 + 1))
 else
  some ⟨[.b (decide ((a2.length : Int) ≤ 400))], []⟩
def spec_Follows_L1 (k : Nat) (a2 : List (List T)) (o4 : Outs) (G1 : (Int) → Option Outs) : (Int) → Option Outs := fun v8 =>
 bif (decide (v8 < (a2.length : Int))) then
  spec_Follows_J1 k a2 o4 v8 G1 (decide ((a2.length : Int) ≤ 400))
 else
  spec_Follows_J1 k a2 o4 v8 G1 false
def spec_Follows_k1 : List Nat := [2, 6, 8, 9, 40, 41, 42]
def spec_Follows_S1 (a2 : List (List T)) (o4 : Outs) : (Int) → St := fun v8 => ⟨ofSl [(2, .sl 86 a2), (6, .b false), (8, .ref (8, 0)), (9, .i .i64 v8), (40, .skip), (41, .skip), (42, .skip)], ofMem [((8, 0), .row 84 true (o4.t 1).asR)]⟩
def spec_Follows_l1 (k : Nat) (a2 : List (List T)) (o4 : Outs) (G1 : (Int) → Option Outs) : (Int) → Option Outs :=
  spec_Follows_L1 k a2 o4 G1
def spec_Follows_U (k : Nat) (a0_0 : Int) (a0_1 : Int) (a1 : List (List T)) (a2 : List (List T)) (R1 : Outs → (Int) → Option Outs) : Option Outs :=
 bindO (evalF E P0 k N.spec_CmdsOf [.v [.r a2]]) fun o3 =>
 bindO (evalF E P0 k N.spec_DoCmds [.v [.i a0_0, .i a0_1], .v [.r a1], .v [.r (o3.t 0).asR]]) fun o4 =>
 R1 o4 0
def spec_Follows_u (k : Nat) (a0_0 : Int) (a0_1 : Int) (a1 : List (List T)) (a2 : List (List T)) : Option Outs :=
  spec_Follows_U k a0_0 a0_1 a1 a2 (fun y0 v => fixN (spec_Follows_l1 k a2 y0) k v)
def spec_Follows_it1 (k : Nat) (a0_0 : Int) (a0_1 : Int) (a1 : List (List T)) (a2 : List (List T)) (js : List Nat) (j : Nat) (s : St) : Option Outs := iter (LB E (evalF E P0 k) k [] N.spec_Follows [.sr, .sr, .sl, .sr, .bl]) [] spec_Follows_k1 (LK E (evalF E P0 k) k [] N.spec_Follows [.v [.i a0_0, .i a0_1], .v [.r a1], .v [.r a2]] [.sr, .sr, .sl, .sr, .bl] js) j s
theorem spec_Follows_e (k : Nat) (a0_0 : Int) (a0_1 : Int) (a1 : List (List T)) (a2 : List (List T)) : evalF E P0 (k + 1) N.spec_Follows [.v [.i a0_0, .i a0_1], .v [.r a1], .v [.r a2]] = spec_Follows_u k a0_0 a0_1 a1 a2 := by
  have e0 : evalF E P0 (k + 1) N.spec_Follows [.v [.i a0_0, .i a0_1], .v [.r a1], .v [.r a2]] = spec_Follows_U k a0_0 a0_1 a1 a2 (fun y0 v => spec_Follows_it1 k a0_0 a0_1 a1 a2 [] k (spec_Follows_S1 a2 y0 v)) := by kernel_rfl
  have e1 : ∀ (o4 : Outs) (j1 : Nat) (v : Int), spec_Follows_it1 k a0_0 a0_1 a1 a2 [] (j1 + 1) (spec_Follows_S1 a2 o4 v) = spec_Follows_L1 k a2 o4 (fun v => spec_Follows_it1 k a0_0 a0_1 a1 a2 [] j1 (spec_Follows_S1 a2 o4 v)) v := by
    intro o4 j1 v; kernel_rfl
  have i1 : ∀ (o4 : Outs) (j1 : Nat) (v : Int), spec_Follows_it1 k a0_0 a0_1 a1 a2 [] j1 (spec_Follows_S1 a2 o4 v) = fixN (spec_Follows_l1 k a2 o4) j1 v := by
    intro o4 j1 v
    refine iter_fix (spec_Follows_S1 a2 o4) (spec_Follows_l1 k a2 o4) (fun j1 v => (e1 o4 j1 v).trans ?_) j1 v
    unfold spec_Follows_l1
    rfl
  rw [e0]; unfold spec_Follows_u
  simp only [i1]
/- impl.copyInts -/
def impl_copyInts_u (k : Nat) (a0 : List (List T)) : Option Outs :=
 chk (decide ((([] : List (List T)).length + a0.length) * 8 ≤ 140737488355328)) <|
 some ⟨[.r (([] : List (List T)) ++ a0)], []⟩
theorem impl_copyInts_e (k : Nat) (a0 : List (List T)) : evalF E P0 (k + 1) N.impl_copyInts [.v [.r a0]] = impl_copyInts_u k a0 := by kernel_rfl
/- impl.copyCmd -/
def impl_copyCmd_u (k : Nat) (a0_0 : Int) (a0_1 : Int) (a0_2 : Int) (a0_3 : Int) (a0_4 : List (List T)) : Option Outs :=
 bindO (evalF E P0 k N.impl_copyInts [.v [.r a0_4]]) fun o2 =>
 some ⟨[.i a0_0, .i a0_1, .i a0_2, .i a0_3, .r (o2.t 0).asR], []⟩
theorem impl_copyCmd_e (k : Nat) (a0_0 : Int) (a0_1 : Int) (a0_2 : Int) (a0_3 : Int) (a0_4 : List (List T)) : evalF E P0 (k + 1) N.impl_copyCmd [.v [.i a0_0, .i a0_1, .i a0_2, .i a0_3, .r a0_4]] = impl_copyCmd_u k a0_0 a0_1 a0_2 a0_3 a0_4 := by kernel_rfl
/- impl.CmdsOf -/
def impl_CmdsOf_L1 (k : Nat) (a0 : List (List T)) (G1 : (Int × List (List T)) → Option Outs) : (Int × List (List T)) → Option Outs := fun (v8, w8) =>
 bif (decide (v8 < (a0.length : Int))) then
  chk (decide (0 ≤ v8) && decide (v8 < (a0.length : Int))) <|
  bindO (evalF E P0 k N.impl_copyCmd [.v [.i (at_ a0 v8.toNat 0).asI, .i (at_ a0 v8.toNat 1).asI, .i (at_ a0 v8.toNat 2).asI, .i (at_ a0 v8.toNat 3).asI, .r (at_ a0 v8.toNat 4).asR]]) fun o48 =>
  chk (decide ((w8.length + ([[.i (o48.t 0).asI, .i (o48.t 1).asI, .i (o48.t 2).asI, .i (o48.t 3).asI, .r (o48.t 4).asR]] : List (List T)).length) * 56 ≤ 140737488355328)) <|
  G1 ((IntKind.wrap .i64 (v8 + 1)), (w8 ++ [[.i (o48.t 0).asI, .i (o48.t 1).asI, .i (o48.t 2).asI, .i (o48.t 3).asI, .r (o48.t 4).asR]]))
 else
  some ⟨[.r w8], []⟩
def impl_CmdsOf_k1 : List Nat := [2, 3, 7, 8, 9, 20]
def impl_CmdsOf_S1 (a0 : List (List T)) : (Int × List (List T)) → St := fun (v8, w8) => ⟨ofSl [(2, .ref (2, 0)), (3, .ref (3, 0)), (7, .sl 86 a0), (8, .i .i64 (a0.length : Int)), (9, .i .i64 v8), (20, .skip)], ofMem [((2, 0), .row 31 true []), ((3, 0), .row 31 true w8)]⟩
def impl_CmdsOf_l1 (k : Nat) (a0 : List (List T)) (G1 : (Int × List (List T)) → Option Outs) : (Int × List (List T)) → Option Outs :=
  impl_CmdsOf_L1 k a0 G1
def impl_CmdsOf_U (k : Nat) (a0 : List (List T)) (R1 : (Int × List (List T)) → Option Outs) : Option Outs :=
 R1 (0, [])
def impl_CmdsOf_u (k : Nat) (a0 : List (List T)) : Option Outs :=
  impl_CmdsOf_U k a0 (fun v => fixN (impl_CmdsOf_l1 k a0) k v)
def impl_CmdsOf_it1 (k : Nat) (a0 : List (List T)) (js : List Nat) (j : Nat) (s : St) : Option Outs := iter (LB E (evalF E P0 k) k [] N.impl_CmdsOf [.sr, .sr, .sl, .sr, .bl]) [] impl_CmdsOf_k1 (LK E (evalF E P0 k) k [] N.impl_CmdsOf [.v [.r a0]] [.sr, .sr, .sl, .sr, .bl] js) j s
theorem impl_CmdsOf_e (k : Nat) (a0 : List (List T)) : evalF E P0 (k + 1) N.impl_CmdsOf [.v [.r a0]] = impl_CmdsOf_u k a0 := by
  have e0 : evalF E P0 (k + 1) N.impl_CmdsOf [.v [.r a0]] = impl_CmdsOf_U k a0 (fun v => impl_CmdsOf_it1 k a0 [] k (impl_CmdsOf_S1 a0 v)) := by kernel_rfl
  have e1 : ∀ (j1 : Nat) (v : Int × List (List T)), impl_CmdsOf_it1 k a0 [] (j1 + 1) (impl_CmdsOf_S1 a0 v) = impl_CmdsOf_L1 k a0 (fun v => impl_CmdsOf_it1 k a0 [] j1 (impl_CmdsOf_S1 a0 v)) v := by
    intro j1 v; kernel_rfl
  have i1 : ∀ (j1 : Nat) (v : Int × List (List T)), impl_CmdsOf_it1 k a0 [] j1 (impl_CmdsOf_S1 a0 v) = fixN (impl_CmdsOf_l1 k a0) j1 v := by
    intro j1 v
    refine iter_fix (impl_CmdsOf_S1 a0) (impl_CmdsOf_l1 k a0) (fun j1 v => (e1 j1 v).trans ?_) j1 v
    unfold impl_CmdsOf_l1
    rfl
  rw [e0]; unfold impl_CmdsOf_u
  simp only [i1]
/- impl.DoCmd -/
def impl_DoCmd_J2 (k : Nat) (a1 : List (List T)) (a2_0 : Int) (a2_1 : Int) (a2_4 : List (List T)) (o2 : Outs) (o8 : Outs) (x1 : Int) (c4 : Bool) : Option Outs :=
 bif c4 then
  chk (decide (0 ≤ (o8.t 0).asI) && decide ((o8.t 0).asI ≤ (o8.t 1).asI) && decide ((o8.t 1).asI ≤ ((o2.t 0).asR.length : Int))) <|
  some ⟨[.r (overlay (o2.t 0).asR (o8.t 0).asI.toNat (a2_4.take ((o8.t 1).asI.toNat - (o8.t 0).asI.toNat))), .i a2_1, .i x1, .r []], []⟩
 else
  bif (a2_0 == 6) then
   chk (decide (0 ≤ (o8.t 0).asI) && decide ((o8.t 0).asI ≤ (o8.t 1).asI) && decide ((o8.t 1).asI ≤ ((o2.t 0).asR.length : Int))) <|
   some ⟨[.r (overlay (o2.t 0).asR (o8.t 0).asI.toNat (List.replicate ((o8.t 1).asI.toNat - (o8.t 0).asI.toNat) [.i 0])), .i a2_1, .i x1, .r []], []⟩
  else
   bif (a2_0 == 5) then
    chk (decide (0 ≤ (o8.t 0).asI) && decide ((o8.t 0).asI < (a1.length : Int))) <|
    chk (decide ((0 : Int) < (a2_4.length : Int))) <|
    bif ((at_ a1 (o8.t 0).asI.toNat 0).asI == (at_ a2_4 0 0).asI) then
     chk (decide ((1 : Int) < (a2_4.length : Int))) <|
     chk (decide (0 ≤ (o8.t 0).asI) && decide ((o8.t 0).asI < ((o2.t 0).asR.length : Int))) <|
     some ⟨[.r (put_ (o2.t 0).asR (o8.t 0).asI.toNat 0 [.i (at_ a2_4 1 0).asI]), .i a2_1, .i x1, .r []], []⟩
    else
     some ⟨[.r (o2.t 0).asR, .i a2_1, .i 4, .r []], []⟩
   else
    some ⟨[.r (o2.t 0).asR, .i a2_1, .i x1, .r []], []⟩
def impl_DoCmd_J1 (k : Nat) (a0_0 : Int) (a0_1 : Int) (a1 : List (List T)) (a2_0 : Int) (a2_1 : Int) (a2_2 : Int) (a2_3 : Int) (a2_4 : List (List T)) (o2 : Outs) (x1 : Int) : Option Outs :=
 bif (x1 != 0) then
  some ⟨[.r (o2.t 0).asR, .i a2_1, .i x1, .r []], []⟩
 else
  bindO (evalF E P0 k N.impl_SpanOf [.v [.i a0_0, .i a0_1], .v [.i a2_0, .i a2_1, .i a2_2, .i a2_3, .r a2_4]]) fun o8 =>
  bif (a2_0 == 1) then
   chk (decide (0 ≤ (o8.t 0).asI) && decide ((o8.t 0).asI ≤ (o8.t 1).asI) && decide ((o8.t 1).asI ≤ (a1.length : Int))) <|
   bindO (evalF E P0 k N.impl_copyInts [.v [.r ((a1.drop (o8.t 0).asI.toNat).take ((o8.t 1).asI.toNat - (o8.t 0).asI.toNat))]]) fun o12 =>
   some ⟨[.r (o2.t 0).asR, .i a2_1, .i x1, .r (o12.t 0).asR], []⟩
  else
   bif (a2_0 == 2) then
    impl_DoCmd_J2 k a1 a2_0 a2_1 a2_4 o2 o8 x1 true
   else
    impl_DoCmd_J2 k a1 a2_0 a2_1 a2_4 o2 o8 x1 (a2_0 == 3)
def impl_DoCmd_u (k : Nat) (a0_0 : Int) (a0_1 : Int) (a1 : List (List T)) (a2_0 : Int) (a2_1 : Int) (a2_2 : Int) (a2_3 : Int) (a2_4 : List (List T)) : Option Outs :=
 bindO (evalF E P0 k N.impl_copyInts [.v [.r a1]]) fun o2 =>
 bindO (evalF E P0 k N.impl_CmdCode [.v [.i a0_0, .i a0_1], .v [.i a2_0, .i a2_1, .i a2_2, .i a2_3, .r a2_4]]) fun o4 =>
 bindO (evalF E P0 k N.impl_Blocks [.v [.i a0_0, .i a0_1]]) fun o6 =>
 bif ((a1.length : Int) != (o6.t 0).asI) then
  impl_DoCmd_J1 k a0_0 a0_1 a1 a2_0 a2_1 a2_2 a2_3 a2_4 o2 1
 else
  impl_DoCmd_J1 k a0_0 a0_1 a1 a2_0 a2_1 a2_2 a2_3 a2_4 o2 ((o4.t 0).asI)
theorem impl_DoCmd_e (k : Nat) (a0_0 : Int) (a0_1 : Int) (a1 : List (List T)) (a2_0 : Int) (a2_1 : Int) (a2_2 : Int) (a2_3 : Int) (a2_4 : List (List T)) : evalF E P0 (k + 1) N.impl_DoCmd [.v [.i a0_0, .i a0_1], .v [.r a1], .v [.i a2_0, .i a2_1, .i a2_2, .i a2_3, .r a2_4]] = impl_DoCmd_u k a0_0 a0_1 a1 a2_0 a2_1 a2_2 a2_3 a2_4 := by kernel_rfl
/- impl.DoCmds -/
def impl_DoCmds_L1 (k : Nat) (a0_0 : Int) (a0_1 : Int) (p23 : List (List T)) (p24 : Int) (G1 : (Int × List (List T) × List (List T)) → Option Outs) : (Int × List (List T) × List (List T)) → Option Outs := fun (v8, w15, w16) =>
 bif (decide (v8 < p24)) then
  chk (decide (0 ≤ v8) && decide (v8 < (p23.length : Int))) <|
  bindO (evalF E P0 k N.impl_DoCmd [.v [.i a0_0, .i a0_1], .v [.r w15], .v [.i (at_ p23 v8.toNat 0).asI, .i (at_ p23 v8.toNat 1).asI, .i (at_ p23 v8.toNat 2).asI, .i (at_ p23 v8.toNat 3).asI, .r (at_ p23 v8.toNat 4).asR]]) fun o98 =>
  chk (decide ((w16.length + ([[.i (o98.t 1).asI, .i (o98.t 2).asI, .r (o98.t 3).asR]] : List (List T)).length) * 40 ≤ 140737488355328)) <|
  G1 ((IntKind.wrap .i64 (v8 + 1)), (o98.t 0).asR, (w16 ++ [[.i (o98.t 1).asI, .i (o98.t 2).asI, .r (o98.t 3).asR]]))
 else
  some ⟨[.r w15, .r w16], []⟩
def impl_DoCmds_k1 : List Nat := [3, 6, 7, 8, 9, 21, 22, 23, 40, 41]
def impl_DoCmds_S1 (a0_0 : Int) (a0_1 : Int) (p23 : List (List T)) (p24 : Int) : (Int × List (List T) × List (List T)) → St := fun (v8, w15, w16) => ⟨ofSl [(3, .ptr (3, 0) 0), (6, .ref (6, 0)), (7, .ref (7, 0)), (8, .ref (8, 0)), (9, .ref (9, 0)), (21, .sl 31 p23), (22, .i .i64 p24), (23, .i .i64 v8), (40, .skip), (41, .skip)], ofMem [((3, 0), .var [.i .i64 a0_0, .i .i64 a0_1]), ((6, 0), .row 3 true []), ((7, 0), .row 84 true []), ((8, 0), .row 3 true w15), ((9, 0), .row 84 true w16)]⟩
def impl_DoCmds_l1 (k : Nat) (a0_0 : Int) (a0_1 : Int) (p23 : List (List T)) (p24 : Int) (G1 : (Int × List (List T) × List (List T)) → Option Outs) : (Int × List (List T) × List (List T)) → Option Outs :=
  impl_DoCmds_L1 k a0_0 a0_1 p23 p24 G1
def impl_DoCmds_U (k : Nat) (a0_0 : Int) (a0_1 : Int) (a1 : List (List T)) (a2 : List (List T)) (R1 : List (List T) → Int → (Int × List (List T) × List (List T)) → Option Outs) : Option Outs :=
 bindO (evalF E P0 k N.impl_copyInts [.v [.r a1]]) fun o2 =>
 chk (decide (0 ≤ 0) && decide (0 ≤ (if 400 < (a2.length : Int) then 400 else (a2.length : Int))) && decide ((if 400 < (a2.length : Int) then 400 else (a2.length : Int)) ≤ (a2.length : Int))) <|
 R1 ((a2.drop (0 : Int).toNat).take ((if 400 < (a2.length : Int) then 400 else (a2.length : Int)).toNat - (0 : Int).toNat)) (((a2.drop (0 : Int).toNat).take ((if 400 < (a2.length : Int) then 400 else (a2.length : Int)).toNat - (0 : Int).toNat)).length : Int) (0, (o2.t 0).asR, [])
def impl_DoCmds_u (k : Nat) (a0_0 : Int) (a0_1 : Int) (a1 : List (List T)) (a2 : List (List T)) : Option Outs :=
  impl_DoCmds_U k a0_0 a0_1 a1 a2 (fun y0 y1 v => fixN (impl_DoCmds_l1 k a0_0 a0_1 y0 y1) k v)
def impl_DoCmds_it1 (k : Nat) (a0_0 : Int) (a0_1 : Int) (a1 : List (List T)) (a2 : List (List T)) (js : List Nat) (j : Nat) (s : St) : Option Outs := iter (LB E (evalF E P0 k) k [] N.impl_DoCmds [.sr, .sr, .sr, .sl, .sr, .bl]) [] impl_DoCmds_k1 (LK E (evalF E P0 k) k [] N.impl_DoCmds [.v [.i a0_0, .i a0_1], .v [.r a1], .v [.r a2]] [.sr, .sr, .sr, .sl, .sr, .bl] js) j s
theorem impl_DoCmds_e (k : Nat) (a0_0 : Int) (a0_1 : Int) (a1 : List (List T)) (a2 : List (List T)) : evalF E P0 (k + 1) N.impl_DoCmds [.v [.i a0_0, .i a0_1], .v [.r a1], .v [.r a2]] = impl_DoCmds_u k a0_0 a0_1 a1 a2 := by
  have e0 : evalF E P0 (k + 1) N.impl_DoCmds [.v [.i a0_0, .i a0_1], .v [.r a1], .v [.r a2]] = impl_DoCmds_U k a0_0 a0_1 a1 a2 (fun y0 y1 v => impl_DoCmds_it1 k a0_0 a0_1 a1 a2 [] k (impl_DoCmds_S1 a0_0 a0_1 y0 y1 v)) := by kernel_rfl
  have e1 : ∀ (p23 : List (List T)) (p24 : Int) (j1 : Nat) (v : Int × List (List T) × List (List T)), impl_DoCmds_it1 k a0_0 a0_1 a1 a2 [] (j1 + 1) (impl_DoCmds_S1 a0_0 a0_1 p23 p24 v) = impl_DoCmds_L1 k a0_0 a0_1 p23 p24 (fun v => impl_DoCmds_it1 k a0_0 a0_1 a1 a2 [] j1 (impl_DoCmds_S1 a0_0 a0_1 p23 p24 v)) v := by
    intro p23 p24 j1 v; kernel_rfl
  have i1 : ∀ (p23 : List (List T)) (p24 : Int) (j1 : Nat) (v : Int × List (List T) × List (List T)), impl_DoCmds_it1 k a0_0 a0_1 a1 a2 [] j1 (impl_DoCmds_S1 a0_0 a0_1 p23 p24 v) = fixN (impl_DoCmds_l1 k a0_0 a0_1 p23 p24) j1 v := by
    intro p23 p24 j1 v
    refine iter_fix (impl_DoCmds_S1 a0_0 a0_1 p23 p24) (impl_DoCmds_l1 k a0_0 a0_1 p23 p24) (fun j1 v => (e1 p23 p24 j1 v).trans ?_) j1 v
    unfold impl_DoCmds_l1
    rfl
  rw [e0]; unfold impl_DoCmds_u
  simp only [i1]
/- impl.copyAns -/
def impl_copyAns_u (k : Nat) (a0_0 : Int) (a0_1 : Int) (a0_2 : List (List T)) : Option Outs :=
 bindO (evalF E P0 k N.impl_copyInts [.v [.r a0_2]]) fun o2 =>
 some ⟨[.i a0_0, .i a0_1, .r (o2.t 0).asR], []⟩
theorem impl_copyAns_e (k : Nat) (a0_0 : Int) (a0_1 : Int) (a0_2 : List (List T)) : evalF E P0 (k + 1) N.impl_copyAns [.v [.i a0_0, .i a0_1, .r a0_2]] = impl_copyAns_u k a0_0 a0_1 a0_2 := by kernel_rfl
/- impl.AnsOf -/
def impl_AnsOf_L1 (k : Nat) (a0 : List (List T)) (G1 : (Int × List (List T)) → Option Outs) : (Int × List (List T)) → Option Outs := fun (v8, w8) =>
 bif (decide (v8 < (a0.length : Int))) then
  chk (decide (0 ≤ v8) && decide (v8 < (a0.length : Int))) <|
  bindO (evalF E P0 k N.impl_copyAns [.v [.i (at_ a0 v8.toNat 5).asI, .i (at_ a0 v8.toNat 6).asI, .r (at_ a0 v8.toNat 7).asR]]) fun o48 =>
  chk (decide ((w8.length + ([[.i (o48.t 0).asI, .i (o48.t 1).asI, .r (o48.t 2).asR]] : List (List T)).length) * 40 ≤ 140737488355328)) <|
  G1 ((IntKind.wrap .i64 (v8 + 1)), (w8 ++ [[.i (o48.t 0).asI, .i (o48.t 1).asI, .r (o48.t 2).asR]]))
 else
  some ⟨[.r w8], []⟩
def impl_AnsOf_k1 : List Nat := [2, 3, 7, 8, 9, 20]
def impl_AnsOf_S1 (a0 : List (List T)) : (Int × List (List T)) → St := fun (v8, w8) => ⟨ofSl [(2, .ref (2, 0)), (3, .ref (3, 0)), (7, .sl 86 a0), (8, .i .i64 (a0.length : Int)), (9, .i .i64 v8), (20, .skip)], ofMem [((2, 0), .row 84 true []), ((3, 0), .row 84 true w8)]⟩
def impl_AnsOf_l1 (k : Nat) (a0 : List (List T)) (G1 : (Int × List (List T)) → Option Outs) : (Int × List (List T)) → Option Outs :=
  impl_AnsOf_L1 k a0 G1
def impl_AnsOf_U (k : Nat) (a0 : List (List T)) (R1 : (Int × List (List T)) → Option Outs) : Option Outs :=
 R1 (0, [])
def impl_AnsOf_u (k : Nat) (a0 : List (List T)) : Option Outs :=
  impl_AnsOf_U k a0 (fun v => fixN (impl_AnsOf_l1 k a0) k v)
def impl_AnsOf_it1 (k : Nat) (a0 : List (List T)) (js : List Nat) (j : Nat) (s : St) : Option Outs := iter (LB E (evalF E P0 k) k [] N.impl_AnsOf [.sr, .sr, .sl, .sr, .bl]) [] impl_AnsOf_k1 (LK E (evalF E P0 k) k [] N.impl_AnsOf [.v [.r a0]] [.sr, .sr, .sl, .sr, .bl] js) j s
theorem impl_AnsOf_e (k : Nat) (a0 : List (List T)) : evalF E P0 (k + 1) N.impl_AnsOf [.v [.r a0]] = impl_AnsOf_u k a0 := by
  have e0 : evalF E P0 (k + 1) N.impl_AnsOf [.v [.r a0]] = impl_AnsOf_U k a0 (fun v => impl_AnsOf_it1 k a0 [] k (impl_AnsOf_S1 a0 v)) := by kernel_rfl
  have e1 : ∀ (j1 : Nat) (v : Int × List (List T)), impl_AnsOf_it1 k a0 [] (j1 + 1) (impl_AnsOf_S1 a0 v) = impl_AnsOf_L1 k a0 (fun v => impl_AnsOf_it1 k a0 [] j1 (impl_AnsOf_S1 a0 v)) v := by
    intro j1 v; kernel_rfl
  have i1 : ∀ (j1 : Nat) (v : Int × List (List T)), impl_AnsOf_it1 k a0 [] j1 (impl_AnsOf_S1 a0 v) = fixN (impl_AnsOf_l1 k a0) j1 v := by
    intro j1 v
    refine iter_fix (impl_AnsOf_S1 a0) (impl_AnsOf_l1 k a0) (fun j1 v => (e1 j1 v).trans ?_) j1 v
    unfold impl_AnsOf_l1
    rfl
  rw [e0]; unfold impl_AnsOf_u
  simp only [i1]
/- slices.EqualFunc[[]impl.Ans,[]impl.Ans,impl.Ans,impl.Ans] -/
def slices_EqualFunc_impl_Ans_impl_Ans_impl_Ans_impl_Ans_L1 (k : Nat) (a0 : List (List T)) (a1 : List (List T)) (G1 : (Int) → Option Outs) : (Int) → Option Outs := fun v8 =>
 bif (decide (v8 < (a0.length : Int))) then
  chk (decide (0 ≤ v8) && decide (v8 < (a0.length : Int))) <|
  chk (decide (0 ≤ v8) && decide (v8 < (a1.length : Int))) <|
  bindO (evalF E P0 k N.impl_SameAns [.v [.i (at_ a0 v8.toNat 0).asI, .i (at_ a0 v8.toNat 1).asI, .r (at_ a0 v8.toNat 2).asR], .v [.i (at_ a1 v8.toNat 0).asI, .i (at_ a1 v8.toNat 1).asI, .r (at_ a1 v8.toNat 2).asR]]) fun o96 =>
  bif (!(o96.t 0).asB) then some ⟨[.b false], []⟩ else G1 (IntKind.wrap .i64 (v8 + 1))
 else
  some ⟨[.b true], []⟩
def slices_EqualFunc_impl_Ans_impl_Ans_impl_Ans_impl_Ans_k1 : List Nat := [1, 2, 6, 15, 16, 17]
def slices_EqualFunc_impl_Ans_impl_Ans_impl_Ans_impl_Ans_S1 (a0 : List (List T)) (a1 : List (List T)) : (Int) → St := fun v8 => ⟨ofSl [(1, .sl 84 a1), (2, .clo N.impl_SameAns none), (6, .b false), (15, .sl 84 a0), (16, .i .i64 (a0.length : Int)), (17, .i .i64 v8)], ofMem []⟩
def slices_EqualFunc_impl_Ans_impl_Ans_impl_Ans_impl_Ans_l1 (k : Nat) (a0 : List (List T)) (a1 : List (List T)) (G1 : (Int) → Option Outs) : (Int) → Option Outs :=
  slices_EqualFunc_impl_Ans_impl_Ans_impl_Ans_impl_Ans_L1 k a0 a1 G1
def slices_EqualFunc_impl_Ans_impl_Ans_impl_Ans_impl_Ans_U (k : Nat) (a0 : List (List T)) (a1 : List (List T)) (R1 : (Int) → Option Outs) : Option Outs :=
 bif ((a0.length : Int) != (a1.length : Int)) then some ⟨[.b false], []⟩ else R1 0
def slices_EqualFunc_impl_Ans_impl_Ans_impl_Ans_impl_Ans_u (k : Nat) (a0 : List (List T)) (a1 : List (List T)) : Option Outs :=
  slices_EqualFunc_impl_Ans_impl_Ans_impl_Ans_impl_Ans_U k a0 a1 (fun v => fixN (slices_EqualFunc_impl_Ans_impl_Ans_impl_Ans_impl_Ans_l1 k a0 a1) k v)
def slices_EqualFunc_impl_Ans_impl_Ans_impl_Ans_impl_Ans_it1 (k : Nat) (a0 : List (List T)) (a1 : List (List T)) (js : List Nat) (j : Nat) (s : St) : Option Outs := iter (LB E (evalF E P0 k) k [] N.slices_EqualFunc_impl_Ans_impl_Ans_impl_Ans_impl_Ans [.sr, .sr, .sl, .sr, .bl]) [] slices_EqualFunc_impl_Ans_impl_Ans_impl_Ans_impl_Ans_k1 (LK E (evalF E P0 k) k [] N.slices_EqualFunc_impl_Ans_impl_Ans_impl_Ans_impl_Ans [.v [.r a0], .v [.r a1], .c N.impl_SameAns none] [.sr, .sr, .sl, .sr, .bl] js) j s
theorem slices_EqualFunc_impl_Ans_impl_Ans_impl_Ans_impl_Ans_e (k : Nat) (a0 : List (List T)) (a1 : List (List T)) : evalF E P0 (k + 1) N.slices_EqualFunc_impl_Ans_impl_Ans_impl_Ans_impl_Ans [.v [.r a0], .v [.r a1], .c N.impl_SameAns none] = slices_EqualFunc_impl_Ans_impl_Ans_impl_Ans_impl_Ans_u k a0 a1 := by
  have e0 : evalF E P0 (k + 1) N.slices_EqualFunc_impl_Ans_impl_Ans_impl_Ans_impl_Ans [.v [.r a0], .v [.r a1], .c N.impl_SameAns none] = slices_EqualFunc_impl_Ans_impl_Ans_impl_Ans_impl_Ans_U k a0 a1 (fun v => slices_EqualFunc_impl_Ans_impl_Ans_impl_Ans_impl_Ans_it1 k a0 a1 [] k (slices_EqualFunc_impl_Ans_impl_Ans_impl_Ans_impl_Ans_S1 a0 a1 v)) := by kernel_rfl
  have e1 : ∀ (j1 : Nat) (v : Int), slices_EqualFunc_impl_Ans_impl_Ans_impl_Ans_impl_Ans_it1 k a0 a1 [] (j1 + 1) (slices_EqualFunc_impl_Ans_impl_Ans_impl_Ans_impl_Ans_S1 a0 a1 v) = slices_EqualFunc_impl_Ans_impl_Ans_impl_Ans_impl_Ans_L1 k a0 a1 (fun v => slices_EqualFunc_impl_Ans_impl_Ans_impl_Ans_impl_Ans_it1 k a0 a1 [] j1 (slices_EqualFunc_impl_Ans_impl_Ans_impl_Ans_impl_Ans_S1 a0 a1 v)) v := by
    intro j1 v; kernel_rfl
  have i1 : ∀ (j1 : Nat) (v : Int), slices_EqualFunc_impl_Ans_impl_Ans_impl_Ans_impl_Ans_it1 k a0 a1 [] j1 (slices_EqualFunc_impl_Ans_impl_Ans_impl_Ans_impl_Ans_S1 a0 a1 v) = fixN (slices_EqualFunc_impl_Ans_impl_Ans_impl_Ans_impl_Ans_l1 k a0 a1) j1 v := by
    intro j1 v
    refine iter_fix (slices_EqualFunc_impl_Ans_impl_Ans_impl_Ans_impl_Ans_S1 a0 a1) (slices_EqualFunc_impl_Ans_impl_Ans_impl_Ans_impl_Ans_l1 k a0 a1) (fun j1 v => (e1 j1 v).trans ?_) j1 v
    unfold slices_EqualFunc_impl_Ans_impl_Ans_impl_Ans_impl_Ans_l1
    rfl
  rw [e0]; unfold slices_EqualFunc_impl_Ans_impl_Ans_impl_Ans_impl_Ans_u
  simp only [i1]
/- slices.Equal[[]int,int] -/
def slices_Equal_int_int_L1 (k : Nat) (a0 : List (List T)) (a1 : List (List T)) (G1 : (Int) → Option Outs) : (Int) → Option Outs := fun v8 =>
 bif (decide (v8 < (a0.length : Int))) then
  chk (decide (0 ≤ v8) && decide (v8 < (a0.length : Int))) <|
  chk (decide (0 ≤ v8) && decide (v8 < (a1.length : Int))) <|
  bif ((at_ a0 v8.toNat 0).asI != (at_ a1 v8.toNat 0).asI) then
   some ⟨[.b false], []⟩
  else
   G1 (IntKind.wrap .i64 (v8 + 1))
 else
  some ⟨[.b true], []⟩
def slices_Equal_int_int_k1 : List Nat := [0, 1, 4, 12, 13]
def slices_Equal_int_int_S1 (a0 : List (List T)) (a1 : List (List T)) : (Int) → St := fun v8 => ⟨ofSl [(0, .sl 3 a0), (1, .sl 3 a1), (4, .b false), (12, .i .i64 (a0.length : Int)), (13, .i .i64 v8)], ofMem []⟩
def slices_Equal_int_int_l1 (k : Nat) (a0 : List (List T)) (a1 : List (List T)) (G1 : (Int) → Option Outs) : (Int) → Option Outs :=
  slices_Equal_int_int_L1 k a0 a1 G1
def slices_Equal_int_int_U (k : Nat) (a0 : List (List T)) (a1 : List (List T)) (R1 : (Int) → Option Outs) : Option Outs :=
 bif ((a0.length : Int) != (a1.length : Int)) then some ⟨[.b false], []⟩ else R1 0
def slices_Equal_int_int_u (k : Nat) (a0 : List (List T)) (a1 : List (List T)) : Option Outs :=
  slices_Equal_int_int_U k a0 a1 (fun v => fixN (slices_Equal_int_int_l1 k a0 a1) k v)
def slices_Equal_int_int_it1 (k : Nat) (a0 : List (List T)) (a1 : List (List T)) (js : List Nat) (j : Nat) (s : St) : Option Outs := iter (LB E (evalF E P0 k) k [] N.slices_Equal_int_int [.sr, .sr, .sl, .sr, .bl]) [] slices_Equal_int_int_k1 (LK E (evalF E P0 k) k [] N.slices_Equal_int_int [.v [.r a0], .v [.r a1]] [.sr, .sr, .sl, .sr, .bl] js) j s
theorem slices_Equal_int_int_e (k : Nat) (a0 : List (List T)) (a1 : List (List T)) : evalF E P0 (k + 1) N.slices_Equal_int_int [.v [.r a0], .v [.r a1]] = slices_Equal_int_int_u k a0 a1 := by
  have e0 : evalF E P0 (k + 1) N.slices_Equal_int_int [.v [.r a0], .v [.r a1]] = slices_Equal_int_int_U k a0 a1 (fun v => slices_Equal_int_int_it1 k a0 a1 [] k (slices_Equal_int_int_S1 a0 a1 v)) := by kernel_rfl
  have e1 : ∀ (j1 : Nat) (v : Int), slices_Equal_int_int_it1 k a0 a1 [] (j1 + 1) (slices_Equal_int_int_S1 a0 a1 v) = slices_Equal_int_int_L1 k a0 a1 (fun v => slices_Equal_int_int_it1 k a0 a1 [] j1 (slices_Equal_int_int_S1 a0 a1 v)) v := by
    intro j1 v; kernel_rfl
  have i1 : ∀ (j1 : Nat) (v : Int), slices_Equal_int_int_it1 k a0 a1 [] j1 (slices_Equal_int_int_S1 a0 a1 v) = fixN (slices_Equal_int_int_l1 k a0 a1) j1 v := by
    intro j1 v
    refine iter_fix (slices_Equal_int_int_S1 a0 a1) (slices_Equal_int_int_l1 k a0 a1) (fun j1 v => (e1 j1 v).trans ?_) j1 v
    unfold slices_Equal_int_int_l1
    rfl
  rw [e0]; unfold slices_Equal_int_int_u
  simp only [i1]
/- impl.SameAns -/
def impl_SameAns_u (k : Nat) (a0_0 : Int) (a0_1 : Int) (a0_2 : List (List T)) (a1_0 : Int) (a1_1 : Int) (a1_2 : List (List T)) : Option Outs :=
 bif (a0_0 == a1_0) then
  bif (a0_1 == a1_1) then
   bindO (evalF E P0 k N.slices_Equal_int_int [.v [.r a0_2], .v [.r a1_2]]) fun o2 =>
   some ⟨[.b (o2.t 0).asB], []⟩
  else
   some ⟨[.b false], []⟩
 else
  some ⟨[.b false], []⟩
theorem impl_SameAns_e (k : Nat) (a0_0 : Int) (a0_1 : Int) (a0_2 : List (List T)) (a1_0 : Int) (a1_1 : Int) (a1_2 : List (List T)) : evalF E P0 (k + 1) N.impl_SameAns [.v [.i a0_0, .i a0_1, .r a0_2], .v [.i a1_0, .i a1_1, .r a1_2]] = impl_SameAns_u k a0_0 a0_1 a0_2 a1_0 a1_1 a1_2 := by kernel_rfl
/- impl.Follows -/
def impl_Follows_u (k : Nat) (a0_0 : Int) (a0_1 : Int) (a1 : List (List T)) (a2 : List (List T)) : Option Outs :=
 bif (decide ((a2.length : Int) > 400)) then
  some ⟨[.b false], []⟩
 else
  bindO (evalF E P0 k N.impl_CmdsOf [.v [.r a2]]) fun o3 =>
  bindO (evalF E P0 k N.impl_DoCmds [.v [.i a0_0, .i a0_1], .v [.r a1], .v [.r (o3.t 0).asR]]) fun o4 =>
  bindO (evalF E P0 k N.impl_AnsOf [.v [.r a2]]) fun o7 =>
  bindO (evalF E P0 k N.slices_EqualFunc_impl_Ans_impl_Ans_impl_Ans_impl_Ans [.v [.r (o4.t 1).asR], .v [.r (o7.t 0).asR], .c N.impl_SameAns none]) fun o8 =>
  some ⟨[.b (o8.t 0).asB], []⟩
theorem impl_Follows_e (k : Nat) (a0_0 : Int) (a0_1 : Int) (a1 : List (List T)) (a2 : List (List T)) : evalF E P0 (k + 1) N.impl_Follows [.v [.i a0_0, .i a0_1], .v [.r a1], .v [.r a2]] = impl_Follows_u k a0_0 a0_1 a1 a2 := by kernel_rfl
/- laws.FnExactFollows -/
def laws_FnExactFollows_u (k : Nat) (a0_0 : Int) (a0_1 : Int) (a1 : List (List T)) (a2 : List (List T)) : Option Outs :=
 bif (decide ((a1.length : Int) > 1048576)) then
  some ⟨[.b true], []⟩
 else
  bindO (evalF E P0 k N.laws_szTurnS [.v [.r a2], .v [.i 1048576]]) fun o2 =>
  bif (decide ((o2.t 0).asI < 0)) then
   some ⟨[.b true], []⟩
  else
   bindO (evalF E P0 k N.laws_toGeo [.v [.i a0_0, .i a0_1]]) fun o7 =>
   bindO (evalF E P0 k N.laws_toIntS [.v [.r a1]]) fun o8 =>
   bindO (evalF E P0 k N.laws_toTurnS [.v [.r a2]]) fun o9 =>
   bindO (evalF E P0 k N.spec_Follows [.v [.i (o7.t 0).asI, .i (o7.t 1).asI], .v [.r (o8.t 0).asR], .v [.r (o9.t 0).asR]]) fun o10 =>
   bindO (evalF E P0 k N.laws_toIntS [.v [.r a1]]) fun o12 =>
   bindO (evalF E P0 k N.laws_toTurnS [.v [.r a2]]) fun o14 =>
   bindO (evalF E P0 k N.laws_toGeo [.v [.i a0_0, .i a0_1]]) fun o17 =>
   bindO (evalF E P0 k N.impl_Follows [.v [.i (o17.t 0).asI, .i (o17.t 1).asI], .v [.r (o12.t 0).asR], .v [.r (o14.t 0).asR]]) fun o18 =>
   bif (!((o18.t 0).asB == (o10.t 0).asB)) then
    some ⟨[.b false], []⟩
   else
    bindO (evalF E P0 k N.laws_toIntS [.v [.r a1]]) fun o21 =>
    bindO (evalF E P0 k N.laws_eqIntS [.v [.r (o12.t 0).asR], .v [.r (o21.t 0).asR]]) fun o22 =>
    bif (!(o22.t 0).asB) then
     some ⟨[.b false], []⟩
    else
     bindO (evalF E P0 k N.laws_toTurnS [.v [.r a2]]) fun o25 =>
     bindO (evalF E P0 k N.laws_eqTurnS [.v [.r (o14.t 0).asR], .v [.r (o25.t 0).asR]]) fun o26 =>
     bif (!(o26.t 0).asB) then some ⟨[.b false], []⟩ else some ⟨[.b true], []⟩
theorem laws_FnExactFollows_e (k : Nat) (a0_0 : Int) (a0_1 : Int) (a1 : List (List T)) (a2 : List (List T)) : evalF E P0 (k + 1) N.laws_FnExactFollows [.v [.i a0_0, .i a0_1], .v [.r a1], .v [.r a2]] = laws_FnExactFollows_u k a0_0 a0_1 a1 a2 := by kernel_rfl
/- laws.szIntSS -/
def laws_szIntSS_L1 (k : Nat) (a0 : List (List T)) (G1 : (Int × Int) → Option Outs) : (Int × Int) → Option Outs := fun (v15, v16) =>
 bif (decide (v16 < (a0.length : Int))) then
  chk (decide (0 ≤ v16) && decide (v16 < (a0.length : Int))) <|
  bindO (evalF E P0 k N.laws_szIntS [.v [.r (at_ a0 v16.toNat 0).asR], .v [.i v15]]) fun o96 =>
  bif (decide ((o96.t 0).asI < 0)) then some ⟨[.i (-1)], []⟩ else G1 ((o96.t 0).asI, (IntKind.wrap .i64 (v16 + 1)))
 else
  some ⟨[.i v15], []⟩
def laws_szIntSS_k1 : List Nat := [0, 1, 4, 5, 26]
def laws_szIntSS_S1 (a0 : List (List T)) : (Int × Int) → St := fun (v15, v16) => ⟨ofSl [(0, .sl 24 a0), (1, .i .i64 v15), (4, .i .i64 0), (5, .i .i64 v16), (26, .skip)], ofMem []⟩
def laws_szIntSS_l1 (k : Nat) (a0 : List (List T)) (G1 : (Int × Int) → Option Outs) : (Int × Int) → Option Outs :=
  laws_szIntSS_L1 k a0 G1
def laws_szIntSS_U (k : Nat) (a0 : List (List T)) (a1 : Int) (R1 : (Int × Int) → Option Outs) : Option Outs :=
 bif (decide ((IntKind.wrap .i64 (a1 - (a0.length : Int))) < 0)) then
  some ⟨[.i (-1)], []⟩
 else
  R1 ((IntKind.wrap .i64 (a1 - (a0.length : Int))), 0)
def laws_szIntSS_u (k : Nat) (a0 : List (List T)) (a1 : Int) : Option Outs :=
  laws_szIntSS_U k a0 a1 (fun v => fixN (laws_szIntSS_l1 k a0) k v)
def laws_szIntSS_it1 (k : Nat) (a0 : List (List T)) (a1 : Int) (js : List Nat) (j : Nat) (s : St) : Option Outs := iter (LB E (evalF E P0 k) k [] N.laws_szIntSS [.sr, .sr, .sr, .sl, .sr, .bl]) [] laws_szIntSS_k1 (LK E (evalF E P0 k) k [] N.laws_szIntSS [.v [.r a0], .v [.i a1]] [.sr, .sr, .sr, .sl, .sr, .bl] js) j s
theorem laws_szIntSS_e (k : Nat) (a0 : List (List T)) (a1 : Int) : evalF E P0 (k + 1) N.laws_szIntSS [.v [.r a0], .v [.i a1]] = laws_szIntSS_u k a0 a1 := by
  have e0 : evalF E P0 (k + 1) N.laws_szIntSS [.v [.r a0], .v [.i a1]] = laws_szIntSS_U k a0 a1 (fun v => laws_szIntSS_it1 k a0 a1 [] k (laws_szIntSS_S1 a0 v)) := by kernel_rfl
  have e1 : ∀ (j1 : Nat) (v : Int × Int), laws_szIntSS_it1 k a0 a1 [] (j1 + 1) (laws_szIntSS_S1 a0 v) = laws_szIntSS_L1 k a0 (fun v => laws_szIntSS_it1 k a0 a1 [] j1 (laws_szIntSS_S1 a0 v)) v := by
    intro j1 v; kernel_rfl
  have i1 : ∀ (j1 : Nat) (v : Int × Int), laws_szIntSS_it1 k a0 a1 [] j1 (laws_szIntSS_S1 a0 v) = fixN (laws_szIntSS_l1 k a0) j1 v := by
    intro j1 v
    refine iter_fix (laws_szIntSS_S1 a0) (laws_szIntSS_l1 k a0) (fun j1 v => (e1 j1 v).trans ?_) j1 v
    unfold laws_szIntSS_l1
    rfl
  rw [e0]; unfold laws_szIntSS_u
  simp only [i1]
/- laws.szWr -/
def laws_szWr_u (k : Nat) (a0_0 : Int) (a0_1 : List (List T)) (a1 : Int) : Option Outs :=
 bindO (evalF E P0 k N.laws_szIntS [.v [.r a0_1], .v [.i a1]]) fun o2 =>
 bif (decide ((o2.t 0).asI < 0)) then some ⟨[.i (-1)], []⟩ else some ⟨[.i (o2.t 0).asI], []⟩
theorem laws_szWr_e (k : Nat) (a0_0 : Int) (a0_1 : List (List T)) (a1 : Int) : evalF E P0 (k + 1) N.laws_szWr [.v [.i a0_0, .r a0_1], .v [.i a1]] = laws_szWr_u k a0_0 a0_1 a1 := by kernel_rfl
/- laws.szWrS -/
def laws_szWrS_L1 (k : Nat) (a0 : List (List T)) (G1 : (Int × Int) → Option Outs) : (Int × Int) → Option Outs := fun (v15, v16) =>
 bif (decide (v16 < (a0.length : Int))) then
  chk (decide (0 ≤ v16) && decide (v16 < (a0.length : Int))) <|
  bindO (evalF E P0 k N.laws_szWr [.v [.i (at_ a0 v16.toNat 0).asI, .r (at_ a0 v16.toNat 1).asR], .v [.i v15]]) fun o96 =>
  bif (decide ((o96.t 0).asI < 0)) then some ⟨[.i (-1)], []⟩ else G1 ((o96.t 0).asI, (IntKind.wrap .i64 (v16 + 1)))
 else
  some ⟨[.i v15], []⟩
def laws_szWrS_k1 : List Nat := [0, 1, 4, 5, 26]
def laws_szWrS_S1 (a0 : List (List T)) : (Int × Int) → St := fun (v15, v16) => ⟨ofSl [(0, .sl 171 a0), (1, .i .i64 v15), (4, .i .i64 0), (5, .i .i64 v16), (26, .skip)], ofMem []⟩
def laws_szWrS_l1 (k : Nat) (a0 : List (List T)) (G1 : (Int × Int) → Option Outs) : (Int × Int) → Option Outs :=
  laws_szWrS_L1 k a0 G1
def laws_szWrS_U (k : Nat) (a0 : List (List T)) (a1 : Int) (R1 : (Int × Int) → Option Outs) : Option Outs :=
 bif (decide ((IntKind.wrap .i64 (a1 - (a0.length : Int))) < 0)) then
  some ⟨[.i (-1)], []⟩
 else
  R1 ((IntKind.wrap .i64 (a1 - (a0.length : Int))), 0)
def laws_szWrS_u (k : Nat) (a0 : List (List T)) (a1 : Int) : Option Outs :=
  laws_szWrS_U k a0 a1 (fun v => fixN (laws_szWrS_l1 k a0) k v)
def laws_szWrS_it1 (k : Nat) (a0 : List (List T)) (a1 : Int) (js : List Nat) (j : Nat) (s : St) : Option Outs := iter (LB E (evalF E P0 k) k [] N.laws_szWrS [.sr, .sr, .sr, .sl, .sr, .bl]) [] laws_szWrS_k1 (LK E (evalF E P0 k) k [] N.laws_szWrS [.v [.r a0], .v [.i a1]] [.sr, .sr, .sr, .sl, .sr, .bl] js) j s
theorem laws_szWrS_e (k : Nat) (a0 : List (List T)) (a1 : Int) : evalF E P0 (k + 1) N.laws_szWrS [.v [.r a0], .v [.i a1]] = laws_szWrS_u k a0 a1 := by
  have e0 : evalF E P0 (k + 1) N.laws_szWrS [.v [.r a0], .v [.i a1]] = laws_szWrS_U k a0 a1 (fun v => laws_szWrS_it1 k a0 a1 [] k (laws_szWrS_S1 a0 v)) := by kernel_rfl
  have e1 : ∀ (j1 : Nat) (v : Int × Int), laws_szWrS_it1 k a0 a1 [] (j1 + 1) (laws_szWrS_S1 a0 v) = laws_szWrS_L1 k a0 (fun v => laws_szWrS_it1 k a0 a1 [] j1 (laws_szWrS_S1 a0 v)) v := by
    intro j1 v; kernel_rfl
  have i1 : ∀ (j1 : Nat) (v : Int × Int), laws_szWrS_it1 k a0 a1 [] j1 (laws_szWrS_S1 a0 v) = fixN (laws_szWrS_l1 k a0) j1 v := by
    intro j1 v
    refine iter_fix (laws_szWrS_S1 a0) (laws_szWrS_l1 k a0) (fun j1 v => (e1 j1 v).trans ?_) j1 v
    unfold laws_szWrS_l1
    rfl
  rw [e0]; unfold laws_szWrS_u
  simp only [i1]
/- laws.szMem -/
def laws_szMem_u (k : Nat) (a0_0 : List (List T)) (a0_1 : List (List T)) (a0_2 : Bool) (a0_3 : List (List T)) (a1 : Int) : Option Outs :=
 bindO (evalF E P0 k N.laws_szIntSS [.v [.r a0_0], .v [.i a1]]) fun o2 =>
 bif (decide ((o2.t 0).asI < 0)) then
  some ⟨[.i (-1)], []⟩
 else
  bindO (evalF E P0 k N.laws_szWrS [.v [.r a0_1], .v [.i (o2.t 0).asI]]) fun o4 =>
  bif (decide ((o4.t 0).asI < 0)) then
   some ⟨[.i (-1)], []⟩
  else
   bindO (evalF E P0 k N.laws_szIntS [.v [.r a0_3], .v [.i (o4.t 0).asI]]) fun o6 =>
   bif (decide ((o6.t 0).asI < 0)) then some ⟨[.i (-1)], []⟩ else some ⟨[.i (o6.t 0).asI], []⟩
theorem laws_szMem_e (k : Nat) (a0_0 : List (List T)) (a0_1 : List (List T)) (a0_2 : Bool) (a0_3 : List (List T)) (a1 : Int) : evalF E P0 (k + 1) N.laws_szMem [.v [.r a0_0, .r a0_1, .b a0_2, .r a0_3], .v [.i a1]] = laws_szMem_u k a0_0 a0_1 a0_2 a0_3 a1 := by kernel_rfl
/- laws.szMemS -/
def laws_szMemS_L1 (k : Nat) (a0 : List (List T)) (G1 : (Int × Int) → Option Outs) : (Int × Int) → Option Outs := fun (v15, v16) =>
 bif (decide (v16 < (a0.length : Int))) then
  chk (decide (0 ≤ v16) && decide (v16 < (a0.length : Int))) <|
  bindO (evalF E P0 k N.laws_szMem [.v [.r (at_ a0 v16.toNat 0).asR, .r (at_ a0 v16.toNat 1).asR, .b (at_ a0 v16.toNat 2).asB, .r (at_ a0 v16.toNat 3).asR], .v [.i v15]]) fun o96 =>
  bif (decide ((o96.t 0).asI < 0)) then some ⟨[.i (-1)], []⟩ else G1 ((o96.t 0).asI, (IntKind.wrap .i64 (v16 + 1)))
 else
  some ⟨[.i v15], []⟩
def laws_szMemS_k1 : List Nat := [0, 1, 4, 5, 26]
def laws_szMemS_S1 (a0 : List (List T)) : (Int × Int) → St := fun (v15, v16) => ⟨ofSl [(0, .sl 150 a0), (1, .i .i64 v15), (4, .i .i64 0), (5, .i .i64 v16), (26, .skip)], ofMem []⟩
def laws_szMemS_l1 (k : Nat) (a0 : List (List T)) (G1 : (Int × Int) → Option Outs) : (Int × Int) → Option Outs :=
  laws_szMemS_L1 k a0 G1
def laws_szMemS_U (k : Nat) (a0 : List (List T)) (a1 : Int) (R1 : (Int × Int) → Option Outs) : Option Outs :=
 bif (decide ((IntKind.wrap .i64 (a1 - (a0.length : Int))) < 0)) then
  some ⟨[.i (-1)], []⟩
 else
  R1 ((IntKind.wrap .i64 (a1 - (a0.length : Int))), 0)
def laws_szMemS_u (k : Nat) (a0 : List (List T)) (a1 : Int) : Option Outs :=
  laws_szMemS_U k a0 a1 (fun v => fixN (laws_szMemS_l1 k a0) k v)
def laws_szMemS_it1 (k : Nat) (a0 : List (List T)) (a1 : Int) (js : List Nat) (j : Nat) (s : St) : Option Outs := iter (LB E (evalF E P0 k) k [] N.laws_szMemS [.sr, .sr, .sr, .sl, .sr, .bl]) [] laws_szMemS_k1 (LK E (evalF E P0 k) k [] N.laws_szMemS [.v [.r a0], .v [.i a1]] [.sr, .sr, .sr, .sl, .sr, .bl] js) j s
theorem laws_szMemS_e (k : Nat) (a0 : List (List T)) (a1 : Int) : evalF E P0 (k + 1) N.laws_szMemS [.v [.r a0], .v [.i a1]] = laws_szMemS_u k a0 a1 := by
  have e0 : evalF E P0 (k + 1) N.laws_szMemS [.v [.r a0], .v [.i a1]] = laws_szMemS_U k a0 a1 (fun v => laws_szMemS_it1 k a0 a1 [] k (laws_szMemS_S1 a0 v)) := by kernel_rfl
  have e1 : ∀ (j1 : Nat) (v : Int × Int), laws_szMemS_it1 k a0 a1 [] (j1 + 1) (laws_szMemS_S1 a0 v) = laws_szMemS_L1 k a0 (fun v => laws_szMemS_it1 k a0 a1 [] j1 (laws_szMemS_S1 a0 v)) v := by
    intro j1 v; kernel_rfl
  have i1 : ∀ (j1 : Nat) (v : Int × Int), laws_szMemS_it1 k a0 a1 [] j1 (laws_szMemS_S1 a0 v) = fixN (laws_szMemS_l1 k a0) j1 v := by
    intro j1 v
    refine iter_fix (laws_szMemS_S1 a0) (laws_szMemS_l1 k a0) (fun j1 v => (e1 j1 v).trans ?_) j1 v
    unfold laws_szMemS_l1
    rfl
  rw [e0]; unfold laws_szMemS_u
  simp only [i1]
/- laws.szEnt -/
def laws_szEnt_u (k : Nat) (a0_0 : Int) (a0_1 : List (List T)) (a1 : Int) : Option Outs :=
 bindO (evalF E P0 k N.laws_szIntS [.v [.r a0_1], .v [.i a1]]) fun o2 =>
 bif (decide ((o2.t 0).asI < 0)) then some ⟨[.i (-1)], []⟩ else some ⟨[.i (o2.t 0).asI], []⟩
theorem laws_szEnt_e (k : Nat) (a0_0 : Int) (a0_1 : List (List T)) (a1 : Int) : evalF E P0 (k + 1) N.laws_szEnt [.v [.i a0_0, .r a0_1], .v [.i a1]] = laws_szEnt_u k a0_0 a0_1 a1 := by kernel_rfl
/- laws.szEntS -/
def laws_szEntS_L1 (k : Nat) (a0 : List (List T)) (G1 : (Int × Int) → Option Outs) : (Int × Int) → Option Outs := fun (v15, v16) =>
 bif (decide (v16 < (a0.length : Int))) then
  chk (decide (0 ≤ v16) && decide (v16 < (a0.length : Int))) <|
  bindO (evalF E P0 k N.laws_szEnt [.v [.i (at_ a0 v16.toNat 0).asI, .r (at_ a0 v16.toNat 1).asR], .v [.i v15]]) fun o96 =>
  bif (decide ((o96.t 0).asI < 0)) then some ⟨[.i (-1)], []⟩ else G1 ((o96.t 0).asI, (IntKind.wrap .i64 (v16 + 1)))
 else
  some ⟨[.i v15], []⟩
def laws_szEntS_k1 : List Nat := [0, 1, 4, 5, 26]
def laws_szEntS_S1 (a0 : List (List T)) : (Int × Int) → St := fun (v15, v16) => ⟨ofSl [(0, .sl 153 a0), (1, .i .i64 v15), (4, .i .i64 0), (5, .i .i64 v16), (26, .skip)], ofMem []⟩
def laws_szEntS_l1 (k : Nat) (a0 : List (List T)) (G1 : (Int × Int) → Option Outs) : (Int × Int) → Option Outs :=
  laws_szEntS_L1 k a0 G1
def laws_szEntS_U (k : Nat) (a0 : List (List T)) (a1 : Int) (R1 : (Int × Int) → Option Outs) : Option Outs :=
 bif (decide ((IntKind.wrap .i64 (a1 - (a0.length : Int))) < 0)) then
  some ⟨[.i (-1)], []⟩
 else
  R1 ((IntKind.wrap .i64 (a1 - (a0.length : Int))), 0)
def laws_szEntS_u (k : Nat) (a0 : List (List T)) (a1 : Int) : Option Outs :=
  laws_szEntS_U k a0 a1 (fun v => fixN (laws_szEntS_l1 k a0) k v)
def laws_szEntS_it1 (k : Nat) (a0 : List (List T)) (a1 : Int) (js : List Nat) (j : Nat) (s : St) : Option Outs := iter (LB E (evalF E P0 k) k [] N.laws_szEntS [.sr, .sr, .sr, .sl, .sr, .bl]) [] laws_szEntS_k1 (LK E (evalF E P0 k) k [] N.laws_szEntS [.v [.r a0], .v [.i a1]] [.sr, .sr, .sr, .sl, .sr, .bl] js) j s
theorem laws_szEntS_e (k : Nat) (a0 : List (List T)) (a1 : Int) : evalF E P0 (k + 1) N.laws_szEntS [.v [.r a0], .v [.i a1]] = laws_szEntS_u k a0 a1 := by
  have e0 : evalF E P0 (k + 1) N.laws_szEntS [.v [.r a0], .v [.i a1]] = laws_szEntS_U k a0 a1 (fun v => laws_szEntS_it1 k a0 a1 [] k (laws_szEntS_S1 a0 v)) := by kernel_rfl
  have e1 : ∀ (j1 : Nat) (v : Int × Int), laws_szEntS_it1 k a0 a1 [] (j1 + 1) (laws_szEntS_S1 a0 v) = laws_szEntS_L1 k a0 (fun v => laws_szEntS_it1 k a0 a1 [] j1 (laws_szEntS_S1 a0 v)) v := by
    intro j1 v; kernel_rfl
  have i1 : ∀ (j1 : Nat) (v : Int × Int), laws_szEntS_it1 k a0 a1 [] j1 (laws_szEntS_S1 a0 v) = fixN (laws_szEntS_l1 k a0) j1 v := by
    intro j1 v
    refine iter_fix (laws_szEntS_S1 a0) (laws_szEntS_l1 k a0) (fun j1 v => (e1 j1 v).trans ?_) j1 v
    unfold laws_szEntS_l1
    rfl
  rw [e0]; unfold laws_szEntS_u
  simp only [i1]
/- laws.szArr -/
def laws_szArr_u (k : Nat) (a0_0 : Int) (a0_1 : Int) (a0_2 : Int) (a0_3 : List (List T)) (a0_4 : Int) (a0_5 : Int) (a0_6 : Int) (a0_7 : Int) (a0_8 : Int) (a0_9 : List (List T)) (a0_10 : Int) (a0_11 : Bool) (a0_12 : Bool) (a1 : Int) : Option Outs :=
 bindO (evalF E P0 k N.laws_szMemS [.v [.r a0_3], .v [.i a1]]) fun o2 =>
 bif (decide ((o2.t 0).asI < 0)) then
  some ⟨[.i (-1)], []⟩
 else
  bindO (evalF E P0 k N.laws_szEntS [.v [.r a0_9], .v [.i (o2.t 0).asI]]) fun o4 =>
  bif (decide ((o4.t 0).asI < 0)) then some ⟨[.i (-1)], []⟩ else some ⟨[.i (o4.t 0).asI], []⟩
theorem laws_szArr_e (k : Nat) (a0_0 : Int) (a0_1 : Int) (a0_2 : Int) (a0_3 : List (List T)) (a0_4 : Int) (a0_5 : Int) (a0_6 : Int) (a0_7 : Int) (a0_8 : Int) (a0_9 : List (List T)) (a0_10 : Int) (a0_11 : Bool) (a0_12 : Bool) (a1 : Int) : evalF E P0 (k + 1) N.laws_szArr [.v [.i a0_0, .i a0_1, .i a0_2, .r a0_3, .i a0_4, .i a0_5, .i a0_6, .i a0_7, .i a0_8, .r a0_9, .i a0_10, .b a0_11, .b a0_12], .v [.i a1]] = laws_szArr_u k a0_0 a0_1 a0_2 a0_3 a0_4 a0_5 a0_6 a0_7 a0_8 a0_9 a0_10 a0_11 a0_12 a1 := by kernel_rfl
/- laws.szCmdS -/
def laws_szCmdS_L1 (k : Nat) (a0 : List (List T)) (G1 : (Int × Int) → Option Outs) : (Int × Int) → Option Outs := fun (v15, v16) =>
 bif (decide (v16 < (a0.length : Int))) then
  chk (decide (0 ≤ v16) && decide (v16 < (a0.length : Int))) <|
  bindO (evalF E P0 k N.laws_szCmd [.v [.i (at_ a0 v16.toNat 0).asI, .i (at_ a0 v16.toNat 1).asI, .i (at_ a0 v16.toNat 2).asI, .i (at_ a0 v16.toNat 3).asI, .r (at_ a0 v16.toNat 4).asR], .v [.i v15]]) fun o96 =>
  bif (decide ((o96.t 0).asI < 0)) then some ⟨[.i (-1)], []⟩ else G1 ((o96.t 0).asI, (IntKind.wrap .i64 (v16 + 1)))
 else
  some ⟨[.i v15], []⟩
def laws_szCmdS_k1 : List Nat := [0, 1, 4, 5, 26]
def laws_szCmdS_S1 (a0 : List (List T)) : (Int × Int) → St := fun (v15, v16) => ⟨ofSl [(0, .sl 26 a0), (1, .i .i64 v15), (4, .i .i64 0), (5, .i .i64 v16), (26, .skip)], ofMem []⟩
def laws_szCmdS_l1 (k : Nat) (a0 : List (List T)) (G1 : (Int × Int) → Option Outs) : (Int × Int) → Option Outs :=
  laws_szCmdS_L1 k a0 G1
def laws_szCmdS_U (k : Nat) (a0 : List (List T)) (a1 : Int) (R1 : (Int × Int) → Option Outs) : Option Outs :=
 bif (decide ((IntKind.wrap .i64 (a1 - (a0.length : Int))) < 0)) then
  some ⟨[.i (-1)], []⟩
 else
  R1 ((IntKind.wrap .i64 (a1 - (a0.length : Int))), 0)
def laws_szCmdS_u (k : Nat) (a0 : List (List T)) (a1 : Int) : Option Outs :=
  laws_szCmdS_U k a0 a1 (fun v => fixN (laws_szCmdS_l1 k a0) k v)
def laws_szCmdS_it1 (k : Nat) (a0 : List (List T)) (a1 : Int) (js : List Nat) (j : Nat) (s : St) : Option Outs := iter (LB E (evalF E P0 k) k [] N.laws_szCmdS [.sr, .sr, .sr, .sl, .sr, .bl]) [] laws_szCmdS_k1 (LK E (evalF E P0 k) k [] N.laws_szCmdS [.v [.r a0], .v [.i a1]] [.sr, .sr, .sr, .sl, .sr, .bl] js) j s
theorem laws_szCmdS_e (k : Nat) (a0 : List (List T)) (a1 : Int) : evalF E P0 (k + 1) N.laws_szCmdS [.v [.r a0], .v [.i a1]] = laws_szCmdS_u k a0 a1 := by
  have e0 : evalF E P0 (k + 1) N.laws_szCmdS [.v [.r a0], .v [.i a1]] = laws_szCmdS_U k a0 a1 (fun v => laws_szCmdS_it1 k a0 a1 [] k (laws_szCmdS_S1 a0 v)) := by kernel_rfl
  have e1 : ∀ (j1 : Nat) (v : Int × Int), laws_szCmdS_it1 k a0 a1 [] (j1 + 1) (laws_szCmdS_S1 a0 v) = laws_szCmdS_L1 k a0 (fun v => laws_szCmdS_it1 k a0 a1 [] j1 (laws_szCmdS_S1 a0 v)) v := by
    intro j1 v; kernel_rfl
  have i1 : ∀ (j1 : Nat) (v : Int × Int), laws_szCmdS_it1 k a0 a1 [] j1 (laws_szCmdS_S1 a0 v) = fixN (laws_szCmdS_l1 k a0) j1 v := by
    intro j1 v
    refine iter_fix (laws_szCmdS_S1 a0) (laws_szCmdS_l1 k a0) (fun j1 v => (e1 j1 v).trans ?_) j1 v
    unfold laws_szCmdS_l1
    rfl
  rw [e0]; unfold laws_szCmdS_u
  simp only [i1]
/- laws.szJob -/
def laws_szJob_u (k : Nat) (a0_0 : Int) (a0_1 : Int) (a0_2 : Int) (a0_3 : Int) (a0_4 : List (List T)) (a0_5 : Int) (a0_6 : List (List T)) (a0_7 : Int) (a1 : Int) : Option Outs :=
 bindO (evalF E P0 k N.laws_szCmd [.v [.i a0_0, .i a0_1, .i a0_2, .i a0_3, .r a0_4], .v [.i a1]]) fun o2 =>
 bif (decide ((o2.t 0).asI < 0)) then
  some ⟨[.i (-1)], []⟩
 else
  bindO (evalF E P0 k N.laws_szIntS [.v [.r a0_6], .v [.i (o2.t 0).asI]]) fun o4 =>
  bif (decide ((o4.t 0).asI < 0)) then some ⟨[.i (-1)], []⟩ else some ⟨[.i (o4.t 0).asI], []⟩
theorem laws_szJob_e (k : Nat) (a0_0 : Int) (a0_1 : Int) (a0_2 : Int) (a0_3 : Int) (a0_4 : List (List T)) (a0_5 : Int) (a0_6 : List (List T)) (a0_7 : Int) (a1 : Int) : evalF E P0 (k + 1) N.laws_szJob [.v [.i a0_0, .i a0_1, .i a0_2, .i a0_3, .r a0_4, .i a0_5, .r a0_6, .i a0_7], .v [.i a1]] = laws_szJob_u k a0_0 a0_1 a0_2 a0_3 a0_4 a0_5 a0_6 a0_7 a1 := by kernel_rfl
/- laws.szJobS -/
def laws_szJobS_L1 (k : Nat) (a0 : List (List T)) (G1 : (Int × Int) → Option Outs) : (Int × Int) → Option Outs := fun (v15, v16) =>
 bif (decide (v16 < (a0.length : Int))) then
  chk (decide (0 ≤ v16) && decide (v16 < (a0.length : Int))) <|
  bindO (evalF E P0 k N.laws_szJob [.v [.i (at_ a0 v16.toNat 0).asI, .i (at_ a0 v16.toNat 1).asI, .i (at_ a0 v16.toNat 2).asI, .i (at_ a0 v16.toNat 3).asI, .r (at_ a0 v16.toNat 4).asR, .i (at_ a0 v16.toNat 5).asI, .r (at_ a0 v16.toNat 6).asR, .i (at_ a0 v16.toNat 7).asI], .v [.i v15]]) fun o96 =>
  bif (decide ((o96.t 0).asI < 0)) then some ⟨[.i (-1)], []⟩ else G1 ((o96.t 0).asI, (IntKind.wrap .i64 (v16 + 1)))
 else
  some ⟨[.i v15], []⟩
def laws_szJobS_k1 : List Nat := [0, 1, 4, 5, 26]
def laws_szJobS_S1 (a0 : List (List T)) : (Int × Int) → St := fun (v15, v16) => ⟨ofSl [(0, .sl 130 a0), (1, .i .i64 v15), (4, .i .i64 0), (5, .i .i64 v16), (26, .skip)], ofMem []⟩
def laws_szJobS_l1 (k : Nat) (a0 : List (List T)) (G1 : (Int × Int) → Option Outs) : (Int × Int) → Option Outs :=
  laws_szJobS_L1 k a0 G1
def laws_szJobS_U (k : Nat) (a0 : List (List T)) (a1 : Int) (R1 : (Int × Int) → Option Outs) : Option Outs :=
 bif (decide ((IntKind.wrap .i64 (a1 - (a0.length : Int))) < 0)) then
  some ⟨[.i (-1)], []⟩
 else
  R1 ((IntKind.wrap .i64 (a1 - (a0.length : Int))), 0)
def laws_szJobS_u (k : Nat) (a0 : List (List T)) (a1 : Int) : Option Outs :=
  laws_szJobS_U k a0 a1 (fun v => fixN (laws_szJobS_l1 k a0) k v)
def laws_szJobS_it1 (k : Nat) (a0 : List (List T)) (a1 : Int) (js : List Nat) (j : Nat) (s : St) : Option Outs := iter (LB E (evalF E P0 k) k [] N.laws_szJobS [.sr, .sr, .sr, .sl, .sr, .bl]) [] laws_szJobS_k1 (LK E (evalF E P0 k) k [] N.laws_szJobS [.v [.r a0], .v [.i a1]] [.sr, .sr, .sr, .sl, .sr, .bl] js) j s
theorem laws_szJobS_e (k : Nat) (a0 : List (List T)) (a1 : Int) : evalF E P0 (k + 1) N.laws_szJobS [.v [.r a0], .v [.i a1]] = laws_szJobS_u k a0 a1 := by
  have e0 : evalF E P0 (k + 1) N.laws_szJobS [.v [.r a0], .v [.i a1]] = laws_szJobS_U k a0 a1 (fun v => laws_szJobS_it1 k a0 a1 [] k (laws_szJobS_S1 a0 v)) := by kernel_rfl
  have e1 : ∀ (j1 : Nat) (v : Int × Int), laws_szJobS_it1 k a0 a1 [] (j1 + 1) (laws_szJobS_S1 a0 v) = laws_szJobS_L1 k a0 (fun v => laws_szJobS_it1 k a0 a1 [] j1 (laws_szJobS_S1 a0 v)) v := by
    intro j1 v; kernel_rfl
  have i1 : ∀ (j1 : Nat) (v : Int × Int), laws_szJobS_it1 k a0 a1 [] j1 (laws_szJobS_S1 a0 v) = fixN (laws_szJobS_l1 k a0) j1 v := by
    intro j1 v
    refine iter_fix (laws_szJobS_S1 a0) (laws_szJobS_l1 k a0) (fun j1 v => (e1 j1 v).trans ?_) j1 v
    unfold laws_szJobS_l1
    rfl
  rw [e0]; unfold laws_szJobS_u
  simp only [i1]
/- laws.szAnsS -/
def laws_szAnsS_L1 (k : Nat) (a0 : List (List T)) (G1 : (Int × Int) → Option Outs) : (Int × Int) → Option Outs := fun (v15, v16) =>
 bif (decide (v16 < (a0.length : Int))) then
  chk (decide (0 ≤ v16) && decide (v16 < (a0.length : Int))) <|
  bindO (evalF E P0 k N.laws_szAns [.v [.i (at_ a0 v16.toNat 0).asI, .i (at_ a0 v16.toNat 1).asI, .r (at_ a0 v16.toNat 2).asR], .v [.i v15]]) fun o96 =>
  bif (decide ((o96.t 0).asI < 0)) then some ⟨[.i (-1)], []⟩ else G1 ((o96.t 0).asI, (IntKind.wrap .i64 (v16 + 1)))
 else
  some ⟨[.i v15], []⟩
def laws_szAnsS_k1 : List Nat := [0, 1, 4, 5, 26]
def laws_szAnsS_S1 (a0 : List (List T)) : (Int × Int) → St := fun (v15, v16) => ⟨ofSl [(0, .sl 80 a0), (1, .i .i64 v15), (4, .i .i64 0), (5, .i .i64 v16), (26, .skip)], ofMem []⟩
def laws_szAnsS_l1 (k : Nat) (a0 : List (List T)) (G1 : (Int × Int) → Option Outs) : (Int × Int) → Option Outs :=
  laws_szAnsS_L1 k a0 G1
def laws_szAnsS_U (k : Nat) (a0 : List (List T)) (a1 : Int) (R1 : (Int × Int) → Option Outs) : Option Outs :=
 bif (decide ((IntKind.wrap .i64 (a1 - (a0.length : Int))) < 0)) then
  some ⟨[.i (-1)], []⟩
 else
  R1 ((IntKind.wrap .i64 (a1 - (a0.length : Int))), 0)
def laws_szAnsS_u (k : Nat) (a0 : List (List T)) (a1 : Int) : Option Outs :=
  laws_szAnsS_U k a0 a1 (fun v => fixN (laws_szAnsS_l1 k a0) k v)
def laws_szAnsS_it1 (k : Nat) (a0 : List (List T)) (a1 : Int) (js : List Nat) (j : Nat) (s : St) : Option Outs := iter (LB E (evalF E P0 k) k [] N.laws_szAnsS [.sr, .sr, .sr, .sl, .sr, .bl]) [] laws_szAnsS_k1 (LK E (evalF E P0 k) k [] N.laws_szAnsS [.v [.r a0], .v [.i a1]] [.sr, .sr, .sr, .sl, .sr, .bl] js) j s
theorem laws_szAnsS_e (k : Nat) (a0 : List (List T)) (a1 : Int) : evalF E P0 (k + 1) N.laws_szAnsS [.v [.r a0], .v [.i a1]] = laws_szAnsS_u k a0 a1 := by
  have e0 : evalF E P0 (k + 1) N.laws_szAnsS [.v [.r a0], .v [.i a1]] = laws_szAnsS_U k a0 a1 (fun v => laws_szAnsS_it1 k a0 a1 [] k (laws_szAnsS_S1 a0 v)) := by kernel_rfl
  have e1 : ∀ (j1 : Nat) (v : Int × Int), laws_szAnsS_it1 k a0 a1 [] (j1 + 1) (laws_szAnsS_S1 a0 v) = laws_szAnsS_L1 k a0 (fun v => laws_szAnsS_it1 k a0 a1 [] j1 (laws_szAnsS_S1 a0 v)) v := by
    intro j1 v; kernel_rfl
  have i1 : ∀ (j1 : Nat) (v : Int × Int), laws_szAnsS_it1 k a0 a1 [] j1 (laws_szAnsS_S1 a0 v) = fixN (laws_szAnsS_l1 k a0) j1 v := by
    intro j1 v
    refine iter_fix (laws_szAnsS_S1 a0) (laws_szAnsS_l1 k a0) (fun j1 v => (e1 j1 v).trans ?_) j1 v
    unfold laws_szAnsS_l1
    rfl
  rw [e0]; unfold laws_szAnsS_u
  simp only [i1]
/- laws.szEng -/
def laws_szEng_u (k : Nat) (a0_0 : Int) (a0_1 : Int) (a0_2 : Int) (a0_3 : List (List T)) (a0_4 : Int) (a0_5 : Int) (a0_6 : Int) (a0_7 : Int) (a0_8 : Int) (a0_9 : List (List T)) (a0_10 : Int) (a0_11 : Bool) (a0_12 : Bool) (a0_13 : List (List T)) (a0_14 : List (List T)) (a0_15 : List (List T)) (a0_16 : List (List T)) (a1 : Int) : Option Outs :=
 bindO (evalF E P0 k N.laws_szArr [.v [.i a0_0, .i a0_1, .i a0_2, .r a0_3, .i a0_4, .i a0_5, .i a0_6, .i a0_7, .i a0_8, .r a0_9, .i a0_10, .b a0_11, .b a0_12], .v [.i a1]]) fun o2 =>
 bif (decide ((o2.t 0).asI < 0)) then
  some ⟨[.i (-1)], []⟩
 else
  bindO (evalF E P0 k N.laws_szCmdS [.v [.r a0_13], .v [.i (o2.t 0).asI]]) fun o4 =>
  bif (decide ((o4.t 0).asI < 0)) then
   some ⟨[.i (-1)], []⟩
  else
   bindO (evalF E P0 k N.laws_szJobS [.v [.r a0_14], .v [.i (o4.t 0).asI]]) fun o6 =>
   bif (decide ((o6.t 0).asI < 0)) then
    some ⟨[.i (-1)], []⟩
   else
    bindO (evalF E P0 k N.laws_szAnsS [.v [.r a0_15], .v [.i (o6.t 0).asI]]) fun o8 =>
    bif (decide ((o8.t 0).asI < 0)) then
     some ⟨[.i (-1)], []⟩
    else
     bindO (evalF E P0 k N.laws_szTurnS [.v [.r a0_16], .v [.i (o8.t 0).asI]]) fun o10 =>
     bif (decide ((o10.t 0).asI < 0)) then some ⟨[.i (-1)], []⟩ else some ⟨[.i (o10.t 0).asI], []⟩
theorem laws_szEng_e (k : Nat) (a0_0 : Int) (a0_1 : Int) (a0_2 : Int) (a0_3 : List (List T)) (a0_4 : Int) (a0_5 : Int) (a0_6 : Int) (a0_7 : Int) (a0_8 : Int) (a0_9 : List (List T)) (a0_10 : Int) (a0_11 : Bool) (a0_12 : Bool) (a0_13 : List (List T)) (a0_14 : List (List T)) (a0_15 : List (List T)) (a0_16 : List (List T)) (a1 : Int) : evalF E P0 (k + 1) N.laws_szEng [.v [.i a0_0, .i a0_1, .i a0_2, .r a0_3, .i a0_4, .i a0_5, .i a0_6, .i a0_7, .i a0_8, .r a0_9, .i a0_10, .b a0_11, .b a0_12, .r a0_13, .r a0_14, .r a0_15, .r a0_16], .v [.i a1]] = laws_szEng_u k a0_0 a0_1 a0_2 a0_3 a0_4 a0_5 a0_6 a0_7 a0_8 a0_9 a0_10 a0_11 a0_12 a0_13 a0_14 a0_15 a0_16 a1 := by kernel_rfl
/- laws.toIntSS -/
def laws_toIntSS_L1 (k : Nat) (a0 : List (List T)) (G1 : (Int × List (List T)) → Option Outs) : (Int × List (List T)) → Option Outs := fun (v8, w8) =>
 bif (decide (v8 < (a0.length : Int))) then
  chk (decide (0 ≤ v8) && decide (v8 < (a0.length : Int))) <|
  bindO (evalF E P0 k N.laws_toIntS [.v [.r (at_ a0 v8.toNat 0).asR]]) fun o48 =>
  chk (decide (0 ≤ v8) && decide (v8 < (w8.length : Int))) <|
  G1 ((IntKind.wrap .i64 (v8 + 1)), (put_ w8 v8.toNat 0 [.r (o48.t 0).asR]))
 else
  some ⟨[.r w8], []⟩
def laws_toIntSS_k1 : List Nat := [0, 2, 3, 4, 22]
def laws_toIntSS_S1 (a0 : List (List T)) : (Int × List (List T)) → St := fun (v8, w8) => ⟨ofSl [(0, .sl 24 a0), (2, .ref (2, 0)), (3, .ref (3, 0)), (4, .i .i64 v8), (22, .skip)], ofMem [((2, 0), .row 24 true []), ((3, 0), .row 24 true w8)]⟩
def laws_toIntSS_l1 (k : Nat) (a0 : List (List T)) (G1 : (Int × List (List T)) → Option Outs) : (Int × List (List T)) → Option Outs :=
  laws_toIntSS_L1 k a0 G1
def laws_toIntSS_U (k : Nat) (a0 : List (List T)) (R1 : (Int × List (List T)) → Option Outs) : Option Outs :=
 chk (decide ((a0.length : Int) = (a0.length : Int)) && decide (0 ≤ (a0.length : Int)) && decide ((a0.length : Int) * ((24 : Nat) : Int) ≤ 140737488355328)) <|
 R1 (0, (List.replicate ((a0.length : Int) : Int).toNat [.r []]))
def laws_toIntSS_u (k : Nat) (a0 : List (List T)) : Option Outs :=
  laws_toIntSS_U k a0 (fun v => fixN (laws_toIntSS_l1 k a0) k v)
def laws_toIntSS_it1 (k : Nat) (a0 : List (List T)) (js : List Nat) (j : Nat) (s : St) : Option Outs := iter (LB E (evalF E P0 k) k [] N.laws_toIntSS [.sr, .sr, .sl, .sr, .bl]) [] laws_toIntSS_k1 (LK E (evalF E P0 k) k [] N.laws_toIntSS [.v [.r a0]] [.sr, .sr, .sl, .sr, .bl] js) j s
theorem laws_toIntSS_e (k : Nat) (a0 : List (List T)) : evalF E P0 (k + 1) N.laws_toIntSS [.v [.r a0]] = laws_toIntSS_u k a0 := by
  have e0 : evalF E P0 (k + 1) N.laws_toIntSS [.v [.r a0]] = laws_toIntSS_U k a0 (fun v => laws_toIntSS_it1 k a0 [] k (laws_toIntSS_S1 a0 v)) := by kernel_rfl
  have e1 : ∀ (j1 : Nat) (v : Int × List (List T)), laws_toIntSS_it1 k a0 [] (j1 + 1) (laws_toIntSS_S1 a0 v) = laws_toIntSS_L1 k a0 (fun v => laws_toIntSS_it1 k a0 [] j1 (laws_toIntSS_S1 a0 v)) v := by
    intro j1 v; kernel_rfl
  have i1 : ∀ (j1 : Nat) (v : Int × List (List T)), laws_toIntSS_it1 k a0 [] j1 (laws_toIntSS_S1 a0 v) = fixN (laws_toIntSS_l1 k a0) j1 v := by
    intro j1 v
    refine iter_fix (laws_toIntSS_S1 a0) (laws_toIntSS_l1 k a0) (fun j1 v => (e1 j1 v).trans ?_) j1 v
    unfold laws_toIntSS_l1
    rfl
  rw [e0]; unfold laws_toIntSS_u
  simp only [i1]
/- laws.toWr -/
def laws_toWr_u (k : Nat) (a0_0 : Int) (a0_1 : List (List T)) : Option Outs :=
 bindO (evalF E P0 k N.laws_toIntS [.v [.r a0_1]]) fun o2 =>
 some ⟨[.i a0_0, .r (o2.t 0).asR], []⟩
theorem laws_toWr_e (k : Nat) (a0_0 : Int) (a0_1 : List (List T)) : evalF E P0 (k + 1) N.laws_toWr [.v [.i a0_0, .r a0_1]] = laws_toWr_u k a0_0 a0_1 := by kernel_rfl
/- laws.toWrS -/
def laws_toWrS_L1 (k : Nat) (a0 : List (List T)) (G1 : (Int × List (List T)) → Option Outs) : (Int × List (List T)) → Option Outs := fun (v8, w8) =>
 bif (decide (v8 < (a0.length : Int))) then
  chk (decide (0 ≤ v8) && decide (v8 < (a0.length : Int))) <|
  bindO (evalF E P0 k N.laws_toWr [.v [.i (at_ a0 v8.toNat 0).asI, .r (at_ a0 v8.toNat 1).asR]]) fun o48 =>
  chk (decide (0 ≤ v8) && decide (v8 < (w8.length : Int))) <|
  G1 ((IntKind.wrap .i64 (v8 + 1)), (put_ w8 v8.toNat 0 [.i (o48.t 0).asI, .r (o48.t 1).asR]))
 else
  some ⟨[.r w8], []⟩
def laws_toWrS_k1 : List Nat := [0, 2, 3, 4, 22]
def laws_toWrS_S1 (a0 : List (List T)) : (Int × List (List T)) → St := fun (v8, w8) => ⟨ofSl [(0, .sl 171 a0), (2, .ref (2, 0)), (3, .ref (3, 0)), (4, .i .i64 v8), (22, .skip)], ofMem [((2, 0), .row 162 true []), ((3, 0), .row 162 true w8)]⟩
def laws_toWrS_l1 (k : Nat) (a0 : List (List T)) (G1 : (Int × List (List T)) → Option Outs) : (Int × List (List T)) → Option Outs :=
  laws_toWrS_L1 k a0 G1
def laws_toWrS_U (k : Nat) (a0 : List (List T)) (R1 : (Int × List (List T)) → Option Outs) : Option Outs :=
 chk (decide ((a0.length : Int) = (a0.length : Int)) && decide (0 ≤ (a0.length : Int)) && decide ((a0.length : Int) * ((32 : Nat) : Int) ≤ 140737488355328)) <|
 R1 (0, (List.replicate ((a0.length : Int) : Int).toNat [.i 0, .r []]))
def laws_toWrS_u (k : Nat) (a0 : List (List T)) : Option Outs :=
  laws_toWrS_U k a0 (fun v => fixN (laws_toWrS_l1 k a0) k v)
def laws_toWrS_it1 (k : Nat) (a0 : List (List T)) (js : List Nat) (j : Nat) (s : St) : Option Outs := iter (LB E (evalF E P0 k) k [] N.laws_toWrS [.sr, .sr, .sl, .sr, .bl]) [] laws_toWrS_k1 (LK E (evalF E P0 k) k [] N.laws_toWrS [.v [.r a0]] [.sr, .sr, .sl, .sr, .bl] js) j s
theorem laws_toWrS_e (k : Nat) (a0 : List (List T)) : evalF E P0 (k + 1) N.laws_toWrS [.v [.r a0]] = laws_toWrS_u k a0 := by
  have e0 : evalF E P0 (k + 1) N.laws_toWrS [.v [.r a0]] = laws_toWrS_U k a0 (fun v => laws_toWrS_it1 k a0 [] k (laws_toWrS_S1 a0 v)) := by kernel_rfl
  have e1 : ∀ (j1 : Nat) (v : Int × List (List T)), laws_toWrS_it1 k a0 [] (j1 + 1) (laws_toWrS_S1 a0 v) = laws_toWrS_L1 k a0 (fun v => laws_toWrS_it1 k a0 [] j1 (laws_toWrS_S1 a0 v)) v := by
    intro j1 v; kernel_rfl
  have i1 : ∀ (j1 : Nat) (v : Int × List (List T)), laws_toWrS_it1 k a0 [] j1 (laws_toWrS_S1 a0 v) = fixN (laws_toWrS_l1 k a0) j1 v := by
    intro j1 v
    refine iter_fix (laws_toWrS_S1 a0) (laws_toWrS_l1 k a0) (fun j1 v => (e1 j1 v).trans ?_) j1 v
    unfold laws_toWrS_l1
    rfl
  rw [e0]; unfold laws_toWrS_u
  simp only [i1]
/- laws.toMem -/
def laws_toMem_u (k : Nat) (a0_0 : List (List T)) (a0_1 : List (List T)) (a0_2 : Bool) (a0_3 : List (List T)) : Option Outs :=
 bindO (evalF E P0 k N.laws_toIntSS [.v [.r a0_0]]) fun o2 =>
 bindO (evalF E P0 k N.laws_toWrS [.v [.r a0_1]]) fun o4 =>
 bindO (evalF E P0 k N.laws_toIntS [.v [.r a0_3]]) fun o6 =>
 some ⟨[.r (o2.t 0).asR, .r (o4.t 0).asR, .b a0_2, .r (o6.t 0).asR], []⟩
theorem laws_toMem_e (k : Nat) (a0_0 : List (List T)) (a0_1 : List (List T)) (a0_2 : Bool) (a0_3 : List (List T)) : evalF E P0 (k + 1) N.laws_toMem [.v [.r a0_0, .r a0_1, .b a0_2, .r a0_3]] = laws_toMem_u k a0_0 a0_1 a0_2 a0_3 := by kernel_rfl
/- laws.toMemS -/
def laws_toMemS_L1 (k : Nat) (a0 : List (List T)) (G1 : (Int × List (List T)) → Option Outs) : (Int × List (List T)) → Option Outs := fun (v8, w8) =>
 bif (decide (v8 < (a0.length : Int))) then
  chk (decide (0 ≤ v8) && decide (v8 < (a0.length : Int))) <|
  bindO (evalF E P0 k N.laws_toMem [.v [.r (at_ a0 v8.toNat 0).asR, .r (at_ a0 v8.toNat 1).asR, .b (at_ a0 v8.toNat 2).asB, .r (at_ a0 v8.toNat 3).asR]]) fun o48 =>
  chk (decide (0 ≤ v8) && decide (v8 < (w8.length : Int))) <|
  G1 ((IntKind.wrap .i64 (v8 + 1)), (put_ w8 v8.toNat 0 [.r (o48.t 0).asR, .r (o48.t 1).asR, .b (o48.t 2).asB, .r (o48.t 3).asR]))
 else
  some ⟨[.r w8], []⟩
def laws_toMemS_k1 : List Nat := [0, 2, 3, 4, 22]
def laws_toMemS_S1 (a0 : List (List T)) : (Int × List (List T)) → St := fun (v8, w8) => ⟨ofSl [(0, .sl 150 a0), (2, .ref (2, 0)), (3, .ref (3, 0)), (4, .i .i64 v8), (22, .skip)], ofMem [((2, 0), .row 143 true []), ((3, 0), .row 143 true w8)]⟩
def laws_toMemS_l1 (k : Nat) (a0 : List (List T)) (G1 : (Int × List (List T)) → Option Outs) : (Int × List (List T)) → Option Outs :=
  laws_toMemS_L1 k a0 G1
def laws_toMemS_U (k : Nat) (a0 : List (List T)) (R1 : (Int × List (List T)) → Option Outs) : Option Outs :=
 chk (decide ((a0.length : Int) = (a0.length : Int)) && decide (0 ≤ (a0.length : Int)) && decide ((a0.length : Int) * ((80 : Nat) : Int) ≤ 140737488355328)) <|
 R1 (0, (List.replicate ((a0.length : Int) : Int).toNat [.r [], .r [], .b false, .r []]))
def laws_toMemS_u (k : Nat) (a0 : List (List T)) : Option Outs :=
  laws_toMemS_U k a0 (fun v => fixN (laws_toMemS_l1 k a0) k v)
def laws_toMemS_it1 (k : Nat) (a0 : List (List T)) (js : List Nat) (j : Nat) (s : St) : Option Outs := iter (LB E (evalF E P0 k) k [] N.laws_toMemS [.sr, .sr, .sl, .sr, .bl]) [] laws_toMemS_k1 (LK E (evalF E P0 k) k [] N.laws_toMemS [.v [.r a0]] [.sr, .sr, .sl, .sr, .bl] js) j s
theorem laws_toMemS_e (k : Nat) (a0 : List (List T)) : evalF E P0 (k + 1) N.laws_toMemS [.v [.r a0]] = laws_toMemS_u k a0 := by
  have e0 : evalF E P0 (k + 1) N.laws_toMemS [.v [.r a0]] = laws_toMemS_U k a0 (fun v => laws_toMemS_it1 k a0 [] k (laws_toMemS_S1 a0 v)) := by kernel_rfl
  have e1 : ∀ (j1 : Nat) (v : Int × List (List T)), laws_toMemS_it1 k a0 [] (j1 + 1) (laws_toMemS_S1 a0 v) = laws_toMemS_L1 k a0 (fun v => laws_toMemS_it1 k a0 [] j1 (laws_toMemS_S1 a0 v)) v := by
    intro j1 v; kernel_rfl
  have i1 : ∀ (j1 : Nat) (v : Int × List (List T)), laws_toMemS_it1 k a0 [] j1 (laws_toMemS_S1 a0 v) = fixN (laws_toMemS_l1 k a0) j1 v := by
    intro j1 v
    refine iter_fix (laws_toMemS_S1 a0) (laws_toMemS_l1 k a0) (fun j1 v => (e1 j1 v).trans ?_) j1 v
    unfold laws_toMemS_l1
    rfl
  rw [e0]; unfold laws_toMemS_u
  simp only [i1]
/- laws.toEnt -/
def laws_toEnt_u (k : Nat) (a0_0 : Int) (a0_1 : List (List T)) : Option Outs :=
 bindO (evalF E P0 k N.laws_toIntS [.v [.r a0_1]]) fun o2 =>
 some ⟨[.i a0_0, .r (o2.t 0).asR], []⟩
theorem laws_toEnt_e (k : Nat) (a0_0 : Int) (a0_1 : List (List T)) : evalF E P0 (k + 1) N.laws_toEnt [.v [.i a0_0, .r a0_1]] = laws_toEnt_u k a0_0 a0_1 := by kernel_rfl
/- laws.toEntS -/
def laws_toEntS_L1 (k : Nat) (a0 : List (List T)) (G1 : (Int × List (List T)) → Option Outs) : (Int × List (List T)) → Option Outs := fun (v8, w8) =>
 bif (decide (v8 < (a0.length : Int))) then
  chk (decide (0 ≤ v8) && decide (v8 < (a0.length : Int))) <|
  bindO (evalF E P0 k N.laws_toEnt [.v [.i (at_ a0 v8.toNat 0).asI, .r (at_ a0 v8.toNat 1).asR]]) fun o48 =>
  chk (decide (0 ≤ v8) && decide (v8 < (w8.length : Int))) <|
  G1 ((IntKind.wrap .i64 (v8 + 1)), (put_ w8 v8.toNat 0 [.i (o48.t 0).asI, .r (o48.t 1).asR]))
 else
  some ⟨[.r w8], []⟩
def laws_toEntS_k1 : List Nat := [0, 2, 3, 4, 22]
def laws_toEntS_S1 (a0 : List (List T)) : (Int × List (List T)) → St := fun (v8, w8) => ⟨ofSl [(0, .sl 153 a0), (2, .ref (2, 0)), (3, .ref (3, 0)), (4, .i .i64 v8), (22, .skip)], ofMem [((2, 0), .row 155 true []), ((3, 0), .row 155 true w8)]⟩
def laws_toEntS_l1 (k : Nat) (a0 : List (List T)) (G1 : (Int × List (List T)) → Option Outs) : (Int × List (List T)) → Option Outs :=
  laws_toEntS_L1 k a0 G1
def laws_toEntS_U (k : Nat) (a0 : List (List T)) (R1 : (Int × List (List T)) → Option Outs) : Option Outs :=
 chk (decide ((a0.length : Int) = (a0.length : Int)) && decide (0 ≤ (a0.length : Int)) && decide ((a0.length : Int) * ((32 : Nat) : Int) ≤ 140737488355328)) <|
 R1 (0, (List.replicate ((a0.length : Int) : Int).toNat [.i 0, .r []]))
def laws_toEntS_u (k : Nat) (a0 : List (List T)) : Option Outs :=
  laws_toEntS_U k a0 (fun v => fixN (laws_toEntS_l1 k a0) k v)
def laws_toEntS_it1 (k : Nat) (a0 : List (List T)) (js : List Nat) (j : Nat) (s : St) : Option Outs := iter (LB E (evalF E P0 k) k [] N.laws_toEntS [.sr, .sr, .sl, .sr, .bl]) [] laws_toEntS_k1 (LK E (evalF E P0 k) k [] N.laws_toEntS [.v [.r a0]] [.sr, .sr, .sl, .sr, .bl] js) j s
theorem laws_toEntS_e (k : Nat) (a0 : List (List T)) : evalF E P0 (k + 1) N.laws_toEntS [.v [.r a0]] = laws_toEntS_u k a0 := by
  have e0 : evalF E P0 (k + 1) N.laws_toEntS [.v [.r a0]] = laws_toEntS_U k a0 (fun v => laws_toEntS_it1 k a0 [] k (laws_toEntS_S1 a0 v)) := by kernel_rfl
  have e1 : ∀ (j1 : Nat) (v : Int × List (List T)), laws_toEntS_it1 k a0 [] (j1 + 1) (laws_toEntS_S1 a0 v) = laws_toEntS_L1 k a0 (fun v => laws_toEntS_it1 k a0 [] j1 (laws_toEntS_S1 a0 v)) v := by
    intro j1 v; kernel_rfl
  have i1 : ∀ (j1 : Nat) (v : Int × List (List T)), laws_toEntS_it1 k a0 [] j1 (laws_toEntS_S1 a0 v) = fixN (laws_toEntS_l1 k a0) j1 v := by
    intro j1 v
    refine iter_fix (laws_toEntS_S1 a0) (laws_toEntS_l1 k a0) (fun j1 v => (e1 j1 v).trans ?_) j1 v
    unfold laws_toEntS_l1
    rfl
  rw [e0]; unfold laws_toEntS_u
  simp only [i1]
/- laws.toArr -/
def laws_toArr_u (k : Nat) (a0_0 : Int) (a0_1 : Int) (a0_2 : Int) (a0_3 : List (List T)) (a0_4 : Int) (a0_5 : Int) (a0_6 : Int) (a0_7 : Int) (a0_8 : Int) (a0_9 : List (List T)) (a0_10 : Int) (a0_11 : Bool) (a0_12 : Bool) : Option Outs :=
 bindO (evalF E P0 k N.laws_toGeo [.v [.i a0_1, .i a0_2]]) fun o2 =>
 bindO (evalF E P0 k N.laws_toMemS [.v [.r a0_3]]) fun o4 =>
 bindO (evalF E P0 k N.laws_toEntS [.v [.r a0_9]]) fun o6 =>
 some ⟨[.i a0_0, .i (o2.t 0).asI, .i (o2.t 1).asI, .r (o4.t 0).asR, .i a0_4, .i a0_5, .i a0_6, .i a0_7, .i a0_8, .r (o6.t 0).asR, .i a0_10, .b a0_11, .b a0_12], []⟩
theorem laws_toArr_e (k : Nat) (a0_0 : Int) (a0_1 : Int) (a0_2 : Int) (a0_3 : List (List T)) (a0_4 : Int) (a0_5 : Int) (a0_6 : Int) (a0_7 : Int) (a0_8 : Int) (a0_9 : List (List T)) (a0_10 : Int) (a0_11 : Bool) (a0_12 : Bool) : evalF E P0 (k + 1) N.laws_toArr [.v [.i a0_0, .i a0_1, .i a0_2, .r a0_3, .i a0_4, .i a0_5, .i a0_6, .i a0_7, .i a0_8, .r a0_9, .i a0_10, .b a0_11, .b a0_12]] = laws_toArr_u k a0_0 a0_1 a0_2 a0_3 a0_4 a0_5 a0_6 a0_7 a0_8 a0_9 a0_10 a0_11 a0_12 := by kernel_rfl
/- laws.toCmdS -/
def laws_toCmdS_L1 (k : Nat) (a0 : List (List T)) (G1 : (Int × List (List T)) → Option Outs) : (Int × List (List T)) → Option Outs := fun (v8, w8) =>
 bif (decide (v8 < (a0.length : Int))) then
  chk (decide (0 ≤ v8) && decide (v8 < (a0.length : Int))) <|
  bindO (evalF E P0 k N.laws_toCmd [.v [.i (at_ a0 v8.toNat 0).asI, .i (at_ a0 v8.toNat 1).asI, .i (at_ a0 v8.toNat 2).asI, .i (at_ a0 v8.toNat 3).asI, .r (at_ a0 v8.toNat 4).asR]]) fun o48 =>
  chk (decide (0 ≤ v8) && decide (v8 < (w8.length : Int))) <|
  G1 ((IntKind.wrap .i64 (v8 + 1)), (put_ w8 v8.toNat 0 [.i (o48.t 0).asI, .i (o48.t 1).asI, .i (o48.t 2).asI, .i (o48.t 3).asI, .r (o48.t 4).asR]))
 else
  some ⟨[.r w8], []⟩
def laws_toCmdS_k1 : List Nat := [0, 2, 3, 4, 22]
def laws_toCmdS_S1 (a0 : List (List T)) : (Int × List (List T)) → St := fun (v8, w8) => ⟨ofSl [(0, .sl 26 a0), (2, .ref (2, 0)), (3, .ref (3, 0)), (4, .i .i64 v8), (22, .skip)], ofMem [((2, 0), .row 31 true []), ((3, 0), .row 31 true w8)]⟩
def laws_toCmdS_l1 (k : Nat) (a0 : List (List T)) (G1 : (Int × List (List T)) → Option Outs) : (Int × List (List T)) → Option Outs :=
  laws_toCmdS_L1 k a0 G1
def laws_toCmdS_U (k : Nat) (a0 : List (List T)) (R1 : (Int × List (List T)) → Option Outs) : Option Outs :=
 chk (decide ((a0.length : Int) = (a0.length : Int)) && decide (0 ≤ (a0.length : Int)) && decide ((a0.length : Int) * ((56 : Nat) : Int) ≤ 140737488355328)) <|
 R1 (0, (List.replicate ((a0.length : Int) : Int).toNat [.i 0, .i 0, .i 0, .i 0, .r []]))
def laws_toCmdS_u (k : Nat) (a0 : List (List T)) : Option Outs :=
  laws_toCmdS_U k a0 (fun v => fixN (laws_toCmdS_l1 k a0) k v)
def laws_toCmdS_it1 (k : Nat) (a0 : List (List T)) (js : List Nat) (j : Nat) (s : St) : Option Outs := iter (LB E (evalF E P0 k) k [] N.laws_toCmdS [.sr, .sr, .sl, .sr, .bl]) [] laws_toCmdS_k1 (LK E (evalF E P0 k) k [] N.laws_toCmdS [.v [.r a0]] [.sr, .sr, .sl, .sr, .bl] js) j s
theorem laws_toCmdS_e (k : Nat) (a0 : List (List T)) : evalF E P0 (k + 1) N.laws_toCmdS [.v [.r a0]] = laws_toCmdS_u k a0 := by
  have e0 : evalF E P0 (k + 1) N.laws_toCmdS [.v [.r a0]] = laws_toCmdS_U k a0 (fun v => laws_toCmdS_it1 k a0 [] k (laws_toCmdS_S1 a0 v)) := by kernel_rfl
  have e1 : ∀ (j1 : Nat) (v : Int × List (List T)), laws_toCmdS_it1 k a0 [] (j1 + 1) (laws_toCmdS_S1 a0 v) = laws_toCmdS_L1 k a0 (fun v => laws_toCmdS_it1 k a0 [] j1 (laws_toCmdS_S1 a0 v)) v := by
    intro j1 v; kernel_rfl
  have i1 : ∀ (j1 : Nat) (v : Int × List (List T)), laws_toCmdS_it1 k a0 [] j1 (laws_toCmdS_S1 a0 v) = fixN (laws_toCmdS_l1 k a0) j1 v := by
    intro j1 v
    refine iter_fix (laws_toCmdS_S1 a0) (laws_toCmdS_l1 k a0) (fun j1 v => (e1 j1 v).trans ?_) j1 v
    unfold laws_toCmdS_l1
    rfl
  rw [e0]; unfold laws_toCmdS_u
  simp only [i1]
/- laws.toJob -/
def laws_toJob_u (k : Nat) (a0_0 : Int) (a0_1 : Int) (a0_2 : Int) (a0_3 : Int) (a0_4 : List (List T)) (a0_5 : Int) (a0_6 : List (List T)) (a0_7 : Int) : Option Outs :=
 bindO (evalF E P0 k N.laws_toCmd [.v [.i a0_0, .i a0_1, .i a0_2, .i a0_3, .r a0_4]]) fun o2 =>
 bindO (evalF E P0 k N.laws_toIntS [.v [.r a0_6]]) fun o4 =>
 some ⟨[.i (o2.t 0).asI, .i (o2.t 1).asI, .i (o2.t 2).asI, .i (o2.t 3).asI, .r (o2.t 4).asR, .i a0_5, .r (o4.t 0).asR, .i a0_7], []⟩
theorem laws_toJob_e (k : Nat) (a0_0 : Int) (a0_1 : Int) (a0_2 : Int) (a0_3 : Int) (a0_4 : List (List T)) (a0_5 : Int) (a0_6 : List (List T)) (a0_7 : Int) : evalF E P0 (k + 1) N.laws_toJob [.v [.i a0_0, .i a0_1, .i a0_2, .i a0_3, .r a0_4, .i a0_5, .r a0_6, .i a0_7]] = laws_toJob_u k a0_0 a0_1 a0_2 a0_3 a0_4 a0_5 a0_6 a0_7 := by kernel_rfl
/- laws.toJobS -/
def laws_toJobS_L1 (k : Nat) (a0 : List (List T)) (G1 : (Int × List (List T)) → Option Outs) : (Int × List (List T)) → Option Outs := fun (v8, w8) =>
 bif (decide (v8 < (a0.length : Int))) then
  chk (decide (0 ≤ v8) && decide (v8 < (a0.length : Int))) <|
  bindO (evalF E P0 k N.laws_toJob [.v [.i (at_ a0 v8.toNat 0).asI, .i (at_ a0 v8.toNat 1).asI, .i (at_ a0 v8.toNat 2).asI, .i (at_ a0 v8.toNat 3).asI, .r (at_ a0 v8.toNat 4).asR, .i (at_ a0 v8.toNat 5).asI, .r (at_ a0 v8.toNat 6).asR, .i (at_ a0 v8.toNat 7).asI]]) fun o48 =>
  chk (decide (0 ≤ v8) && decide (v8 < (w8.length : Int))) <|
  G1 ((IntKind.wrap .i64 (v8 + 1)), (put_ w8 v8.toNat 0 [.i (o48.t 0).asI, .i (o48.t 1).asI, .i (o48.t 2).asI, .i (o48.t 3).asI, .r (o48.t 4).asR, .i (o48.t 5).asI, .r (o48.t 6).asR, .i (o48.t 7).asI]))
 else
  some ⟨[.r w8], []⟩
def laws_toJobS_k1 : List Nat := [0, 2, 3, 4, 22]
def laws_toJobS_S1 (a0 : List (List T)) : (Int × List (List T)) → St := fun (v8, w8) => ⟨ofSl [(0, .sl 130 a0), (2, .ref (2, 0)), (3, .ref (3, 0)), (4, .i .i64 v8), (22, .skip)], ofMem [((2, 0), .row 104 true []), ((3, 0), .row 104 true w8)]⟩
def laws_toJobS_l1 (k : Nat) (a0 : List (List T)) (G1 : (Int × List (List T)) → Option Outs) : (Int × List (List T)) → Option Outs :=
  laws_toJobS_L1 k a0 G1
def laws_toJobS_U (k : Nat) (a0 : List (List T)) (R1 : (Int × List (List T)) → Option Outs) : Option Outs :=
 chk (decide ((a0.length : Int) = (a0.length : Int)) && decide (0 ≤ (a0.length : Int)) && decide ((a0.length : Int) * ((96 : Nat) : Int) ≤ 140737488355328)) <|
 R1 (0, (List.replicate ((a0.length : Int) : Int).toNat [.i 0, .i 0, .i 0, .i 0, .r [], .i 0, .r [], .i 0]))
def laws_toJobS_u (k : Nat) (a0 : List (List T)) : Option Outs :=
  laws_toJobS_U k a0 (fun v => fixN (laws_toJobS_l1 k a0) k v)
def laws_toJobS_it1 (k : Nat) (a0 : List (List T)) (js : List Nat) (j : Nat) (s : St) : Option Outs := iter (LB E (evalF E P0 k) k [] N.laws_toJobS [.sr, .sr, .sl, .sr, .bl]) [] laws_toJobS_k1 (LK E (evalF E P0 k) k [] N.laws_toJobS [.v [.r a0]] [.sr, .sr, .sl, .sr, .bl] js) j s
theorem laws_toJobS_e (k : Nat) (a0 : List (List T)) : evalF E P0 (k + 1) N.laws_toJobS [.v [.r a0]] = laws_toJobS_u k a0 := by
  have e0 : evalF E P0 (k + 1) N.laws_toJobS [.v [.r a0]] = laws_toJobS_U k a0 (fun v => laws_toJobS_it1 k a0 [] k (laws_toJobS_S1 a0 v)) := by kernel_rfl
  have e1 : ∀ (j1 : Nat) (v : Int × List (List T)), laws_toJobS_it1 k a0 [] (j1 + 1) (laws_toJobS_S1 a0 v) = laws_toJobS_L1 k a0 (fun v => laws_toJobS_it1 k a0 [] j1 (laws_toJobS_S1 a0 v)) v := by
    intro j1 v; kernel_rfl
  have i1 : ∀ (j1 : Nat) (v : Int × List (List T)), laws_toJobS_it1 k a0 [] j1 (laws_toJobS_S1 a0 v) = fixN (laws_toJobS_l1 k a0) j1 v := by
    intro j1 v
    refine iter_fix (laws_toJobS_S1 a0) (laws_toJobS_l1 k a0) (fun j1 v => (e1 j1 v).trans ?_) j1 v
    unfold laws_toJobS_l1
    rfl
  rw [e0]; unfold laws_toJobS_u
  simp only [i1]
/- laws.toAnsS -/
def laws_toAnsS_L1 (k : Nat) (a0 : List (List T)) (G1 : (Int × List (List T)) → Option Outs) : (Int × List (List T)) → Option Outs := fun (v8, w8) =>
 bif (decide (v8 < (a0.length : Int))) then
  chk (decide (0 ≤ v8) && decide (v8 < (a0.length : Int))) <|
  bindO (evalF E P0 k N.laws_toAns [.v [.i (at_ a0 v8.toNat 0).asI, .i (at_ a0 v8.toNat 1).asI, .r (at_ a0 v8.toNat 2).asR]]) fun o48 =>
  chk (decide (0 ≤ v8) && decide (v8 < (w8.length : Int))) <|
  G1 ((IntKind.wrap .i64 (v8 + 1)), (put_ w8 v8.toNat 0 [.i (o48.t 0).asI, .i (o48.t 1).asI, .r (o48.t 2).asR]))
 else
  some ⟨[.r w8], []⟩
def laws_toAnsS_k1 : List Nat := [0, 2, 3, 4, 22]
def laws_toAnsS_S1 (a0 : List (List T)) : (Int × List (List T)) → St := fun (v8, w8) => ⟨ofSl [(0, .sl 80 a0), (2, .ref (2, 0)), (3, .ref (3, 0)), (4, .i .i64 v8), (22, .skip)], ofMem [((2, 0), .row 84 true []), ((3, 0), .row 84 true w8)]⟩
def laws_toAnsS_l1 (k : Nat) (a0 : List (List T)) (G1 : (Int × List (List T)) → Option Outs) : (Int × List (List T)) → Option Outs :=
  laws_toAnsS_L1 k a0 G1
def laws_toAnsS_U (k : Nat) (a0 : List (List T)) (R1 : (Int × List (List T)) → Option Outs) : Option Outs :=
 chk (decide ((a0.length : Int) = (a0.length : Int)) && decide (0 ≤ (a0.length : Int)) && decide ((a0.length : Int) * ((40 : Nat) : Int) ≤ 140737488355328)) <|
 R1 (0, (List.replicate ((a0.length : Int) : Int).toNat [.i 0, .i 0, .r []]))
def laws_toAnsS_u (k : Nat) (a0 : List (List T)) : Option Outs :=
  laws_toAnsS_U k a0 (fun v => fixN (laws_toAnsS_l1 k a0) k v)
def laws_toAnsS_it1 (k : Nat) (a0 : List (List T)) (js : List Nat) (j : Nat) (s : St) : Option Outs := iter (LB E (evalF E P0 k) k [] N.laws_toAnsS [.sr, .sr, .sl, .sr, .bl]) [] laws_toAnsS_k1 (LK E (evalF E P0 k) k [] N.laws_toAnsS [.v [.r a0]] [.sr, .sr, .sl, .sr, .bl] js) j s
theorem laws_toAnsS_e (k : Nat) (a0 : List (List T)) : evalF E P0 (k + 1) N.laws_toAnsS [.v [.r a0]] = laws_toAnsS_u k a0 := by
  have e0 : evalF E P0 (k + 1) N.laws_toAnsS [.v [.r a0]] = laws_toAnsS_U k a0 (fun v => laws_toAnsS_it1 k a0 [] k (laws_toAnsS_S1 a0 v)) := by kernel_rfl
  have e1 : ∀ (j1 : Nat) (v : Int × List (List T)), laws_toAnsS_it1 k a0 [] (j1 + 1) (laws_toAnsS_S1 a0 v) = laws_toAnsS_L1 k a0 (fun v => laws_toAnsS_it1 k a0 [] j1 (laws_toAnsS_S1 a0 v)) v := by
    intro j1 v; kernel_rfl
  have i1 : ∀ (j1 : Nat) (v : Int × List (List T)), laws_toAnsS_it1 k a0 [] j1 (laws_toAnsS_S1 a0 v) = fixN (laws_toAnsS_l1 k a0) j1 v := by
    intro j1 v
    refine iter_fix (laws_toAnsS_S1 a0) (laws_toAnsS_l1 k a0) (fun j1 v => (e1 j1 v).trans ?_) j1 v
    unfold laws_toAnsS_l1
    rfl
  rw [e0]; unfold laws_toAnsS_u
  simp only [i1]
/- laws.toEng -/
def laws_toEng_u (k : Nat) (a0_0 : Int) (a0_1 : Int) (a0_2 : Int) (a0_3 : List (List T)) (a0_4 : Int) (a0_5 : Int) (a0_6 : Int) (a0_7 : Int) (a0_8 : Int) (a0_9 : List (List T)) (a0_10 : Int) (a0_11 : Bool) (a0_12 : Bool) (a0_13 : List (List T)) (a0_14 : List (List T)) (a0_15 : List (List T)) (a0_16 : List (List T)) : Option Outs :=
 bindO (evalF E P0 k N.laws_toArr [.v [.i a0_0, .i a0_1, .i a0_2, .r a0_3, .i a0_4, .i a0_5, .i a0_6, .i a0_7, .i a0_8, .r a0_9, .i a0_10, .b a0_11, .b a0_12]]) fun o2 =>
 bindO (evalF E P0 k N.laws_toCmdS [.v [.r a0_13]]) fun o4 =>
 bindO (evalF E P0 k N.laws_toJobS [.v [.r a0_14]]) fun o6 =>
 bindO (evalF E P0 k N.laws_toAnsS [.v [.r a0_15]]) fun o8 =>
 bindO (evalF E P0 k N.laws_toTurnS [.v [.r a0_16]]) fun o10 =>
 some ⟨[.i (o2.t 0).asI, .i (o2.t 1).asI, .i (o2.t 2).asI, .r (o2.t 3).asR, .i (o2.t 4).asI, .i (o2.t 5).asI, .i (o2.t 6).asI, .i (o2.t 7).asI, .i (o2.t 8).asI, .r (o2.t 9).asR, .i (o2.t 10).asI, .b (o2.t 11).asB, .b (o2.t 12).asB, .r (o4.t 0).asR, .r (o6.t 0).asR, .r (o8.t 0).asR, .r (o10.t 0).asR], []⟩
theorem laws_toEng_e (k : Nat) (a0_0 : Int) (a0_1 : Int) (a0_2 : Int) (a0_3 : List (List T)) (a0_4 : Int) (a0_5 : Int) (a0_6 : Int) (a0_7 : Int) (a0_8 : Int) (a0_9 : List (List T)) (a0_10 : Int) (a0_11 : Bool) (a0_12 : Bool) (a0_13 : List (List T)) (a0_14 : List (List T)) (a0_15 : List (List T)) (a0_16 : List (List T)) : evalF E P0 (k + 1) N.laws_toEng [.v [.i a0_0, .i a0_1, .i a0_2, .r a0_3, .i a0_4, .i a0_5, .i a0_6, .i a0_7, .i a0_8, .r a0_9, .i a0_10, .b a0_11, .b a0_12, .r a0_13, .r a0_14, .r a0_15, .r a0_16]] = laws_toEng_u k a0_0 a0_1 a0_2 a0_3 a0_4 a0_5 a0_6 a0_7 a0_8 a0_9 a0_10 a0_11 a0_12 a0_13 a0_14 a0_15 a0_16 := by kernel_rfl
/- spec.SpanOf -/
def spec_SpanOf_u (k : Nat) (a0_0 : Int) (a0_1 : Int) (a1_0 : Int) (a1_1 : Int) (a1_2 : Int) (a1_3 : Int) (a1_4 : List (List T)) : Option Outs :=
 bindO (evalF E P0 k N.spec_CmdCode [.v [.i a0_0, .i a0_1], .v [.i a1_0, .i a1_1, .i a1_2, .i a1_3, .r a1_4]]) fun o2 =>
 bif ((o2.t 0).asI != 0) then
  some ⟨[.i 0, .i 0], []⟩
 else
  bif (a1_0 == 4) then
   bindO (evalF E P0 k N.spec_Blocks [.v [.i a0_0, .i a0_1]]) fun o6 =>
   some ⟨[.i 0, .i (o6.t 0).asI], []⟩
  else
   bindO (evalF E P0 k N.spec_l13Len [.v [.i a1_0, .i a1_1, .i a1_2, .i a1_3, .r a1_4]]) fun o8 =>
   some ⟨[.i a1_2, .i (IntKind.wrap .i64 (a1_2 + (o8.t 0).asI))], []⟩
theorem spec_SpanOf_e (k : Nat) (a0_0 : Int) (a0_1 : Int) (a1_0 : Int) (a1_1 : Int) (a1_2 : Int) (a1_3 : Int) (a1_4 : List (List T)) : evalF E P0 (k + 1) N.spec_SpanOf [.v [.i a0_0, .i a0_1], .v [.i a1_0, .i a1_1, .i a1_2, .i a1_3, .r a1_4]] = spec_SpanOf_u k a0_0 a0_1 a1_0 a1_1 a1_2 a1_3 a1_4 := by kernel_rfl
/- spec.Clash -/
def spec_Clash_u (k : Nat) (a0_0 : Int) (a0_1 : Int) (a1_0 : Int) (a1_1 : Int) (a1_2 : Int) (a1_3 : Int) (a1_4 : List (List T)) (a2_0 : Int) (a2_1 : Int) (a2_2 : Int) (a2_3 : Int) (a2_4 : List (List T)) : Option Outs :=
 bindO (evalF E P0 k N.spec_SpanOf [.v [.i a0_0, .i a0_1], .v [.i a1_0, .i a1_1, .i a1_2, .i a1_3, .r a1_4]]) fun o2 =>
 bindO (evalF E P0 k N.spec_SpanOf [.v [.i a0_0, .i a0_1], .v [.i a2_0, .i a2_1, .i a2_2, .i a2_3, .r a2_4]]) fun o4 =>
 bif (decide ((o2.t 0).asI < (o4.t 1).asI)) then
  some ⟨[.b (decide ((o4.t 0).asI < (o2.t 1).asI))], []⟩
 else
  some ⟨[.b false], []⟩
theorem spec_Clash_e (k : Nat) (a0_0 : Int) (a0_1 : Int) (a1_0 : Int) (a1_1 : Int) (a1_2 : Int) (a1_3 : Int) (a1_4 : List (List T)) (a2_0 : Int) (a2_1 : Int) (a2_2 : Int) (a2_3 : Int) (a2_4 : List (List T)) : evalF E P0 (k + 1) N.spec_Clash [.v [.i a0_0, .i a0_1], .v [.i a1_0, .i a1_1, .i a1_2, .i a1_3, .r a1_4], .v [.i a2_0, .i a2_1, .i a2_2, .i a2_3, .r a2_4]] = spec_Clash_u k a0_0 a0_1 a1_0 a1_1 a1_2 a1_3 a1_4 a2_0 a2_1 a2_2 a2_3 a2_4 := by kernel_rfl
/- spec.Apart -/
def spec_Apart_L2 (k : Nat) (a0_0 : Int) (a0_1 : Int) (a0_2 : Int) (a0_3 : List (List T)) (a0_4 : Int) (a0_5 : Int) (a0_6 : Int) (a0_7 : Int) (a0_8 : Int) (a0_9 : List (List T)) (a0_10 : Int) (a0_11 : Bool) (a0_12 : Bool) (a0_13 : List (List T)) (a0_14 : List (List T)) (a0_15 : List (List T)) (a0_16 : List (List T)) (v120 : Int) (G1 : (Int) → Option Outs) (G2 : (Int) → Option Outs) : (Int) → Option Outs := fun v136 =>
 bif (decide (v136 < v120)) then
  chk (decide (0 ≤ v120) && decide (v120 < (a0_14.length : Int))) <|
  chk (decide (0 ≤ v136) && decide (v136 < (a0_14.length : Int))) <|
  bindO (evalF E P0 k N.spec_Clash [.v [.i a0_1, .i a0_2], .v [.i (at_ a0_14 v120.toNat 0).asI, .i (at_ a0_14 v120.toNat 1).asI, .i (at_ a0_14 v120.toNat 2).asI, .i (at_ a0_14 v120.toNat 3).asI, .r (at_ a0_14 v120.toNat 4).asR], .v [.i (at_ a0_14 v136.toNat 0).asI, .i (at_ a0_14 v136.toNat 1).asI, .i (at_ a0_14 v136.toNat 2).asI, .i (at_ a0_14 v136.toNat 3).asI, .r (at_ a0_14 v136.toNat 4).asR]]) fun o1536 =>
  bif (o1536.t 0).asB then some ⟨[.b false], []⟩ else G2 (IntKind.wrap .i64 (v136 + 1))
 else
  G1 (IntKind.wrap .i64 (v120 + 1))
def spec_Apart_k2 : List Nat := [1, 2, 3, 4, 10, 11]
def spec_Apart_S2 (a0_0 : Int) (a0_1 : Int) (a0_2 : Int) (a0_3 : List (List T)) (a0_4 : Int) (a0_5 : Int) (a0_6 : Int) (a0_7 : Int) (a0_8 : Int) (a0_9 : List (List T)) (a0_10 : Int) (a0_11 : Bool) (a0_12 : Bool) (a0_13 : List (List T)) (a0_14 : List (List T)) (a0_15 : List (List T)) (a0_16 : List (List T)) (v120 : Int) : (Int) → St := fun v136 => ⟨ofSl [(1, .ptr (1, 0) 0), (2, .b false), (3, .i .i64 v120), (4, .i .i64 v136), (10, .undef), (11, .undef)], ofMem [((1, 0), .var [.i .i64 a0_0, .i .i64 a0_1, .i .i64 a0_2, .sl 143 a0_3, .i .i64 a0_4, .i .i64 a0_5, .i .i64 a0_6, .i .i64 a0_7, .i .i64 a0_8, .sl 155 a0_9, .i .i64 a0_10, .b a0_11, .b a0_12, .sl 31 a0_13, .sl 104 a0_14, .sl 84 a0_15, .sl 86 a0_16])]⟩
def spec_Apart_L1 (k : Nat) (a0_0 : Int) (a0_1 : Int) (a0_2 : Int) (a0_3 : List (List T)) (a0_4 : Int) (a0_5 : Int) (a0_6 : Int) (a0_7 : Int) (a0_8 : Int) (a0_9 : List (List T)) (a0_10 : Int) (a0_11 : Bool) (a0_12 : Bool) (a0_13 : List (List T)) (a0_14 : List (List T)) (a0_15 : List (List T)) (a0_16 : List (List T)) (R2 : Int → (Int) → Option Outs) (G1 : (Int) → Option Outs) : (Int) → Option Outs := fun v120 =>
 bif (decide (v120 < (a0_14.length : Int))) then R2 v120 0 else some ⟨[.b true], []⟩
def spec_Apart_k1 : List Nat := [1, 2, 3]
def spec_Apart_S1 (a0_0 : Int) (a0_1 : Int) (a0_2 : Int) (a0_3 : List (List T)) (a0_4 : Int) (a0_5 : Int) (a0_6 : Int) (a0_7 : Int) (a0_8 : Int) (a0_9 : List (List T)) (a0_10 : Int) (a0_11 : Bool) (a0_12 : Bool) (a0_13 : List (List T)) (a0_14 : List (List T)) (a0_15 : List (List T)) (a0_16 : List (List T)) : (Int) → St := fun v120 => ⟨ofSl [(1, .ptr (1, 0) 0), (2, .b false), (3, .i .i64 v120)], ofMem [((1, 0), .var [.i .i64 a0_0, .i .i64 a0_1, .i .i64 a0_2, .sl 143 a0_3, .i .i64 a0_4, .i .i64 a0_5, .i .i64 a0_6, .i .i64 a0_7, .i .i64 a0_8, .sl 155 a0_9, .i .i64 a0_10, .b a0_11, .b a0_12, .sl 31 a0_13, .sl 104 a0_14, .sl 84 a0_15, .sl 86 a0_16])]⟩
def spec_Apart_l2 (k : Nat) (a0_0 : Int) (a0_1 : Int) (a0_2 : Int) (a0_3 : List (List T)) (a0_4 : Int) (a0_5 : Int) (a0_6 : Int) (a0_7 : Int) (a0_8 : Int) (a0_9 : List (List T)) (a0_10 : Int) (a0_11 : Bool) (a0_12 : Bool) (a0_13 : List (List T)) (a0_14 : List (List T)) (a0_15 : List (List T)) (a0_16 : List (List T)) (v120 : Int) (G1 : (Int) → Option Outs) (G2 : (Int) → Option Outs) : (Int) → Option Outs :=
  spec_Apart_L2 k a0_0 a0_1 a0_2 a0_3 a0_4 a0_5 a0_6 a0_7 a0_8 a0_9 a0_10 a0_11 a0_12 a0_13 a0_14 a0_15 a0_16 v120 G1 G2
def spec_Apart_l1 (k : Nat) (a0_0 : Int) (a0_1 : Int) (a0_2 : Int) (a0_3 : List (List T)) (a0_4 : Int) (a0_5 : Int) (a0_6 : Int) (a0_7 : Int) (a0_8 : Int) (a0_9 : List (List T)) (a0_10 : Int) (a0_11 : Bool) (a0_12 : Bool) (a0_13 : List (List T)) (a0_14 : List (List T)) (a0_15 : List (List T)) (a0_16 : List (List T)) (G1 : (Int) → Option Outs) : (Int) → Option Outs :=
  spec_Apart_L1 k a0_0 a0_1 a0_2 a0_3 a0_4 a0_5 a0_6 a0_7 a0_8 a0_9 a0_10 a0_11 a0_12 a0_13 a0_14 a0_15 a0_16 (fun y0 v => fixN (spec_Apart_l2 k a0_0 a0_1 a0_2 a0_3 a0_4 a0_5 a0_6 a0_7 a0_8 a0_9 a0_10 a0_11 a0_12 a0_13 a0_14 a0_15 a0_16 y0 G1) k v) G1
def spec_Apart_U (k : Nat) (a0_0 : Int) (a0_1 : Int) (a0_2 : Int) (a0_3 : List (List T)) (a0_4 : Int) (a0_5 : Int) (a0_6 : Int) (a0_7 : Int) (a0_8 : Int) (a0_9 : List (List T)) (a0_10 : Int) (a0_11 : Bool) (a0_12 : Bool) (a0_13 : List (List T)) (a0_14 : List (List T)) (a0_15 : List (List T)) (a0_16 : List (List T)) (R1 : (Int) → Option Outs) : Option Outs :=
 R1 0
def spec_Apart_u (k : Nat) (a0_0 : Int) (a0_1 : Int) (a0_2 : Int) (a0_3 : List (List T)) (a0_4 : Int) (a0_5 : Int) (a0_6 : Int) (a0_7 : Int) (a0_8 : Int) (a0_9 : List (List T)) (a0_10 : Int) (a0_11 : Bool) (a0_12 : Bool) (a0_13 : List (List T)) (a0_14 : List (List T)) (a0_15 : List (List T)) (a0_16 : List (List T)) : Option Outs :=
  spec_Apart_U k a0_0 a0_1 a0_2 a0_3 a0_4 a0_5 a0_6 a0_7 a0_8 a0_9 a0_10 a0_11 a0_12 a0_13 a0_14 a0_15 a0_16 (fun v => fixN (spec_Apart_l1 k a0_0 a0_1 a0_2 a0_3 a0_4 a0_5 a0_6 a0_7 a0_8 a0_9 a0_10 a0_11 a0_12 a0_13 a0_14 a0_15 a0_16) k v)
def spec_Apart_it1 (k : Nat) (a0_0 : Int) (a0_1 : Int) (a0_2 : Int) (a0_3 : List (List T)) (a0_4 : Int) (a0_5 : Int) (a0_6 : Int) (a0_7 : Int) (a0_8 : Int) (a0_9 : List (List T)) (a0_10 : Int) (a0_11 : Bool) (a0_12 : Bool) (a0_13 : List (List T)) (a0_14 : List (List T)) (a0_15 : List (List T)) (a0_16 : List (List T)) (js : List Nat) (j : Nat) (s : St) : Option Outs := iter (LB E (evalF E P0 k) k [] N.spec_Apart [.sr, .sl, .sr, .bl]) [] spec_Apart_k1 (LK E (evalF E P0 k) k [] N.spec_Apart [.v [.i a0_0, .i a0_1, .i a0_2, .r a0_3, .i a0_4, .i a0_5, .i a0_6, .i a0_7, .i a0_8, .r a0_9, .i a0_10, .b a0_11, .b a0_12, .r a0_13, .r a0_14, .r a0_15, .r a0_16]] [.sr, .sl, .sr, .bl] js) j s
def spec_Apart_it2 (k : Nat) (a0_0 : Int) (a0_1 : Int) (a0_2 : Int) (a0_3 : List (List T)) (a0_4 : Int) (a0_5 : Int) (a0_6 : Int) (a0_7 : Int) (a0_8 : Int) (a0_9 : List (List T)) (a0_10 : Int) (a0_11 : Bool) (a0_12 : Bool) (a0_13 : List (List T)) (a0_14 : List (List T)) (a0_15 : List (List T)) (a0_16 : List (List T)) (js : List Nat) (j : Nat) (s : St) : Option Outs := iter (LB E (evalF E P0 k) k [] N.spec_Apart [.sr, .sl, .sr, .bl, .lp, .sr, .sl, .bl, .sr, .bl]) [] spec_Apart_k2 (LK E (evalF E P0 k) k [] N.spec_Apart [.v [.i a0_0, .i a0_1, .i a0_2, .r a0_3, .i a0_4, .i a0_5, .i a0_6, .i a0_7, .i a0_8, .r a0_9, .i a0_10, .b a0_11, .b a0_12, .r a0_13, .r a0_14, .r a0_15, .r a0_16]] [.sr, .sl, .sr, .bl, .lp, .sr, .sl, .bl, .sr, .bl] js) j s
theorem spec_Apart_e (k : Nat) (a0_0 : Int) (a0_1 : Int) (a0_2 : Int) (a0_3 : List (List T)) (a0_4 : Int) (a0_5 : Int) (a0_6 : Int) (a0_7 : Int) (a0_8 : Int) (a0_9 : List (List T)) (a0_10 : Int) (a0_11 : Bool) (a0_12 : Bool) (a0_13 : List (List T)) (a0_14 : List (List T)) (a0_15 : List (List T)) (a0_16 : List (List T)) : evalF E P0 (k + 1) N.spec_Apart [.v [.i a0_0, .i a0_1, .i a0_2, .r a0_3, .i a0_4, .i a0_5, .i a0_6, .i a0_7, .i a0_8, .r a0_9, .i a0_10, .b a0_11, .b a0_12, .r a0_13, .r a0_14, .r a0_15, .r a0_16]] = spec_Apart_u k a0_0 a0_1 a0_2 a0_3 a0_4 a0_5 a0_6 a0_7 a0_8 a0_9 a0_10 a0_11 a0_12 a0_13 a0_14 a0_15 a0_16 := by
  have e0 : evalF E P0 (k + 1) N.spec_Apart [.v [.i a0_0, .i a0_1, .i a0_2, .r a0_3, .i a0_4, .i a0_5, .i a0_6, .i a0_7, .i a0_8, .r a0_9, .i a0_10, .b a0_11, .b a0_12, .r a0_13, .r a0_14, .r a0_15, .r a0_16]] = spec_Apart_U k a0_0 a0_1 a0_2 a0_3 a0_4 a0_5 a0_6 a0_7 a0_8 a0_9 a0_10 a0_11 a0_12 a0_13 a0_14 a0_15 a0_16 (fun v => spec_Apart_it1 k a0_0 a0_1 a0_2 a0_3 a0_4 a0_5 a0_6 a0_7 a0_8 a0_9 a0_10 a0_11 a0_12 a0_13 a0_14 a0_15 a0_16 [] k (spec_Apart_S1 a0_0 a0_1 a0_2 a0_3 a0_4 a0_5 a0_6 a0_7 a0_8 a0_9 a0_10 a0_11 a0_12 a0_13 a0_14 a0_15 a0_16 v)) := by kernel_rfl
  have e2 : ∀ (j1 : Nat) (v120 : Int) (j2 : Nat) (v : Int), spec_Apart_it2 k a0_0 a0_1 a0_2 a0_3 a0_4 a0_5 a0_6 a0_7 a0_8 a0_9 a0_10 a0_11 a0_12 a0_13 a0_14 a0_15 a0_16 [j1] (j2 + 1) (spec_Apart_S2 a0_0 a0_1 a0_2 a0_3 a0_4 a0_5 a0_6 a0_7 a0_8 a0_9 a0_10 a0_11 a0_12 a0_13 a0_14 a0_15 a0_16 v120 v) = spec_Apart_L2 k a0_0 a0_1 a0_2 a0_3 a0_4 a0_5 a0_6 a0_7 a0_8 a0_9 a0_10 a0_11 a0_12 a0_13 a0_14 a0_15 a0_16 v120 (fun v => spec_Apart_it1 k a0_0 a0_1 a0_2 a0_3 a0_4 a0_5 a0_6 a0_7 a0_8 a0_9 a0_10 a0_11 a0_12 a0_13 a0_14 a0_15 a0_16 [] j1 (spec_Apart_S1 a0_0 a0_1 a0_2 a0_3 a0_4 a0_5 a0_6 a0_7 a0_8 a0_9 a0_10 a0_11 a0_12 a0_13 a0_14 a0_15 a0_16 v)) (fun v => spec_Apart_it2 k a0_0 a0_1 a0_2 a0_3 a0_4 a0_5 a0_6 a0_7 a0_8 a0_9 a0_10 a0_11 a0_12 a0_13 a0_14 a0_15 a0_16 [j1] j2 (spec_Apart_S2 a0_0 a0_1 a0_2 a0_3 a0_4 a0_5 a0_6 a0_7 a0_8 a0_9 a0_10 a0_11 a0_12 a0_13 a0_14 a0_15 a0_16 v120 v)) v := by
    intro j1 v120 j2 v; kernel_rfl
  have i2 : ∀ (j1 : Nat) (v120 : Int) (j2 : Nat) (v : Int), spec_Apart_it2 k a0_0 a0_1 a0_2 a0_3 a0_4 a0_5 a0_6 a0_7 a0_8 a0_9 a0_10 a0_11 a0_12 a0_13 a0_14 a0_15 a0_16 [j1] j2 (spec_Apart_S2 a0_0 a0_1 a0_2 a0_3 a0_4 a0_5 a0_6 a0_7 a0_8 a0_9 a0_10 a0_11 a0_12 a0_13 a0_14 a0_15 a0_16 v120 v) = fixN (spec_Apart_l2 k a0_0 a0_1 a0_2 a0_3 a0_4 a0_5 a0_6 a0_7 a0_8 a0_9 a0_10 a0_11 a0_12 a0_13 a0_14 a0_15 a0_16 v120 (fun v => spec_Apart_it1 k a0_0 a0_1 a0_2 a0_3 a0_4 a0_5 a0_6 a0_7 a0_8 a0_9 a0_10 a0_11 a0_12 a0_13 a0_14 a0_15 a0_16 [] j1 (spec_Apart_S1 a0_0 a0_1 a0_2 a0_3 a0_4 a0_5 a0_6 a0_7 a0_8 a0_9 a0_10 a0_11 a0_12 a0_13 a0_14 a0_15 a0_16 v))) j2 v := by
    intro j1 v120 j2 v
    refine iter_fix (spec_Apart_S2 a0_0 a0_1 a0_2 a0_3 a0_4 a0_5 a0_6 a0_7 a0_8 a0_9 a0_10 a0_11 a0_12 a0_13 a0_14 a0_15 a0_16 v120) (spec_Apart_l2 k a0_0 a0_1 a0_2 a0_3 a0_4 a0_5 a0_6 a0_7 a0_8 a0_9 a0_10 a0_11 a0_12 a0_13 a0_14 a0_15 a0_16 v120 (fun v => spec_Apart_it1 k a0_0 a0_1 a0_2 a0_3 a0_4 a0_5 a0_6 a0_7 a0_8 a0_9 a0_10 a0_11 a0_12 a0_13 a0_14 a0_15 a0_16 [] j1 (spec_Apart_S1 a0_0 a0_1 a0_2 a0_3 a0_4 a0_5 a0_6 a0_7 a0_8 a0_9 a0_10 a0_11 a0_12 a0_13 a0_14 a0_15 a0_16 v))) (fun j2 v => (e2 j1 v120 j2 v).trans ?_) j2 v
    unfold spec_Apart_l2
    rfl
  have e1 : ∀ (j1 : Nat) (v : Int), spec_Apart_it1 k a0_0 a0_1 a0_2 a0_3 a0_4 a0_5 a0_6 a0_7 a0_8 a0_9 a0_10 a0_11 a0_12 a0_13 a0_14 a0_15 a0_16 [] (j1 + 1) (spec_Apart_S1 a0_0 a0_1 a0_2 a0_3 a0_4 a0_5 a0_6 a0_7 a0_8 a0_9 a0_10 a0_11 a0_12 a0_13 a0_14 a0_15 a0_16 v) = spec_Apart_L1 k a0_0 a0_1 a0_2 a0_3 a0_4 a0_5 a0_6 a0_7 a0_8 a0_9 a0_10 a0_11 a0_12 a0_13 a0_14 a0_15 a0_16 (fun y0 v => spec_Apart_it2 k a0_0 a0_1 a0_2 a0_3 a0_4 a0_5 a0_6 a0_7 a0_8 a0_9 a0_10 a0_11 a0_12 a0_13 a0_14 a0_15 a0_16 [j1] k (spec_Apart_S2 a0_0 a0_1 a0_2 a0_3 a0_4 a0_5 a0_6 a0_7 a0_8 a0_9 a0_10 a0_11 a0_12 a0_13 a0_14 a0_15 a0_16 y0 v)) (fun v => spec_Apart_it1 k a0_0 a0_1 a0_2 a0_3 a0_4 a0_5 a0_6 a0_7 a0_8 a0_9 a0_10 a0_11 a0_12 a0_13 a0_14 a0_15 a0_16 [] j1 (spec_Apart_S1 a0_0 a0_1 a0_2 a0_3 a0_4 a0_5 a0_6 a0_7 a0_8 a0_9 a0_10 a0_11 a0_12 a0_13 a0_14 a0_15 a0_16 v)) v := by
    intro j1 v; kernel_rfl
  have i1 : ∀ (j1 : Nat) (v : Int), spec_Apart_it1 k a0_0 a0_1 a0_2 a0_3 a0_4 a0_5 a0_6 a0_7 a0_8 a0_9 a0_10 a0_11 a0_12 a0_13 a0_14 a0_15 a0_16 [] j1 (spec_Apart_S1 a0_0 a0_1 a0_2 a0_3 a0_4 a0_5 a0_6 a0_7 a0_8 a0_9 a0_10 a0_11 a0_12 a0_13 a0_14 a0_15 a0_16 v) = fixN (spec_Apart_l1 k a0_0 a0_1 a0_2 a0_3 a0_4 a0_5 a0_6 a0_7 a0_8 a0_9 a0_10 a0_11 a0_12 a0_13 a0_14 a0_15 a0_16) j1 v := by
    intro j1 v
    refine iter_fix (spec_Apart_S1 a0_0 a0_1 a0_2 a0_3 a0_4 a0_5 a0_6 a0_7 a0_8 a0_9 a0_10 a0_11 a0_12 a0_13 a0_14 a0_15 a0_16) (spec_Apart_l1 k a0_0 a0_1 a0_2 a0_3 a0_4 a0_5 a0_6 a0_7 a0_8 a0_9 a0_10 a0_11 a0_12 a0_13 a0_14 a0_15 a0_16) (fun j1 v => (e1 j1 v).trans ?_) j1 v
    unfold spec_Apart_l1
    simp only [i2] <;> rfl
  rw [e0]; unfold spec_Apart_u
  simp only [i1]
/- impl.Clash -/
def impl_Clash_u (k : Nat) (a0_0 : Int) (a0_1 : Int) (a1_0 : Int) (a1_1 : Int) (a1_2 : Int) (a1_3 : Int) (a1_4 : List (List T)) (a2_0 : Int) (a2_1 : Int) (a2_2 : Int) (a2_3 : Int) (a2_4 : List (List T)) : Option Outs :=
 bindO (evalF E P0 k N.impl_SpanOf [.v [.i a0_0, .i a0_1], .v [.i a1_0, .i a1_1, .i a1_2, .i a1_3, .r a1_4]]) fun o2 =>
 bindO (evalF E P0 k N.impl_SpanOf [.v [.i a0_0, .i a0_1], .v [.i a2_0, .i a2_1, .i a2_2, .i a2_3, .r a2_4]]) fun o4 =>
 some ⟨[.b (decide ((if (o4.t 0).asI > (o2.t 0).asI then (o4.t 0).asI else (o2.t 0).asI) < (if (o4.t 1).asI < (o2.t 1).asI then (o4.t 1).asI else (o2.t 1).asI)))], []⟩
theorem impl_Clash_e (k : Nat) (a0_0 : Int) (a0_1 : Int) (a1_0 : Int) (a1_1 : Int) (a1_2 : Int) (a1_3 : Int) (a1_4 : List (List T)) (a2_0 : Int) (a2_1 : Int) (a2_2 : Int) (a2_3 : Int) (a2_4 : List (List T)) : evalF E P0 (k + 1) N.impl_Clash [.v [.i a0_0, .i a0_1], .v [.i a1_0, .i a1_1, .i a1_2, .i a1_3, .r a1_4], .v [.i a2_0, .i a2_1, .i a2_2, .i a2_3, .r a2_4]] = impl_Clash_u k a0_0 a0_1 a1_0 a1_1 a1_2 a1_3 a1_4 a2_0 a2_1 a2_2 a2_3 a2_4 := by kernel_rfl
/- impl.Apart -/
def impl_Apart_L2 (k : Nat) (a0_0 : Int) (a0_1 : Int) (a0_2 : Int) (a0_3 : List (List T)) (a0_4 : Int) (a0_5 : Int) (a0_6 : Int) (a0_7 : Int) (a0_8 : Int) (a0_9 : List (List T)) (a0_10 : Int) (a0_11 : Bool) (a0_12 : Bool) (a0_13 : List (List T)) (a0_14 : List (List T)) (a0_15 : List (List T)) (a0_16 : List (List T)) (p2103 : List (List T)) (p2104 : Int) (p2105 : Int) (p2106 : Int) (p2107 : Int) (p2108 : Int) (p2109 : List (List T)) (p2110 : Int) (p2111 : List (List T)) (p2112 : Int) (v184 : Int) (G1 : (Int) → Option Outs) (G2 : (Int) → Option Outs) : (Int) → Option Outs := fun v200 =>
 bif (decide (v200 < p2104)) then
  chk (decide (0 ≤ v200) && decide (v200 < (p2103.length : Int))) <|
  bindO (evalF E P0 k N.impl_Clash [.v [.i a0_1, .i a0_2], .v [.i p2105, .i p2106, .i p2107, .i p2108, .r p2109], .v [.i (at_ p2103 v200.toNat 0).asI, .i (at_ p2103 v200.toNat 1).asI, .i (at_ p2103 v200.toNat 2).asI, .i (at_ p2103 v200.toNat 3).asI, .r (at_ p2103 v200.toNat 4).asR]]) fun o2304 =>
  bif (o2304.t 0).asB then some ⟨[.b false], []⟩ else G2 (IntKind.wrap .i64 (v200 + 1))
 else
  G1 (IntKind.wrap .i64 (v184 + 1))
def impl_Apart_k2 : List Nat := [1, 2, 4, 8, 9, 10, 18, 19, 20, 33]
def impl_Apart_S2 (a0_0 : Int) (a0_1 : Int) (a0_2 : Int) (a0_3 : List (List T)) (a0_4 : Int) (a0_5 : Int) (a0_6 : Int) (a0_7 : Int) (a0_8 : Int) (a0_9 : List (List T)) (a0_10 : Int) (a0_11 : Bool) (a0_12 : Bool) (a0_13 : List (List T)) (a0_14 : List (List T)) (a0_15 : List (List T)) (a0_16 : List (List T)) (p2103 : List (List T)) (p2104 : Int) (p2105 : Int) (p2106 : Int) (p2107 : Int) (p2108 : Int) (p2109 : List (List T)) (p2110 : Int) (p2111 : List (List T)) (p2112 : Int) (v184 : Int) : (Int) → St := fun v200 => ⟨ofSl [(1, .ptr (1, 0) 0), (2, .b false), (4, .ptr (4, 0) 0), (8, .sl 104 a0_14), (9, .i .i64 (a0_14.length : Int)), (10, .i .i64 v184), (18, .sl 104 p2103), (19, .i .i64 p2104), (20, .i .i64 v200), (33, .undef)], ofMem [((1, 0), .var [.i .i64 a0_0, .i .i64 a0_1, .i .i64 a0_2, .sl 143 a0_3, .i .i64 a0_4, .i .i64 a0_5, .i .i64 a0_6, .i .i64 a0_7, .i .i64 a0_8, .sl 155 a0_9, .i .i64 a0_10, .b a0_11, .b a0_12, .sl 31 a0_13, .sl 104 a0_14, .sl 84 a0_15, .sl 86 a0_16]), ((4, 0), .var [.i .i64 p2105, .i .i64 p2106, .i .i64 p2107, .i .i64 p2108, .sl 3 p2109, .i .i64 p2110, .sl 3 p2111, .i .i64 p2112])]⟩
def impl_Apart_L1 (k : Nat) (a0_0 : Int) (a0_1 : Int) (a0_2 : Int) (a0_3 : List (List T)) (a0_4 : Int) (a0_5 : Int) (a0_6 : Int) (a0_7 : Int) (a0_8 : Int) (a0_9 : List (List T)) (a0_10 : Int) (a0_11 : Bool) (a0_12 : Bool) (a0_13 : List (List T)) (a0_14 : List (List T)) (a0_15 : List (List T)) (a0_16 : List (List T)) (R2 : List (List T) → Int → Int → Int → Int → Int → List (List T) → Int → List (List T) → Int → Int → (Int) → Option Outs) (G1 : (Int) → Option Outs) : (Int) → Option Outs := fun v184 =>
 bif (decide (v184 < (a0_14.length : Int))) then
  chk (decide (0 ≤ v184) && decide (v184 < (a0_14.length : Int))) <|
  chk (decide (0 ≤ 0) && decide (0 ≤ v184) && decide (v184 ≤ (a0_14.length : Int))) <|
  R2 ((a0_14.drop (0 : Int).toNat).take (v184.toNat - (0 : Int).toNat)) (((a0_14.drop (0 : Int).toNat).take (v184.toNat - (0 : Int).toNat)).length : Int) ((at_ a0_14 v184.toNat 0).asI) ((at_ a0_14 v184.toNat 1).asI) ((at_ a0_14 v184.toNat 2).asI) ((at_ a0_14 v184.toNat 3).asI) ((at_ a0_14 v184.toNat 4).asR) ((at_ a0_14 v184.toNat 5).asI) ((at_ a0_14 v184.toNat 6).asR) ((at_ a0_14 v184.toNat 7).asI) v184 0
 else
  some ⟨[.b true], []⟩
def impl_Apart_k1 : List Nat := [1, 2, 8, 9, 10]
def impl_Apart_S1 (a0_0 : Int) (a0_1 : Int) (a0_2 : Int) (a0_3 : List (List T)) (a0_4 : Int) (a0_5 : Int) (a0_6 : Int) (a0_7 : Int) (a0_8 : Int) (a0_9 : List (List T)) (a0_10 : Int) (a0_11 : Bool) (a0_12 : Bool) (a0_13 : List (List T)) (a0_14 : List (List T)) (a0_15 : List (List T)) (a0_16 : List (List T)) : (Int) → St := fun v184 => ⟨ofSl [(1, .ptr (1, 0) 0), (2, .b false), (8, .sl 104 a0_14), (9, .i .i64 (a0_14.length : Int)), (10, .i .i64 v184)], ofMem [((1, 0), .var [.i .i64 a0_0, .i .i64 a0_1, .i .i64 a0_2, .sl 143 a0_3, .i .i64 a0_4, .i .i64 a0_5, .i .i64 a0_6, .i .i64 a0_7, .i .i64 a0_8, .sl 155 a0_9, .i .i64 a0_10, .b a0_11, .b a0_12, .sl 31 a0_13, .sl 104 a0_14, .sl 84 a0_15, .sl 86 a0_16])]⟩
def impl_Apart_l2 (k : Nat) (a0_0 : Int) (a0_1 : Int) (a0_2 : Int) (a0_3 : List (List T)) (a0_4 : Int) (a0_5 : Int) (a0_6 : Int) (a0_7 : Int) (a0_8 : Int) (a0_9 : List (List T)) (a0_10 : Int) (a0_11 : Bool) (a0_12 : Bool) (a0_13 : List (List T)) (a0_14 : List (List T)) (a0_15 : List (List T)) (a0_16 : List (List T)) (p2103 : List (List T)) (p2104 : Int) (p2105 : Int) (p2106 : Int) (p2107 : Int) (p2108 : Int) (p2109 : List (List T)) (p2110 : Int) (p2111 : List (List T)) (p2112 : Int) (v184 : Int) (G1 : (Int) → Option Outs) (G2 : (Int) → Option Outs) : (Int) → Option Outs :=
  impl_Apart_L2 k a0_0 a0_1 a0_2 a0_3 a0_4 a0_5 a0_6 a0_7 a0_8 a0_9 a0_10 a0_11 a0_12 a0_13 a0_14 a0_15 a0_16 p2103 p2104 p2105 p2106 p2107 p2108 p2109 p2110 p2111 p2112 v184 G1 G2
def impl_Apart_l1 (k : Nat) (a0_0 : Int) (a0_1 : Int) (a0_2 : Int) (a0_3 : List (List T)) (a0_4 : Int) (a0_5 : Int) (a0_6 : Int) (a0_7 : Int) (a0_8 : Int) (a0_9 : List (List T)) (a0_10 : Int) (a0_11 : Bool) (a0_12 : Bool) (a0_13 : List (List T)) (a0_14 : List (List T)) (a0_15 : List (List T)) (a0_16 : List (List T)) (G1 : (Int) → Option Outs) : (Int) → Option Outs :=
  impl_Apart_L1 k a0_0 a0_1 a0_2 a0_3 a0_4 a0_5 a0_6 a0_7 a0_8 a0_9 a0_10 a0_11 a0_12 a0_13 a0_14 a0_15 a0_16 (fun y0 y1 y2 y3 y4 y5 y6 y7 y8 y9 y10 v => fixN (impl_Apart_l2 k a0_0 a0_1 a0_2 a0_3 a0_4 a0_5 a0_6 a0_7 a0_8 a0_9 a0_10 a0_11 a0_12 a0_13 a0_14 a0_15 a0_16 y0 y1 y2 y3 y4 y5 y6 y7 y8 y9 y10 G1) k v) G1
def impl_Apart_U (k : Nat) (a0_0 : Int) (a0_1 : Int) (a0_2 : Int) (a0_3 : List (List T)) (a0_4 : Int) (a0_5 : Int) (a0_6 : Int) (a0_7 : Int) (a0_8 : Int) (a0_9 : List (List T)) (a0_10 : Int) (a0_11 : Bool) (a0_12 : Bool) (a0_13 : List (List T)) (a0_14 : List (List T)) (a0_15 : List (List T)) (a0_16 : List (List T)) (R1 : (Int) → Option Outs) : Option Outs :=
 R1 0
def impl_Apart_u (k : Nat) (a0_0 : Int) (a0_1 : Int) (a0_2 : Int) (a0_3 : List (List T)) (a0_4 : Int) (a0_5 : Int) (a0_6 : Int) (a0_7 : Int) (a0_8 : Int) (a0_9 : List (List T)) (a0_10 : Int) (a0_11 : Bool) (a0_12 : Bool) (a0_13 : List (List T)) (a0_14 : List (List T)) (a0_15 : List (List T)) (a0_16 : List (List T)) : Option Outs :=
  impl_Apart_U k a0_0 a0_1 a0_2 a0_3 a0_4 a0_5 a0_6 a0_7 a0_8 a0_9 a0_10 a0_11 a0_12 a0_13 a0_14 a0_15 a0_16 (fun v => fixN (impl_Apart_l1 k a0_0 a0_1 a0_2 a0_3 a0_4 a0_5 a0_6 a0_7 a0_8 a0_9 a0_10 a0_11 a0_12 a0_13 a0_14 a0_15 a0_16) k v)
def impl_Apart_it1 (k : Nat) (a0_0 : Int) (a0_1 : Int) (a0_2 : Int) (a0_3 : List (List T)) (a0_4 : Int) (a0_5 : Int) (a0_6 : Int) (a0_7 : Int) (a0_8 : Int) (a0_9 : List (List T)) (a0_10 : Int) (a0_11 : Bool) (a0_12 : Bool) (a0_13 : List (List T)) (a0_14 : List (List T)) (a0_15 : List (List T)) (a0_16 : List (List T)) (js : List Nat) (j : Nat) (s : St) : Option Outs := iter (LB E (evalF E P0 k) k [] N.impl_Apart [.sr, .sl, .sr, .bl]) [] impl_Apart_k1 (LK E (evalF E P0 k) k [] N.impl_Apart [.v [.i a0_0, .i a0_1, .i a0_2, .r a0_3, .i a0_4, .i a0_5, .i a0_6, .i a0_7, .i a0_8, .r a0_9, .i a0_10, .b a0_11, .b a0_12, .r a0_13, .r a0_14, .r a0_15, .r a0_16]] [.sr, .sl, .sr, .bl] js) j s
def impl_Apart_it2 (k : Nat) (a0_0 : Int) (a0_1 : Int) (a0_2 : Int) (a0_3 : List (List T)) (a0_4 : Int) (a0_5 : Int) (a0_6 : Int) (a0_7 : Int) (a0_8 : Int) (a0_9 : List (List T)) (a0_10 : Int) (a0_11 : Bool) (a0_12 : Bool) (a0_13 : List (List T)) (a0_14 : List (List T)) (a0_15 : List (List T)) (a0_16 : List (List T)) (js : List Nat) (j : Nat) (s : St) : Option Outs := iter (LB E (evalF E P0 k) k [] N.impl_Apart [.sr, .sl, .sr, .bl, .lp, .sr, .sr, .sl, .bl, .sr, .sr, .bl]) [] impl_Apart_k2 (LK E (evalF E P0 k) k [] N.impl_Apart [.v [.i a0_0, .i a0_1, .i a0_2, .r a0_3, .i a0_4, .i a0_5, .i a0_6, .i a0_7, .i a0_8, .r a0_9, .i a0_10, .b a0_11, .b a0_12, .r a0_13, .r a0_14, .r a0_15, .r a0_16]] [.sr, .sl, .sr, .bl, .lp, .sr, .sr, .sl, .bl, .sr, .sr, .bl] js) j s
theorem impl_Apart_e (k : Nat) (a0_0 : Int) (a0_1 : Int) (a0_2 : Int) (a0_3 : List (List T)) (a0_4 : Int) (a0_5 : Int) (a0_6 : Int) (a0_7 : Int) (a0_8 : Int) (a0_9 : List (List T)) (a0_10 : Int) (a0_11 : Bool) (a0_12 : Bool) (a0_13 : List (List T)) (a0_14 : List (List T)) (a0_15 : List (List T)) (a0_16 : List (List T)) : evalF E P0 (k + 1) N.impl_Apart [.v [.i a0_0, .i a0_1, .i a0_2, .r a0_3, .i a0_4, .i a0_5, .i a0_6, .i a0_7, .i a0_8, .r a0_9, .i a0_10, .b a0_11, .b a0_12, .r a0_13, .r a0_14, .r a0_15, .r a0_16]] = impl_Apart_u k a0_0 a0_1 a0_2 a0_3 a0_4 a0_5 a0_6 a0_7 a0_8 a0_9 a0_10 a0_11 a0_12 a0_13 a0_14 a0_15 a0_16 := by
  have e0 : evalF E P0 (k + 1) N.impl_Apart [.v [.i a0_0, .i a0_1, .i a0_2, .r a0_3, .i a0_4, .i a0_5, .i a0_6, .i a0_7, .i a0_8, .r a0_9, .i a0_10, .b a0_11, .b a0_12, .r a0_13, .r a0_14, .r a0_15, .r a0_16]] = impl_Apart_U k a0_0 a0_1 a0_2 a0_3 a0_4 a0_5 a0_6 a0_7 a0_8 a0_9 a0_10 a0_11 a0_12 a0_13 a0_14 a0_15 a0_16 (fun v => impl_Apart_it1 k a0_0 a0_1 a0_2 a0_3 a0_4 a0_5 a0_6 a0_7 a0_8 a0_9 a0_10 a0_11 a0_12 a0_13 a0_14 a0_15 a0_16 [] k (impl_Apart_S1 a0_0 a0_1 a0_2 a0_3 a0_4 a0_5 a0_6 a0_7 a0_8 a0_9 a0_10 a0_11 a0_12 a0_13 a0_14 a0_15 a0_16 v)) := by kernel_rfl
  have e2 : ∀ (j1 : Nat) (p2103 : List (List T)) (p2104 : Int) (p2105 : Int) (p2106 : Int) (p2107 : Int) (p2108 : Int) (p2109 : List (List T)) (p2110 : Int) (p2111 : List (List T)) (p2112 : Int) (v184 : Int) (j2 : Nat) (v : Int), impl_Apart_it2 k a0_0 a0_1 a0_2 a0_3 a0_4 a0_5 a0_6 a0_7 a0_8 a0_9 a0_10 a0_11 a0_12 a0_13 a0_14 a0_15 a0_16 [j1] (j2 + 1) (impl_Apart_S2 a0_0 a0_1 a0_2 a0_3 a0_4 a0_5 a0_6 a0_7 a0_8 a0_9 a0_10 a0_11 a0_12 a0_13 a0_14 a0_15 a0_16 p2103 p2104 p2105 p2106 p2107 p2108 p2109 p2110 p2111 p2112 v184 v) = impl_Apart_L2 k a0_0 a0_1 a0_2 a0_3 a0_4 a0_5 a0_6 a0_7 a0_8 a0_9 a0_10 a0_11 a0_12 a0_13 a0_14 a0_15 a0_16 p2103 p2104 p2105 p2106 p2107 p2108 p2109 p2110 p2111 p2112 v184 (fun v => impl_Apart_it1 k a0_0 a0_1 a0_2 a0_3 a0_4 a0_5 a0_6 a0_7 a0_8 a0_9 a0_10 a0_11 a0_12 a0_13 a0_14 a0_15 a0_16 [] j1 (impl_Apart_S1 a0_0 a0_1 a0_2 a0_3 a0_4 a0_5 a0_6 a0_7 a0_8 a0_9 a0_10 a0_11 a0_12 a0_13 a0_14 a0_15 a0_16 v)) (fun v => impl_Apart_it2 k a0_0 a0_1 a0_2 a0_3 a0_4 a0_5 a0_6 a0_7 a0_8 a0_9 a0_10 a0_11 a0_12 a0_13 a0_14 a0_15 a0_16 [j1] j2 (impl_Apart_S2 a0_0 a0_1 a0_2 a0_3 a0_4 a0_5 a0_6 a0_7 a0_8 a0_9 a0_10 a0_11 a0_12 a0_13 a0_14 a0_15 a0_16 p2103 p2104 p2105 p2106 p2107 p2108 p2109 p2110 p2111 p2112 v184 v)) v := by
    intro j1 p2103 p2104 p2105 p2106 p2107 p2108 p2109 p2110 p2111 p2112 v184 j2 v; kernel_rfl
  have i2 : ∀ (j1 : Nat) (p2103 : List (List T)) (p2104 : Int) (p2105 : Int) (p2106 : Int) (p2107 : Int) (p2108 : Int) (p2109 : List (List T)) (p2110 : Int) (p2111 : List (List T)) (p2112 : Int) (v184 : Int) (j2 : Nat) (v : Int), impl_Apart_it2 k a0_0 a0_1 a0_2 a0_3 a0_4 a0_5 a0_6 a0_7 a0_8 a0_9 a0_10 a0_11 a0_12 a0_13 a0_14 a0_15 a0_16 [j1] j2 (impl_Apart_S2 a0_0 a0_1 a0_2 a0_3 a0_4 a0_5 a0_6 a0_7 a0_8 a0_9 a0_10 a0_11 a0_12 a0_13 a0_14 a0_15 a0_16 p2103 p2104 p2105 p2106 p2107 p2108 p2109 p2110 p2111 p2112 v184 v) = fixN (impl_Apart_l2 k a0_0 a0_1 a0_2 a0_3 a0_4 a0_5 a0_6 a0_7 a0_8 a0_9 a0_10 a0_11 a0_12 a0_13 a0_14 a0_15 a0_16 p2103 p2104 p2105 p2106 p2107 p2108 p2109 p2110 p2111 p2112 v184 (fun v => impl_Apart_it1 k a0_0 a0_1 a0_2 a0_3 a0_4 a0_5 a0_6 a0_7 a0_8 a0_9 a0_10 a0_11 a0_12 a0_13 a0_14 a0_15 a0_16 [] j1 (impl_Apart_S1 a0_0 a0_1 a0_2 a0_3 a0_4 a0_5 a0_6 a0_7 a0_8 a0_9 a0_10 a0_11 a0_12 a0_13 a0_14 a0_15 a0_16 v))) j2 v := by
    intro j1 p2103 p2104 p2105 p2106 p2107 p2108 p2109 p2110 p2111 p2112 v184 j2 v
    refine iter_fix (impl_Apart_S2 a0_0 a0_1 a0_2 a0_3 a0_4 a0_5 a0_6 a0_7 a0_8 a0_9 a0_10 a0_11 a0_12 a0_13 a0_14 a0_15 a0_16 p2103 p2104 p2105 p2106 p2107 p2108 p2109 p2110 p2111 p2112 v184) (impl_Apart_l2 k a0_0 a0_1 a0_2 a0_3 a0_4 a0_5 a0_6 a0_7 a0_8 a0_9 a0_10 a0_11 a0_12 a0_13 a0_14 a0_15 a0_16 p2103 p2104 p2105 p2106 p2107 p2108 p2109 p2110 p2111 p2112 v184 (fun v => impl_Apart_it1 k a0_0 a0_1 a0_2 a0_3 a0_4 a0_5 a0_6 a0_7 a0_8 a0_9 a0_10 a0_11 a0_12 a0_13 a0_14 a0_15 a0_16 [] j1 (impl_Apart_S1 a0_0 a0_1 a0_2 a0_3 a0_4 a0_5 a0_6 a0_7 a0_8 a0_9 a0_10 a0_11 a0_12 a0_13 a0_14 a0_15 a0_16 v))) (fun j2 v => (e2 j1 p2103 p2104 p2105 p2106 p2107 p2108 p2109 p2110 p2111 p2112 v184 j2 v).trans ?_) j2 v
    unfold impl_Apart_l2
    rfl
  have e1 : ∀ (j1 : Nat) (v : Int), impl_Apart_it1 k a0_0 a0_1 a0_2 a0_3 a0_4 a0_5 a0_6 a0_7 a0_8 a0_9 a0_10 a0_11 a0_12 a0_13 a0_14 a0_15 a0_16 [] (j1 + 1) (impl_Apart_S1 a0_0 a0_1 a0_2 a0_3 a0_4 a0_5 a0_6 a0_7 a0_8 a0_9 a0_10 a0_11 a0_12 a0_13 a0_14 a0_15 a0_16 v) = impl_Apart_L1 k a0_0 a0_1 a0_2 a0_3 a0_4 a0_5 a0_6 a0_7 a0_8 a0_9 a0_10 a0_11 a0_12 a0_13 a0_14 a0_15 a0_16 (fun y0 y1 y2 y3 y4 y5 y6 y7 y8 y9 y10 v => impl_Apart_it2 k a0_0 a0_1 a0_2 a0_3 a0_4 a0_5 a0_6 a0_7 a0_8 a0_9 a0_10 a0_11 a0_12 a0_13 a0_14 a0_15 a0_16 [j1] k (impl_Apart_S2 a0_0 a0_1 a0_2 a0_3 a0_4 a0_5 a0_6 a0_7 a0_8 a0_9 a0_10 a0_11 a0_12 a0_13 a0_14 a0_15 a0_16 y0 y1 y2 y3 y4 y5 y6 y7 y8 y9 y10 v)) (fun v => impl_Apart_it1 k a0_0 a0_1 a0_2 a0_3 a0_4 a0_5 a0_6 a0_7 a0_8 a0_9 a0_10 a0_11 a0_12 a0_13 a0_14 a0_15 a0_16 [] j1 (impl_Apart_S1 a0_0 a0_1 a0_2 a0_3 a0_4 a0_5 a0_6 a0_7 a0_8 a0_9 a0_10 a0_11 a0_12 a0_13 a0_14 a0_15 a0_16 v)) v := by
    intro j1 v; kernel_rfl
  have i1 : ∀ (j1 : Nat) (v : Int), impl_Apart_it1 k a0_0 a0_1 a0_2 a0_3 a0_4 a0_5 a0_6 a0_7 a0_8 a0_9 a0_10 a0_11 a0_12 a0_13 a0_14 a0_15 a0_16 [] j1 (impl_Apart_S1 a0_0 a0_1 a0_2 a0_3 a0_4 a0_5 a0_6 a0_7 a0_8 a0_9 a0_10 a0_11 a0_12 a0_13 a0_14 a0_15 a0_16 v) = fixN (impl_Apart_l1 k a0_0 a0_1 a0_2 a0_3 a0_4 a0_5 a0_6 a0_7 a0_8 a0_9 a0_10 a0_11 a0_12 a0_13 a0_14 a0_15 a0_16) j1 v := by
    intro j1 v
    refine iter_fix (impl_Apart_S1 a0_0 a0_1 a0_2 a0_3 a0_4 a0_5 a0_6 a0_7 a0_8 a0_9 a0_10 a0_11 a0_12 a0_13 a0_14 a0_15 a0_16) (impl_Apart_l1 k a0_0 a0_1 a0_2 a0_3 a0_4 a0_5 a0_6 a0_7 a0_8 a0_9 a0_10 a0_11 a0_12 a0_13 a0_14 a0_15 a0_16) (fun j1 v => (e1 j1 v).trans ?_) j1 v
    unfold impl_Apart_l1
    simp only [i2] <;> rfl
  rw [e0]; unfold impl_Apart_u
  simp only [i1]
/- laws.eqGeo -/
def laws_eqGeo_u (k : Nat) (a0_0 : Int) (a0_1 : Int) (a1_0 : Int) (a1_1 : Int) : Option Outs :=
 bif (a0_0 != a1_0) then
  some ⟨[.b false], []⟩
 else
  bif (a0_1 != a1_1) then some ⟨[.b false], []⟩ else some ⟨[.b true], []⟩
theorem laws_eqGeo_e (k : Nat) (a0_0 : Int) (a0_1 : Int) (a1_0 : Int) (a1_1 : Int) : evalF E P0 (k + 1) N.laws_eqGeo [.v [.i a0_0, .i a0_1], .v [.i a1_0, .i a1_1]] = laws_eqGeo_u k a0_0 a0_1 a1_0 a1_1 := by kernel_rfl
/- laws.eqIntSS -/
def laws_eqIntSS_L1 (k : Nat) (a0 : List (List T)) (a1 : List (List T)) (G1 : (Int) → Option Outs) : (Int) → Option Outs := fun v8 =>
 bif (decide (v8 < (a0.length : Int))) then
  chk (decide (0 ≤ v8) && decide (v8 < (a0.length : Int))) <|
  chk (decide (0 ≤ v8) && decide (v8 < (a1.length : Int))) <|
  bindO (evalF E P0 k N.laws_eqIntS [.v [.r (at_ a0 v8.toNat 0).asR], .v [.r (at_ a1 v8.toNat 0).asR]]) fun o96 =>
  bif (!(o96.t 0).asB) then some ⟨[.b false], []⟩ else G1 (IntKind.wrap .i64 (v8 + 1))
 else
  some ⟨[.b true], []⟩
def laws_eqIntSS_k1 : List Nat := [0, 1, 4, 5]
def laws_eqIntSS_S1 (a0 : List (List T)) (a1 : List (List T)) : (Int) → St := fun v8 => ⟨ofSl [(0, .sl 24 a0), (1, .sl 24 a1), (4, .b false), (5, .i .i64 v8)], ofMem []⟩
def laws_eqIntSS_l1 (k : Nat) (a0 : List (List T)) (a1 : List (List T)) (G1 : (Int) → Option Outs) : (Int) → Option Outs :=
  laws_eqIntSS_L1 k a0 a1 G1
def laws_eqIntSS_U (k : Nat) (a0 : List (List T)) (a1 : List (List T)) (R1 : (Int) → Option Outs) : Option Outs :=
 bif ((a0.length : Int) != (a1.length : Int)) then some ⟨[.b false], []⟩ else R1 0
def laws_eqIntSS_u (k : Nat) (a0 : List (List T)) (a1 : List (List T)) : Option Outs :=
  laws_eqIntSS_U k a0 a1 (fun v => fixN (laws_eqIntSS_l1 k a0 a1) k v)
def laws_eqIntSS_it1 (k : Nat) (a0 : List (List T)) (a1 : List (List T)) (js : List Nat) (j : Nat) (s : St) : Option Outs := iter (LB E (evalF E P0 k) k [] N.laws_eqIntSS [.sr, .sr, .sl, .sr, .bl]) [] laws_eqIntSS_k1 (LK E (evalF E P0 k) k [] N.laws_eqIntSS [.v [.r a0], .v [.r a1]] [.sr, .sr, .sl, .sr, .bl] js) j s
theorem laws_eqIntSS_e (k : Nat) (a0 : List (List T)) (a1 : List (List T)) : evalF E P0 (k + 1) N.laws_eqIntSS [.v [.r a0], .v [.r a1]] = laws_eqIntSS_u k a0 a1 := by
  have e0 : evalF E P0 (k + 1) N.laws_eqIntSS [.v [.r a0], .v [.r a1]] = laws_eqIntSS_U k a0 a1 (fun v => laws_eqIntSS_it1 k a0 a1 [] k (laws_eqIntSS_S1 a0 a1 v)) := by kernel_rfl
  have e1 : ∀ (j1 : Nat) (v : Int), laws_eqIntSS_it1 k a0 a1 [] (j1 + 1) (laws_eqIntSS_S1 a0 a1 v) = laws_eqIntSS_L1 k a0 a1 (fun v => laws_eqIntSS_it1 k a0 a1 [] j1 (laws_eqIntSS_S1 a0 a1 v)) v := by
    intro j1 v; kernel_rfl
  have i1 : ∀ (j1 : Nat) (v : Int), laws_eqIntSS_it1 k a0 a1 [] j1 (laws_eqIntSS_S1 a0 a1 v) = fixN (laws_eqIntSS_l1 k a0 a1) j1 v := by
    intro j1 v
    refine iter_fix (laws_eqIntSS_S1 a0 a1) (laws_eqIntSS_l1 k a0 a1) (fun j1 v => (e1 j1 v).trans ?_) j1 v
    unfold laws_eqIntSS_l1
    rfl
  rw [e0]; unfold laws_eqIntSS_u
  simp only [i1]
/- laws.eqWr -/
def laws_eqWr_u (k : Nat) (a0_0 : Int) (a0_1 : List (List T)) (a1_0 : Int) (a1_1 : List (List T)) : Option Outs :=
 bif (a0_0 != a1_0) then
  some ⟨[.b false], []⟩
 else
  bindO (evalF E P0 k N.laws_eqIntS [.v [.r a0_1], .v [.r a1_1]]) fun o2 =>
  bif (!(o2.t 0).asB) then some ⟨[.b false], []⟩ else some ⟨[.b true], []⟩
theorem laws_eqWr_e (k : Nat) (a0_0 : Int) (a0_1 : List (List T)) (a1_0 : Int) (a1_1 : List (List T)) : evalF E P0 (k + 1) N.laws_eqWr [.v [.i a0_0, .r a0_1], .v [.i a1_0, .r a1_1]] = laws_eqWr_u k a0_0 a0_1 a1_0 a1_1 := by kernel_rfl
/- laws.eqWrS -/
def laws_eqWrS_L1 (k : Nat) (a0 : List (List T)) (a1 : List (List T)) (G1 : (Int) → Option Outs) : (Int) → Option Outs := fun v8 =>
 bif (decide (v8 < (a0.length : Int))) then
  chk (decide (0 ≤ v8) && decide (v8 < (a0.length : Int))) <|
  chk (decide (0 ≤ v8) && decide (v8 < (a1.length : Int))) <|
  bindO (evalF E P0 k N.laws_eqWr [.v [.i (at_ a0 v8.toNat 0).asI, .r (at_ a0 v8.toNat 1).asR], .v [.i (at_ a1 v8.toNat 0).asI, .r (at_ a1 v8.toNat 1).asR]]) fun o96 =>
  bif (!(o96.t 0).asB) then some ⟨[.b false], []⟩ else G1 (IntKind.wrap .i64 (v8 + 1))
 else
  some ⟨[.b true], []⟩
def laws_eqWrS_k1 : List Nat := [0, 1, 4, 5]
def laws_eqWrS_S1 (a0 : List (List T)) (a1 : List (List T)) : (Int) → St := fun v8 => ⟨ofSl [(0, .sl 162 a0), (1, .sl 162 a1), (4, .b false), (5, .i .i64 v8)], ofMem []⟩
def laws_eqWrS_l1 (k : Nat) (a0 : List (List T)) (a1 : List (List T)) (G1 : (Int) → Option Outs) : (Int) → Option Outs :=
  laws_eqWrS_L1 k a0 a1 G1
def laws_eqWrS_U (k : Nat) (a0 : List (List T)) (a1 : List (List T)) (R1 : (Int) → Option Outs) : Option Outs :=
 bif ((a0.length : Int) != (a1.length : Int)) then some ⟨[.b false], []⟩ else R1 0
def laws_eqWrS_u (k : Nat) (a0 : List (List T)) (a1 : List (List T)) : Option Outs :=
  laws_eqWrS_U k a0 a1 (fun v => fixN (laws_eqWrS_l1 k a0 a1) k v)
def laws_eqWrS_it1 (k : Nat) (a0 : List (List T)) (a1 : List (List T)) (js : List Nat) (j : Nat) (s : St) : Option Outs := iter (LB E (evalF E P0 k) k [] N.laws_eqWrS [.sr, .sr, .sl, .sr, .bl]) [] laws_eqWrS_k1 (LK E (evalF E P0 k) k [] N.laws_eqWrS [.v [.r a0], .v [.r a1]] [.sr, .sr, .sl, .sr, .bl] js) j s
theorem laws_eqWrS_e (k : Nat) (a0 : List (List T)) (a1 : List (List T)) : evalF E P0 (k + 1) N.laws_eqWrS [.v [.r a0], .v [.r a1]] = laws_eqWrS_u k a0 a1 := by
  have e0 : evalF E P0 (k + 1) N.laws_eqWrS [.v [.r a0], .v [.r a1]] = laws_eqWrS_U k a0 a1 (fun v => laws_eqWrS_it1 k a0 a1 [] k (laws_eqWrS_S1 a0 a1 v)) := by kernel_rfl
  have e1 : ∀ (j1 : Nat) (v : Int), laws_eqWrS_it1 k a0 a1 [] (j1 + 1) (laws_eqWrS_S1 a0 a1 v) = laws_eqWrS_L1 k a0 a1 (fun v => laws_eqWrS_it1 k a0 a1 [] j1 (laws_eqWrS_S1 a0 a1 v)) v := by
    intro j1 v; kernel_rfl
  have i1 : ∀ (j1 : Nat) (v : Int), laws_eqWrS_it1 k a0 a1 [] j1 (laws_eqWrS_S1 a0 a1 v) = fixN (laws_eqWrS_l1 k a0 a1) j1 v := by
    intro j1 v
    refine iter_fix (laws_eqWrS_S1 a0 a1) (laws_eqWrS_l1 k a0 a1) (fun j1 v => (e1 j1 v).trans ?_) j1 v
    unfold laws_eqWrS_l1
    rfl
  rw [e0]; unfold laws_eqWrS_u
  simp only [i1]
/- laws.eqMem -/
def laws_eqMem_u (k : Nat) (a0_0 : List (List T)) (a0_1 : List (List T)) (a0_2 : Bool) (a0_3 : List (List T)) (a1_0 : List (List T)) (a1_1 : List (List T)) (a1_2 : Bool) (a1_3 : List (List T)) : Option Outs :=
 bindO (evalF E P0 k N.laws_eqIntSS [.v [.r a0_0], .v [.r a1_0]]) fun o2 =>
 bif (!(o2.t 0).asB) then
  some ⟨[.b false], []⟩
 else
  bindO (evalF E P0 k N.laws_eqWrS [.v [.r a0_1], .v [.r a1_1]]) fun o4 =>
  bif (!(o4.t 0).asB) then
   some ⟨[.b false], []⟩
  else
   bif (!(a0_2 == a1_2)) then
    some ⟨[.b false], []⟩
   else
    bindO (evalF E P0 k N.laws_eqIntS [.v [.r a0_3], .v [.r a1_3]]) fun o6 =>
    bif (!(o6.t 0).asB) then some ⟨[.b false], []⟩ else some ⟨[.b true], []⟩
theorem laws_eqMem_e (k : Nat) (a0_0 : List (List T)) (a0_1 : List (List T)) (a0_2 : Bool) (a0_3 : List (List T)) (a1_0 : List (List T)) (a1_1 : List (List T)) (a1_2 : Bool) (a1_3 : List (List T)) : evalF E P0 (k + 1) N.laws_eqMem [.v [.r a0_0, .r a0_1, .b a0_2, .r a0_3], .v [.r a1_0, .r a1_1, .b a1_2, .r a1_3]] = laws_eqMem_u k a0_0 a0_1 a0_2 a0_3 a1_0 a1_1 a1_2 a1_3 := by kernel_rfl
/- laws.eqMemS -/
def laws_eqMemS_L1 (k : Nat) (a0 : List (List T)) (a1 : List (List T)) (G1 : (Int) → Option Outs) : (Int) → Option Outs := fun v8 =>
 bif (decide (v8 < (a0.length : Int))) then
  chk (decide (0 ≤ v8) && decide (v8 < (a0.length : Int))) <|
  chk (decide (0 ≤ v8) && decide (v8 < (a1.length : Int))) <|
  bindO (evalF E P0 k N.laws_eqMem [.v [.r (at_ a0 v8.toNat 0).asR, .r (at_ a0 v8.toNat 1).asR, .b (at_ a0 v8.toNat 2).asB, .r (at_ a0 v8.toNat 3).asR], .v [.r (at_ a1 v8.toNat 0).asR, .r (at_ a1 v8.toNat 1).asR, .b (at_ a1 v8.toNat 2).asB, .r (at_ a1 v8.toNat 3).asR]]) fun o96 =>
  bif (!(o96.t 0).asB) then some ⟨[.b false], []⟩ else G1 (IntKind.wrap .i64 (v8 + 1))
 else
  some ⟨[.b true], []⟩
def laws_eqMemS_k1 : List Nat := [0, 1, 4, 5]
def laws_eqMemS_S1 (a0 : List (List T)) (a1 : List (List T)) : (Int) → St := fun v8 => ⟨ofSl [(0, .sl 143 a0), (1, .sl 143 a1), (4, .b false), (5, .i .i64 v8)], ofMem []⟩
def laws_eqMemS_l1 (k : Nat) (a0 : List (List T)) (a1 : List (List T)) (G1 : (Int) → Option Outs) : (Int) → Option Outs :=
  laws_eqMemS_L1 k a0 a1 G1
def laws_eqMemS_U (k : Nat) (a0 : List (List T)) (a1 : List (List T)) (R1 : (Int) → Option Outs) : Option Outs :=
 bif ((a0.length : Int) != (a1.length : Int)) then some ⟨[.b false], []⟩ else R1 0
def laws_eqMemS_u (k : Nat) (a0 : List (List T)) (a1 : List (List T)) : Option Outs :=
  laws_eqMemS_U k a0 a1 (fun v => fixN (laws_eqMemS_l1 k a0 a1) k v)
def laws_eqMemS_it1 (k : Nat) (a0 : List (List T)) (a1 : List (List T)) (js : List Nat) (j : Nat) (s : St) : Option Outs := iter (LB E (evalF E P0 k) k [] N.laws_eqMemS [.sr, .sr, .sl, .sr, .bl]) [] laws_eqMemS_k1 (LK E (evalF E P0 k) k [] N.laws_eqMemS [.v [.r a0], .v [.r a1]] [.sr, .sr, .sl, .sr, .bl] js) j s
theorem laws_eqMemS_e (k : Nat) (a0 : List (List T)) (a1 : List (List T)) : evalF E P0 (k + 1) N.laws_eqMemS [.v [.r a0], .v [.r a1]] = laws_eqMemS_u k a0 a1 := by
  have e0 : evalF E P0 (k + 1) N.laws_eqMemS [.v [.r a0], .v [.r a1]] = laws_eqMemS_U k a0 a1 (fun v => laws_eqMemS_it1 k a0 a1 [] k (laws_eqMemS_S1 a0 a1 v)) := by kernel_rfl
  have e1 : ∀ (j1 : Nat) (v : Int), laws_eqMemS_it1 k a0 a1 [] (j1 + 1) (laws_eqMemS_S1 a0 a1 v) = laws_eqMemS_L1 k a0 a1 (fun v => laws_eqMemS_it1 k a0 a1 [] j1 (laws_eqMemS_S1 a0 a1 v)) v := by
    intro j1 v; kernel_rfl
  have i1 : ∀ (j1 : Nat) (v : Int), laws_eqMemS_it1 k a0 a1 [] j1 (laws_eqMemS_S1 a0 a1 v) = fixN (laws_eqMemS_l1 k a0 a1) j1 v := by
    intro j1 v
    refine iter_fix (laws_eqMemS_S1 a0 a1) (laws_eqMemS_l1 k a0 a1) (fun j1 v => (e1 j1 v).trans ?_) j1 v
    unfold laws_eqMemS_l1
    rfl
  rw [e0]; unfold laws_eqMemS_u
  simp only [i1]
/- laws.eqEnt -/
def laws_eqEnt_u (k : Nat) (a0_0 : Int) (a0_1 : List (List T)) (a1_0 : Int) (a1_1 : List (List T)) : Option Outs :=
 bif (a0_0 != a1_0) then
  some ⟨[.b false], []⟩
 else
  bindO (evalF E P0 k N.laws_eqIntS [.v [.r a0_1], .v [.r a1_1]]) fun o2 =>
  bif (!(o2.t 0).asB) then some ⟨[.b false], []⟩ else some ⟨[.b true], []⟩
theorem laws_eqEnt_e (k : Nat) (a0_0 : Int) (a0_1 : List (List T)) (a1_0 : Int) (a1_1 : List (List T)) : evalF E P0 (k + 1) N.laws_eqEnt [.v [.i a0_0, .r a0_1], .v [.i a1_0, .r a1_1]] = laws_eqEnt_u k a0_0 a0_1 a1_0 a1_1 := by kernel_rfl
/- laws.eqEntS -/
def laws_eqEntS_L1 (k : Nat) (a0 : List (List T)) (a1 : List (List T)) (G1 : (Int) → Option Outs) : (Int) → Option Outs := fun v8 =>
 bif (decide (v8 < (a0.length : Int))) then
  chk (decide (0 ≤ v8) && decide (v8 < (a0.length : Int))) <|
  chk (decide (0 ≤ v8) && decide (v8 < (a1.length : Int))) <|
  bindO (evalF E P0 k N.laws_eqEnt [.v [.i (at_ a0 v8.toNat 0).asI, .r (at_ a0 v8.toNat 1).asR], .v [.i (at_ a1 v8.toNat 0).asI, .r (at_ a1 v8.toNat 1).asR]]) fun o96 =>
  bif (!(o96.t 0).asB) then some ⟨[.b false], []⟩ else G1 (IntKind.wrap .i64 (v8 + 1))
 else
  some ⟨[.b true], []⟩
def laws_eqEntS_k1 : List Nat := [0, 1, 4, 5]
def laws_eqEntS_S1 (a0 : List (List T)) (a1 : List (List T)) : (Int) → St := fun v8 => ⟨ofSl [(0, .sl 155 a0), (1, .sl 155 a1), (4, .b false), (5, .i .i64 v8)], ofMem []⟩
def laws_eqEntS_l1 (k : Nat) (a0 : List (List T)) (a1 : List (List T)) (G1 : (Int) → Option Outs) : (Int) → Option Outs :=
  laws_eqEntS_L1 k a0 a1 G1
def laws_eqEntS_U (k : Nat) (a0 : List (List T)) (a1 : List (List T)) (R1 : (Int) → Option Outs) : Option Outs :=
 bif ((a0.length : Int) != (a1.length : Int)) then some ⟨[.b false], []⟩ else R1 0
def laws_eqEntS_u (k : Nat) (a0 : List (List T)) (a1 : List (List T)) : Option Outs :=
  laws_eqEntS_U k a0 a1 (fun v => fixN (laws_eqEntS_l1 k a0 a1) k v)
def laws_eqEntS_it1 (k : Nat) (a0 : List (List T)) (a1 : List (List T)) (js : List Nat) (j : Nat) (s : St) : Option Outs := iter (LB E (evalF E P0 k) k [] N.laws_eqEntS [.sr, .sr, .sl, .sr, .bl]) [] laws_eqEntS_k1 (LK E (evalF E P0 k) k [] N.laws_eqEntS [.v [.r a0], .v [.r a1]] [.sr, .sr, .sl, .sr, .bl] js) j s
theorem laws_eqEntS_e (k : Nat) (a0 : List (List T)) (a1 : List (List T)) : evalF E P0 (k + 1) N.laws_eqEntS [.v [.r a0], .v [.r a1]] = laws_eqEntS_u k a0 a1 := by
  have e0 : evalF E P0 (k + 1) N.laws_eqEntS [.v [.r a0], .v [.r a1]] = laws_eqEntS_U k a0 a1 (fun v => laws_eqEntS_it1 k a0 a1 [] k (laws_eqEntS_S1 a0 a1 v)) := by kernel_rfl
  have e1 : ∀ (j1 : Nat) (v : Int), laws_eqEntS_it1 k a0 a1 [] (j1 + 1) (laws_eqEntS_S1 a0 a1 v) = laws_eqEntS_L1 k a0 a1 (fun v => laws_eqEntS_it1 k a0 a1 [] j1 (laws_eqEntS_S1 a0 a1 v)) v := by
    intro j1 v; kernel_rfl
  have i1 : ∀ (j1 : Nat) (v : Int), laws_eqEntS_it1 k a0 a1 [] j1 (laws_eqEntS_S1 a0 a1 v) = fixN (laws_eqEntS_l1 k a0 a1) j1 v := by
    intro j1 v
    refine iter_fix (laws_eqEntS_S1 a0 a1) (laws_eqEntS_l1 k a0 a1) (fun j1 v => (e1 j1 v).trans ?_) j1 v
    unfold laws_eqEntS_l1
    rfl
  rw [e0]; unfold laws_eqEntS_u
  simp only [i1]
/- laws.eqArr -/
def laws_eqArr_u (k : Nat) (a0_0 : Int) (a0_1 : Int) (a0_2 : Int) (a0_3 : List (List T)) (a0_4 : Int) (a0_5 : Int) (a0_6 : Int) (a0_7 : Int) (a0_8 : Int) (a0_9 : List (List T)) (a0_10 : Int) (a0_11 : Bool) (a0_12 : Bool) (a1_0 : Int) (a1_1 : Int) (a1_2 : Int) (a1_3 : List (List T)) (a1_4 : Int) (a1_5 : Int) (a1_6 : Int) (a1_7 : Int) (a1_8 : Int) (a1_9 : List (List T)) (a1_10 : Int) (a1_11 : Bool) (a1_12 : Bool) : Option Outs :=
 bif (a0_0 != a1_0) then
  some ⟨[.b false], []⟩
 else
  bindO (evalF E P0 k N.laws_eqGeo [.v [.i a0_1, .i a0_2], .v [.i a1_1, .i a1_2]]) fun o2 =>
  bif (!(o2.t 0).asB) then
   some ⟨[.b false], []⟩
  else
   bindO (evalF E P0 k N.laws_eqMemS [.v [.r a0_3], .v [.r a1_3]]) fun o4 =>
   bif (!(o4.t 0).asB) then
    some ⟨[.b false], []⟩
   else
    bif (a0_4 != a1_4) then
     some ⟨[.b false], []⟩
    else
     bif (a0_5 != a1_5) then
      some ⟨[.b false], []⟩
     else
      bif (a0_6 != a1_6) then
       some ⟨[.b false], []⟩
      else
       bif (a0_7 != a1_7) then
        some ⟨[.b false], []⟩
       else
        bif (a0_8 != a1_8) then
         some ⟨[.b false], []⟩
        else
         bindO (evalF E P0 k N.laws_eqEntS [.v [.r a0_9], .v [.r a1_9]]) fun o6 =>
         bif (!(o6.t 0).asB) then
          some ⟨[.b false], []⟩
         else
          bif (a0_10 != a1_10) then
           some ⟨[.b false], []⟩
          else
           bif (!(a0_11 == a1_11)) then
            some ⟨[.b false], []⟩
           else
            bif (!(a0_12 == a1_12)) then some ⟨[.b false], []⟩ else some ⟨[.b true], []⟩
theorem laws_eqArr_e (k : Nat) (a0_0 : Int) (a0_1 : Int) (a0_2 : Int) (a0_3 : List (List T)) (a0_4 : Int) (a0_5 : Int) (a0_6 : Int) (a0_7 : Int) (a0_8 : Int) (a0_9 : List (List T)) (a0_10 : Int) (a0_11 : Bool) (a0_12 : Bool) (a1_0 : Int) (a1_1 : Int) (a1_2 : Int) (a1_3 : List (List T)) (a1_4 : Int) (a1_5 : Int) (a1_6 : Int) (a1_7 : Int) (a1_8 : Int) (a1_9 : List (List T)) (a1_10 : Int) (a1_11 : Bool) (a1_12 : Bool) : evalF E P0 (k + 1) N.laws_eqArr [.v [.i a0_0, .i a0_1, .i a0_2, .r a0_3, .i a0_4, .i a0_5, .i a0_6, .i a0_7, .i a0_8, .r a0_9, .i a0_10, .b a0_11, .b a0_12], .v [.i a1_0, .i a1_1, .i a1_2, .r a1_3, .i a1_4, .i a1_5, .i a1_6, .i a1_7, .i a1_8, .r a1_9, .i a1_10, .b a1_11, .b a1_12]] = laws_eqArr_u k a0_0 a0_1 a0_2 a0_3 a0_4 a0_5 a0_6 a0_7 a0_8 a0_9 a0_10 a0_11 a0_12 a1_0 a1_1 a1_2 a1_3 a1_4 a1_5 a1_6 a1_7 a1_8 a1_9 a1_10 a1_11 a1_12 := by kernel_rfl
/- laws.eqCmdS -/
def laws_eqCmdS_L1 (k : Nat) (a0 : List (List T)) (a1 : List (List T)) (G1 : (Int) → Option Outs) : (Int) → Option Outs := fun v8 =>
 bif (decide (v8 < (a0.length : Int))) then
  chk (decide (0 ≤ v8) && decide (v8 < (a0.length : Int))) <|
  chk (decide (0 ≤ v8) && decide (v8 < (a1.length : Int))) <|
  bindO (evalF E P0 k N.laws_eqCmd [.v [.i (at_ a0 v8.toNat 0).asI, .i (at_ a0 v8.toNat 1).asI, .i (at_ a0 v8.toNat 2).asI, .i (at_ a0 v8.toNat 3).asI, .r (at_ a0 v8.toNat 4).asR], .v [.i (at_ a1 v8.toNat 0).asI, .i (at_ a1 v8.toNat 1).asI, .i (at_ a1 v8.toNat 2).asI, .i (at_ a1 v8.toNat 3).asI, .r (at_ a1 v8.toNat 4).asR]]) fun o96 =>
  bif (!(o96.t 0).asB) then some ⟨[.b false], []⟩ else G1 (IntKind.wrap .i64 (v8 + 1))
 else
  some ⟨[.b true], []⟩
def laws_eqCmdS_k1 : List Nat := [0, 1, 4, 5]
def laws_eqCmdS_S1 (a0 : List (List T)) (a1 : List (List T)) : (Int) → St := fun v8 => ⟨ofSl [(0, .sl 31 a0), (1, .sl 31 a1), (4, .b false), (5, .i .i64 v8)], ofMem []⟩
def laws_eqCmdS_l1 (k : Nat) (a0 : List (List T)) (a1 : List (List T)) (G1 : (Int) → Option Outs) : (Int) → Option Outs :=
  laws_eqCmdS_L1 k a0 a1 G1
def laws_eqCmdS_U (k : Nat) (a0 : List (List T)) (a1 : List (List T)) (R1 : (Int) → Option Outs) : Option Outs :=
 bif ((a0.length : Int) != (a1.length : Int)) then some ⟨[.b false], []⟩ else R1 0
def laws_eqCmdS_u (k : Nat) (a0 : List (List T)) (a1 : List (List T)) : Option Outs :=
  laws_eqCmdS_U k a0 a1 (fun v => fixN (laws_eqCmdS_l1 k a0 a1) k v)
def laws_eqCmdS_it1 (k : Nat) (a0 : List (List T)) (a1 : List (List T)) (js : List Nat) (j : Nat) (s : St) : Option Outs := iter (LB E (evalF E P0 k) k [] N.laws_eqCmdS [.sr, .sr, .sl, .sr, .bl]) [] laws_eqCmdS_k1 (LK E (evalF E P0 k) k [] N.laws_eqCmdS [.v [.r a0], .v [.r a1]] [.sr, .sr, .sl, .sr, .bl] js) j s
theorem laws_eqCmdS_e (k : Nat) (a0 : List (List T)) (a1 : List (List T)) : evalF E P0 (k + 1) N.laws_eqCmdS [.v [.r a0], .v [.r a1]] = laws_eqCmdS_u k a0 a1 := by
  have e0 : evalF E P0 (k + 1) N.laws_eqCmdS [.v [.r a0], .v [.r a1]] = laws_eqCmdS_U k a0 a1 (fun v => laws_eqCmdS_it1 k a0 a1 [] k (laws_eqCmdS_S1 a0 a1 v)) := by kernel_rfl
  have e1 : ∀ (j1 : Nat) (v : Int), laws_eqCmdS_it1 k a0 a1 [] (j1 + 1) (laws_eqCmdS_S1 a0 a1 v) = laws_eqCmdS_L1 k a0 a1 (fun v => laws_eqCmdS_it1 k a0 a1 [] j1 (laws_eqCmdS_S1 a0 a1 v)) v := by
    intro j1 v; kernel_rfl
  have i1 : ∀ (j1 : Nat) (v : Int), laws_eqCmdS_it1 k a0 a1 [] j1 (laws_eqCmdS_S1 a0 a1 v) = fixN (laws_eqCmdS_l1 k a0 a1) j1 v := by
    intro j1 v
    refine iter_fix (laws_eqCmdS_S1 a0 a1) (laws_eqCmdS_l1 k a0 a1) (fun j1 v => (e1 j1 v).trans ?_) j1 v
    unfold laws_eqCmdS_l1
    rfl
  rw [e0]; unfold laws_eqCmdS_u
  simp only [i1]
/- laws.eqJob -/
def laws_eqJob_u (k : Nat) (a0_0 : Int) (a0_1 : Int) (a0_2 : Int) (a0_3 : Int) (a0_4 : List (List T)) (a0_5 : Int) (a0_6 : List (List T)) (a0_7 : Int) (a1_0 : Int) (a1_1 : Int) (a1_2 : Int) (a1_3 : Int) (a1_4 : List (List T)) (a1_5 : Int) (a1_6 : List (List T)) (a1_7 : Int) : Option Outs :=
 bindO (evalF E P0 k N.laws_eqCmd [.v [.i a0_0, .i a0_1, .i a0_2, .i a0_3, .r a0_4], .v [.i a1_0, .i a1_1, .i a1_2, .i a1_3, .r a1_4]]) fun o2 =>
 bif (!(o2.t 0).asB) then
  some ⟨[.b false], []⟩
 else
  bif (a0_5 != a1_5) then
   some ⟨[.b false], []⟩
  else
   bindO (evalF E P0 k N.laws_eqIntS [.v [.r a0_6], .v [.r a1_6]]) fun o4 =>
   bif (!(o4.t 0).asB) then
    some ⟨[.b false], []⟩
   else
    bif (a0_7 != a1_7) then some ⟨[.b false], []⟩ else some ⟨[.b true], []⟩
theorem laws_eqJob_e (k : Nat) (a0_0 : Int) (a0_1 : Int) (a0_2 : Int) (a0_3 : Int) (a0_4 : List (List T)) (a0_5 : Int) (a0_6 : List (List T)) (a0_7 : Int) (a1_0 : Int) (a1_1 : Int) (a1_2 : Int) (a1_3 : Int) (a1_4 : List (List T)) (a1_5 : Int) (a1_6 : List (List T)) (a1_7 : Int) : evalF E P0 (k + 1) N.laws_eqJob [.v [.i a0_0, .i a0_1, .i a0_2, .i a0_3, .r a0_4, .i a0_5, .r a0_6, .i a0_7], .v [.i a1_0, .i a1_1, .i a1_2, .i a1_3, .r a1_4, .i a1_5, .r a1_6, .i a1_7]] = laws_eqJob_u k a0_0 a0_1 a0_2 a0_3 a0_4 a0_5 a0_6 a0_7 a1_0 a1_1 a1_2 a1_3 a1_4 a1_5 a1_6 a1_7 := by kernel_rfl
/- laws.eqJobS -/
def laws_eqJobS_L1 (k : Nat) (a0 : List (List T)) (a1 : List (List T)) (G1 : (Int) → Option Outs) : (Int) → Option Outs := fun v8 =>
 bif (decide (v8 < (a0.length : Int))) then
  chk (decide (0 ≤ v8) && decide (v8 < (a0.length : Int))) <|
  chk (decide (0 ≤ v8) && decide (v8 < (a1.length : Int))) <|
  bindO (evalF E P0 k N.laws_eqJob [.v [.i (at_ a0 v8.toNat 0).asI, .i (at_ a0 v8.toNat 1).asI, .i (at_ a0 v8.toNat 2).asI, .i (at_ a0 v8.toNat 3).asI, .r (at_ a0 v8.toNat 4).asR, .i (at_ a0 v8.toNat 5).asI, .r (at_ a0 v8.toNat 6).asR, .i (at_ a0 v8.toNat 7).asI], .v [.i (at_ a1 v8.toNat 0).asI, .i (at_ a1 v8.toNat 1).asI, .i (at_ a1 v8.toNat 2).asI, .i (at_ a1 v8.toNat 3).asI, .r (at_ a1 v8.toNat 4).asR, .i (at_ a1 v8.toNat 5).asI, .r (at_ a1 v8.toNat 6).asR, .i (at_ a1 v8.toNat 7).asI]]) fun o96 =>
  bif (!(o96.t 0).asB) then some ⟨[.b false], []⟩ else G1 (IntKind.wrap .i64 (v8 + 1))
 else
  some ⟨[.b true], []⟩
def laws_eqJobS_k1 : List Nat := [0, 1, 4, 5]
def laws_eqJobS_S1 (a0 : List (List T)) (a1 : List (List T)) : (Int) → St := fun v8 => ⟨ofSl [(0, .sl 104 a0), (1, .sl 104 a1), (4, .b false), (5, .i .i64 v8)], ofMem []⟩
def laws_eqJobS_l1 (k : Nat) (a0 : List (List T)) (a1 : List (List T)) (G1 : (Int) → Option Outs) : (Int) → Option Outs :=
  laws_eqJobS_L1 k a0 a1 G1
def laws_eqJobS_U (k : Nat) (a0 : List (List T)) (a1 : List (List T)) (R1 : (Int) → Option Outs) : Option Outs :=
 bif ((a0.length : Int) != (a1.length : Int)) then some ⟨[.b false], []⟩ else R1 0
def laws_eqJobS_u (k : Nat) (a0 : List (List T)) (a1 : List (List T)) : Option Outs :=
  laws_eqJobS_U k a0 a1 (fun v => fixN (laws_eqJobS_l1 k a0 a1) k v)
def laws_eqJobS_it1 (k : Nat) (a0 : List (List T)) (a1 : List (List T)) (js : List Nat) (j : Nat) (s : St) : Option Outs := iter (LB E (evalF E P0 k) k [] N.laws_eqJobS [.sr, .sr, .sl, .sr, .bl]) [] laws_eqJobS_k1 (LK E (evalF E P0 k) k [] N.laws_eqJobS [.v [.r a0], .v [.r a1]] [.sr, .sr, .sl, .sr, .bl] js) j s
theorem laws_eqJobS_e (k : Nat) (a0 : List (List T)) (a1 : List (List T)) : evalF E P0 (k + 1) N.laws_eqJobS [.v [.r a0], .v [.r a1]] = laws_eqJobS_u k a0 a1 := by
  have e0 : evalF E P0 (k + 1) N.laws_eqJobS [.v [.r a0], .v [.r a1]] = laws_eqJobS_U k a0 a1 (fun v => laws_eqJobS_it1 k a0 a1 [] k (laws_eqJobS_S1 a0 a1 v)) := by kernel_rfl
  have e1 : ∀ (j1 : Nat) (v : Int), laws_eqJobS_it1 k a0 a1 [] (j1 + 1) (laws_eqJobS_S1 a0 a1 v) = laws_eqJobS_L1 k a0 a1 (fun v => laws_eqJobS_it1 k a0 a1 [] j1 (laws_eqJobS_S1 a0 a1 v)) v := by
    intro j1 v; kernel_rfl
  have i1 : ∀ (j1 : Nat) (v : Int), laws_eqJobS_it1 k a0 a1 [] j1 (laws_eqJobS_S1 a0 a1 v) = fixN (laws_eqJobS_l1 k a0 a1) j1 v := by
    intro j1 v
    refine iter_fix (laws_eqJobS_S1 a0 a1) (laws_eqJobS_l1 k a0 a1) (fun j1 v => (e1 j1 v).trans ?_) j1 v
    unfold laws_eqJobS_l1
    rfl
  rw [e0]; unfold laws_eqJobS_u
  simp only [i1]
/- laws.eqAnsS -/
def laws_eqAnsS_L1 (k : Nat) (a0 : List (List T)) (a1 : List (List T)) (G1 : (Int) → Option Outs) : (Int) → Option Outs := fun v8 =>
 bif (decide (v8 < (a0.length : Int))) then
  chk (decide (0 ≤ v8) && decide (v8 < (a0.length : Int))) <|
  chk (decide (0 ≤ v8) && decide (v8 < (a1.length : Int))) <|
  bindO (evalF E P0 k N.laws_eqAns [.v [.i (at_ a0 v8.toNat 0).asI, .i (at_ a0 v8.toNat 1).asI, .r (at_ a0 v8.toNat 2).asR], .v [.i (at_ a1 v8.toNat 0).asI, .i (at_ a1 v8.toNat 1).asI, .r (at_ a1 v8.toNat 2).asR]]) fun o96 =>
  bif (!(o96.t 0).asB) then some ⟨[.b false], []⟩ else G1 (IntKind.wrap .i64 (v8 + 1))
 else
  some ⟨[.b true], []⟩
def laws_eqAnsS_k1 : List Nat := [0, 1, 4, 5]
def laws_eqAnsS_S1 (a0 : List (List T)) (a1 : List (List T)) : (Int) → St := fun v8 => ⟨ofSl [(0, .sl 84 a0), (1, .sl 84 a1), (4, .b false), (5, .i .i64 v8)], ofMem []⟩
def laws_eqAnsS_l1 (k : Nat) (a0 : List (List T)) (a1 : List (List T)) (G1 : (Int) → Option Outs) : (Int) → Option Outs :=
  laws_eqAnsS_L1 k a0 a1 G1
def laws_eqAnsS_U (k : Nat) (a0 : List (List T)) (a1 : List (List T)) (R1 : (Int) → Option Outs) : Option Outs :=
 bif ((a0.length : Int) != (a1.length : Int)) then some ⟨[.b false], []⟩ else R1 0
def laws_eqAnsS_u (k : Nat) (a0 : List (List T)) (a1 : List (List T)) : Option Outs :=
  laws_eqAnsS_U k a0 a1 (fun v => fixN (laws_eqAnsS_l1 k a0 a1) k v)
def laws_eqAnsS_it1 (k : Nat) (a0 : List (List T)) (a1 : List (List T)) (js : List Nat) (j : Nat) (s : St) : Option Outs := iter (LB E (evalF E P0 k) k [] N.laws_eqAnsS [.sr, .sr, .sl, .sr, .bl]) [] laws_eqAnsS_k1 (LK E (evalF E P0 k) k [] N.laws_eqAnsS [.v [.r a0], .v [.r a1]] [.sr, .sr, .sl, .sr, .bl] js) j s
theorem laws_eqAnsS_e (k : Nat) (a0 : List (List T)) (a1 : List (List T)) : evalF E P0 (k + 1) N.laws_eqAnsS [.v [.r a0], .v [.r a1]] = laws_eqAnsS_u k a0 a1 := by
  have e0 : evalF E P0 (k + 1) N.laws_eqAnsS [.v [.r a0], .v [.r a1]] = laws_eqAnsS_U k a0 a1 (fun v => laws_eqAnsS_it1 k a0 a1 [] k (laws_eqAnsS_S1 a0 a1 v)) := by kernel_rfl
  have e1 : ∀ (j1 : Nat) (v : Int), laws_eqAnsS_it1 k a0 a1 [] (j1 + 1) (laws_eqAnsS_S1 a0 a1 v) = laws_eqAnsS_L1 k a0 a1 (fun v => laws_eqAnsS_it1 k a0 a1 [] j1 (laws_eqAnsS_S1 a0 a1 v)) v := by
    intro j1 v; kernel_rfl
  have i1 : ∀ (j1 : Nat) (v : Int), laws_eqAnsS_it1 k a0 a1 [] j1 (laws_eqAnsS_S1 a0 a1 v) = fixN (laws_eqAnsS_l1 k a0 a1) j1 v := by
    intro j1 v
    refine iter_fix (laws_eqAnsS_S1 a0 a1) (laws_eqAnsS_l1 k a0 a1) (fun j1 v => (e1 j1 v).trans ?_) j1 v
    unfold laws_eqAnsS_l1
    rfl
  rw [e0]; unfold laws_eqAnsS_u
  simp only [i1]
/- laws.eqEng -/
def laws_eqEng_u (k : Nat) (a0_0 : Int) (a0_1 : Int) (a0_2 : Int) (a0_3 : List (List T)) (a0_4 : Int) (a0_5 : Int) (a0_6 : Int) (a0_7 : Int) (a0_8 : Int) (a0_9 : List (List T)) (a0_10 : Int) (a0_11 : Bool) (a0_12 : Bool) (a0_13 : List (List T)) (a0_14 : List (List T)) (a0_15 : List (List T)) (a0_16 : List (List T)) (a1_0 : Int) (a1_1 : Int) (a1_2 : Int) (a1_3 : List (List T)) (a1_4 : Int) (a1_5 : Int) (a1_6 : Int) (a1_7 : Int) (a1_8 : Int) (a1_9 : List (List T)) (a1_10 : Int) (a1_11 : Bool) (a1_12 : Bool) (a1_13 : List (List T)) (a1_14 : List (List T)) (a1_15 : List (List T)) (a1_16 : List (List T)) : Option Outs :=
 bindO (evalF E P0 k N.laws_eqArr [.v [.i a0_0, .i a0_1, .i a0_2, .r a0_3, .i a0_4, .i a0_5, .i a0_6, .i a0_7, .i a0_8, .r a0_9, .i a0_10, .b a0_11, .b a0_12], .v [.i a1_0, .i a1_1, .i a1_2, .r a1_3, .i a1_4, .i a1_5, .i a1_6, .i a1_7, .i a1_8, .r a1_9, .i a1_10, .b a1_11, .b a1_12]]) fun o2 =>
 bif (!(o2.t 0).asB) then
  some ⟨[.b false], []⟩
 else
  bindO (evalF E P0 k N.laws_eqCmdS [.v [.r a0_13], .v [.r a1_13]]) fun o4 =>
  bif (!(o4.t 0).asB) then
   some ⟨[.b false], []⟩
  else
   bindO (evalF E P0 k N.laws_eqJobS [.v [.r a0_14], .v [.r a1_14]]) fun o6 =>
   bif (!(o6.t 0).asB) then
    some ⟨[.b false], []⟩
   else
    bindO (evalF E P0 k N.laws_eqAnsS [.v [.r a0_15], .v [.r a1_15]]) fun o8 =>
    bif (!(o8.t 0).asB) then
     some ⟨[.b false], []⟩
    else
     bindO (evalF E P0 k N.laws_eqTurnS [.v [.r a0_16], .v [.r a1_16]]) fun o10 =>
     bif (!(o10.t 0).asB) then some ⟨[.b false], []⟩ else some ⟨[.b true], []⟩
theorem laws_eqEng_e (k : Nat) (a0_0 : Int) (a0_1 : Int) (a0_2 : Int) (a0_3 : List (List T)) (a0_4 : Int) (a0_5 : Int) (a0_6 : Int) (a0_7 : Int) (a0_8 : Int) (a0_9 : List (List T)) (a0_10 : Int) (a0_11 : Bool) (a0_12 : Bool) (a0_13 : List (List T)) (a0_14 : List (List T)) (a0_15 : List (List T)) (a0_16 : List (List T)) (a1_0 : Int) (a1_1 : Int) (a1_2 : Int) (a1_3 : List (List T)) (a1_4 : Int) (a1_5 : Int) (a1_6 : Int) (a1_7 : Int) (a1_8 : Int) (a1_9 : List (List T)) (a1_10 : Int) (a1_11 : Bool) (a1_12 : Bool) (a1_13 : List (List T)) (a1_14 : List (List T)) (a1_15 : List (List T)) (a1_16 : List (List T)) : evalF E P0 (k + 1) N.laws_eqEng [.v [.i a0_0, .i a0_1, .i a0_2, .r a0_3, .i a0_4, .i a0_5, .i a0_6, .i a0_7, .i a0_8, .r a0_9, .i a0_10, .b a0_11, .b a0_12, .r a0_13, .r a0_14, .r a0_15, .r a0_16], .v [.i a1_0, .i a1_1, .i a1_2, .r a1_3, .i a1_4, .i a1_5, .i a1_6, .i a1_7, .i a1_8, .r a1_9, .i a1_10, .b a1_11, .b a1_12, .r a1_13, .r a1_14, .r a1_15, .r a1_16]] = laws_eqEng_u k a0_0 a0_1 a0_2 a0_3 a0_4 a0_5 a0_6 a0_7 a0_8 a0_9 a0_10 a0_11 a0_12 a0_13 a0_14 a0_15 a0_16 a1_0 a1_1 a1_2 a1_3 a1_4 a1_5 a1_6 a1_7 a1_8 a1_9 a1_10 a1_11 a1_12 a1_13 a1_14 a1_15 a1_16 := by kernel_rfl
/- laws.FnExactApart -/
def laws_FnExactApart_u (k : Nat) (a0_0 : Int) (a0_1 : Int) (a0_2 : Int) (a0_3 : List (List T)) (a0_4 : Int) (a0_5 : Int) (a0_6 : Int) (a0_7 : Int) (a0_8 : Int) (a0_9 : List (List T)) (a0_10 : Int) (a0_11 : Bool) (a0_12 : Bool) (a0_13 : List (List T)) (a0_14 : List (List T)) (a0_15 : List (List T)) (a0_16 : List (List T)) : Option Outs :=
 bindO (evalF E P0 k N.laws_szEng [.v [.i a0_0, .i a0_1, .i a0_2, .r a0_3, .i a0_4, .i a0_5, .i a0_6, .i a0_7, .i a0_8, .r a0_9, .i a0_10, .b a0_11, .b a0_12, .r a0_13, .r a0_14, .r a0_15, .r a0_16], .v [.i 1048576]]) fun o2 =>
 bif (decide ((o2.t 0).asI < 0)) then
  some ⟨[.b true], []⟩
 else
  bindO (evalF E P0 k N.laws_toEng [.v [.i a0_0, .i a0_1, .i a0_2, .r a0_3, .i a0_4, .i a0_5, .i a0_6, .i a0_7, .i a0_8, .r a0_9, .i a0_10, .b a0_11, .b a0_12, .r a0_13, .r a0_14, .r a0_15, .r a0_16]]) fun o5 =>
  bindO (evalF E P0 k N.spec_Apart [.v [.i (o5.t 0).asI, .i (o5.t 1).asI, .i (o5.t 2).asI, .r (o5.t 3).asR, .i (o5.t 4).asI, .i (o5.t 5).asI, .i (o5.t 6).asI, .i (o5.t 7).asI, .i (o5.t 8).asI, .r (o5.t 9).asR, .i (o5.t 10).asI, .b (o5.t 11).asB, .b (o5.t 12).asB, .r (o5.t 13).asR, .r (o5.t 14).asR, .r (o5.t 15).asR, .r (o5.t 16).asR]]) fun o6 =>
  bindO (evalF E P0 k N.laws_toEng [.v [.i a0_0, .i a0_1, .i a0_2, .r a0_3, .i a0_4, .i a0_5, .i a0_6, .i a0_7, .i a0_8, .r a0_9, .i a0_10, .b a0_11, .b a0_12, .r a0_13, .r a0_14, .r a0_15, .r a0_16]]) fun o8 =>
  bindO (evalF E P0 k N.impl_Apart [.v [.i (o8.t 0).asI, .i (o8.t 1).asI, .i (o8.t 2).asI, .r (o8.t 3).asR, .i (o8.t 4).asI, .i (o8.t 5).asI, .i (o8.t 6).asI, .i (o8.t 7).asI, .i (o8.t 8).asI, .r (o8.t 9).asR, .i (o8.t 10).asI, .b (o8.t 11).asB, .b (o8.t 12).asB, .r (o8.t 13).asR, .r (o8.t 14).asR, .r (o8.t 15).asR, .r (o8.t 16).asR]]) fun o10 =>
  bif (!((o10.t 0).asB == (o6.t 0).asB)) then
   some ⟨[.b false], []⟩
  else
   bindO (evalF E P0 k N.laws_toEng [.v [.i a0_0, .i a0_1, .i a0_2, .r a0_3, .i a0_4, .i a0_5, .i a0_6, .i a0_7, .i a0_8, .r a0_9, .i a0_10, .b a0_11, .b a0_12, .r a0_13, .r a0_14, .r a0_15, .r a0_16]]) fun o13 =>
   bindO (evalF E P0 k N.laws_eqEng [.v [.i (o8.t 0).asI, .i (o8.t 1).asI, .i (o8.t 2).asI, .r (o8.t 3).asR, .i (o8.t 4).asI, .i (o8.t 5).asI, .i (o8.t 6).asI, .i (o8.t 7).asI, .i (o8.t 8).asI, .r (o8.t 9).asR, .i (o8.t 10).asI, .b (o8.t 11).asB, .b (o8.t 12).asB, .r (o8.t 13).asR, .r (o8.t 14).asR, .r (o8.t 15).asR, .r (o8.t 16).asR], .v [.i (o13.t 0).asI, .i (o13.t 1).asI, .i (o13.t 2).asI, .r (o13.t 3).asR, .i (o13.t 4).asI, .i (o13.t 5).asI, .i (o13.t 6).asI, .i (o13.t 7).asI, .i (o13.t 8).asI, .r (o13.t 9).asR, .i (o13.t 10).asI, .b (o13.t 11).asB, .b (o13.t 12).asB, .r (o13.t 13).asR, .r (o13.t 14).asR, .r (o13.t 15).asR, .r (o13.t 16).asR]]) fun o14 =>
   bif (!(o14.t 0).asB) then some ⟨[.b false], []⟩ else some ⟨[.b true], []⟩
theorem laws_FnExactApart_e (k : Nat) (a0_0 : Int) (a0_1 : Int) (a0_2 : Int) (a0_3 : List (List T)) (a0_4 : Int) (a0_5 : Int) (a0_6 : Int) (a0_7 : Int) (a0_8 : Int) (a0_9 : List (List T)) (a0_10 : Int) (a0_11 : Bool) (a0_12 : Bool) (a0_13 : List (List T)) (a0_14 : List (List T)) (a0_15 : List (List T)) (a0_16 : List (List T)) : evalF E P0 (k + 1) N.laws_FnExactApart [.v [.i a0_0, .i a0_1, .i a0_2, .r a0_3, .i a0_4, .i a0_5, .i a0_6, .i a0_7, .i a0_8, .r a0_9, .i a0_10, .b a0_11, .b a0_12, .r a0_13, .r a0_14, .r a0_15, .r a0_16]] = laws_FnExactApart_u k a0_0 a0_1 a0_2 a0_3 a0_4 a0_5 a0_6 a0_7 a0_8 a0_9 a0_10 a0_11 a0_12 a0_13 a0_14 a0_15 a0_16 := by kernel_rfl
/- spec.NeedOf -/
def spec_NeedOf_u (k : Nat) (a0_0 : Int) (a0_1 : Int) (a0_2 : Int) (a0_3 : List (List T)) (a0_4 : Int) (a0_5 : Int) (a0_6 : Int) (a0_7 : Int) (a0_8 : Int) (a0_9 : List (List T)) (a0_10 : Int) (a0_11 : Bool) (a0_12 : Bool) (a0_13 : List (List T)) (a0_14 : List (List T)) (a0_15 : List (List T)) (a0_16 : List (List T)) (a1 : Int) : Option Outs :=
 bindO (evalF E P0 k N.spec_l1In [.v [.i a1], .v [.i 0], .v [.i (IntKind.wrap .i64 ((a0_14.length : Int) - 1))]]) fun o2 =>
 bif (!(o2.t 0).asB) then
  some ⟨[.i 0], []⟩
 else
  chk (decide (0 ≤ a1) && decide (a1 < (a0_14.length : Int))) <|
  bindO (evalF E P0 k N.spec_StepsOf [.v [.i a0_1, .i a0_2], .v [.i (at_ a0_14 a1.toNat 0).asI, .i (at_ a0_14 a1.toNat 1).asI, .i (at_ a0_14 a1.toNat 2).asI, .i (at_ a0_14 a1.toNat 3).asI, .r (at_ a0_14 a1.toNat 4).asR]]) fun o4 =>
  chk (decide (0 ≤ a1) && decide (a1 < (a0_14.length : Int))) <|
  bif (decide ((IntKind.wrap .i64 ((o4.t 0).asI - (at_ a0_14 a1.toNat 5).asI)) < 1)) then
   some ⟨[.i 1], []⟩
  else
   some ⟨[.i (IntKind.wrap .i64 ((o4.t 0).asI - (at_ a0_14 a1.toNat 5).asI))], []⟩
theorem spec_NeedOf_e (k : Nat) (a0_0 : Int) (a0_1 : Int) (a0_2 : Int) (a0_3 : List (List T)) (a0_4 : Int) (a0_5 : Int) (a0_6 : Int) (a0_7 : Int) (a0_8 : Int) (a0_9 : List (List T)) (a0_10 : Int) (a0_11 : Bool) (a0_12 : Bool) (a0_13 : List (List T)) (a0_14 : List (List T)) (a0_15 : List (List T)) (a0_16 : List (List T)) (a1 : Int) : evalF E P0 (k + 1) N.spec_NeedOf [.v [.i a0_0, .i a0_1, .i a0_2, .r a0_3, .i a0_4, .i a0_5, .i a0_6, .i a0_7, .i a0_8, .r a0_9, .i a0_10, .b a0_11, .b a0_12, .r a0_13, .r a0_14, .r a0_15, .r a0_16], .v [.i a1]] = spec_NeedOf_u k a0_0 a0_1 a0_2 a0_3 a0_4 a0_5 a0_6 a0_7 a0_8 a0_9 a0_10 a0_11 a0_12 a0_13 a0_14 a0_15 a0_16 a1 := by kernel_rfl
/- impl.NeedOf -/
def impl_NeedOf_u (k : Nat) (a0_0 : Int) (a0_1 : Int) (a0_2 : Int) (a0_3 : List (List T)) (a0_4 : Int) (a0_5 : Int) (a0_6 : Int) (a0_7 : Int) (a0_8 : Int) (a0_9 : List (List T)) (a0_10 : Int) (a0_11 : Bool) (a0_12 : Bool) (a0_13 : List (List T)) (a0_14 : List (List T)) (a0_15 : List (List T)) (a0_16 : List (List T)) (a1 : Int) : Option Outs :=
 bindO (evalF E P0 k N.impl_within [.v [.i a1], .v [.i 0], .v [.i (IntKind.wrap .i64 ((a0_14.length : Int) - 1))]]) fun o2 =>
 bif (!(o2.t 0).asB) then
  some ⟨[.i 0], []⟩
 else
  chk (decide (0 ≤ a1) && decide (a1 < (a0_14.length : Int))) <|
  bindO (evalF E P0 k N.impl_StepsOf [.v [.i a0_1, .i a0_2], .v [.i (at_ a0_14 a1.toNat 0).asI, .i (at_ a0_14 a1.toNat 1).asI, .i (at_ a0_14 a1.toNat 2).asI, .i (at_ a0_14 a1.toNat 3).asI, .r (at_ a0_14 a1.toNat 4).asR]]) fun o4 =>
  chk (decide (0 ≤ a1) && decide (a1 < (a0_14.length : Int))) <|
  some ⟨[.i (if (IntKind.wrap .i64 ((o4.t 0).asI - (at_ a0_14 a1.toNat 5).asI)) > 1 then (IntKind.wrap .i64 ((o4.t 0).asI - (at_ a0_14 a1.toNat 5).asI)) else 1)], []⟩
theorem impl_NeedOf_e (k : Nat) (a0_0 : Int) (a0_1 : Int) (a0_2 : Int) (a0_3 : List (List T)) (a0_4 : Int) (a0_5 : Int) (a0_6 : Int) (a0_7 : Int) (a0_8 : Int) (a0_9 : List (List T)) (a0_10 : Int) (a0_11 : Bool) (a0_12 : Bool) (a0_13 : List (List T)) (a0_14 : List (List T)) (a0_15 : List (List T)) (a0_16 : List (List T)) (a1 : Int) : evalF E P0 (k + 1) N.impl_NeedOf [.v [.i a0_0, .i a0_1, .i a0_2, .r a0_3, .i a0_4, .i a0_5, .i a0_6, .i a0_7, .i a0_8, .r a0_9, .i a0_10, .b a0_11, .b a0_12, .r a0_13, .r a0_14, .r a0_15, .r a0_16], .v [.i a1]] = impl_NeedOf_u k a0_0 a0_1 a0_2 a0_3 a0_4 a0_5 a0_6 a0_7 a0_8 a0_9 a0_10 a0_11 a0_12 a0_13 a0_14 a0_15 a0_16 a1 := by kernel_rfl
/- laws.FnExactNeedOf -/
def laws_FnExactNeedOf_u (k : Nat) (a0_0 : Int) (a0_1 : Int) (a0_2 : Int) (a0_3 : List (List T)) (a0_4 : Int) (a0_5 : Int) (a0_6 : Int) (a0_7 : Int) (a0_8 : Int) (a0_9 : List (List T)) (a0_10 : Int) (a0_11 : Bool) (a0_12 : Bool) (a0_13 : List (List T)) (a0_14 : List (List T)) (a0_15 : List (List T)) (a0_16 : List (List T)) (a1 : Int) : Option Outs :=
 bindO (evalF E P0 k N.laws_szEng [.v [.i a0_0, .i a0_1, .i a0_2, .r a0_3, .i a0_4, .i a0_5, .i a0_6, .i a0_7, .i a0_8, .r a0_9, .i a0_10, .b a0_11, .b a0_12, .r a0_13, .r a0_14, .r a0_15, .r a0_16], .v [.i 1048576]]) fun o2 =>
 bif (decide ((o2.t 0).asI < 0)) then
  some ⟨[.b true], []⟩
 else
  bindO (evalF E P0 k N.laws_toEng [.v [.i a0_0, .i a0_1, .i a0_2, .r a0_3, .i a0_4, .i a0_5, .i a0_6, .i a0_7, .i a0_8, .r a0_9, .i a0_10, .b a0_11, .b a0_12, .r a0_13, .r a0_14, .r a0_15, .r a0_16]]) fun o5 =>
  bindO (evalF E P0 k N.spec_NeedOf [.v [.i (o5.t 0).asI, .i (o5.t 1).asI, .i (o5.t 2).asI, .r (o5.t 3).asR, .i (o5.t 4).asI, .i (o5.t 5).asI, .i (o5.t 6).asI, .i (o5.t 7).asI, .i (o5.t 8).asI, .r (o5.t 9).asR, .i (o5.t 10).asI, .b (o5.t 11).asB, .b (o5.t 12).asB, .r (o5.t 13).asR, .r (o5.t 14).asR, .r (o5.t 15).asR, .r (o5.t 16).asR], .v [.i a1]]) fun o6 =>
  bindO (evalF E P0 k N.laws_toEng [.v [.i a0_0, .i a0_1, .i a0_2, .r a0_3, .i a0_4, .i a0_5, .i a0_6, .i a0_7, .i a0_8, .r a0_9, .i a0_10, .b a0_11, .b a0_12, .r a0_13, .r a0_14, .r a0_15, .r a0_16]]) fun o8 =>
  bindO (evalF E P0 k N.impl_NeedOf [.v [.i (o8.t 0).asI, .i (o8.t 1).asI, .i (o8.t 2).asI, .r (o8.t 3).asR, .i (o8.t 4).asI, .i (o8.t 5).asI, .i (o8.t 6).asI, .i (o8.t 7).asI, .i (o8.t 8).asI, .r (o8.t 9).asR, .i (o8.t 10).asI, .b (o8.t 11).asB, .b (o8.t 12).asB, .r (o8.t 13).asR, .r (o8.t 14).asR, .r (o8.t 15).asR, .r (o8.t 16).asR], .v [.i a1]]) fun o10 =>
  bif ((o10.t 0).asI != (o6.t 0).asI) then
   some ⟨[.b false], []⟩
  else
   bindO (evalF E P0 k N.laws_toEng [.v [.i a0_0, .i a0_1, .i a0_2, .r a0_3, .i a0_4, .i a0_5, .i a0_6, .i a0_7, .i a0_8, .r a0_9, .i a0_10, .b a0_11, .b a0_12, .r a0_13, .r a0_14, .r a0_15, .r a0_16]]) fun o13 =>
   bindO (evalF E P0 k N.laws_eqEng [.v [.i (o8.t 0).asI, .i (o8.t 1).asI, .i (o8.t 2).asI, .r (o8.t 3).asR, .i (o8.t 4).asI, .i (o8.t 5).asI, .i (o8.t 6).asI, .i (o8.t 7).asI, .i (o8.t 8).asI, .r (o8.t 9).asR, .i (o8.t 10).asI, .b (o8.t 11).asB, .b (o8.t 12).asB, .r (o8.t 13).asR, .r (o8.t 14).asR, .r (o8.t 15).asR, .r (o8.t 16).asR], .v [.i (o13.t 0).asI, .i (o13.t 1).asI, .i (o13.t 2).asI, .r (o13.t 3).asR, .i (o13.t 4).asI, .i (o13.t 5).asI, .i (o13.t 6).asI, .i (o13.t 7).asI, .i (o13.t 8).asI, .r (o13.t 9).asR, .i (o13.t 10).asI, .b (o13.t 11).asB, .b (o13.t 12).asB, .r (o13.t 13).asR, .r (o13.t 14).asR, .r (o13.t 15).asR, .r (o13.t 16).asR]]) fun o14 =>
   bif (!(o14.t 0).asB) then some ⟨[.b false], []⟩ else some ⟨[.b true], []⟩
theorem laws_FnExactNeedOf_e (k : Nat) (a0_0 : Int) (a0_1 : Int) (a0_2 : Int) (a0_3 : List (List T)) (a0_4 : Int) (a0_5 : Int) (a0_6 : Int) (a0_7 : Int) (a0_8 : Int) (a0_9 : List (List T)) (a0_10 : Int) (a0_11 : Bool) (a0_12 : Bool) (a0_13 : List (List T)) (a0_14 : List (List T)) (a0_15 : List (List T)) (a0_16 : List (List T)) (a1 : Int) : evalF E P0 (k + 1) N.laws_FnExactNeedOf [.v [.i a0_0, .i a0_1, .i a0_2, .r a0_3, .i a0_4, .i a0_5, .i a0_6, .i a0_7, .i a0_8, .r a0_9, .i a0_10, .b a0_11, .b a0_12, .r a0_13, .r a0_14, .r a0_15, .r a0_16], .v [.i a1]] = laws_FnExactNeedOf_u k a0_0 a0_1 a0_2 a0_3 a0_4 a0_5 a0_6 a0_7 a0_8 a0_9 a0_10 a0_11 a0_12 a0_13 a0_14 a0_15 a0_16 a1 := by kernel_rfl
/- spec.NeedAll -/
def spec_NeedAll_L1 (k : Nat) (a0_0 : Int) (a0_1 : Int) (a0_2 : Int) (a0_3 : List (List T)) (a0_4 : Int) (a0_5 : Int) (a0_6 : Int) (a0_7 : Int) (a0_8 : Int) (a0_9 : List (List T)) (a0_10 : Int) (a0_11 : Bool) (a0_12 : Bool) (a0_13 : List (List T)) (a0_14 : List (List T)) (a0_15 : List (List T)) (a0_16 : List (List T)) (G1 : (Int × Int) → Option Outs) : (Int × Int) → Option Outs := fun (v15, v16) =>
 bif (decide (v16 < (a0_14.length : Int))) then
  bindO (evalF E P0 k N.spec_NeedOf [.v [.i a0_0, .i a0_1, .i a0_2, .r a0_3, .i a0_4, .i a0_5, .i a0_6, .i a0_7, .i a0_8, .r a0_9, .i a0_10, .b a0_11, .b a0_12, .r a0_13, .r a0_14, .r a0_15, .r a0_16], .v [.i v16]]) fun o48 =>
  G1 ((IntKind.wrap .i64 (v15 + (o48.t 0).asI)), (IntKind.wrap .i64 (v16 + 1)))
 else
  some ⟨[.i v15], []⟩
def spec_NeedAll_k1 : List Nat := [1, 2, 3, 4, 17]
def spec_NeedAll_S1 (a0_0 : Int) (a0_1 : Int) (a0_2 : Int) (a0_3 : List (List T)) (a0_4 : Int) (a0_5 : Int) (a0_6 : Int) (a0_7 : Int) (a0_8 : Int) (a0_9 : List (List T)) (a0_10 : Int) (a0_11 : Bool) (a0_12 : Bool) (a0_13 : List (List T)) (a0_14 : List (List T)) (a0_15 : List (List T)) (a0_16 : List (List T)) : (Int × Int) → St := fun (v15, v16) => ⟨ofSl [(1, .ptr (1, 0) 0), (2, .i .i64 0), (3, .i .i64 v15), (4, .i .i64 v16), (17, .skip)], ofMem [((1, 0), .var [.i .i64 a0_0, .i .i64 a0_1, .i .i64 a0_2, .sl 143 a0_3, .i .i64 a0_4, .i .i64 a0_5, .i .i64 a0_6, .i .i64 a0_7, .i .i64 a0_8, .sl 155 a0_9, .i .i64 a0_10, .b a0_11, .b a0_12, .sl 31 a0_13, .sl 104 a0_14, .sl 84 a0_15, .sl 86 a0_16])]⟩
def spec_NeedAll_l1 (k : Nat) (a0_0 : Int) (a0_1 : Int) (a0_2 : Int) (a0_3 : List (List T)) (a0_4 : Int) (a0_5 : Int) (a0_6 : Int) (a0_7 : Int) (a0_8 : Int) (a0_9 : List (List T)) (a0_10 : Int) (a0_11 : Bool) (a0_12 : Bool) (a0_13 : List (List T)) (a0_14 : List (List T)) (a0_15 : List (List T)) (a0_16 : List (List T)) (G1 : (Int × Int) → Option Outs) : (Int × Int) → Option Outs :=
  spec_NeedAll_L1 k a0_0 a0_1 a0_2 a0_3 a0_4 a0_5 a0_6 a0_7 a0_8 a0_9 a0_10 a0_11 a0_12 a0_13 a0_14 a0_15 a0_16 G1
def spec_NeedAll_U (k : Nat) (a0_0 : Int) (a0_1 : Int) (a0_2 : Int) (a0_3 : List (List T)) (a0_4 : Int) (a0_5 : Int) (a0_6 : Int) (a0_7 : Int) (a0_8 : Int) (a0_9 : List (List T)) (a0_10 : Int) (a0_11 : Bool) (a0_12 : Bool) (a0_13 : List (List T)) (a0_14 : List (List T)) (a0_15 : List (List T)) (a0_16 : List (List T)) (R1 : (Int × Int) → Option Outs) : Option Outs :=
 R1 (0, 0)
def spec_NeedAll_u (k : Nat) (a0_0 : Int) (a0_1 : Int) (a0_2 : Int) (a0_3 : List (List T)) (a0_4 : Int) (a0_5 : Int) (a0_6 : Int) (a0_7 : Int) (a0_8 : Int) (a0_9 : List (List T)) (a0_10 : Int) (a0_11 : Bool) (a0_12 : Bool) (a0_13 : List (List T)) (a0_14 : List (List T)) (a0_15 : List (List T)) (a0_16 : List (List T)) : Option Outs :=
  spec_NeedAll_U k a0_0 a0_1 a0_2 a0_3 a0_4 a0_5 a0_6 a0_7 a0_8 a0_9 a0_10 a0_11 a0_12 a0_13 a0_14 a0_15 a0_16 (fun v => fixN (spec_NeedAll_l1 k a0_0 a0_1 a0_2 a0_3 a0_4 a0_5 a0_6 a0_7 a0_8 a0_9 a0_10 a0_11 a0_12 a0_13 a0_14 a0_15 a0_16) k v)
def spec_NeedAll_it1 (k : Nat) (a0_0 : Int) (a0_1 : Int) (a0_2 : Int) (a0_3 : List (List T)) (a0_4 : Int) (a0_5 : Int) (a0_6 : Int) (a0_7 : Int) (a0_8 : Int) (a0_9 : List (List T)) (a0_10 : Int) (a0_11 : Bool) (a0_12 : Bool) (a0_13 : List (List T)) (a0_14 : List (List T)) (a0_15 : List (List T)) (a0_16 : List (List T)) (js : List Nat) (j : Nat) (s : St) : Option Outs := iter (LB E (evalF E P0 k) k [] N.spec_NeedAll [.sr, .sr, .sl, .sr, .bl]) [] spec_NeedAll_k1 (LK E (evalF E P0 k) k [] N.spec_NeedAll [.v [.i a0_0, .i a0_1, .i a0_2, .r a0_3, .i a0_4, .i a0_5, .i a0_6, .i a0_7, .i a0_8, .r a0_9, .i a0_10, .b a0_11, .b a0_12, .r a0_13, .r a0_14, .r a0_15, .r a0_16]] [.sr, .sr, .sl, .sr, .bl] js) j s
theorem spec_NeedAll_e (k : Nat) (a0_0 : Int) (a0_1 : Int) (a0_2 : Int) (a0_3 : List (List T)) (a0_4 : Int) (a0_5 : Int) (a0_6 : Int) (a0_7 : Int) (a0_8 : Int) (a0_9 : List (List T)) (a0_10 : Int) (a0_11 : Bool) (a0_12 : Bool) (a0_13 : List (List T)) (a0_14 : List (List T)) (a0_15 : List (List T)) (a0_16 : List (List T)) : evalF E P0 (k + 1) N.spec_NeedAll [.v [.i a0_0, .i a0_1, .i a0_2, .r a0_3, .i a0_4, .i a0_5, .i a0_6, .i a0_7, .i a0_8, .r a0_9, .i a0_10, .b a0_11, .b a0_12, .r a0_13, .r a0_14, .r a0_15, .r a0_16]] = spec_NeedAll_u k a0_0 a0_1 a0_2 a0_3 a0_4 a0_5 a0_6 a0_7 a0_8 a0_9 a0_10 a0_11 a0_12 a0_13 a0_14 a0_15 a0_16 := by
  have e0 : evalF E P0 (k + 1) N.spec_NeedAll [.v [.i a0_0, .i a0_1, .i a0_2, .r a0_3, .i a0_4, .i a0_5, .i a0_6, .i a0_7, .i a0_8, .r a0_9, .i a0_10, .b a0_11, .b a0_12, .r a0_13, .r a0_14, .r a0_15, .r a0_16]] = spec_NeedAll_U k a0_0 a0_1 a0_2 a0_3 a0_4 a0_5 a0_6 a0_7 a0_8 a0_9 a0_10 a0_11 a0_12 a0_13 a0_14 a0_15 a0_16 (fun v => spec_NeedAll_it1 k a0_0 a0_1 a0_2 a0_3 a0_4 a0_5 a0_6 a0_7 a0_8 a0_9 a0_10 a0_11 a0_12 a0_13 a0_14 a0_15 a0_16 [] k (spec_NeedAll_S1 a0_0 a0_1 a0_2 a0_3 a0_4 a0_5 a0_6 a0_7 a0_8 a0_9 a0_10 a0_11 a0_12 a0_13 a0_14 a0_15 a0_16 v)) := by kernel_rfl
  have e1 : ∀ (j1 : Nat) (v : Int × Int), spec_NeedAll_it1 k a0_0 a0_1 a0_2 a0_3 a0_4 a0_5 a0_6 a0_7 a0_8 a0_9 a0_10 a0_11 a0_12 a0_13 a0_14 a0_15 a0_16 [] (j1 + 1) (spec_NeedAll_S1 a0_0 a0_1 a0_2 a0_3 a0_4 a0_5 a0_6 a0_7 a0_8 a0_9 a0_10 a0_11 a0_12 a0_13 a0_14 a0_15 a0_16 v) = spec_NeedAll_L1 k a0_0 a0_1 a0_2 a0_3 a0_4 a0_5 a0_6 a0_7 a0_8 a0_9 a0_10 a0_11 a0_12 a0_13 a0_14 a0_15 a0_16 (fun v => spec_NeedAll_it1 k a0_0 a0_1 a0_2 a0_3 a0_4 a0_5 a0_6 a0_7 a0_8 a0_9 a0_10 a0_11 a0_12 a0_13 a0_14 a0_15 a0_16 [] j1 (spec_NeedAll_S1 a0_0 a0_1 a0_2 a0_3 a0_4 a0_5 a0_6 a0_7 a0_8 a0_9 a0_10 a0_11 a0_12 a0_13 a0_14 a0_15 a0_16 v)) v := by
    intro j1 v; kernel_rfl
  have i1 : ∀ (j1 : Nat) (v : Int × Int), spec_NeedAll_it1 k a0_0 a0_1 a0_2 a0_3 a0_4 a0_5 a0_6 a0_7 a0_8 a0_9 a0_10 a0_11 a0_12 a0_13 a0_14 a0_15 a0_16 [] j1 (spec_NeedAll_S1 a0_0 a0_1 a0_2 a0_3 a0_4 a0_5 a0_6 a0_7 a0_8 a0_9 a0_10 a0_11 a0_12 a0_13 a0_14 a0_15 a0_16 v) = fixN (spec_NeedAll_l1 k a0_0 a0_1 a0_2 a0_3 a0_4 a0_5 a0_6 a0_7 a0_8 a0_9 a0_10 a0_11 a0_12 a0_13 a0_14 a0_15 a0_16) j1 v := by
    intro j1 v
    refine iter_fix (spec_NeedAll_S1 a0_0 a0_1 a0_2 a0_3 a0_4 a0_5 a0_6 a0_7 a0_8 a0_9 a0_10 a0_11 a0_12 a0_13 a0_14 a0_15 a0_16) (spec_NeedAll_l1 k a0_0 a0_1 a0_2 a0_3 a0_4 a0_5 a0_6 a0_7 a0_8 a0_9 a0_10 a0_11 a0_12 a0_13 a0_14 a0_15 a0_16) (fun j1 v => (e1 j1 v).trans ?_) j1 v
    unfold spec_NeedAll_l1
    rfl
  rw [e0]; unfold spec_NeedAll_u
  simp only [i1]
/- impl.NeedAll -/
def impl_NeedAll_L1 (k : Nat) (a0_0 : Int) (a0_1 : Int) (a0_2 : Int) (a0_3 : List (List T)) (a0_4 : Int) (a0_5 : Int) (a0_6 : Int) (a0_7 : Int) (a0_8 : Int) (a0_9 : List (List T)) (a0_10 : Int) (a0_11 : Bool) (a0_12 : Bool) (a0_13 : List (List T)) (a0_14 : List (List T)) (a0_15 : List (List T)) (a0_16 : List (List T)) (G1 : (Int × Int) → Option Outs) : (Int × Int) → Option Outs := fun (v15, v16) =>
 bif (decide (v16 < (a0_14.length : Int))) then
  bindO (evalF E P0 k N.impl_NeedOf [.v [.i a0_0, .i a0_1, .i a0_2, .r a0_3, .i a0_4, .i a0_5, .i a0_6, .i a0_7, .i a0_8, .r a0_9, .i a0_10, .b a0_11, .b a0_12, .r a0_13, .r a0_14, .r a0_15, .r a0_16], .v [.i v16]]) fun o48 =>
  G1 ((IntKind.wrap .i64 (v15 + (o48.t 0).asI)), (IntKind.wrap .i64 (v16 + 1)))
 else
  some ⟨[.i v15], []⟩
def impl_NeedAll_k1 : List Nat := [1, 2, 3, 7, 8, 17]
def impl_NeedAll_S1 (a0_0 : Int) (a0_1 : Int) (a0_2 : Int) (a0_3 : List (List T)) (a0_4 : Int) (a0_5 : Int) (a0_6 : Int) (a0_7 : Int) (a0_8 : Int) (a0_9 : List (List T)) (a0_10 : Int) (a0_11 : Bool) (a0_12 : Bool) (a0_13 : List (List T)) (a0_14 : List (List T)) (a0_15 : List (List T)) (a0_16 : List (List T)) : (Int × Int) → St := fun (v15, v16) => ⟨ofSl [(1, .ptr (1, 0) 0), (2, .i .i64 0), (3, .i .i64 v15), (7, .i .i64 (a0_14.length : Int)), (8, .i .i64 v16), (17, .skip)], ofMem [((1, 0), .var [.i .i64 a0_0, .i .i64 a0_1, .i .i64 a0_2, .sl 143 a0_3, .i .i64 a0_4, .i .i64 a0_5, .i .i64 a0_6, .i .i64 a0_7, .i .i64 a0_8, .sl 155 a0_9, .i .i64 a0_10, .b a0_11, .b a0_12, .sl 31 a0_13, .sl 104 a0_14, .sl 84 a0_15, .sl 86 a0_16])]⟩
def impl_NeedAll_l1 (k : Nat) (a0_0 : Int) (a0_1 : Int) (a0_2 : Int) (a0_3 : List (List T)) (a0_4 : Int) (a0_5 : Int) (a0_6 : Int) (a0_7 : Int) (a0_8 : Int) (a0_9 : List (List T)) (a0_10 : Int) (a0_11 : Bool) (a0_12 : Bool) (a0_13 : List (List T)) (a0_14 : List (List T)) (a0_15 : List (List T)) (a0_16 : List (List T)) (G1 : (Int × Int) → Option Outs) : (Int × Int) → Option Outs :=
  impl_NeedAll_L1 k a0_0 a0_1 a0_2 a0_3 a0_4 a0_5 a0_6 a0_7 a0_8 a0_9 a0_10 a0_11 a0_12 a0_13 a0_14 a0_15 a0_16 G1
def impl_NeedAll_U (k : Nat) (a0_0 : Int) (a0_1 : Int) (a0_2 : Int) (a0_3 : List (List T)) (a0_4 : Int) (a0_5 : Int) (a0_6 : Int) (a0_7 : Int) (a0_8 : Int) (a0_9 : List (List T)) (a0_10 : Int) (a0_11 : Bool) (a0_12 : Bool) (a0_13 : List (List T)) (a0_14 : List (List T)) (a0_15 : List (List T)) (a0_16 : List (List T)) (R1 : (Int × Int) → Option Outs) : Option Outs :=
 R1 (0, 0)
def impl_NeedAll_u (k : Nat) (a0_0 : Int) (a0_1 : Int) (a0_2 : Int) (a0_3 : List (List T)) (a0_4 : Int) (a0_5 : Int) (a0_6 : Int) (a0_7 : Int) (a0_8 : Int) (a0_9 : List (List T)) (a0_10 : Int) (a0_11 : Bool) (a0_12 : Bool) (a0_13 : List (List T)) (a0_14 : List (List T)) (a0_15 : List (List T)) (a0_16 : List (List T)) : Option Outs :=
  impl_NeedAll_U k a0_0 a0_1 a0_2 a0_3 a0_4 a0_5 a0_6 a0_7 a0_8 a0_9 a0_10 a0_11 a0_12 a0_13 a0_14 a0_15 a0_16 (fun v => fixN (impl_NeedAll_l1 k a0_0 a0_1 a0_2 a0_3 a0_4 a0_5 a0_6 a0_7 a0_8 a0_9 a0_10 a0_11 a0_12 a0_13 a0_14 a0_15 a0_16) k v)
def impl_NeedAll_it1 (k : Nat) (a0_0 : Int) (a0_1 : Int) (a0_2 : Int) (a0_3 : List (List T)) (a0_4 : Int) (a0_5 : Int) (a0_6 : Int) (a0_7 : Int) (a0_8 : Int) (a0_9 : List (List T)) (a0_10 : Int) (a0_11 : Bool) (a0_12 : Bool) (a0_13 : List (List T)) (a0_14 : List (List T)) (a0_15 : List (List T)) (a0_16 : List (List T)) (js : List Nat) (j : Nat) (s : St) : Option Outs := iter (LB E (evalF E P0 k) k [] N.impl_NeedAll [.sr, .sr, .sl, .sr, .bl]) [] impl_NeedAll_k1 (LK E (evalF E P0 k) k [] N.impl_NeedAll [.v [.i a0_0, .i a0_1, .i a0_2, .r a0_3, .i a0_4, .i a0_5, .i a0_6, .i a0_7, .i a0_8, .r a0_9, .i a0_10, .b a0_11, .b a0_12, .r a0_13, .r a0_14, .r a0_15, .r a0_16]] [.sr, .sr, .sl, .sr, .bl] js) j s
theorem impl_NeedAll_e (k : Nat) (a0_0 : Int) (a0_1 : Int) (a0_2 : Int) (a0_3 : List (List T)) (a0_4 : Int) (a0_5 : Int) (a0_6 : Int) (a0_7 : Int) (a0_8 : Int) (a0_9 : List (List T)) (a0_10 : Int) (a0_11 : Bool) (a0_12 : Bool) (a0_13 : List (List T)) (a0_14 : List (List T)) (a0_15 : List (List T)) (a0_16 : List (List T)) : evalF E P0 (k + 1) N.impl_NeedAll [.v [.i a0_0, .i a0_1, .i a0_2, .r a0_3, .i a0_4, .i a0_5, .i a0_6, .i a0_7, .i a0_8, .r a0_9, .i a0_10, .b a0_11, .b a0_12, .r a0_13, .r a0_14, .r a0_15, .r a0_16]] = impl_NeedAll_u k a0_0 a0_1 a0_2 a0_3 a0_4 a0_5 a0_6 a0_7 a0_8 a0_9 a0_10 a0_11 a0_12 a0_13 a0_14 a0_15 a0_16 := by
  have e0 : evalF E P0 (k + 1) N.impl_NeedAll [.v [.i a0_0, .i a0_1, .i a0_2, .r a0_3, .i a0_4, .i a0_5, .i a0_6, .i a0_7, .i a0_8, .r a0_9, .i a0_10, .b a0_11, .b a0_12, .r a0_13, .r a0_14, .r a0_15, .r a0_16]] = impl_NeedAll_U k a0_0 a0_1 a0_2 a0_3 a0_4 a0_5 a0_6 a0_7 a0_8 a0_9 a0_10 a0_11 a0_12 a0_13 a0_14 a0_15 a0_16 (fun v => impl_NeedAll_it1 k a0_0 a0_1 a0_2 a0_3 a0_4 a0_5 a0_6 a0_7 a0_8 a0_9 a0_10 a0_11 a0_12 a0_13 a0_14 a0_15 a0_16 [] k (impl_NeedAll_S1 a0_0 a0_1 a0_2 a0_3 a0_4 a0_5 a0_6 a0_7 a0_8 a0_9 a0_10 a0_11 a0_12 a0_13 a0_14 a0_15 a0_16 v)) := by kernel_rfl
  have e1 : ∀ (j1 : Nat) (v : Int × Int), impl_NeedAll_it1 k a0_0 a0_1 a0_2 a0_3 a0_4 a0_5 a0_6 a0_7 a0_8 a0_9 a0_10 a0_11 a0_12 a0_13 a0_14 a0_15 a0_16 [] (j1 + 1) (impl_NeedAll_S1 a0_0 a0_1 a0_2 a0_3 a0_4 a0_5 a0_6 a0_7 a0_8 a0_9 a0_10 a0_11 a0_12 a0_13 a0_14 a0_15 a0_16 v) = impl_NeedAll_L1 k a0_0 a0_1 a0_2 a0_3 a0_4 a0_5 a0_6 a0_7 a0_8 a0_9 a0_10 a0_11 a0_12 a0_13 a0_14 a0_15 a0_16 (fun v => impl_NeedAll_it1 k a0_0 a0_1 a0_2 a0_3 a0_4 a0_5 a0_6 a0_7 a0_8 a0_9 a0_10 a0_11 a0_12 a0_13 a0_14 a0_15 a0_16 [] j1 (impl_NeedAll_S1 a0_0 a0_1 a0_2 a0_3 a0_4 a0_5 a0_6 a0_7 a0_8 a0_9 a0_10 a0_11 a0_12 a0_13 a0_14 a0_15 a0_16 v)) v := by
    intro j1 v; kernel_rfl
  have i1 : ∀ (j1 : Nat) (v : Int × Int), impl_NeedAll_it1 k a0_0 a0_1 a0_2 a0_3 a0_4 a0_5 a0_6 a0_7 a0_8 a0_9 a0_10 a0_11 a0_12 a0_13 a0_14 a0_15 a0_16 [] j1 (impl_NeedAll_S1 a0_0 a0_1 a0_2 a0_3 a0_4 a0_5 a0_6 a0_7 a0_8 a0_9 a0_10 a0_11 a0_12 a0_13 a0_14 a0_15 a0_16 v) = fixN (impl_NeedAll_l1 k a0_0 a0_1 a0_2 a0_3 a0_4 a0_5 a0_6 a0_7 a0_8 a0_9 a0_10 a0_11 a0_12 a0_13 a0_14 a0_15 a0_16) j1 v := by
    intro j1 v
    refine iter_fix (impl_NeedAll_S1 a0_0 a0_1 a0_2 a0_3 a0_4 a0_5 a0_6 a0_7 a0_8 a0_9 a0_10 a0_11 a0_12 a0_13 a0_14 a0_15 a0_16) (impl_NeedAll_l1 k a0_0 a0_1 a0_2 a0_3 a0_4 a0_5 a0_6 a0_7 a0_8 a0_9 a0_10 a0_11 a0_12 a0_13 a0_14 a0_15 a0_16) (fun j1 v => (e1 j1 v).trans ?_) j1 v
    unfold impl_NeedAll_l1
    rfl
  rw [e0]; unfold impl_NeedAll_u
  simp only [i1]
/- laws.FnExactNeedAll -/
def laws_FnExactNeedAll_u (k : Nat) (a0_0 : Int) (a0_1 : Int) (a0_2 : Int) (a0_3 : List (List T)) (a0_4 : Int) (a0_5 : Int) (a0_6 : Int) (a0_7 : Int) (a0_8 : Int) (a0_9 : List (List T)) (a0_10 : Int) (a0_11 : Bool) (a0_12 : Bool) (a0_13 : List (List T)) (a0_14 : List (List T)) (a0_15 : List (List T)) (a0_16 : List (List T)) : Option Outs :=
 bindO (evalF E P0 k N.laws_szEng [.v [.i a0_0, .i a0_1, .i a0_2, .r a0_3, .i a0_4, .i a0_5, .i a0_6, .i a0_7, .i a0_8, .r a0_9, .i a0_10, .b a0_11, .b a0_12, .r a0_13, .r a0_14, .r a0_15, .r a0_16], .v [.i 1048576]]) fun o2 =>
 bif (decide ((o2.t 0).asI < 0)) then
  some ⟨[.b true], []⟩
 else
  bindO (evalF E P0 k N.laws_toEng [.v [.i a0_0, .i a0_1, .i a0_2, .r a0_3, .i a0_4, .i a0_5, .i a0_6, .i a0_7, .i a0_8, .r a0_9, .i a0_10, .b a0_11, .b a0_12, .r a0_13, .r a0_14, .r a0_15, .r a0_16]]) fun o5 =>
  bindO (evalF E P0 k N.spec_NeedAll [.v [.i (o5.t 0).asI, .i (o5.t 1).asI, .i (o5.t 2).asI, .r (o5.t 3).asR, .i (o5.t 4).asI, .i (o5.t 5).asI, .i (o5.t 6).asI, .i (o5.t 7).asI, .i (o5.t 8).asI, .r (o5.t 9).asR, .i (o5.t 10).asI, .b (o5.t 11).asB, .b (o5.t 12).asB, .r (o5.t 13).asR, .r (o5.t 14).asR, .r (o5.t 15).asR, .r (o5.t 16).asR]]) fun o6 =>
  bindO (evalF E P0 k N.laws_toEng [.v [.i a0_0, .i a0_1, .i a0_2, .r a0_3, .i a0_4, .i a0_5, .i a0_6, .i a0_7, .i a0_8, .r a0_9, .i a0_10, .b a0_11, .b a0_12, .r a0_13, .r a0_14, .r a0_15, .r a0_16]]) fun o8 =>
  bindO (evalF E P0 k N.impl_NeedAll [.v [.i (o8.t 0).asI, .i (o8.t 1).asI, .i (o8.t 2).asI, .r (o8.t 3).asR, .i (o8.t 4).asI, .i (o8.t 5).asI, .i (o8.t 6).asI, .i (o8.t 7).asI, .i (o8.t 8).asI, .r (o8.t 9).asR, .i (o8.t 10).asI, .b (o8.t 11).asB, .b (o8.t 12).asB, .r (o8.t 13).asR, .r (o8.t 14).asR, .r (o8.t 15).asR, .r (o8.t 16).asR]]) fun o10 =>
  bif ((o10.t 0).asI != (o6.t 0).asI) then
   some ⟨[.b false], []⟩
  else
   bindO (evalF E P0 k N.laws_toEng [.v [.i a0_0, .i a0_1, .i a0_2, .r a0_3, .i a0_4, .i a0_5, .i a0_6, .i a0_7, .i a0_8, .r a0_9, .i a0_10, .b a0_11, .b a0_12, .r a0_13, .r a0_14, .r a0_15, .r a0_16]]) fun o13 =>
   bindO (evalF E P0 k N.laws_eqEng [.v [.i (o8.t 0).asI, .i (o8.t 1).asI, .i (o8.t 2).asI, .r (o8.t 3).asR, .i (o8.t 4).asI, .i (o8.t 5).asI, .i (o8.t 6).asI, .i (o8.t 7).asI, .i (o8.t 8).asI, .r (o8.t 9).asR, .i (o8.t 10).asI, .b (o8.t 11).asB, .b (o8.t 12).asB, .r (o8.t 13).asR, .r (o8.t 14).asR, .r (o8.t 15).asR, .r (o8.t 16).asR], .v [.i (o13.t 0).asI, .i (o13.t 1).asI, .i (o13.t 2).asI, .r (o13.t 3).asR, .i (o13.t 4).asI, .i (o13.t 5).asI, .i (o13.t 6).asI, .i (o13.t 7).asI, .i (o13.t 8).asI, .r (o13.t 9).asR, .i (o13.t 10).asI, .b (o13.t 11).asB, .b (o13.t 12).asB, .r (o13.t 13).asR, .r (o13.t 14).asR, .r (o13.t 15).asR, .r (o13.t 16).asR]]) fun o14 =>
   bif (!(o14.t 0).asB) then some ⟨[.b false], []⟩ else some ⟨[.b true], []⟩
theorem laws_FnExactNeedAll_e (k : Nat) (a0_0 : Int) (a0_1 : Int) (a0_2 : Int) (a0_3 : List (List T)) (a0_4 : Int) (a0_5 : Int) (a0_6 : Int) (a0_7 : Int) (a0_8 : Int) (a0_9 : List (List T)) (a0_10 : Int) (a0_11 : Bool) (a0_12 : Bool) (a0_13 : List (List T)) (a0_14 : List (List T)) (a0_15 : List (List T)) (a0_16 : List (List T)) : evalF E P0 (k + 1) N.laws_FnExactNeedAll [.v [.i a0_0, .i a0_1, .i a0_2, .r a0_3, .i a0_4, .i a0_5, .i a0_6, .i a0_7, .i a0_8, .r a0_9, .i a0_10, .b a0_11, .b a0_12, .r a0_13, .r a0_14, .r a0_15, .r a0_16]] = laws_FnExactNeedAll_u k a0_0 a0_1 a0_2 a0_3 a0_4 a0_5 a0_6 a0_7 a0_8 a0_9 a0_10 a0_11 a0_12 a0_13 a0_14 a0_15 a0_16 := by kernel_rfl
/- spec.l15Job -/
def spec_l15Job_L1 (k : Nat) (a0_0 : Int) (a0_1 : Int) (a0_2 : Int) (a0_3 : List (List T)) (a0_4 : Int) (a0_5 : Int) (a0_6 : Int) (a0_7 : Int) (a0_8 : Int) (a0_9 : List (List T)) (a0_10 : Int) (a0_11 : Bool) (a0_12 : Bool) (a0_13 : List (List T)) (a0_14 : List (List T)) (a0_15 : List (List T)) (a0_16 : List (List T)) (a1 : Int) (p89 : Int) (p90 : Int) (p91 : Int) (p92 : Int) (p93 : List (List T)) (p94 : Int) (p95 : List (List T)) (p96 : Int) (G1 : (Int) → Option Outs) : (Int) → Option Outs := fun v8 =>
 bif (decide (v8 < a1)) then
  chk (decide (0 ≤ v8) && decide (v8 < (a0_14.length : Int))) <|
  bindO (evalF E P0 k N.spec_Clash [.v [.i a0_1, .i a0_2], .v [.i (at_ a0_14 v8.toNat 0).asI, .i (at_ a0_14 v8.toNat 1).asI, .i (at_ a0_14 v8.toNat 2).asI, .i (at_ a0_14 v8.toNat 3).asI, .r (at_ a0_14 v8.toNat 4).asR], .v [.i p89, .i p90, .i p91, .i p92, .r p93]]) fun o100 =>
  bif (o100.t 0).asB then some ⟨[.b false], []⟩ else G1 (IntKind.wrap .i64 (v8 + 1))
 else
  bif (p96 == 0) then
   some ⟨[.b true], []⟩
  else
   bindO (evalF E P0 k N.spec_l1In [.v [.i p96], .v [.i 4], .v [.i 7]]) fun o102 =>
   some ⟨[.b (o102.t 0).asB], []⟩
def spec_l15Job_k1 : List Nat := [1, 2, 4, 5, 6, 54, 55, 56, 57, 58, 59, 60, 61]
def spec_l15Job_S1 (a0_0 : Int) (a0_1 : Int) (a0_2 : Int) (a0_3 : List (List T)) (a0_4 : Int) (a0_5 : Int) (a0_6 : Int) (a0_7 : Int) (a0_8 : Int) (a0_9 : List (List T)) (a0_10 : Int) (a0_11 : Bool) (a0_12 : Bool) (a0_13 : List (List T)) (a0_14 : List (List T)) (a0_15 : List (List T)) (a0_16 : List (List T)) (a1 : Int) (p89 : Int) (p90 : Int) (p91 : Int) (p92 : Int) (p93 : List (List T)) (p94 : Int) (p95 : List (List T)) (p96 : Int) : (Int) → St := fun v8 => ⟨ofSl [(1, .i .i64 a1), (2, .ptr (2, 0) 0), (4, .b false), (5, .ptr (5, 0) 0), (6, .i .i64 v8), (54, .skip), (55, .skip), (56, .skip), (57, .skip), (58, .skip), (59, .skip), (60, .skip), (61, .skip)], ofMem [((2, 0), .var [.i .i64 a0_0, .i .i64 a0_1, .i .i64 a0_2, .sl 143 a0_3, .i .i64 a0_4, .i .i64 a0_5, .i .i64 a0_6, .i .i64 a0_7, .i .i64 a0_8, .sl 155 a0_9, .i .i64 a0_10, .b a0_11, .b a0_12, .sl 31 a0_13, .sl 104 a0_14, .sl 84 a0_15, .sl 86 a0_16]), ((5, 0), .var [.i .i64 p89, .i .i64 p90, .i .i64 p91, .i .i64 p92, .sl 3 p93, .i .i64 p94, .sl 3 p95, .i .i64 p96])]⟩
def spec_l15Job_J1 (k : Nat) (a0_14 : List (List T)) (a1 : Int) (R1 : Int → Int → Int → Int → List (List T) → Int → List (List T) → Int → (Int) → Option Outs) (c1 : Bool) : Option Outs :=
 bif c1 then
  some ⟨[.b false], []⟩
 else
  R1 ((at_ a0_14 a1.toNat 0).asI) ((at_ a0_14 a1.toNat 1).asI) ((at_ a0_14 a1.toNat 2).asI) ((at_ a0_14 a1.toNat 3).asI) ((at_ a0_14 a1.toNat 4).asR) ((at_ a0_14 a1.toNat 5).asI) ((at_ a0_14 a1.toNat 6).asR) ((at_ a0_14 a1.toNat 7).asI) 0
def spec_l15Job_l1 (k : Nat) (a0_0 : Int) (a0_1 : Int) (a0_2 : Int) (a0_3 : List (List T)) (a0_4 : Int) (a0_5 : Int) (a0_6 : Int) (a0_7 : Int) (a0_8 : Int) (a0_9 : List (List T)) (a0_10 : Int) (a0_11 : Bool) (a0_12 : Bool) (a0_13 : List (List T)) (a0_14 : List (List T)) (a0_15 : List (List T)) (a0_16 : List (List T)) (a1 : Int) (p89 : Int) (p90 : Int) (p91 : Int) (p92 : Int) (p93 : List (List T)) (p94 : Int) (p95 : List (List T)) (p96 : Int) (G1 : (Int) → Option Outs) : (Int) → Option Outs :=
  spec_l15Job_L1 k a0_0 a0_1 a0_2 a0_3 a0_4 a0_5 a0_6 a0_7 a0_8 a0_9 a0_10 a0_11 a0_12 a0_13 a0_14 a0_15 a0_16 a1 p89 p90 p91 p92 p93 p94 p95 p96 G1
def spec_l15Job_U (k : Nat) (a0_0 : Int) (a0_1 : Int) (a0_2 : Int) (a0_3 : List (List T)) (a0_4 : Int) (a0_5 : Int) (a0_6 : Int) (a0_7 : Int) (a0_8 : Int) (a0_9 : List (List T)) (a0_10 : Int) (a0_11 : Bool) (a0_12 : Bool) (a0_13 : List (List T)) (a0_14 : List (List T)) (a0_15 : List (List T)) (a0_16 : List (List T)) (a1 : Int) (R1 : Int → Int → Int → Int → List (List T) → Int → List (List T) → Int → (Int) → Option Outs) : Option Outs :=
 chk (decide (0 ≤ a1) && decide (a1 < (a0_14.length : Int))) <|
 bindO (evalF E P0 k N.spec_CmdCode [.v [.i a0_1, .i a0_2], .v [.i (at_ a0_14 a1.toNat 0).asI, .i (at_ a0_14 a1.toNat 1).asI, .i (at_ a0_14 a1.toNat 2).asI, .i (at_ a0_14 a1.toNat 3).asI, .r (at_ a0_14 a1.toNat 4).asR]]) fun o4 =>
 bif ((o4.t 0).asI != 0) then
  spec_l15Job_J1 k a0_14 a1 R1 true
 else
  bindO (evalF E P0 k N.spec_l1In [.v [.i (at_ a0_14 a1.toNat 5).asI], .v [.i 0], .v [.i 40]]) fun o103 =>
  bif (!(o103.t 0).asB) then
   spec_l15Job_J1 k a0_14 a1 R1 true
  else
   bindO (evalF E P0 k N.spec_l1Words [.v [.r (at_ a0_14 a1.toNat 6).asR]]) fun o104 =>
   bif (!(o104.t 0).asB) then
    spec_l15Job_J1 k a0_14 a1 R1 true
   else
    spec_l15Job_J1 k a0_14 a1 R1 (decide (((at_ a0_14 a1.toNat 6).asR.length : Int) > 6))
def spec_l15Job_u (k : Nat) (a0_0 : Int) (a0_1 : Int) (a0_2 : Int) (a0_3 : List (List T)) (a0_4 : Int) (a0_5 : Int) (a0_6 : Int) (a0_7 : Int) (a0_8 : Int) (a0_9 : List (List T)) (a0_10 : Int) (a0_11 : Bool) (a0_12 : Bool) (a0_13 : List (List T)) (a0_14 : List (List T)) (a0_15 : List (List T)) (a0_16 : List (List T)) (a1 : Int) : Option Outs :=
  spec_l15Job_U k a0_0 a0_1 a0_2 a0_3 a0_4 a0_5 a0_6 a0_7 a0_8 a0_9 a0_10 a0_11 a0_12 a0_13 a0_14 a0_15 a0_16 a1 (fun y0 y1 y2 y3 y4 y5 y6 y7 v => fixN (spec_l15Job_l1 k a0_0 a0_1 a0_2 a0_3 a0_4 a0_5 a0_6 a0_7 a0_8 a0_9 a0_10 a0_11 a0_12 a0_13 a0_14 a0_15 a0_16 a1 y0 y1 y2 y3 y4 y5 y6 y7) k v)
def spec_l15Job_it1 (k : Nat) (a0_0 : Int) (a0_1 : Int) (a0_2 : Int) (a0_3 : List (List T)) (a0_4 : Int) (a0_5 : Int) (a0_6 : Int) (a0_7 : Int) (a0_8 : Int) (a0_9 : List (List T)) (a0_10 : Int) (a0_11 : Bool) (a0_12 : Bool) (a0_13 : List (List T)) (a0_14 : List (List T)) (a0_15 : List (List T)) (a0_16 : List (List T)) (a1 : Int) (js : List Nat) (j : Nat) (s : St) : Option Outs := iter (LB E (evalF E P0 k) k [] N.spec_l15Job [.sr, .sr, .sr, .sl, .sr, .bl]) [] spec_l15Job_k1 (LK E (evalF E P0 k) k [] N.spec_l15Job [.v [.i a0_0, .i a0_1, .i a0_2, .r a0_3, .i a0_4, .i a0_5, .i a0_6, .i a0_7, .i a0_8, .r a0_9, .i a0_10, .b a0_11, .b a0_12, .r a0_13, .r a0_14, .r a0_15, .r a0_16], .v [.i a1]] [.sr, .sr, .sr, .sl, .sr, .bl] js) j s
theorem spec_l15Job_e (k : Nat) (a0_0 : Int) (a0_1 : Int) (a0_2 : Int) (a0_3 : List (List T)) (a0_4 : Int) (a0_5 : Int) (a0_6 : Int) (a0_7 : Int) (a0_8 : Int) (a0_9 : List (List T)) (a0_10 : Int) (a0_11 : Bool) (a0_12 : Bool) (a0_13 : List (List T)) (a0_14 : List (List T)) (a0_15 : List (List T)) (a0_16 : List (List T)) (a1 : Int) : evalF E P0 (k + 1) N.spec_l15Job [.v [.i a0_0, .i a0_1, .i a0_2, .r a0_3, .i a0_4, .i a0_5, .i a0_6, .i a0_7, .i a0_8, .r a0_9, .i a0_10, .b a0_11, .b a0_12, .r a0_13, .r a0_14, .r a0_15, .r a0_16], .v [.i a1]] = spec_l15Job_u k a0_0 a0_1 a0_2 a0_3 a0_4 a0_5 a0_6 a0_7 a0_8 a0_9 a0_10 a0_11 a0_12 a0_13 a0_14 a0_15 a0_16 a1 := by
  have e0 : evalF E P0 (k + 1) N.spec_l15Job [.v [.i a0_0, .i a0_1, .i a0_2, .r a0_3, .i a0_4, .i a0_5, .i a0_6, .i a0_7, .i a0_8, .r a0_9, .i a0_10, .b a0_11, .b a0_12, .r a0_13, .r a0_14, .r a0_15, .r a0_16], .v [.i a1]] = spec_l15Job_U k a0_0 a0_1 a0_2 a0_3 a0_4 a0_5 a0_6 a0_7 a0_8 a0_9 a0_10 a0_11 a0_12 a0_13 a0_14 a0_15 a0_16 a1 (fun y0 y1 y2 y3 y4 y5 y6 y7 v => spec_l15Job_it1 k a0_0 a0_1 a0_2 a0_3 a0_4 a0_5 a0_6 a0_7 a0_8 a0_9 a0_10 a0_11 a0_12 a0_13 a0_14 a0_15 a0_16 a1 [] k (spec_l15Job_S1 a0_0 a0_1 a0_2 a0_3 a0_4 a0_5 a0_6 a0_7 a0_8 a0_9 a0_10 a0_11 a0_12 a0_13 a0_14 a0_15 a0_16 a1 y0 y1 y2 y3 y4 y5 y6 y7 v)) := by kernel_rfl
  have e1 : ∀ (p89 : Int) (p90 : Int) (p91 : Int) (p92 : Int) (p93 : List (List T)) (p94 : Int) (p95 : List (List T)) (p96 : Int) (j1 : Nat) (v : Int), spec_l15Job_it1 k a0_0 a0_1 a0_2 a0_3 a0_4 a0_5 a0_6 a0_7 a0_8 a0_9 a0_10 a0_11 a0_12 a0_13 a0_14 a0_15 a0_16 a1 [] (j1 + 1) (spec_l15Job_S1 a0_0 a0_1 a0_2 a0_3 a0_4 a0_5 a0_6 a0_7 a0_8 a0_9 a0_10 a0_11 a0_12 a0_13 a0_14 a0_15 a0_16 a1 p89 p90 p91 p92 p93 p94 p95 p96 v) = spec_l15Job_L1 k a0_0 a0_1 a0_2 a0_3 a0_4 a0_5 a0_6 a0_7 a0_8 a0_9 a0_10 a0_11 a0_12 a0_13 a0_14 a0_15 a0_16 a1 p89 p90 p91 p92 p93 p94 p95 p96 (fun v => spec_l15Job_it1 k a0_0 a0_1 a0_2 a0_3 a0_4 a0_5 a0_6 a0_7 a0_8 a0_9 a0_10 a0_11 a0_12 a0_13 a0_14 a0_15 a0_16 a1 [] j1 (spec_l15Job_S1 a0_0 a0_1 a0_2 a0_3 a0_4 a0_5 a0_6 a0_7 a0_8 a0_9 a0_10 a0_11 a0_12 a0_13 a0_14 a0_15 a0_16 a1 p89 p90 p91 p92 p93 p94 p95 p96 v)) v := by
    intro p89 p90 p91 p92 p93 p94 p95 p96 j1 v; kernel_rfl
  have i1 : ∀ (p89 : Int) (p90 : Int) (p91 : Int) (p92 : Int) (p93 : List (List T)) (p94 : Int) (p95 : List (List T)) (p96 : Int) (j1 : Nat) (v : Int), spec_l15Job_it1 k a0_0 a0_1 a0_2 a0_3 a0_4 a0_5 a0_6 a0_7 a0_8 a0_9 a0_10 a0_11 a0_12 a0_13 a0_14 a0_15 a0_16 a1 [] j1 (spec_l15Job_S1 a0_0 a0_1 a0_2 a0_3 a0_4 a0_5 a0_6 a0_7 a0_8 a0_9 a0_10 a0_11 a0_12 a0_13 a0_14 a0_15 a0_16 a1 p89 p90 p91 p92 p93 p94 p95 p96 v) = fixN (spec_l15Job_l1 k a0_0 a0_1 a0_2 a0_3 a0_4 a0_5 a0_6 a0_7 a0_8 a0_9 a0_10 a0_11 a0_12 a0_13 a0_14 a0_15 a0_16 a1 p89 p90 p91 p92 p93 p94 p95 p96) j1 v := by
    intro p89 p90 p91 p92 p93 p94 p95 p96 j1 v
    refine iter_fix (spec_l15Job_S1 a0_0 a0_1 a0_2 a0_3 a0_4 a0_5 a0_6 a0_7 a0_8 a0_9 a0_10 a0_11 a0_12 a0_13 a0_14 a0_15 a0_16 a1 p89 p90 p91 p92 p93 p94 p95 p96) (spec_l15Job_l1 k a0_0 a0_1 a0_2 a0_3 a0_4 a0_5 a0_6 a0_7 a0_8 a0_9 a0_10 a0_11 a0_12 a0_13 a0_14 a0_15 a0_16 a1 p89 p90 p91 p92 p93 p94 p95 p96) (fun j1 v => (e1 p89 p90 p91 p92 p93 p94 p95 p96 j1 v).trans ?_) j1 v
    unfold spec_l15Job_l1
    rfl
  rw [e0]; unfold spec_l15Job_u
  simp only [i1]
/- spec.SecOk -/
def spec_SecOk_u (k : Nat) (a0 : List (List T)) : Option Outs :=
 bif (decide ((a0.length : Int) ≤ 12)) then
  bindO (evalF E P0 k N.spec_l1Words [.v [.r a0]]) fun o2 =>
  some ⟨[.b (o2.t 0).asB], []⟩
 else
  some ⟨[.b false], []⟩
theorem spec_SecOk_e (k : Nat) (a0 : List (List T)) : evalF E P0 (k + 1) N.spec_SecOk [.v [.r a0]] = spec_SecOk_u k a0 := by kernel_rfl
/- spec.MemOk -/
def spec_MemOk_L3 (k : Nat) (a0_0 : List (List T)) (a0_1 : List (List T)) (a0_2 : Bool) (a0_3 : List (List T)) (G3 : (Int) → Option Outs) : (Int) → Option Outs := fun v24 =>
 bif (decide (v24 < (a0_3.length : Int))) then
  chk (decide (0 ≤ v24) && decide (v24 < (a0_3.length : Int))) <|
  bindO (evalF E P0 k N.spec_l1In [.v [.i (at_ a0_3 v24.toNat 0).asI], .v [.i 0], .v [.i (IntKind.wrap .i64 ((a0_0.length : Int) - 1))]]) fun o384 =>
  bif (!(o384.t 0).asB) then
   some ⟨[.b false], []⟩
  else
   bif (decide (v24 > 0)) then
    chk (decide (0 ≤ (IntKind.wrap .i64 (v24 - 1))) && decide ((IntKind.wrap .i64 (v24 - 1)) < (a0_3.length : Int))) <|
    chk (decide (0 ≤ v24) && decide (v24 < (a0_3.length : Int))) <|
    bif (decide ((at_ a0_3 (IntKind.wrap .i64 (v24 - 1)).toNat 0).asI ≥ (at_ a0_3 v24.toNat 0).asI)) then
     some ⟨[.b false], []⟩
    else
     G3 (IntKind.wrap .i64 (v24 + 1))
   else
    G3 (IntKind.wrap .i64 (v24 + 1))
 else
  bindO (evalF E P0 k N.spec_l1In [.v [.i (a0_0.length : Int)], .v [.i 1], .v [.i 20]]) fun o386 =>
  bif (o386.t 0).asB then some ⟨[.b (decide ((a0_1.length : Int) ≤ 60))], []⟩ else some ⟨[.b false], []⟩
def spec_MemOk_k3 : List Nat := [1, 2, 3, 6, 83, 84, 85, 86, 87, 88, 89, 90]
def spec_MemOk_S3 (a0_0 : List (List T)) (a0_1 : List (List T)) (a0_2 : Bool) (a0_3 : List (List T)) : (Int) → St := fun v24 => ⟨ofSl [(1, .ptr (1, 0) 0), (2, .b false), (3, .i .i64 (a0_0.length : Int)), (6, .i .i64 v24), (83, .skip), (84, .skip), (85, .skip), (86, .skip), (87, .skip), (88, .skip), (89, .skip), (90, .skip)], ofMem [((1, 0), .var [.sl 24 a0_0, .sl 162 a0_1, .b a0_2, .sl 3 a0_3])]⟩
def spec_MemOk_L2 (k : Nat) (a0_0 : List (List T)) (a0_1 : List (List T)) (a0_2 : Bool) (a0_3 : List (List T)) (R3 : (Int) → Option Outs) (G2 : (Int) → Option Outs) : (Int) → Option Outs := fun v16 =>
 bif (decide (v16 < (a0_1.length : Int))) then
  chk (decide (0 ≤ v16) && decide (v16 < (a0_1.length : Int))) <|
  bindO (evalF E P0 k N.spec_l1In [.v [.i (at_ a0_1 v16.toNat 0).asI], .v [.i 0], .v [.i (IntKind.wrap .i64 ((a0_0.length : Int) - 1))]]) fun o287 =>
  bif (!(o287.t 0).asB) then
   some ⟨[.b false], []⟩
  else
   chk (decide (0 ≤ v16) && decide (v16 < (a0_1.length : Int))) <|
   bindO (evalF E P0 k N.spec_SecOk [.v [.r (at_ a0_1 v16.toNat 1).asR]]) fun o288 =>
   bif (!(o288.t 0).asB) then some ⟨[.b false], []⟩ else G2 (IntKind.wrap .i64 (v16 + 1))
 else
  R3 0
def spec_MemOk_k2 : List Nat := [1, 2, 3, 5, 6, 49, 50, 51, 52, 53, 54, 55, 56, 57, 58, 59, 60, 61, 62, 63, 64, 65, 66, 67, 68, 69, 70, 71, 72, 73, 74, 75, 76, 77, 78, 79, 80, 81, 82, 83, 84, 85, 86, 87, 88, 89, 90]
def spec_MemOk_S2 (a0_0 : List (List T)) (a0_1 : List (List T)) (a0_2 : Bool) (a0_3 : List (List T)) : (Int) → St := fun v16 => ⟨ofSl [(1, .ptr (1, 0) 0), (2, .b false), (3, .i .i64 (a0_0.length : Int)), (5, .i .i64 v16), (6, .skip), (49, .skip), (50, .skip), (51, .skip), (52, .skip), (53, .skip), (54, .skip), (55, .skip), (56, .skip), (57, .skip), (58, .skip), (59, .skip), (60, .skip), (61, .skip), (62, .skip), (63, .skip), (64, .skip), (65, .skip), (66, .skip), (67, .skip), (68, .skip), (69, .skip), (70, .skip), (71, .skip), (72, .skip), (73, .skip), (74, .skip), (75, .skip), (76, .skip), (77, .skip), (78, .skip), (79, .skip), (80, .skip), (81, .skip), (82, .skip), (83, .skip), (84, .skip), (85, .skip), (86, .skip), (87, .skip), (88, .skip), (89, .skip), (90, .skip)], ofMem [((1, 0), .var [.sl 24 a0_0, .sl 162 a0_1, .b a0_2, .sl 3 a0_3])]⟩
def spec_MemOk_L1 (k : Nat) (a0_0 : List (List T)) (a0_1 : List (List T)) (a0_2 : Bool) (a0_3 : List (List T)) (R2 : (Int) → Option Outs) (G1 : (Int) → Option Outs) : (Int) → Option Outs := fun v8 =>
 bif (decide (v8 < (a0_0.length : Int))) then
  chk (decide (0 ≤ v8) && decide (v8 < (a0_0.length : Int))) <|
  bindO (evalF E P0 k N.spec_SecOk [.v [.r (at_ a0_0 v8.toNat 0).asR]]) fun o96 =>
  bif (!(o96.t 0).asB) then some ⟨[.b false], []⟩ else G1 (IntKind.wrap .i64 (v8 + 1))
 else
  R2 0
def spec_MemOk_k1 : List Nat := [1, 2, 3, 4, 5, 6, 22, 23, 24, 25, 26, 27, 28, 29, 30, 31, 32, 33, 34, 35, 36, 37, 38, 39, 40, 41, 42, 43, 44, 45, 46, 47, 48, 49, 50, 51, 52, 53, 54, 55, 56, 57, 58, 59, 60, 61, 62, 63, 64, 65, 66, 67, 68, 69, 70, 71, 72, 73, 74, 75, 76, 77, 78, 79, 80, 81, 82, 83, 84, 85, 86, 87, 88, 89, 90]
def spec_MemOk_S1 (a0_0 : List (List T)) (a0_1 : List (List T)) (a0_2 : Bool) (a0_3 : List (List T)) : (Int) → St := fun v8 => ⟨ofSl [(1, .ptr (1, 0) 0), (2, .b false), (3, .i .i64 (a0_0.length : Int)), (4, .i .i64 v8), (5, .skip), (6, .skip), (22, .skip), (23, .skip), (24, .skip), (25, .skip), (26, .skip), (27, .skip), (28, .skip), (29, .skip), (30, .skip), (31, .skip), (32, .skip), (33, .skip), (34, .skip), (35, .skip), (36, .skip), (37, .skip), (38, .skip), (39, .skip), (40, .skip), (41, .skip), (42, .skip), (43, .skip), (44, .skip), (45, .skip), (46, .skip), (47, .skip), (48, .skip), (49, .skip), (50, .skip), (51, .skip), (52, .skip), (53, .skip), (54, .skip), (55, .skip), (56, .skip), (57, .skip), (58, .skip), (59, .skip), (60, .skip), (61, .skip), (62, .skip), (63, .skip), (64, .skip), (65, .skip), (66, .skip), (67, .skip), (68, .skip), (69, .skip), (70, .skip), (71, .skip), (72, .skip), (73, .skip), (74, .skip), (75, .skip), (76, .skip), (77, .skip), (78, .skip), (79, .skip), (80, .skip), (81, .skip), (82, .skip), (83, .skip), (84, .skip), (85, .skip), (86, .skip), (87, .skip), (88, .skip), (89, .skip), (90, .skip)], ofMem [((1, 0), .var [.sl 24 a0_0, .sl 162 a0_1, .b a0_2, .sl 3 a0_3])]⟩
def spec_MemOk_l3 (k : Nat) (a0_0 : List (List T)) (a0_1 : List (List T)) (a0_2 : Bool) (a0_3 : List (List T)) (G3 : (Int) → Option Outs) : (Int) → Option Outs :=
  spec_MemOk_L3 k a0_0 a0_1 a0_2 a0_3 G3
def spec_MemOk_l2 (k : Nat) (a0_0 : List (List T)) (a0_1 : List (List T)) (a0_2 : Bool) (a0_3 : List (List T)) (G2 : (Int) → Option Outs) : (Int) → Option Outs :=
  spec_MemOk_L2 k a0_0 a0_1 a0_2 a0_3 (fun v => fixN (spec_MemOk_l3 k a0_0 a0_1 a0_2 a0_3) k v) G2
def spec_MemOk_l1 (k : Nat) (a0_0 : List (List T)) (a0_1 : List (List T)) (a0_2 : Bool) (a0_3 : List (List T)) (G1 : (Int) → Option Outs) : (Int) → Option Outs :=
  spec_MemOk_L1 k a0_0 a0_1 a0_2 a0_3 (fun v => fixN (spec_MemOk_l2 k a0_0 a0_1 a0_2 a0_3) k v) G1
def spec_MemOk_U (k : Nat) (a0_0 : List (List T)) (a0_1 : List (List T)) (a0_2 : Bool) (a0_3 : List (List T)) (R1 : (Int) → Option Outs) : Option Outs :=
 R1 0
def spec_MemOk_u (k : Nat) (a0_0 : List (List T)) (a0_1 : List (List T)) (a0_2 : Bool) (a0_3 : List (List T)) : Option Outs :=
  spec_MemOk_U k a0_0 a0_1 a0_2 a0_3 (fun v => fixN (spec_MemOk_l1 k a0_0 a0_1 a0_2 a0_3) k v)
def spec_MemOk_it1 (k : Nat) (a0_0 : List (List T)) (a0_1 : List (List T)) (a0_2 : Bool) (a0_3 : List (List T)) (js : List Nat) (j : Nat) (s : St) : Option Outs := iter (LB E (evalF E P0 k) k [] N.spec_MemOk [.sr, .sr, .sl, .sr, .bl]) [] spec_MemOk_k1 (LK E (evalF E P0 k) k [] N.spec_MemOk [.v [.r a0_0, .r a0_1, .b a0_2, .r a0_3]] [.sr, .sr, .sl, .sr, .bl] js) j s
def spec_MemOk_it2 (k : Nat) (a0_0 : List (List T)) (a0_1 : List (List T)) (a0_2 : Bool) (a0_3 : List (List T)) (js : List Nat) (j : Nat) (s : St) : Option Outs := iter (LB E (evalF E P0 k) k [] N.spec_MemOk [.sr, .sr, .sr, .sl, .sr, .bl]) [] spec_MemOk_k2 (LK E (evalF E P0 k) k [] N.spec_MemOk [.v [.r a0_0, .r a0_1, .b a0_2, .r a0_3]] [.sr, .sr, .sr, .sl, .sr, .bl] js) j s
def spec_MemOk_it3 (k : Nat) (a0_0 : List (List T)) (a0_1 : List (List T)) (a0_2 : Bool) (a0_3 : List (List T)) (js : List Nat) (j : Nat) (s : St) : Option Outs := iter (LB E (evalF E P0 k) k [] N.spec_MemOk [.sr, .sr, .sr, .sr, .sl, .sr, .bl]) [] spec_MemOk_k3 (LK E (evalF E P0 k) k [] N.spec_MemOk [.v [.r a0_0, .r a0_1, .b a0_2, .r a0_3]] [.sr, .sr, .sr, .sr, .sl, .sr, .bl] js) j s
theorem spec_MemOk_e (k : Nat) (a0_0 : List (List T)) (a0_1 : List (List T)) (a0_2 : Bool) (a0_3 : List (List T)) : evalF E P0 (k + 1) N.spec_MemOk [.v [.r a0_0, .r a0_1, .b a0_2, .r a0_3]] = spec_MemOk_u k a0_0 a0_1 a0_2 a0_3 := by
  have e0 : evalF E P0 (k + 1) N.spec_MemOk [.v [.r a0_0, .r a0_1, .b a0_2, .r a0_3]] = spec_MemOk_U k a0_0 a0_1 a0_2 a0_3 (fun v => spec_MemOk_it1 k a0_0 a0_1 a0_2 a0_3 [] k (spec_MemOk_S1 a0_0 a0_1 a0_2 a0_3 v)) := by kernel_rfl
  have e3 : ∀ (j3 : Nat) (v : Int), spec_MemOk_it3 k a0_0 a0_1 a0_2 a0_3 [] (j3 + 1) (spec_MemOk_S3 a0_0 a0_1 a0_2 a0_3 v) = spec_MemOk_L3 k a0_0 a0_1 a0_2 a0_3 (fun v => spec_MemOk_it3 k a0_0 a0_1 a0_2 a0_3 [] j3 (spec_MemOk_S3 a0_0 a0_1 a0_2 a0_3 v)) v := by
    intro j3 v; kernel_rfl
  have i3 : ∀ (j3 : Nat) (v : Int), spec_MemOk_it3 k a0_0 a0_1 a0_2 a0_3 [] j3 (spec_MemOk_S3 a0_0 a0_1 a0_2 a0_3 v) = fixN (spec_MemOk_l3 k a0_0 a0_1 a0_2 a0_3) j3 v := by
    intro j3 v
    refine iter_fix (spec_MemOk_S3 a0_0 a0_1 a0_2 a0_3) (spec_MemOk_l3 k a0_0 a0_1 a0_2 a0_3) (fun j3 v => (e3 j3 v).trans ?_) j3 v
    unfold spec_MemOk_l3
    rfl
  have e2 : ∀ (j2 : Nat) (v : Int), spec_MemOk_it2 k a0_0 a0_1 a0_2 a0_3 [] (j2 + 1) (spec_MemOk_S2 a0_0 a0_1 a0_2 a0_3 v) = spec_MemOk_L2 k a0_0 a0_1 a0_2 a0_3 (fun v => spec_MemOk_it3 k a0_0 a0_1 a0_2 a0_3 [] k (spec_MemOk_S3 a0_0 a0_1 a0_2 a0_3 v)) (fun v => spec_MemOk_it2 k a0_0 a0_1 a0_2 a0_3 [] j2 (spec_MemOk_S2 a0_0 a0_1 a0_2 a0_3 v)) v := by
    intro j2 v; kernel_rfl
  have i2 : ∀ (j2 : Nat) (v : Int), spec_MemOk_it2 k a0_0 a0_1 a0_2 a0_3 [] j2 (spec_MemOk_S2 a0_0 a0_1 a0_2 a0_3 v) = fixN (spec_MemOk_l2 k a0_0 a0_1 a0_2 a0_3) j2 v := by
    intro j2 v
    refine iter_fix (spec_MemOk_S2 a0_0 a0_1 a0_2 a0_3) (spec_MemOk_l2 k a0_0 a0_1 a0_2 a0_3) (fun j2 v => (e2 j2 v).trans ?_) j2 v
    unfold spec_MemOk_l2
    simp only [i3] <;> rfl
  have e1 : ∀ (j1 : Nat) (v : Int), spec_MemOk_it1 k a0_0 a0_1 a0_2 a0_3 [] (j1 + 1) (spec_MemOk_S1 a0_0 a0_1 a0_2 a0_3 v) = spec_MemOk_L1 k a0_0 a0_1 a0_2 a0_3 (fun v => spec_MemOk_it2 k a0_0 a0_1 a0_2 a0_3 [] k (spec_MemOk_S2 a0_0 a0_1 a0_2 a0_3 v)) (fun v => spec_MemOk_it1 k a0_0 a0_1 a0_2 a0_3 [] j1 (spec_MemOk_S1 a0_0 a0_1 a0_2 a0_3 v)) v := by
    intro j1 v; kernel_rfl
  have i1 : ∀ (j1 : Nat) (v : Int), spec_MemOk_it1 k a0_0 a0_1 a0_2 a0_3 [] j1 (spec_MemOk_S1 a0_0 a0_1 a0_2 a0_3 v) = fixN (spec_MemOk_l1 k a0_0 a0_1 a0_2 a0_3) j1 v := by
    intro j1 v
    refine iter_fix (spec_MemOk_S1 a0_0 a0_1 a0_2 a0_3) (spec_MemOk_l1 k a0_0 a0_1 a0_2 a0_3) (fun j1 v => (e1 j1 v).trans ?_) j1 v
    unfold spec_MemOk_l1
    simp only [i2] <;> rfl
  rw [e0]; unfold spec_MemOk_u
  simp only [i1]
/- spec.l6Secs -/
def spec_l6Secs_u (k : Nat) (a0_0 : Int) (a0_1 : Int) : Option Outs :=
 some ⟨[.i (IntKind.wrap .i64 (6 + a0_1))], []⟩
theorem spec_l6Secs_e (k : Nat) (a0_0 : Int) (a0_1 : Int) : evalF E P0 (k + 1) N.spec_l6Secs [.v [.i a0_0, .i a0_1]] = spec_l6Secs_u k a0_0 a0_1 := by kernel_rfl
/- spec.l6Mems -/
def spec_l6Mems_L1 (k : Nat) (a0_0 : Int) (a0_1 : Int) (a0_2 : Int) (a0_3 : List (List T)) (a0_4 : Int) (a0_5 : Int) (a0_6 : Int) (a0_7 : Int) (a0_8 : Int) (a0_9 : List (List T)) (a0_10 : Int) (a0_11 : Bool) (a0_12 : Bool) (G1 : (Int) → Option Outs) : (Int) → Option Outs := fun v8 =>
 bif (decide (v8 < (a0_3.length : Int))) then
  chk (decide (0 ≤ v8) && decide (v8 < (a0_3.length : Int))) <|
  bindO (evalF E P0 k N.spec_MemOk [.v [.r (at_ a0_3 v8.toNat 0).asR, .r (at_ a0_3 v8.toNat 1).asR, .b (at_ a0_3 v8.toNat 2).asB, .r (at_ a0_3 v8.toNat 3).asR]]) fun o191 =>
  bif (!(o191.t 0).asB) then
   some ⟨[.b false], []⟩
  else
   bindO (evalF E P0 k N.spec_l6Secs [.v [.i a0_1, .i a0_2]]) fun o192 =>
   bif (((at_ a0_3 v8.toNat 0).asR.length : Int) != (o192.t 0).asI) then
    some ⟨[.b false], []⟩
   else
    bif (at_ a0_3 v8.toNat 2).asB then
     bif (v8 != a0_4) then
      bif (!a0_12) then some ⟨[.b false], []⟩ else G1 (IntKind.wrap .i64 (v8 + 1))
     else
      G1 (IntKind.wrap .i64 (v8 + 1))
    else
     G1 (IntKind.wrap .i64 (v8 + 1))
 else
  some ⟨[.b ((a0_3.length : Int) == a0_1)], []⟩
def spec_l6Mems_k1 : List Nat := [1, 2, 3, 44, 45, 46, 47, 48, 49, 50]
def spec_l6Mems_S1 (a0_0 : Int) (a0_1 : Int) (a0_2 : Int) (a0_3 : List (List T)) (a0_4 : Int) (a0_5 : Int) (a0_6 : Int) (a0_7 : Int) (a0_8 : Int) (a0_9 : List (List T)) (a0_10 : Int) (a0_11 : Bool) (a0_12 : Bool) : (Int) → St := fun v8 => ⟨ofSl [(1, .ptr (1, 0) 0), (2, .b false), (3, .i .i64 v8), (44, .skip), (45, .skip), (46, .skip), (47, .skip), (48, .skip), (49, .skip), (50, .skip)], ofMem [((1, 0), .var [.i .i64 a0_0, .i .i64 a0_1, .i .i64 a0_2, .sl 143 a0_3, .i .i64 a0_4, .i .i64 a0_5, .i .i64 a0_6, .i .i64 a0_7, .i .i64 a0_8, .sl 155 a0_9, .i .i64 a0_10, .b a0_11, .b a0_12])]⟩
def spec_l6Mems_l1 (k : Nat) (a0_0 : Int) (a0_1 : Int) (a0_2 : Int) (a0_3 : List (List T)) (a0_4 : Int) (a0_5 : Int) (a0_6 : Int) (a0_7 : Int) (a0_8 : Int) (a0_9 : List (List T)) (a0_10 : Int) (a0_11 : Bool) (a0_12 : Bool) (G1 : (Int) → Option Outs) : (Int) → Option Outs :=
  spec_l6Mems_L1 k a0_0 a0_1 a0_2 a0_3 a0_4 a0_5 a0_6 a0_7 a0_8 a0_9 a0_10 a0_11 a0_12 G1
def spec_l6Mems_U (k : Nat) (a0_0 : Int) (a0_1 : Int) (a0_2 : Int) (a0_3 : List (List T)) (a0_4 : Int) (a0_5 : Int) (a0_6 : Int) (a0_7 : Int) (a0_8 : Int) (a0_9 : List (List T)) (a0_10 : Int) (a0_11 : Bool) (a0_12 : Bool) (R1 : (Int) → Option Outs) : Option Outs :=
 R1 0
def spec_l6Mems_u (k : Nat) (a0_0 : Int) (a0_1 : Int) (a0_2 : Int) (a0_3 : List (List T)) (a0_4 : Int) (a0_5 : Int) (a0_6 : Int) (a0_7 : Int) (a0_8 : Int) (a0_9 : List (List T)) (a0_10 : Int) (a0_11 : Bool) (a0_12 : Bool) : Option Outs :=
  spec_l6Mems_U k a0_0 a0_1 a0_2 a0_3 a0_4 a0_5 a0_6 a0_7 a0_8 a0_9 a0_10 a0_11 a0_12 (fun v => fixN (spec_l6Mems_l1 k a0_0 a0_1 a0_2 a0_3 a0_4 a0_5 a0_6 a0_7 a0_8 a0_9 a0_10 a0_11 a0_12) k v)
def spec_l6Mems_it1 (k : Nat) (a0_0 : Int) (a0_1 : Int) (a0_2 : Int) (a0_3 : List (List T)) (a0_4 : Int) (a0_5 : Int) (a0_6 : Int) (a0_7 : Int) (a0_8 : Int) (a0_9 : List (List T)) (a0_10 : Int) (a0_11 : Bool) (a0_12 : Bool) (js : List Nat) (j : Nat) (s : St) : Option Outs := iter (LB E (evalF E P0 k) k [] N.spec_l6Mems [.sr, .sl, .sr, .bl]) [] spec_l6Mems_k1 (LK E (evalF E P0 k) k [] N.spec_l6Mems [.v [.i a0_0, .i a0_1, .i a0_2, .r a0_3, .i a0_4, .i a0_5, .i a0_6, .i a0_7, .i a0_8, .r a0_9, .i a0_10, .b a0_11, .b a0_12]] [.sr, .sl, .sr, .bl] js) j s
theorem spec_l6Mems_e (k : Nat) (a0_0 : Int) (a0_1 : Int) (a0_2 : Int) (a0_3 : List (List T)) (a0_4 : Int) (a0_5 : Int) (a0_6 : Int) (a0_7 : Int) (a0_8 : Int) (a0_9 : List (List T)) (a0_10 : Int) (a0_11 : Bool) (a0_12 : Bool) : evalF E P0 (k + 1) N.spec_l6Mems [.v [.i a0_0, .i a0_1, .i a0_2, .r a0_3, .i a0_4, .i a0_5, .i a0_6, .i a0_7, .i a0_8, .r a0_9, .i a0_10, .b a0_11, .b a0_12]] = spec_l6Mems_u k a0_0 a0_1 a0_2 a0_3 a0_4 a0_5 a0_6 a0_7 a0_8 a0_9 a0_10 a0_11 a0_12 := by
  have e0 : evalF E P0 (k + 1) N.spec_l6Mems [.v [.i a0_0, .i a0_1, .i a0_2, .r a0_3, .i a0_4, .i a0_5, .i a0_6, .i a0_7, .i a0_8, .r a0_9, .i a0_10, .b a0_11, .b a0_12]] = spec_l6Mems_U k a0_0 a0_1 a0_2 a0_3 a0_4 a0_5 a0_6 a0_7 a0_8 a0_9 a0_10 a0_11 a0_12 (fun v => spec_l6Mems_it1 k a0_0 a0_1 a0_2 a0_3 a0_4 a0_5 a0_6 a0_7 a0_8 a0_9 a0_10 a0_11 a0_12 [] k (spec_l6Mems_S1 a0_0 a0_1 a0_2 a0_3 a0_4 a0_5 a0_6 a0_7 a0_8 a0_9 a0_10 a0_11 a0_12 v)) := by kernel_rfl
  have e1 : ∀ (j1 : Nat) (v : Int), spec_l6Mems_it1 k a0_0 a0_1 a0_2 a0_3 a0_4 a0_5 a0_6 a0_7 a0_8 a0_9 a0_10 a0_11 a0_12 [] (j1 + 1) (spec_l6Mems_S1 a0_0 a0_1 a0_2 a0_3 a0_4 a0_5 a0_6 a0_7 a0_8 a0_9 a0_10 a0_11 a0_12 v) = spec_l6Mems_L1 k a0_0 a0_1 a0_2 a0_3 a0_4 a0_5 a0_6 a0_7 a0_8 a0_9 a0_10 a0_11 a0_12 (fun v => spec_l6Mems_it1 k a0_0 a0_1 a0_2 a0_3 a0_4 a0_5 a0_6 a0_7 a0_8 a0_9 a0_10 a0_11 a0_12 [] j1 (spec_l6Mems_S1 a0_0 a0_1 a0_2 a0_3 a0_4 a0_5 a0_6 a0_7 a0_8 a0_9 a0_10 a0_11 a0_12 v)) v := by
    intro j1 v; kernel_rfl
  have i1 : ∀ (j1 : Nat) (v : Int), spec_l6Mems_it1 k a0_0 a0_1 a0_2 a0_3 a0_4 a0_5 a0_6 a0_7 a0_8 a0_9 a0_10 a0_11 a0_12 [] j1 (spec_l6Mems_S1 a0_0 a0_1 a0_2 a0_3 a0_4 a0_5 a0_6 a0_7 a0_8 a0_9 a0_10 a0_11 a0_12 v) = fixN (spec_l6Mems_l1 k a0_0 a0_1 a0_2 a0_3 a0_4 a0_5 a0_6 a0_7 a0_8 a0_9 a0_10 a0_11 a0_12) j1 v := by
    intro j1 v
    refine iter_fix (spec_l6Mems_S1 a0_0 a0_1 a0_2 a0_3 a0_4 a0_5 a0_6 a0_7 a0_8 a0_9 a0_10 a0_11 a0_12) (spec_l6Mems_l1 k a0_0 a0_1 a0_2 a0_3 a0_4 a0_5 a0_6 a0_7 a0_8 a0_9 a0_10 a0_11 a0_12) (fun j1 v => (e1 j1 v).trans ?_) j1 v
    unfold spec_l6Mems_l1
    rfl
  rw [e0]; unfold spec_l6Mems_u
  simp only [i1]
/- spec.l6Dirty -/
def spec_l6Dirty_L1 (k : Nat) (a0_0 : Int) (a0_1 : Int) (a0_2 : Int) (a0_3 : List (List T)) (a0_4 : Int) (a0_5 : Int) (a0_6 : Int) (a0_7 : Int) (a0_8 : Int) (a0_9 : List (List T)) (a0_10 : Int) (a0_11 : Bool) (a0_12 : Bool) (G1 : (Int) → Option Outs) : (Int) → Option Outs := fun v8 =>
 bif (decide (v8 < (a0_9.length : Int))) then
  chk (decide (0 ≤ v8) && decide (v8 < (a0_9.length : Int))) <|
  bindO (evalF E P0 k N.spec_l1In [.v [.i (at_ a0_9 v8.toNat 0).asI], .v [.i 0], .v [.i (IntKind.wrap .i64 (a0_2 - 1))]]) fun o191 =>
  bif (!(o191.t 0).asB) then
   some ⟨[.b false], []⟩
  else
   bif (((at_ a0_9 v8.toNat 1).asR.length : Int) != (IntKind.wrap .i64 (a0_1 - 1))) then
    some ⟨[.b false], []⟩
   else
    bindO (evalF E P0 k N.spec_l1Words [.v [.r (at_ a0_9 v8.toNat 1).asR]]) fun o192 =>
    bif (!(o192.t 0).asB) then
     some ⟨[.b false], []⟩
    else
     bif (decide (v8 > 0)) then
      chk (decide (0 ≤ (IntKind.wrap .i64 (v8 - 1))) && decide ((IntKind.wrap .i64 (v8 - 1)) < (a0_9.length : Int))) <|
      bif (decide ((at_ a0_9 (IntKind.wrap .i64 (v8 - 1)).toNat 0).asI ≥ (at_ a0_9 v8.toNat 0).asI)) then
       some ⟨[.b false], []⟩
      else
       G1 (IntKind.wrap .i64 (v8 + 1))
     else
      G1 (IntKind.wrap .i64 (v8 + 1))
 else
  some ⟨[.b true], []⟩
def spec_l6Dirty_k1 : List Nat := [1, 2, 3]
def spec_l6Dirty_S1 (a0_0 : Int) (a0_1 : Int) (a0_2 : Int) (a0_3 : List (List T)) (a0_4 : Int) (a0_5 : Int) (a0_6 : Int) (a0_7 : Int) (a0_8 : Int) (a0_9 : List (List T)) (a0_10 : Int) (a0_11 : Bool) (a0_12 : Bool) : (Int) → St := fun v8 => ⟨ofSl [(1, .ptr (1, 0) 0), (2, .b false), (3, .i .i64 v8)], ofMem [((1, 0), .var [.i .i64 a0_0, .i .i64 a0_1, .i .i64 a0_2, .sl 143 a0_3, .i .i64 a0_4, .i .i64 a0_5, .i .i64 a0_6, .i .i64 a0_7, .i .i64 a0_8, .sl 155 a0_9, .i .i64 a0_10, .b a0_11, .b a0_12])]⟩
def spec_l6Dirty_l1 (k : Nat) (a0_0 : Int) (a0_1 : Int) (a0_2 : Int) (a0_3 : List (List T)) (a0_4 : Int) (a0_5 : Int) (a0_6 : Int) (a0_7 : Int) (a0_8 : Int) (a0_9 : List (List T)) (a0_10 : Int) (a0_11 : Bool) (a0_12 : Bool) (G1 : (Int) → Option Outs) : (Int) → Option Outs :=
  spec_l6Dirty_L1 k a0_0 a0_1 a0_2 a0_3 a0_4 a0_5 a0_6 a0_7 a0_8 a0_9 a0_10 a0_11 a0_12 G1
def spec_l6Dirty_U (k : Nat) (a0_0 : Int) (a0_1 : Int) (a0_2 : Int) (a0_3 : List (List T)) (a0_4 : Int) (a0_5 : Int) (a0_6 : Int) (a0_7 : Int) (a0_8 : Int) (a0_9 : List (List T)) (a0_10 : Int) (a0_11 : Bool) (a0_12 : Bool) (R1 : (Int) → Option Outs) : Option Outs :=
 R1 0
def spec_l6Dirty_u (k : Nat) (a0_0 : Int) (a0_1 : Int) (a0_2 : Int) (a0_3 : List (List T)) (a0_4 : Int) (a0_5 : Int) (a0_6 : Int) (a0_7 : Int) (a0_8 : Int) (a0_9 : List (List T)) (a0_10 : Int) (a0_11 : Bool) (a0_12 : Bool) : Option Outs :=
  spec_l6Dirty_U k a0_0 a0_1 a0_2 a0_3 a0_4 a0_5 a0_6 a0_7 a0_8 a0_9 a0_10 a0_11 a0_12 (fun v => fixN (spec_l6Dirty_l1 k a0_0 a0_1 a0_2 a0_3 a0_4 a0_5 a0_6 a0_7 a0_8 a0_9 a0_10 a0_11 a0_12) k v)
def spec_l6Dirty_it1 (k : Nat) (a0_0 : Int) (a0_1 : Int) (a0_2 : Int) (a0_3 : List (List T)) (a0_4 : Int) (a0_5 : Int) (a0_6 : Int) (a0_7 : Int) (a0_8 : Int) (a0_9 : List (List T)) (a0_10 : Int) (a0_11 : Bool) (a0_12 : Bool) (js : List Nat) (j : Nat) (s : St) : Option Outs := iter (LB E (evalF E P0 k) k [] N.spec_l6Dirty [.sr, .sl, .sr, .bl]) [] spec_l6Dirty_k1 (LK E (evalF E P0 k) k [] N.spec_l6Dirty [.v [.i a0_0, .i a0_1, .i a0_2, .r a0_3, .i a0_4, .i a0_5, .i a0_6, .i a0_7, .i a0_8, .r a0_9, .i a0_10, .b a0_11, .b a0_12]] [.sr, .sl, .sr, .bl] js) j s
theorem spec_l6Dirty_e (k : Nat) (a0_0 : Int) (a0_1 : Int) (a0_2 : Int) (a0_3 : List (List T)) (a0_4 : Int) (a0_5 : Int) (a0_6 : Int) (a0_7 : Int) (a0_8 : Int) (a0_9 : List (List T)) (a0_10 : Int) (a0_11 : Bool) (a0_12 : Bool) : evalF E P0 (k + 1) N.spec_l6Dirty [.v [.i a0_0, .i a0_1, .i a0_2, .r a0_3, .i a0_4, .i a0_5, .i a0_6, .i a0_7, .i a0_8, .r a0_9, .i a0_10, .b a0_11, .b a0_12]] = spec_l6Dirty_u k a0_0 a0_1 a0_2 a0_3 a0_4 a0_5 a0_6 a0_7 a0_8 a0_9 a0_10 a0_11 a0_12 := by
  have e0 : evalF E P0 (k + 1) N.spec_l6Dirty [.v [.i a0_0, .i a0_1, .i a0_2, .r a0_3, .i a0_4, .i a0_5, .i a0_6, .i a0_7, .i a0_8, .r a0_9, .i a0_10, .b a0_11, .b a0_12]] = spec_l6Dirty_U k a0_0 a0_1 a0_2 a0_3 a0_4 a0_5 a0_6 a0_7 a0_8 a0_9 a0_10 a0_11 a0_12 (fun v => spec_l6Dirty_it1 k a0_0 a0_1 a0_2 a0_3 a0_4 a0_5 a0_6 a0_7 a0_8 a0_9 a0_10 a0_11 a0_12 [] k (spec_l6Dirty_S1 a0_0 a0_1 a0_2 a0_3 a0_4 a0_5 a0_6 a0_7 a0_8 a0_9 a0_10 a0_11 a0_12 v)) := by kernel_rfl
  have e1 : ∀ (j1 : Nat) (v : Int), spec_l6Dirty_it1 k a0_0 a0_1 a0_2 a0_3 a0_4 a0_5 a0_6 a0_7 a0_8 a0_9 a0_10 a0_11 a0_12 [] (j1 + 1) (spec_l6Dirty_S1 a0_0 a0_1 a0_2 a0_3 a0_4 a0_5 a0_6 a0_7 a0_8 a0_9 a0_10 a0_11 a0_12 v) = spec_l6Dirty_L1 k a0_0 a0_1 a0_2 a0_3 a0_4 a0_5 a0_6 a0_7 a0_8 a0_9 a0_10 a0_11 a0_12 (fun v => spec_l6Dirty_it1 k a0_0 a0_1 a0_2 a0_3 a0_4 a0_5 a0_6 a0_7 a0_8 a0_9 a0_10 a0_11 a0_12 [] j1 (spec_l6Dirty_S1 a0_0 a0_1 a0_2 a0_3 a0_4 a0_5 a0_6 a0_7 a0_8 a0_9 a0_10 a0_11 a0_12 v)) v := by
    intro j1 v; kernel_rfl
  have i1 : ∀ (j1 : Nat) (v : Int), spec_l6Dirty_it1 k a0_0 a0_1 a0_2 a0_3 a0_4 a0_5 a0_6 a0_7 a0_8 a0_9 a0_10 a0_11 a0_12 [] j1 (spec_l6Dirty_S1 a0_0 a0_1 a0_2 a0_3 a0_4 a0_5 a0_6 a0_7 a0_8 a0_9 a0_10 a0_11 a0_12 v) = fixN (spec_l6Dirty_l1 k a0_0 a0_1 a0_2 a0_3 a0_4 a0_5 a0_6 a0_7 a0_8 a0_9 a0_10 a0_11 a0_12) j1 v := by
    intro j1 v
    refine iter_fix (spec_l6Dirty_S1 a0_0 a0_1 a0_2 a0_3 a0_4 a0_5 a0_6 a0_7 a0_8 a0_9 a0_10 a0_11 a0_12) (spec_l6Dirty_l1 k a0_0 a0_1 a0_2 a0_3 a0_4 a0_5 a0_6 a0_7 a0_8 a0_9 a0_10 a0_11 a0_12) (fun j1 v => (e1 j1 v).trans ?_) j1 v
    unfold spec_l6Dirty_l1
    rfl
  rw [e0]; unfold spec_l6Dirty_u
  simp only [i1]
end
end Go.Proofs.Ytdmdiingedoblaa.Ev
