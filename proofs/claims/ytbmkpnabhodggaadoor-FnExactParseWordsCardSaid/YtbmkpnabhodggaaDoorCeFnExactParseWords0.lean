/- What functions answer under the evaluator, as Lean terms, part 0: what FnExactParseWords needs. No condition. -/
import Derived.Test.YtbmkpnabhodggaaDoorTab
namespace Go.Proofs.YtbmkpnabhodggaaDoor.Ev
open Go Go.Proofs
set_option linter.unusedVariables false
set_option maxRecDepth 100000
set_option maxHeartbeats 4000000
noncomputable section
def spec_l1In_u (k : Nat) (a0 : Int) (a1 : Int) (a2 : Int) : Option Outs :=
 bif (decide (a0 ≥ a1)) then some ⟨[.b (decide (a0 ≤ a2))], []⟩ else some ⟨[.b false], []⟩
theorem spec_l1In_e (k : Nat) (a0 : Int) (a1 : Int) (a2 : Int) : evalF E P0 (k + 1) N.spec_l1In [.v [.i a0], .v [.i a1], .v [.i a2]] = spec_l1In_u k a0 a1 a2 := by kernel_rfl
def laws_eqIntS_L1 (k : Nat) (a0 : List (List T)) (a1 : List (List T)) (G1 : (Int) → Option Outs) : (Int) → Option Outs := fun v8 =>
 bif (decide (v8 < (a0.length : Int))) then
  chk (decide (0 ≤ v8) && decide (v8 < (a0.length : Int))) <|
  chk (decide (0 ≤ v8) && decide (v8 < (a1.length : Int))) <|
  bif ((at_ a0 v8.toNat 0).asI != (at_ a1 v8.toNat 0).asI) then
   some ⟨[.b false], []⟩
  else
   G1 (IntKind.wrap .i64 (v8 + 1))
 else
  some ⟨[.b true], []⟩
def laws_eqIntS_k1 : List Nat := [0, 1, 4, 5]
def laws_eqIntS_S1 (a0 : List (List T)) (a1 : List (List T)) : (Int) → St := fun v8 => ⟨ofSl [(0, .sl 3 a0), (1, .sl 3 a1), (4, .b false), (5, .i .i64 v8)], ofMem []⟩
def laws_eqIntS_l1 (k : Nat) (a0 : List (List T)) (a1 : List (List T)) (G1 : (Int) → Option Outs) : (Int) → Option Outs :=
  laws_eqIntS_L1 k a0 a1 G1
def laws_eqIntS_U (k : Nat) (a0 : List (List T)) (a1 : List (List T)) (R1 : (Int) → Option Outs) : Option Outs :=
 bif ((a0.length : Int) != (a1.length : Int)) then some ⟨[.b false], []⟩ else R1 0
def laws_eqIntS_u (k : Nat) (a0 : List (List T)) (a1 : List (List T)) : Option Outs :=
  laws_eqIntS_U k a0 a1 (fun v => fixN (laws_eqIntS_l1 k a0 a1) k v)
def laws_eqIntS_it1 (k : Nat) (a0 : List (List T)) (a1 : List (List T)) (js : List Nat) (j : Nat) (s : St) : Option Outs := iter E (LB E (evalF E P0 k) k [] N.laws_eqIntS [.sr, .sr, .sl, .sr, .bl]) [] laws_eqIntS_k1 (LK E (evalF E P0 k) k [] N.laws_eqIntS [.v [.r a0], .v [.r a1]] [.sr, .sr, .sl, .sr, .bl] js) j s
theorem laws_eqIntS_e (k : Nat) (a0 : List (List T)) (a1 : List (List T)) : evalF E P0 (k + 1) N.laws_eqIntS [.v [.r a0], .v [.r a1]] = laws_eqIntS_u k a0 a1 := by
  have e0 : evalF E P0 (k + 1) N.laws_eqIntS [.v [.r a0], .v [.r a1]] = laws_eqIntS_U k a0 a1 (fun v => laws_eqIntS_it1 k a0 a1 [] k (laws_eqIntS_S1 a0 a1 v)) := by kernel_rfl
  have e1 : ∀ (j1 : Nat) (v : Int), laws_eqIntS_it1 k a0 a1 [] (j1 + 1) (laws_eqIntS_S1 a0 a1 v) = laws_eqIntS_L1 k a0 a1 (fun v => laws_eqIntS_it1 k a0 a1 [] j1 (laws_eqIntS_S1 a0 a1 v)) v := by
    intro j1 v; kernel_rfl
  have i1 : ∀ (j1 : Nat) (v : Int), laws_eqIntS_it1 k a0 a1 [] j1 (laws_eqIntS_S1 a0 a1 v) = fixN (laws_eqIntS_l1 k a0 a1) j1 v := by
    intro j1 v
    refine iter_fix (laws_eqIntS_S1 a0 a1) (laws_eqIntS_l1 k a0 a1) (fun j1 v => (e1 j1 v).trans ?_) j1 v
    unfold laws_eqIntS_l1
    rfl
  rw [e0]; unfold laws_eqIntS_u
  simp only [i1]
def spec_l22Split_J1 (k : Nat) (a0 : ByteArray) (v15 : Int) (v16 : Int) (w8 : List (List T)) (G1 : (Int × Int × List (List T)) → Option Outs) (c48 : Bool) : Option Outs :=
 bif c48 then
  chk (decide (0 ≤ v15) && decide (v15 ≤ v16) && decide (v16 ≤ (a0.size : Int))) <|
  chk (decide ((w8.length + ([[.s (a0.extract v15.toNat v16.toNat)]] : List (List T)).length) * 16 ≤ 140737488355328)) <|
  G1 ((IntKind.wrap .i64 (v16 + 1)), (IntKind.wrap .i64 (v16 + 1)), (w8 ++ ([[.s (a0.extract v15.toNat v16.toNat)]] : List (List T))))
 else
  G1 (v15, (IntKind.wrap .i64 (v16 + 1)), w8)
def spec_l22Split_L1 (k : Nat) (a0 : ByteArray) (a1 : Int) (G1 : (Int × Int × List (List T)) → Option Outs) : (Int × Int × List (List T)) → Option Outs := fun (v15, v16, w8) =>
 bif (decide (v16 ≤ (a0.size : Int))) then
  bif (v16 == (a0.size : Int)) then
   spec_l22Split_J1 k a0 v15 v16 w8 G1 true
  else
   chk (decide (0 ≤ v16) && decide (v16 < (a0.size : Int))) <|
   spec_l22Split_J1 k a0 v15 v16 w8 G1 ((byteAt a0 v16.toNat) == a1)
 else
  some ⟨[.r w8], []⟩
def spec_l22Split_k1 : List Nat := [0, 1, 4, 5, 6, 7, 35]
def spec_l22Split_S1 (a0 : ByteArray) (a1 : Int) : (Int × Int × List (List T)) → St := fun (v15, v16, w8) => ⟨ofSl [(0, .s a0), (1, .i .u8 a1), (4, .ref (4, 0)), (5, .ref (5, 0)), (6, .i .i64 v15), (7, .i .i64 v16), (35, .skip)], ofMem [((4, 0), .row 9 true []), ((5, 0), .row 9 true w8)]⟩
def spec_l22Split_l1 (k : Nat) (a0 : ByteArray) (a1 : Int) (G1 : (Int × Int × List (List T)) → Option Outs) : (Int × Int × List (List T)) → Option Outs :=
  spec_l22Split_L1 k a0 a1 G1
def spec_l22Split_U (k : Nat) (a0 : ByteArray) (a1 : Int) (R1 : (Int × Int × List (List T)) → Option Outs) : Option Outs :=
 R1 (0, 0, [])
def spec_l22Split_u (k : Nat) (a0 : ByteArray) (a1 : Int) : Option Outs :=
  spec_l22Split_U k a0 a1 (fun v => fixN (spec_l22Split_l1 k a0 a1) k v)
def spec_l22Split_it1 (k : Nat) (a0 : ByteArray) (a1 : Int) (js : List Nat) (j : Nat) (s : St) : Option Outs := iter E (LB E (evalF E P0 k) k [] N.spec_l22Split [.sr, .sr, .sr, .sl, .sr, .bl]) [] spec_l22Split_k1 (LK E (evalF E P0 k) k [] N.spec_l22Split [.v [.s a0], .v [.i a1]] [.sr, .sr, .sr, .sl, .sr, .bl] js) j s
theorem spec_l22Split_e (k : Nat) (a0 : ByteArray) (a1 : Int) : evalF E P0 (k + 1) N.spec_l22Split [.v [.s a0], .v [.i a1]] = spec_l22Split_u k a0 a1 := by
  have e0 : evalF E P0 (k + 1) N.spec_l22Split [.v [.s a0], .v [.i a1]] = spec_l22Split_U k a0 a1 (fun v => spec_l22Split_it1 k a0 a1 [] k (spec_l22Split_S1 a0 a1 v)) := by kernel_rfl
  have e1 : ∀ (j1 : Nat) (v : Int × Int × List (List T)), spec_l22Split_it1 k a0 a1 [] (j1 + 1) (spec_l22Split_S1 a0 a1 v) = spec_l22Split_L1 k a0 a1 (fun v => spec_l22Split_it1 k a0 a1 [] j1 (spec_l22Split_S1 a0 a1 v)) v := by
    intro j1 v; kernel_rfl
  have i1 : ∀ (j1 : Nat) (v : Int × Int × List (List T)), spec_l22Split_it1 k a0 a1 [] j1 (spec_l22Split_S1 a0 a1 v) = fixN (spec_l22Split_l1 k a0 a1) j1 v := by
    intro j1 v
    refine iter_fix (spec_l22Split_S1 a0 a1) (spec_l22Split_l1 k a0 a1) (fun j1 v => (e1 j1 v).trans ?_) j1 v
    unfold spec_l22Split_l1
    rfl
  rw [e0]; unfold spec_l22Split_u
  simp only [i1]
def spec_l22Parse_L1 (k : Nat) (a0 : ByteArray) (G1 : (Int × Int) → Option Outs) : (Int × Int) → Option Outs := fun (v15, v16) =>
 bif (decide (v16 < (a0.size : Int))) then
  chk (decide (0 ≤ v16) && decide (v16 < (a0.size : Int))) <|
  bindO (evalF E P0 k N.spec_l1In [.v [.i (IntKind.wrap .i64 (byteAt a0 v16.toNat))], .v [.i 48], .v [.i 57]]) fun o98 =>
  bif (!(o98.t 0).asB) then
   some ⟨[.i (-1)], []⟩
  else
   chk (decide (0 ≤ v16) && decide (v16 < (a0.size : Int))) <|
   G1 ((IntKind.wrap .i64 ((IntKind.wrap .i64 (v15 * 10)) + (IntKind.wrap .i64 (IntKind.wrap .u8 ((byteAt a0 v16.toNat) - 48))))), (IntKind.wrap .i64 (v16 + 1)))
 else
  bif (decide (v15 > 65535)) then some ⟨[.i (-1)], []⟩ else some ⟨[.i v15], []⟩
def spec_l22Parse_k1 : List Nat := [0, 2, 3, 4, 39, 40, 41]
def spec_l22Parse_S1 (a0 : ByteArray) : (Int × Int) → St := fun (v15, v16) => ⟨ofSl [(0, .s a0), (2, .i .i64 0), (3, .i .i64 v15), (4, .i .i64 v16), (39, .skip), (40, .skip), (41, .skip)], ofMem []⟩
def spec_l22Parse_J1 (k : Nat) (R1 : (Int × Int) → Option Outs) (c1 : Bool) : Option Outs :=
 bif c1 then some ⟨[.i (-1)], []⟩ else R1 (0, 0)
def spec_l22Parse_l1 (k : Nat) (a0 : ByteArray) (G1 : (Int × Int) → Option Outs) : (Int × Int) → Option Outs :=
  spec_l22Parse_L1 k a0 G1
def spec_l22Parse_U (k : Nat) (a0 : ByteArray) (R1 : (Int × Int) → Option Outs) : Option Outs :=
 bindO (evalF E P0 k N.spec_l1In [.v [.i (a0.size : Int)], .v [.i 1], .v [.i 5]]) fun o2 =>
 bif (!(o2.t 0).asB) then
  spec_l22Parse_J1 k R1 true
 else
  bif (decide ((a0.size : Int) > 1)) then
   chk (decide ((0 : Int) < (a0.size : Int))) <|
   spec_l22Parse_J1 k R1 ((byteAt a0 0) == 48)
  else
   spec_l22Parse_J1 k R1 false
def spec_l22Parse_u (k : Nat) (a0 : ByteArray) : Option Outs :=
  spec_l22Parse_U k a0 (fun v => fixN (spec_l22Parse_l1 k a0) k v)
def spec_l22Parse_it1 (k : Nat) (a0 : ByteArray) (js : List Nat) (j : Nat) (s : St) : Option Outs := iter E (LB E (evalF E P0 k) k [] N.spec_l22Parse [.sr, .sr, .sr, .sl, .sr, .bl]) [] spec_l22Parse_k1 (LK E (evalF E P0 k) k [] N.spec_l22Parse [.v [.s a0]] [.sr, .sr, .sr, .sl, .sr, .bl] js) j s
theorem spec_l22Parse_e (k : Nat) (a0 : ByteArray) : evalF E P0 (k + 1) N.spec_l22Parse [.v [.s a0]] = spec_l22Parse_u k a0 := by
  have e0 : evalF E P0 (k + 1) N.spec_l22Parse [.v [.s a0]] = spec_l22Parse_U k a0 (fun v => spec_l22Parse_it1 k a0 [] k (spec_l22Parse_S1 a0 v)) := by kernel_rfl
  have e1 : ∀ (j1 : Nat) (v : Int × Int), spec_l22Parse_it1 k a0 [] (j1 + 1) (spec_l22Parse_S1 a0 v) = spec_l22Parse_L1 k a0 (fun v => spec_l22Parse_it1 k a0 [] j1 (spec_l22Parse_S1 a0 v)) v := by
    intro j1 v; kernel_rfl
  have i1 : ∀ (j1 : Nat) (v : Int × Int), spec_l22Parse_it1 k a0 [] j1 (spec_l22Parse_S1 a0 v) = fixN (spec_l22Parse_l1 k a0) j1 v := by
    intro j1 v
    refine iter_fix (spec_l22Parse_S1 a0) (spec_l22Parse_l1 k a0) (fun j1 v => (e1 j1 v).trans ?_) j1 v
    unfold spec_l22Parse_l1
    rfl
  rw [e0]; unfold spec_l22Parse_u
  simp only [i1]
def spec_l22Words_L1 (k : Nat) (a0 : List (List T)) (G1 : (Int × List (List T)) → Option Outs) : (Int × List (List T)) → Option Outs := fun (v8, w8) =>
 bif (decide (v8 < (a0.length : Int))) then
  chk (decide (0 ≤ v8) && decide (v8 < (a0.length : Int))) <|
  bindO (evalF E P0 k N.spec_l22Parse [.v [.s (at_ a0 v8.toNat 0).asS]]) fun o96 =>
  bif (decide ((o96.t 0).asI < 0)) then
   some ⟨[.r [], .b false], []⟩
  else
   bif (decide (v8 ≥ 40)) then
    some ⟨[.r [], .b false], []⟩
   else
    chk (decide ((w8.length + ([[.i (o96.t 0).asI]] : List (List T)).length) * 8 ≤ 140737488355328)) <|
    G1 ((IntKind.wrap .i64 (v8 + 1)), (w8 ++ ([[.i (o96.t 0).asI]] : List (List T))))
 else
  some ⟨[.r w8, .b true], []⟩
def spec_l22Words_k1 : List Nat := [0, 2, 3, 4, 5, 30]
def spec_l22Words_S1 (a0 : List (List T)) : (Int × List (List T)) → St := fun (v8, w8) => ⟨ofSl [(0, .sl 9 a0), (2, .ref (2, 0)), (3, .b false), (4, .ref (4, 0)), (5, .i .i64 v8), (30, .skip)], ofMem [((2, 0), .row 3 true []), ((4, 0), .row 3 true w8)]⟩
def spec_l22Words_l1 (k : Nat) (a0 : List (List T)) (G1 : (Int × List (List T)) → Option Outs) : (Int × List (List T)) → Option Outs :=
  spec_l22Words_L1 k a0 G1
def spec_l22Words_U (k : Nat) (a0 : List (List T)) (R1 : (Int × List (List T)) → Option Outs) : Option Outs :=
 R1 (0, [])
def spec_l22Words_u (k : Nat) (a0 : List (List T)) : Option Outs :=
  spec_l22Words_U k a0 (fun v => fixN (spec_l22Words_l1 k a0) k v)
def spec_l22Words_it1 (k : Nat) (a0 : List (List T)) (js : List Nat) (j : Nat) (s : St) : Option Outs := iter E (LB E (evalF E P0 k) k [] N.spec_l22Words [.sr, .sr, .sl, .sr, .bl]) [] spec_l22Words_k1 (LK E (evalF E P0 k) k [] N.spec_l22Words [.v [.r a0]] [.sr, .sr, .sl, .sr, .bl] js) j s
theorem spec_l22Words_e (k : Nat) (a0 : List (List T)) : evalF E P0 (k + 1) N.spec_l22Words [.v [.r a0]] = spec_l22Words_u k a0 := by
  have e0 : evalF E P0 (k + 1) N.spec_l22Words [.v [.r a0]] = spec_l22Words_U k a0 (fun v => spec_l22Words_it1 k a0 [] k (spec_l22Words_S1 a0 v)) := by kernel_rfl
  have e1 : ∀ (j1 : Nat) (v : Int × List (List T)), spec_l22Words_it1 k a0 [] (j1 + 1) (spec_l22Words_S1 a0 v) = spec_l22Words_L1 k a0 (fun v => spec_l22Words_it1 k a0 [] j1 (spec_l22Words_S1 a0 v)) v := by
    intro j1 v; kernel_rfl
  have i1 : ∀ (j1 : Nat) (v : Int × List (List T)), spec_l22Words_it1 k a0 [] j1 (spec_l22Words_S1 a0 v) = fixN (spec_l22Words_l1 k a0) j1 v := by
    intro j1 v
    refine iter_fix (spec_l22Words_S1 a0) (spec_l22Words_l1 k a0) (fun j1 v => (e1 j1 v).trans ?_) j1 v
    unfold spec_l22Words_l1
    rfl
  rw [e0]; unfold spec_l22Words_u
  simp only [i1]
def spec_ParseWords_u (k : Nat) (a0 : ByteArray) : Option Outs :=
 bif (a0.toList == (ByteArray.mk #[]).toList) then
  some ⟨[.r [], .b true], []⟩
 else
  bindO (evalF E P0 k N.spec_l22Split [.v [.s a0], .v [.i 32]]) fun o3 =>
  bindO (evalF E P0 k N.spec_l22Words [.v [.r (o3.t 0).asR]]) fun o4 =>
  some ⟨[.r (o4.t 0).asR, .b (o4.t 1).asB], []⟩
theorem spec_ParseWords_e (k : Nat) (a0 : ByteArray) : evalF E P0 (k + 1) N.spec_ParseWords [.v [.s a0]] = spec_ParseWords_u k a0 := by kernel_rfl
def impl_ParseWords_L1 (k : Nat) (o2 : Outs) (p12 : Int) (G1 : (Int × List (List T)) → Option Outs) : (Int × List (List T)) → Option Outs := fun (v8, w8) =>
 bif (decide (v8 < p12)) then
  chk (decide (0 ≤ v8) && decide (v8 < ((o2.t 0).asR.length : Int))) <|
  bindO (evalF E P0 k N.impl_parseWord [.v [.s (at_ (o2.t 0).asR v8.toNat 0).asS]]) fun o98 =>
  bif (!(o98.t 1).asB) then
   some ⟨[.r [], .b false], []⟩
  else
   bif ((w8.length : Int) == 40) then
    some ⟨[.r [], .b false], []⟩
   else
    chk (decide ((w8.length + ([[.i (o98.t 0).asI]] : List (List T)).length) * 8 ≤ 140737488355328)) <|
    G1 ((IntKind.wrap .i64 (v8 + 1)), (w8 ++ ([[.i (o98.t 0).asI]] : List (List T))))
 else
  some ⟨[.r w8, .b true], []⟩
def impl_ParseWords_k1 : List Nat := [2, 3, 4, 14, 15, 16, 37]
def impl_ParseWords_S1 (o2 : Outs) (p12 : Int) : (Int × List (List T)) → St := fun (v8, w8) => ⟨ofSl [(2, .ref (2, 0)), (3, .b false), (4, .ref (4, 0)), (14, .ref (14, 0)), (15, .i .i64 p12), (16, .i .i64 v8), (37, .skip)], ofMem [((2, 0), .row 3 true []), ((4, 0), .row 3 true w8), ((14, 0), .row 9 true (o2.t 0).asR)]⟩
def impl_ParseWords_l1 (k : Nat) (o2 : Outs) (p12 : Int) (G1 : (Int × List (List T)) → Option Outs) : (Int × List (List T)) → Option Outs :=
  impl_ParseWords_L1 k o2 p12 G1
def impl_ParseWords_U (k : Nat) (a0 : ByteArray) (R1 : Outs → Int → (Int × List (List T)) → Option Outs) : Option Outs :=
 bif (a0.toList == (ByteArray.mk #[]).toList) then
  some ⟨[.r [], .b true], []⟩
 else
  bindO (evalF E P0 k N.strings_Split [.v [.s a0], .v [.s (ByteArray.mk #[32])]]) fun o2 =>
  R1 o2 ((o2.t 0).asR.length : Int) (0, [])
def impl_ParseWords_u (k : Nat) (a0 : ByteArray) : Option Outs :=
  impl_ParseWords_U k a0 (fun y0 y1 v => fixN (impl_ParseWords_l1 k y0 y1) k v)
def impl_ParseWords_it1 (k : Nat) (a0 : ByteArray) (js : List Nat) (j : Nat) (s : St) : Option Outs := iter E (LB E (evalF E P0 k) k [] N.impl_ParseWords [.sr, .sr, .sr, .sl, .sr, .bl]) [] impl_ParseWords_k1 (LK E (evalF E P0 k) k [] N.impl_ParseWords [.v [.s a0]] [.sr, .sr, .sr, .sl, .sr, .bl] js) j s
theorem impl_ParseWords_e (k : Nat) (a0 : ByteArray) : evalF E P0 (k + 1) N.impl_ParseWords [.v [.s a0]] = impl_ParseWords_u k a0 := by
  have e0 : evalF E P0 (k + 1) N.impl_ParseWords [.v [.s a0]] = impl_ParseWords_U k a0 (fun y0 y1 v => impl_ParseWords_it1 k a0 [] k (impl_ParseWords_S1 y0 y1 v)) := by kernel_rfl
  have e1 : ∀ (o2 : Outs) (p12 : Int) (j1 : Nat) (v : Int × List (List T)), impl_ParseWords_it1 k a0 [] (j1 + 1) (impl_ParseWords_S1 o2 p12 v) = impl_ParseWords_L1 k o2 p12 (fun v => impl_ParseWords_it1 k a0 [] j1 (impl_ParseWords_S1 o2 p12 v)) v := by
    intro o2 p12 j1 v; kernel_rfl
  have i1 : ∀ (o2 : Outs) (p12 : Int) (j1 : Nat) (v : Int × List (List T)), impl_ParseWords_it1 k a0 [] j1 (impl_ParseWords_S1 o2 p12 v) = fixN (impl_ParseWords_l1 k o2 p12) j1 v := by
    intro o2 p12 j1 v
    refine iter_fix (impl_ParseWords_S1 o2 p12) (impl_ParseWords_l1 k o2 p12) (fun j1 v => (e1 o2 p12 j1 v).trans ?_) j1 v
    unfold impl_ParseWords_l1
    rfl
  rw [e0]; unfold impl_ParseWords_u
  simp only [i1]
def laws_markIntS_L1 (k : Nat) (G1 : (Int × Int × List (List T)) → Option Outs) : (Int × Int × List (List T)) → Option Outs := fun (v15, v16, w8) =>
 bif (decide (v16 < (w8.length : Int))) then
  chk (decide (0 ≤ v16) && decide (v16 < (w8.length : Int))) <|
  G1 ((IntKind.wrap .i64 (v15 + 1)), (IntKind.wrap .i64 (v16 + 1)), (put_ w8 v16.toNat 0 [.i v15]))
 else
  some ⟨[.i v15], [[.r w8]]⟩
def laws_markIntS_k1 : List Nat := [0, 1, 4, 5, 18]
def laws_markIntS_S1 : (Int × Int × List (List T)) → St := fun (v15, v16, w8) => ⟨ofSl [(0, .ref (0, 0)), (1, .i .i64 v15), (4, .i .i64 0), (5, .i .i64 v16), (18, .skip)], ofMem [((0, 0), .row 3 true w8)]⟩
def laws_markIntS_l1 (k : Nat) (G1 : (Int × Int × List (List T)) → Option Outs) : (Int × Int × List (List T)) → Option Outs :=
  laws_markIntS_L1 k G1
def laws_markIntS_U (k : Nat) (a0 : List (List T)) (a1 : Int) (R1 : (Int × Int × List (List T)) → Option Outs) : Option Outs :=
 R1 (a1, 0, a0)
def laws_markIntS_u (k : Nat) (a0 : List (List T)) (a1 : Int) : Option Outs :=
  laws_markIntS_U k a0 a1 (fun v => fixN (laws_markIntS_l1 k) k v)
def laws_markIntS_it1 (k : Nat) (a0 : List (List T)) (a1 : Int) (js : List Nat) (j : Nat) (s : St) : Option Outs := iter E (LB E (evalF E P0 k) k [0] N.laws_markIntS [.sr, .sl, .sr, .bl]) [0] laws_markIntS_k1 (LK E (evalF E P0 k) k [0] N.laws_markIntS [.r a0, .v [.i a1]] [.sr, .sl, .sr, .bl] js) j s
theorem laws_markIntS_e (k : Nat) (a0 : List (List T)) (a1 : Int) : evalF E P0 (k + 1) N.laws_markIntS [.r a0, .v [.i a1]] = laws_markIntS_u k a0 a1 := by
  have e0 : evalF E P0 (k + 1) N.laws_markIntS [.r a0, .v [.i a1]] = laws_markIntS_U k a0 a1 (fun v => laws_markIntS_it1 k a0 a1 [] k (laws_markIntS_S1 v)) := by kernel_rfl
  have e1 : ∀ (j1 : Nat) (v : Int × Int × List (List T)), laws_markIntS_it1 k a0 a1 [] (j1 + 1) (laws_markIntS_S1 v) = laws_markIntS_L1 k (fun v => laws_markIntS_it1 k a0 a1 [] j1 (laws_markIntS_S1 v)) v := by
    intro j1 v; kernel_rfl
  have i1 : ∀ (j1 : Nat) (v : Int × Int × List (List T)), laws_markIntS_it1 k a0 a1 [] j1 (laws_markIntS_S1 v) = fixN (laws_markIntS_l1 k) j1 v := by
    intro j1 v
    refine iter_fix (laws_markIntS_S1) (laws_markIntS_l1 k) (fun j1 v => (e1 j1 v).trans ?_) j1 v
    unfold laws_markIntS_l1
    rfl
  rw [e0]; unfold laws_markIntS_u
  simp only [i1]
def laws_heldIntS_L1 (k : Nat) (a0 : List (List T)) (G1 : (Int × Int) → Option Outs) : (Int × Int) → Option Outs := fun (v15, v16) =>
 bif (decide (v16 < (a0.length : Int))) then
  chk (decide (0 ≤ v16) && decide (v16 < (a0.length : Int))) <|
  bif ((at_ a0 v16.toNat 0).asI != v15) then
   some ⟨[.i (-1)], []⟩
  else
   G1 ((IntKind.wrap .i64 (v15 + 1)), (IntKind.wrap .i64 (v16 + 1)))
 else
  some ⟨[.i v15], []⟩
def laws_heldIntS_k1 : List Nat := [0, 1, 4, 5, 20]
def laws_heldIntS_S1 (a0 : List (List T)) : (Int × Int) → St := fun (v15, v16) => ⟨ofSl [(0, .sl 3 a0), (1, .i .i64 v15), (4, .i .i64 0), (5, .i .i64 v16), (20, .skip)], ofMem []⟩
def laws_heldIntS_l1 (k : Nat) (a0 : List (List T)) (G1 : (Int × Int) → Option Outs) : (Int × Int) → Option Outs :=
  laws_heldIntS_L1 k a0 G1
def laws_heldIntS_U (k : Nat) (a0 : List (List T)) (a1 : Int) (R1 : (Int × Int) → Option Outs) : Option Outs :=
 R1 (a1, 0)
def laws_heldIntS_u (k : Nat) (a0 : List (List T)) (a1 : Int) : Option Outs :=
  laws_heldIntS_U k a0 a1 (fun v => fixN (laws_heldIntS_l1 k a0) k v)
def laws_heldIntS_it1 (k : Nat) (a0 : List (List T)) (a1 : Int) (js : List Nat) (j : Nat) (s : St) : Option Outs := iter E (LB E (evalF E P0 k) k [] N.laws_heldIntS [.sr, .sl, .sr, .bl]) [] laws_heldIntS_k1 (LK E (evalF E P0 k) k [] N.laws_heldIntS [.v [.r a0], .v [.i a1]] [.sr, .sl, .sr, .bl] js) j s
theorem laws_heldIntS_e (k : Nat) (a0 : List (List T)) (a1 : Int) : evalF E P0 (k + 1) N.laws_heldIntS [.v [.r a0], .v [.i a1]] = laws_heldIntS_u k a0 a1 := by
  have e0 : evalF E P0 (k + 1) N.laws_heldIntS [.v [.r a0], .v [.i a1]] = laws_heldIntS_U k a0 a1 (fun v => laws_heldIntS_it1 k a0 a1 [] k (laws_heldIntS_S1 a0 v)) := by kernel_rfl
  have e1 : ∀ (j1 : Nat) (v : Int × Int), laws_heldIntS_it1 k a0 a1 [] (j1 + 1) (laws_heldIntS_S1 a0 v) = laws_heldIntS_L1 k a0 (fun v => laws_heldIntS_it1 k a0 a1 [] j1 (laws_heldIntS_S1 a0 v)) v := by
    intro j1 v; kernel_rfl
  have i1 : ∀ (j1 : Nat) (v : Int × Int), laws_heldIntS_it1 k a0 a1 [] j1 (laws_heldIntS_S1 a0 v) = fixN (laws_heldIntS_l1 k a0) j1 v := by
    intro j1 v
    refine iter_fix (laws_heldIntS_S1 a0) (laws_heldIntS_l1 k a0) (fun j1 v => (e1 j1 v).trans ?_) j1 v
    unfold laws_heldIntS_l1
    rfl
  rw [e0]; unfold laws_heldIntS_u
  simp only [i1]
def laws_FnExactParseWords_J1 (k : Nat) (a0 : ByteArray) (o2 : Outs) (o4 : Outs) (c1 : Bool) : Option Outs :=
 bif c1 then
  some ⟨[.b false], []⟩
 else
  bindO (evalF E P0 k N.laws_markIntS [.r ((o4.t 0).asR), .v [.i 1]]) fun o8 =>
  bindO (evalF E P0 k N.laws_heldIntS [.v [.r (o8.vt 0 0).asR], .v [.i 1]]) fun o10 =>
  bif (decide ((o10.t 0).asI < 0)) then
   some ⟨[.b false], []⟩
  else
   bif ((o10.t 0).asI != (o8.t 0).asI) then
    some ⟨[.b false], []⟩
   else
    bindO (evalF E P0 k N.impl_ParseWords [.v [.s a0]]) fun o12 =>
    bindO (evalF E P0 k N.laws_eqIntS [.v [.r (o12.t 0).asR], .v [.r (o2.t 0).asR]]) fun o14 =>
    bif (!(o14.t 0).asB) then
     some ⟨[.b false], []⟩
    else
     bif (!((o12.t 1).asB == (o2.t 1).asB)) then
      some ⟨[.b false], []⟩
     else
      bindO (evalF E P0 k N.laws_heldIntS [.v [.r (o8.vt 0 0).asR], .v [.i 1]]) fun o18 =>
      bif (decide ((o18.t 0).asI < 0)) then
       some ⟨[.b false], []⟩
      else
       bif ((o18.t 0).asI != (o8.t 0).asI) then some ⟨[.b false], []⟩ else some ⟨[.b true], []⟩
def laws_FnExactParseWords_u (k : Nat) (a0 : ByteArray) : Option Outs :=
 bif (decide ((a0.size : Int) > 1048576)) then
  some ⟨[.b true], []⟩
 else
  bindO (evalF E P0 k N.spec_ParseWords [.v [.s a0]]) fun o2 =>
  bindO (evalF E P0 k N.impl_ParseWords [.v [.s a0]]) fun o4 =>
  bindO (evalF E P0 k N.laws_eqIntS [.v [.r (o4.t 0).asR], .v [.r (o2.t 0).asR]]) fun o6 =>
  bif (!(o6.t 0).asB) then
   laws_FnExactParseWords_J1 k a0 o2 o4 true
  else
   laws_FnExactParseWords_J1 k a0 o2 o4 (!((o4.t 1).asB == (o2.t 1).asB))
theorem laws_FnExactParseWords_e (k : Nat) (a0 : ByteArray) : evalF E P0 (k + 1) N.laws_FnExactParseWords [.v [.s a0]] = laws_FnExactParseWords_u k a0 := by kernel_rfl
end
end Go.Proofs.YtbmkpnabhodggaaDoor.Ev
