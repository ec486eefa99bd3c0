/- What functions answer under the evaluator, as Lean terms, part 1. No condition. -/
import Derived.Test.YtjmmcnbhnaeieaaTab
namespace Go.Proofs.Ytjmmcnbhnaeieaa.Ev
open Go Go.Proofs
set_option linter.unusedVariables false
set_option maxRecDepth 100000
set_option maxHeartbeats 4000000
noncomputable section
/- slices.Index[[]int,int] -/
def slices_Index_int_int_L1 (k : Nat) (a0 : List (List T)) (a1 : Int) (G1 : (Int) → Option Outs) : (Int) → Option Outs := fun v8 =>
 bif (decide (v8 < (a0.length : Int))) then
  chk (decide (0 ≤ v8) && decide (v8 < (a0.length : Int))) <|
  bif (a1 == (at_ a0 v8.toNat 0).asI) then some ⟨[.i v8], []⟩ else G1 (IntKind.wrap .i64 (v8 + 1))
 else
  some ⟨[.i (-1)], []⟩
def slices_Index_int_int_k1 : List Nat := [0, 1, 4, 7, 8]
def slices_Index_int_int_S1 (a0 : List (List T)) (a1 : Int) : (Int) → St := fun v8 => ⟨ofSl [(0, .sl 3 a0), (1, .i .i64 a1), (4, .i .i64 0), (7, .i .i64 (a0.length : Int)), (8, .i .i64 v8)], ofMem []⟩
def slices_Index_int_int_l1 (k : Nat) (a0 : List (List T)) (a1 : Int) (G1 : (Int) → Option Outs) : (Int) → Option Outs :=
  slices_Index_int_int_L1 k a0 a1 G1
def slices_Index_int_int_U (k : Nat) (a0 : List (List T)) (a1 : Int) (R1 : (Int) → Option Outs) : Option Outs :=
 R1 0
def slices_Index_int_int_u (k : Nat) (a0 : List (List T)) (a1 : Int) : Option Outs :=
  slices_Index_int_int_U k a0 a1 (fun v => fixN (slices_Index_int_int_l1 k a0 a1) k v)
def slices_Index_int_int_it1 (k : Nat) (a0 : List (List T)) (a1 : Int) (js : List Nat) (j : Nat) (s : St) : Option Outs := iter (LB E (evalF E P0 k) k [] N.slices_Index_int_int [.sr, .sl, .sr, .bl]) [] slices_Index_int_int_k1 (LK E (evalF E P0 k) k [] N.slices_Index_int_int [.v [.r a0], .v [.i a1]] [.sr, .sl, .sr, .bl] js) j s
theorem slices_Index_int_int_e (k : Nat) (a0 : List (List T)) (a1 : Int) : evalF E P0 (k + 1) N.slices_Index_int_int [.v [.r a0], .v [.i a1]] = slices_Index_int_int_u k a0 a1 := by
  have e0 : evalF E P0 (k + 1) N.slices_Index_int_int [.v [.r a0], .v [.i a1]] = slices_Index_int_int_U k a0 a1 (fun v => slices_Index_int_int_it1 k a0 a1 [] k (slices_Index_int_int_S1 a0 a1 v)) := by kernel_rfl
  have e1 : ∀ (j1 : Nat) (v : Int), slices_Index_int_int_it1 k a0 a1 [] (j1 + 1) (slices_Index_int_int_S1 a0 a1 v) = slices_Index_int_int_L1 k a0 a1 (fun v => slices_Index_int_int_it1 k a0 a1 [] j1 (slices_Index_int_int_S1 a0 a1 v)) v := by
    intro j1 v; kernel_rfl
  have i1 : ∀ (j1 : Nat) (v : Int), slices_Index_int_int_it1 k a0 a1 [] j1 (slices_Index_int_int_S1 a0 a1 v) = fixN (slices_Index_int_int_l1 k a0 a1) j1 v := by
    intro j1 v
    refine iter_fix (slices_Index_int_int_S1 a0 a1) (slices_Index_int_int_l1 k a0 a1) (fun j1 v => (e1 j1 v).trans ?_) j1 v
    unfold slices_Index_int_int_l1
    rfl
  rw [e0]; unfold slices_Index_int_int_u
  simp only [i1]
/- slices.Contains[[]int,int] -/
def slices_Contains_int_int_u (k : Nat) (a0 : List (List T)) (a1 : Int) : Option Outs :=
 bindO (evalF E P0 k N.slices_Index_int_int [.v [.r a0], .v [.i a1]]) fun o2 =>
 some ⟨[.b (decide ((o2.t 0).asI ≥ 0))], []⟩
theorem slices_Contains_int_int_e (k : Nat) (a0 : List (List T)) (a1 : Int) : evalF E P0 (k + 1) N.slices_Contains_int_int [.v [.r a0], .v [.i a1]] = slices_Contains_int_int_u k a0 a1 := by kernel_rfl
/- impl.ReadSec -/
def impl_ReadSec_L1 (k : Nat) (a0_1 : List (List T)) (a1 : Int) (G1 : (List (List T) × Int) → Option Outs) : (List (List T) × Int) → Option Outs := fun (w8, v8) =>
 bif (decide (v8 < (a0_1.length : Int))) then
  chk (decide (0 ≤ v8) && decide (v8 < (a0_1.length : Int))) <|
  bif ((at_ a0_1 v8.toNat 0).asI == a1) then
   G1 ((at_ a0_1 v8.toNat 1).asR, (IntKind.wrap .i64 (v8 + 1)))
  else
   G1 (w8, (IntKind.wrap .i64 (v8 + 1)))
 else
  bindO (evalF E P0 k N.impl_copyInts [.v [.r w8]]) fun o6 =>
  some ⟨[.r (o6.t 0).asR, .b true], []⟩
def impl_ReadSec_k1 : List Nat := [1, 4, 5, 6, 34, 35, 36, 47, 48]
def impl_ReadSec_S1 (a0_1 : List (List T)) (a1 : Int) : (List (List T) × Int) → St := fun (w8, v8) => ⟨ofSl [(1, .i .i64 a1), (4, .ref (4, 0)), (5, .b false), (6, .sl 3 w8), (34, .sl 147 a0_1), (35, .i .i64 (a0_1.length : Int)), (36, .i .i64 v8), (47, .skip), (48, .skip)], ofMem [((4, 0), .row 3 true [])]⟩
def impl_ReadSec_J1 (k : Nat) (a0_0 : List (List T)) (a1 : Int) (R1 : (List (List T) × Int) → Option Outs) (c1 : Bool) : Option Outs :=
 bif c1 then
  some ⟨[.r [], .b false], []⟩
 else
  chk (decide (0 ≤ a1) && decide (a1 < (a0_0.length : Int))) <|
  R1 ((at_ a0_0 a1.toNat 0).asR, 0)
def impl_ReadSec_l1 (k : Nat) (a0_1 : List (List T)) (a1 : Int) (G1 : (List (List T) × Int) → Option Outs) : (List (List T) × Int) → Option Outs :=
  impl_ReadSec_L1 k a0_1 a1 G1
def impl_ReadSec_U (k : Nat) (a0_0 : List (List T)) (a0_1 : List (List T)) (a0_2 : Bool) (a0_3 : List (List T)) (a1 : Int) (R1 : (List (List T) × Int) → Option Outs) : Option Outs :=
 bindO (evalF E P0 k N.impl_MemOk [.v [.r a0_0, .r a0_1, .b a0_2, .r a0_3]]) fun o4 =>
 bif (!(o4.t 0).asB) then
  impl_ReadSec_J1 k a0_0 a1 R1 true
 else
  bif a0_2 then
   impl_ReadSec_J1 k a0_0 a1 R1 true
  else
   bindO (evalF E P0 k N.impl_hasSec [.v [.r a0_0, .r a0_1, .b a0_2, .r a0_3], .v [.i a1]]) fun o7 =>
   bif (!(o7.t 0).asB) then
    impl_ReadSec_J1 k a0_0 a1 R1 true
   else
    bindO (evalF E P0 k N.slices_Contains_int_int [.v [.r a0_3], .v [.i a1]]) fun o8 =>
    impl_ReadSec_J1 k a0_0 a1 R1 ((o8.t 0).asB)
def impl_ReadSec_u (k : Nat) (a0_0 : List (List T)) (a0_1 : List (List T)) (a0_2 : Bool) (a0_3 : List (List T)) (a1 : Int) : Option Outs :=
  impl_ReadSec_U k a0_0 a0_1 a0_2 a0_3 a1 (fun v => fixN (impl_ReadSec_l1 k a0_1 a1) k v)
def impl_ReadSec_it1 (k : Nat) (a0_0 : List (List T)) (a0_1 : List (List T)) (a0_2 : Bool) (a0_3 : List (List T)) (a1 : Int) (js : List Nat) (j : Nat) (s : St) : Option Outs := iter (LB E (evalF E P0 k) k [] N.impl_ReadSec [.sr, .sr, .sr, .sl, .sr, .bl]) [] impl_ReadSec_k1 (LK E (evalF E P0 k) k [] N.impl_ReadSec [.v [.r a0_0, .r a0_1, .b a0_2, .r a0_3], .v [.i a1]] [.sr, .sr, .sr, .sl, .sr, .bl] js) j s
theorem impl_ReadSec_e (k : Nat) (a0_0 : List (List T)) (a0_1 : List (List T)) (a0_2 : Bool) (a0_3 : List (List T)) (a1 : Int) : evalF E P0 (k + 1) N.impl_ReadSec [.v [.r a0_0, .r a0_1, .b a0_2, .r a0_3], .v [.i a1]] = impl_ReadSec_u k a0_0 a0_1 a0_2 a0_3 a1 := by
  have e0 : evalF E P0 (k + 1) N.impl_ReadSec [.v [.r a0_0, .r a0_1, .b a0_2, .r a0_3], .v [.i a1]] = impl_ReadSec_U k a0_0 a0_1 a0_2 a0_3 a1 (fun v => impl_ReadSec_it1 k a0_0 a0_1 a0_2 a0_3 a1 [] k (impl_ReadSec_S1 a0_1 a1 v)) := by kernel_rfl
  have e1 : ∀ (j1 : Nat) (v : List (List T) × Int), impl_ReadSec_it1 k a0_0 a0_1 a0_2 a0_3 a1 [] (j1 + 1) (impl_ReadSec_S1 a0_1 a1 v) = impl_ReadSec_L1 k a0_1 a1 (fun v => impl_ReadSec_it1 k a0_0 a0_1 a0_2 a0_3 a1 [] j1 (impl_ReadSec_S1 a0_1 a1 v)) v := by
    intro j1 v; kernel_rfl
  have i1 : ∀ (j1 : Nat) (v : List (List T) × Int), impl_ReadSec_it1 k a0_0 a0_1 a0_2 a0_3 a1 [] j1 (impl_ReadSec_S1 a0_1 a1 v) = fixN (impl_ReadSec_l1 k a0_1 a1) j1 v := by
    intro j1 v
    refine iter_fix (impl_ReadSec_S1 a0_1 a1) (impl_ReadSec_l1 k a0_1 a1) (fun j1 v => (e1 j1 v).trans ?_) j1 v
    unfold impl_ReadSec_l1
    rfl
  rw [e0]; unfold impl_ReadSec_u
  simp only [i1]
/- impl.LiveAt -/
def impl_LiveAt_u (k : Nat) (a0_0 : Int) (a0_1 : Int) (a0_2 : Int) (a0_3 : List (List T)) (a0_4 : Int) (a0_5 : Int) (a0_6 : Int) (a0_7 : Int) (a0_8 : Int) (a0_9 : List (List T)) (a0_10 : Int) (a0_11 : Bool) (a0_12 : Bool) (a1 : Int) (a2 : Int) : Option Outs :=
 bindO (evalF E P0 k N.impl_within [.v [.i a1], .v [.i 0], .v [.i (IntKind.wrap .i64 ((a0_3.length : Int) - 1))]]) fun o2 =>
 bif (o2.t 0).asB then
  chk (decide (0 ≤ a1) && decide (a1 < (a0_3.length : Int))) <|
  bif (!(at_ a0_3 a1.toNat 2).asB) then
   bif (a0_4 != a1) then some ⟨[.b true], []⟩ else some ⟨[.b (decide (a2 < a0_5))], []⟩
  else
   some ⟨[.b false], []⟩
 else
  some ⟨[.b false], []⟩
theorem impl_LiveAt_e (k : Nat) (a0_0 : Int) (a0_1 : Int) (a0_2 : Int) (a0_3 : List (List T)) (a0_4 : Int) (a0_5 : Int) (a0_6 : Int) (a0_7 : Int) (a0_8 : Int) (a0_9 : List (List T)) (a0_10 : Int) (a0_11 : Bool) (a0_12 : Bool) (a1 : Int) (a2 : Int) : evalF E P0 (k + 1) N.impl_LiveAt [.v [.i a0_0, .i a0_1, .i a0_2, .r a0_3, .i a0_4, .i a0_5, .i a0_6, .i a0_7, .i a0_8, .r a0_9, .i a0_10, .b a0_11, .b a0_12], .v [.i a1], .v [.i a2]] = impl_LiveAt_u k a0_0 a0_1 a0_2 a0_3 a0_4 a0_5 a0_6 a0_7 a0_8 a0_9 a0_10 a0_11 a0_12 a1 a2 := by kernel_rfl
/- impl.wordAt -/
def impl_wordAt_J1 (k : Nat) (o4 : Outs) (c1 : Bool) : Option Outs :=
 bif c1 then
  some ⟨[.i 0, .b false], []⟩
 else
  chk (decide ((0 : Int) < ((o4.t 0).asR.length : Int))) <|
  some ⟨[.i (at_ (o4.t 0).asR 0 0).asI, .b true], []⟩
def impl_wordAt_u (k : Nat) (a0_0 : Int) (a0_1 : Int) (a0_2 : Int) (a0_3 : List (List T)) (a0_4 : Int) (a0_5 : Int) (a0_6 : Int) (a0_7 : Int) (a0_8 : Int) (a0_9 : List (List T)) (a0_10 : Int) (a0_11 : Bool) (a0_12 : Bool) (a1 : Int) (a2 : Int) : Option Outs :=
 chk (decide (0 ≤ a1) && decide (a1 < (a0_3.length : Int))) <|
 bindO (evalF E P0 k N.impl_DataAt [.v [.i a2]]) fun o3 =>
 bindO (evalF E P0 k N.impl_ReadSec [.v [.r (at_ a0_3 a1.toNat 0).asR, .r (at_ a0_3 a1.toNat 1).asR, .b (at_ a0_3 a1.toNat 2).asB, .r (at_ a0_3 a1.toNat 3).asR], .v [.i (o3.t 0).asI]]) fun o4 =>
 bindO (evalF E P0 k N.impl_LiveAt [.v [.i a0_0, .i a0_1, .i a0_2, .r a0_3, .i a0_4, .i a0_5, .i a0_6, .i a0_7, .i a0_8, .r a0_9, .i a0_10, .b a0_11, .b a0_12], .v [.i a1], .v [.i a2]]) fun o6 =>
 bif (!(o6.t 0).asB) then
  impl_wordAt_J1 k o4 true
 else
  bif (!(o4.t 1).asB) then impl_wordAt_J1 k o4 true else impl_wordAt_J1 k o4 (((o4.t 0).asR.length : Int) != 1)
theorem impl_wordAt_e (k : Nat) (a0_0 : Int) (a0_1 : Int) (a0_2 : Int) (a0_3 : List (List T)) (a0_4 : Int) (a0_5 : Int) (a0_6 : Int) (a0_7 : Int) (a0_8 : Int) (a0_9 : List (List T)) (a0_10 : Int) (a0_11 : Bool) (a0_12 : Bool) (a1 : Int) (a2 : Int) : evalF E P0 (k + 1) N.impl_wordAt [.v [.i a0_0, .i a0_1, .i a0_2, .r a0_3, .i a0_4, .i a0_5, .i a0_6, .i a0_7, .i a0_8, .r a0_9, .i a0_10, .b a0_11, .b a0_12], .v [.i a1], .v [.i a2]] = impl_wordAt_u k a0_0 a0_1 a0_2 a0_3 a0_4 a0_5 a0_6 a0_7 a0_8 a0_9 a0_10 a0_11 a0_12 a1 a2 := by kernel_rfl
/- impl.XorOf -/
def impl_XorOf_L1 (k : Nat) (a0 : List (List T)) (G1 : (Int × Int) → Option Outs) : (Int × Int) → Option Outs := fun (v15, v16) =>
 bif (decide (v16 < (a0.length : Int))) then
  chk (decide (0 ≤ v16) && decide (v16 < (a0.length : Int))) <|
  G1 ((bitsXor .i64 v15 (at_ a0 v16.toNat 0).asI), (IntKind.wrap .i64 (v16 + 1)))
 else
  some ⟨[.i v15], []⟩
def impl_XorOf_k1 : List Nat := [2, 3, 6, 7, 8, 16]
def impl_XorOf_S1 (a0 : List (List T)) : (Int × Int) → St := fun (v15, v16) => ⟨ofSl [(2, .i .i64 0), (3, .i .i64 v15), (6, .sl 3 a0), (7, .i .i64 (a0.length : Int)), (8, .i .i64 v16), (16, .skip)], ofMem []⟩
def impl_XorOf_l1 (k : Nat) (a0 : List (List T)) (G1 : (Int × Int) → Option Outs) : (Int × Int) → Option Outs :=
  impl_XorOf_L1 k a0 G1
def impl_XorOf_U (k : Nat) (a0 : List (List T)) (R1 : (Int × Int) → Option Outs) : Option Outs :=
 R1 (0, 0)
def impl_XorOf_u (k : Nat) (a0 : List (List T)) : Option Outs :=
  impl_XorOf_U k a0 (fun v => fixN (impl_XorOf_l1 k a0) k v)
def impl_XorOf_it1 (k : Nat) (a0 : List (List T)) (js : List Nat) (j : Nat) (s : St) : Option Outs := iter (LB E (evalF E P0 k) k [] N.impl_XorOf [.sr, .sr, .sl, .sr, .bl]) [] impl_XorOf_k1 (LK E (evalF E P0 k) k [] N.impl_XorOf [.v [.r a0]] [.sr, .sr, .sl, .sr, .bl] js) j s
theorem impl_XorOf_e (k : Nat) (a0 : List (List T)) : evalF E P0 (k + 1) N.impl_XorOf [.v [.r a0]] = impl_XorOf_u k a0 := by
  have e0 : evalF E P0 (k + 1) N.impl_XorOf [.v [.r a0]] = impl_XorOf_U k a0 (fun v => impl_XorOf_it1 k a0 [] k (impl_XorOf_S1 a0 v)) := by kernel_rfl
  have e1 : ∀ (j1 : Nat) (v : Int × Int), impl_XorOf_it1 k a0 [] (j1 + 1) (impl_XorOf_S1 a0 v) = impl_XorOf_L1 k a0 (fun v => impl_XorOf_it1 k a0 [] j1 (impl_XorOf_S1 a0 v)) v := by
    intro j1 v; kernel_rfl
  have i1 : ∀ (j1 : Nat) (v : Int × Int), impl_XorOf_it1 k a0 [] j1 (impl_XorOf_S1 a0 v) = fixN (impl_XorOf_l1 k a0) j1 v := by
    intro j1 v
    refine iter_fix (impl_XorOf_S1 a0) (impl_XorOf_l1 k a0) (fun j1 v => (e1 j1 v).trans ?_) j1 v
    unfold impl_XorOf_l1
    rfl
  rw [e0]; unfold impl_XorOf_u
  simp only [i1]
/- impl.MissingWord -/
def impl_MissingWord_u (k : Nat) (a0 : List (List T)) (a1 : Int) : Option Outs :=
 bindO (evalF E P0 k N.impl_XorOf [.v [.r a0]]) fun o2 =>
 bindO (evalF E P0 k N.impl_within [.v [.i a1], .v [.i 0], .v [.i (IntKind.wrap .i64 ((a0.length : Int) - 1))]]) fun o4 =>
 bif (o4.t 0).asB then
  chk (decide (0 ≤ a1) && decide (a1 < (a0.length : Int))) <|
  some ⟨[.i (bitsXor .i64 (o2.t 0).asI (at_ a0 a1.toNat 0).asI)], []⟩
 else
  some ⟨[.i (o2.t 0).asI], []⟩
theorem impl_MissingWord_e (k : Nat) (a0 : List (List T)) (a1 : Int) : evalF E P0 (k + 1) N.impl_MissingWord [.v [.r a0], .v [.i a1]] = impl_MissingWord_u k a0 a1 := by kernel_rfl
/- impl.Words -/
def impl_Words_J2 (k : Nat) (o99 : Outs) (v15 : Int) (v16 : Int) (w8 : List (List T)) (G1 : (Int × Int × List (List T)) → Option Outs) (c33 : Bool) : Option Outs :=
 bif c33 then
  some ⟨[.r [], .b false], []⟩
 else
  bif (!(o99.t 1).asB) then
   chk (decide ((w8.length + ([[.i (o99.t 0).asI]] : List (List T)).length) * 8 ≤ 140737488355328)) <|
   G1 (v16, (IntKind.wrap .i64 (v16 + 1)), (w8 ++ [[.i (o99.t 0).asI]]))
  else
   chk (decide ((w8.length + ([[.i (o99.t 0).asI]] : List (List T)).length) * 8 ≤ 140737488355328)) <|
   G1 (v15, (IntKind.wrap .i64 (v16 + 1)), (w8 ++ [[.i (o99.t 0).asI]]))
def impl_Words_L1 (k : Nat) (a0_0 : Int) (a0_1 : Int) (a0_2 : Int) (a0_3 : List (List T)) (a0_4 : Int) (a0_5 : Int) (a0_6 : Int) (a0_7 : Int) (a0_8 : Int) (a0_9 : List (List T)) (a0_10 : Int) (a0_11 : Bool) (a0_12 : Bool) (a1 : Int) (G1 : (Int × Int × List (List T)) → Option Outs) : (Int × Int × List (List T)) → Option Outs := fun (v15, v16, w8) =>
 bif (decide (v16 < (a0_3.length : Int))) then
  bindO (evalF E P0 k N.impl_wordAt [.v [.i a0_0, .i a0_1, .i a0_2, .r a0_3, .i a0_4, .i a0_5, .i a0_6, .i a0_7, .i a0_8, .r a0_9, .i a0_10, .b a0_11, .b a0_12], .v [.i v16], .v [.i a1]]) fun o99 =>
  bif (!(o99.t 1).asB) then
   impl_Words_J2 k o99 v15 v16 w8 G1 (decide (v15 ≥ 0))
  else
   impl_Words_J2 k o99 v15 v16 w8 G1 false
 else
  bif (decide (v15 ≥ 0)) then
   bindO (evalF E P0 k N.impl_MissingWord [.v [.r w8], .v [.i v15]]) fun o101 =>
   chk (decide (0 ≤ v15) && decide (v15 < (w8.length : Int))) <|
   some ⟨[.r (put_ w8 v15.toNat 0 [.i (o101.t 0).asI]), .b true], []⟩
  else
   some ⟨[.r w8, .b true], []⟩
def impl_Words_k1 : List Nat := [1, 2, 4, 5, 6, 7, 28, 29, 53, 54, 55, 56, 57, 58, 59, 60, 61]
def impl_Words_S1 (a0_0 : Int) (a0_1 : Int) (a0_2 : Int) (a0_3 : List (List T)) (a0_4 : Int) (a0_5 : Int) (a0_6 : Int) (a0_7 : Int) (a0_8 : Int) (a0_9 : List (List T)) (a0_10 : Int) (a0_11 : Bool) (a0_12 : Bool) (a1 : Int) : (Int × Int × List (List T)) → St := fun (v15, v16, w8) => ⟨ofSl [(1, .i .i64 a1), (2, .ptr (2, 0) 0), (4, .ref (4, 0)), (5, .b false), (6, .ref (6, 0)), (7, .i .i64 v15), (28, .i .i64 (a0_3.length : Int)), (29, .i .i64 v16), (53, .skip), (54, .skip), (55, .skip), (56, .skip), (57, .skip), (58, .skip), (59, .skip), (60, .skip), (61, .skip)], ofMem [((2, 0), .var [.i .i64 a0_0, .i .i64 a0_1, .i .i64 a0_2, .sl 120 a0_3, .i .i64 a0_4, .i .i64 a0_5, .i .i64 a0_6, .i .i64 a0_7, .i .i64 a0_8, .sl 140 a0_9, .i .i64 a0_10, .b a0_11, .b a0_12]), ((4, 0), .row 3 true []), ((6, 0), .row 3 true w8)]⟩
def impl_Words_J1 (k : Nat) (R1 : (Int × Int × List (List T)) → Option Outs) (c1 : Bool) : Option Outs :=
 bif c1 then some ⟨[.r [], .b false], []⟩ else R1 ((-1), 0, [])
def impl_Words_l1 (k : Nat) (a0_0 : Int) (a0_1 : Int) (a0_2 : Int) (a0_3 : List (List T)) (a0_4 : Int) (a0_5 : Int) (a0_6 : Int) (a0_7 : Int) (a0_8 : Int) (a0_9 : List (List T)) (a0_10 : Int) (a0_11 : Bool) (a0_12 : Bool) (a1 : Int) (G1 : (Int × Int × List (List T)) → Option Outs) : (Int × Int × List (List T)) → Option Outs :=
  impl_Words_L1 k a0_0 a0_1 a0_2 a0_3 a0_4 a0_5 a0_6 a0_7 a0_8 a0_9 a0_10 a0_11 a0_12 a1 G1
def impl_Words_U (k : Nat) (a0_0 : Int) (a0_1 : Int) (a0_2 : Int) (a0_3 : List (List T)) (a0_4 : Int) (a0_5 : Int) (a0_6 : Int) (a0_7 : Int) (a0_8 : Int) (a0_9 : List (List T)) (a0_10 : Int) (a0_11 : Bool) (a0_12 : Bool) (a1 : Int) (R1 : (Int × Int × List (List T)) → Option Outs) : Option Outs :=
 bindO (evalF E P0 k N.impl_ArrOk [.v [.i a0_0, .i a0_1, .i a0_2, .r a0_3, .i a0_4, .i a0_5, .i a0_6, .i a0_7, .i a0_8, .r a0_9, .i a0_10, .b a0_11, .b a0_12]]) fun o3 =>
 bif (!(o3.t 0).asB) then
  impl_Words_J1 k R1 true
 else
  bif a0_12 then
   impl_Words_J1 k R1 true
  else
   bindO (evalF E P0 k N.impl_hasStripe [.v [.i a0_1, .i a0_2], .v [.i a1]]) fun o102 =>
   impl_Words_J1 k R1 (!(o102.t 0).asB)
def impl_Words_u (k : Nat) (a0_0 : Int) (a0_1 : Int) (a0_2 : Int) (a0_3 : List (List T)) (a0_4 : Int) (a0_5 : Int) (a0_6 : Int) (a0_7 : Int) (a0_8 : Int) (a0_9 : List (List T)) (a0_10 : Int) (a0_11 : Bool) (a0_12 : Bool) (a1 : Int) : Option Outs :=
  impl_Words_U k a0_0 a0_1 a0_2 a0_3 a0_4 a0_5 a0_6 a0_7 a0_8 a0_9 a0_10 a0_11 a0_12 a1 (fun v => fixN (impl_Words_l1 k a0_0 a0_1 a0_2 a0_3 a0_4 a0_5 a0_6 a0_7 a0_8 a0_9 a0_10 a0_11 a0_12 a1) k v)
def impl_Words_it1 (k : Nat) (a0_0 : Int) (a0_1 : Int) (a0_2 : Int) (a0_3 : List (List T)) (a0_4 : Int) (a0_5 : Int) (a0_6 : Int) (a0_7 : Int) (a0_8 : Int) (a0_9 : List (List T)) (a0_10 : Int) (a0_11 : Bool) (a0_12 : Bool) (a1 : Int) (js : List Nat) (j : Nat) (s : St) : Option Outs := iter (LB E (evalF E P0 k) k [] N.impl_Words [.sr, .sr, .sr, .sr, .sl, .sr, .bl]) [] impl_Words_k1 (LK E (evalF E P0 k) k [] N.impl_Words [.v [.i a0_0, .i a0_1, .i a0_2, .r a0_3, .i a0_4, .i a0_5, .i a0_6, .i a0_7, .i a0_8, .r a0_9, .i a0_10, .b a0_11, .b a0_12], .v [.i a1]] [.sr, .sr, .sr, .sr, .sl, .sr, .bl] js) j s
theorem impl_Words_e (k : Nat) (a0_0 : Int) (a0_1 : Int) (a0_2 : Int) (a0_3 : List (List T)) (a0_4 : Int) (a0_5 : Int) (a0_6 : Int) (a0_7 : Int) (a0_8 : Int) (a0_9 : List (List T)) (a0_10 : Int) (a0_11 : Bool) (a0_12 : Bool) (a1 : Int) : evalF E P0 (k + 1) N.impl_Words [.v [.i a0_0, .i a0_1, .i a0_2, .r a0_3, .i a0_4, .i a0_5, .i a0_6, .i a0_7, .i a0_8, .r a0_9, .i a0_10, .b a0_11, .b a0_12], .v [.i a1]] = impl_Words_u k a0_0 a0_1 a0_2 a0_3 a0_4 a0_5 a0_6 a0_7 a0_8 a0_9 a0_10 a0_11 a0_12 a1 := by
  have e0 : evalF E P0 (k + 1) N.impl_Words [.v [.i a0_0, .i a0_1, .i a0_2, .r a0_3, .i a0_4, .i a0_5, .i a0_6, .i a0_7, .i a0_8, .r a0_9, .i a0_10, .b a0_11, .b a0_12], .v [.i a1]] = impl_Words_U k a0_0 a0_1 a0_2 a0_3 a0_4 a0_5 a0_6 a0_7 a0_8 a0_9 a0_10 a0_11 a0_12 a1 (fun v => impl_Words_it1 k a0_0 a0_1 a0_2 a0_3 a0_4 a0_5 a0_6 a0_7 a0_8 a0_9 a0_10 a0_11 a0_12 a1 [] k (impl_Words_S1 a0_0 a0_1 a0_2 a0_3 a0_4 a0_5 a0_6 a0_7 a0_8 a0_9 a0_10 a0_11 a0_12 a1 v)) := by kernel_rfl
  have e1 : ∀ (j1 : Nat) (v : Int × Int × List (List T)), impl_Words_it1 k a0_0 a0_1 a0_2 a0_3 a0_4 a0_5 a0_6 a0_7 a0_8 a0_9 a0_10 a0_11 a0_12 a1 [] (j1 + 1) (impl_Words_S1 a0_0 a0_1 a0_2 a0_3 a0_4 a0_5 a0_6 a0_7 a0_8 a0_9 a0_10 a0_11 a0_12 a1 v) = impl_Words_L1 k a0_0 a0_1 a0_2 a0_3 a0_4 a0_5 a0_6 a0_7 a0_8 a0_9 a0_10 a0_11 a0_12 a1 (fun v => impl_Words_it1 k a0_0 a0_1 a0_2 a0_3 a0_4 a0_5 a0_6 a0_7 a0_8 a0_9 a0_10 a0_11 a0_12 a1 [] j1 (impl_Words_S1 a0_0 a0_1 a0_2 a0_3 a0_4 a0_5 a0_6 a0_7 a0_8 a0_9 a0_10 a0_11 a0_12 a1 v)) v := by
    intro j1 v; kernel_rfl
  have i1 : ∀ (j1 : Nat) (v : Int × Int × List (List T)), impl_Words_it1 k a0_0 a0_1 a0_2 a0_3 a0_4 a0_5 a0_6 a0_7 a0_8 a0_9 a0_10 a0_11 a0_12 a1 [] j1 (impl_Words_S1 a0_0 a0_1 a0_2 a0_3 a0_4 a0_5 a0_6 a0_7 a0_8 a0_9 a0_10 a0_11 a0_12 a1 v) = fixN (impl_Words_l1 k a0_0 a0_1 a0_2 a0_3 a0_4 a0_5 a0_6 a0_7 a0_8 a0_9 a0_10 a0_11 a0_12 a1) j1 v := by
    intro j1 v
    refine iter_fix (impl_Words_S1 a0_0 a0_1 a0_2 a0_3 a0_4 a0_5 a0_6 a0_7 a0_8 a0_9 a0_10 a0_11 a0_12 a1) (impl_Words_l1 k a0_0 a0_1 a0_2 a0_3 a0_4 a0_5 a0_6 a0_7 a0_8 a0_9 a0_10 a0_11 a0_12 a1) (fun j1 v => (e1 j1 v).trans ?_) j1 v
    unfold impl_Words_l1
    rfl
  rw [e0]; unfold impl_Words_u
  simp only [i1]
/- impl.ParityOf -/
def impl_ParityOf_u (k : Nat) (a0_0 : Int) (a0_1 : Int) (a1 : Int) : Option Outs :=
 bindO (evalF E P0 k N.impl_hasStripe [.v [.i a0_0, .i a0_1], .v [.i a1]]) fun o2 =>
 bif (!(o2.t 0).asB) then
  some ⟨[.i (-1)], []⟩
 else
  chk (!decide (a0_0 = 0)) <|
  some ⟨[.i (IntKind.wrap .i64 ((IntKind.wrap .i64 (a0_0 - 1)) - (Int.tmod a1 a0_0)))], []⟩
theorem impl_ParityOf_e (k : Nat) (a0_0 : Int) (a0_1 : Int) (a1 : Int) : evalF E P0 (k + 1) N.impl_ParityOf [.v [.i a0_0, .i a0_1], .v [.i a1]] = impl_ParityOf_u k a0_0 a0_1 a1 := by kernel_rfl
/- impl.DiskOf -/
def impl_DiskOf_u (k : Nat) (a0_0 : Int) (a0_1 : Int) (a1 : Int) (a2 : Int) : Option Outs :=
 bindO (evalF E P0 k N.impl_hasStripe [.v [.i a0_0, .i a0_1], .v [.i a1]]) fun o3 =>
 bif (!(o3.t 0).asB) then
  some ⟨[.i (-1)], []⟩
 else
  bindO (evalF E P0 k N.impl_within [.v [.i a2], .v [.i 0], .v [.i (IntKind.wrap .i64 (a0_0 - 2))]]) fun o6 =>
  bif (!(o6.t 0).asB) then
   some ⟨[.i (-1)], []⟩
  else
   bindO (evalF E P0 k N.impl_ParityOf [.v [.i a0_0, .i a0_1], .v [.i a1]]) fun o8 =>
   chk (!decide (a0_0 = 0)) <|
   some ⟨[.i (Int.tmod (IntKind.wrap .i64 ((IntKind.wrap .i64 ((o8.t 0).asI + 1)) + a2)) a0_0)], []⟩
theorem impl_DiskOf_e (k : Nat) (a0_0 : Int) (a0_1 : Int) (a1 : Int) (a2 : Int) : evalF E P0 (k + 1) N.impl_DiskOf [.v [.i a0_0, .i a0_1], .v [.i a1], .v [.i a2]] = impl_DiskOf_u k a0_0 a0_1 a1 a2 := by kernel_rfl
/- impl.DataOf -/
def impl_DataOf_L1 (k : Nat) (a0_0 : Int) (a0_1 : Int) (a0_2 : Int) (a0_3 : List (List T)) (a0_4 : Int) (a0_5 : Int) (a0_6 : Int) (a0_7 : Int) (a0_8 : Int) (a0_9 : List (List T)) (a0_10 : Int) (a0_11 : Bool) (a0_12 : Bool) (a1 : Int) (o2 : Outs) (p12 : Int) (G1 : (Int × List (List T)) → Option Outs) : (Int × List (List T)) → Option Outs := fun (v8, w8) =>
 bif (decide (v8 < p12)) then
  bindO (evalF E P0 k N.impl_DiskOf [.v [.i a0_1, .i a0_2], .v [.i a1], .v [.i v8]]) fun o50 =>
  chk (decide (0 ≤ (o50.t 0).asI) && decide ((o50.t 0).asI < ((o2.t 0).asR.length : Int))) <|
  chk (decide ((w8.length + ([[.i (at_ (o2.t 0).asR (o50.t 0).asI.toNat 0).asI]] : List (List T)).length) * 8 ≤ 140737488355328)) <|
  G1 ((IntKind.wrap .i64 (v8 + 1)), (w8 ++ [[.i (at_ (o2.t 0).asR (o50.t 0).asI.toNat 0).asI]]))
 else
  some ⟨[.r w8, .b true], []⟩
def impl_DataOf_k1 : List Nat := [1, 2, 4, 5, 6, 8, 22, 23, 38]
def impl_DataOf_S1 (a0_0 : Int) (a0_1 : Int) (a0_2 : Int) (a0_3 : List (List T)) (a0_4 : Int) (a0_5 : Int) (a0_6 : Int) (a0_7 : Int) (a0_8 : Int) (a0_9 : List (List T)) (a0_10 : Int) (a0_11 : Bool) (a0_12 : Bool) (a1 : Int) (o2 : Outs) (p12 : Int) : (Int × List (List T)) → St := fun (v8, w8) => ⟨ofSl [(1, .i .i64 a1), (2, .ptr (2, 0) 0), (4, .ref (4, 0)), (5, .b false), (6, .ref (6, 0)), (8, .ref (8, 0)), (22, .i .i64 p12), (23, .i .i64 v8), (38, .skip)], ofMem [((2, 0), .var [.i .i64 a0_0, .i .i64 a0_1, .i .i64 a0_2, .sl 120 a0_3, .i .i64 a0_4, .i .i64 a0_5, .i .i64 a0_6, .i .i64 a0_7, .i .i64 a0_8, .sl 140 a0_9, .i .i64 a0_10, .b a0_11, .b a0_12]), ((4, 0), .row 3 true []), ((6, 0), .row 3 true (o2.t 0).asR), ((8, 0), .row 3 true w8)]⟩
def impl_DataOf_l1 (k : Nat) (a0_0 : Int) (a0_1 : Int) (a0_2 : Int) (a0_3 : List (List T)) (a0_4 : Int) (a0_5 : Int) (a0_6 : Int) (a0_7 : Int) (a0_8 : Int) (a0_9 : List (List T)) (a0_10 : Int) (a0_11 : Bool) (a0_12 : Bool) (a1 : Int) (o2 : Outs) (p12 : Int) (G1 : (Int × List (List T)) → Option Outs) : (Int × List (List T)) → Option Outs :=
  impl_DataOf_L1 k a0_0 a0_1 a0_2 a0_3 a0_4 a0_5 a0_6 a0_7 a0_8 a0_9 a0_10 a0_11 a0_12 a1 o2 p12 G1
def impl_DataOf_U (k : Nat) (a0_0 : Int) (a0_1 : Int) (a0_2 : Int) (a0_3 : List (List T)) (a0_4 : Int) (a0_5 : Int) (a0_6 : Int) (a0_7 : Int) (a0_8 : Int) (a0_9 : List (List T)) (a0_10 : Int) (a0_11 : Bool) (a0_12 : Bool) (a1 : Int) (R1 : Outs → Int → (Int × List (List T)) → Option Outs) : Option Outs :=
 bindO (evalF E P0 k N.impl_Words [.v [.i a0_0, .i a0_1, .i a0_2, .r a0_3, .i a0_4, .i a0_5, .i a0_6, .i a0_7, .i a0_8, .r a0_9, .i a0_10, .b a0_11, .b a0_12], .v [.i a1]]) fun o2 =>
 bif (!(o2.t 1).asB) then some ⟨[.r [], .b false], []⟩ else R1 o2 (IntKind.wrap .i64 (a0_1 - 1)) (0, [])
def impl_DataOf_u (k : Nat) (a0_0 : Int) (a0_1 : Int) (a0_2 : Int) (a0_3 : List (List T)) (a0_4 : Int) (a0_5 : Int) (a0_6 : Int) (a0_7 : Int) (a0_8 : Int) (a0_9 : List (List T)) (a0_10 : Int) (a0_11 : Bool) (a0_12 : Bool) (a1 : Int) : Option Outs :=
  impl_DataOf_U k a0_0 a0_1 a0_2 a0_3 a0_4 a0_5 a0_6 a0_7 a0_8 a0_9 a0_10 a0_11 a0_12 a1 (fun y0 y1 v => fixN (impl_DataOf_l1 k a0_0 a0_1 a0_2 a0_3 a0_4 a0_5 a0_6 a0_7 a0_8 a0_9 a0_10 a0_11 a0_12 a1 y0 y1) k v)
def impl_DataOf_it1 (k : Nat) (a0_0 : Int) (a0_1 : Int) (a0_2 : Int) (a0_3 : List (List T)) (a0_4 : Int) (a0_5 : Int) (a0_6 : Int) (a0_7 : Int) (a0_8 : Int) (a0_9 : List (List T)) (a0_10 : Int) (a0_11 : Bool) (a0_12 : Bool) (a1 : Int) (js : List Nat) (j : Nat) (s : St) : Option Outs := iter (LB E (evalF E P0 k) k [] N.impl_DataOf [.sr, .sr, .sr, .sr, .sl, .sr, .bl]) [] impl_DataOf_k1 (LK E (evalF E P0 k) k [] N.impl_DataOf [.v [.i a0_0, .i a0_1, .i a0_2, .r a0_3, .i a0_4, .i a0_5, .i a0_6, .i a0_7, .i a0_8, .r a0_9, .i a0_10, .b a0_11, .b a0_12], .v [.i a1]] [.sr, .sr, .sr, .sr, .sl, .sr, .bl] js) j s
theorem impl_DataOf_e (k : Nat) (a0_0 : Int) (a0_1 : Int) (a0_2 : Int) (a0_3 : List (List T)) (a0_4 : Int) (a0_5 : Int) (a0_6 : Int) (a0_7 : Int) (a0_8 : Int) (a0_9 : List (List T)) (a0_10 : Int) (a0_11 : Bool) (a0_12 : Bool) (a1 : Int) : evalF E P0 (k + 1) N.impl_DataOf [.v [.i a0_0, .i a0_1, .i a0_2, .r a0_3, .i a0_4, .i a0_5, .i a0_6, .i a0_7, .i a0_8, .r a0_9, .i a0_10, .b a0_11, .b a0_12], .v [.i a1]] = impl_DataOf_u k a0_0 a0_1 a0_2 a0_3 a0_4 a0_5 a0_6 a0_7 a0_8 a0_9 a0_10 a0_11 a0_12 a1 := by
  have e0 : evalF E P0 (k + 1) N.impl_DataOf [.v [.i a0_0, .i a0_1, .i a0_2, .r a0_3, .i a0_4, .i a0_5, .i a0_6, .i a0_7, .i a0_8, .r a0_9, .i a0_10, .b a0_11, .b a0_12], .v [.i a1]] = impl_DataOf_U k a0_0 a0_1 a0_2 a0_3 a0_4 a0_5 a0_6 a0_7 a0_8 a0_9 a0_10 a0_11 a0_12 a1 (fun y0 y1 v => impl_DataOf_it1 k a0_0 a0_1 a0_2 a0_3 a0_4 a0_5 a0_6 a0_7 a0_8 a0_9 a0_10 a0_11 a0_12 a1 [] k (impl_DataOf_S1 a0_0 a0_1 a0_2 a0_3 a0_4 a0_5 a0_6 a0_7 a0_8 a0_9 a0_10 a0_11 a0_12 a1 y0 y1 v)) := by kernel_rfl
  have e1 : ∀ (o2 : Outs) (p12 : Int) (j1 : Nat) (v : Int × List (List T)), impl_DataOf_it1 k a0_0 a0_1 a0_2 a0_3 a0_4 a0_5 a0_6 a0_7 a0_8 a0_9 a0_10 a0_11 a0_12 a1 [] (j1 + 1) (impl_DataOf_S1 a0_0 a0_1 a0_2 a0_3 a0_4 a0_5 a0_6 a0_7 a0_8 a0_9 a0_10 a0_11 a0_12 a1 o2 p12 v) = impl_DataOf_L1 k a0_0 a0_1 a0_2 a0_3 a0_4 a0_5 a0_6 a0_7 a0_8 a0_9 a0_10 a0_11 a0_12 a1 o2 p12 (fun v => impl_DataOf_it1 k a0_0 a0_1 a0_2 a0_3 a0_4 a0_5 a0_6 a0_7 a0_8 a0_9 a0_10 a0_11 a0_12 a1 [] j1 (impl_DataOf_S1 a0_0 a0_1 a0_2 a0_3 a0_4 a0_5 a0_6 a0_7 a0_8 a0_9 a0_10 a0_11 a0_12 a1 o2 p12 v)) v := by
    intro o2 p12 j1 v; kernel_rfl
  have i1 : ∀ (o2 : Outs) (p12 : Int) (j1 : Nat) (v : Int × List (List T)), impl_DataOf_it1 k a0_0 a0_1 a0_2 a0_3 a0_4 a0_5 a0_6 a0_7 a0_8 a0_9 a0_10 a0_11 a0_12 a1 [] j1 (impl_DataOf_S1 a0_0 a0_1 a0_2 a0_3 a0_4 a0_5 a0_6 a0_7 a0_8 a0_9 a0_10 a0_11 a0_12 a1 o2 p12 v) = fixN (impl_DataOf_l1 k a0_0 a0_1 a0_2 a0_3 a0_4 a0_5 a0_6 a0_7 a0_8 a0_9 a0_10 a0_11 a0_12 a1 o2 p12) j1 v := by
    intro o2 p12 j1 v
    refine iter_fix (impl_DataOf_S1 a0_0 a0_1 a0_2 a0_3 a0_4 a0_5 a0_6 a0_7 a0_8 a0_9 a0_10 a0_11 a0_12 a1 o2 p12) (impl_DataOf_l1 k a0_0 a0_1 a0_2 a0_3 a0_4 a0_5 a0_6 a0_7 a0_8 a0_9 a0_10 a0_11 a0_12 a1 o2 p12) (fun j1 v => (e1 o2 p12 j1 v).trans ?_) j1 v
    unfold impl_DataOf_l1
    rfl
  rw [e0]; unfold impl_DataOf_u
  simp only [i1]
/- impl.dataNow -/
def impl_dataNow_u (k : Nat) (a0_0 : Int) (a0_1 : Int) (a0_2 : Int) (a0_3 : List (List T)) (a0_4 : Int) (a0_5 : Int) (a0_6 : Int) (a0_7 : Int) (a0_8 : Int) (a0_9 : List (List T)) (a0_10 : Int) (a0_11 : Bool) (a0_12 : Bool) (a1 : Int) : Option Outs :=
 bindO (evalF E P0 k N.impl_entOf [.v [.i a0_0, .i a0_1, .i a0_2, .r a0_3, .i a0_4, .i a0_5, .i a0_6, .i a0_7, .i a0_8, .r a0_9, .i a0_10, .b a0_11, .b a0_12], .v [.i a1]]) fun o2 =>
 bif (decide ((o2.t 0).asI ≥ 0)) then
  chk (decide (0 ≤ (o2.t 0).asI) && decide ((o2.t 0).asI < (a0_9.length : Int))) <|
  bindO (evalF E P0 k N.impl_copyInts [.v [.r (at_ a0_9 (o2.t 0).asI.toNat 1).asR]]) fun o6 =>
  some ⟨[.r (o6.t 0).asR, .b true], []⟩
 else
  bindO (evalF E P0 k N.impl_DataOf [.v [.i a0_0, .i a0_1, .i a0_2, .r a0_3, .i a0_4, .i a0_5, .i a0_6, .i a0_7, .i a0_8, .r a0_9, .i a0_10, .b a0_11, .b a0_12], .v [.i a1]]) fun o8 =>
  some ⟨[.r (o8.t 0).asR, .b (o8.t 1).asB], []⟩
theorem impl_dataNow_e (k : Nat) (a0_0 : Int) (a0_1 : Int) (a0_2 : Int) (a0_3 : List (List T)) (a0_4 : Int) (a0_5 : Int) (a0_6 : Int) (a0_7 : Int) (a0_8 : Int) (a0_9 : List (List T)) (a0_10 : Int) (a0_11 : Bool) (a0_12 : Bool) (a1 : Int) : evalF E P0 (k + 1) N.impl_dataNow [.v [.i a0_0, .i a0_1, .i a0_2, .r a0_3, .i a0_4, .i a0_5, .i a0_6, .i a0_7, .i a0_8, .r a0_9, .i a0_10, .b a0_11, .b a0_12], .v [.i a1]] = impl_dataNow_u k a0_0 a0_1 a0_2 a0_3 a0_4 a0_5 a0_6 a0_7 a0_8 a0_9 a0_10 a0_11 a0_12 a1 := by kernel_rfl
/- impl.IndexOf -/
def impl_IndexOf_u (k : Nat) (a0_0 : Int) (a0_1 : Int) (a1 : Int) : Option Outs :=
 bindO (evalF E P0 k N.impl_hasBlock [.v [.i a0_0, .i a0_1], .v [.i a1]]) fun o2 =>
 bif (!(o2.t 0).asB) then
  some ⟨[.i (-1)], []⟩
 else
  chk (!decide ((IntKind.wrap .i64 (a0_0 - 1)) = 0)) <|
  some ⟨[.i (Int.tmod a1 (IntKind.wrap .i64 (a0_0 - 1)))], []⟩
theorem impl_IndexOf_e (k : Nat) (a0_0 : Int) (a0_1 : Int) (a1 : Int) : evalF E P0 (k + 1) N.impl_IndexOf [.v [.i a0_0, .i a0_1], .v [.i a1]] = impl_IndexOf_u k a0_0 a0_1 a1 := by kernel_rfl
/- impl.GetBlock -/
def impl_GetBlock_u (k : Nat) (a0_0 : Int) (a0_1 : Int) (a0_2 : Int) (a0_3 : List (List T)) (a0_4 : Int) (a0_5 : Int) (a0_6 : Int) (a0_7 : Int) (a0_8 : Int) (a0_9 : List (List T)) (a0_10 : Int) (a0_11 : Bool) (a0_12 : Bool) (a1 : Int) : Option Outs :=
 bindO (evalF E P0 k N.impl_blockCode [.v [.i a0_0, .i a0_1, .i a0_2, .r a0_3, .i a0_4, .i a0_5, .i a0_6, .i a0_7, .i a0_8, .r a0_9, .i a0_10, .b a0_11, .b a0_12], .v [.i a1]]) fun o2 =>
 bif ((o2.t 0).asI != 0) then
  some ⟨[.i 0, .i (o2.t 0).asI], []⟩
 else
  bindO (evalF E P0 k N.impl_StripeOf [.v [.i a0_1, .i a0_2], .v [.i a1]]) fun o5 =>
  bindO (evalF E P0 k N.impl_dataNow [.v [.i a0_0, .i a0_1, .i a0_2, .r a0_3, .i a0_4, .i a0_5, .i a0_6, .i a0_7, .i a0_8, .r a0_9, .i a0_10, .b a0_11, .b a0_12], .v [.i (o5.t 0).asI]]) fun o6 =>
  bif (!(o6.t 1).asB) then
   some ⟨[.i 0, .i 5], []⟩
  else
   bindO (evalF E P0 k N.impl_IndexOf [.v [.i a0_1, .i a0_2], .v [.i a1]]) fun o8 =>
   chk (decide (0 ≤ (o8.t 0).asI) && decide ((o8.t 0).asI < ((o6.t 0).asR.length : Int))) <|
   some ⟨[.i (at_ (o6.t 0).asR (o8.t 0).asI.toNat 0).asI, .i 0], []⟩
theorem impl_GetBlock_e (k : Nat) (a0_0 : Int) (a0_1 : Int) (a0_2 : Int) (a0_3 : List (List T)) (a0_4 : Int) (a0_5 : Int) (a0_6 : Int) (a0_7 : Int) (a0_8 : Int) (a0_9 : List (List T)) (a0_10 : Int) (a0_11 : Bool) (a0_12 : Bool) (a1 : Int) : evalF E P0 (k + 1) N.impl_GetBlock [.v [.i a0_0, .i a0_1, .i a0_2, .r a0_3, .i a0_4, .i a0_5, .i a0_6, .i a0_7, .i a0_8, .r a0_9, .i a0_10, .b a0_11, .b a0_12], .v [.i a1]] = impl_GetBlock_u k a0_0 a0_1 a0_2 a0_3 a0_4 a0_5 a0_6 a0_7 a0_8 a0_9 a0_10 a0_11 a0_12 a1 := by kernel_rfl
/- slices.Reverse[[]impl.Ent,impl.Ent] -/
def slices_Reverse_impl_Ent_impl_Ent_L1 (k : Nat) (G1 : (Int × Int × List (List T)) → Option Outs) : (Int × Int × List (List T)) → Option Outs := fun (v7, v8, w4) =>
 bif (decide (v7 < v8)) then
  chk (decide (0 ≤ v8) && decide (v8 < (w4.length : Int))) <|
  chk (decide (0 ≤ v7) && decide (v7 < (w4.length : Int))) <|
  chk (decide (0 ≤ v7) && decide (v7 < (w4.length : Int))) <|
  chk (decide (0 ≤ v8) && decide (v8 < ((put_ w4 v7.toNat 0 [.i (at_ w4 v8.toNat 0).asI, .r (at_ w4 v8.toNat 1).asR]).length : Int))) <|
  G1 ((IntKind.wrap .i64 (v7 + 1)), (IntKind.wrap .i64 (v8 - 1)), (put_ (put_ w4 v7.toNat 0 [.i (at_ w4 v8.toNat 0).asI, .r (at_ w4 v8.toNat 1).asR]) v8.toNat 0 [.i (at_ w4 v7.toNat 0).asI, .r (at_ w4 v7.toNat 1).asR]))
 else
  some ⟨[], [[.r w4]]⟩
def slices_Reverse_impl_Ent_impl_Ent_k1 : List Nat := [0, 2, 3]
def slices_Reverse_impl_Ent_impl_Ent_S1 : (Int × Int × List (List T)) → St := fun (v7, v8, w4) => ⟨ofSl [(0, .ref (0, 0)), (2, .i .i64 v7), (3, .i .i64 v8)], ofMem [((0, 0), .row 140 true w4)]⟩
def slices_Reverse_impl_Ent_impl_Ent_l1 (k : Nat) (G1 : (Int × Int × List (List T)) → Option Outs) : (Int × Int × List (List T)) → Option Outs :=
  slices_Reverse_impl_Ent_impl_Ent_L1 k G1
def slices_Reverse_impl_Ent_impl_Ent_U (k : Nat) (a0 : List (List T)) (R1 : (Int × Int × List (List T)) → Option Outs) : Option Outs :=
 R1 (0, (IntKind.wrap .i64 ((a0.length : Int) - 1)), a0)
def slices_Reverse_impl_Ent_impl_Ent_u (k : Nat) (a0 : List (List T)) : Option Outs :=
  slices_Reverse_impl_Ent_impl_Ent_U k a0 (fun v => fixN (slices_Reverse_impl_Ent_impl_Ent_l1 k) k v)
def slices_Reverse_impl_Ent_impl_Ent_it1 (k : Nat) (a0 : List (List T)) (js : List Nat) (j : Nat) (s : St) : Option Outs := iter (LB E (evalF E P0 k) k [0] N.slices_Reverse_impl_Ent_impl_Ent [.sr, .bl]) [0] slices_Reverse_impl_Ent_impl_Ent_k1 (LK E (evalF E P0 k) k [0] N.slices_Reverse_impl_Ent_impl_Ent [.r a0] [.sr, .bl] js) j s
theorem slices_Reverse_impl_Ent_impl_Ent_e (k : Nat) (a0 : List (List T)) : evalF E P0 (k + 1) N.slices_Reverse_impl_Ent_impl_Ent [.r a0] = slices_Reverse_impl_Ent_impl_Ent_u k a0 := by
  have e0 : evalF E P0 (k + 1) N.slices_Reverse_impl_Ent_impl_Ent [.r a0] = slices_Reverse_impl_Ent_impl_Ent_U k a0 (fun v => slices_Reverse_impl_Ent_impl_Ent_it1 k a0 [] k (slices_Reverse_impl_Ent_impl_Ent_S1 v)) := by kernel_rfl
  have e1 : ∀ (j1 : Nat) (v : Int × Int × List (List T)), slices_Reverse_impl_Ent_impl_Ent_it1 k a0 [] (j1 + 1) (slices_Reverse_impl_Ent_impl_Ent_S1 v) = slices_Reverse_impl_Ent_impl_Ent_L1 k (fun v => slices_Reverse_impl_Ent_impl_Ent_it1 k a0 [] j1 (slices_Reverse_impl_Ent_impl_Ent_S1 v)) v := by
    intro j1 v; kernel_rfl
  have i1 : ∀ (j1 : Nat) (v : Int × Int × List (List T)), slices_Reverse_impl_Ent_impl_Ent_it1 k a0 [] j1 (slices_Reverse_impl_Ent_impl_Ent_S1 v) = fixN (slices_Reverse_impl_Ent_impl_Ent_l1 k) j1 v := by
    intro j1 v
    refine iter_fix (slices_Reverse_impl_Ent_impl_Ent_S1) (slices_Reverse_impl_Ent_impl_Ent_l1 k) (fun j1 v => (e1 j1 v).trans ?_) j1 v
    unfold slices_Reverse_impl_Ent_impl_Ent_l1
    rfl
  rw [e0]; unfold slices_Reverse_impl_Ent_impl_Ent_u
  simp only [i1]
/- (*impl.Arr).op -/
def impl_Arr_op_u (k : Nat) (a0_0 : Int) (a0_1 : Int) (a0_2 : Int) (a0_3 : List (List T)) (a0_4 : Int) (a0_5 : Int) (a0_6 : Int) (a0_7 : Int) (a0_8 : Int) (a0_9 : List (List T)) (a0_10 : Int) (a0_11 : Bool) (a0_12 : Bool) : Option Outs :=
 bif (a0_10 == 0) then
  some ⟨[.b false], [[.i a0_0, .i a0_1, .i a0_2, .r a0_3, .i a0_4, .i a0_5, .i a0_6, .i a0_7, .i a0_8, .r a0_9, .i (-1), .b true, .b a0_12]]⟩
 else
  bif (decide (a0_10 > 0)) then
   some ⟨[.b true], [[.i a0_0, .i a0_1, .i a0_2, .r a0_3, .i a0_4, .i a0_5, .i a0_6, .i a0_7, .i a0_8, .r a0_9, .i (IntKind.wrap .i64 (a0_10 - 1)), .b a0_11, .b a0_12]]⟩
  else
   some ⟨[.b true], [[.i a0_0, .i a0_1, .i a0_2, .r a0_3, .i a0_4, .i a0_5, .i a0_6, .i a0_7, .i a0_8, .r a0_9, .i a0_10, .b a0_11, .b a0_12]]⟩
theorem impl_Arr_op_e (k : Nat) (a0_0 : Int) (a0_1 : Int) (a0_2 : Int) (a0_3 : List (List T)) (a0_4 : Int) (a0_5 : Int) (a0_6 : Int) (a0_7 : Int) (a0_8 : Int) (a0_9 : List (List T)) (a0_10 : Int) (a0_11 : Bool) (a0_12 : Bool) : evalF E P0 (k + 1) N.impl_Arr_op [.p [.i a0_0, .i a0_1, .i a0_2, .r a0_3, .i a0_4, .i a0_5, .i a0_6, .i a0_7, .i a0_8, .r a0_9, .i a0_10, .b a0_11, .b a0_12]] = impl_Arr_op_u k a0_0 a0_1 a0_2 a0_3 a0_4 a0_5 a0_6 a0_7 a0_8 a0_9 a0_10 a0_11 a0_12 := by kernel_rfl
/- impl.SlotOf -/
def impl_SlotOf_u (k : Nat) (a0 : Int) : Option Outs :=
 bif (decide (a0 < 0)) then some ⟨[.i (-1)], []⟩ else some ⟨[.i (IntKind.wrap .i64 (2 + (Int.tmod a0 4)))], []⟩
theorem impl_SlotOf_e (k : Nat) (a0 : Int) : evalF E P0 (k + 1) N.impl_SlotOf [.v [.i a0]] = impl_SlotOf_u k a0 := by kernel_rfl
/- impl.RecOk -/
def impl_RecOk_u (k : Nat) (a0_0 : Int) (a0_1 : Int) (a0_2 : List (List T)) : Option Outs :=
 bindO (evalF E P0 k N.impl_within [.v [.i a0_0], .v [.i 0], .v [.i 60000]]) fun o5 =>
 bif (o5.t 0).asB then
  bindO (evalF E P0 k N.impl_within [.v [.i a0_1], .v [.i 0], .v [.i 7]]) fun o6 =>
  bif (o6.t 0).asB then
   bindO (evalF E P0 k N.impl_within [.v [.i (a0_2.length : Int)], .v [.i 2], .v [.i 4]]) fun o7 =>
   bif (o7.t 0).asB then
    bindO (evalF E P0 k N.impl_wordsOk [.v [.r a0_2]]) fun o8 =>
    some ⟨[.b (o8.t 0).asB], []⟩
   else
    some ⟨[.b false], []⟩
  else
   some ⟨[.b false], []⟩
 else
  some ⟨[.b false], []⟩
theorem impl_RecOk_e (k : Nat) (a0_0 : Int) (a0_1 : Int) (a0_2 : List (List T)) : evalF E P0 (k + 1) N.impl_RecOk [.v [.i a0_0, .i a0_1, .r a0_2]] = impl_RecOk_u k a0_0 a0_1 a0_2 := by kernel_rfl
/- impl.PutRec -/
def impl_PutRec_u (k : Nat) (a0_0 : Int) (a0_1 : Int) (a0_2 : List (List T)) : Option Outs :=
 bindO (evalF E P0 k N.impl_RecOk [.v [.i a0_0, .i a0_1, .r a0_2]]) fun o2 =>
 bif (!(o2.t 0).asB) then
  some ⟨[.r []], []⟩
 else
  chk (decide ((([[.i 21322], [.i a0_0], [.i a0_1], [.i (a0_2.length : Int)]] : List (List T)).length + a0_2.length) * 8 ≤ 140737488355328)) <|
  some ⟨[.r ([[.i 21322], [.i a0_0], [.i a0_1], [.i (a0_2.length : Int)]] ++ a0_2)], []⟩
theorem impl_PutRec_e (k : Nat) (a0_0 : Int) (a0_1 : Int) (a0_2 : List (List T)) : evalF E P0 (k + 1) N.impl_PutRec [.v [.i a0_0, .i a0_1, .r a0_2]] = impl_PutRec_u k a0_0 a0_1 a0_2 := by kernel_rfl
/- impl.ParityWord -/
def impl_ParityWord_u (k : Nat) (a0 : List (List T)) : Option Outs :=
 bindO (evalF E P0 k N.impl_XorOf [.v [.r a0]]) fun o2 =>
 some ⟨[.i (o2.t 0).asI], []⟩
theorem impl_ParityWord_e (k : Nat) (a0 : List (List T)) : evalF E P0 (k + 1) N.impl_ParityWord [.v [.r a0]] = impl_ParityWord_u k a0 := by kernel_rfl
/- impl.goodOr -/
def impl_goodOr_u (k : Nat) (a0 : Bool) : Option Outs :=
 bif a0 then some ⟨[.i 0], []⟩ else some ⟨[.i 6], []⟩
theorem impl_goodOr_e (k : Nat) (a0 : Bool) : evalF E P0 (k + 1) N.impl_goodOr [.v [.b a0]] = impl_goodOr_u k a0 := by kernel_rfl
/- (*impl.Eng).answer -/
def impl_Eng_answer_u (k : Nat) (a0_0 : Int) (a0_1 : Int) (a0_2 : Int) (a0_3 : List (List T)) (a0_4 : Int) (a0_5 : Int) (a0_6 : Int) (a0_7 : Int) (a0_8 : Int) (a0_9 : List (List T)) (a0_10 : Int) (a0_11 : Bool) (a0_12 : Bool) (a0_13 : List (List T)) (a0_14 : List (List T)) (a0_15 : List (List T)) (a0_16 : List (List T)) (a1_0 : Int) (a1_1 : Int) (a1_2 : Int) (a1_3 : Int) (a1_4 : List (List T)) (a2_0 : Int) (a2_1 : Int) (a2_2 : List (List T)) : Option Outs :=
 chk (decide ((a0_15.length + ([[.i a2_0, .i a2_1, .r a2_2]] : List (List T)).length) * 40 ≤ 140737488355328)) <|
 bindO (evalF E P0 k N.impl_copyCmd [.v [.i a1_0, .i a1_1, .i a1_2, .i a1_3, .r a1_4]]) fun o1 =>
 bindO (evalF E P0 k N.impl_copyAns [.v [.i a2_0, .i a2_1, .r a2_2]]) fun o2 =>
 chk (decide ((a0_16.length + ([[.i (o1.t 0).asI, .i (o1.t 1).asI, .i (o1.t 2).asI, .i (o1.t 3).asI, .r (o1.t 4).asR, .i (o2.t 0).asI, .i (o2.t 1).asI, .r (o2.t 2).asR]] : List (List T)).length) * 96 ≤ 140737488355328)) <|
 some ⟨[], [[.i a0_0, .i a0_1, .i a0_2, .r a0_3, .i a0_4, .i a0_5, .i a0_6, .i a0_7, .i a0_8, .r a0_9, .i a0_10, .b a0_11, .b a0_12, .r a0_13, .r a0_14, .r (a0_15 ++ [[.i a2_0, .i a2_1, .r a2_2]]), .r (a0_16 ++ [[.i (o1.t 0).asI, .i (o1.t 1).asI, .i (o1.t 2).asI, .i (o1.t 3).asI, .r (o1.t 4).asR, .i (o2.t 0).asI, .i (o2.t 1).asI, .r (o2.t 2).asR]])]]⟩
theorem impl_Eng_answer_e (k : Nat) (a0_0 : Int) (a0_1 : Int) (a0_2 : Int) (a0_3 : List (List T)) (a0_4 : Int) (a0_5 : Int) (a0_6 : Int) (a0_7 : Int) (a0_8 : Int) (a0_9 : List (List T)) (a0_10 : Int) (a0_11 : Bool) (a0_12 : Bool) (a0_13 : List (List T)) (a0_14 : List (List T)) (a0_15 : List (List T)) (a0_16 : List (List T)) (a1_0 : Int) (a1_1 : Int) (a1_2 : Int) (a1_3 : Int) (a1_4 : List (List T)) (a2_0 : Int) (a2_1 : Int) (a2_2 : List (List T)) : evalF E P0 (k + 1) N.impl_Eng_answer [.p [.i a0_0, .i a0_1, .i a0_2, .r a0_3, .i a0_4, .i a0_5, .i a0_6, .i a0_7, .i a0_8, .r a0_9, .i a0_10, .b a0_11, .b a0_12, .r a0_13, .r a0_14, .r a0_15, .r a0_16], .v [.i a1_0, .i a1_1, .i a1_2, .i a1_3, .r a1_4], .v [.i a2_0, .i a2_1, .r a2_2]] = impl_Eng_answer_u k a0_0 a0_1 a0_2 a0_3 a0_4 a0_5 a0_6 a0_7 a0_8 a0_9 a0_10 a0_11 a0_12 a0_13 a0_14 a0_15 a0_16 a1_0 a1_1 a1_2 a1_3 a1_4 a2_0 a2_1 a2_2 := by kernel_rfl
end
end Go.Proofs.Ytjmmcnbhnaeieaa.Ev
