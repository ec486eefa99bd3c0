/- What functions answer under the evaluator, as Lean terms, part 0: what FnExactCmdText needs. No condition. -/
import Derived.Test.YtbmkpnabhodggaaDoorTab
namespace Go.Proofs.YtbmkpnabhodggaaDoor.Ev
open Go Go.Proofs
set_option linter.unusedVariables false
set_option maxRecDepth 100000
set_option maxHeartbeats 4000000
noncomputable section
def laws_toIntS_L1 (k : Nat) (a0 : List (List T)) (G1 : (Int × List (List T)) → Option Outs) : (Int × List (List T)) → Option Outs := fun (v8, w8) =>
 bif (decide (v8 < (a0.length : Int))) then
  chk (decide (0 ≤ v8) && decide (v8 < (a0.length : Int))) <|
  chk (decide (0 ≤ v8) && decide (v8 < (w8.length : Int))) <|
  G1 ((IntKind.wrap .i64 (v8 + 1)), (put_ w8 v8.toNat 0 [.i (at_ a0 v8.toNat 0).asI]))
 else
  some ⟨[.r w8], []⟩
def laws_toIntS_k1 : List Nat := [0, 2, 3, 4, 21]
def laws_toIntS_S1 (a0 : List (List T)) : (Int × List (List T)) → St := fun (v8, w8) => ⟨ofSl [(0, .sl 3 a0), (2, .ref (2, 0)), (3, .ref (3, 0)), (4, .i .i64 v8), (21, .skip)], ofMem [((2, 0), .row 3 true []), ((3, 0), .row 3 true w8)]⟩
def laws_toIntS_l1 (k : Nat) (a0 : List (List T)) (G1 : (Int × List (List T)) → Option Outs) : (Int × List (List T)) → Option Outs :=
  laws_toIntS_L1 k a0 G1
def laws_toIntS_U (k : Nat) (a0 : List (List T)) (R1 : (Int × List (List T)) → Option Outs) : Option Outs :=
 chk (decide ((a0.length : Int) = (a0.length : Int)) && decide (0 ≤ (a0.length : Int)) && decide ((a0.length : Int) * ((8 : Nat) : Int) ≤ 140737488355328)) <|
 R1 (0, (List.replicate ((a0.length : Int) : Int).toNat [.i 0]))
def laws_toIntS_u (k : Nat) (a0 : List (List T)) : Option Outs :=
  laws_toIntS_U k a0 (fun v => fixN (laws_toIntS_l1 k a0) k v)
def laws_toIntS_it1 (k : Nat) (a0 : List (List T)) (js : List Nat) (j : Nat) (s : St) : Option Outs := iter E (LB E (evalF E P0 k) k [] N.laws_toIntS [.sr, .sr, .sl, .sr, .bl]) [] laws_toIntS_k1 (LK E (evalF E P0 k) k [] N.laws_toIntS [.v [.r a0]] [.sr, .sr, .sl, .sr, .bl] js) j s
theorem laws_toIntS_e (k : Nat) (a0 : List (List T)) : evalF E P0 (k + 1) N.laws_toIntS [.v [.r a0]] = laws_toIntS_u k a0 := by
  have e0 : evalF E P0 (k + 1) N.laws_toIntS [.v [.r a0]] = laws_toIntS_U k a0 (fun v => laws_toIntS_it1 k a0 [] k (laws_toIntS_S1 a0 v)) := by kernel_rfl
  have e1 : ∀ (j1 : Nat) (v : Int × List (List T)), laws_toIntS_it1 k a0 [] (j1 + 1) (laws_toIntS_S1 a0 v) = laws_toIntS_L1 k a0 (fun v => laws_toIntS_it1 k a0 [] j1 (laws_toIntS_S1 a0 v)) v := by
    intro j1 v; kernel_rfl
  have i1 : ∀ (j1 : Nat) (v : Int × List (List T)), laws_toIntS_it1 k a0 [] j1 (laws_toIntS_S1 a0 v) = fixN (laws_toIntS_l1 k a0) j1 v := by
    intro j1 v
    refine iter_fix (laws_toIntS_S1 a0) (laws_toIntS_l1 k a0) (fun j1 v => (e1 j1 v).trans ?_) j1 v
    unfold laws_toIntS_l1
    rfl
  rw [e0]; unfold laws_toIntS_u
  simp only [i1]
def spec_l1In_u (k : Nat) (a0 : Int) (a1 : Int) (a2 : Int) : Option Outs :=
 bif (decide (a0 ≥ a1)) then some ⟨[.b (decide (a0 ≤ a2))], []⟩ else some ⟨[.b false], []⟩
theorem spec_l1In_e (k : Nat) (a0 : Int) (a1 : Int) (a2 : Int) : evalF E P0 (k + 1) N.spec_l1In [.v [.i a0], .v [.i a1], .v [.i a2]] = spec_l1In_u k a0 a1 a2 := by kernel_rfl
def spec_l1Word_u (k : Nat) (a0 : Int) : Option Outs :=
 bindO (evalF E P0 k N.spec_l1In [.v [.i a0], .v [.i 0], .v [.i 65535]]) fun o2 =>
 some ⟨[.b (o2.t 0).asB], []⟩
theorem spec_l1Word_e (k : Nat) (a0 : Int) : evalF E P0 (k + 1) N.spec_l1Word [.v [.i a0]] = spec_l1Word_u k a0 := by kernel_rfl
def spec_l1Words_L1 (k : Nat) (a0 : List (List T)) (G1 : (Int) → Option Outs) : (Int) → Option Outs := fun v8 =>
 bif (decide (v8 < (a0.length : Int))) then
  chk (decide (0 ≤ v8) && decide (v8 < (a0.length : Int))) <|
  bindO (evalF E P0 k N.spec_l1Word [.v [.i (at_ a0 v8.toNat 0).asI]]) fun o96 =>
  bif (!(o96.t 0).asB) then some ⟨[.b false], []⟩ else G1 (IntKind.wrap .i64 (v8 + 1))
 else
  some ⟨[.b true], []⟩
def spec_l1Words_k1 : List Nat := [0, 2, 3]
def spec_l1Words_S1 (a0 : List (List T)) : (Int) → St := fun v8 => ⟨ofSl [(0, .sl 3 a0), (2, .b false), (3, .i .i64 v8)], ofMem []⟩
def spec_l1Words_l1 (k : Nat) (a0 : List (List T)) (G1 : (Int) → Option Outs) : (Int) → Option Outs :=
  spec_l1Words_L1 k a0 G1
def spec_l1Words_U (k : Nat) (a0 : List (List T)) (R1 : (Int) → Option Outs) : Option Outs :=
 R1 0
def spec_l1Words_u (k : Nat) (a0 : List (List T)) : Option Outs :=
  spec_l1Words_U k a0 (fun v => fixN (spec_l1Words_l1 k a0) k v)
def spec_l1Words_it1 (k : Nat) (a0 : List (List T)) (js : List Nat) (j : Nat) (s : St) : Option Outs := iter E (LB E (evalF E P0 k) k [] N.spec_l1Words [.sr, .sl, .sr, .bl]) [] spec_l1Words_k1 (LK E (evalF E P0 k) k [] N.spec_l1Words [.v [.r a0]] [.sr, .sl, .sr, .bl] js) j s
theorem spec_l1Words_e (k : Nat) (a0 : List (List T)) : evalF E P0 (k + 1) N.spec_l1Words [.v [.r a0]] = spec_l1Words_u k a0 := by
  have e0 : evalF E P0 (k + 1) N.spec_l1Words [.v [.r a0]] = spec_l1Words_U k a0 (fun v => spec_l1Words_it1 k a0 [] k (spec_l1Words_S1 a0 v)) := by kernel_rfl
  have e1 : ∀ (j1 : Nat) (v : Int), spec_l1Words_it1 k a0 [] (j1 + 1) (spec_l1Words_S1 a0 v) = spec_l1Words_L1 k a0 (fun v => spec_l1Words_it1 k a0 [] j1 (spec_l1Words_S1 a0 v)) v := by
    intro j1 v; kernel_rfl
  have i1 : ∀ (j1 : Nat) (v : Int), spec_l1Words_it1 k a0 [] j1 (spec_l1Words_S1 a0 v) = fixN (spec_l1Words_l1 k a0) j1 v := by
    intro j1 v
    refine iter_fix (spec_l1Words_S1 a0) (spec_l1Words_l1 k a0) (fun j1 v => (e1 j1 v).trans ?_) j1 v
    unfold spec_l1Words_l1
    rfl
  rw [e0]; unfold spec_l1Words_u
  simp only [i1]
def spec_l22Num_u (k : Nat) (a0 : Int) : Option Outs :=
 bif (decide (a0 < 10)) then
  some ⟨[.s (bytesT [[.i (IntKind.wrap .u8 (IntKind.wrap .i64 (48 + a0)))]])], []⟩
 else
  bindO (evalF E P0 k N.spec_l22Num [.v [.i (IntKind.wrap .i64 (Int.tdiv a0 10))]]) fun o2 =>
  chk (Nat.ble ((o2.t 0).asS.size + (bytesT [[.i (IntKind.wrap .u8 (IntKind.wrap .i64 (48 + (Int.tmod a0 10))))]]).size) 9223372036854775807) <|
  some ⟨[.s ((o2.t 0).asS ++ (bytesT [[.i (IntKind.wrap .u8 (IntKind.wrap .i64 (48 + (Int.tmod a0 10))))]]))], []⟩
theorem spec_l22Num_e (k : Nat) (a0 : Int) : evalF E P0 (k + 1) N.spec_l22Num [.v [.i a0]] = spec_l22Num_u k a0 := by kernel_rfl
def impl_within_u (k : Nat) (a0 : Int) (a1 : Int) (a2 : Int) : Option Outs :=
 bif (decide (a0 ≥ a1)) then some ⟨[.b (decide (a0 ≤ a2))], []⟩ else some ⟨[.b false], []⟩
theorem impl_within_e (k : Nat) (a0 : Int) (a1 : Int) (a2 : Int) : evalF E P0 (k + 1) N.impl_within [.v [.i a0], .v [.i a1], .v [.i a2]] = impl_within_u k a0 a1 a2 := by kernel_rfl
def impl_isWord_u (k : Nat) (a0 : Int) : Option Outs :=
 bindO (evalF E P0 k N.impl_within [.v [.i a0], .v [.i 0], .v [.i 65535]]) fun o2 =>
 some ⟨[.b (o2.t 0).asB], []⟩
theorem impl_isWord_e (k : Nat) (a0 : Int) : evalF E P0 (k + 1) N.impl_isWord [.v [.i a0]] = impl_isWord_u k a0 := by kernel_rfl
def impl_wordsOk_L1 (k : Nat) (a0 : List (List T)) (G1 : (Int) → Option Outs) : (Int) → Option Outs := fun v8 =>
 bif (decide (v8 < (a0.length : Int))) then
  chk (decide (0 ≤ v8) && decide (v8 < (a0.length : Int))) <|
  bindO (evalF E P0 k N.impl_isWord [.v [.i (at_ a0 v8.toNat 0).asI]]) fun o96 =>
  bif (!(o96.t 0).asB) then some ⟨[.b false], []⟩ else G1 (IntKind.wrap .i64 (v8 + 1))
 else
  some ⟨[.b true], []⟩
def impl_wordsOk_k1 : List Nat := [2, 5, 6, 7]
def impl_wordsOk_S1 (a0 : List (List T)) : (Int) → St := fun v8 => ⟨ofSl [(2, .b false), (5, .sl 3 a0), (6, .i .i64 (a0.length : Int)), (7, .i .i64 v8)], ofMem []⟩
def impl_wordsOk_l1 (k : Nat) (a0 : List (List T)) (G1 : (Int) → Option Outs) : (Int) → Option Outs :=
  impl_wordsOk_L1 k a0 G1
def impl_wordsOk_U (k : Nat) (a0 : List (List T)) (R1 : (Int) → Option Outs) : Option Outs :=
 R1 0
def impl_wordsOk_u (k : Nat) (a0 : List (List T)) : Option Outs :=
  impl_wordsOk_U k a0 (fun v => fixN (impl_wordsOk_l1 k a0) k v)
def impl_wordsOk_it1 (k : Nat) (a0 : List (List T)) (js : List Nat) (j : Nat) (s : St) : Option Outs := iter E (LB E (evalF E P0 k) k [] N.impl_wordsOk [.sr, .sl, .sr, .bl]) [] impl_wordsOk_k1 (LK E (evalF E P0 k) k [] N.impl_wordsOk [.v [.r a0]] [.sr, .sl, .sr, .bl] js) j s
theorem impl_wordsOk_e (k : Nat) (a0 : List (List T)) : evalF E P0 (k + 1) N.impl_wordsOk [.v [.r a0]] = impl_wordsOk_u k a0 := by
  have e0 : evalF E P0 (k + 1) N.impl_wordsOk [.v [.r a0]] = impl_wordsOk_U k a0 (fun v => impl_wordsOk_it1 k a0 [] k (impl_wordsOk_S1 a0 v)) := by kernel_rfl
  have e1 : ∀ (j1 : Nat) (v : Int), impl_wordsOk_it1 k a0 [] (j1 + 1) (impl_wordsOk_S1 a0 v) = impl_wordsOk_L1 k a0 (fun v => impl_wordsOk_it1 k a0 [] j1 (impl_wordsOk_S1 a0 v)) v := by
    intro j1 v; kernel_rfl
  have i1 : ∀ (j1 : Nat) (v : Int), impl_wordsOk_it1 k a0 [] j1 (impl_wordsOk_S1 a0 v) = fixN (impl_wordsOk_l1 k a0) j1 v := by
    intro j1 v
    refine iter_fix (impl_wordsOk_S1 a0) (impl_wordsOk_l1 k a0) (fun j1 v => (e1 j1 v).trans ?_) j1 v
    unfold impl_wordsOk_l1
    rfl
  rw [e0]; unfold impl_wordsOk_u
  simp only [i1]
def impl_digits_u (k : Nat) (a0 : Int) : Option Outs :=
 bindO (evalF E P0 k N.strconv_Itoa [.v [.i a0]]) fun o2 =>
 some ⟨[.s (o2.t 0).asS], []⟩
theorem impl_digits_e (k : Nat) (a0 : Int) : evalF E P0 (k + 1) N.impl_digits [.v [.i a0]] = impl_digits_u k a0 := by kernel_rfl
def impl_WordsText_L1 (k : Nat) (a0 : List (List T)) (G1 : (Int × List (List T)) → Option Outs) : (Int × List (List T)) → Option Outs := fun (v8, w8) =>
 bif (decide (v8 < (a0.length : Int))) then
  chk (decide (0 ≤ v8) && decide (v8 < (a0.length : Int))) <|
  bindO (evalF E P0 k N.impl_digits [.v [.i (at_ a0 v8.toNat 0).asI]]) fun o50 =>
  chk (decide ((w8.length + ([[.s (o50.t 0).asS]] : List (List T)).length) * 16 ≤ 140737488355328)) <|
  G1 ((IntKind.wrap .i64 (v8 + 1)), (w8 ++ ([[.s (o50.t 0).asS]] : List (List T))))
 else
  bindO (evalF E P0 k N.strings_Join [.v [.r w8], .v [.s (ByteArray.mk #[32])]]) fun o52 =>
  some ⟨[.s (o52.t 0).asS], []⟩
def impl_WordsText_k1 : List Nat := [2, 3, 10, 11, 12, 22, 23]
def impl_WordsText_S1 (a0 : List (List T)) : (Int × List (List T)) → St := fun (v8, w8) => ⟨ofSl [(2, .s (ByteArray.mk #[])), (3, .ref (3, 0)), (10, .sl 3 a0), (11, .i .i64 (a0.length : Int)), (12, .i .i64 v8), (22, .skip), (23, .skip)], ofMem [((3, 0), .row 9 true w8)]⟩
def impl_WordsText_l1 (k : Nat) (a0 : List (List T)) (G1 : (Int × List (List T)) → Option Outs) : (Int × List (List T)) → Option Outs :=
  impl_WordsText_L1 k a0 G1
def impl_WordsText_U (k : Nat) (a0 : List (List T)) (R1 : (Int × List (List T)) → Option Outs) : Option Outs :=
 bindO (evalF E P0 k N.impl_wordsOk [.v [.r a0]]) fun o2 =>
 bif (!(o2.t 0).asB) then some ⟨[.s (ByteArray.mk #[])], []⟩ else R1 (0, [])
def impl_WordsText_u (k : Nat) (a0 : List (List T)) : Option Outs :=
  impl_WordsText_U k a0 (fun v => fixN (impl_WordsText_l1 k a0) k v)
def impl_WordsText_it1 (k : Nat) (a0 : List (List T)) (js : List Nat) (j : Nat) (s : St) : Option Outs := iter E (LB E (evalF E P0 k) k [] N.impl_WordsText [.sr, .sr, .sr, .sl, .sr, .bl]) [] impl_WordsText_k1 (LK E (evalF E P0 k) k [] N.impl_WordsText [.v [.r a0]] [.sr, .sr, .sr, .sl, .sr, .bl] js) j s
theorem impl_WordsText_e (k : Nat) (a0 : List (List T)) : evalF E P0 (k + 1) N.impl_WordsText [.v [.r a0]] = impl_WordsText_u k a0 := by
  have e0 : evalF E P0 (k + 1) N.impl_WordsText [.v [.r a0]] = impl_WordsText_U k a0 (fun v => impl_WordsText_it1 k a0 [] k (impl_WordsText_S1 a0 v)) := by kernel_rfl
  have e1 : ∀ (j1 : Nat) (v : Int × List (List T)), impl_WordsText_it1 k a0 [] (j1 + 1) (impl_WordsText_S1 a0 v) = impl_WordsText_L1 k a0 (fun v => impl_WordsText_it1 k a0 [] j1 (impl_WordsText_S1 a0 v)) v := by
    intro j1 v; kernel_rfl
  have i1 : ∀ (j1 : Nat) (v : Int × List (List T)), impl_WordsText_it1 k a0 [] j1 (impl_WordsText_S1 a0 v) = fixN (impl_WordsText_l1 k a0) j1 v := by
    intro j1 v
    refine iter_fix (impl_WordsText_S1 a0) (impl_WordsText_l1 k a0) (fun j1 v => (e1 j1 v).trans ?_) j1 v
    unfold impl_WordsText_l1
    rfl
  rw [e0]; unfold impl_WordsText_u
  simp only [i1]
def laws_eqIntS_L1 (k : Nat) (a0 : List (List T)) (a1 : List (List T)) (G1 : (Int) → Option Outs) : (Int) → Option Outs := fun v8 =>
 bif (decide (v8 < (a0.length : Int))) then
  chk (decide (0 ≤ v8) && decide (v8 < (a0.length : Int))) <|
  chk (decide (0 ≤ v8) && decide (v8 < (a1.length : Int))) <|
  bif ((at_ a0 v8.toNat 0).asI != (at_ a1 v8.toNat 0).asI) then
   some ⟨[.b false], []⟩
  else
   G1 (IntKind.wrap .i64 (v8 + 1))
 else
  some ⟨[.b true], []⟩
def laws_eqIntS_k1 : List Nat := [0, 1, 4, 5]
def laws_eqIntS_S1 (a0 : List (List T)) (a1 : List (List T)) : (Int) → St := fun v8 => ⟨ofSl [(0, .sl 3 a0), (1, .sl 3 a1), (4, .b false), (5, .i .i64 v8)], ofMem []⟩
def laws_eqIntS_l1 (k : Nat) (a0 : List (List T)) (a1 : List (List T)) (G1 : (Int) → Option Outs) : (Int) → Option Outs :=
  laws_eqIntS_L1 k a0 a1 G1
def laws_eqIntS_U (k : Nat) (a0 : List (List T)) (a1 : List (List T)) (R1 : (Int) → Option Outs) : Option Outs :=
 bif ((a0.length : Int) != (a1.length : Int)) then some ⟨[.b false], []⟩ else R1 0
def laws_eqIntS_u (k : Nat) (a0 : List (List T)) (a1 : List (List T)) : Option Outs :=
  laws_eqIntS_U k a0 a1 (fun v => fixN (laws_eqIntS_l1 k a0 a1) k v)
def laws_eqIntS_it1 (k : Nat) (a0 : List (List T)) (a1 : List (List T)) (js : List Nat) (j : Nat) (s : St) : Option Outs := iter E (LB E (evalF E P0 k) k [] N.laws_eqIntS [.sr, .sr, .sl, .sr, .bl]) [] laws_eqIntS_k1 (LK E (evalF E P0 k) k [] N.laws_eqIntS [.v [.r a0], .v [.r a1]] [.sr, .sr, .sl, .sr, .bl] js) j s
theorem laws_eqIntS_e (k : Nat) (a0 : List (List T)) (a1 : List (List T)) : evalF E P0 (k + 1) N.laws_eqIntS [.v [.r a0], .v [.r a1]] = laws_eqIntS_u k a0 a1 := by
  have e0 : evalF E P0 (k + 1) N.laws_eqIntS [.v [.r a0], .v [.r a1]] = laws_eqIntS_U k a0 a1 (fun v => laws_eqIntS_it1 k a0 a1 [] k (laws_eqIntS_S1 a0 a1 v)) := by kernel_rfl
  have e1 : ∀ (j1 : Nat) (v : Int), laws_eqIntS_it1 k a0 a1 [] (j1 + 1) (laws_eqIntS_S1 a0 a1 v) = laws_eqIntS_L1 k a0 a1 (fun v => laws_eqIntS_it1 k a0 a1 [] j1 (laws_eqIntS_S1 a0 a1 v)) v := by
    intro j1 v; kernel_rfl
  have i1 : ∀ (j1 : Nat) (v : Int), laws_eqIntS_it1 k a0 a1 [] j1 (laws_eqIntS_S1 a0 a1 v) = fixN (laws_eqIntS_l1 k a0 a1) j1 v := by
    intro j1 v
    refine iter_fix (laws_eqIntS_S1 a0 a1) (laws_eqIntS_l1 k a0 a1) (fun j1 v => (e1 j1 v).trans ?_) j1 v
    unfold laws_eqIntS_l1
    rfl
  rw [e0]; unfold laws_eqIntS_u
  simp only [i1]
def laws_szIntS_u (k : Nat) (a0 : List (List T)) (a1 : Int) : Option Outs :=
 bif (decide ((IntKind.wrap .i64 (a1 - (a0.length : Int))) < 0)) then
  some ⟨[.i (-1)], []⟩
 else
  some ⟨[.i (IntKind.wrap .i64 (a1 - (a0.length : Int)))], []⟩
theorem laws_szIntS_e (k : Nat) (a0 : List (List T)) (a1 : Int) : evalF E P0 (k + 1) N.laws_szIntS [.v [.r a0], .v [.i a1]] = laws_szIntS_u k a0 a1 := by kernel_rfl
def laws_szCmd_u (k : Nat) (a0_0 : Int) (a0_1 : Int) (a0_2 : Int) (a0_3 : Int) (a0_4 : List (List T)) (a1 : Int) : Option Outs :=
 bindO (evalF E P0 k N.laws_szIntS [.v [.r a0_4], .v [.i a1]]) fun o2 =>
 bif (decide ((o2.t 0).asI < 0)) then some ⟨[.i (-1)], []⟩ else some ⟨[.i (o2.t 0).asI], []⟩
theorem laws_szCmd_e (k : Nat) (a0_0 : Int) (a0_1 : Int) (a0_2 : Int) (a0_3 : Int) (a0_4 : List (List T)) (a1 : Int) : evalF E P0 (k + 1) N.laws_szCmd [.v [.i a0_0, .i a0_1, .i a0_2, .i a0_3, .r a0_4], .v [.i a1]] = laws_szCmd_u k a0_0 a0_1 a0_2 a0_3 a0_4 a1 := by kernel_rfl
def laws_toCmd_u (k : Nat) (a0_0 : Int) (a0_1 : Int) (a0_2 : Int) (a0_3 : Int) (a0_4 : List (List T)) : Option Outs :=
 bindO (evalF E P0 k N.laws_toIntS [.v [.r a0_4]]) fun o2 =>
 some ⟨[.i a0_0, .i a0_1, .i a0_2, .i a0_3, .r (o2.t 0).asR], []⟩
theorem laws_toCmd_e (k : Nat) (a0_0 : Int) (a0_1 : Int) (a0_2 : Int) (a0_3 : Int) (a0_4 : List (List T)) : evalF E P0 (k + 1) N.laws_toCmd [.v [.i a0_0, .i a0_1, .i a0_2, .i a0_3, .r a0_4]] = laws_toCmd_u k a0_0 a0_1 a0_2 a0_3 a0_4 := by kernel_rfl
def spec_PutCmd_J1 (k : Nat) (a0_0 : Int) (a0_1 : Int) (a0_2 : Int) (a0_3 : Int) (a0_4 : List (List T)) (c1 : Bool) : Option Outs :=
 bif c1 then
  some ⟨[.r []], []⟩
 else
  some ⟨[.r (([[.i a0_0], [.i a0_1], [.i a0_2], [.i a0_3], [.i (a0_4.length : Int)]] : List (List T)) ++ a0_4)], []⟩
def spec_PutCmd_u (k : Nat) (a0_0 : Int) (a0_1 : Int) (a0_2 : Int) (a0_3 : Int) (a0_4 : List (List T)) : Option Outs :=
 chk (decide ((([[.i a0_0], [.i a0_1], [.i a0_2], [.i a0_3], [.i (a0_4.length : Int)]] : List (List T)).length + a0_4.length) * 8 ≤ 140737488355328)) <|
 bindO (evalF E P0 k N.spec_l1In [.v [.i a0_0], .v [.i 1], .v [.i 6]]) fun o3 =>
 bif (!(o3.t 0).asB) then
  spec_PutCmd_J1 k a0_0 a0_1 a0_2 a0_3 a0_4 true
 else
  bindO (evalF E P0 k N.spec_l1Words [.v [.r (([[.i a0_0], [.i a0_1], [.i a0_2], [.i a0_3], [.i (a0_4.length : Int)]] : List (List T)) ++ a0_4)]]) fun o4 =>
  bif (!(o4.t 0).asB) then
   spec_PutCmd_J1 k a0_0 a0_1 a0_2 a0_3 a0_4 true
  else
   spec_PutCmd_J1 k a0_0 a0_1 a0_2 a0_3 a0_4 (decide ((a0_4.length : Int) > 6))
theorem spec_PutCmd_e (k : Nat) (a0_0 : Int) (a0_1 : Int) (a0_2 : Int) (a0_3 : Int) (a0_4 : List (List T)) : evalF E P0 (k + 1) N.spec_PutCmd [.v [.i a0_0, .i a0_1, .i a0_2, .i a0_3, .r a0_4]] = spec_PutCmd_u k a0_0 a0_1 a0_2 a0_3 a0_4 := by kernel_rfl
def spec_l22Op_u (k : Nat) (a0 : Int) : Option Outs :=
 chk (decide (0 ≤ a0) && decide (a0 < (([[.s (ByteArray.mk #[])], [.s (ByteArray.mk #[114, 101, 97, 100])], [.s (ByteArray.mk #[119, 114, 105, 116, 101])], [.s (ByteArray.mk #[102, 117, 97])], [.s (ByteArray.mk #[102, 108, 117, 115, 104])], [.s (ByteArray.mk #[99, 111, 109, 112, 97, 114, 101])], [.s (ByteArray.mk #[122, 101, 114, 111])]] : List (List T)).length : Int))) <|
 some ⟨[.s (at_ [[.s (ByteArray.mk #[])], [.s (ByteArray.mk #[114, 101, 97, 100])], [.s (ByteArray.mk #[119, 114, 105, 116, 101])], [.s (ByteArray.mk #[102, 117, 97])], [.s (ByteArray.mk #[102, 108, 117, 115, 104])], [.s (ByteArray.mk #[99, 111, 109, 112, 97, 114, 101])], [.s (ByteArray.mk #[122, 101, 114, 111])]] a0.toNat 0).asS], []⟩
theorem spec_l22Op_e (k : Nat) (a0 : Int) : evalF E P0 (k + 1) N.spec_l22Op [.v [.i a0]] = spec_l22Op_u k a0 := by kernel_rfl
def spec_CmdText_L1 (k : Nat) (a0_0 : Int) (a0_1 : Int) (a0_2 : Int) (a0_3 : Int) (a0_4 : List (List T)) (G1 : (ByteArray × Int) → Option Outs) : (ByteArray × Int) → Option Outs := fun (t8, v8) =>
 bif (decide (v8 < (a0_4.length : Int))) then
  chk (Nat.ble (t8.size + (ByteArray.mk #[32]).size) 9223372036854775807) <|
  chk (decide (0 ≤ v8) && decide (v8 < (a0_4.length : Int))) <|
  bindO (evalF E P0 k N.spec_l22Num [.v [.i (at_ a0_4 v8.toNat 0).asI]]) fun o60 =>
  chk (Nat.ble ((t8 ++ (ByteArray.mk #[32])).size + (o60.t 0).asS.size) 9223372036854775807) <|
  G1 (((t8 ++ (ByteArray.mk #[32])) ++ (o60.t 0).asS), (IntKind.wrap .i64 (v8 + 1)))
 else
  some ⟨[.s t8], []⟩
def spec_CmdText_k1 : List Nat := [1, 2, 3, 4, 57]
def spec_CmdText_S1 (a0_0 : Int) (a0_1 : Int) (a0_2 : Int) (a0_3 : Int) (a0_4 : List (List T)) : (ByteArray × Int) → St := fun (t8, v8) => ⟨ofSl [(1, .ptr (1, 0) 0), (2, .s (ByteArray.mk #[])), (3, .s t8), (4, .i .i64 v8), (57, .skip)], ofMem [((1, 0), .var [.i .i64 a0_0, .i .i64 a0_1, .i .i64 a0_2, .i .i64 a0_3, .sl 3 a0_4])]⟩
def spec_CmdText_J1 (k : Nat) (a0_3 : Int) (o5 : Outs) (o6 : Outs) (o8 : Outs) (R1 : (ByteArray × Int) → Option Outs) (c1 : Bool) : Option Outs :=
 bif c1 then
  chk (Nat.ble ((((((o5.t 0).asS ++ (ByteArray.mk #[32])) ++ (o6.t 0).asS) ++ (ByteArray.mk #[32])) ++ (o8.t 0).asS).size + (ByteArray.mk #[32]).size) 9223372036854775807) <|
  bindO (evalF E P0 k N.spec_l22Num [.v [.i a0_3]]) fun o12 =>
  chk (Nat.ble (((((((o5.t 0).asS ++ (ByteArray.mk #[32])) ++ (o6.t 0).asS) ++ (ByteArray.mk #[32])) ++ (o8.t 0).asS) ++ (ByteArray.mk #[32])).size + (o12.t 0).asS.size) 9223372036854775807) <|
  some ⟨[.s (((((((o5.t 0).asS ++ (ByteArray.mk #[32])) ++ (o6.t 0).asS) ++ (ByteArray.mk #[32])) ++ (o8.t 0).asS) ++ (ByteArray.mk #[32])) ++ (o12.t 0).asS)], []⟩
 else
  R1 ((((((o5.t 0).asS ++ (ByteArray.mk #[32])) ++ (o6.t 0).asS) ++ (ByteArray.mk #[32])) ++ (o8.t 0).asS), 0)
def spec_CmdText_l1 (k : Nat) (a0_0 : Int) (a0_1 : Int) (a0_2 : Int) (a0_3 : Int) (a0_4 : List (List T)) (G1 : (ByteArray × Int) → Option Outs) : (ByteArray × Int) → Option Outs :=
  spec_CmdText_L1 k a0_0 a0_1 a0_2 a0_3 a0_4 G1
def spec_CmdText_U (k : Nat) (a0_0 : Int) (a0_1 : Int) (a0_2 : Int) (a0_3 : Int) (a0_4 : List (List T)) (R1 : (ByteArray × Int) → Option Outs) : Option Outs :=
 bindO (evalF E P0 k N.spec_PutCmd [.v [.i a0_0, .i a0_1, .i a0_2, .i a0_3, .r a0_4]]) fun o2 =>
 bif (((o2.t 0).asR.length : Int) == 0) then
  some ⟨[.s (ByteArray.mk #[])], []⟩
 else
  bindO (evalF E P0 k N.spec_l22Op [.v [.i a0_0]]) fun o5 =>
  chk (Nat.ble ((o5.t 0).asS.size + (ByteArray.mk #[32]).size) 9223372036854775807) <|
  bindO (evalF E P0 k N.spec_l22Num [.v [.i a0_1]]) fun o6 =>
  chk (Nat.ble (((o5.t 0).asS ++ (ByteArray.mk #[32])).size + (o6.t 0).asS.size) 9223372036854775807) <|
  bif (a0_0 == 4) then
   some ⟨[.s (((o5.t 0).asS ++ (ByteArray.mk #[32])) ++ (o6.t 0).asS)], []⟩
  else
   chk (Nat.ble ((((o5.t 0).asS ++ (ByteArray.mk #[32])) ++ (o6.t 0).asS).size + (ByteArray.mk #[32]).size) 9223372036854775807) <|
   bindO (evalF E P0 k N.spec_l22Num [.v [.i a0_2]]) fun o8 =>
   chk (Nat.ble (((((o5.t 0).asS ++ (ByteArray.mk #[32])) ++ (o6.t 0).asS) ++ (ByteArray.mk #[32])).size + (o8.t 0).asS.size) 9223372036854775807) <|
   bif (a0_0 == 1) then spec_CmdText_J1 k a0_3 o5 o6 o8 R1 true else spec_CmdText_J1 k a0_3 o5 o6 o8 R1 (a0_0 == 6)
def spec_CmdText_u (k : Nat) (a0_0 : Int) (a0_1 : Int) (a0_2 : Int) (a0_3 : Int) (a0_4 : List (List T)) : Option Outs :=
  spec_CmdText_U k a0_0 a0_1 a0_2 a0_3 a0_4 (fun v => fixN (spec_CmdText_l1 k a0_0 a0_1 a0_2 a0_3 a0_4) k v)
def spec_CmdText_it1 (k : Nat) (a0_0 : Int) (a0_1 : Int) (a0_2 : Int) (a0_3 : Int) (a0_4 : List (List T)) (js : List Nat) (j : Nat) (s : St) : Option Outs := iter E (LB E (evalF E P0 k) k [] N.spec_CmdText [.sr, .sr, .sr, .sr, .sr, .sr, .sl, .sr, .bl]) [] spec_CmdText_k1 (LK E (evalF E P0 k) k [] N.spec_CmdText [.v [.i a0_0, .i a0_1, .i a0_2, .i a0_3, .r a0_4]] [.sr, .sr, .sr, .sr, .sr, .sr, .sl, .sr, .bl] js) j s
theorem spec_CmdText_e (k : Nat) (a0_0 : Int) (a0_1 : Int) (a0_2 : Int) (a0_3 : Int) (a0_4 : List (List T)) : evalF E P0 (k + 1) N.spec_CmdText [.v [.i a0_0, .i a0_1, .i a0_2, .i a0_3, .r a0_4]] = spec_CmdText_u k a0_0 a0_1 a0_2 a0_3 a0_4 := by
  have e0 : evalF E P0 (k + 1) N.spec_CmdText [.v [.i a0_0, .i a0_1, .i a0_2, .i a0_3, .r a0_4]] = spec_CmdText_U k a0_0 a0_1 a0_2 a0_3 a0_4 (fun v => spec_CmdText_it1 k a0_0 a0_1 a0_2 a0_3 a0_4 [] k (spec_CmdText_S1 a0_0 a0_1 a0_2 a0_3 a0_4 v)) := by kernel_rfl
  have e1 : ∀ (j1 : Nat) (v : ByteArray × Int), spec_CmdText_it1 k a0_0 a0_1 a0_2 a0_3 a0_4 [] (j1 + 1) (spec_CmdText_S1 a0_0 a0_1 a0_2 a0_3 a0_4 v) = spec_CmdText_L1 k a0_0 a0_1 a0_2 a0_3 a0_4 (fun v => spec_CmdText_it1 k a0_0 a0_1 a0_2 a0_3 a0_4 [] j1 (spec_CmdText_S1 a0_0 a0_1 a0_2 a0_3 a0_4 v)) v := by
    intro j1 v; kernel_rfl
  have i1 : ∀ (j1 : Nat) (v : ByteArray × Int), spec_CmdText_it1 k a0_0 a0_1 a0_2 a0_3 a0_4 [] j1 (spec_CmdText_S1 a0_0 a0_1 a0_2 a0_3 a0_4 v) = fixN (spec_CmdText_l1 k a0_0 a0_1 a0_2 a0_3 a0_4) j1 v := by
    intro j1 v
    refine iter_fix (spec_CmdText_S1 a0_0 a0_1 a0_2 a0_3 a0_4) (spec_CmdText_l1 k a0_0 a0_1 a0_2 a0_3 a0_4) (fun j1 v => (e1 j1 v).trans ?_) j1 v
    unfold spec_CmdText_l1
    rfl
  rw [e0]; unfold spec_CmdText_u
  simp only [i1]
def impl_PutCmd_J1 (k : Nat) (a0_0 : Int) (a0_1 : Int) (a0_2 : Int) (a0_3 : Int) (a0_4 : List (List T)) (c1 : Bool) : Option Outs :=
 bif c1 then
  some ⟨[.r []], []⟩
 else
  some ⟨[.r (([[.i a0_0], [.i a0_1], [.i a0_2], [.i a0_3], [.i (a0_4.length : Int)]] : List (List T)) ++ a0_4)], []⟩
def impl_PutCmd_u (k : Nat) (a0_0 : Int) (a0_1 : Int) (a0_2 : Int) (a0_3 : Int) (a0_4 : List (List T)) : Option Outs :=
 chk (decide ((([[.i a0_0], [.i a0_1], [.i a0_2], [.i a0_3], [.i (a0_4.length : Int)]] : List (List T)).length + a0_4.length) * 8 ≤ 140737488355328)) <|
 bindO (evalF E P0 k N.impl_within [.v [.i a0_0], .v [.i 1], .v [.i 6]]) fun o3 =>
 bif (!(o3.t 0).asB) then
  impl_PutCmd_J1 k a0_0 a0_1 a0_2 a0_3 a0_4 true
 else
  bif (decide ((a0_4.length : Int) > 6)) then
   impl_PutCmd_J1 k a0_0 a0_1 a0_2 a0_3 a0_4 true
  else
   bindO (evalF E P0 k N.impl_wordsOk [.v [.r (([[.i a0_0], [.i a0_1], [.i a0_2], [.i a0_3], [.i (a0_4.length : Int)]] : List (List T)) ++ a0_4)]]) fun o4 =>
   impl_PutCmd_J1 k a0_0 a0_1 a0_2 a0_3 a0_4 (!(o4.t 0).asB)
theorem impl_PutCmd_e (k : Nat) (a0_0 : Int) (a0_1 : Int) (a0_2 : Int) (a0_3 : Int) (a0_4 : List (List T)) : evalF E P0 (k + 1) N.impl_PutCmd [.v [.i a0_0, .i a0_1, .i a0_2, .i a0_3, .r a0_4]] = impl_PutCmd_u k a0_0 a0_1 a0_2 a0_3 a0_4 := by kernel_rfl
def impl_CmdText_J2 (k : Nat) (a0_0 : Int) (a0_1 : Int) (a0_2 : Int) (a0_4 : List (List T)) (c8 : Bool) : Option Outs :=
 bif c8 then
  chk (decide (((([[.i a0_1]] : List (List T)) ++ ([[.i a0_2]] : List (List T))).length + a0_4.length) * 8 ≤ 140737488355328)) <|
  chk (decide (0 ≤ (IntKind.wrap .i64 (a0_0 - 1))) && decide ((IntKind.wrap .i64 (a0_0 - 1)) < (([[.s (ByteArray.mk #[114, 101, 97, 100])], [.s (ByteArray.mk #[119, 114, 105, 116, 101])], [.s (ByteArray.mk #[102, 117, 97])], [.s (ByteArray.mk #[102, 108, 117, 115, 104])], [.s (ByteArray.mk #[99, 111, 109, 112, 97, 114, 101])], [.s (ByteArray.mk #[122, 101, 114, 111])]] : List (List T)).length : Int))) <|
  chk (Nat.ble ((at_ [[.s (ByteArray.mk #[114, 101, 97, 100])], [.s (ByteArray.mk #[119, 114, 105, 116, 101])], [.s (ByteArray.mk #[102, 117, 97])], [.s (ByteArray.mk #[102, 108, 117, 115, 104])], [.s (ByteArray.mk #[99, 111, 109, 112, 97, 114, 101])], [.s (ByteArray.mk #[122, 101, 114, 111])]] (IntKind.wrap .i64 (a0_0 - 1)).toNat 0).asS.size + (ByteArray.mk #[32]).size) 9223372036854775807) <|
  bindO (evalF E P0 k N.impl_WordsText [.v [.r ((([[.i a0_1]] : List (List T)) ++ ([[.i a0_2]] : List (List T))) ++ a0_4)]]) fun o6 =>
  chk (Nat.ble (((at_ [[.s (ByteArray.mk #[114, 101, 97, 100])], [.s (ByteArray.mk #[119, 114, 105, 116, 101])], [.s (ByteArray.mk #[102, 117, 97])], [.s (ByteArray.mk #[102, 108, 117, 115, 104])], [.s (ByteArray.mk #[99, 111, 109, 112, 97, 114, 101])], [.s (ByteArray.mk #[122, 101, 114, 111])]] (IntKind.wrap .i64 (a0_0 - 1)).toNat 0).asS ++ (ByteArray.mk #[32])).size + (o6.t 0).asS.size) 9223372036854775807) <|
  some ⟨[.s (((at_ [[.s (ByteArray.mk #[114, 101, 97, 100])], [.s (ByteArray.mk #[119, 114, 105, 116, 101])], [.s (ByteArray.mk #[102, 117, 97])], [.s (ByteArray.mk #[102, 108, 117, 115, 104])], [.s (ByteArray.mk #[99, 111, 109, 112, 97, 114, 101])], [.s (ByteArray.mk #[122, 101, 114, 111])]] (IntKind.wrap .i64 (a0_0 - 1)).toNat 0).asS ++ (ByteArray.mk #[32])) ++ (o6.t 0).asS)], []⟩
 else
  chk (decide (0 ≤ (IntKind.wrap .i64 (a0_0 - 1))) && decide ((IntKind.wrap .i64 (a0_0 - 1)) < (([[.s (ByteArray.mk #[114, 101, 97, 100])], [.s (ByteArray.mk #[119, 114, 105, 116, 101])], [.s (ByteArray.mk #[102, 117, 97])], [.s (ByteArray.mk #[102, 108, 117, 115, 104])], [.s (ByteArray.mk #[99, 111, 109, 112, 97, 114, 101])], [.s (ByteArray.mk #[122, 101, 114, 111])]] : List (List T)).length : Int))) <|
  chk (Nat.ble ((at_ [[.s (ByteArray.mk #[114, 101, 97, 100])], [.s (ByteArray.mk #[119, 114, 105, 116, 101])], [.s (ByteArray.mk #[102, 117, 97])], [.s (ByteArray.mk #[102, 108, 117, 115, 104])], [.s (ByteArray.mk #[99, 111, 109, 112, 97, 114, 101])], [.s (ByteArray.mk #[122, 101, 114, 111])]] (IntKind.wrap .i64 (a0_0 - 1)).toNat 0).asS.size + (ByteArray.mk #[32]).size) 9223372036854775807) <|
  bindO (evalF E P0 k N.impl_WordsText [.v [.r [[.i a0_1]]]]) fun o8 =>
  chk (Nat.ble (((at_ [[.s (ByteArray.mk #[114, 101, 97, 100])], [.s (ByteArray.mk #[119, 114, 105, 116, 101])], [.s (ByteArray.mk #[102, 117, 97])], [.s (ByteArray.mk #[102, 108, 117, 115, 104])], [.s (ByteArray.mk #[99, 111, 109, 112, 97, 114, 101])], [.s (ByteArray.mk #[122, 101, 114, 111])]] (IntKind.wrap .i64 (a0_0 - 1)).toNat 0).asS ++ (ByteArray.mk #[32])).size + (o8.t 0).asS.size) 9223372036854775807) <|
  some ⟨[.s (((at_ [[.s (ByteArray.mk #[114, 101, 97, 100])], [.s (ByteArray.mk #[119, 114, 105, 116, 101])], [.s (ByteArray.mk #[102, 117, 97])], [.s (ByteArray.mk #[102, 108, 117, 115, 104])], [.s (ByteArray.mk #[99, 111, 109, 112, 97, 114, 101])], [.s (ByteArray.mk #[122, 101, 114, 111])]] (IntKind.wrap .i64 (a0_0 - 1)).toNat 0).asS ++ (ByteArray.mk #[32])) ++ (o8.t 0).asS)], []⟩
def impl_CmdText_J1 (k : Nat) (a0_0 : Int) (a0_1 : Int) (a0_2 : Int) (a0_3 : Int) (a0_4 : List (List T)) (c7 : Bool) : Option Outs :=
 bif c7 then
  chk (decide (0 ≤ (IntKind.wrap .i64 (a0_0 - 1))) && decide ((IntKind.wrap .i64 (a0_0 - 1)) < (([[.s (ByteArray.mk #[114, 101, 97, 100])], [.s (ByteArray.mk #[119, 114, 105, 116, 101])], [.s (ByteArray.mk #[102, 117, 97])], [.s (ByteArray.mk #[102, 108, 117, 115, 104])], [.s (ByteArray.mk #[99, 111, 109, 112, 97, 114, 101])], [.s (ByteArray.mk #[122, 101, 114, 111])]] : List (List T)).length : Int))) <|
  chk (Nat.ble ((at_ [[.s (ByteArray.mk #[114, 101, 97, 100])], [.s (ByteArray.mk #[119, 114, 105, 116, 101])], [.s (ByteArray.mk #[102, 117, 97])], [.s (ByteArray.mk #[102, 108, 117, 115, 104])], [.s (ByteArray.mk #[99, 111, 109, 112, 97, 114, 101])], [.s (ByteArray.mk #[122, 101, 114, 111])]] (IntKind.wrap .i64 (a0_0 - 1)).toNat 0).asS.size + (ByteArray.mk #[32]).size) 9223372036854775807) <|
  bindO (evalF E P0 k N.impl_WordsText [.v [.r (([[.i a0_1]] : List (List T)) ++ ([[.i a0_2], [.i a0_3]] : List (List T)))]]) fun o4 =>
  chk (Nat.ble (((at_ [[.s (ByteArray.mk #[114, 101, 97, 100])], [.s (ByteArray.mk #[119, 114, 105, 116, 101])], [.s (ByteArray.mk #[102, 117, 97])], [.s (ByteArray.mk #[102, 108, 117, 115, 104])], [.s (ByteArray.mk #[99, 111, 109, 112, 97, 114, 101])], [.s (ByteArray.mk #[122, 101, 114, 111])]] (IntKind.wrap .i64 (a0_0 - 1)).toNat 0).asS ++ (ByteArray.mk #[32])).size + (o4.t 0).asS.size) 9223372036854775807) <|
  some ⟨[.s (((at_ [[.s (ByteArray.mk #[114, 101, 97, 100])], [.s (ByteArray.mk #[119, 114, 105, 116, 101])], [.s (ByteArray.mk #[102, 117, 97])], [.s (ByteArray.mk #[102, 108, 117, 115, 104])], [.s (ByteArray.mk #[99, 111, 109, 112, 97, 114, 101])], [.s (ByteArray.mk #[122, 101, 114, 111])]] (IntKind.wrap .i64 (a0_0 - 1)).toNat 0).asS ++ (ByteArray.mk #[32])) ++ (o4.t 0).asS)], []⟩
 else
  bif (a0_0 == 2) then
   impl_CmdText_J2 k a0_0 a0_1 a0_2 a0_4 true
  else
   bif (a0_0 == 3) then
    impl_CmdText_J2 k a0_0 a0_1 a0_2 a0_4 true
   else
    impl_CmdText_J2 k a0_0 a0_1 a0_2 a0_4 (a0_0 == 5)
def impl_CmdText_u (k : Nat) (a0_0 : Int) (a0_1 : Int) (a0_2 : Int) (a0_3 : Int) (a0_4 : List (List T)) : Option Outs :=
 bindO (evalF E P0 k N.impl_PutCmd [.v [.i a0_0, .i a0_1, .i a0_2, .i a0_3, .r a0_4]]) fun o2 =>
 bif (((o2.t 0).asR.length : Int) == 0) then
  some ⟨[.s (ByteArray.mk #[])], []⟩
 else
  bif (a0_0 == 1) then
   impl_CmdText_J1 k a0_0 a0_1 a0_2 a0_3 a0_4 true
  else
   impl_CmdText_J1 k a0_0 a0_1 a0_2 a0_3 a0_4 (a0_0 == 6)
theorem impl_CmdText_e (k : Nat) (a0_0 : Int) (a0_1 : Int) (a0_2 : Int) (a0_3 : Int) (a0_4 : List (List T)) : evalF E P0 (k + 1) N.impl_CmdText [.v [.i a0_0, .i a0_1, .i a0_2, .i a0_3, .r a0_4]] = impl_CmdText_u k a0_0 a0_1 a0_2 a0_3 a0_4 := by kernel_rfl
def laws_eqCmd_u (k : Nat) (a0_0 : Int) (a0_1 : Int) (a0_2 : Int) (a0_3 : Int) (a0_4 : List (List T)) (a1_0 : Int) (a1_1 : Int) (a1_2 : Int) (a1_3 : Int) (a1_4 : List (List T)) : Option Outs :=
 bif (a0_0 != a1_0) then
  some ⟨[.b false], []⟩
 else
  bif (a0_1 != a1_1) then
   some ⟨[.b false], []⟩
  else
   bif (a0_2 != a1_2) then
    some ⟨[.b false], []⟩
   else
    bif (a0_3 != a1_3) then
     some ⟨[.b false], []⟩
    else
     bindO (evalF E P0 k N.laws_eqIntS [.v [.r a0_4], .v [.r a1_4]]) fun o2 =>
     bif (!(o2.t 0).asB) then some ⟨[.b false], []⟩ else some ⟨[.b true], []⟩
theorem laws_eqCmd_e (k : Nat) (a0_0 : Int) (a0_1 : Int) (a0_2 : Int) (a0_3 : Int) (a0_4 : List (List T)) (a1_0 : Int) (a1_1 : Int) (a1_2 : Int) (a1_3 : Int) (a1_4 : List (List T)) : evalF E P0 (k + 1) N.laws_eqCmd [.v [.i a0_0, .i a0_1, .i a0_2, .i a0_3, .r a0_4], .v [.i a1_0, .i a1_1, .i a1_2, .i a1_3, .r a1_4]] = laws_eqCmd_u k a0_0 a0_1 a0_2 a0_3 a0_4 a1_0 a1_1 a1_2 a1_3 a1_4 := by kernel_rfl
def laws_FnExactCmdText_u (k : Nat) (a0_0 : Int) (a0_1 : Int) (a0_2 : Int) (a0_3 : Int) (a0_4 : List (List T)) : Option Outs :=
 bindO (evalF E P0 k N.laws_szCmd [.v [.i a0_0, .i a0_1, .i a0_2, .i a0_3, .r a0_4], .v [.i 1048576]]) fun o2 =>
 bif (decide ((o2.t 0).asI < 0)) then
  some ⟨[.b true], []⟩
 else
  bindO (evalF E P0 k N.laws_toCmd [.v [.i a0_0, .i a0_1, .i a0_2, .i a0_3, .r a0_4]]) fun o5 =>
  bindO (evalF E P0 k N.spec_CmdText [.v [.i (o5.t 0).asI, .i (o5.t 1).asI, .i (o5.t 2).asI, .i (o5.t 3).asI, .r (o5.t 4).asR]]) fun o6 =>
  bindO (evalF E P0 k N.laws_toCmd [.v [.i a0_0, .i a0_1, .i a0_2, .i a0_3, .r a0_4]]) fun o8 =>
  bindO (evalF E P0 k N.impl_CmdText [.v [.i (o8.t 0).asI, .i (o8.t 1).asI, .i (o8.t 2).asI, .i (o8.t 3).asI, .r (o8.t 4).asR]]) fun o10 =>
  bif (!((o10.t 0).asS.toList == (o6.t 0).asS.toList)) then
   some ⟨[.b false], []⟩
  else
   bindO (evalF E P0 k N.laws_toCmd [.v [.i a0_0, .i a0_1, .i a0_2, .i a0_3, .r a0_4]]) fun o13 =>
   bindO (evalF E P0 k N.laws_eqCmd [.v [.i (o8.t 0).asI, .i (o8.t 1).asI, .i (o8.t 2).asI, .i (o8.t 3).asI, .r (o8.t 4).asR], .v [.i (o13.t 0).asI, .i (o13.t 1).asI, .i (o13.t 2).asI, .i (o13.t 3).asI, .r (o13.t 4).asR]]) fun o14 =>
   bif (!(o14.t 0).asB) then some ⟨[.b false], []⟩ else some ⟨[.b true], []⟩
theorem laws_FnExactCmdText_e (k : Nat) (a0_0 : Int) (a0_1 : Int) (a0_2 : Int) (a0_3 : Int) (a0_4 : List (List T)) : evalF E P0 (k + 1) N.laws_FnExactCmdText [.v [.i a0_0, .i a0_1, .i a0_2, .i a0_3, .r a0_4]] = laws_FnExactCmdText_u k a0_0 a0_1 a0_2 a0_3 a0_4 := by kernel_rfl
end
end Go.Proofs.YtbmkpnabhodggaaDoor.Ev
