/- parseWord at this seat, walked by its text over the shelf's contracts. Of the world as of a premise: the table of powers of ten; what ErrSyntax and ErrRange hold is an interface value. -/
import Derived.Test.YtbmkpnabhodggaaDoorEvYc
import Derived.Test.YtbmkpnabhodggaaDoorProg
import Derived.Ground.NamesProg
import Derived.Shelf.Lay
import Derived.Shelf.LaysM
import Derived.Shelf.Strconv.Itoa3
import Derived.Lib.AppendIntMem
import Derived.WalkKit
import Derived.Shelf.Strconv.AtoiAll
namespace Go.Proofs
open Go.Shelf Go.RowKit
set_option maxRecDepth 100000
shelf_lay LaysC.n172 Nm 172 at Tryd as Tryd.laysAtoi
shelf_lay LaysM.n171 Nm 171 at Tryd as Tryd.laysItoaP
end Go.Proofs
namespace Go.Proofs.YtbmkpnabhodggaaDoor.Ev
open Go Go.Proofs Go.RowKit
set_option linter.unusedVariables false
set_option maxRecDepth 100000
set_option maxHeartbeats 4000000
theorem nAtoi : Tryd.laysAtoi_ren.f 172 = 48 := by kernel_rfl
theorem nItoaP : Tryd.laysItoaP_ren.f 171 = 42 := by kernel_rfl
theorem gSyn : Tryd.laysAtoi_ren.g 15 = 1 := by kernel_rfl
theorem gRng : Tryd.laysAtoi_ren.g 16 = 2 := by kernel_rfl
theorem bytes_below {w w1 : World} {e : TypeId} (h : w1 = w ∨ ∃ t, w1 = Lib.bytesWorld w e t) : Below w.heap.size w w1 := by
  rcases h with rfl | ⟨t, rfl⟩
  · exact Below.refl _ _
  · exact Lib.bytesWorld_below _ _ _
theorem pw_ok0 (q1 : Int) (q2 : Bool) (s : ByteArray) (v : Int) (hp : (q1, q2) = bif (decide (0 ≤ v) && decide (v ≤ 65535)) && (Lib.itoa v == s.toList) then (v, true) else (0, false)) (hl : s.size ≤ 9223372036854775806) (h : Lib.atoiAll s.data.toList = .ok v) (w : World) (htab : ∀ w', Below w.heap.size w w' → Lib.TabIs Tryd.prog w' "internal/strconv.uint64pow10" .u64 Lib.pow10Tab) :
    Calls Tryd.prog 39 #[.string s] w fun e w' => e = .returned (.tuple #[.int .i64 q1, .bool q2]) ∧ Below w.heap.size w w' := by
  obtain ⟨vb0, vb1⟩ := Lib.atoiAll_bounds h
  have cA := Any.strconv_Atoi_ok Tryd.laysAtoi s hl v h w
  rw [nAtoi] at cA
  have cI := fun w1 hb => Any.strconv_Itoa Tryd.laysItoaP v vb0 vb1 w1 (htab w1 hb)
  rw [nItoaP] at cI
  go_enter Tryd.func39, Tryd.ntmps39
  go_wp2_with (first
    | (go_at_call 48; refine cA.mono ?_; rintro e w1 ⟨rfl, hw1⟩; have hB1 : Below w.heap.size w w1 := bytes_below hw1)
    | (go_at_call 42; refine (cI _ hB1).mono ?_; rintro e w2 ⟨rfl, k, os, rfl⟩)
    | go_in)
  · have h1 : 0 ≤ v := by assumption
    have h2 : v ≤ 65535 := by assumption
    have h3 : (!Lib.itoa v == s.toList) = true := by assumption
    go_ret2
    refine ⟨?_, hB1.trans (Lib.below_grow _ _ (hB1.size) _ _)⟩
    rw [decide_eq_true h1, decide_eq_true h2, show (Lib.itoa v == s.toList) = false by simpa using h3] at hp; cases hp; rfl
  · have h1 : 0 ≤ v := by assumption
    have h2 : v ≤ 65535 := by assumption
    have h3 : (!Lib.itoa v == s.toList) = false := by assumption
    go_ret2
    refine ⟨?_, hB1.trans (Lib.below_grow _ _ (hB1.size) _ _)⟩
    rw [decide_eq_true h1, decide_eq_true h2, show (Lib.itoa v == s.toList) = true by simpa using h3] at hp; cases hp; rfl
  · have h1 : 65535 < v := by assumption
    go_ret2
    refine ⟨?_, hB1⟩
    rw [decide_eq_false (show ¬ v ≤ 65535 by omega), Bool.and_false] at hp; cases hp; rfl
  · have h1 : v < 0 := by assumption
    go_ret2
    refine ⟨?_, hB1⟩
    rw [decide_eq_false (show ¬ 0 ≤ v by omega)] at hp; cases hp; rfl
theorem pw_ok (s : ByteArray) (v : Int) (hl : s.size ≤ 9223372036854775806) (h : Lib.atoiAll s.data.toList = .ok v) (w : World) (htab : ∀ w', Below w.heap.size w w' → Lib.TabIs Tryd.prog w' "internal/strconv.uint64pow10" .u64 Lib.pow10Tab) :
    Calls Tryd.prog 39 #[.string s] w fun e w' => e = .returned (.tuple #[.int .i64 (pwT s).1, .bool (pwT s).2]) ∧ Below w.heap.size w w' :=
  pw_ok0 _ _ s v (by unfold pwT; rw [h]) hl h w htab
theorem pw_syn (s : ByteArray) (hl : s.size ≤ 281474976710656) (h : Lib.atoiAll s.data.toList = .«syntax») (w : World) (hv : ∃ te pe, w.cell? ⟨1, 0, none⟩ = some (.iface te pe)) :
    Calls Tryd.prog 39 #[.string s] w fun e w' => e = .returned (.tuple #[.int .i64 (pwT s).1, .bool (pwT s).2]) ∧ Below w.heap.size w w' := by
  obtain ⟨te, pe, hv⟩ := hv
  have cA := Any.strconv_Atoi_syntax Tryd.laysAtoi s hl h (.iface te pe) w (by rw [gSyn]; exact hv) (.inr ⟨te, pe, rfl⟩)
  rw [nAtoi] at cA
  have hp : pwT s = (0, false) := by unfold pwT; rw [h]
  rw [hp]
  go_enter Tryd.func39, Tryd.ntmps39
  go_wp2_with (first
    | (go_at_call 48; refine cA.mono ?_; rintro e w1 ⟨N, rfl, _, _, hB1⟩)
    | go_in)
  go_ret2
  exact ⟨rfl, hB1⟩
theorem pw_rng (s : ByteArray) (hl : s.size ≤ 281474976710656) (h : Lib.atoiAll s.data.toList = .range) (w : World) (hv : ∃ te pe, w.cell? ⟨2, 0, none⟩ = some (.iface te pe)) :
    Calls Tryd.prog 39 #[.string s] w fun e w' => e = .returned (.tuple #[.int .i64 (pwT s).1, .bool (pwT s).2]) ∧ Below w.heap.size w w' := by
  obtain ⟨te, pe, hv⟩ := hv
  have cA := Any.strconv_Atoi_range Tryd.laysAtoi s hl h (.iface te pe) w (by rw [gRng]; exact hv) (.inr ⟨te, pe, rfl⟩)
  rw [nAtoi] at cA
  have hp : pwT s = (0, false) := by unfold pwT; rw [h]
  rw [hp]
  go_enter Tryd.func39, Tryd.ntmps39
  go_wp2_with (first
    | (go_at_call 48; refine cA.mono ?_; rintro e w1 ⟨N, rfl, _, _, hB1⟩)
    | go_in)
  go_ret2
  exact ⟨rfl, hB1⟩
end Go.Proofs.YtbmkpnabhodggaaDoor.Ev
