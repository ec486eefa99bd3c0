/- slices.Delete at this seat, walked by its text: on cells alone; the evaluator is sound. No condition. -/
import Derived.Test.YtjgmiilapnekfaaGreatTab
import Derived.WalkKit
import Derived.Deep.LoopGhost
import Derived.Deep.RegionLaw
import Derived.Lib.Walk
namespace Go.Proofs.YtjgmiilapnekfaaGreat.Ev
open Go Go.Proofs Go.RowKit
set_option linter.unusedVariables false
set_option linter.unusedSimpArgs false
set_option maxRecDepth 100000
set_option maxHeartbeats 4000000
theorem del_65 : RawDel Tryz.prog E 65 61 := by
  intro w g cap l a b xs ho hab hb hone
  have hE : E.sz 61 = 3 := by kernel_rfl
  have he : elOk E 46 61 = true := by kernel_rfl
  obtain ⟨hlc, hcm, A, hA, happ⟩ := del_app tabOk_ he (ownsRow_drew ho) hab hb hone
  obtain ⟨W1, hrun, ho1, hg1⟩ := happ 46
  obtain ⟨W2, hcl, ho2, hg2⟩ := del_clear tabOk_ he ho1 (show a + (l - b) < l by omega) hlc (cap - (a + (l - b)))
  have hlen : l - (b - a) = a + (l - b) := by omega
  have hg : w.grownBy W2 (some g) := grown_trans ⟨hg1.os, hg1.tape, hg1.output, hg1.size, hg1.block⟩ hg2
  rw [hE] at hA hcl
  rw [hlen]
  have X : Aside (W2.ownsRow 0 61 (E.sz 61) (.slice (some ⟨g, 0, none⟩) (a + (l - b)) cap) (a + (l - b)) (xs.take (a * E.sz 61) ++ xs.drop (b * E.sz 61)) ∧ w.grownBy W2 (some g)) := ⟨ho2, hg⟩
  clear ho2 hg hg1 hg2 ho1 happ hone ho hE he
  have hm : cap ≤ 9223372036854775807 := by simp only [maxLen] at hcm; omega
  have h1 : a ≤ cap := by omega
  have h2 : b ≤ cap := by omega
  have h3 : a + (l - b) ≤ l := by omega
  go_enter Tryz.func65, Tryz.ntmps65
  go_wp2_with fail
  go_region_law (refine step_append_run rfl (.tmp 22) (.tmp 25) 46 rfl (by simp [Act.eval, Act.put]) (by simp [Act.eval, Act.put, hA]) hrun ?_)
  all_goals go_wp2
  all_goals go_ret
  all_goals exact ⟨rfl, X.out⟩
theorem del_71 : RawDel Tryz.prog E 71 53 := by
  intro w g cap l a b xs ho hab hb hone
  have hE : E.sz 53 = 5 := by kernel_rfl
  have he : elOk E 44 53 = true := by kernel_rfl
  obtain ⟨hlc, hcm, A, hA, happ⟩ := del_app tabOk_ he (ownsRow_drew ho) hab hb hone
  obtain ⟨W1, hrun, ho1, hg1⟩ := happ 44
  obtain ⟨W2, hcl, ho2, hg2⟩ := del_clear tabOk_ he ho1 (show a + (l - b) < l by omega) hlc (cap - (a + (l - b)))
  have hlen : l - (b - a) = a + (l - b) := by omega
  have hg : w.grownBy W2 (some g) := grown_trans ⟨hg1.os, hg1.tape, hg1.output, hg1.size, hg1.block⟩ hg2
  rw [hE] at hA hcl
  rw [hlen]
  have X : Aside (W2.ownsRow 0 53 (E.sz 53) (.slice (some ⟨g, 0, none⟩) (a + (l - b)) cap) (a + (l - b)) (xs.take (a * E.sz 53) ++ xs.drop (b * E.sz 53)) ∧ w.grownBy W2 (some g)) := ⟨ho2, hg⟩
  clear ho2 hg hg1 hg2 ho1 happ hone ho hE he
  have hm : cap ≤ 9223372036854775807 := by simp only [maxLen] at hcm; omega
  have h1 : a ≤ cap := by omega
  have h2 : b ≤ cap := by omega
  have h3 : a + (l - b) ≤ l := by omega
  go_enter Tryz.func71, Tryz.ntmps71
  go_wp2_with fail
  go_region_law (refine step_append_run rfl (.tmp 22) (.tmp 25) 44 rfl (by simp [Act.eval, Act.put]) (by simp [Act.eval, Act.put, hA]) hrun ?_)
  all_goals go_wp2
  all_goals go_ret
  all_goals exact ⟨rfl, X.out⟩
theorem del_78 : RawDel Tryz.prog E 78 103 := by
  intro w g cap l a b xs ho hab hb hone
  have hE : E.sz 103 = 8 := by kernel_rfl
  have he : elOk E 45 103 = true := by kernel_rfl
  obtain ⟨hlc, hcm, A, hA, happ⟩ := del_app tabOk_ he (ownsRow_drew ho) hab hb hone
  obtain ⟨W1, hrun, ho1, hg1⟩ := happ 45
  obtain ⟨W2, hcl, ho2, hg2⟩ := del_clear tabOk_ he ho1 (show a + (l - b) < l by omega) hlc (cap - (a + (l - b)))
  have hlen : l - (b - a) = a + (l - b) := by omega
  have hg : w.grownBy W2 (some g) := grown_trans ⟨hg1.os, hg1.tape, hg1.output, hg1.size, hg1.block⟩ hg2
  rw [hE] at hA hcl
  rw [hlen]
  have X : Aside (W2.ownsRow 0 103 (E.sz 103) (.slice (some ⟨g, 0, none⟩) (a + (l - b)) cap) (a + (l - b)) (xs.take (a * E.sz 103) ++ xs.drop (b * E.sz 103)) ∧ w.grownBy W2 (some g)) := ⟨ho2, hg⟩
  clear ho2 hg hg1 hg2 ho1 happ hone ho hE he
  have hm : cap ≤ 9223372036854775807 := by simp only [maxLen] at hcm; omega
  have h1 : a ≤ cap := by omega
  have h2 : b ≤ cap := by omega
  have h3 : a + (l - b) ≤ l := by omega
  go_enter Tryz.func78, Tryz.ntmps78
  go_wp2_with fail
  go_region_law (refine step_append_run rfl (.tmp 22) (.tmp 25) 45 rfl (by simp [Act.eval, Act.put]) (by simp [Act.eval, Act.put, hA]) hrun ?_)
  all_goals go_wp2
  all_goals go_ret
  all_goals exact ⟨rfl, X.out⟩
theorem del_159 : RawDel Tryz.prog E 159 162 := by
  intro w g cap l a b xs ho hab hb hone
  have hE : E.sz 162 = 2 := by kernel_rfl
  have he : elOk E 41 162 = true := by kernel_rfl
  obtain ⟨hlc, hcm, A, hA, happ⟩ := del_app tabOk_ he (ownsRow_drew ho) hab hb hone
  obtain ⟨W1, hrun, ho1, hg1⟩ := happ 41
  obtain ⟨W2, hcl, ho2, hg2⟩ := del_clear tabOk_ he ho1 (show a + (l - b) < l by omega) hlc (cap - (a + (l - b)))
  have hlen : l - (b - a) = a + (l - b) := by omega
  have hg : w.grownBy W2 (some g) := grown_trans ⟨hg1.os, hg1.tape, hg1.output, hg1.size, hg1.block⟩ hg2
  rw [hE] at hA hcl
  rw [hlen]
  have X : Aside (W2.ownsRow 0 162 (E.sz 162) (.slice (some ⟨g, 0, none⟩) (a + (l - b)) cap) (a + (l - b)) (xs.take (a * E.sz 162) ++ xs.drop (b * E.sz 162)) ∧ w.grownBy W2 (some g)) := ⟨ho2, hg⟩
  clear ho2 hg hg1 hg2 ho1 happ hone ho hE he
  have hm : cap ≤ 9223372036854775807 := by simp only [maxLen] at hcm; omega
  have h1 : a ≤ cap := by omega
  have h2 : b ≤ cap := by omega
  have h3 : a + (l - b) ≤ l := by omega
  go_enter Tryz.func159, Tryz.ntmps159
  go_wp2_with fail
  go_region_law (refine step_append_run rfl (.tmp 22) (.tmp 25) 41 rfl (by simp [Act.eval, Act.put]) (by simp [Act.eval, Act.put, hA]) hrun ?_)
  all_goals go_wp2
  all_goals go_ret
  all_goals exact ⟨rfl, X.out⟩
theorem dels_ : DelOk Tryz.prog E := fun f e h => delOf_all (Q := RawDel Tryz.prog E) (l := [(65, 61), (71, 53), (78, 103), (159, 162)]) (by
  intro p hp
  simp only [List.mem_cons, List.not_mem_nil, or_false] at hp
  rcases hp with rfl | rfl | rfl | rfl
  · exact del_65
  · exact del_71
  · exact del_78
  · exact del_159) f e h
theorem tabF_ : TabF Tryz.prog E := ⟨tabF0_, fun f e h => delOf_all (Q := fun f _ => ∃ fn, E.fn f = some fn) (l := [(65, 61), (71, 53), (78, 103), (159, 162)]) (by
  intro p hp
  simp only [List.mem_cons, List.not_mem_nil, or_false] at hp
  rcases hp with rfl | rfl | rfl | rfl
  · exact ⟨Tryz.f65, by kernel_rfl⟩
  · exact ⟨Tryz.f71, by kernel_rfl⟩
  · exact ⟨Tryz.f78, by kernel_rfl⟩
  · exact ⟨Tryz.f159, by kernel_rfl⟩) f e h, dels_⟩
theorem sound_ (k : Nat) : FnOk Tryz.prog E (evalF E P0 k) := eval_sound tabOk_ tabF_ orders_ noPrim k
end Go.Proofs.YtjgmiilapnekfaaGreat.Ev
