/- Engines: when they are right, what can begin, what a job needs. No condition. -/
import Derived.Test.YtffloigfgjoimaaPp
namespace Go.Proofs.Ytffloigfgjoimaa.Ev
open Go
set_option linter.unusedVariables false
set_option linter.unusedSimpArgs false
set_option maxHeartbeats 1000000

def clashB (x y : Int × Int) : Bool := decide (x.1 < y.2) && decide (y.1 < x.2)
def clashes (g : Geo) (a b : Cmd) : Bool := clashB (spanOf g a) (spanOf g b)
theorem clashes_comm (g : Geo) (a b : Cmd) : clashes g a b = clashes g b a := by unfold clashes clashB; rw [Bool.and_comm]
theorem spanOf_or (g : Geo) (c : Cmd) (h : c.w ≤ Big) : spanOf g c = (0, 0) ∨ (spanOf g c).1 < (spanOf g c).2 := by
  unfold spanOf
  cases h0 : cmdCode g c == 0
  · exact .inl rfl
  have h0' : cmdCode g c = 0 := by simpa using h0
  obtain ⟨hg, hs, _⟩ := cmdCode_good h0'
  obtain ⟨_, _, _, _⟩ := geoOk_t hg
  cases h4 : c.Op == 4
  · refine .inr ?_
    simp only [cond_true, cond_false]
    have : 1 ≤ runOf c := by
      have h1 : within c.Op 1 6 = true := by
        unfold cmdCode at h0'
        cases h1 : within c.Op 1 6
        · rw [h1] at h0'; simp at h0'
        · rfl
      have := within_t h1
      have h4' : c.Op ≠ 4 := by simpa using h4
      unfold sizeOk at hs; unfold runOf
      cases h1 : c.Op == 1 <;> cases h6 : c.Op == 6 <;> cases h2 : c.Op == 2 <;> cases h3 : c.Op == 3 <;> cases h5 : c.Op == 5 <;> rw [h1, h6, h2, h3, h5] at hs <;> simp [within] at hs h1 h6 h2 h3 h5 ⊢ <;> omega
    omega
  · refine .inr ?_
    simp only [cond_true]
    unfold blocks
    rw [hg, cond_true]
    have := Int.mul_le_mul (a := 1) (b := 2) (c := g.S) (d := g.N - 1) (by omega) (by omega) (by omega) (by omega)
    omega
def jobC (x : Eng) (i : Nat) : Cmd := (x.Jobs.getD i default).C
def apartAt (x : Eng) (i : Nat) : Bool := allN i fun k => !clashes x.A.G (jobC x i) (jobC x k)
def apart (x : Eng) : Bool := allN x.Jobs.length (apartAt x)
theorem jobs_w (x : Eng) {i : Nat} (hi : i < x.Jobs.length) (h : x.w ≤ Big) : x.Jobs[i].C.w ≤ Big ∧ x.Jobs[i].Got.length ≤ Big := by
  have := wL_get Job.w hi
  have e : Job.w x.Jobs[i] = x.Jobs[i].C.w + x.Jobs[i].Got.length := rfl
  unfold Eng.w at h
  omega
theorem take_eq {α : Type} {f : α → List T} {l : List α} {i : Nat} : (((l.map f).drop (0 : Int).toNat).take ((i : Int).toNat - (0 : Int).toNat)) = (l.take i).map f := by
  simp [List.map_take]
def jobOk (g : Geo) (j : Job) : Bool := (cmdCode g j.C == 0) && (within j.At 0 40 && (decide (j.Got.length ≤ 6) && (wordsOk j.Got && ((j.Code == 0) || within j.Code 4 7))))
def few (x : Eng) : Bool := decide (x.Wait.length ≤ 8) && (decide (x.Jobs.length ≤ 4) && (decide (x.Done.length ≤ 8) && decide (x.Log.length ≤ 400)))
def engOk (x : Eng) : Bool := x.Jobs.all (jobOk x.A.G) && (arrOk x.A && (few x && apart x))
theorem eng_len (x : Eng) (h : x.w ≤ Big) : x.Wait.length ≤ 4294967296 ∧ x.Jobs.length ≤ 4294967296 ∧ x.Done.length ≤ 4294967296 ∧ x.Log.length ≤ 4294967296 ∧ x.A.w ≤ Big := by
  have h1 := wL_len Cmd.w x.Wait
  have h2 := wL_len Job.w x.Jobs
  have h3 := wL_len Ans.w x.Done
  have h4 := wL_len Turn.w x.Log
  unfold Eng.w Big at h
  unfold Big
  omega
theorem dle {n m : Nat} : decide ((n : Int) ≤ (m : Int)) = decide (n ≤ m) := decide_eq_decide.2 (by omega)
def online (x : Eng) : Bool := engOk x && (!x.A.Down && !x.A.Broken)
/-! ### What a job needs -/
def needJ (g : Geo) (j : Job) : Int := if IntKind.wrap .i64 (stepsOf g j.C - j.At) < 1 then 1 else IntKind.wrap .i64 (stepsOf g j.C - j.At)
def needOf (x : Eng) (k : Int) : Int := bif within k 0 ((x.Jobs.length : Int) - 1) then needJ x.A.G (x.Jobs.getD k.toNat default) else 0
def needTo (x : Eng) : Nat → Int
  | 0 => 0
  | i + 1 => IntKind.wrap .i64 (needTo x i + needOf x (i : Int))
def needAll (x : Eng) : Int := needTo x x.Jobs.length
/-! ### What can begin -/
def roomy (x : Eng) : Bool := decide (x.Jobs.length < 4) && (decide (x.Done.length + x.Jobs.length < 8) && decide (x.Log.length + x.Jobs.length < 400))
def waitC (x : Eng) (i : Nat) : Cmd := x.Wait.getD i default
def canAt (x : Eng) (k : Nat) : Bool := allN x.Jobs.length (fun i => !clashes x.A.G (waitC x k) (jobC x i)) && (allN k (fun i => !clashes x.A.G (waitC x k) (waitC x i)) && roomy x)
def canBegin (x : Eng) (k : Int) : Bool := engOk x && (within k 0 ((x.Wait.length : Int) - 1) && canAt x k.toNat)
theorem wait_w (x : Eng) {i : Nat} (hi : i < x.Wait.length) (h : x.w ≤ Big) : x.Wait[i].w ≤ Big := by
  have := wL_get Cmd.w hi
  unfold Eng.w at h
  omega
theorem roomy_e (x : Eng) (h : x.w ≤ Big) : (bif decide ((x.Jobs.length : Int) < 4) then (bif decide (IntKind.wrap .i64 ((x.Done.length : Int) + (x.Jobs.length : Int)) < 8) then some (⟨[.b (decide (IntKind.wrap .i64 ((x.Log.length : Int) + (x.Jobs.length : Int)) < 400))], []⟩ : Outs) else some ⟨[.b false], []⟩) else some ⟨[.b false], []⟩) = some ⟨[.b (roomy x)], []⟩ := by
  obtain ⟨l1, l2, l3, l4, hA⟩ := eng_len x h
  rw [wrap_id (n := (x.Done.length : Int) + x.Jobs.length) (by omega) (by omega), wrap_id (n := (x.Log.length : Int) + x.Jobs.length) (by omega) (by omega)]
  unfold roomy
  rw [show decide ((x.Jobs.length : Int) < 4) = decide (x.Jobs.length < 4) from decide_eq_decide.2 (by omega), show decide ((x.Done.length : Int) + x.Jobs.length < 8) = decide (x.Done.length + x.Jobs.length < 8) from decide_eq_decide.2 (by omega), show decide ((x.Log.length : Int) + x.Jobs.length < 400) = decide (x.Log.length + x.Jobs.length < 400) from decide_eq_decide.2 (by omega), bifB, bifB]
end Go.Proofs.Ytffloigfgjoimaa.Ev
