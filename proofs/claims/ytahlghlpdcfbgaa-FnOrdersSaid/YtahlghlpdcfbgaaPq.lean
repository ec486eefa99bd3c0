/- Engines: when they are right, what can begin, what a job needs. No condition. -/
import Derived.Test.YtahlghlpdcfbgaaPp
namespace Go.Proofs.Ytahlghlpdcfbgaa.Ev
open Go
set_option linter.unusedVariables false
set_option linter.unusedSimpArgs false
set_option maxHeartbeats 1000000

def clashB (x y : Int × Int) : Bool := decide (x.1 < y.2) && decide (y.1 < x.2)
def clashes (g : Geo) (a b : Cmd) : Bool := clashB (spanOf g a) (spanOf g b)
theorem clashes_comm (g : Geo) (a b : Cmd) : clashes g a b = clashes g b a := by unfold clashes clashB; rw [Bool.and_comm]
theorem spanOf_or (g : Geo) (c : Cmd) (h : c.w ≤ Big) : spanOf g c = (0, 0) ∨ (spanOf g c).1 < (spanOf g c).2 := by
  unfold spanOf
  cases h0 : cmdCode g c == 0
  · exact .inl rfl
  have h0' : cmdCode g c = 0 := by simpa using h0
  obtain ⟨hg, hs, _⟩ := cmdCode_good h0'
  obtain ⟨_, _, _, _⟩ := geoOk_t hg
  cases h4 : c.Op == 4
  · refine .inr ?_
    simp only [cond_true, cond_false]
    have : 1 ≤ runOf c := by
      have h1 : within c.Op 1 6 = true := by
        unfold cmdCode at h0'
        cases h1 : within c.Op 1 6
        · rw [h1] at h0'; simp at h0'
        · rfl
      have := within_t h1
      have h4' : c.Op ≠ 4 := by simpa using h4
      unfold sizeOk at hs; unfold runOf
      cases h1 : c.Op == 1 <;> cases h6 : c.Op == 6 <;> cases h2 : c.Op == 2 <;> cases h3 : c.Op == 3 <;> cases h5 : c.Op == 5 <;> rw [h1, h6, h2, h3, h5] at hs <;> simp [within] at hs h1 h6 h2 h3 h5 ⊢ <;> omega
    omega
  · refine .inr ?_
    simp only [cond_true]
    unfold blocks
    rw [hg, cond_true]
    have := Int.mul_le_mul (a := 1) (b := 2) (c := g.S) (d := g.N - 1) (by omega) (by omega) (by omega) (by omega)
    omega
theorem clash_i (g : Geo) (a b : Cmd) (ha : a.w ≤ Big) (hb : b.w ≤ Big) : Rn 7 N.impl_Clash [.v g.e, .v a.e, .v b.e] ⟨[.b (clashes g a b)], []⟩ := by
  refine Rn.of fun k hk => ?_
  rw [impl_Clash_e]; unfold impl_Clash_u
  rw [spanOf_i g a ha k (by omega), spanOf_i g b hb k (by omega)]
  simp only [bindO_some, Outs.t_mk, List.getD_cons_zero, List.getD_cons_succ, T.asI_i]
  have h1 := spanOf_or g a ha
  have h2 := spanOf_or g b hb
  have b1 := spanOf_b g a ha
  have b2 := spanOf_b g b hb
  unfold clashes clashB
  refine congrArg (fun x => some (⟨[.b x], []⟩ : Outs)) ?_
  rw [Bool.eq_iff_iff]
  simp only [decide_eq_true_eq, Bool.and_eq_true]
  rcases h1 with h1 | h1 <;> rcases h2 with h2 | h2
  · rw [h1, h2]; simp
  · rw [h1] at b1 ⊢; simp at b1 ⊢; split <;> split <;> omega
  · rw [h2] at b2 ⊢; simp at b2 ⊢; split <;> split <;> omega
  · split <;> split <;> omega

def jobC (x : Eng) (i : Nat) : Cmd := (x.Jobs.getD i default).C
def apartAt (x : Eng) (i : Nat) : Bool := allN i fun k => !clashes x.A.G (jobC x i) (jobC x k)
def apart (x : Eng) : Bool := allN x.Jobs.length (apartAt x)
theorem jobs_w (x : Eng) {i : Nat} (hi : i < x.Jobs.length) (h : x.w ≤ Big) : x.Jobs[i].C.w ≤ Big ∧ x.Jobs[i].Got.length ≤ Big := by
  have := wL_get Job.w hi
  have e : Job.w x.Jobs[i] = x.Jobs[i].C.w + x.Jobs[i].Got.length := rfl
  unfold Eng.w at h
  omega
theorem take_eq {α : Type} {f : α → List T} {l : List α} {i : Nat} : (((l.map f).drop (0 : Int).toNat).take ((i : Int).toNat - (0 : Int).toNat)) = (l.take i).map f := by
  simp [List.map_take]
theorem apart_i (x : Eng) (h : x.w ≤ Big) : Rn 8 N.impl_Apart [.v x.e] ⟨[.b (apart x)], []⟩ := by
  refine Rn.of fun k hk => ?_
  rw [impl_Apart_e]; unfold impl_Apart_u impl_Apart_U
  have hj := wL_len Job.w x.Jobs
  have hl : x.Jobs.length ≤ 4294967296 := by unfold Eng.w Big at h; omega
  unfold Big at hk
  refine (allN_loop x.Jobs.length (apartAt x) (some ⟨[.b true], []⟩) (by omega) (fun i hi G => ?_) (fun G => ?_) (by omega)).trans ((bifB _ _).trans (by rw [Bool.and_true]; rfl))
  · unfold impl_Apart_l1 impl_Apart_L1
    simp only [List.length_map, dlt hi, cond_true, at_map _ hi, d0, Bool.and_self, chk_true, List.getD_cons_zero, List.getD_cons_succ, T.asI_i, T.asR_r]
    rw [chk_ok (by simp; omega)]
    simp only [Int.toNat_natCast, at_map _ hi, List.getD_cons_zero, List.getD_cons_succ, T.asI_i, T.asR_r]
    have e : ((List.drop (0 : Int).toNat (eJobs x.Jobs)).take (i - (0 : Int).toNat)) = eJobs (x.Jobs.take i) := by simp [List.map_take]
    have hlen : (x.Jobs.take i).length = i := by simp; omega
    simp only [e, List.length_map, hlen]
    refine (allN_loop i (fun k => !clashes x.A.G (jobC x i) (jobC x k)) (G (IntKind.wrap .i64 ((i : Int) + 1))) (by omega) (fun q hq G' => ?_) (fun G' => ?_) (by omega)).trans rfl
    · unfold impl_Apart_l2 impl_Apart_L2
      have hq' : q < x.Jobs.length := by omega
      have hq2 : q < (x.Jobs.take i).length := by omega
      simp only [List.length_map, at_map _ hq2, hlen, dlt hq, d0, Bool.and_self, chk_true, cond_true, Int.toNat_natCast, List.getD_cons_zero, List.getD_cons_succ, T.asI_i, T.asR_r, List.getElem_take]
      rw [clash_i x.A.G x.Jobs[i].C x.Jobs[q].C (jobs_w x hi h).1 (jobs_w x hq' h).1 k (by unfold Big; omega), bindO_some]
      simp only [Outs.t_mk, List.getD_cons_zero, T.asB_b]
      unfold jobC
      rw [getD_at hi, getD_at hq']
      cases clashes x.A.G x.Jobs[i].C x.Jobs[q].C <;> rfl
    · unfold impl_Apart_l2 impl_Apart_L2
      simp only [dll, cond_false]
  · unfold impl_Apart_l1 impl_Apart_L1
    simp only [List.length_map, dll, cond_false]

def jobOk (g : Geo) (j : Job) : Bool := (cmdCode g j.C == 0) && (within j.At 0 40 && (decide (j.Got.length ≤ 6) && (wordsOk j.Got && ((j.Code == 0) || within j.Code 4 7))))
theorem jobOk_i (g : Geo) (j : Job) (hc : j.C.w ≤ Big) (hg : j.Got.length ≤ Big) : Rn 6 N.impl_jobOk [.v g.e, .v j.e] ⟨[.b (jobOk g j)], []⟩ := by
  refine Rn.of fun k hk => ?_
  rw [impl_jobOk_e]; unfold impl_jobOk_u impl_jobOk_J1 jobOk
  rw [within_i _ _ _ k (by omega), within_i _ _ _ k (by omega), cmdCode_i g j.C hc k (by omega), wordsOk_i _ hg k (by omega), List.length_map, show decide ((j.Got.length : Int) ≤ 6) = decide (j.Got.length ≤ 6) from decide_eq_decide.2 (by omega)]
  simp only [bindO_some, Outs.t_mk, List.getD_cons_zero, T.asB_b, T.asI_i]
  cases j.Code == 0 <;> cases cmdCode g j.C == 0 <;> cases within j.At 0 40 <;> cases decide (j.Got.length ≤ 6) <;> cases wordsOk j.Got <;> rfl
def few (x : Eng) : Bool := decide (x.Wait.length ≤ 8) && (decide (x.Jobs.length ≤ 4) && (decide (x.Done.length ≤ 8) && decide (x.Log.length ≤ 400)))
def engOk (x : Eng) : Bool := x.Jobs.all (jobOk x.A.G) && (arrOk x.A && (few x && apart x))
theorem eng_len (x : Eng) (h : x.w ≤ Big) : x.Wait.length ≤ 4294967296 ∧ x.Jobs.length ≤ 4294967296 ∧ x.Done.length ≤ 4294967296 ∧ x.Log.length ≤ 4294967296 ∧ x.A.w ≤ Big := by
  have h1 := wL_len Cmd.w x.Wait
  have h2 := wL_len Job.w x.Jobs
  have h3 := wL_len Ans.w x.Done
  have h4 := wL_len Turn.w x.Log
  unfold Eng.w Big at h
  unfold Big
  omega
theorem dle {n m : Nat} : decide ((n : Int) ≤ (m : Int)) = decide (n ≤ m) := decide_eq_decide.2 (by omega)
theorem engOk_i (x : Eng) (h : x.w ≤ Big) (hf : inI x.A.Seq ∧ inI x.A.Tail) : Rn 9 N.impl_EngOk [.v x.e] ⟨[.b (engOk x)], []⟩ := by
  refine Rn.of fun k hk => ?_
  rw [impl_EngOk_e]; unfold impl_EngOk_u impl_EngOk_U
  obtain ⟨l1, l2, l3, l4, hA⟩ := eng_len x h
  unfold Big at hk
  refine (all_loop (jobOk x.A.G) x.Jobs (some ⟨[.b (arrOk x.A && (few x && apart x))], []⟩) (by omega) (fun i hi G => ?_) (fun G => ?_) (by omega)).trans (bifB _ _)
  · unfold impl_EngOk_l1 impl_EngOk_L1
    simp only [List.length_map, at_map _ hi, dlt hi, d0, Bool.and_self, chk_true, cond_true, Int.toNat_natCast, List.getD_cons_zero, List.getD_cons_succ, T.asI_i, T.asR_r]
    rw [jobOk_i x.A.G x.Jobs[i] (jobs_w x hi h).1 (jobs_w x hi h).2 k (by unfold Big; omega), bindO_some]
    exact bifN _ _ _
  · unfold impl_EngOk_l1 impl_EngOk_L1 impl_EngOk_J1
    simp only [List.length_map, dll, cond_false]
    rw [arrOk_i x.A hA hf k (by unfold Big; omega), apart_i x h k (by unfold Big; omega)]
    simp only [bindO_some, Outs.t_mk, List.getD_cons_zero, T.asB_b]
    unfold few
    rw [show decide ((x.Wait.length : Int) ≤ 8) = decide (x.Wait.length ≤ 8) from dle (m := 8), show decide ((x.Jobs.length : Int) ≤ 4) = decide (x.Jobs.length ≤ 4) from dle (m := 4), show decide ((x.Done.length : Int) ≤ 8) = decide (x.Done.length ≤ 8) from dle (m := 8), show decide ((x.Log.length : Int) ≤ 400) = decide (x.Log.length ≤ 400) from dle (m := 400)]
    cases decide (x.Wait.length ≤ 8) <;> cases decide (x.Jobs.length ≤ 4) <;> cases decide (x.Done.length ≤ 8) <;> cases decide (x.Log.length ≤ 400) <;> cases arrOk x.A <;> cases apart x <;> rfl
def online (x : Eng) : Bool := engOk x && (!x.A.Down && !x.A.Broken)
/-! ### What a job needs -/
def needJ (g : Geo) (j : Job) : Int := if IntKind.wrap .i64 (stepsOf g j.C - j.At) < 1 then 1 else IntKind.wrap .i64 (stepsOf g j.C - j.At)
def needOf (x : Eng) (k : Int) : Int := bif within k 0 ((x.Jobs.length : Int) - 1) then needJ x.A.G (x.Jobs.getD k.toNat default) else 0
def needTo (x : Eng) : Nat → Int
  | 0 => 0
  | i + 1 => IntKind.wrap .i64 (needTo x i + needOf x (i : Int))
def needAll (x : Eng) : Int := needTo x x.Jobs.length
/-! ### What can begin -/
def roomy (x : Eng) : Bool := decide (x.Jobs.length < 4) && (decide (x.Done.length + x.Jobs.length < 8) && decide (x.Log.length + x.Jobs.length < 400))
def waitC (x : Eng) (i : Nat) : Cmd := x.Wait.getD i default
def canAt (x : Eng) (k : Nat) : Bool := allN x.Jobs.length (fun i => !clashes x.A.G (waitC x k) (jobC x i)) && (allN k (fun i => !clashes x.A.G (waitC x k) (waitC x i)) && roomy x)
def canBegin (x : Eng) (k : Int) : Bool := engOk x && (within k 0 ((x.Wait.length : Int) - 1) && canAt x k.toNat)
theorem wait_w (x : Eng) {i : Nat} (hi : i < x.Wait.length) (h : x.w ≤ Big) : x.Wait[i].w ≤ Big := by
  have := wL_get Cmd.w hi
  unfold Eng.w at h
  omega
theorem roomy_e (x : Eng) (h : x.w ≤ Big) : (bif decide ((x.Jobs.length : Int) < 4) then (bif decide (IntKind.wrap .i64 ((x.Done.length : Int) + (x.Jobs.length : Int)) < 8) then some (⟨[.b (decide (IntKind.wrap .i64 ((x.Log.length : Int) + (x.Jobs.length : Int)) < 400))], []⟩ : Outs) else some ⟨[.b false], []⟩) else some ⟨[.b false], []⟩) = some ⟨[.b (roomy x)], []⟩ := by
  obtain ⟨l1, l2, l3, l4, hA⟩ := eng_len x h
  rw [wrap_id (n := (x.Done.length : Int) + x.Jobs.length) (by omega) (by omega), wrap_id (n := (x.Log.length : Int) + x.Jobs.length) (by omega) (by omega)]
  unfold roomy
  rw [show decide ((x.Jobs.length : Int) < 4) = decide (x.Jobs.length < 4) from decide_eq_decide.2 (by omega), show decide ((x.Done.length : Int) + x.Jobs.length < 8) = decide (x.Done.length + x.Jobs.length < 8) from decide_eq_decide.2 (by omega), show decide ((x.Log.length : Int) + x.Jobs.length < 400) = decide (x.Log.length + x.Jobs.length < 400) from decide_eq_decide.2 (by omega), bifB, bifB]
theorem canBegin_i (x : Eng) (h : x.w ≤ Big) (hf : inI x.A.Seq ∧ inI x.A.Tail) (q : Int) : Rn 10 N.impl_CanBegin [.v x.e, .v [.i q]] ⟨[.b (canBegin x q)], []⟩ := by
  refine Rn.of fun k hk => ?_
  rw [impl_CanBegin_e]; unfold impl_CanBegin_u impl_CanBegin_U impl_CanBegin_J1 canBegin
  obtain ⟨l1, l2, l3, l4, hA⟩ := eng_len x h
  rw [engOk_i x h hf k (by omega), List.length_map, wrap_id (n := (x.Wait.length : Int) - 1) (by omega) (by omega), within_i _ _ _ k (by omega)]
  simp only [bindO_some, Outs.t_mk, List.getD_cons_zero, T.asB_b]
  cases engOk x
  · rfl
  cases hw : within q 0 ((x.Wait.length : Int) - 1)
  · rfl
  have := within_t hw
  obtain ⟨n, rfl⟩ : ∃ n : Nat, q = (n : Int) := ⟨q.toNat, by omega⟩
  have hn : n < x.Wait.length := by omega
  unfold Big at hk
  simp only [Bool.not_true, cond_false, Bool.true_and, Int.toNat_natCast]
  refine (allN_loop x.Jobs.length (fun i => !clashes x.A.G (waitC x n) (jobC x i)) (some ⟨[.b (allN n (fun i => !clashes x.A.G (waitC x n) (waitC x i)) && roomy x)], []⟩) (by omega) (fun i hi G => ?_) (fun G => ?_) (by omega)).trans (bifB _ _)
  · unfold impl_CanBegin_l1 impl_CanBegin_L1
    simp only [List.length_map, at_map _ hi, at_map _ hn, dlt hi, dlt hn, d0, Bool.and_self, chk_true, cond_true, Int.toNat_natCast, List.getD_cons_zero, List.getD_cons_succ, T.asI_i, T.asR_r]
    rw [clash_i x.A.G x.Wait[n] x.Jobs[i].C (wait_w x hn h) (jobs_w x hi h).1 k (by unfold Big; omega), bindO_some]
    simp only [Outs.t_mk, List.getD_cons_zero, T.asB_b]
    unfold jobC waitC
    rw [getD_at hi, getD_at hn]
    cases clashes x.A.G x.Wait[n] x.Jobs[i].C <;> rfl
  · unfold impl_CanBegin_l1 impl_CanBegin_L1
    simp only [List.length_map, dll, cond_false]
    rw [chk_ok (by simp; omega)]
    have e : ((List.drop (0 : Int).toNat (eCmds x.Wait)).take ((n : Int).toNat - (0 : Int).toNat)) = eCmds (x.Wait.take n) := by simp [List.map_take]
    have hlen : (x.Wait.take n).length = n := by simp; omega
    simp only [e, List.length_map, hlen]
    refine (allN_loop n (fun i => !clashes x.A.G (waitC x n) (waitC x i)) (some ⟨[.b (roomy x)], []⟩) (by omega) (fun i hi G => ?_) (fun G => ?_) (by omega)).trans (bifB _ _)
    · unfold impl_CanBegin_l2 impl_CanBegin_L2
      have hi' : i < x.Wait.length := by omega
      have hi2 : i < (x.Wait.take n).length := by omega
      simp only [List.length_map, at_map _ hi2, at_map _ hn, hlen, dlt hi, dlt hn, d0, Bool.and_self, chk_true, cond_true, Int.toNat_natCast, List.getD_cons_zero, List.getD_cons_succ, T.asI_i, T.asR_r, List.getElem_take]
      rw [clash_i x.A.G x.Wait[n] x.Wait[i] (wait_w x hn h) (wait_w x hi' h) k (by unfold Big; omega), bindO_some]
      simp only [Outs.t_mk, List.getD_cons_zero, T.asB_b]
      unfold waitC
      rw [getD_at hi', getD_at hn]
      cases clashes x.A.G x.Wait[n] x.Wait[i] <;> rfl
    · unfold impl_CanBegin_l2 impl_CanBegin_L2
      simp only [List.length_map, dll, cond_false]
      exact roomy_e x h
end Go.Proofs.Ytahlghlpdcfbgaa.Ev
