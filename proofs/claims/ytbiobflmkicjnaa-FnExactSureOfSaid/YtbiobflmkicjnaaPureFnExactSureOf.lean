/- The pure statement of FnExactSureOf: what the program's functions and the reference's answer, over numbers and lists alone. No condition. -/
import Derived.Test.YtbiobflmkicjnaaFitFnExactSureOf
import Derived.Test.YtbiobflmkicjnaaQFnExactSureOfx
import Derived.Test.YtbiobflmkicjnaaPFnExactSureOfx0
import Derived.Test.YtbiobflmkicjnaaPFnExactSureOfx1
import Derived.Test.YtbiobflmkicjnaaPFnExactSureOfx2
import Derived.Test.YtbiobflmkicjnaaPFnExactSureOfx3
import Derived.Test.YtbiobflmkicjnaaQFnExactSureOfx4
import Derived.Test.YtbiobflmkicjnaaQFnExactSureOfx5
import Derived.Test.YtbiobflmkicjnaaPFnExactSureOfx6
import Derived.Test.YtbiobflmkicjnaaQFnExactSureOfx7
namespace Go.Proofs.Ytbiobflmkicjnaa.Pure
open Go.RowKit Go.Proofs.YtbiobflmkicjnaaW.PrintWords Go.Proofs.YtbiobflmkicjnaaW.PrintLast Go.Proofs.YtbiobflmkicjnaaW.PrintMore Go.Proofs.Ytbiobflmkicjnaa.PFnExactSureOf
set_option linter.unusedVariables false
set_option linter.unusedSimpArgs false
theorem ev_seq {α β : Type} {g : Nat → Option α} {f : Nat → α → Option β} {a : α} {r : β} (h : Ev g a) (k : Ev (fun n => f n a) r) : Ev (fun n => (g n).bind (f n)) r := Ev.bind h k

abbrev InI64 (x : Int) : Prop := -9223372036854775808 ≤ x ∧ x ≤ 9223372036854775807

theorem i64_of_wf {x : Int} (h : (Lit.int .i64 x).wf = true) : InI64 x := by
  simp [Lit.wf, IntKind.min, IntKind.max, IntKind.signed, IntKind.bits] at h
  exact ⟨by omega, by omega⟩

theorem neg1 : (-1 : Int) < 0 := by omega

def WfIntS (l : List Int) : Prop := ∀ x ∈ l, InI64 x
theorem wfIntS {l : List Int} (h : ∀ x ∈ l, Fit3 x) : WfIntS l := fun x hx => i64_of_wf (h x hx)

def WfCmd (x : S34) : Prop := InI64 x.f0 ∧ InI64 x.f1 ∧ InI64 x.f2 ∧ InI64 x.f3 ∧ WfIntS x.f4

def cvCmd (x : S31) : S34 := ⟨x.f0, x.f1, x.f2, x.f3, x.f4⟩

theorem wfcvCmd {x : S31} (F : Fit31 x) : WfCmd (cvCmd x) := ⟨i64_of_wf F.1, i64_of_wf F.2.1, i64_of_wf F.2.2.1, i64_of_wf F.2.2.2.1, wfIntS F.2.2.2.2.2⟩

def WfAns (x : S27) : Prop := InI64 x.f0 ∧ InI64 x.f1 ∧ WfIntS x.f2

def cvAns (x : S24) : S27 := ⟨x.f0, x.f1, x.f2⟩

theorem wfcvAns {x : S24} (F : Fit24 x) : WfAns (cvAns x) := ⟨i64_of_wf F.1, i64_of_wf F.2.1, wfIntS F.2.2.2⟩

def WfTurn (x : S66) : Prop := WfCmd x.f0 ∧ WfAns x.f1

def cvTurn (x : S64) : S66 := ⟨cvCmd x.f0, cvAns x.f1⟩

theorem wfcvTurn {x : S64} (F : Fit64 x) : WfTurn (cvTurn x) := ⟨wfcvCmd F.1, wfcvAns F.2⟩

def WfTurnS (xs : List S66) : Prop := ∀ x ∈ xs, WfTurn x

def cvTurnS (xs : List S64) : List S66 := xs.map cvTurn

theorem wfcvTurnS {xs : List S64} (F : ∀ x ∈ xs, Fit64 x) : WfTurnS (cvTurnS xs) := by
  intro y hy
  unfold cvTurnS at hy
  obtain ⟨x, hx, rfl⟩ := List.mem_map.1 hy
  exact wfcvTurn (F x hx)

theorem w64 {x : Int} (h0 : -9223372036854775808 ≤ x) (h1 : x ≤ 9223372036854775807) : wrap64 x = x := by unfold wrap64; omega

theorem ev_pos {α : Type} {g : Nat → Option α} {r : α} (h : Ev (fun k => g (k + 1)) r) : Ev g r := Ev.step (f := fun k => g (k + 1)) (fun _ => rfl) h

theorem ev_some {α : Type} {g : Nat → Option α} {r : α} (h : ∀ k, g k = some r) : Ev g r := ⟨0, fun k _ => h k⟩

theorem lt_len {α : Type} {xs : List α} {i : Nat} (h : i < xs.length) : (i : Int) < (xs.length : Int) := by omega

def BdIntS (x : List Int) : Prop := x.length ≤ 1048576

def BdCmd (x : S31) : Prop := BdIntS x.f4

def BdAns (x : S24) : Prop := BdIntS x.f2

def BdTurn (x : S64) : Prop := BdCmd x.f0 ∧ BdAns x.f1

theorem szIntS (l : List Int) (a : Int) (h0 : 0 ≤ a) (h1 : a ≤ 1048576) (hl : l.length ≤ maxLen) : ∃ r, laws_szIntS.f l a = some r ∧ (r = -1 ∨ 0 ≤ r ∧ r + l.length ≤ a) := by
  unfold maxLen at hl
  unfold laws_szIntS.f
  rw [w64 (x := a - (l.length : Int)) (by omega) (by omega)]
  by_cases h : a - (l.length : Int) < 0
  · rw [if_pos h]; exact ⟨-1, rfl, .inl rfl⟩
  · rw [if_neg h]; exact ⟨_, rfl, .inr ⟨by omega, by omega⟩⟩

theorem szIntSE (l : List Int) (hl : l.length ≤ maxLen) (a : Int) (h0 : 0 ≤ a) (h1 : a ≤ 1048576) : ∃ r, Ev (fun _ => laws_szIntS.f l a) r ∧ (r = -1 ∨ 0 ≤ r ∧ r ≤ a ∧ BdIntS l) := by
  obtain ⟨r, hr, h⟩ := szIntS l a h0 h1 hl
  refine ⟨r, ev_some fun _ => hr, ?_⟩
  rcases h with h | ⟨h2, h3⟩
  · exact .inl h
  · exact .inr ⟨h2, by omega, by unfold BdIntS; omega⟩

theorem szCmdE (x : S31) (F : Fit31 x) (a : Int) (h0 : 0 ≤ a) (h1 : a ≤ 1048576) : ∃ r, Ev (fun k => laws_szCmd.f x.f0 x.f1 x.f2 x.f3 x.f4 a) r ∧ (r = -1 ∨ 0 ≤ r ∧ r ≤ a ∧ BdCmd x) := by
  unfold laws_szCmd.f
  obtain ⟨r1, e1, c1⟩ := szIntSE x.f4 F.2.2.2.2.1 a h0 h1
  rcases c1 with rfl | ⟨u1, v1, b1⟩
  · exact ⟨-1, ev_seq e1 (by simp only [if_pos neg1]; exact Ev.now _), .inl rfl⟩
  exact ⟨r1, ev_seq e1 (by simp only [if_neg (show ¬ r1 < 0 by omega)]; exact Ev.now _), .inr ⟨u1, by omega, b1⟩⟩

theorem szAnsE (x : S24) (F : Fit24 x) (a : Int) (h0 : 0 ≤ a) (h1 : a ≤ 1048576) : ∃ r, Ev (fun k => laws_szAns.f x.f0 x.f1 x.f2 a) r ∧ (r = -1 ∨ 0 ≤ r ∧ r ≤ a ∧ BdAns x) := by
  unfold laws_szAns.f
  obtain ⟨r1, e1, c1⟩ := szIntSE x.f2 F.2.2.1 a h0 h1
  rcases c1 with rfl | ⟨u1, v1, b1⟩
  · exact ⟨-1, ev_seq e1 (by simp only [if_pos neg1]; exact Ev.now _), .inl rfl⟩
  exact ⟨r1, ev_seq e1 (by simp only [if_neg (show ¬ r1 < 0 by omega)]; exact Ev.now _), .inr ⟨u1, by omega, b1⟩⟩

theorem szTurnE (x : S64) (F : Fit64 x) (a : Int) (h0 : 0 ≤ a) (h1 : a ≤ 1048576) : ∃ r, Ev (fun k => laws_szTurn.f x.f0.f0 x.f0.f1 x.f0.f2 x.f0.f3 x.f0.f4 x.f1.f0 x.f1.f1 x.f1.f2 a) r ∧ (r = -1 ∨ 0 ≤ r ∧ r ≤ a ∧ BdTurn x) := by
  unfold laws_szTurn.f
  obtain ⟨r1, e1, c1⟩ := szCmdE x.f0 F.1 a h0 h1
  rcases c1 with rfl | ⟨u1, v1, b1⟩
  · exact ⟨-1, ev_seq e1 (by simp only [if_pos neg1]; exact Ev.now _), .inl rfl⟩
  obtain ⟨r2, e2, c2⟩ := szAnsE x.f1 F.2 r1 u1 (by omega)
  rcases c2 with rfl | ⟨u2, v2, b2⟩
  · exact ⟨-1, ev_seq e1 (by simp only [if_neg (show ¬ r1 < 0 by omega)]; exact ev_seq e2 (by simp only [if_pos neg1]; exact Ev.now _)), .inl rfl⟩
  exact ⟨r2, ev_seq e1 (by simp only [if_neg (show ¬ r1 < 0 by omega)]; exact ev_seq e2 (by simp only [if_neg (show ¬ r2 < 0 by omega)]; exact Ev.now _)), .inr ⟨u2, by omega, b1, b2⟩⟩

def BdTurnS (xs : List S64) : Prop := xs.length ≤ 1048576 ∧ ∀ x ∈ xs, BdTurn x

theorem rdat_laws_TurnS (xs : List S64) (i : Nat) (h : i < xs.length) : rd_T64 xs (i : Int) = xs[i] := by
  unfold rd_T64
  simp [List.getD_eq_getElem?_getD, List.getElem?_eq_getElem h]

theorem szTurnS_l (xs : List S64) (F : ∀ x ∈ xs, Fit64 x) (hl : xs.length ≤ 1048576) : ∀ (d i : Nat) (a : Int), i ≤ xs.length → xs.length - i = d → 0 ≤ a → a ≤ 1048576 → ∃ r, Ev (fun k => laws_szTurnS.l0 k xs a (i : Int)) r ∧ (r = -1 ∨ 0 ≤ r ∧ r ≤ a ∧ ∀ j (h : j < xs.length), i ≤ j → BdTurn xs[j]) := by
  intro d
  induction d with
  | zero =>
    intro i a hi hd h0 h1
    refine ⟨a, ev_pos (ev_some fun k => ?_), .inr ⟨h0, Int.le_refl _, fun j hj hij => by omega⟩⟩
    simp only [laws_szTurnS.l0]
    rw [if_neg (by omega)]
  | succ d ih =>
    intro i a hi hd h0 h1
    have hlt : i < xs.length := by omega
    obtain ⟨r, e1, c1⟩ := szTurnE xs[i] (F _ (List.getElem_mem hlt)) a h0 h1
    have hstep : ∀ k, laws_szTurnS.l0 (k + 1) xs a (i : Int) = (laws_szTurn.f xs[i].f0.f0 xs[i].f0.f1 xs[i].f0.f2 xs[i].f0.f3 xs[i].f0.f4 xs[i].f1.f0 xs[i].f1.f1 xs[i].f1.f2 a).bind fun t => if t < 0 then some (-1) else laws_szTurnS.l0 k xs t ((i + 1 : Nat) : Int) := fun k => by
      simp only [laws_szTurnS.l0]
      rw [if_pos (lt_len hlt), if_pos (by omega), rdat_laws_TurnS xs i hlt, w64 (by omega) (by omega)]
      rfl
    rcases c1 with rfl | ⟨u1, v1, b1⟩
    · exact ⟨-1, Ev.step hstep (ev_seq e1 (by simp only [if_pos neg1]; exact Ev.now _)), .inl rfl⟩
    obtain ⟨q, e2, c2⟩ := ih (i + 1) r (by omega) (by omega) u1 (by omega)
    refine ⟨q, Ev.step hstep (ev_seq e1 (by simp only [if_neg (show ¬ r < 0 by omega)]; exact e2)), ?_⟩
    rcases c2 with rfl | ⟨u2, v2, b2⟩
    · exact .inl rfl
    · refine .inr ⟨u2, by omega, fun j hj hij => ?_⟩
      rcases Nat.eq_or_lt_of_le hij with rfl | h
      · exact b1
      · exact b2 j hj h
theorem szTurnSE (xs : List S64) (F : xs.length ≤ maxLen ∧ ∀ x ∈ xs, Fit64 x) (a : Int) (h0 : 0 ≤ a) (h1 : a ≤ 1048576) : ∃ r, Ev (fun k => laws_szTurnS.f k xs a) r ∧ (r = -1 ∨ 0 ≤ r ∧ r ≤ a ∧ BdTurnS xs) := by
  have hl := F.1
  unfold maxLen at hl
  unfold laws_szTurnS.f
  rw [w64 (x := a - (xs.length : Int)) (by omega) (by omega)]
  by_cases h : a - (xs.length : Int) < 0
  · refine ⟨-1, ?_, .inl rfl⟩
    simp only [if_pos h]
    exact Ev.now _
  · simp only [if_neg h]
    obtain ⟨r, e1, c1⟩ := szTurnS_l xs F.2 (by omega) xs.length 0 (a - (xs.length : Int)) (by omega) (by omega) (by omega) (by omega)
    refine ⟨r, e1, ?_⟩
    rcases c1 with rfl | ⟨u1, v1, b1⟩
    · exact .inl rfl
    · refine .inr ⟨u1, by omega, by omega, fun x hx => ?_⟩
      obtain ⟨j, hj, he⟩ := List.getElem_of_mem hx
      rw [← he]
      exact b1 j hj (by omega)

def mkTurn (bt : Int × Int × Int × Int × List Int × Int × Int × List Int) : S66 := ⟨(⟨bt.1, bt.2.1, bt.2.2.1, bt.2.2.2.1, bt.2.2.2.2.1⟩ : S34), (⟨bt.2.2.2.2.2.1, bt.2.2.2.2.2.2.1, bt.2.2.2.2.2.2.2⟩ : S27)⟩

theorem rd_at (xs : List Int) (i : Nat) (h : i < xs.length) : rd xs (i : Int) = xs[i] := by
  unfold rd
  simp [List.getD_eq_getElem?_getD, List.getElem?_eq_getElem h]

theorem toIntS_l (xs : List Int) (hl : xs.length ≤ 1048576) : ∀ (d i : Nat) (ys : List Int), ys.length = xs.length → i ≤ xs.length → xs.length - i = d → (∀ j, j < i → ys[j]? = xs[j]?) → Ev (fun k => laws_toIntS.l0 k xs ys (i : Int)) xs := by
  intro d
  induction d with
  | zero =>
    intro i ys hy hi hd he
    refine ev_pos (ev_some fun k => ?_)
    simp only [laws_toIntS.l0]
    rw [if_neg (by omega)]
    refine congrArg some (List.ext_getElem? fun j => ?_)
    rcases Nat.lt_or_ge j i with h | h
    · exact he j h
    · rw [List.getElem?_eq_none (by omega), List.getElem?_eq_none (by omega)]
  | succ d ih =>
    intro i ys hy hi hd he
    have hlt : i < xs.length := by omega
    refine Ev.step (f := fun k => laws_toIntS.l0 k xs (ys.set i xs[i]) ((i + 1 : Nat) : Int)) (fun k => ?_) (ih (i + 1) (ys.set i xs[i]) (by rw [List.length_set]; exact hy) (by omega) (by omega) ?_)
    · simp only [laws_toIntS.l0]
      rw [if_pos (by omega), if_pos (by omega), if_pos (by omega), w64 (by omega) (by omega), rd_at xs i hlt, Int.toNat_natCast]
      rfl
    · intro j hj
      rw [List.getElem?_set]
      by_cases h : i = j
      · subst h
        rw [if_pos rfl, if_pos (by omega), List.getElem?_eq_getElem hlt]
      · rw [if_neg h]
        exact he j (by omega)
theorem toIntS (xs : List Int) (hl : xs.length ≤ 1048576) : Ev (fun k => laws_toIntS.f k xs) xs := by
  have h := toIntS_l xs hl xs.length 0 (List.replicate xs.length 0) (by simp) (by omega) (by omega) (by intro j hj; omega)
  refine Ev.congr (fun k => ?_) h
  unfold laws_toIntS.f
  rw [if_pos (by omega), Int.toNat_natCast, if_pos (by omega)]
  rfl

theorem toIntSE (l : List Int) (h : BdIntS l) : Ev (fun k => laws_toIntS.f k l) l := toIntS l h

theorem toCmdE (x : S31) (B : BdCmd x) : Ev (fun k => laws_toCmd.f k x.f0 x.f1 x.f2 x.f3 x.f4) ((cvCmd x).f0, (cvCmd x).f1, (cvCmd x).f2, (cvCmd x).f3, (cvCmd x).f4) := by
  unfold laws_toCmd.f
  exact ev_seq (toIntSE x.f4 B) (Ev.now _)

theorem toAnsE (x : S24) (B : BdAns x) : Ev (fun k => laws_toAns.f k x.f0 x.f1 x.f2) ((cvAns x).f0, (cvAns x).f1, (cvAns x).f2) := by
  unfold laws_toAns.f
  exact ev_seq (toIntSE x.f2 B) (Ev.now _)

theorem toTurnE (x : S64) (B : BdTurn x) : Ev (fun k => laws_toTurn.f k x.f0.f0 x.f0.f1 x.f0.f2 x.f0.f3 x.f0.f4 x.f1.f0 x.f1.f1 x.f1.f2) ((cvTurn x).f0.f0, (cvTurn x).f0.f1, (cvTurn x).f0.f2, (cvTurn x).f0.f3, (cvTurn x).f0.f4, (cvTurn x).f1.f0, (cvTurn x).f1.f1, (cvTurn x).f1.f2) := by
  unfold laws_toTurn.f
  exact ev_seq (toCmdE x.f0 B.1) (ev_seq (toAnsE x.f1 B.2) (Ev.now _))

theorem toTurnS_l (xs : List S64) (hl : xs.length ≤ 1048576) (B : ∀ x ∈ xs, BdTurn x) : ∀ (d i : Nat) (ys : List S66), ys.length = xs.length → i ≤ xs.length → xs.length - i = d → (∀ j, j < i → ys[j]? = (xs[j]?).map cvTurn) → Ev (fun k => laws_toTurnS.l0 k xs ys (i : Int)) (cvTurnS xs) := by
  intro d
  induction d with
  | zero =>
    intro i ys hy hi hd he
    refine ev_pos (ev_some fun k => ?_)
    simp only [laws_toTurnS.l0]
    rw [if_neg (by omega)]
    refine congrArg some (List.ext_getElem? fun j => ?_)
    simp only [cvTurnS, List.getElem?_map]
    rcases Nat.lt_or_ge j i with h | h
    · exact he j h
    · rw [List.getElem?_eq_none (by omega), List.getElem?_eq_none (show xs.length ≤ j by omega)]
      rfl
  | succ d ih =>
    intro i ys hy hi hd he
    have hlt : i < xs.length := by omega
    refine Ev.step (f := fun k => (laws_toTurn.f k xs[i].f0.f0 xs[i].f0.f1 xs[i].f0.f2 xs[i].f0.f3 xs[i].f0.f4 xs[i].f1.f0 xs[i].f1.f1 xs[i].f1.f2).bind fun bt => laws_toTurnS.l0 k xs (ys.set i (mkTurn bt)) ((i + 1 : Nat) : Int)) (fun k => ?_) (ev_seq (toTurnE xs[i] (B _ (List.getElem_mem hlt))) (ih (i + 1) (ys.set i (cvTurn xs[i])) (by rw [List.length_set]; exact hy) (by omega) (by omega) ?_))
    · simp only [laws_toTurnS.l0]
      rw [if_pos (lt_len hlt), if_pos (by omega), rdat_laws_TurnS xs i hlt, w64 (by omega) (by omega), Int.toNat_natCast]
      simp only [if_pos (show (i : Int) < (ys.length : Int) by omega)]
      rfl
    · intro j hj
      rw [List.getElem?_set]
      by_cases h : i = j
      · subst h
        rw [if_pos rfl, if_pos (by omega), List.getElem?_eq_getElem hlt]
        rfl
      · rw [if_neg h]
        exact he j (by omega)
theorem toTurnSE (xs : List S64) (B : BdTurnS xs) : Ev (fun k => laws_toTurnS.f k xs) (cvTurnS xs) := by
  have hl := B.1
  have h := toTurnS_l xs B.1 B.2 xs.length 0 (List.replicate xs.length z66) (by simp) (by omega) (by omega) (by intro j hj; omega)
  refine Ev.congr (fun k => ?_) h
  unfold laws_toTurnS.f
  rw [if_pos (by omega), Int.toNat_natCast, if_pos (by omega)]
  rfl

def BdCmdI (x : S34) : Prop := BdIntS x.f4

def BdAnsI (x : S27) : Prop := BdIntS x.f2

def BdTurnI (x : S66) : Prop := BdCmdI x.f0 ∧ BdAnsI x.f1

theorem eqIntS_l (xs : List Int) (hl : xs.length ≤ 9223372036854775806) : ∀ (d i : Nat), i ≤ xs.length → xs.length - i = d → Ev (fun k => laws_eqIntS.l0 k xs xs (i : Int)) true := by
  intro d
  induction d with
  | zero =>
    intro i hi hd
    refine ev_pos (ev_some fun k => ?_)
    simp only [laws_eqIntS.l0]
    rw [if_neg (by omega)]
  | succ d ih =>
    intro i hi hd
    refine Ev.step (f := fun k => laws_eqIntS.l0 k xs xs ((i + 1 : Nat) : Int)) (fun k => ?_) (ih (i + 1) (by omega) (by omega))
    simp only [laws_eqIntS.l0]
    rw [if_pos (by omega), if_pos (by omega), if_pos (by omega), if_pos trivial, w64 (by omega) (by omega)]
    rfl
theorem eqIntS (xs : List Int) (hl : xs.length ≤ 1048576) : Ev (fun k => laws_eqIntS.f k xs xs) true := by
  refine Ev.congr (fun k => ?_) (eqIntS_l xs (by omega) xs.length 0 (by omega) (by omega))
  unfold laws_eqIntS.f
  rw [if_pos rfl]
  rfl

theorem eqIntSE (l : List Int) (h : BdIntS l) : Ev (fun k => laws_eqIntS.f k l l) true := eqIntS l h

theorem eqCmdE (x : S34) (B : BdCmdI x) : Ev (fun k => laws_eqCmd.f k x.f0 x.f1 x.f2 x.f3 x.f4 x.f0 x.f1 x.f2 x.f3 x.f4) true := by
  unfold laws_eqCmd.f
  try simp only [if_true, bne_self_eq_false, Bool.false_eq_true, if_false]
  exact ev_seq (eqIntSE x.f4 B) (by simp only [if_true, bne_self_eq_false, Bool.false_eq_true, if_false]; exact Ev.now _)

theorem eqAnsE (x : S27) (B : BdAnsI x) : Ev (fun k => laws_eqAns.f k x.f0 x.f1 x.f2 x.f0 x.f1 x.f2) true := by
  unfold laws_eqAns.f
  try simp only [if_true, bne_self_eq_false, Bool.false_eq_true, if_false]
  exact ev_seq (eqIntSE x.f2 B) (by simp only [if_true, bne_self_eq_false, Bool.false_eq_true, if_false]; exact Ev.now _)

theorem eqTurnE (x : S66) (B : BdTurnI x) : Ev (fun k => laws_eqTurn.f k x.f0.f0 x.f0.f1 x.f0.f2 x.f0.f3 x.f0.f4 x.f1.f0 x.f1.f1 x.f1.f2 x.f0.f0 x.f0.f1 x.f0.f2 x.f0.f3 x.f0.f4 x.f1.f0 x.f1.f1 x.f1.f2) true := by
  unfold laws_eqTurn.f
  try simp only [if_true, bne_self_eq_false, Bool.false_eq_true, if_false]
  exact ev_seq (eqCmdE x.f0 B.1) (by simp only [if_true, bne_self_eq_false, Bool.false_eq_true, if_false]; exact ev_seq (eqAnsE x.f1 B.2) (by simp only [if_true, bne_self_eq_false, Bool.false_eq_true, if_false]; exact Ev.now _))

theorem rdat_impl_TurnS (xs : List S66) (i : Nat) (h : i < xs.length) : rd_T66 xs (i : Int) = xs[i] := by
  unfold rd_T66
  simp [List.getD_eq_getElem?_getD, List.getElem?_eq_getElem h]

def BdTurnSI (xs : List S66) : Prop := xs.length ≤ 1048576 ∧ ∀ x ∈ xs, BdTurnI x
theorem eqTurnS_l (xs : List S66) (hl : xs.length ≤ 1048576) (B : ∀ x ∈ xs, BdTurnI x) : ∀ (d i : Nat), i ≤ xs.length → xs.length - i = d → Ev (fun k => laws_eqTurnS.l0 k xs xs (i : Int)) true := by
  intro d
  induction d with
  | zero =>
    intro i hi hd
    refine ev_pos (ev_some fun k => ?_)
    simp only [laws_eqTurnS.l0]
    rw [if_neg (by omega)]
  | succ d ih =>
    intro i hi hd
    have hlt : i < xs.length := by omega
    refine Ev.step (f := fun k => (laws_eqTurn.f k xs[i].f0.f0 xs[i].f0.f1 xs[i].f0.f2 xs[i].f0.f3 xs[i].f0.f4 xs[i].f1.f0 xs[i].f1.f1 xs[i].f1.f2 xs[i].f0.f0 xs[i].f0.f1 xs[i].f0.f2 xs[i].f0.f3 xs[i].f0.f4 xs[i].f1.f0 xs[i].f1.f1 xs[i].f1.f2).bind fun t => if t = true then laws_eqTurnS.l0 k xs xs ((i + 1 : Nat) : Int) else some false) (fun k => ?_) (ev_seq (eqTurnE xs[i] (B _ (List.getElem_mem hlt))) ?_)
    · simp only [laws_eqTurnS.l0]
      rw [if_pos (lt_len hlt), if_pos (by omega), if_pos (lt_len hlt), rdat_impl_TurnS xs i hlt, w64 (by omega) (by omega)]
      rfl
    · simp only [if_true]
      exact ih (i + 1) (by omega) (by omega)
theorem eqTurnSE (xs : List S66) (B : BdTurnSI xs) : Ev (fun k => laws_eqTurnS.f k xs xs) true := by
  have hl := B.1
  refine Ev.congr (fun k => ?_) (eqTurnS_l xs B.1 B.2 xs.length 0 (by omega) (by omega))
  unfold laws_eqTurnS.f
  rw [if_pos rfl]
  rfl

theorem bcvCmd {x : S31} (B : BdCmd x) : BdCmdI (cvCmd x) := B

theorem bcvAns {x : S24} (B : BdAns x) : BdAnsI (cvAns x) := B

theorem bcvTurn {x : S64} (B : BdTurn x) : BdTurnI (cvTurn x) := ⟨bcvCmd B.1, bcvAns B.2⟩

theorem bcvTurnS {xs : List S64} (B : BdTurnS xs) : BdTurnSI (cvTurnS xs) := by
  refine ⟨by unfold cvTurnS; rw [List.length_map]; exact B.1, fun y hy => ?_⟩
  unfold cvTurnS at hy
  obtain ⟨x, hx, rfl⟩ := List.mem_map.1 hy
  exact bcvTurn (B.2 x hx)

/-- How many blocks a command has. -/
def runLen (op n : Int) (l : List Int) : Int := if op = 1 ∨ op = 6 then n else if op = 2 ∨ op = 3 then l.length else if op = 5 then 1 else 0

/-- Whether a command would write a block. -/
def writesB (op lba n : Int) (l : List Int) (b : Int) : Bool := decide (op = 2 ∨ op = 3 ∨ op = 6 ∨ op = 5) && decide (lba ≤ b) && decide (b - lba < runLen op n l)

theorem spec_l13Len' (o i b n : Int) (l : List Int) : Ev (fun k => spec_l13Len.f k o i b n l) (runLen o n l) := by
  refine ⟨2, fun k hk => ?_⟩
  obtain ⟨k, rfl⟩ : ∃ m, k = m + 2 := ⟨k - 2, by omega⟩
  unfold runLen spec_l13Len.f
  by_cases h1 : o = 1
  · subst h1; simp [spec_l13Len.j0]
  · by_cases h6 : o = 6
    · subst h6; simp [spec_l13Len.j0]
    · by_cases h2 : o = 2
      · subst h2; simp [spec_l13Len.j0, spec_l13Len.j1]
      · by_cases h3 : o = 3
        · subst h3; simp [spec_l13Len.j0, spec_l13Len.j1]
        · by_cases h5 : o = 5
          · subst h5; simp [spec_l13Len.j0, spec_l13Len.j1]
          · simp [spec_l13Len.j0, spec_l13Len.j1, h1, h2, h3, h5, h6]

theorem runLen_in (o n : Int) (l : List Int) (hn : InI64 n) (hl : l.length ≤ 1048576) : InI64 (runLen o n l) := by
  unfold runLen InI64 at *
  split
  · omega
  · split
    · omega
    · split <;> omega

theorem w64_ge {a b : Int} (ha : InI64 a) (hb : InI64 b) (h : b ≤ a) : (wrap64 (a - b) ≥ 0 ∧ wrap64 (a - b) = a - b) ∨ (¬ wrap64 (a - b) ≥ 0 ∧ 9223372036854775807 < a - b) := by
  unfold InI64 at *
  unfold wrap64
  omega
theorem spec_Writes' (o i lba n : Int) (l : List Int) (b : Int) (hb : InI64 b) (hlba : InI64 lba) (hn : InI64 n) (hl : l.length ≤ 1048576) : Ev (fun k => spec_Writes.f k o i lba n l b) (writesB o lba n l b) := by
  obtain ⟨K, hK⟩ := spec_l13Len' o i lba n l
  refine ⟨K, fun k hk => ?_⟩
  have hr := runLen_in o n l hn hl
  unfold spec_Writes.f writesB
  simp only [hK k hk, Option.bind_some]
  by_cases hge : lba ≤ b
  · rw [if_pos (show b ≥ lba from hge)]
    rcases w64_ge hb hlba hge with ⟨h0, he⟩ | ⟨h0, hbig⟩
    · rw [if_pos h0, he]
      simp only [hge, decide_true, Bool.and_true]
      by_cases h2 : o = 2
      · simp [h2]
      · by_cases h3 : o = 3
        · simp [h3]
        · by_cases h6 : o = 6
          · simp [h6]
          · by_cases h5 : o = 5
            · simp [h5]
            · simp [h2, h3, h5, h6]
    · rw [if_neg h0]
      have : decide (b - lba < runLen o n l) = false := by unfold InI64 at hr; exact decide_eq_false (by omega)
      rw [this, Bool.and_false]
      split <;> (try rfl)
      split <;> (try rfl)
      split <;> (try rfl)
      split <;> rfl
  · rw [if_neg (show ¬ b ≥ lba from hge)]
    rw [decide_eq_false hge, Bool.and_false, Bool.false_and]
    split <;> (try rfl)
    split <;> (try rfl)
    split <;> (try rfl)
    split <;> rfl

/-- Is there a flush that was good, from place j on? -/
def flushedFrom (xs : List S66) (j : Nat) : Bool := (xs.drop j).any fun t => decide (t.f0.f0 = 4) && decide (t.f1.f1 = 0)
theorem flushedFrom_at {xs : List S66} {j : Nat} (h : j < xs.length) : flushedFrom xs j = ((decide (xs[j].f0.f0 = 4) && decide (xs[j].f1.f1 = 0)) || flushedFrom xs (j + 1)) := by
  unfold flushedFrom
  rw [List.drop_eq_getElem_cons h, List.any_cons]
theorem flushedFrom_end {xs : List S66} {j : Nat} (h : xs.length ≤ j) : flushedFrom xs j = false := by
  unfold flushedFrom
  rw [List.drop_eq_nil_of_le h]
  rfl

theorem spec_l19Flushed_l (xs : List S66) (hl : xs.length ≤ 1048576) : ∀ (d i : Nat), i ≤ xs.length → xs.length - i = d → Ev (fun k => spec_l19Flushed.l0 k xs (i : Int)) (flushedFrom xs i) := by
  intro d
  induction d with
  | zero =>
    intro i hi hd
    rw [flushedFrom_end (by omega)]
    refine ev_pos (ev_some fun k => ?_)
    simp only [spec_l19Flushed.l0]
    rw [if_neg (by omega)]
  | succ d ih =>
    intro i hi hd
    have hlt : i < xs.length := by omega
    rw [flushedFrom_at hlt]
    have hs : ∀ k, spec_l19Flushed.l0 (k + 1) xs (i : Int) = if xs[i].f0.f0 = 4 then (if xs[i].f1.f1 = 0 then some true else spec_l19Flushed.l0 k xs ((i + 1 : Nat) : Int)) else spec_l19Flushed.l0 k xs ((i + 1 : Nat) : Int) := fun k => by
      simp only [spec_l19Flushed.l0]
      rw [if_pos (lt_len hlt), if_pos (by omega), rdat_impl_TurnS xs i hlt, w64 (by omega) (by omega)]
      rfl
    refine Ev.step hs ?_
    by_cases h4 : xs[i].f0.f0 = 4
    · by_cases h0 : xs[i].f1.f1 = 0
      · simp only [if_pos h4, if_pos h0, decide_eq_true h4, decide_eq_true h0, Bool.and_self, Bool.true_or]
        exact Ev.now _
      · simp only [if_pos h4, if_neg h0, decide_eq_false h0, Bool.and_false, Bool.false_or]
        exact ih (i + 1) (by omega) (by omega)
    · simp only [if_neg h4, decide_eq_false h4, Bool.false_and, Bool.false_or]
      exact ih (i + 1) (by omega) (by omega)
theorem spec_l19Flushed' (xs : List S66) (hl : xs.length ≤ 1048576) (i : Nat) (hi : i < xs.length) : Ev (fun k => spec_l19Flushed.f k xs (i : Int)) (flushedFrom xs (i + 1)) := by
  refine Ev.congr (fun k => ?_) (spec_l19Flushed_l xs hl (xs.length - (i + 1)) (i + 1) (by omega) rfl)
  unfold spec_l19Flushed.f
  rw [w64 (by omega) (by omega)]
  rfl

/-- The place of the last of the first i that is sure. -/
def sureL (xs : List S66) (b : Int) : Nat → Int
  | 0 => -1
  | i + 1 => if h : i < xs.length then (if decide (xs[i].f1.f1 = 0) && writesB xs[i].f0.f0 xs[i].f0.f2 xs[i].f0.f3 xs[i].f0.f4 b && (decide (xs[i].f0.f0 = 3) || flushedFrom xs (i + 1)) then (i : Int) else sureL xs b i) else -1

theorem spec_SureOf_l (xs : List S66) (hl : xs.length ≤ 1048576) (W : WfTurnS xs) (B : ∀ x ∈ xs, BdTurnI x) (b : Int) (hb : InI64 b) : ∀ (i : Nat), i ≤ xs.length → Ev (fun k => spec_SureOf.l0 k xs b ((i : Int) - 1)) (sureL xs b i) := by
  intro i
  induction i with
  | zero =>
    intro _
    refine ev_pos (ev_some fun k => ?_)
    simp only [spec_SureOf.l0]
    rw [if_neg (by omega)]
    rfl
  | succ i ih =>
    intro hi
    have hlt : i < xs.length := by omega
    have w := W _ (List.getElem_mem hlt)
    have bd := B _ (List.getElem_mem hlt)
    have hw := spec_Writes' xs[i].f0.f0 xs[i].f0.f1 xs[i].f0.f2 xs[i].f0.f3 xs[i].f0.f4 b hb w.1.2.2.1 w.1.2.2.2.1 bd.1
    have hf := spec_l19Flushed' xs hl i hlt
    have hs : ∀ k, spec_SureOf.l0 (k + 1) xs b (((i + 1 : Nat) : Int) - 1) = if xs[i].f1.f1 = 0 then ((spec_Writes.f k xs[i].f0.f0 xs[i].f0.f1 xs[i].f0.f2 xs[i].f0.f3 xs[i].f0.f4 b).bind fun t => if t = true then (if xs[i].f0.f0 = 3 then some (i : Int) else ((spec_l19Flushed.f k xs (i : Int)).bind fun t => if t = true then some (i : Int) else spec_SureOf.l0 k xs b ((i : Int) - 1))) else spec_SureOf.l0 k xs b ((i : Int) - 1)) else spec_SureOf.l0 k xs b ((i : Int) - 1) := fun k => by
      have he : ((i + 1 : Nat) : Int) - 1 = (i : Int) := by omega
      simp only [spec_SureOf.l0, he]
      rw [if_pos (by omega), if_pos (by omega), if_pos (lt_len hlt), rdat_impl_TurnS xs i hlt, w64 (by omega) (by omega)]
    refine Ev.step hs ?_
    unfold sureL
    rw [dif_pos hlt]
    by_cases h0 : xs[i].f1.f1 = 0
    · simp only [if_pos h0, decide_eq_true h0, Bool.true_and]
      refine ev_seq hw ?_
      cases hW : writesB xs[i].f0.f0 xs[i].f0.f2 xs[i].f0.f3 xs[i].f0.f4 b with
      | false =>
        simp only [Bool.false_eq_true, if_false, Bool.false_and]
        exact ih (by omega)
      | true =>
        simp only [if_true, Bool.true_and]
        by_cases h3 : xs[i].f0.f0 = 3
        · simp only [if_pos h3, decide_eq_true h3, Bool.true_or, if_true]
          exact Ev.now _
        · simp only [if_neg h3, decide_eq_false h3, Bool.false_or]
          refine ev_seq hf ?_
          cases hF : flushedFrom xs (i + 1) with
          | false =>
            simp only [Bool.false_eq_true, if_false]
            exact ih (by omega)
          | true =>
            simp only [if_true]
            exact Ev.now _
    · simp only [if_neg h0, decide_eq_false h0, Bool.false_and, Bool.false_eq_true, if_false]
      exact ih (by omega)
theorem spec_SureOf' (xs : List S66) (hl : xs.length ≤ 1048576) (W : WfTurnS xs) (B : ∀ x ∈ xs, BdTurnI x) (b : Int) (hb : InI64 b) : Ev (fun k => spec_SureOf.f k xs b) (sureL xs b xs.length) := by
  refine Ev.congr (fun k => ?_) (spec_SureOf_l xs hl W B b hb xs.length (Nat.le_refl _))
  unfold spec_SureOf.f
  rw [w64 (by omega) (by omega)]

theorem impl_runOf' (o i b n : Int) (l : List Int) : Ev (fun k => impl_runOf.f k o i b n l) (runLen o n l) := by
  refine ⟨2, fun k hk => ?_⟩
  obtain ⟨k, rfl⟩ : ∃ m, k = m + 2 := ⟨k - 2, by omega⟩
  unfold runLen impl_runOf.f
  by_cases h1 : o = 1
  · subst h1; simp [impl_runOf.j0]
  · by_cases h6 : o = 6
    · subst h6; simp [impl_runOf.j0]
    · by_cases h2 : o = 2
      · subst h2; simp [impl_runOf.j0, impl_runOf.j1]
      · by_cases h3 : o = 3
        · subst h3; simp [impl_runOf.j0, impl_runOf.j1]
        · by_cases h5 : o = 5
          · subst h5; simp [impl_runOf.j0, impl_runOf.j1]
          · simp [impl_runOf.j0, impl_runOf.j1, h1, h2, h3, h5, h6]

theorem u64_of {x : Int} (h : InI64 x) : IntKind.u64.wrap x = if 0 ≤ x then x else x + 18446744073709551616 := by
  unfold InI64 at h
  rw [IntKind.wrap_u64]
  split <;> omega
theorem u64_sub {a b : Int} (ha : InI64 a) (hb : InI64 b) (h : b ≤ a) : IntKind.u64.wrap (IntKind.u64.wrap a - IntKind.u64.wrap b) = a - b := by
  rw [u64_of ha, u64_of hb, IntKind.wrap_u64]
  unfold InI64 at *
  split <;> split <;> omega
theorem impl_Writes' (o i lba n : Int) (l : List Int) (b : Int) (hb : InI64 b) (hlba : InI64 lba) (hn : InI64 n) (hl : l.length ≤ 1048576) : Ev (fun k => impl_Writes.f k o i lba n l b) (writesB o lba n l b) := by
  obtain ⟨K, hK⟩ := impl_runOf' o i lba n l
  refine ⟨K, fun k hk => ?_⟩
  have hr := runLen_in o n l hn hl
  unfold impl_Writes.f writesB
  simp only [hK k hk, Option.bind_some]
  by_cases h1 : o = 1
  · subst h1
    simp
  · rw [if_neg h1]
    by_cases hge : lba ≤ b
    · rw [if_pos (show b ≥ lba from hge), u64_sub hb hlba hge]
      simp only [hge, decide_true, Bool.and_true]
      have hm : IntKind.u64.wrap (mx (runLen o n l) 0) = if 0 ≤ runLen o n l then runLen o n l else 0 := by
        rw [IntKind.wrap_u64]
        unfold InI64 at hr
        unfold mx
        split <;> split <;> omega
      rw [hm]
      congr 1
      by_cases hop : o = 2 ∨ o = 3 ∨ o = 6 ∨ o = 5
      · rw [decide_eq_true hop, Bool.true_and]
        split
        · rfl
        · rw [decide_eq_false (by omega), decide_eq_false (by omega)]
      · rw [decide_eq_false hop, Bool.false_and]
        have : runLen o n l = 0 := by unfold runLen; rw [if_neg (by omega), if_neg (by omega), if_neg (by omega)]
        rw [this]
        exact decide_eq_false (by simp; omega)
    · rw [if_neg (show ¬ b ≥ lba from hge), decide_eq_false hge, Bool.and_false, Bool.false_and]

theorem impl_SureOf_l (xs : List S66) (hl : xs.length ≤ 1048576) (W : WfTurnS xs) (B : ∀ x ∈ xs, BdTurnI x) (b : Int) (hb : InI64 b) : ∀ (i : Nat), i ≤ xs.length → Ev (fun k => impl_SureOf.l0 k xs b (flushedFrom xs i) ((i : Int) - 1)) (sureL xs b i) := by
  intro i
  induction i with
  | zero =>
    intro _
    refine ev_pos (ev_some fun k => ?_)
    simp only [impl_SureOf.l0]
    rw [if_neg (by omega)]
    rfl
  | succ i ih =>
    intro hi
    have hlt : i < xs.length := by omega
    have w := W _ (List.getElem_mem hlt)
    have bd := B _ (List.getElem_mem hlt)
    have hw := impl_Writes' xs[i].f0.f0 xs[i].f0.f1 xs[i].f0.f2 xs[i].f0.f3 xs[i].f0.f4 b hb w.1.2.2.1 w.1.2.2.2.1 bd.1
    have ih := ih (by omega)
    rw [flushedFrom_at hlt] at ih
    have hs : ∀ k, impl_SureOf.l0 (k + 1) xs b (flushedFrom xs (i + 1)) (((i + 1 : Nat) : Int) - 1) = if xs[i].f1.f1 = 0 then ((impl_Writes.f k xs[i].f0.f0 xs[i].f0.f1 xs[i].f0.f2 xs[i].f0.f3 xs[i].f0.f4 b).bind fun t => if t = true then (if flushedFrom xs (i + 1) = true then some (i : Int) else (if xs[i].f0.f0 = 3 then some (i : Int) else impl_SureOf.l0 k xs b (xs[i].f0.f0 == 4) ((i : Int) - 1))) else (if flushedFrom xs (i + 1) = true then impl_SureOf.l0 k xs b true ((i : Int) - 1) else impl_SureOf.l0 k xs b (xs[i].f0.f0 == 4) ((i : Int) - 1))) else impl_SureOf.l0 k xs b (flushedFrom xs (i + 1)) ((i : Int) - 1) := fun k => by
      have he : ((i + 1 : Nat) : Int) - 1 = (i : Int) := by omega
      simp only [impl_SureOf.l0, he]
      rw [if_pos (by omega), if_pos (by omega), if_pos (lt_len hlt), rdat_impl_TurnS xs i hlt, w64 (by omega) (by omega)]
    refine Ev.step hs ?_
    unfold sureL
    rw [dif_pos hlt]
    by_cases h0 : xs[i].f1.f1 = 0
    · have e4 : (xs[i].f0.f0 == 4) = decide (xs[i].f0.f0 = 4) := rfl
      simp only [decide_eq_true h0, Bool.and_true] at ih
      simp only [if_pos h0, decide_eq_true h0, Bool.true_and]
      refine ev_seq hw ?_
      cases hW : writesB xs[i].f0.f0 xs[i].f0.f2 xs[i].f0.f3 xs[i].f0.f4 b with
      | false =>
        simp only [Bool.false_eq_true, if_false, Bool.false_and]
        cases hF : flushedFrom xs (i + 1) with
        | false =>
          rw [hF, Bool.or_false] at ih
          simp only [Bool.false_eq_true, if_false]
          exact ih
        | true =>
          rw [hF, Bool.or_true] at ih
          simp only [if_true]
          exact ih
      | true =>
        simp only [if_true, Bool.true_and]
        cases hF : flushedFrom xs (i + 1) with
        | true =>
          simp only [if_true, Bool.or_true]
          exact Ev.now _
        | false =>
          rw [hF, Bool.or_false] at ih
          by_cases h3 : xs[i].f0.f0 = 3
          · simp only [if_pos h3, decide_eq_true h3, Bool.true_or, if_true, Bool.false_eq_true, if_false]
            exact Ev.now _
          · simp only [if_neg h3, decide_eq_false h3, Bool.false_or, Bool.false_eq_true, if_false]
            exact ih
    · simp only [decide_eq_false h0, Bool.and_false, Bool.false_or] at ih
      simp only [if_neg h0, decide_eq_false h0, Bool.false_and, Bool.false_eq_true, if_false]
      exact ih
theorem impl_SureOf' (xs : List S66) (hl : xs.length ≤ 1048576) (W : WfTurnS xs) (B : ∀ x ∈ xs, BdTurnI x) (b : Int) (hb : InI64 b) : Ev (fun k => impl_SureOf.f k xs b) (sureL xs b xs.length) := by
  have h := impl_SureOf_l xs hl W B b hb xs.length (Nat.le_refl _)
  rw [flushedFrom_end (Nat.le_refl _)] at h
  refine Ev.congr (fun k => ?_) h
  unfold impl_SureOf.f
  rw [w64 (by omega) (by omega)]

theorem FnExactSureOf (y0 : List S64) (F0 : Fit39 y0) (y1 : Int) (F1 : Fit3 y1) : ∃ k, laws_FnExactSureOf.f k y0 y1 = some true := by
  refine Ev.rounds ?_
  unfold laws_FnExactSureOf.f
  obtain ⟨r, hr, h⟩ := szTurnSE y0 F0 1048576 (by omega) (by omega)
  refine ev_seq hr ?_
  rcases h with rfl | ⟨h0, h1, B⟩
  · simp only [if_pos neg1]; exact Ev.now _
  simp only [if_neg (show ¬ r < 0 by omega)]
  have b0 := i64_of_wf F1
  have W := wfcvTurnS F0.2
  have BI := bcvTurnS B
  refine ev_seq (toTurnSE y0 B) (ev_seq (spec_SureOf' _ BI.1 W BI.2 _ b0) (ev_seq (toTurnSE y0 B) (ev_seq (impl_SureOf' _ BI.1 W BI.2 _ b0) ?_)))
  simp only [if_true]
  refine ev_seq (toTurnSE y0 B) (ev_seq (eqTurnSE _ BI) ?_)
  simp only [if_true]
  exact Ev.now _

end Go.Proofs.Ytbiobflmkicjnaa.Pure
