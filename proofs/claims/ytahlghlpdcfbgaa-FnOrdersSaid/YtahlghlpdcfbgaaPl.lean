/- The laws' own functions: sizes, copies, comparisons; what comes in, as the program's structures. No condition. -/
import Derived.Test.YtahlghlpdcfbgaaPb
import Derived.Test.YtahlghlpdcfbgaaEq
namespace Go.Proofs.Ytahlghlpdcfbgaa.Ev
open Go
set_option linter.unusedVariables false
set_option linter.unusedSimpArgs false
set_option maxHeartbeats 1000000
def inI (n : Int) : Prop := -9223372036854775808 ≤ n ∧ n ≤ 9223372036854775807
def LF {α : Type} (p : α → Prop) (l : List α) : Prop := l.length ≤ maxLen ∧ ∀ x ∈ l, p x
theorem maxLen_le : maxLen ≤ 9223372036854775807 := by unfold maxLen; omega
def Geo.Fit (x : Geo) : Prop := inI x.N ∧ inI x.S
def Wr.Fit (x : Wr) : Prop := inI x.N ∧ LF inI x.S
def Dsk.Fit (x : Dsk) : Prop := LF (LF inI) x.Secs ∧ LF Wr.Fit x.Cache ∧ True ∧ LF inI x.Bad
def Super.Fit (x : Super) : Prop := inI x.Id ∧ inI x.Gen ∧ inI x.Role ∧ inI x.N ∧ inI x.S ∧ inI x.Tail ∧ inI x.Lost ∧ inI x.Built
def Rec.Fit (x : Rec) : Prop := inI x.Seq ∧ inI x.Stripe ∧ LF inI x.Data
def Ent.Fit (x : Ent) : Prop := inI x.Stripe ∧ LF inI x.Data
def Arr.Fit (x : Arr) : Prop := inI x.Id ∧ x.G.Fit ∧ LF Dsk.Fit x.Mems ∧ inI x.Lost ∧ inI x.Built ∧ inI x.Seq ∧ inI x.Tail ∧ inI x.Gen ∧ LF Ent.Fit x.Dirty ∧ inI x.Fuse ∧ True ∧ True
def Cmd.Fit (x : Cmd) : Prop := inI x.Op ∧ inI x.Id ∧ inI x.Lba ∧ inI x.N ∧ LF inI x.Vals
def Job.Fit (x : Job) : Prop := x.C.Fit ∧ inI x.At ∧ LF inI x.Got ∧ inI x.Code
def Ans.Fit (x : Ans) : Prop := inI x.Id ∧ inI x.Code ∧ LF inI x.Vals
def Turn.Fit (x : Turn) : Prop := x.C.Fit ∧ x.A.Fit
def Eng.Fit (x : Eng) : Prop := x.A.Fit ∧ LF Cmd.Fit x.Wait ∧ LF Job.Fit x.Jobs ∧ LF Ans.Fit x.Done ∧ LF Turn.Fit x.Log
def Event.Fit (x : Event) : Prop := inI x.Kind ∧ x.C.Fit ∧ inI x.K ∧ inI x.S ∧ LF inI x.Keeps

def szA (w : Nat) (a : Int) : Int := if a < (w : Int) then -1 else a - w
theorem szA_neg {w : Nat} {a : Int} (h : a < (w : Int)) : szA w a = -1 := if_pos h
theorem szA_pos {w : Nat} {a : Int} (h : (w : Int) ≤ a) : szA w a = a - w := if_neg (by omega)
theorem szA_szA {W v : Nat} {a : Int} (h : (W : Int) ≤ a) : szA v (szA W a) = szA (W + v) a := by
  rw [szA_pos h]; unfold szA
  by_cases g : a - W < (v : Int)
  · rw [if_pos g, if_pos (by omega)]
  · rw [if_neg g, if_neg (by omega)]; omega
theorem sz_step {W W' : Nat} {a : Int} (h : W ≤ W') {F : Option Outs} (h0 : 0 ≤ a) (hF : (W : Int) ≤ a → F = some ⟨[.i (szA W' a)], []⟩) : (bif decide (szA W a < 0) then some ⟨[.i (-1)], []⟩ else F) = some ⟨[.i (szA W' a)], []⟩ := by
  by_cases g : (W : Int) ≤ a
  · rw [szA_pos g, decide_eq_false (by omega)]; exact hF g
  · rw [szA_neg (by omega), szA_neg (w := W') (by omega)]; rfl
theorem szA_b {W : Nat} {a : Int} (h1 : a ≤ 1048576) (g : (W : Int) ≤ a) : 0 ≤ szA W a ∧ szA W a ≤ 1048576 := by rw [szA_pos g]; omega
theorem fixN_upP {V R : Type} {b : (V → Option R) → V → Option R} (n : Nat) (st : Nat → V) (ans : Nat → Option R) (P : Nat → Prop) (h0 : P 0)
    (h : ∀ i, i < n → P i → ∀ G, (P (i + 1) → G (st (i + 1)) = ans (i + 1)) → b G (st i) = ans i) (he : P n → ∀ G, b G (st n) = ans n) {j : Nat} (hj : n < j) : fixN b j (st 0) = ans 0 := by
  have : ∀ d i j, i + d = n → d < j → P i → fixN b j (st i) = ans i := by
    intro d
    induction d with
    | zero =>
      intro i j hi hj hp
      obtain ⟨j, rfl⟩ : ∃ m, j = m + 1 := ⟨j - 1, by omega⟩
      obtain rfl : i = n := by omega
      exact he hp _
    | succ d ih =>
      intro i j hi hj hp
      obtain ⟨j, rfl⟩ : ∃ m, j = m + 1 := ⟨j - 1, by omega⟩
      exact h i (by omega) hp _ (fun hp' => ih (i + 1) j (by omega) (by omega) hp')
  exact this n 0 j (by omega) hj h0
theorem sum_take {α : Type} (w : α → Nat) (l : List α) {i : Nat} (h : i < l.length) : ((l.take (i + 1)).map w).sum = ((l.take i).map w).sum + w l[i] := by
  rw [List.take_succ_eq_append_getElem h]; simp only [List.map_append, List.sum_append, List.map_cons, List.map_nil, List.sum_cons, List.sum_nil, Nat.add_zero]
theorem sum_take_le {α : Type} (w : α → Nat) (l : List α) (i : Nat) : ((l.take i).map w).sum ≤ (l.map w).sum := by
  conv => rhs; rw [← List.take_append_drop i l]
  rw [List.map_append, List.sum_append]; exact Nat.le_add_right _ _
theorem dlt {i n : Nat} (h : i < n) : decide ((i : Int) < (n : Int)) = true := decide_eq_true (by omega)
theorem dll {n : Nat} : decide ((n : Int) < (n : Int)) = false := decide_eq_false (by omega)
theorem d0 {n : Nat} : decide (0 ≤ (n : Int)) = true := decide_eq_true (by omega)
/-- The sizes of a slice's elements. -/
theorem sz_loop {α : Type} (w : α → Nat) (l : List α) {b : (Int × Int → Option Outs) → Int × Int → Option Outs} {a : Int} (h0 : 0 ≤ a) (h1 : a ≤ 1048576) (hl : l.length ≤ 1048576)
    (h : ∀ (i : Nat) (hi : i < l.length) (a : Int), 0 ≤ a → a ≤ 1048576 → ∀ G, b G (a, (i : Int)) = (bif decide (szA (w l[i]) a < 0) then some ⟨[.i (-1)], []⟩ else G (szA (w l[i]) a, IntKind.wrap .i64 ((i : Int) + 1))))
    (he : ∀ a G, b G (a, (l.length : Int)) = some ⟨[.i a], []⟩) {j : Nat} (hj : Big ≤ j) : fixN b j (a, 0) = some ⟨[.i (szA (l.map w).sum a)], []⟩ := by
  have := fixN_upP (b := b) l.length (fun i => (szA ((l.take i).map w).sum a, (i : Int))) (fun _ => some ⟨[.i (szA (l.map w).sum a)], []⟩) (fun i => ((((l.take i).map w).sum : Nat) : Int) ≤ a) (by simpa using h0) ?_ ?_ (j := j) (by unfold Big at hj; omega)
  · have e : szA 0 a = a := by rw [szA_pos (by omega)]; omega
    simpa [e] using this
  · intro i hi hp G hG
    obtain ⟨b0, b1⟩ := szA_b h1 hp
    rw [h i hi _ b0 b1, szA_szA hp, ← sum_take w l hi, wrap_up (by omega)]
    exact sz_step (sum_take_le w l (i + 1)) h0 hG
  · intro hp G
    rw [he, List.take_length]
theorem put_fill {α : Type} (enc : α → List T) (l : List α) (z : List T) {i : Nat} (hi : i < l.length) {ts : List T} (ht : ts = enc l[i]) (hz : z.length = ts.length) :
    put_ ((l.take i).map enc ++ List.replicate (l.length - i) z) i 0 ts = (l.take (i + 1)).map enc ++ List.replicate (l.length - (i + 1)) z := by
  unfold put_
  have e1 : ((l.take i).map enc ++ List.replicate (l.length - i) z).getD i [] = z := by
    rw [List.getD_eq_getElem?_getD, List.getElem?_append_right (by simp; omega), List.length_map, List.length_take, Nat.min_eq_left (by omega), Nat.sub_self]
    rw [List.getElem?_replicate, if_pos (by omega)]; rfl
  rw [e1]
  have e2 : spliceT z 0 ts = ts := by
    cases z <;> simp only [spliceT] <;> rw [List.drop_eq_nil_of_le (by rw [← hz]; exact Nat.le_refl _), List.append_nil]
  rw [e2, List.set_append_right _ _ (by simp; omega), List.length_map, List.length_take, Nat.min_eq_left (by omega), Nat.sub_self]
  rw [List.take_succ_eq_append_getElem hi, List.map_append, List.append_assoc, show l.length - i = (l.length - (i + 1)) + 1 by omega, List.replicate_succ, List.set_cons_zero, ht]
  rfl
/-- A slice is copied element by element. -/
theorem to_loop {α : Type} (enc : α → List T) (l : List α) (z : List T) {b : (Int × List (List T) → Option Outs) → Int × List (List T) → Option Outs} (hl : l.length ≤ 1048576)
    (h : ∀ (i : Nat) (hi : i < l.length) (q : List (List T)), q.length = l.length → ∀ G, b G ((i : Int), q) = G (IntKind.wrap .i64 ((i : Int) + 1), put_ q i 0 (enc l[i])))
    (hz : ∀ x ∈ l, z.length = (enc x).length) (he : ∀ q G, b G ((l.length : Int), q) = some ⟨[.r q], []⟩) {j : Nat} (hj : Big ≤ j) : fixN b j (0, List.replicate l.length z) = some ⟨[.r (l.map enc)], []⟩ := by
  have := fixN_up (b := b) l.length (fun i => ((i : Int), (l.take i).map enc ++ List.replicate (l.length - i) z)) (fun _ => some ⟨[.r (l.map enc)], []⟩) ?_ ?_ (j := j) (by unfold Big at hj; omega)
  · simpa using this
  · intro i hi G hG
    rw [h i hi _ (by simp; omega), wrap_up (by omega), put_fill enc l z hi rfl (hz _ (List.getElem_mem hi))]
    exact hG
  · intro G
    rw [he]; simp
theorem eq_loop (n : Nat) {b : (Int → Option Outs) → Int → Option Outs} (hl : n ≤ 1048576)
    (h : ∀ (i : Nat), i < n → ∀ G, b G (i : Int) = G (IntKind.wrap .i64 ((i : Int) + 1))) (he : ∀ G, b G (n : Int) = some ⟨[.b true], []⟩) {j : Nat} (hj : Big ≤ j) : fixN b j 0 = some ⟨[.b true], []⟩ := by
  refine fixN_up (b := b) n (fun i => (i : Int)) (fun _ => some ⟨[.b true], []⟩) (fun i hi G hG => ?_) he (j := j) (by unfold Big at hj; omega)
  rw [h i hi, wrap_up (by omega)]; exact hG

theorem szIntS_r (x : List Int) (hx : LF inI x) (a : Int) (h0 : 0 ≤ a) (h1 : a ≤ 1048576) : Rn 1 N.laws_szIntS [.v [.r (eIs x)], .v [.i a]] ⟨[.i (szA (x.length) a)], []⟩ := by
  refine Rn.of fun k hk => ?_
  rw [laws_szIntS_e]; unfold laws_szIntS_u
  have hl := hx.1
  unfold maxLen at hl
  rw [List.length_map, wrap_id (by omega) (by omega)]
  by_cases g : a < (x.length : Int)
  · rw [decide_eq_true (by omega), szA_neg g]; rfl
  · rw [decide_eq_false (by omega), szA_pos (by omega)]; rfl
theorem toIntS_r (x : List Int) (hx : x.length ≤ 1048576) : Rn 1 N.laws_toIntS [.v [.r (eIs x)]] ⟨[.r (eIs x)], []⟩ := by
  refine Rn.of fun k hk => ?_
  rw [laws_toIntS_e]; unfold laws_toIntS_u
  unfold laws_toIntS_U
  rw [List.length_map, chk_ok (by simp; omega)]
  rw [Int.toNat_natCast]
  refine to_loop (fun n => [.i n]) x _ (by omega) (fun i hi q hq G => ?_) (fun y hy => rfl) (fun q G => ?_) (by omega)
  · unfold laws_toIntS_l1 laws_toIntS_L1
    simp only [List.length_map, at_map _ hi, dlt hi, hq, d0, Bool.and_self, chk_true, Outs.t_mk, List.getD_cons_zero, List.getD_cons_succ, T.asI_i, T.asB_b, T.asR_r, Int.toNat_natCast, bindO_some, Bool.not_true, cond_false, cond_true, Bool.not_false]
  · unfold laws_toIntS_l1 laws_toIntS_L1
    simp only [List.length_map, dll, cond_false]
theorem eqIntS_r (x : List Int) (hx : x.length ≤ 1048576) : Rn 1 N.laws_eqIntS [.v [.r (eIs x)], .v [.r (eIs x)]] ⟨[.b true], []⟩ := by
  refine Rn.of fun k hk => ?_
  rw [laws_eqIntS_e]; unfold laws_eqIntS_u
  unfold laws_eqIntS_U
  simp only [bne_self_eq_false, cond_false]
  refine eq_loop x.length (by omega) (fun i hi G => ?_) (fun G => ?_) (by omega)
  · unfold laws_eqIntS_l1 laws_eqIntS_L1
    simp only [List.length_map, at_map _ hi, dlt hi, bne_self_eq_false, d0, Bool.and_self, chk_true, Outs.t_mk, List.getD_cons_zero, List.getD_cons_succ, T.asI_i, T.asB_b, T.asR_r, Int.toNat_natCast, bindO_some, Bool.not_true, cond_false, cond_true, Bool.not_false]
  · unfold laws_eqIntS_l1 laws_eqIntS_L1
    simp only [List.length_map, dll, cond_false]
theorem eqIntSS_r (x : List (List Int)) (hx : wL List.length x ≤ 1048576) : Rn 2 N.laws_eqIntSS [.v [.r (eIss x)], .v [.r (eIss x)]] ⟨[.b true], []⟩ := by
  refine Rn.of fun k hk => ?_
  rw [laws_eqIntSS_e]; unfold laws_eqIntSS_u
  unfold laws_eqIntSS_U
  simp only [bne_self_eq_false, cond_false]
  unfold wL at hx
  refine eq_loop x.length (by omega) (fun i hi G => ?_) (fun G => ?_) (by omega)
  · unfold laws_eqIntSS_l1 laws_eqIntSS_L1
    simp only [List.length_map, at_map _ hi, dlt hi, bne_self_eq_false, d0, Bool.and_self, chk_true, Outs.t_mk, List.getD_cons_zero, List.getD_cons_succ, T.asI_i, T.asB_b, T.asR_r, Int.toNat_natCast, bindO_some, Bool.not_true, cond_false, cond_true, Bool.not_false]
    have hw := wL_get List.length hi
    unfold wL at hw
    rw [eqIntS_r x[i] (by omega) k (by omega)]
    rfl
  · unfold laws_eqIntSS_l1 laws_eqIntSS_L1
    simp only [List.length_map, dll, cond_false]
theorem toGeo_r (x : Geo) : Rn 1 N.laws_toGeo [.v x.e] ⟨x.e, []⟩ := by
  refine Rn.of fun k hk => ?_
  rw [laws_toGeo_e]; unfold laws_toGeo_u
  rfl
theorem eqGeo_r (x : Geo) : Rn 1 N.laws_eqGeo [.v x.e, .v x.e] ⟨[.b true], []⟩ := by
  refine Rn.of fun k hk => ?_
  rw [laws_eqGeo_e]; unfold laws_eqGeo_u
  try simp only [bne_self_eq_false, cond_false, beq_self_eq_true, Bool.not_true]
theorem eqWr_r (x : Wr) (hx : x.w ≤ 1048576) : Rn 2 N.laws_eqWr [.v x.e, .v x.e] ⟨[.b true], []⟩ := by
  refine Rn.of fun k hk => ?_
  rw [laws_eqWr_e]; unfold laws_eqWr_u
  unfold Wr.w at hx
  try simp only [bne_self_eq_false, cond_false, beq_self_eq_true, Bool.not_true]
  rw [eqIntS_r x.S (by omega) k (by omega)]
  simp only [bne_self_eq_false, beq_self_eq_true, d0, Bool.and_self, chk_true, Outs.t_mk, List.getD_cons_zero, List.getD_cons_succ, T.asI_i, T.asB_b, T.asR_r, Int.toNat_natCast, bindO_some, Bool.not_true, cond_false, cond_true, Bool.not_false]
theorem eqWrS_r (x : List Wr) (hx : wL Wr.w x ≤ 1048576) : Rn 3 N.laws_eqWrS [.v [.r (eWrs x)], .v [.r (eWrs x)]] ⟨[.b true], []⟩ := by
  refine Rn.of fun k hk => ?_
  rw [laws_eqWrS_e]; unfold laws_eqWrS_u
  unfold laws_eqWrS_U
  simp only [bne_self_eq_false, cond_false]
  unfold wL at hx
  refine eq_loop x.length (by omega) (fun i hi G => ?_) (fun G => ?_) (by omega)
  · unfold laws_eqWrS_l1 laws_eqWrS_L1
    simp only [List.length_map, at_map _ hi, dlt hi, bne_self_eq_false, d0, Bool.and_self, chk_true, Outs.t_mk, List.getD_cons_zero, List.getD_cons_succ, T.asI_i, T.asB_b, T.asR_r, Int.toNat_natCast, bindO_some, Bool.not_true, cond_false, cond_true, Bool.not_false]
    have hw := wL_get Wr.w hi
    unfold wL at hw
    rw [eqWr_r x[i] (by omega) k (by omega)]
    rfl
  · unfold laws_eqWrS_l1 laws_eqWrS_L1
    simp only [List.length_map, dll, cond_false]
theorem eqMem_r (x : Dsk) (hx : x.w ≤ 1048576) : Rn 4 N.laws_eqMem [.v x.e, .v x.e] ⟨[.b true], []⟩ := by
  refine Rn.of fun k hk => ?_
  rw [laws_eqMem_e]; unfold laws_eqMem_u
  unfold Dsk.w at hx
  try simp only [bne_self_eq_false, cond_false, beq_self_eq_true, Bool.not_true]
  rw [eqIntSS_r x.Secs (by omega) k (by omega)]
  simp only [bne_self_eq_false, beq_self_eq_true, d0, Bool.and_self, chk_true, Outs.t_mk, List.getD_cons_zero, List.getD_cons_succ, T.asI_i, T.asB_b, T.asR_r, Int.toNat_natCast, bindO_some, Bool.not_true, cond_false, cond_true, Bool.not_false]
  rw [eqWrS_r x.Cache (by omega) k (by omega)]
  simp only [bne_self_eq_false, beq_self_eq_true, d0, Bool.and_self, chk_true, Outs.t_mk, List.getD_cons_zero, List.getD_cons_succ, T.asI_i, T.asB_b, T.asR_r, Int.toNat_natCast, bindO_some, Bool.not_true, cond_false, cond_true, Bool.not_false]
  rw [eqIntS_r x.Bad (by omega) k (by omega)]
  simp only [bne_self_eq_false, beq_self_eq_true, d0, Bool.and_self, chk_true, Outs.t_mk, List.getD_cons_zero, List.getD_cons_succ, T.asI_i, T.asB_b, T.asR_r, Int.toNat_natCast, bindO_some, Bool.not_true, cond_false, cond_true, Bool.not_false]
theorem eqMemS_r (x : List Dsk) (hx : wL Dsk.w x ≤ 1048576) : Rn 5 N.laws_eqMemS [.v [.r (eMems x)], .v [.r (eMems x)]] ⟨[.b true], []⟩ := by
  refine Rn.of fun k hk => ?_
  rw [laws_eqMemS_e]; unfold laws_eqMemS_u
  unfold laws_eqMemS_U
  simp only [bne_self_eq_false, cond_false]
  unfold wL at hx
  refine eq_loop x.length (by omega) (fun i hi G => ?_) (fun G => ?_) (by omega)
  · unfold laws_eqMemS_l1 laws_eqMemS_L1
    simp only [List.length_map, at_map _ hi, dlt hi, bne_self_eq_false, d0, Bool.and_self, chk_true, Outs.t_mk, List.getD_cons_zero, List.getD_cons_succ, T.asI_i, T.asB_b, T.asR_r, Int.toNat_natCast, bindO_some, Bool.not_true, cond_false, cond_true, Bool.not_false]
    have hw := wL_get Dsk.w hi
    unfold wL at hw
    rw [eqMem_r x[i] (by omega) k (by omega)]
    rfl
  · unfold laws_eqMemS_l1 laws_eqMemS_L1
    simp only [List.length_map, dll, cond_false]
theorem eqEnt_r (x : Ent) (hx : x.w ≤ 1048576) : Rn 2 N.laws_eqEnt [.v x.e, .v x.e] ⟨[.b true], []⟩ := by
  refine Rn.of fun k hk => ?_
  rw [laws_eqEnt_e]; unfold laws_eqEnt_u
  unfold Ent.w at hx
  try simp only [bne_self_eq_false, cond_false, beq_self_eq_true, Bool.not_true]
  rw [eqIntS_r x.Data (by omega) k (by omega)]
  simp only [bne_self_eq_false, beq_self_eq_true, d0, Bool.and_self, chk_true, Outs.t_mk, List.getD_cons_zero, List.getD_cons_succ, T.asI_i, T.asB_b, T.asR_r, Int.toNat_natCast, bindO_some, Bool.not_true, cond_false, cond_true, Bool.not_false]
theorem eqEntS_r (x : List Ent) (hx : wL Ent.w x ≤ 1048576) : Rn 3 N.laws_eqEntS [.v [.r (eEnts x)], .v [.r (eEnts x)]] ⟨[.b true], []⟩ := by
  refine Rn.of fun k hk => ?_
  rw [laws_eqEntS_e]; unfold laws_eqEntS_u
  unfold laws_eqEntS_U
  simp only [bne_self_eq_false, cond_false]
  unfold wL at hx
  refine eq_loop x.length (by omega) (fun i hi G => ?_) (fun G => ?_) (by omega)
  · unfold laws_eqEntS_l1 laws_eqEntS_L1
    simp only [List.length_map, at_map _ hi, dlt hi, bne_self_eq_false, d0, Bool.and_self, chk_true, Outs.t_mk, List.getD_cons_zero, List.getD_cons_succ, T.asI_i, T.asB_b, T.asR_r, Int.toNat_natCast, bindO_some, Bool.not_true, cond_false, cond_true, Bool.not_false]
    have hw := wL_get Ent.w hi
    unfold wL at hw
    rw [eqEnt_r x[i] (by omega) k (by omega)]
    rfl
  · unfold laws_eqEntS_l1 laws_eqEntS_L1
    simp only [List.length_map, dll, cond_false]
theorem eqArr_r (x : Arr) (hx : x.w ≤ 1048576) : Rn 6 N.laws_eqArr [.v x.e, .v x.e] ⟨[.b true], []⟩ := by
  refine Rn.of fun k hk => ?_
  rw [laws_eqArr_e]; unfold laws_eqArr_u
  unfold Arr.w at hx
  try simp only [bne_self_eq_false, cond_false, beq_self_eq_true, Bool.not_true]
  rw [eqGeo_r x.G k (by omega)]
  simp only [bne_self_eq_false, beq_self_eq_true, d0, Bool.and_self, chk_true, Outs.t_mk, List.getD_cons_zero, List.getD_cons_succ, T.asI_i, T.asB_b, T.asR_r, Int.toNat_natCast, bindO_some, Bool.not_true, cond_false, cond_true, Bool.not_false]
  rw [eqMemS_r x.Mems (by omega) k (by omega)]
  simp only [bne_self_eq_false, beq_self_eq_true, d0, Bool.and_self, chk_true, Outs.t_mk, List.getD_cons_zero, List.getD_cons_succ, T.asI_i, T.asB_b, T.asR_r, Int.toNat_natCast, bindO_some, Bool.not_true, cond_false, cond_true, Bool.not_false]
  rw [eqEntS_r x.Dirty (by omega) k (by omega)]
  simp only [bne_self_eq_false, beq_self_eq_true, d0, Bool.and_self, chk_true, Outs.t_mk, List.getD_cons_zero, List.getD_cons_succ, T.asI_i, T.asB_b, T.asR_r, Int.toNat_natCast, bindO_some, Bool.not_true, cond_false, cond_true, Bool.not_false]
theorem szCmd_r (x : Cmd) (hx : x.Fit) (a : Int) (h0 : 0 ≤ a) (h1 : a ≤ 1048576) : Rn 2 N.laws_szCmd [.v x.e, .v [.i a]] ⟨[.i (szA (x.w) a)], []⟩ := by
  refine Rn.of fun k hk => ?_
  rw [laws_szCmd_e]; unfold laws_szCmd_u
  rw [szIntS_r x.Vals (hx.2.2.2.2) a h0 h1 k (by omega)]
  simp only [d0, Bool.and_self, chk_true, Outs.t_mk, List.getD_cons_zero, List.getD_cons_succ, T.asI_i, T.asB_b, T.asR_r, Int.toNat_natCast, bindO_some, Bool.not_true, cond_false, cond_true, Bool.not_false]
  refine sz_step (W := x.Vals.length) (by unfold Cmd.w; omega) h0 fun g1 => ?_
  rfl
theorem toCmd_r (x : Cmd) (hx : x.w ≤ 1048576) : Rn 2 N.laws_toCmd [.v x.e] ⟨x.e, []⟩ := by
  refine Rn.of fun k hk => ?_
  rw [laws_toCmd_e]; unfold laws_toCmd_u
  unfold Cmd.w at hx
  rw [toIntS_r x.Vals (by omega) k (by omega)]
  rfl
theorem eqCmd_r (x : Cmd) (hx : x.w ≤ 1048576) : Rn 2 N.laws_eqCmd [.v x.e, .v x.e] ⟨[.b true], []⟩ := by
  refine Rn.of fun k hk => ?_
  rw [laws_eqCmd_e]; unfold laws_eqCmd_u
  unfold Cmd.w at hx
  try simp only [bne_self_eq_false, cond_false, beq_self_eq_true, Bool.not_true]
  rw [eqIntS_r x.Vals (by omega) k (by omega)]
  simp only [bne_self_eq_false, beq_self_eq_true, d0, Bool.and_self, chk_true, Outs.t_mk, List.getD_cons_zero, List.getD_cons_succ, T.asI_i, T.asB_b, T.asR_r, Int.toNat_natCast, bindO_some, Bool.not_true, cond_false, cond_true, Bool.not_false]
theorem eqCmdS_r (x : List Cmd) (hx : wL Cmd.w x ≤ 1048576) : Rn 3 N.laws_eqCmdS [.v [.r (eCmds x)], .v [.r (eCmds x)]] ⟨[.b true], []⟩ := by
  refine Rn.of fun k hk => ?_
  rw [laws_eqCmdS_e]; unfold laws_eqCmdS_u
  unfold laws_eqCmdS_U
  simp only [bne_self_eq_false, cond_false]
  unfold wL at hx
  refine eq_loop x.length (by omega) (fun i hi G => ?_) (fun G => ?_) (by omega)
  · unfold laws_eqCmdS_l1 laws_eqCmdS_L1
    simp only [List.length_map, at_map _ hi, dlt hi, bne_self_eq_false, d0, Bool.and_self, chk_true, Outs.t_mk, List.getD_cons_zero, List.getD_cons_succ, T.asI_i, T.asB_b, T.asR_r, Int.toNat_natCast, bindO_some, Bool.not_true, cond_false, cond_true, Bool.not_false]
    have hw := wL_get Cmd.w hi
    unfold wL at hw
    rw [eqCmd_r x[i] (by omega) k (by omega)]
    rfl
  · unfold laws_eqCmdS_l1 laws_eqCmdS_L1
    simp only [List.length_map, dll, cond_false]
theorem eqJob_r (x : Job) (hx : x.w ≤ 1048576) : Rn 3 N.laws_eqJob [.v x.e, .v x.e] ⟨[.b true], []⟩ := by
  refine Rn.of fun k hk => ?_
  rw [laws_eqJob_e]; unfold laws_eqJob_u
  unfold Job.w at hx
  try simp only [bne_self_eq_false, cond_false, beq_self_eq_true, Bool.not_true]
  rw [eqCmd_r x.C (by omega) k (by omega)]
  simp only [bne_self_eq_false, beq_self_eq_true, d0, Bool.and_self, chk_true, Outs.t_mk, List.getD_cons_zero, List.getD_cons_succ, T.asI_i, T.asB_b, T.asR_r, Int.toNat_natCast, bindO_some, Bool.not_true, cond_false, cond_true, Bool.not_false]
  rw [eqIntS_r x.Got (by omega) k (by omega)]
  simp only [bne_self_eq_false, beq_self_eq_true, d0, Bool.and_self, chk_true, Outs.t_mk, List.getD_cons_zero, List.getD_cons_succ, T.asI_i, T.asB_b, T.asR_r, Int.toNat_natCast, bindO_some, Bool.not_true, cond_false, cond_true, Bool.not_false]
theorem eqJobS_r (x : List Job) (hx : wL Job.w x ≤ 1048576) : Rn 4 N.laws_eqJobS [.v [.r (eJobs x)], .v [.r (eJobs x)]] ⟨[.b true], []⟩ := by
  refine Rn.of fun k hk => ?_
  rw [laws_eqJobS_e]; unfold laws_eqJobS_u
  unfold laws_eqJobS_U
  simp only [bne_self_eq_false, cond_false]
  unfold wL at hx
  refine eq_loop x.length (by omega) (fun i hi G => ?_) (fun G => ?_) (by omega)
  · unfold laws_eqJobS_l1 laws_eqJobS_L1
    simp only [List.length_map, at_map _ hi, dlt hi, bne_self_eq_false, d0, Bool.and_self, chk_true, Outs.t_mk, List.getD_cons_zero, List.getD_cons_succ, T.asI_i, T.asB_b, T.asR_r, Int.toNat_natCast, bindO_some, Bool.not_true, cond_false, cond_true, Bool.not_false]
    have hw := wL_get Job.w hi
    unfold wL at hw
    rw [eqJob_r x[i] (by omega) k (by omega)]
    rfl
  · unfold laws_eqJobS_l1 laws_eqJobS_L1
    simp only [List.length_map, dll, cond_false]
theorem szAns_r (x : Ans) (hx : x.Fit) (a : Int) (h0 : 0 ≤ a) (h1 : a ≤ 1048576) : Rn 2 N.laws_szAns [.v x.e, .v [.i a]] ⟨[.i (szA (x.w) a)], []⟩ := by
  refine Rn.of fun k hk => ?_
  rw [laws_szAns_e]; unfold laws_szAns_u
  rw [szIntS_r x.Vals (hx.2.2) a h0 h1 k (by omega)]
  simp only [d0, Bool.and_self, chk_true, Outs.t_mk, List.getD_cons_zero, List.getD_cons_succ, T.asI_i, T.asB_b, T.asR_r, Int.toNat_natCast, bindO_some, Bool.not_true, cond_false, cond_true, Bool.not_false]
  refine sz_step (W := x.Vals.length) (by unfold Ans.w; omega) h0 fun g1 => ?_
  rfl
theorem toAns_r (x : Ans) (hx : x.w ≤ 1048576) : Rn 2 N.laws_toAns [.v x.e] ⟨x.e, []⟩ := by
  refine Rn.of fun k hk => ?_
  rw [laws_toAns_e]; unfold laws_toAns_u
  unfold Ans.w at hx
  rw [toIntS_r x.Vals (by omega) k (by omega)]
  rfl
theorem eqAns_r (x : Ans) (hx : x.w ≤ 1048576) : Rn 2 N.laws_eqAns [.v x.e, .v x.e] ⟨[.b true], []⟩ := by
  refine Rn.of fun k hk => ?_
  rw [laws_eqAns_e]; unfold laws_eqAns_u
  unfold Ans.w at hx
  try simp only [bne_self_eq_false, cond_false, beq_self_eq_true, Bool.not_true]
  rw [eqIntS_r x.Vals (by omega) k (by omega)]
  simp only [bne_self_eq_false, beq_self_eq_true, d0, Bool.and_self, chk_true, Outs.t_mk, List.getD_cons_zero, List.getD_cons_succ, T.asI_i, T.asB_b, T.asR_r, Int.toNat_natCast, bindO_some, Bool.not_true, cond_false, cond_true, Bool.not_false]
theorem eqAnsS_r (x : List Ans) (hx : wL Ans.w x ≤ 1048576) : Rn 3 N.laws_eqAnsS [.v [.r (eAnss x)], .v [.r (eAnss x)]] ⟨[.b true], []⟩ := by
  refine Rn.of fun k hk => ?_
  rw [laws_eqAnsS_e]; unfold laws_eqAnsS_u
  unfold laws_eqAnsS_U
  simp only [bne_self_eq_false, cond_false]
  unfold wL at hx
  refine eq_loop x.length (by omega) (fun i hi G => ?_) (fun G => ?_) (by omega)
  · unfold laws_eqAnsS_l1 laws_eqAnsS_L1
    simp only [List.length_map, at_map _ hi, dlt hi, bne_self_eq_false, d0, Bool.and_self, chk_true, Outs.t_mk, List.getD_cons_zero, List.getD_cons_succ, T.asI_i, T.asB_b, T.asR_r, Int.toNat_natCast, bindO_some, Bool.not_true, cond_false, cond_true, Bool.not_false]
    have hw := wL_get Ans.w hi
    unfold wL at hw
    rw [eqAns_r x[i] (by omega) k (by omega)]
    rfl
  · unfold laws_eqAnsS_l1 laws_eqAnsS_L1
    simp only [List.length_map, dll, cond_false]
theorem szTurn_r (x : Turn) (hx : x.Fit) (a : Int) (h0 : 0 ≤ a) (h1 : a ≤ 1048576) : Rn 3 N.laws_szTurn [.v x.e, .v [.i a]] ⟨[.i (szA (x.w) a)], []⟩ := by
  refine Rn.of fun k hk => ?_
  rw [laws_szTurn_e]; unfold laws_szTurn_u
  rw [szCmd_r x.C (hx.1) a h0 h1 k (by omega)]
  simp only [d0, Bool.and_self, chk_true, Outs.t_mk, List.getD_cons_zero, List.getD_cons_succ, T.asI_i, T.asB_b, T.asR_r, Int.toNat_natCast, bindO_some, Bool.not_true, cond_false, cond_true, Bool.not_false]
  refine sz_step (W := x.C.w) (by unfold Turn.w; omega) h0 fun g1 => ?_
  rw [szAns_r x.A (hx.2) (szA (x.C.w) a) (szA_b h1 g1).1 (szA_b h1 g1).2 k (by omega)]
  simp only [d0, Bool.and_self, chk_true, Outs.t_mk, List.getD_cons_zero, List.getD_cons_succ, T.asI_i, T.asB_b, T.asR_r, Int.toNat_natCast, bindO_some, Bool.not_true, cond_false, cond_true, Bool.not_false]
  rw [szA_szA g1]
  refine sz_step (W := x.C.w + x.A.w) (by unfold Turn.w; omega) h0 fun g2 => ?_
  rfl
theorem toTurn_r (x : Turn) (hx : x.w ≤ 1048576) : Rn 3 N.laws_toTurn [.v x.e] ⟨x.e, []⟩ := by
  refine Rn.of fun k hk => ?_
  rw [laws_toTurn_e]; unfold laws_toTurn_u
  unfold Turn.w at hx
  rw [toCmd_r x.C (by omega) k (by omega), bindO_some]
  rw [toAns_r x.A (by omega) k (by omega)]
  rfl
theorem eqTurn_r (x : Turn) (hx : x.w ≤ 1048576) : Rn 3 N.laws_eqTurn [.v x.e, .v x.e] ⟨[.b true], []⟩ := by
  refine Rn.of fun k hk => ?_
  rw [laws_eqTurn_e]; unfold laws_eqTurn_u
  unfold Turn.w at hx
  try simp only [bne_self_eq_false, cond_false, beq_self_eq_true, Bool.not_true]
  rw [eqCmd_r x.C (by omega) k (by omega)]
  simp only [bne_self_eq_false, beq_self_eq_true, d0, Bool.and_self, chk_true, Outs.t_mk, List.getD_cons_zero, List.getD_cons_succ, T.asI_i, T.asB_b, T.asR_r, Int.toNat_natCast, bindO_some, Bool.not_true, cond_false, cond_true, Bool.not_false]
  rw [eqAns_r x.A (by omega) k (by omega)]
  simp only [bne_self_eq_false, beq_self_eq_true, d0, Bool.and_self, chk_true, Outs.t_mk, List.getD_cons_zero, List.getD_cons_succ, T.asI_i, T.asB_b, T.asR_r, Int.toNat_natCast, bindO_some, Bool.not_true, cond_false, cond_true, Bool.not_false]
theorem szTurnS_r (x : List Turn) (hx : LF Turn.Fit x) (a : Int) (h0 : 0 ≤ a) (h1 : a ≤ 1048576) : Rn 4 N.laws_szTurnS [.v [.r (eTurns x)], .v [.i a]] ⟨[.i (szA (wL Turn.w x) a)], []⟩ := by
  refine Rn.of fun k hk => ?_
  rw [laws_szTurnS_e]; unfold laws_szTurnS_u
  unfold laws_szTurnS_U
  have hl := hx.1
  unfold maxLen at hl
  rw [List.length_map, wrap_id (by omega) (by omega)]
  unfold wL
  by_cases g : a < (x.length : Int)
  · rw [decide_eq_true (by omega), szA_neg (by omega)]; rfl
  · rw [decide_eq_false (by omega), ← szA_szA (by omega), szA_pos (w := x.length) (by omega)]
    refine sz_loop Turn.w x (by omega) (by omega) (by omega) (fun i hi b b0 b1 G => ?_) (fun b G => ?_) (by omega)
    · unfold laws_szTurnS_l1 laws_szTurnS_L1
      simp only [List.length_map, at_map _ hi, dlt hi, d0, Bool.and_self, chk_true, Outs.t_mk, List.getD_cons_zero, List.getD_cons_succ, T.asI_i, T.asB_b, T.asR_r, Int.toNat_natCast, bindO_some, Bool.not_true, cond_false, cond_true, Bool.not_false]
      rw [szTurn_r x[i] (hx.2 _ (List.getElem_mem hi)) b b0 b1 k (by omega)]
      rfl
    · unfold laws_szTurnS_l1 laws_szTurnS_L1
      simp only [List.length_map, dll, cond_false]
theorem toTurnS_r (x : List Turn) (hx : wL Turn.w x ≤ 1048576) : Rn 4 N.laws_toTurnS [.v [.r (eTurns x)]] ⟨[.r (eTurns x)], []⟩ := by
  refine Rn.of fun k hk => ?_
  rw [laws_toTurnS_e]; unfold laws_toTurnS_u
  unfold laws_toTurnS_U
  unfold wL at hx
  rw [List.length_map, chk_ok (by simp; omega)]
  rw [Int.toNat_natCast]
  refine to_loop Turn.e x _ (by omega) (fun i hi q hq G => ?_) (fun y hy => rfl) (fun q G => ?_) (by omega)
  · unfold laws_toTurnS_l1 laws_toTurnS_L1
    simp only [List.length_map, at_map _ hi, dlt hi, hq, d0, Bool.and_self, chk_true, Outs.t_mk, List.getD_cons_zero, List.getD_cons_succ, T.asI_i, T.asB_b, T.asR_r, Int.toNat_natCast, bindO_some, Bool.not_true, cond_false, cond_true, Bool.not_false]
    have hw := wL_get Turn.w hi
    unfold wL at hw
    rw [toTurn_r x[i] (by omega) k (by omega)]
    rfl
  · unfold laws_toTurnS_l1 laws_toTurnS_L1
    simp only [List.length_map, dll, cond_false]
theorem eqTurnS_r (x : List Turn) (hx : wL Turn.w x ≤ 1048576) : Rn 4 N.laws_eqTurnS [.v [.r (eTurns x)], .v [.r (eTurns x)]] ⟨[.b true], []⟩ := by
  refine Rn.of fun k hk => ?_
  rw [laws_eqTurnS_e]; unfold laws_eqTurnS_u
  unfold laws_eqTurnS_U
  simp only [bne_self_eq_false, cond_false]
  unfold wL at hx
  refine eq_loop x.length (by omega) (fun i hi G => ?_) (fun G => ?_) (by omega)
  · unfold laws_eqTurnS_l1 laws_eqTurnS_L1
    simp only [List.length_map, at_map _ hi, dlt hi, bne_self_eq_false, d0, Bool.and_self, chk_true, Outs.t_mk, List.getD_cons_zero, List.getD_cons_succ, T.asI_i, T.asB_b, T.asR_r, Int.toNat_natCast, bindO_some, Bool.not_true, cond_false, cond_true, Bool.not_false]
    have hw := wL_get Turn.w hi
    unfold wL at hw
    rw [eqTurn_r x[i] (by omega) k (by omega)]
    rfl
  · unfold laws_eqTurnS_l1 laws_eqTurnS_L1
    simp only [List.length_map, dll, cond_false]
theorem eqEng_r (x : Eng) (hx : x.w ≤ 1048576) : Rn 7 N.laws_eqEng [.v x.e, .v x.e] ⟨[.b true], []⟩ := by
  refine Rn.of fun k hk => ?_
  rw [laws_eqEng_e]; unfold laws_eqEng_u
  unfold Eng.w at hx
  try simp only [bne_self_eq_false, cond_false, beq_self_eq_true, Bool.not_true]
  rw [eqArr_r x.A (by omega) k (by omega)]
  simp only [bne_self_eq_false, beq_self_eq_true, d0, Bool.and_self, chk_true, Outs.t_mk, List.getD_cons_zero, List.getD_cons_succ, T.asI_i, T.asB_b, T.asR_r, Int.toNat_natCast, bindO_some, Bool.not_true, cond_false, cond_true, Bool.not_false]
  rw [eqCmdS_r x.Wait (by omega) k (by omega)]
  simp only [bne_self_eq_false, beq_self_eq_true, d0, Bool.and_self, chk_true, Outs.t_mk, List.getD_cons_zero, List.getD_cons_succ, T.asI_i, T.asB_b, T.asR_r, Int.toNat_natCast, bindO_some, Bool.not_true, cond_false, cond_true, Bool.not_false]
  rw [eqJobS_r x.Jobs (by omega) k (by omega)]
  simp only [bne_self_eq_false, beq_self_eq_true, d0, Bool.and_self, chk_true, Outs.t_mk, List.getD_cons_zero, List.getD_cons_succ, T.asI_i, T.asB_b, T.asR_r, Int.toNat_natCast, bindO_some, Bool.not_true, cond_false, cond_true, Bool.not_false]
  rw [eqAnsS_r x.Done (by omega) k (by omega)]
  simp only [bne_self_eq_false, beq_self_eq_true, d0, Bool.and_self, chk_true, Outs.t_mk, List.getD_cons_zero, List.getD_cons_succ, T.asI_i, T.asB_b, T.asR_r, Int.toNat_natCast, bindO_some, Bool.not_true, cond_false, cond_true, Bool.not_false]
  rw [eqTurnS_r x.Log (by omega) k (by omega)]
  simp only [bne_self_eq_false, beq_self_eq_true, d0, Bool.and_self, chk_true, Outs.t_mk, List.getD_cons_zero, List.getD_cons_succ, T.asI_i, T.asB_b, T.asR_r, Int.toNat_natCast, bindO_some, Bool.not_true, cond_false, cond_true, Bool.not_false]

theorem flatT {t : Nat} {l : List Ty} (h : E.flat t = l) {ts : List T} (g : FTs E (E.flat t) ts) : FTs E l ts := h ▸ g
theorem open_int {t : T} (h : FT E (.int .i64) t) : ∃ n : Int, t = .i n ∧ inI n := by
  cases h with
  | int h =>
    rename_i n
    refine ⟨n, rfl, ?_⟩
    unfold inI
    simp [Lit.wf, IntKind.min, IntKind.max, IntKind.signed, IntKind.bits] at h
    omega
theorem open_bool {t : T} (h : FT E .bool t) : ∃ x : Bool, t = .b x ∧ True := by
  cases h; exact ⟨_, rfl, trivial⟩
theorem FTs_of : ∀ {tys : List Ty} {c : List T}, c.length = tys.length → (∀ j, j < tys.length → FT E (tys.getD j .bool) (c.getD j (.i 0))) → FTs E tys c
  | [], [], _, _ => trivial
  | ty :: tys, t :: ts, hl, h => ⟨h 0 (by simp), FTs_of (by simpa using hl) fun j hj => by simpa using h (j + 1) (by simpa using hj)⟩
  | [], _ :: _, hl, _ => by simp at hl
  | _ :: _, [], hl, _ => by simp at hl
theorem rows_map {α : Type} (enc : α → List T) (p : α → Prop) : ∀ {es : List (List T)}, (∀ c ∈ es, ∃ x, c = enc x ∧ p x) → ∃ l : List α, es = l.map enc ∧ ∀ x ∈ l, p x
  | [], _ => ⟨[], rfl, fun _ h => by cases h⟩
  | c :: es, h => by
    obtain ⟨x, rfl, hx⟩ := h c (by simp)
    obtain ⟨l, rfl, hl⟩ := rows_map enc p (es := es) fun c hc => h c (by simp [hc])
    exact ⟨x :: l, rfl, fun y hy => (List.mem_cons.1 hy).elim (fun h => h ▸ hx) (hl y)⟩
theorem open_rows {α : Type} (enc : α → List T) (p : α → Prop) {e : Nat} (hx : ∀ c, FTs E (E.flat e) c → ∃ x, c = enc x ∧ p x) {t : T} (h : FT E (.row e) t) : ∃ l : List α, t = .r (l.map enc) ∧ LF p l := by
  cases h with
  | row hl hn hr =>
    rename_i es
    obtain ⟨l, rfl, hp⟩ := rows_map enc p (es := es) fun c hc => by
      obtain ⟨i, hi, rfl⟩ := List.getElem_of_mem hc
      refine hx _ (FTs_of (hn _ hc) fun j hj => ?_)
      have := hr i j hi hj
      unfold tyAt tAt at this
      simpa [List.getD_eq_getElem?_getD, hi] using this
    exact ⟨l, rfl, by simpa using hl, hp⟩
theorem open_Int {c : List T} (h : FTs E [.int .i64] c) : ∃ n : Int, c = [.i n] ∧ inI n := by
  match c, h with
  | [t], ⟨h, _⟩ => obtain ⟨n, rfl, g⟩ := open_int h; exact ⟨n, rfl, g⟩
theorem open_IntS {t : T} (h : FT E (.row TN.Int) t) : ∃ l : List Int, t = .r (eIs l) ∧ LF inI l :=
  open_rows _ inI (fun c hc => open_Int (flatT (by kernel_rfl) hc)) h
theorem open_IntSS {t : T} (h : FT E (.row TN.IntS) t) : ∃ l : List (List Int), t = .r (eIss l) ∧ LF (LF inI) l :=
  open_rows (fun s => [.r (eIs s)]) (LF inI) (fun c hc => by
    have hc := flatT (l := [.row TN.Int]) (by kernel_rfl) hc
    match c, hc with
    | [t], ⟨h, _⟩ => obtain ⟨n, rfl, g⟩ := open_IntS h; exact ⟨n, rfl, g⟩) h
theorem open_Geo {ts : List T} (h : FTs E [.int .i64, .int .i64] ts) : ∃ x : Geo, ts = x.e ∧ x.Fit := by
  match ts, h with
  | [t0, t1], ⟨h0, h1, _⟩ =>
    obtain ⟨x0, rfl, g0⟩ := open_int h0
    obtain ⟨x1, rfl, g1⟩ := open_int h1
    exact ⟨⟨x0, x1⟩, rfl, ⟨g0, g1⟩⟩
theorem open_Cmd {ts : List T} (h : FTs E [.int .i64, .int .i64, .int .i64, .int .i64, .row TN.Int] ts) : ∃ x : Cmd, ts = x.e ∧ x.Fit := by
  match ts, h with
  | [t0, t1, t2, t3, t4], ⟨h0, h1, h2, h3, h4, _⟩ =>
    obtain ⟨x0, rfl, g0⟩ := open_int h0
    obtain ⟨x1, rfl, g1⟩ := open_int h1
    obtain ⟨x2, rfl, g2⟩ := open_int h2
    obtain ⟨x3, rfl, g3⟩ := open_int h3
    obtain ⟨x4, rfl, g4⟩ := open_IntS h4
    exact ⟨⟨x0, x1, x2, x3, x4⟩, rfl, ⟨g0, g1, g2, g3, g4⟩⟩
theorem open_CmdS {t : T} (h : FT E (.row TN.laws_Cmd) t) : ∃ l : List Cmd, t = .r (eCmds l) ∧ LF Cmd.Fit l :=
  open_rows Cmd.e Cmd.Fit (fun c hc => open_Cmd (flatT (by kernel_rfl) hc)) h
theorem open_Ans {ts : List T} (h : FTs E [.int .i64, .int .i64, .row TN.Int] ts) : ∃ x : Ans, ts = x.e ∧ x.Fit := by
  match ts, h with
  | [t0, t1, t2], ⟨h0, h1, h2, _⟩ =>
    obtain ⟨x0, rfl, g0⟩ := open_int h0
    obtain ⟨x1, rfl, g1⟩ := open_int h1
    obtain ⟨x2, rfl, g2⟩ := open_IntS h2
    exact ⟨⟨x0, x1, x2⟩, rfl, ⟨g0, g1, g2⟩⟩
theorem open_AnsS {t : T} (h : FT E (.row TN.laws_Ans) t) : ∃ l : List Ans, t = .r (eAnss l) ∧ LF Ans.Fit l :=
  open_rows Ans.e Ans.Fit (fun c hc => open_Ans (flatT (by kernel_rfl) hc)) h
theorem open_Turn {ts : List T} (h : FTs E [.int .i64, .int .i64, .int .i64, .int .i64, .row TN.Int, .int .i64, .int .i64, .row TN.Int] ts) : ∃ x : Turn, ts = x.e ∧ x.Fit := by
  match ts, h with
  | [t0, t1, t2, t3, t4, t5, t6, t7], ⟨h0, h1, h2, h3, h4, h5, h6, h7, _⟩ =>
    obtain ⟨x0, rfl, g0⟩ := open_int h0
    obtain ⟨x1, rfl, g1⟩ := open_int h1
    obtain ⟨x2, rfl, g2⟩ := open_int h2
    obtain ⟨x3, rfl, g3⟩ := open_int h3
    obtain ⟨x4, rfl, g4⟩ := open_IntS h4
    obtain ⟨x5, rfl, g5⟩ := open_int h5
    obtain ⟨x6, rfl, g6⟩ := open_int h6
    obtain ⟨x7, rfl, g7⟩ := open_IntS h7
    exact ⟨⟨⟨x0, x1, x2, x3, x4⟩, ⟨x5, x6, x7⟩⟩, rfl, ⟨⟨g0, g1, g2, g3, g4⟩, ⟨g5, g6, g7⟩⟩⟩
theorem open_TurnS {t : T} (h : FT E (.row TN.laws_Turn) t) : ∃ l : List Turn, t = .r (eTurns l) ∧ LF Turn.Fit l :=
  open_rows Turn.e Turn.Fit (fun c hc => open_Turn (flatT (by kernel_rfl) hc)) h
end Go.Proofs.Ytahlghlpdcfbgaa.Ev
