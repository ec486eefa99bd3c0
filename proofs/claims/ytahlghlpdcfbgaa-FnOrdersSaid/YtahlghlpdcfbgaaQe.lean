/- What the laws' marks do to rows, and that what is held is what was marked. No condition. -/
import Derived.Test.YtahlghlpdcfbgaaQc
namespace Go.Proofs.Ytahlghlpdcfbgaa.Ev
open Go
set_option linter.unusedVariables false
set_option linter.unusedSimpArgs false
set_option maxHeartbeats 1000000

def markL {α : Type} (cnt : α → Nat) (mk : Int → α → α) : Int → List α → List α
  | _, [] => []
  | a, x :: l => mk a x :: markL cnt mk (a + (cnt x : Nat)) l
theorem markL_len {α : Type} (cnt : α → Nat) (mk : Int → α → α) : ∀ (a : Int) (l : List α), (markL cnt mk a l).length = l.length
  | _, [] => rfl
  | a, x :: l => by simp [markL, markL_len cnt mk _ l]
theorem markL_get {α : Type} (cnt : α → Nat) (mk : Int → α → α) : ∀ (a : Int) (l : List α) (i : Nat) (hi : i < l.length), (markL cnt mk a l)[i]'(by rw [markL_len]; exact hi) = mk (a + (((l.take i).map cnt).sum : Nat)) l[i]
  | a, x :: l, 0, _ => by simp [markL]
  | a, x :: l, i + 1, hi => by
    have := markL_get cnt mk (a + (cnt x : Nat)) l i (by simpa using hi)
    simp only [markL, List.getElem_cons_succ, List.take_succ_cons, List.map_cons, List.sum_cons]
    rw [this]; congr 1; omega
theorem sum_take_lt {α : Type} (cnt : α → Nat) (l : List α) {i : Nat} (hi : i < l.length) : ((l.take i).map cnt).sum + cnt l[i] ≤ (l.map cnt).sum := by
  rw [← sum_take cnt l hi]; exact sum_take_le cnt l (i + 1)
theorem put_mid (A B : List (List T)) (r : List T) (j : Nat) (ts : List T) : put_ (A ++ r :: B) A.length j ts = A ++ spliceT r j ts :: B := by
  unfold put_; simp [List.getD_eq_getElem?_getD, List.set_append_right]
theorem at_mid (A B : List (List T)) (r : List T) (j : Nat) : at_ (A ++ r :: B) A.length j = r.getD j (.i 0) := by
  unfold at_; simp [List.getD_eq_getElem?_getD]
theorem mid_lt (A B : List (List T)) (r : List T) : decide ((A.length : Int) < ((A ++ r :: B).length : Int)) = true := by simp; omega
theorem mark_loop {α : Type} (enc : α → List T) (cnt : α → Nat) (mk : Int → α → α) (l : List α) (a : Int) (h0 : 0 ≤ a) (ha : a + ((l.map cnt).sum : Nat) ≤ 4611686018427387904) (hl : l.length ≤ Big)
    {b : (Int × Int × List (List T) → Option Outs) → Int × Int × List (List T) → Option Outs}
    (h : ∀ (i : Nat) (hi : i < l.length) (A B : List (List T)) (c : Int), i = A.length → 0 ≤ c → c + (cnt l[i] : Nat) ≤ 4611686018427387904 → ∀ G, b G (c, (i : Int), A ++ enc l[i] :: B) = G (c + (cnt l[i] : Nat), IntKind.wrap .i64 ((i : Int) + 1), A ++ enc (mk c l[i]) :: B))
    (he : ∀ (c : Int) (w : List (List T)), w.length = l.length → ∀ G, b G (c, (l.length : Int), w) = some ⟨[.i c], [[.r w]]⟩) {j : Nat} (hj : Big < j) :
    fixN b j (a, 0, l.map enc) = some ⟨[.i (a + ((l.map cnt).sum : Nat))], [[.r ((markL cnt mk a l).map enc)]]⟩ := by
  have hB : Big = 4294967296 := rfl
  have hm := markL_len cnt mk a l
  have := fixN_up (b := b) l.length (fun i => (a + (((l.take i).map cnt).sum : Nat), (i : Int), ((markL cnt mk a l).take i).map enc ++ (l.drop i).map enc)) (fun _ => some ⟨[.i (a + ((l.map cnt).sum : Nat))], [[.r ((markL cnt mk a l).map enc)]]⟩) (fun i hi G hG => ?_) (fun G => ?_) (j := j) (by omega)
  · simpa using this
  · have hs := sum_take_lt cnt l hi
    rw [List.drop_eq_getElem_cons hi, List.map_cons]
    rw [h i hi _ _ _ (by simp; omega) (by omega) (by omega), wrap_up (by omega)]
    have e1 : a + (((l.take i).map cnt).sum : Nat) + (cnt l[i] : Nat) = a + (((l.take (i + 1)).map cnt).sum : Nat) := by rw [sum_take cnt l hi]; omega
    have e2 : ((markL cnt mk a l).take i).map enc ++ enc (mk (a + (((l.take i).map cnt).sum : Nat)) l[i]) :: (l.drop (i + 1)).map enc = ((markL cnt mk a l).take (i + 1)).map enc ++ (l.drop (i + 1)).map enc := by
      rw [List.take_succ_eq_append_getElem (by omega), markL_get cnt mk a l i hi]; simp
    rw [e1, e2]; exact hG
  · rw [he _ _ (by simp; omega)]
    simp [List.take_of_length_le (Nat.le_of_eq hm)]
theorem held_loop {α : Type} (cnt : α → Nat) (l : List α) (a : Int) (h0 : 0 ≤ a) (ha : a + ((l.map cnt).sum : Nat) ≤ 4611686018427387904) (hl : l.length ≤ Big)
    {b : (Int × Int → Option Outs) → Int × Int → Option Outs}
    (h : ∀ (i : Nat) (hi : i < l.length) (c : Int), c = a + (((l.take i).map cnt).sum : Nat) → 0 ≤ c → c + (cnt l[i] : Nat) ≤ 4611686018427387904 → ∀ G, b G (c, (i : Int)) = G (c + (cnt l[i] : Nat), IntKind.wrap .i64 ((i : Int) + 1)))
    (he : ∀ (c : Int) G, b G (c, (l.length : Int)) = some ⟨[.i c], []⟩) {j : Nat} (hj : Big < j) :
    fixN b j (a, 0) = some ⟨[.i (a + ((l.map cnt).sum : Nat))], []⟩ := by
  have hB : Big = 4294967296 := rfl
  have := fixN_up (b := b) l.length (fun i => (a + (((l.take i).map cnt).sum : Nat), (i : Int))) (fun _ => some ⟨[.i (a + ((l.map cnt).sum : Nat))], []⟩) (fun i hi G hG => ?_) (fun G => ?_) (j := j) (by omega)
  · simpa using this
  · have hs := sum_take_lt cnt l hi
    rw [h i hi _ rfl (by omega) (by omega), wrap_up (by omega)]
    have e1 : a + (((l.take i).map cnt).sum : Nat) + (cnt l[i] : Nat) = a + (((l.take (i + 1)).map cnt).sum : Nat) := by rw [sum_take cnt l hi]; omega
    rw [e1]; exact hG
  · rw [he, List.take_length]
def Int.cn (_ : Int) : Nat := 1
def Int.mk_ (c : Int) (_ : Int) : Int := c
theorem markIntS_r (l : List Int) (a : Int) (h0 : 0 ≤ a) (ha : a + ((l.map Int.cn).sum : Nat) ≤ 4611686018427387904) (hl : l.length ≤ Big) : Rn 2 N.laws_markIntS [.r (eIs l), .v [.i a]] ⟨[.i (a + ((l.map Int.cn).sum : Nat))], [[.r (eIs (markL Int.cn Int.mk_ a l))]]⟩ := by
  refine Rn.of fun k hk => ?_
  rw [laws_markIntS_e]; unfold laws_markIntS_u laws_markIntS_U
  have hB : Big = 4294967296 := rfl
  refine mark_loop (fun n => [T.i n]) Int.cn Int.mk_ l a h0 ha hl (fun i hi A B c hA h1 h2 G => ?_) (fun c w hw G => ?_) (by omega)
  · subst hA
    unfold laws_markIntS_l1 laws_markIntS_L1
    have e1 : IntKind.wrap .i64 (c + 1) = c + 1 := wrap_id (by omega) (by unfold Int.cn at h2; omega)
    simp only [mid_lt, put_mid, Int.toNat_natCast, spliceT, e1, d0, Bool.and_self, chk_true, cond_true]
    rfl
  · unfold laws_markIntS_l1 laws_markIntS_L1
    simp only [hw, dll, cond_false]
theorem heldIntS_r (l : List Int) (a : Int) (h0 : 0 ≤ a) (ha : a + ((l.map Int.cn).sum : Nat) ≤ 4611686018427387904) (hl : l.length ≤ Big) : Rn 2 N.laws_heldIntS [.v [.r (eIs (markL Int.cn Int.mk_ a l))], .v [.i a]] ⟨[.i (a + ((l.map Int.cn).sum : Nat))], []⟩ := by
  refine Rn.of fun k hk => ?_
  rw [laws_heldIntS_e]; unfold laws_heldIntS_u laws_heldIntS_U
  have hB : Big = 4294967296 := rfl
  have hm := markL_len Int.cn Int.mk_ a l
  refine held_loop Int.cn l a h0 ha hl (fun i hi c hc h1 h2 G => ?_) (fun c G => ?_) (by omega)
  · unfold laws_heldIntS_l1 laws_heldIntS_L1
    have e1 : IntKind.wrap .i64 (c + 1) = c + 1 := wrap_id (by omega) (by unfold Int.cn at h2; omega)
    have hi' : i < (markL Int.cn Int.mk_ a l).length := by omega
    simp only [List.length_map, at_map _ hi', markL_get Int.cn Int.mk_ a l i hi, ← hc, Int.mk_, dlt hi', Int.toNat_natCast, e1, d0, Bool.and_self, chk_true, cond_true, List.getD_cons_zero, T.asI_i, bne_self_eq_false, cond_false]
    rfl
  · unfold laws_heldIntS_l1 laws_heldIntS_L1
    simp only [List.length_map, hm, dll, cond_false]
theorem sum_cn (l : List Int) : (l.map Int.cn).sum = l.length := by
  induction l with
  | nil => rfl
  | cons x l ih => simp [Int.cn, ih]; omega
def Wr.cn (x : Wr) : Nat := 1 + (x.S.map Int.cn).sum
def Wr.mk_ (c : Int) (x : Wr) : Wr := { N := c, S := markL Int.cn Int.mk_ (c + 1) x.S }
theorem markWrS_r (l : List Wr) (a : Int) (h0 : 0 ≤ a) (ha : a + ((l.map Wr.cn).sum : Nat) ≤ 4611686018427387904) (hw : wL Wr.w l ≤ Big) : Rn 3 N.laws_markWrS [.r (eWrs l), .v [.i a]] ⟨[.i (a + ((l.map Wr.cn).sum : Nat))], [[.r (eWrs (markL Wr.cn Wr.mk_ a l))]]⟩ := by
  refine Rn.of fun k hk => ?_
  rw [laws_markWrS_e]; unfold laws_markWrS_u laws_markWrS_U
  have hB : Big = 4294967296 := rfl
  have hl := wL_len Wr.w l
  refine mark_loop Wr.e Wr.cn Wr.mk_ l a h0 ha (by omega) (fun i hi A B c hA h1 h2 G => ?_) (fun c w hw G => ?_) (by omega)
  · subst hA
    have hwi := wL_get Wr.w hi
    have hcn : Wr.cn l[A.length] = 1 + (l[A.length].S.map Int.cn).sum := rfl
    have hwx : Wr.w l[A.length] = l[A.length].S.length := rfl
    have sS := sum_cn l[A.length].S
    have e0 : IntKind.wrap .i64 (c + 1) = c + 1 := wrap_id (by omega) (by omega)
    unfold laws_markWrS_l1 laws_markWrS_L1
    simp only [mid_lt, put_mid, at_mid, Int.toNat_natCast, spliceT, List.length_cons, List.length_nil, List.drop_succ_cons, List.drop_zero, List.cons_append, List.nil_append, Nat.zero_add, Nat.reduceAdd, d0, Bool.and_self, chk_true, cond_true, List.getD_cons_zero, List.getD_cons_succ, T.asI_i, T.asR_r, Outs.t_mk, Outs.vt_mk, bindO_some, e0]
    rw [markIntS_r l[A.length].S (c + 1) (by omega) (by omega) (by omega) k (by omega)]
    simp only [mid_lt, put_mid, at_mid, Int.toNat_natCast, spliceT, List.length_cons, List.length_nil, List.drop_succ_cons, List.drop_zero, List.cons_append, List.nil_append, Nat.zero_add, Nat.reduceAdd, d0, Bool.and_self, chk_true, cond_true, List.getD_cons_zero, List.getD_cons_succ, T.asI_i, T.asR_r, Outs.t_mk, Outs.vt_mk, bindO_some, e0]
    rw [show c + ((Wr.cn l[A.length] : Nat) : Int) = c + 1 + ((l[A.length].S.map Int.cn).sum : Nat) by omega]
    rfl
  · unfold laws_markWrS_l1 laws_markWrS_L1
    simp only [hw, dll, cond_false]
theorem heldWrS_r (l : List Wr) (a : Int) (h0 : 0 ≤ a) (ha : a + ((l.map Wr.cn).sum : Nat) ≤ 4611686018427387904) (hw : wL Wr.w l ≤ Big) : Rn 3 N.laws_heldWrS [.v [.r (eWrs (markL Wr.cn Wr.mk_ a l))], .v [.i a]] ⟨[.i (a + ((l.map Wr.cn).sum : Nat))], []⟩ := by
  refine Rn.of fun k hk => ?_
  rw [laws_heldWrS_e]; unfold laws_heldWrS_u laws_heldWrS_U
  have hB : Big = 4294967296 := rfl
  have hl := wL_len Wr.w l
  have hm := markL_len Wr.cn Wr.mk_ a l
  refine held_loop Wr.cn l a h0 ha (by omega) (fun i hi c hc h1 h2 G => ?_) (fun c G => ?_) (by omega)
  · have hwi := wL_get Wr.w hi
    have hcn : Wr.cn l[i] = 1 + (l[i].S.map Int.cn).sum := rfl
    have hwx : Wr.w l[i] = l[i].S.length := rfl
    have sS := sum_cn l[i].S
    have e0 : IntKind.wrap .i64 (c + 1) = c + 1 := wrap_id (by omega) (by omega)
    have hi' : i < (markL Wr.cn Wr.mk_ a l).length := by omega
    unfold laws_heldWrS_l1 laws_heldWrS_L1
    simp only [List.length_map, at_map _ hi', markL_get Wr.cn Wr.mk_ a l i hi, ← hc, Wr.mk_, dlt hi', bne_self_eq_false, cond_false, d0, Bool.and_self, chk_true, cond_true, List.getD_cons_zero, List.getD_cons_succ, T.asI_i, T.asR_r, Outs.t_mk, Outs.vt_mk, bindO_some, Int.toNat_natCast, e0]
    rw [heldIntS_r l[i].S (c + 1) (by omega) (by omega) (by omega) k (by omega)]
    simp only [bne_self_eq_false, cond_false, d0, Bool.and_self, chk_true, cond_true, List.getD_cons_zero, List.getD_cons_succ, T.asI_i, T.asR_r, Outs.t_mk, Outs.vt_mk, bindO_some, Int.toNat_natCast, e0]
    rw [decide_eq_false (by omega)]; simp only [bne_self_eq_false, cond_false, d0, Bool.and_self, chk_true, cond_true, List.getD_cons_zero, List.getD_cons_succ, T.asI_i, T.asR_r, Outs.t_mk, Outs.vt_mk, bindO_some, Int.toNat_natCast, e0]
    rw [show c + ((Wr.cn l[i] : Nat) : Int) = c + 1 + ((l[i].S.map Int.cn).sum : Nat) by omega]
  · unfold laws_heldWrS_l1 laws_heldWrS_L1
    simp only [List.length_map, hm, dll, cond_false]
def Ent.cn (x : Ent) : Nat := 1 + (x.Data.map Int.cn).sum
def Ent.mk_ (c : Int) (x : Ent) : Ent := { Stripe := c, Data := markL Int.cn Int.mk_ (c + 1) x.Data }
theorem markEntS_r (l : List Ent) (a : Int) (h0 : 0 ≤ a) (ha : a + ((l.map Ent.cn).sum : Nat) ≤ 4611686018427387904) (hw : wL Ent.w l ≤ Big) : Rn 3 N.laws_markEntS [.r (eEnts l), .v [.i a]] ⟨[.i (a + ((l.map Ent.cn).sum : Nat))], [[.r (eEnts (markL Ent.cn Ent.mk_ a l))]]⟩ := by
  refine Rn.of fun k hk => ?_
  rw [laws_markEntS_e]; unfold laws_markEntS_u laws_markEntS_U
  have hB : Big = 4294967296 := rfl
  have hl := wL_len Ent.w l
  refine mark_loop Ent.e Ent.cn Ent.mk_ l a h0 ha (by omega) (fun i hi A B c hA h1 h2 G => ?_) (fun c w hw G => ?_) (by omega)
  · subst hA
    have hwi := wL_get Ent.w hi
    have hcn : Ent.cn l[A.length] = 1 + (l[A.length].Data.map Int.cn).sum := rfl
    have hwx : Ent.w l[A.length] = l[A.length].Data.length := rfl
    have sData := sum_cn l[A.length].Data
    have e0 : IntKind.wrap .i64 (c + 1) = c + 1 := wrap_id (by omega) (by omega)
    unfold laws_markEntS_l1 laws_markEntS_L1
    simp only [mid_lt, put_mid, at_mid, Int.toNat_natCast, spliceT, List.length_cons, List.length_nil, List.drop_succ_cons, List.drop_zero, List.cons_append, List.nil_append, Nat.zero_add, Nat.reduceAdd, d0, Bool.and_self, chk_true, cond_true, List.getD_cons_zero, List.getD_cons_succ, T.asI_i, T.asR_r, Outs.t_mk, Outs.vt_mk, bindO_some, e0]
    rw [markIntS_r l[A.length].Data (c + 1) (by omega) (by omega) (by omega) k (by omega)]
    simp only [mid_lt, put_mid, at_mid, Int.toNat_natCast, spliceT, List.length_cons, List.length_nil, List.drop_succ_cons, List.drop_zero, List.cons_append, List.nil_append, Nat.zero_add, Nat.reduceAdd, d0, Bool.and_self, chk_true, cond_true, List.getD_cons_zero, List.getD_cons_succ, T.asI_i, T.asR_r, Outs.t_mk, Outs.vt_mk, bindO_some, e0]
    rw [show c + ((Ent.cn l[A.length] : Nat) : Int) = c + 1 + ((l[A.length].Data.map Int.cn).sum : Nat) by omega]
    rfl
  · unfold laws_markEntS_l1 laws_markEntS_L1
    simp only [hw, dll, cond_false]
theorem heldEntS_r (l : List Ent) (a : Int) (h0 : 0 ≤ a) (ha : a + ((l.map Ent.cn).sum : Nat) ≤ 4611686018427387904) (hw : wL Ent.w l ≤ Big) : Rn 3 N.laws_heldEntS [.v [.r (eEnts (markL Ent.cn Ent.mk_ a l))], .v [.i a]] ⟨[.i (a + ((l.map Ent.cn).sum : Nat))], []⟩ := by
  refine Rn.of fun k hk => ?_
  rw [laws_heldEntS_e]; unfold laws_heldEntS_u laws_heldEntS_U
  have hB : Big = 4294967296 := rfl
  have hl := wL_len Ent.w l
  have hm := markL_len Ent.cn Ent.mk_ a l
  refine held_loop Ent.cn l a h0 ha (by omega) (fun i hi c hc h1 h2 G => ?_) (fun c G => ?_) (by omega)
  · have hwi := wL_get Ent.w hi
    have hcn : Ent.cn l[i] = 1 + (l[i].Data.map Int.cn).sum := rfl
    have hwx : Ent.w l[i] = l[i].Data.length := rfl
    have sData := sum_cn l[i].Data
    have e0 : IntKind.wrap .i64 (c + 1) = c + 1 := wrap_id (by omega) (by omega)
    have hi' : i < (markL Ent.cn Ent.mk_ a l).length := by omega
    unfold laws_heldEntS_l1 laws_heldEntS_L1
    simp only [List.length_map, at_map _ hi', markL_get Ent.cn Ent.mk_ a l i hi, ← hc, Ent.mk_, dlt hi', bne_self_eq_false, cond_false, d0, Bool.and_self, chk_true, cond_true, List.getD_cons_zero, List.getD_cons_succ, T.asI_i, T.asR_r, Outs.t_mk, Outs.vt_mk, bindO_some, Int.toNat_natCast, e0]
    rw [heldIntS_r l[i].Data (c + 1) (by omega) (by omega) (by omega) k (by omega)]
    simp only [bne_self_eq_false, cond_false, d0, Bool.and_self, chk_true, cond_true, List.getD_cons_zero, List.getD_cons_succ, T.asI_i, T.asR_r, Outs.t_mk, Outs.vt_mk, bindO_some, Int.toNat_natCast, e0]
    rw [decide_eq_false (by omega)]; simp only [bne_self_eq_false, cond_false, d0, Bool.and_self, chk_true, cond_true, List.getD_cons_zero, List.getD_cons_succ, T.asI_i, T.asR_r, Outs.t_mk, Outs.vt_mk, bindO_some, Int.toNat_natCast, e0]
    rw [show c + ((Ent.cn l[i] : Nat) : Int) = c + 1 + ((l[i].Data.map Int.cn).sum : Nat) by omega]
  · unfold laws_heldEntS_l1 laws_heldEntS_L1
    simp only [List.length_map, hm, dll, cond_false]
def Ans.cn (x : Ans) : Nat := 2 + (x.Vals.map Int.cn).sum
def Ans.mk_ (c : Int) (x : Ans) : Ans := { Id := c, Code := c + 1, Vals := markL Int.cn Int.mk_ (c + 1 + 1) x.Vals }
theorem markAnsS_r (l : List Ans) (a : Int) (h0 : 0 ≤ a) (ha : a + ((l.map Ans.cn).sum : Nat) ≤ 4611686018427387904) (hw : wL Ans.w l ≤ Big) : Rn 3 N.laws_markAnsS [.r (eAnss l), .v [.i a]] ⟨[.i (a + ((l.map Ans.cn).sum : Nat))], [[.r (eAnss (markL Ans.cn Ans.mk_ a l))]]⟩ := by
  refine Rn.of fun k hk => ?_
  rw [laws_markAnsS_e]; unfold laws_markAnsS_u laws_markAnsS_U
  have hB : Big = 4294967296 := rfl
  have hl := wL_len Ans.w l
  refine mark_loop Ans.e Ans.cn Ans.mk_ l a h0 ha (by omega) (fun i hi A B c hA h1 h2 G => ?_) (fun c w hw G => ?_) (by omega)
  · subst hA
    have hwi := wL_get Ans.w hi
    have hcn : Ans.cn l[A.length] = 2 + (l[A.length].Vals.map Int.cn).sum := rfl
    have hwx : Ans.w l[A.length] = l[A.length].Vals.length := rfl
    have sVals := sum_cn l[A.length].Vals
    have e0 : IntKind.wrap .i64 (c + 1) = c + 1 := wrap_id (by omega) (by omega)
    have e1 : IntKind.wrap .i64 (c + 1 + 1) = c + 1 + 1 := wrap_id (by omega) (by omega)
    unfold laws_markAnsS_l1 laws_markAnsS_L1
    simp only [mid_lt, put_mid, at_mid, Int.toNat_natCast, spliceT, List.length_cons, List.length_nil, List.drop_succ_cons, List.drop_zero, List.cons_append, List.nil_append, Nat.zero_add, Nat.reduceAdd, d0, Bool.and_self, chk_true, cond_true, List.getD_cons_zero, List.getD_cons_succ, T.asI_i, T.asR_r, Outs.t_mk, Outs.vt_mk, bindO_some, e0, e1]
    rw [markIntS_r l[A.length].Vals (c + 1 + 1) (by omega) (by omega) (by omega) k (by omega)]
    simp only [mid_lt, put_mid, at_mid, Int.toNat_natCast, spliceT, List.length_cons, List.length_nil, List.drop_succ_cons, List.drop_zero, List.cons_append, List.nil_append, Nat.zero_add, Nat.reduceAdd, d0, Bool.and_self, chk_true, cond_true, List.getD_cons_zero, List.getD_cons_succ, T.asI_i, T.asR_r, Outs.t_mk, Outs.vt_mk, bindO_some, e0, e1]
    rw [show c + ((Ans.cn l[A.length] : Nat) : Int) = c + 1 + 1 + ((l[A.length].Vals.map Int.cn).sum : Nat) by omega]
    rfl
  · unfold laws_markAnsS_l1 laws_markAnsS_L1
    simp only [hw, dll, cond_false]
theorem heldAnsS_r (l : List Ans) (a : Int) (h0 : 0 ≤ a) (ha : a + ((l.map Ans.cn).sum : Nat) ≤ 4611686018427387904) (hw : wL Ans.w l ≤ Big) : Rn 3 N.laws_heldAnsS [.v [.r (eAnss (markL Ans.cn Ans.mk_ a l))], .v [.i a]] ⟨[.i (a + ((l.map Ans.cn).sum : Nat))], []⟩ := by
  refine Rn.of fun k hk => ?_
  rw [laws_heldAnsS_e]; unfold laws_heldAnsS_u laws_heldAnsS_U
  have hB : Big = 4294967296 := rfl
  have hl := wL_len Ans.w l
  have hm := markL_len Ans.cn Ans.mk_ a l
  refine held_loop Ans.cn l a h0 ha (by omega) (fun i hi c hc h1 h2 G => ?_) (fun c G => ?_) (by omega)
  · have hwi := wL_get Ans.w hi
    have hcn : Ans.cn l[i] = 2 + (l[i].Vals.map Int.cn).sum := rfl
    have hwx : Ans.w l[i] = l[i].Vals.length := rfl
    have sVals := sum_cn l[i].Vals
    have e0 : IntKind.wrap .i64 (c + 1) = c + 1 := wrap_id (by omega) (by omega)
    have e1 : IntKind.wrap .i64 (c + 1 + 1) = c + 1 + 1 := wrap_id (by omega) (by omega)
    have hi' : i < (markL Ans.cn Ans.mk_ a l).length := by omega
    unfold laws_heldAnsS_l1 laws_heldAnsS_L1
    simp only [List.length_map, at_map _ hi', markL_get Ans.cn Ans.mk_ a l i hi, ← hc, Ans.mk_, dlt hi', bne_self_eq_false, cond_false, d0, Bool.and_self, chk_true, cond_true, List.getD_cons_zero, List.getD_cons_succ, T.asI_i, T.asR_r, Outs.t_mk, Outs.vt_mk, bindO_some, Int.toNat_natCast, e0, e1]
    rw [heldIntS_r l[i].Vals (c + 1 + 1) (by omega) (by omega) (by omega) k (by omega)]
    simp only [bne_self_eq_false, cond_false, d0, Bool.and_self, chk_true, cond_true, List.getD_cons_zero, List.getD_cons_succ, T.asI_i, T.asR_r, Outs.t_mk, Outs.vt_mk, bindO_some, Int.toNat_natCast, e0, e1]
    rw [decide_eq_false (by omega)]; simp only [bne_self_eq_false, cond_false, d0, Bool.and_self, chk_true, cond_true, List.getD_cons_zero, List.getD_cons_succ, T.asI_i, T.asR_r, Outs.t_mk, Outs.vt_mk, bindO_some, Int.toNat_natCast, e0, e1]
    rw [show c + ((Ans.cn l[i] : Nat) : Int) = c + 1 + 1 + ((l[i].Vals.map Int.cn).sum : Nat) by omega]
  · unfold laws_heldAnsS_l1 laws_heldAnsS_L1
    simp only [List.length_map, hm, dll, cond_false]
def Cmd.cn (x : Cmd) : Nat := 4 + (x.Vals.map Int.cn).sum
def Cmd.mk_ (c : Int) (x : Cmd) : Cmd := { Op := c, Id := c + 1, Lba := c + 1 + 1, N := c + 1 + 1 + 1, Vals := markL Int.cn Int.mk_ (c + 1 + 1 + 1 + 1) x.Vals }
theorem markCmdS_r (l : List Cmd) (a : Int) (h0 : 0 ≤ a) (ha : a + ((l.map Cmd.cn).sum : Nat) ≤ 4611686018427387904) (hw : wL Cmd.w l ≤ Big) : Rn 3 N.laws_markCmdS [.r (eCmds l), .v [.i a]] ⟨[.i (a + ((l.map Cmd.cn).sum : Nat))], [[.r (eCmds (markL Cmd.cn Cmd.mk_ a l))]]⟩ := by
  refine Rn.of fun k hk => ?_
  rw [laws_markCmdS_e]; unfold laws_markCmdS_u laws_markCmdS_U
  have hB : Big = 4294967296 := rfl
  have hl := wL_len Cmd.w l
  refine mark_loop Cmd.e Cmd.cn Cmd.mk_ l a h0 ha (by omega) (fun i hi A B c hA h1 h2 G => ?_) (fun c w hw G => ?_) (by omega)
  · subst hA
    have hwi := wL_get Cmd.w hi
    have hcn : Cmd.cn l[A.length] = 4 + (l[A.length].Vals.map Int.cn).sum := rfl
    have hwx : Cmd.w l[A.length] = l[A.length].Vals.length := rfl
    have sVals := sum_cn l[A.length].Vals
    have e0 : IntKind.wrap .i64 (c + 1) = c + 1 := wrap_id (by omega) (by omega)
    have e1 : IntKind.wrap .i64 (c + 1 + 1) = c + 1 + 1 := wrap_id (by omega) (by omega)
    have e2 : IntKind.wrap .i64 (c + 1 + 1 + 1) = c + 1 + 1 + 1 := wrap_id (by omega) (by omega)
    have e3 : IntKind.wrap .i64 (c + 1 + 1 + 1 + 1) = c + 1 + 1 + 1 + 1 := wrap_id (by omega) (by omega)
    unfold laws_markCmdS_l1 laws_markCmdS_L1
    simp only [mid_lt, put_mid, at_mid, Int.toNat_natCast, spliceT, List.length_cons, List.length_nil, List.drop_succ_cons, List.drop_zero, List.cons_append, List.nil_append, Nat.zero_add, Nat.reduceAdd, d0, Bool.and_self, chk_true, cond_true, List.getD_cons_zero, List.getD_cons_succ, T.asI_i, T.asR_r, Outs.t_mk, Outs.vt_mk, bindO_some, e0, e1, e2, e3]
    rw [markIntS_r l[A.length].Vals (c + 1 + 1 + 1 + 1) (by omega) (by omega) (by omega) k (by omega)]
    simp only [mid_lt, put_mid, at_mid, Int.toNat_natCast, spliceT, List.length_cons, List.length_nil, List.drop_succ_cons, List.drop_zero, List.cons_append, List.nil_append, Nat.zero_add, Nat.reduceAdd, d0, Bool.and_self, chk_true, cond_true, List.getD_cons_zero, List.getD_cons_succ, T.asI_i, T.asR_r, Outs.t_mk, Outs.vt_mk, bindO_some, e0, e1, e2, e3]
    rw [show c + ((Cmd.cn l[A.length] : Nat) : Int) = c + 1 + 1 + 1 + 1 + ((l[A.length].Vals.map Int.cn).sum : Nat) by omega]
    rfl
  · unfold laws_markCmdS_l1 laws_markCmdS_L1
    simp only [hw, dll, cond_false]
theorem heldCmdS_r (l : List Cmd) (a : Int) (h0 : 0 ≤ a) (ha : a + ((l.map Cmd.cn).sum : Nat) ≤ 4611686018427387904) (hw : wL Cmd.w l ≤ Big) : Rn 3 N.laws_heldCmdS [.v [.r (eCmds (markL Cmd.cn Cmd.mk_ a l))], .v [.i a]] ⟨[.i (a + ((l.map Cmd.cn).sum : Nat))], []⟩ := by
  refine Rn.of fun k hk => ?_
  rw [laws_heldCmdS_e]; unfold laws_heldCmdS_u laws_heldCmdS_U
  have hB : Big = 4294967296 := rfl
  have hl := wL_len Cmd.w l
  have hm := markL_len Cmd.cn Cmd.mk_ a l
  refine held_loop Cmd.cn l a h0 ha (by omega) (fun i hi c hc h1 h2 G => ?_) (fun c G => ?_) (by omega)
  · have hwi := wL_get Cmd.w hi
    have hcn : Cmd.cn l[i] = 4 + (l[i].Vals.map Int.cn).sum := rfl
    have hwx : Cmd.w l[i] = l[i].Vals.length := rfl
    have sVals := sum_cn l[i].Vals
    have e0 : IntKind.wrap .i64 (c + 1) = c + 1 := wrap_id (by omega) (by omega)
    have e1 : IntKind.wrap .i64 (c + 1 + 1) = c + 1 + 1 := wrap_id (by omega) (by omega)
    have e2 : IntKind.wrap .i64 (c + 1 + 1 + 1) = c + 1 + 1 + 1 := wrap_id (by omega) (by omega)
    have e3 : IntKind.wrap .i64 (c + 1 + 1 + 1 + 1) = c + 1 + 1 + 1 + 1 := wrap_id (by omega) (by omega)
    have hi' : i < (markL Cmd.cn Cmd.mk_ a l).length := by omega
    unfold laws_heldCmdS_l1 laws_heldCmdS_L1
    simp only [List.length_map, at_map _ hi', markL_get Cmd.cn Cmd.mk_ a l i hi, ← hc, Cmd.mk_, dlt hi', bne_self_eq_false, cond_false, d0, Bool.and_self, chk_true, cond_true, List.getD_cons_zero, List.getD_cons_succ, T.asI_i, T.asR_r, Outs.t_mk, Outs.vt_mk, bindO_some, Int.toNat_natCast, e0, e1, e2, e3]
    rw [heldIntS_r l[i].Vals (c + 1 + 1 + 1 + 1) (by omega) (by omega) (by omega) k (by omega)]
    simp only [bne_self_eq_false, cond_false, d0, Bool.and_self, chk_true, cond_true, List.getD_cons_zero, List.getD_cons_succ, T.asI_i, T.asR_r, Outs.t_mk, Outs.vt_mk, bindO_some, Int.toNat_natCast, e0, e1, e2, e3]
    rw [decide_eq_false (by omega)]; simp only [bne_self_eq_false, cond_false, d0, Bool.and_self, chk_true, cond_true, List.getD_cons_zero, List.getD_cons_succ, T.asI_i, T.asR_r, Outs.t_mk, Outs.vt_mk, bindO_some, Int.toNat_natCast, e0, e1, e2, e3]
    rw [show c + ((Cmd.cn l[i] : Nat) : Int) = c + 1 + 1 + 1 + 1 + ((l[i].Vals.map Int.cn).sum : Nat) by omega]
  · unfold laws_heldCmdS_l1 laws_heldCmdS_L1
    simp only [List.length_map, hm, dll, cond_false]
def Turn.cn (x : Turn) : Nat := 6 + (x.C.Vals.map Int.cn).sum + (x.A.Vals.map Int.cn).sum
def Turn.mk_ (c : Int) (x : Turn) : Turn := { C := { Op := c, Id := c + 1, Lba := c + 1 + 1, N := c + 1 + 1 + 1, Vals := markL Int.cn Int.mk_ (c + 1 + 1 + 1 + 1) x.C.Vals }, A := { Id := c + 1 + 1 + 1 + 1 + ((x.C.Vals.map Int.cn).sum : Nat), Code := c + 1 + 1 + 1 + 1 + ((x.C.Vals.map Int.cn).sum : Nat) + 1, Vals := markL Int.cn Int.mk_ (c + 1 + 1 + 1 + 1 + ((x.C.Vals.map Int.cn).sum : Nat) + 1 + 1) x.A.Vals } }
theorem markTurnS_r (l : List Turn) (a : Int) (h0 : 0 ≤ a) (ha : a + ((l.map Turn.cn).sum : Nat) ≤ 4611686018427387904) (hw : wL Turn.w l ≤ Big) : Rn 3 N.laws_markTurnS [.r (eTurns l), .v [.i a]] ⟨[.i (a + ((l.map Turn.cn).sum : Nat))], [[.r (eTurns (markL Turn.cn Turn.mk_ a l))]]⟩ := by
  refine Rn.of fun k hk => ?_
  rw [laws_markTurnS_e]; unfold laws_markTurnS_u laws_markTurnS_U
  have hB : Big = 4294967296 := rfl
  have hl := wL_len Turn.w l
  refine mark_loop Turn.e Turn.cn Turn.mk_ l a h0 ha (by omega) (fun i hi A B c hA h1 h2 G => ?_) (fun c w hw G => ?_) (by omega)
  · subst hA
    have hwi := wL_get Turn.w hi
    have hcn : Turn.cn l[A.length] = 6 + (l[A.length].C.Vals.map Int.cn).sum + (l[A.length].A.Vals.map Int.cn).sum := rfl
    have hwx : Turn.w l[A.length] = l[A.length].C.Vals.length + l[A.length].A.Vals.length := rfl
    have sCVals := sum_cn l[A.length].C.Vals
    have sAVals := sum_cn l[A.length].A.Vals
    have e0 : IntKind.wrap .i64 (c + 1) = c + 1 := wrap_id (by omega) (by omega)
    have e1 : IntKind.wrap .i64 (c + 1 + 1) = c + 1 + 1 := wrap_id (by omega) (by omega)
    have e2 : IntKind.wrap .i64 (c + 1 + 1 + 1) = c + 1 + 1 + 1 := wrap_id (by omega) (by omega)
    have e3 : IntKind.wrap .i64 (c + 1 + 1 + 1 + 1) = c + 1 + 1 + 1 + 1 := wrap_id (by omega) (by omega)
    have e4 : IntKind.wrap .i64 (c + 1 + 1 + 1 + 1 + ((l[A.length].C.Vals.map Int.cn).sum : Nat) + 1) = c + 1 + 1 + 1 + 1 + ((l[A.length].C.Vals.map Int.cn).sum : Nat) + 1 := wrap_id (by omega) (by omega)
    have e5 : IntKind.wrap .i64 (c + 1 + 1 + 1 + 1 + ((l[A.length].C.Vals.map Int.cn).sum : Nat) + 1 + 1) = c + 1 + 1 + 1 + 1 + ((l[A.length].C.Vals.map Int.cn).sum : Nat) + 1 + 1 := wrap_id (by omega) (by omega)
    unfold laws_markTurnS_l1 laws_markTurnS_L1
    simp only [mid_lt, put_mid, at_mid, Int.toNat_natCast, spliceT, List.length_cons, List.length_nil, List.drop_succ_cons, List.drop_zero, List.cons_append, List.nil_append, Nat.zero_add, Nat.reduceAdd, d0, Bool.and_self, chk_true, cond_true, List.getD_cons_zero, List.getD_cons_succ, T.asI_i, T.asR_r, Outs.t_mk, Outs.vt_mk, bindO_some, e0, e1, e2, e3, e4, e5]
    rw [markIntS_r l[A.length].C.Vals (c + 1 + 1 + 1 + 1) (by omega) (by omega) (by omega) k (by omega)]
    simp only [mid_lt, put_mid, at_mid, Int.toNat_natCast, spliceT, List.length_cons, List.length_nil, List.drop_succ_cons, List.drop_zero, List.cons_append, List.nil_append, Nat.zero_add, Nat.reduceAdd, d0, Bool.and_self, chk_true, cond_true, List.getD_cons_zero, List.getD_cons_succ, T.asI_i, T.asR_r, Outs.t_mk, Outs.vt_mk, bindO_some, e0, e1, e2, e3, e4, e5]
    rw [markIntS_r l[A.length].A.Vals (c + 1 + 1 + 1 + 1 + ((l[A.length].C.Vals.map Int.cn).sum : Nat) + 1 + 1) (by omega) (by omega) (by omega) k (by omega)]
    simp only [mid_lt, put_mid, at_mid, Int.toNat_natCast, spliceT, List.length_cons, List.length_nil, List.drop_succ_cons, List.drop_zero, List.cons_append, List.nil_append, Nat.zero_add, Nat.reduceAdd, d0, Bool.and_self, chk_true, cond_true, List.getD_cons_zero, List.getD_cons_succ, T.asI_i, T.asR_r, Outs.t_mk, Outs.vt_mk, bindO_some, e0, e1, e2, e3, e4, e5]
    rw [show c + ((Turn.cn l[A.length] : Nat) : Int) = c + 1 + 1 + 1 + 1 + ((l[A.length].C.Vals.map Int.cn).sum : Nat) + 1 + 1 + ((l[A.length].A.Vals.map Int.cn).sum : Nat) by omega]
    rfl
  · unfold laws_markTurnS_l1 laws_markTurnS_L1
    simp only [hw, dll, cond_false]
theorem heldTurnS_r (l : List Turn) (a : Int) (h0 : 0 ≤ a) (ha : a + ((l.map Turn.cn).sum : Nat) ≤ 4611686018427387904) (hw : wL Turn.w l ≤ Big) : Rn 3 N.laws_heldTurnS [.v [.r (eTurns (markL Turn.cn Turn.mk_ a l))], .v [.i a]] ⟨[.i (a + ((l.map Turn.cn).sum : Nat))], []⟩ := by
  refine Rn.of fun k hk => ?_
  rw [laws_heldTurnS_e]; unfold laws_heldTurnS_u laws_heldTurnS_U
  have hB : Big = 4294967296 := rfl
  have hl := wL_len Turn.w l
  have hm := markL_len Turn.cn Turn.mk_ a l
  refine held_loop Turn.cn l a h0 ha (by omega) (fun i hi c hc h1 h2 G => ?_) (fun c G => ?_) (by omega)
  · have hwi := wL_get Turn.w hi
    have hcn : Turn.cn l[i] = 6 + (l[i].C.Vals.map Int.cn).sum + (l[i].A.Vals.map Int.cn).sum := rfl
    have hwx : Turn.w l[i] = l[i].C.Vals.length + l[i].A.Vals.length := rfl
    have sCVals := sum_cn l[i].C.Vals
    have sAVals := sum_cn l[i].A.Vals
    have e0 : IntKind.wrap .i64 (c + 1) = c + 1 := wrap_id (by omega) (by omega)
    have e1 : IntKind.wrap .i64 (c + 1 + 1) = c + 1 + 1 := wrap_id (by omega) (by omega)
    have e2 : IntKind.wrap .i64 (c + 1 + 1 + 1) = c + 1 + 1 + 1 := wrap_id (by omega) (by omega)
    have e3 : IntKind.wrap .i64 (c + 1 + 1 + 1 + 1) = c + 1 + 1 + 1 + 1 := wrap_id (by omega) (by omega)
    have e4 : IntKind.wrap .i64 (c + 1 + 1 + 1 + 1 + ((l[i].C.Vals.map Int.cn).sum : Nat) + 1) = c + 1 + 1 + 1 + 1 + ((l[i].C.Vals.map Int.cn).sum : Nat) + 1 := wrap_id (by omega) (by omega)
    have e5 : IntKind.wrap .i64 (c + 1 + 1 + 1 + 1 + ((l[i].C.Vals.map Int.cn).sum : Nat) + 1 + 1) = c + 1 + 1 + 1 + 1 + ((l[i].C.Vals.map Int.cn).sum : Nat) + 1 + 1 := wrap_id (by omega) (by omega)
    have hi' : i < (markL Turn.cn Turn.mk_ a l).length := by omega
    unfold laws_heldTurnS_l1 laws_heldTurnS_L1
    simp only [List.length_map, at_map _ hi', markL_get Turn.cn Turn.mk_ a l i hi, ← hc, Turn.mk_, dlt hi', bne_self_eq_false, cond_false, d0, Bool.and_self, chk_true, cond_true, List.getD_cons_zero, List.getD_cons_succ, T.asI_i, T.asR_r, Outs.t_mk, Outs.vt_mk, bindO_some, Int.toNat_natCast, e0, e1, e2, e3, e4, e5]
    rw [heldIntS_r l[i].C.Vals (c + 1 + 1 + 1 + 1) (by omega) (by omega) (by omega) k (by omega)]
    simp only [bne_self_eq_false, cond_false, d0, Bool.and_self, chk_true, cond_true, List.getD_cons_zero, List.getD_cons_succ, T.asI_i, T.asR_r, Outs.t_mk, Outs.vt_mk, bindO_some, Int.toNat_natCast, e0, e1, e2, e3, e4, e5]
    rw [decide_eq_false (by omega)]; simp only [bne_self_eq_false, cond_false, d0, Bool.and_self, chk_true, cond_true, List.getD_cons_zero, List.getD_cons_succ, T.asI_i, T.asR_r, Outs.t_mk, Outs.vt_mk, bindO_some, Int.toNat_natCast, e0, e1, e2, e3, e4, e5]
    rw [heldIntS_r l[i].A.Vals (c + 1 + 1 + 1 + 1 + ((l[i].C.Vals.map Int.cn).sum : Nat) + 1 + 1) (by omega) (by omega) (by omega) k (by omega)]
    simp only [bne_self_eq_false, cond_false, d0, Bool.and_self, chk_true, cond_true, List.getD_cons_zero, List.getD_cons_succ, T.asI_i, T.asR_r, Outs.t_mk, Outs.vt_mk, bindO_some, Int.toNat_natCast, e0, e1, e2, e3, e4, e5]
    rw [decide_eq_false (by omega)]; simp only [bne_self_eq_false, cond_false, d0, Bool.and_self, chk_true, cond_true, List.getD_cons_zero, List.getD_cons_succ, T.asI_i, T.asR_r, Outs.t_mk, Outs.vt_mk, bindO_some, Int.toNat_natCast, e0, e1, e2, e3, e4, e5]
    rw [show c + ((Turn.cn l[i] : Nat) : Int) = c + 1 + 1 + 1 + 1 + ((l[i].C.Vals.map Int.cn).sum : Nat) + 1 + 1 + ((l[i].A.Vals.map Int.cn).sum : Nat) by omega]
  · unfold laws_heldTurnS_l1 laws_heldTurnS_L1
    simp only [List.length_map, hm, dll, cond_false]
def Job.cn (x : Job) : Nat := 6 + (x.C.Vals.map Int.cn).sum + (x.Got.map Int.cn).sum
def Job.mk_ (c : Int) (x : Job) : Job := { C := { Op := c, Id := c + 1, Lba := c + 1 + 1, N := c + 1 + 1 + 1, Vals := markL Int.cn Int.mk_ (c + 1 + 1 + 1 + 1) x.C.Vals }, At := c + 1 + 1 + 1 + 1 + ((x.C.Vals.map Int.cn).sum : Nat), Got := markL Int.cn Int.mk_ (c + 1 + 1 + 1 + 1 + ((x.C.Vals.map Int.cn).sum : Nat) + 1) x.Got, Code := c + 1 + 1 + 1 + 1 + ((x.C.Vals.map Int.cn).sum : Nat) + 1 + ((x.Got.map Int.cn).sum : Nat) }
theorem markJobS_r (l : List Job) (a : Int) (h0 : 0 ≤ a) (ha : a + ((l.map Job.cn).sum : Nat) ≤ 4611686018427387904) (hw : wL Job.w l ≤ Big) : Rn 3 N.laws_markJobS [.r (eJobs l), .v [.i a]] ⟨[.i (a + ((l.map Job.cn).sum : Nat))], [[.r (eJobs (markL Job.cn Job.mk_ a l))]]⟩ := by
  refine Rn.of fun k hk => ?_
  rw [laws_markJobS_e]; unfold laws_markJobS_u laws_markJobS_U
  have hB : Big = 4294967296 := rfl
  have hl := wL_len Job.w l
  refine mark_loop Job.e Job.cn Job.mk_ l a h0 ha (by omega) (fun i hi A B c hA h1 h2 G => ?_) (fun c w hw G => ?_) (by omega)
  · subst hA
    have hwi := wL_get Job.w hi
    have hcn : Job.cn l[A.length] = 6 + (l[A.length].C.Vals.map Int.cn).sum + (l[A.length].Got.map Int.cn).sum := rfl
    have hwx : Job.w l[A.length] = l[A.length].C.Vals.length + l[A.length].Got.length := rfl
    have sCVals := sum_cn l[A.length].C.Vals
    have sGot := sum_cn l[A.length].Got
    have e0 : IntKind.wrap .i64 (c + 1) = c + 1 := wrap_id (by omega) (by omega)
    have e1 : IntKind.wrap .i64 (c + 1 + 1) = c + 1 + 1 := wrap_id (by omega) (by omega)
    have e2 : IntKind.wrap .i64 (c + 1 + 1 + 1) = c + 1 + 1 + 1 := wrap_id (by omega) (by omega)
    have e3 : IntKind.wrap .i64 (c + 1 + 1 + 1 + 1) = c + 1 + 1 + 1 + 1 := wrap_id (by omega) (by omega)
    have e4 : IntKind.wrap .i64 (c + 1 + 1 + 1 + 1 + ((l[A.length].C.Vals.map Int.cn).sum : Nat) + 1) = c + 1 + 1 + 1 + 1 + ((l[A.length].C.Vals.map Int.cn).sum : Nat) + 1 := wrap_id (by omega) (by omega)
    have e5 : IntKind.wrap .i64 (c + 1 + 1 + 1 + 1 + ((l[A.length].C.Vals.map Int.cn).sum : Nat) + 1 + ((l[A.length].Got.map Int.cn).sum : Nat) + 1) = c + 1 + 1 + 1 + 1 + ((l[A.length].C.Vals.map Int.cn).sum : Nat) + 1 + ((l[A.length].Got.map Int.cn).sum : Nat) + 1 := wrap_id (by omega) (by omega)
    unfold laws_markJobS_l1 laws_markJobS_L1
    simp only [mid_lt, put_mid, at_mid, Int.toNat_natCast, spliceT, List.length_cons, List.length_nil, List.drop_succ_cons, List.drop_zero, List.cons_append, List.nil_append, Nat.zero_add, Nat.reduceAdd, d0, Bool.and_self, chk_true, cond_true, List.getD_cons_zero, List.getD_cons_succ, T.asI_i, T.asR_r, Outs.t_mk, Outs.vt_mk, bindO_some, e0, e1, e2, e3, e4, e5]
    rw [markIntS_r l[A.length].C.Vals (c + 1 + 1 + 1 + 1) (by omega) (by omega) (by omega) k (by omega)]
    simp only [mid_lt, put_mid, at_mid, Int.toNat_natCast, spliceT, List.length_cons, List.length_nil, List.drop_succ_cons, List.drop_zero, List.cons_append, List.nil_append, Nat.zero_add, Nat.reduceAdd, d0, Bool.and_self, chk_true, cond_true, List.getD_cons_zero, List.getD_cons_succ, T.asI_i, T.asR_r, Outs.t_mk, Outs.vt_mk, bindO_some, e0, e1, e2, e3, e4, e5]
    rw [markIntS_r l[A.length].Got (c + 1 + 1 + 1 + 1 + ((l[A.length].C.Vals.map Int.cn).sum : Nat) + 1) (by omega) (by omega) (by omega) k (by omega)]
    simp only [mid_lt, put_mid, at_mid, Int.toNat_natCast, spliceT, List.length_cons, List.length_nil, List.drop_succ_cons, List.drop_zero, List.cons_append, List.nil_append, Nat.zero_add, Nat.reduceAdd, d0, Bool.and_self, chk_true, cond_true, List.getD_cons_zero, List.getD_cons_succ, T.asI_i, T.asR_r, Outs.t_mk, Outs.vt_mk, bindO_some, e0, e1, e2, e3, e4, e5]
    rw [show c + ((Job.cn l[A.length] : Nat) : Int) = c + 1 + 1 + 1 + 1 + ((l[A.length].C.Vals.map Int.cn).sum : Nat) + 1 + ((l[A.length].Got.map Int.cn).sum : Nat) + 1 by omega]
    rfl
  · unfold laws_markJobS_l1 laws_markJobS_L1
    simp only [hw, dll, cond_false]
theorem heldJobS_r (l : List Job) (a : Int) (h0 : 0 ≤ a) (ha : a + ((l.map Job.cn).sum : Nat) ≤ 4611686018427387904) (hw : wL Job.w l ≤ Big) : Rn 3 N.laws_heldJobS [.v [.r (eJobs (markL Job.cn Job.mk_ a l))], .v [.i a]] ⟨[.i (a + ((l.map Job.cn).sum : Nat))], []⟩ := by
  refine Rn.of fun k hk => ?_
  rw [laws_heldJobS_e]; unfold laws_heldJobS_u laws_heldJobS_U
  have hB : Big = 4294967296 := rfl
  have hl := wL_len Job.w l
  have hm := markL_len Job.cn Job.mk_ a l
  refine held_loop Job.cn l a h0 ha (by omega) (fun i hi c hc h1 h2 G => ?_) (fun c G => ?_) (by omega)
  · have hwi := wL_get Job.w hi
    have hcn : Job.cn l[i] = 6 + (l[i].C.Vals.map Int.cn).sum + (l[i].Got.map Int.cn).sum := rfl
    have hwx : Job.w l[i] = l[i].C.Vals.length + l[i].Got.length := rfl
    have sCVals := sum_cn l[i].C.Vals
    have sGot := sum_cn l[i].Got
    have e0 : IntKind.wrap .i64 (c + 1) = c + 1 := wrap_id (by omega) (by omega)
    have e1 : IntKind.wrap .i64 (c + 1 + 1) = c + 1 + 1 := wrap_id (by omega) (by omega)
    have e2 : IntKind.wrap .i64 (c + 1 + 1 + 1) = c + 1 + 1 + 1 := wrap_id (by omega) (by omega)
    have e3 : IntKind.wrap .i64 (c + 1 + 1 + 1 + 1) = c + 1 + 1 + 1 + 1 := wrap_id (by omega) (by omega)
    have e4 : IntKind.wrap .i64 (c + 1 + 1 + 1 + 1 + ((l[i].C.Vals.map Int.cn).sum : Nat) + 1) = c + 1 + 1 + 1 + 1 + ((l[i].C.Vals.map Int.cn).sum : Nat) + 1 := wrap_id (by omega) (by omega)
    have e5 : IntKind.wrap .i64 (c + 1 + 1 + 1 + 1 + ((l[i].C.Vals.map Int.cn).sum : Nat) + 1 + ((l[i].Got.map Int.cn).sum : Nat) + 1) = c + 1 + 1 + 1 + 1 + ((l[i].C.Vals.map Int.cn).sum : Nat) + 1 + ((l[i].Got.map Int.cn).sum : Nat) + 1 := wrap_id (by omega) (by omega)
    have hi' : i < (markL Job.cn Job.mk_ a l).length := by omega
    unfold laws_heldJobS_l1 laws_heldJobS_L1
    simp only [List.length_map, at_map _ hi', markL_get Job.cn Job.mk_ a l i hi, ← hc, Job.mk_, dlt hi', bne_self_eq_false, cond_false, d0, Bool.and_self, chk_true, cond_true, List.getD_cons_zero, List.getD_cons_succ, T.asI_i, T.asR_r, Outs.t_mk, Outs.vt_mk, bindO_some, Int.toNat_natCast, e0, e1, e2, e3, e4, e5]
    rw [heldIntS_r l[i].C.Vals (c + 1 + 1 + 1 + 1) (by omega) (by omega) (by omega) k (by omega)]
    simp only [bne_self_eq_false, cond_false, d0, Bool.and_self, chk_true, cond_true, List.getD_cons_zero, List.getD_cons_succ, T.asI_i, T.asR_r, Outs.t_mk, Outs.vt_mk, bindO_some, Int.toNat_natCast, e0, e1, e2, e3, e4, e5]
    rw [decide_eq_false (by omega)]; simp only [bne_self_eq_false, cond_false, d0, Bool.and_self, chk_true, cond_true, List.getD_cons_zero, List.getD_cons_succ, T.asI_i, T.asR_r, Outs.t_mk, Outs.vt_mk, bindO_some, Int.toNat_natCast, e0, e1, e2, e3, e4, e5]
    rw [heldIntS_r l[i].Got (c + 1 + 1 + 1 + 1 + ((l[i].C.Vals.map Int.cn).sum : Nat) + 1) (by omega) (by omega) (by omega) k (by omega)]
    simp only [bne_self_eq_false, cond_false, d0, Bool.and_self, chk_true, cond_true, List.getD_cons_zero, List.getD_cons_succ, T.asI_i, T.asR_r, Outs.t_mk, Outs.vt_mk, bindO_some, Int.toNat_natCast, e0, e1, e2, e3, e4, e5]
    rw [decide_eq_false (by omega)]; simp only [bne_self_eq_false, cond_false, d0, Bool.and_self, chk_true, cond_true, List.getD_cons_zero, List.getD_cons_succ, T.asI_i, T.asR_r, Outs.t_mk, Outs.vt_mk, bindO_some, Int.toNat_natCast, e0, e1, e2, e3, e4, e5]
    rw [show c + ((Job.cn l[i] : Nat) : Int) = c + 1 + 1 + 1 + 1 + ((l[i].C.Vals.map Int.cn).sum : Nat) + 1 + ((l[i].Got.map Int.cn).sum : Nat) + 1 by omega]
  · unfold laws_heldJobS_l1 laws_heldJobS_L1
    simp only [List.length_map, hm, dll, cond_false]
end Go.Proofs.Ytahlghlpdcfbgaa.Ev
