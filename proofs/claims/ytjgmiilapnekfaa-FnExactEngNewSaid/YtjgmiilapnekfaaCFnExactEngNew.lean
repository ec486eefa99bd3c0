/- What FnExactEngNew needs, in plain Lean. No condition. -/
import Derived.Test.YtjgmiilapnekfaaCeFnExactEngNew0
import Derived.Test.YtjgmiilapnekfaaCeFnExactEngNew1
namespace Go.Proofs.Ytjgmiilapnekfaa.Ev
open Go
set_option linter.unusedVariables false
set_option linter.unusedSimpArgs false
set_option maxHeartbeats 1000000
noncomputable section
structure Geo where
  N : Int
  S : Int
deriving DecidableEq, Inhabited
structure Wr where
  N : Int
  S : List Int
deriving DecidableEq, Inhabited
structure Dsk where
  Secs : List (List Int)
  Cache : List Wr
  Failed : Bool
  Bad : List Int
deriving DecidableEq, Inhabited
structure Super where
  Id : Int
  Gen : Int
  Role : Int
  N : Int
  S : Int
  Tail : Int
  Lost : Int
  Built : Int
deriving DecidableEq, Inhabited
structure Rec where
  Seq : Int
  Stripe : Int
  Data : List Int
deriving DecidableEq, Inhabited
structure Ent where
  Stripe : Int
  Data : List Int
deriving DecidableEq, Inhabited
structure Arr where
  Id : Int
  G : Geo
  Mems : List Dsk
  Lost : Int
  Built : Int
  Seq : Int
  Tail : Int
  Gen : Int
  Dirty : List Ent
  Fuse : Int
  Down : Bool
  Broken : Bool
deriving DecidableEq, Inhabited
structure Cmd where
  Op : Int
  Id : Int
  Lba : Int
  N : Int
  Vals : List Int
deriving DecidableEq, Inhabited
structure Job where
  C : Cmd
  At : Int
  Got : List Int
  Code : Int
deriving DecidableEq, Inhabited
structure Ans where
  Id : Int
  Code : Int
  Vals : List Int
deriving DecidableEq, Inhabited
structure Turn where
  C : Cmd
  A : Ans
deriving DecidableEq, Inhabited
structure Eng where
  A : Arr
  Wait : List Cmd
  Jobs : List Job
  Done : List Ans
  Log : List Turn
deriving DecidableEq, Inhabited
structure Event where
  Kind : Int
  C : Cmd
  K : Int
  S : Int
  Keeps : List Int
deriving DecidableEq, Inhabited
abbrev eIs (l : List Int) : List (List T) := l.map fun n => [.i n]
abbrev eIss (l : List (List Int)) : List (List T) := l.map fun s => [.r (eIs s)]
abbrev Geo.e (g : Geo) : List T := [.i g.N, .i g.S]
abbrev Wr.e (x : Wr) : List T := [.i x.N, .r (eIs x.S)]
abbrev eWrs (l : List Wr) : List (List T) := l.map Wr.e
abbrev Dsk.e (m : Dsk) : List T := [.r (eIss m.Secs), .r (eWrs m.Cache), .b m.Failed, .r (eIs m.Bad)]
abbrev eMems (l : List Dsk) : List (List T) := l.map Dsk.e
abbrev Super.e (x : Super) : List T := [.i x.Id, .i x.Gen, .i x.Role, .i x.N, .i x.S, .i x.Tail, .i x.Lost, .i x.Built]
abbrev Rec.e (x : Rec) : List T := [.i x.Seq, .i x.Stripe, .r (eIs x.Data)]
abbrev Ent.e (x : Ent) : List T := [.i x.Stripe, .r (eIs x.Data)]
abbrev eEnts (l : List Ent) : List (List T) := l.map Ent.e
abbrev Arr.e (a : Arr) : List T := [.i a.Id, .i a.G.N, .i a.G.S, .r (eMems a.Mems), .i a.Lost, .i a.Built, .i a.Seq, .i a.Tail, .i a.Gen, .r (eEnts a.Dirty), .i a.Fuse, .b a.Down, .b a.Broken]
abbrev Cmd.e (c : Cmd) : List T := [.i c.Op, .i c.Id, .i c.Lba, .i c.N, .r (eIs c.Vals)]
abbrev eCmds (l : List Cmd) : List (List T) := l.map Cmd.e
abbrev Job.e (j : Job) : List T := [.i j.C.Op, .i j.C.Id, .i j.C.Lba, .i j.C.N, .r (eIs j.C.Vals), .i j.At, .r (eIs j.Got), .i j.Code]
abbrev eJobs (l : List Job) : List (List T) := l.map Job.e
abbrev Ans.e (x : Ans) : List T := [.i x.Id, .i x.Code, .r (eIs x.Vals)]
abbrev eAnss (l : List Ans) : List (List T) := l.map Ans.e
abbrev Turn.e (t : Turn) : List T := [.i t.C.Op, .i t.C.Id, .i t.C.Lba, .i t.C.N, .r (eIs t.C.Vals), .i t.A.Id, .i t.A.Code, .r (eIs t.A.Vals)]
abbrev eTurns (l : List Turn) : List (List T) := l.map Turn.e
abbrev Eng.e (x : Eng) : List T := [.i x.A.Id, .i x.A.G.N, .i x.A.G.S, .r (eMems x.A.Mems), .i x.A.Lost, .i x.A.Built, .i x.A.Seq, .i x.A.Tail, .i x.A.Gen, .r (eEnts x.A.Dirty), .i x.A.Fuse, .b x.A.Down, .b x.A.Broken, .r (eCmds x.Wait), .r (eJobs x.Jobs), .r (eAnss x.Done), .r (eTurns x.Log)]
abbrev Event.e (v : Event) : List T := [.i v.Kind, .i v.C.Op, .i v.C.Id, .i v.C.Lba, .i v.C.N, .r (eIs v.C.Vals), .i v.K, .i v.S, .r (eIs v.Keeps)]
def wL {α : Type} (w : α → Nat) (l : List α) : Nat := l.length + (l.map w).sum
def Wr.w (x : Wr) : Nat := x.S.length
def Dsk.w (m : Dsk) : Nat := wL List.length m.Secs + wL Wr.w m.Cache + m.Bad.length
def Ent.w (x : Ent) : Nat := x.Data.length
def Arr.w (a : Arr) : Nat := wL Dsk.w a.Mems + wL Ent.w a.Dirty
def Cmd.w (c : Cmd) : Nat := c.Vals.length
def Ans.w (x : Ans) : Nat := x.Vals.length
def Job.w (j : Job) : Nat := j.C.w + j.Got.length
def Turn.w (t : Turn) : Nat := t.C.w + t.A.w
def Eng.w (x : Eng) : Nat := x.A.w + wL Cmd.w x.Wait + wL Job.w x.Jobs + wL Ans.w x.Done + wL Turn.w x.Log
def Event.w (v : Event) : Nat := v.C.w + v.Keeps.length
theorem wL_len {α : Type} (w : α → Nat) (l : List α) : l.length ≤ wL w l := Nat.le_add_right _ _
theorem sum_mem {l : List Nat} {x : Nat} (h : x ∈ l) : x ≤ l.sum := by
  induction l with
  | nil => cases h
  | cons a l ih =>
    rw [List.sum_cons]
    rcases List.mem_cons.1 h with rfl | h
    · exact Nat.le_add_right _ _
    · exact Nat.le_trans (ih h) (Nat.le_add_left _ _)
theorem wL_mem {α : Type} (w : α → Nat) {l : List α} {x : α} (h : x ∈ l) : w x ≤ wL w l := Nat.le_trans (sum_mem (List.mem_map.2 ⟨x, h, rfl⟩)) (Nat.le_add_left _ _)
theorem wL_get {α : Type} (w : α → Nat) {l : List α} {i : Nat} (h : i < l.length) : w l[i] ≤ wL w l := wL_mem w (List.getElem_mem h)
theorem wL_nil {α : Type} (w : α → Nat) : wL w [] = 0 := rfl
theorem wL_cons {α : Type} (w : α → Nat) (x : α) (l : List α) : wL w (x :: l) = 1 + w x + wL w l := by
  unfold wL; simp; omega
theorem wL_append {α : Type} (w : α → Nat) (a b : List α) : wL w (a ++ b) = wL w a + wL w b := by
  unfold wL; simp; omega
theorem wrap_id {n : Int} (h0 : -9223372036854775808 ≤ n) (h1 : n ≤ 9223372036854775807) : IntKind.wrap .i64 n = n := by
  unfold IntKind.wrap IntKind.signed IntKind.bits
  simp
  omega
theorem wrap_up {i : Nat} (h : i ≤ 1099511627776) : IntKind.wrap .i64 ((i : Int) + 1) = ((i + 1 : Nat) : Int) := by
  rw [wrap_id (by omega) (by omega)]; omega
def Big : Nat := 4294967296
def Rn (d : Nat) (f : FuncId) (ins : List Arg) (o : Outs) : Prop := ∀ k, Big + d ≤ k → evalF E P0 k f ins = some o
theorem Rn.of {d : Nat} {f : FuncId} {ins : List Arg} {o : Outs} (h : ∀ k, Big + d ≤ k → evalF E P0 (k + 1) f ins = some o) : Rn (d + 1) f ins o := by
  intro k hk
  obtain ⟨k, rfl⟩ : ∃ m, k = m + 1 := ⟨k - 1, by omega⟩
  exact h k (by omega)
theorem bindO_some {R : Type} (o : Outs) (k : Outs → Option R) : bindO (some o) k = k o := rfl
theorem chk_true {R : Type} (x : Option R) : chk true x = x := rfl
theorem chk_ok {R : Type} {c : Bool} (h : c = true) (x : Option R) : chk c x = x := by subst h; rfl
@[simp] theorem Outs.t_mk (l : List T) (v : List (List T)) (j : Nat) : Outs.t ⟨l, v⟩ j = l.getD j (.i 0) := rfl
@[simp] theorem T.asI_i (n : Int) : (T.i n).asI = n := rfl
@[simp] theorem T.asB_b (x : Bool) : (T.b x).asB = x := rfl
@[simp] theorem T.asS_s (x : ByteArray) : (T.s x).asS = x := rfl
@[simp] theorem T.asR_r (x : List (List T)) : (T.r x).asR = x := rfl
theorem at_map {α : Type} (f : α → List T) {l : List α} {i : Nat} (h : i < l.length) (j : Nat) : at_ (l.map f) i j = (f l[i]).getD j (.i 0) := by
  unfold at_
  simp [List.getD_eq_getElem?_getD, h]
theorem fixN_up {V R : Type} {b : (V → Option R) → V → Option R} (n : Nat) (st : Nat → V) (ans : Nat → Option R)
    (h : ∀ i, i < n → ∀ G, G (st (i + 1)) = ans (i + 1) → b G (st i) = ans i) (he : ∀ G, b G (st n) = ans n) {j : Nat} (hj : n < j) : fixN b j (st 0) = ans 0 := by
  have : ∀ d i j, i + d = n → d < j → fixN b j (st i) = ans i := by
    intro d
    induction d with
    | zero =>
      intro i j hi hj
      obtain ⟨j, rfl⟩ : ∃ m, j = m + 1 := ⟨j - 1, by omega⟩
      obtain rfl : i = n := by omega
      exact he _
    | succ d ih =>
      intro i j hi hj
      obtain ⟨j, rfl⟩ : ∃ m, j = m + 1 := ⟨j - 1, by omega⟩
      exact h i (by omega) _ (ih (i + 1) j (by omega) (by omega))
  exact this n 0 j (by omega) hj
def inI (n : Int) : Prop := -9223372036854775808 ≤ n ∧ n ≤ 9223372036854775807
def LF {α : Type} (p : α → Prop) (l : List α) : Prop := l.length ≤ maxLen ∧ ∀ x ∈ l, p x
def Geo.Fit (x : Geo) : Prop := inI x.N ∧ inI x.S
def Wr.Fit (x : Wr) : Prop := inI x.N ∧ LF inI x.S
def Dsk.Fit (x : Dsk) : Prop := LF (LF inI) x.Secs ∧ LF Wr.Fit x.Cache ∧ True ∧ LF inI x.Bad
def Super.Fit (x : Super) : Prop := inI x.Id ∧ inI x.Gen ∧ inI x.Role ∧ inI x.N ∧ inI x.S ∧ inI x.Tail ∧ inI x.Lost ∧ inI x.Built
def Rec.Fit (x : Rec) : Prop := inI x.Seq ∧ inI x.Stripe ∧ LF inI x.Data
def Ent.Fit (x : Ent) : Prop := inI x.Stripe ∧ LF inI x.Data
def Arr.Fit (x : Arr) : Prop := inI x.Id ∧ x.G.Fit ∧ LF Dsk.Fit x.Mems ∧ inI x.Lost ∧ inI x.Built ∧ inI x.Seq ∧ inI x.Tail ∧ inI x.Gen ∧ LF Ent.Fit x.Dirty ∧ inI x.Fuse ∧ True ∧ True
def Cmd.Fit (x : Cmd) : Prop := inI x.Op ∧ inI x.Id ∧ inI x.Lba ∧ inI x.N ∧ LF inI x.Vals
def Job.Fit (x : Job) : Prop := x.C.Fit ∧ inI x.At ∧ LF inI x.Got ∧ inI x.Code
def Ans.Fit (x : Ans) : Prop := inI x.Id ∧ inI x.Code ∧ LF inI x.Vals
def Turn.Fit (x : Turn) : Prop := x.C.Fit ∧ x.A.Fit
def Eng.Fit (x : Eng) : Prop := x.A.Fit ∧ LF Cmd.Fit x.Wait ∧ LF Job.Fit x.Jobs ∧ LF Ans.Fit x.Done ∧ LF Turn.Fit x.Log
def Event.Fit (x : Event) : Prop := inI x.Kind ∧ x.C.Fit ∧ inI x.K ∧ inI x.S ∧ LF inI x.Keeps
theorem sum_take {α : Type} (w : α → Nat) (l : List α) {i : Nat} (h : i < l.length) : ((l.take (i + 1)).map w).sum = ((l.take i).map w).sum + w l[i] := by
  rw [List.take_succ_eq_append_getElem h]; simp only [List.map_append, List.sum_append, List.map_cons, List.map_nil, List.sum_cons, List.sum_nil, Nat.add_zero]
theorem sum_take_le {α : Type} (w : α → Nat) (l : List α) (i : Nat) : ((l.take i).map w).sum ≤ (l.map w).sum := by
  conv => rhs; rw [← List.take_append_drop i l]
  rw [List.map_append, List.sum_append]; exact Nat.le_add_right _ _
theorem dlt {i n : Nat} (h : i < n) : decide ((i : Int) < (n : Int)) = true := decide_eq_true (by omega)
theorem dll {n : Nat} : decide ((n : Int) < (n : Int)) = false := decide_eq_false (by omega)
theorem d0 {n : Nat} : decide (0 ≤ (n : Int)) = true := decide_eq_true (by omega)
theorem eq_loop (n : Nat) {b : (Int → Option Outs) → Int → Option Outs} (hl : n ≤ 2147483648)
    (h : ∀ (i : Nat), i < n → ∀ G, b G (i : Int) = G (IntKind.wrap .i64 ((i : Int) + 1))) (he : ∀ G, b G (n : Int) = some ⟨[.b true], []⟩) {j : Nat} (hj : Big ≤ j) : fixN b j 0 = some ⟨[.b true], []⟩ := by
  refine fixN_up (b := b) n (fun i => (i : Int)) (fun _ => some ⟨[.b true], []⟩) (fun i hi G hG => ?_) he (j := j) (by unfold Big at hj; omega)
  rw [h i hi, wrap_up (by omega)]; exact hG
theorem eqIntS_R (x : List Int) (hx : x.length ≤ 2147483648) : Rn 1 N.laws_eqIntS [.v [.r (eIs x)], .v [.r (eIs x)]] ⟨[.b true], []⟩ := by
  refine Rn.of fun k hk => ?_
  rw [laws_eqIntS_e]; unfold laws_eqIntS_u
  unfold laws_eqIntS_U
  simp only [bne_self_eq_false, cond_false]
  refine eq_loop x.length (by omega) (fun i hi G => ?_) (fun G => ?_) (by omega)
  · unfold laws_eqIntS_l1 laws_eqIntS_L1
    simp only [List.length_map, at_map _ hi, dlt hi, bne_self_eq_false, d0, Bool.and_self, chk_true, Outs.t_mk, List.getD_cons_zero, List.getD_cons_succ, T.asI_i, T.asB_b, T.asR_r, Int.toNat_natCast, bindO_some, Bool.not_true, cond_false, cond_true, Bool.not_false]
  · unfold laws_eqIntS_l1 laws_eqIntS_L1
    simp only [List.length_map, dll, cond_false]
theorem eqIntSS_R (x : List (List Int)) (hx : wL List.length x ≤ 2147483648) : Rn 2 N.laws_eqIntSS [.v [.r (eIss x)], .v [.r (eIss x)]] ⟨[.b true], []⟩ := by
  refine Rn.of fun k hk => ?_
  rw [laws_eqIntSS_e]; unfold laws_eqIntSS_u
  unfold laws_eqIntSS_U
  simp only [bne_self_eq_false, cond_false]
  unfold wL at hx
  refine eq_loop x.length (by omega) (fun i hi G => ?_) (fun G => ?_) (by omega)
  · unfold laws_eqIntSS_l1 laws_eqIntSS_L1
    simp only [List.length_map, at_map _ hi, dlt hi, bne_self_eq_false, d0, Bool.and_self, chk_true, Outs.t_mk, List.getD_cons_zero, List.getD_cons_succ, T.asI_i, T.asB_b, T.asR_r, Int.toNat_natCast, bindO_some, Bool.not_true, cond_false, cond_true, Bool.not_false]
    have hw := wL_get List.length hi
    unfold wL at hw
    rw [eqIntS_R x[i] (by omega) k (by omega)]
    rfl
  · unfold laws_eqIntSS_l1 laws_eqIntSS_L1
    simp only [List.length_map, dll, cond_false]
theorem toGeo_r (x : Geo) : Rn 1 N.laws_toGeo [.v x.e] ⟨x.e, []⟩ := by
  refine Rn.of fun k hk => ?_
  rw [laws_toGeo_e]; unfold laws_toGeo_u
  rfl
theorem eqGeo_R (x : Geo) : Rn 1 N.laws_eqGeo [.v x.e, .v x.e] ⟨[.b true], []⟩ := by
  refine Rn.of fun k hk => ?_
  rw [laws_eqGeo_e]; unfold laws_eqGeo_u
  try simp only [bne_self_eq_false, cond_false, beq_self_eq_true, Bool.not_true]
theorem eqWr_R (x : Wr) (hx : x.w ≤ 2147483648) : Rn 2 N.laws_eqWr [.v x.e, .v x.e] ⟨[.b true], []⟩ := by
  refine Rn.of fun k hk => ?_
  rw [laws_eqWr_e]; unfold laws_eqWr_u
  unfold Wr.w at hx
  try simp only [bne_self_eq_false, cond_false, beq_self_eq_true, Bool.not_true]
  rw [eqIntS_R x.S (by omega) k (by omega)]
  simp only [bne_self_eq_false, beq_self_eq_true, d0, Bool.and_self, chk_true, Outs.t_mk, List.getD_cons_zero, List.getD_cons_succ, T.asI_i, T.asB_b, T.asR_r, Int.toNat_natCast, bindO_some, Bool.not_true, cond_false, cond_true, Bool.not_false]
theorem eqWrS_R (x : List Wr) (hx : wL Wr.w x ≤ 2147483648) : Rn 3 N.laws_eqWrS [.v [.r (eWrs x)], .v [.r (eWrs x)]] ⟨[.b true], []⟩ := by
  refine Rn.of fun k hk => ?_
  rw [laws_eqWrS_e]; unfold laws_eqWrS_u
  unfold laws_eqWrS_U
  simp only [bne_self_eq_false, cond_false]
  unfold wL at hx
  refine eq_loop x.length (by omega) (fun i hi G => ?_) (fun G => ?_) (by omega)
  · unfold laws_eqWrS_l1 laws_eqWrS_L1
    simp only [List.length_map, at_map _ hi, dlt hi, bne_self_eq_false, d0, Bool.and_self, chk_true, Outs.t_mk, List.getD_cons_zero, List.getD_cons_succ, T.asI_i, T.asB_b, T.asR_r, Int.toNat_natCast, bindO_some, Bool.not_true, cond_false, cond_true, Bool.not_false]
    have hw := wL_get Wr.w hi
    unfold wL at hw
    rw [eqWr_R x[i] (by omega) k (by omega)]
    rfl
  · unfold laws_eqWrS_l1 laws_eqWrS_L1
    simp only [List.length_map, dll, cond_false]
theorem eqMem_R (x : Dsk) (hx : x.w ≤ 2147483648) : Rn 4 N.laws_eqMem [.v x.e, .v x.e] ⟨[.b true], []⟩ := by
  refine Rn.of fun k hk => ?_
  rw [laws_eqMem_e]; unfold laws_eqMem_u
  unfold Dsk.w at hx
  try simp only [bne_self_eq_false, cond_false, beq_self_eq_true, Bool.not_true]
  rw [eqIntSS_R x.Secs (by omega) k (by omega)]
  simp only [bne_self_eq_false, beq_self_eq_true, d0, Bool.and_self, chk_true, Outs.t_mk, List.getD_cons_zero, List.getD_cons_succ, T.asI_i, T.asB_b, T.asR_r, Int.toNat_natCast, bindO_some, Bool.not_true, cond_false, cond_true, Bool.not_false]
  rw [eqWrS_R x.Cache (by omega) k (by omega)]
  simp only [bne_self_eq_false, beq_self_eq_true, d0, Bool.and_self, chk_true, Outs.t_mk, List.getD_cons_zero, List.getD_cons_succ, T.asI_i, T.asB_b, T.asR_r, Int.toNat_natCast, bindO_some, Bool.not_true, cond_false, cond_true, Bool.not_false]
  rw [eqIntS_R x.Bad (by omega) k (by omega)]
  simp only [bne_self_eq_false, beq_self_eq_true, d0, Bool.and_self, chk_true, Outs.t_mk, List.getD_cons_zero, List.getD_cons_succ, T.asI_i, T.asB_b, T.asR_r, Int.toNat_natCast, bindO_some, Bool.not_true, cond_false, cond_true, Bool.not_false]
theorem eqMemS_R (x : List Dsk) (hx : wL Dsk.w x ≤ 2147483648) : Rn 5 N.laws_eqMemS [.v [.r (eMems x)], .v [.r (eMems x)]] ⟨[.b true], []⟩ := by
  refine Rn.of fun k hk => ?_
  rw [laws_eqMemS_e]; unfold laws_eqMemS_u
  unfold laws_eqMemS_U
  simp only [bne_self_eq_false, cond_false]
  unfold wL at hx
  refine eq_loop x.length (by omega) (fun i hi G => ?_) (fun G => ?_) (by omega)
  · unfold laws_eqMemS_l1 laws_eqMemS_L1
    simp only [List.length_map, at_map _ hi, dlt hi, bne_self_eq_false, d0, Bool.and_self, chk_true, Outs.t_mk, List.getD_cons_zero, List.getD_cons_succ, T.asI_i, T.asB_b, T.asR_r, Int.toNat_natCast, bindO_some, Bool.not_true, cond_false, cond_true, Bool.not_false]
    have hw := wL_get Dsk.w hi
    unfold wL at hw
    rw [eqMem_R x[i] (by omega) k (by omega)]
    rfl
  · unfold laws_eqMemS_l1 laws_eqMemS_L1
    simp only [List.length_map, dll, cond_false]
theorem eqEnt_R (x : Ent) (hx : x.w ≤ 2147483648) : Rn 2 N.laws_eqEnt [.v x.e, .v x.e] ⟨[.b true], []⟩ := by
  refine Rn.of fun k hk => ?_
  rw [laws_eqEnt_e]; unfold laws_eqEnt_u
  unfold Ent.w at hx
  try simp only [bne_self_eq_false, cond_false, beq_self_eq_true, Bool.not_true]
  rw [eqIntS_R x.Data (by omega) k (by omega)]
  simp only [bne_self_eq_false, beq_self_eq_true, d0, Bool.and_self, chk_true, Outs.t_mk, List.getD_cons_zero, List.getD_cons_succ, T.asI_i, T.asB_b, T.asR_r, Int.toNat_natCast, bindO_some, Bool.not_true, cond_false, cond_true, Bool.not_false]
theorem eqEntS_R (x : List Ent) (hx : wL Ent.w x ≤ 2147483648) : Rn 3 N.laws_eqEntS [.v [.r (eEnts x)], .v [.r (eEnts x)]] ⟨[.b true], []⟩ := by
  refine Rn.of fun k hk => ?_
  rw [laws_eqEntS_e]; unfold laws_eqEntS_u
  unfold laws_eqEntS_U
  simp only [bne_self_eq_false, cond_false]
  unfold wL at hx
  refine eq_loop x.length (by omega) (fun i hi G => ?_) (fun G => ?_) (by omega)
  · unfold laws_eqEntS_l1 laws_eqEntS_L1
    simp only [List.length_map, at_map _ hi, dlt hi, bne_self_eq_false, d0, Bool.and_self, chk_true, Outs.t_mk, List.getD_cons_zero, List.getD_cons_succ, T.asI_i, T.asB_b, T.asR_r, Int.toNat_natCast, bindO_some, Bool.not_true, cond_false, cond_true, Bool.not_false]
    have hw := wL_get Ent.w hi
    unfold wL at hw
    rw [eqEnt_R x[i] (by omega) k (by omega)]
    rfl
  · unfold laws_eqEntS_l1 laws_eqEntS_L1
    simp only [List.length_map, dll, cond_false]
theorem eqArr_R (x : Arr) (hx : x.w ≤ 2147483648) : Rn 6 N.laws_eqArr [.v x.e, .v x.e] ⟨[.b true], []⟩ := by
  refine Rn.of fun k hk => ?_
  rw [laws_eqArr_e]; unfold laws_eqArr_u
  unfold Arr.w at hx
  try simp only [bne_self_eq_false, cond_false, beq_self_eq_true, Bool.not_true]
  rw [eqGeo_R x.G k (by omega)]
  simp only [bne_self_eq_false, beq_self_eq_true, d0, Bool.and_self, chk_true, Outs.t_mk, List.getD_cons_zero, List.getD_cons_succ, T.asI_i, T.asB_b, T.asR_r, Int.toNat_natCast, bindO_some, Bool.not_true, cond_false, cond_true, Bool.not_false]
  rw [eqMemS_R x.Mems (by omega) k (by omega)]
  simp only [bne_self_eq_false, beq_self_eq_true, d0, Bool.and_self, chk_true, Outs.t_mk, List.getD_cons_zero, List.getD_cons_succ, T.asI_i, T.asB_b, T.asR_r, Int.toNat_natCast, bindO_some, Bool.not_true, cond_false, cond_true, Bool.not_false]
  rw [eqEntS_R x.Dirty (by omega) k (by omega)]
  simp only [bne_self_eq_false, beq_self_eq_true, d0, Bool.and_self, chk_true, Outs.t_mk, List.getD_cons_zero, List.getD_cons_succ, T.asI_i, T.asB_b, T.asR_r, Int.toNat_natCast, bindO_some, Bool.not_true, cond_false, cond_true, Bool.not_false]
theorem eqCmd_R (x : Cmd) (hx : x.w ≤ 2147483648) : Rn 2 N.laws_eqCmd [.v x.e, .v x.e] ⟨[.b true], []⟩ := by
  refine Rn.of fun k hk => ?_
  rw [laws_eqCmd_e]; unfold laws_eqCmd_u
  unfold Cmd.w at hx
  try simp only [bne_self_eq_false, cond_false, beq_self_eq_true, Bool.not_true]
  rw [eqIntS_R x.Vals (by omega) k (by omega)]
  simp only [bne_self_eq_false, beq_self_eq_true, d0, Bool.and_self, chk_true, Outs.t_mk, List.getD_cons_zero, List.getD_cons_succ, T.asI_i, T.asB_b, T.asR_r, Int.toNat_natCast, bindO_some, Bool.not_true, cond_false, cond_true, Bool.not_false]
theorem eqCmdS_R (x : List Cmd) (hx : wL Cmd.w x ≤ 2147483648) : Rn 3 N.laws_eqCmdS [.v [.r (eCmds x)], .v [.r (eCmds x)]] ⟨[.b true], []⟩ := by
  refine Rn.of fun k hk => ?_
  rw [laws_eqCmdS_e]; unfold laws_eqCmdS_u
  unfold laws_eqCmdS_U
  simp only [bne_self_eq_false, cond_false]
  unfold wL at hx
  refine eq_loop x.length (by omega) (fun i hi G => ?_) (fun G => ?_) (by omega)
  · unfold laws_eqCmdS_l1 laws_eqCmdS_L1
    simp only [List.length_map, at_map _ hi, dlt hi, bne_self_eq_false, d0, Bool.and_self, chk_true, Outs.t_mk, List.getD_cons_zero, List.getD_cons_succ, T.asI_i, T.asB_b, T.asR_r, Int.toNat_natCast, bindO_some, Bool.not_true, cond_false, cond_true, Bool.not_false]
    have hw := wL_get Cmd.w hi
    unfold wL at hw
    rw [eqCmd_R x[i] (by omega) k (by omega)]
    rfl
  · unfold laws_eqCmdS_l1 laws_eqCmdS_L1
    simp only [List.length_map, dll, cond_false]
theorem eqJob_R (x : Job) (hx : x.w ≤ 2147483648) : Rn 3 N.laws_eqJob [.v x.e, .v x.e] ⟨[.b true], []⟩ := by
  refine Rn.of fun k hk => ?_
  rw [laws_eqJob_e]; unfold laws_eqJob_u
  unfold Job.w at hx
  try simp only [bne_self_eq_false, cond_false, beq_self_eq_true, Bool.not_true]
  rw [eqCmd_R x.C (by omega) k (by omega)]
  simp only [bne_self_eq_false, beq_self_eq_true, d0, Bool.and_self, chk_true, Outs.t_mk, List.getD_cons_zero, List.getD_cons_succ, T.asI_i, T.asB_b, T.asR_r, Int.toNat_natCast, bindO_some, Bool.not_true, cond_false, cond_true, Bool.not_false]
  rw [eqIntS_R x.Got (by omega) k (by omega)]
  simp only [bne_self_eq_false, beq_self_eq_true, d0, Bool.and_self, chk_true, Outs.t_mk, List.getD_cons_zero, List.getD_cons_succ, T.asI_i, T.asB_b, T.asR_r, Int.toNat_natCast, bindO_some, Bool.not_true, cond_false, cond_true, Bool.not_false]
theorem eqJobS_R (x : List Job) (hx : wL Job.w x ≤ 2147483648) : Rn 4 N.laws_eqJobS [.v [.r (eJobs x)], .v [.r (eJobs x)]] ⟨[.b true], []⟩ := by
  refine Rn.of fun k hk => ?_
  rw [laws_eqJobS_e]; unfold laws_eqJobS_u
  unfold laws_eqJobS_U
  simp only [bne_self_eq_false, cond_false]
  unfold wL at hx
  refine eq_loop x.length (by omega) (fun i hi G => ?_) (fun G => ?_) (by omega)
  · unfold laws_eqJobS_l1 laws_eqJobS_L1
    simp only [List.length_map, at_map _ hi, dlt hi, bne_self_eq_false, d0, Bool.and_self, chk_true, Outs.t_mk, List.getD_cons_zero, List.getD_cons_succ, T.asI_i, T.asB_b, T.asR_r, Int.toNat_natCast, bindO_some, Bool.not_true, cond_false, cond_true, Bool.not_false]
    have hw := wL_get Job.w hi
    unfold wL at hw
    rw [eqJob_R x[i] (by omega) k (by omega)]
    rfl
  · unfold laws_eqJobS_l1 laws_eqJobS_L1
    simp only [List.length_map, dll, cond_false]
theorem eqAns_R (x : Ans) (hx : x.w ≤ 2147483648) : Rn 2 N.laws_eqAns [.v x.e, .v x.e] ⟨[.b true], []⟩ := by
  refine Rn.of fun k hk => ?_
  rw [laws_eqAns_e]; unfold laws_eqAns_u
  unfold Ans.w at hx
  try simp only [bne_self_eq_false, cond_false, beq_self_eq_true, Bool.not_true]
  rw [eqIntS_R x.Vals (by omega) k (by omega)]
  simp only [bne_self_eq_false, beq_self_eq_true, d0, Bool.and_self, chk_true, Outs.t_mk, List.getD_cons_zero, List.getD_cons_succ, T.asI_i, T.asB_b, T.asR_r, Int.toNat_natCast, bindO_some, Bool.not_true, cond_false, cond_true, Bool.not_false]
theorem eqAnsS_R (x : List Ans) (hx : wL Ans.w x ≤ 2147483648) : Rn 3 N.laws_eqAnsS [.v [.r (eAnss x)], .v [.r (eAnss x)]] ⟨[.b true], []⟩ := by
  refine Rn.of fun k hk => ?_
  rw [laws_eqAnsS_e]; unfold laws_eqAnsS_u
  unfold laws_eqAnsS_U
  simp only [bne_self_eq_false, cond_false]
  unfold wL at hx
  refine eq_loop x.length (by omega) (fun i hi G => ?_) (fun G => ?_) (by omega)
  · unfold laws_eqAnsS_l1 laws_eqAnsS_L1
    simp only [List.length_map, at_map _ hi, dlt hi, bne_self_eq_false, d0, Bool.and_self, chk_true, Outs.t_mk, List.getD_cons_zero, List.getD_cons_succ, T.asI_i, T.asB_b, T.asR_r, Int.toNat_natCast, bindO_some, Bool.not_true, cond_false, cond_true, Bool.not_false]
    have hw := wL_get Ans.w hi
    unfold wL at hw
    rw [eqAns_R x[i] (by omega) k (by omega)]
    rfl
  · unfold laws_eqAnsS_l1 laws_eqAnsS_L1
    simp only [List.length_map, dll, cond_false]
theorem eqTurn_R (x : Turn) (hx : x.w ≤ 2147483648) : Rn 3 N.laws_eqTurn [.v x.e, .v x.e] ⟨[.b true], []⟩ := by
  refine Rn.of fun k hk => ?_
  rw [laws_eqTurn_e]; unfold laws_eqTurn_u
  unfold Turn.w at hx
  try simp only [bne_self_eq_false, cond_false, beq_self_eq_true, Bool.not_true]
  rw [eqCmd_R x.C (by omega) k (by omega)]
  simp only [bne_self_eq_false, beq_self_eq_true, d0, Bool.and_self, chk_true, Outs.t_mk, List.getD_cons_zero, List.getD_cons_succ, T.asI_i, T.asB_b, T.asR_r, Int.toNat_natCast, bindO_some, Bool.not_true, cond_false, cond_true, Bool.not_false]
  rw [eqAns_R x.A (by omega) k (by omega)]
  simp only [bne_self_eq_false, beq_self_eq_true, d0, Bool.and_self, chk_true, Outs.t_mk, List.getD_cons_zero, List.getD_cons_succ, T.asI_i, T.asB_b, T.asR_r, Int.toNat_natCast, bindO_some, Bool.not_true, cond_false, cond_true, Bool.not_false]
theorem eqTurnS_R (x : List Turn) (hx : wL Turn.w x ≤ 2147483648) : Rn 4 N.laws_eqTurnS [.v [.r (eTurns x)], .v [.r (eTurns x)]] ⟨[.b true], []⟩ := by
  refine Rn.of fun k hk => ?_
  rw [laws_eqTurnS_e]; unfold laws_eqTurnS_u
  unfold laws_eqTurnS_U
  simp only [bne_self_eq_false, cond_false]
  unfold wL at hx
  refine eq_loop x.length (by omega) (fun i hi G => ?_) (fun G => ?_) (by omega)
  · unfold laws_eqTurnS_l1 laws_eqTurnS_L1
    simp only [List.length_map, at_map _ hi, dlt hi, bne_self_eq_false, d0, Bool.and_self, chk_true, Outs.t_mk, List.getD_cons_zero, List.getD_cons_succ, T.asI_i, T.asB_b, T.asR_r, Int.toNat_natCast, bindO_some, Bool.not_true, cond_false, cond_true, Bool.not_false]
    have hw := wL_get Turn.w hi
    unfold wL at hw
    rw [eqTurn_R x[i] (by omega) k (by omega)]
    rfl
  · unfold laws_eqTurnS_l1 laws_eqTurnS_L1
    simp only [List.length_map, dll, cond_false]
theorem eqEng_R (x : Eng) (hx : x.w ≤ 2147483648) : Rn 7 N.laws_eqEng [.v x.e, .v x.e] ⟨[.b true], []⟩ := by
  refine Rn.of fun k hk => ?_
  rw [laws_eqEng_e]; unfold laws_eqEng_u
  unfold Eng.w at hx
  try simp only [bne_self_eq_false, cond_false, beq_self_eq_true, Bool.not_true]
  rw [eqArr_R x.A (by omega) k (by omega)]
  simp only [bne_self_eq_false, beq_self_eq_true, d0, Bool.and_self, chk_true, Outs.t_mk, List.getD_cons_zero, List.getD_cons_succ, T.asI_i, T.asB_b, T.asR_r, Int.toNat_natCast, bindO_some, Bool.not_true, cond_false, cond_true, Bool.not_false]
  rw [eqCmdS_R x.Wait (by omega) k (by omega)]
  simp only [bne_self_eq_false, beq_self_eq_true, d0, Bool.and_self, chk_true, Outs.t_mk, List.getD_cons_zero, List.getD_cons_succ, T.asI_i, T.asB_b, T.asR_r, Int.toNat_natCast, bindO_some, Bool.not_true, cond_false, cond_true, Bool.not_false]
  rw [eqJobS_R x.Jobs (by omega) k (by omega)]
  simp only [bne_self_eq_false, beq_self_eq_true, d0, Bool.and_self, chk_true, Outs.t_mk, List.getD_cons_zero, List.getD_cons_succ, T.asI_i, T.asB_b, T.asR_r, Int.toNat_natCast, bindO_some, Bool.not_true, cond_false, cond_true, Bool.not_false]
  rw [eqAnsS_R x.Done (by omega) k (by omega)]
  simp only [bne_self_eq_false, beq_self_eq_true, d0, Bool.and_self, chk_true, Outs.t_mk, List.getD_cons_zero, List.getD_cons_succ, T.asI_i, T.asB_b, T.asR_r, Int.toNat_natCast, bindO_some, Bool.not_true, cond_false, cond_true, Bool.not_false]
  rw [eqTurnS_R x.Log (by omega) k (by omega)]
  simp only [bne_self_eq_false, beq_self_eq_true, d0, Bool.and_self, chk_true, Outs.t_mk, List.getD_cons_zero, List.getD_cons_succ, T.asI_i, T.asB_b, T.asR_r, Int.toNat_natCast, bindO_some, Bool.not_true, cond_false, cond_true, Bool.not_false]
theorem flatT {t : Nat} {l : List Ty} (h : E.flat t = l) {ts : List T} (g : FTs E (E.flat t) ts) : FTs E l ts := h ▸ g
theorem open_int {t : T} (h : FT E (.int .i64) t) : ∃ n : Int, t = .i n ∧ inI n := by
  cases h with
  | int h =>
    rename_i n
    refine ⟨n, rfl, ?_⟩
    unfold inI
    simp [Lit.wf, IntKind.min, IntKind.max, IntKind.signed, IntKind.bits] at h
    omega
theorem open_Geo {ts : List T} (h : FTs E [.int .i64, .int .i64] ts) : ∃ x : Geo, ts = x.e ∧ x.Fit := by
  match ts, h with
  | [t0, t1], ⟨h0, h1, _⟩ =>
    obtain ⟨x0, rfl, g0⟩ := open_int h0
    obtain ⟨x1, rfl, g1⟩ := open_int h1
    exact ⟨⟨x0, x1⟩, rfl, ⟨g0, g1⟩⟩
def within (n lo hi : Int) : Bool := decide (lo ≤ n) && decide (n ≤ hi)
theorem within_t {n lo hi : Int} (h : within n lo hi = true) : lo ≤ n ∧ n ≤ hi := by
  unfold within at h; simpa using h
theorem within_i (n lo hi : Int) : Rn 1 N.impl_within [.v [.i n], .v [.i lo], .v [.i hi]] ⟨[.b (within n lo hi)], []⟩ := by
  refine Rn.of fun k hk => ?_
  rw [impl_within_e]; unfold impl_within_u within
  by_cases h : lo ≤ n <;> simp [h]
theorem within_s (n lo hi : Int) : Rn 1 N.spec_l1In [.v [.i n], .v [.i lo], .v [.i hi]] ⟨[.b (within n lo hi)], []⟩ := by
  refine Rn.of fun k hk => ?_
  rw [spec_l1In_e]; unfold spec_l1In_u within
  by_cases h : lo ≤ n <;> simp [h]
def isWord (n : Int) : Bool := within n 0 65535
def wordsOk (l : List Int) : Bool := l.all isWord
def secOk (l : List Int) : Bool := decide (l.length ≤ 12) && wordsOk l
theorem isWord_i (n : Int) : Rn 2 N.impl_isWord [.v [.i n]] ⟨[.b (isWord n)], []⟩ := by
  refine Rn.of fun k hk => ?_
  rw [impl_isWord_e]; unfold impl_isWord_u
  rw [within_i _ _ _ k (by omega)]; rfl
theorem all_loop {α : Type} (p : α → Bool) (l : List α) {b : (Int → Option Outs) → Int → Option Outs} (last : Option Outs) (hl : l.length ≤ 1099511627776)
    (h : ∀ (i : Nat) (hi : i < l.length) G, b G (i : Int) = (bif p l[i] then G (IntKind.wrap .i64 ((i : Int) + 1)) else some ⟨[.b false], []⟩))
    (he : ∀ G, b G (l.length : Int) = last) {j : Nat} (hj : l.length < j) : fixN b j 0 = (bif l.all p then last else some ⟨[.b false], []⟩) := by
  refine (fixN_up (b := b) l.length (fun i => (i : Int)) (fun i => bif (l.drop i).all p then last else some ⟨[.b false], []⟩) ?_ ?_ hj).trans (by simp)
  · intro i hi G hG
    rw [h i hi, wrap_up (by omega), hG, List.drop_eq_getElem_cons hi, List.all_cons]
    cases p l[i] <;> rfl
  · intro G; rw [he]; simp
theorem bifB (c x : Bool) : (bif c then some (⟨[.b x], []⟩ : Outs) else some ⟨[.b false], []⟩) = some ⟨[.b (c && x)], []⟩ := by cases c <;> rfl
theorem bifN {α : Type} (c : Bool) (x y : α) : (bif !c then x else y) = bif c then y else x := by cases c <;> rfl
theorem wordsOk_i (l : List Int) (h : l.length ≤ Big) : Rn 3 N.impl_wordsOk [.v [.r (eIs l)]] ⟨[.b (wordsOk l)], []⟩ := by
  refine Rn.of fun k hk => ?_
  unfold Big at h hk
  rw [impl_wordsOk_e]; unfold impl_wordsOk_u impl_wordsOk_U
  refine (all_loop isWord l (some ⟨[.b true], []⟩) (by omega) (fun i hi G => ?_) (fun G => ?_) (by omega)).trans ((bifB _ _).trans (by rw [Bool.and_true]; rfl))
  · unfold impl_wordsOk_l1 impl_wordsOk_L1
    simp only [List.length_map, at_map _ hi, dlt hi, d0, Bool.and_self, chk_true, cond_true, Int.toNat_natCast, List.getD_cons_zero, T.asI_i]
    rw [isWord_i _ k (by unfold Big; omega)]; exact bifN _ _ _
  · unfold impl_wordsOk_l1 impl_wordsOk_L1
    simp only [List.length_map, dll, cond_false]
def geoOk (g : Geo) : Bool := within g.N 3 5 && within g.S 1 8
theorem geoOk_t {g : Geo} (h : geoOk g = true) : 3 ≤ g.N ∧ g.N ≤ 5 ∧ 1 ≤ g.S ∧ g.S ≤ 8 := by
  unfold geoOk at h
  rw [Bool.and_eq_true] at h
  exact ⟨(within_t h.1).1, (within_t h.1).2, (within_t h.2).1, (within_t h.2).2⟩
theorem geoOk_i (g : Geo) : Rn 2 N.impl_GeoOk [.v g.e] ⟨[.b (geoOk g)], []⟩ := by
  refine Rn.of fun k hk => ?_
  rw [impl_GeoOk_e]; unfold impl_GeoOk_u
  rw [within_i _ _ _ k (by omega), within_i _ _ _ k (by omega)]
  exact bifB _ _
theorem geoOk_s (g : Geo) : Rn 2 N.spec_GeoOk [.v g.e] ⟨[.b (geoOk g)], []⟩ := by
  refine Rn.of fun k hk => ?_
  rw [spec_GeoOk_e]; unfold spec_GeoOk_u
  rw [within_s _ _ _ k (by omega), within_s _ _ _ k (by omega)]
  exact bifB _ _
theorem at_ints {l : List Int} {i : Nat} (h : i < l.length) : (at_ (eIs l) i 0).asI = l.getD i 0 := by
  rw [at_map _ h]; simp [List.getD_eq_getElem?_getD, h]
def allN (n : Nat) (p : Nat → Bool) : Bool := (List.range n).all p
theorem allN_iff {n : Nat} {p : Nat → Bool} : allN n p = true ↔ ∀ i, i < n → p i = true := by
  unfold allN; simp
theorem allN_loop (n : Nat) (p : Nat → Bool) {b : (Int → Option Outs) → Int → Option Outs} (last : Option Outs) (hl : n ≤ 1099511627776)
    (h : ∀ (i : Nat), i < n → ∀ G, b G (i : Int) = (bif p i then G (IntKind.wrap .i64 ((i : Int) + 1)) else some ⟨[.b false], []⟩))
    (he : ∀ G, b G (n : Int) = last) {j : Nat} (hj : n < j) : fixN b j 0 = (bif allN n p then last else some ⟨[.b false], []⟩) := by
  refine (fixN_up (b := b) n (fun i => (i : Int)) (fun i => bif (List.range' i (n - i)).all p then last else some ⟨[.b false], []⟩) ?_ ?_ hj).trans (by unfold allN; rw [List.range_eq_range', Nat.sub_zero])
  · intro i hi G hG
    rw [h i hi, wrap_up (by omega), hG, show n - i = (n - (i + 1)) + 1 by omega, List.range'_succ, List.all_cons]
    cases p i <;> rfl
  · intro G; rw [he]; simp
def prevB (f : Nat → Int) (i : Nat) : Bool := decide (i = 0) || decide (f (i - 1) < f i)
theorem prev_step {es : List (List T)} (f : Nat → Int) {n i : Nat} (hi : i < n) (hn : n ≤ 1099511627776) (e : ∀ j, j < n → (at_ es j 0).asI = f j) {x : Int} (hx : x = f i) (X Y : Option Outs) :
    (bif decide ((i : Int) > 0) then chk (decide (0 ≤ IntKind.wrap .i64 ((i : Int) - 1)) && decide (IntKind.wrap .i64 ((i : Int) - 1) < (n : Int))) (bif decide ((at_ es (IntKind.wrap .i64 ((i : Int) - 1)).toNat 0).asI ≥ x) then X else Y) else Y) = bif prevB f i then Y else X := by
  unfold prevB
  cases i with
  | zero => rfl
  | succ i =>
    rw [show ((i + 1 : Nat) : Int) - 1 = (i : Int) by omega, wrap_id (by omega) (by omega), decide_eq_true (by omega), cond_true, chk_ok (by simp; omega), Int.toNat_natCast, e i (by omega), hx]
    simp only [Nat.add_sub_cancel, Nat.succ_ne_zero, decide_false, Bool.false_or]
    by_cases h : f i < f (i + 1)
    · rw [decide_eq_false (by omega), decide_eq_true h]; rfl
    · rw [decide_eq_true (by omega), decide_eq_false h]; rfl
theorem secOk_i (l : List Int) (h : l.length ≤ Big) : Rn 4 N.impl_SecOk [.v [.r (eIs l)]] ⟨[.b (secOk l)], []⟩ := by
  refine Rn.of fun k hk => ?_
  rw [impl_SecOk_e]; unfold impl_SecOk_u secOk
  rw [wordsOk_i l h k (by omega), List.length_map, show decide ((l.length : Int) ≤ 12) = decide (l.length ≤ 12) from decide_eq_decide.2 (by omega)]
  exact bifB _ _
def hasSec (m : Dsk) (n : Int) : Bool := within n 0 ((m.Secs.length : Int) - 1)
def badAt (m : Dsk) (i : Nat) : Bool := hasSec m (m.Bad.getD i 0) && prevB (fun j => m.Bad.getD j 0) i
def memOk (m : Dsk) : Bool := m.Secs.all secOk && ((m.Cache.all fun x => hasSec m x.N && secOk x.S) && (allN m.Bad.length (badAt m) && (within (m.Secs.length : Int) 1 20 && decide (m.Cache.length ≤ 60))))
theorem hasSec_i (m : Dsk) (n : Int) (h : m.w ≤ Big) : Rn 2 N.impl_hasSec [.v m.e, .v [.i n]] ⟨[.b (hasSec m n)], []⟩ := by
  refine Rn.of fun k hk => ?_
  rw [impl_hasSec_e]; unfold impl_hasSec_u
  have := wL_len List.length m.Secs
  unfold Dsk.w Big at h
  rw [List.length_map, wrap_id (by omega) (by omega), within_i _ _ _ k (by omega)]; rfl
theorem memOk_i (m : Dsk) (h : m.w ≤ Big) : Rn 5 N.impl_MemOk [.v m.e] ⟨[.b (memOk m)], []⟩ := by
  refine Rn.of fun k hk => ?_
  rw [impl_MemOk_e]; unfold impl_MemOk_u impl_MemOk_U
  have hB := h
  have hs := wL_len List.length m.Secs
  have hc := wL_len Wr.w m.Cache
  unfold Dsk.w Big at h
  unfold Big at hk
  refine (all_loop secOk m.Secs (fixN (impl_MemOk_l2 k (eIss m.Secs) (eWrs m.Cache) m.Failed (eIs m.Bad)) k 0) (by omega) (fun i hi G => ?_) (fun G => ?_) (by omega)).trans ?_
  · unfold impl_MemOk_l1 impl_MemOk_L1
    simp only [List.length_map, at_map _ hi, dlt hi, d0, Bool.and_self, chk_true, cond_true, Int.toNat_natCast, List.getD_cons_zero, T.asI_i, T.asR_r]
    have := wL_get List.length hi
    rw [secOk_i _ (by unfold Big; omega) k (by unfold Big; omega)]; exact bifN _ _ _
  · unfold impl_MemOk_l1 impl_MemOk_L1
    simp only [List.length_map, dll, cond_false]
  have e2 := all_loop (fun x : Wr => hasSec m x.N && secOk x.S) m.Cache (b := impl_MemOk_l2 k (eIss m.Secs) (eWrs m.Cache) m.Failed (eIs m.Bad)) (fixN (impl_MemOk_l3 k (eIss m.Secs) (eWrs m.Cache) m.Failed (eIs m.Bad)) k 0) (by omega) (fun i hi G => ?_) (fun G => ?_) (j := k) (by omega)
  · have e3 := allN_loop m.Bad.length (badAt m) (b := impl_MemOk_l3 k (eIss m.Secs) (eWrs m.Cache) m.Failed (eIs m.Bad)) (some ⟨[.b (within (m.Secs.length : Int) 1 20 && decide (m.Cache.length ≤ 60))], []⟩) (by omega) (fun i hi G => ?_) (fun G => ?_) (j := k) (by omega)
    · rw [e2, e3, bifB, bifB, bifB]; rfl
    · unfold impl_MemOk_l3 impl_MemOk_L3
      simp only [List.length_map, at_map _ hi, dlt hi, d0, Bool.and_self, chk_true, cond_true, Int.toNat_natCast, List.getD_cons_zero, T.asI_i]
      rw [hasSec_i m _ hB k (by unfold Big; omega), bindO_some, prev_step (fun j => m.Bad.getD j 0) hi (by omega) (fun j hj => at_ints hj) (by simp [List.getD_eq_getElem?_getD, hi])]
      unfold badAt
      simp only [Outs.t_mk, List.getD_cons_zero, T.asB_b]
      rw [List.getD_eq_getElem?_getD, List.getElem?_eq_getElem hi, Option.getD_some]
      cases hasSec m m.Bad[i] <;> rfl
    · unfold impl_MemOk_l3 impl_MemOk_L3
      simp only [List.length_map, dll, cond_false]
      rw [within_i _ _ _ k (by unfold Big; omega), bindO_some, show decide ((m.Cache.length : Int) ≤ 60) = decide (m.Cache.length ≤ 60) from decide_eq_decide.2 (by omega)]
      exact bifB _ _
  · unfold impl_MemOk_l2 impl_MemOk_L2
    simp only [List.length_map, at_map _ hi, dlt hi, d0, Bool.and_self, chk_true, cond_true, Int.toNat_natCast, List.getD_cons_zero, List.getD_cons_succ, T.asI_i, T.asR_r]
    have : m.Cache[i].S.length ≤ wL Wr.w m.Cache := wL_get Wr.w hi
    rw [hasSec_i m _ hB k (by unfold Big; omega), secOk_i _ (by unfold Big; omega) k (by unfold Big; omega)]
    simp only [bindO_some, Outs.t_mk, List.getD_cons_zero, T.asB_b]
    cases hasSec m m.Cache[i].N <;> cases secOk m.Cache[i].S <;> rfl
  · unfold impl_MemOk_l2 impl_MemOk_L2
    simp only [List.length_map, dll, cond_false]
def lostOk (g : Geo) (lost built : Int) : Bool := within lost (-1) (g.N - 1) && (within built 0 g.S && ((built == 0) || (lost != -1)))
theorem lostOk_i (g : Geo) (hg : geoOk g = true) (lost built : Int) : Rn 2 N.impl_lostOk [.v g.e, .v [.i lost], .v [.i built]] ⟨[.b (lostOk g lost built)], []⟩ := by
  refine Rn.of fun k hk => ?_
  rw [impl_lostOk_e]; unfold impl_lostOk_u lostOk
  obtain ⟨_, _, _, _⟩ := geoOk_t hg
  rw [wrap_id (by omega) (by omega), within_i _ _ _ k (by omega), within_i _ _ _ k (by omega)]
  simp only [bindO_some, Outs.t_mk, List.getD_cons_zero, T.asB_b]
  cases within lost (-1) (g.N - 1) <;> cases within built 0 g.S <;> cases built == 0 <;> rfl
theorem copyInts_i (l : List Int) (h : l.length ≤ Big) : Rn 1 N.impl_copyInts [.v [.r (eIs l)]] ⟨[.r (eIs l)], []⟩ := by
  refine Rn.of fun k hk => ?_
  unfold Big at h
  rw [impl_copyInts_e]; unfold impl_copyInts_u
  rw [chk_ok (by simp; omega)]; rfl
def dataAt (s : Int) : Int := bif within s 0 1099511627776 then s + 6 else -1
theorem dataAt_i (s : Int) : Rn 2 N.impl_DataAt [.v [.i s]] ⟨[.i (dataAt s)], []⟩ := by
  refine Rn.of fun k hk => ?_
  rw [impl_DataAt_e]; unfold impl_DataAt_u dataAt
  rw [within_i _ _ _ k (by omega), bindO_some]
  simp only [Outs.t_mk, List.getD_cons_zero, T.asB_b]
  cases h : within s 0 1099511627776
  · rfl
  · have := within_t h
    simp only [Bool.not_true, cond_false, cond_true]
    rw [wrap_id (n := s + 2) (by omega) (by omega), wrap_id (by omega) (by omega), show s + 2 + 4 = s + 6 by omega]
theorem dataAt_s (s : Int) : Rn 2 N.spec_DataAt [.v [.i s]] ⟨[.i (dataAt s)], []⟩ := by
  refine Rn.of fun k hk => ?_
  rw [spec_DataAt_e]; unfold spec_DataAt_u dataAt
  rw [within_s _ _ _ k (by omega), bindO_some]
  simp only [Outs.t_mk, List.getD_cons_zero, T.asB_b]
  cases h : within s 0 1099511627776
  · rfl
  · have := within_t h
    simp only [Bool.not_true, cond_false, cond_true]
    rw [wrap_id (n := s + 2) (by omega) (by omega), wrap_id (by omega) (by omega), show s + 2 + 4 = s + 6 by omega]
def firstIx {α : Type} (p : α → Bool) : Nat → List α → Int
  | _, [] => -1
  | i, x :: l => bif p x then (i : Int) else firstIx p (i + 1) l
def X (n : Int) : BitVec 64 := BitVec.ofInt 64 n
def Ev (X : Nat → Option Outs) (d : Nat) (ok : Outs → Prop) : Prop := ∃ o, ok o ∧ ∀ k, Big + d ≤ k → X k = some o
structure Cur where
  b : List Int
  i : Int
  h : Int
abbrev Cur.e (c : Cur) : List T := [.r (eIs c.b), .i c.i, .i c.h]
@[simp] theorem Outs.vt_mk (l : List T) (c : List T) (j : Nat) : Outs.vt ⟨l, [c]⟩ 0 j = c.getD j (.i 0) := rfl
def CmdP (x : Cmd) : Prop := inI x.Op ∧ inI x.Id ∧ inI x.Lba ∧ inI x.N ∧ x.Vals.length ≤ 20 ∧ ∀ v ∈ x.Vals, inI v
theorem CmdP.w {x : Cmd} (h : CmdP x) : x.w ≤ Big := by have := h.2.2.2.2.1; unfold Cmd.w Big; omega
def markL {α : Type} (cnt : α → Nat) (mk : Int → α → α) : Int → List α → List α
  | _, [] => []
  | a, x :: l => mk a x :: markL cnt mk (a + (cnt x : Nat)) l
theorem markL_len {α : Type} (cnt : α → Nat) (mk : Int → α → α) : ∀ (a : Int) (l : List α), (markL cnt mk a l).length = l.length
  | _, [] => rfl
  | a, x :: l => by simp [markL, markL_len cnt mk _ l]
theorem markL_get {α : Type} (cnt : α → Nat) (mk : Int → α → α) : ∀ (a : Int) (l : List α) (i : Nat) (hi : i < l.length), (markL cnt mk a l)[i]'(by rw [markL_len]; exact hi) = mk (a + (((l.take i).map cnt).sum : Nat)) l[i]
  | a, x :: l, 0, _ => by simp [markL]
  | a, x :: l, i + 1, hi => by
    have := markL_get cnt mk (a + (cnt x : Nat)) l i (by simpa using hi)
    simp only [markL, List.getElem_cons_succ, List.take_succ_cons, List.map_cons, List.sum_cons]
    rw [this]; congr 1; omega
theorem sum_take_lt {α : Type} (cnt : α → Nat) (l : List α) {i : Nat} (hi : i < l.length) : ((l.take i).map cnt).sum + cnt l[i] ≤ (l.map cnt).sum := by
  rw [← sum_take cnt l hi]; exact sum_take_le cnt l (i + 1)
theorem put_mid (A B : List (List T)) (r : List T) (j : Nat) (ts : List T) : put_ (A ++ r :: B) A.length j ts = A ++ spliceT r j ts :: B := by
  unfold put_; simp [List.getD_eq_getElem?_getD, List.set_append_right]
theorem at_mid (A B : List (List T)) (r : List T) (j : Nat) : at_ (A ++ r :: B) A.length j = r.getD j (.i 0) := by
  unfold at_; simp [List.getD_eq_getElem?_getD]
theorem mid_lt (A B : List (List T)) (r : List T) : decide ((A.length : Int) < ((A ++ r :: B).length : Int)) = true := by simp; omega
theorem mark_loop {α : Type} (enc : α → List T) (cnt : α → Nat) (mk : Int → α → α) (l : List α) (a : Int) (h0 : 0 ≤ a) (ha : a + ((l.map cnt).sum : Nat) ≤ 4611686018427387904) (hl : l.length ≤ Big)
    {b : (Int × Int × List (List T) → Option Outs) → Int × Int × List (List T) → Option Outs}
    (h : ∀ (i : Nat) (hi : i < l.length) (A B : List (List T)) (c : Int), i = A.length → 0 ≤ c → c + (cnt l[i] : Nat) ≤ 4611686018427387904 → ∀ G, b G (c, (i : Int), A ++ enc l[i] :: B) = G (c + (cnt l[i] : Nat), IntKind.wrap .i64 ((i : Int) + 1), A ++ enc (mk c l[i]) :: B))
    (he : ∀ (c : Int) (w : List (List T)), w.length = l.length → ∀ G, b G (c, (l.length : Int), w) = some ⟨[.i c], [[.r w]]⟩) {j : Nat} (hj : Big < j) :
    fixN b j (a, 0, l.map enc) = some ⟨[.i (a + ((l.map cnt).sum : Nat))], [[.r ((markL cnt mk a l).map enc)]]⟩ := by
  have hB : Big = 4294967296 := rfl
  have hm := markL_len cnt mk a l
  have := fixN_up (b := b) l.length (fun i => (a + (((l.take i).map cnt).sum : Nat), (i : Int), ((markL cnt mk a l).take i).map enc ++ (l.drop i).map enc)) (fun _ => some ⟨[.i (a + ((l.map cnt).sum : Nat))], [[.r ((markL cnt mk a l).map enc)]]⟩) (fun i hi G hG => ?_) (fun G => ?_) (j := j) (by omega)
  · simpa using this
  · have hs := sum_take_lt cnt l hi
    rw [List.drop_eq_getElem_cons hi, List.map_cons]
    rw [h i hi _ _ _ (by simp; omega) (by omega) (by omega), wrap_up (by omega)]
    have e1 : a + (((l.take i).map cnt).sum : Nat) + (cnt l[i] : Nat) = a + (((l.take (i + 1)).map cnt).sum : Nat) := by rw [sum_take cnt l hi]; omega
    have e2 : ((markL cnt mk a l).take i).map enc ++ enc (mk (a + (((l.take i).map cnt).sum : Nat)) l[i]) :: (l.drop (i + 1)).map enc = ((markL cnt mk a l).take (i + 1)).map enc ++ (l.drop (i + 1)).map enc := by
      rw [List.take_succ_eq_append_getElem (by omega), markL_get cnt mk a l i hi]; simp
    rw [e1, e2]; exact hG
  · rw [he _ _ (by simp; omega)]
    simp [List.take_of_length_le (Nat.le_of_eq hm)]
theorem held_loop {α : Type} (cnt : α → Nat) (l : List α) (a : Int) (h0 : 0 ≤ a) (ha : a + ((l.map cnt).sum : Nat) ≤ 4611686018427387904) (hl : l.length ≤ Big)
    {b : (Int × Int → Option Outs) → Int × Int → Option Outs}
    (h : ∀ (i : Nat) (hi : i < l.length) (c : Int), c = a + (((l.take i).map cnt).sum : Nat) → 0 ≤ c → c + (cnt l[i] : Nat) ≤ 4611686018427387904 → ∀ G, b G (c, (i : Int)) = G (c + (cnt l[i] : Nat), IntKind.wrap .i64 ((i : Int) + 1)))
    (he : ∀ (c : Int) G, b G (c, (l.length : Int)) = some ⟨[.i c], []⟩) {j : Nat} (hj : Big < j) :
    fixN b j (a, 0) = some ⟨[.i (a + ((l.map cnt).sum : Nat))], []⟩ := by
  have hB : Big = 4294967296 := rfl
  have := fixN_up (b := b) l.length (fun i => (a + (((l.take i).map cnt).sum : Nat), (i : Int))) (fun _ => some ⟨[.i (a + ((l.map cnt).sum : Nat))], []⟩) (fun i hi G hG => ?_) (fun G => ?_) (j := j) (by omega)
  · simpa using this
  · have hs := sum_take_lt cnt l hi
    rw [h i hi _ rfl (by omega) (by omega), wrap_up (by omega)]
    have e1 : a + (((l.take i).map cnt).sum : Nat) + (cnt l[i] : Nat) = a + (((l.take (i + 1)).map cnt).sum : Nat) := by rw [sum_take cnt l hi]; omega
    rw [e1]; exact hG
  · rw [he, List.take_length]
def Int.cn (_ : Int) : Nat := 1
def Int.mk_ (c : Int) (_ : Int) : Int := c
theorem markIntS_r (l : List Int) (a : Int) (h0 : 0 ≤ a) (ha : a + ((l.map Int.cn).sum : Nat) ≤ 4611686018427387904) (hl : l.length ≤ Big) : Rn 2 N.laws_markIntS [.r (eIs l), .v [.i a]] ⟨[.i (a + ((l.map Int.cn).sum : Nat))], [[.r (eIs (markL Int.cn Int.mk_ a l))]]⟩ := by
  refine Rn.of fun k hk => ?_
  rw [laws_markIntS_e]; unfold laws_markIntS_u laws_markIntS_U
  have hB : Big = 4294967296 := rfl
  refine mark_loop (fun n => [T.i n]) Int.cn Int.mk_ l a h0 ha hl (fun i hi A B c hA h1 h2 G => ?_) (fun c w hw G => ?_) (by omega)
  · subst hA
    unfold laws_markIntS_l1 laws_markIntS_L1
    have e1 : IntKind.wrap .i64 (c + 1) = c + 1 := wrap_id (by omega) (by unfold Int.cn at h2; omega)
    simp only [mid_lt, put_mid, Int.toNat_natCast, spliceT, e1, d0, Bool.and_self, chk_true, cond_true]
    rfl
  · unfold laws_markIntS_l1 laws_markIntS_L1
    simp only [hw, dll, cond_false]
theorem heldIntS_r (l : List Int) (a : Int) (h0 : 0 ≤ a) (ha : a + ((l.map Int.cn).sum : Nat) ≤ 4611686018427387904) (hl : l.length ≤ Big) : Rn 2 N.laws_heldIntS [.v [.r (eIs (markL Int.cn Int.mk_ a l))], .v [.i a]] ⟨[.i (a + ((l.map Int.cn).sum : Nat))], []⟩ := by
  refine Rn.of fun k hk => ?_
  rw [laws_heldIntS_e]; unfold laws_heldIntS_u laws_heldIntS_U
  have hB : Big = 4294967296 := rfl
  have hm := markL_len Int.cn Int.mk_ a l
  refine held_loop Int.cn l a h0 ha hl (fun i hi c hc h1 h2 G => ?_) (fun c G => ?_) (by omega)
  · unfold laws_heldIntS_l1 laws_heldIntS_L1
    have e1 : IntKind.wrap .i64 (c + 1) = c + 1 := wrap_id (by omega) (by unfold Int.cn at h2; omega)
    have hi' : i < (markL Int.cn Int.mk_ a l).length := by omega
    simp only [List.length_map, at_map _ hi', markL_get Int.cn Int.mk_ a l i hi, ← hc, Int.mk_, dlt hi', Int.toNat_natCast, e1, d0, Bool.and_self, chk_true, cond_true, List.getD_cons_zero, T.asI_i, bne_self_eq_false, cond_false]
    rfl
  · unfold laws_heldIntS_l1 laws_heldIntS_L1
    simp only [List.length_map, hm, dll, cond_false]
theorem sum_cn (l : List Int) : (l.map Int.cn).sum = l.length := by
  induction l with
  | nil => rfl
  | cons x l ih => simp [Int.cn, ih]; omega
def Wr.cn (x : Wr) : Nat := 1 + (x.S.map Int.cn).sum
def Wr.mk_ (c : Int) (x : Wr) : Wr := { N := c, S := markL Int.cn Int.mk_ (c + 1) x.S }
theorem markWrS_r (l : List Wr) (a : Int) (h0 : 0 ≤ a) (ha : a + ((l.map Wr.cn).sum : Nat) ≤ 4611686018427387904) (hw : wL Wr.w l ≤ Big) : Rn 3 N.laws_markWrS [.r (eWrs l), .v [.i a]] ⟨[.i (a + ((l.map Wr.cn).sum : Nat))], [[.r (eWrs (markL Wr.cn Wr.mk_ a l))]]⟩ := by
  refine Rn.of fun k hk => ?_
  rw [laws_markWrS_e]; unfold laws_markWrS_u laws_markWrS_U
  have hB : Big = 4294967296 := rfl
  have hl := wL_len Wr.w l
  refine mark_loop Wr.e Wr.cn Wr.mk_ l a h0 ha (by omega) (fun i hi A B c hA h1 h2 G => ?_) (fun c w hw G => ?_) (by omega)
  · subst hA
    have hwi := wL_get Wr.w hi
    have hcn : Wr.cn l[A.length] = 1 + (l[A.length].S.map Int.cn).sum := rfl
    have hwx : Wr.w l[A.length] = l[A.length].S.length := rfl
    have sS := sum_cn l[A.length].S
    have e0 : IntKind.wrap .i64 (c + 1) = c + 1 := wrap_id (by omega) (by omega)
    unfold laws_markWrS_l1 laws_markWrS_L1
    simp only [mid_lt, put_mid, at_mid, Int.toNat_natCast, spliceT, List.length_cons, List.length_nil, List.drop_succ_cons, List.drop_zero, List.cons_append, List.nil_append, Nat.zero_add, Nat.reduceAdd, d0, Bool.and_self, chk_true, cond_true, List.getD_cons_zero, List.getD_cons_succ, T.asI_i, T.asR_r, Outs.t_mk, Outs.vt_mk, bindO_some, e0]
    rw [markIntS_r l[A.length].S (c + 1) (by omega) (by omega) (by omega) k (by omega)]
    simp only [mid_lt, put_mid, at_mid, Int.toNat_natCast, spliceT, List.length_cons, List.length_nil, List.drop_succ_cons, List.drop_zero, List.cons_append, List.nil_append, Nat.zero_add, Nat.reduceAdd, d0, Bool.and_self, chk_true, cond_true, List.getD_cons_zero, List.getD_cons_succ, T.asI_i, T.asR_r, Outs.t_mk, Outs.vt_mk, bindO_some, e0]
    rw [show c + ((Wr.cn l[A.length] : Nat) : Int) = c + 1 + ((l[A.length].S.map Int.cn).sum : Nat) by omega]
    rfl
  · unfold laws_markWrS_l1 laws_markWrS_L1
    simp only [hw, dll, cond_false]
theorem heldWrS_r (l : List Wr) (a : Int) (h0 : 0 ≤ a) (ha : a + ((l.map Wr.cn).sum : Nat) ≤ 4611686018427387904) (hw : wL Wr.w l ≤ Big) : Rn 3 N.laws_heldWrS [.v [.r (eWrs (markL Wr.cn Wr.mk_ a l))], .v [.i a]] ⟨[.i (a + ((l.map Wr.cn).sum : Nat))], []⟩ := by
  refine Rn.of fun k hk => ?_
  rw [laws_heldWrS_e]; unfold laws_heldWrS_u laws_heldWrS_U
  have hB : Big = 4294967296 := rfl
  have hl := wL_len Wr.w l
  have hm := markL_len Wr.cn Wr.mk_ a l
  refine held_loop Wr.cn l a h0 ha (by omega) (fun i hi c hc h1 h2 G => ?_) (fun c G => ?_) (by omega)
  · have hwi := wL_get Wr.w hi
    have hcn : Wr.cn l[i] = 1 + (l[i].S.map Int.cn).sum := rfl
    have hwx : Wr.w l[i] = l[i].S.length := rfl
    have sS := sum_cn l[i].S
    have e0 : IntKind.wrap .i64 (c + 1) = c + 1 := wrap_id (by omega) (by omega)
    have hi' : i < (markL Wr.cn Wr.mk_ a l).length := by omega
    unfold laws_heldWrS_l1 laws_heldWrS_L1
    simp only [List.length_map, at_map _ hi', markL_get Wr.cn Wr.mk_ a l i hi, ← hc, Wr.mk_, dlt hi', bne_self_eq_false, cond_false, d0, Bool.and_self, chk_true, cond_true, List.getD_cons_zero, List.getD_cons_succ, T.asI_i, T.asR_r, Outs.t_mk, Outs.vt_mk, bindO_some, Int.toNat_natCast, e0]
    rw [heldIntS_r l[i].S (c + 1) (by omega) (by omega) (by omega) k (by omega)]
    simp only [bne_self_eq_false, cond_false, d0, Bool.and_self, chk_true, cond_true, List.getD_cons_zero, List.getD_cons_succ, T.asI_i, T.asR_r, Outs.t_mk, Outs.vt_mk, bindO_some, Int.toNat_natCast, e0]
    rw [decide_eq_false (by omega)]; simp only [bne_self_eq_false, cond_false, d0, Bool.and_self, chk_true, cond_true, List.getD_cons_zero, List.getD_cons_succ, T.asI_i, T.asR_r, Outs.t_mk, Outs.vt_mk, bindO_some, Int.toNat_natCast, e0]
    rw [show c + ((Wr.cn l[i] : Nat) : Int) = c + 1 + ((l[i].S.map Int.cn).sum : Nat) by omega]
  · unfold laws_heldWrS_l1 laws_heldWrS_L1
    simp only [List.length_map, hm, dll, cond_false]
def Ent.cn (x : Ent) : Nat := 1 + (x.Data.map Int.cn).sum
def Ent.mk_ (c : Int) (x : Ent) : Ent := { Stripe := c, Data := markL Int.cn Int.mk_ (c + 1) x.Data }
theorem markEntS_r (l : List Ent) (a : Int) (h0 : 0 ≤ a) (ha : a + ((l.map Ent.cn).sum : Nat) ≤ 4611686018427387904) (hw : wL Ent.w l ≤ Big) : Rn 3 N.laws_markEntS [.r (eEnts l), .v [.i a]] ⟨[.i (a + ((l.map Ent.cn).sum : Nat))], [[.r (eEnts (markL Ent.cn Ent.mk_ a l))]]⟩ := by
  refine Rn.of fun k hk => ?_
  rw [laws_markEntS_e]; unfold laws_markEntS_u laws_markEntS_U
  have hB : Big = 4294967296 := rfl
  have hl := wL_len Ent.w l
  refine mark_loop Ent.e Ent.cn Ent.mk_ l a h0 ha (by omega) (fun i hi A B c hA h1 h2 G => ?_) (fun c w hw G => ?_) (by omega)
  · subst hA
    have hwi := wL_get Ent.w hi
    have hcn : Ent.cn l[A.length] = 1 + (l[A.length].Data.map Int.cn).sum := rfl
    have hwx : Ent.w l[A.length] = l[A.length].Data.length := rfl
    have sData := sum_cn l[A.length].Data
    have e0 : IntKind.wrap .i64 (c + 1) = c + 1 := wrap_id (by omega) (by omega)
    unfold laws_markEntS_l1 laws_markEntS_L1
    simp only [mid_lt, put_mid, at_mid, Int.toNat_natCast, spliceT, List.length_cons, List.length_nil, List.drop_succ_cons, List.drop_zero, List.cons_append, List.nil_append, Nat.zero_add, Nat.reduceAdd, d0, Bool.and_self, chk_true, cond_true, List.getD_cons_zero, List.getD_cons_succ, T.asI_i, T.asR_r, Outs.t_mk, Outs.vt_mk, bindO_some, e0]
    rw [markIntS_r l[A.length].Data (c + 1) (by omega) (by omega) (by omega) k (by omega)]
    simp only [mid_lt, put_mid, at_mid, Int.toNat_natCast, spliceT, List.length_cons, List.length_nil, List.drop_succ_cons, List.drop_zero, List.cons_append, List.nil_append, Nat.zero_add, Nat.reduceAdd, d0, Bool.and_self, chk_true, cond_true, List.getD_cons_zero, List.getD_cons_succ, T.asI_i, T.asR_r, Outs.t_mk, Outs.vt_mk, bindO_some, e0]
    rw [show c + ((Ent.cn l[A.length] : Nat) : Int) = c + 1 + ((l[A.length].Data.map Int.cn).sum : Nat) by omega]
    rfl
  · unfold laws_markEntS_l1 laws_markEntS_L1
    simp only [hw, dll, cond_false]
theorem heldEntS_r (l : List Ent) (a : Int) (h0 : 0 ≤ a) (ha : a + ((l.map Ent.cn).sum : Nat) ≤ 4611686018427387904) (hw : wL Ent.w l ≤ Big) : Rn 3 N.laws_heldEntS [.v [.r (eEnts (markL Ent.cn Ent.mk_ a l))], .v [.i a]] ⟨[.i (a + ((l.map Ent.cn).sum : Nat))], []⟩ := by
  refine Rn.of fun k hk => ?_
  rw [laws_heldEntS_e]; unfold laws_heldEntS_u laws_heldEntS_U
  have hB : Big = 4294967296 := rfl
  have hl := wL_len Ent.w l
  have hm := markL_len Ent.cn Ent.mk_ a l
  refine held_loop Ent.cn l a h0 ha (by omega) (fun i hi c hc h1 h2 G => ?_) (fun c G => ?_) (by omega)
  · have hwi := wL_get Ent.w hi
    have hcn : Ent.cn l[i] = 1 + (l[i].Data.map Int.cn).sum := rfl
    have hwx : Ent.w l[i] = l[i].Data.length := rfl
    have sData := sum_cn l[i].Data
    have e0 : IntKind.wrap .i64 (c + 1) = c + 1 := wrap_id (by omega) (by omega)
    have hi' : i < (markL Ent.cn Ent.mk_ a l).length := by omega
    unfold laws_heldEntS_l1 laws_heldEntS_L1
    simp only [List.length_map, at_map _ hi', markL_get Ent.cn Ent.mk_ a l i hi, ← hc, Ent.mk_, dlt hi', bne_self_eq_false, cond_false, d0, Bool.and_self, chk_true, cond_true, List.getD_cons_zero, List.getD_cons_succ, T.asI_i, T.asR_r, Outs.t_mk, Outs.vt_mk, bindO_some, Int.toNat_natCast, e0]
    rw [heldIntS_r l[i].Data (c + 1) (by omega) (by omega) (by omega) k (by omega)]
    simp only [bne_self_eq_false, cond_false, d0, Bool.and_self, chk_true, cond_true, List.getD_cons_zero, List.getD_cons_succ, T.asI_i, T.asR_r, Outs.t_mk, Outs.vt_mk, bindO_some, Int.toNat_natCast, e0]
    rw [decide_eq_false (by omega)]; simp only [bne_self_eq_false, cond_false, d0, Bool.and_self, chk_true, cond_true, List.getD_cons_zero, List.getD_cons_succ, T.asI_i, T.asR_r, Outs.t_mk, Outs.vt_mk, bindO_some, Int.toNat_natCast, e0]
    rw [show c + ((Ent.cn l[i] : Nat) : Int) = c + 1 + ((l[i].Data.map Int.cn).sum : Nat) by omega]
  · unfold laws_heldEntS_l1 laws_heldEntS_L1
    simp only [List.length_map, hm, dll, cond_false]
def Ans.cn (x : Ans) : Nat := 2 + (x.Vals.map Int.cn).sum
def Ans.mk_ (c : Int) (x : Ans) : Ans := { Id := c, Code := c + 1, Vals := markL Int.cn Int.mk_ (c + 1 + 1) x.Vals }
theorem markAnsS_r (l : List Ans) (a : Int) (h0 : 0 ≤ a) (ha : a + ((l.map Ans.cn).sum : Nat) ≤ 4611686018427387904) (hw : wL Ans.w l ≤ Big) : Rn 3 N.laws_markAnsS [.r (eAnss l), .v [.i a]] ⟨[.i (a + ((l.map Ans.cn).sum : Nat))], [[.r (eAnss (markL Ans.cn Ans.mk_ a l))]]⟩ := by
  refine Rn.of fun k hk => ?_
  rw [laws_markAnsS_e]; unfold laws_markAnsS_u laws_markAnsS_U
  have hB : Big = 4294967296 := rfl
  have hl := wL_len Ans.w l
  refine mark_loop Ans.e Ans.cn Ans.mk_ l a h0 ha (by omega) (fun i hi A B c hA h1 h2 G => ?_) (fun c w hw G => ?_) (by omega)
  · subst hA
    have hwi := wL_get Ans.w hi
    have hcn : Ans.cn l[A.length] = 2 + (l[A.length].Vals.map Int.cn).sum := rfl
    have hwx : Ans.w l[A.length] = l[A.length].Vals.length := rfl
    have sVals := sum_cn l[A.length].Vals
    have e0 : IntKind.wrap .i64 (c + 1) = c + 1 := wrap_id (by omega) (by omega)
    have e1 : IntKind.wrap .i64 (c + 1 + 1) = c + 1 + 1 := wrap_id (by omega) (by omega)
    unfold laws_markAnsS_l1 laws_markAnsS_L1
    simp only [mid_lt, put_mid, at_mid, Int.toNat_natCast, spliceT, List.length_cons, List.length_nil, List.drop_succ_cons, List.drop_zero, List.cons_append, List.nil_append, Nat.zero_add, Nat.reduceAdd, d0, Bool.and_self, chk_true, cond_true, List.getD_cons_zero, List.getD_cons_succ, T.asI_i, T.asR_r, Outs.t_mk, Outs.vt_mk, bindO_some, e0, e1]
    rw [markIntS_r l[A.length].Vals (c + 1 + 1) (by omega) (by omega) (by omega) k (by omega)]
    simp only [mid_lt, put_mid, at_mid, Int.toNat_natCast, spliceT, List.length_cons, List.length_nil, List.drop_succ_cons, List.drop_zero, List.cons_append, List.nil_append, Nat.zero_add, Nat.reduceAdd, d0, Bool.and_self, chk_true, cond_true, List.getD_cons_zero, List.getD_cons_succ, T.asI_i, T.asR_r, Outs.t_mk, Outs.vt_mk, bindO_some, e0, e1]
    rw [show c + ((Ans.cn l[A.length] : Nat) : Int) = c + 1 + 1 + ((l[A.length].Vals.map Int.cn).sum : Nat) by omega]
    rfl
  · unfold laws_markAnsS_l1 laws_markAnsS_L1
    simp only [hw, dll, cond_false]
theorem heldAnsS_r (l : List Ans) (a : Int) (h0 : 0 ≤ a) (ha : a + ((l.map Ans.cn).sum : Nat) ≤ 4611686018427387904) (hw : wL Ans.w l ≤ Big) : Rn 3 N.laws_heldAnsS [.v [.r (eAnss (markL Ans.cn Ans.mk_ a l))], .v [.i a]] ⟨[.i (a + ((l.map Ans.cn).sum : Nat))], []⟩ := by
  refine Rn.of fun k hk => ?_
  rw [laws_heldAnsS_e]; unfold laws_heldAnsS_u laws_heldAnsS_U
  have hB : Big = 4294967296 := rfl
  have hl := wL_len Ans.w l
  have hm := markL_len Ans.cn Ans.mk_ a l
  refine held_loop Ans.cn l a h0 ha (by omega) (fun i hi c hc h1 h2 G => ?_) (fun c G => ?_) (by omega)
  · have hwi := wL_get Ans.w hi
    have hcn : Ans.cn l[i] = 2 + (l[i].Vals.map Int.cn).sum := rfl
    have hwx : Ans.w l[i] = l[i].Vals.length := rfl
    have sVals := sum_cn l[i].Vals
    have e0 : IntKind.wrap .i64 (c + 1) = c + 1 := wrap_id (by omega) (by omega)
    have e1 : IntKind.wrap .i64 (c + 1 + 1) = c + 1 + 1 := wrap_id (by omega) (by omega)
    have hi' : i < (markL Ans.cn Ans.mk_ a l).length := by omega
    unfold laws_heldAnsS_l1 laws_heldAnsS_L1
    simp only [List.length_map, at_map _ hi', markL_get Ans.cn Ans.mk_ a l i hi, ← hc, Ans.mk_, dlt hi', bne_self_eq_false, cond_false, d0, Bool.and_self, chk_true, cond_true, List.getD_cons_zero, List.getD_cons_succ, T.asI_i, T.asR_r, Outs.t_mk, Outs.vt_mk, bindO_some, Int.toNat_natCast, e0, e1]
    rw [heldIntS_r l[i].Vals (c + 1 + 1) (by omega) (by omega) (by omega) k (by omega)]
    simp only [bne_self_eq_false, cond_false, d0, Bool.and_self, chk_true, cond_true, List.getD_cons_zero, List.getD_cons_succ, T.asI_i, T.asR_r, Outs.t_mk, Outs.vt_mk, bindO_some, Int.toNat_natCast, e0, e1]
    rw [decide_eq_false (by omega)]; simp only [bne_self_eq_false, cond_false, d0, Bool.and_self, chk_true, cond_true, List.getD_cons_zero, List.getD_cons_succ, T.asI_i, T.asR_r, Outs.t_mk, Outs.vt_mk, bindO_some, Int.toNat_natCast, e0, e1]
    rw [show c + ((Ans.cn l[i] : Nat) : Int) = c + 1 + 1 + ((l[i].Vals.map Int.cn).sum : Nat) by omega]
  · unfold laws_heldAnsS_l1 laws_heldAnsS_L1
    simp only [List.length_map, hm, dll, cond_false]
def Cmd.cn (x : Cmd) : Nat := 4 + (x.Vals.map Int.cn).sum
def Cmd.mk_ (c : Int) (x : Cmd) : Cmd := { Op := c, Id := c + 1, Lba := c + 1 + 1, N := c + 1 + 1 + 1, Vals := markL Int.cn Int.mk_ (c + 1 + 1 + 1 + 1) x.Vals }
theorem markCmdS_r (l : List Cmd) (a : Int) (h0 : 0 ≤ a) (ha : a + ((l.map Cmd.cn).sum : Nat) ≤ 4611686018427387904) (hw : wL Cmd.w l ≤ Big) : Rn 3 N.laws_markCmdS [.r (eCmds l), .v [.i a]] ⟨[.i (a + ((l.map Cmd.cn).sum : Nat))], [[.r (eCmds (markL Cmd.cn Cmd.mk_ a l))]]⟩ := by
  refine Rn.of fun k hk => ?_
  rw [laws_markCmdS_e]; unfold laws_markCmdS_u laws_markCmdS_U
  have hB : Big = 4294967296 := rfl
  have hl := wL_len Cmd.w l
  refine mark_loop Cmd.e Cmd.cn Cmd.mk_ l a h0 ha (by omega) (fun i hi A B c hA h1 h2 G => ?_) (fun c w hw G => ?_) (by omega)
  · subst hA
    have hwi := wL_get Cmd.w hi
    have hcn : Cmd.cn l[A.length] = 4 + (l[A.length].Vals.map Int.cn).sum := rfl
    have hwx : Cmd.w l[A.length] = l[A.length].Vals.length := rfl
    have sVals := sum_cn l[A.length].Vals
    have e0 : IntKind.wrap .i64 (c + 1) = c + 1 := wrap_id (by omega) (by omega)
    have e1 : IntKind.wrap .i64 (c + 1 + 1) = c + 1 + 1 := wrap_id (by omega) (by omega)
    have e2 : IntKind.wrap .i64 (c + 1 + 1 + 1) = c + 1 + 1 + 1 := wrap_id (by omega) (by omega)
    have e3 : IntKind.wrap .i64 (c + 1 + 1 + 1 + 1) = c + 1 + 1 + 1 + 1 := wrap_id (by omega) (by omega)
    unfold laws_markCmdS_l1 laws_markCmdS_L1
    simp only [mid_lt, put_mid, at_mid, Int.toNat_natCast, spliceT, List.length_cons, List.length_nil, List.drop_succ_cons, List.drop_zero, List.cons_append, List.nil_append, Nat.zero_add, Nat.reduceAdd, d0, Bool.and_self, chk_true, cond_true, List.getD_cons_zero, List.getD_cons_succ, T.asI_i, T.asR_r, Outs.t_mk, Outs.vt_mk, bindO_some, e0, e1, e2, e3]
    rw [markIntS_r l[A.length].Vals (c + 1 + 1 + 1 + 1) (by omega) (by omega) (by omega) k (by omega)]
    simp only [mid_lt, put_mid, at_mid, Int.toNat_natCast, spliceT, List.length_cons, List.length_nil, List.drop_succ_cons, List.drop_zero, List.cons_append, List.nil_append, Nat.zero_add, Nat.reduceAdd, d0, Bool.and_self, chk_true, cond_true, List.getD_cons_zero, List.getD_cons_succ, T.asI_i, T.asR_r, Outs.t_mk, Outs.vt_mk, bindO_some, e0, e1, e2, e3]
    rw [show c + ((Cmd.cn l[A.length] : Nat) : Int) = c + 1 + 1 + 1 + 1 + ((l[A.length].Vals.map Int.cn).sum : Nat) by omega]
    rfl
  · unfold laws_markCmdS_l1 laws_markCmdS_L1
    simp only [hw, dll, cond_false]
theorem heldCmdS_r (l : List Cmd) (a : Int) (h0 : 0 ≤ a) (ha : a + ((l.map Cmd.cn).sum : Nat) ≤ 4611686018427387904) (hw : wL Cmd.w l ≤ Big) : Rn 3 N.laws_heldCmdS [.v [.r (eCmds (markL Cmd.cn Cmd.mk_ a l))], .v [.i a]] ⟨[.i (a + ((l.map Cmd.cn).sum : Nat))], []⟩ := by
  refine Rn.of fun k hk => ?_
  rw [laws_heldCmdS_e]; unfold laws_heldCmdS_u laws_heldCmdS_U
  have hB : Big = 4294967296 := rfl
  have hl := wL_len Cmd.w l
  have hm := markL_len Cmd.cn Cmd.mk_ a l
  refine held_loop Cmd.cn l a h0 ha (by omega) (fun i hi c hc h1 h2 G => ?_) (fun c G => ?_) (by omega)
  · have hwi := wL_get Cmd.w hi
    have hcn : Cmd.cn l[i] = 4 + (l[i].Vals.map Int.cn).sum := rfl
    have hwx : Cmd.w l[i] = l[i].Vals.length := rfl
    have sVals := sum_cn l[i].Vals
    have e0 : IntKind.wrap .i64 (c + 1) = c + 1 := wrap_id (by omega) (by omega)
    have e1 : IntKind.wrap .i64 (c + 1 + 1) = c + 1 + 1 := wrap_id (by omega) (by omega)
    have e2 : IntKind.wrap .i64 (c + 1 + 1 + 1) = c + 1 + 1 + 1 := wrap_id (by omega) (by omega)
    have e3 : IntKind.wrap .i64 (c + 1 + 1 + 1 + 1) = c + 1 + 1 + 1 + 1 := wrap_id (by omega) (by omega)
    have hi' : i < (markL Cmd.cn Cmd.mk_ a l).length := by omega
    unfold laws_heldCmdS_l1 laws_heldCmdS_L1
    simp only [List.length_map, at_map _ hi', markL_get Cmd.cn Cmd.mk_ a l i hi, ← hc, Cmd.mk_, dlt hi', bne_self_eq_false, cond_false, d0, Bool.and_self, chk_true, cond_true, List.getD_cons_zero, List.getD_cons_succ, T.asI_i, T.asR_r, Outs.t_mk, Outs.vt_mk, bindO_some, Int.toNat_natCast, e0, e1, e2, e3]
    rw [heldIntS_r l[i].Vals (c + 1 + 1 + 1 + 1) (by omega) (by omega) (by omega) k (by omega)]
    simp only [bne_self_eq_false, cond_false, d0, Bool.and_self, chk_true, cond_true, List.getD_cons_zero, List.getD_cons_succ, T.asI_i, T.asR_r, Outs.t_mk, Outs.vt_mk, bindO_some, Int.toNat_natCast, e0, e1, e2, e3]
    rw [decide_eq_false (by omega)]; simp only [bne_self_eq_false, cond_false, d0, Bool.and_self, chk_true, cond_true, List.getD_cons_zero, List.getD_cons_succ, T.asI_i, T.asR_r, Outs.t_mk, Outs.vt_mk, bindO_some, Int.toNat_natCast, e0, e1, e2, e3]
    rw [show c + ((Cmd.cn l[i] : Nat) : Int) = c + 1 + 1 + 1 + 1 + ((l[i].Vals.map Int.cn).sum : Nat) by omega]
  · unfold laws_heldCmdS_l1 laws_heldCmdS_L1
    simp only [List.length_map, hm, dll, cond_false]
def Turn.cn (x : Turn) : Nat := 6 + (x.C.Vals.map Int.cn).sum + (x.A.Vals.map Int.cn).sum
def Turn.mk_ (c : Int) (x : Turn) : Turn := { C := { Op := c, Id := c + 1, Lba := c + 1 + 1, N := c + 1 + 1 + 1, Vals := markL Int.cn Int.mk_ (c + 1 + 1 + 1 + 1) x.C.Vals }, A := { Id := c + 1 + 1 + 1 + 1 + ((x.C.Vals.map Int.cn).sum : Nat), Code := c + 1 + 1 + 1 + 1 + ((x.C.Vals.map Int.cn).sum : Nat) + 1, Vals := markL Int.cn Int.mk_ (c + 1 + 1 + 1 + 1 + ((x.C.Vals.map Int.cn).sum : Nat) + 1 + 1) x.A.Vals } }
theorem markTurnS_r (l : List Turn) (a : Int) (h0 : 0 ≤ a) (ha : a + ((l.map Turn.cn).sum : Nat) ≤ 4611686018427387904) (hw : wL Turn.w l ≤ Big) : Rn 3 N.laws_markTurnS [.r (eTurns l), .v [.i a]] ⟨[.i (a + ((l.map Turn.cn).sum : Nat))], [[.r (eTurns (markL Turn.cn Turn.mk_ a l))]]⟩ := by
  refine Rn.of fun k hk => ?_
  rw [laws_markTurnS_e]; unfold laws_markTurnS_u laws_markTurnS_U
  have hB : Big = 4294967296 := rfl
  have hl := wL_len Turn.w l
  refine mark_loop Turn.e Turn.cn Turn.mk_ l a h0 ha (by omega) (fun i hi A B c hA h1 h2 G => ?_) (fun c w hw G => ?_) (by omega)
  · subst hA
    have hwi := wL_get Turn.w hi
    have hcn : Turn.cn l[A.length] = 6 + (l[A.length].C.Vals.map Int.cn).sum + (l[A.length].A.Vals.map Int.cn).sum := rfl
    have hwx : Turn.w l[A.length] = l[A.length].C.Vals.length + l[A.length].A.Vals.length := rfl
    have sCVals := sum_cn l[A.length].C.Vals
    have sAVals := sum_cn l[A.length].A.Vals
    have e0 : IntKind.wrap .i64 (c + 1) = c + 1 := wrap_id (by omega) (by omega)
    have e1 : IntKind.wrap .i64 (c + 1 + 1) = c + 1 + 1 := wrap_id (by omega) (by omega)
    have e2 : IntKind.wrap .i64 (c + 1 + 1 + 1) = c + 1 + 1 + 1 := wrap_id (by omega) (by omega)
    have e3 : IntKind.wrap .i64 (c + 1 + 1 + 1 + 1) = c + 1 + 1 + 1 + 1 := wrap_id (by omega) (by omega)
    have e4 : IntKind.wrap .i64 (c + 1 + 1 + 1 + 1 + ((l[A.length].C.Vals.map Int.cn).sum : Nat) + 1) = c + 1 + 1 + 1 + 1 + ((l[A.length].C.Vals.map Int.cn).sum : Nat) + 1 := wrap_id (by omega) (by omega)
    have e5 : IntKind.wrap .i64 (c + 1 + 1 + 1 + 1 + ((l[A.length].C.Vals.map Int.cn).sum : Nat) + 1 + 1) = c + 1 + 1 + 1 + 1 + ((l[A.length].C.Vals.map Int.cn).sum : Nat) + 1 + 1 := wrap_id (by omega) (by omega)
    unfold laws_markTurnS_l1 laws_markTurnS_L1
    simp only [mid_lt, put_mid, at_mid, Int.toNat_natCast, spliceT, List.length_cons, List.length_nil, List.drop_succ_cons, List.drop_zero, List.cons_append, List.nil_append, Nat.zero_add, Nat.reduceAdd, d0, Bool.and_self, chk_true, cond_true, List.getD_cons_zero, List.getD_cons_succ, T.asI_i, T.asR_r, Outs.t_mk, Outs.vt_mk, bindO_some, e0, e1, e2, e3, e4, e5]
    rw [markIntS_r l[A.length].C.Vals (c + 1 + 1 + 1 + 1) (by omega) (by omega) (by omega) k (by omega)]
    simp only [mid_lt, put_mid, at_mid, Int.toNat_natCast, spliceT, List.length_cons, List.length_nil, List.drop_succ_cons, List.drop_zero, List.cons_append, List.nil_append, Nat.zero_add, Nat.reduceAdd, d0, Bool.and_self, chk_true, cond_true, List.getD_cons_zero, List.getD_cons_succ, T.asI_i, T.asR_r, Outs.t_mk, Outs.vt_mk, bindO_some, e0, e1, e2, e3, e4, e5]
    rw [markIntS_r l[A.length].A.Vals (c + 1 + 1 + 1 + 1 + ((l[A.length].C.Vals.map Int.cn).sum : Nat) + 1 + 1) (by omega) (by omega) (by omega) k (by omega)]
    simp only [mid_lt, put_mid, at_mid, Int.toNat_natCast, spliceT, List.length_cons, List.length_nil, List.drop_succ_cons, List.drop_zero, List.cons_append, List.nil_append, Nat.zero_add, Nat.reduceAdd, d0, Bool.and_self, chk_true, cond_true, List.getD_cons_zero, List.getD_cons_succ, T.asI_i, T.asR_r, Outs.t_mk, Outs.vt_mk, bindO_some, e0, e1, e2, e3, e4, e5]
    rw [show c + ((Turn.cn l[A.length] : Nat) : Int) = c + 1 + 1 + 1 + 1 + ((l[A.length].C.Vals.map Int.cn).sum : Nat) + 1 + 1 + ((l[A.length].A.Vals.map Int.cn).sum : Nat) by omega]
    rfl
  · unfold laws_markTurnS_l1 laws_markTurnS_L1
    simp only [hw, dll, cond_false]
theorem heldTurnS_r (l : List Turn) (a : Int) (h0 : 0 ≤ a) (ha : a + ((l.map Turn.cn).sum : Nat) ≤ 4611686018427387904) (hw : wL Turn.w l ≤ Big) : Rn 3 N.laws_heldTurnS [.v [.r (eTurns (markL Turn.cn Turn.mk_ a l))], .v [.i a]] ⟨[.i (a + ((l.map Turn.cn).sum : Nat))], []⟩ := by
  refine Rn.of fun k hk => ?_
  rw [laws_heldTurnS_e]; unfold laws_heldTurnS_u laws_heldTurnS_U
  have hB : Big = 4294967296 := rfl
  have hl := wL_len Turn.w l
  have hm := markL_len Turn.cn Turn.mk_ a l
  refine held_loop Turn.cn l a h0 ha (by omega) (fun i hi c hc h1 h2 G => ?_) (fun c G => ?_) (by omega)
  · have hwi := wL_get Turn.w hi
    have hcn : Turn.cn l[i] = 6 + (l[i].C.Vals.map Int.cn).sum + (l[i].A.Vals.map Int.cn).sum := rfl
    have hwx : Turn.w l[i] = l[i].C.Vals.length + l[i].A.Vals.length := rfl
    have sCVals := sum_cn l[i].C.Vals
    have sAVals := sum_cn l[i].A.Vals
    have e0 : IntKind.wrap .i64 (c + 1) = c + 1 := wrap_id (by omega) (by omega)
    have e1 : IntKind.wrap .i64 (c + 1 + 1) = c + 1 + 1 := wrap_id (by omega) (by omega)
    have e2 : IntKind.wrap .i64 (c + 1 + 1 + 1) = c + 1 + 1 + 1 := wrap_id (by omega) (by omega)
    have e3 : IntKind.wrap .i64 (c + 1 + 1 + 1 + 1) = c + 1 + 1 + 1 + 1 := wrap_id (by omega) (by omega)
    have e4 : IntKind.wrap .i64 (c + 1 + 1 + 1 + 1 + ((l[i].C.Vals.map Int.cn).sum : Nat) + 1) = c + 1 + 1 + 1 + 1 + ((l[i].C.Vals.map Int.cn).sum : Nat) + 1 := wrap_id (by omega) (by omega)
    have e5 : IntKind.wrap .i64 (c + 1 + 1 + 1 + 1 + ((l[i].C.Vals.map Int.cn).sum : Nat) + 1 + 1) = c + 1 + 1 + 1 + 1 + ((l[i].C.Vals.map Int.cn).sum : Nat) + 1 + 1 := wrap_id (by omega) (by omega)
    have hi' : i < (markL Turn.cn Turn.mk_ a l).length := by omega
    unfold laws_heldTurnS_l1 laws_heldTurnS_L1
    simp only [List.length_map, at_map _ hi', markL_get Turn.cn Turn.mk_ a l i hi, ← hc, Turn.mk_, dlt hi', bne_self_eq_false, cond_false, d0, Bool.and_self, chk_true, cond_true, List.getD_cons_zero, List.getD_cons_succ, T.asI_i, T.asR_r, Outs.t_mk, Outs.vt_mk, bindO_some, Int.toNat_natCast, e0, e1, e2, e3, e4, e5]
    rw [heldIntS_r l[i].C.Vals (c + 1 + 1 + 1 + 1) (by omega) (by omega) (by omega) k (by omega)]
    simp only [bne_self_eq_false, cond_false, d0, Bool.and_self, chk_true, cond_true, List.getD_cons_zero, List.getD_cons_succ, T.asI_i, T.asR_r, Outs.t_mk, Outs.vt_mk, bindO_some, Int.toNat_natCast, e0, e1, e2, e3, e4, e5]
    rw [decide_eq_false (by omega)]; simp only [bne_self_eq_false, cond_false, d0, Bool.and_self, chk_true, cond_true, List.getD_cons_zero, List.getD_cons_succ, T.asI_i, T.asR_r, Outs.t_mk, Outs.vt_mk, bindO_some, Int.toNat_natCast, e0, e1, e2, e3, e4, e5]
    rw [heldIntS_r l[i].A.Vals (c + 1 + 1 + 1 + 1 + ((l[i].C.Vals.map Int.cn).sum : Nat) + 1 + 1) (by omega) (by omega) (by omega) k (by omega)]
    simp only [bne_self_eq_false, cond_false, d0, Bool.and_self, chk_true, cond_true, List.getD_cons_zero, List.getD_cons_succ, T.asI_i, T.asR_r, Outs.t_mk, Outs.vt_mk, bindO_some, Int.toNat_natCast, e0, e1, e2, e3, e4, e5]
    rw [decide_eq_false (by omega)]; simp only [bne_self_eq_false, cond_false, d0, Bool.and_self, chk_true, cond_true, List.getD_cons_zero, List.getD_cons_succ, T.asI_i, T.asR_r, Outs.t_mk, Outs.vt_mk, bindO_some, Int.toNat_natCast, e0, e1, e2, e3, e4, e5]
    rw [show c + ((Turn.cn l[i] : Nat) : Int) = c + 1 + 1 + 1 + 1 + ((l[i].C.Vals.map Int.cn).sum : Nat) + 1 + 1 + ((l[i].A.Vals.map Int.cn).sum : Nat) by omega]
  · unfold laws_heldTurnS_l1 laws_heldTurnS_L1
    simp only [List.length_map, hm, dll, cond_false]
def Job.cn (x : Job) : Nat := 6 + (x.C.Vals.map Int.cn).sum + (x.Got.map Int.cn).sum
def Job.mk_ (c : Int) (x : Job) : Job := { C := { Op := c, Id := c + 1, Lba := c + 1 + 1, N := c + 1 + 1 + 1, Vals := markL Int.cn Int.mk_ (c + 1 + 1 + 1 + 1) x.C.Vals }, At := c + 1 + 1 + 1 + 1 + ((x.C.Vals.map Int.cn).sum : Nat), Got := markL Int.cn Int.mk_ (c + 1 + 1 + 1 + 1 + ((x.C.Vals.map Int.cn).sum : Nat) + 1) x.Got, Code := c + 1 + 1 + 1 + 1 + ((x.C.Vals.map Int.cn).sum : Nat) + 1 + ((x.Got.map Int.cn).sum : Nat) }
theorem markJobS_r (l : List Job) (a : Int) (h0 : 0 ≤ a) (ha : a + ((l.map Job.cn).sum : Nat) ≤ 4611686018427387904) (hw : wL Job.w l ≤ Big) : Rn 3 N.laws_markJobS [.r (eJobs l), .v [.i a]] ⟨[.i (a + ((l.map Job.cn).sum : Nat))], [[.r (eJobs (markL Job.cn Job.mk_ a l))]]⟩ := by
  refine Rn.of fun k hk => ?_
  rw [laws_markJobS_e]; unfold laws_markJobS_u laws_markJobS_U
  have hB : Big = 4294967296 := rfl
  have hl := wL_len Job.w l
  refine mark_loop Job.e Job.cn Job.mk_ l a h0 ha (by omega) (fun i hi A B c hA h1 h2 G => ?_) (fun c w hw G => ?_) (by omega)
  · subst hA
    have hwi := wL_get Job.w hi
    have hcn : Job.cn l[A.length] = 6 + (l[A.length].C.Vals.map Int.cn).sum + (l[A.length].Got.map Int.cn).sum := rfl
    have hwx : Job.w l[A.length] = l[A.length].C.Vals.length + l[A.length].Got.length := rfl
    have sCVals := sum_cn l[A.length].C.Vals
    have sGot := sum_cn l[A.length].Got
    have e0 : IntKind.wrap .i64 (c + 1) = c + 1 := wrap_id (by omega) (by omega)
    have e1 : IntKind.wrap .i64 (c + 1 + 1) = c + 1 + 1 := wrap_id (by omega) (by omega)
    have e2 : IntKind.wrap .i64 (c + 1 + 1 + 1) = c + 1 + 1 + 1 := wrap_id (by omega) (by omega)
    have e3 : IntKind.wrap .i64 (c + 1 + 1 + 1 + 1) = c + 1 + 1 + 1 + 1 := wrap_id (by omega) (by omega)
    have e4 : IntKind.wrap .i64 (c + 1 + 1 + 1 + 1 + ((l[A.length].C.Vals.map Int.cn).sum : Nat) + 1) = c + 1 + 1 + 1 + 1 + ((l[A.length].C.Vals.map Int.cn).sum : Nat) + 1 := wrap_id (by omega) (by omega)
    have e5 : IntKind.wrap .i64 (c + 1 + 1 + 1 + 1 + ((l[A.length].C.Vals.map Int.cn).sum : Nat) + 1 + ((l[A.length].Got.map Int.cn).sum : Nat) + 1) = c + 1 + 1 + 1 + 1 + ((l[A.length].C.Vals.map Int.cn).sum : Nat) + 1 + ((l[A.length].Got.map Int.cn).sum : Nat) + 1 := wrap_id (by omega) (by omega)
    unfold laws_markJobS_l1 laws_markJobS_L1
    simp only [mid_lt, put_mid, at_mid, Int.toNat_natCast, spliceT, List.length_cons, List.length_nil, List.drop_succ_cons, List.drop_zero, List.cons_append, List.nil_append, Nat.zero_add, Nat.reduceAdd, d0, Bool.and_self, chk_true, cond_true, List.getD_cons_zero, List.getD_cons_succ, T.asI_i, T.asR_r, Outs.t_mk, Outs.vt_mk, bindO_some, e0, e1, e2, e3, e4, e5]
    rw [markIntS_r l[A.length].C.Vals (c + 1 + 1 + 1 + 1) (by omega) (by omega) (by omega) k (by omega)]
    simp only [mid_lt, put_mid, at_mid, Int.toNat_natCast, spliceT, List.length_cons, List.length_nil, List.drop_succ_cons, List.drop_zero, List.cons_append, List.nil_append, Nat.zero_add, Nat.reduceAdd, d0, Bool.and_self, chk_true, cond_true, List.getD_cons_zero, List.getD_cons_succ, T.asI_i, T.asR_r, Outs.t_mk, Outs.vt_mk, bindO_some, e0, e1, e2, e3, e4, e5]
    rw [markIntS_r l[A.length].Got (c + 1 + 1 + 1 + 1 + ((l[A.length].C.Vals.map Int.cn).sum : Nat) + 1) (by omega) (by omega) (by omega) k (by omega)]
    simp only [mid_lt, put_mid, at_mid, Int.toNat_natCast, spliceT, List.length_cons, List.length_nil, List.drop_succ_cons, List.drop_zero, List.cons_append, List.nil_append, Nat.zero_add, Nat.reduceAdd, d0, Bool.and_self, chk_true, cond_true, List.getD_cons_zero, List.getD_cons_succ, T.asI_i, T.asR_r, Outs.t_mk, Outs.vt_mk, bindO_some, e0, e1, e2, e3, e4, e5]
    rw [show c + ((Job.cn l[A.length] : Nat) : Int) = c + 1 + 1 + 1 + 1 + ((l[A.length].C.Vals.map Int.cn).sum : Nat) + 1 + ((l[A.length].Got.map Int.cn).sum : Nat) + 1 by omega]
    rfl
  · unfold laws_markJobS_l1 laws_markJobS_L1
    simp only [hw, dll, cond_false]
theorem heldJobS_r (l : List Job) (a : Int) (h0 : 0 ≤ a) (ha : a + ((l.map Job.cn).sum : Nat) ≤ 4611686018427387904) (hw : wL Job.w l ≤ Big) : Rn 3 N.laws_heldJobS [.v [.r (eJobs (markL Job.cn Job.mk_ a l))], .v [.i a]] ⟨[.i (a + ((l.map Job.cn).sum : Nat))], []⟩ := by
  refine Rn.of fun k hk => ?_
  rw [laws_heldJobS_e]; unfold laws_heldJobS_u laws_heldJobS_U
  have hB : Big = 4294967296 := rfl
  have hl := wL_len Job.w l
  have hm := markL_len Job.cn Job.mk_ a l
  refine held_loop Job.cn l a h0 ha (by omega) (fun i hi c hc h1 h2 G => ?_) (fun c G => ?_) (by omega)
  · have hwi := wL_get Job.w hi
    have hcn : Job.cn l[i] = 6 + (l[i].C.Vals.map Int.cn).sum + (l[i].Got.map Int.cn).sum := rfl
    have hwx : Job.w l[i] = l[i].C.Vals.length + l[i].Got.length := rfl
    have sCVals := sum_cn l[i].C.Vals
    have sGot := sum_cn l[i].Got
    have e0 : IntKind.wrap .i64 (c + 1) = c + 1 := wrap_id (by omega) (by omega)
    have e1 : IntKind.wrap .i64 (c + 1 + 1) = c + 1 + 1 := wrap_id (by omega) (by omega)
    have e2 : IntKind.wrap .i64 (c + 1 + 1 + 1) = c + 1 + 1 + 1 := wrap_id (by omega) (by omega)
    have e3 : IntKind.wrap .i64 (c + 1 + 1 + 1 + 1) = c + 1 + 1 + 1 + 1 := wrap_id (by omega) (by omega)
    have e4 : IntKind.wrap .i64 (c + 1 + 1 + 1 + 1 + ((l[i].C.Vals.map Int.cn).sum : Nat) + 1) = c + 1 + 1 + 1 + 1 + ((l[i].C.Vals.map Int.cn).sum : Nat) + 1 := wrap_id (by omega) (by omega)
    have e5 : IntKind.wrap .i64 (c + 1 + 1 + 1 + 1 + ((l[i].C.Vals.map Int.cn).sum : Nat) + 1 + ((l[i].Got.map Int.cn).sum : Nat) + 1) = c + 1 + 1 + 1 + 1 + ((l[i].C.Vals.map Int.cn).sum : Nat) + 1 + ((l[i].Got.map Int.cn).sum : Nat) + 1 := wrap_id (by omega) (by omega)
    have hi' : i < (markL Job.cn Job.mk_ a l).length := by omega
    unfold laws_heldJobS_l1 laws_heldJobS_L1
    simp only [List.length_map, at_map _ hi', markL_get Job.cn Job.mk_ a l i hi, ← hc, Job.mk_, dlt hi', bne_self_eq_false, cond_false, d0, Bool.and_self, chk_true, cond_true, List.getD_cons_zero, List.getD_cons_succ, T.asI_i, T.asR_r, Outs.t_mk, Outs.vt_mk, bindO_some, Int.toNat_natCast, e0, e1, e2, e3, e4, e5]
    rw [heldIntS_r l[i].C.Vals (c + 1 + 1 + 1 + 1) (by omega) (by omega) (by omega) k (by omega)]
    simp only [bne_self_eq_false, cond_false, d0, Bool.and_self, chk_true, cond_true, List.getD_cons_zero, List.getD_cons_succ, T.asI_i, T.asR_r, Outs.t_mk, Outs.vt_mk, bindO_some, Int.toNat_natCast, e0, e1, e2, e3, e4, e5]
    rw [decide_eq_false (by omega)]; simp only [bne_self_eq_false, cond_false, d0, Bool.and_self, chk_true, cond_true, List.getD_cons_zero, List.getD_cons_succ, T.asI_i, T.asR_r, Outs.t_mk, Outs.vt_mk, bindO_some, Int.toNat_natCast, e0, e1, e2, e3, e4, e5]
    rw [heldIntS_r l[i].Got (c + 1 + 1 + 1 + 1 + ((l[i].C.Vals.map Int.cn).sum : Nat) + 1) (by omega) (by omega) (by omega) k (by omega)]
    simp only [bne_self_eq_false, cond_false, d0, Bool.and_self, chk_true, cond_true, List.getD_cons_zero, List.getD_cons_succ, T.asI_i, T.asR_r, Outs.t_mk, Outs.vt_mk, bindO_some, Int.toNat_natCast, e0, e1, e2, e3, e4, e5]
    rw [decide_eq_false (by omega)]; simp only [bne_self_eq_false, cond_false, d0, Bool.and_self, chk_true, cond_true, List.getD_cons_zero, List.getD_cons_succ, T.asI_i, T.asR_r, Outs.t_mk, Outs.vt_mk, bindO_some, Int.toNat_natCast, e0, e1, e2, e3, e4, e5]
    rw [show c + ((Job.cn l[i] : Nat) : Int) = c + 1 + 1 + 1 + 1 + ((l[i].C.Vals.map Int.cn).sum : Nat) + 1 + ((l[i].Got.map Int.cn).sum : Nat) + 1 by omega]
  · unfold laws_heldJobS_l1 laws_heldJobS_L1
    simp only [List.length_map, hm, dll, cond_false]
theorem Turn.cn_w (x : Turn) : Turn.cn x = 6 + Turn.w x := by
  have h1 := sum_cn x.C.Vals
  have h2 := sum_cn x.A.Vals
  have h3 : Turn.cn x = 6 + (x.C.Vals.map Int.cn).sum + (x.A.Vals.map Int.cn).sum := rfl
  have h4 : Turn.w x = x.C.Vals.length + x.A.Vals.length := rfl
  omega
theorem Ans.cn_w (x : Ans) : Ans.cn x = 2 + Ans.w x := by
  have h1 := sum_cn x.Vals
  have h3 : Ans.cn x = 2 + (x.Vals.map Int.cn).sum := rfl
  have h4 : Ans.w x = x.Vals.length := rfl
  omega
theorem Cmd.cn_w (x : Cmd) : Cmd.cn x = 4 + Cmd.w x := by
  have h1 := sum_cn x.Vals
  have h3 : Cmd.cn x = 4 + (x.Vals.map Int.cn).sum := rfl
  have h4 : Cmd.w x = x.Vals.length := rfl
  omega
def AnsQ (m : Nat) (a : Ans) : Prop := inI a.Id ∧ inI a.Code ∧ a.Vals.length ≤ m ∧ ∀ v ∈ a.Vals, inI v
def TurnQ (m : Nat) (t : Turn) : Prop := CmdP t.C ∧ AnsQ m t.A
abbrev TurnP (t : Turn) : Prop := TurnQ 33 t
theorem TurnQ.w {t : Turn} (h : TurnP t) : t.w ≤ 53 := by
  have h1 := h.1.2.2.2.2.1
  have h2 := h.2.2.2.1
  have h3 : t.w = t.C.Vals.length + t.A.Vals.length := rfl
  omega
theorem wL_le {α : Type} (w : α → Nat) (m : Nat) : ∀ (l : List α), (∀ x ∈ l, w x ≤ m) → wL w l ≤ l.length * (m + 1)
  | [], _ => Nat.zero_le _
  | x :: l, h => by
    rw [wL_cons]
    have h1 := h x List.mem_cons_self
    have h2 := wL_le w m l (fun y hy => h y (List.mem_cons_of_mem _ hy))
    rw [List.length_cons, Nat.add_mul]; omega
def LogQ (m : Nat) (l : List Turn) : Prop := l.length ≤ 8 ∧ ∀ t ∈ l, TurnQ m t
abbrev LogP (l : List Turn) : Prop := LogQ 33 l
theorem LogQ.w {l : List Turn} (h : LogP l) : wL Turn.w l ≤ 432 := by
  have := wL_le Turn.w 53 l (fun t ht => (h.2 t ht).w)
  have h1 := Nat.mul_le_mul_right 54 h.1
  omega
theorem LogQ.set {l : List Turn} (h : LogP l) {i : Nat} {t : Turn} (ht : TurnP t) : LogP (l.set i t) := by
  refine ⟨by rw [List.length_set]; exact h.1, fun x hx => ?_⟩
  rcases List.mem_or_eq_of_mem_set hx with hx | rfl
  · exact h.2 x hx
  · exact ht
theorem bndO {R : Type} {e : Option Outs} {o : Outs} {F : Outs → Option R} {r : Option R} (t : e = some o) (h : F o = r) : bindO e F = r := by subst t; exact h
theorem bif_t {R : Type} {c : Bool} {x y r : R} (t : c = true) (h : x = r) : (bif c then x else y) = r := by subst t; exact h
theorem bif_f {R : Type} {c : Bool} {x y r : R} (t : c = false) (h : y = r) : (bif c then x else y) = r := by subst t; exact h
theorem copy_loop {α : Type} (enc : α → List T) (l : List α) (r : Option Outs) {b : (Int × List (List T) → Option Outs) → Int × List (List T) → Option Outs} (hl : l.length ≤ Big)
    (h : ∀ (i : Nat) (hi : i < l.length) (w : List (List T)), w.length = i → ∀ G, b G ((i : Int), w) = G (IntKind.wrap .i64 ((i : Int) + 1), w ++ [enc l[i]]))
    (he : ∀ G, b G ((l.length : Int), l.map enc) = r) {j : Nat} (hj : Big < j) : fixN b j (0, []) = r := by
  have hB : Big = 4294967296 := rfl
  refine fixN_up (b := b) l.length (fun i => ((i : Int), (l.take i).map enc)) (fun _ => r) (fun i hi G hG => ?_) (fun G => ?_) (by omega)
  · rw [h i hi _ (by simp <;> omega), wrap_up (by omega)]
    rw [List.take_succ_eq_append_getElem hi, List.map_append] at hG
    exact hG
  · rw [List.take_length]; exact he G
theorem secC {m : Dsk} (h : m.w ≤ Big) {i : Nat} (hi : i < m.Secs.length) : m.Secs[i].length ≤ Big := by
  have := wL_get List.length hi
  have e : m.w = wL List.length m.Secs + wL Wr.w m.Cache + m.Bad.length := rfl
  omega
theorem cacheC {m : Dsk} (h : m.w ≤ Big) {i : Nat} (hi : i < m.Cache.length) : m.Cache[i].S.length ≤ Big := by
  have := wL_get Wr.w hi
  have e : m.w = wL List.length m.Secs + wL Wr.w m.Cache + m.Bad.length := rfl
  have e2 : Wr.w m.Cache[i] = m.Cache[i].S.length := rfl
  omega
theorem copyMem_i (m : Dsk) (h : m.w ≤ Big) : Rn 2 N.impl_copyMem [.v m.e] ⟨m.e, []⟩ := by
  refine Rn.of fun k hk => ?_
  have hB : Big = 4294967296 := rfl
  rw [impl_copyMem_e]; unfold impl_copyMem_u impl_copyMem_U
  have e0 : m.w = wL List.length m.Secs + wL Wr.w m.Cache + m.Bad.length := rfl
  have e1 := wL_len List.length m.Secs
  have e2 := wL_len Wr.w m.Cache
  rw [copyInts_i m.Bad (by omega) k (by omega), bindO_some]
  refine copy_loop (fun s => [T.r (eIs s)]) m.Secs _ (by omega) (fun i hi w hw G => ?_) (fun G => ?_) (by omega)
  · unfold impl_copyMem_l1 impl_copyMem_L1
    have hi0 : i < Big := by omega
    have hs := secC h hi
    simp only [List.length_map, at_map _ hi, dlt hi, d0, Bool.and_self, chk_true, cond_true, Int.toNat_natCast, List.getD_cons_zero, List.getD_cons_succ, T.asI_i, T.asR_r, T.asB_b]
    rw [copyInts_i _ hs k (by omega), bindO_some]
    simp only [Outs.t_mk, List.getD_cons_zero, List.getD_cons_succ, T.asI_i, T.asR_r, T.asB_b, chk_true]
    rw [chk_ok (by simp [hw] <;> omega)]; try rfl
  · unfold impl_copyMem_l1 impl_copyMem_L1
    simp only [List.length_map, dll, cond_false]
    refine copy_loop Wr.e m.Cache _ (by omega) (fun i hi w hw G => ?_) (fun G => ?_) (by omega)
    · unfold impl_copyMem_l2 impl_copyMem_L2
      have hi0 : i < Big := by omega
      have hs := cacheC h hi
      simp only [List.length_map, at_map _ hi, dlt hi, d0, Bool.and_self, chk_true, cond_true, Int.toNat_natCast, List.getD_cons_zero, List.getD_cons_succ, T.asI_i, T.asR_r, T.asB_b]
      rw [copyInts_i _ hs k (by omega), bindO_some]
      simp only [Outs.t_mk, List.getD_cons_zero, List.getD_cons_succ, T.asI_i, T.asR_r, T.asB_b, chk_true]
      rw [chk_ok (by simp [hw] <;> omega)]; try rfl
    · unfold impl_copyMem_l2 impl_copyMem_L2
      simp only [List.length_map, dll, cond_false]
      try rfl
def IntS.cn (s : List Int) : Nat := (s.map Int.cn).sum
def IntS.mk_ (c : Int) (s : List Int) : List Int := markL Int.cn Int.mk_ c s
theorem markIntSS_r (l : List (List Int)) (a : Int) (h0 : 0 ≤ a) (ha : a + ((l.map IntS.cn).sum : Nat) ≤ 4611686018427387904) (hw : wL List.length l ≤ Big) : Rn 3 N.laws_markIntSS [.r (eIss l), .v [.i a]] ⟨[.i (a + ((l.map IntS.cn).sum : Nat))], [[.r (eIss (markL IntS.cn IntS.mk_ a l))]]⟩ := by
  refine Rn.of fun k hk => ?_
  rw [laws_markIntSS_e]; unfold laws_markIntSS_u laws_markIntSS_U
  have hB : Big = 4294967296 := rfl
  have hl := wL_len List.length l
  refine mark_loop (fun s => [T.r (eIs s)]) IntS.cn IntS.mk_ l a h0 ha (by omega) (fun i hi A B c hA h1 h2 G => ?_) (fun c w hw G => ?_) (by omega)
  · subst hA
    have hwi := wL_get List.length hi
    unfold laws_markIntSS_l1 laws_markIntSS_L1
    simp only [mid_lt, put_mid, at_mid, Int.toNat_natCast, spliceT, d0, Bool.and_self, chk_true, cond_true, List.getD_cons_zero, T.asR_r]
    refine bndO (markIntS_r l[A.length] c h1 h2 (by omega) k (by omega)) ?_
    rfl
  · unfold laws_markIntSS_l1 laws_markIntSS_L1
    simp only [hw, dll, cond_false]
theorem heldIntSS_r (l : List (List Int)) (a : Int) (h0 : 0 ≤ a) (ha : a + ((l.map IntS.cn).sum : Nat) ≤ 4611686018427387904) (hw : wL List.length l ≤ Big) : Rn 3 N.laws_heldIntSS [.v [.r (eIss (markL IntS.cn IntS.mk_ a l))], .v [.i a]] ⟨[.i (a + ((l.map IntS.cn).sum : Nat))], []⟩ := by
  refine Rn.of fun k hk => ?_
  rw [laws_heldIntSS_e]; unfold laws_heldIntSS_u laws_heldIntSS_U
  have hB : Big = 4294967296 := rfl
  have hl := wL_len List.length l
  have hm := markL_len IntS.cn IntS.mk_ a l
  refine held_loop IntS.cn l a h0 ha (by omega) (fun i hi c hc h1 h2 G => ?_) (fun c G => ?_) (by omega)
  · have hwi := wL_get List.length hi
    have hi' : i < (markL IntS.cn IntS.mk_ a l).length := by omega
    unfold laws_heldIntSS_l1 laws_heldIntSS_L1
    simp only [List.length_map, at_map _ hi', markL_get IntS.cn IntS.mk_ a l i hi, ← hc, dlt hi', d0, Bool.and_self, chk_true, cond_true, List.getD_cons_zero, List.getD_cons_succ, T.asI_i, T.asR_r, Int.toNat_natCast]
    refine bndO (heldIntS_r l[i] c h1 h2 (by omega) k (by omega)) ?_
    have hn : ¬ (c + ((l[i].map Int.cn).sum : Nat) < 0) := by omega
    exact bif_f (decide_eq_false hn) rfl
  · unfold laws_heldIntSS_l1 laws_heldIntSS_L1
    simp only [List.length_map, hm, dll, cond_false]
def Dsk.cn (m : Dsk) : Nat := (m.Secs.map IntS.cn).sum + (m.Cache.map Wr.cn).sum + 1 + (m.Bad.map Int.cn).sum
@[reducible] def Dsk.mk_ (c : Int) (m : Dsk) : Dsk :=
  { Secs := markL IntS.cn IntS.mk_ c m.Secs, Cache := markL Wr.cn Wr.mk_ (c + ((m.Secs.map IntS.cn).sum : Nat)) m.Cache, Failed := (Int.tmod (c + ((m.Secs.map IntS.cn).sum : Nat) + ((m.Cache.map Wr.cn).sum : Nat)) 3) == 0, Bad := markL Int.cn Int.mk_ (c + ((m.Secs.map IntS.cn).sum : Nat) + ((m.Cache.map Wr.cn).sum : Nat) + 1) m.Bad }
theorem dsk_lens {m : Dsk} {W : Nat} (h : m.w ≤ W) : wL List.length m.Secs ≤ W ∧ wL Wr.w m.Cache ≤ W ∧ m.Bad.length ≤ W := by
  have e0 : m.w = wL List.length m.Secs + wL Wr.w m.Cache + m.Bad.length := rfl
  omega
theorem markMemS_r (l : List Dsk) (a : Int) (h0 : 0 ≤ a) (ha : a + ((l.map Dsk.cn).sum : Nat) ≤ 4611686018427387904) (hw : wL Dsk.w l ≤ Big) : Rn 5 N.laws_markMemS [.r (eMems l), .v [.i a]] ⟨[.i (a + ((l.map Dsk.cn).sum : Nat))], [[.r (eMems (markL Dsk.cn Dsk.mk_ a l))]]⟩ := by
  refine Rn.of fun k hk => ?_
  rw [laws_markMemS_e]; unfold laws_markMemS_u laws_markMemS_U
  have hB : Big = 4294967296 := rfl
  have hl := wL_len Dsk.w l
  refine mark_loop Dsk.e Dsk.cn Dsk.mk_ l a h0 ha (by omega) (fun i hi A B c hA h1 h2 G => ?_) (fun c w hw G => ?_) (by omega)
  · subst hA
    have hwi := wL_get Dsk.w hi
    obtain ⟨w1, w2, w3⟩ := dsk_lens (Nat.le_trans hwi hw)
    generalize l[A.length] = m at *
    have hcn : Dsk.cn m = (m.Secs.map IntS.cn).sum + (m.Cache.map Wr.cn).sum + 1 + (m.Bad.map Int.cn).sum := rfl
    unfold laws_markMemS_l1 laws_markMemS_L1
    have t1 := markIntSS_r m.Secs c h1 (by omega) w1 k (by omega)
    have t2 := markWrS_r m.Cache (c + ((m.Secs.map IntS.cn).sum : Nat)) (by omega) (by omega) w2 k (by omega)
    have e1 : IntKind.wrap .i64 (c + ((m.Secs.map IntS.cn).sum : Nat) + ((m.Cache.map Wr.cn).sum : Nat) + 1) = c + ((m.Secs.map IntS.cn).sum : Nat) + ((m.Cache.map Wr.cn).sum : Nat) + 1 := wrap_id (by omega) (by omega)
    have t3 := markIntS_r m.Bad (c + ((m.Secs.map IntS.cn).sum : Nat) + ((m.Cache.map Wr.cn).sum : Nat) + 1) (by omega) (by omega) w3 k (by omega)
    simp only [mid_lt, put_mid, at_mid, Int.toNat_natCast, spliceT, List.length_cons, List.length_nil, List.drop_succ_cons, List.drop_zero, List.cons_append, List.nil_append, Nat.zero_add, Nat.reduceAdd, d0, Bool.and_self, chk_true, cond_true, List.getD_cons_zero, List.getD_cons_succ, T.asI_i, T.asR_r, Outs.t_mk, Outs.vt_mk, bindO_some, t1, t2, t3, e1]
    rw [show c + ((Dsk.cn m : Nat) : Int) = c + ((m.Secs.map IntS.cn).sum : Nat) + ((m.Cache.map Wr.cn).sum : Nat) + 1 + ((m.Bad.map Int.cn).sum : Nat) by omega]
  · unfold laws_markMemS_l1 laws_markMemS_L1
    simp only [hw, dll, cond_false]
theorem heldMemS_r (l : List Dsk) (a : Int) (h0 : 0 ≤ a) (ha : a + ((l.map Dsk.cn).sum : Nat) ≤ 4611686018427387904) (hw : wL Dsk.w l ≤ Big) : Rn 5 N.laws_heldMemS [.v [.r (eMems (markL Dsk.cn Dsk.mk_ a l))], .v [.i a]] ⟨[.i (a + ((l.map Dsk.cn).sum : Nat))], []⟩ := by
  refine Rn.of fun k hk => ?_
  rw [laws_heldMemS_e]; unfold laws_heldMemS_u laws_heldMemS_U
  have hB : Big = 4294967296 := rfl
  have hl := wL_len Dsk.w l
  have hm := markL_len Dsk.cn Dsk.mk_ a l
  refine held_loop Dsk.cn l a h0 ha (by omega) (fun i hi c hc h1 h2 G => ?_) (fun c G => ?_) (by omega)
  · have hwi := wL_get Dsk.w hi
    obtain ⟨w1, w2, w3⟩ := dsk_lens (Nat.le_trans hwi hw)
    have hi' : i < (markL Dsk.cn Dsk.mk_ a l).length := by omega
    unfold laws_heldMemS_l1 laws_heldMemS_L1
    simp only [List.length_map, Int.toNat_natCast, at_map _ hi', markL_get Dsk.cn Dsk.mk_ a l i hi, ← hc]
    generalize l[i] = m at *
    have hcn : Dsk.cn m = (m.Secs.map IntS.cn).sum + (m.Cache.map Wr.cn).sum + 1 + (m.Bad.map Int.cn).sum := rfl
    have t1 := heldIntSS_r m.Secs c h1 (by omega) w1 k (by omega)
    have t2 := heldWrS_r m.Cache (c + ((m.Secs.map IntS.cn).sum : Nat)) (by omega) (by omega) w2 k (by omega)
    have e1 : IntKind.wrap .i64 (c + ((m.Secs.map IntS.cn).sum : Nat) + ((m.Cache.map Wr.cn).sum : Nat) + 1) = c + ((m.Secs.map IntS.cn).sum : Nat) + ((m.Cache.map Wr.cn).sum : Nat) + 1 := wrap_id (by omega) (by omega)
    have t3 := heldIntS_r m.Bad (c + ((m.Secs.map IntS.cn).sum : Nat) + ((m.Cache.map Wr.cn).sum : Nat) + 1) (by omega) (by omega) w3 k (by omega)
    have n1 : decide (c + ((m.Secs.map IntS.cn).sum : Nat) < 0) = false := decide_eq_false (by omega)
    have n2 : decide (c + ((m.Secs.map IntS.cn).sum : Nat) + ((m.Cache.map Wr.cn).sum : Nat) < 0) = false := decide_eq_false (by omega)
    have n3 : decide (c + ((m.Secs.map IntS.cn).sum : Nat) + ((m.Cache.map Wr.cn).sum : Nat) + 1 + ((m.Bad.map Int.cn).sum : Nat) < 0) = false := decide_eq_false (by omega)
    simp only [dlt hi', d0, Bool.and_self, chk_true, cond_true, cond_false, List.getD_cons_zero, List.getD_cons_succ, T.asI_i, T.asR_r, T.asB_b, Outs.t_mk, bindO_some, Int.toNat_natCast, beq_self_eq_true, Bool.not_true, t1, t2, t3, e1, n1, n2, n3]
    rw [show c + ((Dsk.cn m : Nat) : Int) = c + ((m.Secs.map IntS.cn).sum : Nat) + ((m.Cache.map Wr.cn).sum : Nat) + 1 + ((m.Bad.map Int.cn).sum : Nat) by omega]
  · unfold laws_heldMemS_l1 laws_heldMemS_L1
    simp only [List.length_map, hm, dll, cond_false]
def Arr.cn (a : Arr) : Nat := (a.Mems.map Dsk.cn).sum + (a.Dirty.map Ent.cn).sum
@[reducible] def Arr.mk_ (c : Int) (a : Arr) : Arr := { a with Mems := markL Dsk.cn Dsk.mk_ c a.Mems, Dirty := markL Ent.cn Ent.mk_ (c + ((a.Mems.map Dsk.cn).sum : Nat)) a.Dirty }
theorem markArr_r (x : Arr) (a : Int) (h0 : 0 ≤ a) (ha : a + (x.cn : Nat) ≤ 4611686018427387904) (hw : x.w ≤ Big) : Rn 6 N.laws_markArr [.s x.e, .v [.i a]] ⟨[.i (a + (x.cn : Nat))], [(x.mk_ a).e]⟩ := by
  refine Rn.of fun k hk => ?_
  rw [laws_markArr_e]; unfold laws_markArr_u
  have e0 : x.w = wL Dsk.w x.Mems + wL Ent.w x.Dirty := rfl
  have e1 : x.cn = (x.Mems.map Dsk.cn).sum + (x.Dirty.map Ent.cn).sum := rfl
  refine bndO (markMemS_r x.Mems a h0 (by omega) (by omega) k (by omega)) ?_
  refine bndO (markEntS_r x.Dirty (a + ((x.Mems.map Dsk.cn).sum : Nat)) (by omega) (by omega) (by omega) k (by omega)) ?_
  rw [show a + ((x.cn : Nat) : Int) = a + ((x.Mems.map Dsk.cn).sum : Nat) + ((x.Dirty.map Ent.cn).sum : Nat) by omega]; rfl
theorem heldArr_r (x : Arr) (a : Int) (h0 : 0 ≤ a) (ha : a + (x.cn : Nat) ≤ 4611686018427387904) (hw : x.w ≤ Big) : Rn 6 N.laws_heldArr [.v (x.mk_ a).e, .v [.i a]] ⟨[.i (a + (x.cn : Nat))], []⟩ := by
  refine Rn.of fun k hk => ?_
  rw [laws_heldArr_e]; unfold laws_heldArr_u
  have e0 : x.w = wL Dsk.w x.Mems + wL Ent.w x.Dirty := rfl
  have e1 : x.cn = (x.Mems.map Dsk.cn).sum + (x.Dirty.map Ent.cn).sum := rfl
  refine bndO (heldMemS_r x.Mems a h0 (by omega) (by omega) k (by omega)) ?_
  refine bif_f (decide_eq_false (show ¬ (a + ((x.Mems.map Dsk.cn).sum : Nat) < 0) by omega)) ?_
  refine bndO (heldEntS_r x.Dirty (a + ((x.Mems.map Dsk.cn).sum : Nat)) (by omega) (by omega) (by omega) k (by omega)) ?_
  refine bif_f (decide_eq_false (show ¬ (a + ((x.Mems.map Dsk.cn).sum : Nat) + ((x.Dirty.map Ent.cn).sum : Nat) < 0) by omega)) ?_
  rw [show a + ((x.cn : Nat) : Int) = a + ((x.Mems.map Dsk.cn).sum : Nat) + ((x.Dirty.map Ent.cn).sum : Nat) by omega]; rfl
def Eng.cn (x : Eng) : Nat := x.A.cn + (x.Wait.map Cmd.cn).sum + (x.Jobs.map Job.cn).sum + (x.Done.map Ans.cn).sum + (x.Log.map Turn.cn).sum
abbrev Eng.c1 (x : Eng) (c : Int) : Int := c + (x.A.cn : Nat)
abbrev Eng.c2 (x : Eng) (c : Int) : Int := x.c1 c + ((x.Wait.map Cmd.cn).sum : Nat)
abbrev Eng.c3 (x : Eng) (c : Int) : Int := x.c2 c + ((x.Jobs.map Job.cn).sum : Nat)
abbrev Eng.c4 (x : Eng) (c : Int) : Int := x.c3 c + ((x.Done.map Ans.cn).sum : Nat)
abbrev Eng.c5 (x : Eng) (c : Int) : Int := x.c4 c + ((x.Log.map Turn.cn).sum : Nat)
theorem Eng.c5_eq (x : Eng) (c : Int) : x.c5 c = c + (x.cn : Nat) := by
  have e1 : x.cn = x.A.cn + (x.Wait.map Cmd.cn).sum + (x.Jobs.map Job.cn).sum + (x.Done.map Ans.cn).sum + (x.Log.map Turn.cn).sum := rfl
  show c + (x.A.cn : Nat) + ((x.Wait.map Cmd.cn).sum : Nat) + ((x.Jobs.map Job.cn).sum : Nat) + ((x.Done.map Ans.cn).sum : Nat) + ((x.Log.map Turn.cn).sum : Nat) = _
  omega
@[reducible] def Eng.mk_ (c : Int) (x : Eng) : Eng := { A := x.A.mk_ c, Wait := markL Cmd.cn Cmd.mk_ (x.c1 c) x.Wait, Jobs := markL Job.cn Job.mk_ (x.c2 c) x.Jobs, Done := markL Ans.cn Ans.mk_ (x.c3 c) x.Done, Log := markL Turn.cn Turn.mk_ (x.c4 c) x.Log }
theorem markEng_r (x : Eng) (a : Int) (h0 : 0 ≤ a) (ha : a + (x.cn : Nat) ≤ 4611686018427387904) (hw : x.w ≤ Big) : Rn 7 N.laws_markEng [.s x.e, .v [.i a]] ⟨[.i (a + (x.cn : Nat))], [(x.mk_ a).e]⟩ := by
  refine Rn.of fun k hk => ?_
  rw [laws_markEng_e, ← Eng.c5_eq]; unfold laws_markEng_u
  have e0 : x.w = x.A.w + wL Cmd.w x.Wait + wL Job.w x.Jobs + wL Ans.w x.Done + wL Turn.w x.Log := rfl
  have e1 : x.cn = x.A.cn + (x.Wait.map Cmd.cn).sum + (x.Jobs.map Job.cn).sum + (x.Done.map Ans.cn).sum + (x.Log.map Turn.cn).sum := rfl
  have d1 : x.c1 a = a + (x.A.cn : Nat) := rfl
  have d2 : x.c2 a = x.c1 a + ((x.Wait.map Cmd.cn).sum : Nat) := rfl
  have d3 : x.c3 a = x.c2 a + ((x.Jobs.map Job.cn).sum : Nat) := rfl
  have d4 : x.c4 a = x.c3 a + ((x.Done.map Ans.cn).sum : Nat) := rfl
  have d5 : x.c5 a = x.c4 a + ((x.Log.map Turn.cn).sum : Nat) := rfl
  refine bndO (markArr_r x.A a h0 (by omega) (by omega) k (by omega)) ?_
  refine bndO (markCmdS_r x.Wait (x.c1 a) (by omega) (by omega) (by omega) k (by omega)) ?_
  refine bndO (markJobS_r x.Jobs (x.c2 a) (by omega) (by omega) (by omega) k (by omega)) ?_
  refine bndO (markAnsS_r x.Done (x.c3 a) (by omega) (by omega) (by omega) k (by omega)) ?_
  exact bndO (markTurnS_r x.Log (x.c4 a) (by omega) (by omega) (by omega) k (by omega)) rfl
theorem heldEng_r (x : Eng) (a : Int) (h0 : 0 ≤ a) (ha : a + (x.cn : Nat) ≤ 4611686018427387904) (hw : x.w ≤ Big) : Rn 7 N.laws_heldEng [.v (x.mk_ a).e, .v [.i a]] ⟨[.i (a + (x.cn : Nat))], []⟩ := by
  refine Rn.of fun k hk => ?_
  rw [laws_heldEng_e, ← Eng.c5_eq]; unfold laws_heldEng_u
  have e0 : x.w = x.A.w + wL Cmd.w x.Wait + wL Job.w x.Jobs + wL Ans.w x.Done + wL Turn.w x.Log := rfl
  have e1 : x.cn = x.A.cn + (x.Wait.map Cmd.cn).sum + (x.Jobs.map Job.cn).sum + (x.Done.map Ans.cn).sum + (x.Log.map Turn.cn).sum := rfl
  have d1 : x.c1 a = a + (x.A.cn : Nat) := rfl
  have d2 : x.c2 a = x.c1 a + ((x.Wait.map Cmd.cn).sum : Nat) := rfl
  have d3 : x.c3 a = x.c2 a + ((x.Jobs.map Job.cn).sum : Nat) := rfl
  have d4 : x.c4 a = x.c3 a + ((x.Done.map Ans.cn).sum : Nat) := rfl
  have d5 : x.c5 a = x.c4 a + ((x.Log.map Turn.cn).sum : Nat) := rfl
  refine bndO (heldArr_r x.A a h0 (by omega) (by omega) k (by omega)) ?_
  refine bif_f (decide_eq_false (show ¬ (x.c1 a < 0) by omega)) ?_
  refine bndO (heldCmdS_r x.Wait (x.c1 a) (by omega) (by omega) (by omega) k (by omega)) ?_
  refine bif_f (decide_eq_false (show ¬ (x.c2 a < 0) by omega)) ?_
  refine bndO (heldJobS_r x.Jobs (x.c2 a) (by omega) (by omega) (by omega) k (by omega)) ?_
  refine bif_f (decide_eq_false (show ¬ (x.c3 a < 0) by omega)) ?_
  refine bndO (heldAnsS_r x.Done (x.c3 a) (by omega) (by omega) (by omega) k (by omega)) ?_
  refine bif_f (decide_eq_false (show ¬ (x.c4 a < 0) by omega)) ?_
  refine bndO (heldTurnS_r x.Log (x.c4 a) (by omega) (by omega) (by omega) k (by omega)) ?_
  exact bif_f (decide_eq_false (show ¬ (x.c5 a < 0) by omega)) rfl
theorem cnt_le {α : Type} {cnt w : α → Nat} {q W : Nat} (h : ∀ x, cnt x ≤ q + w x) {l : List α} (hl : wL w l ≤ W) : (l.map cnt).sum ≤ (q + 1) * W := by
  have : (l.map cnt).sum ≤ q * l.length + (l.map w).sum := by
    clear hl
    induction l with
    | nil => exact Nat.zero_le _
    | cons x l ih => simp only [List.map_cons, List.sum_cons, List.length_cons, Nat.mul_add, Nat.mul_one]; have := h x; omega
  have h1 : l.length ≤ W := Nat.le_trans (wL_len w l) hl
  have h2 : (l.map w).sum ≤ W := Nat.le_trans (Nat.le_add_left _ _) hl
  have h3 : q * l.length ≤ q * W := Nat.mul_le_mul_left q h1
  rw [Nat.add_mul, Nat.one_mul]; omega
theorem Wr.cn_w (x : Wr) : Wr.cn x = 1 + Wr.w x := by
  have h1 := sum_cn x.S
  have h3 : Wr.cn x = 1 + (x.S.map Int.cn).sum := rfl
  have h4 : Wr.w x = x.S.length := rfl
  omega
theorem Ent.cn_w (x : Ent) : Ent.cn x = 1 + Ent.w x := by
  have h1 := sum_cn x.Data
  have h3 : Ent.cn x = 1 + (x.Data.map Int.cn).sum := rfl
  have h4 : Ent.w x = x.Data.length := rfl
  omega
theorem Job.cn_w (x : Job) : Job.cn x = 6 + Job.w x := by
  have h1 := sum_cn x.C.Vals
  have h2 := sum_cn x.Got
  have h3 : Job.cn x = 6 + (x.C.Vals.map Int.cn).sum + (x.Got.map Int.cn).sum := rfl
  have h4 : Job.w x = x.C.Vals.length + x.Got.length := rfl
  omega
theorem Dsk.cn_w (m : Dsk) : Dsk.cn m ≤ 1 + 3 * Dsk.w m := by
  have e0 : m.w = wL List.length m.Secs + wL Wr.w m.Cache + m.Bad.length := rfl
  have hcn : Dsk.cn m = (m.Secs.map IntS.cn).sum + (m.Cache.map Wr.cn).sum + 1 + (m.Bad.map Int.cn).sum := rfl
  have h1 := cnt_le (cnt := IntS.cn) (w := List.length) (q := 0) (l := m.Secs) (fun x => by rw [Nat.zero_add]; exact Nat.le_of_eq (sum_cn x)) (Nat.le_refl _)
  have h2 := cnt_le (cnt := Wr.cn) (w := Wr.w) (q := 1) (l := m.Cache) (fun x => Nat.le_of_eq (Wr.cn_w x)) (Nat.le_refl _)
  have h3 := sum_cn m.Bad
  omega
theorem Eng.cn_w (x : Eng) {W : Nat} (h : x.w ≤ W) : x.cn ≤ 40 * W := by
  have e0 : x.w = wL Dsk.w x.A.Mems + wL Ent.w x.A.Dirty + wL Cmd.w x.Wait + wL Job.w x.Jobs + wL Ans.w x.Done + wL Turn.w x.Log := rfl
  have e1 : x.cn = (x.A.Mems.map Dsk.cn).sum + (x.A.Dirty.map Ent.cn).sum + (x.Wait.map Cmd.cn).sum + (x.Jobs.map Job.cn).sum + (x.Done.map Ans.cn).sum + (x.Log.map Turn.cn).sum := rfl
  have h1 : (x.A.Mems.map Dsk.cn).sum ≤ 4 * wL Dsk.w x.A.Mems := by
    generalize x.A.Mems = l
    induction l with
    | nil => exact Nat.zero_le _
    | cons m l ih => rw [wL_cons, List.map_cons, List.sum_cons]; have := Dsk.cn_w m; omega
  have h2 := cnt_le (cnt := Ent.cn) (w := Ent.w) (q := 1) (l := x.A.Dirty) (fun x => Nat.le_of_eq (Ent.cn_w x)) (Nat.le_refl _)
  have h3 := cnt_le (cnt := Cmd.cn) (w := Cmd.w) (q := 4) (l := x.Wait) (fun x => Nat.le_of_eq (Cmd.cn_w x)) (Nat.le_refl _)
  have h4 := cnt_le (cnt := Job.cn) (w := Job.w) (q := 6) (l := x.Jobs) (fun x => Nat.le_of_eq (Job.cn_w x)) (Nat.le_refl _)
  have h5 := cnt_le (cnt := Ans.cn) (w := Ans.w) (q := 2) (l := x.Done) (fun x => Nat.le_of_eq (Ans.cn_w x)) (Nat.le_refl _)
  have h6 := cnt_le (cnt := Turn.cn) (w := Turn.w) (q := 6) (l := x.Log) (fun x => Nat.le_of_eq (Turn.cn_w x)) (Nat.le_refl _)
  omega
def without (n : Int) (l : List Int) : List Int := l.filter fun x => !(x == n)
theorem indexN_i (l : List Int) (h : l.length ≤ Big) (n : Int) : Rn 3 N.slices_IndexFunc_int_int [.v [.r (eIs l)], .c N.impl_WriteSec_1 (some [.i n])] ⟨[.i (firstIx (fun x => x == n) 0 l)], [[.i n]]⟩ := by
  refine Rn.of fun k hk => ?_
  have hB : Big = 4294967296 := rfl
  rw [slices_IndexFunc_int_int_e]; unfold slices_IndexFunc_int_int_u slices_IndexFunc_int_int_U
  refine (fixN_up (R := Outs) l.length (fun i => ((i : Int), n)) (fun i => some ⟨[.i (firstIx (fun x => x == n) i (l.drop i))], [[.i n]]⟩) (fun i hi G hG => ?_) (fun G => ?_) (by unfold Big at hk; omega)).trans rfl
  · unfold slices_IndexFunc_int_int_l1 slices_IndexFunc_int_int_L1
    simp only [List.length_map, at_map _ hi, dlt hi, d0, Bool.and_self, chk_true, cond_true, Int.toNat_natCast, List.getD_cons_zero, List.getD_cons_succ, T.asI_i, T.asR_r]
    obtain ⟨k', rfl⟩ : ∃ m, k = m + 1 := ⟨k - 1, by unfold Big at hk; omega⟩
    rw [impl_WriteSec_1_e]; unfold impl_WriteSec_1_u
    rw [bindO_some, wrap_up (by omega)]
    show (bif l[i] == n then some ⟨[.i (i : Int)], [[.i n]]⟩ else G (((i + 1 : Nat) : Int), n)) = _
    rw [hG, List.drop_eq_getElem_cons hi, firstIx]
    cases l[i] == n <;> rfl
  · unfold slices_IndexFunc_int_int_l1 slices_IndexFunc_int_int_L1
    simp only [List.length_map, dll, cond_false]
    simp [firstIx]
theorem firstIx_take {α : Type} (p : α → Bool) : ∀ (l : List α) (i : Nat), (firstIx p i l = -1 ∧ l.filter (fun x => !p x) = l) ∨ ∃ (A : List α) (x : α) (B : List α), l = A ++ x :: B ∧ firstIx p i l = ((i + A.length : Nat) : Int) ∧ A.filter (fun x => !p x) = A ∧ p x = true
  | [], i => .inl ⟨rfl, rfl⟩
  | y :: l, i => by
    unfold firstIx
    cases hp : p y with
    | true => exact .inr ⟨[], y, l, rfl, by simp, rfl, hp⟩
    | false =>
      rcases firstIx_take p l (i + 1) with ⟨h1, h2⟩ | ⟨A, x, B, h1, h2, h3, h4⟩
      · exact .inl ⟨h1, by rw [List.filter_cons, hp]; simp [h2]⟩
      · exact .inr ⟨y :: A, x, B, by rw [h1]; rfl, by rw [cond_false, h2]; simp; omega, by rw [List.filter_cons, hp]; simp [h3], h4⟩
theorem overlay_take {l zs : List (List T)} {i : Nat} (h : i + zs.length = l.length) : (overlay l i zs).take i = l.take i ∧ (overlay l i zs).length = l.length := by
  unfold overlay
  have h1 : (l.take i).length = i := by simp; omega
  refine ⟨by rw [List.take_append_of_le_length (by omega), List.take_take, Nat.min_self], by simp; omega⟩
theorem del_loop (k n : Nat) (x : Int) (hk : Big + 2 ≤ k) : ∀ (R : List Int) (F M : List Int) (j : Nat), 0 < M.length → F.length + M.length + R.length ≤ Big → R.length < j →
    fixN (slices_DeleteFunc_int_int_l1 k) j ((F.length : Int), ((F.length + M.length : Nat) : Int), eIs (F ++ M ++ R), x) = some ⟨[.r (eIs (F ++ without x R))], [[.i x]]⟩
  | [], F, M, j, hM, hl, hj => by
    have hB : Big = 4294967296 := rfl
    obtain ⟨j, rfl⟩ : ∃ q, j = q + 1 := ⟨j - 1, by omega⟩
    have hlen : (eIs (F ++ M ++ [])).length = F.length + M.length := by simp
    unfold fixN slices_DeleteFunc_int_int_l1 slices_DeleteFunc_int_int_L1
    simp only [hlen]
    rw [decide_eq_false (by omega), cond_false]
    rw [chk_ok (by simp; omega)]
    obtain ⟨o1, o2⟩ := overlay_take (l := eIs (F ++ M ++ [])) (i := F.length) (zs := List.replicate (((F.length + M.length : Nat) : Int).toNat - (F.length : Int).toNat) [.i 0]) (by rw [hlen, List.length_replicate]; omega)
    simp only [Int.toNat_natCast] at o1 o2 ⊢
    rw [chk_ok (by simp only [Int.toNat_natCast, o2, hlen]; simp; omega), chk_ok (by simp only [Int.toNat_natCast, o2, hlen]; simp; omega)]
    simp only [Int.toNat_zero, Nat.sub_zero, o1]
    have : (eIs (F ++ M ++ [])).take F.length = eIs (F ++ without x []) := by simp [without]
    rw [this]
  | y :: R, F, M, j, hM, hl, hj => by
    have hB : Big = 4294967296 := rfl
    simp only [List.length_cons] at hl hj
    obtain ⟨j, rfl⟩ : ∃ q, j = q + 1 := ⟨j - 1, by omega⟩
    obtain ⟨k', rfl⟩ : ∃ m, k = m + 1 := ⟨k - 1, by omega⟩
    have hlen : (eIs (F ++ M ++ y :: R)).length = F.length + M.length + (R.length + 1) := by simp; omega
    have hat : at_ (eIs (F ++ M ++ y :: R)) (F.length + M.length) 0 = .i y := by
      have h1 : F.length + M.length < (F ++ M ++ y :: R).length := by simp
      rw [at_map _ h1]
      simp [List.getElem_append_right]
    have ih1 := fun F' M' => del_loop (k' + 1) n x hk R F' M' j
    rw [fixN]
    generalize fixN (slices_DeleteFunc_int_int_l1 (k' + 1)) j = G at *
    unfold slices_DeleteFunc_int_int_l1 slices_DeleteFunc_int_int_L1
    simp only [hlen, Int.toNat_natCast, hat, T.asI_i]
    rw [decide_eq_true (by omega), cond_true, chk_ok (by simp; omega)]
    rw [impl_WriteSec_1_e]; unfold impl_WriteSec_1_u
    rw [bindO_some]
    show (bif !(y == x) then chk _ (G (IntKind.wrap .i64 ((F.length : Int) + 1), IntKind.wrap .i64 (((F.length + M.length : Nat) : Int) + 1), put_ (eIs (F ++ M ++ y :: R)) F.length 0 [.i y], x)) else G ((F.length : Int), IntKind.wrap .i64 (((F.length + M.length : Nat) : Int) + 1), eIs (F ++ M ++ y :: R), x)) = _
    rw [show IntKind.wrap .i64 (((F.length + M.length : Nat) : Int) + 1) = ((F.length + M.length + 1 : Nat) : Int) by rw [wrap_id (by omega) (by omega)]; omega]
    cases hy : (y == x)
    · rw [Bool.not_false, cond_true, chk_ok (by simp; omega)]
      rw [show IntKind.wrap .i64 ((F.length : Int) + 1) = ((F.length + 1 : Nat) : Int) by rw [wrap_id (by omega) (by omega)]; omega]
      obtain ⟨m, M', rfl⟩ : ∃ m M', M = m :: M' := by
        cases M with
        | nil => simp at hM
        | cons m M' => exact ⟨m, M', rfl⟩
      have hput : put_ (eIs (F ++ (m :: M') ++ y :: R)) F.length 0 [.i y] = eIs ((F ++ [y]) ++ (M' ++ [y]) ++ R) := by
        have e1 : eIs (F ++ (m :: M') ++ y :: R) = eIs F ++ [.i m] :: eIs (M' ++ y :: R) := by simp
        rw [e1, show F.length = (eIs F).length by simp, put_mid]
        simp [spliceT]
      rw [hput]
      have := ih1 (F ++ [y]) (M' ++ [y]) (by simp) (by simp at hl ⊢; omega) (by omega)
      simp only [List.length_append, List.length_cons, List.length_nil] at this ⊢
      rw [show F.length + (0 + 1) + (M'.length + (0 + 1)) = F.length + (M'.length + 1) + 1 by omega, show F.length + (0 + 1) = F.length + 1 by omega] at this
      rw [this]
      simp [without, hy]
    · rw [Bool.not_true, cond_false]
      have := ih1 F (M ++ [y]) (by simp) (by simp; omega) (by omega)
      simp only [List.length_append, List.length_cons, List.length_nil] at this
      rw [show F ++ (M ++ [y]) ++ R = F ++ M ++ y :: R by simp] at this
      rw [show F.length + (M.length + (0 + 1)) = F.length + M.length + 1 by omega] at this
      rw [this]
      simp [without, hy]
theorem without_i (l : List Int) (h : l.length ≤ Big) (n : Int) : Rn 4 N.slices_DeleteFunc_int_int [.v [.r (eIs l)], .c N.impl_WriteSec_1 (some [.i n])] ⟨[.r (eIs (without n l))], [[.i n]]⟩ := by
  refine Rn.of fun k hk => ?_
  have hB : Big = 4294967296 := rfl
  rw [slices_DeleteFunc_int_int_e]; unfold slices_DeleteFunc_int_int_u slices_DeleteFunc_int_int_U
  refine bndO (indexN_i l h n k (by omega)) ?_
  rcases firstIx_take (fun x => x == n) l 0 with ⟨h1, h2⟩ | ⟨A, x, B, h1, h2, h3, h4⟩
  · rw [h1]
    refine bif_t rfl ?_
    unfold without; rw [h2]; rfl
  · rw [h2, Nat.zero_add]
    have hlen : l.length = A.length + (B.length + 1) := by rw [h1]; simp
    refine bif_f (show (((A.length : Nat) : Int) == -1) = false by simp) ?_
    show fixN (slices_DeleteFunc_int_int_l1 k) k (((A.length : Nat) : Int), IntKind.wrap .i64 (((A.length : Nat) : Int) + 1), eIs l, n) = _
    have := del_loop k 0 n (by omega) B A [x] k (by simp) (by simp; omega) (by omega)
    simp only [List.length_cons, List.length_nil] at this
    rw [wrap_id (by omega) (by omega), h1]
    rw [show A ++ [x] ++ B = A ++ x :: B by simp, show ((A.length + (0 + 1) : Nat) : Int) = (A.length : Int) + 1 by omega] at this
    rw [this]
    unfold without
    rw [List.filter_append, List.filter_cons, h3, show (!(x == n)) = false by simpa using h4]
    rfl
def writeSec (m : Dsk) (n : Int) (s : List Int) : Dsk × Bool :=
  bif memOk m && (!m.Failed && (hasSec m n && (secOk s && decide (m.Cache.length < 60)))) then ({ m with Cache := m.Cache ++ [⟨n, s⟩], Bad := without n m.Bad }, true) else (m, false)
theorem dsk_len (m : Dsk) {W : Nat} (h : m.w ≤ W) : m.Secs.length ≤ W ∧ m.Cache.length ≤ W ∧ m.Bad.length ≤ W := by
  have hs := wL_len List.length m.Secs
  have hc := wL_len Wr.w m.Cache
  have e0 : m.w = wL List.length m.Secs + wL Wr.w m.Cache + m.Bad.length := rfl
  omega
theorem writeSec_i (m : Dsk) (n : Int) (s : List Int) (h : m.w ≤ 2147483648) (hs : s.length ≤ Big) : Rn 8 N.impl_WriteSec [.v m.e, .v [.i n], .v [.r (eIs s)]] ⟨(writeSec m n s).1.e ++ [.b (writeSec m n s).2], []⟩ := by
  refine Rn.of fun k hk => ?_
  have hB : Big = 4294967296 := rfl
  obtain ⟨l1, l2, l3⟩ := dsk_len m h
  rw [impl_WriteSec_e]; unfold impl_WriteSec_u
  refine bndO (copyMem_i m (by omega) k (by omega)) ?_
  refine bndO (memOk_i m (by omega) k (by omega)) ?_
  unfold writeSec
  cases hm : memOk m
  · rfl
  refine bif_f rfl ?_
  rcases Bool.eq_false_or_eq_true m.Failed with hf | hf
  · refine bif_t hf ?_
    rw [hf]; rfl
  refine bif_f hf ?_
  refine bndO (hasSec_i m n (by omega) k (by omega)) ?_
  cases hh : hasSec m n
  · rw [hf]; rfl
  refine bif_f rfl ?_
  refine bndO (secOk_i s hs k (by omega)) ?_
  cases ho : secOk s
  · rw [hf]; rfl
  refine bif_f rfl ?_
  have hc60 : m.Cache.length ≤ 60 := by
    unfold memOk at hm
    simp only [Bool.and_eq_true, decide_eq_true_eq] at hm
    exact hm.2.2.2.2
  unfold impl_WriteSec_J1
  by_cases h60 : m.Cache.length < 60
  · refine bif_f (show (((List.map Wr.e m.Cache).length : Int) == 60) = false by simp; omega) ?_
    refine bndO (copyInts_i s hs k (by omega)) ?_
    refine (chk_ok (by simp; omega) _).trans ?_
    refine bndO (without_i m.Bad (by omega) n k (by omega)) ?_
    rw [decide_eq_true h60]
    have e1 : eWrs (m.Cache ++ [⟨n, s⟩]) = eWrs m.Cache ++ [(⟨n, s⟩ : Wr).e] := by rw [eWrs, eWrs, List.map_append]; rfl
    show some (⟨[.r (eIss m.Secs), .r (eWrs m.Cache ++ [(⟨n, s⟩ : Wr).e]), .b m.Failed, .r (eIs (without n m.Bad)), .b true], []⟩ : Outs) = _
    rw [hf, ← e1]; rfl
  · refine bif_t (show (((List.map Wr.e m.Cache).length : Int) == 60) = true by simp; omega) ?_
    rw [decide_eq_false h60]
    rw [hf]; rfl
def layAll (s : List (List Int)) (l : List Wr) : List (List Int) := l.foldl (fun s x => s.set x.N.toNat x.S) s
def flushMem (m : Dsk) : Dsk := bif memOk m && !m.Failed then { m with Secs := layAll m.Secs m.Cache, Cache := [] } else m
theorem put_set (l : List (List Int)) (i : Nat) (s : List Int) (h : i < l.length) : put_ (eIss l) i 0 [.r (eIs s)] = eIss (l.set i s) := by
  unfold put_
  have e : (eIss l).getD i [] = [.r (eIs l[i])] := by
    rw [List.getD_eq_getElem?_getD, List.getElem?_map, List.getElem?_eq_getElem h]; rfl
  rw [e]
  show (eIss l).set i [.r (eIs s)] = _
  rw [eIss, eIss, List.map_set]
theorem lay_loop (m : Dsk) (hm : memOk m = true) (hw : m.w ≤ Big) (r : List (List Int) → Option Outs) {b : (Int × List (List T) → Option Outs) → Int × List (List T) → Option Outs}
    (hb : ∀ i (hi : i < m.Cache.length) s (G : Int × List (List T) → Option Outs), s.length = m.Secs.length → b G ((i : Int), eIss s) = G (((i + 1 : Nat) : Int), eIss (s.set m.Cache[i].N.toNat m.Cache[i].S)))
    (he : ∀ s (G : Int × List (List T) → Option Outs), b G ((m.Cache.length : Int), eIss s) = r s) {j : Nat} (hj : m.Cache.length < j) : fixN b j (0, eIss m.Secs) = r (layAll m.Secs m.Cache) := by
  have key : ∀ (R A : List Wr) (s : List (List Int)) (j : Nat), m.Cache = A ++ R → s.length = m.Secs.length → R.length < j → fixN b j ((A.length : Int), eIss s) = r (layAll s R) := by
    intro R
    induction R with
    | nil =>
      intro A s j hA hs hj
      obtain ⟨j, rfl⟩ : ∃ q, j = q + 1 := ⟨j - 1, by omega⟩
      rw [List.append_nil] at hA
      rw [← hA]
      exact he s _
    | cons x R ih =>
      intro A s j hA hs hj
      simp only [List.length_cons] at hj
      obtain ⟨j, rfl⟩ : ∃ q, j = q + 1 := ⟨j - 1, by omega⟩
      have hi : A.length < m.Cache.length := by rw [hA]; simp
      have hx : m.Cache[A.length] = x := by simp [hA]
      have ih1 := ih (A ++ [x]) (s.set x.N.toNat x.S) j (by rw [hA]; simp) (by rw [List.length_set]; exact hs) (by omega)
      simp only [List.length_append, List.length_cons, List.length_nil] at ih1
      rw [show A.length + (0 + 1) = A.length + 1 by omega] at ih1
      rw [fixN, hb A.length hi s _ hs, hx, ih1]
      rfl
  exact key m.Cache [] m.Secs j rfl rfl hj
theorem cache_in {m : Dsk} (hm : memOk m = true) {i : Nat} (hi : i < m.Cache.length) : 0 ≤ m.Cache[i].N ∧ m.Cache[i].N < m.Secs.length := by
  unfold memOk at hm
  simp only [Bool.and_eq_true, List.all_eq_true] at hm
  have := within_t (hm.2.1 _ (List.getElem_mem hi)).1
  omega
theorem flushMem_i (m : Dsk) (h : m.w ≤ Big) : Rn 6 N.impl_FlushMem [.v m.e] ⟨(flushMem m).e, []⟩ := by
  refine Rn.of fun k hk => ?_
  have hB : Big = 4294967296 := rfl
  obtain ⟨l1, l2, l3⟩ := dsk_len m h
  rw [impl_FlushMem_e]; unfold impl_FlushMem_u impl_FlushMem_U
  refine bndO (copyMem_i m h k (by omega)) ?_
  refine bndO (memOk_i m h k (by omega)) ?_
  unfold flushMem
  cases hm : memOk m
  · rfl
  refine bif_f rfl ?_
  rcases Bool.eq_false_or_eq_true m.Failed with hf | hf
  · refine bif_t hf ?_
    rw [hf]; rfl
  refine bif_f hf ?_
  show fixN (impl_FlushMem_l1 k (eWrs m.Cache) ⟨m.e, []⟩) k (0, eIss m.Secs) = _
  refine (lay_loop m hm h (fun s => some ⟨({ m with Secs := s, Cache := [] } : Dsk).e, []⟩) (fun i hi s G hs => ?_) (fun s G => ?_) (by omega)).trans ?_
  · obtain ⟨c1, c2⟩ := cache_in hm hi
    have hwi : m.Cache[i].S.length ≤ Big := by
      have := wL_get Wr.w hi
      have e0 : m.w = wL List.length m.Secs + wL Wr.w m.Cache + m.Bad.length := rfl
      have e1 : m.Cache[i].w = m.Cache[i].S.length := rfl
      omega
    unfold impl_FlushMem_l1 impl_FlushMem_L1
    simp only [List.length_map, at_map _ hi, dlt hi, d0, Bool.and_self, chk_true, cond_true, Int.toNat_natCast, List.getD_cons_zero, List.getD_cons_succ, T.asI_i, T.asR_r]
    refine bndO (copyInts_i m.Cache[i].S hwi k (by omega)) ?_
    refine (chk_ok (by simp; omega) _).trans ?_
    rw [wrap_up (by omega)]
    show G (_, put_ (eIss s) m.Cache[i].N.toNat 0 [.r (eIs m.Cache[i].S)]) = _
    rw [put_set _ _ _ (by omega)]
  · unfold impl_FlushMem_l1 impl_FlushMem_L1
    simp only [List.length_map, dll, cond_false]; rfl
  · simp only [hf]; rfl
def memNew (n : Int) : Dsk := bif within n 1 20 then ⟨List.replicate n.toNat [], [], false, []⟩ else ⟨[], [], false, []⟩
theorem eIss_rep (n : Nat) : eIss (List.replicate n []) = List.replicate n [.r []] := by simp
theorem memNew_i (n : Int) : Rn 2 N.impl_MemNew [.v [.i n]] ⟨(memNew n).e, []⟩ := by
  refine Rn.of fun k hk => ?_
  have hB : Big = 4294967296 := rfl
  rw [impl_MemNew_e]; unfold impl_MemNew_u
  refine bndO (within_i _ _ _ k (by omega)) ?_
  unfold memNew
  cases hw : within n 1 20
  · rfl
  have := within_t hw
  refine bif_f rfl ((chk_ok (by simp; omega) _).trans ?_)
  show some (⟨[.r (List.replicate n.toNat [.r []]), _, _, _], []⟩ : Outs) = _
  rw [← eIss_rep]; rfl
theorem memNew_s (n : Int) : Rn 2 N.spec_MemNew [.v [.i n]] ⟨(memNew n).e, []⟩ := by
  refine Rn.of fun k hk => ?_
  have hB : Big = 4294967296 := rfl
  rw [spec_MemNew_e]; unfold spec_MemNew_u spec_MemNew_U
  refine bndO (within_s _ _ _ k (by omega)) ?_
  unfold memNew
  cases hw : within n 1 20
  · rfl
  have := within_t hw
  obtain ⟨m, rfl⟩ : ∃ m : Nat, n = (m : Int) := ⟨n.toNat, by omega⟩
  refine bif_f rfl ?_
  refine (fixN_up (R := Outs) m (fun i => ((i : Int), List.replicate i [.r []])) (fun _ => some ⟨(⟨List.replicate m [], [], false, []⟩ : Dsk).e, []⟩) (fun i hi G hG => ?_) (fun G => ?_) (by omega)).trans (by rw [Int.toNat_natCast]; rfl)
  · unfold spec_MemNew_l1 spec_MemNew_L1
    simp only []
    rw [decide_eq_true (by omega), cond_true, chk_ok (by simp; omega), wrap_up (by omega), ← hG, List.replicate_succ']
  · unfold spec_MemNew_l1 spec_MemNew_L1
    simp only []
    rw [decide_eq_false (by omega), cond_false, ← eIss_rep]; rfl
def superOk (s : Super) : Bool := (within s.Id 1 60000 && (within s.Gen 0 60000 && within s.Tail 0 60000)) && (geoOk ⟨s.N, s.S⟩ && (within s.Role 0 (s.N - 1) && lostOk ⟨s.N, s.S⟩ s.Lost s.Built))
def putSuper (s : Super) : List Int := bif superOk s then [21317, s.Id, s.Gen, s.Role, s.N, s.S, s.Tail, s.Lost + 1, s.Built] else []
theorem superOk_i (s : Super) : Rn 4 N.impl_SuperOk [.v s.e] ⟨[.b (superOk s)], []⟩ := by
  refine Rn.of fun k hk => ?_
  have hB : Big = 4294967296 := rfl
  rw [impl_SuperOk_e]; unfold impl_SuperOk_u superOk
  refine bndO (within_i _ _ _ k (by omega)) ?_
  cases within s.Id 1 60000
  · rfl
  refine bif_t rfl (bndO (within_i _ _ _ k (by omega)) ?_)
  cases within s.Gen 0 60000
  · rfl
  refine bif_t rfl (bndO (within_i _ _ _ k (by omega)) ?_)
  cases within s.Tail 0 60000
  · rfl
  unfold impl_SuperOk_J1
  refine bif_t rfl (bndO (geoOk_i ⟨s.N, s.S⟩ k (by omega)) ?_)
  cases hg : geoOk ⟨s.N, s.S⟩
  · rfl
  have := geoOk_t hg
  simp only at this
  rw [wrap_id (n := s.N - 1) (by omega) (by omega)]
  refine bif_t rfl (bndO (within_i _ _ _ k (by omega)) ?_)
  cases within s.Role 0 (s.N - 1)
  · rfl
  exact bif_t rfl (bndO (lostOk_i ⟨s.N, s.S⟩ hg s.Lost s.Built k (by omega)) rfl)
theorem superOk_s (s : Super) : Rn 4 N.spec_SuperOk [.v s.e] ⟨[.b (superOk s)], []⟩ := by
  refine Rn.of fun k hk => ?_
  have hB : Big = 4294967296 := rfl
  rw [spec_SuperOk_e]; unfold spec_SuperOk_u superOk
  refine bndO (geoOk_s ⟨s.N, s.S⟩ k (by omega)) ?_
  cases hg : geoOk ⟨s.N, s.S⟩
  · rw [Bool.false_and, Bool.and_false]; rfl
  have := geoOk_t hg
  simp only at this
  refine bif_f rfl (bndO (within_s _ _ _ k (by omega)) ?_)
  cases within s.Id 1 60000
  · rfl
  refine bif_f rfl (bndO (within_s _ _ _ k (by omega)) ?_)
  cases within s.Gen 0 60000
  · rfl
  rw [wrap_id (n := s.N - 1) (by omega) (by omega)]
  refine bif_f rfl (bndO (within_s _ _ _ k (by omega)) ?_)
  cases within s.Role 0 (s.N - 1)
  · rw [Bool.false_and, Bool.and_false, Bool.and_false]; rfl
  refine bif_f rfl (bndO (within_s _ _ _ k (by omega)) ?_)
  cases within s.Tail 0 60000
  · rfl
  unfold spec_SuperOk_J1
  rw [wrap_id (n := s.N - 1) (by omega) (by omega)]
  refine bif_f rfl (bndO (within_s _ _ _ k (by omega)) ?_)
  unfold lostOk
  cases hl : within s.Lost (-1) (s.N - 1)
  · rfl
  have hl := within_t hl
  refine bif_t rfl (bndO (within_s _ _ _ k (by omega)) ?_)
  cases within s.Built 0 s.S
  · rfl
  refine bif_t rfl ?_
  by_cases h0 : s.Lost ≥ 0
  · rw [decide_eq_true h0, show (s.Lost != -1) = true by simp; omega]; simp
  · rw [decide_eq_false h0, show s.Lost = -1 by omega]; simp
theorem putSuper_i (s : Super) (hl : inI s.Lost) : Rn 5 N.impl_PutSuper [.v s.e] ⟨[.r (eIs (putSuper s))], []⟩ := by
  refine Rn.of fun k hk => ?_
  rw [impl_PutSuper_e]; unfold impl_PutSuper_u
  refine bndO (superOk_i s k (by omega)) ?_
  unfold putSuper
  cases ho : superOk s
  · rfl
  have h1 : within s.Lost (-1) (s.N - 1) = true ∧ geoOk ⟨s.N, s.S⟩ = true := by
    unfold superOk lostOk at ho
    simp only [Bool.and_eq_true] at ho
    exact ⟨ho.2.2.2.1, ho.2.1⟩
  have h2 := within_t h1.1
  have h3 := geoOk_t h1.2
  simp only at h3
  refine bif_f rfl ?_
  rw [wrap_id (n := s.Lost + 1) (by omega) (by omega)]; rfl
theorem putSuper_s (s : Super) (hl : inI s.Lost) : Rn 5 N.spec_PutSuper [.v s.e] ⟨[.r (eIs (putSuper s))], []⟩ := by
  refine Rn.of fun k hk => ?_
  rw [spec_PutSuper_e]; unfold spec_PutSuper_u
  refine bndO (superOk_s s k (by omega)) ?_
  unfold putSuper
  cases ho : superOk s
  · rfl
  have h1 : within s.Lost (-1) (s.N - 1) = true ∧ geoOk ⟨s.N, s.S⟩ = true := by
    unfold superOk lostOk at ho
    simp only [Bool.and_eq_true] at ho
    exact ⟨ho.2.2.2.1, ho.2.1⟩
  have h2 := within_t h1.1
  have h3 := geoOk_t h1.2
  simp only at h3
  refine bif_f rfl ?_
  rw [wrap_id (n := s.Lost + 1) (by omega) (by omega)]; rfl
theorem putSuper_ok (s : Super) : secOk (putSuper s) = true ∧ (putSuper s).length ≤ 9 := by
  unfold putSuper
  cases ho : superOk s
  · exact ⟨rfl, Nat.zero_le _⟩
  · unfold superOk lostOk at ho
    simp only [Bool.and_eq_true] at ho
    obtain ⟨⟨a1, a2, a3⟩, a4, a5, a6, a7, a8⟩ := ho
    have a1 := within_t a1
    have a2 := within_t a2
    have a3 := within_t a3
    have a4 := geoOk_t a4
    have a5 := within_t a5
    have a6 := within_t a6
    have a7 := within_t a7
    simp only at a4 a5 a6 a7
    refine ⟨?_, by simp⟩
    unfold secOk wordsOk isWord within
    simp
    omega
def writeSuper (m : Dsk) (s : Super) : Dsk := bif superOk s then (writeSec m (Int.tmod s.Gen 2) (putSuper s)).1 else m
theorem writeSuper_i (m : Dsk) (s : Super) (hl : inI s.Lost) (h : m.w ≤ 2147483648) : Rn 9 N.impl_WriteSuper [.v m.e, .v s.e] ⟨(writeSuper m s).e, []⟩ := by
  refine Rn.of fun k hk => ?_
  have hB : Big = 4294967296 := rfl
  rw [impl_WriteSuper_e]; unfold impl_WriteSuper_u
  refine bndO (superOk_i s k (by omega)) ?_
  unfold writeSuper
  cases ho : superOk s
  · exact bif_t rfl (bndO (copyMem_i m (by omega) k (by omega)) rfl)
  refine bif_f rfl (bndO (putSuper_i s hl k (by omega)) ?_)
  have := (putSuper_ok s).2
  exact bndO (writeSec_i m _ _ h (by omega) k (by omega)) rfl
def superNew (id : Int) (g : Geo) (m : Nat) : Super := ⟨id, 0, m, g.N, g.S, 0, -1, 0⟩
def secsNew (id : Int) (g : Geo) (m : Nat) : Nat → List (List Int)
  | 0 => (List.replicate (6 + g.S).toNat []).set 0 (putSuper (superNew id g m))
  | n + 1 => (secsNew id g m n).set (n + 6) [0]
theorem secsNew_len (id : Int) (g : Geo) (m : Nat) : ∀ n, (secsNew id g m n).length = (6 + g.S).toNat
  | 0 => by unfold secsNew; rw [List.length_set, List.length_replicate]
  | n + 1 => by unfold secsNew; rw [List.length_set, secsNew_len id g m n]
def dskNew (id : Int) (g : Geo) (m : Nat) : Dsk := ⟨secsNew id g m g.S.toNat, [], false, []⟩
def arrNew (id : Int) (g : Geo) : Arr := bif geoOk g && within id 1 60000 then ⟨id, g, (List.range g.N.toNat).map (dskNew id g), -1, 0, 0, 0, 0, [], -1, false, false⟩ else ⟨0, ⟨0, 0⟩, [], 0, 0, 0, 0, 0, [], 0, false, false⟩
theorem dataAt_n (n : Nat) (h : n ≤ 100) : dataAt (n : Int) = ((n + 6 : Nat) : Int) := by
  unfold dataAt
  rw [show within (n : Int) 0 1099511627776 = true by unfold within; simp; omega, cond_true]; omega
theorem arrNew_s (id : Int) (g : Geo) : Rn 7 N.spec_ArrNew [.v [.i id], .v g.e] ⟨(arrNew id g).e, []⟩ := by
  refine Rn.of fun k hk => ?_
  have hB : Big = 4294967296 := rfl
  rw [spec_ArrNew_e]; unfold spec_ArrNew_u spec_ArrNew_U
  refine bndO (geoOk_s g k (by omega)) ?_
  unfold arrNew
  cases hg : geoOk g
  · rfl
  refine bif_f rfl (bndO (within_s _ _ _ k (by omega)) ?_)
  cases hw : within id 1 60000
  · rfl
  obtain ⟨g1, g2, g3, g4⟩ := geoOk_t hg
  have hi := within_t hw
  obtain ⟨nN, hN⟩ : ∃ n : Nat, g.N = (n : Int) := ⟨g.N.toNat, by omega⟩
  obtain ⟨nS, hS⟩ : ∃ n : Nat, g.S = (n : Int) := ⟨g.S.toNat, by omega⟩
  unfold spec_ArrNew_J1
  refine bif_f rfl ?_
  refine (fixN_up (R := Outs) nN (fun i => ((i : Int), eMems ((List.range i).map (dskNew id g)))) (fun _ => some ⟨(⟨id, g, (List.range nN).map (dskNew id g), -1, 0, 0, 0, 0, [], -1, false, false⟩ : Arr).e, []⟩) (fun i hi G hG => ?_) (fun G => ?_) (by omega)).trans (by rw [hN, Int.toNat_natCast]; rfl)
  · unfold spec_ArrNew_l1 spec_ArrNew_L1
    simp only []
    rw [decide_eq_true (by omega), cond_true]
    have e1 : Rn 2 N.spec_l6Secs [.v g.e] ⟨[.i (6 + g.S)], []⟩ := by
      refine Rn.of fun k hk => ?_
      rw [spec_l6Secs_e]; unfold spec_l6Secs_u
      rw [wrap_id (by omega) (by omega)]
    refine bndO (e1 k (by omega)) (bndO (memNew_s (6 + g.S) k (by omega)) ?_)
    have hm : memNew (6 + g.S) = ⟨List.replicate (6 + g.S).toNat [], [], false, []⟩ := by
      unfold memNew
      rw [show within (6 + g.S) 1 20 = true by unfold within; simp; omega]; rfl
    rw [hm]
    refine bndO (putSuper_s (superNew id g i) (by unfold inI superNew; simp only; omega) k (by omega)) ?_
    refine (chk_ok (by simp; omega) _).trans ?_
    show fixN (spec_ArrNew_l2 k id g.N g.S ⟨(⟨List.replicate (6 + g.S).toNat [], [], false, []⟩ : Dsk).e, []⟩ (i : Int) (eMems ((List.range i).map (dskNew id g))) G) k (0, put_ (eIss (List.replicate (6 + g.S).toNat [])) 0 0 [.r (eIs (putSuper (superNew id g i)))]) = _
    rw [put_set _ _ _ (by rw [List.length_replicate]; omega)]
    refine fixN_up (R := Outs) nS (fun n => ((n : Int), eIss (secsNew id g i n))) (fun _ => some ⟨(⟨id, g, (List.range nN).map (dskNew id g), -1, 0, 0, 0, 0, [], -1, false, false⟩ : Arr).e, []⟩) (fun n hn G2 hG2 => ?_) (fun G2 => ?_) (by omega)
    · unfold spec_ArrNew_l2 spec_ArrNew_L2
      simp only []
      rw [decide_eq_true (by omega), cond_true]
      refine bndO (dataAt_s n k (by omega)) ?_
      have hl := secsNew_len id g i n
      rw [dataAt_n n (by omega)]
      refine (chk_ok (by simp only [List.length_map, Outs.t_mk, List.getD_cons_zero, T.asI_i, hl]; simp; omega) _).trans ?_
      rw [wrap_up (by omega), ← hG2]
      show G2 (_, put_ (eIss (secsNew id g i n)) ((n + 6 : Nat) : Int).toNat 0 [.r (eIs [0])]) = _
      rw [Int.toNat_natCast, put_set _ _ _ (by omega)]; rfl
    · unfold spec_ArrNew_l2 spec_ArrNew_L2
      simp only []
      rw [decide_eq_false (by omega), cond_false]
      refine (chk_ok (by simp; omega) _).trans ?_
      rw [wrap_up (by omega), ← hG, List.range_succ, List.map_append, eMems, eMems, List.map_append]
      have hd : dskNew id g i = ⟨secsNew id g i nS, [], false, []⟩ := by unfold dskNew; rw [hS, Int.toNat_natCast]
      simp only [List.map_cons, List.map_nil, hd]; rfl
  · unfold spec_ArrNew_l1 spec_ArrNew_L1
    simp only []
    rw [decide_eq_false (by omega), cond_false]; rfl
def stg (id : Int) (g : Geo) (m n : Nat) : Dsk := ⟨List.replicate (6 + g.S).toNat [], ⟨0, putSuper (superNew id g m)⟩ :: (List.range n).map (fun s => ⟨((s + 6 : Nat) : Int), [0]⟩), false, []⟩
theorem stg_ok {id : Int} {g : Geo} (hg : geoOk g = true) {m n : Nat} (hn : (n : Int) ≤ g.S) : memOk (stg id g m n) = true := by
  obtain ⟨g1, g2, g3, g4⟩ := geoOk_t hg
  have hs : ∀ q : Int, 0 ≤ q → q < 6 + g.S → hasSec (stg id g m n) q = true := fun q h0 h1 => by
    unfold hasSec stg within
    simp only [List.length_replicate]
    rw [decide_eq_true h0, decide_eq_true (by omega)]; rfl
  unfold memOk
  simp only [Bool.and_eq_true, List.all_eq_true, decide_eq_true_eq]
  refine ⟨fun x hx => ?_, fun x hx => ?_, ?_, ?_, ?_⟩
  · rw [List.eq_of_mem_replicate hx]; rfl
  · rcases List.mem_cons.1 hx with rfl | hx
    · exact ⟨hs 0 (by omega) (by omega), (putSuper_ok _).1⟩
    · obtain ⟨q, hq, rfl⟩ := List.mem_map.1 hx
      have := List.mem_range.1 hq
      exact ⟨hs _ (by simp only; omega) (by simp only; omega), rfl⟩
  · exact allN_iff.2 fun i hi => by simp [stg] at hi
  · unfold stg within
    simp only [List.length_replicate]
    rw [decide_eq_true (by omega), decide_eq_true (by omega)]; rfl
  · simp [stg]; omega
theorem stg_next {id : Int} {g : Geo} (hg : geoOk g = true) {m n : Nat} (hn : (n : Int) < g.S) : writeSec (stg id g m n) ((n + 6 : Nat) : Int) [0] = (stg id g m (n + 1), true) := by
  obtain ⟨g1, g2, g3, g4⟩ := geoOk_t hg
  unfold writeSec
  rw [stg_ok hg (by omega)]
  have h1 : hasSec (stg id g m n) ((n + 6 : Nat) : Int) = true := by
    unfold hasSec stg within
    simp only [List.length_replicate]
    rw [decide_eq_true (by omega), decide_eq_true (by omega)]; rfl
  rw [h1, show decide ((stg id g m n).Cache.length < 60) = true by simp [stg]; omega]
  show (({ stg id g m n with Cache := _, Bad := _ } : Dsk), true) = _
  unfold stg
  simp [List.range_succ, without]
theorem stg_lay {id : Int} {g : Geo} {m : Nat} : ∀ n : Nat, layAll (List.replicate (6 + g.S).toNat []) (stg id g m n).Cache = secsNew id g m n
  | 0 => rfl
  | n + 1 => by
    have ih := stg_lay (id := id) (g := g) (m := m) n
    have e : (stg id g m (n + 1)).Cache = (stg id g m n).Cache ++ [⟨((n + 6 : Nat) : Int), [0]⟩] := by unfold stg; simp [List.range_succ]
    rw [e]
    unfold layAll at ih ⊢
    rw [List.foldl_append, ih]
    show (secsNew id g m n).set ((n + 6 : Nat) : Int).toNat [0] = _
    rw [Int.toNat_natCast]; rfl
theorem stg_flush {id : Int} {g : Geo} (hg : geoOk g = true) {m : Nat} : flushMem (stg id g m g.S.toNat) = dskNew id g m := by
  obtain ⟨g1, g2, g3, g4⟩ := geoOk_t hg
  unfold flushMem
  rw [stg_ok hg (by omega)]
  show (⟨layAll (List.replicate (6 + g.S).toNat []) (stg id g m g.S.toNat).Cache, [], false, []⟩ : Dsk) = _
  rw [stg_lay]; rfl
theorem stg_first {id : Int} {g : Geo} (hg : geoOk g = true) (hi : within id 1 60000 = true) {m : Nat} (hm : (m : Int) < g.N) : writeSuper (memNew (6 + g.S)) (superNew id g m) = stg id g m 0 := by
  obtain ⟨g1, g2, g3, g4⟩ := geoOk_t hg
  have hs : superOk (superNew id g m) = true := by
    unfold superOk superNew lostOk
    simp only [hi, show (⟨g.N, g.S⟩ : Geo) = g from rfl, hg]
    unfold within
    simp
    omega
  have hmn : memNew (6 + g.S) = ⟨List.replicate (6 + g.S).toNat [], [], false, []⟩ := by
    unfold memNew
    rw [show within (6 + g.S) 1 20 = true by unfold within; simp; omega]; rfl
  have hok : memOk ⟨List.replicate (6 + g.S).toNat [], [], false, []⟩ = true := by
    unfold memOk
    simp only [Bool.and_eq_true, List.all_eq_true, decide_eq_true_eq]
    refine ⟨fun x hx => ?_, fun x hx => by simp at hx, allN_iff.2 fun i hi => by simp at hi, ?_, by simp⟩
    · rw [List.eq_of_mem_replicate hx]; rfl
    · unfold within
      simp only [List.length_replicate]
      rw [decide_eq_true (by omega), decide_eq_true (by omega)]; rfl
  unfold writeSuper writeSec
  rw [hs, hmn, hok, (putSuper_ok _).1]
  have h0 : hasSec ⟨List.replicate (6 + g.S).toNat [], [], false, []⟩ (Int.tmod (superNew id g m).Gen 2) = true := by
    show hasSec _ (Int.tmod 0 2) = true
    unfold hasSec within
    simp only [List.length_replicate]
    rw [show Int.tmod 0 2 = 0 from rfl, decide_eq_true (by omega), decide_eq_true (by omega)]; rfl
  rw [h0]; rfl
theorem stg_w {id : Int} {g : Geo} (hg : geoOk g = true) {m n : Nat} (hn : (n : Int) ≤ g.S) : (stg id g m n).w ≤ 100 := by
  obtain ⟨g1, g2, g3, g4⟩ := geoOk_t hg
  have h1 : ∀ q : Nat, wL List.length (List.replicate q ([] : List Int)) = q := fun q => by
    induction q with
    | zero => rfl
    | succ q ih => rw [List.replicate_succ, wL_cons, ih, List.length_nil]; omega
  have h2 : ∀ q : Nat, wL Wr.w ((List.range q).map (fun s => (⟨((s + 6 : Nat) : Int), [0]⟩ : Wr))) = 2 * q := fun q => by
    induction q with
    | zero => rfl
    | succ q ih =>
      rw [List.range_succ, List.map_append, wL_append, ih]
      show 2 * q + wL Wr.w [(⟨((q + 6 : Nat) : Int), [0]⟩ : Wr)] = _
      rw [wL_cons, wL_nil]
      have : (⟨((q + 6 : Nat) : Int), [0]⟩ : Wr).w = 1 := rfl
      omega
  have h3 := (putSuper_ok (superNew id g m)).2
  have h4 : (⟨0, putSuper (superNew id g m)⟩ : Wr).w = (putSuper (superNew id g m)).length := rfl
  show wL List.length (List.replicate (6 + g.S).toNat ([] : List Int)) + wL Wr.w ((⟨0, putSuper (superNew id g m)⟩ : Wr) :: (List.range n).map (fun s => (⟨((s + 6 : Nat) : Int), [0]⟩ : Wr))) + 0 ≤ 100
  rw [h1, wL_cons, h2]
  omega
theorem arrNew_i (id : Int) (g : Geo) : Rn 11 N.impl_ArrNew [.v [.i id], .v g.e] ⟨(arrNew id g).e, []⟩ := by
  refine Rn.of fun k hk => ?_
  have hB : Big = 4294967296 := rfl
  rw [impl_ArrNew_e]; unfold impl_ArrNew_u impl_ArrNew_U
  refine bndO (geoOk_i g k (by omega)) ?_
  unfold arrNew
  cases hg : geoOk g
  · rfl
  refine bif_f rfl (bndO (within_i _ _ _ k (by omega)) ?_)
  cases hw : within id 1 60000
  · rfl
  obtain ⟨g1, g2, g3, g4⟩ := geoOk_t hg
  have hi := within_t hw
  obtain ⟨nN, hN⟩ : ∃ n : Nat, g.N = (n : Int) := ⟨g.N.toNat, by omega⟩
  obtain ⟨nS, hS⟩ : ∃ n : Nat, g.S = (n : Int) := ⟨g.S.toNat, by omega⟩
  unfold impl_ArrNew_J1
  refine bif_f rfl ?_
  refine (fixN_up (R := Outs) nN (fun i => ((i : Int), eMems ((List.range i).map (dskNew id g)))) (fun _ => some ⟨(⟨id, g, (List.range nN).map (dskNew id g), -1, 0, 0, 0, 0, [], -1, false, false⟩ : Arr).e, []⟩) (fun i hi G hG => ?_) (fun G => ?_) (by omega)).trans (by rw [hN, Int.toNat_natCast]; rfl)
  · unfold impl_ArrNew_l1 impl_ArrNew_L1
    simp only []
    rw [decide_eq_true (by omega), cond_true]
    have e1 : Rn 2 N.impl_sectors [.v g.e] ⟨[.i (6 + g.S)], []⟩ := by
      refine Rn.of fun k hk => ?_
      rw [impl_sectors_e]; unfold impl_sectors_u
      rw [wrap_id (by omega) (by omega)]
    have e2 : Rn 2 N.impl_superOf [.v (⟨id, g, (List.range i).map (dskNew id g), -1, 0, 0, 0, 0, [], -1, false, false⟩ : Arr).e, .v [.i (i : Int)]] ⟨(superNew id g i).e, []⟩ := by
      refine Rn.of fun k hk => ?_
      rw [impl_superOf_e]; rfl
    have hmw : (memNew (6 + g.S)).w ≤ 100 := by
      unfold memNew
      cases within (6 + g.S) 1 20
      · exact Nat.zero_le _
      · have h1 : ∀ q : Nat, wL List.length (List.replicate q ([] : List Int)) = q := fun q => by
          induction q with
          | zero => rfl
          | succ q ih => rw [List.replicate_succ, wL_cons, ih, List.length_nil]; omega
        show wL List.length (List.replicate (6 + g.S).toNat ([] : List Int)) + 0 + 0 ≤ 100
        rw [h1]; omega
    have e3 := writeSuper_i (memNew (6 + g.S)) (superNew id g i) (by unfold inI superNew; simp only; omega) (by omega)
    rw [stg_first hg hw (by omega)] at e3
    refine bndO (e1 k (by omega)) (bndO (memNew_i (6 + g.S) k (by omega)) (bndO (e2 k (by omega)) (bndO (e3 k (by omega)) ?_)))
    show fixN (impl_ArrNew_l2 k id g.N g.S (i : Int) (eMems ((List.range i).map (dskNew id g))) G) k (0, (stg id g i 0).Failed, eIss (stg id g i 0).Secs, eWrs (stg id g i 0).Cache, eIs (stg id g i 0).Bad) = _
    refine fixN_up (R := Outs) nS (fun n => ((n : Int), (stg id g i n).Failed, eIss (stg id g i n).Secs, eWrs (stg id g i n).Cache, eIs (stg id g i n).Bad)) (fun _ => some ⟨(⟨id, g, (List.range nN).map (dskNew id g), -1, 0, 0, 0, 0, [], -1, false, false⟩ : Arr).e, []⟩) (fun n hn G2 hG2 => ?_) (fun G2 => ?_) (by omega)
    · unfold impl_ArrNew_l2 impl_ArrNew_L2
      simp only []
      rw [decide_eq_true (by omega), cond_true]
      refine bndO (dataAt_i n k (by omega)) ?_
      have hww := stg_w (id := id) (m := i) hg (show (n : Int) ≤ g.S by omega)
      have e4 := writeSec_i (stg id g i n) ((n + 6 : Nat) : Int) [0] (by omega) (by simp; omega)
      rw [stg_next hg (by omega)] at e4
      rw [dataAt_n n (by omega)]
      refine bndO (e4 k (by omega)) ?_
      rw [wrap_up (by omega), ← hG2]; rfl
    · unfold impl_ArrNew_l2 impl_ArrNew_L2
      simp only []
      rw [decide_eq_false (by omega), cond_false]
      have hww := stg_w (id := id) (m := i) hg (show (nS : Int) ≤ g.S by omega)
      have e5 := flushMem_i (stg id g i nS) (by omega)
      have hfl := stg_flush (id := id) (m := i) hg
      rw [hS, Int.toNat_natCast] at hfl
      rw [hfl] at e5
      refine bndO (e5 k (by omega)) ((chk_ok (by simp; omega) _).trans ?_)
      rw [wrap_up (by omega), ← hG, List.range_succ, List.map_append, eMems, eMems, List.map_append]; rfl
  · unfold impl_ArrNew_l1 impl_ArrNew_L1
    simp only []
    rw [decide_eq_false (by omega), cond_false]; rfl
def engNew (id : Int) (g : Geo) : Eng := ⟨arrNew id g, [], [], [], []⟩
theorem engNew_i (id : Int) (g : Geo) : Rn 12 N.impl_EngNew [.v [.i id], .v g.e] ⟨(engNew id g).e, []⟩ := by
  refine Rn.of fun k hk => ?_
  rw [impl_EngNew_e]; unfold impl_EngNew_u
  exact bndO (arrNew_i id g k (by omega)) rfl
theorem engNew_s (id : Int) (g : Geo) : Rn 8 N.spec_EngNew [.v [.i id], .v g.e] ⟨(engNew id g).e, []⟩ := by
  refine Rn.of fun k hk => ?_
  rw [spec_EngNew_e]; unfold spec_EngNew_u
  exact bndO (arrNew_s id g k (by omega)) rfl
theorem secsNew_w {id : Int} {g : Geo} (hg : geoOk g = true) {m : Nat} : ∀ n : Nat, wL List.length (secsNew id g m n) ≤ 100 + n := fun n => by
  have hset : ∀ (l : List (List Int)) (i : Nat) (s : List Int), wL List.length (l.set i s) ≤ wL List.length l + s.length := fun l => by
    induction l with
    | nil => intro i s; simp [wL]
    | cons x l ih =>
      intro i s
      cases i with
      | zero => rw [List.set_cons_zero, wL_cons, wL_cons]; omega
      | succ i => rw [List.set_cons_succ, wL_cons, wL_cons]; have := ih i s; omega
  induction n with
  | zero =>
    obtain ⟨g1, g2, g3, g4⟩ := geoOk_t hg
    have h1 : ∀ q : Nat, wL List.length (List.replicate q ([] : List Int)) = q := fun q => by
      induction q with
      | zero => rfl
      | succ q ih => rw [List.replicate_succ, wL_cons, ih, List.length_nil]; omega
    unfold secsNew
    have := hset (List.replicate (6 + g.S).toNat []) 0 (putSuper (superNew id g m))
    rw [h1] at this
    have h3 := (putSuper_ok (superNew id g m)).2
    omega
  | succ n ih =>
    unfold secsNew
    have := hset (secsNew id g m n) (n + 6) [0]
    simp only [List.length_cons, List.length_nil] at this
    omega
theorem engNew_w (id : Int) (g : Geo) : (engNew id g).w ≤ 1000 := by
  show (arrNew id g).w + 0 + 0 + 0 + 0 ≤ 1000
  unfold arrNew
  cases hb : geoOk g && within id 1 60000
  · exact Nat.zero_le _
  · obtain ⟨hg, _⟩ := and_some hb
    obtain ⟨g1, g2, g3, g4⟩ := geoOk_t hg
    have h1 : ∀ q : Nat, wL Dsk.w ((List.range q).map (dskNew id g)) ≤ 120 * q := fun q => by
      induction q with
      | zero => exact Nat.zero_le _
      | succ q ih =>
        rw [List.range_succ, List.map_append, wL_append]
        show wL Dsk.w ((List.range q).map (dskNew id g)) + wL Dsk.w [dskNew id g q] ≤ _
        rw [wL_cons, wL_nil]
        have h2 : (dskNew id g q).w = wL List.length (secsNew id g q g.S.toNat) + 0 + 0 := rfl
        have h3 := secsNew_w (id := id) (m := q) hg g.S.toNat
        omega
    have := h1 g.N.toNat
    show wL Dsk.w ((List.range g.N.toNat).map (dskNew id g)) + 0 + 0 + 0 + 0 + 0 ≤ 1000
    omega
theorem FnExactEngNew_r (id : Int) (hi : inI id) (g : Geo) (hg : g.Fit) : Rn 20 N.laws_FnExactEngNew [.v [.i id], .v g.e] ⟨[.b true], []⟩ := by
  refine Rn.of fun k hk => ?_
  have hB : Big = 4294967296 := rfl
  rw [laws_FnExactEngNew_e]; unfold laws_FnExactEngNew_u
  have t1 : evalF E P0 k N.laws_toGeo [.v g.e] = some ⟨g.e, []⟩ := toGeo_r g k (by omega)
  have t3 := engNew_s id g k (by omega)
  have t4 := engNew_i id g k (by omega)
  have wy := engNew_w id g
  generalize engNew id g = y at *
  have t5 := eqEng_R y (by omega) k (by omega)
  have c2 := Eng.cn_w y (W := 1000) (by omega)
  have ta := markEng_r y 1 (by omega) (by omega) (by omega) k (by omega)
  have tb := heldEng_r y 1 (by omega) (by omega) (by omega) k (by omega)
  have hneg : decide ((1 + (y.cn : Nat) : Int) < 0) = false := decide_eq_false (by omega)
  have hne : ((1 + (y.cn : Nat) : Int) != 1 + (y.cn : Nat)) = false := by simp
  refine bndO t1 (bndO t3 (bndO t1 (bndO t4 (bndO t5 (bif_f rfl ?_)))))
  refine bndO ta (bndO tb (bif_f hneg (bif_f hne ?_)))
  refine bndO t1 (bndO t4 (bndO t5 (bif_f rfl ?_)))
  exact bndO tb (bif_f hneg (bif_f hne rfl))
end
end Go.Proofs.Ytjgmiilapnekfaa.Ev
