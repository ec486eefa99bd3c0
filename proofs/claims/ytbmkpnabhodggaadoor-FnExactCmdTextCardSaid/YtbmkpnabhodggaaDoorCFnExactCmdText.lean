/- What FnExactCmdText needs, in plain Lean. No condition. -/
import Derived.Test.YtbmkpnabhodggaaDoorCeFnExactCmdText0
namespace Go.Proofs.YtbmkpnabhodggaaDoor.Ev
open Go
set_option linter.unusedVariables false
set_option linter.unusedSimpArgs false
set_option maxHeartbeats 1000000
noncomputable section
structure Geo where
  N : Int
  S : Int
deriving DecidableEq, Inhabited
structure Wr where
  N : Int
  S : List Int
deriving DecidableEq, Inhabited
structure Dsk where
  Secs : List (List Int)
  Cache : List Wr
  Failed : Bool
  Bad : List Int
deriving DecidableEq, Inhabited
structure Super where
  Id : Int
  Gen : Int
  Role : Int
  N : Int
  S : Int
  Tail : Int
  Lost : Int
  Built : Int
deriving DecidableEq, Inhabited
structure Rec where
  Seq : Int
  Stripe : Int
  Data : List Int
deriving DecidableEq, Inhabited
structure Ent where
  Stripe : Int
  Data : List Int
deriving DecidableEq, Inhabited
structure Arr where
  Id : Int
  G : Geo
  Mems : List Dsk
  Lost : Int
  Built : Int
  Seq : Int
  Tail : Int
  Gen : Int
  Dirty : List Ent
  Fuse : Int
  Down : Bool
  Broken : Bool
deriving DecidableEq, Inhabited
structure Cmd where
  Op : Int
  Id : Int
  Lba : Int
  N : Int
  Vals : List Int
deriving DecidableEq, Inhabited
structure Job where
  C : Cmd
  At : Int
  Got : List Int
  Code : Int
deriving DecidableEq, Inhabited
structure Ans where
  Id : Int
  Code : Int
  Vals : List Int
deriving DecidableEq, Inhabited
structure Turn where
  C : Cmd
  A : Ans
deriving DecidableEq, Inhabited
structure Eng where
  A : Arr
  Wait : List Cmd
  Jobs : List Job
  Done : List Ans
  Log : List Turn
deriving DecidableEq, Inhabited
structure Event where
  Kind : Int
  C : Cmd
  K : Int
  S : Int
  Keeps : List Int
deriving DecidableEq, Inhabited
abbrev eIs (l : List Int) : List (List T) := l.map fun n => [.i n]
abbrev eIss (l : List (List Int)) : List (List T) := l.map fun s => [.r (eIs s)]
abbrev Geo.e (g : Geo) : List T := [.i g.N, .i g.S]
abbrev Wr.e (x : Wr) : List T := [.i x.N, .r (eIs x.S)]
abbrev eWrs (l : List Wr) : List (List T) := l.map Wr.e
abbrev Dsk.e (m : Dsk) : List T := [.r (eIss m.Secs), .r (eWrs m.Cache), .b m.Failed, .r (eIs m.Bad)]
abbrev eMems (l : List Dsk) : List (List T) := l.map Dsk.e
abbrev Super.e (x : Super) : List T := [.i x.Id, .i x.Gen, .i x.Role, .i x.N, .i x.S, .i x.Tail, .i x.Lost, .i x.Built]
abbrev Rec.e (x : Rec) : List T := [.i x.Seq, .i x.Stripe, .r (eIs x.Data)]
abbrev Ent.e (x : Ent) : List T := [.i x.Stripe, .r (eIs x.Data)]
abbrev eEnts (l : List Ent) : List (List T) := l.map Ent.e
abbrev Arr.e (a : Arr) : List T := [.i a.Id, .i a.G.N, .i a.G.S, .r (eMems a.Mems), .i a.Lost, .i a.Built, .i a.Seq, .i a.Tail, .i a.Gen, .r (eEnts a.Dirty), .i a.Fuse, .b a.Down, .b a.Broken]
abbrev Cmd.e (c : Cmd) : List T := [.i c.Op, .i c.Id, .i c.Lba, .i c.N, .r (eIs c.Vals)]
abbrev eCmds (l : List Cmd) : List (List T) := l.map Cmd.e
abbrev Job.e (j : Job) : List T := [.i j.C.Op, .i j.C.Id, .i j.C.Lba, .i j.C.N, .r (eIs j.C.Vals), .i j.At, .r (eIs j.Got), .i j.Code]
abbrev eJobs (l : List Job) : List (List T) := l.map Job.e
abbrev Ans.e (x : Ans) : List T := [.i x.Id, .i x.Code, .r (eIs x.Vals)]
abbrev eAnss (l : List Ans) : List (List T) := l.map Ans.e
abbrev Turn.e (t : Turn) : List T := [.i t.C.Op, .i t.C.Id, .i t.C.Lba, .i t.C.N, .r (eIs t.C.Vals), .i t.A.Id, .i t.A.Code, .r (eIs t.A.Vals)]
abbrev eTurns (l : List Turn) : List (List T) := l.map Turn.e
abbrev Eng.e (x : Eng) : List T := [.i x.A.Id, .i x.A.G.N, .i x.A.G.S, .r (eMems x.A.Mems), .i x.A.Lost, .i x.A.Built, .i x.A.Seq, .i x.A.Tail, .i x.A.Gen, .r (eEnts x.A.Dirty), .i x.A.Fuse, .b x.A.Down, .b x.A.Broken, .r (eCmds x.Wait), .r (eJobs x.Jobs), .r (eAnss x.Done), .r (eTurns x.Log)]
abbrev Event.e (v : Event) : List T := [.i v.Kind, .i v.C.Op, .i v.C.Id, .i v.C.Lba, .i v.C.N, .r (eIs v.C.Vals), .i v.K, .i v.S, .r (eIs v.Keeps)]
def wL {α : Type} (w : α → Nat) (l : List α) : Nat := l.length + (l.map w).sum
def Wr.w (x : Wr) : Nat := x.S.length
def Dsk.w (m : Dsk) : Nat := wL List.length m.Secs + wL Wr.w m.Cache + m.Bad.length
def Ent.w (x : Ent) : Nat := x.Data.length
def Arr.w (a : Arr) : Nat := wL Dsk.w a.Mems + wL Ent.w a.Dirty
def Cmd.w (c : Cmd) : Nat := c.Vals.length
def Ans.w (x : Ans) : Nat := x.Vals.length
def Job.w (j : Job) : Nat := j.C.w + j.Got.length
def Turn.w (t : Turn) : Nat := t.C.w + t.A.w
def Eng.w (x : Eng) : Nat := x.A.w + wL Cmd.w x.Wait + wL Job.w x.Jobs + wL Ans.w x.Done + wL Turn.w x.Log
def Event.w (v : Event) : Nat := v.C.w + v.Keeps.length
theorem wrap_id {n : Int} (h0 : -9223372036854775808 ≤ n) (h1 : n ≤ 9223372036854775807) : IntKind.wrap .i64 n = n := by
  unfold IntKind.wrap IntKind.signed IntKind.bits
  simp
  omega
theorem wrap_up {i : Nat} (h : i ≤ 1099511627776) : IntKind.wrap .i64 ((i : Int) + 1) = ((i + 1 : Nat) : Int) := by
  rw [wrap_id (by omega) (by omega)]; omega
def Big : Nat := 4294967296
def Rn (d : Nat) (f : FuncId) (ins : List Arg) (o : Outs) : Prop := ∀ k, Big + d ≤ k → evalF E P0 k f ins = some o
theorem Rn.of {d : Nat} {f : FuncId} {ins : List Arg} {o : Outs} (h : ∀ k, Big + d ≤ k → evalF E P0 (k + 1) f ins = some o) : Rn (d + 1) f ins o := by
  intro k hk
  obtain ⟨k, rfl⟩ : ∃ m, k = m + 1 := ⟨k - 1, by omega⟩
  exact h k (by omega)
theorem bindO_some {R : Type} (o : Outs) (k : Outs → Option R) : bindO (some o) k = k o := rfl
theorem chk_true {R : Type} (x : Option R) : chk true x = x := rfl
theorem chk_ok {R : Type} {c : Bool} (h : c = true) (x : Option R) : chk c x = x := by subst h; rfl
@[simp] theorem Outs.t_mk (l : List T) (v : List (List T)) (j : Nat) : Outs.t ⟨l, v⟩ j = l.getD j (.i 0) := rfl
@[simp] theorem T.asI_i (n : Int) : (T.i n).asI = n := rfl
@[simp] theorem T.asB_b (x : Bool) : (T.b x).asB = x := rfl
@[simp] theorem T.asS_s (x : ByteArray) : (T.s x).asS = x := rfl
@[simp] theorem T.asR_r (x : List (List T)) : (T.r x).asR = x := rfl
theorem at_map {α : Type} (f : α → List T) {l : List α} {i : Nat} (h : i < l.length) (j : Nat) : at_ (l.map f) i j = (f l[i]).getD j (.i 0) := by
  unfold at_
  simp [List.getD_eq_getElem?_getD, h]
theorem fixN_up {V R : Type} {b : (V → Option R) → V → Option R} (n : Nat) (st : Nat → V) (ans : Nat → Option R)
    (h : ∀ i, i < n → ∀ G, G (st (i + 1)) = ans (i + 1) → b G (st i) = ans i) (he : ∀ G, b G (st n) = ans n) {j : Nat} (hj : n < j) : fixN b j (st 0) = ans 0 := by
  have : ∀ d i j, i + d = n → d < j → fixN b j (st i) = ans i := by
    intro d
    induction d with
    | zero =>
      intro i j hi hj
      obtain ⟨j, rfl⟩ : ∃ m, j = m + 1 := ⟨j - 1, by omega⟩
      obtain rfl : i = n := by omega
      exact he _
    | succ d ih =>
      intro i j hi hj
      obtain ⟨j, rfl⟩ : ∃ m, j = m + 1 := ⟨j - 1, by omega⟩
      exact h i (by omega) _ (ih (i + 1) j (by omega) (by omega))
  exact this n 0 j (by omega) hj
def inI (n : Int) : Prop := -9223372036854775808 ≤ n ∧ n ≤ 9223372036854775807
def LF {α : Type} (p : α → Prop) (l : List α) : Prop := l.length ≤ maxLen ∧ ∀ x ∈ l, p x
def Geo.Fit (x : Geo) : Prop := inI x.N ∧ inI x.S
def Wr.Fit (x : Wr) : Prop := inI x.N ∧ LF inI x.S
def Dsk.Fit (x : Dsk) : Prop := LF (LF inI) x.Secs ∧ LF Wr.Fit x.Cache ∧ True ∧ LF inI x.Bad
def Super.Fit (x : Super) : Prop := inI x.Id ∧ inI x.Gen ∧ inI x.Role ∧ inI x.N ∧ inI x.S ∧ inI x.Tail ∧ inI x.Lost ∧ inI x.Built
def Rec.Fit (x : Rec) : Prop := inI x.Seq ∧ inI x.Stripe ∧ LF inI x.Data
def Ent.Fit (x : Ent) : Prop := inI x.Stripe ∧ LF inI x.Data
def Arr.Fit (x : Arr) : Prop := inI x.Id ∧ x.G.Fit ∧ LF Dsk.Fit x.Mems ∧ inI x.Lost ∧ inI x.Built ∧ inI x.Seq ∧ inI x.Tail ∧ inI x.Gen ∧ LF Ent.Fit x.Dirty ∧ inI x.Fuse ∧ True ∧ True
def Cmd.Fit (x : Cmd) : Prop := inI x.Op ∧ inI x.Id ∧ inI x.Lba ∧ inI x.N ∧ LF inI x.Vals
def Job.Fit (x : Job) : Prop := x.C.Fit ∧ inI x.At ∧ LF inI x.Got ∧ inI x.Code
def Ans.Fit (x : Ans) : Prop := inI x.Id ∧ inI x.Code ∧ LF inI x.Vals
def Turn.Fit (x : Turn) : Prop := x.C.Fit ∧ x.A.Fit
def Eng.Fit (x : Eng) : Prop := x.A.Fit ∧ LF Cmd.Fit x.Wait ∧ LF Job.Fit x.Jobs ∧ LF Ans.Fit x.Done ∧ LF Turn.Fit x.Log
def Event.Fit (x : Event) : Prop := inI x.Kind ∧ x.C.Fit ∧ inI x.K ∧ inI x.S ∧ LF inI x.Keeps
def szA (w : Nat) (a : Int) : Int := if a < (w : Int) then -1 else a - w
theorem szA_neg {w : Nat} {a : Int} (h : a < (w : Int)) : szA w a = -1 := if_pos h
theorem szA_pos {w : Nat} {a : Int} (h : (w : Int) ≤ a) : szA w a = a - w := if_neg (by omega)
theorem sz_step {W W' : Nat} {a : Int} (h : W ≤ W') {F : Option Outs} (h0 : 0 ≤ a) (hF : (W : Int) ≤ a → F = some ⟨[.i (szA W' a)], []⟩) : (bif decide (szA W a < 0) then some ⟨[.i (-1)], []⟩ else F) = some ⟨[.i (szA W' a)], []⟩ := by
  by_cases g : (W : Int) ≤ a
  · rw [szA_pos g, decide_eq_false (by omega)]; exact hF g
  · rw [szA_neg (by omega), szA_neg (w := W') (by omega)]; rfl
theorem dlt {i n : Nat} (h : i < n) : decide ((i : Int) < (n : Int)) = true := decide_eq_true (by omega)
theorem dll {n : Nat} : decide ((n : Int) < (n : Int)) = false := decide_eq_false (by omega)
theorem d0 {n : Nat} : decide (0 ≤ (n : Int)) = true := decide_eq_true (by omega)
theorem put_fill {α : Type} (enc : α → List T) (l : List α) (z : List T) {i : Nat} (hi : i < l.length) {ts : List T} (ht : ts = enc l[i]) (hz : z.length = ts.length) :
    put_ ((l.take i).map enc ++ List.replicate (l.length - i) z) i 0 ts = (l.take (i + 1)).map enc ++ List.replicate (l.length - (i + 1)) z := by
  unfold put_
  have e1 : ((l.take i).map enc ++ List.replicate (l.length - i) z).getD i [] = z := by
    rw [List.getD_eq_getElem?_getD, List.getElem?_append_right (by simp; omega), List.length_map, List.length_take, Nat.min_eq_left (by omega), Nat.sub_self]
    rw [List.getElem?_replicate, if_pos (by omega)]; rfl
  rw [e1]
  have e2 : spliceT z 0 ts = ts := by
    cases z <;> simp only [spliceT] <;> rw [List.drop_eq_nil_of_le (by rw [← hz]; exact Nat.le_refl _), List.append_nil]
  rw [e2, List.set_append_right _ _ (by simp; omega), List.length_map, List.length_take, Nat.min_eq_left (by omega), Nat.sub_self]
  rw [List.take_succ_eq_append_getElem hi, List.map_append, List.append_assoc, show l.length - i = (l.length - (i + 1)) + 1 by omega, List.replicate_succ, List.set_cons_zero, ht]
  rfl
theorem to_loop {α : Type} (enc : α → List T) (l : List α) (z : List T) {b : (Int × List (List T) → Option Outs) → Int × List (List T) → Option Outs} (hl : l.length ≤ 1048576)
    (h : ∀ (i : Nat) (hi : i < l.length) (q : List (List T)), q.length = l.length → ∀ G, b G ((i : Int), q) = G (IntKind.wrap .i64 ((i : Int) + 1), put_ q i 0 (enc l[i])))
    (hz : ∀ x ∈ l, z.length = (enc x).length) (he : ∀ q G, b G ((l.length : Int), q) = some ⟨[.r q], []⟩) {j : Nat} (hj : Big ≤ j) : fixN b j (0, List.replicate l.length z) = some ⟨[.r (l.map enc)], []⟩ := by
  have := fixN_up (b := b) l.length (fun i => ((i : Int), (l.take i).map enc ++ List.replicate (l.length - i) z)) (fun _ => some ⟨[.r (l.map enc)], []⟩) ?_ ?_ (j := j) (by unfold Big at hj; omega)
  · simpa using this
  · intro i hi G hG
    rw [h i hi _ (by simp; omega), wrap_up (by omega), put_fill enc l z hi rfl (hz _ (List.getElem_mem hi))]
    exact hG
  · intro G
    rw [he]; simp
theorem eq_loop (n : Nat) {b : (Int → Option Outs) → Int → Option Outs} (hl : n ≤ 2147483648)
    (h : ∀ (i : Nat), i < n → ∀ G, b G (i : Int) = G (IntKind.wrap .i64 ((i : Int) + 1))) (he : ∀ G, b G (n : Int) = some ⟨[.b true], []⟩) {j : Nat} (hj : Big ≤ j) : fixN b j 0 = some ⟨[.b true], []⟩ := by
  refine fixN_up (b := b) n (fun i => (i : Int)) (fun _ => some ⟨[.b true], []⟩) (fun i hi G hG => ?_) he (j := j) (by unfold Big at hj; omega)
  rw [h i hi, wrap_up (by omega)]; exact hG
theorem szIntS_r (x : List Int) (hx : LF inI x) (a : Int) (h0 : 0 ≤ a) (h1 : a ≤ 1048576) : Rn 1 N.laws_szIntS [.v [.r (eIs x)], .v [.i a]] ⟨[.i (szA (x.length) a)], []⟩ := by
  refine Rn.of fun k hk => ?_
  rw [laws_szIntS_e]; unfold laws_szIntS_u
  have hl := hx.1
  unfold maxLen at hl
  rw [List.length_map, wrap_id (by omega) (by omega)]
  by_cases g : a < (x.length : Int)
  · rw [decide_eq_true (by omega), szA_neg g]; rfl
  · rw [decide_eq_false (by omega), szA_pos (by omega)]; rfl
theorem toIntS_r (x : List Int) (hx : x.length ≤ 1048576) : Rn 1 N.laws_toIntS [.v [.r (eIs x)]] ⟨[.r (eIs x)], []⟩ := by
  refine Rn.of fun k hk => ?_
  rw [laws_toIntS_e]; unfold laws_toIntS_u
  unfold laws_toIntS_U
  rw [List.length_map, chk_ok (by simp; omega)]
  rw [Int.toNat_natCast]
  refine to_loop (fun n => [.i n]) x _ (by omega) (fun i hi q hq G => ?_) (fun y hy => rfl) (fun q G => ?_) (by omega)
  · unfold laws_toIntS_l1 laws_toIntS_L1
    simp only [List.length_map, at_map _ hi, dlt hi, hq, d0, Bool.and_self, chk_true, Outs.t_mk, List.getD_cons_zero, List.getD_cons_succ, T.asI_i, T.asB_b, T.asR_r, Int.toNat_natCast, bindO_some, Bool.not_true, cond_false, cond_true, Bool.not_false]
  · unfold laws_toIntS_l1 laws_toIntS_L1
    simp only [List.length_map, dll, cond_false]
theorem eqIntS_R (x : List Int) (hx : x.length ≤ 2147483648) : Rn 1 N.laws_eqIntS [.v [.r (eIs x)], .v [.r (eIs x)]] ⟨[.b true], []⟩ := by
  refine Rn.of fun k hk => ?_
  rw [laws_eqIntS_e]; unfold laws_eqIntS_u
  unfold laws_eqIntS_U
  simp only [bne_self_eq_false, cond_false]
  refine eq_loop x.length (by omega) (fun i hi G => ?_) (fun G => ?_) (by omega)
  · unfold laws_eqIntS_l1 laws_eqIntS_L1
    simp only [List.length_map, at_map _ hi, dlt hi, bne_self_eq_false, d0, Bool.and_self, chk_true, Outs.t_mk, List.getD_cons_zero, List.getD_cons_succ, T.asI_i, T.asB_b, T.asR_r, Int.toNat_natCast, bindO_some, Bool.not_true, cond_false, cond_true, Bool.not_false]
  · unfold laws_eqIntS_l1 laws_eqIntS_L1
    simp only [List.length_map, dll, cond_false]
theorem szCmd_r (x : Cmd) (hx : x.Fit) (a : Int) (h0 : 0 ≤ a) (h1 : a ≤ 1048576) : Rn 2 N.laws_szCmd [.v x.e, .v [.i a]] ⟨[.i (szA (x.w) a)], []⟩ := by
  refine Rn.of fun k hk => ?_
  rw [laws_szCmd_e]; unfold laws_szCmd_u
  rw [szIntS_r x.Vals (hx.2.2.2.2) a h0 h1 k (by omega)]
  simp only [d0, Bool.and_self, chk_true, Outs.t_mk, List.getD_cons_zero, List.getD_cons_succ, T.asI_i, T.asB_b, T.asR_r, Int.toNat_natCast, bindO_some, Bool.not_true, cond_false, cond_true, Bool.not_false]
  refine sz_step (W := x.Vals.length) (by unfold Cmd.w; omega) h0 fun g1 => ?_
  rfl
theorem toCmd_r (x : Cmd) (hx : x.w ≤ 1048576) : Rn 2 N.laws_toCmd [.v x.e] ⟨x.e, []⟩ := by
  refine Rn.of fun k hk => ?_
  rw [laws_toCmd_e]; unfold laws_toCmd_u
  unfold Cmd.w at hx
  rw [toIntS_r x.Vals (by omega) k (by omega)]
  rfl
theorem eqCmd_R (x : Cmd) (hx : x.w ≤ 2147483648) : Rn 2 N.laws_eqCmd [.v x.e, .v x.e] ⟨[.b true], []⟩ := by
  refine Rn.of fun k hk => ?_
  rw [laws_eqCmd_e]; unfold laws_eqCmd_u
  unfold Cmd.w at hx
  try simp only [bne_self_eq_false, cond_false, beq_self_eq_true, Bool.not_true]
  rw [eqIntS_R x.Vals (by omega) k (by omega)]
  simp only [bne_self_eq_false, beq_self_eq_true, d0, Bool.and_self, chk_true, Outs.t_mk, List.getD_cons_zero, List.getD_cons_succ, T.asI_i, T.asB_b, T.asR_r, Int.toNat_natCast, bindO_some, Bool.not_true, cond_false, cond_true, Bool.not_false]
theorem eqCmd_r (x : Cmd) (hx : x.w ≤ 1048576) : Rn 2 N.laws_eqCmd [.v x.e, .v x.e] ⟨[.b true], []⟩ := eqCmd_R x (by omega)
theorem flatT {t : Nat} {l : List Ty} (h : E.flat t = l) {ts : List T} (g : FTs E (E.flat t) ts) : FTs E l ts := h ▸ g
theorem open_int {t : T} (h : FT E (.int .i64) t) : ∃ n : Int, t = .i n ∧ inI n := by
  cases h with
  | int h =>
    rename_i n
    refine ⟨n, rfl, ?_⟩
    unfold inI
    simp [Lit.wf, IntKind.min, IntKind.max, IntKind.signed, IntKind.bits] at h
    omega
theorem FTs_of : ∀ {tys : List Ty} {c : List T}, c.length = tys.length → (∀ j, j < tys.length → FT E (tys.getD j .bool) (c.getD j (.i 0))) → FTs E tys c
  | [], [], _, _ => trivial
  | ty :: tys, t :: ts, hl, h => ⟨h 0 (by simp), FTs_of (by simpa using hl) fun j hj => by simpa using h (j + 1) (by simpa using hj)⟩
  | [], _ :: _, hl, _ => by simp at hl
  | _ :: _, [], hl, _ => by simp at hl
theorem rows_map {α : Type} (enc : α → List T) (p : α → Prop) : ∀ {es : List (List T)}, (∀ c ∈ es, ∃ x, c = enc x ∧ p x) → ∃ l : List α, es = l.map enc ∧ ∀ x ∈ l, p x
  | [], _ => ⟨[], rfl, fun _ h => by cases h⟩
  | c :: es, h => by
    obtain ⟨x, rfl, hx⟩ := h c (by simp)
    obtain ⟨l, rfl, hl⟩ := rows_map enc p (es := es) fun c hc => h c (by simp [hc])
    exact ⟨x :: l, rfl, fun y hy => (List.mem_cons.1 hy).elim (fun h => h ▸ hx) (hl y)⟩
theorem open_rows {α : Type} (enc : α → List T) (p : α → Prop) {e : Nat} (hx : ∀ c, FTs E (E.flat e) c → ∃ x, c = enc x ∧ p x) {t : T} (h : FT E (.row e) t) : ∃ l : List α, t = .r (l.map enc) ∧ LF p l := by
  cases h with
  | row hl hn hr =>
    rename_i es
    obtain ⟨l, rfl, hp⟩ := rows_map enc p (es := es) fun c hc => by
      obtain ⟨i, hi, rfl⟩ := List.getElem_of_mem hc
      refine hx _ (FTs_of (hn _ hc) fun j hj => ?_)
      have := hr i j hi hj
      unfold tyAt tAt at this
      simpa [List.getD_eq_getElem?_getD, hi] using this
    exact ⟨l, rfl, by simpa using hl, hp⟩
theorem open_Int {c : List T} (h : FTs E [.int .i64] c) : ∃ n : Int, c = [.i n] ∧ inI n := by
  match c, h with
  | [t], ⟨h, _⟩ => obtain ⟨n, rfl, g⟩ := open_int h; exact ⟨n, rfl, g⟩
theorem open_IntS {t : T} (h : FT E (.row TN.Int) t) : ∃ l : List Int, t = .r (eIs l) ∧ LF inI l :=
  open_rows _ inI (fun c hc => open_Int (flatT (by kernel_rfl) hc)) h
theorem open_Cmd {ts : List T} (h : FTs E [.int .i64, .int .i64, .int .i64, .int .i64, .row TN.Int] ts) : ∃ x : Cmd, ts = x.e ∧ x.Fit := by
  match ts, h with
  | [t0, t1, t2, t3, t4], ⟨h0, h1, h2, h3, h4, _⟩ =>
    obtain ⟨x0, rfl, g0⟩ := open_int h0
    obtain ⟨x1, rfl, g1⟩ := open_int h1
    obtain ⟨x2, rfl, g2⟩ := open_int h2
    obtain ⟨x3, rfl, g3⟩ := open_int h3
    obtain ⟨x4, rfl, g4⟩ := open_IntS h4
    exact ⟨⟨x0, x1, x2, x3, x4⟩, rfl, ⟨g0, g1, g2, g3, g4⟩⟩
def within (n lo hi : Int) : Bool := decide (lo ≤ n) && decide (n ≤ hi)
theorem within_t {n lo hi : Int} (h : within n lo hi = true) : lo ≤ n ∧ n ≤ hi := by
  unfold within at h; simpa using h
theorem within_i (n lo hi : Int) : Rn 1 N.impl_within [.v [.i n], .v [.i lo], .v [.i hi]] ⟨[.b (within n lo hi)], []⟩ := by
  refine Rn.of fun k hk => ?_
  rw [impl_within_e]; unfold impl_within_u within
  by_cases h : lo ≤ n <;> simp [h]
theorem within_s (n lo hi : Int) : Rn 1 N.spec_l1In [.v [.i n], .v [.i lo], .v [.i hi]] ⟨[.b (within n lo hi)], []⟩ := by
  refine Rn.of fun k hk => ?_
  rw [spec_l1In_e]; unfold spec_l1In_u within
  by_cases h : lo ≤ n <;> simp [h]
def isWord (n : Int) : Bool := within n 0 65535
def wordsOk (l : List Int) : Bool := l.all isWord
theorem isWord_i (n : Int) : Rn 2 N.impl_isWord [.v [.i n]] ⟨[.b (isWord n)], []⟩ := by
  refine Rn.of fun k hk => ?_
  rw [impl_isWord_e]; unfold impl_isWord_u
  rw [within_i _ _ _ k (by omega)]; rfl
theorem isWord_s (n : Int) : Rn 2 N.spec_l1Word [.v [.i n]] ⟨[.b (isWord n)], []⟩ := by
  refine Rn.of fun k hk => ?_
  rw [spec_l1Word_e]; unfold spec_l1Word_u
  rw [within_s _ _ _ k (by omega)]; rfl
theorem all_loop {α : Type} (p : α → Bool) (l : List α) {b : (Int → Option Outs) → Int → Option Outs} (last : Option Outs) (hl : l.length ≤ 1099511627776)
    (h : ∀ (i : Nat) (hi : i < l.length) G, b G (i : Int) = (bif p l[i] then G (IntKind.wrap .i64 ((i : Int) + 1)) else some ⟨[.b false], []⟩))
    (he : ∀ G, b G (l.length : Int) = last) {j : Nat} (hj : l.length < j) : fixN b j 0 = (bif l.all p then last else some ⟨[.b false], []⟩) := by
  refine (fixN_up (b := b) l.length (fun i => (i : Int)) (fun i => bif (l.drop i).all p then last else some ⟨[.b false], []⟩) ?_ ?_ hj).trans (by simp)
  · intro i hi G hG
    rw [h i hi, wrap_up (by omega), hG, List.drop_eq_getElem_cons hi, List.all_cons]
    cases p l[i] <;> rfl
  · intro G; rw [he]; simp
theorem bifB (c x : Bool) : (bif c then some (⟨[.b x], []⟩ : Outs) else some ⟨[.b false], []⟩) = some ⟨[.b (c && x)], []⟩ := by cases c <;> rfl
theorem bifN {α : Type} (c : Bool) (x y : α) : (bif !c then x else y) = bif c then y else x := by cases c <;> rfl
theorem wordsOk_i (l : List Int) (h : l.length ≤ Big) : Rn 3 N.impl_wordsOk [.v [.r (eIs l)]] ⟨[.b (wordsOk l)], []⟩ := by
  refine Rn.of fun k hk => ?_
  unfold Big at h hk
  rw [impl_wordsOk_e]; unfold impl_wordsOk_u impl_wordsOk_U
  refine (all_loop isWord l (some ⟨[.b true], []⟩) (by omega) (fun i hi G => ?_) (fun G => ?_) (by omega)).trans ((bifB _ _).trans (by rw [Bool.and_true]; rfl))
  · unfold impl_wordsOk_l1 impl_wordsOk_L1
    simp only [List.length_map, at_map _ hi, dlt hi, d0, Bool.and_self, chk_true, cond_true, Int.toNat_natCast, List.getD_cons_zero, T.asI_i]
    rw [isWord_i _ k (by unfold Big; omega)]; exact bifN _ _ _
  · unfold impl_wordsOk_l1 impl_wordsOk_L1
    simp only [List.length_map, dll, cond_false]
theorem wordsOk_s (l : List Int) (h : l.length ≤ Big) : Rn 3 N.spec_l1Words [.v [.r (eIs l)]] ⟨[.b (wordsOk l)], []⟩ := by
  refine Rn.of fun k hk => ?_
  unfold Big at h hk
  rw [spec_l1Words_e]; unfold spec_l1Words_u spec_l1Words_U
  refine (all_loop isWord l (some ⟨[.b true], []⟩) (by omega) (fun i hi G => ?_) (fun G => ?_) (by omega)).trans ((bifB _ _).trans (by rw [Bool.and_true]; rfl))
  · unfold spec_l1Words_l1 spec_l1Words_L1
    simp only [List.length_map, at_map _ hi, dlt hi, d0, Bool.and_self, chk_true, cond_true, Int.toNat_natCast, List.getD_cons_zero, T.asI_i]
    rw [isWord_s _ k (by unfold Big; omega)]; exact bifN _ _ _
  · unfold spec_l1Words_l1 spec_l1Words_L1
    simp only [List.length_map, dll, cond_false]
theorem txt_app (a b : List UInt8) : txt a ++ txt b = txt (a ++ b) := by
  unfold txt
  apply ByteArray.ext
  simp [ByteArray.data_append]
theorem txt_size (a : List UInt8) : (txt a).size = a.length := by simp [txt, ByteArray.size]
theorem txt_data (a : List UInt8) : (txt a).data.toList = a := by simp [txt]
theorem sp_txt : ByteArray.mk #[32] = txt [32] := rfl
theorem txt_self (s : ByteArray) : (!(s.toList == s.toList)) = false := by simp
theorem ble_ok {n : Nat} (h : n ≤ 9223372036854775807) : Nat.ble n 9223372036854775807 = true := Nat.ble_eq_true_of_le h
abbrev dec (n : Int) : List UInt8 := Lib.decDigits n.toNat
theorem digit_u8 {a : Int} (h0 : 0 ≤ a) (h1 : a < 10) : bytesT [[.i (IntKind.wrap .u8 (IntKind.wrap .i64 (48 + a)))]] = txt [UInt8.ofNat (48 + a.toNat)] := by
  rw [wrap_id (by omega) (by omega)]
  have e : IntKind.wrap .u8 (48 + a) = 48 + a := by
    unfold IntKind.wrap IntKind.signed IntKind.bits
    simp
    omega
  rw [e]
  unfold bytesT txt
  simp only [List.map_cons, List.map_nil, List.getD_cons_zero, T.asI_i]
  rw [show (48 + a).toNat = 48 + a.toNat by omega]
theorem dec_len : ∀ (d n : Nat), n < 10 ^ (d + 1) → (Lib.decDigits n).length ≤ d + 1
  | 0, n, h => by rw [Lib.decDigits, dif_pos (by simpa using h)]; simp
  | d + 1, n, h => by
    rw [Lib.decDigits]
    split
    · simp
    · rw [List.length_append]
      have := dec_len d (n / 10) (by rw [Nat.div_lt_iff_lt_mul (by omega), ← Nat.pow_succ]; exact h)
      simp; omega
theorem num_s : ∀ (d : Nat) (n : Nat), n < 10 ^ (d + 1) → n ≤ 9223372036854775807 → d ≤ 40 → ∀ k, d + 1 ≤ k → evalF E P0 k N.spec_l22Num [.v [.i (n : Int)]] = some ⟨[.s (txt (Lib.decDigits n))], []⟩
  | d, n, h, hb, hd, 0, hk => by omega
  | 0, n, h, hb, hd, k + 1, hk => by
    have h : n < 10 := by simpa using h
    rw [spec_l22Num_e]; unfold spec_l22Num_u
    rw [decide_eq_true (by omega), cond_true, digit_u8 (by omega) (by omega), Int.toNat_natCast, Lib.decDigits, dif_pos h]
  | d + 1, n, h, hb, hd, k + 1, hk => by
    rw [spec_l22Num_e]; unfold spec_l22Num_u
    by_cases h9 : n < 10
    · rw [decide_eq_true (by omega), cond_true, digit_u8 (by omega) (by omega), Int.toNat_natCast, Lib.decDigits, dif_pos h9]
    · rw [decide_eq_false (by omega), cond_false]
      have e1 : IntKind.wrap .i64 (Int.tdiv (n : Int) 10) = ((n / 10 : Nat) : Int) := by
        rw [Int.tdiv_eq_ediv_of_nonneg (by omega), wrap_id (by omega) (by omega)]; rfl
      have e2 : Int.tmod (n : Int) 10 = ((n % 10 : Nat) : Int) := by
        rw [Int.tmod_eq_emod_of_nonneg (by omega)]; rfl
      have hq : n / 10 < 10 ^ (d + 1) := by rw [Nat.div_lt_iff_lt_mul (by omega), ← Nat.pow_succ]; exact h
      have hl := dec_len d (n / 10) hq
      rw [e1, num_s d (n / 10) hq (by omega) (by omega) k (by omega), bindO_some, e2, digit_u8 (by omega) (by omega)]
      simp only [Outs.t_mk, List.getD_cons_zero, T.asS_s, txt_size, txt_app, Int.toNat_natCast]
      rw [chk_ok (ble_ok (by simp; omega)), show Lib.decDigits n = Lib.decDigits (n / 10) ++ [UInt8.ofNat (48 + n % 10)] by rw [Lib.decDigits, dif_neg h9]]
theorem dec19 {n : Int} (h0 : 0 ≤ n) (h1 : n ≤ 9223372036854775807) : n.toNat < 10 ^ (18 + 1) ∧ (dec n).length ≤ 19 := by
  have h : n.toNat < 10 ^ (18 + 1) := by
    have : (10 : Nat) ^ (18 + 1) = 10000000000000000000 := by decide
    omega
  exact ⟨h, dec_len 18 _ h⟩
theorem num_r (n : Int) (h0 : 0 ≤ n) (h1 : n ≤ 9223372036854775807) : Rn 20 N.spec_l22Num [.v [.i n]] ⟨[.s (txt (dec n))], []⟩ := fun k hk => by
  have := num_s 18 n.toNat (dec19 h0 h1).1 (by omega) (by omega) k (by omega)
  rwa [Int.toNat_of_nonneg h0] at this
theorem itoa_e (k : Nat) (n : Int) : evalF E P0 (k + 1) N.strconv_Itoa [.v [.i n]] = prItoa [.v [.i n]] := by kernel_rfl
theorem join_e (k : Nat) (es : List (List T)) (s : ByteArray) : evalF E P0 (k + 1) N.strings_Join [.v [.r es], .v [.s s]] = prJoin [.v [.r es], .v [.s s]] := by kernel_rfl
theorem digits_i (n : Int) (h0 : 0 ≤ n) (h1 : n ≤ 9223372036854775807) : Rn 2 N.impl_digits [.v [.i n]] ⟨[.s (txt (dec n))], []⟩ := by
  refine Rn.of fun k hk => ?_
  obtain ⟨k, rfl⟩ : ∃ m, k = m + 1 := ⟨k - 1, by omega⟩
  rw [impl_digits_e]; unfold impl_digits_u
  rw [itoa_e]
  have e : prItoa [.v [.i n]] = some ⟨[.s (txt (dec n))], []⟩ := by
    show (bif decide (-9223372036854775808 ≤ n) && decide (n ≤ 9223372036854775807) then some (⟨[.s (txt (Lib.itoa n))], []⟩ : Outs) else none) = _
    rw [decide_eq_true (by omega), decide_eq_true (by omega)]
    unfold Lib.itoa
    rw [if_neg (by omega)]; rfl
  rw [e]; rfl
theorem word_dec {n : Int} (h : isWord n = true) : 0 ≤ n ∧ n ≤ 65535 ∧ (dec n).length ≤ 5 := by
  have h' := within_t h
  exact ⟨h'.1, h'.2, dec_len 4 _ (by have : (10 : Nat) ^ (4 + 1) = 100000 := by decide
                                     omega)⟩
abbrev jn (xs : List (List UInt8)) : List UInt8 := Lib.join xs [32]
abbrev tl (xs : List (List UInt8)) : List UInt8 := Lib.joinTail [32] xs
theorem tl_snoc (xs : List (List UInt8)) (y : List UInt8) : tl (xs ++ [y]) = tl xs ++ 32 :: y := by
  unfold tl Lib.joinTail; simp
theorem sp_jn {xs : List (List UInt8)} (h : xs ≠ []) : 32 :: jn xs = tl xs := by
  cases xs with
  | nil => exact absurd rfl h
  | cons x r => rw [jn, Lib.join_cons]; simp [tl, Lib.joinTail]
theorem tl_len {l : List Int} (h : l.all isWord = true) : (tl (l.map dec)).length ≤ 6 * l.length := by
  induction l with
  | nil => simp [tl, Lib.joinTail]
  | cons n l ih =>
    rw [List.all_cons, Bool.and_eq_true] at h
    have := ih h.2
    have h5 := (word_dec h.1).2.2
    unfold tl Lib.joinTail at *
    simp at this ⊢
    omega
theorem jn_len {l : List Int} (h : l.all isWord = true) : (jn (l.map dec)).length ≤ 6 * l.length := by
  cases l with
  | nil => simp [jn, Lib.join]
  | cons n l =>
    have := tl_len h
    have e := sp_jn (xs := (n :: l).map dec) (by simp)
    rw [← e] at this
    simp at this ⊢; omega
theorem all_take {l : List Int} (h : l.all isWord = true) (i : Nat) : (l.take i).all isWord = true := by
  rw [List.all_eq_true] at h ⊢
  exact fun x hx => h x (List.mem_of_mem_take hx)
theorem all_get {l : List Int} (h : l.all isWord = true) {i : Nat} (hi : i < l.length) : isWord l[i] = true := List.all_eq_true.1 h _ (List.getElem_mem hi)
def wordsT (l : List Int) : List UInt8 := bif wordsOk l then jn (l.map dec) else []
theorem joinT_words (l : List Int) : joinT (l.map fun n => [.s (txt (dec n))]) (txt [32]) = jn (l.map dec) := by
  unfold joinT jn
  rw [List.map_map, txt_data]
  congr 1
theorem wText_i (l : List Int) (h : l.length ≤ Big) : Rn 21 N.impl_WordsText [.v [.r (eIs l)]] ⟨[.s (txt (wordsT l))], []⟩ := by
  refine Rn.of fun k hk => ?_
  obtain ⟨k, rfl⟩ : ∃ m, k = m + 1 := ⟨k - 1, by omega⟩
  have hB : Big = 4294967296 := rfl
  rw [impl_WordsText_e]; unfold impl_WordsText_u impl_WordsText_U wordsT
  rw [wordsOk_i l h (k + 1) (by omega), bindO_some]
  simp only [Outs.t_mk, List.getD_cons_zero, T.asB_b]
  cases hw : wordsOk l
  · rfl
  simp only [Bool.not_true, cond_false, cond_true]
  have hw : l.all isWord = true := hw
  refine fixN_up (R := Outs) l.length (fun i => ((i : Int), (l.take i).map fun n => [.s (txt (dec n))])) (fun _ => some ⟨[.s (txt (jn (l.map dec)))], []⟩) (fun i hi G hG => ?_) (fun G => ?_) (by omega)
  · have hd := word_dec (all_get hw hi)
    rw [List.take_succ_eq_append_getElem hi, List.map_append] at hG
    unfold impl_WordsText_l1 impl_WordsText_L1
    simp only [List.length_map, at_map _ hi, dlt hi, d0, Bool.and_self, chk_true, cond_true, Int.toNat_natCast, List.getD_cons_zero, T.asI_i]
    rw [digits_i l[i] hd.1 (by omega) (k + 1) (by omega)]
    simp only [bindO_some, Outs.t_mk, List.getD_cons_zero, T.asS_s]
    rw [chk_ok (by simp <;> omega), wrap_up (by omega)]
    exact hG
  · unfold impl_WordsText_l1 impl_WordsText_L1
    simp only [List.length_map, dll, cond_false, List.take_length, sp_txt]
    rw [join_e]
    have hl := jn_len hw
    have e : prJoin [.v [.r (l.map fun n => [.s (txt (dec n))])], .v [.s (txt [32])]] = some ⟨[.s (txt (jn (l.map dec)))], []⟩ := by
      unfold prJoin
      simp only [joinT_words]
      rw [decide_eq_true (by simp; omega), decide_eq_true (by omega)]; rfl
    rw [e]; rfl
theorem bndT {R : Type} {e : Option Outs} {o : Outs} {F : Outs → Option R} {r : Option R} (t : e = some o) (h : F o = r) : bindO e F = r := by subst t; exact h
theorem chkT {R : Type} {c : Bool} {x r : Option R} (h : c = true) (hx : x = r) : chk c x = r := by subst h; exact hx
theorem bifT {R : Type} {c : Bool} {x y r : R} (t : c = true) (h : x = r) : (bif c then x else y) = r := by subst t; exact h
theorem bifF {R : Type} {c : Bool} {x y r : R} (t : c = false) (h : y = r) : (bif c then x else y) = r := by subst t; exact h
theorem txt_of (s : ByteArray) : s = txt s.data.toList := by apply ByteArray.ext; simp [txt]
theorem som {a b : List UInt8} (h : a = b) : (some ⟨[.s (txt a)], []⟩ : Option Outs) = some ⟨[.s (txt b)], []⟩ := by rw [h]
theorem tl_nil : tl [] = [] := rfl
abbrev nums5 (c : Cmd) : List Int := [c.Op, c.Id, c.Lba, c.N, (c.Vals.length : Int)] ++ c.Vals
def putOk (c : Cmd) : Bool := within c.Op 1 6 && (decide (c.Vals.length ≤ 6) && wordsOk (nums5 c))
theorem putCmd_i (c : Cmd) (h : c.w ≤ 1048576) : Rn 5 N.impl_PutCmd [.v c.e] ⟨[.r (bif putOk c then eIs (nums5 c) else [])], []⟩ := by
  refine Rn.of fun k hk => ?_
  have hv : c.Vals.length ≤ 1048576 := h
  have hB : Big = 4294967296 := rfl
  rw [impl_PutCmd_e]; unfold impl_PutCmd_u putOk
  refine chkT (by simp; omega) ?_
  refine bndT (within_i c.Op 1 6 k (by omega)) ?_
  cases within c.Op 1 6
  · exact bifT rfl (by unfold impl_PutCmd_J1; rfl)
  refine bifF rfl ?_
  rw [List.length_map]
  by_cases h6 : c.Vals.length ≤ 6
  · refine bifF (decide_eq_false (by omega)) ?_
    rw [decide_eq_true h6]
    refine bndT (wordsOk_i (nums5 c) (by simp; omega) k (by omega)) ?_
    unfold impl_PutCmd_J1
    cases wordsOk (nums5 c)
    · rfl
    · exact bifF rfl (by simp)
  · refine bifT (decide_eq_true (by omega)) ?_
    rw [decide_eq_false h6]
    unfold impl_PutCmd_J1; rfl
theorem putCmd_s (c : Cmd) (h : c.w ≤ 1048576) : Rn 5 N.spec_PutCmd [.v c.e] ⟨[.r (bif putOk c then eIs (nums5 c) else [])], []⟩ := by
  refine Rn.of fun k hk => ?_
  have hv : c.Vals.length ≤ 1048576 := h
  have hB : Big = 4294967296 := rfl
  rw [spec_PutCmd_e]; unfold spec_PutCmd_u putOk
  refine chkT (by simp; omega) ?_
  refine bndT (within_s c.Op 1 6 k (by omega)) ?_
  cases within c.Op 1 6
  · exact bifT rfl (by unfold spec_PutCmd_J1; rfl)
  refine bifF rfl ?_
  rw [List.length_map]
  refine bndT (wordsOk_s (nums5 c) (by simp; omega) k (by omega)) ?_
  unfold spec_PutCmd_J1
  cases wordsOk (nums5 c)
  · rw [Bool.and_false, Bool.and_false]; rfl
  by_cases h6 : c.Vals.length ≤ 6
  · rw [decide_eq_true h6, decide_eq_false (show ¬ ((c.Vals.length : Int) > 6) by omega)]
    exact bifF rfl (bifF rfl (by simp))
  · rw [decide_eq_false h6, decide_eq_true (show ((c.Vals.length : Int) > 6) by omega)]
    rfl
abbrev OPS : List (List T) := [[.s (ByteArray.mk #[114, 101, 97, 100])], [.s (ByteArray.mk #[119, 114, 105, 116, 101])], [.s (ByteArray.mk #[102, 117, 97])], [.s (ByteArray.mk #[102, 108, 117, 115, 104])], [.s (ByteArray.mk #[99, 111, 109, 112, 97, 114, 101])], [.s (ByteArray.mk #[122, 101, 114, 111])]]
abbrev OPZ : List (List T) := [.s (ByteArray.mk #[])] :: OPS
def opT (n : Int) : List UInt8 := (at_ OPZ n.toNat 0).asS.data.toList
theorem six {n : Int} (h0 : 1 ≤ n) (h1 : n ≤ 6) : n = 1 ∨ n = 2 ∨ n = 3 ∨ n = 4 ∨ n = 5 ∨ n = 6 := by omega
theorem opT_len {n : Int} (h0 : 1 ≤ n) (h1 : n ≤ 6) : (opT n).length ≤ 7 := by
  rcases six h0 h1 with rfl | rfl | rfl | rfl | rfl | rfl <;> decide
theorem opT_s (n : Int) : (at_ OPZ n.toNat 0).asS = txt (opT n) := txt_of _
theorem opT_i {n : Int} (h0 : 1 ≤ n) (h1 : n ≤ 6) : (at_ OPS (IntKind.wrap .i64 (n - 1)).toNat 0).asS = txt (opT n) := by
  rw [wrap_id (by omega) (by omega), ← opT_s]
  rcases six h0 h1 with rfl | rfl | rfl | rfl | rfl | rfl <;> rfl
theorem opB {n : Int} (h0 : 1 ≤ n) (h1 : n ≤ 6) : (decide (0 ≤ IntKind.wrap .i64 (n - 1)) && decide (IntKind.wrap .i64 (n - 1) < 6)) = true := by
  rw [wrap_id (by omega) (by omega), decide_eq_true (by omega), decide_eq_true (by omega)]; rfl
def numsOf (c : Cmd) : List Int := bif (c.Op == 1) || (c.Op == 6) then [c.Id, c.Lba, c.N] else bif c.Op == 4 then [c.Id] else c.Id :: c.Lba :: c.Vals
def cmdT (c : Cmd) : List UInt8 := bif putOk c then opT c.Op ++ 32 :: jn ((numsOf c).map dec) else []
theorem putOk_t {c : Cmd} (h : putOk c = true) : (1 ≤ c.Op ∧ c.Op ≤ 6) ∧ c.Vals.length ≤ 6 ∧ isWord c.Id = true ∧ isWord c.Lba = true ∧ isWord c.N = true ∧ c.Vals.all isWord = true := by
  unfold putOk at h
  rw [Bool.and_eq_true, Bool.and_eq_true] at h
  obtain ⟨h1, h2, h3⟩ := h
  refine ⟨within_t h1, of_decide_eq_true h2, ?_⟩
  unfold wordsOk nums5 at h3
  simp only [List.cons_append, List.nil_append, List.all_cons, Bool.and_eq_true] at h3
  exact ⟨h3.2.1, h3.2.2.1, h3.2.2.2.1, h3.2.2.2.2.2⟩
theorem numsOf_ok {c : Cmd} (h : putOk c = true) : wordsOk (numsOf c) = true ∧ (numsOf c).length ≤ 8 := by
  obtain ⟨_, h2, h3, h4, h5, h6⟩ := putOk_t h
  unfold numsOf wordsOk
  cases (c.Op == 1) || (c.Op == 6)
  · cases c.Op == 4
    · simp only [cond_false, List.all_cons, h3, h4, h6, List.length_cons]; exact ⟨rfl, by omega⟩
    · simp only [cond_false, cond_true, List.all_cons, List.all_nil, h3, List.length_cons, List.length_nil]; exact ⟨rfl, by omega⟩
  · simp only [cond_true, List.all_cons, List.all_nil, h3, h4, h5, List.length_cons, List.length_nil]; exact ⟨rfl, by omega⟩
theorem numsOf_eq (c : Cmd) : (eIs (numsOf c)) = (bif (c.Op == 1) || (c.Op == 6) then [[.i c.Id]] ++ [[.i c.Lba], [.i c.N]] else bif c.Op == 4 then [[.i c.Id]] else ([[.i c.Id]] ++ [[.i c.Lba]]) ++ eIs c.Vals) := by
  unfold numsOf
  cases (c.Op == 1) || (c.Op == 6)
  · cases c.Op == 4 <;> rfl
  · rfl
theorem cmd_end {c : Cmd} (hp : putOk c = true) {k : Nat} (hk : Big + 22 ≤ k) {ns : List (List T)} (hns : ns = eIs (numsOf c)) :
    (chk (decide (0 ≤ (IntKind.wrap .i64 (c.Op - 1))) && decide ((IntKind.wrap .i64 (c.Op - 1)) < (OPS.length : Int))) <|
     chk (Nat.ble ((at_ OPS (IntKind.wrap .i64 (c.Op - 1)).toNat 0).asS.size + (ByteArray.mk #[32]).size) 9223372036854775807) <|
     bindO (evalF E P0 k N.impl_WordsText [.v [.r ns]]) fun o8 =>
     chk (Nat.ble (((at_ OPS (IntKind.wrap .i64 (c.Op - 1)).toNat 0).asS ++ (ByteArray.mk #[32])).size + (o8.t 0).asS.size) 9223372036854775807) <|
     some (⟨[.s (((at_ OPS (IntKind.wrap .i64 (c.Op - 1)).toNat 0).asS ++ (ByteArray.mk #[32])) ++ (o8.t 0).asS)], []⟩ : Outs)) = some ⟨[.s (txt (cmdT c))], []⟩ := by
  obtain ⟨⟨h1, h2⟩, _⟩ := putOk_t hp
  obtain ⟨hw, hl⟩ := numsOf_ok hp
  have ho := opT_len h1 h2
  have hB : Big = 4294967296 := rfl
  have hj := jn_len (l := numsOf c) hw
  subst hns
  refine chkT (opB h1 h2) ?_
  rw [opT_i h1 h2, sp_txt]
  refine chkT (ble_ok (by simp only [txt_size, List.length_cons, List.length_nil]; omega)) ?_
  refine bndT (wText_i (numsOf c) (by omega) k (by omega)) ?_
  have e : wordsT (numsOf c) = jn ((numsOf c).map dec) := by unfold wordsT; rw [hw]; rfl
  simp only [Outs.t_mk, List.getD_cons_zero, T.asS_s, txt_app, e]
  refine chkT (ble_ok (by simp only [txt_size, List.length_append, List.length_cons, List.length_nil]; omega)) ?_
  refine som ?_
  unfold cmdT; rw [hp]; simp
theorem cmdText_i (c : Cmd) (h : c.w ≤ 1048576) : Rn 25 N.impl_CmdText [.v c.e] ⟨[.s (txt (cmdT c))], []⟩ := by
  refine Rn.of fun k hk => ?_
  have hB : Big = 4294967296 := rfl
  rw [impl_CmdText_e]; unfold impl_CmdText_u
  refine bndT (putCmd_i c h k (by omega)) ?_
  cases hp : putOk c
  · refine bifT rfl ?_
    unfold cmdT; rw [hp]; rfl
  have hvl := (putOk_t hp).2.1
  have hop := (putOk_t hp).1
  refine bifF (by simp [bne]; omega) ?_
  have hn := numsOf_eq c
  by_cases h1 : (c.Op == 1) = true
  · refine bifT h1 ?_
    unfold impl_CmdText_J1
    refine bifT rfl ?_
    exact cmd_end hp (by omega) (by rw [hn, h1]; rfl)
  rw [Bool.not_eq_true] at h1
  refine bifF h1 ?_
  by_cases h6 : (c.Op == 6) = true
  · rw [h6]
    unfold impl_CmdText_J1
    refine bifT rfl ?_
    exact cmd_end hp (by omega) (by rw [hn, h1, h6]; rfl)
  rw [Bool.not_eq_true] at h6
  rw [h6]
  unfold impl_CmdText_J1
  refine bifF rfl ?_
  have fin3 : (c.Op == 4) = false → impl_CmdText_J2 k c.Op c.Id c.Lba (eIs c.Vals) true = some ⟨[.s (txt (cmdT c))], []⟩ := fun h4 => by
    unfold impl_CmdText_J2
    refine bifT rfl (chkT (by simp; omega) ?_)
    exact cmd_end hp (by omega) (by rw [hn, h1, h6, h4]; rfl)
  by_cases h2 : (c.Op == 2) = true
  · exact bifT h2 (fin3 (by simp at h2 ⊢; omega))
  refine bifF (by simpa using h2) ?_
  by_cases h3 : (c.Op == 3) = true
  · exact bifT h3 (fin3 (by simp at h3 ⊢; omega))
  refine bifF (by simpa using h3) ?_
  by_cases h5 : (c.Op == 5) = true
  · rw [h5]; exact fin3 (by simp at h5 ⊢; omega)
  · have h4 : (c.Op == 4) = true := by simp at h1 h2 h3 h5 h6 ⊢; omega
    rw [show (c.Op == 5) = false by simpa using h5]
    unfold impl_CmdText_J2
    refine bifF rfl ?_
    exact cmd_end hp (by omega) (by rw [hn, h1, h6, h4]; rfl)
theorem jn3 (a b c : Int) : jn ([a, b, c].map dec) = ((((dec a ++ [32]) ++ dec b) ++ [32]) ++ dec c) := by
  simp only [List.map_cons, List.map_nil, jn, Lib.join_cons, Lib.joinTail]; simp
theorem jn2 (a b : Int) (l : List Int) : jn ((a :: b :: l).map dec) = (((dec a ++ [32]) ++ dec b) ++ tl (l.map dec)) := by
  simp only [List.map_cons, jn, Lib.join_cons, Lib.joinTail, tl]; simp
theorem l22Op_s (n : Int) (h0 : 1 ≤ n) (h1 : n ≤ 6) : Rn 1 N.spec_l22Op [.v [.i n]] ⟨[.s (txt (opT n))], []⟩ := by
  refine Rn.of fun k hk => ?_
  rw [spec_l22Op_e]; unfold spec_l22Op_u
  refine chkT (show (decide (0 ≤ n) && decide (n < 7)) = true by rw [decide_eq_true (by omega), decide_eq_true (by omega)]; rfl) ?_
  rw [← opT_s]
theorem cmdText_s (c : Cmd) (h : c.w ≤ 1048576) : Rn 25 N.spec_CmdText [.v c.e] ⟨[.s (txt (cmdT c))], []⟩ := by
  refine Rn.of fun k hk => ?_
  have hB : Big = 4294967296 := rfl
  rw [spec_CmdText_e]; unfold spec_CmdText_u spec_CmdText_U
  refine bndT (putCmd_s c h k (by omega)) ?_
  cases hp : putOk c
  · refine bifT rfl ?_
    unfold cmdT; rw [hp]; rfl
  obtain ⟨⟨hp1, hp2⟩, hvl, hid, hlba, hcn, hvs⟩ := putOk_t hp
  refine bifF (by simp [bne]; omega) ?_
  have ho := opT_len hp1 hp2
  have di := word_dec hid
  have dl := word_dec hlba
  have dn := word_dec hcn
  unfold cmdT numsOf
  rw [hp, cond_true]
  refine bndT (l22Op_s c.Op hp1 hp2 k (by omega)) ?_
  simp only [Outs.t_mk, List.getD_cons_zero, T.asS_s, sp_txt]
  refine chkT (ble_ok (by simp only [txt_size, List.length_append, List.length_cons, List.length_nil]; omega)) ?_
  refine bndT (num_r c.Id di.1 (by omega) k (by omega)) ?_
  simp only [Outs.t_mk, List.getD_cons_zero, T.asS_s, sp_txt, txt_app]
  refine chkT (ble_ok (by simp only [txt_size, List.length_append, List.length_cons, List.length_nil]; omega)) ?_
  by_cases h4 : (c.Op == 4) = true
  · refine bifT h4 (som ?_)
    rw [show (c.Op == 1) = false by simp at h4 ⊢; omega, show (c.Op == 6) = false by simp at h4 ⊢; omega, h4]
    simp [jn, Lib.join_one]
  rw [Bool.not_eq_true] at h4
  refine bifF h4 ?_
  rw [h4]
  refine chkT (ble_ok (by simp only [txt_size, List.length_append, List.length_cons, List.length_nil]; omega)) ?_
  refine bndT (num_r c.Lba dl.1 (by omega) k (by omega)) ?_
  simp only [Outs.t_mk, List.getD_cons_zero, T.asS_s, sp_txt, txt_app]
  refine chkT (ble_ok (by simp only [txt_size, List.length_append, List.length_cons, List.length_nil]; omega)) ?_
  have fin1 : ((c.Op == 1) || (c.Op == 6)) = true → ∀ R1, spec_CmdText_J1 k c.N ⟨[.s (txt (opT c.Op))], []⟩ ⟨[.s (txt (dec c.Id))], []⟩ ⟨[.s (txt (dec c.Lba))], []⟩ R1 true = some ⟨[.s (txt (opT c.Op ++ 32 :: jn ([c.Id, c.Lba, c.N].map dec)))], []⟩ := fun _ R1 => by
    unfold spec_CmdText_J1
    refine bifT rfl ?_
    simp only [Outs.t_mk, List.getD_cons_zero, T.asS_s, sp_txt, txt_app]
    refine chkT (ble_ok (by simp only [txt_size, List.length_append, List.length_cons, List.length_nil]; omega)) ?_
    refine bndT (num_r c.N dn.1 (by omega) k (by omega)) ?_
    simp only [Outs.t_mk, List.getD_cons_zero, T.asS_s, sp_txt, txt_app]
    refine chkT (ble_ok (by simp only [txt_size, List.length_append, List.length_cons, List.length_nil]; omega)) ?_
    refine som ?_
    rw [jn3]; simp
  by_cases h1 : (c.Op == 1) = true
  · refine bifT h1 ?_
    rw [h1]
    exact fin1 (by rw [h1]; rfl) _
  rw [Bool.not_eq_true] at h1
  refine bifF h1 ?_
  rw [h1]
  by_cases h6 : (c.Op == 6) = true
  · rw [h6]
    exact fin1 (by rw [h6]; simp) _
  rw [Bool.not_eq_true] at h6
  rw [h6]
  unfold spec_CmdText_J1
  refine bifF rfl ?_
  simp only [Outs.t_mk, List.getD_cons_zero, T.asS_s, sp_txt, txt_app, Bool.or_self, cond_false]
  rw [jn2]
  generalize hpre : ((((opT c.Op ++ [32]) ++ dec c.Id) ++ [32]) ++ dec c.Lba) = pre
  have hpl : pre.length ≤ 30 := by rw [← hpre]; simp only [List.length_append, List.length_cons, List.length_nil]; omega
  rw [show opT c.Op ++ 32 :: (dec c.Id ++ [32] ++ dec c.Lba ++ tl (c.Vals.map dec)) = pre ++ tl (c.Vals.map dec) by rw [← hpre]; simp]
  have e0 : pre = pre ++ tl ((c.Vals.take 0).map dec) := by simp [tl_nil]
  rw [show (fixN (spec_CmdText_l1 k c.Op c.Id c.Lba c.N (eIs c.Vals)) k (txt pre, 0)) = fixN (spec_CmdText_l1 k c.Op c.Id c.Lba c.N (eIs c.Vals)) k (txt (pre ++ tl ((c.Vals.take 0).map dec)), ((0 : Nat) : Int)) by rw [← e0]; rfl]
  refine fixN_up (R := Outs) c.Vals.length (fun i => (txt (pre ++ tl ((c.Vals.take i).map dec)), (i : Int))) (fun _ => some ⟨[.s (txt (pre ++ tl (c.Vals.map dec)))], []⟩) (fun i hi G hG => ?_) (fun G => ?_) (by omega)
  · have hd := word_dec (all_get hvs hi)
    have hl := tl_len (all_take hvs i)
    rw [List.length_take] at hl
    rw [List.take_succ_eq_append_getElem hi, List.map_append, List.map_cons, List.map_nil, tl_snoc] at hG
    unfold spec_CmdText_l1 spec_CmdText_L1
    refine bifT (by rw [List.length_map]; exact dlt hi) ?_
    rw [sp_txt, txt_app]
    refine chkT (ble_ok (by simp only [txt_size, List.length_append, List.length_cons, List.length_nil]; omega)) ?_
    simp only [List.length_map, at_map _ hi, dlt hi, d0, Bool.and_self, chk_true, cond_true, Int.toNat_natCast, List.getD_cons_zero, T.asI_i]
    refine bndT (num_r c.Vals[i] hd.1 (by omega) k (by omega)) ?_
    simp only [Outs.t_mk, List.getD_cons_zero, T.asS_s, txt_app]
    refine chkT (ble_ok (by simp only [txt_size, List.length_append, List.length_cons, List.length_nil]; omega)) ?_
    rw [wrap_up (by omega), ← hG]
    congr 3
    simp
  · unfold spec_CmdText_l1 spec_CmdText_L1
    simp only [List.length_map, dll, cond_false, List.take_length]
theorem FnExactCmdText_r (c : Cmd) (hc : c.Fit) : Rn 30 N.laws_FnExactCmdText [.v c.e] ⟨[.b true], []⟩ := by
  refine Rn.of fun k hk => ?_
  rw [laws_FnExactCmdText_e]; unfold laws_FnExactCmdText_u
  refine bndT (szCmd_r c hc _ (by omega) (by omega) k (by omega)) ?_
  by_cases hs : (1048576 : Int) < (c.w : Int)
  · exact bifT (by rw [szA_neg hs]; rfl) rfl
  have s1 := szA_pos (show (c.w : Int) ≤ 1048576 by omega)
  refine bifF (by rw [s1]; exact decide_eq_false (show ¬ ((1048576 : Int) - c.w < 0) by omega)) ?_
  have hB : Big = 4294967296 := rfl
  have t1 := toCmd_r c (by omega) k (by omega)
  have t2 := cmdText_s c (by omega) k (by omega)
  have t3 := cmdText_i c (by omega) k (by omega)
  have t4 := eqCmd_r c (by omega) k (by omega)
  refine bndT t1 (bndT t2 (bndT t1 (bndT t3 ?_)))
  refine bifF (txt_self (txt (cmdT c))) ?_
  exact bndT t1 (bndT t4 (bifF rfl rfl))
end
end Go.Proofs.YtbmkpnabhodggaaDoor.Ev
