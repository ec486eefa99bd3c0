/- The program's data as Lean structures, how they lie as trees, their sizes; loops that go up; how a function's answer is told. No condition. -/
import Derived.Test.YtahlghlpdcfbgaaTab
namespace Go.Proofs.Ytahlghlpdcfbgaa.Ev
open Go
set_option linter.unusedVariables false

structure Geo where
  N : Int
  S : Int
deriving DecidableEq, Inhabited
structure Wr where
  N : Int
  S : List Int
deriving DecidableEq, Inhabited
structure Dsk where
  Secs : List (List Int)
  Cache : List Wr
  Failed : Bool
  Bad : List Int
deriving DecidableEq, Inhabited
structure Super where
  Id : Int
  Gen : Int
  Role : Int
  N : Int
  S : Int
  Tail : Int
  Lost : Int
  Built : Int
deriving DecidableEq, Inhabited
structure Rec where
  Seq : Int
  Stripe : Int
  Data : List Int
deriving DecidableEq, Inhabited
structure Ent where
  Stripe : Int
  Data : List Int
deriving DecidableEq, Inhabited
structure Arr where
  Id : Int
  G : Geo
  Mems : List Dsk
  Lost : Int
  Built : Int
  Seq : Int
  Tail : Int
  Gen : Int
  Dirty : List Ent
  Fuse : Int
  Down : Bool
  Broken : Bool
deriving DecidableEq, Inhabited
structure Cmd where
  Op : Int
  Id : Int
  Lba : Int
  N : Int
  Vals : List Int
deriving DecidableEq, Inhabited
structure Job where
  C : Cmd
  At : Int
  Got : List Int
  Code : Int
deriving DecidableEq, Inhabited
structure Ans where
  Id : Int
  Code : Int
  Vals : List Int
deriving DecidableEq, Inhabited
structure Turn where
  C : Cmd
  A : Ans
deriving DecidableEq, Inhabited
structure Eng where
  A : Arr
  Wait : List Cmd
  Jobs : List Job
  Done : List Ans
  Log : List Turn
deriving DecidableEq, Inhabited
structure Event where
  Kind : Int
  C : Cmd
  K : Int
  S : Int
  Keeps : List Int
deriving DecidableEq, Inhabited

/-! As trees -/
abbrev eIs (l : List Int) : List (List T) := l.map fun n => [.i n]
abbrev eIss (l : List (List Int)) : List (List T) := l.map fun s => [.r (eIs s)]
abbrev Geo.e (g : Geo) : List T := [.i g.N, .i g.S]
abbrev Wr.e (x : Wr) : List T := [.i x.N, .r (eIs x.S)]
abbrev eWrs (l : List Wr) : List (List T) := l.map Wr.e
abbrev Dsk.e (m : Dsk) : List T := [.r (eIss m.Secs), .r (eWrs m.Cache), .b m.Failed, .r (eIs m.Bad)]
abbrev eMems (l : List Dsk) : List (List T) := l.map Dsk.e
abbrev Super.e (x : Super) : List T := [.i x.Id, .i x.Gen, .i x.Role, .i x.N, .i x.S, .i x.Tail, .i x.Lost, .i x.Built]
abbrev Rec.e (x : Rec) : List T := [.i x.Seq, .i x.Stripe, .r (eIs x.Data)]
abbrev Ent.e (x : Ent) : List T := [.i x.Stripe, .r (eIs x.Data)]
abbrev eEnts (l : List Ent) : List (List T) := l.map Ent.e
abbrev Arr.e (a : Arr) : List T := [.i a.Id, .i a.G.N, .i a.G.S, .r (eMems a.Mems), .i a.Lost, .i a.Built, .i a.Seq, .i a.Tail, .i a.Gen, .r (eEnts a.Dirty), .i a.Fuse, .b a.Down, .b a.Broken]
abbrev Cmd.e (c : Cmd) : List T := [.i c.Op, .i c.Id, .i c.Lba, .i c.N, .r (eIs c.Vals)]
abbrev eCmds (l : List Cmd) : List (List T) := l.map Cmd.e
abbrev Job.e (j : Job) : List T := [.i j.C.Op, .i j.C.Id, .i j.C.Lba, .i j.C.N, .r (eIs j.C.Vals), .i j.At, .r (eIs j.Got), .i j.Code]
abbrev eJobs (l : List Job) : List (List T) := l.map Job.e
abbrev Ans.e (x : Ans) : List T := [.i x.Id, .i x.Code, .r (eIs x.Vals)]
abbrev eAnss (l : List Ans) : List (List T) := l.map Ans.e
abbrev Turn.e (t : Turn) : List T := [.i t.C.Op, .i t.C.Id, .i t.C.Lba, .i t.C.N, .r (eIs t.C.Vals), .i t.A.Id, .i t.A.Code, .r (eIs t.A.Vals)]
abbrev eTurns (l : List Turn) : List (List T) := l.map Turn.e
abbrev Eng.e (x : Eng) : List T := [.i x.A.Id, .i x.A.G.N, .i x.A.G.S, .r (eMems x.A.Mems), .i x.A.Lost, .i x.A.Built, .i x.A.Seq, .i x.A.Tail, .i x.A.Gen, .r (eEnts x.A.Dirty), .i x.A.Fuse, .b x.A.Down, .b x.A.Broken, .r (eCmds x.Wait), .r (eJobs x.Jobs), .r (eAnss x.Done), .r (eTurns x.Log)]
abbrev Event.e (v : Event) : List T := [.i v.Kind, .i v.C.Op, .i v.C.Id, .i v.C.Lba, .i v.C.N, .r (eIs v.C.Vals), .i v.K, .i v.S, .r (eIs v.Keeps)]
abbrev eEvents (l : List Event) : List (List T) := l.map Event.e

/-! Sizes: all elements of all lists -/
def wL {α : Type} (w : α → Nat) (l : List α) : Nat := l.length + (l.map w).sum
abbrev wI (_ : Int) : Nat := 0
def Wr.w (x : Wr) : Nat := x.S.length
def Dsk.w (m : Dsk) : Nat := wL List.length m.Secs + wL Wr.w m.Cache + m.Bad.length
def Ent.w (x : Ent) : Nat := x.Data.length
def Arr.w (a : Arr) : Nat := wL Dsk.w a.Mems + wL Ent.w a.Dirty
def Cmd.w (c : Cmd) : Nat := c.Vals.length
def Ans.w (x : Ans) : Nat := x.Vals.length
def Job.w (j : Job) : Nat := j.C.w + j.Got.length
def Turn.w (t : Turn) : Nat := t.C.w + t.A.w
def Eng.w (x : Eng) : Nat := x.A.w + wL Cmd.w x.Wait + wL Job.w x.Jobs + wL Ans.w x.Done + wL Turn.w x.Log
def Event.w (v : Event) : Nat := v.C.w + v.Keeps.length
theorem wL_len {α : Type} (w : α → Nat) (l : List α) : l.length ≤ wL w l := Nat.le_add_right _ _
theorem sum_mem {l : List Nat} {x : Nat} (h : x ∈ l) : x ≤ l.sum := by
  induction l with
  | nil => cases h
  | cons a l ih =>
    rw [List.sum_cons]
    rcases List.mem_cons.1 h with rfl | h
    · exact Nat.le_add_right _ _
    · exact Nat.le_trans (ih h) (Nat.le_add_left _ _)
theorem wL_mem {α : Type} (w : α → Nat) {l : List α} {x : α} (h : x ∈ l) : w x ≤ wL w l := Nat.le_trans (sum_mem (List.mem_map.2 ⟨x, h, rfl⟩)) (Nat.le_add_left _ _)
theorem wL_get {α : Type} (w : α → Nat) {l : List α} {i : Nat} (h : i < l.length) : w l[i] ≤ wL w l := wL_mem w (List.getElem_mem h)
theorem wL_nil {α : Type} (w : α → Nat) : wL w [] = 0 := rfl
theorem wL_cons {α : Type} (w : α → Nat) (x : α) (l : List α) : wL w (x :: l) = 1 + w x + wL w l := by
  unfold wL; simp; omega
theorem wL_append {α : Type} (w : α → Nat) (a b : List α) : wL w (a ++ b) = wL w a + wL w b := by
  unfold wL; simp; omega

/-! Whole numbers -/
theorem wrap_id {n : Int} (h0 : -9223372036854775808 ≤ n) (h1 : n ≤ 9223372036854775807) : IntKind.wrap .i64 n = n := by
  unfold IntKind.wrap IntKind.signed IntKind.bits
  simp
  omega
theorem wrap_up {i : Nat} (h : i ≤ 1099511627776) : IntKind.wrap .i64 ((i : Int) + 1) = ((i + 1 : Nat) : Int) := by
  rw [wrap_id (by omega) (by omega)]; omega

/-! What a function answers: with all rounds from some number on -/
def Big : Nat := 4294967296
def Rn (d : Nat) (f : FuncId) (ins : List Arg) (o : Outs) : Prop := ∀ k, Big + d ≤ k → evalF E P0 k f ins = some o
theorem Rn.up {d d' : Nat} {f : FuncId} {ins : List Arg} {o : Outs} (h : Rn d f ins o) (hd : d ≤ d') : Rn d' f ins o := fun k hk => h k (by omega)
theorem Rn.of {d : Nat} {f : FuncId} {ins : List Arg} {o : Outs} (h : ∀ k, Big + d ≤ k → evalF E P0 (k + 1) f ins = some o) : Rn (d + 1) f ins o := by
  intro k hk
  obtain ⟨k, rfl⟩ : ∃ m, k = m + 1 := ⟨k - 1, by omega⟩
  exact h k (by omega)

theorem bindO_some {R : Type} (o : Outs) (k : Outs → Option R) : bindO (some o) k = k o := rfl
theorem chk_true {R : Type} (x : Option R) : chk true x = x := rfl
theorem chk_ok {R : Type} {c : Bool} (h : c = true) (x : Option R) : chk c x = x := by subst h; rfl
@[simp] theorem Outs.t_mk (l : List T) (v : List (List T)) (j : Nat) : Outs.t ⟨l, v⟩ j = l.getD j (.i 0) := rfl
@[simp] theorem T.asI_i (n : Int) : (T.i n).asI = n := rfl
@[simp] theorem T.asB_b (x : Bool) : (T.b x).asB = x := rfl
@[simp] theorem T.asS_s (x : ByteArray) : (T.s x).asS = x := rfl
@[simp] theorem T.asR_r (x : List (List T)) : (T.r x).asR = x := rfl
theorem at_map {α : Type} (f : α → List T) {l : List α} {i : Nat} (h : i < l.length) (j : Nat) : at_ (l.map f) i j = (f l[i]).getD j (.i 0) := by
  unfold at_
  simp [List.getD_eq_getElem?_getD, h]
theorem put_map {α : Type} (f : α → List T) {l : List α} {i : Nat} (h : i < l.length) (j : Nat) (ts : List T) (x : α) (hx : spliceT (f l[i]) j ts = f x) : put_ (l.map f) i j ts = (l.set i x).map f := by
  unfold put_
  rw [List.map_set, ← hx]
  simp [List.getD_eq_getElem?_getD, h]

/-! Loops that go up -/
theorem fixN_up {V R : Type} {b : (V → Option R) → V → Option R} (n : Nat) (st : Nat → V) (ans : Nat → Option R)
    (h : ∀ i, i < n → ∀ G, G (st (i + 1)) = ans (i + 1) → b G (st i) = ans i) (he : ∀ G, b G (st n) = ans n) {j : Nat} (hj : n < j) : fixN b j (st 0) = ans 0 := by
  have : ∀ d i j, i + d = n → d < j → fixN b j (st i) = ans i := by
    intro d
    induction d with
    | zero =>
      intro i j hi hj
      obtain ⟨j, rfl⟩ : ∃ m, j = m + 1 := ⟨j - 1, by omega⟩
      obtain rfl : i = n := by omega
      exact he _
    | succ d ih =>
      intro i j hi hj
      obtain ⟨j, rfl⟩ : ∃ m, j = m + 1 := ⟨j - 1, by omega⟩
      exact h i (by omega) _ (ih (i + 1) j (by omega) (by omega))
  exact this n 0 j (by omega) hj
end Go.Proofs.Ytahlghlpdcfbgaa.Ev
