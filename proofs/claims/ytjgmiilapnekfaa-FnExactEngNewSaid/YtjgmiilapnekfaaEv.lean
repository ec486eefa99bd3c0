/- An evaluator of the model's code on trees and on objects that a call owns: what it answers the machine's call answers (shown in the texts behind this one). No condition. -/
import Derived.Calls
import Derived.Orders
import Derived.Maps.AppendAt
import Derived.Laws.OwnMore
import GoSem.Dispatch
namespace Go.Proofs.Ytjgmiilapnekfaa.Ev
open Go
set_option linter.unusedVariables false

/-- A cell's kind: a slice's with its elements' type. -/
inductive Ty where
  | int (k : IntKind) | bool | str | row (e : Nat) | ptr (e : Nat)
  | deep (e : Nat)   -- on the way into a call and out of it: a row that is own with all that it leads to
/-- What a cell holds, slices with all that they lead to. -/
inductive T where
  | i (n : Int) | b (x : Bool) | s (x : ByteArray) | r (es : List (List T))
instance : Inhabited T := ⟨.i 0⟩
def T.asI : T → Int | .i n => n | _ => 0
def T.asB : T → Bool | .b x => x | _ => false
def T.asS : T → ByteArray | .s x => x | _ => ByteArray.empty
def T.asR : T → List (List T) | .r es => es | _ => []
abbrev Nm := Nat × Nat
/-- A temporary's value. -/
inductive A where
  | i (k : IntKind) (n : Int) | b (x : Bool) | s (x : ByteArray)
  | sl (e : Nat) (es : List (List T))      -- a slice that is read alone
  | nil (e : Nat)
  | ref (n : Nm)                           -- a row by its name
  | cut (n : Nm) (e f l : Nat)             -- a part of it
  | agg (cs : List A) | tup (vs : List A)
  | ptr (n : Nm) (o : Nat)                 -- a variable's cell
  | ep (n : Nm) (e i o : Nat)              -- a cell of an element of a row
  | vp (tys : List Ty) (cs : List T) (o : Nat)  -- cells that are read alone
  | nilp | skip | undef
  | clo (f : FuncId) (n : Option Nm)       -- a function value; the variable that it holds
/-- An object: a variable, or a row (own: nobody else may read or write it). -/
inductive O where
  | var (cs : List A)
  | row (e : Nat) (own : Bool) (es : List (List T))
  | deep (e : Nat) (es : List (List T)) (h : Option (Nat × Nat × Nm))   -- a row that is own with all that it leads to; a cell that is out, under a name of its own
  | dead
abbrev Mem := Nm → Option O
structure St where
  sl : Nat → A
  mem : Mem

/-- What is known of the types. -/
inductive Kn where
  | int (k : IntKind) | bool | str | slice (e : Nat) | struct (offs : List (Nat × Nat)) | ptr (e : Nat) | fptr (e : Nat) | other
structure TI where
  kn : Kn
  flat : List Ty
  bytes : Nat
/-- What a function takes: which rows it takes as its own; which rows of its results are the caller's own. -/
structure Sig where
  ins : List (List Bool)
  res : List Bool
  free : List Nat
  deep : Bool := false   -- rows of rows are made own with all that they lead to
structure Env where
  tys : List TI
  fn : FuncId → Option Func
  sig : FuncId → Sig
  gl : List (Nat × (Option Obj → Prop)) := []   -- what the program's own blocks hold
  del : List (Nat × Nat) := []                  -- functions that take elements out of a row, with the elements' type
/-- From a million on: what a function value holds, by its element's type. -/
def Env.ti (E : Env) (t : Nat) : TI := bif Nat.ble 1000000 t then ⟨.fptr (t - 1000000), [], 0⟩ else E.tys.getD t ⟨.other, [], 0⟩
def Env.flat (E : Env) (t : Nat) : List Ty := (E.ti t).flat
def Env.sz (E : Env) (t : Nat) : Nat := (E.flat t).length
def Env.known (E : Env) (t : Nat) : Bool := Nat.ble 1 (E.sz t)
def Env.isAgg (E : Env) (t : Nat) : Bool := match (E.ti t).kn with | .struct _ => true | _ => false
def Env.elem (E : Env) (t : Nat) : Nat := match (E.ti t).kn with | .slice e => e | .ptr e => e | .fptr e => e | _ => 0
def Ty.flatB : Ty → Bool | .row _ | .deep _ => false | _ => true
def Env.pel (E : Env) (t : Nat) : Option Nat := match (E.ti t).kn with | .ptr e => some e | .fptr e => some e | _ => none
/-- Cells' types on the way: flags behind the cells' own say which rows are own with all that they lead to. -/
def dT : List Bool → List Ty → List Ty
  | d :: ds, .row e :: tys => (bif d then .deep e else .row e) :: dT ds tys
  | _ :: ds, ty :: tys => ty :: dT ds tys
  | _, tys => tys
def fl (ws : List Bool) (tys : List Ty) : List Ty := dT (ws.drop tys.length) tys
def pars (sg : Sig) (fn : Func) : List Nat := fn.params.toList ++ sg.free.map (· + 1000000)
def Env.fe (E : Env) (f : FuncId) : Nat := (E.sig f).free.headD 0
def Env.plain (E : Env) (e : Nat) : Bool := (E.flat e).all Ty.flatB

/-- Steps on objects: asked for by name, set by name, made, held against a test. -/
inductive M (α : Type) where
  | ret (a : α) | fail
  | get (n : Nm) (k : Option O → M α)
  | set (n : Nm) (o : O) (k : M α)
  | chk (c : Bool) (k : M α)
def M.bind {α β : Type} : M α → (α → M β) → M β
  | .ret a, f => f a
  | .fail, _ => .fail
  | .get n k, f => .get n fun o => (k o).bind f
  | .set n o k, f => .set n o (k.bind f)
  | .chk c k, f => .chk c (k.bind f)
def nmBeq (a b : Nm) : Bool := Nat.beq a.1 b.1 && Nat.beq a.2 b.2
def Mem.put (m : Mem) (n : Nm) (o : O) : Mem := fun x => bif nmBeq x n then some o else m x
structure FP where
  rd : List Nm
  wr : List Nm
def M.run {α R : Type} : M α → Mem → FP → (α → Mem → FP → Option R) → Option R
  | .ret a, m, p, K => K a m p
  | .fail, _, _, _ => none
  | .get n k, m, p, K => (k (m n)).run m ⟨n :: p.rd, p.wr⟩ K
  | .set n o k, m, p, K => k.run (m.put n o) ⟨p.rd, n :: p.wr⟩ K
  | .chk c k, m, p, K => bif c then k.run m p K else none

/-- Is it a function that takes elements out of a row? -/
def delOf : List (Nat × Nat) → Nat → Option Nat
  | [], _ => none
  | (g, e) :: r, f => bif Nat.beq f g then some e else delOf r f
/-- Where it stands, rows of rows are made own with all that they lead to. -/
def modeNm : Nm := (999999, 0)
def M.mode : M Bool := .get modeNm fun | some _ => .ret true | none => .ret false
/-- How many arguments came in: their rows stay at hand where they go into a new row. -/
def M.late : M Nat := .get modeNm fun | some (.row k _ _) => .ret k | _ => .ret 0
/-- What a deep row leads to is frozen. -/
def M.lowD (n : Nm) : M Unit := .get n fun | some (.deep e es none) => .set n (.row e true es) (.ret ()) | _ => .ret ()
/-- A row's elements, to be seen. -/
def M.rowV (n : Nm) : M (Nat × List (List T)) := .get n fun | some (.row e _ es) => .ret (e, es) | some (.deep e es none) => .ret (e, es) | _ => .fail
/-- A row's type and how many. -/
def M.rowL (n : Nm) : M (Nat × Nat) := .get n fun | some (.row e _ es) => .ret (e, es.length) | some (.deep e es _) => .ret (e, es.length) | _ => .fail
def M.row (n : Nm) : M (Nat × Bool × List (List T)) := .get n fun | some (.row e d es) => .ret (e, d, es) | _ => .fail
def M.var (n : Nm) : M (List A) := .get n fun | some (.var cs) => .ret cs | _ => .fail
def M.new (n : Nm) (o : O) : M Unit := .get n fun | none => .set n o (.ret ()) | _ => .fail

def ofT : Ty → T → A
  | .int k, t => .i k t.asI
  | .bool, t => .b t.asB
  | .str, t => .s t.asS
  | .row e, t => .sl e t.asR
  | .ptr _, _ => .undef
  | .deep _, _ => .undef
def ofTs : Nat → List Ty → List T → List A
  | _, [], _ => []
  | j, ty :: tys, cs => ofT ty (cs.getD j (.i 0)) :: ofTs (j + 1) tys cs
def zeroA : Ty → A
  | .int k => .i k 0
  | .bool => .b false
  | .str => .s ByteArray.empty
  | .row e => .nil e
  | .ptr _ => .nilp
  | .deep e => .nil e
def zeroT : Ty → T
  | .int _ => .i 0
  | .bool => .b false
  | .str => .s ByteArray.empty
  | .row _ => .r []
  | .ptr _ => .i 0
  | .deep _ => .r []
def A.cells : A → List A | .agg cs => cs | a => [a]
def A.solid : A → Bool | .agg _ | .tup _ | .skip | .undef | .clo _ _ => false | _ => true
def solids : List A → Bool
  | [] => true
  | a :: as => a.solid && solids as
def mkVal (E : Env) (t : Nat) (cs : List A) : A := bif E.isAgg t then .agg cs else match cs with | [a] => a | _ => .undef

/-- What is put into a row: nobody writes it any more. -/
def pack (E : Env) : Ty → A → M T
  | .int k, .i k' n => bif decide (k = k') then .ret (.i n) else .fail
  | .bool, .b x => .ret (.b x)
  | .str, .s x => .ret (.s x)
  | .row _, .nil _ => .ret (.r [])
  | .row e, .sl e' es => bif Nat.beq e e' then .ret (.r es) else .fail
  | .row e, .ref n => (M.lowD n).bind fun _ => (M.row n).bind fun (e', d, es) => bif Nat.beq e e' then (match d with | true => .set n (.row e' false es) (.ret (.r es)) | false => .ret (.r es)) else .fail
  | .row e, .cut n e₁ f l => (M.row n).bind fun (e', d, es) => bif Nat.beq e e' && Nat.beq e₁ e then (match d with | true => .set n (.row e' false es) (.ret (.r ((es.drop f).take l))) | false => .ret (.r ((es.drop f).take l))) else .fail
  | _, _ => .fail
def packs (E : Env) : List Ty → List A → M (List T)
  | [], [] => .ret []
  | ty :: tys, a :: as => (pack E ty a).bind fun t => (packs E tys as).bind fun ts => .ret (t :: ts)
  | _, _ => .fail
/-- A view of a value: nothing is given away. -/
def view (E : Env) : Ty → A → M T
  | .int k, .i k' n => bif decide (k = k') then .ret (.i n) else .fail
  | .bool, .b x => .ret (.b x)
  | .str, .s x => .ret (.s x)
  | .row _, .nil _ => .ret (.r [])
  | .row e, .sl e' es => bif Nat.beq e e' then .ret (.r es) else .fail
  | .row e, .ref n => (M.rowV n).bind fun (e', es) => bif Nat.beq e e' then .ret (.r es) else .fail
  | .row e, .cut n e₁ f l => (M.row n).bind fun (e', _, es) => bif Nat.beq e e' && Nat.beq e₁ e then .ret (.r ((es.drop f).take l)) else .fail
  | _, _ => .fail
/-- A row is handed over. -/
def give (E : Env) : Bool → Ty → A → M T
  | true, .row _, .nil _ => .ret (.r [])
  | true, .row e, .ref n => (M.lowD n).bind fun _ => (M.row n).bind fun (e', d, es) => bif Nat.beq e e' && d then .set n .dead (.ret (.r es)) else .fail
  | true, .row e, .cut n e₁ f l => (M.row n).bind fun (e', d, es) => bif Nat.beq e e' && Nat.beq e₁ e && Nat.beq f 0 && d then .chk (decide (0 < es.length)) (.set n .dead (.ret (.r (es.take l)))) else .fail
  | true, .row _, _ => .fail
  | true, .deep _, .nil _ => .ret (.r [])
  | true, .deep e, .ref n => .get n fun
    | some (.deep e' es none) => bif Nat.beq e e' then .set n .dead (.ret (.r es)) else .fail
    | _ => .fail
  | true, .deep _, _ => .fail
  | true, .ptr e, .ptr n 0 => (M.var n).bind fun cs => (packs E (E.flat e) cs).bind fun c => (M.var n).bind fun _ => .set n .dead (.ret (.r [c]))
  | _, ty, a => pack E ty a
def gives (E : Env) : List Bool → List Ty → List A → M (List T)
  | _, [], [] => .ret []
  | ws, ty :: tys, a :: as => (give E (ws.headD false) ty a).bind fun t => (gives E ws.tail tys as).bind fun ts => .ret (t :: ts)
  | _, _, _ => .fail
/-- Arguments: rows that are taken are given, the others are seen; whose rows are seen. -/
def shows (E : Env) : List Bool → List Ty → List A → M (List T)
  | _, [], [] => .ret []
  | ws, ty :: tys, a :: as => (bif ws.headD false then give E true ty a else view E ty a).bind fun t => (shows E ws.tail tys as).bind fun ts => .ret (t :: ts)
  | _, _, _ => .fail
def seenIn : List Bool → List A → List Nm
  | ws, a :: as => match ws.headD false, a with
    | false, .ref n => n :: seenIn ws.tail as
    | false, .cut n _ _ _ => n :: seenIn ws.tail as
    | _, _ => seenIn ws.tail as
  | _, [] => []

/-- Of one cell, or a struct's cells: as the type has it. -/
def A.fits (E : Env) (t : Nat) : A → Bool
  | .agg cs => E.isAgg t && Nat.beq cs.length (E.sz t)
  | .tup _ => false
  | _ => !E.isAgg t && Nat.beq (E.sz t) 1
def splice {α : Type} : List α → Nat → List α → List α
  | cs, 0, vs => vs ++ cs.drop vs.length
  | c :: cs, o + 1, vs => c :: splice cs o vs
  | [], _ + 1, _ => []

def spliceT : List T → Nat → List T → List T
  | cs, 0, vs => vs ++ cs.drop vs.length
  | c :: cs, o + 1, vs => c :: spliceT cs o vs
  | [], o + 1, vs => .i 0 :: spliceT [] o vs

/-! ### Rows that are own with all that they lead to -/
/-- Cells' types, rows of rows as such. -/
def deepT (E : Env) : List Ty → List Ty
  | .row e :: tys => (bif E.plain e then .row e else .deep e) :: deepT E tys
  | ty :: tys => ty :: deepT E tys
  | [] => []
/-- Can these cells be put into a deep row? -/
def movable (E : Env) : List Ty → List A → M Bool
  | .row e :: tys, .ref n :: as => .get n fun
    | some (.row _ d _) => (match d with | true => bif E.plain e then movable E tys as else .ret false | false => .ret false)
    | some (.deep _ _ none) => movable E tys as
    | _ => .ret false
  | .row _ :: tys, .nil _ :: as => movable E tys as
  | .row _ :: _, _ :: _ => .ret false
  | _ :: tys, _ :: as => movable E tys as
  | _, _ => .ret true
/-- Given with all that they lead to. -/
def packsD (E : Env) (tys : List Ty) (as : List A) : M (List T) := gives E (tys.map fun | .row _ => true | _ => false) (deepT E tys) as
def setT (es : List (List T)) (i j : Nat) (t : T) : List (List T) := es.set i (spliceT (es.getD i []) j [t])
def tyIs (E : Env) (e j e' : Nat) : Bool := match (E.flat e)[j]? with | some (.row x) => Nat.beq x e' | _ => false
/-- A cell that is out goes back, where it can. -/
def closeM (E : Env) : Nat → Nm → M Unit
  | 0, _ => .ret ()
  | k + 1, n => .get n fun
    | some (.deep _ _ (some (_, _, n₀))) => (closeM E k n₀).bind fun _ => .get n fun
      | some (.deep e es (some (i, j, n'))) => .get n' fun
        | some (.row e' true es') => bif tyIs E e j e' && E.plain e' then .set n' .dead (.set n (.deep e (setT es i j (.r es')) none) (.ret ())) else .ret ()
        | some (.deep e' es' none) => bif tyIs E e j e' then .set n' .dead (.set n (.deep e (setT es i j (.r es')) none) (.ret ())) else .ret ()
        | _ => .ret ()
      | _ => .ret ()
    | _ => .ret ()
def closeL (E : Env) : List Nm → M Unit
  | [] => .ret ()
  | n :: ns => (closeM E 3 n).bind fun _ => closeL E ns
/-- Names' rows, and those in names' variables, are closed. -/
def A.nms : A → List Nm
  | .ref n => [n]
  | .cut n _ _ _ => [n]
  | .ep n _ _ _ => [n]
  | _ => []

def nmsL : List A → List Nm
  | [] => []
  | a :: as => a.nms ++ nmsL as
def A.tops : A → List Nm
  | .agg cs => nmsL cs
  | .ptr n _ => [n]
  | .clo _ (some n) => [n]
  | a => a.nms
def cellNms (n : Nm) : M (List Nm) := .get n fun | some (.var cs) => .ret (nmsL cs) | _ => .ret [n]
def closeOut (E : Env) : List Nm → M Unit
  | [] => .ret ()
  | n :: ns => (cellNms n).bind fun l => (closeL E l).bind fun _ => closeOut E ns
def opnd (E : Env) (σ : St) (t : Nat) : Operand → A
  | .tmp i => σ.sl i
  | .const (.int k n) => .i k n
  | .const (.bool x) => .b x
  | .const (.string x) => .s x
  | .const (.slice none 0 0) => .nil (E.elem t)
  | .const (.pointer none) => .nilp
  | .func f => .clo f none
  | _ => .undef

def loadM (E : Env) (t : Nat) : A → M A
  | .ptr n o => (M.var n).bind fun cs => bif E.known t && Nat.ble (o + E.sz t) cs.length then .ret (mkVal E t ((cs.drop o).take (E.sz t))) else .fail
  | .ep n e i o => (M.row n).bind fun (e', _, es) => bif Nat.beq e e' && E.known t && Nat.ble (o + E.sz t) (E.sz e) then .ret (mkVal E t (ofTs o (((E.flat e).drop o).take (E.sz t)) (es.getD i []))) else .fail
  | .vp tys cs o => bif E.known t && Nat.ble (o + E.sz t) tys.length then .ret (mkVal E t (ofTs o ((tys.drop o).take (E.sz t)) cs)) else .fail
  | _ => .fail
def storeM (E : Env) (t : Nat) (v : A) : A → M A
  | .ptr n o => (M.var n).bind fun cs => bif E.known t && Nat.ble (o + E.sz t) cs.length && Nat.beq v.cells.length (E.sz t) && solids v.cells then .set n (.var (splice cs o v.cells)) (.ret .skip) else .fail
  | .ep n e i o => (packs E (((E.flat e).drop o).take (E.sz t)) v.cells).bind fun ts => (M.row n).bind fun (e', d, es) => bif Nat.beq e e' && d && E.known t && Nat.ble (o + E.sz t) (E.sz e) && solids v.cells then .set n (.row e d (es.set i (spliceT (es.getD i []) o ts))) (.ret .skip) else .fail
  | _ => .fail
/-- Out of a deep row: what leads nowhere is read; a row is taken out, under a name of its own. -/
def loadD (E : Env) (dst t : Nat) (n : Nm) (e i o : Nat) (es : List (List T)) : M A :=
  bif E.known t && Nat.ble (o + E.sz t) (E.sz e) then
    bif (((E.flat e).drop o).take (E.sz t)).all Ty.flatB then .ret (mkVal E t (ofTs o (((E.flat e).drop o).take (E.sz t)) (es.getD i [])))
    else match E.isAgg t, (E.flat e)[o]? with
      | false, some (.row e') => (M.new (dst, 0) (bif E.plain e' then .row e' true ((es.getD i []).getD o (.i 0)).asR else .deep e' ((es.getD i []).getD o (.i 0)).asR none)).bind fun _ => .set n (.deep e es (some (i, o, (dst, 0)))) (.ret (.ref (dst, 0)))
      | _, _ => .fail
  else .fail
/-- What comes in, or comes back, in a cell: own rows are named by the place. -/
def reborn (E : Env) (s nm : Nat) : Nat → List Bool → List Ty → List T → M (List A)
  | _, _, [], _ => .ret []
  | j, ws, ty :: tys, cs => (match ws.headD false, ty with
    | true, .row e => (M.new (s, nm + j + 1) (.row e true ((cs.getD j (.i 0)).asR))).bind fun _ => .ret (.ref (s, nm + j + 1))
    | true, .deep e => (M.new (s, nm + j + 1) (.deep e ((cs.getD j (.i 0)).asR) none)).bind fun _ => .ret (.ref (s, nm + j + 1))
    | true, .ptr e => (M.new (s, nm + j + 1) (.var (ofTs 0 (E.flat e) ((cs.getD j (.i 0)).asR.headD [])))).bind fun _ => .ret (.ptr (s, nm + j + 1) 0)
    | _, ty => .ret (ofT ty (cs.getD j (.i 0))) : M A).bind fun a => (reborn E s nm (j + 1) ws.tail tys cs).bind fun r => .ret (a :: r)
/-- Which cells are rows. -/
def rowFs (tys : List Ty) : List Bool := tys.map fun | .row _ => true | _ => false
/-- Cells of an element, from one on. -/
def cellsAt (es : List (List T)) (i : Nat) : Nat → Nat → List T
  | _, 0 => []
  | o, n + 1 => (es.getD i []).getD o (.i 0) :: cellsAt es i (o + 1) n
/-- A whole element goes out of a deep row, its rows under names of their own; it does not come back. -/
def loadE (E : Env) (dst t : Nat) (n : Nm) (e i o : Nat) (es : List (List T)) : M A :=
  bif E.known t && E.isAgg t && Nat.ble (o + E.sz t) (E.sz e) then
    .set n (.deep e es (some (i, E.sz e, modeNm))) ((reborn E dst 0 0 (rowFs (((E.flat e).drop o).take (E.sz t))) (deepT E (((E.flat e).drop o).take (E.sz t))) (cellsAt es i o (E.sz t))).bind fun as => .ret (.agg as))
  else .fail
/-- Is it one row, or does it lead nowhere? -/
def oneRow (E : Env) (t e o : Nat) : Bool := !E.isAgg t && (match (E.flat e)[o]? with | some (.row _) => true | _ => false)
def loadX (E : Env) (dst t : Nat) : A → M A
  | .ep n e i o => .get n fun
    | some (.deep e' es none) => M.mode.bind fun md => bif Nat.beq e e' && ((((E.flat e).drop o).take (E.sz t)).all Ty.flatB || (md && oneRow E t e o)) then loadD E dst t n e i o es else bif Nat.beq e e' && md && E.isAgg t then loadE E dst t n e i o es else (M.lowD n).bind fun _ => loadM E t (.ep n e i o)
    | _ => loadM E t (.ep n e i o)
  | a => loadM E t a
/-- Into a deep row: rows are taken with all that they lead to; or else what it leads to is frozen. -/
def storeD (E : Env) (t : Nat) (v : A) (n : Nm) (e i o : Nat) : M A :=
  bif E.known t && Nat.ble (o + E.sz t) (E.sz e) && Nat.beq v.cells.length (E.sz t) && solids v.cells then
    (packsD E (((E.flat e).drop o).take (E.sz t)) v.cells).bind fun ts => .get n fun
      | some (.deep e' es none) => bif Nat.beq e e' then .set n (.deep e (es.set i (spliceT (es.getD i []) o ts)) none) (.ret .skip) else .fail
      | some (.deep e' es (some (i', j', _))) => bif Nat.beq e e' && Nat.beq j' o && Nat.beq (E.sz t) 1 then .chk (Nat.beq i' i) (.set n (.deep e (es.set i (spliceT (es.getD i []) o ts)) none) (.ret .skip)) else .fail
      | _ => .fail
  else .fail
def storeX (E : Env) (t : Nat) (v : A) : A → M A
  | .ep n e i o => .get n fun
    | some (.deep _ _ _) => (movable E (((E.flat e).drop o).take (E.sz t)) v.cells).bind fun b => bif b then storeD E t v n e i o else (M.lowD n).bind fun _ => storeM E t v (.ep n e i o)
    | _ => storeM E t v (.ep n e i o)
  | a => storeM E t v a
def fieldOff (E : Env) (t j : Nat) : Option (Nat × Nat) := match (E.ti t).kn with | .struct fs => fs[j]? | _ => none
def fieldAddrM (E : Env) (t j : Nat) (p : A) : M A :=
  match fieldOff E t j, p with
  | some (o', _), .ptr n o => .ret (.ptr n (o + o'))
  | some (o', _), .ep n e i o => .ret (.ep n e i (o + o'))
  | some (o', _), .vp tys cs o => .ret (.vp tys cs (o + o'))
  | _, _ => .fail
def fieldM (E : Env) (t j : Nat) (v : A) : M A :=
  match fieldOff E t j, v with
  | some (o', ft), .agg cs => bif E.known ft && Nat.ble (o' + E.sz ft) cs.length then .ret (mkVal E ft ((cs.drop o').take (E.sz ft))) else .fail
  | _, _ => .fail
def Ty.notPtr : Ty → Bool | .ptr _ | .deep _ => false | _ => true
def elOk (E : Env) (t e : Nat) : Bool := (E.flat e).all Ty.notPtr && Nat.beq (E.elem t) e && (match (E.ti t).kn with | .slice _ => true | _ => false) && Nat.ble 1 (E.sz e) && Nat.ble 1 (E.ti e).bytes
def indexAddrM (E : Env) (t : Nat) (x i : A) : M A :=
  match x, i with
  | .ref n, .i _ j => (M.rowL n).bind fun (e, l) => bif elOk E t e then .chk (decide (0 ≤ j) && decide (j < (l : Int))) (.ret (.ep n e j.toNat 0)) else .fail
  | .cut n e f l, .i _ j => bif elOk E t e then .chk (decide (0 ≤ j) && decide (j < (l : Int))) (.ret (.ep n e (f + j.toNat) 0)) else .fail
  | .sl e es, .i _ j => bif elOk E t e then .chk (decide (0 ≤ j) && decide (j < (es.length : Int))) (.ret (.vp (E.flat e) (es.getD j.toNat []) 0)) else .fail
  | _, _ => .fail
def lenM : A → M A
  | .nil _ => .ret (.i .i64 0)
  | .sl _ es => .ret (.i .i64 (es.length : Int))
  | .ref n => (M.rowL n).bind fun (_, l) => .ret (.i .i64 (l : Int))
  | .cut _ _ _ l => .ret (.i .i64 (l : Int))
  | _ => .fail
def bitsXor (k : IntKind) (a b : Int) : Int := k.wrap (BitVec.ofInt k.bits a ^^^ BitVec.ofInt k.bits b).toNat
def bitsAnd (k : IntKind) (a b : Int) : Int := k.wrap (BitVec.ofInt k.bits a &&& BitVec.ofInt k.bits b).toNat
def bitsOr (k : IntKind) (a b : Int) : Int := k.wrap (BitVec.ofInt k.bits a ||| BitVec.ofInt k.bits b).toNat
def binM (op : BinOp) (x y : A) : M A :=
  match x, y with
  | .i k a, .i k' b =>
    match op with
    | .shl => .chk (decide (0 ≤ b)) (.ret (.i k (k.wrap (a * 2 ^ (min b.toNat k.bits)))))
    | .shr => .chk (decide (0 ≤ b)) (.ret (.i k (a.fdiv (2 ^ (min b.toNat k.bits)))))
    | _ => bif decide (k = k') then
      match op with
      | .add => .ret (.i k (k.wrap (a + b)))
      | .sub => .ret (.i k (k.wrap (a - b)))
      | .mul => .ret (.i k (k.wrap (a * b)))
      | .quo => .chk (!decide (b = 0)) (.ret (.i k (k.wrap (a.tdiv b))))
      | .rem => .chk (!decide (b = 0)) (.ret (.i k (a.tmod b)))
      | .eql => .ret (.b (a == b))
      | .neq => .ret (.b (a != b))
      | .lss => .ret (.b (decide (a < b)))
      | .leq => .ret (.b (decide (a ≤ b)))
      | .gtr => .ret (.b (decide (a > b)))
      | .geq => .ret (.b (decide (a ≥ b)))
      | .xor => .ret (.i k (bitsXor k a b))
      | .and => .ret (.i k (bitsAnd k a b))
      | .or => .ret (.i k (bitsOr k a b))
      | _ => .fail
    else .fail
  | .s a, .s b => match op with
    | .add => .chk (Nat.ble (a.size + b.size) 9223372036854775807) (.ret (.s (a ++ b)))
    | .eql => .ret (.b (a.toList == b.toList))
    | .neq => .ret (.b (!(a.toList == b.toList)))
    | _ => .fail
  | _, _ => .fail
def boolKn : Kn → Bool | .bool => true | _ => false
def binB (E : Env) (op : BinOp) (xt : Nat) (x y : A) : M A :=
  match x, y with
  | .b a, .b b => bif boolKn (E.ti xt).kn then (match op with | .eql => .ret (.b (a == b)) | .neq => .ret (.b (!(a == b))) | _ => .fail) else .fail
  | x, y => binM op x y
def unM (op : UnOp) (x : A) : M A :=
  match op, x with
  | .not, .b x => .ret (.b (!x))
  | _, _ => .fail
def convM (E : Env) (dst : Nat) (x : A) : M A :=
  match (E.ti dst).kn, x with
  | .int k, .i _ n => .ret (.i k (k.wrap n))
  | _, _ => .fail
def strKn : Kn → Bool | .str => true | _ => false
/-- A text's byte. -/
def byteAt (s : ByteArray) (j : Nat) : Int := ((s.data.toList.getD j 0).toNat : Int)
def indexM (E : Env) (t : Nat) (x i : A) : M A :=
  match x, i with
  | .s s, .i _ j => bif strKn (E.ti t).kn then .chk (decide (0 ≤ j) && decide (j < (s.size : Int))) (.ret (.i .u8 (byteAt s j.toNat))) else .fail
  | _, _ => .fail
/-- The text that bytes spell. -/
def bytesT (es : List (List T)) : ByteArray := ⟨(es.map fun c => UInt8.ofNat (c.getD 0 (.i 0)).asI.toNat).toArray⟩
def u8s : List Ty → Bool | [.int .u8] => true | _ => false
def u8K : Kn → Bool | .int .u8 => true | _ => false
def elemsOf (e : Nat) : A → M (List (List T))
  | .nil _ => .ret []
  | .sl e' es => bif Nat.beq e e' then .ret es else .fail
  | .cut n e₁ f l => (M.row n).bind fun (e', _, es) => bif Nat.beq e e' && Nat.beq e e₁ then .ret ((es.drop f).take l) else .fail
  | .ref n => (M.row n).bind fun (e', _, es) => bif Nat.beq e e' then .ret es else .fail
  | _ => .fail
def convX (E : Env) (s t : Nat) (x : A) : M A :=
  bif strKn (E.ti t).kn then
    bif elOk E s (E.elem s) && u8s (E.flat (E.elem s)) && u8K (E.ti (E.elem s)).kn then (elemsOf (E.elem s) x).bind fun es => .ret (.s (bytesT es)) else .fail
  else convM E t x
def tmpOf : Operand → Option Nat | .tmp i => some i | _ => none
def appendM (E : Env) (dst t : Nat) (x : A) (y : A) : M A :=
  bif elOk E t (E.elem t) then
  match x with
  | .nil _ => (elemsOf (E.elem t) y).bind fun es' =>
    .chk (decide (es'.length * (E.ti (E.elem t)).bytes ≤ 140737488355328)) ((M.new (dst, 0) (.row (E.elem t) true es')).bind fun _ => .ret (.ref (dst, 0)))
  | .ref n => (M.row n).bind fun (e, d, es) => (elemsOf (E.elem t) y).bind fun es' =>
    bif Nat.beq (E.elem t) e && d then .chk (decide ((es.length + es'.length) * (E.ti (E.elem t)).bytes ≤ 140737488355328)) (.set n .dead ((M.new (dst, 0) (.row (E.elem t) true (es ++ es'))).bind fun _ => .ret (.ref (dst, 0)))) else .fail
  | _ => .fail
  else .fail
def lowA : A → M Unit
  | .ref n => M.lowD n
  | _ => .ret ()
/-- Is a value a deep row, or nil? Is it a deep row? -/
def deepA : A → M (Bool × Bool)
  | .nil _ => .ret (true, false)
  | .ref n => .get n fun | some (.deep _ _ none) => .ret (true, true) | _ => .ret (false, false)
  | _ => .ret (false, false)
def appendD (E : Env) (dst t : Nat) (x : A) (y : A) : M A :=
  bif elOk E t (E.elem t) then
    (give E true (.deep (E.elem t)) x).bind fun a => (give E true (.deep (E.elem t)) y).bind fun b =>
      .chk (decide ((a.asR.length + b.asR.length) * (E.ti (E.elem t)).bytes ≤ 140737488355328)) ((M.new (dst, 0) (.deep (E.elem t) (a.asR ++ b.asR) none)).bind fun _ => .ret (.ref (dst, 0)))
  else .fail
/-- Is a value a row with an argument's row out? -/
def lateA : A → M Bool
  | .ref n => .get n fun | some (.deep _ _ (some (_, _, nm))) => M.late.bind fun k => .ret (Nat.blt nm.1 k) | _ => .ret false
  | _ => .ret false
/-- The cell that is out stays out. -/
def appendL (E : Env) (dst t : Nat) (x : A) : A → M A
  | .ref n => bif elOk E t (E.elem t) then
    (give E true (.deep (E.elem t)) x).bind fun a => .get n fun
      | some (.deep e' es (some (i, j, nm))) => bif Nat.beq (E.elem t) e' && Nat.blt j (E.sz e') then .set n .dead
        (.chk (decide ((a.asR.length + es.length) * (E.ti (E.elem t)).bytes ≤ 140737488355328)) ((M.new (dst, 0) (.deep (E.elem t) (a.asR ++ es) (some (a.asR.length + i, j, nm)))).bind fun _ => .ret (.ref (dst, 0)))) else .fail
      | _ => .fail
    else .fail
  | _ => .fail
def appendX (E : Env) (dst t : Nat) (x : A) (y : A) : M A :=
  bif E.plain (E.elem t) then appendM E dst t x y else
  M.mode.bind fun md => (deepA x).bind fun dx => (deepA y).bind fun dy =>
    (lateA y).bind fun ly => bif dx.1 && ly then appendL E dst t x y else
    bif dx.1 && dy.1 && (dx.2 || (md && dy.2)) then appendD E dst t x y else (lowA x).bind fun _ => (lowA y).bind fun _ => appendM E dst t x y
def zerosT (E : Env) (e : Nat) : List T := (E.flat e).map zeroT
/-- Elements laid over a row's, from a place on. -/
def overlay (es : List (List T)) (f : Nat) (xs : List (List T)) : List (List T) := es.take f ++ (xs ++ es.drop (f + xs.length))
def copyM (E : Env) (t : Nat) (x y : A) : M A :=
  bif elOk E t (E.elem t) && Nat.beq (E.sz (E.elem t)) 1 then
  match x with
  | .ref n => (M.row n).bind fun (e, d, es) => (elemsOf (E.elem t) y).bind fun ys => bif Nat.beq (E.elem t) e && d then .set n (.row e true (overlay es 0 (ys.take es.length))) (.ret (.i .i64 ((ys.take es.length).length : Int))) else .fail
  | .cut n e₁ f l => (M.row n).bind fun (e, d, es) => (elemsOf (E.elem t) y).bind fun ys => bif Nat.beq (E.elem t) e && Nat.beq e₁ e && d then .set n (.row e true (overlay es f (ys.take l))) (.ret (.i .i64 ((ys.take l).length : Int))) else .fail
  | _ => .fail
  else .fail
def clearM (E : Env) (t : Nat) (x : A) : M A :=
  bif elOk E t (E.elem t) then
  match x with
  | .ref n => (M.row n).bind fun (e, d, es) => bif Nat.beq (E.elem t) e && d then .set n (.row e true (overlay es 0 (List.replicate es.length (zerosT E e)))) (.ret (.tup [])) else .fail
  | .cut n e₁ f l => (M.row n).bind fun (e, d, es) => bif Nat.beq (E.elem t) e && Nat.beq e₁ e && d then .set n (.row e true (overlay es f (List.replicate l (zerosT E e)))) (.ret (.tup [])) else .fail
  | _ => .fail
  else .fail
def makeM (E : Env) (dst t : Nat) (n c : A) : M A :=
  match n, c with
  | .i .i64 n, .i .i64 c => bif elOk E t (E.elem t) then .chk (decide (n = c) && decide (0 ≤ n) && decide (n * (E.ti (E.elem t)).bytes ≤ 140737488355328)) ((M.new (dst, 0) (.row (E.elem t) true (List.replicate n.toNat (zerosT E (E.elem t))))).bind fun _ => .ret (.ref (dst, 0))) else .fail
  | _, _ => .fail
def makeD (E : Env) (dst t : Nat) (n c : A) : M A :=
  match n, c with
  | .i .i64 n, .i .i64 c => bif elOk E t (E.elem t) then .chk (decide (n = c) && decide (0 ≤ n) && decide (n * (E.ti (E.elem t)).bytes ≤ 140737488355328)) ((M.new (dst, 0) (.deep (E.elem t) (List.replicate n.toNat (zerosT E (E.elem t))) none)).bind fun _ => .ret (.ref (dst, 0))) else .fail
  | _, _ => .fail
def makeX (E : Env) (dst t : Nat) (n c : A) : M A :=
  bif E.plain (E.elem t) then makeM E dst t n c else
  M.mode.bind fun md => bif md then makeD E dst t n c else makeM E dst t n c
def partsOf (E : Env) (σ : St) (t : Nat) (j : Nat) : List (Nat × Operand) → Option A
  | [] => none
  | (i, x) :: r => bif Nat.beq i j then some (opnd E σ t x) else partsOf E σ t j r
/-- The parts of a row that is written out: each place once, from the first on. -/
def rowM (E : Env) (σ : St) (e : Nat) : Nat → List (Nat × Operand) → M (List (List T))
  | _, [] => .ret []
  | j, (i, x) :: r => bif Nat.beq i j && solids (opnd E σ e x).cells then (packs E (E.flat e) (opnd E σ e x).cells).bind fun c => (rowM E σ e (j + 1) r).bind fun cs => .ret (c :: cs) else .fail
/-- The same, with all that they lead to. -/
def rowD (E : Env) (σ : St) (e : Nat) : Nat → List (Nat × Operand) → M (List (List T))
  | _, [] => .ret []
  | j, (i, x) :: r => bif Nat.beq i j && solids (opnd E σ e x).cells && Nat.beq (opnd E σ e x).cells.length (E.sz e) then (packsD E (E.flat e) (opnd E σ e x).cells).bind fun c => (rowD E σ e (j + 1) r).bind fun cs => .ret (c :: cs) else .fail
/-- The one row among cells, an argument's. -/
def noRow : A → Bool | .i _ _ | .b _ | .s _ | .nil _ => true | _ => false
def lateAt (k : Nat) : Nat → List A → Option (Nat × Nm)
  | _, [] => none
  | j, .ref n :: r => bif Nat.blt n.1 k && r.all noRow then some (j, n) else none
  | j, a :: r => bif noRow a then lateAt k (j + 1) r else none
def latePs (E : Env) (σ : St) (e k : Nat) : List (Nat × Operand) → Option (Nat × Nm)
  | [(0, x)] => lateAt k 0 (opnd E σ e x).cells
  | _ => none
def movables (E : Env) (σ : St) (e : Nat) : List (Nat × Operand) → M Bool
  | [] => .ret true
  | (_, x) :: r => (movable E (E.flat e) (opnd E σ e x).cells).bind fun b => bif b then movables E σ e r else .ret false
def buildAgg (E : Env) (σ : St) (fs : List (Nat × Nat)) : List (Nat × Operand) → List A → Option (List A)
  | [], cs => some cs
  | (j, x) :: r, cs => match fs[j]? with
    | some (o, ft) => bif Nat.beq (opnd E σ ft x).cells.length (E.sz ft) && Nat.ble (o + (opnd E σ ft x).cells.length) cs.length && solids (opnd E σ ft x).cells then buildAgg E σ fs r (splice cs o (opnd E σ ft x).cells) else none
    | none => none
def bnd (d : Int) : Option A → Option Int
  | none => some d
  | some (.i _ a) => some a
  | _ => none
def sliceM (E : Env) (t : Nat) (x : A) (lo hi : Option A) : M A :=
  match x with
  | .s s => (match bnd 0 lo, bnd s.size hi with
    | some a, some b => bif strKn (E.ti t).kn then .chk (decide (0 ≤ a) && decide (a ≤ b) && decide (b ≤ (s.size : Int))) (.ret (.s (s.extract a.toNat b.toNat))) else .fail
    | _, _ => .fail)
  | .sl e es => (match bnd 0 lo, bnd es.length hi with
    | some a, some b => bif elOk E t e then .chk (decide (0 ≤ a) && decide (a ≤ b) && decide (b ≤ (es.length : Int))) (.ret (.sl e ((es.drop a.toNat).take (b.toNat - a.toNat)))) else .fail
    | _, _ => .fail)
  | .ref n => (M.row n).bind fun (e, _, es) => (match bnd 0 lo, bnd es.length hi with
    | some a, some b => bif elOk E t e then .chk (decide (0 ≤ a) && decide (a ≤ b) && decide (b ≤ (es.length : Int))) (.ret (.cut n e a.toNat (b.toNat - a.toNat))) else .fail
    | _, _ => .fail)
  | .cut n e₁ f l => (M.row n).bind fun (e, _, es) => (match bnd 0 lo, bnd l hi with
    | some a, some b => bif elOk E t e && Nat.beq e₁ e then .chk (decide (0 ≤ a) && decide (a ≤ b) && decide (b + (f : Int) ≤ (es.length : Int)) && decide (f < es.length)) (.ret (.cut n e (f + a.toNat) (b.toNat - a.toNat))) else .fail
    | _, _ => .fail)
  | _ => .fail

/-- Elements are taken out of a row that is own. -/
def delIn (l : Nat) (a b : Int) : Bool := decide (0 ≤ a) && decide (a < b) && decide (b ≤ (l : Int))
def deleteM (E : Env) (e dst : Nat) : List A → M A
  | [.ref n, .i .i64 a, .i .i64 b] => .get n fun
    | some (.row e' true es) => bif Nat.beq e e' then .chk (delIn es.length a b) (.set n .dead ((M.new (dst, 0) (.row e true (es.take a.toNat ++ es.drop b.toNat))).bind fun _ => .ret (.ref (dst, 0)))) else .fail
    | some (.deep e' es none) => bif Nat.beq e e' then .chk (delIn es.length a b) (.set n .dead ((M.new (dst, 0) (.deep e (es.take a.toNat ++ es.drop b.toNat) none)).bind fun _ => .ret (.ref (dst, 0)))) else .fail
    | some (.deep e' es (some (i, j, _))) => bif Nat.beq e e' && Nat.ble (E.sz e) j then .chk (delIn es.length a b) (.chk (decide (a ≤ (i : Int)) && decide ((i : Int) < b)) (.set n .dead ((M.new (dst, 0) (.deep e (es.take a.toNat ++ es.drop b.toNat) none)).bind fun _ => .ret (.ref (dst, 0))))) else .fail
    | _ => .fail
  | _ => .fail

/-! ### Calls -/
/-- An argument: a value's cells, or a variable that is lent: its cells. -/
inductive Arg where
  | v (cs : List T)
  | p (cs : List T)
  | c (f : FuncId) (o : Option (List T))   -- a function value, and what it holds
  | r (es : List (List T))                 -- a row that is lent
  | s (cs : List T)                        -- a value whose rows are lent
structure Outs where
  res : List T
  vars : List (List T)
structure Lent where
  n : Nm
  ws : List Bool
  tys : List Ty
  row : Bool
  as : Option (List A)
/-- A slice that is lent: where a second flag stands; the first says whether with all that it leads to. -/
def lendTy (ws : List Bool) (e : Nat) : Ty := bif ws.headD false then .deep e else .row e
def lendOf (E : Env) (t : Nat) (ws : List Bool) : Option Nat := match E.flat t, ws with | [.row e], [_, true] => some e | _, _ => none
def lendO (ws : List Bool) (e : Nat) (es : List (List T)) : O := bif ws.headD false then .deep e es none else .row e true es
def Ty.isRow : Ty → Bool | .row _ | .deep _ => true | _ => false
def allRows : List Bool → List Ty → Bool
  | ws, ty :: tys => (!ty.isRow || ws.headD false) && allRows ws.tail tys
  | _, [] => true
def refsOk : List A → Bool
  | .ref _ :: as => refsOk as
  | .nil _ :: as => refsOk as
  | .i _ _ :: as => refsOk as
  | .b _ :: as => refsOk as
  | .s _ :: as => refsOk as
  | [] => true
  | _ => false
/-- A value whose rows are lent: one flag more behind all others. -/
def lentS (E : Env) (t : Nat) (ws : List Bool) : Bool := E.isAgg t && Nat.beq ws.length (2 * E.sz t + 1) && (E.flat t).all Ty.notPtr && allRows ws (fl ws (E.flat t))
def argsM (E : Env) : List (List Bool) → List Nat → List A → M (List Arg × List Lent × List Nm)
  | _, [], [] => .ret ([], [], [])
  | ws, t :: ts, a :: as =>
    match a with
    | .clo f none => (argsM E ws.tail ts as).bind fun (r, l, v) => .ret (.c f none :: r, l, v)
    | .clo f (some n) => (M.var n).bind fun cs => (gives E [] (E.flat (E.fe f)) cs).bind fun c => (M.var n).bind fun _ => .set n .dead ((argsM E ws.tail ts as).bind fun (r, l, v) => .ret (.c f (some c) :: r, ⟨n, [], E.flat (E.fe f), false, none⟩ :: l, v))
    | a =>
    match E.pel t with
    | some e => (match a with
      | .ptr n 0 => (M.var n).bind fun cs => (gives E (ws.headD []) (fl (ws.headD []) (E.flat e)) cs).bind fun c => (M.var n).bind fun _ => .set n .dead ((argsM E ws.tail ts as).bind fun (r, l, v) => .ret (.p c :: r, ⟨n, ws.headD [], fl (ws.headD []) (E.flat e), false, none⟩ :: l, v))
      | _ => .fail)
    | none =>
    match lendOf E t (ws.headD []) with
    | some e => (match a with
      | .ref n => (give E true (lendTy (ws.headD []) e) (.ref n)).bind fun c => (argsM E ws.tail ts as).bind fun (r, l, v) => .ret (.r c.asR :: r, ⟨n, [true], [lendTy (ws.headD []) e], true, none⟩ :: l, v)
      | _ => .fail)
    | none => bif a.fits E t then bif lentS E t (ws.headD []) then
        bif refsOk a.cells then (gives E (ws.headD []) (fl (ws.headD []) (E.flat t)) a.cells).bind fun c => (argsM E ws.tail ts as).bind fun (r, l, v) => .ret (.s c :: r, ⟨(0, 0), ws.headD [], fl (ws.headD []) (E.flat t), false, some a.cells⟩ :: l, v) else .fail
      else (shows E (ws.headD []) (fl (ws.headD []) (E.flat t)) a.cells).bind fun c => (argsM E ws.tail ts as).bind fun (r, l, v) => .ret (.v c :: r, l, seenIn (ws.headD []) a.cells ++ v) else .fail
  | _, _, _ => .fail
def M.back (n : Nm) (o : O) : M Unit := .get n fun | some .dead => .set n o (.ret ()) | _ => .fail
/-- The rows of a value come back. -/
def backs : Nat → List Bool → List Ty → List A → List T → M Unit
  | j, ws, ty :: tys, a :: as, cs => (match ws.headD false, ty, a with
    | true, .row e, .ref n => M.back n (.row e true (cs.getD j (.i 0)).asR)
    | true, .deep e, .ref n => M.back n (.deep e (cs.getD j (.i 0)).asR none)
    | _, _, _ => .ret () : M Unit).bind fun _ => backs (j + 1) ws.tail tys as cs
  | _, _, _, _, _ => .ret ()
def givenBack (E : Env) (d : Nat) : Nat → List Lent → List (List T) → M Unit
  | _, [], _ => .ret ()
  | i, l :: ls, vs => (match l.as with
    | some as => backs 0 l.ws l.tys as (vs.headD [])
    | none => match l.row, l.tys with
    | true, [.row e] => M.back l.n (.row e true ((vs.headD []).getD 0 (.i 0)).asR)
    | true, [.deep e] => M.back l.n (.deep e ((vs.headD []).getD 0 (.i 0)).asR none)
    | true, _ => .fail
    | false, _ => (reborn E d (100 * (i + 1)) 0 l.ws l.tys (vs.headD [])).bind fun cs => M.back l.n (.var cs) : M Unit).bind fun _ => givenBack E d (i + 1) ls vs.tail
/-- What is seen was not given away. -/
def aliveAll : List Nm → M Unit
  | [] => .ret ()
  | n :: ns => .get n fun | some (.row _ _ _) => aliveAll ns | some (.deep _ _ _) => aliveAll ns | _ => .fail
def freezeAll : List Nm → M Unit
  | [] => .ret ()
  | n :: ns => .get n fun
    | some (.row e true es) => .set n (.row e false es) (freezeAll ns)
    | some (.row _ false _) => freezeAll ns
    | some (.deep e es none) => .set n (.row e false es) (freezeAll ns)
    | _ => .fail
def shares (E : Env) : List Bool → List Ty → Bool
  | ws, .row e :: tys => !(ws.headD false) || !E.plain e || shares E ws.tail tys
  | ws, .deep _ :: tys => !(ws.headD false) || shares E ws.tail tys
  | ws, .ptr e :: tys => !E.plain e || shares E ws.tail tys
  | ws, _ :: tys => shares E ws.tail tys
  | _, [] => false
def lentShares (E : Env) : List Lent → Bool
  | [] => false
  | l :: ls => shares E l.ws l.tys || lentShares E ls
/-- The results' cells on the way out. -/
def resOf (E : Env) (cs : List A) : List Nat → List A
  | [] => []
  | t :: ts => mkVal E t (cs.take (E.sz t)) :: resOf E (cs.drop (E.sz t)) ts
def resTys (E : Env) : List Nat → List Ty
  | [] => []
  | t :: ts => E.flat t ++ resTys E ts

def resFl (E : Env) (sg : Sig) (fn : Func) : List Ty := fl sg.res (resTys E fn.resultTypes.toList)

abbrev Call := FuncId → List Arg → Option Outs

/-- Go's own functions. -/
def builtinM (E : Env) (σ : St) (dst : Nat) (b : Builtin) (args : List Operand) (tys : List Nat) : M A :=
  match b, args, tys with
  | .len, [x], [t] => (match (E.ti t).kn with | .slice _ => lenM (opnd E σ t x) | .str => (match opnd E σ t x with | .s x => .ret (.i .i64 (x.size : Int)) | _ => .fail) | _ => .fail)
  | .append, [x, y], [t, u] => bif Nat.beq t u then appendX E dst t (opnd E σ t x) (opnd E σ u y) else .fail
  | .copy, [x, y], [t, u] => copyM E t (opnd E σ t x) (opnd E σ u y)
  | .clear, [x], [t] => clearM E t (opnd E σ t x)
  | .max, [x, y], [t, u] => (match opnd E σ t x, opnd E σ u y with | .i k a, .i k' b => bif decide (k = k') then .ret (.i k (if b > a then b else a)) else .fail | _, _ => .fail)
  | .min, [x, y], [t, u] => (match opnd E σ t x, opnd E σ u y with | .i k a, .i k' b => bif decide (k = k') then .ret (.i k (if b < a then b else a)) else .fail | _, _ => .fail)
  | _, _, _ => .fail

def buildM (E : Env) (σ : St) (dst t n : Nat) (ps : Array (Nat × Operand)) : M A :=
  bif elOk E t (E.elem t) && Nat.beq ps.toList.length n && Nat.ble (n * E.sz (E.elem t)) 16777216 then
      (rowM E σ (E.elem t) 0 ps.toList).bind fun es => (M.new (dst, 0) (.row (E.elem t) true es)).bind fun _ => .ret (.ref (dst, 0)) else .fail
def buildD (E : Env) (σ : St) (dst t n : Nat) (ps : Array (Nat × Operand)) : M A :=
  bif elOk E t (E.elem t) && Nat.beq ps.toList.length n && Nat.ble (n * E.sz (E.elem t)) 16777216 then
      (rowD E σ (E.elem t) 0 ps.toList).bind fun es => (M.new (dst, 0) (.deep (E.elem t) es none)).bind fun _ => .ret (.ref (dst, 0)) else .fail
/-- One element, an argument's row of which stays at hand. -/
def buildL (E : Env) (σ : St) (dst t n j : Nat) (nm : Nm) : List (Nat × Operand) → M A
  | [(0, x)] => bif elOk E t (E.elem t) && Nat.beq n 1 && Nat.ble (E.sz (E.elem t)) 16777216 && solids (opnd E σ (E.elem t) x).cells && Nat.beq (opnd E σ (E.elem t) x).cells.length (E.sz (E.elem t)) then
      (shows E [] (E.flat (E.elem t)) (opnd E σ (E.elem t) x).cells).bind fun c => (M.new (dst, 0) (.deep (E.elem t) [c] (some (0, j, nm)))).bind fun _ => .ret (.ref (dst, 0)) else .fail
  | _ => .fail
/-- What an operation does: its value, on objects; a call of a Go function apart. -/
def opM (E : Env) (σ : St) (o : Oper) (dst : Nat) : M A :=
  match o.op with
  | .move x | .assign x => .ret (opnd E σ o.type x)
  | .pick c a b => match opnd E σ 0 c with
    | .b x => (match opnd E σ o.type a, opnd E σ o.type b with
      | .b p, .b q => .ret (.b (bif x then p else q))
      | p, q => (match x with | true => .ret p | false => .ret q))
    | _ => .fail
  | .alloc t => bif E.known t then (M.new (dst, 0) (.var ((E.flat t).map zeroA))).bind fun _ => .ret (.ptr (dst, 0) 0) else .fail
  | .box t v => bif Nat.beq (opnd E σ t v).cells.length (E.sz t) && solids (opnd E σ t v).cells then (M.new (dst, 0) (.var (opnd E σ t v).cells)).bind fun _ => .ret (.ptr (dst, 0) 0) else .fail
  | .build t ps => match (E.ti t).kn with
    | .struct fs => (match buildAgg E σ fs ps.toList ((E.flat t).map zeroA) with | some cs => bif E.known t then .ret (.agg cs) else .fail | none => .fail)
    | _ => .fail
  | .buildSlice t n ps => bif E.plain (E.elem t) then buildM E σ dst t n ps else
      M.mode.bind fun md => bif md then ((movables E σ (E.elem t) ps.toList).bind fun b => bif b then (M.late.bind fun k => match latePs E σ (E.elem t) k ps.toList with | some (j, nm) => buildL E σ dst t n j nm ps.toList | none => buildD E σ dst t n ps) else buildM E σ dst t n ps) else buildM E σ dst t n ps
  | .load t p => loadX E dst t (opnd E σ 0 p)
  | .store t p v => storeX E t (opnd E σ t v) (opnd E σ 0 p)
  | .nilCheck x => match opnd E σ 0 x with | .ptr n o => .ret (.ptr n o) | .ep n e i o => .ret (.ep n e i o) | .vp t c o => .ret (.vp t c o) | _ => .fail
  | .binOp op xt x y yt => binB E op xt (opnd E σ xt x) (opnd E σ yt y)
  | .unOp op xt x => unM op (opnd E σ xt x)
  | .convert s t x => bif E.known s then convX E s t (opnd E σ s x) else .fail
  | .makeSlice t n c => makeX E dst t (opnd E σ 0 n) (opnd E σ 0 c)
  | .slice t x lo hi none => sliceM E t (opnd E σ t x) (lo.map (opnd E σ 0)) (hi.map (opnd E σ 0))
  | .fieldAddr t x j => fieldAddrM E t j (opnd E σ 0 x)
  | .field t x j => fieldM E t j (opnd E σ t x)
  | .indexAddr t x i => indexAddrM E t (opnd E σ t x) (opnd E σ 0 i)
  | .index t x i => indexM E t (opnd E σ t x) (opnd E σ 0 i)
  | .makeFunc (.func f) first captured => (match first.toList, captured.toList.map (opnd E σ 0) with
    | [], [] => .ret (.clo f none)
    | [], [.ptr n 0] => .ret (.clo f (some n))
    | _, _ => .fail)
  | .extract x j => match opnd E σ 0 x with | .tup vs => (match vs[j]? with | some v => .ret v | none => .fail) | _ => .fail
  | .call c => (match c.callee with | .builtin b => builtinM E σ dst b c.args.toList c.argTypes.toList | _ => .fail)
  | _ => .fail

def St.put (σ : St) (d : Option Nat) (a : A) : St :=
  match d with
  | none => σ
  | some i => ⟨fun j => bif Nat.beq j i then a else σ.sl j, σ.mem⟩
/-- Who is called: with which operands, and with what a function value holds. -/
def callee? (σ : St) (o : Oper) : Option (FuncId × List Operand × List A) :=
  match o.op with
  | .call { callee := .value (.func f), args, .. } => some (f, args.toList, [])
  | .call { callee := .value (.tmp i), args, .. } => (match σ.sl i with
    | .clo f none => some (f, args.toList, [])
    | .clo f (some n) => some (f, args.toList, [.ptr n 0])
    | _ => none)
  | _ => none
def opnds (E : Env) (σ : St) : List Nat → List Operand → List A
  | t :: ts, x :: xs => opnd E σ t x :: opnds E σ ts xs
  | _, _ => []
def noTups : List A → Bool
  | [] => true
  | .tup _ :: _ => false
  | _ :: r => noTups r
def behind (E : Env) (sg : Sig) (fn : Func) (d : Nat) (l : List Lent) (seen : List Nm) (out : Outs) : M A :=
  (bif shares E sg.res (resFl E sg fn) || lentShares E l then freezeAll seen else .ret ()).bind fun _ =>
  (reborn E d 0 0 sg.res (resFl E sg fn) out.res).bind fun cs => (givenBack E d 0 l out.vars).bind fun _ =>
    .ret (match fn.resultTypes.toList with | [t] => mkVal E t cs | ts => .tup (resOf E cs ts))
/-- Ahead of an operation: cells that are out go back to the deep rows that it speaks of. -/
def prepNms (σ : St) : List Operand → List Nm
  | [] => []
  | .tmp i :: r => (σ.sl i).tops ++ prepNms σ r
  | _ :: r => prepNms σ r
/-- What touches rows. -/
def prepOn : Op → Bool | .load _ _ | .store _ _ _ | .call _ | .buildSlice _ _ _ => true | _ => false
/-- The same, where arguments' rows stay at hand. -/
def closeLP (E : Env) : List Nm → M Unit
  | [] => .ret ()
  | n :: ns => (lateA (.ref n)).bind fun l => (bif l then .ret () else closeM E 3 n).bind fun _ => closeLP E ns
def closeOutP (E : Env) : List Nm → M Unit
  | [] => .ret ()
  | n :: ns => (cellNms n).bind fun l => (closeLP E l).bind fun _ => closeOutP E ns
def prepM (E : Env) (σ : St) (o : Oper) : M Unit := bif !prepOn o.op then .ret () else match prepNms σ o.op.operands.toList with | [] => .ret () | n :: ns => M.mode.bind fun md => bif md then closeOutP E (n :: ns) else .ret ()
/-- An operation, and what follows. -/
def step {R : Type} (E : Env) (F : Call) (σ : St) (o : Oper) (K : St → FP → Option R) : Option R :=
  match callee? σ o with
  | some (f, args, more) =>
    match delOf E.del f with
    | some e => (match more with
      | [] => ((prepM E σ o).bind fun _ => deleteM E e (o.dst.getD 0) (args.map (opnd E σ 0))).run σ.mem ⟨[], []⟩ fun a m p => K (St.put ⟨σ.sl, m⟩ o.dst a) p
      | _ => none)
    | none =>
    match E.fn f with
    | none => none
    | some fn => bif Nat.beq args.length fn.params.toList.length && Nat.beq more.length (E.sig f).free.length && noTups (opnds E σ fn.params.toList args) then
      ((prepM E σ o).bind fun _ => (argsM E (E.sig f).ins (pars (E.sig f) fn) (opnds E σ fn.params.toList args ++ more)).bind fun r => (aliveAll r.2.2).bind fun _ => .ret r).run σ.mem ⟨[], []⟩ fun (ins, l, seen) m p =>
        match F f ins with
        | none => none
        | some out => (behind E (E.sig f) fn (o.dst.getD 0) l seen out).run m p fun a m p => K (St.put ⟨σ.sl, m⟩ o.dst a) p
      else none
  | none => ((prepM E σ o).bind fun _ => opM E σ o (o.dst.getD 0)).run σ.mem ⟨[], []⟩ fun a m p => K (St.put ⟨σ.sl, m⟩ o.dst a) p

def slotOf (ops : List Oper) (j : Nat) : Option Nat := match ops[j]? with | some o => o.dst | none => none
/-- Operations in the text's order; what each touches. -/
def evalOps {R : Type} (E : Env) (F : Call) (all : List Oper) : List Oper → St → List FP → (St → List FP → Option R) → Option R
  | [], σ, ps, K => K σ ps
  | o :: os, σ, ps, K =>
    match o.guard with
    | none => step E F σ o fun σ' p => evalOps E F all os σ' (p :: ps) K
    | some (j, want) =>
      match slotOf all j with
      | none => none
      | some s =>
        match σ.sl s with
        | .b x =>
          match want with
          | true => bif x then step E F (σ.put (some s) (.b true)) o fun σ' p => evalOps E F all os σ' (p :: ps) K else evalOps E F all os ((σ.put (some s) (.b false)).put o.dst .skip) (⟨[], []⟩ :: ps) K
          | false => bif x then evalOps E F all os ((σ.put (some s) (.b true)).put o.dst .skip) (⟨[], []⟩ :: ps) K else step E F (σ.put (some s) (.b false)) o fun σ' p => evalOps E F all os σ' (p :: ps) K
        | .skip => evalOps E F all os (σ.put o.dst .skip) (⟨[], []⟩ :: ps) K
        | _ => none

/-! ### A region that draws its order: what is not ordered must not touch the same -/
def befores : List Oper → List Nat → List Nat
  | [], acc => acc
  | o :: os, acc => befores os (acc ++ [o.after.toList.foldl (fun s e => bif Region.binds .any e then Nat.lor (Nat.lor s (2 ^ e.on)) (acc.getD e.on 0) else s) 0])
def looks (all : List Oper) (o : Oper) : List Nat := (o.op.operands.toList.filterMap tmpOf) ++ (match o.guard with | some (j, _) => (slotOf all j).toList | none => [])
def memB (x : Nat) (l : List Nat) : Bool := l.any (Nat.beq x)
def meets (a b : List Nm) : Bool := a.any fun x => b.any (nmBeq x)
def apartSlots (all : List Oper) (x y : Oper) : Bool :=
  (match x.dst with | some d => !memB d (looks all y) && !(match y.dst with | some e => Nat.beq d e | none => false) | none => true) && (match y.dst with | some d => !memB d (looks all x) | none => true)
def apartFP (p q : FP) : Bool := !meets p.wr q.rd && !meets p.wr q.wr && !meets q.wr p.rd
def pairsOk (all : List Oper) (bs : List Nat) (ps : List FP) : Bool :=
  (List.range all.length).all fun j => (List.range j).all fun i =>
    Nat.testBit (bs.getD j 0) i || (match all[i]?, all[j]? with | some x, some y => apartSlots all x y && apartFP (ps.getD i ⟨[], []⟩) (ps.getD j ⟨[], []⟩) | _, _ => false)

/-- What is asked for comes ahead in the text. -/
def edgesOk : List Oper → Nat → Bool
  | [], _ => true
  | o :: os, j => o.after.toList.all (fun e => !(Region.binds .any e) || Nat.blt e.on j) && edgesOk os (j + 1)
def noSel : List Oper → Bool
  | [] => true
  | o :: os => (match o.op with | .select _ _ => false | _ => true) && noSel os
def drawsOk (all : List Oper) (ps : List FP) : Bool := edgesOk all 0 && pairsOk all (befores all []) ps

/-! ### Which temporaries live on -/
def readsOps (all : List Oper) : List Nat := all.flatMap (looks all)
def reads : Code → List Nat
  | .region _ ops _ => readsOps ops.toList
  | .seq a b => reads a ++ reads b
  | .cond c a b => (tmpOf c).toList ++ reads a ++ reads b
  | .block _ a | .loop a | .scope a => reads a
  | _ => []
def expOps (all : List Oper) : List Oper → List Nat → List Nat × List Nat
  | [], as => ([], as)
  | o :: os, as => let r := expOps all os (o.dst.toList ++ as); ((looks all o).filter (fun x => !memB x as) ++ r.1, r.2)
def exposed : Code → List Nat → List Nat × List Nat
  | .region _ ops _, as => expOps ops.toList ops.toList as
  | .seq a b, as => let r := exposed a as; let q := exposed b r.2; (r.1 ++ q.1, q.2)
  | .cond c a b, as => ((tmpOf c).toList.filter (fun x => !memB x as) ++ (exposed a as).1 ++ (exposed b as).1, as)
  | .block _ a, as | .loop a, as | .scope a, as => ((exposed a as).1, as)
  | _, as => ([], as)
def dedup : List Nat → List Nat
  | [] => []
  | x :: xs => bif memB x xs then dedup xs else x :: dedup xs
def insertN (x : Nat) : List Nat → List Nat
  | [] => [x]
  | y :: ys => bif Nat.blt x y then x :: y :: ys else y :: insertN x ys
def sortN : List Nat → List Nat
  | [] => []
  | x :: xs => insertN x (sortN xs)

/-! ### The state at a loop's head, in one form -/
def lookN (l : List (Nm × Nm)) (n : Nm) : Option Nm := match l with | [] => none | (a, b) :: r => bif nmBeq n a then some b else lookN r n
/-- New names, by the place where an object is met first. -/
def nameRow (m : Mem) (at_ : Nm) (ren : List (Nm × Nm)) (n : Nm) : List (Nm × Nm) :=
  match lookN ren n with
  | some _ => ren
  | none => match m n with | some (.row _ _ _) => ren ++ [(n, at_)] | some (.deep _ _ _) => ren ++ [(n, at_)] | _ => ren
def nameA (m : Mem) (at_ : Nm) (ren : List (Nm × Nm)) : A → List (Nm × Nm)
  | .ref n => nameRow m at_ ren n
  | .cut n _ _ _ => nameRow m at_ ren n
  | .ep n _ _ _ => nameRow m at_ ren n
  | _ => ren
def nameAs (m : Mem) (s : Nat) : Nat → List (Nm × Nm) → List A → List (Nm × Nm)
  | _, ren, [] => ren
  | j, ren, a :: as => nameAs m s (j + 1) (nameA m (s, j) ren a) as
def nameV (m : Mem) (s : Nat) (ren : List (Nm × Nm)) : A → List (Nm × Nm)
  | .agg as => nameAs m s 1 ren as
  | .ptr n _ | .clo _ (some n) => match lookN ren n with
    | some _ => ren
    | none => match m n with
      | some (.var cs) => nameAs m n.1 1 (ren ++ [(n, n)]) cs
      | _ => ren
  | a => nameA m (s, 0) ren a
def nameS (σ : St) : List Nat → List (Nm × Nm) → List (Nm × Nm)
  | [], ren => ren
  | i :: is, ren => nameS σ is (nameV σ.mem i ren (σ.sl i))
def renA (ren : List (Nm × Nm)) : A → A
  | .ref n => match lookN ren n with | some n' => .ref n' | none => .undef
  | .cut n e f l => match lookN ren n with | some n' => .cut n' e f l | none => .undef
  | .ep n e i o => match lookN ren n with | some n' => .ep n' e i o | none => .undef
  | .ptr n o => match lookN ren n with | some n' => .ptr n' o | none => .undef
  | .clo f (some n) => match lookN ren n with | some n' => .clo f (some n') | none => .undef
  | .agg _ => .undef
  | .tup _ => .undef
  | a => a
def renAs (ren : List (Nm × Nm)) : List A → List A
  | [] => []
  | a :: as => renA ren a :: renAs ren as
def renV (ren : List (Nm × Nm)) : A → A
  | .agg as => bif solids (renAs ren as) then .agg (renAs ren as) else .undef
  | a => renA ren a
def renO (ren : List (Nm × Nm)) : Option O → O
  | some (.var cs) => bif solids (renAs ren cs) then .var (renAs ren cs) else .dead
  | some (.deep e es none) => .deep e es none
  | some (.deep _ _ _) => .dead
  | some o => o
  | none => .dead
def renMem (m : Mem) (ren : List (Nm × Nm)) : List (Nm × Nm) → List (Nm × O)
  | [] => []
  | (a, b) :: r => (b, renO ren (m a)) :: renMem m ren r
def renS (σ : St) (ren : List (Nm × Nm)) : List Nat → List (Nat × A)
  | [] => []
  | i :: is => (i, renV ren (σ.sl i)) :: renS σ ren is
/-- nil: an own row without elements. -/
def fillA (D : Nat → Bool) (at_ : Nm) : A → A × List (Nm × O)
  | .nil e => (.ref at_, [(at_, bif D e then .deep e [] none else .row e true [])])
  | a => (a, [])
def fillAs (D : Nat → Bool) (s : Nat) : Nat → List A → List A × List (Nm × O)
  | _, [] => ([], [])
  | j, a :: as => ((fillA D (s, j) a).1 :: (fillAs D s (j + 1) as).1, (fillA D (s, j) a).2 ++ (fillAs D s (j + 1) as).2)
def fillV (D : Nat → Bool) (s : Nat) : A → A × List (Nm × O)
  | .agg as => (.agg (fillAs D s 1 as).1, (fillAs D s 1 as).2)
  | a => fillA D (s, 0) a
def fillS (D : Nat → Bool) : List (Nat × A) → List (Nat × A) × List (Nm × O)
  | [] => ([], [])
  | (i, a) :: r => ((i, (fillV D i a).1) :: (fillS D r).1, (fillV D i a).2 ++ (fillS D r).2)
def fillM (D : Nat → Bool) : List (Nm × O) → List (Nm × O) × List (Nm × O)
  | [] => ([], [])
  | (n, .var cs) :: r => ((n, .var (fillAs D n.1 1 cs).1) :: (fillM D r).1, (fillAs D n.1 1 cs).2 ++ (fillM D r).2)
  | (n, o) :: r => ((n, o) :: (fillM D r).1, (fillM D r).2)
def ofSl : List (Nat × A) → Nat → A
  | [], _ => .undef
  | (i, a) :: r, j => bif Nat.beq j i then a else ofSl r j
def ofMem : List (Nm × O) → Mem
  | [], _ => none
  | (n, o) :: r, x => bif nmBeq x n then some o else ofMem r x
/-- Names apart, each from the other. -/
def nodupN : List Nm → Bool
  | [] => true
  | n :: ns => !(ns.any (nmBeq n)) && nodupN ns
def fsts {α β : Type} : List (α × β) → List α
  | [] => []
  | (a, _) :: r => a :: fsts r
def snds {α β : Type} : List (α × β) → List β
  | [] => []
  | (_, b) :: r => b :: snds r
def presentN (m : Mem) : List Nm → Bool
  | [] => true
  | n :: ns => match m n with | some _ => presentN m ns | none => false
def pinsOk (ren : List (Nm × Nm)) : List Nat → Bool
  | [] => true
  | i :: is => (match lookN ren (i, 0) with | some n => nmBeq n (i, 0) | none => false) && pinsOk ren is
def canonOf0 (D : Nat → Bool) (pins keep : List Nat) (σ : St) (ren : List (Nm × Nm)) : Option St :=
  bif pinsOk ren pins && nodupN (fsts ren) && nodupN (snds ren) && presentN σ.mem (fsts ren) && nodupN (fsts ((fillS D (renS σ ren keep)).2 ++ (fillM D (renMem σ.mem ren ren)).2 ++ (fillM D (renMem σ.mem ren ren)).1)) then
    some ⟨ofSl (fillS D (renS σ ren keep)).1, ofMem ((fillS D (renS σ ren keep)).2 ++ (fillM D (renMem σ.mem ren ren)).2 ++ (fillM D (renMem σ.mem ren ren)).1)⟩
  else none
def ltNm (a b : Nm) : Bool := Nat.blt a.1 b.1 || (Nat.beq a.1 b.1 && Nat.blt a.2 b.2)
def insertM (p : Nm × O) : List (Nm × O) → List (Nm × O)
  | [] => [p]
  | q :: r => bif ltNm p.1 q.1 then p :: q :: r else q :: insertM p r
def sortM : List (Nm × O) → List (Nm × O)
  | [] => []
  | p :: r => insertM p (sortM r)
/-- The same, objects in the order of their names. -/
def canonOf (D : Nat → Bool) (pins keep : List Nat) (σ : St) (ren : List (Nm × Nm)) : Option St :=
  bif pinsOk ren pins && nodupN (fsts ren) && nodupN (snds ren) && presentN σ.mem (fsts ren) && nodupN (fsts ((fillS D (renS σ ren keep)).2 ++ (fillM D (renMem σ.mem ren ren)).2 ++ (fillM D (renMem σ.mem ren ren)).1)) then
    some ⟨ofSl (fillS D (renS σ ren keep)).1, ofMem (sortM ((fillS D (renS σ ren keep)).2 ++ (fillM D (renMem σ.mem ren ren)).2 ++ (fillM D (renMem σ.mem ren ren)).1))⟩
  else none
def nameP (m : Mem) : List Nat → List (Nm × Nm) → List (Nm × Nm)
  | [], ren => ren
  | i :: is, ren => nameP m is (nameRow m (i, 0) (nameV m i ren (.ptr (i, 0) 0)) (i, 0))
def canon (D : Nat → Bool) (pins keep : List Nat) (σ : St) : Option St := canonOf D pins keep σ (nameS σ keep (nameP σ.mem pins []))

/-- The deep rows' cells that are out go back where they can; then the state in one form; what is made deep goes on being made so. -/
def modeOf (m : Mem) : Bool := match m modeNm with | some _ => true | none => false
def dmode (E : Env) (m : Mem) (e : Nat) : Bool := modeOf m && !E.plain e
def keepMode (m : Mem) (σ : St) : St := bif modeOf m && !modeOf σ.mem then ⟨σ.sl, σ.mem.put modeNm .dead⟩ else σ
def canonD (E : Env) (pins keep : List Nat) (σ : St) : Option St :=
  bif modeOf σ.mem then
    (closeL E (fsts (nameS σ keep (nameP σ.mem pins [])))).run σ.mem ⟨[], []⟩ fun _ m _ => match canon (dmode E m) pins keep ⟨σ.sl, m⟩ with | some σ' => some (keepMode m σ') | none => none
  else canon (fun _ => false) pins keep σ

inductive Ex where | normal | exit (id : Nat) | ret
def iter {R : Type} (E : Env) (body : St → (Ex → St → Option R) → Option R) (pins keep : List Nat) (K : Ex → St → Option R) : Nat → St → Option R
  | 0, _ => none
  | k + 1, σ => body σ fun ex σ' => match ex with | .normal => (match canonD E pins keep σ' with | some σ'' => iter E body pins keep K k σ'' | none => none) | e => K e σ'
def evalCode {R : Type} (E : Env) (F : Call) (k : Nat) (pins : List Nat) : Code → List Nat → St → (Ex → St → Option R) → Option R
  | .skip, _, σ, K => K .normal σ
  | .region _ ops draw, _, σ, K => evalOps E F ops.toList ops.toList σ [] fun σ' ps => bif !draw || drawsOk ops.toList ps.reverse then K .normal σ' else none
  | .seq a b, out, σ, K => evalCode E F k pins a (reads b ++ out) σ fun ex σ' => match ex with | .normal => evalCode E F k pins b out σ' K | e => K e σ'
  | .cond c a b, out, σ, K => match opnd E σ 0 c with
    | .b x => bif x then evalCode E F k pins a out (σ.put (tmpOf c) (.b true)) K else evalCode E F k pins b out (σ.put (tmpOf c) (.b false)) K
    | _ => none
  | .block id a, out, σ, K => evalCode E F k pins a out σ fun ex σ' => match ex with | .exit i => bif Nat.beq i id then K .normal σ' else K (.exit i) σ' | e => K e σ'
  | .loop a, out, σ, K =>
    match canonD E pins (sortN (dedup ((exposed a []).1 ++ out))) σ with
    | some σ' => iter E (fun σ K' => evalCode E F k pins a ((exposed a []).1 ++ out) σ K') pins (sortN (dedup ((exposed a []).1 ++ out))) K k σ'
    | none => none
  | .exit id, _, σ, K => K (.exit id) σ
  | .ret, _, σ, K => K .ret σ
  | _, _, _, _ => none

/-! ### A function -/
def enter (E : Env) : Nat → List (List Bool) → List Nat → List Arg → M (List A)
  | _, _, [], [] => .ret []
  | i, ws, t :: ts, .v cs :: r => (reborn E i 0 0 (ws.headD []) (fl (ws.headD []) (E.flat t)) cs).bind fun as => (enter E (i + 1) ws.tail ts r).bind fun q => .ret (mkVal E t as :: q)
  | i, ws, t :: ts, .s cs :: r => (reborn E i 0 0 (ws.headD []) (fl (ws.headD []) (E.flat t)) cs).bind fun as => (enter E (i + 1) ws.tail ts r).bind fun q => .ret (mkVal E t as :: q)
  | i, ws, t :: ts, .p cs :: r => (reborn E i 0 0 (ws.headD []) (fl (ws.headD []) (E.flat (E.elem t))) cs).bind fun as => (M.new (i, 0) (.var as)).bind fun _ => (enter E (i + 1) ws.tail ts r).bind fun q => .ret (.ptr (i, 0) 0 :: q)
  | i, ws, t :: ts, .r es :: r => (match E.flat t with
    | [.row e] => (M.new (i, 0) (lendO (ws.headD []) e es)).bind fun _ => (enter E (i + 1) ws.tail ts r).bind fun q => .ret (.ref (i, 0) :: q)
    | _ => .fail)
  | i, ws, _ :: ts, .c f none :: r => (enter E (i + 1) ws.tail ts r).bind fun q => .ret (.clo f none :: q)
  | i, ws, _ :: ts, .c f (some cs) :: r => (reborn E i 0 0 [] (E.flat (E.fe f)) cs).bind fun as => (M.new (i, 0) (.var as)).bind fun _ => (enter E (i + 1) ws.tail ts r).bind fun q => .ret (.clo f (some (i, 0)) :: q)
  | _, _, _, _ => .fail
/-- What goes out. -/
def resVal (E : Env) (σ : St) : List ResultVar → List Nat → M (List A)
  | [], [] => .ret []
  | .tmp t :: r, ty :: tys => bif (σ.sl t).fits E ty then (resVal E σ r tys).bind fun as => .ret ((σ.sl t).cells ++ as) else .fail
  | .cell p t :: r, ty :: tys => (loadM E t (σ.sl p)).bind fun a => bif a.fits E ty then (resVal E σ r tys).bind fun as => .ret (a.cells ++ as) else .fail
  | _, _ => .fail
/-- The rows of a value that was lent. -/
def outS (E : Env) (i : Nat) : Nat → List Bool → List Ty → List T → M (List T)
  | j, ws, ty :: tys, c :: cs => (bif ty.isRow && ws.headD false then give E true ty (.ref (i, j + 1)) else .ret c).bind fun t => (outS E i (j + 1) ws.tail tys cs).bind fun ts => .ret (t :: ts)
  | _, _, [], [] => .ret []
  | _, _, _, _ => .fail
def outVars (E : Env) : Nat → List (List Bool) → List Nat → List Arg → M (List (List T))
  | _, _, [], [] => .ret []
  | i, ws, t :: ts, .p _ :: r => (M.var (i, 0)).bind fun cs => (gives E (ws.headD []) (fl (ws.headD []) (E.flat (E.elem t))) cs).bind fun c => (M.var (i, 0)).bind fun _ => .set (i, 0) .dead ((outVars E (i + 1) ws.tail ts r).bind fun cs => .ret (c :: cs))
  | i, ws, _ :: ts, .c f (some _) :: r => (M.var (i, 0)).bind fun cs => (gives E [] (E.flat (E.fe f)) cs).bind fun c => (M.var (i, 0)).bind fun _ => .set (i, 0) .dead ((outVars E (i + 1) ws.tail ts r).bind fun cs => .ret (c :: cs))
  | i, ws, t :: ts, .s cs :: r => (outS E i 0 (ws.headD []) (fl (ws.headD []) (E.flat t)) cs).bind fun c => (outVars E (i + 1) ws.tail ts r).bind fun cs => .ret (c :: cs)
  | i, ws, t :: ts, .r _ :: r => (match E.flat t with
    | [.row e] => (give E true (lendTy (ws.headD []) e) (.ref (i, 0))).bind fun c => (outVars E (i + 1) ws.tail ts r).bind fun cs => .ret ([c] :: cs)
    | _ => .fail)
  | i, ws, _ :: ts, .c _ none :: r => outVars E (i + 1) ws.tail ts r
  | i, ws, _ :: ts, .v _ :: r => outVars E (i + 1) ws.tail ts r
  | _, _, _, _ => .fail
def dstsOk (n : Nat) : Code → Bool
  | .region _ ops _ => ops.toList.all fun o => match o.dst with | some d => Nat.blt d n | none => true
  | .seq a b => dstsOk n a && dstsOk n b
  | .cond _ a b => dstsOk n a && dstsOk n b
  | .block _ a | .loop a | .scope a => dstsOk n a
  | _ => true
def pinsOf : Nat → List Arg → List Nat
  | _, [] => []
  | i, .p _ :: r => i :: pinsOf (i + 1) r
  | i, .r _ :: r => i :: pinsOf (i + 1) r
  | i, .c _ (some _) :: r => i :: pinsOf (i + 1) r
  | i, .c _ none :: r => pinsOf (i + 1) r
  | i, .v _ :: r => pinsOf (i + 1) r
  | i, .s _ :: r => pinsOf (i + 1) r
def noS : List Arg → Bool
  | [] => true
  | .s _ :: _ => false
  | _ :: r => noS r
def noLoop : Code → Bool
  | .seq a b => noLoop a && noLoop b
  | .cond _ a b => noLoop a && noLoop b
  | .block _ a => noLoop a
  | .loop _ | .scope _ => false
  | _ => true
def ofArgs : List A → Nat → A
  | [], _ => .skip
  | a :: _, 0 => a
  | _ :: r, i + 1 => ofArgs r i
def outNms (σ : St) : List ResultVar → List Nm
  | [] => []
  | .tmp t :: r => (σ.sl t).tops ++ outNms σ r
  | .cell p _ :: r => (σ.sl p).tops ++ outNms σ r
def pinNms : List Nat → List Nm
  | [] => []
  | i :: is => (i, 0) :: pinNms is
def outMem (E : Env) (sg : Sig) (fn : Func) (ins : List Arg) (σ : St) : M Outs :=
  (M.mode.bind fun md => bif md then closeOut E (outNms σ fn.results.toList ++ pinNms (pinsOf 0 ins)) else .ret ()).bind fun _ =>
  (resVal E σ fn.results.toList fn.resultTypes.toList).bind fun as => (gives E sg.res (resFl E sg fn) as).bind fun res => (outVars E 0 sg.ins (pars sg fn) ins).bind fun vars => .ret ⟨res, vars⟩
def evalBody (E : Env) (F : Call) (k : Nat) (sg : Sig) (fn : Func) (ins : List Arg) : Option Outs :=
  match fn.body with
  | some c => ((enter E 0 sg.ins (pars sg fn) ins).bind fun as => (bif sg.deep then M.new modeNm (.row fn.params.toList.length false []) else .ret ()).bind fun _ => .ret as).run (fun _ => none) ⟨[], []⟩ fun as m _ =>
    bif dstsOk fn.ntmps c && Nat.ble (pars sg fn).length fn.ntmps && (noS ins || noLoop c) then
      evalCode E F k (pinsOf 0 ins) c (fn.results.toList.map fun | .tmp t => t | .cell p _ => p) ⟨ofArgs as, m⟩ fun ex σ' => match ex with
        | .exit _ => none
        | _ => (outMem E sg fn ins σ').run σ'.mem ⟨[], []⟩ fun o _ _ => some o
    else none
  | none => none
def evalF (E : Env) (prim : FuncId → Option (List Arg → Option Outs)) : Nat → FuncId → List Arg → Option Outs
  | 0, _, _ => none
  | k + 1, f, ins => match prim f with
    | some g => g ins
    | none => match E.fn f with
      | some fn => evalBody E (evalF E prim k) k (E.sig f) fn ins
      | none => none
end Go.Proofs.Ytjgmiilapnekfaa.Ev
