/- The laws' own functions: sizes, copies, comparisons; what comes in, as the program's structures. No condition. -/
import Derived.Test.YtjmmcnbhnaeieaaPb
import Derived.Test.YtjmmcnbhnaeieaaEq
namespace Go.Proofs.Ytjmmcnbhnaeieaa.Ev
open Go
set_option linter.unusedVariables false
set_option linter.unusedSimpArgs false
set_option maxHeartbeats 1000000
def inI (n : Int) : Prop := -9223372036854775808 ≤ n ∧ n ≤ 9223372036854775807
def LF {α : Type} (p : α → Prop) (l : List α) : Prop := l.length ≤ maxLen ∧ ∀ x ∈ l, p x
theorem maxLen_le : maxLen ≤ 9223372036854775807 := by unfold maxLen; omega
def Geo.Fit (x : Geo) : Prop := inI x.N ∧ inI x.S
def Wr.Fit (x : Wr) : Prop := inI x.N ∧ LF inI x.S
def Dsk.Fit (x : Dsk) : Prop := LF (LF inI) x.Secs ∧ LF Wr.Fit x.Cache ∧ True ∧ LF inI x.Bad
def Super.Fit (x : Super) : Prop := inI x.Id ∧ inI x.Gen ∧ inI x.Role ∧ inI x.N ∧ inI x.S ∧ inI x.Tail ∧ inI x.Lost ∧ inI x.Built
def Rec.Fit (x : Rec) : Prop := inI x.Seq ∧ inI x.Stripe ∧ LF inI x.Data
def Ent.Fit (x : Ent) : Prop := inI x.Stripe ∧ LF inI x.Data
def Arr.Fit (x : Arr) : Prop := inI x.Id ∧ x.G.Fit ∧ LF Dsk.Fit x.Mems ∧ inI x.Lost ∧ inI x.Built ∧ inI x.Seq ∧ inI x.Tail ∧ inI x.Gen ∧ LF Ent.Fit x.Dirty ∧ inI x.Fuse ∧ True ∧ True
def Cmd.Fit (x : Cmd) : Prop := inI x.Op ∧ inI x.Id ∧ inI x.Lba ∧ inI x.N ∧ LF inI x.Vals
def Job.Fit (x : Job) : Prop := x.C.Fit ∧ inI x.At ∧ LF inI x.Got ∧ inI x.Code
def Ans.Fit (x : Ans) : Prop := inI x.Id ∧ inI x.Code ∧ LF inI x.Vals
def Turn.Fit (x : Turn) : Prop := x.C.Fit ∧ x.A.Fit
def Eng.Fit (x : Eng) : Prop := x.A.Fit ∧ LF Cmd.Fit x.Wait ∧ LF Job.Fit x.Jobs ∧ LF Ans.Fit x.Done ∧ LF Turn.Fit x.Log
def Event.Fit (x : Event) : Prop := inI x.Kind ∧ x.C.Fit ∧ inI x.K ∧ inI x.S ∧ LF inI x.Keeps

def szA (w : Nat) (a : Int) : Int := if a < (w : Int) then -1 else a - w
theorem szA_neg {w : Nat} {a : Int} (h : a < (w : Int)) : szA w a = -1 := if_pos h
theorem szA_pos {w : Nat} {a : Int} (h : (w : Int) ≤ a) : szA w a = a - w := if_neg (by omega)
theorem szA_szA {W v : Nat} {a : Int} (h : (W : Int) ≤ a) : szA v (szA W a) = szA (W + v) a := by
  rw [szA_pos h]; unfold szA
  by_cases g : a - W < (v : Int)
  · rw [if_pos g, if_pos (by omega)]
  · rw [if_neg g, if_neg (by omega)]; omega
theorem sz_step {W W' : Nat} {a : Int} (h : W ≤ W') {F : Option Outs} (h0 : 0 ≤ a) (hF : (W : Int) ≤ a → F = some ⟨[.i (szA W' a)], []⟩) : (bif decide (szA W a < 0) then some ⟨[.i (-1)], []⟩ else F) = some ⟨[.i (szA W' a)], []⟩ := by
  by_cases g : (W : Int) ≤ a
  · rw [szA_pos g, decide_eq_false (by omega)]; exact hF g
  · rw [szA_neg (by omega), szA_neg (w := W') (by omega)]; rfl
theorem szA_b {W : Nat} {a : Int} (h1 : a ≤ 1048576) (g : (W : Int) ≤ a) : 0 ≤ szA W a ∧ szA W a ≤ 1048576 := by rw [szA_pos g]; omega
theorem fixN_upP {V R : Type} {b : (V → Option R) → V → Option R} (n : Nat) (st : Nat → V) (ans : Nat → Option R) (P : Nat → Prop) (h0 : P 0)
    (h : ∀ i, i < n → P i → ∀ G, (P (i + 1) → G (st (i + 1)) = ans (i + 1)) → b G (st i) = ans i) (he : P n → ∀ G, b G (st n) = ans n) {j : Nat} (hj : n < j) : fixN b j (st 0) = ans 0 := by
  have : ∀ d i j, i + d = n → d < j → P i → fixN b j (st i) = ans i := by
    intro d
    induction d with
    | zero =>
      intro i j hi hj hp
      obtain ⟨j, rfl⟩ : ∃ m, j = m + 1 := ⟨j - 1, by omega⟩
      obtain rfl : i = n := by omega
      exact he hp _
    | succ d ih =>
      intro i j hi hj hp
      obtain ⟨j, rfl⟩ : ∃ m, j = m + 1 := ⟨j - 1, by omega⟩
      exact h i (by omega) hp _ (fun hp' => ih (i + 1) j (by omega) (by omega) hp')
  exact this n 0 j (by omega) hj h0
theorem sum_take {α : Type} (w : α → Nat) (l : List α) {i : Nat} (h : i < l.length) : ((l.take (i + 1)).map w).sum = ((l.take i).map w).sum + w l[i] := by
  rw [List.take_succ_eq_append_getElem h]; simp only [List.map_append, List.sum_append, List.map_cons, List.map_nil, List.sum_cons, List.sum_nil, Nat.add_zero]
theorem sum_take_le {α : Type} (w : α → Nat) (l : List α) (i : Nat) : ((l.take i).map w).sum ≤ (l.map w).sum := by
  conv => rhs; rw [← List.take_append_drop i l]
  rw [List.map_append, List.sum_append]; exact Nat.le_add_right _ _
theorem dlt {i n : Nat} (h : i < n) : decide ((i : Int) < (n : Int)) = true := decide_eq_true (by omega)
theorem dll {n : Nat} : decide ((n : Int) < (n : Int)) = false := decide_eq_false (by omega)
theorem d0 {n : Nat} : decide (0 ≤ (n : Int)) = true := decide_eq_true (by omega)
/-- The sizes of a slice's elements. -/
theorem sz_loop {α : Type} (w : α → Nat) (l : List α) {b : (Int × Int → Option Outs) → Int × Int → Option Outs} {a : Int} (h0 : 0 ≤ a) (h1 : a ≤ 1048576) (hl : l.length ≤ 1048576)
    (h : ∀ (i : Nat) (hi : i < l.length) (a : Int), 0 ≤ a → a ≤ 1048576 → ∀ G, b G (a, (i : Int)) = (bif decide (szA (w l[i]) a < 0) then some ⟨[.i (-1)], []⟩ else G (szA (w l[i]) a, IntKind.wrap .i64 ((i : Int) + 1))))
    (he : ∀ a G, b G (a, (l.length : Int)) = some ⟨[.i a], []⟩) {j : Nat} (hj : Big ≤ j) : fixN b j (a, 0) = some ⟨[.i (szA (l.map w).sum a)], []⟩ := by
  have := fixN_upP (b := b) l.length (fun i => (szA ((l.take i).map w).sum a, (i : Int))) (fun _ => some ⟨[.i (szA (l.map w).sum a)], []⟩) (fun i => ((((l.take i).map w).sum : Nat) : Int) ≤ a) (by simpa using h0) ?_ ?_ (j := j) (by unfold Big at hj; omega)
  · have e : szA 0 a = a := by rw [szA_pos (by omega)]; omega
    simpa [e] using this
  · intro i hi hp G hG
    obtain ⟨b0, b1⟩ := szA_b h1 hp
    rw [h i hi _ b0 b1, szA_szA hp, ← sum_take w l hi, wrap_up (by omega)]
    exact sz_step (sum_take_le w l (i + 1)) h0 hG
  · intro hp G
    rw [he, List.take_length]
theorem put_fill {α : Type} (enc : α → List T) (l : List α) (z : List T) {i : Nat} (hi : i < l.length) {ts : List T} (ht : ts = enc l[i]) (hz : z.length = ts.length) :
    put_ ((l.take i).map enc ++ List.replicate (l.length - i) z) i 0 ts = (l.take (i + 1)).map enc ++ List.replicate (l.length - (i + 1)) z := by
  unfold put_
  have e1 : ((l.take i).map enc ++ List.replicate (l.length - i) z).getD i [] = z := by
    rw [List.getD_eq_getElem?_getD, List.getElem?_append_right (by simp; omega), List.length_map, List.length_take, Nat.min_eq_left (by omega), Nat.sub_self]
    rw [List.getElem?_replicate, if_pos (by omega)]; rfl
  rw [e1]
  have e2 : spliceT z 0 ts = ts := by
    cases z <;> simp only [spliceT] <;> rw [List.drop_eq_nil_of_le (by rw [← hz]; exact Nat.le_refl _), List.append_nil]
  rw [e2, List.set_append_right _ _ (by simp; omega), List.length_map, List.length_take, Nat.min_eq_left (by omega), Nat.sub_self]
  rw [List.take_succ_eq_append_getElem hi, List.map_append, List.append_assoc, show l.length - i = (l.length - (i + 1)) + 1 by omega, List.replicate_succ, List.set_cons_zero, ht]
  rfl
/-- A slice is copied element by element. -/
theorem to_loop {α : Type} (enc : α → List T) (l : List α) (z : List T) {b : (Int × List (List T) → Option Outs) → Int × List (List T) → Option Outs} (hl : l.length ≤ 1048576)
    (h : ∀ (i : Nat) (hi : i < l.length) (q : List (List T)), q.length = l.length → ∀ G, b G ((i : Int), q) = G (IntKind.wrap .i64 ((i : Int) + 1), put_ q i 0 (enc l[i])))
    (hz : ∀ x ∈ l, z.length = (enc x).length) (he : ∀ q G, b G ((l.length : Int), q) = some ⟨[.r q], []⟩) {j : Nat} (hj : Big ≤ j) : fixN b j (0, List.replicate l.length z) = some ⟨[.r (l.map enc)], []⟩ := by
  have := fixN_up (b := b) l.length (fun i => ((i : Int), (l.take i).map enc ++ List.replicate (l.length - i) z)) (fun _ => some ⟨[.r (l.map enc)], []⟩) ?_ ?_ (j := j) (by unfold Big at hj; omega)
  · simpa using this
  · intro i hi G hG
    rw [h i hi _ (by simp; omega), wrap_up (by omega), put_fill enc l z hi rfl (hz _ (List.getElem_mem hi))]
    exact hG
  · intro G
    rw [he]; simp
theorem eq_loop (n : Nat) {b : (Int → Option Outs) → Int → Option Outs} (hl : n ≤ 1048576)
    (h : ∀ (i : Nat), i < n → ∀ G, b G (i : Int) = G (IntKind.wrap .i64 ((i : Int) + 1))) (he : ∀ G, b G (n : Int) = some ⟨[.b true], []⟩) {j : Nat} (hj : Big ≤ j) : fixN b j 0 = some ⟨[.b true], []⟩ := by
  refine fixN_up (b := b) n (fun i => (i : Int)) (fun _ => some ⟨[.b true], []⟩) (fun i hi G hG => ?_) he (j := j) (by unfold Big at hj; omega)
  rw [h i hi, wrap_up (by omega)]; exact hG


theorem flatT {t : Nat} {l : List Ty} (h : E.flat t = l) {ts : List T} (g : FTs E (E.flat t) ts) : FTs E l ts := h ▸ g
theorem open_int {t : T} (h : FT E (.int .i64) t) : ∃ n : Int, t = .i n ∧ inI n := by
  cases h with
  | int h =>
    rename_i n
    refine ⟨n, rfl, ?_⟩
    unfold inI
    simp [Lit.wf, IntKind.min, IntKind.max, IntKind.signed, IntKind.bits] at h
    omega
theorem open_bool {t : T} (h : FT E .bool t) : ∃ x : Bool, t = .b x ∧ True := by
  cases h; exact ⟨_, rfl, trivial⟩
theorem FTs_of : ∀ {tys : List Ty} {c : List T}, c.length = tys.length → (∀ j, j < tys.length → FT E (tys.getD j .bool) (c.getD j (.i 0))) → FTs E tys c
  | [], [], _, _ => trivial
  | ty :: tys, t :: ts, hl, h => ⟨h 0 (by simp), FTs_of (by simpa using hl) fun j hj => by simpa using h (j + 1) (by simpa using hj)⟩
  | [], _ :: _, hl, _ => by simp at hl
  | _ :: _, [], hl, _ => by simp at hl
theorem rows_map {α : Type} (enc : α → List T) (p : α → Prop) : ∀ {es : List (List T)}, (∀ c ∈ es, ∃ x, c = enc x ∧ p x) → ∃ l : List α, es = l.map enc ∧ ∀ x ∈ l, p x
  | [], _ => ⟨[], rfl, fun _ h => by cases h⟩
  | c :: es, h => by
    obtain ⟨x, rfl, hx⟩ := h c (by simp)
    obtain ⟨l, rfl, hl⟩ := rows_map enc p (es := es) fun c hc => h c (by simp [hc])
    exact ⟨x :: l, rfl, fun y hy => (List.mem_cons.1 hy).elim (fun h => h ▸ hx) (hl y)⟩
theorem open_rows {α : Type} (enc : α → List T) (p : α → Prop) {e : Nat} (hx : ∀ c, FTs E (E.flat e) c → ∃ x, c = enc x ∧ p x) {t : T} (h : FT E (.row e) t) : ∃ l : List α, t = .r (l.map enc) ∧ LF p l := by
  cases h with
  | row hl hn hr =>
    rename_i es
    obtain ⟨l, rfl, hp⟩ := rows_map enc p (es := es) fun c hc => by
      obtain ⟨i, hi, rfl⟩ := List.getElem_of_mem hc
      refine hx _ (FTs_of (hn _ hc) fun j hj => ?_)
      have := hr i j hi hj
      unfold tyAt tAt at this
      simpa [List.getD_eq_getElem?_getD, hi] using this
    exact ⟨l, rfl, by simpa using hl, hp⟩
theorem open_Int {c : List T} (h : FTs E [.int .i64] c) : ∃ n : Int, c = [.i n] ∧ inI n := by
  match c, h with
  | [t], ⟨h, _⟩ => obtain ⟨n, rfl, g⟩ := open_int h; exact ⟨n, rfl, g⟩
theorem open_IntS {t : T} (h : FT E (.row TN.Int) t) : ∃ l : List Int, t = .r (eIs l) ∧ LF inI l :=
  open_rows _ inI (fun c hc => open_Int (flatT (by kernel_rfl) hc)) h
theorem open_IntSS {t : T} (h : FT E (.row TN.IntS) t) : ∃ l : List (List Int), t = .r (eIss l) ∧ LF (LF inI) l :=
  open_rows (fun s => [.r (eIs s)]) (LF inI) (fun c hc => by
    have hc := flatT (l := [.row TN.Int]) (by kernel_rfl) hc
    match c, hc with
    | [t], ⟨h, _⟩ => obtain ⟨n, rfl, g⟩ := open_IntS h; exact ⟨n, rfl, g⟩) h
end Go.Proofs.Ytjmmcnbhnaeieaa.Ev
