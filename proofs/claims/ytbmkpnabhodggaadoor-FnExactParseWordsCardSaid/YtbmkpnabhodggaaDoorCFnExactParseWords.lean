/- What FnExactParseWords needs, in plain Lean. No condition. -/
import Derived.Test.YtbmkpnabhodggaaDoorCeFnExactParseWords0
import Derived.Lib.AtoiAllCases
import Derived.Lib.IndexBytes
import Derived.Lib.SplitLaws
namespace Go.Proofs.YtbmkpnabhodggaaDoor.Ev
open Go
set_option linter.unusedVariables false
set_option linter.unusedSimpArgs false
set_option maxHeartbeats 1000000
noncomputable section
structure Geo where
  N : Int
  S : Int
deriving DecidableEq, Inhabited
structure Wr where
  N : Int
  S : List Int
deriving DecidableEq, Inhabited
structure Dsk where
  Secs : List (List Int)
  Cache : List Wr
  Failed : Bool
  Bad : List Int
deriving DecidableEq, Inhabited
structure Super where
  Id : Int
  Gen : Int
  Role : Int
  N : Int
  S : Int
  Tail : Int
  Lost : Int
  Built : Int
deriving DecidableEq, Inhabited
structure Rec where
  Seq : Int
  Stripe : Int
  Data : List Int
deriving DecidableEq, Inhabited
structure Ent where
  Stripe : Int
  Data : List Int
deriving DecidableEq, Inhabited
structure Arr where
  Id : Int
  G : Geo
  Mems : List Dsk
  Lost : Int
  Built : Int
  Seq : Int
  Tail : Int
  Gen : Int
  Dirty : List Ent
  Fuse : Int
  Down : Bool
  Broken : Bool
deriving DecidableEq, Inhabited
structure Cmd where
  Op : Int
  Id : Int
  Lba : Int
  N : Int
  Vals : List Int
deriving DecidableEq, Inhabited
structure Job where
  C : Cmd
  At : Int
  Got : List Int
  Code : Int
deriving DecidableEq, Inhabited
structure Ans where
  Id : Int
  Code : Int
  Vals : List Int
deriving DecidableEq, Inhabited
structure Turn where
  C : Cmd
  A : Ans
deriving DecidableEq, Inhabited
structure Eng where
  A : Arr
  Wait : List Cmd
  Jobs : List Job
  Done : List Ans
  Log : List Turn
deriving DecidableEq, Inhabited
structure Event where
  Kind : Int
  C : Cmd
  K : Int
  S : Int
  Keeps : List Int
deriving DecidableEq, Inhabited
abbrev eIs (l : List Int) : List (List T) := l.map fun n => [.i n]
theorem wrap_id {n : Int} (h0 : -9223372036854775808 ≤ n) (h1 : n ≤ 9223372036854775807) : IntKind.wrap .i64 n = n := by
  unfold IntKind.wrap IntKind.signed IntKind.bits
  simp
  omega
theorem wrap_up {i : Nat} (h : i ≤ 1099511627776) : IntKind.wrap .i64 ((i : Int) + 1) = ((i + 1 : Nat) : Int) := by
  rw [wrap_id (by omega) (by omega)]; omega
def Big : Nat := 4294967296
def Rn (d : Nat) (f : FuncId) (ins : List Arg) (o : Outs) : Prop := ∀ k, Big + d ≤ k → evalF E P0 k f ins = some o
theorem Rn.of {d : Nat} {f : FuncId} {ins : List Arg} {o : Outs} (h : ∀ k, Big + d ≤ k → evalF E P0 (k + 1) f ins = some o) : Rn (d + 1) f ins o := by
  intro k hk
  obtain ⟨k, rfl⟩ : ∃ m, k = m + 1 := ⟨k - 1, by omega⟩
  exact h k (by omega)
theorem bindO_some {R : Type} (o : Outs) (k : Outs → Option R) : bindO (some o) k = k o := rfl
theorem chk_true {R : Type} (x : Option R) : chk true x = x := rfl
@[simp] theorem Outs.t_mk (l : List T) (v : List (List T)) (j : Nat) : Outs.t ⟨l, v⟩ j = l.getD j (.i 0) := rfl
@[simp] theorem T.asI_i (n : Int) : (T.i n).asI = n := rfl
@[simp] theorem T.asB_b (x : Bool) : (T.b x).asB = x := rfl
@[simp] theorem T.asS_s (x : ByteArray) : (T.s x).asS = x := rfl
@[simp] theorem T.asR_r (x : List (List T)) : (T.r x).asR = x := rfl
theorem at_map {α : Type} (f : α → List T) {l : List α} {i : Nat} (h : i < l.length) (j : Nat) : at_ (l.map f) i j = (f l[i]).getD j (.i 0) := by
  unfold at_
  simp [List.getD_eq_getElem?_getD, h]
theorem fixN_up {V R : Type} {b : (V → Option R) → V → Option R} (n : Nat) (st : Nat → V) (ans : Nat → Option R)
    (h : ∀ i, i < n → ∀ G, G (st (i + 1)) = ans (i + 1) → b G (st i) = ans i) (he : ∀ G, b G (st n) = ans n) {j : Nat} (hj : n < j) : fixN b j (st 0) = ans 0 := by
  have : ∀ d i j, i + d = n → d < j → fixN b j (st i) = ans i := by
    intro d
    induction d with
    | zero =>
      intro i j hi hj
      obtain ⟨j, rfl⟩ : ∃ m, j = m + 1 := ⟨j - 1, by omega⟩
      obtain rfl : i = n := by omega
      exact he _
    | succ d ih =>
      intro i j hi hj
      obtain ⟨j, rfl⟩ : ∃ m, j = m + 1 := ⟨j - 1, by omega⟩
      exact h i (by omega) _ (ih (i + 1) j (by omega) (by omega))
  exact this n 0 j (by omega) hj
theorem sum_take {α : Type} (w : α → Nat) (l : List α) {i : Nat} (h : i < l.length) : ((l.take (i + 1)).map w).sum = ((l.take i).map w).sum + w l[i] := by
  rw [List.take_succ_eq_append_getElem h]; simp only [List.map_append, List.sum_append, List.map_cons, List.map_nil, List.sum_cons, List.sum_nil, Nat.add_zero]
theorem sum_take_le {α : Type} (w : α → Nat) (l : List α) (i : Nat) : ((l.take i).map w).sum ≤ (l.map w).sum := by
  conv => rhs; rw [← List.take_append_drop i l]
  rw [List.map_append, List.sum_append]; exact Nat.le_add_right _ _
theorem dlt {i n : Nat} (h : i < n) : decide ((i : Int) < (n : Int)) = true := decide_eq_true (by omega)
theorem dll {n : Nat} : decide ((n : Int) < (n : Int)) = false := decide_eq_false (by omega)
theorem d0 {n : Nat} : decide (0 ≤ (n : Int)) = true := decide_eq_true (by omega)
theorem eq_loop (n : Nat) {b : (Int → Option Outs) → Int → Option Outs} (hl : n ≤ 2147483648)
    (h : ∀ (i : Nat), i < n → ∀ G, b G (i : Int) = G (IntKind.wrap .i64 ((i : Int) + 1))) (he : ∀ G, b G (n : Int) = some ⟨[.b true], []⟩) {j : Nat} (hj : Big ≤ j) : fixN b j 0 = some ⟨[.b true], []⟩ := by
  refine fixN_up (b := b) n (fun i => (i : Int)) (fun _ => some ⟨[.b true], []⟩) (fun i hi G hG => ?_) he (j := j) (by unfold Big at hj; omega)
  rw [h i hi, wrap_up (by omega)]; exact hG
theorem eqIntS_R (x : List Int) (hx : x.length ≤ 2147483648) : Rn 1 N.laws_eqIntS [.v [.r (eIs x)], .v [.r (eIs x)]] ⟨[.b true], []⟩ := by
  refine Rn.of fun k hk => ?_
  rw [laws_eqIntS_e]; unfold laws_eqIntS_u
  unfold laws_eqIntS_U
  simp only [bne_self_eq_false, cond_false]
  refine eq_loop x.length (by omega) (fun i hi G => ?_) (fun G => ?_) (by omega)
  · unfold laws_eqIntS_l1 laws_eqIntS_L1
    simp only [List.length_map, at_map _ hi, dlt hi, bne_self_eq_false, d0, Bool.and_self, chk_true, Outs.t_mk, List.getD_cons_zero, List.getD_cons_succ, T.asI_i, T.asB_b, T.asR_r, Int.toNat_natCast, bindO_some, Bool.not_true, cond_false, cond_true, Bool.not_false]
  · unfold laws_eqIntS_l1 laws_eqIntS_L1
    simp only [List.length_map, dll, cond_false]
theorem flatT {t : Nat} {l : List Ty} (h : E.flat t = l) {ts : List T} (g : FTs E (E.flat t) ts) : FTs E l ts := h ▸ g
def within (n lo hi : Int) : Bool := decide (lo ≤ n) && decide (n ≤ hi)
theorem within_s (n lo hi : Int) : Rn 1 N.spec_l1In [.v [.i n], .v [.i lo], .v [.i hi]] ⟨[.b (within n lo hi)], []⟩ := by
  refine Rn.of fun k hk => ?_
  rw [spec_l1In_e]; unfold spec_l1In_u within
  by_cases h : lo ≤ n <;> simp [h]
def isWord (n : Int) : Bool := within n 0 65535
def wordsOk (l : List Int) : Bool := l.all isWord
def geoOk (g : Geo) : Bool := within g.N 3 5 && within g.S 1 8
def blocks (g : Geo) : Int := bif geoOk g then g.S * (g.N - 1) else 0
def runOf (c : Cmd) : Int := bif c.Op == 1 || c.Op == 6 then c.N else bif c.Op == 2 || c.Op == 3 then (c.Vals.length : Int) else bif c.Op == 5 then 1 else 0
def sizeOk (c : Cmd) : Bool := bif c.Op == 1 || c.Op == 6 then within c.N 1 6 else bif c.Op == 2 || c.Op == 3 then within (c.Vals.length : Int) 1 6 && wordsOk c.Vals else bif c.Op == 5 then ((c.Vals.length : Int) == 2) && wordsOk c.Vals else true
def cmdCode (g : Geo) (c : Cmd) : Int :=
  bif geoOk g && within c.Op 1 6 && within c.Id 1 999 then
    bif sizeOk c then bif c.Op == 4 || within c.Lba 0 (blocks g - runOf c) then 0 else 2
    else 3
  else 1
theorem txt_size (a : List UInt8) : (txt a).size = a.length := by simp [txt, ByteArray.size]
theorem txt_data (a : List UInt8) : (txt a).data.toList = a := by simp [txt]
theorem dec_len : ∀ (d n : Nat), n < 10 ^ (d + 1) → (Lib.decDigits n).length ≤ d + 1
  | 0, n, h => by rw [Lib.decDigits, dif_pos (by simpa using h)]; simp
  | d + 1, n, h => by
    rw [Lib.decDigits]
    split
    · simp
    · rw [List.length_append]
      have := dec_len d (n / 10) (by rw [Nat.div_lt_iff_lt_mul (by omega), ← Nat.pow_succ]; exact h)
      simp; omega
theorem bndT {R : Type} {e : Option Outs} {o : Outs} {F : Outs → Option R} {r : Option R} (t : e = some o) (h : F o = r) : bindO e F = r := by subst t; exact h
theorem chkT {R : Type} {c : Bool} {x r : Option R} (h : c = true) (hx : x = r) : chk c x = r := by subst h; exact hx
theorem bifTt {R : Type} {c : Bool} {x y r : R} (t : c = true) (h : x = r) : (bif c then x else y) = r := by subst t; exact h
theorem bifFf {R : Type} {c : Bool} {x y r : R} (t : c = false) (h : y = r) : (bif c then x else y) = r := by subst t; exact h
theorem txt_of (s : ByteArray) : s = txt s.data.toList := by apply ByteArray.ext; simp [txt]
def glue (pre : List UInt8) : List (List UInt8) → List (List UInt8)
  | [] => [pre]
  | p :: ps => (pre ++ p) :: ps
def pcs : List UInt8 → List (List UInt8)
  | [] => [[]]
  | c :: r => if c = 32 then [] :: pcs r else glue [c] (pcs r)
theorem pcs_ne : ∀ l, pcs l ≠ []
  | [] => by simp [pcs]
  | c :: r => by
    unfold pcs
    split
    · simp
    · cases pcs r <;> simp [glue]
theorem glue_nil {ps : List (List UInt8)} (h : ps ≠ []) : glue [] ps = ps := by cases ps with
  | nil => exact absurd rfl h
  | cons p ps => rfl
theorem glue_glue (a b : List UInt8) {ps : List (List UInt8)} (h : ps ≠ []) : glue a (glue b ps) = glue (a ++ b) ps := by cases ps with
  | nil => exact absurd rfl h
  | cons p ps => simp [glue]
theorem splitK_pcs (l : List UInt8) : Lib.splitK [32] 0 (l.count 32) l = pcs l := by
  induction l with
  | nil => rfl
  | cons b l ih =>
    by_cases hb : b = 32
    · subst hb
      rw [List.count_cons_self]
      unfold Lib.splitK pcs
      rw [Lib.index_one, if_pos rfl]
      have : Lib.indexByte (32 :: l) 32 = 0 := by simp [Lib.indexByte]
      rw [this]
      simp [ih]
    · rw [List.count_cons_of_ne (by simpa using hb)]
      unfold pcs
      rw [if_neg hb, ← ih]
      cases hk : l.count 32 with
      | zero => rfl
      | succ k =>
        have hi : Lib.indexByte l 32 ≠ -1 := by
          intro hn
          have := Lib.indexByte_ge l 32
          have hz : ∀ (l : List UInt8), Lib.indexByte l 32 = -1 → l.count 32 = 0 := by
            intro l
            induction l with
            | nil => intro _; rfl
            | cons c l ih =>
              intro h
              unfold Lib.indexByte at h
              split at h
              · cases h
              · split at h
                · rename_i h1 h2
                  rw [List.count_cons_of_ne (by simpa using h1)]
                  exact ih (by simpa using h2)
                · have := Lib.indexByte_ge l 32; rename_i h2; simp at h2; omega
          rw [hz l hn] at hk; cases hk
        have hge := Lib.indexByte_ge l 32
        obtain ⟨i, hi2⟩ : ∃ i : Nat, Lib.indexByte l 32 = i := ⟨(Lib.indexByte l 32).toNat, by omega⟩
        have e1 : Lib.indexByte (b :: l) 32 = ((i + 1 : Nat) : Int) := by
          unfold Lib.indexByte
          rw [if_neg (by simpa using hb), hi2, if_neg (by simp)]
          omega
        unfold Lib.splitK
        rw [Lib.index_one, Lib.index_one, e1, hi2]
        simp [glue]
        intro h; omega
theorem split_pcs (s : ByteArray) : (splitT s (txt [32])).map (·.data.toList) = pcs s.data.toList := by
  unfold splitT
  rw [Lib.splitB_data]
  have : Lib.countB s (txt [32]) = s.data.toList.count 32 := by
    unfold Lib.countB; rw [txt_data]; exact Lib.count_one _ _
  rw [this, txt_data, splitK_pcs]
theorem pcs_rows (s : ByteArray) : (splitT s (txt [32])).map (fun x => [T.s x]) = (pcs s.data.toList).map fun p => [.s (txt p)] := by
  rw [← split_pcs, List.map_map]
  exact List.map_congr_left fun x _ => by rw [Function.comp, ← txt_of]
def isDig (c : UInt8) : Bool := decide (48 ≤ c.toNat) && decide (c.toNat ≤ 57)
def val (p : List UInt8) : Nat := p.foldl (fun a c => a * 10 + (c.toNat - 48)) 0
theorem val_snoc (p : List UInt8) (c : UInt8) : val (p ++ [c]) = val p * 10 + (c.toNat - 48) := by unfold val; rw [List.foldl_append]; rfl
theorem dig_t {c : UInt8} (h : isDig c = true) : 48 ≤ c.toNat ∧ c.toNat ≤ 57 := by unfold isDig at h; simpa using h
theorem val_lt : ∀ (n : Nat) (p : List UInt8), p.length = n → p.all isDig = true → val p < 10 ^ n
  | 0, p, hn, _ => by rw [List.length_eq_zero_iff.1 hn]; decide
  | n + 1, p, hn, h => by
    obtain ⟨q, c, rfl⟩ : ∃ q c, p = q ++ [c] := ⟨p.dropLast, p.getLast (by intro h; rw [h] at hn; cases hn), (List.dropLast_concat_getLast _).symm⟩
    rw [List.all_append, Bool.and_eq_true] at h
    have hq := val_lt n q (by simpa using hn) h.1
    have hd := dig_t (c := c) (by simpa using h.2)
    rw [val_snoc, Nat.pow_succ]; omega
theorem val_pos : ∀ (n : Nat) (p : List UInt8), p.length = n → p.all isDig = true → p ≠ [] → p.head? ≠ some 48 → 1 ≤ val p
  | 0, p, hn, _, h, _ => absurd (List.length_eq_zero_iff.1 hn) h
  | n + 1, p, hn, h, _, hh => by
    obtain ⟨q, c, rfl⟩ : ∃ q c, p = q ++ [c] := ⟨p.dropLast, p.getLast (by intro h; rw [h] at hn; cases hn), (List.dropLast_concat_getLast _).symm⟩
    rw [List.all_append, Bool.and_eq_true] at h
    have hd := dig_t (c := c) (by simpa using h.2)
    rw [val_snoc]
    cases q with
    | nil =>
      have : c.toNat ≠ 48 := by
        intro he
        exact hh (by simp [UInt8.toNat_inj.1 (show c.toNat = (48 : UInt8).toNat from he)])
      omega
    | cons a q =>
      have := val_pos n (a :: q) (by simpa using hn) h.1 (by simp) (by simpa using hh)
      omega
theorem ofNat_dig {c : UInt8} (h : isDig c = true) : UInt8.ofNat (48 + (c.toNat - 48)) = c := by
  have := dig_t h
  rw [show 48 + (c.toNat - 48) = c.toNat by omega]; simp
theorem dec_one {n : Nat} (h : n < 10) : Lib.decDigits n = [UInt8.ofNat (48 + n)] := by rw [Lib.decDigits, dif_pos h]
theorem dec_more {n : Nat} (h : ¬ n < 10) : Lib.decDigits n = Lib.decDigits (n / 10) ++ [UInt8.ofNat (48 + n % 10)] := by rw [Lib.decDigits, dif_neg h]
theorem dec_val : ∀ (n : Nat) (p : List UInt8), p.length = n → p.all isDig = true → p ≠ [] → (p.head? ≠ some 48 ∨ p.length = 1) → Lib.decDigits (val p) = p
  | 0, p, hn, _, h, _ => absurd (List.length_eq_zero_iff.1 hn) h
  | n + 1, p, hn, h, _, hh => by
    obtain ⟨q, c, rfl⟩ : ∃ q c, p = q ++ [c] := ⟨p.dropLast, p.getLast (by intro h; rw [h] at hn; cases hn), (List.dropLast_concat_getLast _).symm⟩
    rw [List.all_append, Bool.and_eq_true] at h
    have hc : isDig c = true := by simpa using h.2
    have hd := dig_t hc
    rw [val_snoc]
    cases q with
    | nil =>
      rw [show val [] = 0 from rfl, Nat.zero_mul, Nat.zero_add, dec_one (by omega), ofNat_dig hc]; rfl
    | cons a q =>
      have hh' : (a :: q).head? ≠ some 48 := by
        rcases hh with hh | hh
        · simpa using hh
        · simp at hh
      have h1 := val_pos n (a :: q) (by simpa using hn) h.1 (by simp) hh'
      have h2 := dec_val n (a :: q) (by simpa using hn) h.1 (by simp) (.inl hh')
      rw [dec_more (by omega), show (val (a :: q) * 10 + (c.toNat - 48)) / 10 = val (a :: q) by omega, h2, show (val (a :: q) * 10 + (c.toNat - 48)) % 10 = c.toNat - 48 by omega, ofNat_dig hc]
theorem dig_of {d : Nat} (h : d < 10) : isDig (UInt8.ofNat (48 + d)) = true ∧ (UInt8.ofNat (48 + d)).toNat = 48 + d := by
  have : (UInt8.ofNat (48 + d)).toNat = 48 + d := by simp; omega
  refine ⟨?_, this⟩
  unfold isDig; rw [this]; simp; omega
theorem dec_dig : ∀ (d n : Nat), n < 10 ^ (d + 1) → (Lib.decDigits n).all isDig = true ∧ val (Lib.decDigits n) = n ∧ Lib.decDigits n ≠ [] ∧ (1 ≤ n → (Lib.decDigits n).head? ≠ some 48)
  | d, n, h => by
    by_cases h9 : n < 10
    · obtain ⟨g1, g2⟩ := dig_of h9
      rw [dec_one h9]
      refine ⟨by simpa using g1, ?_, by simp, fun hn => ?_⟩
      · show 0 * 10 + ((UInt8.ofNat (48 + n)).toNat - 48) = n
        rw [g2]; omega
      · simp only [List.head?_cons, ne_eq, Option.some.injEq]
        intro he
        have := congrArg UInt8.toNat he
        rw [g2] at this
        have e : (48 : UInt8).toNat = 48 := rfl
        omega
    · cases d with
      | zero => simp at h; omega
      | succ d =>
        obtain ⟨i1, i2, i3, i4⟩ := dec_dig d (n / 10) (by rw [Nat.div_lt_iff_lt_mul (by omega), ← Nat.pow_succ]; exact h)
        obtain ⟨g1, g2⟩ := dig_of (d := n % 10) (by omega)
        rw [dec_more h9]
        refine ⟨by rw [List.all_append, i1]; simpa using g1, ?_, by simp, fun _ => ?_⟩
        · rw [val_snoc, i2, g2]; omega
        · rw [List.head?_append]
          have hx := i4 (by omega)
          cases hd : Lib.decDigits (n / 10) with
          | nil => exact absurd hd i3
          | cons a r => rw [hd] at hx; simpa using hx
theorem parse_dig : ∀ (p : List UInt8) (a m : Nat), a < 10 ^ m → m + p.length ≤ 18 → p.all isDig = true → Lib.parseUint10 a p = .ok (p.foldl (fun a c => a * 10 + (c.toNat - 48)) a)
  | [], a, m, _, _, _ => rfl
  | c :: p, a, m, ha, hm, h => by
    rw [List.all_cons, Bool.and_eq_true] at h
    have hd := dig_t h.1
    have hpow : (10 : Nat) ^ m ≤ 10 ^ 17 := Nat.pow_le_pow_right (by omega) (by simp at hm; omega)
    have e17 : (10 : Nat) ^ 17 = 100000000000000000 := by decide
    unfold Lib.parseUint10
    rw [if_pos hd, if_neg (by omega), if_neg (by omega)]
    exact parse_dig p _ (m + 1) (by rw [Nat.pow_succ]; omega) (by simp at hm; omega) h.2
theorem atoi_dig {p : List UInt8} (hp : p ≠ []) (hl : p.length ≤ 18) (h : p.all isDig = true) : Lib.atoiAll p = .ok (val p) := by
  cases p with
  | nil => exact absurd rfl hp
  | cons c r =>
    have hd := dig_t (c := c) (by rw [List.all_cons, Bool.and_eq_true] at h; exact h.1)
    rw [Lib.atoiAll_plain c r (by omega) (by omega)]
    unfold Lib.parseMag
    rw [if_neg hp, parse_dig (c :: r) 0 0 (by decide) (by omega) h]
    have hv := val_lt _ (c :: r) rfl h
    have hpow : (10 : Nat) ^ (c :: r).length ≤ 10 ^ 18 := Nat.pow_le_pow_right (by omega) hl
    have e18 : (10 : Nat) ^ 18 = 1000000000000000000 := by decide
    unfold val at hv ⊢
    simp only [Lib.signless]
    rw [if_neg (by omega)]
def pn (p : List UInt8) : Int := if (1 ≤ p.length ∧ p.length ≤ 5) ∧ ¬ (1 < p.length ∧ p.head? = some 48) ∧ p.all isDig = true ∧ val p ≤ 65535 then (val p : Int) else -1
theorem pn_dec {n : Nat} (h : n ≤ 65535) : pn (Lib.decDigits n) = n := by
  have hb : n < 10 ^ (4 + 1) := by have : (10 : Nat) ^ (4 + 1) = 100000 := by decide
                                   omega
  obtain ⟨h1, h2, h3, h4⟩ := dec_dig 4 n hb
  have hl := dec_len 4 n hb
  have hp : 1 ≤ (Lib.decDigits n).length := List.length_pos_iff.2 h3
  have hc : ¬ (1 < (Lib.decDigits n).length ∧ (Lib.decDigits n).head? = some 48) := fun hh => by
    by_cases hn : 1 ≤ n
    · exact h4 hn hh.2
    · obtain rfl : n = 0 := by omega
      rw [dec_one (by omega)] at hh
      simp at hh
  unfold pn
  rw [if_pos ⟨⟨hp, hl⟩, hc, h1, by omega⟩, h2]
theorem eqb {a : List UInt8} {s : ByteArray} : (a == s.toList) = decide (txt a = s) := by
  rw [← txt_data a]
  rw [ByteArray.toList_eq, txt_data]
  by_cases h : txt a = s
  · subst h; simp [txt_data]
  · rw [decide_eq_false h]
    simp only [beq_eq_false_iff_ne, ne_eq]
    intro he
    exact h (by rw [he]; exact (txt_of s).symm)
theorem pwT_pn (p : List UInt8) : pwT (txt p) = if pn p < 0 then (0, false) else (pn p, true) := by
  by_cases hp : pn p < 0
  · rw [if_pos hp]
    unfold pwT
    split
    · rename_i v hv
      cases hc : (decide (0 ≤ v) && decide (v ≤ 65535)) && (Lib.itoa v == (txt p).toList) with
      | false => rfl
      | true =>
        exfalso
        rw [Bool.and_eq_true, Bool.and_eq_true, eqb] at hc
        obtain ⟨⟨h1, h2⟩, h3⟩ := hc
        have h1 := of_decide_eq_true h1
        have h2 := of_decide_eq_true h2
        have h3 := congrArg (fun s : ByteArray => s.data.toList) (of_decide_eq_true h3)
        simp only [txt_data] at h3
        unfold Lib.itoa at h3
        rw [if_neg (by omega)] at h3
        have := pn_dec (n := v.toNat) (by omega)
        rw [h3] at this
        omega
    · rfl
  · rw [if_neg hp]
    have hc : (1 ≤ p.length ∧ p.length ≤ 5) ∧ ¬ (1 < p.length ∧ p.head? = some 48) ∧ p.all isDig = true ∧ val p ≤ 65535 := by
      refine Classical.byContradiction fun hn => hp ?_
      unfold pn; rw [if_neg hn]; omega
    have e : pn p = (val p : Int) := by unfold pn; rw [if_pos hc]
    obtain ⟨⟨l1, l2⟩, hz, hd, hv⟩ := hc
    have hne : p ≠ [] := by intro h; rw [h] at l1; simp at l1
    have hdv := dec_val _ p rfl hd hne (by
      by_cases h1 : p.length = 1
      · exact .inr h1
      · exact .inl fun hh => hz ⟨by omega, hh⟩)
    unfold pwT
    rw [txt_data, atoi_dig hne (by omega) hd, e]
    have hi : Lib.itoa (val p : Int) = p := by
      unfold Lib.itoa; rw [if_neg (by omega), Int.toNat_natCast, hdv]
    simp only [hi, eqb]
    rw [decide_eq_true (by omega), decide_eq_true (by omega)]
    simp
def spanOf (g : Geo) (c : Cmd) : Int × Int := bif cmdCode g c == 0 then (bif c.Op == 4 then (0, blocks g) else (c.Lba, c.Lba + runOf c)) else (0, 0)
def allN (n : Nat) (p : Nat → Bool) : Bool := (List.range n).all p
def clashB (x y : Int × Int) : Bool := decide (x.1 < y.2) && decide (y.1 < x.2)
def clashes (g : Geo) (a b : Cmd) : Bool := clashB (spanOf g a) (spanOf g b)
def jobC (x : Eng) (i : Nat) : Cmd := (x.Jobs.getD i default).C
def apartAt (x : Eng) (i : Nat) : Bool := allN i fun k => !clashes x.A.G (jobC x i) (jobC x k)
def apart (x : Eng) : Bool := allN x.Jobs.length (apartAt x)
def X (n : Int) : BitVec 64 := BitVec.ofInt 64 n
def Ev (X : Nat → Option Outs) (d : Nat) (ok : Outs → Prop) : Prop := ∃ o, ok o ∧ ∀ k, Big + d ≤ k → X k = some o
structure Cur where
  b : List Int
  i : Int
  h : Int
@[simp] theorem Outs.vt_mk (l : List T) (c : List T) (j : Nat) : Outs.vt ⟨l, [c]⟩ 0 j = c.getD j (.i 0) := rfl
def markL {α : Type} (cnt : α → Nat) (mk : Int → α → α) : Int → List α → List α
  | _, [] => []
  | a, x :: l => mk a x :: markL cnt mk (a + (cnt x : Nat)) l
theorem markL_len {α : Type} (cnt : α → Nat) (mk : Int → α → α) : ∀ (a : Int) (l : List α), (markL cnt mk a l).length = l.length
  | _, [] => rfl
  | a, x :: l => by simp [markL, markL_len cnt mk _ l]
theorem markL_get {α : Type} (cnt : α → Nat) (mk : Int → α → α) : ∀ (a : Int) (l : List α) (i : Nat) (hi : i < l.length), (markL cnt mk a l)[i]'(by rw [markL_len]; exact hi) = mk (a + (((l.take i).map cnt).sum : Nat)) l[i]
  | a, x :: l, 0, _ => by simp [markL]
  | a, x :: l, i + 1, hi => by
    have := markL_get cnt mk (a + (cnt x : Nat)) l i (by simpa using hi)
    simp only [markL, List.getElem_cons_succ, List.take_succ_cons, List.map_cons, List.sum_cons]
    rw [this]; congr 1; omega
theorem sum_take_lt {α : Type} (cnt : α → Nat) (l : List α) {i : Nat} (hi : i < l.length) : ((l.take i).map cnt).sum + cnt l[i] ≤ (l.map cnt).sum := by
  rw [← sum_take cnt l hi]; exact sum_take_le cnt l (i + 1)
theorem put_mid (A B : List (List T)) (r : List T) (j : Nat) (ts : List T) : put_ (A ++ r :: B) A.length j ts = A ++ spliceT r j ts :: B := by
  unfold put_; simp [List.getD_eq_getElem?_getD, List.set_append_right]
theorem mid_lt (A B : List (List T)) (r : List T) : decide ((A.length : Int) < ((A ++ r :: B).length : Int)) = true := by simp; omega
theorem mark_loop {α : Type} (enc : α → List T) (cnt : α → Nat) (mk : Int → α → α) (l : List α) (a : Int) (h0 : 0 ≤ a) (ha : a + ((l.map cnt).sum : Nat) ≤ 4611686018427387904) (hl : l.length ≤ Big)
    {b : (Int × Int × List (List T) → Option Outs) → Int × Int × List (List T) → Option Outs}
    (h : ∀ (i : Nat) (hi : i < l.length) (A B : List (List T)) (c : Int), i = A.length → 0 ≤ c → c + (cnt l[i] : Nat) ≤ 4611686018427387904 → ∀ G, b G (c, (i : Int), A ++ enc l[i] :: B) = G (c + (cnt l[i] : Nat), IntKind.wrap .i64 ((i : Int) + 1), A ++ enc (mk c l[i]) :: B))
    (he : ∀ (c : Int) (w : List (List T)), w.length = l.length → ∀ G, b G (c, (l.length : Int), w) = some ⟨[.i c], [[.r w]]⟩) {j : Nat} (hj : Big < j) :
    fixN b j (a, 0, l.map enc) = some ⟨[.i (a + ((l.map cnt).sum : Nat))], [[.r ((markL cnt mk a l).map enc)]]⟩ := by
  have hB : Big = 4294967296 := rfl
  have hm := markL_len cnt mk a l
  have := fixN_up (b := b) l.length (fun i => (a + (((l.take i).map cnt).sum : Nat), (i : Int), ((markL cnt mk a l).take i).map enc ++ (l.drop i).map enc)) (fun _ => some ⟨[.i (a + ((l.map cnt).sum : Nat))], [[.r ((markL cnt mk a l).map enc)]]⟩) (fun i hi G hG => ?_) (fun G => ?_) (j := j) (by omega)
  · simpa using this
  · have hs := sum_take_lt cnt l hi
    rw [List.drop_eq_getElem_cons hi, List.map_cons]
    rw [h i hi _ _ _ (by simp; omega) (by omega) (by omega), wrap_up (by omega)]
    have e1 : a + (((l.take i).map cnt).sum : Nat) + (cnt l[i] : Nat) = a + (((l.take (i + 1)).map cnt).sum : Nat) := by rw [sum_take cnt l hi]; omega
    have e2 : ((markL cnt mk a l).take i).map enc ++ enc (mk (a + (((l.take i).map cnt).sum : Nat)) l[i]) :: (l.drop (i + 1)).map enc = ((markL cnt mk a l).take (i + 1)).map enc ++ (l.drop (i + 1)).map enc := by
      rw [List.take_succ_eq_append_getElem (by omega), markL_get cnt mk a l i hi]; simp
    rw [e1, e2]; exact hG
  · rw [he _ _ (by simp; omega)]
    simp [List.take_of_length_le (Nat.le_of_eq hm)]
theorem held_loop {α : Type} (cnt : α → Nat) (l : List α) (a : Int) (h0 : 0 ≤ a) (ha : a + ((l.map cnt).sum : Nat) ≤ 4611686018427387904) (hl : l.length ≤ Big)
    {b : (Int × Int → Option Outs) → Int × Int → Option Outs}
    (h : ∀ (i : Nat) (hi : i < l.length) (c : Int), c = a + (((l.take i).map cnt).sum : Nat) → 0 ≤ c → c + (cnt l[i] : Nat) ≤ 4611686018427387904 → ∀ G, b G (c, (i : Int)) = G (c + (cnt l[i] : Nat), IntKind.wrap .i64 ((i : Int) + 1)))
    (he : ∀ (c : Int) G, b G (c, (l.length : Int)) = some ⟨[.i c], []⟩) {j : Nat} (hj : Big < j) :
    fixN b j (a, 0) = some ⟨[.i (a + ((l.map cnt).sum : Nat))], []⟩ := by
  have hB : Big = 4294967296 := rfl
  have := fixN_up (b := b) l.length (fun i => (a + (((l.take i).map cnt).sum : Nat), (i : Int))) (fun _ => some ⟨[.i (a + ((l.map cnt).sum : Nat))], []⟩) (fun i hi G hG => ?_) (fun G => ?_) (j := j) (by omega)
  · simpa using this
  · have hs := sum_take_lt cnt l hi
    rw [h i hi _ rfl (by omega) (by omega), wrap_up (by omega)]
    have e1 : a + (((l.take i).map cnt).sum : Nat) + (cnt l[i] : Nat) = a + (((l.take (i + 1)).map cnt).sum : Nat) := by rw [sum_take cnt l hi]; omega
    rw [e1]; exact hG
  · rw [he, List.take_length]
def Int.cn (_ : Int) : Nat := 1
def Int.mk_ (c : Int) (_ : Int) : Int := c
theorem markIntS_r (l : List Int) (a : Int) (h0 : 0 ≤ a) (ha : a + ((l.map Int.cn).sum : Nat) ≤ 4611686018427387904) (hl : l.length ≤ Big) : Rn 2 N.laws_markIntS [.r (eIs l), .v [.i a]] ⟨[.i (a + ((l.map Int.cn).sum : Nat))], [[.r (eIs (markL Int.cn Int.mk_ a l))]]⟩ := by
  refine Rn.of fun k hk => ?_
  rw [laws_markIntS_e]; unfold laws_markIntS_u laws_markIntS_U
  have hB : Big = 4294967296 := rfl
  refine mark_loop (fun n => [T.i n]) Int.cn Int.mk_ l a h0 ha hl (fun i hi A B c hA h1 h2 G => ?_) (fun c w hw G => ?_) (by omega)
  · subst hA
    unfold laws_markIntS_l1 laws_markIntS_L1
    have e1 : IntKind.wrap .i64 (c + 1) = c + 1 := wrap_id (by omega) (by unfold Int.cn at h2; omega)
    simp only [mid_lt, put_mid, Int.toNat_natCast, spliceT, e1, d0, Bool.and_self, chk_true, cond_true]
    rfl
  · unfold laws_markIntS_l1 laws_markIntS_L1
    simp only [hw, dll, cond_false]
theorem heldIntS_r (l : List Int) (a : Int) (h0 : 0 ≤ a) (ha : a + ((l.map Int.cn).sum : Nat) ≤ 4611686018427387904) (hl : l.length ≤ Big) : Rn 2 N.laws_heldIntS [.v [.r (eIs (markL Int.cn Int.mk_ a l))], .v [.i a]] ⟨[.i (a + ((l.map Int.cn).sum : Nat))], []⟩ := by
  refine Rn.of fun k hk => ?_
  rw [laws_heldIntS_e]; unfold laws_heldIntS_u laws_heldIntS_U
  have hB : Big = 4294967296 := rfl
  have hm := markL_len Int.cn Int.mk_ a l
  refine held_loop Int.cn l a h0 ha hl (fun i hi c hc h1 h2 G => ?_) (fun c G => ?_) (by omega)
  · unfold laws_heldIntS_l1 laws_heldIntS_L1
    have e1 : IntKind.wrap .i64 (c + 1) = c + 1 := wrap_id (by omega) (by unfold Int.cn at h2; omega)
    have hi' : i < (markL Int.cn Int.mk_ a l).length := by omega
    simp only [List.length_map, at_map _ hi', markL_get Int.cn Int.mk_ a l i hi, ← hc, Int.mk_, dlt hi', Int.toNat_natCast, e1, d0, Bool.and_self, chk_true, cond_true, List.getD_cons_zero, T.asI_i, bne_self_eq_false, cond_false]
    rfl
  · unfold laws_heldIntS_l1 laws_heldIntS_L1
    simp only [List.length_map, hm, dll, cond_false]
theorem sum_cn (l : List Int) : (l.map Int.cn).sum = l.length := by
  induction l with
  | nil => rfl
  | cons x l ih => simp [Int.cn, ih]; omega
def Wr.cn (x : Wr) : Nat := 1 + (x.S.map Int.cn).sum
def Ent.cn (x : Ent) : Nat := 1 + (x.Data.map Int.cn).sum
def Ans.cn (x : Ans) : Nat := 2 + (x.Vals.map Int.cn).sum
def Cmd.cn (x : Cmd) : Nat := 4 + (x.Vals.map Int.cn).sum
def Turn.cn (x : Turn) : Nat := 6 + (x.C.Vals.map Int.cn).sum + (x.A.Vals.map Int.cn).sum
def Job.cn (x : Job) : Nat := 6 + (x.C.Vals.map Int.cn).sum + (x.Got.map Int.cn).sum
theorem list_len (s : ByteArray) : s.data.toList.length = s.size := Array.length_toList
theorem split_e (k : Nat) (s p : ByteArray) : evalF E P0 (k + 1) N.strings_Split [.v [.s s], .v [.s p]] = prSplit [.v [.s s], .v [.s p]] := by kernel_rfl
theorem pw_e (k : Nat) (s : ByteArray) : evalF E P0 (k + 1) N.impl_parseWord [.v [.s s]] = prPw [.v [.s s]] := by kernel_rfl
abbrev eTs (l : List (List UInt8)) : List (List T) := l.map fun p => [.s (txt p)]
theorem byte_wrap (n : Nat) (h : n < 256) : IntKind.wrap .i64 (n : Int) = n := wrap_id (by omega) (by omega)
theorem byteAt_txt {p : List UInt8} {i : Nat} (h : i < p.length) : byteAt (txt p) i = (p[i].toNat : Int) := by
  unfold byteAt; rw [txt_data]; simp [List.getD_eq_getElem?_getD, h]
theorem seg_txt (s : ByteArray) (f i : Nat) : s.extract f i = txt ((s.data.toList.drop f).take (i - f)) := by
  rw [txt_of (s.extract f i), Lib.extract_data]
theorem seg_snoc {l : List UInt8} {f i : Nat} (hf : f ≤ i) (hi : i < l.length) : (l.drop f).take (i + 1 - f) = (l.drop f).take (i - f) ++ [l[i]] := by
  have h1 : i - f < (l.drop f).length := by rw [List.length_drop]; omega
  rw [show i + 1 - f = (i - f) + 1 by omega, List.take_succ_eq_append_getElem h1]
  congr 2
  rw [List.getElem_drop]; congr 1; omega
theorem split_loop (s : ByteArray) (hs : s.size ≤ 1048576) (k : Nat) : ∀ (d i f : Nat) (out : List (List UInt8)), i + d = s.size → f ≤ i → out.length ≤ i → ∀ j, d + 2 ≤ j →
    fixN (spec_l22Split_l1 k s 32) j ((f : Int), (i : Int), eTs out) = some ⟨[.r (eTs (out ++ glue ((s.data.toList.drop f).take (i - f)) (pcs (s.data.toList.drop i))))], []⟩
  | d, i, f, out, hd, hf, ho, 0, hj => by omega
  | 0, i, f, out, hd, hf, ho, j + 1, hj => by
    obtain ⟨j, rfl⟩ : ∃ m, j = m + 1 := ⟨j - 1, by omega⟩
    obtain rfl : i = s.size := by omega
    have hlen : s.data.toList.length = s.size := list_len s
    show spec_l22Split_l1 k s 32 (fixN (spec_l22Split_l1 k s 32) (j + 1)) _ = _
    generalize hG1 : fixN (spec_l22Split_l1 k s 32) (j + 1) = G1
    unfold spec_l22Split_l1 spec_l22Split_L1
    refine bifTt (decide_eq_true (Int.le_refl _)) ?_
    refine bifTt (beq_iff_eq.2 rfl) ?_
    unfold spec_l22Split_J1
    refine bifTt rfl ?_
    refine chkT (by rw [decide_eq_true (by omega), decide_eq_true (by omega), decide_eq_true (Int.le_refl _)]; rfl) ?_
    refine chkT (by simp; omega) ?_
    rw [wrap_up (by omega), Int.toNat_natCast, Int.toNat_natCast, seg_txt, ← hG1]
    show spec_l22Split_l1 k s 32 (fixN (spec_l22Split_l1 k s 32) j) _ = _
    generalize hG : fixN (spec_l22Split_l1 k s 32) j = G
    unfold spec_l22Split_l1 spec_l22Split_L1
    refine bifFf (decide_eq_false (by omega)) ?_
    rw [List.drop_eq_nil_of_le (Nat.le_of_eq hlen)]
    simp [pcs, glue]
  | d + 1, i, f, out, hd, hf, ho, j + 1, hj => by
    have hi : i < s.data.toList.length := by
      have : s.data.toList.length = s.size := list_len s
      omega
    show spec_l22Split_l1 k s 32 (fixN (spec_l22Split_l1 k s 32) j) _ = _
    generalize hG : fixN (spec_l22Split_l1 k s 32) j = G
    unfold spec_l22Split_l1 spec_l22Split_L1
    refine bifTt (decide_eq_true (by omega)) ?_
    refine bifFf (beq_eq_false_iff_ne.2 (by omega)) ?_
    refine chkT (by rw [decide_eq_true (by omega), decide_eq_true (by omega)]; rfl) ?_
    have hb : byteAt s i = (s.data.toList[i].toNat : Int) := by
      unfold byteAt; rw [List.getD_eq_getElem?_getD, List.getElem?_eq_getElem hi]; rfl
    rw [Int.toNat_natCast, hb, List.drop_eq_getElem_cons hi]
    unfold spec_l22Split_J1 pcs
    have hne := pcs_ne (s.data.toList.drop (i + 1))
    by_cases h32 : s.data.toList[i] = 32
    · refine bifTt (by rw [h32]; rfl) ?_
      refine chkT (by rw [decide_eq_true (by omega), decide_eq_true (by omega), decide_eq_true (by omega)]; rfl) ?_
      refine chkT (by simp; omega) ?_
      rw [wrap_up (by omega), Int.toNat_natCast, Int.toNat_natCast, seg_txt, if_pos h32]
      have := split_loop s hs k d (i + 1) (i + 1) (out ++ [(s.data.toList.drop f).take (i - f)]) (by omega) (Nat.le_refl _) (by simp; omega) j (by omega)
      rw [Nat.sub_self, List.take_zero, glue_nil hne, hG] at this
      simp only [List.map_append, List.map_cons, List.map_nil] at this ⊢
      rw [this]
      simp [glue]
    · refine bifFf (by
        simp only [beq_eq_false_iff_ne, ne_eq]
        intro he
        exact h32 (UInt8.toNat_inj.1 (by have e : (32 : UInt8).toNat = 32 := rfl
                                         omega))) ?_
      rw [wrap_up (by omega), if_neg h32]
      rw [← hG, split_loop s hs k d (i + 1) f out (by omega) (by omega) (by omega) j (by omega), glue_glue _ _ hne, seg_snoc hf hi]
theorem split_s (s : ByteArray) (hs : s.size ≤ 1048576) : Rn 1 N.spec_l22Split [.v [.s s], .v [.i 32]] ⟨[.r (eTs (pcs s.data.toList))], []⟩ := by
  refine Rn.of fun k hk => ?_
  have hB : Big = 4294967296 := rfl
  rw [spec_l22Split_e]; unfold spec_l22Split_u spec_l22Split_U
  have := split_loop s hs k s.size 0 0 [] (by omega) (Nat.le_refl _) (Nat.le_refl _) k (by omega)
  rw [List.drop_zero, List.nil_append, Nat.sub_self, List.take_zero, glue_nil (pcs_ne _)] at this
  exact this
theorem dig_in (c : UInt8) : isDig c = within (c.toNat : Int) 48 57 := by
  unfold isDig within
  rw [show decide (48 ≤ c.toNat) = decide ((48 : Int) ≤ (c.toNat : Int)) from decide_eq_decide.2 (by omega), show decide (c.toNat ≤ 57) = decide ((c.toNat : Int) ≤ 57) from decide_eq_decide.2 (by omega)]
theorem num_loop (p : List UInt8) (hp : p.length ≤ 5) (k : Nat) (hk : Big + 1 ≤ k) : ∀ (d i : Nat), i + d = p.length → (p.take i).all isDig = true → ∀ j, d + 1 ≤ j →
    fixN (spec_l22Parse_l1 k (txt p)) j (((val (p.take i) : Nat) : Int), (i : Int)) = some ⟨[.i (if p.all isDig = true ∧ val p ≤ 65535 then (val p : Int) else -1)], []⟩
  | d, i, hd, ha, 0, hj => by omega
  | 0, i, hd, ha, j + 1, hj => by
    have hB : Big = 4294967296 := rfl
    rw [List.take_of_length_le (by omega)] at ha ⊢
    show spec_l22Parse_l1 k (txt p) (fixN (spec_l22Parse_l1 k (txt p)) j) _ = _
    generalize hG : fixN (spec_l22Parse_l1 k (txt p)) j = G
    unfold spec_l22Parse_l1 spec_l22Parse_L1
    rw [txt_size]
    refine bifFf (decide_eq_false (by omega)) ?_
    by_cases hv : val p ≤ 65535
    · rw [if_pos ⟨ha, hv⟩]
      exact bifFf (decide_eq_false (by omega)) rfl
    · rw [if_neg (fun h => hv h.2)]
      exact bifTt (decide_eq_true (by omega)) rfl
  | d + 1, i, hd, ha, j + 1, hj => by
    have hB : Big = 4294967296 := rfl
    have hi : i < p.length := by omega
    have h256 := p[i].toNat_lt
    have hvl := val_lt _ (p.take i) rfl ha
    have hpow : (10 : Nat) ^ (p.take i).length ≤ 10 ^ 5 := Nat.pow_le_pow_right (by omega) (by rw [List.length_take]; omega)
    have e5 : (10 : Nat) ^ 5 = 100000 := by decide
    show spec_l22Parse_l1 k (txt p) (fixN (spec_l22Parse_l1 k (txt p)) j) _ = _
    generalize hG : fixN (spec_l22Parse_l1 k (txt p)) j = G
    unfold spec_l22Parse_l1 spec_l22Parse_L1
    rw [txt_size]
    refine bifTt (decide_eq_true (by omega)) ?_
    refine chkT (by rw [decide_eq_true (by omega), decide_eq_true (by omega)]; rfl) ?_
    rw [Int.toNat_natCast, byteAt_txt hi, byte_wrap _ h256]
    refine bndT (within_s _ 48 57 k (by omega)) ?_
    have hall : p.all isDig = true → isDig p[i] = true := fun h => List.all_eq_true.1 h _ (List.getElem_mem hi)
    cases hdg : isDig p[i] with
    | false =>
      refine bifTt (by show (!within (p[i].toNat : Int) 48 57) = true; rw [← dig_in, hdg]; rfl) ?_
      rw [if_neg (fun h => by rw [hall h.1] at hdg; cases hdg)]
    | true =>
      refine bifFf (by show (!within (p[i].toNat : Int) 48 57) = false; rw [← dig_in, hdg]; rfl) ?_
      refine chkT (by rw [decide_eq_true (by omega), decide_eq_true (by omega)]; rfl) ?_
      have hdt := dig_t hdg
      have e1 : IntKind.wrap .u8 ((p[i].toNat : Int) - 48) = (p[i].toNat : Int) - 48 := by
        unfold IntKind.wrap IntKind.signed IntKind.bits
        simp
        omega
      rw [e1, wrap_id (n := ((val (p.take i) : Nat) : Int) * 10) (by omega) (by omega), wrap_id (n := (p[i].toNat : Int) - 48) (by omega) (by omega), wrap_id (by omega) (by omega), wrap_up (by omega)]
      have hs : ((val (p.take i) : Nat) : Int) * 10 + ((p[i].toNat : Int) - 48) = ((val (p.take (i + 1)) : Nat) : Int) := by
        rw [List.take_succ_eq_append_getElem hi, val_snoc]; omega
      rw [hs]
      rw [← hG]
      exact num_loop p hp k hk d (i + 1) (by omega) (by rw [List.take_succ_eq_append_getElem hi, List.all_append, ha]; simpa using hdg) j (by omega)
theorem parse_s (p : List UInt8) (h : p.length ≤ 1048576) : Rn 3 N.spec_l22Parse [.v [.s (txt p)]] ⟨[.i (pn p)], []⟩ := by
  refine Rn.of fun k hk => ?_
  have hB : Big = 4294967296 := rfl
  rw [spec_l22Parse_e]; unfold spec_l22Parse_u spec_l22Parse_U
  rw [txt_size]
  refine bndT (within_s _ 1 5 k (by omega)) ?_
  unfold spec_l22Parse_J1
  by_cases hl : 1 ≤ p.length ∧ p.length ≤ 5
  · refine bifFf (by show (!within (p.length : Int) 1 5) = false; unfold within; rw [decide_eq_true (by omega), decide_eq_true (by omega)]; rfl) ?_
    have hloop : fixN (spec_l22Parse_l1 k (txt p)) k (0, 0) = _ := num_loop p hl.2 k (by omega) p.length 0 (by omega) rfl k (by omega)
    have h0 : 0 < p.length := hl.1
    have hhead : p.head? = some p[0] := by rw [List.head?_eq_getElem?]; simp [h0]
    by_cases h1 : 1 < p.length
    · refine bifTt (decide_eq_true (by omega)) ?_
      refine chkT (decide_eq_true (by omega)) ?_
      rw [byteAt_txt h0]
      by_cases h48 : p[0] = 48
      · refine bifTt (by rw [h48]; rfl) ?_
        unfold pn
        rw [if_neg (fun hh => hh.2.1 ⟨h1, by rw [hhead, h48]⟩)]
      · refine bifFf (by
          simp only [beq_eq_false_iff_ne, ne_eq]
          intro he
          exact h48 (UInt8.toNat_inj.1 (by have e : (48 : UInt8).toNat = 48 := rfl
                                           omega))) ?_
        refine hloop.trans ?_
        unfold pn
        have hc : ¬ (1 < p.length ∧ p.head? = some 48) := fun hh => by rw [hhead] at hh; exact h48 (by simpa using hh.2)
        by_cases hv : p.all isDig = true ∧ val p ≤ 65535
        · rw [if_pos hv, if_pos ⟨hl, hc, hv⟩]
        · rw [if_neg hv, if_neg (fun hh => hv hh.2.2)]
    · refine bifFf (decide_eq_false (by omega)) ?_
      refine bifFf rfl ?_
      refine hloop.trans ?_
      unfold pn
      by_cases hv : p.all isDig = true ∧ val p ≤ 65535
      · rw [if_pos hv, if_pos ⟨hl, fun hh => h1 hh.1, hv⟩]
      · rw [if_neg hv, if_neg (fun hh => hv hh.2.2)]
  · refine bifTt (by
      show (!within (p.length : Int) 1 5) = true
      unfold within
      by_cases h1 : 1 ≤ p.length
      · rw [decide_eq_false (show ¬ (p.length : Int) ≤ 5 by omega)]; simp
      · rw [decide_eq_false (show ¬ (1 : Int) ≤ (p.length : Int) by omega)]; rfl) ?_
    unfold pn
    rw [if_neg (fun hh => hl hh.1)]
    rfl
def wordsP : Nat → List (List UInt8) → List Int × Bool
  | _, [] => ([], true)
  | i, p :: ps => bif decide (pn p < 0) || decide (40 ≤ i) then ([], false) else bif (wordsP (i + 1) ps).2 then (pn p :: (wordsP (i + 1) ps).1, true) else ([], false)
theorem wordsP_f : ∀ (i : Nat) (ps : List (List UInt8)), (wordsP i ps).2 = false → (wordsP i ps).1 = []
  | _, [], h => by cases h
  | i, p :: ps, h => by
    unfold wordsP at h ⊢
    cases hc : decide (pn p < 0) || decide (40 ≤ i) with
    | true => rfl
    | false =>
      rw [hc, cond_false] at h
      cases h2 : (wordsP (i + 1) ps).2 with
      | true => rw [h2] at h; cases h
      | false => rfl
theorem wordsP_len : ∀ (i : Nat) (ps : List (List UInt8)), (wordsP i ps).1.length ≤ ps.length
  | _, [] => Nat.le_refl _
  | i, p :: ps => by
    unfold wordsP
    cases decide (pn p < 0) || decide (40 ≤ i) with
    | true => exact Nat.zero_le _
    | false =>
      cases (wordsP (i + 1) ps).2 with
      | true => simpa using wordsP_len (i + 1) ps
      | false => exact Nat.zero_le _
def outP (acc : List Int) (r : List Int × Bool) : Outs := bif r.2 then ⟨[.r (eIs (acc ++ r.1)), .b true], []⟩ else ⟨[.r [], .b false], []⟩
theorem words_loop_s (ps : List (List UInt8)) (hn : ps.length ≤ 2097152) (hl : ∀ p, p ∈ ps → p.length ≤ 1048576) (k : Nat) (hk : Big + 3 ≤ k) : ∀ (d i : Nat) (acc : List Int), i + d = ps.length → acc.length = i → ∀ j, d + 1 ≤ j →
    fixN (spec_l22Words_l1 k (eTs ps)) j ((i : Int), eIs acc) = some (outP acc (wordsP i (ps.drop i)))
  | d, i, acc, hd, ha, 0, hj => by omega
  | 0, i, acc, hd, ha, j + 1, hj => by
    show spec_l22Words_l1 k (eTs ps) (fixN (spec_l22Words_l1 k (eTs ps)) j) _ = _
    generalize hG : fixN (spec_l22Words_l1 k (eTs ps)) j = G
    unfold spec_l22Words_l1 spec_l22Words_L1
    rw [List.length_map]
    refine bifFf (decide_eq_false (by omega)) ?_
    rw [List.drop_eq_nil_of_le (by omega)]
    simp [wordsP, outP]
  | d + 1, i, acc, hd, ha, j + 1, hj => by
    have hB : Big = 4294967296 := rfl
    have hi : i < ps.length := by omega
    show spec_l22Words_l1 k (eTs ps) (fixN (spec_l22Words_l1 k (eTs ps)) j) _ = _
    generalize hG : fixN (spec_l22Words_l1 k (eTs ps)) j = G
    unfold spec_l22Words_l1 spec_l22Words_L1
    rw [List.length_map]
    refine bifTt (decide_eq_true (by omega)) ?_
    refine chkT (by rw [decide_eq_true (by omega), decide_eq_true (by omega)]; rfl) ?_
    rw [Int.toNat_natCast, at_map _ hi]
    refine bndT (parse_s ps[i] (hl _ (List.getElem_mem hi)) k (by omega)) ?_
    simp only [Outs.t_mk, List.getD_cons_zero, T.asI_i]
    rw [List.drop_eq_getElem_cons hi]
    unfold wordsP
    by_cases hp : pn ps[i] < 0
    · refine bifTt (decide_eq_true hp) ?_
      rw [decide_eq_true hp]; rfl
    refine bifFf (decide_eq_false hp) ?_
    rw [decide_eq_false hp]
    by_cases h40 : 40 ≤ i
    · refine bifTt (decide_eq_true (by omega)) ?_
      rw [decide_eq_true h40]; rfl
    refine bifFf (decide_eq_false (by omega)) ?_
    rw [decide_eq_false h40]
    refine chkT (by simp; omega) ?_
    rw [wrap_up (by omega)]
    have := words_loop_s ps hn hl k hk d (i + 1) (acc ++ [pn ps[i]]) (by omega) (by simp; omega) j (by omega)
    rw [show (acc.map fun n => [T.i n]) ++ [[T.i (pn ps[i])]] = eIs (acc ++ [pn ps[i]]) by simp]
    rw [hG] at this
    refine this.trans ?_
    unfold outP
    simp only [Bool.or_self, cond_false]
    cases (wordsP (i + 1) (List.drop (i + 1) ps)).2 <;> simp
theorem words_loop_i (ps : List (List UInt8)) (hn : ps.length ≤ 2097152) (hl : ∀ p, p ∈ ps → p.length ≤ 1048576) (k : Nat) (hk : Big + 3 ≤ k) : ∀ (d i : Nat) (acc : List Int), i + d = ps.length → acc.length = i → i ≤ 40 → ∀ j, d + 1 ≤ j →
    fixN (impl_ParseWords_l1 k ⟨[.r (eTs ps)], []⟩ (ps.length : Int)) j ((i : Int), eIs acc) = some (outP acc (wordsP i (ps.drop i)))
  | d, i, acc, hd, ha, hi4, 0, hj => by omega
  | 0, i, acc, hd, ha, hi4, j + 1, hj => by
    show impl_ParseWords_l1 k ⟨[.r (eTs ps)], []⟩ (ps.length : Int) (fixN (impl_ParseWords_l1 k ⟨[.r (eTs ps)], []⟩ (ps.length : Int)) j) _ = _
    generalize hG : fixN (impl_ParseWords_l1 k ⟨[.r (eTs ps)], []⟩ (ps.length : Int)) j = G
    unfold impl_ParseWords_l1 impl_ParseWords_L1
    refine bifFf (decide_eq_false (by omega)) ?_
    rw [List.drop_eq_nil_of_le (by omega)]
    simp [wordsP, outP]
  | d + 1, i, acc, hd, ha, hi4, j + 1, hj => by
    have hB : Big = 4294967296 := rfl
    have hi : i < ps.length := by omega
    obtain ⟨k, rfl⟩ : ∃ m, k = m + 1 := ⟨k - 1, by omega⟩
    show impl_ParseWords_l1 (k + 1) ⟨[.r (eTs ps)], []⟩ (ps.length : Int) (fixN (impl_ParseWords_l1 (k + 1) ⟨[.r (eTs ps)], []⟩ (ps.length : Int)) j) _ = _
    generalize hG : fixN (impl_ParseWords_l1 (k + 1) ⟨[.r (eTs ps)], []⟩ (ps.length : Int)) j = G
    unfold impl_ParseWords_l1 impl_ParseWords_L1
    refine bifTt (decide_eq_true (by omega)) ?_
    simp only [Outs.t_mk, List.getD_cons_zero, T.asR_r, List.length_map, at_map _ hi, dlt hi, d0, Bool.and_self, chk_true, Int.toNat_natCast, T.asS_s]
    rw [pw_e]
    have hsz := hl _ (List.getElem_mem hi)
    have hpw : prPw [.v [.s (txt ps[i])]] = some ⟨[.i (pwT (txt ps[i])).1, .b (pwT (txt ps[i])).2], []⟩ := by
      show (bif decide ((txt ps[i]).size ≤ 281474976710656) then _ else _) = _
      rw [txt_size, decide_eq_true (by omega)]; rfl
    rw [hpw, pwT_pn, bindO_some]
    rw [List.drop_eq_getElem_cons hi]
    unfold wordsP
    by_cases hp : pn ps[i] < 0
    · rw [if_pos hp, decide_eq_true hp]; rfl
    rw [if_neg hp, decide_eq_false hp]
    refine bifFf rfl ?_
    by_cases h40 : 40 ≤ i
    · refine bifTt (by simp; omega) ?_
      rw [decide_eq_true h40]; rfl
    refine bifFf (by simp; omega) ?_
    rw [decide_eq_false h40]
    refine chkT (by simp; omega) ?_
    rw [wrap_up (by omega)]
    have := words_loop_i ps hn hl (k + 1) hk d (i + 1) (acc ++ [pn ps[i]]) (by omega) (by simp; omega) (by omega) j (by omega)
    show G (_, (acc.map fun n => [T.i n]) ++ [[T.i (pn ps[i])]]) = _
    rw [show (acc.map fun n => [T.i n]) ++ [[T.i (pn ps[i])]] = eIs (acc ++ [pn ps[i]]) by simp]
    rw [hG] at this
    refine this.trans ?_
    unfold outP
    simp only [Bool.or_self, cond_false]
    cases (wordsP (i + 1) (List.drop (i + 1) ps)).2 <;> simp
theorem pcs_len : ∀ l, (pcs l).length ≤ l.length + 1 ∧ ∀ p, p ∈ pcs l → p.length ≤ l.length
  | [] => by simp [pcs]
  | c :: r => by
    obtain ⟨h1, h2⟩ := pcs_len r
    unfold pcs
    split
    · refine ⟨by simp; omega, fun p hp => ?_⟩
      rcases List.mem_cons.1 hp with rfl | hp
      · simp
      · have := h2 p hp; simp; omega
    · cases hq : pcs r with
      | nil => exact absurd hq (pcs_ne r)
      | cons q qs =>
        rw [hq] at h1 h2
        refine ⟨by simp [glue] at h1 ⊢; omega, fun p hp => ?_⟩
        rcases List.mem_cons.1 hp with rfl | hp
        · have := h2 q List.mem_cons_self; simp; omega
        · have := h2 p (List.mem_cons_of_mem _ hp); simp; omega
def parseP (s : ByteArray) : List Int × Bool := bif decide (s = txt []) then ([], true) else wordsP 0 (pcs s.data.toList)
theorem isNil (s : ByteArray) : (s.toList == (ByteArray.mk #[]).toList) = decide (s = txt []) := by
  have := eqb (a := s.data.toList) (s := txt [])
  rw [← txt_of] at this
  rw [ByteArray.toList_eq s]; exact this
theorem outP_nil (r : List Int × Bool) (h : r.2 = false → r.1 = []) : outP [] r = ⟨[.r (eIs r.1), .b r.2], []⟩ := by
  unfold outP
  cases hr : r.2 with
  | true => simp
  | false => rw [h hr]; rfl
theorem parse_spec (s : ByteArray) (hs : s.size ≤ 1048576) : Rn 8 N.spec_ParseWords [.v [.s s]] ⟨[.r (eIs (parseP s).1), .b (parseP s).2], []⟩ := by
  refine Rn.of fun k hk => ?_
  have hB : Big = 4294967296 := rfl
  have hlen : s.data.toList.length = s.size := list_len s
  rw [spec_ParseWords_e]; unfold spec_ParseWords_u parseP
  rw [isNil]
  by_cases hn : s = txt []
  · rw [decide_eq_true hn]; rfl
  rw [decide_eq_false hn]
  refine bifFf rfl ?_
  refine bndT (split_s s hs k (by omega)) ?_
  obtain ⟨p1, p2⟩ := pcs_len s.data.toList
  have hw : Rn 5 N.spec_l22Words [.v [.r (eTs (pcs s.data.toList))]] (outP [] (wordsP 0 (pcs s.data.toList))) := by
    refine Rn.of fun k hk => ?_
    rw [spec_l22Words_e]; unfold spec_l22Words_u spec_l22Words_U
    exact words_loop_s (pcs s.data.toList) (by omega) (fun p hp => by have := p2 p hp; omega) k (by omega) _ 0 [] (Nat.zero_add _) rfl k (by omega)
  rw [outP_nil _ (wordsP_f 0 _)] at hw
  exact bndT (hw k (by omega)) rfl
theorem parse_impl (s : ByteArray) (hs : s.size ≤ 1048576) : Rn 8 N.impl_ParseWords [.v [.s s]] ⟨[.r (eIs (parseP s).1), .b (parseP s).2], []⟩ := by
  refine Rn.of fun k hk => ?_
  obtain ⟨k, rfl⟩ : ∃ m, k = m + 1 := ⟨k - 1, by omega⟩
  have hB : Big = 4294967296 := rfl
  have hlen : s.data.toList.length = s.size := list_len s
  rw [impl_ParseWords_e]; unfold impl_ParseWords_u impl_ParseWords_U parseP
  rw [isNil]
  by_cases hn : s = txt []
  · rw [decide_eq_true hn]; rfl
  rw [decide_eq_false hn]
  refine bifFf rfl ?_
  obtain ⟨p1, p2⟩ := pcs_len s.data.toList
  have hsp : prSplit [.v [.s s], .v [.s (ByteArray.mk #[32])]] = some ⟨[.r (eTs (pcs s.data.toList))], []⟩ := by
    show (bif decide (s.size < 4294967281) && decide (1 ≤ (txt [32]).size) then some (⟨[.r ((splitT s (txt [32])).map fun x => [.s x])], []⟩ : Outs) else none) = _
    rw [decide_eq_true (by omega), decide_eq_true (by rw [txt_size]; simp), pcs_rows]; rfl
  refine bndT ((split_e k s _).trans hsp) ?_
  have := words_loop_i (pcs s.data.toList) (by omega) (fun p hp => by have := p2 p hp; omega) (k + 1) (by omega) _ 0 [] (Nat.zero_add _) rfl (by omega) (k + 1) (by omega)
  rw [outP_nil _ (wordsP_f 0 _)] at this
  simp only [Outs.t_mk, List.getD_cons_zero, T.asR_r, List.length_map]
  exact this
theorem FnExactParseWords_r (s : ByteArray) (hs0 : True) : Rn 30 N.laws_FnExactParseWords [.v [.s s]] ⟨[.b true], []⟩ := by
  refine Rn.of fun k hk => ?_
  have hB : Big = 4294967296 := rfl
  rw [laws_FnExactParseWords_e]; unfold laws_FnExactParseWords_u
  by_cases h0 : s.size > 1048576
  · exact bifTt (decide_eq_true (by omega)) rfl
  refine bifFf (decide_eq_false (by omega)) ?_
  have t1 := parse_spec s (by omega) k (by omega)
  have t2 := parse_impl s (by omega) k (by omega)
  have hl : (parseP s).1.length ≤ 1048577 := by
    have hlen : s.data.toList.length = s.size := list_len s
    obtain ⟨p1, p2⟩ := pcs_len s.data.toList
    unfold parseP
    cases decide (s = txt []) with
    | true => exact Nat.zero_le _
    | false => have := wordsP_len 0 (pcs s.data.toList); simp only [cond_false]; omega
  generalize (parseP s).1 = l at *
  generalize (parseP s).2 = ok at *
  have c1 := sum_cn l
  have t3 := eqIntS_R l (by omega) k (by omega)
  have t4 := markIntS_r l 1 (by omega) (by omega) (by omega) k (by omega)
  have t5 := heldIntS_r l 1 (by omega) (by omega) (by omega) k (by omega)
  refine bndT t1 (bndT t2 (bndT t3 (bifFf rfl ?_)))
  unfold laws_FnExactParseWords_J1
  refine bifFf (show (!(ok == ok)) = false by simp) ?_
  refine bndT t4 (bndT t5 ?_)
  refine bifFf (decide_eq_false (show ¬ ((1 + ((l.map Int.cn).sum : Nat) : Int) < 0) by omega)) ?_
  refine bifFf (show ((1 + ((l.map Int.cn).sum : Nat) : Int) != 1 + ((l.map Int.cn).sum : Nat)) = false by simp) ?_
  refine bndT t2 (bndT t3 (bifFf rfl (bifFf (show (!(ok == ok)) = false by simp) (bndT t5 ?_))))
  refine bifFf (decide_eq_false (show ¬ ((1 + ((l.map Int.cn).sum : Nat) : Int) < 0) by omega)) ?_
  exact bifFf (show ((1 + ((l.map Int.cn).sum : Nat) : Int) != 1 + ((l.map Int.cn).sum : Nat)) = false by simp) rfl
end
end Go.Proofs.YtbmkpnabhodggaaDoor.Ev
