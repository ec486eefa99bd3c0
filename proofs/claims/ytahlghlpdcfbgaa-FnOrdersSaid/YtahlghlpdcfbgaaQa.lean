/- What is drawn: that it comes, and how great it is. No condition. -/
import Derived.Test.YtahlghlpdcfbgaaPy
namespace Go.Proofs.Ytahlghlpdcfbgaa.Ev
open Go
set_option linter.unusedVariables false
set_option linter.unusedSimpArgs false
set_option maxHeartbeats 1000000

/-- What comes out, with all rounds from some number on. -/
def Ev (X : Nat → Option Outs) (d : Nat) (ok : Outs → Prop) : Prop := ∃ o, ok o ∧ ∀ k, Big + d ≤ k → X k = some o
theorem Ev.ret {ok : Outs → Prop} {o : Outs} (h : ok o) (d : Nat) : Ev (fun _ => some o) d ok := ⟨o, h, fun _ _ => rfl⟩
theorem Ev.up {X : Nat → Option Outs} {d d' : Nat} {ok : Outs → Prop} (h : Ev X d ok) (hd : d ≤ d') : Ev X d' ok := by
  obtain ⟨o, h1, h2⟩ := h; exact ⟨o, h1, fun k hk => h2 k (by omega)⟩
theorem Ev.bind {F : Nat → Option Outs} {K : Nat → Outs → Option Outs} {d d1 : Nat} {ok1 ok : Outs → Prop} (h1 : Ev F d1 ok1) (hd : d1 ≤ d) (h2 : ∀ o, ok1 o → Ev (fun k => K k o) d ok) : Ev (fun k => bindO (F k) (K k)) d ok := by
  obtain ⟨o, a1, a2⟩ := h1
  obtain ⟨o', b1, b2⟩ := h2 o a1
  exact ⟨o', b1, fun k hk => by show bindO (F k) (K k) = _; rw [a2 k (by omega), bindO_some]; exact b2 k hk⟩
theorem Ev.call {f : FuncId} {ins : List Arg} {o : Outs} {K : Nat → Outs → Option Outs} {d d1 : Nat} {ok : Outs → Prop} (h1 : Rn d1 f ins o) (hd : d1 ≤ d) (h2 : Ev (fun k => K k o) d ok) : Ev (fun k => bindO (evalF E P0 k f ins) (K k)) d ok := by
  obtain ⟨o', b1, b2⟩ := h2
  exact ⟨o', b1, fun k hk => by show bindO _ (K k) = _; rw [h1 k (by omega), bindO_some]; exact b2 k hk⟩
theorem Ev.chk {c : Bool} {X : Nat → Option Outs} {d : Nat} {ok : Outs → Prop} (hc : c = true) (h : Ev X d ok) : Ev (fun k => Go.Proofs.Ytahlghlpdcfbgaa.Ev.chk c (X k)) d ok := by
  subst hc; exact h
theorem Ev.ite {c : Bool} {X Y : Nat → Option Outs} {d : Nat} {ok : Outs → Prop} (h1 : c = true → Ev X d ok) (h2 : c = false → Ev Y d ok) : Ev (fun k => bif c then X k else Y k) d ok := by
  cases c
  · exact h2 rfl
  · exact h1 rfl
theorem Ev.fn {f : FuncId} {ins : List Arg} {U : Nat → Option Outs} {d : Nat} {ok : Outs → Prop} (he : ∀ k, evalF E P0 (k + 1) f ins = U k) (h : Ev U d ok) : Ev (fun k => evalF E P0 k f ins) (d + 1) ok := by
  obtain ⟨o, h1, h2⟩ := h
  refine ⟨o, h1, fun k hk => ?_⟩
  obtain ⟨k, rfl⟩ : ∃ m, k = m + 1 := ⟨k - 1, by omega⟩
  show evalF E P0 (k + 1) f ins = _
  rw [he]; exact h2 k (by omega)
theorem Ev.weak {X : Nat → Option Outs} {d : Nat} {ok ok' : Outs → Prop} (h : Ev X d ok) (hk : ∀ o, ok o → ok' o) : Ev X d ok' := by
  obtain ⟨o, h1, h2⟩ := h; exact ⟨o, hk o h1, h2⟩
theorem Ev.rn {f : FuncId} {ins : List Arg} {d : Nat} {o : Outs} (h : Ev (fun k => evalF E P0 k f ins) d (· = o)) : Rn d f ins o := by
  obtain ⟨o', rfl, h2⟩ := h; exact h2
theorem Ev.of_rn {f : FuncId} {ins : List Arg} {d : Nat} {o : Outs} {ok : Outs → Prop} (h : Rn d f ins o) (hk : ok o) : Ev (fun k => evalF E P0 k f ins) d ok := ⟨o, hk, h⟩

/-! ### The cursor -/
structure Cur where
  b : List Int
  i : Int
  h : Int
abbrev Cur.e (c : Cur) : List T := [.r (eIs c.b), .i c.i, .i c.h]
def Cur.ok (c : Cur) : Prop := c.b.length ≤ Big ∧ 0 ≤ c.i ∧ c.i ≤ (c.b.length : Int)
/-- A draw's answer: the cells, and the cursor behind. -/
def CD (okr : List T → Prop) (o : Outs) : Prop := ∃ r c, okr r ∧ Cur.ok c ∧ o = ⟨r, [c.e]⟩
def Num (p : Int → Prop) (r : List T) : Prop := ∃ n, p n ∧ r = [.i n]
@[simp] theorem Outs.vt_mk (l : List T) (c : List T) (j : Nat) : Outs.vt ⟨l, [c]⟩ 0 j = c.getD j (.i 0) := rfl
theorem bitsAnd_b {a n : Int} (h0 : 0 ≤ n) (h1 : n ≤ 4294967296) : 0 ≤ bitsAnd .i64 a n ∧ bitsAnd .i64 a n ≤ n := by
  have hlt : ((BitVec.ofInt 64 a &&& BitVec.ofInt 64 n).toNat : Int) ≤ n := by
    rw [BitVec.toNat_and]
    have h2 : (BitVec.ofInt 64 a).toNat &&& (BitVec.ofInt 64 n).toNat ≤ (BitVec.ofInt 64 n).toNat := Nat.and_le_right
    have h3 : ((BitVec.ofInt 64 n).toNat : Int) = n := by
      rw [BitVec.toNat_ofInt]
      have : n % (2 ^ 64 : Nat) = n := Int.emod_eq_of_lt h0 (by omega)
      omega
    omega
  have e : bitsAnd .i64 a n = ((BitVec.ofInt 64 a &&& BitVec.ofInt 64 n).toNat : Int) := by
    show IntKind.wrap .i64 ((BitVec.ofInt 64 a &&& BitVec.ofInt 64 n).toNat : Int) = _
    exact wrap_id (by omega) (by omega)
  rw [e]; omega
def hashAt (l : List Int) : Nat → Int
  | 0 => IntKind.wrap .i64 (770770 + (l.length : Int))
  | i + 1 => bitsAnd .i64 (IntKind.wrap .i64 ((IntKind.wrap .i64 ((IntKind.wrap .i64 (hashAt l i * 137)) + (IntKind.wrap .i64 (l.getD i 0)))) + 11)) 1073741823
theorem new_d (l : List Int) (h : l.length ≤ Big) : Ev (fun k => evalF E P0 k N.spec_l1New [.v [.r (eIs l)]]) 1 (fun o => ∃ c, Cur.ok c ∧ o = ⟨[.r [c.e]], []⟩) := by
  refine Ev.fn (fun k => spec_l1New_e k _) ?_
  refine ⟨⟨[.r [Cur.e ⟨l, 0, hashAt l (min l.length 4000)⟩]], []⟩, ⟨⟨l, 0, hashAt l (min l.length 4000)⟩, ⟨h, by simp, by simp⟩, rfl⟩, fun k hk => ?_⟩
  unfold spec_l1New_u spec_l1New_U
  rw [List.length_map]
  refine fixN_up (R := Outs) (min l.length 4000) (fun i => (hashAt l i, (i : Int))) (fun _ => some ⟨[.r [Cur.e ⟨l, 0, hashAt l (min l.length 4000)⟩]], []⟩) (fun i hi G hG => ?_) (fun G => ?_) (by unfold Big at hk; omega)
  · have hi' : i < l.length := by omega
    unfold spec_l1New_l1 spec_l1New_L1 spec_l1New_J1
    simp only [List.length_map, dlt hi', at_ints hi', d0, Bool.and_self, chk_true, cond_true, Int.toNat_natCast]
    rw [decide_eq_true (by omega), cond_true, wrap_up (by omega)]
    exact hG
  · unfold spec_l1New_l1 spec_l1New_L1 spec_l1New_J1
    simp only [List.length_map]
    by_cases h4 : 4000 < l.length
    · rw [decide_eq_true (by omega), decide_eq_false (by omega)]; rfl
    · rw [decide_eq_false (by omega)]; rfl
theorem byte_d (c : Cur) (hc : c.ok) : Ev (fun k => evalF E P0 k N.spec_l1Byte [.p c.e]) 1 (CD (Num fun n => 0 ≤ n ∧ n ≤ 255)) := by
  refine Ev.fn (fun k => spec_l1Byte_e k _ _ _) ?_
  unfold spec_l1Byte_u
  obtain ⟨h1, h2, h3⟩ := hc
  simp only [List.length_map]
  refine Ev.ite (fun h => ?_) (fun h => ?_)
  · have h := of_decide_eq_true h
    refine Ev.chk (by simp; omega) (Ev.ret ?_ _)
    have hok : 0 ≤ IntKind.wrap .i64 (c.i + 1) ∧ IntKind.wrap .i64 (c.i + 1) ≤ (c.b.length : Int) := by
      rw [wrap_id (n := c.i + 1) (by unfold Big at h1; omega) (by unfold Big at h1; omega)]; omega
    exact ⟨_, ⟨c.b, IntKind.wrap .i64 (c.i + 1), _⟩, ⟨_, bitsAnd_b (by omega) (by omega), rfl⟩, ⟨h1, hok.1, hok.2⟩, rfl⟩
  · exact Ev.ret ⟨_, ⟨c.b, c.i, IntKind.wrap .i64 (IntKind.wrap .i64 (c.h * 6364136223846793005) + 1442695040888963407)⟩, ⟨_, bitsAnd_b (by omega) (by omega), rfl⟩, ⟨h1, h2, h3⟩, rfl⟩ _
theorem below_d (c : Cur) (hc : c.ok) (n : Int) (hn : n ≤ 1073741824) : Ev (fun k => evalF E P0 k N.spec_l1Below [.p c.e, .v [.i n]]) 2 (CD (Num fun x => 0 ≤ x ∧ (x < n ∨ x = 0))) := by
  refine Ev.fn (fun k => spec_l1Below_e k _ _ _ _) ?_
  unfold spec_l1Below_u
  refine Ev.ite (fun h => Ev.ret ⟨_, c, ⟨0, by omega, rfl⟩, hc, rfl⟩ _) (fun h => ?_)
  have h := of_decide_eq_false h
  refine Ev.ite (fun h' => ?_) (fun h' => ?_)
  · refine Ev.bind (byte_d c hc) (by omega) ?_
    rintro o ⟨r, c1, ⟨x, hx, rfl⟩, h1, rfl⟩
    refine Ev.chk (by simp; omega) (Ev.ret ?_ _)
    simp only [Outs.t_mk, Outs.vt_mk, List.getD_cons_zero, List.getD_cons_succ, T.asI_i, T.asR_r]
    rw [Int.tmod_eq_emod_of_nonneg hx.1]
    exact ⟨_, c1, ⟨_, ⟨Int.emod_nonneg _ (by omega), .inl (Int.emod_lt_of_pos _ (by omega))⟩, rfl⟩, h1, rfl⟩
  · refine Ev.bind (byte_d c hc) (by omega) ?_
    rintro o ⟨r, c1, ⟨x, hx, rfl⟩, h1, rfl⟩
    simp only [Outs.t_mk, Outs.vt_mk, List.getD_cons_zero, List.getD_cons_succ, T.asI_i, T.asR_r]
    refine Ev.bind (byte_d c1 h1) (by omega) ?_
    rintro o ⟨r, c2, ⟨y, hy, rfl⟩, h2, rfl⟩
    simp only [Outs.t_mk, Outs.vt_mk, List.getD_cons_zero, List.getD_cons_succ, T.asI_i, T.asR_r]
    refine Ev.bind (byte_d c2 h2) (by omega) ?_
    rintro o ⟨r, c3, ⟨z, hz, rfl⟩, h3, rfl⟩
    refine Ev.chk (by simp; omega) (Ev.ret ?_ _)
    simp only [Outs.t_mk, Outs.vt_mk, List.getD_cons_zero, List.getD_cons_succ, T.asI_i, T.asR_r]
    rw [wrap_id (n := x * 65536) (by omega) (by omega), wrap_id (n := y * 256) (by omega) (by omega), wrap_id (n := x * 65536 + y * 256) (by omega) (by omega), wrap_id (n := x * 65536 + y * 256 + z) (by omega) (by omega), Int.tmod_eq_emod_of_nonneg (by omega)]
    exact ⟨_, c3, ⟨_, ⟨Int.emod_nonneg _ (by omega), .inl (Int.emod_lt_of_pos _ (by omega))⟩, rfl⟩, h3, rfl⟩
theorem once_d (c : Cur) (hc : c.ok) (n : Int) (hn : n ≤ 1073741824) : Ev (fun k => evalF E P0 k N.spec_l1Once [.p c.e, .v [.i n]]) 3 (CD fun r => ∃ x, r = [.b x]) := by
  refine Ev.fn (fun k => spec_l1Once_e k _ _ _ _) ?_
  unfold spec_l1Once_u
  refine Ev.bind (below_d c hc n hn) (by omega) ?_
  rintro o ⟨r, c1, ⟨x, hx, rfl⟩, h1, rfl⟩
  exact Ev.ret ⟨_, c1, ⟨_, rfl⟩, h1, rfl⟩ _
theorem int_d (c : Cur) (hc : c.ok) (l : List Int) (h0 : 0 < l.length) (hl : l.length ≤ 100) : Ev (fun k => evalF E P0 k N.spec_l1Int [.p c.e, .v [.r (eIs l)]]) 3 (CD (Num fun x => x ∈ l)) := by
  refine Ev.fn (fun k => spec_l1Int_e k _ _ _ _) ?_
  unfold spec_l1Int_u
  rw [List.length_map]
  refine Ev.bind (below_d c hc _ (by omega)) (by omega) ?_
  rintro o ⟨r, c1, ⟨x, hx, rfl⟩, h1, rfl⟩
  simp only [Outs.t_mk, Outs.vt_mk, List.getD_cons_zero, List.getD_cons_succ, T.asI_i, T.asR_r]
  refine Ev.chk (by simp; omega) (Ev.ret ?_ _)
  have hi : x.toNat < l.length := by omega
  rw [at_ints hi, getD_at hi]
  exact ⟨_, c1, ⟨_, List.getElem_mem hi, rfl⟩, h1, rfl⟩
theorem draw_d (c : Cur) (hc : c.ok) : Ev (fun k => evalF E P0 k N.spec_l1Draw [.p c.e]) 4 (CD (Num fun x => 0 ≤ x ∧ x ≤ 65535)) := by
  refine Ev.fn (fun k => spec_l1Draw_e k _ _ _) ?_
  unfold spec_l1Draw_u
  refine Ev.bind (int_d c hc [0, 1, 2, 7, 255, 256, 4660, 65535] (by simp) (by simp)) (by omega) ?_
  rintro o ⟨r, c1, ⟨x, hx, rfl⟩, h1, rfl⟩
  refine Ev.ret ⟨_, c1, ⟨x, ?_, rfl⟩, h1, rfl⟩ _
  simp at hx; omega
end Go.Proofs.Ytahlghlpdcfbgaa.Ev
