/- What the program's and the reference's functions compute, as plain functions on the structures (sectors, disks' form, geometry, commands, steps). No condition. -/
import Derived.Test.YtahlghlpdcfbgaaPl
namespace Go.Proofs.Ytahlghlpdcfbgaa.Ev
open Go
set_option linter.unusedVariables false
set_option linter.unusedSimpArgs false
set_option maxHeartbeats 1000000

def within (n lo hi : Int) : Bool := decide (lo ≤ n) && decide (n ≤ hi)
theorem within_t {n lo hi : Int} (h : within n lo hi = true) : lo ≤ n ∧ n ≤ hi := by
  unfold within at h; simpa using h
theorem within_f {n lo hi : Int} (h : within n lo hi = false) : n < lo ∨ hi < n := by
  unfold within at h; simp at h; omega
theorem within_i (n lo hi : Int) : Rn 1 N.impl_within [.v [.i n], .v [.i lo], .v [.i hi]] ⟨[.b (within n lo hi)], []⟩ := by
  refine Rn.of fun k hk => ?_
  rw [impl_within_e]; unfold impl_within_u within
  by_cases h : lo ≤ n <;> simp [h]
theorem within_s (n lo hi : Int) : Rn 1 N.spec_l1In [.v [.i n], .v [.i lo], .v [.i hi]] ⟨[.b (within n lo hi)], []⟩ := by
  refine Rn.of fun k hk => ?_
  rw [spec_l1In_e]; unfold spec_l1In_u within
  by_cases h : lo ≤ n <;> simp [h]

/-! ### Words, sectors -/
def isWord (n : Int) : Bool := within n 0 65535
def wordsOk (l : List Int) : Bool := l.all isWord
def secOk (l : List Int) : Bool := decide (l.length ≤ 12) && wordsOk l
theorem isWord_i (n : Int) : Rn 2 N.impl_isWord [.v [.i n]] ⟨[.b (isWord n)], []⟩ := by
  refine Rn.of fun k hk => ?_
  rw [impl_isWord_e]; unfold impl_isWord_u
  rw [within_i _ _ _ k (by omega)]; rfl
theorem isWord_s (n : Int) : Rn 2 N.spec_l1Word [.v [.i n]] ⟨[.b (isWord n)], []⟩ := by
  refine Rn.of fun k hk => ?_
  rw [spec_l1Word_e]; unfold spec_l1Word_u
  rw [within_s _ _ _ k (by omega)]; rfl
/-- All elements of a list. -/
theorem all_loop {α : Type} (p : α → Bool) (l : List α) {b : (Int → Option Outs) → Int → Option Outs} (last : Option Outs) (hl : l.length ≤ 1099511627776)
    (h : ∀ (i : Nat) (hi : i < l.length) G, b G (i : Int) = (bif p l[i] then G (IntKind.wrap .i64 ((i : Int) + 1)) else some ⟨[.b false], []⟩))
    (he : ∀ G, b G (l.length : Int) = last) {j : Nat} (hj : l.length < j) : fixN b j 0 = (bif l.all p then last else some ⟨[.b false], []⟩) := by
  refine (fixN_up (b := b) l.length (fun i => (i : Int)) (fun i => bif (l.drop i).all p then last else some ⟨[.b false], []⟩) ?_ ?_ hj).trans (by simp)
  · intro i hi G hG
    rw [h i hi, wrap_up (by omega), hG, List.drop_eq_getElem_cons hi, List.all_cons]
    cases p l[i] <;> rfl
  · intro G; rw [he]; simp
theorem bifB (c x : Bool) : (bif c then some (⟨[.b x], []⟩ : Outs) else some ⟨[.b false], []⟩) = some ⟨[.b (c && x)], []⟩ := by cases c <;> rfl
theorem bifNB (c x : Bool) : (bif !c then some (⟨[.b false], []⟩ : Outs) else some ⟨[.b x], []⟩) = some ⟨[.b (c && x)], []⟩ := by cases c <;> rfl
theorem bifN {α : Type} (c : Bool) (x y : α) : (bif !c then x else y) = bif c then y else x := by cases c <;> rfl
theorem wordsOk_i (l : List Int) (h : l.length ≤ Big) : Rn 3 N.impl_wordsOk [.v [.r (eIs l)]] ⟨[.b (wordsOk l)], []⟩ := by
  refine Rn.of fun k hk => ?_
  unfold Big at h hk
  rw [impl_wordsOk_e]; unfold impl_wordsOk_u impl_wordsOk_U
  refine (all_loop isWord l (some ⟨[.b true], []⟩) (by omega) (fun i hi G => ?_) (fun G => ?_) (by omega)).trans ((bifB _ _).trans (by rw [Bool.and_true]; rfl))
  · unfold impl_wordsOk_l1 impl_wordsOk_L1
    simp only [List.length_map, at_map _ hi, dlt hi, d0, Bool.and_self, chk_true, cond_true, Int.toNat_natCast, List.getD_cons_zero, T.asI_i]
    rw [isWord_i _ k (by unfold Big; omega)]; exact bifN _ _ _
  · unfold impl_wordsOk_l1 impl_wordsOk_L1
    simp only [List.length_map, dll, cond_false]
theorem wordsOk_s (l : List Int) (h : l.length ≤ Big) : Rn 3 N.spec_l1Words [.v [.r (eIs l)]] ⟨[.b (wordsOk l)], []⟩ := by
  refine Rn.of fun k hk => ?_
  unfold Big at h hk
  rw [spec_l1Words_e]; unfold spec_l1Words_u spec_l1Words_U
  refine (all_loop isWord l (some ⟨[.b true], []⟩) (by omega) (fun i hi G => ?_) (fun G => ?_) (by omega)).trans ((bifB _ _).trans (by rw [Bool.and_true]; rfl))
  · unfold spec_l1Words_l1 spec_l1Words_L1
    simp only [List.length_map, at_map _ hi, dlt hi, d0, Bool.and_self, chk_true, cond_true, Int.toNat_natCast, List.getD_cons_zero, T.asI_i]
    rw [isWord_s _ k (by unfold Big; omega)]; exact bifN _ _ _
  · unfold spec_l1Words_l1 spec_l1Words_L1
    simp only [List.length_map, dll, cond_false]

/-! ### Geometry -/
def geoOk (g : Geo) : Bool := within g.N 3 5 && within g.S 1 8
def blocks (g : Geo) : Int := bif geoOk g then g.S * (g.N - 1) else 0
theorem geoOk_t {g : Geo} (h : geoOk g = true) : 3 ≤ g.N ∧ g.N ≤ 5 ∧ 1 ≤ g.S ∧ g.S ≤ 8 := by
  unfold geoOk at h
  rw [Bool.and_eq_true] at h
  exact ⟨(within_t h.1).1, (within_t h.1).2, (within_t h.2).1, (within_t h.2).2⟩
theorem geoOk_i (g : Geo) : Rn 2 N.impl_GeoOk [.v g.e] ⟨[.b (geoOk g)], []⟩ := by
  refine Rn.of fun k hk => ?_
  rw [impl_GeoOk_e]; unfold impl_GeoOk_u
  rw [within_i _ _ _ k (by omega), within_i _ _ _ k (by omega)]
  exact bifB _ _
theorem geoOk_s (g : Geo) : Rn 2 N.spec_GeoOk [.v g.e] ⟨[.b (geoOk g)], []⟩ := by
  refine Rn.of fun k hk => ?_
  rw [spec_GeoOk_e]; unfold spec_GeoOk_u
  rw [within_s _ _ _ k (by omega), within_s _ _ _ k (by omega)]
  exact bifB _ _
theorem mul_b {a b m n : Int} (h0 : 0 ≤ a) (h1 : a ≤ m) (h2 : 0 ≤ b) (h3 : b ≤ n) : 0 ≤ a * b ∧ a * b ≤ m * n :=
  ⟨Int.mul_nonneg h0 h2, Int.mul_le_mul h1 h3 h2 (by omega)⟩
theorem blocks_b (g : Geo) : 0 ≤ blocks g ∧ blocks g ≤ 32 := by
  unfold blocks
  cases h : geoOk g with
  | false => simp
  | true =>
    obtain ⟨a, b, c, d⟩ := geoOk_t h
    have := mul_b (a := g.S) (b := g.N - 1) (m := 8) (n := 4) (by omega) d (by omega) (by omega)
    simp; omega
theorem blocks_w {g : Geo} (h : geoOk g = true) : IntKind.wrap .i64 (g.S * IntKind.wrap .i64 (g.N - 1)) = g.S * (g.N - 1) := by
  obtain ⟨a, b, c, d⟩ := geoOk_t h
  have := mul_b (a := g.S) (b := g.N - 1) (m := 8) (n := 4) (by omega) d (by omega) (by omega)
  rw [wrap_id (n := g.N - 1) (by omega) (by omega), wrap_id (by omega) (by omega)]
theorem blocks_i (g : Geo) : Rn 3 N.impl_Blocks [.v g.e] ⟨[.i (blocks g)], []⟩ := by
  refine Rn.of fun k hk => ?_
  rw [impl_Blocks_e]; unfold impl_Blocks_u
  rw [geoOk_i _ k (by omega), bindO_some]
  unfold blocks
  cases h : geoOk g with
  | false => simp
  | true => simp [blocks_w h]
theorem blocks_s (g : Geo) : Rn 3 N.spec_Blocks [.v g.e] ⟨[.i (blocks g)], []⟩ := by
  refine Rn.of fun k hk => ?_
  rw [spec_Blocks_e]; unfold spec_Blocks_u
  rw [geoOk_s _ k (by omega), bindO_some]
  unfold blocks
  cases h : geoOk g with
  | false => simp
  | true => simp [blocks_w h]
def hasBlock (g : Geo) (b : Int) : Bool := within b 0 (blocks g - 1)
theorem hasBlock_i (g : Geo) (b : Int) : Rn 4 N.impl_hasBlock [.v g.e, .v [.i b]] ⟨[.b (hasBlock g b)], []⟩ := by
  refine Rn.of fun k hk => ?_
  rw [impl_hasBlock_e]; unfold impl_hasBlock_u
  have := blocks_b g
  rw [blocks_i _ k (by omega), bindO_some]
  simp only [Outs.t_mk, List.getD_cons_zero, T.asI_i]
  rw [wrap_id (by omega) (by omega), within_i _ _ _ k (by omega)]; rfl
theorem hasBlock_t {g : Geo} {b : Int} (h : hasBlock g b = true) : geoOk g = true ∧ 0 ≤ b ∧ b < g.S * (g.N - 1) := by
  obtain ⟨h0, h1⟩ := within_t h
  unfold blocks at h1
  cases hg : geoOk g with
  | false => rw [hg] at h1; simp at h1; omega
  | true => rw [hg] at h1; simp at h1; exact ⟨rfl, h0, by omega⟩
def stripeOf (g : Geo) (b : Int) : Int := bif hasBlock g b then b / (g.N - 1) else -1
theorem stripe_w {g : Geo} {b : Int} (h : hasBlock g b = true) : IntKind.wrap .i64 (Int.tdiv b (IntKind.wrap .i64 (g.N - 1))) = b / (g.N - 1) ∧ IntKind.wrap .i64 (g.N - 1) ≠ 0 := by
  obtain ⟨hg, h0, h1⟩ := hasBlock_t h
  obtain ⟨a, b', c, d⟩ := geoOk_t hg
  rw [wrap_id (n := g.N - 1) (by omega) (by omega), Int.tdiv_eq_ediv_of_nonneg h0]
  have := Int.ediv_le_self (b := g.N - 1) h0
  have := Int.ediv_nonneg h0 (b := g.N - 1) (by omega)
  have := mul_b (a := g.S) (b := g.N - 1) (m := 8) (n := 4) (by omega) d (by omega) (by omega)
  exact ⟨wrap_id (by omega) (by omega), by omega⟩
theorem stripeOf_b (g : Geo) (b : Int) : -1 ≤ stripeOf g b ∧ stripeOf g b ≤ 32 := by
  unfold stripeOf
  cases h : hasBlock g b with
  | false => simp
  | true =>
    obtain ⟨hg, h0, h1⟩ := hasBlock_t h
    obtain ⟨a, b', c, d⟩ := geoOk_t hg
    have := Int.ediv_le_self (b := g.N - 1) h0
    have := Int.ediv_nonneg h0 (b := g.N - 1) (by omega)
    have := mul_b (a := g.S) (b := g.N - 1) (m := 8) (n := 4) (by omega) d (by omega) (by omega)
    simp; omega
theorem stripeOf_i (g : Geo) (b : Int) : Rn 5 N.impl_StripeOf [.v g.e, .v [.i b]] ⟨[.i (stripeOf g b)], []⟩ := by
  refine Rn.of fun k hk => ?_
  rw [impl_StripeOf_e]; unfold impl_StripeOf_u
  rw [hasBlock_i _ _ k (by omega), bindO_some]
  unfold stripeOf
  cases h : hasBlock g b with
  | false => simp
  | true => obtain ⟨e, hn⟩ := stripe_w h; simp [e, hn, chk_true]
/-! ### Commands -/
def runOf (c : Cmd) : Int := bif c.Op == 1 || c.Op == 6 then c.N else bif c.Op == 2 || c.Op == 3 then (c.Vals.length : Int) else bif c.Op == 5 then 1 else 0
theorem runOf_i (c : Cmd) : Rn 1 N.impl_runOf [.v c.e] ⟨[.i (runOf c)], []⟩ := by
  refine Rn.of fun k hk => ?_
  rw [impl_runOf_e]; unfold impl_runOf_u runOf
  rw [List.length_map]
  cases c.Op == 1 <;> cases c.Op == 6 <;> cases c.Op == 2 <;> cases c.Op == 3 <;> cases c.Op == 5 <;> rfl
theorem runOf_s (c : Cmd) : Rn 1 N.spec_l13Len [.v c.e] ⟨[.i (runOf c)], []⟩ := by
  refine Rn.of fun k hk => ?_
  rw [spec_l13Len_e]; unfold spec_l13Len_u runOf
  rw [List.length_map]
  cases c.Op == 1 <;> cases c.Op == 6 <;> cases c.Op == 2 <;> cases c.Op == 3 <;> cases c.Op == 5 <;> rfl
def sizeOk (c : Cmd) : Bool := bif c.Op == 1 || c.Op == 6 then within c.N 1 6 else bif c.Op == 2 || c.Op == 3 then within (c.Vals.length : Int) 1 6 && wordsOk c.Vals else bif c.Op == 5 then ((c.Vals.length : Int) == 2) && wordsOk c.Vals else true
theorem sizeOk_i (c : Cmd) (h : c.w ≤ Big) : Rn 4 N.impl_sizeOk [.v c.e] ⟨[.b (sizeOk c)], []⟩ := by
  refine Rn.of fun k hk => ?_
  rw [impl_sizeOk_e]; unfold impl_sizeOk_u impl_sizeOk_J1 sizeOk
  simp only [List.length_map]
  rw [within_i _ _ _ k (by omega), within_i _ _ _ k (by omega), wordsOk_i _ h k (by omega)]
  simp only [bindO_some, Outs.t_mk, List.getD_cons_zero, T.asB_b]
  cases c.Op == 1 <;> cases c.Op == 6 <;> cases c.Op == 2 <;> cases c.Op == 3 <;> cases c.Op == 5 <;> first | rfl | exact bifB _ _
theorem sizeOk_s (c : Cmd) (h : c.w ≤ Big) : Rn 4 N.spec_l13Size [.v c.e] ⟨[.b (sizeOk c)], []⟩ := by
  refine Rn.of fun k hk => ?_
  rw [spec_l13Size_e]; unfold spec_l13Size_u spec_l13Size_J1 sizeOk
  simp only [List.length_map]
  rw [within_s _ _ _ k (by omega), within_s _ _ _ k (by omega), wordsOk_s _ h k (by omega)]
  simp only [bindO_some, Outs.t_mk, List.getD_cons_zero, T.asB_b]
  cases c.Op == 1 <;> cases c.Op == 6 <;> cases c.Op == 2 <;> cases c.Op == 3 <;> cases c.Op == 5 <;> first | rfl | exact bifB _ _
theorem runOf_b {c : Cmd} (h : sizeOk c = true) (hw : c.w ≤ Big) : 0 ≤ runOf c ∧ runOf c ≤ 6 := by
  unfold sizeOk at h; unfold runOf
  cases h1 : c.Op == 1 <;> cases h6 : c.Op == 6 <;> cases h2 : c.Op == 2 <;> cases h3 : c.Op == 3 <;> cases h5 : c.Op == 5 <;> rw [h1, h6, h2, h3, h5] at h <;> simp [within] at h ⊢ <;> omega
def cmdCode (g : Geo) (c : Cmd) : Int :=
  bif geoOk g && within c.Op 1 6 && within c.Id 1 999 then
    bif sizeOk c then bif c.Op == 4 || within c.Lba 0 (blocks g - runOf c) then 0 else 2
    else 3
  else 1
theorem cmdCode_w {g : Geo} {c : Cmd} (h : sizeOk c = true) (hw : c.w ≤ Big) : IntKind.wrap .i64 (blocks g - runOf c) = blocks g - runOf c := by
  have := blocks_b g
  have := runOf_b h hw
  exact wrap_id (by omega) (by omega)
theorem cmdCode_i (g : Geo) (c : Cmd) (h : c.w ≤ Big) : Rn 5 N.impl_CmdCode [.v g.e, .v c.e] ⟨[.i (cmdCode g c)], []⟩ := by
  refine Rn.of fun k hk => ?_
  rw [impl_CmdCode_e]; unfold impl_CmdCode_u impl_CmdCode_J1 cmdCode
  rw [geoOk_i _ k (by omega), within_i _ _ _ k (by omega), within_i _ _ _ k (by omega), sizeOk_i _ h k (by omega), blocks_i _ k (by omega), runOf_i _ k (by omega)]
  simp only [bindO_some, Outs.t_mk, List.getD_cons_zero, T.asB_b, T.asI_i]
  cases geoOk g <;> cases within c.Op 1 6 <;> cases within c.Id 1 999 <;> try rfl
  cases hs : sizeOk c
  · rfl
  rw [cmdCode_w hs h, within_i _ _ _ k (by omega)]
  cases h4 : c.Op == 4 <;> simp [bne, h4, bindO_some]
  cases within c.Lba 0 (blocks g - runOf c) <;> rfl
theorem cmdCode_s (g : Geo) (c : Cmd) (h : c.w ≤ Big) : Rn 5 N.spec_CmdCode [.v g.e, .v c.e] ⟨[.i (cmdCode g c)], []⟩ := by
  refine Rn.of fun k hk => ?_
  rw [spec_CmdCode_e]; unfold spec_CmdCode_u spec_CmdCode_J1 cmdCode
  rw [geoOk_s _ k (by omega), within_s _ _ _ k (by omega), within_s _ _ _ k (by omega), sizeOk_s _ h k (by omega), blocks_s _ k (by omega), runOf_s _ k (by omega)]
  simp only [bindO_some, Outs.t_mk, List.getD_cons_zero, T.asB_b, T.asI_i]
  cases geoOk g <;> cases within c.Op 1 6 <;> cases within c.Id 1 999 <;> try rfl
  cases hs : sizeOk c
  · rfl
  rw [cmdCode_w hs h, within_s _ _ _ k (by omega)]
  cases h4 : c.Op == 4 <;> simp [bindO_some]
  cases within c.Lba 0 (blocks g - runOf c) <;> rfl
theorem cmdCode_good {g : Geo} {c : Cmd} (h : cmdCode g c = 0) : geoOk g = true ∧ sizeOk c = true ∧ (c.Op = 4 ∨ 0 ≤ c.Lba ∧ c.Lba ≤ blocks g - runOf c) := by
  unfold cmdCode at h
  cases hg : geoOk g <;> cases h1 : within c.Op 1 6 <;> cases h2 : within c.Id 1 999 <;> cases hs : sizeOk c <;> rw [hg, h1, h2, hs] at h <;> simp at h
  refine ⟨rfl, rfl, ?_⟩
  cases h4 : c.Op == 4
  · rw [h4] at h
    cases hl : within c.Lba 0 (blocks g - runOf c) <;> rw [hl] at h <;> simp at h
    exact .inr (within_t hl)
  · exact .inl (by simpa using h4)
end Go.Proofs.Ytahlghlpdcfbgaa.Ev
