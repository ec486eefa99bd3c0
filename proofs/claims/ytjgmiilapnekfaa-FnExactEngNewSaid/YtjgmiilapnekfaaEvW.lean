/- A region that draws its order answers as the text's order does. No condition but that the program may draw any order. -/
import Derived.Test.YtjgmiilapnekfaaEvV
namespace Go.Proofs.Ytjgmiilapnekfaa.Ev
open Go
set_option linter.unusedVariables false
section
variable {P : Program} {E : Env} {F : Call}

theorem count_lt {p p' : Nat → Bool} {i : Nat} (hp : p i = true) (hp' : p' i = false) (h : ∀ j, p' j = true → p j = true) : ∀ {l : List Nat}, i ∈ l → l.countP p' < l.countP p
  | x :: xs, hi => by
    have hle : ∀ l : List Nat, l.countP p' ≤ l.countP p := fun l => List.countP_mono_left (fun x _ => h x)
    rw [List.countP_cons, List.countP_cons]
    rcases List.mem_cons.1 hi with rfl | hi
    · rw [hp, hp']; have := hle xs; simp; omega
    · have ih := count_lt hp hp' h hi
      cases hx : p' x with
      | true => rw [h x hx]; simp; omega
      | false => cases p x <;> simp <;> omega
theorem meets_false {a b : List Nm} (h : meets a b = false) {n : Nm} (ha : n ∈ a) (hb : n ∈ b) : False := by
  have : meets a b = true := List.any_eq_true.2 ⟨n, ha, List.any_eq_true.2 ⟨n, hb, nmBeq_self n⟩⟩
  rw [this] at h; cases h
theorem memB_false {x : Nat} {l : List Nat} (h : memB x l = false) (hx : x ∈ l) : False := by
  have : memB x l = true := List.any_eq_true.2 ⟨x, hx, Nat.beq_refl x⟩
  rw [this] at h; cases h
theorem edges_of : ∀ {os : List Oper} {j0 : Nat}, edgesOk os j0 = true → ∀ i o, os[i]? = some o → ∀ e, e ∈ o.after.toList → Region.binds .any e = true → e.on < j0 + i
  | o :: os, j0, h, 0, o', hi, e, he, hb => by
    simp at hi; subst hi
    have := List.all_eq_true.1 (and_some h).1 e he
    rw [hb] at this
    simpa using this
  | o :: os, j0, h, i + 1, o', hi, e, he, hb => by
    have := edges_of (and_some h).2 i o' (by simpa using hi) e he hb
    omega
  | [], _, _, i, o', hi, _, _, _ => by simp at hi
theorem draw_ok (hT : tabOk P E = true) (hTF : TabF P E) (hF : FnOk P E F) (hm : P.follows .mixedOrders = true) : DrawOk P E F := by
  intro β N d0 id ops σ σ' ps a w Q hdst hr hev hdr hQ
  obtain ⟨hedge, hpairs⟩ := and_some hdr
  obtain ⟨sts, fps, h0, hn, hrun, hps⟩ := evalOps_run hev
  have hlen : ops.toList.length = ops.size := by simp
  rw [hlen] at hn hps
  have hget : ∀ {i o}, ops[i]? = some o → ops.toList[i]? = some o := fun h => by rw [Array.getElem?_toList]; exact h
  have hlt : ∀ {i o}, ops[i]? = some o → i < ops.size := fun h => (Array.getElem?_eq_some_iff.1 h).1
  have hex : ∀ {i}, i < ops.size → ∃ o, ops[i]? = some o := fun h => ⟨_, Array.getElem?_eq_getElem h⟩
  generalize hbs : befores ops.toList [] = bs at hpairs
  have hpair : ∀ {i j oi oj}, i < j → ops[i]? = some oi → ops[j]? = some oj → Nat.testBit (bs.getD j 0) i = true ∨ (apartSlots ops.toList oi oj = true ∧ apartFP (fps i) (fps j) = true) := by
    intro i j oi oj hij hi hj
    have h1 := List.all_eq_true.1 hpairs j (List.mem_range.2 (by rw [hlen]; exact hlt hj))
    have h2 := List.all_eq_true.1 h1 i (List.mem_range.2 hij)
    rw [hget hi, hget hj, hps] at h2
    have hfi : (([] : List FP).reverse ++ (List.range ops.size).map fps).getD i ⟨[], []⟩ = fps i := by
      simp [List.getD_eq_getElem?_getD, List.getElem?_range (hlt hi)]
    have hfj : (([] : List FP).reverse ++ (List.range ops.size).map fps).getD j ⟨[], []⟩ = fps j := by
      simp [List.getD_eq_getElem?_getD, List.getElem?_range (hlt hj)]
    simp only [hfi, hfj, Bool.or_eq_true, Bool.and_eq_true] at h2
    exact h2
  have hloc := fun {i o} (h : ops[i]? = some o) => exec1_near (hrun i o (hget h))
  -- nobody writes in between
  have hbetween : ∀ (n : Nm) (i j : Nat), i ≤ j → j ≤ ops.size → (∀ k, i ≤ k → k < j → n ∉ (fps k).wr) → (sts i).mem n = (sts j).mem n := by
    intro n i j hij
    induction j with
    | zero => intro _ _; have : i = 0 := by omega
              subst this; rfl
    | succ j ih =>
      intro hj hk
      by_cases he : i = j + 1
      · subst he; rfl
      · obtain ⟨o, ho⟩ := hex (show j < ops.size by omega)
        rw [ih (by omega) (by omega) (fun k h1 h2 => hk k h1 (by omega)), (hloc ho).2.1 n (hk j (by omega) (by omega))]
  have hbetweenS : ∀ (s : Nat) (i j : Nat), i ≤ j → j ≤ ops.size → (∀ k o, i ≤ k → k < j → ops[k]? = some o → o.dst ≠ some s) → (sts i).sl s = (sts j).sl s := by
    intro s i j hij
    induction j with
    | zero => intro _ _; have : i = 0 := by omega
              subst this; rfl
    | succ j ih =>
      intro hj hk
      by_cases he : i = j + 1
      · subst he; rfl
      · obtain ⟨o, ho⟩ := hex (show j < ops.size by omega)
        rw [ih (by omega) (by omega) (fun k o h1 h2 => hk k o h1 (by omega)), (hloc ho).1 s (hk j o (by omega) (by omega) ho)]
  have main : ∀ (fuel : Nat) (listed : Array Bool) (a : Act) (w : World) (τ : St), listed.size = ops.size → (List.range ops.size).countP (fun i => !listed.getD i true) ≤ fuel →
      (∀ k o, ops[k]? = some o → listed.getD k false = true → ∀ e, e ∈ o.after.toList → Region.binds .any e = true → listed.getD e.on false = true) →
      (∀ n j, j ≤ ops.size → (∀ k, k < j → n ∈ (fps k).wr → listed.getD k false = true) → (∀ k, j ≤ k → k < ops.size → n ∈ (fps k).wr → ¬ listed.getD k false = true) → τ.mem n = (sts j).mem n) →
      (∀ s j, j ≤ ops.size → (∀ k o, k < j → ops[k]? = some o → o.dst = some s → listed.getD k false = true) → (∀ k o, j ≤ k → ops[k]? = some o → o.dst = some s → ¬ listed.getD k false = true) → τ.sl s = (sts j).sl s) →
      Rel E β N d0 τ a w → wpAny P .any ops Q fuel listed a w := by
    intro fuel
    have hdone : ∀ (listed : Array Bool) (a : Act) (w : World) (τ : St), (∀ k, k < ops.size → listed.getD k false = true) →
        (∀ n j, j ≤ ops.size → (∀ k, k < j → n ∈ (fps k).wr → listed.getD k false = true) → (∀ k, j ≤ k → k < ops.size → n ∈ (fps k).wr → ¬ listed.getD k false = true) → τ.mem n = (sts j).mem n) →
        (∀ s j, j ≤ ops.size → (∀ k o, k < j → ops[k]? = some o → o.dst = some s → listed.getD k false = true) → (∀ k o, j ≤ k → ops[k]? = some o → o.dst = some s → ¬ listed.getD k false = true) → τ.sl s = (sts j).sl s) →
        Rel E β N d0 τ a w → Q .normal a w := by
      intro listed a w τ hall hM hS hr
      have he : τ = σ' := by
        rw [← hn]
        have h1 : τ.sl = (sts ops.size).sl := funext fun s => hS s ops.size (Nat.le_refl _) (fun k o hk _ _ => hall k hk) (fun k o hk ho _ => by have := hlt ho; omega)
        have h2 : τ.mem = (sts ops.size).mem := funext fun n => hM n ops.size (Nat.le_refl _) (fun k hk _ => hall k hk) (fun k hk hk' _ => by omega)
        cases τ; cases hsn : sts ops.size; simp_all
      rw [he] at hr
      exact hQ a w hr
    have hsame : ∀ {listed : Array Bool} {k : Nat}, listed.size = ops.size → k < ops.size → (listed.getD k true = false ↔ ¬ listed.getD k false = true) := by
      intro listed k hs hk
      have : k < listed.size := by omega
      simp [Array.getD_eq_getD_getElem?, Array.getElem?_eq_getElem this]
    have hallOf : ∀ (listed : Array Bool), listed.size = ops.size → Region.ready .any ops listed = [] → ∀ k, k < ops.size → listed.getD k false = true := by
      intro listed hs hre k
      induction k using Nat.strongRecOn with
      | _ k ih =>
        intro hk
        by_cases hD : listed.getD k false = true
        · exact hD
        · exfalso
          obtain ⟨o, ho⟩ := hex hk
          have : k ∈ Region.ready .any ops listed := mem_ready.2 ⟨(hsame hs hk).2 hD, o, ho, fun e he hb => by
            have h1 := edges_of hedge k o (hget ho) e (by simpa using he) hb
            exact ih e.on (by omega) (by omega)⟩
          rw [hre] at this; cases this
    induction fuel with
    | zero =>
      intro listed a w τ hs hc hcl hM hS hr
      have hall : ∀ k, k < ops.size → listed.getD k false = true := by
        intro k hk
        by_cases hD : listed.getD k false = true
        · exact hD
        · exfalso
          have : 0 < (List.range ops.size).countP (fun i => !listed.getD i true) := List.countP_pos_iff.2 ⟨k, List.mem_range.2 hk, by simp [(hsame hs hk).2 hD]⟩
          omega
      refine ⟨?_, hdone listed a w τ hall hM hS hr⟩
      cases hre : Region.ready .any ops listed with
      | nil => rfl
      | cons k ks =>
        exfalso
        have hk : k ∈ Region.ready .any ops listed := by rw [hre]; exact List.mem_cons_self
        obtain ⟨h1, o, ho, _⟩ := mem_ready.1 hk
        exact (hsame hs (hlt ho)).1 h1 (hall k (hlt ho))
    | succ fuel ih =>
      intro listed a w τ hs hc hcl hM hS hr
      refine ⟨fun hre => hdone listed a w τ (hallOf listed hs hre) hM hS hr, fun i hi => ?_⟩
      obtain ⟨hun, oi, hoi, hed⟩ := mem_ready.1 hi
      have hiN := hlt hoi
      have hnD := (hsame hs hiN).1 hun
      -- what lies ahead of what is done is done
      have hbef : ∀ k j, k < ops.size → listed.getD k false = true → Nat.testBit (bs.getD k 0) j = true → listed.getD j false = true := by
        intro k j hk hDk hb
        rw [← hbs] at hb
        exact befores_ok (D := fun k => listed.getD k false = true) (os := ops.toList) (acc := []) (j0 := 0) rfl (fun k o ho hD e he hbd => hcl k o (by simpa using ho) (by simpa using hD) e he hbd) (fun k i hk => by simp at hk) k j (by simpa using hk) hDk hb
      have hbefi : ∀ j, j ≠ i → Nat.testBit (bs.getD i 0) j = true → listed.getD j false = true := by
        intro j hji hb
        rw [← hbs] at hb
        have := befores_ok (D := fun k => listed.getD k false = true ∨ k = i) (os := ops.toList) (acc := []) (j0 := 0) rfl (fun k o ho hD e he hbd => by
          rcases hD with hD | hD
          · exact .inl (hcl k o (by simpa using ho) (by simpa using hD) e he hbd)
          · have hki : k = i := by omega
            subst hki
            have ho' : ops[k]? = some o := by simpa using ho
            rw [hoi] at ho'; cases ho'
            exact .inl (hed e (by simpa using he) hbd)) (fun k i hk => by simp at hk) i j (by simpa using hiN) (.inr rfl) hb
        exact this.resolve_right hji
      have hne : ∀ {k}, k ≠ i → (listed.setIfInBounds i true).getD k false = listed.getD k false := fun h => getD_set_ne false (Ne.symm h)
      have hset : (listed.setIfInBounds i true).getD i false = true := by simp [show i < listed.size by omega]
      -- what it looks at is as in the text's order
      have hmem : ∀ n, (n ∈ (fps i).rd ∨ n ∈ (fps i).wr) → τ.mem n = (sts i).mem n := fun n hn' => by
        refine hM n i (by omega) (fun k hk hw => ?_) (fun k hk hkN hw hDk => ?_)
        · obtain ⟨ok, hok⟩ := hex (show k < ops.size by omega)
          rcases hpair hk hok hoi with h5 | ⟨_, h5⟩
          · exact hbefi k (by omega) h5
          · simp only [apartFP, Bool.and_eq_true, Bool.not_eq_true'] at h5
            rcases hn' with h6 | h6
            · exact (meets_false h5.1.1 hw h6).elim
            · exact (meets_false h5.1.2 hw h6).elim
        · by_cases hki : k = i
          · subst hki; exact hnD hDk
          · obtain ⟨ok, hok⟩ := hex hkN
            rcases hpair (show i < k by omega) hoi hok with h5 | ⟨_, h5⟩
            · exact hnD (hbef k i hkN hDk h5)
            · simp only [apartFP, Bool.and_eq_true, Bool.not_eq_true'] at h5
              rcases hn' with h6 | h6
              · exact meets_false h5.2 hw h6
              · exact meets_false h5.1.2 h6 hw
      have hsl : ∀ s, s ∈ looks ops.toList oi → τ.sl s = (sts i).sl s := fun s hs' => by
        refine hS s i (by omega) (fun k ok hk hok hw => ?_) (fun k ok hk hok hw hDk => ?_)
        · rcases hpair hk hok hoi with h5 | ⟨h5, _⟩
          · exact hbefi k (by omega) h5
          · simp only [apartSlots, hw, Bool.and_eq_true, Bool.not_eq_true'] at h5
            exact (memB_false h5.1.1 hs').elim
        · by_cases hki : k = i
          · subst hki; exact hnD hDk
          · rcases hpair (show i < k by omega) hoi hok with h5 | ⟨h5, _⟩
            · exact hnD (hbef k i (hlt hok) hDk h5)
            · simp only [apartSlots, hw, Bool.and_eq_true, Bool.not_eq_true'] at h5
              exact memB_false h5.2 hs'
      obtain ⟨τ', hτ', g1, g2, g3, g4⟩ := (hloc hoi).2.2 τ hsl (fun n hn' => hmem n (.inl hn'))
      refine exec1_ok hT hTF hF hoi hr (hdst oi (List.mem_of_getElem? (hget hoi))) hτ' fun a' w' hr' => ?_
      refine ih (listed.setIfInBounds i true) a' w' τ' (by simpa using hs) ?_ ?_ ?_ ?_ hr'
      · have hlt' := count_lt (p := fun k => !listed.getD k true) (p' := fun k => !(listed.setIfInBounds i true).getD k true) (i := i) (by simp [hun]) (by simp [show i < listed.size by omega]) (fun j hj => by
          by_cases hji : j = i
          · subst hji; simp [hun]
          · simpa [getD_set_ne true (Ne.symm hji)] using hj) (List.mem_range.2 hiN)
        omega
      · intro k o hk hD e he hb
        by_cases hki : k = i
        · subst hki
          rw [hoi] at hk; cases hk
          exact getD_set_true (hed e (by simpa using he) hb)
        · rw [hne hki] at hD
          exact getD_set_true (hcl k o hk hD e he hb)
      · intro n j hj h1 h2
        by_cases hw : n ∈ (fps i).wr
        · have hij : i < j := by
            rcases Nat.lt_or_ge i j with h5 | h5
            · exact h5
            · exact absurd hset (h2 i h5 hiN hw)
          rw [g3 n hw]
          refine hbetween n (i + 1) j hij hj (fun k hk1 hk2 hkw => ?_)
          obtain ⟨ok, hok⟩ := hex (show k < ops.size by omega)
          have hDk := h1 k hk2 hkw
          rw [hne (by omega)] at hDk
          rcases hpair (show i < k by omega) hoi hok with h5 | ⟨_, h5⟩
          · exact hnD (hbef k i (hlt hok) hDk h5)
          · simp only [apartFP, Bool.and_eq_true, Bool.not_eq_true'] at h5
            exact meets_false h5.1.2 hw hkw
        · rw [g4 n hw]
          refine hM n j hj (fun k hk hkw => ?_) (fun k hk hkN hkw => ?_)
          · have hki : k ≠ i := fun e => hw (e ▸ hkw)
            have := h1 k hk hkw; rwa [hne hki] at this
          · have hki : k ≠ i := fun e => hw (e ▸ hkw)
            have := h2 k hk hkN hkw; rwa [hne hki] at this
      · intro s j hj h1 h2
        by_cases hw : oi.dst = some s
        · have hij : i < j := by
            rcases Nat.lt_or_ge i j with h5 | h5
            · exact h5
            · exact absurd hset (h2 i oi h5 hoi hw)
          rw [g1 s hw]
          refine hbetweenS s (i + 1) j hij hj (fun k ok hk1 hk2 hok hkw => ?_)
          have hDk := h1 k ok hk2 hok hkw
          rw [hne (by omega)] at hDk
          rcases hpair (show i < k by omega) hoi hok with h5 | ⟨h5, _⟩
          · exact hnD (hbef k i (hlt hok) hDk h5)
          · simp only [apartSlots, hw, hkw, Bool.and_eq_true, Bool.not_eq_true'] at h5
            simp at h5
        · rw [g2 s hw]
          refine hS s j hj (fun k ok hk hok hkw => ?_) (fun k ok hk hok hkw => ?_)
          · have hki : k ≠ i := fun e => by subst e; rw [hoi] at hok; cases hok; exact hw hkw
            have := h1 k ok hk hok hkw; rwa [hne hki] at this
          · have hki : k ≠ i := fun e => by subst e; rw [hoi] at hok; cases hok; exact hw hkw
            have := h2 k ok hk hok hkw; rwa [hne hki] at this
  have hfin := main ops.size (Array.replicate ops.size false) a { w with drawn := w.drawn + 1 } σ (by simp) (by
      have := List.countP_le_length (p := fun i => !(Array.replicate ops.size false).getD i true) (l := List.range ops.size)
      simpa using this) (fun k o _ hD => by simp [Array.getD_eq_getD_getElem?, Array.getElem?_replicate] at hD; split at hD <;> simp at hD)
    (fun n j hj h1 h2 => by
      rw [← h0]; exact hbetween n 0 j (Nat.zero_le _) hj (fun k _ hk hw => by
        have := h1 k hk hw
        simp [Array.getD_eq_getD_getElem?, Array.getElem?_replicate] at this; split at this <;> simp at this))
    (fun s j hj h1 h2 => by
      rw [← h0]; exact hbetweenS s 0 j (Nat.zero_le _) hj (fun k o _ hk ho hw => by
        have := h1 k o hk ho hw
        simp [Array.getD_eq_getD_getElem?, Array.getElem?_replicate] at this; split at this <;> simp at this))
    (drew_rel hr)
  exact wp_region_any hm hfin
end
end Go.Proofs.Ytjgmiilapnekfaa.Ev
