/- Drawn geometries and commands; what commands are, of drawn ones. No condition. -/
import Derived.Test.YtffloigfgjoimaaQa
namespace Go.Proofs.Ytffloigfgjoimaa.Ev
open Go
set_option linter.unusedVariables false
set_option linter.unusedSimpArgs false
set_option maxHeartbeats 1000000

/-- A byte. -/
def inB (n : Int) : Prop := 0 ≤ n ∧ n ≤ 255
theorem open_uint8 {t : T} (h : FT E (.int .u8) t) : ∃ n : Int, t = .i n ∧ inB n := by
  cases h with
  | int h =>
    simp [Lit.wf, IntKind.min, IntKind.max, IntKind.signed, IntKind.bits] at h
    exact ⟨_, rfl, by unfold inB; omega⟩
theorem open_Uint8 {c : List T} (h : FTs E [.int .u8] c) : ∃ n : Int, c = [.i n] ∧ inB n := by
  match c, h with
  | [t], ⟨h, _⟩ => obtain ⟨n, rfl, g⟩ := open_uint8 h; exact ⟨n, rfl, g⟩
theorem open_uint8S {t : T} (h : FT E (.row TN.Uint8) t) : ∃ l : List Int, t = .r (eIs l) ∧ LF inB l :=
  open_rows _ inB (fun c hc => open_Uint8 (flatT (by kernel_rfl) hc)) h
/-- Rounds: each goes on, or ends. -/
theorem Ev.loop {V : Type} {b : Nat → (V → Option Outs) → V → Option Outs} {d : Nat} {ok : Outs → Prop} (n : Nat) (hn : n < Big) (Inv : Nat → V → Prop)
    (h : ∀ i v, i ≤ n → Inv i v → (i < n ∧ ∃ v', Inv (i + 1) v' ∧ ∀ k, Big + d ≤ k → ∀ G, b k G v = G v') ∨ (∃ o, ok o ∧ ∀ k, Big + d ≤ k → ∀ G, b k G v = some o)) {v : V} (h0 : Inv 0 v) : Ev (fun k => fixN (b k) k v) d ok := by
  have key : ∀ m i v, i + m = n → Inv i v → ∃ o, ok o ∧ ∀ k, Big + d ≤ k → ∀ j, m < j → fixN (b k) j v = some o := by
    intro m
    induction m with
    | zero =>
      intro i v hi hv
      rcases h i v (by omega) hv with ⟨hlt, _⟩ | ⟨o, h1, h2⟩
      · omega
      · refine ⟨o, h1, fun k hk j hj => ?_⟩
        obtain ⟨j, rfl⟩ : ∃ q, j = q + 1 := ⟨j - 1, by omega⟩
        exact h2 k hk _
    | succ m ih =>
      intro i v hi hv
      rcases h i v (by omega) hv with ⟨hlt, v', hv', h2⟩ | ⟨o, h1, h2⟩
      · obtain ⟨o, h1, h3⟩ := ih (i + 1) v' (by omega) hv'
        refine ⟨o, h1, fun k hk j hj => ?_⟩
        obtain ⟨j, rfl⟩ : ∃ q, j = q + 1 := ⟨j - 1, by omega⟩
        exact (h2 k hk _).trans (h3 k hk j (by omega))
      · refine ⟨o, h1, fun k hk j hj => ?_⟩
        obtain ⟨j, rfl⟩ : ∃ q, j = q + 1 := ⟨j - 1, by omega⟩
        exact h2 k hk _
  obtain ⟨o, h1, h2⟩ := key n 0 v (by omega) h0
  exact ⟨o, h1, fun k hk => h2 k hk k (by omega)⟩
def Row (p : List Int → Prop) (r : List T) : Prop := ∃ l, p l ∧ r = [.r (eIs l)]
def GeoD (r : List T) : Prop := ∃ g : Geo, g.Fit ∧ r = g.e
/-- A command that fits, of few words. -/
def CmdP (x : Cmd) : Prop := inI x.Op ∧ inI x.Id ∧ inI x.Lba ∧ inI x.N ∧ x.Vals.length ≤ 20 ∧ ∀ v ∈ x.Vals, inI v
theorem CmdP.w {x : Cmd} (h : CmdP x) : x.w ≤ Big := by have := h.2.2.2.2.1; unfold Cmd.w Big; omega
def CmdD (r : List T) : Prop := ∃ x : Cmd, CmdP x ∧ r = x.e
def CmdD4 (r : List T) : Prop := ∃ x : Cmd, (CmdP x ∧ x.Vals.length ≤ 6) ∧ r = x.e
/-! ### The law of commands, bent or not -/
theorem steps_pos (g : Geo) (c : Cmd) (h : c.w ≤ Big) : (decide (stepsOf g c > 0) == (cmdCode g c == 0)) = true := by
  unfold stepsOf
  cases h0 : cmdCode g c == 0
  · simp
  have h0' : cmdCode g c = 0 := by simpa using h0
  obtain ⟨hg, hs, hl⟩ := cmdCode_good h0'
  obtain ⟨g1, g2, g3, g4⟩ := geoOk_t hg
  have hr := runOf_b hs h
  simp only [cond_true]
  cases h4 : c.Op == 4
  · cases h3 : c.Op == 3
    · simp; omega
    · simp only [cond_true, cond_false]
      have h3' : c.Op = 3 := by simpa using h3
      have hrun := (good_size hs).2.1 (.inr h3')
      have hpos : 1 ≤ runOf c := by
        unfold sizeOk at hs
        rw [h3'] at hs; simp [within] at hs; omega
      rcases hl with hl | hl
      · rw [h3'] at hl; cases hl
      have hb : blocks g = g.S * (g.N - 1) := by unfold blocks; rw [hg]; rfl
      have e1 : hasBlock g c.Lba = true := by unfold hasBlock within; simp; omega
      have e2 : hasBlock g (c.Lba + runOf c - 1) = true := by unfold hasBlock within; simp; omega
      have : c.Lba / (g.N - 1) ≤ (c.Lba + runOf c - 1) / (g.N - 1) := Int.ediv_le_ediv (by omega) (by omega)
      unfold stripeOf
      rw [e1, e2]
      simp; omega
  · simp; omega
end Go.Proofs.Ytffloigfgjoimaa.Ev
