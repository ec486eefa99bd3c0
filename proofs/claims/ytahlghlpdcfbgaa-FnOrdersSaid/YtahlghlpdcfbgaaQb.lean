/- Drawn geometries and commands; what commands are, of drawn ones. No condition. -/
import Derived.Test.YtahlghlpdcfbgaaQa
namespace Go.Proofs.Ytahlghlpdcfbgaa.Ev
open Go
set_option linter.unusedVariables false
set_option linter.unusedSimpArgs false
set_option maxHeartbeats 1000000

/-- A byte. -/
def inB (n : Int) : Prop := 0 ≤ n ∧ n ≤ 255
theorem open_uint8 {t : T} (h : FT E (.int .u8) t) : ∃ n : Int, t = .i n ∧ inB n := by
  cases h with
  | int h =>
    simp [Lit.wf, IntKind.min, IntKind.max, IntKind.signed, IntKind.bits] at h
    exact ⟨_, rfl, by unfold inB; omega⟩
theorem open_Uint8 {c : List T} (h : FTs E [.int .u8] c) : ∃ n : Int, c = [.i n] ∧ inB n := by
  match c, h with
  | [t], ⟨h, _⟩ => obtain ⟨n, rfl, g⟩ := open_uint8 h; exact ⟨n, rfl, g⟩
theorem open_uint8S {t : T} (h : FT E (.row TN.Uint8) t) : ∃ l : List Int, t = .r (eIs l) ∧ LF inB l :=
  open_rows _ inB (fun c hc => open_Uint8 (flatT (by kernel_rfl) hc)) h
/-- Rounds: each goes on, or ends. -/
theorem Ev.loop {V : Type} {b : Nat → (V → Option Outs) → V → Option Outs} {d : Nat} {ok : Outs → Prop} (n : Nat) (hn : n < Big) (Inv : Nat → V → Prop)
    (h : ∀ i v, i ≤ n → Inv i v → (i < n ∧ ∃ v', Inv (i + 1) v' ∧ ∀ k, Big + d ≤ k → ∀ G, b k G v = G v') ∨ (∃ o, ok o ∧ ∀ k, Big + d ≤ k → ∀ G, b k G v = some o)) {v : V} (h0 : Inv 0 v) : Ev (fun k => fixN (b k) k v) d ok := by
  have key : ∀ m i v, i + m = n → Inv i v → ∃ o, ok o ∧ ∀ k, Big + d ≤ k → ∀ j, m < j → fixN (b k) j v = some o := by
    intro m
    induction m with
    | zero =>
      intro i v hi hv
      rcases h i v (by omega) hv with ⟨hlt, _⟩ | ⟨o, h1, h2⟩
      · omega
      · refine ⟨o, h1, fun k hk j hj => ?_⟩
        obtain ⟨j, rfl⟩ : ∃ q, j = q + 1 := ⟨j - 1, by omega⟩
        exact h2 k hk _
    | succ m ih =>
      intro i v hi hv
      rcases h i v (by omega) hv with ⟨hlt, v', hv', h2⟩ | ⟨o, h1, h2⟩
      · obtain ⟨o, h1, h3⟩ := ih (i + 1) v' (by omega) hv'
        refine ⟨o, h1, fun k hk j hj => ?_⟩
        obtain ⟨j, rfl⟩ : ∃ q, j = q + 1 := ⟨j - 1, by omega⟩
        exact (h2 k hk _).trans (h3 k hk j (by omega))
      · refine ⟨o, h1, fun k hk j hj => ?_⟩
        obtain ⟨j, rfl⟩ : ∃ q, j = q + 1 := ⟨j - 1, by omega⟩
        exact h2 k hk _
  obtain ⟨o, h1, h2⟩ := key n 0 v (by omega) h0
  exact ⟨o, h1, fun k hk => h2 k hk k (by omega)⟩
def Row (p : List Int → Prop) (r : List T) : Prop := ∃ l, p l ∧ r = [.r (eIs l)]
theorem some_d (c : Cur) (hc : c.ok) (n : Int) (hn : n ≤ 1000) : Ev (fun k => evalF E P0 k N.spec_l7Some [.p c.e, .v [.i n]]) 6 (CD (Row fun l => l.length = n.toNat ∧ ∀ x ∈ l, 0 ≤ x ∧ x ≤ 65535)) := by
  refine Ev.fn (fun k => spec_l7Some_e k _ _ _ _) ?_
  unfold spec_l7Some_u spec_l7Some_U
  refine Ev.loop (d := 5) n.toNat (by unfold Big; omega) (fun i v => ∃ l c', l.length = i ∧ (∀ x ∈ l, 0 ≤ x ∧ x ≤ 65535) ∧ Cur.ok c' ∧ v = ((i : Int), eIs c'.b, c'.i, c'.h, eIs l)) ?_ ⟨[], c, rfl, by simp, hc, rfl⟩
  rintro i v hi ⟨l, c', hl, hx, h1, rfl⟩
  by_cases hlt : i < n.toNat
  · refine .inl ⟨hlt, ?_⟩
    obtain ⟨o, ⟨r, c2, ⟨x, hx2, rfl⟩, h2, rfl⟩, hev⟩ := draw_d c' h1
    refine ⟨_, ⟨l ++ [x], c2, by simp [hl], ?_, h2, rfl⟩, fun k hk G => ?_⟩
    · intro y hy
      rcases List.mem_append.1 hy with hy | hy
      · exact hx y hy
      · simp at hy; subst hy; exact hx2
    · have hev' : evalF E P0 k N.spec_l1Draw [.p c'.e] = _ := hev k (by omega)
      unfold spec_l7Some_l1 spec_l7Some_L1
      simp only []
      rw [decide_eq_true (by omega), cond_true, hev', bindO_some]
      simp only [Outs.t_mk, Outs.vt_mk, List.getD_cons_zero, List.getD_cons_succ, T.asI_i, T.asR_r]
      rw [chk_ok (by simp; omega), wrap_up (by omega)]
      simp
  · obtain rfl : i = n.toNat := by omega
    refine .inr ⟨_, ⟨_, c', ⟨l, ⟨hl, hx⟩, rfl⟩, h1, rfl⟩, fun k hk G => ?_⟩
    unfold spec_l7Some_l1 spec_l7Some_L1
    simp only []
    rw [decide_eq_false (by omega)]; rfl
def GeoD (r : List T) : Prop := ∃ g : Geo, g.Fit ∧ r = g.e
theorem geo_d (c : Cur) (hc : c.ok) : Ev (fun k => evalF E P0 k N.spec_l3Geo [.p c.e]) 3 (CD fun r => ∃ g : Geo, (3 ≤ g.N ∧ g.N ≤ 5 ∧ 1 ≤ g.S ∧ g.S ≤ 8) ∧ r = g.e) := by
  refine Ev.fn (fun k => spec_l3Geo_e k _ _ _) ?_
  unfold spec_l3Geo_u
  refine Ev.bind (below_d c hc 3 (by omega)) (by omega) ?_
  rintro o ⟨r, c1, ⟨x, hx, rfl⟩, h1, rfl⟩
  simp only [Outs.t_mk, Outs.vt_mk, List.getD_cons_zero, List.getD_cons_succ, T.asI_i, T.asR_r]
  refine Ev.bind (below_d c1 h1 8 (by omega)) (by omega) ?_
  rintro o ⟨r, c2, ⟨y, hy, rfl⟩, h2, rfl⟩
  simp only [Outs.t_mk, Outs.vt_mk, List.getD_cons_zero, List.getD_cons_succ, T.asI_i, T.asR_r]
  rw [wrap_id (n := 3 + x) (by omega) (by omega), wrap_id (n := 1 + y) (by omega) (by omega)]
  exact Ev.ret ⟨_, c2, ⟨⟨3 + x, 1 + y⟩, by simp only []; omega, rfl⟩, h2, rfl⟩ _
/-- A command that fits, of few words. -/
def CmdP (x : Cmd) : Prop := inI x.Op ∧ inI x.Id ∧ inI x.Lba ∧ inI x.N ∧ x.Vals.length ≤ 20 ∧ ∀ v ∈ x.Vals, inI v
theorem CmdP.w {x : Cmd} (h : CmdP x) : x.w ≤ Big := by have := h.2.2.2.2.1; unfold Cmd.w Big; omega
def CmdD (r : List T) : Prop := ∃ x : Cmd, CmdP x ∧ r = x.e
def CmdD4 (r : List T) : Prop := ∃ x : Cmd, (CmdP x ∧ x.Vals.length ≤ 6) ∧ r = x.e
theorem cmd_d (c : Cur) (hc : c.ok) (g : Geo) : Ev (fun k => evalF E P0 k N.spec_l13Draw [.p c.e, .v g.e]) 7 (CD CmdD4) := by
  refine Ev.fn (fun k => spec_l13Draw_e k _ _ _ _ _) ?_
  unfold spec_l13Draw_u
  have hb := blocks_b g
  refine Ev.bind (int_d c hc [1, 1, 2, 2, 2, 3, 3, 4, 5, 6] (by simp) (by simp)) (by omega) ?_
  rintro o ⟨r, c1, ⟨x, hx, rfl⟩, h1, rfl⟩
  have hx : 1 ≤ x ∧ x ≤ 6 := by simp at hx; omega
  simp only [Outs.t_mk, Outs.vt_mk, List.getD_cons_zero, List.getD_cons_succ, T.asI_i, T.asR_r]
  refine Ev.bind (below_d c1 h1 99 (by omega)) (by omega) ?_
  rintro o ⟨r, c2, ⟨y, hy, rfl⟩, h2, rfl⟩
  simp only [Outs.t_mk, Outs.vt_mk, List.getD_cons_zero, List.getD_cons_succ, T.asI_i, T.asR_r]
  rw [wrap_id (n := 1 + y) (by omega) (by omega)]
  refine Ev.ite (fun _ => Ev.ret ⟨_, c2, ⟨⟨x, 1 + y, 0, 0, []⟩, by unfold CmdP inI; simp; omega, rfl⟩, h2, rfl⟩ _) (fun _ => ?_)
  refine Ev.bind (below_d c2 h2 4 (by omega)) (by omega) ?_
  rintro o ⟨r, c3, ⟨z, hz, rfl⟩, h3, rfl⟩
  simp only [Outs.t_mk, Outs.vt_mk, List.getD_cons_zero, List.getD_cons_succ, T.asI_i, T.asR_r]
  refine Ev.call (blocks_s g) (by omega) ?_
  simp only [Outs.t_mk, List.getD_cons_zero, T.asI_i]
  rw [wrap_id (n := 1 + z) (by omega) (by omega)]
  have key : ∀ n : Int, 0 ≤ n → n ≤ 4 → Ev (fun k => spec_l13Draw_J1 k g.N g.S ⟨[.i x], [c1.e]⟩ ⟨[.i y], [c2.e]⟩ ⟨[.i z], [c3.e]⟩ n) 6 (CD CmdD4) := by
    intro n hn0 hn4
    unfold spec_l13Draw_J1
    refine Ev.call (blocks_s g) (by omega) ?_
    simp only [Outs.t_mk, Outs.vt_mk, List.getD_cons_zero, List.getD_cons_succ, T.asI_i, T.asR_r]
    rw [wrap_id (n := blocks g - n) (by omega) (by omega), wrap_id (n := blocks g - n + 1) (by omega) (by omega)]
    refine Ev.bind (below_d c3 h3 _ (by omega)) (by omega) ?_
    rintro o ⟨r, c4, ⟨q, hq, rfl⟩, h4, rfl⟩
    have k2 : ∀ b, Ev (fun k => spec_l13Draw_J2 k ⟨[.i x], [c1.e]⟩ ⟨[.i y], [c2.e]⟩ ⟨[.i q], [c4.e]⟩ n b) 6 (CD CmdD4) := by
      intro b
      unfold spec_l13Draw_J2
      simp only [Outs.t_mk, Outs.vt_mk, List.getD_cons_zero, List.getD_cons_succ, T.asI_i, T.asR_r]
      rw [wrap_id (n := 1 + y) (by omega) (by omega)]
      refine Ev.ite (fun _ => Ev.ret ⟨_, c4, ⟨⟨x, 1 + y, q, n, []⟩, by unfold CmdP inI; simp; omega, rfl⟩, h4, rfl⟩ _) (fun _ => Ev.ite (fun _ => ?_) (fun _ => ?_))
      · refine Ev.bind (int_d c4 h4 [0, 0, 1, 2] (by simp) (by simp)) (by omega) ?_
        rintro o ⟨r, c5, ⟨u, hu, rfl⟩, h5, rfl⟩
        simp only [Outs.t_mk, Outs.vt_mk, List.getD_cons_zero, List.getD_cons_succ, T.asI_i, T.asR_r]
        refine Ev.bind (int_d c5 h5 [0, 1, 2, 7] (by simp) (by simp)) (by omega) ?_
        rintro o ⟨r, c6, ⟨v, hv, rfl⟩, h6, rfl⟩
        refine Ev.ret ⟨_, c6, ⟨⟨x, 1 + y, q, 0, [u, v]⟩, ?_, rfl⟩, h6, rfl⟩ _
        unfold CmdP inI; simp at hu hv ⊢; omega
      · refine Ev.bind (some_d c4 h4 n (by omega)) (by omega) ?_
        rintro o ⟨r, c5, ⟨l, ⟨hl, hv⟩, rfl⟩, h5, rfl⟩
        refine Ev.ret ⟨_, c5, ⟨⟨x, 1 + y, q, 0, l⟩, ⟨⟨?_, ?_, ?_, ?_, ?_, ?_⟩, by simp only []; omega⟩, rfl⟩, h5, rfl⟩ _
        · unfold inI; simp only []; omega
        · unfold inI; simp only []; omega
        · unfold inI; simp only []; omega
        · unfold inI; simp only []; omega
        · simp only []; omega
        · intro v hvm; have := hv v hvm; unfold inI; omega
    refine Ev.ite (fun _ => k2 _) (fun _ => k2 _)
  refine Ev.ite (fun _ => key 1 (by omega) (by omega)) (fun _ => key _ (by omega) (by omega))
theorem cmdAny_d (c : Cur) (hc : c.ok) (g : Geo) : Ev (fun k => evalF E P0 k N.spec_l13Any [.p c.e, .v g.e]) 8 (CD CmdD) := by
  refine Ev.fn (fun k => spec_l13Any_e k _ _ _ _ _) ?_
  unfold spec_l13Any_u spec_l13Any_J1 spec_l13Any_J2
  refine Ev.call (geoOk_s g) (by omega) ?_
  refine Ev.ite (fun _ => ?_) (fun _ => ?_)
  · refine Ev.bind (cmd_d c hc g) (by omega) ?_
    rintro o ⟨r, c1, ⟨x, ⟨⟨p1, p2, p3, p4, p5, p6⟩, p7⟩, rfl⟩, h1, rfl⟩
    simp only [Outs.t_mk, Outs.vt_mk, List.getD_cons_zero, List.getD_cons_succ, T.asI_i, T.asR_r]
    refine Ev.bind (below_d c1 h1 12 (by omega)) (by omega) ?_
    rintro o ⟨r, c2, ⟨y, hy, rfl⟩, h2, rfl⟩
    simp only [Outs.t_mk, Outs.vt_mk, List.getD_cons_zero, List.getD_cons_succ, T.asI_i, T.asR_r]
    refine Ev.ite (fun _ => ?_) (fun _ => Ev.ite (fun _ => ?_) (fun _ => Ev.ite (fun _ => ?_) (fun _ => Ev.ite (fun _ => ?_) (fun _ => Ev.ite (fun _ => ?_) (fun _ => Ev.ite (fun _ => ?_) (fun _ => ?_))))))
    · refine Ev.bind (int_d c2 h2 [0, 7, -1, 4] (by simp) (by simp)) (by omega) ?_
      rintro o ⟨r, c3, ⟨z, hz, rfl⟩, h3, rfl⟩
      exact Ev.ret ⟨_, c3, ⟨⟨z, x.Id, x.Lba, x.N, x.Vals⟩, ⟨by unfold inI; simp at hz ⊢; omega, p2, p3, p4, p5, p6⟩, rfl⟩, h3, rfl⟩ _
    · refine Ev.bind (int_d c2 h2 [0, 999, 1000, 65536] (by simp) (by simp)) (by omega) ?_
      rintro o ⟨r, c3, ⟨z, hz, rfl⟩, h3, rfl⟩
      exact Ev.ret ⟨_, c3, ⟨⟨x.Op, z, x.Lba, x.N, x.Vals⟩, ⟨p1, by unfold inI; simp at hz ⊢; omega, p3, p4, p5, p6⟩, rfl⟩, h3, rfl⟩ _
    · refine Ev.bind (int_d c2 h2 [-1, 7, 31, 32, 9223372036854775807] (by simp) (by simp)) (by omega) ?_
      rintro o ⟨r, c3, ⟨z, hz, rfl⟩, h3, rfl⟩
      exact Ev.ret ⟨_, c3, ⟨⟨x.Op, x.Id, z, x.N, x.Vals⟩, ⟨p1, p2, by unfold inI; simp at hz ⊢; omega, p4, p5, p6⟩, rfl⟩, h3, rfl⟩ _
    · refine Ev.bind (int_d c2 h2 [0, 6, 7, -1, 65536] (by simp) (by simp)) (by omega) ?_
      rintro o ⟨r, c3, ⟨z, hz, rfl⟩, h3, rfl⟩
      exact Ev.ret ⟨_, c3, ⟨⟨x.Op, x.Id, x.Lba, z, x.Vals⟩, ⟨p1, p2, p3, by unfold inI; simp at hz ⊢; omega, p5, p6⟩, rfl⟩, h3, rfl⟩ _
    · refine Ev.bind (int_d c2 h2 [-1, 5, 65536] (by simp) (by simp)) (by omega) ?_
      rintro o ⟨r, c3, ⟨z, hz, rfl⟩, h3, rfl⟩
      simp only [Outs.t_mk, Outs.vt_mk, List.getD_cons_zero, List.getD_cons_succ, T.asI_i, T.asR_r]
      refine Ev.chk (by simp; omega) (Ev.ret ⟨_, c3, ⟨⟨x.Op, x.Id, x.Lba, x.N, x.Vals ++ [z]⟩, ⟨p1, p2, p3, p4, by simp; omega, fun v hv => by
        rcases List.mem_append.1 hv with hv | hv
        · exact p6 v hv
        · simp at hv; subst hv; unfold inI; simp at hz; omega⟩, by simp⟩, h3, rfl⟩ _)
    · refine Ev.bind (below_d c2 h2 2 (by omega)) (by omega) ?_
      rintro o ⟨r, c3, ⟨z, hz, rfl⟩, h3, rfl⟩
      simp only [Outs.t_mk, Outs.vt_mk, List.getD_cons_zero, List.getD_cons_succ, T.asI_i, T.asR_r]
      rw [wrap_id (n := 6 + z) (by omega) (by omega)]
      refine Ev.chk (by simp; omega) (Ev.ret ⟨_, c3, ⟨⟨x.Op, x.Id, x.Lba, x.N, List.replicate (6 + z).toNat 0⟩, ⟨p1, p2, p3, p4, by simp; omega, fun v hv => by rw [(List.mem_replicate.1 hv).2]; unfold inI; omega⟩, by simp⟩, h3, rfl⟩ _)
    · exact Ev.ret ⟨_, c2, ⟨x, ⟨p1, p2, p3, p4, p5, p6⟩, rfl⟩, h2, rfl⟩ _
  · refine Ev.bind (below_d c hc 12 (by omega)) (by omega) ?_
    rintro o ⟨r, c2, ⟨y, hy, rfl⟩, h2, rfl⟩
    simp only [Outs.t_mk, Outs.vt_mk, List.getD_cons_zero, List.getD_cons_succ, T.asI_i, T.asR_r]
    refine Ev.ite (fun _ => ?_) (fun _ => Ev.ite (fun _ => ?_) (fun _ => Ev.ite (fun _ => ?_) (fun _ => Ev.ite (fun _ => ?_) (fun _ => Ev.ite (fun _ => ?_) (fun _ => Ev.ite (fun _ => ?_) (fun _ => ?_))))))
    · refine Ev.bind (int_d c2 h2 [0, 7, -1, 4] (by simp) (by simp)) (by omega) ?_
      rintro o ⟨r, c3, ⟨z, hz, rfl⟩, h3, rfl⟩
      exact Ev.ret ⟨_, c3, ⟨⟨z, 1, 0, 1, []⟩, by unfold CmdP inI; simp at hz ⊢; omega, rfl⟩, h3, rfl⟩ _
    · refine Ev.bind (int_d c2 h2 [0, 999, 1000, 65536] (by simp) (by simp)) (by omega) ?_
      rintro o ⟨r, c3, ⟨z, hz, rfl⟩, h3, rfl⟩
      exact Ev.ret ⟨_, c3, ⟨⟨1, z, 0, 1, []⟩, by unfold CmdP inI; simp at hz ⊢; omega, rfl⟩, h3, rfl⟩ _
    · refine Ev.bind (int_d c2 h2 [-1, 7, 31, 32, 9223372036854775807] (by simp) (by simp)) (by omega) ?_
      rintro o ⟨r, c3, ⟨z, hz, rfl⟩, h3, rfl⟩
      exact Ev.ret ⟨_, c3, ⟨⟨1, 1, z, 1, []⟩, by unfold CmdP inI; simp at hz ⊢; omega, rfl⟩, h3, rfl⟩ _
    · refine Ev.bind (int_d c2 h2 [0, 6, 7, -1, 65536] (by simp) (by simp)) (by omega) ?_
      rintro o ⟨r, c3, ⟨z, hz, rfl⟩, h3, rfl⟩
      exact Ev.ret ⟨_, c3, ⟨⟨1, 1, 0, z, []⟩, by unfold CmdP inI; simp at hz ⊢; omega, rfl⟩, h3, rfl⟩ _
    · refine Ev.bind (int_d c2 h2 [-1, 5, 65536] (by simp) (by simp)) (by omega) ?_
      rintro o ⟨r, c3, ⟨z, hz, rfl⟩, h3, rfl⟩
      exact Ev.ret ⟨_, c3, ⟨⟨1, 1, 0, 1, [z]⟩, by unfold CmdP inI; simp at hz ⊢; omega, rfl⟩, h3, rfl⟩ _
    · refine Ev.bind (below_d c2 h2 2 (by omega)) (by omega) ?_
      rintro o ⟨r, c3, ⟨z, hz, rfl⟩, h3, rfl⟩
      simp only [Outs.t_mk, Outs.vt_mk, List.getD_cons_zero, List.getD_cons_succ, T.asI_i, T.asR_r]
      rw [wrap_id (n := 6 + z) (by omega) (by omega)]
      refine Ev.chk (by simp; omega) (Ev.ret ⟨_, c3, ⟨⟨1, 1, 0, 1, List.replicate (6 + z).toNat 0⟩, ⟨by unfold inI; simp, by unfold inI; simp, by unfold inI; simp, by unfold inI; simp, by simp; omega, fun v hv => by rw [(List.mem_replicate.1 hv).2]; unfold inI; omega⟩, by simp⟩, h3, rfl⟩ _)
    · exact Ev.ret ⟨_, c2, ⟨⟨1, 1, 0, 1, []⟩, by unfold CmdP inI; simp, rfl⟩, h2, rfl⟩ _

/-! ### The law of commands, bent or not -/
theorem big_r (l : List Int) : Rn 1 N.laws_big [.v [.r (eIs l)]] ⟨[.b (decide ((l.length : Int) > 1048576))], []⟩ := by
  refine Rn.of fun k hk => ?_
  rw [laws_big_e]; unfold laws_big_u
  rw [List.length_map]
theorem steps_pos (g : Geo) (c : Cmd) (h : c.w ≤ Big) : (decide (stepsOf g c > 0) == (cmdCode g c == 0)) = true := by
  unfold stepsOf
  cases h0 : cmdCode g c == 0
  · simp
  have h0' : cmdCode g c = 0 := by simpa using h0
  obtain ⟨hg, hs, hl⟩ := cmdCode_good h0'
  obtain ⟨g1, g2, g3, g4⟩ := geoOk_t hg
  have hr := runOf_b hs h
  simp only [cond_true]
  cases h4 : c.Op == 4
  · cases h3 : c.Op == 3
    · simp; omega
    · simp only [cond_true, cond_false]
      have h3' : c.Op = 3 := by simpa using h3
      have hrun := (good_size hs).2.1 (.inr h3')
      have hpos : 1 ≤ runOf c := by
        unfold sizeOk at hs
        rw [h3'] at hs; simp [within] at hs; omega
      rcases hl with hl | hl
      · rw [h3'] at hl; cases hl
      have hb : blocks g = g.S * (g.N - 1) := by unfold blocks; rw [hg]; rfl
      have e1 : hasBlock g c.Lba = true := by unfold hasBlock within; simp; omega
      have e2 : hasBlock g (c.Lba + runOf c - 1) = true := by unfold hasBlock within; simp; omega
      have : c.Lba / (g.N - 1) ≤ (c.Lba + runOf c - 1) / (g.N - 1) := Int.ediv_le_ediv (by omega) (by omega)
      unfold stripeOf
      rw [e1, e2]
      simp; omega
  · simp; omega
end Go.Proofs.Ytahlghlpdcfbgaa.Ev
