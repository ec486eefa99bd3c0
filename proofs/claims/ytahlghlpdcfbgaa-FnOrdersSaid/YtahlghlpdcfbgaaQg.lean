/- What was done, as it is drawn; what must be there; one behind the other: the laws. No condition. -/
import Derived.Test.YtahlghlpdcfbgaaQf
namespace Go.Proofs.Ytahlghlpdcfbgaa.Ev
open Go
set_option linter.unusedVariables false
set_option linter.unusedSimpArgs false
set_option maxHeartbeats 1000000

theorem wrap_in (n : Int) : inI (IntKind.wrap .i64 n) := by
  unfold inI IntKind.wrap IntKind.signed IntKind.bits
  simp
  omega
/-- An answer of few words. -/
def AnsQ (m : Nat) (a : Ans) : Prop := inI a.Id ∧ inI a.Code ∧ a.Vals.length ≤ m ∧ ∀ v ∈ a.Vals, inI v
abbrev AnsP (a : Ans) : Prop := AnsQ 33 a
def TurnQ (m : Nat) (t : Turn) : Prop := CmdP t.C ∧ AnsQ m t.A
abbrev TurnP (t : Turn) : Prop := TurnQ 33 t
theorem TurnQ.up {t : Turn} (h : TurnQ 32 t) : TurnP t := ⟨h.1, h.2.1, h.2.2.1, by have := h.2.2.2.1; omega, h.2.2.2.2⟩
theorem AnsQ.fit {a : Ans} (h : AnsP a) : a.Fit := ⟨h.1, h.2.1, by unfold maxLen; have := h.2.2.1; omega, h.2.2.2⟩
theorem TurnQ.fit {t : Turn} (h : TurnP t) : t.Fit := ⟨h.1.fit, h.2.fit⟩
theorem TurnQ.w {t : Turn} (h : TurnP t) : t.w ≤ 53 := by
  have h1 := h.1.2.2.2.2.1
  have h2 := h.2.2.2.1
  have h3 : t.w = t.C.Vals.length + t.A.Vals.length := rfl
  omega
theorem wL_le {α : Type} (w : α → Nat) (m : Nat) : ∀ (l : List α), (∀ x ∈ l, w x ≤ m) → wL w l ≤ l.length * (m + 1)
  | [], _ => Nat.zero_le _
  | x :: l, h => by
    rw [wL_cons]
    have h1 := h x List.mem_cons_self
    have h2 := wL_le w m l (fun y hy => h y (List.mem_cons_of_mem _ hy))
    rw [List.length_cons, Nat.add_mul]; omega
theorem code_in (g : Geo) (c : Cmd) : inI (cmdCode g c) := by
  unfold cmdCode inI
  cases geoOk g && within c.Op 1 6 && within c.Id 1 999
  · simp
  · cases sizeOk c
    · simp
    · cases c.Op == 4 || within c.Lba 0 (blocks g - runOf c) <;> simp
theorem getD_in {l : List Int} {i : Nat} (h : ∀ x ∈ l, inI x) : inI (l.getD i 0) := by
  by_cases hi : i < l.length
  · rw [getD_at hi]; exact h _ (List.getElem_mem hi)
  · rw [List.getD_eq_getElem?_getD, List.getElem?_eq_none (by omega)]; unfold inI; simp
theorem doC_ok (g : Geo) (l : List Int) (c : Cmd) (hl : l.length ≤ 32) (h : ∀ x ∈ l, inI x) (hc : CmdP c) : (∀ x ∈ (doC g l c).1, inI x) ∧ AnsQ 32 (doC g l c).2 := by
  obtain ⟨h1, h2, h3, h4, h5, h6⟩ := hc
  have ov : ∀ (f : Nat) (xs : List Int), (∀ x ∈ xs, inI x) → ∀ x ∈ ovl l f xs, inI x := by
    intro f xs hx x hm
    unfold ovl at hm
    rcases List.mem_append.1 hm with hm | hm
    · exact h x (List.mem_of_mem_take hm)
    · rcases List.mem_append.1 hm with hm | hm
      · exact hx x hm
      · exact h x (List.mem_of_mem_drop hm)
  have an : ∀ n : Int, inI n → AnsQ 32 ⟨c.Id, n, []⟩ := fun n hn => ⟨h2, hn, by simp, by simp⟩
  have i0 : ∀ n : Int, 0 ≤ n → n ≤ 9 → inI n := fun n a b => by unfold inI; omega
  unfold doC doGood
  cases (l.length : Int) != blocks g
  · cases cmdCode g c != 0
    · cases c.Op == 1
      · cases c.Op == 2 || c.Op == 3
        · cases c.Op == 6
          · cases c.Op == 5
            · exact ⟨h, an 0 (i0 0 (by omega) (by omega))⟩
            · simp only [cond_true, cond_false]
              cases l.getD c.Lba.toNat 0 == c.Vals.getD 0 0
              · exact ⟨h, an 4 (i0 4 (by omega) (by omega))⟩
              · refine ⟨fun x hx => ?_, an 0 (i0 0 (by omega) (by omega))⟩
                rcases List.mem_or_eq_of_mem_set hx with hx | rfl
                · exact h x hx
                · exact getD_in h6
          · exact ⟨ov _ _ (fun x hx => by rw [(List.mem_replicate.1 hx).2]; exact i0 0 (by omega) (by omega)), an 0 (i0 0 (by omega) (by omega))⟩
        · exact ⟨ov _ _ h6, an 0 (i0 0 (by omega) (by omega))⟩
      · exact ⟨h, h2, i0 0 (by omega) (by omega), by simp; omega, fun v hv => h v (List.mem_of_mem_drop (List.mem_of_mem_take hv))⟩
    · exact ⟨h, an _ (code_in g c)⟩
  · exact ⟨h, an 1 (i0 1 (by omega) (by omega))⟩

/-! ### The log that is drawn -/
def GeoS (g : Geo) : Prop := 3 ≤ g.N ∧ g.N ≤ 5 ∧ 1 ≤ g.S ∧ g.S ≤ 4
theorem GeoS.pos {g : Geo} (h : GeoS g) : 0 < blocks g := by
  obtain ⟨h1, h2, h3, h4⟩ := h
  have hg : geoOk g = true := by unfold geoOk within; simp; omega
  unfold blocks
  rw [hg]
  exact Int.mul_pos (by omega) (by omega)
theorem l6Geo_d (c : Cur) (hc : c.ok) : Ev (fun k => evalF E P0 k N.spec_l6Geo [.p c.e]) 3 (CD fun r => ∃ g : Geo, GeoS g ∧ r = g.e) := by
  refine Ev.fn (fun k => spec_l6Geo_e k _ _ _) ?_
  unfold spec_l6Geo_u
  refine Ev.bind (below_d c hc 3 (by omega)) (by omega) ?_
  rintro o ⟨r, c1, ⟨x, hx, rfl⟩, h1, rfl⟩
  simp only [Outs.t_mk, Outs.vt_mk, List.getD_cons_zero, List.getD_cons_succ, T.asI_i, T.asR_r]
  refine Ev.bind (below_d c1 h1 4 (by omega)) (by omega) ?_
  rintro o ⟨r, c2, ⟨y, hy, rfl⟩, h2, rfl⟩
  simp only [Outs.t_mk, Outs.vt_mk, List.getD_cons_zero, List.getD_cons_succ, T.asI_i, T.asR_r]
  rw [wrap_id (n := 3 + x) (by omega) (by omega), wrap_id (n := 1 + y) (by omega) (by omega)]
  exact Ev.ret ⟨_, c2, ⟨⟨3 + x, 1 + y⟩, by unfold GeoS; simp only []; omega, rfl⟩, h2, rfl⟩ _
def LogQ (m : Nat) (l : List Turn) : Prop := l.length ≤ 8 ∧ ∀ t ∈ l, TurnQ m t
abbrev LogP (l : List Turn) : Prop := LogQ 33 l
theorem LogQ.up {l : List Turn} (h : LogQ 32 l) : LogP l := ⟨h.1, fun t ht => (h.2 t ht).up⟩
theorem LogQ.w {l : List Turn} (h : LogP l) : wL Turn.w l ≤ 432 := by
  have := wL_le Turn.w 53 l (fun t ht => (h.2 t ht).w)
  have h1 := Nat.mul_le_mul_right 54 h.1
  omega
theorem LogQ.set {l : List Turn} (h : LogP l) {i : Nat} {t : Turn} (ht : TurnP t) : LogP (l.set i t) := by
  refine ⟨by rw [List.length_set]; exact h.1, fun x hx => ?_⟩
  rcases List.mem_or_eq_of_mem_set hx with hx | rfl
  · exact h.2 x hx
  · exact ht
def FrmP (g : Geo) (l : List Int) : Prop := l.length = (blocks g).toNat ∧ ∀ x ∈ l, 0 ≤ x ∧ x ≤ 65535
/-- What the log's draw answers. -/
def LogD (r : List T) : Prop := ∃ (g : Geo) (frm : List Int) (l : List Turn), GeoS g ∧ FrmP g frm ∧ LogP l ∧ r = [.i g.N, .i g.S, .r (eIs frm), .r (eTurns l)]
theorem l18Log_d (c : Cur) (hc : c.ok) : Ev (fun k => evalF E P0 k N.spec_l18Log [.p c.e]) 10 (CD LogD) := by
  refine Ev.fn (fun k => spec_l18Log_e k _ _ _) ?_
  unfold spec_l18Log_u spec_l18Log_U
  refine Ev.bind (l6Geo_d c hc) (by omega) ?_
  rintro o ⟨r, c1, ⟨g, hg, rfl⟩, h1, rfl⟩
  simp only [Outs.t_mk, Outs.vt_mk, List.getD_cons_zero, List.getD_cons_succ, T.asI_i, T.asR_r]
  refine Ev.call (blocks_s g) (by omega) ?_
  have hbl := blocks_b g
  simp only [Outs.t_mk, Outs.vt_mk, List.getD_cons_zero, List.getD_cons_succ, T.asI_i, T.asR_r]
  refine Ev.bind (some_d c1 h1 (blocks g) (by omega)) (by omega) ?_
  rintro o ⟨r, c2, ⟨frm, hfrm, rfl⟩, h2, rfl⟩
  simp only [Outs.t_mk, Outs.vt_mk, List.getD_cons_zero, List.getD_cons_succ, T.asI_i, T.asR_r]
  have hfl : frm.length ≤ 32 := by have := hfrm.1; omega
  refine Ev.chk (by simp; omega) ?_
  refine Ev.bind (below_d c2 h2 8 (by omega)) (by omega) ?_
  rintro o ⟨r, c3, ⟨n, hn, rfl⟩, h3, rfl⟩
  simp only [Outs.t_mk, Outs.vt_mk, List.getD_cons_zero, List.getD_cons_succ, T.asI_i, T.asR_r, List.nil_append]
  have hn7 : n.toNat ≤ 8 := by omega
  refine Ev.loop (d := 9) n.toNat (by unfold Big; omega) (fun i v => ∃ (l : List Turn) (c' : Cur) (at_ : List Int), l.length = i ∧ LogQ 32 l ∧ at_.length ≤ 32 ∧ (∀ x ∈ at_, inI x) ∧ Cur.ok c' ∧ v = (n - (i : Int), eIs c'.b, c'.i, c'.h, eTurns l, eIs at_)) ?_ ⟨[], c3, frm, rfl, ⟨by simp, by simp⟩, hfl, fun x hx => by have := hfrm.2 x hx; unfold inI; omega, h3, by simp⟩
  rintro i v hi ⟨l, c', at_, hl, hlog, hal, hat, h4, rfl⟩
  by_cases hlt : i < n.toNat
  · refine .inl ⟨hlt, ?_⟩
    obtain ⟨o, ⟨r, c5, ⟨x, hx, rfl⟩, h5, rfl⟩, hev⟩ := cmdAny_d c' h4 g
    obtain ⟨d1, d2⟩ := doC_ok g at_ x hal hat hx
    have hlen := doC_len g at_ x
    refine ⟨_, ⟨l ++ [⟨x, (doC g at_ x).2⟩], c5, (doC g at_ x).1, by simp [hl], ⟨by simp; omega, fun t ht => ?_⟩, by omega, d1, h5, rfl⟩, fun k hk G => ?_⟩
    · rcases List.mem_append.1 ht with ht | ht
      · exact hlog.2 t ht
      · simp at ht; subst ht; exact ⟨hx, d2⟩
    · have hev' : evalF E P0 k N.spec_l13Any [.p c'.e, .v g.e] = _ := hev k (by omega)
      have hB : Big = 4294967296 := rfl
      unfold spec_l18Log_l1 spec_l18Log_L1
      simp only [Outs.t_mk, List.getD_cons_zero, List.getD_cons_succ, T.asI_i]
      rw [decide_eq_true (by omega), cond_true, hev', bindO_some]
      simp only [Outs.t_mk, Outs.vt_mk, List.getD_cons_zero, List.getD_cons_succ, T.asI_i, T.asR_r]
      rw [doCmd_s g at_ x (by omega) hx.w k (by omega), bindO_some]
      simp only [Outs.t_mk, Outs.vt_mk, List.getD_cons_zero, List.getD_cons_succ, T.asI_i, T.asR_r]
      rw [chk_ok (by simp; omega), wrap_id (n := n - (i : Int) - 1) (by omega) (by omega), show n - (i : Int) - 1 = n - ((i + 1 : Nat) : Int) by omega]
      simp
  · obtain rfl : i = n.toNat := by omega
    right
    have hlast : ∀ (l : List Turn) (c' : Cur) (b : Bool), LogQ 32 l → Cur.ok c' → (b = true → 0 < l.length) → Ev (fun k => spec_l18Log_J1 k ⟨[.i g.N, .i g.S], [c1.e]⟩ ⟨[.r (eIs frm)], [c2.e]⟩ (eTurns l) (eIs c'.b) c'.i c'.h b) 9 (CD LogD) := by
      intro l c' b hl32 h4 hpos
      have hl := hl32.up
      unfold spec_l18Log_J1
      refine Ev.ite (fun hb => ?_) (fun _ => Ev.ret ⟨_, c', ⟨g, frm, l, hg, hfrm, hl, rfl⟩, h4, rfl⟩ _)
      have hp := hpos hb
      have hl8 := hl.1
      rw [List.length_map]
      refine Ev.bind (below_d c' h4 l.length (by omega)) (by omega) ?_
      rintro o ⟨r, c5, ⟨q, hq, rfl⟩, h5, rfl⟩
      simp only [Outs.t_mk, Outs.vt_mk, List.getD_cons_zero, List.getD_cons_succ, T.asI_i, T.asR_r]
      refine Ev.bind (below_d c5 h5 3 (by omega)) (by omega) ?_
      rintro o ⟨r, c6, ⟨s, hs, rfl⟩, h6, rfl⟩
      simp only [Outs.t_mk, Outs.vt_mk, List.getD_cons_zero, List.getD_cons_succ, T.asI_i, T.asR_r]
      obtain ⟨i, rfl⟩ : ∃ i : Nat, q = (i : Int) := ⟨q.toNat, by omega⟩
      have hi : i < l.length := by omega
      have ht := hl.2 l[i] (List.getElem_mem hi)
      have hv := (hl32.2 l[i] (List.getElem_mem hi)).2.2.2.1
      have hck : (decide (0 ≤ (i : Int)) && decide ((i : Int) < (l.length : Int))) = true := by simp; omega
      refine Ev.ite (fun _ => ?_) (fun _ => Ev.ite (fun _ => ?_) (fun _ => ?_))
      · refine Ev.bind (below_d c6 h6 8 (by omega)) (by omega) ?_
        rintro o ⟨r, c7, ⟨z, hz, rfl⟩, h7, rfl⟩
        refine Ev.chk hck ?_
        simp only [Outs.t_mk, Outs.vt_mk, List.getD_cons_zero, List.getD_cons_succ, T.asI_i, T.asR_r, Int.toNat_natCast]
        rw [put_map Turn.e hi 6 _ ⟨l[i].C, ⟨l[i].A.Id, z, l[i].A.Vals⟩⟩ rfl]
        have hq : TurnP ⟨l[i].C, ⟨l[i].A.Id, z, l[i].A.Vals⟩⟩ := ⟨ht.1, ht.2.1, by unfold inI; simp only []; omega, ht.2.2.2.1, ht.2.2.2.2⟩
        exact Ev.ret ⟨_, c7, ⟨g, frm, _, hg, hfrm, hl.set hq, rfl⟩, h7, rfl⟩ _
      · refine Ev.chk hck (Ev.chk hck ?_)
        simp only [Int.toNat_natCast]
        rw [put_map Turn.e hi 5 _ ⟨l[i].C, ⟨IntKind.wrap .i64 (l[i].A.Id + 1), l[i].A.Code, l[i].A.Vals⟩⟩ (by rw [at_map _ hi]; rfl)]
        have hq : TurnP ⟨l[i].C, ⟨IntKind.wrap .i64 (l[i].A.Id + 1), l[i].A.Code, l[i].A.Vals⟩⟩ := ⟨ht.1, wrap_in _, ht.2.2.1, ht.2.2.2.1, ht.2.2.2.2⟩
        exact Ev.ret ⟨_, c6, ⟨g, frm, _, hg, hfrm, hl.set hq, rfl⟩, h6, rfl⟩ _
      · refine Ev.chk hck (Ev.chk ?_ (Ev.chk hck (Ev.chk (Nat.beq_refl _) ?_)))
        · have := ht.2.2.2.1
          rw [Int.toNat_natCast, at_map _ hi]
          simp; omega
        simp only [Int.toNat_natCast]
        rw [put_map Turn.e hi 7 _ ⟨l[i].C, ⟨l[i].A.Id, l[i].A.Code, l[i].A.Vals ++ [5]⟩⟩ (by rw [at_map _ hi]; simp [spliceT])]
        have hq : TurnP ⟨l[i].C, ⟨l[i].A.Id, l[i].A.Code, l[i].A.Vals ++ [5]⟩⟩ := by
          refine ⟨ht.1, ht.2.1, ht.2.2.1, by simp; omega, fun v hm => ?_⟩
          rcases List.mem_append.1 hm with hm | hm
          · exact ht.2.2.2.2 v hm
          · simp at hm; subst hm; unfold inI; omega
        exact Ev.ret ⟨_, c6, ⟨g, frm, _, hg, hfrm, hl.set hq, rfl⟩, h6, rfl⟩ _
    have hl8 := hlog.1
    by_cases hp : 0 < l.length
    · obtain ⟨o, ho, he⟩ : Ev (fun k => bindO (evalF E P0 k N.spec_l1Once [.p c'.e, .v [.i 4]]) fun o202 => spec_l18Log_J1 k ⟨[.i g.N, .i g.S], [c1.e]⟩ ⟨[.r (eIs frm)], [c2.e]⟩ (eTurns l) ((o202.vt 0 0).asR) ((o202.vt 0 1).asI) ((o202.vt 0 2).asI) ((o202.t 0).asB)) 9 (CD LogD) := by
        refine Ev.bind (once_d c' h4 4 (by omega)) (by omega) ?_
        rintro o ⟨r, c5, ⟨b, rfl⟩, h5, rfl⟩
        simp only [Outs.t_mk, Outs.vt_mk, List.getD_cons_zero, List.getD_cons_succ, T.asI_i, T.asR_r, T.asB_b]
        exact hlast l c5 b hlog h5 (fun _ => hp)
      refine ⟨o, ho, fun k hk G => ?_⟩
      unfold spec_l18Log_l1 spec_l18Log_L1
      simp only [List.length_map]
      rw [decide_eq_false (by omega), cond_false, decide_eq_true (by omega), cond_true]
      exact he k hk
    · obtain ⟨o, ho, he⟩ := hlast l c' false hlog h4 (fun h => by cases h)
      refine ⟨o, ho, fun k hk G => ?_⟩
      unfold spec_l18Log_l1 spec_l18Log_L1
      simp only [List.length_map]
      rw [decide_eq_false (by omega), cond_false, decide_eq_false (by omega), cond_false]
      exact he k hk
theorem drawLog_d (l : List Int) (h : l.length ≤ Big) : Ev (fun k => bindO (evalF E P0 k N.spec_l1New [.v [.r (eIs l)]]) fun o2 => evalF E P0 k N.spec_l18Log [.p [.r (((o2.t 0).asR.headD []).getD 0 (.i 0)).asR, .i (((o2.t 0).asR.headD []).getD 1 (.i 0)).asI, .i (((o2.t 0).asR.headD []).getD 2 (.i 0)).asI]]) 10 (CD LogD) := by
  refine Ev.bind (new_d l h) (by omega) ?_
  rintro o ⟨c, hc, rfl⟩
  simp only [Outs.t_mk, List.getD_cons_zero, List.getD_cons_succ, T.asI_i, T.asR_r, List.headD_cons]
  exact l18Log_d c hc
theorem drawSure_d (l : List Int) (h : l.length ≤ Big) : Ev (fun k => evalF E P0 k N.spec_DrawSureOf [.v [.r (eIs l)]]) 11 (fun o => ∃ (t : List Turn) (b : Int), LogP t ∧ inI b ∧ o = ⟨[.r (eTurns t), .i b], []⟩) := by
  refine Ev.fn (fun k => spec_DrawSureOf_e k _) ?_
  unfold spec_DrawSureOf_u
  refine Ev.bind (new_d l h) (by omega) ?_
  rintro o ⟨c, hc, rfl⟩
  simp only [Outs.t_mk, List.getD_cons_zero, List.getD_cons_succ, T.asI_i, T.asR_r, List.headD_cons]
  refine Ev.bind (l18Log_d c hc) (by omega) ?_
  rintro o ⟨r, c1, ⟨g, frm, t, hg, hfrm, ht, rfl⟩, h1, rfl⟩
  simp only [Outs.t_mk, Outs.vt_mk, List.getD_cons_zero, List.getD_cons_succ, T.asI_i, T.asR_r]
  refine Ev.bind (below_d c1 h1 6 (by omega)) (by omega) ?_
  rintro o ⟨r, c2, ⟨x, hx, rfl⟩, h2, rfl⟩
  exact Ev.ret ⟨t, x, ht, by unfold inI; omega, rfl⟩ _
theorem drawMay_d (l : List Int) (h : l.length ≤ Big) : Ev (fun k => evalF E P0 k N.spec_DrawMayBe [.v [.r (eIs l)]]) 11 (fun o => ∃ (frm : Int) (t : List Turn) (b n : Int), LogP t ∧ inI b ∧ o = ⟨[.i frm, .r (eTurns t), .i b, .i n], []⟩) := by
  refine Ev.fn (fun k => spec_DrawMayBe_e k _) ?_
  unfold spec_DrawMayBe_u
  refine Ev.bind (new_d l h) (by omega) ?_
  rintro o ⟨c, hc, rfl⟩
  simp only [Outs.t_mk, List.getD_cons_zero, List.getD_cons_succ, T.asI_i, T.asR_r, List.headD_cons]
  refine Ev.bind (l18Log_d c hc) (by omega) ?_
  rintro o ⟨r, c1, ⟨g, frm, t, hg, hfrm, ht, rfl⟩, h1, rfl⟩
  have hpos := hg.pos
  have hbl := blocks_b g
  have hfl : frm.length ≤ 32 := by have := hfrm.1; omega
  simp only [Outs.t_mk, Outs.vt_mk, List.getD_cons_zero, List.getD_cons_succ, T.asI_i, T.asR_r, List.length_map]
  refine Ev.bind (below_d c1 h1 frm.length (by omega)) (by omega) ?_
  rintro o ⟨r, c2, ⟨x, hx, rfl⟩, h2, rfl⟩
  simp only [Outs.t_mk, Outs.vt_mk, List.getD_cons_zero, List.getD_cons_succ, T.asI_i, T.asR_r]
  have hfp := hfrm.1
  have hx2 : 0 ≤ x ∧ x < (frm.length : Int) := by omega
  have hck : (decide (0 ≤ x) && decide (x < (frm.length : Int))) = true := by simp; omega
  have hxi : inI x := by unfold inI; omega
  have ht8 := ht.1
  have hJ : ∀ (c' : Cur) (q : Bool), Cur.ok c' → (q = true → 0 < t.length) → Ev (fun k => spec_DrawMayBe_J1 k ⟨[.i g.N, .i g.S, .r (eIs frm), .r (eTurns t)], [c1.e]⟩ ⟨[.i x], [c2.e]⟩ (eIs c'.b) c'.i c'.h q) 10 (fun o => ∃ (frm : Int) (t : List Turn) (b n : Int), LogP t ∧ inI b ∧ o = ⟨[.i frm, .r (eTurns t), .i b, .i n], []⟩) := by
    intro c' q hc' hq
    unfold spec_DrawMayBe_J1
    simp only [Outs.t_mk, Outs.vt_mk, List.getD_cons_zero, List.getD_cons_succ, T.asI_i, T.asR_r, List.length_map]
    refine Ev.ite (fun hb => ?_) (fun _ => Ev.chk hck (Ev.ret ⟨_, t, x, _, ht, hxi, rfl⟩ _))
    have hp := hq hb
    refine Ev.bind (below_d c' hc' t.length (by omega)) (by omega) ?_
    rintro o ⟨r, c5, ⟨z, hz, rfl⟩, h5, rfl⟩
    obtain ⟨i, rfl⟩ : ∃ i : Nat, z = (i : Int) := ⟨z.toNat, by omega⟩
    have hi : i < t.length := by omega
    have hti := ht.2 t[i] (List.getElem_mem hi)
    simp only [Outs.t_mk, Outs.vt_mk, List.getD_cons_zero, List.getD_cons_succ, T.asI_i, T.asR_r, Int.toNat_natCast, at_map _ hi]
    refine Ev.chk (by simp; omega) (Ev.call (wordOf_s t[i].C hti.1.fit x hxi) (by omega) (Ev.chk hck (Ev.ret ⟨_, t, x, _, ht, hxi, rfl⟩ _)))
  refine Ev.chk hck (Ev.ite (fun hb => ?_) (fun _ => ?_))
  · have hp := of_decide_eq_true hb
    refine Ev.bind (once_d c2 h2 2 (by omega)) (by omega) ?_
    rintro o ⟨r, c5, ⟨q, rfl⟩, h5, rfl⟩
    simp only [Outs.t_mk, Outs.vt_mk, List.getD_cons_zero, List.getD_cons_succ, T.asI_i, T.asR_r, T.asB_b]
    exact hJ c5 q h5 (fun _ => by omega)
  · exact hJ c2 false h2 (fun h => by cases h)
theorem drawWrites_d (l : List Int) (h : l.length ≤ Big) : Ev (fun k => evalF E P0 k N.spec_DrawWrites [.v [.r (eIs l)]]) 10 (fun o => ∃ (x : Cmd) (b : Int), CmdP x ∧ inI b ∧ o = ⟨x.e ++ [.i b], []⟩) := by
  refine Ev.fn (fun k => spec_DrawWrites_e k _) ?_
  unfold spec_DrawWrites_u
  refine Ev.bind (new_d l h) (by omega) ?_
  rintro o ⟨c, hc, rfl⟩
  simp only [Outs.t_mk, List.getD_cons_zero, List.getD_cons_succ, T.asI_i, T.asR_r, List.headD_cons]
  refine Ev.bind (geo_d c hc) (by omega) ?_
  rintro o ⟨r, c1, ⟨g, hg, rfl⟩, h1, rfl⟩
  simp only [Outs.t_mk, Outs.vt_mk, List.getD_cons_zero, List.getD_cons_succ, T.asI_i, T.asR_r]
  refine Ev.bind (cmdAny_d c1 h1 g) (by omega) ?_
  rintro o ⟨r, c2, ⟨x, hx, rfl⟩, h2, rfl⟩
  simp only [Outs.t_mk, Outs.vt_mk, List.getD_cons_zero, List.getD_cons_succ, T.asI_i, T.asR_r]
  refine Ev.bind (int_d c2 h2 [x.Lba, x.Lba, 0, 1, 3, -1] (by simp) (by simp)) (by omega) ?_
  rintro o ⟨r, c3, ⟨z, hz, rfl⟩, h3, rfl⟩
  refine Ev.ret ⟨x, z, hx, ?_, rfl⟩ _
  have := hx.2.2.1
  unfold inI at this ⊢
  simp at hz; omega
theorem sureOf_t {l : List Turn} {b : Int} {i : Nat} (h : sureOf l b = (i : Int)) : ∃ hi : i < l.length, isSure l b i l[i] = true := by
  unfold sureOf at h
  have key : ∀ n, n ≤ l.length → sureDn l b n = (i : Int) → ∃ hi : i < l.length, isSure l b i l[i] = true := by
    intro n
    induction n with
    | zero => intro _ h; unfold sureDn at h; omega
    | succ n ih =>
      intro hn h
      rw [sureDn_at (show n < l.length by omega)] at h
      cases hs : isSure l b n l[n] <;> rw [hs] at h
      · exact ih (by omega) h
      · have h : (n : Int) = (i : Int) := h
        obtain rfl : n = i := by omega
        exact ⟨by omega, hs⟩
  exact key l.length (Nat.le_refl _) h
theorem FnMusts_r (l : List Int) (hl : LF inB l) : Rn 20 N.laws_FnMusts [.v [.r (eIs l)]] ⟨[.b true], []⟩ := by
  refine Ev.rn (Ev.fn (fun k => laws_FnMusts_e k _) ?_)
  unfold laws_FnMusts_u
  refine Ev.call (big_r l) (by omega) ?_
  refine Ev.ite (fun _ => ⟨_, rfl, fun _ _ => rfl⟩) (fun hb => ?_)
  have hb : l.length ≤ Big := by
    simp only [Outs.t_mk, List.getD_cons_zero, T.asB_b] at hb
    have := of_decide_eq_false hb
    unfold Big; omega
  have hB : Big = 4294967296 := rfl
  refine Ev.bind (drawSure_d l hb) (by omega) ?_
  rintro o ⟨t, b, ht, hbi, rfl⟩
  have ht8 := ht.1
  have htf : ∀ x ∈ t, x.Fit := fun x hx => (ht.2 x hx).fit
  simp only [Outs.t_mk, Outs.vt_mk, List.getD_cons_zero, List.getD_cons_succ, T.asI_i, T.asR_r]
  refine Ev.call (sureOf_i t (by omega) htf b hbi) (by omega) ?_
  refine Ev.bind (drawMay_d l hb) (by omega) ?_
  rintro o ⟨frm, m, i, n, hm, hii, rfl⟩
  have hm8 := hm.1
  have hmf : ∀ x ∈ m, x.Fit := fun x hx => (hm.2 x hx).fit
  refine Ev.bind (drawWrites_d l hb) (by omega) ?_
  rintro o ⟨c, j, hc, hj, rfl⟩
  refine Ev.call (sureOf_s t (by omega) htf b hbi) (by omega) ?_
  simp only [Outs.t_mk, Outs.vt_mk, List.cons_append, List.nil_append, List.getD_cons_zero, List.getD_cons_succ, T.asI_i, T.asR_r, bne_self_eq_false, cond_false]
  refine Ev.call (mayBe_i frm m (by omega) hmf i hii n) (by omega) (Ev.call (mayBe_s frm m (by omega) hmf i hii n) (by omega) ?_)
  simp only [Outs.t_mk, List.getD_cons_zero, T.asB_b, beq_self_eq_true, Bool.not_true, cond_false]
  refine Ev.call (writes_i c hc.fit j hj) (by omega) (Ev.call (writes_s c hc.fit j hj) (by omega) ?_)
  simp only [Outs.t_mk, List.getD_cons_zero, T.asB_b, beq_self_eq_true, Bool.not_true, cond_false]
  refine Ev.call (wordOf_i c hc.fit j hj) (by omega) (Ev.call (wordOf_s c hc.fit j hj) (by omega) ?_)
  unfold laws_FnMusts_J1
  simp only [Outs.t_mk, List.getD_cons_zero, List.getD_cons_succ, T.asI_i, T.asR_r, bne_self_eq_false, cond_false]
  have hs := sureOf_b t b
  refine Ev.ite (fun h0 => ?_) (fun h0 => ?_)
  · have h0 := of_decide_eq_true h0
    refine Ev.call (mayBe_i 77 t (by omega) htf b hbi 77) (by omega) ⟨_, rfl, fun k hk => ?_⟩
    unfold mayBe
    rw [decide_eq_true h0]; rfl
  · have h0 := of_decide_eq_false h0
    obtain ⟨q, hq⟩ : ∃ q : Nat, sureOf t b = (q : Int) := ⟨(sureOf t b).toNat, by omega⟩
    obtain ⟨hqi, hsure⟩ := sureOf_t hq
    have hqf := ht.2 t[q] (List.getElem_mem hqi)
    unfold isSure at hsure
    rw [Bool.and_eq_true, Bool.and_eq_true] at hsure
    obtain ⟨⟨hcode, hwr⟩, _⟩ := hsure
    rw [hq]
    simp only [Int.toNat_natCast, at_map _ hqi, List.getD_cons_zero, List.getD_cons_succ, T.asI_i, T.asR_r, List.length_map]
    refine Ev.chk (by simp; omega) (Ev.call (writes_i t[q].C hqf.1.fit b hbi) (by omega) ?_)
    simp only [Outs.t_mk, List.getD_cons_zero, T.asB_b, hwr, cond_true]
    refine Ev.chk (by simp; omega) (Ev.call (wordOf_i t[q].C hqf.1.fit b hbi) (by omega) (Ev.call (mayBe_i 77 t (by omega) htf b hbi (wordOf t[q].C b)) (by omega) ?_))
    have hmay : mayBe 77 t b (wordOf t[q].C b) = true := by
      unfold mayBe
      rw [decide_eq_false (by omega), Bool.false_and, cond_false, hq, Int.toNat_natCast]
      rw [List.drop_eq_getElem_cons hqi, List.any_cons]
      have : mayB b (wordOf t[q].C b) t[q] = true := by
        unfold mayB within
        rw [hwr, beq_iff_eq.1 hcode]; simp
      rw [this, Bool.true_or]
    simp only [Outs.t_mk, List.getD_cons_zero, T.asB_b, hmay, cond_true]
    refine Ev.chk (by simp; omega) ⟨_, rfl, fun k hk => ?_⟩
    rw [hcode]

/-! ### One behind the other -/
theorem drawFollows_d (l : List Int) (h : l.length ≤ Big) : Ev (fun k => evalF E P0 k N.spec_DrawFollows [.v [.r (eIs l)]]) 11 (fun o => ∃ (g : Geo) (frm : List Int) (t : List Turn), frm.length ≤ 32 ∧ wL Turn.w t ≤ 1000 ∧ o = ⟨[.i g.N, .i g.S, .r (eIs frm), .r (eTurns t)], []⟩) := by
  refine Ev.fn (fun k => spec_DrawFollows_e k _) ?_
  unfold spec_DrawFollows_u
  refine Ev.bind (new_d l h) (by omega) ?_
  rintro o ⟨c, hc, rfl⟩
  simp only [Outs.t_mk, List.getD_cons_zero, List.getD_cons_succ, T.asI_i, T.asR_r, List.headD_cons]
  refine Ev.bind (l18Log_d c hc) (by omega) ?_
  rintro o ⟨r, c1, ⟨g, frm, t, hg, hfrm, ht, rfl⟩, h1, rfl⟩
  have hbl := blocks_b g
  have hfl : frm.length ≤ 32 := by have := hfrm.1; omega
  simp only [Outs.t_mk, Outs.vt_mk, List.getD_cons_zero, List.getD_cons_succ, T.asI_i, T.asR_r]
  refine Ev.bind (once_d c1 h1 30 (by omega)) (by omega) ?_
  rintro o ⟨r, c2, ⟨q, rfl⟩, h2, rfl⟩
  refine Ev.ite (fun _ => ?_) (fun _ => ?_)
  · refine Ev.ret ⟨g, frm, List.replicate 401 ⟨⟨0, 0, 0, 0, []⟩, ⟨0, 0, []⟩⟩, hfl, ?_, by simp only [eTurns, List.map_replicate]; rfl⟩ _
    have := wL_le Turn.w 0 (List.replicate 401 (⟨⟨0, 0, 0, 0, []⟩, ⟨0, 0, []⟩⟩ : Turn)) (fun x hx => by rw [(List.mem_replicate.1 hx).2]; exact Nat.le_refl _)
    rw [List.length_replicate] at this
    omega
  · exact Ev.ret ⟨g, frm, t, hfl, by have := ht.w; omega, rfl⟩ _
theorem drawSame_d (l : List Int) (h : l.length ≤ Big) : Ev (fun k => evalF E P0 k N.spec_DrawSameAns [.v [.r (eIs l)]]) 8 (fun o => ∃ a b : Ans, a.Vals.length ≤ 4 ∧ o = ⟨a.e ++ b.e, []⟩) := by
  refine Ev.fn (fun k => spec_DrawSameAns_e k _) ?_
  unfold spec_DrawSameAns_u
  refine Ev.bind (new_d l h) (by omega) ?_
  rintro o ⟨c, hc, rfl⟩
  simp only [Outs.t_mk, List.getD_cons_zero, List.getD_cons_succ, T.asI_i, T.asR_r, List.headD_cons]
  refine Ev.bind (below_d c hc 2 (by omega)) (by omega) ?_
  rintro o ⟨r, c1, ⟨x, hx, rfl⟩, h1, rfl⟩
  simp only [Outs.t_mk, Outs.vt_mk, List.getD_cons_zero, List.getD_cons_succ, T.asI_i, T.asR_r]
  refine Ev.bind (below_d c1 h1 2 (by omega)) (by omega) ?_
  rintro o ⟨r, c2, ⟨y, hy, rfl⟩, h2, rfl⟩
  simp only [Outs.t_mk, Outs.vt_mk, List.getD_cons_zero, List.getD_cons_succ, T.asI_i, T.asR_r]
  refine Ev.bind (sec_d c2 h2) (by omega) ?_
  rintro o ⟨r, c3, ⟨v, hv, rfl⟩, h3, rfl⟩
  have hv4 := hv.1
  simp only [Outs.t_mk, Outs.vt_mk, List.getD_cons_zero, List.getD_cons_succ, T.asI_i, T.asR_r]
  refine Ev.bind (once_d c3 h3 2 (by omega)) (by omega) ?_
  rintro o ⟨r, c4, ⟨q, rfl⟩, h4, rfl⟩
  simp only [Outs.t_mk, Outs.vt_mk, List.getD_cons_zero, List.getD_cons_succ, T.asI_i, T.asR_r]
  refine Ev.ite (fun _ => ?_) (fun _ => ?_)
  · refine Ev.call (copyAns_s ⟨x, y, v⟩ (show v.length ≤ Big by unfold Big; omega)) (by omega) ?_
    exact Ev.ret ⟨⟨x, y, v⟩, ⟨x, y, v⟩, hv4, rfl⟩ _
  · refine Ev.bind (below_d c4 h4 2 (by omega)) (by omega) ?_
    rintro o ⟨r, c5, ⟨x', hx', rfl⟩, h5, rfl⟩
    simp only [Outs.t_mk, Outs.vt_mk, List.getD_cons_zero, List.getD_cons_succ, T.asI_i, T.asR_r]
    refine Ev.bind (below_d c5 h5 2 (by omega)) (by omega) ?_
    rintro o ⟨r, c6, ⟨y', hy', rfl⟩, h6, rfl⟩
    refine Ev.chk (by simp; omega) ?_
    exact Ev.ret ⟨⟨x, y, v⟩, ⟨x', y', v⟩, hv4, rfl⟩ _
theorem sameAnss_r (a b : List Ans) (h : a.length ≤ Big) (hv : ∀ x ∈ a, x.Vals.length ≤ Big) (hl : a.length = b.length) : Rn 4 N.laws_sameAnss [.v [.r (eAnss a)], .v [.r (eAnss b)]] ⟨[.b (allN a.length fun i => sameAns (a.getD i default) (b.getD i default))], []⟩ := by
  refine Rn.of fun k hk => ?_
  unfold Big at h hk
  rw [laws_sameAnss_e]; unfold laws_sameAnss_u laws_sameAnss_U
  simp only [List.length_map, lenB, hl, beq_self_eq_true, Bool.not_true, cond_false]
  rw [← hl]
  refine (allN_loop a.length (fun i => sameAns (a.getD i default) (b.getD i default)) (some ⟨[.b true], []⟩) (by omega) (fun i hi G => ?_) (fun G => ?_) (by omega)).trans ((bifB _ _).trans (by rw [Bool.and_true]))
  · unfold laws_sameAnss_l1 laws_sameAnss_L1
    have hi' : i < b.length := by omega
    simp only [List.length_map, at_map _ hi, at_map _ hi', dlt hi, dlt hi', d0, Bool.and_self, chk_true, cond_true, Int.toNat_natCast, List.getD_cons_zero, List.getD_cons_succ, T.asI_i, T.asR_r]
    rw [sameAns_r a[i] b[i] (hv _ (List.getElem_mem hi)) k (by unfold Big; omega), bindO_some, getD_at hi, getD_at hi']
    simp only [Outs.t_mk, List.getD_cons_zero, T.asB_b]
    exact bifN _ _ _
  · unfold laws_sameAnss_l1 laws_sameAnss_L1
    simp only [List.length_map, dll, cond_false]
theorem FnOrders_r (l : List Int) (hl : LF inB l) : Rn 20 N.laws_FnOrders [.v [.r (eIs l)]] ⟨[.b true], []⟩ := by
  refine Ev.rn (Ev.fn (fun k => laws_FnOrders_e k _) ?_)
  unfold laws_FnOrders_u
  refine Ev.call (big_r l) (by omega) ?_
  refine Ev.ite (fun _ => ⟨_, rfl, fun _ _ => rfl⟩) (fun hb => ?_)
  have hb : l.length ≤ Big := by
    simp only [Outs.t_mk, List.getD_cons_zero, T.asB_b] at hb
    have := of_decide_eq_false hb
    unfold Big; omega
  have hB : Big = 4294967296 := rfl
  refine Ev.bind (drawFollows_d l hb) (by omega) ?_
  rintro o ⟨g, frm, t, hfl, htw, rfl⟩
  have htb : wL Turn.w t ≤ Big := by omega
  have htl := wL_len Turn.w t
  simp only [Outs.t_mk, Outs.vt_mk, List.getD_cons_zero, List.getD_cons_succ, T.asI_i, T.asR_r]
  refine Ev.call (follows_i g frm t (by omega) htb) (by omega) (Ev.call (after_i g frm t (by omega) htb) (by omega) ?_)
  refine Ev.bind (drawSame_d l hb) (by omega) ?_
  rintro o ⟨a, b, hav, rfl⟩
  have hcw := cs_w htb
  refine Ev.call (cmdsOf_i t htb) (by omega) ?_
  simp only [Outs.t_mk, List.getD_cons_zero, T.asR_r]
  refine Ev.call (doCmds_i g frm (t.map Turn.C) (by omega) (by simp; omega) hcw) (by omega) (Ev.call (follows_s g frm t (by omega) htb) (by omega) ?_)
  simp only [Outs.t_mk, List.cons_append, List.nil_append, List.getD_cons_zero, List.getD_cons_succ, T.asI_i, T.asB_b, T.asR_r, beq_self_eq_true, Bool.not_true, cond_false]
  have hd : (doCs g frm (t.map Turn.C)).1.length = frm.length := (doAll_len g frm _).1
  refine Ev.call (after_s g frm t (by omega) htb) (by omega) ?_
  simp only [Outs.t_mk, List.getD_cons_zero, T.asR_r]
  refine Ev.call (sameInts_r (doCs g frm (t.map Turn.C)).1 (doCs g frm (t.map Turn.C)).1 (by omega)) (by omega) ?_
  simp only [Outs.t_mk, List.getD_cons_zero, T.asB_b, beq_self_eq_true, Bool.not_true, cond_false]
  refine Ev.call (sameInts_r (doCs g frm (t.map Turn.C)).1 (doCs g frm (t.map Turn.C)).1 (by omega)) (by omega) ?_
  simp only [Outs.t_mk, List.getD_cons_zero, T.asB_b, beq_self_eq_true, Bool.not_true, cond_false]
  refine Ev.call (sameAns_i a b (by omega)) (by omega) (Ev.call (sameAns_r a b (by omega)) (by omega) ?_)
  unfold laws_FnOrders_J1
  simp only [Outs.t_mk, List.getD_cons_zero, List.getD_cons_succ, T.asB_b, T.asR_r, beq_self_eq_true, Bool.not_true, cond_false, List.length_map]
  refine Ev.ite (fun _ => ⟨_, rfl, fun _ _ => rfl⟩) (fun h4 => ?_)
  have h4 := of_decide_eq_false h4
  have hlen : (doCs g frm (t.map Turn.C)).2.length = t.length := by
    unfold doCs; rw [(doAll_len g frm _).2, List.length_take, List.length_map]; omega
  refine Ev.call (ansOf_i t htb) (by omega) ?_
  simp only [Outs.t_mk, List.getD_cons_zero, T.asR_r]
  refine Ev.call (sameAnss_r (doCs g frm (t.map Turn.C)).2 (t.map Turn.A) (by omega) (fun x hx => by
    have := doAll_vals g frm _ x hx
    omega) (by simp; omega)) (by omega) ⟨_, rfl, fun k hk => ?_⟩
  have e : follows g frm t = allN (doCs g frm (t.map Turn.C)).2.length (fun i => sameAns ((doCs g frm (t.map Turn.C)).2.getD i default) ((t.map Turn.A).getD i default)) := by
    unfold follows
    rw [decide_eq_true (by omega), cond_true, hlen]
    unfold allN
    rw [Bool.eq_iff_iff, List.all_eq_true, List.all_eq_true]
    have key : ∀ i, i ∈ List.range t.length → (t.map Turn.A).getD i default = (t.getD i default).A := fun i hi => by
      have hi := List.mem_range.1 hi
      rw [getD_at hi, getD_at (show i < (t.map Turn.A).length by simpa using hi), List.getElem_map]
    exact ⟨fun h i hi => by rw [key i hi]; exact h i hi, fun h i hi => by have := h i hi; rw [key i hi] at this; exact this⟩
  simp only [Outs.t_mk, List.getD_cons_zero, T.asB_b, e, beq_self_eq_true]
end Go.Proofs.Ytahlghlpdcfbgaa.Ev
