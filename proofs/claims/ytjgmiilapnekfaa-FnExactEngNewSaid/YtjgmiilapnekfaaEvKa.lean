/- Rows that are own with all that they lead to: what a store, an append, a make does to one. No condition. -/
import Derived.Test.YtjgmiilapnekfaaEvK
namespace Go.Proofs.Ytjgmiilapnekfaa.Ev
open Go
set_option linter.unusedVariables false

section
variable {P : Program} {E : Env} {β : Base} {L : List Nat} {m : Mem} {env : Names} {w w' : World} {S : Nat → Prop}

def catL (fps : Nat → List Nat) : Nat → List Nat
  | 0 => []
  | N + 1 => catL fps N ++ fps N
theorem mem_catL {fps : Nat → List Nat} {b : Nat} : ∀ {N : Nat}, b ∈ catL fps N ↔ ∃ p, p < N ∧ b ∈ fps p
  | 0 => by simp [catL]
  | N + 1 => by
    rw [catL, List.mem_append, mem_catL]
    constructor
    · rintro (⟨p, h1, h2⟩ | h)
      · exact ⟨p, by omega, h2⟩
      · exact ⟨N, by omega, h⟩
    · rintro ⟨p, h1, h2⟩
      by_cases hp : p = N
      · subst hp; exact .inr h2
      · exact .inl ⟨p, by omega, h2⟩
theorem catL_nodup {fps : Nat → List Nat} : ∀ {N : Nat}, (∀ p, p < N → (fps p).Nodup) → (∀ p q b, p < N → q < N → b ∈ fps p → b ∈ fps q → p = q) → (catL fps N).Nodup
  | 0, _, _ => List.nodup_nil
  | N + 1, h1, h2 => List.nodup_append.2 ⟨catL_nodup (fun p hp => h1 p (by omega)) (fun p q b hp hq => h2 p q b (by omega) (by omega)), h1 N (by omega), fun x hx y hy hxy => by
      subst hxy
      obtain ⟨p, hp, hpx⟩ := mem_catL.1 hx
      have := h2 p N x (by omega) (by omega) hpx hy
      omega⟩
theorem Foot.ex (own : Option Nat) (N : Nat) (fps : Nat → List Nat) (hn : ∀ p, p < N → (fps p).Nodup) (d1 : ∀ p b, p < N → b ∈ fps p → own ≠ some b) (d2 : ∀ p q b, p < N → q < N → b ∈ fps p → b ∈ fps q → p = q) : ∃ bs, Foot own N fps bs := by
  refine ⟨own.toList ++ catL fps N, fun b => ?_, ?_, d1, d2⟩
  · rw [List.mem_append, mem_catL]; simp
  · refine List.nodup_append.2 ⟨by cases own <;> simp, catL_nodup hn d2, fun x hx y hy hxy => ?_⟩
    subst hxy
    obtain ⟨p, hp, h⟩ := mem_catL.1 hy
    exact d1 p x hp h (by simpa using hx)
theorem RC.dc {ty : Ty} {t : T} {v : Value} (hf : ty.flatB = true) (h : RC E w S ty t v) : DC E w ty t v [] := by
  cases h with
  | int => exact .int
  | bool => exact .bool
  | str => exact .str
  | nl => cases hf
  | emp => cases hf
  | row => cases hf
theorem DC.flat0 {ty : Ty} {t : T} {v : Value} {bs : List Nat} (hf : ty.flatB = true) (h : DC E w ty t v bs) : bs = [] ∧ ∀ S, RC E w S ty t v := by
  cases h with
  | int => exact ⟨rfl, fun _ => .int⟩
  | bool => exact ⟨rfl, fun _ => .bool⟩
  | str => exact ⟨rfl, fun _ => .str⟩
  | row => cases hf
theorem plain_at {e j : Nat} (h : E.plain e = true) (hj : j < E.sz e) : (tyAt E e j).flatB = true := by
  have hj' : j < (E.flat e).length := hj
  unfold tyAt
  rw [List.getD_eq_getElem?_getD, List.getElem?_eq_getElem hj', Option.getD_some]
  exact List.all_eq_true.1 h _ (List.getElem_mem hj')
/-- A row of cells that lead nowhere. -/
theorem DC.plain {e : Nat} (hpl : E.plain e = true) {es : List (List T)} {v : Value} {xs : List Value} (ho : w.ownsRow 0 e (E.sz e) v es.length xs) (hr : RowCells E w S e es xs) : DC E w (.row e) (.r es) v v.ownBlock.toList := by
  refine .row (fun _ => []) ho (fun i j hi hj => ?_) ⟨fun b => by simp, by cases v.ownBlock <;> simp, fun p b _ h => by simp at h, fun p q b _ _ h => by simp at h⟩
  obtain ⟨u, hu, hc⟩ := hr i j hi hj
  rw [hu]; exact hc.dc (plain_at hpl hj)
theorem DC.unplain {e : Nat} (hpl : E.plain e = true) {t : T} {v : Value} {bs : List Nat} (h : DC E w (.row e) t v bs) :
    ∃ es xs, t = .r es ∧ w.ownsRow 0 e (E.sz e) v es.length xs ∧ (∀ S, RowCells E w S e es xs) ∧ ∀ b, b ∈ bs ↔ v.ownBlock = some b := by
  cases h with
  | @row e es v xs bs fps ho hc hm =>
    refine ⟨es, xs, rfl, ho, fun S i j hi hj => ?_, fun b => ?_⟩
    · have hx : i * E.sz e + j < xs.length := by rw [ho.1]; exact idx_lt hi hj
      have := (hc i j hi hj).flat0 (plain_at hpl hj)
      rw [List.getElem?_eq_getElem hx] at this ⊢
      exact ⟨_, rfl, this.2 S⟩
    · rw [hm.mem]
      refine ⟨fun h => ?_, .inl⟩
      rcases h with h | ⟨p, hp, hb⟩
      · exact h
      · have hsz : 0 < E.sz e := by
          rcases Nat.eq_zero_or_pos (E.sz e) with h0 | h0
          · rw [h0] at hp; simp at hp
          · exact h0
        have hpi : p / E.sz e < es.length := Nat.div_lt_of_lt_mul (by rw [Nat.mul_comm]; exact hp)
        have hpj := Nat.mod_lt p hsz
        have := ((hc _ _ hpi hpj).flat0 (plain_at hpl hpj)).1
        rw [Nat.div_add_mod'] at this
        rw [this] at hb; cases hb
/-- What is taken with all that it leads to, cell by cell. -/
theorem BCs_dc : ∀ {tys : List Ty} {ts : List T} {vs : List Value} {bs : List Nat}, BCs E w S (tys.map fun | .row _ => true | _ => false) (deepT E tys) ts vs bs → bs.Nodup →
    ts.length = tys.length ∧ vs.length = tys.length ∧ ∃ nfp : Nat → List Nat, (∀ j, j < tys.length → DC E w (tys.getD j .bool) (ts.getD j (.i 0)) (vs[j]?.getD undef) (nfp j)) ∧ (∀ j b, b ∈ nfp j → b ∈ bs) ∧ ∀ i j b, b ∈ nfp i → b ∈ nfp j → i = j
  | [], [], [], bs, h, _ => ⟨rfl, rfl, fun _ => [], fun j hj => by simp at hj, fun j b h => by simp at h, fun i j b h => by simp at h⟩
  | ty :: tys, t :: ts, v :: vs, bs, h, hnd => by
    have h : ∃ b1 b2, bs = b1 ++ b2 ∧ DC E w ty t v b1 ∧ BCs E w S (tys.map fun | .row _ => true | _ => false) (deepT E tys) ts vs b2 := by
      cases ty with
      | row e =>
        obtain ⟨b1, b2, h1, h2, h3⟩ := h
        refine ⟨b1, b2, h1, ?_, h3⟩
        have h2 : BC E w S true (bif E.plain e then .row e else .deep e) t v b1 := h2
        cases hpl : E.plain e with
        | true =>
          rw [hpl] at h2
          obtain ⟨⟨es, xs, rfl, ho, hr⟩, rfl⟩ := h2
          exact DC.plain hpl ho hr
        | false =>
          rw [hpl] at h2
          obtain ⟨es, rfl, hd⟩ := h2
          exact hd
      | int k => obtain ⟨b1, b2, h1, h2, h3⟩ := h; obtain ⟨hc, rfl⟩ := h2; exact ⟨[], b2, h1, hc.dc rfl, h3⟩
      | bool => obtain ⟨b1, b2, h1, h2, h3⟩ := h; obtain ⟨hc, rfl⟩ := h2; exact ⟨[], b2, h1, hc.dc rfl, h3⟩
      | str => obtain ⟨b1, b2, h1, h2, h3⟩ := h; obtain ⟨hc, rfl⟩ := h2; exact ⟨[], b2, h1, hc.dc rfl, h3⟩
      | ptr e => obtain ⟨b1, b2, h1, h2, h3⟩ := h; obtain ⟨hc, _⟩ := h2; cases hc
      | deep e => obtain ⟨b1, b2, h1, h2, h3⟩ := h; obtain ⟨hc, _⟩ := h2; cases hc
    obtain ⟨b1, b2, rfl, h1, h2⟩ := h
    obtain ⟨hn1, hn2, hn3⟩ := List.nodup_append.1 hnd
    obtain ⟨l1, l2, nfp, k1, k2, k3⟩ := BCs_dc h2 hn2
    refine ⟨by simp [l1], by simp [l2], fun | 0 => b1 | j + 1 => nfp j, fun j hj => ?_, fun j b hb => ?_, fun i j b hi hj => ?_⟩
    · cases j with
      | zero => exact h1
      | succ j => simpa using k1 j (by simpa using hj)
    · cases j with
      | zero => exact List.mem_append_left _ hb
      | succ j => exact List.mem_append_right _ (k2 j b hb)
    · cases i with
      | zero => cases j with
        | zero => rfl
        | succ j => exact (hn3 b hi b (k2 j b hj) rfl).elim
      | succ i => cases j with
        | zero => exact (hn3 b hj b (k2 i b hi) rfl).elim
        | succ j => rw [k3 i j b hi hj]
  | [], [], _ :: _, _, h, _ => h.elim
  | [], _ :: _, _, _, h, _ => h.elim
  | ty :: _, [], _, _, h, _ => by cases ty <;> exact h.elim
  | ty :: _, _ :: _, [], _, h, _ => by cases ty <;> exact h.elim
theorem packsD_ok (h : Heap E β L m env w) {tys : List Ty} {as : List A} {vs : List Value} (hv : RVs E env w (stills β L m env w) as vs) {ts : List T} {m' : Mem} {p p' : FP} (hp : (packsD E tys as).ev m p = some (ts, m', p')) :
    ∃ (bs : List Nat) (nfp : Nat → List Nat), Heap E β (L ++ bs) m' env w ∧ Prog β env w L m (L ++ bs) m' ∧ ts.length = tys.length ∧ vs.length = tys.length ∧
      (∀ j, j < tys.length → DC E w (tys.getD j .bool) (ts.getD j (.i 0)) (vs[j]?.getD undef) (nfp j)) ∧ (∀ j b, b ∈ nfp j → b ∈ bs) ∧ ∀ i j b, b ∈ nfp i → b ∈ nfp j → i = j := by
  unfold packsD at hp
  obtain ⟨bs, h1, h2, h3⟩ := gives_ok h hv hp
  obtain ⟨l1, l2, nfp, k1, k2, k3⟩ := BCs_dc h3 (List.nodup_append.1 h1.nodup).2.1
  exact ⟨bs, nfp, h1, h2, l1, l2, k1, k2, k3⟩
theorem idx_in {i i' o k j sz : Nat} (hk : o + k ≤ sz) (hj : j < sz) : (i * sz + o ≤ i' * sz + j ∧ i' * sz + j < i * sz + o + k) ↔ (i' = i ∧ o ≤ j ∧ j < o + k) := by
  constructor
  · rintro ⟨h1, h2⟩
    have : i' = i := by
      rcases Nat.lt_trichotomy i' i with h | h | h
      · have := Nat.mul_le_mul_right sz (show i' + 1 ≤ i from h)
        rw [Nat.add_mul] at this; omega
      · exact h
      · have := Nat.mul_le_mul_right sz (show i + 1 ≤ i' from h)
        rw [Nat.add_mul] at this; omega
    subst this
    exact ⟨rfl, by omega, by omega⟩
  · rintro ⟨rfl, h1, h2⟩; omega
theorem tAt_set {es : List (List T)} {i o i' j : Nat} {ts : List T} (hi : i < es.length) :
    tAt (es.set i (spliceT (es.getD i []) o ts)) i' j = if i' = i ∧ o ≤ j ∧ j < o + ts.length then ts.getD (j - o) (.i 0) else tAt es i' j := by
  by_cases hii : i' = i
  · subst hii
    have hat : tAt (es.set i' (spliceT (es.getD i' []) o ts)) i' j = (spliceT (es.getD i' []) o ts).getD j (.i 0) := by
      simp [tAt, List.getD_eq_getElem?_getD, hi]
    rw [hat, spliceT_get]
    simp only [true_and]; rfl
  · rw [if_neg (fun h => hii h.1)]
    simp [tAt, List.getD_eq_getElem?_getD, Ne.symm hii]
/-- Cells of an own row are stored. -/
theorem row_stored (hT : tabOk P E = true) {t : Nat} (hk : E.known t = true) {v : Value} (hv : v.cells.size = E.sz t) (h1 : ∀ u, u ∈ v.cells.toList → u.oneCell' = true) {g cap e i o n : Nat} {xs : List Value}
    (ho : w.ownsRow 0 e (E.sz e) (.slice (some ⟨g, 0, none⟩) n cap) n xs) (hi : i < n) (hle : o + E.sz t ≤ E.sz e) :
    ∃ w' ys, (Instr.storeAt t (.pointer (some ⟨g, i * E.sz e + o, none⟩)) v).run P w = .ok () w' ∧ w'.ownsRow 0 e (E.sz e) (.slice (some ⟨g, 0, none⟩) n cap) n ys ∧
      (∀ k, k < n * E.sz e → ys[k]? = if i * E.sz e + o ≤ k ∧ k < i * E.sz e + o + E.sz t then v.cells.toList[k - (i * E.sz e + o)]? else xs[k]?) ∧
      (∀ b, b ≠ g → w'.heap[b]? = w.heap[b]?) ∧ w'.heap.size = w.heap.size ∧ w'.os = w.os ∧ w'.tape = w.tape ∧ w'.output = w.output := by
  rcases ho.2 with ⟨h0, _⟩ | ⟨g', cap', cur, h0, hb0, hgg, hnc, hcm, hcs, htake⟩
  · cases h0
  · cases h0
    have hin : i * E.sz e + o + E.sz t ≤ n * E.sz e := by
      have := Nat.mul_le_mul_right (E.sz e) (show i + 1 ≤ n from hi)
      rw [Nat.add_mul] at this; omega
    have hcap : n * E.sz e ≤ cap * E.sz e := Nat.mul_le_mul_right _ hnc
    have hrun := run_storeAt hT hk hv h1 hgg (o := i * E.sz e + o) (by omega)
    have hvl : v.cells.toList.length = E.sz t := by simpa using hv
    have hfit : i * E.sz e + o + v.cells.toList.length ≤ cur.toList.length := by rw [hvl, Array.length_toList, hcs]; omega
    have hcut := fun k => cut_get cur.toList v.cells.toList (i * E.sz e + o) k hfit
    rw [hvl] at hcut
    generalize hnew : cur.toList.take (i * E.sz e + o) ++ v.cells.toList ++ cur.toList.drop (i * E.sz e + o + E.sz t) = new at hcut hrun
    have hnl : new.length = cur.size := by
      rw [← hnew]; simp only [List.length_append, List.length_take, List.length_drop, hvl, Array.length_toList]; rw [hcs]; omega
    refine ⟨_, new.take (n * E.sz e), hrun, ⟨?_, .inr ⟨g, cap, new.toArray, rfl, Nat.zero_le _, setRow_heap w g cur _ e _ hgg, hnc, hcm, ?_, ?_⟩⟩, fun k hk => ?_, fun b hb => setRow_other w g b _ hb, by simp, rfl, rfl, rfl⟩
    · rw [List.length_take, hnl, hcs]; omega
    · simp [hnl, hcs]
    · rfl
    · rw [List.getElem?_take, if_pos hk, hcut]
      split
      · rfl
      · rw [← htake, List.getElem?_take, if_pos hk]
end

/-! Rows that are own with all that they lead to: each operation on them. No condition. -/
section
variable {P : Program} {E : Env} {β : Base} {L : List Nat} {m : Mem} {env : Names} {w w' : World} {S : Nat → Prop}

theorem M.get_some {α : Type} {n : Nm} {k : Option O → M α} {m : Mem} {p : FP} {q : α × Mem × FP} (h : (M.get n k).ev m p = some q) : ∃ p', (k (m n)).ev m p' = some q := ⟨_, h⟩
/-- A store into a deep row. -/
theorem storeD_ok (hT : tabOk P E = true) (h : Heap E β [] m env w) {t : Nat} {y : A} {n : Nm} {e i o : Nat} {vx vy : Value} (hx : RV E env w (stills β [] m env w) (.ep n e i o) vx) (hy : RV E env w (stills β [] m env w) y vy)
    {a : A} {m' : Mem} {p p' : FP} (hp : (storeD E t y n e i o).ev m p = some (a, m', p')) :
    a = .skip ∧ ∃ w' env', (Instr.storeAt t vx vy).run P w = .ok () w' ∧ Heap E β [] m' env' w' ∧ env.le env' ∧ Still w w' (stills β [] m env w) (stills β [] m' env' w') := by
  unfold storeD at hp
  obtain ⟨hc, hp1⟩ := M.bif_some hp
  obtain ⟨hc1, hsol⟩ := and_some hc
  obtain ⟨hc2, hlen⟩ := and_some hc1
  obtain ⟨hk, hle⟩ := and_some hc2
  have hle := len_pos hle
  have hlen := Nat.eq_of_beq_eq_true hlen
  obtain ⟨ts, m1, p1, h1, hq⟩ := M.bind_some hp1
  have hyc := RV_cells hsol hy
  obtain ⟨bs, nfp, g1, g2, l1, l2, k1, k2, k3⟩ := packsD_ok h hyc h1
  rw [List.nil_append] at g1 g2
  have hty : (((E.flat e).drop o).take (E.sz t)).length = E.sz t := by simp [Env.sz] at hle ⊢; omega
  simp only [hty] at l1 l2 k1
  have key : ∃ es hh, m1 n = some (.deep e es hh) ∧ (∀ i' j' n', hh = some (i', j', n') → i' = i ∧ o ≤ j' ∧ j' < o + E.sz t) ∧ a = .skip ∧ m' = m1.put n (.deep e (es.set i (spliceT (es.getD i []) o ts)) none) := by
    obtain ⟨p2, hq⟩ := M.get_some hq
    split at hq
    · rename_i e' es hn
      obtain ⟨he, hq1⟩ := M.bif_some hq
      cases Nat.eq_of_beq_eq_true he
      cases hq1
      exact ⟨es, none, hn, (fun _ _ _ h => by cases h), rfl, rfl⟩
    · rename_i e' es i' j' n' hn
      obtain ⟨he, hq1⟩ := M.bif_some hq
      obtain ⟨he1, he3⟩ := and_some he
      obtain ⟨he1, he2⟩ := and_some he1
      cases Nat.eq_of_beq_eq_true he1
      have he2 := Nat.eq_of_beq_eq_true he2
      have he3 := Nat.eq_of_beq_eq_true he3
      obtain ⟨hi, hq2⟩ := M.chk_some hq1
      have hi := Nat.eq_of_beq_eq_true hi
      cases hq2
      exact ⟨es, _, hn, (fun _ _ _ h => by cases h; exact ⟨hi, by omega, by omega⟩), rfl, rfl⟩
    · cases hq
  obtain ⟨es, hh, hn, hhole, rfl, rfl⟩ := key
  refine ⟨rfl, ?_⟩
  obtain ⟨v, xs, fps, e1, e2, e3, e4, e5⟩ := g1.obj n _ hn
  obtain ⟨g, len, cap, f1, hi, rfl⟩ := hx
  rw [e1] at f1; cases f1
  have hlen' : len = es.length := by
    rcases e2.2 with ⟨h0, _⟩ | ⟨g', cap', cur, h0, _⟩
    · cases h0
    · cases h0; rfl
  subst hlen'
  obtain ⟨w', ys, hrun, ho, hys, hother, hsize, hos, htape, hout⟩ := row_stored (P := P) hT hk (v := vy) (by simpa using l2) (RVs_one hsol hyc) e2 hi hle
  have hownF : ∀ b, owns m1 env n b ↔ b ∈ env.fp n := fun b => by simp [owns, hn]
  have hgF : g ∈ env.fp n := (e5.mem g).2 (.inl rfl)
  have hnew : ∀ j b, b ∈ nfp j → b ∉ env.fp n := fun j b hb hF => (g1.inb n b ((hownF b).2 hF)).2.2 (k2 j b hb)
  have hin : ∀ i' j, j < E.sz e → ((i * E.sz e + o ≤ i' * E.sz e + j ∧ i' * E.sz e + j < i * E.sz e + o + E.sz t) ↔ (i' = i ∧ o ≤ j ∧ j < o + E.sz t)) := fun i' j hj => idx_in hle hj
  let fps' : Nat → List Nat := fun q => if i * E.sz e + o ≤ q ∧ q < i * E.sz e + o + E.sz t then nfp (q - (i * E.sz e + o)) else fps q
  have hfoot : ∃ F, Foot (some g) (es.length * E.sz e) fps' F := by
    refine Foot.ex _ _ _ (fun q hq => ?_) (fun q b hq hb => ?_) (fun q r b hq hr hb hb' => ?_)
    · simp only [fps']
      split
      · rename_i hr; exact (k1 _ (by omega)).nodup
      · rename_i hr
        have hsz : 0 < E.sz e := by have := known_pos hk; omega
        have hpi : q / E.sz e < es.length := Nat.div_lt_of_lt_mul (by rw [Nat.mul_comm]; exact hq)
        have hpj := Nat.mod_lt q hsz
        have := e3 (q / E.sz e) (q % E.sz e) hpi hpj (fun n' hh' => by
          obtain ⟨a1, a2, a3⟩ := hhole _ _ _ hh'
          have := (hin (q / E.sz e) (q % E.sz e) hpj).2 ⟨a1, a2, a3⟩
          rw [Nat.div_add_mod'] at this; exact hr this) (fun k n' hh' => by have := hhole _ _ _ hh'; omega)
        rw [Nat.div_add_mod'] at this; exact this.nodup
    · simp only [fps'] at hb
      split at hb
      · intro hg; cases hg; exact hnew _ _ hb hgF
      · exact e5.d1 q b hq hb
    · simp only [fps'] at hb hb'
      split at hb <;> split at hb'
      · have := k3 _ _ b hb hb'; omega
      · exact (hnew _ _ hb ((e5.mem b).2 (.inr ⟨r, hr, hb'⟩))).elim
      · exact (hnew _ _ hb' ((e5.mem b).2 (.inr ⟨q, hq, hb⟩))).elim
      · exact e5.d2 q r b hq hr hb hb'
  obtain ⟨F, hF⟩ := hfoot
  have hown' : ∀ b, owns (m1.put n (.deep e (es.set i (spliceT (es.getD i []) o ts)) none)) (env.putD n (.slice (some ⟨g, 0, none⟩) es.length cap) F) n b ↔ b ∈ F := fun b => by simp [owns, put_self, Names.putD_fp]
  have hFb : ∀ b, b ∈ F → owns m1 env n b ∨ b ∈ bs := fun b hb => by
    rcases (hF.mem b).1 hb with h5 | ⟨q, hq, h5⟩
    · cases h5; exact .inl ((hownF g).2 hgF)
    · simp only [fps'] at h5
      split at h5
      · exact .inr (k2 _ b h5)
      · exact .inl ((hownF b).2 ((e5.mem b).2 (.inr ⟨q, hq, h5⟩)))
  have key := g1.oneD (w' := w') (L' := []) n (.deep e (es.set i (spliceT (es.getD i []) o ts)) none) _ F (.inr e1) (fun hst => by
      refine ⟨_, ys, fps', Names.putD_self _ _ _ _, by rw [List.length_set]; exact ho, fun i' j hi' hj _ _ => ?_, fun _ _ _ h => (by cases h), by rw [List.length_set, Names.putD_fp]; exact hF⟩
      rw [List.length_set] at hi'
      rw [tAt_set hi, l1, hys _ (idx_lt hi' hj)]
      simp only [fps']
      by_cases hir : i' = i ∧ o ≤ j ∧ j < o + E.sz t
      · rw [if_pos hir, if_pos ((hin i' j hj).2 hir), if_pos ((hin i' j hj).2 hir)]
        obtain ⟨rfl, a2, a3⟩ := hir
        have hd := k1 (j - o) (by omega)
        have htt : (((E.flat e).drop o).take (E.sz t)).getD (j - o) .bool = tyAt E e j := by
          simp only [tyAt, List.getD_eq_getElem?_getD, List.getElem?_take, List.getElem?_drop]
          rw [if_pos (by omega)]; congr 2; omega
        rw [htt] at hd
        rw [show i' * E.sz e + j - (i' * E.sz e + o) = j - o by omega]
        exact hd.mono fun b hb => hother b fun e => hnew _ _ hb (by rw [e]; exact hgF)
      · rw [if_neg hir, if_neg (fun h => hir ((hin i' j hj).1 h)), if_neg (fun h => hir ((hin i' j hj).1 h))]
        exact (e3 i' j hi' hj (fun n' hh' => hir (hhole _ _ _ hh')) (fun k n' hh' => by have := hhole _ _ _ hh'; omega)).mono fun b hb => hother b fun e => e5.d1 _ b (idx_lt hi' hj) hb (by rw [e]; rfl))
    (fun b hb => by simp at hb) (fun b hb => by simp at hb) List.nodup_nil
    (fun b hb => by
      have hb := (hown' b).1 hb
      rcases hFb b hb with h5 | h5
      · exact ⟨by rw [hsize]; exact (g1.inb _ _ h5).1, .inl h5⟩
      · exact ⟨by rw [hsize]; exact (g1.inL _ h5).1, .inr (.inr h5)⟩)
    (fun b _ hb _ => hother b fun e => hb ((hownF b).2 (by rw [e]; exact hgF))) hos htape hout (by rw [hsize]; exact Nat.le_refl _)
  exact ⟨w', _, hrun, key.1, key.2.1, g2.still.trans key.2.2⟩
theorem RV.mono' {env' : Names} {S S' : Nat → Prop} (he : env.le env') (hs : Still w w S S') {a : A} {v : Value} (h : RV E env w S a v) : RV E env' w S' a v := h.mono he hs
theorem movable_same : ∀ {tys : List Ty} {as : List A} {m m' : Mem} {p p' : FP} {b : Bool}, (movable E tys as).ev m p = some (b, m', p') → m = m'
  | [], _, _, _, _, _, _, h => by unfold movable at h; cases h; rfl
  | ty :: tys, [], _, _, _, _, _, h => by cases ty <;> (unfold movable at h; cases h; rfl)
  | ty :: tys, a :: as, m, m', p, p', b, h => by
    have hrec := fun {p p'} => movable_same (tys := tys) (as := as) (m := m) (m' := m') (p := p) (p' := p') (b := b)
    cases ty with
    | row e => cases a with
      | ref n =>
        unfold movable at h
        obtain ⟨q, h⟩ := M.get_some h
        cases hn : m n with
        | none => rw [hn] at h; cases h; rfl
        | some o =>
          rw [hn] at h
          cases o with
          | row e' d es => cases d with
            | true => cases hpl : E.plain e <;> rw [hpl] at h <;> first | exact hrec h | (cases h; rfl)
            | false => cases h; rfl
          | deep e' es hh => cases hh with
            | none => exact hrec h
            | some _ => cases h; rfl
          | _ => cases h; rfl
      | nil _ => exact hrec h
      | _ => cases h; rfl
    | _ => exact hrec h
theorem storeX_ok (hT : tabOk P E = true) (h : Heap E β [] m env w) {t : Nat} {x y : A} {vx vy : Value} (hx : RV E env w (stills β [] m env w) x vx) (hy : RV E env w (stills β [] m env w) y vy) {a : A} {m' : Mem} {p p' : FP}
    (hp : (storeX E t y x).ev m p = some (a, m', p')) :
    a = .skip ∧ ∃ w' env', (Instr.storeAt t vx vy).run P w = .ok () w' ∧ Heap E β [] m' env' w' ∧ env.le env' ∧ Still w w' (stills β [] m env w) (stills β [] m' env' w') := by
  unfold storeX at hp
  split at hp
  · rename_i n e i o
    obtain ⟨q, hp⟩ := M.get_some hp
    split at hp
    · obtain ⟨b, m1, p1, h1, hq⟩ := M.bind_some hp
      cases movable_same h1
      cases b with
      | true => exact storeD_ok hT h hx hy hq
      | false =>
        obtain ⟨_, m2, p2, h2, hq2⟩ := M.bind_some (show ((M.lowD n).bind fun _ => storeM E t y (.ep n e i o)).ev m p1 = _ from hq)
        obtain ⟨g1, g2⟩ := h.lowD h2
        obtain ⟨rfl, w', env', k1, k2, k3, k4⟩ := storeM_ok hT g1 (hx.mono' (Names.le_refl _) g2.still) (hy.mono' (Names.le_refl _) g2.still) hq2
        exact ⟨rfl, w', env', k1, k2, k3, g2.still.trans k4⟩
    · exact storeM_ok hT h hx hy hp
  · exact storeM_ok hT h hx hy hp
end

/-! Rows that are own with all that they lead to: a cell is taken out and put back. No condition. -/
section
variable {P : Program} {E : Env} {β : Base} {L : List Nat} {m : Mem} {env : Names} {w w' : World} {S : Nat → Prop}

theorem put_comm (m : Mem) {n d : Nm} (a b : O) (h : n ≠ d) : (m.put n a).put d b = (m.put d b).put n a := by
  funext x
  by_cases hn : x = n
  · subst hn; rw [put_ne _ _ h, put_self, put_self]
  · by_cases hd : x = d
    · subst hd; rw [put_self, put_ne _ _ hn, put_self]
    · rw [put_ne _ _ hd, put_ne _ _ hn, put_ne _ _ hn, put_ne _ _ hd]
theorem Heap.relist {L' : List Nat} (h : Heap E β L m env w) (hm : ∀ b, b ∈ L ↔ b ∈ L') (hnd : L'.Nodup) : Heap E β L' m env w ∧ stills β L' m env w = stills β L m env w := by
  have hs : stills β L' m env w = stills β L m env w := by
    funext b; unfold stills; rw [hm b]
  refine ⟨⟨h.dom, fun n o hn => by rw [hs]; exact h.obj n o hn, h.apart, fun n b hb => ?_, fun b hb => h.inL b ((hm b).2 hb), hnd, h.os, h.tape, h.output, h.size, h.block, h.gl⟩, hs⟩
  obtain ⟨h1, h2, h3⟩ := h.inb n b hb
  exact ⟨h1, h2, fun hx => h3 ((hm b).2 hx)⟩
theorem idx_inj {i j i' j' sz : Nat} (hj : j < sz) (hj' : j' < sz) (h : i * sz + j = i' * sz + j') : i = i' ∧ j = j' := by
  have h1 := idx_div (i := i) hj
  have h2 := idx_div (i := i') hj'
  rw [h] at h1
  exact ⟨h1.1.symm.trans h2.1, h1.2.symm.trans h2.2⟩
theorem load_one (hT : tabOk P E = true) {t : Nat} (hk : E.known t = true) (ha : E.isAgg t = false) {g o : Nat} {v : Value} (hc : w.cell? ⟨g, o, none⟩ = some v) : (Instr.loadAt t (.pointer (some ⟨g, o, none⟩))).run P w = .ok v w := by
  have h1 : (loadVar t ⟨g, o, none⟩).run P w = .ok v w := by
    unfold loadVar load
    simp [run_agg hT hk, ha, Sem.run, hc]
  simp [Instr.loadAt, Instr.sureAddr, h1]
/-- The object under a row's name, from a cell. -/
def rowO (E : Env) (e : Nat) (es : List (List T)) : O := bif E.plain e then .row e true es else .deep e es none
/-- A cell with its blocks takes a name that is dead. -/
theorem Heap.takeCell {v : Value} {bs : List Nat} (h : Heap E β bs m env w) {d : Nm} (hd : m d = some .dead) (hv : env d = some v) {e : Nat} {t : T} (hc : DC E w (.row e) t v bs) :
    ∃ env', Heap E β [] (m.put d (rowO E e t.asR)) env' w ∧ (∀ n, env' n = env n) ∧ Still w w (stills β bs m env w) (stills β [] (m.put d (rowO E e t.asR)) env' w) := by
  have hfree : ∀ b, ¬ owns m env d b := fun b => by simp [owns, hd]
  unfold rowO
  cases hpl : E.plain e with
  | true =>
    obtain ⟨es, xs, rfl, ho, hr, hbs⟩ := hc.unplain hpl
    obtain ⟨g1, g2⟩ := h.relist (L' := v.ownBlock.toList ++ []) (fun b => by rw [hbs]; simp) (by cases v.ownBlock <;> simp)
    obtain ⟨k1, k2, k3⟩ := g1.takeRowAt (.inr hv) hfree ho (hr _)
    rw [Names.put_same hv] at k1 k3
    rw [g2] at k3
    exact ⟨env, k1, fun _ => rfl, k3⟩
  | false =>
    have ht : t = .r t.asR := by cases hc; rfl
    rw [ht] at hc
    obtain ⟨k1, k2, k3⟩ := Heap.takeDeepAt (L := []) (by simpa using h) (.inr hv) hfree hc
    refine ⟨_, k1, fun n => ?_, by simpa using k3⟩
    by_cases hn : n = d
    · subst hn; rw [Names.putD_self]; exact hv.symm
    · rw [Names.putD_ne _ _ _ hn]
/-- A cell of a deep row goes out. -/
theorem Heap.hole (h : Heap E β [] m env w) {n d : Nm} {e : Nat} {es : List (List T)} (hn : m n = some (.deep e es none)) (hd : m d = none) {i o e' : Nat} (hi : i < es.length) (ho : o < E.sz e) (hty : tyAt E e o = .row e') {g len cap : Nat} (hv : env n = some (.slice (some ⟨g, 0, none⟩) len cap)) :
    ∃ u env', w.cell? ⟨g, i * E.sz e + o, none⟩ = some u ∧ env' d = some u ∧ (∃ a l c, u = .slice a l c) ∧ Heap E β [] ((m.put d (rowO E e' (tAt es i o).asR)).put n (.deep e es (some (i, o, d)))) env' w ∧ env.le env' ∧
      Still w w (stills β [] m env w) (stills β [] ((m.put d (rowO E e' (tAt es i o).asR)).put n (.deep e es (some (i, o, d)))) env' w) := by
  have hne : d ≠ n := fun e => by rw [e, hn] at hd; cases hd
  obtain ⟨v, xs, fps, e1, e2, e3, _, e5⟩ := h.obj n _ hn
  rw [hv] at e1; cases e1
  have hp := idx_lt hi ho
  have hx : i * E.sz e + o < xs.length := by rw [e2.1]; exact hp
  have hlen : len = es.length := by
    rcases e2.2 with ⟨h0, _⟩ | ⟨g', cap', cur, h0, _⟩
    · cases h0
    · cases h0; rfl
  subst hlen
  have hdc := e3 i o hi ho (by simp) (by simp)
  rw [hty, List.getElem?_eq_getElem hx, Option.getD_some] at hdc
  generalize hu : xs[i * E.sz e + o] = u at hdc
  have hxu : xs[i * E.sz e + o]? = some u := by rw [List.getElem?_eq_getElem hx, hu]
  have hcell : w.cell? ⟨g, i * E.sz e + o, none⟩ = some u := by rw [e2.cellAt _ hp]; exact hxu
  have hownF : ∀ b, owns m env n b ↔ b ∈ env.fp n := fun b => by simp [owns, hn]
  -- the name
  have hfree : ∀ b, ¬ owns m env d b := fun b => by simp [owns, hd]
  obtain ⟨h0, hle0, hst0⟩ := h.one (w' := w) (L' := []) d .dead u (.inl (h.dom d hd)) (fun _ => ⟨u, Names.put_self _ _ _⟩) (fun b hb => by simp at hb) (fun b hb => by simp at hb) List.nodup_nil
    (fun b hb => by simp [owns, put_self] at hb) (fun _ _ _ _ => rfl) rfl rfl rfl (Nat.le_refl _)
  have hn0 : (m.put d .dead) n = some (.deep e es none) := by rw [put_ne _ _ (Ne.symm hne)]; exact hn
  have hown0 : ∀ b, owns (m.put d .dead) (env.put d u) n b ↔ b ∈ env.fp n := fun b => by rw [owns_ne (Ne.symm hne)]; exact hownF b
  -- the row
  let fps1 : Nat → List Nat := fun q => if q = i * E.sz e + o then [] else fps q
  obtain ⟨F, hF⟩ := Foot.ex (some g) (es.length * E.sz e) fps1 (fun q hq => by
      simp only [fps1]; split
      · exact List.nodup_nil
      · have hsz : 0 < E.sz e := by omega
        have hpi : q / E.sz e < es.length := Nat.div_lt_of_lt_mul (by rw [Nat.mul_comm]; exact hq)
        have := e3 (q / E.sz e) (q % E.sz e) hpi (Nat.mod_lt q hsz) (by simp) (by simp)
        rw [Nat.div_add_mod'] at this; exact this.nodup) (fun q b hq hb => by
      simp only [fps1] at hb; split at hb
      · cases hb
      · exact e5.d1 q b hq hb) (fun q r b hq hr hb hb' => by
      simp only [fps1] at hb hb'
      split at hb <;> split at hb' <;> first | (cases hb; done) | (cases hb'; done) | exact e5.d2 q r b hq hr hb hb')
  have hFF : ∀ b, b ∈ F → b ∈ env.fp n ∧ b ∉ fps (i * E.sz e + o) := fun b hb => by
    rcases (hF.mem b).1 hb with h5 | ⟨q, hq, h5⟩
    · exact ⟨(e5.mem b).2 (.inl h5), fun h6 => e5.d1 _ b hp h6 h5⟩
    · simp only [fps1] at h5
      split at h5
      · cases h5
      · rename_i hqp
        exact ⟨(e5.mem b).2 (.inr ⟨q, hq, h5⟩), fun h6 => hqp (e5.d2 q _ b hq hp h5 h6)⟩
  have hown1 : ∀ b, owns ((m.put d .dead).put n (.deep e es (some (i, o, d)))) ((env.put d u).putD n (.slice (some ⟨g, 0, none⟩) es.length cap) F) n b ↔ b ∈ F := fun b => by simp [owns, put_self, Names.putD_fp]
  have hd1 : ((env.put d u).putD n (.slice (some ⟨g, 0, none⟩) es.length cap) F) d = some u := by rw [Names.putD_ne _ _ _ hne, Names.put_self]
  obtain ⟨h1, hle1, hst1⟩ := h0.oneD (w' := w) (L' := fps (i * E.sz e + o)) n (.deep e es (some (i, o, d))) (.slice (some ⟨g, 0, none⟩) es.length cap) F (.inr (hle0 _ _ hv)) (fun _ => by
      refine ⟨_, xs, fps1, Names.putD_self _ _ _ _, e2, fun i' j hi' hj hnh _ => ?_, fun i' j n' hh _ => ?_, by rw [Names.putD_fp]; exact hF⟩
      · have hne' : i' * E.sz e + j ≠ i * E.sz e + o := fun he => by
          obtain ⟨a1, a2⟩ := idx_inj hj ho he
          exact hnh d (by rw [a1, a2])
        simp only [fps1, if_neg hne']
        exact e3 i' j hi' hj (by simp) (by simp)
      · cases hh
        exact ⟨hi, ho, by rw [hxu]; exact hd1, by simp [fps1], by rw [hxu]; exact hdc.slice⟩)
    (fun b hb => .inr ((hown0 b).2 ((e5.mem b).2 (.inr ⟨_, hp, hb⟩)))) (fun b hb hb' => (hFF b ((hown1 b).1 hb')).2 hb) hdc.nodup
    (fun b hb => by
      have hb := (hFF b ((hown1 b).1 hb)).1
      exact ⟨(h0.inb _ _ ((hown0 b).2 hb)).1, .inl ((hown0 b).2 hb)⟩) (fun _ _ _ _ => rfl) rfl rfl rfl (Nat.le_refl _)
  have hdd : ((m.put d .dead).put n (.deep e es (some (i, o, d)))) d = some .dead := by rw [put_ne _ _ hne, put_self]
  obtain ⟨env', k1, k2, k3⟩ := h1.takeCell hdd hd1 hdc
  have hmem : ((m.put d .dead).put n (.deep e es (some (i, o, d)))).put d (rowO E e' (tAt es i o).asR) = (m.put d (rowO E e' (tAt es i o).asR)).put n (.deep e es (some (i, o, d))) := by
    rw [put_comm _ _ _ (Ne.symm hne), put_put]
  rw [hmem] at k1 k3
  exact ⟨u, env', hcell, by rw [k2]; exact hd1, hdc.slice, k1, fun x v hx => by rw [k2]; exact hle1 _ _ (hle0 _ _ hx), hst0.trans (hst1.trans k3)⟩
theorem loadD_ok (hT : tabOk P E = true) (h : Heap E β [] m env w) {t dst : Nat} {n : Nm} {e i o : Nat} {es : List (List T)} (hn : m n = some (.deep e es none)) {vx : Value} (hx : RV E env w (stills β [] m env w) (.ep n e i o) vx) {a : A} {m' : Mem} {p p' : FP}
    (hp : (loadD E dst t n e i o es).ev m p = some (a, m', p')) : Gives P E β m env w (Instr.loadAt t vx) a m' := by
  unfold loadD at hp
  obtain ⟨hc, hp1⟩ := M.bif_some hp
  obtain ⟨hk, hle⟩ := and_some hc
  have hle := len_pos hle
  obtain ⟨g, len, cap, f1, hi, rfl⟩ := hx
  obtain ⟨v, xs, fps, e1, e2, e3, _, e5⟩ := h.obj n _ hn
  rw [f1] at e1; cases e1
  have hlen' : len = es.length := by
    rcases e2.2 with ⟨h0, _⟩ | ⟨g', cap', cur, h0, _⟩
    · cases h0
    · cases h0; rfl
  subst hlen'
  have hlen : (((E.flat e).drop o).take (E.sz t)).length = E.sz t := by simp [Env.sz] at hle ⊢; omega
  have hty : ∀ j, j < E.sz t → (((E.flat e).drop o).take (E.sz t)).getD j .bool = tyAt E e (o + j) := fun j hj => by
    simp [tyAt, List.getD_eq_getElem?_getD, hj, List.getElem?_drop]
  cases hfl : (((E.flat e).drop o).take (E.sz t)).all Ty.flatB with
  | true =>
    rw [hfl] at hp1; cases hp1
    have hcell : ∀ j, j < E.sz t → w.cell? ⟨g, i * E.sz e + (o + j), none⟩ = some (xs[i * E.sz e + (o + j)]?.getD undef) := fun j hj => by
      have hlt := idx_lt (sz := E.sz e) hi (show o + j < E.sz e by omega)
      have hxl : i * E.sz e + (o + j) < xs.length := by rw [e2.1]; exact hlt
      rw [e2.cellAt _ hlt, List.getElem?_eq_getElem hxl]; rfl
    have hof := ofTs_ok (E := E) (env := env) (w := w) (S := stills β [] m env w) (tys := ((E.flat e).drop o).take (E.sz t)) (o := o) (row := es.getD i []) (f := fun j => xs[i * E.sz e + j]?.getD undef) (fun j hj => by
      have hmem : (((E.flat e).drop o).take (E.sz t)).getD j .bool ∈ ((E.flat e).drop o).take (E.sz t) := by
        rw [List.getD_eq_getElem?_getD, List.getElem?_eq_getElem hj, Option.getD_some]; exact List.getElem_mem hj
      have hfj := List.all_eq_true.1 hfl _ hmem
      rw [hlen] at hj
      rw [hty j hj] at hfj ⊢
      exact ((e3 i (o + j) hi (by omega) (by simp) (by simp)).flat0 hfj).2 _)
    rw [hlen] at hof
    obtain ⟨v, g1, g2, v1, g3, _⟩ := load_ok hT hk (g := g) (o := i * E.sz e + o) (cs := vals (fun j => xs[i * E.sz e + j]?.getD undef) o (E.sz t)) (vals_len _ _ _) (fun j v hj => by
      obtain ⟨hj1, rfl⟩ := vals_get _ _ _ _ _ hj
      rw [Nat.add_assoc]
      exact hcell j hj1) hof.2 hof.1
    exact Gives.same h g1 (RV_of2 g2)
  | false =>
    rw [hfl] at hp1
    simp only [cond_false] at hp1
    split at hp1
    · rename_i e' ha hfo
      obtain ⟨_, m1, p1, h1, hq⟩ := M.bind_some hp1
      obtain ⟨hnd, rfl⟩ := M.new_some h1
      cases hq
      have hone := agg_one hT hk ha
      have htyo : tyAt E e o = .row e' := by unfold tyAt; rw [List.getD_eq_getElem?_getD, hfo]; rfl
      obtain ⟨u, env', k1, k2, k3, k4, k5, k6⟩ := h.hole hn hnd hi (show o < E.sz e by omega) htyo f1
      exact ⟨u, w, env', load_one hT hk ha k1, ⟨k2, k3⟩, k4, k5, k6⟩
    · cases hp1
theorem div_pair {q l sz : Nat} (hq : q < l * sz) : q / sz < l ∧ q % sz < sz ∧ q / sz * sz + q % sz = q := by
  have hsz : 0 < sz := by
    rcases Nat.eq_zero_or_pos sz with h0 | h0
    · rw [h0] at hq; simp at hq
    · exact h0
  exact ⟨Nat.div_lt_of_lt_mul (by rw [Nat.mul_comm]; exact hq), Nat.mod_lt q hsz, Nat.div_add_mod' q sz⟩
/-- Cells that are own with all that they lead to, as what is taken. -/
theorem BCs_of_dc : ∀ {tys : List Ty} {ts : List T} {vs : List Value} {f : Nat → List Nat}, ts.length = tys.length → vs.length = tys.length →
    (∀ j, j < tys.length → DC E w (tys.getD j .bool) (ts.getD j (.i 0)) (vs[j]?.getD undef) (f j)) → (∀ i j b, i < tys.length → j < tys.length → b ∈ f i → b ∈ f j → i = j) →
    ∃ bs, BCs E w S (rowFs tys) (deepT E tys) ts vs bs ∧ bs.Nodup ∧ ∀ b, b ∈ bs ↔ ∃ j, j < tys.length ∧ b ∈ f j
  | [], [], [], f, _, _, _, _ => ⟨[], rfl, List.nodup_nil, fun b => by simp⟩
  | ty :: tys, t :: ts, v :: vs, f, h1, h2, h3, h4 => by
    obtain ⟨bs, k1, k2, k3⟩ := BCs_of_dc (f := fun j => f (j + 1)) (tys := tys) (ts := ts) (vs := vs) (by simpa using h1) (by simpa using h2) (fun j hj => by simpa using h3 (j + 1) (by simpa using hj))
      (fun i j b hi hj hb hb' => by have := h4 (i + 1) (j + 1) b (by simpa using hi) (by simpa using hj) hb hb'; omega)
    have h0 : DC E w ty t v (f 0) := by simpa using h3 0 (by simp)
    have flat : ty.flatB = true → RC E w S ty t v ∧ f 0 = [] := fun hf => by
      obtain ⟨e0, hr⟩ := h0.flat0 hf
      exact ⟨hr _, e0⟩
    have fin : ∀ b1 : List Nat, (∀ b, b ∈ b1 ↔ b ∈ f 0) → b1.Nodup → (b1 ++ bs).Nodup ∧ ∀ b, b ∈ b1 ++ bs ↔ ∃ j, j < (ty :: tys).length ∧ b ∈ f j := fun b1 hb1 hn => by
      refine ⟨List.nodup_append.2 ⟨hn, k2, fun x hx y hy hxy => ?_⟩, fun b => ?_⟩
      · subst hxy
        obtain ⟨j, hj, hb⟩ := (k3 x).1 hy
        have := h4 0 (j + 1) x (by simp) (by simpa using hj) ((hb1 x).1 hx) hb
        omega
      · rw [List.mem_append, hb1, k3]
        constructor
        · rintro (h5 | ⟨j, hj, h5⟩)
          · exact ⟨0, by simp, h5⟩
          · exact ⟨j + 1, by simpa using hj, h5⟩
        · rintro ⟨j, hj, h5⟩
          cases j with
          | zero => exact .inl h5
          | succ j => exact .inr ⟨j, by simpa using hj, h5⟩
    have nilC : ty.flatB = true → (∀ b, b ∈ ([] : List Nat) ↔ b ∈ f 0) := fun hf b => by rw [(flat hf).2]
    cases ty with
    | row e =>
      cases hpl : E.plain e with
      | true =>
        obtain ⟨es, xs, rfl, ho, hr, hbs⟩ := h0.unplain hpl
        obtain ⟨q1, q2⟩ := fin v.ownBlock.toList (fun b => by rw [hbs]; simp) (by cases v.ownBlock <;> simp)
        refine ⟨_, ⟨v.ownBlock.toList, bs, rfl, ?_, k1⟩, q1, q2⟩
        show BC E w S true (bif E.plain e then .row e else .deep e) _ v _
        rw [hpl]
        exact ⟨⟨es, xs, rfl, ho, hr _⟩, rfl⟩
      | false =>
        have ht : t = .r t.asR := by cases h0; rfl
        obtain ⟨q1, q2⟩ := fin (f 0) (fun b => Iff.rfl) h0.nodup
        refine ⟨_, ⟨f 0, bs, rfl, ?_, k1⟩, q1, q2⟩
        show BC E w S true (bif E.plain e then .row e else .deep e) _ v _
        rw [hpl]
        exact ⟨t.asR, ht, by rw [ht] at h0; exact h0⟩
    | int k => obtain ⟨q1, q2⟩ := fin [] (nilC rfl) List.nodup_nil; exact ⟨_, ⟨[], bs, rfl, ⟨(flat rfl).1, rfl⟩, k1⟩, q1, q2⟩
    | bool => obtain ⟨q1, q2⟩ := fin [] (nilC rfl) List.nodup_nil; exact ⟨_, ⟨[], bs, rfl, ⟨(flat rfl).1, rfl⟩, k1⟩, q1, q2⟩
    | str => obtain ⟨q1, q2⟩ := fin [] (nilC rfl) List.nodup_nil; exact ⟨_, ⟨[], bs, rfl, ⟨(flat rfl).1, rfl⟩, k1⟩, q1, q2⟩
    | ptr e => cases h0
    | deep e => cases h0
  | [], [], _ :: _, _, _, h, _, _ => by simp at h
  | [], _ :: _, _, _, h, _, _, _ => by simp at h
  | _ :: _, [], _, _, h, _, _, _ => by simp at h
  | _ :: _, _ :: _, [], _, _, h, _, _ => by simp at h
theorem cellsAt_len (es : List (List T)) (i : Nat) : ∀ (n o : Nat), (cellsAt es i o n).length = n
  | 0, _ => rfl
  | n + 1, o => by simp [cellsAt, cellsAt_len es i n (o + 1)]
theorem cellsAt_get (es : List (List T)) (i : Nat) : ∀ (n o j : Nat), j < n → (cellsAt es i o n).getD j (.i 0) = tAt es i (o + j)
  | 0, _, _, h => by omega
  | n + 1, o, 0, _ => rfl
  | n + 1, o, j + 1, h => by
    have := cellsAt_get es i n (o + 1) j (by omega)
    rw [show o + (j + 1) = o + 1 + j by omega, ← this]; rfl
/-- A whole element goes out. -/
theorem loadE_ok (hT : tabOk P E = true) (h : Heap E β [] m env w) {t dst : Nat} {n : Nm} {e i o : Nat} {es : List (List T)} (hn : m n = some (.deep e es none)) {vx : Value} (hx : RV E env w (stills β [] m env w) (.ep n e i o) vx) {a : A} {m' : Mem} {p p' : FP}
    (hp : (loadE E dst t n e i o es).ev m p = some (a, m', p')) : Gives P E β m env w (Instr.loadAt t vx) a m' := by
  unfold loadE at hp
  obtain ⟨hc, hp1⟩ := M.bif_some hp
  obtain ⟨hc1, hle⟩ := and_some hc
  obtain ⟨hk, ha⟩ := and_some hc1
  have hle := len_pos hle
  obtain ⟨p1, hp2⟩ := M.set_some hp1
  obtain ⟨as, m2, p2, h2, hq⟩ := M.bind_some hp2
  cases hq
  obtain ⟨g, len, cap, f1, hi, rfl⟩ := hx
  obtain ⟨v, xs, fps, e1, e2, e3, _, e5⟩ := h.obj n _ hn
  rw [f1] at e1; cases e1
  have hlen' : len = es.length := by
    rcases e2.2 with ⟨h0, _⟩ | ⟨g', cap', cur, h0, _⟩
    · cases h0
    · cases h0; rfl
  subst hlen'
  have hlen : (((E.flat e).drop o).take (E.sz t)).length = E.sz t := by simp [Env.sz] at hle ⊢; omega
  have hty : ∀ j, j < E.sz t → (((E.flat e).drop o).take (E.sz t)).getD j .bool = tyAt E e (o + j) := fun j hj => by
    simp [tyAt, List.getD_eq_getElem?_getD, hj, List.getElem?_drop]
  have hcell : ∀ j, j < E.sz t → w.cell? ⟨g, i * E.sz e + (o + j), none⟩ = some (xs[i * E.sz e + (o + j)]?.getD undef) := fun j hj => by
    have hlt := idx_lt (sz := E.sz e) hi (show o + j < E.sz e by omega)
    have hxl : i * E.sz e + (o + j) < xs.length := by rw [e2.1]; exact hlt
    rw [e2.cellAt _ hlt, List.getElem?_eq_getElem hxl]; rfl
  have hvl := vals_len (fun j => xs[i * E.sz e + j]?.getD undef) o (E.sz t)
  have hvg : ∀ j, j < E.sz t → (vals (fun j => xs[i * E.sz e + j]?.getD undef) o (E.sz t))[j]? = some (xs[i * E.sz e + (o + j)]?.getD undef) := fun j hj => by
    have hj' : j < (vals (fun j => xs[i * E.sz e + j]?.getD undef) o (E.sz t)).length := by rw [hvl]; exact hj
    have := vals_get _ _ _ _ _ (List.getElem?_eq_getElem hj')
    rw [List.getElem?_eq_getElem hj', this.2]
  generalize hvs : vals (fun j => xs[i * E.sz e + j]?.getD undef) o (E.sz t) = vs at hvl hvg
  generalize htys : ((E.flat e).drop o).take (E.sz t) = tys at hlen hty h2
  obtain ⟨bs, k1, k2, k3⟩ := BCs_of_dc (S := fun _ => False) (w := w) (E := E) (tys := tys) (ts := cellsAt es i o (E.sz t)) (vs := vs) (f := fun j => fps (i * E.sz e + (o + j)))
    (by rw [cellsAt_len, hlen]) (by rw [hvl, hlen]) (fun j hj => by
      rw [hlen] at hj
      rw [hty j hj, hvg j hj, Option.getD_some, cellsAt_get es i _ _ _ hj]
      exact e3 i (o + j) hi (by omega) (by simp) (by simp))
    (fun a b x ha hb h5 h6 => by
      rw [hlen] at ha hb
      have := e5.d2 _ _ x (idx_lt (sz := E.sz e) hi (show o + a < E.sz e by omega)) (idx_lt (sz := E.sz e) hi (show o + b < E.sz e by omega)) h5 h6
      omega)
  have hownF : ∀ b, owns m env n b ↔ b ∈ env.fp n := fun b => by simp [owns, hn]
  let fps1 : Nat → List Nat := fun q => if q / E.sz e = i then [] else fps q
  obtain ⟨F, hF⟩ := Foot.ex (some g) (es.length * E.sz e) fps1 (fun q hq => by
      simp only [fps1]; split
      · exact List.nodup_nil
      · obtain ⟨a1, a2, a3⟩ := div_pair hq
        have := e3 _ _ a1 a2 (by simp) (by simp)
        rw [a3] at this; exact this.nodup) (fun q b hq hb => by
      simp only [fps1] at hb; split at hb
      · cases hb
      · exact e5.d1 q b hq hb) (fun q r b hq hr hb hb' => by
      simp only [fps1] at hb hb'
      split at hb <;> split at hb' <;> first | (cases hb; done) | (cases hb'; done) | exact e5.d2 q r b hq hr hb hb')
  have hbsF : ∀ b, b ∈ bs → ∃ q, q < es.length * E.sz e ∧ q / E.sz e = i ∧ b ∈ fps q := fun b hb => by
    obtain ⟨j, hj, h5⟩ := (k3 b).1 hb
    rw [hlen] at hj
    exact ⟨_, idx_lt (sz := E.sz e) hi (show o + j < E.sz e by omega), (idx_div (show o + j < E.sz e by omega)).1, h5⟩
  have hFF : ∀ b, b ∈ F → b ∈ env.fp n ∧ b ∉ bs := fun b hb => by
    rcases (hF.mem b).1 hb with h5 | ⟨q, hq, h5⟩
    · refine ⟨(e5.mem b).2 (.inl h5), fun h6 => ?_⟩
      obtain ⟨r, hr, _, h7⟩ := hbsF b h6
      exact e5.d1 _ b hr h7 h5
    · simp only [fps1] at h5
      split at h5
      · cases h5
      · rename_i hqi
        refine ⟨(e5.mem b).2 (.inr ⟨q, hq, h5⟩), fun h6 => ?_⟩
        obtain ⟨r, hr, hri, h7⟩ := hbsF b h6
        have := e5.d2 q r b hq hr h5 h7
        rw [this] at hqi; exact hqi hri
  have hown1 : ∀ b, owns (m.put n (.deep e es (some (i, E.sz e, modeNm)))) (env.putD n (.slice (some ⟨g, 0, none⟩) es.length cap) F) n b ↔ b ∈ F := fun b => by simp [owns, put_self, Names.putD_fp]
  obtain ⟨h1, hle1, hst1⟩ := h.oneD (w' := w) (L' := bs ++ []) n (.deep e es (some (i, E.sz e, modeNm))) (.slice (some ⟨g, 0, none⟩) es.length cap) F (.inr f1) (fun _ => by
      refine ⟨_, xs, fps1, Names.putD_self _ _ _ _, e2, fun i' j hi' hj _ hk1 => ?_, fun i' j n' hh hj => ?_, by rw [Names.putD_fp]; exact hF⟩
      · have hne : i' ≠ i := fun he => by
          subst he
          exact Nat.lt_irrefl _ (hk1 _ _ rfl)
        have : ¬ ((i' * E.sz e + j) / E.sz e = i) := by rw [(idx_div hj).1]; exact hne
        simp only [fps1, if_neg this]
        exact e3 i' j hi' hj (by simp) (by simp)
      · cases hh
        exact (Nat.lt_irrefl _ hj).elim)
    (fun b hb => by
      rw [List.append_nil] at hb
      obtain ⟨q, hq, _, h5⟩ := hbsF b hb
      exact .inr ((hownF b).2 ((e5.mem b).2 (.inr ⟨q, hq, h5⟩)))) (fun b hb hb' => by
      rw [List.append_nil] at hb
      exact (hFF b ((hown1 b).1 hb')).2 hb) (by rw [List.append_nil]; exact k2)
    (fun b hb => by
      have hb := (hownF b).2 (hFF b ((hown1 b).1 hb)).1
      exact ⟨(h.inb _ _ hb).1, .inl hb⟩) (fun _ _ _ _ => rfl) rfl rfl rfl (Nat.le_refl _)
  obtain ⟨env2, g1, g2, g3, g4, g5⟩ := reborn_ok (L := []) h1 (fun b hb => hb.elim) k1 (fun j hj => by rw [Nat.zero_add]) h2
  obtain ⟨v, r1, r2, _⟩ := load_ok hT hk (g := g) (o := i * E.sz e + o) (cs := vs) hvl (fun j v hj => by
      have hj' : j < E.sz t := by rw [← hvl]; exact (List.getElem?_eq_some_iff.1 hj).1
      have := (hvg j hj').symm.trans hj
      cases this
      rw [Nat.add_assoc]
      exact hcell j hj') g5 g4
  refine ⟨v, w, env2, r1, ?_, g1, Names.le_trans hle1 g2, hst1.trans g3⟩
  have := RV_of2 r2
  unfold mkVal at this
  rw [ha] at this
  exact this
theorem M.mode_some {m m' : Mem} {p p' : FP} {b : Bool} (h : M.mode.ev m p = some (b, m', p')) : m = m' := by
  unfold M.mode at h
  obtain ⟨q, h⟩ := M.get_some h
  split at h <;> (cases h; rfl)
theorem loadX_ok (hT : tabOk P E = true) (h : Heap E β [] m env w) {t dst : Nat} {x : A} {vx : Value} (hx : RV E env w (stills β [] m env w) x vx) {a : A} {m' : Mem} {p p' : FP} (hp : (loadX E dst t x).ev m p = some (a, m', p')) :
    Gives P E β m env w (Instr.loadAt t vx) a m' := by
  have old : ∀ {p}, (loadM E t x).ev m p = some (a, m', p') → Gives P E β m env w (Instr.loadAt t vx) a m' := fun hp => by
    obtain ⟨rfl, v, h1, h2, _⟩ := loadM_ok hT h hx hp
    exact Gives.same h h1 (RV_of2 h2)
  unfold loadX at hp
  split at hp
  · rename_i n e i o
    obtain ⟨q, hp⟩ := M.get_some hp
    split at hp
    · rename_i e' es hn
      obtain ⟨md, m1, p1, h1, hp2⟩ := M.bind_some hp
      cases M.mode_some h1
      cases hc : (Nat.beq e e' && ((((E.flat e).drop o).take (E.sz t)).all Ty.flatB || (md && oneRow E t e o))) with
      | true =>
        rw [hc] at hp2
        obtain ⟨he, _⟩ := and_some hc
        cases Nat.eq_of_beq_eq_true he
        exact loadD_ok hT h hn hx hp2
      | false =>
        rw [hc] at hp2
        replace hp2 := (show (bif Nat.beq e e' && md && E.isAgg t then loadE E dst t n e i o es else (M.lowD n).bind fun _ => loadM E t (.ep n e i o)).ev m p1 = some (a, m', p') from hp2)
        cases hc2 : (Nat.beq e e' && md && E.isAgg t) with
        | true =>
          rw [hc2] at hp2
          obtain ⟨hc3, _⟩ := and_some hc2
          cases Nat.eq_of_beq_eq_true (and_some hc3).1
          exact loadE_ok hT h hn hx hp2
        | false =>
        rw [hc2] at hp2
        obtain ⟨_, m2, p2, h2, hq2⟩ := M.bind_some (show ((M.lowD n).bind fun _ => loadM E t (.ep n e i o)).ev m p1 = _ from hp2)
        obtain ⟨g1, g2⟩ := h.lowD h2
        obtain ⟨rfl, v, k1, k2, _⟩ := loadM_ok hT g1 (hx.mono (Names.le_refl _) g2.still) hq2
        exact ⟨v, w, env, k1, RV_of2 k2, g1, Names.le_refl _, g2.still⟩
    · exact old hp
  · exact old hp
theorem tyIs_of {e j e' : Nat} (h : tyIs E e j e' = true) : tyAt E e j = .row e' ∧ j < E.sz e := by
  unfold tyIs at h
  split at h
  · rename_i x hx
    have hj : j < (E.flat e).length := (List.getElem?_eq_some_iff.1 hx).1
    cases Nat.eq_of_beq_eq_true h
    exact ⟨by unfold tyAt; rw [List.getD_eq_getElem?_getD, hx]; rfl, hj⟩
  · cases h
/-- A cell goes back. -/
theorem Heap.fill (h : Heap E β [] m env w) {n n' : Nm} {e i j e' : Nat} {es es' : List (List T)} (hn : m n = some (.deep e es (some (i, j, n')))) (hty : tyIs E e j e' = true)
    (hn' : (m n' = some (.row e' true es') ∧ E.plain e' = true) ∨ m n' = some (.deep e' es' none)) :
    ∃ env', Heap E β [] ((m.put n' .dead).put n (.deep e (setT es i j (.r es')) none)) env' w ∧ (∀ x, env' x = env x) ∧ Still w w (stills β [] m env w) (stills β [] ((m.put n' .dead).put n (.deep e (setT es i j (.r es')) none)) env' w) := by
  obtain ⟨hty, hj⟩ := tyIs_of hty
  obtain ⟨v, xs, fps, e1, e2, e3, e4, e5⟩ := h.obj n _ hn
  obtain ⟨hi, _, eu, efp⟩ := e4 i j n' rfl hj
  generalize hu : xs[i * E.sz e + j]?.getD undef = u at eu
  have hne : n' ≠ n := by
    rintro rfl
    rcases hn' with ⟨h5, _⟩ | h5
    · rw [hn] at h5; cases h5
    · rw [hn] at h5; cases h5
  have hru : RV1 E env w (stills β [] m env w) (.ref n') u := ⟨eu, by
    rcases hn' with ⟨h5, _⟩ | h5
    · obtain ⟨u', h6, h7⟩ := h.rowOf h5
      rw [eu] at h6; cases h6
      rcases h7 with ⟨rfl, _⟩ | ⟨g, cap, rfl, _⟩ <;> exact ⟨_, _, _, rfl⟩
    · obtain ⟨u', h6, h7⟩ := h.deepDC h5
      rw [eu] at h6; cases h6
      exact h7.slice⟩
  have hgive : ∃ bs, Heap E β bs (m.put n' .dead) env w ∧ Prog β env w [] m bs (m.put n' .dead) ∧ DC E w (.row e') (.r es') u bs := by
    rcases hn' with ⟨h5, hpl⟩ | h5
    · obtain ⟨bs, g1, g2, g3⟩ := give_ok (own := true) (ty := .row e') h hru (t := .r es') (m' := m.put n' .dead) (p := ⟨[], []⟩) (p' := ⟨[n', n'], [n']⟩) (by simp [give, M.lowD, M.row, M.bind, M.ev, h5])
      obtain ⟨⟨es2, ys, he2, ho, hr⟩, rfl⟩ := g3
      cases he2
      exact ⟨_, by simpa using g1, by simpa using g2, DC.plain hpl ho hr⟩
    · obtain ⟨bs, g1, g2, g3⟩ := give_ok (own := true) (ty := .deep e') h hru (t := .r es') (m' := m.put n' .dead) (p := ⟨[], []⟩) (p' := ⟨[n'], [n']⟩) (by simp [give, M.ev, h5])
      obtain ⟨es2, he2, hd⟩ := g3
      cases he2
      exact ⟨_, by simpa using g1, by simpa using g2, hd⟩
  obtain ⟨bs, g1, g2, g3⟩ := hgive
  have hn1 : (m.put n' .dead) n = some (.deep e es (some (i, j, n'))) := by rw [put_ne _ _ (Ne.symm hne)]; exact hn
  have hownF : ∀ b, owns (m.put n' .dead) env n b ↔ b ∈ env.fp n := fun b => by simp [owns, hn1]
  have hp := idx_lt hi hj
  have hnew : ∀ b, b ∈ bs → b ∉ env.fp n := fun b hb hF => (g1.inb n b ((hownF b).2 hF)).2.2 hb
  let fps' : Nat → List Nat := fun q => if q = i * E.sz e + j then bs else fps q
  obtain ⟨F, hF⟩ := Foot.ex v.ownBlock (es.length * E.sz e) fps' (fun q hq => by
      simp only [fps']; split
      · exact g3.nodup
      · rename_i hqp
        have hsz : 0 < E.sz e := by omega
        have hpi : q / E.sz e < es.length := Nat.div_lt_of_lt_mul (by rw [Nat.mul_comm]; exact hq)
        have := e3 (q / E.sz e) (q % E.sz e) hpi (Nat.mod_lt q hsz) (fun x hx => by
          cases hx
          exact hqp (Nat.div_add_mod' q (E.sz e)).symm) (fun k x hx => by cases hx; exact hj)
        rw [Nat.div_add_mod'] at this; exact this.nodup) (fun q b hq hb => by
      simp only [fps'] at hb; split at hb
      · exact fun h6 => hnew b hb ((e5.mem b).2 (.inl h6))
      · exact e5.d1 q b hq hb) (fun q r b hq hr hb hb' => by
      simp only [fps'] at hb hb'
      split at hb <;> split at hb'
      · omega
      · exact (hnew b hb ((e5.mem b).2 (.inr ⟨r, hr, hb'⟩))).elim
      · exact (hnew b hb' ((e5.mem b).2 (.inr ⟨q, hq, hb⟩))).elim
      · exact e5.d2 q r b hq hr hb hb')
  have hown1 : ∀ b, owns ((m.put n' .dead).put n (.deep e (setT es i j (.r es')) none)) (env.putD n v F) n b ↔ b ∈ F := fun b => by simp [owns, put_self, Names.putD_fp]
  have hFb : ∀ b, b ∈ F → owns (m.put n' .dead) env n b ∨ b ∈ bs := fun b hb => by
    rcases (hF.mem b).1 hb with h5 | ⟨q, hq, h5⟩
    · exact .inl ((hownF b).2 ((e5.mem b).2 (.inl h5)))
    · simp only [fps'] at h5
      split at h5
      · exact .inr h5
      · exact .inl ((hownF b).2 ((e5.mem b).2 (.inr ⟨q, hq, h5⟩)))
  have hlen : (setT es i j (.r es')).length = es.length := by unfold setT; rw [List.length_set]
  obtain ⟨k1, k2, k3⟩ := g1.oneD (w' := w) (L' := []) n (.deep e (setT es i j (.r es')) none) v F (.inr e1) (fun _ => by
      refine ⟨v, xs, fps', Names.putD_self _ _ _ _, by rw [hlen]; exact e2, fun i' j' hi' hj' _ _ => ?_, fun _ _ _ h => (by cases h), by rw [hlen, Names.putD_fp]; exact hF⟩
      rw [hlen] at hi'
      unfold setT
      rw [tAt_set hi]
      by_cases hij : i' = i ∧ j' = j
      · obtain ⟨rfl, rfl⟩ := hij
        rw [if_pos ⟨rfl, Nat.le_refl _, by simp⟩]
        simp only [fps', if_true, Nat.sub_self, List.getD_cons_zero]
        rw [hty, hu]; exact g3
      · rw [if_neg (fun h => hij ⟨h.1, by simp at h; omega⟩)]
        have hqp : i' * E.sz e + j' ≠ i * E.sz e + j := fun he => hij (idx_inj hj' hj he)
        simp only [fps', if_neg hqp]
        exact e3 i' j' hi' hj' (fun x hx => by cases hx; exact hij ⟨rfl, rfl⟩) (fun k x hx => by cases hx; exact hj))
    (fun b hb => by simp at hb) (fun b hb => by simp at hb) List.nodup_nil
    (fun b hb => by
      rcases hFb b ((hown1 b).1 hb) with h5 | h5
      · exact ⟨(g1.inb _ _ h5).1, .inl h5⟩
      · exact ⟨(g1.inL _ h5).1, .inr (.inr h5)⟩) (fun _ _ _ _ => rfl) rfl rfl rfl (Nat.le_refl _)
  refine ⟨_, k1, fun x => ?_, g2.still.trans k3⟩
  by_cases hx : x = n
  · subst hx; rw [Names.putD_self]; exact e1.symm
  · rw [Names.putD_ne _ _ _ hx]
/-- States that differ in what the deep rows own alone. -/
def Ghost (E : Env) (β : Base) (m : Mem) (env : Names) (w : World) (m' : Mem) : Prop :=
  ∃ env', Heap E β [] m' env' w ∧ (∀ x, env' x = env x) ∧ Still w w (stills β [] m env w) (stills β [] m' env' w)
theorem Ghost.refl (h : Heap E β [] m env w) : Ghost E β m env w m := ⟨env, h, fun _ => rfl, Still.refl _ _⟩
theorem closeM_ok : ∀ {k : Nat} {n : Nm} {m : Mem} {env : Names} {m' : Mem} {p p' : FP} {u : Unit}, Heap E β [] m env w → (closeM E k n).ev m p = some (u, m', p') → Ghost E β m env w m'
  | 0, n, m, env, m', p, p', u, h, hp => by unfold closeM at hp; cases hp; exact Ghost.refl h
  | k + 1, n, m, env, m', p, p', u, h, hp => by
    unfold closeM at hp
    obtain ⟨q, hp⟩ := M.get_some hp
    split at hp
    · rename_i e₀ es₀ i₀ j₀ n₀ hn₀
      obtain ⟨_, m1, p1, h1, hq⟩ := M.bind_some hp
      obtain ⟨env1, g1, g2, g3⟩ := closeM_ok h h1
      have hsame : m' = m1 → Ghost E β m env w m' := fun e => by subst e; exact ⟨env1, g1, g2, g3⟩
      obtain ⟨q2, hq⟩ := M.get_some hq
      split at hq
      · rename_i e es i j n' hn
        have hstep : ∀ {e' es'}, tyIs E e j e' = true → ((m1 n' = some (.row e' true es') ∧ E.plain e' = true) ∨ m1 n' = some (.deep e' es' none)) → m' = (m1.put n' .dead).put n (.deep e (setT es i j (.r es')) none) → Ghost E β m env w m' := by
          intro e' es' hty hn' hm
          subst hm
          obtain ⟨env2, k1, k2, k3⟩ := g1.fill hn hty hn'
          exact ⟨env2, k1, fun x => (k2 x).trans (g2 x), g3.trans k3⟩
        obtain ⟨q3, hq⟩ := M.get_some hq
        split at hq
        · rename_i e' es' hn'
          cases hc : (tyIs E e j e' && E.plain e') with
          | true =>
            rw [hc] at hq
            obtain ⟨c1, c2⟩ := and_some hc
            cases hq
            exact hstep c1 (.inl ⟨hn', c2⟩) rfl
          | false => rw [hc] at hq; cases hq; exact hsame rfl
        · rename_i e' es' hn'
          cases hc : tyIs E e j e' with
          | true => rw [hc] at hq; cases hq; exact hstep hc (.inr hn') rfl
          | false => rw [hc] at hq; cases hq; exact hsame rfl
        · cases hq; exact hsame rfl
      · cases hq; exact hsame rfl
    · cases hp; exact Ghost.refl h
theorem closeL_ok : ∀ {ns : List Nm} {m : Mem} {env : Names} {m' : Mem} {p p' : FP} {u : Unit}, Heap E β [] m env w → (closeL E ns).ev m p = some (u, m', p') → Ghost E β m env w m'
  | [], m, env, m', p, p', u, h, hp => by cases hp; exact Ghost.refl h
  | n :: ns, m, env, m', p, p', u, h, hp => by
    obtain ⟨_, m1, p1, h1, hq⟩ := M.bind_some hp
    obtain ⟨env1, g1, g2, g3⟩ := closeM_ok h h1
    obtain ⟨env2, k1, k2, k3⟩ := closeL_ok g1 hq
    exact ⟨env2, k1, fun x => (k2 x).trans (g2 x), g3.trans k3⟩
theorem closeOut_ok : ∀ {ns : List Nm} {m : Mem} {env : Names} {m' : Mem} {p p' : FP} {u : Unit}, Heap E β [] m env w → (closeOut E ns).ev m p = some (u, m', p') → Ghost E β m env w m'
  | [], m, env, m', p, p', u, h, hp => by cases hp; exact Ghost.refl h
  | n :: ns, m, env, m', p, p', u, h, hp => by
    obtain ⟨l, m1, p1, h1, hq⟩ := M.bind_some hp
    have hm : m = m1 := by
      unfold cellNms at h1
      obtain ⟨q, h1⟩ := M.get_some h1
      split at h1 <;> (cases h1; rfl)
    subst hm
    obtain ⟨_, m2, p2, h2, hq2⟩ := M.bind_some hq
    obtain ⟨env1, g1, g2, g3⟩ := closeL_ok h h2
    obtain ⟨env2, k1, k2, k3⟩ := closeOut_ok g1 hq2
    exact ⟨env2, k1, fun x => (k2 x).trans (g2 x), g3.trans k3⟩
theorem lateA_same {x : A} {m m' : Mem} {p p' : FP} {b : Bool} (h : (lateA x).ev m p = some (b, m', p')) : m = m' := by
  unfold lateA at h
  split at h
  · obtain ⟨q, h⟩ := M.get_some h
    split at h
    · obtain ⟨k, m1, p1, h1, h2⟩ := M.bind_some h
      cases h2
      unfold M.late at h1
      obtain ⟨q, h1⟩ := M.get_some h1
      split at h1 <;> (cases h1; rfl)
    · cases h; rfl
  · cases h; rfl
theorem closeLP_ok : ∀ {ns : List Nm} {m : Mem} {env : Names} {m' : Mem} {p p' : FP} {u : Unit}, Heap E β [] m env w → (closeLP E ns).ev m p = some (u, m', p') → Ghost E β m env w m'
  | [], m, env, m', p, p', u, h, hp => by cases hp; exact Ghost.refl h
  | n :: ns, m, env, m', p, p', u, h, hp => by
    obtain ⟨l, m0, p0, h0, hp⟩ := M.bind_some hp
    cases lateA_same h0
    obtain ⟨_, m1, p1, h1, hq⟩ := M.bind_some hp
    obtain ⟨env1, g1, g2, g3⟩ : Ghost E β m env w m1 := by
      cases l with
      | true => cases h1; exact Ghost.refl h
      | false => exact closeM_ok h h1
    obtain ⟨env2, k1, k2, k3⟩ := closeLP_ok g1 hq
    exact ⟨env2, k1, fun x => (k2 x).trans (g2 x), g3.trans k3⟩
theorem closeOutP_ok : ∀ {ns : List Nm} {m : Mem} {env : Names} {m' : Mem} {p p' : FP} {u : Unit}, Heap E β [] m env w → (closeOutP E ns).ev m p = some (u, m', p') → Ghost E β m env w m'
  | [], m, env, m', p, p', u, h, hp => by cases hp; exact Ghost.refl h
  | n :: ns, m, env, m', p, p', u, h, hp => by
    obtain ⟨l, m1, p1, h1, hq⟩ := M.bind_some hp
    have hm : m = m1 := by
      unfold cellNms at h1
      obtain ⟨q, h1⟩ := M.get_some h1
      split at h1 <;> (cases h1; rfl)
    subst hm
    obtain ⟨_, m2, p2, h2, hq2⟩ := M.bind_some hq
    obtain ⟨env1, g1, g2, g3⟩ := closeLP_ok h h2
    obtain ⟨env2, k1, k2, k3⟩ := closeOutP_ok g1 hq2
    exact ⟨env2, k1, fun x => (k2 x).trans (g2 x), g3.trans k3⟩
theorem prepM_ok (h : Heap E β [] m env w) {σ : St} {o : Oper} {m' : Mem} {p p' : FP} {u : Unit} (hp : (prepM E σ o).ev m p = some (u, m', p')) : Ghost E β m env w m' := by
  unfold prepM at hp
  cases hpo : prepOn o.op with
  | false => rw [hpo] at hp; cases hp; exact Ghost.refl h
  | true =>
  rw [hpo] at hp
  replace hp := (show (match prepNms σ o.op.operands.toList with | [] => M.ret () | n :: ns => M.mode.bind fun md => bif md then closeOutP E (n :: ns) else .ret () : M Unit).ev m p = some (u, m', p') from hp)
  split at hp
  · cases hp; exact Ghost.refl h
  · obtain ⟨b, m1, p1, h1, hq⟩ := M.bind_some hp
    cases M.mode_some h1
    cases b with
    | true => exact closeOutP_ok h hq
    | false => cases hq; exact Ghost.refl h
end

/-! Rows that are own with all that they lead to: append, make, build. No condition. -/
section
variable {P : Program} {E : Env} {β : Base} {L : List Nat} {m : Mem} {env : Names} {w w' : World} {S : Nat → Prop}

theorem DC.one {ty : Ty} {t : T} {v : Value} {bs : List Nat} (h : DC E w ty t v bs) : v.oneCell' = true := by
  cases h with
  | int => rfl
  | bool => rfl
  | str => rfl
  | row fps ho hc hm => rcases ho.2 with ⟨rfl, _⟩ | ⟨g, cap, cur, rfl, _⟩ <;> rfl
theorem run_appendD (hT : tabOk P E = true) {t ty e : Nat} (he : elOk E t e = true) {v vy : Value} {n1 n2 : Nat} {xs ys : List Value} (ho : w.ownsRow 0 e (E.sz e) v n1 xs) (hy : w.ownsRow 0 e (E.sz e) vy n2 ys)
    (hone : ∀ u, u ∈ ys → u.oneCell' = true) (hroom : (n1 + n2) * (E.ti e).bytes ≤ 140737488355328) :
    ∃ v' w', (Builtin.append_ #[t, t] ty #[v, vy]).run P w = .ok v' w' ∧ w'.ownsRow 0 e (E.sz e) v' (n1 + n2) (xs ++ ys) ∧ w.grownBy w' v.ownBlock ∧ (v'.ownBlock = v.ownBlock ∨ v'.ownBlock = some w.heap.size) := by
  obtain ⟨hu, hk, hby, _, _⟩ := elOk_of hT he
  obtain ⟨i, z, hi, hsz, hbytes, hz, hzc, _⟩ := info_of hT hk
  have hpos := known_pos hk
  rcases hy.2 with ⟨rfl, rfl⟩ | ⟨g, cap, cur, rfl, _⟩
  · have : ys = [] := List.eq_nil_of_length_eq_zero (by rw [hy.1]; simp)
    subst this
    exact ⟨v, w, run_append_owned_none w 0 t ty e i (E.sz e) hu hi v _ xs ho, by simpa using ho, ⟨rfl, rfl, rfl, Nat.le_refl _, fun _ _ _ => rfl⟩, .inl rfl⟩
  · have hmul : n1 + n2 ≤ (n1 + n2) * (E.ti e).bytes := Nat.le_mul_of_pos_right _ (by omega)
    obtain ⟨v', w', hrun, hown', hgrow, _, hblk⟩ := run_append_own_at (P := P) w 0 t ty e i z (E.sz e) (E.ti e).bytes hu hi hz hsz hbytes (by have := congrArg List.length hzc; simpa [Env.sz] using this) hpos v n1 xs ho
      ⟨g, 0, none⟩ n2 cap ys hy.1 (fun j u hju => hy.cells rfl j u hju) hone (by simp only [maxLen]; omega) hroom (Nat.zero_le _)
    exact ⟨v', w', hrun, hown', hgrow, hblk⟩
theorem mem_one {e : Nat} {es : List (List T)} {ys : List Value} {v : Value} {fps : Nat → List Nat} (ho : w.ownsRow 0 e (E.sz e) v es.length ys) (hc : ∀ i j, i < es.length → j < E.sz e → DC E w (tyAt E e j) (tAt es i j) (ys[i * E.sz e + j]?.getD undef) (fps (i * E.sz e + j))) :
    ∀ u, u ∈ ys → u.oneCell' = true := by
  intro u hu
  obtain ⟨q, hq⟩ := List.getElem?_of_mem hu
  have hlt : q < es.length * E.sz e := by rw [← ho.1]; exact (List.getElem?_eq_some_iff.1 hq).1
  have hsz : 0 < E.sz e := by
    rcases Nat.eq_zero_or_pos (E.sz e) with h0 | h0
    · rw [h0] at hlt; simp at hlt
    · exact h0
  have := (hc (q / E.sz e) (q % E.sz e) (Nat.div_lt_of_lt_mul (by rw [Nat.mul_comm]; exact hlt)) (Nat.mod_lt q hsz)).one
  rw [Nat.div_add_mod', hq] at this; exact this
theorem appendD_ok (hT : tabOk P E = true) (h : Heap E β [] m env w) {t ty dst : Nat} {x y : A} {vx vy : Value} (hx : RV E env w (stills β [] m env w) x vx) (hy : RV E env w (stills β [] m env w) y vy) {a : A} {m' : Mem} {p p' : FP}
    (hp : (appendD E dst t x y).ev m p = some (a, m', p')) : Gives P E β m env w (Builtin.append_ #[t, t] ty #[vx, vy]) a m' := by
  unfold appendD at hp
  obtain ⟨he, hp1⟩ := M.bif_some hp
  clear hp
  generalize E.elem t = e at he hp1
  obtain ⟨ax, m1, p1, h1, hq⟩ := M.bind_some hp1
  obtain ⟨ay, m2, p2, h2, hq2⟩ := M.bind_some hq
  obtain ⟨hc, hq3⟩ := M.chk_some hq2
  have hroom := of_decide_eq_true hc
  obtain ⟨_, m3, p3, h3, hq4⟩ := M.bind_some hq3
  obtain ⟨hn, rfl⟩ := M.new_some h3
  cases hq4
  have hx1 : RV1 E env w (stills β [] m env w) x vx := by cases x <;> first | exact hx | (unfold give at h1; cases h1)
  obtain ⟨b1, g1, g2, es1, rfl, d1⟩ := give_ok h hx1 h1
  rw [List.nil_append] at g1 g2
  have hy0 := hy.mono (Names.le_refl _) g2.still
  have hy1 : RV1 E env w (stills β b1 m1 env w) y vy := by cases y <;> first | exact hy0 | (unfold give at h2; cases h2)
  obtain ⟨b2, k1, k2, es2, rfl, d2⟩ := give_ok g1 hy1 h2
  obtain ⟨hn1, hn2, hn3⟩ := List.nodup_append.1 k1.nodup
  cases d1 with
  | @row _ _ _ xs _ fps1 ho1 hc1 hm1 =>
  cases d2 with
  | @row _ _ _ ys _ fps2 ho2 hc2 hm2 =>
  obtain ⟨v', w', hrun, ho', hg, hb⟩ := run_appendD (P := P) (ty := ty) hT he ho1 ho2 (mem_one ho2 hc2) hroom
  have hxl : xs.length = es1.length * E.sz e := ho1.1
  let fps : Nat → List Nat := fun q => if q < es1.length * E.sz e then fps1 q else fps2 (q - es1.length * E.sz e)
  have hadd : (es1.length + es2.length) * E.sz e = es1.length * E.sz e + es2.length * E.sz e := Nat.add_mul _ _ _
  have hfp : ∀ q b, q < (es1.length + es2.length) * E.sz e → b ∈ fps q → (q < es1.length * E.sz e ∧ b ∈ fps1 q ∧ b ∈ b1) ∨ (es1.length * E.sz e ≤ q ∧ q - es1.length * E.sz e < es2.length * E.sz e ∧ b ∈ fps2 (q - es1.length * E.sz e) ∧ b ∈ b2) := fun q b hq hb => by
    simp only [fps] at hb
    split at hb
    · rename_i hlt; exact .inl ⟨hlt, hb, (hm1.mem b).2 (.inr ⟨q, hlt, hb⟩)⟩
    · rename_i hlt; exact .inr ⟨by omega, by omega, hb, (hm2.mem b).2 (.inr ⟨_, by omega, hb⟩)⟩
  have hold : ∀ b, b ∈ b1 ++ b2 → b < w.heap.size := fun b hb => (k1.inL b hb).1
  have hnb : ∀ q b, q < (es1.length + es2.length) * E.sz e → b ∈ fps q → vx.ownBlock ≠ some b := fun q b hq hb hv => by
    rcases hfp q b hq hb with ⟨h5, h6, _⟩ | ⟨_, h5, h6, h7⟩
    · exact hm1.d1 q b h5 h6 hv
    · exact hn3 b ((hm1.mem b).2 (.inl hv)) b h7 rfl
  obtain ⟨F, hF⟩ := Foot.ex v'.ownBlock ((es1.length + es2.length) * E.sz e) fps (fun q hq => by
      simp only [fps]; split
      · rename_i hlt
        obtain ⟨a1, a2, a3⟩ := div_pair hlt
        have := hc1 _ _ a1 a2
        rw [a3] at this; exact this.nodup
      · rename_i hlt
        obtain ⟨a1, a2, a3⟩ := div_pair (show q - es1.length * E.sz e < es2.length * E.sz e by omega)
        have := hc2 _ _ a1 a2
        rw [a3] at this; exact this.nodup) (fun q b hq hbq hv => by
      rcases hb with h5 | h5
      · exact hnb q b hq hbq (by rw [← h5]; exact hv)
      · rw [h5] at hv; cases hv
        rcases hfp q _ hq hbq with ⟨_, _, h6⟩ | ⟨_, _, _, h6⟩
        · have := hold _ (List.mem_append_left _ h6); omega
        · have := hold _ (List.mem_append_right _ h6); omega) (fun q r b hq hr hbq hbr => by
      rcases hfp q b hq hbq with ⟨a1, a2, a3⟩ | ⟨a0, a1, a2, a3⟩ <;> rcases hfp r b hr hbr with ⟨c1, c2, c3⟩ | ⟨c0, c1, c2, c3⟩
      · exact hm1.d2 q r b a1 c1 a2 c2
      · exact (hn3 b a3 b c3 rfl).elim
      · exact (hn3 b c3 b a3 rfl).elim
      · have := hm2.d2 _ _ b a1 c1 a2 c2; omega)
  have hown : ∀ b, owns (m2.put (dst, 0) (.deep e (es1 ++ es2) none)) (env.putD (dst, 0) v' F) (dst, 0) b ↔ b ∈ F := fun b => by simp [owns, put_self, Names.putD_fp]
  have hkeep : ∀ b, b < w.heap.size → vx.ownBlock ≠ some b → w'.heap[b]? = w.heap[b]? := fun b hb hv => hg.block b hb (fun e => hv e.symm)
  obtain ⟨q1, q2, q3⟩ := k1.oneD (w' := w') (L' := []) (dst, 0) (.deep e (es1 ++ es2) none) v' F (.inl (k1.dom _ hn)) (fun _ => by
      refine ⟨v', xs ++ ys, fps, Names.putD_self _ _ _ _, by rw [List.length_append]; exact ho', fun i j hi hj _ _ => ?_, fun _ _ _ h => (by cases h), by rw [Names.putD_fp, List.length_append]; exact hF⟩
      rw [List.length_append] at hi
      by_cases hlt : i < es1.length
      · have hk2 := idx_lt (sz := E.sz e) hlt hj
        have hat : tAt (es1 ++ es2) i j = tAt es1 i j := by simp [tAt, List.getD_eq_getElem?_getD, List.getElem?_append_left hlt]
        rw [hat, List.getElem?_append_left (by rw [hxl]; exact hk2)]
        simp only [fps, if_pos hk2]
        refine (hc1 i j hlt hj).mono fun b hb => hkeep b (hold b (List.mem_append_left _ ((hm1.mem b).2 (.inr ⟨_, hk2, hb⟩)))) (hm1.d1 _ b hk2 hb)
      · obtain ⟨q, rfl⟩ : ∃ q, i = es1.length + q := ⟨i - es1.length, by omega⟩
        have hq : q < es2.length := by omega
        have hk2 := idx_lt (sz := E.sz e) hq hj
        have hat : tAt (es1 ++ es2) (es1.length + q) j = tAt es2 q j := by simp [tAt, List.getD_eq_getElem?_getD, List.getElem?_append_right]
        have hidx : (es1.length + q) * E.sz e + j = es1.length * E.sz e + (q * E.sz e + j) := by rw [Nat.add_mul]; omega
        rw [hat, hidx, List.getElem?_append_right (by rw [hxl]; omega), hxl, Nat.add_sub_cancel_left]
        simp only [fps]
        rw [if_neg (by omega), Nat.add_sub_cancel_left]
        have hb2 : ∀ b, b ∈ fps2 (q * E.sz e + j) → b ∈ b2 := fun b hb => (hm2.mem b).2 (.inr ⟨_, hk2, hb⟩)
        refine (hc2 q j hq hj).mono fun b hb => hkeep b (hold b (List.mem_append_right _ (hb2 b hb))) (fun hv => hn3 b ((hm1.mem b).2 (.inl hv)) b (hb2 b hb) rfl))
    (fun b hb => by simp at hb) (fun b hb => by simp at hb) List.nodup_nil
    (fun b hb' => by
      rcases (hF.mem b).1 ((hown b).1 hb') with h5 | ⟨q, hq, h5⟩
      · refine ⟨(ho'.lt b h5).2, ?_⟩
        rcases hb with h6 | h6
        · exact .inr (.inr (List.mem_append_left _ ((hm1.mem b).2 (.inl (by rw [← h6]; exact h5)))))
        · rw [h6] at h5; cases h5; exact .inr (.inl (Nat.le_refl _))
      · have hmem : b ∈ b1 ++ b2 := by
          rcases hfp q b hq h5 with ⟨_, _, h6⟩ | ⟨_, _, _, h6⟩
          · exact List.mem_append_left _ h6
          · exact List.mem_append_right _ h6
        exact ⟨Nat.lt_of_lt_of_le (hold b hmem) hg.size, .inr (.inr hmem)⟩)
    (fun b hb' _ hbL => hkeep b hb' (fun hv => hbL (List.mem_append_left _ ((hm1.mem b).2 (.inl hv))))) hg.os hg.tape hg.output hg.size
  refine ⟨v', w', _, hrun, ⟨Names.putD_self _ _ _ _, ?_⟩, q1, q2, g2.still.trans (k2.still.trans q3)⟩
  rcases ho'.2 with ⟨rfl, _⟩ | ⟨g, cap, cur, rfl, _⟩ <;> exact ⟨_, _, _, rfl⟩
theorem deepA_same {x : A} {m m' : Mem} {p p' : FP} {b : Bool × Bool} (h : (deepA x).ev m p = some (b, m', p')) : m = m' := by
  unfold deepA at h
  split at h
  · cases h; rfl
  · obtain ⟨q, h⟩ := M.get_some h
    split at h <;> (cases h; rfl)
  · cases h; rfl
theorem lowA_ok (h : Heap E β L m env w) {x : A} {m' : Mem} {p p' : FP} {u : Unit} (hp : (lowA x).ev m p = some (u, m', p')) : Heap E β L m' env w ∧ Prog β env w L m L m' := by
  unfold lowA at hp
  split at hp
  · exact h.lowD hp
  · cases hp; exact ⟨h, Prog.refl _ _ _ _ _⟩
theorem Gives.still {m1 : Mem} (h : Still w w (stills β [] m env w) (stills β [] m1 env w)) {s : Sem Value} {a : A} {m' : Mem} (hg : Gives P E β m1 env w s a m') : Gives P E β m env w s a m' := by
  obtain ⟨v, w', env', h1, h2, h3, h4, h5⟩ := hg
  exact ⟨v, w', env', h1, h2, h3, h4, h.trans h5⟩
/-- A row is appended, a cell of which is out. -/
theorem appendL_ok (hT : tabOk P E = true) (h : Heap E β [] m env w) {t ty dst : Nat} {x y : A} {vx vy : Value} (hx : RV E env w (stills β [] m env w) x vx) (hy : RV E env w (stills β [] m env w) y vy) {a : A} {m' : Mem} {p p' : FP}
    (hp : (appendL E dst t x y).ev m p = some (a, m', p')) : Gives P E β m env w (Builtin.append_ #[t, t] ty #[vx, vy]) a m' := by
  unfold appendL at hp
  split at hp
  case h_2 => cases hp
  rename_i n
  obtain ⟨he, hp1⟩ := M.bif_some hp
  clear hp
  generalize E.elem t = e at he hp1
  obtain ⟨ax, m1, p1, h1, hq⟩ := M.bind_some hp1
  obtain ⟨q0, hq⟩ := M.get_some hq
  split at hq
  case h_2 => cases hq
  rename_i e' es2 i0 j0 nm hn2
  obtain ⟨hee, hqq⟩ := M.bif_some hq
  clear hq
  obtain ⟨hee1, hj1⟩ := and_some hee
  clear hee
  cases Nat.eq_of_beq_eq_true hee1
  have hj0 : j0 < E.sz e := len_pos hj1
  obtain ⟨q1, hq1⟩ := M.set_some hqq
  obtain ⟨hc, hq3⟩ := M.chk_some hq1
  have hroom := of_decide_eq_true hc
  obtain ⟨_, m3, p3, h3, hq4⟩ := M.bind_some hq3
  obtain ⟨hn, rfl⟩ := M.new_some h3
  cases hq4
  have hx1 : RV1 E env w (stills β [] m env w) x vx := by cases x <;> first | exact hx | (unfold give at h1; cases h1)
  obtain ⟨b1, g1, g2, es1, rfl, d1⟩ := give_ok h hx1 h1
  rw [List.nil_append] at g1 g2
  obtain ⟨hv2, _⟩ := hy
  obtain ⟨v, ys, fps2, e1, ho2, hc2, hh2, hm2⟩ := g1.obj n _ hn2
  rw [hv2] at e1; cases e1
  obtain ⟨hi0, _, hu0, hfp0, hsl0⟩ := hh2 i0 j0 nm rfl hj0
  have hownN : ∀ b, owns m1 env n b ↔ b ∈ env.fp n := fun b => by simp [owns, hn2]
  have hsame := Names.put_same hv2
  have hnone : ∀ b, ¬ owns (m1.put n .dead) (env.put n vy) n b := fun b => by simp [owns, put_self]
  have hkey := g1.one (w' := w) (L' := b1 ++ env.fp n) n .dead vy (.inr hv2) (fun _ => ⟨vy, Names.put_self _ _ _⟩)
    (fun b hb => by
      rcases List.mem_append.1 hb with h5 | h5
      · exact .inl h5
      · exact .inr ((hownN b).2 h5)) (fun b _ => hnone b)
    (by
      refine List.nodup_append.2 ⟨g1.nodup, hm2.nd, fun x hx y hy hxy => ?_⟩
      subst hxy
      exact (g1.inb n x ((hownN x).2 hy)).2.2 hx)
    (fun b hb => (hnone _ hb).elim) (fun _ _ _ _ => rfl) rfl rfl rfl (Nat.le_refl _)
  rw [hsame] at hkey
  obtain ⟨k1, _, kst⟩ := hkey
  obtain ⟨hn1, hnn, hn3⟩ := List.nodup_append.1 k1.nodup
  have hcd : ∀ i j, i < es2.length → j < E.sz e → ¬ (i = i0 ∧ j = j0) → DC E w (tyAt E e j) (tAt es2 i j) (ys[i * E.sz e + j]?.getD undef) (fps2 (i * E.sz e + j)) := fun i j hi hj hne =>
    hc2 i j hi hj (fun n' hx => by cases hx; exact hne ⟨rfl, rfl⟩) (fun k n' hx => by cases hx; exact hj0)
  have hone : ∀ u, u ∈ ys → u.oneCell' = true := by
    intro u hu
    obtain ⟨q, hq⟩ := List.getElem?_of_mem hu
    have hlt : q < es2.length * E.sz e := by rw [← ho2.1]; exact (List.getElem?_eq_some_iff.1 hq).1
    obtain ⟨a1, a2, a3⟩ := div_pair hlt
    by_cases hij : q / E.sz e = i0 ∧ q % E.sz e = j0
    · rw [← hij.1, ← hij.2, a3, hq] at hsl0
      obtain ⟨_, _, _, h5⟩ := hsl0
      rw [Option.getD_some] at h5
      rw [h5]; rfl
    · have := (hcd _ _ a1 a2 hij).one
      rw [a3, hq] at this; exact this
  cases d1 with
  | @row _ _ _ xs _ fps1 ho1 hc1 hm1 =>
  obtain ⟨v', w', hrun, ho', hg, hb⟩ := run_appendD (P := P) (ty := ty) hT he ho1 ho2 hone hroom
  have hxl : xs.length = es1.length * E.sz e := ho1.1
  let fps : Nat → List Nat := fun q => if q < es1.length * E.sz e then fps1 q else fps2 (q - es1.length * E.sz e)
  have hadd : (es1.length + es2.length) * E.sz e = es1.length * E.sz e + es2.length * E.sz e := Nat.add_mul _ _ _
  have hfp : ∀ q b, q < (es1.length + es2.length) * E.sz e → b ∈ fps q → (q < es1.length * E.sz e ∧ b ∈ fps1 q ∧ b ∈ b1) ∨ (es1.length * E.sz e ≤ q ∧ q - es1.length * E.sz e < es2.length * E.sz e ∧ b ∈ fps2 (q - es1.length * E.sz e) ∧ b ∈ env.fp n) := fun q b hq hb => by
    simp only [fps] at hb
    split at hb
    · rename_i hlt; exact .inl ⟨hlt, hb, (hm1.mem b).2 (.inr ⟨q, hlt, hb⟩)⟩
    · rename_i hlt; exact .inr ⟨by omega, by omega, hb, (hm2.mem b).2 (.inr ⟨_, by omega, hb⟩)⟩
  have hold : ∀ b, b ∈ b1 ++ env.fp n → b < w.heap.size := fun b hb => (k1.inL b hb).1
  have hnb : ∀ q b, q < (es1.length + es2.length) * E.sz e → b ∈ fps q → vx.ownBlock ≠ some b := fun q b hq hb hv => by
    rcases hfp q b hq hb with ⟨h5, h6, _⟩ | ⟨_, h5, h6, h7⟩
    · exact hm1.d1 q b h5 h6 hv
    · exact hn3 b ((hm1.mem b).2 (.inl hv)) b h7 rfl
  obtain ⟨F, hF⟩ := Foot.ex v'.ownBlock ((es1.length + es2.length) * E.sz e) fps (fun q hq => by
      simp only [fps]; split
      · rename_i hlt
        obtain ⟨a1, a2, a3⟩ := div_pair hlt
        have := hc1 _ _ a1 a2
        rw [a3] at this; exact this.nodup
      · rename_i hlt
        obtain ⟨a1, a2, a3⟩ := div_pair (show q - es1.length * E.sz e < es2.length * E.sz e by omega)
        by_cases hij : (q - es1.length * E.sz e) / E.sz e = i0 ∧ (q - es1.length * E.sz e) % E.sz e = j0
        · rw [← hij.1, ← hij.2, a3] at hfp0
          rw [hfp0]; exact List.nodup_nil
        · have := hcd _ _ a1 a2 hij
          rw [a3] at this; exact this.nodup) (fun q b hq hbq hv => by
      rcases hb with h5 | h5
      · exact hnb q b hq hbq (by rw [← h5]; exact hv)
      · rw [h5] at hv; cases hv
        rcases hfp q _ hq hbq with ⟨_, _, h6⟩ | ⟨_, _, _, h6⟩
        · have := hold _ (List.mem_append_left _ h6); omega
        · have := hold _ (List.mem_append_right _ h6); omega) (fun q r b hq hr hbq hbr => by
      rcases hfp q b hq hbq with ⟨a1, a2, a3⟩ | ⟨a0, a1, a2, a3⟩ <;> rcases hfp r b hr hbr with ⟨c1, c2, c3⟩ | ⟨c0, c1, c2, c3⟩
      · exact hm1.d2 q r b a1 c1 a2 c2
      · exact (hn3 b a3 b c3 rfl).elim
      · exact (hn3 b c3 b a3 rfl).elim
      · have := hm2.d2 _ _ b a1 c1 a2 c2; omega)
  have hown : ∀ b, owns ((m1.put n .dead).put (dst, 0) (.deep e (es1 ++ es2) (some (es1.length + i0, j0, nm)))) (env.putD (dst, 0) v' F) (dst, 0) b ↔ b ∈ F := fun b => by simp [owns, put_self, Names.putD_fp]
  have hkeep : ∀ b, b < w.heap.size → vx.ownBlock ≠ some b → w'.heap[b]? = w.heap[b]? := fun b hb hv => hg.block b hb (fun e => hv e.symm)
  have hidx : ∀ q j, (es1.length + q) * E.sz e + j = es1.length * E.sz e + (q * E.sz e + j) := fun q j => by rw [Nat.add_mul]; omega
  have hcell2 : ∀ q j, q < es2.length → j < E.sz e → (xs ++ ys)[(es1.length + q) * E.sz e + j]? = ys[q * E.sz e + j]? ∧ fps ((es1.length + q) * E.sz e + j) = fps2 (q * E.sz e + j) := fun q j hq hj => by
    refine ⟨by rw [hidx, List.getElem?_append_right (by rw [hxl]; omega), hxl, Nat.add_sub_cancel_left], ?_⟩
    rw [hidx]
    simp only [fps]
    rw [if_neg (by omega), Nat.add_sub_cancel_left]
  have hnm : nm ≠ (dst, 0) := fun hx => by
    rw [hx, k1.dom _ hn] at hu0; cases hu0
  obtain ⟨q1, q2, q3⟩ := k1.oneD (w' := w') (L' := []) (dst, 0) (.deep e (es1 ++ es2) (some (es1.length + i0, j0, nm))) v' F (.inl (k1.dom _ hn)) (fun _ => by
      refine ⟨v', xs ++ ys, fps, Names.putD_self _ _ _ _, by rw [List.length_append]; exact ho', fun i j hi hj hnh _ => ?_, fun i j n' hx hj => ?_, by rw [Names.putD_fp, List.length_append]; exact hF⟩
      · rw [List.length_append] at hi
        by_cases hlt : i < es1.length
        · have hk2 := idx_lt (sz := E.sz e) hlt hj
          have hat : tAt (es1 ++ es2) i j = tAt es1 i j := by simp [tAt, List.getD_eq_getElem?_getD, List.getElem?_append_left hlt]
          rw [hat, List.getElem?_append_left (by rw [hxl]; exact hk2)]
          simp only [fps, if_pos hk2]
          refine (hc1 i j hlt hj).mono fun b hb => hkeep b (hold b (List.mem_append_left _ ((hm1.mem b).2 (.inr ⟨_, hk2, hb⟩)))) (hm1.d1 _ b hk2 hb)
        · obtain ⟨q, rfl⟩ : ∃ q, i = es1.length + q := ⟨i - es1.length, by omega⟩
          have hq : q < es2.length := by omega
          have hk2 := idx_lt (sz := E.sz e) hq hj
          have hat : tAt (es1 ++ es2) (es1.length + q) j = tAt es2 q j := by simp [tAt, List.getD_eq_getElem?_getD, List.getElem?_append_right]
          rw [hat, (hcell2 q j hq hj).1, (hcell2 q j hq hj).2]
          have hb2 : ∀ b, b ∈ fps2 (q * E.sz e + j) → b ∈ env.fp n := fun b hb => (hm2.mem b).2 (.inr ⟨_, hk2, hb⟩)
          refine (hcd q j hq hj (fun hx => hnh nm (by rw [hx.1, hx.2]))).mono fun b hb => hkeep b (hold b (List.mem_append_right _ (hb2 b hb))) (fun hv => hn3 b ((hm1.mem b).2 (.inl hv)) b (hb2 b hb) rfl)
      · cases hx
        refine ⟨by rw [List.length_append]; omega, hj0, ?_, ?_, ?_⟩
        · rw [(hcell2 i0 j0 hi0 hj0).1, Names.putD_ne _ _ _ hnm]; exact hu0
        · rw [(hcell2 i0 j0 hi0 hj0).2]; exact hfp0
        · rw [(hcell2 i0 j0 hi0 hj0).1]; exact hsl0)
    (fun b hb => by simp at hb) (fun b hb => by simp at hb) List.nodup_nil
    (fun b hb' => by
      rcases (hF.mem b).1 ((hown b).1 hb') with h5 | ⟨q, hq, h5⟩
      · refine ⟨(ho'.lt b h5).2, ?_⟩
        rcases hb with h6 | h6
        · exact .inr (.inr (List.mem_append_left _ ((hm1.mem b).2 (.inl (by rw [← h6]; exact h5)))))
        · rw [h6] at h5; cases h5; exact .inr (.inl (Nat.le_refl _))
      · have hmem : b ∈ b1 ++ env.fp n := by
          rcases hfp q b hq h5 with ⟨_, _, h6⟩ | ⟨_, _, _, h6⟩
          · exact List.mem_append_left _ h6
          · exact List.mem_append_right _ h6
        exact ⟨Nat.lt_of_lt_of_le (hold b hmem) hg.size, .inr (.inr hmem)⟩)
    (fun b hb' _ hbL => hkeep b hb' (fun hv => hbL (List.mem_append_left _ ((hm1.mem b).2 (.inl hv))))) hg.os hg.tape hg.output hg.size
  refine ⟨v', w', _, hrun, ⟨Names.putD_self _ _ _ _, ?_⟩, q1, q2, g2.still.trans (kst.trans q3)⟩
  rcases ho'.2 with ⟨rfl, _⟩ | ⟨g, cap, cur, rfl, _⟩ <;> exact ⟨_, _, _, rfl⟩
theorem appendX_ok (hT : tabOk P E = true) (h : Heap E β [] m env w) {t ty dst : Nat} {x y : A} {vx vy : Value} (hx : RV E env w (stills β [] m env w) x vx) (hy : RV E env w (stills β [] m env w) y vy) {a : A} {m' : Mem} {p p' : FP}
    (hp : (appendX E dst t x y).ev m p = some (a, m', p')) : Gives P E β m env w (Builtin.append_ #[t, t] ty #[vx, vy]) a m' := by
  unfold appendX at hp
  cases hpl : E.plain (E.elem t) with
  | true => rw [hpl] at hp; exact appendM_ok hT h hx hy hp
  | false =>
    rw [hpl] at hp
    obtain ⟨md, m1, p1, h1, hq⟩ := M.bind_some hp
    cases M.mode_some h1
    obtain ⟨dx, m2, p2, h2, hq2⟩ := M.bind_some hq
    cases deepA_same h2
    obtain ⟨dy, m3, p3, h3, hq3⟩ := M.bind_some hq2
    cases deepA_same h3
    obtain ⟨ly, m9, p9, h9, hq9⟩ := M.bind_some hq3
    cases lateA_same h9
    replace hq9 := (show (bif dx.1 && ly then appendL E dst t x y else bif dx.1 && dy.1 && (dx.2 || (md && dy.2)) then appendD E dst t x y else (lowA x).bind fun _ => (lowA y).bind fun _ => appendM E dst t x y).ev m p9 = some (a, m', p') from hq9)
    cases hl : (dx.1 && ly) with
    | true => rw [hl] at hq9; exact appendL_ok hT h hx hy hq9
    | false =>
    rw [hl] at hq9
    replace hq3 := (show (bif dx.1 && dy.1 && (dx.2 || (md && dy.2)) then appendD E dst t x y else (lowA x).bind fun _ => (lowA y).bind fun _ => appendM E dst t x y).ev m p9 = some (a, m', p') from hq9)
    clear hq9
    cases hb : (dx.1 && dy.1 && (dx.2 || (md && dy.2))) with
    | true => rw [hb] at hq3; exact appendD_ok hT h hx hy hq3
    | false =>
      rw [hb] at hq3
      obtain ⟨_, m4, p4, h4, hq4⟩ := M.bind_some (show ((lowA x).bind fun _ => (lowA y).bind fun _ => appendM E dst t x y).ev m p9 = _ from hq3)
      obtain ⟨_, m5, p5, h5, hq5⟩ := M.bind_some hq4
      obtain ⟨g1, g2⟩ := lowA_ok h h4
      obtain ⟨k1, k2⟩ := lowA_ok g1 h5
      have hst := g2.still.trans k2.still
      exact (appendM_ok hT k1 (hx.mono (Names.le_refl _) hst) (hy.mono (Names.le_refl _) hst) hq5).still hst
/-- A new deep row, in a world that grew alone. -/
theorem Heap.deepNew (h : Heap E β L m env w) {n : Nm} (hn : m n = none) {e : Nat} {es : List (List T)} {v : Value} {xs : List Value} {fps : Nat → List Nat} (hg : w.grownBy w' none)
    (ho : w'.ownsRow 0 e (E.sz e) v es.length xs) (hc : ∀ i j, i < es.length → j < E.sz e → DC E w (tyAt E e j) (tAt es i j) (xs[i * E.sz e + j]?.getD undef) (fps (i * E.sz e + j))) (hv : ∀ b, v.ownBlock = some b → w.heap.size ≤ b)
    (hfL : ∀ q b, q < es.length * E.sz e → b ∈ fps q → b ∈ L) (hfd : ∀ q r b, q < es.length * E.sz e → r < es.length * E.sz e → b ∈ fps q → b ∈ fps r → q = r) :
    ∃ env', Heap E β [] (m.put n (.deep e es none)) env' w' ∧ env.le env' ∧ Still w w' (stills β L m env w) (stills β [] (m.put n (.deep e es none)) env' w') ∧ env' n = some v ∧ ∃ a l c, v = .slice a l c := by
  obtain ⟨F, hF⟩ := Foot.ex v.ownBlock (es.length * E.sz e) fps (fun q hq => by
      obtain ⟨a1, a2, a3⟩ := div_pair hq
      have := hc _ _ a1 a2
      rw [a3] at this; exact this.nodup) (fun q b hq hb hvb => by
      have h5 := hv b hvb
      have h6 := (h.inL b (hfL q b hq hb)).1
      omega) hfd
  have hown : ∀ b, owns (m.put n (.deep e es none)) (env.putD n v F) n b ↔ b ∈ F := fun b => by simp [owns, put_self, Names.putD_fp]
  have hkeep : ∀ b, b < w.heap.size → w'.heap[b]? = w.heap[b]? := fun b hb => hg.block b hb (by simp)
  obtain ⟨q1, q2, q3⟩ := h.oneD (w' := w') (L' := []) n (.deep e es none) v F (.inl (h.dom _ hn)) (fun _ => by
      refine ⟨v, xs, fps, Names.putD_self _ _ _ _, ho, fun i j hi hj _ _ => (hc i j hi hj).mono fun b hb => hkeep b (h.inL b (hfL _ b (idx_lt hi hj) hb)).1, fun _ _ _ h => (by cases h), by rw [Names.putD_fp]; exact hF⟩)
    (fun b hb => by simp at hb) (fun b hb => by simp at hb) List.nodup_nil
    (fun b hb => by
      rcases (hF.mem b).1 ((hown b).1 hb) with h5 | ⟨q, hq, h5⟩
      · exact ⟨(ho.lt b h5).2, .inr (.inl (hv b h5))⟩
      · exact ⟨Nat.lt_of_lt_of_le (h.inL b (hfL q b hq h5)).1 hg.size, .inr (.inr (hfL q b hq h5))⟩)
    (fun b hb _ _ => hkeep b hb) hg.os hg.tape hg.output hg.size
  refine ⟨_, q1, q2, q3, Names.putD_self _ _ _ _, ?_⟩
  rcases ho.2 with ⟨rfl, _⟩ | ⟨g, cap, cur, rfl, _⟩ <;> exact ⟨_, _, _, rfl⟩
theorem DC_zero {ty : Ty} (h : ty.notPtr = true) : DC E w ty (zeroT ty) (zeroV ty) [] := by
  cases ty with
  | int => exact .int
  | bool => exact .bool
  | str => exact .str
  | row e => exact .row (xs := []) (fun _ => []) (World.ownsRow_nil w 0 _ _) (fun i j hi => by simp at hi) ⟨fun b => by simp [Value.ownBlock, zeroV], List.nodup_nil, fun p b _ h => by simp at h, fun p q b _ _ h => by simp at h⟩
  | ptr => cases h
  | deep => cases h
theorem makeX_ok (hT : tabOk P E = true) (h : Heap E β [] m env w) {t dst : Nat} {x y : A} {vx vy : Value} (hx : RV E env w (stills β [] m env w) x vx) (hy : RV E env w (stills β [] m env w) y vy) {a : A} {m' : Mem} {p p' : FP}
    (hp : (makeX E dst t x y).ev m p = some (a, m', p')) : Gives P E β m env w (Instr.makeSlice t vx vy) a m' := by
  unfold makeX at hp
  cases hpl : E.plain (E.elem t) with
  | true => rw [hpl] at hp; exact makeM_ok hT h hx hy hp
  | false =>
    rw [hpl] at hp
    obtain ⟨md, m1, p1, h1, hq⟩ := M.bind_some hp
    cases M.mode_some h1
    cases md with
    | false => exact makeM_ok hT h hx hy hq
    | true =>
      have hq := (show (makeD E dst t x y).ev m p1 = some (a, m', p') from hq)
      clear hp hpl
      unfold makeD at hq
      split at hq
      · rename_i n c _
        obtain ⟨he, hp1⟩ := M.bif_some hq
        clear hq
        generalize E.elem t = e at he hp1
        obtain ⟨hc, hq⟩ := M.chk_some hp1
        obtain ⟨_, m1, p1, h1, hq1⟩ := M.bind_some hq
        obtain ⟨hn, rfl⟩ := M.new_some h1
        cases hq1
        obtain ⟨hc1, hc2⟩ := and_some hc
        obtain ⟨hc3, hc4⟩ := and_some hc1
        have hnc : n = c := of_decide_eq_true hc3
        subst hnc
        have hc4 := of_decide_eq_true hc4
        have hc2 := of_decide_eq_true hc2
        obtain ⟨k, rfl⟩ : ∃ k : Nat, n = (k : Int) := ⟨n.toNat, (Int.toNat_of_nonneg hc4).symm⟩
        have hx : vx = .int .i64 (k : Int) := hx
        have hy : vy = .int .i64 (k : Int) := hy
        subst hx; subst hy
        obtain ⟨hu, hk, hby, hnp, _⟩ := elOk_of hT he
        obtain ⟨i, z, hi, hsz, hbytes, hz, hzc, _⟩ := info_of hT hk
        have hpos := known_pos hk
        have hc2' : k * (E.ti e).bytes ≤ 140737488355328 := by
          have h9 : ((k * (E.ti e).bytes : Nat) : Int) ≤ 140737488355328 := by rw [Int.natCast_mul]; exact hc2
          omega
        have hmul : k ≤ k * (E.ti e).bytes := Nat.le_mul_of_pos_right _ (by omega)
        have hcomm : i.bytes * k = k * (E.ti e).bytes := by rw [hbytes, Nat.mul_comm]
        obtain ⟨w', hrun, ho, hg⟩ := run_make_full (P := P) w 0 t e i z (E.sz e) hu hi hz hsz .i64 .i64 k (by omega) (by simp only [maxLen]; omega) (Nat.zero_le _)
        have hzl : z.cells.size = E.sz e := by have := congrArg List.length hzc; simpa [Env.sz] using this
        have hlen : (List.replicate (k : Int).toNat (zerosT E e)).length = k := by simp
        obtain ⟨env', k1, k2, k3, k4, k5⟩ := h.deepNew (es := List.replicate (k : Int).toNat (zerosT E e)) (fps := fun _ => []) hn hg (by rw [hlen]; exact ho) (fun i' j hi' hj => by
          rw [hlen] at hi'
          have hlt : i' * E.sz e + j < k * E.sz e := idx_lt hi' hj
          have hj' : j < (E.flat e).length := hj
          have hcell : z.cells[j]? = some (zeroV (tyAt E e j)) := by
            rw [← Array.getElem?_toList, hzc, List.getElem?_map, List.getElem?_eq_getElem hj']
            simp [tyAt, List.getD_eq_getElem?_getD, List.getElem?_eq_getElem hj']
          have hjz : j < z.cells.size := by rw [hzl]; exact hj
          have hval : (madeCells z.cells (k * E.sz e)).toList[i' * E.sz e + j]? = some (zeroV (tyAt E e j)) := by
            simp only [madeCells, Array.getElem?_toList, Array.getElem?_map, Array.getElem?_range, hlt, if_true, Option.map_some]
            rw [hzl, (idx_div hj).2]
            rw [Array.getElem?_eq_getElem hjz] at hcell
            have hcell := Option.some.inj hcell
            simp [hjz, hcell]
          have hat : tAt (List.replicate (k : Int).toNat (zerosT E e)) i' j = zeroT (tyAt E e j) := by
            simp [tAt, zerosT, tyAt, List.getD_eq_getElem?_getD, hi', List.getElem?_eq_getElem hj']
          rw [hat, hval]
          refine DC_zero ?_
          simp only [tyAt, List.getD_eq_getElem?_getD, List.getElem?_eq_getElem hj', Option.getD_some]
          exact List.all_eq_true.1 hnp _ (List.getElem_mem hj')) (fun b hb => by
          simp [Value.ownBlock] at hb; subst hb; exact Nat.le_refl _) (fun q b _ hb => by simp at hb) (fun q r b _ _ hb => by simp at hb)
        exact ⟨_, w', _, hrun, ⟨k4, k5⟩, k1, k2, k3⟩
      · cases hq
end

/-! Rows that are written out. No condition. -/
section
variable {P : Program} {E : Env} {β : Base} {L : List Nat} {m : Mem} {env : Names} {w w' : World} {S : Nat → Prop}

theorem rowD_ok {σ : St} {a : Act} {e N : Nat} : ∀ {ps : List (Nat × Operand)} {j : Nat} {L : List Nat} {m m' : Mem} {p p' : FP} {es : List (List T)} {cells : Array Value}, Heap E β L m env w → (∀ i, RV E env w (stills β L m env w) (σ.sl i) (a.eval (.tmp i))) →
    (rowD E σ e j ps).ev m p = some (es, m', p') → cells.size = N * E.sz e → j + ps.length ≤ N →
    ∃ (cells' : Array Value) (bs : List Nat) (fps : Nat → List Nat), Instr.fill (fun i => some (i * E.sz e, E.sz e)) cells (ps.map fun q => (q.1, a.eval q.2)) = some cells' ∧ cells'.size = N * E.sz e ∧ es.length = ps.length ∧ Heap E β (L ++ bs) m' env w ∧ Prog β env w L m (L ++ bs) m' ∧
      (∀ x, x < j * E.sz e → cells'[x]? = cells[x]?) ∧ (∀ i k, i < es.length → k < E.sz e → DC E w (tyAt E e k) (tAt es i k) (cells'[(j + i) * E.sz e + k]?.getD undef) (fps (i * E.sz e + k))) ∧
      (∀ q b, b ∈ fps q → b ∈ bs) ∧ ∀ q r b, q < es.length * E.sz e → r < es.length * E.sz e → b ∈ fps q → b ∈ fps r → q = r
  | [], j, L, m, m', p, p', es, cells, h, hs, hp, hc, hN => by
    unfold rowD at hp; cases hp
    exact ⟨cells, [], fun _ => [], rfl, hc, rfl, by simpa using h, by simpa using Prog.refl β env w L m, fun _ _ => rfl, fun i k hi => by simp at hi, fun q b hb => by simp at hb, fun q r b hq => by simp at hq⟩
  | (i0, x) :: r, j, L, m, m', p, p', es, cells, h, hs, hp, hc, hN => by
    unfold rowD at hp
    obtain ⟨hk, hp1⟩ := M.bif_some hp
    obtain ⟨hk0, hlen⟩ := and_some hk
    obtain ⟨hk1, hsol⟩ := and_some hk0
    cases Nat.eq_of_beq_eq_true hk1
    obtain ⟨c, m1, p1, h1, hq⟩ := M.bind_some hp1
    obtain ⟨cs, m2, p2, h2, hq2⟩ := M.bind_some hq
    cases hq2
    have hxc := RV_cells hsol (opnd_ok (E := E) hs e x)
    obtain ⟨b1, nfp, g1, g2, l1, l2, d1, d2, d3⟩ := packsD_ok h hxc h1
    have hfl : (E.flat e).length = E.sz e := rfl
    rw [hfl] at l1 l2
    have hvl : (a.eval x).cells.size = E.sz e := by simpa using l2
    have hj1 : (i0 + 1) * E.sz e ≤ N * E.sz e := Nat.mul_le_mul_right _ (by simp at hN; omega)
    rw [Nat.add_mul] at hj1
    obtain ⟨cells1, f1, f2, f3⟩ := fill_cons (place := fun i => some (i * E.sz e, E.sz e)) (i := i0) (off := i0 * E.sz e) (v := a.eval x) (cells := cells) (rest := r.map fun q => (q.1, a.eval q.2)) (by simp only [hvl]) (by rw [hvl]; omega)
    obtain ⟨cells', b2, fps, k1, k2, k3, k4, k5, k6, k7, k8, k9⟩ := rowD_ok (cells := cells1) g1 (fun i => (hs i).mono (Names.le_refl _) g2.still) h2 (f2.trans hc) (by simp at hN; omega)
    rw [List.append_assoc] at k4 k5
    have hget : ∀ y, cells1[y]? = if i0 * E.sz e ≤ y ∧ y < i0 * E.sz e + E.sz e then (a.eval x).cells.toList[y - i0 * E.sz e]? else cells[y]? := fun y => by
      rw [← Array.getElem?_toList, f3, cut_get _ _ _ _ (by simp [hvl]; omega)]
      simp [hvl]
    have hdis : ∀ b, b ∈ b1 → b ∈ b2 → False := fun b hb hb' => by
      have := (List.nodup_append.1 (List.nodup_append.1 k4.nodup).2.1).2.2
      exact this b hb b hb' rfl
    have hsucc : ∀ n : Nat, (n + 1) * E.sz e = n * E.sz e + E.sz e := fun n => by rw [Nat.add_mul, Nat.one_mul]
    refine ⟨cells', b1 ++ b2, fun q => if q < E.sz e then nfp q else fps (q - E.sz e), by rw [List.map_cons, f1]; exact k1, k2, by simp [k3], k4, g2.trans k5, fun y hy => ?_, fun i k hi hk => ?_, fun q b hb => ?_, fun q r' b hq hr hb hb' => ?_⟩
    · rw [k6 y (by rw [Nat.add_mul]; omega), hget, if_neg (by omega)]
    · cases i with
      | zero =>
        have hr := d1 k hk
        simp only [Nat.zero_mul, Nat.zero_add, if_pos hk, Nat.add_zero]
        rw [k6 _ (by rw [Nat.add_mul]; omega), hget, if_pos (by omega), Nat.add_sub_cancel_left]
        exact hr
      | succ i =>
        have hr := k7 i k (by simpa using hi) hk
        simp only []
        rw [if_neg (by rw [hsucc]; omega), show (i + 1) * E.sz e + k - E.sz e = i * E.sz e + k by rw [hsucc]; omega, show i0 + (i + 1) = i0 + 1 + i by omega]
        simpa [tAt] using hr
    · simp only [] at hb
      split at hb
      · exact List.mem_append_left _ (d2 q b hb)
      · exact List.mem_append_right _ (k8 _ b hb)
    · simp only [List.length_cons, hsucc] at hq hr
      simp only [] at hb hb'
      split at hb <;> split at hb'
      · exact d3 q r' b hb hb'
      · exact (hdis b (d2 q b hb) (k8 _ b hb')).elim
      · exact (hdis b (d2 r' b hb') (k8 _ b hb)).elim
      · have := k9 _ _ b (by omega) (by omega) hb hb'; omega
theorem buildD_ok (hT : tabOk P E = true) {σ : St} {a : Act} (h : Heap E β [] m env w) (hs : ∀ i, RV E env w (stills β [] m env w) (σ.sl i) (a.eval (.tmp i))) {t n dst : Nat} {ps : Array (Nat × Operand)} {r : A} {m' : Mem} {p p' : FP}
    (hp : (buildD E σ dst t n ps).ev m p = some (r, m', p')) :
    Gives P E β m env w (Instr.buildSlice t n (ps.map fun (i, x) => (i, a.eval x))) r m' := by
  unfold buildD at hp
  obtain ⟨hc, hp1⟩ := M.bif_some hp
  clear hp
  generalize E.elem t = e at hc hp1
  obtain ⟨hc1, hle⟩ := and_some hc
  obtain ⟨he, hn⟩ := and_some hc1
  have hle := len_pos hle
  have hn := Nat.eq_of_beq_eq_true hn
  obtain ⟨es, m1, p1, h1, hq⟩ := M.bind_some hp1
  obtain ⟨_, m2, p2, h2, hq2⟩ := M.bind_some hq
  obtain ⟨hnew, rfl⟩ := M.new_some h2
  cases hq2
  obtain ⟨hu, hk, hby, hnp, _⟩ := elOk_of hT he
  obtain ⟨i, z, hi, hsz, hbytes, hz, hzc, _⟩ := info_of hT hk
  have hpos := known_pos hk
  obtain ⟨cells', bs, fps, k1, k2, k3, k4, k5, k6, k7, k8, k9⟩ := rowD_ok (N := n) (cells := (Array.range (n * E.sz e)).map ((if n * E.sz e = 0 then #[] else z.cells)[· % (if n * E.sz e = 0 then #[] else z.cells).size]!)) h hs h1 (by simp) (by omega)
  rw [List.nil_append] at k4 k5
  have hnm : n ≤ maxLen := by
    have := Nat.le_mul_of_pos_right n (show 0 < E.sz e by omega)
    simp only [maxLen]; omega
  have hlen : es.length = n := by rw [k3, hn]
  obtain ⟨env', g1, g2, g3, g4, g5⟩ := k4.deepNew (es := es) (fps := fps) (w' := w.alloc (.cells cells' e)) (v := .slice (some ⟨w.heap.size, 0, none⟩) es.length es.length) (xs := cells'.toList) hnew
    ⟨rfl, rfl, rfl, by simp, fun b hb _ => heap_alloc_old w _ b hb⟩ (World.ownsRow_lit w cells' es.length (Nat.zero_le _) (by rw [hlen]; exact hnm) (by rw [k2, hlen])) (fun i j hi hj => by
      rw [Array.getElem?_toList]
      simpa using k7 i j hi hj) (fun b hb => by simp [Value.ownBlock] at hb; subst hb; exact Nat.le_refl _) (fun q b _ hb => k8 q b hb) k9
  refine ⟨_, _, _, ?_, ⟨g4, g5⟩, g1, g2, k5.still.trans g3⟩
  have hzero : (zeroValue e).run P w = .ok z w := by simp [zeroValue, typeInfo, hi, hz]
  have hfill : Instr.fill (fun i => some (i * E.sz e, E.sz e)) ((Array.range (n * E.sz e)).map ((if n * E.sz e = 0 then #[] else z.cells)[· % (if n * E.sz e = 0 then #[] else z.cells).size]!)) (ps.map fun (i, x) => (i, a.eval x)).toList = some cells' := by
    rw [Array.toList_map]; exact k1
  rw [hlen]
  unfold Instr.buildSlice
  by_cases h0 : n * E.sz e = 0
  · simp [h0] at hfill
    simp [run_underlying hu, run_sz hT hk, h0, hfill, Go.newRow, newObj]
    rfl
  · simp [h0] at hfill
    simp [run_underlying hu, run_sz hT hk, h0, hfill, hzero, Nat.not_lt.2 hle, Go.newRow, newObj]
    rfl
theorem movables_same {σ : St} {e : Nat} : ∀ {ps : List (Nat × Operand)} {m m' : Mem} {p p' : FP} {b : Bool}, (movables E σ e ps).ev m p = some (b, m', p') → m = m'
  | [], _, _, _, _, _, h => by cases h; rfl
  | (_, x) :: r, m, m', p, p', b, h => by
    unfold movables at h
    obtain ⟨c, m1, p1, h1, hq⟩ := M.bind_some h
    cases movable_same h1
    cases c with
    | true => exact movables_same (show (movables E σ e r).ev m p1 = _ from hq)
    | false => cases hq; rfl
end
end Go.Proofs.Ytjgmiilapnekfaa.Ev
