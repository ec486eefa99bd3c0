/- What a value that comes in says of its cells, by its type's kind: every type built of whole numbers, bools, strings, slices and structs, of any depth. No condition. -/
import Derived.Test.YtbiobflmkicjnaaWWords
import Derived.ChangeSlices
import Derived.ChangeArms
import Derived.Deep.Slices
import Derived.OpenShut
import Derived.Carry
namespace Go.Proofs.Ytbiobflmkicjnaa.Open
open Go.RowKit Go.ChangeShapes Go.WideShapes Go.Proofs.YtbiobflmkicjnaaW.PrintWords
set_option linter.unusedVariables false

/-- Whatever is read of type t has the kind d, and is as Fit says. -/
structure Opens {α : Type} (P : Program) (d : Kd α) (t : TypeId) (Fit : α → Prop) : Prop where
  sz : P.cellsOf t = d.sz
  op : ∀ (H : Type) (enc : TypeId × Value → H) (W : World) (fuel : Nat) (cs : List Value) (x : DataW H × List MemPlace), DataW.trod enc P W 0 (fun _ => true) true fuel t cs = some x → ∃ y, d.K W y cs ∧ Fit y

/-- The fields from place o on. -/
structure OpensF {α : Type} (P : Program) (d : Kd α) (fs : List Field) (o : Nat) (Fit : α → Prop) : Prop where
  op : ∀ (H : Type) (enc : TypeId × Value → H) (W : World) (n : Nat) (cs : List Value), cs.length = o + d.sz →
    (∀ (i : Nat) (f : Field), fs[i]? = some f → ∃ x, DataW.trod enc P W 0 (fun _ => true) true n f.type ((cs.drop f.offset).take (P.cellsOf f.type)) = some x) → ∃ y, d.K W y (cs.drop o) ∧ Fit y

section
variable {P : Program} {t e : TypeId}

theorem opens_int {k : IntKind} (ht : P.underlying t = some (.int k)) (hc : P.cellsOf t = 1) : Opens P (Kd.int k) t (fun x => (Lit.int k x).wf = true) :=
  ⟨hc, fun H enc W fuel cs x h => by
    obtain ⟨n, rfl, _, hw⟩ := DataW.trod_int ht h
    exact ⟨n, rfl, hw⟩⟩

theorem opens_bool (ht : P.underlying t = some .bool) (hc : P.cellsOf t = 1) : Opens P Kd.bool t (fun _ => True) :=
  ⟨hc, fun H enc W fuel cs x h => by
    obtain ⟨b, rfl, _⟩ := DataW.trod_bool ht h
    exact ⟨b, rfl, trivial⟩⟩

theorem opens_string (ht : P.underlying t = some .string) (hc : P.cellsOf t = 1) : Opens P Kd.string t (fun s => s.size ≤ maxLen) :=
  ⟨hc, fun H enc W fuel cs x h => by
    obtain ⟨s, rfl, _, hs⟩ := DataW.trod_string ht h
    exact ⟨s, rfl, hs⟩⟩

theorem list_of {α : Type} {p : Nat → α → Prop} : ∀ {n : Nat}, (∀ i, i < n → ∃ x, p i x) → ∃ xs : List α, xs.length = n ∧ ∀ i x, xs[i]? = some x → p i x
  | 0, _ => ⟨[], rfl, fun i x h => by simp at h⟩
  | n + 1, h => by
    obtain ⟨xs, hl, hx⟩ := list_of (n := n) (fun i hi => h i (by omega))
    obtain ⟨y, hy⟩ := h n (by omega)
    refine ⟨xs ++ [y], by simp [hl], fun i x hi => ?_⟩
    rcases Nat.lt_or_ge i xs.length with h' | h'
    · rw [List.getElem?_append_left h'] at hi
      exact hx i x hi
    · rw [List.getElem?_append_right h'] at hi
      have h0 : i - xs.length = 0 := by
        rcases Nat.eq_zero_or_pos (i - xs.length) with h0 | h0
        · exact h0
        · have : ([y] : List α)[i - xs.length]? = none := List.getElem?_eq_none (by simp; omega)
          rw [this] at hi
          cases hi
      rw [h0] at hi
      have he : i = n := by omega
      subst he
      have : y = x := by simpa using hi
      subst this
      exact hy

theorem opens_slice {α : Type} {d : Kd α} {Fit : α → Prop} (e' : Nat) (ht : P.underlying t = some (.slice e)) (hc : P.cellsOf t = 1) (h : Opens P d e Fit) :
    Opens P (Kd.slice e' d) t (fun xs => xs.length ≤ maxLen ∧ ∀ x ∈ xs, Fit x) :=
  ⟨hc, fun H enc W fuel cs x hx => by
    rcases Deep.open_slice ht hx with ⟨rfl, _⟩ | ⟨a, len, cap, m, n, D, Pl, rfl, _, hl, hm, hmm, _, hel⟩
    · exact ⟨[], ⟨none, 0, rfl, Nat.le_refl _, Kd.C_nil d W⟩, by simp [maxLen], fun x hx => by cases hx⟩
    · have hm' : m = cap := by simpa using hmm
      subst hm'
      have key : ∀ i, i < len → ∃ y, (∃ cs', W.cells? 0 (a.add (i * P.cellsOf e)) (P.cellsOf e) = some cs' ∧ d.K W y cs') ∧ Fit y := fun i hi => by
        obtain ⟨cs', h1, h2⟩ := hel i (by omega)
        obtain ⟨y, hy, hf⟩ := h.op _ _ _ _ _ _ h2
        exact ⟨y, ⟨cs', h1, hy⟩, hf⟩
      obtain ⟨xs, hxl, hxs⟩ := list_of key
      refine ⟨xs, ⟨some a, m, by rw [hxl], by omega, rfl, by simp [maxLen] at hm; omega, fun hp => ⟨a, rfl, fun j p hj => ?_⟩⟩, by omega, fun x hx => ?_⟩
      · obtain ⟨⟨cs', h1, h2⟩, _⟩ := hxs j p hj
        refine ⟨cs', d.K_len h2, h2, fun i u hu => ?_⟩
        obtain ⟨_, hlen, hcell⟩ := World.cells?_some h1
        rw [h.sz] at hcell hlen
        have hi : i < d.sz := by rw [← hlen]; exact (List.getElem?_eq_some_iff.1 hu).1
        have := hcell i hi
        rw [Deep.add_add] at this
        rw [this]
        exact hu
      · obtain ⟨i, hi, he⟩ := List.getElem_of_mem hx
        exact (hxs i x (by rw [List.getElem?_eq_getElem hi, he])).2⟩

theorem opensF_one {α : Type} {d : Kd α} {Fit : α → Prop} {f : Field} (o : Nat) (ho : f.offset = o) (h : Opens P d f.type Fit) : OpensF P d [f] o Fit :=
  ⟨fun H enc W n cs hl hx => by
    obtain ⟨x, hx⟩ := hx 0 f rfl
    rw [ho, h.sz, List.take_of_length_le (by rw [List.length_drop]; omega)] at hx
    exact h.op _ _ _ _ _ _ hx⟩

theorem opensF_cons {α β : Type} {a : Kd α} {b : Kd β} {FA : α → Prop} {FB : β → Prop} {f : Field} {fs : List Field} (o : Nat) (ho : f.offset = o) (h : Opens P a f.type FA) (hs : OpensF P b fs (o + a.sz) FB) :
    OpensF P (Kd.pair a b) (f :: fs) o (fun x => FA x.1 ∧ FB x.2) :=
  ⟨fun H enc W n cs hl hx => by
    have hl' : cs.length = o + a.sz + b.sz := by rw [hl, Nat.add_assoc]; rfl
    obtain ⟨x, hx0⟩ := hx 0 f rfl
    rw [ho, h.sz] at hx0
    obtain ⟨y, hy, hfy⟩ := h.op _ _ _ _ _ _ hx0
    obtain ⟨z, hz, hfz⟩ := hs.op _ enc W n cs hl' (fun i g hg => hx (i + 1) g hg)
    refine ⟨(y, z), ⟨_, _, ?_, hy, hz⟩, hfy, hfz⟩
    rw [← List.drop_drop, List.take_append_drop]⟩

theorem opens_struct {α β : Type} {d : Kd α} {Fit : α → Prop} {fs : Array Field} {l : List Field} (ht : P.underlying t = some (.struct fs)) (hl : fs.toList = l) (hc : P.cellsOf t = d.sz) (h : OpensF P d l 0 Fit)
    (f : β → α) (g : α → β) (hg : ∀ y, f (g y) = y) : Opens P (Kd.iso d f) t (fun x => Fit (f x)) :=
  ⟨hc, fun H enc W fuel cs x hx => by
    subst hl
    obtain ⟨xs, n, _, _, hcl, hxl, hel⟩ := DataW.trod_struct ht hx
    obtain ⟨y, hy, hf⟩ := h.op _ enc W n cs (by rw [hcl, hc]; omega) (fun i q hq => by
      have hq' : fs[i]? = some q := by simpa using hq
      have := hel i q hq'
      have hi : i < xs.length := by rw [hxl]; exact (Array.getElem?_eq_some_iff.1 hq').1
      rw [List.getElem?_eq_getElem hi] at this
      exact ⟨_, this⟩)
    exact ⟨g y, by show d.K W (f (g y)) cs; rw [hg]; exact hy, by show Fit (f (g y)); rw [hg]; exact hf⟩⟩

/-- An argument, opened. -/
theorem opened {α : Type} {d : Kd α} {Fit : α → Prop} (h : Opens P d t Fit) {H : Type} {enc : TypeId × Value → H} {W : World} {v : Value} {dt : DataW H} {ps : List MemPlace} (hd : DataW.Trod enc P W 0 (fun _ => true) true t v dt ps) :
    ∃ y, d.K W y v.cells.toList ∧ Fit y := by
  obtain ⟨fuel, hf⟩ := hd
  exact h.op _ _ _ _ _ _ hf
theorem places_lt {H : Type} {enc : TypeId × Value → H} {W : World} {v : Value} {dt : DataW H} {ps : List MemPlace} (hd : DataW.Trod enc P W 0 (fun _ => true) true t v dt ps) : ∀ x ∈ ps, x.block < W.heap.size := by
  obtain ⟨m, hm⟩ := hd
  exact DataW.trod_lt m _ _ _ hm
end
end Go.Proofs.Ytbiobflmkicjnaa.Open
