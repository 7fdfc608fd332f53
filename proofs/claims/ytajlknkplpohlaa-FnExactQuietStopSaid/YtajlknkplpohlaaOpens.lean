/- A law's argument as it is read: from its datum to the kinds of the printed walks. Whole numbers, bools, strings, slices of whatever, structs. -/
import Derived.Deep.Slices
import Derived.ChangeSame
import Derived.WideShapes
import Derived.ProofKit
import Derived.OpenShut
import Derived.Test.YtajlknkplpohlaaVWords
import Derived.Test.YtajlknkplpohlaaVLast
namespace Go.Proofs.Ytajlknkplpohlaa.Gen
open Go.RowKit Go.ChangeShapes Go.WideShapes Go.Proofs.YtajlknkplpohlaaW.PrintWords Go.Proofs.YtajlknkplpohlaaW.PrintLast
set_option linter.unusedVariables false
section
variable {P : Program} {α β : Type}

/-- Whatever is read at type T is of kind d, and good. -/
def Opens (P : Program) (T : TypeId) (d : Kd α) (G : α → Prop) : Prop :=
  ∀ (H : Type) (enc : TypeId × Value → H) (w : World) (base : Nat) (spare : Nat → Bool) (held : Bool) (n : Nat) (cs : List Value) (x : DataW H × List MemPlace), DataW.trod enc P w base spare held n T cs = some x → ∃ y, d.K w y cs ∧ G y

theorem opens_int {T : TypeId} {k : IntKind} (h : P.underlying T = some (.int k)) : Opens P T (Kd.int k) (fun y => (Lit.int k y).wf = true) := by
  intro H enc w base spare held n cs x hx
  obtain ⟨y, rfl, _, hw⟩ := DataW.trod_int h hx
  exact ⟨y, rfl, hw⟩
theorem opens_bool {T : TypeId} (h : P.underlying T = some .bool) : Opens P T Kd.bool (fun _ => True) := by
  intro H enc w base spare held n cs x hx
  obtain ⟨y, rfl, _⟩ := DataW.trod_bool h hx
  exact ⟨y, rfl, trivial⟩
theorem opens_string {T : TypeId} (h : P.underlying T = some .string) : Opens P T Kd.string (fun y => y.size ≤ maxLen) := by
  intro H enc w base spare held n cs x hx
  obtain ⟨y, rfl, _, hw⟩ := DataW.trod_string h hx
  exact ⟨y, rfl, hw⟩

theorem choose_list {p : Nat → α → Prop} (n : Nat) (h : ∀ i, i < n → ∃ y, p i y) : ∃ l : List α, l.length = n ∧ ∀ i y, l[i]? = some y → p i y := by
  induction n with
  | zero => exact ⟨[], rfl, fun i y h => by simp at h⟩
  | succ n ih =>
    obtain ⟨l, hl, hp⟩ := ih (fun i hi => h i (by omega))
    obtain ⟨y, hy⟩ := h n (by omega)
    refine ⟨l ++ [y], by simp [hl], fun i z hz => ?_⟩
    by_cases c : i < l.length
    · rw [List.getElem?_append_left c] at hz
      exact hp i z hz
    · rw [List.getElem?_append_right (by omega)] at hz
      obtain rfl : i = n := by
        have := (List.getElem?_eq_some_iff.1 hz).1
        simp at this
        omega
      simp [hl] at hz
      subst hz
      exact hy

theorem opens_slice {T E : TypeId} {d : Kd α} {G : α → Prop} (hT : P.underlying T = some (.slice E)) (hs : P.cellsOf E = d.sz) (h : Opens P E d G) : Opens P T (Kd.slice E d) (fun l => l.length ≤ 9223372036854775807 ∧ ∀ y ∈ l, G y) := by
  intro H enc w base spare held n cs x hx
  rcases Deep.open_slice hT hx with ⟨rfl, rfl⟩ | ⟨a, len, cap, m, n', D, Pl, rfl, hb, hl, hm, hmm, rfl, hi⟩
  · exact ⟨[], ⟨none, 0, rfl, Nat.le_refl _, rfl, by simp, fun h => by simp at h⟩, by simp, fun y hy => by simp at hy⟩
  · have hlm : len ≤ m := by
      rw [hmm]
      split <;> omega
    obtain ⟨l, hll, hp⟩ := choose_list (p := fun i y => ∃ c, d.K w y c ∧ G y ∧ w.cells? base (a.add (i * P.cellsOf E)) (P.cellsOf E) = some c) len (fun i hil => by
      obtain ⟨c, hc, ht⟩ := hi i (by omega)
      obtain ⟨y, hy, hg⟩ := h H enc w base spare held n' c (D i, Pl i) ht
      exact ⟨y, c, hy, hg, hc⟩)
    refine ⟨l, ⟨some a, cap, by rw [hll], by omega, rfl, by unfold maxLen at hm; omega, fun _ => ⟨a, rfl, fun j p hj => ?_⟩⟩, by unfold maxLen at hm; omega, fun y hy => ?_⟩
    · obtain ⟨c, hk, _, hc⟩ := hp j p hj
      refine ⟨c, d.K_len hk, hk, fun i u hu => ?_⟩
      obtain ⟨_, hcl, hat⟩ := World.cells?_some hc
      have hil : i < c.length := (List.getElem?_eq_some_iff.1 hu).1
      have := hat i (by omega)
      rw [hu] at this
      rw [← Deep.add_add, ← hs]
      exact this
    · obtain ⟨i, hi', he⟩ := List.getElem_of_mem hy
      obtain ⟨_, _, hg, _⟩ := hp i y (by rw [List.getElem?_eq_getElem hi', he])
      exact hg

/-- The fields from one on, o cells in. -/
def OpensF (P : Program) (fs : List Field) (o : Nat) (d : Kd α) (G : α → Prop) : Prop :=
  ∀ (H : Type) (enc : TypeId × Value → H) (w : World) (base : Nat) (spare : Nat → Bool) (held : Bool) (n : Nat) (cs : List Value), cs.length = o + d.sz →
    (∀ (i : Nat) (f : Field), fs[i]? = some f → ∃ y : DataW H × List MemPlace, DataW.trod enc P w base spare held n f.type ((cs.drop f.offset).take (P.cellsOf f.type)) = some y) → ∃ y, d.K w y (cs.drop o) ∧ G y

theorem opensF_one {f : Field} {o : Nat} {d : Kd α} {G : α → Prop} (ho : f.offset = o) (hs : P.cellsOf f.type = d.sz) (h : Opens P f.type d G) : OpensF P [f] o d G := by
  intro H enc w base spare held n cs hl hf
  obtain ⟨y, hy⟩ := hf 0 f rfl
  rw [ho, hs, List.take_of_length_le (by simp; omega)] at hy
  exact h H enc w base spare held n _ _ hy
theorem opensF_cons {f : Field} {fs : List Field} {o : Nat} {d : Kd α} {d' : Kd β} {G : α → Prop} {G' : β → Prop} (ho : f.offset = o) (hs : P.cellsOf f.type = d.sz) (h : Opens P f.type d G) (h' : OpensF P fs (o + d.sz) d' G') :
    OpensF P (f :: fs) o (Kd.pair d d') (fun y => G y.1 ∧ G' y.2) := by
  intro H enc w base spare held n cs hl hf
  have hl' : cs.length = o + (d.sz + d'.sz) := hl
  obtain ⟨y, hy⟩ := hf 0 f rfl
  rw [ho, hs] at hy
  obtain ⟨a, ha, ga⟩ := h H enc w base spare held n _ _ hy
  obtain ⟨b, hb, gb⟩ := h' H enc w base spare held n cs (by omega) (fun i g hg => hf (i + 1) g (by simpa using hg))
  refine ⟨(a, b), ⟨(cs.drop o).take d.sz, cs.drop (o + d.sz), ?_, ha, hb⟩, ga, gb⟩
  rw [← List.drop_drop, List.take_append_drop]

theorem opens_struct {T : TypeId} {fs : Array Field} {d : Kd α} {G : α → Prop} (hT : P.underlying T = some (.struct fs)) (hs : P.cellsOf T = d.sz) (h : OpensF P fs.toList 0 d G) : Opens P T d G := by
  intro H enc w base spare held n cs x hx
  obtain ⟨xs, n', hn', hy, hlen, hyl, hf⟩ := DataW.trod_struct hT hx
  have := h H enc w base spare held n' cs (by omega) (fun i f hi => by
    have := hf i f (by simpa using hi)
    have hil : i < xs.length := by
      have := (List.getElem?_eq_some_iff.1 hi).1
      simp at this
      omega
    exact ⟨xs[i], by rw [this, List.getElem?_eq_getElem hil]⟩)
  simpa using this
theorem opens_iso {T : TypeId} {d : Kd α} {G : α → Prop} (f : β → α) (g : α → β) (hfg : ∀ x, f (g x) = x) (h : Opens P T d G) : Opens P T (Kd.iso d f) (fun y => G (f y)) := by
  intro H enc w base spare held n cs x hx
  obtain ⟨y, hy, hg⟩ := h H enc w base spare held n cs x hx
  exact ⟨g y, by show d.K w (f (g y)) cs; rw [hfg]; exact hy, by show G (f (g y)); rw [hfg]; exact hg⟩
theorem opens_weaken {T : TypeId} {d : Kd α} {G G' : α → Prop} (hg : ∀ y, G y → G' y) (h : Opens P T d G) : Opens P T d G' := by
  intro H enc w base spare held n cs x hx
  obtain ⟨y, hy, hg'⟩ := h H enc w base spare held n cs x hx
  exact ⟨y, hy, hg _ hg'⟩

section
variable {H : Type} {enc : TypeId × Value → H} {w : World} {base : Nat} {spare : Nat → Bool} {held : Bool} {r : Reach} {b0 : Nat} {dt : DataW H} {ps : List MemPlace} {v : Value}
/-- A slice among the arguments. -/
theorem arg_slice {T E : TypeId} {d : Kd α} {G : α → Prop} (hT : P.underlying T = some (.slice E)) (hs : P.cellsOf E = d.sz) (h : Opens P E d G) (hv : Value.okWide P w r b0 T v) (ht : DataW.Trod enc P w base spare held T v dt ps) :
    ∃ A c xs, v = .slice A xs.length c ∧ xs.length ≤ c ∧ d.C w A xs.length xs ∧ xs.length ≤ 9223372036854775807 ∧ ∀ y ∈ xs, G y := by
  obtain ⟨fuel, hf⟩ := ht
  obtain ⟨xs, ⟨A, c, hc, hl, hr⟩, hg⟩ := opens_slice hT hs h H enc w base spare held fuel _ _ hf
  obtain ⟨a, len, cap, rfl⟩ := okWide_slice hT hv
  simp [Value.cells] at hc
  obtain ⟨rfl, rfl, rfl⟩ := hc
  exact ⟨_, _, xs, rfl, hl, hr, hg⟩
/-- A struct among the arguments. -/
theorem arg_struct {T : TypeId} {fs : Array Field} {d : Kd α} {G : α → Prop} (hT : P.underlying T = some (.struct fs)) (h : Opens P T d G) (hv : Value.okWide P w r b0 T v) (ht : DataW.Trod enc P w base spare held T v dt ps) :
    ∃ cs y, v = .agg cs ∧ d.K w y cs.toList ∧ G y := by
  obtain ⟨fuel, hf⟩ := ht
  obtain ⟨cs, rfl, _⟩ := okWide_struct hT hv
  obtain ⟨y, hk, hg⟩ := h H enc w base spare held fuel _ _ hf
  exact ⟨cs, y, rfl, by simpa [Value.cells] using hk, hg⟩
end
end
end Go.Proofs.Ytajlknkplpohlaa.Gen
