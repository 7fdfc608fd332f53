/- The plain laws of chapter 26's copies and hosts. -/
import Derived.Test.YtajlknkplpohlaaQx25
import Derived.Test.YtajlknkplpohlaaQx26
import Derived.Test.YtajlknkplpohlaaQx29
import Derived.Test.YtajlknkplpohlaaQx27
import Derived.Test.YtajlknkplpohlaaE3
namespace Go.Proofs.Ytajlknkplpohlaa.Pure
open Go.RowKit Go.Proofs.Ytajlknkplpohlaa.Q Go.Proofs.Ytajlknkplpohlaa.Gen Go.Proofs.YtajlknkplpohlaaW.PrintWords Go.Proofs.YtajlknkplpohlaaW.PrintLast

theorem ok_facts {a : Int} {h ac b : List Int} {s c : Int} (H : quietOk a h ac b s c = true) :
    ac.length = h.length ∧ b.length = h.length ∧ 1 ≤ h.length ∧ h.length ≤ 6 ∧ 0 ≤ a ∧ a ≤ 1000000 ∧ 0 ≤ s ∧ s ≤ a ∧ 0 ≤ c ∧ c ≤ 1000000 ∧ (∀ i : Nat, i < h.length → 0 ≤ rd b i ∧ rd b i ≤ 5) ∧ (∀ i : Nat, i < h.length → 0 ≤ rd h i ∧ rd h i ≤ 2) := by
  unfold quietOk at H
  simp only [Bool.and_eq_true, decide_eq_true_eq] at H
  obtain ⟨⟨⟨⟨⟨⟨H1, H2⟩, H3⟩, H4⟩, H5⟩, H6⟩, H7⟩ := H
  rw [rows_eq a s h ac b H2 H3] at H7
  simp only [Bool.and_eq_true] at H7
  obtain ⟨⟨⟨⟨H7, H8⟩, H9⟩, _⟩, _⟩ := H7
  simp only [inr, Bool.and_eq_true, decide_eq_true_eq] at H1 H4 H5 H6
  refine ⟨H2, H3, by omega, by omega, by omega, by omega, by omega, by omega, by omega, by omega, fun i hi => ?_, fun i hi => ?_⟩
  · have := List.all_eq_true.1 H9 b[i] (List.getElem_mem _)
    rw [rd_at b i (by omega)]
    simpa [inr] using this
  · have := List.all_eq_true.1 H7 h[i] (List.getElem_mem _)
    rw [rd_at h i hi]
    simpa [inr] using this

theorem clone_eq (l : List Int) (h : l.length ≤ 6) : slices_Clone_int_int.f l = some l := by
  unfold slices_Clone_int_int.f
  rw [if_pos (by omega)]
theorem copyQuiet_eq (a : Int) (h ac b : List Int) (s c : Int) (h1 : h.length ≤ 6) (h2 : ac.length ≤ 6) (h3 : b.length ≤ 6) : impl_copyQuiet.f a h ac b s c = some (a, h, ac, b, s, c) := by
  unfold impl_copyQuiet.f
  simp only [clone_eq h h1, clone_eq ac h2, clone_eq b h3, Option.bind_some]
theorem l26Copy_eq (a : Int) (h ac b : List Int) (s c : Int) (h1 : h.length ≤ 6) (h2 : ac.length ≤ 6) (h3 : b.length ≤ 6) : spec_l26Copy.f a h ac b s c = some (a, h, ac, b, s, c) := by
  unfold spec_l26Copy.f
  simp only [Option.bind_some, List.length_nil, List.nil_append, if_pos (by omega : 0 + h.length < 17592186044416), if_pos (by omega : 0 + ac.length < 17592186044416), if_pos (by omega : 0 + b.length < 17592186044416)]
theorem isHost_eq (a : Int) (h ac b : List Int) (s c i : Int) (h1 : h.length ≤ 6) : impl_isQuietHost.f a h ac b s c i = some (decide (0 ≤ i) && decide (i ≤ (h.length : Int) - 1)) := by
  unfold impl_isQuietHost.f
  rw [w64 _ (by omega) (by omega), from_eq]
  rfl

abbrev Res := Int × List Int × List Int × List Int × Int × Int × Bool
def small (r : Res) : Prop := r.2.1.length ≤ 6 ∧ r.2.2.1.length ≤ 6 ∧ r.2.2.2.1.length ≤ 6

end Go.Proofs.Ytajlknkplpohlaa.Pure
