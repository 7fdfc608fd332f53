/- Fused by wip/tools/fuse.py out of: E7P E9P. -/
import Derived.Test.YtajlknkplpohlaaQx49
import Derived.Test.YtajlknkplpohlaaQx48
import Derived.Test.YtajlknkplpohlaaQx50
import Derived.Test.YtajlknkplpohlaaE8
namespace Go.Proofs.Ytajlknkplpohlaa.Pure
/- The plain law of chapter 26's QuietStop: both programs answer alike. -/
section
open Go.RowKit Go.Proofs.Ytajlknkplpohlaa.Q Go.Proofs.Ytajlknkplpohlaa.Gen Go.Proofs.YtajlknkplpohlaaW.PrintWords Go.Proofs.YtajlknkplpohlaaW.PrintLast

theorem stop_eq (a : Int) (h ac b : List Int) (s c : Int) (k : Nat) (hk : 30 ≤ k) : ∃ r, spec_QuietStop.f k a h ac b s c = some r ∧ impl_QuietStop.f k a h ac b s c = some r ∧ small r := by
  unfold spec_QuietStop.f impl_QuietStop.f
  rw [spec_quietOk a h ac b s c k hk, impl_quietOk a h ac b s c k hk]
  simp only [Option.bind_some]
  by_cases H : quietOk a h ac b s c = true
  · rw [if_pos H, if_pos H]
    obtain ⟨e1, e2, e3, e4, e5, e6, _, _, _, _, _, _⟩ := ok_facts H
    rw [l26Copy_eq a h ac b s c (by omega) (by omega) (by omega), copyQuiet_eq a h ac b s c (by omega) (by omega) (by omega)]
    simp only [Option.bind_some, stirred_eq, l26All_eq a h ac b s c 0 (by omega) k hk]
    have q : (h.any fun x => !decide (x = 0)) = !(h.all fun y => decide (y = 0)) := by rw [List.all_eq_not_any_not, Bool.not_not]
    rw [q]
    by_cases c1 : (h.all fun y => decide (y = 0)) = true
    · rw [if_pos c1, if_neg (by simp [c1])]
      exact ⟨_, rfl, rfl, by simp [small]; omega⟩
    · rw [if_neg c1, if_pos (by simpa using c1)]
      obtain ⟨h', p1, p2⟩ := l26Set_eq a h ac b s c 0 (by omega) k hk
      rw [p1]
      exact ⟨_, rfl, rfl, by simp [small]; omega⟩
  · rw [if_neg H, if_neg H]
    exact ⟨_, rfl, rfl, by simp [small]⟩

end
/- The plain law of FnExactQuietStop. No condition. -/
section
open Go.RowKit Go.Proofs.Ytajlknkplpohlaa.Q Go.Proofs.YtajlknkplpohlaaW.PrintWords Go.Proofs.YtajlknkplpohlaaW.PrintLast

theorem FnExactQuietStop : ∀ (a : Int), (Lit.int .i64 a).wf = true → ∀ (l1 : List Int), (l1.length ≤ 9223372036854775807 ∧ ∀ y ∈ l1, (Lit.int .i64 y).wf = true) → ∀ (l2 : List Int), (l2.length ≤ 9223372036854775807 ∧ ∀ y ∈ l2, (Lit.int .i64 y).wf = true) → ∀ (l3 : List Int), (l3.length ≤ 9223372036854775807 ∧ ∀ y ∈ l3, (Lit.int .i64 y).wf = true) → ∀ (s : Int), (Lit.int .i64 s).wf = true → ∀ (c : Int), (Lit.int .i64 c).wf = true → ∃ k, laws_FnExactQuietStop.f k a l1 l2 l3 s c = some true := by
  intro a _ l1 h1 l2 h2 l3 h3 s _ c _
  refine ⟨1048577, ?_⟩
  unfold laws_FnExactQuietStop.f
  obtain ⟨r, hr, hq⟩ := szQuiet_eq a l1 l2 l3 s c h1.1 h2.1 h3.1
  rw [hr]
  simp only [Option.bind_some]
  by_cases c0 : r < 0
  · rw [if_pos c0]
  · rw [if_neg c0]
    obtain ⟨q1, q2, q3⟩ := hq (by omega)
    obtain ⟨w, hw1, hw2, hw3⟩ := stop_eq a l1 l2 l3 s c 1048577 (by omega)
    obtain ⟨wa, w1, w2, w3, wb, wc, wt⟩ := w
    obtain ⟨p1, p2, p3⟩ := hw3
    simp only at p1 p2 p3
    simp only [toQuiet_eq a l1 l2 l3 s c q1 q2 q3, Option.bind_some, hw1, hw2, eqQuiet_eq wa wb wc w1 w2 w3 (by omega) (by omega) (by omega) 1048577 (by omega), eqQuiet_eq a s c l1 l2 l3 q1 q2 q3 1048577 (by omega), bne_self_eq_false, Bool.false_eq_true, if_false, if_true, markQuiet_eq a s c l1 l2 l3 q1 q2 q3 1048577 (by omega), markQuiet_eq wa wb wc w1 w2 w3 (by omega) (by omega) (by omega) 1048577 (by omega), heldQuiet_eq wa wb wc w1.length w2.length w3.length (by omega) (by omega) (by omega) 1048577 (by omega),
      if_neg (by omega : ¬ (1 + (w1.length : Int) + w2.length + w3.length < 0)), if_neg (by omega : ¬ (1 + (l1.length : Int) + l2.length + l3.length < 0))]
end
end Go.Proofs.Ytajlknkplpohlaa.Pure
