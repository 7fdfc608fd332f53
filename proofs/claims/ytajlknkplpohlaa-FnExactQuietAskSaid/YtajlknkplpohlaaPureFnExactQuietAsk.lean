/- Fused by wip/tools/fuse.py out of: E7A E9A. -/
import Derived.Test.YtajlknkplpohlaaQx42
import Derived.Test.YtajlknkplpohlaaQx40
import Derived.Test.YtajlknkplpohlaaQx43
import Derived.Test.YtajlknkplpohlaaE8
namespace Go.Proofs.Ytajlknkplpohlaa.Pure
/- The plain law of chapter 26's QuietAsk: both programs answer alike. -/
section
open Go.RowKit Go.Proofs.Ytajlknkplpohlaa.Q Go.Proofs.Ytajlknkplpohlaa.Gen Go.Proofs.YtajlknkplpohlaaW.PrintWords Go.Proofs.YtajlknkplpohlaaW.PrintLast

theorem ask_eq (a : Int) (h ac b : List Int) (s c : Int) (k : Nat) (hk : 30 ≤ k) : ∃ r, spec_QuietAsk.f k a h ac b s c = some r ∧ impl_QuietAsk.f k a h ac b s c = some r ∧ small r := by
  unfold spec_QuietAsk.f impl_QuietAsk.f
  rw [spec_quietOk a h ac b s c k hk, impl_quietOk a h ac b s c k hk]
  simp only [Option.bind_some]
  by_cases H : quietOk a h ac b s c = true
  · rw [if_pos H, if_pos H]
    obtain ⟨e1, e2, e3, e4, e5, e6, _, _, _, _, _, _⟩ := ok_facts H
    rw [l26Copy_eq a h ac b s c (by omega) (by omega) (by omega), copyQuiet_eq a h ac b s c (by omega) (by omega) (by omega)]
    simp only [Option.bind_some, stirred_eq, l26All_eq a h ac b s c 0 (by omega) k hk]
    have q : (h.any fun x => !decide (x = 0)) = !(h.all fun y => decide (y = 0)) := by rw [List.all_eq_not_any_not, Bool.not_not]
    rw [q]
    clear q
    generalize (h.all fun y => decide (y = 0)) = B
    cases B
    · simp only [Bool.not_false, if_true, Bool.false_eq_true, if_false]
      exact ⟨_, rfl, rfl, by simp [small]; omega⟩
    · simp only [Bool.not_true, if_true, Bool.false_eq_true, if_false]
      by_cases c2 : a = 1000000
      · rw [if_pos (show a ≥ 1000000 by omega), if_pos c2]
        exact ⟨_, rfl, rfl, by simp [small]; omega⟩
      · rw [if_neg (show ¬ a ≥ 1000000 by omega), if_neg c2]
        obtain ⟨h', p1, p2⟩ := l26Set_eq (wrap64 (a + 1)) h ac b s c 1 (by omega) k hk
        rw [p1]
        exact ⟨_, rfl, rfl, by simp [small]; omega⟩
  · rw [if_neg H, if_neg H]
    exact ⟨_, rfl, rfl, by simp [small]⟩

end
/- The plain law of FnExactQuietAsk. No condition. -/
section
open Go.RowKit Go.Proofs.Ytajlknkplpohlaa.Q Go.Proofs.YtajlknkplpohlaaW.PrintWords Go.Proofs.YtajlknkplpohlaaW.PrintLast

theorem FnExactQuietAsk : ∀ (a : Int), (Lit.int .i64 a).wf = true → ∀ (l1 : List Int), (l1.length ≤ 9223372036854775807 ∧ ∀ y ∈ l1, (Lit.int .i64 y).wf = true) → ∀ (l2 : List Int), (l2.length ≤ 9223372036854775807 ∧ ∀ y ∈ l2, (Lit.int .i64 y).wf = true) → ∀ (l3 : List Int), (l3.length ≤ 9223372036854775807 ∧ ∀ y ∈ l3, (Lit.int .i64 y).wf = true) → ∀ (s : Int), (Lit.int .i64 s).wf = true → ∀ (c : Int), (Lit.int .i64 c).wf = true → ∃ k, laws_FnExactQuietAsk.f k a l1 l2 l3 s c = some true := by
  intro a _ l1 h1 l2 h2 l3 h3 s _ c _
  refine ⟨1048577, ?_⟩
  unfold laws_FnExactQuietAsk.f
  obtain ⟨r, hr, hq⟩ := szQuiet_eq a l1 l2 l3 s c h1.1 h2.1 h3.1
  rw [hr]
  simp only [Option.bind_some]
  by_cases c0 : r < 0
  · rw [if_pos c0]
  · rw [if_neg c0]
    obtain ⟨q1, q2, q3⟩ := hq (by omega)
    obtain ⟨w, hw1, hw2, hw3⟩ := ask_eq a l1 l2 l3 s c 1048577 (by omega)
    obtain ⟨wa, w1, w2, w3, wb, wc, wt⟩ := w
    obtain ⟨p1, p2, p3⟩ := hw3
    simp only at p1 p2 p3
    simp only [toQuiet_eq a l1 l2 l3 s c q1 q2 q3, Option.bind_some, hw1, hw2, eqQuiet_eq wa wb wc w1 w2 w3 (by omega) (by omega) (by omega) 1048577 (by omega), eqQuiet_eq a s c l1 l2 l3 q1 q2 q3 1048577 (by omega), bne_self_eq_false, Bool.false_eq_true, if_false, if_true, markQuiet_eq a s c l1 l2 l3 q1 q2 q3 1048577 (by omega), markQuiet_eq wa wb wc w1 w2 w3 (by omega) (by omega) (by omega) 1048577 (by omega), heldQuiet_eq wa wb wc w1.length w2.length w3.length (by omega) (by omega) (by omega) 1048577 (by omega),
      if_neg (by omega : ¬ (1 + (w1.length : Int) + w2.length + w3.length < 0)), if_neg (by omega : ¬ (1 + (l1.length : Int) + l2.length + l3.length < 0))]
end
end Go.Proofs.Ytajlknkplpohlaa.Pure
