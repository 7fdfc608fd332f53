/- The plain law of FnExactQuietAck. No condition. -/
import Derived.Test.YtajlknkplpohlaaQx37
import Derived.Test.YtajlknkplpohlaaE5A
namespace Go.Proofs.Ytajlknkplpohlaa.Pure
open Go.RowKit Go.Proofs.Ytajlknkplpohlaa.Q Go.Proofs.YtajlknkplpohlaaW.PrintWords Go.Proofs.YtajlknkplpohlaaW.PrintLast

theorem FnExactQuietAck : ∀ (a : Int), (Lit.int .i64 a).wf = true → ∀ (l1 : List Int), (l1.length ≤ 9223372036854775807 ∧ ∀ y ∈ l1, (Lit.int .i64 y).wf = true) → ∀ (l2 : List Int), (l2.length ≤ 9223372036854775807 ∧ ∀ y ∈ l2, (Lit.int .i64 y).wf = true) → ∀ (l3 : List Int), (l3.length ≤ 9223372036854775807 ∧ ∀ y ∈ l3, (Lit.int .i64 y).wf = true) → ∀ (s : Int), (Lit.int .i64 s).wf = true → ∀ (c : Int), (Lit.int .i64 c).wf = true → ∀ (i : Int), (Lit.int .i64 i).wf = true → ∃ k, laws_FnExactQuietAck.f k a l1 l2 l3 s c i = some true := by
  intro a _ l1 h1 l2 h2 l3 h3 s _ c _ i _
  refine ⟨1048577, ?_⟩
  unfold laws_FnExactQuietAck.f
  obtain ⟨r, hr, hq⟩ := szQuiet_eq a l1 l2 l3 s c h1.1 h2.1 h3.1
  rw [hr]
  simp only [Option.bind_some]
  by_cases c0 : r < 0
  · rw [if_pos c0]
  · rw [if_neg c0]
    obtain ⟨q1, q2, q3⟩ := hq (by omega)
    obtain ⟨w, hw1, hw2, hw3⟩ := ack_eq a l1 l2 l3 s c i 1048577 (by omega)
    obtain ⟨wa, w1, w2, w3, wb, wc, wt⟩ := w
    obtain ⟨p1, p2, p3⟩ := hw3
    simp only at p1 p2 p3
    simp only [toQuiet_eq a l1 l2 l3 s c q1 q2 q3, Option.bind_some, hw1, hw2, eqQuiet_eq wa wb wc w1 w2 w3 (by omega) (by omega) (by omega) 1048577 (by omega), eqQuiet_eq a s c l1 l2 l3 q1 q2 q3 1048577 (by omega), bne_self_eq_false, Bool.false_eq_true, if_false, if_true, markQuiet_eq a s c l1 l2 l3 q1 q2 q3 1048577 (by omega), markQuiet_eq wa wb wc w1 w2 w3 (by omega) (by omega) (by omega) 1048577 (by omega), heldQuiet_eq wa wb wc w1.length w2.length w3.length (by omega) (by omega) (by omega) 1048577 (by omega),
      if_neg (by omega : ¬ (1 + (w1.length : Int) + w2.length + w3.length < 0)), if_neg (by omega : ¬ (1 + (l1.length : Int) + l2.length + l3.length < 0))]
end Go.Proofs.Ytajlknkplpohlaa.Pure
