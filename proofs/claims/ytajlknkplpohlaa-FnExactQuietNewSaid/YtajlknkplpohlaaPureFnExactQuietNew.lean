/- The plain law of FnExactQuietNew. No condition. -/
import Derived.Test.YtajlknkplpohlaaQx11
import Derived.Test.YtajlknkplpohlaaE1
namespace Go.Proofs.Ytajlknkplpohlaa.Pure
open Go.RowKit Go.Proofs.Ytajlknkplpohlaa.Q Go.Proofs.YtajlknkplpohlaaW.PrintWords Go.Proofs.YtajlknkplpohlaaW.PrintLast

theorem FnExactQuietNew : ∀ (n : Int), (Lit.int .i64 n).wf = true → ∃ k, laws_FnExactQuietNew.f k n = some true := by
  intro n _
  refine ⟨1048577, ?_⟩
  unfold laws_FnExactQuietNew.f
  have h : (quietNew n).2.1.length ≤ 6 ∧ (quietNew n).2.2.1.length ≤ 6 ∧ (quietNew n).2.2.2.1.length ≤ 6 := by
    unfold quietNew
    split
    · simp
      omega
    · simp
  obtain ⟨h1, h2, h3⟩ := h
  simp only [spec_quietNew, impl_quietNew, Option.bind_some]
  generalize quietNew n = q at *
  obtain ⟨a, l1, l2, l3, b, c, t⟩ := q
  simp only at h1 h2 h3 ⊢
  simp only [eqQuiet_eq a b c l1 l2 l3 (by omega) (by omega) (by omega) 1048577 (by omega), Option.bind_some, if_true, bne_self_eq_false, Bool.false_eq_true, if_false, markQuiet_eq a b c l1 l2 l3 (by omega) (by omega) (by omega) 1048577 (by omega), heldQuiet_eq a b c l1.length l2.length l3.length (by omega) (by omega) (by omega) 1048577 (by omega), if_neg (by omega : ¬ (1 + (l1.length : Int) + l2.length + l3.length < 0))]
end Go.Proofs.Ytajlknkplpohlaa.Pure
