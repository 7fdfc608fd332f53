/- The plain law of FnExactQuietOk. No condition. -/
import Derived.Test.YtajlknkplpohlaaQx24
import Derived.Test.YtajlknkplpohlaaE3
namespace Go.Proofs.Ytajlknkplpohlaa.Pure
open Go.RowKit Go.Proofs.Ytajlknkplpohlaa.Q Go.Proofs.YtajlknkplpohlaaW.PrintWords Go.Proofs.YtajlknkplpohlaaW.PrintLast

theorem FnExactQuietOk : ∀ (a : Int), (Lit.int .i64 a).wf = true → ∀ (l1 : List Int), (l1.length ≤ 9223372036854775807 ∧ ∀ y ∈ l1, (Lit.int .i64 y).wf = true) → ∀ (l2 : List Int), (l2.length ≤ 9223372036854775807 ∧ ∀ y ∈ l2, (Lit.int .i64 y).wf = true) → ∀ (l3 : List Int), (l3.length ≤ 9223372036854775807 ∧ ∀ y ∈ l3, (Lit.int .i64 y).wf = true) → ∀ (s : Int), (Lit.int .i64 s).wf = true → ∀ (c : Int), (Lit.int .i64 c).wf = true → ∃ k, laws_FnExactQuietOk.f k a l1 l2 l3 s c = some true := by
  intro a _ l1 h1 l2 h2 l3 h3 s _ c _
  refine ⟨1048577, ?_⟩
  unfold laws_FnExactQuietOk.f
  obtain ⟨r, hr, hq⟩ := szQuiet_eq a l1 l2 l3 s c h1.1 h2.1 h3.1
  rw [hr]
  simp only [Option.bind_some]
  by_cases c0 : r < 0
  · rw [if_pos c0]
  · rw [if_neg c0]
    obtain ⟨q1, q2, q3⟩ := hq (by omega)
    simp only [toQuiet_eq a l1 l2 l3 s c q1 q2 q3, Option.bind_some, spec_quietOk a l1 l2 l3 s c 1048577 (by omega), impl_quietOk a l1 l2 l3 s c 1048577 (by omega), bne_self_eq_false, Bool.false_eq_true, if_false, eqQuiet_eq s c a l1 l2 l3 q1 q2 q3 1048577 (by omega), eqQuiet_eq a s c l1 l2 l3 q1 q2 q3 1048577 (by omega), if_true]
end Go.Proofs.Ytajlknkplpohlaa.Pure
