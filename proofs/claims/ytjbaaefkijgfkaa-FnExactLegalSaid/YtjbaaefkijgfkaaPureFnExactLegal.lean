/- The plain law of FnExactLegal. No condition. -/
import Derived.Test.YtjbaaefkijgfkaaPx3
import Derived.Test.YtjbaaefkijgfkaaB2
namespace Go.Proofs.Ytjbaaefkijgfkaa.Pure
open Go.RowKit Go.Proofs.Ytjbaaefkijgfkaa.P Go.Proofs.YtjbaaefkijgfkaaW.PrintWords Go.Proofs.YtjbaaefkijgfkaaW.PrintLast

theorem FnExactLegal : ∀ (q : List Int), (∀ y ∈ q, (Lit.int .i64 y).wf = true) → ∀ (l : List Bool), (∀ y ∈ l, True) → ∃ k, laws_FnExactLegal.f k q l = some true := by
  intro q _ l _
  refine ⟨q.length + l.length + 20, ?_⟩
  unfold laws_FnExactLegal.f
  by_cases hq : q.length ≤ 1048576
  · rw [if_neg (by omega)]
    by_cases hl : l.length ≤ 1048576
    · rw [if_neg (by omega)]
      simp only [toIntS_eq q hq _ (by omega : q.length < q.length + l.length + 20), toBoolS_eq l hl _ (by omega : l.length < q.length + l.length + 20), Option.bind_some, spec_legal q l _ (by omega : 15 ≤ q.length + l.length + 20), impl_legal q l _ (by omega : 15 ≤ q.length + l.length + 20), eqIntS_eq q hq _ (by omega : q.length < q.length + l.length + 20), eqBoolS_eq l hl _ (by omega : l.length < q.length + l.length + 20), bne_self_eq_false, Bool.false_eq_true, if_false, if_true]
    · rw [if_pos (by omega)]
  · rw [if_pos (by omega)]
end Go.Proofs.Ytjbaaefkijgfkaa.Pure
