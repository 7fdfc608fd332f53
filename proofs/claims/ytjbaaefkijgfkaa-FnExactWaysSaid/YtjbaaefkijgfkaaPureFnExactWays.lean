/- The plain law of FnExactWays. No condition. -/
import Derived.Test.YtjbaaefkijgfkaaRx25
import Derived.Test.YtjbaaefkijgfkaaC4
namespace Go.Proofs.Ytjbaaefkijgfkaa.Pure
open Go.RowKit Go.Proofs.Ytjbaaefkijgfkaa.R Go.Proofs.YtjbaaefkijgfkaaW.PrintWords Go.Proofs.YtjbaaefkijgfkaaW.PrintLast

theorem FnExactWays : ∀ (q : List Int), (∀ y ∈ q, (Lit.int .i64 y).wf = true) → ∃ k, laws_FnExactWays.f k q = some true := by
  intro q _
  refine ⟨q.length + 100000, ?_⟩
  unfold laws_FnExactWays.f
  by_cases hq : q.length ≤ 1048576
  · rw [if_neg (by omega)]
    generalize hk : q.length + 100000 = k
    simp only [toIntS_eq q hq k (by omega), Option.bind_some, spec_ways q k (by omega), impl_ways q k (by omega), if_true, eqIntS_eq q hq k (by omega)]
  · rw [if_pos (by omega)]
end Go.Proofs.Ytjbaaefkijgfkaa.Pure
