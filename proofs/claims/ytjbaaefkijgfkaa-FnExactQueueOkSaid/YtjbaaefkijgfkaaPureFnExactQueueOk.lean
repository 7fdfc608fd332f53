/- The plain law of FnExactQueueOk: both programs say yes just where the queue is at most twelve numbers from 0 to 99. No condition. -/
import Derived.Test.YtjbaaefkijgfkaaPx1
import Derived.Test.YtjbaaefkijgfkaaB1
namespace Go.Proofs.Ytjbaaefkijgfkaa.Pure
open Go.RowKit Go.Proofs.Ytjbaaefkijgfkaa.P Go.Proofs.YtjbaaefkijgfkaaW.PrintWords Go.Proofs.YtjbaaefkijgfkaaW.PrintLast

theorem FnExactQueueOk : ∀ (l : List Int), (∀ y ∈ l, (Lit.int .i64 y).wf = true) → ∃ k, laws_FnExactQueueOk.f k l = some true := by
  intro l _
  refine ⟨l.length + 20, ?_⟩
  unfold laws_FnExactQueueOk.f
  by_cases h : l.length ≤ 1048576
  · rw [if_neg (by omega), toIntS_eq l h _ (by omega)]
    simp only [Option.bind_some]
    rw [spec_queue l _ (by omega)]
    simp only [Option.bind_some]
    rw [impl_queue]
    simp only [Option.bind_some, bne_self_eq_false, Bool.false_eq_true, if_false]
    rw [eqIntS_eq l h _ (by omega)]
    rfl
  · rw [if_pos (by omega)]
end Go.Proofs.Ytjbaaefkijgfkaa.Pure
