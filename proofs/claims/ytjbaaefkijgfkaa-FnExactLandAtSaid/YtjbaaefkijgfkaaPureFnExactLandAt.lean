/- The plain law of FnExactLandAt. No condition. -/
import Derived.Test.YtjbaaefkijgfkaaQx22
import Derived.Test.YtjbaaefkijgfkaaC3
namespace Go.Proofs.Ytjbaaefkijgfkaa.Pure
open Go.RowKit Go.Proofs.Ytjbaaefkijgfkaa.Q Go.Proofs.YtjbaaefkijgfkaaW.PrintWords Go.Proofs.YtjbaaefkijgfkaaW.PrintLast

theorem FnExactLandAt : ∀ (q : List Int), (∀ y ∈ q, (Lit.int .i64 y).wf = true) → ∀ (l : List Bool), (∀ y ∈ l, True) → ∀ (i : Int), (Lit.int .i64 i).wf = true → ∃ k, laws_FnExactLandAt.f k q l i = some true := by
  intro q _ l _ i _
  refine ⟨q.length + l.length + 50, ?_⟩
  unfold laws_FnExactLandAt.f
  by_cases hq : q.length ≤ 1048576
  · rw [if_neg (by omega)]
    by_cases hl : l.length ≤ 1048576
    · rw [if_neg (by omega)]
      have hr : (landAt q l i).1.length = l.length := by
        unfold landAt
        split <;> simp
      generalize hk : q.length + l.length + 50 = k
      simp only [toIntS_eq q hq k (by omega), toBoolS_eq l hl k (by omega), Option.bind_some, spec_landAt q l i hl k (by omega), impl_landAt q l i hl hq k (by omega), eqIntS_eq q hq k (by omega), eqBoolS_eq l hl k (by omega), eqBoolS_eq (landAt q l i).1 (by omega) k (by omega), bne_self_eq_false, Bool.false_eq_true, if_false, if_true,
        markIntS_eq q hq 1 (by omega) (by omega) k (by omega), markBoolS_eq l hl (1 + q.length) (by omega) (by omega) k (by omega), markBoolS_eq (landAt q l i).1 (by omega) 1 (by omega) (by omega) k (by omega), heldBoolS_eq (landAt q l i).1.length (by omega) 1 (by omega) (by omega) k (by omega),
        if_neg (by omega : ¬ (1 + (q.length : Int) + (l.length : Int) < 0)), if_neg (by omega : ¬ (1 + ((landAt q l i).1.length : Int) < 0))]
    · rw [if_pos (by omega)]
  · rw [if_pos (by omega)]
end Go.Proofs.Ytjbaaefkijgfkaa.Pure
