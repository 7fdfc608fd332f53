/- The plain law of FnExactConfGet: both programs tell the value of the first setting of that key. No condition. -/
import Derived.Test.YtoejimenfcincaaQx9
import Derived.Test.YtoejimenfcincaaD1
namespace Go.Proofs.Ytoejimenfcincaa.Pure
open Go.RowKit Go.Proofs.Ytoejimenfcincaa.Q Go.Proofs.YtoejimenfcincaaW.PrintWords Go.Proofs.YtoejimenfcincaaW.PrintLast

theorem FnExactConfGet : ∀ (l : List S36), (l.length ≤ 9223372036854775807 ∧ ∀ y ∈ l, y.f0.size ≤ maxLen ∧ (Lit.int .i64 y.f1).wf = true) → ∀ (key : ByteArray), key.size ≤ maxLen → ∀ (o : Int), (Lit.int .i64 o).wf = true → ∃ k, laws_FnExactConfGet.f k l key o = some true := by
  intro l ⟨hb, hs⟩ key _ o _
  refine ⟨l.length + 5, ?_⟩
  unfold laws_FnExactConfGet.f
  split
  · rfl
  · obtain ⟨r, hr, hq⟩ := sz_eq l hb (fun y hy => (hs y hy).1) (l.length + 5) (by omega)
    rw [hr]
    simp only [Option.bind_some]
    by_cases c : r < 0
    · rw [if_pos c]
    · rw [if_neg c]
      obtain ⟨h1, _⟩ := hq (by omega)
      have hm : (l.map cv).length = l.length := by simp
      generalize hk : l.length + 5 = k
      simp only [toSettingS_eq l h1 k (by omega), Option.bind_some, spec_confGet (l.map cv) key o (by omega) k (by omega), impl_confGet (l.map cv) key o (by omega) k (by omega), if_true, eqSettingS_eq (l.map cv) (by omega) k (by omega)]
end Go.Proofs.Ytoejimenfcincaa.Pure
