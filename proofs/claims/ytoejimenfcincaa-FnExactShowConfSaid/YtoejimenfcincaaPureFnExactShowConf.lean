/- The plain law of FnExactShowConf. -/
import Derived.Test.YtoejimenfcincaaQx21
import Derived.Test.YtoejimenfcincaaD1
import Derived.Test.YtoejimenfcincaaD2
namespace Go.Proofs.Ytoejimenfcincaa.Pure
open Go.RowKit Go.Proofs.Ytoejimenfcincaa.Q Go.Proofs.YtoejimenfcincaaW.PrintWords Go.Proofs.YtoejimenfcincaaW.PrintLast

theorem FnExactShowConf : ∀ (l : List S36), (l.length ≤ 9223372036854775807 ∧ ∀ y ∈ l, y.f0.size ≤ maxLen ∧ (Lit.int .i64 y.f1).wf = true) → ∃ k, laws_FnExactShowConf.f k l = some true := by
  intro l ⟨hb, hs⟩
  refine ⟨l.length + 1048600, ?_⟩
  unfold laws_FnExactShowConf.f
  obtain ⟨r, hr, hq⟩ := sz_eq l hb (fun y hy => (hs y hy).1) (l.length + 1048600) (by omega)
  rw [hr]
  simp only [Option.bind_some]
  by_cases c : r < 0
  · rw [if_pos c]
  · rw [if_neg c]
    obtain ⟨h1, h2⟩ := hq (by omega)
    have hm : (l.map cv).length = l.length := by simp
    have h3 : ∀ y ∈ l.map cv, y.f0.size ≤ 1048576 := by
      intro y hy
      obtain ⟨x, hx, rfl⟩ := List.mem_map.1 hy
      exact h2 x hx
    generalize hk : l.length + 1048600 = k
    simp only [toSettingS_eq l h1 k (by omega), Option.bind_some, spec_show (l.map cv) (by omega) h3 k (by omega), impl_show (l.map cv) (by omega) h3 k (by omega), if_true, eqSettingS_eq (l.map cv) (by omega) k (by omega)]
end Go.Proofs.Ytoejimenfcincaa.Pure
