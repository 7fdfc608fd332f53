/- The plain law of chapter 26's QuietAck: both programs answer alike. -/
import Derived.Test.YtajlknkplpohlaaQx36
import Derived.Test.YtajlknkplpohlaaQx35
import Derived.Test.YtajlknkplpohlaaE4
namespace Go.Proofs.Ytajlknkplpohlaa.Pure
open Go.RowKit Go.Proofs.Ytajlknkplpohlaa.Q Go.Proofs.Ytajlknkplpohlaa.Gen Go.Proofs.YtajlknkplpohlaaW.PrintWords Go.Proofs.YtajlknkplpohlaaW.PrintLast

theorem ack_eq (a : Int) (h ac b : List Int) (s c i : Int) (k : Nat) (hk : 30 ≤ k) : ∃ r, spec_QuietAck.f k a h ac b s c i = some r ∧ impl_QuietAck.f k a h ac b s c i = some r ∧ small r := by
  unfold spec_QuietAck.f impl_QuietAck.f
  rw [spec_quietOk a h ac b s c k hk, impl_quietOk a h ac b s c k hk]
  simp only [Option.bind_some]
  by_cases H : quietOk a h ac b s c = true
  · rw [if_pos H, if_pos H]
    obtain ⟨e1, e2, e3, e4, _, _, _, _, _, _, eb, _⟩ := ok_facts H
    rw [l26Copy_eq a h ac b s c (by omega) (by omega) (by omega), copyQuiet_eq a h ac b s c (by omega) (by omega) (by omega)]
    simp only [Option.bind_some, isHost_eq a h ac b s c i (by omega)]
    by_cases c1 : 0 ≤ i ∧ i < (h.length : Int)
    · obtain ⟨j, rfl⟩ := Int.eq_ofNat_of_zero_le c1.1
      have hj : j < h.length := by omega
      obtain ⟨b1, b2⟩ := eb j hj
      simp only [if_pos (by omega : 0 ≤ (j : Int)), if_pos (by omega : (j : Int) < (h.length : Int)), if_pos (by omega : (j : Int) < (b.length : Int)), if_pos (by omega : (j : Int) < (ac.length : Int))]
      rw [if_neg (by omega), if_neg (by omega), if_pos (show (decide (0 ≤ (j : Int)) && decide ((j : Int) ≤ (h.length : Int) - 1)) = true by simp; omega)]
      by_cases c2 : rd h (j : Int) = 1
      · rw [if_pos c2, if_pos c2]
        by_cases c3 : rd b (j : Int) = 0
        · rw [if_neg (by omega), if_pos c3]
          exact ⟨_, rfl, rfl, by simp [small]; omega⟩
        · rw [if_pos (by omega), if_neg c3]
          exact ⟨_, rfl, rfl, by simp [small]; omega⟩
      · rw [if_neg c2, if_neg c2]
        exact ⟨_, rfl, rfl, by simp [small]; omega⟩
    · rw [if_neg (show ¬ (decide (0 ≤ i) && decide (i ≤ (h.length : Int) - 1)) = true by simp; omega)]
      by_cases c2 : i < 0
      · rw [if_pos c2]
        exact ⟨_, rfl, rfl, by simp [small]; omega⟩
      · rw [if_neg c2, if_pos (by omega)]
        exact ⟨_, rfl, rfl, by simp [small]; omega⟩
  · rw [if_neg H, if_neg H]
    exact ⟨_, rfl, rfl, by simp [small]⟩
end Go.Proofs.Ytajlknkplpohlaa.Pure
