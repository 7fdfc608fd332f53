/- The plain laws of chapter 26's sizes and copies. -/
import Derived.Test.YtajlknkplpohlaaQx13
import Derived.Test.YtajlknkplpohlaaQx16
import Derived.Test.YtajlknkplpohlaaE2
namespace Go.Proofs.Ytajlknkplpohlaa.Pure
open Go.RowKit Go.Proofs.Ytajlknkplpohlaa.Q Go.Proofs.Ytajlknkplpohlaa.Gen Go.Proofs.YtajlknkplpohlaaW.PrintWords Go.Proofs.YtajlknkplpohlaaW.PrintLast

theorem szIntS_eq (l : List Int) (L : Int) (hl : l.length ≤ 9223372036854775807) (h0 : 0 ≤ L) (h1 : L ≤ 1048576) : laws_szIntS.f l L = some (if L - (l.length : Int) < 0 then -1 else L - (l.length : Int)) := by
  unfold laws_szIntS.f
  rw [w64 _ (by omega) (by omega)]
  split <;> rfl
theorem szQuiet_eq (a : Int) (l1 l2 l3 : List Int) (s c : Int) (h1 : l1.length ≤ 9223372036854775807) (h2 : l2.length ≤ 9223372036854775807) (h3 : l3.length ≤ 9223372036854775807) :
    ∃ r, laws_szQuiet.f a l1 l2 l3 s c 1048576 = some r ∧ (0 ≤ r → l1.length ≤ 1048576 ∧ l2.length ≤ 1048576 ∧ l3.length ≤ 1048576) := by
  unfold laws_szQuiet.f
  rw [szIntS_eq l1 _ h1 (by omega) (by omega)]
  simp only [Option.bind_some]
  by_cases c1 : (1048576 : Int) - (l1.length : Int) < 0
  · rw [if_pos c1, if_pos (by omega)]
    exact ⟨-1, rfl, fun h => by omega⟩
  · rw [if_neg c1, if_neg c1, szIntS_eq l2 _ h2 (by omega) (by omega)]
    simp only [Option.bind_some]
    by_cases c2 : (1048576 : Int) - (l1.length : Int) - (l2.length : Int) < 0
    · rw [if_pos c2, if_pos (by omega)]
      exact ⟨-1, rfl, fun h => by omega⟩
    · rw [if_neg c2, if_neg c2, szIntS_eq l3 _ h3 (by omega) (by omega)]
      simp only [Option.bind_some]
      by_cases c3 : (1048576 : Int) - (l1.length : Int) - (l2.length : Int) - (l3.length : Int) < 0
      · rw [if_pos c3, if_pos (by omega)]
        exact ⟨-1, rfl, fun h => by omega⟩
      · rw [if_neg c3, if_neg c3]
        exact ⟨_, rfl, fun h => by omega⟩
theorem toIntS_eq (l : List Int) (h : l.length ≤ 1048576) (k : Nat) (hk : l.length < k) : laws_toIntS.f k l = some l := by
  unfold laws_toIntS.f
  rw [if_pos (by omega), if_pos (by omega)]
  have := copyLoop l (fun x : Int => x) (fun k out i => laws_toIntS.l0 k l out i) (fun k out i hi hl => by
      show laws_toIntS.l0 (k + 1) l out i = _
      rw [laws_toIntS.l0, if_pos (by omega), if_pos (by omega), if_pos (by omega), w64n i (by omega), rd_at l i hi]
      rfl) (fun k out hl => by
      show laws_toIntS.l0 (k + 1) l out _ = _
      rw [laws_toIntS.l0, if_neg (by omega)]) k (List.replicate ((l.length : Int) : Int).toNat 0) hk (by simp)
  simpa using this
theorem toQuiet_eq (a : Int) (l1 l2 l3 : List Int) (s c : Int) (h1 : l1.length ≤ 1048576) (h2 : l2.length ≤ 1048576) (h3 : l3.length ≤ 1048576) : laws_toQuiet.f 1048577 a l1 l2 l3 s c = some (a, l1, l2, l3, s, c) := by
  unfold laws_toQuiet.f
  simp only [toIntS_eq l1 h1 1048577 (by omega), toIntS_eq l2 h2 1048577 (by omega), toIntS_eq l3 h3 1048577 (by omega), Option.bind_some]
end Go.Proofs.Ytajlknkplpohlaa.Pure
