/- The plain laws of chapter 25's first functions: what the printed functions compute, in lists and numbers. -/
import Derived.Test.YtjbaaefkijgfkaaRx3
import Derived.Test.YtjbaaefkijgfkaaRx9
import Derived.Test.YtjbaaefkijgfkaaRx1
import Derived.Test.YtjbaaefkijgfkaaRx6
import Derived.Test.YtjbaaefkijgfkaaRx2
import Derived.Test.YtjbaaefkijgfkaaRx8
import Derived.Test.YtjbaaefkijgfkaaGen
namespace Go.Proofs.Ytjbaaefkijgfkaa.Pure
open Go.RowKit Go.Proofs.Ytjbaaefkijgfkaa.R Go.Proofs.Ytjbaaefkijgfkaa.Gen Go.Proofs.YtjbaaefkijgfkaaW.PrintWords Go.Proofs.YtjbaaefkijgfkaaW.PrintLast

theorem toIntS_eq (l : List Int) (h : l.length ≤ 1048576) (k : Nat) (hk : l.length < k) : laws_toIntS.f k l = some l := by
  unfold laws_toIntS.f
  rw [if_pos (by omega), if_pos (by omega)]
  have := copyLoop l (fun x : Int => x) (fun k out i => laws_toIntS.l0 k l out i) (fun k out i hi hl => by
      show laws_toIntS.l0 (k + 1) l out i = _
      rw [laws_toIntS.l0, if_pos (by omega), if_pos (by omega), if_pos (by omega), w64n i (by omega), rd_at l i hi]
      rfl) (fun k out hl => by
      show laws_toIntS.l0 (k + 1) l out _ = _
      rw [laws_toIntS.l0, if_neg (by omega)]) k (List.replicate ((l.length : Int) : Int).toNat 0) hk (by simp)
  simpa using this

theorem eqIntS_eq (l : List Int) (h : l.length ≤ 1048576) (k : Nat) (hk : l.length < k) : laws_eqIntS.f k l l = some true := by
  unfold laws_eqIntS.f
  rw [if_pos rfl]
  have := eqLoop l l (fun k i => laws_eqIntS.l0 k l l i) rfl (fun k i hi hi' => by
      show laws_eqIntS.l0 (k + 1) l l i = _
      rw [laws_eqIntS.l0, if_pos (by omega), if_pos (by omega), if_pos (by omega), w64n i (by omega), if_pos rfl, if_pos rfl]) (fun k => by
      show laws_eqIntS.l0 (k + 1) l l _ = _
      rw [laws_eqIntS.l0, if_neg (by omega)]) k hk
  simpa using this

def qin (x : Int) : Bool := decide (0 ≤ x) && decide (x ≤ 99)
def qok (l : List Int) : Bool := decide (l.length ≤ 12) && l.all qin

theorem l1In_eq (a b c : Int) : spec_l1In.f a b c = some (decide (b ≤ a) && decide (a ≤ c)) := by
  unfold spec_l1In.f
  by_cases h : b ≤ a <;> simp [h]
theorem from_eq (a b c : Int) : impl_from.f a b c = some (decide (b ≤ a) && decide (a ≤ c)) := by
  unfold impl_from.f
  by_cases h : b ≤ a <;> simp [h]

theorem spec_queue_l0 (l : List Int) (hl : l.length ≤ 12) : ∀ d k (i : Nat), l.length = i + d → d < k → spec_QueueOk.l0 k l (i : Int) = some ((l.drop i).all qin) := by
  intro d
  induction d with
  | zero =>
    intro k i h hk
    obtain ⟨k, rfl⟩ : ∃ m, k = m + 1 := ⟨k - 1, by omega⟩
    rw [spec_QueueOk.l0, if_neg (by omega), List.drop_eq_nil_of_le (by omega)]
    rfl
  | succ d ih =>
    intro k i h hk
    obtain ⟨k, rfl⟩ : ∃ m, k = m + 1 := ⟨k - 1, by omega⟩
    rw [spec_QueueOk.l0, if_pos (by omega), if_pos (by omega), l1In_eq, rd_at l i (by omega), w64n i (by omega), List.drop_eq_getElem_cons (by omega : i < l.length)]
    simp only [Option.bind_some, List.all_cons]
    by_cases c : qin l[i] = true
    · rw [if_pos (by simpa [qin] using c), ih k (i + 1) (by omega) (by omega), c]
      simp
    · rw [if_neg (by simpa [qin] using c)]
      simp [Bool.eq_false_iff.mpr c]
theorem spec_queue (l : List Int) (k : Nat) (hk : 13 ≤ k) : spec_QueueOk.f k l = some (qok l) := by
  unfold spec_QueueOk.f qok
  by_cases h : l.length ≤ 12
  · rw [if_neg (by omega)]
    have := spec_queue_l0 l h l.length k 0 (by omega) (by omega)
    simpa [h] using this
  · rw [if_pos (by omega)]
    simp [h]

theorem index_go (f : Int → Option Bool) (p : Int → Bool) (hf : ∀ x, f x = some (p x)) : ∀ (l : List Int) (i : Nat), ∃ r, slices_IndexFunc_int_int.go f l i = some r ∧ decide (0 ≤ r) = l.any p := by
  intro l
  induction l with
  | nil => intro i; exact ⟨-1, rfl, by simp⟩
  | cons x xs ih =>
    intro i
    rw [slices_IndexFunc_int_int.go, hf]
    simp only [Option.bind_some]
    by_cases c : p x = true
    · exact ⟨i, by rw [if_pos c], by simp [c]⟩
    · obtain ⟨r, hr, h⟩ := ih (i + 1)
      refine ⟨r, by rw [if_neg c]; exact hr, by simp [h, c]⟩
theorem contains_eq (f : Int → Option Bool) (p : Int → Bool) (hf : ∀ x, f x = some (p x)) (l : List Int) : slices_ContainsFunc_int_int.f f l = some (l.any p) := by
  obtain ⟨r, hr, h⟩ := index_go f p hf l 0
  unfold slices_ContainsFunc_int_int.f slices_IndexFunc_int_int.f
  rw [hr]
  simp [h]
theorem impl_queue (l : List Int) : impl_QueueOk.f l = some (qok l) := by
  unfold impl_QueueOk.f qok
  by_cases h : l.length ≤ 12
  · rw [if_pos (by omega), contains_eq _ (fun x => !qin x) (fun x => by unfold impl_QueueOk_1.f; rw [from_eq]; rfl)]
    simp only [Option.bind_some, h, decide_true, Bool.true_and]
    congr 1
    induction l with
    | nil => rfl
    | cons x xs ih => simp [List.any_cons, List.all_cons, ih (by simp at h; omega)]
  · rw [if_neg (by omega)]
    simp [h]
end Go.Proofs.Ytjbaaefkijgfkaa.Pure
