/- The plain laws of chapter 25's LandAt. -/
import Derived.Test.YtjbaaefkijgfkaaQx16
import Derived.Test.YtjbaaefkijgfkaaQx18
import Derived.Test.YtjbaaefkijgfkaaQx19
import Derived.Test.YtjbaaefkijgfkaaQx20
import Derived.Test.YtjbaaefkijgfkaaQx21
import Derived.Test.YtjbaaefkijgfkaaC2
namespace Go.Proofs.Ytjbaaefkijgfkaa.Pure
open Go.RowKit Go.Proofs.Ytjbaaefkijgfkaa.Q Go.Proofs.Ytjbaaefkijgfkaa.Gen Go.Proofs.YtjbaaefkijgfkaaW.PrintWords Go.Proofs.YtjbaaefkijgfkaaW.PrintLast

theorem markIntS_eq (l : List Int) (h : l.length ≤ 1048576) (K : Int) (h0 : 0 ≤ K) (h1 : K ≤ 1000000000000) (k : Nat) (hk : l.length < k) : laws_markIntS.f k l K = some (K + l.length, (List.range l.length).map fun (j : Nat) => K + (j : Int)) := by
  unfold laws_markIntS.f
  exact markLoop (fun q : Int => q) (fun k l q i => laws_markIntS.l0 k l q i) l.length K (fun k l' q i hi hl hq hq' => by
      show laws_markIntS.l0 (k + 1) l' q i = _
      rw [laws_markIntS.l0, if_pos (by omega), if_pos (by omega), w64n i (by omega), w64 _ (by omega) (by omega)]
      rfl) (fun k l' q hl => by
      show laws_markIntS.l0 (k + 1) l' q _ = _
      rw [laws_markIntS.l0, if_neg (by omega)]) k l hk rfl h0
theorem markBoolS_eq (l : List Bool) (h : l.length ≤ 1048576) (K : Int) (h0 : 0 ≤ K) (h1 : K ≤ 1000000000000) (k : Nat) (hk : l.length < k) : laws_markBoolS.f k l K = some (K + l.length, (List.range l.length).map fun (j : Nat) => ((K + (j : Int)).tmod 3 == 0)) := by
  unfold laws_markBoolS.f
  exact markLoop (fun q : Int => (q.tmod 3 == 0)) (fun k l q i => laws_markBoolS.l0 k l q i) l.length K (fun k l' q i hi hl hq hq' => by
      show laws_markBoolS.l0 (k + 1) l' q i = _
      rw [laws_markBoolS.l0, if_pos (by omega), if_pos (by omega), w64n i (by omega), w64 _ (by omega) (by omega)]
      rfl) (fun k l' q hl => by
      show laws_markBoolS.l0 (k + 1) l' q _ = _
      rw [laws_markBoolS.l0, if_neg (by omega)]) k l hk rfl h0
theorem heldBoolS_eq (n : Nat) (h : n ≤ 1048576) (K : Int) (h0 : 0 ≤ K) (h1 : K ≤ 1000000000000) (k : Nat) (hk : n < k) : laws_heldBoolS.f k ((List.range n).map fun (j : Nat) => ((K + (j : Int)).tmod 3 == 0)) K = some (K + n) := by
  unfold laws_heldBoolS.f
  exact heldLoop (fun q : Int => (q.tmod 3 == 0)) (fun k q i => laws_heldBoolS.l0 k ((List.range n).map fun (j : Nat) => ((K + (j : Int)).tmod 3 == 0)) q i) n K ((List.range n).map fun (j : Nat) => ((K + (j : Int)).tmod 3 == 0)) rfl (fun k q i hi hi' hq hq' he => by
      show laws_heldBoolS.l0 (k + 1) _ q i = _
      rw [laws_heldBoolS.l0, if_pos (by simpa using hi), if_pos (by omega), rdOf_at false _ i hi', he, if_neg (by simp), w64n i (by omega), w64 _ (by omega) (by omega)]) (fun k q => by
      show laws_heldBoolS.l0 (k + 1) _ q _ = _
      rw [laws_heldBoolS.l0, if_neg (by simp)]) k hk h0

def landAt (q : List Int) (l : List Bool) (i : Int) : List Bool × Bool :=
  if legal q l = true ∧ 0 ≤ i ∧ i < (q.length : Int) ∧ rd q i ≠ 0 ∧ rdOf false l i = false ∧ legal q (l.set i.toNat true) = true then (l.set i.toNat true, true) else (l, false)
theorem legal_len {q : List Int} {l : List Bool} (h : legal q l = true) : l.length = q.length ∧ q.length ≤ 12 := by
  simp [legal, qok] at h
  omega

theorem spec_landAt (q : List Int) (l : List Bool) (i : Int) (hl : l.length ≤ 1048576) (k : Nat) (hk : 30 ≤ k) : spec_LandAt.f k q l i = some (landAt q l i) := by
  obtain ⟨k, rfl⟩ : ∃ m, k = m + 1 := ⟨k - 1, by omega⟩
  unfold spec_LandAt.f landAt
  simp only [Option.bind_some, List.length_nil, List.nil_append, spec_legal q _ (k + 1) (by omega), if_pos (by omega : 0 + l.length < 140737488355328), spec_LandAt.j0, spec_legal q _ k (by omega)]
  by_cases h : legal q l = true
  · obtain ⟨h1, h2⟩ := legal_len h
    simp only [h, if_true, true_and]
    by_cases c1 : i < 0
    · rw [if_pos c1, if_neg (by omega)]
    · rw [if_neg c1]
      by_cases c2 : i ≥ (q.length : Int)
      · rw [if_pos c2, if_neg (by omega)]
      · rw [if_neg c2, if_pos (by omega), if_pos (by omega), if_pos (by omega : i < (l.length : Int)), if_pos (by omega : 0 ≤ i)]
        by_cases c3 : rd q i = 0
        · rw [if_pos c3, if_neg (by simp [c3])]
        · rw [if_neg c3]
          by_cases c4 : rdOf false l i = true
          · rw [if_pos c4, if_neg (by simp [c4])]
          · rw [if_neg c4, if_pos (by omega : i < (l.length : Int))]
            have c5 : rdOf false l i = false := by simpa using c4
            by_cases c6 : legal q (l.set i.toNat true) = true
            · rw [if_pos c6, if_pos ⟨by omega, by omega, c3, c5, c6⟩]
            · rw [if_neg c6, if_neg (fun h => c6 h.2.2.2.2)]
  · simp only [Bool.eq_false_iff.mpr h, Bool.false_eq_true, if_false, false_and, if_true]
theorem impl_landAt (q : List Int) (l : List Bool) (i : Int) (hl : l.length ≤ 1048576) (hq : q.length ≤ 1048576) (k : Nat) (hk : 30 ≤ k) : impl_LandAt.f k q l i = some (landAt q l i) := by
  obtain ⟨k, rfl⟩ : ∃ m, k = m + 1 := ⟨k - 1, by omega⟩
  unfold impl_LandAt.f landAt
  simp only [Option.bind_some, impl_legal q _ (k + 1) (by omega), impl_LandAt.j0, impl_legal q _ k (by omega), slices_Clone_bool_bool.f, if_pos (by omega : l.length < 140737488355328), from_eq, w64 ((q.length : Int) - 1) (by omega) (by omega)]
  by_cases h : legal q l = true
  · obtain ⟨h1, h2⟩ := legal_len h
    simp only [h, if_true, true_and]
    by_cases c1 : 0 ≤ i ∧ i < (q.length : Int)
    · rw [if_pos (by simp; omega), if_pos (by omega), if_pos (by omega), if_pos (by omega : i < (l.length : Int)), if_pos (by omega : 0 ≤ i)]
      by_cases c3 : rd q i = 0
      · rw [if_pos c3, if_neg (by simp [c3])]
      · rw [if_neg c3]
        by_cases c4 : rdOf false l i = true
        · rw [if_pos c4, if_neg (by simp [c4])]
        · rw [if_neg c4, if_pos (by omega : i < (l.length : Int))]
          have c5 : rdOf false l i = false := by simpa using c4
          by_cases c6 : legal q (l.set i.toNat true) = true
          · rw [if_pos c6, if_pos ⟨by omega, by omega, c3, c5, c6⟩]
          · rw [if_neg c6, if_neg (fun h => c6 h.2.2.2.2)]
    · rw [if_neg (by simp; omega), if_neg (by omega)]
  · simp only [Bool.eq_false_iff.mpr h, Bool.false_eq_true, if_false, false_and, if_true]
end Go.Proofs.Ytjbaaefkijgfkaa.Pure
