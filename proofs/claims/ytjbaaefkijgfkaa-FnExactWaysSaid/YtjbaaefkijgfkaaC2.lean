/- The plain laws of chapter 25's Legal: both programs say yes just where each write ahead of a barrier has landed if one behind it has. -/
import Derived.Test.YtjbaaefkijgfkaaRx12
import Derived.Test.YtjbaaefkijgfkaaRx14
import Derived.Test.YtjbaaefkijgfkaaRx11
import Derived.Test.YtjbaaefkijgfkaaRx13
import Derived.Test.YtjbaaefkijgfkaaC1
namespace Go.Proofs.Ytjbaaefkijgfkaa.Pure
open Go.RowKit Go.Proofs.Ytjbaaefkijgfkaa.R Go.Proofs.Ytjbaaefkijgfkaa.Gen Go.Proofs.YtjbaaefkijgfkaaW.PrintWords Go.Proofs.YtjbaaefkijgfkaaW.PrintLast

theorem toBoolS_eq (l : List Bool) (h : l.length ≤ 1048576) (k : Nat) (hk : l.length < k) : laws_toBoolS.f k l = some l := by
  unfold laws_toBoolS.f
  rw [if_pos (by omega), if_pos (by omega)]
  have := copyLoop l (fun x : Bool => x) (fun k out i => laws_toBoolS.l0 k l out i) (fun k out i hi hl => by
      show laws_toBoolS.l0 (k + 1) l out i = _
      rw [laws_toBoolS.l0, if_pos (by omega), if_pos (by omega), if_pos (by omega), w64n i (by omega), rdOf_at false l i hi]
      rfl) (fun k out hl => by
      show laws_toBoolS.l0 (k + 1) l out _ = _
      rw [laws_toBoolS.l0, if_neg (by omega)]) k (List.replicate ((l.length : Int) : Int).toNat false) hk (by simp)
  simpa using this

theorem eqBoolS_eq (l : List Bool) (h : l.length ≤ 1048576) (k : Nat) (hk : l.length < k) : laws_eqBoolS.f k l l = some true := by
  unfold laws_eqBoolS.f
  rw [if_pos rfl]
  have := eqLoop l l (fun k i => laws_eqBoolS.l0 k l l i) rfl (fun k i hi hi' => by
      show laws_eqBoolS.l0 (k + 1) l l i = _
      rw [laws_eqBoolS.l0, if_pos (by omega), if_pos (by omega), if_pos (by omega), w64n i (by omega), if_neg (by simp), if_pos rfl]) (fun k => by
      show laws_eqBoolS.l0 (k + 1) l l _ = _
      rw [laws_eqBoolS.l0, if_neg (by omega)]) k hk
  simpa using this

/-- As the reference goes: 'whole': no write is open till here; 'late': one was open ahead of the last barrier. -/
def legalGo : List Int → List Bool → Bool → Bool → Bool
  | q :: qs, b :: bs, whole, late => if q = 0 then (if b = true then false else legalGo qs bs whole (!whole)) else if b = true then (if late = true then false else legalGo qs bs whole late) else legalGo qs bs false late
  | _, _, _, _ => true
def legal (q : List Int) (l : List Bool) : Bool := qok q && decide (l.length = q.length) && legalGo q l true false

theorem spec_legal_l0 (q : List Int) (l : List Bool) (hq : q.length ≤ 12) (hl : l.length = q.length) : ∀ d k (i : Nat) (whole late : Bool), q.length = i + d → d < k → spec_Legal.l0 k q l whole late (i : Int) = some (legalGo (q.drop i) (l.drop i) whole late) := by
  intro d
  induction d with
  | zero =>
    intro k i w t h hk
    obtain ⟨k, rfl⟩ : ∃ m, k = m + 1 := ⟨k - 1, by omega⟩
    rw [spec_Legal.l0, if_neg (by omega), List.drop_eq_nil_of_le (by omega)]
    simp [legalGo]
  | succ d ih =>
    intro k i w t h hk
    obtain ⟨k, rfl⟩ : ∃ m, k = m + 1 := ⟨k - 1, by omega⟩
    rw [spec_Legal.l0, if_pos (by omega), if_pos (by omega), rd_at q i (by omega), rdOf_at false l i (by omega), w64n i (by omega), List.drop_eq_getElem_cons (by omega : i < q.length), List.drop_eq_getElem_cons (by omega : i < l.length)]
    simp only [if_pos (by omega : (i : Int) < (l.length : Int)), ih k (i + 1) _ _ (by omega) (by omega)]
    rw [legalGo]
    by_cases c : q[i] = 0 <;> cases b : l[i] <;> cases w <;> cases t <;> simp [c]
theorem spec_legal (q : List Int) (l : List Bool) (k : Nat) (hk : 15 ≤ k) : spec_Legal.f k q l = some (legal q l) := by
  unfold spec_Legal.f legal
  rw [spec_queue q k (by omega)]
  simp only [Option.bind_some]
  obtain ⟨k, rfl⟩ : ∃ m, k = m + 1 := ⟨k - 1, by omega⟩
  by_cases h : qok q = true
  · rw [if_pos h, h, spec_Legal.j0]
    have hq : q.length ≤ 12 := by
      simp [qok] at h
      omega
    by_cases e : l.length = q.length
    · rw [if_neg (by simp [e])]
      have := spec_legal_l0 q l hq e q.length k 0 true false (by omega) (by omega)
      rw [show ((0 : Nat) : Int) = 0 from rfl] at this
      rw [this]
      simp [e]
    · rw [if_pos (by simp; omega)]
      simp [e]
  · rw [if_neg h, spec_Legal.j0, if_pos rfl]
    simp [Bool.eq_false_iff.mpr h]

theorem impl_legal_l0 (q : List Int) (l : List Bool) (hq : q.length ≤ 12) (hl : l.length = q.length) : ∀ d k (i : Nat) (all must : Bool), q.length = i + d → d < k → impl_Legal.l0 k l all must q (q.length : Int) (i : Int) = some (legalGo (q.drop i) (l.drop i) all (!must)) := by
  intro d
  induction d with
  | zero =>
    intro k i w t h hk
    obtain ⟨k, rfl⟩ : ∃ m, k = m + 1 := ⟨k - 1, by omega⟩
    rw [impl_Legal.l0, if_neg (by omega), List.drop_eq_nil_of_le (by omega)]
    simp [legalGo]
  | succ d ih =>
    intro k i w t h hk
    obtain ⟨k, rfl⟩ : ∃ m, k = m + 1 := ⟨k - 1, by omega⟩
    rw [impl_Legal.l0, if_pos (by omega), if_pos (by omega), if_pos (by omega), rd_at q i (by omega), rdOf_at false l i (by omega), w64n i (by omega), List.drop_eq_getElem_cons (by omega : i < q.length), List.drop_eq_getElem_cons (by omega : i < l.length)]
    simp only [if_pos (by omega : (i : Int) < (l.length : Int)), ih k (i + 1) _ _ (by omega) (by omega)]
    rw [legalGo]
    by_cases c : q[i] = 0 <;> cases b : l[i] <;> cases w <;> cases t <;> simp [c]
theorem impl_legal (q : List Int) (l : List Bool) (k : Nat) (hk : 15 ≤ k) : impl_Legal.f k q l = some (legal q l) := by
  unfold impl_Legal.f legal
  rw [impl_queue q]
  simp only [Option.bind_some]
  obtain ⟨k, rfl⟩ : ∃ m, k = m + 1 := ⟨k - 1, by omega⟩
  by_cases h : qok q = true
  · rw [if_pos h, h, impl_Legal.j0]
    have hq : q.length ≤ 12 := by
      simp [qok] at h
      omega
    by_cases e : l.length = q.length
    · rw [if_neg (by simp [e])]
      have := impl_legal_l0 q l hq e q.length k 0 true true (by omega) (by omega)
      rw [show ((0 : Nat) : Int) = 0 from rfl] at this
      rw [this]
      simp [e]
    · rw [if_pos (by simp; omega)]
      simp [e]
  · rw [if_neg h, impl_Legal.j0, if_pos rfl]
    simp [Bool.eq_false_iff.mpr h]
end Go.Proofs.Ytjbaaefkijgfkaa.Pure
