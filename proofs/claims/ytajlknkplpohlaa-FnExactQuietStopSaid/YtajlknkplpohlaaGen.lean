/- Lemmas about plain loops over lists (copying, comparing, marking), stated over any function that meets the loop's equations. No program in sight. -/
import Derived.RowKit
import Derived.Test.YtajlknkplpohlaaVWords
import Derived.Test.YtajlknkplpohlaaVLast
namespace Go.Proofs.Ytajlknkplpohlaa.Gen
open Go.RowKit Go.Proofs.YtajlknkplpohlaaW.PrintWords Go.Proofs.YtajlknkplpohlaaW.PrintLast
set_option linter.unusedVariables false
set_option linter.unusedSimpArgs false

theorem w64 (n : Int) (h0 : -9223372036854775808 ≤ n) (h1 : n ≤ 9223372036854775807) : wrap64 n = n := by
  unfold wrap64
  omega
theorem w64n (n : Nat) (h1 : n ≤ 9223372036854775806) : wrap64 ((n : Int) + 1) = ((n + 1 : Nat) : Int) := by
  rw [w64 _ (by omega) (by omega)]
  omega
theorem rd_at (l : List Int) (i : Nat) (h : i < l.length) : rd l (i : Int) = l[i] := by simp [rd, h]
theorem rdOf_at {α : Type} (z : α) (l : List α) (i : Nat) (h : i < l.length) : rdOf z l (i : Int) = l[i] := by simp [rdOf, h]

/-- A loop that stores f of each element of src into out. -/
theorem copyLoop {α β : Type} (src : List α) (f : α → β) (g : Nat → List β → Int → Option (List β))
    (hs : ∀ k (out : List β) (i : Nat) (h : i < src.length), out.length = src.length → g (k + 1) out (i : Int) = g k (out.set i (f src[i])) ((i + 1 : Nat) : Int))
    (he : ∀ k (out : List β), out.length = src.length → g (k + 1) out (src.length : Int) = some out) :
    ∀ k (out : List β), src.length < k → out.length = src.length → g k out 0 = some (src.map f) := by
  have key : ∀ d k (i : Nat) (out : List β), src.length = i + d → d < k → out.length = src.length → out.take i = (src.map f).take i → g k out (i : Int) = some (src.map f) := by
    intro d
    induction d with
    | zero =>
      intro k i out h hk hl ht
      obtain ⟨k, rfl⟩ : ∃ m, k = m + 1 := ⟨k - 1, by omega⟩
      obtain rfl : i = src.length := by omega
      rw [he k out hl]
      rw [List.take_of_length_le (by omega), List.take_of_length_le (by simp)] at ht
      rw [ht]
    | succ d ih =>
      intro k i out h hk hl ht
      obtain ⟨k, rfl⟩ : ∃ m, k = m + 1 := ⟨k - 1, by omega⟩
      rw [hs k out i (by omega) hl]
      refine ih k (i + 1) _ (by omega) (by omega) (by simpa using hl) ?_
      rw [List.take_succ_eq_append_getElem (by simp; omega), List.take_succ_eq_append_getElem (by simp; omega)]
      rw [List.take_set_of_le (Nat.le_refl _), ht]
      simp
  intro k out hk hl
  simpa using key src.length k 0 out (by omega) hk hl (by simp)

/-- A loop that compares two lists element by element. -/
theorem eqLoop {α : Type} [DecidableEq α] (a b : List α) (g : Nat → Int → Option Bool) (hab : a.length = b.length)
    (hs : ∀ k (i : Nat) (h : i < a.length) (h' : i < b.length), g (k + 1) (i : Int) = if a[i] = b[i] then g k ((i + 1 : Nat) : Int) else some false)
    (he : ∀ k, g (k + 1) (a.length : Int) = some true) :
    ∀ k, a.length < k → g k 0 = some (decide (a = b)) := by
  have key : ∀ d k (i : Nat), a.length = i + d → d < k → a.take i = b.take i → g k (i : Int) = some (decide (a = b)) := by
    intro d
    induction d with
    | zero =>
      intro k i h hk ht
      obtain ⟨k, rfl⟩ : ∃ m, k = m + 1 := ⟨k - 1, by omega⟩
      obtain rfl : i = a.length := by omega
      rw [he]
      rw [List.take_of_length_le (by omega), List.take_of_length_le (by omega)] at ht
      simp [ht]
    | succ d ih =>
      intro k i h hk ht
      obtain ⟨k, rfl⟩ : ∃ m, k = m + 1 := ⟨k - 1, by omega⟩
      rw [hs k i (by omega) (by omega)]
      by_cases c : a[i]'(by omega) = b[i]'(by omega)
      · rw [if_pos c]
        refine ih k (i + 1) (by omega) (by omega) ?_
        rw [List.take_succ_eq_append_getElem (by omega), List.take_succ_eq_append_getElem (by omega), ht, c]
      · rw [if_neg c]
        have : a ≠ b := by
          rintro rfl
          exact c rfl
        simp [this]
  intro k hk
  simpa using key a.length k 0 (by omega) hk (by simp)

/-- A loop that stores m k, m (k+1), .. into the elements, and counts on. -/
theorem markLoop {α : Type} (m : Int → α) (g : Nat → List α → Int → Int → Option (Int × List α)) (n : Nat) (K : Int)
    (hs : ∀ k (l : List α) (q : Int) (i : Nat) (h : i < n), l.length = n → 0 ≤ q → q ≤ K + n → g (k + 1) l q (i : Int) = g k (l.set i (m q)) (q + 1) ((i + 1 : Nat) : Int))
    (he : ∀ k (l : List α) (q : Int), l.length = n → g (k + 1) l q (n : Int) = some (q, l)) :
    ∀ k (l : List α), n < k → l.length = n → 0 ≤ K → g k l K 0 = some (K + n, (List.range n).map fun (j : Nat) => m (K + (j : Int))) := by
  have key : ∀ d k (i : Nat) (l : List α), n = i + d → d < k → l.length = n → 0 ≤ K → l.take i = ((List.range n).map fun (j : Nat) => m (K + (j : Int))).take i → g k l (K + i) (i : Int) = some (K + n, (List.range n).map fun (j : Nat) => m (K + (j : Int))) := by
    intro d
    induction d with
    | zero =>
      intro k i l h hk hl h0 ht
      obtain ⟨k, rfl⟩ : ∃ m, k = m + 1 := ⟨k - 1, by omega⟩
      obtain rfl : i = n := by omega
      rw [he k l _ hl]
      rw [List.take_of_length_le (by omega), List.take_of_length_le (by simp)] at ht
      rw [ht]
    | succ d ih =>
      intro k i l h hk hl h0 ht
      obtain ⟨k, rfl⟩ : ∃ m, k = m + 1 := ⟨k - 1, by omega⟩
      rw [hs k l _ i (by omega) hl (by omega) (by omega)]
      have := ih k (i + 1) (l.set i (m (K + i))) (by omega) (by omega) (by simpa using hl) h0 (by
        rw [List.take_succ_eq_append_getElem (by simp; omega), List.take_succ_eq_append_getElem (by simp; omega)]
        rw [List.take_set_of_le (Nat.le_refl _), ht]
        simp)
      rw [← this]
      congr 1
      omega
  intro k l hk hl h0
  simpa using key n k 0 l (by omega) hk hl h0 (by simp)

/-- A loop that asks whether the elements are m k, m (k+1), ..: they are. -/
theorem heldLoop {α : Type} (m : Int → α) (g : Nat → Int → Int → Option Int) (n : Nat) (K : Int) (l : List α) (hl : l = (List.range n).map fun (j : Nat) => m (K + (j : Int)))
    (hs : ∀ k (q : Int) (i : Nat) (h : i < n) (h' : i < l.length), 0 ≤ q → q ≤ K + n → l[i] = m q → g (k + 1) q (i : Int) = g k (q + 1) ((i + 1 : Nat) : Int))
    (he : ∀ k (q : Int), g (k + 1) q (n : Int) = some q) :
    ∀ k, n < k → 0 ≤ K → g k K 0 = some (K + n) := by
  have hln : l.length = n := by rw [hl]; simp
  have key : ∀ d k (i : Nat), n = i + d → d < k → 0 ≤ K → g k (K + i) (i : Int) = some (K + n) := by
    intro d
    induction d with
    | zero =>
      intro k i h hk h0
      obtain ⟨k, rfl⟩ : ∃ m, k = m + 1 := ⟨k - 1, by omega⟩
      obtain rfl : i = n := by omega
      rw [he k _]
    | succ d ih =>
      intro k i h hk h0
      obtain ⟨k, rfl⟩ : ∃ m, k = m + 1 := ⟨k - 1, by omega⟩
      rw [hs k _ i (by omega) (by omega) (by omega) (by omega) (by subst hl; simp)]
      rw [← ih k (i + 1) (by omega) (by omega) h0]
      congr 1
      omega
  intro k hk h0
  simpa using key n k 0 (by omega) hk h0
end Go.Proofs.Ytajlknkplpohlaa.Gen
