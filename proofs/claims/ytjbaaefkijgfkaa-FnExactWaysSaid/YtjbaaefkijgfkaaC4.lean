/- The plain laws of chapter 25's Ways: counting the legal choices one by one, and part by part, comes to one number. -/
import Derived.Test.YtjbaaefkijgfkaaRx23
import Derived.Test.YtjbaaefkijgfkaaRx24
import Derived.Test.YtjbaaefkijgfkaaC2
import Derived.Laws.BitsLemmas
namespace Go.Proofs.Ytjbaaefkijgfkaa.Pure
open Go.RowKit Go.Proofs.Ytjbaaefkijgfkaa.R Go.Proofs.Ytjbaaefkijgfkaa.Gen Go.Proofs.YtjbaaefkijgfkaaW.PrintWords Go.Proofs.YtjbaaefkijgfkaaW.PrintLast

/-- How many flags are legal from here on. -/
def cnt : List Int → Bool → Bool → Nat
  | [], _, _ => 1
  | q :: qs, w, t => if q = 0 then cnt qs w (!w) else (if t = true then 0 else cnt qs w t) + cnt qs false t
theorem cnt_late : ∀ q, cnt q false true = 1 := by
  intro q
  induction q with
  | nil => rfl
  | cons x xs ih =>
    rw [cnt]
    by_cases c : x = 0
    · rw [if_pos c]; exact ih
    · rw [if_neg c, if_pos rfl, ih]
def specGo : Nat → Nat → List Int → Nat
  | n, p, [] => n + p - 1
  | n, p, q :: qs => if q = 0 then specGo (n + p - 1) 1 qs else specGo n (2 * p) qs
theorem specGo_eq : ∀ (q : List Int) (n p : Nat), 1 ≤ n → 1 ≤ p → specGo n p q + 1 = n + (p - 1) * cnt q false false + cnt q true false := by
  intro q
  induction q with
  | nil =>
    intro n p hn hp
    simp only [specGo, cnt]
    omega
  | cons x xs ih =>
    intro n p hn hp
    rw [specGo, cnt, cnt]
    by_cases c : x = 0
    · rw [if_pos c, if_pos c, if_pos c, ih _ _ (by omega) (by omega)]
      simp only [Bool.not_false, Bool.not_true, cnt_late]
      omega
    · rw [if_neg c, if_neg c, if_neg c, ih _ _ hn (by omega)]
      simp only [Bool.false_eq_true, if_false]
      obtain ⟨p, rfl⟩ : ∃ m, p = m + 1 := ⟨p - 1, by omega⟩
      rw [show 2 * (p + 1) - 1 = p + p + 1 from by omega, show p + 1 - 1 = p from rfl, Nat.add_mul, Nat.add_mul, Nat.mul_add]
      omega

/-- The flags of a number: its lowest bit first. -/
def flags : Nat → Nat → List Bool
  | 0, _ => []
  | n + 1, m => (m % 2 == 1) :: flags n (m / 2)
theorem flags_length : ∀ n m, (flags n m).length = n
  | 0, _ => rfl
  | n + 1, m => by rw [flags, List.length_cons, flags_length]
theorem flags_at : ∀ (n m i : Nat) (h : i < (flags n m).length), (flags n m)[i] = (m / 2 ^ i % 2 == 1)
  | 0, m, i, h => absurd h (Nat.not_lt_zero _)
  | n + 1, m, 0, h => by simp [flags]
  | n + 1, m, i + 1, h => by
    simp only [flags, List.getElem_cons_succ]
    rw [flags_at n (m / 2) i (by simpa [flags] using h), Nat.div_div_eq_div_mul, Nat.pow_succ, Nat.mul_comm 2]
def sumTo (f : Nat → Nat) : Nat → Nat
  | 0 => 0
  | n + 1 => sumTo f n + f n
theorem sumTo_double (f : Nat → Nat) : ∀ n, sumTo f (2 * n) = sumTo (fun m => f (2 * m) + f (2 * m + 1)) n
  | 0 => rfl
  | n + 1 => by
    rw [show 2 * (n + 1) = 2 * n + 1 + 1 from by omega, sumTo, sumTo, sumTo_double f n, sumTo]
    omega
theorem sumTo_congr {f g : Nat → Nat} : ∀ n, (∀ m, m < n → f m = g m) → sumTo f n = sumTo g n
  | 0, _ => rfl
  | n + 1, h => by rw [sumTo, sumTo, sumTo_congr n (fun m hm => h m (by omega)), h n (by omega)]
theorem sumTo_add (f g : Nat → Nat) : ∀ n, sumTo (fun m => f m + g m) n = sumTo f n + sumTo g n
  | 0 => rfl
  | n + 1 => by rw [sumTo, sumTo, sumTo, sumTo_add f g n]; omega
theorem sumTo_zero : ∀ n, sumTo (fun _ => 0) n = 0
  | 0 => rfl
  | n + 1 => by rw [sumTo, sumTo_zero n]
def yes (b : Bool) : Nat := if b = true then 1 else 0
theorem sum_legal : ∀ (q : List Int) (w t : Bool), sumTo (fun m => yes (legalGo q (flags q.length m) w t)) (2 ^ q.length) = cnt q w t := by
  intro q
  induction q with
  | nil => intro w t; rfl
  | cons x xs ih =>
    intro w t
    rw [List.length_cons, Nat.pow_succ, Nat.mul_comm, sumTo_double, cnt]
    have e : ∀ m, flags (xs.length + 1) (2 * m) = false :: flags xs.length m := fun m => by
      rw [flags, show 2 * m % 2 = 0 from by omega, show 2 * m / 2 = m from by omega]; rfl
    have o : ∀ m, flags (xs.length + 1) (2 * m + 1) = true :: flags xs.length m := fun m => by
      rw [flags, show (2 * m + 1) % 2 = 1 from by omega, show (2 * m + 1) / 2 = m from by omega]; rfl
    by_cases c : x = 0
    · rw [if_pos c, ← ih w (!w)]
      refine sumTo_congr _ fun m _ => ?_
      rw [e, o, legalGo, legalGo, if_pos c, if_pos c, if_pos rfl, if_neg (by simp)]
      simp [yes]
    · rw [if_neg c, ← ih false t]
      have : sumTo (fun m => yes (legalGo (x :: xs) (flags (xs.length + 1) (2 * m)) w t) + yes (legalGo (x :: xs) (flags (xs.length + 1) (2 * m + 1)) w t)) (2 ^ xs.length) = sumTo (fun m => (if t = true then 0 else yes (legalGo xs (flags xs.length m) w t)) + yes (legalGo xs (flags xs.length m) false t)) (2 ^ xs.length) := by
        refine sumTo_congr _ fun m _ => ?_
        rw [e, o, legalGo, legalGo, if_neg c, if_neg c, if_pos rfl, if_neg (by simp)]
        cases t <;> simp [yes, Nat.add_comm]
      rw [this, sumTo_add]
      congr 1
      by_cases ht : t = true
      · simp only [if_pos ht]; exact sumTo_zero _
      · simp only [if_neg ht]; exact ih w t

def ways (q : List Int) : Int := if qok q = true then (cnt q true false : Nat) else 0

theorem pow_le (d : Nat) (h : d ≤ 12) : 2 ^ d ≤ 4096 := Nat.le_trans (Nat.pow_le_pow_right (by decide) h) (by decide)

theorem spec_ways_l0 (q : List Int) (hq : q.length ≤ 12) : ∀ d k (i : Nat) (n p : Nat), q.length = i + d → d + 1 < k → 1 ≤ n → 1 ≤ p → n + p ≤ 2 * 4096 * 2 ^ i →
    spec_Ways.l0 k q (n : Int) (p : Int) (i : Int) = some ((specGo n p (q.drop i) : Nat) : Int) := by
  intro d
  induction d with
  | zero =>
    intro k i n p h hk hn hp hb
    obtain ⟨k, rfl⟩ : ∃ m, k = m + 2 := ⟨k - 2, by omega⟩
    have hpw := pow_le i (by omega)
    have hb' : n + p ≤ 2 * 4096 * 4096 := Nat.le_trans hb (Nat.mul_le_mul_left _ hpw)
    rw [spec_Ways.l0, if_pos (by omega), if_neg (by omega), w64n i (by omega), w64 ((n : Int) + p) (by omega) (by omega), w64 _ (by omega) (by omega), spec_Ways.l0, if_neg (by omega), List.drop_eq_nil_of_le (by omega), specGo]
    congr 1
    omega
  | succ d ih =>
    intro k i n p h hk hn hp hb
    obtain ⟨k, rfl⟩ : ∃ m, k = m + 1 := ⟨k - 1, by omega⟩
    have hpw := pow_le i (by omega)
    have hb' : n + p ≤ 2 * 4096 * 4096 := Nat.le_trans hb (Nat.mul_le_mul_left _ hpw)
    have hps : 2 * 4096 * 2 ^ (i + 1) = 2 * (2 * 4096 * 2 ^ i) := by rw [Nat.pow_succ]; omega
    rw [spec_Ways.l0, if_pos (by omega), if_pos (by omega), if_pos (by omega), rd_at q i (by omega), w64n i (by omega), w64 ((n : Int) + p) (by omega) (by omega), w64 ((n : Int) + p - 1) (by omega) (by omega), w64 ((p : Int) * 2) (by omega) (by omega), List.drop_eq_getElem_cons (by omega : i < q.length), specGo]
    by_cases c : q[i] = 0
    · rw [if_pos c, if_pos c, ← ih k (i + 1) (n + p - 1) 1 (by omega) (by omega) (by omega) (by omega) (by omega)]
      congr 1
      omega
    · rw [if_neg c, if_neg c, ← ih k (i + 1) n (2 * p) (by omega) (by omega) (by omega) (by omega) (by omega)]
      congr 1
      omega
theorem spec_ways (q : List Int) (k : Nat) (hk : 20 ≤ k) : spec_Ways.f k q = some (ways q) := by
  unfold spec_Ways.f ways
  rw [spec_queue q k (by omega)]
  simp only [Option.bind_some]
  by_cases h : qok q = true
  · have hq : q.length ≤ 12 := by
      simp [qok] at h
      omega
    rw [if_pos h, if_pos h]
    have := spec_ways_l0 q hq q.length k 0 1 1 (by omega) (by omega) (by omega) (by omega) (by decide)
    rw [show ((0 : Nat) : Int) = 0 from rfl, show ((1 : Nat) : Int) = 1 from rfl] at this
    rw [this, List.drop_zero]
    have h2 := specGo_eq q 1 1 (by omega) (by omega)
    simp only [Nat.sub_self, Nat.zero_mul] at h2
    congr 2
    omega
  · rw [if_neg h, if_neg h]

theorem low_bit (x : Int) (h0 : 0 ≤ x) (h1 : x < 2 ^ 62) : Go.bits .and .i64 x 1 = x % 2 := by
  have := bits_mask .i64 62 (by decide) (fun n h0 h1 => by rw [IntKind.wrap_i64]; omega) 1 (by decide) x h0 h1
  simpa using this
theorem bit_eq (m : Nat) (i : Nat) (hm : m < 4096) (hi : i < 12) : (Go.bits .and .i64 (shr .i64 (m : Int) (i : Int)) 1 == 1) = (m / 2 ^ i % 2 == 1) := by
  have e : shr .i64 (m : Int) (i : Int) = ((m / 2 ^ i : Nat) : Int) := by
    unfold shr
    rw [Int.toNat_natCast, Nat.min_eq_left (by show i ≤ 64; omega)]
    norm_cast
  have hle : m / 2 ^ i ≤ m := Nat.div_le_self _ _
  rw [e]
  generalize m / 2 ^ i = z at hle
  rw [low_bit (z : Int) (by omega) (by omega)]
  by_cases c : z % 2 = 1
  · have : (z : Int) % 2 = 1 := by omega
    rw [c, this]
    rfl
  · have h1 : (z : Int) % 2 = 0 := by omega
    have h2 : z % 2 = 0 := by omega
    rw [h1, h2]
    rfl

theorem impl_flags (q : List Int) (hq : q.length ≤ 12) (T : Int) (m : Nat) (hm : m < 4096) (X : Int) : ∀ d k (i : Nat) (fl : List Bool), q.length = i + d → fl.length = q.length → fl.take i = (flags q.length m).take i →
    impl_Ways.l1 (k + d + 1) q T fl (m : Int) X (m : Int) (q.length : Int) (i : Int) = impl_Ways.l1 (k + 1) q T (flags q.length m) (m : Int) X (m : Int) (q.length : Int) (q.length : Int) := by
  intro d
  induction d with
  | zero =>
    intro k i fl h hl ht
    obtain rfl : i = q.length := by omega
    rw [List.take_of_length_le (by omega), List.take_of_length_le (by rw [flags_length]; exact Nat.le_refl _)] at ht
    rw [ht]
  | succ d ih =>
    intro k i fl h hl ht
    rw [show k + (d + 1) + 1 = (k + d + 1) + 1 from by omega, impl_Ways.l1, if_pos (by omega), if_pos (by omega), if_pos (by omega), w64n i (by omega), bit_eq m i hm (by omega)]
    refine ih k (i + 1) _ (by omega) (by simpa using hl) ?_
    simp only [Int.toNat_natCast]
    rw [List.take_succ_eq_append_getElem (by simp; omega), List.take_succ_eq_append_getElem (by rw [flags_length]; omega), List.take_set_of_le (Nat.le_refl _), ht, flags_at]
    simp
theorem impl_count (q : List Int) (hq : q.length ≤ 12) (hok : qok q = true) : ∀ d k (m : Nat) (T : Nat) (fl : List Bool), 2 ^ q.length = m + d → d * (q.length + 3) + 20 < k → fl.length = q.length → T ≤ m →
    impl_Ways.l0 k q (T : Int) fl ((2 ^ q.length : Nat) : Int) (m : Int) = some ((T + (sumTo (fun m => yes (legalGo q (flags q.length m) true false)) (2 ^ q.length) - sumTo (fun m => yes (legalGo q (flags q.length m) true false)) m) : Nat) : Int) := by
  intro d
  have hp := pow_le q.length hq
  induction d with
  | zero =>
    intro k m T fl h hk hl hT
    obtain ⟨k, rfl⟩ : ∃ m, k = m + 1 := ⟨k - 1, by omega⟩
    rw [impl_Ways.l0, if_neg (by omega)]
    obtain rfl : m = 2 ^ q.length := by omega
    simp
  | succ d ih =>
    intro k m T fl h hk hl hT
    have hk2 : d * (q.length + 3) + 20 + (q.length + 3) < k := by
      rw [Nat.add_mul] at hk
      omega
    obtain ⟨k, rfl⟩ : ∃ j, k = j + q.length + 3 := ⟨k - q.length - 3, by omega⟩
    rw [show k + q.length + 3 = (k + 1 + q.length + 1) + 1 from by omega, impl_Ways.l0, if_pos (by omega), hl]
    have hf := impl_flags q hq (T : Int) m (by omega) ((2 ^ q.length : Nat) : Int) q.length (k + 1) 0 fl (by omega) hl (by simp)
    rw [show ((0 : Nat) : Int) = 0 from rfl] at hf
    rw [hf, impl_Ways.l1, if_neg (by omega), impl_legal q _ (k + 1) (by omega), Option.bind_some, w64n m (by omega)]
    have hmono : ∀ n j, sumTo (fun m => yes (legalGo q (flags q.length m) true false)) n ≤ sumTo (fun m => yes (legalGo q (flags q.length m) true false)) (n + j) := by
      intro n j
      induction j with
      | zero => exact Nat.le_refl _
      | succ j ihj => rw [← Nat.add_assoc, sumTo]; omega
    have hs := hmono (m + 1) d
    rw [show m + 1 + d = 2 ^ q.length from by omega] at hs
    have hst : sumTo (fun m => yes (legalGo q (flags q.length m) true false)) (m + 1) = sumTo (fun m => yes (legalGo q (flags q.length m) true false)) m + yes (legalGo q (flags q.length m) true false) := rfl
    have hlg : legal q (flags q.length m) = legalGo q (flags q.length m) true false := by
      unfold legal
      simp [hok, flags_length]
    rw [hlg]
    by_cases c : legalGo q (flags q.length m) true false = true
    · rw [if_pos c, w64n T (by omega), ih (k + 1) (m + 1) (T + 1) _ (by omega) (by omega) (flags_length _ _) (by omega)]
      rw [c] at hst
      simp only [yes, if_true] at hst hs ⊢
      congr 2
      omega
    · rw [if_neg c, ih (k + 1) (m + 1) T _ (by omega) (by omega) (flags_length _ _) (by omega)]
      have c' := Bool.eq_false_iff.mpr c
      rw [c'] at hst
      simp only [yes, Bool.false_eq_true, if_false] at hst hs ⊢
      congr 2
      omega
theorem impl_ways (q : List Int) (k : Nat) (hk : 100000 ≤ k) : impl_Ways.f k q = some (ways q) := by
  unfold impl_Ways.f ways
  rw [impl_queue q]
  simp only [Option.bind_some]
  by_cases h : qok q = true
  · have hq : q.length ≤ 12 := by
      simp [qok] at h
      omega
    have hp := pow_le q.length hq
    rw [if_pos h, if_pos h, if_pos (by omega), if_pos (by omega)]
    have hs : shl .i64 1 (q.length : Int) = ((2 ^ q.length : Nat) : Int) := by
      unfold shl
      rw [Int.toNat_natCast, Nat.min_eq_left (by show q.length ≤ 64; omega), Int.one_mul, IntKind.wrap_i64]
      have : ((2 ^ q.length : Nat) : Int) = (2 : Int) ^ q.length := by norm_cast
      rw [← this]
      generalize 2 ^ q.length = X at hp
      omega
    have hm : 2 ^ q.length * (q.length + 3) ≤ 4096 * 15 := Nat.mul_le_mul hp (by omega)
    have := impl_count q hq h (2 ^ q.length) k 0 0 (List.replicate ((q.length : Int) : Int).toNat false) (by omega) (by omega) (by simp) (by omega)
    rw [show ((0 : Nat) : Int) = 0 from rfl] at this
    rw [hs, this, sum_legal]
    simp [sumTo]
  · rw [if_neg h, if_neg h]
end Go.Proofs.Ytjbaaefkijgfkaa.Pure
