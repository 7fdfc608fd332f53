/- The plain laws of chapter 27's ShowConf: both programs show the same text. -/
import Derived.Test.YtoejimenfcincaaQx15
import Derived.Test.YtoejimenfcincaaQx20
import Derived.Test.YtoejimenfcincaaGen
import Derived.Test.YtoejimenfcincaaD1
namespace Go.Proofs.Ytoejimenfcincaa.Pure
open Go.RowKit Go.Proofs.Ytoejimenfcincaa.Q Go.Proofs.Ytoejimenfcincaa.Gen Go.Proofs.YtoejimenfcincaaW.PrintWords Go.Proofs.YtoejimenfcincaaW.PrintLast
set_option linter.unusedVariables false
set_option linter.unusedSimpArgs false

/-! ### keys -/
def okC (s : ByteArray) (i : Nat) : Prop := bt s (i : Int) = 46 ∨ (¬ bt s (i : Int) < 97 ∧ ¬ bt s (i : Int) > 122)
instance (s : ByteArray) (i : Nat) : Decidable (okC s i) := by unfold okC; infer_instance
def okCs (s : ByteArray) : Nat → Nat → Bool
  | 0, _ => true
  | d + 1, i => if okC s i then okCs s d (i + 1) else false
def okKey (s : ByteArray) : Bool := if 1 ≤ s.size ∧ s.size ≤ 16 then (if bt s 0 = 46 then false else okCs s s.size 0) else false

theorem spec_key0 (s : ByteArray) (h : s.size ≤ 1048576) : ∀ d k (i : Nat), s.size = i + d → d < k → spec_l27Key.l0 k s (i : Int) = some (okCs s d i) := by
  intro d
  induction d with
  | zero =>
    intro k i h hk
    obtain ⟨k, rfl⟩ : ∃ m, k = m + 1 := ⟨k - 1, by omega⟩
    rw [spec_l27Key.l0, if_neg (by omega), okCs]
  | succ d ih =>
    intro k i h hk
    obtain ⟨k, rfl⟩ : ∃ m, k = m + 1 := ⟨k - 1, by omega⟩
    rw [spec_l27Key.l0, if_pos (by omega), if_pos (by omega), w64n i (by omega), ih k (i + 1) (by omega) (by omega), okCs]
    split
    · rw [if_pos (show okC s i by unfold okC; omega)]
    · split
      · rw [if_neg (show ¬ okC s i by unfold okC; omega)]
      · split
        · rw [if_neg (show ¬ okC s i by unfold okC; omega)]
        · rw [if_pos (show okC s i by unfold okC; omega)]
theorem spec_key (s : ByteArray) (h : s.size ≤ 1048576) (k : Nat) (hk : s.size + 1 < k) : spec_l27Key.f k s = some (okKey s) := by
  obtain ⟨k, rfl⟩ : ∃ m, k = m + 1 := ⟨k - 1, by omega⟩
  unfold spec_l27Key.f spec_l1In.f okKey
  by_cases c : 1 ≤ s.size ∧ s.size ≤ 16
  · rw [if_pos c, if_pos (by omega)]
    simp only [Option.bind_some]
    rw [if_pos (by simp; omega), if_pos (by omega), spec_l27Key.j0]
    by_cases c2 : bt s 0 = 46
    · rw [if_pos c2, if_pos (by simp [c2])]
    · rw [if_neg c2, if_neg (by simp [c2])]
      exact spec_key0 s h s.size k 0 (by omega) (by omega)
  · rw [if_neg c]
    split
    · simp only [Option.bind_some]
      rw [if_neg (by simp; omega), spec_l27Key.j0, if_pos rfl]
    · simp only [Option.bind_some]
      rw [if_neg (by simp), spec_l27Key.j0, if_pos rfl]
theorem impl_key0 (s : ByteArray) (h : s.size ≤ 1048576) : ∀ d k (i : Nat), s.size = i + d → d < k → impl_keyOk.l0 k s (s.size : Int) (i : Int) = some (if i = 0 ∧ 0 < s.size ∧ bt s 0 = 46 then false else okCs s d i && decide (1 ≤ s.size ∧ s.size ≤ 16)) := by
  intro d
  induction d with
  | zero =>
    intro k i h hk
    obtain ⟨k, rfl⟩ : ∃ m, k = m + 1 := ⟨k - 1, by omega⟩
    rw [impl_keyOk.l0, if_neg (by omega), okCs, if_neg (by omega), impl_from.f]
    simp only [Bool.true_and]
    split
    · simp only [Option.bind_some]
      congr 2
      simp only [eq_iff_iff]
      omega
    · simp only [Option.bind_some]
      congr 1
      symm
      simp only [decide_eq_false_iff_not]
      omega
  | succ d ih =>
    intro k i h hk
    obtain ⟨k, rfl⟩ : ∃ m, k = m + 1 := ⟨k - 1, by omega⟩
    rw [impl_keyOk.l0, if_pos (by omega), if_pos (by omega), if_pos (by omega), w64n i (by omega), ih k (i + 1) (by omega) (by omega), okCs, if_neg (show ¬ (i + 1 = 0 ∧ 0 < s.size ∧ bt s 0 = 46) by omega)]
    by_cases c : okC s i
    · rw [if_pos c]
      unfold okC at c
      by_cases q : bt s (i : Int) = 46
      · rw [if_pos (show bt s (i : Int) < 97 by omega), if_pos q]
        by_cases e : i = 0
        · subst e
          rw [if_pos (by omega), if_pos ⟨rfl, by omega, q⟩]
        · rw [if_neg (by omega), if_neg (fun x => e x.1)]
      · rw [if_neg (show ¬ bt s (i : Int) < 97 by omega), if_neg (show ¬ bt s (i : Int) > 122 by omega), if_neg]
        rintro ⟨rfl, -, x⟩
        exact q x
    · rw [if_neg c]
      unfold okC at c
      have z : (if i = 0 ∧ 0 < s.size ∧ bt s 0 = 46 then false else (false && decide (1 ≤ s.size ∧ s.size ≤ 16))) = false := by split <;> rfl
      rw [z, if_neg (show ¬ bt s (i : Int) = 46 by omega)]
      split
      · rfl
      · rw [if_pos (by omega)]
theorem impl_key (s : ByteArray) (h : s.size ≤ 1048576) (k : Nat) (hk : s.size < k) : impl_keyOk.f k s = some (okKey s) := by
  unfold impl_keyOk.f okKey
  rw [show (0 : Int) = ((0 : Nat) : Int) from rfl, impl_key0 s h s.size k 0 (by omega) hk]
  congr 1
  by_cases c : 1 ≤ s.size ∧ s.size ≤ 16
  · rw [if_pos c, decide_eq_true c]
    by_cases c2 : bt s 0 = 46
    · rw [if_pos ⟨rfl, by omega, c2⟩]
      simp [c2]
    · rw [if_neg (fun x => c2 x.2.2)]
      simp [c2]
  · rw [if_neg c, decide_eq_false c]
    split <;> simp

/-! ### settings -/
def okIt (l : List S37) (i : Nat) : Prop := okKey (rd_T37 l (i : Int)).f0 = true ∧ (0 ≤ (rd_T37 l (i : Int)).f1 ∧ (rd_T37 l (i : Int)).f1 ≤ 1000000) ∧ (0 < i → Op.bytesLess (rd_T37 l ((i - 1 : Nat) : Int)).f0.toList (rd_T37 l (i : Int)).f0.toList = true)
instance (l : List S37) (i : Nat) : Decidable (okIt l i) := by unfold okIt; infer_instance
def okIts (l : List S37) : Nat → Nat → Bool
  | 0, _ => true
  | d + 1, i => if okIt l i then okIts l d (i + 1) else false
def okConf (l : List S37) : Bool := if l.length ≤ 20 then okIts l l.length 0 else false

theorem spec_ok0 (l : List S37) (h : l.length ≤ 2097152) (hs : ∀ y ∈ l, y.f0.size ≤ 1048576) (K : Nat) (hK : 1048580 ≤ K) : ∀ d k (i : Nat), l.length = i + d → K + d < k → spec_l27Ok.l0 k l (i : Int) = some (okIts l d i) := by
  intro d
  induction d with
  | zero =>
    intro k i h hk
    obtain ⟨k, rfl⟩ : ∃ m, k = m + 1 := ⟨k - 1, by omega⟩
    rw [spec_l27Ok.l0, if_neg (by omega), okIts]
  | succ d ih =>
    intro k i h hk
    obtain ⟨k, rfl⟩ : ∃ m, k = m + 1 := ⟨k - 1, by omega⟩
    have hz : (rd_T37 l (i : Int)).f0.size ≤ 1048576 := by
      rw [rd37 l i (by omega)]
      exact hs _ (List.getElem_mem _)
    rw [spec_l27Ok.l0, if_pos (by omega), if_pos (by omega), spec_key _ hz k (by omega), w64n i (by omega), ih k (i + 1) (by omega) (by omega), okIts]
    simp only [Option.bind_some, spec_l1In.f]
    by_cases c1 : okKey (rd_T37 l (i : Int)).f0 = true
    · rw [if_pos c1]
      by_cases c2 : 0 ≤ (rd_T37 l (i : Int)).f1 ∧ (rd_T37 l (i : Int)).f1 ≤ 1000000
      · rw [if_pos c2.1]
        simp only [Option.bind_some]
        rw [if_pos (by simpa using c2.2)]
        by_cases c3 : i = 0
        · rw [if_neg (by omega), if_pos (show okIt l i from ⟨c1, c2, fun h => by omega⟩)]
        · have e : wrap64 ((i : Int) - 1) = ((i - 1 : Nat) : Int) := by rw [w64 _ (by omega) (by omega)]; omega
          rw [if_pos (by omega), e, if_pos (by omega), if_pos (by omega)]
          by_cases c4 : Op.bytesLess (rd_T37 l ((i - 1 : Nat) : Int)).f0.toList (rd_T37 l (i : Int)).f0.toList = true
          · rw [if_pos c4, if_pos (show okIt l i from ⟨c1, c2, fun _ => c4⟩)]
          · rw [if_neg c4, if_neg (show ¬ okIt l i from fun x => c4 (x.2.2 (by omega)))]
      · rw [if_neg (show ¬ okIt l i from fun x => c2 x.2.1)]
        split
        · simp only [Option.bind_some]
          rw [if_neg (by simp; omega)]
        · rfl
    · rw [if_neg c1, if_neg (show ¬ okIt l i from fun x => c1 x.1)]
theorem spec_ok (l : List S37) (h : l.length ≤ 2097152) (hs : ∀ y ∈ l, y.f0.size ≤ 1048576) (k : Nat) (hk : 1048580 + l.length < k) : spec_l27Ok.f k l = some (okConf l) := by
  unfold spec_l27Ok.f okConf
  by_cases c : l.length ≤ 20
  · rw [if_neg (by omega), if_pos c]
    exact spec_ok0 l h hs 1048580 (by omega) l.length k 0 (by omega) hk
  · rw [if_pos (by omega), if_neg c]
theorem impl_ok0 (l : List S37) (h : l.length ≤ 2097152) (hs : ∀ y ∈ l, y.f0.size ≤ 1048576) (K : Nat) (hK : 1048580 ≤ K) : ∀ d k (i : Nat), l.length = i + d → K + d < k → impl_settingsOk.l0 k l l (l.length : Int) (i : Int) = some (okIts l d i && decide (l.length ≤ 20)) := by
  intro d
  induction d with
  | zero =>
    intro k i h hk
    obtain ⟨k, rfl⟩ : ∃ m, k = m + 1 := ⟨k - 1, by omega⟩
    rw [impl_settingsOk.l0, if_neg (by omega), okIts]
    simp only [Bool.true_and]
    congr 2
    simp only [eq_iff_iff]
    omega
  | succ d ih =>
    intro k i h hk
    obtain ⟨k, rfl⟩ : ∃ m, k = m + 1 := ⟨k - 1, by omega⟩
    have hz : (rd_T37 l (i : Int)).f0.size ≤ 1048576 := by
      rw [rd37 l i (by omega)]
      exact hs _ (List.getElem_mem _)
    rw [impl_settingsOk.l0, if_pos (by omega), if_pos (by omega), if_pos (by omega), impl_key _ hz k (by omega), w64n i (by omega), ih k (i + 1) (by omega) (by omega), okIts]
    simp only [Option.bind_some, impl_from.f]
    by_cases c1 : okKey (rd_T37 l (i : Int)).f0 = true
    · rw [if_pos c1]
      by_cases c2 : 0 ≤ (rd_T37 l (i : Int)).f1 ∧ (rd_T37 l (i : Int)).f1 ≤ 1000000
      · rw [if_pos c2.1]
        simp only [Option.bind_some]
        rw [if_pos (by simpa using c2.2)]
        by_cases c3 : i = 0
        · rw [if_neg (by omega), if_pos (show okIt l i from ⟨c1, c2, fun h => by omega⟩)]
        · have e : wrap64 ((i : Int) - 1) = ((i - 1 : Nat) : Int) := by rw [w64 _ (by omega) (by omega)]; omega
          rw [if_pos (by omega), e, if_pos (by omega), if_pos (by omega)]
          by_cases c4 : Op.bytesLess (rd_T37 l ((i - 1 : Nat) : Int)).f0.toList (rd_T37 l (i : Int)).f0.toList = true
          · rw [if_pos c4, if_pos (show okIt l i from ⟨c1, c2, fun _ => c4⟩)]
          · rw [if_neg c4, if_neg (show ¬ okIt l i from fun x => c4 (x.2.2 (by omega)))]
            rfl
      · rw [if_neg (show ¬ okIt l i from fun x => c2 x.2.1)]
        split
        · simp only [Option.bind_some]
          rw [if_neg (by simp; omega)]
          rfl
        · rfl
    · rw [if_neg c1, if_neg (show ¬ okIt l i from fun x => c1 x.1)]
      rfl
theorem impl_ok (l : List S37) (h : l.length ≤ 2097152) (hs : ∀ y ∈ l, y.f0.size ≤ 1048576) (k : Nat) (hk : 1048580 + l.length < k) : impl_settingsOk.f k l = some (okConf l) := by
  unfold impl_settingsOk.f okConf
  rw [show (0 : Int) = ((0 : Nat) : Int) from rfl, impl_ok0 l h hs 1048580 (by omega) l.length k 0 (by omega) hk]
  by_cases c : l.length ≤ 20
  · rw [if_pos c, decide_eq_true c, Bool.and_true]
  · rw [if_neg c, decide_eq_false c, Bool.and_false]
/-- What holds of each setting of a good list. -/
theorem okIts_all (l : List S37) : ∀ d (i : Nat), l.length = i + d → okIts l d i = true → ∀ y ∈ l.drop i, (y.f0.size ≤ 16 ∧ okKey y.f0 = true) ∧ 0 ≤ y.f1 ∧ y.f1 ≤ 1000000 := by
  intro d
  induction d with
  | zero =>
    intro i h _ y hy
    rw [List.drop_eq_nil_of_le (by omega)] at hy
    simp at hy
  | succ d ih =>
    intro i h ho y hy
    rw [okIts] at ho
    by_cases c : okIt l i
    · rw [if_pos c] at ho
      rw [List.drop_eq_getElem_cons (by omega : i < l.length)] at hy
      rcases List.mem_cons.1 hy with rfl | hy
      · obtain ⟨c1, c2, -⟩ := c
        rw [rd37 l i (by omega)] at c1 c2
        refine ⟨⟨?_, c1⟩, c2⟩
        unfold okKey at c1
        split at c1
        · omega
        · exact absurd c1 (by simp)
      · exact ih (i + 1) (by omega) ho y hy
    · rw [if_neg c] at ho
      exact absurd ho (by simp)
theorem okConf_all (l : List S37) (h : okConf l = true) : l.length ≤ 20 ∧ ∀ y ∈ l, (y.f0.size ≤ 16 ∧ okKey y.f0 = true) ∧ 0 ≤ y.f1 ∧ y.f1 ≤ 1000000 := by
  unfold okConf at h
  split at h
  · rename_i c
    exact ⟨c, fun y hy => okIts_all l l.length 0 (by omega) h y (by simpa using hy)⟩
  · exact absurd h (by simp)

/-! ### decimals -/
def dg (d : Nat) : ByteArray := ⟨#[UInt8.ofNat (48 + d)]⟩
def decN : Nat → Nat → ByteArray
  | 0, _ => ⟨#[]⟩
  | f + 1, n => if n < 10 then dg n else decN f (n / 10) ++ dg (n % 10)
theorem dg_size (d : Nat) : (dg d).size = 1 := rfl
theorem decN_size : ∀ f n, (decN f n).size ≤ f := by
  intro f
  induction f with
  | zero => intro n; exact Nat.le_refl _
  | succ f ih =>
    intro n
    rw [decN]
    split
    · rw [dg_size]; omega
    · rw [ByteArray.size_append, dg_size]
      have := ih (n / 10)
      omega
theorem encode_dg (d : Nat) (h : d < 10) : Utf8.encode (48 + (d : Int)) = dg d := by
  have : d = 0 ∨ d = 1 ∨ d = 2 ∨ d = 3 ∨ d = 4 ∨ d = 5 ∨ d = 6 ∨ d = 7 ∨ d = 8 ∨ d = 9 := by omega
  rcases this with rfl | rfl | rfl | rfl | rfl | rfl | rfl | rfl | rfl | rfl <;> rfl
theorem sn_dg (d : Nat) (h : d < 10) : strOfNums [(wrap64 (48 + (d : Int))) % 256] = dg d := by
  rw [w64 _ (by omega) (by omega)]
  have : d = 0 ∨ d = 1 ∨ d = 2 ∨ d = 3 ∨ d = 4 ∨ d = 5 ∨ d = 6 ∨ d = 7 ∨ d = 8 ∨ d = 9 := by omega
  rcases this with rfl | rfl | rfl | rfl | rfl | rfl | rfl | rfl | rfl | rfl <;> rfl
theorem bind_to {α β : Type} {o : Option α} {a : α} {g : α → Option β} {r : Option β} (h : o = some a) (h2 : g a = r) : o.bind g = r := by
  subst h
  exact h2
theorem impl_dec (f : Nat) (hf : f ≤ 18) : ∀ (n k : Nat), n < 10 ^ f → 0 < f → f < k → impl_Dec.f k (n : Int) = some (decN f n) := by
  induction f with
  | zero => intro n k _ h; omega
  | succ f ih =>
    intro n k hn _ hk
    obtain ⟨k, rfl⟩ : ∃ m, k = m + 1 := ⟨k - 1, by omega⟩
    have hp : 10 ^ (f + 1) ≤ 10 ^ 18 := Nat.pow_le_pow_right (by omega) hf
    have hp2 : (10 : Nat) ^ 18 = 1000000000000000000 := by rfl
    rw [impl_Dec.f, if_neg (by omega), if_neg (by omega), if_neg (by omega), decN]
    by_cases c : n < 10
    · rw [if_pos (by omega), if_pos c, encode_dg n c]
    · rw [if_neg (by omega), if_neg c]
      have e1 : (n : Int) / 10 = ((n / 10 : Nat) : Int) := by omega
      have e2 : (n : Int) % 10 = ((n % 10 : Nat) : Int) := by omega
      have hf0 : 0 < f := by
        rcases Nat.eq_zero_or_pos f with rfl | h
        · simp at hn; omega
        · exact h
      have e3 : (decN f (n / 10)).size + (dg (n % 10)).size ≤ 9223372036854775807 := by
        have q1 := decN_size f (n / 10)
        have q2 := dg_size (n % 10)
        generalize (decN f (n / 10)).size = u at *
        generalize (dg (n % 10)).size = v at *
        omega
      have e4 := ih (by omega) (n / 10) k (by rw [Nat.pow_succ] at hn; omega) hf0 (by omega)
      rw [e1, e2, encode_dg _ (by omega)]
      exact bind_to e4 (if_pos e3)
theorem spec_dec0 : ∀ (f : Nat) (n k : Nat) (x : ByteArray), f ≤ 18 → n < 10 ^ f → 0 < n → x.size ≤ 100 - f → f < k → spec_Dec.l0 k (n : Int) x false = some (decN f n ++ x) := by
  intro f
  induction f with
  | zero => intro n k x _ h; simp at h; omega
  | succ f ih =>
    intro n k x hf hn h0 hx hk
    obtain ⟨k, rfl⟩ : ∃ m, k = m + 1 := ⟨k - 1, by omega⟩
    have hp : 10 ^ (f + 1) ≤ 10 ^ 18 := Nat.pow_le_pow_right (by omega) hf
    have hp2 : (10 : Nat) ^ 18 = 1000000000000000000 := by rfl
    have e1 : Int.tdiv (n : Int) 10 = ((n / 10 : Nat) : Int) := by rw [Int.tdiv_eq_ediv_of_nonneg (by omega)]; omega
    have e2 : Int.tmod (n : Int) 10 = ((n % 10 : Nat) : Int) := by rw [Int.tmod_eq_emod_of_nonneg (by omega)]; omega
    rw [spec_Dec.l0, if_neg (by omega), e1, e2, if_neg (by omega)]
    simp only [Option.bind_some]
    rw [sn_dg _ (by omega), dg_size, if_pos (by omega), w64 _ (by omega) (by omega), decN]
    by_cases c : n < 10
    · rw [if_pos c, show n / 10 = 0 by omega, show n % 10 = n by omega]
      obtain ⟨k, rfl⟩ : ∃ m, k = m + 1 := ⟨k - 1, by omega⟩
      rw [spec_Dec.l0, if_pos (by omega), if_neg (by simp)]
    · rw [if_neg c, ih (n / 10) k _ (by omega) (by rw [Nat.pow_succ] at hn; omega) (by omega) (by rw [ByteArray.size_append, dg_size]; omega) (by omega), ByteArray.append_assoc]
theorem spec_dec (n k : Nat) (h : n < 10 ^ 7) (hk : 7 < k) : spec_Dec.f k (n : Int) = some (decN 7 n) := by
  unfold spec_Dec.f
  by_cases c : n = 0
  · subst c
    rfl
  · rw [if_neg (by omega), decide_eq_false (by omega), spec_dec0 7 n k _ (by omega) h (by omega) (Nat.zero_le _) hk]
    congr 1
    exact ByteArray.append_empty

/-! ### the text -/
def line (y : S37) : ByteArray := ((y.f0 ++ (⟨#[61]⟩ : ByteArray)) ++ decN 7 y.f1.toNat) ++ (⟨#[10]⟩ : ByteArray)
def lines (x : ByteArray) (l : List S37) : ByteArray := l.foldl (fun x y => x ++ line y) x
theorem line_size (y : S37) (h : y.f0.size ≤ 16) : (line y).size ≤ 25 := by
  have := decN_size 7 y.f1.toNat
  simp only [line, ByteArray.size_append]
  have e1 : (⟨#[61]⟩ : ByteArray).size = 1 := rfl
  have e2 : (⟨#[10]⟩ : ByteArray).size = 1 := rfl
  omega
theorem spec_show0 (l : List S37) (h : l.length ≤ 20) (hs : ∀ y ∈ l, (y.f0.size ≤ 16 ∧ okKey y.f0 = true) ∧ 0 ≤ y.f1 ∧ y.f1 ≤ 1000000) : ∀ d k (i : Nat) (x : ByteArray), l.length = i + d → d + 8 < k → x.size ≤ 25 * i → spec_l27Show.l0 k l x (i : Int) = some (lines x (l.drop i)) := by
  intro d
  induction d with
  | zero =>
    intro k i x h hk hx
    obtain ⟨k, rfl⟩ : ∃ m, k = m + 1 := ⟨k - 1, by omega⟩
    rw [spec_l27Show.l0, if_neg (by omega), List.drop_eq_nil_of_le (by omega)]
    rfl
  | succ d ih =>
    intro k i x h hk hx
    obtain ⟨k, rfl⟩ : ∃ m, k = m + 1 := ⟨k - 1, by omega⟩
    obtain ⟨⟨hz, -⟩, h0, h1⟩ := hs l[i] (List.getElem_mem _)
    have e : l[i].f1 = ((l[i].f1.toNat : Nat) : Int) := by omega
    have hd := decN_size 7 l[i].f1.toNat
    have e1 : (⟨#[61]⟩ : ByteArray).size = 1 := rfl
    have e2 : (⟨#[10]⟩ : ByteArray).size = 1 := rfl
    rw [spec_l27Show.l0, if_pos (by omega), if_pos (by omega), rd37 l i (by omega), if_pos (by omega), if_pos (by rw [ByteArray.size_append]; omega), e, spec_dec _ k (by omega) (by omega)]
    simp only [Option.bind_some]
    have hl : ((((x ++ l[i].f0) ++ (⟨#[61]⟩ : ByteArray)) ++ decN 7 l[i].f1.toNat) ++ (⟨#[10]⟩ : ByteArray)) = x ++ line l[i] := by
      simp only [line, ByteArray.append_assoc]
    rw [if_pos (by simp only [ByteArray.size_append, e1]; omega), if_pos (by simp only [ByteArray.size_append, e1]; omega), hl, w64n i (by omega), ih k (i + 1) _ (by omega) (by omega) (by
      rw [ByteArray.size_append]
      have := line_size l[i] hz
      omega), List.drop_eq_getElem_cons (by omega : i < l.length)]
    rfl
theorem impl_show0 (l : List S37) (h : l.length ≤ 20) (hs : ∀ y ∈ l, (y.f0.size ≤ 16 ∧ okKey y.f0 = true) ∧ 0 ≤ y.f1 ∧ y.f1 ≤ 1000000) : ∀ d k (i : Nat) (x : ByteArray), l.length = i + d → d + 8 < k → x.size ≤ 25 * i → impl_ShowConf.l0 k x l (l.length : Int) (i : Int) = some (lines x (l.drop i)) := by
  intro d
  induction d with
  | zero =>
    intro k i x h hk hx
    obtain ⟨k, rfl⟩ : ∃ m, k = m + 1 := ⟨k - 1, by omega⟩
    rw [impl_ShowConf.l0, if_neg (by omega), List.drop_eq_nil_of_le (by omega)]
    rfl
  | succ d ih =>
    intro k i x h hk hx
    obtain ⟨k, rfl⟩ : ∃ m, k = m + 1 := ⟨k - 1, by omega⟩
    obtain ⟨⟨hz, -⟩, h0, h1⟩ := hs l[i] (List.getElem_mem _)
    have e : l[i].f1 = ((l[i].f1.toNat : Nat) : Int) := by omega
    have hd := decN_size 7 l[i].f1.toNat
    have e1 : (⟨#[61]⟩ : ByteArray).size = 1 := rfl
    have e2 : (⟨#[10]⟩ : ByteArray).size = 1 := rfl
    have hl := line_size l[i] hz
    rw [impl_ShowConf.l0, if_pos (by omega), if_pos (by omega), if_pos (by omega), rd37 l i (by omega), if_pos (by omega), e, impl_dec 7 (by omega) _ k (by omega) (by omega) (by omega)]
    simp only [Option.bind_some]
    rw [if_pos (by simp only [ByteArray.size_append, e1]; omega), if_pos (by simp only [ByteArray.size_append, e1]; omega)]
    show (if x.size + (line l[i]).size ≤ 9223372036854775807 then _ else none) = _
    rw [if_pos (by omega), w64n i (by omega)]
    show impl_ShowConf.l0 k (x ++ line l[i]) l _ _ = _
    rw [ih k (i + 1) _ (by omega) (by omega) (by
      rw [ByteArray.size_append]
      omega), List.drop_eq_getElem_cons (by omega : i < l.length)]
    rfl
def showConf (l : List S37) : ByteArray := if okConf l = true then lines ⟨#[]⟩ l else ⟨#[]⟩
theorem spec_show (l : List S37) (h : l.length ≤ 2097152) (hs : ∀ y ∈ l, y.f0.size ≤ 1048576) (k : Nat) (hk : 1048580 + l.length < k) : spec_ShowConf.f k l = some (showConf l) := by
  unfold spec_ShowConf.f showConf spec_l27Show.f
  rw [spec_ok l h hs k hk]
  simp only [Option.bind_some]
  by_cases c : okConf l = true
  · obtain ⟨c1, c2⟩ := okConf_all l c
    rw [if_pos c, if_pos c, show (0 : Int) = ((0 : Nat) : Int) from rfl, spec_show0 l c1 c2 l.length k 0 _ (by omega) (by omega) (Nat.le_refl _)]
    rfl
  · rw [if_neg c, if_neg c]
theorem impl_show (l : List S37) (h : l.length ≤ 2097152) (hs : ∀ y ∈ l, y.f0.size ≤ 1048576) (k : Nat) (hk : 1048580 + l.length < k) : impl_ShowConf.f k l = some (showConf l) := by
  unfold impl_ShowConf.f showConf
  rw [impl_ok l h hs k hk]
  simp only [Option.bind_some]
  by_cases c : okConf l = true
  · obtain ⟨c1, c2⟩ := okConf_all l c
    rw [if_pos c, if_pos c, show (0 : Int) = ((0 : Nat) : Int) from rfl, impl_show0 l c1 c2 l.length k 0 _ (by omega) (by omega) (Nat.le_refl _)]
    rfl
  · rw [if_neg c, if_neg c]
end Go.Proofs.Ytoejimenfcincaa.Pure
