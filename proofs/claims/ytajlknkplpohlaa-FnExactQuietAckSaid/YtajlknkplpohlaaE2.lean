/- The plain laws of chapter 26's QuietOk: both programs ask the same of a Quiet. -/
import Derived.Test.YtajlknkplpohlaaQx14
import Derived.Test.YtajlknkplpohlaaQx23
import Derived.Test.YtajlknkplpohlaaQx22
import Derived.Test.YtajlknkplpohlaaQx20
import Derived.Test.YtajlknkplpohlaaQx18
import Derived.Test.YtajlknkplpohlaaE0
namespace Go.Proofs.Ytajlknkplpohlaa.Pure
open Go.RowKit Go.Proofs.Ytajlknkplpohlaa.Q Go.Proofs.Ytajlknkplpohlaa.Gen Go.Proofs.YtajlknkplpohlaaW.PrintWords Go.Proofs.YtajlknkplpohlaaW.PrintLast
set_option linter.unusedSimpArgs false

theorem index_go (f : Int → Option Bool) (p : Int → Bool) (hf : ∀ x, f x = some (p x)) : ∀ (l : List Int) (i : Nat), ∃ r, slices_IndexFunc_int_int.go f l i = some r ∧ decide (0 ≤ r) = l.any p := by
  intro l
  induction l with
  | nil => intro i; exact ⟨-1, rfl, by simp⟩
  | cons x xs ih =>
    intro i
    rw [slices_IndexFunc_int_int.go, hf]
    simp only [Option.bind_some]
    by_cases c : p x = true
    · exact ⟨i, by rw [if_pos c], by simp [c]⟩
    · obtain ⟨r, hr, h⟩ := ih (i + 1)
      refine ⟨r, by rw [if_neg c]; exact hr, by simp [h, c]⟩
theorem contains_eq (f : Int → Option Bool) (p : Int → Bool) (hf : ∀ x, f x = some (p x)) (l : List Int) : slices_ContainsFunc_int_int.f f l = some (l.any p) := by
  obtain ⟨r, hr, h⟩ := index_go f p hf l 0
  unfold slices_ContainsFunc_int_int.f slices_IndexFunc_int_int.f
  rw [hr]
  simp [h]
def inr (lo hi x : Int) : Bool := decide (lo ≤ x) && decide (x ≤ hi)
theorem allFrom_eq (l : List Int) (n lo hi : Int) : impl_allFrom.f l n lo hi = some (decide ((l.length : Int) = n) && l.all (inr lo hi)) := by
  unfold impl_allFrom.f
  by_cases h : (l.length : Int) = n
  · rw [if_pos h, contains_eq _ (fun x => !inr lo hi x) (fun x => by unfold impl_allFrom.p; rw [from_eq]; rfl)]
    simp [h, List.all_eq_not_any_not]
  · rw [if_neg h]
    simp [h]
theorem stirred_eq (a : Int) (h l2 l3 : List Int) (b c : Int) : impl_stirred.f a h l2 l3 b c = some (h.any fun x => !decide (x = 0)) := by
  unfold impl_stirred.f
  exact contains_eq _ _ (fun x => rfl) h

/-- What a host's three numbers must be to one another. -/
def cs (a x y z : Int) : Bool := !(decide (x = 2) && (!decide (z = 0) || !decide (y = a))) && !(decide (x = 1) && decide (a ≤ y))
def rg (a x y z : Int) : Bool := inr 0 2 x && inr 0 a y && inr 0 5 z
def st (a s x : Int) : Bool := !(!decide (x = 0) && decide (a ≤ s))
def okRows (a s : Int) : List Int → List Int → List Int → Bool
  | x :: xs, y :: ys, z :: zs => rg a x y z && cs a x y z && st a s x && okRows a s xs ys zs
  | _, _, _ => true
def csRows (a : Int) : List Int → List Int → List Int → Bool
  | x :: xs, y :: ys, z :: zs => cs a x y z && csRows a xs ys zs
  | _, _, _ => true
def quietOk (a : Int) (h ac b : List Int) (s c : Int) : Bool :=
  inr 1 6 (h.length : Int) && decide (ac.length = h.length) && decide (b.length = h.length) && inr 0 1000000 a && inr 0 a s && inr 0 1000000 c && okRows a s h ac b

theorem rows_eq (a s : Int) : ∀ (h ac b : List Int), ac.length = h.length → b.length = h.length →
    okRows a s h ac b = (h.all (inr 0 2) && ac.all (inr 0 a) && b.all (inr 0 5) && csRows a h ac b && (!(h.any fun x => !decide (x = 0)) || decide (s < a))) := by
  intro h
  induction h with
  | nil =>
    intro ac b h1 h2
    obtain rfl := List.eq_nil_of_length_eq_zero h1
    obtain rfl := List.eq_nil_of_length_eq_zero h2
    rfl
  | cons x xs ih =>
    intro ac b h1 h2
    rcases ac with _ | ⟨y, ys⟩
    · simp at h1
    rcases b with _ | ⟨z, zs⟩
    · simp at h2
    have := ih ys zs (by simpa using h1) (by simpa using h2)
    simp only [okRows, csRows, List.all_cons, List.any_cons, rg, st]
    rw [this]
    by_cases c0 : a ≤ s
    · have c1 : ¬ s < a := by omega
      simp only [c0, c1, decide_true, decide_false, Bool.and_true, Bool.or_false]
      cases inr 0 2 x <;> cases inr 0 a y <;> cases inr 0 5 z <;> cases cs a x y z <;> cases decide (x = 0) <;> simp
      all_goals (try (cases List.all xs (inr 0 2) <;> cases List.all ys (inr 0 a) <;> cases List.all zs (inr 0 5) <;> cases csRows a xs ys zs <;> simp))
    · have c1 : s < a := by omega
      simp only [c0, c1, decide_true, decide_false, Bool.and_false, Bool.or_true, Bool.not_false, Bool.and_true]
      cases inr 0 2 x <;> cases inr 0 a y <;> cases inr 0 5 z <;> cases cs a x y z <;> simp
      all_goals (try (cases List.all xs (inr 0 2) <;> cases List.all ys (inr 0 a) <;> cases List.all zs (inr 0 5) <;> cases csRows a xs ys zs <;> simp))

theorem spec_rows (a s c : Int) (h ac b : List Int) (h1 : ac.length = h.length) (h2 : b.length = h.length) (h3 : h.length ≤ 6) : ∀ d k (i : Nat), h.length = i + d → 2 * d < k →
    spec_QuietOk.l0 k (h.length : Int) (i : Int) a h ac b s c = some (okRows a s (h.drop i) (ac.drop i) (b.drop i)) := by
  intro d
  induction d with
  | zero =>
    intro k i hi hk
    obtain ⟨k, rfl⟩ : ∃ m, k = m + 1 := ⟨k - 1, by omega⟩
    rw [spec_QuietOk.l0, if_neg (by omega), List.drop_eq_nil_of_le (by omega)]
    simp [okRows]
  | succ d ih =>
    intro k i hi hk
    obtain ⟨k, rfl⟩ : ∃ m, k = m + 2 := ⟨k - 2, by omega⟩
    have e1 : i < h.length := by omega
    have e2 : i < ac.length := by omega
    have e3 : i < b.length := by omega
    have hrec := ih k (i + 1) (by omega) (by omega)
    rw [List.drop_eq_getElem_cons e1, List.drop_eq_getElem_cons e2, List.drop_eq_getElem_cons e3, okRows]
    simp only [spec_QuietOk.l0, spec_QuietOk.j2, if_pos (by omega : (i : Int) < (h.length : Int)), if_pos (by omega : 0 ≤ (i : Int)), if_pos (by omega : (i : Int) < (ac.length : Int)), if_pos (by omega : (i : Int) < (b.length : Int)), rd_at h i e1, rd_at ac i e2, rd_at b i e3, l1In_eq, Option.bind_some, w64n i (by omega), hrec, if_true]
    generalize okRows a s (List.drop (i + 1) h) (List.drop (i + 1) ac) (List.drop (i + 1) b) = R
    generalize h[i] = x
    generalize ac[i] = y
    generalize b[i] = z
    by_cases r1 : inr 0 2 x = true
    · have r1' : (decide (0 ≤ x) && decide (x ≤ 2)) = true := r1
      rw [if_pos r1']
      by_cases r2 : inr 0 a y = true
      · have r2' : (decide (0 ≤ y) && decide (y ≤ a)) = true := r2
        rw [if_pos r2']
        by_cases r3 : inr 0 5 z = true
        · have r3' : (decide (0 ≤ z) && decide (z ≤ 5)) = true := r3
          rw [r3']
          simp only [Bool.not_true, Bool.false_eq_true, if_false, rg, r1, r2, r3, Bool.true_and, cs, st]
          by_cases x2 : x = 2
          · subst x2
            by_cases z0 : z = 0 <;> by_cases ya : y = a <;> by_cases sa : a ≤ s <;> simp [z0, ya, sa]
          · by_cases x1 : x = 1
            · subst x1
              by_cases ya : a ≤ y <;> by_cases sa : a ≤ s <;> simp [ya, sa]
            · by_cases x0 : x = 0
              · subst x0
                simp
              · by_cases sa : a ≤ s <;> simp [x2, x1, x0, sa]
        · have r3' : (decide (0 ≤ z) && decide (z ≤ 5)) = false := by simpa [inr] using r3
          rw [r3']
          simp [rg, r1, r2, Bool.eq_false_iff.mpr r3]
      · have r2' : (decide (0 ≤ y) && decide (y ≤ a)) = false := by simpa [inr] using r2
        rw [r2']
        simp [rg, r1, Bool.eq_false_iff.mpr r2]
    · have r1' : (decide (0 ≤ x) && decide (x ≤ 2)) = false := by simpa [inr] using r1
      rw [r1']
      simp [rg, Bool.eq_false_iff.mpr r1]

theorem spec_quietOk (a : Int) (h ac b : List Int) (s c : Int) (k : Nat) (hk : 30 ≤ k) : spec_QuietOk.f k a h ac b s c = some (quietOk a h ac b s c) := by
  obtain ⟨k, rfl⟩ : ∃ m, k = m + 1 := ⟨k - 1, by omega⟩
  unfold spec_QuietOk.f quietOk
  simp only [l1In_eq, Option.bind_some, spec_QuietOk.j0, if_true]
  by_cases c1 : inr 1 6 (h.length : Int) = true
  · have c1' : (decide (1 ≤ (h.length : Int)) && decide ((h.length : Int) ≤ 6)) = true := c1
    rw [if_pos c1', c1]
    by_cases c2 : ac.length = h.length
    · rw [if_pos (by omega)]
      by_cases c3 : b.length = h.length
      · rw [if_pos (by omega)]
        have hl : h.length ≤ 6 := by
          simp at c1'
          omega
        have hr := spec_rows a s c h ac b c2 c3 hl h.length k 0 (by omega) (by omega)
        rw [show ((0 : Nat) : Int) = 0 from rfl] at hr
        rw [hr]
        simp only [c2, c3, decide_true, Bool.true_and, List.drop_zero, inr]
        generalize okRows a s h ac b = R
        cases (decide (0 ≤ a) && decide (a ≤ 1000000)) <;> cases (decide (0 ≤ s) && decide (s ≤ a)) <;> cases (decide (0 ≤ c) && decide (c ≤ 1000000)) <;> simp
      · rw [if_neg (by omega)]
        simp [c3]
    · rw [if_neg (by omega)]
      simp [c2]
  · have c1' : (decide (1 ≤ (h.length : Int)) && decide ((h.length : Int) ≤ 6)) = false := by simpa [inr] using c1
    rw [c1']
    simp [Bool.eq_false_iff.mpr c1]

theorem impl_rows (a s c : Int) (h ac b : List Int) (h1 : ac.length = h.length) (h2 : b.length = h.length) (h3 : h.length ≤ 6) : ∀ d k (i : Nat), h.length = i + d → d < k →
    impl_QuietOk.l0 k h (h.length : Int) (i : Int) a h ac b s c = some (csRows a (h.drop i) (ac.drop i) (b.drop i) && (!(h.any fun x => !decide (x = 0)) || decide (s < a))) := by
  intro d
  induction d with
  | zero =>
    intro k i hi hk
    obtain ⟨k, rfl⟩ : ∃ m, k = m + 1 := ⟨k - 1, by omega⟩
    rw [impl_QuietOk.l0, if_neg (by omega), List.drop_eq_nil_of_le (by omega), stirred_eq]
    simp only [Option.bind_some, csRows, Bool.true_and]
    cases (h.any fun x => !decide (x = 0)) <;> simp
  | succ d ih =>
    intro k i hi hk
    obtain ⟨k, rfl⟩ : ∃ m, k = m + 1 := ⟨k - 1, by omega⟩
    have e1 : i < h.length := by omega
    have e2 : i < ac.length := by omega
    have e3 : i < b.length := by omega
    have hrec := ih k (i + 1) (by omega) (by omega)
    rw [List.drop_eq_getElem_cons e1, List.drop_eq_getElem_cons e2, List.drop_eq_getElem_cons e3, csRows]
    simp only [impl_QuietOk.l0, if_pos (by omega : (i : Int) < (h.length : Int)), if_pos (by omega : 0 ≤ (i : Int)), if_pos (by omega : (i : Int) < (ac.length : Int)), if_pos (by omega : (i : Int) < (b.length : Int)), rd_at h i e1, rd_at ac i e2, rd_at b i e3, Option.bind_some, w64n i (by omega), hrec]
    generalize csRows a (List.drop (i + 1) h) (List.drop (i + 1) ac) (List.drop (i + 1) b) = R
    generalize (!(h.any fun x => !decide (x = 0)) || decide (s < a)) = Q
    generalize h[i] = x
    generalize ac[i] = y
    generalize b[i] = z
    simp only [cs]
    by_cases x2 : x = 2
    · subst x2
      by_cases z0 : z = 0 <;> by_cases ya : y = a <;> simp [z0, ya]
    · by_cases x1 : x = 1
      · subst x1
        by_cases ya : a ≤ y <;> simp [ya]
      · simp [x2, x1]

theorem impl_quietOk (a : Int) (h ac b : List Int) (s c : Int) (k : Nat) (hk : 30 ≤ k) : impl_QuietOk.f k a h ac b s c = some (quietOk a h ac b s c) := by
  obtain ⟨k, rfl⟩ : ∃ m, k = m + 1 := ⟨k - 1, by omega⟩
  unfold impl_QuietOk.f quietOk
  simp only [from_eq, allFrom_eq, Option.bind_some, impl_QuietOk.j0, if_true]
  by_cases c1 : inr 1 6 (h.length : Int) = true
  · have c1' : (decide (1 ≤ (h.length : Int)) && decide ((h.length : Int) ≤ 6)) = true := c1
    rw [if_pos c1', c1]
    have hl : h.length ≤ 6 := by
      simp at c1'
      omega
    by_cases c2 : ac.length = h.length
    · by_cases c3 : b.length = h.length
      · have hr := impl_rows a s c h ac b c2 c3 hl h.length k 0 (by omega) (by omega)
        rw [show ((0 : Nat) : Int) = 0 from rfl] at hr
        rw [hr, rows_eq a s h ac b c2 c3]
        simp only [c2, c3, decide_true, Bool.true_and, List.drop_zero]
        generalize (!(h.any fun x => !decide (x = 0)) || decide (s < a)) = Q
        generalize csRows a h ac b = R
        have fold : ∀ lo hi x : Int, (decide (lo ≤ x) && decide (x ≤ hi)) = inr lo hi x := fun _ _ _ => rfl
        simp only [fold]
        generalize h.all (inr 0 2) = A
        generalize ac.all (inr 0 a) = B
        generalize b.all (inr 0 5) = C
        cases inr 0 1000000 a <;> cases inr 0 a s <;> cases inr 0 1000000 c <;> cases A <;> cases B <;> cases C <;> simp
      · have c3' : ¬ ((b.length : Int) = (h.length : Int)) := by omega
        simp [c2, c3, c3']
    · have c2' : ¬ ((ac.length : Int) = (h.length : Int)) := by omega
      simp [c2, c2']
  · have c1' : (decide (1 ≤ (h.length : Int)) && decide ((h.length : Int) ≤ 6)) = false := by simpa [inr] using c1
    rw [c1']
    simp [Bool.eq_false_iff.mpr c1]
end Go.Proofs.Ytajlknkplpohlaa.Pure
