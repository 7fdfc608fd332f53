/- Fused by wip/tools/fuse.py out of: E0 E2 E3 E4S E6. -/
import Derived.Test.YtajlknkplpohlaaQx6
import Derived.Test.YtajlknkplpohlaaQx8
import Derived.Test.YtajlknkplpohlaaQx10
import Derived.Test.YtajlknkplpohlaaQx1
import Derived.Test.YtajlknkplpohlaaQx3
import Derived.Test.YtajlknkplpohlaaQx14
import Derived.Test.YtajlknkplpohlaaQx23
import Derived.Test.YtajlknkplpohlaaQx22
import Derived.Test.YtajlknkplpohlaaQx20
import Derived.Test.YtajlknkplpohlaaQx18
import Derived.Test.YtajlknkplpohlaaQx13
import Derived.Test.YtajlknkplpohlaaQx16
import Derived.Test.YtajlknkplpohlaaQx25
import Derived.Test.YtajlknkplpohlaaQx26
import Derived.Test.YtajlknkplpohlaaQx29
import Derived.Test.YtajlknkplpohlaaQx41
import Derived.Test.YtajlknkplpohlaaQx38
import Derived.Test.YtajlknkplpohlaaGen
namespace Go.Proofs.Ytajlknkplpohlaa.Pure
/- The plain laws of chapter 26's common functions: comparing, marking and asking a Quiet, and a new one. -/
section
open Go.RowKit Go.Proofs.Ytajlknkplpohlaa.Q Go.Proofs.Ytajlknkplpohlaa.Gen Go.Proofs.YtajlknkplpohlaaW.PrintWords Go.Proofs.YtajlknkplpohlaaW.PrintLast

theorem eqIntS_eq (l : List Int) (h : l.length ≤ 1048576) (k : Nat) (hk : 1048576 < k) : laws_eqIntS.f k l l = some true := by
  unfold laws_eqIntS.f
  rw [if_pos rfl]
  have := eqLoop l l (fun k i => laws_eqIntS.l0 k l l i) rfl (fun k i hi hi' => by
      show laws_eqIntS.l0 (k + 1) l l i = _
      rw [laws_eqIntS.l0, if_pos (by omega), if_pos (by omega), if_pos (by omega), w64n i (by omega), if_pos rfl, if_pos rfl]) (fun k => by
      show laws_eqIntS.l0 (k + 1) l l _ = _
      rw [laws_eqIntS.l0, if_neg (by omega)]) k (by omega)
  simpa using this
def mk (n : Nat) (K : Int) : List Int := (List.range n).map fun (j : Nat) => K + (j : Int)
theorem markIntS_eq (l : List Int) (h : l.length ≤ 1048576) (K : Int) (h0 : 0 ≤ K) (h1 : K ≤ 1000000000000) (k : Nat) (hk : 1048576 < k) : laws_markIntS.f k l K = some (K + l.length, mk l.length K) := by
  unfold laws_markIntS.f
  exact markLoop (fun q : Int => q) (fun k l q i => laws_markIntS.l0 k l q i) l.length K (fun k l' q i hi hl hq hq' => by
      show laws_markIntS.l0 (k + 1) l' q i = _
      rw [laws_markIntS.l0, if_pos (by omega), if_pos (by omega), w64n i (by omega), w64 _ (by omega) (by omega)]
      rfl) (fun k l' q hl => by
      show laws_markIntS.l0 (k + 1) l' q _ = _
      rw [laws_markIntS.l0, if_neg (by omega)]) k l (by omega) rfl h0
theorem heldIntS_eq (n : Nat) (h : n ≤ 1048576) (K : Int) (h0 : 0 ≤ K) (h1 : K ≤ 1000000000000) (k : Nat) (hk : 1048576 < k) : laws_heldIntS.f k (mk n K) K = some (K + n) := by
  unfold laws_heldIntS.f
  exact heldLoop (fun q : Int => q) (fun k q i => laws_heldIntS.l0 k (mk n K) q i) n K (mk n K) rfl (fun k q i hi hi' hq hq' he => by
      show laws_heldIntS.l0 (k + 1) _ q i = _
      rw [laws_heldIntS.l0, if_pos (by simpa [mk] using hi), if_pos (by omega), rd_at _ i hi', if_pos he, w64n i (by omega), w64 _ (by omega) (by omega)]) (fun k q => by
      show laws_heldIntS.l0 (k + 1) _ q _ = _
      rw [laws_heldIntS.l0, if_neg (by simp [mk])]) k (by omega) h0

theorem eqQuiet_eq (a b c : Int) (l1 l2 l3 : List Int) (h1 : l1.length ≤ 1048576) (h2 : l2.length ≤ 1048576) (h3 : l3.length ≤ 1048576) (k : Nat) (hk : 1048576 < k) : laws_eqQuiet.f k a l1 l2 l3 b c a l1 l2 l3 b c = some true := by
  unfold laws_eqQuiet.f
  simp only [if_true, eqIntS_eq l1 h1 k hk, eqIntS_eq l2 h2 k hk, eqIntS_eq l3 h3 k hk, Option.bind_some]
theorem markQuiet_eq (a b c : Int) (l1 l2 l3 : List Int) (h1 : l1.length ≤ 1048576) (h2 : l2.length ≤ 1048576) (h3 : l3.length ≤ 1048576) (k : Nat) (hk : 1048576 < k) :
    laws_markQuiet.f k a l1 l2 l3 b c 1 = some ((1 : Int) + l1.length + l2.length + l3.length, mk l1.length 1, mk l2.length (1 + l1.length), mk l3.length (1 + l1.length + l2.length)) := by
  unfold laws_markQuiet.f
  simp only [markIntS_eq l1 h1 1 (by omega) (by omega) k hk, markIntS_eq l2 h2 (1 + l1.length) (by omega) (by omega) k hk, markIntS_eq l3 h3 (1 + l1.length + l2.length) (by omega) (by omega) k hk, Option.bind_some]
theorem heldQuiet_eq (a b c : Int) (n1 n2 n3 : Nat) (h1 : n1 ≤ 1048576) (h2 : n2 ≤ 1048576) (h3 : n3 ≤ 1048576) (k : Nat) (hk : 1048576 < k) :
    laws_heldQuiet.f k a (mk n1 1) (mk n2 (1 + n1)) (mk n3 (1 + n1 + n2)) b c 1 = some ((1 : Int) + n1 + n2 + n3) := by
  unfold laws_heldQuiet.f
  simp only [heldIntS_eq n1 h1 1 (by omega) (by omega) k hk, Option.bind_some, if_neg (by omega : ¬ (1 + (n1 : Int) < 0)), heldIntS_eq n2 h2 (1 + n1) (by omega) (by omega) k hk, if_neg (by omega : ¬ (1 + (n1 : Int) + n2 < 0)), heldIntS_eq n3 h3 (1 + n1 + n2) (by omega) (by omega) k hk, if_neg (by omega : ¬ (1 + (n1 : Int) + n2 + n3 < 0))]

theorem l1In_eq (a b c : Int) : spec_l1In.f a b c = some (decide (b ≤ a) && decide (a ≤ c)) := by
  unfold spec_l1In.f
  by_cases h : b ≤ a <;> simp [h]
theorem from_eq (a b c : Int) : impl_from.f a b c = some (decide (b ≤ a) && decide (a ≤ c)) := by
  unfold impl_from.f
  by_cases h : b ≤ a <;> simp [h]
end
/- The plain laws of chapter 26's QuietOk: both programs ask the same of a Quiet. -/
section
open Go.RowKit Go.Proofs.Ytajlknkplpohlaa.Q Go.Proofs.Ytajlknkplpohlaa.Gen Go.Proofs.YtajlknkplpohlaaW.PrintWords Go.Proofs.YtajlknkplpohlaaW.PrintLast
set_option linter.unusedSimpArgs false

theorem index_go (f : Int → Option Bool) (p : Int → Bool) (hf : ∀ x, f x = some (p x)) : ∀ (l : List Int) (i : Nat), ∃ r, slices_IndexFunc_int_int.go f l i = some r ∧ decide (0 ≤ r) = l.any p := by
  intro l
  induction l with
  | nil => intro i; exact ⟨-1, rfl, by simp⟩
  | cons x xs ih =>
    intro i
    rw [slices_IndexFunc_int_int.go, hf]
    simp only [Option.bind_some]
    by_cases c : p x = true
    · exact ⟨i, by rw [if_pos c], by simp [c]⟩
    · obtain ⟨r, hr, h⟩ := ih (i + 1)
      refine ⟨r, by rw [if_neg c]; exact hr, by simp [h, c]⟩
theorem contains_eq (f : Int → Option Bool) (p : Int → Bool) (hf : ∀ x, f x = some (p x)) (l : List Int) : slices_ContainsFunc_int_int.f f l = some (l.any p) := by
  obtain ⟨r, hr, h⟩ := index_go f p hf l 0
  unfold slices_ContainsFunc_int_int.f slices_IndexFunc_int_int.f
  rw [hr]
  simp [h]
def inr (lo hi x : Int) : Bool := decide (lo ≤ x) && decide (x ≤ hi)
theorem allFrom_eq (l : List Int) (n lo hi : Int) : impl_allFrom.f l n lo hi = some (decide ((l.length : Int) = n) && l.all (inr lo hi)) := by
  unfold impl_allFrom.f
  by_cases h : (l.length : Int) = n
  · rw [if_pos h, contains_eq _ (fun x => !inr lo hi x) (fun x => by unfold impl_allFrom.p; rw [from_eq]; rfl)]
    simp [h, List.all_eq_not_any_not]
  · rw [if_neg h]
    simp [h]
theorem stirred_eq (a : Int) (h l2 l3 : List Int) (b c : Int) : impl_stirred.f a h l2 l3 b c = some (h.any fun x => !decide (x = 0)) := by
  unfold impl_stirred.f
  exact contains_eq _ _ (fun x => rfl) h

/-- What a host's three numbers must be to one another. -/
def cs (a x y z : Int) : Bool := !(decide (x = 2) && (!decide (z = 0) || !decide (y = a))) && !(decide (x = 1) && decide (a ≤ y))
def rg (a x y z : Int) : Bool := inr 0 2 x && inr 0 a y && inr 0 5 z
def st (a s x : Int) : Bool := !(!decide (x = 0) && decide (a ≤ s))
def okRows (a s : Int) : List Int → List Int → List Int → Bool
  | x :: xs, y :: ys, z :: zs => rg a x y z && cs a x y z && st a s x && okRows a s xs ys zs
  | _, _, _ => true
def csRows (a : Int) : List Int → List Int → List Int → Bool
  | x :: xs, y :: ys, z :: zs => cs a x y z && csRows a xs ys zs
  | _, _, _ => true
def quietOk (a : Int) (h ac b : List Int) (s c : Int) : Bool :=
  inr 1 6 (h.length : Int) && decide (ac.length = h.length) && decide (b.length = h.length) && inr 0 1000000 a && inr 0 a s && inr 0 1000000 c && okRows a s h ac b

theorem rows_eq (a s : Int) : ∀ (h ac b : List Int), ac.length = h.length → b.length = h.length →
    okRows a s h ac b = (h.all (inr 0 2) && ac.all (inr 0 a) && b.all (inr 0 5) && csRows a h ac b && (!(h.any fun x => !decide (x = 0)) || decide (s < a))) := by
  intro h
  induction h with
  | nil =>
    intro ac b h1 h2
    obtain rfl := List.eq_nil_of_length_eq_zero h1
    obtain rfl := List.eq_nil_of_length_eq_zero h2
    rfl
  | cons x xs ih =>
    intro ac b h1 h2
    rcases ac with _ | ⟨y, ys⟩
    · simp at h1
    rcases b with _ | ⟨z, zs⟩
    · simp at h2
    have := ih ys zs (by simpa using h1) (by simpa using h2)
    simp only [okRows, csRows, List.all_cons, List.any_cons, rg, st]
    rw [this]
    by_cases c0 : a ≤ s
    · have c1 : ¬ s < a := by omega
      simp only [c0, c1, decide_true, decide_false, Bool.and_true, Bool.or_false]
      cases inr 0 2 x <;> cases inr 0 a y <;> cases inr 0 5 z <;> cases cs a x y z <;> cases decide (x = 0) <;> simp
      all_goals (try (cases List.all xs (inr 0 2) <;> cases List.all ys (inr 0 a) <;> cases List.all zs (inr 0 5) <;> cases csRows a xs ys zs <;> simp))
    · have c1 : s < a := by omega
      simp only [c0, c1, decide_true, decide_false, Bool.and_false, Bool.or_true, Bool.not_false, Bool.and_true]
      cases inr 0 2 x <;> cases inr 0 a y <;> cases inr 0 5 z <;> cases cs a x y z <;> simp
      all_goals (try (cases List.all xs (inr 0 2) <;> cases List.all ys (inr 0 a) <;> cases List.all zs (inr 0 5) <;> cases csRows a xs ys zs <;> simp))

theorem spec_rows (a s c : Int) (h ac b : List Int) (h1 : ac.length = h.length) (h2 : b.length = h.length) (h3 : h.length ≤ 6) : ∀ d k (i : Nat), h.length = i + d → 2 * d < k →
    spec_QuietOk.l0 k (h.length : Int) (i : Int) a h ac b s c = some (okRows a s (h.drop i) (ac.drop i) (b.drop i)) := by
  intro d
  induction d with
  | zero =>
    intro k i hi hk
    obtain ⟨k, rfl⟩ : ∃ m, k = m + 1 := ⟨k - 1, by omega⟩
    rw [spec_QuietOk.l0, if_neg (by omega), List.drop_eq_nil_of_le (by omega)]
    simp [okRows]
  | succ d ih =>
    intro k i hi hk
    obtain ⟨k, rfl⟩ : ∃ m, k = m + 2 := ⟨k - 2, by omega⟩
    have e1 : i < h.length := by omega
    have e2 : i < ac.length := by omega
    have e3 : i < b.length := by omega
    have hrec := ih k (i + 1) (by omega) (by omega)
    rw [List.drop_eq_getElem_cons e1, List.drop_eq_getElem_cons e2, List.drop_eq_getElem_cons e3, okRows]
    simp only [spec_QuietOk.l0, spec_QuietOk.j2, if_pos (by omega : (i : Int) < (h.length : Int)), if_pos (by omega : 0 ≤ (i : Int)), if_pos (by omega : (i : Int) < (ac.length : Int)), if_pos (by omega : (i : Int) < (b.length : Int)), rd_at h i e1, rd_at ac i e2, rd_at b i e3, l1In_eq, Option.bind_some, w64n i (by omega), hrec, if_true]
    generalize okRows a s (List.drop (i + 1) h) (List.drop (i + 1) ac) (List.drop (i + 1) b) = R
    generalize h[i] = x
    generalize ac[i] = y
    generalize b[i] = z
    by_cases r1 : inr 0 2 x = true
    · have r1' : (decide (0 ≤ x) && decide (x ≤ 2)) = true := r1
      rw [if_pos r1']
      by_cases r2 : inr 0 a y = true
      · have r2' : (decide (0 ≤ y) && decide (y ≤ a)) = true := r2
        rw [if_pos r2']
        by_cases r3 : inr 0 5 z = true
        · have r3' : (decide (0 ≤ z) && decide (z ≤ 5)) = true := r3
          rw [r3']
          simp only [Bool.not_true, Bool.false_eq_true, if_false, rg, r1, r2, r3, Bool.true_and, cs, st]
          by_cases x2 : x = 2
          · subst x2
            by_cases z0 : z = 0 <;> by_cases ya : y = a <;> by_cases sa : a ≤ s <;> simp [z0, ya, sa]
          · by_cases x1 : x = 1
            · subst x1
              by_cases ya : a ≤ y <;> by_cases sa : a ≤ s <;> simp [ya, sa]
            · by_cases x0 : x = 0
              · subst x0
                simp
              · by_cases sa : a ≤ s <;> simp [x2, x1, x0, sa]
        · have r3' : (decide (0 ≤ z) && decide (z ≤ 5)) = false := by simpa [inr] using r3
          rw [r3']
          simp [rg, r1, r2, Bool.eq_false_iff.mpr r3]
      · have r2' : (decide (0 ≤ y) && decide (y ≤ a)) = false := by simpa [inr] using r2
        rw [r2']
        simp [rg, r1, Bool.eq_false_iff.mpr r2]
    · have r1' : (decide (0 ≤ x) && decide (x ≤ 2)) = false := by simpa [inr] using r1
      rw [r1']
      simp [rg, Bool.eq_false_iff.mpr r1]

theorem spec_quietOk (a : Int) (h ac b : List Int) (s c : Int) (k : Nat) (hk : 30 ≤ k) : spec_QuietOk.f k a h ac b s c = some (quietOk a h ac b s c) := by
  obtain ⟨k, rfl⟩ : ∃ m, k = m + 1 := ⟨k - 1, by omega⟩
  unfold spec_QuietOk.f quietOk
  simp only [l1In_eq, Option.bind_some, spec_QuietOk.j0, if_true]
  by_cases c1 : inr 1 6 (h.length : Int) = true
  · have c1' : (decide (1 ≤ (h.length : Int)) && decide ((h.length : Int) ≤ 6)) = true := c1
    rw [if_pos c1', c1]
    by_cases c2 : ac.length = h.length
    · rw [if_pos (by omega)]
      by_cases c3 : b.length = h.length
      · rw [if_pos (by omega)]
        have hl : h.length ≤ 6 := by
          simp at c1'
          omega
        have hr := spec_rows a s c h ac b c2 c3 hl h.length k 0 (by omega) (by omega)
        rw [show ((0 : Nat) : Int) = 0 from rfl] at hr
        rw [hr]
        simp only [c2, c3, decide_true, Bool.true_and, List.drop_zero, inr]
        generalize okRows a s h ac b = R
        cases (decide (0 ≤ a) && decide (a ≤ 1000000)) <;> cases (decide (0 ≤ s) && decide (s ≤ a)) <;> cases (decide (0 ≤ c) && decide (c ≤ 1000000)) <;> simp
      · rw [if_neg (by omega)]
        simp [c3]
    · rw [if_neg (by omega)]
      simp [c2]
  · have c1' : (decide (1 ≤ (h.length : Int)) && decide ((h.length : Int) ≤ 6)) = false := by simpa [inr] using c1
    rw [c1']
    simp [Bool.eq_false_iff.mpr c1]

theorem impl_rows (a s c : Int) (h ac b : List Int) (h1 : ac.length = h.length) (h2 : b.length = h.length) (h3 : h.length ≤ 6) : ∀ d k (i : Nat), h.length = i + d → d < k →
    impl_QuietOk.l0 k h (h.length : Int) (i : Int) a h ac b s c = some (csRows a (h.drop i) (ac.drop i) (b.drop i) && (!(h.any fun x => !decide (x = 0)) || decide (s < a))) := by
  intro d
  induction d with
  | zero =>
    intro k i hi hk
    obtain ⟨k, rfl⟩ : ∃ m, k = m + 1 := ⟨k - 1, by omega⟩
    rw [impl_QuietOk.l0, if_neg (by omega), List.drop_eq_nil_of_le (by omega), stirred_eq]
    simp only [Option.bind_some, csRows, Bool.true_and]
    cases (h.any fun x => !decide (x = 0)) <;> simp
  | succ d ih =>
    intro k i hi hk
    obtain ⟨k, rfl⟩ : ∃ m, k = m + 1 := ⟨k - 1, by omega⟩
    have e1 : i < h.length := by omega
    have e2 : i < ac.length := by omega
    have e3 : i < b.length := by omega
    have hrec := ih k (i + 1) (by omega) (by omega)
    rw [List.drop_eq_getElem_cons e1, List.drop_eq_getElem_cons e2, List.drop_eq_getElem_cons e3, csRows]
    simp only [impl_QuietOk.l0, if_pos (by omega : (i : Int) < (h.length : Int)), if_pos (by omega : 0 ≤ (i : Int)), if_pos (by omega : (i : Int) < (ac.length : Int)), if_pos (by omega : (i : Int) < (b.length : Int)), rd_at h i e1, rd_at ac i e2, rd_at b i e3, Option.bind_some, w64n i (by omega), hrec]
    generalize csRows a (List.drop (i + 1) h) (List.drop (i + 1) ac) (List.drop (i + 1) b) = R
    generalize (!(h.any fun x => !decide (x = 0)) || decide (s < a)) = Q
    generalize h[i] = x
    generalize ac[i] = y
    generalize b[i] = z
    simp only [cs]
    by_cases x2 : x = 2
    · subst x2
      by_cases z0 : z = 0 <;> by_cases ya : y = a <;> simp [z0, ya]
    · by_cases x1 : x = 1
      · subst x1
        by_cases ya : a ≤ y <;> simp [ya]
      · simp [x2, x1]

theorem impl_quietOk (a : Int) (h ac b : List Int) (s c : Int) (k : Nat) (hk : 30 ≤ k) : impl_QuietOk.f k a h ac b s c = some (quietOk a h ac b s c) := by
  obtain ⟨k, rfl⟩ : ∃ m, k = m + 1 := ⟨k - 1, by omega⟩
  unfold impl_QuietOk.f quietOk
  simp only [from_eq, allFrom_eq, Option.bind_some, impl_QuietOk.j0, if_true]
  by_cases c1 : inr 1 6 (h.length : Int) = true
  · have c1' : (decide (1 ≤ (h.length : Int)) && decide ((h.length : Int) ≤ 6)) = true := c1
    rw [if_pos c1', c1]
    have hl : h.length ≤ 6 := by
      simp at c1'
      omega
    by_cases c2 : ac.length = h.length
    · by_cases c3 : b.length = h.length
      · have hr := impl_rows a s c h ac b c2 c3 hl h.length k 0 (by omega) (by omega)
        rw [show ((0 : Nat) : Int) = 0 from rfl] at hr
        rw [hr, rows_eq a s h ac b c2 c3]
        simp only [c2, c3, decide_true, Bool.true_and, List.drop_zero]
        generalize (!(h.any fun x => !decide (x = 0)) || decide (s < a)) = Q
        generalize csRows a h ac b = R
        have fold : ∀ lo hi x : Int, (decide (lo ≤ x) && decide (x ≤ hi)) = inr lo hi x := fun _ _ _ => rfl
        simp only [fold]
        generalize h.all (inr 0 2) = A
        generalize ac.all (inr 0 a) = B
        generalize b.all (inr 0 5) = C
        cases inr 0 1000000 a <;> cases inr 0 a s <;> cases inr 0 1000000 c <;> cases A <;> cases B <;> cases C <;> simp
      · have c3' : ¬ ((b.length : Int) = (h.length : Int)) := by omega
        simp [c2, c3, c3']
    · have c2' : ¬ ((ac.length : Int) = (h.length : Int)) := by omega
      simp [c2, c2']
  · have c1' : (decide (1 ≤ (h.length : Int)) && decide ((h.length : Int) ≤ 6)) = false := by simpa [inr] using c1
    rw [c1']
    simp [Bool.eq_false_iff.mpr c1]
end
/- The plain laws of chapter 26's sizes and copies. -/
section
open Go.RowKit Go.Proofs.Ytajlknkplpohlaa.Q Go.Proofs.Ytajlknkplpohlaa.Gen Go.Proofs.YtajlknkplpohlaaW.PrintWords Go.Proofs.YtajlknkplpohlaaW.PrintLast

theorem szIntS_eq (l : List Int) (L : Int) (hl : l.length ≤ 9223372036854775807) (h0 : 0 ≤ L) (h1 : L ≤ 1048576) : laws_szIntS.f l L = some (if L - (l.length : Int) < 0 then -1 else L - (l.length : Int)) := by
  unfold laws_szIntS.f
  rw [w64 _ (by omega) (by omega)]
  split <;> rfl
theorem szQuiet_eq (a : Int) (l1 l2 l3 : List Int) (s c : Int) (h1 : l1.length ≤ 9223372036854775807) (h2 : l2.length ≤ 9223372036854775807) (h3 : l3.length ≤ 9223372036854775807) :
    ∃ r, laws_szQuiet.f a l1 l2 l3 s c 1048576 = some r ∧ (0 ≤ r → l1.length ≤ 1048576 ∧ l2.length ≤ 1048576 ∧ l3.length ≤ 1048576) := by
  unfold laws_szQuiet.f
  rw [szIntS_eq l1 _ h1 (by omega) (by omega)]
  simp only [Option.bind_some]
  by_cases c1 : (1048576 : Int) - (l1.length : Int) < 0
  · rw [if_pos c1, if_pos (by omega)]
    exact ⟨-1, rfl, fun h => by omega⟩
  · rw [if_neg c1, if_neg c1, szIntS_eq l2 _ h2 (by omega) (by omega)]
    simp only [Option.bind_some]
    by_cases c2 : (1048576 : Int) - (l1.length : Int) - (l2.length : Int) < 0
    · rw [if_pos c2, if_pos (by omega)]
      exact ⟨-1, rfl, fun h => by omega⟩
    · rw [if_neg c2, if_neg c2, szIntS_eq l3 _ h3 (by omega) (by omega)]
      simp only [Option.bind_some]
      by_cases c3 : (1048576 : Int) - (l1.length : Int) - (l2.length : Int) - (l3.length : Int) < 0
      · rw [if_pos c3, if_pos (by omega)]
        exact ⟨-1, rfl, fun h => by omega⟩
      · rw [if_neg c3, if_neg c3]
        exact ⟨_, rfl, fun h => by omega⟩
theorem toIntS_eq (l : List Int) (h : l.length ≤ 1048576) (k : Nat) (hk : l.length < k) : laws_toIntS.f k l = some l := by
  unfold laws_toIntS.f
  rw [if_pos (by omega), if_pos (by omega)]
  have := copyLoop l (fun x : Int => x) (fun k out i => laws_toIntS.l0 k l out i) (fun k out i hi hl => by
      show laws_toIntS.l0 (k + 1) l out i = _
      rw [laws_toIntS.l0, if_pos (by omega), if_pos (by omega), if_pos (by omega), w64n i (by omega), rd_at l i hi]
      rfl) (fun k out hl => by
      show laws_toIntS.l0 (k + 1) l out _ = _
      rw [laws_toIntS.l0, if_neg (by omega)]) k (List.replicate ((l.length : Int) : Int).toNat 0) hk (by simp)
  simpa using this
theorem toQuiet_eq (a : Int) (l1 l2 l3 : List Int) (s c : Int) (h1 : l1.length ≤ 1048576) (h2 : l2.length ≤ 1048576) (h3 : l3.length ≤ 1048576) : laws_toQuiet.f 1048577 a l1 l2 l3 s c = some (a, l1, l2, l3, s, c) := by
  unfold laws_toQuiet.f
  simp only [toIntS_eq l1 h1 1048577 (by omega), toIntS_eq l2 h2 1048577 (by omega), toIntS_eq l3 h3 1048577 (by omega), Option.bind_some]
end
/- The plain laws of chapter 26's copies and hosts. -/
section
open Go.RowKit Go.Proofs.Ytajlknkplpohlaa.Q Go.Proofs.Ytajlknkplpohlaa.Gen Go.Proofs.YtajlknkplpohlaaW.PrintWords Go.Proofs.YtajlknkplpohlaaW.PrintLast

theorem ok_facts {a : Int} {h ac b : List Int} {s c : Int} (H : quietOk a h ac b s c = true) :
    ac.length = h.length ∧ b.length = h.length ∧ 1 ≤ h.length ∧ h.length ≤ 6 ∧ 0 ≤ a ∧ a ≤ 1000000 ∧ 0 ≤ s ∧ s ≤ a ∧ 0 ≤ c ∧ c ≤ 1000000 ∧ (∀ i : Nat, i < h.length → 0 ≤ rd b i ∧ rd b i ≤ 5) ∧ (∀ i : Nat, i < h.length → 0 ≤ rd h i ∧ rd h i ≤ 2) := by
  unfold quietOk at H
  simp only [Bool.and_eq_true, decide_eq_true_eq] at H
  obtain ⟨⟨⟨⟨⟨⟨H1, H2⟩, H3⟩, H4⟩, H5⟩, H6⟩, H7⟩ := H
  rw [rows_eq a s h ac b H2 H3] at H7
  simp only [Bool.and_eq_true] at H7
  obtain ⟨⟨⟨⟨H7, H8⟩, H9⟩, _⟩, _⟩ := H7
  simp only [inr, Bool.and_eq_true, decide_eq_true_eq] at H1 H4 H5 H6
  refine ⟨H2, H3, by omega, by omega, by omega, by omega, by omega, by omega, by omega, by omega, fun i hi => ?_, fun i hi => ?_⟩
  · have := List.all_eq_true.1 H9 b[i] (List.getElem_mem _)
    rw [rd_at b i (by omega)]
    simpa [inr] using this
  · have := List.all_eq_true.1 H7 h[i] (List.getElem_mem _)
    rw [rd_at h i hi]
    simpa [inr] using this

theorem clone_eq (l : List Int) (h : l.length ≤ 6) : slices_Clone_int_int.f l = some l := by
  unfold slices_Clone_int_int.f
  rw [if_pos (by omega)]
theorem copyQuiet_eq (a : Int) (h ac b : List Int) (s c : Int) (h1 : h.length ≤ 6) (h2 : ac.length ≤ 6) (h3 : b.length ≤ 6) : impl_copyQuiet.f a h ac b s c = some (a, h, ac, b, s, c) := by
  unfold impl_copyQuiet.f
  simp only [clone_eq h h1, clone_eq ac h2, clone_eq b h3, Option.bind_some]
theorem l26Copy_eq (a : Int) (h ac b : List Int) (s c : Int) (h1 : h.length ≤ 6) (h2 : ac.length ≤ 6) (h3 : b.length ≤ 6) : spec_l26Copy.f a h ac b s c = some (a, h, ac, b, s, c) := by
  unfold spec_l26Copy.f
  simp only [Option.bind_some, List.length_nil, List.nil_append, if_pos (by omega : 0 + h.length < 17592186044416), if_pos (by omega : 0 + ac.length < 17592186044416), if_pos (by omega : 0 + b.length < 17592186044416)]
abbrev Res := Int × List Int × List Int × List Int × Int × Int × Bool
def small (r : Res) : Prop := r.2.1.length ≤ 6 ∧ r.2.2.1.length ≤ 6 ∧ r.2.2.2.1.length ≤ 6

end
/- The plain laws of chapter 26's Ask, Snap and Stop: all hosts at once. -/
section
open Go.RowKit Go.Proofs.Ytajlknkplpohlaa.Q Go.Proofs.Ytajlknkplpohlaa.Gen Go.Proofs.YtajlknkplpohlaaW.PrintWords Go.Proofs.YtajlknkplpohlaaW.PrintLast

theorem l26All_eq (a : Int) (h ac b : List Int) (s c x : Int) (h1 : h.length ≤ 6) (k : Nat) (hk : 30 ≤ k) : spec_l26All.f k a h ac b s c x = some (h.all fun y => decide (y = x)) := by
  have key : ∀ d k (i : Nat), h.length = i + d → d < k → spec_l26All.l0 k x (i : Int) a h ac b s c = some ((h.drop i).all fun y => decide (y = x)) := by
    intro d
    induction d with
    | zero =>
      intro k i e hk
      obtain ⟨k, rfl⟩ : ∃ m, k = m + 1 := ⟨k - 1, by omega⟩
      rw [spec_l26All.l0, if_neg (by omega), List.drop_eq_nil_of_le (by omega)]
      rfl
    | succ d ih =>
      intro k i e hk
      obtain ⟨k, rfl⟩ : ∃ m, k = m + 1 := ⟨k - 1, by omega⟩
      rw [spec_l26All.l0, if_pos (by omega), if_pos (by omega), rd_at h i (by omega), w64n i (by omega), ih k (i + 1) (by omega) (by omega), List.drop_eq_getElem_cons (by omega : i < h.length), List.all_cons]
      by_cases q : h[i] = x
      · rw [if_pos q, decide_eq_true q, Bool.true_and]
      · rw [if_neg q, decide_eq_false q, Bool.false_and]
  unfold spec_l26All.f
  simpa using key h.length k 0 (by omega) (by omega)
theorem l26Set_eq (a : Int) (h ac b : List Int) (s c x : Int) (h1 : h.length ≤ 6) (k : Nat) (hk : 30 ≤ k) : ∃ h', spec_l26Set.f k a h ac b s c x = some (a, h', ac, b, s, c) ∧ h'.length = h.length := by
  have key : ∀ d k (i : Nat) (g : List Int), g.length = i + d → g.length ≤ 6 → d < k → ∃ h', spec_l26Set.l0 k x (i : Int) a g ac b s c = some (a, h', ac, b, s, c) ∧ h'.length = g.length := by
    intro d
    induction d with
    | zero =>
      intro k i g e e6 hk
      obtain ⟨k, rfl⟩ : ∃ m, k = m + 1 := ⟨k - 1, by omega⟩
      exact ⟨g, by rw [spec_l26Set.l0, if_neg (by omega)], rfl⟩
    | succ d ih =>
      intro k i g e e6 hk
      obtain ⟨k, rfl⟩ : ∃ m, k = m + 1 := ⟨k - 1, by omega⟩
      rw [spec_l26Set.l0, if_pos (by omega), if_pos (by omega), w64n i (by omega)]
      obtain ⟨h', q1, q2⟩ := ih k (i + 1) (g.set (i : Int).toNat x) (by rw [List.length_set]; omega) (by rw [List.length_set]; omega) (by omega)
      exact ⟨h', q1, by rw [q2, List.length_set]⟩
  unfold spec_l26Set.f
  simpa using key h.length k 0 h (by omega) (by omega) (by omega)
end
end Go.Proofs.Ytajlknkplpohlaa.Pure
