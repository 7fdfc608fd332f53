-- Printed for this claim by a program of this session (wip/tools/sprint.py), over the kit's print: Lean checks it.
import Derived.Test.YtoejimenfcincaaQx0
namespace Go.Proofs.Ytoejimenfcincaa.Q
open Go.RowKit Go.Proofs.YtoejimenfcincaaW.PrintWords Go.Proofs.YtoejimenfcincaaW.PrintLast Go.Proofs.YtoejimenfcincaaW.PrintMore
attribute [local go_sem] max2_int min2_int max_two min_two max_three min_three max_four min_four   -- for this text's walks alone
set_option linter.unusedVariables false
set_option linter.unusedSimpArgs false

/-! ### impl_Dec: function 23 (by hand) -/
/-- 'impl.Dec', k the depth of its calls. -/
def impl_Dec.f : Nat → Int → Option ByteArray
  | 0, _ => none
  | k + 1, n =>
    if n < -4611686018427387904 then none else if 4611686018427387904 < n then none else
    if n < 0 then
      if -10 < n then (impl_Dec.f k (-n)).bind fun t => if 1 + t.size ≤ 9223372036854775807 then some ((⟨#[45]⟩ : ByteArray) ++ t) else none
      else (impl_Dec.f k (n.tdiv 10)).bind fun a => (impl_Dec.f k (-(n.tmod 10))).bind fun b => if a.size + b.size ≤ 9223372036854775807 then some (a ++ b) else none
    else if n < 10 then some (Utf8.encode (48 + n))
    else (impl_Dec.f k (n / 10)).bind fun a => if a.size + (Utf8.encode (48 + n % 10)).size ≤ 9223372036854775807 then some (a ++ Utf8.encode (48 + n % 10)) else none
theorem impl_Dec.mono : ∀ a0 k, LeO (impl_Dec.f k a0) (impl_Dec.f (k + 1) a0) := by
  have key : ∀ k a0, LeO (impl_Dec.f k a0) (impl_Dec.f (k + 1) a0) := by
    intro k
    induction k with
    | zero => exact fun a0 => LeO.none _
    | succ k ih =>
      intro a0
      rw [impl_Dec.f, impl_Dec.f]
      refine LeO.ite (LeO.refl _) (LeO.ite (LeO.refl _) (LeO.ite (LeO.ite (LeO.bind (ih _) fun _ => LeO.refl _) (LeO.bind (ih _) fun _ => LeO.bind (ih _) fun _ => LeO.refl _)) (LeO.ite (LeO.refl _) (LeO.bind (ih _) fun _ => LeO.refl _))))
  exact fun a0 k => key k a0
set_option maxHeartbeats 4000000 in
theorem impl_Dec.calls (k : Nat) (a0 : Int) (r : ByteArray) (w : World) (h : impl_Dec.f k a0 = some r) :
    Calls Try.prog 23 #[.int .i64 a0] w fun e w' => e = .returned (.string r) ∧ Drawn0 w w' := by
  induction k generalizing a0 r w with
  | zero => exact absurd h (by simp [impl_Dec.f])
  | succ k ih =>
    have H := h
    clear h
    rw [impl_Dec.f] at H
    by_cases c0 : a0 < -4611686018427387904
    · rw [if_pos c0] at H
      exact absurd H (by simp)
    rw [if_neg c0] at H
    by_cases c1 : 4611686018427387904 < a0
    · rw [if_pos c1] at H
      exact absurd H (by simp)
    rw [if_neg c1] at H
    by_cases c2 : a0 < 0
    · rw [if_pos c2] at H
      by_cases c3 : -10 < a0
      · rw [if_pos c3] at H
        obtain ⟨t, h1, H⟩ := Option.bind_eq_some_iff.mp H
        by_cases c4 : 1 + t.size ≤ 9223372036854775807
        · rw [if_pos c4] at H
          obtain rfl := Option.some.inj H
          have H1 := Aside0.mk (fun W => ih (-a0) t W h1)
          have c4' : (⟨#[45]⟩ : ByteArray).size + t.size ≤ 9223372036854775807 := c4
          have HS := Aside0.mk c4'
          clear ih H h1 c4 c4' c0 c1
          have d1 : decide (a0 < 0) = true := decide_eq_true c2
          have d2 : decide (-10 < a0) = true := decide_eq_true c3
          have hadd := fun (W : World) => run_string_add_sum (P := Try.prog) (w := W) (⟨#[45]⟩ : ByteArray) t HS.out
          go_enter Try.func23, Try.ntmps23
          go_wp2_with (go_at_call 23; refine (H1.out _).mono ?_; rintro e w' ⟨rfl, ⟨nd, rfl⟩⟩)
          go_ret
          exact ⟨rfl, by repeat (first | exact Drawn0.refl _ | apply Drawn0.step)⟩
        · rw [if_neg c4] at H
          exact absurd H (by simp)
      · rw [if_neg c3] at H
        obtain ⟨a, h1, H⟩ := Option.bind_eq_some_iff.mp H
        obtain ⟨b, h2, H⟩ := Option.bind_eq_some_iff.mp H
        by_cases c4 : a.size + b.size ≤ 9223372036854775807
        · rw [if_pos c4] at H
          obtain rfl := Option.some.inj H
          have H1 := Aside0.mk (fun W => ih (a0.tdiv 10) a W h1)
          have H2 := Aside0.mk (fun W => ih (-(a0.tmod 10)) b W h2)
          have HS := Aside0.mk c4
          clear ih H h1 h2 c4
          have d1 : decide (a0 < 0) = true := decide_eq_true c2
          have d2 : decide (-10 < a0) = false := decide_eq_false c3
          have f1 : a0.tdiv 10 = -((-a0) / 10) := by
            rw [← Int.tdiv_eq_ediv_of_nonneg (show 0 ≤ -a0 by omega), Int.neg_tdiv, Int.neg_neg]
          have f2 : a0.tmod 10 = -((-a0) % 10) := by
            rw [← Int.tmod_eq_emod_of_nonneg (show 0 ≤ -a0 by omega), Int.neg_tmod, Int.neg_neg]
          have t1 : wrap64 (a0.tdiv 10) = a0.tdiv 10 := by rw [f1]; unfold wrap64; omega
          have t3 : wrap64 (a0.tmod 10) = a0.tmod 10 := by rw [f2]; unfold wrap64; omega
          have t2 : wrap64 (-(a0.tmod 10)) = -(a0.tmod 10) := by rw [f2]; unfold wrap64; omega
          clear f1 f2
          have hadd := fun (W : World) => run_string_add_sum (P := Try.prog) (w := W) a b HS.out
          clear c0 c1 c2 c3
          go_enter Try.func23, Try.ntmps23
          go_wp2_with fail
          refine (H1.out _).mono ?_
          rintro e w' ⟨rfl, ⟨nd, rfl⟩⟩
          go_wp2_with fail
          refine (H2.out _).mono ?_
          rintro e w' ⟨rfl, ⟨nd2, rfl⟩⟩
          go_wp2_with fail
          go_ret
          exact ⟨rfl, by repeat (first | exact Drawn0.refl _ | apply Drawn0.step)⟩
        · rw [if_neg c4] at H
          exact absurd H (by simp)
    · rw [if_neg c2] at H
      by_cases c3 : a0 < 10
      · rw [if_pos c3] at H
        obtain rfl := Option.some.inj H
        clear ih H c0 c1
        have d1 : decide (a0 < 0) = false := decide_eq_false c2
        have d2 : decide (a0 < 10) = true := decide_eq_true c3
        go_enter Try.func23, Try.ntmps23
        go_wp2
        go_ret
        exact ⟨rfl, by repeat (first | exact Drawn0.refl _ | apply Drawn0.step)⟩
      · rw [if_neg c3] at H
        obtain ⟨a, h1, H⟩ := Option.bind_eq_some_iff.mp H
        by_cases c4 : a.size + (Utf8.encode (48 + a0 % 10)).size ≤ 9223372036854775807
        · rw [if_pos c4] at H
          obtain rfl := Option.some.inj H
          have H1 := Aside0.mk (fun W => ih (a0 / 10) a W h1)
          have HS := Aside0.mk c4
          clear ih H h1 c4
          have d1 : decide (a0 < 0) = false := decide_eq_false c2
          have d2 : decide (a0 < 10) = false := decide_eq_false c3
          have hadd := fun (W : World) => run_string_add_sum (P := Try.prog) (w := W) a (Utf8.encode (48 + a0 % 10)) HS.out
          clear c0
          go_enter Try.func23, Try.ntmps23
          go_wp2_with (go_at_call 23; refine (H1.out _).mono ?_; rintro e w' ⟨rfl, ⟨nd, rfl⟩⟩)
          go_ret
          exact ⟨rfl, by repeat (first | exact Drawn0.refl _ | apply Drawn0.step)⟩
        · rw [if_neg c4] at H
          exact absurd H (by simp)

end Go.Proofs.Ytoejimenfcincaa.Q
