-- Printed for this claim by a program of this session (wip/tools/sprint.py), over the kit's print: Lean checks it.
import Derived.Test.YtjbaaefkijgfkaaRx0
import Derived.Test.YtjbaaefkijgfkaaRx5
import Derived.Test.YtjbaaefkijgfkaaRx7
namespace Go.Proofs.Ytjbaaefkijgfkaa.R
open Go.RowKit Go.Proofs.YtjbaaefkijgfkaaW.PrintWords Go.Proofs.YtjbaaefkijgfkaaW.PrintLast Go.Proofs.YtjbaaefkijgfkaaW.PrintMore
attribute [local go_sem] max2_int min2_int max_two min_two max_three min_three max_four min_four   -- for this text's walks alone
set_option linter.unusedVariables false
set_option linter.unusedSimpArgs false

/-! ### impl_QueueOk: function 11 (by hand) -/
def impl_QueueOk.f (l0 : List Int) : Option Bool := if (l0.length : Int) ≤ 12 then (slices_ContainsFunc_int_int.f impl_QueueOk_1.f l0).bind (fun b => some (!b)) else some false
theorem impl_QueueOk.enters1 : ∀ args w, (callFunc 34 args).run Try.prog w = .ok (.enter 34 args) w := enters_of Try.func34 (by kernel_rfl) rfl
set_option maxHeartbeats 4000000 in
theorem impl_QueueOk.calls (A0 : Option Addr) (c0 : Nat) (l0 : List Int) (r : Bool) (w : World) (hr0 : Kd.C (Kd.int .i64) w A0 l0.length l0) (hc0 : l0.length ≤ c0) (h : impl_QueueOk.f l0 = some r) :
    Calls Try.prog 11 #[.slice A0 l0.length c0] w fun e w' => e = .returned (.bool r) ∧ Drawn0 w w' := by
  unfold impl_QueueOk.f at h
  by_cases c : (l0.length : Int) ≤ 12
  · rw [if_pos c] at h
    obtain ⟨b, h1, h2⟩ := Option.bind_eq_some_iff.mp h
    obtain rfl := Option.some.inj h2
    have HC := Aside0.mk (fun W hW => slices_ContainsFunc_int_int.calls 34 impl_QueueOk_1.f impl_QueueOk.enters1 #[] A0 c0 l0 b W (fun x r W _ h => impl_QueueOk_1.calls x r W h) hW (by omega) h1)
    have HR := Aside0.mk hr0
    have c2 : decide ((l0.length : Int) ≤ 12) = true := decide_eq_true c
    have c3 : decide (l0.length ≤ 12) = true := decide_eq_true (by omega)
    clear h h1 h2 hr0 c
    go_enter Try.func11, Try.ntmps11
    go_wp2_with (go_at_call 33; refine (HC.out _ HR.out).mono ?_; rintro e w' ⟨rfl, ⟨nd, rfl⟩⟩)
    go_ret
    exact ⟨rfl, by repeat (first | exact Drawn0.refl _ | apply Drawn0.step)⟩
  · rw [if_neg c] at h
    obtain rfl := Option.some.inj h
    have c2 : decide ((l0.length : Int) ≤ 12) = false := decide_eq_false c
    have c3 : decide (l0.length ≤ 12) = false := decide_eq_false (by omega)
    clear c
    go_enter Try.func11, Try.ntmps11
    go_wp2
    go_ret
    exact ⟨rfl, by repeat (first | exact Drawn0.refl _ | apply Drawn0.step)⟩

end Go.Proofs.Ytjbaaefkijgfkaa.R
