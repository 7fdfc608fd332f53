-- Printed for this claim by a program of this session (wip/tools/sprint.py), over the kit's print: Lean checks it.
import Derived.Test.YtajlknkplpohlaaQx0
import Derived.Test.YtajlknkplpohlaaQx17
namespace Go.Proofs.Ytajlknkplpohlaa.Q
open Go.RowKit Go.Proofs.YtajlknkplpohlaaW.PrintWords Go.Proofs.YtajlknkplpohlaaW.PrintLast Go.Proofs.YtajlknkplpohlaaW.PrintMore
attribute [local go_sem] max2_int min2_int max_two min_two max_three min_three max_four min_four   -- for this text's walks alone
set_option linter.unusedVariables false
set_option linter.unusedSimpArgs false

/-! ### slices_ContainsFunc_int_int: function 48 (by hand) -/
def slices_ContainsFunc_int_int.f (f : Int → Option Bool) (l : List Int) : Option Bool := (slices_IndexFunc_int_int.f f l).bind fun i => some (decide (0 ≤ i))
theorem slices_ContainsFunc_int_int.calls (g : Nat) (f : Int → Option Bool) (eg : ∀ args w, (callFunc g args).run Try.prog w = .ok (.enter g args) w)
    (lb : Array Value) (A0 : Option Addr) (c0 : Nat) (l0 : List Int) (r : Bool) (w : World) (hp : ∀ (x : Int) (r : Bool) (W : World), Drawn0 w W → f x = some r → Calls Try.prog g (#[.int .i64 x] ++ lb) W fun e w' => e = .returned (.bool r) ∧ Drawn0 W w') (hr0 : Kd.C (Kd.int .i64) w A0 l0.length l0) (hb : l0.length ≤ 9223372036854775807) (h : slices_ContainsFunc_int_int.f f l0 = some r) :
    Calls Try.prog 48 #[.slice A0 l0.length c0, .func (.func g) #[] lb] w fun e w' => e = .returned (.bool r) ∧ Drawn0 w w' := by
  obtain ⟨i, h1, h2⟩ := Option.bind_eq_some_iff.mp h
  obtain rfl := Option.some.inj h2
  have HC := Aside0.mk (slices_IndexFunc_int_int.calls g f eg lb A0 c0 l0 i w hp hr0 hb h1)
  clear h h1 h2 hr0 hp eg hb
  go_enter Try.func48, Try.ntmps48
  go_wp2_with (go_at_call 56; refine HC.out.mono ?_; rintro e w' ⟨rfl, ⟨nd, rfl⟩⟩)
  go_ret
  exact ⟨rfl, by repeat (first | exact Drawn0.refl _ | apply Drawn0.step)⟩

end Go.Proofs.Ytajlknkplpohlaa.Q
