-- Printed for this claim by a program of this session (wip/tools/sprint.py), over the kit's print: Lean checks it.
import Derived.Test.YtajlknkplpohlaaQx0
import Derived.Test.YtajlknkplpohlaaQx18
namespace Go.Proofs.Ytajlknkplpohlaa.Q
open Go.RowKit Go.Proofs.YtajlknkplpohlaaW.PrintWords Go.Proofs.YtajlknkplpohlaaW.PrintLast Go.Proofs.YtajlknkplpohlaaW.PrintMore
attribute [local go_sem] max2_int min2_int max_two min_two max_three min_three max_four min_four   -- for this text's walks alone
set_option linter.unusedVariables false
set_option linter.unusedSimpArgs false

/-! ### impl_stirred: function 44 (by hand) -/
def impl_stirred.p (x : Int) : Option Bool := some (!decide (x = 0))
def impl_stirred.f (_a0_0 : Int) (l0_1 : List Int) (_l0_2 : List Int) (_l0_3 : List Int) (_a0_4 : Int) (_a0_5 : Int) : Option Bool := slices_ContainsFunc_int_int.f impl_stirred.p l0_1
theorem impl_stirred.enters1 : ∀ args w, (callFunc 54 args).run Try.prog w = .ok (.enter 54 args) w := enters_of Try.func54 (by kernel_rfl) rfl
theorem impl_stirred.closure (x : Int) (r : Bool) (w : World) (h : impl_stirred.p x = some r) :
    Calls Try.prog 54 (#[.int .i64 x] ++ #[]) w fun e w' => e = .returned (.bool r) ∧ Drawn0 w w' := by
  obtain rfl := Option.some.inj h
  clear h
  by_cases c : x = 0
  · have c1 : (x != 0) = false := by simp [c]
    have c2 : decide (x = 0) = true := by simp [c]
    rw [c2]
    clear c c2
    go_enter Try.func54, Try.ntmps54
    go_wp2
    go_ret
    exact ⟨rfl, by repeat (first | exact Drawn0.refl _ | apply Drawn0.step)⟩
  · have c1 : (x != 0) = true := by simp [c]
    have c2 : decide (x = 0) = false := by simp [c]
    rw [c2]
    clear c c2
    go_enter Try.func54, Try.ntmps54
    go_wp2
    go_ret
    exact ⟨rfl, by repeat (first | exact Drawn0.refl _ | apply Drawn0.step)⟩
set_option maxHeartbeats 4000000 in
set_option maxRecDepth 100000 in
theorem impl_stirred.calls (a0_0 : Int) (A0_1 : Option Addr) (c0_1 : Nat) (l0_1 : List Int) (A0_2 : Option Addr) (c0_2 : Nat) (l0_2 : List Int) (A0_3 : Option Addr) (c0_3 : Nat) (l0_3 : List Int) (a0_4 : Int) (a0_5 : Int) (r : Bool) (w : World) (hr0_1 : Kd.C (Kd.int .i64) w A0_1 l0_1.length l0_1) (hc0_1 : l0_1.length ≤ c0_1) (hr0_2 : Kd.C (Kd.int .i64) w A0_2 l0_2.length l0_2) (hc0_2 : l0_2.length ≤ c0_2) (hr0_3 : Kd.C (Kd.int .i64) w A0_3 l0_3.length l0_3) (hc0_3 : l0_3.length ≤ c0_3) (h : impl_stirred.f a0_0 l0_1 l0_2 l0_3 a0_4 a0_5 = some r) :
    Calls Try.prog 44 #[.agg #[.int .i64 a0_0, .slice A0_1 l0_1.length c0_1, .slice A0_2 l0_2.length c0_2, .slice A0_3 l0_3.length c0_3, .int .i64 a0_4, .int .i64 a0_5]] w fun e w' => e = .returned (.bool r) ∧ Below w.heap.size w w' := by
  have hu24 := Try.underlying24
  have hlen := hr0_1.2.1
  have HC := Aside0.mk (fun (W : World) (hW : Kd.C (Kd.int .i64) W A0_1 l0_1.length l0_1) => slices_ContainsFunc_int_int.calls 54 impl_stirred.p impl_stirred.enters1 #[] A0_1 c0_1 l0_1 r W (fun x r W' _ h => impl_stirred.closure x r W' h) hW hlen h)
  have HR := Aside0.mk hr0_1
  clear hlen h hr0_1 hr0_2 hr0_3 hc0_1 hc0_2 hc0_3
  go_enter Try.func44, Try.ntmps44
  go_wp2_with (go_at_call 48; refine (HC.out _ (Kd.C_below HR.out (below_alloc (Below.refl _ _) _))).mono ?_; rintro e w' ⟨rfl, ⟨nd, rfl⟩⟩)
  go_ret
  exact ⟨rfl, pw_below_drewN (below_alloc (Below.refl _ _) _) _⟩

end Go.Proofs.Ytajlknkplpohlaa.Q
