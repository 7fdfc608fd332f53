-- Printed for this claim by a program of this session (wip/tools/sprint.py), over the kit's print: Lean checks it.
import Derived.Test.YtajlknkplpohlaaQx0
import Derived.Test.YtajlknkplpohlaaQx3
import Derived.Test.YtajlknkplpohlaaQx18
namespace Go.Proofs.Ytajlknkplpohlaa.Q
open Go.RowKit Go.Proofs.YtajlknkplpohlaaW.PrintWords Go.Proofs.YtajlknkplpohlaaW.PrintLast Go.Proofs.YtajlknkplpohlaaW.PrintMore
attribute [local go_sem] max2_int min2_int max_two min_two max_three min_three max_four min_four   -- for this text's walks alone
set_option linter.unusedVariables false
set_option linter.unusedSimpArgs false

/-! ### impl_allFrom: function 43 (by hand) -/
def impl_allFrom.p (low high : Int) (x : Int) : Option Bool := (impl_from.f x low high).bind fun b => some (!b)
def impl_allFrom.f (l0 : List Int) (a1 : Int) (a2 : Int) (a3 : Int) : Option Bool := if (l0.length : Int) = a1 then (slices_ContainsFunc_int_int.f (impl_allFrom.p a2 a3) l0).bind (fun b => some (!b)) else some false
theorem impl_allFrom.enters1 : ∀ args w, (callFunc 53 args).run Try.prog w = .ok (.enter 53 args) w := enters_of Try.func53 (by kernel_rfl) rfl
theorem impl_allFrom.closure (x low high : Int) (r : Bool) (B1 B2 : Nat) (w : World) (h1 : w.cell? ⟨B1, 0, none⟩ = some (.int .i64 low)) (h2 : w.cell? ⟨B2, 0, none⟩ = some (.int .i64 high)) (h : impl_allFrom.p low high x = some r) :
    Calls Try.prog 53 #[.int .i64 x, .pointer (some ⟨B1, 0, none⟩), .pointer (some ⟨B2, 0, none⟩)] w fun e w' => e = .returned (.bool r) ∧ Drawn0 w w' := by
  obtain ⟨b, hb, hr⟩ := Option.bind_eq_some_iff.mp h
  obtain rfl := Option.some.inj hr
  have HC := Aside0.mk (fun W => impl_from.calls x low high b W hb)
  clear h hr hb
  go_enter Try.func53, Try.ntmps53
  go_wp2_with (go_at_call 37; refine (HC.out _).mono ?_; rintro e w' ⟨rfl, ⟨nd, rfl⟩⟩)
  go_ret
  exact ⟨rfl, by repeat (first | exact Drawn0.refl _ | apply Drawn0.step)⟩
set_option maxHeartbeats 4000000 in
theorem impl_allFrom.calls (A0 : Option Addr) (c0 : Nat) (l0 : List Int) (a1 : Int) (a2 : Int) (a3 : Int) (r : Bool) (w : World) (hr0 : Kd.C (Kd.int .i64) w A0 l0.length l0) (hc0 : l0.length ≤ c0) (h : impl_allFrom.f l0 a1 a2 a3 = some r) :
    Calls Try.prog 43 #[.slice A0 l0.length c0, .int .i64 a1, .int .i64 a2, .int .i64 a3] w fun e w' => e = .returned (.bool r) ∧ Below w.heap.size w w' := by
  unfold impl_allFrom.f at h
  have hlen := hr0.2.1
  by_cases c : (l0.length : Int) = a1
  · rw [if_pos c] at h
    obtain ⟨b, h1, h2⟩ := Option.bind_eq_some_iff.mp h
    obtain rfl := Option.some.inj h2
    have HC := Aside0.mk (fun (W : World) (B1 B2 : Nat) (h1' : W.cell? ⟨B1, 0, none⟩ = some (.int .i64 a2)) (h2' : W.cell? ⟨B2, 0, none⟩ = some (.int .i64 a3)) (hW : Kd.C (Kd.int .i64) W A0 l0.length l0) =>
      slices_ContainsFunc_int_int.calls 53 (impl_allFrom.p a2 a3) impl_allFrom.enters1 #[.pointer (some ⟨B1, 0, none⟩), .pointer (some ⟨B2, 0, none⟩)] A0 c0 l0 b W (fun x r W' ⟨nd, hd⟩ h => impl_allFrom.closure x a2 a3 r B1 B2 W' (by subst hd; rw [World.cell?_drewN]; exact h1') (by subst hd; rw [World.cell?_drewN]; exact h2') h) hW hlen h1)
    have HR := Aside0.mk hr0
    have c2 : ((l0.length : Int) == a1) = true := beq_iff_eq.mpr c
    clear h h1 h2 hr0 c hlen
    go_enter Try.func43, Try.ntmps43
    go_wp2_with (go_at_call 48; refine (HC.out _ _ _ (by simp) (by simp) (Kd.C_below HR.out (below_alloc (below_alloc (Below.refl _ _) _) _))).mono ?_; rintro e w' ⟨rfl, ⟨nd, rfl⟩⟩)
    go_ret
    exact ⟨rfl, pw_below_drewN (below_alloc (below_alloc (Below.refl _ _) _) _) _⟩
  · rw [if_neg c] at h
    obtain rfl := Option.some.inj h
    have c2 : ((l0.length : Int) == a1) = false := beq_eq_false_iff_ne.mpr c
    clear c hlen
    go_enter Try.func43, Try.ntmps43
    go_wp2
    go_ret
    exact ⟨rfl, below_alloc (below_alloc (Below.refl _ _) _) _⟩

end Go.Proofs.Ytajlknkplpohlaa.Q
