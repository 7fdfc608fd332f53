-- Printed for this claim by a program of this session (wip/tools/sprint.py), over the kit's print: Lean checks it.
import Derived.Test.YtajlknkplpohlaaQx0
namespace Go.Proofs.Ytajlknkplpohlaa.Q
open Go.RowKit Go.Proofs.YtajlknkplpohlaaW.PrintWords Go.Proofs.YtajlknkplpohlaaW.PrintLast Go.Proofs.YtajlknkplpohlaaW.PrintMore
attribute [local go_sem] max2_int min2_int max_two min_two max_three min_three max_four min_four   -- for this text's walks alone
set_option linter.unusedVariables false
set_option linter.unusedSimpArgs false

/-! ### slices_IndexFunc_int_int: function 56 (by hand) -/
/-- 'slices.IndexFunc' at int: the first index at which f says yes; -1. -/
def slices_IndexFunc_int_int.go (f : Int → Option Bool) : List Int → Nat → Option Int
  | [], _ => some (-1)
  | x :: xs, i => (f x).bind fun b => if b = true then some (i : Int) else slices_IndexFunc_int_int.go f xs (i + 1)
def slices_IndexFunc_int_int.f (f : Int → Option Bool) (l : List Int) : Option Int := slices_IndexFunc_int_int.go f l 0
theorem slices_IndexFunc_int_int.calls (g : Nat) (f : Int → Option Bool) (eg : ∀ args w, (callFunc g args).run Try.prog w = .ok (.enter g args) w)
    (lb : Array Value) (A0 : Option Addr) (c0 : Nat) (l0 : List Int) (r : Int) (w : World) (hp : ∀ (x : Int) (r : Bool) (W : World), Drawn0 w W → f x = some r → Calls Try.prog g (#[.int .i64 x] ++ lb) W fun e w' => e = .returned (.bool r) ∧ Drawn0 W w') (hr0 : Kd.C (Kd.int .i64) w A0 l0.length l0) (hb : l0.length ≤ 9223372036854775807) (h : slices_IndexFunc_int_int.f f l0 = some r) :
    Calls Try.prog 56 #[.slice A0 l0.length c0, .func (.func g) #[] lb] w fun e w' => e = .returned (.int .i64 r) ∧ Drawn0 w w' := by
  have HR0 := Aside0.mk hr0
  clear hr0
  have H := Aside0.mk h
  clear h
  have HP := Aside0.mk hp
  clear hp
  go_enter Try.func56, Try.ntmps56
  go_wp2
  go_loopg [5, 8] l0.length (fun gg _ s8 wr => ∃ kk : Nat, kk ≤ l0.length ∧ l0.length - kk ≤ gg ∧ s8 = .int .i64 kk ∧ Drawn0 w wr ∧ Aside0 (slices_IndexFunc_int_int.go f (l0.drop kk) kk = some r))
  case atStart => exact ⟨0, Nat.zero_le _, by omega, rfl, Drawn0.refl _, ⟨by simpa [slices_IndexFunc_int_int.f] using H.out⟩⟩
  case round =>
    obtain ⟨kk, hkk, hg, rfl, ⟨m1, rfl⟩, HG⟩ := hrel
    clear H
    by_cases hlt : kk < l0.length
    · have hltz : (kk : Int) < (l0.length : Int) := by omega
      have hG := HG.out
      clear HG
      rw [List.drop_eq_getElem_cons hlt, slices_IndexFunc_int_int.go] at hG
      obtain ⟨b, hb1, hG⟩ := Option.bind_eq_some_iff.mp hG
      have hrd : rd l0 (kk : Int) = l0[kk] := by simp [rd, hlt]
      rw [← hrd] at hb1
      have p1 : 0 ≤ (kk : Int) := by omega
      obtain ⟨ad1, e1, hx1⟩ := Kd.at_int HR0.out (kk : Int) p1 hltz
      cases e1
      simp only [Int.toNat_natCast] at hx1
      have hc := HP.out (rd l0 (kk : Int)) b (w.drewN m1) ⟨⟨m1, rfl⟩⟩ hb1
      clear hb1 hrd
      have HC := Aside0.mk hc
      clear hc
      cases b with
      | true =>
        have hG' : some (kk : Int) = some r := by simpa using hG
        obtain rfl := Option.some.inj hG'
        clear hG hG'
        go_wp2_with (go_at_fn g; refine HC.out.mono ?_; rintro e w' ⟨rfl, ⟨nd, rfl⟩⟩)
        go_ret
        exact ⟨rfl, by repeat (first | exact Drawn0.refl _ | apply Drawn0.step)⟩
      | false =>
        have hG' : slices_IndexFunc_int_int.go f (l0.drop (kk + 1)) (kk + 1) = some r := by simpa using hG
        have HG := Aside0.mk hG'
        clear hG hG'
        go_wp2_with (go_at_fn g; refine HC.out.mono ?_; rintro e w' ⟨rfl, ⟨nd, rfl⟩⟩)
        go_roundg (l0.length - (kk + 1))
        case measure => omega
        case rel => exact ⟨kk + 1, by omega, by omega, by go_num, by repeat (first | exact Drawn0.refl _ | apply Drawn0.step), HG⟩
    · have hltz : ¬ (kk : Int) < (l0.length : Int) := by omega
      obtain rfl : kk = l0.length := by omega
      have hG := HG.out
      clear HG
      rw [List.drop_length, slices_IndexFunc_int_int.go] at hG
      obtain rfl := Option.some.inj hG
      go_wp2
      go_ret
      exact ⟨rfl, by repeat (first | exact Drawn0.refl _ | apply Drawn0.step)⟩

end Go.Proofs.Ytajlknkplpohlaa.Q
