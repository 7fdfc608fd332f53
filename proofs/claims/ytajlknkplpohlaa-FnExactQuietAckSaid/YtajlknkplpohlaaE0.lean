/- The plain laws of chapter 26's common functions: comparing, marking and asking a Quiet, and a new one. -/
import Derived.Test.YtajlknkplpohlaaQx6
import Derived.Test.YtajlknkplpohlaaQx8
import Derived.Test.YtajlknkplpohlaaQx10
import Derived.Test.YtajlknkplpohlaaQx1
import Derived.Test.YtajlknkplpohlaaQx3
import Derived.Test.YtajlknkplpohlaaGen
namespace Go.Proofs.Ytajlknkplpohlaa.Pure
open Go.RowKit Go.Proofs.Ytajlknkplpohlaa.Q Go.Proofs.Ytajlknkplpohlaa.Gen Go.Proofs.YtajlknkplpohlaaW.PrintWords Go.Proofs.YtajlknkplpohlaaW.PrintLast

theorem eqIntS_eq (l : List Int) (h : l.length ≤ 1048576) (k : Nat) (hk : 1048576 < k) : laws_eqIntS.f k l l = some true := by
  unfold laws_eqIntS.f
  rw [if_pos rfl]
  have := eqLoop l l (fun k i => laws_eqIntS.l0 k l l i) rfl (fun k i hi hi' => by
      show laws_eqIntS.l0 (k + 1) l l i = _
      rw [laws_eqIntS.l0, if_pos (by omega), if_pos (by omega), if_pos (by omega), w64n i (by omega), if_pos rfl, if_pos rfl]) (fun k => by
      show laws_eqIntS.l0 (k + 1) l l _ = _
      rw [laws_eqIntS.l0, if_neg (by omega)]) k (by omega)
  simpa using this
def mk (n : Nat) (K : Int) : List Int := (List.range n).map fun (j : Nat) => K + (j : Int)
theorem markIntS_eq (l : List Int) (h : l.length ≤ 1048576) (K : Int) (h0 : 0 ≤ K) (h1 : K ≤ 1000000000000) (k : Nat) (hk : 1048576 < k) : laws_markIntS.f k l K = some (K + l.length, mk l.length K) := by
  unfold laws_markIntS.f
  exact markLoop (fun q : Int => q) (fun k l q i => laws_markIntS.l0 k l q i) l.length K (fun k l' q i hi hl hq hq' => by
      show laws_markIntS.l0 (k + 1) l' q i = _
      rw [laws_markIntS.l0, if_pos (by omega), if_pos (by omega), w64n i (by omega), w64 _ (by omega) (by omega)]
      rfl) (fun k l' q hl => by
      show laws_markIntS.l0 (k + 1) l' q _ = _
      rw [laws_markIntS.l0, if_neg (by omega)]) k l (by omega) rfl h0
theorem heldIntS_eq (n : Nat) (h : n ≤ 1048576) (K : Int) (h0 : 0 ≤ K) (h1 : K ≤ 1000000000000) (k : Nat) (hk : 1048576 < k) : laws_heldIntS.f k (mk n K) K = some (K + n) := by
  unfold laws_heldIntS.f
  exact heldLoop (fun q : Int => q) (fun k q i => laws_heldIntS.l0 k (mk n K) q i) n K (mk n K) rfl (fun k q i hi hi' hq hq' he => by
      show laws_heldIntS.l0 (k + 1) _ q i = _
      rw [laws_heldIntS.l0, if_pos (by simpa [mk] using hi), if_pos (by omega), rd_at _ i hi', if_pos he, w64n i (by omega), w64 _ (by omega) (by omega)]) (fun k q => by
      show laws_heldIntS.l0 (k + 1) _ q _ = _
      rw [laws_heldIntS.l0, if_neg (by simp [mk])]) k (by omega) h0

theorem eqQuiet_eq (a b c : Int) (l1 l2 l3 : List Int) (h1 : l1.length ≤ 1048576) (h2 : l2.length ≤ 1048576) (h3 : l3.length ≤ 1048576) (k : Nat) (hk : 1048576 < k) : laws_eqQuiet.f k a l1 l2 l3 b c a l1 l2 l3 b c = some true := by
  unfold laws_eqQuiet.f
  simp only [if_true, eqIntS_eq l1 h1 k hk, eqIntS_eq l2 h2 k hk, eqIntS_eq l3 h3 k hk, Option.bind_some]
theorem markQuiet_eq (a b c : Int) (l1 l2 l3 : List Int) (h1 : l1.length ≤ 1048576) (h2 : l2.length ≤ 1048576) (h3 : l3.length ≤ 1048576) (k : Nat) (hk : 1048576 < k) :
    laws_markQuiet.f k a l1 l2 l3 b c 1 = some ((1 : Int) + l1.length + l2.length + l3.length, mk l1.length 1, mk l2.length (1 + l1.length), mk l3.length (1 + l1.length + l2.length)) := by
  unfold laws_markQuiet.f
  simp only [markIntS_eq l1 h1 1 (by omega) (by omega) k hk, markIntS_eq l2 h2 (1 + l1.length) (by omega) (by omega) k hk, markIntS_eq l3 h3 (1 + l1.length + l2.length) (by omega) (by omega) k hk, Option.bind_some]
theorem heldQuiet_eq (a b c : Int) (n1 n2 n3 : Nat) (h1 : n1 ≤ 1048576) (h2 : n2 ≤ 1048576) (h3 : n3 ≤ 1048576) (k : Nat) (hk : 1048576 < k) :
    laws_heldQuiet.f k a (mk n1 1) (mk n2 (1 + n1)) (mk n3 (1 + n1 + n2)) b c 1 = some ((1 : Int) + n1 + n2 + n3) := by
  unfold laws_heldQuiet.f
  simp only [heldIntS_eq n1 h1 1 (by omega) (by omega) k hk, Option.bind_some, if_neg (by omega : ¬ (1 + (n1 : Int) < 0)), heldIntS_eq n2 h2 (1 + n1) (by omega) (by omega) k hk, if_neg (by omega : ¬ (1 + (n1 : Int) + n2 < 0)), heldIntS_eq n3 h3 (1 + n1 + n2) (by omega) (by omega) k hk, if_neg (by omega : ¬ (1 + (n1 : Int) + n2 + n3 < 0))]

theorem l1In_eq (a b c : Int) : spec_l1In.f a b c = some (decide (b ≤ a) && decide (a ≤ c)) := by
  unfold spec_l1In.f
  by_cases h : b ≤ a <;> simp [h]
theorem from_eq (a b c : Int) : impl_from.f a b c = some (decide (b ≤ a) && decide (a ≤ c)) := by
  unfold impl_from.f
  by_cases h : b ≤ a <;> simp [h]
end Go.Proofs.Ytajlknkplpohlaa.Pure
