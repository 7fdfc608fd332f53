/- The plain laws of chapter 27's ConfGet: what the printed functions compute. -/
import Derived.Test.YtoejimenfcincaaQx2
import Derived.Test.YtoejimenfcincaaQx5
import Derived.Test.YtoejimenfcincaaQx8
import Derived.Test.YtoejimenfcincaaQx3
import Derived.Test.YtoejimenfcincaaQx6
import Derived.Test.YtoejimenfcincaaGen
namespace Go.Proofs.Ytoejimenfcincaa.Pure
open Go.RowKit Go.Proofs.Ytoejimenfcincaa.Q Go.Proofs.Ytoejimenfcincaa.Gen Go.Proofs.YtoejimenfcincaaW.PrintWords Go.Proofs.YtoejimenfcincaaW.PrintLast

theorem rd36 (l : List S36) (i : Nat) (h : i < l.length) : rd_T36 l (i : Int) = l[i] := by simp [rd_T36, h]
theorem rd37 (l : List S37) (i : Nat) (h : i < l.length) : rd_T37 l (i : Int) = l[i] := by simp [rd_T37, h]

/-- The sizes: told at all; and where they fit, all are small. -/
theorem sz_l0 (l : List S36) (hb : l.length ≤ 9223372036854775806) (hs : ∀ y ∈ l, y.f0.size ≤ maxLen) : ∀ d k (i : Nat) (L : Int), l.length = i + d → d < k → 0 ≤ L → L ≤ 1048576 →
    ∃ r, laws_szSettingS.l0 k l L (i : Int) = some r ∧ (0 ≤ r → r ≤ L ∧ ∀ y ∈ l.drop i, (y.f0.size : Int) ≤ L) := by
  intro d
  induction d with
  | zero =>
    intro k i L h hk h0 h1
    obtain ⟨k, rfl⟩ : ∃ m, k = m + 1 := ⟨k - 1, by omega⟩
    refine ⟨L, by rw [laws_szSettingS.l0, if_neg (by omega)], fun _ => ⟨by omega, fun y hy => ?_⟩⟩
    rw [List.drop_eq_nil_of_le (by omega)] at hy
    simp at hy
  | succ d ih =>
    intro k i L h hk h0 h1
    obtain ⟨k, rfl⟩ : ∃ m, k = m + 1 := ⟨k - 1, by omega⟩
    have hm := hs l[i] (List.getElem_mem _)
    unfold maxLen at hm
    rw [laws_szSettingS.l0, if_pos (by omega), if_pos (by omega), rd36 l i (by omega), laws_szSetting.f, w64 _ (by omega) (by omega)]
    by_cases c : L - (l[i].f0.size : Int) < 0
    · exact ⟨-1, by rw [if_pos c]; rfl, fun h => by omega⟩
    · rw [if_neg c]
      simp only [Option.bind_some]
      rw [if_neg c, w64n i (by omega)]
      obtain ⟨r, hr, hq⟩ := ih k (i + 1) (L - (l[i].f0.size : Int)) (by omega) (by omega) (by omega) (by omega)
      refine ⟨r, hr, fun h => ?_⟩
      obtain ⟨q1, q2⟩ := hq h
      refine ⟨by omega, fun y hy => ?_⟩
      rw [List.drop_eq_getElem_cons (by omega : i < l.length)] at hy
      rcases List.mem_cons.1 hy with rfl | hy
      · omega
      · have := q2 y hy
        omega
theorem sz_eq (l : List S36) (hb : l.length ≤ 9223372036854775807) (hs : ∀ y ∈ l, y.f0.size ≤ maxLen) (k : Nat) (hk : l.length < k) :
    ∃ r, laws_szSettingS.f k l 1048576 = some r ∧ (0 ≤ r → l.length ≤ 1048576 ∧ ∀ y ∈ l, y.f0.size ≤ 1048576) := by
  unfold laws_szSettingS.f
  rw [w64 _ (by omega) (by omega)]
  by_cases c : (1048576 : Int) - (l.length : Int) < 0
  · exact ⟨-1, by rw [if_pos c], fun h => by omega⟩
  · rw [if_neg c]
    obtain ⟨r, hr, hq⟩ := sz_l0 l (by omega) hs l.length k 0 (1048576 - (l.length : Int)) (by omega) hk (by omega) (by omega)
    refine ⟨r, hr, fun h => ⟨by omega, fun y hy => ?_⟩⟩
    have := (hq h).2 y (by simpa using hy)
    omega

def cv (s : S36) : S37 := ⟨s.f0, s.f1⟩
theorem toSettingS_eq (l : List S36) (h : l.length ≤ 1048576) (k : Nat) (hk : l.length < k) : laws_toSettingS.f k l = some (l.map cv) := by
  unfold laws_toSettingS.f
  rw [if_pos (by omega), if_pos (by omega)]
  have := copyLoop l cv (fun k out i => laws_toSettingS.l0 k l out i) (fun k out i hi hl => by
      show laws_toSettingS.l0 (k + 1) l out i = _
      rw [laws_toSettingS.l0, if_pos (by omega), if_pos (by omega), rd36 l i hi, laws_toSetting.f]
      simp only [Option.bind_some]
      rw [if_pos (by omega), w64n i (by omega)]
      rfl) (fun k out hl => by
      show laws_toSettingS.l0 (k + 1) l out _ = _
      rw [laws_toSettingS.l0, if_neg (by omega)]) k (List.replicate ((l.length : Int) : Int).toNat z37) hk (by simp)
  exact this
theorem eqSettingS_eq (l : List S37) (h : l.length ≤ 2097152) (k : Nat) (hk : l.length < k) : laws_eqSettingS.f k l l = some true := by
  unfold laws_eqSettingS.f
  rw [if_pos rfl]
  have key : ∀ d k (i : Nat), l.length = i + d → d < k → laws_eqSettingS.l0 k l l (i : Int) = some true := by
    intro d
    induction d with
    | zero =>
      intro k i h hk
      obtain ⟨k, rfl⟩ : ∃ m, k = m + 1 := ⟨k - 1, by omega⟩
      rw [laws_eqSettingS.l0, if_neg (by omega)]
    | succ d ih =>
      intro k i h hk
      obtain ⟨k, rfl⟩ : ∃ m, k = m + 1 := ⟨k - 1, by omega⟩
      rw [laws_eqSettingS.l0, if_pos (by omega), if_pos (by omega), if_pos (by omega), laws_eqSetting.f, if_pos rfl, if_pos rfl]
      simp only [Option.bind_some, if_true]
      rw [w64n i (by omega)]
      exact ih k (i + 1) (by omega) (by omega)
  exact key l.length k 0 (by omega) hk

def confGet : List S37 → ByteArray → Int → Int
  | [], _, o => o
  | x :: xs, key, o => if x.f0.toList = key.toList then x.f1 else confGet xs key o
theorem spec_confGet (l : List S37) (key : ByteArray) (o : Int) (h : l.length ≤ 2097152) (k : Nat) (hk : l.length < k) : spec_ConfGet.f k l key o = some (confGet l key o) := by
  unfold spec_ConfGet.f
  have go : ∀ d k (i : Nat), l.length = i + d → d < k → spec_ConfGet.l0 k l key o (i : Int) = some (confGet (l.drop i) key o) := by
    intro d
    induction d with
    | zero =>
      intro k i h hk
      obtain ⟨k, rfl⟩ : ∃ m, k = m + 1 := ⟨k - 1, by omega⟩
      rw [spec_ConfGet.l0, if_neg (by omega), List.drop_eq_nil_of_le (by omega)]
      rfl
    | succ d ih =>
      intro k i h hk
      obtain ⟨k, rfl⟩ : ∃ m, k = m + 1 := ⟨k - 1, by omega⟩
      rw [spec_ConfGet.l0, if_pos (by omega), if_pos (by omega), rd37 l i (by omega), List.drop_eq_getElem_cons (by omega : i < l.length), confGet, w64n i (by omega), ih k (i + 1) (by omega) (by omega)]
      split <;> rfl
  simpa using go l.length k 0 (by omega) hk
theorem impl_confGet (l : List S37) (key : ByteArray) (o : Int) (h : l.length ≤ 2097152) (k : Nat) (hk : l.length < k) : impl_ConfGet.f k l key o = some (confGet l key o) := by
  unfold impl_ConfGet.f
  have go : ∀ d k (i : Nat), l.length = i + d → d < k → impl_ConfGet.l0 k key o l (l.length : Int) (i : Int) = some (confGet (l.drop i) key o) := by
    intro d
    induction d with
    | zero =>
      intro k i h hk
      obtain ⟨k, rfl⟩ : ∃ m, k = m + 1 := ⟨k - 1, by omega⟩
      rw [impl_ConfGet.l0, if_neg (by omega), List.drop_eq_nil_of_le (by omega)]
      rfl
    | succ d ih =>
      intro k i h hk
      obtain ⟨k, rfl⟩ : ∃ m, k = m + 1 := ⟨k - 1, by omega⟩
      rw [impl_ConfGet.l0, if_pos (by omega), if_pos (by omega), if_pos (by omega), rd37 l i (by omega), List.drop_eq_getElem_cons (by omega : i < l.length), confGet, w64n i (by omega), ih k (i + 1) (by omega) (by omega)]
      split <;> rfl
  simpa using go l.length k 0 (by omega) hk
end Go.Proofs.Ytoejimenfcincaa.Pure
