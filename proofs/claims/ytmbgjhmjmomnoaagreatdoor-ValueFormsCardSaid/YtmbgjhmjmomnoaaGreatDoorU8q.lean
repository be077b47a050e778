/-
  The document's points: 0 or more just where utf8.ValidString answers true.
-/
import Derived.Test.YtmbgjhmjmomnoaaGreatDoorU8p
import Derived.Lib.MapLaws
namespace Go.Proofs.YtmbgjhmjmomnoaaGreatDoor.Va
open Go.RowKit Go.Proofs.YtmbgjhmjmomnoaaGreatDoor.PValueForms Go.Proofs.YtmbgjhmjmomnoaaGreatDoorW.PrintWords

theorem points_from (s : ByteArray) (hs : s.size ≤ 1099511627776) : ∀ (n i c k : Nat), i ≤ s.size → s.size - i ≤ n → c ≤ i → n + 12 ≤ k →
    if Lib.validGoD n (s.data.toList.drop i) = true then ∃ r : Nat, trellisref1_points.l0 k s c i = some (r : Int) else trellisref1_points.l0 k s c i = some (-1) := by
  intro n
  induction n with
  | zero =>
    intro i c k hi hn hc hk
    obtain ⟨k, rfl⟩ : ∃ m, k = m + 1 := ⟨k - 1, by omega⟩
    rw [if_pos (show Lib.validGoD 0 (s.data.toList.drop i) = true from rfl)]
    refine ⟨c, ?_⟩
    simp only [trellisref1_points.l0]
    rw [if_neg (by omega)]
  | succ n ih =>
    intro i c k hi hn hc hk
    obtain ⟨k, rfl⟩ : ∃ m, k = m + 1 := ⟨k - 1, by omega⟩
    have hsz := Lib.size_eq s
    by_cases hlt : i < s.size
    · have hne : s.data.toList.drop i ≠ [] := by
        intro h
        have := congrArg List.length h
        simp only [List.length_drop, List.length_nil] at this
        omega
      have hp : trellisref1_point.f k s i = some (ptOf (Utf8.decode s i)) := by
        have := point_is s hs i hlt (k - 10)
        rwa [show k - 10 + 10 = k by omega] at this
      have hd := Lib.decodeL_drop s i
      have hle := Lib.decodeL_le _ hne
      have hw := Lib.decodeL_width (s.data.toList.drop i)
      rw [hd] at hle hw
      simp only [List.length_drop] at hle
      simp only [Lib.validGoD, if_neg hne, hd, List.drop_drop]
      rw [show trellisref1_points.l0 (k + 1) s c i = ((trellisref1_point.f k s i).bind fun bt109 => (if bt109.2 = 0 then (some (-1)) else (trellisref1_points.l0 k s (wrap64 ((c : Int) + 1)) (wrap64 ((i : Int) + bt109.2))))) by
        simp only [trellisref1_points.l0]; rw [if_pos (by omega)]]
      rw [hp, Option.bind_some]
      obtain ⟨d, hd2⟩ : ∃ d, Utf8.decode s i = d := ⟨_, rfl⟩
      rw [hd2]
      rw [hd2] at hle hw
      clear hd2 hp hd hne
      obtain ⟨r, n0⟩ := d
      by_cases hv : r = 65533 ∧ n0 = 1
      · have hpt : ptOf (r, n0) = (0, 0) := if_pos hv
        rw [hpt, if_pos (show (r, n0).1 = 65533 ∧ (r, n0).2 = 1 from hv), if_neg (show ¬ (false = true) by decide)]
        exact if_pos rfl
      · have hpt : ptOf (r, n0) = ((r : Int), (n0 : Int)) := if_neg hv
        rw [hpt, if_neg (show ¬ ((r, n0).1 = 65533 ∧ (r, n0).2 = 1) from hv)]
        dsimp only at hle hw ⊢
        rw [if_neg (show ¬ ((n0 : Int) = 0) by omega)]
        have e1 : wrap64 ((c : Int) + 1) = ((c + 1 : Nat) : Int) := by unfold wrap64; omega
        have e2 : wrap64 ((i : Int) + (n0 : Int)) = ((i + n0 : Nat) : Int) := by unfold wrap64; omega
        rw [e1, e2]
        clear e1 e2 hpt hv
        exact ih (i + n0) (c + 1) k (by omega) (by omega) (by omega) (by omega)
    · have he : s.data.toList.drop i = [] := List.drop_eq_nil_of_le (by omega)
      simp only [Lib.validGoD, he, if_pos]
      refine ⟨c, ?_⟩
      simp only [trellisref1_points.l0]
      rw [if_neg (by omega)]

theorem points_is (s : ByteArray) (hs : s.size ≤ 1099511627776) (k : Nat) (hk : s.size + 12 ≤ k) :
    if Lib.validD s.data.toList = true then ∃ r : Nat, trellisref1_points.f k s = some (r : Int) else trellisref1_points.f k s = some (-1) := by
  have h := points_from s hs s.size 0 0 k (by omega) (by omega) (by omega) hk
  rw [List.drop_zero] at h
  have e : s.data.toList.length = s.size := (Lib.size_eq s).symm
  unfold Lib.validD
  rw [e]
  exact h
end Go.Proofs.YtmbgjhmjmomnoaaGreatDoor.Va
