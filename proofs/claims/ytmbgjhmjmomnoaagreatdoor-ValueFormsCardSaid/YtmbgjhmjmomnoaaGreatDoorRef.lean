/-
  The document's Valid, Storable tell of every api.Val what package value's tell.
-/
import Derived.Test.YtmbgjhmjmomnoaaGreatDoorVal
import Derived.Test.YtmbgjhmjmomnoaaGreatDoorU8q
import Derived.Test.YtmbgjhmjmomnoaaGreatDoorPValueFormsx2
import Derived.Test.YtmbgjhmjmomnoaaGreatDoorPValueFormsx4
namespace Go.Proofs.YtmbgjhmjmomnoaaGreatDoor.Va
open Go.RowKit Go.Proofs.YtmbgjhmjmomnoaaGreatDoor.PValueForms Go.Proofs.YtmbgjhmjmomnoaaGreatDoorW.PrintWords

theorem eqB_parts (k a b : Int) (s : ByteArray) (a' b' : Int) (s' : ByteArray) : V.eqB ⟨k, a, b, s⟩ ⟨k, a', b', s'⟩ = (decide (a = a') && (decide (b = b') && decide (s = s'))) := by
  unfold V.eqB
  by_cases h1 : a = a' <;> by_cases h2 : b = b' <;> by_cases h3 : s = s' <;> simp [h1, h2, h3]
theorem emp_eq (s : ByteArray) : (s.toList == ([] : List UInt8)) = decide (ByteArray.empty = s) := by
  have h := bytes_eq ByteArray.empty s
  have e : ByteArray.empty.toList = [] := by rw [ByteArray.toList_eq]; rfl
  rw [e] at h
  by_cases hs : ByteArray.empty = s
  · rw [decide_eq_true hs, ← hs, e]; rfl
  · rw [decide_eq_false hs]
    rw [h] at hs
    cases hl : s.toList with
    | nil => exact absurd hl.symm hs
    | cons x l => rfl

theorem part_is (n : Int) : trellisref1_part.f n = some (decide (-33554432 ≤ n ∧ n ≤ 33554432)) := by
  unfold trellisref1_part.f
  by_cases h : n ≥ -33554432
  · rw [if_pos h]
    by_cases h2 : n ≤ 33554432
    · rw [decide_eq_true h2, decide_eq_true ⟨h, h2⟩]
    · rw [decide_eq_false h2, decide_eq_false (fun h' => h2 h'.2)]
  · rw [if_neg h, decide_eq_false (fun h' => h h'.1)]

theorem dec_symm (a b : Int) : decide (a = b) = decide (b = a) := by
  by_cases h : a = b
  · rw [decide_eq_true h, decide_eq_true h.symm]
  · rw [decide_eq_false h, decide_eq_false (fun h' => h h'.symm)]

theorem two_zero (a b : Int) (t : Bool) : (if a = 0 then (if b = 0 then some t else some false) else some false) = some (decide (0 = a) && (decide (0 = b) && t)) := by
  by_cases h1 : a = 0 <;> by_cases h2 : b = 0 <;> simp [h1, h2, eq_comm]
theorem one_zero (b : Int) (t : Bool) : (if b = 0 then some t else some false) = some (decide (0 = b) && t) := by
  by_cases h2 : b = 0 <;> simp [h2, eq_comm]

theorem ref_valid (x : V) (k : Nat) (hk : 50 ≤ k) : trellisref1_Valid.f k x.k x.a x.b x.s = some x.ok := by
  obtain ⟨n, a, b, s⟩ := x
  unfold trellisref1_Valid.f V.ok V.dat
  dsimp only
  rw [emp_eq]
  by_cases h0 : n = 0
  · rw [if_pos h0, if_pos h0, two_zero]
    subst h0
    show _ = some (V.eqB ⟨0, 0, 0, _⟩ _)
    rw [eqB_parts]
  rw [if_neg h0, if_neg h0]
  by_cases h1 : n = 1
  · rw [if_pos h1, if_pos h1]
    subst h1
    by_cases ha : a = 1
    · subst ha
      rw [if_neg (by decide), if_pos rfl, one_zero]
      show _ = some (V.eqB ⟨1, 1, 0, _⟩ _)
      rw [eqB_parts]
      rfl
    · have hb : (a == 1) = false := by simpa using ha
      rw [if_neg ha, hb]
      show _ = some (V.eqB ⟨1, 0, 0, _⟩ _)
      rw [eqB_parts, two_zero]
  rw [if_neg h1, if_neg h1]
  by_cases h2 : n = 2
  · rw [if_pos h2, if_pos h2, one_zero]
    subst h2
    show _ = some (V.eqB ⟨2, a, 0, _⟩ _)
    rw [eqB_parts, decide_eq_true rfl, Bool.true_and]
  rw [if_neg h2, if_neg h2]
  by_cases h3 : n = 3
  · rw [if_pos h3, if_pos h3, part_is, part_is, Option.bind_some]
    subst h3
    by_cases ha : -33554432 ≤ a ∧ a ≤ 33554432
    · rw [decide_eq_true ha, if_pos rfl, Option.bind_some]
      by_cases hb : -33554432 ≤ b ∧ b ≤ 33554432
      · rw [decide_eq_true hb, if_pos rfl, if_pos ⟨ha, hb⟩]
        show _ = some (V.eqB ⟨3, a, b, _⟩ _)
        rw [eqB_parts, decide_eq_true rfl, decide_eq_true rfl, Bool.true_and, Bool.true_and]
      · rw [decide_eq_false hb, if_neg (by decide), if_neg (fun h => hb h.2)]
    · rw [decide_eq_false ha, if_neg (by decide), if_neg (fun h => ha h.1)]
  rw [if_neg h3, if_neg h3]
  by_cases h4 : n = 4
  · rw [if_pos h4, if_pos h4]
    subst h4
    by_cases hs : s.size ≤ 32
    · rw [if_pos (show (s.size : Int) ≤ 32 by omega)]
      have hp := points_is s (by omega) k (by omega)
      by_cases hv : Lib.validD s.data.toList = true
      · rw [if_pos hv] at hp
        obtain ⟨r, hr⟩ := hp
        rw [hr, Option.bind_some, if_pos (show s.size ≤ 32 ∧ Lib.validD s.data.toList = true from ⟨hs, hv⟩), decide_eq_true (show (r : Int) ≥ 0 by omega), two_zero]
        show _ = some (V.eqB ⟨4, 0, 0, s⟩ _)
        rw [eqB_parts, decide_eq_true (rfl : s = s)]
      · rw [if_neg hv] at hp
        rw [hp, Option.bind_some, if_neg (show ¬ (s.size ≤ 32 ∧ Lib.validD s.data.toList = true) from fun h => hv h.2), decide_eq_false (by decide), two_zero]
        simp
    · rw [if_neg (show ¬ (s.size : Int) ≤ 32 by omega), if_neg (show ¬ (s.size ≤ 32 ∧ Lib.validD s.data.toList = true) from fun h => hs h.1)]
      simp
  rw [if_neg h4, if_neg h4]
  by_cases h5 : n = 5
  · rw [if_pos h5, if_pos h5]
    subst h5
    by_cases ha : a = 0
    · rw [if_pos ha, if_pos ha]
    · rw [if_neg ha, if_neg ha, one_zero]
      show _ = some (V.eqB ⟨5, a, 0, _⟩ _)
      rw [eqB_parts, decide_eq_true rfl, Bool.true_and]
  rw [if_neg h5, if_neg h5]
  by_cases h6 : n = 6
  · rw [if_pos h6, if_pos h6]
    subst h6
    by_cases ha : a = 0
    · rw [if_pos ha, if_pos ha]
    · rw [if_neg ha, if_neg ha, one_zero]
      show _ = some (V.eqB ⟨6, a, 0, _⟩ _)
      rw [eqB_parts, decide_eq_true rfl, Bool.true_and]
  rw [if_neg h6, if_neg h6]

theorem ref_storable (x : V) (k : Nat) (hk : 50 ≤ k) : trellisref1_Storable.f k x.k x.a x.b x.s = some x.stor := by
  unfold trellisref1_Storable.f V.stor
  rw [ref_valid x k hk, Option.bind_some]
  cases x.ok with
  | false => rw [if_neg (by decide), Bool.and_false]
  | true =>
    rw [if_pos rfl, Bool.and_true]
    by_cases h1 : x.k ≥ 1
    · rw [if_pos h1]
      by_cases h2 : x.k ≤ 4
      · rw [decide_eq_true h2, decide_eq_true ⟨h1, h2⟩]
      · rw [decide_eq_false h2, decide_eq_false (fun h => h2 h.2)]
    · rw [if_neg h1, decide_eq_false (fun h => h1 h.1)]

theorem rvalid_any (x : V) (w : World) : Calls Tryz.prog 34 #[x.v] w fun e w' => e = .returned (.bool x.ok) ∧ Below w.heap.size w w' :=
  trellisref1_Valid.calls 50 x.k x.a x.b x.s x.ok w (ref_valid x 50 (by omega))
theorem rstorable_any (x : V) (w : World) : Calls Tryz.prog 40 #[x.v] w fun e w' => e = .returned (.bool x.stor) ∧ Below w.heap.size w w' :=
  trellisref1_Storable.calls 50 x.k x.a x.b x.s x.stor w (ref_storable x 50 (by omega))
end Go.Proofs.YtmbgjhmjmomnoaaGreatDoor.Va
