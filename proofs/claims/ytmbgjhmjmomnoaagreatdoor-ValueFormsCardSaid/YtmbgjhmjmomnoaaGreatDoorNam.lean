/-
  Package value's Name and the document's Name tell the same of every string.
-/
import Derived.Test.YtmbgjhmjmomnoaaGreatDoorVal
import Derived.Test.YtmbgjhmjmomnoaaGreatDoorPValueFormsx4
import Derived.Test.YtmbgjhmjmomnoaaGreatDoorPValueFormsx5
namespace Go.Proofs.YtmbgjhmjmomnoaaGreatDoor.Va
open Go.RowKit Go.Proofs.YtmbgjhmjmomnoaaGreatDoor.PValueForms Go.Proofs.YtmbgjhmjmomnoaaGreatDoorW.PrintWords

/-- A byte that a name may hold. -/
def inName (c : Int) : Prop := (48 ≤ c ∧ c ≤ 57) ∨ (97 ≤ c ∧ c ≤ 122)
/-- What such a byte counts. -/
def digit (c : Int) : Int := if 48 ≤ c ∧ c ≤ 57 then c - 47 else if 97 ≤ c ∧ c ≤ 122 then c - 86 else 0
theorem digit_zero (c : Int) : digit c = 0 ↔ ¬ inName c := by 
  unfold digit inName
  split
  · omega
  · split <;> omega

theorem digitOf_is (k : Nat) (c : Int) (h0 : 0 ≤ c) (h1 : c ≤ 255) : value_digitOf.f (k + 1) c = some (digit c) := by
  unfold value_digitOf.f digit
  by_cases a : c ≥ 48
  · rw [if_pos a]
    simp only [value_digitOf.j0]
    by_cases b : c ≤ 57
    · rw [decide_eq_true b, if_pos rfl, if_pos ⟨a, b⟩]
      congr 1; omega
    · rw [decide_eq_false b, if_neg (by decide)]
      rw [if_neg (show ¬ (48 ≤ c ∧ c ≤ 57) from fun h => b h.2)]
      by_cases d : c ≥ 97
      · rw [if_pos d]
        by_cases e : c ≤ 122
        · rw [if_pos e, if_pos (show 97 ≤ c ∧ c ≤ 122 from ⟨d, e⟩)]
          congr 1; omega
        · rw [if_neg e, if_neg (show ¬ (97 ≤ c ∧ c ≤ 122) from fun h => e h.2)]
      · rw [if_neg d, if_neg (show ¬ (97 ≤ c ∧ c ≤ 122) from fun h => d h.1)]
  · rw [if_neg a]
    simp only [value_digitOf.j0]
    rw [if_neg (by decide), if_neg (show ¬ c ≥ 97 by omega), if_neg (show ¬ (48 ≤ c ∧ c ≤ 57) by omega), if_neg (show ¬ (97 ≤ c ∧ c ≤ 122) by omega)]

/-- From place i on a string holds nothing that a name may not hold. -/
def goodFrom (s : ByteArray) (i : Nat) : Prop := ∀ j : Nat, i ≤ j → j < s.size → inName (bt s (j : Int))
noncomputable def goodB (s : ByteArray) (i : Nat) : Bool := @decide (goodFrom s i) (Classical.propDecidable _)
theorem goodB_end (s : ByteArray) (i : Nat) (h : s.size ≤ i) : goodB s i = true := by
  exact @decide_eq_true _ (Classical.propDecidable _) (fun j h1 h2 => by omega)
theorem goodB_yes (s : ByteArray) (i : Nat) (hg : inName (bt s (i : Int))) : goodB s i = goodB s (i + 1) := by
  have e : goodFrom s i = goodFrom s (i + 1) := propext ⟨fun h j h1 h2 => h j (by omega) h2, fun h j h1 h2 => by
    by_cases e : j = i
    · subst e; exact hg
    · exact h j (by omega) h2⟩
  unfold goodB
  rw [e]
theorem goodB_no (s : ByteArray) (i : Nat) (hi : i < s.size) (hg : ¬ inName (bt s (i : Int))) : goodB s i = false := by
  exact @decide_eq_false _ (Classical.propDecidable _) (fun h => hg (h i (Nat.le_refl _) hi))

theorem vname_loop (s : ByteArray) (hs : s.size ≤ 8) : ∀ (n i k : Nat), s.size - i ≤ n → i ≤ s.size → n + 2 ≤ k → value_Name.l0 k s (s.size : Int) (i : Int) = some (goodB s i) := by
  intro n
  induction n with
  | zero =>
    intro i k h1 h2 h3
    obtain ⟨k, rfl⟩ : ∃ m, k = m + 1 := ⟨k - 1, by omega⟩
    simp only [value_Name.l0]
    rw [if_neg (by omega), goodB_end s i (by omega)]
  | succ n ih =>
    intro i k h1 h2 h3
    obtain ⟨k, rfl⟩ : ∃ m, k = m + 1 + 1 := ⟨k - 2, by omega⟩
    rw [value_Name.l0]
    by_cases hi : i < s.size
    · have hb := bt_range s (i : Int)
      rw [if_pos (by omega), if_pos (by omega), if_pos (by omega), digitOf_is k _ (by omega) (by omega), Option.bind_some]
      by_cases hg : inName (bt s (i : Int))
      · rw [if_neg (fun h => (digit_zero _).1 h hg), goodB_yes s i hg]
        have e : wrap64 ((i : Int) + 1) = ((i + 1 : Nat) : Int) := by unfold wrap64; omega
        rw [e]
        clear e hb
        exact ih (i + 1) (k + 1) (by omega) (by omega) (by omega)
      · rw [if_pos ((digit_zero _).2 hg), goodB_no s i hi hg]
    · rw [if_neg (by omega), goodB_end s i (by omega)]

theorem rname_loop (s : ByteArray) (hs : s.size ≤ 8) : ∀ (n i k : Nat), s.size - i ≤ n → i ≤ s.size → n + 2 ≤ k → trellisref1_Name.l0 k s (i : Int) = some (goodB s i) := by
  intro n
  induction n with
  | zero =>
    intro i k h1 h2 h3
    obtain ⟨k, rfl⟩ : ∃ m, k = m + 1 := ⟨k - 1, by omega⟩
    simp only [trellisref1_Name.l0]
    rw [if_neg (by omega), goodB_end s i (by omega)]
  | succ n ih =>
    intro i k h1 h2 h3
    obtain ⟨k, rfl⟩ : ∃ m, k = m + 1 := ⟨k - 1, by omega⟩
    rw [trellisref1_Name.l0]
    by_cases hi : i < s.size
    · rw [if_pos (by omega), if_pos (by omega)]
      have hn : trellisref1_Name.l0 k s (wrap64 ((i : Int) + 1)) = some (goodB s (i + 1)) := by
        have e : wrap64 ((i : Int) + 1) = ((i + 1 : Nat) : Int) := by unfold wrap64; omega
        rw [e]
        clear e
        exact ih (i + 1) k (by omega) (by omega) (by omega)
      rw [hn]
      clear hn ih
      have gy := goodB_yes s i
      have gn := goodB_no s i hi
      generalize bt s (i : Int) = c at *
      generalize goodB s (i + 1) = r at *
      unfold inName at gy gn
      by_cases a : c ≥ 97
      · rw [if_pos a, if_pos (by omega)]
        by_cases b : c ≤ 122
        · rw [if_pos b, gy (.inr ⟨a, b⟩)]
        · rw [if_neg b, if_neg (by omega), gn (by omega)]
      · rw [if_neg a]
        by_cases b : c ≥ 48
        · rw [if_pos b]
          by_cases d : c ≤ 57
          · rw [if_pos d, gy (.inl ⟨b, d⟩)]
          · rw [if_neg d, gn (by omega)]
        · rw [if_neg b, gn (by omega)]
    · rw [if_neg (by omega), goodB_end s i (by omega)]

/-- Is it a name? -/
noncomputable def nameB (s : ByteArray) : Bool := decide (1 ≤ s.size ∧ s.size ≤ 8) && (decide (97 ≤ bt s 0 ∧ bt s 0 ≤ 122) && goodB s 0)

theorem vname_is (s : ByteArray) : value_Name.f 20 s = some (nameB s) := by
  unfold value_Name.f nameB
  by_cases h1 : (s.size : Int) < 1
  · rw [if_pos h1, decide_eq_false (by omega), Bool.false_and]
    simp only [value_Name.j0, if_true]
  rw [if_neg h1]
  by_cases h2 : (s.size : Int) > 8
  · rw [if_pos h2, decide_eq_false (by omega), Bool.false_and]
    simp only [value_Name.j0, if_true]
  have hb := bt_range s 0
  rw [if_neg h2, if_pos (by omega), digitOf_is 19 _ (by omega) (by omega), Option.bind_some, decide_eq_true (show 1 ≤ s.size ∧ s.size ≤ 8 by omega), Bool.true_and]
  have hl := vname_loop s (by omega) s.size 0 19 (by omega) (by omega) (by omega)
  have gn := goodB_no s 0 (by omega)
  rw [show ((0 : Nat) : Int) = 0 from rfl] at hl gn
  simp only [value_Name.j0]
  rw [hl]
  generalize bt s 0 = c at *
  generalize goodB s 0 = r at *
  unfold inName at gn
  by_cases ha : digit c ≤ 10
  · rw [decide_eq_true ha, if_pos rfl]
    unfold digit at ha
    by_cases hc : 97 ≤ c ∧ c ≤ 122
    · rw [if_neg (by omega), if_pos hc] at ha; omega
    · rw [decide_eq_false hc, Bool.false_and]
  · rw [decide_eq_false ha, if_neg (by decide)]
    unfold digit at ha
    by_cases hc : 97 ≤ c ∧ c ≤ 122
    · rw [decide_eq_true hc, Bool.true_and]
    · exfalso
      apply ha
      rw [if_neg hc]
      split <;> omega

theorem rname_is (s : ByteArray) : trellisref1_Name.f 20 s = some (nameB s) := by
  unfold trellisref1_Name.f nameB
  by_cases h1 : (s.size : Int) < 1
  · rw [if_pos h1, decide_eq_false (by omega), Bool.false_and]
    simp only [trellisref1_Name.j0, if_true]
  rw [if_neg h1]
  by_cases h2 : (s.size : Int) > 8
  · rw [if_pos h2, decide_eq_false (by omega), Bool.false_and]
    simp only [trellisref1_Name.j0, if_true]
  rw [if_neg h2, if_pos (by omega), decide_eq_true (show 1 ≤ s.size ∧ s.size ≤ 8 by omega), Bool.true_and]
  have hl := rname_loop s (by omega) s.size 0 19 (by omega) (by omega) (by omega)
  have gn := goodB_no s 0 (by omega)
  rw [show ((0 : Nat) : Int) = 0 from rfl] at hl gn
  simp only [trellisref1_Name.j0]
  rw [hl]
  generalize bt s 0 = c at *
  generalize goodB s 0 = r at *
  unfold inName at gn
  by_cases ha : c < 97
  · rw [decide_eq_true ha, if_pos rfl, decide_eq_false (by omega), Bool.false_and]
  · rw [decide_eq_false ha, if_neg (by decide)]
    by_cases hc : c ≤ 122
    · rw [decide_eq_true (by omega), Bool.true_and]
    · rw [decide_eq_false (by omega), Bool.false_and, gn (by omega)]

theorem vname_any (s : ByteArray) (w : World) : Calls Tryz.prog 41 #[.string s] w fun e w' => e = .returned (.bool (nameB s)) ∧ Below w.heap.size w w' :=
  (value_Name.calls 20 s _ w (vname_is s)).mono fun _ _ h => ⟨h.1, h.2.below⟩
theorem rname_any (s : ByteArray) (w : World) : Calls Tryz.prog 42 #[.string s] w fun e w' => e = .returned (.bool (nameB s)) ∧ Below w.heap.size w w' :=
  (trellisref1_Name.calls 20 s _ w (rname_is s)).mono fun _ _ h => ⟨h.1, h.2.below⟩
end Go.Proofs.YtmbgjhmjmomnoaaGreatDoor.Va
