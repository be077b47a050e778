/-
  The document's point: it tells what the model's decoder tells.
-/
import Derived.Test.YtmbgjhmjmomnoaaGreatDoorPValueFormsx1
import Derived.Lib.DecodeN
import Derived.Lib.ValidU
namespace Go.Proofs.YtmbgjhmjmomnoaaGreatDoor.Va
open Go.RowKit Go.Proofs.YtmbgjhmjmomnoaaGreatDoor.PValueForms Go.Proofs.YtmbgjhmjmomnoaaGreatDoorW.PrintWords

theorem bt_get (s : ByteArray) (i : Nat) (h : i < s.size) : bt s (i : Int) = ((s.get! i).toNat : Int) := by
  obtain ⟨d⟩ := s
  have h' : i < d.size := h
  have e : (i : Int).toNat = i := by omega
  unfold bt
  simp only [e]
  rw [dif_pos h]
  show ((d[i]'h').toNat : Int) = ((d[i]!).toNat : Int)
  rw [getElem!_pos d i h']

theorem l0_step (k : Nat) (s : ByteArray) (i j : Nat) (c n low : Int) (hs : s.size ≤ 1099511627776) (hi : i + j < s.size) (hj : (j : Int) < n) (hj3 : j ≤ 3) (hc : 0 ≤ c ∧ c ≤ 1073741824) :
    trellisref1_point.l0 (k + 1) s i c n low j = if 128 ≤ bt s ((i + j : Nat) : Int) ∧ bt s ((i + j : Nat) : Int) < 192 then trellisref1_point.l0 k s i (c * 64 + bt s ((i + j : Nat) : Int) - 128) n low ((j + 1 : Nat) : Int) else some (0, 0) := by
  have hb := bt_range s ((i + j : Nat) : Int)
  simp only [trellisref1_point.l0]
  rw [if_pos hj]
  have e : wrap64 ((i : Int) + (j : Int)) = ((i + j : Nat) : Int) := by unfold wrap64; omega
  rw [e, if_pos (by omega), if_pos (by omega)]
  generalize bt s ((i + j : Nat) : Int) = b at *
  have eb : wrap64 b = b := by unfold wrap64; omega
  have e1 : wrap64 (c * 64) = c * 64 := by unfold wrap64; omega
  have e2 : wrap64 (c * 64 + b) = c * 64 + b := by unfold wrap64; omega
  have e3 : wrap64 (c * 64 + b - 128) = c * 64 + b - 128 := by unfold wrap64; omega
  have e4 : wrap64 ((j : Int) + 1) = ((j + 1 : Nat) : Int) := by unfold wrap64; omega
  rw [eb, e1, e2, e3, e4]
  by_cases g1 : b < 128
  · rw [if_pos g1, if_neg (by omega)]
  · rw [if_neg g1]
    by_cases g2 : b ≥ 192
    · rw [if_pos g2, if_neg (by omega)]
    · rw [if_neg g2, if_pos (by omega)]
theorem l0_end (k : Nat) (s : ByteArray) (i : Int) (c n low : Int) :
    trellisref1_point.l0 (k + 1) s i c n low n = if c < low ∨ c > 1114111 ∨ (55296 ≤ c ∧ c < 57344) then some (0, 0) else some (c, n) := by
  simp only [trellisref1_point.l0]
  rw [if_neg (by omega)]
  by_cases g1 : c < low
  · rw [if_pos g1, if_pos (.inl g1)]
  · rw [if_neg g1]
    by_cases g2 : c > 1114111
    · rw [if_pos g2, if_pos (.inr (.inl g2))]
    · rw [if_neg g2]
      by_cases g3 : c ≥ 55296
      · rw [if_pos g3]
        by_cases g4 : c < 57344
        · rw [if_pos g4, if_pos (.inr (.inr ⟨g3, g4⟩))]
        · rw [if_neg g4, if_neg (by omega)]
      · rw [if_neg g3, if_neg (by omega)]

/-- What the document's point makes of the decoder's answer. -/
def ptOf (d : Nat × Nat) : Int × Int := if d.1 = 65533 ∧ d.2 = 1 then (0, 0) else ((d.1 : Int), (d.2 : Int))

theorem point_is (s : ByteArray) (hs : s.size ≤ 1099511627776) (i : Nat) (hi : i < s.size) (k : Nat) : trellisref1_point.f (k + 10) s i = some (ptOf (Utf8.decode s i)) := by
  rw [Lib.decode_at]
  have r0 : ((s.get! i).toNat : Int) < 256 := by have := (s.get! i).toNat_lt; omega
  have q0 := bt_get s i hi
  have q1 := fun h => bt_get s (i + 1) h
  have q2 := fun h => bt_get s (i + 2) h
  have q3 := fun h => bt_get s (i + 3) h
  have r1 := (s.get! (i + 1)).toNat_lt
  have r2 := (s.get! (i + 2)).toNat_lt
  have r3 := (s.get! (i + 3)).toNat_lt
  generalize (s.get! i).toNat = b0 at *
  generalize (s.get! (i + 1)).toNat = b1 at *
  generalize (s.get! (i + 2)).toNat = b2 at *
  generalize (s.get! (i + 3)).toNat = b3 at *
  simp only [trellisref1_point.f]
  rw [if_pos (by omega), if_pos (by omega), q0]
  have e0 : wrap64 (b0 : Int) = (b0 : Int) := by unfold wrap64; omega
  rw [e0]
  have eb : ∀ n : Int, 0 ≤ n → n ≤ 4 → wrap64 ((i : Int) + n) = (i : Int) + n := fun n h1 h2 => by unfold wrap64; omega
  by_cases h1 : b0 < 128
  · rw [if_pos (by omega)]
    simp only [Lib.decodeN, if_pos h1, ptOf]
    rw [if_neg (by omega)]; rfl
  rw [if_neg (by omega)]
  by_cases h2 : b0 < 192
  · rw [if_neg (by omega)]
    rw [show trellisref1_point.j0 (k + 10) s i b0 false = trellisref1_point.j1 (k + 9) s i b0 false by simp only [trellisref1_point.j0]; rw [if_neg (by simp), if_neg (by omega)]]
    rw [show trellisref1_point.j1 (k + 9) s i b0 false = some (0, 0) by simp only [trellisref1_point.j1]; rw [if_neg (by simp), if_neg (by omega)]]
    simp only [Lib.decodeN, if_neg h1]
    rw [if_neg (by omega), if_neg (by omega), if_neg (by omega)]; rfl
  rw [if_pos (by omega)]
  simp only [trellisref1_point.j0]
  by_cases h3 : b0 < 224
  · rw [decide_eq_true (by omega), if_pos rfl]
    have ew : wrap64 ((b0 : Int) - 192) = (b0 : Int) - 192 := by unfold wrap64; omega
    simp only [trellisref1_point.j2, ew, eb 2 (by omega) (by omega)]
    by_cases g : (i : Int) + 2 > (s.size : Int)
    · rw [if_pos g]
      simp only [Lib.decodeN, if_neg h1]
      rw [if_neg (by omega), if_neg (by omega), if_neg (by omega)]; rfl
    · rw [if_neg g]
      have l1 := l0_step (k + 7) s i 1 ((b0 : Int) - 192) 2 128 hs (by omega) (by omega) (by omega) (by omega)
      rw [show (1 : Int) = ((1 : Nat) : Int) from rfl, l1, q1 (by omega)]
      by_cases c1 : 128 ≤ (b1 : Int) ∧ (b1 : Int) < 192
      · rw [if_pos c1, show (((1 + 1 : Nat) : Int)) = 2 from rfl, l0_end]
        generalize hz : ((b0 : Int) - 192) * 64 + (b1 : Int) - 128 = z
        by_cases v : z < 128 ∨ z > 1114111 ∨ (55296 ≤ z ∧ z < 57344)
        · rw [if_pos v]
          simp only [Lib.decodeN, if_neg h1]
          rw [if_pos (by omega), if_neg (by omega)]; rfl
        · rw [if_neg v]
          simp only [Lib.decodeN, if_neg h1]
          rw [if_pos (by omega), if_pos (by omega)]
          simp only [ptOf]
          rw [if_neg (by omega)]
          refine congrArg some (Prod.ext ?_ rfl)
          show _ = ((_ : Nat) : Int)
          omega
      · rw [if_neg c1]
        simp only [Lib.decodeN, if_neg h1]
        rw [if_neg (by omega), if_neg (by omega), if_neg (by omega)]; rfl
  rw [decide_eq_false (by omega), if_neg (by simp), if_pos (by omega)]
  simp only [trellisref1_point.j1]
  by_cases h4 : b0 < 240
  · rw [decide_eq_true (by omega), if_pos rfl]
    have ew : wrap64 ((b0 : Int) - 224) = (b0 : Int) - 224 := by unfold wrap64; omega
    simp only [trellisref1_point.j2, ew, eb 3 (by omega) (by omega)]
    by_cases g : (i : Int) + 3 > (s.size : Int)
    · rw [if_pos g]
      simp only [Lib.decodeN, if_neg h1]
      rw [if_neg (by omega), if_neg (by omega), if_neg (by omega)]; rfl
    · rw [if_neg g]
      have l1 := l0_step (k + 6) s i 1 ((b0 : Int) - 224) 3 2048 hs (by omega) (by omega) (by omega) (by omega)
      rw [show (1 : Int) = ((1 : Nat) : Int) from rfl, l1, q1 (by omega)]
      by_cases c1 : 128 ≤ (b1 : Int) ∧ (b1 : Int) < 192
      · rw [if_pos c1, l0_step (k + 5) s i 2 _ 3 2048 hs (by omega) (by omega) (by omega) (by omega), q2 (by omega)]
        by_cases c2 : 128 ≤ (b2 : Int) ∧ (b2 : Int) < 192
        · rw [if_pos c2, show (((2 + 1 : Nat) : Int)) = 3 from rfl, l0_end]
          generalize hz : (((b0 : Int) - 224) * 64 + (b1 : Int) - 128) * 64 + (b2 : Int) - 128 = z
          by_cases v : z < 2048 ∨ z > 1114111 ∨ (55296 ≤ z ∧ z < 57344)
          · rw [if_pos v]
            simp only [Lib.decodeN, if_neg h1]
            rw [if_neg (by omega), if_pos (by omega), if_neg (by omega)]; rfl
          · rw [if_neg v]
            simp only [Lib.decodeN, if_neg h1]
            rw [if_neg (by omega), if_pos (by omega), if_pos (by omega)]
            simp only [ptOf]
            rw [if_neg (by omega)]
            refine congrArg some (Prod.ext ?_ rfl)
            show _ = ((_ : Nat) : Int)
            omega
        · rw [if_neg c2]
          simp only [Lib.decodeN, if_neg h1]
          rw [if_neg (by omega), if_neg (by omega), if_neg (by omega)]; rfl
      · rw [if_neg c1]
        simp only [Lib.decodeN, if_neg h1]
        rw [if_neg (by omega), if_neg (by omega), if_neg (by omega)]; rfl
  rw [decide_eq_false (by omega), if_neg (by simp), if_pos (by omega)]
  by_cases h5 : b0 < 248
  · rw [if_pos (by omega)]
    have ew : wrap64 ((b0 : Int) - 240) = (b0 : Int) - 240 := by unfold wrap64; omega
    simp only [trellisref1_point.j2, ew, eb 4 (by omega) (by omega)]
    by_cases g : (i : Int) + 4 > (s.size : Int)
    · rw [if_pos g]
      simp only [Lib.decodeN, if_neg h1]
      rw [if_neg (by omega), if_neg (by omega), if_neg (by omega)]; rfl
    · rw [if_neg g]
      have l1 := l0_step (k + 6) s i 1 ((b0 : Int) - 240) 4 65536 hs (by omega) (by omega) (by omega) (by omega)
      rw [show (1 : Int) = ((1 : Nat) : Int) from rfl, l1, q1 (by omega)]
      by_cases c1 : 128 ≤ (b1 : Int) ∧ (b1 : Int) < 192
      · rw [if_pos c1, l0_step (k + 5) s i 2 _ 4 65536 hs (by omega) (by omega) (by omega) (by omega), q2 (by omega)]
        by_cases c2 : 128 ≤ (b2 : Int) ∧ (b2 : Int) < 192
        · rw [if_pos c2, l0_step (k + 4) s i 3 _ 4 65536 hs (by omega) (by omega) (by omega) (by omega), q3 (by omega)]
          by_cases c3 : 128 ≤ (b3 : Int) ∧ (b3 : Int) < 192
          · rw [if_pos c3, show (((3 + 1 : Nat) : Int)) = 4 from rfl, l0_end]
            generalize hz : ((((b0 : Int) - 240) * 64 + (b1 : Int) - 128) * 64 + (b2 : Int) - 128) * 64 + (b3 : Int) - 128 = z
            by_cases v : z < 65536 ∨ z > 1114111 ∨ (55296 ≤ z ∧ z < 57344)
            · rw [if_pos v]
              simp only [Lib.decodeN, if_neg h1]
              rw [if_neg (by omega), if_neg (by omega), if_pos (by omega), if_neg (by omega)]; rfl
            · rw [if_neg v]
              simp only [Lib.decodeN, if_neg h1]
              rw [if_neg (by omega), if_neg (by omega), if_pos (by omega), if_pos (by omega)]
              simp only [ptOf]
              rw [if_neg (by omega)]
              refine congrArg some (Prod.ext ?_ rfl)
              show _ = ((_ : Nat) : Int)
              omega
          · rw [if_neg c3]
            simp only [Lib.decodeN, if_neg h1]
            rw [if_neg (by omega), if_neg (by omega), if_neg (by omega)]; rfl
        · rw [if_neg c2]
          simp only [Lib.decodeN, if_neg h1]
          rw [if_neg (by omega), if_neg (by omega), if_neg (by omega)]; rfl
      · rw [if_neg c1]
        simp only [Lib.decodeN, if_neg h1]
        rw [if_neg (by omega), if_neg (by omega), if_neg (by omega)]; rfl
  · rw [if_neg (by omega)]
    simp only [Lib.decodeN, if_neg h1]
    rw [if_neg (by omega), if_neg (by omega), if_neg (by omega)]; rfl
end Go.Proofs.YtmbgjhmjmomnoaaGreatDoor.Va
