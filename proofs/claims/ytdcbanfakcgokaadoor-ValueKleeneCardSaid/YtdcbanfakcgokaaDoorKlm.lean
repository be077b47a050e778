/-
  The law ValueKleene: every call returns true and leaves what was there as it was.
-/
import Derived.Test.YtdcbanfakcgokaaDoorKlnn
import Derived.Test.YtdcbanfakcgokaaDoorKlnf
import Derived.Test.YtdcbanfakcgokaaDoorKlnt
import Derived.Test.YtdcbanfakcgokaaDoorKlfn
import Derived.Test.YtdcbanfakcgokaaDoorKlff
import Derived.Test.YtdcbanfakcgokaaDoorKlft
import Derived.Test.YtdcbanfakcgokaaDoorKltn
import Derived.Test.YtdcbanfakcgokaaDoorKltf
import Derived.Test.YtdcbanfakcgokaaDoorKltt
namespace Go.Proofs.YtdcbanfakcgokaaDoor.Va
open Go.RowKit

def lit3 (n : Int) : Value := if n = 0 then (.agg #[.int .i64 1, .int .i64 0, .int .i64 0, .string ByteArray.empty]) else if n = 1 then (.agg #[.int .i64 1, .int .i64 1, .int .i64 0, .string ByteArray.empty]) else (.agg #[.int .i64 0, .int .i64 0, .int .i64 0, .string ByteArray.empty])
theorem lthree_any (n : Int) (h : n = 0 ∨ n = 1 ∨ n = 2) (w : World) : Calls Tryd.prog 27 #[.int .i64 n] w (Ans (lit3 n) w) := by
  rcases h with rfl | rfl | rfl
  · exact lthree_0 w
  · exact lthree_1 w
  · exact lthree_2 w
theorem kleene_any (n m : Int) (hn : n = 0 ∨ n = 1 ∨ n = 2) (hm : m = 0 ∨ m = 1 ∨ m = 2) (w : World) : Calls Tryd.prog 26 #[lit3 n, lit3 m] w (Ans (.bool true) w) := by
  rcases hn with rfl | rfl | rfl <;> rcases hm with rfl | rfl | rfl
  · exact kleene_ff w
  · exact kleene_ft w
  · exact kleene_fn w
  · exact kleene_tf w
  · exact kleene_tt w
  · exact kleene_tn w
  · exact kleene_nf w
  · exact kleene_nt w
  · exact kleene_nn w

theorem tmod9 (f : Int) : -9 < f.tmod 9 ∧ f.tmod 9 < 9 := by
  have h : ∀ g : Int, 0 ≤ g → 0 ≤ g.tmod 9 ∧ g.tmod 9 < 9 := fun g hg => by
    rw [Int.tmod_eq_emod_of_nonneg hg]; omega
  by_cases h0 : 0 ≤ f
  · have := h f h0; omega
  · have h1 := h (-f) (by omega)
    rw [Int.neg_tmod] at h1
    omega

set_option maxRecDepth 100000 in
set_option maxHeartbeats 1600000 in
theorem walk_kleene (f : Int) (w : World) (_hf0 : -9223372036854775808 ≤ f) (_hf1 : f ≤ 9223372036854775807) :
    Calls Tryd.prog 7 #[.int .i64 f] w fun e w' => e = .returned (.bool true) ∧ Below w.heap.size w w' := by
  obtain ⟨hr0, hr1⟩ := tmod9 f
  generalize hr : f.tmod 9 = r at hr0 hr1
  have Hr := Lib.hid hr
  clear hr
  go_enter Tryd.func7, Tryd.ntmps7
  go_wp2_with fail
  go_loopw [3] (fun i wr => (∃ k : Nat, k ≤ 9 ∧ i = .int .i64 k) ∧ Below w.heap.size w wr) (fun i _ => 9 - (intOf i).toNat)
  case atStart => exact ⟨⟨0, by omega, rfl⟩, Below.refl _ _⟩
  case round =>
    obtain ⟨⟨k, hk, rfl⟩, hB⟩ := hrel
    by_cases hlt : k < 9
    · have e1 : f.tmod 9 = r := Hr.out
      have hm : 0 ≤ ((k : Int) + r) % 9 ∧ ((k : Int) + r) % 9 < 9 := by omega
      go_wp2_with fail
      refine (lthree_any _ (by omega) _).mono ?_
      rintro e w1 ⟨rfl, hb1⟩
      go_wp2_with fail
      refine (lthree_any _ (by omega) _).mono ?_
      rintro e w2 ⟨rfl, hb2⟩
      go_wp2_with fail
      refine (kleene_any _ _ (by omega) (by omega) _).mono ?_
      rintro e w3 ⟨rfl, hb3⟩
      have hB3 : Below w.heap.size w w3 := (hB.trans (hb1.mono hB.size)).trans ((hb2.mono (Nat.le_trans hB.size hb1.size)).trans (hb3.mono (Nat.le_trans hB.size (Nat.le_trans hb1.size hb2.size))))
      go_wp2_with fail
      go_roundw
      case rel => exact ⟨⟨k + 1, by omega, by go_num⟩, hB3⟩
      case measure => simp [intOf]; omega
    · go_wp2_with fail
      go_ret
      exact ⟨rfl, hB⟩
end Go.Proofs.YtdcbanfakcgokaaDoor.Va
