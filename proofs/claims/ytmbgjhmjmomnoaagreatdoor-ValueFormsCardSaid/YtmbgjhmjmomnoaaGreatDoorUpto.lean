/-
  The loop of the laws over scripts: where plays answers true at each call of the kinds asked for, UpTo answers true.
-/
import Derived.Test.YtmbgjhmjmomnoaaGreatDoorOpr
import Derived.Test.YtmbgjhmjmomnoaaGreatDoorOpw
import Derived.Deep.LoopGhost
import Derived.Test.YtmbgjhmjmomnoaaGreatDoorPValueFormsx0
namespace Go.Proofs.YtmbgjhmjmomnoaaGreatDoor.Va
open Go.RowKit Go.Proofs.YtmbgjhmjmomnoaaGreatDoorW.PrintWords

/-- What the laws ask of plays at the kinds from lo to hi. -/
def Plays (P : Op1 → Prop) (lo hi : Int) : Prop := ∀ (o : Op1) (w : World), P o → lo ≤ o.k → o.k ≤ hi → Tabs w → Calls Tryz.prog 15 #[o.val] w fun e w' => e = .returned (.bool true) ∧ Below w.heap.size w w'

set_option maxRecDepth 100000 in
set_option maxHeartbeats 1600000 in
theorem upto_any (P : Op1 → Prop) (lo hi : Int) (hp : Plays P lo hi) (bk off len cap : Nat) (F : Nat → Op1) (w : World) (hlen : (len : Int) ≤ 9223372036854775807) (hbk : bk < w.heap.size)
    (hP : ∀ i, i < len → P (F i)) (hc : ∀ i, i < len → OpAt w bk (off + i * 19) (F i)) (hT : Tabs w) :
    Calls Tryz.prog 14 #[.slice (some ⟨bk, off, none⟩) len cap, .int .i64 lo, .int .i64 hi] w fun e w' => e = .returned (.bool true) ∧ Below w.heap.size w w' := by
  have HP := Lib.hid hp
  clear hp
  go_enter Tryz.func14, Tryz.ntmps14
  go_wp2_with fail
  go_loopw [7] (fun i wr => (∃ k : Nat, k ≤ len ∧ i = .int .i64 k) ∧ Below w.heap.size w wr) (fun i _ => len - (intOf i).toNat)
  case atStart => exact ⟨⟨0, by omega, rfl⟩, Below.refl _ _⟩
  case round =>
    obtain ⟨⟨k, hk, rfl⟩, hB⟩ := hrel
    by_cases hlt : k < len
    · have hT1 := hT.below hB
      have hcell := (hc k hlt).below hB hbk
      have hPk := hP k hlt
      generalize F k = o at *
      have hrg := Lib.hid hcell.range
      have c0 := hcell.all.1
      have hlo := HP.out o wr hPk
      clear hcell hc hP hPk
      generalize o.k = k0 at *
      unfold Op1.val at hlo
      by_cases h1 : lo ≤ k0
      · by_cases h2 : k0 ≤ hi
        · have H := Lib.hid (hlo h1 h2 hT1)
          clear hlo
          go_wp2_with (first | ((with_reducible refine gate_dst (N := 34) rfl ?_); refine wpList_load_mid rfl 35 _ rfl _ _ rfl o.cells.toList _ hrg.out Tryz.underlying35 rfl op_info ?_; dsimp only) | (go_at_call 15; refine (H.out).mono ?_; rintro e w1 ⟨rfl, hb1⟩))
          have hB1 := keepB hB hb1 hB.size
          go_roundw
          case rel => exact ⟨⟨k + 1, by omega, by go_num⟩, hB1⟩
          case measure => simp [intOf]; omega
        · go_wp2_with fail
          go_roundw
          case rel => exact ⟨⟨k + 1, by omega, by go_num⟩, hB⟩
          case measure => simp [intOf]; omega
      · go_wp2_with fail
        go_roundw
        case rel => exact ⟨⟨k + 1, by omega, by go_num⟩, hB⟩
        case measure => simp [intOf]; omega
    · go_wp2_with fail
      go_ret
      exact ⟨rfl, hB⟩

theorem upto_none (lo hi : Int) (A : Option Addr) (cap : Nat) (w : World) : Calls Tryz.prog 14 #[.slice A 0 cap, .int .i64 lo, .int .i64 hi] w fun e w' => e = .returned (.bool true) ∧ Below w.heap.size w w' := by
  go_enter Tryz.func14, Tryz.ntmps14
  go_wp2_with fail
  go_loopw [7] (fun i wr => i = .int .i64 0 ∧ Below w.heap.size w wr) (fun i _ => 0)
  case atStart => exact ⟨rfl, Below.refl _ _⟩
  case round =>
    obtain ⟨rfl, hB⟩ := hrel
    go_wp2_with fail
    go_ret
    exact ⟨rfl, hB⟩
end Go.Proofs.YtmbgjhmjmomnoaaGreatDoor.Va
